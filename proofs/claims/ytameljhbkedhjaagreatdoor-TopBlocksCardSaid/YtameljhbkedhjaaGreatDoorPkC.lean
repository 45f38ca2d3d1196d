/- Part 3 of the proof of RowTopBlocks: what it is built on, in the order of its needs. -/
import Derived.Test.YtameljhbkedhjaaGreatDoorPkB
namespace Go.Proofs.YtameljhbkedhjaaGreatDoor
open Go Go.Vc Go.Proofs
set_option linter.unusedVariables false
set_option maxHeartbeats 4000000
def inflate_Decoder_head.an : Ann := (.seq (.reg (.op 0 [] .nil)) (.seq (.reg (.op 0 [] (.op 1 [] (.op 2 [] (.op 3 [] (.op 4 [] (.op 5 [] (.op 6 [] (.op 7 [] (.op 8 [] .nil)))))))))) (.seq (.seq (.reg (.op 0 [] (.op 1 [] .nil))) (.cond (.seq (.reg (.op 0 [] (.op 1 [] .nil))) .leaf) .leaf)) (.cut [4] [2, 4, 15, 16, 17, 18, 19, 20, 21, 22, 23, 24, 25, 26, 27, 28, 29, 30, 31, 32, 33, 34, 35, 36, 37, 38, 39, 40, 41, 42, 43, 44, 45, 46, 47, 48, 49, 50, 51, 52, 53, 54, 55, 56, 57, 58, 59, 60, 61, 62, 63, 64, 65] (.seq (.reg (.op 0 [] (.op 1 [] .nil))) (.block (.seq (.reg (.op 0 [] (.op 1 [] .nil))) (.cond (.seq (.reg (.op 0 [] (.op 1 [] (.op 2 [] (.op 3 [] (.op 4 [] (.op 5 [] (.op 6 [] (.op 7 [] (.op 8 [] (.op 9 [] (.op 10 [] (.op 11 [] .nil))))))))))))) (.reg (.op 0 [] (.op 1 [] (.op 2 [] (.op 3 [] .nil)))))) (.seq (.reg (.op 0 [] (.op 1 [] .nil))) (.cond (.seq (.reg (.op 0 [] (.op 1 [] (.op 2 [] (.op 3 [] (.op 4 [] (.op 5 [] (.op 6 [] (.op 7 [] (.op 8 [] (.op 9 [] (.op 10 [] (.op 11 [] .nil))))))))))))) (.reg (.op 0 [] (.op 1 [] (.op 2 [] (.op 3 [] .nil)))))) (.seq (.reg (.op 0 [] (.op 1 [] .nil))) (.cond (.seq (.reg (.op 0 [] (.op 1 [] (.op 2 [] (.op 3 [] (.op 4 [] (.op 5 [] (.op 6 [] (.op 7 [] (.op 8 [] (.op 9 [] (.op 10 [] (.op 11 [] (.op 12 [] (.op 13 [] (.op 14 [] (.op 15 [] (.op 16 [] .nil)))))))))))))))))) (.reg (.op 0 [] (.op 1 [] (.op 2 [] (.op 3 [] .nil)))))) (.seq (.reg (.op 0 [] .nil)) .leaf))))))))) (.seq (.reg (.op 0 [] (.op 1 [] (.op 2 [] (.op 3 [] (.op 4 [] (.op 5 [] (.op 6 [] .nil)))))))) (.seq (.reg (.op 0 [] (.op 1 [] .nil))) .leaf))))))
def inflate_Decoder_head.res (d0 : Value) (H0 : Heap) (R : Value → Heap → Prop) : Prop :=
 pNil d0 fun x7 =>
 pFieldAddr 0 x7 fun x8 =>
 CallsH Tryz.prog 84 #[x8, (.int .i64 3)] H0 fun x9 H_1 =>
 pExtract 0 x9 fun x10 =>
 pExtract 1 x9 fun x11 =>
 pNe 0 x11 (.int .i64 0) fun x13 =>
 pCond x13
 (R x11 H_1)
 (∃ J_2 : Value → Heap → Prop, (∀ _ : Env, ∀ e4 : Value, ∀ H_3 : Heap, J_2 e4 H_3 →
 pBits .and x10 (.int .i64 1) fun x68 =>
 pEq 0 x68 (.int .i64 1) fun x69 =>
 pNil d0 fun x70 =>
 pFieldAddr 8 x70 fun x71 =>
 pStore H_3 x71 x69 fun _ H_4 =>
 R e4 H_4) ∧
 pShr x10 (.int .u64 1) fun x16 =>
 pEq 0 x16 (.int .i64 0) fun x18 =>
 pCond x18
 (pNil d0 fun x22 =>
 pFieldAddr 0 x22 fun x23 =>
 CallsH Tryz.prog 85 #[x23] H_1 fun x24 H_5 =>
 pExtract 0 x24 fun x25 =>
 pExtract 1 x24 fun x26 =>
 pNil d0 fun x27 =>
 pFieldAddr 9 x27 fun x28 =>
 pStore H_5 x28 x25 fun _ H_6 =>
 pNil d0 fun x30 =>
 pFieldAddr 7 x30 fun x31 =>
 pStore H_6 x31 (.int .i64 1) fun _ H_7 =>
 J_2 x26 H_7)
 (pEq 0 x16 (.int .i64 1) fun x33 =>
 pCond x33
 (CallsH Tryz.prog 86 #[] H_1 fun x37 H_8 =>
 pExtract 0 x37 fun x38 =>
 pExtract 1 x37 fun x39 =>
 pNil d0 fun x40 =>
 pFieldAddr 10 x40 fun x41 =>
 pStore H_8 x41 x38 fun _ H_9 =>
 pNil d0 fun x42 =>
 pFieldAddr 11 x42 fun x43 =>
 pStore H_9 x43 x39 fun _ H_10 =>
 pNil d0 fun x45 =>
 pFieldAddr 7 x45 fun x46 =>
 pStore H_10 x46 (.int .i64 2) fun _ H_11 =>
 J_2 x11 H_11)
 (pEq 0 x16 (.int .i64 2) fun x48 =>
 pCond x48
 (pNil d0 fun x53 =>
 pFieldAddr 0 x53 fun x54 =>
 CallsH Tryz.prog 87 #[x54] H_1 fun x55 H_12 =>
 pExtract 0 x55 fun x56 =>
 pExtract 1 x55 fun x57 =>
 pExtract 2 x55 fun x58 =>
 pNil d0 fun x59 =>
 pFieldAddr 10 x59 fun x60 =>
 pStore H_12 x60 x56 fun _ H_13 =>
 pNil d0 fun x61 =>
 pFieldAddr 11 x61 fun x62 =>
 pStore H_13 x62 x57 fun _ H_14 =>
 pNil d0 fun x64 =>
 pFieldAddr 7 x64 fun x65 =>
 pStore H_14 x65 (.int .i64 2) fun _ H_15 =>
 J_2 x58 H_15)
 (R (.int .i64 3) H_1))))
set_option maxRecDepth 100000 in
theorem inflate_Decoder_head.vc (d0 : Value) (H0 : Heap) (R : Value → Heap → Prop) (h : inflate_Decoder_head.res d0 H0 R) : CallsH Tryz.prog 60 #[d0] H0 R := by
  have e : vcFn Tryz.prog Tryz.C Tryz.f60 inflate_Decoder_head.an [d0] H0 R = inflate_Decoder_head.res d0 H0 R := by kernel_rfl
  exact vcFn_sound Tryz.callable Tryz.mixed Tryz.func60 (by kernel_rfl) (e.mpr h)
def inflate_Decoder_copied.an : Ann := (.seq (.reg (.op 0 [] .nil)) (.seq (.drw [0, 1, 3, 0, 8, 24, 56, 127, 255] (.op 0 [] (.op 1 [] (.op 2 [] (.op 3 [] (.op 4 [] (.op 5 [] (.op 6 [] (.op 7 [] (.op 8 [] .nil)))))))))) (.seq (.reg (.op 0 [] (.op 1 [] (.op 2 [] (.op 3 [] (.op 4 [] (.op 5 [] (.op 6 [] (.op 7 [] (.op 8 [] (.op 9 [] .nil))))))))))) (.seq (.reg (.op 0 [] (.op 1 [] (.op 2 [] (.op 3 [] (.op 4 [] .nil)))))) (.seq (.reg (.op 0 [] (.op 1 [] (.op 2 [] (.op 3 [] (.op 4 [] .nil)))))) (.seq (.seq (.reg (.op 0 [] (.op 1 [] (.op 2 [] (.op 3 [] (.op 4 [] .nil)))))) (.cond (.seq (.reg (.op 0 [] .nil)) .leaf) .leaf)) (.seq (.reg (.op 0 [] (.op 1 [] .nil))) (.seq (.reg (.op 0 [] .nil)) .leaf))))))))
def inflate_Decoder_copied.res (d0 : Value) (H0 : Heap) (R : Value → Heap → Prop) : Prop :=
 pNil d0 fun x5 =>
 pFieldAddr 0 x5 fun x6 =>
 pNil d0 fun x8 =>
 pFieldAddr 9 x8 fun x9 =>
 pLoad H0 x9 fun x10 =>
 CallsH Tryz.prog 75 #[x6, x10] H0 fun x11 H_1 =>
 pNil d0 fun x13 =>
 pFieldAddr 9 x13 fun x14 =>
 pLoad H_1 x14 fun x15 =>
 pLenS x11 fun x17 =>
 pSub x15 x17 fun x18 =>
 pNil d0 fun x19 =>
 pFieldAddr 9 x19 fun x20 =>
 pStore H_1 x20 x18 fun _ H_2 =>
 pNil d0 fun x22 =>
 pFieldAddr 3 x22 fun x23 =>
 CallsH Tryz.prog 88 #[x23, x11] H_2 fun x25 H_3 =>
 pNil d0 fun x27 =>
 pFieldAddr 5 x27 fun x28 =>
 CallsH Tryz.prog 89 #[x28, x11] H_3 fun x30 H_4 =>
 pNil d0 fun x32 =>
 pFieldAddr 9 x32 fun x33 =>
 pLoad H_4 x33 fun x34 =>
 pGt x34 (.int .i64 0) fun x35 =>
 pCond x35
 (R (.int .i64 2) H_4)
 (CallsH Tryz.prog 90 #[d0] H_4 fun x37 H_5 =>
 R (.int .i64 0) H_5)
set_option maxRecDepth 100000 in
theorem inflate_Decoder_copied.vc (d0 : Value) (H0 : Heap) (R : Value → Heap → Prop) (h : inflate_Decoder_copied.res d0 H0 R) : CallsH Tryz.prog 61 #[d0] H0 R := by
  have e : vcFn Tryz.prog Tryz.C Tryz.f61 inflate_Decoder_copied.an [d0] H0 R = inflate_Decoder_copied.res d0 H0 R := by kernel_rfl
  exact vcFn_sound Tryz.callable Tryz.mixed Tryz.func61 (by kernel_rfl) (e.mpr h)
def inflate_Decoder_symbol.an : Ann := (.seq (.reg (.op 0 [] .nil)) (.seq (.drw [0, 1, 3, 7, 0, 16, 48, 127, 255, 511, 511, 1023, 4095] (.op 0 [] (.op 1 [] (.op 2 [] (.op 3 [] (.op 4 [] (.op 5 [] (.op 6 [] (.op 7 [] (.op 8 [] (.op 9 [] (.op 10 [] (.op 11 [] (.op 12 [] .nil)))))))))))))) (.seq (.block (.seq (.reg (.op 0 [] (.op 1 [] (.op 2 [] .nil)))) (.cond (.seq (.reg (.op 0 [] (.op 1 [] .nil))) .leaf) (.seq (.reg (.op 0 [] (.op 1 [] (.op 2 [] .nil)))) (.cond (.seq (.reg (.op 0 [] (.op 1 [] .nil))) (.seq (.reg (.op 0 [] .nil)) .leaf)) (.seq (.reg (.op 0 [] (.op 1 [] (.op 2 [] .nil)))) (.cond (.seq (.reg (.op 0 [] (.op 1 [] (.op 2 [] (.op 3 [] .nil))))) .leaf) .leaf))))))) (.seq (.reg (.op 0 [] (.op 1 [] (.op 2 [] (.op 3 [] (.op 4 [] (.op 5 [] .nil))))))) (.seq (.reg (.op 0 [] (.op 1 [] (.op 2 [] (.op 3 [] (.op 4 [] (.op 5 [] .nil))))))) (.seq (.reg (.op 0 [] .nil)) .leaf))))))
def inflate_Decoder_symbol.res (d0 : Value) (H0 : Heap) (R : Value → Heap → Prop) : Prop :=
 pNil d0 fun x7 =>
 pFieldAddr 10 x7 fun x8 =>
 pLoad H0 x8 fun x9 =>
 pNil d0 fun x11 =>
 pFieldAddr 0 x11 fun x12 =>
 CallsH Tryz.prog 18 #[x9, x12] H0 fun x13 H_1 =>
 pExtract 0 x13 fun x14 =>
 pExtract 1 x13 fun x15 =>
 pNe 0 x15 (.int .i64 0) fun x18 =>
 pCond x18
 (R x15 H_1)
 (pEq 0 x14 (.int .i64 256) fun x22 =>
 pCond x22
 (CallsH Tryz.prog 90 #[d0] H_1 fun x24 H_2 =>
 R (.int .i64 0) H_2)
 (pGt x14 (.int .i64 256) fun x27 =>
 pCond x27
 (CallsH Tryz.prog 91 #[d0, x14] H_1 fun x30 H_3 =>
 R x30 H_3)
 (pNil d0 fun x32 =>
 pFieldAddr 3 x32 fun x33 =>
 pConv .u8 x14 fun x35 =>
 CallsH Tryz.prog 92 #[x33, x35] H_1 fun x36 H_4 =>
 pNil d0 fun x38 =>
 pFieldAddr 5 x38 fun x39 =>
 pConv .u8 x14 fun x41 =>
 CallsH Tryz.prog 93 #[x39, x41] H_4 fun x42 H_5 =>
 R (.int .i64 0) H_5)))
set_option maxRecDepth 100000 in
theorem inflate_Decoder_symbol.vc (d0 : Value) (H0 : Heap) (R : Value → Heap → Prop) (h : inflate_Decoder_symbol.res d0 H0 R) : CallsH Tryz.prog 62 #[d0] H0 R := by
  have e : vcFn Tryz.prog Tryz.C Tryz.f62 inflate_Decoder_symbol.an [d0] H0 R = inflate_Decoder_symbol.res d0 H0 R := by kernel_rfl
  exact vcFn_sound Tryz.callable Tryz.mixed Tryz.func62 (by kernel_rfl) (e.mpr h)
def inflate_need.an : Ann := (.seq (.reg (.op 0 [] (.op 1 [] .nil))) (.seq (.reg (.op 0 [] (.op 1 [] (.op 2 [] (.op 3 [] (.op 4 [] (.op 5 [] (.op 6 [] (.op 7 [] .nil))))))))) (.seq (.seq (.reg (.op 0 [] (.op 1 [] .nil))) (.cond (.seq (.reg (.op 0 [] (.op 1 [] .nil))) .leaf) .leaf)) (.seq (.reg (.op 0 [] (.op 1 [] (.op 2 [] (.op 3 [] .nil))))) .leaf))))
def inflate_need.res (r0 : Value) (n1 : Value) (H0 : Heap) (R : Value → Heap → Prop) : Prop :=
 CallsH Tryz.prog 45 #[r0, n1] H0 fun x11 H_1 =>
 pExtract 0 x11 fun x12 =>
 pExtract 1 x11 fun x13 =>
 pNot x13 fun x15 =>
 pCond x15
 (R (.tuple #[(.int .i64 0), (.int .i64 2)]) H_1)
 (pConv .i64 x12 fun x17 =>
 R (.tuple #[x17, (.int .i64 0)]) H_1)
set_option maxRecDepth 100000 in
theorem inflate_need.vc (r0 : Value) (n1 : Value) (H0 : Heap) (R : Value → Heap → Prop) (h : inflate_need.res r0 n1 H0 R) : CallsH Tryz.prog 84 #[r0, n1] H0 R := by
  have e : vcFn Tryz.prog Tryz.C Tryz.f84 inflate_need.an [r0, n1] H0 R = inflate_need.res r0 n1 H0 R := by kernel_rfl
  exact vcFn_sound Tryz.callable Tryz.mixed Tryz.func84 (by kernel_rfl) (e.mpr h)
def inflate_storedLength.an : Ann := (.seq (.reg (.op 0 [] (.op 1 [] .nil))) (.seq (.reg (.op 0 [] (.op 1 [] .nil))) (.seq (.reg (.op 0 [] (.op 1 [] (.op 2 [] (.op 3 [] (.op 4 [] (.op 5 [] (.op 6 [] .nil)))))))) (.cut [5] [5, 13, 14, 15, 16, 17, 18, 19, 20, 21, 22] (.seq (.reg (.op 0 [] (.op 1 [] (.op 2 [] (.grp 2 (.op 3 [] (.op 4 [] (.op 5 [] (.op 6 [] (.op 7 [] (.op 8 [] .nil)))))) 9 .nil))))) (.cond (.reg (.op 0 [] .nil)) .leaf)) (.seq (.reg (.op 0 [] (.op 1 [] (.op 2 [] (.op 3 [] (.op 4 [] .nil)))))) .leaf)))))
def inflate_storedLength.res (r0 : Value) (H0 : Heap) (R : Value → Heap → Prop) : Prop :=
 CallsH Tryz.prog 99 #[r0] H0 fun x7 H_1 =>
 CallsH Tryz.prog 84 #[r0, (.int .i64 32)] H_1 fun x10 H_2 =>
 pExtract 0 x10 fun x11 =>
 pExtract 1 x10 fun x12 =>
 ∃ J_3 : Value → Heap → Prop, (∀ _ : Env, ∀ e5 : Value, ∀ H_4 : Heap, J_3 e5 H_4 →
 pBits .and x11 (.int .i64 65535) fun x24 =>
 R (.tuple #[x24, e5]) H_4) ∧
 pEq 0 x12 (.int .i64 0) fun x14 =>
 pAnd x14 (fun J_5 =>
 pBits .and x11 (.int .i64 65535) fun x17 =>
 pShr x11 (.int .u64 16) fun x19 =>
 pBits .xor x17 x19 fun x20 =>
 pNe 0 x20 (.int .i64 65535) fun x21 =>
 J_5 x21 H_2) H_2 fun x22 H_6 => ∀ _ : Env,
 pCond x22
 (J_3 (.int .i64 8) H_6)
 (J_3 x12 H_6)
set_option maxRecDepth 100000 in
theorem inflate_storedLength.vc (r0 : Value) (H0 : Heap) (R : Value → Heap → Prop) (h : inflate_storedLength.res r0 H0 R) : CallsH Tryz.prog 85 #[r0] H0 R := by
  have e : vcFn Tryz.prog Tryz.C Tryz.f85 inflate_storedLength.an [r0] H0 R = inflate_storedLength.res r0 H0 R := by kernel_rfl
  exact vcFn_sound Tryz.callable Tryz.mixed Tryz.func85 (by kernel_rfl) (e.mpr h)
def inflate_fixedCodes.an : Ann := (.seq (.reg (.op 0 [] (.op 1 [] .nil))) (.seq (.reg (.op 0 [] (.op 1 [] .nil))) (.seq (.seq (.reg (.op 0 [] (.op 1 [] (.op 2 [] (.op 3 [] (.op 4 [] (.op 5 [] .nil))))))) (.block (.loop [2, 15] [2, 5, 15, 16, 17, 18, 19, 20, 21, 22, 23, 24, 25, 26, 27, 28] (.seq (.reg (.op 0 [] .nil)) (.seq (.cond .leaf .leaf) (.seq (.block (.seq (.reg (.op 0 [] (.op 1 [] (.op 2 [] .nil)))) (.block (.loop [2] [2, 18, 19, 20, 21, 22, 23, 24, 25, 26, 27] (.seq (.seq (.reg (.op 0 [] (.op 1 [] (.op 2 [] (.op 3 [] (.op 4 [] .nil)))))) (.cond .leaf .leaf)) (.block (.reg (.op 0 [] (.op 1 [] (.op 2 [] (.op 3 [] (.op 4 [] (.op 5 [] .nil))))))))))))) (.reg (.op 0 [] (.op 1 [] .nil))))))))) (.seq (.seq (.reg (.op 0 [] .nil)) (.block (.loop [3, 29] [3, 29, 30, 31, 32, 33, 34] (.seq (.reg (.op 0 [] .nil)) (.seq (.cond .leaf .leaf) (.seq (.block (.reg (.op 0 [] (.op 1 [] (.op 2 [] (.op 3 [] .nil)))))) (.reg (.op 0 [] (.op 1 [] .nil))))))))) (.seq (.reg (.op 0 [] (.op 1 [] (.op 2 [] (.op 3 [] (.op 4 [] (.op 5 [] (.op 6 [] .nil)))))))) (.seq (.reg (.op 0 [] (.op 1 [] (.op 2 [] (.op 3 [] (.op 4 [] (.op 5 [] (.op 6 [] .nil)))))))) (.seq (.reg (.op 0 [] (.op 1 [] (.op 2 [] (.op 3 [] .nil))))) .leaf)))))))
def inflate_fixedCodes.res (H0 : Heap) (R : Value → Heap → Prop) : Prop :=
 pBuild [(.int .i64 0), (.int .i64 0)] [(0, 1, (.int .i64 8)), (1, 1, (.int .i64 144))] fun x10 =>
 pBuild [(.int .i64 0), (.int .i64 0)] [(0, 1, (.int .i64 9)), (1, 1, (.int .i64 256))] fun x11 =>
 pBuild [(.int .i64 0), (.int .i64 0)] [(0, 1, (.int .i64 7)), (1, 1, (.int .i64 280))] fun x12 =>
 pBuild [(.int .i64 0), (.int .i64 0)] [(0, 1, (.int .i64 8)), (1, 1, (.int .i64 288))] fun x13 =>
 pBuild [(.int .i64 0), (.int .i64 0), (.int .i64 0), (.int .i64 0), (.int .i64 0), (.int .i64 0), (.int .i64 0), (.int .i64 0)] [(0, 2, x10), (2, 2, x11), (4, 2, x12), (6, 2, x13)] fun x14 =>
 ∃ (I_1 : Value → Value → Heap → Prop) (m_2 : Value → Value → Heap → Nat), I_1 (.slice none 0 0) (.int .i64 0) H0 ∧
 ∀ _ : Env, ∀ l2 : Value, ∀ x15 : Value, ∀ H_3 : Heap, I_1 l2 x15 H_3 →
 pLt x15 (.int .i64 4) fun x16 =>
 pCond x16
 (pIdxAggN 4 2 x14 x15 fun x17 =>
 pBox H_3 154 (.agg #[(.int .i64 0), (.int .i64 0)]) fun x5 H_4 =>
 pStoreN H_4 2 x5 x17 fun _ H_5 =>
 ∃ (I_6 : Value → Heap → Prop) (m_7 : Value → Heap → Nat), I_6 l2 H_5 ∧
 ∀ _ : Env, ∀ l2' : Value, ∀ H_8 : Heap, I_6 l2' H_8 →
 pLen l2' fun x19 =>
 pFieldAddr 1 x5 fun x20 =>
 pLoad H_8 x20 fun x21 =>
 pLt x19 x21 fun x22 =>
 pCond x22
 (pFieldAddr 0 x5 fun x24 =>
 pLoad H_8 x24 fun x25 =>
 pBuildSl H_8 3 1 [(.int .i64 0)] [(0, 1, x25)] fun x26 H_9 =>
 pAppend H_9 3 1 8 [(.int .i64 0)] l2' x26 fun x27 H_10 =>
 I_6 x27 H_10 ∧ m_7 x27 H_10 < m_7 l2' H_8)
 (pAdd x15 (.int .i64 1) fun x28 =>
 I_1 l2' x28 H_8 ∧ m_2 l2' x28 H_8 < m_2 l2 x15 H_3))
 (∃ (I_11 : Value → Value → Heap → Prop) (m_12 : Value → Value → Heap → Nat), I_11 (.slice none 0 0) (.int .i64 0) H_3 ∧
 ∀ _ : Env, ∀ d3 : Value, ∀ x29 : Value, ∀ H_13 : Heap, I_11 d3 x29 H_13 →
 pLt x29 (.int .i64 32) fun x30 =>
 pCond x30
 (pBuildSl H_13 3 1 [(.int .i64 0)] [(0, 1, (.int .i64 5))] fun x32 H_14 =>
 pAppend H_14 3 1 8 [(.int .i64 0)] d3 x32 fun x33 H_15 =>
 pAdd x29 (.int .i64 1) fun x34 =>
 I_11 x33 x34 H_15 ∧ m_12 x33 x34 H_15 < m_12 d3 x29 H_13)
 (CallsH Tryz.prog 13 #[l2, (.bool false)] H_13 fun x37 H_16 =>
 pExtract 0 x37 fun x38 =>
 pExtract 1 x37 fun x39 =>
 CallsH Tryz.prog 13 #[d3, (.bool false)] H_16 fun x42 H_17 =>
 pExtract 0 x42 fun x43 =>
 pExtract 1 x42 fun x44 =>
 R (.tuple #[x38, x43]) H_17))
set_option maxRecDepth 100000 in
theorem inflate_fixedCodes.vc (H0 : Heap) (R : Value → Heap → Prop) (h : inflate_fixedCodes.res H0 R) : CallsH Tryz.prog 86 #[] H0 R := by
  have e : vcFn Tryz.prog Tryz.C Tryz.f86 inflate_fixedCodes.an [] H0 R = inflate_fixedCodes.res H0 R := by kernel_rfl
  exact vcFn_sound Tryz.callable Tryz.mixed Tryz.func86 (by kernel_rfl) (e.mpr h)
def inflate_dynamicCodes.an : Ann := (.seq (.reg (.op 0 [] (.op 1 [] (.op 2 [] .nil)))) (.seq (.reg (.op 0 [] (.op 1 [] (.op 2 [] (.op 3 [] (.op 4 [] (.op 5 [] (.op 6 [] .nil)))))))) (.seq (.seq (.reg (.op 0 [] (.op 1 [] .nil))) (.cond (.seq (.reg (.op 0 [] (.op 1 [] (.op 2 [] (.op 3 [] .nil))))) .leaf) .leaf)) (.seq (.reg (.op 0 [] (.op 1 [] (.op 2 [] (.op 3 [] (.op 4 [] (.op 5 [] (.op 6 [] (.op 7 [] (.op 8 [] (.op 9 [] (.op 10 [] (.op 11 [] (.op 12 [] .nil)))))))))))))) (.seq (.seq (.reg (.op 0 [] (.op 1 [] (.op 2 [] (.grp 2 (.op 3 [] (.op 4 [] .nil)) 5 .nil))))) (.cond (.seq (.reg (.op 0 [] (.op 1 [] (.op 2 [] .nil)))) .leaf) .leaf)) (.seq (.reg (.op 0 [] (.op 1 [] (.op 2 [] (.op 3 [] (.op 4 [] (.op 5 [] (.op 6 [] (.op 7 [] .nil))))))))) (.seq (.seq (.reg (.op 0 [] (.op 1 [] .nil))) (.cond (.seq (.reg (.op 0 [] (.op 1 [] (.op 2 [] (.op 3 [] .nil))))) .leaf) .leaf)) (.seq (.reg (.op 0 [] (.op 1 [] (.op 2 [] (.op 3 [] (.op 4 [] (.op 5 [] (.op 6 [] (.op 7 [] (.op 8 [] (.op 9 [] (.op 10 [] .nil)))))))))))) (.seq (.seq (.reg (.op 0 [] (.op 1 [] .nil))) (.cond (.seq (.reg (.op 0 [] (.op 1 [] (.op 2 [] (.op 3 [] .nil))))) .leaf) .leaf)) (.seq (.seq (.reg (.op 0 [] (.op 1 [] (.op 2 [] (.op 3 [] .nil))))) (.cond (.seq (.reg (.op 0 [] (.op 1 [] (.op 2 [] .nil)))) .leaf) .leaf)) (.seq (.reg (.op 0 [] (.op 1 [] (.op 2 [] (.op 3 [] (.op 4 [] (.op 5 [] (.op 6 [] (.op 7 [] (.op 8 [] .nil)))))))))) (.seq (.seq (.reg (.op 0 [] (.op 1 [] .nil))) (.cond (.seq (.reg (.op 0 [] (.op 1 [] (.op 2 [] (.op 3 [] .nil))))) .leaf) .leaf)) (.seq (.reg (.op 0 [] (.op 1 [] (.op 2 [] (.op 3 [] (.op 4 [] (.op 5 [] (.op 6 [] (.op 7 [] (.op 8 [] .nil)))))))))) (.seq (.reg (.op 0 [] (.op 1 [] (.op 2 [] (.op 3 [] (.op 4 [] (.op 5 [] .nil))))))) .leaf))))))))))))))
def inflate_dynamicCodes.res (r0 : Value) (H0 : Heap) (R : Value → Heap → Prop) : Prop :=
 CallsH Tryz.prog 84 #[r0, (.int .i64 14)] H0 fun x16 H_1 =>
 pExtract 0 x16 fun x17 =>
 pExtract 1 x16 fun x18 =>
 pNe 0 x18 (.int .i64 0) fun x20 =>
 pCond x20
 (R (.tuple #[(.pointer none), (.pointer none), x18]) H_1)
 (pBits .and x17 (.int .i64 31) fun x23 =>
 pAdd x23 (.int .i64 257) fun x24 =>
 pShr x17 (.int .u64 5) fun x26 =>
 pBits .and x26 (.int .i64 31) fun x27 =>
 pAdd x27 (.int .i64 1) fun x28 =>
 pShr x17 (.int .u64 10) fun x30 =>
 pAdd x30 (.int .i64 4) fun x31 =>
 pGt x24 (.int .i64 286) fun x33 =>
 pOr x33 (fun J_2 =>
 pGt x28 (.int .i64 30) fun x36 =>
 J_2 x36 H_1) H_1 fun x37 H_3 => ∀ _ : Env,
 pCond x37
 (R (.tuple #[(.pointer none), (.pointer none), (.int .i64 20)]) H_3)
 (CallsH Tryz.prog 101 #[r0, x31] H_3 fun x41 H_4 =>
 pExtract 0 x41 fun x42 =>
 pExtract 1 x41 fun x43 =>
 pNe 0 x43 (.int .i64 0) fun x45 =>
 pCond x45
 (R (.tuple #[(.pointer none), (.pointer none), x43]) H_4)
 (pAdd x24 x28 fun x52 =>
 CallsH Tryz.prog 102 #[r0, x42, x52] H_4 fun x53 H_5 =>
 pExtract 0 x53 fun x54 =>
 pExtract 1 x53 fun x55 =>
 pNe 0 x55 (.int .i64 0) fun x57 =>
 pCond x57
 (R (.tuple #[(.pointer none), (.pointer none), x55]) H_5)
 (pIdxSl 1 x54 (.int .i64 256) fun x60 =>
 pLoad H_5 x60 fun x61 =>
 pEq 0 x61 (.int .i64 0) fun x62 =>
 pCond x62
 (R (.tuple #[(.pointer none), (.pointer none), (.int .i64 12)]) H_5)
 (pSlSl 1 x54 none (some x24) fun x66 =>
 CallsH Tryz.prog 13 #[x66, (.bool false)] H_5 fun x67 H_6 =>
 pExtract 0 x67 fun x68 =>
 pExtract 1 x67 fun x69 =>
 pNe 0 x69 (.int .i64 0) fun x71 =>
 pCond x71
 (R (.tuple #[(.pointer none), (.pointer none), x69]) H_6)
 (pSlSl 1 x54 (some x24) none fun x76 =>
 CallsH Tryz.prog 13 #[x76, (.bool true)] H_6 fun x77 H_7 =>
 pExtract 0 x77 fun x78 =>
 pExtract 1 x77 fun x79 =>
 R (.tuple #[x68, x78, x79]) H_7))))))
set_option maxRecDepth 100000 in
theorem inflate_dynamicCodes.vc (r0 : Value) (H0 : Heap) (R : Value → Heap → Prop) (h : inflate_dynamicCodes.res r0 H0 R) : CallsH Tryz.prog 87 #[r0] H0 R := by
  have e : vcFn Tryz.prog Tryz.C Tryz.f87 inflate_dynamicCodes.an [r0] H0 R = inflate_dynamicCodes.res r0 H0 R := by kernel_rfl
  exact vcFn_sound Tryz.callable Tryz.mixed Tryz.func87 (by kernel_rfl) (e.mpr h)
def inflate_Decoder_ended.an : Ann := (.seq (.reg (.op 0 [] (.op 1 [] (.op 2 [] (.op 3 [] .nil))))) (.seq (.reg (.op 0 [] (.op 1 [] (.op 2 [] (.op 3 [] .nil))))) (.cond (.seq (.reg (.op 0 [] (.op 1 [] (.op 2 [] (.op 3 [] .nil))))) (.reg (.op 0 [] (.op 1 [] (.op 2 [] (.op 3 [] .nil)))))) .leaf)))
def inflate_Decoder_ended.res (d0 : Value) (H0 : Heap) (R : Value → Heap → Prop) : Prop :=
 pNil d0 fun x3 =>
 pFieldAddr 7 x3 fun x4 =>
 pStore H0 x4 (.int .i64 0) fun _ H_1 =>
 pNil d0 fun x6 =>
 pFieldAddr 8 x6 fun x7 =>
 pLoad H_1 x7 fun x8 =>
 pCond x8
 (pNil d0 fun x10 =>
 pFieldAddr 7 x10 fun x11 =>
 pStore H_1 x11 (.int .i64 3) fun _ H_2 =>
 pNil d0 fun x13 =>
 pFieldAddr 0 x13 fun x14 =>
 CallsH Tryz.prog 99 #[x14] H_2 fun x15 H_3 =>
 R (.tuple #[]) H_3)
 (R (.tuple #[]) H_1)
set_option maxRecDepth 100000 in
theorem inflate_Decoder_ended.vc (d0 : Value) (H0 : Heap) (R : Value → Heap → Prop) (h : inflate_Decoder_ended.res d0 H0 R) : CallsH Tryz.prog 90 #[d0] H0 R := by
  have e : vcFn Tryz.prog Tryz.C Tryz.f90 inflate_Decoder_ended.an [d0] H0 R = inflate_Decoder_ended.res d0 H0 R := by kernel_rfl
  exact vcFn_sound Tryz.callable Tryz.mixed Tryz.func90 (by kernel_rfl) (e.mpr h)
def inflate_Decoder_match.an : Ann := (.seq (.reg (.op 0 [] .nil)) (.seq (.reg (.op 0 [] (.op 1 [] (.op 2 [] (.op 3 [] (.op 4 [] (.op 5 [] (.op 6 [] (.op 7 [] (.op 8 [] (.op 9 [] (.op 10 [] (.op 11 [] .nil))))))))))))) (.seq (.seq (.reg (.op 0 [] (.op 1 [] .nil))) (.cond (.seq (.reg (.op 0 [] (.op 1 [] .nil))) .leaf) .leaf)) (.seq (.drw [0, 1, 3, 7, 0, 16, 48, 127, 255, 511, 511, 1023, 4095] (.op 0 [] (.op 1 [] (.op 2 [] (.op 3 [] (.op 4 [] (.op 5 [] (.op 6 [] (.op 7 [] (.op 8 [] (.op 9 [] (.op 10 [] (.op 11 [] (.op 12 [] .nil)))))))))))))) (.seq (.seq (.reg (.op 0 [] (.op 1 [] .nil))) (.cond (.seq (.reg (.op 0 [] (.op 1 [] .nil))) .leaf) .leaf)) (.seq (.reg (.op 0 [] (.op 1 [] (.op 2 [] (.op 3 [] (.op 4 [] (.op 5 [] (.op 6 [] (.op 7 [] (.op 8 [] (.op 9 [] (.op 10 [] (.op 11 [] .nil))))))))))))) (.seq (.seq (.reg (.op 0 [] (.op 1 [] .nil))) (.cond (.seq (.reg (.op 0 [] (.op 1 [] .nil))) .leaf) .leaf)) (.seq (.reg (.op 0 [] (.op 1 [] (.op 2 [] (.op 3 [] (.op 4 [] (.op 5 [] (.op 6 [] (.op 7 [] (.op 8 [] (.op 9 [] (.op 10 [] .nil)))))))))))) (.seq (.seq (.reg (.op 0 [] (.op 1 [] .nil))) (.cond (.seq (.reg (.op 0 [] .nil)) .leaf) .leaf)) (.seq (.reg (.op 0 [] (.op 1 [] (.op 2 [] (.op 3 [] (.op 4 [] .nil)))))) (.seq (.reg (.op 0 [] .nil)) .leaf)))))))))))
def inflate_Decoder_match.res (d0 : Value) (s1 : Value) (H0 : Heap) (R : Value → Heap → Prop) : Prop :=
 CallsH Tryz.prog 78 #[s1] H0 fun x14 H_1 =>
 pExtract 0 x14 fun x15 =>
 pExtract 1 x14 fun x16 =>
 pExtract 2 x14 fun x17 =>
 CallsH Tryz.prog 104 #[d0, x15, x16, x17] H_1 fun x18 H_2 =>
 pExtract 0 x18 fun x19 =>
 pExtract 1 x18 fun x20 =>
 pNe 0 x20 (.int .i64 0) fun x22 =>
 pCond x22
 (R x20 H_2)
 (pNil d0 fun x26 =>
 pFieldAddr 11 x26 fun x27 =>
 pLoad H_2 x27 fun x28 =>
 pNil d0 fun x30 =>
 pFieldAddr 0 x30 fun x31 =>
 CallsH Tryz.prog 18 #[x28, x31] H_2 fun x32 H_3 =>
 pExtract 0 x32 fun x33 =>
 pExtract 1 x32 fun x34 =>
 pNe 0 x34 (.int .i64 0) fun x36 =>
 pCond x36
 (R x34 H_3)
 (CallsH Tryz.prog 79 #[x33] H_3 fun x41 H_4 =>
 pExtract 0 x41 fun x42 =>
 pExtract 1 x41 fun x43 =>
 pExtract 2 x41 fun x44 =>
 CallsH Tryz.prog 104 #[d0, x42, x43, x44] H_4 fun x45 H_5 =>
 pExtract 0 x45 fun x46 =>
 pExtract 1 x45 fun x47 =>
 pNe 0 x47 (.int .i64 0) fun x49 =>
 pCond x49
 (R x47 H_5)
 (pNil d0 fun x53 =>
 pFieldAddr 3 x53 fun x54 =>
 CallsH Tryz.prog 105 #[x54, x19, x46] H_5 fun x57 H_6 =>
 pExtract 0 x57 fun x58 =>
 pExtract 1 x57 fun x59 =>
 pNot x59 fun x61 =>
 pCond x61
 (R (.int .i64 6) H_6)
 (pNil d0 fun x63 =>
 pFieldAddr 5 x63 fun x64 =>
 CallsH Tryz.prog 89 #[x64, x58] H_6 fun x66 H_7 =>
 R (.int .i64 0) H_7))))
set_option maxRecDepth 100000 in
theorem inflate_Decoder_match.vc (d0 : Value) (s1 : Value) (H0 : Heap) (R : Value → Heap → Prop) (h : inflate_Decoder_match.res d0 s1 H0 R) : CallsH Tryz.prog 91 #[d0, s1] H0 R := by
  have e : vcFn Tryz.prog Tryz.C Tryz.f91 inflate_Decoder_match.an [d0, s1] H0 R = inflate_Decoder_match.res d0 s1 H0 R := by kernel_rfl
  exact vcFn_sound Tryz.callable Tryz.mixed Tryz.func91 (by kernel_rfl) (e.mpr h)
def inflate_teller.an : Ann := (.seq (.reg (.op 0 [] (.op 1 [] .nil))) (.seq (.reg (.op 0 [] (.op 1 [] .nil))) (.seq (.seq (.reg (.op 0 [] (.op 1 [] (.op 2 [] (.op 3 [] .nil))))) (.block (.loop [15] [4, 5, 8, 9, 10, 15, 16, 17, 18, 19, 20, 21, 22, 23, 24, 25, 26, 27, 28, 29, 30, 31] (.seq (.reg (.op 0 [] .nil)) (.seq (.cond .leaf .leaf) (.seq (.block (.seq (.reg (.op 0 [] (.op 1 [] (.op 2 [] .nil)))) (.seq (.reg (.op 0 [] (.op 1 [] (.op 2 [] (.op 3 [] (.op 4 [] (.op 5 [] (.op 6 [] .nil)))))))) (.seq (.seq (.reg (.op 0 [] (.op 1 [] .nil))) (.cond (.seq (.reg (.op 0 [] (.op 1 [] (.op 2 [] .nil)))) .leaf) .leaf)) (.reg (.op 0 [] (.op 1 [] (.op 2 [] (.op 3 [] (.op 4 [] .nil)))))))))) (.reg (.op 0 [] (.op 1 [] .nil))))))))) (.seq (.reg (.op 0 [] (.op 1 [] (.op 2 [] (.op 3 [] (.op 4 [] (.op 5 [] .nil))))))) .leaf))))
def inflate_teller.res (r0 : Value) (n1 : Value) (H0 : Heap) (R : Value → Heap → Prop) : Prop :=
 pMakeSl H0 3 8 [(.int .i64 0)] (.int .i64 19) (.int .i64 19) fun x11 H_1 =>
 pSlArr 19 1 (.pointer (some ⟨1, 0, none⟩)) none (some n1) fun x13 =>
 pLen x13 fun x14 =>
 ∃ (I_2 : Value → Heap → Prop) (m_3 : Value → Heap → Nat), I_2 (.int .i64 0) H_1 ∧
 ∀ _ : Env, ∀ x15 : Value, ∀ H_4 : Heap, I_2 x15 H_4 →
 pLt x15 x14 fun x16 =>
 pCond x16
 (pIdxSl 1 x13 x15 fun x17 =>
 pLoad H_4 x17 fun x18 =>
 CallsH Tryz.prog 84 #[r0, (.int .i64 3)] H_4 fun x21 H_5 =>
 pExtract 0 x21 fun x22 =>
 pExtract 1 x21 fun x23 =>
 pNe 0 x23 (.int .i64 0) fun x25 =>
 pCond x25
 (R (.tuple #[(.pointer none), x23]) H_5)
 (pIdxSl 1 x11 x18 fun x30 =>
 pStore H_5 x30 x22 fun _ H_6 =>
 pAdd x15 (.int .i64 1) fun x31 =>
 I_2 x31 H_6 ∧ m_3 x31 H_6 < m_3 x15 H_4))
 (CallsH Tryz.prog 13 #[x11, (.bool false)] H_4 fun x33 H_7 =>
 pExtract 0 x33 fun x34 =>
 pExtract 1 x33 fun x35 =>
 R (.tuple #[x34, x35]) H_7)
set_option maxRecDepth 100000 in
theorem inflate_teller.vc (r0 : Value) (n1 : Value) (H0 : Heap) (R : Value → Heap → Prop) (h : inflate_teller.res r0 n1 H0 R) : CallsH Tryz.prog 101 #[r0, n1] H0 R := by
  have e : vcFn Tryz.prog Tryz.C Tryz.f101 inflate_teller.an [r0, n1] H0 R = inflate_teller.res r0 n1 H0 R := by kernel_rfl
  exact vcFn_sound Tryz.callable Tryz.mixed Tryz.func101 (by kernel_rfl) (e.mpr h)
def inflate_lengths.an : Ann := (.seq (.reg (.op 0 [] (.op 1 [] .nil))) (.seq (.reg (.op 0 [] .nil)) (.seq (.block (.loop [8] [6, 7, 8, 9, 10, 11, 12, 13, 14, 15, 16, 17, 18, 19, 20, 21, 22, 23, 24, 25, 26, 27, 28, 29, 30, 31, 32, 33, 34, 35, 36, 37, 38, 39, 40, 41, 42, 43, 44, 45, 46, 47, 48, 49, 50, 51, 52] (.seq (.seq (.reg (.op 0 [] (.op 1 [] (.op 2 [] (.op 3 [] .nil))))) (.cond .leaf .leaf)) (.block (.seq (.reg (.op 0 [] (.op 1 [] (.op 2 [] (.op 3 [] (.op 4 [] (.op 5 [] (.op 6 [] (.op 7 [] .nil))))))))) (.seq (.seq (.reg (.op 0 [] (.op 1 [] .nil))) (.cond (.seq (.reg (.op 0 [] (.op 1 [] (.op 2 [] .nil)))) .leaf) .leaf)) (.seq (.reg (.op 0 [] (.op 1 [] (.op 2 [] (.op 3 [] (.op 4 [] (.op 5 [] (.op 6 [] (.op 7 [] (.op 8 [] (.op 9 [] (.op 10 [] .nil)))))))))))) (.seq (.block (.seq (.reg (.op 0 [] (.op 1 [] (.op 2 [] .nil)))) (.cond (.seq (.reg (.op 0 [] (.op 1 [] (.op 2 [] .nil)))) .leaf) (.seq (.reg (.op 0 [] (.op 1 [] (.op 2 [] (.op 3 [] (.op 4 [] (.op 5 [] (.op 6 [] .nil)))))))) (.cond (.seq (.reg (.op 0 [] (.op 1 [] .nil))) .leaf) .leaf))))) (.seq (.reg (.op 0 [] (.op 1 [] .nil))) (.block (.loop [8, 46] [8, 46, 47, 48, 49, 50, 51, 52] (.seq (.reg (.op 0 [] .nil)) (.seq (.cond .leaf .leaf) (.seq (.block (.reg (.op 0 [] (.op 1 [] (.op 2 [] (.op 3 [] (.op 4 [] .nil))))))) (.reg (.op 0 [] (.op 1 [] .nil))))))))))))))))) (.seq (.reg (.op 0 [] (.op 1 [] (.op 2 [] .nil)))) .leaf))))
def inflate_lengths.res (r0 : Value) (c1 : Value) (n2 : Value) (H0 : Heap) (R : Value → Heap → Prop) : Prop :=
 ∃ (I_1 : Value → Heap → Prop) (m_2 : Value → Heap → Nat), I_1 (.slice none 0 0) H0 ∧
 ∀ _ : Env, ∀ out8 : Value, ∀ H_3 : Heap, I_1 out8 H_3 →
 pLen out8 fun x14 =>
 pLt x14 n2 fun x16 =>
 pCond x16
 (CallsH Tryz.prog 18 #[c1, r0] H_3 fun x20 H_4 =>
 pExtract 0 x20 fun x21 =>
 pExtract 1 x20 fun x22 =>
 pNe 0 x22 (.int .i64 0) fun x24 =>
 pCond x24
 (R (.tuple #[(.slice none 0 0), x22]) H_4)
 (CallsH Tryz.prog 116 #[r0, x21, out8] H_4 fun x30 H_5 =>
 pExtract 0 x30 fun x31 =>
 pExtract 1 x30 fun x32 =>
 pExtract 2 x30 fun x33 =>
 pNe 0 x33 (.int .i64 0) fun x36 =>
 pCond x36
 (R (.tuple #[(.slice none 0 0), x33]) H_5)
 (pLen out8 fun x42 =>
 pSub n2 x42 fun x43 =>
 pGt x31 x43 fun x44 =>
 pCond x44
 (R (.tuple #[(.slice none 0 0), (.int .i64 20)]) H_5)
 (∃ (I_6 : Value → Value → Heap → Prop) (m_7 : Value → Value → Heap → Nat), I_6 out8 (.int .i64 0) H_5 ∧
 ∀ _ : Env, ∀ out8' : Value, ∀ x46 : Value, ∀ H_8 : Heap, I_6 out8' x46 H_8 →
 pLt x46 x31 fun x47 =>
 pCond x47
 (pBuildSl H_8 3 1 [(.int .i64 0)] [(0, 1, x32)] fun x50 H_9 =>
 pAppend H_9 3 1 8 [(.int .i64 0)] out8' x50 fun x51 H_10 =>
 pAdd x46 (.int .i64 1) fun x52 =>
 I_6 x51 x52 H_10 ∧ m_7 x51 x52 H_10 < m_7 out8' x46 H_8)
 (I_1 out8' H_8 ∧ m_2 out8' H_8 < m_2 out8 H_3)))))
 (R (.tuple #[out8, (.int .i64 0)]) H_3)
set_option maxRecDepth 100000 in
theorem inflate_lengths.vc (r0 : Value) (c1 : Value) (n2 : Value) (H0 : Heap) (R : Value → Heap → Prop) (h : inflate_lengths.res r0 c1 n2 H0 R) : CallsH Tryz.prog 102 #[r0, c1, n2] H0 R := by
  have e : vcFn Tryz.prog Tryz.C Tryz.f102 inflate_lengths.an [r0, c1, n2] H0 R = inflate_lengths.res r0 c1 n2 H0 R := by kernel_rfl
  exact vcFn_sound Tryz.callable Tryz.mixed Tryz.func102 (by kernel_rfl) (e.mpr h)
def inflate_Decoder_extra.an : Ann := (.seq (.reg (.op 0 [] (.op 1 [] .nil))) (.seq (.seq (.reg (.op 0 [] (.op 1 [] .nil))) (.cond (.seq (.reg (.op 0 [] (.op 1 [] .nil))) .leaf) .leaf)) (.seq (.reg (.op 0 [] (.op 1 [] (.op 2 [] (.op 3 [] (.op 4 [] (.op 5 [] (.op 6 [] (.op 7 [] (.op 8 [] (.op 9 [] .nil))))))))))) (.seq (.reg (.op 0 [] (.op 1 [] (.op 2 [] (.op 3 [] (.op 4 [] (.op 5 [] .nil))))))) .leaf))))
def inflate_Decoder_extra.res (d0 : Value) (least1 : Value) (n2 : Value) (ok3 : Value) (H0 : Heap) (R : Value → Heap → Prop) : Prop :=
 pNot ok3 fun x13 =>
 pCond x13
 (R (.tuple #[(.int .i64 0), (.int .i64 4)]) H0)
 (pNil d0 fun x16 =>
 pFieldAddr 0 x16 fun x17 =>
 CallsH Tryz.prog 84 #[x17, n2] H0 fun x19 H_1 =>
 pExtract 0 x19 fun x20 =>
 pExtract 1 x19 fun x21 =>
 pAdd least1 x20 fun x24 =>
 R (.tuple #[x24, x21]) H_1)
set_option maxRecDepth 100000 in
theorem inflate_Decoder_extra.vc (d0 : Value) (least1 : Value) (n2 : Value) (ok3 : Value) (H0 : Heap) (R : Value → Heap → Prop) (h : inflate_Decoder_extra.res d0 least1 n2 ok3 H0 R) : CallsH Tryz.prog 104 #[d0, least1, n2, ok3] H0 R := by
  have e : vcFn Tryz.prog Tryz.C Tryz.f104 inflate_Decoder_extra.an [d0, least1, n2, ok3] H0 R = inflate_Decoder_extra.res d0 least1 n2 ok3 H0 R := by kernel_rfl
  exact vcFn_sound Tryz.callable Tryz.mixed Tryz.func104 (by kernel_rfl) (e.mpr h)
def inflate_repeat.an : Ann := (.seq (.reg (.op 0 [] (.op 1 [] (.op 2 [] .nil)))) (.seq (.reg (.op 0 [] (.op 1 [] (.op 2 [] .nil)))) (.cut [9, 10, 11] [6, 7, 8, 9, 10, 11, 14, 15, 16, 17, 18, 19, 20, 21, 22, 23, 24, 25, 26, 27, 28, 29, 30] (.seq (.reg (.op 0 [] .nil)) (.block (.seq (.reg (.op 0 [] (.op 1 [] .nil))) (.cond (.seq (.seq (.reg (.op 0 [] (.op 1 [] (.op 2 [] .nil)))) (.cond (.seq (.reg (.op 0 [] (.op 1 [] (.op 2 [] .nil)))) .leaf) .leaf)) (.reg (.op 0 [] (.op 1 [] (.op 2 [] (.op 3 [] (.op 4 [] (.op 5 [] (.op 6 [] .nil))))))))) (.seq (.reg (.op 0 [] (.op 1 [] .nil))) (.cond (.reg (.op 0 [] .nil)) (.seq (.reg (.op 0 [] (.op 1 [] .nil))) (.cond (.reg (.op 0 [] (.op 1 [] .nil))) (.seq (.reg (.op 0 [] (.op 1 [] (.op 2 [] (.op 3 [] .nil))))) .leaf))))))))) (.seq (.reg (.op 0 [] (.op 1 [] (.op 2 [] (.op 3 [] (.op 4 [] (.op 5 [] (.op 6 [] (.op 7 [] .nil))))))))) (.seq (.reg (.op 0 [] (.op 1 [] (.op 2 [] (.op 3 [] (.op 4 [] (.op 5 [] (.op 6 [] (.op 7 [] .nil))))))))) .leaf)))))
def inflate_repeat.res (r0 : Value) (s1 : Value) (ahead2 : Value) (H0 : Heap) (R : Value → Heap → Prop) : Prop :=
 ∃ J_1 : Value → Value → Value → Heap → Prop, (∀ _ : Env, ∀ least9 : Value, ∀ extra10 : Value, ∀ value11 : Value, ∀ H_2 : Heap, J_1 least9 extra10 value11 H_2 →
 CallsH Tryz.prog 84 #[r0, extra10] H_2 fun x34 H_3 =>
 pExtract 0 x34 fun x35 =>
 pExtract 1 x34 fun x36 =>
 pAdd least9 x35 fun x39 =>
 R (.tuple #[x39, value11, x36]) H_3) ∧
 pEq 0 s1 (.int .i64 16) fun x17 =>
 pCond x17
 (pLen ahead2 fun x19 =>
 pEq 0 x19 (.int .i64 0) fun x20 =>
 pCond x20
 (R (.tuple #[(.int .i64 0), (.int .i64 0), (.int .i64 3)]) H0)
 (pLen ahead2 fun x23 =>
 pSub x23 (.int .i64 1) fun x24 =>
 pIdxSl 1 ahead2 x24 fun x25 =>
 pLoad H0 x25 fun x26 =>
 J_1 (.int .i64 3) (.int .i64 2) x26 H0))
 (pEq 0 s1 (.int .i64 17) fun x28 =>
 pCond x28
 (J_1 (.int .i64 3) (.int .i64 3) (.int .i64 0) H0)
 (pEq 0 s1 (.int .i64 18) fun x30 =>
 pCond x30
 (J_1 (.int .i64 11) (.int .i64 7) (.int .i64 0) H0)
 (R (.tuple #[(.int .i64 1), s1, (.int .i64 0)]) H0)))
set_option maxRecDepth 100000 in
theorem inflate_repeat.vc (r0 : Value) (s1 : Value) (ahead2 : Value) (H0 : Heap) (R : Value → Heap → Prop) (h : inflate_repeat.res r0 s1 ahead2 H0 R) : CallsH Tryz.prog 116 #[r0, s1, ahead2] H0 R := by
  have e : vcFn Tryz.prog Tryz.C Tryz.f116 inflate_repeat.an [r0, s1, ahead2] H0 R = inflate_repeat.res r0 s1 ahead2 H0 R := by kernel_rfl
  exact vcFn_sound Tryz.callable Tryz.mixed Tryz.func116 (by kernel_rfl) (e.mpr h)
def merge_Lengths.an : Ann := (.seq (.reg (.op 0 [] (.op 1 [] .nil))) (.seq (.seq (.reg (.op 0 [] (.op 1 [] (.op 2 [] (.op 3 [] .nil))))) (.seq (.reg (.op 0 [] (.op 1 [] .nil))) (.cond (.seq (.reg (.op 0 [] (.op 1 [] (.op 2 [] .nil)))) .leaf) .leaf))) (.seq (.reg (.op 0 [] (.op 1 [] (.op 2 [] (.op 3 [] .nil))))) (.seq (.reg (.op 0 [] (.op 1 [] (.op 2 [] .nil)))) (.seq (.seq (.reg (.op 0 [] (.op 1 [] (.op 2 [] .nil)))) (.cond (.seq (.seq (.reg (.op 0 [] (.op 1 [] (.op 2 [] .nil)))) (.block (.loop [35] [10, 35, 36, 37, 38, 39, 40, 41, 42] (.seq (.reg (.op 0 [] .nil)) (.seq (.cond .leaf .leaf) (.seq (.block (.seq (.reg (.op 0 [] (.op 1 [] (.op 2 [] .nil)))) (.reg (.op 0 [] (.op 1 [] (.op 2 [] (.op 3 [] .nil))))))) (.reg (.op 0 [] (.op 1 [] .nil))))))))) (.seq (.reg (.op 0 [] (.op 1 [] (.op 2 [] .nil)))) .leaf)) .leaf)) (.seq (.reg (.op 0 [] .nil)) (.seq (.seq (.reg (.op 0 [] (.op 1 [] (.op 2 [] .nil)))) (.block (.loop [11, 46] [11, 12, 13, 46, 47, 48, 49, 50, 51, 52, 53, 54, 55, 56, 57, 58, 59, 60, 61] (.seq (.reg (.op 0 [] .nil)) (.seq (.cond .leaf .leaf) (.seq (.block (.seq (.reg (.op 0 [] (.op 1 [] (.op 2 [] (.op 3 [] (.op 4 [] .nil)))))) (.reg (.op 0 [] (.op 1 [] (.op 2 [] (.op 3 [] (.op 4 [] (.op 5 [] (.op 6 [] (.op 7 [] (.op 8 [] (.op 9 [] (.op 10 [] .nil)))))))))))))) (.reg (.op 0 [] (.op 1 [] .nil))))))))) (.seq (.reg (.op 0 [] (.op 1 [] .nil))) (.seq (.seq (.reg (.op 0 [] (.op 1 [] (.op 2 [] .nil)))) (.block (.loop [14, 65] [14, 65, 66, 67, 68, 69, 70, 71] (.seq (.reg (.op 0 [] .nil)) (.seq (.cond .leaf .leaf) (.seq (.block (.reg (.op 0 [] (.op 1 [] (.op 2 [] (.op 3 [] (.op 4 [] .nil))))))) (.reg (.op 0 [] (.op 1 [] .nil))))))))) (.seq (.seq (.reg (.op 0 [] (.op 1 [] (.op 2 [] (.op 3 [] (.op 4 [] (.op 5 [] (.op 6 [] (.op 7 [] .nil))))))))) (.block (.loop [79] [16, 18, 79, 80, 81, 82, 83, 84, 85, 86, 87, 88, 89, 90, 91, 92, 93, 94, 95, 96, 97, 98, 99, 100] (.seq (.reg (.op 0 [] .nil)) (.seq (.cond .leaf .leaf) (.seq (.block (.seq (.reg (.op 0 [] (.op 1 [] (.op 2 [] (.op 3 [] .nil))))) (.seq (.reg (.op 0 [] (.op 1 [] (.op 2 [] (.op 3 [] .nil))))) (.block (.loop [86] [18, 86, 87, 88, 89, 90, 91, 92, 93, 94, 95, 96, 97, 98, 99] (.seq (.reg (.op 0 [] .nil)) (.seq (.cond .leaf .leaf) (.seq (.block (.seq (.reg (.op 0 [] (.op 1 [] (.op 2 [] .nil)))) (.reg (.op 0 [] (.op 1 [] (.op 2 [] (.op 3 [] (.op 4 [] (.op 5 [] (.op 6 [] (.op 7 [] (.op 8 [] (.op 9 [] .nil))))))))))))) (.reg (.op 0 [] (.op 1 [] .nil))))))))))) (.reg (.op 0 [] (.op 1 [] .nil))))))))) (.seq (.reg (.op 0 [] (.op 1 [] (.op 2 [] .nil)))) .leaf)))))))))))
def merge_Lengths.res (counts0 : Value) (most1 : Value) (H0 : Heap) (R : Value → Heap → Prop) : Prop :=
 CallsH Tryz.prog 32 #[counts0, most1] H0 fun x21 H_1 =>
 pNe 0 x21 (.int .i64 0) fun x23 =>
 pCond x23
 (R (.tuple #[(.slice none 0 0), x21]) H_1)
 (pLen counts0 fun x26 =>
 pMakeSl H_1 3 8 [(.int .i64 0)] x26 x26 fun x27 H_2 =>
 CallsH Tryz.prog 33 #[counts0] H_2 fun x29 H_3 =>
 pLen x29 fun x31 =>
 pLt x31 (.int .i64 2) fun x32 =>
 pCond x32
 (pLen x29 fun x34 =>
 ∃ (I_4 : Value → Heap → Prop) (m_5 : Value → Heap → Nat), I_4 (.int .i64 0) H_3 ∧
 ∀ _ : Env, ∀ x35 : Value, ∀ H_6 : Heap, I_4 x35 H_6 →
 pLt x35 x34 fun x36 =>
 pCond x36
 (pIdxSl 1 x29 x35 fun x37 =>
 pLoad H_6 x37 fun x38 =>
 pIdxSl 1 x27 x38 fun x41 =>
 pStore H_6 x41 (.int .i64 1) fun _ H_7 =>
 pAdd x35 (.int .i64 1) fun x42 =>
 I_4 x42 H_7 ∧ m_5 x42 H_7 < m_5 x35 H_6)
 (R (.tuple #[x27, (.int .i64 0)]) H_6))
 (pLen x29 fun x45 =>
 ∃ (I_8 : Value → Value → Heap → Prop) (m_9 : Value → Value → Heap → Nat), I_8 (.slice none 0 0) (.int .i64 0) H_3 ∧
 ∀ _ : Env, ∀ leaves11 : Value, ∀ x46 : Value, ∀ H_10 : Heap, I_8 leaves11 x46 H_10 →
 pLt x46 x45 fun x47 =>
 pCond x47
 (pIdxSl 1 x29 x46 fun x49 =>
 pLoad H_10 x49 fun x50 =>
 pIdxSl 1 counts0 x50 fun x54 =>
 pLoad H_10 x54 fun x55 =>
 pBuildSl H_10 3 1 [(.int .i64 0)] [(0, 1, x46)] fun x57 H_11 =>
 pBuild [(.int .i64 0), (.slice none 0 0)] [(0, 1, x55), (1, 1, x57)] fun x58 =>
 pBuildSl H_11 82 1 [(.int .i64 0), (.slice none 0 0)] [(0, 2, x58)] fun x59 H_12 =>
 pAppend H_12 82 2 32 [(.int .i64 0), (.slice none 0 0)] leaves11 x59 fun x60 H_13 =>
 pAdd x46 (.int .i64 1) fun x61 =>
 I_8 x60 x61 H_13 ∧ m_9 x60 x61 H_13 < m_9 leaves11 x46 H_10)
 (pSub most1 (.int .i64 1) fun x64 =>
 ∃ (I_14 : Value → Value → Heap → Prop) (m_15 : Value → Value → Heap → Nat), I_14 leaves11 (.int .i64 0) H_10 ∧
 ∀ _ : Env, ∀ list14 : Value, ∀ x65 : Value, ∀ H_16 : Heap, I_14 list14 x65 H_16 →
 pLt x65 x64 fun x66 =>
 pCond x66
 (CallsH Tryz.prog 35 #[list14] H_16 fun x69 H_17 =>
 CallsH Tryz.prog 34 #[leaves11, x69] H_17 fun x70 H_18 =>
 pAdd x65 (.int .i64 1) fun x71 =>
 I_14 x70 x71 H_18 ∧ m_15 x70 x71 H_18 < m_15 list14 x65 H_16)
 (pLen x29 fun x74 =>
 pMul (.int .i64 2) x74 fun x75 =>
 pSub x75 (.int .i64 2) fun x76 =>
 pSlSl 2 list14 none (some x76) fun x77 =>
 pLen x77 fun x78 =>
 ∃ (I_19 : Value → Heap → Prop) (m_20 : Value → Heap → Nat), I_19 (.int .i64 0) H_16 ∧
 ∀ _ : Env, ∀ x79 : Value, ∀ H_21 : Heap, I_19 x79 H_21 →
 pLt x79 x78 fun x80 =>
 pCond x80
 (pIdxSl 2 x77 x79 fun x81 =>
 pLoadN H_21 2 x81 fun x82 =>
 pBox H_21 82 (.agg #[(.int .i64 0), (.slice none 0 0)]) fun p16 H_22 =>
 pStoreN H_22 2 p16 x82 fun _ H_23 =>
 pFieldAddr 1 p16 fun x83 =>
 pLoad H_23 x83 fun x84 =>
 pLen x84 fun x85 =>
 ∃ (I_24 : Value → Heap → Prop) (m_25 : Value → Heap → Nat), I_24 (.int .i64 0) H_23 ∧
 ∀ _ : Env, ∀ x86 : Value, ∀ H_26 : Heap, I_24 x86 H_26 →
 pLt x86 x85 fun x87 =>
 pCond x87
 (pIdxSl 1 x84 x86 fun x88 =>
 pLoad H_26 x88 fun x89 =>
 pIdxSl 1 x29 x89 fun x93 =>
 pLoad H_26 x93 fun x94 =>
 pIdxSl 1 x27 x94 fun x95 =>
 pLoad H_26 x95 fun x96 =>
 pAdd x96 (.int .i64 1) fun x97 =>
 pIdxSl 1 x27 x94 fun x98 =>
 pStore H_26 x98 x97 fun _ H_27 =>
 pAdd x86 (.int .i64 1) fun x99 =>
 I_24 x99 H_27 ∧ m_25 x99 H_27 < m_25 x86 H_26)
 (pAdd x79 (.int .i64 1) fun x100 =>
 I_19 x100 H_26 ∧ m_20 x100 H_26 < m_20 x79 H_21))
 (R (.tuple #[x27, (.int .i64 0)]) H_21)))))
set_option maxRecDepth 100000 in
theorem merge_Lengths.vc (counts0 : Value) (most1 : Value) (H0 : Heap) (R : Value → Heap → Prop) (h : merge_Lengths.res counts0 most1 H0 R) : CallsH Tryz.prog 12 #[counts0, most1] H0 R := by
  have e : vcFn Tryz.prog Tryz.C Tryz.f12 merge_Lengths.an [counts0, most1] H0 R = merge_Lengths.res counts0 most1 H0 R := by kernel_rfl
  exact vcFn_sound Tryz.callable Tryz.mixed Tryz.func12 (by kernel_rfl) (e.mpr h)
def merge_Cost.an : Ann := (.seq (.reg (.op 0 [] .nil)) (.seq (.reg (.op 0 [] .nil)) (.seq (.seq (.reg (.op 0 [] (.op 1 [] (.op 2 [] (.op 3 [] (.op 4 [] (.op 5 [] .nil))))))) (.block (.loop [5, 12] [5, 6, 12, 13, 14, 15, 16, 17, 18, 19, 20, 21, 22, 23, 24, 25, 26] (.seq (.reg (.op 0 [] .nil)) (.seq (.cond .leaf .leaf) (.seq (.block (.seq (.reg (.op 0 [] (.op 1 [] .nil))) (.drw [0, 0, 0, 6, 14, 0, 0, 96, 224, 510, 1023, 2047] (.op 0 [] (.op 1 [] (.op 2 [] (.op 3 [] (.op 4 [] (.op 5 [] (.op 6 [] (.op 7 [] (.op 8 [] (.op 9 [] (.op 10 [] (.op 11 [] .nil))))))))))))))) (.reg (.op 0 [] (.op 1 [] .nil))))))))) (.seq (.reg (.op 0 [] (.op 1 [] .nil))) .leaf))))
def merge_Cost.res (counts0 : Value) (lengths1 : Value) (H0 : Heap) (R : Value → Heap → Prop) : Prop :=
 pLen counts0 fun x8 =>
 pLen lengths1 fun x10 =>
 pMin x8 x10 fun x11 =>
 ∃ (I_1 : Value → Value → Heap → Prop) (m_2 : Value → Value → Heap → Nat), I_1 (.int .i64 0) (.int .i64 0) H0 ∧
 ∀ _ : Env, ∀ sum5 : Value, ∀ x12 : Value, ∀ H_3 : Heap, I_1 sum5 x12 H_3 →
 pLt x12 x11 fun x13 =>
 pCond x13
 (pIdxSl 1 counts0 x12 fun x18 =>
 pLoad H_3 x18 fun x19 =>
 pIdxSl 1 lengths1 x12 fun x22 =>
 pLoad H_3 x22 fun x23 =>
 pMul x19 x23 fun x24 =>
 pAdd sum5 x24 fun x25 =>
 pAdd x12 (.int .i64 1) fun x26 =>
 I_1 x25 x26 H_3 ∧ m_2 x25 x26 H_3 < m_2 sum5 x12 H_3)
 (R sum5 H_3)
set_option maxRecDepth 100000 in
theorem merge_Cost.vc (counts0 : Value) (lengths1 : Value) (H0 : Heap) (R : Value → Heap → Prop) (h : merge_Cost.res counts0 lengths1 H0 R) : CallsH Tryz.prog 16 #[counts0, lengths1] H0 R := by
  have e : vcFn Tryz.prog Tryz.C Tryz.f16 merge_Cost.an [counts0, lengths1] H0 R = merge_Cost.res counts0 lengths1 H0 R := by kernel_rfl
  exact vcFn_sound Tryz.callable Tryz.mixed Tryz.func16 (by kernel_rfl) (e.mpr h)
def merge_wrong.an : Ann := (.seq (.reg (.op 0 [] .nil)) (.seq (.reg (.op 0 [] .nil)) (.seq (.seq (.reg (.op 0 [] (.op 1 [] (.op 2 [] (.op 3 [] (.grp 3 (.op 4 [] (.op 5 [] (.op 6 [] .nil))) 7 (.op 8 [] (.grp 8 (.op 9 [] (.op 10 [] .nil)) 11 (.op 12 [] (.grp 12 (.op 13 [] (.op 14 [] .nil)) 15 .nil)))))))))) (.cond (.seq (.reg (.op 0 [] .nil)) .leaf) .leaf)) (.seq (.seq (.drw [0, 1, 3, 0, 8, 31] (.op 0 [] (.op 3 [] (.op 4 [] (.op 1 [] (.op 2 [] (.op 5 [] .nil))))))) (.cond (.seq (.reg (.op 0 [] .nil)) .leaf) .leaf)) (.seq (.reg (.op 0 [] .nil)) .leaf)))))
def merge_wrong.res (counts0 : Value) (most1 : Value) (H0 : Heap) (R : Value → Heap → Prop) : Prop :=
 pLen counts0 fun x7 =>
 pGt x7 (.int .i64 288) fun x8 =>
 pOr x8 (fun J_1 =>
 CallsH Tryz.prog 37 #[counts0, (.func (.func 63) #[] #[])] H0 fun x12 H_3 =>
 J_1 x12 H_3) H0 fun x13 H_2 => ∀ _ : Env,
 pOr x13 (fun J_4 =>
 pLt most1 (.int .i64 1) fun x16 =>
 J_4 x16 H_2) H_2 fun x17 H_5 => ∀ _ : Env,
 pOr x17 (fun J_6 =>
 pGt most1 (.int .i64 15) fun x20 =>
 J_6 x20 H_5) H_5 fun x21 H_7 => ∀ _ : Env,
 pCond x21
 (R (.int .i64 1) H_7)
 (pShl (.int .i64 1) most1 fun x26 =>
 CallsH Tryz.prog 33 #[counts0] H_7 fun x23 H_8 =>
 pLen x23 fun x24 =>
 pGt x24 x26 fun x27 =>
 pCond x27
 (R (.int .i64 11) H_8)
 (R (.int .i64 0) H_8))
set_option maxRecDepth 100000 in
theorem merge_wrong.vc (counts0 : Value) (most1 : Value) (H0 : Heap) (R : Value → Heap → Prop) (h : merge_wrong.res counts0 most1 H0 R) : CallsH Tryz.prog 32 #[counts0, most1] H0 R := by
  have e : vcFn Tryz.prog Tryz.C Tryz.f32 merge_wrong.an [counts0, most1] H0 R = merge_wrong.res counts0 most1 H0 R := by kernel_rfl
  exact vcFn_sound Tryz.callable Tryz.mixed Tryz.func32 (by kernel_rfl) (e.mpr h)
def merge_used.an : Ann := (.seq (.reg (.op 0 [] (.op 1 [] .nil))) (.seq (.reg (.op 0 [] .nil)) (.seq (.seq (.reg (.op 0 [] (.op 1 [] (.op 2 [] .nil)))) (.block (.loop [3, 8] [3, 4, 5, 8, 9, 10, 11, 12, 13, 14, 15, 16, 17, 18, 19] (.seq (.reg (.op 0 [] .nil)) (.seq (.cond .leaf .leaf) (.seq (.block (.seq (.reg (.op 0 [] (.op 1 [] (.op 2 [] (.op 3 [] (.op 4 [] .nil)))))) (.seq (.reg (.op 0 [] (.op 1 [] .nil))) (.cond (.reg (.op 0 [] (.op 1 [] (.op 2 [] (.op 3 [] (.op 4 [] .nil)))))) .leaf)))) (.reg (.op 0 [] (.op 1 [] .nil))))))))) (.seq (.reg (.op 0 [] (.op 1 [] (.op 2 [] .nil)))) (.seq (.reg (.op 0 [] (.op 1 [] .nil))) .leaf)))))
def merge_used.res (counts0 : Value) (H0 : Heap) (R : Value → Heap → Prop) : Prop :=
 pBox H0 42 counts0 fun counts1 H_1 =>
 pLoad H_1 counts1 fun x6 =>
 pLen x6 fun x7 =>
 ∃ (I_2 : Value → Value → Heap → Prop) (m_3 : Value → Value → Heap → Nat), I_2 (.slice none 0 0) (.int .i64 0) H_1 ∧
 ∀ _ : Env, ∀ out3 : Value, ∀ x8 : Value, ∀ H_4 : Heap, I_2 out3 x8 H_4 →
 pLt x8 x7 fun x9 =>
 pCond x9
 (pIdxSl 1 x6 x8 fun x11 =>
 pLoad H_4 x11 fun x12 =>
 pGt x12 (.int .i64 0) fun x14 =>
 pCond x14
 (pBuildSl H_4 3 1 [(.int .i64 0)] [(0, 1, x8)] fun x17 H_5 =>
 pAppend H_5 3 1 8 [(.int .i64 0)] out3 x17 fun x18 H_6 =>
 pAdd x8 (.int .i64 1) fun x19 =>
 I_2 x18 x19 H_6 ∧ m_3 x18 x19 H_6 < m_3 out3 x8 H_4)
 (pAdd x8 (.int .i64 1) fun x19 =>
 I_2 out3 x19 H_4 ∧ m_3 out3 x19 H_4 < m_3 out3 x8 H_4))
 (CallsH Tryz.prog 64 #[out3, (.func (.func 65) #[] #[counts1])] H_4 fun x22 H_7 =>
 R out3 H_7)
set_option maxRecDepth 100000 in
theorem merge_used.vc (counts0 : Value) (H0 : Heap) (R : Value → Heap → Prop) (h : merge_used.res counts0 H0 R) : CallsH Tryz.prog 33 #[counts0] H0 R := by
  have e : vcFn Tryz.prog Tryz.C Tryz.f33 merge_used.an [counts0] H0 R = merge_used.res counts0 H0 R := by kernel_rfl
  exact vcFn_sound Tryz.callable Tryz.mixed Tryz.func33 (by kernel_rfl) (e.mpr h)
def merge_joined.an : Ann := (.seq (.reg (.op 0 [] .nil)) (.seq (.reg (.op 0 [] .nil)) (.seq (.block (.loop [0, 1, 5] [0, 1, 5, 6, 7, 8, 9, 10, 11, 12, 13, 14, 15, 16, 17, 18, 19, 20, 21, 22, 23, 24, 25, 26, 27, 28, 29, 30, 31, 32, 33, 34, 35, 36, 37, 38] (.seq (.seq (.reg (.op 0 [] (.op 1 [] (.op 2 [] (.op 3 [] (.grp 3 (.op 4 [] (.op 5 [] (.op 6 [] .nil))) 7 .nil)))))) (.cond .leaf .leaf)) (.block (.seq (.drw [0, 1, 3, 7, 0, 16, 48, 112, 255] (.op 0 [] (.op 1 [] (.op 2 [] (.op 3 [] (.op 4 [] (.op 5 [] (.op 6 [] (.op 7 [] (.op 8 [] .nil)))))))))) (.cond (.drw [0, 0, 2, 6, 14, 31, 0, 64, 63, 511] (.op 0 [] (.op 1 [] (.op 2 [] (.op 3 [] (.op 6 [] (.op 7 [] (.op 4 [] (.op 5 [] (.op 8 [] (.op 9 [] .nil))))))))))) (.drw [0, 0, 2, 6, 14, 31, 0, 64, 63, 511] (.op 0 [] (.op 1 [] (.op 2 [] (.op 3 [] (.op 6 [] (.op 7 [] (.op 4 [] (.op 5 [] (.op 8 [] (.op 9 [] .nil))))))))))))))))) (.seq (.reg (.op 0 [] (.op 1 [] (.op 2 [] (.op 3 [] (.op 4 [] (.op 5 [] .nil))))))) .leaf))))
def merge_joined.res (a0 : Value) (b1 : Value) (H0 : Heap) (R : Value → Heap → Prop) : Prop :=
 ∃ (I_1 : Value → Value → Value → Heap → Prop) (m_2 : Value → Value → Value → Heap → Nat), I_1 a0 b1 (.slice none 0 0) H0 ∧
 ∀ _ : Env, ∀ a0' : Value, ∀ b1' : Value, ∀ out5 : Value, ∀ H_3 : Heap, I_1 a0' b1' out5 H_3 →
 pLen a0' fun x7 =>
 pGt x7 (.int .i64 0) fun x8 =>
 pAnd x8 (fun J_4 =>
 pLen b1' fun x11 =>
 pGt x11 (.int .i64 0) fun x12 =>
 J_4 x12 H_3) H_3 fun x13 H_5 => ∀ _ : Env,
 pCond x13
 (pIdxSl 2 a0' (.int .i64 0) fun x15 =>
 pFieldAddr 0 x15 fun x16 =>
 pLoad H_5 x16 fun x17 =>
 pIdxSl 2 b1' (.int .i64 0) fun x19 =>
 pFieldAddr 0 x19 fun x20 =>
 pLoad H_5 x20 fun x21 =>
 pLe x17 x21 fun x22 =>
 pCond x22
 (pIdxSl 2 a0' (.int .i64 0) fun x25 =>
 pLoadN H_5 2 x25 fun x26 =>
 pSlSl 2 a0' (some (.int .i64 1)) none fun x30 =>
 pBuildSl H_5 82 1 [(.int .i64 0), (.slice none 0 0)] [(0, 2, x26)] fun x27 H_6 =>
 pAppend H_6 82 2 32 [(.int .i64 0), (.slice none 0 0)] out5 x27 fun x28 H_7 =>
 I_1 x30 b1' x28 H_7 ∧ m_2 x30 b1' x28 H_7 < m_2 a0' b1' out5 H_3)
 (pIdxSl 2 b1' (.int .i64 0) fun x33 =>
 pLoadN H_5 2 x33 fun x34 =>
 pSlSl 2 b1' (some (.int .i64 1)) none fun x38 =>
 pBuildSl H_5 82 1 [(.int .i64 0), (.slice none 0 0)] [(0, 2, x34)] fun x35 H_8 =>
 pAppend H_8 82 2 32 [(.int .i64 0), (.slice none 0 0)] out5 x35 fun x36 H_9 =>
 I_1 a0' x38 x36 H_9 ∧ m_2 a0' x38 x36 H_9 < m_2 a0' b1' out5 H_3))
 (pBuildSl H_5 80 3 [(.slice none 0 0), (.slice none 0 0), (.slice none 0 0)] [(0, 1, out5), (1, 1, a0'), (2, 1, b1')] fun x42 H_10 =>
 CallsH Tryz.prog 68 #[x42] H_10 fun x43 H_11 =>
 R x43 H_11)
set_option maxRecDepth 100000 in
theorem merge_joined.vc (a0 : Value) (b1 : Value) (H0 : Heap) (R : Value → Heap → Prop) (h : merge_joined.res a0 b1 H0 R) : CallsH Tryz.prog 34 #[a0, b1] H0 R := by
  have e : vcFn Tryz.prog Tryz.C Tryz.f34 merge_joined.an [a0, b1] H0 R = merge_joined.res a0 b1 H0 R := by kernel_rfl
  exact vcFn_sound Tryz.callable Tryz.mixed Tryz.func34 (by kernel_rfl) (e.mpr h)
def merge_pairs.an : Ann := (.seq (.reg (.op 0 [] .nil)) (.seq (.reg (.op 0 [] .nil)) (.seq (.seq (.reg (.op 0 [] .nil)) (.block (.loop [3, 4] [3, 4, 5, 6, 7, 8, 9, 10, 11, 12, 13, 14, 15, 16, 17, 18, 19, 20, 21, 22, 23, 24, 25, 26, 27, 28, 29, 30, 31, 32, 33, 34, 35, 36, 37, 38, 39, 40] (.seq (.seq (.reg (.op 0 [] (.op 1 [] (.op 2 [] (.op 3 [] (.op 4 [] .nil)))))) (.cond .leaf .leaf)) (.seq (.block (.drw [0, 0, 0, 6, 14, 30, 0, 0, 128, 448, 960, 1984, 4094, 0, 0, 24576, 57344, 122880, 0, 0, 524288, 1835008, 3932160, 8126464, 16769024, 33546240, 67108862, 134217726, 268435455, 536870911] (.op 0 [] (.op 1 [] (.op 2 [] (.op 3 [] (.op 4 [] (.op 5 [] (.op 6 [] (.op 7 [] (.op 8 [] (.op 9 [] (.op 10 [] (.op 11 [] (.op 12 [] (.op 13 [] (.op 14 [] (.op 15 [] (.op 16 [] (.op 17 [] (.op 18 [] (.op 19 [] (.op 20 [] (.op 21 [] (.op 22 [] (.op 23 [] (.op 24 [5, 11] (.op 25 [5, 11] (.op 26 [] (.op 27 [] (.op 28 [] (.op 29 [] .nil)))))))))))))))))))))))))))))))) (.reg (.op 0 [] (.op 1 [] (.op 2 [] .nil))))))))) (.seq (.reg (.op 0 [] (.op 1 [] .nil))) .leaf))))
def merge_pairs.res (l0 : Value) (H0 : Heap) (R : Value → Heap → Prop) : Prop :=
 ∃ (I_1 : Value → Value → Heap → Prop) (m_2 : Value → Value → Heap → Nat), I_1 (.slice none 0 0) (.int .i64 0) H0 ∧
 ∀ _ : Env, ∀ out3 : Value, ∀ i4 : Value, ∀ H_3 : Heap, I_1 out3 i4 H_3 →
 pAdd i4 (.int .i64 1) fun x6 =>
 pLen l0 fun x8 =>
 pLt x6 x8 fun x9 =>
 pCond x9
 (pIdxSl 2 l0 i4 fun x15 =>
 pFieldAddr 0 x15 fun x16 =>
 pLoad H_3 x16 fun x17 =>
 pAdd i4 (.int .i64 1) fun x20 =>
 pIdxSl 2 l0 x20 fun x21 =>
 pFieldAddr 0 x21 fun x22 =>
 pLoad H_3 x22 fun x23 =>
 pAdd x17 x23 fun x24 =>
 pIdxSl 2 l0 i4 fun x27 =>
 pFieldAddr 1 x27 fun x28 =>
 pLoad H_3 x28 fun x29 =>
 pAdd i4 (.int .i64 1) fun x32 =>
 pIdxSl 2 l0 x32 fun x33 =>
 pFieldAddr 1 x33 fun x34 =>
 pLoad H_3 x34 fun x35 =>
 pBuildSl H_3 42 2 [(.slice none 0 0), (.slice none 0 0)] [(0, 1, x29), (1, 1, x35)] fun x36 H_4 =>
 (pLoad H_4 x16 fun r_ =>
 r_ = x17) ∧
 (pLoad H_4 x22 fun r_ =>
 r_ = x23) ∧
 CallsH Tryz.prog 58 #[x36] H_4 fun x37 H_5 =>
 (pLoad H_5 x16 fun r_ =>
 r_ = x17) ∧
 (pLoad H_5 x22 fun r_ =>
 r_ = x23) ∧
 pBuild [(.int .i64 0), (.slice none 0 0)] [(0, 1, x24), (1, 1, x37)] fun x38 =>
 pBuildSl H_5 82 1 [(.int .i64 0), (.slice none 0 0)] [(0, 2, x38)] fun x39 H_6 =>
 pAppend H_6 82 2 32 [(.int .i64 0), (.slice none 0 0)] out3 x39 fun x40 H_7 =>
 pAdd i4 (.int .i64 2) fun x11 =>
 I_1 x40 x11 H_7 ∧ m_2 x40 x11 H_7 < m_2 out3 i4 H_3)
 (R out3 H_3)
set_option maxRecDepth 100000 in
theorem merge_pairs.vc (l0 : Value) (H0 : Heap) (R : Value → Heap → Prop) (h : merge_pairs.res l0 H0 R) : CallsH Tryz.prog 35 #[l0] H0 R := by
  have e : vcFn Tryz.prog Tryz.C Tryz.f35 merge_pairs.an [l0] H0 R = merge_pairs.res l0 H0 R := by kernel_rfl
  exact vcFn_sound Tryz.callable Tryz.mixed Tryz.func35 (by kernel_rfl) (e.mpr h)
def merge_wrong_f1.an : Ann := (.seq (.reg (.op 0 [] .nil)) (.seq (.reg (.op 0 [] (.op 1 [] (.op 2 [] (.grp 2 (.op 3 [] (.op 4 [] .nil)) 5 (.op 6 [] .nil)))))) .leaf))
def merge_wrong_f1.res (n0 : Value) (H0 : Heap) (R : Value → Heap → Prop) : Prop :=
 pLt n0 (.int .i64 0) fun x4 =>
 pOr x4 (fun J_1 =>
 pGt n0 (.int .i64 1099511627776) fun x7 =>
 J_1 x7 H0) H0 fun x8 H_2 => ∀ _ : Env,
 R x8 H_2
set_option maxRecDepth 100000 in
theorem merge_wrong_f1.vc (n0 : Value) (H0 : Heap) (R : Value → Heap → Prop) (h : merge_wrong_f1.res n0 H0 R) : CallsH Tryz.prog 63 #[n0] H0 R := by
  have e : vcFn Tryz.prog Tryz.C Tryz.f63 merge_wrong_f1.an [n0] H0 R = merge_wrong_f1.res n0 H0 R := by kernel_rfl
  exact vcFn_sound Tryz.callable Tryz.mixed Tryz.func63 (by kernel_rfl) (e.mpr h)
def merge_used_f1.an : Ann := (.seq (.reg (.op 0 [] .nil)) (.seq (.drw [0, 0, 3, 7, 0, 0, 48, 112, 255, 0, 0, 2047, 4095, 8191, 16383] (.op 0 [] (.op 1 [] (.op 2 [] (.op 3 [] (.op 4 [] (.op 5 [] (.op 6 [] (.op 7 [] (.op 9 [] (.op 10 [] (.op 8 [] (.op 11 [] (.op 12 [] (.op 13 [] (.op 14 [] .nil)))))))))))))))) .leaf))
def merge_used_f1.res (a0 : Value) (b1 : Value) (a2 : Value) (H0 : Heap) (R : Value → Heap → Prop) : Prop :=
 pLoad H0 a2 fun x6 =>
 pIdxSl 1 x6 a0 fun x8 =>
 pLoad H0 x8 fun x9 =>
 pLoad H0 a2 fun x10 =>
 pIdxSl 1 x10 b1 fun x12 =>
 pLoad H0 x12 fun x13 =>
 CallsH Tryz.prog 67 #[x9, x13] H0 fun x14 H_1 =>
 CallsH Tryz.prog 67 #[b1, a0] H_1 fun x17 H_2 =>
 pBuildSl H_2 3 2 [(.int .i64 0), (.int .i64 0)] [(0, 1, x14), (1, 1, x17)] fun x18 H_3 =>
 CallsH Tryz.prog 66 #[x18] H_3 fun x19 H_4 =>
 R x19 H_4
set_option maxRecDepth 100000 in
theorem merge_used_f1.vc (a0 : Value) (b1 : Value) (a2 : Value) (H0 : Heap) (R : Value → Heap → Prop) (h : merge_used_f1.res a0 b1 a2 H0 R) : CallsH Tryz.prog 65 #[a0, b1, a2] H0 R := by
  have e : vcFn Tryz.prog Tryz.C Tryz.f65 merge_used_f1.an [a0, b1, a2] H0 R = merge_used_f1.res a0 b1 a2 H0 R := by kernel_rfl
  exact vcFn_sound Tryz.callable Tryz.mixed Tryz.func65 (by kernel_rfl) (e.mpr h)
def canon_New.an : Ann := (.seq (.reg (.op 0 [] (.op 1 [] .nil))) (.seq (.reg (.op 0 [] .nil)) (.seq (.seq (.reg (.op 0 [] (.op 1 [] (.op 2 [] (.op 3 [] (.grp 3 (.op 4 [] (.op 5 [] (.op 6 [] .nil))) 7 .nil)))))) (.cond (.seq (.reg (.op 0 [] (.op 1 [] .nil))) .leaf) .leaf)) (.seq (.reg (.op 0 [] (.op 1 [] (.op 2 [] (.op 3 [] (.op 4 [] .nil)))))) (.seq (.reg (.op 0 [] (.op 1 [] (.op 2 [] .nil)))) (.seq (.block (.seq (.reg (.op 0 [] (.op 1 [] (.op 2 [] .nil)))) (.cond (.seq (.reg (.op 0 [] (.op 1 [] .nil))) .leaf) (.seq (.reg (.op 0 [] (.op 1 [] (.op 2 [] (.grp 2 (.op 3 [] (.op 4 [] (.grp 4 (.op 5 [] (.op 6 [] .nil)) 7 (.op 8 [] .nil)))) 9 (.op 10 [] .nil)))))) (.cond (.seq (.reg (.op 0 [] (.op 1 [] .nil))) .leaf) .leaf))))) (.seq (.reg (.op 0 [] (.op 1 [] .nil))) (.seq (.reg (.op 0 [] (.op 1 [] (.op 2 [] .nil)))) .leaf))))))))
def canon_New.res (lengths0 : Value) (loose1 : Value) (H0 : Heap) (R : Value → Heap → Prop) : Prop :=
 pLen lengths0 fun x10 =>
 pGt x10 (.int .i64 288) fun x11 =>
 pOr x11 (fun J_1 =>
 CallsH Tryz.prog 37 #[lengths0, (.func (.func 36) #[] #[])] H0 fun x15 H_3 =>
 J_1 x15 H_3) H0 fun x16 H_2 => ∀ _ : Env,
 pCond x16
 (R (.tuple #[(.pointer none), (.int .i64 1)]) H_2)
 (CallsH Tryz.prog 38 #[lengths0] H_2 fun x18 H_4 =>
 pBuild [(.slice none 0 0), (.slice none 0 0), (.int .i64 0), (.int .i64 0), (.int .i64 0), (.int .i64 0), (.int .i64 0), (.int .i64 0), (.int .i64 0), (.int .i64 0), (.int .i64 0), (.int .i64 0), (.int .i64 0), (.int .i64 0), (.int .i64 0), (.int .i64 0), (.int .i64 0), (.int .i64 0), (.slice none 0 0)] [(0, 1, x18)] fun x19 =>
 pBox H_4 90 x19 fun x20 H_5 =>
 CallsH Tryz.prog 39 #[x20] H_5 fun x22 H_6 =>
 pLt x22 (.int .i64 0) fun x25 =>
 pCond x25
 (R (.tuple #[(.pointer none), (.int .i64 5)]) H_6)
 (pGt x22 (.int .i64 0) fun x28 =>
 pAnd x28 (fun J_7 =>
 pAnd loose1 (fun J_9 =>
 CallsH Tryz.prog 40 #[x20] H_6 fun x33 H_11 =>
 J_9 x33 H_11) H_6 fun x34 H_10 => ∀ _ : Env,
 pNot x34 fun x35 =>
 J_7 x35 H_10) H_6 fun x36 H_8 => ∀ _ : Env,
 pCond x36
 (R (.tuple #[(.pointer none), (.int .i64 4)]) H_8)
 (CallsH Tryz.prog 41 #[x20] H_8 fun x38 H_12 =>
 R (.tuple #[x20, (.int .i64 0)]) H_12)))
set_option maxRecDepth 100000 in
theorem canon_New.vc (lengths0 : Value) (loose1 : Value) (H0 : Heap) (R : Value → Heap → Prop) (h : canon_New.res lengths0 loose1 H0 R) : CallsH Tryz.prog 13 #[lengths0, loose1] H0 R := by
  have e : vcFn Tryz.prog Tryz.C Tryz.f13 canon_New.an [lengths0, loose1] H0 R = canon_New.res lengths0 loose1 H0 R := by kernel_rfl
  exact vcFn_sound Tryz.callable Tryz.mixed Tryz.func13 (by kernel_rfl) (e.mpr h)
def canon_Code_Write.an : Ann := (.reg (.op 0 [] (.op 1 [] (.op 2 [] (.op 3 [] (.op 4 [] (.op 5 [] (.op 6 [] .nil))))))))
def canon_Code_Write.res (c0 : Value) (w1 : Value) (symbol2 : Value) (H0 : Heap) (R : Value → Heap → Prop) : Prop :=
 CallsH Tryz.prog 42 #[c0, symbol2] H0 fun x9 H_1 =>
 pExtract 0 x9 fun x10 =>
 pExtract 1 x9 fun x11 =>
 CallsH Tryz.prog 22 #[w1, x10, x11] H_1 fun x12 H_2 =>
 R (.tuple #[]) H_2
set_option maxRecDepth 100000 in
theorem canon_Code_Write.vc (c0 : Value) (w1 : Value) (symbol2 : Value) (H0 : Heap) (R : Value → Heap → Prop) (h : canon_Code_Write.res c0 w1 symbol2 H0 R) : CallsH Tryz.prog 14 #[c0, w1, symbol2] H0 R := by
  have e : vcFn Tryz.prog Tryz.C Tryz.f14 canon_Code_Write.an [c0, w1, symbol2] H0 R = canon_Code_Write.res c0 w1 symbol2 H0 R := by kernel_rfl
  exact vcFn_sound Tryz.callable Tryz.mixed Tryz.func14 (by kernel_rfl) (e.mpr h)
def canon_Code_Next.an : Ann := (.seq (.reg (.op 0 [] (.op 1 [] .nil))) (.seq (.seq (.reg (.op 0 [] (.op 1 [] (.op 2 [] (.grp 2 (.op 3 [] (.op 4 [] .nil)) 5 .nil))))) (.cond (.seq (.reg (.op 0 [] (.op 1 [] .nil))) .leaf) .leaf)) (.seq (.reg (.op 0 [] (.op 1 [] (.op 2 [] (.op 3 [] .nil))))) (.seq (.reg (.op 0 [] (.op 1 [] (.op 2 [] (.op 3 [] (.op 4 [] (.op 5 [] (.op 6 [] (.op 7 [] .nil))))))))) (.seq (.reg (.op 0 [] (.op 1 [] (.op 2 [] (.op 3 [] (.op 4 [] (.op 5 [] (.op 6 [] (.op 7 [] (.op 8 [] .nil)))))))))) (.seq (.block (.seq (.reg (.op 0 [] (.op 1 [] (.op 2 [] .nil)))) (.cond (.seq (.reg (.op 0 [] (.op 1 [] (.op 2 [] .nil)))) (.seq (.reg (.op 0 [] (.op 1 [] (.op 2 [] .nil)))) .leaf)) (.seq (.reg (.op 0 [] (.op 1 [] (.op 2 [] (.op 3 [] (.op 4 [] .nil)))))) (.cond (.seq (.reg (.op 0 [] (.op 1 [] .nil))) .leaf) .leaf))))) (.seq (.reg (.op 0 [] (.op 1 [] .nil))) .leaf)))))))
def canon_Code_Next.res (c0 : Value) (r1 : Value) (H0 : Heap) (R : Value → Heap → Prop) : Prop :=
 pEq 3 c0 (.pointer none) fun x12 =>
 pOr x12 (fun J_1 =>
 pEq 3 r1 (.pointer none) fun x15 =>
 J_1 x15 H0) H0 fun x16 H_2 => ∀ _ : Env,
 pCond x16
 (R (.tuple #[(.int .i64 0), (.int .i64 1)]) H_2)
 (CallsH Tryz.prog 19 #[r1] H_2 fun x18 H_3 =>
 pMin x18 (.int .i64 15) fun x19 =>
 CallsH Tryz.prog 43 #[r1, x19] H_3 fun x23 H_4 =>
 pExtract 0 x23 fun x24 =>
 pExtract 1 x23 fun x25 =>
 CallsH Tryz.prog 44 #[c0, x24, x19] H_4 fun x30 H_5 =>
 pExtract 0 x30 fun x31 =>
 pExtract 1 x30 fun x32 =>
 pGt x32 (.int .i64 0) fun x35 =>
 pCond x35
 (CallsH Tryz.prog 45 #[r1, x32] H_5 fun x38 H_6 =>
 R (.tuple #[x31, (.int .i64 0)]) H_6)
 (CallsH Tryz.prog 46 #[c0, x24, x19] H_5 fun x44 H_7 =>
 pCond x44
 (R (.tuple #[(.int .i64 0), (.int .i64 2)]) H_7)
 (R (.tuple #[(.int .i64 0), (.int .i64 4)]) H_7)))
set_option maxRecDepth 100000 in
theorem canon_Code_Next.vc (c0 : Value) (r1 : Value) (H0 : Heap) (R : Value → Heap → Prop) (h : canon_Code_Next.res c0 r1 H0 R) : CallsH Tryz.prog 18 #[c0, r1] H0 R := by
  have e : vcFn Tryz.prog Tryz.C Tryz.f18 canon_Code_Next.an [c0, r1] H0 R = canon_Code_Next.res c0 r1 H0 R := by kernel_rfl
  exact vcFn_sound Tryz.callable Tryz.mixed Tryz.func18 (by kernel_rfl) (e.mpr h)
def canon_New_f1.an : Ann := (.seq (.reg (.op 0 [] .nil)) (.seq (.reg (.op 0 [] (.op 1 [] (.op 2 [] (.grp 2 (.op 3 [] (.op 4 [] .nil)) 5 (.op 6 [] .nil)))))) .leaf))
def canon_New_f1.res (n0 : Value) (H0 : Heap) (R : Value → Heap → Prop) : Prop :=
 pLt n0 (.int .i64 0) fun x4 =>
 pOr x4 (fun J_1 =>
 pGt n0 (.int .i64 15) fun x7 =>
 J_1 x7 H0) H0 fun x8 H_2 => ∀ _ : Env,
 R x8 H_2
set_option maxRecDepth 100000 in
theorem canon_New_f1.vc (n0 : Value) (H0 : Heap) (R : Value → Heap → Prop) (h : canon_New_f1.res n0 H0 R) : CallsH Tryz.prog 36 #[n0] H0 R := by
  have e : vcFn Tryz.prog Tryz.C Tryz.f36 canon_New_f1.an [n0] H0 R = canon_New_f1.res n0 H0 R := by kernel_rfl
  exact vcFn_sound Tryz.callable Tryz.mixed Tryz.func36 (by kernel_rfl) (e.mpr h)
def canon_Code_fill.an : Ann := (.seq (.reg (.op 0 [] .nil)) (.seq (.seq (.reg (.op 0 [] (.op 1 [] (.op 2 [] (.op 3 [] (.op 4 [] (.op 5 [] .nil))))))) (.block (.loop [12] [4, 12, 13, 14, 15, 16, 17, 18, 19, 20, 21, 22, 23, 24, 25, 26, 27, 28] (.seq (.reg (.op 0 [] .nil)) (.seq (.cond .leaf .leaf) (.seq (.block (.seq (.reg (.op 0 [] (.op 1 [] (.op 2 [] .nil)))) (.seq (.reg (.op 0 [] (.op 1 [] .nil))) (.cond (.drw [0, 0, 1, 5, 15, 31, 63, 1, 129, 511, 1023] (.op 0 [] (.op 1 [] (.op 2 [] (.op 3 [] (.op 4 [] (.op 5 [] (.op 6 [] (.op 7 [] (.op 8 [] (.op 9 [] (.op 10 [] .nil)))))))))))) .leaf)))) (.reg (.op 0 [] (.op 1 [] .nil))))))))) (.seq (.reg (.op 0 [] .nil)) (.seq (.seq (.reg (.op 0 [] .nil)) (.block (.loop [5, 6] [2, 5, 6, 29, 30, 31, 32, 33, 34, 35, 36, 37, 38, 39, 40, 41, 42, 43, 44] (.seq (.seq (.reg (.op 0 [] (.op 1 [] .nil))) (.cond .leaf .leaf)) (.seq (.block (.seq (.reg (.op 0 [] (.op 1 [] (.op 2 [] (.op 3 [] (.op 4 [] (.op 5 [] (.op 6 [] (.op 7 [] (.op 8 [] (.op 9 [] .nil))))))))))) (.seq (.reg (.op 0 [] (.op 1 [] .nil))) (.cond (.seq (.reg (.op 0 [] (.op 1 [] .nil))) .leaf) .leaf)))) (.reg (.op 0 [] (.op 1 [] (.op 2 [] .nil))))))))) (.seq (.reg (.op 0 [] (.op 1 [] .nil))) .leaf)))))
def canon_Code_fill.res (c0 : Value) (H0 : Heap) (R : Value → Heap → Prop) : Prop :=
 pNil c0 fun x8 =>
 pFieldAddr 0 x8 fun x9 =>
 pLoad H0 x9 fun x10 =>
 pLen x10 fun x11 =>
 ∃ (I_1 : Value → Heap → Prop) (m_2 : Value → Heap → Nat), I_1 (.int .i64 0) H0 ∧
 ∀ _ : Env, ∀ x12 : Value, ∀ H_3 : Heap, I_1 x12 H_3 →
 pLt x12 x11 fun x13 =>
 pCond x13
 (pIdxSl 1 x10 x12 fun x14 =>
 pLoad H_3 x14 fun x15 =>
 pGt x15 (.int .i64 0) fun x17 =>
 pCond x17
 (pNil c0 fun x20 =>
 pFieldAddr 2 x20 fun x21 =>
 pIdxArr 16 1 x21 x15 fun x22 =>
 pLoad H_3 x22 fun x23 =>
 pAdd x23 (.int .i64 1) fun x24 =>
 pNil c0 fun x25 =>
 pFieldAddr 2 x25 fun x26 =>
 pIdxArr 16 1 x26 x15 fun x27 =>
 pStore H_3 x27 x24 fun _ H_4 =>
 pAdd x12 (.int .i64 1) fun x28 =>
 I_1 x28 H_4 ∧ m_2 x28 H_4 < m_2 x12 H_3)
 (pAdd x12 (.int .i64 1) fun x28 =>
 I_1 x28 H_3 ∧ m_2 x28 H_3 < m_2 x12 H_3))
 (∃ (I_5 : Value → Value → Heap → Prop) (m_6 : Value → Value → Heap → Nat), I_5 (.int .i64 1) (.int .i64 1) H_3 ∧
 ∀ _ : Env, ∀ left5 : Value, ∀ n6 : Value, ∀ H_7 : Heap, I_5 left5 n6 H_7 →
 pLe n6 (.int .i64 15) fun x30 =>
 pCond x30
 (pMul (.int .i64 2) left5 fun x34 =>
 pNil c0 fun x37 =>
 pFieldAddr 2 x37 fun x38 =>
 pIdxArr 16 1 x38 n6 fun x39 =>
 pLoad H_7 x39 fun x40 =>
 pSub x34 x40 fun x41 =>
 pLt x41 (.int .i64 0) fun x43 =>
 pCond x43
 (R x41 H_7)
 (pAdd n6 (.int .i64 1) fun x32 =>
 I_5 x41 x32 H_7 ∧ m_6 x41 x32 H_7 < m_6 left5 n6 H_7))
 (R left5 H_7))
set_option maxRecDepth 100000 in
theorem canon_Code_fill.vc (c0 : Value) (H0 : Heap) (R : Value → Heap → Prop) (h : canon_Code_fill.res c0 H0 R) : CallsH Tryz.prog 39 #[c0] H0 R := by
  have e : vcFn Tryz.prog Tryz.C Tryz.f39 canon_Code_fill.an [c0] H0 R = canon_Code_fill.res c0 H0 R := by kernel_rfl
  exact vcFn_sound Tryz.callable Tryz.mixed Tryz.func39 (by kernel_rfl) (e.mpr h)
def canon_Code_slack.an : Ann := (.seq (.reg (.op 0 [] .nil)) (.seq (.reg (.op 0 [] .nil)) (.seq (.seq (.reg (.op 0 [] (.op 1 [] (.op 2 [] (.op 3 [] (.op 4 [] .nil)))))) (.block (.loop [3, 10] [3, 5, 10, 11, 12, 13, 14, 15, 16] (.seq (.reg (.op 0 [] .nil)) (.seq (.cond .leaf .leaf) (.seq (.block (.seq (.reg (.op 0 [] (.op 1 [] .nil))) (.reg (.op 0 [] (.op 1 [] (.op 2 [] (.op 3 [] .nil))))))) (.reg (.op 0 [] (.op 1 [] .nil))))))))) (.seq (.reg (.op 0 [] (.op 1 [] (.op 2 [] (.grp 2 (.op 3 [] (.op 4 [] (.op 5 [] (.grp 5 (.op 6 [] (.op 7 [] (.op 8 [] (.op 9 [] (.op 10 [] (.op 11 [] .nil)))))) 12 .nil)))) 13 (.op 14 [] .nil)))))) .leaf))))
def canon_Code_slack.res (c0 : Value) (H0 : Heap) (R : Value → Heap → Prop) : Prop :=
 pNil c0 fun x7 =>
 pFieldAddr 2 x7 fun x8 =>
 pLoadN H0 16 x8 fun x9 =>
 ∃ (I_1 : Value → Value → Heap → Prop) (m_2 : Value → Value → Heap → Nat), I_1 (.int .i64 0) (.int .i64 0) H0 ∧
 ∀ _ : Env, ∀ all3 : Value, ∀ x10 : Value, ∀ H_3 : Heap, I_1 all3 x10 H_3 →
 pLt x10 (.int .i64 16) fun x11 =>
 pCond x11
 (pIdxAgg 16 x9 x10 fun x12 =>
 pAdd all3 x12 fun x15 =>
 pAdd x10 (.int .i64 1) fun x16 =>
 I_1 x15 x16 H_3 ∧ m_2 x15 x16 H_3 < m_2 all3 x10 H_3)
 (pEq 0 all3 (.int .i64 0) fun x18 =>
 pOr x18 (fun J_4 =>
 pEq 0 all3 (.int .i64 1) fun x21 =>
 pAnd x21 (fun J_6 =>
 pNil c0 fun x24 =>
 pFieldAddr 2 x24 fun x25 =>
 pIdxArr 16 1 x25 (.int .i64 1) fun x26 =>
 pLoad H_3 x26 fun x27 =>
 pEq 0 x27 (.int .i64 1) fun x28 =>
 J_6 x28 H_3) H_3 fun x29 H_7 => ∀ _ : Env,
 J_4 x29 H_7) H_3 fun x30 H_5 => ∀ _ : Env,
 R x30 H_5)
set_option maxRecDepth 100000 in
theorem canon_Code_slack.vc (c0 : Value) (H0 : Heap) (R : Value → Heap → Prop) (h : canon_Code_slack.res c0 H0 R) : CallsH Tryz.prog 40 #[c0] H0 R := by
  have e : vcFn Tryz.prog Tryz.C Tryz.f40 canon_Code_slack.an [c0] H0 R = canon_Code_slack.res c0 H0 R := by kernel_rfl
  exact vcFn_sound Tryz.callable Tryz.mixed Tryz.func40 (by kernel_rfl) (e.mpr h)
def canon_Code_assign.an : Ann := (.seq (.reg (.op 0 [] (.op 1 [] (.op 2 [] (.op 3 [] (.op 4 [] (.op 5 [] (.op 6 [] (.op 7 [] (.op 8 [] (.op 9 [] .nil))))))))))) (.seq (.reg (.op 0 [] .nil)) (.seq (.reg (.op 0 [] .nil)) (.block (.loop [2, 3] [2, 3, 4, 5, 15, 16, 17, 18, 19, 20, 21, 22, 23, 24, 25, 26, 27, 28, 29, 30, 31, 32, 33, 34, 35, 36, 37, 38, 39, 40, 41, 42, 43, 44, 45, 46, 47, 48, 49, 50, 51, 52, 53, 54, 55, 56, 57] (.seq (.seq (.reg (.op 0 [] (.op 1 [] .nil))) (.cond .leaf .leaf)) (.seq (.block (.seq (.reg (.op 0 [] (.op 1 [] (.op 2 [] .nil)))) (.seq (.reg (.op 0 [] (.op 1 [] (.op 2 [] (.op 3 [] (.op 4 [] (.op 5 [] .nil))))))) (.block (.loop [2, 26] [2, 4, 5, 26, 27, 28, 29, 30, 31, 32, 33, 34, 35, 36, 37, 38, 39, 40, 41, 42, 43, 44, 45, 46, 47, 48, 49, 50, 51, 52, 53, 54, 55, 56, 57] (.seq (.reg (.op 0 [] .nil)) (.seq (.cond .leaf .leaf) (.seq (.block (.seq (.reg (.op 0 [] (.op 1 [] (.op 2 [] (.op 3 [] (.op 4 [] .nil)))))) (.seq (.reg (.op 0 [] (.op 1 [] (.op 2 [] .nil)))) (.cond (.seq (.drw [0, 1, 3, 7, 0, 0, 0, 96, 0, 480, 1023, 2047] (.op 0 [] (.op 1 [] (.op 2 [] (.op 3 [] (.op 4 [] (.op 5 [] (.op 6 [] (.op 8 [] (.op 7 [3] (.op 9 [] (.op 10 [] (.op 11 [] .nil))))))))))))) (.seq (.reg (.op 0 [] (.op 1 [] (.op 2 [] (.op 3 [] (.op 4 [] (.op 5 [] (.op 6 [] (.op 7 [] (.op 8 [] (.op 9 [] (.op 10 [] .nil)))))))))))) (.reg (.op 0 [] (.op 1 [] (.op 2 [] .nil)))))) .leaf)))) (.reg (.op 0 [] (.op 1 [] .nil))))))))))) (.reg (.op 0 [] (.op 1 [] (.op 2 [] .nil)))))))))))
def canon_Code_assign.res (c0 : Value) (H0 : Heap) (R : Value → Heap → Prop) : Prop :=
 pNil c0 fun x8 =>
 pFieldAddr 0 x8 fun x9 =>
 pLoad H0 x9 fun x10 =>
 pLen x10 fun x11 =>
 pMakeSl H0 124 16 [(.int .u64 0), (.int .i64 0)] x11 x11 fun x12 H_1 =>
 pNil c0 fun x13 =>
 pFieldAddr 1 x13 fun x14 =>
 pStore H_1 x14 x12 fun _ H_2 =>
 ∃ (I_3 : Value → Value → Heap → Prop) (m_4 : Value → Value → Heap → Nat), I_3 (.int .u64 0) (.int .i64 1) H_2 ∧
 ∀ _ : Env, ∀ next2 : Value, ∀ n3 : Value, ∀ H_5 : Heap, I_3 next2 n3 H_5 →
 pLe n3 (.int .i64 15) fun x16 =>
 pCond x16
 (pShl next2 (.int .u64 1) fun x20 =>
 pNil c0 fun x22 =>
 pFieldAddr 0 x22 fun x23 =>
 pLoad H_5 x23 fun x24 =>
 pLen x24 fun x25 =>
 ∃ (I_6 : Value → Value → Heap → Prop) (m_7 : Value → Value → Heap → Nat), I_6 x20 (.int .i64 0) H_5 ∧
 ∀ _ : Env, ∀ next2' : Value, ∀ x26 : Value, ∀ H_8 : Heap, I_6 next2' x26 H_8 →
 pLt x26 x25 fun x27 =>
 pCond x27
 (pIdxSl 1 x24 x26 fun x29 =>
 pLoad H_8 x29 fun x30 =>
 pEq 0 x30 n3 fun x33 =>
 pCond x33
 (pNil c0 fun x35 =>
 pFieldAddr 1 x35 fun x36 =>
 pLoad H_8 x36 fun x37 =>
 CallsH Tryz.prog 70 #[next2', n3] H_8 fun x41 H_9 =>
 (pLoad H_9 x36 fun r_ =>
 r_ = x37) ∧
 pBuild [(.int .u64 0), (.int .i64 0)] [(0, 1, x41), (1, 1, n3)] fun x43 =>
 pIdxSl 2 x37 x26 fun x44 =>
 pStoreN H_9 2 x44 x43 fun _ H_10 =>
 pNil c0 fun x47 =>
 pFieldAddr 18 x47 fun x48 =>
 pLoad H_10 x48 fun x49 =>
 pBuildSl H_10 3 1 [(.int .i64 0)] [(0, 1, x26)] fun x51 H_11 =>
 pAppend H_11 3 1 8 [(.int .i64 0)] x49 x51 fun x52 H_12 =>
 pNil c0 fun x53 =>
 pFieldAddr 18 x53 fun x54 =>
 pStore H_12 x54 x52 fun _ H_13 =>
 pAdd next2' (.int .u64 1) fun x56 =>
 pAdd x26 (.int .i64 1) fun x57 =>
 I_6 x56 x57 H_13 ∧ m_7 x56 x57 H_13 < m_7 next2' x26 H_8)
 (pAdd x26 (.int .i64 1) fun x57 =>
 I_6 next2' x57 H_8 ∧ m_7 next2' x57 H_8 < m_7 next2' x26 H_8))
 (pAdd n3 (.int .i64 1) fun x18 =>
 I_3 next2' x18 H_8 ∧ m_4 next2' x18 H_8 < m_4 next2 n3 H_5))
 (R (.tuple #[]) H_5)
set_option maxRecDepth 100000 in
theorem canon_Code_assign.vc (c0 : Value) (H0 : Heap) (R : Value → Heap → Prop) (h : canon_Code_assign.res c0 H0 R) : CallsH Tryz.prog 41 #[c0] H0 R := by
  have e : vcFn Tryz.prog Tryz.C Tryz.f41 canon_Code_assign.an [c0] H0 R = canon_Code_assign.res c0 H0 R := by kernel_rfl
  exact vcFn_sound Tryz.callable Tryz.mixed Tryz.func41 (by kernel_rfl) (e.mpr h)
def canon_Code_Word.an : Ann := (.seq (.reg (.op 0 [] (.op 1 [] .nil))) (.seq (.seq (.reg (.op 0 [] (.op 1 [] (.op 2 [] (.grp 2 (.op 3 [] (.op 4 [] .nil)) 5 (.op 6 [] (.grp 6 (.op 7 [] (.op 8 [] (.op 9 [] (.op 10 [] (.op 11 [] (.op 12 [] (.op 13 [] .nil))))))) 14 .nil))))))) (.cond (.seq (.reg (.op 0 [] (.op 1 [] .nil))) .leaf) .leaf)) (.seq (.drw [0, 1, 3, 7, 0, 31, 63, 127, 0, 256, 768, 1792, 0, 7936, 16128, 32512, 255, 131071] (.op 0 [] (.op 1 [] (.op 2 [] (.op 3 [] (.op 4 [] (.op 5 [] (.op 6 [] (.op 7 [] (.op 8 [] (.op 9 [] (.op 10 [] (.op 11 [] (.op 12 [] (.op 13 [] (.op 14 [] (.op 15 [] (.op 16 [] (.op 17 [] .nil))))))))))))))))))) .leaf)))
def canon_Code_Word.res (c0 : Value) (symbol1 : Value) (H0 : Heap) (R : Value → Heap → Prop) : Prop :=
 pEq 3 c0 (.pointer none) fun x7 =>
 pOr x7 (fun J_1 =>
 pLt symbol1 (.int .i64 0) fun x10 =>
 J_1 x10 H0) H0 fun x11 H_2 => ∀ _ : Env,
 pOr x11 (fun J_3 =>
 pNil c0 fun x15 =>
 pFieldAddr 1 x15 fun x16 =>
 pLoad H_2 x16 fun x17 =>
 pLen x17 fun x18 =>
 pGe symbol1 x18 fun x19 =>
 J_3 x19 H_2) H_2 fun x20 H_4 => ∀ _ : Env,
 pCond x20
 (R (.tuple #[(.int .u64 0), (.int .i64 0)]) H_4)
 (pNil c0 fun x22 =>
 pFieldAddr 1 x22 fun x23 =>
 pLoad H_4 x23 fun x24 =>
 pIdxSl 2 x24 symbol1 fun x26 =>
 pFieldAddr 0 x26 fun x27 =>
 pLoad H_4 x27 fun x28 =>
 pNil c0 fun x30 =>
 pFieldAddr 1 x30 fun x31 =>
 pLoad H_4 x31 fun x32 =>
 pIdxSl 2 x32 symbol1 fun x34 =>
 pFieldAddr 1 x34 fun x35 =>
 pLoad H_4 x35 fun x36 =>
 R (.tuple #[x28, x36]) H_4)
set_option maxRecDepth 100000 in
theorem canon_Code_Word.vc (c0 : Value) (symbol1 : Value) (H0 : Heap) (R : Value → Heap → Prop) (h : canon_Code_Word.res c0 symbol1 H0 R) : CallsH Tryz.prog 42 #[c0, symbol1] H0 R := by
  have e : vcFn Tryz.prog Tryz.C Tryz.f42 canon_Code_Word.an [c0, symbol1] H0 R = canon_Code_Word.res c0 symbol1 H0 R := by kernel_rfl
  exact vcFn_sound Tryz.callable Tryz.mixed Tryz.func42 (by kernel_rfl) (e.mpr h)
def canon_Code_find.an : Ann := (.seq (.reg (.op 0 [] (.op 1 [] .nil))) (.seq (.reg (.op 0 [] (.op 1 [] (.op 2 [] .nil)))) (.seq (.seq (.reg (.op 0 [] .nil)) (.block (.loop [1, 8, 9, 10, 11] [1, 6, 7, 8, 9, 10, 11, 12, 13, 14, 15, 16, 17, 18, 19, 20, 21, 22, 23, 24, 25, 26, 27, 28, 29, 30, 31, 32, 33, 34, 35, 36, 37, 38, 39, 40, 41, 42, 43, 44, 45, 46, 47, 48, 49, 50, 51, 52, 53, 54, 55, 56, 57, 58, 59, 60, 61, 62, 63, 64, 65, 66] (.seq (.seq (.reg (.op 0 [] (.op 1 [] (.op 2 [] .nil)))) (.cond .leaf .leaf)) (.seq (.block (.seq (.reg (.op 0 [] (.op 1 [] (.op 2 [] (.op 3 [] (.op 4 [] (.op 5 [] .nil))))))) (.seq (.reg (.op 0 [] (.op 1 [] (.op 2 [] .nil)))) (.seq (.seq (.reg (.op 0 [] (.op 1 [] (.op 2 [] (.op 3 [] (.op 4 [] (.op 5 [] (.op 6 [] .nil)))))))) (.seq (.reg (.op 0 [] (.op 1 [] (.op 2 [] (.op 3 [] (.op 4 [] .nil)))))) (.cond (.seq (.reg (.op 0 [] (.op 1 [] (.op 2 [] (.op 3 [] (.op 4 [] (.op 5 [] (.op 6 [] (.op 7 [] (.op 8 [] (.op 9 [] (.op 10 [] (.op 11 [] (.op 12 [] (.op 13 [] .nil))))))))))))))) .leaf) .leaf))) (.seq (.reg (.op 0 [] (.op 1 [] (.op 2 [] (.op 3 [] (.op 4 [] (.op 5 [] (.op 6 [] (.op 7 [] (.op 8 [] .nil)))))))))) (.seq (.reg (.op 0 [] (.op 1 [] (.op 2 [] (.op 3 [] (.op 4 [] (.op 5 [] (.op 6 [] (.op 7 [] (.op 8 [] (.op 9 [] .nil))))))))))) (.reg (.op 0 [] (.op 1 [] (.op 2 [] .nil)))))))))) (.reg (.op 0 [] (.op 1 [] (.op 2 [] .nil))))))))) (.seq (.reg (.op 0 [] (.op 1 [] .nil))) .leaf))))
def canon_Code_find.res (c0 : Value) (v1 : Value) (have2 : Value) (H0 : Heap) (R : Value → Heap → Prop) : Prop :=
 ∃ (I_1 : Value → Value → Value → Value → Value → Heap → Prop) (m_2 : Value → Value → Value → Value → Value → Heap → Nat), I_1 v1 (.int .i64 0) (.int .i64 0) (.int .i64 0) (.int .i64 1) H0 ∧
 ∀ _ : Env, ∀ v1' : Value, ∀ word8 : Value, ∀ first9 : Value, ∀ index10 : Value, ∀ n11 : Value, ∀ H_3 : Heap, I_1 v1' word8 first9 index10 n11 H_3 →
 pLe n11 have2 fun x15 =>
 pCond x15
 (pBits .and v1' (.int .u64 1) fun x20 =>
 pConv .i64 x20 fun x21 =>
 pBits .or word8 x21 fun x22 =>
 pShr v1' (.int .u64 1) fun x24 =>
 pNil c0 fun x27 =>
 pFieldAddr 2 x27 fun x28 =>
 pIdxArr 16 1 x28 n11 fun x29 =>
 pLoad H_3 x29 fun x30 =>
 pSub x22 first9 fun x33 =>
 pLt x33 x30 fun x35 =>
 pCond x35
 (pNil c0 fun x37 =>
 pFieldAddr 18 x37 fun x38 =>
 pLoad H_3 x38 fun x39 =>
 pAdd index10 x22 fun x42 =>
 pSub x42 first9 fun x44 =>
 pIdxSl 1 x39 x44 fun x45 =>
 pLoad H_3 x45 fun x46 =>
 R (.tuple #[x46, n11]) H_3)
 (pNil c0 fun x51 =>
 pFieldAddr 2 x51 fun x52 =>
 pIdxArr 16 1 x52 n11 fun x53 =>
 pLoad H_3 x53 fun x54 =>
 pAdd index10 x54 fun x55 =>
 pNil c0 fun x59 =>
 pFieldAddr 2 x59 fun x60 =>
 pIdxArr 16 1 x60 n11 fun x61 =>
 pLoad H_3 x61 fun x62 =>
 pAdd first9 x62 fun x63 =>
 pShl x63 (.int .u64 1) fun x64 =>
 pShl x22 (.int .u64 1) fun x66 =>
 pAdd n11 (.int .i64 1) fun x17 =>
 I_1 x24 x66 x64 x55 x17 H_3 ∧ m_2 x24 x66 x64 x55 x17 H_3 < m_2 v1' word8 first9 index10 n11 H_3))
 (R (.tuple #[(.int .i64 0), (.int .i64 0)]) H_3)
set_option maxRecDepth 100000 in
theorem canon_Code_find.vc (c0 : Value) (v1 : Value) (have2 : Value) (H0 : Heap) (R : Value → Heap → Prop) (h : canon_Code_find.res c0 v1 have2 H0 R) : CallsH Tryz.prog 44 #[c0, v1, have2] H0 R := by
  have e : vcFn Tryz.prog Tryz.C Tryz.f44 canon_Code_find.an [c0, v1, have2] H0 R = canon_Code_find.res c0 v1 have2 H0 R := by kernel_rfl
  exact vcFn_sound Tryz.callable Tryz.mixed Tryz.func44 (by kernel_rfl) (e.mpr h)
def canon_Code_open.an : Ann := (.seq (.reg (.op 0 [] (.op 1 [] (.op 2 [] .nil)))) (.seq (.reg (.op 0 [] (.op 1 [] (.op 2 [] (.op 3 [] (.op 4 [] .nil)))))) (.seq (.reg (.op 0 [] (.op 1 [] (.op 2 [] (.op 3 [] (.op 4 [] (.op 5 [] (.op 6 [] .nil)))))))) .leaf)))
def canon_Code_open.res (c0 : Value) (v1 : Value) (have2 : Value) (H0 : Heap) (R : Value → Heap → Prop) : Prop :=
 pBox H0 25 v1 fun v4 H_1 =>
 pBox H_1 3 have2 fun have5 H_2 =>
 pLoad H_2 have5 fun x8 =>
 pShl (.int .u64 1) x8 fun x9 =>
 pSub x9 (.int .u64 1) fun x10 =>
 pBox H_2 25 (.int .u64 0) fun mask7 H_3 =>
 pStore H_3 mask7 x10 fun _ H_4 =>
 pNil c0 fun x12 =>
 pFieldAddr 1 x12 fun x13 =>
 pLoad H_4 x13 fun x14 =>
 CallsH Tryz.prog 73 #[x14, (.func (.func 74) #[] #[have5, mask7, v4])] H_4 fun x16 H_5 =>
 R x16 H_5
set_option maxRecDepth 100000 in
theorem canon_Code_open.vc (c0 : Value) (v1 : Value) (have2 : Value) (H0 : Heap) (R : Value → Heap → Prop) (h : canon_Code_open.res c0 v1 have2 H0 R) : CallsH Tryz.prog 46 #[c0, v1, have2] H0 R := by
  have e : vcFn Tryz.prog Tryz.C Tryz.f46 canon_Code_open.an [c0, v1, have2] H0 R = canon_Code_open.res c0 v1 have2 H0 R := by kernel_rfl
  exact vcFn_sound Tryz.callable Tryz.mixed Tryz.func46 (by kernel_rfl) (e.mpr h)
def canon_Code_Lengths.an : Ann := (.seq (.reg (.op 0 [] .nil)) (.seq (.seq (.reg (.op 0 [] (.op 1 [] .nil))) (.cond (.seq (.reg (.op 0 [] .nil)) .leaf) .leaf)) (.seq (.reg (.op 0 [] (.op 1 [] (.op 2 [] (.op 3 [] (.op 4 [] (.op 5 [] .nil))))))) .leaf)))
def canon_Code_Lengths.res (c0 : Value) (H0 : Heap) (R : Value → Heap → Prop) : Prop :=
 pEq 3 c0 (.pointer none) fun x4 =>
 pCond x4
 (R (.slice none 0 0) H0)
 (pNil c0 fun x6 =>
 pFieldAddr 0 x6 fun x7 =>
 pLoad H0 x7 fun x8 =>
 CallsH Tryz.prog 38 #[x8] H0 fun x9 H_1 =>
 R x9 H_1)
set_option maxRecDepth 100000 in
theorem canon_Code_Lengths.vc (c0 : Value) (H0 : Heap) (R : Value → Heap → Prop) (h : canon_Code_Lengths.res c0 H0 R) : CallsH Tryz.prog 59 #[c0] H0 R := by
  have e : vcFn Tryz.prog Tryz.C Tryz.f59 canon_Code_Lengths.an [c0] H0 R = canon_Code_Lengths.res c0 H0 R := by kernel_rfl
  exact vcFn_sound Tryz.callable Tryz.mixed Tryz.func59 (by kernel_rfl) (e.mpr h)
def canon_turned.an : Ann := (.seq (.reg (.op 0 [] .nil)) (.seq (.reg (.op 0 [] .nil)) (.seq (.seq (.reg (.op 0 [] (.op 1 [] .nil))) (.block (.loop [0, 5, 7] [0, 5, 7, 8, 9, 10, 11, 12, 13, 14, 15, 16] (.seq (.reg (.op 0 [] .nil)) (.seq (.cond .leaf .leaf) (.seq (.block (.seq (.reg (.op 0 [] (.op 1 [] (.op 2 [] (.op 3 [] (.op 4 [] (.op 5 [] .nil))))))) (.reg (.op 0 [] (.op 1 [] (.op 2 [] .nil)))))) (.reg (.op 0 [] (.op 1 [] .nil))))))))) (.seq (.reg (.op 0 [] (.op 1 [] .nil))) .leaf))))
def canon_turned.res (v0 : Value) (n1 : Value) (H0 : Heap) (R : Value → Heap → Prop) : Prop :=
 ∃ (I_1 : Value → Value → Value → Heap → Prop) (m_2 : Value → Value → Value → Heap → Nat), I_1 v0 (.int .u64 0) (.int .i64 0) H0 ∧
 ∀ _ : Env, ∀ v0' : Value, ∀ out5 : Value, ∀ x7 : Value, ∀ H_3 : Heap, I_1 v0' out5 x7 H_3 →
 pLt x7 n1 fun x8 =>
 pCond x8
 (pShl out5 (.int .u64 1) fun x10 =>
 pBits .and v0' (.int .u64 1) fun x12 =>
 pBits .or x10 x12 fun x13 =>
 pShr v0' (.int .u64 1) fun x15 =>
 pAdd x7 (.int .i64 1) fun x16 =>
 I_1 x15 x13 x16 H_3 ∧ m_2 x15 x13 x16 H_3 < m_2 v0' out5 x7 H_3)
 (R out5 H_3)
set_option maxRecDepth 100000 in
theorem canon_turned.vc (v0 : Value) (n1 : Value) (H0 : Heap) (R : Value → Heap → Prop) (h : canon_turned.res v0 n1 H0 R) : CallsH Tryz.prog 70 #[v0, n1] H0 R := by
  have e : vcFn Tryz.prog Tryz.C Tryz.f70 canon_turned.an [v0, n1] H0 R = canon_turned.res v0 n1 H0 R := by kernel_rfl
  exact vcFn_sound Tryz.callable Tryz.mixed Tryz.func70 (by kernel_rfl) (e.mpr h)
def canon_Code_open_f1.an : Ann := (.seq (.reg (.op 0 [] (.op 1 [] .nil))) (.seq (.reg (.op 0 [] (.op 1 [] (.op 2 [] (.op 3 [] (.op 4 [] (.grp 4 (.op 5 [] (.op 6 [] (.op 7 [] (.op 8 [] (.op 9 [] (.op 10 [] .nil)))))) 11 (.op 12 [] .nil)))))))) .leaf))
def canon_Code_open_f1.res (w0 : Value) (a1 : Value) (a2 : Value) (a3 : Value) (H0 : Heap) (R : Value → Heap → Prop) : Prop :=
 pBox H0 124 w0 fun w4 H_1 =>
 pFieldAddr 1 w4 fun x6 =>
 pLoad H_1 x6 fun x7 =>
 pLoad H_1 a1 fun x8 =>
 pGt x7 x8 fun x9 =>
 pAnd x9 (fun J_2 =>
 pFieldAddr 0 w4 fun x11 =>
 pLoad H_1 x11 fun x12 =>
 pLoad H_1 a2 fun x13 =>
 pBits .and x12 x13 fun x14 =>
 pLoad H_1 a3 fun x15 =>
 pEq 0 x14 x15 fun x16 =>
 J_2 x16 H_1) H_1 fun x17 H_3 => ∀ _ : Env,
 R x17 H_3
set_option maxRecDepth 100000 in
theorem canon_Code_open_f1.vc (w0 : Value) (a1 : Value) (a2 : Value) (a3 : Value) (H0 : Heap) (R : Value → Heap → Prop) (h : canon_Code_open_f1.res w0 a1 a2 a3 H0 R) : CallsH Tryz.prog 74 #[w0, a1, a2, a3] H0 R := by
  have e : vcFn Tryz.prog Tryz.C Tryz.f74 canon_Code_open_f1.an [w0, a1, a2, a3] H0 R = canon_Code_open_f1.res w0 a1 a2 a3 H0 R := by kernel_rfl
  exact vcFn_sound Tryz.callable Tryz.mixed Tryz.func74 (by kernel_rfl) (e.mpr h)
def strings_Builder_Reset.an : Ann := (.seq (.reg (.op 0 [] (.op 1 [] (.op 2 [] (.op 3 [] .nil))))) (.reg (.op 0 [] (.op 1 [] (.op 2 [] (.op 3 [] .nil))))))
def strings_Builder_Reset.res (b0 : Value) (H0 : Heap) (R : Value → Heap → Prop) : Prop :=
 pNil b0 fun x3 =>
 pFieldAddr 0 x3 fun x4 =>
 pStore H0 x4 (.pointer none) fun _ H_1 =>
 pNil b0 fun x6 =>
 pFieldAddr 1 x6 fun x7 =>
 pStore H_1 x7 (.slice none 0 0) fun _ H_2 =>
 R (.tuple #[]) H_2
set_option maxRecDepth 100000 in
theorem strings_Builder_Reset.vc (b0 : Value) (H0 : Heap) (R : Value → Heap → Prop) (h : strings_Builder_Reset.res b0 H0 R) : CallsH Tryz.prog 29 #[b0] H0 R := by
  have e : vcFn Tryz.prog Tryz.C Tryz.f29 strings_Builder_Reset.an [b0] H0 R = strings_Builder_Reset.res b0 H0 R := by kernel_rfl
  exact vcFn_sound Tryz.callable Tryz.mixed Tryz.func29 (by kernel_rfl) (e.mpr h)
def strings_Builder_WriteString.an : Ann := (.seq (.reg (.op 0 [] (.op 1 [] .nil))) (.seq (.reg (.op 0 [] (.op 1 [] .nil))) (.seq (.reg (.op 0 [] (.op 1 [] (.op 2 [] (.op 3 [] (.op 4 [] (.op 5 [] (.op 6 [] (.op 7 [] (.op 8 [] (.op 9 [] .nil))))))))))) (.seq (.reg (.op 0 [] (.op 1 [] (.op 2 [] (.op 3 [] .nil))))) .leaf))))
def strings_Builder_WriteString.res (b0 : Value) (s1 : Value) (H0 : Heap) (R : Value → Heap → Prop) : Prop :=
 CallsH Tryz.prog 103 #[b0] H0 fun x7 H_1 =>
 pNil b0 fun x10 =>
 pFieldAddr 1 x10 fun x11 =>
 pLoad H_1 x11 fun x12 =>
 pAppend H_1 5 1 1 [(.int .u8 0)] x12 s1 fun x14 H_2 =>
 pNil b0 fun x15 =>
 pFieldAddr 1 x15 fun x16 =>
 pStore H_2 x16 x14 fun _ H_3 =>
 pLenS s1 fun x18 =>
 R (.tuple #[x18, .nilIface]) H_3
set_option maxRecDepth 100000 in
theorem strings_Builder_WriteString.vc (b0 : Value) (s1 : Value) (H0 : Heap) (R : Value → Heap → Prop) (h : strings_Builder_WriteString.res b0 s1 H0 R) : CallsH Tryz.prog 89 #[b0, s1] H0 R := by
  have e : vcFn Tryz.prog Tryz.C Tryz.f89 strings_Builder_WriteString.an [b0, s1] H0 R = strings_Builder_WriteString.res b0 s1 H0 R := by kernel_rfl
  exact vcFn_sound Tryz.callable Tryz.mixed Tryz.func89 (by kernel_rfl) (e.mpr h)
def strings_Builder_WriteByte.an : Ann := (.seq (.reg (.op 0 [] .nil)) (.seq (.reg (.op 0 [] (.op 1 [] .nil))) (.seq (.reg (.op 0 [] (.op 1 [] (.op 2 [] (.op 3 [] (.op 4 [] (.op 5 [] (.op 6 [] (.op 7 [] (.op 8 [] (.op 9 [] (.op 10 [] .nil)))))))))))) (.seq (.reg (.op 0 [] .nil)) .leaf))))
def strings_Builder_WriteByte.res (b0 : Value) (c1 : Value) (H0 : Heap) (R : Value → Heap → Prop) : Prop :=
 CallsH Tryz.prog 103 #[b0] H0 fun x6 H_1 =>
 pNil b0 fun x9 =>
 pFieldAddr 1 x9 fun x10 =>
 pLoad H_1 x10 fun x11 =>
 pBuildSl H_1 5 1 [(.int .u8 0)] [(0, 1, c1)] fun x13 H_2 =>
 pAppend H_2 5 1 1 [(.int .u8 0)] x11 x13 fun x14 H_3 =>
 pNil b0 fun x15 =>
 pFieldAddr 1 x15 fun x16 =>
 pStore H_3 x16 x14 fun _ H_4 =>
 R .nilIface H_4
set_option maxRecDepth 100000 in
theorem strings_Builder_WriteByte.vc (b0 : Value) (c1 : Value) (H0 : Heap) (R : Value → Heap → Prop) (h : strings_Builder_WriteByte.res b0 c1 H0 R) : CallsH Tryz.prog 93 #[b0, c1] H0 R := by
  have e : vcFn Tryz.prog Tryz.C Tryz.f93 strings_Builder_WriteByte.an [b0, c1] H0 R = strings_Builder_WriteByte.res b0 c1 H0 R := by kernel_rfl
  exact vcFn_sound Tryz.callable Tryz.mixed Tryz.func93 (by kernel_rfl) (e.mpr h)
def slices_ContainsFunc_s_int_int.an : Ann := (.seq (.reg (.op 0 [] .nil)) (.seq (.reg (.op 0 [] (.op 1 [] (.op 2 [] (.op 3 [] (.op 4 [] .nil)))))) .leaf))
def slices_ContainsFunc_s_int_int.res (s0 : Value) (f1 : Value) (H0 : Heap) (R : Value → Heap → Prop) : Prop :=
 CallsH Tryz.prog 69 #[s0, f1] H0 fun x7 H_1 =>
 pGe x7 (.int .i64 0) fun x8 =>
 R x8 H_1
set_option maxRecDepth 100000 in
theorem slices_ContainsFunc_s_int_int.vc (s0 : Value) (f1 : Value) (H0 : Heap) (R : Value → Heap → Prop) (h : slices_ContainsFunc_s_int_int.res s0 f1 H0 R) : CallsH Tryz.prog 37 #[s0, f1] H0 R := by
  have e : vcFn Tryz.prog Tryz.C Tryz.f37 slices_ContainsFunc_s_int_int.an [s0, f1] H0 R = slices_ContainsFunc_s_int_int.res s0 f1 H0 R := by kernel_rfl
  exact vcFn_sound Tryz.callable Tryz.mixed Tryz.func37 (by kernel_rfl) (e.mpr h)
def slices_Clone_s_int_int.an : Ann := (.seq (.reg (.op 0 [] .nil)) (.seq (.seq (.reg (.op 0 [] (.op 1 [] .nil))) (.cond (.seq (.reg (.op 0 [] .nil)) .leaf) .leaf)) (.seq (.reg (.op 0 [] (.op 1 [] (.op 2 [] (.op 3 [] .nil))))) .leaf)))
def slices_Clone_s_int_int.res (s0 : Value) (H0 : Heap) (R : Value → Heap → Prop) : Prop :=
 pEq 4 s0 (.slice none 0 0) fun x4 =>
 pCond x4
 (R (.slice none 0 0) H0)
 (pBuildSl H0 3 0 [] [] fun x5 H_1 =>
 pAppend H_1 3 1 8 [(.int .i64 0)] x5 s0 fun x7 H_2 =>
 R x7 H_2)
set_option maxRecDepth 100000 in
theorem slices_Clone_s_int_int.vc (s0 : Value) (H0 : Heap) (R : Value → Heap → Prop) (h : slices_Clone_s_int_int.res s0 H0 R) : CallsH Tryz.prog 38 #[s0] H0 R := by
  have e : vcFn Tryz.prog Tryz.C Tryz.f38 slices_Clone_s_int_int.an [s0] H0 R = slices_Clone_s_int_int.res s0 H0 R := by kernel_rfl
  exact vcFn_sound Tryz.callable Tryz.mixed Tryz.func38 (by kernel_rfl) (e.mpr h)
def slices_ContainsFunc_s_lz_Token_lz_Token.an : Ann := (.seq (.reg (.op 0 [] .nil)) (.seq (.reg (.op 0 [] (.op 1 [] (.op 2 [] (.op 3 [] (.op 4 [] .nil)))))) .leaf))
def slices_ContainsFunc_s_lz_Token_lz_Token.res (s0 : Value) (f1 : Value) (H0 : Heap) (R : Value → Heap → Prop) : Prop :=
 CallsH Tryz.prog 76 #[s0, f1] H0 fun x7 H_1 =>
 pGe x7 (.int .i64 0) fun x8 =>
 R x8 H_1
set_option maxRecDepth 100000 in
theorem slices_ContainsFunc_s_lz_Token_lz_Token.vc (s0 : Value) (f1 : Value) (H0 : Heap) (R : Value → Heap → Prop) (h : slices_ContainsFunc_s_lz_Token_lz_Token.res s0 f1 H0 R) : CallsH Tryz.prog 50 #[s0, f1] H0 R := by
  have e : vcFn Tryz.prog Tryz.C Tryz.f50 slices_ContainsFunc_s_lz_Token_lz_Token.an [s0, f1] H0 R = slices_ContainsFunc_s_lz_Token_lz_Token.res s0 f1 H0 R := by kernel_rfl
  exact vcFn_sound Tryz.callable Tryz.mixed Tryz.func50 (by kernel_rfl) (e.mpr h)
def slices_Concat_s_int_int.an : Ann := (.seq (.reg (.op 0 [] .nil)) (.seq (.reg (.op 0 [] .nil)) (.seq (.seq (.reg (.op 0 [] (.op 1 [] (.op 2 [] .nil)))) (.block (.loop [3, 11] [3, 5, 11, 12, 13, 14, 15, 16, 17, 18, 19, 20, 21, 22] (.seq (.reg (.op 0 [] .nil)) (.seq (.cond .leaf .leaf) (.seq (.block (.seq (.reg (.op 0 [] (.op 1 [] (.op 2 [] .nil)))) (.seq (.reg (.op 0 [] (.op 1 [] (.op 2 [] (.op 3 [] (.op 4 [] .nil)))))) (.seq (.reg (.op 0 [] (.op 1 [] .nil))) (.cond (.reg (.op 0 [] (.op 1 [] .nil))) .leaf))))) (.reg (.op 0 [] (.op 1 [] .nil))))))))) (.seq (.reg (.op 0 [] (.op 1 [] (.op 2 [] .nil)))) (.seq (.seq (.reg (.op 0 [] (.op 1 [] (.op 2 [] .nil)))) (.block (.loop [6, 27] [6, 8, 27, 28, 29, 30, 31, 32, 33, 34] (.seq (.reg (.op 0 [] .nil)) (.seq (.cond .leaf .leaf) (.seq (.block (.seq (.reg (.op 0 [] (.op 1 [] (.op 2 [] .nil)))) (.reg (.op 0 [] (.op 1 [] (.op 2 [] (.op 3 [] .nil))))))) (.reg (.op 0 [] (.op 1 [] .nil))))))))) (.seq (.reg (.op 0 [] (.op 1 [] .nil))) .leaf))))))
def slices_Concat_s_int_int.res (slices0 : Value) (H0 : Heap) (R : Value → Heap → Prop) : Prop :=
 pLen slices0 fun x10 =>
 ∃ (I_1 : Value → Value → Heap → Prop) (m_2 : Value → Value → Heap → Nat), I_1 (.int .i64 0) (.int .i64 0) H0 ∧
 ∀ _ : Env, ∀ size3 : Value, ∀ x11 : Value, ∀ H_3 : Heap, I_1 size3 x11 H_3 →
 pLt x11 x10 fun x12 =>
 pCond x12
 (pIdxSl 1 slices0 x11 fun x13 =>
 pLoad H_3 x13 fun x14 =>
 pLen x14 fun x17 =>
 pAdd size3 x17 fun x18 =>
 pLt x18 (.int .i64 0) fun x20 =>
 pCond x20
 (False)
 (pAdd x11 (.int .i64 1) fun x22 =>
 I_1 x18 x22 H_3 ∧ m_2 x18 x22 H_3 < m_2 size3 x11 H_3))
 (CallsH Tryz.prog 83 #[(.slice none 0 0), size3] H_3 fun x24 H_5 =>
 pLen slices0 fun x26 =>
 ∃ (I_6 : Value → Value → Heap → Prop) (m_7 : Value → Value → Heap → Nat), I_6 x24 (.int .i64 0) H_5 ∧
 ∀ _ : Env, ∀ newslice6 : Value, ∀ x27 : Value, ∀ H_8 : Heap, I_6 newslice6 x27 H_8 →
 pLt x27 x26 fun x28 =>
 pCond x28
 (pIdxSl 1 slices0 x27 fun x29 =>
 pLoad H_8 x29 fun x30 =>
 pAppend H_8 3 1 8 [(.int .i64 0)] newslice6 x30 fun x33 H_9 =>
 pAdd x27 (.int .i64 1) fun x34 =>
 I_6 x33 x34 H_9 ∧ m_7 x33 x34 H_9 < m_7 newslice6 x27 H_8)
 (R newslice6 H_8))
set_option maxRecDepth 100000 in
theorem slices_Concat_s_int_int.vc (slices0 : Value) (H0 : Heap) (R : Value → Heap → Prop) (h : slices_Concat_s_int_int.res slices0 H0 R) : CallsH Tryz.prog 58 #[slices0] H0 R := by
  have e : vcFn Tryz.prog Tryz.C Tryz.f58 slices_Concat_s_int_int.an [slices0] H0 R = slices_Concat_s_int_int.res slices0 H0 R := by kernel_rfl
  exact vcFn_sound Tryz.callable Tryz.mixed Tryz.func58 (by kernel_rfl) (e.mpr h)
def slices_SortFunc_s_int_int.an : Ann := (.seq (.reg (.op 0 [] (.op 1 [] (.op 2 [] .nil)))) (.reg (.op 0 [] (.op 1 [] (.op 2 [] (.op 3 [] (.op 4 [] (.op 5 [] (.op 6 [] .nil)))))))))
def slices_SortFunc_s_int_int.res (x0 : Value) (cmp1 : Value) (H0 : Heap) (R : Value → Heap → Prop) : Prop :=
 pLen x0 fun x6 =>
 pConv .u64 x6 fun x10 =>
 CallsH Tryz.prog 95 #[x10] H0 fun x11 H_1 =>
 CallsH Tryz.prog 94 #[x0, (.int .i64 0), x6, x11, cmp1] H_1 fun x13 H_2 =>
 R (.tuple #[]) H_2
set_option maxRecDepth 100000 in
theorem slices_SortFunc_s_int_int.vc (x0 : Value) (cmp1 : Value) (H0 : Heap) (R : Value → Heap → Prop) (h : slices_SortFunc_s_int_int.res x0 cmp1 H0 R) : CallsH Tryz.prog 64 #[x0, cmp1] H0 R := by
  have e : vcFn Tryz.prog Tryz.C Tryz.f64 slices_SortFunc_s_int_int.an [x0, cmp1] H0 R = slices_SortFunc_s_int_int.res x0 cmp1 H0 R := by kernel_rfl
  exact vcFn_sound Tryz.callable Tryz.mixed Tryz.func64 (by kernel_rfl) (e.mpr h)
def slices_Concat_s_merge_pack_merge_pack.an : Ann := (.seq (.reg (.op 0 [] .nil)) (.seq (.reg (.op 0 [] .nil)) (.seq (.seq (.reg (.op 0 [] (.op 1 [] (.op 2 [] .nil)))) (.block (.loop [3, 11] [3, 5, 11, 12, 13, 14, 15, 16, 17, 18, 19, 20, 21, 22] (.seq (.reg (.op 0 [] .nil)) (.seq (.cond .leaf .leaf) (.seq (.block (.seq (.reg (.op 0 [] (.op 1 [] (.op 2 [] .nil)))) (.seq (.reg (.op 0 [] (.op 1 [] (.op 2 [] (.op 3 [] (.op 4 [] .nil)))))) (.seq (.reg (.op 0 [] (.op 1 [] .nil))) (.cond (.reg (.op 0 [] (.op 1 [] .nil))) .leaf))))) (.reg (.op 0 [] (.op 1 [] .nil))))))))) (.seq (.reg (.op 0 [] (.op 1 [] (.op 2 [] .nil)))) (.seq (.seq (.reg (.op 0 [] (.op 1 [] (.op 2 [] .nil)))) (.block (.loop [6, 27] [6, 8, 27, 28, 29, 30, 31, 32, 33, 34] (.seq (.reg (.op 0 [] .nil)) (.seq (.cond .leaf .leaf) (.seq (.block (.seq (.reg (.op 0 [] (.op 1 [] (.op 2 [] .nil)))) (.reg (.op 0 [] (.op 1 [] (.op 2 [] (.op 3 [] .nil))))))) (.reg (.op 0 [] (.op 1 [] .nil))))))))) (.seq (.reg (.op 0 [] (.op 1 [] .nil))) .leaf))))))
def slices_Concat_s_merge_pack_merge_pack.res (slices0 : Value) (H0 : Heap) (R : Value → Heap → Prop) : Prop :=
 pLen slices0 fun x10 =>
 ∃ (I_1 : Value → Value → Heap → Prop) (m_2 : Value → Value → Heap → Nat), I_1 (.int .i64 0) (.int .i64 0) H0 ∧
 ∀ _ : Env, ∀ size3 : Value, ∀ x11 : Value, ∀ H_3 : Heap, I_1 size3 x11 H_3 →
 pLt x11 x10 fun x12 =>
 pCond x12
 (pIdxSl 1 slices0 x11 fun x13 =>
 pLoad H_3 x13 fun x14 =>
 pLen x14 fun x17 =>
 pAdd size3 x17 fun x18 =>
 pLt x18 (.int .i64 0) fun x20 =>
 pCond x20
 (False)
 (pAdd x11 (.int .i64 1) fun x22 =>
 I_1 x18 x22 H_3 ∧ m_2 x18 x22 H_3 < m_2 size3 x11 H_3))
 (CallsH Tryz.prog 97 #[(.slice none 0 0), size3] H_3 fun x24 H_5 =>
 pLen slices0 fun x26 =>
 ∃ (I_6 : Value → Value → Heap → Prop) (m_7 : Value → Value → Heap → Nat), I_6 x24 (.int .i64 0) H_5 ∧
 ∀ _ : Env, ∀ newslice6 : Value, ∀ x27 : Value, ∀ H_8 : Heap, I_6 newslice6 x27 H_8 →
 pLt x27 x26 fun x28 =>
 pCond x28
 (pIdxSl 1 slices0 x27 fun x29 =>
 pLoad H_8 x29 fun x30 =>
 pAppend H_8 82 2 32 [(.int .i64 0), (.slice none 0 0)] newslice6 x30 fun x33 H_9 =>
 pAdd x27 (.int .i64 1) fun x34 =>
 I_6 x33 x34 H_9 ∧ m_7 x33 x34 H_9 < m_7 newslice6 x27 H_8)
 (R newslice6 H_8))
set_option maxRecDepth 100000 in
theorem slices_Concat_s_merge_pack_merge_pack.vc (slices0 : Value) (H0 : Heap) (R : Value → Heap → Prop) (h : slices_Concat_s_merge_pack_merge_pack.res slices0 H0 R) : CallsH Tryz.prog 68 #[slices0] H0 R := by
  have e : vcFn Tryz.prog Tryz.C Tryz.f68 slices_Concat_s_merge_pack_merge_pack.an [slices0] H0 R = slices_Concat_s_merge_pack_merge_pack.res slices0 H0 R := by kernel_rfl
  exact vcFn_sound Tryz.callable Tryz.mixed Tryz.func68 (by kernel_rfl) (e.mpr h)
def slices_IndexFunc_s_int_int.an : Ann := (.seq (.reg (.op 0 [] .nil)) (.seq (.seq (.reg (.op 0 [] (.op 1 [] (.op 2 [] .nil)))) (.block (.loop [8] [4, 5, 8, 9, 10, 11, 12, 13, 14, 15, 16, 17, 18] (.seq (.reg (.op 0 [] .nil)) (.seq (.cond .leaf .leaf) (.seq (.block (.seq (.reg (.op 0 [] (.op 1 [] .nil))) (.seq (.reg (.op 0 [] (.op 1 [] (.op 2 [] (.op 3 [] (.op 4 [] (.op 5 [] .nil))))))) (.cond (.seq (.reg (.op 0 [] (.op 1 [] .nil))) .leaf) .leaf)))) (.reg (.op 0 [] (.op 1 [] .nil))))))))) (.seq (.reg (.op 0 [] .nil)) .leaf)))
def slices_IndexFunc_s_int_int.res (s0 : Value) (f1 : Value) (H0 : Heap) (R : Value → Heap → Prop) : Prop :=
 pLen s0 fun x7 =>
 ∃ (I_1 : Value → Heap → Prop) (m_2 : Value → Heap → Nat), I_1 (.int .i64 0) H0 ∧
 ∀ _ : Env, ∀ x8 : Value, ∀ H_3 : Heap, I_1 x8 H_3 →
 pLt x8 x7 fun x9 =>
 pCond x9
 (pIdxSl 1 s0 x8 fun x14 =>
 pLoad H_3 x14 fun x15 =>
 callH Tryz.prog Tryz.C f1 [x15] H_3 fun x16 H_4 =>
 pCond x16
 (R x8 H_4)
 (pAdd x8 (.int .i64 1) fun x18 =>
 I_1 x18 H_4 ∧ m_2 x18 H_4 < m_2 x8 H_3))
 (R (.int .i64 (-1)) H_3)
set_option maxRecDepth 100000 in
theorem slices_IndexFunc_s_int_int.vc (s0 : Value) (f1 : Value) (H0 : Heap) (R : Value → Heap → Prop) (h : slices_IndexFunc_s_int_int.res s0 f1 H0 R) : CallsH Tryz.prog 69 #[s0, f1] H0 R := by
  have e : vcFn Tryz.prog Tryz.C Tryz.f69 slices_IndexFunc_s_int_int.an [s0, f1] H0 R = slices_IndexFunc_s_int_int.res s0 f1 H0 R := by kernel_rfl
  exact vcFn_sound Tryz.callable Tryz.mixed Tryz.func69 (by kernel_rfl) (e.mpr h)
def slices_ContainsFunc_s_canon_word_canon_word.an : Ann := (.seq (.reg (.op 0 [] .nil)) (.seq (.reg (.op 0 [] (.op 1 [] (.op 2 [] (.op 3 [] (.op 4 [] .nil)))))) .leaf))
def slices_ContainsFunc_s_canon_word_canon_word.res (s0 : Value) (f1 : Value) (H0 : Heap) (R : Value → Heap → Prop) : Prop :=
 CallsH Tryz.prog 98 #[s0, f1] H0 fun x7 H_1 =>
 pGe x7 (.int .i64 0) fun x8 =>
 R x8 H_1
set_option maxRecDepth 100000 in
theorem slices_ContainsFunc_s_canon_word_canon_word.vc (s0 : Value) (f1 : Value) (H0 : Heap) (R : Value → Heap → Prop) (h : slices_ContainsFunc_s_canon_word_canon_word.res s0 f1 H0 R) : CallsH Tryz.prog 73 #[s0, f1] H0 R := by
  have e : vcFn Tryz.prog Tryz.C Tryz.f73 slices_ContainsFunc_s_canon_word_canon_word.an [s0, f1] H0 R = slices_ContainsFunc_s_canon_word_canon_word.res s0 f1 H0 R := by kernel_rfl
  exact vcFn_sound Tryz.callable Tryz.mixed Tryz.func73 (by kernel_rfl) (e.mpr h)
def slices_IndexFunc_s_lz_Token_lz_Token.an : Ann := (.seq (.reg (.op 0 [] .nil)) (.seq (.seq (.reg (.op 0 [] (.op 1 [] (.op 2 [] .nil)))) (.block (.loop [8] [4, 5, 8, 9, 10, 11, 12, 13, 14, 15, 16, 17, 18] (.seq (.reg (.op 0 [] .nil)) (.seq (.cond .leaf .leaf) (.seq (.block (.seq (.reg (.op 0 [] (.op 1 [] .nil))) (.seq (.reg (.op 0 [] (.op 1 [] (.op 2 [] (.op 3 [] (.op 4 [] (.op 5 [] .nil))))))) (.cond (.seq (.reg (.op 0 [] (.op 1 [] .nil))) .leaf) .leaf)))) (.reg (.op 0 [] (.op 1 [] .nil))))))))) (.seq (.reg (.op 0 [] .nil)) .leaf)))
def slices_IndexFunc_s_lz_Token_lz_Token.res (s0 : Value) (f1 : Value) (H0 : Heap) (R : Value → Heap → Prop) : Prop :=
 pLen s0 fun x7 =>
 ∃ (I_1 : Value → Heap → Prop) (m_2 : Value → Heap → Nat), I_1 (.int .i64 0) H0 ∧
 ∀ _ : Env, ∀ x8 : Value, ∀ H_3 : Heap, I_1 x8 H_3 →
 pLt x8 x7 fun x9 =>
 pCond x9
 (pIdxSl 3 s0 x8 fun x14 =>
 pLoadN H_3 3 x14 fun x15 =>
 callH Tryz.prog Tryz.C f1 [x15] H_3 fun x16 H_4 =>
 pCond x16
 (R x8 H_4)
 (pAdd x8 (.int .i64 1) fun x18 =>
 I_1 x18 H_4 ∧ m_2 x18 H_4 < m_2 x8 H_3))
 (R (.int .i64 (-1)) H_3)
set_option maxRecDepth 100000 in
theorem slices_IndexFunc_s_lz_Token_lz_Token.vc (s0 : Value) (f1 : Value) (H0 : Heap) (R : Value → Heap → Prop) (h : slices_IndexFunc_s_lz_Token_lz_Token.res s0 f1 H0 R) : CallsH Tryz.prog 76 #[s0, f1] H0 R := by
  have e : vcFn Tryz.prog Tryz.C Tryz.f76 slices_IndexFunc_s_lz_Token_lz_Token.an [s0, f1] H0 R = slices_IndexFunc_s_lz_Token_lz_Token.res s0 f1 H0 R := by kernel_rfl
  exact vcFn_sound Tryz.callable Tryz.mixed Tryz.func76 (by kernel_rfl) (e.mpr h)
def slices_Grow_s_int_int.an : Ann := (.seq (.reg (.op 0 [] .nil)) (.cut [] [5, 6, 7] (.seq (.reg (.op 0 [] (.op 1 [] .nil))) (.cond (.reg (.op 0 [] (.op 1 [] .nil))) .leaf)) (.seq (.seq (.reg (.op 0 [] (.op 1 [] (.op 2 [] (.op 3 [] (.op 4 [] (.op 5 [] (.op 6 [] (.op 7 [] .nil))))))))) (.seq (.reg (.op 0 [] (.op 1 [] .nil))) (.cond (.reg (.op 0 [] (.op 1 [] (.op 2 [] (.op 3 [] (.op 4 [] (.op 5 [] (.op 6 [] (.op 7 [] (.op 8 [] (.op 9 [] .nil))))))))))) .leaf))) (.seq (.reg (.op 0 [] (.op 1 [] .nil))) .leaf))))
def slices_Grow_s_int_int.res (s0 : Value) (n1 : Value) (H0 : Heap) (R : Value → Heap → Prop) : Prop :=
 ∃ J_1 : Heap → Prop, (∀ _ : Env, ∀ H_2 : Heap, J_1 H_2 →
 pCap s0 fun x10 =>
 pLen s0 fun x12 =>
 pSub x10 x12 fun x13 =>
 pSub n1 x13 fun x14 =>
 pGt x14 (.int .i64 0) fun x16 =>
 pCond x16
 (pCap s0 fun x19 =>
 pSlSl 1 s0 none (some x19) fun x20 =>
 pAppendZ H_2 3 8 [(.int .i64 0)] x20 x14 fun x22 H_3 =>
 pLen s0 fun x24 =>
 pSlSl 1 x22 none (some x24) fun x25 =>
 R x25 H_3)
 (R s0 H_2)) ∧
 pLt n1 (.int .i64 0) fun x6 =>
 pCond x6
 (False)
 (J_1 H0)
set_option maxRecDepth 100000 in
theorem slices_Grow_s_int_int.vc (s0 : Value) (n1 : Value) (H0 : Heap) (R : Value → Heap → Prop) (h : slices_Grow_s_int_int.res s0 n1 H0 R) : CallsH Tryz.prog 83 #[s0, n1] H0 R := by
  have e : vcFn Tryz.prog Tryz.C Tryz.f83 slices_Grow_s_int_int.an [s0, n1] H0 R = slices_Grow_s_int_int.res s0 n1 H0 R := by kernel_rfl
  exact vcFn_sound Tryz.callable Tryz.mixed Tryz.func83 (by kernel_rfl) (e.mpr h)
def slices_pdqsortCmpFunc_int.an : Ann := (.seq (.reg (.op 0 [] .nil)) (.seq (.reg (.op 0 [] .nil)) (.block (.loop [1, 2, 3, 10, 11] [1, 2, 3, 10, 11, 12, 13, 14, 15, 16, 17, 18, 19, 20, 21, 22, 23, 24, 25, 26, 27, 28, 29, 30, 31, 32, 33, 34, 35, 36, 37, 38, 39, 40, 41, 42, 43, 44, 45, 46, 47, 48, 49, 50, 51, 52, 53, 54, 55, 56, 57, 58, 59, 60, 61, 62, 63, 64, 65, 66, 67, 68, 69, 70, 71, 72, 73, 74, 75, 76, 77, 78, 79, 80, 81, 82, 83, 84, 85, 86, 87, 88, 89, 90, 91, 92, 93, 94, 95, 96, 97, 98, 99, 100, 101, 102, 103, 104, 105, 106, 107, 108, 109, 110, 111, 112, 113, 114, 115, 116, 117, 118, 119, 120, 121, 122, 123, 124, 125, 126, 127, 128, 129, 130, 131, 132, 133, 134, 135, 136, 137, 138, 139, 140, 141, 142, 143, 144, 145, 146, 147] (.block (.seq (.reg (.op 0 [] (.op 1 [] (.op 2 [] (.op 3 [] .nil))))) (.seq (.seq (.reg (.op 0 [] (.op 1 [] .nil))) (.cond (.seq (.reg (.op 0 [] (.op 1 [] (.op 2 [] (.op 3 [] (.op 4 [] .nil)))))) .leaf) .leaf)) (.seq (.seq (.reg (.op 0 [] (.op 1 [] .nil))) (.cond (.seq (.reg (.op 0 [] (.op 1 [] (.op 2 [] (.op 3 [] (.op 4 [] .nil)))))) .leaf) .leaf)) (.cut [3] [3, 38, 39, 40, 41, 42, 43, 44, 45, 46] (.seq (.reg (.op 0 [] (.op 1 [] .nil))) (.cond (.seq (.reg (.op 0 [] (.op 1 [] (.op 2 [] (.op 3 [] (.op 4 [] .nil)))))) (.reg (.op 0 [] (.op 1 [] (.op 2 [] .nil))))) .leaf)) (.seq (.reg (.op 0 [] (.op 1 [] (.op 2 [] (.op 3 [] (.op 4 [] (.op 5 [] (.op 6 [] (.op 7 [] (.op 8 [] (.op 9 [] .nil))))))))))) (.cut [13, 14] [13, 14, 55, 56, 57, 58, 59, 60, 61, 62, 63, 64, 65, 66, 67] (.seq (.reg (.op 0 [] (.op 1 [] .nil))) (.cond (.seq (.reg (.op 0 [] (.op 1 [] (.op 2 [] (.op 3 [] (.op 4 [] .nil)))))) (.seq (.reg (.op 0 [] (.op 1 [] (.op 2 [] (.op 3 [] (.op 4 [] (.op 5 [] (.op 6 [] .nil)))))))) (.reg (.op 0 [] .nil)))) .leaf)) (.cut [] [68, 69, 70, 71, 72, 73, 74, 75, 76, 77, 78, 79, 80] (.seq (.reg (.op 0 [] (.op 1 [] (.grp 1 (.op 2 [] .nil) 3 (.op 4 [] (.grp 4 (.op 5 [] (.op 6 [] .nil)) 7 .nil)))))) (.cond (.seq (.reg (.op 0 [] (.op 1 [] (.op 2 [] (.op 3 [] (.op 4 [] .nil)))))) (.cond .leaf .leaf)) .leaf)) (.seq (.seq (.drw [0, 1, 3, 7, 7, 7, 39, 119, 247, 7, 7, 1543, 3591, 8191, 16383, 32767, 65535] (.op 0 [] (.op 1 [] (.op 2 [] (.grp 2 (.op 3 [] (.op 4 [] (.op 5 [] (.op 6 [] (.op 7 [] (.op 8 [] (.op 9 [] (.op 10 [] (.op 11 [] (.op 12 [] (.op 13 [] (.op 14 [] (.op 15 [] .nil))))))))))))) 16 .nil))))) (.cond (.seq (.reg (.op 0 [] (.op 1 [] (.op 2 [] (.op 3 [] (.op 4 [] (.op 5 [] (.op 6 [] .nil)))))))) (.seq (.reg (.op 0 [] (.op 1 [] .nil))) .leaf)) .leaf)) (.seq (.reg (.op 0 [] (.op 1 [] (.op 2 [] (.op 3 [] (.op 4 [] (.op 5 [] (.op 6 [] (.op 7 [] (.op 8 [] (.op 9 [] (.op 10 [] .nil)))))))))))) (.seq (.reg (.op 0 [] (.op 1 [] .nil))) (.seq (.reg (.op 0 [] (.op 1 [] (.op 2 [] (.op 3 [] (.op 4 [] (.op 5 [] (.op 6 [] (.op 7 [] .nil))))))))) (.seq (.reg (.op 0 [] (.op 1 [] (.op 2 [] .nil)))) (.seq (.reg (.op 0 [] (.op 1 [] (.op 2 [] .nil)))) (.cond (.seq (.reg (.op 0 [] (.op 1 [] (.op 2 [] (.op 3 [] .nil))))) (.seq (.reg (.op 0 [] (.op 1 [] (.op 2 [] (.op 3 [] (.op 4 [] (.op 5 [] .nil))))))) (.reg (.op 0 [] (.op 1 [] (.op 2 [] .nil)))))) (.seq (.reg (.op 0 [] (.op 1 [] (.op 2 [] (.op 3 [] .nil))))) (.seq (.reg (.op 0 [] (.op 1 [] (.op 2 [] (.op 3 [] (.op 4 [] (.op 5 [] (.op 6 [] .nil)))))))) (.reg (.op 0 [] (.op 1 [] .nil))))))))))))))))))))))))
def slices_pdqsortCmpFunc_int.res (data0 : Value) (a1 : Value) (b2 : Value) (limit3 : Value) (cmp4 : Value) (H0 : Heap) (R : Value → Heap → Prop) : Prop :=
 ∃ (I_1 : Value → Value → Value → Value → Value → Heap → Prop) (m_2 : Value → Value → Value → Value → Value → Heap → Nat), I_1 a1 b2 limit3 (.bool true) (.bool true) H0 ∧
 ∀ _ : Env, ∀ a1' : Value, ∀ b2' : Value, ∀ limit3' : Value, ∀ wasBalanced10 : Value, ∀ wasPartitioned11 : Value, ∀ H_3 : Heap, I_1 a1' b2' limit3' wasBalanced10 wasPartitioned11 H_3 →
 pSub b2' a1' fun x23 =>
 pLe x23 (.int .i64 12) fun x25 =>
 pCond x25
 (CallsH Tryz.prog 106 #[data0, a1', b2', cmp4] H_3 fun x30 H_4 =>
 R (.tuple #[]) H_4)
 (pEq 0 limit3' (.int .i64 0) fun x32 =>
 pCond x32
 (CallsH Tryz.prog 107 #[data0, a1', b2', cmp4] H_3 fun x37 H_5 =>
 R (.tuple #[]) H_5)
 (∃ J_6 : Value → Heap → Prop, (∀ _ : Env, ∀ limit3'' : Value, ∀ H_7 : Heap, J_6 limit3'' H_7 →
 CallsH Tryz.prog 109 #[data0, a1', b2', cmp4] H_7 fun x52 H_8 =>
 pExtract 0 x52 fun x53 =>
 pExtract 1 x52 fun x54 =>
 ∃ J_9 : Value → Value → Heap → Prop, (∀ _ : Env, ∀ pivot13 : Value, ∀ hint14 : Value, ∀ H_10 : Heap, J_9 pivot13 hint14 H_10 →
 ∃ J_11 : Heap → Prop, (∀ _ : Env, ∀ H_12 : Heap, J_11 H_12 →
 pGt a1' (.int .i64 0) fun x82 =>
 pAnd x82 (fun J_13 =>
 pSub a1' (.int .i64 1) fun x87 =>
 pIdxSl 1 data0 x87 fun x88 =>
 pLoad H_12 x88 fun x89 =>
 pIdxSl 1 data0 pivot13 fun x92 =>
 pLoad H_12 x92 fun x93 =>
 callH Tryz.prog Tryz.C cmp4 [x89, x93] H_12 fun x94 H_15 =>
 pLt x94 (.int .i64 0) fun x95 =>
 pNot x95 fun x96 =>
 J_13 x96 H_15) H_12 fun x97 H_14 => ∀ _ : Env,
 pCond x97
 (CallsH Tryz.prog 112 #[data0, a1', b2', pivot13, cmp4] H_14 fun x103 H_16 =>
 I_1 x103 b2' limit3'' wasBalanced10 wasPartitioned11 H_16 ∧ m_2 x103 b2' limit3'' wasBalanced10 wasPartitioned11 H_16 < m_2 a1' b2' limit3' wasBalanced10 wasPartitioned11 H_3)
 (CallsH Tryz.prog 113 #[data0, a1', b2', pivot13, cmp4] H_14 fun x111 H_17 =>
 pExtract 0 x111 fun x112 =>
 pExtract 1 x111 fun x113 =>
 pSub x112 a1' fun x117 =>
 pSub b2' x112 fun x120 =>
 pQuo x23 (.int .i64 8) fun x122 =>
 pLt x117 x120 fun x125 =>
 pCond x125
 (pGe x117 x122 fun x128 =>
 CallsH Tryz.prog 94 #[data0, a1', x112, limit3'', cmp4] H_17 fun x134 H_18 =>
 pAdd x112 (.int .i64 1) fun x136 =>
 I_1 x136 b2' limit3'' x128 x113 H_18 ∧ m_2 x136 b2' limit3'' x128 x113 H_18 < m_2 a1' b2' limit3' wasBalanced10 wasPartitioned11 H_3)
 (pGe x120 x122 fun x139 =>
 pAdd x112 (.int .i64 1) fun x142 =>
 CallsH Tryz.prog 94 #[data0, x142, b2', limit3'', cmp4] H_17 fun x146 H_19 =>
 I_1 a1' x112 limit3'' x139 x113 H_19 ∧ m_2 a1' x112 limit3'' x139 x113 H_19 < m_2 a1' b2' limit3' wasBalanced10 wasPartitioned11 H_3))) ∧
 pAnd wasBalanced10 (fun J_20 =>
 J_20 wasPartitioned11 H_10) H_10 fun x71 H_21 => ∀ _ : Env,
 pAnd x71 (fun J_22 =>
 pEq 0 hint14 (.int .i64 1) fun x74 =>
 J_22 x74 H_21) H_21 fun x75 H_23 => ∀ _ : Env,
 pCond x75
 (CallsH Tryz.prog 111 #[data0, a1', b2', cmp4] H_23 fun x80 H_24 =>
 pCond x80
 (R (.tuple #[]) H_24)
 (J_11 H_24))
 (J_11 H_23)) ∧
 pEq 0 x54 (.int .i64 2) fun x56 =>
 pCond x56
 (CallsH Tryz.prog 110 #[data0, a1', b2', cmp4] H_8 fun x61 H_25 =>
 pSub b2' (.int .i64 1) fun x63 =>
 pSub x53 a1' fun x66 =>
 pSub x63 x66 fun x67 =>
 J_9 x67 (.int .i64 1) H_25)
 (J_9 x53 x54 H_8)) ∧
 pNot wasBalanced10 fun x39 =>
 pCond x39
 (CallsH Tryz.prog 108 #[data0, a1', b2', cmp4] H_3 fun x44 H_26 =>
 pSub limit3' (.int .i64 1) fun x46 =>
 J_6 x46 H_26)
 (J_6 limit3' H_3)))
set_option maxRecDepth 100000 in
theorem slices_pdqsortCmpFunc_int.vc (data0 : Value) (a1 : Value) (b2 : Value) (limit3 : Value) (cmp4 : Value) (H0 : Heap) (R : Value → Heap → Prop) (h : slices_pdqsortCmpFunc_int.res data0 a1 b2 limit3 cmp4 H0 R) : CallsH Tryz.prog 94 #[data0, a1, b2, limit3, cmp4] H0 R := by
  have e : vcFn Tryz.prog Tryz.C Tryz.f94 slices_pdqsortCmpFunc_int.an [data0, a1, b2, limit3, cmp4] H0 R = slices_pdqsortCmpFunc_int.res data0 a1 b2 limit3 cmp4 H0 R := by kernel_rfl
  exact vcFn_sound Tryz.callable Tryz.mixed Tryz.func94 (by kernel_rfl) (e.mpr h)
def slices_Grow_s_merge_pack_merge_pack.an : Ann := (.seq (.reg (.op 0 [] .nil)) (.cut [] [5, 6, 7] (.seq (.reg (.op 0 [] (.op 1 [] .nil))) (.cond (.reg (.op 0 [] (.op 1 [] .nil))) .leaf)) (.seq (.seq (.reg (.op 0 [] (.op 1 [] (.op 2 [] (.op 3 [] (.op 4 [] (.op 5 [] (.op 6 [] (.op 7 [] .nil))))))))) (.seq (.reg (.op 0 [] (.op 1 [] .nil))) (.cond (.reg (.op 0 [] (.op 1 [] (.op 2 [] (.op 3 [] (.op 4 [] (.op 5 [] (.op 6 [] (.op 7 [] (.op 8 [] (.op 9 [] .nil))))))))))) .leaf))) (.seq (.reg (.op 0 [] (.op 1 [] .nil))) .leaf))))
def slices_Grow_s_merge_pack_merge_pack.res (s0 : Value) (n1 : Value) (H0 : Heap) (R : Value → Heap → Prop) : Prop :=
 ∃ J_1 : Heap → Prop, (∀ _ : Env, ∀ H_2 : Heap, J_1 H_2 →
 pCap s0 fun x10 =>
 pLen s0 fun x12 =>
 pSub x10 x12 fun x13 =>
 pSub n1 x13 fun x14 =>
 pGt x14 (.int .i64 0) fun x16 =>
 pCond x16
 (pCap s0 fun x19 =>
 pSlSl 2 s0 none (some x19) fun x20 =>
 pAppendZ H_2 82 32 [(.int .i64 0), (.slice none 0 0)] x20 x14 fun x22 H_3 =>
 pLen s0 fun x24 =>
 pSlSl 2 x22 none (some x24) fun x25 =>
 R x25 H_3)
 (R s0 H_2)) ∧
 pLt n1 (.int .i64 0) fun x6 =>
 pCond x6
 (False)
 (J_1 H0)
set_option maxRecDepth 100000 in
theorem slices_Grow_s_merge_pack_merge_pack.vc (s0 : Value) (n1 : Value) (H0 : Heap) (R : Value → Heap → Prop) (h : slices_Grow_s_merge_pack_merge_pack.res s0 n1 H0 R) : CallsH Tryz.prog 97 #[s0, n1] H0 R := by
  have e : vcFn Tryz.prog Tryz.C Tryz.f97 slices_Grow_s_merge_pack_merge_pack.an [s0, n1] H0 R = slices_Grow_s_merge_pack_merge_pack.res s0 n1 H0 R := by kernel_rfl
  exact vcFn_sound Tryz.callable Tryz.mixed Tryz.func97 (by kernel_rfl) (e.mpr h)
def slices_IndexFunc_s_canon_word_canon_word.an : Ann := (.seq (.reg (.op 0 [] .nil)) (.seq (.seq (.reg (.op 0 [] (.op 1 [] (.op 2 [] .nil)))) (.block (.loop [8] [4, 5, 8, 9, 10, 11, 12, 13, 14, 15, 16, 17, 18] (.seq (.reg (.op 0 [] .nil)) (.seq (.cond .leaf .leaf) (.seq (.block (.seq (.reg (.op 0 [] (.op 1 [] .nil))) (.seq (.reg (.op 0 [] (.op 1 [] (.op 2 [] (.op 3 [] (.op 4 [] (.op 5 [] .nil))))))) (.cond (.seq (.reg (.op 0 [] (.op 1 [] .nil))) .leaf) .leaf)))) (.reg (.op 0 [] (.op 1 [] .nil))))))))) (.seq (.reg (.op 0 [] .nil)) .leaf)))
def slices_IndexFunc_s_canon_word_canon_word.res (s0 : Value) (f1 : Value) (H0 : Heap) (R : Value → Heap → Prop) : Prop :=
 pLen s0 fun x7 =>
 ∃ (I_1 : Value → Heap → Prop) (m_2 : Value → Heap → Nat), I_1 (.int .i64 0) H0 ∧
 ∀ _ : Env, ∀ x8 : Value, ∀ H_3 : Heap, I_1 x8 H_3 →
 pLt x8 x7 fun x9 =>
 pCond x9
 (pIdxSl 2 s0 x8 fun x14 =>
 pLoadN H_3 2 x14 fun x15 =>
 callH Tryz.prog Tryz.C f1 [x15] H_3 fun x16 H_4 =>
 pCond x16
 (R x8 H_4)
 (pAdd x8 (.int .i64 1) fun x18 =>
 I_1 x18 H_4 ∧ m_2 x18 H_4 < m_2 x8 H_3))
 (R (.int .i64 (-1)) H_3)
set_option maxRecDepth 100000 in
theorem slices_IndexFunc_s_canon_word_canon_word.vc (s0 : Value) (f1 : Value) (H0 : Heap) (R : Value → Heap → Prop) (h : slices_IndexFunc_s_canon_word_canon_word.res s0 f1 H0 R) : CallsH Tryz.prog 98 #[s0, f1] H0 R := by
  have e : vcFn Tryz.prog Tryz.C Tryz.f98 slices_IndexFunc_s_canon_word_canon_word.an [s0, f1] H0 R = slices_IndexFunc_s_canon_word_canon_word.res s0 f1 H0 R := by kernel_rfl
  exact vcFn_sound Tryz.callable Tryz.mixed Tryz.func98 (by kernel_rfl) (e.mpr h)
end Go.Proofs.YtameljhbkedhjaaGreatDoor
namespace Go.Proofs.YtameljhbkedhjaaGreatDoor
open Go Go.Vc Go.Proofs
set_option linter.unusedVariables false
set_option linter.unusedSimpArgs false
variable {H : Heap} {R : Value → Heap → Prop} {v : Value} {zs : List Int}
def okZ (zs : List Int) : Prop := zs.length ≤ 288 ∧ ∀ z ∈ zs, 0 ≤ z ∧ z ≤ 15
def natL (zs : List Int) : List Nat := zs.map Int.toNat
theorem natL_len (zs : List Int) : (natL zs).length = zs.length := by simp [natL]
theorem shareL_le (ls : List Nat) (m : Nat) : shareL ls m ≤ ls.length * 2 ^ m := by
  induction ls with
  | nil => simp [shareL]
  | cons k ls ih =>
    unfold shareL at ih ⊢
    rw [List.map_cons, List.sum_cons, List.length_cons, Nat.succ_mul]
    have : (if 1 ≤ k ∧ k ≤ m then 2 ^ (m - k) else 0) ≤ 2 ^ m := by
      split
      · exact Nat.pow_le_pow_right (by decide) (by omega)
      · exact Nat.zero_le _
    generalize 2 ^ m = P at *
    omega
theorem take_snoc {α : Type} {l : List α} {i : Nat} (h : i < l.length) : l.take (i + 1) = l.take i ++ [l[i]] := by rw [List.take_add_one, List.getElem?_eq_getElem h]; rfl
theorem natL_snoc {i : Nat} (h : i < zs.length) : natL (zs.take (i + 1)) = natL (zs.take i) ++ [zs[i].toNat] := by unfold natL; rw [take_snoc h, List.map_append]; rfl
def revN (v : Nat) : Nat → Nat
  | 0 => 0
  | n + 1 => 2 * revN v n + (v / 2 ^ n) % 2
theorem revN_lt (v : Nat) : ∀ n, revN v n < 2 ^ n
  | 0 => by simp [revN]
  | n + 1 => by
    have := revN_lt v n
    have h2 : (v / 2 ^ n) % 2 < 2 := Nat.mod_lt _ (by decide)
    rw [revN, Nat.pow_succ]
    generalize 2 ^ n = P at *
    omega
theorem turned_spec03 {x n : Nat} (hx : x < 18446744073709551616) (hn : n ≤ 60) (h : R (.int .u64 (revN x n : Nat)) H) : CallsH Tryz.prog 70 #[.int .u64 (x : Int), .int .i64 (n : Int)] H R := by
  refine canon_turned.vc _ _ _ _ ?_
  unfold canon_turned.res
  refine ⟨fun v o i H' => ∃ k : Nat, i = .int .i64 k ∧ k ≤ n ∧ v = .int .u64 ((x / 2 ^ k : Nat) : Int) ∧ o = .int .u64 (revN x k : Nat) ∧ H = H', fun _ _ i _ => match i with | .int _ x => (1000 - x).toNat | _ => 0, ⟨0, rfl, by omega, by rw [Nat.pow_zero, Nat.div_one], rfl, rfl⟩, ?_⟩
  rintro _ _ _ _ _ ⟨k, rfl, hk, rfl, rfl, rfl⟩
  have hr := revN_lt x k
  have hp : 2 ^ k ≤ 2 ^ 60 := Nat.pow_le_pow_right (by decide) (by omega)
  have hd : x / 2 ^ k ≤ x := Nat.div_le_self _ _
  rw [pLt_v]
  refine pCond_if (fun hc => ?_) (fun hc => ?_)
  · rw [pShl_v]
    refine ⟨by decide, ?_⟩
    rw [show min (1 : Int).toNat IntKind.u64.bits = 1 from rfl, pBits_v]
    have e1 : IntKind.u64.wrap (((revN x k : Nat) : Int) * 2 ^ 1) = ((2 * revN x k : Nat) : Int) := by rw [wu64 (by omega) (by omega)]; omega
    have e2 : bitsOf .and .u64 ((x / 2 ^ k : Nat) : Int) 1 = ((x / 2 ^ k % 2 : Nat) : Int) := by
      have := and_u64 (a := x / 2 ^ k) (b := 1) (by omega) (by omega)
      rw [Nat.and_one_is_mod] at this
      exact this
    have h2 : (x / 2 ^ k) % 2 < 2 := Nat.mod_lt _ (by decide)
    rw [e1, e2, pBits_v, or_u64 (by omega) (by omega)]
    have e3 : 2 * revN x k ||| x / 2 ^ k % 2 = revN x (k + 1) := by
      rw [revN, Nat.or_comm, Nat.mul_comm]
      have := or_disj (a := x / 2 ^ k % 2) (v := revN x k) (n := 1) (by simpa using h2)
      rw [Nat.pow_one] at this
      rw [this]; omega
    rw [e3, pShr_v]
    refine ⟨by decide, ?_⟩
    rw [show min (1 : Int).toNat IntKind.u64.bits = 1 from rfl, fdiv_nat (j := 1) rfl, Nat.div_div_eq_div_mul, show 2 ^ k * 2 ^ 1 = 2 ^ (k + 1) from rfl, pAdd_v, w64 (n := (k : Int) + 1) (by omega) (by omega)]
    exact ⟨⟨k + 1, rfl, by omega, rfl, rfl, rfl⟩, by show (_ : Int).toNat < (_ : Int).toNat; omega⟩
  · have : k = n := by omega
    subst this
    exact h
end Go.Proofs.YtameljhbkedhjaaGreatDoor
namespace Go.Proofs.YtameljhbkedhjaaGreatDoor
open Go Go.Vc Go.Proofs
set_option linter.unusedVariables false
set_option linter.unusedSimpArgs false
variable {H : Heap} {R : Value → Heap → Prop} {v : Value} {zs : List Int}
def nzL (ls : List Nat) : Nat := ls.countP fun k => decide (k ≠ 0)
theorem nzL_append (a b : List Nat) : nzL (a ++ b) = nzL a + nzL b := by unfold nzL; rw [List.countP_append]
def slackL (ls : List Nat) : Bool := decide (nzL ls = 0) || (decide (nzL ls = 1) && decide (cntL ls 1 = 1))
theorem dec_one (n : Nat) : decide ((n : Int) = 1) = decide (n = 1) := by rw [Bool.eq_iff_iff, decide_eq_true_eq, decide_eq_true_eq]; omega
theorem dec_zero (n : Nat) : decide ((n : Int) = 0) = decide (n = 0) := by rw [Bool.eq_iff_iff, decide_eq_true_eq, decide_eq_true_eq]; omega
noncomputable def whyL (zs : List Int) (loose : Bool) : Int :=
  open Classical in if okZ zs then (if 32768 < shareL (natL zs) 15 then 5 else if shareL (natL zs) 15 < 32768 ∧ (loose && slackL (natL zs)) = false then 4 else 0) else 1
theorem why_no {loose : Bool} (h : ¬ okZ zs) : whyL zs loose = 1 := by unfold whyL; rw [if_neg h]
theorem why_ok {loose : Bool} (h : okZ zs) : whyL zs loose = if 32768 < shareL (natL zs) 15 then 5 else if shareL (natL zs) 15 < 32768 ∧ (loose && slackL (natL zs)) = false then 4 else 0 := by unfold whyL; rw [if_pos h]
end Go.Proofs.YtameljhbkedhjaaGreatDoor
namespace Go.Proofs.YtameljhbkedhjaaGreatDoor
open Go Go.Vc Go.Proofs
set_option linter.unusedVariables false
set_option linter.unusedSimpArgs false
variable {H : Heap} {R : Value → Heap → Prop} {v : Value} {zs : List Int}
abbrev codeCells (lv wv : Value) (cs : List Int) (sv : Value) : List Value := lv :: wv :: (numsV cs ++ [sv])
theorem codeCells_count {lv wv sv : Value} {cs : List Int} {n : Nat} (h : n < cs.length) : (codeCells lv wv cs sv)[2 + n]? = some (.int .i64 cs[n]) := by
  rw [show 2 + n = n + 1 + 1 by omega, List.getElem?_cons_succ, List.getElem?_cons_succ, List.getElem?_append_left (by rw [numsV_len]; exact h), numsV_get h]
theorem codeCells_set {lv wv sv : Value} {cs : List Int} {n : Nat} {z : Int} (h : n < cs.length) : (codeCells lv wv cs sv).set (2 + n) (.int .i64 z) = codeCells lv wv (cs.set n z) sv := by
  rw [show 2 + n = n + 1 + 1 by omega, List.set_cons_succ, List.set_cons_succ, List.set_append_left _ _ (by rw [numsV_len]; exact h), numsV_set]
def countsL (ls : List Nat) : List Int := (List.range 16).map fun n => if n = 0 then 0 else ((cntL ls n : Nat) : Int)
theorem countsL_len (ls : List Nat) : (countsL ls).length = 16 := by simp [countsL]
theorem countsL_at {ls : List Nat} {n : Nat} (h : n < 16) : (countsL ls)[n]'(by rw [countsL_len]; exact h) = if n = 0 then 0 else ((cntL ls n : Nat) : Int) := by simp [countsL]
theorem countsL_snoc {ls : List Nat} {k : Nat} (h0 : 1 ≤ k) (h1 : k ≤ 15) : countsL (ls ++ [k]) = (countsL ls).set k ((cntL ls k : Nat) + 1 : Int) := by
  apply List.ext_getElem
  · rw [List.length_set, countsL_len, countsL_len]
  intro i h2 h3
  rw [countsL_len] at h2
  rw [countsL_at h2, List.getElem_set]
  by_cases hi : k = i
  · subst hi
    rw [if_pos rfl, if_neg (by omega), cntL_append]
    have : cntL [k] k = 1 := by unfold cntL; rw [List.countP_cons, List.countP_nil, decide_eq_true rfl]; rfl
    rw [this]; omega
  · rw [if_neg hi, countsL_at h2]
    by_cases h0 : i = 0
    · rw [if_pos h0, if_pos h0]
    · rw [if_neg h0, if_neg h0, cntL_append]
      have : cntL [k] i = 0 := by unfold cntL; rw [List.countP_cons, List.countP_nil, decide_eq_false hi]; rfl
      rw [this]; omega
theorem countsL_zero {ls : List Nat} : countsL (ls ++ [0]) = countsL ls := by
  apply List.ext_getElem
  · rw [countsL_len, countsL_len]
  intro i h2 h3
  rw [countsL_len] at h2
  rw [countsL_at h2, countsL_at h2]
  by_cases h0 : i = 0
  · rw [if_pos h0, if_pos h0]
  · rw [if_neg h0, if_neg h0, cntL_append]
    have : cntL [0] i = 0 := by unfold cntL; rw [List.countP_cons, List.countP_nil, decide_eq_false (by omega)]; rfl
    rw [this]; omega
theorem leftC_range (ls : List Nat) (n : Nat) (hn : n ≤ 15) (hl : ls.length ≤ 288) : -10000000 ≤ leftC ls n ∧ leftC ls n ≤ 32768 := by
  unfold leftC
  have h1 : endC ls n ≤ 288 * 2 ^ 15 := by
    rw [endC_share]
    exact Nat.le_trans (shareL_le ls n) (Nat.mul_le_mul hl (Nat.pow_le_pow_right (by decide) hn))
  have h2 : 2 ^ n ≤ 2 ^ 15 := Nat.pow_le_pow_right (by decide) hn
  generalize 2 ^ n = P at *
  omega
theorem fill_spec {H0 : Heap} {b : Nat} {t : TypeId} {lv wv sv : Value} (hz : okZ zs) (o : Owns H0 H [.box b (codeCells lv wv (countsL []) sv) t, .sl lv 1 (numsV zs)])
    (h : ∀ H' r, Owns H0 H' [.box b (codeCells lv wv (countsL (natL zs)) sv) t, .sl lv 1 (numsV zs)] → (if leftC (natL zs) 15 < 0 then r < 0 else r = leftC (natL zs) 15) → R (.int .i64 r) H') : CallsH Tryz.prog 39 #[.pointer (some ⟨b, 0, none⟩)] H R := by
  have hvl : (numsV zs).length = zs.length * 1 := by rw [numsV_len]; omega
  have hz1 := hz.1
  refine canon_Code_fill.vc _ _ _ ?_
  unfold canon_Code_fill.res
  rw [pNil_v, pFieldAddr_v]
  refine o.bload (by repeat (first | exact List.mem_cons_self | apply List.mem_cons_of_mem)) rfl ?_
  refine (o.sl (v := lv) (by repeat (first | exact List.mem_cons_self | apply List.mem_cons_of_mem))).len hvl (by decide) ?_
  refine ⟨fun i H' => ∃ k : Nat, i = .int .i64 k ∧ k ≤ zs.length ∧ Owns H0 H' [.box b (codeCells lv wv (countsL (natL (zs.take k))) sv) t, .sl lv 1 (numsV zs)], fun i _ => match i with | .int _ x => (1000 - x).toNat | _ => 0, ⟨0, rfl, by omega, o⟩, ?_⟩
  rintro _ _ H1 ⟨k, rfl, hk, o⟩
  rw [pLt_v]
  refine pCond_if (fun hc => ?_) (fun hc => ?_)
  · have hkn : k < zs.length := by omega
    have hzk := hz.2 _ (List.getElem_mem hkn)
    have hsn := natL_snoc hkn
    obtain ⟨q, hq⟩ : ∃ q : Nat, zs[k] = q := ⟨zs[k].toNat, by omega⟩
    rw [hq, Int.toNat_natCast] at hsn
    refine (o.sl (v := lv) (by repeat (first | exact List.mem_cons_self | apply List.mem_cons_of_mem))).at_ hvl (by decide) (by omega) (by omega) fun p hp => ?_
    refine hp.load (o.sl (v := lv) (by repeat (first | exact List.mem_cons_self | apply List.mem_cons_of_mem))) (w := .int .i64 q) (by rw [Int.toNat_natCast, Nat.mul_one, numsV_get hkn, hq]) ?_
    rw [pGt_v]
    refine pCond_if (fun hpos => ?_) (fun hpos => ?_)
    · have hcl := countsL_len (natL (zs.take k))
      have hc1 : cntL (natL (zs.take k)) q ≤ 288 := by
        have := List.countP_le_length (p := fun j : Nat => decide (j = q)) (l := natL (zs.take k))
        rw [natL_len, List.length_take] at this
        unfold cntL; omega
      rw [pNil_v, pFieldAddr_v, add_mk, pIdxArr_v]
      refine ⟨by omega, by omega, ?_⟩
      rw [add_mk, show 0 + 2 + (q : Int).toNat * 1 = 2 + q by omega]
      refine o.bload (by repeat (first | exact List.mem_cons_self | apply List.mem_cons_of_mem)) (codeCells_count (by rw [hcl]; omega)) ?_
      rw [countsL_at (by omega), if_neg (by omega), pAdd_v, w64 (n := ((cntL (natL (zs.take k)) q : Nat) : Int) + 1) (by omega) (by omega)]
      rw [pNil_v, pFieldAddr_v, add_mk, pIdxArr_v]
      refine ⟨by omega, by omega, ?_⟩
      rw [add_mk, show 0 + 2 + (q : Int).toNat * 1 = 2 + q by omega]
      refine o.bstore (cs := codeCells lv wv (countsL (natL (zs.take k))) sv) (by repeat (first | exact List.mem_cons_self | apply List.mem_cons_of_mem)) (by simp [numsV_len, hcl]; omega) rfl (by repeat (first | exact Rep.here | apply Rep.there)) fun H2 o _ => ?_
      rw [codeCells_set (by rw [hcl]; omega), ← countsL_snoc (by omega) (by omega), ← hsn] at o
      rw [pAdd_v, w64 (n := (k : Int) + 1) (by omega) (by omega)]
      exact ⟨⟨k + 1, rfl, by omega, o⟩, by show (_ : Int).toNat < (_ : Int).toNat; omega⟩
    · have hq0 : q = 0 := by omega
      subst hq0
      rw [← countsL_zero, ← hsn] at o
      rw [pAdd_v, w64 (n := (k : Int) + 1) (by omega) (by omega)]
      exact ⟨⟨k + 1, rfl, by omega, o⟩, by show (_ : Int).toNat < (_ : Int).toNat; omega⟩
  have hkk : k = zs.length := by omega
  rw [hkk, List.take_length] at o
  have hlen : (natL zs).length ≤ 288 := by rw [natL_len]; omega
  generalize natL zs = ls at *
  refine ⟨fun l i H' => ∃ n : Nat, i = .int .i64 (n + 1 : Nat) ∧ n ≤ 15 ∧ l = .int .i64 (leftC ls n) ∧ 0 ≤ leftC ls n ∧ H1 = H', fun _ i _ => match i with | .int _ x => (1000 - x).toNat | _ => 0, ⟨0, rfl, by omega, rfl, by show (0 : Int) ≤ 1; decide, rfl⟩, ?_⟩
  rintro _ _ _ _ ⟨n, rfl, hn, rfl, hl0, rfl⟩
  rw [pLe_v]
  refine pCond_if (fun hc => ?_) (fun hc => ?_)
  · have hn15 : n + 1 ≤ 15 := by omega
    have hr := leftC_range ls n (by omega) hlen
    have hr1 := leftC_range ls (n + 1) hn15 hlen
    have hs := leftC_succ ls n
    rw [pMul_v, w64 (n := 2 * leftC ls n) (by omega) (by omega)]
    rw [pNil_v, pFieldAddr_v, add_mk, pIdxArr_v]
    refine ⟨by omega, by omega, ?_⟩
    rw [add_mk, show 0 + 2 + ((n + 1 : Nat) : Int).toNat * 1 = 2 + (n + 1) by omega]
    refine o.bload (by repeat (first | exact List.mem_cons_self | apply List.mem_cons_of_mem)) (codeCells_count (by rw [countsL_len]; omega)) ?_
    rw [countsL_at (by omega), if_neg (by omega), pSub_v, ← hs, w64 (n := leftC ls (n + 1)) (by omega) (by omega), pLt_v]
    refine pCond_if (fun hneg => ?_) (fun hneg => ?_)
    · exact h H1 _ o (by rw [if_pos (leftC_neg ls hneg hn15)]; exact hneg)
    · rw [pAdd_v, w64 (n := ((n + 1 : Nat) : Int) + 1) (by omega) (by omega)]
      exact ⟨⟨n + 1, rfl, by omega, rfl, by omega, rfl⟩, by show (_ : Int).toNat < (_ : Int).toNat; omega⟩
  · have : n = 15 := by omega
    subst this
    exact h H1 _ o (by rw [if_neg (by omega)])
theorem loadN_in {H0 : Heap} {L : List It} {b f n : Nat} {t : TypeId} {pre mid post : List Value} {K : Value → Prop} (o : Owns H0 H L) (hin : It.box b (pre ++ mid ++ post) t ∈ L) (hf : pre.length = f) (hn : mid.length = n) (hk : K (.agg mid.toArray)) : pLoadN H n (.pointer (some ⟨b, f, none⟩)) K := by
  have hr : Reads H ⟨b, f, none⟩ mid := fun i w hw => by
    have hil := (List.getElem?_eq_some_iff.1 hw).1
    rw [add_mk, cellAt_blk (o.blk hin), List.getElem?_toArray, List.append_assoc, List.getElem?_append_right (by omega), List.getElem?_append_left (by omega), show f + i - pre.length = i by omega]
    exact hw
  exact hr.loadN hn hk
def sumC (ls : List Nat) : Nat → Nat
  | 0 => 0
  | n + 1 => sumC ls n + (if n = 0 then 0 else cntL ls n)
theorem sumC_cons (k : Nat) (ls : List Nat) : ∀ n, sumC (k :: ls) n = sumC ls n + (if 1 ≤ k ∧ k < n then 1 else 0)
  | 0 => by rw [if_neg (by omega)]; rfl
  | n + 1 => by
    rw [sumC, sumC, sumC_cons k ls n, cntL_cons]
    by_cases h0 : n = 0
    · subst h0; rw [if_pos rfl, if_pos rfl, if_neg (by omega), if_neg (by omega)]
    · rw [if_neg h0, if_neg h0]
      by_cases hk : k = n
      · subst hk; rw [if_pos rfl, if_neg (by omega), if_pos (by omega)]; omega
      · rw [if_neg hk]
        by_cases h1 : 1 ≤ k ∧ k < n
        · rw [if_pos h1, if_pos (by omega)]; omega
        · rw [if_neg h1, if_neg (by omega)]; omega
theorem sumC_nz : ∀ (ls : List Nat), (∀ k ∈ ls, k ≤ 15) → sumC ls 16 = nzL ls
  | [], _ => rfl
  | k :: ls, h => by
    rw [sumC_cons, sumC_nz ls fun x hx => h x (by simp [hx])]
    have := h k (by simp)
    unfold nzL
    rw [List.countP_cons]
    by_cases hk : k = 0
    · subst hk; rfl
    · rw [if_pos (by omega)]; simp [hk]
theorem sumC_le {ls : List Nat} (hlen : ls.length ≤ 288) : ∀ k, sumC ls k ≤ k * 288
  | 0 => Nat.le_refl _
  | k + 1 => by
    have ih := sumC_le hlen k
    have hc : cntL ls k ≤ 288 := Nat.le_trans (List.countP_le_length) hlen
    rw [sumC, Nat.succ_mul]
    by_cases h0 : k = 0
    · rw [if_pos h0]; exact Nat.le_trans ih (Nat.le_add_right _ _)
    · rw [if_neg h0]; exact Nat.add_le_add ih hc
theorem pIdxAgg_to {n : Nat} {l : List Value} {k : IntKind} {i : Int} {x : Value} {K : Value → Prop} (h0 : 0 ≤ i) (h1 : i < (n : Int)) (hx : l[i.toNat]? = some x) (hK : K x) : pIdxAgg n (.agg l.toArray) (.int k i) K := by
  refine ⟨h0, h1, ?_⟩
  show match l[i.toNat]? with | some v => K v | none => False
  rw [hx]
  exact hK
theorem slack_spec {H0 : Heap} {b : Nat} {t : TypeId} {lv wv sv : Value} (hz : okZ zs) (o : Owns H0 H [.box b (codeCells lv wv (countsL (natL zs)) sv) t, .sl lv 1 (numsV zs)])
    (h : R (.bool (slackL (natL zs))) H) : CallsH Tryz.prog 40 #[.pointer (some ⟨b, 0, none⟩)] H R := by
  have hz1 := hz.1
  have hlen : (natL zs).length ≤ 288 := by rw [natL_len]; omega
  have hle : ∀ k ∈ natL zs, k ≤ 15 := fun k hk => by
    obtain ⟨z, hz', rfl⟩ := List.mem_map.1 hk
    have := hz.2 z hz'
    omega
  generalize natL zs = ls at *
  refine canon_Code_slack.vc _ _ _ ?_
  unfold canon_Code_slack.res
  rw [pNil_v, pFieldAddr_v, add_mk]
  refine loadN_in (pre := [lv, wv]) (mid := numsV (countsL ls)) (post := [sv]) o (List.mem_cons_self) rfl (by rw [numsV_len, countsL_len]) ?_
  have hsum := sumC_le hlen
  refine ⟨fun a i H' => ∃ k : Nat, i = .int .i64 k ∧ k ≤ 16 ∧ a = .int .i64 (sumC ls k : Nat) ∧ H = H', fun _ i _ => match i with | .int _ x => (1000 - x).toNat | _ => 0, ⟨0, rfl, by omega, rfl, rfl⟩, ?_⟩
  rintro _ _ _ _ ⟨k, rfl, hk, rfl, rfl⟩
  have hsk := hsum k
  rw [pLt_v]
  refine pCond_if (fun hc => ?_) (fun hc => ?_)
  · have hk16 : k < 16 := by omega
    have hc : cntL ls k ≤ 288 := Nat.le_trans (List.countP_le_length) hlen
    have hgo : ∀ {K : Value → Prop}, K (.int .i64 (if k = 0 then 0 else ((cntL ls k : Nat) : Int))) → pIdxAgg 16 (.agg (numsV (countsL ls)).toArray) (.int .i64 (k : Int)) K := fun hK =>
      pIdxAgg_to (Int.natCast_nonneg k) (Int.ofNat_lt.2 hk16) (by rw [Int.toNat_natCast, numsV_get (by rw [countsL_len]; exact hk16), countsL_at hk16]) hK
    refine hgo ?_
    rw [pAdd_v, pAdd_v, w64 (n := (k : Int) + 1) (by omega) (by omega)]
    refine ⟨⟨k + 1, rfl, by omega, ?_, rfl⟩, by show (_ : Int).toNat < (_ : Int).toNat; omega⟩
    rw [sumC]
    split
    · rw [w64 (by omega) (by omega)]; simp
    · rw [w64 (by omega) (by omega)]; rfl
  · have : k = 16 := by omega
    subst this
    rw [sumC_nz ls hle, pEq_0, dec_zero]
    refine pOr_if (d := decide (nzL ls = 1) && decide (cntL ls 1 = 1)) (fun _ => ?_) (fun _ => h)
    rw [pEq_0, dec_one]
    refine pAnd_if (d := decide (cntL ls 1 = 1)) (fun _ => ?_) (fun _ => ⟨rfl, rfl⟩)
    rw [pNil_v, pFieldAddr_v, add_mk, pIdxArr_v]
    refine ⟨by decide, by decide, ?_⟩
    rw [add_mk]
    refine o.bload (f := 2 + 1) (by repeat (first | exact List.mem_cons_self | apply List.mem_cons_of_mem)) (codeCells_count (by rw [countsL_len]; decide)) ?_
    rw [countsL_at (by decide), if_neg (by decide), pEq_0, dec_one]
    exact ⟨rfl, rfl⟩
end Go.Proofs.YtameljhbkedhjaaGreatDoor
namespace Go.Proofs.YtameljhbkedhjaaGreatDoor
open Go Go.Vc Go.Proofs
set_option linter.unusedVariables false
set_option linter.unusedSimpArgs false
variable {H : Heap} {R : Value → Heap → Prop} {v : Value} {zs : List Int}
def wordV (ls : List Nat) (s : Nat) : List Value := [.int .u64 (revN (codeL ls s) (ls.getD s 0) : Nat), .int .i64 (ls.getD s 0 : Nat)]
def wordsV (ls : List Nat) : List Value := ((List.range ls.length).map (wordV ls)).flatten
theorem wordV_zero {ls : List Nat} {s : Nat} (h : ls.getD s 0 = 0) : wordV ls s = [.int .u64 0, .int .i64 0] := by unfold wordV; rw [h]; rfl
def symsN (ls : List Nat) (n x : Nat) : List Nat := (List.range x).filter fun s => decide (ls.getD s 0 = n)
def symsB (ls : List Nat) : Nat → List Nat
  | 0 => []
  | n + 1 => symsB ls n ++ (if n = 0 then [] else symsN ls n ls.length)
theorem symsN_len {ls : List Nat} {n : Nat} : ∀ x, x ≤ ls.length → (symsN ls n x).length = cntL (ls.take x) n
  | 0, _ => rfl
  | x + 1, h => by
    have hx : x < ls.length := by omega
    have hg : ls.getD x 0 = ls[x] := by rw [List.getD_eq_getElem?_getD, List.getElem?_eq_getElem hx]; rfl
    unfold symsN
    rw [List.range_succ, List.filter_append, List.length_append, take_snoc hx, cntL_append]
    have ih := symsN_len (ls := ls) (n := n) x (by omega)
    unfold symsN at ih
    rw [ih]
    unfold cntL
    rw [List.filter_cons, List.filter_nil, hg, List.countP_cons, List.countP_nil]
    by_cases he : ls[x] = n
    · rw [decide_eq_true he]; rfl
    · rw [decide_eq_false he]; rfl
theorem symsB_len {ls : List Nat} : ∀ n, (symsB ls n).length = sumC ls n
  | 0 => rfl
  | n + 1 => by
    rw [symsB, sumC, List.length_append, symsB_len n]
    by_cases h0 : n = 0
    · rw [if_pos h0, if_pos h0]; rfl
    · rw [if_neg h0, if_neg h0, symsN_len _ (Nat.le_refl _), List.take_length]
theorem flat_set {n : Nat} : ∀ (L : List (List Value)) (i : Nat) (r : List Value), (∀ r ∈ L, r.length = n) → r.length = n → i < L.length → putL L.flatten (i * n) r = (L.set i r).flatten := fun L i r hl hr hi => by
  have e : L = L.take i ++ L[i] :: L.drop (i + 1) := by rw [← List.drop_eq_getElem_cons hi, List.take_append_drop]
  have hu : L[i].length = n := hl _ (List.getElem_mem hi)
  have hp : (L.take i).flatten.length = i * n := by
    rw [flat_len (L.take i) (fun x hx => hl x (List.mem_of_mem_take hx)), List.length_take, Nat.min_eq_left (by omega)]
  have e1 : L.flatten = (L.take i).flatten ++ (L[i] ++ (L.drop (i + 1)).flatten) := by
    conv => lhs; rw [e]
    rw [List.flatten_append, List.flatten_cons]
  have e2 : (L.set i r).flatten = (L.take i).flatten ++ (r ++ (L.drop (i + 1)).flatten) := by
    rw [List.set_eq_take_append_cons_drop, if_pos hi, List.flatten_append, List.flatten_cons]
  rw [e1, e2, ← hp, putL_mid r _ _ (by rw [List.length_append]; omega), List.append_assoc, List.drop_append_of_le_length (by omega), List.drop_of_length_le (by omega), List.nil_append]
def rowsP (ls : List Nat) (n x : Nat) : List (List Value) := (List.range ls.length).map fun s => if 1 ≤ ls.getD s 0 ∧ (ls.getD s 0 < n ∨ (ls.getD s 0 = n ∧ s < x)) then wordV ls s else [.int .u64 0, .int .i64 0]
theorem rowsP_len {ls : List Nat} {n x : Nat} : (rowsP ls n x).length = ls.length := by simp [rowsP]
theorem rowsP_row {ls : List Nat} {n x : Nat} : ∀ r ∈ rowsP ls n x, r.length = 2 := by
  intro r hr
  obtain ⟨s, _, rfl⟩ := List.mem_map.1 hr
  split <;> rfl
theorem rowsP_congr {ls : List Nat} {n x m y : Nat} (h : ∀ s, s < ls.length → (1 ≤ ls.getD s 0 ∧ (ls.getD s 0 < n ∨ (ls.getD s 0 = n ∧ s < x)) ↔ 1 ≤ ls.getD s 0 ∧ (ls.getD s 0 < m ∨ (ls.getD s 0 = m ∧ s < y)))) : rowsP ls n x = rowsP ls m y := by
  unfold rowsP
  refine List.map_congr_left fun s hs => ?_
  have := h s (List.mem_range.1 hs)
  by_cases hc : 1 ≤ ls.getD s 0 ∧ (ls.getD s 0 < n ∨ (ls.getD s 0 = n ∧ s < x))
  · rw [if_pos hc, if_pos (this.1 hc)]
  · rw [if_neg hc, if_neg (fun g => hc (this.2 g))]
theorem rowsP_same {ls : List Nat} {n x : Nat} (h : ls.getD x 0 ≠ n) : rowsP ls n (x + 1) = rowsP ls n x := rowsP_congr fun s hs => by
  constructor
  · rintro ⟨h1, h2 | ⟨h2, h3⟩⟩
    · exact ⟨h1, .inl h2⟩
    · refine ⟨h1, .inr ⟨h2, ?_⟩⟩
      by_cases he : s = x
      · subst he; exact absurd h2 h
      · omega
  · rintro ⟨h1, h2 | ⟨h2, h3⟩⟩
    · exact ⟨h1, .inl h2⟩
    · exact ⟨h1, .inr ⟨h2, by omega⟩⟩
theorem rowsP_at {ls : List Nat} {n x i : Nat} (h : i < ls.length) : (rowsP ls n x)[i]? = some (if 1 ≤ ls.getD i 0 ∧ (ls.getD i 0 < n ∨ (ls.getD i 0 = n ∧ i < x)) then wordV ls i else [.int .u64 0, .int .i64 0]) := by
  unfold rowsP
  rw [List.getElem?_map, List.getElem?_range h]; rfl
theorem rowsP_set {ls : List Nat} {n x : Nat} (hx : x < ls.length) (h : ls.getD x 0 = n) (hn : 1 ≤ n) : (rowsP ls n x).set x (wordV ls x) = rowsP ls n (x + 1) := by
  apply List.ext_getElem?
  intro i
  by_cases hil : i < ls.length
  · rw [rowsP_at hil]
    by_cases hi : x = i
    · subst hi
      rw [List.getElem?_set_self (by rw [rowsP_len]; exact hx), if_pos ⟨by omega, .inr ⟨h, by omega⟩⟩]
    · rw [List.getElem?_set_ne hi, rowsP_at hil]
      by_cases hc : 1 ≤ ls.getD i 0 ∧ (ls.getD i 0 < n ∨ (ls.getD i 0 = n ∧ i < x))
      · rw [if_pos hc, if_pos ⟨hc.1, hc.2.imp id fun g => ⟨g.1, by omega⟩⟩]
      · rw [if_neg hc, if_neg (fun g => hc ⟨g.1, g.2.imp id fun g => ⟨g.1, by omega⟩⟩)]
  · rw [List.getElem?_eq_none (by rw [List.length_set, rowsP_len]; omega), List.getElem?_eq_none (by rw [rowsP_len]; omega)]
theorem rowsP_next {ls : List Nat} {n : Nat} : rowsP ls n ls.length = rowsP ls (n + 1) 0 := rowsP_congr fun s hs => by omega
theorem rowsP_start {ls : List Nat} : (rowsP ls 1 0).flatten = repL [.int .u64 0, .int .i64 0] ls.length := by
  rw [repL_rep]
  congr 1
  apply List.ext_getElem?
  intro i
  by_cases hil : i < ls.length
  · rw [rowsP_at hil, List.getElem?_replicate, if_pos hil, if_neg (by omega)]
  · rw [List.getElem?_eq_none (by rw [rowsP_len]; omega), List.getElem?_eq_none (by rw [List.length_replicate]; omega)]
theorem rowsP_end {ls : List Nat} (h : ∀ k ∈ ls, k ≤ 15) : (rowsP ls 16 0).flatten = wordsV ls := by
  unfold rowsP wordsV
  congr 1
  refine List.map_congr_left fun s hs => ?_
  have hsl := List.mem_range.1 hs
  have hg : ls.getD s 0 = ls[s] := by rw [List.getD_eq_getElem?_getD, List.getElem?_eq_getElem hsl]; rfl
  have h15 := h _ (List.getElem_mem hsl)
  by_cases h0 : ls.getD s 0 = 0
  · rw [if_neg (by omega), wordV_zero h0]
  · rw [if_pos ⟨by omega, .inl (by omega)⟩]
def symsV (l : List Nat) : List Value := l.map fun s => Value.int .i64 (s : Nat)
theorem symsV_len (l : List Nat) : (symsV l).length = l.length := by simp [symsV]
theorem symsN_hit {ls : List Nat} {n x : Nat} (h : ls.getD x 0 = n) : symsN ls n (x + 1) = symsN ls n x ++ [x] := by
  unfold symsN
  rw [List.range_succ, List.filter_append, List.filter_cons, List.filter_nil, decide_eq_true h]; rfl
theorem symsN_miss {ls : List Nat} {n x : Nat} (h : ls.getD x 0 ≠ n) : symsN ls n (x + 1) = symsN ls n x := by
  unfold symsN
  rw [List.range_succ, List.filter_append, List.filter_cons, List.filter_nil, decide_eq_false h]; simp
theorem endC_le {ls : List Nat} (h : ls.length ≤ 288) (n : Nat) : endC ls n ≤ 288 * 2 ^ n := by
  rw [endC_share]
  exact Nat.le_trans (shareL_le ls n) (Nat.mul_le_mul_right _ h)
theorem natL_getD {i : Nat} (h : i < zs.length) : (natL zs).getD i 0 = zs[i].toNat := by
  rw [List.getD_eq_getElem?_getD, List.getElem?_eq_getElem (by rw [natL_len]; exact h)]
  simp [natL]
theorem assign_spec {H0 : Heap} {b : Nat} {t : TypeId} {lv : Value} (hz : okZ zs) (o : Owns H0 H [.box b (codeCells lv (.slice none 0 0) (countsL (natL zs)) (.slice none 0 0)) t, .sl lv 1 (numsV zs)])
    (h : ∀ H' wv sv, Owns H0 H' [.box b (codeCells lv wv (countsL (natL zs)) sv) t, .sl lv 1 (numsV zs), .sl wv 2 (wordsV (natL zs)), .sl sv 1 (symsV (symsB (natL zs) 16))] → R (.tuple #[]) H') : CallsH Tryz.prog 41 #[.pointer (some ⟨b, 0, none⟩)] H R := by
  have hvl : (numsV zs).length = zs.length * 1 := by rw [numsV_len]; omega
  have hz1 := hz.1
  have hgz := @natL_getD zs
  have hlen : (natL zs).length = zs.length := natL_len zs
  have hle : ∀ k ∈ natL zs, k ≤ 15 := fun k hk => by
    obtain ⟨z, hz', rfl⟩ := List.mem_map.1 hk
    have := hz.2 z hz'
    omega
  generalize natL zs = ls at *
  have hend := endC_le (ls := ls) (by omega)
  refine canon_Code_assign.vc _ _ _ ?_
  unfold canon_Code_assign.res
  rw [pNil_v, pFieldAddr_v]
  refine o.bload (by repeat (first | exact List.mem_cons_self | apply List.mem_cons_of_mem)) rfl ?_
  refine (o.sl (v := lv) (by repeat (first | exact List.mem_cons_self | apply List.mem_cons_of_mem))).len hvl (by decide) ?_
  refine o.make (by decide) (by omega) (by omega) (by omega) fun wv H1 o => ?_
  rw [Int.toNat_natCast, ← hlen, ← rowsP_start] at o
  rw [pNil_v, pFieldAddr_v, add_mk]
  refine o.bstore (f := 0 + 1) (cs := codeCells lv (.slice none 0 0) (countsL ls) (.slice none 0 0)) (by repeat (first | exact List.mem_cons_self | apply List.mem_cons_of_mem)) (by simp) (o.sl (v := wv) (by repeat (first | exact List.mem_cons_self | apply List.mem_cons_of_mem))).one (by repeat (first | exact Rep.here | apply Rep.there)) fun H2 o _ => ?_
  have o : Owns H0 H2 [.box b (codeCells lv wv (countsL ls) (.slice none 0 0)) t, .sl lv 1 (numsV zs), .sl wv 2 (rowsP ls 1 0).flatten] := o.arr (by repeat (first | exact Sels.nil | exact Sel.here | apply Sels.cons | apply Sel.there))
  have o := o.add (Ext.refl _) (i := .sl (.slice none 0 0) 1 []) ⟨by decide, .inl ⟨rfl, rfl⟩⟩ (by intro k hk; exact absurd hk (by simp [It.foot, blkOf]))
  have o : Owns H0 H2 [.box b (codeCells lv wv (countsL ls) (.slice none 0 0)) t, .sl lv 1 (numsV zs), .sl wv 2 (rowsP ls 1 0).flatten, .sl (.slice none 0 0) 1 (symsV (symsB ls 1))] := o.arr (by repeat (first | exact Sels.nil | exact Sel.here | apply Sels.cons | apply Sel.there))
  refine ⟨fun m i H' => ∃ n : Nat, i = .int .i64 ((n + 1 : Nat) : Int) ∧ n ≤ 15 ∧ m = .int .u64 ((endC ls n : Nat) : Int) ∧ ∃ sv, Owns H0 H' [.box b (codeCells lv wv (countsL ls) sv) t, .sl lv 1 (numsV zs), .sl wv 2 (rowsP ls (n + 1) 0).flatten, .sl sv 1 (symsV (symsB ls (n + 1)))], fun _ i _ => match i with | .int _ x => (1000 - x).toNat | _ => 0, ⟨0, rfl, by omega, rfl, _, o⟩, ?_⟩
  clear o
  rintro _ _ _ H3 ⟨n, rfl, hn, rfl, sv, o⟩
  rw [pLe_v]
  refine pCond_if (fun hc => ?_) (fun hc => ?_)
  · have hn15 : n + 1 ≤ 15 := by omega
    have he := hend n
    have hp2 : 2 ^ n ≤ 2 ^ 15 := Nat.pow_le_pow_right (by decide) hn
    generalize 2 ^ n = P at *
    rw [pShl_v]
    refine ⟨by decide, ?_⟩
    rw [show min (1 : Int).toNat IntKind.u64.bits = 1 from rfl, show ((endC ls n : Nat) : Int) * 2 ^ 1 = ((startC ls (n + 1) : Nat) : Int) by unfold startC; rw [Nat.add_sub_cancel]; omega]
    have hst : startC ls (n + 1) = 2 * endC ls n := by unfold startC; rw [Nat.add_sub_cancel]
    rw [wu64 (by omega) (by omega)]
    rw [pNil_v, pFieldAddr_v]
    refine o.bload (by repeat (first | exact List.mem_cons_self | apply List.mem_cons_of_mem)) rfl ?_
    refine (o.sl (v := lv) (by repeat (first | exact List.mem_cons_self | apply List.mem_cons_of_mem))).len hvl (by decide) ?_
    refine ⟨fun m i H' => ∃ k : Nat, i = .int .i64 (k : Int) ∧ k ≤ zs.length ∧ m = .int .u64 ((startC ls (n + 1) + cntL (ls.take k) (n + 1) : Nat) : Int) ∧ ∃ sv, Owns H0 H' [.box b (codeCells lv wv (countsL ls) sv) t, .sl lv 1 (numsV zs), .sl wv 2 (rowsP ls (n + 1) k).flatten, .sl sv 1 (symsV (symsB ls (n + 1) ++ symsN ls (n + 1) k))], fun _ i _ => match i with | .int _ x => (1000 - x).toNat | _ => 0, ⟨0, rfl, by omega, rfl, sv, by rw [show symsN ls (n + 1) 0 = [] from rfl, List.append_nil]; exact o⟩, ?_⟩
    clear o
    rintro _ _ _ H4 ⟨k, rfl, hk, rfl, sv, o⟩
    rw [pLt_v]
    refine pCond_if (fun hc => ?_) (fun hc => ?_)
    · have hkn : k < zs.length := by omega
      have hcl : cntL (ls.take k) (n + 1) ≤ 288 := Nat.le_trans List.countP_le_length (by rw [List.length_take]; omega)
      have hzk := hz.2 _ (List.getElem_mem hkn)
      refine (o.sl (v := lv) (by repeat (first | exact List.mem_cons_self | apply List.mem_cons_of_mem))).at_ hvl (by decide) (by omega) (by omega) fun p hp => ?_
      refine hp.load (o.sl (v := lv) (by repeat (first | exact List.mem_cons_self | apply List.mem_cons_of_mem))) (w := .int .i64 zs[k]) (by rw [Int.toNat_natCast, Nat.mul_one, numsV_get hkn]) ?_
      rw [pEq_0, pAdd_v, w64 (n := (k : Int) + 1) (by omega) (by omega)]
      have hxk : ls[k]? = some zs[k].toNat := by
        have := hgz hkn
        rw [List.getD_eq_getElem?_getD, List.getElem?_eq_getElem (by omega)] at this
        rw [List.getElem?_eq_getElem (by omega), ← this]; rfl
      have htk : cntL (ls.take (k + 1)) (n + 1) = cntL (ls.take k) (n + 1) + (if ls.getD k 0 = n + 1 then 1 else 0) := by
        rw [List.take_add_one, hxk, hgz hkn, cntL_append, Option.toList, cntL_cons]
        simp [cntL]
      refine pCond_b (fun hb => ?_) (fun hb => ?_)
      · have hkv : zs[k] = ((n + 1 : Nat) : Int) := by
          have := hb
          simp at this
          rw [this]; rfl
        have hg : ls.getD k 0 = n + 1 := by rw [hgz hkn, hkv]; rfl
        rw [if_pos hg] at htk
        rw [pNil_v, pFieldAddr_v, add_mk]
        refine o.bload (f := 0 + 1) (by repeat (first | exact List.mem_cons_self | apply List.mem_cons_of_mem)) rfl ?_
        refine turned_spec03 (by omega) (by omega) ?_
        refine ⟨o.bload (f := 0 + 1) (by repeat (first | exact List.mem_cons_self | apply List.mem_cons_of_mem)) rfl rfl, ?_⟩
        refine pBuild_two rfl rfl ?_
        have hrl : (rowsP ls (n + 1) k).flatten.length = zs.length * 2 := by rw [flat_len _ rowsP_row, rowsP_len, hlen]
        refine (o.sl (v := wv) (by repeat (first | exact List.mem_cons_self | apply List.mem_cons_of_mem))).at_ hrl (by decide) (by omega) (by omega) fun p hp => ?_
        refine o.storeN (l := (rowsP ls (n + 1) k).flatten) hp (by repeat (first | exact List.mem_cons_self | apply List.mem_cons_of_mem)) rfl (by omega) rfl (by repeat (first | exact Rep.here | apply Rep.there)) fun H5 o _ => ?_
        rw [Int.toNat_natCast, flat_set _ _ _ rowsP_row rfl (by rw [rowsP_len]; omega)] at o
        have hw : [Value.int .u64 (revN (startC ls (n + 1) + cntL (ls.take k) (n + 1)) (n + 1) : Nat), .int .i64 ((n + 1 : Nat) : Int)] = wordV ls k := by
          unfold wordV codeL rankL
          rw [hg]
        rw [hw, rowsP_set (by omega) hg (by omega)] at o
        rw [pNil_v, pFieldAddr_v, add_mk]
        refine o.bload (f := 0 + 18) (by repeat (first | exact List.mem_cons_self | apply List.mem_cons_of_mem)) rfl ?_
        refine o.build1 (sz := 1) (by decide) rfl rfl fun y H6 o => ?_
        have hsz : (symsV (symsB ls (n + 1) ++ symsN ls (n + 1) k)).length ≤ 5000 := by
          rw [symsV_len, List.length_append, symsB_len, symsN_len _ (by omega)]
          have := sumC_le (ls := ls) (by omega) (n + 1)
          have h2 : (n + 1) * 288 ≤ 15 * 288 := Nat.mul_le_mul_right _ hn15
          exact Nat.le_trans (Nat.add_le_add (Nat.le_trans this h2) hcl) (by decide)
        refine o.app (by repeat (first | exact Sel.here | apply Sel.there)) (o.sl (v := y) (by repeat (first | exact List.mem_cons_self | apply List.mem_cons_of_mem))) rfl (by show 2 * (_ + 1) * 8 ≤ _; omega) fun z H7 o => ?_
        rw [pNil_v, pFieldAddr_v, add_mk]
        refine o.bstore (f := 0 + 18) (cs := codeCells lv wv (countsL ls) sv) (by repeat (first | exact List.mem_cons_self | apply List.mem_cons_of_mem)) (by simp [numsV_len, countsL_len]) (o.sl (v := z) (by repeat (first | exact List.mem_cons_self | apply List.mem_cons_of_mem))).one (by repeat (first | exact Rep.here | apply Rep.there)) fun H8 o _ => ?_
        rw [pAdd_v, wu64 (by omega) (by omega), pAdd_v, w64 (n := (k : Int) + 1) (by omega) (by omega)]
        refine ⟨⟨k + 1, rfl, by omega, ?_, z, ?_⟩, by show (_ : Int).toNat < (_ : Int).toNat; omega⟩
        · rw [htk]; rfl
        · rw [symsN_hit hg]
          have e : symsV (symsB ls (n + 1) ++ symsN ls (n + 1) k) ++ [Value.int .i64 (k : Int)] = symsV (symsB ls (n + 1) ++ (symsN ls (n + 1) k ++ [k])) := by simp [symsV]
          rw [← e]
          exact o.arr (by repeat (first | exact Sels.nil | exact Sel.here | apply Sels.cons | apply Sel.there))
      · have hkv : zs[k] ≠ ((n + 1 : Nat) : Int) := by
          intro e
          rw [e] at hb
          simp at hb
        have hg : ls.getD k 0 ≠ n + 1 := by rw [hgz hkn]; omega
        rw [if_neg hg, Nat.add_zero] at htk
        refine ⟨⟨k + 1, rfl, by omega, by rw [htk]; rfl, sv, ?_⟩, by show (_ : Int).toNat < (_ : Int).toNat; omega⟩
        rw [rowsP_same hg, symsN_miss hg]
        exact o
    · have hkk : k = zs.length := by omega
      rw [hkk, ← hlen, rowsP_next] at o
      rw [hkk, ← hlen, List.take_length, ← endC_start _ (by omega)]
      rw [pAdd_v, w64 (n := ((n + 1 : Nat) : Int) + 1) (by omega) (by omega)]
      refine ⟨⟨n + 1, rfl, by omega, rfl, sv, ?_⟩, by show (_ : Int).toNat < (_ : Int).toNat; omega⟩
      rw [symsB, if_neg (by omega)]
      exact o
  · have : n = 15 := by omega
    subst this
    rw [rowsP_end hle] at o
    exact h _ _ _ o
end Go.Proofs.YtameljhbkedhjaaGreatDoor
namespace Go.Proofs.YtameljhbkedhjaaGreatDoor
open Go Go.Vc Go.Proofs
set_option linter.unusedVariables false
set_option maxHeartbeats 4000000
def slices_insertionSortCmpFunc_int.an : Ann := (.seq (.reg (.op 0 [] (.op 1 [] (.op 2 [] .nil)))) (.block (.loop [8] [8, 9, 12, 13, 14, 15, 16, 17, 18, 19, 20, 21, 22, 23, 24, 25, 26, 27, 28, 29, 30, 31, 32, 33, 34, 35, 36, 37, 38, 39, 40, 41, 42, 43, 44, 45, 46, 47, 48, 49, 50, 51, 52] (.seq (.seq (.reg (.op 0 [] (.op 1 [] (.op 2 [] .nil)))) (.cond .leaf .leaf)) (.seq (.block (.seq (.reg (.op 0 [] (.op 1 [] .nil))) (.block (.loop [9] [9, 18, 19, 20, 21, 22, 23, 24, 25, 26, 27, 28, 29, 30, 31, 32, 33, 34, 35, 36, 37, 38, 39, 40, 41, 42, 43, 44, 45, 46, 47, 48, 49, 50, 51, 52] (.seq (.seq (.drw [0, 0, 3, 7, 15, 15, 15, 111, 239, 15, 15, 1039, 3599, 7695, 16383, 32767, 65535] (.op 0 [] (.op 1 [] (.op 2 [] (.op 3 [] (.grp 3 (.op 4 [] (.op 5 [] (.op 6 [] (.op 7 [] (.op 8 [] (.op 9 [] (.op 10 [] (.op 11 [] (.op 12 [] (.op 13 [] (.op 14 [] (.op 15 [] .nil)))))))))))) 16 .nil)))))) (.cond .leaf .leaf)) (.seq (.block (.drw [0, 0, 0, 0, 8, 0, 0, 64, 224, 480, 0, 0, 3072, 7168, 16355, 32739, 65535, 131071] (.op 0 [] (.op 1 [] (.op 2 [] (.op 3 [] (.op 4 [] (.op 5 [] (.op 6 [] (.op 7 [] (.op 8 [] (.op 9 [] (.op 10 [] (.op 11 [] (.op 12 [] (.op 13 [] (.op 14 [] (.op 15 [] (.op 16 [] (.op 17 [] .nil)))))))))))))))))))) (.reg (.op 0 [] (.op 1 [] (.op 2 [] .nil)))))))))) (.reg (.op 0 [] (.op 1 [] (.op 2 [] .nil)))))))))
def slices_insertionSortCmpFunc_int.res (data0 : Value) (a1 : Value) (b2 : Value) (cmp3 : Value) (H0 : Heap) (R : Value → Heap → Prop) : Prop :=
 pAdd a1 (.int .i64 1) fun x11 =>
 ∃ (I_1 : Value → Heap → Prop) (m_2 : Value → Heap → Nat), I_1 x11 H0 ∧
 ∀ _ : Env, ∀ i8 : Value, ∀ H_3 : Heap, I_1 i8 H_3 →
 pLt i8 b2 fun x14 =>
 pCond x14
 (∃ (I_4 : Value → Heap → Prop) (m_5 : Value → Heap → Nat), I_4 i8 H_3 ∧
 ∀ _ : Env, ∀ j9 : Value, ∀ H_6 : Heap, I_4 j9 H_6 →
 pGt j9 a1 fun x20 =>
 pAnd x20 (fun J_7 =>
 pIdxSl 1 data0 j9 fun x25 =>
 pLoad H_6 x25 fun x26 =>
 pSub j9 (.int .i64 1) fun x29 =>
 pIdxSl 1 data0 x29 fun x30 =>
 pLoad H_6 x30 fun x31 =>
 callH Tryz.prog Tryz.C cmp3 [x26, x31] H_6 fun x32 H_9 =>
 pLt x32 (.int .i64 0) fun x33 =>
 J_7 x33 H_9) H_6 fun x34 H_8 => ∀ _ : Env,
 pCond x34
 (pSub j9 (.int .i64 1) fun x41 =>
 pSub j9 (.int .i64 1) fun x44 =>
 pIdxSl 1 data0 x44 fun x45 =>
 pLoad H_8 x45 fun x46 =>
 pIdxSl 1 data0 j9 fun x49 =>
 pLoad H_8 x49 fun x50 =>
 pIdxSl 1 data0 j9 fun x51 =>
 pStore H_8 x51 x46 fun _ H_10 =>
 pIdxSl 1 data0 x41 fun x52 =>
 pStore H_10 x52 x50 fun _ H_11 =>
 pSub j9 (.int .i64 1) fun x36 =>
 I_4 x36 H_11 ∧ m_5 x36 H_11 < m_5 j9 H_6)
 (pAdd i8 (.int .i64 1) fun x16 =>
 I_1 x16 H_8 ∧ m_2 x16 H_8 < m_2 i8 H_3))
 (R (.tuple #[]) H_3)
set_option maxRecDepth 100000 in
theorem slices_insertionSortCmpFunc_int.vc (data0 : Value) (a1 : Value) (b2 : Value) (cmp3 : Value) (H0 : Heap) (R : Value → Heap → Prop) (h : slices_insertionSortCmpFunc_int.res data0 a1 b2 cmp3 H0 R) : CallsH Tryz.prog 106 #[data0, a1, b2, cmp3] H0 R := by
  have e : vcFn Tryz.prog Tryz.C Tryz.f106 slices_insertionSortCmpFunc_int.an [data0, a1, b2, cmp3] H0 R = slices_insertionSortCmpFunc_int.res data0 a1 b2 cmp3 H0 R := by kernel_rfl
  exact vcFn_sound Tryz.callable Tryz.mixed Tryz.func106 (by kernel_rfl) (e.mpr h)
def slices_heapSortCmpFunc_int.an : Ann := (.seq (.reg (.op 0 [] (.op 1 [] .nil))) (.seq (.reg (.op 0 [] .nil)) (.seq (.reg (.op 0 [] (.op 1 [] (.op 2 [] (.op 3 [] .nil))))) (.seq (.seq (.reg (.op 0 [] (.op 1 [] (.op 2 [] (.op 3 [] .nil))))) (.block (.loop [11] [11, 20, 21, 22, 23, 24, 25, 26, 27, 28, 29] (.seq (.seq (.reg (.op 0 [] (.op 1 [] .nil))) (.cond .leaf .leaf)) (.seq (.block (.reg (.op 0 [] (.op 1 [] (.op 2 [] (.op 3 [] (.op 4 [] (.op 5 [] .nil)))))))) (.reg (.op 0 [] (.op 1 [] (.op 2 [] .nil))))))))) (.seq (.reg (.op 0 [] (.op 1 [] (.op 2 [] .nil)))) (.block (.loop [12] [12, 32, 33, 34, 35, 36, 37, 38, 39, 40, 41, 42, 43, 44, 45, 46, 47, 48, 49, 50, 51, 52, 53, 54, 55, 56, 57, 58, 59] (.seq (.seq (.reg (.op 0 [] (.op 1 [] .nil))) (.cond .leaf .leaf)) (.seq (.block (.seq (.drw [0, 0, 0, 0, 0, 24, 0, 0, 0, 384, 960, 1984, 0, 0, 12288, 28672, 65475, 131011, 262143, 524287] (.op 0 [] (.op 1 [] (.op 2 [] (.op 3 [] (.op 4 [] (.op 5 [] (.op 6 [] (.op 7 [] (.op 8 [] (.op 9 [] (.op 10 [] (.op 11 [] (.op 12 [] (.op 13 [] (.op 14 [] (.op 15 [] (.op 16 [] (.op 17 [] (.op 18 [] (.op 19 [] .nil))))))))))))))))))))) (.reg (.op 0 [] (.op 1 [] (.op 2 [] (.op 3 [] (.op 4 [] (.op 5 [] .nil))))))))) (.reg (.op 0 [] (.op 1 [] (.op 2 [] .nil)))))))))))))
def slices_heapSortCmpFunc_int.res (data0 : Value) (a1 : Value) (b2 : Value) (cmp3 : Value) (H0 : Heap) (R : Value → Heap → Prop) : Prop :=
 pSub b2 a1 fun x16 =>
 pSub x16 (.int .i64 1) fun x18 =>
 pQuo x18 (.int .i64 2) fun x19 =>
 ∃ (I_1 : Value → Heap → Prop) (m_2 : Value → Heap → Nat), I_1 x19 H0 ∧
 ∀ _ : Env, ∀ i11 : Value, ∀ H_3 : Heap, I_1 i11 H_3 →
 pGe i11 (.int .i64 0) fun x21 =>
 pCond x21
 (CallsH Tryz.prog 120 #[data0, i11, x16, a1, cmp3] H_3 fun x29 H_4 =>
 pSub i11 (.int .i64 1) fun x23 =>
 I_1 x23 H_4 ∧ m_2 x23 H_4 < m_2 i11 H_3)
 (pSub x16 (.int .i64 1) fun x31 =>
 ∃ (I_5 : Value → Heap → Prop) (m_6 : Value → Heap → Nat), I_5 x31 H_3 ∧
 ∀ _ : Env, ∀ i12 : Value, ∀ H_7 : Heap, I_5 i12 H_7 →
 pGe i12 (.int .i64 0) fun x33 =>
 pCond x33
 (pAdd a1 i12 fun x41 =>
 pAdd a1 i12 fun x45 =>
 pIdxSl 1 data0 x45 fun x46 =>
 pLoad H_7 x46 fun x47 =>
 pIdxSl 1 data0 a1 fun x50 =>
 pLoad H_7 x50 fun x51 =>
 pIdxSl 1 data0 a1 fun x52 =>
 pStore H_7 x52 x47 fun _ H_8 =>
 pIdxSl 1 data0 x41 fun x53 =>
 pStore H_8 x53 x51 fun _ H_9 =>
 CallsH Tryz.prog 120 #[data0, (.int .i64 0), i12, a1, cmp3] H_9 fun x59 H_10 =>
 pSub i12 (.int .i64 1) fun x35 =>
 I_5 x35 H_10 ∧ m_6 x35 H_10 < m_6 i12 H_7)
 (R (.tuple #[]) H_7))
set_option maxRecDepth 100000 in
theorem slices_heapSortCmpFunc_int.vc (data0 : Value) (a1 : Value) (b2 : Value) (cmp3 : Value) (H0 : Heap) (R : Value → Heap → Prop) (h : slices_heapSortCmpFunc_int.res data0 a1 b2 cmp3 H0 R) : CallsH Tryz.prog 107 #[data0, a1, b2, cmp3] H0 R := by
  have e : vcFn Tryz.prog Tryz.C Tryz.f107 slices_heapSortCmpFunc_int.an [data0, a1, b2, cmp3] H0 R = slices_heapSortCmpFunc_int.res data0 a1 b2 cmp3 H0 R := by kernel_rfl
  exact vcFn_sound Tryz.callable Tryz.mixed Tryz.func107 (by kernel_rfl) (e.mpr h)
def slices_breakPatternsCmpFunc_int.an : Ann := (.seq (.reg (.op 0 [] (.op 1 [] (.op 2 [] (.op 3 [] .nil))))) (.seq (.reg (.op 0 [] (.op 1 [] .nil))) (.cond (.seq (.reg (.op 0 [] (.op 1 [] (.op 2 [] (.op 3 [] .nil))))) (.seq (.reg (.op 0 [] (.op 1 [] (.op 2 [] .nil)))) (.seq (.reg (.op 0 [] (.op 1 [] (.op 2 [] (.op 3 [] (.op 4 [] (.op 5 [] (.op 6 [] .nil)))))))) (.block (.loop [11] [11, 12, 28, 29, 30, 31, 32, 33, 34, 35, 36, 37, 38, 39, 40, 41, 42, 43, 44, 45, 46, 47, 48, 49, 50, 51, 52, 53, 54, 55, 56, 57, 58, 59, 60, 61, 62, 63, 64, 65, 66] (.seq (.seq (.reg (.op 0 [] (.op 1 [] (.op 2 [] (.op 3 [] (.op 4 [] (.op 5 [] (.op 6 [] (.op 7 [] .nil))))))))) (.cond .leaf .leaf)) (.seq (.block (.seq (.reg (.op 0 [] (.op 1 [] (.op 2 [] (.op 3 [] (.op 4 [] (.op 5 [] .nil))))))) (.cut [12] [12, 43, 44, 45, 46, 47, 48] (.seq (.reg (.op 0 [] (.op 1 [] (.op 2 [] .nil)))) (.cond (.reg (.op 0 [] (.op 1 [] (.op 2 [] (.op 3 [] .nil))))) .leaf)) (.drw [0, 0, 0, 0, 0, 24, 0, 0, 0, 384, 960, 1984, 0, 0, 12288, 28672, 65475, 131011, 262143, 524287] (.op 0 [] (.op 1 [] (.op 2 [] (.op 3 [] (.op 4 [] (.op 5 [] (.op 6 [] (.op 7 [] (.op 8 [] (.op 9 [] (.op 10 [] (.op 11 [] (.op 12 [] (.op 13 [] (.op 14 [] (.op 15 [] (.op 16 [] (.op 17 [] (.op 18 [] (.op 19 [] .nil)))))))))))))))))))))))) (.reg (.op 0 [] (.op 1 [] (.op 2 [] .nil))))))))))) .leaf)))
def slices_breakPatternsCmpFunc_int.res (data0 : Value) (a1 : Value) (b2 : Value) (cmp3 : Value) (H0 : Heap) (R : Value → Heap → Prop) : Prop :=
 pSub b2 a1 fun x15 =>
 pGe x15 (.int .i64 8) fun x17 =>
 pCond x17
 (pConv .u64 x15 fun x19 =>
 pBox H0 179 (.int .u64 0) fun random9 H_1 =>
 pStore H_1 random9 x19 fun _ H_2 =>
 CallsH Tryz.prog 121 #[x15] H_2 fun x21 H_3 =>
 pQuo x15 (.int .i64 4) fun x24 =>
 pMul x24 (.int .i64 2) fun x25 =>
 pAdd a1 x25 fun x26 =>
 pSub x26 (.int .i64 1) fun x27 =>
 ∃ (I_4 : Value → Heap → Prop) (m_5 : Value → Heap → Nat), I_4 x27 H_3 ∧
 ∀ _ : Env, ∀ idx11 : Value, ∀ H_6 : Heap, I_4 idx11 H_6 →
 pQuo x15 (.int .i64 4) fun x31 =>
 pMul x31 (.int .i64 2) fun x32 =>
 pAdd a1 x32 fun x33 =>
 pAdd x33 (.int .i64 1) fun x34 =>
 pLe idx11 x34 fun x35 =>
 pCond x35
 (CallsH Tryz.prog 122 #[random9] H_6 fun x38 H_7 =>
 pSub x21 (.int .u64 1) fun x40 =>
 pBits .and x38 x40 fun x41 =>
 pConv .i64 x41 fun x42 =>
 ∃ J_8 : Value → Heap → Prop, (∀ _ : Env, ∀ other12 : Value, ∀ H_9 : Heap, J_8 other12 H_9 →
 pAdd a1 other12 fun x54 =>
 pAdd a1 other12 fun x58 =>
 pIdxSl 1 data0 x58 fun x59 =>
 pLoad H_9 x59 fun x60 =>
 pIdxSl 1 data0 idx11 fun x63 =>
 pLoad H_9 x63 fun x64 =>
 pIdxSl 1 data0 idx11 fun x65 =>
 pStore H_9 x65 x60 fun _ H_10 =>
 pIdxSl 1 data0 x54 fun x66 =>
 pStore H_10 x66 x64 fun _ H_11 =>
 pAdd idx11 (.int .i64 1) fun x37 =>
 I_4 x37 H_11 ∧ m_5 x37 H_11 < m_5 idx11 H_6) ∧
 pGe x42 x15 fun x45 =>
 pCond x45
 (pSub x42 x15 fun x48 =>
 J_8 x48 H_7)
 (J_8 x42 H_7))
 (R (.tuple #[]) H_6))
 (R (.tuple #[]) H0)
set_option maxRecDepth 100000 in
theorem slices_breakPatternsCmpFunc_int.vc (data0 : Value) (a1 : Value) (b2 : Value) (cmp3 : Value) (H0 : Heap) (R : Value → Heap → Prop) (h : slices_breakPatternsCmpFunc_int.res data0 a1 b2 cmp3 H0 R) : CallsH Tryz.prog 108 #[data0, a1, b2, cmp3] H0 R := by
  have e : vcFn Tryz.prog Tryz.C Tryz.f108 slices_breakPatternsCmpFunc_int.an [data0, a1, b2, cmp3] H0 R = slices_breakPatternsCmpFunc_int.res data0 a1 b2 cmp3 H0 R := by kernel_rfl
  exact vcFn_sound Tryz.callable Tryz.mixed Tryz.func108 (by kernel_rfl) (e.mpr h)
def slices_choosePivotCmpFunc_int.an : Ann := (.seq (.reg (.op 0 [] (.op 1 [] .nil))) (.seq (.reg (.op 0 [] (.op 1 [] (.op 2 [] (.op 3 [] .nil))))) (.seq (.reg (.op 0 [] .nil)) (.seq (.reg (.op 0 [] (.op 1 [] (.op 2 [] (.op 3 [] (.op 4 [] (.op 5 [] .nil))))))) (.seq (.reg (.op 0 [] (.op 1 [] (.op 2 [] (.op 3 [] (.op 4 [] (.op 5 [] .nil))))))) (.seq (.reg (.op 0 [] (.op 1 [] (.op 2 [] (.op 3 [] (.op 4 [] (.op 5 [] .nil))))))) (.cut [13] [12, 13, 14, 33, 34, 35, 36, 37, 38, 39, 40, 41, 42, 43, 44, 45, 46, 47, 48, 49, 50, 51, 52, 53, 54] (.seq (.reg (.op 0 [] (.op 1 [] .nil))) (.cond (.cut [12, 13, 14] [12, 13, 14, 35, 36, 37, 38, 39, 40, 41, 42, 43, 44, 45, 46, 47, 48] (.seq (.reg (.op 0 [] (.op 1 [] .nil))) (.cond (.seq (.reg (.op 0 [] (.op 1 [] (.op 2 [] (.op 3 [] (.op 4 [] .nil)))))) (.seq (.reg (.op 0 [] (.op 1 [] (.op 2 [] (.op 3 [] (.op 4 [] .nil)))))) (.reg (.op 0 [] (.op 1 [] (.op 2 [] (.op 3 [] (.op 4 [] .nil)))))))) .leaf)) (.reg (.op 0 [] (.op 1 [] (.op 2 [] (.op 3 [] (.op 4 [] (.op 5 [] (.op 6 [] .nil))))))))) .leaf)) (.seq (.reg (.op 0 [] .nil)) (.block (.seq (.reg (.op 0 [] (.op 1 [] .nil))) (.cond (.seq (.reg (.op 0 [] (.op 1 [] (.op 2 [] .nil)))) .leaf) (.seq (.reg (.op 0 [] (.op 1 [] .nil))) (.cond (.seq (.reg (.op 0 [] (.op 1 [] (.op 2 [] .nil)))) .leaf) (.seq (.reg (.op 0 [] (.op 1 [] (.op 2 [] .nil)))) .leaf))))))))))))))
def slices_choosePivotCmpFunc_int.res (data0 : Value) (a1 : Value) (b2 : Value) (cmp3 : Value) (H0 : Heap) (R : Value → Heap → Prop) : Prop :=
 pSub b2 a1 fun x17 =>
 pBox H0 3 (.int .i64 0) fun swaps11 H_1 =>
 pQuo x17 (.int .i64 4) fun x20 =>
 pMul x20 (.int .i64 1) fun x21 =>
 pAdd a1 x21 fun x22 =>
 pQuo x17 (.int .i64 4) fun x25 =>
 pMul x25 (.int .i64 2) fun x26 =>
 pAdd a1 x26 fun x27 =>
 pQuo x17 (.int .i64 4) fun x30 =>
 pMul x30 (.int .i64 3) fun x31 =>
 pAdd a1 x31 fun x32 =>
 ∃ J_2 : Value → Heap → Prop, (∀ _ : Env, ∀ j13 : Value, ∀ H_3 : Heap, J_2 j13 H_3 →
 pLoad H_3 swaps11 fun x55 =>
 pEq 0 x55 (.int .i64 0) fun x58 =>
 pCond x58
 (R (.tuple #[j13, (.int .i64 1)]) H_3)
 (pEq 0 x55 (.int .i64 12) fun x61 =>
 pCond x61
 (R (.tuple #[j13, (.int .i64 2)]) H_3)
 (R (.tuple #[j13, (.int .i64 0)]) H_3))) ∧
 pGe x17 (.int .i64 8) fun x34 =>
 pCond x34
 (∃ J_4 : Value → Value → Value → Heap → Prop, (∀ _ : Env, ∀ i12 : Value, ∀ j13' : Value, ∀ k14 : Value, ∀ H_5 : Heap, J_4 i12 j13' k14 H_5 →
 CallsH Tryz.prog 124 #[data0, i12, j13', k14, swaps11, cmp3] H_5 fun x54 H_6 =>
 J_2 x54 H_6) ∧
 pGe x17 (.int .i64 50) fun x36 =>
 pCond x36
 (CallsH Tryz.prog 123 #[data0, x22, swaps11, cmp3] H_1 fun x40 H_7 =>
 CallsH Tryz.prog 123 #[data0, x27, swaps11, cmp3] H_7 fun x44 H_8 =>
 CallsH Tryz.prog 123 #[data0, x32, swaps11, cmp3] H_8 fun x48 H_9 =>
 J_4 x40 x44 x48 H_9)
 (J_4 x22 x27 x32 H_1))
 (J_2 x27 H_1)
set_option maxRecDepth 100000 in
theorem slices_choosePivotCmpFunc_int.vc (data0 : Value) (a1 : Value) (b2 : Value) (cmp3 : Value) (H0 : Heap) (R : Value → Heap → Prop) (h : slices_choosePivotCmpFunc_int.res data0 a1 b2 cmp3 H0 R) : CallsH Tryz.prog 109 #[data0, a1, b2, cmp3] H0 R := by
  have e : vcFn Tryz.prog Tryz.C Tryz.f109 slices_choosePivotCmpFunc_int.an [data0, a1, b2, cmp3] H0 R = slices_choosePivotCmpFunc_int.res data0 a1 b2 cmp3 H0 R := by kernel_rfl
  exact vcFn_sound Tryz.callable Tryz.mixed Tryz.func109 (by kernel_rfl) (e.mpr h)
def slices_reverseRangeCmpFunc_int.an : Ann := (.seq (.reg (.op 0 [] (.op 1 [] .nil))) (.seq (.reg (.op 0 [] (.op 1 [] (.op 2 [] .nil)))) (.block (.loop [8, 9] [8, 9, 13, 14, 15, 16, 17, 18, 19, 20, 21, 22, 23, 24, 25, 26, 27, 28, 29, 30, 31, 32, 33] (.seq (.seq (.reg (.op 0 [] (.op 1 [] (.op 2 [] .nil)))) (.cond .leaf .leaf)) (.block (.seq (.drw [0, 0, 0, 0, 0, 0, 48, 112, 0, 0, 768, 1792, 4083, 8179, 16383, 32767] (.op 0 [] (.op 1 [] (.op 2 [] (.op 3 [] (.op 4 [] (.op 5 [] (.op 6 [] (.op 7 [] (.op 8 [] (.op 9 [] (.op 10 [] (.op 11 [] (.op 12 [] (.op 13 [] (.op 14 [] (.op 15 [] .nil))))))))))))))))) (.seq (.reg (.op 0 [] (.op 1 [] (.op 2 [] .nil)))) (.reg (.op 0 [] (.op 1 [] (.op 2 [] .nil))))))))))))
def slices_reverseRangeCmpFunc_int.res (data0 : Value) (a1 : Value) (b2 : Value) (cmp3 : Value) (H0 : Heap) (R : Value → Heap → Prop) : Prop :=
 pSub b2 (.int .i64 1) fun x12 =>
 ∃ (I_1 : Value → Value → Heap → Prop) (m_2 : Value → Value → Heap → Nat), I_1 a1 x12 H0 ∧
 ∀ _ : Env, ∀ i8 : Value, ∀ j9 : Value, ∀ H_3 : Heap, I_1 i8 j9 H_3 →
 pLt i8 j9 fun x15 =>
 pCond x15
 (pIdxSl 1 data0 j9 fun x22 =>
 pLoad H_3 x22 fun x23 =>
 pIdxSl 1 data0 i8 fun x26 =>
 pLoad H_3 x26 fun x27 =>
 pIdxSl 1 data0 i8 fun x28 =>
 pStore H_3 x28 x23 fun _ H_4 =>
 pIdxSl 1 data0 j9 fun x29 =>
 pStore H_4 x29 x27 fun _ H_5 =>
 pAdd i8 (.int .i64 1) fun x31 =>
 pSub j9 (.int .i64 1) fun x33 =>
 I_1 x31 x33 H_5 ∧ m_2 x31 x33 H_5 < m_2 i8 j9 H_3)
 (R (.tuple #[]) H_3)
set_option maxRecDepth 100000 in
theorem slices_reverseRangeCmpFunc_int.vc (data0 : Value) (a1 : Value) (b2 : Value) (cmp3 : Value) (H0 : Heap) (R : Value → Heap → Prop) (h : slices_reverseRangeCmpFunc_int.res data0 a1 b2 cmp3 H0 R) : CallsH Tryz.prog 110 #[data0, a1, b2, cmp3] H0 R := by
  have e : vcFn Tryz.prog Tryz.C Tryz.f110 slices_reverseRangeCmpFunc_int.an [data0, a1, b2, cmp3] H0 R = slices_reverseRangeCmpFunc_int.res data0 a1 b2 cmp3 H0 R := by kernel_rfl
  exact vcFn_sound Tryz.callable Tryz.mixed Tryz.func110 (by kernel_rfl) (e.mpr h)
def slices_partialInsertionSortCmpFunc_int.an : Ann := (.seq (.reg (.op 0 [] .nil)) (.seq (.reg (.op 0 [] (.op 1 [] (.op 2 [] .nil)))) (.seq (.seq (.reg (.op 0 [] .nil)) (.block (.loop [9, 10] [8, 9, 10, 11, 12, 15, 16, 17, 18, 19, 20, 21, 22, 23, 24, 25, 26, 27, 28, 29, 30, 31, 32, 33, 34, 35, 36, 37, 38, 39, 40, 41, 42, 43, 44, 45, 46, 47, 48, 49, 50, 51, 52, 53, 54, 55, 56, 57, 58, 59, 60, 61, 62, 63, 64, 65, 66, 67, 68, 69, 70, 71, 72, 73, 74, 75, 76, 77, 78, 79, 80, 81, 82, 83, 84, 85, 86, 87, 88, 89, 90, 91, 92, 93, 94, 95, 96, 97, 98, 99, 100, 101, 102, 103, 104, 105, 106, 107, 108, 109, 110, 111, 112, 113, 114, 115, 116, 117, 118, 119, 120, 121, 122, 123, 124, 125, 126, 127, 128, 129, 130, 131, 132, 133, 134, 135, 136, 137, 138, 139, 140] (.seq (.seq (.reg (.op 0 [] (.op 1 [] .nil))) (.cond .leaf .leaf)) (.cut [9] [8, 9, 11, 12, 19, 20, 21, 22, 23, 24, 25, 26, 27, 28, 29, 30, 31, 32, 33, 34, 35, 36, 37, 38, 39, 40, 41, 42, 43, 44, 45, 46, 47, 48, 49, 50, 51, 52, 53, 54, 55, 56, 57, 58, 59, 60, 61, 62, 63, 64, 65, 66, 67, 68, 69, 70, 71, 72, 73, 74, 75, 76, 77, 78, 79, 80, 81, 82, 83, 84, 85, 86, 87, 88, 89, 90, 91, 92, 93, 94, 95, 96, 97, 98, 99, 100, 101, 102, 103, 104, 105, 106, 107, 108, 109, 110, 111, 112, 113, 114, 115, 116, 117, 118, 119, 120, 121, 122, 123, 124, 125, 126, 127, 128, 129, 130, 131, 132, 133, 134, 135, 136, 137, 138, 139, 140] (.block (.seq (.block (.loop [9] [9, 19, 20, 21, 22, 23, 24, 25, 26, 27, 28, 29, 30, 31, 32, 33, 34, 35, 36, 37, 38] (.seq (.seq (.drw [0, 0, 3, 7, 15, 15, 15, 111, 239, 15, 15, 1039, 3599, 7695, 16383, 32767, 65535, 131071] (.op 0 [] (.op 1 [] (.op 2 [] (.op 3 [] (.grp 3 (.op 4 [] (.op 5 [] (.op 6 [] (.op 7 [] (.op 8 [] (.op 9 [] (.op 10 [] (.op 11 [] (.op 12 [] (.op 13 [] (.op 14 [] (.op 15 [] (.op 16 [] .nil))))))))))))) 17 .nil)))))) (.cond .leaf .leaf)) (.block (.reg (.op 0 [] (.op 1 [] (.op 2 [] .nil)))))))) (.seq (.seq (.reg (.op 0 [] (.op 1 [] (.op 2 [] .nil)))) (.cond (.seq (.reg (.op 0 [] .nil)) .leaf) .leaf)) (.seq (.seq (.reg (.op 0 [] (.op 1 [] (.op 2 [] (.op 3 [] .nil))))) (.cond (.seq (.reg (.op 0 [] .nil)) .leaf) .leaf)) (.seq (.drw [0, 0, 0, 0, 8, 0, 0, 64, 224, 480, 0, 0, 3072, 7168, 16355, 32739, 65535, 131071] (.op 0 [] (.op 1 [] (.op 2 [] (.op 3 [] (.op 4 [] (.op 5 [] (.op 6 [] (.op 7 [] (.op 8 [] (.op 9 [] (.op 10 [] (.op 11 [] (.op 12 [] (.op 13 [] (.op 14 [] (.op 15 [] (.op 16 [] (.op 17 [] .nil))))))))))))))))))) (.cut [] [11, 62, 63, 64, 65, 66, 67, 68, 69, 70, 71, 72, 73, 74, 75, 76, 77, 78, 79, 80, 81, 82, 83, 84, 85, 86, 87, 88, 89, 90, 91, 92, 93, 94, 95, 96, 97, 98, 99, 100] (.seq (.reg (.op 0 [] (.op 1 [] (.op 2 [] (.op 3 [] .nil))))) (.cond (.seq (.reg (.op 0 [] (.op 1 [] (.op 2 [] .nil)))) (.block (.loop [11] [11, 68, 69, 70, 71, 72, 73, 74, 75, 76, 77, 78, 79, 80, 81, 82, 83, 84, 85, 86, 87, 88, 89, 90, 91, 92, 93, 94, 95, 96, 97, 98, 99, 100] (.seq (.seq (.reg (.op 0 [] (.op 1 [] .nil))) (.cond .leaf .leaf)) (.seq (.block (.seq (.seq (.drw [0, 0, 0, 6, 14, 0, 0, 64, 224, 480, 1023, 2047, 4095] (.op 0 [] (.op 1 [] (.op 2 [] (.op 3 [] (.op 4 [] (.op 5 [] (.op 6 [] (.op 7 [] (.op 8 [] (.op 9 [] (.op 10 [] (.op 11 [] (.op 12 [] .nil)))))))))))))) (.cond .leaf .leaf)) (.drw [0, 0, 0, 0, 8, 0, 0, 64, 224, 480, 0, 0, 3072, 7168, 16355, 32739, 65535, 131071] (.op 0 [] (.op 1 [] (.op 2 [] (.op 3 [] (.op 4 [] (.op 5 [] (.op 6 [] (.op 7 [] (.op 8 [] (.op 9 [] (.op 10 [] (.op 11 [] (.op 12 [] (.op 13 [] (.op 14 [] (.op 15 [] (.op 16 [] (.op 17 [] .nil))))))))))))))))))))) (.reg (.op 0 [] (.op 1 [] (.op 2 [] .nil))))))))) .leaf)) (.seq (.reg (.op 0 [] (.op 1 [] (.op 2 [] (.op 3 [] .nil))))) (.cond (.seq (.reg (.op 0 [] (.op 1 [] (.op 2 [] .nil)))) (.block (.loop [12] [12, 107, 108, 109, 110, 111, 112, 113, 114, 115, 116, 117, 118, 119, 120, 121, 122, 123, 124, 125, 126, 127, 128, 129, 130, 131, 132, 133, 134, 135, 136, 137, 138, 139, 140] (.seq (.seq (.reg (.op 0 [] (.op 1 [] (.op 2 [] .nil)))) (.cond .leaf .leaf)) (.seq (.block (.seq (.seq (.drw [0, 0, 0, 6, 14, 0, 0, 64, 224, 480, 1023, 2047, 4095] (.op 0 [] (.op 1 [] (.op 2 [] (.op 3 [] (.op 4 [] (.op 5 [] (.op 6 [] (.op 7 [] (.op 8 [] (.op 9 [] (.op 10 [] (.op 11 [] (.op 12 [] .nil)))))))))))))) (.cond .leaf .leaf)) (.drw [0, 0, 0, 0, 8, 0, 0, 64, 224, 480, 0, 0, 3072, 7168, 16355, 32739, 65535, 131071] (.op 0 [] (.op 1 [] (.op 2 [] (.op 3 [] (.op 4 [] (.op 5 [] (.op 6 [] (.op 7 [] (.op 8 [] (.op 9 [] (.op 10 [] (.op 11 [] (.op 12 [] (.op 13 [] (.op 14 [] (.op 15 [] (.op 16 [] (.op 17 [] .nil))))))))))))))))))))) (.reg (.op 0 [] (.op 1 [] (.op 2 [] .nil))))))))) .leaf)))))))) (.reg (.op 0 [] (.op 1 [] (.op 2 [] .nil))))))))) (.seq (.reg (.op 0 [] .nil)) .leaf))))
def slices_partialInsertionSortCmpFunc_int.res (data0 : Value) (a1 : Value) (b2 : Value) (cmp3 : Value) (H0 : Heap) (R : Value → Heap → Prop) : Prop :=
 pAdd a1 (.int .i64 1) fun x14 =>
 ∃ (I_1 : Value → Value → Heap → Prop) (m_2 : Value → Value → Heap → Nat), I_1 x14 (.int .i64 0) H0 ∧
 ∀ _ : Env, ∀ i9 : Value, ∀ j10 : Value, ∀ H_3 : Heap, I_1 i9 j10 H_3 →
 pLt j10 (.int .i64 5) fun x16 =>
 pCond x16
 (∃ J_4 : Value → Heap → Prop, (∀ _ : Env, ∀ i9' : Value, ∀ H_5 : Heap, J_4 i9' H_5 →
 pAdd j10 (.int .i64 1) fun x18 =>
 I_1 i9' x18 H_5 ∧ m_2 i9' x18 H_5 < m_2 i9 j10 H_3) ∧
 ∃ (I_6 : Value → Heap → Prop) (m_7 : Value → Heap → Nat), I_6 i9 H_3 ∧
 ∀ _ : Env, ∀ i9'' : Value, ∀ H_8 : Heap, I_6 i9'' H_8 →
 pLt i9'' b2 fun x21 =>
 pAnd x21 (fun J_9 =>
 pIdxSl 1 data0 i9'' fun x26 =>
 pLoad H_8 x26 fun x27 =>
 pSub i9'' (.int .i64 1) fun x30 =>
 pIdxSl 1 data0 x30 fun x31 =>
 pLoad H_8 x31 fun x32 =>
 callH Tryz.prog Tryz.C cmp3 [x27, x32] H_8 fun x33 H_11 =>
 pLt x33 (.int .i64 0) fun x34 =>
 pNot x34 fun x35 =>
 J_9 x35 H_11) H_8 fun x36 H_10 => ∀ _ : Env,
 pCond x36
 (pAdd i9'' (.int .i64 1) fun x38 =>
 I_6 x38 H_10 ∧ m_7 x38 H_10 < m_7 i9'' H_8)
 (pEq 0 i9'' b2 fun x41 =>
 pCond x41
 (R (.bool true) H_10)
 (pSub b2 a1 fun x44 =>
 pLt x44 (.int .i64 50) fun x45 =>
 pCond x45
 (R (.bool false) H_10)
 (pSub i9'' (.int .i64 1) fun x50 =>
 pSub i9'' (.int .i64 1) fun x53 =>
 pIdxSl 1 data0 x53 fun x54 =>
 pLoad H_10 x54 fun x55 =>
 pIdxSl 1 data0 i9'' fun x58 =>
 pLoad H_10 x58 fun x59 =>
 pIdxSl 1 data0 i9'' fun x60 =>
 pStore H_10 x60 x55 fun _ H_12 =>
 pIdxSl 1 data0 x50 fun x61 =>
 pStore H_12 x61 x59 fun _ H_13 =>
 ∃ J_14 : Heap → Prop, (∀ _ : Env, ∀ H_15 : Heap, J_14 H_15 →
 pSub b2 i9'' fun x103 =>
 pGe x103 (.int .i64 2) fun x104 =>
 pCond x104
 (pAdd i9'' (.int .i64 1) fun x106 =>
 ∃ (I_16 : Value → Heap → Prop) (m_17 : Value → Heap → Nat), I_16 x106 H_15 ∧
 ∀ _ : Env, ∀ j12 : Value, ∀ H_18 : Heap, I_16 j12 H_18 →
 pLt j12 b2 fun x109 =>
 pCond x109
 (pIdxSl 1 data0 j12 fun x115 =>
 pLoad H_18 x115 fun x116 =>
 pSub j12 (.int .i64 1) fun x119 =>
 pIdxSl 1 data0 x119 fun x120 =>
 pLoad H_18 x120 fun x121 =>
 callH Tryz.prog Tryz.C cmp3 [x116, x121] H_18 fun x122 H_19 =>
 pLt x122 (.int .i64 0) fun x123 =>
 pNot x123 fun x124 =>
 pCond x124
 (J_4 i9'' H_19)
 (pSub j12 (.int .i64 1) fun x129 =>
 pSub j12 (.int .i64 1) fun x132 =>
 pIdxSl 1 data0 x132 fun x133 =>
 pLoad H_19 x133 fun x134 =>
 pIdxSl 1 data0 j12 fun x137 =>
 pLoad H_19 x137 fun x138 =>
 pIdxSl 1 data0 j12 fun x139 =>
 pStore H_19 x139 x134 fun _ H_20 =>
 pIdxSl 1 data0 x129 fun x140 =>
 pStore H_20 x140 x138 fun _ H_21 =>
 pAdd j12 (.int .i64 1) fun x111 =>
 I_16 x111 H_21 ∧ m_17 x111 H_21 < m_17 j12 H_18))
 (J_4 i9'' H_18))
 (J_4 i9'' H_15)) ∧
 pSub i9'' a1 fun x64 =>
 pGe x64 (.int .i64 2) fun x65 =>
 pCond x65
 (pSub i9'' (.int .i64 1) fun x67 =>
 ∃ (I_22 : Value → Heap → Prop) (m_23 : Value → Heap → Nat), I_22 x67 H_13 ∧
 ∀ _ : Env, ∀ j11 : Value, ∀ H_24 : Heap, I_22 j11 H_24 →
 pGe j11 (.int .i64 1) fun x69 =>
 pCond x69
 (pIdxSl 1 data0 j11 fun x75 =>
 pLoad H_24 x75 fun x76 =>
 pSub j11 (.int .i64 1) fun x79 =>
 pIdxSl 1 data0 x79 fun x80 =>
 pLoad H_24 x80 fun x81 =>
 callH Tryz.prog Tryz.C cmp3 [x76, x81] H_24 fun x82 H_25 =>
 pLt x82 (.int .i64 0) fun x83 =>
 pNot x83 fun x84 =>
 pCond x84
 (J_14 H_25)
 (pSub j11 (.int .i64 1) fun x89 =>
 pSub j11 (.int .i64 1) fun x92 =>
 pIdxSl 1 data0 x92 fun x93 =>
 pLoad H_25 x93 fun x94 =>
 pIdxSl 1 data0 j11 fun x97 =>
 pLoad H_25 x97 fun x98 =>
 pIdxSl 1 data0 j11 fun x99 =>
 pStore H_25 x99 x94 fun _ H_26 =>
 pIdxSl 1 data0 x89 fun x100 =>
 pStore H_26 x100 x98 fun _ H_27 =>
 pSub j11 (.int .i64 1) fun x71 =>
 I_22 x71 H_27 ∧ m_23 x71 H_27 < m_23 j11 H_24))
 (J_14 H_24))
 (J_14 H_13)))))
 (R (.bool false) H_3)
set_option maxRecDepth 100000 in
theorem slices_partialInsertionSortCmpFunc_int.vc (data0 : Value) (a1 : Value) (b2 : Value) (cmp3 : Value) (H0 : Heap) (R : Value → Heap → Prop) (h : slices_partialInsertionSortCmpFunc_int.res data0 a1 b2 cmp3 H0 R) : CallsH Tryz.prog 111 #[data0, a1, b2, cmp3] H0 R := by
  have e : vcFn Tryz.prog Tryz.C Tryz.f111 slices_partialInsertionSortCmpFunc_int.an [data0, a1, b2, cmp3] H0 R = slices_partialInsertionSortCmpFunc_int.res data0 a1 b2 cmp3 H0 R := by kernel_rfl
  exact vcFn_sound Tryz.callable Tryz.mixed Tryz.func111 (by kernel_rfl) (e.mpr h)
def slices_partitionEqualCmpFunc_int.an : Ann := (.seq (.reg (.op 0 [] .nil)) (.seq (.drw [0, 0, 0, 0, 0, 0, 48, 112, 0, 0, 768, 1792, 4083, 8179, 16383, 32767] (.op 0 [] (.op 1 [] (.op 2 [] (.op 3 [] (.op 4 [] (.op 5 [] (.op 6 [] (.op 7 [] (.op 8 [] (.op 9 [] (.op 10 [] (.op 11 [] (.op 12 [] (.op 13 [] (.op 14 [] (.op 15 [] .nil))))))))))))))))) (.seq (.reg (.op 0 [] (.op 1 [] (.op 2 [] (.op 3 [] (.op 4 [] (.op 5 [] .nil))))))) (.seq (.block (.loop [11, 12] [11, 12, 31, 32, 33, 34, 35, 36, 37, 38, 39, 40, 41, 42, 43, 44, 45, 46, 47, 48, 49, 50, 51, 52, 53, 54, 55, 56, 57, 58, 59, 60, 61, 62, 63, 64, 65, 66, 67, 68, 69, 70, 71, 72, 73, 74, 75, 76, 77, 78, 79, 80, 81, 82, 83, 84, 85, 86, 87, 88] (.block (.seq (.block (.loop [11] [11, 31, 32, 33, 34, 35, 36, 37, 38, 39, 40, 41, 42, 43, 44, 45, 46, 47, 48, 49] (.seq (.seq (.drw [0, 0, 3, 7, 15, 15, 15, 111, 239, 15, 15, 1551, 3599, 8191, 16383, 32767, 65535] (.op 0 [] (.op 1 [] (.op 2 [] (.op 3 [] (.grp 3 (.op 4 [] (.op 5 [] (.op 6 [] (.op 7 [] (.op 8 [] (.op 9 [] (.op 10 [] (.op 11 [] (.op 12 [] (.op 13 [] (.op 14 [] (.op 15 [] .nil)))))))))))) 16 .nil)))))) (.cond .leaf .leaf)) (.block (.reg (.op 0 [] (.op 1 [] (.op 2 [] .nil)))))))) (.seq (.block (.loop [12] [12, 50, 51, 52, 53, 54, 55, 56, 57, 58, 59, 60, 61, 62, 63, 64, 65, 66, 67] (.seq (.seq (.drw [0, 0, 3, 7, 15, 15, 15, 111, 239, 15, 15, 1551, 3599, 8191, 16383, 32767] (.op 0 [] (.op 1 [] (.op 2 [] (.op 3 [] (.grp 3 (.op 4 [] (.op 5 [] (.op 6 [] (.op 7 [] (.op 8 [] (.op 9 [] (.op 10 [] (.op 11 [] (.op 12 [] (.op 13 [] (.op 14 [] .nil))))))))))) 15 .nil)))))) (.cond .leaf .leaf)) (.block (.reg (.op 0 [] (.op 1 [] (.op 2 [] .nil)))))))) (.seq (.seq (.reg (.op 0 [] (.op 1 [] (.op 2 [] .nil)))) (.cond .leaf .leaf)) (.seq (.drw [0, 0, 0, 0, 0, 0, 48, 112, 0, 0, 768, 1792, 4083, 8179, 16383, 32767] (.op 0 [] (.op 1 [] (.op 2 [] (.op 3 [] (.op 4 [] (.op 5 [] (.op 6 [] (.op 7 [] (.op 8 [] (.op 9 [] (.op 10 [] (.op 11 [] (.op 12 [] (.op 13 [] (.op 14 [] (.op 15 [] .nil))))))))))))))))) (.seq (.reg (.op 0 [] (.op 1 [] (.op 2 [] .nil)))) (.reg (.op 0 [] (.op 1 [] (.op 2 [] .nil)))))))))))) (.seq (.reg (.op 0 [] (.op 1 [] .nil))) .leaf)))))
def slices_partitionEqualCmpFunc_int.res (data0 : Value) (a1 : Value) (b2 : Value) (pivot3 : Value) (cmp4 : Value) (H0 : Heap) (R : Value → Heap → Prop) : Prop :=
 pIdxSl 1 data0 pivot3 fun x19 =>
 pLoad H0 x19 fun x20 =>
 pIdxSl 1 data0 a1 fun x23 =>
 pLoad H0 x23 fun x24 =>
 pIdxSl 1 data0 a1 fun x25 =>
 pStore H0 x25 x20 fun _ H_1 =>
 pIdxSl 1 data0 pivot3 fun x26 =>
 pStore H_1 x26 x24 fun _ H_2 =>
 pAdd a1 (.int .i64 1) fun x28 =>
 pSub b2 (.int .i64 1) fun x30 =>
 ∃ (I_3 : Value → Value → Heap → Prop) (m_4 : Value → Value → Heap → Nat), I_3 x28 x30 H_2 ∧
 ∀ _ : Env, ∀ i11 : Value, ∀ j12 : Value, ∀ H_5 : Heap, I_3 i11 j12 H_5 →
 ∃ (I_6 : Value → Heap → Prop) (m_7 : Value → Heap → Nat), I_6 i11 H_5 ∧
 ∀ _ : Env, ∀ i11' : Value, ∀ H_8 : Heap, I_6 i11' H_8 →
 pLe i11' j12 fun x33 =>
 pAnd x33 (fun J_9 =>
 pIdxSl 1 data0 a1 fun x38 =>
 pLoad H_8 x38 fun x39 =>
 pIdxSl 1 data0 i11' fun x42 =>
 pLoad H_8 x42 fun x43 =>
 callH Tryz.prog Tryz.C cmp4 [x39, x43] H_8 fun x44 H_11 =>
 pLt x44 (.int .i64 0) fun x45 =>
 pNot x45 fun x46 =>
 J_9 x46 H_11) H_8 fun x47 H_10 => ∀ _ : Env,
 pCond x47
 (pAdd i11' (.int .i64 1) fun x49 =>
 I_6 x49 H_10 ∧ m_7 x49 H_10 < m_7 i11' H_8)
 (∃ (I_12 : Value → Heap → Prop) (m_13 : Value → Heap → Nat), I_12 j12 H_10 ∧
 ∀ _ : Env, ∀ j12' : Value, ∀ H_14 : Heap, I_12 j12' H_14 →
 pLe i11' j12' fun x52 =>
 pAnd x52 (fun J_15 =>
 pIdxSl 1 data0 a1 fun x57 =>
 pLoad H_14 x57 fun x58 =>
 pIdxSl 1 data0 j12' fun x61 =>
 pLoad H_14 x61 fun x62 =>
 callH Tryz.prog Tryz.C cmp4 [x58, x62] H_14 fun x63 H_17 =>
 pLt x63 (.int .i64 0) fun x64 =>
 J_15 x64 H_17) H_14 fun x65 H_16 => ∀ _ : Env,
 pCond x65
 (pSub j12' (.int .i64 1) fun x67 =>
 I_12 x67 H_16 ∧ m_13 x67 H_16 < m_13 j12' H_14)
 (pGt i11' j12' fun x70 =>
 pCond x70
 (R i11' H_16)
 (pIdxSl 1 data0 j12' fun x77 =>
 pLoad H_16 x77 fun x78 =>
 pIdxSl 1 data0 i11' fun x81 =>
 pLoad H_16 x81 fun x82 =>
 pIdxSl 1 data0 i11' fun x83 =>
 pStore H_16 x83 x78 fun _ H_18 =>
 pIdxSl 1 data0 j12' fun x84 =>
 pStore H_18 x84 x82 fun _ H_19 =>
 pAdd i11' (.int .i64 1) fun x86 =>
 pSub j12' (.int .i64 1) fun x88 =>
 I_3 x86 x88 H_19 ∧ m_4 x86 x88 H_19 < m_4 i11 j12 H_5)))
set_option maxRecDepth 100000 in
theorem slices_partitionEqualCmpFunc_int.vc (data0 : Value) (a1 : Value) (b2 : Value) (pivot3 : Value) (cmp4 : Value) (H0 : Heap) (R : Value → Heap → Prop) (h : slices_partitionEqualCmpFunc_int.res data0 a1 b2 pivot3 cmp4 H0 R) : CallsH Tryz.prog 112 #[data0, a1, b2, pivot3, cmp4] H0 R := by
  have e : vcFn Tryz.prog Tryz.C Tryz.f112 slices_partitionEqualCmpFunc_int.an [data0, a1, b2, pivot3, cmp4] H0 R = slices_partitionEqualCmpFunc_int.res data0 a1 b2 pivot3 cmp4 H0 R := by kernel_rfl
  exact vcFn_sound Tryz.callable Tryz.mixed Tryz.func112 (by kernel_rfl) (e.mpr h)
def slices_partitionCmpFunc_int.an : Ann := (.seq (.reg (.op 0 [] (.op 1 [] .nil))) (.seq (.drw [0, 0, 0, 0, 0, 0, 48, 112, 0, 0, 768, 1792, 4083, 8179, 16383, 32767] (.op 0 [] (.op 1 [] (.op 2 [] (.op 3 [] (.op 4 [] (.op 5 [] (.op 6 [] (.op 7 [] (.op 8 [] (.op 9 [] (.op 10 [] (.op 11 [] (.op 12 [] (.op 13 [] (.op 14 [] (.op 15 [] .nil))))))))))))))))) (.seq (.reg (.op 0 [] (.op 1 [] (.op 2 [] (.op 3 [] (.op 4 [] (.op 5 [] .nil))))))) (.seq (.block (.loop [12] [12, 32, 33, 34, 35, 36, 37, 38, 39, 40, 41, 42, 43, 44, 45, 46, 47, 48, 49] (.seq (.seq (.drw [0, 0, 3, 7, 15, 15, 15, 111, 239, 15, 15, 1551, 3599, 8191, 16383, 32767] (.op 0 [] (.op 1 [] (.op 2 [] (.op 3 [] (.grp 3 (.op 4 [] (.op 5 [] (.op 6 [] (.op 7 [] (.op 8 [] (.op 9 [] (.op 10 [] (.op 11 [] (.op 12 [] (.op 13 [] (.op 14 [] .nil))))))))))) 15 .nil)))))) (.cond .leaf .leaf)) (.block (.reg (.op 0 [] (.op 1 [] (.op 2 [] .nil)))))))) (.seq (.block (.loop [13] [13, 50, 51, 52, 53, 54, 55, 56, 57, 58, 59, 60, 61, 62, 63, 64, 65, 66, 67, 68] (.seq (.seq (.drw [0, 0, 3, 7, 15, 15, 15, 111, 239, 15, 15, 1551, 3599, 8191, 16383, 32767, 65535] (.op 0 [] (.op 1 [] (.op 2 [] (.op 3 [] (.grp 3 (.op 4 [] (.op 5 [] (.op 6 [] (.op 7 [] (.op 8 [] (.op 9 [] (.op 10 [] (.op 11 [] (.op 12 [] (.op 13 [] (.op 14 [] (.op 15 [] .nil)))))))))))) 16 .nil)))))) (.cond .leaf .leaf)) (.block (.reg (.op 0 [] (.op 1 [] (.op 2 [] .nil)))))))) (.seq (.seq (.reg (.op 0 [] (.op 1 [] (.op 2 [] .nil)))) (.cond (.seq (.drw [0, 0, 0, 0, 0, 0, 48, 112, 0, 0, 768, 1792, 4083, 8179, 16383, 32767] (.op 0 [] (.op 1 [] (.op 2 [] (.op 3 [] (.op 4 [] (.op 5 [] (.op 6 [] (.op 7 [] (.op 8 [] (.op 9 [] (.op 10 [] (.op 11 [] (.op 12 [] (.op 13 [] (.op 14 [] (.op 15 [] .nil))))))))))))))))) (.seq (.reg (.op 0 [] (.op 1 [] (.op 2 [] .nil)))) .leaf)) .leaf)) (.seq (.drw [0, 0, 0, 0, 0, 0, 48, 112, 0, 0, 768, 1792, 4083, 8179, 16383, 32767] (.op 0 [] (.op 1 [] (.op 2 [] (.op 3 [] (.op 4 [] (.op 5 [] (.op 6 [] (.op 7 [] (.op 8 [] (.op 9 [] (.op 10 [] (.op 11 [] (.op 12 [] (.op 13 [] (.op 14 [] (.op 15 [] .nil))))))))))))))))) (.seq (.reg (.op 0 [] (.op 1 [] (.op 2 [] .nil)))) (.seq (.reg (.op 0 [] (.op 1 [] (.op 2 [] .nil)))) (.seq (.block (.loop [12, 13] [12, 13, 105, 106, 107, 108, 109, 110, 111, 112, 113, 114, 115, 116, 117, 118, 119, 120, 121, 122, 123, 124, 125, 126, 127, 128, 129, 130, 131, 132, 133, 134, 135, 136, 137, 138, 139, 140, 141, 142, 143, 144, 145, 146, 147, 148, 149, 150, 151, 152, 153, 154, 155, 156, 157, 158, 159, 160, 161, 162] (.block (.seq (.block (.loop [12] [12, 105, 106, 107, 108, 109, 110, 111, 112, 113, 114, 115, 116, 117, 118, 119, 120, 121, 122] (.seq (.seq (.drw [0, 0, 3, 7, 15, 15, 15, 111, 239, 15, 15, 1551, 3599, 8191, 16383, 32767] (.op 0 [] (.op 1 [] (.op 2 [] (.op 3 [] (.grp 3 (.op 4 [] (.op 5 [] (.op 6 [] (.op 7 [] (.op 8 [] (.op 9 [] (.op 10 [] (.op 11 [] (.op 12 [] (.op 13 [] (.op 14 [] .nil))))))))))) 15 .nil)))))) (.cond .leaf .leaf)) (.block (.reg (.op 0 [] (.op 1 [] (.op 2 [] .nil)))))))) (.seq (.block (.loop [13] [13, 123, 124, 125, 126, 127, 128, 129, 130, 131, 132, 133, 134, 135, 136, 137, 138, 139, 140, 141] (.seq (.seq (.drw [0, 0, 3, 7, 15, 15, 15, 111, 239, 15, 15, 1551, 3599, 8191, 16383, 32767, 65535] (.op 0 [] (.op 1 [] (.op 2 [] (.op 3 [] (.grp 3 (.op 4 [] (.op 5 [] (.op 6 [] (.op 7 [] (.op 8 [] (.op 9 [] (.op 10 [] (.op 11 [] (.op 12 [] (.op 13 [] (.op 14 [] (.op 15 [] .nil)))))))))))) 16 .nil)))))) (.cond .leaf .leaf)) (.block (.reg (.op 0 [] (.op 1 [] (.op 2 [] .nil)))))))) (.seq (.seq (.reg (.op 0 [] (.op 1 [] (.op 2 [] .nil)))) (.cond .leaf .leaf)) (.seq (.drw [0, 0, 0, 0, 0, 0, 48, 112, 0, 0, 768, 1792, 4083, 8179, 16383, 32767] (.op 0 [] (.op 1 [] (.op 2 [] (.op 3 [] (.op 4 [] (.op 5 [] (.op 6 [] (.op 7 [] (.op 8 [] (.op 9 [] (.op 10 [] (.op 11 [] (.op 12 [] (.op 13 [] (.op 14 [] (.op 15 [] .nil))))))))))))))))) (.seq (.reg (.op 0 [] (.op 1 [] (.op 2 [] .nil)))) (.reg (.op 0 [] (.op 1 [] (.op 2 [] .nil)))))))))))) (.seq (.drw [0, 0, 0, 0, 0, 0, 48, 112, 0, 0, 768, 1792, 4083, 8179, 16383, 32767] (.op 0 [] (.op 1 [] (.op 2 [] (.op 3 [] (.op 4 [] (.op 5 [] (.op 6 [] (.op 7 [] (.op 8 [] (.op 9 [] (.op 10 [] (.op 11 [] (.op 12 [] (.op 13 [] (.op 14 [] (.op 15 [] .nil))))))))))))))))) (.seq (.reg (.op 0 [] (.op 1 [] (.op 2 [] .nil)))) .leaf))))))))))))
def slices_partitionCmpFunc_int.res (data0 : Value) (a1 : Value) (b2 : Value) (pivot3 : Value) (cmp4 : Value) (H0 : Heap) (R : Value → Heap → Prop) : Prop :=
 pIdxSl 1 data0 pivot3 fun x20 =>
 pLoad H0 x20 fun x21 =>
 pIdxSl 1 data0 a1 fun x24 =>
 pLoad H0 x24 fun x25 =>
 pIdxSl 1 data0 a1 fun x26 =>
 pStore H0 x26 x21 fun _ H_1 =>
 pIdxSl 1 data0 pivot3 fun x27 =>
 pStore H_1 x27 x25 fun _ H_2 =>
 pAdd a1 (.int .i64 1) fun x29 =>
 pSub b2 (.int .i64 1) fun x31 =>
 ∃ (I_3 : Value → Heap → Prop) (m_4 : Value → Heap → Nat), I_3 x29 H_2 ∧
 ∀ _ : Env, ∀ i12 : Value, ∀ H_5 : Heap, I_3 i12 H_5 →
 pLe i12 x31 fun x34 =>
 pAnd x34 (fun J_6 =>
 pIdxSl 1 data0 i12 fun x39 =>
 pLoad H_5 x39 fun x40 =>
 pIdxSl 1 data0 a1 fun x43 =>
 pLoad H_5 x43 fun x44 =>
 callH Tryz.prog Tryz.C cmp4 [x40, x44] H_5 fun x45 H_8 =>
 pLt x45 (.int .i64 0) fun x46 =>
 J_6 x46 H_8) H_5 fun x47 H_7 => ∀ _ : Env,
 pCond x47
 (pAdd i12 (.int .i64 1) fun x49 =>
 I_3 x49 H_7 ∧ m_4 x49 H_7 < m_4 i12 H_5)
 (∃ (I_9 : Value → Heap → Prop) (m_10 : Value → Heap → Nat), I_9 x31 H_7 ∧
 ∀ _ : Env, ∀ j13 : Value, ∀ H_11 : Heap, I_9 j13 H_11 →
 pLe i12 j13 fun x52 =>
 pAnd x52 (fun J_12 =>
 pIdxSl 1 data0 j13 fun x57 =>
 pLoad H_11 x57 fun x58 =>
 pIdxSl 1 data0 a1 fun x61 =>
 pLoad H_11 x61 fun x62 =>
 callH Tryz.prog Tryz.C cmp4 [x58, x62] H_11 fun x63 H_14 =>
 pLt x63 (.int .i64 0) fun x64 =>
 pNot x64 fun x65 =>
 J_12 x65 H_14) H_11 fun x66 H_13 => ∀ _ : Env,
 pCond x66
 (pSub j13 (.int .i64 1) fun x68 =>
 I_9 x68 H_13 ∧ m_10 x68 H_13 < m_10 j13 H_11)
 (pGt i12 j13 fun x71 =>
 pCond x71
 (pIdxSl 1 data0 a1 fun x78 =>
 pLoad H_13 x78 fun x79 =>
 pIdxSl 1 data0 j13 fun x82 =>
 pLoad H_13 x82 fun x83 =>
 pIdxSl 1 data0 j13 fun x84 =>
 pStore H_13 x84 x79 fun _ H_15 =>
 pIdxSl 1 data0 a1 fun x85 =>
 pStore H_15 x85 x83 fun _ H_16 =>
 R (.tuple #[j13, (.bool true)]) H_16)
 (pIdxSl 1 data0 j13 fun x93 =>
 pLoad H_13 x93 fun x94 =>
 pIdxSl 1 data0 i12 fun x97 =>
 pLoad H_13 x97 fun x98 =>
 pIdxSl 1 data0 i12 fun x99 =>
 pStore H_13 x99 x94 fun _ H_17 =>
 pIdxSl 1 data0 j13 fun x100 =>
 pStore H_17 x100 x98 fun _ H_18 =>
 pAdd i12 (.int .i64 1) fun x102 =>
 pSub j13 (.int .i64 1) fun x104 =>
 ∃ (I_19 : Value → Value → Heap → Prop) (m_20 : Value → Value → Heap → Nat), I_19 x102 x104 H_18 ∧
 ∀ _ : Env, ∀ i12' : Value, ∀ j13' : Value, ∀ H_21 : Heap, I_19 i12' j13' H_21 →
 ∃ (I_22 : Value → Heap → Prop) (m_23 : Value → Heap → Nat), I_22 i12' H_21 ∧
 ∀ _ : Env, ∀ i12'' : Value, ∀ H_24 : Heap, I_22 i12'' H_24 →
 pLe i12'' j13' fun x107 =>
 pAnd x107 (fun J_25 =>
 pIdxSl 1 data0 i12'' fun x112 =>
 pLoad H_24 x112 fun x113 =>
 pIdxSl 1 data0 a1 fun x116 =>
 pLoad H_24 x116 fun x117 =>
 callH Tryz.prog Tryz.C cmp4 [x113, x117] H_24 fun x118 H_27 =>
 pLt x118 (.int .i64 0) fun x119 =>
 J_25 x119 H_27) H_24 fun x120 H_26 => ∀ _ : Env,
 pCond x120
 (pAdd i12'' (.int .i64 1) fun x122 =>
 I_22 x122 H_26 ∧ m_23 x122 H_26 < m_23 i12'' H_24)
 (∃ (I_28 : Value → Heap → Prop) (m_29 : Value → Heap → Nat), I_28 j13' H_26 ∧
 ∀ _ : Env, ∀ j13'' : Value, ∀ H_30 : Heap, I_28 j13'' H_30 →
 pLe i12'' j13'' fun x125 =>
 pAnd x125 (fun J_31 =>
 pIdxSl 1 data0 j13'' fun x130 =>
 pLoad H_30 x130 fun x131 =>
 pIdxSl 1 data0 a1 fun x134 =>
 pLoad H_30 x134 fun x135 =>
 callH Tryz.prog Tryz.C cmp4 [x131, x135] H_30 fun x136 H_33 =>
 pLt x136 (.int .i64 0) fun x137 =>
 pNot x137 fun x138 =>
 J_31 x138 H_33) H_30 fun x139 H_32 => ∀ _ : Env,
 pCond x139
 (pSub j13'' (.int .i64 1) fun x141 =>
 I_28 x141 H_32 ∧ m_29 x141 H_32 < m_29 j13'' H_30)
 (pGt i12'' j13'' fun x144 =>
 pCond x144
 (pIdxSl 1 data0 a1 fun x169 =>
 pLoad H_32 x169 fun x170 =>
 pIdxSl 1 data0 j13'' fun x173 =>
 pLoad H_32 x173 fun x174 =>
 pIdxSl 1 data0 j13'' fun x175 =>
 pStore H_32 x175 x170 fun _ H_34 =>
 pIdxSl 1 data0 a1 fun x176 =>
 pStore H_34 x176 x174 fun _ H_35 =>
 R (.tuple #[j13'', (.bool false)]) H_35)
 (pIdxSl 1 data0 j13'' fun x151 =>
 pLoad H_32 x151 fun x152 =>
 pIdxSl 1 data0 i12'' fun x155 =>
 pLoad H_32 x155 fun x156 =>
 pIdxSl 1 data0 i12'' fun x157 =>
 pStore H_32 x157 x152 fun _ H_36 =>
 pIdxSl 1 data0 j13'' fun x158 =>
 pStore H_36 x158 x156 fun _ H_37 =>
 pAdd i12'' (.int .i64 1) fun x160 =>
 pSub j13'' (.int .i64 1) fun x162 =>
 I_19 x160 x162 H_37 ∧ m_20 x160 x162 H_37 < m_20 i12' j13' H_21))))))
set_option maxRecDepth 100000 in
theorem slices_partitionCmpFunc_int.vc (data0 : Value) (a1 : Value) (b2 : Value) (pivot3 : Value) (cmp4 : Value) (H0 : Heap) (R : Value → Heap → Prop) (h : slices_partitionCmpFunc_int.res data0 a1 b2 pivot3 cmp4 H0 R) : CallsH Tryz.prog 113 #[data0, a1, b2, pivot3, cmp4] H0 R := by
  have e : vcFn Tryz.prog Tryz.C Tryz.f113 slices_partitionCmpFunc_int.an [data0, a1, b2, pivot3, cmp4] H0 R = slices_partitionCmpFunc_int.res data0 a1 b2 pivot3 cmp4 H0 R := by kernel_rfl
  exact vcFn_sound Tryz.callable Tryz.mixed Tryz.func113 (by kernel_rfl) (e.mpr h)
def slices_siftDownCmpFunc_int.an : Ann := (.seq (.reg (.op 0 [] (.op 1 [] .nil))) (.block (.loop [10] [10, 11, 13, 14, 15, 16, 17, 18, 19, 20, 21, 22, 23, 24, 25, 26, 27, 28, 29, 30, 31, 32, 33, 34, 35, 36, 37, 38, 39, 40, 41, 42, 43, 44, 45, 46, 47, 48, 49, 50, 51, 52, 53, 54, 55, 56, 57, 58, 59, 60, 61, 62, 63, 64, 65, 66, 67, 68, 69, 70, 71, 72, 73, 74, 75, 76, 77, 78, 79, 80, 81] (.block (.seq (.reg (.op 0 [] (.op 1 [] (.op 2 [] (.op 3 [] .nil))))) (.seq (.seq (.reg (.op 0 [] (.op 1 [] (.op 2 [] .nil)))) (.cond .leaf .leaf)) (.cut [11] [11, 19, 20, 21, 22, 23, 24, 25, 26, 27, 28, 29, 30, 31, 32, 33, 34, 35, 36, 37, 38, 39, 40, 41, 42] (.seq (.drw [0, 1, 0, 7, 15, 31, 31, 31, 31, 415, 991, 2015, 31, 31, 31, 24607, 57375, 127007, 258079, 524287, 1048575, 2097151] (.op 0 [] (.op 1 [] (.op 2 [] (.op 3 [] (.op 4 [] (.grp 4 (.op 5 [] (.op 6 [] (.op 7 [] (.op 8 [] (.op 9 [] (.op 10 [] (.op 11 [] (.op 12 [] (.op 13 [] (.op 14 [] (.op 15 [] (.op 16 [] (.op 17 [] (.op 18 [] (.op 19 [] (.op 20 [] .nil)))))))))))))))) 21 .nil))))))) (.cond (.reg (.op 0 [] (.op 1 [] (.op 2 [] .nil)))) .leaf)) (.seq (.seq (.drw [0, 0, 0, 0, 12, 30, 62, 0, 0, 0, 768, 1920, 3968, 8191, 16383, 32767] (.op 0 [] (.op 1 [] (.op 2 [] (.op 3 [] (.op 4 [] (.op 5 [] (.op 6 [] (.op 7 [] (.op 8 [] (.op 9 [] (.op 10 [] (.op 11 [] (.op 12 [] (.op 13 [] (.op 14 [] (.op 15 [] .nil))))))))))))))))) (.cond .leaf .leaf)) (.seq (.drw [0, 0, 0, 6, 0, 0, 0, 96, 0, 0, 0, 1536, 3840, 7936, 0, 0, 0, 98304, 245760, 507904, 1048335, 2096911, 4194303, 8388607] (.op 0 [] (.op 1 [] (.op 2 [] (.op 3 [] (.op 4 [] (.op 5 [] (.op 6 [] (.op 7 [] (.op 8 [] (.op 9 [] (.op 10 [] (.op 11 [] (.op 12 [] (.op 13 [] (.op 14 [] (.op 15 [] (.op 16 [] (.op 17 [] (.op 18 [] (.op 19 [] (.op 20 [] (.op 21 [] (.op 22 [] (.op 23 [] .nil))))))))))))))))))))))))) (.reg (.op 0 [] (.op 1 [] .nil))))))))))))
def slices_siftDownCmpFunc_int.res (data0 : Value) (lo1 : Value) (hi2 : Value) (first3 : Value) (cmp4 : Value) (H0 : Heap) (R : Value → Heap → Prop) : Prop :=
 ∃ (I_1 : Value → Heap → Prop) (m_2 : Value → Heap → Nat), I_1 lo1 H0 ∧
 ∀ _ : Env, ∀ root10 : Value, ∀ H_3 : Heap, I_1 root10 H_3 →
 pMul (.int .i64 2) root10 fun x14 =>
 pAdd x14 (.int .i64 1) fun x15 =>
 pGe x15 hi2 fun x18 =>
 pCond x18
 (R (.tuple #[]) H_3)
 (∃ J_4 : Value → Heap → Prop, (∀ _ : Env, ∀ child11 : Value, ∀ H_5 : Heap, J_4 child11 H_5 →
 pAdd first3 root10 fun x47 =>
 pIdxSl 1 data0 x47 fun x48 =>
 pLoad H_5 x48 fun x49 =>
 pAdd first3 child11 fun x53 =>
 pIdxSl 1 data0 x53 fun x54 =>
 pLoad H_5 x54 fun x55 =>
 callH Tryz.prog Tryz.C cmp4 [x49, x55] H_5 fun x56 H_6 =>
 pLt x56 (.int .i64 0) fun x57 =>
 pNot x57 fun x58 =>
 pCond x58
 (R (.tuple #[]) H_6)
 (pAdd first3 root10 fun x62 =>
 pAdd first3 child11 fun x66 =>
 pAdd first3 child11 fun x70 =>
 pIdxSl 1 data0 x70 fun x71 =>
 pLoad H_6 x71 fun x72 =>
 pAdd first3 root10 fun x76 =>
 pIdxSl 1 data0 x76 fun x77 =>
 pLoad H_6 x77 fun x78 =>
 pIdxSl 1 data0 x62 fun x79 =>
 pStore H_6 x79 x72 fun _ H_7 =>
 pIdxSl 1 data0 x66 fun x80 =>
 pStore H_7 x80 x78 fun _ H_8 =>
 I_1 child11 H_8 ∧ m_2 child11 H_8 < m_2 root10 H_3)) ∧
 pAdd x15 (.int .i64 1) fun x20 =>
 pLt x20 hi2 fun x22 =>
 pAnd x22 (fun J_9 =>
 pAdd first3 x15 fun x28 =>
 pIdxSl 1 data0 x28 fun x29 =>
 pLoad H_3 x29 fun x30 =>
 pAdd first3 x15 fun x34 =>
 pAdd x34 (.int .i64 1) fun x35 =>
 pIdxSl 1 data0 x35 fun x36 =>
 pLoad H_3 x36 fun x37 =>
 callH Tryz.prog Tryz.C cmp4 [x30, x37] H_3 fun x38 H_11 =>
 pLt x38 (.int .i64 0) fun x39 =>
 J_9 x39 H_11) H_3 fun x40 H_10 => ∀ _ : Env,
 pCond x40
 (pAdd x15 (.int .i64 1) fun x42 =>
 J_4 x42 H_10)
 (J_4 x15 H_10))
set_option maxRecDepth 100000 in
theorem slices_siftDownCmpFunc_int.vc (data0 : Value) (lo1 : Value) (hi2 : Value) (first3 : Value) (cmp4 : Value) (H0 : Heap) (R : Value → Heap → Prop) (h : slices_siftDownCmpFunc_int.res data0 lo1 hi2 first3 cmp4 H0 R) : CallsH Tryz.prog 120 #[data0, lo1, hi2, first3, cmp4] H0 R := by
  have e : vcFn Tryz.prog Tryz.C Tryz.f120 slices_siftDownCmpFunc_int.an [data0, lo1, hi2, first3, cmp4] H0 R = slices_siftDownCmpFunc_int.res data0 lo1 hi2 first3 cmp4 H0 R := by kernel_rfl
  exact vcFn_sound Tryz.callable Tryz.mixed Tryz.func120 (by kernel_rfl) (e.mpr h)
def slices_nextPowerOfTwo.an : Ann := (.seq (.reg (.op 0 [] .nil)) (.seq (.reg (.op 0 [] (.op 1 [] (.op 2 [] (.op 3 [] (.op 4 [] .nil)))))) .leaf))
def slices_nextPowerOfTwo.res (length0 : Value) (H0 : Heap) (R : Value → Heap → Prop) : Prop :=
 pConv .u64 length0 fun x4 =>
 CallsH Tryz.prog 95 #[x4] H0 fun x5 H_1 =>
 pShl (.int .u64 1) x5 fun x6 =>
 R x6 H_1
set_option maxRecDepth 100000 in
theorem slices_nextPowerOfTwo.vc (length0 : Value) (H0 : Heap) (R : Value → Heap → Prop) (h : slices_nextPowerOfTwo.res length0 H0 R) : CallsH Tryz.prog 121 #[length0] H0 R := by
  have e : vcFn Tryz.prog Tryz.C Tryz.f121 slices_nextPowerOfTwo.an [length0] H0 R = slices_nextPowerOfTwo.res length0 H0 R := by kernel_rfl
  exact vcFn_sound Tryz.callable Tryz.mixed Tryz.func121 (by kernel_rfl) (e.mpr h)
def slices_xorshift_Next.an : Ann := (.seq (.reg (.op 0 [] .nil)) (.seq (.drw [0, 1, 3, 0, 8, 24, 56, 127, 255, 511] (.op 0 [] (.op 1 [] (.op 2 [] (.op 3 [] (.op 4 [] (.op 5 [] (.op 6 [] (.op 7 [] (.op 8 [] (.op 9 [] .nil))))))))))) (.seq (.drw [0, 1, 3, 0, 8, 24, 56, 127, 255, 511] (.op 0 [] (.op 1 [] (.op 2 [] (.op 3 [] (.op 4 [] (.op 5 [] (.op 6 [] (.op 7 [] (.op 8 [] (.op 9 [] .nil))))))))))) (.seq (.drw [0, 1, 3, 0, 8, 24, 56, 127, 255, 511] (.op 0 [] (.op 1 [] (.op 2 [] (.op 3 [] (.op 4 [] (.op 5 [] (.op 6 [] (.op 7 [] (.op 8 [] (.op 9 [] .nil))))))))))) (.seq (.reg (.op 0 [] (.op 1 [] (.op 2 [] (.op 3 [] .nil))))) .leaf)))))
def slices_xorshift_Next.res (r0 : Value) (H0 : Heap) (R : Value → Heap → Prop) : Prop :=
 pNil r0 fun x4 =>
 pLoad H0 x4 fun x5 =>
 pNil r0 fun x7 =>
 pLoad H0 x7 fun x8 =>
 pShl x8 (.int .u64 13) fun x9 =>
 pBits .xor x5 x9 fun x10 =>
 pNil r0 fun x11 =>
 pStore H0 x11 x10 fun _ H_1 =>
 pNil r0 fun x13 =>
 pLoad H_1 x13 fun x14 =>
 pNil r0 fun x16 =>
 pLoad H_1 x16 fun x17 =>
 pShr x17 (.int .u64 7) fun x18 =>
 pBits .xor x14 x18 fun x19 =>
 pNil r0 fun x20 =>
 pStore H_1 x20 x19 fun _ H_2 =>
 pNil r0 fun x22 =>
 pLoad H_2 x22 fun x23 =>
 pNil r0 fun x25 =>
 pLoad H_2 x25 fun x26 =>
 pShl x26 (.int .u64 17) fun x27 =>
 pBits .xor x23 x27 fun x28 =>
 pNil r0 fun x29 =>
 pStore H_2 x29 x28 fun _ H_3 =>
 pNil r0 fun x31 =>
 pLoad H_3 x31 fun x32 =>
 R x32 H_3
set_option maxRecDepth 100000 in
theorem slices_xorshift_Next.vc (r0 : Value) (H0 : Heap) (R : Value → Heap → Prop) (h : slices_xorshift_Next.res r0 H0 R) : CallsH Tryz.prog 122 #[r0] H0 R := by
  have e : vcFn Tryz.prog Tryz.C Tryz.f122 slices_xorshift_Next.an [r0] H0 R = slices_xorshift_Next.res r0 H0 R := by kernel_rfl
  exact vcFn_sound Tryz.callable Tryz.mixed Tryz.func122 (by kernel_rfl) (e.mpr h)
def slices_medianAdjacentCmpFunc_int.an : Ann := (.seq (.reg (.op 0 [] .nil)) (.seq (.reg (.op 0 [] (.op 1 [] (.op 2 [] (.op 3 [] (.op 4 [] (.op 5 [] (.op 6 [] (.op 7 [] (.op 8 [] (.op 9 [] .nil))))))))))) .leaf))
def slices_medianAdjacentCmpFunc_int.res (data0 : Value) (a1 : Value) (swaps2 : Value) (cmp3 : Value) (H0 : Heap) (R : Value → Heap → Prop) : Prop :=
 pSub a1 (.int .i64 1) fun x11 =>
 pAdd a1 (.int .i64 1) fun x14 =>
 CallsH Tryz.prog 124 #[data0, x11, a1, x14, swaps2, cmp3] H0 fun x17 H_1 =>
 R x17 H_1
set_option maxRecDepth 100000 in
theorem slices_medianAdjacentCmpFunc_int.vc (data0 : Value) (a1 : Value) (swaps2 : Value) (cmp3 : Value) (H0 : Heap) (R : Value → Heap → Prop) (h : slices_medianAdjacentCmpFunc_int.res data0 a1 swaps2 cmp3 H0 R) : CallsH Tryz.prog 123 #[data0, a1, swaps2, cmp3] H0 R := by
  have e : vcFn Tryz.prog Tryz.C Tryz.f123 slices_medianAdjacentCmpFunc_int.an [data0, a1, swaps2, cmp3] H0 R = slices_medianAdjacentCmpFunc_int.res data0 a1 swaps2 cmp3 H0 R := by kernel_rfl
  exact vcFn_sound Tryz.callable Tryz.mixed Tryz.func123 (by kernel_rfl) (e.mpr h)
def slices_medianCmpFunc_int.an : Ann := (.seq (.reg (.op 0 [] .nil)) (.seq (.reg (.op 0 [] (.op 1 [] (.op 2 [] (.op 3 [] (.op 4 [] (.op 5 [] (.op 6 [] (.op 7 [] (.op 8 [] (.op 9 [] (.op 10 [] .nil)))))))))))) (.seq (.reg (.op 0 [] (.op 1 [] (.op 2 [] (.op 3 [] (.op 4 [] (.op 5 [] (.op 6 [] (.op 7 [] (.op 8 [] (.op 9 [] (.op 10 [] .nil)))))))))))) (.seq (.reg (.op 0 [] (.op 1 [] (.op 2 [] (.op 3 [] (.op 4 [] (.op 5 [] (.op 6 [] (.op 7 [] (.op 8 [] (.op 9 [] (.op 10 [] .nil)))))))))))) (.seq (.reg (.op 0 [] (.op 1 [] .nil))) .leaf)))))
def slices_medianCmpFunc_int.res (data0 : Value) (a1 : Value) (b2 : Value) (c3 : Value) (swaps4 : Value) (cmp5 : Value) (H0 : Heap) (R : Value → Heap → Prop) : Prop :=
 CallsH Tryz.prog 125 #[data0, a1, b2, swaps4, cmp5] H0 fun x19 H_1 =>
 pExtract 0 x19 fun x20 =>
 pExtract 1 x19 fun x21 =>
 CallsH Tryz.prog 125 #[data0, x21, c3, swaps4, cmp5] H_1 fun x28 H_2 =>
 pExtract 0 x28 fun x29 =>
 pExtract 1 x28 fun x30 =>
 CallsH Tryz.prog 125 #[data0, x20, x29, swaps4, cmp5] H_2 fun x37 H_3 =>
 pExtract 0 x37 fun x38 =>
 pExtract 1 x37 fun x39 =>
 R x39 H_3
set_option maxRecDepth 100000 in
theorem slices_medianCmpFunc_int.vc (data0 : Value) (a1 : Value) (b2 : Value) (c3 : Value) (swaps4 : Value) (cmp5 : Value) (H0 : Heap) (R : Value → Heap → Prop) (h : slices_medianCmpFunc_int.res data0 a1 b2 c3 swaps4 cmp5 H0 R) : CallsH Tryz.prog 124 #[data0, a1, b2, c3, swaps4, cmp5] H0 R := by
  have e : vcFn Tryz.prog Tryz.C Tryz.f124 slices_medianCmpFunc_int.an [data0, a1, b2, c3, swaps4, cmp5] H0 R = slices_medianCmpFunc_int.res data0 a1 b2 c3 swaps4 cmp5 H0 R := by kernel_rfl
  exact vcFn_sound Tryz.callable Tryz.mixed Tryz.func124 (by kernel_rfl) (e.mpr h)
def slices_order2CmpFunc_int.an : Ann := (.seq (.reg (.op 0 [] (.op 1 [] .nil))) (.seq (.seq (.drw [0, 0, 0, 6, 14, 0, 0, 96, 224, 511, 1023] (.op 0 [] (.op 1 [] (.op 2 [] (.op 3 [] (.op 4 [] (.op 5 [] (.op 6 [] (.op 7 [] (.op 8 [] (.op 9 [] (.op 10 [] .nil)))))))))))) (.cond (.seq (.reg (.op 0 [] (.op 1 [] (.op 2 [] (.op 3 [] (.op 4 [] (.op 5 [] .nil))))))) (.seq (.reg (.op 0 [] (.op 1 [] (.op 2 [] (.op 3 [] .nil))))) .leaf)) .leaf)) (.seq (.reg (.op 0 [] (.op 1 [] (.op 2 [] (.op 3 [] .nil))))) .leaf)))
def slices_order2CmpFunc_int.res (data0 : Value) (a1 : Value) (b2 : Value) (swaps3 : Value) (cmp4 : Value) (H0 : Heap) (R : Value → Heap → Prop) : Prop :=
 pIdxSl 1 data0 b2 fun x15 =>
 pLoad H0 x15 fun x16 =>
 pIdxSl 1 data0 a1 fun x19 =>
 pLoad H0 x19 fun x20 =>
 callH Tryz.prog Tryz.C cmp4 [x16, x20] H0 fun x21 H_1 =>
 pLt x21 (.int .i64 0) fun x22 =>
 pCond x22
 (pNil swaps3 fun x24 =>
 pLoad H_1 x24 fun x25 =>
 pAdd x25 (.int .i64 1) fun x26 =>
 pNil swaps3 fun x27 =>
 pStore H_1 x27 x26 fun _ H_2 =>
 R (.tuple #[b2, a1]) H_2)
 (R (.tuple #[a1, b2]) H_1)
set_option maxRecDepth 100000 in
theorem slices_order2CmpFunc_int.vc (data0 : Value) (a1 : Value) (b2 : Value) (swaps3 : Value) (cmp4 : Value) (H0 : Heap) (R : Value → Heap → Prop) (h : slices_order2CmpFunc_int.res data0 a1 b2 swaps3 cmp4 H0 R) : CallsH Tryz.prog 125 #[data0, a1, b2, swaps3, cmp4] H0 R := by
  have e : vcFn Tryz.prog Tryz.C Tryz.f125 slices_order2CmpFunc_int.an [data0, a1, b2, swaps3, cmp4] H0 R = slices_order2CmpFunc_int.res data0 a1 b2 swaps3 cmp4 H0 R := by kernel_rfl
  exact vcFn_sound Tryz.callable Tryz.mixed Tryz.func125 (by kernel_rfl) (e.mpr h)
def lz_Token_Good.an : Ann := (.seq (.reg (.op 0 [] (.op 1 [] .nil))) (.seq (.seq (.reg (.op 0 [] (.op 1 [] (.op 2 [] .nil)))) (.cond (.seq (.reg (.op 0 [] (.op 1 [] (.op 2 [] (.op 3 [] .nil))))) .leaf) .leaf)) (.seq (.reg (.op 0 [] (.op 1 [] (.op 2 [] (.op 3 [] (.grp 3 (.op 4 [] (.op 5 [] (.op 6 [] .nil))) 7 (.op 8 [] (.grp 8 (.op 9 [] (.op 10 [] (.op 11 [] .nil))) 12 (.op 13 [] (.grp 13 (.op 14 [] (.op 15 [] (.op 16 [] .nil))) 17 (.op 18 [] (.grp 18 (.op 19 [] (.op 20 [] (.op 21 [] .nil))) 22 (.op 23 [] .nil))))))))))))) .leaf)))
def lz_Token_Good.res (t0 : Value) (H0 : Heap) (R : Value → Heap → Prop) : Prop :=
 pBox H0 32 t0 fun t1 H_1 =>
 pFieldAddr 1 t1 fun x3 =>
 pLoad H_1 x3 fun x4 =>
 pEq 0 x4 (.int .i64 0) fun x5 =>
 pCond x5
 (pFieldAddr 2 t1 fun x6 =>
 pLoad H_1 x6 fun x7 =>
 pEq 0 x7 (.int .i64 0) fun x8 =>
 R x8 H_1)
 (pFieldAddr 0 t1 fun x9 =>
 pLoad H_1 x9 fun x10 =>
 pEq 0 x10 (.int .u8 0) fun x11 =>
 pAnd x11 (fun J_2 =>
 pFieldAddr 1 t1 fun x13 =>
 pLoad H_1 x13 fun x14 =>
 pGe x14 (.int .i64 3) fun x15 =>
 J_2 x15 H_1) H_1 fun x16 H_3 => ∀ _ : Env,
 pAnd x16 (fun J_4 =>
 pFieldAddr 1 t1 fun x18 =>
 pLoad H_3 x18 fun x19 =>
 pLe x19 (.int .i64 258) fun x20 =>
 J_4 x20 H_3) H_3 fun x21 H_5 => ∀ _ : Env,
 pAnd x21 (fun J_6 =>
 pFieldAddr 2 t1 fun x23 =>
 pLoad H_5 x23 fun x24 =>
 pGe x24 (.int .i64 1) fun x25 =>
 J_6 x25 H_5) H_5 fun x26 H_7 => ∀ _ : Env,
 pAnd x26 (fun J_8 =>
 pFieldAddr 2 t1 fun x28 =>
 pLoad H_7 x28 fun x29 =>
 pLe x29 (.int .i64 32768) fun x30 =>
 J_8 x30 H_7) H_7 fun x31 H_9 => ∀ _ : Env,
 R x31 H_9)
set_option maxRecDepth 100000 in
theorem lz_Token_Good.vc (t0 : Value) (H0 : Heap) (R : Value → Heap → Prop) (h : lz_Token_Good.res t0 H0 R) : CallsH Tryz.prog 49 #[t0] H0 R := by
  have e : vcFn Tryz.prog Tryz.C Tryz.f49 lz_Token_Good.an [t0] H0 R = lz_Token_Good.res t0 H0 R := by kernel_rfl
  exact vcFn_sound Tryz.callable Tryz.mixed Tryz.func49 (by kernel_rfl) (e.mpr h)
def lz_Length.an : Ann := (.seq (.reg (.op 0 [] .nil)) (.seq (.seq (.reg (.op 0 [] (.op 1 [] (.op 2 [] (.grp 2 (.op 3 [] (.op 4 [] .nil)) 5 .nil))))) (.cond (.seq (.reg (.op 0 [] (.op 1 [] .nil))) .leaf) .leaf)) (.seq (.reg (.op 0 [] (.op 1 [] (.op 2 [] .nil)))) .leaf)))
def lz_Length.res (n0 : Value) (H0 : Heap) (R : Value → Heap → Prop) : Prop :=
 pBox H0 106 (.agg #[(.int .i64 0), (.int .i64 0), (.int .u64 0)]) fun x2 H_1 =>
 pLt n0 (.int .i64 3) fun x4 =>
 pOr x4 (fun J_2 =>
 pGt n0 (.int .i64 258) fun x7 =>
 J_2 x7 H_1) H_1 fun x8 H_3 => ∀ _ : Env,
 pCond x8
 (pBuild [(.int .i64 0), (.int .i64 0), (.int .u64 0)] [] fun x9 =>
 pStoreN H_3 3 x2 x9 fun _ H_4 =>
 pLoadN H_4 3 x2 fun r_5 =>
 R r_5 H_4)
 (CallsH Tryz.prog 77 #[n0, (.int .i64 257), (.int .i64 285), (.func (.func 78) #[] #[])] H_3 fun x11 H_6 =>
 pStoreN H_6 3 x2 x11 fun _ H_7 =>
 pLoadN H_7 3 x2 fun r_8 =>
 R r_8 H_7)
set_option maxRecDepth 100000 in
theorem lz_Length.vc (n0 : Value) (H0 : Heap) (R : Value → Heap → Prop) (h : lz_Length.res n0 H0 R) : CallsH Tryz.prog 52 #[n0] H0 R := by
  have e : vcFn Tryz.prog Tryz.C Tryz.f52 lz_Length.an [n0] H0 R = lz_Length.res n0 H0 R := by kernel_rfl
  exact vcFn_sound Tryz.callable Tryz.mixed Tryz.func52 (by kernel_rfl) (e.mpr h)
def lz_Dist.an : Ann := (.seq (.reg (.op 0 [] .nil)) (.seq (.seq (.reg (.op 0 [] (.op 1 [] (.op 2 [] (.grp 2 (.op 3 [] (.op 4 [] .nil)) 5 .nil))))) (.cond (.seq (.reg (.op 0 [] (.op 1 [] .nil))) .leaf) .leaf)) (.seq (.reg (.op 0 [] (.op 1 [] (.op 2 [] .nil)))) .leaf)))
def lz_Dist.res (n0 : Value) (H0 : Heap) (R : Value → Heap → Prop) : Prop :=
 pBox H0 106 (.agg #[(.int .i64 0), (.int .i64 0), (.int .u64 0)]) fun x2 H_1 =>
 pLt n0 (.int .i64 1) fun x4 =>
 pOr x4 (fun J_2 =>
 pGt n0 (.int .i64 32768) fun x7 =>
 J_2 x7 H_1) H_1 fun x8 H_3 => ∀ _ : Env,
 pCond x8
 (pBuild [(.int .i64 0), (.int .i64 0), (.int .u64 0)] [] fun x9 =>
 pStoreN H_3 3 x2 x9 fun _ H_4 =>
 pLoadN H_4 3 x2 fun r_5 =>
 R r_5 H_4)
 (CallsH Tryz.prog 77 #[n0, (.int .i64 0), (.int .i64 29), (.func (.func 79) #[] #[])] H_3 fun x11 H_6 =>
 pStoreN H_6 3 x2 x11 fun _ H_7 =>
 pLoadN H_7 3 x2 fun r_8 =>
 R r_8 H_7)
set_option maxRecDepth 100000 in
theorem lz_Dist.vc (n0 : Value) (H0 : Heap) (R : Value → Heap → Prop) (h : lz_Dist.res n0 H0 R) : CallsH Tryz.prog 53 #[n0] H0 R := by
  have e : vcFn Tryz.prog Tryz.C Tryz.f53 lz_Dist.an [n0] H0 R = lz_Dist.res n0 H0 R := by kernel_rfl
  exact vcFn_sound Tryz.callable Tryz.mixed Tryz.func53 (by kernel_rfl) (e.mpr h)
def lz_find.an : Ann := (.seq (.reg (.op 0 [] .nil)) (.seq (.seq (.reg (.op 0 [] (.op 1 [] .nil))) (.block (.loop [9] [9, 10, 11, 12, 17, 18, 19, 20, 21, 22, 23, 24, 25, 26, 27, 28, 29, 30, 31, 32, 33, 34, 35, 36, 37, 38] (.seq (.seq (.reg (.op 0 [] (.op 1 [] (.op 2 [] .nil)))) (.cond .leaf .leaf)) (.seq (.block (.seq (.reg (.op 0 [] (.op 1 [] (.op 2 [] (.op 3 [] (.op 4 [] (.op 5 [] (.op 6 [] (.op 7 [] (.op 8 [] (.op 9 [] .nil))))))))))) (.seq (.reg (.op 0 [] (.op 1 [] (.op 2 [] .nil)))) (.cond (.seq (.reg (.op 0 [] (.op 1 [] (.op 2 [] (.op 3 [] (.op 4 [] (.op 5 [] (.op 6 [] (.op 7 [] .nil))))))))) .leaf) .leaf)))) (.reg (.op 0 [] (.op 1 [] (.op 2 [] .nil))))))))) (.seq (.reg (.op 0 [] (.op 1 [] (.op 2 [] (.op 3 [] (.op 4 [] (.op 5 [] (.op 6 [] (.op 7 [] (.op 8 [] (.op 9 [] .nil))))))))))) (.seq (.reg (.op 0 [] (.op 1 [] (.op 2 [] (.op 3 [] (.op 4 [] (.op 5 [] (.op 6 [] (.op 7 [] .nil))))))))) .leaf))))
def lz_find.res (n0 : Value) (first1 : Value) (last2 : Value) (of3 : Value) (H0 : Heap) (R : Value → Heap → Prop) : Prop :=
 pBox H0 106 (.agg #[(.int .i64 0), (.int .i64 0), (.int .u64 0)]) fun x8 H_1 =>
 ∃ (I_2 : Value → Heap → Prop) (m_3 : Value → Heap → Nat), I_2 last2 H_1 ∧
 ∀ _ : Env, ∀ s9 : Value, ∀ H_4 : Heap, I_2 s9 H_4 →
 pGt s9 first1 fun x19 =>
 pCond x19
 (callH Tryz.prog Tryz.C of3 [s9] H_4 fun x25 H_5 =>
 pExtract 0 x25 fun x26 =>
 pExtract 1 x25 fun x27 =>
 pExtract 2 x25 fun x28 =>
 pLe x26 n0 fun x31 =>
 pCond x31
 (pSub n0 x26 fun x36 =>
 pConv .u64 x36 fun x37 =>
 pBuild [(.int .i64 0), (.int .i64 0), (.int .u64 0)] [(0, 1, s9), (1, 1, x27), (2, 1, x37)] fun x38 =>
 pStoreN H_5 3 x8 x38 fun _ H_6 =>
 pLoadN H_6 3 x8 fun r_7 =>
 R r_7 H_6)
 (pSub s9 (.int .i64 1) fun x21 =>
 I_2 x21 H_5 ∧ m_3 x21 H_5 < m_3 s9 H_4))
 (callH Tryz.prog Tryz.C of3 [first1] H_4 fun x42 H_8 =>
 pExtract 0 x42 fun x43 =>
 pExtract 1 x42 fun x44 =>
 pExtract 2 x42 fun x45 =>
 pSub n0 x43 fun x50 =>
 pConv .u64 x50 fun x51 =>
 pBuild [(.int .i64 0), (.int .i64 0), (.int .u64 0)] [(0, 1, first1), (1, 1, x44), (2, 1, x51)] fun x52 =>
 pStoreN H_8 3 x8 x52 fun _ H_9 =>
 pLoadN H_9 3 x8 fun r_10 =>
 R r_10 H_9)
set_option maxRecDepth 100000 in
theorem lz_find.vc (n0 : Value) (first1 : Value) (last2 : Value) (of3 : Value) (H0 : Heap) (R : Value → Heap → Prop) (h : lz_find.res n0 first1 last2 of3 H0 R) : CallsH Tryz.prog 77 #[n0, first1, last2, of3] H0 R := by
  have e : vcFn Tryz.prog Tryz.C Tryz.f77 lz_find.an [n0, first1, last2, of3] H0 R = lz_find.res n0 first1 last2 of3 H0 R := by kernel_rfl
  exact vcFn_sound Tryz.callable Tryz.mixed Tryz.func77 (by kernel_rfl) (e.mpr h)
def lz_LengthOf.an : Ann := (.seq (.reg (.op 0 [] (.op 1 [] (.op 2 [] .nil)))) (.seq (.block (.seq (.reg (.op 0 [] (.op 1 [] (.op 2 [] (.grp 2 (.op 3 [] (.op 4 [] .nil)) 5 (.op 6 [] .nil)))))) (.cond (.seq (.reg (.op 0 [] (.op 1 [] (.op 2 [] .nil)))) .leaf) (.seq (.reg (.op 0 [] (.op 1 [] (.op 2 [] .nil)))) (.cond (.seq (.reg (.op 0 [] (.op 1 [] (.op 2 [] .nil)))) .leaf) .leaf))))) (.seq (.reg (.op 0 [] (.op 1 [] (.op 2 [] (.op 3 [] (.op 4 [] (.op 5 [] (.op 6 [] (.op 7 [] .nil))))))))) (.seq (.reg (.op 0 [] (.op 1 [] (.op 2 [] (.op 3 [] (.op 4 [] .nil)))))) .leaf))))
def lz_LengthOf.res (symbol0 : Value) (H0 : Heap) (R : Value → Heap → Prop) : Prop :=
 pLt symbol0 (.int .i64 257) fun x9 =>
 pOr x9 (fun J_1 =>
 pGt symbol0 (.int .i64 285) fun x12 =>
 J_1 x12 H0) H0 fun x13 H_2 => ∀ _ : Env,
 pCond x13
 (R (.tuple #[(.int .i64 0), (.int .i64 0), (.bool false)]) H_2)
 (pEq 0 symbol0 (.int .i64 285) fun x16 =>
 pCond x16
 (R (.tuple #[(.int .i64 258), (.int .i64 0), (.bool true)]) H_2)
 (pSub symbol0 (.int .i64 257) fun x19 =>
 CallsH Tryz.prog 100 #[x19, (.int .i64 3), (.int .i64 8), (.int .i64 4)] H_2 fun x20 H_3 =>
 pExtract 0 x20 fun x21 =>
 pExtract 1 x20 fun x22 =>
 R (.tuple #[x21, x22, (.bool true)]) H_3))
set_option maxRecDepth 100000 in
theorem lz_LengthOf.vc (symbol0 : Value) (H0 : Heap) (R : Value → Heap → Prop) (h : lz_LengthOf.res symbol0 H0 R) : CallsH Tryz.prog 78 #[symbol0] H0 R := by
  have e : vcFn Tryz.prog Tryz.C Tryz.f78 lz_LengthOf.an [symbol0] H0 R = lz_LengthOf.res symbol0 H0 R := by kernel_rfl
  exact vcFn_sound Tryz.callable Tryz.mixed Tryz.func78 (by kernel_rfl) (e.mpr h)
def lz_DistOf.an : Ann := (.seq (.reg (.op 0 [] (.op 1 [] (.op 2 [] .nil)))) (.seq (.seq (.reg (.op 0 [] (.op 1 [] (.op 2 [] (.grp 2 (.op 3 [] (.op 4 [] .nil)) 5 .nil))))) (.cond (.seq (.reg (.op 0 [] (.op 1 [] (.op 2 [] .nil)))) .leaf) .leaf)) (.seq (.reg (.op 0 [] (.op 1 [] (.op 2 [] (.op 3 [] (.op 4 [] (.op 5 [] (.op 6 [] .nil)))))))) (.seq (.reg (.op 0 [] (.op 1 [] (.op 2 [] (.op 3 [] (.op 4 [] .nil)))))) .leaf))))
def lz_DistOf.res (symbol0 : Value) (H0 : Heap) (R : Value → Heap → Prop) : Prop :=
 pLt symbol0 (.int .i64 0) fun x8 =>
 pOr x8 (fun J_1 =>
 pGt symbol0 (.int .i64 29) fun x11 =>
 J_1 x11 H0) H0 fun x12 H_2 => ∀ _ : Env,
 pCond x12
 (R (.tuple #[(.int .i64 0), (.int .i64 0), (.bool false)]) H_2)
 (CallsH Tryz.prog 100 #[symbol0, (.int .i64 1), (.int .i64 4), (.int .i64 2)] H_2 fun x15 H_3 =>
 pExtract 0 x15 fun x16 =>
 pExtract 1 x15 fun x17 =>
 R (.tuple #[x16, x17, (.bool true)]) H_3)
set_option maxRecDepth 100000 in
theorem lz_DistOf.vc (symbol0 : Value) (H0 : Heap) (R : Value → Heap → Prop) (h : lz_DistOf.res symbol0 H0 R) : CallsH Tryz.prog 79 #[symbol0] H0 R := by
  have e : vcFn Tryz.prog Tryz.C Tryz.f79 lz_DistOf.an [symbol0] H0 R = lz_DistOf.res symbol0 H0 R := by kernel_rfl
  exact vcFn_sound Tryz.callable Tryz.mixed Tryz.func79 (by kernel_rfl) (e.mpr h)
def lz_steps.an : Ann := (.seq (.reg (.op 0 [] (.op 1 [] .nil))) (.seq (.seq (.reg (.op 0 [] (.op 1 [] (.op 2 [] .nil)))) (.cond (.seq (.reg (.op 0 [] (.op 1 [] (.op 2 [] (.op 3 [] (.op 4 [] .nil)))))) .leaf) .leaf)) (.seq (.reg (.op 0 [] (.op 1 [] (.op 2 [] (.op 3 [] .nil))))) (.seq (.reg (.op 0 [] .nil)) (.seq (.seq (.reg (.op 0 [] (.op 1 [] (.op 2 [] (.op 3 [] .nil))))) (.block (.loop [0, 10, 11] [0, 10, 11, 24, 25, 26, 27, 28, 29, 30, 31, 32, 33, 34, 35, 36] (.seq (.seq (.reg (.op 0 [] (.op 1 [] (.op 2 [] .nil)))) (.cond .leaf .leaf)) (.seq (.block (.seq (.reg (.op 0 [] (.op 1 [] (.op 2 [] (.op 3 [] (.op 4 [] (.op 5 [] .nil))))))) (.reg (.op 0 [] (.op 1 [] (.op 2 [] .nil)))))) (.reg (.op 0 [] (.op 1 [] (.op 2 [] (.op 3 [] .nil)))))))))) (.seq (.reg (.op 0 [] (.op 1 [] (.op 2 [] (.op 3 [] (.op 4 [] (.op 5 [] (.op 6 [] (.op 7 [] .nil))))))))) .leaf))))))
def lz_steps.res (k0 : Value) (least1 : Value) (free2 : Value) (step3 : Value) (H0 : Heap) (R : Value → Heap → Prop) : Prop :=
 pLt k0 free2 fun x14 =>
 pCond x14
 (pAdd least1 k0 fun x17 =>
 R (.tuple #[x17, (.int .i64 0)]) H0)
 (pAdd least1 free2 fun x20 =>
 pSub k0 free2 fun x23 =>
 ∃ (I_1 : Value → Value → Value → Heap → Prop) (m_2 : Value → Value → Value → Heap → Nat), I_1 x23 x20 (.int .i64 1) H0 ∧
 ∀ _ : Env, ∀ k0' : Value, ∀ at10 : Value, ∀ e11 : Value, ∀ H_3 : Heap, I_1 k0' at10 e11 H_3 →
 pGe k0' step3 fun x26 =>
 pCond x26
 (pShl step3 e11 fun x33 =>
 pAdd at10 x33 fun x34 =>
 pAdd e11 (.int .i64 1) fun x36 =>
 pSub k0' step3 fun x29 =>
 I_1 x29 x34 x36 H_3 ∧ m_2 x29 x34 x36 H_3 < m_2 k0' at10 e11 H_3)
 (pShl k0' e11 fun x40 =>
 pAdd at10 x40 fun x41 =>
 R (.tuple #[x41, e11]) H_3))
set_option maxRecDepth 100000 in
theorem lz_steps.vc (k0 : Value) (least1 : Value) (free2 : Value) (step3 : Value) (H0 : Heap) (R : Value → Heap → Prop) (h : lz_steps.res k0 least1 free2 step3 H0 R) : CallsH Tryz.prog 100 #[k0, least1, free2, step3] H0 R := by
  have e : vcFn Tryz.prog Tryz.C Tryz.f100 lz_steps.an [k0, least1, free2, step3] H0 R = lz_steps.res k0 least1 free2 step3 H0 R := by kernel_rfl
  exact vcFn_sound Tryz.callable Tryz.mixed Tryz.func100 (by kernel_rfl) (e.mpr h)
def cmp_Or_int.an : Ann := (.seq (.reg (.op 0 [] .nil)) (.seq (.reg (.op 0 [] .nil)) (.seq (.seq (.reg (.op 0 [] (.op 1 [] (.op 2 [] .nil)))) (.block (.loop [8] [2, 5, 8, 9, 10, 11, 12, 13, 14, 15, 16] (.seq (.reg (.op 0 [] .nil)) (.seq (.cond .leaf .leaf) (.seq (.block (.seq (.reg (.op 0 [] (.op 1 [] (.op 2 [] .nil)))) (.seq (.reg (.op 0 [] (.op 1 [] (.op 2 [] .nil)))) (.cond (.seq (.reg (.op 0 [] (.op 1 [] .nil))) .leaf) .leaf)))) (.reg (.op 0 [] (.op 1 [] .nil))))))))) (.seq (.reg (.op 0 [] (.op 1 [] .nil))) .leaf))))
def cmp_Or_int.res (vals0 : Value) (H0 : Heap) (R : Value → Heap → Prop) : Prop :=
 pLen vals0 fun x7 =>
 ∃ (I_1 : Value → Heap → Prop) (m_2 : Value → Heap → Nat), I_1 (.int .i64 0) H0 ∧
 ∀ _ : Env, ∀ x8 : Value, ∀ H_3 : Heap, I_1 x8 H_3 →
 pLt x8 x7 fun x9 =>
 pCond x9
 (pIdxSl 1 vals0 x8 fun x10 =>
 pLoad H_3 x10 fun x11 =>
 pNe 0 x11 (.int .i64 0) fun x14 =>
 pCond x14
 (R x11 H_3)
 (pAdd x8 (.int .i64 1) fun x16 =>
 I_1 x16 H_3 ∧ m_2 x16 H_3 < m_2 x8 H_3))
 (R (.int .i64 0) H_3)
set_option maxRecDepth 100000 in
theorem cmp_Or_int.vc (vals0 : Value) (H0 : Heap) (R : Value → Heap → Prop) (h : cmp_Or_int.res vals0 H0 R) : CallsH Tryz.prog 66 #[vals0] H0 R := by
  have e : vcFn Tryz.prog Tryz.C Tryz.f66 cmp_Or_int.an [vals0] H0 R = cmp_Or_int.res vals0 H0 R := by kernel_rfl
  exact vcFn_sound Tryz.callable Tryz.mixed Tryz.func66 (by kernel_rfl) (e.mpr h)
def cmp_Compare_int.an : Ann := (.seq (.reg (.op 0 [] .nil)) (.seq (.reg (.op 0 [] (.op 1 [] (.op 2 [] .nil)))) (.seq (.reg (.op 0 [] (.op 1 [] (.op 2 [] .nil)))) (.seq (.seq (.reg (.op 0 [] .nil)) (.cond (.seq (.seq (.reg (.op 0 [] .nil)) (.cond (.seq (.reg (.op 0 [] .nil)) .leaf) .leaf)) (.seq (.reg (.op 0 [] .nil)) .leaf)) .leaf)) (.seq (.seq (.reg (.op 0 [] .nil)) (.cond (.seq (.reg (.op 0 [] .nil)) .leaf) .leaf)) (.seq (.seq (.reg (.op 0 [] (.op 1 [] (.op 2 [] .nil)))) (.cond (.seq (.reg (.op 0 [] .nil)) .leaf) .leaf)) (.seq (.seq (.reg (.op 0 [] (.op 1 [] (.op 2 [] .nil)))) (.cond (.seq (.reg (.op 0 [] .nil)) .leaf) .leaf)) (.seq (.reg (.op 0 [] .nil)) .leaf))))))))
def cmp_Compare_int.res (x0 : Value) (y1 : Value) (H0 : Heap) (R : Value → Heap → Prop) : Prop :=
 CallsH Tryz.prog 96 #[x0] H0 fun x8 H_1 =>
 CallsH Tryz.prog 96 #[y1] H_1 fun x10 H_2 =>
 pCond x8
 (pCond x10
 (R (.int .i64 0) H_2)
 (R (.int .i64 (-1)) H_2))
 (pCond x10
 (R (.int .i64 1) H_2)
 (pLt x0 y1 fun x16 =>
 pCond x16
 (R (.int .i64 (-1)) H_2)
 (pGt x0 y1 fun x19 =>
 pCond x19
 (R (.int .i64 1) H_2)
 (R (.int .i64 0) H_2))))
set_option maxRecDepth 100000 in
theorem cmp_Compare_int.vc (x0 : Value) (y1 : Value) (H0 : Heap) (R : Value → Heap → Prop) (h : cmp_Compare_int.res x0 y1 H0 R) : CallsH Tryz.prog 67 #[x0, y1] H0 R := by
  have e : vcFn Tryz.prog Tryz.C Tryz.f67 cmp_Compare_int.an [x0, y1] H0 R = cmp_Compare_int.res x0 y1 H0 R := by kernel_rfl
  exact vcFn_sound Tryz.callable Tryz.mixed Tryz.func67 (by kernel_rfl) (e.mpr h)
def cmp_isNaN_int.an : Ann := (.seq (.reg (.op 0 [] .nil)) (.seq (.reg (.op 0 [] (.op 1 [] (.op 2 [] (.op 3 [] .nil))))) .leaf))
def cmp_isNaN_int.res (x0 : Value) (H0 : Heap) (R : Value → Heap → Prop) : Prop :=
 pNe 0 x0 x0 fun x5 =>
 R x5 H0
set_option maxRecDepth 100000 in
theorem cmp_isNaN_int.vc (x0 : Value) (H0 : Heap) (R : Value → Heap → Prop) (h : cmp_isNaN_int.res x0 H0 R) : CallsH Tryz.prog 96 #[x0] H0 R := by
  have e : vcFn Tryz.prog Tryz.C Tryz.f96 cmp_isNaN_int.an [x0] H0 R = cmp_isNaN_int.res x0 H0 R := by kernel_rfl
  exact vcFn_sound Tryz.callable Tryz.mixed Tryz.func96 (by kernel_rfl) (e.mpr h)
def window_Window_Add.an : Ann := (.seq (.reg (.op 0 [] (.op 1 [] (.op 2 [] .nil)))) (.block (.loop [7] [4, 7, 8, 9, 10, 11, 12, 13, 14, 15] (.seq (.reg (.op 0 [] .nil)) (.seq (.cond .leaf .leaf) (.seq (.block (.seq (.reg (.op 0 [] (.op 1 [] .nil))) (.reg (.op 0 [] (.op 1 [] (.op 2 [] (.op 3 [] (.op 4 [] .nil)))))))) (.reg (.op 0 [] (.op 1 [] .nil)))))))))
def window_Window_Add.res (w0 : Value) (s1 : Value) (H0 : Heap) (R : Value → Heap → Prop) : Prop :=
 pLenS s1 fun x6 =>
 ∃ (I_1 : Value → Heap → Prop) (m_2 : Value → Heap → Nat), I_1 (.int .i64 0) H0 ∧
 ∀ _ : Env, ∀ x7 : Value, ∀ H_3 : Heap, I_1 x7 H_3 →
 pLt x7 x6 fun x8 =>
 pCond x8
 (pIdxStr s1 x7 fun x13 =>
 CallsH Tryz.prog 92 #[w0, x13] H_3 fun x14 H_4 =>
 pAdd x7 (.int .i64 1) fun x15 =>
 I_1 x15 H_4 ∧ m_2 x15 H_4 < m_2 x7 H_3)
 (R (.tuple #[]) H_3)
set_option maxRecDepth 100000 in
theorem window_Window_Add.vc (w0 : Value) (s1 : Value) (H0 : Heap) (R : Value → Heap → Prop) (h : window_Window_Add.res w0 s1 H0 R) : CallsH Tryz.prog 88 #[w0, s1] H0 R := by
  have e : vcFn Tryz.prog Tryz.C Tryz.f88 window_Window_Add.an [w0, s1] H0 R = window_Window_Add.res w0 s1 H0 R := by kernel_rfl
  exact vcFn_sound Tryz.callable Tryz.mixed Tryz.func88 (by kernel_rfl) (e.mpr h)
def window_Window_Put.an : Ann := (.seq (.seq (.reg (.op 0 [] (.op 1 [] .nil))) (.cond .leaf .leaf)) (.cut [] [6, 7, 8, 9, 10, 11, 12, 13, 14, 15, 16, 17, 18, 19, 20, 21, 22, 23, 24, 25, 26, 27, 28, 29, 30, 31, 32] (.seq (.reg (.op 0 [] (.op 1 [] (.op 2 [] (.op 3 [] (.op 4 [] (.op 5 [] .nil))))))) (.cond (.reg (.op 0 [] (.op 1 [] (.op 2 [] (.op 3 [] (.op 4 [] (.op 5 [] (.op 6 [] (.op 7 [] (.op 8 [] (.op 9 [] (.op 10 [] .nil)))))))))))) (.drw [0, 1, 3, 7, 0, 16, 48, 112, 240, 0, 1023, 2047] (.op 0 [] (.op 1 [] (.op 2 [] (.op 3 [] (.op 4 [] (.op 5 [] (.op 6 [] (.op 7 [] (.op 8 [] (.op 9 [] (.op 10 [] (.op 11 [] .nil))))))))))))))) (.reg (.op 0 [] (.op 1 [] (.op 2 [] (.op 3 [] (.op 4 [] (.op 5 [] (.op 6 [] (.op 7 [] .nil)))))))))))
def window_Window_Put.res (w0 : Value) (b1 : Value) (H0 : Heap) (R : Value → Heap → Prop) : Prop :=
 pEq 3 w0 (.pointer none) fun x5 =>
 pCond x5
 (R (.tuple #[]) H0)
 (∃ J_1 : Heap → Prop, (∀ _ : Env, ∀ H_2 : Heap, J_1 H_2 →
 pNil w0 fun x34 =>
 pFieldAddr 1 x34 fun x35 =>
 pLoad H_2 x35 fun x36 =>
 pAdd x36 (.int .i64 1) fun x37 =>
 pNil w0 fun x38 =>
 pFieldAddr 1 x38 fun x39 =>
 pStore H_2 x39 x37 fun _ H_3 =>
 R (.tuple #[]) H_3) ∧
 pNil w0 fun x7 =>
 pFieldAddr 0 x7 fun x8 =>
 pLoad H0 x8 fun x9 =>
 pLen x9 fun x10 =>
 pLt x10 (.int .i64 32768) fun x11 =>
 pCond x11
 (pNil w0 fun x14 =>
 pFieldAddr 0 x14 fun x15 =>
 pLoad H0 x15 fun x16 =>
 pBuildSl H0 5 1 [(.int .u8 0)] [(0, 1, b1)] fun x18 H_4 =>
 pAppend H_4 5 1 1 [(.int .u8 0)] x16 x18 fun x19 H_5 =>
 pNil w0 fun x20 =>
 pFieldAddr 0 x20 fun x21 =>
 pStore H_5 x21 x19 fun _ H_6 =>
 J_1 H_6)
 (pNil w0 fun x23 =>
 pFieldAddr 0 x23 fun x24 =>
 pLoad H0 x24 fun x25 =>
 pNil w0 fun x27 =>
 pFieldAddr 1 x27 fun x28 =>
 pLoad H0 x28 fun x29 =>
 pRem x29 (.int .i64 32768) fun x30 =>
 pIdxSl 1 x25 x30 fun x32 =>
 pStore H0 x32 b1 fun _ H_7 =>
 J_1 H_7))
set_option maxRecDepth 100000 in
theorem window_Window_Put.vc (w0 : Value) (b1 : Value) (H0 : Heap) (R : Value → Heap → Prop) (h : window_Window_Put.res w0 b1 H0 R) : CallsH Tryz.prog 92 #[w0, b1] H0 R := by
  have e : vcFn Tryz.prog Tryz.C Tryz.f92 window_Window_Put.an [w0, b1] H0 R = window_Window_Put.res w0 b1 H0 R := by kernel_rfl
  exact vcFn_sound Tryz.callable Tryz.mixed Tryz.func92 (by kernel_rfl) (e.mpr h)
def window_Window_Copy.an : Ann := (.seq (.reg (.op 0 [] (.op 1 [] .nil))) (.seq (.seq (.reg (.op 0 [] (.op 1 [] (.op 2 [] (.grp 2 (.op 3 [] (.op 4 [] .nil)) 5 (.op 6 [] (.grp 6 (.op 7 [] (.op 8 [] .nil)) 9 (.op 10 [] (.grp 10 (.op 11 [] (.op 12 [] (.op 13 [] (.op 14 [] .nil)))) 15 .nil))))))))) (.cond (.seq (.reg (.op 0 [] (.op 1 [] .nil))) .leaf) .leaf)) (.seq (.reg (.op 0 [] (.op 1 [] (.op 2 [] .nil)))) (.seq (.seq (.reg (.op 0 [] (.op 1 [] (.op 2 [] .nil)))) (.block (.loop [30] [9, 30, 31, 32, 33, 34, 35, 36, 37, 38, 39, 40, 41, 42, 43, 44, 45, 46, 47, 48] (.seq (.reg (.op 0 [] .nil)) (.seq (.cond .leaf .leaf) (.seq (.block (.seq (.reg (.op 0 [] (.op 1 [] .nil))) (.seq (.reg (.op 0 [] (.op 1 [] (.op 2 [] (.op 3 [] (.op 4 [] (.op 5 [] (.op 6 [] (.op 7 [] (.op 8 [] (.op 9 [] .nil))))))))))) (.reg (.op 0 [] (.op 1 [] (.op 2 [] (.op 3 [] (.op 4 [] (.op 5 [] .nil)))))))))) (.reg (.op 0 [] (.op 1 [] .nil))))))))) (.seq (.reg (.op 0 [] (.op 1 [] (.op 2 [] (.op 3 [] .nil))))) .leaf)))))
def window_Window_Copy.res (w0 : Value) (n1 : Value) (dist2 : Value) (H0 : Heap) (R : Value → Heap → Prop) : Prop :=
 pLt n1 (.int .i64 0) fun x11 =>
 pOr x11 (fun J_1 =>
 pGt n1 (.int .i64 258) fun x14 =>
 J_1 x14 H0) H0 fun x15 H_2 => ∀ _ : Env,
 pOr x15 (fun J_3 =>
 pLt dist2 (.int .i64 1) fun x18 =>
 J_3 x18 H_2) H_2 fun x19 H_4 => ∀ _ : Env,
 pOr x19 (fun J_5 =>
 CallsH Tryz.prog 118 #[w0] H_4 fun x23 H_7 =>
 pGt dist2 x23 fun x24 =>
 J_5 x24 H_7) H_4 fun x25 H_6 => ∀ _ : Env,
 pCond x25
 (R (.tuple #[(str []), (.bool false)]) H_6)
 (pMakeSl H_6 5 1 [(.int .u8 0)] n1 n1 fun x27 H_8 =>
 pLen x27 fun x29 =>
 ∃ (I_9 : Value → Heap → Prop) (m_10 : Value → Heap → Nat), I_9 (.int .i64 0) H_8 ∧
 ∀ _ : Env, ∀ x30 : Value, ∀ H_11 : Heap, I_9 x30 H_11 →
 pLt x30 x29 fun x31 =>
 pCond x31
 (CallsH Tryz.prog 119 #[w0, dist2] H_11 fun x38 H_12 =>
 pExtract 0 x38 fun x39 =>
 pExtract 1 x38 fun x40 =>
 pIdxSl 1 x27 x30 fun x41 =>
 pStore H_12 x41 x39 fun _ H_13 =>
 pIdxSl 1 x27 x30 fun x45 =>
 pLoad H_13 x45 fun x46 =>
 CallsH Tryz.prog 92 #[w0, x46] H_13 fun x47 H_14 =>
 pAdd x30 (.int .i64 1) fun x48 =>
 I_9 x48 H_14 ∧ m_10 x48 H_14 < m_10 x30 H_11)
 (pStrOf H_11 x27 fun x50 =>
 R (.tuple #[x50, (.bool true)]) H_11))
set_option maxRecDepth 100000 in
theorem window_Window_Copy.vc (w0 : Value) (n1 : Value) (dist2 : Value) (H0 : Heap) (R : Value → Heap → Prop) (h : window_Window_Copy.res w0 n1 dist2 H0 R) : CallsH Tryz.prog 105 #[w0, n1, dist2] H0 R := by
  have e : vcFn Tryz.prog Tryz.C Tryz.f105 window_Window_Copy.an [w0, n1, dist2] H0 R = window_Window_Copy.res w0 n1 dist2 H0 R := by kernel_rfl
  exact vcFn_sound Tryz.callable Tryz.mixed Tryz.func105 (by kernel_rfl) (e.mpr h)
def window_Window_Len.an : Ann := (.seq (.reg (.op 0 [] .nil)) (.seq (.seq (.reg (.op 0 [] (.op 1 [] .nil))) (.cond (.seq (.reg (.op 0 [] .nil)) .leaf) .leaf)) (.seq (.reg (.op 0 [] (.op 1 [] (.op 2 [] (.op 3 [] (.op 4 [] (.op 5 [] .nil))))))) .leaf)))
def window_Window_Len.res (w0 : Value) (H0 : Heap) (R : Value → Heap → Prop) : Prop :=
 pEq 3 w0 (.pointer none) fun x4 =>
 pCond x4
 (R (.int .i64 0) H0)
 (pNil w0 fun x6 =>
 pFieldAddr 0 x6 fun x7 =>
 pLoad H0 x7 fun x8 =>
 pLen x8 fun x9 =>
 R x9 H0)
set_option maxRecDepth 100000 in
theorem window_Window_Len.vc (w0 : Value) (H0 : Heap) (R : Value → Heap → Prop) (h : window_Window_Len.res w0 H0 R) : CallsH Tryz.prog 118 #[w0] H0 R := by
  have e : vcFn Tryz.prog Tryz.C Tryz.f118 window_Window_Len.an [w0] H0 R = window_Window_Len.res w0 H0 R := by kernel_rfl
  exact vcFn_sound Tryz.callable Tryz.mixed Tryz.func118 (by kernel_rfl) (e.mpr h)
def window_Window_Back.an : Ann := (.seq (.reg (.op 0 [] (.op 1 [] .nil))) (.seq (.seq (.reg (.op 0 [] (.op 1 [] (.op 2 [] (.grp 2 (.op 3 [] (.op 4 [] (.op 5 [] (.op 6 [] .nil)))) 7 .nil))))) (.cond (.seq (.reg (.op 0 [] (.op 1 [] .nil))) .leaf) .leaf)) (.seq (.drw [0, 1, 3, 7, 0, 16, 48, 112, 0, 496, 1008, 2047, 4095, 8191, 16383] (.op 0 [] (.op 1 [] (.op 2 [] (.op 3 [] (.op 4 [] (.op 5 [] (.op 6 [] (.op 7 [] (.op 8 [] (.op 9 [] (.op 10 [] (.op 11 [] (.op 12 [] (.op 13 [] (.op 14 [] .nil)))))))))))))))) .leaf)))
def window_Window_Back.res (w0 : Value) (dist1 : Value) (H0 : Heap) (R : Value → Heap → Prop) : Prop :=
 pLt dist1 (.int .i64 1) fun x7 =>
 pOr x7 (fun J_1 =>
 CallsH Tryz.prog 118 #[w0] H0 fun x11 H_3 =>
 pGt dist1 x11 fun x12 =>
 J_1 x12 H_3) H0 fun x13 H_2 => ∀ _ : Env,
 pCond x13
 (R (.tuple #[(.int .u8 0), (.bool false)]) H_2)
 (pNil w0 fun x15 =>
 pFieldAddr 0 x15 fun x16 =>
 pLoad H_2 x16 fun x17 =>
 pNil w0 fun x19 =>
 pFieldAddr 1 x19 fun x20 =>
 pLoad H_2 x20 fun x21 =>
 pSub x21 dist1 fun x23 =>
 pRem x23 (.int .i64 32768) fun x24 =>
 pIdxSl 1 x17 x24 fun x25 =>
 pLoad H_2 x25 fun x26 =>
 R (.tuple #[x26, (.bool true)]) H_2)
set_option maxRecDepth 100000 in
theorem window_Window_Back.vc (w0 : Value) (dist1 : Value) (H0 : Heap) (R : Value → Heap → Prop) (h : window_Window_Back.res w0 dist1 H0 R) : CallsH Tryz.prog 119 #[w0, dist1] H0 R := by
  have e : vcFn Tryz.prog Tryz.C Tryz.f119 window_Window_Back.an [w0, dist1] H0 R = window_Window_Back.res w0 dist1 H0 R := by kernel_rfl
  exact vcFn_sound Tryz.callable Tryz.mixed Tryz.func119 (by kernel_rfl) (e.mpr h)
end Go.Proofs.YtameljhbkedhjaaGreatDoor
namespace Go.Proofs.YtameljhbkedhjaaGreatDoor
open Go Go.Vc Go.Proofs
set_option linter.unusedVariables false
set_option linter.unusedSimpArgs false
variable {H : Heap} {R : Value → Heap → Prop} {v : Value} {zs : List Int}
theorem callH_f {P : Program} {C : List Nat} {g : Nat} {first cap : Array Value} {args : List Value} {K : Value → Heap → Prop} (hm : memb g C = true) (h : CallsH P g (first.toList ++ args ++ cap.toList).toArray H K) : callH P C (.func (.func g) first cap) args H K := by
  show (bif memb g C then CallsH P g (first.toList ++ args ++ cap.toList).toArray H K else False)
  rw [hm]; exact h
def goodZ (zs : List Int) : Bool := zs.all fun z => decide (0 ≤ z ∧ z ≤ 15)
theorem goodZ_iff : goodZ zs = true ↔ ∀ z ∈ zs, 0 ≤ z ∧ z ≤ 15 := by simp [goodZ]
theorem bad_spec {z : Int} (h : R (.bool (!decide (0 ≤ z ∧ z ≤ 15))) H) : CallsH Tryz.prog 36 #[.int .i64 z] H R := by
  refine canon_New_f1.vc _ _ _ ?_
  unfold canon_New_f1.res
  rw [pLt_v]
  refine pOr_if (d := decide (15 < z)) (fun _ => by rw [pGt_v]; exact ⟨rfl, rfl⟩) ?_
  intro _
  have e : (decide (z < 0) || decide (15 < z)) = !decide (0 ≤ z ∧ z ≤ 15) := by
    rw [Bool.eq_iff_iff, Bool.or_eq_true, decide_eq_true_eq, decide_eq_true_eq, Bool.not_eq_true', decide_eq_false_iff_not]
    omega
  rw [e]; exact h
theorem anyBad_spec (hs : Sl H v 1 (numsV zs)) (hlen : zs.length ≤ maxLen) (h : R (.bool (!goodZ zs)) H) : CallsH Tryz.prog 37 #[v, .func (.func 36) #[] #[]] H R := by
  have hmax : maxLen = 9223372036854775807 := rfl
  have hvl : (numsV zs).length = zs.length * 1 := by rw [numsV_len]; omega
  refine slices_ContainsFunc_s_int_int.vc _ _ _ _ ?_
  unfold slices_ContainsFunc_s_int_int.res
  refine slices_IndexFunc_s_int_int.vc _ _ _ _ ?_
  unfold slices_IndexFunc_s_int_int.res
  refine hs.len hvl (by decide) ?_
  refine ⟨fun i H' => ∃ k : Nat, i = .int .i64 k ∧ k ≤ zs.length ∧ (∀ z ∈ zs.take k, 0 ≤ z ∧ z ≤ 15) ∧ H = H', fun i _ => match i with | .int _ x => (9223372036854775807 - x).toNat | _ => 0, ⟨0, rfl, by omega, by simp, rfl⟩, ?_⟩
  rintro _ _ _ ⟨k, rfl, hk, hok, rfl⟩
  rw [pLt_v]
  refine pCond_if (fun hc => ?_) (fun hc => ?_)
  · have hkn : k < zs.length := by omega
    refine hs.at_ hvl (by decide) (by omega) (by omega) fun p hp => ?_
    refine hp.load hs (w := .int .i64 zs[k]) (by rw [Int.toNat_natCast, Nat.mul_one, numsV_get hkn]) ?_
    refine callH_f (by kernel_rfl) ?_
    refine bad_spec ?_
    refine pCond_b (fun hb => ?_) (fun hb => ?_)
    · have : ¬ (0 ≤ zs[k] ∧ zs[k] ≤ 15) := by rw [Bool.not_eq_true', decide_eq_false_iff_not] at hb; exact hb
      show pGe _ _ _
      rw [pGe_v, decide_eq_true (by omega)]
      have e : goodZ zs = false := by
        rw [← Bool.not_eq_true, goodZ_iff]
        exact fun g => this (g _ (List.getElem_mem hkn))
      rw [e] at h
      exact h
    · have hz : 0 ≤ zs[k] ∧ zs[k] ≤ 15 := by simpa using hb
      rw [pAdd_v, w64 (n := (k : Int) + 1) (by omega) (by omega)]
      refine ⟨⟨k + 1, rfl, by omega, fun z hz' => ?_, rfl⟩, by show (_ : Int).toNat < (_ : Int).toNat; omega⟩
      rw [take_snoc hkn] at hz'
      rcases List.mem_append.1 hz' with g | g
      · exact hok z g
      · rw [List.mem_singleton.1 g]; exact hz
  · have : k = zs.length := by omega
    rw [this, List.take_length] at hok
    rw [goodZ_iff.2 hok] at h
    show pGe _ _ _
    rw [pGe_v, decide_eq_false (by decide)]
    exact h
theorem clone_spec (hs : Sl H v 1 (numsV zs)) (hlen : zs.length ≤ 1000) (h : ∀ y H', Owns H H' [.sl y 1 (numsV zs)] → R y H') : CallsH Tryz.prog 38 #[v] H R := by
  refine slices_Clone_s_int_int.vc _ _ _ ?_
  unfold slices_Clone_s_int_int.res
  have hcase : (∃ n c, v = .slice none n c ∧ zs = []) ∨ ∃ a n c, v = .slice (some a) n c := by
    rcases hs with ⟨rfl, h0⟩ | ⟨a, m, cap, rfl, _⟩
    · exact .inl ⟨_, _, rfl, by have := congrArg List.length h0; rw [numsV_len] at this; exact List.length_eq_zero_iff.1 this⟩
    · exact .inr ⟨a, m, cap, rfl⟩
  have hgo : pBuildSl H 3 0 [] [] fun x5 H_1 => pAppend H_1 3 1 8 [(.int .i64 0)] x5 v fun x7 H_2 => R x7 H_2 := by
    refine (Owns.start (H := H)).build0 1 (by decide) fun y H1 o => ?_
    refine o.app (by repeat (first | exact Sel.here | apply Sel.there)) (hs.ext o.ext) numsV_one (by rw [numsV_len]; show 2 * (0 + _) * 8 ≤ _; omega) fun z H2 o => ?_
    exact h z H2 o
  rcases hcase with ⟨n, c, rfl, rfl⟩ | ⟨a, n, c, rfl⟩
  · rw [pEq_4n, pCond_true]
    refine h _ _ ?_
    exact Owns.start.add (Ext.refl _) ⟨by decide, .inl ⟨rfl, rfl⟩⟩ (by intro k hk; exact absurd hk (by simp [It.foot, blkOf]))
  · rw [pEq_4s, pCond_false]
    exact hgo
abbrev codeIts (zs : List Int) (b : Nat) (lv wv sv : Value) : List It :=
  [.box b (codeCells lv wv (countsL (natL zs)) sv) 90 , .sl lv 1 (numsV zs), .sl wv 2 (wordsV (natL zs)), .sl sv 1 (symsV (symsB (natL zs) 16))]
theorem leftC_share (ls : List Nat) : leftC ls 15 = 32768 - (shareL ls 15 : Nat) := by unfold leftC; rw [endC_share]; rfl
theorem newC_spec {loose : Bool} (hs : Sl H v 1 (numsV zs)) (hlen : zs.length ≤ maxLen)
    (hno : ∀ H', Ext H H' → whyL zs loose ≠ 0 → R (.tuple #[.pointer none, .int .i64 (whyL zs loose)]) H')
    (hyes : ∀ H' b lv wv sv, Owns H H' (codeIts zs b lv wv sv) → okZ zs → whyL zs loose = 0 → R (.tuple #[.pointer (some ⟨b, 0, none⟩), .int .i64 0]) H') : CallsH Tryz.prog 13 #[v, .bool loose] H R := by
  have hmax : maxLen = 9223372036854775807 := rfl
  have hvl : (numsV zs).length = zs.length * 1 := by rw [numsV_len]; omega
  refine canon_New.vc _ _ _ _ ?_
  unfold canon_New.res
  refine hs.len hvl (by decide) ?_
  rw [pGt_v]
  refine pOr_if (d := !goodZ zs) (fun _ => anyBad_spec hs hlen ⟨rfl, rfl⟩) ?_
  intro _
  have hbad : (decide (288 < (zs.length : Int)) || !goodZ zs) = true ↔ ¬ okZ zs := by
    rw [Bool.or_eq_true, decide_eq_true_eq, Bool.not_eq_true', ← Bool.not_eq_true, goodZ_iff]
    unfold okZ
    constructor
    · rintro (g | g) h
      · omega
      · exact g h.2
    · intro g
      by_cases g1 : 288 < (zs.length : Int)
      · exact .inl g1
      · exact .inr fun g2 => g ⟨by omega, g2⟩
  refine pCond_b (fun hb => ?_) (fun hb => ?_)
  · have h1 := why_no (loose := loose) (hbad.1 hb)
    have := hno H (Ext.refl H)
    rw [h1] at this
    exact this (by decide)
  have hok : okZ zs := by
    by_cases g : okZ zs
    · exact g
    · rw [hbad.2 g] at hb; cases hb
  have hwhy := why_ok (loose := loose) hok
  have hok1 := hok.1
  refine clone_spec hs (by omega) fun lv H1 o => ?_
  refine pBuild_one (o.sl (v := lv) (by repeat (first | exact List.mem_cons_self | apply List.mem_cons_of_mem))).one (by decide) ?_
  rw [pBuild_n]
  refine o.box fun b H2 o _ => ?_
  change Owns H H2 [.box b (codeCells lv (.slice none 0 0) (countsL []) (.slice none 0 0)) _, _] at o
  refine fill_spec hok o fun H3 r o hr => ?_
  rw [leftC_share] at hr
  rw [pLt_v]
  refine pCond_if (fun hc => ?_) (fun hc => ?_)
  · have hgt : 32768 < shareL (natL zs) 15 := by
      split at hr <;> omega
    rw [if_pos hgt] at hwhy
    have := hno H3 o.ext
    rw [hwhy] at this
    exact this (by decide)
  rw [pGt_v]
  rw [if_neg (by intro g; rw [if_pos g] at hr; omega)] at hr
  refine pAnd_if (d := !(loose && slackL (natL zs))) (fun hpos => ?_) ?_
  · refine pAnd_if (d := slackL (natL zs)) (fun _ => slack_spec hok o ⟨rfl, rfl⟩) ?_
    intro _
    rw [pNot_v]
    exact ⟨rfl, rfl⟩
  intro _
  rw [if_neg (show ¬ 32768 < shareL (natL zs) 15 by omega)] at hwhy
  refine pCond_b (fun hb => ?_) (fun hb => ?_)
  · rw [Bool.and_eq_true, decide_eq_true_eq, Bool.not_eq_true'] at hb
    rw [if_pos ⟨by omega, hb.2⟩] at hwhy
    have := hno H3 o.ext
    rw [hwhy] at this
    exact this (by decide)
  · have h0 : whyL zs loose = 0 := by
      rw [hwhy, if_neg]
      rintro ⟨g1, g2⟩
      rw [g2, decide_eq_true (by omega)] at hb
      cases hb
    refine assign_spec hok o fun H4 wv sv o => ?_
    exact hyes H4 b lv wv sv o hok h0
end Go.Proofs.YtameljhbkedhjaaGreatDoor
namespace Go.Proofs.YtameljhbkedhjaaGreatDoor
open Go Go.Vc Go.Proofs
set_option linter.unusedVariables false
set_option linter.unusedSimpArgs false
variable {H : Heap} {R : Value → Heap → Prop} {v : Value} {zs : List Int}
def wordP (ls : List Nat) (i : Int) : Nat × Nat := if 0 ≤ i ∧ i < ls.length then (revN (codeL ls i.toNat) (ls.getD i.toNat 0), ls.getD i.toNat 0) else (0, 0)
theorem wordsV_len (ls : List Nat) : (wordsV ls).length = ls.length * 2 := by
  unfold wordsV
  rw [flat_len (n := 2) _ (by intro r hr; obtain ⟨s, _, rfl⟩ := List.mem_map.1 hr; rfl), List.length_map, List.length_range]
theorem flat_cell {n : Nat} {L : List (List Value)} {i j : Nat} {r : List Value} (hl : ∀ r ∈ L, r.length = n) (hi : L[i]? = some r) (hj : j < n) : L.flatten[i * n + j]? = r[j]? := by
  have hil := (List.getElem?_eq_some_iff.1 hi).1
  have hir := (List.getElem?_eq_some_iff.1 hi).2
  have e : L = L.take i ++ r :: L.drop (i + 1) := by rw [← hir, ← List.drop_eq_getElem_cons hil, List.take_append_drop]
  have hp : (L.take i).flatten.length = i * n := by
    rw [flat_len (L.take i) (fun x hx => hl x (List.mem_of_mem_take hx)), List.length_take, Nat.min_eq_left (by omega)]
  have hr : r.length = n := by rw [← hir]; exact hl _ (List.getElem_mem hil)
  rw [e, List.flatten_append, List.flatten_cons, List.getElem?_append_right (by omega), List.getElem?_append_left (by omega)]
  congr 1
  omega
theorem wordsV_at {ls : List Nat} {s j : Nat} (h : s < ls.length) (hj : j < 2) : (wordsV ls)[s * 2 + j]? = (wordV ls s)[j]? :=
  flat_cell (by intro r hr; obtain ⟨s, _, rfl⟩ := List.mem_map.1 hr; rfl) (by rw [List.getElem?_map, List.getElem?_range h]; rfl) hj
theorem word_spec {H0 : Heap} {L : List It} {b : Nat} {lv wv sv : Value} {i : Int} (o : Owns H0 H L) (h1 : It.box b (codeCells lv wv (countsL (natL zs)) sv) 90 ∈ L) (h2 : It.sl wv 2 (wordsV (natL zs)) ∈ L) (hlen : zs.length ≤ 288)
    (h : R (.tuple #[.int .u64 (wordP (natL zs) i).1, .int .i64 (wordP (natL zs) i).2]) H) : CallsH Tryz.prog 42 #[.pointer (some ⟨b, 0, none⟩), .int .i64 i] H R := by
  have hl : (natL zs).length ≤ 288 := by rw [natL_len]; exact hlen
  generalize natL zs = ls at *
  have hwl := wordsV_len ls
  refine canon_Code_Word.vc _ _ _ _ ?_
  unfold canon_Code_Word.res
  rw [pEq_3s]
  refine pOr_false ?_
  rw [pLt_v]
  intro _
  refine pOr_if (d := decide ((ls.length : Int) ≤ i)) (fun _ => ?_) ?_
  · rw [pNil_v, pFieldAddr_v, add_mk]
    refine o.bload (f := 0 + 1) h1 rfl ?_
    refine (o.sl h2).len hwl (by decide) ?_
    rw [pGe_v]
    exact ⟨rfl, rfl⟩
  intro _
  refine pCond_b (fun hb => ?_) (fun hb => ?_)
  · rw [Bool.or_eq_true, decide_eq_true_eq, decide_eq_true_eq] at hb
    have e : wordP ls i = (0, 0) := if_neg (by omega)
    rw [e] at h
    exact h
  · rw [Bool.or_eq_false_iff, decide_eq_false_iff_not, decide_eq_false_iff_not] at hb
    have e : wordP ls i = (revN (codeL ls i.toNat) (ls.getD i.toNat 0), ls.getD i.toNat 0) := if_pos (by omega)
    rw [e] at h
    have hi : i.toNat < ls.length := by omega
    rw [pNil_v, pFieldAddr_v, add_mk]
    refine o.bload (f := 0 + 1) h1 rfl ?_
    refine (o.sl h2).at_ hwl (by decide) (by omega) (by omega) fun p hp => ?_
    refine hp.field (f := 0) fun q hq => ?_
    refine hq.load (o.sl h2) (by rw [wordsV_at hi (by decide)]; rfl) ?_
    rw [pNil_v, pFieldAddr_v, add_mk]
    refine o.bload (f := 0 + 1) h1 rfl ?_
    refine (o.sl h2).at_ hwl (by decide) (by omega) (by omega) fun p hp => ?_
    refine hp.field (f := 1) fun q hq => ?_
    refine hq.load (o.sl h2) (by rw [wordsV_at hi (by decide)]; rfl) ?_
    exact h
theorem lens_spec {H0 : Heap} {L : List It} {b : Nat} {lv wv sv : Value} (o : Owns H0 H L) (h1 : It.box b (codeCells lv wv (countsL (natL zs)) sv) 90 ∈ L) (h2 : It.sl lv 1 (numsV zs) ∈ L) (hlen : zs.length ≤ 288)
    (h : ∀ y H', Owns H H' [.sl y 1 (numsV zs)] → R y H') : CallsH Tryz.prog 59 #[.pointer (some ⟨b, 0, none⟩)] H R := by
  refine canon_Code_Lengths.vc _ _ _ ?_
  unfold canon_Code_Lengths.res
  rw [pEq_3s, pCond_false, pNil_v, pFieldAddr_v]
  refine o.bload h1 rfl ?_
  exact clone_spec (o.sl h2) (by omega) h
theorem revN_low (v k : Nat) : ∀ n, revN v (k + n) % 2 ^ n = revN (v / 2 ^ k) n
  | 0 => by rw [Nat.pow_zero, Nat.mod_one]; rfl
  | n + 1 => by
    have ih := revN_low v k n
    rw [← Nat.add_assoc, revN, revN, ← ih, Nat.div_div_eq_div_mul, ← Nat.pow_add, Nat.pow_succ]
    have h2 : v / 2 ^ (k + n) % 2 < 2 := Nat.mod_lt _ (by decide)
    generalize v / 2 ^ (k + n) % 2 = c at *
    generalize revN v (k + n) = x at *
    generalize 2 ^ n = P at *
    have e : (2 * x + c) % (2 * P) = c + 2 * (x % P) := by rw [Nat.mod_mul, show (2 * x + c) % 2 = c by omega, show (2 * x + c) / 2 = x by omega]
    rw [Nat.mul_comm P 2, e]
    omega
theorem revN_inj {a b : Nat} : ∀ {n : Nat}, revN a n = revN b n → a % 2 ^ n = b % 2 ^ n
  | 0, _ => by rw [Nat.pow_zero, Nat.mod_one, Nat.mod_one]
  | n + 1, h => by
    rw [revN, revN] at h
    have h1 : a / 2 ^ n % 2 < 2 := Nat.mod_lt _ (by decide)
    have h2 : b / 2 ^ n % 2 < 2 := Nat.mod_lt _ (by decide)
    have ih := revN_inj (a := a) (b := b) (n := n) (by omega)
    rw [Nat.mod_pow_succ, Nat.mod_pow_succ, ih]
    congr 2
    omega
theorem endC_pow {ls : List Nat} (h : shareL ls 15 ≤ 32768) {n : Nat} (hn : n ≤ 15) : endC ls n ≤ 2 ^ n := by
  have h15 := leftC_share ls
  rcases Int.lt_or_le (leftC ls n) 0 with g | g
  · have := leftC_neg ls g hn
    omega
  · unfold leftC at g
    omega
theorem code_pow {ls : List Nat} (h : shareL ls 15 ≤ 32768) (hle : ∀ k ∈ ls, k ≤ 15) {s : Nat} (hs : s < ls.length) (h1 : 1 ≤ ls.getD s 0) : codeL ls s < 2 ^ ls.getD s 0 := by
  have hg : ls.getD s 0 = ls[s] := by rw [List.getD_eq_getElem?_getD, List.getElem?_eq_getElem hs]; rfl
  exact Nat.lt_of_lt_of_le (code_lt hs h1) (endC_pow h (by rw [hg]; exact hle _ (List.getElem_mem hs)))
theorem word_apart {ls : List Nat} (h : shareL ls 15 ≤ 32768) (hle : ∀ k ∈ ls, k ≤ 15) {s t : Nat} (hs : s < ls.length) (ht : t < ls.length) (hne : s ≠ t) (h1 : 1 ≤ ls.getD s 0) (h2 : ls.getD s 0 ≤ ls.getD t 0) :
    revN (codeL ls s) (ls.getD s 0) ≠ revN (codeL ls t) (ls.getD t 0) % 2 ^ ls.getD s 0 := by
  intro he
  have hc := code_pow h hle hs h1
  have hd := code_pow h hle ht (by omega)
  have e : ls.getD t 0 = (ls.getD t 0 - ls.getD s 0) + ls.getD s 0 := by omega
  rw [e, revN_low] at he
  have he := revN_inj he
  rw [Nat.mod_eq_of_lt hc] at he
  have hq : codeL ls t / 2 ^ (ls.getD t 0 - ls.getD s 0) < 2 ^ ls.getD s 0 := by
    rw [Nat.div_lt_iff_lt_mul (Nat.two_pow_pos _), ← Nat.pow_add, Nat.add_comm, ← e]
    exact hd
  rw [Nat.mod_eq_of_lt hq] at he
  rcases Nat.lt_or_eq_of_le h2 with g | g
  · exact apart_longer hs ht h1 g he.symm
  · rw [g, Nat.sub_self, Nat.pow_zero, Nat.div_one] at he
    exact code_inj hs ht hne g he
theorem ok_le (hz : okZ zs) : ∀ k ∈ natL zs, k ≤ 15 := fun k hk => by
  obtain ⟨z, hz', rfl⟩ := List.mem_map.1 hk
  have := hz.2 z hz'
  omega
theorem why_share {loose : Bool} (hz : okZ zs) (h : whyL zs loose = 0) : shareL (natL zs) 15 ≤ 32768 := by
  rw [why_ok hz] at h
  split at h
  · cases h
  · omega
theorem wordP_in {ls : List Nat} {k : Nat} (h : k < ls.length) : wordP ls (k : Int) = (revN (codeL ls k) (ls.getD k 0), ls.getD k 0) := if_pos (by omega)
theorem getD_le {ls : List Nat} (hle : ∀ k ∈ ls, k ≤ 15) (k : Nat) : ls.getD k 0 ≤ 15 := by
  rcases Nat.lt_or_ge k ls.length with h | h
  · have hg : ls.getD k 0 = ls[k] := by rw [List.getD_eq_getElem?_getD, List.getElem?_eq_getElem h]; rfl
    rw [hg]; exact hle _ (List.getElem_mem h)
  · rw [List.getD_eq_getElem?_getD, List.getElem?_eq_none h]; exact Nat.zero_le _
end Go.Proofs.YtameljhbkedhjaaGreatDoor
namespace Go.Proofs.YtameljhbkedhjaaGreatDoor
open Go Go.Vc Go.Proofs
set_option linter.unusedVariables false
set_option linter.unusedSimpArgs false
variable {H : Heap} {R : Value → Heap → Prop} {v : Value} {zs : List Int}
theorem bitsN_snoc (v n : Nat) : bitsN v (n + 1) = bitsN v n ++ [v.testBit n] := by unfold bitsN; rw [List.range_succ, List.map_append]; rfl
theorem bitsN_rev (c : Nat) : ∀ n, bitsN (revN c n) n = (bitsN c n).reverse
  | 0 => rfl
  | n + 1 => by
    have h2 : c / 2 ^ n % 2 < 2 := Nat.mod_lt _ (by decide)
    rw [bitsN_snoc c, List.reverse_append, bitsN_cons, ← bitsN_rev c n, revN]
    have e1 : (2 * revN c n + c / 2 ^ n % 2) / 2 = revN c n := by omega
    have e2 : (2 * revN c n + c / 2 ^ n % 2).testBit 0 = c.testBit n := by
      rw [Nat.testBit_zero, Nat.testBit_eq_decide_div_mod_eq]
      congr 1
      have : (2 * revN c n + c / 2 ^ n % 2) % 2 = c / 2 ^ n % 2 := by omega
      rw [this]
    rw [e1, e2]
    rfl
def wordB (ls : List Nat) (s : Nat) : List Bool := bitsN (revN (codeL ls s) (ls.getD s 0)) (ls.getD s 0)
section
variable {α : Type} {f : Nat → α} {z : α} {ls : List Nat} {n x : Nat}
end
end Go.Proofs.YtameljhbkedhjaaGreatDoor
