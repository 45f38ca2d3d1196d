/- The residuals of package lz's functions, printed by resid.py. -/
import Derived.Test.YtfmbgnchedhneaaVcSeat
namespace Go.Proofs.Ytfmbgnchedhneaa
open Go Go.Vc Go.Proofs
set_option linter.unusedVariables false
set_option maxHeartbeats 4000000
def lz_Cut.an : Ann := (.seq (.reg (.op 0 [] (.op 1 [] (.op 2 [] .nil)))) (.seq (.seq (.reg (.op 0 [] (.op 1 [] (.op 2 [] (.grp 2 (.op 3 [] (.op 4 [] (.op 5 [] (.op 6 [] .nil)))) 7 .nil))))) (.cond (.seq (.reg (.op 0 [] (.op 1 [] (.op 2 [] .nil)))) .leaf) .leaf)) (.seq (.seq (.reg (.op 0 [] (.op 1 [] (.op 2 [] .nil)))) (.block (.loop [1, 22] [1, 4, 5, 6, 7, 8, 9, 10, 11, 22, 23, 24, 25, 26, 27, 28, 29, 30, 31, 32, 33, 34, 35, 36, 37, 38, 39, 40, 41, 42, 43, 44, 45, 46, 47, 48, 49, 50, 51, 52, 53, 54, 55, 56, 57, 58, 59, 60, 61, 62, 63, 64, 65, 66, 67, 68, 69, 70, 71, 72, 73, 74, 75] (.seq (.reg (.op 0 [] .nil)) (.seq (.cond .leaf .leaf) (.seq (.block (.seq (.reg (.op 0 [] (.op 1 [] (.op 2 [] (.op 3 [] (.op 4 [] (.op 5 [] .nil))))))) (.seq (.reg (.op 0 [] (.op 1 [] (.op 2 [] .nil)))) (.block (.seq (.reg (.op 0 [] (.op 1 [] (.op 2 [] .nil)))) (.cond (.seq (.drw [0, 0, 3, 7, 0, 0, 48, 127, 255, 511, 1023] (.op 0 [] (.op 1 [] (.op 2 [] (.op 4 [] (.op 5 [] (.op 6 [] (.op 3 [] (.op 7 [] (.op 8 [] (.op 9 [] (.op 10 [] .nil)))))))))))) .leaf) (.seq (.reg (.op 0 [] (.op 1 [] (.op 2 [] (.op 3 [] .nil))))) (.cond (.seq (.reg (.op 0 [] (.op 1 [] (.op 2 [] (.op 3 [] (.op 4 [] (.op 5 [] (.op 6 [] (.op 7 [] (.op 8 [] (.op 9 [] .nil))))))))))) (.seq (.seq (.reg (.op 0 [] (.op 1 [] (.op 2 [] (.op 3 [] (.grp 3 (.op 4 [] (.op 5 [] (.op 6 [] .nil))) 7 .nil)))))) (.cond (.seq (.reg (.op 0 [] (.op 1 [] (.op 2 [] .nil)))) .leaf) .leaf)) (.seq (.drw [0, 0, 3, 7, 0, 16, 63, 0, 128, 0, 0, 1024, 3584, 8191, 16383, 32767, 65535] (.op 0 [] (.op 1 [] (.op 2 [] (.op 4 [] (.op 7 [] (.op 9 [] (.op 10 [] (.op 11 [] (.op 12 [] (.fork (.op 3 [4, 7] (.fork (.op 5 [7] (.fork (.op 6 [7] (.op 8 [4] (.op 13 [] (.op 14 [] (.op 15 [] (.op 16 [] .nil)))))) (.op 8 [4] (.op 6 [7] (.op 13 [] (.op 14 [] (.op 15 [] (.op 16 [] .nil)))))))) (.op 8 [4] (.op 5 [7] (.op 6 [7] (.op 13 [] (.op 14 [] (.op 15 [] (.op 16 [] .nil))))))))) (.fork (.op 5 [7] (.fork (.op 3 [4, 7] (.fork (.op 6 [7] (.op 8 [4] (.op 13 [] (.op 14 [] (.op 15 [] (.op 16 [] .nil)))))) (.op 8 [4] (.op 6 [7] (.op 13 [] (.op 14 [] (.op 15 [] (.op 16 [] .nil)))))))) (.op 8 [4] (.op 3 [4, 7] (.op 6 [7] (.op 13 [] (.op 14 [] (.op 15 [] (.op 16 [] .nil))))))))) (.op 8 [4] (.fork (.op 3 [4, 7] (.op 5 [7] (.op 6 [7] (.op 13 [] (.op 14 [] (.op 15 [] (.op 16 [] .nil))))))) (.op 5 [7] (.op 3 [4, 7] (.op 6 [7] (.op 13 [] (.op 14 [] (.op 15 [] (.op 16 [] .nil))))))))))))))))))))) .leaf))) (.reg (.op 0 [] (.op 1 [] (.op 2 [] (.op 3 [] .nil))))))))))))) (.reg (.op 0 [] (.op 1 [] .nil))))))))) (.seq (.reg (.op 0 [] (.op 1 [] (.op 2 [] (.op 3 [] (.op 4 [] .nil)))))) .leaf))))
/-- lighter/lz.Cut -/
def lz_Cut.res (l0 : Value) (n1 : Value) (H0 : Heap) (R : Value → Heap → Prop) : Prop :=
 pLt n1 (.int .i64 0) fun x13 =>
 pOr x13 (fun J_1 =>
 CallsH Try.prog 7 #[l0] H0 fun x17 H_3 =>
 pGt n1 x17 fun x18 =>
 J_1 x18 H_3) H0 fun x19 H_2 => ∀ _ : Env,
 pCond x19
 (R (.tuple #[(.slice none 0 0), (.slice none 0 0), (.bool false)]) H_2)
 (pLen l0 fun x21 =>
 ∃ (I_4 : Value → Value → Heap → Prop) (m_5 : Value → Value → Heap → Nat), I_4 n1 (.int .i64 0) H_2 ∧
 ∀ _ : Env, ∀ n1' : Value, ∀ x22 : Value, ∀ H_6 : Heap, I_4 n1' x22 H_6 →
 pLt x22 x21 fun x23 =>
 pCond x23
 (pIdxSl 3 l0 x22 fun x25 =>
 pLoadN H_6 3 x25 fun x26 =>
 pBox H_6 26 (.agg #[(.int .u8 0), (.int .i64 0), (.int .i64 0)]) fun t8 H_7 =>
 pStoreN H_7 3 t8 x26 fun _ H_8 =>
 pLoadN H_8 3 t8 fun x27 =>
 CallsH Try.prog 11 #[x27] H_8 fun x28 H_9 =>
 pEq 0 n1' (.int .i64 0) fun x34 =>
 pCond x34
 (pSlSl 3 l0 none (some x22) fun x37 =>
 pSlSl 3 l0 (some x22) none fun x41 =>
 pAppend H_9 26 3 24 [(.int .u8 0), (.int .i64 0), (.int .i64 0)] (.slice none 0 0) x37 fun x38 H_10 =>
 pAppend H_10 26 3 24 [(.int .u8 0), (.int .i64 0), (.int .i64 0)] (.slice none 0 0) x41 fun x42 H_11 =>
 R (.tuple #[x38, x42, (.bool true)]) H_11)
 (pLt n1' x28 fun x46 =>
 pCond x46
 (pLoadN H_9 3 t8 fun x48 =>
 CallsH Try.prog 12 #[x48, n1'] H_9 fun x50 H_12 =>
 pExtract 0 x50 fun x51 =>
 pExtract 1 x50 fun x52 =>
 pBox H_12 26 (.agg #[(.int .u8 0), (.int .i64 0), (.int .i64 0)]) fun a10 H_13 =>
 pBox H_13 26 (.agg #[(.int .u8 0), (.int .i64 0), (.int .i64 0)]) fun b11 H_14 =>
 pStoreN H_14 3 a10 x51 fun _ H_15 =>
 pStoreN H_15 3 b11 x52 fun _ H_16 =>
 pLoadN H_16 3 a10 fun x53 =>
 CallsH Try.prog 13 #[x53] H_16 fun x54 H_17 =>
 pNot x54 fun x55 =>
 pOr x55 (fun J_18 =>
 pLoadN H_17 3 b11 fun x57 =>
 CallsH Try.prog 13 #[x57] H_17 fun x58 H_20 =>
 pNot x58 fun x59 =>
 J_18 x59 H_20) H_17 fun x60 H_19 => ∀ _ : Env,
 pCond x60
 (R (.tuple #[(.slice none 0 0), (.slice none 0 0), (.bool false)]) H_19)
 (pSlSl 3 l0 none (some x22) fun x63 =>
 pLoadN H_19 3 a10 fun x65 =>
 pLoadN H_19 3 b11 fun x68 =>
 pAdd x22 (.int .i64 1) fun x72 =>
 pSlSl 3 l0 (some x72) none fun x73 =>
 (pAppend H_19 26 3 24 [(.int .u8 0), (.int .i64 0), (.int .i64 0)] (.slice none 0 0) x63 fun x64 H_21 =>
 (pLoadN H_21 3 a10 fun r_ =>
 r_ = x65) ∧
 (pLoadN H_21 3 b11 fun r_ =>
 r_ = x68) ∧
 (pBuildSl H_21 26 1 [(.int .u8 0), (.int .i64 0), (.int .i64 0)] [(0, 3, x65)] fun x66 H_22 =>
 (pLoadN H_22 3 b11 fun r_ =>
 r_ = x68) ∧
 (pAppend H_22 26 3 24 [(.int .u8 0), (.int .i64 0), (.int .i64 0)] x64 x66 fun x67 H_23 =>
 (pLoadN H_23 3 b11 fun r_ =>
 r_ = x68) ∧
 pBuildSl H_23 26 1 [(.int .u8 0), (.int .i64 0), (.int .i64 0)] [(0, 3, x68)] fun x69 H_24 =>
 (pLoadN H_24 3 a10 fun r_ =>
 r_ = x65) ∧
 pAppend H_24 26 3 24 [(.int .u8 0), (.int .i64 0), (.int .i64 0)] x69 x73 fun x74 H_25 =>
 R (.tuple #[x67, x74, (.bool true)]) H_25) ∧
 (pBuildSl H_22 26 1 [(.int .u8 0), (.int .i64 0), (.int .i64 0)] [(0, 3, x68)] fun x69 H_26 =>
 (pLoadN H_26 3 a10 fun r_ =>
 r_ = x65) ∧
 pAppend H_26 26 3 24 [(.int .u8 0), (.int .i64 0), (.int .i64 0)] x64 x66 fun x67 H_27 =>
 (pLoadN H_27 3 b11 fun r_ =>
 r_ = x68) ∧
 pAppend H_27 26 3 24 [(.int .u8 0), (.int .i64 0), (.int .i64 0)] x69 x73 fun x74 H_28 =>
 R (.tuple #[x67, x74, (.bool true)]) H_28)) ∧
 (pBuildSl H_21 26 1 [(.int .u8 0), (.int .i64 0), (.int .i64 0)] [(0, 3, x68)] fun x69 H_29 =>
 (pLoadN H_29 3 a10 fun r_ =>
 r_ = x65) ∧
 pBuildSl H_29 26 1 [(.int .u8 0), (.int .i64 0), (.int .i64 0)] [(0, 3, x65)] fun x66 H_30 =>
 (pLoadN H_30 3 b11 fun r_ =>
 r_ = x68) ∧
 pAppend H_30 26 3 24 [(.int .u8 0), (.int .i64 0), (.int .i64 0)] x64 x66 fun x67 H_31 =>
 (pLoadN H_31 3 b11 fun r_ =>
 r_ = x68) ∧
 pAppend H_31 26 3 24 [(.int .u8 0), (.int .i64 0), (.int .i64 0)] x69 x73 fun x74 H_32 =>
 R (.tuple #[x67, x74, (.bool true)]) H_32)) ∧
 ((pBuildSl H_19 26 1 [(.int .u8 0), (.int .i64 0), (.int .i64 0)] [(0, 3, x65)] fun x66 H_33 =>
 (pLoadN H_33 3 b11 fun r_ =>
 r_ = x68) ∧
 (pAppend H_33 26 3 24 [(.int .u8 0), (.int .i64 0), (.int .i64 0)] (.slice none 0 0) x63 fun x64 H_34 =>
 (pLoadN H_34 3 a10 fun r_ =>
 r_ = x65) ∧
 (pLoadN H_34 3 b11 fun r_ =>
 r_ = x68) ∧
 (pAppend H_34 26 3 24 [(.int .u8 0), (.int .i64 0), (.int .i64 0)] x64 x66 fun x67 H_35 =>
 (pLoadN H_35 3 b11 fun r_ =>
 r_ = x68) ∧
 pBuildSl H_35 26 1 [(.int .u8 0), (.int .i64 0), (.int .i64 0)] [(0, 3, x68)] fun x69 H_36 =>
 (pLoadN H_36 3 a10 fun r_ =>
 r_ = x65) ∧
 pAppend H_36 26 3 24 [(.int .u8 0), (.int .i64 0), (.int .i64 0)] x69 x73 fun x74 H_37 =>
 R (.tuple #[x67, x74, (.bool true)]) H_37) ∧
 (pBuildSl H_34 26 1 [(.int .u8 0), (.int .i64 0), (.int .i64 0)] [(0, 3, x68)] fun x69 H_38 =>
 (pLoadN H_38 3 a10 fun r_ =>
 r_ = x65) ∧
 pAppend H_38 26 3 24 [(.int .u8 0), (.int .i64 0), (.int .i64 0)] x64 x66 fun x67 H_39 =>
 (pLoadN H_39 3 b11 fun r_ =>
 r_ = x68) ∧
 pAppend H_39 26 3 24 [(.int .u8 0), (.int .i64 0), (.int .i64 0)] x69 x73 fun x74 H_40 =>
 R (.tuple #[x67, x74, (.bool true)]) H_40)) ∧
 (pBuildSl H_33 26 1 [(.int .u8 0), (.int .i64 0), (.int .i64 0)] [(0, 3, x68)] fun x69 H_41 =>
 (pLoadN H_41 3 a10 fun r_ =>
 r_ = x65) ∧
 pAppend H_41 26 3 24 [(.int .u8 0), (.int .i64 0), (.int .i64 0)] (.slice none 0 0) x63 fun x64 H_42 =>
 (pLoadN H_42 3 a10 fun r_ =>
 r_ = x65) ∧
 (pLoadN H_42 3 b11 fun r_ =>
 r_ = x68) ∧
 pAppend H_42 26 3 24 [(.int .u8 0), (.int .i64 0), (.int .i64 0)] x64 x66 fun x67 H_43 =>
 (pLoadN H_43 3 b11 fun r_ =>
 r_ = x68) ∧
 pAppend H_43 26 3 24 [(.int .u8 0), (.int .i64 0), (.int .i64 0)] x69 x73 fun x74 H_44 =>
 R (.tuple #[x67, x74, (.bool true)]) H_44)) ∧
 (pBuildSl H_19 26 1 [(.int .u8 0), (.int .i64 0), (.int .i64 0)] [(0, 3, x68)] fun x69 H_45 =>
 (pLoadN H_45 3 a10 fun r_ =>
 r_ = x65) ∧
 (pAppend H_45 26 3 24 [(.int .u8 0), (.int .i64 0), (.int .i64 0)] (.slice none 0 0) x63 fun x64 H_46 =>
 (pLoadN H_46 3 a10 fun r_ =>
 r_ = x65) ∧
 (pLoadN H_46 3 b11 fun r_ =>
 r_ = x68) ∧
 pBuildSl H_46 26 1 [(.int .u8 0), (.int .i64 0), (.int .i64 0)] [(0, 3, x65)] fun x66 H_47 =>
 (pLoadN H_47 3 b11 fun r_ =>
 r_ = x68) ∧
 pAppend H_47 26 3 24 [(.int .u8 0), (.int .i64 0), (.int .i64 0)] x64 x66 fun x67 H_48 =>
 (pLoadN H_48 3 b11 fun r_ =>
 r_ = x68) ∧
 pAppend H_48 26 3 24 [(.int .u8 0), (.int .i64 0), (.int .i64 0)] x69 x73 fun x74 H_49 =>
 R (.tuple #[x67, x74, (.bool true)]) H_49) ∧
 (pBuildSl H_45 26 1 [(.int .u8 0), (.int .i64 0), (.int .i64 0)] [(0, 3, x65)] fun x66 H_50 =>
 (pLoadN H_50 3 b11 fun r_ =>
 r_ = x68) ∧
 pAppend H_50 26 3 24 [(.int .u8 0), (.int .i64 0), (.int .i64 0)] (.slice none 0 0) x63 fun x64 H_51 =>
 (pLoadN H_51 3 a10 fun r_ =>
 r_ = x65) ∧
 (pLoadN H_51 3 b11 fun r_ =>
 r_ = x68) ∧
 pAppend H_51 26 3 24 [(.int .u8 0), (.int .i64 0), (.int .i64 0)] x64 x66 fun x67 H_52 =>
 (pLoadN H_52 3 b11 fun r_ =>
 r_ = x68) ∧
 pAppend H_52 26 3 24 [(.int .u8 0), (.int .i64 0), (.int .i64 0)] x69 x73 fun x74 H_53 =>
 R (.tuple #[x67, x74, (.bool true)]) H_53)))))
 (pSub n1' x28 fun x31 =>
 pAdd x22 (.int .i64 1) fun x75 =>
 I_4 x31 x75 H_9 ∧ m_5 x31 x75 H_9 < m_5 n1' x22 H_6)))
 (pAppend H_6 26 3 24 [(.int .u8 0), (.int .i64 0), (.int .i64 0)] (.slice none 0 0) l0 fun x77 H_54 =>
 R (.tuple #[x77, (.slice none 0 0), (.bool true)]) H_54))
set_option maxRecDepth 100000 in
theorem lz_Cut.vc (l0 : Value) (n1 : Value) (H0 : Heap) (R : Value → Heap → Prop) (h : lz_Cut.res l0 n1 H0 R) : CallsH Try.prog 6 #[l0, n1] H0 R := by
  have e : vcFn Try.prog Try.C Try.f6 lz_Cut.an [l0, n1] H0 R = lz_Cut.res l0 n1 H0 R := by kernel_rfl
  exact vcFn_sound Try.callable Try.mixed Try.func6 (by kernel_rfl) (e.mpr h)

def lz_Cover.an : Ann := (.seq (.reg (.op 0 [] .nil)) (.seq (.reg (.op 0 [] .nil)) (.seq (.seq (.reg (.op 0 [] (.op 1 [] (.op 2 [] .nil)))) (.block (.loop [3, 8] [2, 3, 5, 8, 9, 10, 11, 12, 13, 14, 15, 16, 17, 18, 19] (.seq (.reg (.op 0 [] .nil)) (.seq (.cond .leaf .leaf) (.seq (.block (.seq (.reg (.op 0 [] (.op 1 [] (.op 2 [] (.op 3 [] .nil))))) (.seq (.seq (.reg (.op 0 [] (.op 1 [] (.op 2 [] .nil)))) (.cond (.seq (.reg (.op 0 [] .nil)) .leaf) .leaf)) (.reg (.op 0 [] (.op 1 [] (.op 2 [] (.op 3 [] (.op 4 [] .nil))))))))) (.reg (.op 0 [] (.op 1 [] .nil))))))))) (.seq (.reg (.op 0 [] (.op 1 [] .nil))) .leaf))))
/-- lighter/lz.Cover -/
def lz_Cover.res (l0 : Value) (H0 : Heap) (R : Value → Heap → Prop) : Prop :=
 pLen l0 fun x7 =>
 ∃ (I_1 : Value → Value → Heap → Prop) (m_2 : Value → Value → Heap → Nat), I_1 (.int .i64 0) (.int .i64 0) H0 ∧
 ∀ _ : Env, ∀ n3 : Value, ∀ x8 : Value, ∀ H_3 : Heap, I_1 n3 x8 H_3 →
 pLt x8 x7 fun x9 =>
 pCond x9
 (pIdxSl 3 l0 x8 fun x10 =>
 pLoadN H_3 3 x10 fun x11 =>
 pBox H_3 26 (.agg #[(.int .u8 0), (.int .i64 0), (.int .i64 0)]) fun t5 H_4 =>
 pStoreN H_4 3 t5 x11 fun _ H_5 =>
 pLoadN H_5 3 t5 fun x12 =>
 CallsH Try.prog 13 #[x12] H_5 fun x13 H_6 =>
 pNot x13 fun x14 =>
 pCond x14
 (R (.int .i64 (-1)) H_6)
 (pLoadN H_6 3 t5 fun x16 =>
 CallsH Try.prog 11 #[x16] H_6 fun x17 H_7 =>
 pAdd n3 x17 fun x18 =>
 pAdd x8 (.int .i64 1) fun x19 =>
 I_1 x18 x19 H_7 ∧ m_2 x18 x19 H_7 < m_2 n3 x8 H_3))
 (R n3 H_3)
set_option maxRecDepth 100000 in
theorem lz_Cover.vc (l0 : Value) (H0 : Heap) (R : Value → Heap → Prop) (h : lz_Cover.res l0 H0 R) : CallsH Try.prog 7 #[l0] H0 R := by
  have e : vcFn Try.prog Try.C Try.f7 lz_Cover.an [l0] H0 R = lz_Cover.res l0 H0 R := by kernel_rfl
  exact vcFn_sound Try.callable Try.mixed Try.func7 (by kernel_rfl) (e.mpr h)

def lz_Expand.an : Ann := (.seq (.reg (.op 0 [] (.op 1 [] .nil))) (.seq (.reg (.op 0 [] (.op 1 [] (.op 2 [] .nil)))) (.seq (.seq (.reg (.op 0 [] (.op 1 [] (.op 2 [] .nil)))) (.block (.loop [6, 13] [4, 5, 6, 8, 13, 14, 15, 16, 17, 18, 19, 20, 21, 22, 23, 24, 25, 26, 27, 28, 29, 30, 31, 32, 33, 34, 35, 36, 37, 38, 39, 40, 41, 42, 43, 44, 45, 46, 47, 48, 49, 50, 51, 52, 53] (.seq (.reg (.op 0 [] .nil)) (.seq (.cond .leaf .leaf) (.seq (.block (.seq (.reg (.op 0 [] (.op 1 [] (.op 2 [] (.op 3 [] .nil))))) (.cut [6] [4, 5, 6, 17, 18, 19, 20, 21, 22, 23, 24, 25, 26, 27, 28, 29, 30, 31, 32, 33, 34, 35, 36] (.block (.seq (.reg (.op 0 [] (.op 1 [] (.op 2 [] (.op 3 [] (.grp 3 (.op 4 [] (.op 5 [] (.op 6 [] (.op 7 [] (.op 8 [] .nil))))) 9 (.op 10 [] .nil))))))) (.cond (.seq (.reg (.op 0 [] (.op 1 [] .nil))) .leaf) (.seq (.reg (.op 0 [] (.op 1 [] (.op 2 [] (.op 3 [] .nil))))) (.cond (.reg (.op 0 [] (.op 1 [] (.op 2 [] (.op 3 [] (.op 4 [] (.op 5 [] .nil))))))) .leaf))))) (.seq (.reg (.op 0 [] (.op 1 [] (.op 2 [] .nil)))) (.block (.loop [6, 39] [6, 39, 40, 41, 42, 43, 44, 45, 46, 47, 48, 49, 50, 51, 52] (.seq (.reg (.op 0 [] .nil)) (.seq (.cond .leaf .leaf) (.seq (.block (.reg (.op 0 [] (.op 1 [] (.op 2 [] (.op 3 [] (.op 4 [] (.op 5 [] (.op 6 [] (.op 7 [] (.op 8 [] (.op 9 [] (.op 10 [] (.op 11 [] .nil)))))))))))))) (.reg (.op 0 [] (.op 1 [] .nil)))))))))))) (.reg (.op 0 [] (.op 1 [] .nil))))))))) (.seq (.reg (.op 0 [] (.op 1 [] (.op 2 [] (.op 3 [] (.op 4 [] (.op 5 [] (.op 6 [] .nil)))))))) .leaf))))
/-- lighter/lz.Expand -/
def lz_Expand.res (ahead0 : Value) (l1 : Value) (H0 : Heap) (R : Value → Heap → Prop) : Prop :=
 pBytes H0 5 ahead0 fun x10 H_1 =>
 pLen l1 fun x12 =>
 ∃ (I_2 : Value → Value → Heap → Prop) (m_3 : Value → Value → Heap → Nat), I_2 x10 (.int .i64 0) H_1 ∧
 ∀ _ : Env, ∀ b6 : Value, ∀ x13 : Value, ∀ H_4 : Heap, I_2 b6 x13 H_4 →
 pLt x13 x12 fun x14 =>
 pCond x14
 (pIdxSl 3 l1 x13 fun x15 =>
 pLoadN H_4 3 x15 fun x16 =>
 pBox H_4 26 (.agg #[(.int .u8 0), (.int .i64 0), (.int .i64 0)]) fun t8 H_5 =>
 pStoreN H_5 3 t8 x16 fun _ H_6 =>
 ∃ J_7 : Value → Heap → Prop, (∀ _ : Env, ∀ b6' : Value, ∀ H_8 : Heap, J_7 b6' H_8 →
 pFieldAddr 1 t8 fun x37 =>
 pLoad H_8 x37 fun x38 =>
 ∃ (I_9 : Value → Value → Heap → Prop) (m_10 : Value → Value → Heap → Nat), I_9 b6' (.int .i64 0) H_8 ∧
 ∀ _ : Env, ∀ b6'' : Value, ∀ x39 : Value, ∀ H_11 : Heap, I_9 b6'' x39 H_11 →
 pLt x39 x38 fun x40 =>
 pCond x40
 (pLen b6'' fun x44 =>
 pFieldAddr 2 t8 fun x45 =>
 pLoad H_11 x45 fun x46 =>
 pSub x44 x46 fun x47 =>
 pIdxSl 1 b6'' x47 fun x48 =>
 pLoad H_11 x48 fun x49 =>
 pBuildSl H_11 5 1 [(.int .u8 0)] [(0, 1, x49)] fun x50 H_12 =>
 pAppend H_12 5 1 1 [(.int .u8 0)] b6'' x50 fun x51 H_13 =>
 pAdd x39 (.int .i64 1) fun x52 =>
 I_9 x51 x52 H_13 ∧ m_10 x51 x52 H_13 < m_10 b6'' x39 H_11)
 (pAdd x13 (.int .i64 1) fun x53 =>
 I_2 b6'' x53 H_11 ∧ m_3 b6'' x53 H_11 < m_3 b6 x13 H_4)) ∧
 pLoadN H_6 3 t8 fun x18 =>
 CallsH Try.prog 13 #[x18] H_6 fun x19 H_14 =>
 pNot x19 fun x20 =>
 pOr x20 (fun J_15 =>
 pFieldAddr 2 t8 fun x22 =>
 pLoad H_14 x22 fun x23 =>
 pLen b6 fun x25 =>
 pGt x23 x25 fun x26 =>
 J_15 x26 H_14) H_14 fun x27 H_16 => ∀ _ : Env,
 pCond x27
 (R (.tuple #[(str []), (.bool false)]) H_16)
 (pFieldAddr 1 t8 fun x29 =>
 pLoad H_16 x29 fun x30 =>
 pEq 0 x30 (.int .i64 0) fun x31 =>
 pCond x31
 (pFieldAddr 0 t8 fun x33 =>
 pLoad H_16 x33 fun x34 =>
 pBuildSl H_16 5 1 [(.int .u8 0)] [(0, 1, x34)] fun x35 H_17 =>
 pAppend H_17 5 1 1 [(.int .u8 0)] b6 x35 fun x36 H_18 =>
 J_7 x36 H_18)
 (J_7 b6 H_16)))
 (pLenS ahead0 fun x56 =>
 pSlSl 1 b6 (some x56) none fun x57 =>
 pStrOf H_4 x57 fun x58 =>
 R (.tuple #[x58, (.bool true)]) H_4)
set_option maxRecDepth 100000 in
theorem lz_Expand.vc (ahead0 : Value) (l1 : Value) (H0 : Heap) (R : Value → Heap → Prop) (h : lz_Expand.res ahead0 l1 H0 R) : CallsH Try.prog 8 #[ahead0, l1] H0 R := by
  have e : vcFn Try.prog Try.C Try.f8 lz_Expand.an [ahead0, l1] H0 R = lz_Expand.res ahead0 l1 H0 R := by kernel_rfl
  exact vcFn_sound Try.callable Try.mixed Try.func8 (by kernel_rfl) (e.mpr h)

def lz_Length.an : Ann := (.seq (.reg (.op 0 [] .nil)) (.seq (.seq (.reg (.op 0 [] (.op 1 [] (.op 2 [] (.grp 2 (.op 3 [] (.op 4 [] .nil)) 5 .nil))))) (.cond (.seq (.reg (.op 0 [] (.op 1 [] .nil))) .leaf) .leaf)) (.seq (.reg (.op 0 [] (.op 1 [] (.op 2 [] .nil)))) .leaf)))
/-- lighter/lz.Length -/
def lz_Length.res (n0 : Value) (H0 : Heap) (R : Value → Heap → Prop) : Prop :=
 pBox H0 38 (.agg #[(.int .i64 0), (.int .i64 0), (.int .u64 0)]) fun x2 H_1 =>
 pLt n0 (.int .i64 3) fun x4 =>
 pOr x4 (fun J_2 =>
 pGt n0 (.int .i64 258) fun x7 =>
 J_2 x7 H_1) H_1 fun x8 H_3 => ∀ _ : Env,
 pCond x8
 (pBuild [(.int .i64 0), (.int .i64 0), (.int .u64 0)] [] fun x9 =>
 pStoreN H_3 3 x2 x9 fun _ H_4 =>
 pLoadN H_4 3 x2 fun r_5 =>
 R r_5 H_4)
 (CallsH Try.prog 14 #[n0, (.int .i64 257), (.int .i64 285), (.func (.func 15) #[] #[])] H_3 fun x11 H_6 =>
 pStoreN H_6 3 x2 x11 fun _ H_7 =>
 pLoadN H_7 3 x2 fun r_8 =>
 R r_8 H_7)
set_option maxRecDepth 100000 in
theorem lz_Length.vc (n0 : Value) (H0 : Heap) (R : Value → Heap → Prop) (h : lz_Length.res n0 H0 R) : CallsH Try.prog 9 #[n0] H0 R := by
  have e : vcFn Try.prog Try.C Try.f9 lz_Length.an [n0] H0 R = lz_Length.res n0 H0 R := by kernel_rfl
  exact vcFn_sound Try.callable Try.mixed Try.func9 (by kernel_rfl) (e.mpr h)

def lz_Dist.an : Ann := (.seq (.reg (.op 0 [] .nil)) (.seq (.seq (.reg (.op 0 [] (.op 1 [] (.op 2 [] (.grp 2 (.op 3 [] (.op 4 [] .nil)) 5 .nil))))) (.cond (.seq (.reg (.op 0 [] (.op 1 [] .nil))) .leaf) .leaf)) (.seq (.reg (.op 0 [] (.op 1 [] (.op 2 [] .nil)))) .leaf)))
/-- lighter/lz.Dist -/
def lz_Dist.res (n0 : Value) (H0 : Heap) (R : Value → Heap → Prop) : Prop :=
 pBox H0 38 (.agg #[(.int .i64 0), (.int .i64 0), (.int .u64 0)]) fun x2 H_1 =>
 pLt n0 (.int .i64 1) fun x4 =>
 pOr x4 (fun J_2 =>
 pGt n0 (.int .i64 32768) fun x7 =>
 J_2 x7 H_1) H_1 fun x8 H_3 => ∀ _ : Env,
 pCond x8
 (pBuild [(.int .i64 0), (.int .i64 0), (.int .u64 0)] [] fun x9 =>
 pStoreN H_3 3 x2 x9 fun _ H_4 =>
 pLoadN H_4 3 x2 fun r_5 =>
 R r_5 H_4)
 (CallsH Try.prog 14 #[n0, (.int .i64 0), (.int .i64 29), (.func (.func 16) #[] #[])] H_3 fun x11 H_6 =>
 pStoreN H_6 3 x2 x11 fun _ H_7 =>
 pLoadN H_7 3 x2 fun r_8 =>
 R r_8 H_7)
set_option maxRecDepth 100000 in
theorem lz_Dist.vc (n0 : Value) (H0 : Heap) (R : Value → Heap → Prop) (h : lz_Dist.res n0 H0 R) : CallsH Try.prog 10 #[n0] H0 R := by
  have e : vcFn Try.prog Try.C Try.f10 lz_Dist.an [n0] H0 R = lz_Dist.res n0 H0 R := by kernel_rfl
  exact vcFn_sound Try.callable Try.mixed Try.func10 (by kernel_rfl) (e.mpr h)

def lz_Token_size.an : Ann := (.seq (.reg (.op 0 [] (.op 1 [] .nil))) (.seq (.reg (.op 0 [] (.op 1 [] (.op 2 [] (.op 3 [] .nil))))) .leaf))
/-- (lighter/lz.Token).size -/
def lz_Token_size.res (t0 : Value) (H0 : Heap) (R : Value → Heap → Prop) : Prop :=
 pBox H0 26 t0 fun t1 H_1 =>
 pFieldAddr 1 t1 fun x3 =>
 pLoad H_1 x3 fun x4 =>
 pMax x4 (.int .i64 1) fun x5 =>
 R x5 H_1
set_option maxRecDepth 100000 in
theorem lz_Token_size.vc (t0 : Value) (H0 : Heap) (R : Value → Heap → Prop) (h : lz_Token_size.res t0 H0 R) : CallsH Try.prog 11 #[t0] H0 R := by
  have e : vcFn Try.prog Try.C Try.f11 lz_Token_size.an [t0] H0 R = lz_Token_size.res t0 H0 R := by kernel_rfl
  exact vcFn_sound Try.callable Try.mixed Try.func11 (by kernel_rfl) (e.mpr h)

def lz_Token_split.an : Ann := (.seq (.reg (.op 0 [] (.op 1 [] (.op 2 [] .nil)))) (.seq (.drw [0, 0, 2, 7, 0, 16, 0, 112, 0, 256, 1008, 15, 4095] (.op 0 [] (.op 1 [] (.op 2 [] (.op 3 [] (.op 4 [] (.op 5 [] (.op 6 [] (.op 7 [] (.op 8 [] (.op 9 [] (.op 10 [] (.op 11 [5, 9] (.op 12 [] .nil)))))))))))))) .leaf))
/-- (lighter/lz.Token).split -/
def lz_Token_split.res (t0 : Value) (n1 : Value) (H0 : Heap) (R : Value → Heap → Prop) : Prop :=
 pBox H0 26 t0 fun t2 H_1 =>
 pBox H_1 26 (.agg #[(.int .u8 0), (.int .i64 0), (.int .i64 0)]) fun x4 H_2 =>
 pBox H_2 26 (.agg #[(.int .u8 0), (.int .i64 0), (.int .i64 0)]) fun x5 H_3 =>
 pFieldAddr 2 t2 fun x7 =>
 pLoad H_3 x7 fun x8 =>
 pBuild [(.int .u8 0), (.int .i64 0), (.int .i64 0)] [(1, 1, n1), (2, 1, x8)] fun x9 =>
 pFieldAddr 1 t2 fun x10 =>
 pLoad H_3 x10 fun x11 =>
 pSub x11 n1 fun x13 =>
 pFieldAddr 2 t2 fun x14 =>
 pLoad H_3 x14 fun x15 =>
 pBuild [(.int .u8 0), (.int .i64 0), (.int .i64 0)] [(1, 1, x13), (2, 1, x15)] fun x16 =>
 pStoreN H_3 3 x4 x9 fun _ H_4 =>
 (pLoad H_4 x10 fun r_ =>
 r_ = x11) ∧
 (pLoad H_4 x14 fun r_ =>
 r_ = x15) ∧
 pStoreN H_4 3 x5 x16 fun _ H_5 =>
 pLoadN H_5 3 x4 fun r_6 =>
 pLoadN H_5 3 x5 fun r_7 =>
 R (.tuple #[r_6, r_7]) H_5
set_option maxRecDepth 100000 in
theorem lz_Token_split.vc (t0 : Value) (n1 : Value) (H0 : Heap) (R : Value → Heap → Prop) (h : lz_Token_split.res t0 n1 H0 R) : CallsH Try.prog 12 #[t0, n1] H0 R := by
  have e : vcFn Try.prog Try.C Try.f12 lz_Token_split.an [t0, n1] H0 R = lz_Token_split.res t0 n1 H0 R := by kernel_rfl
  exact vcFn_sound Try.callable Try.mixed Try.func12 (by kernel_rfl) (e.mpr h)

def lz_Token_Good.an : Ann := (.seq (.reg (.op 0 [] (.op 1 [] .nil))) (.seq (.seq (.reg (.op 0 [] (.op 1 [] (.op 2 [] .nil)))) (.cond (.seq (.reg (.op 0 [] (.op 1 [] (.op 2 [] (.op 3 [] .nil))))) .leaf) .leaf)) (.seq (.reg (.op 0 [] (.op 1 [] (.op 2 [] (.op 3 [] (.grp 3 (.op 4 [] (.op 5 [] (.op 6 [] .nil))) 7 (.op 8 [] (.grp 8 (.op 9 [] (.op 10 [] (.op 11 [] .nil))) 12 (.op 13 [] (.grp 13 (.op 14 [] (.op 15 [] (.op 16 [] .nil))) 17 (.op 18 [] (.grp 18 (.op 19 [] (.op 20 [] (.op 21 [] .nil))) 22 (.op 23 [] .nil))))))))))))) .leaf)))
/-- (lighter/lz.Token).Good -/
def lz_Token_Good.res (t0 : Value) (H0 : Heap) (R : Value → Heap → Prop) : Prop :=
 pBox H0 26 t0 fun t1 H_1 =>
 pFieldAddr 1 t1 fun x3 =>
 pLoad H_1 x3 fun x4 =>
 pEq 0 x4 (.int .i64 0) fun x5 =>
 pCond x5
 (pFieldAddr 2 t1 fun x6 =>
 pLoad H_1 x6 fun x7 =>
 pEq 0 x7 (.int .i64 0) fun x8 =>
 R x8 H_1)
 (pFieldAddr 0 t1 fun x9 =>
 pLoad H_1 x9 fun x10 =>
 pEq 0 x10 (.int .u8 0) fun x11 =>
 pAnd x11 (fun J_2 =>
 pFieldAddr 1 t1 fun x13 =>
 pLoad H_1 x13 fun x14 =>
 pGe x14 (.int .i64 3) fun x15 =>
 J_2 x15 H_1) H_1 fun x16 H_3 => ∀ _ : Env,
 pAnd x16 (fun J_4 =>
 pFieldAddr 1 t1 fun x18 =>
 pLoad H_3 x18 fun x19 =>
 pLe x19 (.int .i64 258) fun x20 =>
 J_4 x20 H_3) H_3 fun x21 H_5 => ∀ _ : Env,
 pAnd x21 (fun J_6 =>
 pFieldAddr 2 t1 fun x23 =>
 pLoad H_5 x23 fun x24 =>
 pGe x24 (.int .i64 1) fun x25 =>
 J_6 x25 H_5) H_5 fun x26 H_7 => ∀ _ : Env,
 pAnd x26 (fun J_8 =>
 pFieldAddr 2 t1 fun x28 =>
 pLoad H_7 x28 fun x29 =>
 pLe x29 (.int .i64 32768) fun x30 =>
 J_8 x30 H_7) H_7 fun x31 H_9 => ∀ _ : Env,
 R x31 H_9)
set_option maxRecDepth 100000 in
theorem lz_Token_Good.vc (t0 : Value) (H0 : Heap) (R : Value → Heap → Prop) (h : lz_Token_Good.res t0 H0 R) : CallsH Try.prog 13 #[t0] H0 R := by
  have e : vcFn Try.prog Try.C Try.f13 lz_Token_Good.an [t0] H0 R = lz_Token_Good.res t0 H0 R := by kernel_rfl
  exact vcFn_sound Try.callable Try.mixed Try.func13 (by kernel_rfl) (e.mpr h)

def lz_find.an : Ann := (.seq (.reg (.op 0 [] .nil)) (.seq (.seq (.reg (.op 0 [] (.op 1 [] .nil))) (.block (.loop [9] [9, 10, 11, 12, 17, 18, 19, 20, 21, 22, 23, 24, 25, 26, 27, 28, 29, 30, 31, 32, 33, 34, 35, 36, 37, 38] (.seq (.seq (.reg (.op 0 [] (.op 1 [] (.op 2 [] .nil)))) (.cond .leaf .leaf)) (.seq (.block (.seq (.reg (.op 0 [] (.op 1 [] (.op 2 [] (.op 3 [] (.op 4 [] (.op 5 [] (.op 6 [] (.op 7 [] (.op 8 [] (.op 9 [] .nil))))))))))) (.seq (.reg (.op 0 [] (.op 1 [] (.op 2 [] .nil)))) (.cond (.seq (.reg (.op 0 [] (.op 1 [] (.op 2 [] (.op 3 [] (.op 4 [] (.op 5 [] (.op 6 [] (.op 7 [] .nil))))))))) .leaf) .leaf)))) (.reg (.op 0 [] (.op 1 [] (.op 2 [] .nil))))))))) (.seq (.reg (.op 0 [] (.op 1 [] (.op 2 [] (.op 3 [] (.op 4 [] (.op 5 [] (.op 6 [] (.op 7 [] (.op 8 [] (.op 9 [] .nil))))))))))) (.seq (.reg (.op 0 [] (.op 1 [] (.op 2 [] (.op 3 [] (.op 4 [] (.op 5 [] (.op 6 [] (.op 7 [] .nil))))))))) .leaf))))
/-- lighter/lz.find -/
def lz_find.res (n0 : Value) (first1 : Value) (last2 : Value) (of3 : Value) (H0 : Heap) (R : Value → Heap → Prop) : Prop :=
 pBox H0 38 (.agg #[(.int .i64 0), (.int .i64 0), (.int .u64 0)]) fun x8 H_1 =>
 ∃ (I_2 : Value → Heap → Prop) (m_3 : Value → Heap → Nat), I_2 last2 H_1 ∧
 ∀ _ : Env, ∀ s9 : Value, ∀ H_4 : Heap, I_2 s9 H_4 →
 pGt s9 first1 fun x19 =>
 pCond x19
 (callH Try.prog Try.C of3 [s9] H_4 fun x25 H_5 =>
 pExtract 0 x25 fun x26 =>
 pExtract 1 x25 fun x27 =>
 pExtract 2 x25 fun x28 =>
 pLe x26 n0 fun x31 =>
 pCond x31
 (pSub n0 x26 fun x36 =>
 pConv .u64 x36 fun x37 =>
 pBuild [(.int .i64 0), (.int .i64 0), (.int .u64 0)] [(0, 1, s9), (1, 1, x27), (2, 1, x37)] fun x38 =>
 pStoreN H_5 3 x8 x38 fun _ H_6 =>
 pLoadN H_6 3 x8 fun r_7 =>
 R r_7 H_6)
 (pSub s9 (.int .i64 1) fun x21 =>
 I_2 x21 H_5 ∧ m_3 x21 H_5 < m_3 s9 H_4))
 (callH Try.prog Try.C of3 [first1] H_4 fun x42 H_8 =>
 pExtract 0 x42 fun x43 =>
 pExtract 1 x42 fun x44 =>
 pExtract 2 x42 fun x45 =>
 pSub n0 x43 fun x50 =>
 pConv .u64 x50 fun x51 =>
 pBuild [(.int .i64 0), (.int .i64 0), (.int .u64 0)] [(0, 1, first1), (1, 1, x44), (2, 1, x51)] fun x52 =>
 pStoreN H_8 3 x8 x52 fun _ H_9 =>
 pLoadN H_9 3 x8 fun r_10 =>
 R r_10 H_9)
set_option maxRecDepth 100000 in
theorem lz_find.vc (n0 : Value) (first1 : Value) (last2 : Value) (of3 : Value) (H0 : Heap) (R : Value → Heap → Prop) (h : lz_find.res n0 first1 last2 of3 H0 R) : CallsH Try.prog 14 #[n0, first1, last2, of3] H0 R := by
  have e : vcFn Try.prog Try.C Try.f14 lz_find.an [n0, first1, last2, of3] H0 R = lz_find.res n0 first1 last2 of3 H0 R := by kernel_rfl
  exact vcFn_sound Try.callable Try.mixed Try.func14 (by kernel_rfl) (e.mpr h)

def lz_LengthOf.an : Ann := (.seq (.reg (.op 0 [] (.op 1 [] (.op 2 [] .nil)))) (.seq (.block (.seq (.reg (.op 0 [] (.op 1 [] (.op 2 [] (.grp 2 (.op 3 [] (.op 4 [] .nil)) 5 (.op 6 [] .nil)))))) (.cond (.seq (.reg (.op 0 [] (.op 1 [] (.op 2 [] .nil)))) .leaf) (.seq (.reg (.op 0 [] (.op 1 [] (.op 2 [] .nil)))) (.cond (.seq (.reg (.op 0 [] (.op 1 [] (.op 2 [] .nil)))) .leaf) .leaf))))) (.seq (.reg (.op 0 [] (.op 1 [] (.op 2 [] (.op 3 [] (.op 4 [] (.op 5 [] (.op 6 [] (.op 7 [] .nil))))))))) (.seq (.reg (.op 0 [] (.op 1 [] (.op 2 [] (.op 3 [] (.op 4 [] .nil)))))) .leaf))))
/-- lighter/lz.LengthOf -/
def lz_LengthOf.res (symbol0 : Value) (H0 : Heap) (R : Value → Heap → Prop) : Prop :=
 pLt symbol0 (.int .i64 257) fun x9 =>
 pOr x9 (fun J_1 =>
 pGt symbol0 (.int .i64 285) fun x12 =>
 J_1 x12 H0) H0 fun x13 H_2 => ∀ _ : Env,
 pCond x13
 (R (.tuple #[(.int .i64 0), (.int .i64 0), (.bool false)]) H_2)
 (pEq 0 symbol0 (.int .i64 285) fun x16 =>
 pCond x16
 (R (.tuple #[(.int .i64 258), (.int .i64 0), (.bool true)]) H_2)
 (pSub symbol0 (.int .i64 257) fun x19 =>
 CallsH Try.prog 17 #[x19, (.int .i64 3), (.int .i64 8), (.int .i64 4)] H_2 fun x20 H_3 =>
 pExtract 0 x20 fun x21 =>
 pExtract 1 x20 fun x22 =>
 R (.tuple #[x21, x22, (.bool true)]) H_3))
set_option maxRecDepth 100000 in
theorem lz_LengthOf.vc (symbol0 : Value) (H0 : Heap) (R : Value → Heap → Prop) (h : lz_LengthOf.res symbol0 H0 R) : CallsH Try.prog 15 #[symbol0] H0 R := by
  have e : vcFn Try.prog Try.C Try.f15 lz_LengthOf.an [symbol0] H0 R = lz_LengthOf.res symbol0 H0 R := by kernel_rfl
  exact vcFn_sound Try.callable Try.mixed Try.func15 (by kernel_rfl) (e.mpr h)

def lz_DistOf.an : Ann := (.seq (.reg (.op 0 [] (.op 1 [] (.op 2 [] .nil)))) (.seq (.seq (.reg (.op 0 [] (.op 1 [] (.op 2 [] (.grp 2 (.op 3 [] (.op 4 [] .nil)) 5 .nil))))) (.cond (.seq (.reg (.op 0 [] (.op 1 [] (.op 2 [] .nil)))) .leaf) .leaf)) (.seq (.reg (.op 0 [] (.op 1 [] (.op 2 [] (.op 3 [] (.op 4 [] (.op 5 [] (.op 6 [] .nil)))))))) (.seq (.reg (.op 0 [] (.op 1 [] (.op 2 [] (.op 3 [] (.op 4 [] .nil)))))) .leaf))))
/-- lighter/lz.DistOf -/
def lz_DistOf.res (symbol0 : Value) (H0 : Heap) (R : Value → Heap → Prop) : Prop :=
 pLt symbol0 (.int .i64 0) fun x8 =>
 pOr x8 (fun J_1 =>
 pGt symbol0 (.int .i64 29) fun x11 =>
 J_1 x11 H0) H0 fun x12 H_2 => ∀ _ : Env,
 pCond x12
 (R (.tuple #[(.int .i64 0), (.int .i64 0), (.bool false)]) H_2)
 (CallsH Try.prog 17 #[symbol0, (.int .i64 1), (.int .i64 4), (.int .i64 2)] H_2 fun x15 H_3 =>
 pExtract 0 x15 fun x16 =>
 pExtract 1 x15 fun x17 =>
 R (.tuple #[x16, x17, (.bool true)]) H_3)
set_option maxRecDepth 100000 in
theorem lz_DistOf.vc (symbol0 : Value) (H0 : Heap) (R : Value → Heap → Prop) (h : lz_DistOf.res symbol0 H0 R) : CallsH Try.prog 16 #[symbol0] H0 R := by
  have e : vcFn Try.prog Try.C Try.f16 lz_DistOf.an [symbol0] H0 R = lz_DistOf.res symbol0 H0 R := by kernel_rfl
  exact vcFn_sound Try.callable Try.mixed Try.func16 (by kernel_rfl) (e.mpr h)

def lz_steps.an : Ann := (.seq (.reg (.op 0 [] (.op 1 [] .nil))) (.seq (.seq (.reg (.op 0 [] (.op 1 [] (.op 2 [] .nil)))) (.cond (.seq (.reg (.op 0 [] (.op 1 [] (.op 2 [] (.op 3 [] (.op 4 [] .nil)))))) .leaf) .leaf)) (.seq (.reg (.op 0 [] (.op 1 [] (.op 2 [] (.op 3 [] .nil))))) (.seq (.reg (.op 0 [] .nil)) (.seq (.seq (.reg (.op 0 [] (.op 1 [] (.op 2 [] (.op 3 [] .nil))))) (.block (.loop [0, 10, 11] [0, 10, 11, 24, 25, 26, 27, 28, 29, 30, 31, 32, 33, 34, 35, 36] (.seq (.seq (.reg (.op 0 [] (.op 1 [] (.op 2 [] .nil)))) (.cond .leaf .leaf)) (.seq (.block (.seq (.reg (.op 0 [] (.op 1 [] (.op 2 [] (.op 3 [] (.op 4 [] (.op 5 [] .nil))))))) (.reg (.op 0 [] (.op 1 [] (.op 2 [] .nil)))))) (.reg (.op 0 [] (.op 1 [] (.op 2 [] (.op 3 [] .nil)))))))))) (.seq (.reg (.op 0 [] (.op 1 [] (.op 2 [] (.op 3 [] (.op 4 [] (.op 5 [] (.op 6 [] (.op 7 [] .nil))))))))) .leaf))))))
/-- lighter/lz.steps -/
def lz_steps.res (k0 : Value) (least1 : Value) (free2 : Value) (step3 : Value) (H0 : Heap) (R : Value → Heap → Prop) : Prop :=
 pLt k0 free2 fun x14 =>
 pCond x14
 (pAdd least1 k0 fun x17 =>
 R (.tuple #[x17, (.int .i64 0)]) H0)
 (pAdd least1 free2 fun x20 =>
 pSub k0 free2 fun x23 =>
 ∃ (I_1 : Value → Value → Value → Heap → Prop) (m_2 : Value → Value → Value → Heap → Nat), I_1 x23 x20 (.int .i64 1) H0 ∧
 ∀ _ : Env, ∀ k0' : Value, ∀ at10 : Value, ∀ e11 : Value, ∀ H_3 : Heap, I_1 k0' at10 e11 H_3 →
 pGe k0' step3 fun x26 =>
 pCond x26
 (pShl step3 e11 fun x33 =>
 pAdd at10 x33 fun x34 =>
 pAdd e11 (.int .i64 1) fun x36 =>
 pSub k0' step3 fun x29 =>
 I_1 x29 x34 x36 H_3 ∧ m_2 x29 x34 x36 H_3 < m_2 k0' at10 e11 H_3)
 (pShl k0' e11 fun x40 =>
 pAdd at10 x40 fun x41 =>
 R (.tuple #[x41, e11]) H_3))
set_option maxRecDepth 100000 in
theorem lz_steps.vc (k0 : Value) (least1 : Value) (free2 : Value) (step3 : Value) (H0 : Heap) (R : Value → Heap → Prop) (h : lz_steps.res k0 least1 free2 step3 H0 R) : CallsH Try.prog 17 #[k0, least1, free2, step3] H0 R := by
  have e : vcFn Try.prog Try.C Try.f17 lz_steps.an [k0, least1, free2, step3] H0 R = lz_steps.res k0 least1 free2 step3 H0 R := by kernel_rfl
  exact vcFn_sound Try.callable Try.mixed Try.func17 (by kernel_rfl) (e.mpr h)

end Go.Proofs.Ytfmbgnchedhneaa
