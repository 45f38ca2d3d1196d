/- The residuals of package lighterlaw26's functions, printed by resid.py. -/
import Derived.Test.YtelldphojhmhfaaVcSeat
namespace Go.Proofs.Ytelldphojhmhfaa
open Go Go.Vc Go.Proofs
set_option linter.unusedVariables false
set_option maxHeartbeats 4000000
def lighterlaw26_LinkTurns.an : Ann := (.seq (.reg (.op 0 [] .nil)) (.seq (.seq (.reg (.op 0 [] (.op 1 [] .nil))) (.cond (.seq (.reg (.op 0 [] .nil)) .leaf) .leaf)) (.seq (.reg (.op 0 [] (.op 1 [] (.op 2 [] .nil)))) (.seq (.reg (.op 0 [] (.op 1 [] .nil))) (.seq (.reg (.op 0 [] (.op 1 [] (.op 2 [] (.op 3 [] (.op 4 [] (.op 5 [] .nil))))))) (.seq (.seq (.reg (.op 0 [] .nil)) (.block (.loop [6] [6, 21, 22, 23, 24, 25, 26, 27, 28, 29, 30, 31, 32, 33, 34, 35, 36, 37, 38, 39, 40, 41, 42, 43, 44] (.seq (.seq (.reg (.op 0 [] (.op 1 [] (.op 2 [] (.op 3 [] .nil))))) (.cond .leaf .leaf)) (.seq (.block (.seq (.drw [0, 0, 0, 0, 12, 28, 0, 0, 192, 448, 960, 1984, 4092, 8191] (.op 0 [] (.op 1 [] (.op 2 [] (.op 3 [] (.op 4 [] (.op 5 [] (.op 6 [] (.op 7 [] (.op 8 [] (.op 9 [] (.op 10 [] (.op 11 [] (.op 12 [] (.op 13 [] .nil))))))))))))))) (.reg (.op 0 [] (.op 1 [] (.op 2 [] (.op 3 [] .nil))))))) (.reg (.op 0 [] (.op 1 [] (.op 2 [] .nil))))))))) (.seq (.seq (.reg (.op 0 [] .nil)) (.block (.loop [7] [4, 7, 45, 46, 47, 48, 49, 50, 51, 52, 53, 54] (.seq (.seq (.reg (.op 0 [] (.op 1 [] (.op 2 [] (.op 3 [] .nil))))) (.cond .leaf .leaf)) (.seq (.block (.seq (.reg (.op 0 [] (.op 1 [] (.op 2 [] (.op 3 [] .nil))))) (.cond (.seq (.reg (.op 0 [] .nil)) .leaf) .leaf))) (.reg (.op 0 [] (.op 1 [] (.op 2 [] .nil))))))))) (.seq (.seq (.reg (.op 0 [] .nil)) (.block (.loop [8] [4, 8, 9, 10, 55, 56, 57, 58, 59, 60, 61, 62, 63, 64, 65, 66, 67, 68, 69, 70, 71, 72, 73, 74, 75, 76, 77, 78, 79, 80, 81, 82, 83] (.seq (.seq (.reg (.op 0 [] (.op 1 [] (.op 2 [] (.op 3 [] .nil))))) (.cond .leaf .leaf)) (.seq (.block (.seq (.reg (.op 0 [] (.op 1 [] (.op 2 [] (.op 3 [] (.op 4 [] (.op 5 [] (.op 6 [] (.op 7 [] .nil))))))))) (.seq (.drw [0, 1, 3, 7, 7, 7, 55, 119, 7, 7, 775, 1799, 3847, 7943, 16375, 32767, 65535] (.op 0 [] (.op 1 [] (.op 2 [] (.grp 2 (.op 3 [] (.op 4 [] (.op 5 [] (.op 6 [] (.op 7 [] (.op 8 [] (.op 9 [] (.op 10 [] (.op 11 [] (.op 12 [] (.op 13 [] (.op 14 [] (.op 15 [] .nil))))))))))))) 16 .nil))))) (.cond (.seq (.reg (.op 0 [] .nil)) .leaf) .leaf)))) (.reg (.op 0 [] (.op 1 [] (.op 2 [] .nil))))))))) (.seq (.reg (.op 0 [] (.op 1 [] (.op 2 [] (.op 3 [] (.op 4 [] (.grp 4 (.op 5 [] (.op 6 [] (.op 7 [] (.op 8 [] (.op 9 [] (.op 10 [] (.op 11 [] .nil))))))) 12 (.op 13 [] (.grp 13 (.op 14 [] (.op 15 [] (.op 16 [] (.op 17 [] .nil)))) 18 (.op 19 [] .nil)))))))))) .leaf)))))))))
/-- lighter/lighterlaw26.LinkTurns -/
def lighterlaw26_LinkTurns.res (l0 : Value) (way1 : Value) (H0 : Heap) (R : Value → Heap → Prop) : Prop :=
 CallsH Try.prog 7 #[] H0 fun x11 H_1 =>
 pNot x11 fun x12 =>
 pCond x12
 (R (.bool false) H_1)
 (pBits .and way1 (.int .i64 1) fun x14 =>
 CallsH Try.prog 8 #[] H_1 fun x15 H_2 =>
 pLen l0 fun x18 =>
 pMin x18 (.int .i64 60) fun x19 =>
 pSlSl 1 l0 none (some x19) fun x20 =>
 ∃ (I_3 : Value → Heap → Prop) (m_4 : Value → Heap → Nat), I_3 (.int .i64 0) H_2 ∧
 ∀ _ : Env, ∀ i6 : Value, ∀ H_5 : Heap, I_3 i6 H_5 →
 pLen x20 fun x23 =>
 pLt i6 x23 fun x24 =>
 pCond x24
 (pIdxSl 1 x20 i6 fun x31 =>
 pLoad H_5 x31 fun x32 =>
 pIdxSl 1 x20 i6 fun x35 =>
 pLoad H_5 x35 fun x36 =>
 pLenS x36 fun x37 =>
 pMin x37 (.int .i64 20) fun x38 =>
 pSlStr x32 none (some x38) fun x39 =>
 CallsH Try.prog 9 #[x15, x14, x39] H_5 fun x40 H_6 =>
 pSub (.int .i64 1) x14 fun x43 =>
 CallsH Try.prog 9 #[x15, x43, (str [111, 116, 104, 101, 114])] H_6 fun x44 H_7 =>
 pAdd i6 (.int .i64 1) fun x26 =>
 I_3 x26 H_7 ∧ m_4 x26 H_7 < m_4 i6 H_5)
 (∃ (I_8 : Value → Heap → Prop) (m_9 : Value → Heap → Nat), I_8 (.int .i64 0) H_5 ∧
 ∀ _ : Env, ∀ i7 : Value, ∀ H_10 : Heap, I_8 i7 H_10 →
 pLen x20 fun x47 =>
 pLt i7 x47 fun x48 =>
 pCond x48
 (CallsH Try.prog 10 #[x15, x14] H_10 fun x53 H_11 =>
 pNot x53 fun x54 =>
 pCond x54
 (R (.bool false) H_11)
 (pAdd i7 (.int .i64 1) fun x50 =>
 I_8 x50 H_11 ∧ m_9 x50 H_11 < m_9 i7 H_10))
 (∃ (I_12 : Value → Heap → Prop) (m_13 : Value → Heap → Nat), I_12 (.int .i64 0) H_10 ∧
 ∀ _ : Env, ∀ i8 : Value, ∀ H_14 : Heap, I_12 i8 H_14 →
 pLen x20 fun x57 =>
 pLt i8 x57 fun x58 =>
 pCond x58
 (CallsH Try.prog 11 #[x15, x14] H_14 fun x64 H_15 =>
 pExtract 0 x64 fun x65 =>
 pExtract 1 x64 fun x66 =>
 pNot x66 fun x68 =>
 pOr x68 (fun J_16 =>
 pIdxSl 1 x20 i8 fun x73 =>
 pLoad H_15 x73 fun x74 =>
 pIdxSl 1 x20 i8 fun x77 =>
 pLoad H_15 x77 fun x78 =>
 pLenS x78 fun x79 =>
 pMin x79 (.int .i64 20) fun x80 =>
 pSlStr x74 none (some x80) fun x81 =>
 pNe 1 x65 x81 fun x82 =>
 J_16 x82 H_15) H_15 fun x83 H_17 => ∀ _ : Env,
 pCond x83
 (R (.bool false) H_17)
 (pAdd i8 (.int .i64 1) fun x60 =>
 I_12 x60 H_17 ∧ m_13 x60 H_17 < m_13 i8 H_14))
 (CallsH Try.prog 12 #[x15, x14] H_14 fun x86 H_18 =>
 pEq 0 x86 (.int .i64 0) fun x87 =>
 pAnd x87 (fun J_19 =>
 pSub (.int .i64 1) x14 fun x91 =>
 CallsH Try.prog 12 #[x15, x91] H_18 fun x92 H_21 =>
 pLen x20 fun x94 =>
 pEq 0 x92 x94 fun x95 =>
 J_19 x95 H_21) H_18 fun x96 H_20 => ∀ _ : Env,
 pAnd x96 (fun J_22 =>
 CallsH Try.prog 10 #[x15, x14] H_20 fun x100 H_24 =>
 pNot x100 fun x101 =>
 J_22 x101 H_24) H_20 fun x102 H_23 => ∀ _ : Env,
 R x102 H_23))))
set_option maxRecDepth 100000 in
theorem lighterlaw26_LinkTurns.vc (l0 : Value) (way1 : Value) (H0 : Heap) (R : Value → Heap → Prop) (h : lighterlaw26_LinkTurns.res l0 way1 H0 R) : CallsH Try.prog 3 #[l0, way1] H0 R := by
  have e : vcFn Try.prog Try.C Try.f3 lighterlaw26_LinkTurns.an [l0, way1] H0 R = lighterlaw26_LinkTurns.res l0 way1 H0 R := by kernel_rfl
  exact vcFn_sound Try.callable Try.mixed Try.func3 (by kernel_rfl) (e.mpr h)

def lighterlaw26_LinkSpoils.an : Ann := (.seq (.reg (.op 0 [] .nil)) (.seq (.seq (.reg (.op 0 [] (.op 1 [] .nil))) (.cond (.seq (.reg (.op 0 [] .nil)) .leaf) .leaf)) (.seq (.reg (.op 0 [] (.op 1 [] (.op 2 [] (.op 3 [] (.op 4 [] (.op 5 [] .nil))))))) (.seq (.reg (.op 0 [] (.op 1 [] .nil))) (.seq (.reg (.op 0 [] (.op 1 [] (.op 2 [] .nil)))) (.seq (.reg (.op 0 [] (.op 1 [] .nil))) (.seq (.seq (.reg (.op 0 [] (.op 1 [] (.op 2 [] (.op 3 [] (.op 4 [] (.op 5 [] (.grp 5 (.op 6 [] (.op 7 [] (.op 8 [] (.op 9 [] (.op 10 [] .nil))))) 11 .nil)))))))) (.cond (.seq (.reg (.op 0 [] .nil)) .leaf) .leaf)) (.seq (.reg (.op 0 [] (.op 1 [] (.op 2 [] (.op 3 [] (.op 4 [] (.op 5 [] (.op 6 [] .nil)))))))) (.seq (.reg (.op 0 [] (.op 1 [] (.op 2 [] (.op 3 [] (.op 4 [] (.op 5 [] (.op 6 [] .nil)))))))) (.seq (.reg (.op 0 [] (.op 1 [] (.op 2 [] (.op 3 [] (.grp 3 (.op 4 [] (.op 5 [] .nil)) 6 (.op 7 [] .nil))))))) .leaf))))))))))
/-- lighter/lighterlaw26.LinkSpoils -/
def lighterlaw26_LinkSpoils.res (s0 : Value) (at1 : Value) (bits2 : Value) (H0 : Heap) (R : Value → Heap → Prop) : Prop :=
 CallsH Try.prog 7 #[] H0 fun x12 H_1 =>
 pNot x12 fun x13 =>
 pCond x13
 (R (.bool false) H_1)
 (pLenS s0 fun x16 =>
 pMin x16 (.int .i64 40) fun x17 =>
 pSlStr s0 none (some x17) fun x18 =>
 CallsH Try.prog 8 #[] H_1 fun x19 H_2 =>
 CallsH Try.prog 9 #[x19, (.int .i64 1), x18] H_2 fun x22 H_3 =>
 CallsH Try.prog 9 #[x19, (.int .i64 1), (str [98, 101, 104, 105, 110, 100])] H_3 fun x24 H_4 =>
 CallsH Try.prog 13 #[x19, (.int .i64 1), at1, bits2] H_4 fun x28 H_5 =>
 pNot x28 fun x29 =>
 pOr x29 (fun J_6 =>
 CallsH Try.prog 13 #[x19, (.int .i64 1), at1, bits2] H_5 fun x34 H_8 =>
 pNot x34 fun x35 =>
 J_6 x35 H_8) H_5 fun x36 H_7 => ∀ _ : Env,
 pCond x36
 (R (.bool false) H_7)
 (CallsH Try.prog 11 #[x19, (.int .i64 1)] H_7 fun x39 H_9 =>
 pExtract 0 x39 fun x40 =>
 pExtract 1 x39 fun x41 =>
 CallsH Try.prog 11 #[x19, (.int .i64 1)] H_9 fun x44 H_10 =>
 pExtract 0 x44 fun x45 =>
 pExtract 1 x44 fun x46 =>
 pEq 1 x40 x18 fun x49 =>
 pAnd x49 (fun J_11 =>
 pEq 1 x45 (str [98, 101, 104, 105, 110, 100]) fun x52 =>
 J_11 x52 H_10) H_10 fun x53 H_12 => ∀ _ : Env,
 R x53 H_12))
set_option maxRecDepth 100000 in
theorem lighterlaw26_LinkSpoils.vc (s0 : Value) (at1 : Value) (bits2 : Value) (H0 : Heap) (R : Value → Heap → Prop) (h : lighterlaw26_LinkSpoils.res s0 at1 bits2 H0 R) : CallsH Try.prog 4 #[s0, at1, bits2] H0 R := by
  have e : vcFn Try.prog Try.C Try.f4 lighterlaw26_LinkSpoils.an [s0, at1, bits2] H0 R = lighterlaw26_LinkSpoils.res s0 at1 bits2 H0 R := by kernel_rfl
  exact vcFn_sound Try.callable Try.mixed Try.func4 (by kernel_rfl) (e.mpr h)

def lighterlaw26_LinkPlays.an : Ann := (.seq (.reg (.op 0 [] .nil)) (.seq (.seq (.reg (.op 0 [] (.op 1 [] .nil))) (.cond (.seq (.reg (.op 0 [] .nil)) .leaf) .leaf)) (.seq (.reg (.op 0 [] (.op 1 [] .nil))) (.seq (.reg (.op 0 [] .nil)) (.seq (.seq (.reg (.op 0 [] .nil)) (.block (.loop [7] [7, 26, 27, 28, 29, 30, 31, 32, 33, 34, 35, 36, 37, 38] (.seq (.seq (.reg (.op 0 [] (.op 1 [] (.op 2 [] (.op 3 [] .nil))))) (.cond .leaf .leaf)) (.seq (.block (.seq (.reg (.op 0 [] (.op 1 [] .nil))) (.reg (.op 0 [] (.op 1 [] (.op 2 [] (.op 3 [] (.op 4 [] (.op 5 [] .nil))))))))) (.reg (.op 0 [] (.op 1 [] (.op 2 [] .nil))))))))) (.seq (.seq (.reg (.op 0 [] .nil)) (.block (.loop [8] [4, 8, 9, 10, 11, 12, 13, 14, 15, 16, 17, 18, 39, 40, 41, 42, 43, 44, 45, 46, 47, 48, 49, 50, 51, 52, 53, 54, 55, 56, 57, 58, 59, 60, 61, 62, 63, 64, 65, 66, 67, 68, 69, 70, 71, 72, 73, 74, 75, 76, 77, 78, 79, 80, 81, 82, 83, 84, 85, 86, 87, 88, 89, 90, 91, 92, 93, 94, 95, 96, 97, 98, 99, 100, 101, 102, 103, 104, 105, 106, 107, 108, 109, 110, 111, 112, 113, 114, 115, 116, 117, 118, 119, 120, 121, 122, 123, 124, 125, 126, 127, 128, 129, 130, 131, 132, 133, 134, 135, 136, 137, 138, 139, 140, 141, 142, 143, 144, 145, 146, 147, 148, 149, 150, 151, 152, 153, 154, 155, 156, 157, 158, 159, 160, 161, 162, 163, 164, 165, 166, 167, 168, 169, 170, 171, 172, 173, 174, 175, 176, 177, 178, 179, 180, 181, 182, 183, 184, 185, 186, 187, 188, 189, 190, 191, 192, 193, 194, 195, 196, 197, 198, 199, 200, 201, 202, 203, 204, 205, 206, 207, 208, 209, 210, 211, 212, 213, 214, 215, 216, 217, 218, 219, 220, 221, 222, 223, 224, 225, 226, 227, 228, 229, 230, 231, 232, 233, 234, 235, 236, 237, 238, 239, 240, 241, 242, 243, 244, 245, 246, 247, 248, 249, 250, 251, 252, 253, 254, 255, 256, 257, 258, 259, 260, 261, 262, 263, 264, 265, 266, 267, 268, 269, 270, 271] (.seq (.seq (.reg (.op 0 [] (.op 1 [] (.op 2 [] (.op 3 [] (.op 4 [] (.grp 4 (.op 5 [] (.op 6 [] .nil)) 7 .nil))))))) (.cond .leaf .leaf)) (.cut [] [4, 9, 10, 11, 12, 13, 14, 15, 16, 17, 18, 49, 50, 51, 52, 53, 54, 55, 56, 57, 58, 59, 60, 61, 62, 63, 64, 65, 66, 67, 68, 69, 70, 71, 72, 73, 74, 75, 76, 77, 78, 79, 80, 81, 82, 83, 84, 85, 86, 87, 88, 89, 90, 91, 92, 93, 94, 95, 96, 97, 98, 99, 100, 101, 102, 103, 104, 105, 106, 107, 108, 109, 110, 111, 112, 113, 114, 115, 116, 117, 118, 119, 120, 121, 122, 123, 124, 125, 126, 127, 128, 129, 130, 131, 132, 133, 134, 135, 136, 137, 138, 139, 140, 141, 142, 143, 144, 145, 146, 147, 148, 149, 150, 151, 152, 153, 154, 155, 156, 157, 158, 159, 160, 161, 162, 163, 164, 165, 166, 167, 168, 169, 170, 171, 172, 173, 174, 175, 176, 177, 178, 179, 180, 181, 182, 183, 184, 185, 186, 187, 188, 189, 190, 191, 192, 193, 194, 195, 196, 197, 198, 199, 200, 201, 202, 203, 204, 205, 206, 207, 208, 209, 210, 211, 212, 213, 214, 215, 216, 217, 218, 219, 220, 221, 222, 223, 224, 225, 226, 227, 228, 229, 230, 231, 232, 233, 234, 235, 236, 237, 238, 239, 240, 241, 242, 243, 244, 245, 246, 247, 248, 249, 250, 251, 252, 253, 254, 255, 256, 257, 258, 259, 260, 261, 262, 263, 264, 265, 266, 267, 268, 269, 270, 271] (.block (.seq (.reg (.op 0 [] (.op 1 [] (.op 2 [] (.op 3 [] (.op 4 [] (.op 5 [] .nil))))))) (.seq (.reg (.op 0 [] (.op 1 [] (.op 2 [] (.op 3 [] (.op 4 [] (.op 5 [] (.op 6 [] (.op 7 [] .nil))))))))) (.seq (.reg (.op 0 [] (.op 1 [] (.op 2 [] (.op 3 [] (.op 4 [] (.op 5 [] .nil))))))) (.seq (.seq (.reg (.op 0 [] (.op 1 [] (.op 2 [] (.op 3 [] (.grp 3 (.op 4 [] (.op 5 [] (.op 6 [] .nil))) 7 .nil)))))) (.cond (.seq (.reg (.op 0 [] (.op 1 [] (.op 2 [] (.op 3 [] (.op 4 [] (.op 5 [] (.op 6 [] (.op 7 [] (.op 8 [] .nil)))))))))) (.seq (.seq (.reg (.op 0 [] (.op 1 [] (.grp 1 (.op 2 [] (.op 3 [] .nil)) 4 (.op 5 [] (.grp 5 (.op 6 [] (.op 7 [] (.op 8 [] (.op 9 [] (.op 10 [] .nil))))) 11 (.op 12 [] (.grp 12 (.op 13 [] (.op 14 [] (.op 15 [] (.op 16 [] .nil)))) 17 (.op 18 [] (.grp 18 (.op 19 [] (.op 20 [] (.op 21 [] (.op 22 [] .nil)))) 23 (.op 24 [] (.grp 24 (.op 25 [] (.op 26 [] (.op 27 [] (.op 28 [] (.op 29 [] (.op 30 [] (.op 31 [] (.op 32 [] .nil)))))))) 33 (.op 34 [] (.grp 34 (.op 35 [] (.op 36 [] (.op 37 [] (.op 38 [] (.op 39 [] .nil))))) 40 .nil)))))))))))))) (.cond (.seq (.reg (.op 0 [] .nil)) .leaf) .leaf)) .leaf)) .leaf)) (.seq (.reg (.op 0 [] (.op 1 [] (.op 2 [] (.op 3 [] (.op 4 [] .nil)))))) (.cut [14] [4, 14, 15, 16, 17, 18, 125, 126, 127, 128, 129, 130, 131, 132, 133, 134, 135, 136, 137, 138, 139, 140, 141, 142, 143, 144, 145, 146, 147, 148, 149, 150, 151, 152, 153, 154, 155, 156, 157, 158, 159, 160, 161, 162, 163, 164, 165, 166, 167, 168, 169, 170, 171, 172, 173, 174, 175, 176, 177, 178, 179, 180, 181, 182, 183, 184, 185, 186, 187, 188, 189, 190, 191, 192, 193, 194, 195, 196, 197, 198, 199, 200, 201, 202, 203, 204, 205, 206, 207, 208, 209, 210, 211, 212, 213, 214, 215, 216, 217, 218, 219, 220, 221, 222, 223, 224, 225, 226, 227, 228, 229, 230, 231, 232, 233, 234, 235, 236, 237, 238, 239, 240, 241, 242, 243, 244, 245, 246, 247, 248, 249, 250, 251, 252, 253] (.seq (.reg (.op 0 [] .nil)) (.block (.seq (.reg (.op 0 [] (.op 1 [] .nil))) (.cond (.seq (.reg (.op 0 [] (.op 1 [] (.op 2 [] (.op 3 [] (.op 4 [] (.op 5 [] (.op 6 [] (.op 7 [] (.op 8 [] .nil)))))))))) (.seq (.seq (.reg (.op 0 [] (.op 1 [] (.op 2 [] (.op 3 [] (.op 4 [] (.op 5 [] (.grp 5 (.op 6 [] (.op 7 [] (.grp 7 (.op 8 [] (.op 9 [] (.op 10 [] (.op 11 [] (.op 12 [] .nil))))) 13 .nil))) 14 (.op 15 [] (.grp 15 (.op 16 [] (.op 17 [] (.op 18 [] (.grp 18 (.op 19 [] (.op 20 [] .nil)) 21 .nil)))) 22 .nil)))))))))) (.cond (.seq (.reg (.op 0 [] .nil)) .leaf) .leaf)) (.seq (.reg (.op 0 [] .nil)) (.cond (.reg (.op 0 [] (.op 1 [] (.op 2 [] .nil)))) .leaf)))) (.seq (.reg (.op 0 [] (.op 1 [] .nil))) (.cond (.seq (.seq (.reg (.op 0 [] (.op 1 [] (.op 2 [] (.op 3 [] (.op 4 [] (.op 5 [] (.op 6 [] (.op 7 [] .nil))))))))) (.cond (.seq (.reg (.op 0 [] .nil)) .leaf) .leaf)) (.seq (.reg (.op 0 [] (.op 1 [] (.op 2 [] .nil)))) (.cond (.drw [0, 0, 2, 7, 0, 16, 48, 112, 255, 511] (.op 1 [] (.op 2 [] (.op 4 [] (.op 5 [] (.op 6 [] (.fork (.op 0 [6] (.fork (.op 3 [6] (.op 7 [] (.op 8 [] (.op 9 [] .nil)))) (.op 7 [] (.op 3 [6] (.op 8 [] (.op 9 [] .nil)))))) (.op 7 [] (.op 0 [6] (.op 3 [6] (.op 8 [] (.op 9 [] .nil)))))))))))) .leaf))) (.seq (.reg (.op 0 [] (.op 1 [] .nil))) (.cond (.seq (.reg (.op 0 [] (.op 1 [] (.op 2 [] (.op 3 [] (.grp 3 (.op 4 [] (.op 5 [] (.op 6 [] .nil))) 7 (.op 8 [] .nil))))))) (.seq (.seq (.reg (.op 0 [] (.op 1 [] (.op 2 [] (.op 3 [] (.op 4 [] (.op 5 [] .nil))))))) (.cond (.seq (.reg (.op 0 [] .nil)) .leaf) .leaf)) (.seq (.reg (.op 0 [] .nil)) (.cond (.drw [0, 0, 3, 0, 8, 24, 56, 127, 255] (.op 1 [] (.op 3 [] (.op 4 [] (.op 5 [] (.fork (.op 0 [5] (.fork (.op 2 [5] (.op 6 [] (.op 7 [] (.op 8 [] .nil)))) (.op 6 [] (.op 2 [5] (.op 7 [] (.op 8 [] .nil)))))) (.op 6 [] (.op 0 [5] (.op 2 [5] (.op 7 [] (.op 8 [] .nil))))))))))) .leaf)))) (.seq (.reg (.op 0 [] (.op 1 [] .nil))) (.cond (.seq (.seq (.reg (.op 0 [] (.op 1 [] (.op 2 [] (.op 3 [] (.op 4 [] (.op 5 [] (.op 6 [] (.op 7 [] (.op 8 [] (.op 9 [] (.op 10 [] (.op 11 [] .nil))))))))))))) (.cond (.seq (.reg (.op 0 [] .nil)) .leaf) .leaf)) (.seq (.reg (.op 0 [] (.op 1 [] (.op 2 [] .nil)))) (.cond (.drw [0, 1, 3, 0, 8, 0, 32, 127, 255, 0, 512, 2047, 4095] (.op 0 [] (.op 1 [] (.op 2 [] (.op 3 [] (.op 4 [] (.op 5 [] (.op 6 [] (.op 9 [] (.op 10 [] (.op 7 [] (.op 8 [] (.op 11 [] (.op 12 [] .nil)))))))))))))) .leaf))) (.seq (.reg (.op 0 [] (.op 1 [] (.op 2 [] (.op 3 [] .nil))))) (.seq (.seq (.reg (.op 0 [] (.op 1 [] (.op 2 [] (.op 3 [] (.op 4 [] (.op 5 [] (.op 6 [] .nil)))))))) (.cond (.seq (.reg (.op 0 [] .nil)) .leaf) .leaf)) (.seq (.reg (.op 0 [] .nil)) (.cond (.reg (.op 0 [] (.op 1 [] (.op 2 [] (.op 3 [] (.op 4 [] (.op 5 [] (.op 6 [] .nil)))))))) .leaf)))))))))))))) (.seq (.reg (.op 0 [] (.op 1 [] (.op 2 [] (.op 3 [] (.op 4 [] .nil)))))) (.seq (.drw [0, 1, 0, 4, 12, 31, 63, 127, 255, 127, 639, 1663, 4095, 8191] (.op 0 [] (.op 2 [] (.op 3 [] (.op 4 [] (.op 1 [3] (.op 5 [] (.op 6 [] (.grp 6 (.op 7 [] (.op 9 [] (.op 10 [] (.op 11 [] (.op 8 [10] (.op 12 [] .nil)))))) 13 .nil))))))))) (.cond (.seq (.reg (.op 0 [] .nil)) .leaf) .leaf)))))))))) (.reg (.op 0 [] (.op 1 [] (.op 2 [] .nil))))))))) (.seq (.seq (.reg (.op 0 [] .nil)) (.block (.loop [19] [4, 19, 20, 21, 22, 272, 273, 274, 275, 276, 277, 278, 279, 280, 281, 282, 283, 284, 285, 286, 287, 288, 289, 290, 291, 292, 293, 294, 295, 296, 297, 298, 299, 300, 301] (.seq (.seq (.reg (.op 0 [] (.op 1 [] .nil))) (.cond .leaf .leaf)) (.seq (.block (.seq (.reg (.op 0 [] .nil)) (.block (.loop [20] [4, 20, 21, 22, 276, 277, 278, 279, 280, 281, 282, 283, 284, 285, 286, 287, 288, 289, 290, 291, 292, 293, 294, 295, 296, 297, 298, 299, 300, 301] (.seq (.seq (.reg (.op 0 [] (.op 1 [] (.op 2 [] (.op 3 [] (.op 4 [] (.op 5 [] .nil))))))) (.cond .leaf .leaf)) (.seq (.block (.seq (.reg (.op 0 [] (.op 1 [] (.op 2 [] (.op 3 [] (.op 4 [] (.op 5 [] (.op 6 [] (.op 7 [] .nil))))))))) (.seq (.reg (.op 0 [] (.op 1 [] (.op 2 [] (.grp 2 (.op 3 [] (.op 4 [] (.op 5 [] (.op 6 [] (.op 7 [] (.op 8 [] (.op 9 [] (.op 10 [] .nil)))))))) 11 .nil))))) (.cond (.seq (.reg (.op 0 [] .nil)) .leaf) .leaf)))) (.reg (.op 0 [] (.op 1 [] (.op 2 [] .nil)))))))))) (.reg (.op 0 [] (.op 1 [] (.op 2 [] .nil))))))))) (.seq (.reg (.op 0 [] (.op 1 [] (.op 2 [] (.op 3 [] (.op 4 [] (.op 5 [] (.op 6 [] .nil)))))))) .leaf))))))))
/-- lighter/lighterlaw26.LinkPlays -/
def lighterlaw26_LinkPlays.res (fill0 : Value) (l1 : Value) (H0 : Heap) (R : Value → Heap → Prop) : Prop :=
 CallsH Try.prog 7 #[] H0 fun x23 H_1 =>
 pNot x23 fun x24 =>
 pCond x24
 (R (.bool false) H_1)
 (CallsH Try.prog 8 #[] H_1 fun x25 H_2 =>
 pBox H_2 36 (.agg #[(.slice none 0 0), (.slice none 0 0)]) fun m6 H_3 =>
 ∃ (I_4 : Value → Heap → Prop) (m_5 : Value → Heap → Nat), I_4 (.int .i64 0) H_3 ∧
 ∀ _ : Env, ∀ i7 : Value, ∀ H_6 : Heap, I_4 i7 H_6 →
 pBits .and fill0 (.int .i64 63) fun x28 =>
 pLt i7 x28 fun x29 =>
 pCond x29
 (CallsH Try.prog 9 #[x25, (.int .i64 0), (str [102])] H_6 fun x33 H_7 =>
 pIdxArr 2 1 m6 (.int .i64 0) fun x34 =>
 pLoad H_7 x34 fun x35 =>
 pBuildSl H_7 9 1 [(str [])] [(0, 1, (str [102]))] fun x36 H_8 =>
 pAppend H_8 9 1 16 [(str [])] x35 x36 fun x37 H_9 =>
 pIdxArr 2 1 m6 (.int .i64 0) fun x38 =>
 pStore H_9 x38 x37 fun _ H_10 =>
 pAdd i7 (.int .i64 1) fun x31 =>
 I_4 x31 H_10 ∧ m_5 x31 H_10 < m_5 i7 H_6)
 (∃ (I_11 : Value → Heap → Prop) (m_12 : Value → Heap → Nat), I_11 (.int .i64 0) H_6 ∧
 ∀ _ : Env, ∀ i8 : Value, ∀ H_13 : Heap, I_11 i8 H_13 →
 pLen l1 fun x41 =>
 pLt i8 x41 fun x42 =>
 pAnd x42 (fun J_14 =>
 pLt i8 (.int .i64 60) fun x45 =>
 J_14 x45 H_13) H_13 fun x46 H_15 => ∀ _ : Env,
 pCond x46
 (∃ J_16 : Heap → Prop, (∀ _ : Env, ∀ H_17 : Heap, J_16 H_17 →
 pAdd i8 (.int .i64 1) fun x48 =>
 I_11 x48 H_17 ∧ m_12 x48 H_17 < m_12 i8 H_13) ∧
 pIdxSl 5 l1 i8 fun x51 =>
 pLoadN H_15 5 x51 fun x52 =>
 pBox H_15 38 (.agg #[(.int .i64 0), (.int .i64 0), (str []), (.int .i64 0), (.int .u32 0)]) fun a9 H_18 =>
 pStoreN H_18 5 a9 x52 fun _ H_19 =>
 pFieldAddr 2 a9 fun x53 =>
 pLoad H_19 x53 fun x54 =>
 pFieldAddr 2 a9 fun x55 =>
 pLoad H_19 x55 fun x56 =>
 pLenS x56 fun x57 =>
 pMin x57 (.int .i64 20) fun x58 =>
 pSlStr x54 none (some x58) fun x59 =>
 pFieldAddr 0 a9 fun x60 =>
 pLoad H_19 x60 fun x61 =>
 pRem x61 (.int .i64 6) fun x62 =>
 pAdd x62 (.int .i64 6) fun x63 =>
 pRem x63 (.int .i64 6) fun x64 =>
 pFieldAddr 1 a9 fun x65 =>
 pLoad H_19 x65 fun x66 =>
 pLt x66 (.int .i64 0) fun x67 =>
 pOr x67 (fun J_20 =>
 pFieldAddr 1 a9 fun x69 =>
 pLoad H_19 x69 fun x70 =>
 pGt x70 (.int .i64 1) fun x71 =>
 J_20 x71 H_19) H_19 fun x72 H_21 => ∀ _ : Env,
 pCond x72
 (pFieldAddr 1 a9 fun x75 =>
 pLoad H_21 x75 fun x76 =>
 CallsH Try.prog 11 #[x25, x76] H_21 fun x77 H_22 =>
 pExtract 0 x77 fun x78 =>
 pExtract 1 x77 fun x79 =>
 pOr x79 (fun J_23 =>
 pNe 1 x78 (str []) fun x83 =>
 J_23 x83 H_22) H_22 fun x84 H_24 => ∀ _ : Env,
 pOr x84 (fun J_25 =>
 pFieldAddr 1 a9 fun x87 =>
 pLoad H_24 x87 fun x88 =>
 CallsH Try.prog 9 #[x25, x88, x59] H_24 fun x90 H_27 =>
 J_25 x90 H_27) H_24 fun x91 H_26 => ∀ _ : Env,
 pOr x91 (fun J_28 =>
 pFieldAddr 1 a9 fun x94 =>
 pLoad H_26 x94 fun x95 =>
 CallsH Try.prog 10 #[x25, x95] H_26 fun x96 H_30 =>
 J_28 x96 H_30) H_26 fun x97 H_29 => ∀ _ : Env,
 pOr x97 (fun J_31 =>
 pFieldAddr 1 a9 fun x100 =>
 pLoad H_29 x100 fun x101 =>
 CallsH Try.prog 14 #[x25, x101] H_29 fun x102 H_33 =>
 J_31 x102 H_33) H_29 fun x103 H_32 => ∀ _ : Env,
 pOr x103 (fun J_34 =>
 pFieldAddr 1 a9 fun x106 =>
 pLoad H_32 x106 fun x107 =>
 pFieldAddr 3 a9 fun x108 =>
 pLoad H_32 x108 fun x109 =>
 pFieldAddr 4 a9 fun x110 =>
 pLoad H_32 x110 fun x111 =>
 CallsH Try.prog 13 #[x25, x107, x109, x111] H_32 fun x112 H_36 =>
 J_34 x112 H_36) H_32 fun x113 H_35 => ∀ _ : Env,
 pOr x113 (fun J_37 =>
 pFieldAddr 1 a9 fun x116 =>
 pLoad H_35 x116 fun x117 =>
 CallsH Try.prog 12 #[x25, x117] H_35 fun x118 H_39 =>
 pNe 0 x118 (.int .i64 0) fun x119 =>
 J_37 x119 H_39) H_35 fun x120 H_38 => ∀ _ : Env,
 pCond x120
 (R (.bool false) H_38)
 (J_16 H_38))
 (pFieldAddr 1 a9 fun x121 =>
 pLoad H_21 x121 fun x122 =>
 pIdxArr 2 1 m6 x122 fun x123 =>
 pLoad H_21 x123 fun x124 =>
 ∃ J_40 : Value → Heap → Prop, (∀ _ : Env, ∀ q14 : Value, ∀ H_41 : Heap, J_40 q14 H_41 →
 pFieldAddr 1 a9 fun x254 =>
 pLoad H_41 x254 fun x255 =>
 pIdxArr 2 1 m6 x255 fun x257 =>
 pStore H_41 x257 q14 fun _ H_42 =>
 pIdxArr 2 1 m6 (.int .i64 0) fun x260 =>
 pLoad H_42 x260 fun x261 =>
 pLen x261 fun x262 =>
 CallsH Try.prog 12 #[x25, (.int .i64 0)] H_42 fun x259 H_43 =>
 (pLoad H_43 x260 fun r_ =>
 r_ = x261) ∧
 pNe 0 x259 x262 fun x263 =>
 pOr x263 (fun J_44 =>
 pIdxArr 2 1 m6 (.int .i64 1) fun x267 =>
 pLoad H_43 x267 fun x268 =>
 pLen x268 fun x269 =>
 CallsH Try.prog 12 #[x25, (.int .i64 1)] H_43 fun x266 H_46 =>
 (pLoad H_46 x267 fun r_ =>
 r_ = x268) ∧
 pNe 0 x266 x269 fun x270 =>
 J_44 x270 H_46) H_43 fun x271 H_45 => ∀ _ : Env,
 pCond x271
 (R (.bool false) H_45)
 (J_16 H_45)) ∧
 pEq 0 x64 (.int .i64 2) fun x144 =>
 pCond x144
 (pFieldAddr 1 a9 fun x147 =>
 pLoad H_21 x147 fun x148 =>
 CallsH Try.prog 11 #[x25, x148] H_21 fun x149 H_47 =>
 pExtract 0 x149 fun x150 =>
 pExtract 1 x149 fun x151 =>
 pLen x124 fun x154 =>
 pGt x154 (.int .i64 0) fun x155 =>
 pNe 2 x151 x155 fun x156 =>
 pOr x156 (fun J_48 =>
 pAnd x151 (fun J_50 =>
 pIdxSl 1 x124 (.int .i64 0) fun x162 =>
 pLoad H_47 x162 fun x163 =>
 pNe 1 x150 x163 fun x164 =>
 J_50 x164 H_47) H_47 fun x165 H_51 => ∀ _ : Env,
 J_48 x165 H_51) H_47 fun x166 H_49 => ∀ _ : Env,
 pOr x166 (fun J_52 =>
 pNot x151 fun x169 =>
 pAnd x169 (fun J_54 =>
 pNe 1 x150 (str []) fun x172 =>
 J_54 x172 H_49) H_49 fun x173 H_55 => ∀ _ : Env,
 J_52 x173 H_55) H_49 fun x174 H_53 => ∀ _ : Env,
 pCond x174
 (R (.bool false) H_53)
 (pCond x151
 (pSlSl 1 x124 (some (.int .i64 1)) none fun x177 =>
 J_40 x177 H_53)
 (J_40 x124 H_53)))
 (pEq 0 x64 (.int .i64 3) fun x179 =>
 pCond x179
 (pFieldAddr 1 a9 fun x181 =>
 pLoad H_21 x181 fun x182 =>
 CallsH Try.prog 10 #[x25, x182] H_21 fun x183 H_56 =>
 pLen x124 fun x185 =>
 pGt x185 (.int .i64 0) fun x186 =>
 pNe 2 x183 x186 fun x187 =>
 pCond x187
 (R (.bool false) H_56)
 (pLen x124 fun x189 =>
 pGt x189 (.int .i64 0) fun x190 =>
 pCond x190
 (pSlSl 1 x124 (some (.int .i64 1)) none fun x193 =>
 pIdxSl 1 x124 (.int .i64 0) fun x196 =>
 pLoad H_56 x196 fun x197 =>
 (pBuildSl H_56 9 0 [] [] fun x191 H_57 =>
 (pLoad H_57 x196 fun r_ =>
 r_ = x197) ∧
 (pAppend H_57 9 1 16 [(str [])] x191 x193 fun x194 H_58 =>
 (pLoad H_58 x196 fun r_ =>
 r_ = x197) ∧
 pBuildSl H_58 9 1 [(str [])] [(0, 1, x197)] fun x198 H_59 =>
 pAppend H_59 9 1 16 [(str [])] x194 x198 fun x199 H_60 =>
 J_40 x199 H_60) ∧
 (pBuildSl H_57 9 1 [(str [])] [(0, 1, x197)] fun x198 H_61 =>
 pAppend H_61 9 1 16 [(str [])] x191 x193 fun x194 H_62 =>
 (pLoad H_62 x196 fun r_ =>
 r_ = x197) ∧
 pAppend H_62 9 1 16 [(str [])] x194 x198 fun x199 H_63 =>
 J_40 x199 H_63)) ∧
 (pBuildSl H_56 9 1 [(str [])] [(0, 1, x197)] fun x198 H_64 =>
 pBuildSl H_64 9 0 [] [] fun x191 H_65 =>
 (pLoad H_65 x196 fun r_ =>
 r_ = x197) ∧
 pAppend H_65 9 1 16 [(str [])] x191 x193 fun x194 H_66 =>
 (pLoad H_66 x196 fun r_ =>
 r_ = x197) ∧
 pAppend H_66 9 1 16 [(str [])] x194 x198 fun x199 H_67 =>
 J_40 x199 H_67))
 (J_40 x124 H_56)))
 (pEq 0 x64 (.int .i64 4) fun x201 =>
 pCond x201
 (pLen x124 fun x203 =>
 pGt x203 (.int .i64 0) fun x204 =>
 pAnd x204 (fun J_68 =>
 pLen x124 fun x207 =>
 pLt x207 (.int .i64 64) fun x208 =>
 J_68 x208 H_21) H_21 fun x209 H_69 => ∀ _ : Env,
 pFieldAddr 1 a9 fun x211 =>
 pLoad H_69 x211 fun x212 =>
 CallsH Try.prog 14 #[x25, x212] H_69 fun x213 H_70 =>
 pNe 2 x213 x209 fun x215 =>
 pCond x215
 (R (.bool false) H_70)
 (pCond x209
 (pIdxSl 1 x124 (.int .i64 0) fun x221 =>
 pLoad H_70 x221 fun x222 =>
 (pBuildSl H_70 9 0 [] [] fun x217 H_71 =>
 (pLoad H_71 x221 fun r_ =>
 r_ = x222) ∧
 (pAppend H_71 9 1 16 [(str [])] x217 x124 fun x219 H_72 =>
 (pLoad H_72 x221 fun r_ =>
 r_ = x222) ∧
 pBuildSl H_72 9 1 [(str [])] [(0, 1, x222)] fun x223 H_73 =>
 pAppend H_73 9 1 16 [(str [])] x219 x223 fun x224 H_74 =>
 J_40 x224 H_74) ∧
 (pBuildSl H_71 9 1 [(str [])] [(0, 1, x222)] fun x223 H_75 =>
 pAppend H_75 9 1 16 [(str [])] x217 x124 fun x219 H_76 =>
 (pLoad H_76 x221 fun r_ =>
 r_ = x222) ∧
 pAppend H_76 9 1 16 [(str [])] x219 x223 fun x224 H_77 =>
 J_40 x224 H_77)) ∧
 (pBuildSl H_70 9 1 [(str [])] [(0, 1, x222)] fun x223 H_78 =>
 pBuildSl H_78 9 0 [] [] fun x217 H_79 =>
 (pLoad H_79 x221 fun r_ =>
 r_ = x222) ∧
 pAppend H_79 9 1 16 [(str [])] x217 x124 fun x219 H_80 =>
 (pLoad H_80 x221 fun r_ =>
 r_ = x222) ∧
 pAppend H_80 9 1 16 [(str [])] x219 x223 fun x224 H_81 =>
 J_40 x224 H_81))
 (J_40 x124 H_70)))
 (pEq 0 x64 (.int .i64 5) fun x226 =>
 pCond x226
 (pFieldAddr 1 a9 fun x228 =>
 pLoad H_21 x228 fun x229 =>
 pFieldAddr 3 a9 fun x230 =>
 pLoad H_21 x230 fun x231 =>
 pFieldAddr 4 a9 fun x232 =>
 pLoad H_21 x232 fun x233 =>
 CallsH Try.prog 13 #[x25, x229, x231, x233] H_21 fun x234 H_82 =>
 pLen x124 fun x236 =>
 pGt x236 (.int .i64 0) fun x237 =>
 pNe 2 x234 x237 fun x238 =>
 pCond x238
 (R (.bool false) H_82)
 (pLen x124 fun x240 =>
 pGt x240 (.int .i64 0) fun x241 =>
 pCond x241
 (pIdxSl 1 x124 (.int .i64 0) fun x243 =>
 pLoad H_82 x243 fun x244 =>
 pFieldAddr 3 a9 fun x245 =>
 pLoad H_82 x245 fun x246 =>
 pFieldAddr 4 a9 fun x247 =>
 pLoad H_82 x247 fun x248 =>
 pSlSl 1 x124 (some (.int .i64 1)) none fun x252 =>
 CallsH Try.prog 15 #[x244, x246, x248] H_82 fun x249 H_83 =>
 pBuildSl H_83 9 1 [(str [])] [(0, 1, x249)] fun x250 H_84 =>
 pAppend H_84 9 1 16 [(str [])] x250 x252 fun x253 H_85 =>
 J_40 x253 H_85)
 (J_40 x124 H_82)))
 (pLen x124 fun x127 =>
 pLt x127 (.int .i64 64) fun x128 =>
 pFieldAddr 1 a9 fun x130 =>
 pLoad H_21 x130 fun x131 =>
 CallsH Try.prog 9 #[x25, x131, x59] H_21 fun x133 H_86 =>
 pNe 2 x133 x128 fun x135 =>
 pCond x135
 (R (.bool false) H_86)
 (pCond x128
 (pBuildSl H_86 9 0 [] [] fun x137 H_87 =>
 pAppend H_87 9 1 16 [(str [])] x137 x124 fun x139 H_88 =>
 pBuildSl H_88 9 1 [(str [])] [(0, 1, x59)] fun x141 H_89 =>
 pAppend H_89 9 1 16 [(str [])] x139 x141 fun x142 H_90 =>
 J_40 x142 H_90)
 (J_40 x124 H_86))))))))
 (∃ (I_91 : Value → Heap → Prop) (m_92 : Value → Heap → Nat), I_91 (.int .i64 0) H_15 ∧
 ∀ _ : Env, ∀ way19 : Value, ∀ H_93 : Heap, I_91 way19 H_93 →
 pLt way19 (.int .i64 2) fun x273 =>
 pCond x273
 (∃ (I_94 : Value → Heap → Prop) (m_95 : Value → Heap → Nat), I_94 (.int .i64 0) H_93 ∧
 ∀ _ : Env, ∀ i20 : Value, ∀ H_96 : Heap, I_94 i20 H_96 →
 pIdxArr 2 1 m6 way19 fun x278 =>
 pLoad H_96 x278 fun x279 =>
 pLen x279 fun x280 =>
 pLt i20 x280 fun x281 =>
 pCond x281
 (CallsH Try.prog 11 #[x25, way19] H_96 fun x287 H_97 =>
 pExtract 0 x287 fun x288 =>
 pExtract 1 x287 fun x289 =>
 pNot x289 fun x291 =>
 pOr x291 (fun J_98 =>
 pIdxArr 2 1 m6 way19 fun x295 =>
 pLoad H_97 x295 fun x296 =>
 pIdxSl 1 x296 i20 fun x298 =>
 pLoad H_97 x298 fun x299 =>
 pNe 1 x288 x299 fun x300 =>
 J_98 x300 H_97) H_97 fun x301 H_99 => ∀ _ : Env,
 pCond x301
 (R (.bool false) H_99)
 (pAdd i20 (.int .i64 1) fun x283 =>
 I_94 x283 H_99 ∧ m_95 x283 H_99 < m_95 i20 H_96))
 (pAdd way19 (.int .i64 1) fun x275 =>
 I_91 x275 H_96 ∧ m_92 x275 H_96 < m_92 way19 H_93))
 (CallsH Try.prog 12 #[x25, (.int .i64 0)] H_93 fun x303 H_100 =>
 CallsH Try.prog 12 #[x25, (.int .i64 1)] H_100 fun x305 H_101 =>
 pAdd x303 x305 fun x306 =>
 pEq 0 x306 (.int .i64 0) fun x307 =>
 R x307 H_101))))
set_option maxRecDepth 100000 in
theorem lighterlaw26_LinkPlays.vc (fill0 : Value) (l1 : Value) (H0 : Heap) (R : Value → Heap → Prop) (h : lighterlaw26_LinkPlays.res fill0 l1 H0 R) : CallsH Try.prog 5 #[fill0, l1] H0 R := by
  have e : vcFn Try.prog Try.C Try.f5 lighterlaw26_LinkPlays.an [fill0, l1] H0 R = lighterlaw26_LinkPlays.res fill0 l1 H0 R := by kernel_rfl
  exact vcFn_sound Try.callable Try.mixed Try.func5 (by kernel_rfl) (e.mpr h)

def lighterlaw26_LinkNone.an : Ann := (.seq (.reg (.op 0 [] .nil)) (.seq (.seq (.reg (.op 0 [] (.op 1 [] .nil))) (.cond (.seq (.reg (.op 0 [] .nil)) .leaf) .leaf)) (.seq (.reg (.op 0 [] .nil)) (.seq (.reg (.op 0 [] (.op 1 [] (.op 2 [] (.op 3 [] (.op 4 [] (.op 5 [] (.op 6 [] (.op 7 [] .nil))))))))) (.seq (.reg (.op 0 [] (.op 1 [] (.op 2 [] (.grp 2 (.op 3 [] (.op 4 [] (.op 5 [] (.op 6 [] (.op 7 [] .nil))))) 8 (.op 9 [] (.grp 9 (.op 10 [] (.op 11 [] (.op 12 [] (.op 13 [] .nil)))) 14 (.op 15 [] (.grp 15 (.op 16 [] (.op 17 [] (.op 18 [] (.op 19 [] .nil)))) 20 (.op 21 [] (.grp 21 (.op 22 [] (.op 23 [] (.op 24 [] (.op 25 [] .nil)))) 26 (.op 27 [] (.grp 27 (.op 28 [] (.op 29 [] (.op 30 [] (.op 31 [] .nil)))) 32 (.op 33 [] .nil)))))))))))))) .leaf)))))
/-- lighter/lighterlaw26.LinkNone -/
def lighterlaw26_LinkNone.res (way0 : Value) (s1 : Value) (H0 : Heap) (R : Value → Heap → Prop) : Prop :=
 CallsH Try.prog 7 #[] H0 fun x8 H_1 =>
 pNot x8 fun x9 =>
 pCond x9
 (R (.bool false) H_1)
 (CallsH Try.prog 11 #[(.pointer none), way0] H_1 fun x13 H_2 =>
 pExtract 0 x13 fun x14 =>
 pExtract 1 x13 fun x15 =>
 pNot x15 fun x17 =>
 pAnd x17 (fun J_3 =>
 CallsH Try.prog 9 #[(.pointer none), way0, s1] H_2 fun x22 H_5 =>
 pNot x22 fun x23 =>
 J_3 x23 H_5) H_2 fun x24 H_4 => ∀ _ : Env,
 pAnd x24 (fun J_6 =>
 CallsH Try.prog 10 #[(.pointer none), way0] H_4 fun x28 H_8 =>
 pNot x28 fun x29 =>
 J_6 x29 H_8) H_4 fun x30 H_7 => ∀ _ : Env,
 pAnd x30 (fun J_9 =>
 CallsH Try.prog 14 #[(.pointer none), way0] H_7 fun x34 H_11 =>
 pNot x34 fun x35 =>
 J_9 x35 H_11) H_7 fun x36 H_10 => ∀ _ : Env,
 pAnd x36 (fun J_12 =>
 CallsH Try.prog 13 #[(.pointer none), way0, (.int .i64 0), (.int .u32 1)] H_10 fun x40 H_14 =>
 pNot x40 fun x41 =>
 J_12 x41 H_14) H_10 fun x42 H_13 => ∀ _ : Env,
 pAnd x42 (fun J_15 =>
 CallsH Try.prog 12 #[(.pointer none), way0] H_13 fun x46 H_17 =>
 pEq 0 x46 (.int .i64 0) fun x47 =>
 J_15 x47 H_17) H_13 fun x48 H_16 => ∀ _ : Env,
 R x48 H_16)
set_option maxRecDepth 100000 in
theorem lighterlaw26_LinkNone.vc (way0 : Value) (s1 : Value) (H0 : Heap) (R : Value → Heap → Prop) (h : lighterlaw26_LinkNone.res way0 s1 H0 R) : CallsH Try.prog 6 #[way0, s1] H0 R := by
  have e : vcFn Try.prog Try.C Try.f6 lighterlaw26_LinkNone.an [way0, s1] H0 R = lighterlaw26_LinkNone.res way0 s1 H0 R := by kernel_rfl
  exact vcFn_sound Try.callable Try.mixed Try.func6 (by kernel_rfl) (e.mpr h)

def lighterlaw26_speaks.an : Ann := (.seq (.reg (.op 0 [] .nil)) (.seq (.reg (.op 0 [] (.op 1 [] .nil))) (.seq (.seq (.reg (.op 0 [] (.op 1 [] (.op 2 [] (.op 3 [] (.grp 3 (.op 4 [] (.op 5 [] (.op 6 [] .nil))) 7 (.op 8 [] (.grp 8 (.op 9 [] (.op 10 [] (.op 11 [] .nil))) 12 .nil)))))))) (.cond (.seq (.reg (.op 0 [] .nil)) .leaf) .leaf)) (.seq (.reg (.op 0 [] (.op 1 [] (.op 2 [] (.op 3 [] (.op 4 [] (.op 5 [] (.op 6 [] .nil)))))))) (.seq (.reg (.op 0 [] (.op 1 [] (.grp 1 (.op 2 [] (.op 3 [] .nil)) 4 (.op 5 [] (.grp 5 (.op 6 [] (.op 7 [] (.op 8 [] .nil))) 9 (.op 10 [] (.grp 10 (.op 11 [] (.op 12 [] (.op 13 [] .nil))) 14 (.op 15 [] .nil))))))))) .leaf)))))
/-- lighter/lighterlaw26.speaks -/
def lighterlaw26_speaks.res (H0 : Heap) (R : Value → Heap → Prop) : Prop :=
 CallsH Try.prog 8 #[] H0 fun x4 H_1 =>
 CallsH Try.prog 9 #[x4, (.int .i64 0), (str [97])] H_1 fun x6 H_2 =>
 pNot x6 fun x7 =>
 pOr x7 (fun J_3 =>
 CallsH Try.prog 9 #[x4, (.int .i64 0), (str [98])] H_2 fun x10 H_5 =>
 pNot x10 fun x11 =>
 J_3 x11 H_5) H_2 fun x12 H_4 => ∀ _ : Env,
 pOr x12 (fun J_6 =>
 CallsH Try.prog 10 #[x4, (.int .i64 0)] H_4 fun x15 H_8 =>
 pNot x15 fun x16 =>
 J_6 x16 H_8) H_4 fun x17 H_7 => ∀ _ : Env,
 pCond x17
 (R (.bool false) H_7)
 (CallsH Try.prog 11 #[x4, (.int .i64 0)] H_7 fun x20 H_9 =>
 pExtract 0 x20 fun x21 =>
 pExtract 1 x20 fun x22 =>
 pAnd x22 (fun J_10 =>
 pEq 1 x21 (str [98]) fun x26 =>
 J_10 x26 H_9) H_9 fun x27 H_11 => ∀ _ : Env,
 pAnd x27 (fun J_12 =>
 CallsH Try.prog 12 #[x4, (.int .i64 0)] H_11 fun x30 H_14 =>
 pEq 0 x30 (.int .i64 1) fun x31 =>
 J_12 x31 H_14) H_11 fun x32 H_13 => ∀ _ : Env,
 pAnd x32 (fun J_15 =>
 CallsH Try.prog 12 #[x4, (.int .i64 1)] H_13 fun x35 H_17 =>
 pEq 0 x35 (.int .i64 0) fun x36 =>
 J_15 x36 H_17) H_13 fun x37 H_16 => ∀ _ : Env,
 R x37 H_16)
set_option maxRecDepth 100000 in
theorem lighterlaw26_speaks.vc (H0 : Heap) (R : Value → Heap → Prop) (h : lighterlaw26_speaks.res H0 R) : CallsH Try.prog 7 #[] H0 R := by
  have e : vcFn Try.prog Try.C Try.f7 lighterlaw26_speaks.an [] H0 R = lighterlaw26_speaks.res H0 R := by kernel_rfl
  exact vcFn_sound Try.callable Try.mixed Try.func7 (by kernel_rfl) (e.mpr h)

end Go.Proofs.Ytelldphojhmhfaa
