/- The residuals of package link's functions, printed by resid.py. -/
import Derived.Test.YtelldphojhmhfaaVcSeat
namespace Go.Proofs.Ytelldphojhmhfaa
open Go Go.Vc Go.Proofs
set_option linter.unusedVariables false
set_option maxHeartbeats 4000000
def link_New.an : Ann := (.seq (.reg (.op 0 [] .nil)) (.seq (.reg (.op 0 [] (.op 1 [] (.op 2 [] .nil)))) (.seq (.seq (.reg (.op 0 [] .nil)) (.block (.loop [5] [2, 5, 6, 7, 8, 9, 10, 11, 12, 13, 14] (.seq (.reg (.op 0 [] .nil)) (.seq (.cond .leaf .leaf) (.seq (.block (.seq (.reg (.op 0 [] (.op 1 [] .nil))) (.drw [0, 0, 0, 1, 9, 31, 63] (.op 0 [] (.op 1 [] (.op 3 [] (.op 4 [] (.op 2 [] (.op 5 [] (.op 6 [] .nil)))))))))) (.reg (.op 0 [] (.op 1 [] .nil))))))))) (.seq (.reg (.op 0 [] (.op 1 [] .nil))) .leaf))))
/-- lighter/link.New -/
def link_New.res (H0 : Heap) (R : Value → Heap → Prop) : Prop :=
 pBuild [(.chan none), (.chan none)] [] fun x3 =>
 pBox H0 44 x3 fun x4 H_1 =>
 ∃ (I_2 : Value → Heap → Prop) (m_3 : Value → Heap → Nat), I_2 (.int .i64 0) H_1 ∧
 ∀ _ : Env, ∀ x5 : Value, ∀ H_4 : Heap, I_2 x5 H_4 →
 pLt x5 (.int .i64 2) fun x6 =>
 pCond x6
 (pNil x4 fun x11 =>
 pFieldAddr 0 x11 fun x12 =>
 pSem H_4 Try.prog (Instr.makeChan 41 (.int .i64 64)) fun x10 H_5 =>
 pIdxArr 2 1 x12 x5 fun x13 =>
 pStore H_5 x13 x10 fun _ H_6 =>
 pAdd x5 (.int .i64 1) fun x14 =>
 I_2 x14 H_6 ∧ m_3 x14 H_6 < m_3 x5 H_4)
 (R x4 H_4)
set_option maxRecDepth 100000 in
theorem link_New.vc (H0 : Heap) (R : Value → Heap → Prop) (h : link_New.res H0 R) : CallsH Try.prog 8 #[] H0 R := by
  have e : vcFn Try.prog Try.C Try.f8 link_New.an [] H0 R = link_New.res H0 R := by kernel_rfl
  exact vcFn_sound Try.callable Try.mixed Try.func8 (by kernel_rfl) (e.mpr h)

def link_Link_Turn.an : Ann := (.seq (.reg (.op 0 [] .nil)) (.seq (.reg (.op 0 [] (.op 1 [] (.op 2 [] (.op 3 [] (.op 4 [] (.op 5 [] (.op 6 [] (.op 7 [] .nil))))))))) (.seq (.reg (.op 0 [] (.op 1 [] (.grp 1 (.op 2 [] (.op 3 [] (.op 4 [] (.op 5 [] .nil)))) 6 (.op 7 [] .nil))))) .leaf)))
/-- (*lighter/link.Link).Turn -/
def link_Link_Turn.res (l0 : Value) (way1 : Value) (H0 : Heap) (R : Value → Heap → Prop) : Prop :=
 CallsH Try.prog 11 #[l0, way1] H0 fun x10 H_1 =>
 pExtract 0 x10 fun x11 =>
 pExtract 1 x10 fun x12 =>
 pAnd x12 (fun J_2 =>
 CallsH Try.prog 9 #[l0, way1, x11] H_1 fun x18 H_4 =>
 J_2 x18 H_4) H_1 fun x19 H_3 => ∀ _ : Env,
 R x19 H_3
set_option maxRecDepth 100000 in
theorem link_Link_Turn.vc (l0 : Value) (way1 : Value) (H0 : Heap) (R : Value → Heap → Prop) (h : link_Link_Turn.res l0 way1 H0 R) : CallsH Try.prog 10 #[l0, way1] H0 R := by
  have e : vcFn Try.prog Try.C Try.f10 link_Link_Turn.an [l0, way1] H0 R = link_Link_Turn.res l0 way1 H0 R := by kernel_rfl
  exact vcFn_sound Try.callable Try.mixed Try.func10 (by kernel_rfl) (e.mpr h)

def link_Link_Len.an : Ann := (.seq (.reg (.op 0 [] .nil)) (.seq (.reg (.op 0 [] (.op 1 [] (.op 2 [] (.op 3 [] (.op 4 [] .nil)))))) .leaf))
/-- (*lighter/link.Link).Len -/
def link_Link_Len.res (l0 : Value) (way1 : Value) (H0 : Heap) (R : Value → Heap → Prop) : Prop :=
 CallsH Try.prog 16 #[l0, way1] H0 fun x7 H_1 =>
 pLenC H_1 x7 fun x8 H_2 =>
 R x8 H_2
set_option maxRecDepth 100000 in
theorem link_Link_Len.vc (l0 : Value) (way1 : Value) (H0 : Heap) (R : Value → Heap → Prop) (h : link_Link_Len.res l0 way1 H0 R) : CallsH Try.prog 12 #[l0, way1] H0 R := by
  have e : vcFn Try.prog Try.C Try.f12 link_Link_Len.an [l0, way1] H0 R = link_Link_Len.res l0 way1 H0 R := by kernel_rfl
  exact vcFn_sound Try.callable Try.mixed Try.func12 (by kernel_rfl) (e.mpr h)

def link_Link_Spoil.an : Ann := (.seq (.reg (.op 0 [] (.op 1 [] (.op 2 [] .nil)))) (.seq (.reg (.op 0 [] (.op 1 [] (.op 2 [] (.op 3 [] (.op 4 [] .nil)))))) .leaf))
/-- (*lighter/link.Link).Spoil -/
def link_Link_Spoil.res (l0 : Value) (way1 : Value) (at2 : Value) (bits3 : Value) (H0 : Heap) (R : Value → Heap → Prop) : Prop :=
 pBox H0 3 at2 fun at6 H_1 =>
 pBox H_1 32 bits3 fun bits7 H_2 =>
 CallsH Try.prog 17 #[l0, way1, (.func (.func 18) #[] #[at6, bits7])] H_2 fun x12 H_3 =>
 R x12 H_3
set_option maxRecDepth 100000 in
theorem link_Link_Spoil.vc (l0 : Value) (way1 : Value) (at2 : Value) (bits3 : Value) (H0 : Heap) (R : Value → Heap → Prop) (h : link_Link_Spoil.res l0 way1 at2 bits3 H0 R) : CallsH Try.prog 13 #[l0, way1, at2, bits3] H0 R := by
  have e : vcFn Try.prog Try.C Try.f13 link_Link_Spoil.an [l0, way1, at2, bits3] H0 R = link_Link_Spoil.res l0 way1 at2 bits3 H0 R := by kernel_rfl
  exact vcFn_sound Try.callable Try.mixed Try.func13 (by kernel_rfl) (e.mpr h)

def link_Link_Twice.an : Ann := (.seq (.reg (.op 0 [] .nil)) (.seq (.seq (.reg (.op 0 [] (.op 1 [] (.op 2 [] (.op 3 [] .nil))))) (.cond (.seq (.reg (.op 0 [] .nil)) .leaf) .leaf)) (.seq (.reg (.op 0 [] (.op 1 [] .nil))) (.seq (.seq (.reg (.op 0 [] (.op 1 [] (.op 2 [] (.op 3 [] (.op 4 [] .nil)))))) (.cond (.seq (.reg (.op 0 [] .nil)) .leaf) .leaf)) (.seq (.reg (.op 0 [] (.op 1 [] (.op 2 [] (.op 3 [] (.op 4 [] .nil)))))) .leaf)))))
/-- (*lighter/link.Link).Twice -/
def link_Link_Twice.res (l0 : Value) (way1 : Value) (H0 : Heap) (R : Value → Heap → Prop) : Prop :=
 CallsH Try.prog 12 #[l0, way1] H0 fun x8 H_1 =>
 pEq 0 x8 (.int .i64 64) fun x9 =>
 pCond x9
 (R (.bool false) H_1)
 (pBox H_1 9 (str []) fun first5 H_2 =>
 pStore H_2 first5 (str []) fun _ H_3 =>
 CallsH Try.prog 17 #[l0, way1, (.func (.func 20) #[] #[first5])] H_3 fun x13 H_4 =>
 pNot x13 fun x14 =>
 pCond x14
 (R (.bool false) H_4)
 (pLoad H_4 first5 fun x17 =>
 CallsH Try.prog 9 #[l0, way1, x17] H_4 fun x18 H_5 =>
 R x18 H_5))
set_option maxRecDepth 100000 in
theorem link_Link_Twice.vc (l0 : Value) (way1 : Value) (H0 : Heap) (R : Value → Heap → Prop) (h : link_Link_Twice.res l0 way1 H0 R) : CallsH Try.prog 14 #[l0, way1] H0 R := by
  have e : vcFn Try.prog Try.C Try.f14 link_Link_Twice.an [l0, way1] H0 R = link_Link_Twice.res l0 way1 H0 R := by kernel_rfl
  exact vcFn_sound Try.callable Try.mixed Try.func14 (by kernel_rfl) (e.mpr h)

def link_Link_way.an : Ann := (.seq (.reg (.op 0 [] .nil)) (.seq (.seq (.reg (.op 0 [] (.op 1 [] (.op 2 [] (.grp 2 (.op 3 [] (.op 4 [] .nil)) 5 (.op 6 [] (.grp 6 (.op 7 [] (.op 8 [] .nil)) 9 .nil))))))) (.cond (.seq (.reg (.op 0 [] .nil)) .leaf) .leaf)) (.seq (.reg (.op 0 [] (.op 1 [] (.op 2 [] (.op 3 [] (.op 4 [] (.op 5 [] (.op 6 [] .nil)))))))) .leaf)))
/-- (*lighter/link.Link).way -/
def link_Link_way.res (l0 : Value) (i1 : Value) (H0 : Heap) (R : Value → Heap → Prop) : Prop :=
 pEq 3 l0 (.pointer none) fun x6 =>
 pOr x6 (fun J_1 =>
 pLt i1 (.int .i64 0) fun x9 =>
 J_1 x9 H0) H0 fun x10 H_2 => ∀ _ : Env,
 pOr x10 (fun J_3 =>
 pGe i1 (.int .i64 2) fun x13 =>
 J_3 x13 H_2) H_2 fun x14 H_4 => ∀ _ : Env,
 pCond x14
 (R (.chan none) H_4)
 (pNil l0 fun x17 =>
 pFieldAddr 0 x17 fun x18 =>
 pIdxArr 2 1 x18 i1 fun x19 =>
 pLoad H_4 x19 fun x20 =>
 R x20 H_4)
set_option maxRecDepth 100000 in
theorem link_Link_way.vc (l0 : Value) (i1 : Value) (H0 : Heap) (R : Value → Heap → Prop) (h : link_Link_way.res l0 i1 H0 R) : CallsH Try.prog 16 #[l0, i1] H0 R := by
  have e : vcFn Try.prog Try.C Try.f16 link_Link_way.an [l0, i1] H0 R = link_Link_way.res l0 i1 H0 R := by kernel_rfl
  exact vcFn_sound Try.callable Try.mixed Try.func16 (by kernel_rfl) (e.mpr h)

def link_Link_change.an : Ann := (.seq (.reg (.op 0 [] .nil)) (.seq (.reg (.op 0 [] (.op 1 [] (.op 2 [] (.op 3 [] .nil))))) (.seq (.reg (.op 0 [] (.op 1 [] (.op 2 [] (.op 3 [] (.op 4 [] (.op 5 [] (.op 6 [] (.op 7 [] .nil))))))))) (.seq (.seq (.reg (.op 0 [] (.op 1 [] .nil))) (.cond (.seq (.reg (.op 0 [] .nil)) .leaf) .leaf)) (.seq (.reg (.op 0 [] (.op 1 [] (.op 2 [] (.op 3 [] (.op 4 [] (.op 5 [] .nil))))))) (.seq (.seq (.reg (.op 0 [] (.op 1 [] (.op 2 [] .nil)))) (.block (.loop [29] [29, 30, 31, 32, 33, 34] (.seq (.reg (.op 0 [] .nil)) (.seq (.cond .leaf .leaf) (.seq (.block (.reg (.op 0 [] (.op 1 [] (.op 2 [] .nil))))) (.reg (.op 0 [] (.op 1 [] .nil))))))))) (.seq (.reg (.op 0 [] .nil)) .leaf)))))))
/-- (*lighter/link.Link).change -/
def link_Link_change.res (l0 : Value) (way1 : Value) (f2 : Value) (H0 : Heap) (R : Value → Heap → Prop) : Prop :=
 CallsH Try.prog 12 #[l0, way1] H0 fun x12 H_1 =>
 CallsH Try.prog 11 #[l0, way1] H_1 fun x16 H_2 =>
 pExtract 0 x16 fun x17 =>
 pExtract 1 x16 fun x18 =>
 pNot x18 fun x20 =>
 pCond x20
 (R (.bool false) H_2)
 (callH Try.prog Try.C f2 [x17] H_2 fun x25 H_3 =>
 CallsH Try.prog 9 #[l0, way1, x25] H_3 fun x26 H_4 =>
 pSub x12 (.int .i64 1) fun x28 =>
 ∃ (I_5 : Value → Heap → Prop) (m_6 : Value → Heap → Nat), I_5 (.int .i64 0) H_4 ∧
 ∀ _ : Env, ∀ x29 : Value, ∀ H_7 : Heap, I_5 x29 H_7 →
 pLt x29 x28 fun x30 =>
 pCond x30
 (CallsH Try.prog 10 #[l0, way1] H_7 fun x33 H_8 =>
 pAdd x29 (.int .i64 1) fun x34 =>
 I_5 x34 H_8 ∧ m_6 x34 H_8 < m_6 x29 H_7)
 (R (.bool true) H_7))
set_option maxRecDepth 100000 in
theorem link_Link_change.vc (l0 : Value) (way1 : Value) (f2 : Value) (H0 : Heap) (R : Value → Heap → Prop) (h : link_Link_change.res l0 way1 f2 H0 R) : CallsH Try.prog 17 #[l0, way1, f2] H0 R := by
  have e : vcFn Try.prog Try.C Try.f17 link_Link_change.an [l0, way1, f2] H0 R = link_Link_change.res l0 way1 f2 H0 R := by kernel_rfl
  exact vcFn_sound Try.callable Try.mixed Try.func17 (by kernel_rfl) (e.mpr h)

def link_Link_Spoil_f1.an : Ann := (.seq (.reg (.op 0 [] .nil)) (.seq (.reg (.op 0 [] (.op 1 [] (.op 2 [] (.op 3 [] (.op 4 [] .nil)))))) .leaf))
/-- (*lighter/link.Link).Spoil$1 -/
def link_Link_Spoil_f1.res (s0 : Value) (a1 : Value) (a2 : Value) (H0 : Heap) (R : Value → Heap → Prop) : Prop :=
 pLoad H0 a1 fun x6 =>
 pLoad H0 a2 fun x7 =>
 CallsH Try.prog 19 #[s0, x6, x7] H0 fun x8 H_1 =>
 R x8 H_1
set_option maxRecDepth 100000 in
theorem link_Link_Spoil_f1.vc (s0 : Value) (a1 : Value) (a2 : Value) (H0 : Heap) (R : Value → Heap → Prop) (h : link_Link_Spoil_f1.res s0 a1 a2 H0 R) : CallsH Try.prog 18 #[s0, a1, a2] H0 R := by
  have e : vcFn Try.prog Try.C Try.f18 link_Link_Spoil_f1.an [s0, a1, a2] H0 R = link_Link_Spoil_f1.res s0 a1 a2 H0 R := by kernel_rfl
  exact vcFn_sound Try.callable Try.mixed Try.func18 (by kernel_rfl) (e.mpr h)

def link_turned.an : Ann := (.seq (.reg (.op 0 [] .nil)) (.seq (.reg (.op 0 [] (.op 1 [] (.op 2 [] .nil)))) (.seq (.seq (.reg (.op 0 [] .nil)) (.block (.loop [11] [8, 11, 12, 13, 14, 15, 16, 17, 18, 19, 20, 21, 22, 23, 24, 25, 26, 27, 28, 29, 30, 31, 32, 33, 34, 35, 36, 37, 38, 39, 40, 41, 42, 43, 44, 45, 46, 47, 48] (.seq (.reg (.op 0 [] .nil)) (.seq (.cond .leaf .leaf) (.seq (.block (.seq (.reg (.op 0 [] (.op 1 [] .nil))) (.seq (.seq (.reg (.op 0 [] (.op 1 [] (.op 2 [] (.op 3 [] (.op 4 [] (.op 5 [] (.grp 5 (.op 6 [] (.op 7 [] (.op 8 [] (.op 9 [] .nil)))) 10 (.op 11 [] (.grp 11 (.op 12 [] (.op 13 [] (.op 14 [] (.op 15 [] (.op 16 [] (.op 17 [] (.op 18 [] .nil))))))) 19 .nil)))))))))) (.cond .leaf .leaf)) (.drw [0, 0, 0, 6, 14, 31, 63, 0, 0, 384, 896, 1920, 4095, 8191, 16383] (.op 0 [] (.op 1 [] (.op 2 [] (.op 3 [] (.op 4 [] (.op 5 [] (.op 6 [] (.op 7 [] (.op 8 [] (.op 9 [] (.op 10 [] (.op 11 [] (.op 12 [] (.op 13 [] (.op 14 [] .nil))))))))))))))))))) (.reg (.op 0 [] (.op 1 [] .nil))))))))) (.seq (.reg (.op 0 [] (.op 1 [] (.op 2 [] .nil)))) .leaf))))
/-- lighter/link.turned -/
def link_turned.res (s0 : Value) (at1 : Value) (bits2 : Value) (H0 : Heap) (R : Value → Heap → Prop) : Prop :=
 pBytes H0 5 s0 fun x10 H_1 =>
 ∃ (I_2 : Value → Heap → Prop) (m_3 : Value → Heap → Nat), I_2 (.int .i64 0) H_1 ∧
 ∀ _ : Env, ∀ x11 : Value, ∀ H_4 : Heap, I_2 x11 H_4 →
 pLt x11 (.int .i64 32) fun x12 =>
 pCond x12
 (pShr bits2 x11 fun x16 =>
 pBits .and x16 (.int .u32 1) fun x17 =>
 pEq 0 x17 (.int .u32 0) fun x18 =>
 pOr x18 (fun J_5 =>
 pNeg x11 fun x22 =>
 pLt at1 x22 fun x23 =>
 J_5 x23 H_4) H_4 fun x24 H_6 => ∀ _ : Env,
 pOr x24 (fun J_7 =>
 pLen x10 fun x28 =>
 pMul (.int .i64 8) x28 fun x29 =>
 pSub x29 x11 fun x31 =>
 pGe at1 x31 fun x32 =>
 J_7 x32 H_6) H_6 fun x33 H_8 => ∀ _ : Env,
 pCond x33
 (pAdd x11 (.int .i64 1) fun x48 =>
 I_2 x48 H_8 ∧ m_3 x48 H_8 < m_3 x11 H_4)
 (pAdd at1 x11 fun x37 =>
 pQuo x37 (.int .i64 8) fun x38 =>
 pIdxSl 1 x10 x38 fun x39 =>
 pLoad H_8 x39 fun x40 =>
 pAdd at1 x11 fun x43 =>
 pRem x43 (.int .i64 8) fun x44 =>
 pShl (.int .u8 1) x44 fun x45 =>
 pBits .xor x40 x45 fun x46 =>
 pIdxSl 1 x10 x38 fun x47 =>
 pStore H_8 x47 x46 fun _ H_9 =>
 pAdd x11 (.int .i64 1) fun x48 =>
 I_2 x48 H_9 ∧ m_3 x48 H_9 < m_3 x11 H_4))
 (pStrOf H_4 x10 fun x50 =>
 R x50 H_4)
set_option maxRecDepth 100000 in
theorem link_turned.vc (s0 : Value) (at1 : Value) (bits2 : Value) (H0 : Heap) (R : Value → Heap → Prop) (h : link_turned.res s0 at1 bits2 H0 R) : CallsH Try.prog 19 #[s0, at1, bits2] H0 R := by
  have e : vcFn Try.prog Try.C Try.f19 link_turned.an [s0, at1, bits2] H0 R = link_turned.res s0 at1 bits2 H0 R := by kernel_rfl
  exact vcFn_sound Try.callable Try.mixed Try.func19 (by kernel_rfl) (e.mpr h)

def link_Link_Twice_f1.an : Ann := (.seq (.reg (.op 0 [] .nil)) (.seq (.reg (.op 0 [] (.op 1 [] .nil))) (.seq (.reg (.op 0 [] (.op 1 [] .nil))) .leaf)))
/-- (*lighter/link.Link).Twice$1 -/
def link_Link_Twice_f1.res (s0 : Value) (a1 : Value) (H0 : Heap) (R : Value → Heap → Prop) : Prop :=
 pStore H0 a1 s0 fun _ H_1 =>
 R s0 H_1
set_option maxRecDepth 100000 in
theorem link_Link_Twice_f1.vc (s0 : Value) (a1 : Value) (H0 : Heap) (R : Value → Heap → Prop) (h : link_Link_Twice_f1.res s0 a1 H0 R) : CallsH Try.prog 20 #[s0, a1] H0 R := by
  have e : vcFn Try.prog Try.C Try.f20 link_Link_Twice_f1.an [s0, a1] H0 R = link_Link_Twice_f1.res s0 a1 H0 R := by kernel_rfl
  exact vcFn_sound Try.callable Try.mixed Try.func20 (by kernel_rfl) (e.mpr h)

end Go.Proofs.Ytelldphojhmhfaa
