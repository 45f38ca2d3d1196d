/- The rules of XVcDefs against the model's own operations. -/
import Derived.Test.YtfmbgnchedhneaaDoorVcDefs
import Derived.Laws.Entries
import Derived.Laws.Cells
import Derived.Laws.IdiomCopy
namespace Go.Vc
open Go
set_option linter.unusedSimpArgs false
set_option linter.unusedVariables false

section
variable {P : Program}
theorem run_und {t : TypeId} {d : TypeDesc} (h : P.underlying t = some d) (w : World) : (underlying t).run P w = .ok d w := run_underlying h w
theorem run_info {t : TypeId} {i : TypeInfo} (h : P.info? t = some i) (w : World) : (typeInfo t).run P w = .ok i w := by
  simp [typeInfo, h]
theorem run_size {t : TypeId} {i : TypeInfo} (h : P.info? t = some i) (w : World) : (Go.sizeOf t).run P w = .ok i.size w := by
  simp [Go.sizeOf, run_info h]
theorem run_zero {t : TypeId} {i : TypeInfo} {z : Value} (h : P.info? t = some i) (hz : i.zero = some z) (w : World) : (zeroValue t).run P w = .ok z w := by
  simp [zeroValue, run_info h, hz]
theorem run_isAgg {t : TypeId} {d : TypeDesc} (h : P.underlying t = some d) (w : World) : (isAgg t).run P w = .ok (isAggT P t) w := by
  simp only [isAgg, Sem.run_bind, run_und h, Result.andThen_ok, isAggT, h]
  cases d <;> rfl
theorem zeroT_some {t : TypeId} {z : Value} (h : zeroT P t = some z) : ∃ i, P.info? t = some i ∧ i.zero = some z := by
  unfold zeroT at h
  cases hi : P.info? t with
  | none => simp [hi] at h
  | some i => exact ⟨i, rfl, by simpa [hi] using h⟩

theorem run_eqGuard {op : BinOp} {t : TypeId} {x y : Operand} {a b : Value} {c : Bool} {k : Nat} (h : eqK k a b = some c) (w : World) : (eqGuard op t x y a b).run P w = .ok () w := by
  unfold eqGuard
  cases a <;> cases b <;> simp [eqK] at h <;> simp
theorem run_eqGuard' {op : BinOp} {t : TypeId} {x y : Operand} {a b : Value} (h : op ≠ .eql ∧ op ≠ .neq) (w : World) : (eqGuard op t x y a b).run P w = .ok () w := by
  unfold eqGuard
  cases op <;> simp_all

/-- what a binary operation comes to -/
def BinRun (P : Program) (op : BinOp) (t : TypeId) (x y : Operand) (a b : Value) (K : Value → Prop) : Prop :=
  ∃ v, (∀ w, (do eqGuard op t x y a b; binOp op t a b : Sem Value).run P w = .ok v w) ∧ K v
theorem BinRun.of {op : BinOp} {t : TypeId} {x y : Operand} {a b v : Value} {K : Value → Prop} (hop : op ≠ .eql ∧ op ≠ .neq) (h : ∀ w, (binOp op t a b).run P w = .ok v w) (hv : K v) : BinRun P op t x y a b K :=
  ⟨v, fun w => by simp only [Sem.run_bind, run_eqGuard' hop, Result.andThen_ok, h], hv⟩
theorem bys_append (a b : ByteArray) : (⟨(bys a ++ bys b).toArray⟩ : ByteArray) = a ++ b := by
  cases a; cases b; simp [bys, ByteArray.ext_iff, ByteArray.data_append]
theorem bys_length (a : ByteArray) : (bys a).length = a.size := by cases a; simp [bys, ByteArray.size]
theorem toList_bys (s : ByteArray) : s.toList = bys s := by
  have hl : ∀ (n i : Nat) (r : List UInt8), s.size - i = n → ByteArray.toList.loop s i r = r.reverse ++ (bys s).drop i := by
    intro n
    induction n with
    | zero =>
      intro i r h
      unfold ByteArray.toList.loop
      rw [if_neg (by omega), List.drop_eq_nil_of_le (by rw [bys_length]; omega), List.append_nil]
    | succ n ih =>
      intro i r h
      unfold ByteArray.toList.loop
      rw [if_pos (by omega), ih (i + 1) _ (by omega)]
      have hi : i < (bys s).length := by rw [bys_length]; omega
      rw [List.drop_eq_getElem_cons hi, List.reverse_cons, List.append_assoc, List.singleton_append]
      congr 2
      cases s
      simp [bys, ByteArray.get!] at hi ⊢
      simp [hi]
  have := hl s.size 0 [] (by omega)
  simpa [ByteArray.toList] using this
theorem bys_eq (a b : ByteArray) : (a.toList == b.toList) = decide (bys a = bys b) := by
  have h : ∀ s : ByteArray, s.toList = bys s := toList_bys
  rw [h, h]
  by_cases e : bys a = bys b <;> simp [e]
theorem bys_inj {a b : ByteArray} : bys a = bys b ↔ a = b := by
  constructor
  · intro h; cases a; cases b; simp [bys] at h; simp [h]
  · rintro rfl; rfl
theorem byteArray_beq (a b : ByteArray) : (a == b) = decide (bys a = bys b) := by
  have h : (a == b) = (a.data == b.data) := by cases a; cases b; rfl
  rw [h, Bool.eq_iff_iff]
  simp [bys]
variable {t : TypeId} {x y : Operand} {a b : Value} {K : Value → Prop}
theorem pAdd_run (h : pAdd a b K) : BinRun P .add t x y a b K := by
  cases a <;> cases b <;> simp only [pAdd] at h
  · obtain ⟨rfl, hk⟩ := h
    exact .of (by simp) (fun w => by simp [binOp, Op.intArith]) hk
  · obtain ⟨hs, hk⟩ := h
    refine .of (by simp) (fun w => ?_) hk
    rename_i a b
    have hm : IntKind.i64.max = 9223372036854775807 := by decide
    have : ¬ ((a.size + b.size : Nat) : Int) > IntKind.i64.max := by rw [hm]; omega
    simp only [binOp, Op.stringOp, if_neg this, str, bys_append]
    rfl
theorem pSub_run (h : pSub a b K) : BinRun P .sub t x y a b K := by
  cases a <;> cases b <;> simp only [pSub] at h
  obtain ⟨rfl, hk⟩ := h
  exact .of (by simp) (fun w => by simp [binOp, Op.intArith]) hk
theorem pMul_run (h : pMul a b K) : BinRun P .mul t x y a b K := by
  cases a <;> cases b <;> simp only [pMul] at h
  obtain ⟨rfl, hk⟩ := h
  exact .of (by simp) (fun w => by simp [binOp, Op.intArith]) hk
theorem pQuo_run (h : pQuo a b K) : BinRun P .quo t x y a b K := by
  cases a <;> cases b <;> simp only [pQuo] at h
  obtain ⟨rfl, h0, hk⟩ := h
  exact .of (by simp) (fun w => by simp [binOp, Op.intDiv, h0]) hk
theorem pRem_run (h : pRem a b K) : BinRun P .rem t x y a b K := by
  cases a <;> cases b <;> simp only [pRem] at h
  obtain ⟨rfl, h0, hk⟩ := h
  exact .of (by simp) (fun w => by simp [binOp, Op.intDiv, h0]) hk
theorem pBits_run {op : BinOp} (hop : op = .and ∨ op = .or ∨ op = .xor ∨ op = .andNot) (h : pBits op a b K) : BinRun P op t x y a b K := by
  cases a <;> cases b <;> simp only [pBits] at h
  obtain ⟨rfl, hk⟩ := h
  rcases hop with rfl | rfl | rfl | rfl <;> exact .of (by simp) (fun w => by simp [binOp, Op.intBits, bitsOf]) hk
theorem pShl_run (h : pShl a b K) : BinRun P .shl t x y a b K := by
  cases a <;> cases b <;> simp only [pShl] at h
  obtain ⟨h0, hk⟩ := h
  exact .of (by simp) (fun w => by simp only [binOp, Op.shift]; rw [if_neg (by omega)]; rfl) hk
theorem pShr_run (h : pShr a b K) : BinRun P .shr t x y a b K := by
  cases a <;> cases b <;> simp only [pShr] at h
  obtain ⟨h0, hk⟩ := h
  exact .of (by simp) (fun w => by simp only [binOp, Op.shift]; rw [if_neg (by omega)]; rfl) hk
theorem pLt_run (h : pLt a b K) : BinRun P .lss t x y a b K := by
  cases a <;> cases b <;> simp only [pLt] at h
  obtain ⟨rfl, hk⟩ := h
  exact .of (by simp) (fun w => by simp [binOp, Op.intCmp]) hk
theorem pLe_run (h : pLe a b K) : BinRun P .leq t x y a b K := by
  cases a <;> cases b <;> simp only [pLe] at h
  obtain ⟨rfl, hk⟩ := h
  exact .of (by simp) (fun w => by simp [binOp, Op.intCmp]) hk
theorem pGt_run (h : pGt a b K) : BinRun P .gtr t x y a b K := by
  cases a <;> cases b <;> simp only [pGt] at h
  obtain ⟨rfl, hk⟩ := h
  exact .of (by simp) (fun w => by simp [binOp, Op.intCmp]) hk
theorem pGe_run (h : pGe a b K) : BinRun P .geq t x y a b K := by
  cases a <;> cases b <;> simp only [pGe] at h
  obtain ⟨rfl, hk⟩ := h
  exact .of (by simp) (fun w => by simp [binOp, Op.intCmp]) hk
theorem eqK0 {c : Bool} (h : eqK 0 a b = some c) : ∃ k m n, a = .int k m ∧ b = .int k n ∧ c = decide (m = n) := by
  cases a <;> simp only [eqK, reduceCtorEq] at h
  cases b <;> simp only [eqK, reduceCtorEq] at h
  split at h
  · rename_i e; subst e; exact ⟨_, _, _, rfl, rfl, by simpa using h.symm⟩
  · simp at h
theorem eqK1 {c : Bool} (h : eqK 1 a b = some c) : ∃ s t, a = .string s ∧ b = .string t ∧ c = decide (bys s = bys t) := by
  cases a <;> simp only [eqK, reduceCtorEq] at h
  cases b <;> simp only [eqK, reduceCtorEq] at h
  exact ⟨_, _, rfl, rfl, by simpa using h.symm⟩
theorem eqK2 {c : Bool} (h : eqK 2 a b = some c) : ∃ s t, a = .bool s ∧ b = .bool t ∧ c = decide (s = t) := by
  cases a <;> simp only [eqK, reduceCtorEq] at h
  cases b <;> simp only [eqK, reduceCtorEq] at h
  exact ⟨_, _, rfl, rfl, by simpa using h.symm⟩
theorem run_equalIn_of {d : TypeDesc} {n k : Nat} {c : Bool} (hu : P.underlying t = some d) (hd : kindD d = some k) (h : eqK k a b = some c) (w : World) :
    (Op.equalIn (n + 1) t a b).run P w = .ok c w := by
  have hr := run_und hu
  cases d <;> simp only [kindD, reduceCtorEq, Option.some.injEq] at hd <;> subst hd
  case bool =>
    obtain ⟨s, t, rfl, rfl, rfl⟩ := eqK2 h
    simp [Op.equalIn, hr]; cases s <;> cases t <;> rfl
  case int =>
    obtain ⟨k, m, n, rfl, rfl, rfl⟩ := eqK0 h
    simp [Op.equalIn, hr]
    rw [Bool.eq_iff_iff]; simp
  case string =>
    obtain ⟨s, t, rfl, rfl, rfl⟩ := eqK1 h
    simp [Op.equalIn, hr, byteArray_beq]
  case pointer =>
    cases a <;> (try simp only [eqK, reduceCtorEq] at h)
    rename_i p
    cases p <;> cases b <;> (try simp only [eqK, reduceCtorEq] at h)
    · simp [Op.equalIn, hr]; simpa using h
    · rename_i p q; cases q <;> simp [eqK] at h
      subst h; simp [Op.equalIn, hr]
  case slice =>
    cases a <;> (try simp only [eqK, reduceCtorEq] at h)
    rename_i p _ _
    cases p <;> cases b <;> (try simp only [eqK, reduceCtorEq] at h)
    · simp [Op.equalIn, hr]; simpa using h
    · rename_i q _ _; cases q <;> simp [eqK] at h
      subst h; simp [Op.equalIn, hr]
  case map =>
    cases a <;> (try simp only [eqK, reduceCtorEq] at h)
    rename_i p
    cases p <;> cases b <;> (try simp only [eqK, reduceCtorEq] at h)
    · simp [Op.equalIn, hr]; simpa using h
    · rename_i q; cases q <;> simp [eqK] at h
      subst h; simp [Op.equalIn, hr]
theorem run_eq_of {d : TypeDesc} {k : Nat} {c : Bool} (hu : P.underlying t = some d) (hd : kindD d = some k) (h : eqK k a b = some c) (w : World) :
    (binOp .eql t a b).run P w = .ok (.bool c) w ∧ (binOp .neq t a b).run P w = .ok (.bool !c) w := by
  have he := run_equalIn_of (n := 9999) hu hd h w
  cases d <;> simp only [kindD, reduceCtorEq, Option.some.injEq] at hd <;> subst hd
  case bool => obtain ⟨s, t, rfl, rfl, rfl⟩ := eqK2 h; constructor <;> simp only [binOp, Op.equal, Op.maxDepth, Sem.run_bind, he, Result.andThen_ok] <;> rfl
  case int =>
    obtain ⟨k, m, n, rfl, rfl, rfl⟩ := eqK0 h
    have : (m == n) = decide (m = n) := by rw [Bool.eq_iff_iff]; simp
    constructor <;> simp [binOp, Op.intCmp, bne, this]
  case string =>
    obtain ⟨s, t, rfl, rfl, rfl⟩ := eqK1 h
    constructor <;> simp [binOp, Op.stringOp, bys_eq]
  case pointer =>
    cases a <;> (try simp only [eqK, reduceCtorEq] at h)
    cases b <;> (try simp only [eqK, reduceCtorEq] at h)
    constructor <;> simp only [binOp, Op.equal, Op.maxDepth, Sem.run_bind, he, Result.andThen_ok] <;> rfl
  case slice =>
    cases a <;> (try simp only [eqK, reduceCtorEq] at h)
    cases b <;> (try simp only [eqK, reduceCtorEq] at h)
    constructor <;> simp only [binOp, Op.equal, Op.maxDepth, Sem.run_bind, he, Result.andThen_ok] <;> rfl
  case map =>
    cases a <;> (try simp only [eqK, reduceCtorEq] at h)
    cases b <;> (try simp only [eqK, reduceCtorEq] at h)
    constructor <;> simp only [binOp, Op.equal, Op.maxDepth, Sem.run_bind, he, Result.andThen_ok] <;> rfl
theorem pEq_run {d : TypeDesc} {k : Nat} (hu : P.underlying t = some d) (hd : kindD d = some k) (h : pEq k a b K) : BinRun P .eql t x y a b K := by
  unfold pEq at h
  split at h
  · rename_i c hc
    exact ⟨_, fun w => by simp only [Sem.run_bind, run_eqGuard hc, Result.andThen_ok, (run_eq_of hu hd hc w).1], h⟩
  · exact h.elim
theorem pNe_run {d : TypeDesc} {k : Nat} (hu : P.underlying t = some d) (hd : kindD d = some k) (h : pNe k a b K) : BinRun P .neq t x y a b K := by
  unfold pNe at h
  split at h
  · rename_i c hc
    exact ⟨_, fun w => by simp only [Sem.run_bind, run_eqGuard hc, Result.andThen_ok, (run_eq_of hu hd hc w).2], h⟩
  · exact h.elim
end
end Go.Vc
