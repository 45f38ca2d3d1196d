/- Steps of a proof over residuals: what simp may do, and what it may not look into; wraps; heaps. -/
import Derived.Test.YtfmbgnchedhneaaDoorVcSoundC
set_option linter.unusedSimpArgs false
set_option linter.unusedVariables false
namespace Go.Vc
open Go

/-! ### simp looks at the operands alone, not at what comes behind -/
section
variable {K : Value → Prop} {x x' y y' z z' : Value}
@[congr] theorem pPick_congr (h : x = x') (h2 : y = y') (h3 : z = z') : pPick x y z K = pPick x' y' z' K := by rw [h, h2, h3]
@[congr] theorem pNil_congr (h : x = x') : pNil x K = pNil x' K := by rw [h]
@[congr] theorem pAdd_congr (h : x = x') (h2 : y = y') : pAdd x y K = pAdd x' y' K := by rw [h, h2]
@[congr] theorem pSub_congr (h : x = x') (h2 : y = y') : pSub x y K = pSub x' y' K := by rw [h, h2]
@[congr] theorem pMul_congr (h : x = x') (h2 : y = y') : pMul x y K = pMul x' y' K := by rw [h, h2]
@[congr] theorem pQuo_congr (h : x = x') (h2 : y = y') : pQuo x y K = pQuo x' y' K := by rw [h, h2]
@[congr] theorem pRem_congr (h : x = x') (h2 : y = y') : pRem x y K = pRem x' y' K := by rw [h, h2]
@[congr] theorem pBits_congr {o : BinOp} (h : x = x') (h2 : y = y') : pBits o x y K = pBits o x' y' K := by rw [h, h2]
@[congr] theorem pShl_congr (h : x = x') (h2 : y = y') : pShl x y K = pShl x' y' K := by rw [h, h2]
@[congr] theorem pShr_congr (h : x = x') (h2 : y = y') : pShr x y K = pShr x' y' K := by rw [h, h2]
@[congr] theorem pLt_congr (h : x = x') (h2 : y = y') : pLt x y K = pLt x' y' K := by rw [h, h2]
@[congr] theorem pLe_congr (h : x = x') (h2 : y = y') : pLe x y K = pLe x' y' K := by rw [h, h2]
@[congr] theorem pGt_congr (h : x = x') (h2 : y = y') : pGt x y K = pGt x' y' K := by rw [h, h2]
@[congr] theorem pGe_congr (h : x = x') (h2 : y = y') : pGe x y K = pGe x' y' K := by rw [h, h2]
@[congr] theorem pEq_congr {k : Nat} (h : x = x') (h2 : y = y') : pEq k x y K = pEq k x' y' K := by rw [h, h2]
@[congr] theorem pNe_congr {k : Nat} (h : x = x') (h2 : y = y') : pNe k x y K = pNe k x' y' K := by rw [h, h2]
@[congr] theorem pEqA_congr {k : List Nat} (h : x = x') (h2 : y = y') : pEqA k x y K = pEqA k x' y' K := by rw [h, h2]
@[congr] theorem pNeA_congr {k : List Nat} (h : x = x') (h2 : y = y') : pNeA k x y K = pNeA k x' y' K := by rw [h, h2]
@[congr] theorem pNot_congr (h : x = x') : pNot x K = pNot x' K := by rw [h]
@[congr] theorem pNeg_congr (h : x = x') : pNeg x K = pNeg x' K := by rw [h]
@[congr] theorem pCom_congr (h : x = x') : pCom x K = pCom x' K := by rw [h]
@[congr] theorem pConv_congr {k : IntKind} (h : x = x') : pConv k x K = pConv k x' K := by rw [h]
@[congr] theorem pConvS_congr (h : x = x') : pConvS x K = pConvS x' K := by rw [h]
@[congr] theorem pMin_congr (h : x = x') (h2 : y = y') : pMin x y K = pMin x' y' K := by rw [h, h2]
@[congr] theorem pMax_congr (h : x = x') (h2 : y = y') : pMax x y K = pMax x' y' K := by rw [h, h2]
@[congr] theorem pFieldAddr_congr {o : Nat} (h : x = x') : pFieldAddr o x K = pFieldAddr o x' K := by rw [h]
@[congr] theorem pField1_congr {o : Nat} (h : x = x') : pField1 o x K = pField1 o x' K := by rw [h]
@[congr] theorem pFieldN_congr {o n : Nat} (h : x = x') : pFieldN o n x K = pFieldN o n x' K := by rw [h]
@[congr] theorem pExtract_congr {o : Nat} (h : x = x') : pExtract o x K = pExtract o x' K := by rw [h]
@[congr] theorem pIdxArr_congr {l s : Nat} (h : x = x') (h2 : y = y') : pIdxArr l s x y K = pIdxArr l s x' y' K := by rw [h, h2]
@[congr] theorem pIdxSl_congr {s : Nat} (h : x = x') (h2 : y = y') : pIdxSl s x y K = pIdxSl s x' y' K := by rw [h, h2]
@[congr] theorem pIdxStr_congr (h : x = x') (h2 : y = y') : pIdxStr x y K = pIdxStr x' y' K := by rw [h, h2]
@[congr] theorem pIdxAgg_congr {l : Nat} (h : x = x') (h2 : y = y') : pIdxAgg l x y K = pIdxAgg l x' y' K := by rw [h, h2]
@[congr] theorem pSlStr_congr {lo lo' hi hi' : Option Value} (h : x = x') (h2 : lo = lo') (h3 : hi = hi') : pSlStr x lo hi K = pSlStr x' lo' hi' K := by rw [h, h2, h3]
@[congr] theorem pSlSl_congr {s : Nat} {lo lo' hi hi' : Option Value} (h : x = x') (h2 : lo = lo') (h3 : hi = hi') : pSlSl s x lo hi K = pSlSl s x' lo' hi' K := by rw [h, h2, h3]
@[congr] theorem pSlArr_congr {n s : Nat} {lo lo' hi hi' : Option Value} (h : x = x') (h2 : lo = lo') (h3 : hi = hi') : pSlArr n s x lo hi K = pSlArr n s x' lo' hi' K := by rw [h, h2, h3]
@[congr] theorem pLenS_congr (h : x = x') : pLenS x K = pLenS x' K := by rw [h]
@[congr] theorem pLen_congr (h : x = x') : pLen x K = pLen x' K := by rw [h]
@[congr] theorem pCap_congr (h : x = x') : pCap x K = pCap x' K := by rw [h]
@[congr] theorem pBuild_congr {c : List Value} {p p' : List (Nat × Nat × Value)} (h : p = p') : pBuild c p K = pBuild c p' K := by rw [h]
variable {H H' : Heap}
@[congr] theorem pLoad_congr (h0 : H = H') (h : x = x') : pLoad H x K = pLoad H' x' K := by rw [h0, h]
@[congr] theorem pLoadN_congr {n : Nat} (h0 : H = H') (h : x = x') : pLoadN H n x K = pLoadN H' n x' K := by rw [h0, h]
@[congr] theorem pStrOf_congr (h0 : H = H') (h : x = x') : pStrOf H x K = pStrOf H' x' K := by rw [h0, h]
@[congr] theorem pLookup_congr {k : Nat} {b : Bool} (h0 : H = H') (h : x = x') (h2 : y = y') : pLookup H k z b x y K = pLookup H' k z b x' y' K := by rw [h0, h, h2]
@[congr] theorem pLenM_congr (h0 : H = H') (h : x = x') : pLenM H x K = pLenM H' x' K := by rw [h0, h]
variable {KE : Value → Heap → Prop}
@[congr] theorem pStore_congr (h0 : H = H') (h : x = x') (h2 : y = y') : pStore H x y KE = pStore H' x' y' KE := by rw [h0, h, h2]
@[congr] theorem pStoreN_congr {n : Nat} (h0 : H = H') (h : x = x') (h2 : y = y') : pStoreN H n x y KE = pStoreN H' n x' y' KE := by rw [h0, h, h2]
@[congr] theorem pBox_congr {e : TypeId} (h0 : H = H') (h : x = x') : pBox H e x KE = pBox H' e x' KE := by rw [h0, h]
@[congr] theorem pMakeMap_congr (h0 : H = H') : pMakeMap H KE = pMakeMap H' KE := by rw [h0]
@[congr] theorem pMakeSl_congr {e : TypeId} {b : Nat} {l : List Value} (h0 : H = H') (h : x = x') (h2 : y = y') : pMakeSl H e b l x y KE = pMakeSl H' e b l x' y' KE := by rw [h0, h, h2]
@[congr] theorem pBuildSl_congr {e : TypeId} {b : Nat} {l : List Value} {p p' : List (Nat × Nat × Value)} (h0 : H = H') (h : p = p') : pBuildSl H e b l p KE = pBuildSl H' e b l p' KE := by rw [h0, h]
@[congr] theorem pBytes_congr {e : TypeId} (h0 : H = H') (h : x = x') : pBytes H e x KE = pBytes H' e x' KE := by rw [h0, h]
@[congr] theorem pAppend_congr {e : TypeId} {s b : Nat} {l : List Value} (h0 : H = H') (h : x = x') (h2 : y = y') : pAppend H e s b l x y KE = pAppend H' e s b l x' y' KE := by rw [h0, h, h2]
@[congr] theorem pCopy_congr {s : Nat} (h0 : H = H') (h : x = x') (h2 : y = y') : pCopy H s x y KE = pCopy H' s x' y' KE := by rw [h0, h, h2]
@[congr] theorem pMapSet_congr {k : Nat} (h0 : H = H') (h : x = x') (h2 : y = y') (h3 : z = z') : pMapSet H k x y z KE = pMapSet H' k x' y' z' KE := by rw [h0, h, h2, h3]
@[congr] theorem pDelete_congr {k : Nat} (h0 : H = H') (h : x = x') (h2 : y = y') : pDelete H k x y KE = pDelete H' k x' y' KE := by rw [h0, h, h2]
@[congr] theorem pClearS_congr {z : List Value} (h0 : H = H') (h : x = x') : pClearS H z x KE = pClearS H' z x' KE := by rw [h0, h]
@[congr] theorem pClearM_congr (h0 : H = H') (h : x = x') : pClearM H x KE = pClearM H' x' KE := by rw [h0, h]
@[congr] theorem pSem_congr {P : Program} {s : Sem Value} (h0 : H = H') : pSem H P s KE = pSem H' P s KE := by rw [h0]
@[congr] theorem CallsH_congr {P : Program} {f : FuncId} {a a' : Array Value} (h : a = a') (h0 : H = H') : CallsH P f a H KE = CallsH P f a' H' KE := by rw [h, h0]
@[congr] theorem callH_congr {P : Program} {C : List Nat} {a a' : List Value} (h : x = x') (h2 : a = a') (h0 : H = H') : callH P C x a H KE = callH P C x' a' H' KE := by rw [h, h2, h0]
@[congr] theorem pCond_congr {A B : Prop} (h : x = x') : pCond x A B = pCond x' A B := by rw [h]
@[congr] theorem pAnd_congr {b b' : (Value → Heap → Prop) → Prop} (h : x = x') (hb : ∀ J, b J = b' J) (h0 : H = H') : pAnd x b H KE = pAnd x' b' H' KE := by rw [h, h0, show b = b' from funext hb]
@[congr] theorem pOr_congr {b b' : (Value → Heap → Prop) → Prop} (h : x = x') (hb : ∀ J, b J = b' J) (h0 : H = H') : pOr x b H KE = pOr x' b' H' KE := by rw [h, h0, show b = b' from funext hb]

/-! ### && and || -/
theorem pAnd_true {b : (Value → Heap → Prop) → Prop} (h : b KE) : pAnd (.bool true) b H KE := ⟨KE, fun _ _ h => h, (fun h => by cases h), fun _ => h⟩
theorem pAnd_false {b : (Value → Heap → Prop) → Prop} : pAnd (.bool false) b H KE = KE (.bool false) H := by
  apply propext; constructor
  · rintro ⟨J, h1, h2, _⟩; exact h1 _ _ (h2 rfl)
  · intro h; exact ⟨KE, fun _ _ h => h, fun _ => h, (fun h => by cases h)⟩
theorem pOr_true {b : (Value → Heap → Prop) → Prop} : pOr (.bool true) b H KE = KE (.bool true) H := by
  apply propext; constructor
  · rintro ⟨J, h1, h2, _⟩; exact h1 _ _ (h2 rfl)
  · intro h; exact ⟨KE, fun _ _ h => h, fun _ => h, (fun h => by cases h)⟩
theorem pOr_false {b : (Value → Heap → Prop) → Prop} (h : b KE) : pOr (.bool false) b H KE := ⟨KE, fun _ _ h => h, (fun h => by cases h), fun _ => h⟩
/-- the second test always comes to an answer -/
theorem pAnd_pure {a d : Bool} : pAnd (.bool a) (fun J => J (.bool d) H) H KE = KE (.bool (a && d)) H := by
  apply propext; cases a
  · rw [pAnd_false]; rfl
  · constructor
    · rintro ⟨J, h1, _, h2⟩; exact h1 _ _ (h2 rfl)
    · intro h; exact pAnd_true h
theorem pOr_pure {a d : Bool} : pOr (.bool a) (fun J => J (.bool d) H) H KE = KE (.bool (a || d)) H := by
  apply propext; cases a
  · constructor
    · rintro ⟨J, h1, _, h2⟩; exact h1 _ _ (h2 rfl)
    · intro h; exact pOr_false h
  · rw [pOr_true]; rfl
/-- the second test comes to an answer where the first says so, and leaves the heap alone -/
theorem pAnd_if {a d : Bool} {b : (Value → Heap → Prop) → Prop} (hb : a = true → b (fun v H' => v = .bool d ∧ H' = H)) (h : KE (.bool (a && d)) H) : pAnd (.bool a) b H KE := by
  refine ⟨fun v H' => v = .bool (a && d) ∧ H' = H, fun v H' h' => by rw [h'.1, h'.2]; exact h, fun ha => by rw [ha]; exact ⟨rfl, rfl⟩, fun ha => ?_⟩
  have := hb ha
  subst ha
  exact this
theorem pOr_if {a d : Bool} {b : (Value → Heap → Prop) → Prop} (hb : a = false → b (fun v H' => v = .bool d ∧ H' = H)) (h : KE (.bool (a || d)) H) : pOr (.bool a) b H KE := by
  refine ⟨fun v H' => v = .bool (a || d) ∧ H' = H, fun v H' h' => by rw [h'.1, h'.2]; exact h, fun ha => by rw [ha]; exact ⟨rfl, rfl⟩, fun ha => ?_⟩
  have := hb ha
  subst ha
  exact this
/-- each way by itself -/
theorem pAnd_split {a : Bool} {b : (Value → Heap → Prop) → Prop} (h0 : a = false → KE (.bool false) H) (h1 : a = true → b KE) : pAnd (.bool a) b H KE := ⟨KE, fun _ _ h => h, h0, h1⟩
theorem pOr_split {a : Bool} {b : (Value → Heap → Prop) → Prop} (h0 : a = true → KE (.bool true) H) (h1 : a = false → b KE) : pOr (.bool a) b H KE := ⟨KE, fun _ _ h => h, h0, h1⟩
/-- a law's 'a && b && ..' that must come out true -/
theorem pCond_bool {b : Bool} {A B : Prop} : pCond (.bool b) A B = ((b = true → A) ∧ (b = false → B)) := rfl
theorem pCond_true {A B : Prop} : pCond (.bool true) A B = A := by simp [pCond_bool]
theorem pCond_false {A B : Prop} : pCond (.bool false) A B = B := by simp [pCond_bool]
end

/-! ### addresses, cells -/
theorem add_mk (b o n : Nat) : (⟨b, o, none⟩ : Addr).add n = ⟨b, o + n, none⟩ := by
  unfold Addr.add; split
  · rename_i h; subst h; rfl
  · rfl
theorem cellAt_blk {H : Heap} {b o : Nat} {cs : Array Value} {t : TypeId} {fr : Nat × Nat} (h : H[b]? = some (.cells cs t fr)) : cellAt H ⟨b, o, none⟩ = cs[o]? := by
  simp [cellAt, h]
theorem pLoad_blk {H : Heap} {b o : Nat} {cs : Array Value} {t : TypeId} {fr : Nat × Nat} {v : Value} {K : Value → Prop} (h : H[b]? = some (.cells cs t fr)) (hv : cs[o]? = some v) (hk : K v) : pLoad H (.pointer (some ⟨b, o, none⟩)) K := by
  simp only [pLoad, cellAt_blk h, hv]; exact hk
theorem pLoad_l {H : Heap} {b o : Nat} {l : List Value} {t : TypeId} {fr : Nat × Nat} {v : Value} {K : Value → Prop} (h : H[b]? = some (.cells l.toArray t fr)) (hv : l[o]? = some v) (hk : K v) : pLoad H (.pointer (some ⟨b, o, none⟩)) K :=
  pLoad_blk h (by rw [List.getElem?_toArray]; exact hv) hk
theorem pLoad_at {H : Heap} {b o : Nat} {l : List Value} {t : TypeId} {fr : Nat × Nat} {K : Value → Prop} (h : H[b]? = some (.cells l.toArray t fr)) : pLoad H (.pointer (some ⟨b, o, none⟩)) K = match l[o]? with
    | some v => K v
    | none => False := by
  simp only [pLoad, cellAt_blk h, List.getElem?_toArray]
  cases l[o]? <;> rfl
theorem pLoad_cell {H : Heap} {a : Addr} {v : Value} {K : Value → Prop} (h : cellAt H a = some v) : pLoad H (.pointer (some a)) K = K v := by
  simp only [pLoad, h]
theorem setAt_blk {H : Heap} {b o : Nat} {cs : Array Value} {t : TypeId} {fr : Nat × Nat} {v : Value} (h : H[b]? = some (.cells cs t fr)) : setAt H ⟨b, o, none⟩ v = H.setIfInBounds b (.cells (cs.setIfInBounds o v) t fr) := by
  unfold setAt
  apply Array.ext_getElem?
  intro j
  rw [Array.getElem?_modify, Array.getElem?_setIfInBounds]
  by_cases hj : b = j
  · subst hj
    have hl : b < H.size := by
      rcases Nat.lt_or_ge b H.size with h' | h'
      · exact h'
      · simp [Array.getElem?_eq_none h'] at h
    simp [hl] at h ⊢
    simp [h]
  · simp [hj]
theorem pStore_blk {H : Heap} {b o : Nat} {cs : Array Value} {t : TypeId} {v : Value} {K : Value → Heap → Prop} (h : H[b]? = some (.cells cs t (0, 0))) (ho : o < cs.size) (hv : oneCell v = true) :
    pStore H (.pointer (some ⟨b, o, none⟩)) v K = K undef (H.setIfInBounds b (.cells (cs.setIfInBounds o v) t (0, 0))) := by
  have hc : cellAt H ⟨b, o, none⟩ = some cs[o] := by rw [cellAt_blk h]; simp [ho]
  have hf : frozenAt H ⟨b, o, none⟩ = false := by simp [frozenAt, h]
  simp only [pStore, setsAt, add_mk, Nat.add_zero, hc, hf, cond_false, hv, cond_true, setAt_blk h]
theorem lt_of_blk {H : Heap} {b : Nat} {o : Obj} (h : H[b]? = some o) : b < H.size := (Array.getElem?_eq_some_iff.1 h).1
theorem get_set_self {H : Heap} {b : Nat} {o : Obj} (h : b < H.size) : (H.setIfInBounds b o)[b]? = some o := by simp [h]
theorem get_set_ne {H : Heap} {b c : Nat} {o : Obj} (h : b ≠ c) : (H.setIfInBounds b o)[c]? = H[c]? := by simp [Array.getElem?_setIfInBounds, h]
theorem get_push_self {H : Heap} {o : Obj} : (H.push o)[H.size]? = some o := by simp
theorem get_push_lt {H : Heap} {b : Nat} {o : Obj} (h : b < H.size) : (H.push o)[b]? = H[b]? := by rw [Array.getElem?_push, if_neg (by omega)]

/-! ### wraps -/
theorem w64 {n : Int} (h0 : -9223372036854775808 ≤ n) (h1 : n ≤ 9223372036854775807) : IntKind.i64.wrap n = n := by
  simp [IntKind.wrap, IntKind.bits, IntKind.signed]; omega
theorem wu8 {n : Int} (h0 : 0 ≤ n) (h1 : n ≤ 255) : IntKind.u8.wrap n = n := by
  simp [IntKind.wrap, IntKind.bits, IntKind.signed]; omega
theorem wu32 {n : Int} (h0 : 0 ≤ n) (h1 : n ≤ 4294967295) : IntKind.u32.wrap n = n := by
  simp [IntKind.wrap, IntKind.bits, IntKind.signed]; omega
theorem wu64 {n : Int} (h0 : 0 ≤ n) (h1 : n ≤ 18446744073709551615) : IntKind.u64.wrap n = n := by
  simp [IntKind.wrap, IntKind.bits, IntKind.signed]; omega
theorem wi32 {n : Int} (h0 : -2147483648 ≤ n) (h1 : n ≤ 2147483647) : IntKind.i32.wrap n = n := by
  simp [IntKind.wrap, IntKind.bits, IntKind.signed]; omega
theorem wu8_mod (n : Int) : IntKind.u8.wrap n = n % 256 := by simp [IntKind.wrap, IntKind.bits, IntKind.signed]
theorem wu32_mod (n : Int) : IntKind.u32.wrap n = n % 4294967296 := by simp [IntKind.wrap, IntKind.bits, IntKind.signed]
theorem wu64_mod (n : Int) : IntKind.u64.wrap n = n % 18446744073709551616 := by simp [IntKind.wrap, IntKind.bits, IntKind.signed]
theorem w64_range (n : Int) : -9223372036854775808 ≤ IntKind.i64.wrap n ∧ IntKind.i64.wrap n ≤ 9223372036854775807 := by
  simp [IntKind.wrap, IntKind.bits, IntKind.signed]; omega

/-! ### joints -/
/-- what a cut's J may always be -/
theorem joint {α : Sort _} {J : α} {p : Prop} (h : p) : p := h
theorem bys_size (l : List UInt8) : (ByteArray.mk l.toArray).size = l.length := by simp [ByteArray.size]
/-- for simp: the value's form is looked at behind -/
theorem pStoreB_blk {H : Heap} {b o : Nat} {cs : Array Value} {t : TypeId} {v : Value} {K : Value → Heap → Prop} (h : H[b]? = some (.cells cs t (0, 0))) (ho : o < cs.size) :
    pStore H (.pointer (some ⟨b, o, none⟩)) v K = bif oneCell v then K undef (H.setIfInBounds b (.cells (cs.setIfInBounds o v) t (0, 0))) else False := by
  cases hv : oneCell v with
  | true => exact pStore_blk h ho hv
  | false =>
    have hc : cellAt H ⟨b, o, none⟩ = some cs[o] := by rw [cellAt_blk h]; simp [ho]
    have hf : frozenAt H ⟨b, o, none⟩ = false := by simp [frozenAt, h]
    simp only [pStore, setsAt, add_mk, Nat.add_zero, hc, hf, cond_false, hv]
end Go.Vc
namespace Go.Vc
open Go
theorem decide_not' {p : Prop} [Decidable p] : (!decide p) = decide (¬ p) := by simp
theorem dec_and {p q : Prop} [Decidable p] [Decidable q] : (decide p && decide q) = decide (p ∧ q) := by simp
theorem dec_or {p q : Prop} [Decidable p] [Decidable q] : (decide p || decide q) = decide (p ∨ q) := by simp
theorem dec_eqt {b : Bool} : decide (b = true) = b := by simp
theorem le_refl' {n : Nat} : (n ≤ n) = True := by simp
theorem List.toArray_toList' {α : Type} {l : List α} : l.toArray.toList = l := rfl
theorem pCond_if {p : Prop} [Decidable p] {A B : Prop} (h1 : p → A) (h2 : ¬ p → B) : pCond (.bool (decide p)) A B := ⟨fun h => h1 (by simpa using h), fun h => h2 (by simpa using h)⟩
theorem pCond_b {b : Bool} {A B : Prop} (h1 : b = true → A) (h2 : b = false → B) : pCond (.bool b) A B := ⟨h1, h2⟩
end Go.Vc
namespace Go.Vc
open Go
theorem cellAt_set {H : Heap} {b o : Nat} {cs : Array Value} {t : TypeId} {fr : Nat × Nat} (h : b < H.size) : cellAt (H.setIfInBounds b (.cells cs t fr)) ⟨b, o, none⟩ = cs[o]? := cellAt_blk (get_set_self h)
theorem cellAt_set_ne {H : Heap} {b c i : Nat} {o : Obj} (h : b ≠ c) : cellAt (H.setIfInBounds b o) ⟨c, i, none⟩ = cellAt H ⟨c, i, none⟩ := by simp [cellAt, get_set_ne h]
theorem cellAt_push_lt {H : Heap} {b i : Nat} {o : Obj} (h : b < H.size) : cellAt (H.push o) ⟨b, i, none⟩ = cellAt H ⟨b, i, none⟩ := by
  unfold cellAt; simp only [get_push_lt h]
theorem cellAt_push {H : Heap} {i : Nat} {cs : Array Value} {t : TypeId} {fr : Nat × Nat} : cellAt (H.push (.cells cs t fr)) ⟨H.size, i, none⟩ = cs[i]? := cellAt_blk get_push_self
theorem set_set {H : Heap} {b : Nat} {o o' : Obj} : (H.setIfInBounds b o).setIfInBounds b o' = H.setIfInBounds b o' := by simp
theorem pStore_set {H : Heap} {b o : Nat} {cs : Array Value} {t : TypeId} {v : Value} {K : Value → Heap → Prop} (h : b < H.size) (ho : o < cs.size) (hv : oneCell v = true) :
    pStore (H.setIfInBounds b (.cells cs t (0, 0))) (.pointer (some ⟨b, o, none⟩)) v K = K undef (H.setIfInBounds b (.cells (cs.setIfInBounds o v) t (0, 0))) := by
  rw [pStore_blk (get_set_self h) ho hv, set_set]
theorem pStoreB_set {H : Heap} {b o : Nat} {cs : Array Value} {t : TypeId} {v : Value} {K : Value → Heap → Prop} (h : b < H.size) (ho : o < cs.size) :
    pStore (H.setIfInBounds b (.cells cs t (0, 0))) (.pointer (some ⟨b, o, none⟩)) v K = bif oneCell v then K undef (H.setIfInBounds b (.cells (cs.setIfInBounds o v) t (0, 0))) else False := by
  rw [pStoreB_blk (get_set_self h) ho, set_set]
theorem pStore_push {H : Heap} {o : Nat} {cs : Array Value} {t : TypeId} {v : Value} {K : Value → Heap → Prop} (ho : o < cs.size) (hv : oneCell v = true) :
    pStore (H.push (.cells cs t (0, 0))) (.pointer (some ⟨H.size, o, none⟩)) v K = K undef (H.push (.cells (cs.setIfInBounds o v) t (0, 0))) := by
  rw [pStore_blk get_push_self ho hv]
  congr 1
  apply Array.ext_getElem?
  intro j
  rw [Array.getElem?_setIfInBounds, Array.getElem?_push, Array.getElem?_push]
  by_cases hj : H.size = j
  · subst hj; simp
  · simp [hj, Ne.symm hj]
theorem cellsAt_blk {H : Heap} {b o : Nat} {cs : Array Value} {t : TypeId} {fr : Nat × Nat} (h : H[b]? = some (.cells cs t fr)) : ∀ n, o + n ≤ cs.size → cellsAt H ⟨b, o, none⟩ n = some ((cs.toList.drop o).take n)
  | 0, _ => by simp [cellsAt]
  | n + 1, hn => by
    have hlt : o + n < cs.size := by omega
    have ih := cellsAt_blk (o := o) (cs := cs) (t := t) (fr := fr) h n (by omega)
    simp only [cellsAt, ih, add_mk, cellAt_blk h, Array.getElem?_eq_getElem hlt]
    rw [List.take_add_one, List.getElem?_drop]
    simp [hlt]
theorem pLoadN_blk {H : Heap} {b n : Nat} {cs : Array Value} {t : TypeId} {fr : Nat × Nat} {K : Value → Prop} (h : H[b]? = some (.cells cs t fr)) (hn : cs.size = n) : pLoadN H n (.pointer (some ⟨b, 0, none⟩)) K = K (.agg cs) := by
  subst hn
  simp only [pLoadN, cellsAt_blk (o := 0) (cs := cs) (t := t) (fr := fr) h cs.size (by omega)]
  congr 2
  rw [List.drop_zero, ← Array.length_toList, List.take_length]
end Go.Vc
namespace Go.Vc
open Go
/-! ### what is kept of a heap -/
/-- the blocks of H are in H' as they were -/
structure Ext (H H' : Heap) : Prop where
  size : H.size ≤ H'.size
  get : ∀ i, i < H.size → H'[i]? = H[i]?
theorem Ext.refl (H : Heap) : Ext H H := ⟨Nat.le_refl _, fun _ _ => rfl⟩
theorem Ext.trans {A B C : Heap} (h : Ext A B) (k : Ext B C) : Ext A C := ⟨Nat.le_trans h.size k.size, fun i hi => (k.get i (Nat.lt_of_lt_of_le hi h.size)).trans (h.get i hi)⟩
theorem Ext.push {A H : Heap} {o : Obj} (h : Ext A H) : Ext A (H.push o) := ⟨by have := h.size; simp; omega, fun i hi => by
  have := h.size
  rw [Array.getElem?_push, if_neg (by omega)]; exact h.get i hi⟩
theorem Ext.set {A H : Heap} {b : Nat} {o : Obj} (h : Ext A H) (hb : A.size ≤ b) : Ext A (H.setIfInBounds b o) := ⟨by have := h.size; simpa using this, fun i hi => by
  rw [get_set_ne (by omega)]; exact h.get i hi⟩
theorem Ext.blk {A H : Heap} {b : Nat} {o : Obj} (h : Ext A H) (hb : A[b]? = some o) : H[b]? = some o := by rw [h.get b (lt_of_blk hb)]; exact hb
theorem set_self {H : Heap} {b : Nat} {o : Obj} (hb : H[b]? = some o) : H.setIfInBounds b o = H := by
  apply Array.ext_getElem?; intro j
  rw [Array.getElem?_setIfInBounds]
  by_cases hj : b = j
  · subst hj; simp [lt_of_blk hb]; exact (Array.getElem?_eq_some_iff.1 hb).2.symm
  · simp [hj]
/-- & with a mask of low bits -/
theorem and_low {n : Int} {k : Nat} {m : Int} (hk : k ≤ 62) (hm : m = 2 ^ k - 1) : bitsOf .and .i64 n m = n % 2 ^ k := by
  subst hm
  have hp : (2 : Nat) ^ k ≤ 2 ^ 62 := Nat.pow_le_pow_right (by omega) hk
  have h1 : ((BitVec.ofInt 64 n) &&& (BitVec.ofInt 64 ((2 : Int) ^ k - 1))).toNat = ((n % 18446744073709551616).toNat) % 2 ^ k := by
    rw [BitVec.toNat_and, BitVec.toNat_ofInt, BitVec.toNat_ofInt]
    have e : ((((2 : Int) ^ k - 1) % ((2 ^ 64 : Nat) : Int)).toNat) = 2 ^ k - 1 := by
      have h0 : (0 : Int) ≤ (2 : Int) ^ k - 1 := by
        have : (1 : Int) ≤ 2 ^ k := by exact_mod_cast Nat.one_le_two_pow
        omega
      have h2 : (2 : Int) ^ k - 1 < ((2 ^ 64 : Nat) : Int) := by
        have : ((2 : Int) ^ k) = ((2 ^ k : Nat) : Int) := by norm_cast
        rw [this]; omega
      rw [Int.emod_eq_of_lt h0 h2]
      have : ((2 : Int) ^ k) = ((2 ^ k : Nat) : Int) := by norm_cast
      rw [this]; omega
    rw [e, Nat.and_two_pow_sub_one_eq_mod]
    rfl
  have h3 : ((n % 18446744073709551616).toNat) % 2 ^ k = (n % 2 ^ k).toNat := by
    have hd : ((2 : Int) ^ k) ∣ 18446744073709551616 := by
      have : (18446744073709551616 : Int) = 2 ^ k * 2 ^ (64 - k) := by rw [← Int.pow_add]; rw [show k + (64 - k) = 64 by omega]; rfl
      rw [this]; exact Int.dvd_mul_right _ _
    have h4 : (n % 18446744073709551616) % 2 ^ k = n % 2 ^ k := Int.emod_emod_of_dvd _ hd
    have h5 : 0 ≤ n % 18446744073709551616 := Int.emod_nonneg _ (by decide)
    have hpos : (0 : Int) ≤ n % 2 ^ k := Int.emod_nonneg _ (Int.ne_of_gt (Int.pow_pos (by decide)))
    apply Int.ofNat.inj
    show (((n % 18446744073709551616).toNat % 2 ^ k : Nat) : Int) = (((n % 2 ^ k).toNat : Nat) : Int)
    rw [Int.natCast_emod, Int.toNat_of_nonneg h5, Int.toNat_of_nonneg hpos, ← h4, Int.natCast_pow]
    rfl
  show IntKind.i64.wrap ((((BitVec.ofInt 64 n) &&& (BitVec.ofInt 64 ((2 : Int) ^ k - 1))).toNat : Nat) : Int) = n % 2 ^ k
  rw [h1, h3]
  have hpos : (0 : Int) ≤ n % 2 ^ k := Int.emod_nonneg _ (Int.ne_of_gt (Int.pow_pos (by decide)))
  have hlt : n % (2 : Int) ^ k < 2 ^ k := Int.emod_lt_of_pos _ (Int.pow_pos (by decide))
  have hp2 : ((2 : Int) ^ k) ≤ 4611686018427387904 := by
    have : ((2 : Int) ^ k) = ((2 ^ k : Nat) : Int) := by norm_cast
    rw [this]; omega
  rw [Int.toNat_of_nonneg hpos]
  exact w64 (by omega) (by omega)
/-! ### one step where the operands are known -/
section
variable {K : Value → Prop} {KE : Value → Heap → Prop} {H : Heap} {k k' : IntKind} {a b : Int} {s t : ByteArray} {p q : Bool} {x y : Value}
theorem pPick_v : pPick (.bool p) x y K = K (bif p then x else y) := rfl
theorem pNil_v {ad : Addr} : pNil (.pointer (some ad)) K = K (.pointer (some ad)) := rfl
theorem pNil_f {f : FuncId} {u v : Array Value} : pNil (.func (.func f) u v) K = K (.func (.func f) u v) := rfl
theorem pAdd_v : pAdd (.int k a) (.int k b) K = K (.int k (k.wrap (a + b))) := propext ⟨fun h => h.2, fun h => ⟨rfl, h⟩⟩
theorem pSub_v : pSub (.int k a) (.int k b) K = K (.int k (k.wrap (a - b))) := propext ⟨fun h => h.2, fun h => ⟨rfl, h⟩⟩
theorem pMul_v : pMul (.int k a) (.int k b) K = K (.int k (k.wrap (a * b))) := propext ⟨fun h => h.2, fun h => ⟨rfl, h⟩⟩
theorem pAdd_s : pAdd (.string s) (.string t) K = (s.size + t.size ≤ 9223372036854775807 ∧ K (str (bys s ++ bys t))) := rfl
theorem pQuo_v : pQuo (.int k a) (.int k b) K = (b ≠ 0 ∧ K (.int k (k.wrap (a.tdiv b)))) := propext ⟨fun h => h.2, fun h => ⟨rfl, h⟩⟩
theorem pRem_v : pRem (.int k a) (.int k b) K = (b ≠ 0 ∧ K (.int k (a.tmod b))) := propext ⟨fun h => h.2, fun h => ⟨rfl, h⟩⟩
theorem pBits_v {o : BinOp} : pBits o (.int k a) (.int k b) K = K (.int k (bitsOf o k a b)) := propext ⟨fun h => h.2, fun h => ⟨rfl, h⟩⟩
theorem pShl_v : pShl (.int k a) (.int k' b) K = (0 ≤ b ∧ K (.int k (k.wrap (a * 2 ^ (min b.toNat k.bits))))) := rfl
theorem pShr_v : pShr (.int k a) (.int k' b) K = (0 ≤ b ∧ K (.int k (a.fdiv (2 ^ (min b.toNat k.bits))))) := rfl
theorem pLt_v : pLt (.int k a) (.int k b) K = K (.bool (decide (a < b))) := propext ⟨fun h => h.2, fun h => ⟨rfl, h⟩⟩
theorem pLe_v : pLe (.int k a) (.int k b) K = K (.bool (decide (a ≤ b))) := propext ⟨fun h => h.2, fun h => ⟨rfl, h⟩⟩
theorem pGt_v : pGt (.int k a) (.int k b) K = K (.bool (decide (b < a))) := propext ⟨fun h => h.2, fun h => ⟨rfl, h⟩⟩
theorem pGe_v : pGe (.int k a) (.int k b) K = K (.bool (decide (b ≤ a))) := propext ⟨fun h => h.2, fun h => ⟨rfl, h⟩⟩
theorem pEq_0 : pEq 0 (.int k a) (.int k b) K = K (.bool (decide (a = b))) := by simp [pEq, eqK]
theorem pNe_0 : pNe 0 (.int k a) (.int k b) K = K (.bool (decide (a ≠ b))) := by simp [pNe, eqK]
theorem pEq_1 : pEq 1 (.string s) (.string t) K = K (.bool (decide (bys s = bys t))) := rfl
theorem pNe_1 : pNe 1 (.string s) (.string t) K = K (.bool (decide (bys s ≠ bys t))) := by simp [pNe, eqK]
theorem pEq_2 : pEq 2 (.bool p) (.bool q) K = K (.bool (decide (p = q))) := rfl
theorem pNe_2 : pNe 2 (.bool p) (.bool q) K = K (.bool (decide (p ≠ q))) := by simp [pNe, eqK]
theorem pEq_3n : pEq 3 (.pointer none) (.pointer none) K = K (.bool true) := rfl
theorem pNe_3n : pNe 3 (.pointer none) (.pointer none) K = K (.bool false) := rfl
theorem pEq_3s {ad} : pEq 3 (.pointer (some ad)) (.pointer none) K = K (.bool false) := rfl
theorem pNe_3s {ad} : pNe 3 (.pointer (some ad)) (.pointer none) K = K (.bool true) := rfl
theorem pEq_3t {ad} : pEq 3 (.pointer none) (.pointer (some ad)) K = K (.bool false) := rfl
theorem pNe_3t {ad} : pNe 3 (.pointer none) (.pointer (some ad)) K = K (.bool true) := rfl
theorem pEq_5n : pEq 5 (.map none) (.map none) K = K (.bool true) := rfl
theorem pNe_5n : pNe 5 (.map none) (.map none) K = K (.bool false) := rfl
theorem pEq_5s {ad} : pEq 5 (.map (some ad)) (.map none) K = K (.bool false) := rfl
theorem pNe_5s {ad} : pNe 5 (.map (some ad)) (.map none) K = K (.bool true) := rfl
theorem pEq_5t {ad} : pEq 5 (.map none) (.map (some ad)) K = K (.bool false) := rfl
theorem pNe_5t {ad} : pNe 5 (.map none) (.map (some ad)) K = K (.bool true) := rfl
theorem pEq_4n {n c m d} : pEq 4 (.slice none n c) (.slice none m d) K = K (.bool true) := rfl
theorem pNe_4n {n c m d} : pNe 4 (.slice none n c) (.slice none m d) K = K (.bool false) := rfl
theorem pEq_4s {ad n c m d} : pEq 4 (.slice (some ad) n c) (.slice none m d) K = K (.bool false) := rfl
theorem pNe_4s {ad n c m d} : pNe 4 (.slice (some ad) n c) (.slice none m d) K = K (.bool true) := rfl
theorem pNot_v : pNot (.bool p) K = K (.bool !p) := rfl
theorem pNeg_v : pNeg (.int k a) K = K (.int k (k.wrap (0 - a))) := rfl
theorem pCom_v : pCom (.int k a) K = K (.int k (bitsOf .xor k (if k.signed then -1 else k.max) a)) := rfl
theorem pConv_v : pConv k (.int k' a) K = K (.int k (k.wrap a)) := rfl
theorem pConvS_v : pConvS (.string s) K = K (.string s) := rfl
theorem pMin_v : pMin (.int k a) (.int k b) K = K (.int k (min a b)) := propext ⟨fun h => h.2, fun h => ⟨rfl, h⟩⟩
theorem pMax_v : pMax (.int k a) (.int k b) K = K (.int k (max a b)) := propext ⟨fun h => h.2, fun h => ⟨rfl, h⟩⟩
theorem pFieldAddr_v {o : Nat} {ad : Addr} : pFieldAddr o (.pointer (some ad)) K = K (.pointer (some (ad.add o))) := rfl
theorem pField1_v {o : Nat} {l : List Value} : pField1 o (.agg l.toArray) K = match l[o]? with | some v => K v | none => False := rfl
theorem pFieldN_v {o n : Nat} {l : List Value} : pFieldN o n (.agg l.toArray) K = K (.agg ((l.drop o).take n).toArray) := rfl
theorem pExtract_v {o : Nat} {l : List Value} : pExtract o (.tuple l.toArray) K = match l[o]? with | some v => K v | none => False := rfl
theorem pIdxArr_v {n m : Nat} {ad : Addr} : pIdxArr n m (.pointer (some ad)) (.int k a) K = (0 ≤ a ∧ a < (n : Int) ∧ K (.pointer (some (ad.add (a.toNat * m))))) := rfl
theorem pIdxSl_v {n c m : Nat} {ad : Addr} : pIdxSl m (.slice (some ad) n c) (.int k a) K = (0 ≤ a ∧ a < (n : Int) ∧ K (.pointer (some (ad.add (a.toNat * m))))) := rfl
theorem pIdxStr_v : pIdxStr (.string s) (.int k a) K = (0 ≤ a ∧ a < ((bys s).length : Int) ∧ K (.int .u8 (((bys s).getD a.toNat 0).toNat : Int))) := rfl
theorem pBounds_00 {n c : Nat} {Kb : Nat → Nat → Prop} : pBounds n c none none Kb = Kb 0 n := rfl
theorem pBounds_10 {n c : Nat} {Kb : Nat → Nat → Prop} : pBounds n c (some (.int k a)) none Kb = (0 ≤ a ∧ a ≤ (n : Int) ∧ Kb a.toNat n) := rfl
theorem pBounds_01 {n c : Nat} {Kb : Nat → Nat → Prop} : pBounds n c none (some (.int k b)) Kb = (0 ≤ b ∧ b ≤ (c : Int) ∧ Kb 0 b.toNat) := rfl
theorem pBounds_11 {n c : Nat} {Kb : Nat → Nat → Prop} : pBounds n c (some (.int k a)) (some (.int k' b)) Kb = (0 ≤ b ∧ b ≤ (c : Int) ∧ 0 ≤ a ∧ a ≤ b ∧ Kb a.toNat b.toNat) := rfl
theorem pSlStr_v {lo hi : Option Value} : pSlStr (.string s) lo hi K = pBounds (bys s).length (bys s).length lo hi fun l h => K (str (((bys s).drop l).take (h - l))) := rfl
theorem pSlSl_v {m n c : Nat} {ad : Option Addr} {lo hi : Option Value} : pSlSl m (.slice ad n c) lo hi K = pBounds n c lo hi fun l h => K (.slice (if c = l then ad else ad.map (·.add (l * m))) (h - l) (c - l)) := rfl
theorem pSlArr_v {m n : Nat} {ad : Addr} {lo hi : Option Value} : pSlArr n m (.pointer (some ad)) lo hi K = pBounds n n lo hi fun l h => K (.slice (some (if n = l then ad else ad.add (l * m))) (h - l) (n - l)) := rfl
theorem pLenS_v : pLenS (.string s) K = K (.int .i64 ((bys s).length : Int)) := rfl
theorem pLen_v {ad : Option Addr} {n c : Nat} : pLen (.slice ad n c) K = K (.int .i64 (n : Int)) := rfl
theorem pCap_v {ad : Option Addr} {n c : Nat} : pCap (.slice ad n c) K = K (.int .i64 (c : Int)) := rfl
theorem pBuild_n {l : List Value} : pBuild l [] K = K (.agg l.toArray) := rfl
theorem pBuild_c {l : List Value} {o m : Nat} {v : Value} {r : List (Nat × Nat × Value)} : pBuild l ((o, m, v) :: r) K = (v.cells.size = m ∧ o + m ≤ l.length ∧ pBuild (putL l o v.cells.toList) r K) := rfl
theorem cells_int : Value.cells (.int k a) = #[(.int k a)] := rfl
theorem cells_str : Value.cells (.string s) = #[(.string s)] := rfl
theorem cells_bool : Value.cells (.bool p) = #[(.bool p)] := rfl
theorem cells_ptr {u} : Value.cells (.pointer u) = #[.pointer u] := rfl
theorem cells_slice {u n c} : Value.cells (.slice u n c) = #[.slice u n c] := rfl
theorem cells_map {u} : Value.cells (.map u) = #[.map u] := rfl
theorem cells_agg {u} : Value.cells (.agg u) = u := rfl
theorem oneCell_int : oneCell (.int k a) = true := rfl
theorem oneCell_str : oneCell (.string s) = true := rfl
theorem oneCell_bool : oneCell (.bool p) = true := rfl
theorem oneCell_ptr {u} : oneCell (.pointer u) = true := rfl
theorem oneCell_slice {u n c} : oneCell (.slice u n c) = true := rfl
theorem oneCell_map {u} : oneCell (.map u) = true := rfl
theorem pBox_v {e : TypeId} : pBox H e x KE = KE (.pointer (some ⟨H.size, 0, none⟩)) (H.push (.cells x.cells e)) := rfl
end
theorem putL_cons (cs : List Value) (o : Nat) (v : Value) (r : List Value) : putL cs o (v :: r) = putL (cs.set o v) (o + 1) r := rfl
theorem putL_nil (cs : List Value) (o : Nat) : putL cs o [] = cs := rfl
theorem putL_len (l : List Value) : ∀ (cs : List Value) (o : Nat), (putL cs o l).length = cs.length := by
  induction l with
  | nil => intros; rfl
  | cons v r ih => intro cs o; rw [putL_cons, ih, List.length_set]
theorem putL_all (l : List Value) : ∀ (a c : List Value), c.length = l.length → putL (a ++ c) a.length l = a ++ l := by
  induction l with
  | nil => intro a c h; have : c = [] := by simpa using h
           subst this; rfl
  | cons v r ih =>
    intro a c h
    match c, h with
    | x :: c, h =>
      rw [putL_cons, show (a ++ x :: c).set a.length v = (a ++ [v]) ++ c by simp, show a.length + 1 = (a ++ [v]).length by simp, ih (a ++ [v]) c (by simpa using h)]
      simp
theorem setsAt_blk {b o : Nat} {t : TypeId} : ∀ (l : List Value) (H : Heap) (cs : Array Value) (i : Nat), H[b]? = some (.cells cs t (0, 0)) → l.all oneCell = true → o + i + l.length ≤ cs.size →
    setsAt H ⟨b, o, none⟩ i l = some (H.setIfInBounds b (.cells (putL cs.toList (o + i) l).toArray t (0, 0)))
  | [], H, cs, i, h, _, _ => by simp only [setsAt, putL_nil]; rw [set_self h]
  | v :: r, H, cs, i, h, hv, hs => by
    have hv1 : oneCell v = true := by simp only [List.all_cons, Bool.and_eq_true] at hv; exact hv.1
    have hv2 : r.all oneCell = true := by simp only [List.all_cons, Bool.and_eq_true] at hv; exact hv.2
    have hs' : o + i + (r.length + 1) ≤ cs.size := by simpa using hs
    have hc : cellAt H ⟨b, o + i, none⟩ = some cs[o + i] := by rw [cellAt_blk h]; simp
    have hf : frozenAt H ⟨b, o + i, none⟩ = false := by simp [frozenAt, h]
    simp only [setsAt, add_mk, hc, hf, cond_false, hv1, cond_true, setAt_blk h]
    rw [setsAt_blk r _ (cs.setIfInBounds (o + i) v) (i + 1) (get_set_self (lt_of_blk h)) hv2 (by simp; omega), set_set, putL_cons]
    simp [Nat.add_assoc]
/-- a whole struct's cells over a whole block -/
theorem pStoreN_blk {H : Heap} {b n : Nat} {cs vs : Array Value} {t : TypeId} {K : Value → Heap → Prop} (h : H[b]? = some (.cells cs t (0, 0))) (hn : cs.size = n) (hv : vs.size = n) (ha : vs.toList.all oneCell = true) :
    pStoreN H n (.pointer (some ⟨b, 0, none⟩)) (.agg vs) K = K undef (H.setIfInBounds b (.cells vs t (0, 0))) := by
  have e := putL_all vs.toList [] cs.toList (by simp [hn, hv])
  simp only [List.nil_append, List.length_nil] at e
  simp only [pStoreN, cells_agg, hv, setsAt_blk (o := 0) vs.toList H cs 0 h ha (by simp; omega), e, true_and]
/-- a law's answer: true, and every block as it was -/
def LawOk (H : Heap) (v : Value) (H' : Heap) : Prop := v = .bool true ∧ Ext H H'
end Go.Vc
namespace Go.Vc
open Go
/-! ### heaps told by facts alone -/
/-- block b is now o; the others that were there are as they were -/
structure Upd (b : Nat) (o : Obj) (H H' : Heap) : Prop where
  size : H.size ≤ H'.size
  at_ : H'[b]? = some o
  ne : ∀ i, i < H.size → i ≠ b → H'[i]? = H[i]?
theorem Upd.keep {b c : Nat} {o o' : Obj} {H H' : Heap} (h : Upd b o H H') (hc : H[c]? = some o') (hn : c ≠ b) : H'[c]? = some o' := (h.ne c (lt_of_blk hc) hn).trans hc
theorem Upd.ext {A H H' : Heap} {b : Nat} {o : Obj} (h : Upd b o H H') (hE : Ext A H) (hb : A.size ≤ b) : Ext A H' :=
  ⟨Nat.le_trans hE.size h.size, fun i hi => (h.ne i (Nat.lt_of_lt_of_le hi hE.size) (by omega)).trans (hE.get i hi)⟩
theorem Upd.set {H : Heap} {b : Nat} {o : Obj} (hb : b < H.size) : Upd b o H (H.setIfInBounds b o) := ⟨by simp, get_set_self hb, fun i _ hn => get_set_ne (Ne.symm hn)⟩
theorem Upd.trans {A B C : Heap} {b : Nat} {o o' : Obj} (h : Upd b o A B) (k : Upd b o' B C) : Upd b o' A C :=
  ⟨Nat.le_trans h.size k.size, k.at_, fun i hi hn => (k.ne i (Nat.lt_of_lt_of_le hi h.size) hn).trans (h.ne i hi hn)⟩
theorem Upd.of_ext {A B C : Heap} {b : Nat} {o : Obj} (h : Upd b o A B) (k : Ext B C) : Upd b o A C :=
  ⟨Nat.le_trans h.size k.size, k.blk h.at_, fun i hi hn => (k.get i (Nat.lt_of_lt_of_le hi h.size)).trans (h.ne i hi hn)⟩
theorem Upd.refl {A : Heap} {b : Nat} {o : Obj} (h : A[b]? = some o) : Upd b o A A := ⟨Nat.le_refl _, h, fun _ _ _ => rfl⟩
section
variable {KE : Value → Heap → Prop} {H : Heap} {b o n : Nat} {cs vs : Array Value} {t : TypeId} {v : Value}
theorem pStore_upd (h : H[b]? = some (.cells cs t (0, 0))) (ho : o < cs.size) (hv : oneCell v = true) (hk : ∀ H', H'.size = H.size → Upd b (.cells (cs.setIfInBounds o v) t (0, 0)) H H' → KE undef H') : pStore H (.pointer (some ⟨b, o, none⟩)) v KE := by
  rw [pStore_blk h ho hv]; exact hk _ (by simp) (Upd.set (lt_of_blk h))
theorem pStoreN_upd (h : H[b]? = some (.cells cs t (0, 0))) (hn : cs.size = n) (hv : vs.size = n) (ha : vs.toList.all oneCell = true) (hk : ∀ H', H'.size = H.size → Upd b (.cells vs t (0, 0)) H H' → KE undef H') : pStoreN H n (.pointer (some ⟨b, 0, none⟩)) (.agg vs) KE := by
  rw [pStoreN_blk h hn hv ha]; exact hk _ (by simp) (Upd.set (lt_of_blk h))
theorem pBox_ext {e : TypeId} (hk : ∀ H', H'.size = H.size + 1 → Ext H H' → H'[H.size]? = some (.cells v.cells e (0, 0)) → KE (.pointer (some ⟨H.size, 0, none⟩)) H') : pBox H e v KE :=
  hk _ (by simp) (Ext.refl _).push get_push_self
end
end Go.Vc
namespace Go.Vc
open Go
section
variable {H : Heap} {KE : Value → Heap → Prop} {a d : Bool}
theorem pAnd_pureE : pAnd (.bool a) (fun J => ∀ _ : Env, J (.bool d) H) H KE = KE (.bool (a && d)) H := by
  refine Eq.trans ?_ (pAnd_pure (H := H) (KE := KE) (a := a) (d := d))
  unfold pAnd
  simp only [forall_const]
theorem pOr_pureE : pOr (.bool a) (fun J => ∀ _ : Env, J (.bool d) H) H KE = KE (.bool (a || d)) H := by
  refine Eq.trans ?_ (pOr_pure (H := H) (KE := KE) (a := a) (d := d))
  unfold pOr
  simp only [forall_const]
/-- a truth value in another form -/
theorem bool_to {R : Value → Heap → Prop} {b : Bool} (e : a = b) (h : R (.bool b) H) : R (.bool a) H := by rw [e]; exact h
end
end Go.Vc
namespace Go.Vc
open Go
/-- | of numbers that share no bit -/
theorem or_low {a c : Int} {k : Nat} (ha : 0 ≤ a) (ha2 : a < 2 ^ k) (hc : 0 ≤ c) (hb : c * 2 ^ k + a ≤ 9223372036854775807) : bitsOf .or .i64 a (c * 2 ^ k) = c * 2 ^ k + a := by
  obtain ⟨a', rfl⟩ := Int.eq_ofNat_of_zero_le ha
  obtain ⟨c', rfl⟩ := Int.eq_ofNat_of_zero_le hc
  have ha3 : a' < 2 ^ k := by exact_mod_cast ha2
  have hp : (c' : Int) * 2 ^ k = ((c' * 2 ^ k : Nat) : Int) := by rw [Int.natCast_mul, Int.natCast_pow]; rfl
  rw [hp] at hb ⊢
  have hb2 : c' * 2 ^ k + a' ≤ 9223372036854775807 := by
    generalize c' * 2 ^ k = z at hb
    omega
  have e : ((BitVec.ofInt 64 (a' : Int)) ||| (BitVec.ofInt 64 ((c' * 2 ^ k : Nat) : Int))).toNat = c' * 2 ^ k + a' := by
    rw [BitVec.toNat_or, BitVec.ofInt_natCast, BitVec.ofInt_natCast, BitVec.toNat_ofNat, BitVec.toNat_ofNat, Nat.mod_eq_of_lt (by omega), Nat.mod_eq_of_lt (by omega), Nat.or_comm, Nat.mul_comm c', Nat.two_pow_add_eq_or_of_lt ha3]
  show IntKind.i64.wrap ((((BitVec.ofInt 64 (a' : Int)) ||| (BitVec.ofInt 64 ((c' * 2 ^ k : Nat) : Int))).toNat : Nat) : Int) = _
  rw [e, w64 (by omega) (by omega)]
  rfl
end Go.Vc
