/- Part 2 of the proof of RowTopBlocks: what it is built on, in the order of its needs. -/
import Derived.Test.YtameljhbkedhjaaGreatDoorPkA
import Derived.Below
import Derived.ChangeAlike
import Derived.ProofKit
import Derived.OpenShut
import Derived.ShutString
import Derived.Deep.Slices
import Derived.Deep.Fields
import Derived.ChangeSame
import Derived.MapKept
import Derived.Laws.IdiomRangeMap
import Derived.Test.YtameljhbkedhjaaGreatDoorProg
import Derived.KernelRfl
set_option linter.unusedSimpArgs false
set_option linter.unusedVariables false
namespace Go.Vc
open Go
section
variable {K : Value → Prop} {x x' y y' z z' : Value}
variable {H H' : Heap}
variable {KE : Value → Heap → Prop}
theorem pAnd_true {b : (Value → Heap → Prop) → Prop} (h : b KE) : pAnd (.bool true) b H KE := ⟨KE, fun _ _ h => h, (fun h => by cases h), fun _ => h⟩
theorem pAnd_false {b : (Value → Heap → Prop) → Prop} : pAnd (.bool false) b H KE = KE (.bool false) H := by
  apply propext; constructor
  · rintro ⟨J, h1, h2, _⟩; exact h1 _ _ (h2 rfl)
  · intro h; exact ⟨KE, fun _ _ h => h, fun _ => h, (fun h => by cases h)⟩
theorem pOr_true {b : (Value → Heap → Prop) → Prop} : pOr (.bool true) b H KE = KE (.bool true) H := by
  apply propext; constructor
  · rintro ⟨J, h1, h2, _⟩; exact h1 _ _ (h2 rfl)
  · intro h; exact ⟨KE, fun _ _ h => h, fun _ => h, (fun h => by cases h)⟩
theorem pOr_false {b : (Value → Heap → Prop) → Prop} (h : b KE) : pOr (.bool false) b H KE := ⟨KE, fun _ _ h => h, (fun h => by cases h), fun _ => h⟩
theorem pAnd_pure {a d : Bool} : pAnd (.bool a) (fun J => J (.bool d) H) H KE = KE (.bool (a && d)) H := by
  apply propext; cases a
  · rw [pAnd_false]; rfl
  · constructor
    · rintro ⟨J, h1, _, h2⟩; exact h1 _ _ (h2 rfl)
    · intro h; exact pAnd_true h
theorem pOr_pure {a d : Bool} : pOr (.bool a) (fun J => J (.bool d) H) H KE = KE (.bool (a || d)) H := by
  apply propext; cases a
  · constructor
    · rintro ⟨J, h1, _, h2⟩; exact h1 _ _ (h2 rfl)
    · intro h; exact pOr_false h
  · rw [pOr_true]; rfl
theorem pAnd_if {a d : Bool} {b : (Value → Heap → Prop) → Prop} (hb : a = true → b (fun v H' => v = .bool d ∧ H' = H)) (h : KE (.bool (a && d)) H) : pAnd (.bool a) b H KE := by
  refine ⟨fun v H' => v = .bool (a && d) ∧ H' = H, fun v H' h' => by rw [h'.1, h'.2]; exact h, fun ha => by rw [ha]; exact ⟨rfl, rfl⟩, fun ha => ?_⟩
  have := hb ha
  subst ha
  exact this
theorem pOr_if {a d : Bool} {b : (Value → Heap → Prop) → Prop} (hb : a = false → b (fun v H' => v = .bool d ∧ H' = H)) (h : KE (.bool (a || d)) H) : pOr (.bool a) b H KE := by
  refine ⟨fun v H' => v = .bool (a || d) ∧ H' = H, fun v H' h' => by rw [h'.1, h'.2]; exact h, fun ha => by rw [ha]; exact ⟨rfl, rfl⟩, fun ha => ?_⟩
  have := hb ha
  subst ha
  exact this
theorem pCond_bool {b : Bool} {A B : Prop} : pCond (.bool b) A B = ((b = true → A) ∧ (b = false → B)) := rfl
theorem pCond_true {A B : Prop} : pCond (.bool true) A B = A := by simp [pCond_bool]
theorem pCond_false {A B : Prop} : pCond (.bool false) A B = B := by simp [pCond_bool]
end
theorem add_mk (b o n : Nat) : (⟨b, o, none⟩ : Addr).add n = ⟨b, o + n, none⟩ := by
  unfold Addr.add; split
  · rename_i h; subst h; rfl
  · rfl
theorem cellAt_blk {H : Heap} {b o : Nat} {cs : Array Value} {t : TypeId} {fr : Nat × Nat} (h : H[b]? = some (.cells cs t fr)) : cellAt H ⟨b, o, none⟩ = cs[o]? := by
  simp [cellAt, h]
theorem pLoad_blk {H : Heap} {b o : Nat} {cs : Array Value} {t : TypeId} {fr : Nat × Nat} {v : Value} {K : Value → Prop} (h : H[b]? = some (.cells cs t fr)) (hv : cs[o]? = some v) (hk : K v) : pLoad H (.pointer (some ⟨b, o, none⟩)) K := by
  simp only [pLoad, cellAt_blk h, hv]; exact hk
theorem pLoad_l {H : Heap} {b o : Nat} {l : List Value} {t : TypeId} {fr : Nat × Nat} {v : Value} {K : Value → Prop} (h : H[b]? = some (.cells l.toArray t fr)) (hv : l[o]? = some v) (hk : K v) : pLoad H (.pointer (some ⟨b, o, none⟩)) K :=
  pLoad_blk h (by rw [List.getElem?_toArray]; exact hv) hk
theorem pLoad_at {H : Heap} {b o : Nat} {l : List Value} {t : TypeId} {fr : Nat × Nat} {K : Value → Prop} (h : H[b]? = some (.cells l.toArray t fr)) : pLoad H (.pointer (some ⟨b, o, none⟩)) K = match l[o]? with
    | some v => K v
    | none => False := by
  simp only [pLoad, cellAt_blk h, List.getElem?_toArray]
  cases l[o]? <;> rfl
theorem pLoad_cell {H : Heap} {a : Addr} {v : Value} {K : Value → Prop} (h : cellAt H a = some v) : pLoad H (.pointer (some a)) K = K v := by
  simp only [pLoad, h]
theorem setAt_blk {H : Heap} {b o : Nat} {cs : Array Value} {t : TypeId} {fr : Nat × Nat} {v : Value} (h : H[b]? = some (.cells cs t fr)) : setAt H ⟨b, o, none⟩ v = H.setIfInBounds b (.cells (cs.setIfInBounds o v) t fr) := by
  unfold setAt
  apply Array.ext_getElem?
  intro j
  rw [Array.getElem?_modify, Array.getElem?_setIfInBounds]
  by_cases hj : b = j
  · subst hj
    have hl : b < H.size := by
      rcases Nat.lt_or_ge b H.size with h' | h'
      · exact h'
      · simp [Array.getElem?_eq_none h'] at h
    simp [hl] at h ⊢
    simp [h]
  · simp [hj]
theorem pStore_blk {H : Heap} {b o : Nat} {cs : Array Value} {t : TypeId} {v : Value} {K : Value → Heap → Prop} (h : H[b]? = some (.cells cs t (0, 0))) (ho : o < cs.size) (hv : oneCell v = true) :
    pStore H (.pointer (some ⟨b, o, none⟩)) v K = K undef (H.setIfInBounds b (.cells (cs.setIfInBounds o v) t (0, 0))) := by
  have hc : cellAt H ⟨b, o, none⟩ = some cs[o] := by rw [cellAt_blk h]; simp [ho]
  have hf : frozenAt H ⟨b, o, none⟩ = false := by simp [frozenAt, h]
  simp only [pStore, setsAt, add_mk, Nat.add_zero, hc, hf, cond_false, hv, cond_true, setAt_blk h]
theorem lt_of_blk {H : Heap} {b : Nat} {o : Obj} (h : H[b]? = some o) : b < H.size := (Array.getElem?_eq_some_iff.1 h).1
theorem get_set_self {H : Heap} {b : Nat} {o : Obj} (h : b < H.size) : (H.setIfInBounds b o)[b]? = some o := by simp [h]
theorem get_set_ne {H : Heap} {b c : Nat} {o : Obj} (h : b ≠ c) : (H.setIfInBounds b o)[c]? = H[c]? := by simp [Array.getElem?_setIfInBounds, h]
theorem get_push_self {H : Heap} {o : Obj} : (H.push o)[H.size]? = some o := by simp
theorem get_push_lt {H : Heap} {b : Nat} {o : Obj} (h : b < H.size) : (H.push o)[b]? = H[b]? := by rw [Array.getElem?_push, if_neg (by omega)]
theorem w64 {n : Int} (h0 : -9223372036854775808 ≤ n) (h1 : n ≤ 9223372036854775807) : IntKind.i64.wrap n = n := by
  simp [IntKind.wrap, IntKind.bits, IntKind.signed]; omega
theorem wu64 {n : Int} (h0 : 0 ≤ n) (h1 : n ≤ 18446744073709551615) : IntKind.u64.wrap n = n := by
  simp [IntKind.wrap, IntKind.bits, IntKind.signed]; omega
theorem wu8_mod (n : Int) : IntKind.u8.wrap n = n % 256 := by simp [IntKind.wrap, IntKind.bits, IntKind.signed]
theorem bys_size (l : List UInt8) : (ByteArray.mk l.toArray).size = l.length := by simp [ByteArray.size]
end Go.Vc
namespace Go.Vc
open Go
theorem decide_not' {p : Prop} [Decidable p] : (!decide p) = decide (¬ p) := by simp
theorem dec_and {p q : Prop} [Decidable p] [Decidable q] : (decide p && decide q) = decide (p ∧ q) := by simp
theorem dec_or {p q : Prop} [Decidable p] [Decidable q] : (decide p || decide q) = decide (p ∨ q) := by simp
theorem dec_eqt {b : Bool} : decide (b = true) = b := by simp
theorem le_refl' {n : Nat} : (n ≤ n) = True := by simp
theorem List.toArray_toList' {α : Type} {l : List α} : l.toArray.toList = l := rfl
theorem pCond_if {p : Prop} [Decidable p] {A B : Prop} (h1 : p → A) (h2 : ¬ p → B) : pCond (.bool (decide p)) A B := ⟨fun h => h1 (by simpa using h), fun h => h2 (by simpa using h)⟩
theorem pCond_b {b : Bool} {A B : Prop} (h1 : b = true → A) (h2 : b = false → B) : pCond (.bool b) A B := ⟨h1, h2⟩
end Go.Vc
namespace Go.Vc
open Go
theorem set_set {H : Heap} {b : Nat} {o o' : Obj} : (H.setIfInBounds b o).setIfInBounds b o' = H.setIfInBounds b o' := by simp
theorem cellsAt_blk {H : Heap} {b o : Nat} {cs : Array Value} {t : TypeId} {fr : Nat × Nat} (h : H[b]? = some (.cells cs t fr)) : ∀ n, o + n ≤ cs.size → cellsAt H ⟨b, o, none⟩ n = some ((cs.toList.drop o).take n)
  | 0, _ => by simp [cellsAt]
  | n + 1, hn => by
    have hlt : o + n < cs.size := by omega
    have ih := cellsAt_blk (o := o) (cs := cs) (t := t) (fr := fr) h n (by omega)
    simp only [cellsAt, ih, add_mk, cellAt_blk h, Array.getElem?_eq_getElem hlt]
    rw [List.take_add_one, List.getElem?_drop]
    simp [hlt]
theorem pLoadN_blk {H : Heap} {b n : Nat} {cs : Array Value} {t : TypeId} {fr : Nat × Nat} {K : Value → Prop} (h : H[b]? = some (.cells cs t fr)) (hn : cs.size = n) : pLoadN H n (.pointer (some ⟨b, 0, none⟩)) K = K (.agg cs) := by
  subst hn
  simp only [pLoadN, cellsAt_blk (o := 0) (cs := cs) (t := t) (fr := fr) h cs.size (by omega)]
  congr 2
  rw [List.drop_zero, ← Array.length_toList, List.take_length]
end Go.Vc
namespace Go.Vc
open Go
structure Ext (H H' : Heap) : Prop where
  size : H.size ≤ H'.size
  get : ∀ i, i < H.size → H'[i]? = H[i]?
theorem Ext.refl (H : Heap) : Ext H H := ⟨Nat.le_refl _, fun _ _ => rfl⟩
theorem Ext.trans {A B C : Heap} (h : Ext A B) (k : Ext B C) : Ext A C := ⟨Nat.le_trans h.size k.size, fun i hi => (k.get i (Nat.lt_of_lt_of_le hi h.size)).trans (h.get i hi)⟩
theorem Ext.push {A H : Heap} {o : Obj} (h : Ext A H) : Ext A (H.push o) := ⟨by have := h.size; simp; omega, fun i hi => by
  have := h.size
  rw [Array.getElem?_push, if_neg (by omega)]; exact h.get i hi⟩
theorem Ext.set {A H : Heap} {b : Nat} {o : Obj} (h : Ext A H) (hb : A.size ≤ b) : Ext A (H.setIfInBounds b o) := ⟨by have := h.size; simpa using this, fun i hi => by
  rw [get_set_ne (by omega)]; exact h.get i hi⟩
theorem Ext.blk {A H : Heap} {b : Nat} {o : Obj} (h : Ext A H) (hb : A[b]? = some o) : H[b]? = some o := by rw [h.get b (lt_of_blk hb)]; exact hb
theorem set_self {H : Heap} {b : Nat} {o : Obj} (hb : H[b]? = some o) : H.setIfInBounds b o = H := by
  apply Array.ext_getElem?; intro j
  rw [Array.getElem?_setIfInBounds]
  by_cases hj : b = j
  · subst hj; simp [lt_of_blk hb]; exact (Array.getElem?_eq_some_iff.1 hb).2.symm
  · simp [hj]
theorem and_low {n : Int} {k : Nat} {m : Int} (hk : k ≤ 62) (hm : m = 2 ^ k - 1) : bitsOf .and .i64 n m = n % 2 ^ k := by
  subst hm
  have hp : (2 : Nat) ^ k ≤ 2 ^ 62 := Nat.pow_le_pow_right (by omega) hk
  have h1 : ((BitVec.ofInt 64 n) &&& (BitVec.ofInt 64 ((2 : Int) ^ k - 1))).toNat = ((n % 18446744073709551616).toNat) % 2 ^ k := by
    rw [BitVec.toNat_and, BitVec.toNat_ofInt, BitVec.toNat_ofInt]
    have e : ((((2 : Int) ^ k - 1) % ((2 ^ 64 : Nat) : Int)).toNat) = 2 ^ k - 1 := by
      have h0 : (0 : Int) ≤ (2 : Int) ^ k - 1 := by
        have : (1 : Int) ≤ 2 ^ k := by exact_mod_cast Nat.one_le_two_pow
        omega
      have h2 : (2 : Int) ^ k - 1 < ((2 ^ 64 : Nat) : Int) := by
        have : ((2 : Int) ^ k) = ((2 ^ k : Nat) : Int) := by norm_cast
        rw [this]; omega
      rw [Int.emod_eq_of_lt h0 h2]
      have : ((2 : Int) ^ k) = ((2 ^ k : Nat) : Int) := by norm_cast
      rw [this]; omega
    rw [e, Nat.and_two_pow_sub_one_eq_mod]
    rfl
  have h3 : ((n % 18446744073709551616).toNat) % 2 ^ k = (n % 2 ^ k).toNat := by
    have hd : ((2 : Int) ^ k) ∣ 18446744073709551616 := by
      have : (18446744073709551616 : Int) = 2 ^ k * 2 ^ (64 - k) := by rw [← Int.pow_add]; rw [show k + (64 - k) = 64 by omega]; rfl
      rw [this]; exact Int.dvd_mul_right _ _
    have h4 : (n % 18446744073709551616) % 2 ^ k = n % 2 ^ k := Int.emod_emod_of_dvd _ hd
    have h5 : 0 ≤ n % 18446744073709551616 := Int.emod_nonneg _ (by decide)
    have hpos : (0 : Int) ≤ n % 2 ^ k := Int.emod_nonneg _ (Int.ne_of_gt (Int.pow_pos (by decide)))
    apply Int.ofNat.inj
    show (((n % 18446744073709551616).toNat % 2 ^ k : Nat) : Int) = (((n % 2 ^ k).toNat : Nat) : Int)
    rw [Int.natCast_emod, Int.toNat_of_nonneg h5, Int.toNat_of_nonneg hpos, ← h4, Int.natCast_pow]
    rfl
  show IntKind.i64.wrap ((((BitVec.ofInt 64 n) &&& (BitVec.ofInt 64 ((2 : Int) ^ k - 1))).toNat : Nat) : Int) = n % 2 ^ k
  rw [h1, h3]
  have hpos : (0 : Int) ≤ n % 2 ^ k := Int.emod_nonneg _ (Int.ne_of_gt (Int.pow_pos (by decide)))
  have hlt : n % (2 : Int) ^ k < 2 ^ k := Int.emod_lt_of_pos _ (Int.pow_pos (by decide))
  have hp2 : ((2 : Int) ^ k) ≤ 4611686018427387904 := by
    have : ((2 : Int) ^ k) = ((2 ^ k : Nat) : Int) := by norm_cast
    rw [this]; omega
  rw [Int.toNat_of_nonneg hpos]
  exact w64 (by omega) (by omega)
section
variable {K : Value → Prop} {KE : Value → Heap → Prop} {H : Heap} {k k' : IntKind} {a b : Int} {s t : ByteArray} {p q : Bool} {x y : Value}
theorem pPick_v : pPick (.bool p) x y K = K (bif p then x else y) := rfl
theorem pNil_v {ad : Addr} : pNil (.pointer (some ad)) K = K (.pointer (some ad)) := rfl
theorem pNil_f {f : FuncId} {u v : Array Value} : pNil (.func (.func f) u v) K = K (.func (.func f) u v) := rfl
theorem pAdd_v : pAdd (.int k a) (.int k b) K = K (.int k (k.wrap (a + b))) := propext ⟨fun h => h.2, fun h => ⟨rfl, h⟩⟩
theorem pSub_v : pSub (.int k a) (.int k b) K = K (.int k (k.wrap (a - b))) := propext ⟨fun h => h.2, fun h => ⟨rfl, h⟩⟩
theorem pMul_v : pMul (.int k a) (.int k b) K = K (.int k (k.wrap (a * b))) := propext ⟨fun h => h.2, fun h => ⟨rfl, h⟩⟩
theorem pAdd_s : pAdd (.string s) (.string t) K = (s.size + t.size ≤ 9223372036854775807 ∧ K (str (bys s ++ bys t))) := rfl
theorem pQuo_v : pQuo (.int k a) (.int k b) K = (b ≠ 0 ∧ K (.int k (k.wrap (a.tdiv b)))) := propext ⟨fun h => h.2, fun h => ⟨rfl, h⟩⟩
theorem pRem_v : pRem (.int k a) (.int k b) K = (b ≠ 0 ∧ K (.int k (a.tmod b))) := propext ⟨fun h => h.2, fun h => ⟨rfl, h⟩⟩
theorem pBits_v {o : BinOp} : pBits o (.int k a) (.int k b) K = K (.int k (bitsOf o k a b)) := propext ⟨fun h => h.2, fun h => ⟨rfl, h⟩⟩
theorem pShl_v : pShl (.int k a) (.int k' b) K = (0 ≤ b ∧ K (.int k (k.wrap (a * 2 ^ (min b.toNat k.bits))))) := rfl
theorem pShr_v : pShr (.int k a) (.int k' b) K = (0 ≤ b ∧ K (.int k (a.fdiv (2 ^ (min b.toNat k.bits))))) := rfl
theorem pLt_v : pLt (.int k a) (.int k b) K = K (.bool (decide (a < b))) := propext ⟨fun h => h.2, fun h => ⟨rfl, h⟩⟩
theorem pLe_v : pLe (.int k a) (.int k b) K = K (.bool (decide (a ≤ b))) := propext ⟨fun h => h.2, fun h => ⟨rfl, h⟩⟩
theorem pGt_v : pGt (.int k a) (.int k b) K = K (.bool (decide (b < a))) := propext ⟨fun h => h.2, fun h => ⟨rfl, h⟩⟩
theorem pGe_v : pGe (.int k a) (.int k b) K = K (.bool (decide (b ≤ a))) := propext ⟨fun h => h.2, fun h => ⟨rfl, h⟩⟩
theorem pEq_0 : pEq 0 (.int k a) (.int k b) K = K (.bool (decide (a = b))) := by simp [pEq, eqK]
theorem pNe_0 : pNe 0 (.int k a) (.int k b) K = K (.bool (decide (a ≠ b))) := by simp [pNe, eqK]
theorem pEq_1 : pEq 1 (.string s) (.string t) K = K (.bool (decide (bys s = bys t))) := rfl
theorem pNe_1 : pNe 1 (.string s) (.string t) K = K (.bool (decide (bys s ≠ bys t))) := by simp [pNe, eqK]
theorem pEq_2 : pEq 2 (.bool p) (.bool q) K = K (.bool (decide (p = q))) := rfl
theorem pNe_2 : pNe 2 (.bool p) (.bool q) K = K (.bool (decide (p ≠ q))) := by simp [pNe, eqK]
theorem pEq_3n : pEq 3 (.pointer none) (.pointer none) K = K (.bool true) := rfl
theorem pNe_3n : pNe 3 (.pointer none) (.pointer none) K = K (.bool false) := rfl
theorem pEq_3s {ad} : pEq 3 (.pointer (some ad)) (.pointer none) K = K (.bool false) := rfl
theorem pNe_3s {ad} : pNe 3 (.pointer (some ad)) (.pointer none) K = K (.bool true) := rfl
theorem pEq_3t {ad} : pEq 3 (.pointer none) (.pointer (some ad)) K = K (.bool false) := rfl
theorem pNe_3t {ad} : pNe 3 (.pointer none) (.pointer (some ad)) K = K (.bool true) := rfl
theorem pEq_5n : pEq 5 (.map none) (.map none) K = K (.bool true) := rfl
theorem pNe_5n : pNe 5 (.map none) (.map none) K = K (.bool false) := rfl
theorem pEq_5s {ad} : pEq 5 (.map (some ad)) (.map none) K = K (.bool false) := rfl
theorem pNe_5s {ad} : pNe 5 (.map (some ad)) (.map none) K = K (.bool true) := rfl
theorem pEq_5t {ad} : pEq 5 (.map none) (.map (some ad)) K = K (.bool false) := rfl
theorem pNe_5t {ad} : pNe 5 (.map none) (.map (some ad)) K = K (.bool true) := rfl
theorem pEq_4n {n c m d} : pEq 4 (.slice none n c) (.slice none m d) K = K (.bool true) := rfl
theorem pNe_4n {n c m d} : pNe 4 (.slice none n c) (.slice none m d) K = K (.bool false) := rfl
theorem pEq_4s {ad n c m d} : pEq 4 (.slice (some ad) n c) (.slice none m d) K = K (.bool false) := rfl
theorem pNe_4s {ad n c m d} : pNe 4 (.slice (some ad) n c) (.slice none m d) K = K (.bool true) := rfl
theorem pNot_v : pNot (.bool p) K = K (.bool !p) := rfl
theorem pNeg_v : pNeg (.int k a) K = K (.int k (k.wrap (0 - a))) := rfl
theorem pCom_v : pCom (.int k a) K = K (.int k (bitsOf .xor k (if k.signed then -1 else k.max) a)) := rfl
theorem pConv_v : pConv k (.int k' a) K = K (.int k (k.wrap a)) := rfl
theorem pConvS_v : pConvS (.string s) K = K (.string s) := rfl
theorem pMin_v : pMin (.int k a) (.int k b) K = K (.int k (min a b)) := propext ⟨fun h => h.2, fun h => ⟨rfl, h⟩⟩
theorem pMax_v : pMax (.int k a) (.int k b) K = K (.int k (max a b)) := propext ⟨fun h => h.2, fun h => ⟨rfl, h⟩⟩
theorem pFieldAddr_v {o : Nat} {ad : Addr} : pFieldAddr o (.pointer (some ad)) K = K (.pointer (some (ad.add o))) := rfl
theorem pField1_v {o : Nat} {l : List Value} : pField1 o (.agg l.toArray) K = match l[o]? with | some v => K v | none => False := rfl
theorem pFieldN_v {o n : Nat} {l : List Value} : pFieldN o n (.agg l.toArray) K = K (.agg ((l.drop o).take n).toArray) := rfl
theorem pExtract_v {o : Nat} {l : List Value} : pExtract o (.tuple l.toArray) K = match l[o]? with | some v => K v | none => False := rfl
theorem pIdxArr_v {n m : Nat} {ad : Addr} : pIdxArr n m (.pointer (some ad)) (.int k a) K = (0 ≤ a ∧ a < (n : Int) ∧ K (.pointer (some (ad.add (a.toNat * m))))) := rfl
theorem pIdxSl_v {n c m : Nat} {ad : Addr} : pIdxSl m (.slice (some ad) n c) (.int k a) K = (0 ≤ a ∧ a < (n : Int) ∧ K (.pointer (some (ad.add (a.toNat * m))))) := rfl
theorem pIdxStr_v : pIdxStr (.string s) (.int k a) K = (0 ≤ a ∧ a < ((bys s).length : Int) ∧ K (.int .u8 (((bys s).getD a.toNat 0).toNat : Int))) := rfl
theorem pBounds_00 {n c : Nat} {Kb : Nat → Nat → Prop} : pBounds n c none none Kb = Kb 0 n := rfl
theorem pBounds_10 {n c : Nat} {Kb : Nat → Nat → Prop} : pBounds n c (some (.int k a)) none Kb = (0 ≤ a ∧ a ≤ (n : Int) ∧ Kb a.toNat n) := rfl
theorem pBounds_01 {n c : Nat} {Kb : Nat → Nat → Prop} : pBounds n c none (some (.int k b)) Kb = (0 ≤ b ∧ b ≤ (c : Int) ∧ Kb 0 b.toNat) := rfl
theorem pBounds_11 {n c : Nat} {Kb : Nat → Nat → Prop} : pBounds n c (some (.int k a)) (some (.int k' b)) Kb = (0 ≤ b ∧ b ≤ (c : Int) ∧ 0 ≤ a ∧ a ≤ b ∧ Kb a.toNat b.toNat) := rfl
theorem pSlStr_v {lo hi : Option Value} : pSlStr (.string s) lo hi K = pBounds (bys s).length (bys s).length lo hi fun l h => K (str (((bys s).drop l).take (h - l))) := rfl
theorem pSlSl_v {m n c : Nat} {ad : Option Addr} {lo hi : Option Value} : pSlSl m (.slice ad n c) lo hi K = pBounds n c lo hi fun l h => K (.slice (if c = l then ad else ad.map (·.add (l * m))) (h - l) (c - l)) := rfl
theorem pSlArr_v {m n : Nat} {ad : Addr} {lo hi : Option Value} : pSlArr n m (.pointer (some ad)) lo hi K = pBounds n n lo hi fun l h => K (.slice (some (if n = l then ad else ad.add (l * m))) (h - l) (n - l)) := rfl
theorem pLenS_v : pLenS (.string s) K = K (.int .i64 ((bys s).length : Int)) := rfl
theorem pLen_v {ad : Option Addr} {n c : Nat} : pLen (.slice ad n c) K = K (.int .i64 (n : Int)) := rfl
theorem pCap_v {ad : Option Addr} {n c : Nat} : pCap (.slice ad n c) K = K (.int .i64 (c : Int)) := rfl
theorem pBuild_n {l : List Value} : pBuild l [] K = K (.agg l.toArray) := rfl
theorem pBuild_c {l : List Value} {o m : Nat} {v : Value} {r : List (Nat × Nat × Value)} : pBuild l ((o, m, v) :: r) K = (v.cells.size = m ∧ o + m ≤ l.length ∧ pBuild (putL l o v.cells.toList) r K) := rfl
theorem cells_int : Value.cells (.int k a) = #[(.int k a)] := rfl
theorem cells_str : Value.cells (.string s) = #[(.string s)] := rfl
theorem cells_bool : Value.cells (.bool p) = #[(.bool p)] := rfl
theorem cells_ptr {u} : Value.cells (.pointer u) = #[.pointer u] := rfl
theorem cells_slice {u n c} : Value.cells (.slice u n c) = #[.slice u n c] := rfl
theorem cells_map {u} : Value.cells (.map u) = #[.map u] := rfl
theorem cells_agg {u} : Value.cells (.agg u) = u := rfl
theorem oneCell_int : oneCell (.int k a) = true := rfl
theorem oneCell_str : oneCell (.string s) = true := rfl
theorem oneCell_bool : oneCell (.bool p) = true := rfl
theorem oneCell_ptr {u} : oneCell (.pointer u) = true := rfl
theorem oneCell_slice {u n c} : oneCell (.slice u n c) = true := rfl
theorem oneCell_map {u} : oneCell (.map u) = true := rfl
end
theorem putL_cons (cs : List Value) (o : Nat) (v : Value) (r : List Value) : putL cs o (v :: r) = putL (cs.set o v) (o + 1) r := rfl
theorem putL_nil (cs : List Value) (o : Nat) : putL cs o [] = cs := rfl
theorem putL_len (l : List Value) : ∀ (cs : List Value) (o : Nat), (putL cs o l).length = cs.length := by
  induction l with
  | nil => intros; rfl
  | cons v r ih => intro cs o; rw [putL_cons, ih, List.length_set]
theorem putL_all (l : List Value) : ∀ (a c : List Value), c.length = l.length → putL (a ++ c) a.length l = a ++ l := by
  induction l with
  | nil => intro a c h; have : c = [] := by simpa using h
           subst this; rfl
  | cons v r ih =>
    intro a c h
    match c, h with
    | x :: c, h =>
      rw [putL_cons, show (a ++ x :: c).set a.length v = (a ++ [v]) ++ c by simp, show a.length + 1 = (a ++ [v]).length by simp, ih (a ++ [v]) c (by simpa using h)]
      simp
theorem setsAt_blk {b o : Nat} {t : TypeId} : ∀ (l : List Value) (H : Heap) (cs : Array Value) (i : Nat), H[b]? = some (.cells cs t (0, 0)) → l.all oneCell = true → o + i + l.length ≤ cs.size →
    setsAt H ⟨b, o, none⟩ i l = some (H.setIfInBounds b (.cells (putL cs.toList (o + i) l).toArray t (0, 0)))
  | [], H, cs, i, h, _, _ => by simp only [setsAt, putL_nil]; rw [set_self h]
  | v :: r, H, cs, i, h, hv, hs => by
    have hv1 : oneCell v = true := by simp only [List.all_cons, Bool.and_eq_true] at hv; exact hv.1
    have hv2 : r.all oneCell = true := by simp only [List.all_cons, Bool.and_eq_true] at hv; exact hv.2
    have hs' : o + i + (r.length + 1) ≤ cs.size := by simpa using hs
    have hc : cellAt H ⟨b, o + i, none⟩ = some cs[o + i] := by rw [cellAt_blk h]; simp
    have hf : frozenAt H ⟨b, o + i, none⟩ = false := by simp [frozenAt, h]
    simp only [setsAt, add_mk, hc, hf, cond_false, hv1, cond_true, setAt_blk h]
    rw [setsAt_blk r _ (cs.setIfInBounds (o + i) v) (i + 1) (get_set_self (lt_of_blk h)) hv2 (by simp; omega), set_set, putL_cons]
    simp [Nat.add_assoc]
theorem pStoreN_blk {H : Heap} {b n : Nat} {cs vs : Array Value} {t : TypeId} {K : Value → Heap → Prop} (h : H[b]? = some (.cells cs t (0, 0))) (hn : cs.size = n) (hv : vs.size = n) (ha : vs.toList.all oneCell = true) :
    pStoreN H n (.pointer (some ⟨b, 0, none⟩)) (.agg vs) K = K undef (H.setIfInBounds b (.cells vs t (0, 0))) := by
  have e := putL_all vs.toList [] cs.toList (by simp [hn, hv])
  simp only [List.nil_append, List.length_nil] at e
  simp only [pStoreN, cells_agg, hv, setsAt_blk (o := 0) vs.toList H cs 0 h ha (by simp; omega), e, true_and]
def LawOk (H : Heap) (v : Value) (H' : Heap) : Prop := v = .bool true ∧ Ext H H'
end Go.Vc
namespace Go.Vc
open Go
structure Upd (b : Nat) (o : Obj) (H H' : Heap) : Prop where
  size : H.size ≤ H'.size
  at_ : H'[b]? = some o
  ne : ∀ i, i < H.size → i ≠ b → H'[i]? = H[i]?
theorem Upd.keep {b c : Nat} {o o' : Obj} {H H' : Heap} (h : Upd b o H H') (hc : H[c]? = some o') (hn : c ≠ b) : H'[c]? = some o' := (h.ne c (lt_of_blk hc) hn).trans hc
theorem Upd.ext {A H H' : Heap} {b : Nat} {o : Obj} (h : Upd b o H H') (hE : Ext A H) (hb : A.size ≤ b) : Ext A H' :=
  ⟨Nat.le_trans hE.size h.size, fun i hi => (h.ne i (Nat.lt_of_lt_of_le hi hE.size) (by omega)).trans (hE.get i hi)⟩
theorem Upd.set {H : Heap} {b : Nat} {o : Obj} (hb : b < H.size) : Upd b o H (H.setIfInBounds b o) := ⟨by simp, get_set_self hb, fun i _ hn => get_set_ne (Ne.symm hn)⟩
theorem Upd.trans {A B C : Heap} {b : Nat} {o o' : Obj} (h : Upd b o A B) (k : Upd b o' B C) : Upd b o' A C :=
  ⟨Nat.le_trans h.size k.size, k.at_, fun i hi hn => (k.ne i (Nat.lt_of_lt_of_le hi h.size) hn).trans (h.ne i hi hn)⟩
theorem Upd.refl {A : Heap} {b : Nat} {o : Obj} (h : A[b]? = some o) : Upd b o A A := ⟨Nat.le_refl _, h, fun _ _ _ => rfl⟩
section
variable {KE : Value → Heap → Prop} {H : Heap} {b o n : Nat} {cs vs : Array Value} {t : TypeId} {v : Value}
theorem pStore_upd (h : H[b]? = some (.cells cs t (0, 0))) (ho : o < cs.size) (hv : oneCell v = true) (hk : ∀ H', H'.size = H.size → Upd b (.cells (cs.setIfInBounds o v) t (0, 0)) H H' → KE undef H') : pStore H (.pointer (some ⟨b, o, none⟩)) v KE := by
  rw [pStore_blk h ho hv]; exact hk _ (by simp) (Upd.set (lt_of_blk h))
theorem pStoreN_upd (h : H[b]? = some (.cells cs t (0, 0))) (hn : cs.size = n) (hv : vs.size = n) (ha : vs.toList.all oneCell = true) (hk : ∀ H', H'.size = H.size → Upd b (.cells vs t (0, 0)) H H' → KE undef H') : pStoreN H n (.pointer (some ⟨b, 0, none⟩)) (.agg vs) KE := by
  rw [pStoreN_blk h hn hv ha]; exact hk _ (by simp) (Upd.set (lt_of_blk h))
theorem pBox_ext {e : TypeId} (hk : ∀ H', H'.size = H.size + 1 → Ext H H' → H'[H.size]? = some (.cells v.cells e (0, 0)) → KE (.pointer (some ⟨H.size, 0, none⟩)) H') : pBox H e v KE :=
  hk _ (by simp) (Ext.refl _).push get_push_self
end
end Go.Vc
namespace Go.Vc
open Go
section
variable {H : Heap} {KE : Value → Heap → Prop} {a d : Bool}
theorem pAnd_pureE : pAnd (.bool a) (fun J => ∀ _ : Env, J (.bool d) H) H KE = KE (.bool (a && d)) H := by
  refine Eq.trans ?_ (pAnd_pure (H := H) (KE := KE) (a := a) (d := d))
  unfold pAnd
  simp only [forall_const]
theorem pOr_pureE : pOr (.bool a) (fun J => ∀ _ : Env, J (.bool d) H) H KE = KE (.bool (a || d)) H := by
  refine Eq.trans ?_ (pOr_pure (H := H) (KE := KE) (a := a) (d := d))
  unfold pOr
  simp only [forall_const]
theorem bool_to {R : Value → Heap → Prop} {b : Bool} (e : a = b) (h : R (.bool b) H) : R (.bool a) H := by rw [e]; exact h
end
end Go.Vc
namespace Go.Vc
open Go
end Go.Vc
set_option linter.unusedSimpArgs false
set_option linter.unusedVariables false
namespace Go.Vc
open Go Go.RowKit
theorem below_of {P : Program} {f : FuncId} {args : Array Value} {w : World} (h : CallsH P f args w.heap (LawOk w.heap)) : Calls P f args w fun e w' => e = .returned (.bool true) ∧ ∃ w'' : World, w'.Alike w'' ∧ Below w.heap.size w w'' :=
  (h w rfl).mono fun e w' ⟨v, he, hr, hv, hx⟩ => ⟨by rw [he, hv], { w' with tape := w.tape }, ⟨rfl, rfl, rfl⟩, ⟨hr.os, rfl, hr.output, hx.size, fun k hk => hx.get k hk⟩⟩
def IntRow (k : IntKind) (H : Heap) (a : Option Addr) (len cap : Nat) (zs : List Int) : Prop :=
  (a = none ∧ len = 0 ∧ cap = 0 ∧ zs = []) ∨
  ∃ x, a = some x ∧ len ≤ cap ∧ cap ≤ maxLen ∧ zs.length = cap ∧ (∀ i, i < zs.length → cellAt H (x.add i) = some (.int k (zs.getD i 0))) ∧ ∀ n ∈ zs, (Lit.int k n).wf = true
theorem wf64 {n : Int} (h : (Lit.int .i64 n).wf = true) : -9223372036854775808 ≤ n ∧ n ≤ 9223372036854775807 := by
  simpa [Lit.wf, IntKind.min, IntKind.max, IntKind.signed, IntKind.bits] using h
theorem cellAt_ext {H H' : Heap} {a : Addr} {v : Value} (h : Ext H H') (hc : cellAt H a = some v) : cellAt H' a = some v := by
  unfold cellAt at hc ⊢
  have hl : a.block < H.size := by
    rcases Nat.lt_or_ge a.block H.size with h' | h'
    · exact h'
    · rw [Array.getElem?_eq_none h'] at hc; cases hc
  rw [h.get _ hl]; exact hc
theorem IntRow.read {k : IntKind} {H H' : Heap} {a : Option Addr} {len cap : Nat} {zs : List Int} (hr : IntRow k H a len cap zs) (hx : Ext H H') {i : Int} (h0 : 0 ≤ i) (h1 : i < (len : Int)) {K : Value → Prop} :
    (K (.int k (zs.getD i.toNat 0))) → pIdxSl 1 (.slice a len cap) (.int .i64 i) fun x => pLoad H' x K := by
  intro hk
  rcases hr with ⟨_, rfl, _⟩ | ⟨x, rfl, hl, _, hz, hc, _⟩
  · omega
  · rw [pIdxSl_v]
    refine ⟨h0, h1, ?_⟩
    rw [Nat.mul_one, pLoad_cell (cellAt_ext hx (hc i.toNat (by omega)))]
    exact hk
theorem IntRow.wf {k : IntKind} {H : Heap} {a : Option Addr} {len cap : Nat} {zs : List Int} (hr : IntRow k H a len cap zs) {i : Nat} (h1 : i < len) : (Lit.int k (zs.getD i 0)).wf = true := by
  rcases hr with ⟨_, rfl, _⟩ | ⟨x, rfl, hl, _, hz, hc, hw⟩
  · omega
  · rw [List.getD_eq_getElem?_getD, List.getElem?_eq_getElem (by omega)]
    exact hw _ (List.getElem_mem _)
end Go.Vc
set_option linter.unusedSimpArgs false
set_option linter.unusedVariables false
namespace Go.Vc
open Go Go.ChangeShapes Go.WideShapes Go.Deep Go.RowKit
def FitK : TypeDesc → Value → Prop
  | .int k, v => ∃ n, v = .int k n ∧ (Lit.int k n).wf = true
  | .bool, v => ∃ b, v = .bool b
  | .string, v => ∃ l, v = str l ∧ l.length ≤ maxLen
  | _, _ => True
def FitAll (ds : List TypeDesc) (c : Nat → Option Value) : Prop := ∀ (j : Nat) (d : TypeDesc), ds[j]? = some d → ∃ v, c j = some v ∧ FitK d v
def StructRow (ds : List TypeDesc) (H : Heap) (a : Option Addr) (len cap : Nat) : Prop :=
  (a = none ∧ len = 0 ∧ cap = 0) ∨
  ∃ x, a = some x ∧ len ≤ cap ∧ cap ≤ maxLen ∧ ∀ i, i < len → FitAll ds fun j => cellAt H (x.add (i * ds.length + j))
def descs (P : Program) (fs : List Field) : List TypeDesc := fs.map fun f => (P.underlying f.type).getD .bool
section
variable {H : Type} {enc : TypeId × Value → H} {P : Program} {w : World} {base : Nat} {spare : Nat → Bool} {held : Bool}
theorem fit_of {t : TypeId} {d : TypeDesc} {v : Value} {n : Nat} {y : DataW H × List MemPlace} (hu : P.underlying t = some d) (h : DataW.trod enc P w base spare held n t [v] = some y) : FitK d v := by
  unfold FitK
  split
  · obtain ⟨m, he, _, hw⟩ := DataW.trod_int hu h
    simp only [List.cons.injEq, and_true] at he
    exact ⟨m, he, hw⟩
  · obtain ⟨b, he, _⟩ := DataW.trod_bool hu h
    simp only [List.cons.injEq, and_true] at he
    exact ⟨b, he⟩
  · obtain ⟨s, he, _, hl⟩ := DataW.trod_string hu h
    simp only [List.cons.injEq, and_true] at he
    refine ⟨bys s, by rw [he, str_bys], ?_⟩
    have e : (bys s).length = s.size := rfl
    rw [e]; exact hl
  · trivial
theorem take_one {cs : List Value} {j : Nat} (h : j < cs.length) : (cs.drop j).take 1 = [cs[j]'h] := by
  rw [List.drop_eq_getElem_cons h]; rfl
theorem fits_of {t : TypeId} {fs : Array Field} {cs : List Value} {fuel : Nat} {x : DataW H × List MemPlace} (ht : P.underlying t = some (.struct fs)) (hone : oneCellFields P fs = true) (hC : P.cellsOf t = fs.size)
    (hall : fs.toList.all (fun f => (P.underlying f.type).isSome) = true) (h : DataW.trod enc P w base spare held fuel t cs = some x) : cs.length = fs.size ∧ FitAll (descs P fs.toList) fun j => cs[j]? := by
  obtain ⟨ys, n', hn', hy, hlen, hyl, hf⟩ := DataW.trod_struct ht h
  refine ⟨hlen.trans hC, fun j d hj => ?_⟩
  unfold descs at hj
  rw [List.getElem?_map, Array.getElem?_toList] at hj
  cases hfj : fs[j]? with
  | none => rw [hfj] at hj; cases hj
  | some f =>
    rw [hfj] at hj
    simp only [Option.map_some, Option.some.injEq] at hj
    have hjl : j < fs.size := (Array.getElem?_eq_some_iff.1 hfj).1
    obtain ⟨ho, hk⟩ := hone_of hone j f hfj
    have h1 := hf j f hfj
    have hl : j < cs.length := by omega
    rw [ho, hk, take_one hl, List.getElem?_eq_getElem (show j < ys.length by omega)] at h1
    have hs : (P.underlying f.type).isSome = true := List.all_eq_true.1 hall f (by
      have := (Array.getElem?_eq_some_iff.1 hfj)
      obtain ⟨h1, h2⟩ := this
      rw [← h2]; simp)
    obtain ⟨d', hd'⟩ := Option.isSome_iff_exists.1 hs
    rw [hd'] at hj
    simp only [Option.getD_some] at hj
    subst hj
    exact ⟨cs[j], List.getElem?_eq_getElem hl, fit_of hd' h1⟩
theorem open_structs {t e : TypeId} {fs : Array Field} {fuel : Nat} {a : Option Addr} {len cap : Nat} {x : DataW H × List MemPlace} (ht : P.underlying t = some (.slice e)) (he : P.underlying e = some (.struct fs)) (hone : oneCellFields P fs = true) (hC : P.cellsOf e = fs.size)
    (hall : fs.toList.all (fun f => (P.underlying f.type).isSome) = true) {ds : List TypeDesc} (hds : descs P fs.toList = ds) (h : DataW.trod enc P w base spare held fuel t [.slice a len cap] = some x) : StructRow ds w.heap a len cap := by
  subst hds
  rcases open_slice ht h with ⟨h0, _⟩ | ⟨a', len', cap', m, n, D, Pl, hcs, hb, hl, hm, hmm, hx, hi⟩
  · simp only [List.cons.injEq, Value.slice.injEq, and_true] at h0
    exact .inl h0
  · simp only [List.cons.injEq, Value.slice.injEq, and_true] at hcs
    obtain ⟨rfl, rfl, rfl⟩ := hcs
    refine .inr ⟨a', rfl, hl, hm, fun i hil => ?_⟩
    have him : i < m := by rw [hmm]; split <;> omega
    obtain ⟨cs', hc, ht'⟩ := hi i him
    have hF := fits_of he hone hC hall ht'
    obtain ⟨_, hcl, hat⟩ := World.cells?_some hc
    intro j d hj
    obtain ⟨v, hv, hk⟩ := hF.2 j d hj
    have hjl : j < cs'.length := (List.getElem?_eq_some_iff.1 hv).1
    refine ⟨v, ?_, hk⟩
    have hat := hat j (by omega)
    have hv : cs'[j]? = some v := hv
    show cellAt w.heap (a'.add (i * (descs P fs.toList).length + j)) = some v
    rw [← hv, ← hat, Go.Deep.add_add, hC]
    have : (descs P fs.toList).length = fs.size := by simp [descs]
    rw [this]
    rfl
end
end Go.Vc
set_option linter.unusedSimpArgs false
set_option linter.unusedVariables false
namespace Go.Vc
open Go
theorem addr_add_add (a : Addr) (m n : Nat) : (a.add m).add n = a.add (m + n) := by
  unfold Addr.add
  by_cases hm : m = 0
  · subst hm; simp
  · by_cases hn : n = 0
    · subst hn; simp [hm]
    · have : m + n ≠ 0 := by omega
      simp [hm, hn, this, Nat.add_assoc]
def Reads (H : Heap) (a : Addr) (l : List Value) : Prop := ∀ (i : Nat) (v : Value), l[i]? = some v → cellAt H (a.add i) = some v
theorem Reads.cells {H : Heap} {a : Addr} {l : List Value} (h : Reads H a l) : ∀ n, n ≤ l.length → cellsAt H a n = some (l.take n)
  | 0, _ => by simp [cellsAt]
  | n + 1, hn => by
    have hlt : n < l.length := by omega
    simp only [cellsAt, h.cells n (by omega), h n l[n] (List.getElem?_eq_getElem hlt)]
    rw [List.take_add_one, List.getElem?_eq_getElem hlt]
    rfl
theorem Reads.all {H : Heap} {a : Addr} {l : List Value} (h : Reads H a l) : cellsAt H a l.length = some l := by rw [h.cells _ (Nat.le_refl _), List.take_length]
theorem Reads.ext {H H' : Heap} {a : Addr} {l : List Value} (h : Reads H a l) (hx : Ext H H') : Reads H' a l := fun i v hv => cellAt_ext hx (h i v hv)
theorem Reads.part {H : Heap} {a : Addr} {l : List Value} (h : Reads H a l) (o n : Nat) : Reads H (a.add o) ((l.drop o).take n) := fun i v hv => by
  rw [addr_add_add]
  rw [List.getElem?_take] at hv
  split at hv
  · rw [List.getElem?_drop] at hv; exact h _ _ hv
  · cases hv
def Sl (H : Heap) (v : Value) (sz : Nat) (l : List Value) : Prop :=
  (v = .slice none 0 0 ∧ l = []) ∨ ∃ a n cap, v = .slice (some a) n cap ∧ l.length = n * sz ∧ n ≤ cap ∧ Reads H a l
theorem Sl.ext {H H' : Heap} {v : Value} {sz : Nat} {l : List Value} (h : Sl H v sz l) (hx : Ext H H') : Sl H' v sz l := by
  rcases h with h | ⟨a, n, cap, h1, h2, h3, h4⟩
  · exact .inl h
  · exact .inr ⟨a, n, cap, h1, h2, h3, h4.ext hx⟩
theorem Sl.len {H : Heap} {v : Value} {sz : Nat} {l : List Value} {K : Value → Prop} (h : Sl H v sz l) {n : Nat} (hn : l.length = n * sz) (hz : 0 < sz) (hk : K (.int .i64 (n : Int))) : pLen v K := by
  rcases h with ⟨rfl, rfl⟩ | ⟨a, m, cap, rfl, h2, h3, h4⟩
  · rw [pLen_v]
    have : n = 0 := by
      rcases Nat.eq_zero_or_pos n with h | h
      · exact h
      · have := Nat.mul_pos h hz
        simp only [List.length_nil] at hn
        omega
    subst this; exact hk
  · rw [pLen_v]
    rw [h2] at hn
    rw [Nat.eq_of_mul_eq_mul_right hz hn]; exact hk
theorem Sl.lenV {H : Heap} {v : Value} {sz : Nat} {l : List Value} (h : Sl H v sz l) {n : Nat} (hn : l.length = n * sz) (hz : 0 < sz) : Go.Vc.lenV v = some n := by
  rcases h with ⟨rfl, rfl⟩ | ⟨a, m, cap, rfl, h2, h3, h4⟩
  · have : n = 0 := by
      rcases Nat.eq_zero_or_pos n with h | h
      · exact h
      · have := Nat.mul_pos h hz
        simp only [List.length_nil] at hn
        omega
    subst this; rfl
  · rw [h2] at hn
    rw [Nat.eq_of_mul_eq_mul_right hz hn]; rfl
theorem Sl.cellsOf {H : Heap} {v : Value} {sz : Nat} {l : List Value} (h : Sl H v sz l) : Go.Vc.cellsOf H sz v = some l := by
  rcases h with ⟨rfl, rfl⟩ | ⟨a, m, cap, rfl, h2, h3, h4⟩
  · rfl
  · show cellsAt H a (m * sz) = some l
    rw [← h2]; exact h4.all
theorem Reads.load {H : Heap} {a : Addr} {l : List Value} {v : Value} {K : Value → Prop} (h : Reads H a l) (hv : l[0]? = some v) (hk : K v) : pLoad H (.pointer (some a)) K := by
  have := h 0 v hv
  have e : a.add 0 = a := by simp [Addr.add]
  rw [e] at this
  rw [pLoad_cell this]; exact hk
theorem Reads.loadAt {H : Heap} {a : Addr} {l : List Value} {v : Value} {o : Nat} {K : Value → Prop} (h : Reads H a l) (hv : l[o]? = some v) (hk : K v) : pLoad H (.pointer (some (a.add o))) K := by
  rw [pLoad_cell (h o v hv)]; exact hk
theorem Reads.loadN {H : Heap} {a : Addr} {l : List Value} {n : Nat} {K : Value → Prop} (h : Reads H a l) (hn : l.length = n) (hk : K (.agg l.toArray)) : pLoadN H n (.pointer (some a)) K := by
  subst hn
  simp only [pLoadN, h.all]; exact hk
def Thawed (fr : Nat × Nat) (n : Nat) : Prop := fr = (0, 0) ∨ n ≤ fr.1
structure OwnB (H : Heap) (b : Nat) (sz n cap : Nat) (l sp : List Value) : Prop where
  blk : ∃ t fr, H[b]? = some (.cells (l ++ sp).toArray t fr) ∧ Thawed fr (cap * sz)
  len : l.length = n * sz
  cap_ : (l ++ sp).length = cap * sz
def Own (H : Heap) (v : Value) (sz : Nat) (l : List Value) : Prop :=
  (v = .slice none 0 0 ∧ l = []) ∨ ∃ b n cap sp, v = .slice (some ⟨b, 0, none⟩) n cap ∧ OwnB H b sz n cap l sp
def blkOf : Value → Option Nat
  | .slice (some a) _ _ => some a.block
  | _ => none
theorem Own.sl {H : Heap} {v : Value} {sz : Nat} {l : List Value} (hz : 0 < sz) (h : Own H v sz l) : Sl H v sz l := by
  rcases h with h | ⟨b, n, cap, sp, rfl, ⟨t, fr, hb, _⟩, hl, hc⟩
  · exact .inl h
  · refine .inr ⟨_, n, cap, rfl, hl, ?_, fun i v hv => ?_⟩
    · rw [List.length_append] at hc
      exact Nat.le_of_mul_le_mul_right (by omega) hz
    · rw [add_mk, Nat.zero_add, cellAt_blk hb, List.getElem?_toArray, List.getElem?_append_left (List.getElem?_eq_some_iff.1 hv).1]
      exact hv
theorem Own.ext {H H' : Heap} {v : Value} {sz : Nat} {l : List Value} (h : Own H v sz l) (hx : Ext H H') : Own H' v sz l := by
  rcases h with h | ⟨b, n, cap, sp, rfl, ⟨t, fr, hb, hf⟩, hl, hc⟩
  · exact .inl h
  · exact .inr ⟨b, n, cap, sp, rfl, ⟨⟨t, fr, hx.blk hb, hf⟩, hl, hc⟩⟩
theorem Own.other {H H' : Heap} {v : Value} {sz : Nat} {l : List Value} {b' : Option Nat} (h : Own H v sz l) (hx : ∀ i, i < H.size → b' ≠ some i → H'[i]? = H[i]?) (hb : blkOf v ≠ b' ∨ blkOf v = none) : Own H' v sz l := by
  rcases h with h | ⟨b, n, cap, sp, rfl, ⟨t, fr, hb', hf⟩, hl, hc⟩
  · exact .inl h
  · refine .inr ⟨b, n, cap, sp, rfl, ⟨⟨t, fr, ?_, hf⟩, hl, hc⟩⟩
    rw [hx b (lt_of_blk hb') (by
      rcases hb with hb | hb
      · exact fun e => hb (by simp [blkOf, e])
      · simp [blkOf] at hb)]
    exact hb'
theorem Own.lt {H : Heap} {v : Value} {sz : Nat} {l : List Value} (h : Own H v sz l) {b : Nat} (hb : blkOf v = some b) : b < H.size := by
  rcases h with ⟨rfl, _⟩ | ⟨b', n, cap, sp, rfl, ⟨t, fr, hb', hf⟩, hl, hc⟩
  · simp [blkOf] at hb
  · simp only [blkOf, Option.some.injEq] at hb
    subst hb; exact lt_of_blk hb'
theorem setsAt_thaw {b : Nat} {t : TypeId} {fr : Nat × Nat} {N : Nat} (hf : Thawed fr N) : ∀ (l : List Value) (H : Heap) (o i : Nat) (cs : List Value), H[b]? = some (.cells cs.toArray t fr) → l.all oneCell = true → o + i + l.length ≤ cs.length → cs.length = N →
    setsAt H ⟨b, o, none⟩ i l = some (H.setIfInBounds b (.cells (putL cs (o + i) l).toArray t fr))
  | [], H, o, i, cs, h, _, _, _ => by simp only [setsAt, putL_nil]; rw [set_self h]
  | v :: r, H, o, i, cs, h, hv, hs, hN => by
    have hv1 : oneCell v = true := by simp only [List.all_cons, Bool.and_eq_true] at hv; exact hv.1
    have hv2 : r.all oneCell = true := by simp only [List.all_cons, Bool.and_eq_true] at hv; exact hv.2
    have hs' : o + i + (r.length + 1) ≤ cs.length := by simpa using hs
    have hc : cellAt H ⟨b, o + i, none⟩ = some (cs[o + i]'(by omega)) := by rw [cellAt_blk h, List.getElem?_toArray, List.getElem?_eq_getElem]
    have hfz : frozenAt H ⟨b, o + i, none⟩ = false := by
      obtain ⟨lo, hi⟩ := fr
      simp only [frozenAt, h]
      rcases hf with hf | hf
      · simp only [Prod.mk.injEq] at hf
        obtain ⟨rfl, rfl⟩ := hf
        simp
      · have : ¬ lo ≤ o + i := by simp only at hf; omega
        simp [this]
    simp only [setsAt, add_mk, hc, hfz, cond_false, hv1, cond_true, setAt_blk h]
    rw [show (Array.setIfInBounds cs.toArray (o + i) v) = (cs.set (o + i) v).toArray by simp]
    rw [setsAt_thaw hf r _ o (i + 1) (cs.set (o + i) v) (get_set_self (lt_of_blk h)) hv2 (by simp; omega) (by simpa using hN), set_set, putL_cons]
    simp [Nat.add_assoc]
theorem putL_mid (l : List Value) : ∀ (a c : List Value), l.length ≤ c.length → putL (a ++ c) a.length l = a ++ l ++ c.drop l.length := by
  induction l with
  | nil => intro a c _; simp [putL_nil]
  | cons v r ih =>
    intro a c h
    match c, h with
    | x :: c, h =>
      rw [putL_cons, show (a ++ x :: c).set a.length v = (a ++ [v]) ++ c by simp, show a.length + 1 = (a ++ [v]).length by simp, ih (a ++ [v]) c (by simpa using h)]
      simp
theorem repL_len (z : List Value) : ∀ n, (repL z n).length = n * z.length
  | 0 => by simp [repL]
  | n + 1 => by rw [repL, List.length_append, repL_len z n, Nat.succ_mul, Nat.add_comm]
theorem Own.append {H : Heap} {v x : Value} {sz bytes m n : Nat} {e : TypeId} {zero l new : List Value} {K : Value → Heap → Prop} (h : Own H v sz l) (hz : 0 < sz) (hzero : zero.length = sz) (hlen : lenV x = some m) (hcells : cellsOf H sz x = some new)
    (hl : l.length = n * sz) (hm : new.length = m * sz) (hone : new.all oneCell = true) (hsize : 2 * (n + m) * bytes ≤ 281474976710656)
    (hk : ∀ v' H', Own H' v' sz (l ++ new) → (∀ i, i < H.size → blkOf v ≠ some i → H'[i]? = H[i]?) → H.size ≤ H'.size → (blkOf v' = blkOf v ∨ blkOf v' = some H.size) → K v' H') : pAppend H e sz bytes zero v x K := by
  rcases h with ⟨rfl, rfl⟩ | ⟨b, n', cap, sp, rfl, ⟨t, fr, hb, hf⟩, hl', hc⟩
  · have hn0 : n = 0 := by
      rcases Nat.eq_zero_or_pos n with h | h
      · exact h
      · have := Nat.mul_pos h hz
        simp only [List.length_nil] at hl
        omega
    subst hn0
    simp only [pAppend, hlen, hcells]
    refine ⟨fun hle => ?_, fun hlt => ?_⟩
    · have hm0 : m = 0 := by omega
      subst hm0
      have : new = [] := by simpa using hm
      subst this
      exact hk _ H (.inl ⟨rfl, rfl⟩) (fun _ _ _ => rfl) (Nat.le_refl _) (.inl rfl)
    · refine ⟨by simpa using hsize, ?_⟩
      simp only [cellsOf, List.nil_append]
      intro c hc
      refine hk _ _ (.inr ⟨H.size, 0 + m, c, repL zero (c - (0 + m)), rfl, ⟨⟨e, (0, 0), get_push_self, .inl rfl⟩, by simpa using hm, ?_⟩⟩) (fun i hi _ => get_push_lt hi) (by simp) (.inr rfl)
      simp only [List.nil_append]
      rw [List.length_append, repL_len, hm, hzero, ← Nat.add_mul]
      congr 1; omega
  · have hnn : n' = n := Nat.eq_of_mul_eq_mul_right hz (hl'.symm.trans hl)
    subst hnn
    simp only [pAppend, hlen, hcells]
    refine ⟨fun hle => ?_, fun hlt => ?_⟩
    · have hsp : new.length ≤ sp.length := by
        rw [List.length_append] at hc
        have := Nat.mul_le_mul_right sz hle
        rw [Nat.add_mul] at this
        omega
      simp only [add_mk, Nat.zero_add]
      rw [setsAt_thaw hf new H (n' * sz) 0 (l ++ sp) hb hone (by rw [List.length_append]; omega) hc]
      simp only [Nat.add_zero]
      rw [← hl', putL_mid new l sp hsp]
      refine hk _ _ (.inr ⟨b, n' + m, cap, sp.drop new.length, rfl, ⟨⟨t, fr, get_set_self (lt_of_blk hb), hf⟩, ?_, ?_⟩⟩) (fun i hi hne => ?_) (by simp) (.inl rfl)
      · rw [List.length_append, hl', hm, Nat.add_mul]
      · rw [List.length_append, List.length_append, List.length_drop]
        rw [List.length_append] at hc
        omega
      · exact get_set_ne (by intro e; subst e; simp [blkOf] at hne)
    · refine ⟨hsize, ?_⟩
      have hr : cellsOf H sz (.slice (some ⟨b, 0, none⟩) n' cap) = some l := by
        have := (Own.sl hz (.inr ⟨b, n', cap, sp, rfl, ⟨⟨t, fr, hb, hf⟩, hl', hc⟩⟩ : Own H (.slice (some ⟨b, 0, none⟩) n' cap) sz l)).cellsOf
        exact this
      rw [hr]
      intro c hc2
      refine hk _ _ (.inr ⟨H.size, n' + m, c, repL zero (c - (n' + m)), rfl, ⟨⟨e, (0, 0), get_push_self, .inl rfl⟩, ?_, ?_⟩⟩) (fun i hi _ => get_push_lt hi) (by simp) (.inr rfl)
      · rw [List.length_append, hl', hm, Nat.add_mul]
      · rw [List.length_append, List.length_append, repL_len, hl', hm, hzero, ← Nat.add_mul, ← Nat.add_mul]
        congr 1; omega
theorem Own.append1 {H : Heap} {v x : Value} {sz bytes n : Nat} {e : TypeId} {zero l : List Value} {K : Value → Heap → Prop} (h : Own H v sz l) (hz : 0 < sz) (hzero : zero.length = sz) (hx : x.cells.size = sz) (hone : x.cells.toList.all oneCell = true)
    (hl : l.length = n * sz) (hsize : 2 * (n + 1) * bytes ≤ 281474976710656)
    (hk : ∀ v' H', Own H' v' sz (l ++ x.cells.toList) → (∀ i, i < H.size → blkOf v ≠ some i → H'[i]? = H[i]?) → H.size ≤ H'.size → (∀ k, blkOf v' = some k → blkOf v = some k ∨ H.size ≤ k) → K v' H') :
    pBuildSl H e 1 zero [(0, sz, x)] fun y H1 => pAppend H1 e sz bytes zero v y K := by
  have hp : putL zero 0 x.cells.toList = x.cells.toList := by
    have := putL_all x.cells.toList [] zero (by simp [hzero, hx])
    simpa using this
  simp only [pBuildSl, pBuild_c, pBuild_n, hp, cells_agg]
  refine ⟨hx, by omega, ?_⟩
  have e1 : Ext H (H.push (.cells x.cells.toList.toArray e)) := (Ext.refl H).push
  have hr : Reads (H.push (.cells x.cells.toList.toArray e)) ⟨H.size, 0, none⟩ x.cells.toList := fun i w hw => by
    rw [add_mk, Nat.zero_add, cellAt_blk get_push_self, List.getElem?_toArray]; exact hw
  have hc : Go.Vc.cellsOf (H.push (.cells x.cells.toList.toArray e)) sz (.slice (some ⟨H.size, 0, none⟩) 1 1) = some x.cells.toList := by
    have := hr.all
    rw [show x.cells.toList.length = 1 * sz by simp [hx]] at this
    exact this
  refine Own.append (h.ext e1) hz hzero (m := 1) rfl hc hl (by simp [hx]) hone hsize fun v' H' ho hi hs hb => ?_
  refine hk v' H' ho (fun i hil hne => ?_) (by rw [Array.size_push] at hs; omega) (fun k hk' => ?_)
  · rw [hi i (by rw [Array.size_push]; omega) hne]; exact get_push_lt hil
  · rcases hb with hb | hb
    · left; rw [← hb]; exact hk'
    · right; rw [hb, Option.some.injEq, Array.size_push] at hk'; omega
theorem ext_of_own {A H H' : Heap} {v : Value} (hx : Ext A H) (hv : ∀ k, blkOf v = some k → A.size ≤ k) (hi : ∀ i, i < H.size → blkOf v ≠ some i → H'[i]? = H[i]?) (hs : H.size ≤ H'.size) : Ext A H' :=
  ⟨Nat.le_trans hx.size hs, fun i hil => by
    have := hx.size
    rw [hi i (by omega) (fun e => by have := hv i e; omega)]; exact hx.get i hil⟩
theorem bytesOf_byteV : ∀ l : List UInt8, bytesOf (l.map byteV) = some l
  | [] => rfl
  | b :: r => by
    simp only [List.map_cons, bytesOf, bytesOf_byteV r]
    congr 2
    simp
theorem Sl.str {H : Heap} {v : Value} {l : List UInt8} {K : Value → Prop} (h : Sl H v 1 (l.map byteV)) (hk : K (str l)) : pStrOf H v K := by
  rcases h with ⟨rfl, hl⟩ | ⟨a, n, cap, rfl, h2, h3, h4⟩
  · have : l = [] := by simpa using hl
    subst this
    exact hk
  · simp only [List.length_map, Nat.mul_one] at h2
    simp only [pStrOf]
    have := h4.all
    rw [List.length_map, h2] at this
    rw [this]
    simp only [bytesOf_byteV]
    exact hk
theorem Sl.cut {H : Heap} {v : Value} {sz : Nat} {l : List Value} {K : Value → Prop} (h : Sl H v sz l) (hz : 0 < sz) {n lo hi : Nat} (hn : l.length = n * sz) (h1 : lo ≤ hi) (h2 : hi ≤ n) (hk : ∀ v', Sl H v' sz ((l.drop (lo * sz)).take ((hi - lo) * sz)) → K v') {x y : Option Value}
    (hx : x = some (.int .i64 (lo : Int)) ∨ (x = none ∧ lo = 0)) (hy : y = some (.int .i64 (hi : Int)) ∨ (y = none ∧ hi = n)) : pSlSl sz v x y K := by
  have hc : ∀ (c : Nat) (Kb : Nat → Nat → Prop), n ≤ c → Kb lo hi → pBounds n c x y Kb := by
    intro c Kb hnc hk
    rcases hx with rfl | ⟨rfl, rfl⟩ <;> rcases hy with rfl | ⟨rfl, rfl⟩
    · rw [pBounds_11]; exact ⟨by omega, by omega, by omega, by omega, by simpa using hk⟩
    · rw [pBounds_10]; exact ⟨by omega, by omega, by simpa using hk⟩
    · rw [pBounds_01]; exact ⟨by omega, by omega, by simpa using hk⟩
    · rw [pBounds_00]; exact hk
  rcases h with ⟨rfl, rfl⟩ | ⟨a, m, cap, rfl, hm, hcap, hr⟩
  · have hn0 : n = 0 := by
      rcases Nat.eq_zero_or_pos n with h | h
      · exact h
      · have := Nat.mul_pos h hz
        simp only [List.length_nil] at hn
        omega
    subst hn0
    have : hi = 0 := by omega
    subst this
    have : lo = 0 := by omega
    subst this
    rw [pSlSl_v]
    refine hc 0 _ (Nat.le_refl _) ?_
    exact hk _ (.inl ⟨by simp, by simp⟩)
  · have hmn := Nat.eq_of_mul_eq_mul_right hz (hm.symm.trans hn)
    subst hmn
    rw [pSlSl_v]
    refine hc cap _ hcap ?_
    refine hk _ (.inr ⟨if cap = lo then a else a.add (lo * sz), hi - lo, cap - lo, by split <;> rfl, ?_, by omega, ?_⟩)
    · rw [List.length_take, List.length_drop, hm]
      have : (hi - lo) * sz ≤ m * sz - lo * sz := by
        rw [← Nat.sub_mul]; exact Nat.mul_le_mul_right sz (by omega)
      omega
    · split
      · rename_i he
        subst he
        have : hi - cap = 0 := by omega
        rw [this, Nat.zero_mul, List.take_zero]
        intro i w hw; simp at hw
      · exact hr.part _ _
theorem Own.store {H : Heap} {v x : Value} {l : List Value} {K : Value → Heap → Prop} (h : Own H v 1 l) (hx : oneCell x = true) {i : Int} (h0 : 0 ≤ i) (h1 : i < (l.length : Int))
    (hk : ∀ H', Own H' v 1 (l.set i.toNat x) → (∀ j, j < H.size → blkOf v ≠ some j → H'[j]? = H[j]?) → H'.size = H.size → K undef H') : pIdxSl 1 v (.int .i64 i) fun p => pStore H p x K := by
  rcases h with ⟨rfl, rfl⟩ | ⟨b, n, cap, sp, rfl, ⟨t, fr, hb, hf⟩, hl, hc⟩
  · simp only [List.length_nil] at h1; omega
  · rw [pIdxSl_v]
    refine ⟨h0, by omega, ?_⟩
    rw [Nat.mul_one, add_mk, Nat.zero_add]
    have hlt : i.toNat < (l ++ sp).length := by rw [List.length_append]; omega
    have hs := setsAt_thaw hf [x] H i.toNat 0 (l ++ sp) hb (by simp [hx]) (by simp only [List.length_cons, List.length_nil]; omega) hc
    simp only [pStore, hs, Nat.add_zero, putL_cons, putL_nil]
    refine hk _ (.inr ⟨b, n, cap, sp, rfl, ⟨⟨t, fr, ?_, hf⟩, by simpa using hl, by simpa using hc⟩⟩) (fun j hj hne => get_set_ne (by intro e; subst e; simp [blkOf] at hne)) (by simp)
    rw [get_set_self (lt_of_blk hb), List.set_append_left _ _ (by omega)]
theorem own_make {H : Heap} {e : TypeId} {bytes : Nat} {z : Value} {n : Int} {K : Value → Heap → Prop} (h0 : 0 ≤ n) (hb : (bytes : Int) * n ≤ 281474976710656) (hn : n ≤ 9223372036854775807)
    (hk : ∀ v H', Own H' v 1 (List.replicate n.toNat z) → Ext H H' → H'.size = H.size + 1 → blkOf v = some H.size → K v H') : pMakeSl H e bytes [z] (.int .i64 n) (.int .i64 n) K := by
  have hr : ∀ k, repL [z] k = List.replicate k z := by
    intro k
    induction k with
    | zero => rfl
    | succ k ih => rw [repL, ih]; rfl
  simp only [pMakeSl]
  refine ⟨h0, Int.le_refl _, hb, hn, ?_⟩
  rw [hr]
  exact hk _ _ (.inr ⟨H.size, n.toNat, n.toNat, [], rfl, ⟨⟨e, (0, 0), by rw [List.append_nil]; exact get_push_self, .inl rfl⟩, by simp, by simp⟩⟩) (Ext.refl H).push (by simp) rfl
theorem own_build1 {H : Heap} {e : TypeId} {sz : Nat} {zero : List Value} {x : Value} {K : Value → Heap → Prop} (hzero : zero.length = sz) (hx : x.cells.size = sz)
    (hk : ∀ y H', Sl H' y sz x.cells.toList → Ext H H' → blkOf y = some H.size → K y H') : pBuildSl H e 1 zero [(0, sz, x)] K := by
  have hp : putL zero 0 x.cells.toList = x.cells.toList := by
    have := putL_all x.cells.toList [] zero (by simp [hzero, hx])
    simpa using this
  simp only [pBuildSl, pBuild_c, pBuild_n, hp, cells_agg]
  refine ⟨hx, by omega, ?_⟩
  refine hk _ _ (.inr ⟨_, 1, 1, rfl, by simp [hx], Nat.le_refl _, fun i w hw => ?_⟩) (Ext.refl H).push ?_
  · rw [add_mk, Nat.zero_add, cellAt_blk get_push_self, List.getElem?_toArray]; exact hw
  · rfl
theorem Sl.other {H H' : Heap} {v : Value} {sz : Nat} {l : List Value} {b' : Option Nat} (h : Sl H v sz l) (hx : ∀ i, i < H.size → b' ≠ some i → H'[i]? = H[i]?) (hb : blkOf v ≠ b' ∨ blkOf v = none) : Sl H' v sz l := by
  rcases h with h | ⟨a, n, cap, rfl, h1, h2, h3⟩
  · exact .inl h
  · refine .inr ⟨a, n, cap, rfl, h1, h2, fun i w hw => ?_⟩
    have hc := h3 i w hw
    have hbl : (a.add i).block = a.block := by unfold Addr.add; split <;> rfl
    unfold cellAt at hc ⊢
    rw [hbl] at hc ⊢
    have hl : a.block < H.size := by
      rcases Nat.lt_or_ge a.block H.size with h' | h'
      · exact h'
      · rw [Array.getElem?_eq_none h'] at hc; cases hc
    rw [hx a.block hl (by
      rcases hb with hb | hb
      · exact fun e => hb (by rw [e]; rfl)
      · simp [blkOf] at hb)]
    exact hc
structure Two2 (sz : Nat) (H0 H : Heap) (a b : Value) (la lb : List Value) : Prop where
  oa : Own H a sz la
  ob : Own H b sz lb
  ext : Ext H0 H
  fa : ∀ k, blkOf a = some k → H0.size ≤ k
  fb : ∀ k, blkOf b = some k → H0.size ≤ k
  sep : ∀ k, blkOf a = some k → blkOf b ≠ some k
theorem Two2.symm {sz : Nat} {H0 H : Heap} {a b : Value} {la lb : List Value} (h : Two2 sz H0 H a b la lb) : Two2 sz H0 H b a lb la :=
  ⟨h.ob, h.oa, h.ext, h.fb, h.fa, fun k hk hk' => h.sep k hk' hk⟩
theorem Two2.more {sz : Nat} {H0 H H' : Heap} {a b : Value} {la lb : List Value} (h : Two2 sz H0 H a b la lb) (hx : Ext H H') : Two2 sz H0 H' a b la lb :=
  ⟨h.oa.ext hx, h.ob.ext hx, h.ext.trans hx, h.fa, h.fb, h.sep⟩
theorem Two2.step {sz : Nat} {H0 H H' : Heap} {a b a' : Value} {la lb la' : List Value} (h : Two2 sz H0 H a b la lb) (o : Own H' a' sz la') (hi : ∀ i, i < H.size → blkOf a ≠ some i → H'[i]? = H[i]?) (hs : H.size ≤ H'.size) (hk : blkOf a' = blkOf a ∨ blkOf a' = some H.size) : Two2 sz H0 H' a' b la' lb := by
  refine ⟨o, h.ob.other hi ?_, ext_of_own h.ext h.fa hi hs, fun k e => ?_, h.fb, fun k e e' => ?_⟩
  · cases hb : blkOf b with
    | none => exact .inr rfl
    | some k => exact .inl fun e => h.sep k e.symm hb
  · rcases hk with hk | hk
    · exact h.fa k (hk ▸ e)
    · rw [hk, Option.some.injEq] at e; have := h.ext.size; omega
  · rcases hk with hk | hk
    · exact h.sep k (hk ▸ e) e'
    · rw [hk, Option.some.injEq] at e; have := h.ob.lt e'; omega
theorem Two2.append {sz bytes n : Nat} {H0 H : Heap} {a b y : Value} {la lb new zero : List Value} {e : TypeId} {K : Value → Heap → Prop} (h : Two2 sz H0 H a b la lb) (hz : 0 < sz) (hzero : zero.length = sz) (hy : Sl H y sz new) (hn : new.length = 1 * sz) (hone : new.all oneCell = true)
    (hl : la.length = n * sz) (hsize : 2 * (n + 1) * bytes ≤ 281474976710656) (hk : ∀ a' H', Two2 sz H0 H' a' b (la ++ new) lb → (∀ i, i < H.size → blkOf a ≠ some i → H'[i]? = H[i]?) → K a' H') : pAppend H e sz bytes zero a y K :=
  Own.append h.oa hz hzero (hy.lenV hn hz) hy.cellsOf hl hn hone hsize fun a' H' o i s k => hk a' H' (h.step o i s k) i
end Go.Vc
set_option linter.unusedSimpArgs false
set_option linter.unusedVariables false
namespace Go.Vc
open Go
theorem flat_len {n : Nat} : ∀ (L : List (List Value)), (∀ r ∈ L, r.length = n) → L.flatten.length = L.length * n
  | [], _ => by simp
  | u :: L, hl => by
    have hu := hl u (by simp)
    rw [List.flatten_cons, List.length_append, flat_len L (fun r hr => hl r (by simp [hr])), hu, List.length_cons, Nat.succ_mul]
    omega
theorem flat_get {n : Nat} (hn : 0 < n) : ∀ (L : List (List Value)) (k : Nat) (v : Value), (∀ r ∈ L, r.length = n) → L.flatten[k]? = some v → ∃ r, L[k / n]? = some r ∧ r[k % n]? = some v
  | [], k, v, _, h => by simp at h
  | u :: L, k, v, hl, h => by
    have hu := hl u (by simp)
    rw [List.flatten_cons] at h
    by_cases hk : k < n
    · rw [List.getElem?_append_left (by omega)] at h
      exact ⟨u, by rw [Nat.div_eq_of_lt hk]; rfl, by rw [Nat.mod_eq_of_lt hk]; exact h⟩
    · rw [List.getElem?_append_right (by omega), hu] at h
      obtain ⟨r, h1, h2⟩ := flat_get hn L (k - n) v (fun r hr => hl r (by simp [hr])) h
      refine ⟨r, ?_, ?_⟩
      · rw [Nat.div_eq_sub_div hn (by omega)]; exact h1
      · rw [Nat.mod_eq_sub_mod (by omega)]; exact h2
theorem fit_list {n : Nat} {ds : List TypeDesc} (hds : ds.length = n) {c : Nat → Option Value} (h : FitAll ds c) : ∃ r : List Value, r.length = n ∧ FitAll ds (fun j => r[j]?) ∧ ∀ j, j < n → r[j]? = c j := by
  refine ⟨(List.range n).map fun j => (c j).getD undef, by simp, ?_, ?_⟩
  · intro j d hj
    have hlt : j < n := by rw [← hds]; exact (List.getElem?_eq_some_iff.1 hj).1
    obtain ⟨v, hv, hk⟩ := h j d hj
    exact ⟨v, by simp [List.getElem?_map, List.getElem?_range hlt, hv], hk⟩
  · intro j hj
    obtain ⟨v, hv, _⟩ := h j _ (List.getElem?_eq_getElem (by omega))
    simp [List.getElem?_map, List.getElem?_range hj, hv]
theorem StructRow.rows {ds : List TypeDesc} {H : Heap} {a : Option Addr} {len cap : Nat} (h : StructRow ds H a len cap) (hn : 0 < ds.length) :
    ∃ L : List (List Value), L.length = len ∧ len ≤ maxLen ∧ (∀ r ∈ L, r.length = ds.length) ∧ (∀ r ∈ L, FitAll ds fun j => r[j]?) ∧ Sl H (.slice a len cap) ds.length L.flatten := by
  rcases h with ⟨rfl, rfl, rfl⟩ | ⟨x, rfl, hl, hm, hf⟩
  · exact ⟨[], rfl, Nat.zero_le _, by simp, by simp, .inl ⟨rfl, rfl⟩⟩
  · have key : ∀ m, m ≤ len → ∃ L : List (List Value), L.length = m ∧ (∀ r ∈ L, r.length = ds.length) ∧ (∀ r ∈ L, FitAll ds fun j => r[j]?) ∧ ∀ i r, L[i]? = some r → ∀ j, j < ds.length → r[j]? = cellAt H (x.add (i * ds.length + j)) := by
      intro m
      induction m with
      | zero => intro _; exact ⟨[], rfl, by simp, by simp, by simp⟩
      | succ m ih =>
        intro hm
        obtain ⟨L, h1, h2, h3, h4⟩ := ih (by omega)
        obtain ⟨r, hr1, hr2, hr3⟩ := fit_list rfl (hf m (by omega))
        refine ⟨L ++ [r], by simp [h1], ?_, ?_, ?_⟩
        · intro s hs; rcases List.mem_append.1 hs with hs | hs
          · exact h2 s hs
          · simp only [List.mem_singleton] at hs; subst hs; exact hr1
        · intro s hs; rcases List.mem_append.1 hs with hs | hs
          · exact h3 s hs
          · simp only [List.mem_singleton] at hs; subst hs; exact hr2
        · intro i s hs j hj
          by_cases hi : i < m
          · rw [List.getElem?_append_left (by omega)] at hs
            exact h4 i s hs j hj
          · rw [List.getElem?_append_right (by omega)] at hs
            have hi2 : i = m := by
              rcases Nat.lt_or_ge m i with h' | h'
              · rw [List.getElem?_eq_none (by simp; omega)] at hs; cases hs
              · omega
            subst hi2
            rw [h1, Nat.sub_self, List.getElem?_cons_zero, Option.some.injEq] at hs
            subst hs
            exact hr3 j hj
    obtain ⟨L, h1, h2, h3, h4⟩ := key len (Nat.le_refl _)
    refine ⟨L, h1, by omega, h2, h3, .inr ⟨x, len, cap, rfl, by rw [flat_len L h2, h1], hl, fun k v hv => ?_⟩⟩
    obtain ⟨r, hr1, hr2⟩ := flat_get hn L k v h2 hv
    have := h4 _ r hr1 (k % ds.length) (Nat.mod_lt _ hn)
    rw [hr2] at this
    rw [this]
    congr 2
    rw [Nat.mul_comm]; exact (Nat.div_add_mod k ds.length).symm
end Go.Vc
set_option linter.unusedSimpArgs false
set_option linter.unusedVariables false
namespace Go.Vc
open Go
structure Keys (α : Type) (kind : Nat) where
  κ : α → Value
  dec : DecidableEq α
  eq : ∀ a b : α, eqK kind (κ a) (κ b) = some (@decide (a = b) (dec a b))
theorem Keys.inj {α : Type} {kind : Nat} (κ : Keys α kind) {a b : α} (h : κ.κ a = κ.κ b) : a = b := by
  have h1 := κ.eq a b
  rw [h, κ.eq b b, @decide_eq_true (b = b) (κ.dec b b) rfl] at h1
  simp only [Option.some.injEq] at h1
  exact @of_decide_eq_true (a = b) (κ.dec a b) h1.symm
def MapAt {α : Type} {kind : Nat} (κ : Keys α kind) (H : Heap) (r : Nat) (m : α → Option Value) : Prop :=
  ∃ (es : Array MapEntry) (clock : Nat) (ks : List α), H[r]? = some (.map es clock) ∧ MapKept.Stamped es clock ∧ es.toList.map (·.key) = ks.map κ.κ ∧ ks.Nodup ∧
    (∀ (j : Nat) (e : MapEntry) (k : α), es.toList[j]? = some e → ks[j]? = some k → m k = some e.val) ∧ ∀ k, k ∉ ks → m k = none
section
variable {α : Type} {kind : Nat} {κ : Keys α kind}
theorem findE_no {k : α} : ∀ (l : List MapEntry) (ks : List α) (i : Nat), l.map (·.key) = ks.map κ.κ → k ∉ ks → findE kind (κ.κ k) l i = some none
  | [], ks, i, _, _ => rfl
  | e :: l, [], i, h, _ => by simp at h
  | e :: l, a :: ks, i, h, hk => by
    simp only [List.map_cons, List.cons.injEq] at h
    have hne : k ≠ a := fun e => hk (by simp [e])
    have hd : @decide (k = a) (κ.dec k a) = false := by
      cases hdec : κ.dec k a with
      | isTrue ht => exact absurd ht hne
      | isFalse hf => rfl
    simp only [findE, h.1, κ.eq, hd]
    exact findE_no l ks (i + 1) h.2 (fun h' => hk (by simp [h']))
theorem findE_yes {k : α} : ∀ (l : List MapEntry) (ks : List α) (i : Nat), l.map (·.key) = ks.map κ.κ → k ∈ ks → ∃ (j : Nat) (e : MapEntry), l[j]? = some e ∧ ks[j]? = some k ∧ findE kind (κ.κ k) l i = some (some (i + j, e.val))
  | [], [], i, _, hk => by simp at hk
  | [], a :: ks, i, h, _ => by simp at h
  | e :: l, [], i, h, _ => by simp at h
  | e :: l, a :: ks, i, h, hk => by
    simp only [List.map_cons, List.cons.injEq] at h
    by_cases he : k = a
    · subst he
      have hd : @decide (k = k) (κ.dec k k) = true := by
        cases hdec : κ.dec k k with
        | isTrue ht => rfl
        | isFalse hf => exact absurd rfl hf
      refine ⟨0, e, rfl, rfl, ?_⟩
      show (match eqK kind (κ.κ k) e.key with | some true => some (some (i, e.val)) | some false => findE kind (κ.κ k) l (i + 1) | none => none) = _
      rw [h.1, κ.eq, hd]
      rfl
    · have hd : @decide (k = a) (κ.dec k a) = false := by
        cases hdec : κ.dec k a with
        | isTrue ht => exact absurd ht he
        | isFalse hf => rfl
      obtain ⟨j, e', h1, h2, h3⟩ := findE_yes l ks (i + 1) h.2 (by
        rcases List.mem_cons.1 hk with h' | h'
        · exact absurd h' he
        · exact h')
      refine ⟨j + 1, e', h1, h2, ?_⟩
      simp only [findE, h.1, κ.eq, hd]
      rw [h3, show i + 1 + j = i + (j + 1) by omega]
variable {H : Heap} {r : Nat} {m : α → Option Value}
theorem MapAt.ext {H' : Heap} (h : MapAt κ H r m) (hx : Ext H H') : MapAt κ H' r m := by
  obtain ⟨es, c, ks, h1, h2⟩ := h
  exact ⟨es, c, ks, hx.blk h1, h2⟩
theorem MapAt.keep {H' : Heap} (h : MapAt κ H r m) (hx : H'[r]? = H[r]?) : MapAt κ H' r m := by
  obtain ⟨es, c, ks, h1, h2⟩ := h
  exact ⟨es, c, ks, hx.trans h1, h2⟩
theorem MapAt.lt (h : MapAt κ H r m) : r < H.size := by
  obtain ⟨es, c, ks, h1, h2⟩ := h
  exact lt_of_blk h1
theorem MapAt.lookup (h : MapAt κ H r m) {k : α} {zero : Value} {ok : Bool} {K : Value → Prop} (hk : K (bif ok then .tuple #[(m k).getD zero, .bool (m k).isSome] else (m k).getD zero)) : pLookup H kind zero ok (.map (some r)) (κ.κ k) K := by
  obtain ⟨es, c, ks, h1, hst, h2, h3, h4, h5⟩ := h
  by_cases hm : k ∈ ks
  · obtain ⟨j, e, g1, g2, g3⟩ := findE_yes (κ := κ) es.toList ks 0 h2 hm
    simp only [pLookup, entriesAt, h1, g3]
    rw [h4 j e k g1 g2] at hk
    exact hk
  · simp only [pLookup, entriesAt, h1, findE_no (κ := κ) es.toList ks 0 h2 hm]
    rw [h5 k hm] at hk
    exact hk
def mset (κ : Keys α kind) (m : α → Option Value) (k : α) (v : Option Value) : α → Option Value := fun x => if @decide (x = k) (κ.dec x k) = true then v else m x
theorem mset_self (k : α) (v : Option Value) : mset κ m k v k = v := by
  unfold mset
  rw [if_pos]
  cases hdec : κ.dec k k with
  | isTrue ht => rfl
  | isFalse hf => exact absurd rfl hf
theorem mset_ne {k x : α} (v : Option Value) (h : x ≠ k) : mset κ m k v x = m x := by
  unfold mset
  rw [if_neg]
  cases hdec : κ.dec x k with
  | isTrue ht => exact absurd ht h
  | isFalse hf => exact Bool.false_ne_true
theorem nodup_get {ks : List α} (h : ks.Nodup) {i j : Nat} {k : α} (hi : ks[i]? = some k) (hj : ks[j]? = some k) : i = j := by
  exact (List.getElem?_inj (List.getElem?_eq_some_iff.1 hi).1 h).1 (hi.trans hj.symm)
theorem map_erase {β γ : Type} (f : β → γ) (l : List β) (j : Nat) : (l.eraseIdx j).map f = (l.map f).eraseIdx j := by
  apply List.ext_getElem?
  intro i
  simp only [List.getElem?_map, List.getElem?_eraseIdx]
  split <;> rfl
theorem MapAt.set (h : MapAt κ H r m) {k : α} {v : Value} {KE : Value → Heap → Prop} (hk : ∀ H', MapAt κ H' r (mset κ m k (some v)) → H'.size = H.size → (∀ i, i ≠ r → H'[i]? = H[i]?) → KE undef H') : pMapSet H kind (.map (some r)) (κ.κ k) v KE := by
  have hr := h.lt
  obtain ⟨es, c, ks, h1, hst, h2, h3, h4, h5⟩ := h
  by_cases hm : k ∈ ks
  · obtain ⟨j, e, g1, g2, g3⟩ := findE_yes (κ := κ) es.toList ks 0 h2 hm
    rw [Nat.zero_add] at g3
    simp only [pMapSet, h1, g3]
    refine hk _ ⟨_, c, ks, get_set_self hr, ?_, ?_, h3, ?_, ?_⟩ (by simp) (fun i hi => get_set_ne (Ne.symm hi))
    · refine MapKept.stamped_modify hst j _ (fun _ _ => rfl) (fun e' _ he' => ?_)
      have h1' : es[j]? = some e := by rw [← Array.getElem?_toList]; exact g1
      rw [h1', Option.some.injEq] at he'
      subst he'
      have : (ks.map κ.κ)[j]? = some (κ.κ k) := by simp [g2]
      rw [← h2, List.getElem?_map, g1] at this
      simp only [Option.map_some, Option.some.injEq] at this
      exact this.symm
    · rw [← h2]
      apply List.ext_getElem?
      intro i
      simp only [Array.toList_modify, List.getElem?_map, List.getElem?_modify]
      by_cases hij : j = i
      · subst hij
        rw [g1]
        have : (ks.map κ.κ)[j]? = some (κ.κ k) := by simp [g2]
        rw [← h2, List.getElem?_map, g1] at this
        simp only [Option.map_some, Option.some.injEq] at this
        simp [this]
      · simp only [if_neg hij]; cases es.toList[i]? <;> rfl
    · intro i e' k' he hk'
      rw [Array.toList_modify, List.getElem?_modify] at he
      by_cases hij : j = i
      · subst hij
        rw [g2, Option.some.injEq] at hk'
        subst hk'
        rw [mset_self]
        rw [g1] at he
        simp at he
        rw [← he]
      · have hne : k' ≠ k := fun e => hij (nodup_get h3 g2 (e ▸ hk'))
        rw [mset_ne _ hne]
        have : es.toList[i]? = some e' := by
          simp only [if_neg hij] at he
          cases hh : es.toList[i]? with
          | none => rw [hh] at he; cases he
          | some x => rw [hh] at he; simpa using he
        exact h4 i e' k' this hk'
    · intro x hx
      rw [mset_ne _ (show x ≠ k from fun e => hx (by rw [e]; exact hm))]
      exact h5 x hx
  · simp only [pMapSet, h1, findE_no (κ := κ) es.toList ks 0 h2 hm]
    refine hk _ ⟨_, c + 1, ks ++ [k], get_set_self hr, MapKept.stamped_push hst (fun x hx e => hm (by
      have h' : x.key ∈ es.toList.map (fun y => y.key) := List.mem_map.2 ⟨x, hx, rfl⟩
      rw [h2, e] at h'
      obtain ⟨a, ha, hae⟩ := List.mem_map.1 h'
      rw [← κ.inj hae]; exact ha)), by simp [h2], ?_, ?_, ?_⟩ (by simp) (fun i hi => get_set_ne (Ne.symm hi))
    · rw [List.nodup_append]
      exact ⟨h3, by simp, fun a ha b hb => by simp only [List.mem_singleton] at hb; subst hb; intro e; exact hm (e ▸ ha)⟩
    · have hlen : es.toList.length = ks.length := by have := congrArg List.length h2; simpa using this
      intro i e' k' he hk'
      rw [Array.toList_push] at he
      by_cases hi : i < ks.length
      · rw [List.getElem?_append_left (by omega)] at he hk'
        have hne : k' ≠ k := fun e => hm (e ▸ List.mem_of_getElem? hk')
        rw [mset_ne _ hne]
        exact h4 i e' k' he hk'
      · rw [List.getElem?_append_right (by omega)] at he hk'
        have hi2 : i = ks.length := by
          rcases Nat.lt_or_ge ks.length i with h' | h'
          · rw [List.getElem?_eq_none (by simp; omega)] at hk'; cases hk'
          · omega
        subst hi2
        rw [Nat.sub_self, List.getElem?_cons_zero, Option.some.injEq] at hk'
        rw [hlen, Nat.sub_self, List.getElem?_cons_zero, Option.some.injEq] at he
        subst hk'
        rw [mset_self, ← he]
    · intro x hx
      have : x ≠ k := fun e => hx (by simp [e])
      rw [mset_ne _ this]
      exact h5 x (fun h' => hx (by simp [h']))
theorem MapAt.delete (h : MapAt κ H r m) {k : α} {KE : Value → Heap → Prop} (hk : ∀ H', MapAt κ H' r (mset κ m k none) → H'.size = H.size → (∀ i, i ≠ r → H'[i]? = H[i]?) → KE (.tuple #[]) H') : pDelete H kind (.map (some r)) (κ.κ k) KE := by
  have hr := h.lt
  obtain ⟨es, c, ks, h1, hst, h2, h3, h4, h5⟩ := h
  by_cases hm : k ∈ ks
  · obtain ⟨j, e, g1, g2, g3⟩ := findE_yes (κ := κ) es.toList ks 0 h2 hm
    rw [Nat.zero_add] at g3
    have hj : j < es.size := by have := (List.getElem?_eq_some_iff.1 g1).1; simpa using this
    simp only [pDelete, h1, g3]
    have he : (es.eraseIdxIfInBounds j).toList = es.toList.eraseIdx j := by
      rw [Array.eraseIdxIfInBounds, dif_pos hj]
      simp
    refine hk _ ⟨_, c, ks.eraseIdx j, get_set_self hr, MapKept.stamped_erase hst j, ?_, h3.eraseIdx j, ?_, ?_⟩ (by simp) (fun i hi => get_set_ne (Ne.symm hi))
    · rw [he, map_erase, h2, ← map_erase]
    · intro i e' k' hi hk'
      rw [he, List.getElem?_eraseIdx] at hi
      rw [List.getElem?_eraseIdx] at hk'
      have hget : ∃ i', i' ≠ j ∧ es.toList[i']? = some e' ∧ ks[i']? = some k' := by
        by_cases hij : i < j
        · rw [if_pos hij] at hi hk'; exact ⟨i, by omega, hi, hk'⟩
        · rw [if_neg hij] at hi hk'; exact ⟨i + 1, by omega, hi, hk'⟩
      obtain ⟨i', hne', q1, q2⟩ := hget
      have hne : k' ≠ k := fun e => hne' (nodup_get h3 (e ▸ q2) g2)
      rw [mset_ne _ hne]
      exact h4 i' e' k' q1 q2
    · intro x hx
      by_cases hxk : x = k
      · subst hxk; exact mset_self _ _
      · rw [mset_ne _ hxk]
        refine h5 x (fun hin => hx ?_)
        obtain ⟨i, hi⟩ := List.getElem?_of_mem hin
        have hij : i ≠ j := fun e => by subst e; rw [g2, Option.some.injEq] at hi; exact hxk hi.symm
        rw [List.mem_iff_getElem?]
        by_cases hlt : i < j
        · exact ⟨i, by rw [List.getElem?_eraseIdx, if_pos hlt]; exact hi⟩
        · exact ⟨i - 1, by rw [List.getElem?_eraseIdx, if_neg (by omega), show i - 1 + 1 = i by omega]; exact hi⟩
  · simp only [pDelete, h1, findE_no (κ := κ) es.toList ks 0 h2 hm]
    refine hk H ⟨es, c, ks, h1, hst, h2, h3, fun j e k' he hk' => ?_, fun x hx => ?_⟩ rfl (fun _ _ => rfl)
    · rw [mset_ne _ (show k' ≠ k from fun e => hm (by rw [← e]; exact List.mem_of_getElem? hk'))]; exact h4 j e k' he hk'
    · by_cases hxk : x = k
      · subst hxk; exact mset_self _ _
      · rw [mset_ne _ hxk]; exact h5 x hx
theorem MapAt.clear (h : MapAt κ H r m) {KE : Value → Heap → Prop} (hk : ∀ H', MapAt κ H' r (fun _ => none) → H'.size = H.size → (∀ i, i ≠ r → H'[i]? = H[i]?) → KE (.tuple #[]) H') : pClearM H (.map (some r)) KE := by
  have hr := h.lt
  obtain ⟨es, c, ks, h1, hst, h2, h3, h4, h5⟩ := h
  simp only [pClearM, h1]
  exact hk _ ⟨#[], c, [], get_set_self hr, MapKept.stamped_empty _, rfl, List.nodup_nil, by simp, fun _ _ => rfl⟩ (by simp) (fun i hi => get_set_ne (Ne.symm hi))
theorem MapAt.len (h : MapAt κ H r m) {K : Value → Prop} (hk : ∀ ks : List α, ks.Nodup → (∀ k, k ∈ ks ↔ (m k).isSome = true) → K (.int .i64 (ks.length : Int))) : pLenM H (.map (some r)) K := by
  obtain ⟨es, c, ks, h1, hst, h2, h3, h4, h5⟩ := h
  have hl : es.size = ks.length := by have := congrArg List.length h2; simpa using this
  simp only [pLenM, h1, hl]
  refine hk ks h3 fun k => ⟨fun hm => ?_, fun hm => ?_⟩
  · obtain ⟨j, hj⟩ := List.getElem?_of_mem hm
    have hjl := (List.getElem?_eq_some_iff.1 hj).1
    have he : es.toList[j]? = some (es.toList[j]'(by simp; omega)) := List.getElem?_eq_getElem _
    rw [h4 j _ k he hj]; rfl
  · rcases Classical.em (k ∈ ks) with h' | h'
    · exact h'
    · rw [h5 k h'] at hm; cases hm
def Iter {α : Type} {kind : Nat} (κ : Keys α kind) (H : Heap) (it r : Nat) (m : α → Option Value) (done : List α) : Prop :=
  ∃ (es : Array MapEntry) (clock : Nat) (ks : List α) (seen : Array Nat) (c0 : Nat), H[it]? = some (.mapIter (some r) clock seen c0) ∧ clock ≤ c0 ∧ H[r]? = some (.map es clock) ∧ MapKept.Stamped es clock ∧
    es.toList.map (·.key) = ks.map κ.κ ∧ ks.Nodup ∧
    (∀ (j : Nat) (e : MapEntry) (k : α), es.toList[j]? = some e → ks[j]? = some k → m k = some e.val) ∧ (∀ k, k ∉ ks → m k = none) ∧ done.Nodup ∧
    (∀ (j : Nat) (e : MapEntry) (k : α), es.toList[j]? = some e → ks[j]? = some k → (seen.contains e.born = true ↔ k ∈ done)) ∧ (∀ k, k ∈ done → k ∈ ks) ∧
    ∀ k, done.getLast? = some k → c0 = clock ∧ ∃ (j : Nat) (e : MapEntry), es.toList[j]? = some e ∧ ks[j]? = some k ∧ seen.back? = some e.born
def iterLeft (H : Heap) (it : Nat) : Nat := match H[it]? with
  | some (.mapIter (some r) _ seen _) => (match H[r]? with
    | some (.map es _) => (leftOf es seen).size
    | _ => 0)
  | _ => 0
theorem Iter.map {it : Nat} {done : List α} (h : Iter κ H it r m done) : MapAt κ H r m := by
  obtain ⟨es, clock, ks, seen, c0, g1, g2, g3, g4, g5, g6, g7, g8, g9, g10, g11⟩ := h
  exact ⟨es, clock, ks, g3, g4, g5, g6, g7, g8⟩
theorem Iter.lt {it : Nat} {done : List α} (h : Iter κ H it r m done) : it < H.size := by
  obtain ⟨es, clock, ks, seen, c0, g1, _⟩ := h
  exact lt_of_blk g1
theorem Iter.keep {it : Nat} {done : List α} {H' : Heap} (h : Iter κ H it r m done) (h1 : H'[it]? = H[it]?) (h2 : H'[r]? = H[r]?) : Iter κ H' it r m done := by
  obtain ⟨es, clock, ks, seen, c0, g1, g2, g3, g4⟩ := h
  exact ⟨es, clock, ks, seen, c0, h1.trans g1, g2, h2.trans g3, g4⟩
def isMapT (P : Program) (t : TypeId) : Bool := match P.underlying t with
  | some (.map _ _) => true
  | _ => false
theorem MapAt.range {P : Program} (h : MapAt κ H r m) {t : TypeId} (ht : isMapT P t = true) {K : Value → Heap → Prop} (hk : ∀ H', Ext H H' → H'.size = H.size + 1 → Iter κ H' H.size r m [] → K (.pointer (some ⟨H.size, 0, none⟩)) H') : pSem H P (Instr.range t (.map (some r))) K := by
  obtain ⟨es, c, ks, h1, hst, h2, h3, h4, h5⟩ := h
  intro w hw
  subst hw
  obtain ⟨k, e, ht⟩ : ∃ k e, P.underlying t = some (.map k e) := by
    unfold isMapT at ht
    split at ht
    · exact ⟨_, _, by assumption⟩
    · cases ht
  rw [run_range_map w t k e r es c ht h1]
  have hx : Ext w.heap (w.heap.push (.mapIter (some r) c #[] c)) := (Ext.refl _).push
  refine ⟨⟨rfl, rfl, rfl, by first | exact Nat.le_refl _ | exact Nat.le_succ _⟩, hk _ hx (by simp) ⟨es, c, ks, #[], c, get_push_self, Nat.le_refl _, hx.blk h1, hst, h2, h3, h4, h5, List.nodup_nil, ?_, by simp, by simp⟩⟩
  intro j e k _ _
  simp
theorem filter_none {α : Type} {p : α → Bool} {L : Array α} (h : (L.filter p).size = 0) : ∀ x ∈ L.toList, p x = false := by
  intro x hx
  have h2 : L.filter p = #[] := Array.eq_empty_of_size_eq_zero h
  rw [Array.filter_eq_empty_iff] at h2
  have := h2 x (Array.mem_toList_iff.1 hx)
  simpa using this
theorem Iter.next {P : Program} {it : Nat} {done : List α} (h : Iter κ H it r m done) {ty : TypeId} {K : Value → Heap → Prop} (hover : (∀ k, (m k).isSome = true → k ∈ done) → K (.tuple #[.bool false]) H)
    (hk : ∀ k v H', k ∉ done → m k = some v → Iter κ H' it r m (done ++ [k]) → (∀ i, i ≠ it → H'[i]? = H[i]?) → H'.size = H.size → iterLeft H' it < iterLeft H it → K (.tuple #[.bool true, κ.κ k, v]) H') : pSem H P (Instr.next (.pointer (some ⟨it, 0, none⟩)) false ty) K := by
  have hlt := h.lt
  obtain ⟨es, clock, ks, seen, c0, g1, g2, g3, g4, g5, g6, g7, g8, g9, g10, g11, g12⟩ := h
  have hlen : es.size = ks.length := by have := congrArg List.length g5; simpa using this
  intro w hw
  subst hw
  have hold := g4.1
  simp only [Instr.next, getObj, Sem.run_bind, Sem.run, g1, g3, Result.andThen, next_test_false seen es clock c0 hold g2, Bool.false_eq_true, if_false]
  have hLdef : Array.filter (fun e => !seen.contains e.born) es = leftOf es seen := rfl
  rw [hLdef]
  have hmem : ∀ x ∈ (leftOf es seen).toList, x.born < clock := fun x hx => hold x (mem_left hx).1
  have e1 : (leftOf es seen).filter (fun x => decide (x.born < clock)) = leftOf es seen := Array.filter_eq_self.2 (fun x hx => by simpa using hmem x (by simpa using hx))
  have e2 : (leftOf es seen).filter (fun x => decide (x.born ≥ clock)) = #[] := by
    rw [Array.filter_eq_empty_iff]
    intro x hx
    have := hmem x (by simpa using hx)
    simp
    omega
  simp only [e1, e2, Array.append_empty]
  by_cases h0 : (leftOf es seen).size = 0
  · have hL : leftOf es seen = #[] := Array.eq_empty_of_size_eq_zero h0
    rw [hL]
    simp [choose, Sem.run, Question.forced]
    refine ⟨⟨rfl, rfl, rfl, by first | exact Nat.le_refl _ | exact Nat.le_succ _⟩, hover fun k hk => ?_⟩
    rcases Classical.em (k ∈ ks) with hm | hm
    · obtain ⟨j, hj⟩ := List.getElem?_of_mem hm
      have hjl := (List.getElem?_eq_some_iff.1 hj).1
      have he : es.toList[j]? = some (es.toList[j]'(by simp; omega)) := List.getElem?_eq_getElem _
      have hns := filter_none h0 (es.toList[j]'(by simp; omega)) (List.getElem_mem _)
      simp only [Bool.not_eq_false'] at hns
      exact (g10 j _ k he hj).1 hns
    · rw [g8 k hm] at hk; cases hk
  · have hne : (leftOf es seen).isEmpty = false := by simp [Array.isEmpty, h0]
    simp only [hne, Bool.false_eq_true, if_false, Array.empty_append, Array.size_map]
    have hch : ∃ (j : Nat) (w1 : World), j < (leftOf es seen).size ∧ (w1.Alike w ∧ w1.tape = w.tape ∧ w.drawn ≤ w1.drawn) ∧ (choose (Question.mapNext (leftOf es seen).size)).run P w = .ok j w1 := by
      by_cases hf : (leftOf es seen).size ≤ 1
      · exact ⟨0, w, by omega, ⟨⟨rfl, rfl, rfl⟩, rfl, Nat.le_refl _⟩, by simp [choose, Sem.run, Question.forced, hf]⟩
      · exact ⟨_, w.drew, Nat.mod_lt _ (by omega), ⟨⟨rfl, rfl, rfl⟩, rfl, Nat.le_succ _⟩, by
          simp only [choose, Sem.run, Question.forced, decide_eq_true_eq, hf, if_false, Question.cut]
          rfl⟩
    obtain ⟨j, w1, hj, ⟨hal, htp, hdr⟩, hrun⟩ := hch
    have hset : (setObj it (.mapIter (some r) clock (seen.push (leftOf es seen)[j].born) clock)).run P w1 = .ok () { w1 with heap := w1.heap.setIfInBounds it (.mapIter (some r) clock (seen.push (leftOf es seen)[j].born) clock) } := by
      simp only [setObj, Sem.run]
      rw [hal.1, g1]
    simp only [hrun, Array.getElem?_map, Array.getElem?_eq_getElem hj, Option.map_some, Sem.run_bind, hset, Result.andThen]
    have hin : (leftOf es seen)[j] ∈ (leftOf es seen).toList := by simp
    have hin2 := mem_left hin
    obtain ⟨j', hj'⟩ := List.getElem?_of_mem hin2.1
    have hj'l : j' < ks.length := by have := (List.getElem?_eq_some_iff.1 hj').1; simp at this; omega
    have hkj : ks[j']? = some ks[j'] := List.getElem?_eq_getElem hj'l
    have hkey : (leftOf es seen)[j].key = κ.κ ks[j'] := by
      have h' : (es.toList.map (·.key))[j']? = some (leftOf es seen)[j].key := by rw [List.getElem?_map, hj']; rfl
      rw [g5, List.getElem?_map, hkj] at h'
      simpa using h'.symm
    have hnd : ks[j'] ∉ done := fun hd => by
      have := (g10 j' _ _ hj' hkj).2 hd
      rw [hin2.2] at this; cases this
    refine ⟨⟨by rw [hal.2.1], by rw [hal.2.2], by rw [htp], hdr⟩, ?_⟩
    show K (.tuple #[.bool true, (leftOf es seen)[j].key, (leftOf es seen)[j].val]) (w1.heap.setIfInBounds it _)
    rw [hkey, hal.1]
    have hrne : it ≠ r := fun e => by subst e; rw [g1] at g3; cases g3
    refine hk ks[j'] _ _ hnd (g7 j' _ _ hj' hkj) ⟨es, clock, ks, _, clock, get_set_self hlt, Nat.le_refl _, (get_set_ne hrne).trans g3, g4, g5, g6, g7, g8, ?_, ?_, ?_, ?_⟩ (fun i hi => get_set_ne (Ne.symm hi)) (by simp) ?_
    · rw [List.nodup_append]
      exact ⟨g9, by simp, fun a ha b hb => by simp only [List.mem_singleton] at hb; subst hb; intro e; exact hnd (e ▸ ha)⟩
    · intro i e k he hk'
      rw [contains_push, Bool.or_eq_true, g10 i e k he hk', List.mem_append, List.mem_singleton, beq_iff_eq]
      constructor
      · rintro (h' | h')
        · exact .inl h'
        · right
          have := born_inj g4.2.1 (List.mem_of_getElem? he) hin2.1 h'
          subst this
          have hii : i = j' := by
            have hn : es.toList.Nodup := by
              have := g4.2.1
              exact List.Pairwise.of_map (f := fun x : MapEntry => x.born) (fun a b hab e => hab (by rw [e])) this
            exact nodup_get hn he hj'
          subst hii
          rw [hkj, Option.some.injEq] at hk'
          exact hk'.symm
      · rintro (h' | h')
        · exact .inl h'
        · right
          rw [h'] at hk'
          have hii := nodup_get g6 hk' hkj
          subst hii
          rw [he, Option.some.injEq] at hj'
          rw [hj']
    · intro k hk'
      rcases List.mem_append.1 hk' with h' | h'
      · exact g11 k h'
      · simp only [List.mem_singleton] at h'; rw [h']; exact List.getElem_mem _
    · intro k hk'
      rw [List.getLast?_concat, Option.some.injEq] at hk'
      subst hk'
      exact ⟨rfl, j', _, hj', hkj, by simp⟩
    · simp only [iterLeft, get_set_self hlt, get_set_ne hrne, g3, g1]
      exact left_shrinks es seen _ hin
theorem Iter.entry {P : Program} {it : Nat} {done : List α} {k : α} {v : Value} (h : Iter κ H it r m (done ++ [k])) (hv : m k = some v) {K : Value → Heap → Prop} (hk : K (.tuple #[κ.κ k, v]) H) : pSem H P (Instr.entry (.pointer (some ⟨it, 0, none⟩))) K := by
  obtain ⟨es, clock, ks, seen, c0, g1, g2, g3, g4, g5, g6, g7, g8, g9, g10, g11, g12⟩ := h
  obtain ⟨rfl, j, e, h1, h2, h3⟩ := g12 k (by simp)
  intro w hw
  subst hw
  have hf : es.find? (·.born == e.born) = some e := by rw [← Array.find?_toList]; exact find_born e es.toList g4.2.1 (List.mem_of_getElem? h1)
  simp only [Instr.entry, getObj, Sem.run_bind, Sem.run, g1, g3, Result.andThen, h3, bne_self_eq_false, Bool.false_eq_true, if_false, hf]
  have hkey : e.key = κ.κ k := by
    have h' : (es.toList.map (·.key))[j]? = some e.key := by rw [List.getElem?_map, h1]; rfl
    rw [g5, List.getElem?_map, h2] at h'
    simpa using h'.symm
  have hval : e.val = v := by
    have := g7 j e k h1 h2
    rw [hv, Option.some.injEq] at this
    exact this.symm
  refine ⟨⟨rfl, rfl, rfl, by first | exact Nat.le_refl _ | exact Nat.le_succ _⟩, ?_⟩
  rw [hkey, hval]
  exact hk
end
end Go.Vc
set_option linter.unusedSimpArgs false
set_option linter.unusedVariables false
namespace Go.Vc
open Go
theorem arr_inj {l m : List Value} (h : l.toArray = m.toArray) : l = m := by simpa using congrArg Array.toList h
def Sub (H : Heap) (b o : Nat) (cs : List Value) : Prop := ∃ (pre post : List Value) (t : TypeId), pre.length = o ∧ H[b]? = some (.cells (pre ++ cs ++ post).toArray t (0, 0))
structure Chg (b o n : Nat) (F F' : Nat → Prop) (H H' : Heap) : Prop where
  size : H.size ≤ H'.size
  ne : ∀ i, i < H.size → i ≠ b → ¬ F i → H'[i]? = H[i]?
  blk : ∀ (cs : List Value) (t : TypeId) (fr : Nat × Nat), H[b]? = some (.cells cs.toArray t fr) → ∃ cs' : List Value, H'[b]? = some (.cells cs'.toArray t fr) ∧ cs'.length = cs.length ∧ ∀ j, (j < o ∨ o + n ≤ j) → cs'[j]? = cs[j]?
  new : ∀ k, F' k → F k ∨ H.size ≤ k
abbrev none_ : Nat → Prop := fun _ => False
abbrev blkS (v : Value) : Nat → Prop := fun k => blkOf v = some k
theorem Chg.refl {b o n : Nat} {F : Nat → Prop} {H : Heap} : Chg b o n F F H H := ⟨Nat.le_refl _, fun _ _ _ _ => rfl, fun cs t fr h => ⟨cs, h, rfl, fun _ _ => rfl⟩, fun k h => .inl h⟩
theorem Chg.trans {b o n : Nat} {F F' F'' : Nat → Prop} {H H' H'' : Heap} (h : Chg b o n F F' H H') (k : Chg b o n F' F'' H' H'') : Chg b o n F F'' H H'' :=
  ⟨Nat.le_trans h.size k.size, fun i hi hb hF => (k.ne i (Nat.lt_of_lt_of_le hi h.size) hb (fun e => by
      rcases h.new i e with h' | h'
      · exact hF h'
      · omega)).trans (h.ne i hi hb hF), fun cs t fr hc => by
    obtain ⟨c1, h1, h2, h3⟩ := h.blk cs t fr hc
    obtain ⟨c2, g1, g2, g3⟩ := k.blk c1 t fr h1
    exact ⟨c2, g1, g2.trans h2, fun j hj => (g3 j hj).trans (h3 j hj)⟩, fun i hi => by
    rcases k.new i hi with h' | h'
    · exact h.new i h'
    · right; have := h.size; omega⟩
theorem Chg.weak {b o n : Nat} {F F' G G' : Nat → Prop} {H H' : Heap} (h : Chg b o n F F' H H') (h1 : ∀ k, F k → G k) (h2 : ∀ k, G' k → F' k ∨ G k ∨ H.size ≤ k) : Chg b o n G G' H H' :=
  ⟨h.size, fun i hi hb hG => h.ne i hi hb (fun e => hG (h1 i e)), h.blk, fun k hk => by
    rcases h2 k hk with h' | h' | h'
    · rcases h.new k h' with h'' | h''
      · exact .inl (h1 k h'')
      · exact .inr h''
    · exact .inl h'
    · exact .inr h'⟩
theorem Chg.any {b o n : Nat} {G : Nat → Prop} {H H' : Heap} (h : Chg b o n none_ none_ H H') : Chg b o n G G H H' := h.weak (fun _ h => h.elim) (fun _ h => .inr (.inl h))
theorem Chg.ext {A H H' : Heap} {b o n : Nat} {F F' : Nat → Prop} (h : Chg b o n F F' H H') (hx : Ext A H) (hb : A.size ≤ b) (hF : ∀ k, F k → A.size ≤ k) : Ext A H' ∧ ∀ k, F' k → A.size ≤ k :=
  ⟨⟨Nat.le_trans hx.size h.size, fun i hi => (h.ne i (Nat.lt_of_lt_of_le hi hx.size) (by omega) (fun e => by have := hF i e; omega)).trans (hx.get i hi)⟩, fun k hk => by
    rcases h.new k hk with h' | h'
    · exact hF k h'
    · have := hx.size; omega⟩
theorem Chg.keep {b o n c : Nat} {F F' : Nat → Prop} {H H' : Heap} {ob : Obj} (h : Chg b o n F F' H H') (hc : H[c]? = some ob) (h1 : c ≠ b) (h2 : ¬ F c) : H'[c]? = some ob := (h.ne c (lt_of_blk hc) h1 h2).trans hc
theorem Chg.sl {b o n sz : Nat} {F F' : Nat → Prop} {H H' : Heap} {v : Value} {l : List Value} (h : Chg b o n F F' H H') (hs : Sl H v sz l) (h1 : blkOf v ≠ some b) (h2 : ∀ k, blkOf v = some k → ¬ F k) : Sl H' v sz l := by
  rcases hs with hs | ⟨a, m, cap, rfl, h3, h4, h5⟩
  · exact .inl hs
  · refine .inr ⟨a, m, cap, rfl, h3, h4, fun i w hw => ?_⟩
    have hc := h5 i w hw
    have hbl : (a.add i).block = a.block := by unfold Addr.add; split <;> rfl
    unfold cellAt at hc ⊢
    rw [hbl] at hc ⊢
    have hl : a.block < H.size := by
      rcases Nat.lt_or_ge a.block H.size with h' | h'
      · exact h'
      · rw [Array.getElem?_eq_none h'] at hc; cases hc
    rw [h.ne a.block hl (fun e => h1 (by rw [← e]; rfl)) (h2 a.block rfl)]
    exact hc
theorem Chg.own {b o n sz : Nat} {F F' : Nat → Prop} {H H' : Heap} {v : Value} {l : List Value} (h : Chg b o n F F' H H') (hs : Own H v sz l) (h1 : blkOf v ≠ some b) (h2 : ∀ k, blkOf v = some k → ¬ F k) : Own H' v sz l := by
  rcases hs with hs | ⟨c, m, cap, sp, rfl, ⟨t, fr, hc, hf⟩, h3, h4⟩
  · exact .inl hs
  · exact .inr ⟨c, m, cap, sp, rfl, ⟨⟨t, fr, h.keep hc (fun e => h1 (by rw [← e]; rfl)) (h2 c rfl), hf⟩, h3, h4⟩⟩
theorem Sub.lt {H : Heap} {b o : Nat} {cs : List Value} (h : Sub H b o cs) : b < H.size := by obtain ⟨_, _, _, _, h⟩ := h; exact lt_of_blk h
theorem Sub.ext {H H' : Heap} {b o : Nat} {cs : List Value} (h : Sub H b o cs) (hx : Ext H H') : Sub H' b o cs := by
  obtain ⟨p, q, t, h1, h2⟩ := h; exact ⟨p, q, t, h1, hx.blk h2⟩
theorem Sub.same {H H' : Heap} {b o : Nat} {cs : List Value} (h : Sub H b o cs) (hx : H'[b]? = H[b]?) : Sub H' b o cs := by
  obtain ⟨p, q, t, h1, h2⟩ := h; exact ⟨p, q, t, h1, hx.trans h2⟩
theorem Sub.cell {H : Heap} {b o k : Nat} {cs : List Value} {v : Value} (h : Sub H b o cs) (hk : cs[k]? = some v) : cellAt H ⟨b, o + k, none⟩ = some v := by
  obtain ⟨p, q, t, h1, h2⟩ := h
  subst h1
  have hl := (List.getElem?_eq_some_iff.1 hk).1
  rw [cellAt_blk h2, List.getElem?_toArray, List.append_assoc, List.getElem?_append_right (by omega), List.getElem?_append_left (by omega), show p.length + k - p.length = k by omega, hk]
theorem Sub.cell0 {H : Heap} {b o : Nat} {cs : List Value} {v : Value} (h : Sub H b o cs) (hk : cs[0]? = some v) : cellAt H ⟨b, o, none⟩ = some v := h.cell (k := 0) hk
theorem Sub.part {H : Heap} {b o : Nat} {x y z : List Value} (h : Sub H b o (x ++ y ++ z)) : Sub H b (o + x.length) y := by
  obtain ⟨p, q, t, h1, h2⟩ := h
  exact ⟨p ++ x, z ++ q, t, by simp [h1], by rw [h2]; simp [List.append_assoc]⟩
theorem Sub.all {H : Heap} {b : Nat} {cs : List Value} {t : TypeId} (h : H[b]? = some (.cells cs.toArray t (0, 0))) : Sub H b 0 cs := ⟨[], [], t, rfl, by simpa using h⟩
section
variable {H : Heap} {KE : Value → Heap → Prop} {b o k : Nat} {cs : List Value} {v : Value}
theorem set_mid {p q : List Value} {v : Value} (hk : k < cs.length) : (p ++ cs ++ q).set (p.length + k) v = p ++ cs.set k v ++ q := by
  rw [List.append_assoc, List.set_append_right _ _ (by omega), show p.length + k - p.length = k by omega, List.set_append_left _ _ hk, List.append_assoc]
theorem pStore_sub {n : Nat} {F : Nat → Prop} (h : Sub H b o cs) (hn : n = cs.length) (hk : k < cs.length) (hv : oneCell v = true) (hK : ∀ H', H'.size = H.size → Sub H' b o (cs.set k v) → Chg b o n F F H H' → KE undef H') : pStore H (.pointer (some ⟨b, o + k, none⟩)) v KE := by
  obtain ⟨p, q, t, h1, h2⟩ := h
  subst h1
  rw [pStore_blk h2 (by simp; omega) hv]
  have hb := lt_of_blk h2
  have e : ((p ++ cs ++ q).toArray.setIfInBounds (p.length + k) v) = (p ++ cs.set k v ++ q).toArray := by rw [List.setIfInBounds_toArray, set_mid hk]
  rw [e]
  refine hK _ (by simp) ⟨p, q, t, rfl, get_set_self hb⟩ ⟨by simp, fun i hi hne _ => get_set_ne (Ne.symm hne), fun c t' fr hc => ?_, fun k h => .inl h⟩
  rw [h2] at hc
  simp only [Option.some.injEq, Obj.cells.injEq] at hc
  obtain ⟨hc, rfl, rfl⟩ := hc
  have hc := arr_inj hc
  subst hc
  refine ⟨_, get_set_self hb, by simp, fun j hj => ?_⟩
  rw [← set_mid hk, List.getElem?_set_ne (by omega)]
theorem pStore_sub0 {n : Nat} {F : Nat → Prop} (h : Sub H b o cs) (hn : n = cs.length) (hk : 0 < cs.length) (hv : oneCell v = true) (hK : ∀ H', H'.size = H.size → Sub H' b o (cs.set 0 v) → Chg b o n F F H H' → KE undef H') : pStore H (.pointer (some ⟨b, o, none⟩)) v KE :=
  pStore_sub (k := 0) h hn hk hv hK
end
theorem Own.cut0 {H : Heap} {v : Value} {l : List Value} {K : Value → Prop} (h : Own H v 1 l) (hk : ∀ v', Own H v' 1 [] → blkOf v' = blkOf v → K v') : pSlSl 1 v none (some (.int .i64 0)) K := by
  rcases h with ⟨rfl, rfl⟩ | ⟨b, n, cap, sp, rfl, ⟨t, fr, hb, hf⟩, hl, hc⟩
  · rw [pSlSl_v, pBounds_01]
    exact ⟨by decide, by decide, hk _ (.inl ⟨by simp, rfl⟩) rfl⟩
  · rw [pSlSl_v, pBounds_01]
    refine ⟨by decide, by omega, ?_⟩
    have e : (if cap = 0 then (some ⟨b, 0, none⟩ : Option Addr) else Option.map (fun x : Addr => x.add (0 * 1)) (some (⟨b, 0, none⟩ : Addr))) = some ⟨b, 0, none⟩ := by
      split
      · rfl
      · simp [Addr.add]
    rw [e]
    exact hk _ (.inr ⟨b, 0, cap, l ++ sp, rfl, ⟨⟨t, fr, by rw [List.nil_append]; exact hb, hf⟩, by simp, by rw [List.nil_append]; exact hc⟩⟩) rfl
theorem pAdd_str {a b : List UInt8} {K : Value → Prop} (h : a.length + b.length ≤ 9223372036854775807) (hk : K (str (a ++ b))) : pAdd (str a) (str b) K := by
  rw [pAdd_s, bys_mk, bys_mk, bys_size, bys_size]
  exact ⟨h, hk⟩
section
variable {K : Value → Prop} {b o n : Nat} {k k' : IntKind} {a c : Int} {l : List UInt8} {p : Bool}
theorem pConv_to (h : K (.int k (k.wrap a))) : pConv k (.int k' a) K := h
theorem pLenS_to (h : K (.int .i64 (l.length : Int))) : pLenS (str l) K := by rw [pLenS_v, bys_mk]; exact h
theorem pEq1_to {m : List UInt8} (h : K (.bool (decide (l = m)))) : pEq 1 (str l) (str m) K := by rw [pEq_1, bys_mk, bys_mk]; exact h
theorem pExtract_to {vs : List Value} {v : Value} {i : Nat} (hv : vs[i]? = some v) (h : K v) : pExtract i (.tuple vs.toArray) K := by rw [pExtract_v, hv]; exact h
theorem pSlStr_to {x y : Option Value} {lo hi : Nat} (hx : x = some (.int .i64 (lo : Int)) ∨ (x = none ∧ lo = 0)) (hy : y = some (.int .i64 (hi : Int)) ∨ (y = none ∧ hi = l.length)) (h1 : lo ≤ hi) (h2 : hi ≤ l.length) (h : K (str ((l.drop lo).take (hi - lo)))) : pSlStr (str l) x y K := by
  rw [pSlStr_v, bys_mk]
  rcases hx with rfl | ⟨rfl, rfl⟩ <;> rcases hy with rfl | ⟨rfl, rfl⟩
  · rw [pBounds_11]; exact ⟨by omega, by omega, by omega, by omega, by simpa using h⟩
  · rw [pBounds_10]; exact ⟨by omega, by omega, by simpa using h⟩
  · rw [pBounds_01]; exact ⟨by omega, by omega, by simpa using h⟩
  · rw [pBounds_00]; exact h
theorem pLoadN_to {H : Heap} {t : TypeId} {fr : Nat × Nat} {cs : Array Value} (h : H[b]? = some (.cells cs t fr)) (hn : cs.size = n) (hk : K (.agg cs)) : pLoadN H n (.pointer (some ⟨b, 0, none⟩)) K := by rw [pLoadN_blk h hn]; exact hk
end
end Go.Vc
set_option linter.unusedSimpArgs false
set_option linter.unusedVariables false
namespace Go.Vc
open Go
structure Thing where
  foot : Nat → Prop
  holds : Heap → Prop
  frame : ∀ {H H' : Heap}, holds H → (∀ k, foot k → H'[k]? = H[k]?) → holds H'
  lt : ∀ {H : Heap} {k : Nat}, holds H → foot k → k < H.size
inductive It where
  | sl (v : Value) (sz : Nat) (l : List Value)
  | box (b : Nat) (cs : List Value) (t : TypeId)
  | thing (T : Thing)
def It.foot : It → Nat → Prop
  | .sl v _ _ => fun k => blkOf v = some k
  | .box b _ _ => fun k => b = k
  | .thing T => T.foot
def It.holds (H : Heap) : It → Prop
  | .sl v sz l => 0 < sz ∧ Own H v sz l
  | .box b cs t => H[b]? = some (.cells cs.toArray t (0, 0))
  | .thing T => T.holds H
theorem It.frame {H H' : Heap} {i : It} (h : i.holds H) (hf : ∀ k, i.foot k → H'[k]? = H[k]?) : i.holds H' := by
  cases i with
  | sl v sz l =>
    refine ⟨h.1, ?_⟩
    rcases h.2 with h | ⟨b, n, cap, sp, rfl, ⟨t, fr, hb, hfr⟩, hl, hc⟩
    · exact .inl h
    · exact .inr ⟨b, n, cap, sp, rfl, ⟨⟨t, fr, (hf b rfl).trans hb, hfr⟩, hl, hc⟩⟩
  | box b cs t => exact (hf b rfl).trans h
  | thing T => exact T.frame h hf
theorem It.lt {H : Heap} {i : It} {k : Nat} (h : i.holds H) (hf : i.foot k) : k < H.size := by
  cases i with
  | sl v sz l => exact h.2.lt hf
  | box b cs t => cases hf; exact lt_of_blk h
  | thing T => exact T.lt h hf
structure Owns (H0 H : Heap) (L : List It) : Prop where
  ext : Ext H0 H
  ok : ∀ i ∈ L, i.holds H
  new : ∀ i ∈ L, ∀ k, i.foot k → H0.size ≤ k
  dis : L.Pairwise fun i j => ∀ k, i.foot k → ¬ j.foot k
variable {H0 H H' : Heap} {L L' M : List It} {i i' : It}
theorem Owns.start : Owns H H [] := ⟨Ext.refl H, by simp, by simp, List.Pairwise.nil⟩
theorem Owns.more (o : Owns H0 H L) (hx : Ext H H') : Owns H0 H' L :=
  ⟨o.ext.trans hx, fun i hi => It.frame (o.ok i hi) fun k hk => hx.get k (It.lt (o.ok i hi) hk), o.new, o.dis⟩
theorem Owns.add (o : Owns H0 H L) (hx : Ext H H') (hi : i.holds H') (hf : ∀ k, i.foot k → H.size ≤ k) : Owns H0 H' (i :: L) := by
  have o' := o.more hx
  refine ⟨o'.ext, ?_, ?_, List.pairwise_cons.2 ⟨fun j hj k hk hk' => ?_, o.dis⟩⟩
  · intro j hj; rcases List.mem_cons.1 hj with rfl | hj
    · exact hi
    · exact o'.ok j hj
  · intro j hj; rcases List.mem_cons.1 hj with rfl | hj
    · intro k hk; have := hf k hk; have := o.ext.size; omega
    · exact o.new j hj
  · have := hf k hk; have := It.lt (o.ok j hj) hk'; omega
inductive Rep (i i' : It) : List It → List It → Prop
  | here {L : List It} : Rep i i' (i :: L) (i' :: L)
  | there {j : It} {L L' : List It} : Rep i i' L L' → Rep i i' (j :: L) (j :: L')
theorem Rep.mem : ∀ {L L' : List It}, Rep i i' L L' → i ∈ L
  | _, _, .here => List.mem_cons_self
  | _, _, .there h => List.mem_cons_of_mem _ h.mem
theorem Rep.mem' : ∀ {L L' : List It}, Rep i i' L L' → ∀ j ∈ L', j = i' ∨ j ∈ L
  | _, _, .here, j, hj => by
    rcases List.mem_cons.1 hj with h | h
    · exact .inl h
    · exact .inr (List.mem_cons_of_mem _ h)
  | _, _, .there h, j, hj => by
    rcases List.mem_cons.1 hj with h' | h'
    · subst h'; exact .inr List.mem_cons_self
    · rcases h.mem' j h' with h'' | h''
      · exact .inl h''
      · exact .inr (List.mem_cons_of_mem _ h'')
theorem Rep.dis {n : Nat} (hf : ∀ k, i'.foot k → i.foot k ∨ n ≤ k) : ∀ {L L' : List It}, Rep i i' L L' → (∀ j ∈ L, ∀ k, j.foot k → k < n) → L.Pairwise (fun i j => ∀ k, i.foot k → ¬ j.foot k) → L'.Pairwise (fun i j => ∀ k, i.foot k → ¬ j.foot k)
  | _, _, .here, hn, hd => by
    rw [List.pairwise_cons] at hd ⊢
    refine ⟨fun j hj k hk hk' => ?_, hd.2⟩
    rcases hf k hk with h | h
    · exact hd.1 j hj k h hk'
    · have := hn j (List.mem_cons_of_mem _ hj) k hk'; omega
  | _, _, .there (j := j) h, hn, hd => by
    rw [List.pairwise_cons] at hd ⊢
    refine ⟨fun x hx k hk hk' => ?_, h.dis hf (fun x hx => hn x (List.mem_cons_of_mem _ hx)) hd.2⟩
    rcases h.mem' x hx with rfl | hx
    · rcases hf k hk' with h' | h'
      · exact hd.1 i h.mem k hk h'
      · have := hn j List.mem_cons_self k hk; omega
    · exact hd.1 x hx k hk hk'
theorem Rep.rest {P : It → Prop} (hp : P i') : ∀ {L L' : List It}, Rep i i' L L' → (∀ j ∈ L, (∀ k, i.foot k → ¬ j.foot k) → P j) → L.Pairwise (fun i j => ∀ k, i.foot k → ¬ j.foot k) → ∀ j ∈ L', P j
  | _, _, .here, hn, hd, j, hj => by
    rw [List.pairwise_cons] at hd
    rcases List.mem_cons.1 hj with rfl | hj
    · exact hp
    · exact hn j (List.mem_cons_of_mem _ hj) (hd.1 j hj)
  | _, _, .there (j := j') h, hn, hd, j, hj => by
    rw [List.pairwise_cons] at hd
    rcases List.mem_cons.1 hj with rfl | hj
    · exact hn j List.mem_cons_self (fun k hk hk' => hd.1 i h.mem k hk' hk)
    · exact h.rest hp (fun x hx => hn x (List.mem_cons_of_mem _ hx)) hd.2 j hj
theorem Owns.turn (o : Owns H0 H L) (r : Rep i i' L L') (hs : H.size ≤ H'.size) (hne : ∀ k, k < H.size → ¬ i.foot k → H'[k]? = H[k]?) (hi : i'.holds H') (hf : ∀ k, i'.foot k → i.foot k ∨ H.size ≤ k) : Owns H0 H' L' := by
  have hmem := r.mem
  refine ⟨⟨Nat.le_trans o.ext.size hs, fun k hk => ?_⟩, ?_, ?_, r.dis (n := H.size) hf (fun j hj k hk => It.lt (o.ok j hj) hk) o.dis⟩
  · rw [hne k (Nat.lt_of_lt_of_le hk o.ext.size) (fun h => by have := o.new i hmem k h; omega)]
    exact o.ext.get k hk
  · refine r.rest hi (fun j hj hd => It.frame (o.ok j hj) fun k hk => hne k (It.lt (o.ok j hj) hk) fun h => hd k h hk) o.dis
  · intro j hj k hk
    rcases r.mem' j hj with rfl | hj
    · rcases hf k hk with h | h
      · exact o.new i hmem k h
      · have := o.ext.size; omega
    · exact o.new j hj k hk
inductive Sel (i : It) : List It → List It → Prop
  | here {L : List It} : Sel i (i :: L) L
  | there {j : It} {L M : List It} : Sel i L M → Sel i (j :: L) (j :: M)
theorem Sel.perm : ∀ {L M : List It}, Sel i L M → (i :: M).Perm L
  | _, _, .here => List.Perm.refl _
  | _, _, .there h => (List.Perm.swap ..).trans (h.perm.cons _)
theorem Owns.perm (o : Owns H0 H L) (hs : L'.Perm L) : Owns H0 H L' :=
  ⟨o.ext, fun i hi => o.ok i (hs.mem_iff.1 hi), fun i hi => o.new i (hs.mem_iff.1 hi), by
    refine (hs.symm.pairwise_iff ?_).1 o.dis
    intro a b hab k hk hk'
    exact hab k hk' hk⟩
theorem Owns.front (o : Owns H0 H L) (s : Sel i L M) : Owns H0 H (i :: M) := o.perm s.perm
inductive Sels : List It → List It → Prop
  | nil {L : List It} : Sels [] L
  | cons {i : It} {L L' M : List It} : Sel i L M → Sels L' M → Sels (i :: L') L
theorem Sels.perm : ∀ {L' L : List It}, Sels L' L → ∃ M, (L' ++ M).Perm L
  | _, L, .nil => ⟨L, List.Perm.refl _⟩
  | _, _, .cons s h => by
    obtain ⟨M, hM⟩ := h.perm
    exact ⟨M, (hM.cons _).trans s.perm⟩
theorem Owns.arr (o : Owns H0 H L) (s : Sels L' L) : Owns H0 H L' := by
  obtain ⟨M, hM⟩ := s.perm
  have o' := o.perm hM
  exact ⟨o'.ext, fun i hi => o'.ok i (List.mem_append_left _ hi), fun i hi => o'.new i (List.mem_append_left _ hi), (List.pairwise_append.1 o'.dis).1⟩
inductive SelsT : List It → List It → Prop
  | refl {L : List It} : SelsT L L
  | cons {i : It} {L' M L : List It} : Sel i L M → SelsT L' M → SelsT (i :: L') L
theorem SelsT.perm : ∀ {L' L : List It}, SelsT L' L → L'.Perm L
  | _, _, .refl => List.Perm.refl _
  | _, _, .cons s t => (t.perm.cons _).trans s.perm
theorem Owns.arrT (o : Owns H0 H L) (s : SelsT L' L) : Owns H0 H L' := o.perm s.perm
theorem Owns.sl {v : Value} {sz : Nat} {l : List Value} (o : Owns H0 H L) (h : It.sl v sz l ∈ L) : Sl H v sz l := (o.ok _ h).2.sl (o.ok _ h).1
theorem Owns.newV {v : Value} {sz : Nat} {l : List Value} (o : Owns H0 H L) (h : It.sl v sz l ∈ L) {k : Nat} (hk : blkOf v = some k) : H0.size ≤ k := o.new _ h k hk
theorem Owns.own {v : Value} {sz : Nat} {l : List Value} (o : Owns H0 H L) (h : It.sl v sz l ∈ L) : Own H v sz l := (o.ok _ h).2
theorem Owns.blk {b : Nat} {cs : List Value} {t : TypeId} (o : Owns H0 H L) (h : It.box b cs t ∈ L) : H[b]? = some (.cells cs.toArray t (0, 0)) := o.ok _ h
theorem Owns.thing {T : Thing} (o : Owns H0 H L) (h : It.thing T ∈ L) : T.holds H := o.ok _ h
theorem Owns.pick (o : Owns H0 H L) (hs : L'.Sublist L) : Owns H0 H L' :=
  ⟨o.ext, fun i hi => o.ok i (hs.subset hi), fun i hi => o.new i (hs.subset hi), o.dis.sublist hs⟩
theorem Owns.call {L2 : List It} (o : Owns H0 H L) (c : Owns H H' L2) : Owns H0 H' (L2 ++ L) := by
  have o' := o.more c.ext
  refine ⟨o'.ext, ?_, ?_, List.pairwise_append.2 ⟨c.dis, o.dis, fun a ha b hb k hk hk' => ?_⟩⟩
  · intro i hi; rcases List.mem_append.1 hi with h | h
    · exact c.ok i h
    · exact o'.ok i h
  · intro i hi; rcases List.mem_append.1 hi with h | h
    · intro k hk; have := c.new i h k hk; have := o.ext.size; omega
    · exact o.new i h
  · have := c.new a ha k hk; have := It.lt (o.ok b hb) hk'; omega
theorem Sl.frame {v : Value} {sz : Nat} {l : List Value} (h : Sl H v sz l) (hf : ∀ k, blkOf v = some k → H'[k]? = H[k]?) : Sl H' v sz l := by
  rcases h with h | ⟨a, n, cap, rfl, h1, h2, h3⟩
  · exact .inl h
  · refine .inr ⟨a, n, cap, rfl, h1, h2, fun i w hw => ?_⟩
    have hc := h3 i w hw
    have hbl : (a.add i).block = a.block := by unfold Addr.add; split <;> rfl
    unfold cellAt at hc ⊢
    rw [hbl] at hc ⊢
    rw [hf a.block rfl]
    exact hc
theorem Sl.lt {v : Value} {sz : Nat} {l : List Value} {k : Nat} (h : Sl H v sz l) (hl : l ≠ []) (hk : blkOf v = some k) : k < H.size := by
  rcases h with ⟨rfl, h⟩ | ⟨a, n, cap, rfl, h1, h2, h3⟩
  · exact absurd h hl
  · cases l with
    | nil => exact absurd rfl hl
    | cons x l =>
      have hc := h3 0 x rfl
      have hbl : (a.add 0).block = a.block := by unfold Addr.add; split <;> rfl
      simp only [blkOf, Option.some.injEq] at hk
      subst hk
      unfold cellAt at hc
      rw [hbl] at hc
      rcases Nat.lt_or_ge a.block H.size with h' | h'
      · exact h'
      · rw [Array.getElem?_eq_none h'] at hc; cases hc
section
variable {K : Value → Heap → Prop} {KV : Value → Prop} {e : TypeId} {sz : Nat}
theorem Owns.build0 (o : Owns H0 H L) (sz : Nat) (hz : 0 < sz) (hk : ∀ y H', Owns H0 H' (.sl y sz [] :: L) → K y H') : pBuildSl H e 0 [] [] K := by
  simp only [pBuildSl, pBuild_n, cells_agg]
  exact hk _ _ (o.add (Ext.refl H).push ⟨hz, .inr ⟨H.size, 0, 0, [], rfl, ⟨⟨e, (0, 0), get_push_self, .inl rfl⟩, by simp, by simp⟩⟩⟩ (fun j hj => by simp only [It.foot, blkOf, Option.some.injEq] at hj; omega))
theorem Owns.build (o : Owns H0 H L) {n : Nat} {zero vs : List Value} {parts : List (Nat × Nat × Value)} (sz : Nat) (hz : 0 < sz) (hval : ∀ K' : Value → Prop, K' (.agg vs.toArray) → pBuild zero parts K') (hn : vs.length = n * sz)
    (hk : ∀ y H', Owns H0 H' (.sl y sz vs :: L) → K y H') : pBuildSl H e n zero parts K := by
  refine hval _ ?_
  simp only [cells_agg]
  exact hk _ _ (o.add (Ext.refl H).push ⟨hz, .inr ⟨H.size, n, n, [], rfl, ⟨⟨e, (0, 0), by rw [List.append_nil]; exact get_push_self, .inl rfl⟩, hn, by simpa using hn⟩⟩⟩ (fun j hj => by simp only [It.foot, blkOf, Option.some.injEq] at hj; omega))
theorem Owns.build1 (o : Owns H0 H L) {zero : List Value} {x : Value} (hz : 0 < sz) (hzero : zero.length = sz) (hx : x.cells.size = sz) (hk : ∀ y H', Owns H0 H' (.sl y sz x.cells.toList :: L) → K y H') : pBuildSl H e 1 zero [(0, sz, x)] K := by
  refine o.build sz hz (vs := x.cells.toList) (fun K' hK => ?_) (by simp [hx]) hk
  have hp : putL zero 0 x.cells.toList = x.cells.toList := by
    have := putL_all x.cells.toList [] zero (by simp [hzero, hx])
    simpa using this
  rw [pBuild_c, pBuild_n, hp]
  exact ⟨hx, by omega, hK⟩
theorem repL_rep (z : List Value) : ∀ n, repL z n = (List.replicate n z).flatten
  | 0 => rfl
  | n + 1 => by rw [repL, repL_rep z n, List.replicate_succ, List.flatten_cons]
theorem repL_one (z : Value) : ∀ n, repL [z] n = List.replicate n z
  | 0 => rfl
  | n + 1 => by rw [repL, repL_one z n]; rfl
theorem Owns.make (o : Owns H0 H L) {bytes : Nat} {z : List Value} {n : Int} (hz : 0 < z.length) (h0 : 0 ≤ n) (hb : (bytes : Int) * n ≤ 281474976710656) (hn : n ≤ 9223372036854775807)
    (hk : ∀ y H', Owns H0 H' (.sl y z.length (repL z n.toNat) :: L) → K y H') : pMakeSl H e bytes z (.int .i64 n) (.int .i64 n) K := by
  simp only [pMakeSl]
  refine ⟨h0, Int.le_refl _, hb, hn, ?_⟩
  exact hk _ _ (o.add (Ext.refl H).push ⟨hz, .inr ⟨H.size, n.toNat, n.toNat, [], rfl, ⟨⟨e, (0, 0), by rw [List.append_nil]; exact get_push_self, .inl rfl⟩, by rw [repL_len], by simp [repL_len]⟩⟩⟩ (fun j hj => by simp only [It.foot, blkOf, Option.some.injEq] at hj; omega))
theorem Owns.make1 (o : Owns H0 H L) {bytes : Nat} {z : Value} {n : Int} (h0 : 0 ≤ n) (hb : (bytes : Int) * n ≤ 281474976710656) (hn : n ≤ 9223372036854775807)
    (hk : ∀ y H', Owns H0 H' (.sl y 1 (List.replicate n.toNat z) :: L) → K y H') : pMakeSl H e bytes [z] (.int .i64 n) (.int .i64 n) K := by
  refine o.make (by simp) h0 hb hn fun y H' o' => ?_
  rw [repL_one] at o'
  exact hk y H' o'
theorem Owns.append (o : Owns H0 H L) {v x : Value} {bytes m n : Nat} {zero l new : List Value} (hin : Sel (.sl v sz l) L M) (hzero : zero.length = sz) (hx : Sl H x sz new)
    (hl : l.length = n * sz) (hm : new.length = m * sz) (hone : new.all oneCell = true) (hsize : 2 * (n + m) * bytes ≤ 281474976710656)
    (hk : ∀ v' H', Owns H0 H' (.sl v' sz (l ++ new) :: M) → K v' H') : pAppend H e sz bytes zero v x K := by
  have o1 := o.front hin
  obtain ⟨hz, ho⟩ := o1.ok _ List.mem_cons_self
  refine Own.append ho hz hzero (hx.lenV hm hz) hx.cellsOf hl hm hone hsize fun v' H' o' hi hs hb => ?_
  refine hk v' H' (o1.turn Rep.here hs (fun k hk hf => hi k hk hf) ⟨hz, o'⟩ fun k hk => ?_)
  simp only [It.foot] at hk ⊢
  rcases hb with hb | hb
  · left; rw [← hb]; exact hk
  · right; rw [hb, Option.some.injEq] at hk; omega
theorem Owns.app (o : Owns H0 H L) {v x z : Value} {bytes : Nat} {l new : List Value} (hin : Sel (.sl v 1 l) L M) (hx : Sl H x 1 new)
    (hone : new.all oneCell = true) (hsize : 2 * (l.length + new.length) * bytes ≤ 281474976710656)
    (hk : ∀ v' H', Owns H0 H' (.sl v' 1 (l ++ new) :: M) → K v' H') : pAppend H e 1 bytes [z] v x K :=
  o.append hin rfl hx (Nat.mul_one _).symm (Nat.mul_one _).symm hone hsize hk
theorem Sl.one {v : Value} {l : List Value} (h : Sl H v sz l) : oneCell v = true := by
  rcases h with ⟨rfl, _⟩ | ⟨a, m, cap, rfl, _⟩ <;> rfl
theorem pBuild_one {l : List Value} {o : Nat} {v : Value} {r : List (Nat × Nat × Value)} (hv : oneCell v = true) (ho : o < l.length) (h : pBuild (l.set o v) r KV) : pBuild l ((o, 1, v) :: r) KV := by
  rw [pBuild_c, cells_one hv]
  exact ⟨rfl, by omega, by simpa [putL_cons, putL_nil] using h⟩
theorem all_cons {x : Value} {l : List Value} (hx : oneCell x = true) (hl : l.all oneCell = true) : (x :: l).all oneCell = true := by simp [hx, hl]
theorem pBuild_two {a b x y : Value} (hx : oneCell x = true) (hy : oneCell y = true) (h : KV (.agg #[x, y])) : pBuild [a, b] [(0, 1, x), (1, 1, y)] KV :=
  pBuild_one hx (by simp) (pBuild_one hy (by simp) h)
theorem pBuild_three {a b c x y z : Value} (hx : oneCell x = true) (hy : oneCell y = true) (hz : oneCell z = true) (h : KV (.agg #[x, y, z])) : pBuild [a, b, c] [(0, 1, x), (1, 1, y), (2, 1, z)] KV :=
  pBuild_one hx (by simp) (pBuild_one hy (by simp) (pBuild_one hz (by simp) h))
def At (v : Value) (j : Nat) (p : Value) : Prop := ∃ a n cap, v = .slice (some a) n cap ∧ p = .pointer (some (a.add j))
theorem Sl.at_ {v : Value} {l : List Value} (h : Sl H v sz l) {n : Nat} (hn : l.length = n * sz) (hz : 0 < sz) {i : Int} (h0 : 0 ≤ i) (h1 : i < (n : Int)) (hk : ∀ p, At v (i.toNat * sz) p → KV p) : pIdxSl sz v (.int .i64 i) KV := by
  rcases h with ⟨rfl, rfl⟩ | ⟨a, m, cap, rfl, h2, h3, h4⟩
  · have := Nat.mul_pos (show 0 < n by omega) hz
    simp only [List.length_nil] at hn
    omega
  · rw [h2] at hn
    have hmn := Nat.eq_of_mul_eq_mul_right hz hn
    rw [pIdxSl_v]
    exact ⟨h0, by omega, hk _ ⟨a, m, cap, rfl, rfl⟩⟩
theorem At.field {v p : Value} {j f : Nat} (h : At v j p) (hk : ∀ q, At v (j + f) q → KV q) : pFieldAddr f p KV := by
  obtain ⟨a, n, cap, rfl, rfl⟩ := h
  rw [pFieldAddr_v]
  exact hk _ ⟨a, n, cap, rfl, by rw [addr_add_add]⟩
theorem At.load {v p w : Value} {j : Nat} {l : List Value} (h : At v j p) (hs : Sl H v sz l) (hw : l[j]? = some w) (hk : KV w) : pLoad H p KV := by
  obtain ⟨a, n, cap, rfl, rfl⟩ := h
  rcases hs with ⟨h, rfl⟩ | ⟨a', m, cap', h, h2, h3, h4⟩
  · simp at hw
  · cases h
    rw [pLoad_cell (h4 j w hw)]; exact hk
theorem At.loadN {v p : Value} {j n : Nat} {l ws : List Value} (h : At v j p) (hs : Sl H v sz l) (hw : (l.drop j).take n = ws) (hn : ws.length = n) (hk : KV (.agg ws.toArray)) : pLoadN H n p KV := by
  obtain ⟨a, c, cap, rfl, rfl⟩ := h
  rcases hs with ⟨h, rfl⟩ | ⟨a', m, cap', h, h2, h3, h4⟩
  · simp at hw
    subst hw
    simp only [List.length_nil] at hn
    subst hn
    exact hk
  · cases h
    subst hw
    exact (h4.part j n).loadN hn hk
theorem setsAt_put {l sp new : List Value} {b j : Nat} {t : TypeId} {fr : Nat × Nat} {N : Nat} (hf : Thawed fr N) (hb : H[b]? = some (.cells (l ++ sp).toArray t fr)) (hone : new.all oneCell = true) (hj : j + new.length ≤ l.length) (hN : (l ++ sp).length = N) :
    setsAt H ⟨b, j, none⟩ 0 new = some (H.setIfInBounds b (.cells (putL l j new ++ sp).toArray t fr)) := by
  rw [setsAt_thaw hf new H j 0 (l ++ sp) hb hone (by rw [List.length_append]; omega) hN]
  congr 4
  rw [Nat.add_zero]
  have hsplit : l = l.take j ++ l.drop j := (List.take_append_drop j l).symm
  have hlj : (l.take j).length = j := by rw [List.length_take]; omega
  have e1 := putL_mid new (l.take j) (l.drop j ++ sp) (by rw [List.length_append, List.length_drop]; omega)
  have e2 := putL_mid new (l.take j) (l.drop j) (by rw [List.length_drop]; omega)
  rw [hlj] at e1 e2
  rw [← List.append_assoc, List.take_append_drop] at e1
  rw [List.take_append_drop] at e2
  rw [e1, e2, List.append_assoc (List.take j l ++ new), List.drop_append_of_le_length (by rw [List.length_drop]; omega)]
theorem Owns.put (o : Owns H0 H L) {v p : Value} {j : Nat} {l new : List Value} (h : At v j p) (hin : It.sl v sz l ∈ L) (hj : j + new.length ≤ l.length) (hone : new.all oneCell = true)
    (hrep : Rep (.sl v sz l) (.sl v sz (putL l j new)) L L') : ∃ a H', p = .pointer (some a) ∧ setsAt H a 0 new = some H' ∧ Owns H0 H' L' ∧ H'.size = H.size := by
  obtain ⟨hz, ho⟩ := o.ok _ hin
  obtain ⟨a, n, cap, rfl, rfl⟩ := h
  rcases ho with ⟨h, rfl⟩ | ⟨b, n', cap', sp, h, ⟨t, fr, hb, hf⟩, hl, hc⟩
  · cases h
  · cases h
    refine ⟨_, H.setIfInBounds b (.cells (putL l j new ++ sp).toArray t fr), rfl, ?_, ?_, ?_⟩
    · rw [add_mk, Nat.zero_add]; exact setsAt_put hf hb hone hj hc
    · refine o.turn hrep (by simp) (fun k hk hne => get_set_ne (by intro e; subst e; exact hne rfl)) ⟨hz, .inr ⟨b, n, cap, sp, rfl, ⟨⟨t, fr, get_set_self (lt_of_blk hb), hf⟩, ?_, ?_⟩⟩⟩ (fun k hk => .inl hk)
      · rw [putL_len]; exact hl
      · rw [List.length_append, putL_len, ← List.length_append]; exact hc
    · simp
theorem Owns.store (o : Owns H0 H L) {v p x : Value} {j : Nat} {l : List Value} (h : At v j p) (hin : It.sl v sz l ∈ L) (hj : j < l.length) (hx : oneCell x = true)
    (hrep : Rep (.sl v sz l) (.sl v sz (l.set j x)) L L') (hk : ∀ H', Owns H0 H' L' → H'.size = H.size → K undef H') : pStore H p x K := by
  obtain ⟨a, H', rfl, hs, o', hsz⟩ := o.put (new := [x]) h hin (by simp; omega) (by simp [hx]) (by rw [putL_cons, putL_nil]; exact hrep)
  simp only [pStore, hs]
  exact hk H' o' hsz
theorem Owns.storeN (o : Owns H0 H L) {v p : Value} {vs : List Value} {j n : Nat} {l : List Value} (h : At v j p) (hin : It.sl v sz l ∈ L) (hn : vs.length = n) (hj : j + n ≤ l.length) (hx : vs.all oneCell = true)
    (hrep : Rep (.sl v sz l) (.sl v sz (putL l j vs)) L L') (hk : ∀ H', Owns H0 H' L' → H'.size = H.size → K undef H') : pStoreN H n p (.agg vs.toArray) K := by
  subst hn
  obtain ⟨a, H', rfl, hs, o', hsz⟩ := o.put (new := vs) h hin hj hx hrep
  simp only [pStoreN, cells_agg, hs]
  exact ⟨by simp, hk H' o' hsz⟩
theorem Owns.box (o : Owns H0 H L) {v : Value} (hk : ∀ b H', Owns H0 H' (.box b v.cells.toList e :: L) → b = H.size → K (.pointer (some ⟨b, 0, none⟩)) H') : pBox H e v K :=
  hk _ _ (o.add (Ext.refl H).push (show _ = _ from get_push_self) (fun j hj => by simp only [It.foot] at hj; omega)) rfl
theorem Owns.bload (o : Owns H0 H L) {b f : Nat} {cs : List Value} {t : TypeId} {w : Value} (hin : It.box b cs t ∈ L) (hw : cs[f]? = .some w) (hk : KV w) : pLoad H (.pointer (some ⟨b, f, none⟩)) KV :=
  pLoad_l (o.blk hin) hw hk
theorem Owns.bloadN (o : Owns H0 H L) {b n : Nat} {cs : List Value} {t : TypeId} (hin : It.box b cs t ∈ L) (hn : cs.length = n) (hk : KV (.agg cs.toArray)) : pLoadN H n (.pointer (some ⟨b, 0, none⟩)) KV :=
  pLoadN_to (o.blk hin) (by simpa using hn) hk
theorem Owns.bstore (o : Owns H0 H L) {b f : Nat} {cs : List Value} {t : TypeId} {x : Value} (hin : It.box b cs t ∈ L) (hf : f < cs.length) (hx : oneCell x = true)
    (hrep : Rep (.box b cs t) (.box b (cs.set f x) t) L L') (hk : ∀ H', Owns H0 H' L' → H'.size = H.size → K undef H') : pStore H (.pointer (some ⟨b, f, none⟩)) x K := by
  refine pStore_upd (o.blk hin) (by simpa using hf) hx fun H' hs u => hk H' (o.turn hrep u.size (fun k hk hne => u.ne k hk (fun e => hne e.symm)) ?_ (fun k hk => .inl hk)) hs
  show _ = _
  rw [u.at_, List.setIfInBounds_toArray]
theorem Owns.bstoreN (o : Owns H0 H L) {b n : Nat} {cs vs : List Value} {t : TypeId} (hin : It.box b cs t ∈ L) (hn : cs.length = n) (hv : vs.length = n) (hx : vs.all oneCell = true)
    (hrep : Rep (.box b cs t) (.box b vs t) L L') (hk : ∀ H', Owns H0 H' L' → H'.size = H.size → K undef H') : pStoreN H n (.pointer (some ⟨b, 0, none⟩)) (.agg vs.toArray) K := by
  refine pStoreN_upd (o.blk hin) (by simpa using hn) (by simpa using hv) (by simpa using hx) fun H' hs u => hk H' (o.turn hrep u.size (fun k hk hne => u.ne k hk (fun e => hne e.symm)) ?_ (fun k hk => .inl hk)) hs
  exact u.at_
end
end Go.Vc
namespace Go.Vc
open Go
set_option linter.unusedVariables false
set_option linter.unusedSimpArgs false
def bitsN (v n : Nat) : List Bool := (List.range n).map fun i => v.testBit i
def numB : List Bool → Nat
  | [] => 0
  | b :: l => b.toNat + 2 * numB l
def toBits (l : List UInt8) : List Bool := l.flatMap fun b => bitsN b.toNat 8
theorem bitsN_len (v n : Nat) : (bitsN v n).length = n := by simp [bitsN]
theorem bitsN_zero (v : Nat) : bitsN v 0 = [] := rfl
theorem bitsN_get {v n i : Nat} (h : i < n) : (bitsN v n)[i]? = some (v.testBit i) := by simp [bitsN, List.getElem?_range h]
theorem bitsN_ext {v w n : Nat} (h : ∀ i, i < n → v.testBit i = w.testBit i) : bitsN v n = bitsN w n := by
  unfold bitsN
  apply List.map_congr_left
  intro i hi
  exact h i (List.mem_range.1 hi)
theorem bitsN_mod (v n : Nat) : bitsN (v % 2 ^ n) n = bitsN v n := bitsN_ext fun i hi => by rw [Nat.testBit_mod_two_pow]; simp [hi]
theorem bitsN_add (v m n : Nat) : bitsN v (m + n) = bitsN v m ++ bitsN (v / 2 ^ m) n := by
  unfold bitsN
  rw [List.range_add, List.map_append, List.map_map]
  congr 1
  apply List.map_congr_left
  intro i _
  simp only [Function.comp]
  rw [Nat.testBit_div_two_pow, Nat.add_comm]
theorem bitsN_cons (v n : Nat) : bitsN v (n + 1) = v.testBit 0 :: bitsN (v / 2) n := by
  rw [Nat.add_comm, bitsN_add]; rfl
theorem bitsN_join {a v m n : Nat} (h : a < 2 ^ m) : bitsN (a + v * 2 ^ m) (m + n) = bitsN a m ++ bitsN v n := by
  rw [bitsN_add]
  have h1 : (a + v * 2 ^ m) / 2 ^ m = v := by
    rw [Nat.add_mul_div_right _ _ (Nat.two_pow_pos m), Nat.div_eq_of_lt h, Nat.zero_add]
  have h2 : bitsN (a + v * 2 ^ m) m = bitsN a m := by
    rw [← bitsN_mod, Nat.add_mul_mod_self_right, bitsN_mod]
  rw [h1, h2]
theorem numB_append : ∀ (l m : List Bool), numB (l ++ m) = numB l + 2 ^ l.length * numB m
  | [], m => by simp [numB]
  | b :: l, m => by
    rw [List.cons_append, numB, numB, numB_append l m, List.length_cons, Nat.pow_succ, Nat.mul_add, ← Nat.mul_assoc, Nat.mul_comm 2 (2 ^ l.length), Nat.add_assoc]
theorem numB_bitsN : ∀ (n v : Nat), numB (bitsN v n) = v % 2 ^ n
  | 0, v => by simp [bitsN, numB, Nat.mod_one]
  | n + 1, v => by
    rw [bitsN_cons, numB, numB_bitsN n, Nat.testBit_zero, Nat.pow_succ, Nat.mul_comm (2 ^ n) 2, Nat.mod_mul]
    rcases Nat.mod_two_eq_zero_or_one v with h | h <;> simp [h]
theorem numB_lt : ∀ (l : List Bool), numB l < 2 ^ l.length
  | [] => by simp [numB]
  | b :: l => by
    have := numB_lt l
    rw [numB, List.length_cons, Nat.pow_succ]
    cases b <;> simp <;> omega
theorem bitsN_numB : ∀ (l : List Bool), bitsN (numB l) l.length = l
  | [] => rfl
  | b :: l => by
    rw [List.length_cons, bitsN_cons, numB]
    congr 1
    · rw [Nat.testBit_zero]; cases b <;> simp <;> omega
    · rw [show (b.toNat + 2 * numB l) / 2 = numB l by cases b <;> simp <;> omega, bitsN_numB l]
theorem toBits_len (l : List UInt8) : (toBits l).length = 8 * l.length := by
  induction l with
  | nil => rfl
  | cons b l ih => unfold toBits at ih ⊢; rw [List.flatMap_cons, List.length_append, ih, bitsN_len, List.length_cons]; omega
theorem toBits_append (l m : List UInt8) : toBits (l ++ m) = toBits l ++ toBits m := by unfold toBits; rw [List.flatMap_append]
theorem toBits_cons (b : UInt8) (l : List UInt8) : toBits (b :: l) = bitsN b.toNat 8 ++ toBits l := rfl
theorem toBits_one (b : UInt8) : toBits [b] = bitsN b.toNat 8 := by rw [toBits_cons]; simp [toBits]
def toBytes : List Bool → List UInt8
  | a :: b :: c :: d :: e :: f :: g :: h :: l => UInt8.ofNat (numB [a, b, c, d, e, f, g, h]) :: toBytes l
  | _ => []
theorem toBytes_short {l : List Bool} (h : l.length < 8) : toBytes l = [] := by
  match l, h with
  | [], _ => rfl
  | [_], _ => rfl
  | [_, _], _ => rfl
  | [_, _, _], _ => rfl
  | [_, _, _, _], _ => rfl
  | [_, _, _, _, _], _ => rfl
  | [_, _, _, _, _, _], _ => rfl
  | [_, _, _, _, _, _, _], _ => rfl
  | _ :: _ :: _ :: _ :: _ :: _ :: _ :: _ :: _, h => simp at h; omega
theorem toBytes_step {x l : List Bool} (h : x.length = 8) : toBytes (x ++ l) = UInt8.ofNat (numB x) :: toBytes l := by
  match x, h with
  | [a, b, c, d, e, f, g, i], _ => rfl
theorem byte_bits (b : UInt8) : UInt8.ofNat (numB (bitsN b.toNat 8)) = b := by
  rw [numB_bitsN, Nat.mod_eq_of_lt b.toNat_lt]
  simp
theorem toBytes_toBits : ∀ (l : List UInt8) (r : List Bool), r.length < 8 → toBytes (toBits l ++ r) = l
  | [], r, h => toBytes_short h
  | b :: l, r, h => by
    rw [toBits_cons, List.append_assoc, toBytes_step (bitsN_len _ _), byte_bits, toBytes_toBits l r h]
theorem toBytes_toBits' (l : List UInt8) : toBytes (toBits l) = l := by
  have := toBytes_toBits l [] (by decide)
  rwa [List.append_nil] at this
theorem toBits_toBytes : ∀ (n : Nat) (l : List Bool), l.length = 8 * n → toBits (toBytes l) = l
  | 0, l, h => by
    have : l = [] := List.eq_nil_of_length_eq_zero (by omega)
    subst this; rfl
  | n + 1, l, h => by
    have e : l = l.take 8 ++ l.drop 8 := (List.take_append_drop 8 l).symm
    have h8 : (l.take 8).length = 8 := by rw [List.length_take]; omega
    rw [e, toBytes_step h8, toBits_cons, toBits_toBytes n _ (by rw [List.length_drop]; omega)]
    congr 1
    rw [UInt8.toNat_ofNat', Nat.mod_eq_of_lt (by have := numB_lt (l.take 8); rw [h8] at this; exact this)]
    have := bitsN_numB (l.take 8)
    rw [h8] at this; exact this
theorem toBytes_len : ∀ (n : Nat) (l : List Bool), l.length / 8 = n → (toBytes l).length = n
  | 0, l, h => by rw [toBytes_short (by omega)]; rfl
  | n + 1, l, h => by
    have e : l = l.take 8 ++ l.drop 8 := (List.take_append_drop 8 l).symm
    rw [e, toBytes_step (by rw [List.length_take]; omega), List.length_cons, toBytes_len n _ (by rw [List.length_drop]; omega)]
theorem or_disj {a v n : Nat} (h : a < 2 ^ n) : a ||| v * 2 ^ n = a + v * 2 ^ n := by
  rw [Nat.or_comm, Nat.mul_comm v, ← Nat.two_pow_add_eq_or_of_lt h, Nat.add_comm]
theorem or_u64 {a b : Nat} (ha : a < 18446744073709551616) (hb : b < 18446744073709551616) : bitsOf .or .u64 (a : Int) (b : Int) = ((a ||| b : Nat) : Int) := by
  have hlt : a ||| b < 2 ^ 64 := Nat.or_lt_two_pow (by simpa using ha) (by simpa using hb)
  have e : ((BitVec.ofInt 64 (a : Int)) ||| (BitVec.ofInt 64 (b : Int))).toNat = a ||| b := by
    rw [BitVec.toNat_or, BitVec.ofInt_natCast, BitVec.ofInt_natCast, BitVec.toNat_ofNat, BitVec.toNat_ofNat, Nat.mod_eq_of_lt (by omega), Nat.mod_eq_of_lt (by omega)]
  show IntKind.u64.wrap ((((BitVec.ofInt 64 (a : Int)) ||| (BitVec.ofInt 64 (b : Int))).toNat : Nat) : Int) = _
  rw [e, wu64 (by omega) (by omega)]
theorem and_u64 {a b : Nat} (ha : a < 18446744073709551616) (hb : b < 18446744073709551616) : bitsOf .and .u64 (a : Int) (b : Int) = ((a &&& b : Nat) : Int) := by
  have hlt : a &&& b < 2 ^ 64 := Nat.lt_of_le_of_lt Nat.and_le_left (by omega)
  have e : ((BitVec.ofInt 64 (a : Int)) &&& (BitVec.ofInt 64 (b : Int))).toNat = a &&& b := by
    rw [BitVec.toNat_and, BitVec.ofInt_natCast, BitVec.ofInt_natCast, BitVec.toNat_ofNat, BitVec.toNat_ofNat, Nat.mod_eq_of_lt (by omega), Nat.mod_eq_of_lt (by omega)]
  show IntKind.u64.wrap ((((BitVec.ofInt 64 (a : Int)) &&& (BitVec.ofInt 64 (b : Int))).toNat : Nat) : Int) = _
  rw [e, wu64 (by omega) (by omega)]
theorem mask_u64 {v n : Nat} (hv : v < 18446744073709551616) (hn : n ≤ 32) : bitsOf .and .u64 (v : Int) (IntKind.u64.wrap (IntKind.u64.wrap (1 * 2 ^ min ((n : Int)).toNat IntKind.u64.bits) - 1)) = ((v % 2 ^ n : Nat) : Int) := by
  have e : IntKind.u64.wrap (IntKind.u64.wrap (1 * 2 ^ min ((n : Int)).toNat IntKind.u64.bits) - 1) = ((2 ^ n - 1 : Nat) : Int) := by
    rw [show min ((n : Int)).toNat IntKind.u64.bits = n by show min ((n : Int)).toNat 64 = n; omega]
    have hp : (2 : Nat) ^ n ≤ 2 ^ 32 := Nat.pow_le_pow_right (by decide) hn
    have h1 : 1 ≤ (2 : Nat) ^ n := Nat.one_le_two_pow
    rw [show (1 : Int) * 2 ^ n = ((2 ^ n : Nat) : Int) by rw [Int.one_mul, Int.natCast_pow]; rfl]
    generalize (2 : Nat) ^ n = P at hp h1 ⊢
    rw [wu64 (n := (P : Int)) (by omega) (by omega), wu64 (by omega) (by omega)]
    omega
  have hp : (2 : Nat) ^ n ≤ 2 ^ 32 := Nat.pow_le_pow_right (by decide) hn
  rw [e, and_u64 hv (by omega), Nat.and_two_pow_sub_one_eq_mod]
theorem shl_u64 {v n : Nat} (h : v * 2 ^ n < 18446744073709551616) (hn : n ≤ 64) : IntKind.u64.wrap ((v : Int) * 2 ^ min ((n : Int)).toNat IntKind.u64.bits) = ((v * 2 ^ n : Nat) : Int) := by
  rw [show min ((n : Int)).toNat IntKind.u64.bits = n by show min ((n : Int)).toNat 64 = n; omega]
  rw [show (v : Int) * 2 ^ n = ((v * 2 ^ n : Nat) : Int) by rw [Int.natCast_mul, Int.natCast_pow]; rfl]
  exact wu64 (by omega) (by omega)
theorem shr_int {k : IntKind} {v n : Nat} (hn : n ≤ k.bits) : ((v : Nat) : Int).fdiv (2 ^ min ((n : Int)).toNat k.bits) = ((v / 2 ^ n : Nat) : Int) := by
  rw [show min ((n : Int)).toNat k.bits = n by rw [Int.toNat_natCast]; omega]
  rw [Int.fdiv_eq_ediv_of_nonneg _ (Int.le_of_lt (Int.pow_pos (by decide))), show ((2 : Int) ^ n) = ((2 ^ n : Nat) : Int) by rw [Int.natCast_pow]; rfl, ← Int.natCast_ediv]
theorem fdiv_nat {n m j : Nat} (h : m = j) : ((n : Nat) : Int).fdiv (2 ^ m) = ((n / 2 ^ j : Nat) : Int) := by
  subst h
  rw [Int.fdiv_eq_ediv_of_nonneg _ (Int.le_of_lt (Int.pow_pos (by decide))), show ((2 : Int) ^ m) = ((2 ^ m : Nat) : Int) by rw [Int.natCast_pow]; rfl, ← Int.natCast_ediv]
theorem byte_low {v : Nat} : Value.int .u8 (IntKind.u8.wrap (v : Int)) = byteV (UInt8.ofNat (v % 256)) := by
  unfold byteV
  rw [wu8_mod, UInt8.toNat_ofNat', show v % 256 % 2 ^ 8 = v % 256 by omega]
  congr 1
theorem byte_low_bits {v n : Nat} (h : 8 ≤ n) : bitsN v n = toBits [UInt8.ofNat (v % 256)] ++ bitsN (v / 2 ^ 8) (n - 8) := by
  rw [toBits_one, UInt8.toNat_ofNat', show v % 256 % 2 ^ 8 = v % 2 ^ 8 by omega, bitsN_mod]
  conv => lhs; rw [show n = 8 + (n - 8) by omega]
  rw [bitsN_add]
end Go.Vc
namespace Go.Proofs.YtameljhbkedhjaaGreatDoor
open Go Go.Vc Go.Proofs
set_option linter.unusedVariables false
set_option linter.unusedSimpArgs false
def cntL (ls : List Nat) (n : Nat) : Nat := ls.countP fun k => decide (k = n)
def endC (ls : List Nat) : Nat → Nat
  | 0 => 0
  | n + 1 => 2 * endC ls n + cntL ls (n + 1)
def startC (ls : List Nat) (n : Nat) : Nat := 2 * endC ls (n - 1)
theorem endC_start (ls : List Nat) {n : Nat} (hn : 1 ≤ n) : endC ls n = startC ls n + cntL ls n := by
  obtain ⟨m, rfl⟩ : ∃ m, n = m + 1 := ⟨n - 1, by omega⟩
  rfl
def leftC (ls : List Nat) (n : Nat) : Int := ((2 ^ n : Nat) : Int) - (endC ls n : Int)
theorem leftC_succ (ls : List Nat) (n : Nat) : leftC ls (n + 1) = 2 * leftC ls n - (cntL ls (n + 1) : Int) := by
  unfold leftC
  rw [endC, Nat.pow_succ]
  omega
theorem leftC_neg (ls : List Nat) {n m : Nat} (h : leftC ls n < 0) (hm : n ≤ m) : leftC ls m < 0 := by
  induction m with
  | zero => have : n = 0 := by omega
            subst this; exact h
  | succ m ih =>
    by_cases he : n = m + 1
    · subst he; exact h
    · have := ih (by omega)
      rw [leftC_succ]; omega
def shareL (ls : List Nat) (m : Nat) : Nat := (ls.map fun k => if 1 ≤ k ∧ k ≤ m then 2 ^ (m - k) else 0).sum
theorem cntL_cons (k : Nat) (ls : List Nat) (n : Nat) : cntL (k :: ls) n = cntL ls n + (if k = n then 1 else 0) := by
  unfold cntL
  rw [List.countP_cons]
  simp
theorem cntL_append (a b : List Nat) (n : Nat) : cntL (a ++ b) n = cntL a n + cntL b n := by unfold cntL; rw [List.countP_append]
theorem endC_cons (k : Nat) (ls : List Nat) : ∀ n, endC (k :: ls) n = endC ls n + (if 1 ≤ k ∧ k ≤ n then 2 ^ (n - k) else 0)
  | 0 => by rw [if_neg (by omega)]; rfl
  | n + 1 => by
    rw [endC, endC_cons k ls n, cntL_cons, endC]
    by_cases h1 : k = n + 1
    · subst h1
      rw [if_neg (by omega), if_pos rfl, if_pos (by omega), Nat.sub_self]; simp; omega
    · rw [if_neg h1]
      by_cases h2 : 1 ≤ k ∧ k ≤ n
      · rw [if_pos h2, if_pos (by omega), show n + 1 - k = (n - k) + 1 by omega, Nat.pow_succ]; omega
      · rw [if_neg h2, if_neg (by omega)]; omega
theorem endC_share (ls : List Nat) (n : Nat) : endC ls n = shareL ls n := by
  induction ls with
  | nil =>
    induction n with
    | zero => rfl
    | succ n ih => rw [endC, ih]; rfl
  | cons k ls ih => rw [endC_cons, ih]; unfold shareL; rw [List.map_cons, List.sum_cons]; omega
def rankL (ls : List Nat) (s : Nat) : Nat := cntL (ls.take s) (ls.getD s 0)
def codeL (ls : List Nat) (s : Nat) : Nat := startC ls (ls.getD s 0) + rankL ls s
theorem rank_lt {ls : List Nat} {s : Nat} (hs : s < ls.length) : rankL ls s < cntL ls (ls.getD s 0) := by
  unfold rankL
  have e : ls = ls.take s ++ ls[s] :: ls.drop (s + 1) := by rw [← List.drop_eq_getElem_cons hs, List.take_append_drop]
  have hg : ls.getD s 0 = ls[s] := by rw [List.getD_eq_getElem?_getD, List.getElem?_eq_getElem hs]; rfl
  rw [hg]
  generalize ls[s] = x at e
  have h2 := congrArg (fun l => cntL l x) e
  simp only [cntL_append, cntL_cons, if_true] at h2
  omega
theorem code_lt {ls : List Nat} {s : Nat} (hs : s < ls.length) (h1 : 1 ≤ ls.getD s 0) : codeL ls s < endC ls (ls.getD s 0) := by
  rw [endC_start _ h1]
  unfold codeL
  have := rank_lt hs
  omega
theorem endC_shift (ls : List Nat) {n m : Nat} (h : n ≤ m) : endC ls n * 2 ^ (m - n) ≤ endC ls m := by
  induction m with
  | zero => have : n = 0 := by omega
            subst this; simp
  | succ m ih =>
    by_cases he : n = m + 1
    · subst he; rw [Nat.sub_self]; simp
    · have := ih (by omega)
      rw [show m + 1 - n = (m - n) + 1 by omega, Nat.pow_succ, endC]
      have e : endC ls n * (2 ^ (m - n) * 2) = 2 * (endC ls n * 2 ^ (m - n)) := by rw [← Nat.mul_assoc, Nat.mul_comm]
      rw [e]; omega
theorem startC_shift (ls : List Nat) {n m : Nat} (h : n < m) : endC ls n * 2 ^ (m - n) ≤ startC ls m := by
  unfold startC
  have := endC_shift ls (n := n) (m := m - 1) (by omega)
  rw [show m - n = (m - 1 - n) + 1 by omega, Nat.pow_succ]
  have e : endC ls n * (2 ^ (m - 1 - n) * 2) = 2 * (endC ls n * 2 ^ (m - 1 - n)) := by rw [← Nat.mul_assoc, Nat.mul_comm]
  rw [e]; omega
theorem apart_longer {ls : List Nat} {s t : Nat} (hs : s < ls.length) (ht : t < ls.length) (h1 : 1 ≤ ls.getD s 0) (hlt : ls.getD s 0 < ls.getD t 0) :
    codeL ls t / 2 ^ (ls.getD t 0 - ls.getD s 0) ≠ codeL ls s := by
  have h := code_lt hs h1
  have hst := startC_shift ls hlt
  have hc : startC ls (ls.getD t 0) ≤ codeL ls t := by unfold codeL; omega
  have hp : 0 < 2 ^ (ls.getD t 0 - ls.getD s 0) := Nat.two_pow_pos _
  have : endC ls (ls.getD s 0) ≤ codeL ls t / 2 ^ (ls.getD t 0 - ls.getD s 0) := (Nat.le_div_iff_mul_le hp).2 (by omega)
  omega
theorem rank_lt_rank {ls : List Nat} {s t : Nat} (hst : s < t) (ht : t < ls.length) (he : ls.getD s 0 = ls.getD t 0) : rankL ls s < rankL ls t := by
  unfold rankL
  rw [he]
  have hs : s < ls.length := by omega
  have hg : ls.getD s 0 = ls[s] := by rw [List.getD_eq_getElem?_getD, List.getElem?_eq_getElem hs]; rfl
  have e : ls.take t = ls.take s ++ ls[s] :: (ls.take t).drop (s + 1) := by
    have h1 : (ls.take t).take s = ls.take s := by rw [List.take_take, Nat.min_eq_left (by omega)]
    have h2 : s < (ls.take t).length := by rw [List.length_take]; omega
    have h3 := List.take_append_drop s (ls.take t)
    rw [h1, List.drop_eq_getElem_cons h2, List.getElem_take] at h3
    exact h3.symm
  rw [e, cntL_append, cntL_cons, if_pos (by rw [← hg, he])]
  omega
theorem code_inj {ls : List Nat} {s t : Nat} (hs : s < ls.length) (ht : t < ls.length) (hne : s ≠ t) (he : ls.getD s 0 = ls.getD t 0) : codeL ls s ≠ codeL ls t := by
  unfold codeL
  rw [he]
  rcases Nat.lt_or_gt_of_ne hne with h | h
  · have := rank_lt_rank h ht he; omega
  · have := rank_lt_rank h hs he.symm; omega
end Go.Proofs.YtameljhbkedhjaaGreatDoor
namespace Go.Vc
open Go
set_option linter.unusedVariables false
set_option linter.unusedSimpArgs false
def numsV (l : List Int) : List Value := l.map fun z => .int .i64 z
theorem numsV_len (l : List Int) : (numsV l).length = l.length := by simp [numsV]
theorem numsV_one {l : List Int} : (numsV l).all oneCell = true := by simp [numsV, oneCell]
theorem numsV_get {l : List Int} {i : Nat} (h : i < l.length) : (numsV l)[i]? = some (.int .i64 l[i]) := by unfold numsV; rw [List.getElem?_map, List.getElem?_eq_getElem h]; rfl
theorem numsV_append (l m : List Int) : numsV (l ++ m) = numsV l ++ numsV m := by simp [numsV]
theorem numsV_take (l : List Int) (n : Nat) : (numsV l).take n = numsV (l.take n) := by unfold numsV; rw [List.map_take]
theorem numsV_drop (l : List Int) (n : Nat) : (numsV l).drop n = numsV (l.drop n) := by unfold numsV; rw [List.map_drop]
theorem numsV_set (l : List Int) (i : Nat) (z : Int) : (numsV l).set i (.int .i64 z) = numsV (l.set i z) := by unfold numsV; rw [List.map_set]
theorem numsV_rep (n : Nat) : List.replicate n (Value.int .i64 0) = numsV (List.replicate n 0) := by simp [numsV]
end Go.Vc
namespace Go.Proofs
open Go Go.Vc
def Tryz.C : List Nat := [2, 3, 4, 5, 6, 7, 8, 9, 10, 11, 12, 13, 14, 15, 16, 17, 18, 19, 20, 21, 22, 23, 24, 25, 26, 27, 28, 29, 30, 31, 32, 33, 34, 35, 36, 37, 38, 39, 40, 41, 42, 43, 44, 45, 46, 47, 48, 49, 50, 51, 52, 53, 54, 55, 56, 57, 58, 59, 60, 61, 62, 63, 64, 65, 66, 67, 68, 69, 70, 71, 72, 73, 74, 75, 76, 77, 78, 79, 80, 81, 82, 83, 84, 85, 86, 87, 88, 89, 90, 91, 92, 93, 94, 95, 96, 97, 98, 99, 100, 101, 102, 103, 104, 105, 106, 107, 108, 109, 110, 111, 112, 113, 114, 115, 116, 118, 119, 120, 121, 122, 123, 124, 125, 148]
theorem Tryz.mixed : Tryz.prog.follows .mixedOrders = true := by kernel_rfl
set_option maxRecDepth 100000 in
theorem Tryz.callable : Callable Tryz.prog Tryz.C := by
  have key : ∀ f ∈ Tryz.C, ∀ (args : Array Value) (w : World), (callFunc f args).run Tryz.prog w = .ok (.enter f args) w := by
    unfold Tryz.C
    repeat (refine List.forall_mem_cons.2 ⟨fun _ _ => rfl, ?_⟩)
    exact fun _ h => absurd h List.not_mem_nil
  exact fun f hf => key f (memb_iff.1 hf)
end Go.Proofs
