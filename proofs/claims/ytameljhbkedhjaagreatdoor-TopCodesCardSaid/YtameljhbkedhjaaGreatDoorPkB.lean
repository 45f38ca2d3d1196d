/- Part 2 of the proof of RowTopCodes: what it is built on, in the order of its needs. -/
import Derived.Test.YtameljhbkedhjaaGreatDoorPkA
import Derived.Below
import Derived.ChangeAlike
import Derived.ProofKit
import Derived.OpenShut
import Derived.ShutString
import Derived.Deep.Slices
import Derived.Deep.Fields
import Derived.ChangeSame
import Derived.MapKept
import Derived.Laws.IdiomRangeMap
import Derived.Test.YtameljhbkedhjaaGreatDoorProg
import Derived.KernelRfl
set_option linter.unusedSimpArgs false
set_option linter.unusedVariables false
namespace Go.Vc
open Go
section
variable {K : Value → Prop} {x x' y y' z z' : Value}
variable {H H' : Heap}
variable {KE : Value → Heap → Prop}
theorem pAnd_true {b : (Value → Heap → Prop) → Prop} (h : b KE) : pAnd (.bool true) b H KE := ⟨KE, fun _ _ h => h, (fun h => by cases h), fun _ => h⟩
theorem pAnd_false {b : (Value → Heap → Prop) → Prop} : pAnd (.bool false) b H KE = KE (.bool false) H := by
  apply propext; constructor
  · rintro ⟨J, h1, h2, _⟩; exact h1 _ _ (h2 rfl)
  · intro h; exact ⟨KE, fun _ _ h => h, fun _ => h, (fun h => by cases h)⟩
theorem pOr_true {b : (Value → Heap → Prop) → Prop} : pOr (.bool true) b H KE = KE (.bool true) H := by
  apply propext; constructor
  · rintro ⟨J, h1, h2, _⟩; exact h1 _ _ (h2 rfl)
  · intro h; exact ⟨KE, fun _ _ h => h, fun _ => h, (fun h => by cases h)⟩
theorem pOr_false {b : (Value → Heap → Prop) → Prop} (h : b KE) : pOr (.bool false) b H KE := ⟨KE, fun _ _ h => h, (fun h => by cases h), fun _ => h⟩
theorem pAnd_pure {a d : Bool} : pAnd (.bool a) (fun J => J (.bool d) H) H KE = KE (.bool (a && d)) H := by
  apply propext; cases a
  · rw [pAnd_false]; rfl
  · constructor
    · rintro ⟨J, h1, _, h2⟩; exact h1 _ _ (h2 rfl)
    · intro h; exact pAnd_true h
theorem pOr_pure {a d : Bool} : pOr (.bool a) (fun J => J (.bool d) H) H KE = KE (.bool (a || d)) H := by
  apply propext; cases a
  · constructor
    · rintro ⟨J, h1, _, h2⟩; exact h1 _ _ (h2 rfl)
    · intro h; exact pOr_false h
  · rw [pOr_true]; rfl
theorem pAnd_if {a d : Bool} {b : (Value → Heap → Prop) → Prop} (hb : a = true → b (fun v H' => v = .bool d ∧ H' = H)) (h : KE (.bool (a && d)) H) : pAnd (.bool a) b H KE := by
  refine ⟨fun v H' => v = .bool (a && d) ∧ H' = H, fun v H' h' => by rw [h'.1, h'.2]; exact h, fun ha => by rw [ha]; exact ⟨rfl, rfl⟩, fun ha => ?_⟩
  have := hb ha
  subst ha
  exact this
theorem pOr_if {a d : Bool} {b : (Value → Heap → Prop) → Prop} (hb : a = false → b (fun v H' => v = .bool d ∧ H' = H)) (h : KE (.bool (a || d)) H) : pOr (.bool a) b H KE := by
  refine ⟨fun v H' => v = .bool (a || d) ∧ H' = H, fun v H' h' => by rw [h'.1, h'.2]; exact h, fun ha => by rw [ha]; exact ⟨rfl, rfl⟩, fun ha => ?_⟩
  have := hb ha
  subst ha
  exact this
theorem pCond_bool {b : Bool} {A B : Prop} : pCond (.bool b) A B = ((b = true → A) ∧ (b = false → B)) := rfl
theorem pCond_true {A B : Prop} : pCond (.bool true) A B = A := by simp [pCond_bool]
theorem pCond_false {A B : Prop} : pCond (.bool false) A B = B := by simp [pCond_bool]
end
theorem add_mk (b o n : Nat) : (⟨b, o, none⟩ : Addr).add n = ⟨b, o + n, none⟩ := by
  unfold Addr.add; split
  · rename_i h; subst h; rfl
  · rfl
theorem cellAt_blk {H : Heap} {b o : Nat} {cs : Array Value} {t : TypeId} {fr : Nat × Nat} (h : H[b]? = some (.cells cs t fr)) : cellAt H ⟨b, o, none⟩ = cs[o]? := by
  simp [cellAt, h]
theorem pLoad_blk {H : Heap} {b o : Nat} {cs : Array Value} {t : TypeId} {fr : Nat × Nat} {v : Value} {K : Value → Prop} (h : H[b]? = some (.cells cs t fr)) (hv : cs[o]? = some v) (hk : K v) : pLoad H (.pointer (some ⟨b, o, none⟩)) K := by
  simp only [pLoad, cellAt_blk h, hv]; exact hk
theorem pLoad_l {H : Heap} {b o : Nat} {l : List Value} {t : TypeId} {fr : Nat × Nat} {v : Value} {K : Value → Prop} (h : H[b]? = some (.cells l.toArray t fr)) (hv : l[o]? = some v) (hk : K v) : pLoad H (.pointer (some ⟨b, o, none⟩)) K :=
  pLoad_blk h (by rw [List.getElem?_toArray]; exact hv) hk
theorem pLoad_at {H : Heap} {b o : Nat} {l : List Value} {t : TypeId} {fr : Nat × Nat} {K : Value → Prop} (h : H[b]? = some (.cells l.toArray t fr)) : pLoad H (.pointer (some ⟨b, o, none⟩)) K = match l[o]? with
    | some v => K v
    | none => False := by
  simp only [pLoad, cellAt_blk h, List.getElem?_toArray]
  cases l[o]? <;> rfl
theorem pLoad_cell {H : Heap} {a : Addr} {v : Value} {K : Value → Prop} (h : cellAt H a = some v) : pLoad H (.pointer (some a)) K = K v := by
  simp only [pLoad, h]
theorem setAt_blk {H : Heap} {b o : Nat} {cs : Array Value} {t : TypeId} {fr : Nat × Nat} {v : Value} (h : H[b]? = some (.cells cs t fr)) : setAt H ⟨b, o, none⟩ v = H.setIfInBounds b (.cells (cs.setIfInBounds o v) t fr) := by
  unfold setAt
  apply Array.ext_getElem?
  intro j
  rw [Array.getElem?_modify, Array.getElem?_setIfInBounds]
  by_cases hj : b = j
  · subst hj
    have hl : b < H.size := by
      rcases Nat.lt_or_ge b H.size with h' | h'
      · exact h'
      · simp [Array.getElem?_eq_none h'] at h
    simp [hl] at h ⊢
    simp [h]
  · simp [hj]
theorem pStore_blk {H : Heap} {b o : Nat} {cs : Array Value} {t : TypeId} {v : Value} {K : Value → Heap → Prop} (h : H[b]? = some (.cells cs t (0, 0))) (ho : o < cs.size) (hv : oneCell v = true) :
    pStore H (.pointer (some ⟨b, o, none⟩)) v K = K undef (H.setIfInBounds b (.cells (cs.setIfInBounds o v) t (0, 0))) := by
  have hc : cellAt H ⟨b, o, none⟩ = some cs[o] := by rw [cellAt_blk h]; simp [ho]
  have hf : frozenAt H ⟨b, o, none⟩ = false := by simp [frozenAt, h]
  simp only [pStore, setsAt, add_mk, Nat.add_zero, hc, hf, cond_false, hv, cond_true, setAt_blk h]
theorem lt_of_blk {H : Heap} {b : Nat} {o : Obj} (h : H[b]? = some o) : b < H.size := (Array.getElem?_eq_some_iff.1 h).1
theorem get_set_self {H : Heap} {b : Nat} {o : Obj} (h : b < H.size) : (H.setIfInBounds b o)[b]? = some o := by simp [h]
theorem get_set_ne {H : Heap} {b c : Nat} {o : Obj} (h : b ≠ c) : (H.setIfInBounds b o)[c]? = H[c]? := by simp [Array.getElem?_setIfInBounds, h]
theorem get_push_self {H : Heap} {o : Obj} : (H.push o)[H.size]? = some o := by simp
theorem get_push_lt {H : Heap} {b : Nat} {o : Obj} (h : b < H.size) : (H.push o)[b]? = H[b]? := by rw [Array.getElem?_push, if_neg (by omega)]
theorem w64 {n : Int} (h0 : -9223372036854775808 ≤ n) (h1 : n ≤ 9223372036854775807) : IntKind.i64.wrap n = n := by
  simp [IntKind.wrap, IntKind.bits, IntKind.signed]; omega
theorem wu64 {n : Int} (h0 : 0 ≤ n) (h1 : n ≤ 18446744073709551615) : IntKind.u64.wrap n = n := by
  simp [IntKind.wrap, IntKind.bits, IntKind.signed]; omega
theorem wu8_mod (n : Int) : IntKind.u8.wrap n = n % 256 := by simp [IntKind.wrap, IntKind.bits, IntKind.signed]
theorem bys_size (l : List UInt8) : (ByteArray.mk l.toArray).size = l.length := by simp [ByteArray.size]
end Go.Vc
namespace Go.Vc
open Go
theorem decide_not' {p : Prop} [Decidable p] : (!decide p) = decide (¬ p) := by simp
theorem dec_and {p q : Prop} [Decidable p] [Decidable q] : (decide p && decide q) = decide (p ∧ q) := by simp
theorem dec_or {p q : Prop} [Decidable p] [Decidable q] : (decide p || decide q) = decide (p ∨ q) := by simp
theorem dec_eqt {b : Bool} : decide (b = true) = b := by simp
theorem le_refl' {n : Nat} : (n ≤ n) = True := by simp
theorem List.toArray_toList' {α : Type} {l : List α} : l.toArray.toList = l := rfl
theorem pCond_if {p : Prop} [Decidable p] {A B : Prop} (h1 : p → A) (h2 : ¬ p → B) : pCond (.bool (decide p)) A B := ⟨fun h => h1 (by simpa using h), fun h => h2 (by simpa using h)⟩
theorem pCond_b {b : Bool} {A B : Prop} (h1 : b = true → A) (h2 : b = false → B) : pCond (.bool b) A B := ⟨h1, h2⟩
end Go.Vc
namespace Go.Vc
open Go
theorem set_set {H : Heap} {b : Nat} {o o' : Obj} : (H.setIfInBounds b o).setIfInBounds b o' = H.setIfInBounds b o' := by simp
theorem cellsAt_blk {H : Heap} {b o : Nat} {cs : Array Value} {t : TypeId} {fr : Nat × Nat} (h : H[b]? = some (.cells cs t fr)) : ∀ n, o + n ≤ cs.size → cellsAt H ⟨b, o, none⟩ n = some ((cs.toList.drop o).take n)
  | 0, _ => by simp [cellsAt]
  | n + 1, hn => by
    have hlt : o + n < cs.size := by omega
    have ih := cellsAt_blk (o := o) (cs := cs) (t := t) (fr := fr) h n (by omega)
    simp only [cellsAt, ih, add_mk, cellAt_blk h, Array.getElem?_eq_getElem hlt]
    rw [List.take_add_one, List.getElem?_drop]
    simp [hlt]
theorem pLoadN_blk {H : Heap} {b n : Nat} {cs : Array Value} {t : TypeId} {fr : Nat × Nat} {K : Value → Prop} (h : H[b]? = some (.cells cs t fr)) (hn : cs.size = n) : pLoadN H n (.pointer (some ⟨b, 0, none⟩)) K = K (.agg cs) := by
  subst hn
  simp only [pLoadN, cellsAt_blk (o := 0) (cs := cs) (t := t) (fr := fr) h cs.size (by omega)]
  congr 2
  rw [List.drop_zero, ← Array.length_toList, List.take_length]
end Go.Vc
namespace Go.Vc
open Go
structure Ext (H H' : Heap) : Prop where
  size : H.size ≤ H'.size
  get : ∀ i, i < H.size → H'[i]? = H[i]?
theorem Ext.refl (H : Heap) : Ext H H := ⟨Nat.le_refl _, fun _ _ => rfl⟩
theorem Ext.trans {A B C : Heap} (h : Ext A B) (k : Ext B C) : Ext A C := ⟨Nat.le_trans h.size k.size, fun i hi => (k.get i (Nat.lt_of_lt_of_le hi h.size)).trans (h.get i hi)⟩
theorem Ext.push {A H : Heap} {o : Obj} (h : Ext A H) : Ext A (H.push o) := ⟨by have := h.size; simp; omega, fun i hi => by
  have := h.size
  rw [Array.getElem?_push, if_neg (by omega)]; exact h.get i hi⟩
theorem Ext.set {A H : Heap} {b : Nat} {o : Obj} (h : Ext A H) (hb : A.size ≤ b) : Ext A (H.setIfInBounds b o) := ⟨by have := h.size; simpa using this, fun i hi => by
  rw [get_set_ne (by omega)]; exact h.get i hi⟩
theorem Ext.blk {A H : Heap} {b : Nat} {o : Obj} (h : Ext A H) (hb : A[b]? = some o) : H[b]? = some o := by rw [h.get b (lt_of_blk hb)]; exact hb
theorem set_self {H : Heap} {b : Nat} {o : Obj} (hb : H[b]? = some o) : H.setIfInBounds b o = H := by
  apply Array.ext_getElem?; intro j
  rw [Array.getElem?_setIfInBounds]
  by_cases hj : b = j
  · subst hj; simp [lt_of_blk hb]; exact (Array.getElem?_eq_some_iff.1 hb).2.symm
  · simp [hj]
theorem and_low {n : Int} {k : Nat} {m : Int} (hk : k ≤ 62) (hm : m = 2 ^ k - 1) : bitsOf .and .i64 n m = n % 2 ^ k := by
  subst hm
  have hp : (2 : Nat) ^ k ≤ 2 ^ 62 := Nat.pow_le_pow_right (by omega) hk
  have h1 : ((BitVec.ofInt 64 n) &&& (BitVec.ofInt 64 ((2 : Int) ^ k - 1))).toNat = ((n % 18446744073709551616).toNat) % 2 ^ k := by
    rw [BitVec.toNat_and, BitVec.toNat_ofInt, BitVec.toNat_ofInt]
    have e : ((((2 : Int) ^ k - 1) % ((2 ^ 64 : Nat) : Int)).toNat) = 2 ^ k - 1 := by
      have h0 : (0 : Int) ≤ (2 : Int) ^ k - 1 := by
        have : (1 : Int) ≤ 2 ^ k := by exact_mod_cast Nat.one_le_two_pow
        omega
      have h2 : (2 : Int) ^ k - 1 < ((2 ^ 64 : Nat) : Int) := by
        have : ((2 : Int) ^ k) = ((2 ^ k : Nat) : Int) := by norm_cast
        rw [this]; omega
      rw [Int.emod_eq_of_lt h0 h2]
      have : ((2 : Int) ^ k) = ((2 ^ k : Nat) : Int) := by norm_cast
      rw [this]; omega
    rw [e, Nat.and_two_pow_sub_one_eq_mod]
    rfl
  have h3 : ((n % 18446744073709551616).toNat) % 2 ^ k = (n % 2 ^ k).toNat := by
    have hd : ((2 : Int) ^ k) ∣ 18446744073709551616 := by
      have : (18446744073709551616 : Int) = 2 ^ k * 2 ^ (64 - k) := by rw [← Int.pow_add]; rw [show k + (64 - k) = 64 by omega]; rfl
      rw [this]; exact Int.dvd_mul_right _ _
    have h4 : (n % 18446744073709551616) % 2 ^ k = n % 2 ^ k := Int.emod_emod_of_dvd _ hd
    have h5 : 0 ≤ n % 18446744073709551616 := Int.emod_nonneg _ (by decide)
    have hpos : (0 : Int) ≤ n % 2 ^ k := Int.emod_nonneg _ (Int.ne_of_gt (Int.pow_pos (by decide)))
    apply Int.ofNat.inj
    show (((n % 18446744073709551616).toNat % 2 ^ k : Nat) : Int) = (((n % 2 ^ k).toNat : Nat) : Int)
    rw [Int.natCast_emod, Int.toNat_of_nonneg h5, Int.toNat_of_nonneg hpos, ← h4, Int.natCast_pow]
    rfl
  show IntKind.i64.wrap ((((BitVec.ofInt 64 n) &&& (BitVec.ofInt 64 ((2 : Int) ^ k - 1))).toNat : Nat) : Int) = n % 2 ^ k
  rw [h1, h3]
  have hpos : (0 : Int) ≤ n % 2 ^ k := Int.emod_nonneg _ (Int.ne_of_gt (Int.pow_pos (by decide)))
  have hlt : n % (2 : Int) ^ k < 2 ^ k := Int.emod_lt_of_pos _ (Int.pow_pos (by decide))
  have hp2 : ((2 : Int) ^ k) ≤ 4611686018427387904 := by
    have : ((2 : Int) ^ k) = ((2 ^ k : Nat) : Int) := by norm_cast
    rw [this]; omega
  rw [Int.toNat_of_nonneg hpos]
  exact w64 (by omega) (by omega)
section
variable {K : Value → Prop} {KE : Value → Heap → Prop} {H : Heap} {k k' : IntKind} {a b : Int} {s t : ByteArray} {p q : Bool} {x y : Value}
theorem pPick_v : pPick (.bool p) x y K = K (bif p then x else y) := rfl
theorem pNil_v {ad : Addr} : pNil (.pointer (some ad)) K = K (.pointer (some ad)) := rfl
theorem pNil_f {f : FuncId} {u v : Array Value} : pNil (.func (.func f) u v) K = K (.func (.func f) u v) := rfl
theorem pAdd_v : pAdd (.int k a) (.int k b) K = K (.int k (k.wrap (a + b))) := propext ⟨fun h => h.2, fun h => ⟨rfl, h⟩⟩
theorem pSub_v : pSub (.int k a) (.int k b) K = K (.int k (k.wrap (a - b))) := propext ⟨fun h => h.2, fun h => ⟨rfl, h⟩⟩
theorem pMul_v : pMul (.int k a) (.int k b) K = K (.int k (k.wrap (a * b))) := propext ⟨fun h => h.2, fun h => ⟨rfl, h⟩⟩
theorem pAdd_s : pAdd (.string s) (.string t) K = (s.size + t.size ≤ 9223372036854775807 ∧ K (str (bys s ++ bys t))) := rfl
theorem pQuo_v : pQuo (.int k a) (.int k b) K = (b ≠ 0 ∧ K (.int k (k.wrap (a.tdiv b)))) := propext ⟨fun h => h.2, fun h => ⟨rfl, h⟩⟩
theorem pRem_v : pRem (.int k a) (.int k b) K = (b ≠ 0 ∧ K (.int k (a.tmod b))) := propext ⟨fun h => h.2, fun h => ⟨rfl, h⟩⟩
theorem pBits_v {o : BinOp} : pBits o (.int k a) (.int k b) K = K (.int k (bitsOf o k a b)) := propext ⟨fun h => h.2, fun h => ⟨rfl, h⟩⟩
theorem pShl_v : pShl (.int k a) (.int k' b) K = (0 ≤ b ∧ K (.int k (k.wrap (a * 2 ^ (min b.toNat k.bits))))) := rfl
theorem pShr_v : pShr (.int k a) (.int k' b) K = (0 ≤ b ∧ K (.int k (a.fdiv (2 ^ (min b.toNat k.bits))))) := rfl
theorem pLt_v : pLt (.int k a) (.int k b) K = K (.bool (decide (a < b))) := propext ⟨fun h => h.2, fun h => ⟨rfl, h⟩⟩
theorem pLe_v : pLe (.int k a) (.int k b) K = K (.bool (decide (a ≤ b))) := propext ⟨fun h => h.2, fun h => ⟨rfl, h⟩⟩
theorem pGt_v : pGt (.int k a) (.int k b) K = K (.bool (decide (b < a))) := propext ⟨fun h => h.2, fun h => ⟨rfl, h⟩⟩
theorem pGe_v : pGe (.int k a) (.int k b) K = K (.bool (decide (b ≤ a))) := propext ⟨fun h => h.2, fun h => ⟨rfl, h⟩⟩
theorem pEq_0 : pEq 0 (.int k a) (.int k b) K = K (.bool (decide (a = b))) := by simp [pEq, eqK]
theorem pNe_0 : pNe 0 (.int k a) (.int k b) K = K (.bool (decide (a ≠ b))) := by simp [pNe, eqK]
theorem pEq_1 : pEq 1 (.string s) (.string t) K = K (.bool (decide (bys s = bys t))) := rfl
theorem pNe_1 : pNe 1 (.string s) (.string t) K = K (.bool (decide (bys s ≠ bys t))) := by simp [pNe, eqK]
theorem pEq_2 : pEq 2 (.bool p) (.bool q) K = K (.bool (decide (p = q))) := rfl
theorem pNe_2 : pNe 2 (.bool p) (.bool q) K = K (.bool (decide (p ≠ q))) := by simp [pNe, eqK]
theorem pEq_3n : pEq 3 (.pointer none) (.pointer none) K = K (.bool true) := rfl
theorem pNe_3n : pNe 3 (.pointer none) (.pointer none) K = K (.bool false) := rfl
theorem pEq_3s {ad} : pEq 3 (.pointer (some ad)) (.pointer none) K = K (.bool false) := rfl
theorem pNe_3s {ad} : pNe 3 (.pointer (some ad)) (.pointer none) K = K (.bool true) := rfl
theorem pEq_3t {ad} : pEq 3 (.pointer none) (.pointer (some ad)) K = K (.bool false) := rfl
theorem pNe_3t {ad} : pNe 3 (.pointer none) (.pointer (some ad)) K = K (.bool true) := rfl
theorem pEq_5n : pEq 5 (.map none) (.map none) K = K (.bool true) := rfl
theorem pNe_5n : pNe 5 (.map none) (.map none) K = K (.bool false) := rfl
theorem pEq_5s {ad} : pEq 5 (.map (some ad)) (.map none) K = K (.bool false) := rfl
theorem pNe_5s {ad} : pNe 5 (.map (some ad)) (.map none) K = K (.bool true) := rfl
theorem pEq_5t {ad} : pEq 5 (.map none) (.map (some ad)) K = K (.bool false) := rfl
theorem pNe_5t {ad} : pNe 5 (.map none) (.map (some ad)) K = K (.bool true) := rfl
theorem pEq_4n {n c m d} : pEq 4 (.slice none n c) (.slice none m d) K = K (.bool true) := rfl
theorem pNe_4n {n c m d} : pNe 4 (.slice none n c) (.slice none m d) K = K (.bool false) := rfl
theorem pEq_4s {ad n c m d} : pEq 4 (.slice (some ad) n c) (.slice none m d) K = K (.bool false) := rfl
theorem pNe_4s {ad n c m d} : pNe 4 (.slice (some ad) n c) (.slice none m d) K = K (.bool true) := rfl
theorem pNot_v : pNot (.bool p) K = K (.bool !p) := rfl
theorem pNeg_v : pNeg (.int k a) K = K (.int k (k.wrap (0 - a))) := rfl
theorem pCom_v : pCom (.int k a) K = K (.int k (bitsOf .xor k (if k.signed then -1 else k.max) a)) := rfl
theorem pConv_v : pConv k (.int k' a) K = K (.int k (k.wrap a)) := rfl
theorem pConvS_v : pConvS (.string s) K = K (.string s) := rfl
theorem pMin_v : pMin (.int k a) (.int k b) K = K (.int k (min a b)) := propext ⟨fun h => h.2, fun h => ⟨rfl, h⟩⟩
theorem pMax_v : pMax (.int k a) (.int k b) K = K (.int k (max a b)) := propext ⟨fun h => h.2, fun h => ⟨rfl, h⟩⟩
theorem pFieldAddr_v {o : Nat} {ad : Addr} : pFieldAddr o (.pointer (some ad)) K = K (.pointer (some (ad.add o))) := rfl
theorem pField1_v {o : Nat} {l : List Value} : pField1 o (.agg l.toArray) K = match l[o]? with | some v => K v | none => False := rfl
theorem pFieldN_v {o n : Nat} {l : List Value} : pFieldN o n (.agg l.toArray) K = K (.agg ((l.drop o).take n).toArray) := rfl
theorem pExtract_v {o : Nat} {l : List Value} : pExtract o (.tuple l.toArray) K = match l[o]? with | some v => K v | none => False := rfl
theorem pIdxArr_v {n m : Nat} {ad : Addr} : pIdxArr n m (.pointer (some ad)) (.int k a) K = (0 ≤ a ∧ a < (n : Int) ∧ K (.pointer (some (ad.add (a.toNat * m))))) := rfl
theorem pIdxSl_v {n c m : Nat} {ad : Addr} : pIdxSl m (.slice (some ad) n c) (.int k a) K = (0 ≤ a ∧ a < (n : Int) ∧ K (.pointer (some (ad.add (a.toNat * m))))) := rfl
theorem pIdxStr_v : pIdxStr (.string s) (.int k a) K = (0 ≤ a ∧ a < ((bys s).length : Int) ∧ K (.int .u8 (((bys s).getD a.toNat 0).toNat : Int))) := rfl
theorem pBounds_00 {n c : Nat} {Kb : Nat → Nat → Prop} : pBounds n c none none Kb = Kb 0 n := rfl
theorem pBounds_10 {n c : Nat} {Kb : Nat → Nat → Prop} : pBounds n c (some (.int k a)) none Kb = (0 ≤ a ∧ a ≤ (n : Int) ∧ Kb a.toNat n) := rfl
theorem pBounds_01 {n c : Nat} {Kb : Nat → Nat → Prop} : pBounds n c none (some (.int k b)) Kb = (0 ≤ b ∧ b ≤ (c : Int) ∧ Kb 0 b.toNat) := rfl
theorem pBounds_11 {n c : Nat} {Kb : Nat → Nat → Prop} : pBounds n c (some (.int k a)) (some (.int k' b)) Kb = (0 ≤ b ∧ b ≤ (c : Int) ∧ 0 ≤ a ∧ a ≤ b ∧ Kb a.toNat b.toNat) := rfl
theorem pSlStr_v {lo hi : Option Value} : pSlStr (.string s) lo hi K = pBounds (bys s).length (bys s).length lo hi fun l h => K (str (((bys s).drop l).take (h - l))) := rfl
theorem pSlSl_v {m n c : Nat} {ad : Option Addr} {lo hi : Option Value} : pSlSl m (.slice ad n c) lo hi K = pBounds n c lo hi fun l h => K (.slice (if c = l then ad else ad.map (·.add (l * m))) (h - l) (c - l)) := rfl
theorem pSlArr_v {m n : Nat} {ad : Addr} {lo hi : Option Value} : pSlArr n m (.pointer (some ad)) lo hi K = pBounds n n lo hi fun l h => K (.slice (some (if n = l then ad else ad.add (l * m))) (h - l) (n - l)) := rfl
theorem pLenS_v : pLenS (.string s) K = K (.int .i64 ((bys s).length : Int)) := rfl
theorem pLen_v {ad : Option Addr} {n c : Nat} : pLen (.slice ad n c) K = K (.int .i64 (n : Int)) := rfl
theorem pCap_v {ad : Option Addr} {n c : Nat} : pCap (.slice ad n c) K = K (.int .i64 (c : Int)) := rfl
theorem pBuild_n {l : List Value} : pBuild l [] K = K (.agg l.toArray) := rfl
theorem pBuild_c {l : List Value} {o m : Nat} {v : Value} {r : List (Nat × Nat × Value)} : pBuild l ((o, m, v) :: r) K = (v.cells.size = m ∧ o + m ≤ l.length ∧ pBuild (putL l o v.cells.toList) r K) := rfl
theorem cells_int : Value.cells (.int k a) = #[(.int k a)] := rfl
theorem cells_str : Value.cells (.string s) = #[(.string s)] := rfl
theorem cells_bool : Value.cells (.bool p) = #[(.bool p)] := rfl
theorem cells_ptr {u} : Value.cells (.pointer u) = #[.pointer u] := rfl
theorem cells_slice {u n c} : Value.cells (.slice u n c) = #[.slice u n c] := rfl
theorem cells_map {u} : Value.cells (.map u) = #[.map u] := rfl
theorem cells_agg {u} : Value.cells (.agg u) = u := rfl
theorem oneCell_int : oneCell (.int k a) = true := rfl
theorem oneCell_str : oneCell (.string s) = true := rfl
theorem oneCell_bool : oneCell (.bool p) = true := rfl
theorem oneCell_ptr {u} : oneCell (.pointer u) = true := rfl
theorem oneCell_slice {u n c} : oneCell (.slice u n c) = true := rfl
theorem oneCell_map {u} : oneCell (.map u) = true := rfl
end
theorem putL_cons (cs : List Value) (o : Nat) (v : Value) (r : List Value) : putL cs o (v :: r) = putL (cs.set o v) (o + 1) r := rfl
theorem putL_nil (cs : List Value) (o : Nat) : putL cs o [] = cs := rfl
theorem putL_len (l : List Value) : ∀ (cs : List Value) (o : Nat), (putL cs o l).length = cs.length := by
  induction l with
  | nil => intros; rfl
  | cons v r ih => intro cs o; rw [putL_cons, ih, List.length_set]
theorem putL_all (l : List Value) : ∀ (a c : List Value), c.length = l.length → putL (a ++ c) a.length l = a ++ l := by
  induction l with
  | nil => intro a c h; have : c = [] := by simpa using h
           subst this; rfl
  | cons v r ih =>
    intro a c h
    match c, h with
    | x :: c, h =>
      rw [putL_cons, show (a ++ x :: c).set a.length v = (a ++ [v]) ++ c by simp, show a.length + 1 = (a ++ [v]).length by simp, ih (a ++ [v]) c (by simpa using h)]
      simp
theorem setsAt_blk {b o : Nat} {t : TypeId} : ∀ (l : List Value) (H : Heap) (cs : Array Value) (i : Nat), H[b]? = some (.cells cs t (0, 0)) → l.all oneCell = true → o + i + l.length ≤ cs.size →
    setsAt H ⟨b, o, none⟩ i l = some (H.setIfInBounds b (.cells (putL cs.toList (o + i) l).toArray t (0, 0)))
  | [], H, cs, i, h, _, _ => by simp only [setsAt, putL_nil]; rw [set_self h]
  | v :: r, H, cs, i, h, hv, hs => by
    have hv1 : oneCell v = true := by simp only [List.all_cons, Bool.and_eq_true] at hv; exact hv.1
    have hv2 : r.all oneCell = true := by simp only [List.all_cons, Bool.and_eq_true] at hv; exact hv.2
    have hs' : o + i + (r.length + 1) ≤ cs.size := by simpa using hs
    have hc : cellAt H ⟨b, o + i, none⟩ = some cs[o + i] := by rw [cellAt_blk h]; simp
    have hf : frozenAt H ⟨b, o + i, none⟩ = false := by simp [frozenAt, h]
    simp only [setsAt, add_mk, hc, hf, cond_false, hv1, cond_true, setAt_blk h]
    rw [setsAt_blk r _ (cs.setIfInBounds (o + i) v) (i + 1) (get_set_self (lt_of_blk h)) hv2 (by simp; omega), set_set, putL_cons]
    simp [Nat.add_assoc]
theorem pStoreN_blk {H : Heap} {b n : Nat} {cs vs : Array Value} {t : TypeId} {K : Value → Heap → Prop} (h : H[b]? = some (.cells cs t (0, 0))) (hn : cs.size = n) (hv : vs.size = n) (ha : vs.toList.all oneCell = true) :
    pStoreN H n (.pointer (some ⟨b, 0, none⟩)) (.agg vs) K = K undef (H.setIfInBounds b (.cells vs t (0, 0))) := by
  have e := putL_all vs.toList [] cs.toList (by simp [hn, hv])
  simp only [List.nil_append, List.length_nil] at e
  simp only [pStoreN, cells_agg, hv, setsAt_blk (o := 0) vs.toList H cs 0 h ha (by simp; omega), e, true_and]
def LawOk (H : Heap) (v : Value) (H' : Heap) : Prop := v = .bool true ∧ Ext H H'
end Go.Vc
namespace Go.Vc
open Go
structure Upd (b : Nat) (o : Obj) (H H' : Heap) : Prop where
  size : H.size ≤ H'.size
  at_ : H'[b]? = some o
  ne : ∀ i, i < H.size → i ≠ b → H'[i]? = H[i]?
theorem Upd.keep {b c : Nat} {o o' : Obj} {H H' : Heap} (h : Upd b o H H') (hc : H[c]? = some o') (hn : c ≠ b) : H'[c]? = some o' := (h.ne c (lt_of_blk hc) hn).trans hc
theorem Upd.ext {A H H' : Heap} {b : Nat} {o : Obj} (h : Upd b o H H') (hE : Ext A H) (hb : A.size ≤ b) : Ext A H' :=
  ⟨Nat.le_trans hE.size h.size, fun i hi => (h.ne i (Nat.lt_of_lt_of_le hi hE.size) (by omega)).trans (hE.get i hi)⟩
theorem Upd.set {H : Heap} {b : Nat} {o : Obj} (hb : b < H.size) : Upd b o H (H.setIfInBounds b o) := ⟨by simp, get_set_self hb, fun i _ hn => get_set_ne (Ne.symm hn)⟩
theorem Upd.trans {A B C : Heap} {b : Nat} {o o' : Obj} (h : Upd b o A B) (k : Upd b o' B C) : Upd b o' A C :=
  ⟨Nat.le_trans h.size k.size, k.at_, fun i hi hn => (k.ne i (Nat.lt_of_lt_of_le hi h.size) hn).trans (h.ne i hi hn)⟩
theorem Upd.refl {A : Heap} {b : Nat} {o : Obj} (h : A[b]? = some o) : Upd b o A A := ⟨Nat.le_refl _, h, fun _ _ _ => rfl⟩
section
variable {KE : Value → Heap → Prop} {H : Heap} {b o n : Nat} {cs vs : Array Value} {t : TypeId} {v : Value}
theorem pStore_upd (h : H[b]? = some (.cells cs t (0, 0))) (ho : o < cs.size) (hv : oneCell v = true) (hk : ∀ H', H'.size = H.size → Upd b (.cells (cs.setIfInBounds o v) t (0, 0)) H H' → KE undef H') : pStore H (.pointer (some ⟨b, o, none⟩)) v KE := by
  rw [pStore_blk h ho hv]; exact hk _ (by simp) (Upd.set (lt_of_blk h))
theorem pStoreN_upd (h : H[b]? = some (.cells cs t (0, 0))) (hn : cs.size = n) (hv : vs.size = n) (ha : vs.toList.all oneCell = true) (hk : ∀ H', H'.size = H.size → Upd b (.cells vs t (0, 0)) H H' → KE undef H') : pStoreN H n (.pointer (some ⟨b, 0, none⟩)) (.agg vs) KE := by
  rw [pStoreN_blk h hn hv ha]; exact hk _ (by simp) (Upd.set (lt_of_blk h))
theorem pBox_ext {e : TypeId} (hk : ∀ H', H'.size = H.size + 1 → Ext H H' → H'[H.size]? = some (.cells v.cells e (0, 0)) → KE (.pointer (some ⟨H.size, 0, none⟩)) H') : pBox H e v KE :=
  hk _ (by simp) (Ext.refl _).push get_push_self
end
end Go.Vc
namespace Go.Vc
open Go
section
variable {H : Heap} {KE : Value → Heap → Prop} {a d : Bool}
theorem pAnd_pureE : pAnd (.bool a) (fun J => ∀ _ : Env, J (.bool d) H) H KE = KE (.bool (a && d)) H := by
  refine Eq.trans ?_ (pAnd_pure (H := H) (KE := KE) (a := a) (d := d))
  unfold pAnd
  simp only [forall_const]
theorem pOr_pureE : pOr (.bool a) (fun J => ∀ _ : Env, J (.bool d) H) H KE = KE (.bool (a || d)) H := by
  refine Eq.trans ?_ (pOr_pure (H := H) (KE := KE) (a := a) (d := d))
  unfold pOr
  simp only [forall_const]
theorem bool_to {R : Value → Heap → Prop} {b : Bool} (e : a = b) (h : R (.bool b) H) : R (.bool a) H := by rw [e]; exact h
end
end Go.Vc
namespace Go.Vc
open Go
end Go.Vc
set_option linter.unusedSimpArgs false
set_option linter.unusedVariables false
namespace Go.Vc
open Go Go.RowKit
theorem below_of {P : Program} {f : FuncId} {args : Array Value} {w : World} (h : CallsH P f args w.heap (LawOk w.heap)) : Calls P f args w fun e w' => e = .returned (.bool true) ∧ ∃ w'' : World, w'.Alike w'' ∧ Below w.heap.size w w'' :=
  (h w rfl).mono fun e w' ⟨v, he, hr, hv, hx⟩ => ⟨by rw [he, hv], { w' with tape := w.tape }, ⟨rfl, rfl, rfl⟩, ⟨hr.os, rfl, hr.output, hx.size, fun k hk => hx.get k hk⟩⟩
def IntRow (k : IntKind) (H : Heap) (a : Option Addr) (len cap : Nat) (zs : List Int) : Prop :=
  (a = none ∧ len = 0 ∧ cap = 0 ∧ zs = []) ∨
  ∃ x, a = some x ∧ len ≤ cap ∧ cap ≤ maxLen ∧ zs.length = cap ∧ (∀ i, i < zs.length → cellAt H (x.add i) = some (.int k (zs.getD i 0))) ∧ ∀ n ∈ zs, (Lit.int k n).wf = true
theorem wf64 {n : Int} (h : (Lit.int .i64 n).wf = true) : -9223372036854775808 ≤ n ∧ n ≤ 9223372036854775807 := by
  simpa [Lit.wf, IntKind.min, IntKind.max, IntKind.signed, IntKind.bits] using h
theorem cellAt_ext {H H' : Heap} {a : Addr} {v : Value} (h : Ext H H') (hc : cellAt H a = some v) : cellAt H' a = some v := by
  unfold cellAt at hc ⊢
  have hl : a.block < H.size := by
    rcases Nat.lt_or_ge a.block H.size with h' | h'
    · exact h'
    · rw [Array.getElem?_eq_none h'] at hc; cases hc
  rw [h.get _ hl]; exact hc
theorem IntRow.read {k : IntKind} {H H' : Heap} {a : Option Addr} {len cap : Nat} {zs : List Int} (hr : IntRow k H a len cap zs) (hx : Ext H H') {i : Int} (h0 : 0 ≤ i) (h1 : i < (len : Int)) {K : Value → Prop} :
    (K (.int k (zs.getD i.toNat 0))) → pIdxSl 1 (.slice a len cap) (.int .i64 i) fun x => pLoad H' x K := by
  intro hk
  rcases hr with ⟨_, rfl, _⟩ | ⟨x, rfl, hl, _, hz, hc, _⟩
  · omega
  · rw [pIdxSl_v]
    refine ⟨h0, h1, ?_⟩
    rw [Nat.mul_one, pLoad_cell (cellAt_ext hx (hc i.toNat (by omega)))]
    exact hk
theorem IntRow.wf {k : IntKind} {H : Heap} {a : Option Addr} {len cap : Nat} {zs : List Int} (hr : IntRow k H a len cap zs) {i : Nat} (h1 : i < len) : (Lit.int k (zs.getD i 0)).wf = true := by
  rcases hr with ⟨_, rfl, _⟩ | ⟨x, rfl, hl, _, hz, hc, hw⟩
  · omega
  · rw [List.getD_eq_getElem?_getD, List.getElem?_eq_getElem (by omega)]
    exact hw _ (List.getElem_mem _)
theorem IntRow.len_le {k : IntKind} {H : Heap} {a : Option Addr} {len cap : Nat} {zs : List Int} (hr : IntRow k H a len cap zs) : len ≤ zs.length := by
  rcases hr with ⟨_, rfl, _, rfl⟩ | ⟨x, rfl, hl, _, hz, hc, hw⟩
  · exact Nat.le_refl _
  · omega
theorem IntRow.len_max {k : IntKind} {H : Heap} {a : Option Addr} {len cap : Nat} {zs : List Int} (hr : IntRow k H a len cap zs) : len ≤ maxLen := by
  rcases hr with ⟨_, rfl, _, rfl⟩ | ⟨x, rfl, hl, _, hz, hc, hw⟩
  · exact Nat.zero_le _
  · omega
end Go.Vc
set_option linter.unusedSimpArgs false
set_option linter.unusedVariables false
namespace Go.Vc
open Go Go.ChangeShapes Go.WideShapes Go.Deep Go.RowKit
section
variable {H : Type} {enc : TypeId × Value → H} {P : Program} {w : World} {base : Nat} {spare : Nat → Bool} {held : Bool}
end
end Go.Vc
set_option linter.unusedSimpArgs false
set_option linter.unusedVariables false
namespace Go.Vc
open Go
theorem addr_add_add (a : Addr) (m n : Nat) : (a.add m).add n = a.add (m + n) := by
  unfold Addr.add
  by_cases hm : m = 0
  · subst hm; simp
  · by_cases hn : n = 0
    · subst hn; simp [hm]
    · have : m + n ≠ 0 := by omega
      simp [hm, hn, this, Nat.add_assoc]
def Reads (H : Heap) (a : Addr) (l : List Value) : Prop := ∀ (i : Nat) (v : Value), l[i]? = some v → cellAt H (a.add i) = some v
theorem Reads.cells {H : Heap} {a : Addr} {l : List Value} (h : Reads H a l) : ∀ n, n ≤ l.length → cellsAt H a n = some (l.take n)
  | 0, _ => by simp [cellsAt]
  | n + 1, hn => by
    have hlt : n < l.length := by omega
    simp only [cellsAt, h.cells n (by omega), h n l[n] (List.getElem?_eq_getElem hlt)]
    rw [List.take_add_one, List.getElem?_eq_getElem hlt]
    rfl
theorem Reads.all {H : Heap} {a : Addr} {l : List Value} (h : Reads H a l) : cellsAt H a l.length = some l := by rw [h.cells _ (Nat.le_refl _), List.take_length]
theorem Reads.ext {H H' : Heap} {a : Addr} {l : List Value} (h : Reads H a l) (hx : Ext H H') : Reads H' a l := fun i v hv => cellAt_ext hx (h i v hv)
theorem Reads.part {H : Heap} {a : Addr} {l : List Value} (h : Reads H a l) (o n : Nat) : Reads H (a.add o) ((l.drop o).take n) := fun i v hv => by
  rw [addr_add_add]
  rw [List.getElem?_take] at hv
  split at hv
  · rw [List.getElem?_drop] at hv; exact h _ _ hv
  · cases hv
def Sl (H : Heap) (v : Value) (sz : Nat) (l : List Value) : Prop :=
  (v = .slice none 0 0 ∧ l = []) ∨ ∃ a n cap, v = .slice (some a) n cap ∧ l.length = n * sz ∧ n ≤ cap ∧ Reads H a l
theorem Sl.ext {H H' : Heap} {v : Value} {sz : Nat} {l : List Value} (h : Sl H v sz l) (hx : Ext H H') : Sl H' v sz l := by
  rcases h with h | ⟨a, n, cap, h1, h2, h3, h4⟩
  · exact .inl h
  · exact .inr ⟨a, n, cap, h1, h2, h3, h4.ext hx⟩
theorem Sl.len {H : Heap} {v : Value} {sz : Nat} {l : List Value} {K : Value → Prop} (h : Sl H v sz l) {n : Nat} (hn : l.length = n * sz) (hz : 0 < sz) (hk : K (.int .i64 (n : Int))) : pLen v K := by
  rcases h with ⟨rfl, rfl⟩ | ⟨a, m, cap, rfl, h2, h3, h4⟩
  · rw [pLen_v]
    have : n = 0 := by
      rcases Nat.eq_zero_or_pos n with h | h
      · exact h
      · have := Nat.mul_pos h hz
        simp only [List.length_nil] at hn
        omega
    subst this; exact hk
  · rw [pLen_v]
    rw [h2] at hn
    rw [Nat.eq_of_mul_eq_mul_right hz hn]; exact hk
theorem Sl.lenV {H : Heap} {v : Value} {sz : Nat} {l : List Value} (h : Sl H v sz l) {n : Nat} (hn : l.length = n * sz) (hz : 0 < sz) : Go.Vc.lenV v = some n := by
  rcases h with ⟨rfl, rfl⟩ | ⟨a, m, cap, rfl, h2, h3, h4⟩
  · have : n = 0 := by
      rcases Nat.eq_zero_or_pos n with h | h
      · exact h
      · have := Nat.mul_pos h hz
        simp only [List.length_nil] at hn
        omega
    subst this; rfl
  · rw [h2] at hn
    rw [Nat.eq_of_mul_eq_mul_right hz hn]; rfl
theorem Sl.cellsOf {H : Heap} {v : Value} {sz : Nat} {l : List Value} (h : Sl H v sz l) : Go.Vc.cellsOf H sz v = some l := by
  rcases h with ⟨rfl, rfl⟩ | ⟨a, m, cap, rfl, h2, h3, h4⟩
  · rfl
  · show cellsAt H a (m * sz) = some l
    rw [← h2]; exact h4.all
theorem Reads.load {H : Heap} {a : Addr} {l : List Value} {v : Value} {K : Value → Prop} (h : Reads H a l) (hv : l[0]? = some v) (hk : K v) : pLoad H (.pointer (some a)) K := by
  have := h 0 v hv
  have e : a.add 0 = a := by simp [Addr.add]
  rw [e] at this
  rw [pLoad_cell this]; exact hk
theorem Reads.loadAt {H : Heap} {a : Addr} {l : List Value} {v : Value} {o : Nat} {K : Value → Prop} (h : Reads H a l) (hv : l[o]? = some v) (hk : K v) : pLoad H (.pointer (some (a.add o))) K := by
  rw [pLoad_cell (h o v hv)]; exact hk
theorem Reads.loadN {H : Heap} {a : Addr} {l : List Value} {n : Nat} {K : Value → Prop} (h : Reads H a l) (hn : l.length = n) (hk : K (.agg l.toArray)) : pLoadN H n (.pointer (some a)) K := by
  subst hn
  simp only [pLoadN, h.all]; exact hk
def Thawed (fr : Nat × Nat) (n : Nat) : Prop := fr = (0, 0) ∨ n ≤ fr.1
structure OwnB (H : Heap) (b : Nat) (sz n cap : Nat) (l sp : List Value) : Prop where
  blk : ∃ t fr, H[b]? = some (.cells (l ++ sp).toArray t fr) ∧ Thawed fr (cap * sz)
  len : l.length = n * sz
  cap_ : (l ++ sp).length = cap * sz
def Own (H : Heap) (v : Value) (sz : Nat) (l : List Value) : Prop :=
  (v = .slice none 0 0 ∧ l = []) ∨ ∃ b n cap sp, v = .slice (some ⟨b, 0, none⟩) n cap ∧ OwnB H b sz n cap l sp
def blkOf : Value → Option Nat
  | .slice (some a) _ _ => some a.block
  | _ => none
theorem Own.sl {H : Heap} {v : Value} {sz : Nat} {l : List Value} (hz : 0 < sz) (h : Own H v sz l) : Sl H v sz l := by
  rcases h with h | ⟨b, n, cap, sp, rfl, ⟨t, fr, hb, _⟩, hl, hc⟩
  · exact .inl h
  · refine .inr ⟨_, n, cap, rfl, hl, ?_, fun i v hv => ?_⟩
    · rw [List.length_append] at hc
      exact Nat.le_of_mul_le_mul_right (by omega) hz
    · rw [add_mk, Nat.zero_add, cellAt_blk hb, List.getElem?_toArray, List.getElem?_append_left (List.getElem?_eq_some_iff.1 hv).1]
      exact hv
theorem Own.ext {H H' : Heap} {v : Value} {sz : Nat} {l : List Value} (h : Own H v sz l) (hx : Ext H H') : Own H' v sz l := by
  rcases h with h | ⟨b, n, cap, sp, rfl, ⟨t, fr, hb, hf⟩, hl, hc⟩
  · exact .inl h
  · exact .inr ⟨b, n, cap, sp, rfl, ⟨⟨t, fr, hx.blk hb, hf⟩, hl, hc⟩⟩
theorem Own.other {H H' : Heap} {v : Value} {sz : Nat} {l : List Value} {b' : Option Nat} (h : Own H v sz l) (hx : ∀ i, i < H.size → b' ≠ some i → H'[i]? = H[i]?) (hb : blkOf v ≠ b' ∨ blkOf v = none) : Own H' v sz l := by
  rcases h with h | ⟨b, n, cap, sp, rfl, ⟨t, fr, hb', hf⟩, hl, hc⟩
  · exact .inl h
  · refine .inr ⟨b, n, cap, sp, rfl, ⟨⟨t, fr, ?_, hf⟩, hl, hc⟩⟩
    rw [hx b (lt_of_blk hb') (by
      rcases hb with hb | hb
      · exact fun e => hb (by simp [blkOf, e])
      · simp [blkOf] at hb)]
    exact hb'
theorem Own.lt {H : Heap} {v : Value} {sz : Nat} {l : List Value} (h : Own H v sz l) {b : Nat} (hb : blkOf v = some b) : b < H.size := by
  rcases h with ⟨rfl, _⟩ | ⟨b', n, cap, sp, rfl, ⟨t, fr, hb', hf⟩, hl, hc⟩
  · simp [blkOf] at hb
  · simp only [blkOf, Option.some.injEq] at hb
    subst hb; exact lt_of_blk hb'
theorem setsAt_thaw {b : Nat} {t : TypeId} {fr : Nat × Nat} {N : Nat} (hf : Thawed fr N) : ∀ (l : List Value) (H : Heap) (o i : Nat) (cs : List Value), H[b]? = some (.cells cs.toArray t fr) → l.all oneCell = true → o + i + l.length ≤ cs.length → cs.length = N →
    setsAt H ⟨b, o, none⟩ i l = some (H.setIfInBounds b (.cells (putL cs (o + i) l).toArray t fr))
  | [], H, o, i, cs, h, _, _, _ => by simp only [setsAt, putL_nil]; rw [set_self h]
  | v :: r, H, o, i, cs, h, hv, hs, hN => by
    have hv1 : oneCell v = true := by simp only [List.all_cons, Bool.and_eq_true] at hv; exact hv.1
    have hv2 : r.all oneCell = true := by simp only [List.all_cons, Bool.and_eq_true] at hv; exact hv.2
    have hs' : o + i + (r.length + 1) ≤ cs.length := by simpa using hs
    have hc : cellAt H ⟨b, o + i, none⟩ = some (cs[o + i]'(by omega)) := by rw [cellAt_blk h, List.getElem?_toArray, List.getElem?_eq_getElem]
    have hfz : frozenAt H ⟨b, o + i, none⟩ = false := by
      obtain ⟨lo, hi⟩ := fr
      simp only [frozenAt, h]
      rcases hf with hf | hf
      · simp only [Prod.mk.injEq] at hf
        obtain ⟨rfl, rfl⟩ := hf
        simp
      · have : ¬ lo ≤ o + i := by simp only at hf; omega
        simp [this]
    simp only [setsAt, add_mk, hc, hfz, cond_false, hv1, cond_true, setAt_blk h]
    rw [show (Array.setIfInBounds cs.toArray (o + i) v) = (cs.set (o + i) v).toArray by simp]
    rw [setsAt_thaw hf r _ o (i + 1) (cs.set (o + i) v) (get_set_self (lt_of_blk h)) hv2 (by simp; omega) (by simpa using hN), set_set, putL_cons]
    simp [Nat.add_assoc]
theorem putL_mid (l : List Value) : ∀ (a c : List Value), l.length ≤ c.length → putL (a ++ c) a.length l = a ++ l ++ c.drop l.length := by
  induction l with
  | nil => intro a c _; simp [putL_nil]
  | cons v r ih =>
    intro a c h
    match c, h with
    | x :: c, h =>
      rw [putL_cons, show (a ++ x :: c).set a.length v = (a ++ [v]) ++ c by simp, show a.length + 1 = (a ++ [v]).length by simp, ih (a ++ [v]) c (by simpa using h)]
      simp
theorem repL_len (z : List Value) : ∀ n, (repL z n).length = n * z.length
  | 0 => by simp [repL]
  | n + 1 => by rw [repL, List.length_append, repL_len z n, Nat.succ_mul, Nat.add_comm]
theorem Own.append {H : Heap} {v x : Value} {sz bytes m n : Nat} {e : TypeId} {zero l new : List Value} {K : Value → Heap → Prop} (h : Own H v sz l) (hz : 0 < sz) (hzero : zero.length = sz) (hlen : lenV x = some m) (hcells : cellsOf H sz x = some new)
    (hl : l.length = n * sz) (hm : new.length = m * sz) (hone : new.all oneCell = true) (hsize : 2 * (n + m) * bytes ≤ 281474976710656)
    (hk : ∀ v' H', Own H' v' sz (l ++ new) → (∀ i, i < H.size → blkOf v ≠ some i → H'[i]? = H[i]?) → H.size ≤ H'.size → (blkOf v' = blkOf v ∨ blkOf v' = some H.size) → K v' H') : pAppend H e sz bytes zero v x K := by
  rcases h with ⟨rfl, rfl⟩ | ⟨b, n', cap, sp, rfl, ⟨t, fr, hb, hf⟩, hl', hc⟩
  · have hn0 : n = 0 := by
      rcases Nat.eq_zero_or_pos n with h | h
      · exact h
      · have := Nat.mul_pos h hz
        simp only [List.length_nil] at hl
        omega
    subst hn0
    simp only [pAppend, hlen, hcells]
    refine ⟨fun hle => ?_, fun hlt => ?_⟩
    · have hm0 : m = 0 := by omega
      subst hm0
      have : new = [] := by simpa using hm
      subst this
      exact hk _ H (.inl ⟨rfl, rfl⟩) (fun _ _ _ => rfl) (Nat.le_refl _) (.inl rfl)
    · refine ⟨by simpa using hsize, ?_⟩
      simp only [cellsOf, List.nil_append]
      intro c hc
      refine hk _ _ (.inr ⟨H.size, 0 + m, c, repL zero (c - (0 + m)), rfl, ⟨⟨e, (0, 0), get_push_self, .inl rfl⟩, by simpa using hm, ?_⟩⟩) (fun i hi _ => get_push_lt hi) (by simp) (.inr rfl)
      simp only [List.nil_append]
      rw [List.length_append, repL_len, hm, hzero, ← Nat.add_mul]
      congr 1; omega
  · have hnn : n' = n := Nat.eq_of_mul_eq_mul_right hz (hl'.symm.trans hl)
    subst hnn
    simp only [pAppend, hlen, hcells]
    refine ⟨fun hle => ?_, fun hlt => ?_⟩
    · have hsp : new.length ≤ sp.length := by
        rw [List.length_append] at hc
        have := Nat.mul_le_mul_right sz hle
        rw [Nat.add_mul] at this
        omega
      simp only [add_mk, Nat.zero_add]
      rw [setsAt_thaw hf new H (n' * sz) 0 (l ++ sp) hb hone (by rw [List.length_append]; omega) hc]
      simp only [Nat.add_zero]
      rw [← hl', putL_mid new l sp hsp]
      refine hk _ _ (.inr ⟨b, n' + m, cap, sp.drop new.length, rfl, ⟨⟨t, fr, get_set_self (lt_of_blk hb), hf⟩, ?_, ?_⟩⟩) (fun i hi hne => ?_) (by simp) (.inl rfl)
      · rw [List.length_append, hl', hm, Nat.add_mul]
      · rw [List.length_append, List.length_append, List.length_drop]
        rw [List.length_append] at hc
        omega
      · exact get_set_ne (by intro e; subst e; simp [blkOf] at hne)
    · refine ⟨hsize, ?_⟩
      have hr : cellsOf H sz (.slice (some ⟨b, 0, none⟩) n' cap) = some l := by
        have := (Own.sl hz (.inr ⟨b, n', cap, sp, rfl, ⟨⟨t, fr, hb, hf⟩, hl', hc⟩⟩ : Own H (.slice (some ⟨b, 0, none⟩) n' cap) sz l)).cellsOf
        exact this
      rw [hr]
      intro c hc2
      refine hk _ _ (.inr ⟨H.size, n' + m, c, repL zero (c - (n' + m)), rfl, ⟨⟨e, (0, 0), get_push_self, .inl rfl⟩, ?_, ?_⟩⟩) (fun i hi _ => get_push_lt hi) (by simp) (.inr rfl)
      · rw [List.length_append, hl', hm, Nat.add_mul]
      · rw [List.length_append, List.length_append, repL_len, hl', hm, hzero, ← Nat.add_mul, ← Nat.add_mul]
        congr 1; omega
theorem Own.append1 {H : Heap} {v x : Value} {sz bytes n : Nat} {e : TypeId} {zero l : List Value} {K : Value → Heap → Prop} (h : Own H v sz l) (hz : 0 < sz) (hzero : zero.length = sz) (hx : x.cells.size = sz) (hone : x.cells.toList.all oneCell = true)
    (hl : l.length = n * sz) (hsize : 2 * (n + 1) * bytes ≤ 281474976710656)
    (hk : ∀ v' H', Own H' v' sz (l ++ x.cells.toList) → (∀ i, i < H.size → blkOf v ≠ some i → H'[i]? = H[i]?) → H.size ≤ H'.size → (∀ k, blkOf v' = some k → blkOf v = some k ∨ H.size ≤ k) → K v' H') :
    pBuildSl H e 1 zero [(0, sz, x)] fun y H1 => pAppend H1 e sz bytes zero v y K := by
  have hp : putL zero 0 x.cells.toList = x.cells.toList := by
    have := putL_all x.cells.toList [] zero (by simp [hzero, hx])
    simpa using this
  simp only [pBuildSl, pBuild_c, pBuild_n, hp, cells_agg]
  refine ⟨hx, by omega, ?_⟩
  have e1 : Ext H (H.push (.cells x.cells.toList.toArray e)) := (Ext.refl H).push
  have hr : Reads (H.push (.cells x.cells.toList.toArray e)) ⟨H.size, 0, none⟩ x.cells.toList := fun i w hw => by
    rw [add_mk, Nat.zero_add, cellAt_blk get_push_self, List.getElem?_toArray]; exact hw
  have hc : Go.Vc.cellsOf (H.push (.cells x.cells.toList.toArray e)) sz (.slice (some ⟨H.size, 0, none⟩) 1 1) = some x.cells.toList := by
    have := hr.all
    rw [show x.cells.toList.length = 1 * sz by simp [hx]] at this
    exact this
  refine Own.append (h.ext e1) hz hzero (m := 1) rfl hc hl (by simp [hx]) hone hsize fun v' H' ho hi hs hb => ?_
  refine hk v' H' ho (fun i hil hne => ?_) (by rw [Array.size_push] at hs; omega) (fun k hk' => ?_)
  · rw [hi i (by rw [Array.size_push]; omega) hne]; exact get_push_lt hil
  · rcases hb with hb | hb
    · left; rw [← hb]; exact hk'
    · right; rw [hb, Option.some.injEq, Array.size_push] at hk'; omega
theorem ext_of_own {A H H' : Heap} {v : Value} (hx : Ext A H) (hv : ∀ k, blkOf v = some k → A.size ≤ k) (hi : ∀ i, i < H.size → blkOf v ≠ some i → H'[i]? = H[i]?) (hs : H.size ≤ H'.size) : Ext A H' :=
  ⟨Nat.le_trans hx.size hs, fun i hil => by
    have := hx.size
    rw [hi i (by omega) (fun e => by have := hv i e; omega)]; exact hx.get i hil⟩
theorem bytesOf_byteV : ∀ l : List UInt8, bytesOf (l.map byteV) = some l
  | [] => rfl
  | b :: r => by
    simp only [List.map_cons, bytesOf, bytesOf_byteV r]
    congr 2
    simp
theorem Sl.str {H : Heap} {v : Value} {l : List UInt8} {K : Value → Prop} (h : Sl H v 1 (l.map byteV)) (hk : K (str l)) : pStrOf H v K := by
  rcases h with ⟨rfl, hl⟩ | ⟨a, n, cap, rfl, h2, h3, h4⟩
  · have : l = [] := by simpa using hl
    subst this
    exact hk
  · simp only [List.length_map, Nat.mul_one] at h2
    simp only [pStrOf]
    have := h4.all
    rw [List.length_map, h2] at this
    rw [this]
    simp only [bytesOf_byteV]
    exact hk
theorem Sl.cut {H : Heap} {v : Value} {sz : Nat} {l : List Value} {K : Value → Prop} (h : Sl H v sz l) (hz : 0 < sz) {n lo hi : Nat} (hn : l.length = n * sz) (h1 : lo ≤ hi) (h2 : hi ≤ n) (hk : ∀ v', Sl H v' sz ((l.drop (lo * sz)).take ((hi - lo) * sz)) → K v') {x y : Option Value}
    (hx : x = some (.int .i64 (lo : Int)) ∨ (x = none ∧ lo = 0)) (hy : y = some (.int .i64 (hi : Int)) ∨ (y = none ∧ hi = n)) : pSlSl sz v x y K := by
  have hc : ∀ (c : Nat) (Kb : Nat → Nat → Prop), n ≤ c → Kb lo hi → pBounds n c x y Kb := by
    intro c Kb hnc hk
    rcases hx with rfl | ⟨rfl, rfl⟩ <;> rcases hy with rfl | ⟨rfl, rfl⟩
    · rw [pBounds_11]; exact ⟨by omega, by omega, by omega, by omega, by simpa using hk⟩
    · rw [pBounds_10]; exact ⟨by omega, by omega, by simpa using hk⟩
    · rw [pBounds_01]; exact ⟨by omega, by omega, by simpa using hk⟩
    · rw [pBounds_00]; exact hk
  rcases h with ⟨rfl, rfl⟩ | ⟨a, m, cap, rfl, hm, hcap, hr⟩
  · have hn0 : n = 0 := by
      rcases Nat.eq_zero_or_pos n with h | h
      · exact h
      · have := Nat.mul_pos h hz
        simp only [List.length_nil] at hn
        omega
    subst hn0
    have : hi = 0 := by omega
    subst this
    have : lo = 0 := by omega
    subst this
    rw [pSlSl_v]
    refine hc 0 _ (Nat.le_refl _) ?_
    exact hk _ (.inl ⟨by simp, by simp⟩)
  · have hmn := Nat.eq_of_mul_eq_mul_right hz (hm.symm.trans hn)
    subst hmn
    rw [pSlSl_v]
    refine hc cap _ hcap ?_
    refine hk _ (.inr ⟨if cap = lo then a else a.add (lo * sz), hi - lo, cap - lo, by split <;> rfl, ?_, by omega, ?_⟩)
    · rw [List.length_take, List.length_drop, hm]
      have : (hi - lo) * sz ≤ m * sz - lo * sz := by
        rw [← Nat.sub_mul]; exact Nat.mul_le_mul_right sz (by omega)
      omega
    · split
      · rename_i he
        subst he
        have : hi - cap = 0 := by omega
        rw [this, Nat.zero_mul, List.take_zero]
        intro i w hw; simp at hw
      · exact hr.part _ _
theorem Own.store {H : Heap} {v x : Value} {l : List Value} {K : Value → Heap → Prop} (h : Own H v 1 l) (hx : oneCell x = true) {i : Int} (h0 : 0 ≤ i) (h1 : i < (l.length : Int))
    (hk : ∀ H', Own H' v 1 (l.set i.toNat x) → (∀ j, j < H.size → blkOf v ≠ some j → H'[j]? = H[j]?) → H'.size = H.size → K undef H') : pIdxSl 1 v (.int .i64 i) fun p => pStore H p x K := by
  rcases h with ⟨rfl, rfl⟩ | ⟨b, n, cap, sp, rfl, ⟨t, fr, hb, hf⟩, hl, hc⟩
  · simp only [List.length_nil] at h1; omega
  · rw [pIdxSl_v]
    refine ⟨h0, by omega, ?_⟩
    rw [Nat.mul_one, add_mk, Nat.zero_add]
    have hlt : i.toNat < (l ++ sp).length := by rw [List.length_append]; omega
    have hs := setsAt_thaw hf [x] H i.toNat 0 (l ++ sp) hb (by simp [hx]) (by simp only [List.length_cons, List.length_nil]; omega) hc
    simp only [pStore, hs, Nat.add_zero, putL_cons, putL_nil]
    refine hk _ (.inr ⟨b, n, cap, sp, rfl, ⟨⟨t, fr, ?_, hf⟩, by simpa using hl, by simpa using hc⟩⟩) (fun j hj hne => get_set_ne (by intro e; subst e; simp [blkOf] at hne)) (by simp)
    rw [get_set_self (lt_of_blk hb), List.set_append_left _ _ (by omega)]
theorem own_build1 {H : Heap} {e : TypeId} {sz : Nat} {zero : List Value} {x : Value} {K : Value → Heap → Prop} (hzero : zero.length = sz) (hx : x.cells.size = sz)
    (hk : ∀ y H', Sl H' y sz x.cells.toList → Ext H H' → blkOf y = some H.size → K y H') : pBuildSl H e 1 zero [(0, sz, x)] K := by
  have hp : putL zero 0 x.cells.toList = x.cells.toList := by
    have := putL_all x.cells.toList [] zero (by simp [hzero, hx])
    simpa using this
  simp only [pBuildSl, pBuild_c, pBuild_n, hp, cells_agg]
  refine ⟨hx, by omega, ?_⟩
  refine hk _ _ (.inr ⟨_, 1, 1, rfl, by simp [hx], Nat.le_refl _, fun i w hw => ?_⟩) (Ext.refl H).push ?_
  · rw [add_mk, Nat.zero_add, cellAt_blk get_push_self, List.getElem?_toArray]; exact hw
  · rfl
theorem Sl.other {H H' : Heap} {v : Value} {sz : Nat} {l : List Value} {b' : Option Nat} (h : Sl H v sz l) (hx : ∀ i, i < H.size → b' ≠ some i → H'[i]? = H[i]?) (hb : blkOf v ≠ b' ∨ blkOf v = none) : Sl H' v sz l := by
  rcases h with h | ⟨a, n, cap, rfl, h1, h2, h3⟩
  · exact .inl h
  · refine .inr ⟨a, n, cap, rfl, h1, h2, fun i w hw => ?_⟩
    have hc := h3 i w hw
    have hbl : (a.add i).block = a.block := by unfold Addr.add; split <;> rfl
    unfold cellAt at hc ⊢
    rw [hbl] at hc ⊢
    have hl : a.block < H.size := by
      rcases Nat.lt_or_ge a.block H.size with h' | h'
      · exact h'
      · rw [Array.getElem?_eq_none h'] at hc; cases hc
    rw [hx a.block hl (by
      rcases hb with hb | hb
      · exact fun e => hb (by rw [e]; rfl)
      · simp [blkOf] at hb)]
    exact hc
structure Two2 (sz : Nat) (H0 H : Heap) (a b : Value) (la lb : List Value) : Prop where
  oa : Own H a sz la
  ob : Own H b sz lb
  ext : Ext H0 H
  fa : ∀ k, blkOf a = some k → H0.size ≤ k
  fb : ∀ k, blkOf b = some k → H0.size ≤ k
  sep : ∀ k, blkOf a = some k → blkOf b ≠ some k
theorem Two2.symm {sz : Nat} {H0 H : Heap} {a b : Value} {la lb : List Value} (h : Two2 sz H0 H a b la lb) : Two2 sz H0 H b a lb la :=
  ⟨h.ob, h.oa, h.ext, h.fb, h.fa, fun k hk hk' => h.sep k hk' hk⟩
theorem Two2.more {sz : Nat} {H0 H H' : Heap} {a b : Value} {la lb : List Value} (h : Two2 sz H0 H a b la lb) (hx : Ext H H') : Two2 sz H0 H' a b la lb :=
  ⟨h.oa.ext hx, h.ob.ext hx, h.ext.trans hx, h.fa, h.fb, h.sep⟩
theorem Two2.step {sz : Nat} {H0 H H' : Heap} {a b a' : Value} {la lb la' : List Value} (h : Two2 sz H0 H a b la lb) (o : Own H' a' sz la') (hi : ∀ i, i < H.size → blkOf a ≠ some i → H'[i]? = H[i]?) (hs : H.size ≤ H'.size) (hk : blkOf a' = blkOf a ∨ blkOf a' = some H.size) : Two2 sz H0 H' a' b la' lb := by
  refine ⟨o, h.ob.other hi ?_, ext_of_own h.ext h.fa hi hs, fun k e => ?_, h.fb, fun k e e' => ?_⟩
  · cases hb : blkOf b with
    | none => exact .inr rfl
    | some k => exact .inl fun e => h.sep k e.symm hb
  · rcases hk with hk | hk
    · exact h.fa k (hk ▸ e)
    · rw [hk, Option.some.injEq] at e; have := h.ext.size; omega
  · rcases hk with hk | hk
    · exact h.sep k (hk ▸ e) e'
    · rw [hk, Option.some.injEq] at e; have := h.ob.lt e'; omega
theorem Two2.append {sz bytes n : Nat} {H0 H : Heap} {a b y : Value} {la lb new zero : List Value} {e : TypeId} {K : Value → Heap → Prop} (h : Two2 sz H0 H a b la lb) (hz : 0 < sz) (hzero : zero.length = sz) (hy : Sl H y sz new) (hn : new.length = 1 * sz) (hone : new.all oneCell = true)
    (hl : la.length = n * sz) (hsize : 2 * (n + 1) * bytes ≤ 281474976710656) (hk : ∀ a' H', Two2 sz H0 H' a' b (la ++ new) lb → (∀ i, i < H.size → blkOf a ≠ some i → H'[i]? = H[i]?) → K a' H') : pAppend H e sz bytes zero a y K :=
  Own.append h.oa hz hzero (hy.lenV hn hz) hy.cellsOf hl hn hone hsize fun a' H' o i s k => hk a' H' (h.step o i s k) i
end Go.Vc
set_option linter.unusedSimpArgs false
set_option linter.unusedVariables false
namespace Go.Vc
open Go
theorem flat_len {n : Nat} : ∀ (L : List (List Value)), (∀ r ∈ L, r.length = n) → L.flatten.length = L.length * n
  | [], _ => by simp
  | u :: L, hl => by
    have hu := hl u (by simp)
    rw [List.flatten_cons, List.length_append, flat_len L (fun r hr => hl r (by simp [hr])), hu, List.length_cons, Nat.succ_mul]
    omega
end Go.Vc
set_option linter.unusedSimpArgs false
set_option linter.unusedVariables false
namespace Go.Vc
open Go
structure Keys (α : Type) (kind : Nat) where
  κ : α → Value
  dec : DecidableEq α
  eq : ∀ a b : α, eqK kind (κ a) (κ b) = some (@decide (a = b) (dec a b))
theorem Keys.inj {α : Type} {kind : Nat} (κ : Keys α kind) {a b : α} (h : κ.κ a = κ.κ b) : a = b := by
  have h1 := κ.eq a b
  rw [h, κ.eq b b, @decide_eq_true (b = b) (κ.dec b b) rfl] at h1
  simp only [Option.some.injEq] at h1
  exact @of_decide_eq_true (a = b) (κ.dec a b) h1.symm
def MapAt {α : Type} {kind : Nat} (κ : Keys α kind) (H : Heap) (r : Nat) (m : α → Option Value) : Prop :=
  ∃ (es : Array MapEntry) (clock : Nat) (ks : List α), H[r]? = some (.map es clock) ∧ MapKept.Stamped es clock ∧ es.toList.map (·.key) = ks.map κ.κ ∧ ks.Nodup ∧
    (∀ (j : Nat) (e : MapEntry) (k : α), es.toList[j]? = some e → ks[j]? = some k → m k = some e.val) ∧ ∀ k, k ∉ ks → m k = none
section
variable {α : Type} {kind : Nat} {κ : Keys α kind}
theorem findE_no {k : α} : ∀ (l : List MapEntry) (ks : List α) (i : Nat), l.map (·.key) = ks.map κ.κ → k ∉ ks → findE kind (κ.κ k) l i = some none
  | [], ks, i, _, _ => rfl
  | e :: l, [], i, h, _ => by simp at h
  | e :: l, a :: ks, i, h, hk => by
    simp only [List.map_cons, List.cons.injEq] at h
    have hne : k ≠ a := fun e => hk (by simp [e])
    have hd : @decide (k = a) (κ.dec k a) = false := by
      cases hdec : κ.dec k a with
      | isTrue ht => exact absurd ht hne
      | isFalse hf => rfl
    simp only [findE, h.1, κ.eq, hd]
    exact findE_no l ks (i + 1) h.2 (fun h' => hk (by simp [h']))
theorem findE_yes {k : α} : ∀ (l : List MapEntry) (ks : List α) (i : Nat), l.map (·.key) = ks.map κ.κ → k ∈ ks → ∃ (j : Nat) (e : MapEntry), l[j]? = some e ∧ ks[j]? = some k ∧ findE kind (κ.κ k) l i = some (some (i + j, e.val))
  | [], [], i, _, hk => by simp at hk
  | [], a :: ks, i, h, _ => by simp at h
  | e :: l, [], i, h, _ => by simp at h
  | e :: l, a :: ks, i, h, hk => by
    simp only [List.map_cons, List.cons.injEq] at h
    by_cases he : k = a
    · subst he
      have hd : @decide (k = k) (κ.dec k k) = true := by
        cases hdec : κ.dec k k with
        | isTrue ht => rfl
        | isFalse hf => exact absurd rfl hf
      refine ⟨0, e, rfl, rfl, ?_⟩
      show (match eqK kind (κ.κ k) e.key with | some true => some (some (i, e.val)) | some false => findE kind (κ.κ k) l (i + 1) | none => none) = _
      rw [h.1, κ.eq, hd]
      rfl
    · have hd : @decide (k = a) (κ.dec k a) = false := by
        cases hdec : κ.dec k a with
        | isTrue ht => exact absurd ht he
        | isFalse hf => rfl
      obtain ⟨j, e', h1, h2, h3⟩ := findE_yes l ks (i + 1) h.2 (by
        rcases List.mem_cons.1 hk with h' | h'
        · exact absurd h' he
        · exact h')
      refine ⟨j + 1, e', h1, h2, ?_⟩
      simp only [findE, h.1, κ.eq, hd]
      rw [h3, show i + 1 + j = i + (j + 1) by omega]
variable {H : Heap} {r : Nat} {m : α → Option Value}
theorem MapAt.ext {H' : Heap} (h : MapAt κ H r m) (hx : Ext H H') : MapAt κ H' r m := by
  obtain ⟨es, c, ks, h1, h2⟩ := h
  exact ⟨es, c, ks, hx.blk h1, h2⟩
theorem MapAt.keep {H' : Heap} (h : MapAt κ H r m) (hx : H'[r]? = H[r]?) : MapAt κ H' r m := by
  obtain ⟨es, c, ks, h1, h2⟩ := h
  exact ⟨es, c, ks, hx.trans h1, h2⟩
theorem MapAt.lt (h : MapAt κ H r m) : r < H.size := by
  obtain ⟨es, c, ks, h1, h2⟩ := h
  exact lt_of_blk h1
theorem MapAt.lookup (h : MapAt κ H r m) {k : α} {zero : Value} {ok : Bool} {K : Value → Prop} (hk : K (bif ok then .tuple #[(m k).getD zero, .bool (m k).isSome] else (m k).getD zero)) : pLookup H kind zero ok (.map (some r)) (κ.κ k) K := by
  obtain ⟨es, c, ks, h1, hst, h2, h3, h4, h5⟩ := h
  by_cases hm : k ∈ ks
  · obtain ⟨j, e, g1, g2, g3⟩ := findE_yes (κ := κ) es.toList ks 0 h2 hm
    simp only [pLookup, entriesAt, h1, g3]
    rw [h4 j e k g1 g2] at hk
    exact hk
  · simp only [pLookup, entriesAt, h1, findE_no (κ := κ) es.toList ks 0 h2 hm]
    rw [h5 k hm] at hk
    exact hk
def mset (κ : Keys α kind) (m : α → Option Value) (k : α) (v : Option Value) : α → Option Value := fun x => if @decide (x = k) (κ.dec x k) = true then v else m x
theorem mset_self (k : α) (v : Option Value) : mset κ m k v k = v := by
  unfold mset
  rw [if_pos]
  cases hdec : κ.dec k k with
  | isTrue ht => rfl
  | isFalse hf => exact absurd rfl hf
theorem mset_ne {k x : α} (v : Option Value) (h : x ≠ k) : mset κ m k v x = m x := by
  unfold mset
  rw [if_neg]
  cases hdec : κ.dec x k with
  | isTrue ht => exact absurd ht h
  | isFalse hf => exact Bool.false_ne_true
theorem nodup_get {ks : List α} (h : ks.Nodup) {i j : Nat} {k : α} (hi : ks[i]? = some k) (hj : ks[j]? = some k) : i = j := by
  exact (List.getElem?_inj (List.getElem?_eq_some_iff.1 hi).1 h).1 (hi.trans hj.symm)
theorem map_erase {β γ : Type} (f : β → γ) (l : List β) (j : Nat) : (l.eraseIdx j).map f = (l.map f).eraseIdx j := by
  apply List.ext_getElem?
  intro i
  simp only [List.getElem?_map, List.getElem?_eraseIdx]
  split <;> rfl
theorem MapAt.set (h : MapAt κ H r m) {k : α} {v : Value} {KE : Value → Heap → Prop} (hk : ∀ H', MapAt κ H' r (mset κ m k (some v)) → H'.size = H.size → (∀ i, i ≠ r → H'[i]? = H[i]?) → KE undef H') : pMapSet H kind (.map (some r)) (κ.κ k) v KE := by
  have hr := h.lt
  obtain ⟨es, c, ks, h1, hst, h2, h3, h4, h5⟩ := h
  by_cases hm : k ∈ ks
  · obtain ⟨j, e, g1, g2, g3⟩ := findE_yes (κ := κ) es.toList ks 0 h2 hm
    rw [Nat.zero_add] at g3
    simp only [pMapSet, h1, g3]
    refine hk _ ⟨_, c, ks, get_set_self hr, ?_, ?_, h3, ?_, ?_⟩ (by simp) (fun i hi => get_set_ne (Ne.symm hi))
    · refine MapKept.stamped_modify hst j _ (fun _ _ => rfl) (fun e' _ he' => ?_)
      have h1' : es[j]? = some e := by rw [← Array.getElem?_toList]; exact g1
      rw [h1', Option.some.injEq] at he'
      subst he'
      have : (ks.map κ.κ)[j]? = some (κ.κ k) := by simp [g2]
      rw [← h2, List.getElem?_map, g1] at this
      simp only [Option.map_some, Option.some.injEq] at this
      exact this.symm
    · rw [← h2]
      apply List.ext_getElem?
      intro i
      simp only [Array.toList_modify, List.getElem?_map, List.getElem?_modify]
      by_cases hij : j = i
      · subst hij
        rw [g1]
        have : (ks.map κ.κ)[j]? = some (κ.κ k) := by simp [g2]
        rw [← h2, List.getElem?_map, g1] at this
        simp only [Option.map_some, Option.some.injEq] at this
        simp [this]
      · simp only [if_neg hij]; cases es.toList[i]? <;> rfl
    · intro i e' k' he hk'
      rw [Array.toList_modify, List.getElem?_modify] at he
      by_cases hij : j = i
      · subst hij
        rw [g2, Option.some.injEq] at hk'
        subst hk'
        rw [mset_self]
        rw [g1] at he
        simp at he
        rw [← he]
      · have hne : k' ≠ k := fun e => hij (nodup_get h3 g2 (e ▸ hk'))
        rw [mset_ne _ hne]
        have : es.toList[i]? = some e' := by
          simp only [if_neg hij] at he
          cases hh : es.toList[i]? with
          | none => rw [hh] at he; cases he
          | some x => rw [hh] at he; simpa using he
        exact h4 i e' k' this hk'
    · intro x hx
      rw [mset_ne _ (show x ≠ k from fun e => hx (by rw [e]; exact hm))]
      exact h5 x hx
  · simp only [pMapSet, h1, findE_no (κ := κ) es.toList ks 0 h2 hm]
    refine hk _ ⟨_, c + 1, ks ++ [k], get_set_self hr, MapKept.stamped_push hst (fun x hx e => hm (by
      have h' : x.key ∈ es.toList.map (fun y => y.key) := List.mem_map.2 ⟨x, hx, rfl⟩
      rw [h2, e] at h'
      obtain ⟨a, ha, hae⟩ := List.mem_map.1 h'
      rw [← κ.inj hae]; exact ha)), by simp [h2], ?_, ?_, ?_⟩ (by simp) (fun i hi => get_set_ne (Ne.symm hi))
    · rw [List.nodup_append]
      exact ⟨h3, by simp, fun a ha b hb => by simp only [List.mem_singleton] at hb; subst hb; intro e; exact hm (e ▸ ha)⟩
    · have hlen : es.toList.length = ks.length := by have := congrArg List.length h2; simpa using this
      intro i e' k' he hk'
      rw [Array.toList_push] at he
      by_cases hi : i < ks.length
      · rw [List.getElem?_append_left (by omega)] at he hk'
        have hne : k' ≠ k := fun e => hm (e ▸ List.mem_of_getElem? hk')
        rw [mset_ne _ hne]
        exact h4 i e' k' he hk'
      · rw [List.getElem?_append_right (by omega)] at he hk'
        have hi2 : i = ks.length := by
          rcases Nat.lt_or_ge ks.length i with h' | h'
          · rw [List.getElem?_eq_none (by simp; omega)] at hk'; cases hk'
          · omega
        subst hi2
        rw [Nat.sub_self, List.getElem?_cons_zero, Option.some.injEq] at hk'
        rw [hlen, Nat.sub_self, List.getElem?_cons_zero, Option.some.injEq] at he
        subst hk'
        rw [mset_self, ← he]
    · intro x hx
      have : x ≠ k := fun e => hx (by simp [e])
      rw [mset_ne _ this]
      exact h5 x (fun h' => hx (by simp [h']))
theorem MapAt.delete (h : MapAt κ H r m) {k : α} {KE : Value → Heap → Prop} (hk : ∀ H', MapAt κ H' r (mset κ m k none) → H'.size = H.size → (∀ i, i ≠ r → H'[i]? = H[i]?) → KE (.tuple #[]) H') : pDelete H kind (.map (some r)) (κ.κ k) KE := by
  have hr := h.lt
  obtain ⟨es, c, ks, h1, hst, h2, h3, h4, h5⟩ := h
  by_cases hm : k ∈ ks
  · obtain ⟨j, e, g1, g2, g3⟩ := findE_yes (κ := κ) es.toList ks 0 h2 hm
    rw [Nat.zero_add] at g3
    have hj : j < es.size := by have := (List.getElem?_eq_some_iff.1 g1).1; simpa using this
    simp only [pDelete, h1, g3]
    have he : (es.eraseIdxIfInBounds j).toList = es.toList.eraseIdx j := by
      rw [Array.eraseIdxIfInBounds, dif_pos hj]
      simp
    refine hk _ ⟨_, c, ks.eraseIdx j, get_set_self hr, MapKept.stamped_erase hst j, ?_, h3.eraseIdx j, ?_, ?_⟩ (by simp) (fun i hi => get_set_ne (Ne.symm hi))
    · rw [he, map_erase, h2, ← map_erase]
    · intro i e' k' hi hk'
      rw [he, List.getElem?_eraseIdx] at hi
      rw [List.getElem?_eraseIdx] at hk'
      have hget : ∃ i', i' ≠ j ∧ es.toList[i']? = some e' ∧ ks[i']? = some k' := by
        by_cases hij : i < j
        · rw [if_pos hij] at hi hk'; exact ⟨i, by omega, hi, hk'⟩
        · rw [if_neg hij] at hi hk'; exact ⟨i + 1, by omega, hi, hk'⟩
      obtain ⟨i', hne', q1, q2⟩ := hget
      have hne : k' ≠ k := fun e => hne' (nodup_get h3 (e ▸ q2) g2)
      rw [mset_ne _ hne]
      exact h4 i' e' k' q1 q2
    · intro x hx
      by_cases hxk : x = k
      · subst hxk; exact mset_self _ _
      · rw [mset_ne _ hxk]
        refine h5 x (fun hin => hx ?_)
        obtain ⟨i, hi⟩ := List.getElem?_of_mem hin
        have hij : i ≠ j := fun e => by subst e; rw [g2, Option.some.injEq] at hi; exact hxk hi.symm
        rw [List.mem_iff_getElem?]
        by_cases hlt : i < j
        · exact ⟨i, by rw [List.getElem?_eraseIdx, if_pos hlt]; exact hi⟩
        · exact ⟨i - 1, by rw [List.getElem?_eraseIdx, if_neg (by omega), show i - 1 + 1 = i by omega]; exact hi⟩
  · simp only [pDelete, h1, findE_no (κ := κ) es.toList ks 0 h2 hm]
    refine hk H ⟨es, c, ks, h1, hst, h2, h3, fun j e k' he hk' => ?_, fun x hx => ?_⟩ rfl (fun _ _ => rfl)
    · rw [mset_ne _ (show k' ≠ k from fun e => hm (by rw [← e]; exact List.mem_of_getElem? hk'))]; exact h4 j e k' he hk'
    · by_cases hxk : x = k
      · subst hxk; exact mset_self _ _
      · rw [mset_ne _ hxk]; exact h5 x hx
theorem MapAt.clear (h : MapAt κ H r m) {KE : Value → Heap → Prop} (hk : ∀ H', MapAt κ H' r (fun _ => none) → H'.size = H.size → (∀ i, i ≠ r → H'[i]? = H[i]?) → KE (.tuple #[]) H') : pClearM H (.map (some r)) KE := by
  have hr := h.lt
  obtain ⟨es, c, ks, h1, hst, h2, h3, h4, h5⟩ := h
  simp only [pClearM, h1]
  exact hk _ ⟨#[], c, [], get_set_self hr, MapKept.stamped_empty _, rfl, List.nodup_nil, by simp, fun _ _ => rfl⟩ (by simp) (fun i hi => get_set_ne (Ne.symm hi))
theorem MapAt.len (h : MapAt κ H r m) {K : Value → Prop} (hk : ∀ ks : List α, ks.Nodup → (∀ k, k ∈ ks ↔ (m k).isSome = true) → K (.int .i64 (ks.length : Int))) : pLenM H (.map (some r)) K := by
  obtain ⟨es, c, ks, h1, hst, h2, h3, h4, h5⟩ := h
  have hl : es.size = ks.length := by have := congrArg List.length h2; simpa using this
  simp only [pLenM, h1, hl]
  refine hk ks h3 fun k => ⟨fun hm => ?_, fun hm => ?_⟩
  · obtain ⟨j, hj⟩ := List.getElem?_of_mem hm
    have hjl := (List.getElem?_eq_some_iff.1 hj).1
    have he : es.toList[j]? = some (es.toList[j]'(by simp; omega)) := List.getElem?_eq_getElem _
    rw [h4 j _ k he hj]; rfl
  · rcases Classical.em (k ∈ ks) with h' | h'
    · exact h'
    · rw [h5 k h'] at hm; cases hm
def Iter {α : Type} {kind : Nat} (κ : Keys α kind) (H : Heap) (it r : Nat) (m : α → Option Value) (done : List α) : Prop :=
  ∃ (es : Array MapEntry) (clock : Nat) (ks : List α) (seen : Array Nat) (c0 : Nat), H[it]? = some (.mapIter (some r) clock seen c0) ∧ clock ≤ c0 ∧ H[r]? = some (.map es clock) ∧ MapKept.Stamped es clock ∧
    es.toList.map (·.key) = ks.map κ.κ ∧ ks.Nodup ∧
    (∀ (j : Nat) (e : MapEntry) (k : α), es.toList[j]? = some e → ks[j]? = some k → m k = some e.val) ∧ (∀ k, k ∉ ks → m k = none) ∧ done.Nodup ∧
    (∀ (j : Nat) (e : MapEntry) (k : α), es.toList[j]? = some e → ks[j]? = some k → (seen.contains e.born = true ↔ k ∈ done)) ∧ (∀ k, k ∈ done → k ∈ ks) ∧
    ∀ k, done.getLast? = some k → c0 = clock ∧ ∃ (j : Nat) (e : MapEntry), es.toList[j]? = some e ∧ ks[j]? = some k ∧ seen.back? = some e.born
def iterLeft (H : Heap) (it : Nat) : Nat := match H[it]? with
  | some (.mapIter (some r) _ seen _) => (match H[r]? with
    | some (.map es _) => (leftOf es seen).size
    | _ => 0)
  | _ => 0
theorem Iter.map {it : Nat} {done : List α} (h : Iter κ H it r m done) : MapAt κ H r m := by
  obtain ⟨es, clock, ks, seen, c0, g1, g2, g3, g4, g5, g6, g7, g8, g9, g10, g11⟩ := h
  exact ⟨es, clock, ks, g3, g4, g5, g6, g7, g8⟩
theorem Iter.lt {it : Nat} {done : List α} (h : Iter κ H it r m done) : it < H.size := by
  obtain ⟨es, clock, ks, seen, c0, g1, _⟩ := h
  exact lt_of_blk g1
theorem Iter.keep {it : Nat} {done : List α} {H' : Heap} (h : Iter κ H it r m done) (h1 : H'[it]? = H[it]?) (h2 : H'[r]? = H[r]?) : Iter κ H' it r m done := by
  obtain ⟨es, clock, ks, seen, c0, g1, g2, g3, g4⟩ := h
  exact ⟨es, clock, ks, seen, c0, h1.trans g1, g2, h2.trans g3, g4⟩
def isMapT (P : Program) (t : TypeId) : Bool := match P.underlying t with
  | some (.map _ _) => true
  | _ => false
theorem MapAt.range {P : Program} (h : MapAt κ H r m) {t : TypeId} (ht : isMapT P t = true) {K : Value → Heap → Prop} (hk : ∀ H', Ext H H' → H'.size = H.size + 1 → Iter κ H' H.size r m [] → K (.pointer (some ⟨H.size, 0, none⟩)) H') : pSem H P (Instr.range t (.map (some r))) K := by
  obtain ⟨es, c, ks, h1, hst, h2, h3, h4, h5⟩ := h
  intro w hw
  subst hw
  obtain ⟨k, e, ht⟩ : ∃ k e, P.underlying t = some (.map k e) := by
    unfold isMapT at ht
    split at ht
    · exact ⟨_, _, by assumption⟩
    · cases ht
  rw [run_range_map w t k e r es c ht h1]
  have hx : Ext w.heap (w.heap.push (.mapIter (some r) c #[] c)) := (Ext.refl _).push
  refine ⟨⟨rfl, rfl, rfl, by first | exact Nat.le_refl _ | exact Nat.le_succ _⟩, hk _ hx (by simp) ⟨es, c, ks, #[], c, get_push_self, Nat.le_refl _, hx.blk h1, hst, h2, h3, h4, h5, List.nodup_nil, ?_, by simp, by simp⟩⟩
  intro j e k _ _
  simp
theorem filter_none {α : Type} {p : α → Bool} {L : Array α} (h : (L.filter p).size = 0) : ∀ x ∈ L.toList, p x = false := by
  intro x hx
  have h2 : L.filter p = #[] := Array.eq_empty_of_size_eq_zero h
  rw [Array.filter_eq_empty_iff] at h2
  have := h2 x (Array.mem_toList_iff.1 hx)
  simpa using this
theorem Iter.next {P : Program} {it : Nat} {done : List α} (h : Iter κ H it r m done) {ty : TypeId} {K : Value → Heap → Prop} (hover : (∀ k, (m k).isSome = true → k ∈ done) → K (.tuple #[.bool false]) H)
    (hk : ∀ k v H', k ∉ done → m k = some v → Iter κ H' it r m (done ++ [k]) → (∀ i, i ≠ it → H'[i]? = H[i]?) → H'.size = H.size → iterLeft H' it < iterLeft H it → K (.tuple #[.bool true, κ.κ k, v]) H') : pSem H P (Instr.next (.pointer (some ⟨it, 0, none⟩)) false ty) K := by
  have hlt := h.lt
  obtain ⟨es, clock, ks, seen, c0, g1, g2, g3, g4, g5, g6, g7, g8, g9, g10, g11, g12⟩ := h
  have hlen : es.size = ks.length := by have := congrArg List.length g5; simpa using this
  intro w hw
  subst hw
  have hold := g4.1
  simp only [Instr.next, getObj, Sem.run_bind, Sem.run, g1, g3, Result.andThen, next_test_false seen es clock c0 hold g2, Bool.false_eq_true, if_false]
  have hLdef : Array.filter (fun e => !seen.contains e.born) es = leftOf es seen := rfl
  rw [hLdef]
  have hmem : ∀ x ∈ (leftOf es seen).toList, x.born < clock := fun x hx => hold x (mem_left hx).1
  have e1 : (leftOf es seen).filter (fun x => decide (x.born < clock)) = leftOf es seen := Array.filter_eq_self.2 (fun x hx => by simpa using hmem x (by simpa using hx))
  have e2 : (leftOf es seen).filter (fun x => decide (x.born ≥ clock)) = #[] := by
    rw [Array.filter_eq_empty_iff]
    intro x hx
    have := hmem x (by simpa using hx)
    simp
    omega
  simp only [e1, e2, Array.append_empty]
  by_cases h0 : (leftOf es seen).size = 0
  · have hL : leftOf es seen = #[] := Array.eq_empty_of_size_eq_zero h0
    rw [hL]
    simp [choose, Sem.run, Question.forced]
    refine ⟨⟨rfl, rfl, rfl, by first | exact Nat.le_refl _ | exact Nat.le_succ _⟩, hover fun k hk => ?_⟩
    rcases Classical.em (k ∈ ks) with hm | hm
    · obtain ⟨j, hj⟩ := List.getElem?_of_mem hm
      have hjl := (List.getElem?_eq_some_iff.1 hj).1
      have he : es.toList[j]? = some (es.toList[j]'(by simp; omega)) := List.getElem?_eq_getElem _
      have hns := filter_none h0 (es.toList[j]'(by simp; omega)) (List.getElem_mem _)
      simp only [Bool.not_eq_false'] at hns
      exact (g10 j _ k he hj).1 hns
    · rw [g8 k hm] at hk; cases hk
  · have hne : (leftOf es seen).isEmpty = false := by simp [Array.isEmpty, h0]
    simp only [hne, Bool.false_eq_true, if_false, Array.empty_append, Array.size_map]
    have hch : ∃ (j : Nat) (w1 : World), j < (leftOf es seen).size ∧ (w1.Alike w ∧ w1.tape = w.tape ∧ w.drawn ≤ w1.drawn) ∧ (choose (Question.mapNext (leftOf es seen).size)).run P w = .ok j w1 := by
      by_cases hf : (leftOf es seen).size ≤ 1
      · exact ⟨0, w, by omega, ⟨⟨rfl, rfl, rfl⟩, rfl, Nat.le_refl _⟩, by simp [choose, Sem.run, Question.forced, hf]⟩
      · exact ⟨_, w.drew, Nat.mod_lt _ (by omega), ⟨⟨rfl, rfl, rfl⟩, rfl, Nat.le_succ _⟩, by
          simp only [choose, Sem.run, Question.forced, decide_eq_true_eq, hf, if_false, Question.cut]
          rfl⟩
    obtain ⟨j, w1, hj, ⟨hal, htp, hdr⟩, hrun⟩ := hch
    have hset : (setObj it (.mapIter (some r) clock (seen.push (leftOf es seen)[j].born) clock)).run P w1 = .ok () { w1 with heap := w1.heap.setIfInBounds it (.mapIter (some r) clock (seen.push (leftOf es seen)[j].born) clock) } := by
      simp only [setObj, Sem.run]
      rw [hal.1, g1]
    simp only [hrun, Array.getElem?_map, Array.getElem?_eq_getElem hj, Option.map_some, Sem.run_bind, hset, Result.andThen]
    have hin : (leftOf es seen)[j] ∈ (leftOf es seen).toList := by simp
    have hin2 := mem_left hin
    obtain ⟨j', hj'⟩ := List.getElem?_of_mem hin2.1
    have hj'l : j' < ks.length := by have := (List.getElem?_eq_some_iff.1 hj').1; simp at this; omega
    have hkj : ks[j']? = some ks[j'] := List.getElem?_eq_getElem hj'l
    have hkey : (leftOf es seen)[j].key = κ.κ ks[j'] := by
      have h' : (es.toList.map (·.key))[j']? = some (leftOf es seen)[j].key := by rw [List.getElem?_map, hj']; rfl
      rw [g5, List.getElem?_map, hkj] at h'
      simpa using h'.symm
    have hnd : ks[j'] ∉ done := fun hd => by
      have := (g10 j' _ _ hj' hkj).2 hd
      rw [hin2.2] at this; cases this
    refine ⟨⟨by rw [hal.2.1], by rw [hal.2.2], by rw [htp], hdr⟩, ?_⟩
    show K (.tuple #[.bool true, (leftOf es seen)[j].key, (leftOf es seen)[j].val]) (w1.heap.setIfInBounds it _)
    rw [hkey, hal.1]
    have hrne : it ≠ r := fun e => by subst e; rw [g1] at g3; cases g3
    refine hk ks[j'] _ _ hnd (g7 j' _ _ hj' hkj) ⟨es, clock, ks, _, clock, get_set_self hlt, Nat.le_refl _, (get_set_ne hrne).trans g3, g4, g5, g6, g7, g8, ?_, ?_, ?_, ?_⟩ (fun i hi => get_set_ne (Ne.symm hi)) (by simp) ?_
    · rw [List.nodup_append]
      exact ⟨g9, by simp, fun a ha b hb => by simp only [List.mem_singleton] at hb; subst hb; intro e; exact hnd (e ▸ ha)⟩
    · intro i e k he hk'
      rw [contains_push, Bool.or_eq_true, g10 i e k he hk', List.mem_append, List.mem_singleton, beq_iff_eq]
      constructor
      · rintro (h' | h')
        · exact .inl h'
        · right
          have := born_inj g4.2.1 (List.mem_of_getElem? he) hin2.1 h'
          subst this
          have hii : i = j' := by
            have hn : es.toList.Nodup := by
              have := g4.2.1
              exact List.Pairwise.of_map (f := fun x : MapEntry => x.born) (fun a b hab e => hab (by rw [e])) this
            exact nodup_get hn he hj'
          subst hii
          rw [hkj, Option.some.injEq] at hk'
          exact hk'.symm
      · rintro (h' | h')
        · exact .inl h'
        · right
          rw [h'] at hk'
          have hii := nodup_get g6 hk' hkj
          subst hii
          rw [he, Option.some.injEq] at hj'
          rw [hj']
    · intro k hk'
      rcases List.mem_append.1 hk' with h' | h'
      · exact g11 k h'
      · simp only [List.mem_singleton] at h'; rw [h']; exact List.getElem_mem _
    · intro k hk'
      rw [List.getLast?_concat, Option.some.injEq] at hk'
      subst hk'
      exact ⟨rfl, j', _, hj', hkj, by simp⟩
    · simp only [iterLeft, get_set_self hlt, get_set_ne hrne, g3, g1]
      exact left_shrinks es seen _ hin
theorem Iter.entry {P : Program} {it : Nat} {done : List α} {k : α} {v : Value} (h : Iter κ H it r m (done ++ [k])) (hv : m k = some v) {K : Value → Heap → Prop} (hk : K (.tuple #[κ.κ k, v]) H) : pSem H P (Instr.entry (.pointer (some ⟨it, 0, none⟩))) K := by
  obtain ⟨es, clock, ks, seen, c0, g1, g2, g3, g4, g5, g6, g7, g8, g9, g10, g11, g12⟩ := h
  obtain ⟨rfl, j, e, h1, h2, h3⟩ := g12 k (by simp)
  intro w hw
  subst hw
  have hf : es.find? (·.born == e.born) = some e := by rw [← Array.find?_toList]; exact find_born e es.toList g4.2.1 (List.mem_of_getElem? h1)
  simp only [Instr.entry, getObj, Sem.run_bind, Sem.run, g1, g3, Result.andThen, h3, bne_self_eq_false, Bool.false_eq_true, if_false, hf]
  have hkey : e.key = κ.κ k := by
    have h' : (es.toList.map (·.key))[j]? = some e.key := by rw [List.getElem?_map, h1]; rfl
    rw [g5, List.getElem?_map, h2] at h'
    simpa using h'.symm
  have hval : e.val = v := by
    have := g7 j e k h1 h2
    rw [hv, Option.some.injEq] at this
    exact this.symm
  refine ⟨⟨rfl, rfl, rfl, by first | exact Nat.le_refl _ | exact Nat.le_succ _⟩, ?_⟩
  rw [hkey, hval]
  exact hk
end
end Go.Vc
set_option linter.unusedSimpArgs false
set_option linter.unusedVariables false
namespace Go.Vc
open Go
theorem arr_inj {l m : List Value} (h : l.toArray = m.toArray) : l = m := by simpa using congrArg Array.toList h
def Sub (H : Heap) (b o : Nat) (cs : List Value) : Prop := ∃ (pre post : List Value) (t : TypeId), pre.length = o ∧ H[b]? = some (.cells (pre ++ cs ++ post).toArray t (0, 0))
structure Chg (b o n : Nat) (F F' : Nat → Prop) (H H' : Heap) : Prop where
  size : H.size ≤ H'.size
  ne : ∀ i, i < H.size → i ≠ b → ¬ F i → H'[i]? = H[i]?
  blk : ∀ (cs : List Value) (t : TypeId) (fr : Nat × Nat), H[b]? = some (.cells cs.toArray t fr) → ∃ cs' : List Value, H'[b]? = some (.cells cs'.toArray t fr) ∧ cs'.length = cs.length ∧ ∀ j, (j < o ∨ o + n ≤ j) → cs'[j]? = cs[j]?
  new : ∀ k, F' k → F k ∨ H.size ≤ k
abbrev none_ : Nat → Prop := fun _ => False
abbrev blkS (v : Value) : Nat → Prop := fun k => blkOf v = some k
theorem Chg.refl {b o n : Nat} {F : Nat → Prop} {H : Heap} : Chg b o n F F H H := ⟨Nat.le_refl _, fun _ _ _ _ => rfl, fun cs t fr h => ⟨cs, h, rfl, fun _ _ => rfl⟩, fun k h => .inl h⟩
theorem Chg.trans {b o n : Nat} {F F' F'' : Nat → Prop} {H H' H'' : Heap} (h : Chg b o n F F' H H') (k : Chg b o n F' F'' H' H'') : Chg b o n F F'' H H'' :=
  ⟨Nat.le_trans h.size k.size, fun i hi hb hF => (k.ne i (Nat.lt_of_lt_of_le hi h.size) hb (fun e => by
      rcases h.new i e with h' | h'
      · exact hF h'
      · omega)).trans (h.ne i hi hb hF), fun cs t fr hc => by
    obtain ⟨c1, h1, h2, h3⟩ := h.blk cs t fr hc
    obtain ⟨c2, g1, g2, g3⟩ := k.blk c1 t fr h1
    exact ⟨c2, g1, g2.trans h2, fun j hj => (g3 j hj).trans (h3 j hj)⟩, fun i hi => by
    rcases k.new i hi with h' | h'
    · exact h.new i h'
    · right; have := h.size; omega⟩
theorem Chg.weak {b o n : Nat} {F F' G G' : Nat → Prop} {H H' : Heap} (h : Chg b o n F F' H H') (h1 : ∀ k, F k → G k) (h2 : ∀ k, G' k → F' k ∨ G k ∨ H.size ≤ k) : Chg b o n G G' H H' :=
  ⟨h.size, fun i hi hb hG => h.ne i hi hb (fun e => hG (h1 i e)), h.blk, fun k hk => by
    rcases h2 k hk with h' | h' | h'
    · rcases h.new k h' with h'' | h''
      · exact .inl (h1 k h'')
      · exact .inr h''
    · exact .inl h'
    · exact .inr h'⟩
theorem Chg.any {b o n : Nat} {G : Nat → Prop} {H H' : Heap} (h : Chg b o n none_ none_ H H') : Chg b o n G G H H' := h.weak (fun _ h => h.elim) (fun _ h => .inr (.inl h))
theorem Chg.ext {A H H' : Heap} {b o n : Nat} {F F' : Nat → Prop} (h : Chg b o n F F' H H') (hx : Ext A H) (hb : A.size ≤ b) (hF : ∀ k, F k → A.size ≤ k) : Ext A H' ∧ ∀ k, F' k → A.size ≤ k :=
  ⟨⟨Nat.le_trans hx.size h.size, fun i hi => (h.ne i (Nat.lt_of_lt_of_le hi hx.size) (by omega) (fun e => by have := hF i e; omega)).trans (hx.get i hi)⟩, fun k hk => by
    rcases h.new k hk with h' | h'
    · exact hF k h'
    · have := hx.size; omega⟩
theorem Chg.keep {b o n c : Nat} {F F' : Nat → Prop} {H H' : Heap} {ob : Obj} (h : Chg b o n F F' H H') (hc : H[c]? = some ob) (h1 : c ≠ b) (h2 : ¬ F c) : H'[c]? = some ob := (h.ne c (lt_of_blk hc) h1 h2).trans hc
theorem Chg.sl {b o n sz : Nat} {F F' : Nat → Prop} {H H' : Heap} {v : Value} {l : List Value} (h : Chg b o n F F' H H') (hs : Sl H v sz l) (h1 : blkOf v ≠ some b) (h2 : ∀ k, blkOf v = some k → ¬ F k) : Sl H' v sz l := by
  rcases hs with hs | ⟨a, m, cap, rfl, h3, h4, h5⟩
  · exact .inl hs
  · refine .inr ⟨a, m, cap, rfl, h3, h4, fun i w hw => ?_⟩
    have hc := h5 i w hw
    have hbl : (a.add i).block = a.block := by unfold Addr.add; split <;> rfl
    unfold cellAt at hc ⊢
    rw [hbl] at hc ⊢
    have hl : a.block < H.size := by
      rcases Nat.lt_or_ge a.block H.size with h' | h'
      · exact h'
      · rw [Array.getElem?_eq_none h'] at hc; cases hc
    rw [h.ne a.block hl (fun e => h1 (by rw [← e]; rfl)) (h2 a.block rfl)]
    exact hc
theorem Chg.own {b o n sz : Nat} {F F' : Nat → Prop} {H H' : Heap} {v : Value} {l : List Value} (h : Chg b o n F F' H H') (hs : Own H v sz l) (h1 : blkOf v ≠ some b) (h2 : ∀ k, blkOf v = some k → ¬ F k) : Own H' v sz l := by
  rcases hs with hs | ⟨c, m, cap, sp, rfl, ⟨t, fr, hc, hf⟩, h3, h4⟩
  · exact .inl hs
  · exact .inr ⟨c, m, cap, sp, rfl, ⟨⟨t, fr, h.keep hc (fun e => h1 (by rw [← e]; rfl)) (h2 c rfl), hf⟩, h3, h4⟩⟩
theorem Sub.lt {H : Heap} {b o : Nat} {cs : List Value} (h : Sub H b o cs) : b < H.size := by obtain ⟨_, _, _, _, h⟩ := h; exact lt_of_blk h
theorem Sub.ext {H H' : Heap} {b o : Nat} {cs : List Value} (h : Sub H b o cs) (hx : Ext H H') : Sub H' b o cs := by
  obtain ⟨p, q, t, h1, h2⟩ := h; exact ⟨p, q, t, h1, hx.blk h2⟩
theorem Sub.same {H H' : Heap} {b o : Nat} {cs : List Value} (h : Sub H b o cs) (hx : H'[b]? = H[b]?) : Sub H' b o cs := by
  obtain ⟨p, q, t, h1, h2⟩ := h; exact ⟨p, q, t, h1, hx.trans h2⟩
theorem Sub.cell {H : Heap} {b o k : Nat} {cs : List Value} {v : Value} (h : Sub H b o cs) (hk : cs[k]? = some v) : cellAt H ⟨b, o + k, none⟩ = some v := by
  obtain ⟨p, q, t, h1, h2⟩ := h
  subst h1
  have hl := (List.getElem?_eq_some_iff.1 hk).1
  rw [cellAt_blk h2, List.getElem?_toArray, List.append_assoc, List.getElem?_append_right (by omega), List.getElem?_append_left (by omega), show p.length + k - p.length = k by omega, hk]
theorem Sub.cell0 {H : Heap} {b o : Nat} {cs : List Value} {v : Value} (h : Sub H b o cs) (hk : cs[0]? = some v) : cellAt H ⟨b, o, none⟩ = some v := h.cell (k := 0) hk
theorem Sub.part {H : Heap} {b o : Nat} {x y z : List Value} (h : Sub H b o (x ++ y ++ z)) : Sub H b (o + x.length) y := by
  obtain ⟨p, q, t, h1, h2⟩ := h
  exact ⟨p ++ x, z ++ q, t, by simp [h1], by rw [h2]; simp [List.append_assoc]⟩
theorem Sub.all {H : Heap} {b : Nat} {cs : List Value} {t : TypeId} (h : H[b]? = some (.cells cs.toArray t (0, 0))) : Sub H b 0 cs := ⟨[], [], t, rfl, by simpa using h⟩
section
variable {H : Heap} {KE : Value → Heap → Prop} {b o k : Nat} {cs : List Value} {v : Value}
theorem set_mid {p q : List Value} {v : Value} (hk : k < cs.length) : (p ++ cs ++ q).set (p.length + k) v = p ++ cs.set k v ++ q := by
  rw [List.append_assoc, List.set_append_right _ _ (by omega), show p.length + k - p.length = k by omega, List.set_append_left _ _ hk, List.append_assoc]
theorem pStore_sub {n : Nat} {F : Nat → Prop} (h : Sub H b o cs) (hn : n = cs.length) (hk : k < cs.length) (hv : oneCell v = true) (hK : ∀ H', H'.size = H.size → Sub H' b o (cs.set k v) → Chg b o n F F H H' → KE undef H') : pStore H (.pointer (some ⟨b, o + k, none⟩)) v KE := by
  obtain ⟨p, q, t, h1, h2⟩ := h
  subst h1
  rw [pStore_blk h2 (by simp; omega) hv]
  have hb := lt_of_blk h2
  have e : ((p ++ cs ++ q).toArray.setIfInBounds (p.length + k) v) = (p ++ cs.set k v ++ q).toArray := by rw [List.setIfInBounds_toArray, set_mid hk]
  rw [e]
  refine hK _ (by simp) ⟨p, q, t, rfl, get_set_self hb⟩ ⟨by simp, fun i hi hne _ => get_set_ne (Ne.symm hne), fun c t' fr hc => ?_, fun k h => .inl h⟩
  rw [h2] at hc
  simp only [Option.some.injEq, Obj.cells.injEq] at hc
  obtain ⟨hc, rfl, rfl⟩ := hc
  have hc := arr_inj hc
  subst hc
  refine ⟨_, get_set_self hb, by simp, fun j hj => ?_⟩
  rw [← set_mid hk, List.getElem?_set_ne (by omega)]
theorem pStore_sub0 {n : Nat} {F : Nat → Prop} (h : Sub H b o cs) (hn : n = cs.length) (hk : 0 < cs.length) (hv : oneCell v = true) (hK : ∀ H', H'.size = H.size → Sub H' b o (cs.set 0 v) → Chg b o n F F H H' → KE undef H') : pStore H (.pointer (some ⟨b, o, none⟩)) v KE :=
  pStore_sub (k := 0) h hn hk hv hK
end
theorem Own.cut0 {H : Heap} {v : Value} {l : List Value} {K : Value → Prop} (h : Own H v 1 l) (hk : ∀ v', Own H v' 1 [] → blkOf v' = blkOf v → K v') : pSlSl 1 v none (some (.int .i64 0)) K := by
  rcases h with ⟨rfl, rfl⟩ | ⟨b, n, cap, sp, rfl, ⟨t, fr, hb, hf⟩, hl, hc⟩
  · rw [pSlSl_v, pBounds_01]
    exact ⟨by decide, by decide, hk _ (.inl ⟨by simp, rfl⟩) rfl⟩
  · rw [pSlSl_v, pBounds_01]
    refine ⟨by decide, by omega, ?_⟩
    have e : (if cap = 0 then (some ⟨b, 0, none⟩ : Option Addr) else Option.map (fun x : Addr => x.add (0 * 1)) (some (⟨b, 0, none⟩ : Addr))) = some ⟨b, 0, none⟩ := by
      split
      · rfl
      · simp [Addr.add]
    rw [e]
    exact hk _ (.inr ⟨b, 0, cap, l ++ sp, rfl, ⟨⟨t, fr, by rw [List.nil_append]; exact hb, hf⟩, by simp, by rw [List.nil_append]; exact hc⟩⟩) rfl
section
variable {K : Value → Prop} {b o n : Nat} {k k' : IntKind} {a c : Int} {l : List UInt8} {p : Bool}
theorem pConv_to (h : K (.int k (k.wrap a))) : pConv k (.int k' a) K := h
theorem pLenS_to (h : K (.int .i64 (l.length : Int))) : pLenS (str l) K := by rw [pLenS_v, bys_mk]; exact h
theorem pEq1_to {m : List UInt8} (h : K (.bool (decide (l = m)))) : pEq 1 (str l) (str m) K := by rw [pEq_1, bys_mk, bys_mk]; exact h
theorem pExtract_to {vs : List Value} {v : Value} {i : Nat} (hv : vs[i]? = some v) (h : K v) : pExtract i (.tuple vs.toArray) K := by rw [pExtract_v, hv]; exact h
theorem pLoadN_to {H : Heap} {t : TypeId} {fr : Nat × Nat} {cs : Array Value} (h : H[b]? = some (.cells cs t fr)) (hn : cs.size = n) (hk : K (.agg cs)) : pLoadN H n (.pointer (some ⟨b, 0, none⟩)) K := by rw [pLoadN_blk h hn]; exact hk
end
end Go.Vc
set_option linter.unusedSimpArgs false
set_option linter.unusedVariables false
namespace Go.Vc
open Go
structure Thing where
  foot : Nat → Prop
  holds : Heap → Prop
  frame : ∀ {H H' : Heap}, holds H → (∀ k, foot k → H'[k]? = H[k]?) → holds H'
  lt : ∀ {H : Heap} {k : Nat}, holds H → foot k → k < H.size
inductive It where
  | sl (v : Value) (sz : Nat) (l : List Value)
  | box (b : Nat) (cs : List Value) (t : TypeId)
  | thing (T : Thing)
def It.foot : It → Nat → Prop
  | .sl v _ _ => fun k => blkOf v = some k
  | .box b _ _ => fun k => b = k
  | .thing T => T.foot
def It.holds (H : Heap) : It → Prop
  | .sl v sz l => 0 < sz ∧ Own H v sz l
  | .box b cs t => H[b]? = some (.cells cs.toArray t (0, 0))
  | .thing T => T.holds H
theorem It.frame {H H' : Heap} {i : It} (h : i.holds H) (hf : ∀ k, i.foot k → H'[k]? = H[k]?) : i.holds H' := by
  cases i with
  | sl v sz l =>
    refine ⟨h.1, ?_⟩
    rcases h.2 with h | ⟨b, n, cap, sp, rfl, ⟨t, fr, hb, hfr⟩, hl, hc⟩
    · exact .inl h
    · exact .inr ⟨b, n, cap, sp, rfl, ⟨⟨t, fr, (hf b rfl).trans hb, hfr⟩, hl, hc⟩⟩
  | box b cs t => exact (hf b rfl).trans h
  | thing T => exact T.frame h hf
theorem It.lt {H : Heap} {i : It} {k : Nat} (h : i.holds H) (hf : i.foot k) : k < H.size := by
  cases i with
  | sl v sz l => exact h.2.lt hf
  | box b cs t => cases hf; exact lt_of_blk h
  | thing T => exact T.lt h hf
structure Owns (H0 H : Heap) (L : List It) : Prop where
  ext : Ext H0 H
  ok : ∀ i ∈ L, i.holds H
  new : ∀ i ∈ L, ∀ k, i.foot k → H0.size ≤ k
  dis : L.Pairwise fun i j => ∀ k, i.foot k → ¬ j.foot k
variable {H0 H H' : Heap} {L L' M : List It} {i i' : It}
theorem Owns.start : Owns H H [] := ⟨Ext.refl H, by simp, by simp, List.Pairwise.nil⟩
theorem Owns.more (o : Owns H0 H L) (hx : Ext H H') : Owns H0 H' L :=
  ⟨o.ext.trans hx, fun i hi => It.frame (o.ok i hi) fun k hk => hx.get k (It.lt (o.ok i hi) hk), o.new, o.dis⟩
theorem Owns.add (o : Owns H0 H L) (hx : Ext H H') (hi : i.holds H') (hf : ∀ k, i.foot k → H.size ≤ k) : Owns H0 H' (i :: L) := by
  have o' := o.more hx
  refine ⟨o'.ext, ?_, ?_, List.pairwise_cons.2 ⟨fun j hj k hk hk' => ?_, o.dis⟩⟩
  · intro j hj; rcases List.mem_cons.1 hj with rfl | hj
    · exact hi
    · exact o'.ok j hj
  · intro j hj; rcases List.mem_cons.1 hj with rfl | hj
    · intro k hk; have := hf k hk; have := o.ext.size; omega
    · exact o.new j hj
  · have := hf k hk; have := It.lt (o.ok j hj) hk'; omega
inductive Rep (i i' : It) : List It → List It → Prop
  | here {L : List It} : Rep i i' (i :: L) (i' :: L)
  | there {j : It} {L L' : List It} : Rep i i' L L' → Rep i i' (j :: L) (j :: L')
theorem Rep.mem : ∀ {L L' : List It}, Rep i i' L L' → i ∈ L
  | _, _, .here => List.mem_cons_self
  | _, _, .there h => List.mem_cons_of_mem _ h.mem
theorem Rep.mem' : ∀ {L L' : List It}, Rep i i' L L' → ∀ j ∈ L', j = i' ∨ j ∈ L
  | _, _, .here, j, hj => by
    rcases List.mem_cons.1 hj with h | h
    · exact .inl h
    · exact .inr (List.mem_cons_of_mem _ h)
  | _, _, .there h, j, hj => by
    rcases List.mem_cons.1 hj with h' | h'
    · subst h'; exact .inr List.mem_cons_self
    · rcases h.mem' j h' with h'' | h''
      · exact .inl h''
      · exact .inr (List.mem_cons_of_mem _ h'')
theorem Rep.dis {n : Nat} (hf : ∀ k, i'.foot k → i.foot k ∨ n ≤ k) : ∀ {L L' : List It}, Rep i i' L L' → (∀ j ∈ L, ∀ k, j.foot k → k < n) → L.Pairwise (fun i j => ∀ k, i.foot k → ¬ j.foot k) → L'.Pairwise (fun i j => ∀ k, i.foot k → ¬ j.foot k)
  | _, _, .here, hn, hd => by
    rw [List.pairwise_cons] at hd ⊢
    refine ⟨fun j hj k hk hk' => ?_, hd.2⟩
    rcases hf k hk with h | h
    · exact hd.1 j hj k h hk'
    · have := hn j (List.mem_cons_of_mem _ hj) k hk'; omega
  | _, _, .there (j := j) h, hn, hd => by
    rw [List.pairwise_cons] at hd ⊢
    refine ⟨fun x hx k hk hk' => ?_, h.dis hf (fun x hx => hn x (List.mem_cons_of_mem _ hx)) hd.2⟩
    rcases h.mem' x hx with rfl | hx
    · rcases hf k hk' with h' | h'
      · exact hd.1 i h.mem k hk h'
      · have := hn j List.mem_cons_self k hk; omega
    · exact hd.1 x hx k hk hk'
theorem Rep.rest {P : It → Prop} (hp : P i') : ∀ {L L' : List It}, Rep i i' L L' → (∀ j ∈ L, (∀ k, i.foot k → ¬ j.foot k) → P j) → L.Pairwise (fun i j => ∀ k, i.foot k → ¬ j.foot k) → ∀ j ∈ L', P j
  | _, _, .here, hn, hd, j, hj => by
    rw [List.pairwise_cons] at hd
    rcases List.mem_cons.1 hj with rfl | hj
    · exact hp
    · exact hn j (List.mem_cons_of_mem _ hj) (hd.1 j hj)
  | _, _, .there (j := j') h, hn, hd, j, hj => by
    rw [List.pairwise_cons] at hd
    rcases List.mem_cons.1 hj with rfl | hj
    · exact hn j List.mem_cons_self (fun k hk hk' => hd.1 i h.mem k hk' hk)
    · exact h.rest hp (fun x hx => hn x (List.mem_cons_of_mem _ hx)) hd.2 j hj
theorem Owns.turn (o : Owns H0 H L) (r : Rep i i' L L') (hs : H.size ≤ H'.size) (hne : ∀ k, k < H.size → ¬ i.foot k → H'[k]? = H[k]?) (hi : i'.holds H') (hf : ∀ k, i'.foot k → i.foot k ∨ H.size ≤ k) : Owns H0 H' L' := by
  have hmem := r.mem
  refine ⟨⟨Nat.le_trans o.ext.size hs, fun k hk => ?_⟩, ?_, ?_, r.dis (n := H.size) hf (fun j hj k hk => It.lt (o.ok j hj) hk) o.dis⟩
  · rw [hne k (Nat.lt_of_lt_of_le hk o.ext.size) (fun h => by have := o.new i hmem k h; omega)]
    exact o.ext.get k hk
  · refine r.rest hi (fun j hj hd => It.frame (o.ok j hj) fun k hk => hne k (It.lt (o.ok j hj) hk) fun h => hd k h hk) o.dis
  · intro j hj k hk
    rcases r.mem' j hj with rfl | hj
    · rcases hf k hk with h | h
      · exact o.new i hmem k h
      · have := o.ext.size; omega
    · exact o.new j hj k hk
inductive Sel (i : It) : List It → List It → Prop
  | here {L : List It} : Sel i (i :: L) L
  | there {j : It} {L M : List It} : Sel i L M → Sel i (j :: L) (j :: M)
theorem Sel.perm : ∀ {L M : List It}, Sel i L M → (i :: M).Perm L
  | _, _, .here => List.Perm.refl _
  | _, _, .there h => (List.Perm.swap ..).trans (h.perm.cons _)
theorem Owns.perm (o : Owns H0 H L) (hs : L'.Perm L) : Owns H0 H L' :=
  ⟨o.ext, fun i hi => o.ok i (hs.mem_iff.1 hi), fun i hi => o.new i (hs.mem_iff.1 hi), by
    refine (hs.symm.pairwise_iff ?_).1 o.dis
    intro a b hab k hk hk'
    exact hab k hk' hk⟩
theorem Owns.front (o : Owns H0 H L) (s : Sel i L M) : Owns H0 H (i :: M) := o.perm s.perm
inductive Sels : List It → List It → Prop
  | nil {L : List It} : Sels [] L
  | cons {i : It} {L L' M : List It} : Sel i L M → Sels L' M → Sels (i :: L') L
theorem Sels.perm : ∀ {L' L : List It}, Sels L' L → ∃ M, (L' ++ M).Perm L
  | _, L, .nil => ⟨L, List.Perm.refl _⟩
  | _, _, .cons s h => by
    obtain ⟨M, hM⟩ := h.perm
    exact ⟨M, (hM.cons _).trans s.perm⟩
theorem Owns.arr (o : Owns H0 H L) (s : Sels L' L) : Owns H0 H L' := by
  obtain ⟨M, hM⟩ := s.perm
  have o' := o.perm hM
  exact ⟨o'.ext, fun i hi => o'.ok i (List.mem_append_left _ hi), fun i hi => o'.new i (List.mem_append_left _ hi), (List.pairwise_append.1 o'.dis).1⟩
inductive SelsT : List It → List It → Prop
  | refl {L : List It} : SelsT L L
  | cons {i : It} {L' M L : List It} : Sel i L M → SelsT L' M → SelsT (i :: L') L
theorem SelsT.perm : ∀ {L' L : List It}, SelsT L' L → L'.Perm L
  | _, _, .refl => List.Perm.refl _
  | _, _, .cons s t => (t.perm.cons _).trans s.perm
theorem Owns.arrT (o : Owns H0 H L) (s : SelsT L' L) : Owns H0 H L' := o.perm s.perm
theorem Owns.sl {v : Value} {sz : Nat} {l : List Value} (o : Owns H0 H L) (h : It.sl v sz l ∈ L) : Sl H v sz l := (o.ok _ h).2.sl (o.ok _ h).1
theorem Owns.newV {v : Value} {sz : Nat} {l : List Value} (o : Owns H0 H L) (h : It.sl v sz l ∈ L) {k : Nat} (hk : blkOf v = some k) : H0.size ≤ k := o.new _ h k hk
theorem Owns.own {v : Value} {sz : Nat} {l : List Value} (o : Owns H0 H L) (h : It.sl v sz l ∈ L) : Own H v sz l := (o.ok _ h).2
theorem Owns.blk {b : Nat} {cs : List Value} {t : TypeId} (o : Owns H0 H L) (h : It.box b cs t ∈ L) : H[b]? = some (.cells cs.toArray t (0, 0)) := o.ok _ h
theorem Owns.thing {T : Thing} (o : Owns H0 H L) (h : It.thing T ∈ L) : T.holds H := o.ok _ h
theorem Owns.pick (o : Owns H0 H L) (hs : L'.Sublist L) : Owns H0 H L' :=
  ⟨o.ext, fun i hi => o.ok i (hs.subset hi), fun i hi => o.new i (hs.subset hi), o.dis.sublist hs⟩
theorem Owns.call {L2 : List It} (o : Owns H0 H L) (c : Owns H H' L2) : Owns H0 H' (L2 ++ L) := by
  have o' := o.more c.ext
  refine ⟨o'.ext, ?_, ?_, List.pairwise_append.2 ⟨c.dis, o.dis, fun a ha b hb k hk hk' => ?_⟩⟩
  · intro i hi; rcases List.mem_append.1 hi with h | h
    · exact c.ok i h
    · exact o'.ok i h
  · intro i hi; rcases List.mem_append.1 hi with h | h
    · intro k hk; have := c.new i h k hk; have := o.ext.size; omega
    · exact o.new i h
  · have := c.new a ha k hk; have := It.lt (o.ok b hb) hk'; omega
theorem Sl.frame {v : Value} {sz : Nat} {l : List Value} (h : Sl H v sz l) (hf : ∀ k, blkOf v = some k → H'[k]? = H[k]?) : Sl H' v sz l := by
  rcases h with h | ⟨a, n, cap, rfl, h1, h2, h3⟩
  · exact .inl h
  · refine .inr ⟨a, n, cap, rfl, h1, h2, fun i w hw => ?_⟩
    have hc := h3 i w hw
    have hbl : (a.add i).block = a.block := by unfold Addr.add; split <;> rfl
    unfold cellAt at hc ⊢
    rw [hbl] at hc ⊢
    rw [hf a.block rfl]
    exact hc
theorem Sl.lt {v : Value} {sz : Nat} {l : List Value} {k : Nat} (h : Sl H v sz l) (hl : l ≠ []) (hk : blkOf v = some k) : k < H.size := by
  rcases h with ⟨rfl, h⟩ | ⟨a, n, cap, rfl, h1, h2, h3⟩
  · exact absurd h hl
  · cases l with
    | nil => exact absurd rfl hl
    | cons x l =>
      have hc := h3 0 x rfl
      have hbl : (a.add 0).block = a.block := by unfold Addr.add; split <;> rfl
      simp only [blkOf, Option.some.injEq] at hk
      subst hk
      unfold cellAt at hc
      rw [hbl] at hc
      rcases Nat.lt_or_ge a.block H.size with h' | h'
      · exact h'
      · rw [Array.getElem?_eq_none h'] at hc; cases hc
section
variable {K : Value → Heap → Prop} {KV : Value → Prop} {e : TypeId} {sz : Nat}
theorem Owns.build0 (o : Owns H0 H L) (sz : Nat) (hz : 0 < sz) (hk : ∀ y H', Owns H0 H' (.sl y sz [] :: L) → K y H') : pBuildSl H e 0 [] [] K := by
  simp only [pBuildSl, pBuild_n, cells_agg]
  exact hk _ _ (o.add (Ext.refl H).push ⟨hz, .inr ⟨H.size, 0, 0, [], rfl, ⟨⟨e, (0, 0), get_push_self, .inl rfl⟩, by simp, by simp⟩⟩⟩ (fun j hj => by simp only [It.foot, blkOf, Option.some.injEq] at hj; omega))
theorem Owns.build (o : Owns H0 H L) {n : Nat} {zero vs : List Value} {parts : List (Nat × Nat × Value)} (sz : Nat) (hz : 0 < sz) (hval : ∀ K' : Value → Prop, K' (.agg vs.toArray) → pBuild zero parts K') (hn : vs.length = n * sz)
    (hk : ∀ y H', Owns H0 H' (.sl y sz vs :: L) → K y H') : pBuildSl H e n zero parts K := by
  refine hval _ ?_
  simp only [cells_agg]
  exact hk _ _ (o.add (Ext.refl H).push ⟨hz, .inr ⟨H.size, n, n, [], rfl, ⟨⟨e, (0, 0), by rw [List.append_nil]; exact get_push_self, .inl rfl⟩, hn, by simpa using hn⟩⟩⟩ (fun j hj => by simp only [It.foot, blkOf, Option.some.injEq] at hj; omega))
theorem Owns.build1 (o : Owns H0 H L) {zero : List Value} {x : Value} (hz : 0 < sz) (hzero : zero.length = sz) (hx : x.cells.size = sz) (hk : ∀ y H', Owns H0 H' (.sl y sz x.cells.toList :: L) → K y H') : pBuildSl H e 1 zero [(0, sz, x)] K := by
  refine o.build sz hz (vs := x.cells.toList) (fun K' hK => ?_) (by simp [hx]) hk
  have hp : putL zero 0 x.cells.toList = x.cells.toList := by
    have := putL_all x.cells.toList [] zero (by simp [hzero, hx])
    simpa using this
  rw [pBuild_c, pBuild_n, hp]
  exact ⟨hx, by omega, hK⟩
theorem repL_rep (z : List Value) : ∀ n, repL z n = (List.replicate n z).flatten
  | 0 => rfl
  | n + 1 => by rw [repL, repL_rep z n, List.replicate_succ, List.flatten_cons]
theorem repL_one (z : Value) : ∀ n, repL [z] n = List.replicate n z
  | 0 => rfl
  | n + 1 => by rw [repL, repL_one z n]; rfl
theorem Owns.make (o : Owns H0 H L) {bytes : Nat} {z : List Value} {n : Int} (hz : 0 < z.length) (h0 : 0 ≤ n) (hb : (bytes : Int) * n ≤ 281474976710656) (hn : n ≤ 9223372036854775807)
    (hk : ∀ y H', Owns H0 H' (.sl y z.length (repL z n.toNat) :: L) → K y H') : pMakeSl H e bytes z (.int .i64 n) (.int .i64 n) K := by
  simp only [pMakeSl]
  refine ⟨h0, Int.le_refl _, hb, hn, ?_⟩
  exact hk _ _ (o.add (Ext.refl H).push ⟨hz, .inr ⟨H.size, n.toNat, n.toNat, [], rfl, ⟨⟨e, (0, 0), by rw [List.append_nil]; exact get_push_self, .inl rfl⟩, by rw [repL_len], by simp [repL_len]⟩⟩⟩ (fun j hj => by simp only [It.foot, blkOf, Option.some.injEq] at hj; omega))
theorem Owns.make1 (o : Owns H0 H L) {bytes : Nat} {z : Value} {n : Int} (h0 : 0 ≤ n) (hb : (bytes : Int) * n ≤ 281474976710656) (hn : n ≤ 9223372036854775807)
    (hk : ∀ y H', Owns H0 H' (.sl y 1 (List.replicate n.toNat z) :: L) → K y H') : pMakeSl H e bytes [z] (.int .i64 n) (.int .i64 n) K := by
  refine o.make (by simp) h0 hb hn fun y H' o' => ?_
  rw [repL_one] at o'
  exact hk y H' o'
theorem Owns.append (o : Owns H0 H L) {v x : Value} {bytes m n : Nat} {zero l new : List Value} (hin : Sel (.sl v sz l) L M) (hzero : zero.length = sz) (hx : Sl H x sz new)
    (hl : l.length = n * sz) (hm : new.length = m * sz) (hone : new.all oneCell = true) (hsize : 2 * (n + m) * bytes ≤ 281474976710656)
    (hk : ∀ v' H', Owns H0 H' (.sl v' sz (l ++ new) :: M) → K v' H') : pAppend H e sz bytes zero v x K := by
  have o1 := o.front hin
  obtain ⟨hz, ho⟩ := o1.ok _ List.mem_cons_self
  refine Own.append ho hz hzero (hx.lenV hm hz) hx.cellsOf hl hm hone hsize fun v' H' o' hi hs hb => ?_
  refine hk v' H' (o1.turn Rep.here hs (fun k hk hf => hi k hk hf) ⟨hz, o'⟩ fun k hk => ?_)
  simp only [It.foot] at hk ⊢
  rcases hb with hb | hb
  · left; rw [← hb]; exact hk
  · right; rw [hb, Option.some.injEq] at hk; omega
theorem Owns.app (o : Owns H0 H L) {v x z : Value} {bytes : Nat} {l new : List Value} (hin : Sel (.sl v 1 l) L M) (hx : Sl H x 1 new)
    (hone : new.all oneCell = true) (hsize : 2 * (l.length + new.length) * bytes ≤ 281474976710656)
    (hk : ∀ v' H', Owns H0 H' (.sl v' 1 (l ++ new) :: M) → K v' H') : pAppend H e 1 bytes [z] v x K :=
  o.append hin rfl hx (Nat.mul_one _).symm (Nat.mul_one _).symm hone hsize hk
theorem Sl.one {v : Value} {l : List Value} (h : Sl H v sz l) : oneCell v = true := by
  rcases h with ⟨rfl, _⟩ | ⟨a, m, cap, rfl, _⟩ <;> rfl
theorem pBuild_one {l : List Value} {o : Nat} {v : Value} {r : List (Nat × Nat × Value)} (hv : oneCell v = true) (ho : o < l.length) (h : pBuild (l.set o v) r KV) : pBuild l ((o, 1, v) :: r) KV := by
  rw [pBuild_c, cells_one hv]
  exact ⟨rfl, by omega, by simpa [putL_cons, putL_nil] using h⟩
theorem all_cons {x : Value} {l : List Value} (hx : oneCell x = true) (hl : l.all oneCell = true) : (x :: l).all oneCell = true := by simp [hx, hl]
theorem pBuild_two {a b x y : Value} (hx : oneCell x = true) (hy : oneCell y = true) (h : KV (.agg #[x, y])) : pBuild [a, b] [(0, 1, x), (1, 1, y)] KV :=
  pBuild_one hx (by simp) (pBuild_one hy (by simp) h)
theorem pBuild_three {a b c x y z : Value} (hx : oneCell x = true) (hy : oneCell y = true) (hz : oneCell z = true) (h : KV (.agg #[x, y, z])) : pBuild [a, b, c] [(0, 1, x), (1, 1, y), (2, 1, z)] KV :=
  pBuild_one hx (by simp) (pBuild_one hy (by simp) (pBuild_one hz (by simp) h))
def At (v : Value) (j : Nat) (p : Value) : Prop := ∃ a n cap, v = .slice (some a) n cap ∧ p = .pointer (some (a.add j))
theorem Sl.at_ {v : Value} {l : List Value} (h : Sl H v sz l) {n : Nat} (hn : l.length = n * sz) (hz : 0 < sz) {i : Int} (h0 : 0 ≤ i) (h1 : i < (n : Int)) (hk : ∀ p, At v (i.toNat * sz) p → KV p) : pIdxSl sz v (.int .i64 i) KV := by
  rcases h with ⟨rfl, rfl⟩ | ⟨a, m, cap, rfl, h2, h3, h4⟩
  · have := Nat.mul_pos (show 0 < n by omega) hz
    simp only [List.length_nil] at hn
    omega
  · rw [h2] at hn
    have hmn := Nat.eq_of_mul_eq_mul_right hz hn
    rw [pIdxSl_v]
    exact ⟨h0, by omega, hk _ ⟨a, m, cap, rfl, rfl⟩⟩
theorem At.field {v p : Value} {j f : Nat} (h : At v j p) (hk : ∀ q, At v (j + f) q → KV q) : pFieldAddr f p KV := by
  obtain ⟨a, n, cap, rfl, rfl⟩ := h
  rw [pFieldAddr_v]
  exact hk _ ⟨a, n, cap, rfl, by rw [addr_add_add]⟩
theorem At.load {v p w : Value} {j : Nat} {l : List Value} (h : At v j p) (hs : Sl H v sz l) (hw : l[j]? = some w) (hk : KV w) : pLoad H p KV := by
  obtain ⟨a, n, cap, rfl, rfl⟩ := h
  rcases hs with ⟨h, rfl⟩ | ⟨a', m, cap', h, h2, h3, h4⟩
  · simp at hw
  · cases h
    rw [pLoad_cell (h4 j w hw)]; exact hk
theorem At.loadN {v p : Value} {j n : Nat} {l ws : List Value} (h : At v j p) (hs : Sl H v sz l) (hw : (l.drop j).take n = ws) (hn : ws.length = n) (hk : KV (.agg ws.toArray)) : pLoadN H n p KV := by
  obtain ⟨a, c, cap, rfl, rfl⟩ := h
  rcases hs with ⟨h, rfl⟩ | ⟨a', m, cap', h, h2, h3, h4⟩
  · simp at hw
    subst hw
    simp only [List.length_nil] at hn
    subst hn
    exact hk
  · cases h
    subst hw
    exact (h4.part j n).loadN hn hk
theorem setsAt_put {l sp new : List Value} {b j : Nat} {t : TypeId} {fr : Nat × Nat} {N : Nat} (hf : Thawed fr N) (hb : H[b]? = some (.cells (l ++ sp).toArray t fr)) (hone : new.all oneCell = true) (hj : j + new.length ≤ l.length) (hN : (l ++ sp).length = N) :
    setsAt H ⟨b, j, none⟩ 0 new = some (H.setIfInBounds b (.cells (putL l j new ++ sp).toArray t fr)) := by
  rw [setsAt_thaw hf new H j 0 (l ++ sp) hb hone (by rw [List.length_append]; omega) hN]
  congr 4
  rw [Nat.add_zero]
  have hsplit : l = l.take j ++ l.drop j := (List.take_append_drop j l).symm
  have hlj : (l.take j).length = j := by rw [List.length_take]; omega
  have e1 := putL_mid new (l.take j) (l.drop j ++ sp) (by rw [List.length_append, List.length_drop]; omega)
  have e2 := putL_mid new (l.take j) (l.drop j) (by rw [List.length_drop]; omega)
  rw [hlj] at e1 e2
  rw [← List.append_assoc, List.take_append_drop] at e1
  rw [List.take_append_drop] at e2
  rw [e1, e2, List.append_assoc (List.take j l ++ new), List.drop_append_of_le_length (by rw [List.length_drop]; omega)]
theorem Owns.put (o : Owns H0 H L) {v p : Value} {j : Nat} {l new : List Value} (h : At v j p) (hin : It.sl v sz l ∈ L) (hj : j + new.length ≤ l.length) (hone : new.all oneCell = true)
    (hrep : Rep (.sl v sz l) (.sl v sz (putL l j new)) L L') : ∃ a H', p = .pointer (some a) ∧ setsAt H a 0 new = some H' ∧ Owns H0 H' L' ∧ H'.size = H.size := by
  obtain ⟨hz, ho⟩ := o.ok _ hin
  obtain ⟨a, n, cap, rfl, rfl⟩ := h
  rcases ho with ⟨h, rfl⟩ | ⟨b, n', cap', sp, h, ⟨t, fr, hb, hf⟩, hl, hc⟩
  · cases h
  · cases h
    refine ⟨_, H.setIfInBounds b (.cells (putL l j new ++ sp).toArray t fr), rfl, ?_, ?_, ?_⟩
    · rw [add_mk, Nat.zero_add]; exact setsAt_put hf hb hone hj hc
    · refine o.turn hrep (by simp) (fun k hk hne => get_set_ne (by intro e; subst e; exact hne rfl)) ⟨hz, .inr ⟨b, n, cap, sp, rfl, ⟨⟨t, fr, get_set_self (lt_of_blk hb), hf⟩, ?_, ?_⟩⟩⟩ (fun k hk => .inl hk)
      · rw [putL_len]; exact hl
      · rw [List.length_append, putL_len, ← List.length_append]; exact hc
    · simp
theorem Owns.store (o : Owns H0 H L) {v p x : Value} {j : Nat} {l : List Value} (h : At v j p) (hin : It.sl v sz l ∈ L) (hj : j < l.length) (hx : oneCell x = true)
    (hrep : Rep (.sl v sz l) (.sl v sz (l.set j x)) L L') (hk : ∀ H', Owns H0 H' L' → H'.size = H.size → K undef H') : pStore H p x K := by
  obtain ⟨a, H', rfl, hs, o', hsz⟩ := o.put (new := [x]) h hin (by simp; omega) (by simp [hx]) (by rw [putL_cons, putL_nil]; exact hrep)
  simp only [pStore, hs]
  exact hk H' o' hsz
theorem Owns.storeN (o : Owns H0 H L) {v p : Value} {vs : List Value} {j n : Nat} {l : List Value} (h : At v j p) (hin : It.sl v sz l ∈ L) (hn : vs.length = n) (hj : j + n ≤ l.length) (hx : vs.all oneCell = true)
    (hrep : Rep (.sl v sz l) (.sl v sz (putL l j vs)) L L') (hk : ∀ H', Owns H0 H' L' → H'.size = H.size → K undef H') : pStoreN H n p (.agg vs.toArray) K := by
  subst hn
  obtain ⟨a, H', rfl, hs, o', hsz⟩ := o.put (new := vs) h hin hj hx hrep
  simp only [pStoreN, cells_agg, hs]
  exact ⟨by simp, hk H' o' hsz⟩
theorem Owns.box (o : Owns H0 H L) {v : Value} (hk : ∀ b H', Owns H0 H' (.box b v.cells.toList e :: L) → b = H.size → K (.pointer (some ⟨b, 0, none⟩)) H') : pBox H e v K :=
  hk _ _ (o.add (Ext.refl H).push (show _ = _ from get_push_self) (fun j hj => by simp only [It.foot] at hj; omega)) rfl
theorem Owns.bload (o : Owns H0 H L) {b f : Nat} {cs : List Value} {t : TypeId} {w : Value} (hin : It.box b cs t ∈ L) (hw : cs[f]? = .some w) (hk : KV w) : pLoad H (.pointer (some ⟨b, f, none⟩)) KV :=
  pLoad_l (o.blk hin) hw hk
theorem Owns.bloadN (o : Owns H0 H L) {b n : Nat} {cs : List Value} {t : TypeId} (hin : It.box b cs t ∈ L) (hn : cs.length = n) (hk : KV (.agg cs.toArray)) : pLoadN H n (.pointer (some ⟨b, 0, none⟩)) KV :=
  pLoadN_to (o.blk hin) (by simpa using hn) hk
theorem Owns.bstore (o : Owns H0 H L) {b f : Nat} {cs : List Value} {t : TypeId} {x : Value} (hin : It.box b cs t ∈ L) (hf : f < cs.length) (hx : oneCell x = true)
    (hrep : Rep (.box b cs t) (.box b (cs.set f x) t) L L') (hk : ∀ H', Owns H0 H' L' → H'.size = H.size → K undef H') : pStore H (.pointer (some ⟨b, f, none⟩)) x K := by
  refine pStore_upd (o.blk hin) (by simpa using hf) hx fun H' hs u => hk H' (o.turn hrep u.size (fun k hk hne => u.ne k hk (fun e => hne e.symm)) ?_ (fun k hk => .inl hk)) hs
  show _ = _
  rw [u.at_, List.setIfInBounds_toArray]
theorem Owns.bstoreN (o : Owns H0 H L) {b n : Nat} {cs vs : List Value} {t : TypeId} (hin : It.box b cs t ∈ L) (hn : cs.length = n) (hv : vs.length = n) (hx : vs.all oneCell = true)
    (hrep : Rep (.box b cs t) (.box b vs t) L L') (hk : ∀ H', Owns H0 H' L' → H'.size = H.size → K undef H') : pStoreN H n (.pointer (some ⟨b, 0, none⟩)) (.agg vs.toArray) K := by
  refine pStoreN_upd (o.blk hin) (by simpa using hn) (by simpa using hv) (by simpa using hx) fun H' hs u => hk H' (o.turn hrep u.size (fun k hk hne => u.ne k hk (fun e => hne e.symm)) ?_ (fun k hk => .inl hk)) hs
  exact u.at_
end
end Go.Vc
namespace Go.Vc
open Go
set_option linter.unusedVariables false
set_option linter.unusedSimpArgs false
def bitsN (v n : Nat) : List Bool := (List.range n).map fun i => v.testBit i
def numB : List Bool → Nat
  | [] => 0
  | b :: l => b.toNat + 2 * numB l
def toBits (l : List UInt8) : List Bool := l.flatMap fun b => bitsN b.toNat 8
theorem bitsN_len (v n : Nat) : (bitsN v n).length = n := by simp [bitsN]
theorem bitsN_zero (v : Nat) : bitsN v 0 = [] := rfl
theorem bitsN_get {v n i : Nat} (h : i < n) : (bitsN v n)[i]? = some (v.testBit i) := by simp [bitsN, List.getElem?_range h]
theorem bitsN_ext {v w n : Nat} (h : ∀ i, i < n → v.testBit i = w.testBit i) : bitsN v n = bitsN w n := by
  unfold bitsN
  apply List.map_congr_left
  intro i hi
  exact h i (List.mem_range.1 hi)
theorem bitsN_mod (v n : Nat) : bitsN (v % 2 ^ n) n = bitsN v n := bitsN_ext fun i hi => by rw [Nat.testBit_mod_two_pow]; simp [hi]
theorem bitsN_add (v m n : Nat) : bitsN v (m + n) = bitsN v m ++ bitsN (v / 2 ^ m) n := by
  unfold bitsN
  rw [List.range_add, List.map_append, List.map_map]
  congr 1
  apply List.map_congr_left
  intro i _
  simp only [Function.comp]
  rw [Nat.testBit_div_two_pow, Nat.add_comm]
theorem bitsN_cons (v n : Nat) : bitsN v (n + 1) = v.testBit 0 :: bitsN (v / 2) n := by
  rw [Nat.add_comm, bitsN_add]; rfl
theorem bitsN_join {a v m n : Nat} (h : a < 2 ^ m) : bitsN (a + v * 2 ^ m) (m + n) = bitsN a m ++ bitsN v n := by
  rw [bitsN_add]
  have h1 : (a + v * 2 ^ m) / 2 ^ m = v := by
    rw [Nat.add_mul_div_right _ _ (Nat.two_pow_pos m), Nat.div_eq_of_lt h, Nat.zero_add]
  have h2 : bitsN (a + v * 2 ^ m) m = bitsN a m := by
    rw [← bitsN_mod, Nat.add_mul_mod_self_right, bitsN_mod]
  rw [h1, h2]
theorem numB_bitsN : ∀ (n v : Nat), numB (bitsN v n) = v % 2 ^ n
  | 0, v => by simp [bitsN, numB, Nat.mod_one]
  | n + 1, v => by
    rw [bitsN_cons, numB, numB_bitsN n, Nat.testBit_zero, Nat.pow_succ, Nat.mul_comm (2 ^ n) 2, Nat.mod_mul]
    rcases Nat.mod_two_eq_zero_or_one v with h | h <;> simp [h]
theorem numB_lt : ∀ (l : List Bool), numB l < 2 ^ l.length
  | [] => by simp [numB]
  | b :: l => by
    have := numB_lt l
    rw [numB, List.length_cons, Nat.pow_succ]
    cases b <;> simp <;> omega
theorem bitsN_numB : ∀ (l : List Bool), bitsN (numB l) l.length = l
  | [] => rfl
  | b :: l => by
    rw [List.length_cons, bitsN_cons, numB]
    congr 1
    · rw [Nat.testBit_zero]; cases b <;> simp <;> omega
    · rw [show (b.toNat + 2 * numB l) / 2 = numB l by cases b <;> simp <;> omega, bitsN_numB l]
theorem toBits_len (l : List UInt8) : (toBits l).length = 8 * l.length := by
  induction l with
  | nil => rfl
  | cons b l ih => unfold toBits at ih ⊢; rw [List.flatMap_cons, List.length_append, ih, bitsN_len, List.length_cons]; omega
theorem toBits_append (l m : List UInt8) : toBits (l ++ m) = toBits l ++ toBits m := by unfold toBits; rw [List.flatMap_append]
theorem toBits_cons (b : UInt8) (l : List UInt8) : toBits (b :: l) = bitsN b.toNat 8 ++ toBits l := rfl
theorem toBits_one (b : UInt8) : toBits [b] = bitsN b.toNat 8 := by rw [toBits_cons]; simp [toBits]
def toBytes : List Bool → List UInt8
  | a :: b :: c :: d :: e :: f :: g :: h :: l => UInt8.ofNat (numB [a, b, c, d, e, f, g, h]) :: toBytes l
  | _ => []
theorem toBytes_short {l : List Bool} (h : l.length < 8) : toBytes l = [] := by
  match l, h with
  | [], _ => rfl
  | [_], _ => rfl
  | [_, _], _ => rfl
  | [_, _, _], _ => rfl
  | [_, _, _, _], _ => rfl
  | [_, _, _, _, _], _ => rfl
  | [_, _, _, _, _, _], _ => rfl
  | [_, _, _, _, _, _, _], _ => rfl
  | _ :: _ :: _ :: _ :: _ :: _ :: _ :: _ :: _, h => simp at h; omega
theorem toBytes_step {x l : List Bool} (h : x.length = 8) : toBytes (x ++ l) = UInt8.ofNat (numB x) :: toBytes l := by
  match x, h with
  | [a, b, c, d, e, f, g, i], _ => rfl
theorem byte_bits (b : UInt8) : UInt8.ofNat (numB (bitsN b.toNat 8)) = b := by
  rw [numB_bitsN, Nat.mod_eq_of_lt b.toNat_lt]
  simp
theorem toBytes_toBits : ∀ (l : List UInt8) (r : List Bool), r.length < 8 → toBytes (toBits l ++ r) = l
  | [], r, h => toBytes_short h
  | b :: l, r, h => by
    rw [toBits_cons, List.append_assoc, toBytes_step (bitsN_len _ _), byte_bits, toBytes_toBits l r h]
theorem toBytes_toBits' (l : List UInt8) : toBytes (toBits l) = l := by
  have := toBytes_toBits l [] (by decide)
  rwa [List.append_nil] at this
theorem toBits_toBytes : ∀ (n : Nat) (l : List Bool), l.length = 8 * n → toBits (toBytes l) = l
  | 0, l, h => by
    have : l = [] := List.eq_nil_of_length_eq_zero (by omega)
    subst this; rfl
  | n + 1, l, h => by
    have e : l = l.take 8 ++ l.drop 8 := (List.take_append_drop 8 l).symm
    have h8 : (l.take 8).length = 8 := by rw [List.length_take]; omega
    rw [e, toBytes_step h8, toBits_cons, toBits_toBytes n _ (by rw [List.length_drop]; omega)]
    congr 1
    rw [UInt8.toNat_ofNat', Nat.mod_eq_of_lt (by have := numB_lt (l.take 8); rw [h8] at this; exact this)]
    have := bitsN_numB (l.take 8)
    rw [h8] at this; exact this
theorem toBytes_len : ∀ (n : Nat) (l : List Bool), l.length / 8 = n → (toBytes l).length = n
  | 0, l, h => by rw [toBytes_short (by omega)]; rfl
  | n + 1, l, h => by
    have e : l = l.take 8 ++ l.drop 8 := (List.take_append_drop 8 l).symm
    rw [e, toBytes_step (by rw [List.length_take]; omega), List.length_cons, toBytes_len n _ (by rw [List.length_drop]; omega)]
theorem or_disj {a v n : Nat} (h : a < 2 ^ n) : a ||| v * 2 ^ n = a + v * 2 ^ n := by
  rw [Nat.or_comm, Nat.mul_comm v, ← Nat.two_pow_add_eq_or_of_lt h, Nat.add_comm]
theorem or_u64 {a b : Nat} (ha : a < 18446744073709551616) (hb : b < 18446744073709551616) : bitsOf .or .u64 (a : Int) (b : Int) = ((a ||| b : Nat) : Int) := by
  have hlt : a ||| b < 2 ^ 64 := Nat.or_lt_two_pow (by simpa using ha) (by simpa using hb)
  have e : ((BitVec.ofInt 64 (a : Int)) ||| (BitVec.ofInt 64 (b : Int))).toNat = a ||| b := by
    rw [BitVec.toNat_or, BitVec.ofInt_natCast, BitVec.ofInt_natCast, BitVec.toNat_ofNat, BitVec.toNat_ofNat, Nat.mod_eq_of_lt (by omega), Nat.mod_eq_of_lt (by omega)]
  show IntKind.u64.wrap ((((BitVec.ofInt 64 (a : Int)) ||| (BitVec.ofInt 64 (b : Int))).toNat : Nat) : Int) = _
  rw [e, wu64 (by omega) (by omega)]
theorem and_u64 {a b : Nat} (ha : a < 18446744073709551616) (hb : b < 18446744073709551616) : bitsOf .and .u64 (a : Int) (b : Int) = ((a &&& b : Nat) : Int) := by
  have hlt : a &&& b < 2 ^ 64 := Nat.lt_of_le_of_lt Nat.and_le_left (by omega)
  have e : ((BitVec.ofInt 64 (a : Int)) &&& (BitVec.ofInt 64 (b : Int))).toNat = a &&& b := by
    rw [BitVec.toNat_and, BitVec.ofInt_natCast, BitVec.ofInt_natCast, BitVec.toNat_ofNat, BitVec.toNat_ofNat, Nat.mod_eq_of_lt (by omega), Nat.mod_eq_of_lt (by omega)]
  show IntKind.u64.wrap ((((BitVec.ofInt 64 (a : Int)) &&& (BitVec.ofInt 64 (b : Int))).toNat : Nat) : Int) = _
  rw [e, wu64 (by omega) (by omega)]
theorem mask_u64 {v n : Nat} (hv : v < 18446744073709551616) (hn : n ≤ 32) : bitsOf .and .u64 (v : Int) (IntKind.u64.wrap (IntKind.u64.wrap (1 * 2 ^ min ((n : Int)).toNat IntKind.u64.bits) - 1)) = ((v % 2 ^ n : Nat) : Int) := by
  have e : IntKind.u64.wrap (IntKind.u64.wrap (1 * 2 ^ min ((n : Int)).toNat IntKind.u64.bits) - 1) = ((2 ^ n - 1 : Nat) : Int) := by
    rw [show min ((n : Int)).toNat IntKind.u64.bits = n by show min ((n : Int)).toNat 64 = n; omega]
    have hp : (2 : Nat) ^ n ≤ 2 ^ 32 := Nat.pow_le_pow_right (by decide) hn
    have h1 : 1 ≤ (2 : Nat) ^ n := Nat.one_le_two_pow
    rw [show (1 : Int) * 2 ^ n = ((2 ^ n : Nat) : Int) by rw [Int.one_mul, Int.natCast_pow]; rfl]
    generalize (2 : Nat) ^ n = P at hp h1 ⊢
    rw [wu64 (n := (P : Int)) (by omega) (by omega), wu64 (by omega) (by omega)]
    omega
  have hp : (2 : Nat) ^ n ≤ 2 ^ 32 := Nat.pow_le_pow_right (by decide) hn
  rw [e, and_u64 hv (by omega), Nat.and_two_pow_sub_one_eq_mod]
theorem shl_u64 {v n : Nat} (h : v * 2 ^ n < 18446744073709551616) (hn : n ≤ 64) : IntKind.u64.wrap ((v : Int) * 2 ^ min ((n : Int)).toNat IntKind.u64.bits) = ((v * 2 ^ n : Nat) : Int) := by
  rw [show min ((n : Int)).toNat IntKind.u64.bits = n by show min ((n : Int)).toNat 64 = n; omega]
  rw [show (v : Int) * 2 ^ n = ((v * 2 ^ n : Nat) : Int) by rw [Int.natCast_mul, Int.natCast_pow]; rfl]
  exact wu64 (by omega) (by omega)
theorem shr_int {k : IntKind} {v n : Nat} (hn : n ≤ k.bits) : ((v : Nat) : Int).fdiv (2 ^ min ((n : Int)).toNat k.bits) = ((v / 2 ^ n : Nat) : Int) := by
  rw [show min ((n : Int)).toNat k.bits = n by rw [Int.toNat_natCast]; omega]
  rw [Int.fdiv_eq_ediv_of_nonneg _ (Int.le_of_lt (Int.pow_pos (by decide))), show ((2 : Int) ^ n) = ((2 ^ n : Nat) : Int) by rw [Int.natCast_pow]; rfl, ← Int.natCast_ediv]
theorem fdiv_nat {n m j : Nat} (h : m = j) : ((n : Nat) : Int).fdiv (2 ^ m) = ((n / 2 ^ j : Nat) : Int) := by
  subst h
  rw [Int.fdiv_eq_ediv_of_nonneg _ (Int.le_of_lt (Int.pow_pos (by decide))), show ((2 : Int) ^ m) = ((2 ^ m : Nat) : Int) by rw [Int.natCast_pow]; rfl, ← Int.natCast_ediv]
theorem byte_low {v : Nat} : Value.int .u8 (IntKind.u8.wrap (v : Int)) = byteV (UInt8.ofNat (v % 256)) := by
  unfold byteV
  rw [wu8_mod, UInt8.toNat_ofNat', show v % 256 % 2 ^ 8 = v % 256 by omega]
  congr 1
theorem byte_low_bits {v n : Nat} (h : 8 ≤ n) : bitsN v n = toBits [UInt8.ofNat (v % 256)] ++ bitsN (v / 2 ^ 8) (n - 8) := by
  rw [toBits_one, UInt8.toNat_ofNat', show v % 256 % 2 ^ 8 = v % 2 ^ 8 by omega, bitsN_mod]
  conv => lhs; rw [show n = 8 + (n - 8) by omega]
  rw [bitsN_add]
end Go.Vc
namespace Go.Proofs.YtameljhbkedhjaaGreatDoor
open Go Go.Vc Go.Proofs
set_option linter.unusedVariables false
set_option linter.unusedSimpArgs false
def cntL (ls : List Nat) (n : Nat) : Nat := ls.countP fun k => decide (k = n)
def endC (ls : List Nat) : Nat → Nat
  | 0 => 0
  | n + 1 => 2 * endC ls n + cntL ls (n + 1)
def startC (ls : List Nat) (n : Nat) : Nat := 2 * endC ls (n - 1)
theorem endC_start (ls : List Nat) {n : Nat} (hn : 1 ≤ n) : endC ls n = startC ls n + cntL ls n := by
  obtain ⟨m, rfl⟩ : ∃ m, n = m + 1 := ⟨n - 1, by omega⟩
  rfl
def leftC (ls : List Nat) (n : Nat) : Int := ((2 ^ n : Nat) : Int) - (endC ls n : Int)
theorem leftC_succ (ls : List Nat) (n : Nat) : leftC ls (n + 1) = 2 * leftC ls n - (cntL ls (n + 1) : Int) := by
  unfold leftC
  rw [endC, Nat.pow_succ]
  omega
theorem leftC_neg (ls : List Nat) {n m : Nat} (h : leftC ls n < 0) (hm : n ≤ m) : leftC ls m < 0 := by
  induction m with
  | zero => have : n = 0 := by omega
            subst this; exact h
  | succ m ih =>
    by_cases he : n = m + 1
    · subst he; exact h
    · have := ih (by omega)
      rw [leftC_succ]; omega
def shareL (ls : List Nat) (m : Nat) : Nat := (ls.map fun k => if 1 ≤ k ∧ k ≤ m then 2 ^ (m - k) else 0).sum
theorem cntL_cons (k : Nat) (ls : List Nat) (n : Nat) : cntL (k :: ls) n = cntL ls n + (if k = n then 1 else 0) := by
  unfold cntL
  rw [List.countP_cons]
  simp
theorem cntL_append (a b : List Nat) (n : Nat) : cntL (a ++ b) n = cntL a n + cntL b n := by unfold cntL; rw [List.countP_append]
theorem endC_cons (k : Nat) (ls : List Nat) : ∀ n, endC (k :: ls) n = endC ls n + (if 1 ≤ k ∧ k ≤ n then 2 ^ (n - k) else 0)
  | 0 => by rw [if_neg (by omega)]; rfl
  | n + 1 => by
    rw [endC, endC_cons k ls n, cntL_cons, endC]
    by_cases h1 : k = n + 1
    · subst h1
      rw [if_neg (by omega), if_pos rfl, if_pos (by omega), Nat.sub_self]; simp; omega
    · rw [if_neg h1]
      by_cases h2 : 1 ≤ k ∧ k ≤ n
      · rw [if_pos h2, if_pos (by omega), show n + 1 - k = (n - k) + 1 by omega, Nat.pow_succ]; omega
      · rw [if_neg h2, if_neg (by omega)]; omega
theorem endC_share (ls : List Nat) (n : Nat) : endC ls n = shareL ls n := by
  induction ls with
  | nil =>
    induction n with
    | zero => rfl
    | succ n ih => rw [endC, ih]; rfl
  | cons k ls ih => rw [endC_cons, ih]; unfold shareL; rw [List.map_cons, List.sum_cons]; omega
def rankL (ls : List Nat) (s : Nat) : Nat := cntL (ls.take s) (ls.getD s 0)
def codeL (ls : List Nat) (s : Nat) : Nat := startC ls (ls.getD s 0) + rankL ls s
theorem rank_lt {ls : List Nat} {s : Nat} (hs : s < ls.length) : rankL ls s < cntL ls (ls.getD s 0) := by
  unfold rankL
  have e : ls = ls.take s ++ ls[s] :: ls.drop (s + 1) := by rw [← List.drop_eq_getElem_cons hs, List.take_append_drop]
  have hg : ls.getD s 0 = ls[s] := by rw [List.getD_eq_getElem?_getD, List.getElem?_eq_getElem hs]; rfl
  rw [hg]
  generalize ls[s] = x at e
  have h2 := congrArg (fun l => cntL l x) e
  simp only [cntL_append, cntL_cons, if_true] at h2
  omega
theorem code_lt {ls : List Nat} {s : Nat} (hs : s < ls.length) (h1 : 1 ≤ ls.getD s 0) : codeL ls s < endC ls (ls.getD s 0) := by
  rw [endC_start _ h1]
  unfold codeL
  have := rank_lt hs
  omega
theorem endC_shift (ls : List Nat) {n m : Nat} (h : n ≤ m) : endC ls n * 2 ^ (m - n) ≤ endC ls m := by
  induction m with
  | zero => have : n = 0 := by omega
            subst this; simp
  | succ m ih =>
    by_cases he : n = m + 1
    · subst he; rw [Nat.sub_self]; simp
    · have := ih (by omega)
      rw [show m + 1 - n = (m - n) + 1 by omega, Nat.pow_succ, endC]
      have e : endC ls n * (2 ^ (m - n) * 2) = 2 * (endC ls n * 2 ^ (m - n)) := by rw [← Nat.mul_assoc, Nat.mul_comm]
      rw [e]; omega
theorem startC_shift (ls : List Nat) {n m : Nat} (h : n < m) : endC ls n * 2 ^ (m - n) ≤ startC ls m := by
  unfold startC
  have := endC_shift ls (n := n) (m := m - 1) (by omega)
  rw [show m - n = (m - 1 - n) + 1 by omega, Nat.pow_succ]
  have e : endC ls n * (2 ^ (m - 1 - n) * 2) = 2 * (endC ls n * 2 ^ (m - 1 - n)) := by rw [← Nat.mul_assoc, Nat.mul_comm]
  rw [e]; omega
theorem apart_longer {ls : List Nat} {s t : Nat} (hs : s < ls.length) (ht : t < ls.length) (h1 : 1 ≤ ls.getD s 0) (hlt : ls.getD s 0 < ls.getD t 0) :
    codeL ls t / 2 ^ (ls.getD t 0 - ls.getD s 0) ≠ codeL ls s := by
  have h := code_lt hs h1
  have hst := startC_shift ls hlt
  have hc : startC ls (ls.getD t 0) ≤ codeL ls t := by unfold codeL; omega
  have hp : 0 < 2 ^ (ls.getD t 0 - ls.getD s 0) := Nat.two_pow_pos _
  have : endC ls (ls.getD s 0) ≤ codeL ls t / 2 ^ (ls.getD t 0 - ls.getD s 0) := (Nat.le_div_iff_mul_le hp).2 (by omega)
  omega
theorem rank_lt_rank {ls : List Nat} {s t : Nat} (hst : s < t) (ht : t < ls.length) (he : ls.getD s 0 = ls.getD t 0) : rankL ls s < rankL ls t := by
  unfold rankL
  rw [he]
  have hs : s < ls.length := by omega
  have hg : ls.getD s 0 = ls[s] := by rw [List.getD_eq_getElem?_getD, List.getElem?_eq_getElem hs]; rfl
  have e : ls.take t = ls.take s ++ ls[s] :: (ls.take t).drop (s + 1) := by
    have h1 : (ls.take t).take s = ls.take s := by rw [List.take_take, Nat.min_eq_left (by omega)]
    have h2 : s < (ls.take t).length := by rw [List.length_take]; omega
    have h3 := List.take_append_drop s (ls.take t)
    rw [h1, List.drop_eq_getElem_cons h2, List.getElem_take] at h3
    exact h3.symm
  rw [e, cntL_append, cntL_cons, if_pos (by rw [← hg, he])]
  omega
theorem code_inj {ls : List Nat} {s t : Nat} (hs : s < ls.length) (ht : t < ls.length) (hne : s ≠ t) (he : ls.getD s 0 = ls.getD t 0) : codeL ls s ≠ codeL ls t := by
  unfold codeL
  rw [he]
  rcases Nat.lt_or_gt_of_ne hne with h | h
  · have := rank_lt_rank h ht he; omega
  · have := rank_lt_rank h hs he.symm; omega
end Go.Proofs.YtameljhbkedhjaaGreatDoor
namespace Go.Vc
open Go
set_option linter.unusedVariables false
set_option linter.unusedSimpArgs false
def numsV (l : List Int) : List Value := l.map fun z => .int .i64 z
theorem numsV_len (l : List Int) : (numsV l).length = l.length := by simp [numsV]
theorem numsV_one {l : List Int} : (numsV l).all oneCell = true := by simp [numsV, oneCell]
theorem numsV_get {l : List Int} {i : Nat} (h : i < l.length) : (numsV l)[i]? = some (.int .i64 l[i]) := by unfold numsV; rw [List.getElem?_map, List.getElem?_eq_getElem h]; rfl
theorem numsV_append (l m : List Int) : numsV (l ++ m) = numsV l ++ numsV m := by simp [numsV]
theorem numsV_take (l : List Int) (n : Nat) : (numsV l).take n = numsV (l.take n) := by unfold numsV; rw [List.map_take]
theorem numsV_drop (l : List Int) (n : Nat) : (numsV l).drop n = numsV (l.drop n) := by unfold numsV; rw [List.map_drop]
theorem numsV_set (l : List Int) (i : Nat) (z : Int) : (numsV l).set i (.int .i64 z) = numsV (l.set i z) := by unfold numsV; rw [List.map_set]
theorem numsV_rep (n : Nat) : List.replicate n (Value.int .i64 0) = numsV (List.replicate n 0) := by simp [numsV]
theorem int_rows {H : Heap} {a : Option Addr} {len cap : Nat} {zs : List Int} (h : IntRow .i64 H a len cap zs) : ∃ l : List Int, l.length = len ∧ len ≤ maxLen ∧ (∀ z ∈ l, -9223372036854775808 ≤ z ∧ z ≤ 9223372036854775807) ∧ Sl H (.slice a len cap) 1 (numsV l) := by
  refine ⟨zs.take len, ?_, h.len_max, ?_, ?_⟩
  · rw [List.length_take]; have := h.len_le; omega
  · intro z hz
    obtain ⟨i, hi⟩ := List.getElem?_of_mem hz
    rw [List.getElem?_take] at hi
    split at hi
    · rename_i hlt
      have hw := h.wf hlt
      rw [List.getD_eq_getElem?_getD, hi] at hw
      exact wf64 hw
    · cases hi
  · rcases h with ⟨rfl, rfl, rfl, rfl⟩ | ⟨x, rfl, hl, _, hz, hc, hw⟩
    · exact .inl ⟨rfl, rfl⟩
    · refine .inr ⟨x, len, cap, rfl, by rw [numsV_len, List.length_take]; omega, hl, fun i v hv => ?_⟩
      have hi : i < (zs.take len).length := by have := (List.getElem?_eq_some_iff.1 hv).1; rwa [numsV_len] at this
      rw [numsV_get hi, Option.some.injEq] at hv
      rw [List.length_take] at hi
      rw [hc i (by omega), ← hv, List.getD_eq_getElem?_getD, List.getElem?_eq_getElem (by omega), List.getElem_take]
      rfl
end Go.Vc
namespace Go.Proofs
open Go Go.Vc
def Tryz.C : List Nat := [2, 3, 4, 5, 6, 7, 8, 9, 10, 11, 12, 13, 14, 15, 16, 17, 18, 19, 20, 21, 22, 23, 24, 25, 26, 27, 28, 29, 30, 31, 32, 33, 34, 35, 36, 37, 38, 39, 40, 41, 42, 43, 44, 45, 46, 47, 48, 49, 50, 51, 52, 53, 54, 55, 56, 57, 58, 59, 60, 61, 62, 63, 64, 65, 66, 67, 68, 69, 70, 71, 72, 73, 74, 75, 76, 77, 78, 79, 80, 81, 82, 83, 84, 85, 86, 87, 88, 89, 90, 91, 92, 93, 94, 95, 96, 97, 98, 99, 100, 101, 102, 103, 104, 105, 106, 107, 108, 109, 110, 111, 112, 113, 114, 115, 116, 118, 119, 120, 121, 122, 123, 124, 125, 148]
theorem Tryz.mixed : Tryz.prog.follows .mixedOrders = true := by kernel_rfl
set_option maxRecDepth 100000 in
theorem Tryz.callable : Callable Tryz.prog Tryz.C := by
  have key : ∀ f ∈ Tryz.C, ∀ (args : Array Value) (w : World), (callFunc f args).run Tryz.prog w = .ok (.enter f args) w := by
    unfold Tryz.C
    repeat (refine List.forall_mem_cons.2 ⟨fun _ _ => rfl, ?_⟩)
    exact fun _ h => absurd h List.not_mem_nil
  exact fun f hf => key f (memb_iff.1 hf)
end Go.Proofs
namespace Go.Proofs.YtameljhbkedhjaaGreatDoor
open Go Go.Vc Go.Proofs
set_option linter.unusedVariables false
set_option maxHeartbeats 4000000
def inflate_Decoder_head.an : Ann := (.seq (.reg (.op 0 [] .nil)) (.seq (.reg (.op 0 [] (.op 1 [] (.op 2 [] (.op 3 [] (.op 4 [] (.op 5 [] (.op 6 [] (.op 7 [] (.op 8 [] .nil)))))))))) (.seq (.seq (.reg (.op 0 [] (.op 1 [] .nil))) (.cond (.seq (.reg (.op 0 [] (.op 1 [] .nil))) .leaf) .leaf)) (.cut [4] [2, 4, 15, 16, 17, 18, 19, 20, 21, 22, 23, 24, 25, 26, 27, 28, 29, 30, 31, 32, 33, 34, 35, 36, 37, 38, 39, 40, 41, 42, 43, 44, 45, 46, 47, 48, 49, 50, 51, 52, 53, 54, 55, 56, 57, 58, 59, 60, 61, 62, 63, 64, 65] (.seq (.reg (.op 0 [] (.op 1 [] .nil))) (.block (.seq (.reg (.op 0 [] (.op 1 [] .nil))) (.cond (.seq (.reg (.op 0 [] (.op 1 [] (.op 2 [] (.op 3 [] (.op 4 [] (.op 5 [] (.op 6 [] (.op 7 [] (.op 8 [] (.op 9 [] (.op 10 [] (.op 11 [] .nil))))))))))))) (.reg (.op 0 [] (.op 1 [] (.op 2 [] (.op 3 [] .nil)))))) (.seq (.reg (.op 0 [] (.op 1 [] .nil))) (.cond (.seq (.reg (.op 0 [] (.op 1 [] (.op 2 [] (.op 3 [] (.op 4 [] (.op 5 [] (.op 6 [] (.op 7 [] (.op 8 [] (.op 9 [] (.op 10 [] (.op 11 [] .nil))))))))))))) (.reg (.op 0 [] (.op 1 [] (.op 2 [] (.op 3 [] .nil)))))) (.seq (.reg (.op 0 [] (.op 1 [] .nil))) (.cond (.seq (.reg (.op 0 [] (.op 1 [] (.op 2 [] (.op 3 [] (.op 4 [] (.op 5 [] (.op 6 [] (.op 7 [] (.op 8 [] (.op 9 [] (.op 10 [] (.op 11 [] (.op 12 [] (.op 13 [] (.op 14 [] (.op 15 [] (.op 16 [] .nil)))))))))))))))))) (.reg (.op 0 [] (.op 1 [] (.op 2 [] (.op 3 [] .nil)))))) (.seq (.reg (.op 0 [] .nil)) .leaf))))))))) (.seq (.reg (.op 0 [] (.op 1 [] (.op 2 [] (.op 3 [] (.op 4 [] (.op 5 [] (.op 6 [] .nil)))))))) (.seq (.reg (.op 0 [] (.op 1 [] .nil))) .leaf))))))
def inflate_Decoder_head.res (d0 : Value) (H0 : Heap) (R : Value → Heap → Prop) : Prop :=
 pNil d0 fun x7 =>
 pFieldAddr 0 x7 fun x8 =>
 CallsH Tryz.prog 84 #[x8, (.int .i64 3)] H0 fun x9 H_1 =>
 pExtract 0 x9 fun x10 =>
 pExtract 1 x9 fun x11 =>
 pNe 0 x11 (.int .i64 0) fun x13 =>
 pCond x13
 (R x11 H_1)
 (∃ J_2 : Value → Heap → Prop, (∀ _ : Env, ∀ e4 : Value, ∀ H_3 : Heap, J_2 e4 H_3 →
 pBits .and x10 (.int .i64 1) fun x68 =>
 pEq 0 x68 (.int .i64 1) fun x69 =>
 pNil d0 fun x70 =>
 pFieldAddr 8 x70 fun x71 =>
 pStore H_3 x71 x69 fun _ H_4 =>
 R e4 H_4) ∧
 pShr x10 (.int .u64 1) fun x16 =>
 pEq 0 x16 (.int .i64 0) fun x18 =>
 pCond x18
 (pNil d0 fun x22 =>
 pFieldAddr 0 x22 fun x23 =>
 CallsH Tryz.prog 85 #[x23] H_1 fun x24 H_5 =>
 pExtract 0 x24 fun x25 =>
 pExtract 1 x24 fun x26 =>
 pNil d0 fun x27 =>
 pFieldAddr 9 x27 fun x28 =>
 pStore H_5 x28 x25 fun _ H_6 =>
 pNil d0 fun x30 =>
 pFieldAddr 7 x30 fun x31 =>
 pStore H_6 x31 (.int .i64 1) fun _ H_7 =>
 J_2 x26 H_7)
 (pEq 0 x16 (.int .i64 1) fun x33 =>
 pCond x33
 (CallsH Tryz.prog 86 #[] H_1 fun x37 H_8 =>
 pExtract 0 x37 fun x38 =>
 pExtract 1 x37 fun x39 =>
 pNil d0 fun x40 =>
 pFieldAddr 10 x40 fun x41 =>
 pStore H_8 x41 x38 fun _ H_9 =>
 pNil d0 fun x42 =>
 pFieldAddr 11 x42 fun x43 =>
 pStore H_9 x43 x39 fun _ H_10 =>
 pNil d0 fun x45 =>
 pFieldAddr 7 x45 fun x46 =>
 pStore H_10 x46 (.int .i64 2) fun _ H_11 =>
 J_2 x11 H_11)
 (pEq 0 x16 (.int .i64 2) fun x48 =>
 pCond x48
 (pNil d0 fun x53 =>
 pFieldAddr 0 x53 fun x54 =>
 CallsH Tryz.prog 87 #[x54] H_1 fun x55 H_12 =>
 pExtract 0 x55 fun x56 =>
 pExtract 1 x55 fun x57 =>
 pExtract 2 x55 fun x58 =>
 pNil d0 fun x59 =>
 pFieldAddr 10 x59 fun x60 =>
 pStore H_12 x60 x56 fun _ H_13 =>
 pNil d0 fun x61 =>
 pFieldAddr 11 x61 fun x62 =>
 pStore H_13 x62 x57 fun _ H_14 =>
 pNil d0 fun x64 =>
 pFieldAddr 7 x64 fun x65 =>
 pStore H_14 x65 (.int .i64 2) fun _ H_15 =>
 J_2 x58 H_15)
 (R (.int .i64 3) H_1))))
set_option maxRecDepth 100000 in
theorem inflate_Decoder_head.vc (d0 : Value) (H0 : Heap) (R : Value → Heap → Prop) (h : inflate_Decoder_head.res d0 H0 R) : CallsH Tryz.prog 60 #[d0] H0 R := by
  have e : vcFn Tryz.prog Tryz.C Tryz.f60 inflate_Decoder_head.an [d0] H0 R = inflate_Decoder_head.res d0 H0 R := by kernel_rfl
  exact vcFn_sound Tryz.callable Tryz.mixed Tryz.func60 (by kernel_rfl) (e.mpr h)
def inflate_Decoder_copied.an : Ann := (.seq (.reg (.op 0 [] .nil)) (.seq (.drw [0, 1, 3, 0, 8, 24, 56, 127, 255] (.op 0 [] (.op 1 [] (.op 2 [] (.op 3 [] (.op 4 [] (.op 5 [] (.op 6 [] (.op 7 [] (.op 8 [] .nil)))))))))) (.seq (.reg (.op 0 [] (.op 1 [] (.op 2 [] (.op 3 [] (.op 4 [] (.op 5 [] (.op 6 [] (.op 7 [] (.op 8 [] (.op 9 [] .nil))))))))))) (.seq (.reg (.op 0 [] (.op 1 [] (.op 2 [] (.op 3 [] (.op 4 [] .nil)))))) (.seq (.reg (.op 0 [] (.op 1 [] (.op 2 [] (.op 3 [] (.op 4 [] .nil)))))) (.seq (.seq (.reg (.op 0 [] (.op 1 [] (.op 2 [] (.op 3 [] (.op 4 [] .nil)))))) (.cond (.seq (.reg (.op 0 [] .nil)) .leaf) .leaf)) (.seq (.reg (.op 0 [] (.op 1 [] .nil))) (.seq (.reg (.op 0 [] .nil)) .leaf))))))))
def inflate_Decoder_copied.res (d0 : Value) (H0 : Heap) (R : Value → Heap → Prop) : Prop :=
 pNil d0 fun x5 =>
 pFieldAddr 0 x5 fun x6 =>
 pNil d0 fun x8 =>
 pFieldAddr 9 x8 fun x9 =>
 pLoad H0 x9 fun x10 =>
 CallsH Tryz.prog 75 #[x6, x10] H0 fun x11 H_1 =>
 pNil d0 fun x13 =>
 pFieldAddr 9 x13 fun x14 =>
 pLoad H_1 x14 fun x15 =>
 pLenS x11 fun x17 =>
 pSub x15 x17 fun x18 =>
 pNil d0 fun x19 =>
 pFieldAddr 9 x19 fun x20 =>
 pStore H_1 x20 x18 fun _ H_2 =>
 pNil d0 fun x22 =>
 pFieldAddr 3 x22 fun x23 =>
 CallsH Tryz.prog 88 #[x23, x11] H_2 fun x25 H_3 =>
 pNil d0 fun x27 =>
 pFieldAddr 5 x27 fun x28 =>
 CallsH Tryz.prog 89 #[x28, x11] H_3 fun x30 H_4 =>
 pNil d0 fun x32 =>
 pFieldAddr 9 x32 fun x33 =>
 pLoad H_4 x33 fun x34 =>
 pGt x34 (.int .i64 0) fun x35 =>
 pCond x35
 (R (.int .i64 2) H_4)
 (CallsH Tryz.prog 90 #[d0] H_4 fun x37 H_5 =>
 R (.int .i64 0) H_5)
set_option maxRecDepth 100000 in
theorem inflate_Decoder_copied.vc (d0 : Value) (H0 : Heap) (R : Value → Heap → Prop) (h : inflate_Decoder_copied.res d0 H0 R) : CallsH Tryz.prog 61 #[d0] H0 R := by
  have e : vcFn Tryz.prog Tryz.C Tryz.f61 inflate_Decoder_copied.an [d0] H0 R = inflate_Decoder_copied.res d0 H0 R := by kernel_rfl
  exact vcFn_sound Tryz.callable Tryz.mixed Tryz.func61 (by kernel_rfl) (e.mpr h)
def inflate_Decoder_symbol.an : Ann := (.seq (.reg (.op 0 [] .nil)) (.seq (.drw [0, 1, 3, 7, 0, 16, 48, 127, 255, 511, 511, 1023, 4095] (.op 0 [] (.op 1 [] (.op 2 [] (.op 3 [] (.op 4 [] (.op 5 [] (.op 6 [] (.op 7 [] (.op 8 [] (.op 9 [] (.op 10 [] (.op 11 [] (.op 12 [] .nil)))))))))))))) (.seq (.block (.seq (.reg (.op 0 [] (.op 1 [] (.op 2 [] .nil)))) (.cond (.seq (.reg (.op 0 [] (.op 1 [] .nil))) .leaf) (.seq (.reg (.op 0 [] (.op 1 [] (.op 2 [] .nil)))) (.cond (.seq (.reg (.op 0 [] (.op 1 [] .nil))) (.seq (.reg (.op 0 [] .nil)) .leaf)) (.seq (.reg (.op 0 [] (.op 1 [] (.op 2 [] .nil)))) (.cond (.seq (.reg (.op 0 [] (.op 1 [] (.op 2 [] (.op 3 [] .nil))))) .leaf) .leaf))))))) (.seq (.reg (.op 0 [] (.op 1 [] (.op 2 [] (.op 3 [] (.op 4 [] (.op 5 [] .nil))))))) (.seq (.reg (.op 0 [] (.op 1 [] (.op 2 [] (.op 3 [] (.op 4 [] (.op 5 [] .nil))))))) (.seq (.reg (.op 0 [] .nil)) .leaf))))))
def inflate_Decoder_symbol.res (d0 : Value) (H0 : Heap) (R : Value → Heap → Prop) : Prop :=
 pNil d0 fun x7 =>
 pFieldAddr 10 x7 fun x8 =>
 pLoad H0 x8 fun x9 =>
 pNil d0 fun x11 =>
 pFieldAddr 0 x11 fun x12 =>
 CallsH Tryz.prog 18 #[x9, x12] H0 fun x13 H_1 =>
 pExtract 0 x13 fun x14 =>
 pExtract 1 x13 fun x15 =>
 pNe 0 x15 (.int .i64 0) fun x18 =>
 pCond x18
 (R x15 H_1)
 (pEq 0 x14 (.int .i64 256) fun x22 =>
 pCond x22
 (CallsH Tryz.prog 90 #[d0] H_1 fun x24 H_2 =>
 R (.int .i64 0) H_2)
 (pGt x14 (.int .i64 256) fun x27 =>
 pCond x27
 (CallsH Tryz.prog 91 #[d0, x14] H_1 fun x30 H_3 =>
 R x30 H_3)
 (pNil d0 fun x32 =>
 pFieldAddr 3 x32 fun x33 =>
 pConv .u8 x14 fun x35 =>
 CallsH Tryz.prog 92 #[x33, x35] H_1 fun x36 H_4 =>
 pNil d0 fun x38 =>
 pFieldAddr 5 x38 fun x39 =>
 pConv .u8 x14 fun x41 =>
 CallsH Tryz.prog 93 #[x39, x41] H_4 fun x42 H_5 =>
 R (.int .i64 0) H_5)))
set_option maxRecDepth 100000 in
theorem inflate_Decoder_symbol.vc (d0 : Value) (H0 : Heap) (R : Value → Heap → Prop) (h : inflate_Decoder_symbol.res d0 H0 R) : CallsH Tryz.prog 62 #[d0] H0 R := by
  have e : vcFn Tryz.prog Tryz.C Tryz.f62 inflate_Decoder_symbol.an [d0] H0 R = inflate_Decoder_symbol.res d0 H0 R := by kernel_rfl
  exact vcFn_sound Tryz.callable Tryz.mixed Tryz.func62 (by kernel_rfl) (e.mpr h)
def inflate_need.an : Ann := (.seq (.reg (.op 0 [] (.op 1 [] .nil))) (.seq (.reg (.op 0 [] (.op 1 [] (.op 2 [] (.op 3 [] (.op 4 [] (.op 5 [] (.op 6 [] (.op 7 [] .nil))))))))) (.seq (.seq (.reg (.op 0 [] (.op 1 [] .nil))) (.cond (.seq (.reg (.op 0 [] (.op 1 [] .nil))) .leaf) .leaf)) (.seq (.reg (.op 0 [] (.op 1 [] (.op 2 [] (.op 3 [] .nil))))) .leaf))))
def inflate_need.res (r0 : Value) (n1 : Value) (H0 : Heap) (R : Value → Heap → Prop) : Prop :=
 CallsH Tryz.prog 45 #[r0, n1] H0 fun x11 H_1 =>
 pExtract 0 x11 fun x12 =>
 pExtract 1 x11 fun x13 =>
 pNot x13 fun x15 =>
 pCond x15
 (R (.tuple #[(.int .i64 0), (.int .i64 2)]) H_1)
 (pConv .i64 x12 fun x17 =>
 R (.tuple #[x17, (.int .i64 0)]) H_1)
set_option maxRecDepth 100000 in
theorem inflate_need.vc (r0 : Value) (n1 : Value) (H0 : Heap) (R : Value → Heap → Prop) (h : inflate_need.res r0 n1 H0 R) : CallsH Tryz.prog 84 #[r0, n1] H0 R := by
  have e : vcFn Tryz.prog Tryz.C Tryz.f84 inflate_need.an [r0, n1] H0 R = inflate_need.res r0 n1 H0 R := by kernel_rfl
  exact vcFn_sound Tryz.callable Tryz.mixed Tryz.func84 (by kernel_rfl) (e.mpr h)
def inflate_storedLength.an : Ann := (.seq (.reg (.op 0 [] (.op 1 [] .nil))) (.seq (.reg (.op 0 [] (.op 1 [] .nil))) (.seq (.reg (.op 0 [] (.op 1 [] (.op 2 [] (.op 3 [] (.op 4 [] (.op 5 [] (.op 6 [] .nil)))))))) (.cut [5] [5, 13, 14, 15, 16, 17, 18, 19, 20, 21, 22] (.seq (.reg (.op 0 [] (.op 1 [] (.op 2 [] (.grp 2 (.op 3 [] (.op 4 [] (.op 5 [] (.op 6 [] (.op 7 [] (.op 8 [] .nil)))))) 9 .nil))))) (.cond (.reg (.op 0 [] .nil)) .leaf)) (.seq (.reg (.op 0 [] (.op 1 [] (.op 2 [] (.op 3 [] (.op 4 [] .nil)))))) .leaf)))))
def inflate_storedLength.res (r0 : Value) (H0 : Heap) (R : Value → Heap → Prop) : Prop :=
 CallsH Tryz.prog 99 #[r0] H0 fun x7 H_1 =>
 CallsH Tryz.prog 84 #[r0, (.int .i64 32)] H_1 fun x10 H_2 =>
 pExtract 0 x10 fun x11 =>
 pExtract 1 x10 fun x12 =>
 ∃ J_3 : Value → Heap → Prop, (∀ _ : Env, ∀ e5 : Value, ∀ H_4 : Heap, J_3 e5 H_4 →
 pBits .and x11 (.int .i64 65535) fun x24 =>
 R (.tuple #[x24, e5]) H_4) ∧
 pEq 0 x12 (.int .i64 0) fun x14 =>
 pAnd x14 (fun J_5 =>
 pBits .and x11 (.int .i64 65535) fun x17 =>
 pShr x11 (.int .u64 16) fun x19 =>
 pBits .xor x17 x19 fun x20 =>
 pNe 0 x20 (.int .i64 65535) fun x21 =>
 J_5 x21 H_2) H_2 fun x22 H_6 => ∀ _ : Env,
 pCond x22
 (J_3 (.int .i64 8) H_6)
 (J_3 x12 H_6)
set_option maxRecDepth 100000 in
theorem inflate_storedLength.vc (r0 : Value) (H0 : Heap) (R : Value → Heap → Prop) (h : inflate_storedLength.res r0 H0 R) : CallsH Tryz.prog 85 #[r0] H0 R := by
  have e : vcFn Tryz.prog Tryz.C Tryz.f85 inflate_storedLength.an [r0] H0 R = inflate_storedLength.res r0 H0 R := by kernel_rfl
  exact vcFn_sound Tryz.callable Tryz.mixed Tryz.func85 (by kernel_rfl) (e.mpr h)
def inflate_fixedCodes.an : Ann := (.seq (.reg (.op 0 [] (.op 1 [] .nil))) (.seq (.reg (.op 0 [] (.op 1 [] .nil))) (.seq (.seq (.reg (.op 0 [] (.op 1 [] (.op 2 [] (.op 3 [] (.op 4 [] (.op 5 [] .nil))))))) (.block (.loop [2, 15] [2, 5, 15, 16, 17, 18, 19, 20, 21, 22, 23, 24, 25, 26, 27, 28] (.seq (.reg (.op 0 [] .nil)) (.seq (.cond .leaf .leaf) (.seq (.block (.seq (.reg (.op 0 [] (.op 1 [] (.op 2 [] .nil)))) (.block (.loop [2] [2, 18, 19, 20, 21, 22, 23, 24, 25, 26, 27] (.seq (.seq (.reg (.op 0 [] (.op 1 [] (.op 2 [] (.op 3 [] (.op 4 [] .nil)))))) (.cond .leaf .leaf)) (.block (.reg (.op 0 [] (.op 1 [] (.op 2 [] (.op 3 [] (.op 4 [] (.op 5 [] .nil))))))))))))) (.reg (.op 0 [] (.op 1 [] .nil))))))))) (.seq (.seq (.reg (.op 0 [] .nil)) (.block (.loop [3, 29] [3, 29, 30, 31, 32, 33, 34] (.seq (.reg (.op 0 [] .nil)) (.seq (.cond .leaf .leaf) (.seq (.block (.reg (.op 0 [] (.op 1 [] (.op 2 [] (.op 3 [] .nil)))))) (.reg (.op 0 [] (.op 1 [] .nil))))))))) (.seq (.reg (.op 0 [] (.op 1 [] (.op 2 [] (.op 3 [] (.op 4 [] (.op 5 [] (.op 6 [] .nil)))))))) (.seq (.reg (.op 0 [] (.op 1 [] (.op 2 [] (.op 3 [] (.op 4 [] (.op 5 [] (.op 6 [] .nil)))))))) (.seq (.reg (.op 0 [] (.op 1 [] (.op 2 [] (.op 3 [] .nil))))) .leaf)))))))
def inflate_fixedCodes.res (H0 : Heap) (R : Value → Heap → Prop) : Prop :=
 pBuild [(.int .i64 0), (.int .i64 0)] [(0, 1, (.int .i64 8)), (1, 1, (.int .i64 144))] fun x10 =>
 pBuild [(.int .i64 0), (.int .i64 0)] [(0, 1, (.int .i64 9)), (1, 1, (.int .i64 256))] fun x11 =>
 pBuild [(.int .i64 0), (.int .i64 0)] [(0, 1, (.int .i64 7)), (1, 1, (.int .i64 280))] fun x12 =>
 pBuild [(.int .i64 0), (.int .i64 0)] [(0, 1, (.int .i64 8)), (1, 1, (.int .i64 288))] fun x13 =>
 pBuild [(.int .i64 0), (.int .i64 0), (.int .i64 0), (.int .i64 0), (.int .i64 0), (.int .i64 0), (.int .i64 0), (.int .i64 0)] [(0, 2, x10), (2, 2, x11), (4, 2, x12), (6, 2, x13)] fun x14 =>
 ∃ (I_1 : Value → Value → Heap → Prop) (m_2 : Value → Value → Heap → Nat), I_1 (.slice none 0 0) (.int .i64 0) H0 ∧
 ∀ _ : Env, ∀ l2 : Value, ∀ x15 : Value, ∀ H_3 : Heap, I_1 l2 x15 H_3 →
 pLt x15 (.int .i64 4) fun x16 =>
 pCond x16
 (pIdxAggN 4 2 x14 x15 fun x17 =>
 pBox H_3 154 (.agg #[(.int .i64 0), (.int .i64 0)]) fun x5 H_4 =>
 pStoreN H_4 2 x5 x17 fun _ H_5 =>
 ∃ (I_6 : Value → Heap → Prop) (m_7 : Value → Heap → Nat), I_6 l2 H_5 ∧
 ∀ _ : Env, ∀ l2' : Value, ∀ H_8 : Heap, I_6 l2' H_8 →
 pLen l2' fun x19 =>
 pFieldAddr 1 x5 fun x20 =>
 pLoad H_8 x20 fun x21 =>
 pLt x19 x21 fun x22 =>
 pCond x22
 (pFieldAddr 0 x5 fun x24 =>
 pLoad H_8 x24 fun x25 =>
 pBuildSl H_8 3 1 [(.int .i64 0)] [(0, 1, x25)] fun x26 H_9 =>
 pAppend H_9 3 1 8 [(.int .i64 0)] l2' x26 fun x27 H_10 =>
 I_6 x27 H_10 ∧ m_7 x27 H_10 < m_7 l2' H_8)
 (pAdd x15 (.int .i64 1) fun x28 =>
 I_1 l2' x28 H_8 ∧ m_2 l2' x28 H_8 < m_2 l2 x15 H_3))
 (∃ (I_11 : Value → Value → Heap → Prop) (m_12 : Value → Value → Heap → Nat), I_11 (.slice none 0 0) (.int .i64 0) H_3 ∧
 ∀ _ : Env, ∀ d3 : Value, ∀ x29 : Value, ∀ H_13 : Heap, I_11 d3 x29 H_13 →
 pLt x29 (.int .i64 32) fun x30 =>
 pCond x30
 (pBuildSl H_13 3 1 [(.int .i64 0)] [(0, 1, (.int .i64 5))] fun x32 H_14 =>
 pAppend H_14 3 1 8 [(.int .i64 0)] d3 x32 fun x33 H_15 =>
 pAdd x29 (.int .i64 1) fun x34 =>
 I_11 x33 x34 H_15 ∧ m_12 x33 x34 H_15 < m_12 d3 x29 H_13)
 (CallsH Tryz.prog 13 #[l2, (.bool false)] H_13 fun x37 H_16 =>
 pExtract 0 x37 fun x38 =>
 pExtract 1 x37 fun x39 =>
 CallsH Tryz.prog 13 #[d3, (.bool false)] H_16 fun x42 H_17 =>
 pExtract 0 x42 fun x43 =>
 pExtract 1 x42 fun x44 =>
 R (.tuple #[x38, x43]) H_17))
set_option maxRecDepth 100000 in
theorem inflate_fixedCodes.vc (H0 : Heap) (R : Value → Heap → Prop) (h : inflate_fixedCodes.res H0 R) : CallsH Tryz.prog 86 #[] H0 R := by
  have e : vcFn Tryz.prog Tryz.C Tryz.f86 inflate_fixedCodes.an [] H0 R = inflate_fixedCodes.res H0 R := by kernel_rfl
  exact vcFn_sound Tryz.callable Tryz.mixed Tryz.func86 (by kernel_rfl) (e.mpr h)
def inflate_dynamicCodes.an : Ann := (.seq (.reg (.op 0 [] (.op 1 [] (.op 2 [] .nil)))) (.seq (.reg (.op 0 [] (.op 1 [] (.op 2 [] (.op 3 [] (.op 4 [] (.op 5 [] (.op 6 [] .nil)))))))) (.seq (.seq (.reg (.op 0 [] (.op 1 [] .nil))) (.cond (.seq (.reg (.op 0 [] (.op 1 [] (.op 2 [] (.op 3 [] .nil))))) .leaf) .leaf)) (.seq (.reg (.op 0 [] (.op 1 [] (.op 2 [] (.op 3 [] (.op 4 [] (.op 5 [] (.op 6 [] (.op 7 [] (.op 8 [] (.op 9 [] (.op 10 [] (.op 11 [] (.op 12 [] .nil)))))))))))))) (.seq (.seq (.reg (.op 0 [] (.op 1 [] (.op 2 [] (.grp 2 (.op 3 [] (.op 4 [] .nil)) 5 .nil))))) (.cond (.seq (.reg (.op 0 [] (.op 1 [] (.op 2 [] .nil)))) .leaf) .leaf)) (.seq (.reg (.op 0 [] (.op 1 [] (.op 2 [] (.op 3 [] (.op 4 [] (.op 5 [] (.op 6 [] (.op 7 [] .nil))))))))) (.seq (.seq (.reg (.op 0 [] (.op 1 [] .nil))) (.cond (.seq (.reg (.op 0 [] (.op 1 [] (.op 2 [] (.op 3 [] .nil))))) .leaf) .leaf)) (.seq (.reg (.op 0 [] (.op 1 [] (.op 2 [] (.op 3 [] (.op 4 [] (.op 5 [] (.op 6 [] (.op 7 [] (.op 8 [] (.op 9 [] (.op 10 [] .nil)))))))))))) (.seq (.seq (.reg (.op 0 [] (.op 1 [] .nil))) (.cond (.seq (.reg (.op 0 [] (.op 1 [] (.op 2 [] (.op 3 [] .nil))))) .leaf) .leaf)) (.seq (.seq (.reg (.op 0 [] (.op 1 [] (.op 2 [] (.op 3 [] .nil))))) (.cond (.seq (.reg (.op 0 [] (.op 1 [] (.op 2 [] .nil)))) .leaf) .leaf)) (.seq (.reg (.op 0 [] (.op 1 [] (.op 2 [] (.op 3 [] (.op 4 [] (.op 5 [] (.op 6 [] (.op 7 [] (.op 8 [] .nil)))))))))) (.seq (.seq (.reg (.op 0 [] (.op 1 [] .nil))) (.cond (.seq (.reg (.op 0 [] (.op 1 [] (.op 2 [] (.op 3 [] .nil))))) .leaf) .leaf)) (.seq (.reg (.op 0 [] (.op 1 [] (.op 2 [] (.op 3 [] (.op 4 [] (.op 5 [] (.op 6 [] (.op 7 [] (.op 8 [] .nil)))))))))) (.seq (.reg (.op 0 [] (.op 1 [] (.op 2 [] (.op 3 [] (.op 4 [] (.op 5 [] .nil))))))) .leaf))))))))))))))
def inflate_dynamicCodes.res (r0 : Value) (H0 : Heap) (R : Value → Heap → Prop) : Prop :=
 CallsH Tryz.prog 84 #[r0, (.int .i64 14)] H0 fun x16 H_1 =>
 pExtract 0 x16 fun x17 =>
 pExtract 1 x16 fun x18 =>
 pNe 0 x18 (.int .i64 0) fun x20 =>
 pCond x20
 (R (.tuple #[(.pointer none), (.pointer none), x18]) H_1)
 (pBits .and x17 (.int .i64 31) fun x23 =>
 pAdd x23 (.int .i64 257) fun x24 =>
 pShr x17 (.int .u64 5) fun x26 =>
 pBits .and x26 (.int .i64 31) fun x27 =>
 pAdd x27 (.int .i64 1) fun x28 =>
 pShr x17 (.int .u64 10) fun x30 =>
 pAdd x30 (.int .i64 4) fun x31 =>
 pGt x24 (.int .i64 286) fun x33 =>
 pOr x33 (fun J_2 =>
 pGt x28 (.int .i64 30) fun x36 =>
 J_2 x36 H_1) H_1 fun x37 H_3 => ∀ _ : Env,
 pCond x37
 (R (.tuple #[(.pointer none), (.pointer none), (.int .i64 20)]) H_3)
 (CallsH Tryz.prog 101 #[r0, x31] H_3 fun x41 H_4 =>
 pExtract 0 x41 fun x42 =>
 pExtract 1 x41 fun x43 =>
 pNe 0 x43 (.int .i64 0) fun x45 =>
 pCond x45
 (R (.tuple #[(.pointer none), (.pointer none), x43]) H_4)
 (pAdd x24 x28 fun x52 =>
 CallsH Tryz.prog 102 #[r0, x42, x52] H_4 fun x53 H_5 =>
 pExtract 0 x53 fun x54 =>
 pExtract 1 x53 fun x55 =>
 pNe 0 x55 (.int .i64 0) fun x57 =>
 pCond x57
 (R (.tuple #[(.pointer none), (.pointer none), x55]) H_5)
 (pIdxSl 1 x54 (.int .i64 256) fun x60 =>
 pLoad H_5 x60 fun x61 =>
 pEq 0 x61 (.int .i64 0) fun x62 =>
 pCond x62
 (R (.tuple #[(.pointer none), (.pointer none), (.int .i64 12)]) H_5)
 (pSlSl 1 x54 none (some x24) fun x66 =>
 CallsH Tryz.prog 13 #[x66, (.bool false)] H_5 fun x67 H_6 =>
 pExtract 0 x67 fun x68 =>
 pExtract 1 x67 fun x69 =>
 pNe 0 x69 (.int .i64 0) fun x71 =>
 pCond x71
 (R (.tuple #[(.pointer none), (.pointer none), x69]) H_6)
 (pSlSl 1 x54 (some x24) none fun x76 =>
 CallsH Tryz.prog 13 #[x76, (.bool true)] H_6 fun x77 H_7 =>
 pExtract 0 x77 fun x78 =>
 pExtract 1 x77 fun x79 =>
 R (.tuple #[x68, x78, x79]) H_7))))))
set_option maxRecDepth 100000 in
theorem inflate_dynamicCodes.vc (r0 : Value) (H0 : Heap) (R : Value → Heap → Prop) (h : inflate_dynamicCodes.res r0 H0 R) : CallsH Tryz.prog 87 #[r0] H0 R := by
  have e : vcFn Tryz.prog Tryz.C Tryz.f87 inflate_dynamicCodes.an [r0] H0 R = inflate_dynamicCodes.res r0 H0 R := by kernel_rfl
  exact vcFn_sound Tryz.callable Tryz.mixed Tryz.func87 (by kernel_rfl) (e.mpr h)
def inflate_Decoder_ended.an : Ann := (.seq (.reg (.op 0 [] (.op 1 [] (.op 2 [] (.op 3 [] .nil))))) (.seq (.reg (.op 0 [] (.op 1 [] (.op 2 [] (.op 3 [] .nil))))) (.cond (.seq (.reg (.op 0 [] (.op 1 [] (.op 2 [] (.op 3 [] .nil))))) (.reg (.op 0 [] (.op 1 [] (.op 2 [] (.op 3 [] .nil)))))) .leaf)))
def inflate_Decoder_ended.res (d0 : Value) (H0 : Heap) (R : Value → Heap → Prop) : Prop :=
 pNil d0 fun x3 =>
 pFieldAddr 7 x3 fun x4 =>
 pStore H0 x4 (.int .i64 0) fun _ H_1 =>
 pNil d0 fun x6 =>
 pFieldAddr 8 x6 fun x7 =>
 pLoad H_1 x7 fun x8 =>
 pCond x8
 (pNil d0 fun x10 =>
 pFieldAddr 7 x10 fun x11 =>
 pStore H_1 x11 (.int .i64 3) fun _ H_2 =>
 pNil d0 fun x13 =>
 pFieldAddr 0 x13 fun x14 =>
 CallsH Tryz.prog 99 #[x14] H_2 fun x15 H_3 =>
 R (.tuple #[]) H_3)
 (R (.tuple #[]) H_1)
set_option maxRecDepth 100000 in
theorem inflate_Decoder_ended.vc (d0 : Value) (H0 : Heap) (R : Value → Heap → Prop) (h : inflate_Decoder_ended.res d0 H0 R) : CallsH Tryz.prog 90 #[d0] H0 R := by
  have e : vcFn Tryz.prog Tryz.C Tryz.f90 inflate_Decoder_ended.an [d0] H0 R = inflate_Decoder_ended.res d0 H0 R := by kernel_rfl
  exact vcFn_sound Tryz.callable Tryz.mixed Tryz.func90 (by kernel_rfl) (e.mpr h)
def inflate_Decoder_match.an : Ann := (.seq (.reg (.op 0 [] .nil)) (.seq (.reg (.op 0 [] (.op 1 [] (.op 2 [] (.op 3 [] (.op 4 [] (.op 5 [] (.op 6 [] (.op 7 [] (.op 8 [] (.op 9 [] (.op 10 [] (.op 11 [] .nil))))))))))))) (.seq (.seq (.reg (.op 0 [] (.op 1 [] .nil))) (.cond (.seq (.reg (.op 0 [] (.op 1 [] .nil))) .leaf) .leaf)) (.seq (.drw [0, 1, 3, 7, 0, 16, 48, 127, 255, 511, 511, 1023, 4095] (.op 0 [] (.op 1 [] (.op 2 [] (.op 3 [] (.op 4 [] (.op 5 [] (.op 6 [] (.op 7 [] (.op 8 [] (.op 9 [] (.op 10 [] (.op 11 [] (.op 12 [] .nil)))))))))))))) (.seq (.seq (.reg (.op 0 [] (.op 1 [] .nil))) (.cond (.seq (.reg (.op 0 [] (.op 1 [] .nil))) .leaf) .leaf)) (.seq (.reg (.op 0 [] (.op 1 [] (.op 2 [] (.op 3 [] (.op 4 [] (.op 5 [] (.op 6 [] (.op 7 [] (.op 8 [] (.op 9 [] (.op 10 [] (.op 11 [] .nil))))))))))))) (.seq (.seq (.reg (.op 0 [] (.op 1 [] .nil))) (.cond (.seq (.reg (.op 0 [] (.op 1 [] .nil))) .leaf) .leaf)) (.seq (.reg (.op 0 [] (.op 1 [] (.op 2 [] (.op 3 [] (.op 4 [] (.op 5 [] (.op 6 [] (.op 7 [] (.op 8 [] (.op 9 [] (.op 10 [] .nil)))))))))))) (.seq (.seq (.reg (.op 0 [] (.op 1 [] .nil))) (.cond (.seq (.reg (.op 0 [] .nil)) .leaf) .leaf)) (.seq (.reg (.op 0 [] (.op 1 [] (.op 2 [] (.op 3 [] (.op 4 [] .nil)))))) (.seq (.reg (.op 0 [] .nil)) .leaf)))))))))))
def inflate_Decoder_match.res (d0 : Value) (s1 : Value) (H0 : Heap) (R : Value → Heap → Prop) : Prop :=
 CallsH Tryz.prog 78 #[s1] H0 fun x14 H_1 =>
 pExtract 0 x14 fun x15 =>
 pExtract 1 x14 fun x16 =>
 pExtract 2 x14 fun x17 =>
 CallsH Tryz.prog 104 #[d0, x15, x16, x17] H_1 fun x18 H_2 =>
 pExtract 0 x18 fun x19 =>
 pExtract 1 x18 fun x20 =>
 pNe 0 x20 (.int .i64 0) fun x22 =>
 pCond x22
 (R x20 H_2)
 (pNil d0 fun x26 =>
 pFieldAddr 11 x26 fun x27 =>
 pLoad H_2 x27 fun x28 =>
 pNil d0 fun x30 =>
 pFieldAddr 0 x30 fun x31 =>
 CallsH Tryz.prog 18 #[x28, x31] H_2 fun x32 H_3 =>
 pExtract 0 x32 fun x33 =>
 pExtract 1 x32 fun x34 =>
 pNe 0 x34 (.int .i64 0) fun x36 =>
 pCond x36
 (R x34 H_3)
 (CallsH Tryz.prog 79 #[x33] H_3 fun x41 H_4 =>
 pExtract 0 x41 fun x42 =>
 pExtract 1 x41 fun x43 =>
 pExtract 2 x41 fun x44 =>
 CallsH Tryz.prog 104 #[d0, x42, x43, x44] H_4 fun x45 H_5 =>
 pExtract 0 x45 fun x46 =>
 pExtract 1 x45 fun x47 =>
 pNe 0 x47 (.int .i64 0) fun x49 =>
 pCond x49
 (R x47 H_5)
 (pNil d0 fun x53 =>
 pFieldAddr 3 x53 fun x54 =>
 CallsH Tryz.prog 105 #[x54, x19, x46] H_5 fun x57 H_6 =>
 pExtract 0 x57 fun x58 =>
 pExtract 1 x57 fun x59 =>
 pNot x59 fun x61 =>
 pCond x61
 (R (.int .i64 6) H_6)
 (pNil d0 fun x63 =>
 pFieldAddr 5 x63 fun x64 =>
 CallsH Tryz.prog 89 #[x64, x58] H_6 fun x66 H_7 =>
 R (.int .i64 0) H_7))))
set_option maxRecDepth 100000 in
theorem inflate_Decoder_match.vc (d0 : Value) (s1 : Value) (H0 : Heap) (R : Value → Heap → Prop) (h : inflate_Decoder_match.res d0 s1 H0 R) : CallsH Tryz.prog 91 #[d0, s1] H0 R := by
  have e : vcFn Tryz.prog Tryz.C Tryz.f91 inflate_Decoder_match.an [d0, s1] H0 R = inflate_Decoder_match.res d0 s1 H0 R := by kernel_rfl
  exact vcFn_sound Tryz.callable Tryz.mixed Tryz.func91 (by kernel_rfl) (e.mpr h)
def inflate_teller.an : Ann := (.seq (.reg (.op 0 [] (.op 1 [] .nil))) (.seq (.reg (.op 0 [] (.op 1 [] .nil))) (.seq (.seq (.reg (.op 0 [] (.op 1 [] (.op 2 [] (.op 3 [] .nil))))) (.block (.loop [15] [4, 5, 8, 9, 10, 15, 16, 17, 18, 19, 20, 21, 22, 23, 24, 25, 26, 27, 28, 29, 30, 31] (.seq (.reg (.op 0 [] .nil)) (.seq (.cond .leaf .leaf) (.seq (.block (.seq (.reg (.op 0 [] (.op 1 [] (.op 2 [] .nil)))) (.seq (.reg (.op 0 [] (.op 1 [] (.op 2 [] (.op 3 [] (.op 4 [] (.op 5 [] (.op 6 [] .nil)))))))) (.seq (.seq (.reg (.op 0 [] (.op 1 [] .nil))) (.cond (.seq (.reg (.op 0 [] (.op 1 [] (.op 2 [] .nil)))) .leaf) .leaf)) (.reg (.op 0 [] (.op 1 [] (.op 2 [] (.op 3 [] (.op 4 [] .nil)))))))))) (.reg (.op 0 [] (.op 1 [] .nil))))))))) (.seq (.reg (.op 0 [] (.op 1 [] (.op 2 [] (.op 3 [] (.op 4 [] (.op 5 [] .nil))))))) .leaf))))
def inflate_teller.res (r0 : Value) (n1 : Value) (H0 : Heap) (R : Value → Heap → Prop) : Prop :=
 pMakeSl H0 3 8 [(.int .i64 0)] (.int .i64 19) (.int .i64 19) fun x11 H_1 =>
 pSlArr 19 1 (.pointer (some ⟨1, 0, none⟩)) none (some n1) fun x13 =>
 pLen x13 fun x14 =>
 ∃ (I_2 : Value → Heap → Prop) (m_3 : Value → Heap → Nat), I_2 (.int .i64 0) H_1 ∧
 ∀ _ : Env, ∀ x15 : Value, ∀ H_4 : Heap, I_2 x15 H_4 →
 pLt x15 x14 fun x16 =>
 pCond x16
 (pIdxSl 1 x13 x15 fun x17 =>
 pLoad H_4 x17 fun x18 =>
 CallsH Tryz.prog 84 #[r0, (.int .i64 3)] H_4 fun x21 H_5 =>
 pExtract 0 x21 fun x22 =>
 pExtract 1 x21 fun x23 =>
 pNe 0 x23 (.int .i64 0) fun x25 =>
 pCond x25
 (R (.tuple #[(.pointer none), x23]) H_5)
 (pIdxSl 1 x11 x18 fun x30 =>
 pStore H_5 x30 x22 fun _ H_6 =>
 pAdd x15 (.int .i64 1) fun x31 =>
 I_2 x31 H_6 ∧ m_3 x31 H_6 < m_3 x15 H_4))
 (CallsH Tryz.prog 13 #[x11, (.bool false)] H_4 fun x33 H_7 =>
 pExtract 0 x33 fun x34 =>
 pExtract 1 x33 fun x35 =>
 R (.tuple #[x34, x35]) H_7)
set_option maxRecDepth 100000 in
theorem inflate_teller.vc (r0 : Value) (n1 : Value) (H0 : Heap) (R : Value → Heap → Prop) (h : inflate_teller.res r0 n1 H0 R) : CallsH Tryz.prog 101 #[r0, n1] H0 R := by
  have e : vcFn Tryz.prog Tryz.C Tryz.f101 inflate_teller.an [r0, n1] H0 R = inflate_teller.res r0 n1 H0 R := by kernel_rfl
  exact vcFn_sound Tryz.callable Tryz.mixed Tryz.func101 (by kernel_rfl) (e.mpr h)
def inflate_lengths.an : Ann := (.seq (.reg (.op 0 [] (.op 1 [] .nil))) (.seq (.reg (.op 0 [] .nil)) (.seq (.block (.loop [8] [6, 7, 8, 9, 10, 11, 12, 13, 14, 15, 16, 17, 18, 19, 20, 21, 22, 23, 24, 25, 26, 27, 28, 29, 30, 31, 32, 33, 34, 35, 36, 37, 38, 39, 40, 41, 42, 43, 44, 45, 46, 47, 48, 49, 50, 51, 52] (.seq (.seq (.reg (.op 0 [] (.op 1 [] (.op 2 [] (.op 3 [] .nil))))) (.cond .leaf .leaf)) (.block (.seq (.reg (.op 0 [] (.op 1 [] (.op 2 [] (.op 3 [] (.op 4 [] (.op 5 [] (.op 6 [] (.op 7 [] .nil))))))))) (.seq (.seq (.reg (.op 0 [] (.op 1 [] .nil))) (.cond (.seq (.reg (.op 0 [] (.op 1 [] (.op 2 [] .nil)))) .leaf) .leaf)) (.seq (.reg (.op 0 [] (.op 1 [] (.op 2 [] (.op 3 [] (.op 4 [] (.op 5 [] (.op 6 [] (.op 7 [] (.op 8 [] (.op 9 [] (.op 10 [] .nil)))))))))))) (.seq (.block (.seq (.reg (.op 0 [] (.op 1 [] (.op 2 [] .nil)))) (.cond (.seq (.reg (.op 0 [] (.op 1 [] (.op 2 [] .nil)))) .leaf) (.seq (.reg (.op 0 [] (.op 1 [] (.op 2 [] (.op 3 [] (.op 4 [] (.op 5 [] (.op 6 [] .nil)))))))) (.cond (.seq (.reg (.op 0 [] (.op 1 [] .nil))) .leaf) .leaf))))) (.seq (.reg (.op 0 [] (.op 1 [] .nil))) (.block (.loop [8, 46] [8, 46, 47, 48, 49, 50, 51, 52] (.seq (.reg (.op 0 [] .nil)) (.seq (.cond .leaf .leaf) (.seq (.block (.reg (.op 0 [] (.op 1 [] (.op 2 [] (.op 3 [] (.op 4 [] .nil))))))) (.reg (.op 0 [] (.op 1 [] .nil))))))))))))))))) (.seq (.reg (.op 0 [] (.op 1 [] (.op 2 [] .nil)))) .leaf))))
def inflate_lengths.res (r0 : Value) (c1 : Value) (n2 : Value) (H0 : Heap) (R : Value → Heap → Prop) : Prop :=
 ∃ (I_1 : Value → Heap → Prop) (m_2 : Value → Heap → Nat), I_1 (.slice none 0 0) H0 ∧
 ∀ _ : Env, ∀ out8 : Value, ∀ H_3 : Heap, I_1 out8 H_3 →
 pLen out8 fun x14 =>
 pLt x14 n2 fun x16 =>
 pCond x16
 (CallsH Tryz.prog 18 #[c1, r0] H_3 fun x20 H_4 =>
 pExtract 0 x20 fun x21 =>
 pExtract 1 x20 fun x22 =>
 pNe 0 x22 (.int .i64 0) fun x24 =>
 pCond x24
 (R (.tuple #[(.slice none 0 0), x22]) H_4)
 (CallsH Tryz.prog 116 #[r0, x21, out8] H_4 fun x30 H_5 =>
 pExtract 0 x30 fun x31 =>
 pExtract 1 x30 fun x32 =>
 pExtract 2 x30 fun x33 =>
 pNe 0 x33 (.int .i64 0) fun x36 =>
 pCond x36
 (R (.tuple #[(.slice none 0 0), x33]) H_5)
 (pLen out8 fun x42 =>
 pSub n2 x42 fun x43 =>
 pGt x31 x43 fun x44 =>
 pCond x44
 (R (.tuple #[(.slice none 0 0), (.int .i64 20)]) H_5)
 (∃ (I_6 : Value → Value → Heap → Prop) (m_7 : Value → Value → Heap → Nat), I_6 out8 (.int .i64 0) H_5 ∧
 ∀ _ : Env, ∀ out8' : Value, ∀ x46 : Value, ∀ H_8 : Heap, I_6 out8' x46 H_8 →
 pLt x46 x31 fun x47 =>
 pCond x47
 (pBuildSl H_8 3 1 [(.int .i64 0)] [(0, 1, x32)] fun x50 H_9 =>
 pAppend H_9 3 1 8 [(.int .i64 0)] out8' x50 fun x51 H_10 =>
 pAdd x46 (.int .i64 1) fun x52 =>
 I_6 x51 x52 H_10 ∧ m_7 x51 x52 H_10 < m_7 out8' x46 H_8)
 (I_1 out8' H_8 ∧ m_2 out8' H_8 < m_2 out8 H_3)))))
 (R (.tuple #[out8, (.int .i64 0)]) H_3)
set_option maxRecDepth 100000 in
theorem inflate_lengths.vc (r0 : Value) (c1 : Value) (n2 : Value) (H0 : Heap) (R : Value → Heap → Prop) (h : inflate_lengths.res r0 c1 n2 H0 R) : CallsH Tryz.prog 102 #[r0, c1, n2] H0 R := by
  have e : vcFn Tryz.prog Tryz.C Tryz.f102 inflate_lengths.an [r0, c1, n2] H0 R = inflate_lengths.res r0 c1 n2 H0 R := by kernel_rfl
  exact vcFn_sound Tryz.callable Tryz.mixed Tryz.func102 (by kernel_rfl) (e.mpr h)
def inflate_Decoder_extra.an : Ann := (.seq (.reg (.op 0 [] (.op 1 [] .nil))) (.seq (.seq (.reg (.op 0 [] (.op 1 [] .nil))) (.cond (.seq (.reg (.op 0 [] (.op 1 [] .nil))) .leaf) .leaf)) (.seq (.reg (.op 0 [] (.op 1 [] (.op 2 [] (.op 3 [] (.op 4 [] (.op 5 [] (.op 6 [] (.op 7 [] (.op 8 [] (.op 9 [] .nil))))))))))) (.seq (.reg (.op 0 [] (.op 1 [] (.op 2 [] (.op 3 [] (.op 4 [] (.op 5 [] .nil))))))) .leaf))))
def inflate_Decoder_extra.res (d0 : Value) (least1 : Value) (n2 : Value) (ok3 : Value) (H0 : Heap) (R : Value → Heap → Prop) : Prop :=
 pNot ok3 fun x13 =>
 pCond x13
 (R (.tuple #[(.int .i64 0), (.int .i64 4)]) H0)
 (pNil d0 fun x16 =>
 pFieldAddr 0 x16 fun x17 =>
 CallsH Tryz.prog 84 #[x17, n2] H0 fun x19 H_1 =>
 pExtract 0 x19 fun x20 =>
 pExtract 1 x19 fun x21 =>
 pAdd least1 x20 fun x24 =>
 R (.tuple #[x24, x21]) H_1)
set_option maxRecDepth 100000 in
theorem inflate_Decoder_extra.vc (d0 : Value) (least1 : Value) (n2 : Value) (ok3 : Value) (H0 : Heap) (R : Value → Heap → Prop) (h : inflate_Decoder_extra.res d0 least1 n2 ok3 H0 R) : CallsH Tryz.prog 104 #[d0, least1, n2, ok3] H0 R := by
  have e : vcFn Tryz.prog Tryz.C Tryz.f104 inflate_Decoder_extra.an [d0, least1, n2, ok3] H0 R = inflate_Decoder_extra.res d0 least1 n2 ok3 H0 R := by kernel_rfl
  exact vcFn_sound Tryz.callable Tryz.mixed Tryz.func104 (by kernel_rfl) (e.mpr h)
def inflate_repeat.an : Ann := (.seq (.reg (.op 0 [] (.op 1 [] (.op 2 [] .nil)))) (.seq (.reg (.op 0 [] (.op 1 [] (.op 2 [] .nil)))) (.cut [9, 10, 11] [6, 7, 8, 9, 10, 11, 14, 15, 16, 17, 18, 19, 20, 21, 22, 23, 24, 25, 26, 27, 28, 29, 30] (.seq (.reg (.op 0 [] .nil)) (.block (.seq (.reg (.op 0 [] (.op 1 [] .nil))) (.cond (.seq (.seq (.reg (.op 0 [] (.op 1 [] (.op 2 [] .nil)))) (.cond (.seq (.reg (.op 0 [] (.op 1 [] (.op 2 [] .nil)))) .leaf) .leaf)) (.reg (.op 0 [] (.op 1 [] (.op 2 [] (.op 3 [] (.op 4 [] (.op 5 [] (.op 6 [] .nil))))))))) (.seq (.reg (.op 0 [] (.op 1 [] .nil))) (.cond (.reg (.op 0 [] .nil)) (.seq (.reg (.op 0 [] (.op 1 [] .nil))) (.cond (.reg (.op 0 [] (.op 1 [] .nil))) (.seq (.reg (.op 0 [] (.op 1 [] (.op 2 [] (.op 3 [] .nil))))) .leaf))))))))) (.seq (.reg (.op 0 [] (.op 1 [] (.op 2 [] (.op 3 [] (.op 4 [] (.op 5 [] (.op 6 [] (.op 7 [] .nil))))))))) (.seq (.reg (.op 0 [] (.op 1 [] (.op 2 [] (.op 3 [] (.op 4 [] (.op 5 [] (.op 6 [] (.op 7 [] .nil))))))))) .leaf)))))
def inflate_repeat.res (r0 : Value) (s1 : Value) (ahead2 : Value) (H0 : Heap) (R : Value → Heap → Prop) : Prop :=
 ∃ J_1 : Value → Value → Value → Heap → Prop, (∀ _ : Env, ∀ least9 : Value, ∀ extra10 : Value, ∀ value11 : Value, ∀ H_2 : Heap, J_1 least9 extra10 value11 H_2 →
 CallsH Tryz.prog 84 #[r0, extra10] H_2 fun x34 H_3 =>
 pExtract 0 x34 fun x35 =>
 pExtract 1 x34 fun x36 =>
 pAdd least9 x35 fun x39 =>
 R (.tuple #[x39, value11, x36]) H_3) ∧
 pEq 0 s1 (.int .i64 16) fun x17 =>
 pCond x17
 (pLen ahead2 fun x19 =>
 pEq 0 x19 (.int .i64 0) fun x20 =>
 pCond x20
 (R (.tuple #[(.int .i64 0), (.int .i64 0), (.int .i64 3)]) H0)
 (pLen ahead2 fun x23 =>
 pSub x23 (.int .i64 1) fun x24 =>
 pIdxSl 1 ahead2 x24 fun x25 =>
 pLoad H0 x25 fun x26 =>
 J_1 (.int .i64 3) (.int .i64 2) x26 H0))
 (pEq 0 s1 (.int .i64 17) fun x28 =>
 pCond x28
 (J_1 (.int .i64 3) (.int .i64 3) (.int .i64 0) H0)
 (pEq 0 s1 (.int .i64 18) fun x30 =>
 pCond x30
 (J_1 (.int .i64 11) (.int .i64 7) (.int .i64 0) H0)
 (R (.tuple #[(.int .i64 1), s1, (.int .i64 0)]) H0)))
set_option maxRecDepth 100000 in
theorem inflate_repeat.vc (r0 : Value) (s1 : Value) (ahead2 : Value) (H0 : Heap) (R : Value → Heap → Prop) (h : inflate_repeat.res r0 s1 ahead2 H0 R) : CallsH Tryz.prog 116 #[r0, s1, ahead2] H0 R := by
  have e : vcFn Tryz.prog Tryz.C Tryz.f116 inflate_repeat.an [r0, s1, ahead2] H0 R = inflate_repeat.res r0 s1 ahead2 H0 R := by kernel_rfl
  exact vcFn_sound Tryz.callable Tryz.mixed Tryz.func116 (by kernel_rfl) (e.mpr h)
def merge_Lengths.an : Ann := (.seq (.reg (.op 0 [] (.op 1 [] .nil))) (.seq (.seq (.reg (.op 0 [] (.op 1 [] (.op 2 [] (.op 3 [] .nil))))) (.seq (.reg (.op 0 [] (.op 1 [] .nil))) (.cond (.seq (.reg (.op 0 [] (.op 1 [] (.op 2 [] .nil)))) .leaf) .leaf))) (.seq (.reg (.op 0 [] (.op 1 [] (.op 2 [] (.op 3 [] .nil))))) (.seq (.reg (.op 0 [] (.op 1 [] (.op 2 [] .nil)))) (.seq (.seq (.reg (.op 0 [] (.op 1 [] (.op 2 [] .nil)))) (.cond (.seq (.seq (.reg (.op 0 [] (.op 1 [] (.op 2 [] .nil)))) (.block (.loop [35] [10, 35, 36, 37, 38, 39, 40, 41, 42] (.seq (.reg (.op 0 [] .nil)) (.seq (.cond .leaf .leaf) (.seq (.block (.seq (.reg (.op 0 [] (.op 1 [] (.op 2 [] .nil)))) (.reg (.op 0 [] (.op 1 [] (.op 2 [] (.op 3 [] .nil))))))) (.reg (.op 0 [] (.op 1 [] .nil))))))))) (.seq (.reg (.op 0 [] (.op 1 [] (.op 2 [] .nil)))) .leaf)) .leaf)) (.seq (.reg (.op 0 [] .nil)) (.seq (.seq (.reg (.op 0 [] (.op 1 [] (.op 2 [] .nil)))) (.block (.loop [11, 46] [11, 12, 13, 46, 47, 48, 49, 50, 51, 52, 53, 54, 55, 56, 57, 58, 59, 60, 61] (.seq (.reg (.op 0 [] .nil)) (.seq (.cond .leaf .leaf) (.seq (.block (.seq (.reg (.op 0 [] (.op 1 [] (.op 2 [] (.op 3 [] (.op 4 [] .nil)))))) (.reg (.op 0 [] (.op 1 [] (.op 2 [] (.op 3 [] (.op 4 [] (.op 5 [] (.op 6 [] (.op 7 [] (.op 8 [] (.op 9 [] (.op 10 [] .nil)))))))))))))) (.reg (.op 0 [] (.op 1 [] .nil))))))))) (.seq (.reg (.op 0 [] (.op 1 [] .nil))) (.seq (.seq (.reg (.op 0 [] (.op 1 [] (.op 2 [] .nil)))) (.block (.loop [14, 65] [14, 65, 66, 67, 68, 69, 70, 71] (.seq (.reg (.op 0 [] .nil)) (.seq (.cond .leaf .leaf) (.seq (.block (.reg (.op 0 [] (.op 1 [] (.op 2 [] (.op 3 [] (.op 4 [] .nil))))))) (.reg (.op 0 [] (.op 1 [] .nil))))))))) (.seq (.seq (.reg (.op 0 [] (.op 1 [] (.op 2 [] (.op 3 [] (.op 4 [] (.op 5 [] (.op 6 [] (.op 7 [] .nil))))))))) (.block (.loop [79] [16, 18, 79, 80, 81, 82, 83, 84, 85, 86, 87, 88, 89, 90, 91, 92, 93, 94, 95, 96, 97, 98, 99, 100] (.seq (.reg (.op 0 [] .nil)) (.seq (.cond .leaf .leaf) (.seq (.block (.seq (.reg (.op 0 [] (.op 1 [] (.op 2 [] (.op 3 [] .nil))))) (.seq (.reg (.op 0 [] (.op 1 [] (.op 2 [] (.op 3 [] .nil))))) (.block (.loop [86] [18, 86, 87, 88, 89, 90, 91, 92, 93, 94, 95, 96, 97, 98, 99] (.seq (.reg (.op 0 [] .nil)) (.seq (.cond .leaf .leaf) (.seq (.block (.seq (.reg (.op 0 [] (.op 1 [] (.op 2 [] .nil)))) (.reg (.op 0 [] (.op 1 [] (.op 2 [] (.op 3 [] (.op 4 [] (.op 5 [] (.op 6 [] (.op 7 [] (.op 8 [] (.op 9 [] .nil))))))))))))) (.reg (.op 0 [] (.op 1 [] .nil))))))))))) (.reg (.op 0 [] (.op 1 [] .nil))))))))) (.seq (.reg (.op 0 [] (.op 1 [] (.op 2 [] .nil)))) .leaf)))))))))))
def merge_Lengths.res (counts0 : Value) (most1 : Value) (H0 : Heap) (R : Value → Heap → Prop) : Prop :=
 CallsH Tryz.prog 32 #[counts0, most1] H0 fun x21 H_1 =>
 pNe 0 x21 (.int .i64 0) fun x23 =>
 pCond x23
 (R (.tuple #[(.slice none 0 0), x21]) H_1)
 (pLen counts0 fun x26 =>
 pMakeSl H_1 3 8 [(.int .i64 0)] x26 x26 fun x27 H_2 =>
 CallsH Tryz.prog 33 #[counts0] H_2 fun x29 H_3 =>
 pLen x29 fun x31 =>
 pLt x31 (.int .i64 2) fun x32 =>
 pCond x32
 (pLen x29 fun x34 =>
 ∃ (I_4 : Value → Heap → Prop) (m_5 : Value → Heap → Nat), I_4 (.int .i64 0) H_3 ∧
 ∀ _ : Env, ∀ x35 : Value, ∀ H_6 : Heap, I_4 x35 H_6 →
 pLt x35 x34 fun x36 =>
 pCond x36
 (pIdxSl 1 x29 x35 fun x37 =>
 pLoad H_6 x37 fun x38 =>
 pIdxSl 1 x27 x38 fun x41 =>
 pStore H_6 x41 (.int .i64 1) fun _ H_7 =>
 pAdd x35 (.int .i64 1) fun x42 =>
 I_4 x42 H_7 ∧ m_5 x42 H_7 < m_5 x35 H_6)
 (R (.tuple #[x27, (.int .i64 0)]) H_6))
 (pLen x29 fun x45 =>
 ∃ (I_8 : Value → Value → Heap → Prop) (m_9 : Value → Value → Heap → Nat), I_8 (.slice none 0 0) (.int .i64 0) H_3 ∧
 ∀ _ : Env, ∀ leaves11 : Value, ∀ x46 : Value, ∀ H_10 : Heap, I_8 leaves11 x46 H_10 →
 pLt x46 x45 fun x47 =>
 pCond x47
 (pIdxSl 1 x29 x46 fun x49 =>
 pLoad H_10 x49 fun x50 =>
 pIdxSl 1 counts0 x50 fun x54 =>
 pLoad H_10 x54 fun x55 =>
 pBuildSl H_10 3 1 [(.int .i64 0)] [(0, 1, x46)] fun x57 H_11 =>
 pBuild [(.int .i64 0), (.slice none 0 0)] [(0, 1, x55), (1, 1, x57)] fun x58 =>
 pBuildSl H_11 82 1 [(.int .i64 0), (.slice none 0 0)] [(0, 2, x58)] fun x59 H_12 =>
 pAppend H_12 82 2 32 [(.int .i64 0), (.slice none 0 0)] leaves11 x59 fun x60 H_13 =>
 pAdd x46 (.int .i64 1) fun x61 =>
 I_8 x60 x61 H_13 ∧ m_9 x60 x61 H_13 < m_9 leaves11 x46 H_10)
 (pSub most1 (.int .i64 1) fun x64 =>
 ∃ (I_14 : Value → Value → Heap → Prop) (m_15 : Value → Value → Heap → Nat), I_14 leaves11 (.int .i64 0) H_10 ∧
 ∀ _ : Env, ∀ list14 : Value, ∀ x65 : Value, ∀ H_16 : Heap, I_14 list14 x65 H_16 →
 pLt x65 x64 fun x66 =>
 pCond x66
 (CallsH Tryz.prog 35 #[list14] H_16 fun x69 H_17 =>
 CallsH Tryz.prog 34 #[leaves11, x69] H_17 fun x70 H_18 =>
 pAdd x65 (.int .i64 1) fun x71 =>
 I_14 x70 x71 H_18 ∧ m_15 x70 x71 H_18 < m_15 list14 x65 H_16)
 (pLen x29 fun x74 =>
 pMul (.int .i64 2) x74 fun x75 =>
 pSub x75 (.int .i64 2) fun x76 =>
 pSlSl 2 list14 none (some x76) fun x77 =>
 pLen x77 fun x78 =>
 ∃ (I_19 : Value → Heap → Prop) (m_20 : Value → Heap → Nat), I_19 (.int .i64 0) H_16 ∧
 ∀ _ : Env, ∀ x79 : Value, ∀ H_21 : Heap, I_19 x79 H_21 →
 pLt x79 x78 fun x80 =>
 pCond x80
 (pIdxSl 2 x77 x79 fun x81 =>
 pLoadN H_21 2 x81 fun x82 =>
 pBox H_21 82 (.agg #[(.int .i64 0), (.slice none 0 0)]) fun p16 H_22 =>
 pStoreN H_22 2 p16 x82 fun _ H_23 =>
 pFieldAddr 1 p16 fun x83 =>
 pLoad H_23 x83 fun x84 =>
 pLen x84 fun x85 =>
 ∃ (I_24 : Value → Heap → Prop) (m_25 : Value → Heap → Nat), I_24 (.int .i64 0) H_23 ∧
 ∀ _ : Env, ∀ x86 : Value, ∀ H_26 : Heap, I_24 x86 H_26 →
 pLt x86 x85 fun x87 =>
 pCond x87
 (pIdxSl 1 x84 x86 fun x88 =>
 pLoad H_26 x88 fun x89 =>
 pIdxSl 1 x29 x89 fun x93 =>
 pLoad H_26 x93 fun x94 =>
 pIdxSl 1 x27 x94 fun x95 =>
 pLoad H_26 x95 fun x96 =>
 pAdd x96 (.int .i64 1) fun x97 =>
 pIdxSl 1 x27 x94 fun x98 =>
 pStore H_26 x98 x97 fun _ H_27 =>
 pAdd x86 (.int .i64 1) fun x99 =>
 I_24 x99 H_27 ∧ m_25 x99 H_27 < m_25 x86 H_26)
 (pAdd x79 (.int .i64 1) fun x100 =>
 I_19 x100 H_26 ∧ m_20 x100 H_26 < m_20 x79 H_21))
 (R (.tuple #[x27, (.int .i64 0)]) H_21)))))
set_option maxRecDepth 100000 in
theorem merge_Lengths.vc (counts0 : Value) (most1 : Value) (H0 : Heap) (R : Value → Heap → Prop) (h : merge_Lengths.res counts0 most1 H0 R) : CallsH Tryz.prog 12 #[counts0, most1] H0 R := by
  have e : vcFn Tryz.prog Tryz.C Tryz.f12 merge_Lengths.an [counts0, most1] H0 R = merge_Lengths.res counts0 most1 H0 R := by kernel_rfl
  exact vcFn_sound Tryz.callable Tryz.mixed Tryz.func12 (by kernel_rfl) (e.mpr h)
def merge_Cost.an : Ann := (.seq (.reg (.op 0 [] .nil)) (.seq (.reg (.op 0 [] .nil)) (.seq (.seq (.reg (.op 0 [] (.op 1 [] (.op 2 [] (.op 3 [] (.op 4 [] (.op 5 [] .nil))))))) (.block (.loop [5, 12] [5, 6, 12, 13, 14, 15, 16, 17, 18, 19, 20, 21, 22, 23, 24, 25, 26] (.seq (.reg (.op 0 [] .nil)) (.seq (.cond .leaf .leaf) (.seq (.block (.seq (.reg (.op 0 [] (.op 1 [] .nil))) (.drw [0, 0, 0, 6, 14, 0, 0, 96, 224, 510, 1023, 2047] (.op 0 [] (.op 1 [] (.op 2 [] (.op 3 [] (.op 4 [] (.op 5 [] (.op 6 [] (.op 7 [] (.op 8 [] (.op 9 [] (.op 10 [] (.op 11 [] .nil))))))))))))))) (.reg (.op 0 [] (.op 1 [] .nil))))))))) (.seq (.reg (.op 0 [] (.op 1 [] .nil))) .leaf))))
def merge_Cost.res (counts0 : Value) (lengths1 : Value) (H0 : Heap) (R : Value → Heap → Prop) : Prop :=
 pLen counts0 fun x8 =>
 pLen lengths1 fun x10 =>
 pMin x8 x10 fun x11 =>
 ∃ (I_1 : Value → Value → Heap → Prop) (m_2 : Value → Value → Heap → Nat), I_1 (.int .i64 0) (.int .i64 0) H0 ∧
 ∀ _ : Env, ∀ sum5 : Value, ∀ x12 : Value, ∀ H_3 : Heap, I_1 sum5 x12 H_3 →
 pLt x12 x11 fun x13 =>
 pCond x13
 (pIdxSl 1 counts0 x12 fun x18 =>
 pLoad H_3 x18 fun x19 =>
 pIdxSl 1 lengths1 x12 fun x22 =>
 pLoad H_3 x22 fun x23 =>
 pMul x19 x23 fun x24 =>
 pAdd sum5 x24 fun x25 =>
 pAdd x12 (.int .i64 1) fun x26 =>
 I_1 x25 x26 H_3 ∧ m_2 x25 x26 H_3 < m_2 sum5 x12 H_3)
 (R sum5 H_3)
set_option maxRecDepth 100000 in
theorem merge_Cost.vc (counts0 : Value) (lengths1 : Value) (H0 : Heap) (R : Value → Heap → Prop) (h : merge_Cost.res counts0 lengths1 H0 R) : CallsH Tryz.prog 16 #[counts0, lengths1] H0 R := by
  have e : vcFn Tryz.prog Tryz.C Tryz.f16 merge_Cost.an [counts0, lengths1] H0 R = merge_Cost.res counts0 lengths1 H0 R := by kernel_rfl
  exact vcFn_sound Tryz.callable Tryz.mixed Tryz.func16 (by kernel_rfl) (e.mpr h)
def merge_wrong.an : Ann := (.seq (.reg (.op 0 [] .nil)) (.seq (.reg (.op 0 [] .nil)) (.seq (.seq (.reg (.op 0 [] (.op 1 [] (.op 2 [] (.op 3 [] (.grp 3 (.op 4 [] (.op 5 [] (.op 6 [] .nil))) 7 (.op 8 [] (.grp 8 (.op 9 [] (.op 10 [] .nil)) 11 (.op 12 [] (.grp 12 (.op 13 [] (.op 14 [] .nil)) 15 .nil)))))))))) (.cond (.seq (.reg (.op 0 [] .nil)) .leaf) .leaf)) (.seq (.seq (.drw [0, 1, 3, 0, 8, 31] (.op 0 [] (.op 3 [] (.op 4 [] (.op 1 [] (.op 2 [] (.op 5 [] .nil))))))) (.cond (.seq (.reg (.op 0 [] .nil)) .leaf) .leaf)) (.seq (.reg (.op 0 [] .nil)) .leaf)))))
def merge_wrong.res (counts0 : Value) (most1 : Value) (H0 : Heap) (R : Value → Heap → Prop) : Prop :=
 pLen counts0 fun x7 =>
 pGt x7 (.int .i64 288) fun x8 =>
 pOr x8 (fun J_1 =>
 CallsH Tryz.prog 37 #[counts0, (.func (.func 63) #[] #[])] H0 fun x12 H_3 =>
 J_1 x12 H_3) H0 fun x13 H_2 => ∀ _ : Env,
 pOr x13 (fun J_4 =>
 pLt most1 (.int .i64 1) fun x16 =>
 J_4 x16 H_2) H_2 fun x17 H_5 => ∀ _ : Env,
 pOr x17 (fun J_6 =>
 pGt most1 (.int .i64 15) fun x20 =>
 J_6 x20 H_5) H_5 fun x21 H_7 => ∀ _ : Env,
 pCond x21
 (R (.int .i64 1) H_7)
 (pShl (.int .i64 1) most1 fun x26 =>
 CallsH Tryz.prog 33 #[counts0] H_7 fun x23 H_8 =>
 pLen x23 fun x24 =>
 pGt x24 x26 fun x27 =>
 pCond x27
 (R (.int .i64 11) H_8)
 (R (.int .i64 0) H_8))
set_option maxRecDepth 100000 in
theorem merge_wrong.vc (counts0 : Value) (most1 : Value) (H0 : Heap) (R : Value → Heap → Prop) (h : merge_wrong.res counts0 most1 H0 R) : CallsH Tryz.prog 32 #[counts0, most1] H0 R := by
  have e : vcFn Tryz.prog Tryz.C Tryz.f32 merge_wrong.an [counts0, most1] H0 R = merge_wrong.res counts0 most1 H0 R := by kernel_rfl
  exact vcFn_sound Tryz.callable Tryz.mixed Tryz.func32 (by kernel_rfl) (e.mpr h)
def merge_used.an : Ann := (.seq (.reg (.op 0 [] (.op 1 [] .nil))) (.seq (.reg (.op 0 [] .nil)) (.seq (.seq (.reg (.op 0 [] (.op 1 [] (.op 2 [] .nil)))) (.block (.loop [3, 8] [3, 4, 5, 8, 9, 10, 11, 12, 13, 14, 15, 16, 17, 18, 19] (.seq (.reg (.op 0 [] .nil)) (.seq (.cond .leaf .leaf) (.seq (.block (.seq (.reg (.op 0 [] (.op 1 [] (.op 2 [] (.op 3 [] (.op 4 [] .nil)))))) (.seq (.reg (.op 0 [] (.op 1 [] .nil))) (.cond (.reg (.op 0 [] (.op 1 [] (.op 2 [] (.op 3 [] (.op 4 [] .nil)))))) .leaf)))) (.reg (.op 0 [] (.op 1 [] .nil))))))))) (.seq (.reg (.op 0 [] (.op 1 [] (.op 2 [] .nil)))) (.seq (.reg (.op 0 [] (.op 1 [] .nil))) .leaf)))))
def merge_used.res (counts0 : Value) (H0 : Heap) (R : Value → Heap → Prop) : Prop :=
 pBox H0 42 counts0 fun counts1 H_1 =>
 pLoad H_1 counts1 fun x6 =>
 pLen x6 fun x7 =>
 ∃ (I_2 : Value → Value → Heap → Prop) (m_3 : Value → Value → Heap → Nat), I_2 (.slice none 0 0) (.int .i64 0) H_1 ∧
 ∀ _ : Env, ∀ out3 : Value, ∀ x8 : Value, ∀ H_4 : Heap, I_2 out3 x8 H_4 →
 pLt x8 x7 fun x9 =>
 pCond x9
 (pIdxSl 1 x6 x8 fun x11 =>
 pLoad H_4 x11 fun x12 =>
 pGt x12 (.int .i64 0) fun x14 =>
 pCond x14
 (pBuildSl H_4 3 1 [(.int .i64 0)] [(0, 1, x8)] fun x17 H_5 =>
 pAppend H_5 3 1 8 [(.int .i64 0)] out3 x17 fun x18 H_6 =>
 pAdd x8 (.int .i64 1) fun x19 =>
 I_2 x18 x19 H_6 ∧ m_3 x18 x19 H_6 < m_3 out3 x8 H_4)
 (pAdd x8 (.int .i64 1) fun x19 =>
 I_2 out3 x19 H_4 ∧ m_3 out3 x19 H_4 < m_3 out3 x8 H_4))
 (CallsH Tryz.prog 64 #[out3, (.func (.func 65) #[] #[counts1])] H_4 fun x22 H_7 =>
 R out3 H_7)
set_option maxRecDepth 100000 in
theorem merge_used.vc (counts0 : Value) (H0 : Heap) (R : Value → Heap → Prop) (h : merge_used.res counts0 H0 R) : CallsH Tryz.prog 33 #[counts0] H0 R := by
  have e : vcFn Tryz.prog Tryz.C Tryz.f33 merge_used.an [counts0] H0 R = merge_used.res counts0 H0 R := by kernel_rfl
  exact vcFn_sound Tryz.callable Tryz.mixed Tryz.func33 (by kernel_rfl) (e.mpr h)
def merge_joined.an : Ann := (.seq (.reg (.op 0 [] .nil)) (.seq (.reg (.op 0 [] .nil)) (.seq (.block (.loop [0, 1, 5] [0, 1, 5, 6, 7, 8, 9, 10, 11, 12, 13, 14, 15, 16, 17, 18, 19, 20, 21, 22, 23, 24, 25, 26, 27, 28, 29, 30, 31, 32, 33, 34, 35, 36, 37, 38] (.seq (.seq (.reg (.op 0 [] (.op 1 [] (.op 2 [] (.op 3 [] (.grp 3 (.op 4 [] (.op 5 [] (.op 6 [] .nil))) 7 .nil)))))) (.cond .leaf .leaf)) (.block (.seq (.drw [0, 1, 3, 7, 0, 16, 48, 112, 255] (.op 0 [] (.op 1 [] (.op 2 [] (.op 3 [] (.op 4 [] (.op 5 [] (.op 6 [] (.op 7 [] (.op 8 [] .nil)))))))))) (.cond (.drw [0, 0, 2, 6, 14, 31, 0, 64, 63, 511] (.op 0 [] (.op 1 [] (.op 2 [] (.op 3 [] (.op 6 [] (.op 7 [] (.op 4 [] (.op 5 [] (.op 8 [] (.op 9 [] .nil))))))))))) (.drw [0, 0, 2, 6, 14, 31, 0, 64, 63, 511] (.op 0 [] (.op 1 [] (.op 2 [] (.op 3 [] (.op 6 [] (.op 7 [] (.op 4 [] (.op 5 [] (.op 8 [] (.op 9 [] .nil))))))))))))))))) (.seq (.reg (.op 0 [] (.op 1 [] (.op 2 [] (.op 3 [] (.op 4 [] (.op 5 [] .nil))))))) .leaf))))
def merge_joined.res (a0 : Value) (b1 : Value) (H0 : Heap) (R : Value → Heap → Prop) : Prop :=
 ∃ (I_1 : Value → Value → Value → Heap → Prop) (m_2 : Value → Value → Value → Heap → Nat), I_1 a0 b1 (.slice none 0 0) H0 ∧
 ∀ _ : Env, ∀ a0' : Value, ∀ b1' : Value, ∀ out5 : Value, ∀ H_3 : Heap, I_1 a0' b1' out5 H_3 →
 pLen a0' fun x7 =>
 pGt x7 (.int .i64 0) fun x8 =>
 pAnd x8 (fun J_4 =>
 pLen b1' fun x11 =>
 pGt x11 (.int .i64 0) fun x12 =>
 J_4 x12 H_3) H_3 fun x13 H_5 => ∀ _ : Env,
 pCond x13
 (pIdxSl 2 a0' (.int .i64 0) fun x15 =>
 pFieldAddr 0 x15 fun x16 =>
 pLoad H_5 x16 fun x17 =>
 pIdxSl 2 b1' (.int .i64 0) fun x19 =>
 pFieldAddr 0 x19 fun x20 =>
 pLoad H_5 x20 fun x21 =>
 pLe x17 x21 fun x22 =>
 pCond x22
 (pIdxSl 2 a0' (.int .i64 0) fun x25 =>
 pLoadN H_5 2 x25 fun x26 =>
 pSlSl 2 a0' (some (.int .i64 1)) none fun x30 =>
 pBuildSl H_5 82 1 [(.int .i64 0), (.slice none 0 0)] [(0, 2, x26)] fun x27 H_6 =>
 pAppend H_6 82 2 32 [(.int .i64 0), (.slice none 0 0)] out5 x27 fun x28 H_7 =>
 I_1 x30 b1' x28 H_7 ∧ m_2 x30 b1' x28 H_7 < m_2 a0' b1' out5 H_3)
 (pIdxSl 2 b1' (.int .i64 0) fun x33 =>
 pLoadN H_5 2 x33 fun x34 =>
 pSlSl 2 b1' (some (.int .i64 1)) none fun x38 =>
 pBuildSl H_5 82 1 [(.int .i64 0), (.slice none 0 0)] [(0, 2, x34)] fun x35 H_8 =>
 pAppend H_8 82 2 32 [(.int .i64 0), (.slice none 0 0)] out5 x35 fun x36 H_9 =>
 I_1 a0' x38 x36 H_9 ∧ m_2 a0' x38 x36 H_9 < m_2 a0' b1' out5 H_3))
 (pBuildSl H_5 80 3 [(.slice none 0 0), (.slice none 0 0), (.slice none 0 0)] [(0, 1, out5), (1, 1, a0'), (2, 1, b1')] fun x42 H_10 =>
 CallsH Tryz.prog 68 #[x42] H_10 fun x43 H_11 =>
 R x43 H_11)
set_option maxRecDepth 100000 in
theorem merge_joined.vc (a0 : Value) (b1 : Value) (H0 : Heap) (R : Value → Heap → Prop) (h : merge_joined.res a0 b1 H0 R) : CallsH Tryz.prog 34 #[a0, b1] H0 R := by
  have e : vcFn Tryz.prog Tryz.C Tryz.f34 merge_joined.an [a0, b1] H0 R = merge_joined.res a0 b1 H0 R := by kernel_rfl
  exact vcFn_sound Tryz.callable Tryz.mixed Tryz.func34 (by kernel_rfl) (e.mpr h)
def merge_pairs.an : Ann := (.seq (.reg (.op 0 [] .nil)) (.seq (.reg (.op 0 [] .nil)) (.seq (.seq (.reg (.op 0 [] .nil)) (.block (.loop [3, 4] [3, 4, 5, 6, 7, 8, 9, 10, 11, 12, 13, 14, 15, 16, 17, 18, 19, 20, 21, 22, 23, 24, 25, 26, 27, 28, 29, 30, 31, 32, 33, 34, 35, 36, 37, 38, 39, 40] (.seq (.seq (.reg (.op 0 [] (.op 1 [] (.op 2 [] (.op 3 [] (.op 4 [] .nil)))))) (.cond .leaf .leaf)) (.seq (.block (.drw [0, 0, 0, 6, 14, 30, 0, 0, 128, 448, 960, 1984, 4094, 0, 0, 24576, 57344, 122880, 0, 0, 524288, 1835008, 3932160, 8126464, 16769024, 33546240, 67108862, 134217726, 268435455, 536870911] (.op 0 [] (.op 1 [] (.op 2 [] (.op 3 [] (.op 4 [] (.op 5 [] (.op 6 [] (.op 7 [] (.op 8 [] (.op 9 [] (.op 10 [] (.op 11 [] (.op 12 [] (.op 13 [] (.op 14 [] (.op 15 [] (.op 16 [] (.op 17 [] (.op 18 [] (.op 19 [] (.op 20 [] (.op 21 [] (.op 22 [] (.op 23 [] (.op 24 [5, 11] (.op 25 [5, 11] (.op 26 [] (.op 27 [] (.op 28 [] (.op 29 [] .nil)))))))))))))))))))))))))))))))) (.reg (.op 0 [] (.op 1 [] (.op 2 [] .nil))))))))) (.seq (.reg (.op 0 [] (.op 1 [] .nil))) .leaf))))
def merge_pairs.res (l0 : Value) (H0 : Heap) (R : Value → Heap → Prop) : Prop :=
 ∃ (I_1 : Value → Value → Heap → Prop) (m_2 : Value → Value → Heap → Nat), I_1 (.slice none 0 0) (.int .i64 0) H0 ∧
 ∀ _ : Env, ∀ out3 : Value, ∀ i4 : Value, ∀ H_3 : Heap, I_1 out3 i4 H_3 →
 pAdd i4 (.int .i64 1) fun x6 =>
 pLen l0 fun x8 =>
 pLt x6 x8 fun x9 =>
 pCond x9
 (pIdxSl 2 l0 i4 fun x15 =>
 pFieldAddr 0 x15 fun x16 =>
 pLoad H_3 x16 fun x17 =>
 pAdd i4 (.int .i64 1) fun x20 =>
 pIdxSl 2 l0 x20 fun x21 =>
 pFieldAddr 0 x21 fun x22 =>
 pLoad H_3 x22 fun x23 =>
 pAdd x17 x23 fun x24 =>
 pIdxSl 2 l0 i4 fun x27 =>
 pFieldAddr 1 x27 fun x28 =>
 pLoad H_3 x28 fun x29 =>
 pAdd i4 (.int .i64 1) fun x32 =>
 pIdxSl 2 l0 x32 fun x33 =>
 pFieldAddr 1 x33 fun x34 =>
 pLoad H_3 x34 fun x35 =>
 pBuildSl H_3 42 2 [(.slice none 0 0), (.slice none 0 0)] [(0, 1, x29), (1, 1, x35)] fun x36 H_4 =>
 (pLoad H_4 x16 fun r_ =>
 r_ = x17) ∧
 (pLoad H_4 x22 fun r_ =>
 r_ = x23) ∧
 CallsH Tryz.prog 58 #[x36] H_4 fun x37 H_5 =>
 (pLoad H_5 x16 fun r_ =>
 r_ = x17) ∧
 (pLoad H_5 x22 fun r_ =>
 r_ = x23) ∧
 pBuild [(.int .i64 0), (.slice none 0 0)] [(0, 1, x24), (1, 1, x37)] fun x38 =>
 pBuildSl H_5 82 1 [(.int .i64 0), (.slice none 0 0)] [(0, 2, x38)] fun x39 H_6 =>
 pAppend H_6 82 2 32 [(.int .i64 0), (.slice none 0 0)] out3 x39 fun x40 H_7 =>
 pAdd i4 (.int .i64 2) fun x11 =>
 I_1 x40 x11 H_7 ∧ m_2 x40 x11 H_7 < m_2 out3 i4 H_3)
 (R out3 H_3)
set_option maxRecDepth 100000 in
theorem merge_pairs.vc (l0 : Value) (H0 : Heap) (R : Value → Heap → Prop) (h : merge_pairs.res l0 H0 R) : CallsH Tryz.prog 35 #[l0] H0 R := by
  have e : vcFn Tryz.prog Tryz.C Tryz.f35 merge_pairs.an [l0] H0 R = merge_pairs.res l0 H0 R := by kernel_rfl
  exact vcFn_sound Tryz.callable Tryz.mixed Tryz.func35 (by kernel_rfl) (e.mpr h)
def merge_wrong_f1.an : Ann := (.seq (.reg (.op 0 [] .nil)) (.seq (.reg (.op 0 [] (.op 1 [] (.op 2 [] (.grp 2 (.op 3 [] (.op 4 [] .nil)) 5 (.op 6 [] .nil)))))) .leaf))
def merge_wrong_f1.res (n0 : Value) (H0 : Heap) (R : Value → Heap → Prop) : Prop :=
 pLt n0 (.int .i64 0) fun x4 =>
 pOr x4 (fun J_1 =>
 pGt n0 (.int .i64 1099511627776) fun x7 =>
 J_1 x7 H0) H0 fun x8 H_2 => ∀ _ : Env,
 R x8 H_2
set_option maxRecDepth 100000 in
theorem merge_wrong_f1.vc (n0 : Value) (H0 : Heap) (R : Value → Heap → Prop) (h : merge_wrong_f1.res n0 H0 R) : CallsH Tryz.prog 63 #[n0] H0 R := by
  have e : vcFn Tryz.prog Tryz.C Tryz.f63 merge_wrong_f1.an [n0] H0 R = merge_wrong_f1.res n0 H0 R := by kernel_rfl
  exact vcFn_sound Tryz.callable Tryz.mixed Tryz.func63 (by kernel_rfl) (e.mpr h)
def merge_used_f1.an : Ann := (.seq (.reg (.op 0 [] .nil)) (.seq (.drw [0, 0, 3, 7, 0, 0, 48, 112, 255, 0, 0, 2047, 4095, 8191, 16383] (.op 0 [] (.op 1 [] (.op 2 [] (.op 3 [] (.op 4 [] (.op 5 [] (.op 6 [] (.op 7 [] (.op 9 [] (.op 10 [] (.op 8 [] (.op 11 [] (.op 12 [] (.op 13 [] (.op 14 [] .nil)))))))))))))))) .leaf))
def merge_used_f1.res (a0 : Value) (b1 : Value) (a2 : Value) (H0 : Heap) (R : Value → Heap → Prop) : Prop :=
 pLoad H0 a2 fun x6 =>
 pIdxSl 1 x6 a0 fun x8 =>
 pLoad H0 x8 fun x9 =>
 pLoad H0 a2 fun x10 =>
 pIdxSl 1 x10 b1 fun x12 =>
 pLoad H0 x12 fun x13 =>
 CallsH Tryz.prog 67 #[x9, x13] H0 fun x14 H_1 =>
 CallsH Tryz.prog 67 #[b1, a0] H_1 fun x17 H_2 =>
 pBuildSl H_2 3 2 [(.int .i64 0), (.int .i64 0)] [(0, 1, x14), (1, 1, x17)] fun x18 H_3 =>
 CallsH Tryz.prog 66 #[x18] H_3 fun x19 H_4 =>
 R x19 H_4
set_option maxRecDepth 100000 in
theorem merge_used_f1.vc (a0 : Value) (b1 : Value) (a2 : Value) (H0 : Heap) (R : Value → Heap → Prop) (h : merge_used_f1.res a0 b1 a2 H0 R) : CallsH Tryz.prog 65 #[a0, b1, a2] H0 R := by
  have e : vcFn Tryz.prog Tryz.C Tryz.f65 merge_used_f1.an [a0, b1, a2] H0 R = merge_used_f1.res a0 b1 a2 H0 R := by kernel_rfl
  exact vcFn_sound Tryz.callable Tryz.mixed Tryz.func65 (by kernel_rfl) (e.mpr h)
def canon_New.an : Ann := (.seq (.reg (.op 0 [] (.op 1 [] .nil))) (.seq (.reg (.op 0 [] .nil)) (.seq (.seq (.reg (.op 0 [] (.op 1 [] (.op 2 [] (.op 3 [] (.grp 3 (.op 4 [] (.op 5 [] (.op 6 [] .nil))) 7 .nil)))))) (.cond (.seq (.reg (.op 0 [] (.op 1 [] .nil))) .leaf) .leaf)) (.seq (.reg (.op 0 [] (.op 1 [] (.op 2 [] (.op 3 [] (.op 4 [] .nil)))))) (.seq (.reg (.op 0 [] (.op 1 [] (.op 2 [] .nil)))) (.seq (.block (.seq (.reg (.op 0 [] (.op 1 [] (.op 2 [] .nil)))) (.cond (.seq (.reg (.op 0 [] (.op 1 [] .nil))) .leaf) (.seq (.reg (.op 0 [] (.op 1 [] (.op 2 [] (.grp 2 (.op 3 [] (.op 4 [] (.grp 4 (.op 5 [] (.op 6 [] .nil)) 7 (.op 8 [] .nil)))) 9 (.op 10 [] .nil)))))) (.cond (.seq (.reg (.op 0 [] (.op 1 [] .nil))) .leaf) .leaf))))) (.seq (.reg (.op 0 [] (.op 1 [] .nil))) (.seq (.reg (.op 0 [] (.op 1 [] (.op 2 [] .nil)))) .leaf))))))))
def canon_New.res (lengths0 : Value) (loose1 : Value) (H0 : Heap) (R : Value → Heap → Prop) : Prop :=
 pLen lengths0 fun x10 =>
 pGt x10 (.int .i64 288) fun x11 =>
 pOr x11 (fun J_1 =>
 CallsH Tryz.prog 37 #[lengths0, (.func (.func 36) #[] #[])] H0 fun x15 H_3 =>
 J_1 x15 H_3) H0 fun x16 H_2 => ∀ _ : Env,
 pCond x16
 (R (.tuple #[(.pointer none), (.int .i64 1)]) H_2)
 (CallsH Tryz.prog 38 #[lengths0] H_2 fun x18 H_4 =>
 pBuild [(.slice none 0 0), (.slice none 0 0), (.int .i64 0), (.int .i64 0), (.int .i64 0), (.int .i64 0), (.int .i64 0), (.int .i64 0), (.int .i64 0), (.int .i64 0), (.int .i64 0), (.int .i64 0), (.int .i64 0), (.int .i64 0), (.int .i64 0), (.int .i64 0), (.int .i64 0), (.int .i64 0), (.slice none 0 0)] [(0, 1, x18)] fun x19 =>
 pBox H_4 90 x19 fun x20 H_5 =>
 CallsH Tryz.prog 39 #[x20] H_5 fun x22 H_6 =>
 pLt x22 (.int .i64 0) fun x25 =>
 pCond x25
 (R (.tuple #[(.pointer none), (.int .i64 5)]) H_6)
 (pGt x22 (.int .i64 0) fun x28 =>
 pAnd x28 (fun J_7 =>
 pAnd loose1 (fun J_9 =>
 CallsH Tryz.prog 40 #[x20] H_6 fun x33 H_11 =>
 J_9 x33 H_11) H_6 fun x34 H_10 => ∀ _ : Env,
 pNot x34 fun x35 =>
 J_7 x35 H_10) H_6 fun x36 H_8 => ∀ _ : Env,
 pCond x36
 (R (.tuple #[(.pointer none), (.int .i64 4)]) H_8)
 (CallsH Tryz.prog 41 #[x20] H_8 fun x38 H_12 =>
 R (.tuple #[x20, (.int .i64 0)]) H_12)))
set_option maxRecDepth 100000 in
theorem canon_New.vc (lengths0 : Value) (loose1 : Value) (H0 : Heap) (R : Value → Heap → Prop) (h : canon_New.res lengths0 loose1 H0 R) : CallsH Tryz.prog 13 #[lengths0, loose1] H0 R := by
  have e : vcFn Tryz.prog Tryz.C Tryz.f13 canon_New.an [lengths0, loose1] H0 R = canon_New.res lengths0 loose1 H0 R := by kernel_rfl
  exact vcFn_sound Tryz.callable Tryz.mixed Tryz.func13 (by kernel_rfl) (e.mpr h)
def canon_Code_Write.an : Ann := (.reg (.op 0 [] (.op 1 [] (.op 2 [] (.op 3 [] (.op 4 [] (.op 5 [] (.op 6 [] .nil))))))))
def canon_Code_Write.res (c0 : Value) (w1 : Value) (symbol2 : Value) (H0 : Heap) (R : Value → Heap → Prop) : Prop :=
 CallsH Tryz.prog 42 #[c0, symbol2] H0 fun x9 H_1 =>
 pExtract 0 x9 fun x10 =>
 pExtract 1 x9 fun x11 =>
 CallsH Tryz.prog 22 #[w1, x10, x11] H_1 fun x12 H_2 =>
 R (.tuple #[]) H_2
set_option maxRecDepth 100000 in
theorem canon_Code_Write.vc (c0 : Value) (w1 : Value) (symbol2 : Value) (H0 : Heap) (R : Value → Heap → Prop) (h : canon_Code_Write.res c0 w1 symbol2 H0 R) : CallsH Tryz.prog 14 #[c0, w1, symbol2] H0 R := by
  have e : vcFn Tryz.prog Tryz.C Tryz.f14 canon_Code_Write.an [c0, w1, symbol2] H0 R = canon_Code_Write.res c0 w1 symbol2 H0 R := by kernel_rfl
  exact vcFn_sound Tryz.callable Tryz.mixed Tryz.func14 (by kernel_rfl) (e.mpr h)
def canon_Code_Next.an : Ann := (.seq (.reg (.op 0 [] (.op 1 [] .nil))) (.seq (.seq (.reg (.op 0 [] (.op 1 [] (.op 2 [] (.grp 2 (.op 3 [] (.op 4 [] .nil)) 5 .nil))))) (.cond (.seq (.reg (.op 0 [] (.op 1 [] .nil))) .leaf) .leaf)) (.seq (.reg (.op 0 [] (.op 1 [] (.op 2 [] (.op 3 [] .nil))))) (.seq (.reg (.op 0 [] (.op 1 [] (.op 2 [] (.op 3 [] (.op 4 [] (.op 5 [] (.op 6 [] (.op 7 [] .nil))))))))) (.seq (.reg (.op 0 [] (.op 1 [] (.op 2 [] (.op 3 [] (.op 4 [] (.op 5 [] (.op 6 [] (.op 7 [] (.op 8 [] .nil)))))))))) (.seq (.block (.seq (.reg (.op 0 [] (.op 1 [] (.op 2 [] .nil)))) (.cond (.seq (.reg (.op 0 [] (.op 1 [] (.op 2 [] .nil)))) (.seq (.reg (.op 0 [] (.op 1 [] (.op 2 [] .nil)))) .leaf)) (.seq (.reg (.op 0 [] (.op 1 [] (.op 2 [] (.op 3 [] (.op 4 [] .nil)))))) (.cond (.seq (.reg (.op 0 [] (.op 1 [] .nil))) .leaf) .leaf))))) (.seq (.reg (.op 0 [] (.op 1 [] .nil))) .leaf)))))))
def canon_Code_Next.res (c0 : Value) (r1 : Value) (H0 : Heap) (R : Value → Heap → Prop) : Prop :=
 pEq 3 c0 (.pointer none) fun x12 =>
 pOr x12 (fun J_1 =>
 pEq 3 r1 (.pointer none) fun x15 =>
 J_1 x15 H0) H0 fun x16 H_2 => ∀ _ : Env,
 pCond x16
 (R (.tuple #[(.int .i64 0), (.int .i64 1)]) H_2)
 (CallsH Tryz.prog 19 #[r1] H_2 fun x18 H_3 =>
 pMin x18 (.int .i64 15) fun x19 =>
 CallsH Tryz.prog 43 #[r1, x19] H_3 fun x23 H_4 =>
 pExtract 0 x23 fun x24 =>
 pExtract 1 x23 fun x25 =>
 CallsH Tryz.prog 44 #[c0, x24, x19] H_4 fun x30 H_5 =>
 pExtract 0 x30 fun x31 =>
 pExtract 1 x30 fun x32 =>
 pGt x32 (.int .i64 0) fun x35 =>
 pCond x35
 (CallsH Tryz.prog 45 #[r1, x32] H_5 fun x38 H_6 =>
 R (.tuple #[x31, (.int .i64 0)]) H_6)
 (CallsH Tryz.prog 46 #[c0, x24, x19] H_5 fun x44 H_7 =>
 pCond x44
 (R (.tuple #[(.int .i64 0), (.int .i64 2)]) H_7)
 (R (.tuple #[(.int .i64 0), (.int .i64 4)]) H_7)))
set_option maxRecDepth 100000 in
theorem canon_Code_Next.vc (c0 : Value) (r1 : Value) (H0 : Heap) (R : Value → Heap → Prop) (h : canon_Code_Next.res c0 r1 H0 R) : CallsH Tryz.prog 18 #[c0, r1] H0 R := by
  have e : vcFn Tryz.prog Tryz.C Tryz.f18 canon_Code_Next.an [c0, r1] H0 R = canon_Code_Next.res c0 r1 H0 R := by kernel_rfl
  exact vcFn_sound Tryz.callable Tryz.mixed Tryz.func18 (by kernel_rfl) (e.mpr h)
def canon_New_f1.an : Ann := (.seq (.reg (.op 0 [] .nil)) (.seq (.reg (.op 0 [] (.op 1 [] (.op 2 [] (.grp 2 (.op 3 [] (.op 4 [] .nil)) 5 (.op 6 [] .nil)))))) .leaf))
def canon_New_f1.res (n0 : Value) (H0 : Heap) (R : Value → Heap → Prop) : Prop :=
 pLt n0 (.int .i64 0) fun x4 =>
 pOr x4 (fun J_1 =>
 pGt n0 (.int .i64 15) fun x7 =>
 J_1 x7 H0) H0 fun x8 H_2 => ∀ _ : Env,
 R x8 H_2
set_option maxRecDepth 100000 in
theorem canon_New_f1.vc (n0 : Value) (H0 : Heap) (R : Value → Heap → Prop) (h : canon_New_f1.res n0 H0 R) : CallsH Tryz.prog 36 #[n0] H0 R := by
  have e : vcFn Tryz.prog Tryz.C Tryz.f36 canon_New_f1.an [n0] H0 R = canon_New_f1.res n0 H0 R := by kernel_rfl
  exact vcFn_sound Tryz.callable Tryz.mixed Tryz.func36 (by kernel_rfl) (e.mpr h)
def canon_Code_fill.an : Ann := (.seq (.reg (.op 0 [] .nil)) (.seq (.seq (.reg (.op 0 [] (.op 1 [] (.op 2 [] (.op 3 [] (.op 4 [] (.op 5 [] .nil))))))) (.block (.loop [12] [4, 12, 13, 14, 15, 16, 17, 18, 19, 20, 21, 22, 23, 24, 25, 26, 27, 28] (.seq (.reg (.op 0 [] .nil)) (.seq (.cond .leaf .leaf) (.seq (.block (.seq (.reg (.op 0 [] (.op 1 [] (.op 2 [] .nil)))) (.seq (.reg (.op 0 [] (.op 1 [] .nil))) (.cond (.drw [0, 0, 1, 5, 15, 31, 63, 1, 129, 511, 1023] (.op 0 [] (.op 1 [] (.op 2 [] (.op 3 [] (.op 4 [] (.op 5 [] (.op 6 [] (.op 7 [] (.op 8 [] (.op 9 [] (.op 10 [] .nil)))))))))))) .leaf)))) (.reg (.op 0 [] (.op 1 [] .nil))))))))) (.seq (.reg (.op 0 [] .nil)) (.seq (.seq (.reg (.op 0 [] .nil)) (.block (.loop [5, 6] [2, 5, 6, 29, 30, 31, 32, 33, 34, 35, 36, 37, 38, 39, 40, 41, 42, 43, 44] (.seq (.seq (.reg (.op 0 [] (.op 1 [] .nil))) (.cond .leaf .leaf)) (.seq (.block (.seq (.reg (.op 0 [] (.op 1 [] (.op 2 [] (.op 3 [] (.op 4 [] (.op 5 [] (.op 6 [] (.op 7 [] (.op 8 [] (.op 9 [] .nil))))))))))) (.seq (.reg (.op 0 [] (.op 1 [] .nil))) (.cond (.seq (.reg (.op 0 [] (.op 1 [] .nil))) .leaf) .leaf)))) (.reg (.op 0 [] (.op 1 [] (.op 2 [] .nil))))))))) (.seq (.reg (.op 0 [] (.op 1 [] .nil))) .leaf)))))
def canon_Code_fill.res (c0 : Value) (H0 : Heap) (R : Value → Heap → Prop) : Prop :=
 pNil c0 fun x8 =>
 pFieldAddr 0 x8 fun x9 =>
 pLoad H0 x9 fun x10 =>
 pLen x10 fun x11 =>
 ∃ (I_1 : Value → Heap → Prop) (m_2 : Value → Heap → Nat), I_1 (.int .i64 0) H0 ∧
 ∀ _ : Env, ∀ x12 : Value, ∀ H_3 : Heap, I_1 x12 H_3 →
 pLt x12 x11 fun x13 =>
 pCond x13
 (pIdxSl 1 x10 x12 fun x14 =>
 pLoad H_3 x14 fun x15 =>
 pGt x15 (.int .i64 0) fun x17 =>
 pCond x17
 (pNil c0 fun x20 =>
 pFieldAddr 2 x20 fun x21 =>
 pIdxArr 16 1 x21 x15 fun x22 =>
 pLoad H_3 x22 fun x23 =>
 pAdd x23 (.int .i64 1) fun x24 =>
 pNil c0 fun x25 =>
 pFieldAddr 2 x25 fun x26 =>
 pIdxArr 16 1 x26 x15 fun x27 =>
 pStore H_3 x27 x24 fun _ H_4 =>
 pAdd x12 (.int .i64 1) fun x28 =>
 I_1 x28 H_4 ∧ m_2 x28 H_4 < m_2 x12 H_3)
 (pAdd x12 (.int .i64 1) fun x28 =>
 I_1 x28 H_3 ∧ m_2 x28 H_3 < m_2 x12 H_3))
 (∃ (I_5 : Value → Value → Heap → Prop) (m_6 : Value → Value → Heap → Nat), I_5 (.int .i64 1) (.int .i64 1) H_3 ∧
 ∀ _ : Env, ∀ left5 : Value, ∀ n6 : Value, ∀ H_7 : Heap, I_5 left5 n6 H_7 →
 pLe n6 (.int .i64 15) fun x30 =>
 pCond x30
 (pMul (.int .i64 2) left5 fun x34 =>
 pNil c0 fun x37 =>
 pFieldAddr 2 x37 fun x38 =>
 pIdxArr 16 1 x38 n6 fun x39 =>
 pLoad H_7 x39 fun x40 =>
 pSub x34 x40 fun x41 =>
 pLt x41 (.int .i64 0) fun x43 =>
 pCond x43
 (R x41 H_7)
 (pAdd n6 (.int .i64 1) fun x32 =>
 I_5 x41 x32 H_7 ∧ m_6 x41 x32 H_7 < m_6 left5 n6 H_7))
 (R left5 H_7))
set_option maxRecDepth 100000 in
theorem canon_Code_fill.vc (c0 : Value) (H0 : Heap) (R : Value → Heap → Prop) (h : canon_Code_fill.res c0 H0 R) : CallsH Tryz.prog 39 #[c0] H0 R := by
  have e : vcFn Tryz.prog Tryz.C Tryz.f39 canon_Code_fill.an [c0] H0 R = canon_Code_fill.res c0 H0 R := by kernel_rfl
  exact vcFn_sound Tryz.callable Tryz.mixed Tryz.func39 (by kernel_rfl) (e.mpr h)
def canon_Code_slack.an : Ann := (.seq (.reg (.op 0 [] .nil)) (.seq (.reg (.op 0 [] .nil)) (.seq (.seq (.reg (.op 0 [] (.op 1 [] (.op 2 [] (.op 3 [] (.op 4 [] .nil)))))) (.block (.loop [3, 10] [3, 5, 10, 11, 12, 13, 14, 15, 16] (.seq (.reg (.op 0 [] .nil)) (.seq (.cond .leaf .leaf) (.seq (.block (.seq (.reg (.op 0 [] (.op 1 [] .nil))) (.reg (.op 0 [] (.op 1 [] (.op 2 [] (.op 3 [] .nil))))))) (.reg (.op 0 [] (.op 1 [] .nil))))))))) (.seq (.reg (.op 0 [] (.op 1 [] (.op 2 [] (.grp 2 (.op 3 [] (.op 4 [] (.op 5 [] (.grp 5 (.op 6 [] (.op 7 [] (.op 8 [] (.op 9 [] (.op 10 [] (.op 11 [] .nil)))))) 12 .nil)))) 13 (.op 14 [] .nil)))))) .leaf))))
def canon_Code_slack.res (c0 : Value) (H0 : Heap) (R : Value → Heap → Prop) : Prop :=
 pNil c0 fun x7 =>
 pFieldAddr 2 x7 fun x8 =>
 pLoadN H0 16 x8 fun x9 =>
 ∃ (I_1 : Value → Value → Heap → Prop) (m_2 : Value → Value → Heap → Nat), I_1 (.int .i64 0) (.int .i64 0) H0 ∧
 ∀ _ : Env, ∀ all3 : Value, ∀ x10 : Value, ∀ H_3 : Heap, I_1 all3 x10 H_3 →
 pLt x10 (.int .i64 16) fun x11 =>
 pCond x11
 (pIdxAgg 16 x9 x10 fun x12 =>
 pAdd all3 x12 fun x15 =>
 pAdd x10 (.int .i64 1) fun x16 =>
 I_1 x15 x16 H_3 ∧ m_2 x15 x16 H_3 < m_2 all3 x10 H_3)
 (pEq 0 all3 (.int .i64 0) fun x18 =>
 pOr x18 (fun J_4 =>
 pEq 0 all3 (.int .i64 1) fun x21 =>
 pAnd x21 (fun J_6 =>
 pNil c0 fun x24 =>
 pFieldAddr 2 x24 fun x25 =>
 pIdxArr 16 1 x25 (.int .i64 1) fun x26 =>
 pLoad H_3 x26 fun x27 =>
 pEq 0 x27 (.int .i64 1) fun x28 =>
 J_6 x28 H_3) H_3 fun x29 H_7 => ∀ _ : Env,
 J_4 x29 H_7) H_3 fun x30 H_5 => ∀ _ : Env,
 R x30 H_5)
set_option maxRecDepth 100000 in
theorem canon_Code_slack.vc (c0 : Value) (H0 : Heap) (R : Value → Heap → Prop) (h : canon_Code_slack.res c0 H0 R) : CallsH Tryz.prog 40 #[c0] H0 R := by
  have e : vcFn Tryz.prog Tryz.C Tryz.f40 canon_Code_slack.an [c0] H0 R = canon_Code_slack.res c0 H0 R := by kernel_rfl
  exact vcFn_sound Tryz.callable Tryz.mixed Tryz.func40 (by kernel_rfl) (e.mpr h)
def canon_Code_assign.an : Ann := (.seq (.reg (.op 0 [] (.op 1 [] (.op 2 [] (.op 3 [] (.op 4 [] (.op 5 [] (.op 6 [] (.op 7 [] (.op 8 [] (.op 9 [] .nil))))))))))) (.seq (.reg (.op 0 [] .nil)) (.seq (.reg (.op 0 [] .nil)) (.block (.loop [2, 3] [2, 3, 4, 5, 15, 16, 17, 18, 19, 20, 21, 22, 23, 24, 25, 26, 27, 28, 29, 30, 31, 32, 33, 34, 35, 36, 37, 38, 39, 40, 41, 42, 43, 44, 45, 46, 47, 48, 49, 50, 51, 52, 53, 54, 55, 56, 57] (.seq (.seq (.reg (.op 0 [] (.op 1 [] .nil))) (.cond .leaf .leaf)) (.seq (.block (.seq (.reg (.op 0 [] (.op 1 [] (.op 2 [] .nil)))) (.seq (.reg (.op 0 [] (.op 1 [] (.op 2 [] (.op 3 [] (.op 4 [] (.op 5 [] .nil))))))) (.block (.loop [2, 26] [2, 4, 5, 26, 27, 28, 29, 30, 31, 32, 33, 34, 35, 36, 37, 38, 39, 40, 41, 42, 43, 44, 45, 46, 47, 48, 49, 50, 51, 52, 53, 54, 55, 56, 57] (.seq (.reg (.op 0 [] .nil)) (.seq (.cond .leaf .leaf) (.seq (.block (.seq (.reg (.op 0 [] (.op 1 [] (.op 2 [] (.op 3 [] (.op 4 [] .nil)))))) (.seq (.reg (.op 0 [] (.op 1 [] (.op 2 [] .nil)))) (.cond (.seq (.drw [0, 1, 3, 7, 0, 0, 0, 96, 0, 480, 1023, 2047] (.op 0 [] (.op 1 [] (.op 2 [] (.op 3 [] (.op 4 [] (.op 5 [] (.op 6 [] (.op 8 [] (.op 7 [3] (.op 9 [] (.op 10 [] (.op 11 [] .nil))))))))))))) (.seq (.reg (.op 0 [] (.op 1 [] (.op 2 [] (.op 3 [] (.op 4 [] (.op 5 [] (.op 6 [] (.op 7 [] (.op 8 [] (.op 9 [] (.op 10 [] .nil)))))))))))) (.reg (.op 0 [] (.op 1 [] (.op 2 [] .nil)))))) .leaf)))) (.reg (.op 0 [] (.op 1 [] .nil))))))))))) (.reg (.op 0 [] (.op 1 [] (.op 2 [] .nil)))))))))))
def canon_Code_assign.res (c0 : Value) (H0 : Heap) (R : Value → Heap → Prop) : Prop :=
 pNil c0 fun x8 =>
 pFieldAddr 0 x8 fun x9 =>
 pLoad H0 x9 fun x10 =>
 pLen x10 fun x11 =>
 pMakeSl H0 124 16 [(.int .u64 0), (.int .i64 0)] x11 x11 fun x12 H_1 =>
 pNil c0 fun x13 =>
 pFieldAddr 1 x13 fun x14 =>
 pStore H_1 x14 x12 fun _ H_2 =>
 ∃ (I_3 : Value → Value → Heap → Prop) (m_4 : Value → Value → Heap → Nat), I_3 (.int .u64 0) (.int .i64 1) H_2 ∧
 ∀ _ : Env, ∀ next2 : Value, ∀ n3 : Value, ∀ H_5 : Heap, I_3 next2 n3 H_5 →
 pLe n3 (.int .i64 15) fun x16 =>
 pCond x16
 (pShl next2 (.int .u64 1) fun x20 =>
 pNil c0 fun x22 =>
 pFieldAddr 0 x22 fun x23 =>
 pLoad H_5 x23 fun x24 =>
 pLen x24 fun x25 =>
 ∃ (I_6 : Value → Value → Heap → Prop) (m_7 : Value → Value → Heap → Nat), I_6 x20 (.int .i64 0) H_5 ∧
 ∀ _ : Env, ∀ next2' : Value, ∀ x26 : Value, ∀ H_8 : Heap, I_6 next2' x26 H_8 →
 pLt x26 x25 fun x27 =>
 pCond x27
 (pIdxSl 1 x24 x26 fun x29 =>
 pLoad H_8 x29 fun x30 =>
 pEq 0 x30 n3 fun x33 =>
 pCond x33
 (pNil c0 fun x35 =>
 pFieldAddr 1 x35 fun x36 =>
 pLoad H_8 x36 fun x37 =>
 CallsH Tryz.prog 70 #[next2', n3] H_8 fun x41 H_9 =>
 (pLoad H_9 x36 fun r_ =>
 r_ = x37) ∧
 pBuild [(.int .u64 0), (.int .i64 0)] [(0, 1, x41), (1, 1, n3)] fun x43 =>
 pIdxSl 2 x37 x26 fun x44 =>
 pStoreN H_9 2 x44 x43 fun _ H_10 =>
 pNil c0 fun x47 =>
 pFieldAddr 18 x47 fun x48 =>
 pLoad H_10 x48 fun x49 =>
 pBuildSl H_10 3 1 [(.int .i64 0)] [(0, 1, x26)] fun x51 H_11 =>
 pAppend H_11 3 1 8 [(.int .i64 0)] x49 x51 fun x52 H_12 =>
 pNil c0 fun x53 =>
 pFieldAddr 18 x53 fun x54 =>
 pStore H_12 x54 x52 fun _ H_13 =>
 pAdd next2' (.int .u64 1) fun x56 =>
 pAdd x26 (.int .i64 1) fun x57 =>
 I_6 x56 x57 H_13 ∧ m_7 x56 x57 H_13 < m_7 next2' x26 H_8)
 (pAdd x26 (.int .i64 1) fun x57 =>
 I_6 next2' x57 H_8 ∧ m_7 next2' x57 H_8 < m_7 next2' x26 H_8))
 (pAdd n3 (.int .i64 1) fun x18 =>
 I_3 next2' x18 H_8 ∧ m_4 next2' x18 H_8 < m_4 next2 n3 H_5))
 (R (.tuple #[]) H_5)
set_option maxRecDepth 100000 in
theorem canon_Code_assign.vc (c0 : Value) (H0 : Heap) (R : Value → Heap → Prop) (h : canon_Code_assign.res c0 H0 R) : CallsH Tryz.prog 41 #[c0] H0 R := by
  have e : vcFn Tryz.prog Tryz.C Tryz.f41 canon_Code_assign.an [c0] H0 R = canon_Code_assign.res c0 H0 R := by kernel_rfl
  exact vcFn_sound Tryz.callable Tryz.mixed Tryz.func41 (by kernel_rfl) (e.mpr h)
def canon_Code_Word.an : Ann := (.seq (.reg (.op 0 [] (.op 1 [] .nil))) (.seq (.seq (.reg (.op 0 [] (.op 1 [] (.op 2 [] (.grp 2 (.op 3 [] (.op 4 [] .nil)) 5 (.op 6 [] (.grp 6 (.op 7 [] (.op 8 [] (.op 9 [] (.op 10 [] (.op 11 [] (.op 12 [] (.op 13 [] .nil))))))) 14 .nil))))))) (.cond (.seq (.reg (.op 0 [] (.op 1 [] .nil))) .leaf) .leaf)) (.seq (.drw [0, 1, 3, 7, 0, 31, 63, 127, 0, 256, 768, 1792, 0, 7936, 16128, 32512, 255, 131071] (.op 0 [] (.op 1 [] (.op 2 [] (.op 3 [] (.op 4 [] (.op 5 [] (.op 6 [] (.op 7 [] (.op 8 [] (.op 9 [] (.op 10 [] (.op 11 [] (.op 12 [] (.op 13 [] (.op 14 [] (.op 15 [] (.op 16 [] (.op 17 [] .nil))))))))))))))))))) .leaf)))
def canon_Code_Word.res (c0 : Value) (symbol1 : Value) (H0 : Heap) (R : Value → Heap → Prop) : Prop :=
 pEq 3 c0 (.pointer none) fun x7 =>
 pOr x7 (fun J_1 =>
 pLt symbol1 (.int .i64 0) fun x10 =>
 J_1 x10 H0) H0 fun x11 H_2 => ∀ _ : Env,
 pOr x11 (fun J_3 =>
 pNil c0 fun x15 =>
 pFieldAddr 1 x15 fun x16 =>
 pLoad H_2 x16 fun x17 =>
 pLen x17 fun x18 =>
 pGe symbol1 x18 fun x19 =>
 J_3 x19 H_2) H_2 fun x20 H_4 => ∀ _ : Env,
 pCond x20
 (R (.tuple #[(.int .u64 0), (.int .i64 0)]) H_4)
 (pNil c0 fun x22 =>
 pFieldAddr 1 x22 fun x23 =>
 pLoad H_4 x23 fun x24 =>
 pIdxSl 2 x24 symbol1 fun x26 =>
 pFieldAddr 0 x26 fun x27 =>
 pLoad H_4 x27 fun x28 =>
 pNil c0 fun x30 =>
 pFieldAddr 1 x30 fun x31 =>
 pLoad H_4 x31 fun x32 =>
 pIdxSl 2 x32 symbol1 fun x34 =>
 pFieldAddr 1 x34 fun x35 =>
 pLoad H_4 x35 fun x36 =>
 R (.tuple #[x28, x36]) H_4)
set_option maxRecDepth 100000 in
theorem canon_Code_Word.vc (c0 : Value) (symbol1 : Value) (H0 : Heap) (R : Value → Heap → Prop) (h : canon_Code_Word.res c0 symbol1 H0 R) : CallsH Tryz.prog 42 #[c0, symbol1] H0 R := by
  have e : vcFn Tryz.prog Tryz.C Tryz.f42 canon_Code_Word.an [c0, symbol1] H0 R = canon_Code_Word.res c0 symbol1 H0 R := by kernel_rfl
  exact vcFn_sound Tryz.callable Tryz.mixed Tryz.func42 (by kernel_rfl) (e.mpr h)
def canon_Code_find.an : Ann := (.seq (.reg (.op 0 [] (.op 1 [] .nil))) (.seq (.reg (.op 0 [] (.op 1 [] (.op 2 [] .nil)))) (.seq (.seq (.reg (.op 0 [] .nil)) (.block (.loop [1, 8, 9, 10, 11] [1, 6, 7, 8, 9, 10, 11, 12, 13, 14, 15, 16, 17, 18, 19, 20, 21, 22, 23, 24, 25, 26, 27, 28, 29, 30, 31, 32, 33, 34, 35, 36, 37, 38, 39, 40, 41, 42, 43, 44, 45, 46, 47, 48, 49, 50, 51, 52, 53, 54, 55, 56, 57, 58, 59, 60, 61, 62, 63, 64, 65, 66] (.seq (.seq (.reg (.op 0 [] (.op 1 [] (.op 2 [] .nil)))) (.cond .leaf .leaf)) (.seq (.block (.seq (.reg (.op 0 [] (.op 1 [] (.op 2 [] (.op 3 [] (.op 4 [] (.op 5 [] .nil))))))) (.seq (.reg (.op 0 [] (.op 1 [] (.op 2 [] .nil)))) (.seq (.seq (.reg (.op 0 [] (.op 1 [] (.op 2 [] (.op 3 [] (.op 4 [] (.op 5 [] (.op 6 [] .nil)))))))) (.seq (.reg (.op 0 [] (.op 1 [] (.op 2 [] (.op 3 [] (.op 4 [] .nil)))))) (.cond (.seq (.reg (.op 0 [] (.op 1 [] (.op 2 [] (.op 3 [] (.op 4 [] (.op 5 [] (.op 6 [] (.op 7 [] (.op 8 [] (.op 9 [] (.op 10 [] (.op 11 [] (.op 12 [] (.op 13 [] .nil))))))))))))))) .leaf) .leaf))) (.seq (.reg (.op 0 [] (.op 1 [] (.op 2 [] (.op 3 [] (.op 4 [] (.op 5 [] (.op 6 [] (.op 7 [] (.op 8 [] .nil)))))))))) (.seq (.reg (.op 0 [] (.op 1 [] (.op 2 [] (.op 3 [] (.op 4 [] (.op 5 [] (.op 6 [] (.op 7 [] (.op 8 [] (.op 9 [] .nil))))))))))) (.reg (.op 0 [] (.op 1 [] (.op 2 [] .nil)))))))))) (.reg (.op 0 [] (.op 1 [] (.op 2 [] .nil))))))))) (.seq (.reg (.op 0 [] (.op 1 [] .nil))) .leaf))))
def canon_Code_find.res (c0 : Value) (v1 : Value) (have2 : Value) (H0 : Heap) (R : Value → Heap → Prop) : Prop :=
 ∃ (I_1 : Value → Value → Value → Value → Value → Heap → Prop) (m_2 : Value → Value → Value → Value → Value → Heap → Nat), I_1 v1 (.int .i64 0) (.int .i64 0) (.int .i64 0) (.int .i64 1) H0 ∧
 ∀ _ : Env, ∀ v1' : Value, ∀ word8 : Value, ∀ first9 : Value, ∀ index10 : Value, ∀ n11 : Value, ∀ H_3 : Heap, I_1 v1' word8 first9 index10 n11 H_3 →
 pLe n11 have2 fun x15 =>
 pCond x15
 (pBits .and v1' (.int .u64 1) fun x20 =>
 pConv .i64 x20 fun x21 =>
 pBits .or word8 x21 fun x22 =>
 pShr v1' (.int .u64 1) fun x24 =>
 pNil c0 fun x27 =>
 pFieldAddr 2 x27 fun x28 =>
 pIdxArr 16 1 x28 n11 fun x29 =>
 pLoad H_3 x29 fun x30 =>
 pSub x22 first9 fun x33 =>
 pLt x33 x30 fun x35 =>
 pCond x35
 (pNil c0 fun x37 =>
 pFieldAddr 18 x37 fun x38 =>
 pLoad H_3 x38 fun x39 =>
 pAdd index10 x22 fun x42 =>
 pSub x42 first9 fun x44 =>
 pIdxSl 1 x39 x44 fun x45 =>
 pLoad H_3 x45 fun x46 =>
 R (.tuple #[x46, n11]) H_3)
 (pNil c0 fun x51 =>
 pFieldAddr 2 x51 fun x52 =>
 pIdxArr 16 1 x52 n11 fun x53 =>
 pLoad H_3 x53 fun x54 =>
 pAdd index10 x54 fun x55 =>
 pNil c0 fun x59 =>
 pFieldAddr 2 x59 fun x60 =>
 pIdxArr 16 1 x60 n11 fun x61 =>
 pLoad H_3 x61 fun x62 =>
 pAdd first9 x62 fun x63 =>
 pShl x63 (.int .u64 1) fun x64 =>
 pShl x22 (.int .u64 1) fun x66 =>
 pAdd n11 (.int .i64 1) fun x17 =>
 I_1 x24 x66 x64 x55 x17 H_3 ∧ m_2 x24 x66 x64 x55 x17 H_3 < m_2 v1' word8 first9 index10 n11 H_3))
 (R (.tuple #[(.int .i64 0), (.int .i64 0)]) H_3)
set_option maxRecDepth 100000 in
theorem canon_Code_find.vc (c0 : Value) (v1 : Value) (have2 : Value) (H0 : Heap) (R : Value → Heap → Prop) (h : canon_Code_find.res c0 v1 have2 H0 R) : CallsH Tryz.prog 44 #[c0, v1, have2] H0 R := by
  have e : vcFn Tryz.prog Tryz.C Tryz.f44 canon_Code_find.an [c0, v1, have2] H0 R = canon_Code_find.res c0 v1 have2 H0 R := by kernel_rfl
  exact vcFn_sound Tryz.callable Tryz.mixed Tryz.func44 (by kernel_rfl) (e.mpr h)
def canon_Code_open.an : Ann := (.seq (.reg (.op 0 [] (.op 1 [] (.op 2 [] .nil)))) (.seq (.reg (.op 0 [] (.op 1 [] (.op 2 [] (.op 3 [] (.op 4 [] .nil)))))) (.seq (.reg (.op 0 [] (.op 1 [] (.op 2 [] (.op 3 [] (.op 4 [] (.op 5 [] (.op 6 [] .nil)))))))) .leaf)))
def canon_Code_open.res (c0 : Value) (v1 : Value) (have2 : Value) (H0 : Heap) (R : Value → Heap → Prop) : Prop :=
 pBox H0 25 v1 fun v4 H_1 =>
 pBox H_1 3 have2 fun have5 H_2 =>
 pLoad H_2 have5 fun x8 =>
 pShl (.int .u64 1) x8 fun x9 =>
 pSub x9 (.int .u64 1) fun x10 =>
 pBox H_2 25 (.int .u64 0) fun mask7 H_3 =>
 pStore H_3 mask7 x10 fun _ H_4 =>
 pNil c0 fun x12 =>
 pFieldAddr 1 x12 fun x13 =>
 pLoad H_4 x13 fun x14 =>
 CallsH Tryz.prog 73 #[x14, (.func (.func 74) #[] #[have5, mask7, v4])] H_4 fun x16 H_5 =>
 R x16 H_5
set_option maxRecDepth 100000 in
theorem canon_Code_open.vc (c0 : Value) (v1 : Value) (have2 : Value) (H0 : Heap) (R : Value → Heap → Prop) (h : canon_Code_open.res c0 v1 have2 H0 R) : CallsH Tryz.prog 46 #[c0, v1, have2] H0 R := by
  have e : vcFn Tryz.prog Tryz.C Tryz.f46 canon_Code_open.an [c0, v1, have2] H0 R = canon_Code_open.res c0 v1 have2 H0 R := by kernel_rfl
  exact vcFn_sound Tryz.callable Tryz.mixed Tryz.func46 (by kernel_rfl) (e.mpr h)
def canon_Code_Lengths.an : Ann := (.seq (.reg (.op 0 [] .nil)) (.seq (.seq (.reg (.op 0 [] (.op 1 [] .nil))) (.cond (.seq (.reg (.op 0 [] .nil)) .leaf) .leaf)) (.seq (.reg (.op 0 [] (.op 1 [] (.op 2 [] (.op 3 [] (.op 4 [] (.op 5 [] .nil))))))) .leaf)))
def canon_Code_Lengths.res (c0 : Value) (H0 : Heap) (R : Value → Heap → Prop) : Prop :=
 pEq 3 c0 (.pointer none) fun x4 =>
 pCond x4
 (R (.slice none 0 0) H0)
 (pNil c0 fun x6 =>
 pFieldAddr 0 x6 fun x7 =>
 pLoad H0 x7 fun x8 =>
 CallsH Tryz.prog 38 #[x8] H0 fun x9 H_1 =>
 R x9 H_1)
set_option maxRecDepth 100000 in
theorem canon_Code_Lengths.vc (c0 : Value) (H0 : Heap) (R : Value → Heap → Prop) (h : canon_Code_Lengths.res c0 H0 R) : CallsH Tryz.prog 59 #[c0] H0 R := by
  have e : vcFn Tryz.prog Tryz.C Tryz.f59 canon_Code_Lengths.an [c0] H0 R = canon_Code_Lengths.res c0 H0 R := by kernel_rfl
  exact vcFn_sound Tryz.callable Tryz.mixed Tryz.func59 (by kernel_rfl) (e.mpr h)
def canon_turned.an : Ann := (.seq (.reg (.op 0 [] .nil)) (.seq (.reg (.op 0 [] .nil)) (.seq (.seq (.reg (.op 0 [] (.op 1 [] .nil))) (.block (.loop [0, 5, 7] [0, 5, 7, 8, 9, 10, 11, 12, 13, 14, 15, 16] (.seq (.reg (.op 0 [] .nil)) (.seq (.cond .leaf .leaf) (.seq (.block (.seq (.reg (.op 0 [] (.op 1 [] (.op 2 [] (.op 3 [] (.op 4 [] (.op 5 [] .nil))))))) (.reg (.op 0 [] (.op 1 [] (.op 2 [] .nil)))))) (.reg (.op 0 [] (.op 1 [] .nil))))))))) (.seq (.reg (.op 0 [] (.op 1 [] .nil))) .leaf))))
def canon_turned.res (v0 : Value) (n1 : Value) (H0 : Heap) (R : Value → Heap → Prop) : Prop :=
 ∃ (I_1 : Value → Value → Value → Heap → Prop) (m_2 : Value → Value → Value → Heap → Nat), I_1 v0 (.int .u64 0) (.int .i64 0) H0 ∧
 ∀ _ : Env, ∀ v0' : Value, ∀ out5 : Value, ∀ x7 : Value, ∀ H_3 : Heap, I_1 v0' out5 x7 H_3 →
 pLt x7 n1 fun x8 =>
 pCond x8
 (pShl out5 (.int .u64 1) fun x10 =>
 pBits .and v0' (.int .u64 1) fun x12 =>
 pBits .or x10 x12 fun x13 =>
 pShr v0' (.int .u64 1) fun x15 =>
 pAdd x7 (.int .i64 1) fun x16 =>
 I_1 x15 x13 x16 H_3 ∧ m_2 x15 x13 x16 H_3 < m_2 v0' out5 x7 H_3)
 (R out5 H_3)
set_option maxRecDepth 100000 in
theorem canon_turned.vc (v0 : Value) (n1 : Value) (H0 : Heap) (R : Value → Heap → Prop) (h : canon_turned.res v0 n1 H0 R) : CallsH Tryz.prog 70 #[v0, n1] H0 R := by
  have e : vcFn Tryz.prog Tryz.C Tryz.f70 canon_turned.an [v0, n1] H0 R = canon_turned.res v0 n1 H0 R := by kernel_rfl
  exact vcFn_sound Tryz.callable Tryz.mixed Tryz.func70 (by kernel_rfl) (e.mpr h)
def canon_Code_open_f1.an : Ann := (.seq (.reg (.op 0 [] (.op 1 [] .nil))) (.seq (.reg (.op 0 [] (.op 1 [] (.op 2 [] (.op 3 [] (.op 4 [] (.grp 4 (.op 5 [] (.op 6 [] (.op 7 [] (.op 8 [] (.op 9 [] (.op 10 [] .nil)))))) 11 (.op 12 [] .nil)))))))) .leaf))
def canon_Code_open_f1.res (w0 : Value) (a1 : Value) (a2 : Value) (a3 : Value) (H0 : Heap) (R : Value → Heap → Prop) : Prop :=
 pBox H0 124 w0 fun w4 H_1 =>
 pFieldAddr 1 w4 fun x6 =>
 pLoad H_1 x6 fun x7 =>
 pLoad H_1 a1 fun x8 =>
 pGt x7 x8 fun x9 =>
 pAnd x9 (fun J_2 =>
 pFieldAddr 0 w4 fun x11 =>
 pLoad H_1 x11 fun x12 =>
 pLoad H_1 a2 fun x13 =>
 pBits .and x12 x13 fun x14 =>
 pLoad H_1 a3 fun x15 =>
 pEq 0 x14 x15 fun x16 =>
 J_2 x16 H_1) H_1 fun x17 H_3 => ∀ _ : Env,
 R x17 H_3
set_option maxRecDepth 100000 in
theorem canon_Code_open_f1.vc (w0 : Value) (a1 : Value) (a2 : Value) (a3 : Value) (H0 : Heap) (R : Value → Heap → Prop) (h : canon_Code_open_f1.res w0 a1 a2 a3 H0 R) : CallsH Tryz.prog 74 #[w0, a1, a2, a3] H0 R := by
  have e : vcFn Tryz.prog Tryz.C Tryz.f74 canon_Code_open_f1.an [w0, a1, a2, a3] H0 R = canon_Code_open_f1.res w0 a1 a2 a3 H0 R := by kernel_rfl
  exact vcFn_sound Tryz.callable Tryz.mixed Tryz.func74 (by kernel_rfl) (e.mpr h)
def strings_Builder_Reset.an : Ann := (.seq (.reg (.op 0 [] (.op 1 [] (.op 2 [] (.op 3 [] .nil))))) (.reg (.op 0 [] (.op 1 [] (.op 2 [] (.op 3 [] .nil))))))
def strings_Builder_Reset.res (b0 : Value) (H0 : Heap) (R : Value → Heap → Prop) : Prop :=
 pNil b0 fun x3 =>
 pFieldAddr 0 x3 fun x4 =>
 pStore H0 x4 (.pointer none) fun _ H_1 =>
 pNil b0 fun x6 =>
 pFieldAddr 1 x6 fun x7 =>
 pStore H_1 x7 (.slice none 0 0) fun _ H_2 =>
 R (.tuple #[]) H_2
set_option maxRecDepth 100000 in
theorem strings_Builder_Reset.vc (b0 : Value) (H0 : Heap) (R : Value → Heap → Prop) (h : strings_Builder_Reset.res b0 H0 R) : CallsH Tryz.prog 29 #[b0] H0 R := by
  have e : vcFn Tryz.prog Tryz.C Tryz.f29 strings_Builder_Reset.an [b0] H0 R = strings_Builder_Reset.res b0 H0 R := by kernel_rfl
  exact vcFn_sound Tryz.callable Tryz.mixed Tryz.func29 (by kernel_rfl) (e.mpr h)
def strings_Builder_WriteString.an : Ann := (.seq (.reg (.op 0 [] (.op 1 [] .nil))) (.seq (.reg (.op 0 [] (.op 1 [] .nil))) (.seq (.reg (.op 0 [] (.op 1 [] (.op 2 [] (.op 3 [] (.op 4 [] (.op 5 [] (.op 6 [] (.op 7 [] (.op 8 [] (.op 9 [] .nil))))))))))) (.seq (.reg (.op 0 [] (.op 1 [] (.op 2 [] (.op 3 [] .nil))))) .leaf))))
def strings_Builder_WriteString.res (b0 : Value) (s1 : Value) (H0 : Heap) (R : Value → Heap → Prop) : Prop :=
 CallsH Tryz.prog 103 #[b0] H0 fun x7 H_1 =>
 pNil b0 fun x10 =>
 pFieldAddr 1 x10 fun x11 =>
 pLoad H_1 x11 fun x12 =>
 pAppend H_1 5 1 1 [(.int .u8 0)] x12 s1 fun x14 H_2 =>
 pNil b0 fun x15 =>
 pFieldAddr 1 x15 fun x16 =>
 pStore H_2 x16 x14 fun _ H_3 =>
 pLenS s1 fun x18 =>
 R (.tuple #[x18, .nilIface]) H_3
set_option maxRecDepth 100000 in
theorem strings_Builder_WriteString.vc (b0 : Value) (s1 : Value) (H0 : Heap) (R : Value → Heap → Prop) (h : strings_Builder_WriteString.res b0 s1 H0 R) : CallsH Tryz.prog 89 #[b0, s1] H0 R := by
  have e : vcFn Tryz.prog Tryz.C Tryz.f89 strings_Builder_WriteString.an [b0, s1] H0 R = strings_Builder_WriteString.res b0 s1 H0 R := by kernel_rfl
  exact vcFn_sound Tryz.callable Tryz.mixed Tryz.func89 (by kernel_rfl) (e.mpr h)
def strings_Builder_WriteByte.an : Ann := (.seq (.reg (.op 0 [] .nil)) (.seq (.reg (.op 0 [] (.op 1 [] .nil))) (.seq (.reg (.op 0 [] (.op 1 [] (.op 2 [] (.op 3 [] (.op 4 [] (.op 5 [] (.op 6 [] (.op 7 [] (.op 8 [] (.op 9 [] (.op 10 [] .nil)))))))))))) (.seq (.reg (.op 0 [] .nil)) .leaf))))
def strings_Builder_WriteByte.res (b0 : Value) (c1 : Value) (H0 : Heap) (R : Value → Heap → Prop) : Prop :=
 CallsH Tryz.prog 103 #[b0] H0 fun x6 H_1 =>
 pNil b0 fun x9 =>
 pFieldAddr 1 x9 fun x10 =>
 pLoad H_1 x10 fun x11 =>
 pBuildSl H_1 5 1 [(.int .u8 0)] [(0, 1, c1)] fun x13 H_2 =>
 pAppend H_2 5 1 1 [(.int .u8 0)] x11 x13 fun x14 H_3 =>
 pNil b0 fun x15 =>
 pFieldAddr 1 x15 fun x16 =>
 pStore H_3 x16 x14 fun _ H_4 =>
 R .nilIface H_4
set_option maxRecDepth 100000 in
theorem strings_Builder_WriteByte.vc (b0 : Value) (c1 : Value) (H0 : Heap) (R : Value → Heap → Prop) (h : strings_Builder_WriteByte.res b0 c1 H0 R) : CallsH Tryz.prog 93 #[b0, c1] H0 R := by
  have e : vcFn Tryz.prog Tryz.C Tryz.f93 strings_Builder_WriteByte.an [b0, c1] H0 R = strings_Builder_WriteByte.res b0 c1 H0 R := by kernel_rfl
  exact vcFn_sound Tryz.callable Tryz.mixed Tryz.func93 (by kernel_rfl) (e.mpr h)
def slices_ContainsFunc_s_int_int.an : Ann := (.seq (.reg (.op 0 [] .nil)) (.seq (.reg (.op 0 [] (.op 1 [] (.op 2 [] (.op 3 [] (.op 4 [] .nil)))))) .leaf))
def slices_ContainsFunc_s_int_int.res (s0 : Value) (f1 : Value) (H0 : Heap) (R : Value → Heap → Prop) : Prop :=
 CallsH Tryz.prog 69 #[s0, f1] H0 fun x7 H_1 =>
 pGe x7 (.int .i64 0) fun x8 =>
 R x8 H_1
set_option maxRecDepth 100000 in
theorem slices_ContainsFunc_s_int_int.vc (s0 : Value) (f1 : Value) (H0 : Heap) (R : Value → Heap → Prop) (h : slices_ContainsFunc_s_int_int.res s0 f1 H0 R) : CallsH Tryz.prog 37 #[s0, f1] H0 R := by
  have e : vcFn Tryz.prog Tryz.C Tryz.f37 slices_ContainsFunc_s_int_int.an [s0, f1] H0 R = slices_ContainsFunc_s_int_int.res s0 f1 H0 R := by kernel_rfl
  exact vcFn_sound Tryz.callable Tryz.mixed Tryz.func37 (by kernel_rfl) (e.mpr h)
def slices_Clone_s_int_int.an : Ann := (.seq (.reg (.op 0 [] .nil)) (.seq (.seq (.reg (.op 0 [] (.op 1 [] .nil))) (.cond (.seq (.reg (.op 0 [] .nil)) .leaf) .leaf)) (.seq (.reg (.op 0 [] (.op 1 [] (.op 2 [] (.op 3 [] .nil))))) .leaf)))
def slices_Clone_s_int_int.res (s0 : Value) (H0 : Heap) (R : Value → Heap → Prop) : Prop :=
 pEq 4 s0 (.slice none 0 0) fun x4 =>
 pCond x4
 (R (.slice none 0 0) H0)
 (pBuildSl H0 3 0 [] [] fun x5 H_1 =>
 pAppend H_1 3 1 8 [(.int .i64 0)] x5 s0 fun x7 H_2 =>
 R x7 H_2)
set_option maxRecDepth 100000 in
theorem slices_Clone_s_int_int.vc (s0 : Value) (H0 : Heap) (R : Value → Heap → Prop) (h : slices_Clone_s_int_int.res s0 H0 R) : CallsH Tryz.prog 38 #[s0] H0 R := by
  have e : vcFn Tryz.prog Tryz.C Tryz.f38 slices_Clone_s_int_int.an [s0] H0 R = slices_Clone_s_int_int.res s0 H0 R := by kernel_rfl
  exact vcFn_sound Tryz.callable Tryz.mixed Tryz.func38 (by kernel_rfl) (e.mpr h)
def slices_ContainsFunc_s_lz_Token_lz_Token.an : Ann := (.seq (.reg (.op 0 [] .nil)) (.seq (.reg (.op 0 [] (.op 1 [] (.op 2 [] (.op 3 [] (.op 4 [] .nil)))))) .leaf))
def slices_ContainsFunc_s_lz_Token_lz_Token.res (s0 : Value) (f1 : Value) (H0 : Heap) (R : Value → Heap → Prop) : Prop :=
 CallsH Tryz.prog 76 #[s0, f1] H0 fun x7 H_1 =>
 pGe x7 (.int .i64 0) fun x8 =>
 R x8 H_1
set_option maxRecDepth 100000 in
theorem slices_ContainsFunc_s_lz_Token_lz_Token.vc (s0 : Value) (f1 : Value) (H0 : Heap) (R : Value → Heap → Prop) (h : slices_ContainsFunc_s_lz_Token_lz_Token.res s0 f1 H0 R) : CallsH Tryz.prog 50 #[s0, f1] H0 R := by
  have e : vcFn Tryz.prog Tryz.C Tryz.f50 slices_ContainsFunc_s_lz_Token_lz_Token.an [s0, f1] H0 R = slices_ContainsFunc_s_lz_Token_lz_Token.res s0 f1 H0 R := by kernel_rfl
  exact vcFn_sound Tryz.callable Tryz.mixed Tryz.func50 (by kernel_rfl) (e.mpr h)
def slices_Concat_s_int_int.an : Ann := (.seq (.reg (.op 0 [] .nil)) (.seq (.reg (.op 0 [] .nil)) (.seq (.seq (.reg (.op 0 [] (.op 1 [] (.op 2 [] .nil)))) (.block (.loop [3, 11] [3, 5, 11, 12, 13, 14, 15, 16, 17, 18, 19, 20, 21, 22] (.seq (.reg (.op 0 [] .nil)) (.seq (.cond .leaf .leaf) (.seq (.block (.seq (.reg (.op 0 [] (.op 1 [] (.op 2 [] .nil)))) (.seq (.reg (.op 0 [] (.op 1 [] (.op 2 [] (.op 3 [] (.op 4 [] .nil)))))) (.seq (.reg (.op 0 [] (.op 1 [] .nil))) (.cond (.reg (.op 0 [] (.op 1 [] .nil))) .leaf))))) (.reg (.op 0 [] (.op 1 [] .nil))))))))) (.seq (.reg (.op 0 [] (.op 1 [] (.op 2 [] .nil)))) (.seq (.seq (.reg (.op 0 [] (.op 1 [] (.op 2 [] .nil)))) (.block (.loop [6, 27] [6, 8, 27, 28, 29, 30, 31, 32, 33, 34] (.seq (.reg (.op 0 [] .nil)) (.seq (.cond .leaf .leaf) (.seq (.block (.seq (.reg (.op 0 [] (.op 1 [] (.op 2 [] .nil)))) (.reg (.op 0 [] (.op 1 [] (.op 2 [] (.op 3 [] .nil))))))) (.reg (.op 0 [] (.op 1 [] .nil))))))))) (.seq (.reg (.op 0 [] (.op 1 [] .nil))) .leaf))))))
def slices_Concat_s_int_int.res (slices0 : Value) (H0 : Heap) (R : Value → Heap → Prop) : Prop :=
 pLen slices0 fun x10 =>
 ∃ (I_1 : Value → Value → Heap → Prop) (m_2 : Value → Value → Heap → Nat), I_1 (.int .i64 0) (.int .i64 0) H0 ∧
 ∀ _ : Env, ∀ size3 : Value, ∀ x11 : Value, ∀ H_3 : Heap, I_1 size3 x11 H_3 →
 pLt x11 x10 fun x12 =>
 pCond x12
 (pIdxSl 1 slices0 x11 fun x13 =>
 pLoad H_3 x13 fun x14 =>
 pLen x14 fun x17 =>
 pAdd size3 x17 fun x18 =>
 pLt x18 (.int .i64 0) fun x20 =>
 pCond x20
 (False)
 (pAdd x11 (.int .i64 1) fun x22 =>
 I_1 x18 x22 H_3 ∧ m_2 x18 x22 H_3 < m_2 size3 x11 H_3))
 (CallsH Tryz.prog 83 #[(.slice none 0 0), size3] H_3 fun x24 H_5 =>
 pLen slices0 fun x26 =>
 ∃ (I_6 : Value → Value → Heap → Prop) (m_7 : Value → Value → Heap → Nat), I_6 x24 (.int .i64 0) H_5 ∧
 ∀ _ : Env, ∀ newslice6 : Value, ∀ x27 : Value, ∀ H_8 : Heap, I_6 newslice6 x27 H_8 →
 pLt x27 x26 fun x28 =>
 pCond x28
 (pIdxSl 1 slices0 x27 fun x29 =>
 pLoad H_8 x29 fun x30 =>
 pAppend H_8 3 1 8 [(.int .i64 0)] newslice6 x30 fun x33 H_9 =>
 pAdd x27 (.int .i64 1) fun x34 =>
 I_6 x33 x34 H_9 ∧ m_7 x33 x34 H_9 < m_7 newslice6 x27 H_8)
 (R newslice6 H_8))
set_option maxRecDepth 100000 in
theorem slices_Concat_s_int_int.vc (slices0 : Value) (H0 : Heap) (R : Value → Heap → Prop) (h : slices_Concat_s_int_int.res slices0 H0 R) : CallsH Tryz.prog 58 #[slices0] H0 R := by
  have e : vcFn Tryz.prog Tryz.C Tryz.f58 slices_Concat_s_int_int.an [slices0] H0 R = slices_Concat_s_int_int.res slices0 H0 R := by kernel_rfl
  exact vcFn_sound Tryz.callable Tryz.mixed Tryz.func58 (by kernel_rfl) (e.mpr h)
def slices_SortFunc_s_int_int.an : Ann := (.seq (.reg (.op 0 [] (.op 1 [] (.op 2 [] .nil)))) (.reg (.op 0 [] (.op 1 [] (.op 2 [] (.op 3 [] (.op 4 [] (.op 5 [] (.op 6 [] .nil)))))))))
def slices_SortFunc_s_int_int.res (x0 : Value) (cmp1 : Value) (H0 : Heap) (R : Value → Heap → Prop) : Prop :=
 pLen x0 fun x6 =>
 pConv .u64 x6 fun x10 =>
 CallsH Tryz.prog 95 #[x10] H0 fun x11 H_1 =>
 CallsH Tryz.prog 94 #[x0, (.int .i64 0), x6, x11, cmp1] H_1 fun x13 H_2 =>
 R (.tuple #[]) H_2
set_option maxRecDepth 100000 in
theorem slices_SortFunc_s_int_int.vc (x0 : Value) (cmp1 : Value) (H0 : Heap) (R : Value → Heap → Prop) (h : slices_SortFunc_s_int_int.res x0 cmp1 H0 R) : CallsH Tryz.prog 64 #[x0, cmp1] H0 R := by
  have e : vcFn Tryz.prog Tryz.C Tryz.f64 slices_SortFunc_s_int_int.an [x0, cmp1] H0 R = slices_SortFunc_s_int_int.res x0 cmp1 H0 R := by kernel_rfl
  exact vcFn_sound Tryz.callable Tryz.mixed Tryz.func64 (by kernel_rfl) (e.mpr h)
def slices_Concat_s_merge_pack_merge_pack.an : Ann := (.seq (.reg (.op 0 [] .nil)) (.seq (.reg (.op 0 [] .nil)) (.seq (.seq (.reg (.op 0 [] (.op 1 [] (.op 2 [] .nil)))) (.block (.loop [3, 11] [3, 5, 11, 12, 13, 14, 15, 16, 17, 18, 19, 20, 21, 22] (.seq (.reg (.op 0 [] .nil)) (.seq (.cond .leaf .leaf) (.seq (.block (.seq (.reg (.op 0 [] (.op 1 [] (.op 2 [] .nil)))) (.seq (.reg (.op 0 [] (.op 1 [] (.op 2 [] (.op 3 [] (.op 4 [] .nil)))))) (.seq (.reg (.op 0 [] (.op 1 [] .nil))) (.cond (.reg (.op 0 [] (.op 1 [] .nil))) .leaf))))) (.reg (.op 0 [] (.op 1 [] .nil))))))))) (.seq (.reg (.op 0 [] (.op 1 [] (.op 2 [] .nil)))) (.seq (.seq (.reg (.op 0 [] (.op 1 [] (.op 2 [] .nil)))) (.block (.loop [6, 27] [6, 8, 27, 28, 29, 30, 31, 32, 33, 34] (.seq (.reg (.op 0 [] .nil)) (.seq (.cond .leaf .leaf) (.seq (.block (.seq (.reg (.op 0 [] (.op 1 [] (.op 2 [] .nil)))) (.reg (.op 0 [] (.op 1 [] (.op 2 [] (.op 3 [] .nil))))))) (.reg (.op 0 [] (.op 1 [] .nil))))))))) (.seq (.reg (.op 0 [] (.op 1 [] .nil))) .leaf))))))
def slices_Concat_s_merge_pack_merge_pack.res (slices0 : Value) (H0 : Heap) (R : Value → Heap → Prop) : Prop :=
 pLen slices0 fun x10 =>
 ∃ (I_1 : Value → Value → Heap → Prop) (m_2 : Value → Value → Heap → Nat), I_1 (.int .i64 0) (.int .i64 0) H0 ∧
 ∀ _ : Env, ∀ size3 : Value, ∀ x11 : Value, ∀ H_3 : Heap, I_1 size3 x11 H_3 →
 pLt x11 x10 fun x12 =>
 pCond x12
 (pIdxSl 1 slices0 x11 fun x13 =>
 pLoad H_3 x13 fun x14 =>
 pLen x14 fun x17 =>
 pAdd size3 x17 fun x18 =>
 pLt x18 (.int .i64 0) fun x20 =>
 pCond x20
 (False)
 (pAdd x11 (.int .i64 1) fun x22 =>
 I_1 x18 x22 H_3 ∧ m_2 x18 x22 H_3 < m_2 size3 x11 H_3))
 (CallsH Tryz.prog 97 #[(.slice none 0 0), size3] H_3 fun x24 H_5 =>
 pLen slices0 fun x26 =>
 ∃ (I_6 : Value → Value → Heap → Prop) (m_7 : Value → Value → Heap → Nat), I_6 x24 (.int .i64 0) H_5 ∧
 ∀ _ : Env, ∀ newslice6 : Value, ∀ x27 : Value, ∀ H_8 : Heap, I_6 newslice6 x27 H_8 →
 pLt x27 x26 fun x28 =>
 pCond x28
 (pIdxSl 1 slices0 x27 fun x29 =>
 pLoad H_8 x29 fun x30 =>
 pAppend H_8 82 2 32 [(.int .i64 0), (.slice none 0 0)] newslice6 x30 fun x33 H_9 =>
 pAdd x27 (.int .i64 1) fun x34 =>
 I_6 x33 x34 H_9 ∧ m_7 x33 x34 H_9 < m_7 newslice6 x27 H_8)
 (R newslice6 H_8))
set_option maxRecDepth 100000 in
theorem slices_Concat_s_merge_pack_merge_pack.vc (slices0 : Value) (H0 : Heap) (R : Value → Heap → Prop) (h : slices_Concat_s_merge_pack_merge_pack.res slices0 H0 R) : CallsH Tryz.prog 68 #[slices0] H0 R := by
  have e : vcFn Tryz.prog Tryz.C Tryz.f68 slices_Concat_s_merge_pack_merge_pack.an [slices0] H0 R = slices_Concat_s_merge_pack_merge_pack.res slices0 H0 R := by kernel_rfl
  exact vcFn_sound Tryz.callable Tryz.mixed Tryz.func68 (by kernel_rfl) (e.mpr h)
def slices_IndexFunc_s_int_int.an : Ann := (.seq (.reg (.op 0 [] .nil)) (.seq (.seq (.reg (.op 0 [] (.op 1 [] (.op 2 [] .nil)))) (.block (.loop [8] [4, 5, 8, 9, 10, 11, 12, 13, 14, 15, 16, 17, 18] (.seq (.reg (.op 0 [] .nil)) (.seq (.cond .leaf .leaf) (.seq (.block (.seq (.reg (.op 0 [] (.op 1 [] .nil))) (.seq (.reg (.op 0 [] (.op 1 [] (.op 2 [] (.op 3 [] (.op 4 [] (.op 5 [] .nil))))))) (.cond (.seq (.reg (.op 0 [] (.op 1 [] .nil))) .leaf) .leaf)))) (.reg (.op 0 [] (.op 1 [] .nil))))))))) (.seq (.reg (.op 0 [] .nil)) .leaf)))
def slices_IndexFunc_s_int_int.res (s0 : Value) (f1 : Value) (H0 : Heap) (R : Value → Heap → Prop) : Prop :=
 pLen s0 fun x7 =>
 ∃ (I_1 : Value → Heap → Prop) (m_2 : Value → Heap → Nat), I_1 (.int .i64 0) H0 ∧
 ∀ _ : Env, ∀ x8 : Value, ∀ H_3 : Heap, I_1 x8 H_3 →
 pLt x8 x7 fun x9 =>
 pCond x9
 (pIdxSl 1 s0 x8 fun x14 =>
 pLoad H_3 x14 fun x15 =>
 callH Tryz.prog Tryz.C f1 [x15] H_3 fun x16 H_4 =>
 pCond x16
 (R x8 H_4)
 (pAdd x8 (.int .i64 1) fun x18 =>
 I_1 x18 H_4 ∧ m_2 x18 H_4 < m_2 x8 H_3))
 (R (.int .i64 (-1)) H_3)
set_option maxRecDepth 100000 in
theorem slices_IndexFunc_s_int_int.vc (s0 : Value) (f1 : Value) (H0 : Heap) (R : Value → Heap → Prop) (h : slices_IndexFunc_s_int_int.res s0 f1 H0 R) : CallsH Tryz.prog 69 #[s0, f1] H0 R := by
  have e : vcFn Tryz.prog Tryz.C Tryz.f69 slices_IndexFunc_s_int_int.an [s0, f1] H0 R = slices_IndexFunc_s_int_int.res s0 f1 H0 R := by kernel_rfl
  exact vcFn_sound Tryz.callable Tryz.mixed Tryz.func69 (by kernel_rfl) (e.mpr h)
def slices_ContainsFunc_s_canon_word_canon_word.an : Ann := (.seq (.reg (.op 0 [] .nil)) (.seq (.reg (.op 0 [] (.op 1 [] (.op 2 [] (.op 3 [] (.op 4 [] .nil)))))) .leaf))
def slices_ContainsFunc_s_canon_word_canon_word.res (s0 : Value) (f1 : Value) (H0 : Heap) (R : Value → Heap → Prop) : Prop :=
 CallsH Tryz.prog 98 #[s0, f1] H0 fun x7 H_1 =>
 pGe x7 (.int .i64 0) fun x8 =>
 R x8 H_1
set_option maxRecDepth 100000 in
theorem slices_ContainsFunc_s_canon_word_canon_word.vc (s0 : Value) (f1 : Value) (H0 : Heap) (R : Value → Heap → Prop) (h : slices_ContainsFunc_s_canon_word_canon_word.res s0 f1 H0 R) : CallsH Tryz.prog 73 #[s0, f1] H0 R := by
  have e : vcFn Tryz.prog Tryz.C Tryz.f73 slices_ContainsFunc_s_canon_word_canon_word.an [s0, f1] H0 R = slices_ContainsFunc_s_canon_word_canon_word.res s0 f1 H0 R := by kernel_rfl
  exact vcFn_sound Tryz.callable Tryz.mixed Tryz.func73 (by kernel_rfl) (e.mpr h)
def slices_IndexFunc_s_lz_Token_lz_Token.an : Ann := (.seq (.reg (.op 0 [] .nil)) (.seq (.seq (.reg (.op 0 [] (.op 1 [] (.op 2 [] .nil)))) (.block (.loop [8] [4, 5, 8, 9, 10, 11, 12, 13, 14, 15, 16, 17, 18] (.seq (.reg (.op 0 [] .nil)) (.seq (.cond .leaf .leaf) (.seq (.block (.seq (.reg (.op 0 [] (.op 1 [] .nil))) (.seq (.reg (.op 0 [] (.op 1 [] (.op 2 [] (.op 3 [] (.op 4 [] (.op 5 [] .nil))))))) (.cond (.seq (.reg (.op 0 [] (.op 1 [] .nil))) .leaf) .leaf)))) (.reg (.op 0 [] (.op 1 [] .nil))))))))) (.seq (.reg (.op 0 [] .nil)) .leaf)))
def slices_IndexFunc_s_lz_Token_lz_Token.res (s0 : Value) (f1 : Value) (H0 : Heap) (R : Value → Heap → Prop) : Prop :=
 pLen s0 fun x7 =>
 ∃ (I_1 : Value → Heap → Prop) (m_2 : Value → Heap → Nat), I_1 (.int .i64 0) H0 ∧
 ∀ _ : Env, ∀ x8 : Value, ∀ H_3 : Heap, I_1 x8 H_3 →
 pLt x8 x7 fun x9 =>
 pCond x9
 (pIdxSl 3 s0 x8 fun x14 =>
 pLoadN H_3 3 x14 fun x15 =>
 callH Tryz.prog Tryz.C f1 [x15] H_3 fun x16 H_4 =>
 pCond x16
 (R x8 H_4)
 (pAdd x8 (.int .i64 1) fun x18 =>
 I_1 x18 H_4 ∧ m_2 x18 H_4 < m_2 x8 H_3))
 (R (.int .i64 (-1)) H_3)
set_option maxRecDepth 100000 in
theorem slices_IndexFunc_s_lz_Token_lz_Token.vc (s0 : Value) (f1 : Value) (H0 : Heap) (R : Value → Heap → Prop) (h : slices_IndexFunc_s_lz_Token_lz_Token.res s0 f1 H0 R) : CallsH Tryz.prog 76 #[s0, f1] H0 R := by
  have e : vcFn Tryz.prog Tryz.C Tryz.f76 slices_IndexFunc_s_lz_Token_lz_Token.an [s0, f1] H0 R = slices_IndexFunc_s_lz_Token_lz_Token.res s0 f1 H0 R := by kernel_rfl
  exact vcFn_sound Tryz.callable Tryz.mixed Tryz.func76 (by kernel_rfl) (e.mpr h)
def slices_Grow_s_int_int.an : Ann := (.seq (.reg (.op 0 [] .nil)) (.cut [] [5, 6, 7] (.seq (.reg (.op 0 [] (.op 1 [] .nil))) (.cond (.reg (.op 0 [] (.op 1 [] .nil))) .leaf)) (.seq (.seq (.reg (.op 0 [] (.op 1 [] (.op 2 [] (.op 3 [] (.op 4 [] (.op 5 [] (.op 6 [] (.op 7 [] .nil))))))))) (.seq (.reg (.op 0 [] (.op 1 [] .nil))) (.cond (.reg (.op 0 [] (.op 1 [] (.op 2 [] (.op 3 [] (.op 4 [] (.op 5 [] (.op 6 [] (.op 7 [] (.op 8 [] (.op 9 [] .nil))))))))))) .leaf))) (.seq (.reg (.op 0 [] (.op 1 [] .nil))) .leaf))))
def slices_Grow_s_int_int.res (s0 : Value) (n1 : Value) (H0 : Heap) (R : Value → Heap → Prop) : Prop :=
 ∃ J_1 : Heap → Prop, (∀ _ : Env, ∀ H_2 : Heap, J_1 H_2 →
 pCap s0 fun x10 =>
 pLen s0 fun x12 =>
 pSub x10 x12 fun x13 =>
 pSub n1 x13 fun x14 =>
 pGt x14 (.int .i64 0) fun x16 =>
 pCond x16
 (pCap s0 fun x19 =>
 pSlSl 1 s0 none (some x19) fun x20 =>
 pAppendZ H_2 3 8 [(.int .i64 0)] x20 x14 fun x22 H_3 =>
 pLen s0 fun x24 =>
 pSlSl 1 x22 none (some x24) fun x25 =>
 R x25 H_3)
 (R s0 H_2)) ∧
 pLt n1 (.int .i64 0) fun x6 =>
 pCond x6
 (False)
 (J_1 H0)
set_option maxRecDepth 100000 in
theorem slices_Grow_s_int_int.vc (s0 : Value) (n1 : Value) (H0 : Heap) (R : Value → Heap → Prop) (h : slices_Grow_s_int_int.res s0 n1 H0 R) : CallsH Tryz.prog 83 #[s0, n1] H0 R := by
  have e : vcFn Tryz.prog Tryz.C Tryz.f83 slices_Grow_s_int_int.an [s0, n1] H0 R = slices_Grow_s_int_int.res s0 n1 H0 R := by kernel_rfl
  exact vcFn_sound Tryz.callable Tryz.mixed Tryz.func83 (by kernel_rfl) (e.mpr h)
def slices_pdqsortCmpFunc_int.an : Ann := (.seq (.reg (.op 0 [] .nil)) (.seq (.reg (.op 0 [] .nil)) (.block (.loop [1, 2, 3, 10, 11] [1, 2, 3, 10, 11, 12, 13, 14, 15, 16, 17, 18, 19, 20, 21, 22, 23, 24, 25, 26, 27, 28, 29, 30, 31, 32, 33, 34, 35, 36, 37, 38, 39, 40, 41, 42, 43, 44, 45, 46, 47, 48, 49, 50, 51, 52, 53, 54, 55, 56, 57, 58, 59, 60, 61, 62, 63, 64, 65, 66, 67, 68, 69, 70, 71, 72, 73, 74, 75, 76, 77, 78, 79, 80, 81, 82, 83, 84, 85, 86, 87, 88, 89, 90, 91, 92, 93, 94, 95, 96, 97, 98, 99, 100, 101, 102, 103, 104, 105, 106, 107, 108, 109, 110, 111, 112, 113, 114, 115, 116, 117, 118, 119, 120, 121, 122, 123, 124, 125, 126, 127, 128, 129, 130, 131, 132, 133, 134, 135, 136, 137, 138, 139, 140, 141, 142, 143, 144, 145, 146, 147] (.block (.seq (.reg (.op 0 [] (.op 1 [] (.op 2 [] (.op 3 [] .nil))))) (.seq (.seq (.reg (.op 0 [] (.op 1 [] .nil))) (.cond (.seq (.reg (.op 0 [] (.op 1 [] (.op 2 [] (.op 3 [] (.op 4 [] .nil)))))) .leaf) .leaf)) (.seq (.seq (.reg (.op 0 [] (.op 1 [] .nil))) (.cond (.seq (.reg (.op 0 [] (.op 1 [] (.op 2 [] (.op 3 [] (.op 4 [] .nil)))))) .leaf) .leaf)) (.cut [3] [3, 38, 39, 40, 41, 42, 43, 44, 45, 46] (.seq (.reg (.op 0 [] (.op 1 [] .nil))) (.cond (.seq (.reg (.op 0 [] (.op 1 [] (.op 2 [] (.op 3 [] (.op 4 [] .nil)))))) (.reg (.op 0 [] (.op 1 [] (.op 2 [] .nil))))) .leaf)) (.seq (.reg (.op 0 [] (.op 1 [] (.op 2 [] (.op 3 [] (.op 4 [] (.op 5 [] (.op 6 [] (.op 7 [] (.op 8 [] (.op 9 [] .nil))))))))))) (.cut [13, 14] [13, 14, 55, 56, 57, 58, 59, 60, 61, 62, 63, 64, 65, 66, 67] (.seq (.reg (.op 0 [] (.op 1 [] .nil))) (.cond (.seq (.reg (.op 0 [] (.op 1 [] (.op 2 [] (.op 3 [] (.op 4 [] .nil)))))) (.seq (.reg (.op 0 [] (.op 1 [] (.op 2 [] (.op 3 [] (.op 4 [] (.op 5 [] (.op 6 [] .nil)))))))) (.reg (.op 0 [] .nil)))) .leaf)) (.cut [] [68, 69, 70, 71, 72, 73, 74, 75, 76, 77, 78, 79, 80] (.seq (.reg (.op 0 [] (.op 1 [] (.grp 1 (.op 2 [] .nil) 3 (.op 4 [] (.grp 4 (.op 5 [] (.op 6 [] .nil)) 7 .nil)))))) (.cond (.seq (.reg (.op 0 [] (.op 1 [] (.op 2 [] (.op 3 [] (.op 4 [] .nil)))))) (.cond .leaf .leaf)) .leaf)) (.seq (.seq (.drw [0, 1, 3, 7, 7, 7, 39, 119, 247, 7, 7, 1543, 3591, 8191, 16383, 32767, 65535] (.op 0 [] (.op 1 [] (.op 2 [] (.grp 2 (.op 3 [] (.op 4 [] (.op 5 [] (.op 6 [] (.op 7 [] (.op 8 [] (.op 9 [] (.op 10 [] (.op 11 [] (.op 12 [] (.op 13 [] (.op 14 [] (.op 15 [] .nil))))))))))))) 16 .nil))))) (.cond (.seq (.reg (.op 0 [] (.op 1 [] (.op 2 [] (.op 3 [] (.op 4 [] (.op 5 [] (.op 6 [] .nil)))))))) (.seq (.reg (.op 0 [] (.op 1 [] .nil))) .leaf)) .leaf)) (.seq (.reg (.op 0 [] (.op 1 [] (.op 2 [] (.op 3 [] (.op 4 [] (.op 5 [] (.op 6 [] (.op 7 [] (.op 8 [] (.op 9 [] (.op 10 [] .nil)))))))))))) (.seq (.reg (.op 0 [] (.op 1 [] .nil))) (.seq (.reg (.op 0 [] (.op 1 [] (.op 2 [] (.op 3 [] (.op 4 [] (.op 5 [] (.op 6 [] (.op 7 [] .nil))))))))) (.seq (.reg (.op 0 [] (.op 1 [] (.op 2 [] .nil)))) (.seq (.reg (.op 0 [] (.op 1 [] (.op 2 [] .nil)))) (.cond (.seq (.reg (.op 0 [] (.op 1 [] (.op 2 [] (.op 3 [] .nil))))) (.seq (.reg (.op 0 [] (.op 1 [] (.op 2 [] (.op 3 [] (.op 4 [] (.op 5 [] .nil))))))) (.reg (.op 0 [] (.op 1 [] (.op 2 [] .nil)))))) (.seq (.reg (.op 0 [] (.op 1 [] (.op 2 [] (.op 3 [] .nil))))) (.seq (.reg (.op 0 [] (.op 1 [] (.op 2 [] (.op 3 [] (.op 4 [] (.op 5 [] (.op 6 [] .nil)))))))) (.reg (.op 0 [] (.op 1 [] .nil))))))))))))))))))))))))
def slices_pdqsortCmpFunc_int.res (data0 : Value) (a1 : Value) (b2 : Value) (limit3 : Value) (cmp4 : Value) (H0 : Heap) (R : Value → Heap → Prop) : Prop :=
 ∃ (I_1 : Value → Value → Value → Value → Value → Heap → Prop) (m_2 : Value → Value → Value → Value → Value → Heap → Nat), I_1 a1 b2 limit3 (.bool true) (.bool true) H0 ∧
 ∀ _ : Env, ∀ a1' : Value, ∀ b2' : Value, ∀ limit3' : Value, ∀ wasBalanced10 : Value, ∀ wasPartitioned11 : Value, ∀ H_3 : Heap, I_1 a1' b2' limit3' wasBalanced10 wasPartitioned11 H_3 →
 pSub b2' a1' fun x23 =>
 pLe x23 (.int .i64 12) fun x25 =>
 pCond x25
 (CallsH Tryz.prog 106 #[data0, a1', b2', cmp4] H_3 fun x30 H_4 =>
 R (.tuple #[]) H_4)
 (pEq 0 limit3' (.int .i64 0) fun x32 =>
 pCond x32
 (CallsH Tryz.prog 107 #[data0, a1', b2', cmp4] H_3 fun x37 H_5 =>
 R (.tuple #[]) H_5)
 (∃ J_6 : Value → Heap → Prop, (∀ _ : Env, ∀ limit3'' : Value, ∀ H_7 : Heap, J_6 limit3'' H_7 →
 CallsH Tryz.prog 109 #[data0, a1', b2', cmp4] H_7 fun x52 H_8 =>
 pExtract 0 x52 fun x53 =>
 pExtract 1 x52 fun x54 =>
 ∃ J_9 : Value → Value → Heap → Prop, (∀ _ : Env, ∀ pivot13 : Value, ∀ hint14 : Value, ∀ H_10 : Heap, J_9 pivot13 hint14 H_10 →
 ∃ J_11 : Heap → Prop, (∀ _ : Env, ∀ H_12 : Heap, J_11 H_12 →
 pGt a1' (.int .i64 0) fun x82 =>
 pAnd x82 (fun J_13 =>
 pSub a1' (.int .i64 1) fun x87 =>
 pIdxSl 1 data0 x87 fun x88 =>
 pLoad H_12 x88 fun x89 =>
 pIdxSl 1 data0 pivot13 fun x92 =>
 pLoad H_12 x92 fun x93 =>
 callH Tryz.prog Tryz.C cmp4 [x89, x93] H_12 fun x94 H_15 =>
 pLt x94 (.int .i64 0) fun x95 =>
 pNot x95 fun x96 =>
 J_13 x96 H_15) H_12 fun x97 H_14 => ∀ _ : Env,
 pCond x97
 (CallsH Tryz.prog 112 #[data0, a1', b2', pivot13, cmp4] H_14 fun x103 H_16 =>
 I_1 x103 b2' limit3'' wasBalanced10 wasPartitioned11 H_16 ∧ m_2 x103 b2' limit3'' wasBalanced10 wasPartitioned11 H_16 < m_2 a1' b2' limit3' wasBalanced10 wasPartitioned11 H_3)
 (CallsH Tryz.prog 113 #[data0, a1', b2', pivot13, cmp4] H_14 fun x111 H_17 =>
 pExtract 0 x111 fun x112 =>
 pExtract 1 x111 fun x113 =>
 pSub x112 a1' fun x117 =>
 pSub b2' x112 fun x120 =>
 pQuo x23 (.int .i64 8) fun x122 =>
 pLt x117 x120 fun x125 =>
 pCond x125
 (pGe x117 x122 fun x128 =>
 CallsH Tryz.prog 94 #[data0, a1', x112, limit3'', cmp4] H_17 fun x134 H_18 =>
 pAdd x112 (.int .i64 1) fun x136 =>
 I_1 x136 b2' limit3'' x128 x113 H_18 ∧ m_2 x136 b2' limit3'' x128 x113 H_18 < m_2 a1' b2' limit3' wasBalanced10 wasPartitioned11 H_3)
 (pGe x120 x122 fun x139 =>
 pAdd x112 (.int .i64 1) fun x142 =>
 CallsH Tryz.prog 94 #[data0, x142, b2', limit3'', cmp4] H_17 fun x146 H_19 =>
 I_1 a1' x112 limit3'' x139 x113 H_19 ∧ m_2 a1' x112 limit3'' x139 x113 H_19 < m_2 a1' b2' limit3' wasBalanced10 wasPartitioned11 H_3))) ∧
 pAnd wasBalanced10 (fun J_20 =>
 J_20 wasPartitioned11 H_10) H_10 fun x71 H_21 => ∀ _ : Env,
 pAnd x71 (fun J_22 =>
 pEq 0 hint14 (.int .i64 1) fun x74 =>
 J_22 x74 H_21) H_21 fun x75 H_23 => ∀ _ : Env,
 pCond x75
 (CallsH Tryz.prog 111 #[data0, a1', b2', cmp4] H_23 fun x80 H_24 =>
 pCond x80
 (R (.tuple #[]) H_24)
 (J_11 H_24))
 (J_11 H_23)) ∧
 pEq 0 x54 (.int .i64 2) fun x56 =>
 pCond x56
 (CallsH Tryz.prog 110 #[data0, a1', b2', cmp4] H_8 fun x61 H_25 =>
 pSub b2' (.int .i64 1) fun x63 =>
 pSub x53 a1' fun x66 =>
 pSub x63 x66 fun x67 =>
 J_9 x67 (.int .i64 1) H_25)
 (J_9 x53 x54 H_8)) ∧
 pNot wasBalanced10 fun x39 =>
 pCond x39
 (CallsH Tryz.prog 108 #[data0, a1', b2', cmp4] H_3 fun x44 H_26 =>
 pSub limit3' (.int .i64 1) fun x46 =>
 J_6 x46 H_26)
 (J_6 limit3' H_3)))
set_option maxRecDepth 100000 in
theorem slices_pdqsortCmpFunc_int.vc (data0 : Value) (a1 : Value) (b2 : Value) (limit3 : Value) (cmp4 : Value) (H0 : Heap) (R : Value → Heap → Prop) (h : slices_pdqsortCmpFunc_int.res data0 a1 b2 limit3 cmp4 H0 R) : CallsH Tryz.prog 94 #[data0, a1, b2, limit3, cmp4] H0 R := by
  have e : vcFn Tryz.prog Tryz.C Tryz.f94 slices_pdqsortCmpFunc_int.an [data0, a1, b2, limit3, cmp4] H0 R = slices_pdqsortCmpFunc_int.res data0 a1 b2 limit3 cmp4 H0 R := by kernel_rfl
  exact vcFn_sound Tryz.callable Tryz.mixed Tryz.func94 (by kernel_rfl) (e.mpr h)
def slices_Grow_s_merge_pack_merge_pack.an : Ann := (.seq (.reg (.op 0 [] .nil)) (.cut [] [5, 6, 7] (.seq (.reg (.op 0 [] (.op 1 [] .nil))) (.cond (.reg (.op 0 [] (.op 1 [] .nil))) .leaf)) (.seq (.seq (.reg (.op 0 [] (.op 1 [] (.op 2 [] (.op 3 [] (.op 4 [] (.op 5 [] (.op 6 [] (.op 7 [] .nil))))))))) (.seq (.reg (.op 0 [] (.op 1 [] .nil))) (.cond (.reg (.op 0 [] (.op 1 [] (.op 2 [] (.op 3 [] (.op 4 [] (.op 5 [] (.op 6 [] (.op 7 [] (.op 8 [] (.op 9 [] .nil))))))))))) .leaf))) (.seq (.reg (.op 0 [] (.op 1 [] .nil))) .leaf))))
def slices_Grow_s_merge_pack_merge_pack.res (s0 : Value) (n1 : Value) (H0 : Heap) (R : Value → Heap → Prop) : Prop :=
 ∃ J_1 : Heap → Prop, (∀ _ : Env, ∀ H_2 : Heap, J_1 H_2 →
 pCap s0 fun x10 =>
 pLen s0 fun x12 =>
 pSub x10 x12 fun x13 =>
 pSub n1 x13 fun x14 =>
 pGt x14 (.int .i64 0) fun x16 =>
 pCond x16
 (pCap s0 fun x19 =>
 pSlSl 2 s0 none (some x19) fun x20 =>
 pAppendZ H_2 82 32 [(.int .i64 0), (.slice none 0 0)] x20 x14 fun x22 H_3 =>
 pLen s0 fun x24 =>
 pSlSl 2 x22 none (some x24) fun x25 =>
 R x25 H_3)
 (R s0 H_2)) ∧
 pLt n1 (.int .i64 0) fun x6 =>
 pCond x6
 (False)
 (J_1 H0)
set_option maxRecDepth 100000 in
theorem slices_Grow_s_merge_pack_merge_pack.vc (s0 : Value) (n1 : Value) (H0 : Heap) (R : Value → Heap → Prop) (h : slices_Grow_s_merge_pack_merge_pack.res s0 n1 H0 R) : CallsH Tryz.prog 97 #[s0, n1] H0 R := by
  have e : vcFn Tryz.prog Tryz.C Tryz.f97 slices_Grow_s_merge_pack_merge_pack.an [s0, n1] H0 R = slices_Grow_s_merge_pack_merge_pack.res s0 n1 H0 R := by kernel_rfl
  exact vcFn_sound Tryz.callable Tryz.mixed Tryz.func97 (by kernel_rfl) (e.mpr h)
def slices_IndexFunc_s_canon_word_canon_word.an : Ann := (.seq (.reg (.op 0 [] .nil)) (.seq (.seq (.reg (.op 0 [] (.op 1 [] (.op 2 [] .nil)))) (.block (.loop [8] [4, 5, 8, 9, 10, 11, 12, 13, 14, 15, 16, 17, 18] (.seq (.reg (.op 0 [] .nil)) (.seq (.cond .leaf .leaf) (.seq (.block (.seq (.reg (.op 0 [] (.op 1 [] .nil))) (.seq (.reg (.op 0 [] (.op 1 [] (.op 2 [] (.op 3 [] (.op 4 [] (.op 5 [] .nil))))))) (.cond (.seq (.reg (.op 0 [] (.op 1 [] .nil))) .leaf) .leaf)))) (.reg (.op 0 [] (.op 1 [] .nil))))))))) (.seq (.reg (.op 0 [] .nil)) .leaf)))
def slices_IndexFunc_s_canon_word_canon_word.res (s0 : Value) (f1 : Value) (H0 : Heap) (R : Value → Heap → Prop) : Prop :=
 pLen s0 fun x7 =>
 ∃ (I_1 : Value → Heap → Prop) (m_2 : Value → Heap → Nat), I_1 (.int .i64 0) H0 ∧
 ∀ _ : Env, ∀ x8 : Value, ∀ H_3 : Heap, I_1 x8 H_3 →
 pLt x8 x7 fun x9 =>
 pCond x9
 (pIdxSl 2 s0 x8 fun x14 =>
 pLoadN H_3 2 x14 fun x15 =>
 callH Tryz.prog Tryz.C f1 [x15] H_3 fun x16 H_4 =>
 pCond x16
 (R x8 H_4)
 (pAdd x8 (.int .i64 1) fun x18 =>
 I_1 x18 H_4 ∧ m_2 x18 H_4 < m_2 x8 H_3))
 (R (.int .i64 (-1)) H_3)
set_option maxRecDepth 100000 in
theorem slices_IndexFunc_s_canon_word_canon_word.vc (s0 : Value) (f1 : Value) (H0 : Heap) (R : Value → Heap → Prop) (h : slices_IndexFunc_s_canon_word_canon_word.res s0 f1 H0 R) : CallsH Tryz.prog 98 #[s0, f1] H0 R := by
  have e : vcFn Tryz.prog Tryz.C Tryz.f98 slices_IndexFunc_s_canon_word_canon_word.an [s0, f1] H0 R = slices_IndexFunc_s_canon_word_canon_word.res s0 f1 H0 R := by kernel_rfl
  exact vcFn_sound Tryz.callable Tryz.mixed Tryz.func98 (by kernel_rfl) (e.mpr h)
end Go.Proofs.YtameljhbkedhjaaGreatDoor
namespace Go.Proofs.YtameljhbkedhjaaGreatDoor
open Go Go.Vc Go.Proofs
set_option linter.unusedVariables false
set_option linter.unusedSimpArgs false
variable {H : Heap} {R : Value → Heap → Prop} {v : Value} {zs : List Int}
def okZ (zs : List Int) : Prop := zs.length ≤ 288 ∧ ∀ z ∈ zs, 0 ≤ z ∧ z ≤ 15
def natL (zs : List Int) : List Nat := zs.map Int.toNat
theorem natL_len (zs : List Int) : (natL zs).length = zs.length := by simp [natL]
theorem shareL_le (ls : List Nat) (m : Nat) : shareL ls m ≤ ls.length * 2 ^ m := by
  induction ls with
  | nil => simp [shareL]
  | cons k ls ih =>
    unfold shareL at ih ⊢
    rw [List.map_cons, List.sum_cons, List.length_cons, Nat.succ_mul]
    have : (if 1 ≤ k ∧ k ≤ m then 2 ^ (m - k) else 0) ≤ 2 ^ m := by
      split
      · exact Nat.pow_le_pow_right (by decide) (by omega)
      · exact Nat.zero_le _
    generalize 2 ^ m = P at *
    omega
theorem take_snoc {α : Type} {l : List α} {i : Nat} (h : i < l.length) : l.take (i + 1) = l.take i ++ [l[i]] := by rw [List.take_add_one, List.getElem?_eq_getElem h]; rfl
theorem natL_snoc {i : Nat} (h : i < zs.length) : natL (zs.take (i + 1)) = natL (zs.take i) ++ [zs[i].toNat] := by unfold natL; rw [take_snoc h, List.map_append]; rfl
def revN (v : Nat) : Nat → Nat
  | 0 => 0
  | n + 1 => 2 * revN v n + (v / 2 ^ n) % 2
theorem revN_lt (v : Nat) : ∀ n, revN v n < 2 ^ n
  | 0 => by simp [revN]
  | n + 1 => by
    have := revN_lt v n
    have h2 : (v / 2 ^ n) % 2 < 2 := Nat.mod_lt _ (by decide)
    rw [revN, Nat.pow_succ]
    generalize 2 ^ n = P at *
    omega
theorem turned_spec03 {x n : Nat} (hx : x < 18446744073709551616) (hn : n ≤ 60) (h : R (.int .u64 (revN x n : Nat)) H) : CallsH Tryz.prog 70 #[.int .u64 (x : Int), .int .i64 (n : Int)] H R := by
  refine canon_turned.vc _ _ _ _ ?_
  unfold canon_turned.res
  refine ⟨fun v o i H' => ∃ k : Nat, i = .int .i64 k ∧ k ≤ n ∧ v = .int .u64 ((x / 2 ^ k : Nat) : Int) ∧ o = .int .u64 (revN x k : Nat) ∧ H = H', fun _ _ i _ => match i with | .int _ x => (1000 - x).toNat | _ => 0, ⟨0, rfl, by omega, by rw [Nat.pow_zero, Nat.div_one], rfl, rfl⟩, ?_⟩
  rintro _ _ _ _ _ ⟨k, rfl, hk, rfl, rfl, rfl⟩
  have hr := revN_lt x k
  have hp : 2 ^ k ≤ 2 ^ 60 := Nat.pow_le_pow_right (by decide) (by omega)
  have hd : x / 2 ^ k ≤ x := Nat.div_le_self _ _
  rw [pLt_v]
  refine pCond_if (fun hc => ?_) (fun hc => ?_)
  · rw [pShl_v]
    refine ⟨by decide, ?_⟩
    rw [show min (1 : Int).toNat IntKind.u64.bits = 1 from rfl, pBits_v]
    have e1 : IntKind.u64.wrap (((revN x k : Nat) : Int) * 2 ^ 1) = ((2 * revN x k : Nat) : Int) := by rw [wu64 (by omega) (by omega)]; omega
    have e2 : bitsOf .and .u64 ((x / 2 ^ k : Nat) : Int) 1 = ((x / 2 ^ k % 2 : Nat) : Int) := by
      have := and_u64 (a := x / 2 ^ k) (b := 1) (by omega) (by omega)
      rw [Nat.and_one_is_mod] at this
      exact this
    have h2 : (x / 2 ^ k) % 2 < 2 := Nat.mod_lt _ (by decide)
    rw [e1, e2, pBits_v, or_u64 (by omega) (by omega)]
    have e3 : 2 * revN x k ||| x / 2 ^ k % 2 = revN x (k + 1) := by
      rw [revN, Nat.or_comm, Nat.mul_comm]
      have := or_disj (a := x / 2 ^ k % 2) (v := revN x k) (n := 1) (by simpa using h2)
      rw [Nat.pow_one] at this
      rw [this]; omega
    rw [e3, pShr_v]
    refine ⟨by decide, ?_⟩
    rw [show min (1 : Int).toNat IntKind.u64.bits = 1 from rfl, fdiv_nat (j := 1) rfl, Nat.div_div_eq_div_mul, show 2 ^ k * 2 ^ 1 = 2 ^ (k + 1) from rfl, pAdd_v, w64 (n := (k : Int) + 1) (by omega) (by omega)]
    exact ⟨⟨k + 1, rfl, by omega, rfl, rfl, rfl⟩, by show (_ : Int).toNat < (_ : Int).toNat; omega⟩
  · have : k = n := by omega
    subst this
    exact h
end Go.Proofs.YtameljhbkedhjaaGreatDoor
namespace Go.Proofs.YtameljhbkedhjaaGreatDoor
open Go Go.Vc Go.Proofs
set_option linter.unusedVariables false
set_option linter.unusedSimpArgs false
variable {H : Heap} {R : Value → Heap → Prop} {v : Value} {zs : List Int}
def nzL (ls : List Nat) : Nat := ls.countP fun k => decide (k ≠ 0)
theorem nzL_append (a b : List Nat) : nzL (a ++ b) = nzL a + nzL b := by unfold nzL; rw [List.countP_append]
def slackL (ls : List Nat) : Bool := decide (nzL ls = 0) || (decide (nzL ls = 1) && decide (cntL ls 1 = 1))
theorem dec_one (n : Nat) : decide ((n : Int) = 1) = decide (n = 1) := by rw [Bool.eq_iff_iff, decide_eq_true_eq, decide_eq_true_eq]; omega
theorem dec_zero (n : Nat) : decide ((n : Int) = 0) = decide (n = 0) := by rw [Bool.eq_iff_iff, decide_eq_true_eq, decide_eq_true_eq]; omega
noncomputable def whyL (zs : List Int) (loose : Bool) : Int :=
  open Classical in if okZ zs then (if 32768 < shareL (natL zs) 15 then 5 else if shareL (natL zs) 15 < 32768 ∧ (loose && slackL (natL zs)) = false then 4 else 0) else 1
theorem why_no {loose : Bool} (h : ¬ okZ zs) : whyL zs loose = 1 := by unfold whyL; rw [if_neg h]
theorem why_ok {loose : Bool} (h : okZ zs) : whyL zs loose = if 32768 < shareL (natL zs) 15 then 5 else if shareL (natL zs) 15 < 32768 ∧ (loose && slackL (natL zs)) = false then 4 else 0 := by unfold whyL; rw [if_pos h]
end Go.Proofs.YtameljhbkedhjaaGreatDoor
