/- Maps whose keys are numbers or strings: what they hold, as a function. -/
import Derived.Test.YtmolkhfohpfhaaaVcRow
set_option linter.unusedSimpArgs false
set_option linter.unusedVariables false
namespace Go.Vc
open Go
/-- keys of one form, told apart by == -/
structure Keys (α : Type) (kind : Nat) where
  κ : α → Value
  dec : DecidableEq α
  eq : ∀ a b : α, eqK kind (κ a) (κ b) = some (@decide (a = b) (dec a b))
def intKeys (k : IntKind) : Keys Int 0 := ⟨.int k, inferInstance, fun a b => by simp [eqK]⟩
def strKeys : Keys (List UInt8) 1 := ⟨fun l => str l, inferInstance, fun a b => by simp [eqK]⟩
/-- what a map's block holds -/
def MapAt {α : Type} {kind : Nat} (κ : Keys α kind) (H : Heap) (r : Nat) (m : α → Option Value) : Prop :=
  ∃ (es : Array MapEntry) (clock : Nat) (ks : List α), H[r]? = some (.map es clock) ∧ es.toList.map (·.key) = ks.map κ.κ ∧ ks.Nodup ∧
    (∀ (j : Nat) (e : MapEntry) (k : α), es.toList[j]? = some e → ks[j]? = some k → m k = some e.val) ∧ ∀ k, k ∉ ks → m k = none
section
variable {α : Type} {kind : Nat} {κ : Keys α kind}
theorem findE_no {k : α} : ∀ (l : List MapEntry) (ks : List α) (i : Nat), l.map (·.key) = ks.map κ.κ → k ∉ ks → findE kind (κ.κ k) l i = some none
  | [], ks, i, _, _ => rfl
  | e :: l, [], i, h, _ => by simp at h
  | e :: l, a :: ks, i, h, hk => by
    simp only [List.map_cons, List.cons.injEq] at h
    have hne : k ≠ a := fun e => hk (by simp [e])
    have hd : @decide (k = a) (κ.dec k a) = false := by
      cases hdec : κ.dec k a with
      | isTrue ht => exact absurd ht hne
      | isFalse hf => rfl
    simp only [findE, h.1, κ.eq, hd]
    exact findE_no l ks (i + 1) h.2 (fun h' => hk (by simp [h']))
theorem findE_yes {k : α} : ∀ (l : List MapEntry) (ks : List α) (i : Nat), l.map (·.key) = ks.map κ.κ → k ∈ ks → ∃ (j : Nat) (e : MapEntry), l[j]? = some e ∧ ks[j]? = some k ∧ findE kind (κ.κ k) l i = some (some (i + j, e.val))
  | [], [], i, _, hk => by simp at hk
  | [], a :: ks, i, h, _ => by simp at h
  | e :: l, [], i, h, _ => by simp at h
  | e :: l, a :: ks, i, h, hk => by
    simp only [List.map_cons, List.cons.injEq] at h
    by_cases he : k = a
    · subst he
      have hd : @decide (k = k) (κ.dec k k) = true := by
        cases hdec : κ.dec k k with
        | isTrue ht => rfl
        | isFalse hf => exact absurd rfl hf
      refine ⟨0, e, rfl, rfl, ?_⟩
      show (match eqK kind (κ.κ k) e.key with | some true => some (some (i, e.val)) | some false => findE kind (κ.κ k) l (i + 1) | none => none) = _
      rw [h.1, κ.eq, hd]
      rfl
    · have hd : @decide (k = a) (κ.dec k a) = false := by
        cases hdec : κ.dec k a with
        | isTrue ht => exact absurd ht he
        | isFalse hf => rfl
      obtain ⟨j, e', h1, h2, h3⟩ := findE_yes l ks (i + 1) h.2 (by
        rcases List.mem_cons.1 hk with h' | h'
        · exact absurd h' he
        · exact h')
      refine ⟨j + 1, e', h1, h2, ?_⟩
      simp only [findE, h.1, κ.eq, hd]
      rw [h3, show i + 1 + j = i + (j + 1) by omega]
variable {H : Heap} {r : Nat} {m : α → Option Value}
theorem MapAt.ext {H' : Heap} (h : MapAt κ H r m) (hx : Ext H H') : MapAt κ H' r m := by
  obtain ⟨es, c, ks, h1, h2⟩ := h
  exact ⟨es, c, ks, hx.blk h1, h2⟩
theorem MapAt.keep {H' : Heap} (h : MapAt κ H r m) (hx : H'[r]? = H[r]?) : MapAt κ H' r m := by
  obtain ⟨es, c, ks, h1, h2⟩ := h
  exact ⟨es, c, ks, hx.trans h1, h2⟩
theorem MapAt.lt (h : MapAt κ H r m) : r < H.size := by
  obtain ⟨es, c, ks, h1, h2⟩ := h
  exact lt_of_blk h1
/-- m[k] -/
theorem MapAt.lookup (h : MapAt κ H r m) {k : α} {zero : Value} {ok : Bool} {K : Value → Prop} (hk : K (bif ok then .tuple #[(m k).getD zero, .bool (m k).isSome] else (m k).getD zero)) : pLookup H kind zero ok (.map (some r)) (κ.κ k) K := by
  obtain ⟨es, c, ks, h1, h2, h3, h4, h5⟩ := h
  by_cases hm : k ∈ ks
  · obtain ⟨j, e, g1, g2, g3⟩ := findE_yes (κ := κ) es.toList ks 0 h2 hm
    simp only [pLookup, entriesAt, h1, g3]
    rw [h4 j e k g1 g2] at hk
    exact hk
  · simp only [pLookup, entriesAt, h1, findE_no (κ := κ) es.toList ks 0 h2 hm]
    rw [h5 k hm] at hk
    exact hk
/-- m with k at v -/
def mset (κ : Keys α kind) (m : α → Option Value) (k : α) (v : Option Value) : α → Option Value := fun x => if @decide (x = k) (κ.dec x k) = true then v else m x
theorem mset_self (k : α) (v : Option Value) : mset κ m k v k = v := by
  unfold mset
  rw [if_pos]
  cases hdec : κ.dec k k with
  | isTrue ht => rfl
  | isFalse hf => exact absurd rfl hf
theorem mset_ne {k x : α} (v : Option Value) (h : x ≠ k) : mset κ m k v x = m x := by
  unfold mset
  rw [if_neg]
  cases hdec : κ.dec x k with
  | isTrue ht => exact absurd ht h
  | isFalse hf => exact Bool.false_ne_true
theorem nodup_get {ks : List α} (h : ks.Nodup) {i j : Nat} {k : α} (hi : ks[i]? = some k) (hj : ks[j]? = some k) : i = j := by
  exact (List.getElem?_inj (List.getElem?_eq_some_iff.1 hi).1 h).1 (hi.trans hj.symm)
theorem map_erase {β γ : Type} (f : β → γ) (l : List β) (j : Nat) : (l.eraseIdx j).map f = (l.map f).eraseIdx j := by
  apply List.ext_getElem?
  intro i
  simp only [List.getElem?_map, List.getElem?_eraseIdx]
  split <;> rfl
/-- m[k] = v -/
theorem MapAt.set (h : MapAt κ H r m) {k : α} {v : Value} {KE : Value → Heap → Prop} (hk : ∀ H', MapAt κ H' r (mset κ m k (some v)) → H'.size = H.size → (∀ i, i ≠ r → H'[i]? = H[i]?) → KE undef H') : pMapSet H kind (.map (some r)) (κ.κ k) v KE := by
  have hr := h.lt
  obtain ⟨es, c, ks, h1, h2, h3, h4, h5⟩ := h
  by_cases hm : k ∈ ks
  · obtain ⟨j, e, g1, g2, g3⟩ := findE_yes (κ := κ) es.toList ks 0 h2 hm
    rw [Nat.zero_add] at g3
    simp only [pMapSet, h1, g3]
    refine hk _ ⟨_, c, ks, get_set_self hr, ?_, h3, ?_, ?_⟩ (by simp) (fun i hi => get_set_ne (Ne.symm hi))
    · rw [← h2]
      apply List.ext_getElem?
      intro i
      simp only [Array.toList_modify, List.getElem?_map, List.getElem?_modify]
      by_cases hij : j = i
      · subst hij
        rw [g1]
        have : (ks.map κ.κ)[j]? = some (κ.κ k) := by simp [g2]
        rw [← h2, List.getElem?_map, g1] at this
        simp only [Option.map_some, Option.some.injEq] at this
        simp [this]
      · simp only [if_neg hij]; cases es.toList[i]? <;> rfl
    · intro i e' k' he hk'
      rw [Array.toList_modify, List.getElem?_modify] at he
      by_cases hij : j = i
      · subst hij
        rw [g2, Option.some.injEq] at hk'
        subst hk'
        rw [mset_self]
        rw [g1] at he
        simp at he
        rw [← he]
      · have hne : k' ≠ k := fun e => hij (nodup_get h3 g2 (e ▸ hk'))
        rw [mset_ne _ hne]
        have : es.toList[i]? = some e' := by
          simp only [if_neg hij] at he
          cases hh : es.toList[i]? with
          | none => rw [hh] at he; cases he
          | some x => rw [hh] at he; simpa using he
        exact h4 i e' k' this hk'
    · intro x hx
      rw [mset_ne _ (show x ≠ k from fun e => hx (by rw [e]; exact hm))]
      exact h5 x hx
  · simp only [pMapSet, h1, findE_no (κ := κ) es.toList ks 0 h2 hm]
    refine hk _ ⟨_, c + 1, ks ++ [k], get_set_self hr, by simp [h2], ?_, ?_, ?_⟩ (by simp) (fun i hi => get_set_ne (Ne.symm hi))
    · rw [List.nodup_append]
      exact ⟨h3, by simp, fun a ha b hb => by simp only [List.mem_singleton] at hb; subst hb; intro e; exact hm (e ▸ ha)⟩
    · have hlen : es.toList.length = ks.length := by have := congrArg List.length h2; simpa using this
      intro i e' k' he hk'
      rw [Array.toList_push] at he
      by_cases hi : i < ks.length
      · rw [List.getElem?_append_left (by omega)] at he hk'
        have hne : k' ≠ k := fun e => hm (e ▸ List.mem_of_getElem? hk')
        rw [mset_ne _ hne]
        exact h4 i e' k' he hk'
      · rw [List.getElem?_append_right (by omega)] at he hk'
        have hi2 : i = ks.length := by
          rcases Nat.lt_or_ge ks.length i with h' | h'
          · rw [List.getElem?_eq_none (by simp; omega)] at hk'; cases hk'
          · omega
        subst hi2
        rw [Nat.sub_self, List.getElem?_cons_zero, Option.some.injEq] at hk'
        rw [hlen, Nat.sub_self, List.getElem?_cons_zero, Option.some.injEq] at he
        subst hk'
        rw [mset_self, ← he]
    · intro x hx
      have : x ≠ k := fun e => hx (by simp [e])
      rw [mset_ne _ this]
      exact h5 x (fun h' => hx (by simp [h']))
/-- delete(m, k) -/
theorem MapAt.delete (h : MapAt κ H r m) {k : α} {KE : Value → Heap → Prop} (hk : ∀ H', MapAt κ H' r (mset κ m k none) → H'.size = H.size → (∀ i, i ≠ r → H'[i]? = H[i]?) → KE (.tuple #[]) H') : pDelete H kind (.map (some r)) (κ.κ k) KE := by
  have hr := h.lt
  obtain ⟨es, c, ks, h1, h2, h3, h4, h5⟩ := h
  by_cases hm : k ∈ ks
  · obtain ⟨j, e, g1, g2, g3⟩ := findE_yes (κ := κ) es.toList ks 0 h2 hm
    rw [Nat.zero_add] at g3
    have hj : j < es.size := by have := (List.getElem?_eq_some_iff.1 g1).1; simpa using this
    simp only [pDelete, h1, g3]
    have he : (es.eraseIdxIfInBounds j).toList = es.toList.eraseIdx j := by
      rw [Array.eraseIdxIfInBounds, dif_pos hj]
      simp
    refine hk _ ⟨_, c, ks.eraseIdx j, get_set_self hr, ?_, h3.eraseIdx j, ?_, ?_⟩ (by simp) (fun i hi => get_set_ne (Ne.symm hi))
    · rw [he, map_erase, h2, ← map_erase]
    · intro i e' k' hi hk'
      rw [he, List.getElem?_eraseIdx] at hi
      rw [List.getElem?_eraseIdx] at hk'
      have hget : ∃ i', i' ≠ j ∧ es.toList[i']? = some e' ∧ ks[i']? = some k' := by
        by_cases hij : i < j
        · rw [if_pos hij] at hi hk'; exact ⟨i, by omega, hi, hk'⟩
        · rw [if_neg hij] at hi hk'; exact ⟨i + 1, by omega, hi, hk'⟩
      obtain ⟨i', hne', q1, q2⟩ := hget
      have hne : k' ≠ k := fun e => hne' (nodup_get h3 (e ▸ q2) g2)
      rw [mset_ne _ hne]
      exact h4 i' e' k' q1 q2
    · intro x hx
      by_cases hxk : x = k
      · subst hxk; exact mset_self _ _
      · rw [mset_ne _ hxk]
        refine h5 x (fun hin => hx ?_)
        obtain ⟨i, hi⟩ := List.getElem?_of_mem hin
        have hij : i ≠ j := fun e => by subst e; rw [g2, Option.some.injEq] at hi; exact hxk hi.symm
        rw [List.mem_iff_getElem?]
        by_cases hlt : i < j
        · exact ⟨i, by rw [List.getElem?_eraseIdx, if_pos hlt]; exact hi⟩
        · exact ⟨i - 1, by rw [List.getElem?_eraseIdx, if_neg (by omega), show i - 1 + 1 = i by omega]; exact hi⟩
  · simp only [pDelete, h1, findE_no (κ := κ) es.toList ks 0 h2 hm]
    refine hk H ⟨es, c, ks, h1, h2, h3, fun j e k' he hk' => ?_, fun x hx => ?_⟩ rfl (fun _ _ => rfl)
    · rw [mset_ne _ (show k' ≠ k from fun e => hm (by rw [← e]; exact List.mem_of_getElem? hk'))]; exact h4 j e k' he hk'
    · by_cases hxk : x = k
      · subst hxk; exact mset_self _ _
      · rw [mset_ne _ hxk]; exact h5 x hx
/-- clear(m) -/
theorem MapAt.clear (h : MapAt κ H r m) {KE : Value → Heap → Prop} (hk : ∀ H', MapAt κ H' r (fun _ => none) → H'.size = H.size → (∀ i, i ≠ r → H'[i]? = H[i]?) → KE (.tuple #[]) H') : pClearM H (.map (some r)) KE := by
  have hr := h.lt
  obtain ⟨es, c, ks, h1, h2, h3, h4, h5⟩ := h
  simp only [pClearM, h1]
  exact hk _ ⟨#[], c, [], get_set_self hr, rfl, List.nodup_nil, by simp, fun _ _ => rfl⟩ (by simp) (fun i hi => get_set_ne (Ne.symm hi))
/-- a new map -/
theorem map_make (κ : Keys α kind) {KE : Value → Heap → Prop} (hk : ∀ H', MapAt κ H' H.size (fun _ => none) → Ext H H' → H'.size = H.size + 1 → KE (.map (some H.size)) H') : pMakeMap H KE :=
  hk _ ⟨#[], 0, [], get_push_self, rfl, List.nodup_nil, by simp, fun _ _ => rfl⟩ (Ext.refl H).push (by simp)
end
end Go.Vc
