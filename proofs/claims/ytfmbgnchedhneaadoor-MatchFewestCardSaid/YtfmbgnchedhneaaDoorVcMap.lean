/- Maps whose keys are numbers or strings: what they hold, as a function. -/
import Derived.Test.YtfmbgnchedhneaaDoorVcRow
import Derived.MapKept
import Derived.Laws.IdiomRangeMap
set_option linter.unusedSimpArgs false
set_option linter.unusedVariables false
namespace Go.Vc
open Go
/-- keys of one form, told apart by == -/
structure Keys (α : Type) (kind : Nat) where
  κ : α → Value
  dec : DecidableEq α
  eq : ∀ a b : α, eqK kind (κ a) (κ b) = some (@decide (a = b) (dec a b))
def intKeys (k : IntKind) : Keys Int 0 := ⟨.int k, inferInstance, fun a b => by simp [eqK]⟩
def strKeys : Keys (List UInt8) 1 := ⟨fun l => str l, inferInstance, fun a b => by simp [eqK]⟩
theorem Keys.inj {α : Type} {kind : Nat} (κ : Keys α kind) {a b : α} (h : κ.κ a = κ.κ b) : a = b := by
  have h1 := κ.eq a b
  rw [h, κ.eq b b, @decide_eq_true (b = b) (κ.dec b b) rfl] at h1
  simp only [Option.some.injEq] at h1
  exact @of_decide_eq_true (a = b) (κ.dec a b) h1.symm
/-- what a map's block holds -/
def MapAt {α : Type} {kind : Nat} (κ : Keys α kind) (H : Heap) (r : Nat) (m : α → Option Value) : Prop :=
  ∃ (es : Array MapEntry) (clock : Nat) (ks : List α), H[r]? = some (.map es clock) ∧ MapKept.Stamped es clock ∧ es.toList.map (·.key) = ks.map κ.κ ∧ ks.Nodup ∧
    (∀ (j : Nat) (e : MapEntry) (k : α), es.toList[j]? = some e → ks[j]? = some k → m k = some e.val) ∧ ∀ k, k ∉ ks → m k = none
section
variable {α : Type} {kind : Nat} {κ : Keys α kind}
theorem findE_no {k : α} : ∀ (l : List MapEntry) (ks : List α) (i : Nat), l.map (·.key) = ks.map κ.κ → k ∉ ks → findE kind (κ.κ k) l i = some none
  | [], ks, i, _, _ => rfl
  | e :: l, [], i, h, _ => by simp at h
  | e :: l, a :: ks, i, h, hk => by
    simp only [List.map_cons, List.cons.injEq] at h
    have hne : k ≠ a := fun e => hk (by simp [e])
    have hd : @decide (k = a) (κ.dec k a) = false := by
      cases hdec : κ.dec k a with
      | isTrue ht => exact absurd ht hne
      | isFalse hf => rfl
    simp only [findE, h.1, κ.eq, hd]
    exact findE_no l ks (i + 1) h.2 (fun h' => hk (by simp [h']))
theorem findE_yes {k : α} : ∀ (l : List MapEntry) (ks : List α) (i : Nat), l.map (·.key) = ks.map κ.κ → k ∈ ks → ∃ (j : Nat) (e : MapEntry), l[j]? = some e ∧ ks[j]? = some k ∧ findE kind (κ.κ k) l i = some (some (i + j, e.val))
  | [], [], i, _, hk => by simp at hk
  | [], a :: ks, i, h, _ => by simp at h
  | e :: l, [], i, h, _ => by simp at h
  | e :: l, a :: ks, i, h, hk => by
    simp only [List.map_cons, List.cons.injEq] at h
    by_cases he : k = a
    · subst he
      have hd : @decide (k = k) (κ.dec k k) = true := by
        cases hdec : κ.dec k k with
        | isTrue ht => rfl
        | isFalse hf => exact absurd rfl hf
      refine ⟨0, e, rfl, rfl, ?_⟩
      show (match eqK kind (κ.κ k) e.key with | some true => some (some (i, e.val)) | some false => findE kind (κ.κ k) l (i + 1) | none => none) = _
      rw [h.1, κ.eq, hd]
      rfl
    · have hd : @decide (k = a) (κ.dec k a) = false := by
        cases hdec : κ.dec k a with
        | isTrue ht => exact absurd ht he
        | isFalse hf => rfl
      obtain ⟨j, e', h1, h2, h3⟩ := findE_yes l ks (i + 1) h.2 (by
        rcases List.mem_cons.1 hk with h' | h'
        · exact absurd h' he
        · exact h')
      refine ⟨j + 1, e', h1, h2, ?_⟩
      simp only [findE, h.1, κ.eq, hd]
      rw [h3, show i + 1 + j = i + (j + 1) by omega]
variable {H : Heap} {r : Nat} {m : α → Option Value}
theorem MapAt.ext {H' : Heap} (h : MapAt κ H r m) (hx : Ext H H') : MapAt κ H' r m := by
  obtain ⟨es, c, ks, h1, h2⟩ := h
  exact ⟨es, c, ks, hx.blk h1, h2⟩
theorem MapAt.keep {H' : Heap} (h : MapAt κ H r m) (hx : H'[r]? = H[r]?) : MapAt κ H' r m := by
  obtain ⟨es, c, ks, h1, h2⟩ := h
  exact ⟨es, c, ks, hx.trans h1, h2⟩
theorem MapAt.lt (h : MapAt κ H r m) : r < H.size := by
  obtain ⟨es, c, ks, h1, h2⟩ := h
  exact lt_of_blk h1
/-- m[k] -/
theorem MapAt.lookup (h : MapAt κ H r m) {k : α} {zero : Value} {ok : Bool} {K : Value → Prop} (hk : K (bif ok then .tuple #[(m k).getD zero, .bool (m k).isSome] else (m k).getD zero)) : pLookup H kind zero ok (.map (some r)) (κ.κ k) K := by
  obtain ⟨es, c, ks, h1, hst, h2, h3, h4, h5⟩ := h
  by_cases hm : k ∈ ks
  · obtain ⟨j, e, g1, g2, g3⟩ := findE_yes (κ := κ) es.toList ks 0 h2 hm
    simp only [pLookup, entriesAt, h1, g3]
    rw [h4 j e k g1 g2] at hk
    exact hk
  · simp only [pLookup, entriesAt, h1, findE_no (κ := κ) es.toList ks 0 h2 hm]
    rw [h5 k hm] at hk
    exact hk
/-- m with k at v -/
def mset (κ : Keys α kind) (m : α → Option Value) (k : α) (v : Option Value) : α → Option Value := fun x => if @decide (x = k) (κ.dec x k) = true then v else m x
theorem mset_self (k : α) (v : Option Value) : mset κ m k v k = v := by
  unfold mset
  rw [if_pos]
  cases hdec : κ.dec k k with
  | isTrue ht => rfl
  | isFalse hf => exact absurd rfl hf
theorem mset_ne {k x : α} (v : Option Value) (h : x ≠ k) : mset κ m k v x = m x := by
  unfold mset
  rw [if_neg]
  cases hdec : κ.dec x k with
  | isTrue ht => exact absurd ht h
  | isFalse hf => exact Bool.false_ne_true
theorem nodup_get {ks : List α} (h : ks.Nodup) {i j : Nat} {k : α} (hi : ks[i]? = some k) (hj : ks[j]? = some k) : i = j := by
  exact (List.getElem?_inj (List.getElem?_eq_some_iff.1 hi).1 h).1 (hi.trans hj.symm)
theorem map_erase {β γ : Type} (f : β → γ) (l : List β) (j : Nat) : (l.eraseIdx j).map f = (l.map f).eraseIdx j := by
  apply List.ext_getElem?
  intro i
  simp only [List.getElem?_map, List.getElem?_eraseIdx]
  split <;> rfl
/-- m[k] = v -/
theorem MapAt.set (h : MapAt κ H r m) {k : α} {v : Value} {KE : Value → Heap → Prop} (hk : ∀ H', MapAt κ H' r (mset κ m k (some v)) → H'.size = H.size → (∀ i, i ≠ r → H'[i]? = H[i]?) → KE undef H') : pMapSet H kind (.map (some r)) (κ.κ k) v KE := by
  have hr := h.lt
  obtain ⟨es, c, ks, h1, hst, h2, h3, h4, h5⟩ := h
  by_cases hm : k ∈ ks
  · obtain ⟨j, e, g1, g2, g3⟩ := findE_yes (κ := κ) es.toList ks 0 h2 hm
    rw [Nat.zero_add] at g3
    simp only [pMapSet, h1, g3]
    refine hk _ ⟨_, c, ks, get_set_self hr, ?_, ?_, h3, ?_, ?_⟩ (by simp) (fun i hi => get_set_ne (Ne.symm hi))
    · refine MapKept.stamped_modify hst j _ (fun _ _ => rfl) (fun e' _ he' => ?_)
      have h1' : es[j]? = some e := by rw [← Array.getElem?_toList]; exact g1
      rw [h1', Option.some.injEq] at he'
      subst he'
      have : (ks.map κ.κ)[j]? = some (κ.κ k) := by simp [g2]
      rw [← h2, List.getElem?_map, g1] at this
      simp only [Option.map_some, Option.some.injEq] at this
      exact this.symm
    · rw [← h2]
      apply List.ext_getElem?
      intro i
      simp only [Array.toList_modify, List.getElem?_map, List.getElem?_modify]
      by_cases hij : j = i
      · subst hij
        rw [g1]
        have : (ks.map κ.κ)[j]? = some (κ.κ k) := by simp [g2]
        rw [← h2, List.getElem?_map, g1] at this
        simp only [Option.map_some, Option.some.injEq] at this
        simp [this]
      · simp only [if_neg hij]; cases es.toList[i]? <;> rfl
    · intro i e' k' he hk'
      rw [Array.toList_modify, List.getElem?_modify] at he
      by_cases hij : j = i
      · subst hij
        rw [g2, Option.some.injEq] at hk'
        subst hk'
        rw [mset_self]
        rw [g1] at he
        simp at he
        rw [← he]
      · have hne : k' ≠ k := fun e => hij (nodup_get h3 g2 (e ▸ hk'))
        rw [mset_ne _ hne]
        have : es.toList[i]? = some e' := by
          simp only [if_neg hij] at he
          cases hh : es.toList[i]? with
          | none => rw [hh] at he; cases he
          | some x => rw [hh] at he; simpa using he
        exact h4 i e' k' this hk'
    · intro x hx
      rw [mset_ne _ (show x ≠ k from fun e => hx (by rw [e]; exact hm))]
      exact h5 x hx
  · simp only [pMapSet, h1, findE_no (κ := κ) es.toList ks 0 h2 hm]
    refine hk _ ⟨_, c + 1, ks ++ [k], get_set_self hr, MapKept.stamped_push hst (fun x hx e => hm (by
      have h' : x.key ∈ es.toList.map (fun y => y.key) := List.mem_map.2 ⟨x, hx, rfl⟩
      rw [h2, e] at h'
      obtain ⟨a, ha, hae⟩ := List.mem_map.1 h'
      rw [← κ.inj hae]; exact ha)), by simp [h2], ?_, ?_, ?_⟩ (by simp) (fun i hi => get_set_ne (Ne.symm hi))
    · rw [List.nodup_append]
      exact ⟨h3, by simp, fun a ha b hb => by simp only [List.mem_singleton] at hb; subst hb; intro e; exact hm (e ▸ ha)⟩
    · have hlen : es.toList.length = ks.length := by have := congrArg List.length h2; simpa using this
      intro i e' k' he hk'
      rw [Array.toList_push] at he
      by_cases hi : i < ks.length
      · rw [List.getElem?_append_left (by omega)] at he hk'
        have hne : k' ≠ k := fun e => hm (e ▸ List.mem_of_getElem? hk')
        rw [mset_ne _ hne]
        exact h4 i e' k' he hk'
      · rw [List.getElem?_append_right (by omega)] at he hk'
        have hi2 : i = ks.length := by
          rcases Nat.lt_or_ge ks.length i with h' | h'
          · rw [List.getElem?_eq_none (by simp; omega)] at hk'; cases hk'
          · omega
        subst hi2
        rw [Nat.sub_self, List.getElem?_cons_zero, Option.some.injEq] at hk'
        rw [hlen, Nat.sub_self, List.getElem?_cons_zero, Option.some.injEq] at he
        subst hk'
        rw [mset_self, ← he]
    · intro x hx
      have : x ≠ k := fun e => hx (by simp [e])
      rw [mset_ne _ this]
      exact h5 x (fun h' => hx (by simp [h']))
/-- delete(m, k) -/
theorem MapAt.delete (h : MapAt κ H r m) {k : α} {KE : Value → Heap → Prop} (hk : ∀ H', MapAt κ H' r (mset κ m k none) → H'.size = H.size → (∀ i, i ≠ r → H'[i]? = H[i]?) → KE (.tuple #[]) H') : pDelete H kind (.map (some r)) (κ.κ k) KE := by
  have hr := h.lt
  obtain ⟨es, c, ks, h1, hst, h2, h3, h4, h5⟩ := h
  by_cases hm : k ∈ ks
  · obtain ⟨j, e, g1, g2, g3⟩ := findE_yes (κ := κ) es.toList ks 0 h2 hm
    rw [Nat.zero_add] at g3
    have hj : j < es.size := by have := (List.getElem?_eq_some_iff.1 g1).1; simpa using this
    simp only [pDelete, h1, g3]
    have he : (es.eraseIdxIfInBounds j).toList = es.toList.eraseIdx j := by
      rw [Array.eraseIdxIfInBounds, dif_pos hj]
      simp
    refine hk _ ⟨_, c, ks.eraseIdx j, get_set_self hr, MapKept.stamped_erase hst j, ?_, h3.eraseIdx j, ?_, ?_⟩ (by simp) (fun i hi => get_set_ne (Ne.symm hi))
    · rw [he, map_erase, h2, ← map_erase]
    · intro i e' k' hi hk'
      rw [he, List.getElem?_eraseIdx] at hi
      rw [List.getElem?_eraseIdx] at hk'
      have hget : ∃ i', i' ≠ j ∧ es.toList[i']? = some e' ∧ ks[i']? = some k' := by
        by_cases hij : i < j
        · rw [if_pos hij] at hi hk'; exact ⟨i, by omega, hi, hk'⟩
        · rw [if_neg hij] at hi hk'; exact ⟨i + 1, by omega, hi, hk'⟩
      obtain ⟨i', hne', q1, q2⟩ := hget
      have hne : k' ≠ k := fun e => hne' (nodup_get h3 (e ▸ q2) g2)
      rw [mset_ne _ hne]
      exact h4 i' e' k' q1 q2
    · intro x hx
      by_cases hxk : x = k
      · subst hxk; exact mset_self _ _
      · rw [mset_ne _ hxk]
        refine h5 x (fun hin => hx ?_)
        obtain ⟨i, hi⟩ := List.getElem?_of_mem hin
        have hij : i ≠ j := fun e => by subst e; rw [g2, Option.some.injEq] at hi; exact hxk hi.symm
        rw [List.mem_iff_getElem?]
        by_cases hlt : i < j
        · exact ⟨i, by rw [List.getElem?_eraseIdx, if_pos hlt]; exact hi⟩
        · exact ⟨i - 1, by rw [List.getElem?_eraseIdx, if_neg (by omega), show i - 1 + 1 = i by omega]; exact hi⟩
  · simp only [pDelete, h1, findE_no (κ := κ) es.toList ks 0 h2 hm]
    refine hk H ⟨es, c, ks, h1, hst, h2, h3, fun j e k' he hk' => ?_, fun x hx => ?_⟩ rfl (fun _ _ => rfl)
    · rw [mset_ne _ (show k' ≠ k from fun e => hm (by rw [← e]; exact List.mem_of_getElem? hk'))]; exact h4 j e k' he hk'
    · by_cases hxk : x = k
      · subst hxk; exact mset_self _ _
      · rw [mset_ne _ hxk]; exact h5 x hx
/-- clear(m) -/
theorem MapAt.clear (h : MapAt κ H r m) {KE : Value → Heap → Prop} (hk : ∀ H', MapAt κ H' r (fun _ => none) → H'.size = H.size → (∀ i, i ≠ r → H'[i]? = H[i]?) → KE (.tuple #[]) H') : pClearM H (.map (some r)) KE := by
  have hr := h.lt
  obtain ⟨es, c, ks, h1, hst, h2, h3, h4, h5⟩ := h
  simp only [pClearM, h1]
  exact hk _ ⟨#[], c, [], get_set_self hr, MapKept.stamped_empty _, rfl, List.nodup_nil, by simp, fun _ _ => rfl⟩ (by simp) (fun i hi => get_set_ne (Ne.symm hi))
/-- a new map -/
theorem map_make (κ : Keys α kind) {KE : Value → Heap → Prop} (hk : ∀ H', MapAt κ H' H.size (fun _ => none) → Ext H H' → H'.size = H.size + 1 → KE (.map (some H.size)) H') : pMakeMap H KE :=
  hk _ ⟨#[], 0, [], get_push_self, MapKept.stamped_empty _, rfl, List.nodup_nil, by simp, fun _ _ => rfl⟩ (Ext.refl H).push (by simp)
/-- len(m) -/
theorem MapAt.len (h : MapAt κ H r m) {K : Value → Prop} (hk : ∀ ks : List α, ks.Nodup → (∀ k, k ∈ ks ↔ (m k).isSome = true) → K (.int .i64 (ks.length : Int))) : pLenM H (.map (some r)) K := by
  obtain ⟨es, c, ks, h1, hst, h2, h3, h4, h5⟩ := h
  have hl : es.size = ks.length := by have := congrArg List.length h2; simpa using this
  simp only [pLenM, h1, hl]
  refine hk ks h3 fun k => ⟨fun hm => ?_, fun hm => ?_⟩
  · obtain ⟨j, hj⟩ := List.getElem?_of_mem hm
    have hjl := (List.getElem?_eq_some_iff.1 hj).1
    have he : es.toList[j]? = some (es.toList[j]'(by simp; omega)) := List.getElem?_eq_getElem _
    rw [h4 j _ k he hj]; rfl
  · rcases Classical.em (k ∈ ks) with h' | h'
    · exact h'
    · rw [h5 k h'] at hm; cases hm
/-! ### a map that is ranged over -/
/-- the iterator's block 'it' over the map of block r: 'done' are the keys that came so far -/
def Iter {α : Type} {kind : Nat} (κ : Keys α kind) (H : Heap) (it r : Nat) (m : α → Option Value) (done : List α) : Prop :=
  ∃ (es : Array MapEntry) (clock : Nat) (ks : List α) (seen : Array Nat) (c0 : Nat), H[it]? = some (.mapIter (some r) clock seen c0) ∧ clock ≤ c0 ∧ H[r]? = some (.map es clock) ∧ MapKept.Stamped es clock ∧
    es.toList.map (·.key) = ks.map κ.κ ∧ ks.Nodup ∧
    (∀ (j : Nat) (e : MapEntry) (k : α), es.toList[j]? = some e → ks[j]? = some k → m k = some e.val) ∧ (∀ k, k ∉ ks → m k = none) ∧ done.Nodup ∧
    (∀ (j : Nat) (e : MapEntry) (k : α), es.toList[j]? = some e → ks[j]? = some k → (seen.contains e.born = true ↔ k ∈ done)) ∧ (∀ k, k ∈ done → k ∈ ks) ∧
    ∀ k, done.getLast? = some k → c0 = clock ∧ ∃ (j : Nat) (e : MapEntry), es.toList[j]? = some e ∧ ks[j]? = some k ∧ seen.back? = some e.born
/-- how many have not come -/
def iterLeft (H : Heap) (it : Nat) : Nat := match H[it]? with
  | some (.mapIter (some r) _ seen _) => (match H[r]? with
    | some (.map es _) => (leftOf es seen).size
    | _ => 0)
  | _ => 0
theorem Iter.map {it : Nat} {done : List α} (h : Iter κ H it r m done) : MapAt κ H r m := by
  obtain ⟨es, clock, ks, seen, c0, g1, g2, g3, g4, g5, g6, g7, g8, g9, g10, g11⟩ := h
  exact ⟨es, clock, ks, g3, g4, g5, g6, g7, g8⟩
theorem Iter.lt {it : Nat} {done : List α} (h : Iter κ H it r m done) : it < H.size := by
  obtain ⟨es, clock, ks, seen, c0, g1, _⟩ := h
  exact lt_of_blk g1
theorem Iter.keep {it : Nat} {done : List α} {H' : Heap} (h : Iter κ H it r m done) (h1 : H'[it]? = H[it]?) (h2 : H'[r]? = H[r]?) : Iter κ H' it r m done := by
  obtain ⟨es, clock, ks, seen, c0, g1, g2, g3, g4⟩ := h
  exact ⟨es, clock, ks, seen, c0, h1.trans g1, g2, h2.trans g3, g4⟩
theorem iterLeft_keep {it : Nat} {done : List α} {H' : Heap} (h : Iter κ H it r m done) (h1 : H'[it]? = H[it]?) (h2 : H'[r]? = H[r]?) : iterLeft H' it = iterLeft H it := by
  obtain ⟨es, clock, ks, seen, c0, g1, g2, g3, g4⟩ := h
  simp only [iterLeft, h1, g1, h2, g3]
theorem Iter.nodup {it : Nat} {done : List α} (h : Iter κ H it r m done) : done.Nodup := by
  obtain ⟨es, clock, ks, seen, c0, g1, g2, g3, g4, g5, g6, g7, g8, g9, g10⟩ := h
  exact g9
theorem Iter.dom {it : Nat} {done : List α} (h : Iter κ H it r m done) {k : α} (hk : k ∈ done) : (m k).isSome = true := by
  obtain ⟨es, clock, ks, seen, c0, g1, g2, g3, g4, g5, g6, g7, g8, g9, g10, g11, g12⟩ := h
  obtain ⟨j, hj⟩ := List.getElem?_of_mem (g11 k hk)
  have hl : es.size = ks.length := by have := congrArg List.length g5; simpa using this
  have hjl := (List.getElem?_eq_some_iff.1 hj).1
  rw [g7 j _ k (List.getElem?_eq_getElem (by simp; omega)) hj]; rfl
def isMapT (P : Program) (t : TypeId) : Bool := match P.underlying t with
  | some (.map _ _) => true
  | _ => false
/-- the loop begins -/
theorem MapAt.range {P : Program} (h : MapAt κ H r m) {t : TypeId} (ht : isMapT P t = true) {K : Value → Heap → Prop} (hk : ∀ H', Ext H H' → H'.size = H.size + 1 → Iter κ H' H.size r m [] → K (.pointer (some ⟨H.size, 0, none⟩)) H') : pSem H P (Instr.range t (.map (some r))) K := by
  obtain ⟨es, c, ks, h1, hst, h2, h3, h4, h5⟩ := h
  intro w hw
  subst hw
  obtain ⟨k, e, ht⟩ : ∃ k e, P.underlying t = some (.map k e) := by
    unfold isMapT at ht
    split at ht
    · exact ⟨_, _, by assumption⟩
    · cases ht
  rw [run_range_map w t k e r es c ht h1]
  have hx : Ext w.heap (w.heap.push (.mapIter (some r) c #[] c)) := (Ext.refl _).push
  refine ⟨⟨rfl, rfl⟩, hk _ hx (by simp) ⟨es, c, ks, #[], c, get_push_self, Nat.le_refl _, hx.blk h1, hst, h2, h3, h4, h5, List.nodup_nil, ?_, by simp, by simp⟩⟩
  intro j e k _ _
  simp
theorem filter_none {α : Type} {p : α → Bool} {L : Array α} (h : (L.filter p).size = 0) : ∀ x ∈ L.toList, p x = false := by
  intro x hx
  have h2 : L.filter p = #[] := Array.eq_empty_of_size_eq_zero h
  rw [Array.filter_eq_empty_iff] at h2
  have := h2 x (Array.mem_toList_iff.1 hx)
  simpa using this
/-- the loop's next step: over, or any key that has not come -/
theorem Iter.next {P : Program} {it : Nat} {done : List α} (h : Iter κ H it r m done) {ty : TypeId} {K : Value → Heap → Prop} (hover : (∀ k, (m k).isSome = true → k ∈ done) → K (.tuple #[.bool false]) H)
    (hk : ∀ k v H', k ∉ done → m k = some v → Iter κ H' it r m (done ++ [k]) → (∀ i, i ≠ it → H'[i]? = H[i]?) → H'.size = H.size → iterLeft H' it < iterLeft H it → K (.tuple #[.bool true, κ.κ k, v]) H') : pSem H P (Instr.next (.pointer (some ⟨it, 0, none⟩)) false ty) K := by
  have hlt := h.lt
  obtain ⟨es, clock, ks, seen, c0, g1, g2, g3, g4, g5, g6, g7, g8, g9, g10, g11, g12⟩ := h
  have hlen : es.size = ks.length := by have := congrArg List.length g5; simpa using this
  intro w hw
  subst hw
  have hold := g4.1
  simp only [Instr.next, getObj, Sem.run_bind, Sem.run, g1, g3, Result.andThen, next_test_false seen es clock c0 hold g2, Bool.false_eq_true, if_false]
  have hLdef : Array.filter (fun e => !seen.contains e.born) es = leftOf es seen := rfl
  rw [hLdef]
  have hmem : ∀ x ∈ (leftOf es seen).toList, x.born < clock := fun x hx => hold x (mem_left hx).1
  have e1 : (leftOf es seen).filter (fun x => decide (x.born < clock)) = leftOf es seen := Array.filter_eq_self.2 (fun x hx => by simpa using hmem x (by simpa using hx))
  have e2 : (leftOf es seen).filter (fun x => decide (x.born ≥ clock)) = #[] := by
    rw [Array.filter_eq_empty_iff]
    intro x hx
    have := hmem x (by simpa using hx)
    simp
    omega
  simp only [e1, e2, Array.append_empty]
  by_cases h0 : (leftOf es seen).size = 0
  · have hL : leftOf es seen = #[] := Array.eq_empty_of_size_eq_zero h0
    rw [hL]
    simp [choose, Sem.run, Question.forced]
    refine ⟨⟨rfl, rfl⟩, hover fun k hk => ?_⟩
    rcases Classical.em (k ∈ ks) with hm | hm
    · obtain ⟨j, hj⟩ := List.getElem?_of_mem hm
      have hjl := (List.getElem?_eq_some_iff.1 hj).1
      have he : es.toList[j]? = some (es.toList[j]'(by simp; omega)) := List.getElem?_eq_getElem _
      have hns := filter_none h0 (es.toList[j]'(by simp; omega)) (List.getElem_mem _)
      simp only [Bool.not_eq_false'] at hns
      exact (g10 j _ k he hj).1 hns
    · rw [g8 k hm] at hk; cases hk
  · have hne : (leftOf es seen).isEmpty = false := by simp [Array.isEmpty, h0]
    simp only [hne, Bool.false_eq_true, if_false, Array.empty_append, Array.size_map]
    have hch : ∃ (j : Nat) (w1 : World), j < (leftOf es seen).size ∧ w1.Alike w ∧ (choose (Question.mapNext (leftOf es seen).size)).run P w = .ok j w1 := by
      by_cases hf : (leftOf es seen).size ≤ 1
      · exact ⟨0, w, by omega, ⟨rfl, rfl, rfl⟩, by simp [choose, Sem.run, Question.forced, hf]⟩
      · exact ⟨_, w.drew, Nat.mod_lt _ (by omega), ⟨rfl, rfl, rfl⟩, by
          simp only [choose, Sem.run, Question.forced, decide_eq_true_eq, hf, if_false, Question.cut]
          rfl⟩
    obtain ⟨j, w1, hj, hal, hrun⟩ := hch
    have hset : (setObj it (.mapIter (some r) clock (seen.push (leftOf es seen)[j].born) clock)).run P w1 = .ok () { w1 with heap := w1.heap.setIfInBounds it (.mapIter (some r) clock (seen.push (leftOf es seen)[j].born) clock) } := by
      simp only [setObj, Sem.run]
      rw [hal.1, g1]
    simp only [hrun, Array.getElem?_map, Array.getElem?_eq_getElem hj, Option.map_some, Sem.run_bind, hset, Result.andThen]
    have hin : (leftOf es seen)[j] ∈ (leftOf es seen).toList := by simp
    have hin2 := mem_left hin
    obtain ⟨j', hj'⟩ := List.getElem?_of_mem hin2.1
    have hj'l : j' < ks.length := by have := (List.getElem?_eq_some_iff.1 hj').1; simp at this; omega
    have hkj : ks[j']? = some ks[j'] := List.getElem?_eq_getElem hj'l
    have hkey : (leftOf es seen)[j].key = κ.κ ks[j'] := by
      have h' : (es.toList.map (·.key))[j']? = some (leftOf es seen)[j].key := by rw [List.getElem?_map, hj']; rfl
      rw [g5, List.getElem?_map, hkj] at h'
      simpa using h'.symm
    have hnd : ks[j'] ∉ done := fun hd => by
      have := (g10 j' _ _ hj' hkj).2 hd
      rw [hin2.2] at this; cases this
    refine ⟨⟨by rw [hal.2.1], by rw [hal.2.2]⟩, ?_⟩
    show K (.tuple #[.bool true, (leftOf es seen)[j].key, (leftOf es seen)[j].val]) (w1.heap.setIfInBounds it _)
    rw [hkey, hal.1]
    have hrne : it ≠ r := fun e => by subst e; rw [g1] at g3; cases g3
    refine hk ks[j'] _ _ hnd (g7 j' _ _ hj' hkj) ⟨es, clock, ks, _, clock, get_set_self hlt, Nat.le_refl _, (get_set_ne hrne).trans g3, g4, g5, g6, g7, g8, ?_, ?_, ?_, ?_⟩ (fun i hi => get_set_ne (Ne.symm hi)) (by simp) ?_
    · rw [List.nodup_append]
      exact ⟨g9, by simp, fun a ha b hb => by simp only [List.mem_singleton] at hb; subst hb; intro e; exact hnd (e ▸ ha)⟩
    · intro i e k he hk'
      rw [contains_push, Bool.or_eq_true, g10 i e k he hk', List.mem_append, List.mem_singleton, beq_iff_eq]
      constructor
      · rintro (h' | h')
        · exact .inl h'
        · right
          have := born_inj g4.2.1 (List.mem_of_getElem? he) hin2.1 h'
          subst this
          have hii : i = j' := by
            have hn : es.toList.Nodup := by
              have := g4.2.1
              exact List.Pairwise.of_map (f := fun x : MapEntry => x.born) (fun a b hab e => hab (by rw [e])) this
            exact nodup_get hn he hj'
          subst hii
          rw [hkj, Option.some.injEq] at hk'
          exact hk'.symm
      · rintro (h' | h')
        · exact .inl h'
        · right
          rw [h'] at hk'
          have hii := nodup_get g6 hk' hkj
          subst hii
          rw [he, Option.some.injEq] at hj'
          rw [hj']
    · intro k hk'
      rcases List.mem_append.1 hk' with h' | h'
      · exact g11 k h'
      · simp only [List.mem_singleton] at h'; rw [h']; exact List.getElem_mem _
    · intro k hk'
      rw [List.getLast?_concat, Option.some.injEq] at hk'
      subst hk'
      exact ⟨rfl, j', _, hj', hkj, by simp⟩
    · simp only [iterLeft, get_set_self hlt, get_set_ne hrne, g3, g1]
      exact left_shrinks es seen _ hin
/-- the key and the value of this step -/
theorem Iter.entry {P : Program} {it : Nat} {done : List α} {k : α} {v : Value} (h : Iter κ H it r m (done ++ [k])) (hv : m k = some v) {K : Value → Heap → Prop} (hk : K (.tuple #[κ.κ k, v]) H) : pSem H P (Instr.entry (.pointer (some ⟨it, 0, none⟩))) K := by
  obtain ⟨es, clock, ks, seen, c0, g1, g2, g3, g4, g5, g6, g7, g8, g9, g10, g11, g12⟩ := h
  obtain ⟨rfl, j, e, h1, h2, h3⟩ := g12 k (by simp)
  intro w hw
  subst hw
  have hf : es.find? (·.born == e.born) = some e := by rw [← Array.find?_toList]; exact find_born e es.toList g4.2.1 (List.mem_of_getElem? h1)
  simp only [Instr.entry, getObj, Sem.run_bind, Sem.run, g1, g3, Result.andThen, h3, bne_self_eq_false, Bool.false_eq_true, if_false, hf]
  have hkey : e.key = κ.κ k := by
    have h' : (es.toList.map (·.key))[j]? = some e.key := by rw [List.getElem?_map, h1]; rfl
    rw [g5, List.getElem?_map, h2] at h'
    simpa using h'.symm
  have hval : e.val = v := by
    have := g7 j e k h1 h2
    rw [hv, Option.some.injEq] at this
    exact this.symm
  refine ⟨⟨rfl, rfl⟩, ?_⟩
  rw [hkey, hval]
  exact hk
end
end Go.Vc
