/- A slice of structs that came in, as the list of its elements' cells. -/
import Derived.Test.YtfmbgnchedhneaaVcOpen
import Derived.Test.YtfmbgnchedhneaaVcOwn
set_option linter.unusedSimpArgs false
set_option linter.unusedVariables false
namespace Go.Vc
open Go
theorem flat_at {n : Nat} : ∀ (L : List (List Value)) (i : Nat) (r : List Value), (∀ r ∈ L, r.length = n) → L[i]? = some r → (L.flatten.drop (i * n)).take n = r
  | [], i, r, _, h => by simp at h
  | u :: L, 0, r, hl, h => by
    simp only [List.getElem?_cons_zero, Option.some.injEq] at h
    subst h
    have hu := hl u (by simp)
    rw [List.flatten_cons, Nat.zero_mul, List.drop_zero, List.take_append_of_le_length (by omega), List.take_of_length_le (by omega)]
  | u :: L, i + 1, r, hl, h => by
    simp only [List.getElem?_cons_succ] at h
    have hu := hl u (by simp)
    have := flat_at L i r (fun r hr => hl r (by simp [hr])) h
    rw [List.flatten_cons, show (i + 1) * n = u.length + i * n by rw [hu, Nat.succ_mul]; omega, List.drop_append]
    rw [List.drop_eq_nil_of_le (by omega), List.nil_append, show u.length + i * n - u.length = i * n by omega]
    exact this
theorem flat_len {n : Nat} : ∀ (L : List (List Value)), (∀ r ∈ L, r.length = n) → L.flatten.length = L.length * n
  | [], _ => by simp
  | u :: L, hl => by
    have hu := hl u (by simp)
    rw [List.flatten_cons, List.length_append, flat_len L (fun r hr => hl r (by simp [hr])), hu, List.length_cons, Nat.succ_mul]
    omega
theorem flat_get {n : Nat} (hn : 0 < n) : ∀ (L : List (List Value)) (k : Nat) (v : Value), (∀ r ∈ L, r.length = n) → L.flatten[k]? = some v → ∃ r, L[k / n]? = some r ∧ r[k % n]? = some v
  | [], k, v, _, h => by simp at h
  | u :: L, k, v, hl, h => by
    have hu := hl u (by simp)
    rw [List.flatten_cons] at h
    by_cases hk : k < n
    · rw [List.getElem?_append_left (by omega)] at h
      exact ⟨u, by rw [Nat.div_eq_of_lt hk]; rfl, by rw [Nat.mod_eq_of_lt hk]; exact h⟩
    · rw [List.getElem?_append_right (by omega), hu] at h
      obtain ⟨r, h1, h2⟩ := flat_get hn L (k - n) v (fun r hr => hl r (by simp [hr])) h
      refine ⟨r, ?_, ?_⟩
      · rw [Nat.div_eq_sub_div hn (by omega)]; exact h1
      · rw [Nat.mod_eq_sub_mod (by omega)]; exact h2
theorem fit_list {n : Nat} {ds : List TypeDesc} (hds : ds.length = n) {c : Nat → Option Value} (h : FitAll ds c) : ∃ r : List Value, r.length = n ∧ FitAll ds (fun j => r[j]?) ∧ ∀ j, j < n → r[j]? = c j := by
  refine ⟨(List.range n).map fun j => (c j).getD undef, by simp, ?_, ?_⟩
  · intro j d hj
    have hlt : j < n := by rw [← hds]; exact (List.getElem?_eq_some_iff.1 hj).1
    obtain ⟨v, hv, hk⟩ := h j d hj
    exact ⟨v, by simp [List.getElem?_map, List.getElem?_range hlt, hv], hk⟩
  · intro j hj
    obtain ⟨v, hv, _⟩ := h j _ (List.getElem?_eq_getElem (by omega))
    simp [List.getElem?_map, List.getElem?_range hj, hv]
/-- its elements -/
theorem StructRow.rows {ds : List TypeDesc} {H : Heap} {a : Option Addr} {len cap : Nat} (h : StructRow ds H a len cap) (hn : 0 < ds.length) :
    ∃ L : List (List Value), L.length = len ∧ len ≤ maxLen ∧ (∀ r ∈ L, r.length = ds.length) ∧ (∀ r ∈ L, FitAll ds fun j => r[j]?) ∧ Sl H (.slice a len cap) ds.length L.flatten := by
  rcases h with ⟨rfl, rfl, rfl⟩ | ⟨x, rfl, hl, hm, hf⟩
  · exact ⟨[], rfl, Nat.zero_le _, by simp, by simp, .inl ⟨rfl, rfl⟩⟩
  · have key : ∀ m, m ≤ len → ∃ L : List (List Value), L.length = m ∧ (∀ r ∈ L, r.length = ds.length) ∧ (∀ r ∈ L, FitAll ds fun j => r[j]?) ∧ ∀ i r, L[i]? = some r → ∀ j, j < ds.length → r[j]? = cellAt H (x.add (i * ds.length + j)) := by
      intro m
      induction m with
      | zero => intro _; exact ⟨[], rfl, by simp, by simp, by simp⟩
      | succ m ih =>
        intro hm
        obtain ⟨L, h1, h2, h3, h4⟩ := ih (by omega)
        obtain ⟨r, hr1, hr2, hr3⟩ := fit_list rfl (hf m (by omega))
        refine ⟨L ++ [r], by simp [h1], ?_, ?_, ?_⟩
        · intro s hs; rcases List.mem_append.1 hs with hs | hs
          · exact h2 s hs
          · simp only [List.mem_singleton] at hs; subst hs; exact hr1
        · intro s hs; rcases List.mem_append.1 hs with hs | hs
          · exact h3 s hs
          · simp only [List.mem_singleton] at hs; subst hs; exact hr2
        · intro i s hs j hj
          by_cases hi : i < m
          · rw [List.getElem?_append_left (by omega)] at hs
            exact h4 i s hs j hj
          · rw [List.getElem?_append_right (by omega)] at hs
            have hi2 : i = m := by
              rcases Nat.lt_or_ge m i with h' | h'
              · rw [List.getElem?_eq_none (by simp; omega)] at hs; cases hs
              · omega
            subst hi2
            rw [h1, Nat.sub_self, List.getElem?_cons_zero, Option.some.injEq] at hs
            subst hs
            exact hr3 j hj
    obtain ⟨L, h1, h2, h3, h4⟩ := key len (Nat.le_refl _)
    refine ⟨L, h1, by omega, h2, h3, .inr ⟨x, len, cap, rfl, by rw [flat_len L h2, h1], hl, fun k v hv => ?_⟩⟩
    obtain ⟨r, hr1, hr2⟩ := flat_get hn L k v h2 hv
    have := h4 _ r hr1 (k % ds.length) (Nat.mod_lt _ hn)
    rw [hr2] at this
    rw [this]
    congr 2
    rw [Nat.mul_comm]; exact (Nat.div_add_mod k ds.length).symm
end Go.Vc
