/- Matches in a text: plain laws. -/
import Derived.Test.YtfmbgnchedhneaaDoorCopyN
namespace Go.Proofs.YtfmbgnchedhneaaDoor
open Go Go.Vc Go.Proofs
set_option linter.unusedVariables false
set_option linter.unusedSimpArgs false
/-- the hash of the three bytes at a place -/
def hashN (T : List UInt8) (i : Nat) : Nat := ((T.getD i 0).toNat * 1024 ^^^ (T.getD (i + 1) 0).toNat * 32 ^^^ (T.getD (i + 2) 0).toNat) % 32768
/-- how much is the same at two places: at most so much -/
def sameN (T : List UInt8) (k i : Nat) : Nat → Nat
  | 0 => 0
  | m + 1 => if T.getD k 0 = T.getD i 0 then sameN T (k + 1) (i + 1) m + 1 else 0
theorem sameN_le (T : List UInt8) : ∀ (m k i : Nat), sameN T k i m ≤ m
  | 0, _, _ => Nat.le_refl _
  | m + 1, k, i => by
    unfold sameN
    split
    · have := sameN_le T m (k + 1) (i + 1); omega
    · omega
theorem sameN_eq (T : List UInt8) : ∀ (m k i p : Nat), p < sameN T k i m → T.getD (k + p) 0 = T.getD (i + p) 0
  | 0, k, i, p, h => by unfold sameN at h; omega
  | m + 1, k, i, p, h => by
    unfold sameN at h
    split at h
    · rename_i he
      cases p with
      | zero => exact he
      | succ p =>
        have := sameN_eq T m (k + 1) (i + 1) p (by omega)
        rw [show k + (p + 1) = k + 1 + p by omega, show i + (p + 1) = i + 1 + p by omega]
        exact this
    · omega
theorem sameN_ne (T : List UInt8) : ∀ (m k i : Nat), sameN T k i m < m → T.getD (k + sameN T k i m) 0 ≠ T.getD (i + sameN T k i m) 0
  | 0, k, i, h => by unfold sameN at h; omega
  | m + 1, k, i, h => by
    unfold sameN at h ⊢
    split at h
    · rename_i he
      rw [if_pos he]
      have := sameN_ne T m (k + 1) (i + 1) (by omega)
      rw [show k + (sameN T (k + 1) (i + 1) m + 1) = k + 1 + sameN T (k + 1) (i + 1) m by omega, show i + (sameN T (k + 1) (i + 1) m + 1) = i + 1 + sameN T (k + 1) (i + 1) m by omega]
      exact this
    · rename_i he
      rw [if_neg he]
      exact he
/-- it is the one number that is so -/
theorem sameN_is {T : List UInt8} {m k i n : Nat} (h1 : n ≤ m) (h2 : ∀ p, p < n → T.getD (k + p) 0 = T.getD (i + p) 0) (h3 : n < m → T.getD (k + n) 0 ≠ T.getD (i + n) 0) : sameN T k i m = n := by
  have hle := sameN_le T m k i
  by_cases hlt : sameN T k i m < n
  · exact absurd (h2 _ hlt) (sameN_ne T m k i (by omega))
  · by_cases hgt : n < sameN T k i m
    · exact absurd (sameN_eq T m k i n hgt) (h3 (by omega))
    · omega
def lenF (T : List UInt8) (k i : Nat) : Nat := sameN T k i (min 258 (T.length - i))
theorem lenF_le (T : List UInt8) (k i : Nat) : lenF T k i ≤ 258 ∧ lenF T k i ≤ T.length - i := by
  have := sameN_le T (min 258 (T.length - i)) k i
  unfold lenF
  omega
/-- the last place ahead of e with a hash, and one -/
def lastP (T : List UInt8) : Nat → Nat → Nat
  | 0, _ => 0
  | e + 1, h => if e + 3 ≤ T.length ∧ hashN T e = h then e + 1 else lastP T e h
theorem lastP_le (T : List UInt8) (h : Nat) : ∀ e, lastP T e h ≤ e
  | 0 => Nat.le_refl _
  | e + 1 => by
    unfold lastP
    split
    · omega
    · have := lastP_le T h e; omega
theorem lastP_at (T : List UInt8) (h : Nat) : ∀ e, 0 < lastP T e h → lastP T e h - 1 + 3 ≤ T.length ∧ hashN T (lastP T e h - 1) = h
  | 0, h0 => by unfold lastP at h0; omega
  | e + 1, h0 => by
    unfold lastP at h0 ⊢
    split
    · rename_i hc; exact hc
    · rename_i hc
      rw [if_neg hc] at h0
      exact lastP_at T h e h0
theorem lastP_top (T : List UInt8) (h : Nat) (e : Nat) : ∀ j, j < e → j + 3 ≤ T.length → hashN T j = h → j < lastP T e h := by
  induction e with
  | zero => intro j hj; omega
  | succ e ih =>
    intro j hj hl hh
    unfold lastP
    by_cases hc : e + 3 ≤ T.length ∧ hashN T e = h
    · rw [if_pos hc]; exact hj
    · rw [if_neg hc]
      by_cases he : j = e
      · subst he; exact absurd ⟨hl, hh⟩ hc
      · exact ih j (by omega) hl hh
/-- the walk down the places with the same hash -/
def stepB (T : List UInt8) (i k best : Nat) : Nat := if best < lenF T (k - 1) i then lenF T (k - 1) i else best
def stepD (T : List UInt8) (i k best dist : Nat) : Nat := if best < lenF T (k - 1) i then i - (k - 1) else dist
def walkF (T : List UInt8) (depth i : Nat) : Nat → Nat → Nat → Nat → Nat → Nat × Nat
  | 0, _, _, best, dist => (best, dist)
  | c + 1, n, k, best, dist => if 0 < k ∧ n < depth ∧ i - (k - 1) ≤ 32768 then
      (if stepB T i k best = 258 then (stepB T i k best, stepD T i k best dist)
      else walkF T depth i c (n + 1) (lastP T (k - 1) (hashN T (k - 1))) (stepB T i k best) (stepD T i k best dist))
    else (best, dist)
theorem walkF_go {T : List UInt8} {depth i c n k best dist : Nat} (h : 0 < k ∧ n < depth ∧ i - (k - 1) ≤ 32768) (h2 : stepB T i k best ≠ 258) : walkF T depth i (c + 1) n k best dist = walkF T depth i c (n + 1) (lastP T (k - 1) (hashN T (k - 1))) (stepB T i k best) (stepD T i k best dist) := by
  show (if 0 < k ∧ n < depth ∧ i - (k - 1) ≤ 32768 then _ else _) = _
  rw [if_pos h, if_neg h2]
theorem walkF_full {T : List UInt8} {depth i c n k best dist : Nat} (h : 0 < k ∧ n < depth ∧ i - (k - 1) ≤ 32768) (h2 : stepB T i k best = 258) : walkF T depth i (c + 1) n k best dist = (stepB T i k best, stepD T i k best dist) := by
  show (if 0 < k ∧ n < depth ∧ i - (k - 1) ≤ 32768 then _ else _) = _
  rw [if_pos h, if_pos h2]
theorem walkF_stop {T : List UInt8} {depth i c n k best dist : Nat} (h : ¬ (0 < k ∧ n < depth ∧ i - (k - 1) ≤ 32768)) : walkF T depth i (c + 1) n k best dist = (best, dist) := by
  show (if 0 < k ∧ n < depth ∧ i - (k - 1) ≤ 32768 then _ else _) = _
  rw [if_neg h]
def longF (T : List UInt8) (depth i : Nat) : Nat × Nat := if T.length < i + 3 then (0, 0) else if (walkF T depth i (i + 1) 0 (lastP T i (hashN T i)) 0 0).1 < 3 then (0, 0) else walkF T depth i (i + 1) 0 (lastP T i (hashN T i)) 0 0
/-- a match that is there -/
def Is (T : List UInt8) (i n d : Nat) : Prop := 1 ≤ d ∧ d ≤ i ∧ d ≤ 32768 ∧ n = lenF T (i - d) i
theorem walkF_is {T : List UInt8} {depth i : Nat} : ∀ c n k best dist, k ≤ i → (best = 0 ∨ Is T i best dist) → (walkF T depth i c n k best dist).1 = 0 ∨ Is T i (walkF T depth i c n k best dist).1 (walkF T depth i c n k best dist).2
  | 0, n, k, best, dist, hk, h => h
  | c + 1, n, k, best, dist, hk, h => by
    by_cases hc : 0 < k ∧ n < depth ∧ i - (k - 1) ≤ 32768
    · have hnew : stepB T i k best = 0 ∨ Is T i (stepB T i k best) (stepD T i k best dist) := by
        unfold stepB stepD
        by_cases hb : best < lenF T (k - 1) i
        · rw [if_pos hb, if_pos hb]
          right
          refine ⟨by omega, by omega, hc.2.2, ?_⟩
          rw [show i - (i - (k - 1)) = k - 1 by omega]
        · rw [if_neg hb, if_neg hb]; exact h
      by_cases h258 : stepB T i k best = 258
      · rw [walkF_full hc h258]; exact hnew
      · rw [walkF_go hc h258]
        exact walkF_is c _ _ _ _ (by have := lastP_le T (hashN T (k - 1)) (k - 1); omega) hnew
    · rw [walkF_stop hc]; exact h
theorem longF_is {T : List UInt8} {depth i : Nat} (h : (longF T depth i).1 ≠ 0) : 3 ≤ (longF T depth i).1 ∧ Is T i (longF T depth i).1 (longF T depth i).2 := by
  unfold longF at h ⊢
  split
  · rename_i hc; rw [if_pos hc] at h; exact absurd rfl h
  · rename_i hc
    rw [if_neg hc] at h
    split
    · rename_i h3; rw [if_pos h3] at h; exact absurd rfl h
    · rename_i h3
      refine ⟨by omega, ?_⟩
      rcases walkF_is (T := T) (depth := depth) (i := i) (i + 1) 0 (lastP T i (hashN T i)) 0 0 (lastP_le T _ i) (.inl rfl) with h0 | h0
      · omega
      · exact h0
theorem longF_zero {T : List UInt8} {depth i : Nat} (h : (longF T depth i).1 = 0) : longF T depth i = (0, 0) := by
  unfold longF at h ⊢
  split
  · rfl
  · rename_i hc
    rw [if_neg hc] at h
    split
    · rfl
    · rename_i h3
      rw [if_neg h3] at h
      omega
/-- the first one of the walk counts -/
theorem walkF_ge {T : List UInt8} {depth i : Nat} : ∀ c n k best dist, best ≤ (walkF T depth i c n k best dist).1
  | 0, n, k, best, dist => Nat.le_refl _
  | c + 1, n, k, best, dist => by
    have hb : best ≤ stepB T i k best := by unfold stepB; split <;> omega
    by_cases hc : 0 < k ∧ n < depth ∧ i - (k - 1) ≤ 32768
    · by_cases h258 : stepB T i k best = 258
      · rw [walkF_full hc h258]; exact hb
      · rw [walkF_go hc h258]
        exact Nat.le_trans hb (walkF_ge c _ _ _ _)
    · rw [walkF_stop hc]; exact Nat.le_refl _
theorem longF_first {T : List UInt8} {depth i : Nat} (hd : 0 < depth) (hi : i + 3 ≤ T.length) (hk : 0 < lastP T i (hashN T i)) (hw : i - (lastP T i (hashN T i) - 1) ≤ 32768) (h3 : 3 ≤ lenF T (lastP T i (hashN T i) - 1) i) : lenF T (lastP T i (hashN T i) - 1) i ≤ (longF T depth i).1 := by
  have key : lenF T (lastP T i (hashN T i) - 1) i ≤ (walkF T depth i (i + 1) 0 (lastP T i (hashN T i)) 0 0).1 := by
    have hc : 0 < lastP T i (hashN T i) ∧ 0 < depth ∧ i - (lastP T i (hashN T i) - 1) ≤ 32768 := ⟨hk, hd, hw⟩
    have hb : stepB T i (lastP T i (hashN T i)) 0 = lenF T (lastP T i (hashN T i) - 1) i := by unfold stepB; rw [if_pos (by omega)]
    by_cases h258 : stepB T i (lastP T i (hashN T i)) 0 = 258
    · rw [walkF_full hc h258]; exact Nat.le_of_eq hb.symm
    · rw [walkF_go hc h258, ← hb]
      exact walkF_ge _ _ _ _ _
  unfold longF
  rw [if_neg (by omega), if_neg (by omega)]
  exact key
/-- three bytes that are the same have the same hash -/
theorem lenF_hash {T : List UInt8} {j i : Nat} (h : 3 ≤ lenF T j i) : hashN T j = hashN T i := by
  have e := fun p hp => sameN_eq T (min 258 (T.length - i)) j i p hp
  have e0 := e 0 (by show 0 < lenF T j i; omega)
  have e1 := e 1 (by show 1 < lenF T j i; omega)
  have e2 := e 2 (by show 2 < lenF T j i; omega)
  unfold hashN
  rw [Nat.add_zero, Nat.add_zero] at e0
  rw [e0, e1, e2]
/-- with no bound on the depth the walk finds the best -/
theorem walkF_best {T : List UInt8} {depth i : Nat} (hi : i + 3 ≤ T.length) (c : Nat) : ∀ n k best dist, k ≤ c → k ≤ i → n + k ≤ depth → (0 < k → hashN T (k - 1) = hashN T i) →
    (∀ j, k ≤ j → j < i → hashN T j = hashN T i → i - j ≤ 32768 → lenF T j i ≤ best ∧ (best = lenF T j i → 0 < best → dist ≤ i - j)) → (0 < best → dist ≤ i - k) →
    ∀ j, j < i → hashN T j = hashN T i → i - j ≤ 32768 → lenF T j i ≤ (walkF T depth i c n k best dist).1 ∧ ((walkF T depth i c n k best dist).1 = lenF T j i → 0 < (walkF T depth i c n k best dist).1 → (walkF T depth i c n k best dist).2 ≤ i - j) := by
  induction c with
  | zero => exact fun n k best dist hkc hki hn hh hb hd j hj hj2 hj3 => hb j (by omega) hj hj2 hj3
  | succ c ih =>
    intro n k best dist hkc hki hn hh hb hd j hj hj2 hj3
    by_cases hc : 0 < k ∧ n < depth ∧ i - (k - 1) ≤ 32768
    · -- what the new best says of all down to k - 1
      have hb' : ∀ j, k - 1 ≤ j → j < i → hashN T j = hashN T i → i - j ≤ 32768 → lenF T j i ≤ stepB T i k best ∧ (stepB T i k best = lenF T j i → 0 < stepB T i k best → stepD T i k best dist ≤ i - j) := fun j h1 h2 h3 h4 => by
        unfold stepB stepD
        by_cases hlt : best < lenF T (k - 1) i
        · rw [if_pos hlt, if_pos hlt]
          by_cases hjk : j = k - 1
          · subst hjk; exact ⟨Nat.le_refl _, fun _ _ => Nat.le_refl _⟩
          · have := hb j (by omega) h2 h3 h4
            exact ⟨by omega, fun g => by omega⟩
        · rw [if_neg hlt, if_neg hlt]
          by_cases hjk : j = k - 1
          · subst hjk
            exact ⟨by omega, fun _ g => by have := hd g; omega⟩
          · exact hb j (by omega) h2 h3 h4
      have hd' : 0 < stepB T i k best → stepD T i k best dist ≤ i - (k - 1) := fun g => by
        unfold stepB at g
        unfold stepD
        by_cases hlt : best < lenF T (k - 1) i
        · rw [if_pos hlt]; exact Nat.le_refl _
        · rw [if_neg hlt] at g ⊢
          have := hd g; omega
      by_cases h258 : stepB T i k best = 258
      · rw [walkF_full hc h258]
        generalize stepB T i k best = b2 at *
        generalize stepD T i k best dist = d2 at *
        refine ⟨by rw [h258]; exact (lenF_le T j i).1, fun g g2 => ?_⟩
        show d2 ≤ i - j
        by_cases hjk : k - 1 ≤ j
        · exact (hb' j hjk hj hj2 hj3).2 g (by omega)
        · have := hd' (by omega); omega
      · rw [walkF_go hc h258]
        have hl := lastP_le T (hashN T (k - 1)) (k - 1)
        refine ih (n + 1) _ _ _ (by omega) (by omega) (by omega) (fun h0 => ?_) (fun j h1 h2 h3 h4 => ?_) (fun g => by have := hd' g; omega) j hj hj2 hj3
        · rw [(lastP_at T _ _ h0).2, hh hc.1]
        · by_cases hjk : k - 1 ≤ j
          · exact hb' j hjk h2 h3 h4
          · have := lastP_top T (hashN T (k - 1)) (k - 1) j (by omega) (by omega) (by rw [h3, hh hc.1])
            omega
    · rw [walkF_stop hc]
      exact hb j (by omega) hj hj2 hj3
theorem longF_best {T : List UInt8} {depth i j : Nat} (hd : i ≤ depth) (hj : j < i) (hw : i - j ≤ 32768) (h3 : 3 ≤ lenF T j i) : lenF T j i ≤ (longF T depth i).1 ∧ ((longF T depth i).1 = lenF T j i → (longF T depth i).2 ≤ i - j) := by
  have hle := lenF_le T j i
  have hi : i + 3 ≤ T.length := by omega
  have hl := lastP_le T (hashN T i) i
  have key := walkF_best hi (i + 1) 0 (lastP T i (hashN T i)) 0 0 (depth := depth) (by omega) hl (by omega) (fun h0 => (lastP_at T _ _ h0).2) (fun j h1 h2 h3 h4 => by
    have := lastP_top T (hashN T i) i j h2 (by omega) h3
    omega) (fun g => by omega) j hj (lenF_hash h3) hw
  unfold longF
  rw [if_neg (by omega), if_neg (by omega)]
  exact ⟨key.1, fun g => key.2 g (by omega)⟩
/-- the document's longest: by all distances -/
def refF (T : List UInt8) (i : Nat) : Nat → Nat × Nat
  | 0 => (0, 0)
  | d + 1 => if (refF T i d).1 < lenF T (i - (d + 1)) i then (lenF T (i - (d + 1)) i, d + 1) else refF T i d
def refLong (T : List UInt8) (i : Nat) : Nat × Nat := if (refF T i (min i 32768)).1 < 3 then (0, 0) else refF T i (min i 32768)
theorem refF_is (T : List UInt8) (i : Nat) : ∀ m, m ≤ i → ((refF T i m).1 = 0 ∨ (1 ≤ (refF T i m).2 ∧ (refF T i m).2 ≤ m ∧ (refF T i m).1 = lenF T (i - (refF T i m).2) i)) ∧ ∀ d, 1 ≤ d → d ≤ m → lenF T (i - d) i ≤ (refF T i m).1 ∧ ((refF T i m).1 = lenF T (i - d) i → 0 < (refF T i m).1 → (refF T i m).2 ≤ d)
  | 0, _ => ⟨.inl rfl, fun d h1 h2 => by omega⟩
  | m + 1, hm => by
    obtain ⟨ih1, ih2⟩ := refF_is T i m (by omega)
    unfold refF
    by_cases hc : (refF T i m).1 < lenF T (i - (m + 1)) i
    · rw [if_pos hc]
      refine ⟨.inr ⟨by show 1 ≤ m + 1; omega, Nat.le_refl _, rfl⟩, fun d h1 h2 => ?_⟩
      by_cases hd : d = m + 1
      · subst hd; exact ⟨Nat.le_refl _, fun _ _ => Nat.le_refl _⟩
      · have := (ih2 d h1 (by omega)).1
        refine ⟨by show _ ≤ lenF T (i - (m + 1)) i; omega, fun g => ?_⟩
        have g : lenF T (i - (m + 1)) i = lenF T (i - d) i := g
        omega
    · rw [if_neg hc]
      refine ⟨?_, fun d h1 h2 => ?_⟩
      · rcases ih1 with h | ⟨h1, h2, h3⟩
        · exact .inl h
        · exact .inr ⟨h1, by omega, h3⟩
      · by_cases hd : d = m + 1
        · subst hd
          refine ⟨by omega, fun _ g => ?_⟩
          rcases ih1 with h | ⟨h1, h2, h3⟩
          · omega
          · omega
        · exact ih2 d h1 (by omega)
theorem longF_ref {T : List UInt8} {depth i : Nat} (hd : i ≤ depth) : longF T depth i = refLong T i := by
  obtain ⟨h1, h2⟩ := refF_is T i (min i 32768) (by omega)
  unfold refLong
  by_cases h3 : (refF T i (min i 32768)).1 < 3
  · rw [if_pos h3]
    refine longF_zero ?_
    by_cases h0 : (longF T depth i).1 = 0
    · exact h0
    · obtain ⟨g3, g1, g2, g4, g5⟩ := longF_is h0
      have := (h2 (longF T depth i).2 g1 (by omega)).1
      omega
  · rw [if_neg h3]
    rcases h1 with h1 | ⟨e1, e2, e3⟩
    · omega
    have hb := longF_best (T := T) (depth := depth) (i := i) (j := i - (refF T i (min i 32768)).2) hd (by omega) (by omega) (by omega)
    have h0 : (longF T depth i).1 ≠ 0 := by omega
    obtain ⟨g3, g1, g2, g4, g5⟩ := longF_is h0
    have hr := h2 (longF T depth i).2 g1 (by omega)
    have f1 : (longF T depth i).1 = (refF T i (min i 32768)).1 := by omega
    have f2 : (longF T depth i).2 = (refF T i (min i 32768)).2 := by
      have a1 := hb.2 (by omega)
      have a2 := hr.2 (by omega) (by omega)
      omega
    exact Prod.ext f1 f2
end Go.Proofs.YtfmbgnchedhneaaDoor
