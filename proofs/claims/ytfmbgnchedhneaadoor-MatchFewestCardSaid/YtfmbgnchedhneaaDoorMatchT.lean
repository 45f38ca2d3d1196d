/- Tokens by matches: plain laws. -/
import Derived.Test.YtfmbgnchedhneaaDoorMatchN
import Derived.Test.YtfmbgnchedhneaaDoorLz
namespace Go.Proofs.YtfmbgnchedhneaaDoor
open Go Go.Vc Go.Proofs
set_option linter.unusedVariables false
set_option linter.unusedSimpArgs false
variable {T : List UInt8}
abbrev litT (x : UInt8) : Tok := ⟨x, 0, 0⟩
abbrev matT (n d : Nat) : Tok := ⟨0, (n : Int), (d : Int)⟩
/-- how much is taken at a place: none, if one byte on there is a longer match -/
def takeN (T : List UInt8) (dp : Nat) (lazy : Bool) (i : Nat) : Nat := if 0 < (longF T dp i).1 ∧ lazy = true ∧ (longF T dp i).1 < 258 ∧ (longF T dp i).1 < (longF T dp (i + 1)).1 then 0 else (longF T dp i).1
theorem takeN_or (T : List UInt8) (dp : Nat) (lazy : Bool) (i : Nat) : takeN T dp lazy i = 0 ∨ takeN T dp lazy i = (longF T dp i).1 := by
  unfold takeN
  by_cases h : 0 < (longF T dp i).1 ∧ lazy = true ∧ (longF T dp i).1 < 258 ∧ (longF T dp i).1 < (longF T dp (i + 1)).1
  · rw [if_pos h]; exact .inl rfl
  · rw [if_neg h]; exact .inr rfl
def toksF (T : List UInt8) (dp : Nat) (lazy : Bool) : Nat → Nat → List Tok
  | 0, _ => []
  | c + 1, i => if i < T.length then (if takeN T dp lazy i = 0 then litT (T.getD i 0) :: toksF T dp lazy c (i + 1) else matT (takeN T dp lazy i) (longF T dp i).2 :: toksF T dp lazy c (i + takeN T dp lazy i)) else []
theorem toksF_end {dp : Nat} {lazy : Bool} {c i : Nat} (h : T.length ≤ i) : toksF T dp lazy c i = [] := by
  cases c with
  | zero => rfl
  | succ c =>
    show (if i < T.length then _ else []) = []
    rw [if_neg (by omega)]
theorem toksF_lit {dp : Nat} {lazy : Bool} {c i : Nat} (h : i < T.length) (h0 : takeN T dp lazy i = 0) : toksF T dp lazy (c + 1) i = litT (T.getD i 0) :: toksF T dp lazy c (i + 1) := by
  show (if i < T.length then _ else []) = _
  rw [if_pos h, if_pos h0]
theorem toksF_mat {dp : Nat} {lazy : Bool} {c i : Nat} (h : i < T.length) (h0 : takeN T dp lazy i ≠ 0) : toksF T dp lazy (c + 1) i = matT (takeN T dp lazy i) (longF T dp i).2 :: toksF T dp lazy c (i + takeN T dp lazy i) := by
  show (if i < T.length then _ else []) = _
  rw [if_pos h, if_neg h0]
/-- what a taken match is -/
theorem take_is {dp : Nat} {lazy : Bool} {i : Nat} (h : takeN T dp lazy i ≠ 0) : takeN T dp lazy i = (longF T dp i).1 ∧ 3 ≤ takeN T dp lazy i ∧ takeN T dp lazy i ≤ 258 ∧ i + takeN T dp lazy i ≤ T.length ∧ 1 ≤ (longF T dp i).2 ∧ (longF T dp i).2 ≤ i ∧ (longF T dp i).2 ≤ 32768 ∧ ∀ p, p < takeN T dp lazy i → T.getD (i - (longF T dp i).2 + p) 0 = T.getD (i + p) 0 := by
  have e : takeN T dp lazy i = (longF T dp i).1 := by
    rcases takeN_or T dp lazy i with g | g
    · exact absurd g h
    · exact g
  obtain ⟨g3, g1, g2, g4, g5⟩ := longF_is (T := T) (depth := dp) (i := i) (by omega)
  have hle := lenF_le T (i - (longF T dp i).2) i
  refine ⟨e, by omega, by omega, by omega, g1, g2, g4, fun p hp => ?_⟩
  refine sameN_eq T (min 258 (T.length - i)) _ _ p ?_
  show p < lenF T (i - (longF T dp i).2) i
  omega
theorem toksF_fuel {dp : Nat} {lazy : Bool} : ∀ (c c' i : Nat), T.length - i ≤ c → T.length - i ≤ c' → toksF T dp lazy c i = toksF T dp lazy c' i
  | 0, c', i, h1, h2 => by rw [toksF_end (by omega), toksF_end (by omega)]
  | c + 1, 0, i, h1, h2 => by rw [toksF_end (by omega), toksF_end (by omega)]
  | c + 1, c' + 1, i, h1, h2 => by
    by_cases hi : i < T.length
    · by_cases h0 : takeN T dp lazy i = 0
      · rw [toksF_lit hi h0, toksF_lit hi h0, toksF_fuel c c' (i + 1) (by omega) (by omega)]
      · rw [toksF_mat hi h0, toksF_mat hi h0, toksF_fuel c c' (i + takeN T dp lazy i) (by omega) (by omega)]
    · rw [toksF_end (by omega), toksF_end (by omega)]
theorem good_lit (x : UInt8) : goodK (litT x) = true := rfl
theorem good_mat {n d : Nat} (h1 : 3 ≤ n) (h2 : n ≤ 258) (h3 : 1 ≤ d) (h4 : d ≤ 32768) : goodK (matT n d) = true := by
  unfold goodK
  show (if (n : Int) = 0 then _ else decide ((((0 : UInt8).toNat : Nat) : Int) = 0 ∧ 3 ≤ (n : Int) ∧ (n : Int) ≤ 258 ∧ 1 ≤ (d : Int) ∧ (d : Int) ≤ 32768)) = true
  rw [if_neg (by omega), decide_eq_true_eq]
  exact ⟨rfl, by omega, by omega, by omega, by omega⟩
theorem take_snoc {i : Nat} (h : i < T.length) : T.take i ++ [T.getD i 0] = T.take (i + 1) := by
  rw [List.take_add_one, List.getD_eq_getElem?_getD, List.getElem?_eq_getElem h]; rfl
theorem copyN_text : ∀ (n i d : Nat), 1 ≤ d → d ≤ i → i + n ≤ T.length → (∀ p, p < n → T.getD (i - d + p) 0 = T.getD (i + p) 0) → copyN n (T.take i) d = T.take (i + n)
  | 0, i, d, _, _, _, _ => rfl
  | n + 1, i, d, h1, h2, h3, h4 => by
    have h0 := h4 0 (by omega)
    have hl : (T.take i).length = i := by rw [List.length_take]; omega
    have hg : (T.take i).getD ((T.take i).length - d) 0 = T.getD i 0 := by
      rw [hl, List.getD_eq_getElem?_getD, List.getElem?_take, if_pos (by omega), ← List.getD_eq_getElem?_getD]
      exact h0
    rw [copyN, hg, take_snoc (by omega), copyN_text n (i + 1) d h1 (by omega) (by omega) (fun p hp => by
      have := h4 (p + 1) (by omega)
      rw [show i + 1 - d + p = i - d + (p + 1) by omega, show i + 1 + p = i + (p + 1) by omega]
      exact this)]
    rw [show i + 1 + n = i + (n + 1) by omega]
theorem expand_lit {x : UInt8} {r : List Tok} {b : List UInt8} : expandF (litT x :: r) b = expandF r (b ++ [x]) := by
  rw [expandF, if_pos ⟨good_lit x, by show (0 : Int) ≤ _; omega⟩, if_pos (show (litT x).n = 0 from rfl)]
  rfl
theorem expand_mat {n d : Nat} {r : List Tok} {b : List UInt8} (h1 : 3 ≤ n) (h2 : n ≤ 258) (h3 : 1 ≤ d) (h4 : d ≤ 32768) (h5 : d ≤ b.length) : expandF (matT n d :: r) b = expandF r (copyN n b d) := by
  rw [expandF, if_pos ⟨good_mat h1 h2 h3 h4, by show (d : Int) ≤ _; omega⟩, if_neg (show ¬ ((n : Int) = 0) by omega)]
  rfl
theorem toksF_tells {dp : Nat} {lazy : Bool} : ∀ (c i : Nat), i ≤ T.length → T.length - i ≤ c → expandF (toksF T dp lazy c i) (T.take i) = some T
  | 0, i, hi, hc => by
    show some (T.take i) = some T
    rw [List.take_of_length_le (by omega)]
  | c + 1, i, hi, hc => by
    by_cases hl : i < T.length
    · by_cases h0 : takeN T dp lazy i = 0
      · rw [toksF_lit hl h0, expand_lit, take_snoc hl]
        exact toksF_tells c (i + 1) (by omega) (by omega)
      · obtain ⟨_, h1, h2, h3, h4, h5, h6, h7⟩ := take_is h0
        rw [toksF_mat hl h0, expand_mat h1 h2 h4 h6 (by rw [List.length_take]; omega), copyN_text _ _ _ h4 h5 h3 h7]
        exact toksF_tells c _ h3 (by omega)
    · rw [toksF_end (by omega), List.take_of_length_le (by omega)]; rfl
theorem toksF_count {dp : Nat} {lazy : Bool} : ∀ (c i : Nat), T.length - i ≤ c → (toksF T dp lazy c i).length ≤ T.length - i
  | 0, i, hc => Nat.zero_le _
  | c + 1, i, hc => by
    by_cases hl : i < T.length
    · by_cases h0 : takeN T dp lazy i = 0
      · have := toksF_count (dp := dp) (lazy := lazy) c (i + 1) (by omega)
        rw [toksF_lit hl h0, List.length_cons]
        omega
      · obtain ⟨_, h1, h2, h3, h4, h5, h6, h7⟩ := take_is h0
        have := toksF_count (dp := dp) (lazy := lazy) c (i + takeN T dp lazy i) (by omega)
        rw [toksF_mat hl h0, List.length_cons]
        omega
    · rw [toksF_end (by omega)]; exact Nat.zero_le _
theorem toksF_good {dp : Nat} {lazy : Bool} : ∀ (c i : Nat), ∀ t ∈ toksF T dp lazy c i, goodK t = true ∧ t.d ≤ 32768
  | 0, i, t, ht => by cases ht
  | c + 1, i, t, ht => by
    by_cases hl : i < T.length
    · by_cases h0 : takeN T dp lazy i = 0
      · rw [toksF_lit hl h0] at ht
        rcases List.mem_cons.1 ht with rfl | ht
        · exact ⟨good_lit _, by show (0 : Int) ≤ 32768; decide⟩
        · exact toksF_good c _ t ht
      · obtain ⟨_, h1, h2, h3, h4, h5, h6, h7⟩ := take_is h0
        rw [toksF_mat hl h0] at ht
        rcases List.mem_cons.1 ht with rfl | ht
        · exact ⟨good_mat h1 h2 h4 h6, by show ((longF T dp i).2 : Int) ≤ 32768; omega⟩
        · exact toksF_good c _ t ht
    · rw [toksF_end (by omega)] at ht; cases ht
/-- a prefix ahead doesn't matter -/
theorem copyN_ahead : ∀ (n : Nat) (p b : List UInt8) (d : Nat), 1 ≤ d → d ≤ b.length → copyN n (p ++ b) d = p ++ copyN n b d
  | 0, p, b, d, _, _ => rfl
  | n + 1, p, b, d, h1, h2 => by
    have hg : (p ++ b).getD ((p ++ b).length - d) 0 = b.getD (b.length - d) 0 := by
      rw [List.getD_eq_getElem?_getD, List.getD_eq_getElem?_getD, List.length_append, List.getElem?_append_right (by omega)]
      congr 2
      omega
    rw [copyN, hg, List.append_assoc, copyN_ahead n p _ d h1 (by rw [List.length_append]; omega), copyN]
theorem expandF_ahead : ∀ (l : List Tok) (p b x : List UInt8), expandF l b = some x → expandF l (p ++ b) = some (p ++ x)
  | [], p, b, x, h => by
    unfold expandF at h ⊢
    cases h; rfl
  | t :: r, p, b, x, h => by
    unfold expandF at h ⊢
    by_cases hc : goodK t = true ∧ t.d ≤ (b.length : Int)
    · rw [if_pos hc] at h
      rw [if_pos ⟨hc.1, by rw [List.length_append]; omega⟩]
      by_cases h0 : t.n = 0
      · rw [if_pos h0] at h ⊢
        rw [h0] at h ⊢
        have h : expandF r (b ++ [t.b]) = some x := h
        show expandF r (p ++ b ++ [t.b]) = some (p ++ x)
        rw [List.append_assoc]
        exact expandF_ahead r p _ x h
      · rw [if_neg h0] at h ⊢
        have hg := goodK_facts hc.1
        rw [copyN_ahead _ _ _ _ (by omega) (by omega)]
        exact expandF_ahead r p _ x h
    · rw [if_neg hc] at h; cases h
/-! the fewest -/
/-- the least of g 1, g 3 .. g m, and one; and which it is -/
def foldB (g : Nat → Nat) : Nat → Nat × Nat
  | 0 => (g 1 + 1, 1)
  | m + 1 => if 3 ≤ m + 1 ∧ g (m + 1) + 1 < (foldB g m).1 then (g (m + 1) + 1, m + 1) else foldB g m
theorem foldB_le (g : Nat → Nat) : ∀ m, (foldB g m).1 ≤ g 1 + 1 ∧ ∀ n, 3 ≤ n → n ≤ m → (foldB g m).1 ≤ g n + 1
  | 0 => ⟨Nat.le_refl _, fun n h1 h2 => by omega⟩
  | m + 1 => by
    obtain ⟨h1, h2⟩ := foldB_le g m
    unfold foldB
    by_cases hc : 3 ≤ m + 1 ∧ g (m + 1) + 1 < (foldB g m).1
    · rw [if_pos hc]
      refine ⟨by show g (m + 1) + 1 ≤ _; omega, fun n h3 h4 => ?_⟩
      show g (m + 1) + 1 ≤ _
      by_cases hn : n = m + 1
      · rw [hn]; exact Nat.le_refl _
      · have := h2 n h3 (by omega); omega
    · rw [if_neg hc]
      refine ⟨h1, fun n h3 h4 => ?_⟩
      by_cases hn : n = m + 1
      · subst hn; omega
      · exact h2 n h3 (by omega)
theorem foldB_is (g : Nat → Nat) : ∀ m, (foldB g m).1 = g (foldB g m).2 + 1 ∧ ((foldB g m).2 = 1 ∨ (3 ≤ (foldB g m).2 ∧ (foldB g m).2 ≤ m))
  | 0 => ⟨rfl, .inl rfl⟩
  | m + 1 => by
    obtain ⟨h1, h2⟩ := foldB_is g m
    unfold foldB
    by_cases hc : 3 ≤ m + 1 ∧ g (m + 1) + 1 < (foldB g m).1
    · rw [if_pos hc]; exact ⟨rfl, .inr ⟨hc.1, Nat.le_refl _⟩⟩
    · rw [if_neg hc]
      refine ⟨h1, ?_⟩
      rcases h2 with h2 | h2
      · exact .inl h2
      · exact .inr ⟨h2.1, by omega⟩
theorem foldB_congr {g g' : Nat → Nat} : ∀ m, g 1 = g' 1 → (∀ n, 3 ≤ n → n ≤ m → g n = g' n) → foldB g m = foldB g' m
  | 0, h1, _ => by show (g 1 + 1, 1) = (g' 1 + 1, 1); rw [h1]
  | m + 1, h1, h2 => by
    have ih := foldB_congr m h1 (fun n h3 h4 => h2 n h3 (by omega))
    unfold foldB
    by_cases h3 : 3 ≤ m + 1
    · rw [ih, h2 (m + 1) h3 (Nat.le_refl _)]
    · rw [if_neg (fun g => h3 g.1), if_neg (fun g => h3 g.1), ih]
/-- how few tokens tell the last c bytes, and all behind them: a list, from there on -/
def bestL (lens : Nat → Nat) : Nat → List Nat
  | 0 => [0]
  | c + 1 => (foldB (fun n => (bestL lens c).getD (n - 1) 0) (lens (c + 1))).1 :: bestL lens c
def bestC (lens : Nat → Nat) (c : Nat) : Nat := (bestL lens c).getD 0 0
theorem bestL_get (lens : Nat → Nat) : ∀ c j, j ≤ c → (bestL lens c).getD j 0 = bestC lens (c - j)
  | 0, j, h => by
    obtain rfl : j = 0 := by omega
    rfl
  | c + 1, 0, _ => rfl
  | c + 1, j + 1, h => by
    show ((_ :: bestL lens c) : List Nat).getD (j + 1) 0 = _
    rw [List.getD_cons_succ, bestL_get lens c j (by omega), show c + 1 - (j + 1) = c - j by omega]
theorem bestC_zero (lens : Nat → Nat) : bestC lens 0 = 0 := rfl
theorem bestC_succ (lens : Nat → Nat) (c : Nat) (h : lens (c + 1) ≤ c + 1) : bestC lens (c + 1) = (foldB (fun n => bestC lens (c + 1 - n)) (lens (c + 1))).1 := by
  show (foldB (fun n => (bestL lens c).getD (n - 1) 0) (lens (c + 1))).1 = _
  rw [foldB_congr (lens (c + 1)) (g' := fun n => bestC lens (c + 1 - n))]
  · show (bestL lens c).getD 0 0 = bestC lens c
    rfl
  · intro n h3 h4
    show (bestL lens c).getD (n - 1) 0 = bestC lens (c + 1 - n)
    rw [bestL_get lens c (n - 1) (by omega), show c - (n - 1) = c + 1 - n by omega]
theorem bestC_le (lens : Nat → Nat) (hl : ∀ c, lens c ≤ c) : ∀ c, bestC lens c ≤ c
  | 0 => Nat.le_refl _
  | c + 1 => by
    rw [bestC_succ lens c (hl _)]
    have := (foldB_le (fun n => bestC lens (c + 1 - n)) (lens (c + 1))).1
    have ih := bestC_le lens hl c
    have e : bestC lens (c + 1 - 1) = bestC lens c := by rw [Nat.add_sub_cancel]
    have this : (foldB (fun n => bestC lens (c + 1 - n)) (lens (c + 1))).1 ≤ bestC lens (c + 1 - 1) + 1 := this
    omega
/-- the longest matches of the last c bytes -/
def lensT (T : List UInt8) (c : Nat) : Nat := (longF T 1073741824 (T.length - c)).1
theorem lensT_le (T : List UInt8) (c : Nat) (hc : c ≤ T.length) : lensT T c ≤ c := by
  unfold lensT
  by_cases h0 : (longF T 1073741824 (T.length - c)).1 = 0
  · omega
  · obtain ⟨g3, g1, g2, g4, g5⟩ := longF_is h0
    have := lenF_le T (T.length - c - (longF T 1073741824 (T.length - c)).2) (T.length - c)
    omega
def lensM (T : List UInt8) (c : Nat) : Nat := if c ≤ T.length then lensT T c else 0
theorem lensM_le (T : List UInt8) (c : Nat) : lensM T c ≤ c := by
  unfold lensM
  by_cases h : c ≤ T.length
  · rw [if_pos h]; exact lensT_le T c h
  · rw [if_neg h]; omega
/-- no level has fewer -/
theorem toksF_least {dp : Nat} {lazy : Bool} (hT : T.length ≤ 1000000) : ∀ (c i : Nat), i ≤ T.length → T.length - i ≤ c → bestC (lensM T) (T.length - i) ≤ (toksF T dp lazy c i).length
  | 0, i, hi, hc => by rw [show T.length - i = 0 by omega, bestC_zero]; exact Nat.zero_le _
  | c + 1, i, hi, hc => by
    by_cases hl : i < T.length
    · obtain ⟨m, hm⟩ : ∃ m, T.length - i = m + 1 := ⟨T.length - i - 1, by omega⟩
      have hb := foldB_le (fun n => bestC (lensM T) (m + 1 - n)) (lensM T (m + 1))
      rw [hm, bestC_succ _ _ (lensM_le _ _)]
      by_cases h0 : takeN T dp lazy i = 0
      · have ih := toksF_least (dp := dp) (lazy := lazy) hT c (i + 1) (by omega) (by omega)
        rw [toksF_lit hl h0, List.length_cons]
        have := hb.1
        rw [show T.length - (i + 1) = m by omega] at ih
        have this : (foldB (fun n => bestC (lensM T) (m + 1 - n)) (lensM T (m + 1))).1 ≤ bestC (lensM T) (m + 1 - 1) + 1 := this
        rw [Nat.add_sub_cancel] at this
        omega
      · obtain ⟨h00, h1, h2, h3, h4, h5, h6, h7⟩ := take_is h0
        have ih := toksF_least (dp := dp) (lazy := lazy) hT c (i + takeN T dp lazy i) h3 (by omega)
        rw [toksF_mat hl h0, List.length_cons]
        have hlen : takeN T dp lazy i ≤ lensM T (m + 1) := by
          unfold lensM lensT
          rw [if_pos (by omega), show T.length - (m + 1) = i by omega]
          obtain ⟨g3, g1, g2, g4, g5⟩ := longF_is (T := T) (depth := dp) (i := i) (by omega)
          have := (longF_best (T := T) (depth := 1073741824) (i := i) (j := i - (longF T dp i).2) (by omega) (by omega) (by omega) (by omega)).1
          omega
        have := hb.2 _ h1 hlen
        rw [show T.length - (i + takeN T dp lazy i) = m + 1 - takeN T dp lazy i by omega] at ih
        have this : (foldB (fun n => bestC (lensM T) (m + 1 - n)) (lensM T (m + 1))).1 ≤ bestC (lensM T) (m + 1 - takeN T dp lazy i) + 1 := this
        omega
    · rw [show T.length - i = 0 by omega, bestC_zero]; exact Nat.zero_le _
/-- what is taken of the last c bytes, where as few as can be are told -/
def pickC (T : List UInt8) (c : Nat) : Nat := (foldB (fun n => bestC (lensM T) (c - n)) (lensM T c)).2
theorem pickC_or (T : List UInt8) (c : Nat) : pickC T c = 1 ∨ (3 ≤ pickC T c ∧ pickC T c ≤ lensM T c) := (foldB_is _ _).2
def fewF (T : List UInt8) : Nat → Nat → List Tok
  | 0, _ => []
  | k + 1, i => if i < T.length then (if pickC T (T.length - i) = 1 then litT (T.getD i 0) :: fewF T k (i + 1) else matT (pickC T (T.length - i)) (longF T 1073741824 i).2 :: fewF T k (i + pickC T (T.length - i))) else []
theorem fewF_end {k i : Nat} (h : T.length ≤ i) : fewF T k i = [] := by
  cases k with
  | zero => rfl
  | succ k =>
    show (if i < T.length then _ else []) = []
    rw [if_neg (by omega)]
theorem fewF_lit {k i : Nat} (h : i < T.length) (h0 : pickC T (T.length - i) = 1) : fewF T (k + 1) i = litT (T.getD i 0) :: fewF T k (i + 1) := by
  show (if i < T.length then _ else []) = _
  rw [if_pos h, if_pos h0]
theorem fewF_mat {k i : Nat} (h : i < T.length) (h0 : pickC T (T.length - i) ≠ 1) : fewF T (k + 1) i = matT (pickC T (T.length - i)) (longF T 1073741824 i).2 :: fewF T k (i + pickC T (T.length - i)) := by
  show (if i < T.length then _ else []) = _
  rw [if_pos h, if_neg h0]
theorem pick_is {i : Nat} (hi : i < T.length) (h : pickC T (T.length - i) ≠ 1) : 3 ≤ pickC T (T.length - i) ∧ pickC T (T.length - i) ≤ 258 ∧ i + pickC T (T.length - i) ≤ T.length ∧ 1 ≤ (longF T 1073741824 i).2 ∧ (longF T 1073741824 i).2 ≤ i ∧ (longF T 1073741824 i).2 ≤ 32768 ∧ ∀ p, p < pickC T (T.length - i) → T.getD (i - (longF T 1073741824 i).2 + p) 0 = T.getD (i + p) 0 := by
  rcases pickC_or T (T.length - i) with g | ⟨h3, hle⟩
  · exact absurd g h
  have hlen : lensM T (T.length - i) = (longF T 1073741824 i).1 := by
    unfold lensM lensT
    rw [if_pos (by omega), show T.length - (T.length - i) = i by omega]
  obtain ⟨g3, g1, g2, g4, g5⟩ := longF_is (T := T) (depth := 1073741824) (i := i) (by omega)
  have hl := lenF_le T (i - (longF T 1073741824 i).2) i
  refine ⟨h3, by omega, by omega, g1, g2, g4, fun p hp => ?_⟩
  refine sameN_eq T (min 258 (T.length - i)) _ _ p ?_
  show p < lenF T (i - (longF T 1073741824 i).2) i
  omega
theorem fewF_tells : ∀ (k i : Nat), i ≤ T.length → T.length - i ≤ k → expandF (fewF T k i) (T.take i) = some T ∧ (fewF T k i).length = bestC (lensM T) (T.length - i)
  | 0, i, hi, hk => by
    rw [show T.length - i = 0 by omega]
    refine ⟨?_, rfl⟩
    show some (T.take i) = some T
    rw [List.take_of_length_le (by omega)]
  | k + 1, i, hi, hk => by
    by_cases hl : i < T.length
    · obtain ⟨m, hm⟩ : ∃ m, T.length - i = m + 1 := ⟨T.length - i - 1, by omega⟩
      have hbest : bestC (lensM T) (T.length - i) = bestC (lensM T) (T.length - i - pickC T (T.length - i)) + 1 := by
        have := (foldB_is (fun n => bestC (lensM T) (T.length - i - n)) (lensM T (T.length - i))).1
        rw [hm] at this ⊢
        rw [bestC_succ _ _ (lensM_le _ _)]
        exact this
      by_cases h0 : pickC T (T.length - i) = 1
      · obtain ⟨h1, h2⟩ := fewF_tells k (i + 1) (by omega) (by omega)
        rw [fewF_lit hl h0, expand_lit, take_snoc hl, List.length_cons, h2, hbest, h0]
        exact ⟨h1, by rw [show T.length - i - 1 = T.length - (i + 1) by omega]⟩
      · obtain ⟨g1, g2, g3, g4, g5, g6, g7⟩ := pick_is hl h0
        obtain ⟨h1, h2⟩ := fewF_tells k (i + pickC T (T.length - i)) g3 (by omega)
        rw [fewF_mat hl h0, expand_mat g1 g2 g4 g6 (by rw [List.length_take]; omega), copyN_text _ _ _ g4 g5 g3 g7, List.length_cons, h2]
        exact ⟨h1, by rw [hbest, Nat.sub_sub]⟩
    · rw [fewF_end (by omega), show T.length - i = 0 by omega, List.take_of_length_le (by omega)]
      exact ⟨rfl, rfl⟩
theorem fewF_good : ∀ (k i : Nat), ∀ t ∈ fewF T k i, goodK t = true
  | 0, i, t, ht => by cases ht
  | k + 1, i, t, ht => by
    by_cases hl : i < T.length
    · by_cases h0 : pickC T (T.length - i) = 1
      · rw [fewF_lit hl h0] at ht
        rcases List.mem_cons.1 ht with rfl | ht
        · exact good_lit _
        · exact fewF_good k _ t ht
      · obtain ⟨g1, g2, g3, g4, g5, g6, g7⟩ := pick_is hl h0
        rw [fewF_mat hl h0] at ht
        rcases List.mem_cons.1 ht with rfl | ht
        · exact good_mat g1 g2 g4 g6
        · exact fewF_good k _ t ht
    · rw [fewF_end (by omega)] at ht; cases ht
/-! one byte again and again -/
theorem rep_get {b : UInt8} {n i : Nat} (h : i < n) : (List.replicate n b).getD i 0 = b := by
  rw [List.getD_eq_getElem?_getD, List.getElem?_replicate, if_pos h]; rfl
theorem rep_len {b : UInt8} {n k i : Nat} (hk : k ≤ i) (hi : i ≤ n) : lenF (List.replicate n b) k i = min 258 (n - i) := by
  unfold lenF
  rw [List.length_replicate]
  refine sameN_is (Nat.le_refl _) (fun p hp => ?_) (fun h => absurd h (Nat.lt_irrefl _))
  rw [rep_get (by omega), rep_get (by omega)]
theorem rep_long {b : UInt8} {n i dp : Nat} (hd : 0 < dp) (h1 : 1 ≤ i) (h3 : i + 3 ≤ n) : (longF (List.replicate n b) dp i).1 = min 258 (n - i) := by
  have hlp : lastP (List.replicate n b) i (hashN (List.replicate n b) i) = i := by
    obtain ⟨j, rfl⟩ : ∃ j, i = j + 1 := ⟨i - 1, by omega⟩
    show (if j + 3 ≤ (List.replicate n b).length ∧ hashN (List.replicate n b) j = hashN (List.replicate n b) (j + 1) then j + 1 else _) = _
    rw [if_pos]
    refine ⟨by rw [List.length_replicate]; omega, lenF_hash ?_⟩
    rw [rep_len (by omega) (by omega)]; omega
  have hf := longF_first (T := List.replicate n b) (depth := dp) (i := i) hd (by rw [List.length_replicate]; omega) (by rw [hlp]; omega) (by rw [hlp]; omega) (by rw [hlp, rep_len (by omega) (by omega)]; omega)
  rw [hlp, rep_len (by omega) (by omega)] at hf
  obtain ⟨g3, g1, g2, g4, g5⟩ := longF_is (T := List.replicate n b) (depth := dp) (i := i) (by omega)
  have := lenF_le (List.replicate n b) (i - (longF (List.replicate n b) dp i).2) i
  rw [List.length_replicate] at this
  omega
theorem short_long {dp i : Nat} (h : T.length < i + 3) : longF T dp i = (0, 0) := by
  unfold longF
  rw [if_pos h]
theorem rep_take {b : UInt8} {n i dp : Nat} {lazy : Bool} (hd : 0 < dp) (h1 : 1 ≤ i) (h3 : i + 3 ≤ n) : takeN (List.replicate n b) dp lazy i = min 258 (n - i) := by
  have hl := rep_long (b := b) hd h1 h3
  unfold takeN
  rw [hl, if_neg]
  rintro ⟨_, _, g1, g2⟩
  by_cases h4 : i + 1 + 3 ≤ n
  · rw [rep_long hd (by omega) h4] at g2
    omega
  · rw [short_long (by rw [List.length_replicate]; omega)] at g2
    have g2 : min 258 (n - i) < 0 := g2
    omega
theorem rep_count {b : UInt8} {n dp : Nat} {lazy : Bool} (hd : 0 < dp) : ∀ (c i : Nat), 1 ≤ i → n - i ≤ c → (toksF (List.replicate n b) dp lazy c i).length ≤ (n - i) / 258 + 2
  | 0, i, h1, hc => Nat.zero_le _
  | c + 1, i, h1, hc => by
    have hlen : (List.replicate n b).length = n := List.length_replicate ..
    by_cases hl : i < n
    · by_cases h3 : i + 3 ≤ n
      · have ht := rep_take (b := b) (lazy := lazy) hd h1 h3
        rw [toksF_mat (by omega) (by omega), ht, List.length_cons]
        by_cases h258 : 258 ≤ n - i
        · have ih := rep_count (b := b) (n := n) (lazy := lazy) hd c (i + min 258 (n - i)) (by omega) (by omega)
          rw [show n - (i + min 258 (n - i)) = n - i - 258 by omega] at ih
          omega
        · rw [toksF_end (by rw [hlen]; omega)]
          show 0 + 1 ≤ _
          omega
      · have := toksF_count (T := List.replicate n b) (dp := dp) (lazy := lazy) (c + 1) i (by rw [hlen]; omega)
        rw [hlen] at this
        omega
    · rw [toksF_end (by rw [hlen]; omega)]; exact Nat.zero_le _
theorem rep_few {b : UInt8} {n dp c : Nat} {lazy : Bool} (hd : 0 < dp) (hn : 1 ≤ n) (hc : n ≤ c) : (toksF (List.replicate n b) dp lazy c 0).length ≤ 3 + n / 258 := by
  have hlen : (List.replicate n b).length = n := List.length_replicate ..
  obtain ⟨c, rfl⟩ : ∃ c', c = c' + 1 := ⟨c - 1, by omega⟩
  have h0 : takeN (List.replicate n b) dp lazy 0 = 0 := by
    rcases takeN_or (List.replicate n b) dp lazy 0 with g | g
    · exact g
    · by_cases hz : takeN (List.replicate n b) dp lazy 0 = 0
      · exact hz
      · obtain ⟨_, _, _, _, h4, h5, _⟩ := take_is hz
        omega
  rw [toksF_lit (by omega) h0, List.length_cons]
  have := rep_count (b := b) (lazy := lazy) hd c (0 + 1) (by omega) (by omega) (n := n)
  omega
end Go.Proofs.YtfmbgnchedhneaaDoor
