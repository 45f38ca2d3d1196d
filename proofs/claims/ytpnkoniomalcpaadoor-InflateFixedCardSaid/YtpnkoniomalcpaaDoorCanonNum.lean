/- The numbers of a canonical code: counts, the words' numbers, shares: plain laws. -/
import Derived.Test.YtpnkoniomalcpaaDoorBitList
namespace Go.Proofs.YtpnkoniomalcpaaDoor
open Go Go.Vc Go.Proofs
set_option linter.unusedVariables false
set_option linter.unusedSimpArgs false
/-- how many of these lengths are n -/
def cntL (ls : List Nat) (n : Nat) : Nat := ls.countP fun k => decide (k = n)
/-- the number behind the last word of length n -/
def endC (ls : List Nat) : Nat → Nat
  | 0 => 0
  | n + 1 => 2 * endC ls n + cntL ls (n + 1)
/-- the first word of length n -/
def startC (ls : List Nat) (n : Nat) : Nat := 2 * endC ls (n - 1)
theorem endC_start (ls : List Nat) {n : Nat} (hn : 1 ≤ n) : endC ls n = startC ls n + cntL ls n := by
  obtain ⟨m, rfl⟩ : ∃ m, n = m + 1 := ⟨n - 1, by omega⟩
  rfl
/-- what is left at length n: below 0: too many words -/
def leftC (ls : List Nat) (n : Nat) : Int := ((2 ^ n : Nat) : Int) - (endC ls n : Int)
theorem leftC_succ (ls : List Nat) (n : Nat) : leftC ls (n + 1) = 2 * leftC ls n - (cntL ls (n + 1) : Int) := by
  unfold leftC
  rw [endC, Nat.pow_succ]
  omega
theorem leftC_neg (ls : List Nat) {n m : Nat} (h : leftC ls n < 0) (hm : n ≤ m) : leftC ls m < 0 := by
  induction m with
  | zero => have : n = 0 := by omega
            subst this; exact h
  | succ m ih =>
    by_cases he : n = m + 1
    · subst he; exact h
    · have := ih (by omega)
      rw [leftC_succ]; omega
/-- the share of 2^m that lengths up to m take -/
def shareL (ls : List Nat) (m : Nat) : Nat := (ls.map fun k => if 1 ≤ k ∧ k ≤ m then 2 ^ (m - k) else 0).sum
theorem cntL_cons (k : Nat) (ls : List Nat) (n : Nat) : cntL (k :: ls) n = cntL ls n + (if k = n then 1 else 0) := by
  unfold cntL
  rw [List.countP_cons]
  simp
theorem cntL_append (a b : List Nat) (n : Nat) : cntL (a ++ b) n = cntL a n + cntL b n := by unfold cntL; rw [List.countP_append]
theorem endC_cons (k : Nat) (ls : List Nat) : ∀ n, endC (k :: ls) n = endC ls n + (if 1 ≤ k ∧ k ≤ n then 2 ^ (n - k) else 0)
  | 0 => by rw [if_neg (by omega)]; rfl
  | n + 1 => by
    rw [endC, endC_cons k ls n, cntL_cons, endC]
    by_cases h1 : k = n + 1
    · subst h1
      rw [if_neg (by omega), if_pos rfl, if_pos (by omega), Nat.sub_self]; simp; omega
    · rw [if_neg h1]
      by_cases h2 : 1 ≤ k ∧ k ≤ n
      · rw [if_pos h2, if_pos (by omega), show n + 1 - k = (n - k) + 1 by omega, Nat.pow_succ]; omega
      · rw [if_neg h2, if_neg (by omega)]; omega
theorem endC_share (ls : List Nat) (n : Nat) : endC ls n = shareL ls n := by
  induction ls with
  | nil =>
    induction n with
    | zero => rfl
    | succ n ih => rw [endC, ih]; rfl
  | cons k ls ih => rw [endC_cons, ih]; unfold shareL; rw [List.map_cons, List.sum_cons]; omega
/-- how many of the same length stand ahead of a symbol -/
def rankL (ls : List Nat) (s : Nat) : Nat := cntL (ls.take s) (ls.getD s 0)
/-- a symbol's word, as a number of as many bits as its length -/
def codeL (ls : List Nat) (s : Nat) : Nat := startC ls (ls.getD s 0) + rankL ls s
theorem rank_lt {ls : List Nat} {s : Nat} (hs : s < ls.length) : rankL ls s < cntL ls (ls.getD s 0) := by
  unfold rankL
  have e : ls = ls.take s ++ ls[s] :: ls.drop (s + 1) := by rw [← List.drop_eq_getElem_cons hs, List.take_append_drop]
  have hg : ls.getD s 0 = ls[s] := by rw [List.getD_eq_getElem?_getD, List.getElem?_eq_getElem hs]; rfl
  rw [hg]
  generalize ls[s] = x at e
  have h2 := congrArg (fun l => cntL l x) e
  simp only [cntL_append, cntL_cons, if_true] at h2
  omega
theorem code_lt {ls : List Nat} {s : Nat} (hs : s < ls.length) (h1 : 1 ≤ ls.getD s 0) : codeL ls s < endC ls (ls.getD s 0) := by
  rw [endC_start _ h1]
  unfold codeL
  have := rank_lt hs
  omega
/-- a word of a lesser length ends ahead of the longer ones -/
theorem endC_shift (ls : List Nat) {n m : Nat} (h : n ≤ m) : endC ls n * 2 ^ (m - n) ≤ endC ls m := by
  induction m with
  | zero => have : n = 0 := by omega
            subst this; simp
  | succ m ih =>
    by_cases he : n = m + 1
    · subst he; rw [Nat.sub_self]; simp
    · have := ih (by omega)
      rw [show m + 1 - n = (m - n) + 1 by omega, Nat.pow_succ, endC]
      have e : endC ls n * (2 ^ (m - n) * 2) = 2 * (endC ls n * 2 ^ (m - n)) := by rw [← Nat.mul_assoc, Nat.mul_comm]
      rw [e]; omega
theorem startC_shift (ls : List Nat) {n m : Nat} (h : n < m) : endC ls n * 2 ^ (m - n) ≤ startC ls m := by
  unfold startC
  have := endC_shift ls (n := n) (m := m - 1) (by omega)
  rw [show m - n = (m - 1 - n) + 1 by omega, Nat.pow_succ]
  have e : endC ls n * (2 ^ (m - 1 - n) * 2) = 2 * (endC ls n * 2 ^ (m - 1 - n)) := by rw [← Nat.mul_assoc, Nat.mul_comm]
  rw [e]; omega
/-- no word begins another one: the first n bits of a longer word are beyond every word of length n -/
theorem apart_longer {ls : List Nat} {s t : Nat} (hs : s < ls.length) (ht : t < ls.length) (h1 : 1 ≤ ls.getD s 0) (hlt : ls.getD s 0 < ls.getD t 0) :
    codeL ls t / 2 ^ (ls.getD t 0 - ls.getD s 0) ≠ codeL ls s := by
  have h := code_lt hs h1
  have hst := startC_shift ls hlt
  have hc : startC ls (ls.getD t 0) ≤ codeL ls t := by unfold codeL; omega
  have hp : 0 < 2 ^ (ls.getD t 0 - ls.getD s 0) := Nat.two_pow_pos _
  have : endC ls (ls.getD s 0) ≤ codeL ls t / 2 ^ (ls.getD t 0 - ls.getD s 0) := (Nat.le_div_iff_mul_le hp).2 (by omega)
  omega
theorem rank_lt_rank {ls : List Nat} {s t : Nat} (hst : s < t) (ht : t < ls.length) (he : ls.getD s 0 = ls.getD t 0) : rankL ls s < rankL ls t := by
  unfold rankL
  rw [he]
  have hs : s < ls.length := by omega
  have hg : ls.getD s 0 = ls[s] := by rw [List.getD_eq_getElem?_getD, List.getElem?_eq_getElem hs]; rfl
  have e : ls.take t = ls.take s ++ ls[s] :: (ls.take t).drop (s + 1) := by
    have h1 : (ls.take t).take s = ls.take s := by rw [List.take_take, Nat.min_eq_left (by omega)]
    have h2 : s < (ls.take t).length := by rw [List.length_take]; omega
    have h3 := List.take_append_drop s (ls.take t)
    rw [h1, List.drop_eq_getElem_cons h2, List.getElem_take] at h3
    exact h3.symm
  rw [e, cntL_append, cntL_cons, if_pos (by rw [← hg, he])]
  omega
theorem code_inj {ls : List Nat} {s t : Nat} (hs : s < ls.length) (ht : t < ls.length) (hne : s ≠ t) (he : ls.getD s 0 = ls.getD t 0) : codeL ls s ≠ codeL ls t := by
  unfold codeL
  rw [he]
  rcases Nat.lt_or_gt_of_ne hne with h | h
  · have := rank_lt_rank h ht he; omega
  · have := rank_lt_rank h hs he.symm; omega
end Go.Proofs.YtpnkoniomalcpaaDoor
