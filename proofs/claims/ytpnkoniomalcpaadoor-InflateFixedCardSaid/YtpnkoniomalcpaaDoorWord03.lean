/- The contracts of Word and Lengths; the law's speaks; words begin no other ones. -/
import Derived.Test.YtpnkoniomalcpaaDoorNew03
namespace Go.Proofs.YtpnkoniomalcpaaDoor
-- only what is there
open Go Go.Vc Go.Proofs
set_option linter.unusedVariables false
set_option linter.unusedSimpArgs false
variable {H : Heap} {R : Value → Heap → Prop} {v : Value} {zs : List Int}
/-- a symbol's word, of any number: as a tuple of numbers -/
def wordP (ls : List Nat) (i : Int) : Nat × Nat := if 0 ≤ i ∧ i < ls.length then (revN (codeL ls i.toNat) (ls.getD i.toNat 0), ls.getD i.toNat 0) else (0, 0)
theorem wordsV_len (ls : List Nat) : (wordsV ls).length = ls.length * 2 := by
  unfold wordsV
  rw [flat_len (n := 2) _ (by intro r hr; obtain ⟨s, _, rfl⟩ := List.mem_map.1 hr; rfl), List.length_map, List.length_range]
theorem flat_cell {n : Nat} {L : List (List Value)} {i j : Nat} {r : List Value} (hl : ∀ r ∈ L, r.length = n) (hi : L[i]? = some r) (hj : j < n) : L.flatten[i * n + j]? = r[j]? := by
  have hil := (List.getElem?_eq_some_iff.1 hi).1
  have hir := (List.getElem?_eq_some_iff.1 hi).2
  have e : L = L.take i ++ r :: L.drop (i + 1) := by rw [← hir, ← List.drop_eq_getElem_cons hil, List.take_append_drop]
  have hp : (L.take i).flatten.length = i * n := by
    rw [flat_len (L.take i) (fun x hx => hl x (List.mem_of_mem_take hx)), List.length_take, Nat.min_eq_left (by omega)]
  have hr : r.length = n := by rw [← hir]; exact hl _ (List.getElem_mem hil)
  rw [e, List.flatten_append, List.flatten_cons, List.getElem?_append_right (by omega), List.getElem?_append_left (by omega)]
  congr 1
  omega
theorem wordsV_at {ls : List Nat} {s j : Nat} (h : s < ls.length) (hj : j < 2) : (wordsV ls)[s * 2 + j]? = (wordV ls s)[j]? :=
  flat_cell (by intro r hr; obtain ⟨s, _, rfl⟩ := List.mem_map.1 hr; rfl) (by rw [List.getElem?_map, List.getElem?_range h]; rfl) hj
/-! ### no word begins another one -/
theorem revN_low (v k : Nat) : ∀ n, revN v (k + n) % 2 ^ n = revN (v / 2 ^ k) n
  | 0 => by rw [Nat.pow_zero, Nat.mod_one]; rfl
  | n + 1 => by
    have ih := revN_low v k n
    rw [← Nat.add_assoc, revN, revN, ← ih, Nat.div_div_eq_div_mul, ← Nat.pow_add, Nat.pow_succ]
    have h2 : v / 2 ^ (k + n) % 2 < 2 := Nat.mod_lt _ (by decide)
    generalize v / 2 ^ (k + n) % 2 = c at *
    generalize revN v (k + n) = x at *
    generalize 2 ^ n = P at *
    have e : (2 * x + c) % (2 * P) = c + 2 * (x % P) := by rw [Nat.mod_mul, show (2 * x + c) % 2 = c by omega, show (2 * x + c) / 2 = x by omega]
    rw [Nat.mul_comm P 2, e]
    omega
theorem revN_inj {a b : Nat} : ∀ {n : Nat}, revN a n = revN b n → a % 2 ^ n = b % 2 ^ n
  | 0, _ => by rw [Nat.pow_zero, Nat.mod_one, Nat.mod_one]
  | n + 1, h => by
    rw [revN, revN] at h
    have h1 : a / 2 ^ n % 2 < 2 := Nat.mod_lt _ (by decide)
    have h2 : b / 2 ^ n % 2 < 2 := Nat.mod_lt _ (by decide)
    have ih := revN_inj (a := a) (b := b) (n := n) (by omega)
    rw [Nat.mod_pow_succ, Nat.mod_pow_succ, ih]
    congr 2
    omega
theorem endC_pow {ls : List Nat} (h : shareL ls 15 ≤ 32768) {n : Nat} (hn : n ≤ 15) : endC ls n ≤ 2 ^ n := by
  have h15 := leftC_share ls
  rcases Int.lt_or_le (leftC ls n) 0 with g | g
  · have := leftC_neg ls g hn
    omega
  · unfold leftC at g
    omega
theorem code_pow {ls : List Nat} (h : shareL ls 15 ≤ 32768) (hle : ∀ k ∈ ls, k ≤ 15) {s : Nat} (hs : s < ls.length) (h1 : 1 ≤ ls.getD s 0) : codeL ls s < 2 ^ ls.getD s 0 := by
  have hg : ls.getD s 0 = ls[s] := by rw [List.getD_eq_getElem?_getD, List.getElem?_eq_getElem hs]; rfl
  exact Nat.lt_of_lt_of_le (code_lt hs h1) (endC_pow h (by rw [hg]; exact hle _ (List.getElem_mem hs)))
theorem word_apart {ls : List Nat} (h : shareL ls 15 ≤ 32768) (hle : ∀ k ∈ ls, k ≤ 15) {s t : Nat} (hs : s < ls.length) (ht : t < ls.length) (hne : s ≠ t) (h1 : 1 ≤ ls.getD s 0) (h2 : ls.getD s 0 ≤ ls.getD t 0) :
    revN (codeL ls s) (ls.getD s 0) ≠ revN (codeL ls t) (ls.getD t 0) % 2 ^ ls.getD s 0 := by
  intro he
  have hc := code_pow h hle hs h1
  have hd := code_pow h hle ht (by omega)
  have e : ls.getD t 0 = (ls.getD t 0 - ls.getD s 0) + ls.getD s 0 := by omega
  rw [e, revN_low] at he
  have he := revN_inj he
  rw [Nat.mod_eq_of_lt hc] at he
  have hq : codeL ls t / 2 ^ (ls.getD t 0 - ls.getD s 0) < 2 ^ ls.getD s 0 := by
    rw [Nat.div_lt_iff_lt_mul (Nat.two_pow_pos _), ← Nat.pow_add, Nat.add_comm, ← e]
    exact hd
  rw [Nat.mod_eq_of_lt hq] at he
  rcases Nat.lt_or_eq_of_le h2 with g | g
  · exact apart_longer hs ht h1 g he.symm
  · rw [g, Nat.sub_self, Nat.pow_zero, Nat.div_one] at he
    exact code_inj hs ht hne g he
theorem ok_le (hz : okZ zs) : ∀ k ∈ natL zs, k ≤ 15 := fun k hk => by
  obtain ⟨z, hz', rfl⟩ := List.mem_map.1 hk
  have := hz.2 z hz'
  omega
theorem why_share {loose : Bool} (hz : okZ zs) (h : whyL zs loose = 0) : shareL (natL zs) 15 ≤ 32768 := by
  rw [why_ok hz] at h
  split at h
  · cases h
  · omega
theorem wordP_in {ls : List Nat} {k : Nat} (h : k < ls.length) : wordP ls (k : Int) = (revN (codeL ls k) (ls.getD k 0), ls.getD k 0) := if_pos (by omega)
theorem getD_le {ls : List Nat} (hle : ∀ k ∈ ls, k ≤ 15) (k : Nat) : ls.getD k 0 ≤ 15 := by
  rcases Nat.lt_or_ge k ls.length with h | h
  · have hg : ls.getD k 0 = ls[k] := by rw [List.getD_eq_getElem?_getD, List.getElem?_eq_getElem h]; rfl
    rw [hg]; exact hle _ (List.getElem_mem h)
  · rw [List.getD_eq_getElem?_getD, List.getElem?_eq_none h]; exact Nat.zero_le _
end Go.Proofs.YtpnkoniomalcpaaDoor
