/- Slices of numbers that come in, as lists. -/
import Derived.Test.YtpnkoniomalcpaaDoorVcLib
namespace Go.Vc
open Go
set_option linter.unusedVariables false
set_option linter.unusedSimpArgs false
def numsV (l : List Int) : List Value := l.map fun z => .int .i64 z
theorem numsV_len (l : List Int) : (numsV l).length = l.length := by simp [numsV]
theorem numsV_one {l : List Int} : (numsV l).all oneCell = true := by simp [numsV, oneCell]
theorem numsV_get {l : List Int} {i : Nat} (h : i < l.length) : (numsV l)[i]? = some (.int .i64 l[i]) := by unfold numsV; rw [List.getElem?_map, List.getElem?_eq_getElem h]; rfl
theorem numsV_append (l m : List Int) : numsV (l ++ m) = numsV l ++ numsV m := by simp [numsV]
theorem numsV_take (l : List Int) (n : Nat) : (numsV l).take n = numsV (l.take n) := by unfold numsV; rw [List.map_take]
theorem numsV_drop (l : List Int) (n : Nat) : (numsV l).drop n = numsV (l.drop n) := by unfold numsV; rw [List.map_drop]
theorem numsV_set (l : List Int) (i : Nat) (z : Int) : (numsV l).set i (.int .i64 z) = numsV (l.set i z) := by unfold numsV; rw [List.map_set]
theorem numsV_rep (n : Nat) : List.replicate n (Value.int .i64 0) = numsV (List.replicate n 0) := by simp [numsV]
/-- a slice of numbers that came in -/
theorem int_rows {H : Heap} {a : Option Addr} {len cap : Nat} {zs : List Int} (h : IntRow .i64 H a len cap zs) : ∃ l : List Int, l.length = len ∧ len ≤ maxLen ∧ (∀ z ∈ l, -9223372036854775808 ≤ z ∧ z ≤ 9223372036854775807) ∧ Sl H (.slice a len cap) 1 (numsV l) := by
  refine ⟨zs.take len, ?_, h.len_max, ?_, ?_⟩
  · rw [List.length_take]; have := h.len_le; omega
  · intro z hz
    obtain ⟨i, hi⟩ := List.getElem?_of_mem hz
    rw [List.getElem?_take] at hi
    split at hi
    · rename_i hlt
      have hw := h.wf hlt
      rw [List.getD_eq_getElem?_getD, hi] at hw
      exact wf64 hw
    · cases hi
  · rcases h with ⟨rfl, rfl, rfl, rfl⟩ | ⟨x, rfl, hl, _, hz, hc, hw⟩
    · exact .inl ⟨rfl, rfl⟩
    · refine .inr ⟨x, len, cap, rfl, by rw [numsV_len, List.length_take]; omega, hl, fun i v hv => ?_⟩
      have hi : i < (zs.take len).length := by have := (List.getElem?_eq_some_iff.1 hv).1; rwa [numsV_len] at this
      rw [numsV_get hi, Option.some.injEq] at hv
      rw [List.length_take] at hi
      rw [hc i (by omega), ← hv, List.getD_eq_getElem?_getD, List.getElem?_eq_getElem (by omega), List.getElem_take]
      rfl
end Go.Vc
