/- Small facts for laws: pairs of numbers, places by remainders. -/
import Derived.Test.YtpnkoniomalcpaaDoorVcLib
namespace Go.Vc
open Go
set_option linter.unusedVariables false
set_option linter.unusedSimpArgs false
theorem fit2 {l : List Value} (hl : l.length = 2) (hf : FitAll (List.replicate 2 (.int .i64)) fun j => l[j]?) : ∃ a b : Int, l = [.int .i64 a, .int .i64 b] := by
  match l, hl with
  | [x, y], _ =>
    obtain ⟨_, h0, x0, rfl, k0⟩ := hf 0 _ rfl
    obtain ⟨_, h1, x1, rfl, k1⟩ := hf 1 _ rfl
    simp at h0 h1
    exact ⟨x0, x1, by rw [h0, h1]⟩
theorem mod_pick {z n : Int} (hn : 0 < n) : 0 ≤ (z.tmod n + n).tmod n ∧ (z.tmod n + n).tmod n < n := by
  have h1 : -n < z.tmod n := by
    have := Int.lt_tmod_of_pos z hn
    omega
  have h2 := Int.tmod_lt_of_pos z hn
  rw [Int.tmod_eq_emod_of_nonneg (by omega)]
  exact ⟨Int.emod_nonneg _ (by omega), Int.emod_lt_of_pos _ hn⟩
theorem tmod_range {z n : Int} (hn : 0 < n) : -n < z.tmod n ∧ z.tmod n < n := ⟨by have := Int.lt_tmod_of_pos z hn; omega, Int.tmod_lt_of_pos z hn⟩
end Go.Vc
