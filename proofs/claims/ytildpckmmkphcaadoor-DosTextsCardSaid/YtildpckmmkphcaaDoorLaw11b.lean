/- The law DosPacks over heaps. -/
import Derived.Test.YtildpckmmkphcaaDoorDosNum
import Derived.Test.YtildpckmmkphcaaDoorLaw11
import Derived.Test.YtildpckmmkphcaaDoorVcLib
namespace Go.Proofs.YtildpckmmkphcaaDoor
-- only what is there
open Go Go.Vc Go.Proofs
set_option linter.unusedVariables false
set_option linter.unusedSimpArgs false
variable {H : Heap} {R : Value → Heap → Prop}
theorem dates {t : T6} (h : goodB t = true) : dateI t = t.d + 32 * t.m + 512 * (t.y - 1980) ∧ timeI t = t.s / 2 + 32 * t.n + 2048 * t.h ∧ 0 ≤ dateI t ∧ dateI t < 65536 ∧ 0 ≤ timeI t ∧ timeI t < 65536 ∧ unT (dateI t) (timeI t) = t := by
  obtain ⟨hy0, hy1, hm0, hm1, hd0, hd1, hh0, hh1, hn0, hn1, hs0, hs1, hs2⟩ := good_facts h
  have hb := days_bounds t.y t.m
  have e1 : dateI t = t.d + 32 * t.m + 512 * (t.y - 1980) := by
    unfold dateI
    rw [w64 (n := t.m * 2 ^ 5) (by omega) (by omega), or_low (k := 5) (by omega) (by omega) (by omega) (by omega), w64 (n := t.y - 1980) (by omega) (by omega), w64 (by omega) (by omega), or_low (k := 9) (by omega) (by omega) (by omega) (by omega), wu64 (by omega) (by omega)]
    omega
  have e2 : timeI t = t.s / 2 + 32 * t.n + 2048 * t.h := by
    unfold timeI
    rw [Int.tdiv_eq_ediv_of_nonneg hs0, w64 (n := t.s / 2) (by omega) (by omega), w64 (n := t.n * 2 ^ 5) (by omega) (by omega), or_low (k := 5) (by omega) (by omega) (by omega) (by omega), w64 (by omega) (by omega), or_low (k := 11) (by omega) (by omega) (by omega) (by omega), wu64 (by omega) (by omega)]
    omega
  refine ⟨e1, e2, by omega, by omega, by omega, by omega, ?_⟩
  rw [e1, e2]
  obtain ⟨y, m, d, hr, n, s⟩ := t
  simp only [unT, T6.mk.injEq]
  dsimp only at *
  exact ⟨by omega, by omega, by omega, by omega, by omega, by omega⟩
theorem six {ds : List TypeDesc} {l : List Value} (hd : ds = [.int .i64, .int .i64, .int .i64, .int .i64, .int .i64, .int .i64]) (hl : l.length = 6) (hf : FitAll ds fun j => l[j]?) : ∃ t : T6, l.toArray = t.cells := by
  subst hd
  match l, hl with
  | [a, b, c, d, e, f], _ =>
    obtain ⟨_, h0, x0, rfl, _⟩ := hf 0 _ rfl
    obtain ⟨_, h1, x1, rfl, _⟩ := hf 1 _ rfl
    obtain ⟨_, h2, x2, rfl, _⟩ := hf 2 _ rfl
    obtain ⟨_, h3, x3, rfl, _⟩ := hf 3 _ rfl
    obtain ⟨_, h4, x4, rfl, _⟩ := hf 4 _ rfl
    obtain ⟨_, h5, x5, rfl, _⟩ := hf 5 _ rfl
    refine ⟨⟨x0, x1, x2, x3, x4, x5⟩, ?_⟩
    simp at h0 h1 h2 h3 h4 h5
    simp [*]
end Go.Proofs.YtildpckmmkphcaaDoor
