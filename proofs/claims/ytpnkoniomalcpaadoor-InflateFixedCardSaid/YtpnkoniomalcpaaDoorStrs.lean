/- Slices of texts that come in. -/
import Derived.Test.YtpnkoniomalcpaaDoorVcLib
namespace Go.Vc
open Go
set_option linter.unusedVariables false
set_option linter.unusedSimpArgs false
def txtsV (l : List (List UInt8)) : List Value := l.map fun s => str s
theorem txtsV_len (l : List (List UInt8)) : (txtsV l).length = l.length := by simp [txtsV]
theorem txtsV_one {l : List (List UInt8)} : (txtsV l).all oneCell = true := by simp [txtsV, oneCell]
theorem txtsV_get {l : List (List UInt8)} {i : Nat} (h : i < l.length) : (txtsV l)[i]? = some (str l[i]) := by unfold txtsV; rw [List.getElem?_map, List.getElem?_eq_getElem h]; rfl
theorem txtsV_append (l m : List (List UInt8)) : txtsV (l ++ m) = txtsV l ++ txtsV m := by simp [txtsV]
theorem txtsV_take (l : List (List UInt8)) (n : Nat) : (txtsV l).take n = txtsV (l.take n) := by unfold txtsV; rw [List.map_take]
theorem txtsV_drop (l : List (List UInt8)) (n : Nat) : (txtsV l).drop n = txtsV (l.drop n) := by unfold txtsV; rw [List.map_drop]
/-- a slice of texts that came in -/
theorem str_rows {H : Heap} {a : Option Addr} {len cap : Nat} (h : StructRow [.string] H a len cap) : ∃ L : List (List UInt8), L.length = len ∧ len ≤ maxLen ∧ (∀ s ∈ L, s.length ≤ maxLen) ∧ Sl H (.slice a len cap) 1 (txtsV L) := by
  obtain ⟨T, hTl, hTm, hT1, hT2, hS⟩ := h.rows (by decide)
  have hrow : ∀ r ∈ T, ∃ s : List UInt8, r = [str s] ∧ s.length ≤ maxLen := by
    intro r hr
    have hl := hT1 r hr
    match r, hl, hT2 r hr with
    | [x], _, hf =>
      obtain ⟨_, h0, s, rfl, hs⟩ := hf 0 _ rfl
      simp at h0
      exact ⟨s, by rw [h0], hs⟩
  have hall : ∃ L : List (List UInt8), T.flatten = txtsV L ∧ L.length = T.length ∧ ∀ s ∈ L, s.length ≤ maxLen := by
    clear hS hT1 hT2 hTl
    induction T with
    | nil => exact ⟨[], rfl, rfl, by simp⟩
    | cons r T ih =>
      obtain ⟨s, rfl, hs⟩ := hrow r (by simp)
      obtain ⟨L, h1, h2, h3⟩ := ih (fun r hr => hrow r (by simp [hr]))
      exact ⟨s :: L, by rw [List.flatten_cons, h1]; rfl, by simp [h2], fun x hx => by
        rcases List.mem_cons.1 hx with rfl | hx
        · exact hs
        · exact h3 x hx⟩
  obtain ⟨L, hTL, hLl, hLm⟩ := hall
  rw [hTL] at hS
  exact ⟨L, hLl.trans hTl, hTm, hLm, hS⟩
end Go.Vc
