/- Bytes copied one by one from a distance back. -/
import Derived.Test.YtpnkoniomalcpaaDoorVcLib
namespace Go.Proofs.YtpnkoniomalcpaaDoor
open Go Go.Vc Go.Proofs
set_option linter.unusedVariables false
set_option linter.unusedSimpArgs false
/-- n bytes copied, one by one -/
def copyN : Nat → List UInt8 → Nat → List UInt8
  | 0, b, _ => b
  | k + 1, b, d => copyN k (b ++ [b.getD (b.length - d) 0]) d
theorem copyN_end : ∀ (k : Nat) (b : List UInt8) (d : Nat), copyN (k + 1) b d = copyN k b d ++ [(copyN k b d).getD ((copyN k b d).length - d) 0]
  | 0, b, d => rfl
  | k + 1, b, d => by
    rw [copyN, copyN_end k, ← copyN]
theorem copyN_len : ∀ (k : Nat) (b : List UInt8) (d : Nat), (copyN k b d).length = b.length + k
  | 0, b, d => rfl
  | k + 1, b, d => by rw [copyN, copyN_len k]; simp; omega
theorem map_getD (l : List UInt8) (i : Nat) (h : i < l.length) : (l.map byteV)[i]? = some (byteV (l.getD i 0)) := by
  rw [List.getElem?_map, List.getElem?_eq_getElem h, List.getD_eq_getElem?_getD, List.getElem?_eq_getElem h]; rfl
/-- the bytes before stay -/
theorem copyN_pre : ∀ (k : Nat) (b : List UInt8) (d : Nat), ∃ t, copyN k b d = b ++ t ∧ t.length = k
  | 0, b, d => ⟨[], by simp [copyN], rfl⟩
  | k + 1, b, d => by
    obtain ⟨t, h1, h2⟩ := copyN_pre k (b ++ [b.getD (b.length - d) 0]) d
    exact ⟨b.getD (b.length - d) 0 :: t, by rw [copyN, h1]; simp, by simp [h2]⟩
theorem copyN_take (k : Nat) (b : List UInt8) (d : Nat) : (copyN k b d).take b.length = b := by
  obtain ⟨t, h1, h2⟩ := copyN_pre k b d
  rw [h1]; simp
/-- each copied byte is the one that far back -/
theorem copyN_at : ∀ (k : Nat) (b : List UInt8) (d : Nat), 1 ≤ d → d ≤ b.length → ∀ i, b.length ≤ i → i < b.length + k → (copyN k b d)[i]? = (copyN k b d)[i - d]?
  | 0, b, d, h1, h2, i, hi, hk => by omega
  | k + 1, b, d, h1, h2, i, hi, hk => by
    rw [copyN_end]
    have hl := copyN_len k b d
    by_cases he : i = b.length + k
    · subst he
      rw [List.getElem?_append_right (by omega), List.getElem?_append_left (by omega), hl, Nat.sub_self, List.getElem?_cons_zero, List.getD_eq_getElem?_getD]
      rw [List.getElem?_eq_getElem (by omega)]
      rfl
    · rw [List.getElem?_append_left (by omega), List.getElem?_append_left (by omega)]
      exact copyN_at k b d h1 h2 i hi (by omega)
end Go.Proofs.YtpnkoniomalcpaaDoor
