/- Numbers as bytes, the lowest first. -/
import Derived.Test.YtpnkoniomalcpaaDoorVcLib
namespace Go.Vc
open Go
set_option linter.unusedVariables false
set_option linter.unusedSimpArgs false
/-- a number's bytes -/
def putN (n : Nat) (k : Nat) : List UInt8 := (List.range k).map fun i => UInt8.ofNat (n / 256 ^ i % 256)
def getN : List UInt8 → Nat
  | [] => 0
  | b :: l => b.toNat + 256 * getN l
theorem putN_len (n k : Nat) : (putN n k).length = k := by simp [putN]
theorem putN_succ (n k : Nat) : putN n (k + 1) = putN n k ++ [UInt8.ofNat (n / 256 ^ k % 256)] := by
  unfold putN; rw [List.range_succ, List.map_append]; rfl
theorem getN_lt : ∀ (l : List UInt8), getN l < 256 ^ l.length
  | [] => by simp [getN]
  | b :: l => by
    have := getN_lt l
    have hb : b.toNat < 256 := b.toNat_lt
    rw [getN, List.length_cons, Nat.pow_succ]
    omega
theorem getN_lt8 {l : List UInt8} (h : l.length ≤ 8) : getN l < 18446744073709551616 := by
  have h1 := getN_lt l
  have h2 : 256 ^ l.length ≤ 256 ^ 8 := Nat.pow_le_pow_right (by decide) h
  have h3 : (256 : Nat) ^ 8 = 18446744073709551616 := by decide
  omega
theorem getN_drop {s : List UInt8} {j : Nat} (h : j < s.length) : getN (s.drop j) = s[j].toNat + 256 * getN (s.drop (j + 1)) := by
  rw [List.drop_eq_getElem_cons h]; rfl
end Go.Vc
