/- Bits of natural numbers: sums of powers of two, or, xor, and, shifts. -/
import Derived.Test.YtpnkoniomalcpaaDoorVcLib
namespace Go.Vc
open Go
set_option linter.unusedVariables false
set_option linter.unusedSimpArgs false
/-- the number whose bits below n are those of D -/
def bsum (D : Nat → Bool) : Nat → Nat
  | 0 => 0
  | n + 1 => bsum D n + bif D n then 2 ^ n else 0
theorem bsum_lt (D : Nat → Bool) : ∀ n, bsum D n < 2 ^ n
  | 0 => by simp [bsum]
  | n + 1 => by
    have := bsum_lt D n
    rw [bsum, Nat.pow_succ]
    cases D n <;> simp only [cond_true, cond_false] <;> omega
theorem bsum_test (D : Nat → Bool) : ∀ n i, (bsum D n).testBit i = (decide (i < n) && D i)
  | 0, i => by simp [bsum]
  | n + 1, i => by
    have hl := bsum_lt D n
    rw [bsum]
    by_cases hi : i = n
    · subst hi
      cases hD : D i with
      | false => simp only [cond_false, Nat.add_zero]; rw [Nat.testBit_lt_two_pow hl]; simp
      | true => simp only [cond_true]; rw [Nat.add_comm, Nat.testBit_two_pow_add_eq, Nat.testBit_lt_two_pow hl]; simp
    · by_cases hlt : i < n
      · rw [decide_eq_true (by omega), Bool.true_and]
        have ih := bsum_test D n i
        rw [decide_eq_true hlt, Bool.true_and] at ih
        cases hD : D n with
        | false => simp only [cond_false, Nat.add_zero]; exact ih
        | true => simp only [cond_true]; rw [Nat.add_comm, Nat.testBit_two_pow_add_gt hlt]; exact ih
      · rw [decide_eq_false (by omega), Bool.false_and]
        apply Nat.testBit_lt_two_pow
        have := bsum_lt D (n + 1)
        rw [bsum] at this
        exact Nat.lt_of_lt_of_le this (Nat.pow_le_pow_right (by omega) (by omega))
theorem bsum_congr {D E : Nat → Bool} {n : Nat} (h : ∀ i, i < n → D i = E i) : bsum D n = bsum E n := by
  induction n with
  | zero => rfl
  | succ n ih => rw [bsum, bsum, ih fun i hi => h i (by omega), h n (by omega)]
theorem bsum_or {D : Nat → Bool} {n k : Nat} (hk : k < n) : bsum D n ||| 2 ^ k = bsum (fun i => decide (i = k) || D i) n := by
  apply Nat.eq_of_testBit_eq
  intro i
  rw [Nat.testBit_or, bsum_test, bsum_test, Nat.testBit_two_pow]
  by_cases hi : k = i
  · subst hi; simp [hk]
  · have h2 : ¬ i = k := fun e => hi e.symm
    simp [hi, h2]
theorem or_u32 {a b : Nat} (ha : a < 4294967296) (hb : b < 4294967296) : bitsOf .or .u32 (a : Int) (b : Int) = ((a ||| b : Nat) : Int) := by
  have hlt : a ||| b < 2 ^ 32 := Nat.or_lt_two_pow (by simpa using ha) (by simpa using hb)
  have e : ((BitVec.ofInt 32 (a : Int)) ||| (BitVec.ofInt 32 (b : Int))).toNat = a ||| b := by
    rw [BitVec.toNat_or, BitVec.ofInt_natCast, BitVec.ofInt_natCast, BitVec.toNat_ofNat, BitVec.toNat_ofNat, Nat.mod_eq_of_lt (by omega), Nat.mod_eq_of_lt (by omega)]
  show IntKind.u32.wrap ((((BitVec.ofInt 32 (a : Int)) ||| (BitVec.ofInt 32 (b : Int))).toNat : Nat) : Int) = _
  rw [e, wu32 (by omega) (by omega)]
theorem xor_u32 {a b : Nat} (ha : a < 4294967296) (hb : b < 4294967296) : bitsOf .xor .u32 (a : Int) (b : Int) = ((a ^^^ b : Nat) : Int) := by
  have hlt : a ^^^ b < 2 ^ 32 := Nat.xor_lt_two_pow (by simpa using ha) (by simpa using hb)
  have e : ((BitVec.ofInt 32 (a : Int)) ^^^ (BitVec.ofInt 32 (b : Int))).toNat = a ^^^ b := by
    rw [BitVec.toNat_xor, BitVec.ofInt_natCast, BitVec.ofInt_natCast, BitVec.toNat_ofNat, BitVec.toNat_ofNat, Nat.mod_eq_of_lt (by omega), Nat.mod_eq_of_lt (by omega)]
  show IntKind.u32.wrap ((((BitVec.ofInt 32 (a : Int)) ^^^ (BitVec.ofInt 32 (b : Int))).toNat : Nat) : Int) = _
  rw [e, wu32 (by omega) (by omega)]
theorem and_u32 {a b : Nat} (ha : a < 4294967296) (hb : b < 4294967296) : bitsOf .and .u32 (a : Int) (b : Int) = ((a &&& b : Nat) : Int) := by
  have hlt : a &&& b < 2 ^ 32 := Nat.lt_of_le_of_lt Nat.and_le_left (by omega)
  have e : ((BitVec.ofInt 32 (a : Int)) &&& (BitVec.ofInt 32 (b : Int))).toNat = a &&& b := by
    rw [BitVec.toNat_and, BitVec.ofInt_natCast, BitVec.ofInt_natCast, BitVec.toNat_ofNat, BitVec.toNat_ofNat, Nat.mod_eq_of_lt (by omega), Nat.mod_eq_of_lt (by omega)]
  show IntKind.u32.wrap ((((BitVec.ofInt 32 (a : Int)) &&& (BitVec.ofInt 32 (b : Int))).toNat : Nat) : Int) = _
  rw [e, wu32 (by omega) (by omega)]
end Go.Vc
