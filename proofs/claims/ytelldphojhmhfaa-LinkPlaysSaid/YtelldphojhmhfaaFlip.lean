/- Bits of bytes that are turned: plain laws. -/
import Derived.Test.YtelldphojhmhfaaBitList
namespace Go.Proofs.Ytelldphojhmhfaa
open Go Go.Vc Go.Proofs
set_option linter.unusedVariables false
set_option linter.unusedSimpArgs false
/-- is the bit at i one of those that are turned: those of D from at on, the first k of them -/
def hit (at_ : Int) (D : Nat → Bool) (k i : Nat) : Bool := decide (at_ ≤ i ∧ (i : Int) < at_ + k) && D ((i : Int) - at_).toNat
def flipB (at_ : Int) (D : Nat → Bool) (k : Nat) (B : List Bool) : List Bool := B.mapIdx fun i b => b ^^ hit at_ D k i
theorem flipB_len {at_ : Int} {D : Nat → Bool} {k : Nat} {B : List Bool} : (flipB at_ D k B).length = B.length := by simp [flipB]
theorem flipB_at {at_ : Int} {D : Nat → Bool} {k i : Nat} {B : List Bool} : (flipB at_ D k B)[i]? = (B[i]?).map (fun b => b ^^ hit at_ D k i) := by simp [flipB, List.getElem?_mapIdx]
theorem flipB_zero {at_ : Int} {D : Nat → Bool} {B : List Bool} : flipB at_ D 0 B = B := by
  apply List.ext_getElem?
  intro i
  rw [flipB_at]
  have : hit at_ D 0 i = false := by unfold hit; rw [decide_eq_false (by omega)]; rfl
  cases B[i]? <;> simp [this]
theorem flipB_twice {at_ : Int} {D : Nat → Bool} {k : Nat} {B : List Bool} : flipB at_ D k (flipB at_ D k B) = B := by
  apply List.ext_getElem?
  intro i
  rw [flipB_at, flipB_at]
  cases B[i]? with
  | none => rfl
  | some b => simp
/-- the next bit isn't there, or isn't turned -/
theorem flipB_same {at_ : Int} {D : Nat → Bool} {k : Nat} {B : List Bool} (h : D k = false ∨ at_ + k < 0 ∨ (B.length : Int) ≤ at_ + k) : flipB at_ D (k + 1) B = flipB at_ D k B := by
  apply List.ext_getElem?
  intro i
  rw [flipB_at, flipB_at]
  by_cases hi : i < B.length
  · have : hit at_ D (k + 1) i = hit at_ D k i := by
      unfold hit
      by_cases he : (i : Int) = at_ + k
      · rcases h with h | h | h
        · rw [show ((i : Int) - at_).toNat = k by omega, h, Bool.and_false, Bool.and_false]
        · omega
        · omega
      · by_cases hc : at_ ≤ (i : Int) ∧ (i : Int) < at_ + k
        · rw [decide_eq_true hc, decide_eq_true (by omega)]
        · rw [decide_eq_false hc, decide_eq_false (by omega)]
    rw [this]
  · rw [List.getElem?_eq_none (by omega)]; rfl
/-- the next bit is turned -/
theorem flipB_set {at_ : Int} {D : Nat → Bool} {k m : Nat} {B : List Bool} (hD : D k = true) (hm : at_ + k = m) (hB : m < B.length) :
    (flipB at_ D k B)[m]? = some (B[m]) ∧ flipB at_ D (k + 1) B = (flipB at_ D k B).set m (!B[m]) := by
  have h0 : hit at_ D k m = false := by unfold hit; rw [decide_eq_false (by omega)]; rfl
  refine ⟨by rw [flipB_at, List.getElem?_eq_getElem hB, Option.map_some, h0, Bool.xor_false], ?_⟩
  apply List.ext_getElem?
  intro i
  by_cases hi : i = m
  · subst hi
    rw [List.getElem?_set_self (by rw [flipB_len]; exact hB), flipB_at, List.getElem?_eq_getElem hB, Option.map_some]
    have : hit at_ D (k + 1) i = true := by
      unfold hit
      rw [decide_eq_true (by omega), show ((i : Int) - at_).toNat = k by omega, hD]; rfl
    rw [this, Bool.xor_true]
  · rw [List.getElem?_set_ne (fun e => hi e.symm), flipB_at, flipB_at]
    have : hit at_ D (k + 1) i = hit at_ D k i := by
      unfold hit
      by_cases hc : at_ ≤ (i : Int) ∧ (i : Int) < at_ + k
      · rw [decide_eq_true hc, decide_eq_true (by omega)]
      · rw [decide_eq_false hc, decide_eq_false (by omega)]
    rw [this]
theorem toBits_at : ∀ (l : List UInt8) (i : Nat), (toBits l)[i]? = (l[i / 8]?).map fun b => b.toNat.testBit (i % 8)
  | [], i => by simp [toBits]
  | b :: l, i => by
    rw [toBits_cons]
    by_cases hi : i < 8
    · rw [List.getElem?_append_left (by rw [bitsN_len]; exact hi), bitsN_get hi, show i / 8 = 0 by omega, show i % 8 = i by omega]; rfl
    · rw [List.getElem?_append_right (by rw [bitsN_len]; omega), bitsN_len, toBits_at l, show i / 8 = (i - 8) / 8 + 1 by omega, List.getElem?_cons_succ, show i % 8 = (i - 8) % 8 by omega]
/-- a byte with a bit turned -/
def flipU (u : UInt8) (j : Nat) : UInt8 := UInt8.ofNat (u.toNat ^^^ 2 ^ j)
theorem flipU_nat {u : UInt8} {j : Nat} (hj : j < 8) : (flipU u j).toNat = u.toNat ^^^ 2 ^ j := by
  have hu : u.toNat < 2 ^ 8 := u.toNat_lt
  have hp : 2 ^ j < 2 ^ 8 := Nat.pow_lt_pow_right (by decide) hj
  have := Nat.xor_lt_two_pow hu hp
  unfold flipU
  rw [UInt8.toNat_ofNat', Nat.mod_eq_of_lt this]
theorem flipU_val {u : UInt8} {j : Nat} (hj : j < 8) : Value.int .u8 (bitsOf .xor .u8 (u.toNat : Int) (IntKind.u8.wrap (1 * 2 ^ min ((j : Int)).toNat IntKind.u8.bits))) = byteV (flipU u j) := by
  have hu : u.toNat < 2 ^ 8 := u.toNat_lt
  have hp : 2 ^ j < 2 ^ 8 := Nat.pow_lt_pow_right (by decide) hj
  have hx := Nat.xor_lt_two_pow hu hp
  have e1 : IntKind.u8.wrap (1 * 2 ^ min ((j : Int)).toNat IntKind.u8.bits) = ((2 ^ j : Nat) : Int) := by
    rw [show min ((j : Int)).toNat IntKind.u8.bits = j by show min ((j : Int)).toNat 8 = j; omega, show (1 : Int) * 2 ^ j = ((2 ^ j : Nat) : Int) by rw [Int.one_mul, Int.natCast_pow]; rfl]
    generalize 2 ^ j = p at hp ⊢
    rw [wu8_mod]; omega
  rw [e1]
  unfold byteV
  rw [flipU_nat hj]
  congr 1
  have e : ((BitVec.ofInt 8 (u.toNat : Int)) ^^^ (BitVec.ofInt 8 ((2 ^ j : Nat) : Int))).toNat = u.toNat ^^^ 2 ^ j := by
    rw [BitVec.toNat_xor, BitVec.ofInt_natCast, BitVec.ofInt_natCast, BitVec.toNat_ofNat, BitVec.toNat_ofNat, Nat.mod_eq_of_lt hu, Nat.mod_eq_of_lt hp]
  show IntKind.u8.wrap ((((BitVec.ofInt 8 (u.toNat : Int)) ^^^ (BitVec.ofInt 8 ((2 ^ j : Nat) : Int))).toNat : Nat) : Int) = _
  rw [e]
  generalize u.toNat ^^^ 2 ^ j = x at hx ⊢
  rw [wu8_mod]; omega
theorem toBits_flip {l : List UInt8} {m j : Nat} (hm : m < l.length) (hj : j < 8) (b : Bool) (hb : (toBits l)[8 * m + j]? = some b) : toBits (l.set m (flipU l[m] j)) = (toBits l).set (8 * m + j) (!b) := by
  apply List.ext_getElem?
  intro i
  rw [toBits_at]
  have hb' : l[m].toNat.testBit j = b := by
    rw [toBits_at, show (8 * m + j) / 8 = m by omega, show (8 * m + j) % 8 = j by omega, List.getElem?_eq_getElem hm] at hb
    simpa using hb
  by_cases hi : i / 8 = m
  · rw [hi, List.getElem?_set_self hm, Option.map_some, flipU_nat hj, Nat.testBit_xor, Nat.testBit_two_pow]
    by_cases hij : i % 8 = j
    · have : i = 8 * m + j := by omega
      subst this
      rw [List.getElem?_set_self (by rw [toBits_len]; omega), hij, hb']
      simp
    · rw [List.getElem?_set_ne (by omega), toBits_at, hi, List.getElem?_eq_getElem hm, decide_eq_false (by omega)]
      simp
  · rw [List.getElem?_set_ne (fun e => hi e.symm), List.getElem?_set_ne (by omega), toBits_at]
/-- some bits of a text turned -/
def spoilL (s : List UInt8) (at_ : Int) (D : Nat → Bool) : List UInt8 := toBytes (flipB at_ D 32 (toBits s))
theorem toBits_spoil (s : List UInt8) (at_ : Int) (D : Nat → Bool) : toBits (spoilL s at_ D) = flipB at_ D 32 (toBits s) :=
  toBits_toBytes s.length _ (by rw [flipB_len, toBits_len])
theorem spoil_twice (s : List UInt8) (at_ : Int) (D : Nat → Bool) : spoilL (spoilL s at_ D) at_ D = s := by
  apply toBits_inj
  rw [toBits_spoil, toBits_spoil, flipB_twice]
theorem spoil_len (s : List UInt8) (at_ : Int) (D : Nat → Bool) : (spoilL s at_ D).length = s.length := by
  have := congrArg List.length (toBits_spoil s at_ D)
  rw [toBits_len, flipB_len, toBits_len] at this
  omega
end Go.Proofs.Ytelldphojhmhfaa
