/- Bits as lists: of numbers, of bytes, and back. -/
import Derived.Test.YtpnkoniomalcpaaDoorBitNat
import Derived.Test.YtpnkoniomalcpaaDoorVcLib
namespace Go.Vc
open Go
set_option linter.unusedVariables false
set_option linter.unusedSimpArgs false
/-- a number's lowest bits -/
def bitsN (v n : Nat) : List Bool := (List.range n).map fun i => v.testBit i
/-- the number of bits, the lowest first -/
def numB : List Bool → Nat
  | [] => 0
  | b :: l => b.toNat + 2 * numB l
def toBits (l : List UInt8) : List Bool := l.flatMap fun b => bitsN b.toNat 8
theorem bitsN_len (v n : Nat) : (bitsN v n).length = n := by simp [bitsN]
theorem bitsN_zero (v : Nat) : bitsN v 0 = [] := rfl
theorem bitsN_get {v n i : Nat} (h : i < n) : (bitsN v n)[i]? = some (v.testBit i) := by simp [bitsN, List.getElem?_range h]
theorem bitsN_ext {v w n : Nat} (h : ∀ i, i < n → v.testBit i = w.testBit i) : bitsN v n = bitsN w n := by
  unfold bitsN
  apply List.map_congr_left
  intro i hi
  exact h i (List.mem_range.1 hi)
theorem bitsN_mod (v n : Nat) : bitsN (v % 2 ^ n) n = bitsN v n := bitsN_ext fun i hi => by rw [Nat.testBit_mod_two_pow]; simp [hi]
theorem bitsN_add (v m n : Nat) : bitsN v (m + n) = bitsN v m ++ bitsN (v / 2 ^ m) n := by
  unfold bitsN
  rw [List.range_add, List.map_append, List.map_map]
  congr 1
  apply List.map_congr_left
  intro i _
  simp only [Function.comp]
  rw [Nat.testBit_div_two_pow, Nat.add_comm]
theorem bitsN_cons (v n : Nat) : bitsN v (n + 1) = v.testBit 0 :: bitsN (v / 2) n := by
  rw [Nat.add_comm, bitsN_add]; rfl
/-- a number put on top of another one -/
theorem bitsN_join {a v m n : Nat} (h : a < 2 ^ m) : bitsN (a + v * 2 ^ m) (m + n) = bitsN a m ++ bitsN v n := by
  rw [bitsN_add]
  have h1 : (a + v * 2 ^ m) / 2 ^ m = v := by
    rw [Nat.add_mul_div_right _ _ (Nat.two_pow_pos m), Nat.div_eq_of_lt h, Nat.zero_add]
  have h2 : bitsN (a + v * 2 ^ m) m = bitsN a m := by
    rw [← bitsN_mod, Nat.add_mul_mod_self_right, bitsN_mod]
  rw [h1, h2]
theorem numB_append : ∀ (l m : List Bool), numB (l ++ m) = numB l + 2 ^ l.length * numB m
  | [], m => by simp [numB]
  | b :: l, m => by
    rw [List.cons_append, numB, numB, numB_append l m, List.length_cons, Nat.pow_succ, Nat.mul_add, ← Nat.mul_assoc, Nat.mul_comm 2 (2 ^ l.length), Nat.add_assoc]
theorem numB_bitsN : ∀ (n v : Nat), numB (bitsN v n) = v % 2 ^ n
  | 0, v => by simp [bitsN, numB, Nat.mod_one]
  | n + 1, v => by
    rw [bitsN_cons, numB, numB_bitsN n, Nat.testBit_zero, Nat.pow_succ, Nat.mul_comm (2 ^ n) 2, Nat.mod_mul]
    rcases Nat.mod_two_eq_zero_or_one v with h | h <;> simp [h]
theorem numB_lt : ∀ (l : List Bool), numB l < 2 ^ l.length
  | [] => by simp [numB]
  | b :: l => by
    have := numB_lt l
    rw [numB, List.length_cons, Nat.pow_succ]
    cases b <;> simp <;> omega
theorem bitsN_numB : ∀ (l : List Bool), bitsN (numB l) l.length = l
  | [] => rfl
  | b :: l => by
    rw [List.length_cons, bitsN_cons, numB]
    congr 1
    · rw [Nat.testBit_zero]; cases b <;> simp <;> omega
    · rw [show (b.toNat + 2 * numB l) / 2 = numB l by cases b <;> simp <;> omega, bitsN_numB l]
theorem numB_inj {l m : List Bool} (hl : l.length = m.length) (h : numB l = numB m) : l = m := by
  rw [← bitsN_numB l, ← bitsN_numB m, hl, h]
theorem toBits_len (l : List UInt8) : (toBits l).length = 8 * l.length := by
  induction l with
  | nil => rfl
  | cons b l ih => unfold toBits at ih ⊢; rw [List.flatMap_cons, List.length_append, ih, bitsN_len, List.length_cons]; omega
theorem toBits_append (l m : List UInt8) : toBits (l ++ m) = toBits l ++ toBits m := by unfold toBits; rw [List.flatMap_append]
theorem toBits_cons (b : UInt8) (l : List UInt8) : toBits (b :: l) = bitsN b.toNat 8 ++ toBits l := rfl
theorem toBits_one (b : UInt8) : toBits [b] = bitsN b.toNat 8 := by rw [toBits_cons]; simp [toBits]
/-- whole bytes of bits -/
def toBytes : List Bool → List UInt8
  | a :: b :: c :: d :: e :: f :: g :: h :: l => UInt8.ofNat (numB [a, b, c, d, e, f, g, h]) :: toBytes l
  | _ => []
theorem toBytes_short {l : List Bool} (h : l.length < 8) : toBytes l = [] := by
  match l, h with
  | [], _ => rfl
  | [_], _ => rfl
  | [_, _], _ => rfl
  | [_, _, _], _ => rfl
  | [_, _, _, _], _ => rfl
  | [_, _, _, _, _], _ => rfl
  | [_, _, _, _, _, _], _ => rfl
  | [_, _, _, _, _, _, _], _ => rfl
  | _ :: _ :: _ :: _ :: _ :: _ :: _ :: _ :: _, h => simp at h; omega
theorem toBytes_step {x l : List Bool} (h : x.length = 8) : toBytes (x ++ l) = UInt8.ofNat (numB x) :: toBytes l := by
  match x, h with
  | [a, b, c, d, e, f, g, i], _ => rfl
theorem byte_bits (b : UInt8) : UInt8.ofNat (numB (bitsN b.toNat 8)) = b := by
  rw [numB_bitsN, Nat.mod_eq_of_lt b.toNat_lt]
  simp
theorem toBytes_toBits : ∀ (l : List UInt8) (r : List Bool), r.length < 8 → toBytes (toBits l ++ r) = l
  | [], r, h => toBytes_short h
  | b :: l, r, h => by
    rw [toBits_cons, List.append_assoc, toBytes_step (bitsN_len _ _), byte_bits, toBytes_toBits l r h]
theorem toBytes_toBits' (l : List UInt8) : toBytes (toBits l) = l := by
  have := toBytes_toBits l [] (by decide)
  rwa [List.append_nil] at this
theorem toBits_toBytes : ∀ (n : Nat) (l : List Bool), l.length = 8 * n → toBits (toBytes l) = l
  | 0, l, h => by
    have : l = [] := List.eq_nil_of_length_eq_zero (by omega)
    subst this; rfl
  | n + 1, l, h => by
    have e : l = l.take 8 ++ l.drop 8 := (List.take_append_drop 8 l).symm
    have h8 : (l.take 8).length = 8 := by rw [List.length_take]; omega
    rw [e, toBytes_step h8, toBits_cons, toBits_toBytes n _ (by rw [List.length_drop]; omega)]
    congr 1
    rw [UInt8.toNat_ofNat', Nat.mod_eq_of_lt (by have := numB_lt (l.take 8); rw [h8] at this; exact this)]
    have := bitsN_numB (l.take 8)
    rw [h8] at this; exact this
theorem toBits_inj {l m : List UInt8} (h : toBits l = toBits m) : l = m := by rw [← toBytes_toBits' l, ← toBytes_toBits' m, h]
theorem toBytes_len : ∀ (n : Nat) (l : List Bool), l.length / 8 = n → (toBytes l).length = n
  | 0, l, h => by rw [toBytes_short (by omega)]; rfl
  | n + 1, l, h => by
    have e : l = l.take 8 ++ l.drop 8 := (List.take_append_drop 8 l).symm
    rw [e, toBytes_step (by rw [List.length_take]; omega), List.length_cons, toBytes_len n _ (by rw [List.length_drop]; omega)]
/-! ### the machine's numbers -/
theorem or_disj {a v n : Nat} (h : a < 2 ^ n) : a ||| v * 2 ^ n = a + v * 2 ^ n := by
  rw [Nat.or_comm, Nat.mul_comm v, ← Nat.two_pow_add_eq_or_of_lt h, Nat.add_comm]
theorem or_u64 {a b : Nat} (ha : a < 18446744073709551616) (hb : b < 18446744073709551616) : bitsOf .or .u64 (a : Int) (b : Int) = ((a ||| b : Nat) : Int) := by
  have hlt : a ||| b < 2 ^ 64 := Nat.or_lt_two_pow (by simpa using ha) (by simpa using hb)
  have e : ((BitVec.ofInt 64 (a : Int)) ||| (BitVec.ofInt 64 (b : Int))).toNat = a ||| b := by
    rw [BitVec.toNat_or, BitVec.ofInt_natCast, BitVec.ofInt_natCast, BitVec.toNat_ofNat, BitVec.toNat_ofNat, Nat.mod_eq_of_lt (by omega), Nat.mod_eq_of_lt (by omega)]
  show IntKind.u64.wrap ((((BitVec.ofInt 64 (a : Int)) ||| (BitVec.ofInt 64 (b : Int))).toNat : Nat) : Int) = _
  rw [e, wu64 (by omega) (by omega)]
theorem and_u64 {a b : Nat} (ha : a < 18446744073709551616) (hb : b < 18446744073709551616) : bitsOf .and .u64 (a : Int) (b : Int) = ((a &&& b : Nat) : Int) := by
  have hlt : a &&& b < 2 ^ 64 := Nat.lt_of_le_of_lt Nat.and_le_left (by omega)
  have e : ((BitVec.ofInt 64 (a : Int)) &&& (BitVec.ofInt 64 (b : Int))).toNat = a &&& b := by
    rw [BitVec.toNat_and, BitVec.ofInt_natCast, BitVec.ofInt_natCast, BitVec.toNat_ofNat, BitVec.toNat_ofNat, Nat.mod_eq_of_lt (by omega), Nat.mod_eq_of_lt (by omega)]
  show IntKind.u64.wrap ((((BitVec.ofInt 64 (a : Int)) &&& (BitVec.ofInt 64 (b : Int))).toNat : Nat) : Int) = _
  rw [e, wu64 (by omega) (by omega)]
/-- v & (1<<n - 1), the mask as the machine makes it -/
theorem mask_u64 {v n : Nat} (hv : v < 18446744073709551616) (hn : n ≤ 32) : bitsOf .and .u64 (v : Int) (IntKind.u64.wrap (IntKind.u64.wrap (1 * 2 ^ min ((n : Int)).toNat IntKind.u64.bits) - 1)) = ((v % 2 ^ n : Nat) : Int) := by
  have e : IntKind.u64.wrap (IntKind.u64.wrap (1 * 2 ^ min ((n : Int)).toNat IntKind.u64.bits) - 1) = ((2 ^ n - 1 : Nat) : Int) := by
    rw [show min ((n : Int)).toNat IntKind.u64.bits = n by show min ((n : Int)).toNat 64 = n; omega]
    have hp : (2 : Nat) ^ n ≤ 2 ^ 32 := Nat.pow_le_pow_right (by decide) hn
    have h1 : 1 ≤ (2 : Nat) ^ n := Nat.one_le_two_pow
    rw [show (1 : Int) * 2 ^ n = ((2 ^ n : Nat) : Int) by rw [Int.one_mul, Int.natCast_pow]; rfl]
    generalize (2 : Nat) ^ n = P at hp h1 ⊢
    rw [wu64 (n := (P : Int)) (by omega) (by omega), wu64 (by omega) (by omega)]
    omega
  have hp : (2 : Nat) ^ n ≤ 2 ^ 32 := Nat.pow_le_pow_right (by decide) hn
  rw [e, and_u64 hv (by omega), Nat.and_two_pow_sub_one_eq_mod]
/-- v << n -/
theorem shl_u64 {v n : Nat} (h : v * 2 ^ n < 18446744073709551616) (hn : n ≤ 64) : IntKind.u64.wrap ((v : Int) * 2 ^ min ((n : Int)).toNat IntKind.u64.bits) = ((v * 2 ^ n : Nat) : Int) := by
  rw [show min ((n : Int)).toNat IntKind.u64.bits = n by show min ((n : Int)).toNat 64 = n; omega]
  rw [show (v : Int) * 2 ^ n = ((v * 2 ^ n : Nat) : Int) by rw [Int.natCast_mul, Int.natCast_pow]; rfl]
  exact wu64 (by omega) (by omega)
theorem shr_int {k : IntKind} {v n : Nat} (hn : n ≤ k.bits) : ((v : Nat) : Int).fdiv (2 ^ min ((n : Int)).toNat k.bits) = ((v / 2 ^ n : Nat) : Int) := by
  rw [show min ((n : Int)).toNat k.bits = n by rw [Int.toNat_natCast]; omega]
  rw [Int.fdiv_eq_ediv_of_nonneg _ (Int.le_of_lt (Int.pow_pos (by decide))), show ((2 : Int) ^ n) = ((2 ^ n : Nat) : Int) by rw [Int.natCast_pow]; rfl, ← Int.natCast_ediv]
theorem fdiv_nat {n m j : Nat} (h : m = j) : ((n : Nat) : Int).fdiv (2 ^ m) = ((n / 2 ^ j : Nat) : Int) := by
  subst h
  rw [Int.fdiv_eq_ediv_of_nonneg _ (Int.le_of_lt (Int.pow_pos (by decide))), show ((2 : Int) ^ m) = ((2 ^ m : Nat) : Int) by rw [Int.natCast_pow]; rfl, ← Int.natCast_ediv]
theorem byte_low {v : Nat} : Value.int .u8 (IntKind.u8.wrap (v : Int)) = byteV (UInt8.ofNat (v % 256)) := by
  unfold byteV
  rw [wu8_mod, UInt8.toNat_ofNat', show v % 256 % 2 ^ 8 = v % 256 by omega]
  congr 1
theorem byte_low_bits {v n : Nat} (h : 8 ≤ n) : bitsN v n = toBits [UInt8.ofNat (v % 256)] ++ bitsN (v / 2 ^ 8) (n - 8) := by
  rw [toBits_one, UInt8.toNat_ofNat', show v % 256 % 2 ^ 8 = v % 2 ^ 8 by omega, bitsN_mod]
  conv => lhs; rw [show n = 8 + (n - 8) by omega]
  rw [bitsN_add]
end Go.Vc
