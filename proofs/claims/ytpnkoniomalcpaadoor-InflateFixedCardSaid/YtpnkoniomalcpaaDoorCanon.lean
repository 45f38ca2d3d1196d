/- Contracts of package canon. -/
import Derived.Test.YtpnkoniomalcpaaDoorCanonNum
import Derived.Test.YtpnkoniomalcpaaDoorInts
import Derived.Test.YtpnkoniomalcpaaDoorVcLib
import Derived.Test.YtpnkoniomalcpaaDoorBitNat
import Derived.Test.YtpnkoniomalcpaaDoorResB
namespace Go.Proofs.YtpnkoniomalcpaaDoor
-- only what is there
open Go Go.Vc Go.Proofs
set_option linter.unusedVariables false
set_option linter.unusedSimpArgs false
variable {H : Heap} {R : Value → Heap → Prop} {v : Value} {zs : List Int}
/-- lengths that may be, each by itself -/
def okZ (zs : List Int) : Prop := zs.length ≤ 288 ∧ ∀ z ∈ zs, 0 ≤ z ∧ z ≤ 15
def natL (zs : List Int) : List Nat := zs.map Int.toNat
theorem natL_len (zs : List Int) : (natL zs).length = zs.length := by simp [natL]
theorem shareL_append (a b : List Nat) (m : Nat) : shareL (a ++ b) m = shareL a m + shareL b m := by unfold shareL; rw [List.map_append, List.sum_append]
theorem shareL_le (ls : List Nat) (m : Nat) : shareL ls m ≤ ls.length * 2 ^ m := by
  induction ls with
  | nil => simp [shareL]
  | cons k ls ih =>
    unfold shareL at ih ⊢
    rw [List.map_cons, List.sum_cons, List.length_cons, Nat.succ_mul]
    have : (if 1 ≤ k ∧ k ≤ m then 2 ^ (m - k) else 0) ≤ 2 ^ m := by
      split
      · exact Nat.pow_le_pow_right (by decide) (by omega)
      · exact Nat.zero_le _
    generalize 2 ^ m = P at *
    omega
theorem take_snoc {α : Type} {l : List α} {i : Nat} (h : i < l.length) : l.take (i + 1) = l.take i ++ [l[i]] := by rw [List.take_add_one, List.getElem?_eq_getElem h]; rfl
theorem natL_snoc {i : Nat} (h : i < zs.length) : natL (zs.take (i + 1)) = natL (zs.take i) ++ [zs[i].toNat] := by unfold natL; rw [take_snoc h, List.map_append]; rfl
/-- how many words of each length are free -/
def fillL (S : Nat) : List Int := (List.range 16).map fun n => (((32768 - S) / 2 ^ (15 - n) % 2 : Nat) : Int)
theorem fillL_len (S : Nat) : (fillL S).length = 16 := by simp [fillL]
theorem fillL_at {S n : Nat} (hn : n < 16) : (fillL S)[n]'(by rw [fillL_len]; exact hn) = (((32768 - S) / 2 ^ (15 - n) % 2 : Nat) : Int) := by simp [fillL]
theorem and1_i64 {m : Nat} (hm : m < 9223372036854775808) : bitsOf .and .i64 (m : Int) 1 = ((m % 2 : Nat) : Int) := by
  have e : ((BitVec.ofInt 64 (m : Int)) &&& (BitVec.ofInt 64 1)).toNat = m % 2 := by
    rw [BitVec.toNat_and, BitVec.ofInt_natCast, BitVec.toNat_ofNat, Nat.mod_eq_of_lt (by omega)]
    show m &&& 1 = m % 2
    exact Nat.and_one_is_mod m
  show IntKind.i64.wrap ((((BitVec.ofInt 64 (m : Int)) &&& (BitVec.ofInt 64 1)).toNat : Nat) : Int) = _
  rw [e, w64 (by omega) (by omega)]
/-- the lowest n bits of v, in the opposite order -/
def revN (v : Nat) : Nat → Nat
  | 0 => 0
  | n + 1 => 2 * revN v n + (v / 2 ^ n) % 2
theorem revN_lt (v : Nat) : ∀ n, revN v n < 2 ^ n
  | 0 => by simp [revN]
  | n + 1 => by
    have := revN_lt v n
    have h2 : (v / 2 ^ n) % 2 < 2 := Nat.mod_lt _ (by decide)
    rw [revN, Nat.pow_succ]
    generalize 2 ^ n = P at *
    omega
theorem turned_spec03 {x n : Nat} (hx : x < 18446744073709551616) (hn : n ≤ 60) (h : R (.int .u64 (revN x n : Nat)) H) : CallsH Tryd.prog 97 #[.int .u64 (x : Int), .int .i64 (n : Int)] H R := by
  refine canon_turned.vc _ _ _ _ ?_
  unfold canon_turned.res
  refine ⟨fun v o i H' => ∃ k : Nat, i = .int .i64 k ∧ k ≤ n ∧ v = .int .u64 ((x / 2 ^ k : Nat) : Int) ∧ o = .int .u64 (revN x k : Nat) ∧ H = H', fun _ _ i _ => match i with | .int _ x => (1000 - x).toNat | _ => 0, ⟨0, rfl, by omega, by rw [Nat.pow_zero, Nat.div_one], rfl, rfl⟩, ?_⟩
  rintro _ _ _ _ _ ⟨k, rfl, hk, rfl, rfl, rfl⟩
  have hr := revN_lt x k
  have hp : 2 ^ k ≤ 2 ^ 60 := Nat.pow_le_pow_right (by decide) (by omega)
  have hd : x / 2 ^ k ≤ x := Nat.div_le_self _ _
  rw [pLt_v]
  refine pCond_if (fun hc => ?_) (fun hc => ?_)
  · rw [pShl_v]
    refine ⟨by decide, ?_⟩
    rw [show min (1 : Int).toNat IntKind.u64.bits = 1 from rfl, pBits_v]
    have e1 : IntKind.u64.wrap (((revN x k : Nat) : Int) * 2 ^ 1) = ((2 * revN x k : Nat) : Int) := by rw [wu64 (by omega) (by omega)]; omega
    have e2 : bitsOf .and .u64 ((x / 2 ^ k : Nat) : Int) 1 = ((x / 2 ^ k % 2 : Nat) : Int) := by
      have := and_u64 (a := x / 2 ^ k) (b := 1) (by omega) (by omega)
      rw [Nat.and_one_is_mod] at this
      exact this
    have h2 : (x / 2 ^ k) % 2 < 2 := Nat.mod_lt _ (by decide)
    rw [e1, e2, pBits_v, or_u64 (by omega) (by omega)]
    have e3 : 2 * revN x k ||| x / 2 ^ k % 2 = revN x (k + 1) := by
      rw [revN, Nat.or_comm, Nat.mul_comm]
      have := or_disj (a := x / 2 ^ k % 2) (v := revN x k) (n := 1) (by simpa using h2)
      rw [Nat.pow_one] at this
      rw [this]; omega
    rw [e3, pShr_v]
    refine ⟨by decide, ?_⟩
    rw [show min (1 : Int).toNat IntKind.u64.bits = 1 from rfl, fdiv_nat (j := 1) rfl, Nat.div_div_eq_div_mul, show 2 ^ k * 2 ^ 1 = 2 ^ (k + 1) from rfl, pAdd_v, w64 (n := (k : Int) + 1) (by omega) (by omega)]
    exact ⟨⟨k + 1, rfl, by omega, rfl, rfl, rfl⟩, by show (_ : Int).toNat < (_ : Int).toNat; omega⟩
  · have : k = n := by omega
    subst this
    exact h
end Go.Proofs.YtpnkoniomalcpaaDoor
