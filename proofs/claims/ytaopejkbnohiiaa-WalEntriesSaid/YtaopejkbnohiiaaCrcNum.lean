/- The sum of 32 bits, in plain numbers: one bit's turn is linear under xor, and it loses nothing. -/
import Derived.Test.YtaopejkbnohiiaaBitNat
namespace Go.Vc
open Go
set_option linter.unusedVariables false
set_option linter.unusedSimpArgs false
/-- one bit's turn -/
def t1 (s : Nat) : Nat := s / 2 ^^^ (bif decide (s % 2 = 1) then 3988292384 else 0)
def tn : Nat → Nat → Nat
  | 0, s => s
  | n + 1, s => tn n (t1 s)
theorem half_xor (a b : Nat) : (a ^^^ b) / 2 = a / 2 ^^^ b / 2 := by
  have := Nat.shiftRight_xor_distrib (a := a) (b := b) (i := 1)
  simpa [Nat.shiftRight_eq_div_pow] using this
theorem dbl_xor (k a b : Nat) : 2 ^ k * (a ^^^ b) = (2 ^ k * a) ^^^ (2 ^ k * b) := by
  have := Nat.shiftLeft_xor_distrib (a := a) (b := b) (i := k)
  simpa [Nat.shiftLeft_eq, Nat.mul_comm] using this
theorem odd_xor (a b : Nat) : (a ^^^ b) % 2 = (a % 2 + b % 2) % 2 := by
  have h1 : (a ^^^ b).testBit 0 = ((a.testBit 0) ^^ (b.testBit 0)) := Nat.testBit_xor ..
  rw [Nat.testBit_zero, Nat.testBit_zero, Nat.testBit_zero] at h1
  rcases Nat.mod_two_eq_zero_or_one a with ha | ha <;> rcases Nat.mod_two_eq_zero_or_one b with hb | hb <;> rcases Nat.mod_two_eq_zero_or_one (a ^^^ b) with hc | hc <;> simp [ha, hb, hc] at h1 ⊢
theorem t1_xor (a b : Nat) : t1 (a ^^^ b) = t1 a ^^^ t1 b := by
  unfold t1
  rw [half_xor, odd_xor]
  rcases Nat.mod_two_eq_zero_or_one a with ha | ha <;> rcases Nat.mod_two_eq_zero_or_one b with hb | hb <;> simp only [ha, hb, Nat.reduceAdd, Nat.reduceMod, decide_true, cond_true, decide_false, cond_false, Nat.xor_zero, Nat.zero_ne_one]
  · rw [Nat.xor_assoc]
  · rw [Nat.xor_assoc, Nat.xor_comm (b / 2), ← Nat.xor_assoc]
  · rw [Nat.xor_assoc (a / 2) 3988292384, Nat.xor_comm 3988292384 (b / 2 ^^^ 3988292384), Nat.xor_assoc (b / 2), Nat.xor_self, Nat.xor_zero]
theorem tn_xor : ∀ (n a b : Nat), tn n (a ^^^ b) = tn n a ^^^ tn n b
  | 0, _, _ => rfl
  | n + 1, a, b => by rw [tn, t1_xor, tn_xor n]; rfl
theorem tn_zero : ∀ n, tn n 0 = 0
  | 0 => rfl
  | n + 1 => by rw [tn, show t1 0 = 0 by decide, tn_zero n]
theorem tn_add : ∀ (m n s : Nat), tn (m + n) s = tn n (tn m s)
  | 0, n, s => by rw [Nat.zero_add]; rfl
  | m + 1, n, s => by rw [show m + 1 + n = (m + n) + 1 by omega, tn, tn, tn_add m n]
theorem tn_succ (n s : Nat) : tn (n + 1) s = t1 (tn n s) := tn_add n 1 s
theorem t1_lt {s : Nat} (h : s < 4294967296) : t1 s < 4294967296 := by
  have h1 : s / 2 < 2 ^ 32 := by omega
  have h2 : (bif decide (s % 2 = 1) then 3988292384 else 0) < 2 ^ 32 := by cases decide (s % 2 = 1) <;> decide
  exact Nat.xor_lt_two_pow h1 h2
theorem tn_lt : ∀ (n : Nat) {s : Nat}, s < 4294967296 → tn n s < 4294967296
  | 0, s, h => h
  | n + 1, s, h => tn_lt n (t1_lt h)
theorem t1_ne {s : Nat} (h : s < 4294967296) (h0 : s ≠ 0) : t1 s ≠ 0 := by
  intro e
  unfold t1 at e
  have e2 : s / 2 = (bif decide (s % 2 = 1) then 3988292384 else 0) := by
    have := congrArg (fun z => z ^^^ (bif decide (s % 2 = 1) then 3988292384 else 0)) e
    simp only [Nat.xor_assoc, Nat.xor_self, Nat.xor_zero, Nat.zero_xor] at this
    exact this
  rcases Nat.mod_two_eq_zero_or_one s with ha | ha
  · rw [ha] at e2; simp at e2; omega
  · rw [ha] at e2; simp at e2; omega
theorem tn_ne : ∀ (n : Nat) {s : Nat}, s < 4294967296 → s ≠ 0 → tn n s ≠ 0
  | 0, s, _, h0 => h0
  | n + 1, s, h, h0 => tn_ne n (t1_lt h) (t1_ne h h0)
theorem t1_dbl (x : Nat) : t1 (2 * x) = x := by
  unfold t1
  rw [Nat.mul_div_cancel_left _ (by decide), Nat.mul_mod_right, decide_eq_false (by decide), cond_false, Nat.xor_zero]
theorem tn_dbl : ∀ (k x : Nat), tn k (2 ^ k * x) = x
  | 0, x => by rw [Nat.pow_zero, Nat.one_mul]; rfl
  | k + 1, x => by rw [tn, Nat.pow_succ, Nat.mul_comm (2 ^ k) 2, Nat.mul_assoc, t1_dbl, tn_dbl k]
/-- bytes behind a register -/
def fold32 (s : Nat) (l : List UInt8) : Nat := l.foldl (fun s b => tn 8 (s ^^^ b.toNat)) s
def more32 (sum : Nat) (l : List UInt8) : Nat := 4294967295 - fold32 (4294967295 - sum) l
theorem fold32_append (s : Nat) (a b : List UInt8) : fold32 s (a ++ b) = fold32 (fold32 s a) b := by unfold fold32; rw [List.foldl_append]
theorem fold32_lt : ∀ (l : List UInt8) {s : Nat}, s < 4294967296 → fold32 s l < 4294967296
  | [], s, h => h
  | b :: l, s, h => by
    have hb : b.toNat < 2 ^ 32 := Nat.lt_trans b.toNat_lt (by decide)
    have : s ^^^ b.toNat < 2 ^ 32 := Nat.xor_lt_two_pow (by omega) hb
    exact fold32_lt l (tn_lt 8 (by omega))
/-- the number of a text, its bits in order -/
def num : List UInt8 → Nat
  | [] => 0
  | b :: l => b.toNat ^^^ 2 ^ 8 * num l
theorem fold32_num : ∀ (l : List UInt8) (s : Nat), fold32 s l = tn (8 * l.length) (s ^^^ num l)
  | [], s => by simp [fold32, num, tn]
  | b :: l, s => by
    show fold32 (tn 8 (s ^^^ b.toNat)) l = _
    rw [fold32_num l, num, List.length_cons, show 8 * (l.length + 1) = 8 + 8 * l.length by omega, tn_add, ← Nat.xor_assoc, tn_xor 8 (s ^^^ b.toNat), tn_dbl]
theorem num_zeros : ∀ n, num (List.replicate n 0) = 0
  | 0 => rfl
  | n + 1 => by rw [List.replicate_succ, num, num_zeros n]; rfl
theorem fold32_zeros (s n : Nat) : fold32 s (List.replicate n 0) = tn (8 * n) s := by
  rw [fold32_num, num_zeros, List.length_replicate, Nat.xor_zero]
theorem fold32_xor (s u : Nat) (l : List UInt8) : fold32 (s ^^^ u) l = fold32 s l ^^^ tn (8 * l.length) u := by
  rw [fold32_num, fold32_num, Nat.xor_assoc, Nat.xor_comm u, ← Nat.xor_assoc, tn_xor]
theorem com_xor {n : Nat} (h : n < 4294967296) : 4294967295 - n = 4294967295 ^^^ n := by
  apply Nat.eq_of_testBit_eq
  intro i
  rw [show 4294967295 - n = 2 ^ 32 - (n + 1) by omega, Nat.testBit_two_pow_sub_succ (by omega), Nat.testBit_xor, show (4294967295 : Nat) = 2 ^ 32 - 1 by rfl, Nat.testBit_two_pow_sub_one]
  by_cases hi : i < 32
  · simp [hi]
  · have : n.testBit i = false := Nat.testBit_lt_two_pow (Nat.lt_of_lt_of_le h (show 2 ^ 32 ≤ 2 ^ i from Nat.pow_le_pow_right (by decide) (by omega)))
    simp [hi, this]
theorem more32_lt (s : Nat) (l : List UInt8) : more32 s l < 4294967296 := by unfold more32; omega
theorem com_com {n : Nat} (h : n < 4294967296) : 4294967295 - (4294967295 - n) = n := by omega
theorem more32_append (s : Nat) (a b : List UInt8) : more32 (more32 s a) b = more32 s (a ++ b) := by
  unfold more32
  rw [fold32_append, com_com (fold32_lt a (by omega))]
/-- the sums of two texts, joined -/
theorem more32_join {x : Nat} (hx : x < 4294967296) (l : List UInt8) : tn (8 * l.length) x ^^^ more32 0 l = more32 x l := by
  unfold more32
  have h1 := fold32_lt l (s := 4294967295 - x) (by omega)
  have h2 := fold32_lt l (s := 4294967295 - 0) (by omega)
  rw [com_xor h1, com_xor h2, com_xor hx, Nat.sub_zero, fold32_xor, Nat.xor_comm, Nat.xor_assoc]
/-- one bit of a text turned -/
theorem num_set : ∀ (l : List UInt8) (i : Nat) (x : UInt8) (k : Nat), i < l.length → x.toNat = (l.getD i 0).toNat ^^^ 2 ^ k → num (l.set i x) = num l ^^^ 2 ^ (8 * i + k)
  | b :: l, 0, x, k, _, hx => by
    simp only [List.getD_cons_zero] at hx
    rw [List.set_cons_zero, num, num, hx, Nat.xor_assoc, Nat.xor_comm (2 ^ k), ← Nat.xor_assoc]
    simp
  | b :: l, i + 1, x, k, h, hx => by
    simp only [List.getD_cons_succ] at hx
    rw [List.set_cons_succ, num, num, num_set l i x k (by simpa using h) hx, dbl_xor, ← Nat.xor_assoc, ← Nat.pow_add]
    congr 2
    omega
  | [], i, x, k, h, _ => by simp at h
/-- bits that are turned tell -/
theorem burst_tells {l m : List UInt8} {e at_ : Nat} (hl : m.length = l.length) (hn : num m = num l ^^^ 2 ^ at_ * e) (he : e ≠ 0) (he2 : e < 4294967296) (ha : at_ ≤ 8 * l.length) : more32 0 m ≠ more32 0 l := by
  intro h
  unfold more32 at h
  have h1 := fold32_lt l (s := 4294967295 - 0) (by omega)
  have h2 := fold32_lt m (s := 4294967295 - 0) (by omega)
  have h3 : fold32 (4294967295 - 0) m = fold32 (4294967295 - 0) l := by omega
  rw [fold32_num, fold32_num, hl, hn, ← Nat.xor_assoc, tn_xor] at h3
  have h4 : tn (8 * l.length) (2 ^ at_ * e) = 0 := by
    have := congrArg (fun z => tn (8 * l.length) ((4294967295 - 0) ^^^ num l) ^^^ z) h3
    simp only [← Nat.xor_assoc, Nat.xor_self, Nat.zero_xor] at this
    exact this
  obtain ⟨r, hr⟩ : ∃ r, 8 * l.length = at_ + r := ⟨8 * l.length - at_, by omega⟩
  rw [hr, tn_add, tn_dbl] at h4
  exact tn_ne r he2 he h4
theorem bsum_xor (D : Nat → Bool) (n : Nat) : bsum D (n + 1) = bsum D n ^^^ (bif D n then 2 ^ n else 0) := by
  apply Nat.eq_of_testBit_eq
  intro i
  rw [Nat.testBit_xor, bsum_test, bsum_test]
  by_cases hi : i = n
  · subst hi
    cases hD : D i with
    | false => simp
    | true => simp [Nat.testBit_two_pow]
  · have h0 : Nat.testBit (bif D n then 2 ^ n else 0) i = false := by
      cases D n with
      | false => simp
      | true => simp only [cond_true, Nat.testBit_two_pow]; simp; omega
    rw [h0]
    by_cases h : i < n
    · simp [h, show i < n + 1 by omega]
    · simp [h, show ¬ i < n + 1 by omega]
theorem bsum_self {n k : Nat} (h : n < 2 ^ k) : bsum (fun i => n.testBit i) k = n := by
  apply Nat.eq_of_testBit_eq
  intro i
  rw [bsum_test]
  by_cases hi : i < k
  · simp [hi]
  · rw [Nat.testBit_lt_two_pow (Nat.lt_of_lt_of_le h (Nat.pow_le_pow_right (by decide) (by omega)))]; simp
/-- a number's turn is told by that of its bits -/
structure Lin (f : Nat → Nat) : Prop where
  xor : ∀ a b, f (a ^^^ b) = f a ^^^ f b
  lt : ∀ i, i < 32 → f (2 ^ i) < 4294967296
theorem Lin.zero {f : Nat → Nat} (h : Lin f) : f 0 = 0 := by
  have := h.xor 0 0
  rw [Nat.xor_self, Nat.xor_self] at this; exact this
theorem lin_tn (n : Nat) : Lin (tn n) := ⟨tn_xor n, fun i hi => tn_lt n (show 2 ^ i < 2 ^ 32 from Nat.pow_lt_pow_right (by decide) hi)⟩
theorem odd_split {v : Nat} (h : v % 2 = 1) : v = 1 ^^^ 2 * (v / 2) := by
  apply Nat.eq_of_testBit_eq
  intro i
  rw [Nat.testBit_xor]
  cases i with
  | zero => simp [h]
  | succ i =>
    rw [Nat.testBit_succ, Nat.testBit_succ, Nat.testBit_succ, Nat.mul_div_cancel_left _ (by decide : 0 < 2)]
    simp
theorem lin_odd {f : Nat → Nat} (h : Lin f) {i v : Nat} (hv : v % 2 = 1) : f (2 ^ i * v) = f (2 ^ i) ^^^ f (2 ^ (i + 1) * (v / 2)) := by
  have e : 2 ^ i * v = 2 ^ i ^^^ 2 ^ (i + 1) * (v / 2) := by
    conv => lhs; rw [odd_split hv]
    rw [dbl_xor, Nat.mul_one, Nat.pow_succ, Nat.mul_assoc]
  rw [e, h.xor]
theorem lin_even {f : Nat → Nat} {i v : Nat} (hv : v % 2 = 0) : f (2 ^ i * v) = f (2 ^ (i + 1) * (v / 2)) := by
  rw [Nat.pow_succ, Nat.mul_assoc, show 2 * (v / 2) = v by omega]
end Go.Vc
