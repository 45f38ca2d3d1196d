/- Contracts of package canon. -/
import Derived.Test.YtcbaklebiohedaaCanonNum
import Derived.Test.YtcbaklebiohedaaInts
import Derived.Test.YtcbaklebiohedaaVcSub
import Derived.Test.YtcbaklebiohedaaBitNat
import Derived.Test.YtcbaklebiohedaaResCanon
namespace Go.Proofs.Ytcbaklebiohedaa
open Go Go.Vc Go.Proofs
set_option linter.unusedVariables false
set_option linter.unusedSimpArgs false
variable {H : Heap} {R : Value → Heap → Prop} {v : Value} {zs : List Int}
/-- lengths that may be, each by itself -/
def okZ (zs : List Int) : Prop := zs.length ≤ 288 ∧ ∀ z ∈ zs, 0 ≤ z ∧ z ≤ 15
def natL (zs : List Int) : List Nat := zs.map Int.toNat
theorem natL_len (zs : List Int) : (natL zs).length = zs.length := by simp [natL]
theorem shareL_append (a b : List Nat) (m : Nat) : shareL (a ++ b) m = shareL a m + shareL b m := by unfold shareL; rw [List.map_append, List.sum_append]
theorem shareL_le (ls : List Nat) (m : Nat) : shareL ls m ≤ ls.length * 2 ^ m := by
  induction ls with
  | nil => simp [shareL]
  | cons k ls ih =>
    unfold shareL at ih ⊢
    rw [List.map_cons, List.sum_cons, List.length_cons, Nat.succ_mul]
    have : (if 1 ≤ k ∧ k ≤ m then 2 ^ (m - k) else 0) ≤ 2 ^ m := by
      split
      · exact Nat.pow_le_pow_right (by decide) (by omega)
      · exact Nat.zero_le _
    generalize 2 ^ m = P at *
    omega
theorem take_snoc {α : Type} {l : List α} {i : Nat} (h : i < l.length) : l.take (i + 1) = l.take i ++ [l[i]] := by rw [List.take_add_one, List.getElem?_eq_getElem h]; rfl
theorem natL_snoc {i : Nat} (h : i < zs.length) : natL (zs.take (i + 1)) = natL (zs.take i) ++ [zs[i].toNat] := by unfold natL; rw [take_snoc h, List.map_append]; rfl
theorem canonShare_spec (hs : Sl H v 1 (numsV zs)) (hlen : zs.length ≤ maxLen) (hno : ¬ okZ zs → R (.int .i64 (-1)) H) (hyes : okZ zs → R (.int .i64 (shareL (natL zs) 15 : Nat)) H) : CallsH Try.prog 15 #[v] H R := by
  have hmax : maxLen = 9223372036854775807 := rfl
  have hvl : (numsV zs).length = zs.length * 1 := by rw [numsV_len]; omega
  refine canon_Share.vc _ _ _ ?_
  unfold canon_Share.res
  refine hs.len hvl (by decide) ?_
  rw [pGt_v]
  refine pCond_if (fun hc => hno (fun h => by have := h.1; omega)) (fun hc => ?_)
  refine hs.len hvl (by decide) ?_
  refine ⟨fun s i H' => ∃ k : Nat, i = .int .i64 k ∧ k ≤ zs.length ∧ s = .int .i64 (shareL (natL (zs.take k)) 15 : Nat) ∧ (∀ z ∈ zs.take k, 0 ≤ z ∧ z ≤ 15) ∧ H = H', fun _ i _ => match i with | .int _ x => (1000 - x).toNat | _ => 0, ⟨0, rfl, by omega, rfl, by simp, rfl⟩, ?_⟩
  rintro _ _ _ _ ⟨k, rfl, hk, rfl, hok, rfl⟩
  have hsl := shareL_le (natL (zs.take k)) 15
  rw [natL_len, List.length_take] at hsl
  have hsl2 : shareL (natL (zs.take k)) 15 ≤ 288 * 2 ^ 15 := Nat.le_trans hsl (Nat.mul_le_mul_right _ (by omega))
  rw [pLt_v]
  refine pCond_if (fun hkl => ?_) (fun hkl => ?_)
  rotate_left
  · have : k = zs.length := by omega
    subst this
    rw [List.take_length] at hok ⊢
    exact hyes ⟨by omega, hok⟩
  have hkn : k < zs.length := by omega
  refine hs.at_ hvl (by decide) (by omega) (by omega) fun p hp => ?_
  refine hp.load hs (w := .int .i64 zs[k]) (by rw [Int.toNat_natCast, Nat.mul_one, numsV_get hkn]) ?_
  have hmem : zs[k] ∈ zs := List.getElem_mem hkn
  have hsn := natL_snoc hkn
  rw [pLt_v]
  rw [show (fun J_4 : Value → Heap → Prop => pGt (.int .i64 zs[k]) (.int .i64 15) fun x20 => J_4 x20 H) = fun J_4 => J_4 (.bool (decide (15 < zs[k]))) H from by funext J; rw [pGt_v], pOr_pure]
  intro _
  refine pCond_b (fun hb => hno (fun h => ?_)) (fun hb => ?_)
  · simp only [Bool.or_eq_true, decide_eq_true_eq] at hb
    have := h.2 _ hmem
    omega
  simp only [Bool.or_eq_false_iff, decide_eq_false_iff_not] at hb
  have hok' : ∀ z ∈ zs.take (k + 1), 0 ≤ z ∧ z ≤ 15 := by
    rw [take_snoc hkn]
    intro z hz
    rcases List.mem_append.1 hz with hz | hz
    · exact hok z hz
    · rw [List.mem_singleton.1 hz]; omega
  rw [pGt_v]
  refine pCond_if (fun hpos => ?_) (fun hpos => ?_)
  · obtain ⟨q, hq⟩ : ∃ q : Nat, zs[k] = q := ⟨zs[k].toNat, by omega⟩
    have hst : shareL (natL (zs.take (k + 1))) 15 = shareL (natL (zs.take k)) 15 + 2 ^ (15 - q) := by
      rw [hsn, shareL_append, hq, Int.toNat_natCast]
      unfold shareL
      rw [List.map_cons, List.map_nil, List.sum_cons, List.sum_nil, if_pos (by omega), Nat.add_zero]
    have hp2 : 2 ^ (15 - q) ≤ 2 ^ 15 := Nat.pow_le_pow_right (by decide) (by omega)
    rw [hq, pSub_v, w64 (n := 15 - (q : Int)) (by omega) (by omega), pShl_v]
    refine ⟨by omega, ?_⟩
    rw [show min (15 - (q : Int)).toNat IntKind.i64.bits = 15 - q by show min (15 - (q : Int)).toNat 64 = _; omega]
    rw [show (1 : Int) * 2 ^ (15 - q) = ((2 ^ (15 - q) : Nat) : Int) by rw [Int.one_mul, Int.natCast_pow]; rfl]
    generalize 2 ^ (15 - q) = P at *
    rw [w64 (n := (P : Int)) (by omega) (by omega), pAdd_v, w64 (n := ((shareL (natL (zs.take k)) 15 : Nat) : Int) + (P : Int)) (by omega) (by omega), pAdd_v, w64 (n := (k : Int) + 1) (by omega) (by omega)]
    exact ⟨⟨k + 1, rfl, by omega, by rw [hst]; rfl, hok', rfl⟩, by show (_ : Int).toNat < (_ : Int).toNat; omega⟩
  · have hst : shareL (natL (zs.take (k + 1))) 15 = shareL (natL (zs.take k)) 15 := by
      rw [hsn, shareL_append]
      unfold shareL
      rw [List.map_cons, List.map_nil, List.sum_cons, List.sum_nil, if_neg (by omega), Nat.add_zero, Nat.add_zero]
    rw [pAdd_v, w64 (n := (k : Int) + 1) (by omega) (by omega)]
    exact ⟨⟨k + 1, rfl, by omega, by rw [hst], hok', rfl⟩, by show (_ : Int).toNat < (_ : Int).toNat; omega⟩
/-- how many words of each length are free -/
def fillL (S : Nat) : List Int := (List.range 16).map fun n => (((32768 - S) / 2 ^ (15 - n) % 2 : Nat) : Int)
theorem fillL_len (S : Nat) : (fillL S).length = 16 := by simp [fillL]
theorem fillL_at {S n : Nat} (hn : n < 16) : (fillL S)[n]'(by rw [fillL_len]; exact hn) = (((32768 - S) / 2 ^ (15 - n) % 2 : Nat) : Int) := by simp [fillL]
theorem and1_i64 {m : Nat} (hm : m < 9223372036854775808) : bitsOf .and .i64 (m : Int) 1 = ((m % 2 : Nat) : Int) := by
  have e : ((BitVec.ofInt 64 (m : Int)) &&& (BitVec.ofInt 64 1)).toNat = m % 2 := by
    rw [BitVec.toNat_and, BitVec.ofInt_natCast, BitVec.toNat_ofNat, Nat.mod_eq_of_lt (by omega)]
    show m &&& 1 = m % 2
    exact Nat.and_one_is_mod m
  show IntKind.i64.wrap ((((BitVec.ofInt 64 (m : Int)) &&& (BitVec.ofInt 64 1)).toNat : Nat) : Int) = _
  rw [e, w64 (by omega) (by omega)]
theorem canonFill_spec (hs : Sl H v 1 (numsV zs)) (hlen : zs.length ≤ maxLen) (hno : ¬ (okZ zs ∧ shareL (natL zs) 15 ≤ 32768) → R (.slice none 0 0) H)
    (hyes : okZ zs → shareL (natL zs) 15 ≤ 32768 → ∀ y H', Owns H H' [.sl y 1 (numsV (fillL (shareL (natL zs) 15)))] → R y H') : CallsH Try.prog 16 #[v] H R := by
  refine canon_Fill.vc _ _ _ ?_
  unfold canon_Fill.res
  refine canonShare_spec hs hlen (fun h => ?_) (fun h => ?_)
  · rw [pLt_v, decide_eq_true (by decide), pOr_true]
    intro _
    rw [pCond_true]
    exact hno (fun g => h g.1)
  rw [pLt_v, decide_eq_false (by omega)]
  refine pOr_false ?_
  rw [pGt_v]
  intro _
  refine pCond_if (fun hc => hno (fun g => by have := g.2; omega)) (fun hc => ?_)
  have hk := hyes h (by omega)
  generalize hS : shareL (natL zs) 15 = S at *
  refine (Owns.start (H := H)).make1 (by decide) (by decide) (by decide) fun y H1 o => ?_
  have o : Owns H H1 [.sl y 1 (numsV (List.replicate 16 0))] := by rw [← numsV_rep]; exact o
  refine (o.sl (by repeat (first | exact List.mem_cons_self | apply List.mem_cons_of_mem))).len (n := 16) rfl (by decide) ?_
  refine ⟨fun i H' => ∃ k : Nat, i = .int .i64 k ∧ k ≤ 16 ∧ Owns H H' [.sl y 1 (numsV ((fillL S).take k ++ List.replicate (16 - k) 0))], fun i _ => match i with | .int _ x => (1000 - x).toNat | _ => 0, ⟨0, rfl, by omega, o⟩, ?_⟩
  rintro _ _ H2 ⟨k, rfl, hk16, o⟩
  rw [pLt_v]
  refine pCond_if (fun hkl => ?_) (fun hkl => ?_)
  · have hkn : k < 16 := by omega
    rw [pSub_v, w64 (n := 32768 - (S : Int)) (by omega) (by omega), pSub_v, w64 (n := 15 - (k : Int)) (by omega) (by omega), pShr_v]
    refine ⟨by omega, ?_⟩
    rw [show (32768 - (S : Int)) = ((32768 - S : Nat) : Int) by omega, fdiv_nat (j := 15 - k) (by show min (15 - (k : Int)).toNat 64 = 15 - k; omega)]
    have hdl : (32768 - S) / 2 ^ (15 - k) ≤ 32768 := Nat.le_trans (Nat.div_le_self _ _) (by omega)
    rw [pBits_v, and1_i64 (by omega)]
    have hl : (numsV ((fillL S).take k ++ List.replicate (16 - k) 0)).length = 16 * 1 := by rw [numsV_len, List.length_append, List.length_take, List.length_replicate, fillL_len]; omega
    refine (o.sl (v := y) (by repeat (first | exact List.mem_cons_self | apply List.mem_cons_of_mem))).at_ hl (by decide) (by omega) (by omega) fun p hp => ?_
    refine o.store hp (by repeat (first | exact List.mem_cons_self | apply List.mem_cons_of_mem)) (by rw [hl]; omega) rfl (by repeat (first | exact Rep.here | apply Rep.there)) fun H3 o _ => ?_
    rw [Int.toNat_natCast, Nat.mul_one, numsV_set] at o
    have e : ((fillL S).take k ++ List.replicate (16 - k) 0).set k (((32768 - S) / 2 ^ (15 - k) % 2 : Nat) : Int) = (fillL S).take (k + 1) ++ List.replicate (16 - (k + 1)) 0 := by
      rw [List.set_append_right _ _ (by rw [List.length_take, fillL_len]; omega), List.length_take, fillL_len, show k - min k 16 = 0 by omega, show 16 - k = (16 - (k + 1)) + 1 by omega, List.replicate_succ, List.set_cons_zero, take_snoc (by rw [fillL_len]; exact hkn), fillL_at hkn]
      simp
    rw [e] at o
    rw [pAdd_v, w64 (n := (k : Int) + 1) (by omega) (by omega)]
    exact ⟨⟨k + 1, rfl, by omega, o⟩, by show (_ : Int).toNat < (_ : Int).toNat; omega⟩
  · have : k = 16 := by omega
    subst this
    rw [List.take_of_length_le (by rw [fillL_len]; omega), Nat.sub_self, List.replicate_zero, List.append_nil] at o
    exact hk y H2 o
/-- the lowest n bits of v, in the opposite order -/
def revN (v : Nat) : Nat → Nat
  | 0 => 0
  | n + 1 => 2 * revN v n + (v / 2 ^ n) % 2
theorem revN_lt (v : Nat) : ∀ n, revN v n < 2 ^ n
  | 0 => by simp [revN]
  | n + 1 => by
    have := revN_lt v n
    have h2 : (v / 2 ^ n) % 2 < 2 := Nat.mod_lt _ (by decide)
    rw [revN, Nat.pow_succ]
    generalize 2 ^ n = P at *
    omega
theorem turned_spec03 {x n : Nat} (hx : x < 18446744073709551616) (hn : n ≤ 60) (h : R (.int .u64 (revN x n : Nat)) H) : CallsH Try.prog 39 #[.int .u64 (x : Int), .int .i64 (n : Int)] H R := by
  refine canon_turned.vc _ _ _ _ ?_
  unfold canon_turned.res
  refine ⟨fun v o i H' => ∃ k : Nat, i = .int .i64 k ∧ k ≤ n ∧ v = .int .u64 ((x / 2 ^ k : Nat) : Int) ∧ o = .int .u64 (revN x k : Nat) ∧ H = H', fun _ _ i _ => match i with | .int _ x => (1000 - x).toNat | _ => 0, ⟨0, rfl, by omega, by rw [Nat.pow_zero, Nat.div_one], rfl, rfl⟩, ?_⟩
  rintro _ _ _ _ _ ⟨k, rfl, hk, rfl, rfl, rfl⟩
  have hr := revN_lt x k
  have hp : 2 ^ k ≤ 2 ^ 60 := Nat.pow_le_pow_right (by decide) (by omega)
  have hd : x / 2 ^ k ≤ x := Nat.div_le_self _ _
  rw [pLt_v]
  refine pCond_if (fun hc => ?_) (fun hc => ?_)
  · rw [pShl_v]
    refine ⟨by decide, ?_⟩
    rw [show min (1 : Int).toNat IntKind.u64.bits = 1 from rfl, pBits_v]
    have e1 : IntKind.u64.wrap (((revN x k : Nat) : Int) * 2 ^ 1) = ((2 * revN x k : Nat) : Int) := by rw [wu64 (by omega) (by omega)]; omega
    have e2 : bitsOf .and .u64 ((x / 2 ^ k : Nat) : Int) 1 = ((x / 2 ^ k % 2 : Nat) : Int) := by
      have := and_u64 (a := x / 2 ^ k) (b := 1) (by omega) (by omega)
      rw [Nat.and_one_is_mod] at this
      exact this
    have h2 : (x / 2 ^ k) % 2 < 2 := Nat.mod_lt _ (by decide)
    rw [e1, e2, pBits_v, or_u64 (by omega) (by omega)]
    have e3 : 2 * revN x k ||| x / 2 ^ k % 2 = revN x (k + 1) := by
      rw [revN, Nat.or_comm, Nat.mul_comm]
      have := or_disj (a := x / 2 ^ k % 2) (v := revN x k) (n := 1) (by simpa using h2)
      rw [Nat.pow_one] at this
      rw [this]; omega
    rw [e3, pShr_v]
    refine ⟨by decide, ?_⟩
    rw [show min (1 : Int).toNat IntKind.u64.bits = 1 from rfl, fdiv_nat (j := 1) rfl, Nat.div_div_eq_div_mul, show 2 ^ k * 2 ^ 1 = 2 ^ (k + 1) from rfl, pAdd_v, w64 (n := (k : Int) + 1) (by omega) (by omega)]
    exact ⟨⟨k + 1, rfl, by omega, rfl, rfl, rfl⟩, by show (_ : Int).toNat < (_ : Int).toNat; omega⟩
  · have : k = n := by omega
    subst this
    exact h
end Go.Proofs.Ytcbaklebiohedaa
