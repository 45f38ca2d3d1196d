/- Streams of stored blocks; streams that come in pieces. -/
import Derived.Test.YtpnkoniomalcpaaDoorInfR
import Derived.Test.YtpnkoniomalcpaaDoorInfA
import Derived.Test.YtpnkoniomalcpaaDoorBytesN
namespace Go.Proofs.YtpnkoniomalcpaaDoor
open Go Go.Vc Go.Proofs
set_option linter.unusedVariables false
set_option linter.unusedSimpArgs false
theorem toBits_putN (n : Nat) : ∀ k, toBits (putN n k) = bitsN n (8 * k)
  | 0 => rfl
  | k + 1 => by
    rw [putN_succ, toBits_append, toBits_putN n k, toBits_one, show 8 * (k + 1) = 8 * k + 8 by omega, bitsN_add]
    congr 1
    rw [UInt8.toNat_ofNat_of_lt' (by show _ < 256; omega), show (256 : Nat) = 2 ^ 8 from rfl, bitsN_mod, show (2 : Nat) ^ (8 * k) = (2 ^ 8) ^ k by rw [Nat.pow_mul]]
/-- a stored block that isn't the last one -/
def blkS (c : List UInt8) : List UInt8 := 0 :: (putN c.length 2 ++ putN (65535 - c.length) 2 ++ c)
theorem blkS_len (c : List UInt8) : (blkS c).length = 5 + c.length := by
  unfold blkS; rw [List.length_cons, List.length_append, List.length_append, putN_len, putN_len]; omega
theorem al5 {X : List Bool} (h : X.length % 8 = 0) (a b c d e : Bool) : alB (a :: b :: c :: d :: e :: X) = X := by
  unfold alB
  rw [show (a :: b :: c :: d :: e :: X).length % 8 = 5 by simp only [List.length_cons]; omega]
  rfl
theorem toBits8 (l : List UInt8) : (toBits l).length % 8 = 0 := by rw [toBits_len]; omega
theorem steps_blk {c tail : List UInt8} {W : List UInt8} (hc : c.length < 65536) : Steps ⟨.hd, toBits (blkS c ++ tail), W⟩ c ⟨.hd, toBits tail, W ++ c⟩ := by
  have e1 : toBits (blkS c ++ tail) = false :: false :: false :: (false :: false :: false :: false :: false :: (bitsN c.length 16 ++ bitsN (65535 - c.length) 16 ++ (toBits c ++ toBits tail))) := by
    unfold blkS
    rw [List.cons_append, toBits_cons, List.append_assoc, toBits_append, toBits_append, toBits_append, toBits_putN, toBits_putN]
    rfl
  rw [e1]
  have hx : (bitsN c.length 16 ++ bitsN (65535 - c.length) 16 ++ (toBits c ++ toBits tail)).length % 8 = 0 := by
    rw [List.length_append, List.length_append, List.length_append, bitsN_len, bitsN_len, toBits_len, toBits_len]; omega
  have s1 := step_stored (l := false) (W := W) hc (al5 hx false false false false false)
  have s2 := step_copy (l := false) (W := W) (s := c) (toBits8 tail)
  have := Steps.step s1 (Steps.one s2)
  rwa [List.nil_append] at this
theorem steps_blks : ∀ (L : List (List UInt8)) (tail W : List UInt8), (∀ c ∈ L, c.length < 65536) → Steps ⟨.hd, toBits (L.flatMap blkS ++ tail), W⟩ L.flatten ⟨.hd, toBits tail, W ++ L.flatten⟩
  | [], tail, W, _ => by simpa using Steps.refl
  | c :: L, tail, W, h => by
    rw [List.flatMap_cons, List.append_assoc, List.flatten_cons, ← List.append_assoc W]
    exact (steps_blk (h c (by simp))).trans (steps_blks L tail (W ++ c) (fun c hc => h c (by simp [hc])))
/-- a stream of stored blocks, and some bytes behind it -/
def strS (L : List (List UInt8)) (rest : List UInt8) : List UInt8 := L.flatMap blkS ++ ([1, 0, 0, 255, 255] ++ rest)
theorem run_strS {L : List (List UInt8)} {rest : List UInt8} (h : ∀ c ∈ L, c.length < 65536) : run ⟨.hd, toBits (strS L rest), []⟩ = (L.flatten, ⟨.dn, toBits rest, L.flatten⟩, 0) := by
  have s0 := steps_blks L ([1, 0, 0, 255, 255] ++ rest) [] h
  rw [List.nil_append] at s0
  have e1 : toBits ([1, 0, 0, 255, 255] ++ rest) = true :: false :: false :: (false :: false :: false :: false :: false :: (bitsN 0 16 ++ bitsN (65535 - 0) 16 ++ toBits rest)) := by
    rw [toBits_append]
    rfl
  have hx : (bitsN 0 16 ++ bitsN (65535 - 0) 16 ++ toBits rest).length % 8 = 0 := by
    rw [List.length_append, List.length_append, bitsN_len, bitsN_len, toBits_len]; omega
  have s1 := step_stored (l := true) (W := L.flatten) (n := 0) (by decide) (al5 hx false false false false false)
  have s2 := step_copy (l := true) (W := L.flatten) (s := []) (toBits8 rest)
  rw [e1] at s0
  have hall := s0.trans (Steps.step s1 (Steps.one s2))
  have hf : endM true (toBits rest) (L.flatten ++ []) = ⟨.dn, toBits rest, L.flatten⟩ := by
    unfold endM alB
    rw [toBits8, List.append_nil]; rfl
  have hnil : (toBits ([] : List UInt8) ++ toBits rest) = toBits rest := rfl
  rw [hf] at hall
  have := hall.fin rfl
  simpa [strS] using this
/-! ### pieces -/
/-- what is told of a text's beginning -/
noncomputable def preR (s : List UInt8) (p : Nat) : List UInt8 × DM × Int := run ⟨.hd, toBits (s.take p), []⟩
theorem preR_zero (s : List UInt8) : preR s 0 = ([], ⟨.hd, [], []⟩, 0) := run_empty
theorem preR_all {s : List UInt8} {p : Nat} (h : s.length ≤ p) : preR s p = run ⟨.hd, toBits s, []⟩ := by unfold preR; rw [List.take_of_length_le h]
theorem preR_ok {s : List UInt8} (h : (run ⟨.hd, toBits s, []⟩).2.2 = 0) (p : Nat) : (preR s p).2.2 = 0 := by
  by_cases h0 : (preR s p).2.2 = 0
  · exact h0
  · have := (run_add (C := toBits (s.drop p)) (toBits8 _) _ ⟨.hd, toBits (s.take p), []⟩ (Nat.lt_succ_self _) trivial).2 h0
    have e : DM.add ⟨.hd, toBits (s.take p), []⟩ (toBits (s.drop p)) = ⟨.hd, toBits s, []⟩ := by
      unfold DM.add
      rw [← toBits_append, List.take_append_drop]
    rw [e] at this
    exact absurd (this.1.symm.trans h) h0
theorem preR_next {s : List UInt8} (h : (run ⟨.hd, toBits s, []⟩).2.2 = 0) (p q : Nat) : preR s (p + q) = ((preR s p).1 ++ (run ((preR s p).2.1.add (toBits ((s.drop p).take q)))).1, (run ((preR s p).2.1.add (toBits ((s.drop p).take q)))).2) := by
  have h0 := preR_ok h p
  have := (run_add (C := toBits ((s.drop p).take q)) (toBits8 _) _ ⟨.hd, toBits (s.take p), []⟩ (Nat.lt_succ_self _) trivial).1 h0
  have e : DM.add ⟨.hd, toBits (s.take p), []⟩ (toBits ((s.drop p).take q)) = ⟨.hd, toBits (s.take (p + q)), []⟩ := by
    unfold DM.add
    rw [← toBits_append, ← List.take_add]
  rw [e] at this
  exact this
theorem preR_inv (s : List UInt8) (p : Nat) : (preR s p).2.1.W = (preR s p).1 ∧ (preR s p).2.1.W.length + 258 * (preR s p).2.1.B.length ≤ 258 * (8 * s.length) ∧ leftOk (preR s p).2.1.st := by
  have := run_inv _ ⟨.hd, toBits (s.take p), []⟩ (Nat.lt_succ_self _) trivial
  refine ⟨this.1, ?_, this.2.2⟩
  have h2 := this.2.1
  rw [show (DM.mk .hd (toBits (s.take p)) []).B.length = 8 * (s.take p).length from toBits_len _, List.length_take] at h2
  have : (DM.mk .hd (toBits (s.take p)) []).W.length = 0 := rfl
  unfold preR
  omega
end Go.Proofs.YtpnkoniomalcpaaDoor
