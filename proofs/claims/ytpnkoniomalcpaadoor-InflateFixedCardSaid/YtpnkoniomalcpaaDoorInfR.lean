/- What the decoder tells of blocks that are written as such, on lists of bits. -/
import Derived.Test.YtpnkoniomalcpaaDoorInfP
namespace Go.Proofs.YtpnkoniomalcpaaDoor
open Go Go.Vc Go.Proofs
set_option linter.unusedVariables false
set_option linter.unusedSimpArgs false
variable {B C E : List Bool} {W : List UInt8} {l : Bool}
/-- some steps, and what they tell -/
inductive Steps : DM → List UInt8 → DM → Prop
  | refl {D : DM} : Steps D [] D
  | step {D D1 D2 : DM} {o1 o2 : List UInt8} : stepM D = .go D1 o1 → Steps D1 o2 D2 → Steps D (o1 ++ o2) D2
theorem Steps.one {D D1 : DM} {o : List UInt8} (h : stepM D = .go D1 o) : Steps D o D1 := by
  have := Steps.step h Steps.refl
  rwa [List.append_nil] at this
theorem Steps.trans {D D1 D2 : DM} {o1 o2 : List UInt8} (h : Steps D o1 D1) (k : Steps D1 o2 D2) : Steps D (o1 ++ o2) D2 := by
  induction h with
  | refl => exact k
  | step hs _ ih => rw [List.append_assoc]; exact .step hs (ih k)
theorem Steps.run {D D' : DM} {o : List UInt8} (h : Steps D o D') : run D = (o ++ (run D').1, (run D').2) := by
  induction h with
  | refl => simp
  | step hs _ ih => rw [run_go hs, ih]; simp only [List.append_assoc]
theorem run_empty : run ⟨.hd, [], W⟩ = ([], ⟨.hd, [], W⟩, 0) := run_wait rfl rfl
theorem Steps.fin {D D' : DM} {o : List UInt8} (h : Steps D o D') (hd : D'.st.isDn = true) : Go.Proofs.YtpnkoniomalcpaaDoor.run D = (o, D', 0) := by
  rw [h.run, run_dn hd]; simp
/-! ### beginnings -/
theorem need3 {a b c : Bool} : needM 3 (a :: b :: c :: C) = .ok (numB [a, b, c]) C := by
  unfold needM
  rw [if_pos (by simp)]
  rfl
theorem step_fixed : stepM ⟨.hd, l :: true :: false :: C, W⟩ = .go ⟨.tl fixL fixD l, C, W⟩ [] := by
  have : headM (l :: true :: false :: C) = .ok (.tl fixL fixD l) C := by
    unfold headM
    rw [need3]
    cases l <;> rfl
  show (match headM (l :: true :: false :: C) with | .ok st B => SR.go ⟨st, B, W⟩ [] | .er e => SR.of _ e) = _
  rw [this]
theorem xor_ones {n : Nat} (h : n < 65536) : n ^^^ (65535 - n) = 65535 := by
  apply Nat.eq_of_testBit_eq
  intro i
  rw [Nat.testBit_xor, show 65535 - n = 2 ^ 16 - (n + 1) by omega, Nat.testBit_two_pow_sub_succ (by simpa using h), show (65535 : Nat) = 2 ^ 16 - 1 from rfl, Nat.testBit_two_pow_sub_one]
  by_cases hi : i < 16
  · simp [hi]
  · have : n.testBit i = false := Nat.testBit_lt_two_pow (Nat.lt_of_lt_of_le h (Nat.pow_le_pow_right (n := 2) (i := 16) (by decide) (by omega)))
    simp [hi, this]
theorem step_stored {n : Nat} (hn : n < 65536) (h : alB C = bitsN n 16 ++ bitsN (65535 - n) 16 ++ E) : stepM ⟨.hd, l :: false :: false :: C, W⟩ = .go ⟨.cp n l, E, W⟩ [] := by
  have hnd : needM 32 (alB C) = .ok (n + 2 ^ 16 * (65535 - n)) E := by
    unfold needM
    have hl : (bitsN n 16 ++ bitsN (65535 - n) 16).length = 32 := by rw [List.length_append, bitsN_len, bitsN_len]
    rw [h, if_pos (by rw [List.length_append, hl]; omega)]
    rw [← hl, List.take_append_of_le_length (Nat.le_refl _), List.take_length, List.drop_append_of_le_length (Nat.le_refl _), List.drop_length, List.nil_append, numB_append, numB_bitsN, numB_bitsN, bitsN_len, Nat.mod_eq_of_lt (by simpa using hn), Nat.mod_eq_of_lt (by omega)]
  have : headM (l :: false :: false :: C) = .ok (.cp n l) E := by
    unfold headM
    rw [need3]
    dsimp only [Rs.bind]
    have h0 : numB [l, false, false] / 2 = 0 := by cases l <;> rfl
    have h1 : decide (numB [l, false, false] % 2 = 1) = l := by cases l <;> rfl
    rw [if_pos h0, hnd]
    dsimp only
    have e1 : (n + 2 ^ 16 * (65535 - n)) % 65536 = n := by omega
    have e2 : (n + 2 ^ 16 * (65535 - n)) / 65536 = 65535 - n := by omega
    rw [e1, e2, h1, if_neg (fun g => g (xor_ones hn))]
  show (match headM (l :: false :: false :: C) with | .ok st B => SR.go ⟨st, B, W⟩ [] | .er e => SR.of _ e) = _
  rw [this]
theorem step_copy {s : List UInt8} (hE : E.length % 8 = 0) : stepM ⟨.cp s.length l, toBits s ++ E, W⟩ = .go (endM l E (W ++ s)) s := by
  have hl := toBits_len s
  have hal : alB (toBits s ++ E) = toBits s ++ E := by
    unfold alB
    rw [List.length_append, hl, show (8 * s.length + E.length) % 8 = 0 by omega]; rfl
  have e1 : stepM ⟨.cp s.length l, toBits s ++ E, W⟩ = if min s.length ((alB (toBits s ++ E)).length / 8) < s.length then .wait ⟨.cp (s.length - min s.length ((alB (toBits s ++ E)).length / 8)) l, (alB (toBits s ++ E)).drop (8 * min s.length ((alB (toBits s ++ E)).length / 8)), W ++ toBytes ((alB (toBits s ++ E)).take (8 * min s.length ((alB (toBits s ++ E)).length / 8)))⟩ (toBytes ((alB (toBits s ++ E)).take (8 * min s.length ((alB (toBits s ++ E)).length / 8))))
      else .go (endM l ((alB (toBits s ++ E)).drop (8 * s.length)) (W ++ toBytes ((alB (toBits s ++ E)).take (8 * s.length)))) (toBytes ((alB (toBits s ++ E)).take (8 * s.length))) := rfl
  rw [e1, hal, if_neg (by rw [List.length_append, hl]; omega), ← hl, List.take_append_of_le_length (Nat.le_refl _), List.take_length, List.drop_append_of_le_length (Nat.le_refl _), List.drop_length, List.nil_append, toBytes_toBits']
/-! ### symbols -/
theorem step_tl {zs zd : List Int} {s : Nat} (hn : nextM zs B = .ok s C) : stepM ⟨.tl zs zd l, B, W⟩ = if s = 256 then .go (endM l C W) [] else if s < 256 then .go ⟨.tl zs zd l, C, W ++ [UInt8.ofNat s]⟩ [UInt8.ofNat s] else match matchM zd s C with
    | .er e => SR.of ⟨.tl zs zd l, B, W⟩ e
    | .ok p B2 => if 1 ≤ p.2 ∧ p.2 ≤ min W.length 32768 then .go ⟨.tl zs zd l, B2, copyN p.1 W p.2⟩ ((copyN p.1 W p.2).drop W.length) else .bad 6 := by
  have e1 : stepM ⟨.tl zs zd l, B, W⟩ = match nextM zs B with
    | .er e => SR.of ⟨.tl zs zd l, B, W⟩ e
    | .ok s C => if s = 256 then .go (endM l C W) [] else if s < 256 then .go ⟨.tl zs zd l, C, W ++ [UInt8.ofNat s]⟩ [UInt8.ofNat s] else match matchM zd s C with
      | .er e => SR.of ⟨.tl zs zd l, B, W⟩ e
      | .ok p B2 => if 1 ≤ p.2 ∧ p.2 ≤ min W.length 32768 then .go ⟨.tl zs zd l, B2, copyN p.1 W p.2⟩ ((copyN p.1 W p.2).drop W.length) else .bad 6 := rfl
  rw [e1, hn]
theorem step_lit {zs zd : List Int} {x : UInt8} (hn : nextM zs B = .ok x.toNat C) : stepM ⟨.tl zs zd l, B, W⟩ = .go ⟨.tl zs zd l, C, W ++ [x]⟩ [x] := by
  have := x.toNat_lt
  rw [step_tl hn, if_neg (by omega), if_pos (by omega)]
  simp
theorem step_end {zs zd : List Int} (hn : nextM zs B = .ok 256 C) : stepM ⟨.tl zs zd l, B, W⟩ = .go (endM l C W) [] := by
  rw [step_tl hn, if_pos rfl]
/-- the word of a symbol -/
theorem next_word {zs : List Int} (hz : okC zs) {s : Nat} (hs : s < zs.length) (h1 : 1 ≤ (natL zs).getD s 0) : nextM zs (wordB (natL zs) s ++ C) = .ok s C := by
  have hl := wordB_len (natL zs) s
  rw [nextM_hit hz (s := s) ⟨by rw [natL_len]; exact hs, h1, by rw [← hl, List.take_append_of_le_length (Nat.le_refl _), List.take_length]⟩]
  rw [← hl, List.drop_append_of_le_length (Nat.le_refl _), List.drop_length, List.nil_append]
/-- a number's bits, the highest first -/
def hbits (v n : Nat) : List Bool := (List.range n).map fun i => v.testBit (n - 1 - i)
def fixWord (s : Nat) : List Bool := if s < 144 then hbits (48 + s) 8 else if s < 256 then hbits (400 + s - 144) 9 else if s < 280 then hbits (s - 256) 7 else hbits (192 + s - 280) 8
set_option maxRecDepth 100000 in
theorem fix_words : ∀ s : Fin 288, wordB (natL fixL) s.val = fixWord s.val ∧ 1 ≤ (natL fixL).getD s.val 0 := by decide +kernel
theorem fixd_words : ∀ s : Fin 32, wordB (natL fixD) s.val = hbits s.val 5 ∧ 1 ≤ (natL fixD).getD s.val 0 := by decide +kernel
theorem next_fix {s : Nat} (hs : s < 288) : nextM fixL (fixWord s ++ C) = .ok s C := by
  have := fix_words ⟨s, hs⟩
  dsimp only at this
  rw [← this.1]
  exact next_word fixL_ok (by show s < fixL.length; rw [show fixL.length = 288 by decide +kernel]; exact hs) this.2
theorem next_fixd {s : Nat} (hs : s < 32) : nextM fixD (hbits s 5 ++ C) = .ok s C := by
  have := fixd_words ⟨s, hs⟩
  dsimp only at this
  rw [← this.1]
  exact next_word fixD_ok (by show s < fixD.length; rw [show fixD.length = 32 by decide +kernel]; exact hs) this.2
end Go.Proofs.YtpnkoniomalcpaaDoor
