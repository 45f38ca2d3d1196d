/- Datagrams in plain lists: what is written is read again; bits that are turned tell. -/
import Derived.Test.YtacfmbookcgjoaaDgramD
namespace Go.Proofs.Ytacfmbookcgjoaa
open Go Go.Vc Go.Proofs
set_option linter.unusedVariables false
set_option linter.unusedSimpArgs false
theorem putN_cons (n k : Nat) : putN n (k + 1) = UInt8.ofNat (n % 256) :: putN (n / 256) k := by
  unfold putN
  rw [List.range_succ_eq_map, List.map_cons, List.map_map]
  congr 1
  · rw [Nat.pow_zero, Nat.div_one]
  · apply List.map_congr_left
    intro i _
    simp only [Function.comp]
    rw [Nat.pow_succ, Nat.mul_comm, Nat.div_div_eq_div_mul]
theorem getN_putN : ∀ (k n : Nat), getN (putN n k) = n % 256 ^ k
  | 0, n => by rw [Nat.pow_zero, Nat.mod_one]; rfl
  | k + 1, n => by
    rw [putN_cons, getN, getN_putN k, UInt8.toNat_ofNat', show 256 ^ (k + 1) = 256 * 256 ^ k by rw [Nat.pow_succ, Nat.mul_comm], Nat.mod_mul, Nat.mod_eq_of_lt (by omega : n % 256 < 2 ^ 8)]
theorem getN_put {n k : Nat} (h : n < 256 ^ k) : getN (putN n k) = n := by rw [getN_putN, Nat.mod_eq_of_lt h]
theorem putN_getN : ∀ (l : List UInt8), putN (getN l) l.length = l
  | [] => rfl
  | b :: l => by
    have hb : b.toNat < 256 := b.toNat_lt
    rw [List.length_cons, putN_cons, getN, show (b.toNat + 256 * getN l) % 256 = b.toNat by omega, show (b.toNat + 256 * getN l) / 256 = getN l by omega, putN_getN l]
    simp
theorem seg {s p x r : List UInt8} (h : s = p ++ x ++ r) {a n : Nat} (ha : a = p.length) (hn : n = x.length) : (s.drop a).take n = x := by
  subst ha; subst hn; subst h
  rw [List.append_assoc, List.drop_append_of_le_length (Nat.le_refl _), List.drop_of_length_le (Nat.le_refl _), List.nil_append, List.take_append_of_le_length (Nat.le_refl _), List.take_length]
theorem segd {s p x : List UInt8} (h : s = p ++ x) {a : Nat} (ha : a = p.length) : s.drop a = x := by
  subst ha; subst h
  rw [List.drop_append_of_le_length (Nat.le_refl _), List.drop_of_length_le (Nat.le_refl _), List.nil_append]
theorem bytes_flat (d : Dg) : d.bytes = [76, 71] ++ (putN d.kind.toNat 1 ++ (putN d.last.toNat 1 ++ (putN d.session 4 ++ (putN d.epoch 4 ++ (putN d.seq 4 ++ (putN d.at_ 8 ++ (putN d.sum 4 ++ (putN d.map 4 ++ (putN d.text.length 2 ++ d.text))))))))) := by
  unfold Dg.bytes foursL
  simp [List.append_assoc]
theorem parse_bytes {d : Dg} (hf : d.Fits) (hg : d.Good) : Dg.parse d.bytes = d := by
  obtain ⟨f0, f00, f1, f2, f3, f4, f5, f6, f7⟩ := hf
  have hk := hg.1
  have hfl := bytes_flat d
  have e1 : (256 : Nat) ^ 4 = 4294967296 := by decide
  have e2 : (256 : Nat) ^ 8 = 18446744073709551616 := by decide
  have g4 : (d.bytes.drop 4).take 4 = putN d.session 4 := seg (p := [76, 71] ++ putN d.kind.toNat 1 ++ putN d.last.toNat 1) (r := putN d.epoch 4 ++ (putN d.seq 4 ++ (putN d.at_ 8 ++ (putN d.sum 4 ++ (putN d.map 4 ++ (putN d.text.length 2 ++ d.text)))))) (by rw [hfl]; simp [List.append_assoc]) (by simp [putN_len]) (by simp [putN_len])
  have g8 : (d.bytes.drop 8).take 4 = putN d.epoch 4 := seg (p := [76, 71] ++ putN d.kind.toNat 1 ++ putN d.last.toNat 1 ++ putN d.session 4) (r := putN d.seq 4 ++ (putN d.at_ 8 ++ (putN d.sum 4 ++ (putN d.map 4 ++ (putN d.text.length 2 ++ d.text))))) (by rw [hfl]; simp [List.append_assoc]) (by simp [putN_len]) (by simp [putN_len])
  have g12 : (d.bytes.drop 12).take 4 = putN d.seq 4 := seg (p := [76, 71] ++ putN d.kind.toNat 1 ++ putN d.last.toNat 1 ++ putN d.session 4 ++ putN d.epoch 4) (r := putN d.at_ 8 ++ (putN d.sum 4 ++ (putN d.map 4 ++ (putN d.text.length 2 ++ d.text)))) (by rw [hfl]; simp [List.append_assoc]) (by simp [putN_len]) (by simp [putN_len])
  have g16 : (d.bytes.drop 16).take 8 = putN d.at_ 8 := seg (p := [76, 71] ++ putN d.kind.toNat 1 ++ putN d.last.toNat 1 ++ putN d.session 4 ++ putN d.epoch 4 ++ putN d.seq 4) (r := putN d.sum 4 ++ (putN d.map 4 ++ (putN d.text.length 2 ++ d.text))) (by rw [hfl]; simp [List.append_assoc]) (by simp [putN_len]) (by simp [putN_len])
  have g24 : (d.bytes.drop 24).take 4 = putN d.sum 4 := seg (p := [76, 71] ++ putN d.kind.toNat 1 ++ putN d.last.toNat 1 ++ putN d.session 4 ++ putN d.epoch 4 ++ putN d.seq 4 ++ putN d.at_ 8) (r := putN d.map 4 ++ (putN d.text.length 2 ++ d.text)) (by rw [hfl]; simp [List.append_assoc]) (by simp [putN_len]) (by simp [putN_len])
  have g28 : (d.bytes.drop 28).take 4 = putN d.map 4 := seg (p := [76, 71] ++ putN d.kind.toNat 1 ++ putN d.last.toNat 1 ++ putN d.session 4 ++ putN d.epoch 4 ++ putN d.seq 4 ++ putN d.at_ 8 ++ putN d.sum 4) (r := putN d.text.length 2 ++ d.text) (by rw [hfl]; simp [List.append_assoc]) (by simp [putN_len]) (by simp [putN_len])
  have g34 : d.bytes.drop 34 = d.text := segd (p := [76, 71] ++ putN d.kind.toNat 1 ++ putN d.last.toNat 1 ++ putN d.session 4 ++ putN d.epoch 4 ++ putN d.seq 4 ++ putN d.at_ 8 ++ putN d.sum 4 ++ putN d.map 4 ++ putN d.text.length 2) (by rw [hfl]; simp [List.append_assoc]) (by simp [putN_len])
  have hl : d.last.toNat ≤ 1 := by cases d.last <;> simp
  have p1 : ∀ n, n < 256 → putN n 1 = [UInt8.ofNat n] := by
    intro n hn
    show [UInt8.ofNat (n / 256 ^ 0 % 256)] = _
    rw [Nat.pow_zero, Nat.div_one, Nat.mod_eq_of_lt hn]
  have h2 : d.bytes.getD 2 0 = UInt8.ofNat d.kind.toNat := by rw [hfl, p1 d.kind.toNat (by omega)]; rfl
  have h3 : d.bytes.getD 3 0 = UInt8.ofNat d.last.toNat := by rw [hfl, p1 d.kind.toNat (by omega), p1 d.last.toNat (by omega)]; rfl
  unfold Dg.parse
  rw [g4, g8, g12, g16, g24, g28, g34, h2, h3, getN_put (by omega), getN_put (by omega), getN_put (by omega), getN_put (by omega), getN_put (by omega), getN_put (by omega), UInt8.toNat_ofNat', UInt8.toNat_ofNat', Nat.mod_eq_of_lt (by omega : d.kind.toNat < 2 ^ 8), Nat.mod_eq_of_lt (by omega : d.last.toNat < 2 ^ 8)]
  rw [Int.toNat_of_nonneg (by omega)]
  cases d with
  | mk kind session epoch seq at_ sum map last text => cases last <;> simp
theorem decode_code {d : Dg} (hf : d.Fits) (hg : d.Good) : decodeF d.code = (d, 0) := by
  have hl := d.bytes_len
  have hcl : d.code.length = d.bytes.length + 4 := by unfold Dg.code; rw [List.length_append, sumL_len]
  have ht : d.code.take (d.code.length - 4) = d.bytes := by
    unfold Dg.code
    rw [List.length_append, sumL_len, Nat.add_sub_cancel, List.take_append_of_le_length (Nat.le_refl _), List.take_length]
  have hd : d.code.drop (d.code.length - 4) = sumL d.bytes := by
    unfold Dg.code
    rw [List.length_append, sumL_len, Nat.add_sub_cancel, List.drop_append_of_le_length (Nat.le_refl _), List.drop_of_length_le (Nat.le_refl _), List.nil_append]
  unfold decodeF
  rw [ht, hd, if_neg (fun g => g.elim (by omega) (fun g => g rfl)), if_neg (by omega), parse_bytes hf hg, if_pos ⟨hg, rfl⟩]
/-- what is told without an error has just these bytes -/
theorem decode_ok {t : List UInt8} {d : Dg} (h : decodeF t = (d, 0)) : d.Good ∧ d.code = t := by
  unfold decodeF at h
  split at h
  · simp at h
  · rename_i hn
    split at h
    · simp at h
    · split at h
      · rename_i hgb
        simp only [Prod.mk.injEq, and_true] at h
        subst h
        refine ⟨hgb.1, ?_⟩
        unfold Dg.code
        have hs : sumL (t.take (t.length - 4)) = t.drop (t.length - 4) := Classical.byContradiction fun g => hn (.inr g)
        rw [hgb.2, hs, List.take_append_drop]
      · simp at h
theorem decode_fits {t : List UInt8} {d : Dg} {e : Int} (ht : t.length ≤ 9223372036854775807) (h : decodeF t = (d, e)) : d.Fits := by
  have hz : Dg.zero.Fits := ⟨by decide, by decide, by decide, by decide, by decide, by decide, by decide, by decide, by decide⟩
  unfold decodeF at h
  split at h
  · simp only [Prod.mk.injEq] at h; rw [← h.1]; exact hz
  · split at h
    · simp only [Prod.mk.injEq] at h; rw [← h.1]; exact hz
    · split at h
      · simp only [Prod.mk.injEq] at h; rw [← h.1]; exact Dg.parse_fits (by rw [List.length_take]; omega)
      · simp only [Prod.mk.injEq] at h; rw [← h.1]; exact hz
theorem decode_err {t : List UInt8} : (decodeF t).2 = 0 ∨ (decodeF t = (Dg.zero, 7) ∧ (t.length < 4 ∨ sumL (t.take (t.length - 4)) ≠ t.drop (t.length - 4))) ∨ (decodeF t = (Dg.zero, 3) ∧ ¬ (t.length < 4 ∨ sumL (t.take (t.length - 4)) ≠ t.drop (t.length - 4))) := by
  unfold decodeF
  split
  · rename_i h; exact .inr (.inl ⟨rfl, h⟩)
  · rename_i h0
    split
    · exact .inr (.inr ⟨rfl, h0⟩)
    · split
      · exact .inl rfl
      · exact .inr (.inr ⟨rfl, h0⟩)
/-! ### bits that are turned -/
theorem xor_disj {a v n : Nat} (h : a < 2 ^ n) : a ^^^ 2 ^ n * v = a + 2 ^ n * v := by
  apply Nat.eq_of_testBit_eq
  intro i
  rw [Nat.testBit_xor, Nat.add_comm, Nat.testBit_two_pow_mul_add _ h, Nat.testBit_two_pow_mul]
  by_cases hi : i < n
  · simp [hi, show ¬ n ≤ i by omega]
  · have : a.testBit i = false := Nat.testBit_lt_two_pow (Nat.lt_of_lt_of_le h (Nat.pow_le_pow_right (by decide) (by omega)))
    simp [hi, show n ≤ i by omega, this]
theorem num_getN : ∀ l : List UInt8, num l = getN l
  | [] => rfl
  | b :: l => by
    have hb : b.toNat < 2 ^ 8 := b.toNat_lt
    rw [num, getN, num_getN l, xor_disj hb]
/-- the register behind a text and its sum -/
theorem residue (m : List UInt8) : fold32 4294967295 (m ++ sumL m) = tn 32 4294967295 := by
  have hF := fold32_lt m (s := 4294967295) (by decide)
  have e4 : (256 : Nat) ^ 4 = 4294967296 := by decide
  rw [fold32_append, fold32_num (sumL m), sumL_len, num_getN]
  unfold sumL
  rw [getN_put (by rw [e4]; exact more32_lt _ _)]
  unfold more32
  rw [Nat.sub_zero, com_xor hF, ← Nat.xor_assoc, Nat.xor_comm (fold32 4294967295 m), Nat.xor_assoc, Nat.xor_self, Nat.xor_zero]
theorem burst_sum {m t : List UInt8} {e at_ : Nat} (hl : t.length = (m ++ sumL m).length) (hn : num t = num (m ++ sumL m) ^^^ 2 ^ at_ * e) (he : e ≠ 0) (he2 : e < 4294967296) (ha : at_ ≤ 8 * t.length) : sumL (t.take (t.length - 4)) ≠ t.drop (t.length - 4) := by
  intro h
  have h1 := residue (t.take (t.length - 4))
  rw [h, List.take_append_drop] at h1
  have h2 := residue m
  rw [← h2, fold32_num, fold32_num, hl, hn, ← Nat.xor_assoc, tn_xor] at h1
  rw [hl] at ha
  generalize (m ++ sumL m) = L at *
  have h4 : tn (8 * L.length) (2 ^ at_ * e) = 0 := by
    have := congrArg (fun z => tn (8 * L.length) (4294967295 ^^^ num L) ^^^ z) h1
    simp only [← Nat.xor_assoc, Nat.xor_self, Nat.zero_xor] at this
    exact this
  obtain ⟨r, hr⟩ : ∃ r, 8 * L.length = at_ + r := ⟨8 * L.length - at_, by omega⟩
  rw [hr, tn_add, tn_dbl] at h4
  exact tn_ne r he2 he h4
end Go.Proofs.Ytacfmbookcgjoaa
