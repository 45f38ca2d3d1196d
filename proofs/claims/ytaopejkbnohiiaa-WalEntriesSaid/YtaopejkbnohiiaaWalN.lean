/- Slots of a log: plain laws. -/
import Derived.Test.YtaopejkbnohiiaaStageN
import Derived.Test.YtaopejkbnohiiaaBytesN
import Derived.Test.YtaopejkbnohiiaaCrcNum
namespace Go.Proofs.Ytaopejkbnohiiaa
open Go Go.Vc Go.Proofs
set_option linter.unusedVariables false
set_option linter.unusedSimpArgs false
theorem putN_cons (n k : Nat) : putN n (k + 1) = UInt8.ofNat (n % 256) :: putN (n / 256) k := by
  unfold putN
  rw [List.range_succ_eq_map, List.map_cons, List.map_map, Nat.pow_zero, Nat.div_one]
  congr 1
  refine List.map_congr_left fun i _ => ?_
  show UInt8.ofNat (n / 256 ^ (i + 1) % 256) = UInt8.ofNat (n / 256 / 256 ^ i % 256)
  rw [Nat.div_div_eq_div_mul, Nat.pow_succ, Nat.mul_comm]
theorem getN_putN : ∀ (k n : Nat), getN (putN n k) = n % 256 ^ k
  | 0, n => by rw [Nat.pow_zero, Nat.mod_one]; rfl
  | k + 1, n => by
    have h1 : n % 256 % 2 ^ 8 = n % 256 := Nat.mod_eq_of_lt (by show n % 256 < 256; exact Nat.mod_lt _ (by decide))
    have h2 : n % 256 ^ (k + 1) = n % 256 + 256 * (n / 256 % 256 ^ k) := by rw [Nat.pow_succ, Nat.mul_comm, Nat.mod_mul]
    rw [putN_cons, getN, getN_putN k, UInt8.toNat_ofNat', h1, h2]
/-- a slot's first 60 bytes -/
def bodyB (n : Nat) (s : List UInt8) : List UInt8 := putN n 8 ++ putN s.length 1 ++ s ++ List.replicate (60 - (9 + s.length)) 0
def slotB (n : Nat) (s : List UInt8) : List UInt8 := bodyB n s ++ putN (more32 0 (bodyB n s)) 4
theorem bodyB_len {n : Nat} {s : List UInt8} (h : s.length ≤ 23) : (bodyB n s).length = 60 := by
  unfold bodyB
  simp only [List.length_append, putN_len, List.length_replicate]
  omega
theorem slotB_len {n : Nat} {s : List UInt8} (h : s.length ≤ 23) : (slotB n s).length = 64 := by
  unfold slotB
  rw [List.length_append, bodyB_len h, putN_len]
def parseN (b : List UInt8) : Nat := getN (b.take 8)
def parseK (b : List UInt8) : Nat := (b.getD 8 0).toNat
def parseS (b : List UInt8) : List UInt8 := (b.drop 9).take (parseK b)
/-- the note of a sector -/
def parse (b : List UInt8) : Option (Nat × List UInt8) := if parseN b ≠ 0 ∧ parseK b ≤ 23 ∧ slotB (parseN b) (parseS b) = b then some (parseN b, parseS b) else none
/-- what the first 32 bytes tell -/
theorem head_same {b c : List UInt8} (h : b.take 32 = c.take 32) (hk : parseK c ≤ 23) : parseN b = parseN c ∧ parseK b = parseK c ∧ parseS b = parseS c := by
  have h8 : b.take 8 = c.take 8 := by
    have : (b.take 32).take 8 = (c.take 32).take 8 := by rw [h]
    rwa [List.take_take, List.take_take, Nat.min_eq_left (by decide)] at this
  have hk8 : b.getD 8 0 = c.getD 8 0 := by
    have := congrArg (fun l => l[8]?) h
    simp only [List.getElem?_take] at this
    rw [List.getD_eq_getElem?_getD, List.getD_eq_getElem?_getD]
    rw [if_pos (by decide), if_pos (by decide)] at this
    rw [this]
  have hkk : parseK b = parseK c := by unfold parseK; rw [hk8]
  refine ⟨by unfold parseN; rw [h8], hkk, ?_⟩
  unfold parseS
  rw [hkk]
  apply List.ext_getElem?
  intro i
  rw [List.getElem?_take, List.getElem?_take]
  by_cases hi : i < parseK c
  · rw [if_pos hi, if_pos hi, List.getElem?_drop, List.getElem?_drop]
    have := congrArg (fun l => l[9 + i]?) h
    simp only [List.getElem?_take] at this
    rw [if_pos (by omega), if_pos (by omega)] at this
    exact this
  · rw [if_neg hi, if_neg hi]
theorem slot_parts {n : Nat} {s : List UInt8} (hn : n < 18446744073709551616) (h : s.length ≤ 23) : parseN (slotB n s) = n ∧ parseK (slotB n s) = s.length ∧ parseS (slotB n s) = s := by
  have e : slotB n s = putN n 8 ++ (UInt8.ofNat (s.length % 256) :: (s ++ (List.replicate (60 - (9 + s.length)) 0 ++ putN (more32 0 (bodyB n s)) 4))) := by
    show putN n 8 ++ putN s.length 1 ++ s ++ List.replicate (60 - (9 + s.length)) 0 ++ putN (more32 0 (bodyB n s)) 4 = _
    rw [show putN s.length 1 = [UInt8.ofNat (s.length % 256)] from by rw [putN_cons]; rfl]
    simp only [List.append_assoc, List.cons_append, List.nil_append]
  have hl := putN_len n 8
  have h1 : parseN (slotB n s) = n := by
    unfold parseN
    rw [e, List.take_append_of_le_length (by omega), List.take_of_length_le (by omega), getN_putN]
    exact Nat.mod_eq_of_lt hn
  have h2 : parseK (slotB n s) = s.length := by
    unfold parseK
    rw [e, List.getD_eq_getElem?_getD, List.getElem?_append_right (by omega), hl]
    show (UInt8.ofNat (s.length % 256)).toNat = _
    rw [UInt8.toNat_ofNat']
    omega
  refine ⟨h1, h2, ?_⟩
  unfold parseS
  rw [h2, e, List.drop_append, List.drop_of_length_le (by omega), hl]
  rw [show 9 - 8 = 0 + 1 from rfl, List.nil_append, List.drop_succ_cons, List.drop_zero, List.take_append_of_le_length (Nat.le_refl _), List.take_length]
theorem parse_slot {n : Nat} {s : List UInt8} (h1 : 1 ≤ n) (hn : n < 18446744073709551616) (h : s.length ≤ 23) : parse (slotB n s) = some (n, s) := by
  obtain ⟨e1, e2, e3⟩ := slot_parts hn h
  unfold parse
  rw [e1, e2, e3, if_pos ⟨by omega, h, rfl⟩]
theorem parse_zero : parse zero64 = none := by
  unfold parse
  rw [if_neg]
  rintro ⟨h, _⟩
  exact h (by decide)
/-- a sector that a log has written, or that nothing has written -/
def Good (b : List UInt8) : Prop := b = zero64 ∨ ∃ n s, 1 ≤ n ∧ n < 18446744073709551616 ∧ s.length ≤ 23 ∧ b = slotB n s
theorem Good.len {b : List UInt8} (h : Good b) : b.length = 64 := by
  rcases h with rfl | ⟨n, s, _, _, h, rfl⟩
  · simp [zero64]
  · exact slotB_len h
theorem parse_halves {b c d : List UInt8} (h : Good b) (hd : d.take 32 = b.take 32) : parse d = parse b ∨ parse d = none := by
  rcases h with rfl | ⟨n, s, h1, hn, hs, rfl⟩
  · right
    have hk : parseK zero64 ≤ 23 := by decide
    obtain ⟨e1, e2, e3⟩ := head_same hd hk
    unfold parse
    rw [if_neg]
    rintro ⟨g, _⟩
    rw [e1] at g
    exact g (by decide)
  · obtain ⟨k1, k2, k3⟩ := slot_parts hn hs
    obtain ⟨e1, e2, e3⟩ := head_same hd (by rw [k2]; exact hs)
    rw [parse_slot h1 hn hs]
    unfold parse
    rw [e1, e2, e3, k1, k2, k3]
    by_cases hc : n ≠ 0 ∧ s.length ≤ 23 ∧ slotB n s = d
    · rw [if_pos hc]; exact .inl rfl
    · rw [if_neg hc]; exact .inr rfl
theorem parse_torn {was is : List UInt8} (h1 : Good was) (h2 : Good is) (f : Nat) : parse (tornF was is f) = parse was ∨ parse (tornF was is f) = parse is ∨ parse (tornF was is f) = none := by
  have l1 := h1.len
  have l2 := h2.len
  have hh : ∀ a c : List UInt8, a.length = 64 → (a.take 32 ++ c.drop 32).take 32 = a.take 32 := fun a c ha => by
    rw [List.take_append_of_le_length (by rw [List.length_take]; omega), List.take_take, Nat.min_self]
  unfold tornF
  split
  · exact .inr (.inl rfl)
  · split
    · rcases parse_halves (c := was) h2 (hh is was l2) with g | g
      · exact .inr (.inl g)
      · exact .inr (.inr g)
    · split
      · rcases parse_halves (c := is) h1 (hh was is l1) with g | g
        · exact .inl g
        · exact .inr (.inr g)
      · exact .inl rfl
/-- the note that counts among the first k sectors -/
def openF (f : Nat → Option (Nat × List UInt8)) : Nat → Nat × List UInt8
  | 0 => (0, [])
  | k + 1 => match f k with
    | some q => if (openF f k).1 < q.1 then q else openF f k
    | none => openF f k
/-- the log's sectors: N notes were put, the last one is want -/
structure WalF (f : Nat → Option (Nat × List UInt8)) (k N : Nat) (want : List UInt8) : Prop where
  pos : ∀ j, j < k → ∀ q, f j = some q → 1 ≤ q.1
  lt : ∀ j, j < k → ∀ q, f j = some q → q.1 ≤ N ∧ (q.1 = N → j = N % k)
  top : 1 ≤ N → f (N % k) = some (N, want)
  zero : N = 0 → want = []
theorem open_walF {f : Nat → Option (Nat × List UInt8)} {k N : Nat} {want : List UInt8} (hk : 1 ≤ k) (h : WalF f k N want) : openF f k = (N, want) := by
  have key : ∀ m, m ≤ k → (N % k < m → 1 ≤ N → openF f m = (N, want)) ∧ ((N = 0 ∨ m ≤ N % k) → (openF f m).1 < N ∨ (N = 0 ∧ openF f m = (0, []))) := by
    intro m
    induction m with
    | zero =>
      intro _
      refine ⟨by omega, fun hh => ?_⟩
      by_cases h0 : N = 0
      · exact .inr ⟨h0, rfl⟩
      · exact .inl (by show 0 < N; omega)
    | succ m ih =>
      intro hm
      obtain ⟨ih1, ih2⟩ := ih (by omega)
      rw [openF]
      cases hf : f m with
      | none =>
        refine ⟨fun hlt h1 => ?_, fun hh => ih2 (hh.imp id fun g => by omega)⟩
        by_cases he : m = N % k
        · rw [he, h.top h1] at hf; cases hf
        · exact ih1 (by omega) h1
      | some q =>
        have hq := h.lt m (by omega) q hf
        have hp := h.pos m (by omega) q hf
        show (N % k < m + 1 → 1 ≤ N → (if (openF f m).1 < q.1 then q else openF f m) = (N, want)) ∧ _
        refine ⟨fun hlt h1 => ?_, fun hh => ?_⟩
        · by_cases he : m = N % k
          · rw [he, h.top h1] at hf
            cases hf
            rcases ih2 (.inr (by omega)) with g | g
            · rw [if_pos g]
            · omega
          · rw [ih1 (by omega) h1, if_neg (by show ¬ N < q.1; omega)]
        · show (if (openF f m).1 < q.1 then q else openF f m).1 < N ∨ _
          have hN : N ≠ 0 := by omega
          rcases hh with g | g
          · omega
          · have hqN : q.1 < N := by
              rcases Nat.lt_or_eq_of_le hq.1 with g2 | g2
              · exact g2
              · have := hq.2 g2; omega
            rcases ih2 (.inr (by omega)) with g3 | g3
            · left; split
              · exact hqN
              · exact g3
            · omega
  obtain ⟨k1, k2⟩ := key k (Nat.le_refl _)
  by_cases h0 : N = 0
  · rcases k2 (.inl h0) with g | g
    · omega
    · rw [g.2, h0, h.zero h0]
  · exact k1 (Nat.mod_lt _ (by omega)) (by omega)
theorem WalF.put {f : Nat → Option (Nat × List UInt8)} {k N : Nat} {want s : List UInt8} (h : WalF f k N want) : WalF (fun j => if j = (N + 1) % k then some (N + 1, s) else f j) k (N + 1) s where
  pos := fun j hj q hq => by
    split at hq
    · cases hq; show 1 ≤ N + 1; omega
    · exact h.pos j hj q hq
  lt := fun j hj q hq => by
    split at hq
    · rename_i he
      cases hq
      exact ⟨Nat.le_refl _, fun _ => he⟩
    · have := (h.lt j hj q hq).1
      exact ⟨by omega, fun g => by omega⟩
  top := fun _ => if_pos rfl
  zero := fun g => by omega
theorem mod_ne {k N : Nat} (hk : 2 ≤ k) : N % k ≠ (N + 1) % k := by
  intro h
  have h1 := Nat.mod_add_div N k
  have h2 := Nat.mod_add_div (N + 1) k
  have h3 : (N + 1) / k = N / k ∨ N / k < (N + 1) / k := by
    rcases Nat.lt_or_eq_of_le (Nat.div_le_div_right (c := k) (Nat.le_succ N)) with g | g
    · exact .inr g
    · exact .inl g.symm
  rcases h3 with g | g
  · rw [g] at h2; omega
  · have : k * (N / k) + k ≤ k * ((N + 1) / k) := by
      rw [← Nat.mul_succ]
      exact Nat.mul_le_mul_left _ g
    omega
theorem WalF.lost {f : Nat → Option (Nat × List UInt8)} {k N : Nat} {want : List UInt8} (hk : 2 ≤ k) (h : WalF f k N want) : WalF (fun j => if j = (N + 1) % k then none else f j) k N want where
  pos := fun j hj q hq => by
    split at hq
    · cases hq
    · exact h.pos j hj q hq
  lt := fun j hj q hq => by
    split at hq
    · cases hq
    · exact h.lt j hj q hq
  top := fun h1 => by
    rw [if_neg (mod_ne hk)]
    exact h.top h1
  zero := h.zero
theorem openF_congr {f g : Nat → Option (Nat × List UInt8)} : ∀ {k : Nat}, (∀ j, j < k → f j = g j) → openF f k = openF g k
  | 0, _ => rfl
  | k + 1, h => by
    rw [openF, openF, h k (by omega), openF_congr (k := k) fun j hj => h j (by omega)]
end Go.Proofs.Ytaopejkbnohiiaa
