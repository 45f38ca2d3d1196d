/- canon's Next; the law CanonReads. -/
import Derived.Test.YtcbaklebiohedaaOpen03
import Derived.Test.YtcbaklebiohedaaBitsW
import Derived.Test.YtcbaklebiohedaaRef01
namespace Go.Proofs.Ytcbaklebiohedaa
open Go Go.Vc Go.Proofs
set_option linter.unusedVariables false
set_option linter.unusedSimpArgs false
variable {H : Heap} {R : Value → Heap → Prop} {v : Value} {zs : List Int} {ls : List Nat} {B : List Bool}
/-- a reader as a thing -/
def rdT (b : Nat) (B : List Bool) : Thing where
  foot k := k = b
  holds H := Rd H b 0 B
  frame := fun h hf => by
    obtain ⟨⟨rest, acc, n, h1, h2⟩, h3⟩ := h
    exact ⟨⟨rest, acc, n, h1.same (hf b rfl), h2⟩, h3⟩
  lt := fun h hf => by subst hf; exact h.lt
theorem owns_rd {H0 H' : Heap} {L : List It} {b : Nat} {B' : List Bool} (o : Owns H0 H (.thing (rdT b B) :: L)) (w : Rd H' b 0 B') (c : Chg b 0 3 none_ none_ H H') : Owns H0 H' (.thing (rdT b B') :: L) :=
  o.turn Rep.here c.size (fun k hk hf => c.ne k hk hf (fun h => h)) w (fun k hk => .inl hk)
theorem rd_at {H0 : Heap} {L : List It} {b : Nat} (o : Owns H0 H L) (h : It.thing (rdT b B) ∈ L) : Rd H b 0 B := o.thing h
theorem hit_take (hle : ∀ k ∈ ls, k ≤ 15) {s : Nat} : hit ls (B.take 15) s ↔ hit ls B s := by
  have := getD_le hle s
  unfold hit
  rw [List.take_take, Nat.min_eq_left this]
open Classical in
theorem next_spec {H0 : Heap} {L : List It} {b rb : Nat} {lv wv sv : Value} (hz : okZ zs) (hsh : shareL (natL zs) 15 ≤ 32768) (o : Owns H0 H (.thing (rdT rb B) :: L)) (m1 : It.box b (codeCells lv wv (countsL (natL zs)) sv) 65 ∈ L) (m2 : It.sl wv 2 (wordsV (natL zs)) ∈ L) (m3 : It.sl sv 1 (symsV (symsB (natL zs) 16)) ∈ L)
    (h1 : ∀ s H', hit (natL zs) B s → Owns H0 H' (.thing (rdT rb (B.drop ((natL zs).getD s 0))) :: L) → R (.tuple #[.int .i64 (s : Nat), .int .i64 0]) H')
    (h2 : (∀ s, ¬ hit (natL zs) B s) → ∀ H', Owns H0 H' (.thing (rdT rb B) :: L) → R (.tuple #[.int .i64 0, .int .i64 (if more (natL zs) (B.take 15) then 2 else 4)]) H') :
    CallsH Try.prog 20 #[.pointer (some ⟨b, 0, none⟩), .pointer (some ⟨rb, 0, none⟩)] H R := by
  have hle := ok_le hz
  have ht := @hit_take (natL zs) B hle
  have hg15 := getD_le hle
  refine canon_Code_Next.vc _ _ _ _ ?_
  unfold canon_Code_Next.res
  rw [pEq_3s]
  refine pOr_false ?_
  rw [pEq_3s]
  intro _
  rw [pCond_false]
  refine rLeft_spec (rd_at o (by repeat (first | exact List.mem_cons_self | apply List.mem_cons_of_mem))) ?_
  rw [pMin_v]
  obtain ⟨n, hn⟩ : ∃ n, n = min B.length 15 := ⟨_, rfl⟩
  rw [show min ((B.length : Nat) : Int) 15 = (n : Int) by omega]
  refine rPeek_spec (k := n) (rd_at o (by repeat (first | exact List.mem_cons_self | apply List.mem_cons_of_mem))) (by omega) (by omega) fun H1 w1 c1 => ?_
  have o := owns_rd o w1 c1
  refine pExtract_to rfl ?_
  refine pExtract_to rfl ?_
  have hx := numB_lt (B.take n)
  have hbl : (B.take n).length = n := by rw [List.length_take]; omega
  have hb : bitsN (numB (B.take n)) n = B.take 15 := by
    have := bitsN_numB (B.take n)
    rw [hbl] at this
    rw [this, hn]
    rcases Nat.le_total B.length 15 with g | g
    · rw [Nat.min_eq_left g, List.take_of_length_le (Nat.le_refl _), List.take_of_length_le g]
    · rw [Nat.min_eq_right g]
  rw [hbl] at hx
  generalize numB (B.take n) = x at *
  refine find_spec (x := x) (n := n) hz hsh o (List.mem_cons_of_mem _ m1) (List.mem_cons_of_mem _ m3) hx (by omega) (fun s hh => ?_) (fun hno => ?_)
  · rw [hb] at hh
    have hh := ht.1 hh
    have hs1 := hh.2.1
    have hlen := hit_len hh
    have h15 := hg15 s
    refine pExtract_to rfl ?_
    refine pExtract_to rfl ?_
    rw [pGt_v, decide_eq_true (by omega), pCond_true]
    refine rRead_spec (k := (natL zs).getD s 0) (rd_at o (by repeat (first | exact List.mem_cons_self | apply List.mem_cons_of_mem))) (by omega) hlen fun H2 w2 c2 => ?_
    exact h1 s H2 hh (owns_rd o w2 c2)
  · rw [hb] at hno
    refine pExtract_to rfl ?_
    refine pExtract_to rfl ?_
    rw [pGt_v, decide_eq_false (by decide), pCond_false]
    refine open_spec (x := x) (n := n) hz o (List.mem_cons_of_mem _ m1) (List.mem_cons_of_mem _ m2) hx (by omega) fun H2 o => ?_
    rw [hb]
    have := h2 (fun s g => hno s (ht.2 g)) H2 o
    by_cases hm : more (natL zs) (B.take 15)
    · rw [if_pos hm] at this
      rw [decide_eq_true hm, pCond_true]
      exact this
    · rw [if_neg hm] at this
      rw [decide_eq_false hm, pCond_false]
      exact this
end Go.Proofs.Ytcbaklebiohedaa
