/- slices.Clone and slices.Equal of texts and numbers. -/
import Derived.Test.YthadmceioakgnaaResSlices
import Derived.Test.YthadmceioakgnaaInts
import Derived.Test.YthadmceioakgnaaStrs
import Derived.Test.YthadmceioakgnaaVcOwns
namespace Go.Proofs.Ythadmceioakgnaa
-- only what is there
open Go Go.Vc Go.Proofs
set_option linter.unusedVariables false
set_option linter.unusedSimpArgs false
variable {H : Heap} {R : Value → Heap → Prop} {v : Value}
theorem cloneI_spec {zs : List Int} (hs : Sl H v 1 (numsV zs)) (hlen : zs.length ≤ 1000000) (h : ∀ y H', Owns H H' [.sl y 1 (numsV zs)] → R y H') : CallsH Try.prog 34 #[v] H R := by
  refine slices_Clone_s_int_int.vc _ _ _ ?_
  unfold slices_Clone_s_int_int.res
  have hcase : (∃ n c, v = .slice none n c ∧ zs = []) ∨ ∃ a n c, v = .slice (some a) n c := by
    rcases hs with ⟨rfl, h0⟩ | ⟨a, m, cap, rfl, _⟩
    · exact .inl ⟨_, _, rfl, by have := congrArg List.length h0; rw [numsV_len] at this; exact List.length_eq_zero_iff.1 this⟩
    · exact .inr ⟨a, m, cap, rfl⟩
  have hgo : pBuildSl H 3 0 [] [] fun x5 H_1 => pAppend H_1 3 1 8 [(.int .i64 0)] x5 v fun x7 H_2 => R x7 H_2 := by
    refine (Owns.start (H := H)).build0 1 (by decide) fun y H1 o => ?_
    refine o.app (by repeat (first | exact Sel.here | apply Sel.there)) (hs.ext o.ext) numsV_one (by rw [numsV_len]; show 2 * (0 + _) * 8 ≤ _; omega) fun z H2 o => ?_
    exact h z H2 o
  rcases hcase with ⟨n, c, rfl, rfl⟩ | ⟨a, n, c, rfl⟩
  · rw [pEq_4n, pCond_true]
    refine h _ _ ?_
    exact Owns.start.add (Ext.refl _) ⟨by decide, .inl ⟨rfl, rfl⟩⟩ (by intro k hk; exact absurd hk (by simp [It.foot, blkOf]))
  · rw [pEq_4s, pCond_false]
    exact hgo
theorem cloneS_spec {L : List (List UInt8)} (hs : Sl H v 1 (txtsV L)) (hlen : L.length ≤ 1000000) (h : ∀ y H', Owns H H' [.sl y 1 (txtsV L)] → R y H') : CallsH Try.prog 32 #[v] H R := by
  refine slices_Clone_s_string_string.vc _ _ _ ?_
  unfold slices_Clone_s_string_string.res
  have hcase : (∃ n c, v = .slice none n c ∧ L = []) ∨ ∃ a n c, v = .slice (some a) n c := by
    rcases hs with ⟨rfl, h0⟩ | ⟨a, m, cap, rfl, _⟩
    · exact .inl ⟨_, _, rfl, by have := congrArg List.length h0; rw [txtsV_len] at this; exact List.length_eq_zero_iff.1 this⟩
    · exact .inr ⟨a, m, cap, rfl⟩
  have hgo : pBuildSl H 9 0 [] [] fun x5 H_1 => pAppend H_1 9 1 16 [(str [])] x5 v fun x7 H_2 => R x7 H_2 := by
    refine (Owns.start (H := H)).build0 1 (by decide) fun y H1 o => ?_
    refine o.app (by repeat (first | exact Sel.here | apply Sel.there)) (hs.ext o.ext) txtsV_one (by rw [txtsV_len]; show 2 * (0 + _) * 16 ≤ _; omega) fun z H2 o => ?_
    exact h z H2 o
  rcases hcase with ⟨n, c, rfl, rfl⟩ | ⟨a, n, c, rfl⟩
  · rw [pEq_4n, pCond_true]
    refine h _ _ ?_
    exact Owns.start.add (Ext.refl _) ⟨by decide, .inl ⟨rfl, rfl⟩⟩ (by intro k hk; exact absurd hk (by simp [It.foot, blkOf]))
  · rw [pEq_4s, pCond_false]
    exact hgo
theorem equalS_spec {A B : List (List UInt8)} {w : Value} (h1 : Sl H v 1 (txtsV A)) (h2 : Sl H w 1 (txtsV B)) (hl : A.length ≤ 1000000) (h : R (.bool (decide (A = B))) H) : CallsH Try.prog 36 #[v, w] H R := by
  have hva : (txtsV A).length = A.length * 1 := by rw [txtsV_len, Nat.mul_one]
  have hvb : (txtsV B).length = B.length * 1 := by rw [txtsV_len, Nat.mul_one]
  refine slices_Equal_s_string_string.vc _ _ _ _ ?_
  unfold slices_Equal_s_string_string.res
  refine h1.len hva (by decide) ?_
  refine h2.len hvb (by decide) ?_
  rw [pNe_0]
  refine pCond_if (fun hc => ?_) (fun hc => ?_)
  · rw [decide_eq_false (fun e => by subst e; exact hc rfl)] at h
    exact h
  have hab : A.length = B.length := by simp at hc; omega
  refine h1.len hva (by decide) ?_
  refine ⟨fun i H' => ∃ k : Nat, i = .int .i64 k ∧ k ≤ A.length ∧ A.take k = B.take k ∧ H = H', fun i _ => match i with | .int _ x => A.length - x.toNat | _ => 0, ⟨0, rfl, by omega, rfl, rfl⟩, ?_⟩
  rintro _ _ _ ⟨k, rfl, hk, heq, rfl⟩
  rw [pLt_v]
  refine pCond_if (fun hc => ?_) (fun hc => ?_)
  · have hka : k < A.length := by omega
    have hkb : k < B.length := by omega
    refine h1.at_ hva (by decide) (by omega) (by omega) fun p hp => ?_
    refine hp.load h1 (w := str A[k]) (by rw [Int.toNat_natCast, Nat.mul_one, txtsV_get hka]) ?_
    refine h2.at_ hvb (by decide) (by omega) (by omega) fun p hp => ?_
    refine hp.load h2 (w := str B[k]) (by rw [Int.toNat_natCast, Nat.mul_one, txtsV_get hkb]) ?_
    refine pNe1_to ?_
    refine pCond_if (fun hne => ?_) (fun he => ?_)
    · rw [decide_eq_false (fun e => by subst e; exact hne rfl)] at h
      exact h
    · rw [pAdd_v, w64 (n := (k : Int) + 1) (by omega) (by omega)]
      refine ⟨⟨k + 1, rfl, by omega, ?_, rfl⟩, by show A.length - ((k : Int) + 1).toNat < A.length - (k : Int).toNat; omega⟩
      have he : A[k] = B[k] := by simpa using he
      rw [List.take_add_one, List.take_add_one, heq, List.getElem?_eq_getElem hka, List.getElem?_eq_getElem hkb, he]
  · have hkl : k = A.length := by omega
    subst hkl
    rw [List.take_length, hab, List.take_length] at heq
    rw [decide_eq_true heq] at h
    exact h
end Go.Proofs.Ythadmceioakgnaa
