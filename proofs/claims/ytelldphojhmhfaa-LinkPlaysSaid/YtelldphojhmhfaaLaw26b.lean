/- The law LinkTurns over heaps. -/
import Derived.Test.YtelldphojhmhfaaLaw26
import Derived.Test.YtelldphojhmhfaaStrs
namespace Go.Proofs.Ytelldphojhmhfaa
open Go Go.Vc Go.Proofs
set_option linter.unusedVariables false
set_option linter.unusedSimpArgs false
variable {H : Heap} {R : Value → Heap → Prop} {b c0 c1 : Nat} {Q : Int → Texts} {w : Int}
/-- two ways, each with its texts -/
def two (w : Int) (x y : Texts) : Int → Texts := fun i => if i = w then x else y
theorem Lk.congr {Q' : Int → Texts} (h : Lk H b c0 c1 Q) (h0 : Q 0 = Q' 0) (h1 : Q 1 = Q' 1) (hl : ∀ i, (Q' i).length ≤ 64) : Lk H b c0 c1 Q' :=
  { h with ch0 := by rw [← h0]; exact h.ch0, ch1 := by rw [← h1]; exact h.ch1, len := hl }
theorem upd_two {x y z : Texts} : updQ (two w x y) w z = two w z y := by funext i; unfold updQ two; split <;> rfl
theorem two_self {x y : Texts} : two w x y w = x := if_pos rfl
theorem two_other {x y : Texts} (hw : w = 0 ∨ w = 1) : two w x y (1 - w) = y := if_neg (by omega)
theorem upd_other {x y z : Texts} {h : Heap} (hw : w = 0 ∨ w = 1) (hl : Lk h b c0 c1 (updQ (two w x y) (1 - w) z)) (hx : x.length ≤ 64) (hz : z.length ≤ 64) : Lk h b c0 c1 (two w x z) := by
  refine hl.congr ?_ ?_ (fun i => by unfold two; split <;> assumption)
  · rcases hw with rfl | rfl <;> simp [updQ, two]
  · rcases hw with rfl | rfl <;> simp [updQ, two]
def cut20 (s : List UInt8) : List UInt8 := s.take (min s.length 20)
theorem LinkTurns_law (a : Option Addr) (len cap : Nat) (way : Int) (w0 : StructRow [.string] H a len cap) (w1 : (Lit.int .i64 way).wf = true) :
    CallsH Try.prog 3 #[.slice a len cap, .int .i64 way] H (LawOk H) := by
  have hmax : maxLen = 9223372036854775807 := rfl
  obtain ⟨L0, hL0, hlm, hLm, hS⟩ := str_rows w0
  refine lighterlaw26_LinkTurns.vc _ _ _ _ ?_
  unfold lighterlaw26_LinkTurns.res
  refine speaks26_spec fun H1 x1 => ?_
  have o := (Owns.start (H := H)).more x1
  rw [pNot_v, Bool.not_true, pCond_false, pBits_v, and_low (k := 1) (m := 1) (n := way) (by decide) rfl]
  have hw0 := Int.emod_lt_of_pos way (show (0 : Int) < 2 ^ 1 by decide)
  have hw1 := Int.emod_nonneg way (show (2 : Int) ^ 1 ≠ 0 by decide)
  generalize way % 2 ^ 1 = w at *
  have hw : w = 0 ∨ w = 1 := by omega
  have hw' : 1 - w = 0 ∨ 1 - w = 1 := by omega
  refine link_new fun H2 b c0 c1 o2 => ?_
  have o := o.call o2
  refine hS.len (n := len) (by rw [txtsV_len]; omega) (by decide) ?_
  rw [pMin_v]
  refine hS.cut (by decide) (n := len) (lo := 0) (hi := min len 60) (by rw [txtsV_len]; omega) (by omega) (by omega) (fun v hv => ?_) (.inr ⟨rfl, rfl⟩) (.inl (by congr 2; omega))
  rw [Nat.zero_mul, List.drop_zero, Nat.mul_one, Nat.sub_zero, txtsV_take] at hv
  have hL60 : (L0.take (min len 60)).length ≤ 60 := by rw [List.length_take]; omega
  generalize L0.take (min len 60) = L at *
  have hvl : (txtsV L).length = L.length * 1 := by rw [txtsV_len]; omega
  generalize hM : L.map cut20 = M
  have hMl : M.length = L.length := by rw [← hM, List.length_map]
  have hMat : ∀ i (hi : i < L.length), M[i]'(by omega) = cut20 L[i] := fun i hi => by subst hM; simp
  have hcut : ∀ (i : Nat) (hi : i < L.length) {K : Value → Prop}, K (str (M[i]'(by omega))) → pLenS (str L[i]) fun x37 => pMin x37 (.int .i64 20) fun x38 => pSlStr (str L[i]) none (some x38) K := fun i hi K hK => by
    refine pLenS_to ?_
    rw [pMin_v]
    refine pSlStr_to (lo := 0) (hi := min L[i].length 20) (.inr ⟨rfl, rfl⟩) (.inl (by congr 2; omega)) (by omega) (by omega) ?_
    rw [hMat i hi] at hK
    exact hK
  have o : Owns H H2 [.thing (lkT b c0 c1 (two w (M.take 0) (List.replicate 0 [111, 116, 104, 101, 114])))] := by
    have e : (two w (M.take 0) (List.replicate 0 [111, 116, 104, 101, 114])) = fun _ => [] := by funext i; unfold two; split <;> rfl
    rw [e]; exact o
  refine ⟨fun i H' => ∃ k : Nat, i = .int .i64 k ∧ k ≤ L.length ∧ Owns H H' [.thing (lkT b c0 c1 (two w (M.take k) (List.replicate k [111, 116, 104, 101, 114])))], fun i _ => match i with | .int _ x => (100 - x).toNat | _ => 0, ⟨0, rfl, by omega, o⟩, ?_⟩
  rintro _ _ H3 ⟨k, rfl, hk, o⟩
  refine hv.len hvl (by decide) ?_
  rw [pLt_v]
  refine pCond_if (fun hc => ?_) (fun hc => ?_)
  · have hkl : k < L.length := by omega
    refine (hv.ext o.ext).at_ hvl (by decide) (by omega) (by omega) fun p hp => ?_
    refine hp.load (hv.ext o.ext) (w := str L[k]) (by rw [Int.toNat_natCast, Nat.mul_one, txtsV_get hkl]) ?_
    refine (hv.ext o.ext).at_ hvl (by decide) (by omega) (by omega) fun p hp => ?_
    refine hp.load (hv.ext o.ext) (w := str L[k]) (by rw [Int.toNat_natCast, Nat.mul_one, txtsV_get hkl]) ?_
    refine hcut k hkl ?_
    refine put_spec (lk_at o (by repeat (first | exact List.mem_cons_self | apply List.mem_cons_of_mem))) hw (fun h => by rw [two_self, List.length_take] at h; omega) fun _ H4 l4 on4 => ?_
    have o := owns_lk o on4 l4 (by repeat (first | exact Rep.here | apply Rep.there))
    rw [two_self, upd_two] at o
    rw [pSub_v, w64 (n := 1 - w) (by omega) (by omega)]
    refine put_spec (lk_at o (by repeat (first | exact List.mem_cons_self | apply List.mem_cons_of_mem))) hw' (fun h => by rw [two_other hw, List.length_replicate] at h; omega) fun _ H5 l5 on5 => ?_
    rw [two_other hw] at l5
    have l5' := upd_other hw l5 (by simp; omega) (by simp; omega)
    have o := owns_lk o on5 l5' (by repeat (first | exact Rep.here | apply Rep.there))
    rw [show M.take k ++ [M[k]'(by omega)] = M.take (k + 1) by rw [List.take_add_one, List.getElem?_eq_getElem (by omega)]; rfl, ← List.replicate_succ'] at o
    rw [pAdd_v, w64 (n := (k : Int) + 1) (by omega) (by omega)]
    exact ⟨⟨k + 1, rfl, by omega, o⟩, by show (_ : Int).toNat < (_ : Int).toNat; omega⟩
  have hkl : k = M.length := by omega
  rw [hkl, List.take_length] at o
  generalize hY : List.replicate M.length ([111, 116, 104, 101, 114] : List UInt8) = Y at o
  have hYl : Y.length = M.length := by rw [← hY, List.length_replicate]
  refine ⟨fun i H' => ∃ k : Nat, i = .int .i64 k ∧ k ≤ L.length ∧ Owns H H' [.thing (lkT b c0 c1 (two w (M.drop k ++ M.take k) Y))], fun i _ => match i with | .int _ x => (100 - x).toNat | _ => 0, ⟨0, rfl, by omega, by simpa using o⟩, ?_⟩
  rintro _ _ H4 ⟨k, rfl, hk, o⟩
  refine hv.len hvl (by decide) ?_
  rw [pLt_v]
  refine pCond_if (fun hc => ?_) (fun hc => ?_)
  · have hkm : k < M.length := by omega
    have hd : M.drop k = M[k] :: M.drop (k + 1) := List.drop_eq_getElem_cons hkm
    refine turn_spec (lk_at o (by repeat (first | exact List.mem_cons_self | apply List.mem_cons_of_mem))) hw (fun h => by rw [two_self, hd, List.cons_append] at h; exact (List.cons_ne_nil _ _ h).elim) fun t q H5 hq l5 on5 => ?_
    have o := owns_lk o on5 l5 (by repeat (first | exact Rep.here | apply Rep.there))
    rw [two_self, hd, List.cons_append, List.cons.injEq] at hq
    obtain ⟨rfl, rfl⟩ := hq
    rw [upd_two, List.append_assoc, show M.take k ++ [M[k]] = M.take (k + 1) by rw [List.take_add_one, List.getElem?_eq_getElem hkm]; rfl] at o
    rw [pNot_v, Bool.not_true, pCond_false, pAdd_v, w64 (n := (k : Int) + 1) (by omega) (by omega)]
    exact ⟨⟨k + 1, rfl, by omega, o⟩, by show (_ : Int).toNat < (_ : Int).toNat; omega⟩
  have hkl2 : k = M.length := by omega
  rw [hkl2, List.take_length, List.drop_length, List.nil_append] at o
  refine ⟨fun i H' => ∃ k : Nat, i = .int .i64 k ∧ k ≤ L.length ∧ Owns H H' [.thing (lkT b c0 c1 (two w (M.drop k) Y))], fun i _ => match i with | .int _ x => (100 - x).toNat | _ => 0, ⟨0, rfl, by omega, by simpa using o⟩, ?_⟩
  rintro _ _ H5 ⟨k, rfl, hk, o⟩
  refine hv.len hvl (by decide) ?_
  rw [pLt_v]
  refine pCond_if (fun hc => ?_) (fun hc => ?_)
  · have hkm : k < M.length := by omega
    have hkl : k < L.length := by omega
    have hd : M.drop k = M[k] :: M.drop (k + 1) := List.drop_eq_getElem_cons hkm
    refine take_spec (lk_at o (by repeat (first | exact List.mem_cons_self | apply List.mem_cons_of_mem))) hw (fun h => by rw [two_self, hd] at h; exact (List.cons_ne_nil _ _ h).elim) fun t q H6 hq l6 on6 => ?_
    have o := owns_lk o on6 l6 (by repeat (first | exact Rep.here | apply Rep.there))
    rw [two_self, hd, List.cons.injEq] at hq
    obtain ⟨rfl, rfl⟩ := hq
    rw [upd_two] at o
    refine pExtract_to rfl ?_
    refine pExtract_to rfl ?_
    rw [pNot_v, Bool.not_true]
    refine pOr_false ?_
    refine (hv.ext o.ext).at_ hvl (by decide) (by omega) (by omega) fun p hp => ?_
    refine hp.load (hv.ext o.ext) (w := str L[k]) (by rw [Int.toNat_natCast, Nat.mul_one, txtsV_get hkl]) ?_
    refine (hv.ext o.ext).at_ hvl (by decide) (by omega) (by omega) fun p hp => ?_
    refine hp.load (hv.ext o.ext) (w := str L[k]) (by rw [Int.toNat_natCast, Nat.mul_one, txtsV_get hkl]) ?_
    refine hcut k hkl ?_
    refine pNe1_to ?_
    rw [decide_eq_false (by simp)]
    intro _
    rw [pCond_false, pAdd_v, w64 (n := (k : Int) + 1) (by omega) (by omega)]
    exact ⟨⟨k + 1, rfl, by omega, o⟩, by show (_ : Int).toNat < (_ : Int).toNat; omega⟩
  have hkl3 : k = M.length := by omega
  rw [hkl3, List.drop_length] at o
  refine len_spec (lk_at o (by repeat (first | exact List.mem_cons_self | apply List.mem_cons_of_mem))) hw ?_
  rw [two_self, pEq_0, decide_eq_true (by rfl)]
  refine pAnd_true ?_
  rw [pSub_v, w64 (n := 1 - w) (by omega) (by omega)]
  refine len_spec (lk_at o (by repeat (first | exact List.mem_cons_self | apply List.mem_cons_of_mem))) hw' ?_
  rw [two_other hw]
  refine hv.len hvl (by decide) ?_
  rw [pEq_0, decide_eq_true (by omega)]
  refine fun _ => pAnd_true ?_
  refine turn_spec (lk_at o (by repeat (first | exact List.mem_cons_self | apply List.mem_cons_of_mem))) hw (fun h => ?_) fun t q H6 hq l6 on6 => by rw [two_self] at hq; simp at hq
  rw [pNot_v, Bool.not_false]
  exact fun _ => ⟨rfl, o.ext⟩
end Go.Proofs.Ytelldphojhmhfaa
