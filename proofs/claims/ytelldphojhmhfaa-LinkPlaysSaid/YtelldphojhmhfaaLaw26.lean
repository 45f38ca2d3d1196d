/- The laws LinkNone, LinkSpoils and LinkTurns over heaps. -/
import Derived.Test.YtelldphojhmhfaaLinkB
import Derived.Test.YtelldphojhmhfaaVcRows
import Derived.Test.YtelldphojhmhfaaResLighterlaw26
namespace Go.Proofs.Ytelldphojhmhfaa
open Go Go.Vc Go.Proofs
set_option linter.unusedVariables false
set_option linter.unusedSimpArgs false
variable {H : Heap} {R : Value → Heap → Prop} {b c0 c1 : Nat} {Q : Int → Texts} {w : Int}
theorem lk_at {H0 : Heap} {L : List It} (o : Owns H0 H L) (h : It.thing (lkT b c0 c1 Q) ∈ L) : Lk H b c0 c1 Q := o.thing h
theorem speaks26_spec (h : ∀ H', Ext H H' → R (.bool true) H') : CallsH Try.prog 7 #[] H R := by
  refine lighterlaw26_speaks.vc _ _ ?_
  unfold lighterlaw26_speaks.res
  refine link_new fun H1 b c0 c1 o => ?_
  refine put_spec (lk_at o (by repeat (first | exact List.mem_cons_self | apply List.mem_cons_of_mem))) (.inl rfl) (fun h => by simp at h) fun _ H2 l2 on2 => ?_
  have o := owns_lk o on2 l2 (by repeat (first | exact Rep.here | apply Rep.there))
  rw [pNot_v, Bool.not_true]
  refine pOr_false ?_
  refine put_spec (lk_at o (by repeat (first | exact List.mem_cons_self | apply List.mem_cons_of_mem))) (.inl rfl) (fun h => by simp [updQ_self] at h) fun _ H3 l3 on3 => ?_
  have o := owns_lk o on3 l3 (by repeat (first | exact Rep.here | apply Rep.there))
  rw [pNot_v, Bool.not_true]
  refine fun _ => pOr_false ?_
  rw [updQ_self, updQ_upd] at o
  refine turn_spec (lk_at o (by repeat (first | exact List.mem_cons_self | apply List.mem_cons_of_mem))) (.inl rfl) (fun h => by simp [updQ_self] at h) fun t q H4 hq l4 on4 => ?_
  have o := owns_lk o on4 l4 (by repeat (first | exact Rep.here | apply Rep.there))
  rw [updQ_upd] at o
  rw [updQ_self] at hq
  simp only [List.nil_append, List.cons_append, List.cons.injEq] at hq
  obtain ⟨rfl, rfl⟩ := hq
  rw [pNot_v, Bool.not_true]
  intro _
  rw [pCond_false]
  refine take_spec (lk_at o (by repeat (first | exact List.mem_cons_self | apply List.mem_cons_of_mem))) (.inl rfl) (fun h => by simp [updQ_self] at h) fun t q H5 hq l5 on5 => ?_
  have o := owns_lk o on5 l5 (by repeat (first | exact Rep.here | apply Rep.there))
  rw [updQ_upd] at o
  rw [updQ_self] at hq
  simp only [List.nil_append, List.cons_append, List.cons.injEq] at hq
  obtain ⟨rfl, rfl⟩ := hq
  refine pExtract_to rfl ?_
  refine pExtract_to rfl ?_
  refine pAnd_true ?_
  refine pEq1_to ?_
  rw [decide_eq_true rfl]
  refine fun _ => pAnd_true ?_
  refine len_spec (lk_at o (by repeat (first | exact List.mem_cons_self | apply List.mem_cons_of_mem))) (.inl rfl) ?_
  rw [pEq_0, updQ_self, decide_eq_true (by rfl)]
  refine fun _ => pAnd_true ?_
  refine len_spec (lk_at o (by repeat (first | exact List.mem_cons_self | apply List.mem_cons_of_mem))) (.inr rfl) ?_
  rw [pEq_0, updQ_ne (by decide), decide_eq_true (by rfl)]
  exact fun _ => h _ o.ext
theorem LinkNone_law (way : Int) (s : List UInt8) (w0 : (Lit.int .i64 way).wf = true) (w1 : (ByteArray.mk s.toArray).size ≤ maxLen) : CallsH Try.prog 6 #[.int .i64 way, str s] H (LawOk H) := by
  refine lighterlaw26_LinkNone.vc _ _ _ _ ?_
  unfold lighterlaw26_LinkNone.res
  refine speaks26_spec fun H1 x1 => ?_
  rw [pNot_v, Bool.not_true, pCond_false]
  refine take_no (.inl rfl) ?_
  refine pExtract_to rfl ?_
  refine pExtract_to rfl ?_
  rw [pNot_v, Bool.not_false]
  refine pAnd_true ?_
  refine put_no (.inl rfl) ?_
  rw [pNot_v, Bool.not_false]
  refine fun _ => pAnd_true ?_
  refine turn_no (.inl rfl) ?_
  rw [pNot_v, Bool.not_false]
  refine fun _ => pAnd_true ?_
  refine twice_no (.inl rfl) fun H2 x2 => ?_
  rw [pNot_v, Bool.not_false]
  refine fun _ => pAnd_true ?_
  refine spoil_no (.inl rfl) fun H3 x3 => ?_
  rw [pNot_v, Bool.not_false]
  refine fun _ => pAnd_true ?_
  refine len_no (.inl rfl) ?_
  rw [pEq_0, decide_eq_true rfl]
  exact fun _ => ⟨rfl, (x1.trans x2).trans x3⟩
theorem LinkSpoils_law (s : List UInt8) (at_ bits : Int) (w0 : (ByteArray.mk s.toArray).size ≤ maxLen) (w1 : (Lit.int .i64 at_).wf = true) (w2 : (Lit.int .u32 bits).wf = true) :
    CallsH Try.prog 4 #[str s, .int .i64 at_, .int .u32 bits] H (LawOk H) := by
  have ha := wf64 w1
  have hb := wfu32 w2
  refine lighterlaw26_LinkSpoils.vc _ _ _ _ _ ?_
  unfold lighterlaw26_LinkSpoils.res
  refine speaks26_spec fun H1 x1 => ?_
  have o := (Owns.start (H := H)).more x1
  rw [pNot_v, Bool.not_true, pCond_false]
  refine pLenS_to ?_
  rw [pMin_v]
  refine pSlStr_to (lo := 0) (hi := min s.length 40) (.inr ⟨rfl, rfl⟩) (.inl (by congr 2; omega)) (by omega) (by omega) ?_
  generalize hT : List.take (min s.length 40 - 0) (List.drop 0 s) = T
  have hTl : T.length ≤ 40 := by rw [← hT, List.length_take]; omega
  refine link_new fun H2 b c0 c1 o2 => ?_
  have o := o.call o2
  refine put_spec (lk_at o (by repeat (first | exact List.mem_cons_self | apply List.mem_cons_of_mem))) (.inr rfl) (fun h => by simp at h) fun _ H3 l3 on3 => ?_
  have o := owns_lk o on3 l3 (by repeat (first | exact Rep.here | apply Rep.there))
  refine put_spec (lk_at o (by repeat (first | exact List.mem_cons_self | apply List.mem_cons_of_mem))) (.inr rfl) (fun h => by simp [updQ_self] at h) fun _ H4 l4 on4 => ?_
  have o := owns_lk o on4 l4 (by repeat (first | exact Rep.here | apply Rep.there))
  rw [updQ_self, updQ_upd] at o
  have hsz : ∀ (t : List UInt8) (Q : Int → Texts), t.length ≤ 40 → ∀ u ∈ updQ Q 1 [t, [98, 101, 104, 105, 110, 100]] 1, u.length ≤ 1000000 := fun t Q ht u hu => by
    rw [updQ_self] at hu
    simp only [List.mem_cons, List.not_mem_nil, or_false] at hu
    rcases hu with rfl | rfl
    · omega
    · decide
  refine spoil_spec (lk_at o (by repeat (first | exact List.mem_cons_self | apply List.mem_cons_of_mem))) (.inr rfl) (hsz T _ hTl) ha.1 ha.2 hb.1 hb.2 (fun h => by simp [updQ_self] at h) fun t q H5 hq l5 on5 => ?_
  have o := owns_lk o on5 l5 (by repeat (first | exact Rep.here | apply Rep.there))
  rw [updQ_upd] at o
  rw [updQ_self] at hq
  simp only [List.nil_append, List.cons_append, List.cons.injEq] at hq
  obtain ⟨rfl, rfl⟩ := hq
  rw [pNot_v, Bool.not_true]
  refine pOr_false ?_
  refine spoil_spec (lk_at o (by repeat (first | exact List.mem_cons_self | apply List.mem_cons_of_mem))) (.inr rfl) (hsz _ _ (by rw [spoil_len]; exact hTl)) ha.1 ha.2 hb.1 hb.2 (fun h => by simp [updQ_self] at h) fun t q H6 hq l6 on6 => ?_
  have o := owns_lk o on6 l6 (by repeat (first | exact Rep.here | apply Rep.there))
  rw [updQ_upd] at o
  rw [updQ_self] at hq
  simp only [List.cons.injEq] at hq
  obtain ⟨rfl, rfl⟩ := hq
  rw [spoil_twice] at o
  rw [pNot_v, Bool.not_true]
  intro _
  rw [pCond_false]
  refine take_spec (lk_at o (by repeat (first | exact List.mem_cons_self | apply List.mem_cons_of_mem))) (.inr rfl) (fun h => by simp [updQ_self] at h) fun t q H7 hq l7 on7 => ?_
  have o := owns_lk o on7 l7 (by repeat (first | exact Rep.here | apply Rep.there))
  rw [updQ_upd] at o
  rw [updQ_self] at hq
  simp only [List.cons.injEq] at hq
  obtain ⟨rfl, rfl⟩ := hq
  refine pExtract_to rfl ?_
  refine pExtract_to rfl ?_
  refine take_spec (lk_at o (by repeat (first | exact List.mem_cons_self | apply List.mem_cons_of_mem))) (.inr rfl) (fun h => by simp [updQ_self] at h) fun t q H8 hq l8 on8 => ?_
  have o := owns_lk o on8 l8 (by repeat (first | exact Rep.here | apply Rep.there))
  rw [updQ_upd] at o
  rw [updQ_self] at hq
  simp only [List.cons.injEq] at hq
  obtain ⟨rfl, rfl⟩ := hq
  refine pExtract_to rfl ?_
  refine pExtract_to rfl ?_
  refine pEq1_to ?_
  rw [decide_eq_true rfl]
  refine pAnd_true ?_
  refine pEq1_to ?_
  rw [decide_eq_true rfl]
  exact fun _ => ⟨rfl, o.ext⟩
end Go.Proofs.Ytelldphojhmhfaa
