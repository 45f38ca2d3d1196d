/- A decoder in whatever state, and that it can be put by. -/
import Derived.Test.YtpnkoniomalcpaaDoorInf9
namespace Go.Proofs.YtpnkoniomalcpaaDoor
open Go Go.Vc Go.Proofs
set_option linter.unusedVariables false
set_option linter.unusedSimpArgs false
variable {H H0 : Heap} {R : Value → Heap → Prop} {v : Value} {B : List Bool} {L M : List It} {b fed : Nat} {q : List Value} {W out : List UInt8} {D : DM} {e : Int}
theorem run_inv : ∀ (n : Nat) (D : DM), meas D < n → leftOk D.st → (run D).2.1.W = D.W ++ (run D).1 ∧ (run D).2.1.W.length + 258 * (run D).2.1.B.length ≤ D.W.length + 258 * D.B.length ∧ leftOk (run D).2.1.st
  | 0, D, h, _ => by omega
  | n + 1, D, h, hl => by
    by_cases hd : D.st.isDn = true
    · rw [run_dn hd]; exact ⟨by simp, Nat.le_refl _, hl⟩
    · have hd : D.st.isDn = false := by simpa using hd
      cases hst : stepM D with
      | go D' o =>
        have hi := step_inv hl (.inl hst)
        have ih := run_inv n D' (by have := step_meas hst; omega) hi.2.2
        rw [run_go hst]
        refine ⟨?_, by dsimp only; omega, ih.2.2⟩
        show (run D').2.1.W = D.W ++ (o ++ (run D').1)
        rw [ih.1, hi.1, List.append_assoc]
      | wait D' o =>
        have hi := step_inv hl (.inr hst)
        rw [run_wait hd hst]
        exact ⟨hi.1, hi.2.1, hi.2.2⟩
      | bad e => rw [run_bad hd hst]; exact ⟨by simp, Nat.le_refl _, hl⟩
/-- a decoder, with an error or without one -/
def Any7 (H0 H : Heap) (b : Nat) (D : DM) (fed : Nat) (e : Int) (L : List It) : Prop := (e = 0 ∧ Rest7 H0 H b D fed L) ∨ (e ≠ 0 ∧ Dead7 H0 H b D.W fed e L)
theorem Any7.ext (a : Any7 H0 H b D fed e L) : Ext H0 H := by
  rcases a with ⟨_, q, _, bp, bv, _, _, rv, ring, _, _, o⟩ | ⟨_, _, _, _, _, _, _, _, ⟨bp, bv, _, _, rv, ring, _, _, o⟩, _⟩ <;> exact o.ext
theorem Any7.more {H' : Heap} (a : Any7 H0 H b D fed e L) (hx : Ext H H') : Any7 H0 H' b D fed e L := by
  rcases a with ⟨h, r⟩ | ⟨h, n, la, le, sy, di, C, hn, d, g⟩
  · exact .inl ⟨h, r.more hx⟩
  · obtain ⟨post, rv, ring, o, back⟩ := d.rd
    exact .inr ⟨h, n, la, le, sy, di, C, hn, back H' _ L (o.more hx), g⟩
/-- several things as one -/
def allT (P : List It) : Thing where
  foot k := ∃ i ∈ P, i.foot k
  holds H := (∀ i ∈ P, i.holds H) ∧ P.Pairwise fun (i j : It) => ∀ k : Nat, i.foot k → ¬ j.foot k
  frame := fun h hf => ⟨fun i hi => It.frame (h.1 i hi) fun k hk => hf k ⟨i, hi, hk⟩, h.2⟩
  lt := fun h hf => by obtain ⟨i, hi, hk⟩ := hf; exact It.lt (h.1 i hi) hk
theorem allT_in {P : List It} (o : Owns H0 H (P ++ L)) : Owns H0 H (.thing (allT P) :: L) := by
  have hp := List.pairwise_append.1 o.dis
  refine ⟨o.ext, ?_, ?_, List.pairwise_cons.2 ⟨?_, hp.2.1⟩⟩
  · intro i hi
    rcases List.mem_cons.1 hi with rfl | hi
    · exact ⟨fun i hi => o.ok i (List.mem_append_left _ hi), hp.1⟩
    · exact o.ok i (List.mem_append_right _ hi)
  · intro i hi k hk
    rcases List.mem_cons.1 hi with rfl | hi
    · obtain ⟨j, hj, hk⟩ := hk; exact o.new j (List.mem_append_left _ hj) k hk
    · exact o.new i (List.mem_append_right _ hi) k hk
  · rintro j hj k ⟨i, hi, hk⟩
    exact hp.2.2 i hi j hj k hk
theorem allT_out {P : List It} (o : Owns H0 H (.thing (allT P) :: L)) : Owns H0 H (P ++ L) := by
  have hp := List.pairwise_cons.1 o.dis
  have ht := o.ok (.thing (allT P)) List.mem_cons_self
  refine ⟨o.ext, ?_, ?_, List.pairwise_append.2 ⟨ht.2, hp.2, ?_⟩⟩
  · intro i hi
    rcases List.mem_append.1 hi with hi | hi
    · exact ht.1 i hi
    · exact o.ok i (List.mem_cons_of_mem _ hi)
  · intro i hi k hk
    rcases List.mem_append.1 hi with hi | hi
    · exact o.new (.thing (allT P)) List.mem_cons_self k ⟨i, hi, hk⟩
    · exact o.new i (List.mem_cons_of_mem _ hi) k hk
  · intro i hi j hj k hk
    exact hp.1 j hj k ⟨i, hi, hk⟩
theorem HasC.strikeT {zs : List Int} {p : Value} {T : Thing} (h : HasC (M ++ .thing T :: L) zs p) : HasC (M ++ L) zs p := by
  obtain ⟨h1, cb, lv, wv, sv, h2, h3⟩ := h
  refine ⟨h1, cb, lv, wv, sv, h2, fun i hi => ?_⟩
  rcases List.mem_append.1 (h3 i hi) with g | g
  · exact List.mem_append_left _ g
  · rcases List.mem_cons.1 g with rfl | g
    · simp only [codeIts, List.mem_cons, List.not_mem_nil, or_false, reduceCtorEq, or_self] at hi
    · exact List.mem_append_right _ g
theorem StQ.strikeT {s : St} {T : Thing} {fed : Value} (h : StQ (M ++ .thing T :: L) fed s q) : StQ (M ++ L) fed s q := by
  obtain ⟨st, last, left, sy, di, h1, h2, h3, h4, h5, h6⟩ := h
  refine ⟨st, last, left, sy, di, h1, h2, h3, h4, h5, ?_⟩
  cases s with
  | tl zs zd l => exact ⟨h6.1, h6.2.1, h6.2.2.1.strikeT, h6.2.2.2.strikeT⟩
  | _ => exact h6
/-- its things, as one thing of a list -/
theorem Any7.park (a : Any7 H0 H b D fed e L) : ∃ S : Thing, Owns H0 H (.thing S :: L) ∧ ∀ (H0 H : Heap) (N : List It), (∀ i ∈ L, i ∈ N) → Owns H0 H (.thing S :: N) → Any7 H0 H b D fed e N := by
  rcases a with ⟨h, q, hq, d⟩ | ⟨h, n, la, le, sy, di, C, hn, d, g⟩
  · obtain ⟨P, hP, o⟩ := d.park
    exact ⟨allT P, allT_in o, fun H0 H N hN o => .inl ⟨h, q, hq.mono hN, hP H0 H N (allT_out o)⟩⟩
  · obtain ⟨P, hP, o⟩ := d.park
    exact ⟨allT P, allT_in o, fun H0 H N hN o => .inr ⟨h, n, la, le, sy, di, C, hn, hP H0 H N (allT_out o), g⟩⟩
theorem Any7.parkT {T : Thing} (a : Any7 H0 H b D fed e (M ++ .thing T :: L)) : ∃ S : Thing, Owns H0 H (.thing S :: (M ++ .thing T :: L)) ∧ ∀ (H0 H : Heap) (N : List It), (∀ i ∈ M ++ L, i ∈ N) → Owns H0 H (.thing S :: N) → Any7 H0 H b D fed e N := by
  rcases a with ⟨h, q, hq, d⟩ | ⟨h, n, la, le, sy, di, C, hn, d, g⟩
  · obtain ⟨P, hP, o⟩ := d.park
    exact ⟨allT P, allT_in o, fun H0 H N hN o => .inl ⟨h, q, hq.strikeT.mono hN, hP H0 H N (allT_out o)⟩⟩
  · obtain ⟨P, hP, o⟩ := d.park
    exact ⟨allT P, allT_in o, fun H0 H N hN o => .inr ⟨h, n, la, le, sy, di, C, hn, hP H0 H N (allT_out o), g⟩⟩
/-- what it is behind a feeding -/
noncomputable def feedR (D : DM) (e : Int) (s : List UInt8) : List UInt8 × DM × Int := if e = 0 then run (D.add (toBits s)) else ([], D, e)
def fedR (fed : Nat) (e : Int) (s : List UInt8) : Nat := if e = 0 then fed + s.length else fed
theorem feed_any {s : List UInt8} (hG : Reads H0 ⟨0, 0, none⟩ ordV) (a : Any7 H0 H b D fed e L) (hl : leftOk D.st) (hsz : D.W.length + 258 * (D.B.length + 8 * s.length) ≤ 1000000000000) (hfed : fed + s.length ≤ 1000000000000)
    (h : ∀ H' M, Any7 H0 H' b (feedR D e s).2.1 (fedR fed e s) (feedR D e s).2.2 (M ++ L) → R (.tuple #[str (feedR D e s).1, .int .i64 (feedR D e s).2.2]) H') : CallsH Tryd.prog 8 #[at_ b 0, str s] H R := by
  unfold feedR fedR at h
  rcases a with ⟨rfl, r⟩ | ⟨he, d⟩
  · rw [if_pos rfl, if_pos rfl] at h
    refine feed_spec7 hG r hl hsz hfed (fun o D' H' M hr r => ?_) (fun o D' e H' M hr he d => ?_)
    · rw [hr] at h; exact h H' M (.inl ⟨rfl, r⟩)
    · rw [hr] at h; exact h H' M (.inr ⟨he, d⟩)
  · rw [if_neg he, if_neg he] at h
    exact feed_dead he d (h H [] (.inr ⟨he, d⟩))
def doneR (D : DM) (e : Int) : Bool := if e = 0 then D.st.isDn else false
def restR (D : DM) (e : Int) : List UInt8 := if doneR D e then toBytes ((alB D.B).take (8 * (D.B.length / 8))) else []
def usedR (D : DM) (fed : Nat) (e : Int) : Int := if doneR D e then (fed : Int) - ((restR D e).length : Int) else 0
theorem done_any (a : Any7 H0 H b D fed e L) (h : R (.bool (doneR D e)) H) : CallsH Tryd.prog 11 #[at_ b 0] H R := by
  unfold doneR at h
  rcases a with ⟨rfl, r⟩ | ⟨he, d⟩
  · rw [if_pos rfl] at h; exact done_spec7 r h
  · rw [if_neg he] at h; exact done_dead d h
theorem rest_any (a : Any7 H0 H b D fed e L) (h : ∀ H', Ext H H' → R (str (restR D e)) H') : CallsH Tryd.prog 12 #[at_ b 0] H R := by
  unfold restR doneR at h
  rcases a with ⟨rfl, r⟩ | ⟨he, d⟩
  · rw [if_pos rfl] at h
    cases hd : D.st.isDn with
    | true => rw [hd] at h; exact rest_spec7 r hd h
    | false => rw [hd] at h; exact rest_no r hd (h H (Ext.refl H))
  · rw [if_neg he] at h; exact rest_dead d (h H (Ext.refl H))
theorem used_any (a : Any7 H0 H b D fed e L) (hf : fed ≤ 1000000000000) (hB : D.B.length ≤ 8000000000000) (h : ∀ H', Ext H H' → R (.int .i64 (usedR D fed e)) H') : CallsH Tryd.prog 13 #[at_ b 0] H R := by
  unfold usedR restR doneR at h
  rcases a with ⟨rfl, r⟩ | ⟨he, d⟩
  · rw [if_pos rfl] at h
    cases hd : D.st.isDn with
    | true => rw [hd] at h; exact used_spec7 r hd hf hB h
    | false => rw [hd] at h; exact used_no r hd (h H (Ext.refl H))
  · rw [if_neg he] at h; exact used_dead d (h H (Ext.refl H))
theorem told_any (a : Any7 H0 H b D fed e L) (h : R (i64 D.W.length) H) : CallsH Tryd.prog 28 #[at_ b 0] H R := by
  rcases a with ⟨_, q, _, d⟩ | ⟨_, _, _, _, _, _, _, _, d, _⟩ <;> exact told_idle d h
/-- a copy: both stand, apart -/
theorem copy_any (a : Any7 H0 H b D fed e L) (h : ∀ H' c S, Any7 H0 H' c D fed e (.thing S :: L) → (∀ (H0 H : Heap) (N : List It), (∀ i ∈ L, i ∈ N) → Owns H0 H (.thing S :: N) → Any7 H0 H b D fed e N) → R (at_ c 0) H') : CallsH Tryd.prog 27 #[at_ b 0] H R := by
  have sw : ∀ {H' : Heap} {P Q : List It}, Owns H0 H' (Q ++ (P ++ L)) → Owns H0 H' (Q ++ (.thing (allT P) :: L)) := fun {H' P Q} o => by
    have o1 : Owns H0 H' (P ++ (Q ++ L)) := o.perm (by rw [← List.append_assoc, ← List.append_assoc]; exact List.perm_append_comm.append_right L)
    exact (allT_in o1).perm List.perm_middle
  rcases a with ⟨he, q, hq, d⟩ | ⟨he, n, la, le, sy, di, C, hn, d, g1, g2, g3, g4⟩
  · have hq0 := hq
    obtain ⟨st, last, left, sy, di, rfl, q2, q3, q4, q5, q6⟩ := hq0
    have hst : oneCell st = true := by
      cases hs : D.st <;> rw [hs] at q6
      · subst q6; rfl
      · obtain ⟨rfl, _⟩ := q6; rfl
      · obtain ⟨rfl, _⟩ := q6; rfl
      · subst q6; rfl
    refine copy_spec7 hst q2 q3 q4 q5 rfl rfl d fun H' c P Q hP hQ o => ?_
    exact h H' c (allT P) (.inl ⟨he, _, hq.mono fun _ => List.mem_cons_of_mem _, hQ H0 H' _ (sw o)⟩) (fun H0 H N hN o => .inl ⟨he, _, hq.mono hN, hP H0 H N (allT_out o)⟩)
  · refine copy_spec7 rfl g1 g2 g3 g4 rfl rfl d fun H' c P Q hP hQ o => ?_
    exact h H' c (allT P) (.inr ⟨he, n, la, le, sy, di, C, hn, hQ H0 H' _ (sw o), g1, g2, g3, g4⟩) (fun H0 H N hN o => .inr ⟨he, n, la, le, sy, di, C, hn, hP H0 H N (allT_out o), g1, g2, g3, g4⟩)
theorem new_any (o : Owns H0 H L) (h : ∀ H' b, Any7 H0 H' b ⟨.hd, [], []⟩ 0 0 L → R (at_ b 0) H') : CallsH Tryd.prog 9 #[] H R :=
  new_spec7 o fun H' b r => h H' b (.inl ⟨rfl, r⟩)
end Go.Proofs.YtpnkoniomalcpaaDoor
