/- The decoder's step as a whole, Feed, and what else can be asked of it. -/
import Derived.Test.YtpnkoniomalcpaaDoorInf6
namespace Go.Proofs.YtpnkoniomalcpaaDoor
open Go Go.Vc Go.Proofs
set_option linter.unusedVariables false
set_option linter.unusedSimpArgs false
variable {H H0 : Heap} {R : Value → Heap → Prop} {v fed : Value} {B : List Bool} {L M : List It} {b : Nat} {q : List Value} {W out : List UInt8}
theorem StQ.any {s : St} (h : StQ L fed s q) (hd : s.isDn = false) : AnyQ fed q := by
  obtain ⟨st, last, left, sy, di, rfl, h2, h3, h4, h5, h6⟩ := h
  cases s with
  | hd => subst h6; exact ⟨0, _, _, _, _, rfl, by decide, h2, h3, h4, h5⟩
  | cp n l => obtain ⟨rfl, rfl, rfl⟩ := h6; exact ⟨1, _, _, _, _, rfl, by decide, h2, h3, h4, h5⟩
  | tl zs zd l => obtain ⟨rfl, rfl, _⟩ := h6; exact ⟨2, _, _, _, _, rfl, by decide, h2, h3, h4, h5⟩
  | dn => cases hd
theorem i64_inj {a c : Nat} (h : i64 a = i64 c) : a = c := by
  simp only [Value.int.injEq, true_and] at h; omega
def leftOk : St → Prop
  | .cp n _ => n ≤ 65535
  | _ => True
theorem Dc.items {v' : It} (d : Dc H0 H b q B W out (M ++ v' :: L)) : Dc H0 H b q B W out (M ++ L) := by
  obtain ⟨post, rv, bv, ring, o, back⟩ := d.rd
  exact back H B _ (o.pick (List.Sublist.cons_cons _ (List.Sublist.cons_cons _ (List.Sublist.cons_cons _ (List.Sublist.append (List.Sublist.refl M) (List.sublist_cons_self _ _))))))
theorem Dc.out_mem {i : It} (d : Dc H0 H b q B W out L) (hi : i ∈ L) : i.holds H := by
  obtain ⟨post, rv, bv, ring, o, back⟩ := d.rd
  exact o.ok _ (List.mem_cons_of_mem _ (List.mem_cons_of_mem _ (List.mem_cons_of_mem _ hi)))
/-- the codes of a state stand in a list, of which an item that is no part of them is struck -/
theorem HasC.strike {zs : List Int} {p : Value} {c : Nat} {cs : List Value} (h : HasC (M ++ .box c cs 62 :: L) zs p) : HasC (M ++ L) zs p := by
  obtain ⟨h1, cb, lv, wv, sv, h2, h3⟩ := h
  refine ⟨h1, cb, lv, wv, sv, h2, fun i hi => ?_⟩
  rcases List.mem_append.1 (h3 i hi) with g | g
  · exact List.mem_append_left _ g
  · rcases List.mem_cons.1 g with rfl | g
    · simp only [codeIts, List.mem_cons, List.not_mem_nil, or_false, It.box.injEq, reduceCtorEq, or_self] at hi
      exact absurd hi.2.2 (by decide)
    · exact List.mem_append_right _ g
theorem StQ.strike {s : St} {c : Nat} {cs : List Value} (h : StQ (M ++ .box c cs 62 :: L) fed s q) : StQ (M ++ L) fed s q := by
  obtain ⟨st, last, left, sy, di, h1, h2, h3, h4, h5, h6⟩ := h
  refine ⟨st, last, left, sy, di, h1, h2, h3, h4, h5, ?_⟩
  cases s with
  | tl zs zd l => exact ⟨h6.1, h6.2.1, h6.2.2.1.strike, h6.2.2.2.strike⟩
  | _ => exact h6
theorem step_spec7 {D : DM} (hG : Reads H0 ⟨0, 0, none⟩ ordV) (hq : StQ L fed D.st q) (hd : D.st.isDn = false) (hlo : leftOk D.st) (hsz : D.W.length + 258 * D.B.length ≤ 1000000000000) (ho : out.length ≤ D.W.length) (d : Dc H0 H b q D.B D.W out L)
    (hgo : ∀ D' o H' M q', stepM D = .go D' o → Dc H0 H' b q' D'.B D'.W (out ++ o) (M ++ L) → StQ (M ++ L) fed D'.st q' → R (.int .i64 0) H')
    (hwt : ∀ D' o H' q', stepM D = .wait D' o → Dc H0 H' b q' D'.B D'.W (out ++ o) L → StQ L fed D'.st q' → R (.int .i64 2) H')
    (hbd : ∀ e H' C q', stepM D = .bad e → e ≠ 0 → e ≠ 2 → Dc H0 H' b q' C D.W out L → AnyQ fed q' → R (.int .i64 e) H') : CallsH Tryd.prog 31 #[at_ b 0] H R := by
  obtain ⟨s, B, W⟩ := D
  dsimp only at hq hd hlo hsz ho d hbd
  have hany := hq.any hd
  obtain ⟨n0, last, left, sy, di, rfl, hn3, hla, hle, hsy, hdi⟩ := hany
  refine inflate_Decoder_step.vc _ _ _ ?_
  unfold inflate_Decoder_step.res
  rw [pNil_v, pFieldAddr_v, add_mk]
  obtain ⟨post, rv, bv, ring, o, back⟩ := d.rd
  obtain ⟨rest, acc, n, h1, hB, hacc, hn40, hbig⟩ := o.thing (T := rdP b post 71 B) (by repeat (first | exact List.mem_cons_self | apply List.mem_cons_of_mem))
  have hR : ∀ {H' : Heap}, H'[b]? = H[b]? → Reads H' ⟨b, 0, none⟩ [str rest, u64 acc, i64 n] := fun {H'} he i x hx => by
    have hs := (Sub.all (he.trans h1)).part (x := []) (y := [str rest, u64 acc, i64 n]) (z := post)
    rw [add_mk]
    have := hs.cell (k := i) hx
    simpa using this
  refine (hR rfl).loadN (n := 3) rfl ?_
  rw [pNil_v, pFieldAddr_v, add_mk]
  refine d.pl (g := 0 + 7) (x := i64 n0) (by decide) rfl ?_
  refine pBox_ext fun H1 s1 e1 b1 => ?_
  have hbH := lt_of_blk h1
  have o1 := o.add (i := .box H.size [.string ⟨#[]⟩, .int .u64 0, .int .i64 0] 62) e1 b1 (fun k hk => by simp only [It.foot] at hk; omega)
  have o1 : Owns H0 H1 (rdI b post 71 B :: .sl rv 1 (ring.map byteV) :: .thing (bufT bv out) :: .box H.size [.string ⟨#[]⟩, .int .u64 0, .int .i64 0] 62 :: L) := o1.arrT (by repeat (first | exact SelsT.refl | exact Sel.here | apply SelsT.cons | apply Sel.there))
  have d1 := back H1 B _ o1
  refine ⟨(hR (e1.get b hbH)).loadN (n := 3) rfl rfl, d1.pl (g := 0 + 7) (x := i64 n0) (by decide) rfl rfl, ?_⟩
  have hpost := o1
  refine o1.bstoreN (b := H.size) (vs := [str rest, u64 acc, i64 n]) (by repeat (first | exact List.mem_cons_self | apply List.mem_cons_of_mem)) rfl rfl rfl (by repeat (first | exact Rep.here | apply Rep.there)) fun H2 o2 _ => ?_
  have d2 := back H2 B _ o2
  refine ⟨d2.pl (g := 0 + 7) (x := i64 n0) (by decide) rfl rfl, ?_⟩
  have hqb : StQ (.box H.size [str rest, u64 acc, i64 n] 62 :: L) fed s [i64 n0, last, left, sy, di, fed, .int .i64 0] := hq.mono fun _ => List.mem_cons_of_mem _
  generalize hbx : It.box H.size [str rest, u64 acc, i64 n] 62 = bx at *
  refine ⟨fun e H' => (e = .int .i64 0 ∧ ∃ D' o M q', stepM ⟨s, B, W⟩ = .go D' o ∧ Dc H0 H' b q' D'.B D'.W (out ++ o) (M ++ bx :: L) ∧ StQ (M ++ bx :: L) fed D'.st q') ∨
      (e = .int .i64 2 ∧ stepM ⟨s, B, W⟩ = .wait ⟨s, B, W⟩ [] ∧ ∃ C q', Dc H0 H' b q' C W out (bx :: L) ∧ StQ L fed s (q'.set 0 (i64 n0))) ∨
      (∃ ev C q', e = .int .i64 ev ∧ ev ≠ 0 ∧ ev ≠ 2 ∧ stepM ⟨s, B, W⟩ = .bad ev ∧ Dc H0 H' b q' C W out (bx :: L) ∧ AnyQ fed q'), ?_, ?_⟩
  · rintro _ _ H3 (⟨rfl, D', o, M, q', hs, d, hq'⟩ | ⟨rfl, hs, C, q', d, hq'⟩ | ⟨ev, C, q', rfl, h0, h2, hs, d, hq'⟩)
    · rw [pEq_0, decide_eq_false (by decide), pCond_false]
      subst hbx
      exact hgo D' o H3 M q' hs d.items hq'.strike
    · rw [pEq_0, decide_eq_true rfl, pCond_true]
      obtain ⟨post, rv, bv, ring, o, back⟩ := d.rd
      refine o.bloadN (b := H.size) (cs := [str rest, u64 acc, i64 n]) (t := 62) (n := 3) (by subst hbx; repeat (first | exact List.mem_cons_self | apply List.mem_cons_of_mem)) rfl ?_
      rw [pNil_v, pFieldAddr_v, add_mk]
      refine o.p3s (B' := B) Rep.here hB hacc hn40 hbig fun H4 o _ => ?_
      have d := back H4 B _ o
      rw [pNil_v, pFieldAddr_v, add_mk]
      have hl := hq'.len
      rw [List.length_set] at hl
      refine d.ps (g := 0 + 7) (by decide) (by omega) rfl fun H5 d => ?_
      exact hwt _ [] H5 _ hs (by rw [List.append_nil]; exact Dc.items (M := []) d) hq'
    · rw [pEq_0, decide_eq_false h2, pCond_false]
      exact hbd ev H3 C q' hs h0 h2 (Dc.items (M := []) d) hq'
  · have bad : ∀ {e : Int}, e ≠ 0 → e ≠ 2 → stepM ⟨s, B, W⟩ = SR.of ⟨s, B, W⟩ e → stepM ⟨s, B, W⟩ = .bad e := fun _ h hh => by rw [hh]; unfold SR.of; rw [if_neg h]
    have wt : ∀ {e : Int}, e = 2 → stepM ⟨s, B, W⟩ = SR.of ⟨s, B, W⟩ e → stepM ⟨s, B, W⟩ = .wait ⟨s, B, W⟩ [] := fun h hh => by rw [hh]; unfold SR.of; rw [if_pos h]
    rw [pNil_v, pFieldAddr_v, add_mk]
    refine d2.pl (g := 0 + 7) (x := i64 n0) (by decide) rfl ?_
    cases s with
    | hd =>
      have hn0 : n0 = 0 := by obtain ⟨_, _, _, _, _, hqe, _, _, _, _, hst⟩ := hq; exact i64_inj ((List.cons.inj hqe).1.trans hst)
      subst hn0
      rw [pEq_0, decide_eq_true (p := ((0 : Nat) : Int) = 0) rfl, pCond_true]
      refine head_spec7 hG ⟨0, last, left, sy, di, rfl, by decide, hla, hle, hsy, hdi⟩ d2 (fun st C H3 M q' hh d hs => ?_) (fun e H3 C q' hh he d hs => ?_)
      · exact .inl ⟨rfl, ⟨st, C, W⟩, [], M, q', by unfold stepM; rw [hh], by rw [List.append_nil]; exact d, hs⟩
      · have hst : stepM ⟨.hd, B, W⟩ = SR.of ⟨.hd, B, W⟩ e := by conv => lhs; unfold stepM; rw [hh]
        by_cases h2 : e = 2
        · refine .inr (.inl ⟨by rw [h2], wt h2 hst, C, q', d, ?_⟩)
          obtain ⟨n', last, left, sy, di, rfl, g1, g2, g3, g4, g5⟩ := hs
          exact ⟨_, _, _, _, _, rfl, g2, g3, g4, g5, rfl⟩
        · exact .inr (.inr ⟨e, C, q', rfl, he, h2, bad he h2 hst, d, hs⟩)
    | cp nl l =>
      have hn0 : n0 = 1 := by obtain ⟨_, _, _, _, _, hqe, _, _, _, _, hst, _⟩ := hq; exact i64_inj ((List.cons.inj hqe).1.trans hst)
      subst hn0
      rw [pEq_0, decide_eq_false (by decide), pCond_false, pEq_0, decide_eq_true (p := ((1 : Nat) : Int) = 1) rfl, pCond_true]
      refine copied_spec hqb hlo hsz ho d2 (fun D' o H3 q' hh d hs => ?_) (fun D' o H3 q' hh d hs => ?_)
      · subst hbx; exact hgo D' o H3 [] q' hh (Dc.items (M := []) d) (StQ.strike (M := []) hs)
      · subst hbx; exact hwt D' o H3 q' hh (Dc.items (M := []) d) (StQ.strike (M := []) hs)
    | tl zs zd l =>
      have hn0 : n0 = 2 := by obtain ⟨_, _, _, _, _, hqe, _, _, _, _, hst, _⟩ := hq; exact i64_inj ((List.cons.inj hqe).1.trans hst)
      subst hn0
      rw [pEq_0, decide_eq_false (by decide), pCond_false, pEq_0, decide_eq_false (by decide), pCond_false, pEq_0, decide_eq_true (p := ((2 : Nat) : Int) = 2) rfl, pCond_true]
      refine symbol_spec7 hqb hsz ho d2 (fun D' o H3 q' hh d hs => ?_) (fun e C H3 hh he d => ?_)
      · exact .inl ⟨rfl, D', o, [], q', hh, d, hs⟩
      · by_cases h2 : e = 2
        · exact .inr (.inl ⟨by rw [h2], wt h2 hh, C, _, d, hq⟩)
        · exact .inr (.inr ⟨e, C, _, rfl, he, h2, bad he h2 hh, d, hq.any rfl⟩)
    | dn => cases hd
end Go.Proofs.YtpnkoniomalcpaaDoor
