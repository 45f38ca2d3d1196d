/- Part 6 of the proof of RowTopCodes: what it is built on, in the order of its needs. -/
import Derived.Test.YtameljhbkedhjaaGreatDoorPkE
namespace Go.Proofs.YtameljhbkedhjaaGreatDoor
open Go Go.Vc Go.Proofs
set_option linter.unusedVariables false
set_option linter.unusedSimpArgs false
variable {H H0 : Heap} {R : Value → Heap → Prop} {v fed : Value} {B : List Bool} {L M : List It} {b : Nat} {q : List Value} {W out : List UInt8}
theorem copyN_split7 (k : Nat) (all : List UInt8) (d : Nat) : copyN k all d = all ++ (copyN k all d).drop all.length := by
  have := copyN_take k all d
  conv => lhs; rw [← List.take_append_drop all.length (copyN k all d), this]
theorem matchM_small {di : List Int} {s : Nat} {p : Nat × Nat} {C : List Bool} (hs : 257 ≤ s) (h : matchM di s B = .ok p C) : p.1 ≤ 258 := by
  unfold matchM at h
  split at h
  · cases h
  · obtain ⟨f1, f2, f3, f4⟩ := lens_facts ⟨s - 257, by omega⟩
    have es : (257 : Int) + ((s - 257 : Nat) : Int) = (s : Int) := by omega
    dsimp only at f1 f2 f3 f4
    rw [es] at f1 f2 f3 f4
    cases hx : needM (lenOf (s : Int)).2.toNat B with
    | er e => rw [hx] at h; cases h
    | ok x C1 =>
      rw [hx] at h
      obtain ⟨g1, g2, g3⟩ := needM_ok hx
      have hlt := numB_lt (B.take (lenOf (s : Int)).2.toNat)
      rw [List.length_take, Nat.min_eq_left g1, ← g2] at hlt
      dsimp only [Rs.bind] at h
      cases hk : nextM di C1 with
      | er e => rw [hk] at h; cases h
      | ok k C2 =>
        rw [hk] at h
        dsimp only at h
        split at h
        · cases h
        · cases hy : needM (distOf (k : Int)).2.toNat C2 with
          | er e => rw [hy] at h; cases h
          | ok y C3 =>
            rw [hy] at h
            cases h
            dsimp only
            omega
theorem headM_left {st : St} {C : List Bool} (h : headM B = .ok st C) : leftOk st := by
  have : (headM B).All leftOk := by
    unfold headM
    refine Rs.All.bind fun v B => ?_
    split
    · refine Rs.All.bind fun x B => ?_
      split
      · exact all_er
      · exact all_ok (by show x % 65536 ≤ 65535; omega)
    split
    · exact all_ok trivial
    split
    · exact Rs.All.bind fun p B => all_ok trivial
    · exact all_er
  rw [h] at this
  exact this.h
theorem endM_W (l : Bool) (B : List Bool) (W : List UInt8) : (endM l B W).W = W ∧ leftOk (endM l B W).st ∧ (endM l B W).B.length ≤ B.length := by
  have := alB_len B
  cases l
  · exact ⟨rfl, trivial, Nat.le_refl _⟩
  · exact ⟨rfl, trivial, this.1⟩
theorem step_inv {D D' : DM} {o : List UInt8} (hl : leftOk D.st) (h : stepM D = .go D' o ∨ stepM D = .wait D' o) : D'.W = D.W ++ o ∧ D'.W.length + 258 * D'.B.length ≤ D.W.length + 258 * D.B.length ∧ leftOk D'.st := by
  obtain ⟨st, B, W⟩ := D
  unfold stepM at h
  cases st with
  | hd =>
    dsimp only at h
    split at h
    · rename_i st C hh
      rcases h with h | h <;> cases h
      have := headM_three hh
      exact ⟨by simp, by dsimp only; omega, headM_left hh⟩
    · unfold SR.of at h
      split at h <;> rcases h with h | h <;> cases h
      exact ⟨by simp, Nat.le_refl _, trivial⟩
  | cp left last =>
    dsimp only at h hl ⊢
    have hal := alB_len B
    split at h
    · rcases h with h | h <;> cases h
      refine ⟨rfl, ?_, ?_⟩
      · dsimp only
        rw [List.length_append, toBytes_k (k := min left ((alB B).length / 8)) (by rw [List.length_take]; omega), List.length_drop]
        omega
      · show left - _ ≤ 65535
        have : left ≤ 65535 := hl
        omega
    · rcases h with h | h <;> cases h
      obtain ⟨e1, e2, e3⟩ := endM_W last ((alB B).drop (8 * left)) (W ++ toBytes ((alB B).take (8 * left)))
      refine ⟨e1, ?_, e2⟩
      rw [e1, List.length_append, toBytes_k (k := left) (by rw [List.length_take]; omega)]
      rw [List.length_drop] at e3
      omega
  | tl sy di last =>
    dsimp only at h ⊢
    split at h
    · unfold SR.of at h
      split at h <;> rcases h with h | h <;> cases h
      exact ⟨by simp, Nat.le_refl _, trivial⟩
    · rename_i s C hn
      have h1 := nextM_one hn
      split at h
      · rcases h with h | h <;> cases h
        obtain ⟨e1, e2, e3⟩ := endM_W last C W
        exact ⟨by rw [e1]; simp, by rw [e1]; omega, e2⟩
      split at h
      · rcases h with h | h <;> cases h
        exact ⟨rfl, by dsimp only; rw [List.length_append, List.length_singleton]; omega, trivial⟩
      · split at h
        · unfold SR.of at h
          split at h <;> rcases h with h | h <;> cases h
          exact ⟨by simp, Nat.le_refl _, trivial⟩
        · rename_i p E hm
          have h2 := matchM_less (di := di) (s := s) (B := C)
          rw [hm] at h2
          have h2 : E.length ≤ C.length := h2.h
          have h3 := matchM_small (by omega) hm
          split at h <;> rcases h with h | h <;> cases h
          exact ⟨copyN_split7 _ _ _, by dsimp only; rw [copyN_len]; omega, trivial⟩
  | dn =>
    rcases h with h | h <;> cases h
    exact ⟨by simp, Nat.le_refl _, trivial⟩
def heapMeas (b : Nat) (H : Heap) : Nat := match H[b]? with
  | some (.cells cs _ _) => (match cs[0]?, cs[2]?, cs[7]? with
    | some (Value.string s), some (Value.int _ n), some (Value.int _ st) => 2 * (8 * (bys s).length + n.toNat) + (if st = 1 then 1 else 0)
    | _, _, _ => 0)
  | _ => 0
theorem heapMeas_dc {s : St} (d : Dc H0 H b q B W out L) (hq : StQ L fed s q) : heapMeas b H = meas ⟨s, B, W⟩ := by
  obtain ⟨st, last, left, sy, di, rfl, -, -, -, -, h6⟩ := hq
  obtain ⟨bp, bv, hbp, hbv, rv, ring, hr, hs, o⟩ := d
  obtain ⟨rest, acc, n, h1, h2, -⟩ := o.thing (T := rdP b _ 76 B) (by repeat (first | exact List.mem_cons_self | apply List.mem_cons_of_mem))
  unfold heapMeas meas
  have hlen : B.length = n + 8 * rest.length := by rw [h2, List.length_append, bitsN_len, toBits_len]
  rw [h1]
  cases s with
  | hd => subst h6; simp only [List.getElem?_toArray, List.getElem?_cons_zero, List.getElem?_cons_succ, bys_mk, Int.toNat_natCast]; rw [if_neg (show ¬ ((0 : Nat) : Int) = 1 by decide)]; omega
  | cp n l => obtain ⟨rfl, -⟩ := h6; simp only [List.getElem?_toArray, List.getElem?_cons_zero, List.getElem?_cons_succ, bys_mk, Int.toNat_natCast]; rw [if_pos (show ((1 : Nat) : Int) = 1 by decide)]; omega
  | tl zs zd l => obtain ⟨rfl, -⟩ := h6; simp only [List.getElem?_toArray, List.getElem?_cons_zero, List.getElem?_cons_succ, bys_mk, Int.toNat_natCast]; rw [if_neg (show ¬ ((2 : Nat) : Int) = 1 by decide)]; omega
  | dn => subst h6; simp only [List.getElem?_toArray, List.getElem?_cons_zero, List.getElem?_cons_succ, bys_mk, Int.toNat_natCast]; rw [if_neg (show ¬ ((3 : Nat) : Int) = 1 by decide)]; omega
def Rest7 (H0 H : Heap) (b : Nat) (D : DM) (fed : Nat) (L : List It) : Prop := ∃ q, StQ L (i64 fed) D.st q ∧ Idle H0 H b q D.B D.W L
def Dead7 (H0 H : Heap) (b : Nat) (W : List UInt8) (fed : Nat) (e : Int) (L : List It) : Prop := ∃ (n : Nat) (last left sy di : Value) (C : List Bool), n < 3 ∧ Idle H0 H b [i64 n, last, left, sy, di, i64 fed, .int .i64 e] C W L ∧ oneCell last = true ∧ oneCell left = true ∧ oneCell sy = true ∧ oneCell di = true
theorem Idle.pl {K : Value → Prop} {g : Nat} {x : Value} (d : Idle H0 H b q B W L) (h7 : 7 ≤ g) (hx : q[g - 7]? = some x) (hk : K x) : pLoad H (at_ b g) K := by
  obtain ⟨bp, bv, hbp, hbv, w⟩ := d
  refine w.pl (x := x) (by omega) ?_ hk
  obtain ⟨j, rfl⟩ : ∃ j, g = j + 7 := ⟨g - 7, by omega⟩
  simp only [Nat.add_sub_cancel] at hx
  rw [show j + 7 - 5 = j + 1 + 1 by omega]
  exact hx
theorem Idle.ps {K : Value → Heap → Prop} {g : Nat} {x : Value} (d : Idle H0 H b q B W L) (h7 : 7 ≤ g) (hg : g - 7 < q.length) (hx : oneCell x = true) (hk : ∀ H', Idle H0 H' b (q.set (g - 7) x) B W L → K undef H') : pStore H (at_ b g) x K := by
  obtain ⟨bp, bv, hbp, hbv, w⟩ := d
  refine w.ps (by omega) (by simp; omega) hx fun H' w => hk H' ⟨bp, bv, hbp, hbv, ?_⟩
  obtain ⟨j, rfl⟩ : ∃ j, g = j + 7 := ⟨g - 7, by omega⟩
  rw [show j + 7 - 5 = j + 1 + 1 by omega] at w
  exact w
theorem Idle.rd (d : Idle H0 H b q B W L) : ∃ (post : List Value) (rv : Value) (ring : List UInt8), Owns H0 H (rdI b post 76 B :: .sl rv 1 (ring.map byteV) :: L) ∧ ∀ H' C M, Owns H0 H' (rdI b post 76 C :: .sl rv 1 (ring.map byteV) :: M) → Idle H0 H' b q C W M := by
  obtain ⟨bp, bv, hbp, hbv, rv, ring, hr, hs, o⟩ := d
  exact ⟨_, rv, ring, o, fun H' C M o => ⟨bp, bv, hbp, hbv, rv, ring, hr, hs, o⟩⟩
theorem new_spec7 (o : Owns H0 H L) (h : ∀ H' b, Rest7 H0 H' b ⟨.hd, [], []⟩ 0 L → R (at_ b 0) H') : CallsH Tryz.prog 9 #[] H R := by
  refine inflate_New.vc _ _ ?_
  unfold inflate_New.res
  rw [pBuild_n]
  refine pBox_ext fun H1 s1 e1 b1 => ?_
  have o1 := o.nil1
  have o1 := o1.add (i := rdI H.size [.slice none 0 0, i64 0, .pointer none, .slice none 0 0, i64 0, .bool false, .int .i64 0, .pointer none, .pointer none, i64 0, .int .i64 0] 76 []) e1 ⟨[], 0, 0, b1, rfl, by decide, by decide, by decide⟩ (fun k hk => by
    have hk : k = H.size := hk
    omega)
  refine h H1 H.size ⟨[i64 0, .bool false, .int .i64 0, .pointer none, .pointer none, i64 0, .int .i64 0], ⟨_, _, _, _, _, rfl, rfl, rfl, rfl, rfl, rfl⟩, .pointer none, .slice none 0 0, rfl, rfl, .slice none 0 0, [], ⟨rfl, fun i hi => by simp at hi⟩, by simp, o1⟩
theorem feed_spec7 {s : List UInt8} {D : DM} {fed : Nat} (hG : Reads H0 ⟨1, 0, none⟩ ordV) (r : Rest7 H0 H b D fed L) (hl : leftOk D.st) (hsz : D.W.length + 258 * (D.B.length + 8 * s.length) ≤ 1000000000000) (hfed : fed + s.length ≤ 1000000000000)
    (hok : ∀ o D' H' M, run (D.add (toBits s)) = (o, D', 0) → Rest7 H0 H' b D' (fed + s.length) (M ++ L) → R (.tuple #[str o, .int .i64 0]) H')
    (her : ∀ o D' e H' M, run (D.add (toBits s)) = (o, D', e) → e ≠ 0 → Dead7 H0 H' b D'.W (fed + s.length) e (M ++ L) → R (.tuple #[str o, .int .i64 e]) H') : CallsH Tryz.prog 10 #[at_ b 0, str s] H R := by
  obtain ⟨q, hq, d⟩ := r
  have hq7 := hq.len
  have hq0 := hq
  obtain ⟨st, last, left, sy, di, rfl, q2, q3, q4, q5, q6⟩ := hq0
  refine inflate_Decoder_Feed.vc _ _ _ _ ?_
  unfold inflate_Decoder_Feed.res
  rw [pEq_3s, pCond_false, pNil_v, pFieldAddr_v, add_mk]
  refine d.pl (g := 0 + 13) (x := .int .i64 0) (by decide) rfl ?_
  refine ne_ok ?_
  rw [pCond_false, pNil_v, pFieldAddr_v, add_mk]
  obtain ⟨post, rv, ring, o, back⟩ := d.rd
  refine rFeed_spec (rdP_rd o (by repeat (first | exact List.mem_cons_self | apply List.mem_cons_of_mem))) (by omega) fun H1 w c => ?_
  have d := back H1 _ L (o.rd w c Rep.here)
  rw [pNil_v, pFieldAddr_v, add_mk]
  refine d.pl (g := 0 + 12) (x := i64 fed) (by decide) rfl ?_
  refine pLenS_to ?_
  rw [pAdd_v, show (fed : Int) + (s.length : Int) = ((fed + s.length : Nat) : Int) by omega, w64 (by omega) (by omega), pNil_v, pFieldAddr_v, add_mk]
  refine d.ps (g := 0 + 12) (by decide) (by simp) rfl fun H2 d => ?_
  rw [pNil_v, pFieldAddr_v, add_mk]
  refine breset7 rfl d fun H3 d => ?_
  have hqs : StQ L (i64 (fed + s.length)) D.st [st, last, left, sy, di, i64 (fed + s.length), .int .i64 0] := ⟨_, _, _, _, _, rfl, q2, q3, q4, q5, q6⟩
  change Dc H0 H3 b [st, last, left, sy, di, i64 (fed + s.length), .int .i64 0] (D.B ++ toBits s) D.W [] L at d
  generalize hfd : fed + s.length = fd at *
  generalize hrun : run (D.add (toBits s)) = T at *
  have hsz0 : D.W.length + 258 * (D.B ++ toBits s).length ≤ 1000000000000 := by rw [List.length_append, toBits_len]; exact hsz
  refine ⟨fun H' => ∃ o D' M q', T = (o, D', 0) ∧ o.length ≤ 1000000000000 ∧ Dc H0 H' b q' D'.B D'.W o (M ++ L) ∧ StQ (M ++ L) (i64 fd) D'.st q', ?_, ?_⟩
  · rintro _ H4 ⟨o, D', M, q', hT, hol, d, hq'⟩
    rw [pNil_v, pFieldAddr_v, add_mk]
    refine bstring7 hq'.len (by omega) d fun H5 d => ?_
    exact hok o D' H5 M hT ⟨q', hq', d⟩
  refine ⟨fun H' => ∃ o D1 M q', T = (o ++ (run D1).1, (run D1).2) ∧ Dc H0 H' b q' D1.B D1.W o (M ++ L) ∧ StQ (M ++ L) (i64 fd) D1.st q' ∧ leftOk D1.st ∧ D1.W.length + 258 * D1.B.length ≤ 1000000000000 ∧ o.length ≤ D1.W.length, heapMeas b, ⟨[], D.add (toBits s), [], _, by rw [hrun, List.nil_append], d, hqs, hl, hsz0, by simp⟩, ?_⟩
  rintro _ H4 ⟨o, D1, M, q', hT, d, hq', hl1, hsz1, ho⟩
  have hm := heapMeas_dc d hq'
  rw [pNil_v, pFieldAddr_v, add_mk]
  obtain ⟨stv, last1, left1, sy1, di1, rfl, p2, p3, p4, p5, p6⟩ := id hq'
  refine d.pl (g := 0 + 7) (x := stv) (by decide) rfl ?_
  cases hdn : D1.st.isDn with
  | true =>
    have hdn' : D1.st = .dn := by cases hs : D1.st <;> rw [hs] at hdn <;> first | rfl | cases hdn
    rw [hdn'] at p6
    subst p6
    rw [pNe_0, decide_eq_false (by decide), pCond_false]
    refine ⟨o, D1, M, _, ?_, by omega, d, hq'⟩
    rw [hT, run_dn hdn, List.append_nil]
  | false =>
    have hst : ∃ n : Nat, stv = i64 n ∧ n < 3 := by
      obtain ⟨n, _, _, _, _, he, hn, _⟩ := hq'.any hdn
      exact ⟨n, (List.cons.inj he).1, hn⟩
    obtain ⟨n, rfl, hn⟩ := hst
    rw [pNe_0, decide_eq_true (by omega), pCond_true]
    refine step_spec7 hG hq' hdn hl1 hsz1 ho d (fun D2 o2 H5 M2 q2 hs d2 hq2 => ?_) (fun D2 o2 H5 q2 hs d2 hq2 => ?_) (fun e H5 C q2 hs h0 h2 d2 hq2 => ?_)
    · rw [pEq_0, decide_eq_false (by decide), pCond_false]
      refine ne_ok ?_
      rw [pCond_false]
      have hinv := step_inv hl1 (.inl hs)
      have hm2 := heapMeas_dc d2 hq2
      refine ⟨⟨o ++ o2, D2, M2 ++ M, q2, by rw [hT, run_go hs, List.append_assoc], by rw [List.append_assoc]; exact d2, by rw [List.append_assoc]; exact hq2, hinv.2.2, by omega, by rw [hinv.1, List.length_append, List.length_append]; omega⟩, ?_⟩
      rw [hm, hm2]
      exact step_meas hs
    · rw [pEq_0, decide_eq_true rfl, pCond_true]
      have hinv := step_inv hl1 (.inr hs)
      exact ⟨o ++ o2, D2, M, q2, by rw [hT, run_wait hdn hs], by have := congrArg List.length hinv.1; rw [List.length_append] at this; rw [List.length_append]; omega, d2, hq2⟩
    · rw [pEq_0, decide_eq_false h2, pCond_false]
      refine ne_er h0 ?_
      rw [pCond_true, pNil_v, pFieldAddr_v, add_mk]
      obtain ⟨n', last2, left2, sy2, di2, rfl, g1, g2, g3, g4, g5⟩ := hq2
      refine d2.ps (g := 0 + 13) (by decide) (by simp) rfl fun H6 d2 => ?_
      rw [pNil_v, pFieldAddr_v, add_mk]
      refine bstring7 rfl (by omega) d2 fun H7 d2 => ?_
      exact her o D1 e H7 M (by rw [hT, run_bad hdn hs, List.append_nil]) h0 ⟨n', last2, left2, sy2, di2, C, g1, d2, g2, g3, g4, g5⟩
end Go.Proofs.YtameljhbkedhjaaGreatDoor
namespace Go.Proofs.YtameljhbkedhjaaGreatDoor
open Go Go.Vc Go.Proofs
set_option linter.unusedVariables false
set_option linter.unusedSimpArgs false
variable {H H0 : Heap} {R : Value → Heap → Prop} {v : Value} {B : List Bool} {L M : List It} {b fed : Nat} {q : List Value} {W out : List UInt8} {D : DM}
theorem done_spec7 (r : Rest7 H0 H b D fed L) (h : R (.bool D.st.isDn) H) : CallsH Tryz.prog 11 #[at_ b 0] H R := by
  obtain ⟨q, hq, d⟩ := r
  refine inflate_Decoder_Done.vc _ _ _ ?_
  unfold inflate_Decoder_Done.res
  rw [pNe_3s]
  refine pAnd_true ?_
  rw [pNil_v, pFieldAddr_v, add_mk]
  obtain ⟨st, last, left, sy, di, rfl, -, -, -, -, h6⟩ := hq
  refine d.pl (g := 0 + 7) (x := st) (by decide) rfl ?_
  cases hs : D.st with
  | hd => rw [hs] at h h6; subst h6; rw [pEq_0]; intro _; exact h
  | cp n l => rw [hs] at h h6; obtain ⟨rfl, -⟩ := h6; rw [pEq_0]; intro _; exact h
  | tl zs zd l => rw [hs] at h h6; obtain ⟨rfl, -⟩ := h6; rw [pEq_0]; intro _; exact h
  | dn => rw [hs] at h h6; subst h6; rw [pEq_0]; intro _; exact h
theorem Rest7.more {H' : Heap} (r : Rest7 H0 H b D fed L) (hx : Ext H H') : Rest7 H0 H' b D fed L := by
  obtain ⟨q, hq, d⟩ := r
  obtain ⟨post, rv, ring, o, back⟩ := d.rd
  exact ⟨q, hq, back H' _ L (o.more hx)⟩
theorem rest_spec7 (r : Rest7 H0 H b D fed L) (hn : D.st.isDn = true) (h : ∀ H', Ext H H' → R (str (toBytes ((alB D.B).take (8 * (D.B.length / 8))))) H') : CallsH Tryz.prog 47 #[at_ b 0] H R := by
  obtain ⟨q, hq, d⟩ := id r
  obtain ⟨post, rv, ring, o, back⟩ := d.rd
  refine inflate_Decoder_Rest.vc _ _ _ ?_
  unfold inflate_Decoder_Rest.res
  refine done_spec7 r ?_
  rw [hn, pNot_v, Bool.not_true, pCond_false, pNil_v, pFieldAddr_v, add_mk]
  refine o.p3 (by repeat (first | exact List.mem_cons_self | apply List.mem_cons_of_mem)) fun rest acc n hB hacc hn40 hbig => ?_
  refine (Owns.start (H := H)).box fun c H1 oc hc => ?_
  change Owns H H1 [.box c [str [], .int .u64 0, .int .i64 0] _] at oc
  refine oc.bstoreN (vs := [str rest, u64 acc, i64 n]) (by repeat (first | exact List.mem_cons_self | apply List.mem_cons_of_mem)) rfl rfl rfl (by repeat (first | exact Rep.here | apply Rep.there)) fun H2 oc _ => ?_
  have hrd : Rd H2 c 0 D.B := ⟨⟨rest, acc, n, Sub.all (oc.blk (by repeat (first | exact List.mem_cons_self | apply List.mem_cons_of_mem))), hB, hacc, hn40⟩, hbig⟩
  have hx2 := oc.ext
  refine rLeft_spec hrd ?_
  rw [pQuo_v]
  refine ⟨by decide, ?_⟩
  rw [Int.tdiv_eq_ediv_of_nonneg (by omega), show ((D.B.length : Nat) : Int) / 8 = ((D.B.length / 8 : Nat) : Int) by omega, w64 (by omega) (by omega)]
  refine rTake_spec (by omega) hrd fun H3 k hk w cg => ?_
  rw [Int.toNat_natCast] at hk
  have hk2 : k = D.B.length / 8 := by omega
  subst hk2
  refine h H3 ?_
  have := cg.ext hx2 (by omega) (fun _ h => h.elim)
  exact this.1
theorem all_spec7 {s : List UInt8} (hG : Reads H0 ⟨1, 0, none⟩ ordV) (o : Owns H0 H L) (hs : s.length ≤ 100000000)
    (hdn : ∀ o D' H', run ⟨.hd, toBits s, []⟩ = (o, D', 0) → D'.st.isDn = true → Ext H0 H' → R (.tuple #[str o, str (toBytes ((alB D'.B).take (8 * (D'.B.length / 8)))), .int .i64 0]) H')
    (hmore : ∀ o D' H', run ⟨.hd, toBits s, []⟩ = (o, D', 0) → D'.st.isDn = false → Ext H0 H' → R (.tuple #[str [], str [], .int .i64 2]) H')
    (her : ∀ o D' e H', run ⟨.hd, toBits s, []⟩ = (o, D', e) → e ≠ 0 → Ext H0 H' → R (.tuple #[str [], str [], .int .i64 e]) H') : CallsH Tryz.prog 20 #[str s] H R := by
  refine inflate_All.vc _ _ _ ?_
  unfold inflate_All.res
  refine new_spec7 o fun H1 b r => ?_
  refine feed_spec7 hG r trivial (by simp; omega) (by omega) (fun o D' H2 M hr r => ?_) (fun o D' e H2 M hr he d => ?_)
  · refine pExtract_to rfl ?_
    refine pExtract_to rfl ?_
    refine ne_ok ?_
    rw [pCond_false]
    refine done_spec7 r ?_
    have hx : Ext H0 H2 := by obtain ⟨q, _, bp, bv, _, _, rv, ring, _, _, o⟩ := r; exact o.ext
    cases hd : D'.st.isDn with
    | true =>
      rw [pNot_v, Bool.not_true, pCond_false]
      exact rest_spec7 r hd fun H3 hx3 => hdn o D' H3 hr hd (hx.trans hx3)
    | false =>
      rw [pNot_v, Bool.not_false, pCond_true]
      exact hmore o D' H2 hr hd hx
  · refine pExtract_to rfl ?_
    refine pExtract_to rfl ?_
    refine ne_er he ?_
    rw [pCond_true]
    have hx : Ext H0 H2 := by obtain ⟨_, _, _, _, _, _, _, ⟨bp, bv, _, _, rv, ring, _, _, o⟩, _⟩ := d; exact o.ext
    exact her o D' e H2 hr he hx
end Go.Proofs.YtameljhbkedhjaaGreatDoor
namespace Go.Proofs.YtameljhbkedhjaaGreatDoor
open Go Go.Vc Go.Proofs
set_option linter.unusedVariables false
set_option linter.unusedSimpArgs false
variable {H H0 : Heap} {R : Value → Heap → Prop} {v : Value} {B : List Bool} {L M : List It} {b fed : Nat} {q : List Value} {W out : List UInt8} {D : DM} {e : Int}
def Any7 (H0 H : Heap) (b : Nat) (D : DM) (fed : Nat) (e : Int) (L : List It) : Prop := (e = 0 ∧ Rest7 H0 H b D fed L) ∨ (e ≠ 0 ∧ Dead7 H0 H b D.W fed e L)
theorem Any7.ext (a : Any7 H0 H b D fed e L) : Ext H0 H := by
  rcases a with ⟨_, q, _, bp, bv, _, _, rv, ring, _, _, o⟩ | ⟨_, _, _, _, _, _, _, _, ⟨bp, bv, _, _, rv, ring, _, _, o⟩, _⟩ <;> exact o.ext
theorem Any7.more {H' : Heap} (a : Any7 H0 H b D fed e L) (hx : Ext H H') : Any7 H0 H' b D fed e L := by
  rcases a with ⟨h, r⟩ | ⟨h, n, la, le, sy, di, C, hn, d, g⟩
  · exact .inl ⟨h, r.more hx⟩
  · obtain ⟨post, rv, ring, o, back⟩ := d.rd
    exact .inr ⟨h, n, la, le, sy, di, C, hn, back H' _ L (o.more hx), g⟩
def allT (P : List It) : Thing where
  foot k := ∃ i ∈ P, i.foot k
  holds H := (∀ i ∈ P, i.holds H) ∧ P.Pairwise fun (i j : It) => ∀ k : Nat, i.foot k → ¬ j.foot k
  frame := fun h hf => ⟨fun i hi => It.frame (h.1 i hi) fun k hk => hf k ⟨i, hi, hk⟩, h.2⟩
  lt := fun h hf => by obtain ⟨i, hi, hk⟩ := hf; exact It.lt (h.1 i hi) hk
theorem allT_in {P : List It} (o : Owns H0 H (P ++ L)) : Owns H0 H (.thing (allT P) :: L) := by
  have hp := List.pairwise_append.1 o.dis
  refine ⟨o.ext, ?_, ?_, List.pairwise_cons.2 ⟨?_, hp.2.1⟩⟩
  · intro i hi
    rcases List.mem_cons.1 hi with rfl | hi
    · exact ⟨fun i hi => o.ok i (List.mem_append_left _ hi), hp.1⟩
    · exact o.ok i (List.mem_append_right _ hi)
  · intro i hi k hk
    rcases List.mem_cons.1 hi with rfl | hi
    · obtain ⟨j, hj, hk⟩ := hk; exact o.new j (List.mem_append_left _ hj) k hk
    · exact o.new i (List.mem_append_right _ hi) k hk
  · rintro j hj k ⟨i, hi, hk⟩
    exact hp.2.2 i hi j hj k hk
theorem allT_out {P : List It} (o : Owns H0 H (.thing (allT P) :: L)) : Owns H0 H (P ++ L) := by
  have hp := List.pairwise_cons.1 o.dis
  have ht := o.ok (.thing (allT P)) List.mem_cons_self
  refine ⟨o.ext, ?_, ?_, List.pairwise_append.2 ⟨ht.2, hp.2, ?_⟩⟩
  · intro i hi
    rcases List.mem_append.1 hi with hi | hi
    · exact ht.1 i hi
    · exact o.ok i (List.mem_cons_of_mem _ hi)
  · intro i hi k hk
    rcases List.mem_append.1 hi with hi | hi
    · exact o.new (.thing (allT P)) List.mem_cons_self k ⟨i, hi, hk⟩
    · exact o.new i (List.mem_cons_of_mem _ hi) k hk
  · intro i hi j hj k hk
    exact hp.1 j hj k ⟨i, hi, hk⟩
end Go.Proofs.YtameljhbkedhjaaGreatDoor
namespace Go.Proofs.YtameljhbkedhjaaGreatDoor
open Go Go.Vc Go.Proofs
set_option linter.unusedVariables false
set_option linter.unusedSimpArgs false
variable {H H0 H' : Heap} {R : Value → Heap → Prop} {v : Value} {L : List It} {zs : List Int} {b : Nat} {B : List Bool}
def cellN (H : Heap) (b f : Nat) : Nat := match H[b]? with
  | some (.cells cs _ _) => match cs[f]? with
    | some (.int _ x) => x.toNat
    | _ => 0
  | _ => 0
theorem cellN_at {b f : Nat} {cs : List Value} {t : TypeId} {fr : Nat × Nat} {k : IntKind} {x : Int} (h : H[b]? = some (.cells cs.toArray t fr)) (hf : cs[f]? = some (.int k x)) : cellN H b f = x.toNat := by
  unfold cellN
  rw [h]
  simp [hf]
theorem supp_pos {zs : List Int} {s : Nat} (h : 0 < zs.getD s 0) : 1 ≤ (suppU zs zs.length).length := by
  have hs : s < zs.length := Nat.lt_of_not_le fun hn => by rw [List.getD_eq_getElem?_getD, List.getElem?_eq_none hn] at h; simp at h
  exact List.length_pos_of_mem (suppU_mem.2 ⟨hs, h⟩)
structure OftOk (E : List Ex) (ws : List Int) : Prop where
  wl : ws.length = 19
  wr : ∀ z ∈ ws, 0 ≤ z ∧ z ≤ (E.length : Int)
  wt : ∀ e ∈ E, 1 ≤ ws.getD e.1 0
theorem often_go {E : List Ex} {tv wv : Value} {k : Nat} {ws : List Int} (hE : ∀ e ∈ E, e.1 ≤ 18) (hEl : E.length ≤ 400) (hk : k < E.length) (c : OftOk (E.take k) ws) (o : Owns H0 H (.sl wv 1 (numsV ws) :: L)) (ht : It.sl tv 3 (exsC E) ∈ L) {K : Value → Heap → Prop}
    (h : ∀ ws' H', OftOk (E.take (k + 1)) ws' → Owns H0 H' (.sl wv 1 (numsV ws') :: L) → K undef H') :
    pIdxSl 3 tv (.int .i64 (k : Int)) fun x75 => pLoadN H 3 x75 fun x76 => pBox H 106 (.agg #[(.int .i64 0), (.int .i64 0), (.int .u64 0)]) fun t11 H_19 => pStoreN H_19 3 t11 x76 fun _ H_20 => pFieldAddr 0 t11 fun x78 => pLoad H_20 x78 fun x79 =>
    pIdxSl 1 wv x79 fun x80 => pLoad H_20 x80 fun x81 => pAdd x81 (.int .i64 1) fun x82 => pIdxSl 1 wv x79 fun x83 => pStore H_20 x83 x82 K := by
  have hsl := o.sl (v := tv) (List.mem_cons_of_mem _ ht)
  have hat : ((exsC E).drop (k * 3)).take 3 = exC (E[k]) := by
    have : ∀ (E : List Ex) (k : Nat) (hk : k < E.length), ((exsC E).drop (k * 3)).take 3 = exC (E[k]) := by
      intro E
      induction E with
      | nil => intro k hk; simp at hk
      | cons e E ih =>
        intro k hk
        have e1 : exsC (e :: E) = exC e ++ exsC E := rfl
        cases k with
        | zero => rw [e1]; rfl
        | succ k =>
          rw [e1, show (k + 1) * 3 = 3 + k * 3 by omega, ← List.drop_drop]
          exact ih k (by simpa using hk)
    exact this E k hk
  have htk : E.take (k + 1) = E.take k ++ [E[k]] := by rw [List.take_add_one, List.getElem?_eq_getElem hk]; rfl
  have h18 := hE _ (List.getElem_mem hk)
  have hkl : (E.take k).length = k := by rw [List.length_take]; omega
  generalize E[k] = e at hat htk h18
  have hwl := c.wl
  have wr := c.wr
  rw [hkl] at wr
  refine hsl.at_ (exsC_len E) (by decide) (by omega) (by omega) fun p hp => ?_
  rw [Int.toNat_natCast] at hp
  refine hp.loadN hsl (ws := exC e) hat rfl ?_
  refine o.box fun tb H4 o4 _ => ?_
  refine o4.bstoreN (vs := exC e) (by repeat (first | exact List.mem_cons_self | apply List.mem_cons_of_mem)) rfl rfl rfl (by repeat (first | exact Rep.here | apply Rep.there)) fun H5 o5 _ => ?_
  rw [pFieldAddr_v, add_mk]
  refine o5.bload (b := tb) (f := 0 + 0) (w := .int .i64 (e.1 : Nat)) (by repeat (first | exact List.mem_cons_self | apply List.mem_cons_of_mem)) rfl ?_
  refine inc_spec (a := e.1) (kd := .i64) o5 (by repeat (first | exact List.mem_cons_self | apply List.mem_cons_of_mem)) (by omega) wr (by omega) (by repeat (first | exact Rep.here | apply Rep.there)) fun H6 o6 => ?_
  refine h _ H6 ⟨by rw [List.length_set]; exact hwl, ?_, fun u hu => ?_⟩ o6.tl
  · rw [htk, List.length_append, hkl]
    have := inc_rng (a := e.1) (by omega) wr
    exact this
  · rw [htk] at hu
    rcases List.mem_append.1 hu with hu | hu
    · have := c.wt u hu
      have h5 := inc_le (cs := ws) (a := e.1) (by omega) u.1
      omega
    · rw [List.mem_singleton.1 hu, inc_get (by omega), if_pos rfl]
      have := wr _ (List.getElem_mem (show e.1 < ws.length by omega)); omega
theorem dyn_spec {G : List Tok} {lv : Value} (hG : Reads H0 ⟨0, 0, none⟩ ordV) (hs : Sl H lv 3 (toksL G)) (hlen : G.length ≤ 65535) (hg : ∀ t ∈ G, goodK t = true) (o : Owns H0 H L)
    (h : ∀ H' M cb ps pd pt tv x y z E c, HasC M x ps → HasC M y pd → HasC M z pt → It.sl tv 3 (exsC E) ∈ M → It.box cb [ps, pd, pt, tv, i64 x.length, i64 y.length, i64 c] 104 ∈ M → DynOk x y z E c → hasW x 256 → (∀ t ∈ G, hasT x y t) →
      Owns H0 H' (M ++ L) → R (.pointer (some ⟨cb, 0, none⟩)) H') : CallsH Tryz.prog 27 #[lv] H R := by
  refine block_dynamicCoder.vc _ _ _ ?_
  unfold block_dynamicCoder.res
  refine counts_spec hs hlen hg fun y1 y2 cs ds H1 c o1 => ?_
  refine pExtract_to (vs := [y1, y2]) rfl ?_
  refine pExtract_to (vs := [y1, y2]) rfl ?_
  have hcl := c.cl
  have hdl := c.dl
  have hgc : goodM cs = true := goodM_iff.2 fun z hz => by have := c.cr z hz; omega
  have hgd : goodM ds = true := goodM_iff.2 fun z hz => by have := c.dr z hz; omega
  have hs1 := suppU_len cs cs.length
  have hs2 := suppU_len ds ds.length
  refine strict_spec (m := 15) (o1.sl (v := y1) (by repeat (first | exact List.mem_cons_self | apply List.mem_cons_of_mem))) (by omega) (by omega) hgc (by decide) (by decide) (by omega) (supp_pos (s := 256) (by have := c.ce; omega)) fun y3 x0 H2 sx o2 => ?_
  refine lengths_spec (m := 15) ((o1.sl (v := y2) (by repeat (first | exact List.mem_cons_self | apply List.mem_cons_of_mem))).ext o2.ext) (by omega) hgd (by decide) (by decide) (by omega) fun y4 y0 H3 ly o3 => ?_
  refine pExtract_to (vs := [y4, .int .i64 0]) rfl ?_
  refine pExtract_to (vs := [y4, .int .i64 0]) rfl ?_
  have oA : Owns H0 H3 (.sl y4 1 (numsV y0) :: .sl y3 1 (numsV x0) :: L) := (((o.call o1).call o2).call o3).pick (List.Sublist.cons_cons _ (List.Sublist.cons_cons _ (List.Sublist.cons _ (List.Sublist.cons _ (List.Sublist.refl _)))))
  have hx0 := sx.len
  obtain ⟨ly1, ly2, _⟩ := lensOk_facts ly (by decide) (by decide) (by omega)
  refine upto_spec (least := 257) (oA.sl (v := y3) (by repeat (first | exact List.mem_cons_self | apply List.mem_cons_of_mem))) (by omega) (by omega) (by decide) fun a ha1 ha2 hza => ?_
  refine upto_spec (least := 1) (oA.sl (v := y4) (by repeat (first | exact List.mem_cons_self | apply List.mem_cons_of_mem))) (by omega) (by omega) (by decide) fun n hn1 hn2 hzn => ?_
  refine pBuild_one rfl (by simp) ?_
  refine pBuild_one rfl (by simp) ?_
  rw [pBuild_n]
  refine oA.box fun cb H6 o6 _ => ?_
  rw [pNil_v, pFieldAddr_v, add_mk]
  refine o6.bload (b := cb) (f := 0 + 4) (w := i64 a) (by repeat (first | exact List.mem_cons_self | apply List.mem_cons_of_mem)) rfl ?_
  refine cut_to (o6.sl (v := y3) (by repeat (first | exact List.mem_cons_self | apply List.mem_cons_of_mem))) (by decide) (n := x0.length) (by rw [numsV_len]; omega) (by omega) fun vx hvx bvx => ?_
  rw [pNil_v, pFieldAddr_v, add_mk]
  refine o6.bload (b := cb) (f := 0 + 5) (w := i64 n) (by repeat (first | exact List.mem_cons_self | apply List.mem_cons_of_mem)) rfl ?_
  refine cut_to (o6.sl (v := y4) (by repeat (first | exact List.mem_cons_self | apply List.mem_cons_of_mem))) (by decide) (n := y0.length) (by rw [numsV_len]; omega) (by omega) fun vy hvy bvy => ?_
  rw [Nat.mul_one, numsV_take] at hvx hvy
  have hxw : whyL (x0.take a) false = 0 := syms_why sx hcl hza (by omega)
  have hyw : whyL (y0.take n) true = 0 := dists_why ly hdl hzn (by omega)
  have hxl : (x0.take a).length = a := by rw [List.length_take]; omega
  have hyl : (y0.take n).length = n := by rw [List.length_take]; omega
  have hxn : numsV (x0.take a) ≠ [] := fun e => by have := congrArg List.length e; rw [numsV_len, hxl] at this; simp at this; omega
  have hyn : numsV (y0.take n) ≠ [] := fun e => by have := congrArg List.length e; rw [numsV_len, hyl] at this; simp at this; omega
  have hx256 : 1 ≤ (x0.take a).getD 256 0 := by rw [take_getD (by omega)]; exact sx.has 256 (by have := c.ce; omega)
  have hhx : ∀ s : Nat, 1 ≤ cs.getD s 0 → hasW (x0.take a) s := fun s h1 => by
    have h2 := sx.has s (by omega)
    have hsa : s < a := Nat.lt_of_not_le fun hn => by have := hza s hn; omega
    exact ⟨by omega, by rw [natL_getD0, take_getD hsa]; omega⟩
  have hhy : ∀ s : Nat, 1 ≤ ds.getD s 0 → hasW (y0.take n) s := fun s h1 => by
    have hsd : s < ds.length := Nat.lt_of_not_le fun hn => by rw [List.getD_eq_getElem?_getD, List.getElem?_eq_none hn] at h1; simp at h1
    have h2 := ly2 s hsd
    rw [if_pos (by omega)] at h2
    have hsa : s < n := Nat.lt_of_not_le fun hn => by have := hzn s hn; omega
    exact ⟨by omega, by rw [natL_getD0, take_getD hsa]; omega⟩
  have hGt : ∀ t ∈ G, hasT (x0.take a) (y0.take n) t := fun t ht => by
    have := c.ct t ht
    unfold hasT
    split at this
    · rename_i e; rw [if_pos e]; exact hhx _ this
    · rename_i e; rw [if_neg e]; exact ⟨hhx _ this.1, hhy _ this.2⟩
  have hrx : ∀ s, 0 ≤ (x0.take a).getD s 0 ∧ (x0.take a).getD s 0 ≤ 15 := fun s => by
    by_cases hsa : s < a
    · rw [take_getD hsa]; exact sx.rng s
    · rw [List.getD_eq_getElem?_getD, List.getElem?_eq_none (by omega)]; simp
  have hry : ∀ s, 0 ≤ (y0.take n).getD s 0 ∧ (y0.take n).getD s 0 ≤ 15 := fun s => by
    by_cases hsa : s < n
    · rw [take_getD hsa]
      by_cases hs : s < ds.length
      · have := ly2 s hs
        split at this <;> omega
      · rw [List.getD_eq_getElem?_getD, List.getElem?_eq_none (by omega)]; simp
    · rw [List.getD_eq_getElem?_getD, List.getElem?_eq_none (by omega)]; simp
  generalize x0.take a = x at hvx hxw hxl hxn hx256 hhx hGt hrx
  generalize y0.take n = y at hvy hyw hyl hyn hhy hGt hry
  have oB : Owns H0 H6 (.box cb [.pointer none, .pointer none, .pointer none, .slice none 0 0, i64 a, i64 n, .int .i64 0] 104 :: .sl y4 1 (numsV y0) :: .sl y3 1 (numsV x0) :: L) := o6
  have o7 : Owns H0 H6 (.sl y3 1 (numsV x0) :: .box cb [.pointer none, .pointer none, .pointer none, .slice none 0 0, i64 a, i64 n, .int .i64 0] 104 :: .sl y4 1 (numsV y0) :: L) := oB.arrT (by repeat (first | exact SelsT.refl | exact Sel.here | apply SelsT.cons | apply Sel.there))
  have o8 := o7.view hvx hxn bvx
  have o9 : Owns H0 H6 (.sl y4 1 (numsV y0) :: .thing (viewT vx 1 (numsV x)) :: .box cb [.pointer none, .pointer none, .pointer none, .slice none 0 0, i64 a, i64 n, .int .i64 0] 104 :: L) := o8.arrT (by repeat (first | exact SelsT.refl | exact Sel.here | apply SelsT.cons | apply Sel.there))
  have o := o9.view hvy hyn bvy
  have vX : ∀ {H : Heap} {M : List It}, Owns H0 H M → It.thing (viewT vx 1 (numsV x)) ∈ M → Sl H vx 1 (numsV x) := fun o h => (o.thing h : _ ∧ _).1
  have vY : ∀ {H : Heap} {M : List It}, Owns H0 H M → It.thing (viewT vy 1 (numsV y)) ∈ M → Sl H vy 1 (numsV y) := fun o h => (o.thing h : _ ∧ _).1
  refine newO_spec (loose := false) o (vX o (by repeat (first | exact List.mem_cons_self | apply List.mem_cons_of_mem))) (by omega) (fun H' hw _ => absurd hxw hw) fun H7 M1 px _ hM1 o => ?_
  have o := allT_in o
  refine pExtract_to (vs := [px, .int .i64 0]) rfl ?_
  refine pExtract_to (vs := [px, .int .i64 0]) rfl ?_
  rw [pNil_v, pFieldAddr_v, add_mk]
  refine o.bstore (b := cb) (f := 0 + 0) (by repeat (first | exact List.mem_cons_self | apply List.mem_cons_of_mem)) (by simp) hM1.oneB (by repeat (first | exact Rep.here | apply Rep.there)) fun H8 o _ => ?_
  refine newO_spec (loose := true) o (vY o (by repeat (first | exact List.mem_cons_self | apply List.mem_cons_of_mem))) (by omega) (fun H' hw _ => absurd hyw hw) fun H9 M2 py _ hM2 o => ?_
  have o := allT_in o
  refine pExtract_to (vs := [py, .int .i64 0]) rfl ?_
  refine pExtract_to (vs := [py, .int .i64 0]) rfl ?_
  rw [pNil_v, pFieldAddr_v, add_mk]
  refine o.bstore (b := cb) (f := 0 + 1) (by repeat (first | exact List.mem_cons_self | apply List.mem_cons_of_mem)) (by simp) hM2.oneB (by repeat (first | exact Rep.here | apply Rep.there)) fun H10 o _ => ?_
  refine o.build (sz := 1) (vs := [vx, vy]) (by decide) (fun K' hK => pBuild_two (vX o (by repeat (first | exact List.mem_cons_self | apply List.mem_cons_of_mem))).one (vY o (by repeat (first | exact List.mem_cons_self | apply List.mem_cons_of_mem))).one hK) rfl fun yl H11 o => ?_
  refine concat_spec (svs := [vx, vy]) (ls := [numsV x, numsV y]) (o.sl (v := yl) (by repeat (first | exact List.mem_cons_self | apply List.mem_cons_of_mem))) (by simp) rfl (fun k hk => ?_) ?_ ?_ fun zc H12 oc => ?_
  · match k, hk with
    | 0, _ => exact ⟨vX o (by repeat (first | exact List.mem_cons_self | apply List.mem_cons_of_mem)), _, (Nat.mul_one _).symm⟩
    | 1, _ => exact ⟨vY o (by repeat (first | exact List.mem_cons_self | apply List.mem_cons_of_mem)), _, (Nat.mul_one _).symm⟩
  · simp [numsV, oneCell]
  · simp only [List.flatten_cons, List.flatten_nil, List.length_append, numsV_len, List.length_nil]; omega
  have ez : ([numsV x, numsV y] : List (List Value)).flatten = numsV (x ++ y) := by rw [numsV_append]; simp
  rw [ez] at oc
  have hrxy : ∀ z ∈ x ++ y, 0 ≤ z ∧ z ≤ 15 := fun z hz => by
    rcases List.mem_append.1 hz with hz | hz
    · obtain ⟨i, hi, rfl⟩ := List.getElem_of_mem hz
      have := hrx i
      rwa [List.getD_eq_getElem?_getD, List.getElem?_eq_getElem hi] at this
    · obtain ⟨i, hi, rfl⟩ := List.getElem_of_mem hz
      have := hry i
      rwa [List.getD_eq_getElem?_getD, List.getElem?_eq_getElem hi] at this
  refine pack_spec (zs := x ++ y) (oc.sl (v := zc) (by repeat (first | exact List.mem_cons_self | apply List.mem_cons_of_mem))) (by rw [List.length_append]; omega) hrxy fun tv E H13 hT oE => ?_
  have hte := hT.len
  rw [List.length_append] at hte
  have htv := (oE.sl (v := tv) (by repeat (first | exact List.mem_cons_self | apply List.mem_cons_of_mem))).one
  have o : Owns H0 H13 (.sl tv 3 (exsC E) :: _) := ((o.call oc).call oE)
  rw [pNil_v, pFieldAddr_v, add_mk]
  refine o.bstore (b := cb) (f := 0 + 3) (x := tv) (by repeat (first | exact List.mem_cons_self | apply List.mem_cons_of_mem)) (by simp) htv (by repeat (first | exact Rep.here | apply Rep.there)) fun H14 o _ => ?_
  have oC : Owns H0 H14 (.sl yl 1 [vx, vy] :: .sl zc 1 (numsV (x ++ y)) :: .thing (viewT vy 1 (numsV y)) :: .thing (viewT vx 1 (numsV x)) :: .sl tv 3 (exsC E) :: .box cb [px, py, .pointer none, tv, i64 a, i64 n, .int .i64 0] 104 :: .thing (allT M2) :: .thing (allT M1) :: L) := o.arrT (by repeat (first | exact SelsT.refl | exact Sel.here | apply SelsT.cons | apply Sel.there))
  have o := oC.tl.tl.tl.tl
  refine o.make1 (by decide) (by decide) (by decide) fun wv H15 o => ?_
  rw [numsV_rep] at o
  rw [pNil_v, pFieldAddr_v, add_mk]
  refine o.bload (b := cb) (f := 0 + 3) (w := tv) (by repeat (first | exact List.mem_cons_self | apply List.mem_cons_of_mem)) rfl ?_
  refine (o.sl (v := tv) (by repeat (first | exact List.mem_cons_self | apply List.mem_cons_of_mem))).len (exsC_len E) (by decide) ?_
  have hEl : E.length ≤ 400 := by simp at hte; omega
  refine ⟨fun i H' => ∃ (k : Nat) (ws : List Int), i = .int .i64 k ∧ k ≤ E.length ∧ OftOk (E.take k) ws ∧ Owns H0 H' (.sl wv 1 (numsV ws) :: .sl tv 3 (exsC E) :: .box cb [px, py, .pointer none, tv, i64 a, i64 n, .int .i64 0] 104 :: .thing (allT M2) :: .thing (allT M1) :: L),
    fun i _ => match i with | .int _ x => (E.length - x).toNat | _ => 0, ⟨0, _, rfl, by omega, ⟨List.length_replicate, ?_, fun e he => by simp at he⟩, o⟩, ?_⟩
  · intro q hq; rw [List.eq_of_mem_replicate hq, List.take_zero]; decide
  rintro _ _ H16 ⟨k, ws, rfl, hk, cw, o⟩
  rw [pLt_v]
  refine pCond_if (fun hc => ?_) (fun hc => ?_)
  · refine often_go (tv := tv) hT.sym hEl (by omega) cw o (by repeat (first | exact List.mem_cons_self | apply List.mem_cons_of_mem)) fun ws' H17 cw' o' => ?_
    rw [pAdd_v, w64 (by omega) (by omega)]
    exact ⟨⟨k + 1, ws', rfl, by omega, cw', o'⟩, by show (_ : Int).toNat < (_ : Int).toNat; omega⟩
  have hkE : k = E.length := by omega
  rw [hkE, List.take_length] at cw
  have hwl := cw.wl
  have hs3 := suppU_len ws ws.length
  obtain ⟨e0, he0⟩ : ∃ e, e ∈ E := by
    cases E with
    | nil =>
      have : [] = x ++ y := hT
      have := congrArg List.length this
      rw [List.length_append] at this
      simp at this; omega
    | cons e E => exact ⟨e, by simp⟩
  refine strict_spec (m := 7) (o.sl (v := wv) (by repeat (first | exact List.mem_cons_self | apply List.mem_cons_of_mem))) (by omega) (by omega) (goodM_iff.2 fun z hz => by have := cw.wr z hz; omega) (by decide) (by decide) (by omega) (supp_pos (s := e0.1) (by have := cw.wt e0 he0; omega)) fun zv z H17 sz oz => ?_
  have o := o.call oz
  have hzl := sz.len
  have hrz := sz.rng
  have hzw : whyL z false = 0 := why_full (okZ_of (by omega) fun s => by have := hrz s; omega) sz.share
  refine newO_spec (loose := false) o (o.sl (v := zv) (by repeat (first | exact List.mem_cons_self | apply List.mem_cons_of_mem))) (by omega) (fun H' hw _ => absurd hzw hw) fun H18 M3 pz _ hM3 o => ?_
  have o := allT_in o
  refine pExtract_to (vs := [pz, .int .i64 0]) rfl ?_
  refine pExtract_to (vs := [pz, .int .i64 0]) rfl ?_
  rw [pNil_v, pFieldAddr_v, add_mk]
  refine o.bstore (b := cb) (f := 0 + 2) (x := pz) (by repeat (first | exact List.mem_cons_self | apply List.mem_cons_of_mem)) (by simp) hM3.oneB (by repeat (first | exact Rep.here | apply Rep.there)) fun H19 o _ => ?_
  rw [pNil_v, pFieldAddr_v, add_mk]
  refine o.bstore (b := cb) (f := 0 + 6) (x := .int .i64 19) (by repeat (first | exact List.mem_cons_self | apply List.mem_cons_of_mem)) (by simp) rfl (by repeat (first | exact Rep.here | apply Rep.there)) fun H20 o _ => ?_
  have hhz : ∀ e ∈ E, hasW z e.1 := fun e he => by
    have h1 := cw.wt e he
    have h2 := sz.has e.1 (by omega)
    have h3 := hT.sym e he
    exact ⟨by omega, by rw [natL_getD0]; omega⟩
  refine ⟨fun H' => ∃ c : Nat, 4 ≤ c ∧ c ≤ 19 ∧ (∀ j, c ≤ j → j < 19 → z.getD (orderL.getD j 0) 0 = 0) ∧ Owns H0 H' (.thing (allT M3) :: .sl zv 1 (numsV z) :: .sl wv 1 (numsV ws) :: .sl tv 3 (exsC E) :: .box cb [px, py, pz, tv, i64 a, i64 n, i64 c] 104 :: .thing (allT M2) :: .thing (allT M1) :: L),
    fun H' => cellN H' cb 6, ⟨19, by decide, by decide, fun j h1 h2 => by omega, o⟩, ?_⟩
  rintro _ H21 ⟨c, hc4, hc19, hz0, o⟩
  rw [pNil_v, pFieldAddr_v, add_mk]
  refine o.bload (b := cb) (f := 0 + 6) (w := i64 c) (by repeat (first | exact List.mem_cons_self | apply List.mem_cons_of_mem)) rfl ?_
  have fin : (∀ j, c ≤ j → j < 19 → z.getD (orderL.getD j 0) 0 = 0) → R (.pointer (some ⟨cb, 0, none⟩)) H21 := fun hz0 => by
    have o : Owns H0 H21 (.sl zv 1 (numsV z) :: .sl wv 1 (numsV ws) :: .thing (allT M1) :: .thing (allT M2) :: .thing (allT M3) :: .sl tv 3 (exsC E) :: .box cb [px, py, pz, tv, i64 a, i64 n, i64 c] 104 :: L) := o.arrT (by repeat (first | exact SelsT.refl | exact Sel.here | apply SelsT.cons | apply Sel.there))
    have o1 := allT_out o.tl.tl
    have o2 := o1.perm (L' := .thing (allT M2) :: (M1 ++ (.thing (allT M3) :: .sl tv 3 (exsC E) :: .box cb [px, py, pz, tv, i64 a, i64 n, i64 c] 104 :: L))) List.perm_middle.symm
    have o3 := allT_out o2
    have o4 : Owns H0 H21 (.thing (allT M3) :: (M2 ++ (M1 ++ (.sl tv 3 (exsC E) :: .box cb [px, py, pz, tv, i64 a, i64 n, i64 c] 104 :: L)))) := o3.perm (by
      rw [← List.append_assoc, ← List.append_assoc]
      exact List.perm_middle.symm)
    have o5 := allT_out o4
    refine h H21 (M3 ++ (M2 ++ (M1 ++ [.sl tv 3 (exsC E), .box cb [px, py, pz, tv, i64 a, i64 n, i64 c] 104 ]))) cb px py pz tv x y z E c (hM1.mono fun i hi => by simp [hi]) (hM2.mono fun i hi => by simp [hi]) (hM3.mono fun i hi => by simp [hi]) (by simp) (by rw [hxl, hyl]; simp)
      ⟨by omega, by omega, by omega, by omega, hc4, hc19, by omega, fun s => by have := hrz s; omega, hz0, hzw, why_okC hzw, hT, hhz, by omega, hxw, hyw⟩ ⟨by omega, by rw [natL_getD0]; omega⟩ hGt ?_
    simpa [List.append_assoc] using o5
  rw [pGt_v]
  by_cases hc : 4 < c
  · rw [decide_eq_true (by omega)]
    refine pAnd_true ?_
    rw [pNil_v, pFieldAddr_v, add_mk]
    refine o.bload (b := cb) (f := 0 + 6) (w := i64 c) (by repeat (first | exact List.mem_cons_self | apply List.mem_cons_of_mem)) rfl ?_
    rw [pSub_v, w64 (by omega) (by omega), pIdxArr_v]
    refine ⟨by omega, by omega, ?_⟩
    have hcell := (hG.ext o.ext) (c - 1) _ (ordV_get (by omega))
    rw [add_mk, Nat.zero_add] at hcell
    rw [add_mk, show 0 + ((c : Int) - 1).toNat * 1 = c - 1 by omega, pLoad_cell hcell]
    have hlt := orderL_lt ⟨c - 1, by omega⟩
    dsimp only at hlt
    have hzs := o.sl (v := zv) (by repeat (first | exact List.mem_cons_self | apply List.mem_cons_of_mem))
    have hzg : z.getD (orderL.getD (c - 1) 0) 0 = z[orderL.getD (c - 1) 0]'(by omega) := by rw [List.getD_eq_getElem?_getD, List.getElem?_eq_getElem (by omega)]; rfl
    refine hzs.at_ (n := z.length) (by rw [numsV_len]; omega) (by decide) (by omega) (by omega) fun p hp => ?_
    refine hp.load hzs (w := .int .i64 (z[orderL.getD (c - 1) 0]'(by omega))) (by rw [Int.toNat_natCast, Nat.mul_one, numsV_get (by omega)]) ?_
    rw [pEq_0]
    intro _
    refine pCond_if (fun he => ?_) (fun he => fin hz0)
    rw [pNil_v, pFieldAddr_v, add_mk]
    refine o.bload (b := cb) (f := 0 + 6) (w := i64 c) (by repeat (first | exact List.mem_cons_self | apply List.mem_cons_of_mem)) rfl ?_
    rw [pSub_v, w64 (by omega) (by omega), pNil_v, pFieldAddr_v, add_mk]
    have m1 := cellN_at (o.blk (b := cb) (cs := [px, py, pz, tv, i64 a, i64 n, i64 c]) (t := 104) (by repeat (first | exact List.mem_cons_self | apply List.mem_cons_of_mem))) (f := 6) (k := .i64) (x := c) rfl
    refine o.bstore (b := cb) (f := 0 + 6) (x := .int .i64 ((c : Int) - 1)) (by repeat (first | exact List.mem_cons_self | apply List.mem_cons_of_mem)) (by simp) rfl (by repeat (first | exact Rep.here | apply Rep.there)) fun H22 o2 _ => ?_
    rw [show (c : Int) - 1 = ((c - 1 : Nat) : Int) by omega] at o2
    have m2 := cellN_at (o2.blk (b := cb) (cs := [px, py, pz, tv, i64 a, i64 n, i64 (c - 1 : Nat)]) (t := 104) (by repeat (first | exact List.mem_cons_self | apply List.mem_cons_of_mem))) (f := 6) (k := .i64) (x := (c - 1 : Nat)) rfl
    refine ⟨⟨c - 1, by omega, by omega, fun j h1 h2 => ?_, o2⟩, by dsimp only; rw [m1, m2]; omega⟩
    by_cases e : j = c - 1
    · subst e; rw [hzg]; exact he
    · exact hz0 j (by omega) h2
  · rw [decide_eq_false (by omega), pAnd_false]
    intro _
    rw [pCond_false]
    exact fin hz0
end Go.Proofs.YtameljhbkedhjaaGreatDoor
namespace Go.Proofs.YtameljhbkedhjaaGreatDoor
open Go Go.Vc Go.Proofs
set_option linter.unusedVariables false
set_option linter.unusedSimpArgs false
variable {H H0 H' : Heap} {R : Value → Heap → Prop} {v : Value} {L : List It} {zs : List Int} {b : Nat} {B : List Bool}
theorem or_add {a c k : Nat} (h : a < 2 ^ k) : a ||| 2 ^ k * c = a + 2 ^ k * c := by
  rw [Nat.or_comm, ← Nat.two_pow_add_eq_or_of_lt h]; omega
theorem exsC_at : ∀ (E : List Ex) (k : Nat) (hk : k < E.length), ((exsC E).drop (k * 3)).take 3 = exC (E[k])
  | [], k, hk => by simp at hk
  | e :: E, 0, hk => rfl
  | e :: E, k + 1, hk => by
    rw [show exsC (e :: E) = exC e ++ exsC E from rfl, show (k + 1) * 3 = 3 + k * 3 by omega, ← List.drop_drop]
    exact exsC_at E k (by simpa using hk)
theorem told_bits : ∀ {es : List Ex} {out l : List Int}, Told out es l → ∀ e ∈ es, e.2.1 ≤ 7 ∧ e.2.2 < 128
  | [], out, l, h, e, he => by simp at he
  | u :: es, out, l, h, e, he => by
    rcases List.mem_cons.1 he with rfl | he
    · rcases h.1 with h | h | h | h <;> omega
    · exact told_bits h.2 e he
theorem head_spec {dv pt tv q0 q1 : Value} {cb c : Nat} {x y z : List Int} {E : List Ex} (hG : Reads H0 ⟨0, 0, none⟩ ordV) (d : DynOk x y z E c) (hcb : It.box cb [q0, q1, pt, tv, i64 x.length, i64 y.length, i64 c] 104 ∈ L) (hz : HasC L z pt) (ht : It.sl tv 3 (exsC E) ∈ L)
    (hbig : B.length ≤ 500000000) (o : Owns H0 H (.thing (wrT b dv B) :: L)) (h : ∀ H' dv', Owns H0 H' (.thing (wrT b dv' (B ++ dynB x y z E c)) :: L) → R (.tuple #[]) H') :
    CallsH Tryz.prog 28 #[.pointer (some ⟨cb, 0, none⟩), at_ b 0] H R := by
  have a1 := d.a1; have a2 := d.a2; have b1 := d.b1; have b2 := d.b2; have c1 := d.c1; have c2 := d.c2; have zl := d.zl
  have hte := d.told.len
  rw [List.length_append] at hte
  have hEl : E.length ≤ 316 := by simp at hte; omega
  refine block_coder_head.vc _ _ _ _ ?_
  unfold block_coder_head.res
  rw [pNil_v, pFieldAddr_v, add_mk]
  refine o.bload (b := cb) (f := 0 + 4) (cs := [q0, q1, pt, tv, i64 x.length, i64 y.length, i64 c]) (t := 104) (w := i64 x.length) (by simp [hcb]) rfl ?_
  rw [pSub_v, w64 (by omega) (by omega), pConv_v, wu64 (by omega) (by omega), pNil_v, pFieldAddr_v, add_mk]
  refine o.bload (b := cb) (f := 0 + 5) (cs := [q0, q1, pt, tv, i64 x.length, i64 y.length, i64 c]) (t := 104) (w := i64 y.length) (by simp [hcb]) rfl ?_
  rw [pSub_v, w64 (by omega) (by omega), pConv_v, wu64 (by omega) (by omega), pShl_v]
  refine ⟨by decide, ?_⟩
  rw [show min (5 : Int).toNat IntKind.u64.bits = 5 from rfl, show ((y.length : Int) - 1) * 2 ^ 5 = ((2 ^ 5 * (y.length - 1) : Nat) : Int) by omega, wu64 (by omega) (by omega), show (x.length : Int) - 257 = ((x.length - 257 : Nat) : Int) by omega, pBits_v, or_u64 (by omega) (by omega), or_add (by omega)]
  rw [pNil_v, pFieldAddr_v, add_mk]
  refine o.bload (b := cb) (f := 0 + 6) (cs := [q0, q1, pt, tv, i64 x.length, i64 y.length, i64 c]) (t := 104) (w := i64 c) (by simp [hcb]) rfl ?_
  rw [pSub_v, w64 (by omega) (by omega), pConv_v, wu64 (by omega) (by omega), pShl_v]
  refine ⟨by decide, ?_⟩
  rw [show min (10 : Int).toNat IntKind.u64.bits = 10 from rfl, show ((c : Int) - 4) * 2 ^ 10 = ((2 ^ 10 * (c - 4) : Nat) : Int) by omega, wu64 (by omega) (by omega), pBits_v, or_u64 (by omega) (by omega), or_add (by omega)]
  refine wbitsG (n := x.length - 257 + 2 ^ 5 * (y.length - 1) + 2 ^ 10 * (c - 4)) (k := 14) (by omega) (by omega) (by omega) o fun H1 dv1 o => ?_
  rw [pNil_v, pFieldAddr_v, add_mk]
  refine o.bload (b := cb) (f := 0 + 2) (cs := [q0, q1, pt, tv, i64 x.length, i64 y.length, i64 c]) (t := 104) (w := pt) (by simp [hcb]) rfl ?_
  obtain ⟨hzo, kb, lv, wv, sv, rfl, hm⟩ := hz
  have hz : HasC L z (.pointer (some ⟨kb, 0, none⟩)) := ⟨hzo, kb, lv, wv, sv, rfl, hm⟩
  refine lens_spec o (lv := lv) (wv := wv) (sv := sv) (List.mem_cons_of_mem _ (hm (.box kb (codeCells lv wv (countsL (natL z)) sv) 90 ) List.mem_cons_self)) (List.mem_cons_of_mem _ (hm (.sl lv 1 (numsV z)) (by simp [codeIts]))) (by omega) fun yv H2 ov => ?_
  have o := o.call ov
  have o : Owns H0 H2 (.thing (wrT b dv1 (B ++ bitsN (x.length - 257 + 2 ^ 5 * (y.length - 1) + 2 ^ 10 * (c - 4)) 14)) :: .sl yv 1 (numsV z) :: L) := o.arrT (by repeat (first | exact SelsT.refl | exact Sel.here | apply SelsT.cons | apply Sel.there))
  generalize hB1 : B ++ bitsN (x.length - 257 + 2 ^ 5 * (y.length - 1) + 2 ^ 10 * (c - 4)) 14 = B1 at o
  have hB1l : B1.length = B.length + 14 := by rw [← hB1, List.length_append, bitsN_len]
  rw [pNil_v, pFieldAddr_v, add_mk]
  refine o.bload (b := cb) (f := 0 + 6) (cs := [q0, q1, .pointer (some ⟨kb, 0, none⟩), tv, i64 x.length, i64 y.length, i64 c]) (t := 104) (w := i64 c) (by simp [hcb]) rfl ?_
  rw [pSlArr_v, pBounds_01]
  refine ⟨by omega, by omega, ?_⟩
  rw [Int.toNat_natCast, Nat.sub_zero, if_neg (by decide), add_mk, pLen_v]
  refine ⟨fun u H' => ∃ (i : Nat) (dv' : Value), u = i64 i ∧ i ≤ c ∧ Owns H0 H' (.thing (wrT b dv' (B1 ++ tellB z (orderL.take i))) :: .sl yv 1 (numsV z) :: L), fun u _ => match u with | .int _ i => (c - i).toNat | _ => 0, ⟨0, dv1, rfl, by omega, by simpa [tellB] using o⟩, ?_⟩
  rintro _ _ H3 ⟨i, dv3, rfl, hi, o⟩
  have htl : ∀ i, (tellB z (orderL.take i)).length ≤ 3 * 19 := fun i => by
    have : ∀ l : List Nat, (tellB z l).length = 3 * l.length := fun l => by
      induction l with
      | nil => rfl
      | cons s l ih => unfold tellB at ih ⊢; rw [List.flatMap_cons, List.length_append, ih, bitsN_len, List.length_cons]; omega
    rw [this, List.length_take]
    have : orderL.length = 19 := rfl
    omega
  rw [pLt_v]
  refine pCond_if (fun hc1 => ?_) (fun hc1 => ?_)
  · have hic : i < c := by omega
    rw [pIdxSl_v]
    refine ⟨by omega, by omega, ?_⟩
    have hcell := (hG.ext o.ext) i _ (ordV_get (by omega))
    rw [add_mk, Nat.zero_add] at hcell
    rw [add_mk, Int.toNat_natCast, show 0 + 0 + i * 1 = i by omega, pLoad_cell hcell]
    have hlt := orderL_lt ⟨i, by omega⟩
    dsimp only at hlt
    have hzs := o.sl (v := yv) (by repeat (first | exact List.mem_cons_self | apply List.mem_cons_of_mem))
    have hz7 := d.z7 (orderL.getD i 0)
    have hzg : z.getD (orderL.getD i 0) 0 = z[orderL.getD i 0]'(by omega) := by rw [List.getD_eq_getElem?_getD, List.getElem?_eq_getElem (by omega)]; rfl
    refine hzs.at_ (n := z.length) (by rw [numsV_len]; omega) (by decide) (by omega) (by omega) fun p hp => ?_
    refine hp.load hzs (w := .int .i64 (z.getD (orderL.getD i 0) 0)) (by rw [Int.toNat_natCast, Nat.mul_one, numsV_get (by omega), hzg]) ?_
    rw [pConv_v, wu64 (by omega) (by omega), show z.getD (orderL.getD i 0) 0 = (((z.getD (orderL.getD i 0) 0).toNat : Nat) : Int) by omega]
    refine wbitsG (n := (z.getD (orderL.getD i 0) 0).toNat) (k := 3) (by omega) (by omega) (by rw [List.length_append]; have := htl i; omega) o fun H4 dv4 o => ?_
    rw [pAdd_v, w64 (by omega) (by omega)]
    refine ⟨⟨i + 1, dv4, rfl, by omega, ?_⟩, by show (_ : Int).toNat < (_ : Int).toNat; omega⟩
    have e : tellB z (orderL.take (i + 1)) = tellB z (orderL.take i) ++ bitsN (z.getD (orderL.getD i 0) 0).toNat 3 := by
      have hio : i < orderL.length := by show i < 19; omega
      unfold tellB
      rw [List.take_add_one, List.getElem?_eq_getElem hio, List.flatMap_append, List.getD_eq_getElem?_getD (l := orderL), List.getElem?_eq_getElem hio]
      simp
    rw [e, ← List.append_assoc]
    exact o
  · have hic : i = c := by omega
    rw [hic] at o
    rw [pNil_v, pFieldAddr_v, add_mk]
    refine o.bload (b := cb) (f := 0 + 3) (cs := [q0, q1, .pointer (some ⟨kb, 0, none⟩), tv, i64 x.length, i64 y.length, i64 c]) (t := 104) (w := tv) (by simp [hcb]) rfl ?_
    have o := (o.arrT (L' := .sl yv 1 (numsV z) :: .thing (wrT b dv3 (B1 ++ tellB z (orderL.take c))) :: L) (by repeat (first | exact SelsT.refl | exact Sel.here | apply SelsT.cons | apply Sel.there))).tl
    have hB2 := htl c
    generalize hT2 : tellB z (orderL.take c) = T2 at o hB2
    refine (o.sl (v := tv) (List.mem_cons_of_mem _ ht)).len (exsC_len E) (by decide) ?_
    refine ⟨fun u H' => ∃ (k : Nat) (dv' : Value), u = i64 k ∧ k ≤ E.length ∧ ((E.take k).flatMap (encE z)).length ≤ 30 * k ∧ Owns H0 H' (.thing (wrT b dv' (B1 ++ T2 ++ (E.take k).flatMap (encE z))) :: L), fun u _ => match u with | .int _ k => (E.length - k).toNat | _ => 0, ⟨0, dv3, rfl, by omega, by simp, by simpa using o⟩, ?_⟩
    rintro _ _ H5 ⟨k, dv5, rfl, hk, hkl, o⟩
    rw [pLt_v]
    refine pCond_if (fun hc2 => ?_) (fun hc2 => ?_)
    · have hkn : k < E.length := by omega
      have hat := exsC_at E k hkn
      have htk : (E.take (k + 1)).flatMap (encE z) = (E.take k).flatMap (encE z) ++ encE z E[k] := by rw [List.take_add_one, List.getElem?_eq_getElem hkn, List.flatMap_append]; simp
      have hbt := told_bits d.told _ (List.getElem_mem hkn)
      have hhs := d.has _ (List.getElem_mem hkn)
      generalize E[k] = e at hat htk hbt hhs
      generalize (E.take k).flatMap (encE z) = X at o hkl htk
      have hw := wordB_le hzo e.1
      have hsl := o.sl (v := tv) (List.mem_cons_of_mem _ ht)
      refine hsl.at_ (exsC_len E) (by decide) (by omega) (by omega) fun p hp => ?_
      rw [Int.toNat_natCast] at hp
      refine hp.loadN hsl (ws := exC e) hat rfl ?_
      refine o.box fun tb H6 o _ => ?_
      refine o.bstoreN (vs := exC e) (by repeat (first | exact List.mem_cons_self | apply List.mem_cons_of_mem)) rfl rfl rfl (by repeat (first | exact Rep.here | apply Rep.there)) fun H7 o _ => ?_
      rw [pNil_v, pFieldAddr_v, add_mk]
      refine o.bload (b := cb) (f := 0 + 2) (cs := [q0, q1, .pointer (some ⟨kb, 0, none⟩), tv, i64 x.length, i64 y.length, i64 c]) (t := 104) (w := .pointer (some ⟨kb, 0, none⟩)) (by simp [hcb]) rfl ?_
      rw [pFieldAddr_v, add_mk]
      refine o.bload (b := tb) (f := 0 + 0) (w := .int .i64 (e.1 : Nat)) (by repeat (first | exact List.mem_cons_self | apply List.mem_cons_of_mem)) rfl ?_
      have o := o.arrT (L' := .thing (wrT b dv5 (B1 ++ T2 ++ X)) :: .box tb (exC e) 106 :: L) (by repeat (first | exact SelsT.refl | exact Sel.here | apply SelsT.cons | apply Sel.there))
      refine cwrite_spec (s := e.1) hz.cons hhs (by simp only [List.length_append]; omega) o fun H8 dv8 o => ?_
      rw [pFieldAddr_v, add_mk]
      refine o.bload (b := tb) (f := 0 + 2) (w := .int .u64 (e.2.2 : Nat)) (by repeat (first | exact List.mem_cons_self | apply List.mem_cons_of_mem)) rfl ?_
      rw [pFieldAddr_v, add_mk]
      refine o.bload (b := tb) (f := 0 + 1) (w := .int .i64 (e.2.1 : Nat)) (by repeat (first | exact List.mem_cons_self | apply List.mem_cons_of_mem)) rfl ?_
      refine wbitsG (n := e.2.2) (k := e.2.1) (by omega) (by omega) (by simp only [List.length_append]; omega) o fun H9 dv9 o => ?_
      rw [pAdd_v, w64 (by omega) (by omega)]
      have ee : encE z e = wordB (natL z) e.1 ++ bitsN e.2.2 e.2.1 := rfl
      refine ⟨⟨k + 1, dv9, rfl, by omega, by rw [htk, ee]; simp only [List.length_append, bitsN_len]; omega, ?_⟩, by show (_ : Int).toNat < (_ : Int).toNat; omega⟩
      rw [htk, ee]
      simp only [List.append_assoc] at o ⊢
      exact o.pick (List.Sublist.cons_cons _ (List.Sublist.cons _ (List.Sublist.refl _)))
    · have hkE : k = E.length := by omega
      rw [hkE, List.take_length] at o
      refine h H5 dv5 ?_
      unfold dynB
      rw [show x.length - 257 + 32 * (y.length - 1) + 1024 * (c - 4) = x.length - 257 + 2 ^ 5 * (y.length - 1) + 2 ^ 10 * (c - 4) from rfl, hT2, ← List.append_assoc, hB1, ← List.append_assoc]
      exact o
end Go.Proofs.YtameljhbkedhjaaGreatDoor
namespace Go.Proofs.YtameljhbkedhjaaGreatDoor
open Go Go.Vc Go.Proofs
set_option linter.unusedVariables false
set_option linter.unusedSimpArgs false
variable {H H0 H' : Heap} {R : Value → Heap → Prop} {v : Value} {L : List It} {zs : List Int} {b : Nat} {B : List Bool}
theorem badT_spec {t : Tok} (hg : goodK t = true) (h : ∀ H', Ext H H' → R (.bool false) H') : CallsH Tryz.prog 48 #[t.v] H R := by
  refine block_may_f1.vc _ _ _ ?_
  unfold block_may_f1.res
  refine (Owns.start (H := H)).box fun tb H1 o _ => ?_
  refine o.bloadN (by repeat (first | exact List.mem_cons_self | apply List.mem_cons_of_mem)) rfl ?_
  refine tokGood_spec (t := t) fun H2 hx => ?_
  rw [hg, pNot_v]
  exact h H2 (o.ext.trans hx)
theorem anyBadT_spec {G : List Tok} {lv : Value} (hs : Sl H lv 3 (toksL G)) (hlen : G.length ≤ 65535) (hg : ∀ t ∈ G, goodK t = true) (h : ∀ H', Ext H H' → R (.bool false) H') :
    CallsH Tryz.prog 50 #[lv, .func (.func 48) #[] #[]] H R := by
  have hvl := toksL_len G
  refine slices_ContainsFunc_s_lz_Token_lz_Token.vc _ _ _ _ ?_
  unfold slices_ContainsFunc_s_lz_Token_lz_Token.res
  refine slices_IndexFunc_s_lz_Token_lz_Token.vc _ _ _ _ ?_
  unfold slices_IndexFunc_s_lz_Token_lz_Token.res
  refine hs.len hvl (by decide) ?_
  refine ⟨fun i H' => ∃ k : Nat, i = .int .i64 k ∧ k ≤ G.length ∧ Ext H H', fun i _ => match i with | .int _ x => (G.length - x).toNat | _ => 0, ⟨0, rfl, by omega, Ext.refl _⟩, ?_⟩
  rintro _ _ H1 ⟨k, rfl, hk, hx⟩
  rw [pLt_v]
  refine pCond_if (fun hc => ?_) (fun hc => ?_)
  · have hkn : k < G.length := by omega
    have hat := toksL_at G k _ (List.getElem?_eq_getElem hkn)
    have hgk := hg _ (List.getElem_mem hkn)
    generalize G[k] = t at hat hgk
    refine (hs.ext hx).at_ hvl (by decide) (by omega) (by omega) fun p hp => ?_
    rw [Int.toNat_natCast] at hp
    refine hp.loadN (hs.ext hx) (ws := t.cells) hat rfl ?_
    refine callH_f (by kernel_rfl) ?_
    refine badT_spec (t := t) hgk fun H2 hx2 => ?_
    rw [pCond_false, pAdd_v, w64 (by omega) (by omega)]
    exact ⟨⟨k + 1, rfl, by omega, hx.trans hx2⟩, by show (_ : Int).toNat < (_ : Int).toNat; omega⟩
  · show pGe _ _ _
    rw [pGe_v, decide_eq_false (by decide)]
    exact h H1 hx
theorem may_spec {G : List Tok} {lv : Value} {s : List UInt8} {kind : Nat} (hk : kind < 3) (hsl : s.length ≤ 65535) (hs : Sl H lv 3 (toksL G)) (hlen : G.length ≤ 65535) (hg : ∀ t ∈ G, goodK t = true) (h : ∀ H', Ext H H' → R (.bool true) H') :
    CallsH Tryz.prog 21 #[.int .i64 (kind : Int), str s, lv] H R := by
  have hvl := toksL_len G
  refine block_may.vc _ _ _ _ _ ?_
  unfold block_may.res
  rw [pGe_v, decide_eq_true (by omega)]
  refine pAnd_true ?_
  rw [pLt_v, decide_eq_true (by omega)]
  intro _
  refine pAnd_true ?_
  refine pLenS_to ?_
  rw [pLe_v, decide_eq_true (by omega)]
  intro _
  refine pAnd_true ?_
  refine hs.len hvl (by decide) ?_
  rw [pLe_v, decide_eq_true (by omega)]
  intro _
  refine pAnd_true ?_
  refine anyBadT_spec hs hlen hg fun H1 hx => ?_
  rw [pNot_v]
  intro _
  exact h H1 hx
theorem flat_le {α β : Type} {f : α → List β} {k : Nat} : ∀ {l : List α}, (∀ x ∈ l, (f x).length ≤ k) → (l.flatMap f).length ≤ k * l.length
  | [], h => by simp
  | a :: l, h => by
    have h1 := h a (by simp)
    have h2 := flat_le (l := l) fun x hx => h x (by simp [hx])
    rw [List.flatMap_cons, List.length_append, List.length_cons, Nat.mul_succ]; omega
theorem dynB_len {x y z : List Int} {E : List Ex} {c : Nat} (d : DynOk x y z E c) : (dynB x y z E c).length ≤ 20000 := by
  have hte := d.told.len
  have a2 := d.a2; have b2 := d.b2; have c2 := d.c2
  rw [List.length_append] at hte
  have hEl : E.length ≤ 316 := by simp at hte; omega
  have h1 : (tellB z (orderL.take c)).length ≤ 3 * (orderL.take c).length := flat_le fun s _ => by rw [bitsN_len]; omega
  have h2 : (E.flatMap (encE z)).length ≤ 30 * E.length := flat_le fun e he => by
    have := told_bits d.told e he
    have := wordB_le d.zok e.1
    unfold encE
    rw [List.length_append, bitsN_len]; omega
  have h3 : (orderL.take c).length ≤ 19 := by rw [List.length_take]; show min c 19 ≤ 19; omega
  unfold dynB
  rw [List.length_append, List.length_append, bitsN_len]
  omega
theorem bits3 (l : Bool) : bitsN (4 + (if l then 1 else 0)) 3 = [l, false, true] := by cases l <;> rfl
theorem write_dyn {G : List Tok} {lv dv : Value} {s : List UInt8} {l : Bool} (hG : Reads H0 ⟨0, 0, none⟩ ordV) (hsl : s.length ≤ 65535) (hl : It.sl lv 3 (toksL G) ∈ L) (hlen : G.length ≤ 65535) (hg : ∀ t ∈ G, goodK t = true) (hbig : B.length ≤ 400000000)
    (o : Owns H0 H (.thing (wrT b dv B) :: L))
    (h : ∀ H' dv' x y z E c, DynOk x y z E c → hasW x 256 → okC x → okC y → (∀ t ∈ G, hasT x y t) → Owns H0 H' (.thing (wrT b dv' (B ++ (l :: false :: true :: (dynB x y z E c ++ toksG x y G)))) :: L) → R (.int .i64 0) H') :
    CallsH Tryz.prog 6 #[at_ b 0, .int .i64 2, .bool l, str s, lv] H R := by
  refine block_Write.vc _ _ _ _ _ _ _ ?_
  unfold block_Write.res
  rw [pEq_3s]
  refine pOr_false ?_
  refine may_spec (kind := 2) (by decide) hsl (o.sl (v := lv) (List.mem_cons_of_mem _ hl)) hlen hg fun H1 hx1 => ?_
  rw [pNot_v]
  intro _
  show pCond (.bool false) _ _
  rw [pCond_false, pConv_v, wu64 (by decide) (by decide), pShl_v]
  refine ⟨by decide, ?_⟩
  have o1 := o.more hx1
  refine ⟨fun hd H' => hd = .int .u64 ((4 + (if l then 1 else 0) : Nat) : Int) ∧ H1 = H', ?_, ?_⟩
  · rintro _ _ _ ⟨rfl, rfl⟩
    refine wbitsG (n := 4 + (if l then 1 else 0)) (k := 3) (by split <;> omega) (by decide) (by omega) o1 fun H3 dv3 o => ?_
    rw [pEq_0, decide_eq_false (by decide), pCond_false, pEq_0, decide_eq_false (by decide), pCond_false, ]
    refine dyn_spec hG (o.sl (v := lv) (List.mem_cons_of_mem _ hl)) hlen hg o fun H4 M cb ps pd pt tv x y z E c hx hy hz ht hcb d h256 hGt o => ?_
    have o := o.perm (L' := .thing (wrT b dv3 (B ++ bitsN (4 + (if l then 1 else 0)) 3)) :: (M ++ L)) List.perm_middle.symm
    have h15 := hx.1
    have h16 := hy.1
    refine head_spec hG d (List.mem_append_left _ hcb) hz.appl (List.mem_append_left _ ht) (by rw [List.length_append, bitsN_len]; omega) o fun H5 dv5 o => ?_
    refine tokens_spec (sy := x) (di := y) (List.mem_append_right _ hl) (List.mem_append_left _ hcb) hx.appl hy.appl h256 (fun t ht => ⟨hg t ht, hGt t ht⟩) hlen (by have := dynB_len d; rw [List.length_append, List.length_append, bitsN_len]; omega) o fun H6 dv6 o => ?_
    refine h H6 dv6 x y z E c d h256 h15 h16 hGt ?_
    rw [bits3] at o
    simp only [List.append_assoc, List.cons_append, List.nil_append] at o ⊢
    exact o.pick (List.Sublist.cons_cons _ (List.sublist_append_right M L))
  · rw [show IntKind.u64.wrap (2 * 2 ^ (min (1 : Int).toNat IntKind.u64.bits)) = 4 from rfl]
    cases l
    · rw [pCond_false]; exact ⟨rfl, rfl⟩
    · rw [pCond_true, pBits_v]; exact ⟨rfl, rfl⟩
end Go.Proofs.YtameljhbkedhjaaGreatDoor
namespace Go.Proofs.YtameljhbkedhjaaGreatDoor
open Go Go.Vc Go.Proofs
set_option linter.unusedVariables false
set_option linter.unusedSimpArgs false
variable {H H0 H' : Heap} {R : Value → Heap → Prop} {v : Value} {L : List It} {b : Nat} {B : List Bool}
theorem Steps.W {D D' : DM} {o : List UInt8} (h : Steps D o D') (hl : leftOk D.st) : D'.W = D.W ++ o ∧ leftOk D'.st := by
  induction h with
  | refl => exact ⟨by simp, hl⟩
  | step hs _ ih =>
    have hi := step_inv hl (.inl hs)
    have := ih hi.2.2
    exact ⟨by rw [this.1, hi.1, List.append_assoc], this.2⟩
theorem run_dyn {x y z : List Int} {E : List Ex} {c : Nat} {G : List Tok} {V : List UInt8} {r : List Bool} (d : DynOk x y z E c) (h256 : hasW x 256) (hx : okC x) (hy : okC y) (hG : ∀ t ∈ G, hasT x y t) (ht : tellsF G [] V) (hr : r.length < 8) :
    run ⟨.hd, true :: false :: true :: (dynB x y z E c ++ toksG x y G) ++ r, []⟩ = (V, ⟨.dn, [], V⟩, 0) := by
  have s1 := step_dyn d (l := true) (C := toksG x y G ++ r) (W := [])
  obtain ⟨o, s2⟩ := steps_toksG hx hy h256 (C := r) (l := true) ht hG
  have hall := Steps.step s1 s2
  have hal : alB r = [] := by unfold alB; rw [Nat.mod_eq_of_lt hr, List.drop_length]
  have hw := (Steps.W hall trivial).1
  have he : endM true r V = ⟨.dn, [], V⟩ := by unfold endM; rw [if_pos rfl, hal]
  rw [he] at hall hw
  have e : true :: false :: true :: (dynB x y z E c ++ toksG x y G) ++ r = true :: false :: true :: (dynB x y z E c ++ (toksG x y G ++ r)) := by simp
  rw [e]
  have := hall.fin rfl
  rw [this]
  have hw : V = [] ++ ([] ++ o) := hw
  simp only [List.nil_append] at hw ⊢
  rw [← hw]
def tokA : Tok := ⟨97, 0, 0⟩
theorem blocks_spec (hG : Reads H ⟨0, 0, none⟩ ordV) (hI : Reads H ⟨1, 0, none⟩ ordV) (h : ∀ H', Ext H H' → R (.bool true) H') : CallsH Tryz.prog 5 #[] H R := by
  refine lightertop_blocks.vc _ _ ?_
  unfold lightertop_blocks.res
  refine (Owns.start (H := H)).box fun b H1 o _ => ?_
  have o : Owns H H1 (.thing (wrT b (.slice none 0 0) []) :: []) := wr_new o
  refine pBuild_one rfl (by decide) ?_
  rw [pBuild_n]
  refine o.build1 (sz := 3) (by decide) rfl rfl fun lv H2 o => ?_
  have o : Owns H H2 (.sl lv 3 (toksL [tokA]) :: .thing (wrT b (.slice none 0 0) []) :: []) := o
  have o := o.arrT (L' := .thing (wrT b (.slice none 0 0) []) :: .sl lv 3 (toksL [tokA]) :: []) (by repeat (first | exact SelsT.refl | exact Sel.here | apply SelsT.cons | apply Sel.there))
  refine write_dyn (G := [tokA]) (s := [97]) (l := true) hG (by decide) (by repeat (first | exact List.mem_cons_self | apply List.mem_cons_of_mem)) (by decide) (fun t ht => by rw [List.mem_singleton.1 ht]; rfl) (by decide) o fun H3 dv3 x y z E c d h256 hx hy hGt o => ?_
  have hdl := dynB_len d
  have htl : (toksG x y [tokA]).length ≤ 30 := by
    unfold toksG
    rw [List.flatMap_cons, List.flatMap_nil, List.append_nil, List.length_append]
    have h1 := wordB_le hx 256
    have h2 := wordB_le hx 97
    have e : tokG x y tokA = wordB (natL x) 97 := rfl
    rw [e]; omega
  rw [List.nil_append] at o
  have hBl : (true :: false :: true :: (dynB x y z E c ++ toksG x y [tokA])).length ≤ 30000 := by simp only [List.length_cons, List.length_append]; omega
  have hrun := fun {r : List Bool} (hr : r.length < 8) => run_dyn (V := [97]) (r := r) d h256 hx hy hGt ⟨⟨rfl, by decide⟩, rfl⟩ hr
  generalize true :: false :: true :: (dynB x y z E c ++ toksG x y [tokA]) = BB at o hBl hrun
  refine wAlign_spec (wr_at o (by repeat (first | exact List.mem_cons_self | apply List.mem_cons_of_mem))) (by omega) fun H4 dv4 w c4 => ?_
  have o := owns_wr o w c4 Rep.here
  obtain ⟨r, hpad, hr8⟩ := padB_ext7 BB
  have hpl := padB_len BB
  have hpm : (padB BB).length % 8 = 0 := by omega
  refine wDrain_spec (wr_at o (by repeat (first | exact List.mem_cons_self | apply List.mem_cons_of_mem))) fun H5 dv5 w c5 => ?_
  have o := owns_wr o w c5 Rep.here
  have hs : toBits (toBytes (padB BB)) = BB ++ r := by rw [toBits_toBytes ((padB BB).length / 8) _ (by omega), hpad]
  have hsl : (toBytes (padB BB)).length ≤ 100000000 := by
    rw [toBytes_len ((padB BB).length / 8) _ rfl, hpad, List.length_append]; omega
  have hrun := hrun hr8
  rw [← hs] at hrun
  have fin : ∀ (o' : List UInt8) (D' : DM) (e : Int), run ⟨.hd, toBits (toBytes (padB BB)), []⟩ = (o', D', e) → o' = [97] ∧ D' = ⟨.dn, [], [97]⟩ ∧ e = 0 := fun o' D' e he => by
    rw [hrun] at he
    cases he; exact ⟨rfl, rfl, rfl⟩
  refine all_spec7 hI o hsl (fun o' D' H6 he hdn hx6 => ?_) (fun o' D' H6 he hdn _ => ?_) (fun o' D' e H6 he hne _ => ?_)
  · obtain ⟨rfl, rfl, _⟩ := fin _ _ _ he
    refine pExtract_to (vs := [str [97], str (toBytes _), .int .i64 0]) rfl ?_
    refine pExtract_to (vs := [str [97], str (toBytes _), .int .i64 0]) rfl ?_
    refine pExtract_to (vs := [str [97], str (toBytes _), .int .i64 0]) rfl ?_
    have hz : ∀ n, toBytes (List.take n (alB [])) = [] := fun n => by rw [show alB [] = [] from rfl, List.take_nil]; rfl
    rw [pEq_0, decide_eq_true rfl]
    refine pAnd_true ?_
    rw [pEq_0, decide_eq_true rfl]
    intro _
    refine pAnd_true ?_
    refine pEq1_to ?_
    rw [decide_eq_true rfl]
    intro _
    refine pAnd_true ?_
    refine pEq1_to ?_
    rw [decide_eq_true (hz _)]
    intro _
    exact h H6 hx6
  · obtain ⟨_, rfl, _⟩ := fin _ _ _ he
    exact absurd hdn (by decide)
  · obtain ⟨_, _, rfl⟩ := fin _ _ _ he
    exact absurd rfl hne
end Go.Proofs.YtameljhbkedhjaaGreatDoor
namespace Go.Proofs.YtameljhbkedhjaaGreatDoor
open Go Go.Vc Go.Proofs
set_option linter.unusedVariables false
set_option linter.unusedSimpArgs false
variable {H : Heap} {R : Value → Heap → Prop} {v : Value} {zs : List Int} {ls : List Nat} {B : List Bool}
def rdT (b : Nat) (B : List Bool) : Thing where
  foot k := k = b
  holds H := Rd H b 0 B
  frame := fun h hf => by
    obtain ⟨⟨rest, acc, n, h1, h2⟩, h3⟩ := h
    exact ⟨⟨rest, acc, n, h1.same (hf b rfl), h2⟩, h3⟩
  lt := fun h hf => by subst hf; exact h.lt
theorem owns_rd {H0 H' : Heap} {L : List It} {b : Nat} {B' : List Bool} (o : Owns H0 H (.thing (rdT b B) :: L)) (w : Rd H' b 0 B') (c : Chg b 0 3 none_ none_ H H') : Owns H0 H' (.thing (rdT b B') :: L) :=
  o.turn Rep.here c.size (fun k hk hf => c.ne k hk hf (fun h => h)) w (fun k hk => .inl hk)
theorem rd_at {H0 : Heap} {L : List It} {b : Nat} (o : Owns H0 H L) (h : It.thing (rdT b B) ∈ L) : Rd H b 0 B := o.thing h
theorem hit_take (hle : ∀ k ∈ ls, k ≤ 15) {s : Nat} : hit ls (B.take 15) s ↔ hit ls B s := by
  have := getD_le hle s
  unfold hit
  rw [List.take_take, Nat.min_eq_left this]
open Classical in
theorem next_spec {H0 : Heap} {L : List It} {b rb : Nat} {lv wv sv : Value} (hz : okZ zs) (hsh : shareL (natL zs) 15 ≤ 32768) (o : Owns H0 H (.thing (rdT rb B) :: L)) (m1 : It.box b (codeCells lv wv (countsL (natL zs)) sv) 90 ∈ L) (m2 : It.sl wv 2 (wordsV (natL zs)) ∈ L) (m3 : It.sl sv 1 (symsV (symsB (natL zs) 16)) ∈ L)
    (h1 : ∀ s H', hit (natL zs) B s → Owns H0 H' (.thing (rdT rb (B.drop ((natL zs).getD s 0))) :: L) → R (.tuple #[.int .i64 (s : Nat), .int .i64 0]) H')
    (h2 : (∀ s, ¬ hit (natL zs) B s) → ∀ H', Owns H0 H' (.thing (rdT rb B) :: L) → R (.tuple #[.int .i64 0, .int .i64 (if more (natL zs) (B.take 15) then 2 else 4)]) H') :
    CallsH Tryz.prog 18 #[.pointer (some ⟨b, 0, none⟩), .pointer (some ⟨rb, 0, none⟩)] H R := by
  have hle := ok_le hz
  have ht := @hit_take (natL zs) B hle
  have hg15 := getD_le hle
  refine canon_Code_Next.vc _ _ _ _ ?_
  unfold canon_Code_Next.res
  rw [pEq_3s]
  refine pOr_false ?_
  rw [pEq_3s]
  intro _
  rw [pCond_false]
  refine rLeft_spec (rd_at o (by repeat (first | exact List.mem_cons_self | apply List.mem_cons_of_mem))) ?_
  rw [pMin_v]
  obtain ⟨n, hn⟩ : ∃ n, n = min B.length 15 := ⟨_, rfl⟩
  rw [show min ((B.length : Nat) : Int) 15 = (n : Int) by omega]
  refine rPeek_spec (k := n) (rd_at o (by repeat (first | exact List.mem_cons_self | apply List.mem_cons_of_mem))) (by omega) (by omega) fun H1 w1 c1 => ?_
  have o := owns_rd o w1 c1
  refine pExtract_to rfl ?_
  refine pExtract_to rfl ?_
  have hx := numB_lt (B.take n)
  have hbl : (B.take n).length = n := by rw [List.length_take]; omega
  have hb : bitsN (numB (B.take n)) n = B.take 15 := by
    have := bitsN_numB (B.take n)
    rw [hbl] at this
    rw [this, hn]
    rcases Nat.le_total B.length 15 with g | g
    · rw [Nat.min_eq_left g, List.take_of_length_le (Nat.le_refl _), List.take_of_length_le g]
    · rw [Nat.min_eq_right g]
  rw [hbl] at hx
  generalize numB (B.take n) = x at *
  refine find_spec (x := x) (n := n) hz hsh o (List.mem_cons_of_mem _ m1) (List.mem_cons_of_mem _ m3) hx (by omega) (fun s hh => ?_) (fun hno => ?_)
  · rw [hb] at hh
    have hh := ht.1 hh
    have hs1 := hh.2.1
    have hlen := hit_len hh
    have h15 := hg15 s
    refine pExtract_to rfl ?_
    refine pExtract_to rfl ?_
    rw [pGt_v, decide_eq_true (by omega), pCond_true]
    refine rRead_spec (k := (natL zs).getD s 0) (rd_at o (by repeat (first | exact List.mem_cons_self | apply List.mem_cons_of_mem))) (by omega) hlen fun H2 w2 c2 => ?_
    exact h1 s H2 hh (owns_rd o w2 c2)
  · rw [hb] at hno
    refine pExtract_to rfl ?_
    refine pExtract_to rfl ?_
    rw [pGt_v, decide_eq_false (by decide), pCond_false]
    refine open_spec (x := x) (n := n) hz o (List.mem_cons_of_mem _ m1) (List.mem_cons_of_mem _ m2) hx (by omega) fun H2 o => ?_
    rw [hb]
    have := h2 (fun s g => hno s (ht.2 g)) H2 o
    by_cases hm : more (natL zs) (B.take 15)
    · rw [if_pos hm] at this
      rw [decide_eq_true hm, pCond_true]
      exact this
    · rw [if_neg hm] at this
      rw [decide_eq_false hm, pCond_false]
      exact this
end Go.Proofs.YtameljhbkedhjaaGreatDoor
namespace Go.Proofs.YtameljhbkedhjaaGreatDoor
open Go Go.Vc Go.Proofs
set_option linter.unusedVariables false
set_option linter.unusedSimpArgs false
variable {H H0 H' : Heap} {R : Value → Heap → Prop} {v : Value} {L : List It} {b : Nat} {B : List Bool}
def low4 (q : List Int) : List Int := q.map fun z => z % 16
theorem low4_len (q : List Int) : (low4 q).length = q.length := by simp [low4]
theorem low4_rng (q : List Int) : ∀ z ∈ low4 q, 0 ≤ z ∧ z ≤ 15 := fun z hz => by
  obtain ⟨u, _, rfl⟩ := List.mem_map.1 hz
  show 0 ≤ u % 16 ∧ u % 16 ≤ 15
  omega
theorem lens_why {zs ls : List Int} (h : lensOk zs 15 ls) (hl : zs.length ≤ 288) : whyL ls true = 0 := by
  have hsl := suppU_len zs zs.length
  obtain ⟨f1, f2, f3, f4, f5⟩ := lensOk_facts h (by decide) (by decide) (by omega)
  have hrng : ∀ s, 0 ≤ ls.getD s 0 ∧ ls.getD s 0 ≤ 15 := fun s => by
    by_cases hs : s < zs.length
    · have := f2 s hs
      split at this <;> omega
    · rw [List.getD_eq_getElem?_getD, List.getElem?_eq_none (by omega)]; simp
  have hok : okZ ls := okZ_of (by omega) hrng
  by_cases h2 : 2 ≤ (suppU zs zs.length).length
  · exact why_full hok (f3 h2)
  · obtain ⟨g1, g2⟩ := f4 (by omega)
    refine why_slack hok (by rw [g1]; omega) (slack_of (by omega) fun k hk => ?_)
    unfold natL at hk
    rw [List.mem_map] at hk
    obtain ⟨z, hz, rfl⟩ := hk
    obtain ⟨i, hi, rfl⟩ := List.getElem_of_mem hz
    have := g2 i (by omega)
    rw [List.getD_eq_getElem?_getD, List.getElem?_eq_getElem hi] at this
    have h3 : ls[i] ≤ 1 := this
    omega
theorem catC_snoc {ls : List Nat} (M : List Nat) (s : Nat) : (M ++ [s]).flatMap (wordB ls) = M.flatMap (wordB ls) ++ wordB ls s := by rw [List.flatMap_append]; simp
def allS (c : List Int) : Nat → List Nat
  | 0 => []
  | k + 1 => allS c k ++ List.replicate (c.getD k 0).toNat k
theorem allS_len {c : List Int} (hc : ∀ z ∈ c, 0 ≤ z ∧ z ≤ 15) : ∀ k, (allS c k).length ≤ 15 * k
  | 0 => by simp [allS]
  | k + 1 => by
    have := allS_len hc k
    have h : c.getD k 0 ≤ 15 := by
      by_cases hk : k < c.length
      · rw [List.getD_eq_getElem?_getD, List.getElem?_eq_getElem hk]; exact (hc _ (List.getElem_mem hk)).2
      · rw [List.getD_eq_getElem?_getD, List.getElem?_eq_none (by omega)]; simp
    rw [allS, List.length_append, List.length_replicate]; omega
theorem allS_mem {c : List Int} : ∀ k, ∀ s ∈ allS c k, s < k ∧ 0 < c.getD s 0
  | 0, s, hs => by simp [allS] at hs
  | k + 1, s, hs => by
    rw [allS] at hs
    rcases List.mem_append.1 hs with hs | hs
    · have := allS_mem k s hs; exact ⟨by omega, this.2⟩
    · obtain ⟨h1, rfl⟩ := List.mem_replicate.1 hs
      exact ⟨by omega, by omega⟩
theorem catS_len {ls : List Nat} (hle : ∀ k ∈ ls, k ≤ 15) (M : List Nat) : (M.flatMap (wordB ls)).length ≤ 15 * M.length := flat_le fun s _ => by rw [wordB_len]; exact getD_le hle s
theorem cost_all {c ls : List Int} (hl : c.length = ls.length) (hc : ∀ z ∈ c, 0 ≤ z ∧ z ≤ 15) (hr : ∀ z ∈ ls, 0 ≤ z ∧ z ≤ 15) : ∀ k, k ≤ c.length → ((((allS c k).flatMap (wordB (natL ls))).length : Nat) : Int) = costM (c.take k) (ls.take k)
  | 0, _ => by simp [allS, costM]
  | k + 1, h => by
    have ih := cost_all hl hc hr k (by omega)
    have hk : k < c.length := by omega
    have hk2 : k < ls.length := by omega
    have e : ∀ n, ((List.replicate n k).flatMap (wordB (natL ls))).length = n * (ls[k]).toNat := fun n => by
      induction n with
      | zero => simp
      | succ n ih2 =>
        rw [List.replicate_succ, List.flatMap_cons, List.length_append, ih2, wordB_len, natL_getD0, List.getD_eq_getElem?_getD, List.getElem?_eq_getElem hk2, Nat.succ_mul]
        show (ls[k]).toNat + _ = _
        omega
    rw [allS, List.flatMap_append, List.length_append, e, List.take_add_one, List.take_add_one, List.getElem?_eq_getElem hk, List.getElem?_eq_getElem hk2]
    show _ = costM (c.take k ++ [c[k]]) (ls.take k ++ [ls[k]])
    rw [costM_snoc _ _ _ _ (by rw [List.length_take, List.length_take]; omega), ← ih]
    have g1 := hc _ (List.getElem_mem hk)
    have g2 := hr _ (List.getElem_mem hk2)
    rw [List.getD_eq_getElem?_getD, List.getElem?_eq_getElem hk, Option.getD_some, Int.natCast_add, Int.natCast_mul, Int.toNat_of_nonneg g1.1, Int.toNat_of_nonneg g2.1]
theorem TopCodes_law (a : Option Addr) (len cap : Nat) (zs : List Int) (hG : Reads H ⟨0, 0, none⟩ ordV) (hI : Reads H ⟨1, 0, none⟩ ordV) (w0 : IntRow .i64 H a len cap zs) : CallsH Tryz.prog 4 #[.slice a len cap] H (LawOk H) := by
  obtain ⟨l, hl, hmx, hr, hs⟩ := int_rows w0
  have hmax : maxLen = 9223372036854775807 := rfl
  have hvl : (numsV l).length = l.length * 1 := by rw [numsV_len]; omega
  refine lightertop_TopCodes.vc _ _ _ ?_
  unfold lightertop_TopCodes.res
  refine blocks_spec hG hI fun H1 hx1 => ?_
  rw [pNot_v, Bool.not_true, pCond_false]
  have hs1 := hs.ext hx1
  refine (Owns.start (H := H1)).build0 1 (by decide) fun y0 H2 o => ?_
  refine (hs1.ext o.ext).len hvl (by decide) ?_
  rw [pMin_v, show min ((l.length : Nat) : Int) 40 = ((min l.length 40 : Nat) : Int) by omega]
  refine cut_to (hs1.ext o.ext) (by decide) hvl (by omega) fun cv hcv _ => ?_
  rw [Nat.mul_one, numsV_take] at hcv
  have hql : (l.take (min l.length 40)).length ≤ 40 := by rw [List.length_take]; omega
  have hqr : ∀ z ∈ l.take (min l.length 40), -9223372036854775808 ≤ z ∧ z ≤ 9223372036854775807 := fun z hz => hr z (List.mem_of_mem_take hz)
  generalize l.take (min l.length 40) = q at hcv hql hqr
  refine o.app (by repeat (first | exact Sel.here | apply Sel.there)) hcv numsV_one (by rw [numsV_len]; show 2 * (0 + _) * 8 ≤ _; omega) fun y H3 o => ?_
  rw [List.nil_append] at o
  refine ⟨fun i H' => ∃ k : Nat, i = .int .i64 k ∧ k ≤ q.length ∧ Owns H1 H' [.sl y 1 (numsV (low4 (q.take k) ++ q.drop k))], fun i _ => match i with | .int _ x => (q.length - x).toNat | _ => 0, ⟨0, rfl, by omega, by simpa [low4] using o⟩, ?_⟩
  clear o
  rintro _ _ H4 ⟨k, rfl, hk, o⟩
  have hyl : (numsV (low4 (q.take k) ++ q.drop k)).length = q.length * 1 := by rw [numsV_len, List.length_append, low4_len, List.length_take, List.length_drop]; omega
  refine (o.sl (v := y) (by repeat (first | exact List.mem_cons_self | apply List.mem_cons_of_mem))).len hyl (by decide) ?_
  rw [pLt_v]
  refine pCond_if (fun hc => ?_) (fun hc => ?_)
  · have hkq : k < q.length := by omega
    have hlk : (low4 (q.take k)).length = k := by rw [low4_len, List.length_take]; omega
    refine (o.sl (v := y) (by repeat (first | exact List.mem_cons_self | apply List.mem_cons_of_mem))).at_ hyl (by decide) (by omega) (by omega) fun p hp => ?_
    refine hp.load (o.sl (v := y) (by repeat (first | exact List.mem_cons_self | apply List.mem_cons_of_mem))) (w := .int .i64 q[k]) (by
      rw [Int.toNat_natCast, Nat.mul_one, numsV_append, List.getElem?_append_right (by rw [numsV_len, hlk]; omega), numsV_len, hlk, Nat.sub_self, List.drop_eq_getElem_cons hkq]; rfl) ?_
    rw [pBits_v, and_low (k := 4) (by decide) (by decide)]
    refine (o.sl (v := y) (by repeat (first | exact List.mem_cons_self | apply List.mem_cons_of_mem))).at_ hyl (by decide) (by omega) (by omega) fun p hp => ?_
    rw [Int.toNat_natCast, Nat.mul_one] at hp
    refine o.store hp (by repeat (first | exact List.mem_cons_self | apply List.mem_cons_of_mem)) (by omega) rfl (by repeat (first | exact Rep.here | apply Rep.there)) fun H5 o _ => ?_
    rw [pAdd_v, w64 (by omega) (by omega)]
    refine ⟨⟨k + 1, rfl, by omega, ?_⟩, by show (_ : Int).toNat < (_ : Int).toNat; omega⟩
    have e : (numsV (low4 (q.take k) ++ q.drop k)).set k (.int .i64 (q[k] % 2 ^ 4)) = numsV (low4 (q.take (k + 1)) ++ q.drop (k + 1)) := by
      rw [numsV_set, List.set_append_right _ _ (by omega), hlk, Nat.sub_self, List.drop_eq_getElem_cons hkq, List.set_cons_zero, List.take_add_one, List.getElem?_eq_getElem hkq]
      unfold low4
      rw [List.map_append]
      simp
    rw [e] at o
    exact o
  have hkq : k = q.length := by omega
  rw [hkq, List.take_length, List.drop_length, List.append_nil] at o
  have hzl : (low4 q).length ≤ 40 := by rw [low4_len]; exact hql
  have hzr := low4_rng q
  generalize low4 q = c at o hzl hzr
  have hgc : goodM c = true := goodM_iff.2 fun z hz => by have := hzr z hz; omega
  have hsu := suppU_len c c.length
  refine lengths_spec (m := 15) (o.sl (v := y) (by repeat (first | exact List.mem_cons_self | apply List.mem_cons_of_mem))) (by omega) hgc (by decide) (by decide) (by omega) fun lv ls H5 hlo o5 => ?_
  have hw := lens_why hlo (by omega)
  obtain ⟨f1, f2, _⟩ := lensOk_facts hlo (by decide) (by decide) (by omega)
  have o := o.call o5
  refine pExtract_to (vs := [lv, .int .i64 0]) rfl ?_
  refine pExtract_to (vs := [lv, .int .i64 0]) rfl ?_
  refine newO_spec (loose := true) o (o.sl (v := lv) (by repeat (first | exact List.mem_cons_self | apply List.mem_cons_of_mem))) (by omega) (fun H' hn _ => absurd hw hn) fun H6 M p _ hM o => ?_
  refine pExtract_to (vs := [p, .int .i64 0]) rfl ?_
  refine pExtract_to (vs := [p, .int .i64 0]) rfl ?_
  rw [pNe_0, decide_eq_false (by simp)]
  refine pOr_false ?_
  rw [pNe_0, decide_eq_false (by simp)]
  intro _
  rw [pCond_false]
  have hokC := hM.1
  have hle := ok_le hokC.1
  obtain ⟨LL, hLL⟩ : ∃ LL, LL = M ++ [.sl lv 1 (numsV ls), .sl y 1 (numsV c)] := ⟨_, rfl⟩
  have o : Owns H1 H6 LL := by rw [hLL]; exact o
  have hp : HasC LL ls p := by rw [hLL]; exact hM.appl
  have iny : It.sl y 1 (numsV c) ∈ LL := by rw [hLL]; simp
  have inl2 : It.sl lv 1 (numsV ls) ∈ LL := by rw [hLL]; simp
  clear hLL
  refine o.box fun wb H7 o _ => ?_
  have o : Owns H1 H7 (.thing (wrT wb (.slice none 0 0) []) :: LL) := wr_new o
  have o := o.add (Ext.refl _) (i := .sl (.slice none 0 0) 1 (symsV [])) ⟨by decide, .inl ⟨rfl, rfl⟩⟩ (by intro k hk; exact absurd hk (by simp [It.foot, blkOf]))
  have hcl : (numsV c).length = c.length * 1 := by rw [numsV_len]; omega
  have hwd : ∀ s, s < c.length → 0 < c.getD s 0 → hasW ls s := fun s h1 h2 => by
    have := f2 s h1
    rw [if_pos h2] at this
    exact ⟨by omega, by rw [natL_getD0]; omega⟩
  refine ⟨fun t i H' => ∃ (k : Nat) (dv : Value), i = .int .i64 k ∧ k ≤ c.length ∧ Owns H1 H' (.sl t 1 (symsV (allS c k)) :: .thing (wrT wb dv ((allS c k).flatMap (wordB (natL ls)))) :: LL), fun _ i _ => match i with | .int _ x => (c.length - x).toNat | _ => 0, ⟨0, _, rfl, by omega, o⟩, ?_⟩
  clear o
  rintro _ t _ H8 ⟨k, dv, rfl, hk, o⟩
  refine (o.sl (v := y) (sz := 1) (l := numsV c) (by simp [iny])).len hcl (by decide) ?_
  have hal := allS_len hzr k
  rw [pLt_v]
  refine pCond_if (fun hc1 => ?_) (fun hc1 => ?_)
  · have hkc : k < c.length := by omega
    have gk : c.getD k 0 = c[k] := by rw [List.getD_eq_getElem?_getD, List.getElem?_eq_getElem hkc]; rfl
    have hck := hzr _ (List.getElem_mem hkc)
    refine ⟨fun t i H' => ∃ (j : Nat) (dv : Value), i = .int .i64 j ∧ (j : Int) ≤ c[k] ∧ Owns H1 H' (.sl t 1 (symsV (allS c k ++ List.replicate j k)) :: .thing (wrT wb dv ((allS c k ++ List.replicate j k).flatMap (wordB (natL ls)))) :: LL), fun _ i _ => match i with | .int _ x => (100 - x).toNat | _ => 0, ⟨0, dv, rfl, by omega, by simpa using o⟩, ?_⟩
    clear o
    rintro _ t2 _ H9 ⟨j, dv2, rfl, hj, o⟩
    refine (o.sl (v := y) (sz := 1) (l := numsV c) (by simp [iny])).at_ hcl (by decide) (by omega) (by omega) fun q hq => ?_
    refine hq.load (o.sl (v := y) (sz := 1) (l := numsV c) (by simp [iny])) (w := .int .i64 c[k]) (by rw [Int.toNat_natCast, Nat.mul_one, numsV_get hkc]) ?_
    rw [pLt_v]
    refine pCond_if (fun hc2 => ?_) (fun hc2 => ?_)
    · have hbl := catS_len hle (allS c k ++ List.replicate j k)
      rw [List.length_append, List.length_replicate] at hbl
      refine cwrite_spec (s := k) hp.cons (hwd k hkc (by omega)) (by omega) o.swap fun H10 dv10 o => ?_
      refine o.build1 (sz := 1) (by decide) rfl rfl fun z H11 o => ?_
      refine o.app (v := t2) (by repeat (first | exact Sel.here | apply Sel.there)) (o.sl (v := z) (by repeat (first | exact List.mem_cons_self | apply List.mem_cons_of_mem))) rfl (by rw [symsV_len, List.length_append, List.length_replicate]; show 2 * (_ + 1) * 8 ≤ _; omega) fun t3 H12 o => ?_
      rw [pAdd_v, w64 (by omega) (by omega)]
      refine ⟨⟨j + 1, dv10, rfl, by omega, ?_⟩, by show (_ : Int).toNat < (_ : Int).toNat; omega⟩
      have e1 : allS c k ++ List.replicate (j + 1) k = (allS c k ++ List.replicate j k) ++ [k] := by rw [List.replicate_succ', List.append_assoc]
      have e2 : symsV ((allS c k ++ List.replicate j k) ++ [k]) = symsV (allS c k ++ List.replicate j k) ++ [Value.int .i64 (k : Int)] := by simp [symsV]
      rw [e1, catC_snoc, e2]
      exact (o.arrT (L' := .sl z 1 [Value.int .i64 (k : Int)] :: .sl t3 1 (symsV (allS c k ++ List.replicate j k) ++ [Value.int .i64 (k : Int)]) :: .thing (wrT wb dv10 ((allS c k ++ List.replicate j k).flatMap (wordB (natL ls)) ++ wordB (natL ls) k)) :: LL) (by repeat (first | exact SelsT.refl | exact Sel.here | apply SelsT.cons | apply Sel.there))).tl
    · have hjc : (j : Int) = c[k] := by omega
      rw [pAdd_v, w64 (by omega) (by omega)]
      refine ⟨⟨k + 1, dv2, rfl, by omega, ?_⟩, by show (_ : Int).toNat < (_ : Int).toNat; omega⟩
      have e : allS c (k + 1) = allS c k ++ List.replicate j k := by rw [allS, gk, ← hjc, Int.toNat_natCast]
      rw [e]
      exact o
  have hkc : k = c.length := by omega
  rw [hkc] at o hal
  have hbl := catS_len hle (allS c c.length)
  have hlr : ∀ z ∈ ls, 0 ≤ z ∧ z ≤ 15 := hokC.1.2
  have hcost := cost_all (ls := ls) (by omega) hzr hlr c.length (Nat.le_refl _)
  rw [List.take_length, List.take_of_length_le (by omega)] at hcost
  refine wLen_spec (wr_at o (by repeat (first | exact List.mem_cons_self | apply List.mem_cons_of_mem))) ?_
  refine cost_spec (zs := c) (ls := ls) (o.sl (v := y) (sz := 1) (l := numsV c) (by simp [iny])) (o.sl (v := lv) (sz := 1) (l := numsV ls) (by simp [inl2])) (by omega) (by omega) (fun z hz => by have := hzr z hz; omega) hlr ?_
  rw [pNe_0, decide_eq_false (by rw [hcost]; simp), pCond_false]
  refine wAlign_spec (wr_at o (by repeat (first | exact List.mem_cons_self | apply List.mem_cons_of_mem))) (by omega) fun H10 dv10 w c10 => ?_
  have o := owns_wr o w c10 (by repeat (first | exact Rep.here | apply Rep.there))
  obtain ⟨r1, hpad, hr8⟩ := padB_ext7 ((allS c c.length).flatMap (wordB (natL ls)))
  have hpl := padB_len ((allS c c.length).flatMap (wordB (natL ls)))
  generalize padB ((allS c c.length).flatMap (wordB (natL ls))) = PB at *
  have hmem := allS_mem (c := c) c.length
  generalize allS c c.length = A at *
  refine o.box fun rb H11 o _ => ?_
  change Owns H1 H11 (.box rb [str [], .int .u64 0, .int .i64 0] _ :: _) at o
  refine wDrain_spec (wr_at o (by repeat (first | exact List.mem_cons_self | apply List.mem_cons_of_mem))) fun H12 dv12 w c12 => ?_
  have o := owns_wr o w c12 (by repeat (first | exact Rep.here | apply Rep.there))
  have o := o.turn (i' := .thing (rdT rb [])) Rep.here (Nat.le_refl _) (fun k _ _ => rfl) (Rd.new (Sub.all (cs := [str [], .int .u64 0, .int .i64 0]) (o.blk (by repeat (first | exact List.mem_cons_self | apply List.mem_cons_of_mem))))) (fun k hk => .inl hk.symm)
  have htb : toBits (toBytes PB) = PB := toBits_toBytes (PB.length / 8) PB (by omega)
  have htl : 8 * (toBytes PB).length = PB.length := by rw [← toBits_len, htb]
  refine rFeed_spec (rd_at o (by repeat (first | exact List.mem_cons_self | apply List.mem_cons_of_mem))) (by rw [List.length_nil]; omega) fun H13 w9 c9 => ?_
  have o := owns_rd o w9 c9
  rw [List.nil_append, htb, hpad] at o
  have o := (o.arrT (L' := .thing (wrT wb dv12 _) :: .thing (rdT rb (A.flatMap (wordB (natL ls)) ++ r1)) :: .sl t 1 (symsV A) :: LL) (by repeat (first | exact SelsT.refl | exact Sel.here | apply SelsT.cons | apply Sel.there))).tl
  obtain ⟨_, cb, lv2, wv2, sv2, rfl, hm⟩ := hp
  have i1 : It.box cb (codeCells lv2 wv2 (countsL (natL ls)) sv2) 90 ∈ LL := hm _ (by simp [codeIts])
  have i2 : It.sl wv2 2 (wordsV (natL ls)) ∈ LL := hm _ (by simp [codeIts])
  have i3 : It.sl sv2 1 (symsV (symsB (natL ls) 16)) ∈ LL := hm _ (by simp [codeIts])
  have hsl : (symsV A).length = A.length * 1 := by rw [symsV_len, Nat.mul_one]
  refine ⟨fun i H' => ∃ k : Nat, i = .int .i64 k ∧ k ≤ A.length ∧ Owns H1 H' (.thing (rdT rb ((A.drop k).flatMap (wordB (natL ls)) ++ r1)) :: .sl t 1 (symsV A) :: LL), fun i _ => match i with | .int _ x => (A.length - x).toNat | _ => 0, ⟨0, rfl, by omega, o⟩, ?_⟩
  clear o
  rintro _ _ H14 ⟨j, rfl, hj, o⟩
  refine (o.sl (v := t) (by repeat (first | exact List.mem_cons_self | apply List.mem_cons_of_mem))).len hsl (by decide) ?_
  rw [pLt_v]
  refine pCond_if (fun hc3 => ?_) (fun hc3 => ?_)
  · have hjA : j < A.length := by omega
    obtain ⟨m1, m2⟩ := hmem _ (List.getElem_mem hjA)
    have hwj := hwd _ m1 m2
    have hjl : A[j] < (natL ls).length := by rw [natL_len]; exact hwj.1
    rw [List.drop_eq_getElem_cons hjA, List.flatMap_cons, List.append_assoc] at o
    have hhit : hit (natL ls) (wordB (natL ls) A[j] ++ ((A.drop (j + 1)).flatMap (wordB (natL ls)) ++ r1)) A[j] := ⟨hjl, hwj.2, by rw [List.take_append_of_le_length (by rw [wordB_len]; omega), List.take_of_length_le (by rw [wordB_len]; omega)]⟩
    refine next_spec hokC.1 hokC.2 o (List.mem_cons_of_mem _ i1) (List.mem_cons_of_mem _ i2) (List.mem_cons_of_mem _ i3) (fun s H15 hh o => ?_) (fun hno H15 o => absurd hhit (hno _))
    have he := hit_one hokC.2 hle hh hhit
    rw [he, List.drop_append_of_le_length (by rw [wordB_len]; omega), List.drop_of_length_le (by rw [wordB_len]; omega), List.nil_append] at o
    refine pExtract_to rfl ?_
    refine pExtract_to rfl ?_
    rw [pNe_0, decide_eq_false (by simp)]
    refine pOr_false ?_
    refine (o.sl (v := t) (by repeat (first | exact List.mem_cons_self | apply List.mem_cons_of_mem))).at_ hsl (by decide) (by omega) (by omega) fun q hq => ?_
    refine hq.load (o.sl (v := t) (by repeat (first | exact List.mem_cons_self | apply List.mem_cons_of_mem))) (w := .int .i64 ((A[j] : Nat) : Int)) (by rw [Int.toNat_natCast, Nat.mul_one]; unfold symsV; rw [List.getElem?_map, List.getElem?_eq_getElem hjA]; rfl) ?_
    rw [pNe_0, decide_eq_false (by rw [he]; simp)]
    intro _
    rw [pCond_false, pAdd_v, w64 (by omega) (by omega)]
    exact ⟨⟨j + 1, rfl, by omega, o⟩, by show (_ : Int).toNat < (_ : Int).toNat; omega⟩
  · have hjA : j = A.length := by omega
    rw [hjA, List.drop_length, List.flatMap_nil, List.nil_append] at o
    refine rLeft_spec (rd_at o (by repeat (first | exact List.mem_cons_self | apply List.mem_cons_of_mem))) ?_
    rw [pLt_v, decide_eq_true (by omega)]
    exact ⟨rfl, hx1.trans o.ext⟩
end Go.Proofs.YtameljhbkedhjaaGreatDoor
