/- Feed, and what else can be asked of a decoder. -/
import Derived.Test.YtpnkoniomalcpaaDoorInf7
namespace Go.Proofs.YtpnkoniomalcpaaDoor
open Go Go.Vc Go.Proofs
set_option linter.unusedVariables false
set_option linter.unusedSimpArgs false
variable {H H0 : Heap} {R : Value → Heap → Prop} {v fed : Value} {B : List Bool} {L M : List It} {b : Nat} {q : List Value} {W out : List UInt8}
theorem copyN_split7 (k : Nat) (all : List UInt8) (d : Nat) : copyN k all d = all ++ (copyN k all d).drop all.length := by
  have := copyN_take k all d
  conv => lhs; rw [← List.take_append_drop all.length (copyN k all d), this]
theorem matchM_small {di : List Int} {s : Nat} {p : Nat × Nat} {C : List Bool} (hs : 257 ≤ s) (h : matchM di s B = .ok p C) : p.1 ≤ 258 := by
  unfold matchM at h
  split at h
  · cases h
  · obtain ⟨f1, f2, f3, f4⟩ := lens_facts ⟨s - 257, by omega⟩
    have es : (257 : Int) + ((s - 257 : Nat) : Int) = (s : Int) := by omega
    dsimp only at f1 f2 f3 f4
    rw [es] at f1 f2 f3 f4
    cases hx : needM (lenOf (s : Int)).2.toNat B with
    | er e => rw [hx] at h; cases h
    | ok x C1 =>
      rw [hx] at h
      obtain ⟨g1, g2, g3⟩ := needM_ok hx
      have hlt := numB_lt (B.take (lenOf (s : Int)).2.toNat)
      rw [List.length_take, Nat.min_eq_left g1, ← g2] at hlt
      dsimp only [Rs.bind] at h
      cases hk : nextM di C1 with
      | er e => rw [hk] at h; cases h
      | ok k C2 =>
        rw [hk] at h
        dsimp only at h
        split at h
        · cases h
        · cases hy : needM (distOf (k : Int)).2.toNat C2 with
          | er e => rw [hy] at h; cases h
          | ok y C3 =>
            rw [hy] at h
            cases h
            dsimp only
            omega
theorem headM_left {st : St} {C : List Bool} (h : headM B = .ok st C) : leftOk st := by
  have : (headM B).All leftOk := by
    unfold headM
    refine Rs.All.bind fun v B => ?_
    split
    · refine Rs.All.bind fun x B => ?_
      split
      · exact all_er
      · exact all_ok (by show x % 65536 ≤ 65535; omega)
    split
    · exact all_ok trivial
    split
    · exact Rs.All.bind fun p B => all_ok trivial
    · exact all_er
  rw [h] at this
  exact this.h
theorem endM_W (l : Bool) (B : List Bool) (W : List UInt8) : (endM l B W).W = W ∧ leftOk (endM l B W).st ∧ (endM l B W).B.length ≤ B.length := by
  have := alB_len B
  cases l
  · exact ⟨rfl, trivial, Nat.le_refl _⟩
  · exact ⟨rfl, trivial, this.1⟩
theorem step_inv {D D' : DM} {o : List UInt8} (hl : leftOk D.st) (h : stepM D = .go D' o ∨ stepM D = .wait D' o) : D'.W = D.W ++ o ∧ D'.W.length + 258 * D'.B.length ≤ D.W.length + 258 * D.B.length ∧ leftOk D'.st := by
  obtain ⟨st, B, W⟩ := D
  unfold stepM at h
  cases st with
  | hd =>
    dsimp only at h
    split at h
    · rename_i st C hh
      rcases h with h | h <;> cases h
      have := headM_three hh
      exact ⟨by simp, by dsimp only; omega, headM_left hh⟩
    · unfold SR.of at h
      split at h <;> rcases h with h | h <;> cases h
      exact ⟨by simp, Nat.le_refl _, trivial⟩
  | cp left last =>
    dsimp only at h hl ⊢
    have hal := alB_len B
    split at h
    · rcases h with h | h <;> cases h
      refine ⟨rfl, ?_, ?_⟩
      · dsimp only
        rw [List.length_append, toBytes_k (k := min left ((alB B).length / 8)) (by rw [List.length_take]; omega), List.length_drop]
        omega
      · show left - _ ≤ 65535
        have : left ≤ 65535 := hl
        omega
    · rcases h with h | h <;> cases h
      obtain ⟨e1, e2, e3⟩ := endM_W last ((alB B).drop (8 * left)) (W ++ toBytes ((alB B).take (8 * left)))
      refine ⟨e1, ?_, e2⟩
      rw [e1, List.length_append, toBytes_k (k := left) (by rw [List.length_take]; omega)]
      rw [List.length_drop] at e3
      omega
  | tl sy di last =>
    dsimp only at h ⊢
    split at h
    · unfold SR.of at h
      split at h <;> rcases h with h | h <;> cases h
      exact ⟨by simp, Nat.le_refl _, trivial⟩
    · rename_i s C hn
      have h1 := nextM_one hn
      split at h
      · rcases h with h | h <;> cases h
        obtain ⟨e1, e2, e3⟩ := endM_W last C W
        exact ⟨by rw [e1]; simp, by rw [e1]; omega, e2⟩
      split at h
      · rcases h with h | h <;> cases h
        exact ⟨rfl, by dsimp only; rw [List.length_append, List.length_singleton]; omega, trivial⟩
      · split at h
        · unfold SR.of at h
          split at h <;> rcases h with h | h <;> cases h
          exact ⟨by simp, Nat.le_refl _, trivial⟩
        · rename_i p E hm
          have h2 := matchM_less (di := di) (s := s) (B := C)
          rw [hm] at h2
          have h2 : E.length ≤ C.length := h2.h
          have h3 := matchM_small (by omega) hm
          split at h <;> rcases h with h | h <;> cases h
          exact ⟨copyN_split7 _ _ _, by dsimp only; rw [copyN_len]; omega, trivial⟩
  | dn =>
    rcases h with h | h <;> cases h
    exact ⟨by simp, Nat.le_refl _, trivial⟩
/-- a loop's measure, off the heap -/
def heapMeas (b : Nat) (H : Heap) : Nat := match H[b]? with
  | some (.cells cs _ _) => (match cs[0]?, cs[2]?, cs[7]? with
    | some (Value.string s), some (Value.int _ n), some (Value.int _ st) => 2 * (8 * (bys s).length + n.toNat) + (if st = 1 then 1 else 0)
    | _, _, _ => 0)
  | _ => 0
theorem heapMeas_dc {s : St} (d : Dc H0 H b q B W out L) (hq : StQ L fed s q) : heapMeas b H = meas ⟨s, B, W⟩ := by
  obtain ⟨st, last, left, sy, di, rfl, -, -, -, -, h6⟩ := hq
  obtain ⟨bp, bv, hbp, hbv, rv, ring, hr, hs, o⟩ := d
  obtain ⟨rest, acc, n, h1, h2, -⟩ := o.thing (T := rdP b _ 71 B) (by repeat (first | exact List.mem_cons_self | apply List.mem_cons_of_mem))
  unfold heapMeas meas
  have hlen : B.length = n + 8 * rest.length := by rw [h2, List.length_append, bitsN_len, toBits_len]
  rw [h1]
  cases s with
  | hd => subst h6; simp only [List.getElem?_toArray, List.getElem?_cons_zero, List.getElem?_cons_succ, bys_mk, Int.toNat_natCast]; rw [if_neg (show ¬ ((0 : Nat) : Int) = 1 by decide)]; omega
  | cp n l => obtain ⟨rfl, -⟩ := h6; simp only [List.getElem?_toArray, List.getElem?_cons_zero, List.getElem?_cons_succ, bys_mk, Int.toNat_natCast]; rw [if_pos (show ((1 : Nat) : Int) = 1 by decide)]; omega
  | tl zs zd l => obtain ⟨rfl, -⟩ := h6; simp only [List.getElem?_toArray, List.getElem?_cons_zero, List.getElem?_cons_succ, bys_mk, Int.toNat_natCast]; rw [if_neg (show ¬ ((2 : Nat) : Int) = 1 by decide)]; omega
  | dn => subst h6; simp only [List.getElem?_toArray, List.getElem?_cons_zero, List.getElem?_cons_succ, bys_mk, Int.toNat_natCast]; rw [if_neg (show ¬ ((3 : Nat) : Int) = 1 by decide)]; omega
/-- a decoder at rest, that goes on -/
def Rest7 (H0 H : Heap) (b : Nat) (D : DM) (fed : Nat) (L : List It) : Prop := ∃ q, StQ L (i64 fed) D.st q ∧ Idle H0 H b q D.B D.W L
/-- a decoder that met what is wrong -/
def Dead7 (H0 H : Heap) (b : Nat) (W : List UInt8) (fed : Nat) (e : Int) (L : List It) : Prop := ∃ (n : Nat) (last left sy di : Value) (C : List Bool), n < 3 ∧ Idle H0 H b [i64 n, last, left, sy, di, i64 fed, .int .i64 e] C W L ∧ oneCell last = true ∧ oneCell left = true ∧ oneCell sy = true ∧ oneCell di = true
theorem Idle.pl {K : Value → Prop} {g : Nat} {x : Value} (d : Idle H0 H b q B W L) (h7 : 7 ≤ g) (hx : q[g - 7]? = some x) (hk : K x) : pLoad H (at_ b g) K := by
  obtain ⟨bp, bv, hbp, hbv, w⟩ := d
  refine w.pl (x := x) (by omega) ?_ hk
  obtain ⟨j, rfl⟩ : ∃ j, g = j + 7 := ⟨g - 7, by omega⟩
  simp only [Nat.add_sub_cancel] at hx
  rw [show j + 7 - 5 = j + 1 + 1 by omega]
  exact hx
theorem Idle.ps {K : Value → Heap → Prop} {g : Nat} {x : Value} (d : Idle H0 H b q B W L) (h7 : 7 ≤ g) (hg : g - 7 < q.length) (hx : oneCell x = true) (hk : ∀ H', Idle H0 H' b (q.set (g - 7) x) B W L → K undef H') : pStore H (at_ b g) x K := by
  obtain ⟨bp, bv, hbp, hbv, w⟩ := d
  refine w.ps (by omega) (by simp; omega) hx fun H' w => hk H' ⟨bp, bv, hbp, hbv, ?_⟩
  obtain ⟨j, rfl⟩ : ∃ j, g = j + 7 := ⟨g - 7, by omega⟩
  rw [show j + 7 - 5 = j + 1 + 1 by omega] at w
  exact w
theorem Idle.rd (d : Idle H0 H b q B W L) : ∃ (post : List Value) (rv : Value) (ring : List UInt8), Owns H0 H (rdI b post 71 B :: .sl rv 1 (ring.map byteV) :: L) ∧ ∀ H' C M, Owns H0 H' (rdI b post 71 C :: .sl rv 1 (ring.map byteV) :: M) → Idle H0 H' b q C W M := by
  obtain ⟨bp, bv, hbp, hbv, rv, ring, hr, hs, o⟩ := d
  exact ⟨_, rv, ring, o, fun H' C M o => ⟨bp, bv, hbp, hbv, rv, ring, hr, hs, o⟩⟩
theorem new_spec7 (o : Owns H0 H L) (h : ∀ H' b, Rest7 H0 H' b ⟨.hd, [], []⟩ 0 L → R (at_ b 0) H') : CallsH Tryd.prog 9 #[] H R := by
  refine inflate_New.vc _ _ ?_
  unfold inflate_New.res
  rw [pBuild_n]
  refine pBox_ext fun H1 s1 e1 b1 => ?_
  have o1 := o.nil1
  have o1 := o1.add (i := rdI H.size [.slice none 0 0, i64 0, .pointer none, .slice none 0 0, i64 0, .bool false, .int .i64 0, .pointer none, .pointer none, i64 0, .int .i64 0] 71 []) e1 ⟨[], 0, 0, b1, rfl, by decide, by decide, by decide⟩ (fun k hk => by
    have hk : k = H.size := hk
    omega)
  refine h H1 H.size ⟨[i64 0, .bool false, .int .i64 0, .pointer none, .pointer none, i64 0, .int .i64 0], ⟨_, _, _, _, _, rfl, rfl, rfl, rfl, rfl, rfl⟩, .pointer none, .slice none 0 0, rfl, rfl, .slice none 0 0, [], ⟨rfl, fun i hi => by simp at hi⟩, by simp, o1⟩
theorem feed_nil {s : List UInt8} (h : R (.tuple #[str [], .int .i64 1]) H) : CallsH Tryd.prog 8 #[.pointer none, str s] H R := by
  refine inflate_Decoder_Feed.vc _ _ _ _ ?_
  unfold inflate_Decoder_Feed.res
  rw [pEq_3n, pCond_true]
  exact h
theorem feed_dead {s : List UInt8} {fed : Nat} {e : Int} (he : e ≠ 0) (d : Dead7 H0 H b W fed e L) (h : R (.tuple #[str [], .int .i64 e]) H) : CallsH Tryd.prog 8 #[at_ b 0, str s] H R := by
  obtain ⟨n, last, left, sy, di, C, hn, d, -⟩ := d
  refine inflate_Decoder_Feed.vc _ _ _ _ ?_
  unfold inflate_Decoder_Feed.res
  rw [pEq_3s, pCond_false, pNil_v, pFieldAddr_v, add_mk]
  refine d.pl (g := 0 + 13) (x := .int .i64 e) (by decide) rfl ?_
  refine ne_er he ?_
  rw [pCond_true, pNil_v, pFieldAddr_v, add_mk]
  exact d.pl (g := 0 + 13) (x := .int .i64 e) (by decide) rfl h
theorem feed_spec7 {s : List UInt8} {D : DM} {fed : Nat} (hG : Reads H0 ⟨0, 0, none⟩ ordV) (r : Rest7 H0 H b D fed L) (hl : leftOk D.st) (hsz : D.W.length + 258 * (D.B.length + 8 * s.length) ≤ 1000000000000) (hfed : fed + s.length ≤ 1000000000000)
    (hok : ∀ o D' H' M, run (D.add (toBits s)) = (o, D', 0) → Rest7 H0 H' b D' (fed + s.length) (M ++ L) → R (.tuple #[str o, .int .i64 0]) H')
    (her : ∀ o D' e H' M, run (D.add (toBits s)) = (o, D', e) → e ≠ 0 → Dead7 H0 H' b D'.W (fed + s.length) e (M ++ L) → R (.tuple #[str o, .int .i64 e]) H') : CallsH Tryd.prog 8 #[at_ b 0, str s] H R := by
  obtain ⟨q, hq, d⟩ := r
  have hq7 := hq.len
  have hq0 := hq
  obtain ⟨st, last, left, sy, di, rfl, q2, q3, q4, q5, q6⟩ := hq0
  refine inflate_Decoder_Feed.vc _ _ _ _ ?_
  unfold inflate_Decoder_Feed.res
  rw [pEq_3s, pCond_false, pNil_v, pFieldAddr_v, add_mk]
  refine d.pl (g := 0 + 13) (x := .int .i64 0) (by decide) rfl ?_
  refine ne_ok ?_
  rw [pCond_false, pNil_v, pFieldAddr_v, add_mk]
  obtain ⟨post, rv, ring, o, back⟩ := d.rd
  refine rFeed_spec (rdP_rd o (by repeat (first | exact List.mem_cons_self | apply List.mem_cons_of_mem))) (by omega) fun H1 w c => ?_
  have d := back H1 _ L (o.rd w c Rep.here)
  rw [pNil_v, pFieldAddr_v, add_mk]
  refine d.pl (g := 0 + 12) (x := i64 fed) (by decide) rfl ?_
  refine pLenS_to ?_
  rw [pAdd_v, show (fed : Int) + (s.length : Int) = ((fed + s.length : Nat) : Int) by omega, w64 (by omega) (by omega), pNil_v, pFieldAddr_v, add_mk]
  refine d.ps (g := 0 + 12) (by decide) (by simp) rfl fun H2 d => ?_
  rw [pNil_v, pFieldAddr_v, add_mk]
  refine breset7 rfl d fun H3 d => ?_
  have hqs : StQ L (i64 (fed + s.length)) D.st [st, last, left, sy, di, i64 (fed + s.length), .int .i64 0] := ⟨_, _, _, _, _, rfl, q2, q3, q4, q5, q6⟩
  change Dc H0 H3 b [st, last, left, sy, di, i64 (fed + s.length), .int .i64 0] (D.B ++ toBits s) D.W [] L at d
  generalize hfd : fed + s.length = fd at *
  generalize hrun : run (D.add (toBits s)) = T at *
  have hsz0 : D.W.length + 258 * (D.B ++ toBits s).length ≤ 1000000000000 := by rw [List.length_append, toBits_len]; exact hsz
  refine ⟨fun H' => ∃ o D' M q', T = (o, D', 0) ∧ o.length ≤ 1000000000000 ∧ Dc H0 H' b q' D'.B D'.W o (M ++ L) ∧ StQ (M ++ L) (i64 fd) D'.st q', ?_, ?_⟩
  · rintro _ H4 ⟨o, D', M, q', hT, hol, d, hq'⟩
    rw [pNil_v, pFieldAddr_v, add_mk]
    refine bstring7 hq'.len (by omega) d fun H5 d => ?_
    exact hok o D' H5 M hT ⟨q', hq', d⟩
  refine ⟨fun H' => ∃ o D1 M q', T = (o ++ (run D1).1, (run D1).2) ∧ Dc H0 H' b q' D1.B D1.W o (M ++ L) ∧ StQ (M ++ L) (i64 fd) D1.st q' ∧ leftOk D1.st ∧ D1.W.length + 258 * D1.B.length ≤ 1000000000000 ∧ o.length ≤ D1.W.length, heapMeas b, ⟨[], D.add (toBits s), [], _, by rw [hrun, List.nil_append], d, hqs, hl, hsz0, by simp⟩, ?_⟩
  rintro _ H4 ⟨o, D1, M, q', hT, d, hq', hl1, hsz1, ho⟩
  have hm := heapMeas_dc d hq'
  rw [pNil_v, pFieldAddr_v, add_mk]
  obtain ⟨stv, last1, left1, sy1, di1, rfl, p2, p3, p4, p5, p6⟩ := id hq'
  refine d.pl (g := 0 + 7) (x := stv) (by decide) rfl ?_
  cases hdn : D1.st.isDn with
  | true =>
    have hdn' : D1.st = .dn := by cases hs : D1.st <;> rw [hs] at hdn <;> first | rfl | cases hdn
    rw [hdn'] at p6
    subst p6
    rw [pNe_0, decide_eq_false (by decide), pCond_false]
    refine ⟨o, D1, M, _, ?_, by omega, d, hq'⟩
    rw [hT, run_dn hdn, List.append_nil]
  | false =>
    have hst : ∃ n : Nat, stv = i64 n ∧ n < 3 := by
      obtain ⟨n, _, _, _, _, he, hn, _⟩ := hq'.any hdn
      exact ⟨n, (List.cons.inj he).1, hn⟩
    obtain ⟨n, rfl, hn⟩ := hst
    rw [pNe_0, decide_eq_true (by omega), pCond_true]
    refine step_spec7 hG hq' hdn hl1 hsz1 ho d (fun D2 o2 H5 M2 q2 hs d2 hq2 => ?_) (fun D2 o2 H5 q2 hs d2 hq2 => ?_) (fun e H5 C q2 hs h0 h2 d2 hq2 => ?_)
    · rw [pEq_0, decide_eq_false (by decide), pCond_false]
      refine ne_ok ?_
      rw [pCond_false]
      have hinv := step_inv hl1 (.inl hs)
      have hm2 := heapMeas_dc d2 hq2
      refine ⟨⟨o ++ o2, D2, M2 ++ M, q2, by rw [hT, run_go hs, List.append_assoc], by rw [List.append_assoc]; exact d2, by rw [List.append_assoc]; exact hq2, hinv.2.2, by omega, by rw [hinv.1, List.length_append, List.length_append]; omega⟩, ?_⟩
      rw [hm, hm2]
      exact step_meas hs
    · rw [pEq_0, decide_eq_true rfl, pCond_true]
      have hinv := step_inv hl1 (.inr hs)
      exact ⟨o ++ o2, D2, M, q2, by rw [hT, run_wait hdn hs], by have := congrArg List.length hinv.1; rw [List.length_append] at this; rw [List.length_append]; omega, d2, hq2⟩
    · rw [pEq_0, decide_eq_false h2, pCond_false]
      refine ne_er h0 ?_
      rw [pCond_true, pNil_v, pFieldAddr_v, add_mk]
      obtain ⟨n', last2, left2, sy2, di2, rfl, g1, g2, g3, g4, g5⟩ := hq2
      refine d2.ps (g := 0 + 13) (by decide) (by simp) rfl fun H6 d2 => ?_
      rw [pNil_v, pFieldAddr_v, add_mk]
      refine bstring7 rfl (by omega) d2 fun H7 d2 => ?_
      exact her o D1 e H7 M (by rw [hT, run_bad hdn hs, List.append_nil]) h0 ⟨n', last2, left2, sy2, di2, C, g1, d2, g2, g3, g4, g5⟩
end Go.Proofs.YtpnkoniomalcpaaDoor
