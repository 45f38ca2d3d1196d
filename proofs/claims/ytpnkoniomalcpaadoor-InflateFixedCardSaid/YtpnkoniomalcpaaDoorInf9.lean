/- What can be asked of a decoder; All; Copy. -/
import Derived.Test.YtpnkoniomalcpaaDoorInf8
namespace Go.Proofs.YtpnkoniomalcpaaDoor
open Go Go.Vc Go.Proofs
set_option linter.unusedVariables false
set_option linter.unusedSimpArgs false
variable {H H0 : Heap} {R : Value → Heap → Prop} {v : Value} {B : List Bool} {L M : List It} {b fed : Nat} {q : List Value} {W out : List UInt8} {D : DM}
theorem done_nil (h : R (.bool false) H) : CallsH Tryd.prog 11 #[.pointer none] H R := by
  refine inflate_Decoder_Done.vc _ _ _ ?_
  unfold inflate_Decoder_Done.res
  rw [pNe_3n, pAnd_false]
  intro _
  exact h
theorem done_spec7 (r : Rest7 H0 H b D fed L) (h : R (.bool D.st.isDn) H) : CallsH Tryd.prog 11 #[at_ b 0] H R := by
  obtain ⟨q, hq, d⟩ := r
  refine inflate_Decoder_Done.vc _ _ _ ?_
  unfold inflate_Decoder_Done.res
  rw [pNe_3s]
  refine pAnd_true ?_
  rw [pNil_v, pFieldAddr_v, add_mk]
  obtain ⟨st, last, left, sy, di, rfl, -, -, -, -, h6⟩ := hq
  refine d.pl (g := 0 + 7) (x := st) (by decide) rfl ?_
  cases hs : D.st with
  | hd => rw [hs] at h h6; subst h6; rw [pEq_0]; intro _; exact h
  | cp n l => rw [hs] at h h6; obtain ⟨rfl, -⟩ := h6; rw [pEq_0]; intro _; exact h
  | tl zs zd l => rw [hs] at h h6; obtain ⟨rfl, -⟩ := h6; rw [pEq_0]; intro _; exact h
  | dn => rw [hs] at h h6; subst h6; rw [pEq_0]; intro _; exact h
theorem done_dead {e : Int} (d : Dead7 H0 H b W fed e L) (h : R (.bool false) H) : CallsH Tryd.prog 11 #[at_ b 0] H R := by
  obtain ⟨n, last, left, sy, di, C, hn, d, -⟩ := d
  refine inflate_Decoder_Done.vc _ _ _ ?_
  unfold inflate_Decoder_Done.res
  rw [pNe_3s]
  refine pAnd_true ?_
  rw [pNil_v, pFieldAddr_v, add_mk]
  refine d.pl (g := 0 + 7) (x := i64 n) (by decide) rfl ?_
  rw [pEq_0, decide_eq_false (by omega)]
  intro _
  exact h
theorem told_nil (h : R (i64 0) H) : CallsH Tryd.prog 28 #[.pointer none] H R := by
  refine inflate_Decoder_Told.vc _ _ _ ?_
  unfold inflate_Decoder_Told.res
  rw [pEq_3n, pCond_true]
  exact h
theorem told_idle (d : Idle H0 H b q B W L) (h : R (i64 W.length) H) : CallsH Tryd.prog 28 #[at_ b 0] H R := by
  obtain ⟨bp, bv, _, _, w⟩ := d
  refine inflate_Decoder_Told.vc _ _ _ ?_
  unfold inflate_Decoder_Told.res
  rw [pEq_3s, pCond_false, pNil_v, pFieldAddr_v, add_mk]
  exact wtotal7 w h
theorem rest_nil (h : R (str []) H) : CallsH Tryd.prog 12 #[.pointer none] H R := by
  refine inflate_Decoder_Rest.vc _ _ _ ?_
  unfold inflate_Decoder_Rest.res
  refine done_nil ?_
  rw [pNot_v, Bool.not_false, pCond_true]
  exact h
theorem rest_no (r : Rest7 H0 H b D fed L) (hn : D.st.isDn = false) (h : R (str []) H) : CallsH Tryd.prog 12 #[at_ b 0] H R := by
  refine inflate_Decoder_Rest.vc _ _ _ ?_
  unfold inflate_Decoder_Rest.res
  refine done_spec7 r ?_
  rw [hn, pNot_v, Bool.not_false, pCond_true]
  exact h
theorem rest_dead {e : Int} (d : Dead7 H0 H b W fed e L) (h : R (str []) H) : CallsH Tryd.prog 12 #[at_ b 0] H R := by
  refine inflate_Decoder_Rest.vc _ _ _ ?_
  unfold inflate_Decoder_Rest.res
  refine done_dead d ?_
  rw [pNot_v, Bool.not_false, pCond_true]
  exact h
theorem Rest7.more {H' : Heap} (r : Rest7 H0 H b D fed L) (hx : Ext H H') : Rest7 H0 H' b D fed L := by
  obtain ⟨q, hq, d⟩ := r
  obtain ⟨post, rv, ring, o, back⟩ := d.rd
  exact ⟨q, hq, back H' _ L (o.more hx)⟩
theorem rest_spec7 (r : Rest7 H0 H b D fed L) (hn : D.st.isDn = true) (h : ∀ H', Ext H H' → R (str (toBytes ((alB D.B).take (8 * (D.B.length / 8))))) H') : CallsH Tryd.prog 12 #[at_ b 0] H R := by
  obtain ⟨q, hq, d⟩ := id r
  obtain ⟨post, rv, ring, o, back⟩ := d.rd
  refine inflate_Decoder_Rest.vc _ _ _ ?_
  unfold inflate_Decoder_Rest.res
  refine done_spec7 r ?_
  rw [hn, pNot_v, Bool.not_true, pCond_false, pNil_v, pFieldAddr_v, add_mk]
  refine o.p3 (by repeat (first | exact List.mem_cons_self | apply List.mem_cons_of_mem)) fun rest acc n hB hacc hn40 hbig => ?_
  refine (Owns.start (H := H)).box fun c H1 oc hc => ?_
  change Owns H H1 [.box c [str [], .int .u64 0, .int .i64 0] _] at oc
  refine oc.bstoreN (vs := [str rest, u64 acc, i64 n]) (by repeat (first | exact List.mem_cons_self | apply List.mem_cons_of_mem)) rfl rfl rfl (by repeat (first | exact Rep.here | apply Rep.there)) fun H2 oc _ => ?_
  have hrd : Rd H2 c 0 D.B := ⟨⟨rest, acc, n, Sub.all (oc.blk (by repeat (first | exact List.mem_cons_self | apply List.mem_cons_of_mem))), hB, hacc, hn40⟩, hbig⟩
  have hx2 := oc.ext
  refine rLeft_spec hrd ?_
  rw [pQuo_v]
  refine ⟨by decide, ?_⟩
  rw [Int.tdiv_eq_ediv_of_nonneg (by omega), show ((D.B.length : Nat) : Int) / 8 = ((D.B.length / 8 : Nat) : Int) by omega, w64 (by omega) (by omega)]
  refine rTake_spec (by omega) hrd fun H3 k hk w cg => ?_
  rw [Int.toNat_natCast] at hk
  have hk2 : k = D.B.length / 8 := by omega
  subst hk2
  refine h H3 ?_
  have := cg.ext hx2 (by omega) (fun _ h => h.elim)
  exact this.1
theorem used_nil (h : R (i64 0) H) : CallsH Tryd.prog 13 #[.pointer none] H R := by
  refine inflate_Decoder_Used.vc _ _ _ ?_
  unfold inflate_Decoder_Used.res
  refine done_nil ?_
  rw [pNot_v, Bool.not_false, pCond_true]
  exact h
theorem used_no (r : Rest7 H0 H b D fed L) (hn : D.st.isDn = false) (h : R (i64 0) H) : CallsH Tryd.prog 13 #[at_ b 0] H R := by
  refine inflate_Decoder_Used.vc _ _ _ ?_
  unfold inflate_Decoder_Used.res
  refine done_spec7 r ?_
  rw [hn, pNot_v, Bool.not_false, pCond_true]
  exact h
theorem used_dead {e : Int} (d : Dead7 H0 H b W fed e L) (h : R (i64 0) H) : CallsH Tryd.prog 13 #[at_ b 0] H R := by
  refine inflate_Decoder_Used.vc _ _ _ ?_
  unfold inflate_Decoder_Used.res
  refine done_dead d ?_
  rw [pNot_v, Bool.not_false, pCond_true]
  exact h
theorem used_spec7 (r : Rest7 H0 H b D fed L) (hn : D.st.isDn = true) (hf : fed ≤ 1000000000000) (hB : D.B.length ≤ 8000000000000) (h : ∀ H', Ext H H' → R (.int .i64 ((fed : Int) - ((toBytes ((alB D.B).take (8 * (D.B.length / 8)))).length : Int))) H') : CallsH Tryd.prog 13 #[at_ b 0] H R := by
  obtain ⟨q, hq, d⟩ := id r
  refine inflate_Decoder_Used.vc _ _ _ ?_
  unfold inflate_Decoder_Used.res
  refine done_spec7 r ?_
  rw [hn, pNot_v, Bool.not_true, pCond_false, pNil_v, pFieldAddr_v, add_mk]
  obtain ⟨st, last, left, sy, di, rfl, q2, q3, q4, q5, q6⟩ := id hq
  refine d.pl (g := 0 + 12) (x := i64 fed) (by decide) rfl ?_
  refine rest_spec7 r hn fun H1 hx => ?_
  have r1 := r.more hx
  obtain ⟨q', hq', d'⟩ := r1
  obtain ⟨st', last', left', sy', di', rfl, -⟩ := hq'
  refine ⟨d'.pl (g := 0 + 12) (x := i64 fed) (by decide) rfl rfl, ?_⟩
  refine pLenS_to ?_
  have hl : (toBytes ((alB D.B).take (8 * (D.B.length / 8)))).length ≤ D.B.length := by
    have := toBytes_len (((alB D.B).take (8 * (D.B.length / 8))).length / 8) ((alB D.B).take (8 * (D.B.length / 8))) rfl
    rw [this, List.length_take]; omega
  rw [pSub_v, w64 (by omega) (by omega)]
  exact h H1 hx
/-! ### Copy -/
theorem copy_nil (h : R (.pointer none) H) : CallsH Tryd.prog 27 #[.pointer none] H R := by
  refine inflate_Decoder_Copy.vc _ _ _ ?_
  unfold inflate_Decoder_Copy.res
  rw [pEq_3n, pCond_true]
  exact h
/-- the things of a decoder at rest -/
def Parked (b : Nat) (q : List Value) (B : List Bool) (W : List UInt8) (P : List It) : Prop := ∀ (H0 H : Heap) (N : List It), Owns H0 H (P ++ N) → Idle H0 H b q B W N
theorem Idle.park (d : Idle H0 H b q B W L) : ∃ P, Parked b q B W P ∧ Owns H0 H (P ++ L) := by
  obtain ⟨bp, bv, hbp, hbv, rv, ring, hr, hs, o⟩ := d
  exact ⟨[_, _], fun H0 H N o => ⟨bp, bv, hbp, hbv, rv, ring, hr, hs, o⟩, o⟩
theorem copy_spec7 {x0 x1 x2 x3 x4 x5 x6 : Value} (h0 : oneCell x0 = true) (h1 : oneCell x1 = true) (h2 : oneCell x2 = true) (h3 : oneCell x3 = true) (h4 : oneCell x4 = true) (h5 : oneCell x5 = true) (h6 : oneCell x6 = true)
    (d : Idle H0 H b [x0, x1, x2, x3, x4, x5, x6] B W L)
    (h : ∀ H' c P Q, Parked b [x0, x1, x2, x3, x4, x5, x6] B W P → Parked c [x0, x1, x2, x3, x4, x5, x6] B W Q → Owns H0 H' (Q ++ (P ++ L)) → R (at_ c 0) H') : CallsH Tryd.prog 27 #[at_ b 0] H R := by
  have dd := d
  obtain ⟨bp, bv, hbp, hbv, w⟩ := d
  obtain ⟨rv, ring, hr, hs, o⟩ := id w
  obtain ⟨rest, acc, n, hb1, hB, hacc, hn40, hbig⟩ := o.thing (T := rdP b (rv :: i64 W.length :: bp :: bv :: [x0, x1, x2, x3, x4, x5, x6]) 71 B) (by repeat (first | exact List.mem_cons_self | apply List.mem_cons_of_mem))
  have hbH := lt_of_blk hb1
  have hR : ∀ {H' : Heap}, H'[b]? = H[b]? → Reads H' ⟨b, 0, none⟩ [str rest, u64 acc, i64 n] := fun {H'} he i x hx => by
    have hs := (Sub.all (he.trans hb1)).part (x := []) (y := [str rest, u64 acc, i64 n]) (z := rv :: i64 W.length :: bp :: bv :: [x0, x1, x2, x3, x4, x5, x6])
    rw [add_mk]
    have := hs.cell (k := i) hx
    simpa using this
  refine inflate_Decoder_Copy.vc _ _ _ ?_
  unfold inflate_Decoder_Copy.res
  rw [pEq_3s, pCond_false, pNil_v, pFieldAddr_v, add_mk]
  refine (hR rfl).loadN (n := 3) rfl ?_
  rw [pNil_v, pFieldAddr_v, add_mk, pNil_v, pFieldAddr_v, add_mk]
  refine dd.pl (g := 0 + 7) (x := x0) (by decide) rfl ?_
  rw [pNil_v, pFieldAddr_v, add_mk]
  refine dd.pl (g := 0 + 8) (x := x1) (by decide) rfl ?_
  rw [pNil_v, pFieldAddr_v, add_mk]
  refine dd.pl (g := 0 + 9) (x := x2) (by decide) rfl ?_
  rw [pNil_v, pFieldAddr_v, add_mk]
  refine dd.pl (g := 0 + 10) (x := x3) (by decide) rfl ?_
  rw [pNil_v, pFieldAddr_v, add_mk]
  refine dd.pl (g := 0 + 11) (x := x4) (by decide) rfl ?_
  rw [pNil_v, pFieldAddr_v, add_mk]
  refine dd.pl (g := 0 + 12) (x := x5) (by decide) rfl ?_
  rw [pNil_v, pFieldAddr_v, add_mk]
  refine dd.pl (g := 0 + 13) (x := x6) (by decide) rfl ?_
  refine wcopied7 w fun H1 c rv2 ring2 hr2 hs2 w e1 => ?_
  have dd : Idle H0 H1 b [x0, x1, x2, x3, x4, x5, x6] B W _ := ⟨bp, bv, hbp, hbv, w⟩
  refine ⟨(hR (e1.get b hbH)).loadN (n := 3) rfl rfl, dd.pl (g := 0 + 7) (x := x0) (by decide) rfl rfl, dd.pl (g := 0 + 8) (x := x1) (by decide) rfl rfl, dd.pl (g := 0 + 9) (x := x2) (by decide) rfl rfl, dd.pl (g := 0 + 10) (x := x3) (by decide) rfl rfl, dd.pl (g := 0 + 11) (x := x4) (by decide) rfl rfl, dd.pl (g := 0 + 12) (x := x5) (by decide) rfl rfl, dd.pl (g := 0 + 13) (x := x6) (by decide) rfl rfl, ?_⟩
  obtain ⟨rv3, ring3, hr3, hs3, o⟩ := w
  rw [pNil_v]
  refine o.bloadN (b := c) (n := 2) (by repeat (first | exact List.mem_cons_self | apply List.mem_cons_of_mem)) rfl ?_
  have hrv2 : oneCell rv2 = true := (o.sl (v := rv2) (by repeat (first | exact List.mem_cons_self | apply List.mem_cons_of_mem))).one
  have hbld : ∀ K' : Value → Prop, K' (.agg #[str rest, u64 acc, i64 n, rv2, i64 W.length, .pointer none, .slice none 0 0, x0, x1, x2, x3, x4, x5, x6]) →
      pBuild [(str []), (.int .u64 0), (.int .i64 0), (.slice none 0 0), (.int .i64 0), (.pointer none), (.slice none 0 0), (.int .i64 0), (.bool false), (.int .i64 0), (.pointer none), (.pointer none), (.int .i64 0), (.int .i64 0)] [(0, 3, .agg #[str rest, u64 acc, i64 n]), (3, 2, .agg [rv2, i64 W.length].toArray), (7, 1, x0), (8, 1, x1), (9, 1, x2), (10, 1, x3), (11, 1, x4), (12, 1, x5), (13, 1, x6)] K' := by
    intro K' hK
    rw [pBuild_c]
    refine ⟨rfl, by decide, ?_⟩
    rw [pBuild_c]
    refine ⟨rfl, by simp [putL_cons, putL_nil, Value.cells], ?_⟩
    refine pBuild_one h0 (by simp [putL_cons, putL_nil, Value.cells]) ?_
    refine pBuild_one h1 (by simp [putL_cons, putL_nil, Value.cells]) ?_
    refine pBuild_one h2 (by simp [putL_cons, putL_nil, Value.cells]) ?_
    refine pBuild_one h3 (by simp [putL_cons, putL_nil, Value.cells]) ?_
    refine pBuild_one h4 (by simp [putL_cons, putL_nil, Value.cells]) ?_
    refine pBuild_one h5 (by simp [putL_cons, putL_nil, Value.cells]) ?_
    refine pBuild_one h6 (by simp [putL_cons, putL_nil, Value.cells]) ?_
    rw [pBuild_n]
    exact hK
  refine hbld _ ?_
  refine pBox_ext fun H2 s2 e2 b2 => ?_
  have o2 := o.add (i := rdI H1.size (rv2 :: i64 W.length :: .pointer none :: .slice none 0 0 :: [x0, x1, x2, x3, x4, x5, x6]) 71 B) e2 ⟨rest, acc, n, b2, hB, hacc, hn40, hbig⟩ (fun k hk => by
    have hk : k = H1.size := hk
    omega)
  refine h H2 H1.size [rdI b (rv3 :: i64 W.length :: bp :: bv :: [x0, x1, x2, x3, x4, x5, x6]) 71 B, .sl rv3 1 (ring3.map byteV)] [rdI H1.size (rv2 :: i64 W.length :: .pointer none :: .slice none 0 0 :: [x0, x1, x2, x3, x4, x5, x6]) 71 B, .sl rv2 1 (ring2.map byteV)] (fun H0 H N o => ⟨bp, bv, hbp, hbv, rv3, ring3, hr3, hs3, o⟩) (fun H0 H N o => ⟨.pointer none, .slice none 0 0, rfl, rfl, rv2, ring2, hr2, hs2, o⟩) ?_
  have o3 : Owns H0 H2 (.box c [rv2, i64 W.length] 64 :: rdI H1.size (rv2 :: i64 W.length :: .pointer none :: .slice none 0 0 :: [x0, x1, x2, x3, x4, x5, x6]) 71 B :: .sl rv2 1 (ring2.map byteV) :: rdI b (rv3 :: i64 W.length :: bp :: bv :: [x0, x1, x2, x3, x4, x5, x6]) 71 B :: .sl rv3 1 (ring3.map byteV) :: L) := o2.arrT (by repeat (first | exact SelsT.refl | exact Sel.here | apply SelsT.cons | apply Sel.there))
  exact o3.pick (List.sublist_cons_self _ _)
/-! ### All -/
theorem all_spec7 {s : List UInt8} (hG : Reads H0 ⟨0, 0, none⟩ ordV) (o : Owns H0 H L) (hs : s.length ≤ 100000000)
    (hdn : ∀ o D' H', run ⟨.hd, toBits s, []⟩ = (o, D', 0) → D'.st.isDn = true → Ext H0 H' → R (.tuple #[str o, str (toBytes ((alB D'.B).take (8 * (D'.B.length / 8)))), .int .i64 0]) H')
    (hmore : ∀ o D' H', run ⟨.hd, toBits s, []⟩ = (o, D', 0) → D'.st.isDn = false → Ext H0 H' → R (.tuple #[str [], str [], .int .i64 2]) H')
    (her : ∀ o D' e H', run ⟨.hd, toBits s, []⟩ = (o, D', e) → e ≠ 0 → Ext H0 H' → R (.tuple #[str [], str [], .int .i64 e]) H') : CallsH Tryd.prog 10 #[str s] H R := by
  refine inflate_All.vc _ _ _ ?_
  unfold inflate_All.res
  refine new_spec7 o fun H1 b r => ?_
  refine feed_spec7 hG r trivial (by simp; omega) (by omega) (fun o D' H2 M hr r => ?_) (fun o D' e H2 M hr he d => ?_)
  · refine pExtract_to rfl ?_
    refine pExtract_to rfl ?_
    refine ne_ok ?_
    rw [pCond_false]
    refine done_spec7 r ?_
    have hx : Ext H0 H2 := by obtain ⟨q, _, bp, bv, _, _, rv, ring, _, _, o⟩ := r; exact o.ext
    cases hd : D'.st.isDn with
    | true =>
      rw [pNot_v, Bool.not_true, pCond_false]
      exact rest_spec7 r hd fun H3 hx3 => hdn o D' H3 hr hd (hx.trans hx3)
    | false =>
      rw [pNot_v, Bool.not_false, pCond_true]
      exact hmore o D' H2 hr hd hx
  · refine pExtract_to rfl ?_
    refine pExtract_to rfl ?_
    refine ne_er he ?_
    rw [pCond_true]
    have hx : Ext H0 H2 := by obtain ⟨_, _, _, _, _, _, _, ⟨bp, bv, _, _, rv, ring, _, _, o⟩, _⟩ := d; exact o.ext
    exact her o D' e H2 hr he hx
end Go.Proofs.YtpnkoniomalcpaaDoor
