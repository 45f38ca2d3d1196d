/- The law StagePlays over heaps. -/
import Derived.Test.YtggianmcjncijaaLaw19
import Derived.Test.YtggianmcjncijaaPick
import Derived.Test.YtggianmcjncijaaVcRows
namespace Go.Proofs.Ytggianmcjncijaa
open Go Go.Vc Go.Proofs
set_option linter.unusedVariables false
set_option linter.unusedSimpArgs false
variable {H H0 : Heap} {R : Value → Heap → Prop} {v : Value} {L L' : List It} {b fb at_ n : Nat} {M : Dk} {C : List UInt8}
theorem Dsk.box {e : TypeId} {v : Value} {K : Value → Heap → Prop} (d : Dsk H0 H b M L) (hk : ∀ x H', Dsk H0 H' b M (.box x v.cells.toList e :: L) → K (ptr x) H') : pBox H e v K := by
  obtain ⟨lv, r, ov, lf, o, ok⟩ := d
  refine o.box fun x H1 o _ => ?_
  exact hk x H1 ⟨lv, r, ov, lf, o.arrT (by repeat (first | exact SelsT.refl | exact Sel.here | apply SelsT.cons | apply Sel.there)), ok⟩
theorem Dsk.swap (d : Dsk H0 H b M L) (s : SelsT L' L) : Dsk H0 H b M L' := by
  obtain ⟨lv, r, ov, lf, o, ok⟩ := d
  exact ⟨lv, r, ov, lf, o.perm ((((s.perm.cons _).cons _).cons _).cons _), ok⟩
theorem Dsk.bload {K : Value → Prop} {x f : Nat} {cs : List Value} {t : TypeId} {w : Value} (d : Dsk H0 H b M L) (hin : It.box x cs t ∈ L) (hw : cs[f]? = some w) (hk : K w) : pLoad H (.pointer (some ⟨x, f, none⟩)) K := by
  obtain ⟨lv, r, ov, lf, o, ok⟩ := d
  exact o.bload (mem4 _ hin) hw hk
theorem Dsk.bstoreN {K : Value → Heap → Prop} {x m : Nat} {cs vs : List Value} {t : TypeId} (d : Dsk H0 H b M L) (hin : It.box x cs t ∈ L) (hn : cs.length = m) (hv : vs.length = m) (hx : vs.all oneCell = true) (hr : Rep (.box x cs t) (.box x vs t) L L') (hk : ∀ H', Dsk H0 H' b M L' → K undef H') : pStoreN H m (ptr x) (.agg vs.toArray) K := by
  obtain ⟨lv, r, ov, lf, o, ok⟩ := d
  exact o.bstoreN (mem4 _ hin) hn hv hx (.there (.there (.there (.there hr)))) fun H1 o _ => hk H1 ⟨lv, r, ov, lf, o, ok⟩
theorem act4 {r : List Value} (hl : r.length = 4) (hf : FitAll [.int .i64, .string, .int .i64, .int .i64] fun j => r[j]?) : ∃ (w : Int) (s : List UInt8) (a m : Int), r = [.int .i64 w, str s, .int .i64 a, .int .i64 m] ∧ s.length ≤ maxLen ∧ (Lit.int .i64 a).wf = true ∧ (Lit.int .i64 m).wf = true := by
  match r, hl with
  | [x0, x1, x2, x3], _ =>
    obtain ⟨_, h0, w, rfl, k0⟩ := hf 0 _ rfl
    obtain ⟨_, h1, s, rfl, k1⟩ := hf 1 _ rfl
    obtain ⟨_, h2, a, rfl, k2⟩ := hf 2 _ rfl
    obtain ⟨_, h3, m, rfl, k3⟩ := hf 3 _ rfl
    simp at h0 h1 h2 h3
    exact ⟨w, s, a, m, by rw [h0, h1, h2, h3], k1, k2, k3⟩
theorem rows_load {n : Nat} {T : List (List Value)} {v p : Value} {k : Nat} {K : Value → Prop} (h : At v (k * n) p) (hs : Sl H v n T.flatten) (hT : ∀ r ∈ T, r.length = n) (hk : k < T.length) (hK : K (.agg T[k].toArray)) : pLoadN H n p K := by
  refine h.loadN hs (ws := T[k]) ?_ (hT _ (List.getElem_mem hk)) hK
  have e : T = T.take k ++ T[k] :: T.drop (k + 1) := by rw [← List.drop_eq_getElem_cons hk, List.take_append_drop]
  have hp : (T.take k).flatten.length = k * n := by
    rw [flat_len (T.take k) (fun x hx => hT x (List.mem_of_mem_take hx)), List.length_take, Nat.min_eq_left (by omega)]
  have hr : T[k].length = n := hT _ (List.getElem_mem hk)
  have e2 : T.flatten = (T.take k).flatten ++ (T[k] ++ (T.drop (k + 1)).flatten) := by
    conv => lhs; rw [e]
    rw [List.flatten_append, List.flatten_cons]
  rw [e2, List.drop_append_of_le_length (by omega), List.drop_of_length_le (by omega), List.nil_append, List.take_append_of_le_length (by omega), List.take_of_length_le (by omega)]
set_option maxHeartbeats 2000000 in
theorem StagePlays_law (sec : Int) (a0 : Option Addr) (len0 cap0 : Nat) (w0 : (Lit.int .i64 sec).wf = true) (w1 : StructRow [.int .i64, .string, .int .i64, .int .i64] H a0 len0 cap0) : CallsH Try.prog 3 #[.int .i64 sec, .slice a0 len0 cap0] H (LawOk H) := by
  obtain ⟨T, hTl, hTm, hT1, hT2, hS⟩ := w1.rows (by decide)
  have hmax : maxLen = 9223372036854775807 := rfl
  have hT1 : ∀ r ∈ T, r.length = 4 := hT1
  have hSl : T.flatten.length = T.length * 4 := flat_len T hT1
  refine lighterlaw19_StagePlays.vc _ _ _ _ ?_
  unfold lighterlaw19_StagePlays.res
  refine speaks19_spec fun H1 hx1 => ?_
  rw [pNot_v, Bool.not_true, pCond_false]
  have hS : Sl H1 (.slice a0 len0 cap0) 4 T.flatten := hS.ext hx1
  rw [pBits_v, and_low (k := 3) (m := 7) (n := sec) (by decide) rfl]
  obtain ⟨n, hn⟩ : ∃ n : Nat, 1 + sec % 2 ^ 3 = (n : Int) := ⟨(1 + sec % 2 ^ 3).toNat, by omega⟩
  have hn8 : 1 ≤ n ∧ n ≤ 8 := by omega
  rw [pAdd_v, hn, w64 (n := (n : Int)) (by omega) (by omega)]
  refine new_spec (n := 12) (Owns.start (H := H1)) (by decide) (by decide) fun H2 b d => ?_
  refine pExtract_to rfl ?_
  refine pExtract_to rfl ?_
  have h12 : (Dk.new 12).n = 12 := rfl
  refine FA.new0 (at_ := 2) (n := n) d hn8.1 (by omega) rfl rfl fun H3 fb f => ?_
  refine pExtract_to rfl ?_
  refine pExtract_to rfl ?_
  rw [pNe_0, decide_eq_false (by simp), pCond_false]
  refine ⟨fun fv wv i H' => ∃ (k : Nat) (C : List UInt8) (fb : Nat) (M : Dk) (L : List It), i = .int .i64 k ∧ k ≤ 40 ∧ fv = ptr fb ∧ wv = str C ∧ FA H1 H' b fb M 2 n C L, fun _ _ i _ => match i with | .int _ x => 100 - x.toNat | _ => 0, ⟨0, [], fb, _, _, rfl, by omega, rfl, rfl, f⟩, ?_⟩
  clear f d fb h12
  rintro _ _ _ _ H4 ⟨k, C, fb, M, L, rfl, hk, rfl, rfl, f⟩
  have hC := f.hC
  refine (hS.ext f.ext).len hSl (by decide) ?_
  rw [pLt_v]
  refine pAnd_if (d := decide ((k : Int) < 40)) (fun _ => by rw [pLt_v]; exact ⟨rfl, rfl⟩) ?_
  intro _
  refine pCond_b (fun hc => ?_) (fun _ => ⟨rfl, hx1.trans f.ext⟩)
  rw [Bool.and_eq_true, decide_eq_true_eq, decide_eq_true_eq] at hc
  have hkT : k < T.length := by omega
  obtain ⟨w, s, a, m, hr, hsm, wa, wm⟩ := act4 (hT1 _ (List.getElem_mem hkT)) (hT2 _ (List.getElem_mem hkT))
  have ha := wf64 wa
  have hm := wf64 wm
  refine (hS.ext f.ext).at_ hSl (by decide) (by omega) (by omega) fun p hp => ?_
  rw [Int.toNat_natCast] at hp
  refine rows_load hp (hS.ext f.ext) hT1 hkT ?_
  rw [hr]
  refine f.d.box fun x H5 d => ?_
  change Dsk H1 H5 b M (.box x [.int .i64 0, str [], .int .i64 0, .int .i64 0] _ :: _) at d
  refine d.bstoreN (by repeat (first | exact List.mem_cons_self | apply List.mem_cons_of_mem)) rfl rfl rfl (by repeat (first | exact Rep.here | apply Rep.there)) fun H6 d => ?_
  obtain ⟨ty, hty⟩ : ∃ ty, ty = 32 := ⟨_, rfl⟩
  have f : FA H1 H6 b fb M 2 n C (.box x [.int .i64 w, str s, .int .i64 a, .int .i64 m] ty :: L) := ⟨by rw [hty]; exact d.swap (by repeat (first | exact SelsT.refl | exact Sel.here | apply SelsT.cons | apply Sel.there)), f.hn, f.hC, f.ho, f.hf, f.im⟩
  clear d hty
  have hcell : ∀ {H' : Heap} {fb : Nat} {M : Dk} {C : List UInt8} {L' : List It} {K : Value → Prop} {i : Nat} {u : Value}, FA H1 H' b fb M 2 n C (.box x [.int .i64 w, str s, .int .i64 a, .int .i64 m] ty :: L') → [Value.int .i64 w, str s, .int .i64 a, .int .i64 m][i]? = some u → K u → pFieldAddr i (ptr x) fun y => pLoad H' y K := fun f hu hK => by
    rw [pFieldAddr_v, add_mk]
    exact f.d.bload (f := 0 + _) (by repeat (first | exact List.mem_cons_self | apply List.mem_cons_of_mem)) (by rw [Nat.zero_add]; exact hu) hK
  refine hcell (i := 1) f rfl ?_
  refine hcell (i := 1) f rfl ?_
  refine pLenS_to ?_
  rw [pMin_v, show min ((s.length : Nat) : Int) 200 = ((min s.length 200 : Nat) : Int) by omega]
  refine pSlStr_to (lo := 0) (hi := min s.length 200) (.inr ⟨rfl, rfl⟩) (.inl rfl) (by omega) (by omega) ?_
  rw [List.drop_zero, Nat.sub_zero]
  have hsl : (s.take (min s.length 200)).length ≤ 200 := by rw [List.length_take]; omega
  generalize s.take (min s.length 200) = t at *
  refine ⟨fun fv wv H' => ∃ (C : List UInt8) (fb : Nat) (M : Dk) (L : List It), fv = ptr fb ∧ wv = str C ∧ FA H1 H' b fb M 2 n C L, ?_, ?_⟩
  · clear hcell f hC
    rintro _ _ _ H7 ⟨C, fb, M, L, rfl, rfl, f⟩
    have hC := f.hC
    refine pLenS_to ?_
    refine f.read (fun hg => absurd (by omega) hg) fun _ _ _ _ H8 f => ?_
    refine pExtract_to rfl ?_
    refine pExtract_to rfl ?_
    rw [show (C.drop (0 : Int).toNat).take ((C.length : Nat) : Int).toNat = C by rw [Int.toNat_natCast]; show C.take C.length = C; rw [List.take_length]]
    rw [pNe_0, decide_eq_false (by simp)]
    refine pOr_false ?_
    refine pNe1_to ?_
    rw [decide_eq_false (by simp)]
    intro _
    refine pOr_false ?_
    refine f.len ?_
    refine pLenS_to ?_
    rw [pNe_0, decide_eq_false (by simp)]
    intro _
    refine pOr_false ?_
    refine f.room ?_
    rw [pMul_v, w64 (n := 64 * (n : Int)) (by omega) (by omega)]
    refine pLenS_to ?_
    rw [pSub_v, w64 (n := 64 * (n : Int) - (C.length : Int)) (by omega) (by omega), pNe_0, decide_eq_false (by omega)]
    intro _
    rw [pCond_false, pAdd_v, w64 (n := (k : Int) + 1) (by omega) (by omega)]
    exact ⟨⟨k + 1, C, fb, M, L, rfl, by omega, rfl, rfl, f⟩, by show 100 - ((k : Int) + 1).toNat < 100 - (k : Int).toNat; omega⟩
  refine hcell (i := 0) f rfl ?_
  have t1 := tmod_range (z := w) (n := 6) (by decide)
  rw [pRem_v]
  refine ⟨by decide, ?_⟩
  rw [pAdd_v, w64 (n := w.tmod 6 + 6) (by omega) (by omega), pRem_v]
  refine ⟨by decide, ?_⟩
  generalize (w.tmod 6 + 6).tmod 6 = c
  rw [pEq_0]
  refine pCond_if (fun _ => ?_) (fun _ => ?_)
  · -- Read
    refine hcell (i := 2) f rfl ?_
    refine hcell (i := 3) f rfl ?_
    refine f.read (fun hg => ?_) (fun g1 g2 g3 g4 H7 f => ?_)
    · refine pExtract_to rfl ?_
      refine pExtract_to rfl ?_
      refine hcell (i := 2) f rfl ?_
      refine hcell (i := 3) f rfl ?_
      refine read19_spec (by omega) ha (fun _ => ?_) (fun g1 g2 g3 g4 => absurd ⟨g1, g2, g3, g4⟩ hg)
      refine pExtract_to rfl ?_
      refine pExtract_to rfl ?_
      rw [pEq_0, decide_eq_false (by decide), pNe_2, decide_eq_false (by simp)]
      refine pOr_false ?_
      refine pNe1_to ?_
      rw [decide_eq_false (by simp)]
      intro _
      refine pOr_false ?_
      rw [pNot_v, Bool.not_false]
      refine pAnd_true ?_
      rw [pNe_0, decide_eq_false (by simp)]
      intro _
      intro _
      rw [pCond_false]
      exact ⟨C, fb, M, _, rfl, rfl, f⟩
    · refine pExtract_to rfl ?_
      refine pExtract_to rfl ?_
      refine hcell (i := 2) f rfl ?_
      refine hcell (i := 3) f rfl ?_
      refine read19_spec (by omega) ha (fun hg => absurd ⟨g1, g2, g3, g4⟩ hg) (fun _ _ _ _ => ?_)
      refine pExtract_to rfl ?_
      refine pExtract_to rfl ?_
      rw [pEq_0, decide_eq_true (show (0 : Int) = 0 from rfl), pNe_2, decide_eq_false (by simp)]
      refine pOr_false ?_
      refine pNe1_to ?_
      rw [decide_eq_false (by simp)]
      intro _
      refine pOr_false ?_
      rw [pNot_v, Bool.not_true, pAnd_false]
      intro _
      intro _
      rw [pCond_false]
      exact ⟨C, fb, M, _, rfl, rfl, f⟩
  rw [pEq_0]
  refine pCond_if (fun _ => ?_) (fun _ => ?_)
  · -- Cut
    refine hcell (i := 3) f rfl ?_
    refine cut_spec f.d (fun hg => ?_) (fun g1 g2 H7 d => ?_)
    · refine hcell (i := 3) f rfl ?_
      rw [pGe_v]
      refine pAnd_if (d := decide (m ≤ (C.length : Int))) (fun _ => hcell (i := 3) f rfl (pLenS_to (by rw [pLe_v]; exact ⟨rfl, rfl⟩))) ?_
      intro _
      rw [show (decide (0 ≤ m) && decide (m ≤ (C.length : Int))) = false by rw [← Bool.not_eq_true, Bool.and_eq_true, decide_eq_true_eq, decide_eq_true_eq]; exact hg]
      rw [pEq_0, decide_eq_false (by decide), pNe_2, decide_eq_false (by simp)]
      refine pOr_false ?_
      rw [pNot_v, Bool.not_false]
      refine pAnd_true ?_
      rw [pNe_0, decide_eq_false (by simp)]
      intro _
      intro _
      rw [pCond_false, pEq_0, decide_eq_false (by decide), pCond_false]
      exact ⟨C, fb, M, _, rfl, rfl, f⟩
    · obtain ⟨q, rfl⟩ : ∃ q : Nat, m = q := ⟨m.toNat, by omega⟩
      rw [Int.toNat_natCast] at d
      have hql : (C.take q).length = q := by rw [List.length_take]; omega
      have f2 : FA H1 H7 b fb M 2 n (C.take q) (.box x [.int .i64 w, str s, .int .i64 a, .int .i64 (q : Int)] ty :: L) := ⟨by rw [hql]; exact d, f.hn, by omega, f.ho, f.hf, by
        have := f.part (a := 0) (c := q) (by omega)
        rw [hql]
        simpa using this⟩
      refine hcell (i := 3) f2 rfl ?_
      rw [pGe_v]
      refine pAnd_if (d := decide ((q : Int) ≤ (C.length : Int))) (fun _ => hcell (i := 3) f2 rfl (pLenS_to (by rw [pLe_v]; exact ⟨rfl, rfl⟩))) ?_
      intro _
      rw [decide_eq_true g1, decide_eq_true g2, Bool.and_true, pEq_0, decide_eq_true (show (0 : Int) = 0 from rfl), pNe_2, decide_eq_false (by simp)]
      refine pOr_false ?_
      rw [pNot_v, Bool.not_true, pAnd_false]
      intro _
      intro _
      rw [pCond_false, pEq_0, decide_eq_true (show (0 : Int) = 0 from rfl), pCond_true]
      refine hcell (i := 3) f2 rfl ?_
      refine pSlStr_to (lo := 0) (hi := q) (.inr ⟨rfl, rfl⟩) (.inl rfl) (by omega) (by omega) ?_
      rw [List.drop_zero, Nat.sub_zero]
      exact ⟨C.take q, fb, M, _, rfl, rfl, f2⟩
  rw [pEq_0]
  refine pCond_if (fun _ => ?_) (fun _ => ?_)
  · -- Sync
    refine syncF_spec f.d fun H7 d => ?_
    have hsy : M.sync = (M.flush, 0) := by
      unfold Dk.sync
      rw [if_neg (by rw [f.ho]; decide), if_neg (by rw [f.hf]; simp)]
    rw [hsy] at d ⊢
    rw [pNe_0, decide_eq_false (by simp), pCond_false]
    exact ⟨C, fb, M.flush, _, rfl, rfl, ⟨d, f.hn, f.hC, f.ho, f.hf, f.im⟩⟩
  rw [pEq_0]
  refine pCond_if (fun _ => ?_) (fun _ => ?_)
  · -- New
    refine pLenS_to ?_
    refine FA.new (C := C) (at_ := 2) (n := n) f.d hn8.1 f.hn f.ho f.hf f.hC f.im fun H7 fb2 f2 => ?_
    refine pExtract_to rfl ?_
    refine pExtract_to rfl ?_
    rw [pNe_0, decide_eq_false (by simp), pCond_false]
    exact ⟨C, fb2, M, _, rfl, rfl, f2⟩
  · -- Append
    have hfin : ∀ {H' : Heap} {e : Int} {K : Heap → Prop}, (e = 15 ∧ (C.length : Int) + (t.length : Int) > 64 * (n : Int) ∨ e = 0 ∧ ¬ (C.length : Int) + (t.length : Int) > 64 * (n : Int)) → K H' →
        pLenS (str C) fun x72 =>
        pLenS (str t) fun x74 =>
        pAdd x72 x74 fun x75 =>
        pMul (.int .i64 64) (.int .i64 (n : Int)) fun x77 =>
        pGt x75 x77 fun x78 =>
        pEq 0 (.int .i64 e) (.int .i64 15) fun x81 =>
        pNe 2 x78 x81 fun x82 =>
        pOr x82 (fun J_40 =>
        pNot x78 fun x85 =>
        pAnd x85 (fun J_42 =>
        pNe 0 (.int .i64 e) (.int .i64 0) fun x88 =>
        J_42 x88 H') H' fun x89 H_43 => ∀ _ : Env,
        J_40 x89 H_43) H' fun x90 H_41 => ∀ _ : Env,
        pCond x90
        (LawOk H (.bool false) H_41)
        (K H_41) := by
      intro H' e K he hK
      refine pLenS_to ?_
      refine pLenS_to ?_
      rw [pAdd_v, w64 (n := (C.length : Int) + (t.length : Int)) (by omega) (by omega), pMul_v, w64 (n := 64 * (n : Int)) (by omega) (by omega), pGt_v, pEq_0]
      rcases he with ⟨rfl, hg⟩ | ⟨rfl, hg⟩
      · rw [decide_eq_true (show 64 * (n : Int) < (C.length : Int) + (t.length : Int) from hg), decide_eq_true (show (15 : Int) = 15 from rfl), pNe_2, decide_eq_false (by simp)]
        refine pOr_false ?_
        rw [pNot_v, Bool.not_true, pAnd_false]
        intro _
        intro _
        rw [pCond_false]
        exact hK
      · rw [decide_eq_false (show ¬ 64 * (n : Int) < (C.length : Int) + (t.length : Int) from hg), decide_eq_false (by decide), pNe_2, decide_eq_false (by simp)]
        refine pOr_false ?_
        rw [pNot_v, Bool.not_false]
        refine pAnd_true ?_
        rw [pNe_0, decide_eq_false (by simp)]
        intro _
        intro _
        rw [pCond_false]
        exact hK
    by_cases hfull : 64 * n - C.length < t.length
    · refine append_full f.d (by omega) f.hC hfull ?_
      refine hfin (.inl ⟨rfl, by omega⟩) ?_
      rw [pEq_0, decide_eq_false (by decide), pCond_false]
      exact ⟨C, fb, M, _, rfl, rfl, f⟩
    · refine f.append (by omega) fun H7 M7 f2 => ?_
      refine hfin (.inr ⟨rfl, by omega⟩) ?_
      rw [pEq_0, decide_eq_true (show (0 : Int) = 0 from rfl), pCond_true]
      refine pAdd_str (by omega) ?_
      exact ⟨C ++ t, fb, M7, _, rfl, rfl, f2⟩
end Go.Proofs.Ytggianmcjncijaa
