/- The law InflateCopies over heaps. -/
import Derived.Test.YtpnkoniomalcpaaDoorLaw07
import Derived.Test.YtpnkoniomalcpaaDoorInfA
import Derived.Test.YtpnkoniomalcpaaDoorWrT
import Derived.Test.YtpnkoniomalcpaaDoorPick
namespace Go.Proofs.YtpnkoniomalcpaaDoor
open Go Go.Vc Go.Proofs
set_option linter.unusedVariables false
set_option linter.unusedSimpArgs false
variable {H H0 : Heap} {R : Value → Heap → Prop}
theorem pieces_of : ∀ L : List (List Value), (∀ r ∈ L, r.length = 2) → (∀ r ∈ L, FitAll [.int .u64, .int .i64] fun j => r[j]?) → ∀ i, i < L.length → ∃ (v : Nat) (n : Int), L[i]? = some [.int .u64 (v : Int), .int .i64 n] ∧ v < 18446744073709551616 ∧ -9223372036854775808 ≤ n ∧ n ≤ 9223372036854775807 := by
  intro L h1 h2 i hi
  have hl := h1 L[i] (List.getElem_mem hi)
  have hf := h2 L[i] (List.getElem_mem hi)
  rw [List.getElem?_eq_getElem hi]
  generalize L[i] = r at *
  match r, hl with
  | [a, b], _ =>
    obtain ⟨_, g0, x0, rfl, k0⟩ := hf 0 _ rfl
    obtain ⟨_, g1, x1, rfl, k1⟩ := hf 1 _ rfl
    simp at g0 g1
    subst g0 g1
    have h0 := wfu64 k0
    have h1 := wf64 k1
    exact ⟨x0.toNat, x1, by rw [Int.toNat_of_nonneg h0.1], by omega, h1.1, h1.2⟩
theorem pSlStr01_to7 {K : Value → Prop} {l : List UInt8} {m : Nat} (hm : m ≤ l.length) (h : K (str (l.take m))) : pSlStr (str l) none (some (.int .i64 (m : Int))) K :=
  pSlStr_to (lo := 0) (.inr ⟨rfl, rfl⟩) (.inl rfl) (Nat.zero_le _) hm (by simpa using h)
theorem pSlStr10_to7 {K : Value → Prop} {l : List UInt8} {m : Nat} (hm : m ≤ l.length) (h : K (str (l.drop m))) : pSlStr (str l) (some (.int .i64 (m : Int))) none K :=
  pSlStr_to (hi := l.length) (.inl rfl) (.inr ⟨rfl, rfl⟩) hm (Nat.le_refl _) (by rw [List.take_of_length_le (by rw [List.length_drop]; omega)]; exact h)
theorem structRow_ext {ds : List TypeDesc} {H' : Heap} {a : Option Addr} {len cap : Nat} (h : StructRow ds H a len cap) (hx : Ext H H') : StructRow ds H' a len cap := by
  rcases h with h | ⟨x, h1, h2, h3, h4⟩
  · exact .inl h
  · exact .inr ⟨x, h1, h2, h3, fun i hi j d hd => by
      obtain ⟨v, hv, hk⟩ := h4 i hi j d hd
      exact ⟨v, cellAt_ext hx hv, hk⟩⟩
theorem stream_spec {a : Option Addr} {len cap : Nat} {more : List UInt8} (w1 : StructRow [.int .u64, .int .i64] H a len cap) (hm : more.length ≤ 9223372036854775807) (h : ∀ H' s, Ext H H' → s.length ≤ 1000 → R (str s) H') : CallsH Tryd.prog 26 #[.slice a len cap, str more] H R := by
  have hmax : maxLen = 9223372036854775807 := rfl
  obtain ⟨L, hLl, hlm, hL1, hL2, hS⟩ := w1.rows (by decide)
  change Sl H (.slice a len cap) 2 L.flatten at hS
  have hfl := flat_len L hL1
  refine lighterlaw07_stream.vc _ _ _ _ ?_
  unfold lighterlaw07_stream.res
  refine (Owns.start (H := H)).box fun b H1 o _ => ?_
  have o := wr_new o
  refine ⟨fun u H' => ∃ (i : Nat) (dv : Value) (B : List Bool), u = .int .i64 i ∧ i ≤ 150 ∧ i ≤ len ∧ B.length ≤ 32 * i ∧ Owns H H' [.thing (wrT b dv B)], fun u _ => match u with | .int _ i => (len - i).toNat | _ => 0, ⟨0, _, [], rfl, by omega, by omega, by simp, o⟩, ?_⟩
  rintro _ _ H2 ⟨i, dv, B, rfl, hi, hil, hB, o⟩
  have hS2 := hS.ext o.ext
  refine hS2.len (n := len) (by rw [hfl, hLl]; rfl) (by decide) ?_
  rw [pLt_v]
  refine pAnd_if (d := decide ((i : Int) < 150)) (fun _ => ?_) ?_
  · rw [pLt_v]; exact ⟨rfl, rfl⟩
  intro _
  refine pCond_b (fun hc => ?_) (fun hc => ?_)
  · rw [Bool.and_eq_true, decide_eq_true_eq, decide_eq_true_eq] at hc
    obtain ⟨v, n, hr, hv, hn0, hn1⟩ := pieces_of L hL1 hL2 i (by omega)
    have c0 : L.flatten[i * 2 + 0]? = some (.int .u64 (v : Int)) := by
      have := flat_at L i _ hL1 hr
      have h2 := congrArg (fun l => l[0]?) this
      simp only [List.getElem?_take, List.getElem?_drop] at h2
      simpa using h2
    have c1 : L.flatten[i * 2 + 1]? = some (.int .i64 n) := by
      have := flat_at L i _ hL1 hr
      have h2 := congrArg (fun l => l[1]?) this
      simp only [List.getElem?_take, List.getElem?_drop] at h2
      simpa using h2
    refine hS2.at_ (n := len) (by rw [hfl, hLl]; rfl) (by decide) (by omega) (by omega) fun p hp => ?_
    rw [Int.toNat_natCast] at hp
    refine hp.field fun p0 hp0 => ?_
    refine hp0.load hS2 c0 ?_
    refine hS2.at_ (n := len) (by rw [hfl, hLl]; rfl) (by decide) (by omega) (by omega) fun p hp => ?_
    rw [Int.toNat_natCast] at hp
    refine hp.field fun p1 hp1 => ?_
    refine hp1.load hS2 c1 ?_
    rw [pBits_v, and_low (k := 5) (m := 31) (by decide) rfl, pAdd_v, w64 (by omega) (by omega)]
    obtain ⟨k, hk⟩ : ∃ k : Nat, 1 + n % 2 ^ 5 = (k : Int) := ⟨(1 + n % 2 ^ 5).toNat, by omega⟩
    rw [hk]
    refine wWrite_spec (v := v) (k := k) hv (by omega) (by omega) (wr_at o (by repeat (first | exact List.mem_cons_self | apply List.mem_cons_of_mem))) (by omega) fun H3 dv' w c => ?_
    have o := owns_wr o w c Rep.here
    rw [pAdd_v, w64 (by omega) (by omega)]
    refine ⟨⟨i + 1, dv', _, rfl, by omega, by omega, ?_, o⟩, by show (_ : Int).toNat < (_ : Int).toNat; omega⟩
    rw [List.length_append, bitsN_len]; omega
  · refine wAlign_spec (wr_at o (by repeat (first | exact List.mem_cons_self | apply List.mem_cons_of_mem))) (by omega) fun H3 dv3 w c => ?_
    have o := owns_wr o w c Rep.here
    have hp := padB_len B
    refine pLenS_to ?_
    rw [pMin_v, show min (more.length : Int) 40 = ((min more.length 40 : Nat) : Int) by omega]
    refine pSlStr01_to7 (m := min more.length 40) (Nat.min_le_left _ _) ?_
    refine wAdd_spec (wr_at o (by repeat (first | exact List.mem_cons_self | apply List.mem_cons_of_mem))) (by rw [List.length_take]; omega) fun H4 dv4 w c => ?_
    have o := owns_wr o w c Rep.here
    have hp2 := padB_len (padB B)
    refine wDrain_spec (wr_at o (by repeat (first | exact List.mem_cons_self | apply List.mem_cons_of_mem))) fun H5 dv5 w c => ?_
    have o := owns_wr o w c Rep.here
    refine h H5 _ o.ext ?_
    have hl := toBytes_len ((padB (padB B) ++ toBits (more.take (min more.length 40))).length / 8) _ rfl
    rw [hl, List.length_append, toBits_len, List.length_take]
    omega
theorem InflateCopies_law (a : Option Addr) (len cap : Nat) (more : List UInt8) (cut : Int) (hG : Reads H ⟨0, 0, none⟩ ordV) (w0 : StructRow [.int .u64, .int .i64] H a len cap) (w1 : (ByteArray.mk more.toArray).size ≤ maxLen) (w2 : (Lit.int .i64 cut).wf = true) : CallsH Tryd.prog 6 #[.slice a len cap, str more, .int .i64 cut] H (LawOk H) := by
  have hml : more.length ≤ 9223372036854775807 := w1
  have hcut := wf64 w2
  refine lighterlaw07_InflateCopies.vc _ _ _ _ _ ?_
  unfold lighterlaw07_InflateCopies.res
  refine speaks07 hG fun H1 hx1 => ?_
  rw [pNot_v, Bool.not_true, pCond_false]
  refine stream_spec (structRow_ext w0 hx1) hml fun H2 s hx2 hs => ?_
  refine pLenS_to ?_
  have hr1 := tmod_range (z := cut) (n := (s.length : Int) + 1) (by omega)
  rw [pAdd_v, w64 (by omega) (by omega), pRem_v]
  refine ⟨by omega, ?_⟩
  refine pLenS_to ?_
  rw [pAdd_v, w64 (by omega) (by omega), pAdd_v, w64 (by omega) (by omega)]
  refine pLenS_to ?_
  rw [pAdd_v, w64 (by omega) (by omega), pRem_v]
  refine ⟨by omega, ?_⟩
  generalize cut.tmod ((s.length : Int) + 1) = z at *
  have hr2 := tmod_range (z := z + (s.length : Int) + 1) (n := (s.length : Int) + 1) (by omega)
  have hr3 : 0 ≤ (z + (s.length : Int) + 1).tmod ((s.length : Int) + 1) := Int.tmod_nonneg _ (by omega)
  obtain ⟨k, hk⟩ : ∃ k : Nat, (z + (s.length : Int) + 1).tmod ((s.length : Int) + 1) = (k : Int) := ⟨_, (Int.toNat_of_nonneg hr3).symm⟩
  rw [hk] at hr2 hr3 ⊢
  have hG2 : Reads H2 ⟨0, 0, none⟩ ordV := (hG.ext hx1).ext hx2
  have hx02 := hx1.trans hx2
  refine new_any (Owns.start (H := H2)) fun H3 b A => ?_
  refine pSlStr01_to7 (m := k) (by omega) ?_
  refine feed_any hG2 A trivial (by simp; omega) (by simp; omega) fun H4 M1 A => ?_
  refine pExtract_to rfl ?_
  refine pExtract_to rfl ?_
  have i1 : (feedR ⟨.hd, [], []⟩ 0 (s.take k)).2.1.W = (feedR ⟨.hd, [], []⟩ 0 (s.take k)).1 ∧ (feedR ⟨.hd, [], []⟩ 0 (s.take k)).2.1.W.length + 258 * (feedR ⟨.hd, [], []⟩ 0 (s.take k)).2.1.B.length ≤ 258 * (8 * k) ∧ leftOk (feedR ⟨.hd, [], []⟩ 0 (s.take k)).2.1.st := by
    have := run_inv _ (DM.add ⟨.hd, [], []⟩ (toBits (s.take k))) (Nat.lt_succ_self _) trivial
    unfold feedR
    rw [if_pos rfl]
    refine ⟨this.1, ?_, this.2.2⟩
    have h2 := this.2.1
    have hB : (DM.add ⟨.hd, [], []⟩ (toBits (s.take k))).B.length = 8 * k := by show ([] ++ toBits (s.take k)).length = _; rw [List.nil_append, toBits_len, List.length_take]; omega
    have hW : (DM.add ⟨.hd, [], []⟩ (toBits (s.take k))).W.length = 0 := rfl
    rw [hB, hW] at h2
    omega
  have f1 : fedR 0 0 (s.take k) ≤ 1000 := by unfold fedR; rw [if_pos rfl, List.length_take]; omega
  generalize fedR 0 0 (s.take k) = fd1 at *
  generalize feedR ⟨.hd, [], []⟩ 0 (s.take k) = r1 at *
  obtain ⟨o1, D1, e1⟩ := r1
  dsimp only at i1 A ⊢
  refine copy_any A fun H5 c S C back => ?_
  refine pSlStr10_to7 (m := k) (by omega) ?_
  have hsd : (s.drop k).length = s.length - k := List.length_drop ..
  refine feed_any hG2 C i1.2.2 (by omega) (by omega) fun H6 M2 C => ?_
  refine pExtract_to rfl ?_
  refine pExtract_to rfl ?_
  have i2 : (feedR D1 e1 (s.drop k)).2.1.W = D1.W ++ (feedR D1 e1 (s.drop k)).1 ∧ (feedR D1 e1 (s.drop k)).2.1.W.length + 258 * (feedR D1 e1 (s.drop k)).2.1.B.length ≤ 258 * (8 * s.length) ∧ leftOk (feedR D1 e1 (s.drop k)).2.1.st := by
    have := run_inv _ (D1.add (toBits (s.drop k))) (Nat.lt_succ_self _) i1.2.2
    unfold feedR
    split
    · refine ⟨this.1, ?_, this.2.2⟩
      have h2 := this.2.1
      have hB : (D1.add (toBits (s.drop k))).B.length = D1.B.length + 8 * (s.length - k) := by show (D1.B ++ toBits (s.drop k)).length = _; rw [List.length_append, toBits_len, hsd]
      have hW : (D1.add (toBits (s.drop k))).W.length = D1.W.length := rfl
      rw [hB, hW] at h2
      omega
    · exact ⟨by simp, by dsimp only; omega, i1.2.2⟩
  have hfe : e1 ≠ 0 → (feedR D1 e1 (s.drop k)).2.2 = e1 ∧ (feedR D1 e1 (s.drop k)).1 = [] := by
    intro he; unfold feedR; rw [if_neg he]; exact ⟨rfl, rfl⟩
  have f2 : fedR fd1 e1 (s.drop k) ≤ 2000 := by unfold fedR; split <;> omega
  generalize hfd2 : fedR fd1 e1 (s.drop k) = fd2 at *
  generalize hr2' : feedR D1 e1 (s.drop k) = r2 at *
  obtain ⟨o2, D2, e2⟩ := r2
  dsimp only at i2 C hfe ⊢
  obtain ⟨Tc, oQ, parkC⟩ := C.parkT
  have oB : Owns H2 H6 (.thing S :: (.thing Tc :: (M2 ++ (M1 ++ [])))) := oQ.perm ((List.Perm.swap ..).trans (List.Perm.cons _ List.perm_middle.symm))
  have B6 := back H2 H6 _ (fun i hi => List.mem_cons_of_mem _ (List.mem_append_right _ hi)) oB
  refine told_any B6 ?_
  refine pLenS_to ?_
  rw [pNe_0, decide_eq_false (by rw [i1.1]; simp)]
  refine pOr_false ?_
  refine told_any C ?_
  refine pLenS_to ?_
  refine pLenS_to ?_
  rw [pAdd_v, w64 (by rw [i1.1] at i1; omega) (by have := congrArg List.length i2.1; rw [List.length_append] at this; rw [← i1.1]; omega), pNe_0, decide_eq_false (by have := congrArg List.length i2.1; rw [List.length_append, i1.1] at this; omega)]
  intro _
  rw [pCond_false]
  refine pSlStr10_to7 (m := k) (by omega) ?_
  refine feed_any hG2 B6 i1.2.2 (by omega) (by omega) fun H7 M3 B7 => ?_
  refine pExtract_to rfl ?_
  refine pExtract_to rfl ?_
  rw [hr2', hfd2] at B7
  rw [hr2']
  dsimp only at B7 ⊢
  obtain ⟨Tb, oP2, -⟩ := B7.park
  have oC : Owns H2 H7 (.thing Tc :: (.thing Tb :: (M3 ++ (M2 ++ (M1 ++ []))))) := oP2.perm ((List.Perm.swap ..).trans (List.Perm.cons _ List.perm_middle.symm))
  have C7 := parkC H2 H7 _ (fun i hi => List.mem_cons_of_mem _ (List.mem_append_right _ hi)) oC
  rw [pNe_0, decide_eq_false (by simp)]
  refine pOr_false ?_
  refine pNe1_to ?_
  rw [decide_eq_false (by simp)]
  intro _
  refine pOr_false ?_
  refine done_any B7 ?_
  refine done_any C7 ?_
  rw [pNe_2, decide_eq_false (by simp)]
  intro _
  refine pOr_false ?_
  refine used_any B7 (by omega) (by omega) fun H8 hx8 => ?_
  have B8 := B7.more hx8
  have C8 := C7.more hx8
  refine used_any C8 (by omega) (by omega) fun H9 hx9 => ?_
  rw [pNe_0, decide_eq_false (by simp)]
  intro _
  refine pOr_false ?_
  have B9 := B8.more hx9
  have C9 := C8.more hx9
  refine rest_any B9 fun H10 hx10 => ?_
  refine rest_any (C9.more hx10) fun H11 hx11 => ?_
  have hxx : Ext H H11 := hx02.trans ((((B7.ext.trans hx8).trans hx9).trans hx10).trans hx11)
  refine pNe1_to ?_
  rw [decide_eq_false (by simp)]
  intro _
  rw [pCond_false, pEq_0]
  have hend : pAnd (.bool true) (fun J_30 => CallsH Tryd.prog 27 #[(.pointer none)] H11 fun x120 H_32 => pEq 3 x120 (.pointer none) fun x121 => J_30 x121 H_32) H11 fun x122 H_31 => ∀ _ : Env,
      pAnd x122 (fun J_33 => CallsH Tryd.prog 28 #[(.pointer none)] H_31 fun x125 H_35 => pEq 0 x125 (.int .i64 0) fun x126 => J_33 x126 H_35) H_31 fun x127 H_34 => ∀ _ : Env, LawOk H x127 H_34 := by
    refine pAnd_true ?_
    refine copy_nil ?_
    rw [pEq_3n]
    intro _
    refine pAnd_true ?_
    refine told_nil ?_
    rw [pEq_0, decide_eq_true (p := ((0 : Nat) : Int) = 0) rfl]
    intro _
    exact ⟨rfl, hxx⟩
  by_cases he : e1 = 0
  · rw [decide_eq_true he, pOr_true]
    intro _
    exact hend
  · rw [decide_eq_false he]
    obtain ⟨rfl, rfl⟩ := hfe he
    refine pOr_false ?_
    rw [pEq_0, decide_eq_true (p := e2 = e2) rfl]
    refine pAnd_true ?_
    refine pEq1_to ?_
    rw [decide_eq_true rfl]
    intro _ _
    exact hend
end Go.Proofs.YtpnkoniomalcpaaDoor
