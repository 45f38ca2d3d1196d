/- The law LzCuts over heaps. -/
import Derived.Test.YtfmbgnchedhneaaLaw05b
import Derived.Test.YtfmbgnchedhneaaCutLz
import Derived.Test.YtfmbgnchedhneaaVcRow
namespace Go.Proofs.Ytfmbgnchedhneaa
open Go Go.Vc Go.Proofs
set_option linter.unusedVariables false
set_option linter.unusedSimpArgs false
variable {H H0 : Heap} {R : Value → Heap → Prop} {v lv : Value} {L : List It}
theorem copyN_add : ∀ (m k : Nat) (b : List UInt8) (d : Nat), copyN (m + k) b d = copyN k (copyN m b d) d
  | 0, k, b, d => by rw [Nat.zero_add]; rfl
  | m + 1, k, b, d => by
    rw [show m + 1 + k = (m + k) + 1 by omega, copyN, copyN_add m k, copyN]
theorem expandF_app : ∀ (a c : List Tok) (b : List UInt8), expandF (a ++ c) b = (expandF a b).bind (expandF c)
  | [], c, b => rfl
  | t :: a, c, b => by
    show expandF (t :: (a ++ c)) b = _
    unfold expandF
    split
    · exact expandF_app a c _
    · rfl
theorem expandF_len : ∀ (a : List Tok) (b x : List UInt8), expandF a b = some x → x.take b.length = b ∧ (x.length : Int) = b.length + sizeL a
  | [], b, x, h => by
    unfold expandF at h
    cases h
    exact ⟨List.take_length, by show (b.length : Int) = b.length + 0; omega⟩
  | t :: a, b, x, h => by
    unfold expandF at h
    split at h
    · rename_i hc
      obtain ⟨h1, h2⟩ := expandF_len a _ x h
      have hg := goodK_facts hc.1
      have hl := copyN_len t.n.toNat (if t.n = 0 then b ++ [t.b] else b) t.d.toNat
      have hp := copyN_take t.n.toNat (if t.n = 0 then b ++ [t.b] else b) t.d.toNat
      have hb : (copyN t.n.toNat (if t.n = 0 then b ++ [t.b] else b) t.d.toNat).take b.length = b := by
        by_cases h0 : t.n = 0
        · rw [if_pos h0] at hp ⊢
          have := congrArg (List.take b.length) hp
          rw [List.take_take, List.length_append, Nat.min_eq_left (by omega), List.take_left] at this
          exact this
        · rw [if_neg h0] at hp ⊢
          exact hp
      refine ⟨?_, ?_⟩
      · have := congrArg (List.take b.length) h1
        rw [List.take_take, hb, hl, Nat.min_eq_left (by split <;> simp <;> omega)] at this
        exact this
      · rw [h2, hl]
        show _ = (b.length : Int) + (tsz t + sizeL a)
        unfold tsz
        by_cases h0 : t.n = 0
        · rw [if_pos h0, List.length_append, h0]; simp; omega
        · rw [if_neg h0]; omega
    · cases h
theorem expandF_match {t : Tok} {r : List Tok} {b : List UInt8} (h1 : goodK t = true) (h2 : t.d ≤ (b.length : Int)) (h3 : t.n ≠ 0) : expandF (t :: r) b = expandF r (copyN t.n.toNat b t.d.toNat) := by
  rw [expandF, if_pos ⟨h1, h2⟩, if_neg h3]
theorem expandF_far {t : Tok} {r : List Tok} {b : List UInt8} (h2 : ¬ t.d ≤ (b.length : Int)) : expandF (t :: r) b = none := by
  rw [expandF, if_neg (fun g => h2 g.2)]
theorem good_split {t : Tok} {q : Int} (hg : goodK t = true) (h0 : 0 < q) (h1 : q < tsz t) : (goodK ⟨0, q, t.d⟩ = true ↔ 3 ≤ q) ∧ (goodK ⟨0, t.n - q, t.d⟩ = true ↔ 3 ≤ t.n - q) := by
  have hf := goodK_facts hg
  have h2 : tsz t = t.n ∧ 3 ≤ t.n ∧ t.n ≤ 258 ∧ 1 ≤ t.d ∧ t.d ≤ 32768 := by unfold tsz at h1 ⊢; omega
  have key : ∀ m : Int, 0 < m → m ≤ 258 → (goodK ⟨0, m, t.d⟩ = true ↔ 3 ≤ m) := fun m hm hm2 => by
    unfold goodK
    show (if m = 0 then decide (t.d = 0) else decide ((((0 : UInt8).toNat : Nat) : Int) = 0 ∧ 3 ≤ m ∧ m ≤ 258 ∧ 1 ≤ t.d ∧ t.d ≤ 32768)) = true ↔ _
    rw [if_neg (by omega), decide_eq_true_eq]
    constructor
    · intro g; exact g.2.1
    · intro g; exact ⟨rfl, g, by omega, h2.2.2.2.1, h2.2.2.2.2⟩
  exact ⟨key q h0 (by omega), key (t.n - q) (by omega) (by omega)⟩
/-- n is within a match, near one of its ends -/
def nearF : List Tok → Int → Bool
  | [], _ => false
  | t :: r, n => if 0 < n ∧ n < tsz t then decide (n < 3) || decide (tsz t - n < 3) else nearF r (n - tsz t)
theorem cutG_none : ∀ (l pre : List Tok) (n : Int), (∀ t ∈ l, goodK t = true) → 0 ≤ n → n ≤ sizeL l → cutG pre l n = none → nearF l n = true
  | [], pre, n, _, _, _, h => by unfold cutG at h; cases h
  | t :: r, pre, n, hg, h0, h1, h => by
    have hgt := hg t (by simp)
    have ht := tsz_good hgt
    have hf := goodK_facts hgt
    unfold cutG at h
    by_cases hn : n = 0
    · rw [if_pos hn] at h; cases h
    rw [if_neg hn] at h
    unfold nearF
    by_cases hn2 : n < tsz t
    · rw [if_pos hn2] at h
      rw [if_pos ⟨by omega, hn2⟩]
      have hs := good_split hgt (show 0 < n by omega) hn2
      have hts : tsz t = t.n := by unfold tsz at hn2 ⊢; omega
      rw [Bool.or_eq_true, decide_eq_true_eq, decide_eq_true_eq, hts]
      by_cases ha : 3 ≤ n
      · by_cases hb : 3 ≤ t.n - n
        · rw [hs.1.2 ha, hs.2.2 hb] at h
          cases h
        · right; omega
      · left; omega
    · rw [if_neg hn2] at h
      rw [if_neg (by omega)]
      have h1 : n ≤ tsz t + sizeL r := h1
      exact cutG_none r _ _ (fun u hu => hg u (by simp [hu])) (by omega) (by omega) h
theorem cutG_some : ∀ (l pre : List Tok) (n : Int) (A B : List Tok), (∀ t ∈ l, goodK t = true) → 0 ≤ n → n ≤ sizeL l → cutG pre l n = some (A, B) →
    sizeL A = sizeL pre + n ∧ sizeL B = sizeL l - n ∧ ((∀ t ∈ pre, goodK t = true) → (∀ t ∈ A, goodK t = true)) ∧ (∀ t ∈ B, goodK t = true) ∧ (∀ b, expandF (A ++ B) b = expandF (pre ++ l) b) ∧ A.length ≤ pre.length + l.length + 1 ∧ B.length ≤ l.length
  | [], pre, n, A, B, _, h0, h1, h => by
    unfold cutG at h
    cases h
    have h1 : n ≤ 0 := h1
    exact ⟨by omega, by show (0 : Int) = 0 - n; omega, fun h => h, by simp, fun b => rfl, by simp, Nat.le_refl _⟩
  | t :: r, pre, n, A, B, hg, h0, h1, h => by
    have hgt := hg t (by simp)
    have hgr : ∀ u ∈ r, goodK u = true := fun u hu => hg u (by simp [hu])
    have ht := tsz_good hgt
    have hf := goodK_facts hgt
    have hsl : sizeL (t :: r) = tsz t + sizeL r := rfl
    unfold cutG at h
    by_cases hn : n = 0
    · rw [if_pos hn] at h
      cases h
      exact ⟨by omega, by omega, fun h => h, hg, fun b => rfl, by omega, by omega⟩
    rw [if_neg hn] at h
    by_cases hn2 : n < tsz t
    · rw [if_pos hn2] at h
      have hts : tsz t = t.n ∧ 3 ≤ t.n := by unfold tsz at hn2 ⊢; omega
      have hs := good_split hgt (show 0 < n by omega) hn2
      split at h
      · rename_i hb
        cases h
        rw [Bool.and_eq_true] at hb
        have h3 := hs.1.1 hb.1
        have h4 := hs.2.1 hb.2
        have e1 : tsz ⟨0, n, t.d⟩ = n := by unfold tsz; show max n 1 = n; omega
        have e2 : tsz ⟨0, t.n - n, t.d⟩ = t.n - n := by unfold tsz; show max (t.n - n) 1 = t.n - n; omega
        refine ⟨?_, ?_, fun hp u hu => ?_, fun u hu => ?_, fun b => ?_, by simp only [List.length_append, List.length_cons, List.length_nil]; omega, by simp only [List.length_cons]; omega⟩
        · rw [sizeL_append]
          show sizeL pre + (tsz ⟨0, n, t.d⟩ + 0) = _
          omega
        · show tsz ⟨0, t.n - n, t.d⟩ + sizeL r = _
          omega
        · rcases List.mem_append.1 hu with hu | hu
          · exact hp u hu
          · rw [List.mem_singleton] at hu; rw [hu]; exact hb.1
        · rcases List.mem_cons.1 hu with rfl | hu
          · exact hb.2
          · exact hgr u hu
        · rw [List.append_assoc, expandF_app, expandF_app pre]
          congr 1
          funext b2
          show expandF (⟨0, n, t.d⟩ :: ⟨0, t.n - n, t.d⟩ :: r) b2 = expandF (t :: r) b2
          have hcl := copyN_len n.toNat b2 t.d.toNat
          by_cases hd : t.d ≤ (b2.length : Int)
          · rw [expandF_match (t := ⟨0, n, t.d⟩) hb.1 hd hn, expandF_match (t := ⟨0, t.n - n, t.d⟩) hb.2 (by show t.d ≤ ((copyN n.toNat b2 t.d.toNat).length : Int); omega) (by show t.n - n ≠ 0; omega), expandF_match hgt hd (by omega)]
            show expandF r (copyN (t.n - n).toNat (copyN n.toNat b2 t.d.toNat) t.d.toNat) = _
            rw [← copyN_add, show n.toNat + (t.n - n).toNat = t.n.toNat by omega]
          · rw [expandF_far (t := ⟨0, n, t.d⟩) hd, expandF_far hd]
      · cases h
    · rw [if_neg hn2] at h
      obtain ⟨g1, g2, g3, g4, g5, g6, g7⟩ := cutG_some r (pre ++ [t]) (n - tsz t) A B hgr (by omega) (by omega) h
      rw [sizeL_append] at g1
      have g1 : sizeL A = sizeL pre + (tsz t + 0) + (n - tsz t) := g1
      refine ⟨by omega, by omega, fun hp => g3 fun u hu => ?_, g4, fun b => ?_, ?_, ?_⟩
      · rcases List.mem_append.1 hu with hu | hu
        · exact hp u hu
        · rw [List.mem_singleton] at hu; rw [hu]; exact hgt
      · rw [g5 b, List.append_assoc]; rfl
      · simp at g6 ⊢; omega
      · simp; omega
theorem fits_good {t : Tok} (h : goodK t = true) : t.fits := by
  unfold Tok.fits
  rcases goodK_facts h with ⟨h1, h2⟩ | ⟨h1, h2, h3, h4⟩ <;> omega
theorem cover_good {l : List Tok} (h : ∀ t ∈ l, goodK t = true) : coverF l = sizeL l := by
  unfold coverF
  rw [if_pos (List.all_eq_true.2 h)]
set_option maxHeartbeats 1000000 in
theorem LzCuts_law (ahead : List UInt8) (a : Option Addr) (len cap : Nat) (n : Int) (w0 : (ByteArray.mk ahead.toArray).size ≤ maxLen) (w1 : StructRow [.int .u8, .int .i64, .int .i64] H a len cap) (w2 : (Lit.int .i64 n).wf = true) :
    CallsH Try.prog 3 #[str ahead, .slice a len cap, .int .i64 n] H (LawOk H) := by
  have hmax : maxLen = 9223372036854775807 := rfl
  rw [bys_size] at w0
  have hn := wf64 w2
  obtain ⟨L, hLl, hlm, hL1, hL2, hS⟩ := w1.rows (by decide)
  obtain ⟨T, hT1, hT2, hT3⟩ := toks_of L hL1 hL2
  have hS : Sl H (.slice a len cap) 3 (toksL T) := by rw [hT2]; exact hS
  have hTl : T.length = len := hT1.trans hLl
  refine lighterlaw05_LzCuts.vc _ _ _ _ _ ?_
  unfold lighterlaw05_LzCuts.res
  refine speaks05_spec fun H1 hx1 => ?_
  rw [pNot_v, Bool.not_true, pCond_false]
  have hS := hS.ext hx1
  refine pLenS_to ?_
  rw [pMin_v, show min ((ahead.length : Nat) : Int) 300 = ((min ahead.length 300 : Nat) : Int) by omega]
  refine pSlStr_to (lo := 0) (hi := min ahead.length 300) (.inr ⟨rfl, rfl⟩) (.inl rfl) (by omega) (by omega) ?_
  rw [List.drop_zero, Nat.sub_zero]
  have hal : (ahead.take (min ahead.length 300)).length ≤ 300 := by rw [List.length_take]; omega
  generalize ahead.take (min ahead.length 300) = P at *
  have o := nilIt 3 (by decide) (Owns.start (H := H1))
  refine ⟨fun av i H' => ∃ k : Nat, i = .int .i64 k ∧ k ≤ T.length ∧ k ≤ 20 ∧ Owns H1 H' [.sl av 3 (toksL (T.take k))], fun _ i _ => match i with | .int _ x => 100 - x.toNat | _ => 0, ⟨0, rfl, by omega, by omega, o⟩, ?_⟩
  clear o
  rintro _ av _ H2 ⟨k, rfl, hk, hk20, o⟩
  refine (hS.ext o.ext).len (n := T.length) (toksL_len T) (by decide) ?_
  rw [pLt_v]
  refine pAnd_if (d := decide ((k : Int) < 20)) (fun _ => by rw [pLt_v]; exact ⟨rfl, rfl⟩) ?_
  intro _
  have htl : (toksL (T.take k)).length = k * 3 := by rw [toksL_len, List.length_take, Nat.min_eq_left hk]
  refine pCond_b (fun hc => ?_) (fun _ => ?_)
  · rw [Bool.and_eq_true, decide_eq_true_eq, decide_eq_true_eq] at hc
    have hkT : k < T.length := by omega
    refine (hS.ext o.ext).at_ (n := T.length) (toksL_len T) (by decide) (by omega) (by omega) fun p hp => ?_
    rw [Int.toNat_natCast] at hp
    refine hp.loadN (hS.ext o.ext) (ws := T[k].cells) (toksL_at T k _ (List.getElem?_eq_getElem hkT)) rfl ?_
    refine o.build1 (sz := 3) (by decide) rfl rfl fun y H3 o => ?_
    rw [aggL] at o
    refine o.append (v := av) (n := k) (m := 1) (by repeat (first | exact Sel.here | apply Sel.there)) rfl (o.sl (v := y) (by repeat (first | exact List.mem_cons_self | apply List.mem_cons_of_mem))) htl rfl rfl (by omega) fun y2 H4 o => ?_
    rw [pAdd_v, w64 (n := (k : Int) + 1) (by omega) (by omega)]
    refine ⟨⟨k + 1, rfl, by omega, by omega, ?_⟩, by show 100 - ((k : Int) + 1).toNat < 100 - (k : Int).toNat; omega⟩
    rw [toksL_take T k T[k] (List.getElem?_eq_getElem hkT)]
    exact o.arr (by repeat (first | exact Sels.nil | exact Sel.here | apply Sels.cons | apply Sel.there))
  have hll : (T.take k).length = k := by rw [List.length_take, Nat.min_eq_left hk]
  have hfits : ∀ t ∈ T.take k, t.fits := fun t ht => hT3 t (List.mem_of_mem_take ht)
  generalize T.take k = l at *
  have hA := o.sl (v := av) (by repeat (first | exact List.mem_cons_self | apply List.mem_cons_of_mem))
  refine ⟨fun u i H' => ∃ q : Nat, i = .int .i64 q ∧ q ≤ l.length ∧ u = .int .i64 (sizeL (l.take q)) ∧ (∀ t ∈ l.take q, goodK t = true) ∧ Ext H2 H', fun _ i _ => match i with | .int _ x => 100 - x.toNat | _ => 0, ⟨0, rfl, by omega, rfl, by simp, Ext.refl _⟩, ?_⟩
  rintro _ _ _ H3 ⟨q, rfl, hq, rfl, hg, hx3⟩
  have hA3 := hA.ext hx3
  have hxx : Ext H H3 := hx1.trans (o.ext.trans hx3)
  refine hA3.len (n := l.length) (toksL_len l) (by decide) ?_
  rw [pLt_v]
  refine pCond_if (fun hc => ?_) (fun hc => ?_)
  · have hql : q < l.length := by omega
    refine tok_at hA3 hql (by omega) ?_
    refine refTokGood_spec (t := l[q]) fun H4 hx4 => ?_
    have hA4 := hA3.ext hx4
    rw [pNot_v]
    refine pCond_b (fun hb => ?_) (fun hb => ?_)
    · have hbad : ¬ (l.all goodK = true) := fun g => by
        have := List.all_eq_true.1 g l[q] (List.getElem_mem hql)
        rw [this] at hb; cases hb
      have hcv : coverF l = -1 := by unfold coverF; rw [if_neg hbad]
      have hcn : cutF l n = none := by unfold cutF; rw [hcv, if_pos (by omega)]
      refine cut05_spec hA4 (by omega) hn (fun _ H5 hx5 => ?_) (fun A B g => by rw [hcn] at g; cases g)
      refine pExtract_to rfl ?_
      refine pExtract_to rfl ?_
      refine pExtract_to rfl ?_
      refine cover_spec (hA4.ext hx5) (by omega) fun H6 hx6 => ?_
      rw [hcv, pEq_0, decide_eq_true (show (-1 : Int) = -1 from rfl)]
      refine pAnd_true ?_
      rw [pNot_v]
      intro _
      refine pAnd_true ?_
      rw [pLen_v, pLen_v, pAdd_v, w64 (by decide) (by decide), pEq_0, decide_eq_true (by decide)]
      intro _
      exact ⟨rfl, hxx.trans (hx4.trans (hx5.trans hx6))⟩
    · have hgq : goodK l[q] = true := by simpa using hb
      have hs := sizeL_good hg
      have hs2 := tsz_good hgq
      have htl2 : (l.take q).length = q := by rw [List.length_take]; omega
      refine hA4.at_ (n := l.length) (toksL_len l) (by decide) (by omega) (by omega) fun p hp => ?_
      rw [Int.toNat_natCast] at hp
      refine hp.field (f := 1) fun p2 hp2 => ?_
      have hcell : (toksL l)[q * 3 + 1]? = some (.int .i64 l[q].n) := by
        have := toksL_at l q _ (List.getElem?_eq_getElem hql)
        have e := congrArg (fun x => x[1]?) this
        simp only [List.getElem?_take, List.getElem?_drop] at e
        rw [if_pos (by decide)] at e
        exact e
      refine hp2.load hA4 (w := .int .i64 l[q].n) hcell ?_
      rw [pMax_v, show max l[q].n 1 = tsz l[q] from rfl, pAdd_v, w64 (by omega) (by omega), pAdd_v, w64 (n := (q : Int) + 1) (by omega) (by omega)]
      have hst : l.take (q + 1) = l.take q ++ [l[q]] := by rw [List.take_add_one, List.getElem?_eq_getElem hql]; rfl
      refine ⟨⟨q + 1, rfl, by omega, ?_, ?_, hx3.trans hx4⟩, by show 100 - ((q : Int) + 1).toNat < 100 - (q : Int).toNat; omega⟩
      · rw [hst, sizeL_append]
        show _ = Value.int .i64 (sizeL (l.take q) + (tsz l[q] + 0))
        rw [Int.add_zero]
      · intro t ht
        rw [hst] at ht
        rcases List.mem_append.1 ht with ht | ht
        · exact hg t ht
        · rw [List.mem_singleton] at ht; rw [ht]; exact hgq
  have hql : q = l.length := by omega
  rw [hql, List.take_length] at hg
  rw [hql, List.take_length]
  have hsz := sizeL_good hg
  have hcv := cover_good hg
  -- the rest, once Cut has answered with no tokens
  refine cut05_spec hA3 (by omega) hn (fun hcn H4 hx4 => ?_) (fun A B hcs H4 x y o4 => ?_)
  · refine pExtract_to rfl ?_
    refine pExtract_to rfl ?_
    refine pExtract_to rfl ?_
    refine cover_spec (hA3.ext hx4) (by omega) fun H5 hx5 => ?_
    have hA5 := hA3.ext (hx4.trans hx5)
    have hx5 := hxx.trans (hx4.trans hx5)
    rw [hcv, pNe_0, decide_eq_false (fun g => g rfl), pCond_false, pLt_v]
    refine pOr_if (d := decide (sizeL l < n)) (fun _ => by rw [pGt_v]; exact ⟨rfl, rfl⟩) ?_
    intro _
    refine pCond_b (fun hb => ?_) (fun hb => ?_)
    · rw [pNot_v]
      refine pAnd_true ?_
      rw [pLen_v, pLen_v, pAdd_v, w64 (by decide) (by decide), pEq_0, decide_eq_true (by decide)]
      intro _
      exact ⟨rfl, hx5⟩
    · rw [Bool.or_eq_false_iff, decide_eq_false_iff_not, decide_eq_false_iff_not] at hb
      have hcg : cutG [] l n = none := by
        unfold cutF at hcn
        rwa [hcv, if_neg (by omega)] at hcn
      have hnear := cutG_none l [] n hg (by omega) (by omega) hcg
      rw [pNot_v, Bool.not_false, pCond_true]
      refine ⟨fun u i H' => ∃ j : Nat, i = .int .i64 j ∧ j ≤ l.length ∧ u = .int .i64 (sizeL (l.take j)) ∧ nearF (l.drop j) (n - sizeL (l.take j)) = true ∧ H5 = H', fun _ i _ => match i with | .int _ x => 100 - x.toNat | _ => 0, ⟨0, rfl, by omega, rfl, by rw [List.take_zero, List.drop_zero]; show nearF l (n - 0) = true; rw [Int.sub_zero]; exact hnear, rfl⟩, ?_⟩
      rintro _ _ _ _ ⟨j, rfl, hj, rfl, hnr, rfl⟩
      refine hA5.len (n := l.length) (toksL_len l) (by decide) ?_
      rw [pLt_v]
      refine pCond_if (fun hc => ?_) (fun hc => ?_)
      · have hjl : j < l.length := by omega
        have hgj := hg _ (List.getElem_mem hjl)
        have hs2 := tsz_good hgj
        have hs3 := sizeL_good (l := l.take j) (fun t ht => hg t (List.mem_of_mem_take ht))
        have htl2 : (l.take j).length = j := by rw [List.length_take]; omega
        refine hA5.at_ (n := l.length) (toksL_len l) (by decide) (by omega) (by omega) fun p hp => ?_
        rw [Int.toNat_natCast] at hp
        refine hp.field (f := 1) fun p2 hp2 => ?_
        have hcell : (toksL l)[j * 3 + 1]? = some (.int .i64 l[j].n) := by
          have := toksL_at l j _ (List.getElem?_eq_getElem hjl)
          have e := congrArg (fun x => x[1]?) this
          simp only [List.getElem?_take, List.getElem?_drop] at e
          rw [if_pos (by decide)] at e
          exact e
        refine hp2.load hA5 (w := .int .i64 l[j].n) hcell ?_
        rw [pMax_v, show max l[j].n 1 = tsz l[j] from rfl, pGt_v]
        rw [List.drop_eq_getElem_cons hjl, nearF] at hnr
        refine pAnd_if (d := decide (n < sizeL (l.take j) + tsz l[j])) (fun _ => by rw [pAdd_v, w64 (by omega) (by omega), pLt_v]; exact ⟨rfl, rfl⟩) ?_
        intro _
        refine pCond_b (fun hb2 => ?_) (fun hb2 => ?_)
        · rw [Bool.and_eq_true, decide_eq_true_eq, decide_eq_true_eq] at hb2
          rw [if_pos (by omega), Bool.or_eq_true, decide_eq_true_eq, decide_eq_true_eq] at hnr
          rw [pSub_v, w64 (by omega) (by omega), pLt_v]
          refine pOr_if (d := decide (sizeL (l.take j) + tsz l[j] - n < 3)) (fun _ => by rw [pAdd_v, w64 (by omega) (by omega), pSub_v, w64 (by omega) (by omega), pLt_v]; exact ⟨rfl, rfl⟩) ?_
          intro _
          refine ⟨?_, hx5⟩
          congr 1
          rw [Bool.or_eq_true, decide_eq_true_eq, decide_eq_true_eq]
          omega
        · have hb3 : ¬ (0 < n - sizeL (l.take j) ∧ n - sizeL (l.take j) < tsz l[j]) := by
            rw [Bool.and_eq_false_iff, decide_eq_false_iff_not, decide_eq_false_iff_not] at hb2
            omega
          rw [if_neg hb3] at hnr
          rw [pAdd_v, w64 (by omega) (by omega), pAdd_v, w64 (n := (j : Int) + 1) (by omega) (by omega)]
          have hst : l.take (j + 1) = l.take j ++ [l[j]] := by rw [List.take_add_one, List.getElem?_eq_getElem hjl]; rfl
          have hsz2 : sizeL (l.take (j + 1)) = sizeL (l.take j) + tsz l[j] := by
            rw [hst, sizeL_append]
            show _ + (tsz l[j] + 0) = _
            rw [Int.add_zero]
          refine ⟨⟨j + 1, rfl, by omega, by rw [hsz2], ?_, rfl⟩, by show 100 - ((j : Int) + 1).toNat < 100 - (j : Int).toNat; omega⟩
          rw [hsz2, show n - (sizeL (l.take j) + tsz l[j]) = n - sizeL (l.take j) - tsz l[j] by omega]
          exact hnr
      · have hjl : j = l.length := by omega
        rw [hjl, List.drop_length, nearF] at hnr
        cases hnr
  · have hcut : ¬ (n < 0 ∨ sizeL l < n) ∧ cutG [] l n = some (A, B) := by
      unfold cutF at hcs
      rw [hcv] at hcs
      split at hcs
      · cases hcs
      · exact ⟨by assumption, hcs⟩
    obtain ⟨hcut, hcg⟩ := hcut
    obtain ⟨g1, g2, g3, g4, g5, g6, g7⟩ := cutG_some l [] n A B hg (by omega) (by omega) hcg
    have g3 := g3 (by simp)
    have g1 : sizeL A = n := by rw [g1]; show 0 + n = n; omega
    have hAl : A.length ≤ 21 := by simp at g6; omega
    refine pExtract_to rfl ?_
    refine pExtract_to rfl ?_
    refine pExtract_to rfl ?_
    refine cover_spec (hA3.ext o4.ext) (by omega) fun H5 hx5 => ?_
    have o5 := o4.more hx5
    have hA5 := hA3.ext o5.ext
    have hxs := o5.sl (v := x) (by repeat (first | exact List.mem_cons_self | apply List.mem_cons_of_mem))
    have hys := o5.sl (v := y) (by repeat (first | exact List.mem_cons_self | apply List.mem_cons_of_mem))
    have hx5 := hxx.trans o5.ext
    rw [hcv, pNe_0, decide_eq_false (fun g => g rfl), pCond_false, pLt_v]
    refine pOr_if (d := decide (sizeL l < n)) (fun _ => by rw [pGt_v]; exact ⟨rfl, rfl⟩) ?_
    intro _
    rw [show (decide (n < 0) || decide (sizeL l < n)) = false from by
      rw [Bool.or_eq_false_iff, decide_eq_false_iff_not, decide_eq_false_iff_not]; omega, pCond_false, pNot_v, Bool.not_true, pCond_false]
    refine expand_spec hA5 hfits (by omega) fun H6 hx6 => ?_
    have hxs := hxs.ext hx6
    have hys := hys.ext hx6
    have hx6 := hx5.trans hx6
    unfold expandV
    have hexp := g5 P
    rw [List.nil_append, expandF_app] at hexp
    cases hE : expandF l P with
    | none =>
      refine pExtract_to rfl ?_
      refine pExtract_to rfl ?_
      rw [pNot_v, Bool.not_false, pCond_true]
      refine cover_spec hxs (by omega) fun H7 hx7 => ?_
      rw [cover_good g3, g1, pEq_0, decide_eq_true rfl]
      refine pAnd_true ?_
      refine cover_spec (hys.ext hx7) (by omega) fun H8 hx8 => ?_
      rw [cover_good g4, g2, pSub_v, w64 (by omega) (by omega), pEq_0, decide_eq_true rfl]
      intro _
      exact ⟨rfl, hx6.trans (hx7.trans hx8)⟩
    | some z =>
      rw [hE] at hexp
      cases hF : expandF A P with
      | none => rw [hF] at hexp; cases hexp
      | some w =>
        rw [hF] at hexp
        have hexp : expandF B w = some z := hexp
        obtain ⟨k1, k2⟩ := expandF_len A P w hF
        obtain ⟨k3, k4⟩ := expandF_len B w z hexp
        have hPw : P ++ w.drop P.length = w := by
          conv => lhs; lhs; rw [← k1]
          exact List.take_append_drop _ _
        refine pExtract_to rfl ?_
        refine pExtract_to rfl ?_
        rw [pNot_v, Bool.not_true, pCond_false]
        refine expand_spec hxs (fun t ht => fits_good (g3 t ht)) (by omega) fun H7 hx7 => ?_
        unfold expandV
        rw [hF]
        refine pExtract_to rfl ?_
        refine pExtract_to rfl ?_
        have hwl : w.length = P.length + n.toNat := by omega
        refine pAdd_str (by rw [List.length_drop]; omega) ?_
        rw [hPw]
        refine expand_spec (hys.ext hx7) (fun t ht => fits_good (g4 t ht)) (by omega) fun H8 hx8 => ?_
        unfold expandV
        rw [hexp]
        refine pExtract_to rfl ?_
        refine pExtract_to rfl ?_
        refine pAnd_true ?_
        intro _
        refine pAnd_true ?_
        refine pLenS_to ?_
        rw [List.length_drop, pEq_0, decide_eq_true (by omega)]
        intro _
        refine pAnd_true ?_
        have hzl : z.length ≤ 20000 := by omega
        refine pAdd_str (by rw [List.length_drop, List.length_drop]; omega) ?_
        refine pEq1_to ?_
        have hfin : w.drop P.length ++ z.drop w.length = z.drop P.length := by
          have e : z = w ++ z.drop w.length := by
            conv => lhs; rw [← List.take_append_drop w.length z, k3]
          conv => rhs; rw [e]
          rw [List.drop_append_of_le_length (by omega)]
        rw [hfin, decide_eq_true rfl]
        intro _
        exact ⟨rfl, hx6.trans (hx7.trans hx8)⟩
end Go.Proofs.Ytfmbgnchedhneaa
