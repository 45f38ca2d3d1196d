/- Contracts of package lz: Cover and Cut. -/
import Derived.Test.YtfmbgnchedhneaaLz
import Derived.Test.YtfmbgnchedhneaaVcOwns
import Derived.Test.YtfmbgnchedhneaaVcSub
namespace Go.Proofs.Ytfmbgnchedhneaa
-- only what is there
open Go Go.Vc Go.Proofs
set_option linter.unusedVariables false
set_option linter.unusedSimpArgs false
variable {H H0 : Heap} {R : Value → Heap → Prop} {v lv : Value} {L : List It}
def tsz (t : Tok) : Int := max t.n 1
def sizeL : List Tok → Int
  | [] => 0
  | t :: r => tsz t + sizeL r
theorem sizeL_append : ∀ (a c : List Tok), sizeL (a ++ c) = sizeL a + sizeL c
  | [], c => by show sizeL c = 0 + sizeL c; omega
  | t :: r, c => by
    show tsz t + sizeL (r ++ c) = tsz t + sizeL r + sizeL c
    rw [sizeL_append r c]; omega
theorem tsz_good {t : Tok} (h : goodK t = true) : 1 ≤ tsz t ∧ tsz t ≤ 258 := by
  unfold tsz
  rcases goodK_facts h with ⟨h1, _⟩ | ⟨h1, h2, _⟩ <;> omega
theorem sizeL_good : ∀ {l : List Tok}, (∀ t ∈ l, goodK t = true) → 0 ≤ sizeL l ∧ sizeL l ≤ 258 * l.length
  | [], _ => by show 0 ≤ (0 : Int) ∧ (0 : Int) ≤ 258 * ((0 : Nat) : Int); omega
  | t :: r, h => by
    have h1 := tsz_good (h t (by simp))
    have h2 := sizeL_good (l := r) (fun u hu => h u (by simp [hu]))
    show 0 ≤ tsz t + sizeL r ∧ tsz t + sizeL r ≤ 258 * (((r.length + 1 : Nat)) : Int)
    omega
def coverF (l : List Tok) : Int := if l.all goodK then sizeL l else -1
theorem size_spec {t : Tok} (h : ∀ H', Ext H H' → R (.int .i64 (tsz t)) H') : CallsH Try.prog 11 #[t.v] H R := by
  refine lz_Token_size.vc _ _ _ ?_
  unfold lz_Token_size.res
  refine (Owns.start (H := H)).box fun b H1 o _ => ?_
  change Owns H H1 [.box b t.cells _] at o
  rw [pFieldAddr_v, add_mk]
  refine o.bload (b := b) (f := 0 + 1) (by repeat (first | exact List.mem_cons_self | apply List.mem_cons_of_mem)) rfl ?_
  rw [pMax_v]
  exact h H1 o.ext
theorem split_spec {t : Tok} {n : Int} (h0 : 0 < n) (h1 : n < t.n) (h2 : t.n ≤ 258) (h : ∀ H', Ext H H' → R (.tuple #[(⟨0, n, t.d⟩ : Tok).v, (⟨0, t.n - n, t.d⟩ : Tok).v]) H') : CallsH Try.prog 12 #[t.v, .int .i64 n] H R := by
  refine lz_Token_split.vc _ _ _ _ ?_
  unfold lz_Token_split.res
  refine (Owns.start (H := H)).box fun b H1 o _ => ?_
  refine o.box fun x H2 o _ => ?_
  refine o.box fun y H3 o _ => ?_
  change Owns H H3 [.box y [.int .u8 0, .int .i64 0, .int .i64 0] _, .box x [.int .u8 0, .int .i64 0, .int .i64 0] _, .box b t.cells _] at o
  rw [pFieldAddr_v, add_mk]
  refine o.bload (b := b) (f := 0 + 2) (by repeat (first | exact List.mem_cons_self | apply List.mem_cons_of_mem)) rfl ?_
  refine pBuild_one rfl (by decide) ?_
  refine pBuild_one rfl (by simp) ?_
  rw [pBuild_n, pFieldAddr_v, add_mk]
  refine o.bload (b := b) (f := 0 + 1) (by repeat (first | exact List.mem_cons_self | apply List.mem_cons_of_mem)) rfl ?_
  rw [pSub_v, w64 (n := t.n - n) (by omega) (by omega), pFieldAddr_v, add_mk]
  refine o.bload (b := b) (f := 0 + 2) (by repeat (first | exact List.mem_cons_self | apply List.mem_cons_of_mem)) rfl ?_
  refine pBuild_one rfl (by decide) ?_
  refine pBuild_one rfl (by simp) ?_
  rw [pBuild_n]
  refine o.bstoreN (b := x) (by repeat (first | exact List.mem_cons_self | apply List.mem_cons_of_mem)) rfl rfl rfl (by repeat (first | exact Rep.here | apply Rep.there)) fun H4 o _ => ?_
  refine ⟨o.bload (b := b) (f := 0 + 1) (by repeat (first | exact List.mem_cons_self | apply List.mem_cons_of_mem)) rfl rfl, o.bload (b := b) (f := 0 + 2) (by repeat (first | exact List.mem_cons_self | apply List.mem_cons_of_mem)) rfl rfl, ?_⟩
  refine o.bstoreN (b := y) (by repeat (first | exact List.mem_cons_self | apply List.mem_cons_of_mem)) rfl rfl rfl (by repeat (first | exact Rep.here | apply Rep.there)) fun H5 o _ => ?_
  refine o.bloadN (b := x) (by repeat (first | exact List.mem_cons_self | apply List.mem_cons_of_mem)) rfl ?_
  refine o.bloadN (b := y) (by repeat (first | exact List.mem_cons_self | apply List.mem_cons_of_mem)) rfl ?_
  exact h H5 o.ext
theorem tok_at {l : List Tok} {i : Nat} {K : Value → Prop} (hS : Sl H lv 3 (toksL l)) (hi : i < l.length) (hlen : l.length ≤ 1000000) (hk : K l[i].v) : pIdxSl 3 lv (.int .i64 (i : Int)) fun p => pLoadN H 3 p K := by
  refine hS.at_ (toksL_len l) (by decide) (by omega) (by omega) fun p hp => ?_
  rw [Int.toNat_natCast] at hp
  exact hp.loadN hS (ws := l[i].cells) (toksL_at l i _ (List.getElem?_eq_getElem hi)) rfl hk
theorem cover_spec {l : List Tok} (hS : Sl H lv 3 (toksL l)) (hlen : l.length ≤ 1000000) (h : ∀ H', Ext H H' → R (.int .i64 (coverF l)) H') : CallsH Try.prog 7 #[lv] H R := by
  refine lz_Cover.vc _ _ _ ?_
  unfold lz_Cover.res
  refine hS.len (toksL_len l) (by decide) ?_
  refine ⟨fun u i H' => ∃ k : Nat, i = .int .i64 k ∧ k ≤ l.length ∧ u = .int .i64 (sizeL (l.take k)) ∧ (∀ t ∈ l.take k, goodK t = true) ∧ Ext H H', fun _ i _ => match i with | .int _ x => l.length - x.toNat | _ => 0, ⟨0, rfl, by omega, rfl, by simp, Ext.refl H⟩, ?_⟩
  rintro _ _ _ H1 ⟨k, rfl, hk, rfl, hg, hx⟩
  rw [pLt_v]
  refine pCond_if (fun hc => ?_) (fun hc => ?_)
  · have hkl : k < l.length := by omega
    refine tok_at (hS.ext hx) hkl hlen ?_
    refine (Owns.start (H := H1)).box fun b H2 o _ => ?_
    refine o.bstoreN (b := b) (vs := l[k].cells) (by repeat (first | exact List.mem_cons_self | apply List.mem_cons_of_mem)) rfl rfl rfl (by repeat (first | exact Rep.here | apply Rep.there)) fun H3 o _ => ?_
    refine o.bloadN (b := b) (by repeat (first | exact List.mem_cons_self | apply List.mem_cons_of_mem)) rfl ?_
    refine tokGood_spec (t := l[k]) fun H4 hx4 => ?_
    have o := o.more hx4
    rw [pNot_v]
    refine pCond_b (fun hb => ?_) (fun hb => ?_)
    · have hcf : coverF l = -1 := by
        unfold coverF
        rw [if_neg]
        intro g
        have := List.all_eq_true.1 g l[k] (List.getElem_mem hkl)
        rw [this] at hb; cases hb
      rw [hcf] at h
      exact h H4 (hx.trans o.ext)
    · have hgk : goodK l[k] = true := by simpa using hb
      refine o.bloadN (b := b) (by repeat (first | exact List.mem_cons_self | apply List.mem_cons_of_mem)) rfl ?_
      refine size_spec (t := l[k]) fun H5 hx5 => ?_
      have hs := sizeL_good hg
      have hs2 := tsz_good hgk
      have htl : (l.take k).length = k := by rw [List.length_take]; omega
      rw [pAdd_v, w64 (by omega) (by omega), pAdd_v, w64 (n := (k : Int) + 1) (by omega) (by omega)]
      have hst : l.take (k + 1) = l.take k ++ [l[k]] := by rw [List.take_add_one, List.getElem?_eq_getElem hkl]; rfl
      refine ⟨⟨k + 1, rfl, by omega, ?_, ?_, hx.trans (o.ext.trans hx5)⟩, by show l.length - ((k : Int) + 1).toNat < l.length - (k : Int).toNat; omega⟩
      · rw [hst, sizeL_append]
        show _ = Value.int .i64 (sizeL (l.take k) + (tsz l[k] + 0))
        rw [Int.add_zero]
      · intro t ht
        rw [hst] at ht
        rcases List.mem_append.1 ht with ht | ht
        · exact hg t ht
        · rw [List.mem_singleton] at ht; rw [ht]; exact hgk
  · have hkl : k = l.length := by omega
    rw [hkl, List.take_length] at hg ⊢
    have hcf : coverF l = sizeL l := by unfold coverF; rw [if_pos (List.all_eq_true.2 hg)]
    rw [hcf] at h
    exact h H1 hx
/-- tokens cut behind so many bytes -/
def cutG : List Tok → List Tok → Int → Option (List Tok × List Tok)
  | pre, [], _ => some (pre, [])
  | pre, t :: r, n => if n = 0 then some (pre, t :: r) else if n < tsz t then (if goodK ⟨0, n, t.d⟩ && goodK ⟨0, t.n - n, t.d⟩ then some (pre ++ [⟨0, n, t.d⟩], ⟨0, t.n - n, t.d⟩ :: r) else none) else cutG (pre ++ [t]) r (n - tsz t)
def cutF (l : List Tok) (n : Int) : Option (List Tok × List Tok) := if n < 0 ∨ coverF l < n then none else cutG [] l n
theorem toksL_app (a c : List Tok) : toksL (a ++ c) = toksL a ++ toksL c := by unfold toksL; rw [List.flatMap_append]
theorem toksL_one (l : List Tok) : (toksL l).all oneCell = true := by
  induction l with
  | nil => rfl
  | cons t r ih =>
    show (t.cells ++ toksL r).all oneCell = true
    rw [List.all_append, ih]; rfl
theorem toksL_drop : ∀ (l : List Tok) (i : Nat), (toksL l).drop (i * 3) = toksL (l.drop i)
  | l, 0 => by simp
  | [], i + 1 => by simp [toksL]
  | t :: r, i + 1 => by
    show (t.cells ++ toksL r).drop ((i + 1) * 3) = toksL (r.drop i)
    rw [← toksL_drop r i, show (i + 1) * 3 = t.cells.length + i * 3 by show (i + 1) * 3 = 3 + i * 3; omega, List.drop_append, List.drop_eq_nil_of_le (by omega), List.nil_append]
    congr 1
    omega
theorem toksL_takeN (l : List Tok) (i : Nat) : (toksL l).take (i * 3) = toksL (l.take i) := by
  by_cases hi : i ≤ l.length
  · have e : toksL l = toksL (l.take i) ++ toksL (l.drop i) := by rw [← toksL_app, List.take_append_drop]
    have hl : (toksL (l.take i)).length = i * 3 := by rw [toksL_len, List.length_take, Nat.min_eq_left hi]
    rw [e, ← hl, List.take_left]
  · rw [List.take_of_length_le (by rw [toksL_len]; omega), List.take_of_length_le (by omega)]
theorem aggL (l : List Value) : (Value.agg l.toArray).cells.toList = l := rfl
theorem nilIt (sz : Nat) (hz : 0 < sz) (o : Owns H0 H L) : Owns H0 H (.sl (.slice none 0 0) sz [] :: L) :=
  o.add (Ext.refl _) (i := .sl (.slice none 0 0) sz []) ⟨hz, .inl ⟨rfl, rfl⟩⟩ (by intro k hk; exact absurd hk (by simp [It.foot, blkOf]))
set_option maxHeartbeats 1000000 in
theorem cut05_spec {l : List Tok} {n : Int} (hS : Sl H lv 3 (toksL l)) (hlen : l.length ≤ 1000) (hn : -9223372036854775808 ≤ n ∧ n ≤ 9223372036854775807)
    (hno : cutF l n = none → ∀ H', Ext H H' → R (.tuple #[.slice none 0 0, .slice none 0 0, .bool false]) H')
    (hyes : ∀ A B, cutF l n = some (A, B) → ∀ H' x y, Owns H H' [.sl x 3 (toksL A), .sl y 3 (toksL B)] → R (.tuple #[x, y, .bool true]) H') : CallsH Try.prog 6 #[lv, .int .i64 n] H R := by
  have hll := toksL_len l
  refine lz_Cut.vc _ _ _ _ ?_
  unfold lz_Cut.res
  rw [pLt_v]
  by_cases h0 : n < 0
  · rw [decide_eq_true h0, pOr_true]
    intro _
    rw [pCond_true]
    exact hno (by unfold cutF; rw [if_pos (.inl h0)]) H (Ext.refl H)
  rw [decide_eq_false h0]
  refine pOr_false ?_
  refine cover_spec hS (by omega) fun H1 hx1 => ?_
  rw [pGt_v]
  intro _
  refine pCond_if (fun hc => ?_) (fun hc => ?_)
  · exact hno (by unfold cutF; rw [if_pos (.inr hc)]) H1 hx1
  have hcf : cutF l n = cutG [] l n := by unfold cutF; rw [if_neg (by omega)]
  rw [hcf] at hno hyes
  have hgood : ∀ t ∈ l, goodK t = true := by
    have : l.all goodK = true := by
      by_cases g : l.all goodK = true
      · exact g
      · unfold coverF at hc
        rw [if_neg g] at hc
        omega
    exact List.all_eq_true.1 this
  refine hS.len hll (by decide) ?_
  refine ⟨fun m i H' => ∃ (k : Nat) (q : Int), i = .int .i64 k ∧ m = .int .i64 q ∧ k ≤ l.length ∧ 0 ≤ q ∧ q ≤ 9223372036854775807 ∧ cutG [] l n = cutG (l.take k) (l.drop k) q ∧ Ext H H', fun _ i _ => match i with | .int _ x => l.length - x.toNat | _ => 0, ⟨0, n, rfl, rfl, by omega, by omega, by omega, rfl, hx1⟩, ?_⟩
  clear hx1 H1
  rintro _ _ _ H1 ⟨k, q, rfl, rfl, hk, hq0, hq1, hG, hx1⟩
  rw [pLt_v]
  refine pCond_if (fun hc => ?_) (fun hc => ?_)
  · have hkl : k < l.length := by omega
    have hdrop : l.drop k = l[k] :: l.drop (k + 1) := List.drop_eq_getElem_cons hkl
    have hgk := tsz_good (hgood l[k] (List.getElem_mem hkl))
    have hgf := goodK_facts (hgood l[k] (List.getElem_mem hkl))
    rw [hdrop, cutG] at hG
    refine tok_at (hS.ext hx1) hkl (by omega) ?_
    refine ((Owns.start (H := H)).more hx1).box fun tb H2 o _ => ?_
    refine o.bstoreN (b := tb) (vs := l[k].cells) (by repeat (first | exact List.mem_cons_self | apply List.mem_cons_of_mem)) rfl rfl rfl (by repeat (first | exact Rep.here | apply Rep.there)) fun H3 o _ => ?_
    refine o.bloadN (b := tb) (by repeat (first | exact List.mem_cons_self | apply List.mem_cons_of_mem)) rfl ?_
    refine size_spec (t := l[k]) fun H4 hx4 => ?_
    have o := o.more hx4
    rw [pEq_0]
    refine pCond_if (fun hq => ?_) (fun hq => ?_)
    · rw [if_pos hq] at hG
      refine hS.cut (by decide) (n := l.length) (lo := 0) (hi := k) hll (by omega) (by omega) (fun x hxs => ?_) (.inr ⟨rfl, rfl⟩) (.inl rfl)
      rw [Nat.zero_mul, List.drop_zero, Nat.sub_zero, toksL_takeN] at hxs
      refine hS.cut (by decide) (n := l.length) (lo := k) (hi := l.length) hll (by omega) (by omega) (fun y hys => ?_) (.inl rfl) (.inr ⟨rfl, rfl⟩)
      rw [toksL_drop, ← List.length_drop, List.take_of_length_le (by rw [toksL_len]; exact Nat.le_refl _)] at hys
      have o := nilIt 3 (by decide) (nilIt 3 (by decide) o)
      refine o.append (v := .slice none 0 0) (l := []) (n := 0) (m := k) (by repeat (first | exact Sel.here | apply Sel.there)) rfl (hxs.ext o.ext) rfl (by rw [toksL_len, List.length_take]; omega) (toksL_one _) (by omega) fun x2 H5 o => ?_
      refine o.append (v := .slice none 0 0) (l := []) (n := 0) (m := l.length - k) (by repeat (first | exact Sel.here | apply Sel.there)) rfl (hys.ext o.ext) rfl (by rw [toksL_len, List.length_drop]) (toksL_one _) (by omega) fun y2 H6 o => ?_
      rw [List.nil_append, List.nil_append] at o
      refine hyes _ _ hG H6 x2 y2 ?_
      rw [← hdrop]
      exact o.arr (by repeat (first | exact Sels.nil | exact Sel.here | apply Sels.cons | apply Sel.there))
    · rw [if_neg hq] at hG
      rw [pLt_v]
      refine pCond_if (fun hq2 => ?_) (fun hq2 => ?_)
      · rw [if_pos hq2] at hG
        have hn1 : q < l[k].n := by unfold tsz at hq2; omega
        refine o.bloadN (b := tb) (by repeat (first | exact List.mem_cons_self | apply List.mem_cons_of_mem)) rfl ?_
        refine split_spec (t := l[k]) (n := q) (by omega) hn1 (by omega) fun H5 hx5 => ?_
        have o := o.more hx5
        refine pExtract_to rfl ?_
        refine pExtract_to rfl ?_
        refine o.box fun ab H6 o _ => ?_
        refine o.box fun bb H7 o _ => ?_
        refine o.bstoreN (b := ab) (vs := (⟨0, q, l[k].d⟩ : Tok).cells) (by repeat (first | exact List.mem_cons_self | apply List.mem_cons_of_mem)) rfl rfl rfl (by repeat (first | exact Rep.here | apply Rep.there)) fun H8 o _ => ?_
        refine o.bstoreN (b := bb) (vs := (⟨0, l[k].n - q, l[k].d⟩ : Tok).cells) (by repeat (first | exact List.mem_cons_self | apply List.mem_cons_of_mem)) rfl rfl rfl (by repeat (first | exact Rep.here | apply Rep.there)) fun H9 o _ => ?_
        refine o.bloadN (b := ab) (by repeat (first | exact List.mem_cons_self | apply List.mem_cons_of_mem)) rfl ?_
        refine tokGood_spec (t := ⟨0, q, l[k].d⟩) fun H10 hx10 => ?_
        have o := o.more hx10
        rw [pNot_v]
        have hcond : ∀ {A B : Prop}, (¬ (goodK ⟨0, q, l[k].d⟩ && goodK ⟨0, l[k].n - q, l[k].d⟩) = true → A) → ((goodK ⟨0, q, l[k].d⟩ && goodK ⟨0, l[k].n - q, l[k].d⟩) = true → B) → pCond (.bool (!goodK ⟨0, q, l[k].d⟩ || !goodK ⟨0, l[k].n - q, l[k].d⟩)) A B := fun {A B} hA hB => by
          rw [show (!goodK ⟨0, q, l[k].d⟩ || !goodK ⟨0, l[k].n - q, l[k].d⟩) = !(goodK ⟨0, q, l[k].d⟩ && goodK ⟨0, l[k].n - q, l[k].d⟩) from by cases goodK ⟨0, q, l[k].d⟩ <;> rfl]
          cases hb : (goodK ⟨0, q, l[k].d⟩ && goodK ⟨0, l[k].n - q, l[k].d⟩) with
          | true => rw [hb] at hB; exact (by rw [Bool.not_true, pCond_false]; exact hB rfl)
          | false => rw [hb] at hA; exact (by rw [Bool.not_false, pCond_true]; exact hA (by decide))
        refine pOr_split (fun hb => ?_) (fun hb => ?_)
        · intro _
          have e : (!goodK ⟨0, q, l[k].d⟩ || !goodK ⟨0, l[k].n - q, l[k].d⟩) = true := by rw [hb, Bool.true_or]
          rw [pCond_true]
          have hg0 : goodK ⟨0, q, l[k].d⟩ = false := by simpa using hb
          rw [hg0, Bool.false_and, if_neg (by decide)] at hG
          exact hno hG H10 o.ext
        refine o.bloadN (b := bb) (by repeat (first | exact List.mem_cons_self | apply List.mem_cons_of_mem)) rfl ?_
        refine tokGood_spec (t := ⟨0, l[k].n - q, l[k].d⟩) fun H11 hx11 => ?_
        have o := o.more hx11
        rw [pNot_v]
        intro _
        have hg0 : goodK ⟨0, q, l[k].d⟩ = true := by simpa using hb
        rw [hg0, Bool.true_and] at hG
        refine pCond_b (fun hb2 => ?_) (fun hb2 => ?_)
        · have hg1 : goodK ⟨0, l[k].n - q, l[k].d⟩ = false := by simpa using hb2
          rw [hg1, if_neg (by decide)] at hG
          exact hno hG H11 o.ext
        have hg1 : goodK ⟨0, l[k].n - q, l[k].d⟩ = true := by simpa using hb2
        rw [hg1, if_pos rfl] at hG
        have hfin : ∀ H' x y, Owns H H' [.sl x 3 (toksL (l.take k) ++ (⟨0, q, l[k].d⟩ : Tok).cells), .sl y 3 ((⟨0, l[k].n - q, l[k].d⟩ : Tok).cells ++ toksL (l.drop (k + 1)))] → R (.tuple #[x, y, .bool true]) H' := fun H' x y o => by
          refine hyes _ _ hG H' x y ?_
          rw [toksL_app]
          show Owns H H' [.sl x 3 (toksL (l.take k) ++ ((⟨0, q, l[k].d⟩ : Tok).cells ++ [])), .sl y 3 ((⟨0, l[k].n - q, l[k].d⟩ : Tok).cells ++ toksL (l.drop (k + 1)))]
          rw [List.append_nil]
          exact o
        refine hS.cut (by decide) (n := l.length) (lo := 0) (hi := k) hll (by omega) (by omega) (fun x63 hxs => ?_) (.inr ⟨rfl, rfl⟩) (.inl rfl)
        rw [Nat.zero_mul, List.drop_zero, Nat.sub_zero, toksL_takeN] at hxs
        refine o.bloadN (b := ab) (by repeat (first | exact List.mem_cons_self | apply List.mem_cons_of_mem)) rfl ?_
        refine o.bloadN (b := bb) (by repeat (first | exact List.mem_cons_self | apply List.mem_cons_of_mem)) rfl ?_
        rw [pAdd_v, show (k : Int) + 1 = ((k + 1 : Nat) : Int) by omega, w64 (by omega) (by omega)]
        refine hS.cut (by decide) (n := l.length) (lo := k + 1) (hi := l.length) hll (by omega) (by omega) (fun x73 hys => ?_) (.inl rfl) (.inr ⟨rfl, rfl⟩)
        rw [toksL_drop, ← List.length_drop, List.take_of_length_le (by rw [toksL_len]; exact Nat.le_refl _)] at hys
        have o := nilIt 3 (by decide) o
        have hl1 : (toksL (l.take k)).length = k * 3 := by rw [toksL_len, List.length_take]; omega
        have hl2 : (toksL (l.drop (k + 1))).length = (l.length - (k + 1)) * 3 := by rw [toksL_len, List.length_drop]
        have hone1 := toksL_one (l.take k)
        have hone2 := toksL_one (l.drop (k + 1))
        generalize toksL (l.take k) = PA at *
        generalize toksL (l.drop (k + 1)) = PB at *
        generalize hca : (⟨0, q, l[k].d⟩ : Tok).cells = ca at *
        generalize hcb : (⟨0, l[k].n - q, l[k].d⟩ : Tok).cells = cb at *
        have hca3 : ca.length = 1 * 3 := by rw [← hca]; rfl
        have hcb3 : cb.length = 1 * 3 := by rw [← hcb]; rfl
        have hcao : ca.all oneCell = true := by rw [← hca]; rfl
        have hcbo : cb.all oneCell = true := by rw [← hcb]; rfl
        have hsa : (Value.agg ca.toArray).cells.size = 3 := by rw [← hca]; rfl
        have hsb : (Value.agg cb.toArray).cells.size = 3 := by rw [← hcb]; rfl
        repeat' (first
          | (with_reducible apply And.intro)
          | (with_reducible exact o.bloadN (b := ab) (by repeat (first | exact List.mem_cons_self | apply List.mem_cons_of_mem)) hca3 rfl)
          | (with_reducible exact o.bloadN (b := bb) (by repeat (first | exact List.mem_cons_self | apply List.mem_cons_of_mem)) hcb3 rfl)
          | (with_reducible refine o.append (v := .slice none 0 0) (l := []) (new := PA) (n := 0) (m := k) (by repeat (first | exact Sel.here | apply Sel.there)) rfl (hxs.ext o.ext) rfl hl1 hone1 (by omega) fun x H' o => ?_; rw [List.nil_append] at o)
          | (with_reducible refine o.build1 (sz := 3) (by decide) rfl hsa fun y H' o => ?_; rw [aggL] at o)
          | (with_reducible refine o.build1 (sz := 3) (by decide) rfl hsb fun y H' o => ?_; rw [aggL] at o)
          | (with_reducible refine o.append (l := cb) (new := PB) (n := 1) (m := l.length - (k + 1)) (by repeat (first | exact Sel.here | apply Sel.there)) rfl (hys.ext o.ext) hcb3 hl2 hone2 (by omega) fun x H' o => ?_)
          | (with_reducible refine o.append (l := PA) (new := ca) (n := k) (m := 1) (by repeat (first | exact Sel.here | apply Sel.there)) rfl (o.sl (by repeat (first | exact List.mem_cons_self | apply List.mem_cons_of_mem))) hl1 hca3 hcao (by omega) fun x H' o => ?_)
          | exact hfin _ _ _ (o.arr (by repeat (first | exact Sels.nil | exact Sel.here | apply Sels.cons | apply Sel.there))))
      · rw [if_neg hq2] at hG
        rw [pSub_v, w64 (n := q - tsz l[k]) (by omega) (by omega), pAdd_v, w64 (n := (k : Int) + 1) (by omega) (by omega)]
        refine ⟨⟨k + 1, q - tsz l[k], rfl, rfl, by omega, by omega, by omega, ?_, o.ext⟩, by show l.length - ((k : Int) + 1).toNat < l.length - (k : Int).toNat; omega⟩
        rw [hG, List.take_add_one, List.getElem?_eq_getElem hkl]; rfl
  · have hkl : k = l.length := by omega
    rw [hkl, List.drop_length, List.take_length, cutG] at hG
    have o := nilIt 3 (by decide) ((Owns.start (H := H)).more hx1)
    refine o.append (v := .slice none 0 0) (l := []) (n := 0) (m := l.length) (by repeat (first | exact Sel.here | apply Sel.there)) rfl (hS.ext o.ext) rfl hll (toksL_one _) (by omega) fun x2 H5 o => ?_
    rw [List.nil_append] at o
    have o := nilIt 3 (by decide) o
    exact hyes _ _ hG H5 x2 _ (o.arr (by repeat (first | exact Sels.nil | exact Sel.here | apply Sels.cons | apply Sel.there)))
end Go.Proofs.Ytfmbgnchedhneaa
