/- Part 4 of the proof of RowTopCodes: what it is built on, in the order of its needs. -/
import Derived.Test.YtameljhbkedhjaaGreatDoorPkC
import Derived.Shelf.SlSortCmp.Whole1
namespace Go.Proofs.YtameljhbkedhjaaGreatDoor
open Go Go.Vc Go.Proofs
set_option linter.unusedVariables false
set_option linter.unusedSimpArgs false
variable {H H0 H' : Heap} {R : Value → Heap → Prop} {v : Value} {L : List It}
theorem _root_.Go.Vc.Owns.merge {i j k : It} (o : Owns H0 H (i :: j :: L)) (hh : i.holds H → j.holds H → k.holds H) (hf : ∀ b, k.foot b → i.foot b ∨ j.foot b) : Owns H0 H (k :: L) := by
  have h1 := List.pairwise_cons.1 o.dis
  have h2 := List.pairwise_cons.1 h1.2
  refine ⟨o.ext, fun x hx => ?_, fun x hx b hb => ?_, List.pairwise_cons.2 ⟨fun x hx b hb => ?_, h2.2⟩⟩
  · rcases List.mem_cons.1 hx with rfl | hx
    · exact hh (o.ok _ (by simp)) (o.ok _ (by simp))
    · exact o.ok x (by simp [hx])
  · rcases List.mem_cons.1 hx with rfl | hx
    · rcases hf b hb with h | h
      · exact o.new i (by simp) b h
      · exact o.new j (by simp) b h
    · exact o.new x (by simp [hx]) b hb
  · rcases hf b hb with h | h
    · exact h1.1 x (by simp [hx]) b h
    · exact h2.1 x hx b h
def idxV (l : List Nat) : List Value := l.map fun i => .int .i64 (i : Nat)
theorem idxV_len (l : List Nat) : (idxV l).length = l.length := by simp [idxV]
theorem idxV_app (a b : List Nat) : idxV (a ++ b) = idxV a ++ idxV b := by simp [idxV]
def Pks (H : Heap) : List Pk → List Value → Prop
  | [], cs => cs = []
  | p :: l, cs => ∃ sv r, cs = .int .i64 (p.1 : Int) :: sv :: r ∧ (oneCell sv = true ∧ Sl H sv 1 (idxV p.2) ∧ p.2 ≠ []) ∧ Pks H l r
def inB (cs : List Value) (k : Nat) : Prop := ∃ sv ∈ cs, blkOf sv = some k
theorem Pks.frame : ∀ {l : List Pk} {cs : List Value}, Pks H l cs → (∀ k, inB cs k → H'[k]? = H[k]?) → Pks H' l cs
  | [], cs, h, hf => h
  | p :: l, cs, ⟨sv, r, h1, ⟨h2, h3, h4⟩, h5⟩, hf => by
    subst h1
    exact ⟨sv, r, rfl, ⟨h2, h3.frame fun k hk => hf k ⟨sv, by simp, hk⟩, h4⟩, h5.frame fun k ⟨s, hs, hk⟩ => hf k ⟨s, by simp [hs], hk⟩⟩
theorem Pks.lt {k : Nat} : ∀ {l : List Pk} {cs : List Value}, Pks H l cs → inB cs k → k < H.size
  | [], cs, h, hk => by subst h; obtain ⟨_, hs, _⟩ := hk; simp at hs
  | p :: l, cs, ⟨sv, r, h1, ⟨h2, h3, h4⟩, h5⟩, ⟨s, hs, hk⟩ => by
    subst h1
    rcases List.mem_cons.1 hs with rfl | hs
    · simp [blkOf] at hk
    · rcases List.mem_cons.1 hs with rfl | hs
      · exact h3.lt (by intro h; exact h4 (by simpa [idxV] using h)) hk
      · exact h5.lt ⟨s, hs, hk⟩
theorem Pks.ext {l : List Pk} {cs : List Value} (h : Pks H l cs) (hx : Ext H H') : Pks H' l cs := h.frame fun k hk => hx.get k (h.lt hk)
theorem Pks.len : ∀ {l : List Pk} {cs : List Value}, Pks H l cs → cs.length = l.length * 2
  | [], cs, h => by subst h; rfl
  | p :: l, cs, ⟨sv, r, h1, _, h5⟩ => by subst h1; simp only [List.length_cons, h5.len]; omega
theorem Pks.one : ∀ {l : List Pk} {cs : List Value}, Pks H l cs → cs.all oneCell = true
  | [], cs, h => by subst h; rfl
  | p :: l, cs, ⟨sv, r, h1, ⟨h2, _⟩, h5⟩ => by subst h1; exact all_cons rfl (all_cons h2 h5.one)
theorem Pks.app : ∀ {l m : List Pk} {cs ds : List Value}, Pks H l cs → Pks H m ds → Pks H (l ++ m) (cs ++ ds)
  | [], m, cs, ds, h, k => by subst h; exact k
  | p :: l, m, cs, ds, ⟨sv, r, h1, h2, h5⟩, k => by subst h1; exact ⟨sv, r ++ ds, rfl, h2, h5.app k⟩
theorem Pks.at_ : ∀ {l : List Pk} {cs : List Value} {i : Nat} {p : Pk}, Pks H l cs → l[i]? = some p → ∃ sv, cs[i * 2]? = some (.int .i64 (p.1 : Int)) ∧ cs[i * 2 + 1]? = some sv ∧ (cs.drop (i * 2)).take 2 = [.int .i64 (p.1 : Int), sv] ∧ oneCell sv = true ∧ Sl H sv 1 (idxV p.2) ∧ p.2 ≠ []
  | [], cs, i, p, h, hi => by simp at hi
  | q :: l, cs, 0, p, ⟨sv, r, h1, h2, h5⟩, hi => by
    simp at hi; subst hi; subst h1
    exact ⟨sv, rfl, rfl, rfl, h2⟩
  | q :: l, cs, i + 1, p, ⟨sv, r, h1, h2, h5⟩, hi => by
    subst h1
    obtain ⟨s, g1, g2, g3, g4⟩ := h5.at_ (by simpa using hi)
    refine ⟨s, ?_, ?_, ?_, g4⟩
    · rw [show (i + 1) * 2 = i * 2 + 1 + 1 by omega]; simpa using g1
    · rw [show (i + 1) * 2 + 1 = (i * 2 + 1) + 1 + 1 by omega]; simpa using g2
    · rw [show (i + 1) * 2 = i * 2 + 1 + 1 by omega]; simpa using g3
theorem Pks.take : ∀ {l : List Pk} {cs : List Value} (n : Nat), Pks H l cs → Pks H (l.take n) (cs.take (n * 2))
  | l, cs, 0, h => by rw [Nat.zero_mul]; exact rfl
  | [], cs, n + 1, h => by subst h; exact rfl
  | p :: l, cs, n + 1, ⟨sv, r, h1, h2, h5⟩ => by
    subst h1
    rw [show (n + 1) * 2 = n * 2 + 1 + 1 by omega]
    exact ⟨sv, r.take (n * 2), rfl, h2, h5.take n⟩
theorem Pks.drop : ∀ {l : List Pk} {cs : List Value} (n : Nat), Pks H l cs → Pks H (l.drop n) (cs.drop (n * 2))
  | l, cs, 0, h => by rw [Nat.zero_mul]; exact h
  | [], cs, n + 1, h => by subst h; exact rfl
  | p :: l, cs, n + 1, ⟨sv, r, h1, h2, h5⟩ => by
    subst h1
    rw [show (n + 1) * 2 = n * 2 + 1 + 1 by omega]
    exact h5.drop n
def pksT (l : List Pk) (cs : List Value) : Thing where
  foot := inB cs
  holds H := Pks H l cs
  frame h hf := h.frame hf
  lt h hk := h.lt hk
theorem pairsM_at : ∀ {l : List Pk} {k : Nat} {a b : Pk}, l[2 * k]? = some a → l[2 * k + 1]? = some b → (pairsM l)[k]? = some (a.1 + b.1, a.2 ++ b.2)
  | [], k, a, b, h1, h2 => by simp at h1
  | [_], 0, a, b, h1, h2 => by simp at h2
  | [_], k + 1, a, b, h1, h2 => by simp at h2
  | c :: d :: l, 0, a, b, h1, h2 => by simp at h1 h2; subst h1; subst h2; simp [pairsM]
  | c :: d :: l, k + 1, a, b, h1, h2 => by
    rw [pairsM, List.getElem?_cons_succ]
    exact pairsM_at (by rw [show 2 * (k + 1) = 2 * k + 1 + 1 by omega] at h1; simpa using h1) (by rw [show 2 * (k + 1) + 1 = (2 * k + 1) + 1 + 1 by omega] at h2; simpa using h2)
theorem pairs_spec {l : List Pk} {cs : List Value} (hv : Sl H v 2 cs) (hp : Pks H l cs) (hlen : l.length ≤ 600) (hc : ∀ p ∈ l, p.1 ≤ 1152921504606846976 ∧ p.2.length ≤ 32768)
    (h : ∀ y cs' H', Owns H H' [.sl y 2 cs', .thing (pksT (pairsM l) cs')] → R y H') : CallsH Tryz.prog 35 #[v] H R := by
  have hvl := hp.len
  refine merge_pairs.vc _ _ _ ?_
  unfold merge_pairs.res
  refine ⟨fun y i H' => ∃ (k : Nat) (co : List Value), i = .int .i64 ((2 * k : Nat) : Int) ∧ 2 * k ≤ l.length ∧ Owns H H' [.sl y 2 co, .thing (pksT ((pairsM l).take k) co)], fun _ i _ => match i with | .int _ x => (l.length - x).toNat | _ => 0, ⟨0, [], rfl, by omega, ?_⟩, ?_⟩
  · exact (Owns.start.add (Ext.refl _) (i := .thing (pksT [] [])) rfl (by rintro k ⟨_, hs, _⟩; simp at hs)).add (Ext.refl _) ⟨by decide, .inl ⟨rfl, rfl⟩⟩ (by intro k hk; exact absurd hk (by simp [It.foot, blkOf]))
  rintro _ out _ H1 ⟨k, co, rfl, hk, o⟩
  rw [pAdd_v, w64 (by omega) (by omega)]
  refine hv.len hvl (by decide) ?_
  rw [pLt_v]
  refine pCond_if (fun hc1 => ?_) (fun hc1 => ?_)
  · have hk1 : 2 * k + 1 < l.length := by omega
    obtain ⟨a, ha⟩ : ∃ a, l[2 * k]? = some a := ⟨l[2 * k], List.getElem?_eq_getElem _⟩
    obtain ⟨b, hb⟩ : ∃ b, l[2 * k + 1]? = some b := ⟨l[2 * k + 1], List.getElem?_eq_getElem _⟩
    obtain ⟨sa, a1, a2, _, a3, a4, a5⟩ := hp.at_ ha
    obtain ⟨sb, b1, b2, _, b3, b4, b5⟩ := hp.at_ hb
    have hca := hc a (List.mem_of_getElem? ha)
    have hcb := hc b (List.mem_of_getElem? hb)
    have hv1 := hv.ext o.ext
    refine hv1.at_ hvl (by decide) (by omega) (by omega) fun p hp1 => ?_
    rw [Int.toNat_natCast] at hp1
    refine hp1.field fun q1 hq1 => ?_
    refine hq1.load hv1 a1 ?_
    rw [pAdd_v, w64 (by omega) (by omega)]
    refine hv1.at_ hvl (by decide) (by omega) (by omega) fun p2 hp2 => ?_
    rw [show (((2 * k : Nat) : Int) + 1).toNat = 2 * k + 1 by omega] at hp2
    refine hp2.field fun q2 hq2 => ?_
    refine hq2.load hv1 b1 ?_
    rw [pAdd_v, w64 (by omega) (by omega)]
    refine hv1.at_ hvl (by decide) (by omega) (by omega) fun p3 hp3 => ?_
    rw [Int.toNat_natCast] at hp3
    refine hp3.field fun q3 hq3 => ?_
    refine hq3.load hv1 a2 ?_
    rw [pAdd_v, w64 (by omega) (by omega)]
    refine hv1.at_ hvl (by decide) (by omega) (by omega) fun p4 hp4 => ?_
    rw [show (((2 * k : Nat) : Int) + 1).toNat = 2 * k + 1 by omega] at hp4
    refine hp4.field fun q4 hq4 => ?_
    refine hq4.load hv1 b2 ?_
    refine o.build (sz := 1) (vs := [sa, sb]) (by decide) (fun K' hK => pBuild_two a3 b3 hK) rfl fun y H2 o2 => ?_
    have hv2 := hv.ext o2.ext
    refine ⟨hq1.load hv2 a1 rfl, hq2.load hv2 b1 rfl, ?_⟩
    refine concat_spec (svs := [sa, sb]) (ls := [idxV a.2, idxV b.2]) (o2.sl (by repeat (first | exact List.mem_cons_self | apply List.mem_cons_of_mem))) (by simp) rfl (fun j hj => ?_) ?_ ?_ fun z H3 c3 => ?_
    · match j, hj with
      | 0, _ => exact ⟨a4.ext o2.ext, _, (Nat.mul_one _).symm⟩
      | 1, _ => exact ⟨b4.ext o2.ext, _, (Nat.mul_one _).symm⟩
    · simp [idxV, oneCell]
    · simp only [List.flatten_cons, List.flatten_nil, List.length_append, idxV_len, List.length_nil]; omega
    have o3 := o2.call c3
    have hv3 := hv.ext o3.ext
    refine ⟨hq1.load hv3 a1 rfl, hq2.load hv3 b1 rfl, ?_⟩
    have hz1 := (o3.sl (v := z) (by repeat (first | exact List.mem_cons_self | apply List.mem_cons_of_mem))).one
    have hzs := o3.sl (v := z) (by repeat (first | exact List.mem_cons_self | apply List.mem_cons_of_mem))
    refine pBuild_two rfl hz1 ?_
    have e1 : ([idxV a.2, idxV b.2] : List (List Value)).flatten = idxV (a.2 ++ b.2) := by rw [idxV_app]; simp
    rw [e1] at o3 hzs
    have o4 := o3.arr (L' := [.thing (pksT ((pairsM l).take k) co), .sl z 1 (idxV (a.2 ++ b.2)), .sl out 2 co]) (by repeat (first | exact Sels.nil | exact Sel.here | apply Sels.cons | apply Sel.there))
    have hlk : ((pairsM l).take k).length = k := by rw [List.length_take, pairsM_len]; omega
    have hco : co.length = k * 2 := by
      have := (o4.thing (T := pksT ((pairsM l).take k) co) (by repeat (first | exact List.mem_cons_self | apply List.mem_cons_of_mem)) : Pks _ _ _).len
      rwa [hlk] at this
    have o5 : Owns H H3 [.thing (pksT ((pairsM l).take (k + 1)) (co ++ [.int .i64 ((a.1 + b.1 : Nat) : Int), z])), .sl out 2 co] := o4.merge (fun hT hS => by
        have hT : Pks H3 ((pairsM l).take k) co := hT
        show Pks H3 _ _
        rw [List.take_add_one, pairsM_at ha hb]
        exact hT.app ⟨z, [], rfl, ⟨hz1, hzs, by simp [a5]⟩, rfl⟩) (fun b' ⟨s, hs, hk'⟩ => by
        rcases List.mem_append.1 hs with hs | hs
        · exact .inl ⟨s, hs, hk'⟩
        · simp at hs
          rcases hs with rfl | rfl
          · simp [blkOf] at hk'
          · exact .inr hk')
    refine o5.build1 (sz := 2) (by decide) rfl rfl fun y2 H4 o6 => ?_
    refine o6.append (sz := 2) (v := out) (x := y2) (n := k) (m := 1) (by repeat (first | exact Sel.here | apply Sel.there)) rfl (o6.sl (by repeat (first | exact List.mem_cons_self | apply List.mem_cons_of_mem))) hco rfl (all_cons rfl (all_cons hz1 rfl)) (by omega) fun v2 H5 o7 => ?_
    rw [pAdd_v, w64 (by omega) (by omega)]
    refine ⟨⟨k + 1, co ++ [.int .i64 ((a.1 + b.1 : Nat) : Int), z], by rw [show ((2 * k : Nat) : Int) + 2 = ((2 * (k + 1) : Nat) : Int) by omega], by omega, ?_⟩, by show (_ : Int).toNat < (_ : Int).toNat; omega⟩
    have o8 := o7.arr (L' := [.sl v2 2 (co ++ [.int .i64 ((a.1 : Int) + (b.1 : Int)), z]), .thing (pksT ((pairsM l).take (k + 1)) (co ++ [.int .i64 ((a.1 + b.1 : Nat) : Int), z]))]) (by repeat (first | exact Sels.nil | exact Sel.here | apply Sels.cons | apply Sel.there))
    exact o8
  · rw [List.take_of_length_le (by rw [pairsM_len]; omega)] at o
    exact h _ _ _ o
theorem joined_spec {va vb : Value} {A B : List Pk} {ca cb : List Value} (ha : Sl H va 2 ca) (hb : Sl H vb 2 cb) (pa : Pks H A ca) (pb : Pks H B cb) (hla : A.length ≤ 300) (hlb : B.length ≤ 300) (hc : ∀ p, p ∈ A ∨ p ∈ B → p.1 ≤ 2305843009213693952)
    (h : ∀ y cs' H', Owns H H' [.sl y 2 cs'] → Pks H (joinM A B) cs' → (∀ s ∈ cs', s ∈ ca ∨ s ∈ cb) → R y H') : CallsH Tryz.prog 34 #[va, vb] H R := by
  refine merge_joined.vc _ _ _ _ ?_
  unfold merge_joined.res
  refine ⟨fun xa xb y H' => ∃ (i j : Nat) (O : List Pk) (co : List Value), i ≤ A.length ∧ j ≤ B.length ∧ Sl H xa 2 (ca.drop (i * 2)) ∧ Sl H xb 2 (cb.drop (j * 2)) ∧ Owns H H' [.sl y 2 co] ∧ Pks H O co ∧ O.length = i + j ∧ (∀ s ∈ co, s ∈ ca ∨ s ∈ cb) ∧ O ++ joinM (A.drop i) (B.drop j) = joinM A B,
    fun xa xb _ _ => (lenV xa).getD 0 + (lenV xb).getD 0,
    ⟨0, 0, [], [], by omega, by omega, ha, hb, Owns.start.add (Ext.refl _) ⟨by decide, .inl ⟨rfl, rfl⟩⟩ (by intro k hk; exact absurd hk (by simp [It.foot, blkOf])), rfl, rfl, by simp, rfl⟩, ?_⟩
  rintro _ xa xb out H1 ⟨i, j, O, co, hi, hj, sa, sb, o, po, hol, hin, hj0⟩
  have pa' := pa.drop i
  have pb' := pb.drop j
  have hla' : (ca.drop (i * 2)).length = (A.length - i) * 2 := by rw [pa'.len, List.length_drop]
  have hlb' : (cb.drop (j * 2)).length = (B.length - j) * 2 := by rw [pb'.len, List.length_drop]
  have hmem : ∀ (S : List Value) (n : Nat) (s : Value), s ∈ S.drop n → s ∈ S := fun S n s h => List.mem_of_mem_drop h
  refine sa.len hla' (by decide) ?_
  rw [pGt_v]
  have hco : co.length = (i + j) * 2 := by rw [po.len, hol]
  have hlast : ∀ H2, Ext H1 H2 → H1 = H2 → (i = A.length ∨ j = B.length) → pBuildSl H1 80 3 [(.slice none 0 0), (.slice none 0 0), (.slice none 0 0)] [(0, 1, out), (1, 1, xa), (2, 1, xb)] fun x42 H_10 => CallsH Tryz.prog 68 #[x42] H_10 fun x43 H_11 => R x43 H_11 := by
    intro H2 _ _ hor
    have hs1 := (o.sl (v := out) (by repeat (first | exact List.mem_cons_self | apply List.mem_cons_of_mem))).one
    refine o.build (sz := 1) (vs := [out, xa, xb]) (by decide) (fun K' hK => pBuild_three hs1 sa.one sb.one hK) rfl fun y H3 o2 => ?_
    refine concatP_spec (svs := [out, xa, xb]) (ls := [co, ca.drop (i * 2), cb.drop (j * 2)]) (o2.sl (by repeat (first | exact List.mem_cons_self | apply List.mem_cons_of_mem))) (by simp) rfl (fun k hk => ?_) ?_ ?_ fun z H4 c4 => ?_
    · match k, hk with
      | 0, _ => exact ⟨o2.sl (by repeat (first | exact List.mem_cons_self | apply List.mem_cons_of_mem)), _, hco⟩
      | 1, _ => exact ⟨sa.ext o2.ext, _, hla'⟩
      | 2, _ => exact ⟨sb.ext o2.ext, _, hlb'⟩
    · simp only [List.flatten_cons, List.flatten_nil, List.all_append, po.one, pa'.one, pb'.one, List.all_nil, Bool.and_self]
    · simp only [List.flatten_cons, List.flatten_nil, List.length_append, hco, hla', hlb', List.length_nil]; omega
    have o4 := (o2.call c4).arr (L' := [.sl z 2 ([co, ca.drop (i * 2), cb.drop (j * 2)] : List (List Value)).flatten]) (by repeat (first | exact Sels.nil | exact Sel.here | apply Sels.cons | apply Sel.there))
    refine h _ _ _ o4 ?_ ?_
    · rw [← hj0]
      simp only [List.flatten_cons, List.flatten_nil, List.append_nil]
      refine po.app ?_
      rcases hor with e | e
      · subst e
        rw [List.drop_length, joinM_nil]
        have : ca.drop (A.length * 2) = [] := List.drop_eq_nil_of_le (by rw [pa.len]; omega)
        rw [this, List.nil_append]
        exact pb'
      · subst e
        rw [List.drop_length, joinM_nil2]
        have : cb.drop (B.length * 2) = [] := List.drop_eq_nil_of_le (by rw [pb.len]; omega)
        rw [this, List.append_nil]
        exact pa'
    · intro s hs
      simp only [List.flatten_cons, List.flatten_nil, List.append_nil, List.mem_append] at hs
      rcases hs with hs | hs | hs
      · exact hin s hs
      · exact .inl (hmem _ _ _ hs)
      · exact .inr (hmem _ _ _ hs)
  by_cases hia : i < A.length
  · rw [decide_eq_true (by omega)]
    refine pAnd_true ?_
    refine sb.len hlb' (by decide) ?_
    rw [pGt_v]
    intro _
    refine pCond_if (fun hc1 => ?_) (fun hc1 => hlast H1 (Ext.refl _) rfl (.inr (by omega)))
    have hjb : j < B.length := by omega
    obtain ⟨p, hp⟩ : ∃ p, (A.drop i)[0]? = some p := ⟨A[i], by rw [List.getElem?_drop]; exact List.getElem?_eq_getElem hia⟩
    obtain ⟨q, hq⟩ : ∃ q, (B.drop j)[0]? = some q := ⟨B[j], by rw [List.getElem?_drop]; exact List.getElem?_eq_getElem hjb⟩
    obtain ⟨s1, a1, a2, a3, a4, a5, a6⟩ := pa'.at_ hp
    obtain ⟨s2, b1, b2, b3, b4, b5, b6⟩ := pb'.at_ hq
    have hAd : A.drop i = p :: A.drop (i + 1) := by
      rw [List.drop_eq_getElem_cons hia]
      rw [List.getElem?_drop, List.getElem?_eq_getElem (by omega), Option.some.injEq] at hp
      rw [← hp]; simp
    have hBd : B.drop j = q :: B.drop (j + 1) := by
      rw [List.drop_eq_getElem_cons hjb]
      rw [List.getElem?_drop, List.getElem?_eq_getElem (by omega), Option.some.injEq] at hq
      rw [← hq]; simp
    have hpc := hc p (.inl (List.mem_of_mem_drop (List.mem_of_getElem? hp)))
    have hqc := hc q (.inr (List.mem_of_mem_drop (List.mem_of_getElem? hq)))
    have sa1 := sa.ext o.ext
    have sb1 := sb.ext o.ext
    refine sa1.at_ hla' (by decide) (by decide) (by omega) fun u1 hu1 => ?_
    refine hu1.field fun u2 hu2 => ?_
    refine hu2.load sa1 a1 ?_
    refine sb1.at_ hlb' (by decide) (by decide) (by omega) fun w1 hw1 => ?_
    refine hw1.field fun w2 hw2 => ?_
    refine hw2.load sb1 b1 ?_
    rw [pLe_v]
    have cutA : ∀ {K : Value → Prop}, (∀ v', Sl H v' 2 (ca.drop ((i + 1) * 2)) → K v') → pSlSl 2 xa (some (.int .i64 1)) none K := fun hK => by
      refine sa.cut (by decide) (lo := 1) (hi := A.length - i) hla' (by omega) (by omega) (fun v' hv' => ?_) (.inl rfl) (.inr ⟨rfl, rfl⟩)
      rw [List.drop_drop, List.take_of_length_le (by rw [List.length_drop, pa.len]; omega), show i * 2 + 1 * 2 = (i + 1) * 2 by omega] at hv'
      exact hK v' hv'
    have cutB : ∀ {K : Value → Prop}, (∀ v', Sl H v' 2 (cb.drop ((j + 1) * 2)) → K v') → pSlSl 2 xb (some (.int .i64 1)) none K := fun hK => by
      refine sb.cut (by decide) (lo := 1) (hi := B.length - j) hlb' (by omega) (by omega) (fun v' hv' => ?_) (.inl rfl) (.inr ⟨rfl, rfl⟩)
      rw [List.drop_drop, List.take_of_length_le (by rw [List.length_drop, pb.len]; omega), show j * 2 + 1 * 2 = (j + 1) * 2 by omega] at hv'
      exact hK v' hv'
    have hxa := sa.lenV hla' (by decide)
    have hxb := sb.lenV hlb' (by decide)
    refine pCond_if (fun hle => ?_) (fun hle => ?_)
    · refine sa1.at_ hla' (by decide) (by decide) (by omega) fun u3 hu3 => ?_
      refine hu3.loadN sa1 (ws := [.int .i64 (p.1 : Int), s1]) a3 rfl ?_
      refine cutA fun v' hv' => ?_
      have hv2 := hv'.lenV (n := A.length - (i + 1)) (by rw [List.length_drop, pa.len]; omega) (by decide)
      refine o.build1 (sz := 2) (by decide) rfl rfl fun y H2 o2 => ?_
      refine o2.append (sz := 2) (v := out) (x := y) (n := i + j) (m := 1) (by repeat (first | exact Sel.here | apply Sel.there)) rfl (o2.sl (by repeat (first | exact List.mem_cons_self | apply List.mem_cons_of_mem))) hco rfl (all_cons rfl (all_cons a4 rfl)) (by omega) fun v2 H3 o3 => ?_
      refine ⟨⟨i + 1, j, O ++ [p], co ++ [.int .i64 (p.1 : Int), s1], by omega, by omega, hv', sb, o3.arr (by repeat (first | exact Sels.nil | exact Sel.here | apply Sels.cons | apply Sel.there)), po.app ⟨s1, [], rfl, ⟨a4, a5, a6⟩, rfl⟩, by rw [List.length_append, hol, List.length_singleton]; omega, ?_, ?_⟩, ?_⟩
      · intro s hs
        rcases List.mem_append.1 hs with hs | hs
        · exact hin s hs
        · simp at hs
          rcases hs with rfl | rfl
          · exact .inl (hmem _ _ _ (List.mem_of_getElem? a1))
          · exact .inl (hmem _ _ _ (List.mem_of_getElem? a2))
      · rw [← hj0, hAd, hBd, joinM_cons, if_pos (by omega)]; simp
      · dsimp only; rw [hxa, hxb, hv2]; show A.length - (i + 1) + (B.length - j) < A.length - i + (B.length - j); omega
    · refine sb1.at_ hlb' (by decide) (by decide) (by omega) fun u3 hu3 => ?_
      refine hu3.loadN sb1 (ws := [.int .i64 (q.1 : Int), s2]) b3 rfl ?_
      refine cutB fun v' hv' => ?_
      have hv2 := hv'.lenV (n := B.length - (j + 1)) (by rw [List.length_drop, pb.len]; omega) (by decide)
      refine o.build1 (sz := 2) (by decide) rfl rfl fun y H2 o2 => ?_
      refine o2.append (sz := 2) (v := out) (x := y) (n := i + j) (m := 1) (by repeat (first | exact Sel.here | apply Sel.there)) rfl (o2.sl (by repeat (first | exact List.mem_cons_self | apply List.mem_cons_of_mem))) hco rfl (all_cons rfl (all_cons b4 rfl)) (by omega) fun v2 H3 o3 => ?_
      refine ⟨⟨i, j + 1, O ++ [q], co ++ [.int .i64 (q.1 : Int), s2], by omega, by omega, sa, hv', o3.arr (by repeat (first | exact Sels.nil | exact Sel.here | apply Sels.cons | apply Sel.there)), po.app ⟨s2, [], rfl, ⟨b4, b5, b6⟩, rfl⟩, by rw [List.length_append, hol, List.length_singleton]; omega, ?_, ?_⟩, ?_⟩
      · intro s hs
        rcases List.mem_append.1 hs with hs | hs
        · exact hin s hs
        · simp at hs
          rcases hs with rfl | rfl
          · exact .inr (hmem _ _ _ (List.mem_of_getElem? b1))
          · exact .inr (hmem _ _ _ (List.mem_of_getElem? b2))
      · rw [← hj0, hAd, hBd, joinM_cons, if_neg (by omega)]; simp
      · dsimp only; rw [hxa, hxb, hv2]; show A.length - i + (B.length - (j + 1)) < A.length - i + (B.length - j); omega
  · rw [decide_eq_false (by omega)]
    rw [pAnd_false]
    intro _
    rw [pCond_false]
    exact hlast H1 (Ext.refl _) rfl (.inl (by omega))
end Go.Proofs.YtameljhbkedhjaaGreatDoor
namespace Go.Proofs.YtameljhbkedhjaaGreatDoor
open Go Go.Vc Go.Proofs
set_option linter.unusedVariables false
set_option linter.unusedSimpArgs false
variable {H H0 H' : Heap} {R : Value → Heap → Prop} {v : Value} {L : List It} {zs : List Int}
def cmpI (a b : Int) : Int := if a < b then -1 else if b < a then 1 else 0
def orI : List Int → Int
  | [] => 0
  | z :: l => if z ≠ 0 then z else orI l
def cmpU (zs : List Int) (a b : Nat) : Int := orI [cmpI (zs.getD a 0) (zs.getD b 0), cmpI (b : Nat) (a : Nat)]
theorem isNaN_spec {a : Int} (h : R (.bool false) H) : CallsH Tryz.prog 96 #[.int .i64 a] H R := by
  refine cmp_isNaN_int.vc _ _ _ ?_
  unfold cmp_isNaN_int.res
  rw [pNe_0, decide_eq_false (by simp)]
  exact h
theorem compare_spec {a b : Int} (h : R (.int .i64 (cmpI a b)) H) : CallsH Tryz.prog 67 #[.int .i64 a, .int .i64 b] H R := by
  refine cmp_Compare_int.vc _ _ _ _ ?_
  unfold cmp_Compare_int.res
  refine isNaN_spec ?_
  refine isNaN_spec ?_
  rw [pCond_false, pCond_false, pLt_v]
  unfold cmpI at h
  refine pCond_if (fun h1 => ?_) (fun h1 => ?_)
  · rw [if_pos h1] at h; exact h
  · rw [if_neg h1] at h
    rw [pGt_v]
    refine pCond_if (fun h2 => ?_) (fun h2 => ?_)
    · rw [if_pos h2] at h; exact h
    · rw [if_neg h2] at h; exact h
theorem or_spec {l : List Int} (hs : Sl H v 1 (numsV l)) (hl : l.length ≤ 1000) (h : R (.int .i64 (orI l)) H) : CallsH Tryz.prog 66 #[v] H R := by
  have hvl : (numsV l).length = l.length * 1 := by rw [numsV_len]; omega
  refine cmp_Or_int.vc _ _ _ ?_
  unfold cmp_Or_int.res
  refine hs.len hvl (by decide) ?_
  refine ⟨fun i H' => ∃ k : Nat, i = .int .i64 k ∧ k ≤ l.length ∧ orI l = orI (l.drop k) ∧ H = H', fun i _ => match i with | .int _ x => (l.length - x).toNat | _ => 0, ⟨0, rfl, by omega, rfl, rfl⟩, ?_⟩
  rintro _ _ _ ⟨k, rfl, hk, ho, rfl⟩
  rw [pLt_v]
  refine pCond_if (fun hc => ?_) (fun hc => ?_)
  · have hkn : k < l.length := by omega
    refine hs.at_ hvl (by decide) (by omega) (by omega) fun p hp => ?_
    refine hp.load hs (w := .int .i64 l[k]) (by rw [Int.toNat_natCast, Nat.mul_one, numsV_get hkn]) ?_
    rw [List.drop_eq_getElem_cons hkn, orI] at ho
    rw [pNe_0]
    refine pCond_b (fun hb => ?_) (fun hb => ?_)
    · rw [if_pos (by simpa using hb)] at ho
      rw [ho] at h; exact h
    · rw [if_neg (by simpa using hb)] at ho
      rw [pAdd_v, w64 (by omega) (by omega)]
      exact ⟨⟨k + 1, rfl, by omega, ho, rfl⟩, by show (_ : Int).toNat < (_ : Int).toNat; omega⟩
  · rw [List.drop_eq_nil_of_le (by omega)] at ho
    rw [ho] at h; exact h
theorem cmp_spec {cb : Nat} {cv : Value} {t : TypeId} {fr : Nat × Nat} {a b : Nat} (hbx : H[cb]? = some (.cells #[cv] t fr)) (hs : Sl H cv 1 (numsV zs)) (ha : a < zs.length) (hb : b < zs.length) (h : ∀ H', Ext H H' → R (.int .i64 (cmpU zs a b)) H') :
    CallsH Tryz.prog 65 #[.int .i64 (a : Int), .int .i64 (b : Int), .pointer (some ⟨cb, 0, none⟩)] H R := by
  have hvl : (numsV zs).length = zs.length * 1 := by rw [numsV_len]; omega
  have ga : zs.getD a 0 = zs[a] := by rw [List.getD_eq_getElem?_getD, List.getElem?_eq_getElem ha]; rfl
  have gb : zs.getD b 0 = zs[b] := by rw [List.getD_eq_getElem?_getD, List.getElem?_eq_getElem hb]; rfl
  have hcell : cellAt H ⟨cb, 0, none⟩ = some cv := by rw [cellAt_blk hbx]; rfl
  refine merge_used_f1.vc _ _ _ _ _ ?_
  unfold merge_used_f1.res
  rw [pLoad_cell hcell]
  refine hs.at_ hvl (by decide) (by omega) (by omega) fun p hp => ?_
  refine hp.load hs (w := .int .i64 zs[a]) (by rw [Int.toNat_natCast, Nat.mul_one, numsV_get ha]) ?_
  rw [pLoad_cell hcell]
  refine hs.at_ hvl (by decide) (by omega) (by omega) fun p hp => ?_
  refine hp.load hs (w := .int .i64 zs[b]) (by rw [Int.toNat_natCast, Nat.mul_one, numsV_get hb]) ?_
  refine compare_spec ?_
  refine compare_spec ?_
  refine (Owns.start (H := H)).build (sz := 1) (vs := numsV [cmpI zs[a] zs[b], cmpI b a]) (by decide) (fun K' hK => pBuild_two rfl rfl hK) rfl fun y H1 o => ?_
  refine or_spec (o.sl (by repeat (first | exact List.mem_cons_self | apply List.mem_cons_of_mem))) (by simp) ?_
  have := h H1 o.ext
  unfold cmpU at this
  rwa [ga, gb] at this
theorem cmpU_neg {a b : Nat} : cmpU zs a b < 0 ↔ zs.getD a 0 < zs.getD b 0 ∨ (zs.getD a 0 = zs.getD b 0 ∧ b < a) := by
  unfold cmpU
  generalize zs.getD a 0 = x
  generalize zs.getD b 0 = y
  have e : ∀ u w : Int, orI [u, w] = if u ≠ 0 then u else if w ≠ 0 then w else 0 := fun u w => rfl
  rw [e]
  rcases Int.lt_trichotomy x y with h | h | h
  · rw [show cmpI x y = -1 from if_pos h, if_pos (by decide)]
    exact ⟨fun _ => .inl h, fun _ => by decide⟩
  · subst h
    rw [show cmpI x x = 0 by unfold cmpI; rw [if_neg (by omega), if_neg (by omega)], if_neg (by decide)]
    rcases Int.lt_trichotomy (b : Int) (a : Int) with h | h | h
    · rw [show cmpI (b : Int) a = -1 from if_pos h, if_pos (by decide)]
      exact ⟨fun _ => .inr ⟨rfl, by omega⟩, fun _ => by decide⟩
    · rw [show cmpI (b : Int) a = 0 by unfold cmpI; rw [if_neg (by omega), if_neg (by omega)], if_neg (by decide)]
      exact ⟨fun h => absurd h (by decide), fun h => by omega⟩
    · rw [show cmpI (b : Int) a = 1 by unfold cmpI; rw [if_neg (by omega), if_pos h], if_pos (by decide)]
      exact ⟨fun h => absurd h (by decide), fun h => by omega⟩
  · rw [show cmpI x y = 1 by unfold cmpI; rw [if_neg (by omega), if_pos h], if_pos (by decide)]
    exact ⟨fun h => absurd h (by decide), fun h => by omega⟩
end Go.Proofs.YtameljhbkedhjaaGreatDoor
namespace Go.Proofs
open Go.Shelf
def Tryz.sortF_ren : Go.Shelf.Ren := ⟨fun | 6 => 64 | 15 => 95 | 14 => 94 | 28 => 114 | 29 => 115 | 20 => 106 | 21 => 107 | 22 => 108 | 23 => 109 | 24 => 110 | 25 => 111 | 26 => 112 | 27 => 113 | 46 => 120 | 47 => 121 | 48 => 122 | 49 => 123 | 50 => 124 | 57 => 125 | n => n, fun | 22 => 42 | 24 => 3 | 25 => 119 | 3 => 3 | 39 => 61 | 0 => 0 | 53 => 171 | 55 => 25 | 4 => 4 | 46 => 164 | 45 => 163 | 50 => 168 | 5 => 5 | 9 => 9 | 66 => 179 | 70 => 183 | 76 => 185 | 77 => 95 | n => n, fun | n => n⟩
theorem Tryz.sortF : Go.Proofs.SlLaysF.n6 Tryz.prog Tryz.sortF_ren := {
  mixed := by kernel_rfl
  f6 := ⟨Tryz.f64.name, by decide, Tryz.func64.trans (congrArg some (by kernel_rfl))⟩
  f14 := ⟨Tryz.f94.name, by decide, Tryz.func94.trans (congrArg some (by kernel_rfl))⟩
  f15 := Tryz.func95.trans (congrArg some (by kernel_rfl))
  f20 := ⟨Tryz.f106.name, by decide, Tryz.func106.trans (congrArg some (by kernel_rfl))⟩
  f21 := ⟨Tryz.f107.name, by decide, Tryz.func107.trans (congrArg some (by kernel_rfl))⟩
  f22 := ⟨Tryz.f108.name, by decide, Tryz.func108.trans (congrArg some (by kernel_rfl))⟩
  f23 := ⟨Tryz.f109.name, by decide, Tryz.func109.trans (congrArg some (by kernel_rfl))⟩
  f24 := ⟨Tryz.f110.name, by decide, Tryz.func110.trans (congrArg some (by kernel_rfl))⟩
  f25 := ⟨Tryz.f111.name, by decide, Tryz.func111.trans (congrArg some (by kernel_rfl))⟩
  f26 := ⟨Tryz.f112.name, by decide, Tryz.func112.trans (congrArg some (by kernel_rfl))⟩
  f27 := ⟨Tryz.f113.name, by decide, Tryz.func113.trans (congrArg some (by kernel_rfl))⟩
  f28 := Tryz.func114.trans (congrArg some (by kernel_rfl))
  f29 := Tryz.func115.trans (congrArg some (by kernel_rfl))
  f46 := ⟨Tryz.f120.name, by decide, Tryz.func120.trans (congrArg some (by kernel_rfl))⟩
  f47 := Tryz.func121.trans (congrArg some (by kernel_rfl))
  f48 := Tryz.func122.trans (congrArg some (by kernel_rfl))
  f49 := ⟨Tryz.f123.name, by decide, Tryz.func123.trans (congrArg some (by kernel_rfl))⟩
  f50 := ⟨Tryz.f124.name, by decide, Tryz.func124.trans (congrArg some (by kernel_rfl))⟩
  f57 := ⟨Tryz.f125.name, by decide, Tryz.func125.trans (congrArg some (by kernel_rfl))⟩
  t0 := Tryz.underlying0
  a0 := Tryz.isAgg0
  z0 := Tryz.sizeOf0
  v0 := Tryz.zeroValue0
  t3 := Tryz.underlying3
  a3 := Tryz.isAgg3
  z3 := Tryz.sizeOf3
  v3 := Tryz.zeroValue3
  t4 := Tryz.underlying4
  a4 := Tryz.isAgg4
  z4 := Tryz.sizeOf4
  v4 := Tryz.zeroValue4
  t5 := Tryz.underlying5
  a5 := Tryz.isAgg5
  z5 := Tryz.sizeOf5
  v5 := Tryz.zeroValue5
  t9 := Tryz.underlying9
  a9 := Tryz.isAgg9
  z9 := Tryz.sizeOf9
  v9 := Tryz.zeroValue9
  t22 := Tryz.underlying42
  a22 := Tryz.isAgg42
  z22 := Tryz.sizeOf42
  v22 := Tryz.zeroValue42
  a24 := Tryz.isAgg3
  z24 := Tryz.sizeOf3
  t25 := Tryz.underlying119
  a25 := Tryz.isAgg119
  z25 := Tryz.sizeOf119
  v25 := Tryz.zeroValue119
  t39 := Tryz.underlying61
  a39 := Tryz.isAgg61
  z39 := Tryz.sizeOf61
  v39 := Tryz.zeroValue61
  t45 := Tryz.underlying163
  a45 := Tryz.isAgg163
  z45 := Tryz.sizeOf163
  v45 := Tryz.zeroValue163
  t46 := Tryz.underlying164
  a46 := Tryz.isAgg164
  z46 := Tryz.sizeOf164
  v46 := Tryz.zeroValue164
  t50 := Tryz.underlying168
  a50 := Tryz.isAgg168
  z50 := Tryz.sizeOf168
  v50 := Tryz.zeroValue168
  t53 := Tryz.underlying171
  a53 := Tryz.isAgg171
  z53 := Tryz.sizeOf171
  v53 := Tryz.zeroValue171
  t55 := Tryz.underlying25
  a55 := Tryz.isAgg25
  z55 := Tryz.sizeOf25
  v55 := Tryz.zeroValue25
  t66 := Tryz.underlying179
  a66 := Tryz.isAgg179
  z66 := Tryz.sizeOf179
  v66 := Tryz.zeroValue179
  t70 := Tryz.underlying183
  a70 := Tryz.isAgg183
  z70 := Tryz.sizeOf183
  v70 := Tryz.zeroValue183
  t76 := Tryz.underlying185
  a76 := Tryz.isAgg185
  z76 := Tryz.sizeOf185
  v76 := Tryz.zeroValue185
  t77 := Tryz.underlying95
  a77 := Tryz.isAgg95
  z77 := Tryz.sizeOf95
  v77 := Tryz.zeroValue95 }
end Go.Proofs
namespace Go.Proofs.YtameljhbkedhjaaGreatDoor
open Go Go.Vc Go.Proofs
set_option linter.unusedVariables false
set_option linter.unusedSimpArgs false
variable {H H0 H' : Heap} {R : Value → Heap → Prop} {v : Value} {L : List It} {zs : List Int}
def srtU (zs : List Int) (U : List Nat) : Prop := U.Pairwise fun a b => zs.getD a 0 ≤ zs.getD b 0
theorem len_spec {g : Nat} (hg : Tryz.sortF_ren.f 15 = g) (h : R (.int .i64 0) H) : CallsH Tryz.prog g #[.int .u64 0] H R := by
  subst hg
  intro w hw
  have h1 := Any.bits_Len (SlLaysF0.n15.bits (P := Tryz.prog) (ρ := Tryz.sortF_ren) { Tryz.sortF with }) 0 w (by decide) (by decide)
  exact h1.mono fun e w' ⟨he, hw'⟩ => ⟨_, he, by subst hw'; exact Rest.refl _, by subst hw'; rw [hw]; exact h⟩
theorem sort_none {f : Value} (hv : Sl H v 1 []) (h : R (.tuple #[]) H) : CallsH Tryz.prog 64 #[v, f] H R := by
  refine slices_SortFunc_s_int_int.vc _ _ _ _ ?_
  unfold slices_SortFunc_s_int_int.res
  refine hv.len (n := 0) rfl (by decide) ?_
  rw [pConv_v]
  refine len_spec rfl ?_
  refine slices_pdqsortCmpFunc_int.vc _ _ _ _ _ _ _ ?_
  unfold slices_pdqsortCmpFunc_int.res
  refine ⟨fun a b _ _ _ H' => a = .int .i64 0 ∧ b = .int .i64 0 ∧ H = H', fun _ _ _ _ _ _ => 0, ⟨rfl, rfl, rfl⟩, ?_⟩
  rintro _ _ _ _ _ _ _ ⟨rfl, rfl, rfl⟩
  rw [pSub_v, w64 (by decide) (by decide), pLe_v, decide_eq_true (by decide), pCond_true]
  refine slices_insertionSortCmpFunc_int.vc _ _ _ _ _ _ ?_
  unfold slices_insertionSortCmpFunc_int.res
  rw [pAdd_v, w64 (by decide) (by decide)]
  refine ⟨fun i H' => i = .int .i64 1 ∧ H = H', fun _ _ => 0, ⟨rfl, rfl⟩, ?_⟩
  rintro _ _ _ ⟨rfl, rfl⟩
  rw [pLt_v, decide_eq_false (by decide), pCond_false]
  exact h
theorem swo_cmp (n : Nat) : Go.Sort.SWO (ltOf fun a b : Fin n => cmpU zs a.val b.val) := by
  have e : ∀ a b : Fin n, ltOf (fun a b : Fin n => cmpU zs a.val b.val) a b = decide (zs.getD a.val 0 < zs.getD b.val 0 ∨ (zs.getD a.val 0 = zs.getD b.val 0 ∧ b.val < a.val)) := fun a b => by
    unfold ltOf
    rw [decide_eq_decide]
    exact cmpU_neg
  constructor
  · intro x; rw [e]; simp
  · intro x y z h1 h2; rw [e] at *; simp only [decide_eq_true_eq] at *; omega
  · intro x y z h1 h2; rw [e] at *; simp only [decide_eq_false_iff_not] at *; omega
theorem heap_other {α : Type} [Inhabited α] {enc : α → Value} {w : World} {b m : Nat} {dk : Array α} {os : Array Obj} {k : Nat} (hk : k < w.heap.size) (hb : k ≠ b) : (sortWorld enc w b 0 m dk os).heap[k]? = w.heap[k]? := by
  unfold sortWorld
  rw [Go.Sort.heap_grow_old _ _ (by rw [Go.Sort.size_putRow]; exact hk)]
  show ((w.heap).modify b _)[k]? = _
  rw [Array.getElem?_modify, if_neg (Ne.symm hb)]
theorem sort_spec {cb : Nat} {cv : Value} {t : TypeId} {U : List Nat} (o : Owns H0 H (.sl v 1 (idxV U) :: .box cb [cv] t :: [])) (hs : Sl H0 cv 1 (numsV zs)) (hU : ∀ u ∈ U, u < zs.length) (hlen : zs.length ≤ 288) (hul : U.length ≤ 288)
    (h : ∀ U' H', U'.Perm U → srtU zs U' → Owns H0 H' (.sl v 1 (idxV U') :: .box cb [cv] t :: []) → R (.tuple #[]) H') :
    CallsH Tryz.prog 64 #[v, .func (.func 65) #[] #[.pointer (some ⟨cb, 0, none⟩)]] H R := by
  by_cases hU0 : U = []
  · subst hU0
    exact sort_none (o.sl (v := v) (by repeat (first | exact List.mem_cons_self | apply List.mem_cons_of_mem))) (h [] H (List.Perm.refl _) List.Pairwise.nil o)
  have hn : 0 < zs.length := by
    obtain ⟨u, hu⟩ := List.exists_mem_of_ne_nil U hU0
    have := hU u hu; omega
  haveI : Inhabited (Fin zs.length) := ⟨⟨0, hn⟩⟩
  obtain ⟨V, hV⟩ : ∃ V : List (Fin zs.length), V.map (·.val) = U := ⟨U.pmap (fun u h => ⟨u, h⟩) hU, by rw [List.map_pmap]; simp⟩
  have hVl : V.length = U.length := by rw [← hV, List.length_map]
  intro w hw
  subst hw
  rcases o.own (v := v) (sz := 1) (l := idxV U) (by repeat (first | exact List.mem_cons_self | apply List.mem_cons_of_mem)) with ⟨_, h0⟩ | ⟨b, n, cap, sp, rfl, ⟨t2, fr, hb, hf⟩, hl, hc⟩
  · exact absurd (by simpa [idxV] using h0) hU0
  have hbl : b < w.heap.size := lt_of_blk hb
  have hnU : n = U.length := by rw [idxV_len] at hl; omega
  subst hnU
  have hcb := o.blk (b := cb) (cs := [cv]) (t := t) (by repeat (first | exact List.mem_cons_self | apply List.mem_cons_of_mem))
  have hcbl : cb < w.heap.size := lt_of_blk hcb
  have hne : cb ≠ b := by
    have := (List.pairwise_cons.1 o.dis).1 (.box cb [cv] t) (by simp) b rfl
    exact this
  have hbn : H0.size ≤ b := o.new (.sl (.slice (some ⟨b, 0, none⟩) U.length cap) 1 (idxV U)) (by simp) b rfl
  have hsw := hs.ext o.ext
  have hzl : zs ≠ [] := by intro e; rw [e] at hn; simp at hn
  have hcv : ∀ k, blkOf cv = some k → k < w.heap.size ∧ k ≠ b := fun k hk => by
    have := hs.lt (by simpa [numsV] using hzl) hk
    have := o.ext.size
    omega
  have eg : ∀ args w, (callFunc 65 args).run Tryz.prog w = .ok (.enter 65 args) w := enters_of Tryz.func65 (by kernel_rfl) rfl
  have hcap : (idxV U).length ≤ cap := by rw [List.length_append] at hc; omega
  have hH : Go.Sort.Holds (fun i : Fin zs.length => Value.int .i64 ((i.val : Nat) : Int)) w b 0 V.toArray := by
    intro j hj
    have hj1 : j < V.length := by simpa using hj
    have hjU : j < U.length := by omega
    rw [Nat.zero_add]
    have hcell : (idxV U ++ sp)[j]? = some (.int .i64 ((V[j].val : Nat) : Int)) := by
      rw [List.getElem?_append_left (by rw [idxV_len]; exact hjU), ← hV]
      simp [idxV, hj1]
    constructor
    · unfold World.cell?
      rw [hb]
      simp only [Option.isSome_none, Bool.false_eq_true, if_false, List.getElem?_toArray]
      rw [hcell, getElem!_pos V.toArray j hj]
      simp
    · unfold World.frozen?
      rw [hb]
      obtain ⟨lo, hi⟩ := fr
      rcases hf with hf | hf
      · cases hf; simp
      · simp only [idxV_len] at hcap
        have : ¬ lo ≤ j := by simp only at hf; omega
        simp [this]
  have hcmp : CmpLays1 Tryz.prog 65 #[.pointer (some ⟨cb, 0, none⟩)] (fun i : Fin zs.length => Value.int .i64 ((i.val : Nat) : Int)) (fun a b => cmpU zs a.val b.val) b 0 V.toArray.size w := by
    intro m os dk hdk x y
    have hbx : (sortWorld (fun i : Fin zs.length => Value.int .i64 ((i.val : Nat) : Int)) w b 0 m dk os).heap[cb]? = some (.cells #[cv] t (0, 0)) := by rw [heap_other hcbl hne]; exact hcb
    have hsc : Sl (sortWorld (fun i : Fin zs.length => Value.int .i64 ((i.val : Nat) : Int)) w b 0 m dk os).heap cv 1 (numsV zs) := hsw.frame fun k hk => heap_other (hcv k hk).1 (hcv k hk).2
    generalize sortWorld (fun i : Fin zs.length => Value.int .i64 ((i.val : Nat) : Int)) w b 0 m dk os = W at hbx hsc ⊢
    have := cmp_spec (R := fun v H' => v = .int .i64 (cmpU zs x.val y.val) ∧ Ext W.heap H') hbx hsc x.isLt y.isLt (fun H' hx => ⟨rfl, hx⟩) W rfl
    refine this.mono fun e w' ⟨v', he, hr, hv', hx⟩ => ⟨by rw [he, hv'], w'.drawn - W.drawn, w'.heap.extract W.heap.size w'.heap.size, ?_⟩
    have hheap : w'.heap = W.heap ++ w'.heap.extract W.heap.size w'.heap.size := by
      refine Array.ext_getElem? fun k => ?_
      rw [Array.getElem?_append]
      split
      · rename_i hk; exact hx.get k hk
      · rename_i hk
        rw [Array.getElem?_extract]
        have := hx.size
        split
        · congr 1; omega
        · rename_i h2; rw [Array.getElem?_eq_none (by omega)]
    have hdr := hr.drawn
    obtain ⟨a1, a2, a3, a4, a5⟩ := w'
    obtain ⟨b1, b2, b3, b4, b5⟩ := W
    have h1 := hr.os
    have h2 := hr.output
    have h3 := hr.tape
    simp only at h1 h2 h3 hheap hdr
    subst h1 h2 h3
    unfold Go.Sort.grow World.drewN
    simp only [World.mk.injEq, and_true, true_and]
    exact ⟨hheap, by omega⟩
  have main := Any.slices_SortFunc Tryz.sortF (fun i : Fin zs.length => Value.int .i64 ((i.val : Nat) : Int)) (fun _ => rfl) (fun a b => cmpU zs a.val b.val) (swo_cmp _) 65 #[.pointer (some ⟨cb, 0, none⟩)] b 0 cap V.toArray w eg hcmp hH hbl (by simp; omega)
  have hsz : V.toArray.size = U.length := by simpa using hVl
  rw [hsz] at main
  refine main.mono fun e w' ⟨he, d', m, os, hp, hsrt, hw'⟩ => ⟨_, he, ?_, ?_⟩
  · subst hw'; exact ⟨rfl, rfl, rfl, Nat.le_add_right _ _⟩
  obtain ⟨hp1, _, hp2⟩ := hp
  have hd' : d'.size = U.length := by rw [hp1]; simpa using hVl
  have hperm : d'.toList.Perm V := by
    have e1 : d'.extract 0 U.length = d' := by rw [← hd']; simp
    have e2 : V.toArray.extract 0 U.length = V.toArray := by rw [← hsz]; simp
    rw [e1, e2] at hp2
    simpa using hp2
  have hU'l : (d'.toList.map (·.val)).length = U.length := by simp [hd']
  refine h (d'.toList.map (·.val)) _ (by rw [← hV]; exact hperm.map _) ?_ ?_
  · unfold srtU
    rw [List.pairwise_iff_getElem]
    intro i j hi hj hij
    have hi2 : i < d'.size := by simpa using hi
    have hj2 : j < d'.size := by simpa using hj
    have := hsrt i j (Nat.zero_le _) hij (by omega)
    rw [getElem!_pos d' i hi2, getElem!_pos d' j hj2] at this
    unfold ltOf at this
    rw [decide_eq_false_iff_not, cmpU_neg] at this
    simp only [List.getElem_map, Array.getElem_toList]
    omega
  · subst hw'
    refine o.turn Rep.here ?_ (fun k hk hne2 => heap_other hk (fun e => hne2 (by rw [e]; rfl))) ⟨by decide, .inr ⟨b, U.length, cap, sp, rfl, ⟨⟨t2, fr, ?_, hf⟩, by rw [idxV_len, hU'l]; omega, by rw [List.length_append, idxV_len, hU'l, ← idxV_len U, ← List.length_append]; exact hc⟩⟩⟩ (fun k hk => .inl hk)
    · unfold sortWorld Go.Sort.grow
      rw [Array.size_append, Go.Sort.size_putRow]
      exact Nat.le_add_right _ _
    · unfold sortWorld
      rw [Go.Sort.heap_grow_old _ _ (by rw [Go.Sort.size_putRow]; exact hbl)]
      show ((w.heap).modify b _)[b]? = _
      rw [Array.getElem?_modify, if_pos rfl, hb]
      show some (Obj.cells (Go.Sort.putCells _ 0 d' (idxV U ++ sp).toArray) t2 fr) = _
      congr 2
      refine Array.ext_getElem? fun k => ?_
      unfold Go.Sort.putCells
      rw [Array.getElem?_mapIdx, List.getElem?_toArray, List.getElem?_toArray]
      by_cases hk : k < U.length
      · rw [List.getElem?_append_left (by rw [idxV_len]; exact hk), List.getElem?_append_left (by rw [idxV_len, hU'l]; exact hk)]
        have hk2 : k < d'.size := by omega
        rw [List.getElem?_eq_getElem (by rw [idxV_len]; exact hk)]
        simp only [Option.map_some, Nat.zero_le, true_and, Nat.zero_add, Nat.sub_zero]
        rw [if_pos hk2, getElem!_pos d' k hk2]
        simp [idxV, hk2]
      · rw [List.getElem?_append_right (by rw [idxV_len]; omega), List.getElem?_append_right (by rw [idxV_len, hU'l]; omega), idxV_len, idxV_len, hU'l]
        cases sp[k - U.length]? with
        | none => rfl
        | some x =>
          simp only [Option.map_some]
          rw [if_neg (by omega)]
end Go.Proofs.YtameljhbkedhjaaGreatDoor
namespace Go.Proofs.YtameljhbkedhjaaGreatDoor
open Go Go.Vc Go.Proofs
set_option linter.unusedVariables false
set_option linter.unusedSimpArgs false
variable {H H0 H' : Heap} {R : Value → Heap → Prop} {v : Value} {L : List It} {zs : List Int}
def suppU (zs : List Int) (n : Nat) : List Nat := (List.range n).filter fun i => decide (0 < zs.getD i 0)
theorem suppU_succ (zs : List Int) (n : Nat) : suppU zs (n + 1) = suppU zs n ++ (if 0 < zs.getD n 0 then [n] else []) := by
  unfold suppU
  rw [List.range_succ, List.filter_append]
  congr 1
  by_cases h : 0 < zs.getD n 0
  · rw [if_pos h, List.filter_cons_of_pos (by simpa using h)]; rfl
  · rw [if_neg h, List.filter_cons_of_neg (by simpa using h)]; rfl
theorem suppU_len (zs : List Int) : ∀ n, (suppU zs n).length ≤ n
  | 0 => by simp [suppU]
  | n + 1 => by rw [suppU_succ, List.length_append]; have := suppU_len zs n; split <;> simp <;> omega
theorem suppU_mem {zs : List Int} {n i : Nat} : i ∈ suppU zs n ↔ i < n ∧ 0 < zs.getD i 0 := by simp [suppU]
theorem used_spec (hs : Sl H v 1 (numsV zs)) (hlen : zs.length ≤ 288) (h : ∀ y U H', U.Perm (suppU zs zs.length) → srtU zs U → Owns H H' [.sl y 1 (idxV U)] → R y H') : CallsH Tryz.prog 33 #[v] H R := by
  have hvl : (numsV zs).length = zs.length * 1 := by rw [numsV_len]; omega
  refine merge_used.vc _ _ _ ?_
  unfold merge_used.res
  refine (Owns.start (H := H)).box fun cb H1 o hcb => ?_
  have h1v := hs.one
  rw [cells_one h1v] at o
  refine o.bload (b := cb) (f := 0) (by repeat (first | exact List.mem_cons_self | apply List.mem_cons_of_mem)) rfl ?_
  refine hs.len hvl (by decide) ?_
  refine ⟨fun y i H' => ∃ k : Nat, i = .int .i64 k ∧ k ≤ zs.length ∧ Owns H H' (.sl y 1 (idxV (suppU zs k)) :: .box cb [v] 42 :: []), fun _ i _ => match i with | .int _ x => (zs.length - x).toNat | _ => 0, ⟨0, rfl, by omega, ?_⟩, ?_⟩
  · exact o.add (Ext.refl _) ⟨by decide, .inl ⟨rfl, rfl⟩⟩ (by intro k hk; exact absurd hk (by simp [It.foot, blkOf]))
  rintro _ y _ H2 ⟨k, rfl, hk, o⟩
  rw [pLt_v]
  refine pCond_if (fun hc => ?_) (fun hc => ?_)
  · have hkn : k < zs.length := by omega
    have gk : zs.getD k 0 = zs[k] := by rw [List.getD_eq_getElem?_getD, List.getElem?_eq_getElem hkn]; rfl
    have hul := suppU_len zs k
    refine hs.at_ hvl (by decide) (by omega) (by omega) fun p hp => ?_
    refine hp.load (hs.ext o.ext) (w := .int .i64 zs[k]) (by rw [Int.toNat_natCast, Nat.mul_one, numsV_get hkn]) ?_
    rw [pGt_v]
    have hm : (9223372036854775807 : Int) - 0 = 9223372036854775807 := rfl
    refine pCond_if (fun hz => ?_) (fun hz => ?_)
    · refine o.build1 (sz := 1) (by decide) rfl rfl fun z H3 o2 => ?_
      refine o2.app (v := y) (x := z) (by repeat (first | exact Sel.here | apply Sel.there)) (o2.sl (by repeat (first | exact List.mem_cons_self | apply List.mem_cons_of_mem))) rfl (by rw [idxV_len]; show 2 * (_ + 1) * 8 ≤ _; omega) fun y2 H4 o3 => ?_
      rw [pAdd_v, w64 (by omega) (by omega)]
      refine ⟨⟨k + 1, by rfl, by omega, ?_⟩, by show (_ : Int).toNat < (_ : Int).toNat; omega⟩
      rw [suppU_succ, if_pos (by rw [gk]; exact hz), idxV_app]
      exact o3.arr (by repeat (first | exact Sels.nil | exact Sel.here | apply Sels.cons | apply Sel.there))
    · rw [pAdd_v, w64 (by omega) (by omega)]
      refine ⟨⟨k + 1, by rfl, by omega, ?_⟩, by show (_ : Int).toNat < (_ : Int).toNat; omega⟩
      rw [suppU_succ, if_neg (by rw [gk]; exact hz), List.append_nil]
      exact o
  · have hkn : k = zs.length := by omega
    subst hkn
    have hul := suppU_len zs zs.length
    refine sort_spec o hs (fun u hu => (suppU_mem.1 hu).1) hlen (by omega) fun U H3 hp hsrt o2 => ?_
    exact h _ _ _ hp hsrt (o2.arr (by repeat (first | exact Sels.nil | exact Sel.here | apply Sels.cons | apply Sel.there)))
def goodM (zs : List Int) : Bool := zs.all fun z => decide (0 ≤ z ∧ z ≤ 1099511627776)
theorem goodM_iff : goodM zs = true ↔ ∀ z ∈ zs, 0 ≤ z ∧ z ≤ 1099511627776 := by simp [goodM]
theorem badM_spec {z : Int} (h : R (.bool (!decide (0 ≤ z ∧ z ≤ 1099511627776))) H) : CallsH Tryz.prog 63 #[.int .i64 z] H R := by
  refine merge_wrong_f1.vc _ _ _ ?_
  unfold merge_wrong_f1.res
  rw [pLt_v]
  by_cases h0 : z < 0
  · rw [decide_eq_true h0, pOr_true]
    intro _
    rw [decide_eq_false (by omega)] at h
    exact h
  · rw [decide_eq_false h0]
    refine pOr_false ?_
    rw [pGt_v]
    intro _
    have e : decide (1099511627776 < z) = !decide (0 ≤ z ∧ z ≤ 1099511627776) := by
      rw [Bool.eq_iff_iff, decide_eq_true_eq, Bool.not_eq_true', decide_eq_false_iff_not]; omega
    rw [e]; exact h
theorem anyBadM_spec (hs : Sl H v 1 (numsV zs)) (hlen : zs.length ≤ 288) (hok : goodM zs = true) (h : R (.bool false) H) : CallsH Tryz.prog 37 #[v, .func (.func 63) #[] #[]] H R := by
  have hvl : (numsV zs).length = zs.length * 1 := by rw [numsV_len]; omega
  refine slices_ContainsFunc_s_int_int.vc _ _ _ _ ?_
  unfold slices_ContainsFunc_s_int_int.res
  refine slices_IndexFunc_s_int_int.vc _ _ _ _ ?_
  unfold slices_IndexFunc_s_int_int.res
  refine hs.len hvl (by decide) ?_
  refine ⟨fun i H' => ∃ k : Nat, i = .int .i64 k ∧ k ≤ zs.length ∧ H = H', fun i _ => match i with | .int _ x => (zs.length - x).toNat | _ => 0, ⟨0, rfl, by omega, rfl⟩, ?_⟩
  rintro _ _ _ ⟨k, rfl, hk, rfl⟩
  rw [pLt_v]
  refine pCond_if (fun hc => ?_) (fun hc => ?_)
  · have hkn : k < zs.length := by omega
    refine hs.at_ hvl (by decide) (by omega) (by omega) fun p hp => ?_
    refine hp.load hs (w := .int .i64 zs[k]) (by rw [Int.toNat_natCast, Nat.mul_one, numsV_get hkn]) ?_
    refine callH_f (by kernel_rfl) ?_
    refine badM_spec ?_
    rw [decide_eq_true (goodM_iff.1 hok _ (List.getElem_mem hkn))]
    show pCond (.bool false) _ _
    rw [pCond_false, pAdd_v, w64 (by omega) (by omega)]
    exact ⟨⟨k + 1, rfl, by omega, rfl⟩, by show (_ : Int).toNat < (_ : Int).toNat; omega⟩
  · show pGe _ _ _
    rw [pGe_v, decide_eq_false (by decide)]
    exact h
theorem wrong_spec {m : Nat} (hs : Sl H v 1 (numsV zs)) (hlen : zs.length ≤ 288) (hok : goodM zs = true) (h1 : 1 ≤ m) (h2 : m ≤ 15) (hn : (suppU zs zs.length).length ≤ 2 ^ m) (h : ∀ H', Ext H H' → R (.int .i64 0) H') : CallsH Tryz.prog 32 #[v, .int .i64 (m : Int)] H R := by
  have hvl : (numsV zs).length = zs.length * 1 := by rw [numsV_len]; omega
  refine merge_wrong.vc _ _ _ _ ?_
  unfold merge_wrong.res
  refine hs.len hvl (by decide) ?_
  rw [pGt_v, decide_eq_false (by omega)]
  refine pOr_false ?_
  refine anyBadM_spec hs hlen hok ?_
  intro _
  refine pOr_false ?_
  rw [pLt_v, decide_eq_false (by omega)]
  intro _
  refine pOr_false ?_
  rw [pGt_v, decide_eq_false (by omega)]
  intro _
  rw [pCond_false]
  have hp : (2 : Nat) ^ m ≤ 2 ^ 15 := Nat.pow_le_pow_right (by omega) h2
  have hshl : ∀ {K : Value → Prop}, K (.int .i64 ((2 ^ m : Nat) : Int)) → pShl (.int .i64 1) (.int .i64 (m : Int)) K := fun hK => by
    rw [pShl_v]
    refine ⟨by omega, ?_⟩
    rw [show min (m : Int).toNat IntKind.i64.bits = m by show min (m : Int).toNat 64 = _; omega]
    rw [show (1 : Int) * 2 ^ m = ((2 ^ m : Nat) : Int) by rw [Int.one_mul, Int.natCast_pow]; rfl]
    generalize 2 ^ m = P at *
    rw [w64 (by omega) (by omega)]
    exact hK
  refine hshl ?_
  refine used_spec hs hlen fun y U H1 hU _ o => ?_
  refine (o.sl (by repeat (first | exact List.mem_cons_self | apply List.mem_cons_of_mem))).len (n := U.length) (by rw [idxV_len]; omega) (by decide) ?_
  have hUl := hU.length_eq
  rw [pGt_v, decide_eq_false (by omega), pCond_false]
  exact h _ o.ext
def costM : List Int → List Int → Int
  | a :: l, b :: m => a * b + costM l m
  | _, _ => 0
theorem costM_snoc : ∀ (a b : List Int) (x y : Int), a.length = b.length → costM (a ++ [x]) (b ++ [y]) = costM a b + x * y
  | [], [], x, y, _ => by simp [costM]
  | [], _ :: _, x, y, h => by simp at h
  | _ :: _, [], x, y, h => by simp at h
  | p :: a, q :: b, x, y, h => by
    rw [List.cons_append, List.cons_append, costM, costM, costM_snoc a b x y (by simpa using h)]; omega
theorem cost_spec {v2 : Value} {ls : List Int} (hs : Sl H v 1 (numsV zs)) (hs2 : Sl H v2 1 (numsV ls)) (hl : zs.length = ls.length) (hlen : zs.length ≤ 288) (hz : ∀ z ∈ zs, 0 ≤ z ∧ z ≤ 1099511627776) (hls : ∀ z ∈ ls, 0 ≤ z ∧ z ≤ 15) (h : R (.int .i64 (costM zs ls)) H) :
    CallsH Tryz.prog 16 #[v, v2] H R := by
  have hvl : (numsV zs).length = zs.length * 1 := by rw [numsV_len]; omega
  have hvl2 : (numsV ls).length = zs.length * 1 := by rw [numsV_len]; omega
  refine merge_Cost.vc _ _ _ _ ?_
  unfold merge_Cost.res
  refine hs.len hvl (by decide) ?_
  refine hs2.len hvl2 (by decide) ?_
  rw [pMin_v, Int.min_self]
  refine ⟨fun c i H' => ∃ k : Nat, i = .int .i64 k ∧ c = .int .i64 (costM (zs.take k) (ls.take k)) ∧ k ≤ zs.length ∧ (0 ≤ costM (zs.take k) (ls.take k) ∧ costM (zs.take k) (ls.take k) ≤ k * 17592186044416) ∧ H = H', fun _ i _ => match i with | .int _ x => (zs.length - x).toNat | _ => 0, ⟨0, rfl, rfl, by omega, by simp [costM], rfl⟩, ?_⟩
  rintro _ _ _ _ ⟨k, rfl, rfl, hk, hb, rfl⟩
  rw [pLt_v]
  refine pCond_if (fun hc => ?_) (fun hc => ?_)
  · have hkn : k < zs.length := by omega
    refine hs.at_ hvl (by decide) (by omega) (by omega) fun p hp => ?_
    refine hp.load hs (w := .int .i64 zs[k]) (by rw [Int.toNat_natCast, Nat.mul_one, numsV_get hkn]) ?_
    refine hs2.at_ hvl2 (by decide) (by omega) (by omega) fun p hp => ?_
    refine hp.load hs2 (w := .int .i64 (ls[k]'(by omega))) (by rw [Int.toNat_natCast, Nat.mul_one, numsV_get (by omega)]) ?_
    have g1 := hz _ (List.getElem_mem hkn)
    have g2 := hls _ (List.getElem_mem (show k < ls.length by omega))
    have hm : 0 ≤ zs[k] * (ls[k]'(by omega)) ∧ zs[k] * (ls[k]'(by omega)) ≤ 1099511627776 * 15 := ⟨Int.mul_nonneg g1.1 g2.1, Int.mul_le_mul g1.2 g2.2 g2.1 (by decide)⟩
    have e : costM (zs.take (k + 1)) (ls.take (k + 1)) = costM (zs.take k) (ls.take k) + zs[k] * (ls[k]'(by omega)) := by
      rw [List.take_add_one, List.take_add_one, List.getElem?_eq_getElem hkn, List.getElem?_eq_getElem (show k < ls.length by omega)]
      exact costM_snoc _ _ _ _ (by rw [List.length_take, List.length_take]; omega)
    rw [pMul_v]
    generalize zs[k] * (ls[k]'(by omega)) = P at hm e ⊢
    rw [w64 (by omega) (by omega), pAdd_v, w64 (by omega) (by omega), pAdd_v, w64 (by omega) (by omega)]
    exact ⟨⟨k + 1, rfl, by rw [e], by omega, by rw [e]; omega, rfl⟩, by show (_ : Int).toNat < (_ : Int).toNat; omega⟩
  · have hkz : k = zs.length := by omega
    have e : costM (zs.take k) (ls.take k) = costM zs ls := by rw [List.take_of_length_le (by omega), List.take_of_length_le (by omega)]
    rw [e]
    exact h
end Go.Proofs.YtameljhbkedhjaaGreatDoor
namespace Go.Proofs.YtameljhbkedhjaaGreatDoor
open Go Go.Vc Go.Proofs
set_option linter.unusedVariables false
set_option linter.unusedSimpArgs false
variable {H H0 H' : Heap} {R : Value → Heap → Prop} {v : Value} {L : List It} {zs : List Int}
def frzT (B : Nat) (Hc : Heap) : Thing where
  foot k := B ≤ k ∧ k < Hc.size
  holds H := ∀ k, B ≤ k → k < Hc.size → H[k]? = Hc[k]?
  frame h hf k h1 h2 := (hf k ⟨h1, h2⟩).trans (h k h1 h2)
  lt {H k} h hk := by
    have := h k hk.1 hk.2
    rw [Array.getElem?_eq_getElem hk.2] at this
    exact (Array.getElem?_eq_some_iff.1 this).1
theorem frz_sl {B : Nat} {Hc H' : Heap} {sz : Nat} {l : List Value} (h : (frzT B Hc).holds H') (hs : Sl Hc v sz l) (hb : ∀ k, blkOf v = some k → B ≤ k) : Sl H' v sz l := by
  by_cases hl : l = []
  · subst hl
    rcases hs with hs | ⟨a, n, cap, h1, h2, h3, h4⟩
    · exact .inl hs
    · exact .inr ⟨a, n, cap, h1, h2, h3, fun i v hv => by simp at hv⟩
  · exact hs.frame fun k hk => h k (hb k hk) (hs.lt hl hk)
theorem cut_to {sz n m : Nat} {l : List Value} {K : Value → Prop} (h : Sl H v sz l) (hz : 0 < sz) (hn : l.length = n * sz) (hm : m ≤ n) (hk : ∀ v', Sl H v' sz (l.take (m * sz)) → (∀ k, blkOf v' = some k → blkOf v = some k) → K v') : pSlSl sz v none (some (.int .i64 (m : Int))) K := by
  rcases h with ⟨rfl, rfl⟩ | ⟨a, n', cap, rfl, hl, hcap, hr⟩
  · have hn0 : n = 0 := by
      rcases Nat.eq_zero_or_pos n with h | h
      · exact h
      · have := Nat.mul_pos h hz; simp only [List.length_nil] at hn; omega
    have hm0 : m = 0 := by omega
    subst hm0
    rw [pSlSl_v, pBounds_01]
    exact ⟨by decide, by decide, hk _ (.inl ⟨by simp, by simp⟩) (fun k hk => by simp [blkOf] at hk)⟩
  · have hnn : n' = n := Nat.eq_of_mul_eq_mul_right hz (hl.symm.trans hn)
    subst hnn
    rw [pSlSl_v, pBounds_01]
    refine ⟨by omega, by omega, ?_⟩
    have e : (if cap = 0 then (some a : Option Addr) else Option.map (fun x : Addr => x.add (0 * sz)) (some a)) = some a := by
      split
      · rfl
      · simp [Addr.add]
    rw [e, Int.toNat_natCast]
    refine hk _ (.inr ⟨a, m, cap, by simp, ?_, by omega, fun i w hw => ?_⟩) (fun k hk => hk)
    · rw [List.length_take, hl, Nat.min_eq_left (Nat.mul_le_mul_right sz hm)]
    · rw [List.getElem?_take] at hw
      split at hw
      · exact hr i w hw
      · cases hw
def curL (n : Nat) (U : List Nat) (c : Nat → Nat) : List Int := (List.range n).map fun s => if s ∈ U then ((c (U.idxOf s) : Nat) : Int) else 0
theorem curL_len {n : Nat} {U : List Nat} {c : Nat → Nat} : (curL n U c).length = n := by simp [curL]
theorem curL_at {n : Nat} {U : List Nat} {c : Nat → Nat} {s : Nat} (h : s < n) : (curL n U c)[s]'(by rw [curL_len]; exact h) = if s ∈ U then ((c (U.idxOf s) : Nat) : Int) else 0 := by simp [curL]
theorem curL_zero {n : Nat} {U : List Nat} : curL n U (fun _ => 0) = List.replicate n 0 := by
  refine List.ext_getElem (by simp [curL]) fun i h1 h2 => ?_
  rw [curL_at (by simpa [curL] using h1)]
  simp
theorem curL_set {n : Nat} {U : List Nat} {c c' : Nat → Nat} {a : Nat} (hU : U.Nodup) (ha : a < U.length) (hn : U[a] < n) (h : ∀ i, c' i = c i + if i = a then 1 else 0) :
    curL n U c' = (curL n U c).set U[a] (((c a : Nat) : Int) + 1) := by
  refine List.ext_getElem (by simp [curL]) fun i h1 h2 => ?_
  have hi : i < n := by simpa [curL] using h1
  rw [curL_at hi, List.getElem_set]
  by_cases e : U[a] = i
  · rw [if_pos e, if_pos (by rw [← e]; exact List.getElem_mem ha), ← e, hU.idxOf_getElem a ha, h a, if_pos rfl]; omega
  · rw [if_neg e, curL_at hi]
    by_cases hm : i ∈ U
    · rw [if_pos hm, if_pos hm, h, if_neg (fun h3 => e (by
        have h4 := List.getElem_idxOf (List.idxOf_lt_length_of_mem hm)
        rw [← h4]; congr 1; exact h3.symm)), Nat.add_zero]
    · rw [if_neg hm, if_neg hm]
def costs (zs : List Int) (U : List Nat) : List Nat := U.map fun u => (zs.getD u 0).toNat
theorem leaves_succ {cs : List Nat} {k : Nat} (h : k < cs.length) : (leavesM cs).take (k + 1) = (leavesM cs).take k ++ [(cs[k], [k])] := by
  rw [List.take_add_one, leavesM_at h]; rfl
theorem listM_bd {cs : List Nat} (h : ∀ c ∈ cs, c ≤ 1099511627776) : ∀ k, ∀ p ∈ listM (leavesM cs) k, p.1 ≤ 1099511627776 * 2 ^ k ∧ p.2.length ≤ 2 ^ k
  | 0, p, hp => by
    obtain ⟨i, hi⟩ := List.getElem?_of_mem (show p ∈ leavesM cs from hp)
    have hlt : i < cs.length := by have := (List.getElem?_eq_some_iff.1 hi).1; rwa [leavesM_len] at this
    rw [leavesM_at hlt, Option.some.injEq] at hi
    subst hi
    have := h _ (List.getElem_mem hlt)
    simp; exact this
  | k + 1, p, hp => by
    rw [listM, joinM_mem] at hp
    have ih := listM_bd h k
    rcases hp with hp | hp
    · have := listM_bd h 0 p hp
      have e : 1 ≤ 2 ^ (k + 1) := Nat.one_le_two_pow
      simp at this
      exact ⟨Nat.le_trans this.1 (Nat.le_mul_of_pos_right _ e), by omega⟩
    · have : ∀ (l : List Pk), (∀ p ∈ l, p.1 ≤ 1099511627776 * 2 ^ k ∧ p.2.length ≤ 2 ^ k) → ∀ p ∈ pairsM l, p.1 ≤ 1099511627776 * 2 ^ (k + 1) ∧ p.2.length ≤ 2 ^ (k + 1) := by
        intro l
        induction l using pairsM.induct with
        | case1 c d l ih2 =>
          intro hl q hq
          rw [pairsM] at hq
          rcases List.mem_cons.1 hq with rfl | hq
          · have h1 := hl c (by simp)
            have h2 := hl d (by simp)
            rw [Nat.pow_succ]
            refine ⟨?_, ?_⟩
            · show c.1 + d.1 ≤ _; omega
            · show (c.2 ++ d.2).length ≤ _; rw [List.length_append]; omega
          · exact ih2 (fun x hx => hl x (by simp [hx])) q hq
        | case2 l hne => intro hl q hq; rw [pairsM] at hq; simp at hq; all_goals exact hne
      exact this _ ih p hp
theorem leaves_go {U : List Nat} {y leaves : Value} {K : Value → Heap → Prop} (hs : Sl H v 1 (numsV zs)) (hy : Sl H y 1 (idxV U)) (hU : ∀ u ∈ U, u < zs.length) (hul : U.length ≤ 288) (hz : ∀ z ∈ zs, 0 ≤ z ∧ z ≤ 1099511627776) {k : Nat} {cl : List Value} (hk : k < U.length)
    (o : Owns H H' [.sl leaves 2 cl, .thing (pksT ((leavesM (costs zs U)).take k) cl)])
    (h : ∀ y2 cl2 H2, Owns H H2 [.sl y2 2 cl2, .thing (pksT ((leavesM (costs zs U)).take (k + 1)) cl2)] → K y2 H2) :
    pIdxSl 1 y (.int .i64 (k : Int)) fun x49 => pLoad H' x49 fun x50 => pIdxSl 1 v x50 fun x54 => pLoad H' x54 fun x55 => pBuildSl H' 3 1 [(.int .i64 0)] [(0, 1, .int .i64 (k : Int))] fun x57 H_11 =>
    pBuild [(.int .i64 0), (.slice none 0 0)] [(0, 1, x55), (1, 1, x57)] fun x58 => pBuildSl H_11 82 1 [(.int .i64 0), (.slice none 0 0)] [(0, 2, x58)] fun x59 H_12 => pAppend H_12 82 2 32 [(.int .i64 0), (.slice none 0 0)] leaves x59 K := by
  have hvl : (numsV zs).length = zs.length * 1 := by rw [numsV_len]; omega
  have huk := hU _ (List.getElem_mem hk)
  have hcl : (costs zs U).length = U.length := by simp [costs]
  have gk : zs.getD U[k] 0 = zs[U[k]] := by rw [List.getD_eq_getElem?_getD, List.getElem?_eq_getElem huk]; rfl
  have hzk := hz _ (List.getElem_mem huk)
  have hck : (costs zs U)[k]'(by omega) = zs[U[k]].toNat := by simp only [costs, List.getElem_map, gk]
  refine hy.at_ (n := U.length) (by rw [idxV_len]; omega) (by decide) (by omega) (by omega) fun p hp => ?_
  refine hp.load (hy.ext o.ext) (w := .int .i64 (U[k] : Nat)) (by rw [Int.toNat_natCast, Nat.mul_one]; simp [idxV, hk]) ?_
  refine hs.at_ hvl (by decide) (by omega) (by omega) fun p hp => ?_
  refine hp.load (hs.ext o.ext) (w := .int .i64 zs[U[k]]) (by rw [Int.toNat_natCast, Nat.mul_one, numsV_get huk]) ?_
  refine o.build1 (sz := 1) (by decide) rfl rfl fun z H3 o3 => ?_
  have hz1 := (o3.sl (v := z) (by repeat (first | exact List.mem_cons_self | apply List.mem_cons_of_mem))).one
  have hzs := o3.sl (v := z) (by repeat (first | exact List.mem_cons_self | apply List.mem_cons_of_mem))
  refine pBuild_two rfl hz1 ?_
  have o4 := o3.arr (L' := [.thing (pksT ((leavesM (costs zs U)).take k) cl), .sl z 1 (idxV [k]), .sl leaves 2 cl]) (by repeat (first | exact Sels.nil | exact Sel.here | apply Sels.cons | apply Sel.there))
  have hco : cl.length = k * 2 := by
    have := (o4.thing (T := pksT ((leavesM (costs zs U)).take k) cl) (by repeat (first | exact List.mem_cons_self | apply List.mem_cons_of_mem)) : Pks _ _ _).len
    rwa [List.length_take, leavesM_len, hcl, Nat.min_eq_left (by omega)] at this
  have o5 : Owns H H3 [.thing (pksT ((leavesM (costs zs U)).take (k + 1)) (cl ++ [.int .i64 zs[U[k]], z])), .sl leaves 2 cl] := o4.merge (fun hT hS => by
      have hT : Pks H3 ((leavesM (costs zs U)).take k) cl := hT
      show Pks H3 _ _
      rw [leaves_succ (by omega)]
      refine hT.app ⟨z, [], ?_, ⟨hz1, hzs, by simp⟩, rfl⟩
      rw [hck]
      show _ = [Value.int .i64 ((zs[U[k]].toNat : Nat) : Int), z]
      rw [Int.toNat_of_nonneg hzk.1]) (fun b' ⟨s, hs, hk'⟩ => by
      rcases List.mem_append.1 hs with hs | hs
      · exact .inl ⟨s, hs, hk'⟩
      · simp at hs
        rcases hs with rfl | rfl
        · simp [blkOf] at hk'
        · exact .inr hk')
  refine o5.build1 (sz := 2) (by decide) rfl rfl fun y2 H4 o6 => ?_
  refine o6.append (sz := 2) (v := leaves) (x := y2) (n := k) (m := 1) (by repeat (first | exact Sel.here | apply Sel.there)) rfl (o6.sl (by repeat (first | exact List.mem_cons_self | apply List.mem_cons_of_mem))) hco rfl (all_cons rfl (all_cons hz1 rfl)) (by omega) fun v2 H5 o7 => ?_
  exact h _ _ _ (o7.arr (by repeat (first | exact Sels.nil | exact Sel.here | apply Sels.cons | apply Sel.there)))
end Go.Proofs.YtameljhbkedhjaaGreatDoor
namespace Go.Proofs.YtameljhbkedhjaaGreatDoor
open Go Go.Vc Go.Proofs
set_option linter.unusedVariables false
set_option linter.unusedSimpArgs false
variable {H H0 H' : Heap} {R : Value → Heap → Prop} {v : Value} {L : List It} {zs : List Int}
def lensOk (zs : List Int) (m : Nat) (ls : List Int) : Prop := ∃ U : List Nat, U.Perm (suppU zs zs.length) ∧ srtU zs U ∧
  ((U.length < 2 ∧ ls = curL zs.length U fun _ => 1) ∨ (2 ≤ U.length ∧ ls = curL zs.length U (lenM (costs zs U) (m - 1))))
theorem cnt_step (P : List Pk) (p : Pk) (q : Nat) (hq : q < p.2.length) : ∀ i, cntP P i + (p.2.take (q + 1)).count i = cntP P i + (p.2.take q).count i + if i = p.2[q] then 1 else 0 := by
  intro i
  rw [List.take_add_one, List.getElem?_eq_getElem hq, List.count_append]
  show _ + (_ + List.count i [p.2[q]]) = _
  by_cases e : i = p.2[q]
  · rw [if_pos e, e]; simp; omega
  · rw [if_neg e, List.count_eq_zero_of_not_mem (l := [p.2[q]]) (by simpa using e)]; omega
theorem inM_lt {cs : List Nat} : ∀ k, ∀ p ∈ listM (leavesM cs) k, ∀ i ∈ p.2, i < cs.length
  | 0, p, hp, i, hi => by
    obtain ⟨j, hj⟩ := List.getElem?_of_mem (show p ∈ leavesM cs from hp)
    have hlt : j < cs.length := by have := (List.getElem?_eq_some_iff.1 hj).1; rwa [leavesM_len] at this
    rw [leavesM_at hlt, Option.some.injEq] at hj
    subst hj
    simp at hi; omega
  | k + 1, p, hp, i, hi => by
    rw [listM, joinM_mem] at hp
    rcases hp with hp | hp
    · exact inM_lt 0 p hp i hi
    · have : ∀ (l : List Pk), (∀ p ∈ l, ∀ i ∈ p.2, i < cs.length) → ∀ p ∈ pairsM l, ∀ i ∈ p.2, i < cs.length := by
        intro l
        induction l using pairsM.induct with
        | case1 c d l ih2 =>
          intro hl q hq
          rw [pairsM] at hq
          rcases List.mem_cons.1 hq with rfl | hq
          · intro i hi
            rcases List.mem_append.1 hi with hi | hi
            · exact hl c (by simp) i hi
            · exact hl d (by simp) i hi
          · exact ih2 (fun x hx => hl x (by simp [hx])) q hq
        | case2 l hne => intro hl q hq; rw [pairsM] at hq; simp at hq; all_goals exact hne
      exact this _ (inM_lt k) p hp i hi
theorem cntP_le {N i : Nat} : ∀ {l : List Pk}, (∀ p ∈ l, p.2.length ≤ N) → cntP l i ≤ l.length * N
  | [], h => by simp [cntP_nil]
  | p :: l, h => by
    rw [cntP_cons, List.length_cons, Nat.succ_mul]
    have h1 := cntP_le (l := l) (i := i) fun q hq => h q (by simp [hq])
    have h2 := h p (by simp)
    have h3 : p.2.count i ≤ p.2.length := List.count_le_length
    omega
theorem curL_congr {n : Nat} {U : List Nat} {c c' : Nat → Nat} (h : ∀ i, c i = c' i) : curL n U c = curL n U c' := by rw [show c = c' from funext h]
theorem lengths_spec {m : Nat} (hs : Sl H v 1 (numsV zs)) (hlen : zs.length ≤ 288) (hok : goodM zs = true) (h1 : 1 ≤ m) (h2 : m ≤ 15) (hn : (suppU zs zs.length).length ≤ 2 ^ m)
    (h : ∀ y ls H', lensOk zs m ls → Owns H H' [.sl y 1 (numsV ls)] → R (.tuple #[y, .int .i64 0]) H') : CallsH Tryz.prog 12 #[v, .int .i64 (m : Int)] H R := by
  have hz := goodM_iff.1 hok
  have hvl : (numsV zs).length = zs.length * 1 := by rw [numsV_len]; omega
  refine merge_Lengths.vc _ _ _ _ ?_
  unfold merge_Lengths.res
  refine wrong_spec hs hlen hok h1 h2 hn fun H1 hx1 => ?_
  rw [pNe_0, decide_eq_false (by simp), pCond_false]
  refine hs.len hvl (by decide) ?_
  refine ((Owns.start (H := H)).more hx1).make1 (by omega) (by omega) (by omega) fun out H2 o2 => ?_
  rw [Int.toNat_natCast, numsV_rep] at o2
  refine used_spec (hs.ext o2.ext) hlen fun y U H3 hU hsrt oU => ?_
  have o3 := o2.call oU
  have hUl := hU.length_eq
  have hsl := suppU_len zs zs.length
  have hUm : ∀ u ∈ U, u < zs.length := fun u hu => (suppU_mem.1 (hU.mem_iff.1 hu)).1
  have hUd : U.Nodup := hU.nodup_iff.2 (List.Nodup.sublist List.filter_sublist List.nodup_range)
  have hy := oU.sl (v := y) (by repeat (first | exact List.mem_cons_self | apply List.mem_cons_of_mem))
  have hyl : (idxV U).length = U.length * 1 := by rw [idxV_len]; omega
  refine hy.len hyl (by decide) ?_
  rw [pLt_v]
  refine pCond_if (fun hc => ?_) (fun hc => ?_)
  · refine hy.len hyl (by decide) ?_
    refine ⟨fun i H' => ∃ k : Nat, i = .int .i64 k ∧ k ≤ U.length ∧ Owns H H' (.sl y 1 (idxV U) :: .sl out 1 (numsV (curL zs.length (U.take k) fun _ => 1)) :: []), fun i _ => match i with | .int _ x => (U.length - x).toNat | _ => 0, ⟨0, rfl, by omega, ?_⟩, ?_⟩
    · have e : curL zs.length (U.take 0) (fun _ => 1) = List.replicate zs.length 0 := by
        refine List.ext_getElem (by simp [curL]) fun i g1 g2 => ?_
        rw [curL_at (by simpa [curL] using g1)]; simp
      rw [e]
      exact o3.arr (by repeat (first | exact Sels.nil | exact Sel.here | apply Sels.cons | apply Sel.there))
    rintro _ _ H4 ⟨k, rfl, hk, o⟩
    rw [pLt_v]
    refine pCond_if (fun hc2 => ?_) (fun hc2 => ?_)
    · have hk0 : k = 0 := by omega
      have hkn : 0 < U.length := by omega
      subst hk0
      refine (o.sl (v := y) (by repeat (first | exact List.mem_cons_self | apply List.mem_cons_of_mem))).at_ hyl (by decide) (by omega) (by omega) fun p hp => ?_
      refine hp.load (o.sl (v := y) (by repeat (first | exact List.mem_cons_self | apply List.mem_cons_of_mem))) (w := .int .i64 (U[0] : Nat)) (by simp [idxV, hkn]) ?_
      have hu0 := hUm _ (List.getElem_mem hkn)
      refine (o.sl (v := out) (by repeat (first | exact List.mem_cons_self | apply List.mem_cons_of_mem))).at_ (n := zs.length) (by rw [numsV_len, curL_len]; omega) (by decide) (by omega) (by omega) fun p hp => ?_
      rw [Int.toNat_natCast, Nat.mul_one] at hp
      refine o.store hp (by repeat (first | exact List.mem_cons_self | apply List.mem_cons_of_mem)) (by rw [numsV_len, curL_len]; exact hu0) rfl (by repeat (first | exact Rep.here | apply Rep.there)) fun H5 o5 _ => ?_
      rw [pAdd_v, w64 (by omega) (by omega)]
      refine ⟨⟨1, rfl, by omega, ?_⟩, by show (_ : Int).toNat < (_ : Int).toNat; omega⟩
      rw [numsV_set] at o5
      have e : (curL zs.length (U.take 0) fun _ => 1).set U[0] 1 = curL zs.length (U.take 1) fun _ => 1 := by
        have hU1 : U.take 1 = [U[0]] := by rw [List.take_add_one, List.getElem?_eq_getElem hkn]; rfl
        refine List.ext_getElem (by simp [curL]) fun i g1 g2 => ?_
        have hi : i < zs.length := by simpa [curL] using g2
        rw [List.getElem_set, curL_at hi, curL_at hi, hU1]
        by_cases e : U[0] = i
        · rw [if_pos e, if_pos (by simp [e])]; rfl
        · rw [if_neg e, if_neg (by simp), if_neg (by simpa using fun h => e h.symm)]
      rw [e] at o5
      exact o5
    · have hkU : k = U.length := by omega
      rw [hkU, List.take_length] at o
      exact h _ _ _ ⟨U, hU, hsrt, .inl ⟨by omega, rfl⟩⟩ (o.arr (by repeat (first | exact Sels.nil | exact Sel.here | apply Sels.cons | apply Sel.there)))
  · have hU2 : 2 ≤ U.length := by omega
    have hcl : (costs zs U).length = U.length := by simp [costs]
    have hcz : ∀ c ∈ costs zs U, c ≤ 1099511627776 := by
      intro c hc
      simp only [costs, List.mem_map] at hc
      obtain ⟨u, hu, rfl⟩ := hc
      have hun := hUm u hu
      rw [List.getD_eq_getElem?_getD, List.getElem?_eq_getElem hun]
      have := hz _ (List.getElem_mem hun)
      show (zs[u]).toNat ≤ _
      omega
    refine hy.len hyl (by decide) ?_
    have hs3 := hs.ext o3.ext
    refine ⟨fun lv i H' => ∃ (k : Nat) (cl : List Value), i = .int .i64 k ∧ k ≤ U.length ∧ Owns H3 H' [.sl lv 2 cl, .thing (pksT ((leavesM (costs zs U)).take k) cl)], fun _ i _ => match i with | .int _ x => (U.length - x).toNat | _ => 0, ⟨0, [], rfl, by omega, ?_⟩, ?_⟩
    · exact (Owns.start.add (Ext.refl _) (i := .thing (pksT [] [])) rfl (by rintro k ⟨_, hs, _⟩; simp at hs)).add (Ext.refl _) ⟨by decide, .inl ⟨rfl, rfl⟩⟩ (by intro k hk; exact absurd hk (by simp [It.foot, blkOf]))
    rintro _ lv _ H10 ⟨k, cl, rfl, hk, oL⟩
    rw [pLt_v]
    refine pCond_if (fun hc2 => ?_) (fun hc2 => ?_)
    · refine leaves_go hs3 hy hUm (by omega) hz (by omega) oL fun y2 cl2 H11 o5 => ?_
      rw [pAdd_v, w64 (by omega) (by omega)]
      exact ⟨⟨k + 1, cl2, rfl, by omega, o5⟩, by show (_ : Int).toNat < (_ : Int).toNat; omega⟩
    have hkU : k = U.length := by omega
    rw [hkU, List.take_of_length_le (by rw [leavesM_len, hcl]; omega)] at oL
    have sL := oL.sl (v := lv) (by repeat (first | exact List.mem_cons_self | apply List.mem_cons_of_mem))
    have pL : Pks H10 (leavesM (costs zs U)) cl := oL.thing (T := pksT _ _) (by repeat (first | exact List.mem_cons_self | apply List.mem_cons_of_mem))
    have bL : ∀ k, blkOf lv = some k → H3.size ≤ k := fun k hk => oL.newV (by repeat (first | exact List.mem_cons_self | apply List.mem_cons_of_mem)) hk
    have bP : ∀ k, inB cl k → H3.size ≤ k := fun k hk => oL.new (.thing (pksT (leavesM (costs zs U)) cl)) (by simp) k hk
    rw [pSub_v, w64 (by omega) (by omega)]
    refine ⟨fun lst i H' => ∃ (j : Nat) (cs : List Value), i = .int .i64 j ∧ j ≤ m - 1 ∧ Ext H10 H' ∧ Sl H' lst 2 cs ∧ Pks H' (listM (leavesM (costs zs U)) j) cs ∧ (∀ k, blkOf lst = some k → H3.size ≤ k) ∧ (∀ k, inB cs k → H3.size ≤ k),
      fun _ i _ => match i with | .int _ x => ((m : Int) - x).toNat | _ => 0, ⟨0, cl, rfl, by omega, Ext.refl _, sL, pL, bL, bP⟩, ?_⟩
    rintro _ lst _ H16 ⟨j, cs, rfl, hj, hx, sS, pS, bS, bQ⟩
    have hll := listM_len (leavesM (costs zs U)) (by rw [leavesM_len]; omega) j
    rw [leavesM_len, hcl] at hll
    have hbd := listM_bd hcz j
    have hpj : 2 ^ j ≤ 2 ^ 14 := Nat.pow_le_pow_right (by decide) (by omega)
    rw [pLt_v]
    refine pCond_if (fun hc3 => ?_) (fun hc3 => ?_)
    · refine pairs_spec sS pS (by omega) (fun p hp => by have := hbd p hp; generalize 2 ^ j = P at *; omega) fun y2 cs2 H17 o5 => ?_
      have pP : Pks H17 (pairsM (listM (leavesM (costs zs U)) j)) cs2 := o5.thing (T := pksT _ _) (by repeat (first | exact List.mem_cons_self | apply List.mem_cons_of_mem))
      have hbd2 := listM_bd hcz (j + 1)
      have hpj2 : 2 ^ (j + 1) ≤ 2 ^ 14 := Nat.pow_le_pow_right (by decide) (by omega)
      refine joined_spec (sL.ext (hx.trans o5.ext)) (o5.sl (v := y2) (by repeat (first | exact List.mem_cons_self | apply List.mem_cons_of_mem))) (pL.ext (hx.trans o5.ext)) pP (by rw [leavesM_len]; omega) (by rw [pairsM_len]; omega) (fun p hp => by have := hbd2 p (by rw [listM, joinM_mem]; exact hp); generalize 2 ^ (j + 1) = P at *; omega) fun y3 cs3 H18 o6 p6 hm6 => ?_
      rw [pAdd_v, w64 (by omega) (by omega)]
      have hsz := o5.ext.size
      have hsz2 := hx.size
      have hsz3 := oL.ext.size
      refine ⟨⟨j + 1, cs3, rfl, by omega, (hx.trans o5.ext).trans o6.ext, o6.sl (v := y3) (by repeat (first | exact List.mem_cons_self | apply List.mem_cons_of_mem)), p6.ext o6.ext, fun k hk => ?_, fun k hk => ?_⟩, by show (_ : Int).toNat < (_ : Int).toNat; omega⟩
      · have := o6.newV (v := y3) (by repeat (first | exact List.mem_cons_self | apply List.mem_cons_of_mem)) hk; omega
      · obtain ⟨s, hs, hk⟩ := hk
        rcases hm6 s hs with hs | hs
        · exact bP k ⟨s, hs, hk⟩
        · have := o5.new (.thing (pksT (pairsM (listM (leavesM (costs zs U)) j)) cs2)) (by simp) k ⟨s, hs, hk⟩; omega
    have hjm : j = m - 1 := by omega
    have hen := listM_enough (leavesM (costs zs U)) j (by rw [leavesM_len]; omega) (by rw [leavesM_len, hcl, hUl, hjm, show m - 1 + 1 = m by omega]; exact hn)
    rw [leavesM_len, hcl] at hen
    refine (hy.ext (oL.ext.trans hx)).len hyl (by decide) ?_
    rw [pMul_v, w64 (by omega) (by omega), pSub_v, w64 (by omega) (by omega), show 2 * ((U.length : Nat) : Int) - 2 = ((2 * U.length - 2 : Nat) : Int) by omega]
    refine cut_to sS (by decide) pS.len (by omega) fun cv hcv bcv => ?_
    have pT := pS.take (2 * U.length - 2)
    have hlT : ((listM (leavesM (costs zs U)) j).take (2 * U.length - 2)).length = 2 * U.length - 2 := by rw [List.length_take]; omega
    generalize hT : (listM (leavesM (costs zs U)) j).take (2 * U.length - 2) = T at pT hlT
    generalize hct : cs.take ((2 * U.length - 2) * 2) = ct at hcv pT
    have hcT : ct.length = (2 * U.length - 2) * 2 := by rw [pT.len, hlT]
    have bT : ∀ k, inB ct k → H3.size ≤ k := fun k ⟨s, hs, hk⟩ => bQ k ⟨s, by rw [← hct] at hs; exact List.mem_of_mem_take hs, hk⟩
    have hTm : ∀ p ∈ T, ∀ i ∈ p.2, i < U.length := fun p hp i hi => by
      rw [← hT] at hp
      have := inM_lt j p (List.mem_of_mem_take hp) i hi
      rwa [hcl] at this
    have hTl : ∀ p ∈ T, p.2.length ≤ 2 ^ j := fun p hp => (hbd p (by rw [← hT] at hp; exact List.mem_of_mem_take hp)).2
    have hlen16 : H2.size ≤ H3.size := oU.ext.size
    have hx16 : Ext H2 H16 := (oU.ext.trans oL.ext).trans hx
    have oF : Owns H H16 (.thing (frzT H2.size H16) :: .sl out 1 (numsV (List.replicate zs.length 0)) :: []) := o2.add hx16 (i := .thing (frzT H2.size H16)) (fun k _ _ => rfl) (fun k hk => hk.1)
    have hy16 := hy.ext (oL.ext.trans hx)
    have by16 : ∀ k, blkOf y = some k → H2.size ≤ k := fun k hk => oU.newV (v := y) (by repeat (first | exact List.mem_cons_self | apply List.mem_cons_of_mem)) hk
    refine hcv.len (n := 2 * U.length - 2) hcT (by decide) ?_
    refine ⟨fun i H' => ∃ t : Nat, i = .int .i64 t ∧ t ≤ 2 * U.length - 2 ∧ Owns H H' (.thing (frzT H2.size H16) :: .sl out 1 (numsV (curL zs.length U (cntP (T.take t)))) :: []), fun i _ => match i with | .int _ x => (2 * U.length - x).toNat | _ => 0, ⟨0, rfl, by omega, ?_⟩, ?_⟩
    · have e : curL zs.length U (cntP (T.take 0)) = List.replicate zs.length 0 := curL_zero (U := U)
      rw [e]; exact oF
    rintro _ _ H21 ⟨t, rfl, ht, o⟩
    rw [pLt_v]
    refine pCond_if (fun hc4 => ?_) (fun hc4 => ?_)
    · have htn : t < T.length := by omega
      obtain ⟨sv, a1, a2, a3, a4, a5, a6⟩ := pT.at_ (List.getElem?_eq_getElem htn)
      have hpl := hTl _ (List.getElem_mem htn)
      have hpm := hTm _ (List.getElem_mem htn)
      have bsv : ∀ k, blkOf sv = some k → H2.size ≤ k := fun k hk => by have := bT k ⟨sv, List.mem_of_getElem? a2, hk⟩; omega
      have bcv2 : ∀ k, blkOf cv = some k → H2.size ≤ k := fun k hk => by have := bS k (bcv k hk); omega
      have hcv2 : Sl H21 cv 2 ct := frz_sl (o.thing (T := frzT H2.size H16) (by repeat (first | exact List.mem_cons_self | apply List.mem_cons_of_mem))) hcv bcv2
      have htk : T.take (t + 1) = T.take t ++ [T[t]] := by rw [List.take_add_one, List.getElem?_eq_getElem htn]; rfl
      generalize T[t] = P at a1 a3 a5 a6 hpl hpm htk
      refine hcv2.at_ hcT (by decide) (by omega) (by omega) fun p hp => ?_
      rw [Int.toNat_natCast] at hp
      refine hp.loadN hcv2 (ws := [.int .i64 (P.1 : Int), sv]) a3 rfl ?_
      refine o.box fun pb H22 o22 _ => ?_
      refine o22.bstoreN (vs := [.int .i64 (P.1 : Int), sv]) (by repeat (first | exact List.mem_cons_self | apply List.mem_cons_of_mem)) rfl rfl (all_cons rfl (all_cons a4 rfl)) (by repeat (first | exact Rep.here | apply Rep.there)) fun H23 o23 _ => ?_
      rw [pFieldAddr_v, add_mk]
      refine o23.bload (b := pb) (f := 0 + 1) (by repeat (first | exact List.mem_cons_self | apply List.mem_cons_of_mem)) rfl ?_
      refine a5.len (n := P.2.length) (by rw [idxV_len]; omega) (by decide) ?_
      have o24 : Owns H H23 (.thing (frzT H2.size H16) :: .sl out 1 (numsV (curL zs.length U fun i => cntP (T.take t) i + (P.2.take 0).count i)) :: []) := by
        rw [curL_congr (c' := cntP (T.take t)) (fun i => by simp)]
        exact o23.arr (by repeat (first | exact Sels.nil | exact Sel.here | apply Sels.cons | apply Sel.there))
      have hp14 : 2 ^ j ≤ 2 ^ 14 := hpj
      refine ⟨fun i H' => ∃ q : Nat, i = .int .i64 q ∧ q ≤ P.2.length ∧ Owns H H' (.thing (frzT H2.size H16) :: .sl out 1 (numsV (curL zs.length U fun i => cntP (T.take t) i + (P.2.take q).count i)) :: []), fun i _ => match i with | .int _ x => (P.2.length - x).toNat | _ => 0, ⟨0, rfl, by omega, o24⟩, ?_⟩
      rintro _ _ H26 ⟨q, rfl, hq, o⟩
      rw [pLt_v]
      refine pCond_if (fun hc5 => ?_) (fun hc5 => ?_)
      · have hqn : q < P.2.length := by omega
        have hin := hpm _ (List.getElem_mem hqn)
        have hfz := o.thing (T := frzT H2.size H16) (by repeat (first | exact List.mem_cons_self | apply List.mem_cons_of_mem))
        have ssv := frz_sl hfz a5 bsv
        have syv := frz_sl hfz hy16 by16
        have hun := hUm _ (List.getElem_mem hin)
        refine ssv.at_ (n := P.2.length) (by rw [idxV_len]; omega) (by decide) (by omega) (by omega) fun p hp => ?_
        refine hp.load ssv (w := .int .i64 (P.2[q] : Nat)) (by rw [Int.toNat_natCast, Nat.mul_one]; simp [idxV, hqn]) ?_
        refine syv.at_ hyl (by decide) (by omega) (by omega) fun p hp => ?_
        refine hp.load syv (w := .int .i64 (U[P.2[q]] : Nat)) (by rw [Int.toNat_natCast, Nat.mul_one]; simp [idxV, hin]) ?_
        have so := o.sl (v := out) (by repeat (first | exact List.mem_cons_self | apply List.mem_cons_of_mem))
        refine so.at_ (n := zs.length) (by rw [numsV_len, curL_len]; omega) (by decide) (by omega) (by omega) fun p hp => ?_
        rw [Int.toNat_natCast, Nat.mul_one] at hp
        have hcur : (curL zs.length U fun i => cntP (T.take t) i + (P.2.take q).count i)[U[P.2[q]]]'(by rw [curL_len]; exact hun) = ((cntP (T.take t) P.2[q] + (P.2.take q).count P.2[q] : Nat) : Int) := by
          rw [curL_at hun, if_pos (List.getElem_mem hin), hUd.idxOf_getElem _ hin]
        refine hp.load so (w := .int .i64 ((cntP (T.take t) P.2[q] + (P.2.take q).count P.2[q] : Nat) : Int)) (by rw [numsV_get (by rw [curL_len]; exact hun), hcur]) ?_
        have hcb : cntP (T.take t) P.2[q] + (P.2.take q).count P.2[q] ≤ 10000000000 := by
          have c1 := cntP_le (l := T.take t) (N := 16384) (i := P.2[q]) fun p hp => Nat.le_trans (hTl p (List.mem_of_mem_take hp)) hpj
          have c2 : (P.2.take q).count P.2[q] ≤ (P.2.take q).length := List.count_le_length
          rw [List.length_take] at c1 c2
          have c3 : min t T.length * 16384 ≤ 576 * 16384 := Nat.mul_le_mul_right _ (by omega)
          have c4 := Nat.le_trans hpl hpj
          omega
        rw [pAdd_v, w64 (by omega) (by omega)]
        refine so.at_ (n := zs.length) (by rw [numsV_len, curL_len]; omega) (by decide) (by omega) (by omega) fun p hp => ?_
        rw [Int.toNat_natCast, Nat.mul_one] at hp
        refine o.store hp (by repeat (first | exact List.mem_cons_self | apply List.mem_cons_of_mem)) (by rw [numsV_len, curL_len]; exact hun) rfl (by repeat (first | exact Rep.here | apply Rep.there)) fun H27 o27 _ => ?_
        rw [pAdd_v, w64 (by omega) (by omega)]
        refine ⟨⟨q + 1, rfl, by omega, ?_⟩, by show (_ : Int).toNat < (_ : Int).toNat; omega⟩
        rw [numsV_set, ← curL_set (c' := fun i => cntP (T.take t) i + (P.2.take (q + 1)).count i) hUd hin hun (cnt_step _ P q hqn)] at o27
        exact o27
      · have hqP : q = P.2.length := by omega
        subst hqP
        rw [pAdd_v, w64 (by omega) (by omega)]
        refine ⟨⟨t + 1, rfl, by omega, ?_⟩, by show (_ : Int).toNat < (_ : Int).toNat; omega⟩
        rw [curL_congr (c' := cntP (T.take (t + 1))) (fun i => by rw [htk, cntP_append, List.take_length]; show _ = _ + cntP [P] i; rw [cntP_cons, cntP_nil, Nat.add_zero])] at o
        exact o
    · have htT : t = T.length := by omega
      subst htT
      rw [List.take_length] at o
      refine h _ _ _ ⟨U, hU, hsrt, .inr ⟨hU2, ?_⟩⟩ (o.arr (by repeat (first | exact Sels.nil | exact Sel.here | apply Sels.cons | apply Sel.there)))
      refine curL_congr fun i => ?_
      unfold lenM
      rw [← hT, hjm, hcl]
end Go.Proofs.YtameljhbkedhjaaGreatDoor
namespace Go.Proofs.YtameljhbkedhjaaGreatDoor
open Go Go.Vc Go.Proofs
set_option linter.unusedVariables false
set_option linter.unusedSimpArgs false
variable {zs : List Int}
theorem sum_filterU (p : Nat → Bool) (h : Nat → Nat) : ∀ l : List Nat, ((l.filter p).map h).sum = (l.map fun s => if p s = true then h s else 0).sum
  | [] => rfl
  | a :: l => by
    rw [List.filter_cons, List.map_cons, List.sum_cons, ← sum_filterU p h l]
    by_cases e : p a = true
    · rw [if_pos e, if_pos e, List.map_cons, List.sum_cons]
    · rw [if_neg e, if_neg e, Nat.zero_add]
theorem sumTo_range (f : Nat → Nat) : ∀ n, ((List.range n).map f).sum = sumTo f n
  | 0 => rfl
  | n + 1 => by rw [List.range_succ, List.map_append, List.sum_append, sumTo_range f n]; simp [sumTo]
theorem sumTo_mul (a : Nat) (f : Nat → Nat) : ∀ n, sumTo (fun i => a * f i) n = a * sumTo f n
  | 0 => rfl
  | n + 1 => by rw [sumTo, sumTo, sumTo_mul a f n, Nat.mul_add]
theorem natL_curL {n : Nat} {U : List Nat} {c : Nat → Nat} : natL (curL n U c) = (List.range n).map fun s => if s ∈ U then c (U.idxOf s) else 0 := by
  unfold natL curL
  rw [List.map_map]
  refine List.map_congr_left fun s _ => ?_
  show (if s ∈ U then ((c (U.idxOf s) : Nat) : Int) else 0).toNat = _
  by_cases h : s ∈ U
  · rw [if_pos h, if_pos h, Int.toNat_natCast]
  · rw [if_neg h, if_neg h]; rfl
theorem sum_curL {U : List Nat} {c f : Nat → Nat} (hU : U.Perm (suppU zs zs.length)) (hd : U.Nodup) (h0 : f 0 = 0) :
    ((natL (curL zs.length U c)).map f).sum = sumTo (fun i => f (c i)) U.length := by
  rw [natL_curL, List.map_map]
  have e1 : (List.range zs.length).map (f ∘ fun s => if s ∈ U then c (U.idxOf s) else 0) = (List.range zs.length).map fun s => if decide (0 < zs.getD s 0) = true then f (c (U.idxOf s)) else 0 := by
    refine List.map_congr_left fun s hs => ?_
    have hsl := List.mem_range.1 hs
    show f (if s ∈ U then c (U.idxOf s) else 0) = _
    by_cases h : 0 < zs.getD s 0
    · rw [if_pos (hU.mem_iff.2 (suppU_mem.2 ⟨hsl, h⟩)), if_pos (by simpa using h)]
    · rw [if_neg (fun hm => h (suppU_mem.1 (hU.mem_iff.1 hm)).2), if_neg (by simpa using h), h0]
  rw [e1, ← sum_filterU]
  have e2 := (hU.map fun s => f (c (U.idxOf s))).sum_nat
  rw [show List.filter (fun s => decide (0 < zs.getD s 0)) (List.range zs.length) = suppU zs zs.length from rfl, ← e2, ← sumTo_range]
  congr 1
  refine List.ext_getElem (by simp) fun i h1 h2 => ?_
  have hi : i < U.length := by simpa using h1
  rw [List.getElem_map, List.getElem_map, List.getElem_range, hd.idxOf_getElem i hi]
theorem costs_srt {U : List Nat} (h : srtU zs U) : (costs zs U).Pairwise (· ≤ ·) := by
  unfold costs
  rw [List.pairwise_map]
  exact List.Pairwise.imp (fun h => by omega) h
theorem lensOk_facts {m : Nat} {ls : List Int} (h : lensOk zs m ls) (h1 : 1 ≤ m) (h2 : m ≤ 15) (hn : (suppU zs zs.length).length ≤ 2 ^ m) :
    ls.length = zs.length ∧ (∀ s, s < zs.length → if 0 < zs.getD s 0 then 1 ≤ ls.getD s 0 ∧ ls.getD s 0 ≤ m else ls.getD s 0 = 0) ∧
    (2 ≤ (suppU zs zs.length).length → shareL (natL ls) 15 = 32768) ∧ ((suppU zs zs.length).length < 2 → shareL (natL ls) 15 = (suppU zs zs.length).length * 16384 ∧ ∀ s, s < zs.length → ls.getD s 0 ≤ 1) ∧ nzL (natL ls) = (suppU zs zs.length).length := by
  obtain ⟨U, hU, hs, hcase⟩ := h
  have hUd : U.Nodup := hU.nodup_iff.2 (List.Nodup.sublist List.filter_sublist List.nodup_range)
  have hUl := hU.length_eq
  have key : ∃ c : Nat → Nat, ls = curL zs.length U c ∧ (∀ i, i < U.length → 1 ≤ c i ∧ c i ≤ m) ∧ (U.length < 2 → ∀ i, c i = 1) ∧ (2 ≤ U.length → sumTo (fun i => 2 ^ (m - c i)) U.length = 2 ^ m) := by
    rcases hcase with ⟨hlt, e⟩ | ⟨hge, e⟩
    · exact ⟨fun _ => 1, e, fun i _ => ⟨Nat.le_refl _, h1⟩, fun _ _ => rfl, fun h => by omega⟩
    · have hcl : (costs zs U).length = U.length := by simp [costs]
      have hk := lenM_kraft (cs := costs zs U) (k := m - 1) (costs_srt hs) (by omega) (by rw [hcl, hUl, show m - 1 + 1 = m by omega]; exact hn)
      rw [hcl, show m - 1 + 1 = m by omega] at hk
      exact ⟨_, e, hk.2, fun h => by omega, fun _ => hk.1⟩
  obtain ⟨c, rfl, hc1, hc2, hc3⟩ := key
  have hget : ∀ s, s < zs.length → (curL zs.length U c).getD s 0 = if s ∈ U then ((c (U.idxOf s) : Nat) : Int) else 0 := fun s hs => by
    rw [List.getD_eq_getElem?_getD, List.getElem?_eq_getElem (by rw [curL_len]; exact hs), Option.getD_some, curL_at hs]
  refine ⟨curL_len, fun s hsl => ?_, fun hge => ?_, fun hlt => ⟨?_, fun s hsl => ?_⟩, ?_⟩
  · rw [hget s hsl]
    by_cases h : 0 < zs.getD s 0
    · have hm : s ∈ U := hU.mem_iff.2 (suppU_mem.2 ⟨hsl, h⟩)
      have := hc1 _ (List.idxOf_lt_length_of_mem hm)
      rw [if_pos h, if_pos hm]; omega
    · rw [if_neg h, if_neg (fun hm => h (suppU_mem.1 (hU.mem_iff.1 hm)).2)]
  · unfold shareL
    rw [sum_curL hU hUd (f := fun k => if 1 ≤ k ∧ k ≤ 15 then 2 ^ (15 - k) else 0) rfl]
    rw [sumTo_congr (g := fun i => 2 ^ (15 - m) * 2 ^ (m - c i)) (fun i hi => by
      have := hc1 i hi
      show (if 1 ≤ c i ∧ c i ≤ 15 then 2 ^ (15 - c i) else 0) = _
      rw [if_pos (by omega), ← Nat.pow_add, show 15 - m + (m - c i) = 15 - c i by omega]), sumTo_mul, hc3 (by omega), ← Nat.pow_add, show 15 - m + m = 15 by omega]
  · unfold shareL
    rw [sum_curL hU hUd (f := fun k => if 1 ≤ k ∧ k ≤ 15 then 2 ^ (15 - k) else 0) rfl, sumTo_congr (g := fun i => if i < U.length then 16384 else 0) (fun i hi => by
      show (if 1 ≤ c i ∧ c i ≤ 15 then 2 ^ (15 - c i) else 0) = _
      rw [hc2 (by omega) i, if_pos hi]; rfl), sumTo_first _ _ (Nat.le_refl _), hUl]
  · rw [hget s hsl]
    split
    · rw [hc2 (by omega)]; decide
    · decide
  · have e : ∀ l : List Nat, nzL l = (l.map fun k => if k = 0 then 0 else 1).sum := fun l => by
      induction l with
      | nil => rfl
      | cons a l ih =>
        unfold nzL at ih ⊢
        rw [List.countP_cons, List.map_cons, List.sum_cons, ih]
        by_cases h : a = 0 <;> simp [h]; omega
    rw [e, sum_curL hU hUd (f := fun k => if k = 0 then 0 else 1) rfl, sumTo_congr (g := fun i => if i < U.length then 1 else 0) (fun i hi => by
      have := hc1 i hi
      show (if c i = 0 then 0 else 1) = _
      rw [if_neg (by omega), if_pos hi]), sumTo_first _ _ (Nat.le_refl _)]
    omega
end Go.Proofs.YtameljhbkedhjaaGreatDoor
namespace Go.Proofs.YtameljhbkedhjaaGreatDoor
open Go Go.Vc Go.Proofs
set_option linter.unusedVariables false
set_option maxHeartbeats 4000000
def lightertop_TopBlocks.an : Ann := (.seq (.reg (.op 0 [] .nil)) (.seq (.seq (.reg (.op 0 [] (.op 1 [] .nil))) (.cond (.seq (.reg (.op 0 [] .nil)) .leaf) .leaf)) (.seq (.reg (.op 0 [] .nil)) (.seq (.reg (.op 0 [] .nil)) (.seq (.seq (.reg (.op 0 [] .nil)) (.block (.loop [6, 7] [4, 6, 7, 8, 9, 10, 11, 12, 21, 22, 23, 24, 25, 26, 27, 28, 29, 30, 31, 32, 33, 34, 35, 36, 37, 38, 39, 40, 41, 42, 43, 44, 45, 46, 47, 48, 49, 50, 51, 52, 53, 54, 55, 56, 57, 58, 59, 60, 61, 62, 63, 64, 65, 66, 67, 68, 69, 70, 71, 72, 73, 74, 75, 76, 77, 78, 79, 80, 81, 82, 83, 84, 85, 86, 87, 88, 89, 90, 91, 92, 93, 94, 95, 96, 97, 98, 99, 100, 101, 102, 103, 104, 105, 106, 107, 108, 109, 110, 111, 112] (.seq (.seq (.reg (.op 0 [] (.op 1 [] (.op 2 [] (.op 3 [] (.op 4 [] (.grp 4 (.op 5 [] (.op 6 [] .nil)) 7 .nil))))))) (.cond .leaf .leaf)) (.seq (.block (.seq (.drw [0, 0, 3, 7, 15, 0, 0, 96, 224, 480, 992, 2016, 4095, 8191] (.op 0 [] (.op 1 [] (.op 2 [] (.op 3 [] (.op 4 [] (.op 5 [] (.op 6 [] (.op 7 [] (.op 8 [] (.op 9 [] (.op 10 [] (.op 11 [] (.op 12 [] (.op 13 [] .nil))))))))))))))) (.seq (.reg (.op 0 [] .nil)) (.seq (.seq (.reg (.op 0 [] .nil)) (.block (.loop [9, 10] [9, 10, 44, 45, 46, 47, 48, 49, 50, 51, 52, 53, 54, 55, 56] (.seq (.seq (.reg (.op 0 [] (.op 1 [] (.op 2 [] (.op 3 [] .nil))))) (.cond .leaf .leaf)) (.seq (.block (.reg (.op 0 [] (.op 1 [] (.op 2 [] (.op 3 [] (.op 4 [] (.op 5 [] (.op 6 [] (.op 7 [] .nil)))))))))) (.reg (.op 0 [] (.op 1 [] (.op 2 [] .nil))))))))) (.cut [8, 9] [8, 9, 11, 12, 57, 58, 59, 60, 61, 62, 63, 64, 65, 66, 67, 68, 69, 70, 71, 72, 73, 74, 75, 76, 77, 78, 79, 80, 81, 82, 83, 84, 85, 86, 87, 88, 89, 90, 91, 92, 93, 94, 95, 96, 97, 98] (.seq (.reg (.op 0 [] (.op 1 [] (.op 2 [] (.op 3 [] .nil))))) (.seq (.reg (.op 0 [] (.op 1 [] (.op 2 [] (.op 3 [] (.op 4 [] (.op 5 [] (.op 6 [] (.op 7 [] (.grp 7 (.op 8 [] (.op 9 [] (.op 10 [] (.op 11 [] (.op 12 [] (.op 13 [] (.op 14 [] (.op 15 [] .nil)))))))) 16 (.op 17 [] (.grp 17 (.op 18 [] (.op 19 [] (.op 20 [] .nil))) 21 .nil)))))))))))) (.cond (.seq (.reg (.op 0 [] (.op 1 [] (.op 2 [] (.op 3 [] .nil))))) (.seq (.reg (.op 0 [] (.op 1 [] (.op 2 [] (.op 3 [] (.op 4 [] (.op 5 [] (.op 6 [] .nil)))))))) (.reg (.op 0 [] (.op 1 [] (.op 2 [] (.op 3 [] (.op 4 [] (.op 5 [] (.op 6 [] (.op 7 [] (.op 8 [] .nil)))))))))))) .leaf))) (.seq (.seq (.reg (.op 0 [] (.op 1 [] (.op 2 [] (.op 3 [] (.op 4 [] (.op 5 [] (.op 6 [] (.op 7 [] (.op 8 [] (.op 9 [] (.op 10 [] .nil)))))))))))) (.cond (.seq (.reg (.op 0 [] .nil)) .leaf) .leaf)) (.reg (.op 0 [] (.op 1 [] (.op 2 [] (.op 3 [] .nil))))))))))) (.reg (.op 0 [] (.op 1 [] (.op 2 [] .nil))))))))) (.seq (.reg (.op 0 [] .nil)) (.seq (.reg (.op 0 [] .nil)) (.seq (.reg (.op 0 [] (.op 1 [] .nil))) (.seq (.reg (.op 0 [] (.op 1 [] (.op 2 [] (.op 3 [] .nil))))) (.seq (.reg (.op 0 [] (.op 1 [] .nil))) (.seq (.reg (.op 0 [] .nil)) (.seq (.seq (.reg (.op 0 [] .nil)) (.block (.loop [15, 16] [4, 15, 16, 17, 18, 120, 121, 122, 123, 124, 125, 126, 127, 128, 129, 130, 131, 132, 133, 134, 135, 136, 137, 138, 139, 140, 141, 142, 143, 144, 145] (.seq (.seq (.reg (.op 0 [] (.op 1 [] (.op 2 [] (.op 3 [] .nil))))) (.cond .leaf .leaf)) (.seq (.block (.seq (.reg (.op 0 [] (.op 1 [] (.op 2 [] (.op 3 [] (.op 4 [] (.op 5 [] (.op 6 [] (.op 7 [] (.op 8 [] (.op 9 [] (.op 10 [] (.op 11 [] (.op 12 [] (.op 13 [] (.op 14 [] (.op 15 [] .nil))))))))))))))))) (.seq (.seq (.reg (.op 0 [] (.op 1 [] .nil))) (.cond (.seq (.reg (.op 0 [] .nil)) .leaf) .leaf)) (.reg (.op 0 [] (.op 1 [] (.op 2 [] (.op 3 [] .nil)))))))) (.reg (.op 0 [] (.op 1 [] (.op 2 [] (.op 3 [] .nil)))))))))) (.seq (.reg (.op 0 [] (.op 1 [] (.op 2 [] (.grp 2 (.op 3 [] (.op 4 [] (.op 5 [] .nil))) 6 (.op 7 [] .nil)))))) .leaf)))))))))))))
def lightertop_TopBlocks.res (l0 : Value) (cut1 : Value) (H0 : Heap) (R : Value → Heap → Prop) : Prop :=
 CallsH Tryz.prog 5 #[] H0 fun x19 H_1 =>
 pNot x19 fun x20 =>
 pCond x20
 (R (.bool false) H_1)
 (pBox H_1 27 (.agg #[(.slice none 0 0), (.int .u64 0), (.int .i64 0)]) fun w5 H_2 =>
 ∃ (I_3 : Value → Value → Heap → Prop) (m_4 : Value → Value → Heap → Nat), I_3 (str []) (.int .i64 0) H_2 ∧
 ∀ _ : Env, ∀ want6 : Value, ∀ i7 : Value, ∀ H_5 : Heap, I_3 want6 i7 H_5 →
 pLen l0 fun x23 =>
 pLt i7 x23 fun x24 =>
 pAnd x24 (fun J_6 =>
 pLt i7 (.int .i64 12) fun x27 =>
 J_6 x27 H_5) H_5 fun x28 H_7 => ∀ _ : Env,
 pCond x28
 (pIdxSl 2 l0 i7 fun x33 =>
 pFieldAddr 0 x33 fun x34 =>
 pLoad H_7 x34 fun x35 =>
 pIdxSl 2 l0 i7 fun x38 =>
 pFieldAddr 0 x38 fun x39 =>
 pLoad H_7 x39 fun x40 =>
 pLenS x40 fun x41 =>
 pMin x41 (.int .i64 200) fun x42 =>
 pSlStr x35 none (some x42) fun x43 =>
 ∃ (I_8 : Value → Value → Heap → Prop) (m_9 : Value → Value → Heap → Nat), I_8 (.slice none 0 0) (.int .i64 0) H_7 ∧
 ∀ _ : Env, ∀ t9 : Value, ∀ k10 : Value, ∀ H_10 : Heap, I_8 t9 k10 H_10 →
 pLenS x43 fun x46 =>
 pLt k10 x46 fun x47 =>
 pCond x47
 (pIdxStr x43 k10 fun x53 =>
 pBuild [(.int .u8 0), (.int .i64 0), (.int .i64 0)] [(0, 1, x53)] fun x54 =>
 pBuildSl H_10 32 1 [(.int .u8 0), (.int .i64 0), (.int .i64 0)] [(0, 3, x54)] fun x55 H_11 =>
 pAppend H_11 32 3 24 [(.int .u8 0), (.int .i64 0), (.int .i64 0)] t9 x55 fun x56 H_12 =>
 pAdd k10 (.int .i64 1) fun x49 =>
 I_8 x56 x49 H_12 ∧ m_9 x56 x49 H_12 < m_9 t9 k10 H_10)
 (∃ J_13 : Value → Value → Heap → Prop, (∀ _ : Env, ∀ s8 : Value, ∀ t9' : Value, ∀ H_14 : Heap, J_13 s8 t9' H_14 →
 pIdxSl 2 l0 i7 fun x101 =>
 pFieldAddr 1 x101 fun x102 =>
 pLoad H_14 x102 fun x103 =>
 pBits .and x103 (.int .i64 3) fun x104 =>
 pRem x104 (.int .i64 3) fun x105 =>
 CallsH Tryz.prog 6 #[w5, x105, (.bool false), s8, t9'] H_14 fun x108 H_15 =>
 pNe 0 x108 (.int .i64 0) fun x109 =>
 pCond x109
 (R (.bool false) H_15)
 (pAdd want6 s8 fun x112 =>
 pAdd i7 (.int .i64 1) fun x30 =>
 I_3 x112 x30 H_15 ∧ m_4 x112 x30 H_15 < m_4 want6 i7 H_5)) ∧
 pAdd want6 x43 fun x59 =>
 pIdxSl 2 l0 i7 fun x62 =>
 pFieldAddr 1 x62 fun x63 =>
 pLoad H_10 x63 fun x64 =>
 pBits .and x64 (.int .i64 8) fun x65 =>
 pGt x65 (.int .i64 0) fun x66 =>
 pAnd x66 (fun J_16 =>
 pIdxSl 2 l0 i7 fun x70 =>
 pFieldAddr 1 x70 fun x71 =>
 pLoad H_10 x71 fun x72 =>
 pBits .and x72 (.int .i64 3) fun x73 =>
 pRem x73 (.int .i64 3) fun x74 =>
 pGt x74 (.int .i64 0) fun x75 =>
 J_16 x75 H_10) H_10 fun x76 H_17 => ∀ _ : Env,
 pAnd x76 (fun J_18 =>
 pLenS x59 fun x79 =>
 pGe x79 (.int .i64 3) fun x80 =>
 J_18 x80 H_17) H_17 fun x81 H_19 => ∀ _ : Env,
 pCond x81
 (pLenS x59 fun x83 =>
 pMin x83 (.int .i64 258) fun x84 =>
 pBuild [(.int .u8 0), (.int .i64 0), (.int .i64 0)] [(1, 1, x84), (2, 1, x84)] fun x88 =>
 pBuildSl H_19 32 1 [(.int .u8 0), (.int .i64 0), (.int .i64 0)] [(0, 3, x88)] fun x89 H_20 =>
 pAppend H_20 32 3 24 [(.int .u8 0), (.int .i64 0), (.int .i64 0)] t9 x89 fun x90 H_21 =>
 pLenS x59 fun x94 =>
 pSub x94 x84 fun x96 =>
 pSlStr x59 (some x96) none fun x97 =>
 pAdd x43 x97 fun x98 =>
 J_13 x98 x90 H_21)
 (J_13 x43 t9 H_19)))
 (CallsH Tryz.prog 6 #[w5, (.int .i64 1), (.bool true), (str []), (.slice none 0 0)] H_7 fun x113 H_22 =>
 CallsH Tryz.prog 7 #[w5] H_22 fun x114 H_23 =>
 CallsH Tryz.prog 8 #[w5] H_23 fun x115 H_24 =>
 pBits .and cut1 (.int .i64 31) fun x117 =>
 pAdd (.int .i64 1) x117 fun x118 =>
 CallsH Tryz.prog 9 #[] H_24 fun x119 H_25 =>
 ∃ (I_26 : Value → Value → Heap → Prop) (m_27 : Value → Value → Heap → Nat), I_26 (str []) (.int .i64 0) H_25 ∧
 ∀ _ : Env, ∀ got15 : Value, ∀ at16 : Value, ∀ H_28 : Heap, I_26 got15 at16 H_28 →
 pLenS x115 fun x122 =>
 pLt at16 x122 fun x123 =>
 pCond x123
 (pAdd at16 x118 fun x133 =>
 pLenS x115 fun x135 =>
 pMin x133 x135 fun x136 =>
 pSlStr x115 (some at16) (some x136) fun x137 =>
 CallsH Tryz.prog 10 #[x119, x137] H_28 fun x138 H_29 =>
 pExtract 0 x138 fun x139 =>
 pExtract 1 x138 fun x140 =>
 pNe 0 x140 (.int .i64 0) fun x142 =>
 pCond x142
 (R (.bool false) H_29)
 (pAdd got15 x139 fun x145 =>
 pAdd at16 x118 fun x126 =>
 I_26 x145 x126 H_29 ∧ m_27 x145 x126 H_29 < m_27 got15 at16 H_28))
 (CallsH Tryz.prog 11 #[x119] H_28 fun x147 H_30 =>
 pAnd x147 (fun J_31 =>
 pEq 1 got15 want6 fun x151 =>
 J_31 x151 H_30) H_30 fun x152 H_32 => ∀ _ : Env,
 R x152 H_32)))
set_option maxRecDepth 100000 in
theorem lightertop_TopBlocks.vc (l0 : Value) (cut1 : Value) (H0 : Heap) (R : Value → Heap → Prop) (h : lightertop_TopBlocks.res l0 cut1 H0 R) : CallsH Tryz.prog 3 #[l0, cut1] H0 R := by
  have e : vcFn Tryz.prog Tryz.C Tryz.f3 lightertop_TopBlocks.an [l0, cut1] H0 R = lightertop_TopBlocks.res l0 cut1 H0 R := by kernel_rfl
  exact vcFn_sound Tryz.callable Tryz.mixed Tryz.func3 (by kernel_rfl) (e.mpr h)
def lightertop_TopCodes.an : Ann := (.seq (.reg (.op 0 [] .nil)) (.seq (.seq (.reg (.op 0 [] (.op 1 [] .nil))) (.cond (.seq (.reg (.op 0 [] .nil)) .leaf) .leaf)) (.seq (.reg (.op 0 [] (.op 1 [] (.op 2 [] (.op 3 [] (.op 4 [] (.op 5 [] (.op 6 [] (.op 7 [] .nil))))))))) (.seq (.seq (.reg (.op 0 [] .nil)) (.block (.loop [3] [3, 25, 26, 27, 28, 29, 30, 31, 32, 33, 34, 35, 36] (.seq (.seq (.reg (.op 0 [] (.op 1 [] (.op 2 [] (.op 3 [] .nil))))) (.cond .leaf .leaf)) (.seq (.block (.reg (.op 0 [] (.op 1 [] (.op 2 [] (.op 3 [] (.op 4 [] (.op 5 [] (.op 6 [] .nil))))))))) (.reg (.op 0 [] (.op 1 [] (.op 2 [] .nil))))))))) (.seq (.reg (.op 0 [] (.op 1 [] (.op 2 [] (.op 3 [] (.op 4 [] (.op 5 [] (.op 6 [] .nil)))))))) (.seq (.reg (.op 0 [] (.op 1 [] (.op 2 [] (.op 3 [] (.op 4 [] (.op 5 [] (.op 6 [] .nil)))))))) (.seq (.seq (.reg (.op 0 [] (.op 1 [] (.op 2 [] (.grp 2 (.op 3 [] (.op 4 [] .nil)) 5 .nil))))) (.cond (.seq (.reg (.op 0 [] .nil)) .leaf) .leaf)) (.seq (.reg (.op 0 [] .nil)) (.seq (.reg (.op 0 [] .nil)) (.seq (.seq (.reg (.op 0 [] .nil)) (.block (.loop [9, 10] [9, 10, 11, 53, 54, 55, 56, 57, 58, 59, 60, 61, 62, 63, 64, 65, 66, 67, 68, 69, 70, 71, 72, 73] (.seq (.seq (.reg (.op 0 [] (.op 1 [] (.op 2 [] (.op 3 [] .nil))))) (.cond .leaf .leaf)) (.seq (.block (.seq (.reg (.op 0 [] .nil)) (.block (.loop [9, 11] [9, 11, 59, 60, 61, 62, 63, 64, 65, 66, 67, 68, 69, 70, 71, 72, 73] (.seq (.seq (.reg (.op 0 [] (.op 1 [] (.op 2 [] (.op 3 [] (.op 4 [] (.op 5 [] .nil))))))) (.cond .leaf .leaf)) (.seq (.block (.seq (.reg (.op 0 [] (.op 1 [] (.op 2 [] .nil)))) (.reg (.op 0 [] (.op 1 [] (.op 2 [] (.op 3 [] (.op 4 [] .nil)))))))) (.reg (.op 0 [] (.op 1 [] (.op 2 [] .nil)))))))))) (.reg (.op 0 [] (.op 1 [] (.op 2 [] .nil))))))))) (.seq (.seq (.reg (.op 0 [] (.op 1 [] (.op 2 [] (.op 3 [] (.op 4 [] .nil)))))) (.cond (.seq (.reg (.op 0 [] .nil)) .leaf) .leaf)) (.seq (.reg (.op 0 [] .nil)) (.seq (.reg (.op 0 [] .nil)) (.seq (.reg (.op 0 [] (.op 1 [] .nil))) (.seq (.seq (.reg (.op 0 [] .nil)) (.block (.loop [13] [2, 13, 14, 15, 82, 83, 84, 85, 86, 87, 88, 89, 90, 91, 92, 93, 94, 95, 96, 97, 98, 99, 100, 101, 102] (.seq (.seq (.reg (.op 0 [] (.op 1 [] (.op 2 [] (.op 3 [] .nil))))) (.cond .leaf .leaf)) (.seq (.block (.seq (.reg (.op 0 [] (.op 1 [] (.op 2 [] (.op 3 [] (.op 4 [] (.op 5 [] (.op 6 [] .nil)))))))) (.seq (.reg (.op 0 [] (.op 1 [] (.op 2 [] (.grp 2 (.op 3 [] (.op 4 [] (.op 5 [] (.op 6 [] (.op 7 [] (.op 8 [] .nil)))))) 9 .nil))))) (.cond (.seq (.reg (.op 0 [] .nil)) .leaf) .leaf)))) (.reg (.op 0 [] (.op 1 [] (.op 2 [] .nil))))))))) (.seq (.reg (.op 0 [] (.op 1 [] (.op 2 [] .nil)))) .leaf))))))))))))))))
def lightertop_TopCodes.res (counts0 : Value) (H0 : Heap) (R : Value → Heap → Prop) : Prop :=
 CallsH Tryz.prog 5 #[] H0 fun x16 H_1 =>
 pNot x16 fun x17 =>
 pCond x17
 (R (.bool false) H_1)
 (pBuildSl H_1 3 0 [] [] fun x18 H_2 =>
 pLen counts0 fun x21 =>
 pMin x21 (.int .i64 40) fun x22 =>
 pSlSl 1 counts0 none (some x22) fun x23 =>
 pAppend H_2 3 1 8 [(.int .i64 0)] x18 x23 fun x24 H_3 =>
 ∃ (I_4 : Value → Heap → Prop) (m_5 : Value → Heap → Nat), I_4 (.int .i64 0) H_3 ∧
 ∀ _ : Env, ∀ i3 : Value, ∀ H_6 : Heap, I_4 i3 H_6 →
 pLen x24 fun x27 =>
 pLt i3 x27 fun x28 =>
 pCond x28
 (pIdxSl 1 x24 i3 fun x33 =>
 pLoad H_6 x33 fun x34 =>
 pBits .and x34 (.int .i64 15) fun x35 =>
 pIdxSl 1 x24 i3 fun x36 =>
 pStore H_6 x36 x35 fun _ H_7 =>
 pAdd i3 (.int .i64 1) fun x30 =>
 I_4 x30 H_7 ∧ m_5 x30 H_7 < m_5 i3 H_6)
 (CallsH Tryz.prog 12 #[x24, (.int .i64 15)] H_6 fun x39 H_8 =>
 pExtract 0 x39 fun x40 =>
 pExtract 1 x39 fun x41 =>
 CallsH Tryz.prog 13 #[x40, (.bool true)] H_8 fun x44 H_9 =>
 pExtract 0 x44 fun x45 =>
 pExtract 1 x44 fun x46 =>
 pNe 0 x41 (.int .i64 0) fun x48 =>
 pOr x48 (fun J_10 =>
 pNe 0 x46 (.int .i64 0) fun x51 =>
 J_10 x51 H_9) H_9 fun x52 H_11 => ∀ _ : Env,
 pCond x52
 (R (.bool false) H_11)
 (pBox H_11 27 (.agg #[(.slice none 0 0), (.int .u64 0), (.int .i64 0)]) fun w8 H_12 =>
 ∃ (I_13 : Value → Value → Heap → Prop) (m_14 : Value → Value → Heap → Nat), I_13 (.slice none 0 0) (.int .i64 0) H_12 ∧
 ∀ _ : Env, ∀ all9 : Value, ∀ s10 : Value, ∀ H_15 : Heap, I_13 all9 s10 H_15 →
 pLen x24 fun x55 =>
 pLt s10 x55 fun x56 =>
 pCond x56
 (∃ (I_16 : Value → Value → Heap → Prop) (m_17 : Value → Value → Heap → Nat), I_16 all9 (.int .i64 0) H_15 ∧
 ∀ _ : Env, ∀ all9' : Value, ∀ i11 : Value, ∀ H_18 : Heap, I_16 all9' i11 H_18 →
 pIdxSl 1 x24 s10 fun x62 =>
 pLoad H_18 x62 fun x63 =>
 pLt i11 x63 fun x64 =>
 pCond x64
 (CallsH Tryz.prog 14 #[x45, w8, s10] H_18 fun x69 H_19 =>
 pBuildSl H_19 3 1 [(.int .i64 0)] [(0, 1, s10)] fun x72 H_20 =>
 pAppend H_20 3 1 8 [(.int .i64 0)] all9' x72 fun x73 H_21 =>
 pAdd i11 (.int .i64 1) fun x66 =>
 I_16 x73 x66 H_21 ∧ m_17 x73 x66 H_21 < m_17 all9' i11 H_18)
 (pAdd s10 (.int .i64 1) fun x58 =>
 I_13 all9' x58 H_18 ∧ m_14 all9' x58 H_18 < m_14 all9 s10 H_15))
 (CallsH Tryz.prog 15 #[w8] H_15 fun x74 H_22 =>
 CallsH Tryz.prog 16 #[x24, x40] H_22 fun x77 H_23 =>
 pNe 0 x74 x77 fun x78 =>
 pCond x78
 (R (.bool false) H_23)
 (CallsH Tryz.prog 7 #[w8] H_23 fun x79 H_24 =>
 pBox H_24 52 (.agg #[(str []), (.int .u64 0), (.int .i64 0)]) fun r12 H_25 =>
 CallsH Tryz.prog 8 #[w8] H_25 fun x80 H_26 =>
 CallsH Tryz.prog 17 #[r12, x80] H_26 fun x81 H_27 =>
 ∃ (I_28 : Value → Heap → Prop) (m_29 : Value → Heap → Nat), I_28 (.int .i64 0) H_27 ∧
 ∀ _ : Env, ∀ i13 : Value, ∀ H_30 : Heap, I_28 i13 H_30 →
 pLen all9 fun x84 =>
 pLt i13 x84 fun x85 =>
 pCond x85
 (CallsH Tryz.prog 18 #[x45, r12] H_30 fun x90 H_31 =>
 pExtract 0 x90 fun x91 =>
 pExtract 1 x90 fun x92 =>
 pNe 0 x92 (.int .i64 0) fun x94 =>
 pOr x94 (fun J_32 =>
 pIdxSl 1 all9 i13 fun x99 =>
 pLoad H_31 x99 fun x100 =>
 pNe 0 x91 x100 fun x101 =>
 J_32 x101 H_31) H_31 fun x102 H_33 => ∀ _ : Env,
 pCond x102
 (R (.bool false) H_33)
 (pAdd i13 (.int .i64 1) fun x87 =>
 I_28 x87 H_33 ∧ m_29 x87 H_33 < m_29 i13 H_30))
 (CallsH Tryz.prog 19 #[r12] H_30 fun x103 H_34 =>
 pLt x103 (.int .i64 8) fun x104 =>
 R x104 H_34))))))
set_option maxRecDepth 100000 in
theorem lightertop_TopCodes.vc (counts0 : Value) (H0 : Heap) (R : Value → Heap → Prop) (h : lightertop_TopCodes.res counts0 H0 R) : CallsH Tryz.prog 4 #[counts0] H0 R := by
  have e : vcFn Tryz.prog Tryz.C Tryz.f4 lightertop_TopCodes.an [counts0] H0 R = lightertop_TopCodes.res counts0 H0 R := by kernel_rfl
  exact vcFn_sound Tryz.callable Tryz.mixed Tryz.func4 (by kernel_rfl) (e.mpr h)
def lightertop_blocks.an : Ann := (.seq (.reg (.op 0 [] .nil)) (.seq (.reg (.op 0 [] .nil)) (.seq (.reg (.op 0 [] (.op 1 [] (.op 2 [] (.op 3 [] .nil))))) (.seq (.reg (.op 0 [] .nil)) (.seq (.reg (.op 0 [] (.op 1 [] (.op 2 [] (.op 3 [] (.op 4 [] (.op 5 [] (.op 6 [] (.op 7 [] (.op 8 [] .nil)))))))))) (.seq (.reg (.op 0 [] (.op 1 [] (.op 2 [] (.grp 2 (.op 3 [] (.op 4 [] .nil)) 5 (.op 6 [] (.grp 6 (.op 7 [] (.op 8 [] .nil)) 9 (.op 10 [] (.grp 10 (.op 11 [] (.op 12 [] .nil)) 13 (.op 14 [] .nil)))))))))) .leaf))))))
def lightertop_blocks.res (H0 : Heap) (R : Value → Heap → Prop) : Prop :=
 pBox H0 27 (.agg #[(.slice none 0 0), (.int .u64 0), (.int .i64 0)]) fun w1 H_1 =>
 pBuild [(.int .u8 0), (.int .i64 0), (.int .i64 0)] [(0, 1, (.int .u8 97))] fun x6 =>
 pBuildSl H_1 32 1 [(.int .u8 0), (.int .i64 0), (.int .i64 0)] [(0, 3, x6)] fun x7 H_2 =>
 CallsH Tryz.prog 6 #[w1, (.int .i64 2), (.bool true), (str [97]), x7] H_2 fun x8 H_3 =>
 CallsH Tryz.prog 7 #[w1] H_3 fun x9 H_4 =>
 CallsH Tryz.prog 8 #[w1] H_4 fun x11 H_5 =>
 CallsH Tryz.prog 20 #[x11] H_5 fun x12 H_6 =>
 pExtract 0 x12 fun x13 =>
 pExtract 1 x12 fun x14 =>
 pExtract 2 x12 fun x15 =>
 pEq 0 x8 (.int .i64 0) fun x17 =>
 pAnd x17 (fun J_7 =>
 pEq 0 x15 (.int .i64 0) fun x20 =>
 J_7 x20 H_6) H_6 fun x21 H_8 => ∀ _ : Env,
 pAnd x21 (fun J_9 =>
 pEq 1 x13 (str [97]) fun x24 =>
 J_9 x24 H_8) H_8 fun x25 H_10 => ∀ _ : Env,
 pAnd x25 (fun J_11 =>
 pEq 1 x14 (str []) fun x28 =>
 J_11 x28 H_10) H_10 fun x29 H_12 => ∀ _ : Env,
 R x29 H_12
set_option maxRecDepth 100000 in
theorem lightertop_blocks.vc (H0 : Heap) (R : Value → Heap → Prop) (h : lightertop_blocks.res H0 R) : CallsH Tryz.prog 5 #[] H0 R := by
  have e : vcFn Tryz.prog Tryz.C Tryz.f5 lightertop_blocks.an [] H0 R = lightertop_blocks.res H0 R := by kernel_rfl
  exact vcFn_sound Tryz.callable Tryz.mixed Tryz.func5 (by kernel_rfl) (e.mpr h)
def block_Write.an : Ann := (.seq (.reg (.op 0 [] .nil)) (.seq (.seq (.reg (.op 0 [] (.op 1 [] (.op 2 [] (.grp 2 (.op 3 [] (.op 4 [] (.op 5 [] (.op 6 [] (.op 7 [] .nil))))) 8 .nil))))) (.cond (.seq (.reg (.op 0 [] .nil)) .leaf) .leaf)) (.seq (.reg (.op 0 [] (.op 1 [] (.op 2 [] (.op 3 [] .nil))))) (.cut [11] [11, 25, 26, 27] (.seq (.reg (.op 0 [] .nil)) (.cond (.reg (.op 0 [] (.op 1 [] (.op 2 [] .nil)))) .leaf)) (.seq (.reg (.op 0 [] (.op 1 [] (.op 2 [] .nil)))) (.seq (.seq (.reg (.op 0 [] .nil)) (.block (.seq (.reg (.op 0 [] (.op 1 [] .nil))) (.cond (.seq (.reg (.op 0 [] (.op 1 [] .nil))) (.reg (.op 0 [] (.op 1 [] (.op 2 [] (.op 3 [] (.op 4 [] (.op 5 [] (.op 6 [] (.op 7 [] (.op 8 [] (.op 9 [] (.op 10 [] (.op 11 [] (.op 12 [] (.op 13 [] .nil)))))))))))))))) (.seq (.reg (.op 0 [] (.op 1 [] .nil))) (.cond (.reg (.op 0 [] (.op 1 [] (.op 2 [] (.op 3 [] .nil))))) (.seq (.reg (.op 0 [] (.op 1 [] (.op 2 [] .nil)))) (.seq (.reg (.op 0 [] (.op 1 [] (.op 2 [] .nil)))) (.reg (.op 0 [] (.op 1 [] (.op 2 [] (.op 3 [] .nil))))))))))))) (.seq (.reg (.op 0 [] .nil)) .leaf)))))))
def block_Write.res (w0 : Value) (kind1 : Value) (last2 : Value) (s3 : Value) (l4 : Value) (H0 : Heap) (R : Value → Heap → Prop) : Prop :=
 pEq 3 w0 (.pointer none) fun x14 =>
 pOr x14 (fun J_1 =>
 CallsH Tryz.prog 21 #[kind1, s3, l4] H0 fun x19 H_3 =>
 pNot x19 fun x20 =>
 J_1 x20 H_3) H0 fun x21 H_2 => ∀ _ : Env,
 pCond x21
 (R (.int .i64 1) H_2)
 (pConv .u64 kind1 fun x23 =>
 pShl x23 (.int .u64 1) fun x24 =>
 ∃ J_4 : Value → Heap → Prop, (∀ _ : Env, ∀ head11 : Value, ∀ H_5 : Heap, J_4 head11 H_5 →
 CallsH Tryz.prog 22 #[w0, head11, (.int .i64 3)] H_5 fun x30 H_6 =>
 pEq 0 kind1 (.int .i64 0) fun x42 =>
 pCond x42
 (CallsH Tryz.prog 7 #[w0] H_6 fun x44 H_7 =>
 pLenS s3 fun x47 =>
 pConv .u64 x47 fun x48 =>
 CallsH Tryz.prog 24 #[x48, (.int .i64 2)] H_7 fun x49 H_8 =>
 pLenS s3 fun x51 =>
 pSub (.int .i64 65535) x51 fun x52 =>
 pConv .u64 x52 fun x53 =>
 CallsH Tryz.prog 24 #[x53, (.int .i64 2)] H_8 fun x54 H_9 =>
 pAdd x49 x54 fun x55 =>
 pAdd x55 s3 fun x57 =>
 CallsH Tryz.prog 23 #[w0, x57] H_9 fun x58 H_10 =>
 R (.int .i64 0) H_10)
 (pEq 0 kind1 (.int .i64 1) fun x60 =>
 pCond x60
 (CallsH Tryz.prog 25 #[] H_6 fun x61 H_11 =>
 CallsH Tryz.prog 26 #[x61, w0, l4] H_11 fun x64 H_12 =>
 R (.int .i64 0) H_12)
 (CallsH Tryz.prog 27 #[l4] H_6 fun x33 H_13 =>
 CallsH Tryz.prog 28 #[x33, w0] H_13 fun x36 H_14 =>
 CallsH Tryz.prog 26 #[x33, w0, l4] H_14 fun x40 H_15 =>
 R (.int .i64 0) H_15))) ∧
 pCond last2
 (pBits .or x24 (.int .u64 1) fun x27 =>
 J_4 x27 H_2)
 (J_4 x24 H_2))
set_option maxRecDepth 100000 in
theorem block_Write.vc (w0 : Value) (kind1 : Value) (last2 : Value) (s3 : Value) (l4 : Value) (H0 : Heap) (R : Value → Heap → Prop) (h : block_Write.res w0 kind1 last2 s3 l4 H0 R) : CallsH Tryz.prog 6 #[w0, kind1, last2, s3, l4] H0 R := by
  have e : vcFn Tryz.prog Tryz.C Tryz.f6 block_Write.an [w0, kind1, last2, s3, l4] H0 R = block_Write.res w0 kind1 last2 s3 l4 H0 R := by kernel_rfl
  exact vcFn_sound Tryz.callable Tryz.mixed Tryz.func6 (by kernel_rfl) (e.mpr h)
def block_may.an : Ann := (.seq (.reg (.op 0 [] .nil)) (.seq (.reg (.op 0 [] .nil)) (.seq (.reg (.op 0 [] (.op 1 [] (.op 2 [] (.grp 2 (.op 3 [] (.op 4 [] .nil)) 5 (.op 6 [] (.grp 6 (.op 7 [] (.op 8 [] (.op 9 [] .nil))) 10 (.op 11 [] (.grp 11 (.op 12 [] (.op 13 [] (.op 14 [] .nil))) 15 (.op 16 [] (.grp 16 (.op 17 [] (.op 18 [] (.op 19 [] (.op 20 [] .nil)))) 21 (.op 22 [] .nil)))))))))))) .leaf)))
def block_may.res (kind0 : Value) (s1 : Value) (l2 : Value) (H0 : Heap) (R : Value → Heap → Prop) : Prop :=
 pGe kind0 (.int .i64 0) fun x9 =>
 pAnd x9 (fun J_1 =>
 pLt kind0 (.int .i64 3) fun x12 =>
 J_1 x12 H0) H0 fun x13 H_2 => ∀ _ : Env,
 pAnd x13 (fun J_3 =>
 pLenS s1 fun x16 =>
 pLe x16 (.int .i64 65535) fun x17 =>
 J_3 x17 H_2) H_2 fun x18 H_4 => ∀ _ : Env,
 pAnd x18 (fun J_5 =>
 pLen l2 fun x21 =>
 pLe x21 (.int .i64 65535) fun x22 =>
 J_5 x22 H_4) H_4 fun x23 H_6 => ∀ _ : Env,
 pAnd x23 (fun J_7 =>
 CallsH Tryz.prog 50 #[l2, (.func (.func 48) #[] #[])] H_6 fun x27 H_9 =>
 pNot x27 fun x28 =>
 J_7 x28 H_9) H_6 fun x29 H_8 => ∀ _ : Env,
 R x29 H_8
set_option maxRecDepth 100000 in
theorem block_may.vc (kind0 : Value) (s1 : Value) (l2 : Value) (H0 : Heap) (R : Value → Heap → Prop) (h : block_may.res kind0 s1 l2 H0 R) : CallsH Tryz.prog 21 #[kind0, s1, l2] H0 R := by
  have e : vcFn Tryz.prog Tryz.C Tryz.f21 block_may.an [kind0, s1, l2] H0 R = block_may.res kind0 s1 l2 H0 R := by kernel_rfl
  exact vcFn_sound Tryz.callable Tryz.mixed Tryz.func21 (by kernel_rfl) (e.mpr h)
def block_fixedCoder.an : Ann := (.seq (.reg (.op 0 [] .nil)) (.seq (.reg (.op 0 [] (.op 1 [] .nil))) (.seq (.seq (.reg (.op 0 [] (.op 1 [] (.op 2 [] (.op 3 [] (.op 4 [] (.op 5 [] .nil))))))) (.block (.loop [1, 11] [1, 4, 11, 12, 13, 14, 15, 16, 17, 18, 19, 20, 21, 22, 23, 24] (.seq (.reg (.op 0 [] .nil)) (.seq (.cond .leaf .leaf) (.seq (.block (.seq (.reg (.op 0 [] (.op 1 [] (.op 2 [] .nil)))) (.block (.loop [1] [1, 14, 15, 16, 17, 18, 19, 20, 21, 22, 23] (.seq (.seq (.reg (.op 0 [] (.op 1 [] (.op 2 [] (.op 3 [] (.op 4 [] .nil)))))) (.cond .leaf .leaf)) (.block (.reg (.op 0 [] (.op 1 [] (.op 2 [] (.op 3 [] (.op 4 [] (.op 5 [] .nil))))))))))))) (.reg (.op 0 [] (.op 1 [] .nil))))))))) (.seq (.seq (.reg (.op 0 [] .nil)) (.block (.loop [2, 25] [2, 25, 26, 27, 28, 29, 30] (.seq (.reg (.op 0 [] .nil)) (.seq (.cond .leaf .leaf) (.seq (.block (.reg (.op 0 [] (.op 1 [] (.op 2 [] (.op 3 [] .nil)))))) (.reg (.op 0 [] (.op 1 [] .nil))))))))) (.seq (.reg (.op 0 [] (.op 1 [] (.op 2 [] .nil)))) (.seq (.reg (.op 0 [] (.op 1 [] (.op 2 [] (.op 3 [] (.op 4 [] (.op 5 [] (.op 6 [] (.op 7 [] (.op 8 [] .nil)))))))))) (.seq (.reg (.op 0 [] (.op 1 [] (.op 2 [] (.op 3 [] (.op 4 [] (.op 5 [] (.op 6 [] (.op 7 [] (.op 8 [] .nil)))))))))) (.seq (.reg (.op 0 [] (.op 1 [] .nil))) .leaf))))))))
def block_fixedCoder.res (H0 : Heap) (R : Value → Heap → Prop) : Prop :=
 pBuild [(.int .i64 0), (.int .i64 0)] [(0, 1, (.int .i64 8)), (1, 1, (.int .i64 144))] fun x6 =>
 pBuild [(.int .i64 0), (.int .i64 0)] [(0, 1, (.int .i64 9)), (1, 1, (.int .i64 256))] fun x7 =>
 pBuild [(.int .i64 0), (.int .i64 0)] [(0, 1, (.int .i64 7)), (1, 1, (.int .i64 280))] fun x8 =>
 pBuild [(.int .i64 0), (.int .i64 0)] [(0, 1, (.int .i64 8)), (1, 1, (.int .i64 288))] fun x9 =>
 pBuild [(.int .i64 0), (.int .i64 0), (.int .i64 0), (.int .i64 0), (.int .i64 0), (.int .i64 0), (.int .i64 0), (.int .i64 0)] [(0, 2, x6), (2, 2, x7), (4, 2, x8), (6, 2, x9)] fun x10 =>
 ∃ (I_1 : Value → Value → Heap → Prop) (m_2 : Value → Value → Heap → Nat), I_1 (.slice none 0 0) (.int .i64 0) H0 ∧
 ∀ _ : Env, ∀ l1 : Value, ∀ x11 : Value, ∀ H_3 : Heap, I_1 l1 x11 H_3 →
 pLt x11 (.int .i64 4) fun x12 =>
 pCond x12
 (pIdxAggN 4 2 x10 x11 fun x13 =>
 pBox H_3 100 (.agg #[(.int .i64 0), (.int .i64 0)]) fun x4 H_4 =>
 pStoreN H_4 2 x4 x13 fun _ H_5 =>
 ∃ (I_6 : Value → Heap → Prop) (m_7 : Value → Heap → Nat), I_6 l1 H_5 ∧
 ∀ _ : Env, ∀ l1' : Value, ∀ H_8 : Heap, I_6 l1' H_8 →
 pLen l1' fun x15 =>
 pFieldAddr 1 x4 fun x16 =>
 pLoad H_8 x16 fun x17 =>
 pLt x15 x17 fun x18 =>
 pCond x18
 (pFieldAddr 0 x4 fun x20 =>
 pLoad H_8 x20 fun x21 =>
 pBuildSl H_8 3 1 [(.int .i64 0)] [(0, 1, x21)] fun x22 H_9 =>
 pAppend H_9 3 1 8 [(.int .i64 0)] l1' x22 fun x23 H_10 =>
 I_6 x23 H_10 ∧ m_7 x23 H_10 < m_7 l1' H_8)
 (pAdd x11 (.int .i64 1) fun x24 =>
 I_1 l1' x24 H_8 ∧ m_2 l1' x24 H_8 < m_2 l1 x11 H_3))
 (∃ (I_11 : Value → Value → Heap → Prop) (m_12 : Value → Value → Heap → Nat), I_11 (.slice none 0 0) (.int .i64 0) H_3 ∧
 ∀ _ : Env, ∀ d2 : Value, ∀ x25 : Value, ∀ H_13 : Heap, I_11 d2 x25 H_13 →
 pLt x25 (.int .i64 32) fun x26 =>
 pCond x26
 (pBuildSl H_13 3 1 [(.int .i64 0)] [(0, 1, (.int .i64 5))] fun x28 H_14 =>
 pAppend H_14 3 1 8 [(.int .i64 0)] d2 x28 fun x29 H_15 =>
 pAdd x25 (.int .i64 1) fun x30 =>
 I_11 x29 x30 H_15 ∧ m_12 x29 x30 H_15 < m_12 d2 x25 H_13)
 (pBuild [(.pointer none), (.pointer none), (.pointer none), (.slice none 0 0), (.int .i64 0), (.int .i64 0), (.int .i64 0)] [] fun x31 =>
 pBox H_13 104 x31 fun x32 H_16 =>
 CallsH Tryz.prog 13 #[l1, (.bool false)] H_16 fun x36 H_17 =>
 pExtract 0 x36 fun x37 =>
 pExtract 1 x36 fun x38 =>
 pNil x32 fun x39 =>
 pFieldAddr 0 x39 fun x40 =>
 pStore H_17 x40 x37 fun _ H_18 =>
 CallsH Tryz.prog 13 #[d2, (.bool false)] H_18 fun x44 H_19 =>
 pExtract 0 x44 fun x45 =>
 pExtract 1 x44 fun x46 =>
 pNil x32 fun x47 =>
 pFieldAddr 1 x47 fun x48 =>
 pStore H_19 x48 x45 fun _ H_20 =>
 R x32 H_20))
set_option maxRecDepth 100000 in
theorem block_fixedCoder.vc (H0 : Heap) (R : Value → Heap → Prop) (h : block_fixedCoder.res H0 R) : CallsH Tryz.prog 25 #[] H0 R := by
  have e : vcFn Tryz.prog Tryz.C Tryz.f25 block_fixedCoder.an [] H0 R = block_fixedCoder.res H0 R := by kernel_rfl
  exact vcFn_sound Tryz.callable Tryz.mixed Tryz.func25 (by kernel_rfl) (e.mpr h)
def block_coder_tokens.an : Ann := (.seq (.seq (.reg (.op 0 [] (.op 1 [] (.op 2 [] .nil)))) (.block (.loop [12] [7, 8, 9, 12, 13, 14, 15, 16, 17, 18, 19, 20, 21, 22, 23, 24, 25, 26, 27, 28, 29, 30, 31, 32, 33, 34, 35, 36, 37, 38, 39, 40, 41, 42, 43, 44, 45, 46, 47, 48, 49, 50, 51, 52, 53, 54, 55, 56, 57, 58, 59, 60, 61, 62] (.seq (.reg (.op 0 [] .nil)) (.seq (.cond .leaf .leaf) (.seq (.block (.seq (.reg (.op 0 [] (.op 1 [] (.op 2 [] (.op 3 [] .nil))))) (.seq (.seq (.reg (.op 0 [] (.op 1 [] (.op 2 [] .nil)))) (.cond (.seq (.drw [0, 1, 3, 7, 0, 0, 32, 96, 255] (.op 0 [] (.op 1 [] (.op 2 [] (.op 3 [] (.op 4 [] (.op 5 [] (.op 6 [] (.op 7 [] (.op 8 [] .nil)))))))))) .leaf) .leaf)) (.cut [8, 9] [8, 9, 28, 29, 30, 31, 32, 33] (.drw [0, 1, 3, 0, 8, 31, 0, 0, 255, 511] (.op 0 [] (.op 1 [] (.op 3 [] (.op 4 [] (.fork (.op 2 [4] (.fork (.op 5 [] (.fork (.op 6 [1, 4] (.op 7 [1, 4] (.op 8 [] (.op 9 [] .nil)))) (.op 7 [1, 4] (.op 6 [1, 4] (.op 8 [] (.op 9 [] .nil)))))) (.fork (.op 6 [1, 4] (.fork (.op 5 [] (.op 7 [1, 4] (.op 8 [] (.op 9 [] .nil)))) (.op 7 [1, 4] (.op 5 [] (.op 8 [] (.op 9 [] .nil)))))) (.op 7 [1, 4] (.fork (.op 5 [] (.op 6 [1, 4] (.op 8 [] (.op 9 [] .nil)))) (.op 6 [1, 4] (.op 5 [] (.op 8 [] (.op 9 [] .nil))))))))) (.fork (.op 6 [1, 4] (.fork (.op 2 [4] (.fork (.op 5 [] (.op 7 [1, 4] (.op 8 [] (.op 9 [] .nil)))) (.op 7 [1, 4] (.op 5 [] (.op 8 [] (.op 9 [] .nil)))))) (.op 7 [1, 4] (.op 2 [4] (.op 5 [] (.op 8 [] (.op 9 [] .nil))))))) (.op 7 [1, 4] (.fork (.op 2 [4] (.fork (.op 5 [] (.op 6 [1, 4] (.op 8 [] (.op 9 [] .nil)))) (.op 6 [1, 4] (.op 5 [] (.op 8 [] (.op 9 [] .nil)))))) (.op 6 [1, 4] (.op 2 [4] (.op 5 [] (.op 8 [] (.op 9 [] .nil)))))))))))))) (.seq (.drw [0, 1, 3, 7, 0, 0, 32, 127] (.op 0 [] (.op 1 [] (.op 2 [] (.op 3 [] (.op 4 [] (.op 5 [] (.op 6 [] (.op 7 [] .nil))))))))) (.seq (.reg (.op 0 [] (.op 1 [] (.op 2 [] (.op 3 [] (.op 4 [] (.op 5 [] .nil))))))) (.seq (.drw [0, 1, 3, 7, 0, 0, 32, 127] (.op 0 [] (.op 1 [] (.op 2 [] (.op 3 [] (.op 4 [] (.op 5 [] (.op 6 [] (.op 7 [] .nil))))))))) (.reg (.op 0 [] (.op 1 [] (.op 2 [] (.op 3 [] (.op 4 [] (.op 5 [] .nil)))))))))))))) (.reg (.op 0 [] (.op 1 [] .nil))))))))) (.reg (.op 0 [] (.op 1 [] (.op 2 [] (.op 3 [] (.op 4 [] (.op 5 [] .nil))))))))
def block_coder_tokens.res (c0 : Value) (w1 : Value) (l2 : Value) (H0 : Heap) (R : Value → Heap → Prop) : Prop :=
 pLen l2 fun x11 =>
 ∃ (I_1 : Value → Heap → Prop) (m_2 : Value → Heap → Nat), I_1 (.int .i64 0) H0 ∧
 ∀ _ : Env, ∀ x12 : Value, ∀ H_3 : Heap, I_1 x12 H_3 →
 pLt x12 x11 fun x13 =>
 pCond x13
 (pIdxSl 3 l2 x12 fun x14 =>
 pLoadN H_3 3 x14 fun x15 =>
 pBox H_3 32 (.agg #[(.int .u8 0), (.int .i64 0), (.int .i64 0)]) fun t7 H_4 =>
 pStoreN H_4 3 t7 x15 fun _ H_5 =>
 pFieldAddr 1 t7 fun x16 =>
 pLoad H_5 x16 fun x17 =>
 pEq 0 x17 (.int .i64 0) fun x18 =>
 pCond x18
 (pNil c0 fun x20 =>
 pFieldAddr 0 x20 fun x21 =>
 pLoad H_5 x21 fun x22 =>
 pFieldAddr 0 t7 fun x24 =>
 pLoad H_5 x24 fun x25 =>
 pConv .i64 x25 fun x26 =>
 CallsH Tryz.prog 14 #[x22, w1, x26] H_5 fun x27 H_6 =>
 pAdd x12 (.int .i64 1) fun x62 =>
 I_1 x62 H_6 ∧ m_2 x62 H_6 < m_2 x12 H_3)
 (∃ J_7 : Value → Value → Heap → Prop, (∀ _ : Env, ∀ x8 : Value, ∀ y9 : Value, ∀ H_8 : Heap, J_7 x8 y9 H_8 →
 pNil c0 fun x35 =>
 pFieldAddr 0 x35 fun x36 =>
 pLoad H_8 x36 fun x37 =>
 pFieldAddr 0 x8 fun x39 =>
 pLoad H_8 x39 fun x40 =>
 CallsH Tryz.prog 14 #[x37, w1, x40] H_8 fun x41 H_9 =>
 pFieldAddr 2 x8 fun x43 =>
 pLoad H_9 x43 fun x44 =>
 pFieldAddr 1 x8 fun x45 =>
 pLoad H_9 x45 fun x46 =>
 CallsH Tryz.prog 22 #[w1, x44, x46] H_9 fun x47 H_10 =>
 pNil c0 fun x49 =>
 pFieldAddr 1 x49 fun x50 =>
 pLoad H_10 x50 fun x51 =>
 pFieldAddr 0 y9 fun x53 =>
 pLoad H_10 x53 fun x54 =>
 CallsH Tryz.prog 14 #[x51, w1, x54] H_10 fun x55 H_11 =>
 pFieldAddr 2 y9 fun x57 =>
 pLoad H_11 x57 fun x58 =>
 pFieldAddr 1 y9 fun x59 =>
 pLoad H_11 x59 fun x60 =>
 CallsH Tryz.prog 22 #[w1, x58, x60] H_11 fun x61 H_12 =>
 pAdd x12 (.int .i64 1) fun x62 =>
 I_1 x62 H_12 ∧ m_2 x62 H_12 < m_2 x12 H_3) ∧
 pFieldAddr 1 t7 fun x28 =>
 pLoad H_5 x28 fun x29 =>
 pFieldAddr 2 t7 fun x31 =>
 pLoad H_5 x31 fun x32 =>
 (CallsH Tryz.prog 52 #[x29] H_5 fun x30 H_13 =>
 (pLoad H_13 x31 fun r_ =>
 r_ = x32) ∧
 (CallsH Tryz.prog 53 #[x32] H_13 fun x33 H_14 =>
 (pBox H_14 106 (.agg #[(.int .i64 0), (.int .i64 0), (.int .u64 0)]) fun x8 H_15 =>
 (pLoad H_15 x28 fun r_ =>
 r_ = x29) ∧
 (pLoad H_15 x31 fun r_ =>
 r_ = x32) ∧
 pBox H_15 106 (.agg #[(.int .i64 0), (.int .i64 0), (.int .u64 0)]) fun y9 H_16 =>
 (pLoad H_16 x28 fun r_ =>
 r_ = x29) ∧
 (pLoad H_16 x31 fun r_ =>
 r_ = x32) ∧
 pStoreN H_16 3 x8 x30 fun _ H_17 =>
 pStoreN H_17 3 y9 x33 fun _ H_18 =>
 J_7 x8 y9 H_18) ∧
 (pBox H_14 106 (.agg #[(.int .i64 0), (.int .i64 0), (.int .u64 0)]) fun y9 H_19 =>
 (pLoad H_19 x28 fun r_ =>
 r_ = x29) ∧
 (pLoad H_19 x31 fun r_ =>
 r_ = x32) ∧
 pBox H_19 106 (.agg #[(.int .i64 0), (.int .i64 0), (.int .u64 0)]) fun x8 H_20 =>
 (pLoad H_20 x28 fun r_ =>
 r_ = x29) ∧
 (pLoad H_20 x31 fun r_ =>
 r_ = x32) ∧
 pStoreN H_20 3 x8 x30 fun _ H_21 =>
 pStoreN H_21 3 y9 x33 fun _ H_22 =>
 J_7 x8 y9 H_22)) ∧
 ((pBox H_13 106 (.agg #[(.int .i64 0), (.int .i64 0), (.int .u64 0)]) fun x8 H_23 =>
 (pLoad H_23 x28 fun r_ =>
 r_ = x29) ∧
 (pLoad H_23 x31 fun r_ =>
 r_ = x32) ∧
 (CallsH Tryz.prog 53 #[x32] H_23 fun x33 H_24 =>
 pBox H_24 106 (.agg #[(.int .i64 0), (.int .i64 0), (.int .u64 0)]) fun y9 H_25 =>
 (pLoad H_25 x28 fun r_ =>
 r_ = x29) ∧
 (pLoad H_25 x31 fun r_ =>
 r_ = x32) ∧
 pStoreN H_25 3 x8 x30 fun _ H_26 =>
 pStoreN H_26 3 y9 x33 fun _ H_27 =>
 J_7 x8 y9 H_27) ∧
 (pBox H_23 106 (.agg #[(.int .i64 0), (.int .i64 0), (.int .u64 0)]) fun y9 H_28 =>
 (pLoad H_28 x28 fun r_ =>
 r_ = x29) ∧
 (pLoad H_28 x31 fun r_ =>
 r_ = x32) ∧
 CallsH Tryz.prog 53 #[x32] H_28 fun x33 H_29 =>
 pStoreN H_29 3 x8 x30 fun _ H_30 =>
 pStoreN H_30 3 y9 x33 fun _ H_31 =>
 J_7 x8 y9 H_31)) ∧
 (pBox H_13 106 (.agg #[(.int .i64 0), (.int .i64 0), (.int .u64 0)]) fun y9 H_32 =>
 (pLoad H_32 x28 fun r_ =>
 r_ = x29) ∧
 (pLoad H_32 x31 fun r_ =>
 r_ = x32) ∧
 (CallsH Tryz.prog 53 #[x32] H_32 fun x33 H_33 =>
 pBox H_33 106 (.agg #[(.int .i64 0), (.int .i64 0), (.int .u64 0)]) fun x8 H_34 =>
 (pLoad H_34 x28 fun r_ =>
 r_ = x29) ∧
 (pLoad H_34 x31 fun r_ =>
 r_ = x32) ∧
 pStoreN H_34 3 x8 x30 fun _ H_35 =>
 pStoreN H_35 3 y9 x33 fun _ H_36 =>
 J_7 x8 y9 H_36) ∧
 (pBox H_32 106 (.agg #[(.int .i64 0), (.int .i64 0), (.int .u64 0)]) fun x8 H_37 =>
 (pLoad H_37 x28 fun r_ =>
 r_ = x29) ∧
 (pLoad H_37 x31 fun r_ =>
 r_ = x32) ∧
 CallsH Tryz.prog 53 #[x32] H_37 fun x33 H_38 =>
 pStoreN H_38 3 x8 x30 fun _ H_39 =>
 pStoreN H_39 3 y9 x33 fun _ H_40 =>
 J_7 x8 y9 H_40)))) ∧
 ((pBox H_5 106 (.agg #[(.int .i64 0), (.int .i64 0), (.int .u64 0)]) fun x8 H_41 =>
 (pLoad H_41 x28 fun r_ =>
 r_ = x29) ∧
 (pLoad H_41 x31 fun r_ =>
 r_ = x32) ∧
 (CallsH Tryz.prog 52 #[x29] H_41 fun x30 H_42 =>
 (pLoad H_42 x31 fun r_ =>
 r_ = x32) ∧
 (CallsH Tryz.prog 53 #[x32] H_42 fun x33 H_43 =>
 pBox H_43 106 (.agg #[(.int .i64 0), (.int .i64 0), (.int .u64 0)]) fun y9 H_44 =>
 (pLoad H_44 x28 fun r_ =>
 r_ = x29) ∧
 (pLoad H_44 x31 fun r_ =>
 r_ = x32) ∧
 pStoreN H_44 3 x8 x30 fun _ H_45 =>
 pStoreN H_45 3 y9 x33 fun _ H_46 =>
 J_7 x8 y9 H_46) ∧
 (pBox H_42 106 (.agg #[(.int .i64 0), (.int .i64 0), (.int .u64 0)]) fun y9 H_47 =>
 (pLoad H_47 x28 fun r_ =>
 r_ = x29) ∧
 (pLoad H_47 x31 fun r_ =>
 r_ = x32) ∧
 CallsH Tryz.prog 53 #[x32] H_47 fun x33 H_48 =>
 pStoreN H_48 3 x8 x30 fun _ H_49 =>
 pStoreN H_49 3 y9 x33 fun _ H_50 =>
 J_7 x8 y9 H_50)) ∧
 (pBox H_41 106 (.agg #[(.int .i64 0), (.int .i64 0), (.int .u64 0)]) fun y9 H_51 =>
 (pLoad H_51 x28 fun r_ =>
 r_ = x29) ∧
 (pLoad H_51 x31 fun r_ =>
 r_ = x32) ∧
 CallsH Tryz.prog 52 #[x29] H_51 fun x30 H_52 =>
 (pLoad H_52 x31 fun r_ =>
 r_ = x32) ∧
 CallsH Tryz.prog 53 #[x32] H_52 fun x33 H_53 =>
 pStoreN H_53 3 x8 x30 fun _ H_54 =>
 pStoreN H_54 3 y9 x33 fun _ H_55 =>
 J_7 x8 y9 H_55)) ∧
 (pBox H_5 106 (.agg #[(.int .i64 0), (.int .i64 0), (.int .u64 0)]) fun y9 H_56 =>
 (pLoad H_56 x28 fun r_ =>
 r_ = x29) ∧
 (pLoad H_56 x31 fun r_ =>
 r_ = x32) ∧
 (CallsH Tryz.prog 52 #[x29] H_56 fun x30 H_57 =>
 (pLoad H_57 x31 fun r_ =>
 r_ = x32) ∧
 (CallsH Tryz.prog 53 #[x32] H_57 fun x33 H_58 =>
 pBox H_58 106 (.agg #[(.int .i64 0), (.int .i64 0), (.int .u64 0)]) fun x8 H_59 =>
 (pLoad H_59 x28 fun r_ =>
 r_ = x29) ∧
 (pLoad H_59 x31 fun r_ =>
 r_ = x32) ∧
 pStoreN H_59 3 x8 x30 fun _ H_60 =>
 pStoreN H_60 3 y9 x33 fun _ H_61 =>
 J_7 x8 y9 H_61) ∧
 (pBox H_57 106 (.agg #[(.int .i64 0), (.int .i64 0), (.int .u64 0)]) fun x8 H_62 =>
 (pLoad H_62 x28 fun r_ =>
 r_ = x29) ∧
 (pLoad H_62 x31 fun r_ =>
 r_ = x32) ∧
 CallsH Tryz.prog 53 #[x32] H_62 fun x33 H_63 =>
 pStoreN H_63 3 x8 x30 fun _ H_64 =>
 pStoreN H_64 3 y9 x33 fun _ H_65 =>
 J_7 x8 y9 H_65)) ∧
 (pBox H_56 106 (.agg #[(.int .i64 0), (.int .i64 0), (.int .u64 0)]) fun x8 H_66 =>
 (pLoad H_66 x28 fun r_ =>
 r_ = x29) ∧
 (pLoad H_66 x31 fun r_ =>
 r_ = x32) ∧
 CallsH Tryz.prog 52 #[x29] H_66 fun x30 H_67 =>
 (pLoad H_67 x31 fun r_ =>
 r_ = x32) ∧
 CallsH Tryz.prog 53 #[x32] H_67 fun x33 H_68 =>
 pStoreN H_68 3 x8 x30 fun _ H_69 =>
 pStoreN H_69 3 y9 x33 fun _ H_70 =>
 J_7 x8 y9 H_70)))))
 (pNil c0 fun x64 =>
 pFieldAddr 0 x64 fun x65 =>
 pLoad H_3 x65 fun x66 =>
 CallsH Tryz.prog 14 #[x66, w1, (.int .i64 256)] H_3 fun x68 H_71 =>
 R (.tuple #[]) H_71)
set_option maxRecDepth 100000 in
theorem block_coder_tokens.vc (c0 : Value) (w1 : Value) (l2 : Value) (H0 : Heap) (R : Value → Heap → Prop) (h : block_coder_tokens.res c0 w1 l2 H0 R) : CallsH Tryz.prog 26 #[c0, w1, l2] H0 R := by
  have e : vcFn Tryz.prog Tryz.C Tryz.f26 block_coder_tokens.an [c0, w1, l2] H0 R = block_coder_tokens.res c0 w1 l2 H0 R := by kernel_rfl
  exact vcFn_sound Tryz.callable Tryz.mixed Tryz.func26 (by kernel_rfl) (e.mpr h)
def block_dynamicCoder.an : Ann := (.seq (.reg (.op 0 [] .nil)) (.seq (.reg (.op 0 [] (.op 1 [] (.op 2 [] (.op 3 [] (.op 4 [] (.op 5 [] (.op 6 [] .nil)))))))) (.seq (.reg (.op 0 [] (.op 1 [] (.op 2 [] .nil)))) (.seq (.reg (.op 0 [] (.op 1 [] (.op 2 [] (.op 3 [] (.op 4 [] (.op 5 [] (.op 6 [] .nil)))))))) (.seq (.reg (.op 0 [] (.op 1 [] (.op 2 [] (.op 3 [] (.op 4 [] (.op 5 [] (.op 6 [] .nil)))))))) (.seq (.drw [0, 0, 2, 6, 14, 31, 0, 0, 128, 384, 896, 1984, 63, 8191] (.op 0 [] (.op 1 [] (.op 2 [] (.op 3 [] (.op 4 [] (.op 5 [] (.op 6 [] (.op 7 [] (.op 8 [] (.op 9 [] (.op 10 [] (.op 11 [] (.op 12 [] (.op 13 [] .nil))))))))))))))) (.seq (.reg (.op 0 [] (.op 1 [] (.op 2 [] (.op 3 [] (.op 4 [] (.op 5 [] (.op 6 [] (.op 7 [] (.op 8 [] .nil)))))))))) (.seq (.reg (.op 0 [] (.op 1 [] (.op 2 [] (.op 3 [] (.op 4 [] (.op 5 [] (.op 6 [] (.op 7 [] (.op 8 [] .nil)))))))))) (.seq (.reg (.op 0 [] (.op 1 [] (.op 2 [] (.op 3 [] (.op 4 [] (.op 5 [] (.op 6 [] (.op 7 [] (.op 8 [] .nil)))))))))) (.seq (.reg (.op 0 [] (.op 1 [] .nil))) (.seq (.seq (.reg (.op 0 [] (.op 1 [] (.op 2 [] (.op 3 [] (.op 4 [] (.op 5 [] .nil))))))) (.block (.loop [73] [11, 73, 74, 75, 76, 77, 78, 79, 80, 81, 82, 83, 84] (.seq (.reg (.op 0 [] .nil)) (.seq (.cond .leaf .leaf) (.seq (.block (.seq (.reg (.op 0 [] (.op 1 [] (.op 2 [] (.op 3 [] .nil))))) (.reg (.op 0 [] (.op 1 [] (.op 2 [] (.op 3 [] (.op 4 [] (.op 5 [] (.op 6 [] (.op 7 [] .nil))))))))))) (.reg (.op 0 [] (.op 1 [] .nil))))))))) (.seq (.reg (.op 0 [] (.op 1 [] (.op 2 [] .nil)))) (.seq (.reg (.op 0 [] (.op 1 [] (.op 2 [] (.op 3 [] (.op 4 [] (.op 5 [] (.op 6 [] (.op 7 [] (.op 8 [] .nil)))))))))) (.seq (.reg (.op 0 [] (.op 1 [] (.op 2 [] (.op 3 [] .nil))))) (.seq (.block (.loop [] [98, 99, 100, 101, 102, 103, 104, 105, 106, 107, 108, 109, 110, 111, 112, 113, 114, 115, 116, 117, 118, 119, 120, 121, 122] (.seq (.seq (.reg (.op 0 [] (.op 1 [] (.op 2 [] (.op 3 [] (.op 4 [] (.op 5 [] (.grp 5 (.op 6 [] (.op 7 [] (.op 8 [] (.op 9 [] (.op 10 [] (.op 11 [] (.op 12 [] (.op 13 [] (.op 14 [] (.op 15 [] (.op 16 [] .nil))))))))))) 17 .nil)))))))) (.cond .leaf .leaf)) (.block (.reg (.op 0 [] (.op 1 [] (.op 2 [] (.op 3 [] (.op 4 [] (.op 5 [] (.op 6 [] (.op 7 [] .nil))))))))))))) (.seq (.reg (.op 0 [] (.op 1 [] .nil))) .leaf))))))))))))))))
def block_dynamicCoder.res (l0 : Value) (H0 : Heap) (R : Value → Heap → Prop) : Prop :=
 CallsH Tryz.prog 54 #[l0] H0 fun x15 H_1 =>
 pExtract 0 x15 fun x16 =>
 pExtract 1 x15 fun x17 =>
 CallsH Tryz.prog 55 #[x16, (.int .i64 15)] H_1 fun x19 H_2 =>
 CallsH Tryz.prog 12 #[x17, (.int .i64 15)] H_2 fun x22 H_3 =>
 pExtract 0 x22 fun x23 =>
 pExtract 1 x22 fun x24 =>
 CallsH Tryz.prog 56 #[x19, (.int .i64 257)] H_3 fun x26 H_4 =>
 CallsH Tryz.prog 56 #[x23, (.int .i64 1)] H_4 fun x28 H_5 =>
 pBuild [(.pointer none), (.pointer none), (.pointer none), (.slice none 0 0), (.int .i64 0), (.int .i64 0), (.int .i64 0)] [(4, 1, x26), (5, 1, x28)] fun x29 =>
 pBox H_5 104 x29 fun x30 H_6 =>
 pNil x30 fun x33 =>
 pFieldAddr 4 x33 fun x34 =>
 pLoad H_6 x34 fun x35 =>
 pSlSl 1 x19 none (some x35) fun x36 =>
 pNil x30 fun x39 =>
 pFieldAddr 5 x39 fun x40 =>
 pLoad H_6 x40 fun x41 =>
 pSlSl 1 x23 none (some x41) fun x42 =>
 CallsH Tryz.prog 13 #[x36, (.bool false)] H_6 fun x46 H_7 =>
 pExtract 0 x46 fun x47 =>
 pExtract 1 x46 fun x48 =>
 pNil x30 fun x49 =>
 pFieldAddr 0 x49 fun x50 =>
 pStore H_7 x50 x47 fun _ H_8 =>
 CallsH Tryz.prog 13 #[x42, (.bool true)] H_8 fun x54 H_9 =>
 pExtract 0 x54 fun x55 =>
 pExtract 1 x54 fun x56 =>
 pNil x30 fun x57 =>
 pFieldAddr 1 x57 fun x58 =>
 pStore H_9 x58 x55 fun _ H_10 =>
 pBuildSl H_10 42 2 [(.slice none 0 0), (.slice none 0 0)] [(0, 1, x36), (1, 1, x42)] fun x62 H_11 =>
 CallsH Tryz.prog 58 #[x62] H_11 fun x63 H_12 =>
 CallsH Tryz.prog 57 #[x63] H_12 fun x64 H_13 =>
 pNil x30 fun x65 =>
 pFieldAddr 3 x65 fun x66 =>
 pStore H_13 x66 x64 fun _ H_14 =>
 pMakeSl H_14 3 8 [(.int .i64 0)] (.int .i64 19) (.int .i64 19) fun x67 H_15 =>
 pNil x30 fun x69 =>
 pFieldAddr 3 x69 fun x70 =>
 pLoad H_15 x70 fun x71 =>
 pLen x71 fun x72 =>
 ∃ (I_16 : Value → Heap → Prop) (m_17 : Value → Heap → Nat), I_16 (.int .i64 0) H_15 ∧
 ∀ _ : Env, ∀ x73 : Value, ∀ H_18 : Heap, I_16 x73 H_18 →
 pLt x73 x72 fun x74 =>
 pCond x74
 (pIdxSl 3 x71 x73 fun x75 =>
 pLoadN H_18 3 x75 fun x76 =>
 pBox H_18 106 (.agg #[(.int .i64 0), (.int .i64 0), (.int .u64 0)]) fun t11 H_19 =>
 pStoreN H_19 3 t11 x76 fun _ H_20 =>
 pFieldAddr 0 t11 fun x78 =>
 pLoad H_20 x78 fun x79 =>
 pIdxSl 1 x67 x79 fun x80 =>
 pLoad H_20 x80 fun x81 =>
 pAdd x81 (.int .i64 1) fun x82 =>
 pIdxSl 1 x67 x79 fun x83 =>
 pStore H_20 x83 x82 fun _ H_21 =>
 pAdd x73 (.int .i64 1) fun x84 =>
 I_16 x84 H_21 ∧ m_17 x84 H_21 < m_17 x73 H_18)
 (CallsH Tryz.prog 55 #[x67, (.int .i64 7)] H_18 fun x86 H_22 =>
 CallsH Tryz.prog 13 #[x86, (.bool false)] H_22 fun x90 H_23 =>
 pExtract 0 x90 fun x91 =>
 pExtract 1 x90 fun x92 =>
 pNil x30 fun x93 =>
 pFieldAddr 2 x93 fun x94 =>
 pStore H_23 x94 x91 fun _ H_24 =>
 pNil x30 fun x96 =>
 pFieldAddr 6 x96 fun x97 =>
 pStore H_24 x97 (.int .i64 19) fun _ H_25 =>
 ∃ (I_26 : Heap → Prop) (m_27 : Heap → Nat), I_26 H_25 ∧
 ∀ _ : Env, ∀ H_28 : Heap, I_26 H_28 →
 pNil x30 fun x99 =>
 pFieldAddr 6 x99 fun x100 =>
 pLoad H_28 x100 fun x101 =>
 pGt x101 (.int .i64 4) fun x102 =>
 pAnd x102 (fun J_29 =>
 pNil x30 fun x106 =>
 pFieldAddr 6 x106 fun x107 =>
 pLoad H_28 x107 fun x108 =>
 pSub x108 (.int .i64 1) fun x109 =>
 pIdxArr 19 1 (.pointer (some ⟨0, 0, none⟩)) x109 fun x110 =>
 pLoad H_28 x110 fun x111 =>
 pIdxSl 1 x86 x111 fun x112 =>
 pLoad H_28 x112 fun x113 =>
 pEq 0 x113 (.int .i64 0) fun x114 =>
 J_29 x114 H_28) H_28 fun x115 H_30 => ∀ _ : Env,
 pCond x115
 (pNil x30 fun x117 =>
 pFieldAddr 6 x117 fun x118 =>
 pLoad H_30 x118 fun x119 =>
 pSub x119 (.int .i64 1) fun x120 =>
 pNil x30 fun x121 =>
 pFieldAddr 6 x121 fun x122 =>
 pStore H_30 x122 x120 fun _ H_31 =>
 I_26 H_31 ∧ m_27 H_31 < m_27 H_28)
 (R x30 H_30))
set_option maxRecDepth 100000 in
theorem block_dynamicCoder.vc (l0 : Value) (H0 : Heap) (R : Value → Heap → Prop) (h : block_dynamicCoder.res l0 H0 R) : CallsH Tryz.prog 27 #[l0] H0 R := by
  have e : vcFn Tryz.prog Tryz.C Tryz.f27 block_dynamicCoder.an [l0] H0 R = block_dynamicCoder.res l0 H0 R := by kernel_rfl
  exact vcFn_sound Tryz.callable Tryz.mixed Tryz.func27 (by kernel_rfl) (e.mpr h)
def block_coder_head.an : Ann := (.seq (.drw [0, 0, 2, 6, 14, 30, 62, 0, 128, 384, 896, 1920, 3968, 8064, 16382, 0, 32768, 98304, 229376, 491520, 1015808, 2064384, 4194302, 8388607] (.op 0 [] (.op 1 [] (.op 2 [] (.op 3 [] (.op 4 [] (.op 5 [] (.op 6 [] (.op 7 [] (.op 8 [] (.op 9 [] (.op 10 [] (.op 11 [] (.op 12 [] (.op 13 [] (.op 14 [] (.op 15 [] (.op 16 [] (.op 17 [] (.op 18 [] (.op 19 [] (.op 20 [] (.op 21 [] (.op 22 [] (.op 23 [] .nil))))))))))))))))))))))))) (.seq (.reg (.op 0 [] (.op 1 [] (.op 2 [] (.op 3 [] (.op 4 [] (.op 5 [] .nil))))))) (.seq (.seq (.reg (.op 0 [] (.op 1 [] (.op 2 [] (.op 3 [] (.op 4 [] (.op 5 [] (.op 6 [] .nil)))))))) (.block (.loop [44] [6, 44, 45, 46, 47, 48, 49, 50, 51, 52, 53, 54, 55] (.seq (.reg (.op 0 [] .nil)) (.seq (.cond .leaf .leaf) (.seq (.block (.seq (.reg (.op 0 [] (.op 1 [] (.op 2 [] .nil)))) (.reg (.op 0 [] (.op 1 [] (.op 2 [] (.op 3 [] (.op 4 [] (.op 5 [] (.op 6 [] .nil)))))))))) (.reg (.op 0 [] (.op 1 [] .nil))))))))) (.seq (.reg (.op 0 [] (.op 1 [] (.op 2 [] (.op 3 [] (.op 4 [] (.op 5 [] .nil))))))) (.block (.loop [61] [8, 61, 62, 63, 64, 65, 66, 67, 68, 69, 70, 71, 72, 73, 74, 75, 76, 77, 78, 79] (.seq (.reg (.op 0 [] .nil)) (.seq (.cond .leaf .leaf) (.seq (.block (.seq (.reg (.op 0 [] (.op 1 [] (.op 2 [] (.op 3 [] .nil))))) (.seq (.drw [0, 1, 3, 7, 0, 0, 32, 127] (.op 0 [] (.op 1 [] (.op 2 [] (.op 3 [] (.op 4 [] (.op 5 [] (.op 6 [] (.op 7 [] .nil))))))))) (.reg (.op 0 [] (.op 1 [] (.op 2 [] (.op 3 [] (.op 4 [] (.op 5 [] .nil)))))))))) (.reg (.op 0 [] (.op 1 [] .nil))))))))))))
def block_coder_head.res (c0 : Value) (w1 : Value) (H0 : Heap) (R : Value → Heap → Prop) : Prop :=
 pNil c0 fun x11 =>
 pFieldAddr 4 x11 fun x12 =>
 pLoad H0 x12 fun x13 =>
 pSub x13 (.int .i64 257) fun x14 =>
 pConv .u64 x14 fun x15 =>
 pNil c0 fun x17 =>
 pFieldAddr 5 x17 fun x18 =>
 pLoad H0 x18 fun x19 =>
 pSub x19 (.int .i64 1) fun x20 =>
 pConv .u64 x20 fun x21 =>
 pShl x21 (.int .u64 5) fun x22 =>
 pBits .or x15 x22 fun x23 =>
 pNil c0 fun x25 =>
 pFieldAddr 6 x25 fun x26 =>
 pLoad H0 x26 fun x27 =>
 pSub x27 (.int .i64 4) fun x28 =>
 pConv .u64 x28 fun x29 =>
 pShl x29 (.int .u64 10) fun x30 =>
 pBits .or x23 x30 fun x31 =>
 CallsH Tryz.prog 22 #[w1, x31, (.int .i64 14)] H0 fun x32 H_1 =>
 pNil c0 fun x34 =>
 pFieldAddr 2 x34 fun x35 =>
 pLoad H_1 x35 fun x36 =>
 CallsH Tryz.prog 59 #[x36] H_1 fun x37 H_2 =>
 pNil c0 fun x39 =>
 pFieldAddr 6 x39 fun x40 =>
 pLoad H_2 x40 fun x41 =>
 pSlArr 19 1 (.pointer (some ⟨0, 0, none⟩)) none (some x41) fun x42 =>
 pLen x42 fun x43 =>
 ∃ (I_3 : Value → Heap → Prop) (m_4 : Value → Heap → Nat), I_3 (.int .i64 0) H_2 ∧
 ∀ _ : Env, ∀ x44 : Value, ∀ H_5 : Heap, I_3 x44 H_5 →
 pLt x44 x43 fun x45 =>
 pCond x45
 (pIdxSl 1 x42 x44 fun x46 =>
 pLoad H_5 x46 fun x47 =>
 pIdxSl 1 x37 x47 fun x51 =>
 pLoad H_5 x51 fun x52 =>
 pConv .u64 x52 fun x53 =>
 CallsH Tryz.prog 22 #[w1, x53, (.int .i64 3)] H_5 fun x54 H_6 =>
 pAdd x44 (.int .i64 1) fun x55 =>
 I_3 x55 H_6 ∧ m_4 x55 H_6 < m_4 x44 H_5)
 (pNil c0 fun x57 =>
 pFieldAddr 3 x57 fun x58 =>
 pLoad H_5 x58 fun x59 =>
 pLen x59 fun x60 =>
 ∃ (I_7 : Value → Heap → Prop) (m_8 : Value → Heap → Nat), I_7 (.int .i64 0) H_5 ∧
 ∀ _ : Env, ∀ x61 : Value, ∀ H_9 : Heap, I_7 x61 H_9 →
 pLt x61 x60 fun x62 =>
 pCond x62
 (pIdxSl 3 x59 x61 fun x63 =>
 pLoadN H_9 3 x63 fun x64 =>
 pBox H_9 106 (.agg #[(.int .i64 0), (.int .i64 0), (.int .u64 0)]) fun t8 H_10 =>
 pStoreN H_10 3 t8 x64 fun _ H_11 =>
 pNil c0 fun x66 =>
 pFieldAddr 2 x66 fun x67 =>
 pLoad H_11 x67 fun x68 =>
 pFieldAddr 0 t8 fun x70 =>
 pLoad H_11 x70 fun x71 =>
 CallsH Tryz.prog 14 #[x68, w1, x71] H_11 fun x72 H_12 =>
 pFieldAddr 2 t8 fun x74 =>
 pLoad H_12 x74 fun x75 =>
 pFieldAddr 1 t8 fun x76 =>
 pLoad H_12 x76 fun x77 =>
 CallsH Tryz.prog 22 #[w1, x75, x77] H_12 fun x78 H_13 =>
 pAdd x61 (.int .i64 1) fun x79 =>
 I_7 x79 H_13 ∧ m_8 x79 H_13 < m_8 x61 H_9)
 (R (.tuple #[]) H_9))
set_option maxRecDepth 100000 in
theorem block_coder_head.vc (c0 : Value) (w1 : Value) (H0 : Heap) (R : Value → Heap → Prop) (h : block_coder_head.res c0 w1 H0 R) : CallsH Tryz.prog 28 #[c0, w1] H0 R := by
  have e : vcFn Tryz.prog Tryz.C Tryz.f28 block_coder_head.an [c0, w1] H0 R = block_coder_head.res c0 w1 H0 R := by kernel_rfl
  exact vcFn_sound Tryz.callable Tryz.mixed Tryz.func28 (by kernel_rfl) (e.mpr h)
def block_may_f1.an : Ann := (.seq (.reg (.op 0 [] (.op 1 [] .nil))) (.seq (.reg (.op 0 [] (.op 1 [] (.op 2 [] (.op 3 [] .nil))))) .leaf))
def block_may_f1.res (t0 : Value) (H0 : Heap) (R : Value → Heap → Prop) : Prop :=
 pBox H0 32 t0 fun t1 H_1 =>
 pLoadN H_1 3 t1 fun x3 =>
 CallsH Tryz.prog 49 #[x3] H_1 fun x4 H_2 =>
 pNot x4 fun x5 =>
 R x5 H_2
set_option maxRecDepth 100000 in
theorem block_may_f1.vc (t0 : Value) (H0 : Heap) (R : Value → Heap → Prop) (h : block_may_f1.res t0 H0 R) : CallsH Tryz.prog 48 #[t0] H0 R := by
  have e : vcFn Tryz.prog Tryz.C Tryz.f48 block_may_f1.an [t0] H0 R = block_may_f1.res t0 H0 R := by kernel_rfl
  exact vcFn_sound Tryz.callable Tryz.mixed Tryz.func48 (by kernel_rfl) (e.mpr h)
def block_counts.an : Ann := (.seq (.reg (.op 0 [] (.op 1 [] .nil))) (.cut [4, 5] [4, 5, 8, 9] (.drw [0, 0, 1, 7] (.fork (.op 0 [] (.op 2 [] (.op 1 [] (.op 3 [] .nil)))) (.op 1 [] (.op 0 [] (.op 2 [] (.op 3 [] .nil)))))) (.seq (.reg (.op 0 [] (.op 1 [] (.op 2 [] .nil)))) (.seq (.seq (.reg (.op 0 [] (.op 1 [] (.op 2 [] .nil)))) (.block (.loop [14] [7, 14, 15, 16, 17, 18, 19, 20, 21, 22, 23, 24, 25, 26, 27, 28, 29, 30, 31, 32, 33, 34, 35, 36, 37, 38, 39, 40, 41, 42, 43, 44, 45, 46] (.seq (.reg (.op 0 [] .nil)) (.seq (.cond .leaf .leaf) (.seq (.block (.seq (.reg (.op 0 [] (.op 1 [] (.op 2 [] (.op 3 [] .nil))))) (.seq (.seq (.reg (.op 0 [] (.op 1 [] (.op 2 [] .nil)))) (.cond (.seq (.reg (.op 0 [] (.op 1 [] (.op 2 [] (.op 3 [] (.op 4 [] (.op 5 [] (.op 6 [] (.op 7 [] .nil))))))))) .leaf) .leaf)) (.seq (.reg (.op 0 [] (.op 1 [] (.op 2 [] (.op 3 [] (.op 4 [] (.op 5 [] (.op 6 [] (.op 7 [] (.op 8 [] (.op 9 [] .nil))))))))))) (.reg (.op 0 [] (.op 1 [] (.op 2 [] (.op 3 [] (.op 4 [] (.op 5 [] (.op 6 [] (.op 7 [] (.op 8 [] (.op 9 [] .nil))))))))))))))) (.reg (.op 0 [] (.op 1 [] .nil))))))))) (.seq (.reg (.op 0 [] (.op 1 [] (.op 2 [] (.op 3 [] .nil))))) .leaf)))))
def block_counts.res (l0 : Value) (H0 : Heap) (R : Value → Heap → Prop) : Prop :=
 ∃ J_1 : Value → Value → Heap → Prop, (∀ _ : Env, ∀ syms4 : Value, ∀ dists5 : Value, ∀ H_2 : Heap, J_1 syms4 dists5 H_2 →
 pIdxSl 1 syms4 (.int .i64 256) fun x11 =>
 pStore H_2 x11 (.int .i64 1) fun _ H_3 =>
 pLen l0 fun x13 =>
 ∃ (I_4 : Value → Heap → Prop) (m_5 : Value → Heap → Nat), I_4 (.int .i64 0) H_3 ∧
 ∀ _ : Env, ∀ x14 : Value, ∀ H_6 : Heap, I_4 x14 H_6 →
 pLt x14 x13 fun x15 =>
 pCond x15
 (pIdxSl 3 l0 x14 fun x16 =>
 pLoadN H_6 3 x16 fun x17 =>
 pBox H_6 32 (.agg #[(.int .u8 0), (.int .i64 0), (.int .i64 0)]) fun t7 H_7 =>
 pStoreN H_7 3 t7 x17 fun _ H_8 =>
 pFieldAddr 1 t7 fun x18 =>
 pLoad H_8 x18 fun x19 =>
 pEq 0 x19 (.int .i64 0) fun x20 =>
 pCond x20
 (pFieldAddr 0 t7 fun x22 =>
 pLoad H_8 x22 fun x23 =>
 pIdxSl 1 syms4 x23 fun x24 =>
 pLoad H_8 x24 fun x25 =>
 pAdd x25 (.int .i64 1) fun x26 =>
 pIdxSl 1 syms4 x23 fun x27 =>
 pStore H_8 x27 x26 fun _ H_9 =>
 pAdd x14 (.int .i64 1) fun x46 =>
 I_4 x46 H_9 ∧ m_5 x46 H_9 < m_5 x14 H_6)
 (pFieldAddr 1 t7 fun x29 =>
 pLoad H_8 x29 fun x30 =>
 CallsH Tryz.prog 52 #[x30] H_8 fun x31 H_10 =>
 pField1 0 x31 fun x32 =>
 pIdxSl 1 syms4 x32 fun x33 =>
 pLoad H_10 x33 fun x34 =>
 pAdd x34 (.int .i64 1) fun x35 =>
 pIdxSl 1 syms4 x32 fun x36 =>
 pStore H_10 x36 x35 fun _ H_11 =>
 pFieldAddr 2 t7 fun x38 =>
 pLoad H_11 x38 fun x39 =>
 CallsH Tryz.prog 53 #[x39] H_11 fun x40 H_12 =>
 pField1 0 x40 fun x41 =>
 pIdxSl 1 dists5 x41 fun x42 =>
 pLoad H_12 x42 fun x43 =>
 pAdd x43 (.int .i64 1) fun x44 =>
 pIdxSl 1 dists5 x41 fun x45 =>
 pStore H_12 x45 x44 fun _ H_13 =>
 pAdd x14 (.int .i64 1) fun x46 =>
 I_4 x46 H_13 ∧ m_5 x46 H_13 < m_5 x14 H_6))
 (R (.tuple #[syms4, dists5]) H_6)) ∧
 (pMakeSl H0 3 8 [(.int .i64 0)] (.int .i64 286) (.int .i64 286) fun x8 H_14 =>
 pMakeSl H_14 3 8 [(.int .i64 0)] (.int .i64 30) (.int .i64 30) fun x9 H_15 =>
 J_1 x8 x9 H_15) ∧
 (pMakeSl H0 3 8 [(.int .i64 0)] (.int .i64 30) (.int .i64 30) fun x9 H_16 =>
 pMakeSl H_16 3 8 [(.int .i64 0)] (.int .i64 286) (.int .i64 286) fun x8 H_17 =>
 J_1 x8 x9 H_17)
set_option maxRecDepth 100000 in
theorem block_counts.vc (l0 : Value) (H0 : Heap) (R : Value → Heap → Prop) (h : block_counts.res l0 H0 R) : CallsH Tryz.prog 54 #[l0] H0 R := by
  have e : vcFn Tryz.prog Tryz.C Tryz.f54 block_counts.an [l0] H0 R = block_counts.res l0 H0 R := by kernel_rfl
  exact vcFn_sound Tryz.callable Tryz.mixed Tryz.func54 (by kernel_rfl) (e.mpr h)
def block_strict.an : Ann := (.seq (.reg (.op 0 [] .nil)) (.seq (.reg (.op 0 [] (.op 1 [] (.op 2 [] (.op 3 [] (.op 4 [] (.op 5 [] (.op 6 [] (.op 7 [] .nil))))))))) (.seq (.reg (.op 0 [] (.op 1 [] .nil))) (.seq (.seq (.reg (.op 0 [] (.op 1 [] (.op 2 [] .nil)))) (.block (.loop [7, 8, 19] [7, 8, 9, 10, 19, 20, 21, 22, 23, 24, 25, 26, 27, 28, 29, 30, 31] (.seq (.reg (.op 0 [] .nil)) (.seq (.cond .leaf .leaf) (.seq (.block (.seq (.reg (.op 0 [] (.op 1 [] (.op 2 [] (.op 3 [] (.op 4 [] .nil)))))) (.seq (.reg (.op 0 [] (.op 1 [] .nil))) (.cond (.reg (.op 0 [] (.op 1 [] (.op 2 [] .nil)))) (.seq (.reg (.op 0 [] (.op 1 [] .nil))) (.cond (.reg (.op 0 [] (.op 1 [] .nil))) .leaf)))))) (.reg (.op 0 [] (.op 1 [] .nil))))))))) (.seq (.seq (.reg (.op 0 [] (.op 1 [] .nil))) (.cond (.reg (.op 0 [] (.op 1 [] (.op 2 [] (.op 3 [] .nil))))) .leaf)) (.seq (.reg (.op 0 [] (.op 1 [] .nil))) .leaf))))))
def block_strict.res (counts0 : Value) (bits1 : Value) (H0 : Heap) (R : Value → Heap → Prop) : Prop :=
 CallsH Tryz.prog 12 #[counts0, bits1] H0 fun x14 H_1 =>
 pExtract 0 x14 fun x15 =>
 pExtract 1 x14 fun x16 =>
 pLen x15 fun x18 =>
 ∃ (I_2 : Value → Value → Value → Heap → Prop) (m_3 : Value → Value → Value → Heap → Nat), I_2 (.int .i64 0) (.int .i64 (-1)) (.int .i64 0) H_1 ∧
 ∀ _ : Env, ∀ all7 : Value, ∀ first8 : Value, ∀ x19 : Value, ∀ H_4 : Heap, I_2 all7 first8 x19 H_4 →
 pLt x19 x18 fun x20 =>
 pCond x20
 (pIdxSl 1 x15 x19 fun x22 =>
 pLoad H_4 x22 fun x23 =>
 pGt x23 (.int .i64 0) fun x25 =>
 pCond x25
 (pAdd all7 (.int .i64 1) fun x27 =>
 pAdd x19 (.int .i64 1) fun x31 =>
 I_2 x27 first8 x31 H_4 ∧ m_3 x27 first8 x31 H_4 < m_3 all7 first8 x19 H_4)
 (pLt first8 (.int .i64 0) fun x29 =>
 pCond x29
 (pAdd x19 (.int .i64 1) fun x31 =>
 I_2 all7 x19 x31 H_4 ∧ m_3 all7 x19 x31 H_4 < m_3 all7 first8 x19 H_4)
 (pAdd x19 (.int .i64 1) fun x31 =>
 I_2 all7 first8 x31 H_4 ∧ m_3 all7 first8 x31 H_4 < m_3 all7 first8 x19 H_4)))
 (pEq 0 all7 (.int .i64 1) fun x33 =>
 pCond x33
 (pIdxSl 1 x15 first8 fun x36 =>
 pStore H_4 x36 (.int .i64 1) fun _ H_5 =>
 R x15 H_5)
 (R x15 H_4))
set_option maxRecDepth 100000 in
theorem block_strict.vc (counts0 : Value) (bits1 : Value) (H0 : Heap) (R : Value → Heap → Prop) (h : block_strict.res counts0 bits1 H0 R) : CallsH Tryz.prog 55 #[counts0, bits1] H0 R := by
  have e : vcFn Tryz.prog Tryz.C Tryz.f55 block_strict.an [counts0, bits1] H0 R = block_strict.res counts0 bits1 H0 R := by kernel_rfl
  exact vcFn_sound Tryz.callable Tryz.mixed Tryz.func55 (by kernel_rfl) (e.mpr h)
def block_upto.an : Ann := (.seq (.reg (.op 0 [] .nil)) (.seq (.reg (.op 0 [] (.op 1 [] (.op 2 [] .nil)))) (.seq (.block (.loop [5] [5, 8, 9, 10, 11, 12, 13, 14, 15, 16, 17, 18, 19, 20] (.seq (.seq (.reg (.op 0 [] (.op 1 [] (.op 2 [] (.op 3 [] (.grp 3 (.op 4 [] (.op 5 [] (.op 6 [] (.op 7 [] (.op 8 [] (.op 9 [] .nil)))))) 10 .nil)))))) (.cond .leaf .leaf)) (.block (.reg (.op 0 [] (.op 1 [] (.op 2 [] .nil)))))))) (.seq (.reg (.op 0 [] (.op 1 [] .nil))) .leaf))))
def block_upto.res (l0 : Value) (least1 : Value) (H0 : Heap) (R : Value → Heap → Prop) : Prop :=
 pLen l0 fun x7 =>
 ∃ (I_1 : Value → Heap → Prop) (m_2 : Value → Heap → Nat), I_1 x7 H0 ∧
 ∀ _ : Env, ∀ n5 : Value, ∀ H_3 : Heap, I_1 n5 H_3 →
 pGt n5 least1 fun x10 =>
 pAnd x10 (fun J_4 =>
 pSub n5 (.int .i64 1) fun x14 =>
 pIdxSl 1 l0 x14 fun x15 =>
 pLoad H_3 x15 fun x16 =>
 pEq 0 x16 (.int .i64 0) fun x17 =>
 J_4 x17 H_3) H_3 fun x18 H_5 => ∀ _ : Env,
 pCond x18
 (pSub n5 (.int .i64 1) fun x20 =>
 I_1 x20 H_5 ∧ m_2 x20 H_5 < m_2 n5 H_3)
 (R n5 H_5)
set_option maxRecDepth 100000 in
theorem block_upto.vc (l0 : Value) (least1 : Value) (H0 : Heap) (R : Value → Heap → Prop) (h : block_upto.res l0 least1 H0 R) : CallsH Tryz.prog 56 #[l0, least1] H0 R := by
  have e : vcFn Tryz.prog Tryz.C Tryz.f56 block_upto.an [l0, least1] H0 R = block_upto.res l0 least1 H0 R := by kernel_rfl
  exact vcFn_sound Tryz.callable Tryz.mixed Tryz.func56 (by kernel_rfl) (e.mpr h)
def block_Pack.an : Ann := (.seq (.reg (.op 0 [] .nil)) (.seq (.reg (.op 0 [] .nil)) (.seq (.seq (.reg (.op 0 [] (.op 1 [] (.op 2 [] .nil)))) (.cond (.seq (.reg (.op 0 [] .nil)) .leaf) .leaf)) (.seq (.reg (.op 0 [] .nil)) (.seq (.seq (.reg (.op 0 [] .nil)) (.block (.loop [4, 5] [4, 5, 6, 7, 8, 9, 10, 14, 15, 16, 17, 18, 19, 20, 21, 22, 23, 24, 25, 26, 27, 28, 29, 30, 31, 32, 33, 34, 35, 36, 37, 38, 39, 40, 41, 42, 43, 44, 45, 46, 47, 48, 49, 50, 51, 52, 53, 54, 55, 56] (.seq (.seq (.reg (.op 0 [] (.op 1 [] (.op 2 [] (.op 3 [] .nil))))) (.cond .leaf .leaf)) (.block (.seq (.drw [0, 0, 3, 7, 0, 0, 48, 127, 255] (.op 0 [] (.op 1 [] (.op 2 [] (.op 3 [] (.op 4 [] (.op 5 [] (.op 6 [3] (.op 7 [] (.op 8 [] .nil)))))))))) (.seq (.reg (.op 0 [] (.op 1 [] (.op 2 [] (.op 3 [] .nil))))) (.cut [4, 7] [4, 7, 28, 29, 30, 31, 32, 33, 34, 35, 36] (.seq (.reg (.op 0 [] (.op 1 [] .nil))) (.cond (.seq (.reg (.op 0 [] (.op 1 [] (.op 2 [] (.op 3 [] (.op 4 [] (.op 5 [] .nil))))))) (.reg (.op 0 [] (.op 1 [] (.op 2 [] .nil))))) .leaf)) (.block (.loop [4, 7] [4, 7, 8, 9, 10, 37, 38, 39, 40, 41, 42, 43, 44, 45, 46, 47, 48, 49, 50, 51, 52, 53, 54, 55, 56] (.seq (.seq (.reg (.op 0 [] (.op 1 [] .nil))) (.cond .leaf .leaf)) (.block (.seq (.reg (.op 0 [] (.op 1 [] (.op 2 [] (.op 3 [] (.op 4 [] (.op 5 [] (.op 6 [] (.op 7 [] (.op 8 [] (.op 9 [] (.op 10 [] .nil)))))))))))) (.cut [9] [9, 46, 47, 48, 49] (.seq (.reg (.op 0 [] (.op 1 [] .nil))) (.cond (.reg (.op 0 [] (.op 1 [] (.op 2 [] (.op 3 [] .nil))))) .leaf)) (.seq (.reg (.op 0 [] (.op 1 [] (.op 2 [] (.op 3 [] (.op 4 [] .nil)))))) (.reg (.op 0 [] (.op 1 [] (.op 2 [] (.op 3 [] .nil)))))))))))))))))))) (.seq (.reg (.op 0 [] (.op 1 [] .nil))) .leaf))))))
def block_Pack.res (lengths0 : Value) (H0 : Heap) (R : Value → Heap → Prop) : Prop :=
 CallsH Tryz.prog 37 #[lengths0, (.func (.func 80) #[] #[])] H0 fun x13 H_1 =>
 pCond x13
 (R (.slice none 0 0) H_1)
 (∃ (I_2 : Value → Value → Heap → Prop) (m_3 : Value → Value → Heap → Nat), I_2 (.slice none 0 0) (.int .i64 0) H_1 ∧
 ∀ _ : Env, ∀ out4 : Value, ∀ i5 : Value, ∀ H_4 : Heap, I_2 out4 i5 H_4 →
 pLen lengths0 fun x16 =>
 pLt i5 x16 fun x17 =>
 pCond x17
 (pIdxSl 1 lengths0 i5 fun x20 =>
 pLoad H_4 x20 fun x21 =>
 CallsH Tryz.prog 81 #[lengths0, i5] H_4 fun x24 H_5 =>
 (pLoad H_5 x20 fun r_ =>
 r_ = x21) ∧
 pAdd i5 x24 fun x27 =>
 ∃ J_6 : Value → Value → Heap → Prop, (∀ _ : Env, ∀ out4' : Value, ∀ n7 : Value, ∀ H_7 : Heap, J_6 out4' n7 H_7 →
 ∃ (I_8 : Value → Value → Heap → Prop) (m_9 : Value → Value → Heap → Nat), I_8 out4' n7 H_7 ∧
 ∀ _ : Env, ∀ out4'' : Value, ∀ n7' : Value, ∀ H_10 : Heap, I_8 out4'' n7' H_10 →
 pGt n7' (.int .i64 0) fun x38 =>
 pCond x38
 (CallsH Tryz.prog 82 #[x21, n7'] H_10 fun x42 H_11 =>
 pExtract 0 x42 fun x43 =>
 pExtract 1 x42 fun x44 =>
 pExtract 2 x42 fun x45 =>
 pBox H_11 106 (.agg #[(.int .i64 0), (.int .i64 0), (.int .u64 0)]) fun x8 H_12 =>
 pStoreN H_12 3 x8 x43 fun _ H_13 =>
 ∃ J_14 : Value → Heap → Prop, (∀ _ : Env, ∀ k9 : Value, ∀ H_15 : Heap, J_14 k9 H_15 →
 pLoadN H_15 3 x8 fun x51 =>
 pBuildSl H_15 106 1 [(.int .i64 0), (.int .i64 0), (.int .u64 0)] [(0, 3, x51)] fun x52 H_16 =>
 pAppend H_16 106 3 24 [(.int .i64 0), (.int .i64 0), (.int .u64 0)] out4'' x52 fun x53 H_17 =>
 pSub n7' k9 fun x56 =>
 I_8 x53 x56 H_17 ∧ m_9 x53 x56 H_17 < m_9 out4'' n7' H_10) ∧
 pNot x45 fun x47 =>
 pCond x47
 (pBuild [(.int .i64 0), (.int .i64 0), (.int .u64 0)] [(0, 1, x21)] fun x49 =>
 pStoreN H_13 3 x8 x49 fun _ H_18 =>
 J_14 (.int .i64 1) H_18)
 (J_14 x44 H_13))
 (I_2 out4'' x27 H_10 ∧ m_3 out4'' x27 H_10 < m_3 out4 i5 H_4)) ∧
 pNe 0 x21 (.int .i64 0) fun x29 =>
 pCond x29
 (pBuild [(.int .i64 0), (.int .i64 0), (.int .u64 0)] [(0, 1, x21)] fun x32 =>
 pBuildSl H_5 106 1 [(.int .i64 0), (.int .i64 0), (.int .u64 0)] [(0, 3, x32)] fun x33 H_19 =>
 pAppend H_19 106 3 24 [(.int .i64 0), (.int .i64 0), (.int .u64 0)] out4 x33 fun x34 H_20 =>
 pSub x24 (.int .i64 1) fun x36 =>
 J_6 x34 x36 H_20)
 (J_6 out4 x24 H_5))
 (R out4 H_4))
set_option maxRecDepth 100000 in
theorem block_Pack.vc (lengths0 : Value) (H0 : Heap) (R : Value → Heap → Prop) (h : block_Pack.res lengths0 H0 R) : CallsH Tryz.prog 57 #[lengths0] H0 R := by
  have e : vcFn Tryz.prog Tryz.C Tryz.f57 block_Pack.an [lengths0] H0 R = block_Pack.res lengths0 H0 R := by kernel_rfl
  exact vcFn_sound Tryz.callable Tryz.mixed Tryz.func57 (by kernel_rfl) (e.mpr h)
def block_Pack_f1.an : Ann := (.seq (.reg (.op 0 [] .nil)) (.seq (.reg (.op 0 [] (.op 1 [] (.op 2 [] (.grp 2 (.op 3 [] (.op 4 [] .nil)) 5 (.op 6 [] .nil)))))) .leaf))
def block_Pack_f1.res (n0 : Value) (H0 : Heap) (R : Value → Heap → Prop) : Prop :=
 pLt n0 (.int .i64 0) fun x4 =>
 pOr x4 (fun J_1 =>
 pGt n0 (.int .i64 15) fun x7 =>
 J_1 x7 H0) H0 fun x8 H_2 => ∀ _ : Env,
 R x8 H_2
set_option maxRecDepth 100000 in
theorem block_Pack_f1.vc (n0 : Value) (H0 : Heap) (R : Value → Heap → Prop) (h : block_Pack_f1.res n0 H0 R) : CallsH Tryz.prog 80 #[n0] H0 R := by
  have e : vcFn Tryz.prog Tryz.C Tryz.f80 block_Pack_f1.an [n0] H0 R = block_Pack_f1.res n0 H0 R := by kernel_rfl
  exact vcFn_sound Tryz.callable Tryz.mixed Tryz.func80 (by kernel_rfl) (e.mpr h)
def block_run.an : Ann := (.seq (.reg (.op 0 [] .nil)) (.seq (.reg (.op 0 [] .nil)) (.seq (.block (.loop [5] [5, 6, 7, 8, 9, 10, 11, 12, 13, 14, 15, 16, 17, 18, 19, 20, 21, 22, 23, 24, 25, 26] (.seq (.seq (.drw [0, 0, 3, 0, 8, 31, 63, 127, 127, 127, 895, 2047, 4095, 127, 127, 24703, 57471, 131071, 262143] (.op 0 [] (.op 1 [] (.op 2 [] (.op 3 [] (.op 4 [] (.op 5 [] (.op 6 [] (.grp 6 (.op 7 [] (.op 8 [] (.op 9 [] (.op 10 [] (.op 11 [] (.op 12 [] (.op 13 [] (.op 14 [] (.op 15 [] (.op 16 [] (.op 17 [] .nil))))))))))) 18 .nil))))))))) (.cond .leaf .leaf)) (.block (.reg (.op 0 [] (.op 1 [] (.op 2 [] .nil)))))))) (.seq (.reg (.op 0 [] (.op 1 [] .nil))) .leaf))))
def block_run.res (l0 : Value) (i1 : Value) (H0 : Heap) (R : Value → Heap → Prop) : Prop :=
 ∃ (I_1 : Value → Heap → Prop) (m_2 : Value → Heap → Nat), I_1 (.int .i64 1) H0 ∧
 ∀ _ : Env, ∀ n5 : Value, ∀ H_3 : Heap, I_1 n5 H_3 →
 pAdd i1 n5 fun x8 =>
 pLen l0 fun x10 =>
 pLt x8 x10 fun x11 =>
 pAnd x11 (fun J_4 =>
 pAdd i1 n5 fun x16 =>
 pIdxSl 1 l0 x16 fun x17 =>
 pLoad H_3 x17 fun x18 =>
 pIdxSl 1 l0 i1 fun x21 =>
 pLoad H_3 x21 fun x22 =>
 pEq 0 x18 x22 fun x23 =>
 J_4 x23 H_3) H_3 fun x24 H_5 => ∀ _ : Env,
 pCond x24
 (pAdd n5 (.int .i64 1) fun x26 =>
 I_1 x26 H_5 ∧ m_2 x26 H_5 < m_2 n5 H_3)
 (R n5 H_5)
set_option maxRecDepth 100000 in
theorem block_run.vc (l0 : Value) (i1 : Value) (H0 : Heap) (R : Value → Heap → Prop) (h : block_run.res l0 i1 H0 R) : CallsH Tryz.prog 81 #[l0, i1] H0 R := by
  have e : vcFn Tryz.prog Tryz.C Tryz.f81 block_run.an [l0, i1] H0 R = block_run.res l0 i1 H0 R := by kernel_rfl
  exact vcFn_sound Tryz.callable Tryz.mixed Tryz.func81 (by kernel_rfl) (e.mpr h)
def block_again.an : Ann := (.seq (.reg (.op 0 [] (.op 1 [] (.op 2 [] .nil)))) (.seq (.block (.seq (.reg (.op 0 [] (.op 1 [] (.op 2 [] (.grp 2 (.op 3 [] (.op 4 [] .nil)) 5 (.op 6 [] .nil)))))) (.cond (.seq (.reg (.op 0 [] (.op 1 [] (.op 2 [] .nil)))) (.seq (.reg (.op 0 [] (.op 1 [] (.op 2 [] (.op 3 [] (.op 4 [] (.op 5 [] (.op 6 [] (.op 7 [] .nil))))))))) .leaf)) (.seq (.reg (.op 0 [] (.op 1 [] (.op 2 [] (.grp 2 (.op 3 [] (.op 4 [] .nil)) 5 (.op 6 [] .nil)))))) (.cond (.seq (.reg (.op 0 [] (.op 1 [] (.op 2 [] (.op 3 [] (.op 4 [] (.op 5 [] (.op 6 [] (.op 7 [] .nil))))))))) .leaf) (.seq (.reg (.op 0 [] (.op 1 [] (.op 2 [] (.grp 2 (.op 3 [] (.op 4 [] .nil)) 5 (.op 6 [] .nil)))))) (.cond (.seq (.reg (.op 0 [] (.op 1 [] (.op 2 [] .nil)))) (.seq (.reg (.op 0 [] (.op 1 [] (.op 2 [] (.op 3 [] (.op 4 [] (.op 5 [] (.op 6 [] (.op 7 [] .nil))))))))) .leaf)) .leaf))))))) (.seq (.reg (.op 0 [] (.op 1 [] (.op 2 [] (.op 3 [] .nil))))) .leaf)))
def block_again.res (v0 : Value) (n1 : Value) (H0 : Heap) (R : Value → Heap → Prop) : Prop :=
 pBox H0 106 (.agg #[(.int .i64 0), (.int .i64 0), (.int .u64 0)]) fun x4 H_1 =>
 pEq 0 v0 (.int .i64 0) fun x9 =>
 pAnd x9 (fun J_2 =>
 pGe n1 (.int .i64 11) fun x12 =>
 J_2 x12 H_1) H_1 fun x13 H_3 => ∀ _ : Env,
 pCond x13
 (pMin n1 (.int .i64 138) fun x15 =>
 pSub x15 (.int .i64 11) fun x17 =>
 pConv .u64 x17 fun x18 =>
 pBuild [(.int .i64 0), (.int .i64 0), (.int .u64 0)] [(0, 1, (.int .i64 18)), (1, 1, (.int .i64 7)), (2, 1, x18)] fun x19 =>
 pStoreN H_3 3 x4 x19 fun _ H_4 =>
 pLoadN H_4 3 x4 fun r_5 =>
 R (.tuple #[r_5, x15, (.bool true)]) H_4)
 (pEq 0 v0 (.int .i64 0) fun x23 =>
 pAnd x23 (fun J_6 =>
 pGe n1 (.int .i64 3) fun x26 =>
 J_6 x26 H_3) H_3 fun x27 H_7 => ∀ _ : Env,
 pCond x27
 (pSub n1 (.int .i64 3) fun x29 =>
 pConv .u64 x29 fun x30 =>
 pBuild [(.int .i64 0), (.int .i64 0), (.int .u64 0)] [(0, 1, (.int .i64 17)), (1, 1, (.int .i64 3)), (2, 1, x30)] fun x31 =>
 pStoreN H_7 3 x4 x31 fun _ H_8 =>
 pLoadN H_8 3 x4 fun r_9 =>
 R (.tuple #[r_9, n1, (.bool true)]) H_8)
 (pNe 0 v0 (.int .i64 0) fun x35 =>
 pAnd x35 (fun J_10 =>
 pGe n1 (.int .i64 3) fun x38 =>
 J_10 x38 H_7) H_7 fun x39 H_11 => ∀ _ : Env,
 pCond x39
 (pMin n1 (.int .i64 6) fun x41 =>
 pSub x41 (.int .i64 3) fun x43 =>
 pConv .u64 x43 fun x44 =>
 pBuild [(.int .i64 0), (.int .i64 0), (.int .u64 0)] [(0, 1, (.int .i64 16)), (1, 1, (.int .i64 2)), (2, 1, x44)] fun x45 =>
 pStoreN H_11 3 x4 x45 fun _ H_12 =>
 pLoadN H_12 3 x4 fun r_13 =>
 R (.tuple #[r_13, x41, (.bool true)]) H_12)
 (pBuild [(.int .i64 0), (.int .i64 0), (.int .u64 0)] [] fun x47 =>
 pStoreN H_11 3 x4 x47 fun _ H_14 =>
 pLoadN H_14 3 x4 fun r_15 =>
 R (.tuple #[r_15, (.int .i64 0), (.bool false)]) H_14)))
set_option maxRecDepth 100000 in
theorem block_again.vc (v0 : Value) (n1 : Value) (H0 : Heap) (R : Value → Heap → Prop) (h : block_again.res v0 n1 H0 R) : CallsH Tryz.prog 82 #[v0, n1] H0 R := by
  have e : vcFn Tryz.prog Tryz.C Tryz.f82 block_again.an [v0, n1] H0 R = block_again.res v0 n1 H0 R := by kernel_rfl
  exact vcFn_sound Tryz.callable Tryz.mixed Tryz.func82 (by kernel_rfl) (e.mpr h)
def bits_Writer_Align.an : Ann := (.seq (.reg (.op 0 [] (.op 1 [] (.op 2 [] (.grp 2 (.op 3 [] (.op 4 [] (.op 5 [] (.op 6 [] (.op 7 [] .nil))))) 8 .nil))))) (.cond (.reg (.op 0 [] (.op 1 [] (.op 2 [] (.op 3 [] (.op 4 [] (.op 5 [] (.op 6 [] .nil)))))))) .leaf))
def bits_Writer_Align.res (w0 : Value) (H0 : Heap) (R : Value → Heap → Prop) : Prop :=
 pNe 3 w0 (.pointer none) fun x3 =>
 pAnd x3 (fun J_1 =>
 pNil w0 fun x6 =>
 pFieldAddr 2 x6 fun x7 =>
 pLoad H0 x7 fun x8 =>
 pGt x8 (.int .i64 0) fun x9 =>
 J_1 x9 H0) H0 fun x10 H_2 => ∀ _ : Env,
 pCond x10
 (pNil w0 fun x13 =>
 pFieldAddr 2 x13 fun x14 =>
 pLoad H_2 x14 fun x15 =>
 pSub (.int .i64 8) x15 fun x16 =>
 CallsH Tryz.prog 22 #[w0, (.int .u64 0), x16] H_2 fun x17 H_3 =>
 R (.tuple #[]) H_3)
 (R (.tuple #[]) H_2)
set_option maxRecDepth 100000 in
theorem bits_Writer_Align.vc (w0 : Value) (H0 : Heap) (R : Value → Heap → Prop) (h : bits_Writer_Align.res w0 H0 R) : CallsH Tryz.prog 7 #[w0] H0 R := by
  have e : vcFn Tryz.prog Tryz.C Tryz.f7 bits_Writer_Align.an [w0] H0 R = bits_Writer_Align.res w0 H0 R := by kernel_rfl
  exact vcFn_sound Tryz.callable Tryz.mixed Tryz.func7 (by kernel_rfl) (e.mpr h)
def bits_Writer_Drain.an : Ann := (.seq (.reg (.op 0 [] .nil)) (.seq (.seq (.reg (.op 0 [] (.op 1 [] .nil))) (.cond (.seq (.reg (.op 0 [] .nil)) .leaf) .leaf)) (.seq (.reg (.op 0 [] (.op 1 [] (.op 2 [] (.op 3 [] (.op 4 [] (.op 5 [] .nil))))))) (.seq (.reg (.op 0 [] (.op 1 [] (.op 2 [] (.op 3 [] (.op 4 [] (.op 5 [] (.op 6 [] (.op 7 [] (.op 8 [] .nil)))))))))) (.seq (.reg (.op 0 [] (.op 1 [] .nil))) .leaf)))))
def bits_Writer_Drain.res (w0 : Value) (H0 : Heap) (R : Value → Heap → Prop) : Prop :=
 pEq 3 w0 (.pointer none) fun x5 =>
 pCond x5
 (R (str []) H0)
 (pNil w0 fun x7 =>
 pFieldAddr 0 x7 fun x8 =>
 pLoad H0 x8 fun x9 =>
 pStrOf H0 x9 fun x10 =>
 pNil w0 fun x13 =>
 pFieldAddr 0 x13 fun x14 =>
 pLoad H0 x14 fun x15 =>
 pSlSl 1 x15 none (some (.int .i64 0)) fun x16 =>
 pNil w0 fun x17 =>
 pFieldAddr 0 x17 fun x18 =>
 pStore H0 x18 x16 fun _ H_1 =>
 R x10 H_1)
set_option maxRecDepth 100000 in
theorem bits_Writer_Drain.vc (w0 : Value) (H0 : Heap) (R : Value → Heap → Prop) (h : bits_Writer_Drain.res w0 H0 R) : CallsH Tryz.prog 8 #[w0] H0 R := by
  have e : vcFn Tryz.prog Tryz.C Tryz.f8 bits_Writer_Drain.an [w0] H0 R = bits_Writer_Drain.res w0 H0 R := by kernel_rfl
  exact vcFn_sound Tryz.callable Tryz.mixed Tryz.func8 (by kernel_rfl) (e.mpr h)
def bits_Writer_Len.an : Ann := (.seq (.reg (.op 0 [] .nil)) (.seq (.seq (.reg (.op 0 [] (.op 1 [] .nil))) (.cond (.seq (.reg (.op 0 [] .nil)) .leaf) .leaf)) (.seq (.drw [0, 1, 3, 7, 15, 31, 0, 64, 192, 448, 1023, 2047] (.op 0 [] (.op 1 [] (.op 2 [] (.op 3 [] (.op 4 [] (.op 5 [] (.op 6 [] (.op 7 [] (.op 8 [] (.op 9 [] (.op 10 [] (.op 11 [] .nil))))))))))))) .leaf)))
def bits_Writer_Len.res (w0 : Value) (H0 : Heap) (R : Value → Heap → Prop) : Prop :=
 pEq 3 w0 (.pointer none) fun x4 =>
 pCond x4
 (R (.int .i64 0) H0)
 (pNil w0 fun x6 =>
 pFieldAddr 0 x6 fun x7 =>
 pLoad H0 x7 fun x8 =>
 pLen x8 fun x9 =>
 pMul (.int .i64 8) x9 fun x10 =>
 pNil w0 fun x12 =>
 pFieldAddr 2 x12 fun x13 =>
 pLoad H0 x13 fun x14 =>
 pAdd x10 x14 fun x15 =>
 R x15 H0)
set_option maxRecDepth 100000 in
theorem bits_Writer_Len.vc (w0 : Value) (H0 : Heap) (R : Value → Heap → Prop) (h : bits_Writer_Len.res w0 H0 R) : CallsH Tryz.prog 15 #[w0] H0 R := by
  have e : vcFn Tryz.prog Tryz.C Tryz.f15 bits_Writer_Len.an [w0] H0 R = bits_Writer_Len.res w0 H0 R := by kernel_rfl
  exact vcFn_sound Tryz.callable Tryz.mixed Tryz.func15 (by kernel_rfl) (e.mpr h)
def bits_Reader_Feed.an : Ann := (.seq (.reg (.op 0 [] (.op 1 [] .nil))) (.cond (.reg (.op 0 [] (.op 1 [] (.op 2 [] (.op 3 [] (.op 4 [] (.op 5 [] (.op 6 [] (.op 7 [] (.op 8 [] .nil)))))))))) .leaf))
def bits_Reader_Feed.res (r0 : Value) (s1 : Value) (H0 : Heap) (R : Value → Heap → Prop) : Prop :=
 pNe 3 r0 (.pointer none) fun x5 =>
 pCond x5
 (pNil r0 fun x7 =>
 pFieldAddr 0 x7 fun x8 =>
 pLoad H0 x8 fun x9 =>
 pAdd x9 s1 fun x11 =>
 pNil r0 fun x12 =>
 pFieldAddr 0 x12 fun x13 =>
 pStore H0 x13 x11 fun _ H_1 =>
 R (.tuple #[]) H_1)
 (R (.tuple #[]) H0)
set_option maxRecDepth 100000 in
theorem bits_Reader_Feed.vc (r0 : Value) (s1 : Value) (H0 : Heap) (R : Value → Heap → Prop) (h : bits_Reader_Feed.res r0 s1 H0 R) : CallsH Tryz.prog 17 #[r0, s1] H0 R := by
  have e : vcFn Tryz.prog Tryz.C Tryz.f17 bits_Reader_Feed.an [r0, s1] H0 R = bits_Reader_Feed.res r0 s1 H0 R := by kernel_rfl
  exact vcFn_sound Tryz.callable Tryz.mixed Tryz.func17 (by kernel_rfl) (e.mpr h)
def bits_Reader_Left.an : Ann := (.seq (.reg (.op 0 [] .nil)) (.seq (.seq (.reg (.op 0 [] (.op 1 [] .nil))) (.cond (.seq (.reg (.op 0 [] .nil)) .leaf) .leaf)) (.seq (.drw [0, 1, 3, 7, 0, 16, 48, 112, 240, 496, 1023, 2047] (.op 0 [] (.op 1 [] (.op 2 [] (.op 3 [] (.op 4 [] (.op 5 [] (.op 6 [] (.op 7 [] (.op 8 [] (.op 9 [] (.op 10 [] (.op 11 [] .nil))))))))))))) .leaf)))
def bits_Reader_Left.res (r0 : Value) (H0 : Heap) (R : Value → Heap → Prop) : Prop :=
 pEq 3 r0 (.pointer none) fun x4 =>
 pCond x4
 (R (.int .i64 0) H0)
 (pNil r0 fun x6 =>
 pFieldAddr 2 x6 fun x7 =>
 pLoad H0 x7 fun x8 =>
 pNil r0 fun x10 =>
 pFieldAddr 0 x10 fun x11 =>
 pLoad H0 x11 fun x12 =>
 pLenS x12 fun x13 =>
 pMul (.int .i64 8) x13 fun x14 =>
 pAdd x8 x14 fun x15 =>
 R x15 H0)
set_option maxRecDepth 100000 in
theorem bits_Reader_Left.vc (r0 : Value) (H0 : Heap) (R : Value → Heap → Prop) (h : bits_Reader_Left.res r0 H0 R) : CallsH Tryz.prog 19 #[r0] H0 R := by
  have e : vcFn Tryz.prog Tryz.C Tryz.f19 bits_Reader_Left.an [r0] H0 R = bits_Reader_Left.res r0 H0 R := by kernel_rfl
  exact vcFn_sound Tryz.callable Tryz.mixed Tryz.func19 (by kernel_rfl) (e.mpr h)
def bits_Writer_Write.an : Ann := (.seq (.seq (.reg (.op 0 [] (.op 1 [] (.op 2 [] (.grp 2 (.op 3 [] (.op 4 [] .nil)) 5 (.op 6 [] (.grp 6 (.op 7 [] (.op 8 [] .nil)) 9 .nil))))))) (.cond .leaf .leaf)) (.seq (.drw [0, 1, 3, 7, 0, 0, 32, 96, 240, 0, 512, 1536, 3584, 8176, 16383, 32767, 65535, 131071] (.op 0 [] (.op 1 [] (.op 2 [] (.op 3 [] (.op 4 [] (.op 5 [] (.op 6 [] (.op 7 [] (.op 8 [] (.op 9 [] (.op 10 [] (.op 11 [] (.op 12 [] (.op 13 [] (.op 14 [] (.op 15 [] (.op 16 [] (.op 17 [] .nil))))))))))))))))))) (.seq (.reg (.op 0 [] (.op 1 [] (.op 2 [] (.op 3 [] (.op 4 [] (.op 5 [] (.op 6 [] (.op 7 [] (.op 8 [] .nil)))))))))) (.reg (.op 0 [] (.op 1 [] .nil))))))
def bits_Writer_Write.res (w0 : Value) (v1 : Value) (n2 : Value) (H0 : Heap) (R : Value → Heap → Prop) : Prop :=
 pEq 3 w0 (.pointer none) fun x7 =>
 pOr x7 (fun J_1 =>
 pLt n2 (.int .i64 1) fun x10 =>
 J_1 x10 H0) H0 fun x11 H_2 => ∀ _ : Env,
 pOr x11 (fun J_3 =>
 pGt n2 (.int .i64 32) fun x14 =>
 J_3 x14 H_2) H_2 fun x15 H_4 => ∀ _ : Env,
 pCond x15
 (R (.tuple #[]) H_4)
 (pNil w0 fun x17 =>
 pFieldAddr 1 x17 fun x18 =>
 pLoad H_4 x18 fun x19 =>
 pShl (.int .u64 1) n2 fun x22 =>
 pSub x22 (.int .u64 1) fun x23 =>
 pBits .and v1 x23 fun x24 =>
 pNil w0 fun x26 =>
 pFieldAddr 2 x26 fun x27 =>
 pLoad H_4 x27 fun x28 =>
 pShl x24 x28 fun x29 =>
 pBits .or x19 x29 fun x30 =>
 pNil w0 fun x31 =>
 pFieldAddr 1 x31 fun x32 =>
 pStore H_4 x32 x30 fun _ H_5 =>
 pNil w0 fun x34 =>
 pFieldAddr 2 x34 fun x35 =>
 pLoad H_5 x35 fun x36 =>
 pAdd x36 n2 fun x38 =>
 pNil w0 fun x39 =>
 pFieldAddr 2 x39 fun x40 =>
 pStore H_5 x40 x38 fun _ H_6 =>
 CallsH Tryz.prog 51 #[w0] H_6 fun x42 H_7 =>
 R (.tuple #[]) H_7)
set_option maxRecDepth 100000 in
theorem bits_Writer_Write.vc (w0 : Value) (v1 : Value) (n2 : Value) (H0 : Heap) (R : Value → Heap → Prop) (h : bits_Writer_Write.res w0 v1 n2 H0 R) : CallsH Tryz.prog 22 #[w0, v1, n2] H0 R := by
  have e : vcFn Tryz.prog Tryz.C Tryz.f22 bits_Writer_Write.an [w0, v1, n2] H0 R = bits_Writer_Write.res w0 v1 n2 H0 R := by kernel_rfl
  exact vcFn_sound Tryz.callable Tryz.mixed Tryz.func22 (by kernel_rfl) (e.mpr h)
def bits_Writer_Add.an : Ann := (.seq (.reg (.op 0 [] (.op 1 [] .nil))) (.cond (.seq (.reg (.op 0 [] (.op 1 [] .nil))) (.reg (.op 0 [] (.op 1 [] (.op 2 [] (.op 3 [] (.op 4 [] (.op 5 [] (.op 6 [] (.op 7 [] (.op 8 [] (.op 9 [] .nil)))))))))))) .leaf))
def bits_Writer_Add.res (w0 : Value) (s1 : Value) (H0 : Heap) (R : Value → Heap → Prop) : Prop :=
 pNe 3 w0 (.pointer none) fun x5 =>
 pCond x5
 (CallsH Tryz.prog 7 #[w0] H0 fun x7 H_1 =>
 pNil w0 fun x10 =>
 pFieldAddr 0 x10 fun x11 =>
 pLoad H_1 x11 fun x12 =>
 pAppend H_1 5 1 1 [(.int .u8 0)] x12 s1 fun x14 H_2 =>
 pNil w0 fun x15 =>
 pFieldAddr 0 x15 fun x16 =>
 pStore H_2 x16 x14 fun _ H_3 =>
 R (.tuple #[]) H_3)
 (R (.tuple #[]) H0)
set_option maxRecDepth 100000 in
theorem bits_Writer_Add.vc (w0 : Value) (s1 : Value) (H0 : Heap) (R : Value → Heap → Prop) (h : bits_Writer_Add.res w0 s1 H0 R) : CallsH Tryz.prog 23 #[w0, s1] H0 R := by
  have e : vcFn Tryz.prog Tryz.C Tryz.f23 bits_Writer_Add.an [w0, s1] H0 R = bits_Writer_Add.res w0 s1 H0 R := by kernel_rfl
  exact vcFn_sound Tryz.callable Tryz.mixed Tryz.func23 (by kernel_rfl) (e.mpr h)
def bits_Put.an : Ann := (.seq (.reg (.op 0 [] .nil)) (.seq (.seq (.reg (.op 0 [] (.op 1 [] (.op 2 [] (.grp 2 (.op 3 [] (.op 4 [] .nil)) 5 .nil))))) (.cond (.seq (.reg (.op 0 [] .nil)) .leaf) .leaf)) (.seq (.reg (.op 0 [] (.op 1 [] (.op 2 [] .nil)))) (.seq (.seq (.reg (.op 0 [] (.op 1 [] (.op 2 [] .nil)))) (.block (.loop [17] [6, 17, 18, 19, 20, 21, 22, 23, 24, 25, 26, 27, 28] (.seq (.reg (.op 0 [] .nil)) (.seq (.cond .leaf .leaf) (.seq (.block (.seq (.reg (.op 0 [] (.op 1 [] .nil))) (.reg (.op 0 [] (.op 1 [] (.op 2 [] (.op 3 [] (.op 4 [] (.op 5 [] (.op 6 [] (.op 7 [] (.op 8 [] .nil)))))))))))) (.reg (.op 0 [] (.op 1 [] .nil))))))))) (.seq (.reg (.op 0 [] (.op 1 [] (.op 2 [] .nil)))) .leaf)))))
def bits_Put.res (n0 : Value) (size1 : Value) (H0 : Heap) (R : Value → Heap → Prop) : Prop :=
 pLt size1 (.int .i64 1) fun x8 =>
 pOr x8 (fun J_1 =>
 pGt size1 (.int .i64 8) fun x11 =>
 J_1 x11 H0) H0 fun x12 H_2 => ∀ _ : Env,
 pCond x12
 (R (str []) H_2)
 (pMakeSl H_2 5 1 [(.int .u8 0)] size1 size1 fun x14 H_3 =>
 pLen x14 fun x16 =>
 ∃ (I_4 : Value → Heap → Prop) (m_5 : Value → Heap → Nat), I_4 (.int .i64 0) H_3 ∧
 ∀ _ : Env, ∀ x17 : Value, ∀ H_6 : Heap, I_4 x17 H_6 →
 pLt x17 x16 fun x18 =>
 pCond x18
 (pMul (.int .i64 8) x17 fun x24 =>
 pShr n0 x24 fun x25 =>
 pConv .u8 x25 fun x26 =>
 pIdxSl 1 x14 x17 fun x27 =>
 pStore H_6 x27 x26 fun _ H_7 =>
 pAdd x17 (.int .i64 1) fun x28 =>
 I_4 x28 H_7 ∧ m_5 x28 H_7 < m_5 x17 H_6)
 (pStrOf H_6 x14 fun x30 =>
 R x30 H_6))
set_option maxRecDepth 100000 in
theorem bits_Put.vc (n0 : Value) (size1 : Value) (H0 : Heap) (R : Value → Heap → Prop) (h : bits_Put.res n0 size1 H0 R) : CallsH Tryz.prog 24 #[n0, size1] H0 R := by
  have e : vcFn Tryz.prog Tryz.C Tryz.f24 bits_Put.an [n0, size1] H0 R = bits_Put.res n0 size1 H0 R := by kernel_rfl
  exact vcFn_sound Tryz.callable Tryz.mixed Tryz.func24 (by kernel_rfl) (e.mpr h)
def bits_Reader_Peek.an : Ann := (.seq (.reg (.op 0 [] (.op 1 [] .nil))) (.seq (.seq (.reg (.op 0 [] (.op 1 [] (.op 2 [] (.grp 2 (.op 3 [] (.op 4 [] .nil)) 5 (.op 6 [] (.grp 6 (.op 7 [] (.op 8 [] .nil)) 9 (.op 10 [] (.grp 10 (.op 11 [] (.op 12 [] (.op 13 [] (.op 14 [] .nil)))) 15 .nil))))))))) (.cond (.seq (.reg (.op 0 [] (.op 1 [] .nil))) .leaf) .leaf)) (.seq (.reg (.op 0 [] (.op 1 [] (.op 2 [] .nil)))) (.seq (.drw [0, 1, 3, 7, 0, 16, 48, 127, 255, 511] (.op 0 [] (.op 1 [] (.op 2 [] (.op 3 [] (.op 4 [] (.op 5 [] (.op 6 [] (.op 7 [] (.op 8 [] (.op 9 [] .nil))))))))))) .leaf))))
def bits_Reader_Peek.res (r0 : Value) (n1 : Value) (H0 : Heap) (R : Value → Heap → Prop) : Prop :=
 pEq 3 r0 (.pointer none) fun x7 =>
 pOr x7 (fun J_1 =>
 pLt n1 (.int .i64 0) fun x10 =>
 J_1 x10 H0) H0 fun x11 H_2 => ∀ _ : Env,
 pOr x11 (fun J_3 =>
 pGt n1 (.int .i64 32) fun x14 =>
 J_3 x14 H_2) H_2 fun x15 H_4 => ∀ _ : Env,
 pOr x15 (fun J_5 =>
 CallsH Tryz.prog 19 #[r0] H_4 fun x18 H_7 =>
 pLt x18 n1 fun x20 =>
 J_5 x20 H_7) H_4 fun x21 H_6 => ∀ _ : Env,
 pCond x21
 (R (.tuple #[(.int .u64 0), (.bool false)]) H_6)
 (CallsH Tryz.prog 71 #[r0, n1] H_6 fun x24 H_8 =>
 pNil r0 fun x26 =>
 pFieldAddr 1 x26 fun x27 =>
 pLoad H_8 x27 fun x28 =>
 pShl (.int .u64 1) n1 fun x30 =>
 pSub x30 (.int .u64 1) fun x31 =>
 pBits .and x28 x31 fun x32 =>
 R (.tuple #[x32, (.bool true)]) H_8)
set_option maxRecDepth 100000 in
theorem bits_Reader_Peek.vc (r0 : Value) (n1 : Value) (H0 : Heap) (R : Value → Heap → Prop) (h : bits_Reader_Peek.res r0 n1 H0 R) : CallsH Tryz.prog 43 #[r0, n1] H0 R := by
  have e : vcFn Tryz.prog Tryz.C Tryz.f43 bits_Reader_Peek.an [r0, n1] H0 R = bits_Reader_Peek.res r0 n1 H0 R := by kernel_rfl
  exact vcFn_sound Tryz.callable Tryz.mixed Tryz.func43 (by kernel_rfl) (e.mpr h)
def bits_Reader_Read.an : Ann := (.seq (.reg (.op 0 [] (.op 1 [] .nil))) (.seq (.reg (.op 0 [] (.op 1 [] (.op 2 [] (.op 3 [] (.op 4 [] (.op 5 [] (.op 6 [] (.op 7 [] .nil))))))))) (.cut [] [14, 15, 16, 17] (.seq (.reg (.op 0 [] .nil)) (.cond (.reg (.op 0 [] (.op 1 [] (.op 2 [] .nil)))) .leaf)) (.seq (.reg (.op 0 [] (.op 1 [] (.op 2 [] (.op 3 [] .nil))))) .leaf))))
def bits_Reader_Read.res (r0 : Value) (n1 : Value) (H0 : Heap) (R : Value → Heap → Prop) : Prop :=
 CallsH Tryz.prog 43 #[r0, n1] H0 fun x11 H_1 =>
 pExtract 0 x11 fun x12 =>
 pExtract 1 x11 fun x13 =>
 ∃ J_2 : Heap → Prop, (∀ _ : Env, ∀ H_3 : Heap, J_2 H_3 →
 R (.tuple #[x12, x13]) H_3) ∧
 pCond x13
 (CallsH Tryz.prog 72 #[r0, n1] H_1 fun x17 H_4 =>
 J_2 H_4)
 (J_2 H_1)
set_option maxRecDepth 100000 in
theorem bits_Reader_Read.vc (r0 : Value) (n1 : Value) (H0 : Heap) (R : Value → Heap → Prop) (h : bits_Reader_Read.res r0 n1 H0 R) : CallsH Tryz.prog 45 #[r0, n1] H0 R := by
  have e : vcFn Tryz.prog Tryz.C Tryz.f45 bits_Reader_Read.an [r0, n1] H0 R = bits_Reader_Read.res r0 n1 H0 R := by kernel_rfl
  exact vcFn_sound Tryz.callable Tryz.mixed Tryz.func45 (by kernel_rfl) (e.mpr h)
def bits_Writer_spill.an : Ann := (.block (.loop [] [2, 3, 4, 5, 6, 7, 8, 9, 10, 11, 12, 13, 14, 15, 16, 17, 18, 19, 20, 21, 22, 23, 24, 25, 26, 27, 28, 29, 30, 31, 32, 33, 34] (.seq (.seq (.reg (.op 0 [] (.op 1 [] (.op 2 [] (.op 3 [] (.op 4 [] .nil)))))) (.cond .leaf .leaf)) (.seq (.block (.seq (.drw [0, 0, 2, 6, 14, 0, 32, 96, 224, 480, 992, 2046, 4095, 8191, 16383] (.op 0 [] (.op 1 [] (.op 2 [] (.op 3 [] (.op 4 [] (.op 5 [] (.op 6 [] (.op 7 [] (.op 8 [] (.op 9 [] (.op 10 [4] (.op 11 [] (.op 12 [] (.op 13 [] (.op 14 [] .nil)))))))))))))))) (.reg (.op 0 [] (.op 1 [] (.op 2 [] (.op 3 [] (.op 4 [] (.op 5 [] (.op 6 [] (.op 7 [] .nil))))))))))) (.reg (.op 0 [] (.op 1 [] (.op 2 [] (.op 3 [] (.op 4 [] (.op 5 [] (.op 6 [] (.op 7 [] .nil)))))))))))))
def bits_Writer_spill.res (w0 : Value) (H0 : Heap) (R : Value → Heap → Prop) : Prop :=
 ∃ (I_1 : Heap → Prop) (m_2 : Heap → Nat), I_1 H0 ∧
 ∀ _ : Env, ∀ H_3 : Heap, I_1 H_3 →
 pNil w0 fun x3 =>
 pFieldAddr 2 x3 fun x4 =>
 pLoad H_3 x4 fun x5 =>
 pGe x5 (.int .i64 8) fun x6 =>
 pCond x6
 (pNil w0 fun x16 =>
 pFieldAddr 0 x16 fun x17 =>
 pLoad H_3 x17 fun x18 =>
 pNil w0 fun x20 =>
 pFieldAddr 1 x20 fun x21 =>
 pLoad H_3 x21 fun x22 =>
 pConv .u8 x22 fun x23 =>
 pBuildSl H_3 5 1 [(.int .u8 0)] [(0, 1, x23)] fun x24 H_4 =>
 (pLoad H_4 x17 fun r_ =>
 r_ = x18) ∧
 pAppend H_4 5 1 1 [(.int .u8 0)] x18 x24 fun x25 H_5 =>
 pNil w0 fun x26 =>
 pFieldAddr 0 x26 fun x27 =>
 pStore H_5 x27 x25 fun _ H_6 =>
 pNil w0 fun x29 =>
 pFieldAddr 1 x29 fun x30 =>
 pLoad H_6 x30 fun x31 =>
 pShr x31 (.int .u64 8) fun x32 =>
 pNil w0 fun x33 =>
 pFieldAddr 1 x33 fun x34 =>
 pStore H_6 x34 x32 fun _ H_7 =>
 pNil w0 fun x8 =>
 pFieldAddr 2 x8 fun x9 =>
 pLoad H_7 x9 fun x10 =>
 pSub x10 (.int .i64 8) fun x11 =>
 pNil w0 fun x12 =>
 pFieldAddr 2 x12 fun x13 =>
 pStore H_7 x13 x11 fun _ H_8 =>
 I_1 H_8 ∧ m_2 H_8 < m_2 H_3)
 (R (.tuple #[]) H_3)
set_option maxRecDepth 100000 in
theorem bits_Writer_spill.vc (w0 : Value) (H0 : Heap) (R : Value → Heap → Prop) (h : bits_Writer_spill.res w0 H0 R) : CallsH Tryz.prog 51 #[w0] H0 R := by
  have e : vcFn Tryz.prog Tryz.C Tryz.f51 bits_Writer_spill.an [w0] H0 R = bits_Writer_spill.res w0 H0 R := by kernel_rfl
  exact vcFn_sound Tryz.callable Tryz.mixed Tryz.func51 (by kernel_rfl) (e.mpr h)
def bits_Reader_fill.an : Ann := (.block (.loop [] [4, 5, 6, 7, 8, 9, 10, 11, 12, 13, 14, 15, 16, 17, 18, 19, 20, 21, 22, 23, 24, 25, 26, 27, 28, 29, 30, 31, 32, 33, 34, 35, 36, 37, 38, 39, 40, 41, 42, 43, 44, 45, 46, 47, 48, 49] (.seq (.seq (.reg (.op 0 [] (.op 1 [] (.op 2 [] (.op 3 [] (.op 4 [] (.op 5 [] (.op 6 [] (.grp 6 (.op 7 [] (.op 8 [] (.op 9 [] (.op 10 [] (.op 11 [] .nil))))) 12 .nil))))))))) (.cond .leaf .leaf)) (.block (.seq (.drw [0, 1, 3, 7, 0, 16, 48, 112, 240, 496, 0, 1024, 3072, 7168, 16368, 32767, 65535, 131071, 262143] (.op 0 [] (.op 1 [] (.op 2 [] (.op 3 [] (.op 4 [] (.op 5 [] (.op 6 [] (.op 7 [] (.op 8 [] (.op 9 [] (.op 10 [] (.op 11 [] (.op 12 [] (.op 13 [] (.op 14 [] (.op 15 [] (.op 16 [] (.op 17 [] (.op 18 [] .nil)))))))))))))))))))) (.seq (.reg (.op 0 [] (.op 1 [] (.op 2 [] (.op 3 [] (.op 4 [] (.op 5 [] (.op 6 [] (.op 7 [] (.op 8 [] .nil)))))))))) (.reg (.op 0 [] (.op 1 [] (.op 2 [] (.op 3 [] (.op 4 [] (.op 5 [] (.op 6 [] (.op 7 [] .nil)))))))))))))))
def bits_Reader_fill.res (r0 : Value) (n1 : Value) (H0 : Heap) (R : Value → Heap → Prop) : Prop :=
 ∃ (I_1 : Heap → Prop) (m_2 : Heap → Nat), I_1 H0 ∧
 ∀ _ : Env, ∀ H_3 : Heap, I_1 H_3 →
 pNil r0 fun x5 =>
 pFieldAddr 2 x5 fun x6 =>
 pLoad H_3 x6 fun x7 =>
 pLt x7 n1 fun x9 =>
 pAnd x9 (fun J_4 =>
 pNil r0 fun x12 =>
 pFieldAddr 0 x12 fun x13 =>
 pLoad H_3 x13 fun x14 =>
 pNe 1 x14 (str []) fun x15 =>
 J_4 x15 H_3) H_3 fun x16 H_5 => ∀ _ : Env,
 pCond x16
 (pNil r0 fun x18 =>
 pFieldAddr 1 x18 fun x19 =>
 pLoad H_5 x19 fun x20 =>
 pNil r0 fun x22 =>
 pFieldAddr 0 x22 fun x23 =>
 pLoad H_5 x23 fun x24 =>
 pIdxStr x24 (.int .i64 0) fun x25 =>
 pConv .u64 x25 fun x26 =>
 pNil r0 fun x28 =>
 pFieldAddr 2 x28 fun x29 =>
 pLoad H_5 x29 fun x30 =>
 pShl x26 x30 fun x31 =>
 pBits .or x20 x31 fun x32 =>
 pNil r0 fun x33 =>
 pFieldAddr 1 x33 fun x34 =>
 pStore H_5 x34 x32 fun _ H_6 =>
 pNil r0 fun x37 =>
 pFieldAddr 0 x37 fun x38 =>
 pLoad H_6 x38 fun x39 =>
 pSlStr x39 (some (.int .i64 1)) none fun x40 =>
 pNil r0 fun x41 =>
 pFieldAddr 0 x41 fun x42 =>
 pStore H_6 x42 x40 fun _ H_7 =>
 pNil r0 fun x44 =>
 pFieldAddr 2 x44 fun x45 =>
 pLoad H_7 x45 fun x46 =>
 pAdd x46 (.int .i64 8) fun x47 =>
 pNil r0 fun x48 =>
 pFieldAddr 2 x48 fun x49 =>
 pStore H_7 x49 x47 fun _ H_8 =>
 I_1 H_8 ∧ m_2 H_8 < m_2 H_3)
 (R (.tuple #[]) H_5)
set_option maxRecDepth 100000 in
theorem bits_Reader_fill.vc (r0 : Value) (n1 : Value) (H0 : Heap) (R : Value → Heap → Prop) (h : bits_Reader_fill.res r0 n1 H0 R) : CallsH Tryz.prog 71 #[r0, n1] H0 R := by
  have e : vcFn Tryz.prog Tryz.C Tryz.f71 bits_Reader_fill.an [r0, n1] H0 R = bits_Reader_fill.res r0 n1 H0 R := by kernel_rfl
  exact vcFn_sound Tryz.callable Tryz.mixed Tryz.func71 (by kernel_rfl) (e.mpr h)
def bits_Reader_drop.an : Ann := (.seq (.reg (.op 0 [] (.op 1 [] (.op 2 [] (.op 3 [] (.op 4 [] (.op 5 [] (.op 6 [] (.op 7 [] (.op 8 [] .nil)))))))))) (.reg (.op 0 [] (.op 1 [] (.op 2 [] (.op 3 [] (.op 4 [] (.op 5 [] (.op 6 [] (.op 7 [] (.op 8 [] .nil)))))))))))
def bits_Reader_drop.res (r0 : Value) (n1 : Value) (H0 : Heap) (R : Value → Heap → Prop) : Prop :=
 pNil r0 fun x5 =>
 pFieldAddr 1 x5 fun x6 =>
 pLoad H0 x6 fun x7 =>
 pShr x7 n1 fun x9 =>
 pNil r0 fun x10 =>
 pFieldAddr 1 x10 fun x11 =>
 pStore H0 x11 x9 fun _ H_1 =>
 pNil r0 fun x13 =>
 pFieldAddr 2 x13 fun x14 =>
 pLoad H_1 x14 fun x15 =>
 pSub x15 n1 fun x17 =>
 pNil r0 fun x18 =>
 pFieldAddr 2 x18 fun x19 =>
 pStore H_1 x19 x17 fun _ H_2 =>
 R (.tuple #[]) H_2
set_option maxRecDepth 100000 in
theorem bits_Reader_drop.vc (r0 : Value) (n1 : Value) (H0 : Heap) (R : Value → Heap → Prop) (h : bits_Reader_drop.res r0 n1 H0 R) : CallsH Tryz.prog 72 #[r0, n1] H0 R := by
  have e : vcFn Tryz.prog Tryz.C Tryz.f72 bits_Reader_drop.an [r0, n1] H0 R = bits_Reader_drop.res r0 n1 H0 R := by kernel_rfl
  exact vcFn_sound Tryz.callable Tryz.mixed Tryz.func72 (by kernel_rfl) (e.mpr h)
def bits_Reader_Take.an : Ann := (.seq (.reg (.op 0 [] .nil)) (.seq (.seq (.reg (.op 0 [] (.op 1 [] .nil))) (.cond (.seq (.reg (.op 0 [] .nil)) .leaf) .leaf)) (.seq (.reg (.op 0 [] (.op 1 [] .nil))) (.seq (.seq (.reg (.op 0 [] (.op 1 [] .nil))) (.cond (.seq (.reg (.op 0 [] .nil)) .leaf) .leaf)) (.seq (.reg (.op 0 [] .nil)) (.seq (.block (.loop [1, 5] [1, 5, 13, 14, 15, 16, 17, 18, 19, 20, 21, 22, 23, 24, 25, 26, 27, 28, 29, 30, 31, 32, 33] (.seq (.seq (.reg (.op 0 [] (.op 1 [] (.op 2 [] (.grp 2 (.op 3 [] (.op 4 [] (.op 5 [] (.op 6 [] (.op 7 [] .nil))))) 8 .nil))))) (.cond .leaf .leaf)) (.seq (.block (.seq (.reg (.op 0 [] (.op 1 [] (.op 2 [] (.op 3 [] (.op 4 [] (.op 5 [] (.op 6 [] (.op 7 [] (.op 8 [] .nil)))))))))) (.reg (.op 0 [] (.op 1 [] .nil))))) (.reg (.op 0 [] (.op 1 [] (.op 2 [] .nil)))))))) (.seq (.reg (.op 0 [] (.op 1 [] (.op 2 [] (.op 3 [] (.op 4 [] (.op 5 [] (.op 6 [] (.op 7 [] .nil))))))))) (.seq (.drw [0, 1, 0, 4, 12, 28, 0, 124, 255, 511] (.op 0 [] (.op 1 [] (.op 2 [] (.op 3 [] (.op 4 [] (.op 5 [] (.op 6 [] (.op 7 [] (.op 8 [] (.op 9 [] .nil))))))))))) (.seq (.reg (.op 0 [] (.op 1 [] (.op 2 [] (.op 3 [] (.op 4 [] (.op 5 [] (.op 6 [] (.op 7 [] (.op 8 [] (.op 9 [] .nil))))))))))) (.seq (.reg (.op 0 [] (.op 1 [] .nil))) .leaf))))))))))
def bits_Reader_Take.res (r0 : Value) (n1 : Value) (H0 : Heap) (R : Value → Heap → Prop) : Prop :=
 pEq 3 r0 (.pointer none) fun x8 =>
 pCond x8
 (R (str []) H0)
 (CallsH Tryz.prog 99 #[r0] H0 fun x10 H_1 =>
 pLe n1 (.int .i64 0) fun x12 =>
 pCond x12
 (R (str []) H_1)
 (∃ (I_2 : Value → Value → Heap → Prop) (m_3 : Value → Value → Heap → Nat), I_2 n1 (.slice none 0 0) H_1 ∧
 ∀ _ : Env, ∀ n1' : Value, ∀ b5 : Value, ∀ H_4 : Heap, I_2 n1' b5 H_4 →
 pGt n1' (.int .i64 0) fun x14 =>
 pAnd x14 (fun J_5 =>
 pNil r0 fun x17 =>
 pFieldAddr 2 x17 fun x18 =>
 pLoad H_4 x18 fun x19 =>
 pGt x19 (.int .i64 0) fun x20 =>
 J_5 x20 H_4) H_4 fun x21 H_6 => ∀ _ : Env,
 pCond x21
 (pNil r0 fun x26 =>
 pFieldAddr 1 x26 fun x27 =>
 pLoad H_6 x27 fun x28 =>
 pConv .u8 x28 fun x29 =>
 pBuildSl H_6 5 1 [(.int .u8 0)] [(0, 1, x29)] fun x30 H_7 =>
 pAppend H_7 5 1 1 [(.int .u8 0)] b5 x30 fun x31 H_8 =>
 CallsH Tryz.prog 72 #[r0, (.int .i64 8)] H_8 fun x33 H_9 =>
 pSub n1' (.int .i64 1) fun x23 =>
 I_2 x23 x31 H_9 ∧ m_3 x23 x31 H_9 < m_3 n1' b5 H_4)
 (pNil r0 fun x36 =>
 pFieldAddr 0 x36 fun x37 =>
 pLoad H_6 x37 fun x38 =>
 pLenS x38 fun x39 =>
 pMin n1' x39 fun x40 =>
 pStrOf H_6 b5 fun x42 =>
 pNil r0 fun x44 =>
 pFieldAddr 0 x44 fun x45 =>
 pLoad H_6 x45 fun x46 =>
 pSlStr x46 none (some x40) fun x48 =>
 pAdd x42 x48 fun x49 =>
 pNil r0 fun x52 =>
 pFieldAddr 0 x52 fun x53 =>
 pLoad H_6 x53 fun x54 =>
 pSlStr x54 (some x40) none fun x56 =>
 pNil r0 fun x57 =>
 pFieldAddr 0 x57 fun x58 =>
 pStore H_6 x58 x56 fun _ H_10 =>
 R x49 H_10)))
set_option maxRecDepth 100000 in
theorem bits_Reader_Take.vc (r0 : Value) (n1 : Value) (H0 : Heap) (R : Value → Heap → Prop) (h : bits_Reader_Take.res r0 n1 H0 R) : CallsH Tryz.prog 75 #[r0, n1] H0 R := by
  have e : vcFn Tryz.prog Tryz.C Tryz.f75 bits_Reader_Take.an [r0, n1] H0 R = bits_Reader_Take.res r0 n1 H0 R := by kernel_rfl
  exact vcFn_sound Tryz.callable Tryz.mixed Tryz.func75 (by kernel_rfl) (e.mpr h)
def bits_Len.an : Ann := (.seq (.reg (.op 0 [] .nil)) (.seq (.cond (.seq (.reg (.op 0 [] (.op 1 [] (.op 2 [] (.op 3 [] .nil))))) .leaf) .leaf) (.seq (.reg (.op 0 [] (.op 1 [] (.op 2 [] .nil)))) .leaf)))
def bits_Len.res (x0 : Value) (H0 : Heap) (R : Value → Heap → Prop) : Prop :=
 pCond (.bool false)
 (pConv .u32 x0 fun x4 =>
 CallsH Tryz.prog 114 #[x4] H0 fun x5 H_1 =>
 R x5 H_1)
 (CallsH Tryz.prog 115 #[x0] H0 fun x7 H_2 =>
 R x7 H_2)
set_option maxRecDepth 100000 in
theorem bits_Len.vc (x0 : Value) (H0 : Heap) (R : Value → Heap → Prop) (h : bits_Len.res x0 H0 R) : CallsH Tryz.prog 95 #[x0] H0 R := by
  have e : vcFn Tryz.prog Tryz.C Tryz.f95 bits_Len.an [x0] H0 R = bits_Len.res x0 H0 R := by kernel_rfl
  exact vcFn_sound Tryz.callable Tryz.mixed Tryz.func95 (by kernel_rfl) (e.mpr h)
def bits_Reader_Align.an : Ann := (.seq (.reg (.op 0 [] (.op 1 [] .nil))) (.cond (.reg (.op 0 [] (.op 1 [] (.op 2 [] (.op 3 [] (.op 4 [] (.op 5 [] (.op 6 [] .nil)))))))) .leaf))
def bits_Reader_Align.res (r0 : Value) (H0 : Heap) (R : Value → Heap → Prop) : Prop :=
 pNe 3 r0 (.pointer none) fun x3 =>
 pCond x3
 (pNil r0 fun x6 =>
 pFieldAddr 2 x6 fun x7 =>
 pLoad H0 x7 fun x8 =>
 pRem x8 (.int .i64 8) fun x9 =>
 CallsH Tryz.prog 72 #[r0, x9] H0 fun x10 H_1 =>
 R (.tuple #[]) H_1)
 (R (.tuple #[]) H0)
set_option maxRecDepth 100000 in
theorem bits_Reader_Align.vc (r0 : Value) (H0 : Heap) (R : Value → Heap → Prop) (h : bits_Reader_Align.res r0 H0 R) : CallsH Tryz.prog 99 #[r0] H0 R := by
  have e : vcFn Tryz.prog Tryz.C Tryz.f99 bits_Reader_Align.an [r0] H0 R = bits_Reader_Align.res r0 H0 R := by kernel_rfl
  exact vcFn_sound Tryz.callable Tryz.mixed Tryz.func99 (by kernel_rfl) (e.mpr h)
def bits_Len32.an : Ann := (.seq (.reg (.op 0 [] .nil)) (.cut [0, 2] [0, 2, 3, 4, 5, 6] (.seq (.reg (.op 0 [] (.op 1 [] .nil))) (.cond (.seq (.reg (.op 0 [] (.op 1 [] (.op 2 [] .nil)))) (.reg (.op 0 [] .nil))) .leaf)) (.cut [0, 2] [0, 2, 7, 8, 9, 10, 11, 12] (.seq (.reg (.op 0 [] (.op 1 [] .nil))) (.cond (.seq (.reg (.op 0 [] (.op 1 [] (.op 2 [] .nil)))) (.reg (.op 0 [] (.op 1 [] (.op 2 [] .nil))))) .leaf)) (.seq (.reg (.op 0 [] (.op 1 [] (.op 2 [] (.op 3 [] (.op 4 [] (.op 5 [] (.op 6 [] .nil)))))))) .leaf))))
def bits_Len32.res (x0 : Value) (H0 : Heap) (R : Value → Heap → Prop) : Prop :=
 ∃ J_1 : Value → Value → Heap → Prop, (∀ _ : Env, ∀ x0' : Value, ∀ n2 : Value, ∀ H_2 : Heap, J_1 x0' n2 H_2 →
 ∃ J_3 : Value → Value → Heap → Prop, (∀ _ : Env, ∀ x0'' : Value, ∀ n2' : Value, ∀ H_4 : Heap, J_3 x0'' n2' H_4 →
 pConv .u8 x0'' fun x15 =>
 pIdxStr (str [0, 1, 2, 2, 3, 3, 3, 3, 4, 4, 4, 4, 4, 4, 4, 4, 5, 5, 5, 5, 5, 5, 5, 5, 5, 5, 5, 5, 5, 5, 5, 5, 6, 6, 6, 6, 6, 6, 6, 6, 6, 6, 6, 6, 6, 6, 6, 6, 6, 6, 6, 6, 6, 6, 6, 6, 6, 6, 6, 6, 6, 6, 6, 6, 7, 7, 7, 7, 7, 7, 7, 7, 7, 7, 7, 7, 7, 7, 7, 7, 7, 7, 7, 7, 7, 7, 7, 7, 7, 7, 7, 7, 7, 7, 7, 7, 7, 7, 7, 7, 7, 7, 7, 7, 7, 7, 7, 7, 7, 7, 7, 7, 7, 7, 7, 7, 7, 7, 7, 7, 7, 7, 7, 7, 7, 7, 7, 7, 8, 8, 8, 8, 8, 8, 8, 8, 8, 8, 8, 8, 8, 8, 8, 8, 8, 8, 8, 8, 8, 8, 8, 8, 8, 8, 8, 8, 8, 8, 8, 8, 8, 8, 8, 8, 8, 8, 8, 8, 8, 8, 8, 8, 8, 8, 8, 8, 8, 8, 8, 8, 8, 8, 8, 8, 8, 8, 8, 8, 8, 8, 8, 8, 8, 8, 8, 8, 8, 8, 8, 8, 8, 8, 8, 8, 8, 8, 8, 8, 8, 8, 8, 8, 8, 8, 8, 8, 8, 8, 8, 8, 8, 8, 8, 8, 8, 8, 8, 8, 8, 8, 8, 8, 8, 8, 8, 8, 8, 8, 8, 8, 8, 8, 8, 8, 8, 8, 8, 8, 8, 8, 8, 8, 8, 8, 8, 8]) x15 fun x16 =>
 pConv .i64 x16 fun x17 =>
 pAdd n2' x17 fun x18 =>
 R x18 H_4) ∧
 pGe x0' (.int .u32 256) fun x8 =>
 pCond x8
 (pShr x0' (.int .u64 8) fun x10 =>
 pAdd n2 (.int .i64 8) fun x12 =>
 J_3 x10 x12 H_2)
 (J_3 x0' n2 H_2)) ∧
 pGe x0 (.int .u32 65536) fun x4 =>
 pCond x4
 (pShr x0 (.int .u64 16) fun x6 =>
 J_1 x6 (.int .i64 16) H0)
 (J_1 x0 (.int .i64 0) H0)
set_option maxRecDepth 100000 in
theorem bits_Len32.vc (x0 : Value) (H0 : Heap) (R : Value → Heap → Prop) (h : bits_Len32.res x0 H0 R) : CallsH Tryz.prog 114 #[x0] H0 R := by
  have e : vcFn Tryz.prog Tryz.C Tryz.f114 bits_Len32.an [x0] H0 R = bits_Len32.res x0 H0 R := by kernel_rfl
  exact vcFn_sound Tryz.callable Tryz.mixed Tryz.func114 (by kernel_rfl) (e.mpr h)
def bits_Len64.an : Ann := (.seq (.reg (.op 0 [] .nil)) (.cut [0, 2] [0, 2, 3, 4, 5, 6] (.seq (.reg (.op 0 [] (.op 1 [] .nil))) (.cond (.seq (.reg (.op 0 [] (.op 1 [] (.op 2 [] .nil)))) (.reg (.op 0 [] .nil))) .leaf)) (.cut [0, 2] [0, 2, 7, 8, 9, 10, 11, 12] (.seq (.reg (.op 0 [] (.op 1 [] .nil))) (.cond (.seq (.reg (.op 0 [] (.op 1 [] (.op 2 [] .nil)))) (.reg (.op 0 [] (.op 1 [] (.op 2 [] .nil))))) .leaf)) (.cut [0, 2] [0, 2, 13, 14, 15, 16, 17, 18] (.seq (.reg (.op 0 [] (.op 1 [] .nil))) (.cond (.seq (.reg (.op 0 [] (.op 1 [] (.op 2 [] .nil)))) (.reg (.op 0 [] (.op 1 [] (.op 2 [] .nil))))) .leaf)) (.seq (.reg (.op 0 [] (.op 1 [] (.op 2 [] (.op 3 [] (.op 4 [] (.op 5 [] (.op 6 [] .nil)))))))) .leaf)))))
def bits_Len64.res (x0 : Value) (H0 : Heap) (R : Value → Heap → Prop) : Prop :=
 ∃ J_1 : Value → Value → Heap → Prop, (∀ _ : Env, ∀ x0' : Value, ∀ n2 : Value, ∀ H_2 : Heap, J_1 x0' n2 H_2 →
 ∃ J_3 : Value → Value → Heap → Prop, (∀ _ : Env, ∀ x0'' : Value, ∀ n2' : Value, ∀ H_4 : Heap, J_3 x0'' n2' H_4 →
 ∃ J_5 : Value → Value → Heap → Prop, (∀ _ : Env, ∀ x0'3 : Value, ∀ n2'' : Value, ∀ H_6 : Heap, J_5 x0'3 n2'' H_6 →
 pConv .u8 x0'3 fun x21 =>
 pIdxStr (str [0, 1, 2, 2, 3, 3, 3, 3, 4, 4, 4, 4, 4, 4, 4, 4, 5, 5, 5, 5, 5, 5, 5, 5, 5, 5, 5, 5, 5, 5, 5, 5, 6, 6, 6, 6, 6, 6, 6, 6, 6, 6, 6, 6, 6, 6, 6, 6, 6, 6, 6, 6, 6, 6, 6, 6, 6, 6, 6, 6, 6, 6, 6, 6, 7, 7, 7, 7, 7, 7, 7, 7, 7, 7, 7, 7, 7, 7, 7, 7, 7, 7, 7, 7, 7, 7, 7, 7, 7, 7, 7, 7, 7, 7, 7, 7, 7, 7, 7, 7, 7, 7, 7, 7, 7, 7, 7, 7, 7, 7, 7, 7, 7, 7, 7, 7, 7, 7, 7, 7, 7, 7, 7, 7, 7, 7, 7, 7, 8, 8, 8, 8, 8, 8, 8, 8, 8, 8, 8, 8, 8, 8, 8, 8, 8, 8, 8, 8, 8, 8, 8, 8, 8, 8, 8, 8, 8, 8, 8, 8, 8, 8, 8, 8, 8, 8, 8, 8, 8, 8, 8, 8, 8, 8, 8, 8, 8, 8, 8, 8, 8, 8, 8, 8, 8, 8, 8, 8, 8, 8, 8, 8, 8, 8, 8, 8, 8, 8, 8, 8, 8, 8, 8, 8, 8, 8, 8, 8, 8, 8, 8, 8, 8, 8, 8, 8, 8, 8, 8, 8, 8, 8, 8, 8, 8, 8, 8, 8, 8, 8, 8, 8, 8, 8, 8, 8, 8, 8, 8, 8, 8, 8, 8, 8, 8, 8, 8, 8, 8, 8, 8, 8, 8, 8, 8, 8]) x21 fun x22 =>
 pConv .i64 x22 fun x23 =>
 pAdd n2'' x23 fun x24 =>
 R x24 H_6) ∧
 pGe x0'' (.int .u64 256) fun x14 =>
 pCond x14
 (pShr x0'' (.int .u64 8) fun x16 =>
 pAdd n2' (.int .i64 8) fun x18 =>
 J_5 x16 x18 H_4)
 (J_5 x0'' n2' H_4)) ∧
 pGe x0' (.int .u64 65536) fun x8 =>
 pCond x8
 (pShr x0' (.int .u64 16) fun x10 =>
 pAdd n2 (.int .i64 16) fun x12 =>
 J_3 x10 x12 H_2)
 (J_3 x0' n2 H_2)) ∧
 pGe x0 (.int .u64 4294967296) fun x4 =>
 pCond x4
 (pShr x0 (.int .u64 32) fun x6 =>
 J_1 x6 (.int .i64 32) H0)
 (J_1 x0 (.int .i64 0) H0)
set_option maxRecDepth 100000 in
theorem bits_Len64.vc (x0 : Value) (H0 : Heap) (R : Value → Heap → Prop) (h : bits_Len64.res x0 H0 R) : CallsH Tryz.prog 115 #[x0] H0 R := by
  have e : vcFn Tryz.prog Tryz.C Tryz.f115 bits_Len64.an [x0] H0 R = bits_Len64.res x0 H0 R := by kernel_rfl
  exact vcFn_sound Tryz.callable Tryz.mixed Tryz.func115 (by kernel_rfl) (e.mpr h)
def inflate_New.an : Ann := (.seq (.reg (.op 0 [] .nil)) (.seq (.reg (.op 0 [] (.op 1 [] (.op 2 [] .nil)))) .leaf))
def inflate_New.res (H0 : Heap) (R : Value → Heap → Prop) : Prop :=
 pBuild [(str []), (.int .u64 0), (.int .i64 0), (.slice none 0 0), (.int .i64 0), (.pointer none), (.slice none 0 0), (.int .i64 0), (.bool false), (.int .i64 0), (.pointer none), (.pointer none), (.int .i64 0), (.int .i64 0)] [] fun x1 =>
 pBox H0 76 x1 fun x2 H_1 =>
 R x2 H_1
set_option maxRecDepth 100000 in
theorem inflate_New.vc (H0 : Heap) (R : Value → Heap → Prop) (h : inflate_New.res H0 R) : CallsH Tryz.prog 9 #[] H0 R := by
  have e : vcFn Tryz.prog Tryz.C Tryz.f9 inflate_New.an [] H0 R = inflate_New.res H0 R := by kernel_rfl
  exact vcFn_sound Tryz.callable Tryz.mixed Tryz.func9 (by kernel_rfl) (e.mpr h)
def inflate_Decoder_Feed.an : Ann := (.seq (.reg (.op 0 [] (.op 1 [] .nil))) (.seq (.seq (.reg (.op 0 [] (.op 1 [] .nil))) (.cond (.seq (.reg (.op 0 [] (.op 1 [] .nil))) .leaf) .leaf)) (.seq (.seq (.reg (.op 0 [] (.op 1 [] (.op 2 [] (.op 3 [] (.op 4 [] .nil)))))) (.cond (.seq (.drw [0, 1, 3, 7, 0, 31] (.op 0 [] (.op 1 [] (.op 2 [] (.op 3 [] (.op 4 [] (.op 5 [] .nil))))))) .leaf) .leaf)) (.seq (.reg (.op 0 [] (.op 1 [] (.op 2 [] (.op 3 [] (.op 4 [] .nil)))))) (.seq (.reg (.op 0 [] (.op 1 [] (.op 2 [] (.op 3 [] (.op 4 [] (.op 5 [] (.op 6 [] (.op 7 [] (.op 8 [] (.op 9 [] .nil))))))))))) (.seq (.reg (.op 0 [] (.op 1 [] (.op 2 [] (.op 3 [] .nil))))) (.cut [] [4, 5, 6, 36, 37, 38, 39, 40, 41, 42, 43, 44, 45, 46, 47, 48, 49, 50, 51, 52, 53, 54, 55] (.block (.loop [] [4, 5, 6, 36, 37, 38, 39, 40, 41, 42, 43, 44, 45, 46, 47, 48, 49, 50, 51, 52, 53, 54, 55] (.seq (.seq (.reg (.op 0 [] (.op 1 [] (.op 2 [] (.op 3 [] (.op 4 [] .nil)))))) (.cond .leaf .leaf)) (.block (.seq (.reg (.op 0 [] (.op 1 [] (.op 2 [] .nil)))) (.seq (.seq (.reg (.op 0 [] (.op 1 [] .nil))) (.cond .leaf .leaf)) (.seq (.reg (.op 0 [] (.op 1 [] .nil))) (.cond (.seq (.reg (.op 0 [] (.op 1 [] (.op 2 [] (.op 3 [] (.op 4 [] .nil)))))) (.seq (.reg (.op 0 [] (.op 1 [] (.op 2 [] (.op 3 [] (.op 4 [] (.op 5 [] (.op 6 [] .nil)))))))) .leaf)) .leaf)))))))) (.seq (.reg (.op 0 [] (.op 1 [] (.op 2 [] (.op 3 [] (.op 4 [] (.op 5 [] .nil))))))) .leaf))))))))
def inflate_Decoder_Feed.res (d0 : Value) (s1 : Value) (H0 : Heap) (R : Value → Heap → Prop) : Prop :=
 pEq 3 d0 (.pointer none) fun x8 =>
 pCond x8
 (R (.tuple #[(str []), (.int .i64 1)]) H0)
 (pNil d0 fun x10 =>
 pFieldAddr 13 x10 fun x11 =>
 pLoad H0 x11 fun x12 =>
 pNe 0 x12 (.int .i64 0) fun x13 =>
 pCond x13
 (pNil d0 fun x15 =>
 pFieldAddr 13 x15 fun x16 =>
 pLoad H0 x16 fun x17 =>
 R (.tuple #[(str []), x17]) H0)
 (pNil d0 fun x19 =>
 pFieldAddr 0 x19 fun x20 =>
 CallsH Tryz.prog 17 #[x20, s1] H0 fun x22 H_1 =>
 pNil d0 fun x24 =>
 pFieldAddr 12 x24 fun x25 =>
 pLoad H_1 x25 fun x26 =>
 pLenS s1 fun x28 =>
 pAdd x26 x28 fun x29 =>
 pNil d0 fun x30 =>
 pFieldAddr 12 x30 fun x31 =>
 pStore H_1 x31 x29 fun _ H_2 =>
 pNil d0 fun x33 =>
 pFieldAddr 5 x33 fun x34 =>
 CallsH Tryz.prog 29 #[x34] H_2 fun x35 H_3 =>
 ∃ J_4 : Heap → Prop, (∀ _ : Env, ∀ H_5 : Heap, J_4 H_5 →
 pNil d0 fun x57 =>
 pFieldAddr 5 x57 fun x58 =>
 CallsH Tryz.prog 31 #[x58] H_5 fun x59 H_6 =>
 R (.tuple #[x59, (.int .i64 0)]) H_6) ∧
 ∃ (I_7 : Heap → Prop) (m_8 : Heap → Nat), I_7 H_3 ∧
 ∀ _ : Env, ∀ H_9 : Heap, I_7 H_9 →
 pNil d0 fun x37 =>
 pFieldAddr 7 x37 fun x38 =>
 pLoad H_9 x38 fun x39 =>
 pNe 0 x39 (.int .i64 3) fun x40 =>
 pCond x40
 (CallsH Tryz.prog 30 #[d0] H_9 fun x42 H_10 =>
 pEq 0 x42 (.int .i64 2) fun x44 =>
 pCond x44
 (J_4 H_10)
 (pNe 0 x42 (.int .i64 0) fun x46 =>
 pCond x46
 (pNil d0 fun x49 =>
 pFieldAddr 13 x49 fun x50 =>
 pStore H_10 x50 x42 fun _ H_11 =>
 pNil d0 fun x52 =>
 pFieldAddr 5 x52 fun x53 =>
 CallsH Tryz.prog 31 #[x53] H_11 fun x54 H_12 =>
 R (.tuple #[x54, x42]) H_12)
 (I_7 H_10 ∧ m_8 H_10 < m_8 H_9)))
 (J_4 H_9)))
set_option maxRecDepth 100000 in
theorem inflate_Decoder_Feed.vc (d0 : Value) (s1 : Value) (H0 : Heap) (R : Value → Heap → Prop) (h : inflate_Decoder_Feed.res d0 s1 H0 R) : CallsH Tryz.prog 10 #[d0, s1] H0 R := by
  have e : vcFn Tryz.prog Tryz.C Tryz.f10 inflate_Decoder_Feed.an [d0, s1] H0 R = inflate_Decoder_Feed.res d0 s1 H0 R := by kernel_rfl
  exact vcFn_sound Tryz.callable Tryz.mixed Tryz.func10 (by kernel_rfl) (e.mpr h)
def inflate_Decoder_Done.an : Ann := (.seq (.reg (.op 0 [] .nil)) (.seq (.reg (.op 0 [] (.op 1 [] (.op 2 [] (.grp 2 (.op 3 [] (.op 4 [] (.op 5 [] (.op 6 [] (.op 7 [] .nil))))) 8 (.op 9 [] .nil)))))) .leaf))
def inflate_Decoder_Done.res (d0 : Value) (H0 : Heap) (R : Value → Heap → Prop) : Prop :=
 pNe 3 d0 (.pointer none) fun x4 =>
 pAnd x4 (fun J_1 =>
 pNil d0 fun x7 =>
 pFieldAddr 7 x7 fun x8 =>
 pLoad H0 x8 fun x9 =>
 pEq 0 x9 (.int .i64 3) fun x10 =>
 J_1 x10 H0) H0 fun x11 H_2 => ∀ _ : Env,
 R x11 H_2
set_option maxRecDepth 100000 in
theorem inflate_Decoder_Done.vc (d0 : Value) (H0 : Heap) (R : Value → Heap → Prop) (h : inflate_Decoder_Done.res d0 H0 R) : CallsH Tryz.prog 11 #[d0] H0 R := by
  have e : vcFn Tryz.prog Tryz.C Tryz.f11 inflate_Decoder_Done.an [d0] H0 R = inflate_Decoder_Done.res d0 H0 R := by kernel_rfl
  exact vcFn_sound Tryz.callable Tryz.mixed Tryz.func11 (by kernel_rfl) (e.mpr h)
def inflate_All.an : Ann := (.seq (.reg (.op 0 [] (.op 1 [] (.op 2 [] .nil)))) (.seq (.reg (.op 0 [] (.op 1 [] .nil))) (.seq (.reg (.op 0 [] (.op 1 [] (.op 2 [] (.op 3 [] (.op 4 [] (.op 5 [] (.op 6 [] (.op 7 [] .nil))))))))) (.seq (.block (.seq (.reg (.op 0 [] (.op 1 [] (.op 2 [] .nil)))) (.cond (.seq (.reg (.op 0 [] (.op 1 [] (.op 2 [] (.op 3 [] .nil))))) .leaf) (.seq (.reg (.op 0 [] (.op 1 [] (.op 2 [] (.op 3 [] .nil))))) (.cond (.seq (.reg (.op 0 [] (.op 1 [] (.op 2 [] .nil)))) .leaf) .leaf))))) (.seq (.reg (.op 0 [] (.op 1 [] (.op 2 [] (.op 3 [] (.op 4 [] (.op 5 [] .nil))))))) .leaf)))))
def inflate_All.res (s0 : Value) (H0 : Heap) (R : Value → Heap → Prop) : Prop :=
 CallsH Tryz.prog 9 #[] H0 fun x8 H_1 =>
 CallsH Tryz.prog 10 #[x8, s0] H_1 fun x12 H_2 =>
 pExtract 0 x12 fun x13 =>
 pExtract 1 x12 fun x14 =>
 pNe 0 x14 (.int .i64 0) fun x17 =>
 pCond x17
 (R (.tuple #[(str []), (str []), x14]) H_2)
 (CallsH Tryz.prog 11 #[x8] H_2 fun x21 H_3 =>
 pNot x21 fun x22 =>
 pCond x22
 (R (.tuple #[(str []), (str []), (.int .i64 2)]) H_3)
 (CallsH Tryz.prog 47 #[x8] H_3 fun x25 H_4 =>
 R (.tuple #[x13, x25, (.int .i64 0)]) H_4))
set_option maxRecDepth 100000 in
theorem inflate_All.vc (s0 : Value) (H0 : Heap) (R : Value → Heap → Prop) (h : inflate_All.res s0 H0 R) : CallsH Tryz.prog 20 #[s0] H0 R := by
  have e : vcFn Tryz.prog Tryz.C Tryz.f20 inflate_All.an [s0] H0 R = inflate_All.res s0 H0 R := by kernel_rfl
  exact vcFn_sound Tryz.callable Tryz.mixed Tryz.func20 (by kernel_rfl) (e.mpr h)
def inflate_Decoder_step.an : Ann := (.seq (.reg (.op 0 [] .nil)) (.seq (.drw [0, 1, 3, 7, 0, 16, 48, 112, 0, 271, 1023] (.op 0 [] (.op 1 [] (.op 2 [] (.op 3 [] (.op 4 [] (.op 5 [] (.op 6 [] (.op 7 [] (.op 8 [3, 7] (.op 9 [7] (.op 10 [] .nil)))))))))))) (.seq (.reg (.op 0 [] .nil)) (.cut [5] [2, 5, 14, 15, 16, 17, 18, 19, 20, 21, 22, 23, 24, 25, 26, 27, 28, 29] (.seq (.reg (.op 0 [] (.op 1 [] (.op 2 [] (.op 3 [] .nil))))) (.block (.seq (.reg (.op 0 [] (.op 1 [] .nil))) (.cond (.reg (.op 0 [] (.op 1 [] (.op 2 [] .nil)))) (.seq (.reg (.op 0 [] (.op 1 [] .nil))) (.cond (.seq (.reg (.op 0 [] (.op 1 [] (.op 2 [] .nil)))) .leaf) (.seq (.reg (.op 0 [] (.op 1 [] .nil))) (.cond (.reg (.op 0 [] (.op 1 [] (.op 2 [] .nil)))) .leaf)))))))) (.seq (.seq (.reg (.op 0 [] (.op 1 [] .nil))) (.cond (.reg (.op 0 [] (.op 1 [] (.op 2 [] (.op 3 [] (.op 4 [] (.op 5 [] (.op 6 [] (.op 7 [] (.op 8 [] (.op 9 [] .nil))))))))))) .leaf)) (.seq (.reg (.op 0 [] (.op 1 [] .nil))) .leaf))))))
def inflate_Decoder_step.res (d0 : Value) (H0 : Heap) (R : Value → Heap → Prop) : Prop :=
 pNil d0 fun x7 =>
 pFieldAddr 0 x7 fun x8 =>
 pLoadN H0 3 x8 fun x9 =>
 pNil d0 fun x11 =>
 pFieldAddr 7 x11 fun x12 =>
 pLoad H0 x12 fun x13 =>
 pBox H0 52 (.agg #[(str []), (.int .u64 0), (.int .i64 0)]) fun was3 H_1 =>
 (pLoadN H_1 3 x8 fun r_ =>
 r_ = x9) ∧
 (pLoad H_1 x12 fun r_ =>
 r_ = x13) ∧
 pStoreN H_1 3 was3 x9 fun _ H_2 =>
 (pLoad H_2 x12 fun r_ =>
 r_ = x13) ∧
 ∃ J_3 : Value → Heap → Prop, (∀ _ : Env, ∀ e5 : Value, ∀ H_4 : Heap, J_3 e5 H_4 →
 pEq 0 e5 (.int .i64 2) fun x31 =>
 pCond x31
 (pLoadN H_4 3 was3 fun x34 =>
 pNil d0 fun x36 =>
 pFieldAddr 0 x36 fun x37 =>
 pStoreN H_4 3 x37 x34 fun _ H_5 =>
 pNil d0 fun x38 =>
 pFieldAddr 7 x38 fun x39 =>
 pStore H_5 x39 x13 fun _ H_6 =>
 R e5 H_6)
 (R e5 H_4)) ∧
 pNil d0 fun x15 =>
 pFieldAddr 7 x15 fun x16 =>
 pLoad H_2 x16 fun x17 =>
 pEq 0 x17 (.int .i64 0) fun x19 =>
 pCond x19
 (CallsH Tryz.prog 60 #[d0] H_2 fun x21 H_7 =>
 J_3 x21 H_7)
 (pEq 0 x17 (.int .i64 1) fun x23 =>
 pCond x23
 (CallsH Tryz.prog 61 #[d0] H_2 fun x25 H_8 =>
 R x25 H_8)
 (pEq 0 x17 (.int .i64 2) fun x27 =>
 pCond x27
 (CallsH Tryz.prog 62 #[d0] H_2 fun x29 H_9 =>
 J_3 x29 H_9)
 (J_3 (.int .i64 0) H_2)))
set_option maxRecDepth 100000 in
theorem inflate_Decoder_step.vc (d0 : Value) (H0 : Heap) (R : Value → Heap → Prop) (h : inflate_Decoder_step.res d0 H0 R) : CallsH Tryz.prog 30 #[d0] H0 R := by
  have e : vcFn Tryz.prog Tryz.C Tryz.f30 inflate_Decoder_step.an [d0] H0 R = inflate_Decoder_step.res d0 H0 R := by kernel_rfl
  exact vcFn_sound Tryz.callable Tryz.mixed Tryz.func30 (by kernel_rfl) (e.mpr h)
def inflate_Decoder_Rest.an : Ann := (.seq (.reg (.op 0 [] .nil)) (.seq (.seq (.reg (.op 0 [] (.op 1 [] (.op 2 [] .nil)))) (.cond (.seq (.reg (.op 0 [] .nil)) .leaf) .leaf)) (.seq (.reg (.op 0 [] (.op 1 [] (.op 2 [] (.op 3 [] (.op 4 [] (.op 5 [] .nil))))))) (.seq (.reg (.op 0 [] (.op 1 [] (.op 2 [] (.op 3 [] .nil))))) .leaf))))
def inflate_Decoder_Rest.res (d0 : Value) (H0 : Heap) (R : Value → Heap → Prop) : Prop :=
 CallsH Tryz.prog 11 #[d0] H0 fun x5 H_1 =>
 pNot x5 fun x6 =>
 pCond x6
 (R (str []) H_1)
 (pNil d0 fun x8 =>
 pFieldAddr 0 x8 fun x9 =>
 pLoadN H_1 3 x9 fun x10 =>
 pBox H_1 52 (.agg #[(str []), (.int .u64 0), (.int .i64 0)]) fun r3 H_2 =>
 pStoreN H_2 3 r3 x10 fun _ H_3 =>
 CallsH Tryz.prog 19 #[r3] H_3 fun x11 H_4 =>
 pQuo x11 (.int .i64 8) fun x12 =>
 CallsH Tryz.prog 75 #[r3, x12] H_4 fun x13 H_5 =>
 R x13 H_5)
set_option maxRecDepth 100000 in
theorem inflate_Decoder_Rest.vc (d0 : Value) (H0 : Heap) (R : Value → Heap → Prop) (h : inflate_Decoder_Rest.res d0 H0 R) : CallsH Tryz.prog 47 #[d0] H0 R := by
  have e : vcFn Tryz.prog Tryz.C Tryz.f47 inflate_Decoder_Rest.an [d0] H0 R = inflate_Decoder_Rest.res d0 H0 R := by kernel_rfl
  exact vcFn_sound Tryz.callable Tryz.mixed Tryz.func47 (by kernel_rfl) (e.mpr h)
end Go.Proofs.YtameljhbkedhjaaGreatDoor
namespace Go.Proofs.YtameljhbkedhjaaGreatDoor
open Go Go.Vc Go.Proofs
set_option linter.unusedVariables false
set_option linter.unusedSimpArgs false
variable {H H0 H' : Heap} {R : Value → Heap → Prop} {v : Value} {L : List It} {zs : List Int}
theorem run_spec {i : Nat} (hs : Sl H v 1 (numsV zs)) (hlen : zs.length ≤ 1000) (hi : i < zs.length) (h : ∀ n : Nat, 1 ≤ n → i + n ≤ zs.length → (∀ j, j < n → zs.getD (i + j) 0 = zs.getD i 0) → R (.int .i64 (n : Int)) H) :
    CallsH Tryz.prog 81 #[v, .int .i64 (i : Int)] H R := by
  have hvl : (numsV zs).length = zs.length * 1 := by rw [numsV_len]; omega
  have gd : ∀ {k : Nat} (hk : k < zs.length), zs.getD k 0 = zs[k] := fun hk => by rw [List.getD_eq_getElem?_getD, List.getElem?_eq_getElem hk]; rfl
  refine block_run.vc _ _ _ _ ?_
  unfold block_run.res
  refine ⟨fun n H' => ∃ k : Nat, n = .int .i64 k ∧ 1 ≤ k ∧ i + k ≤ zs.length ∧ (∀ j, j < k → zs.getD (i + j) 0 = zs.getD i 0) ∧ H = H', fun n _ => match n with | .int _ x => (zs.length - x).toNat | _ => 0,
    ⟨1, rfl, by omega, by omega, fun j hj => by rw [show j = 0 by omega, Nat.add_zero], rfl⟩, ?_⟩
  rintro _ _ _ ⟨k, rfl, h1, hk, hj, rfl⟩
  rw [pAdd_v, w64 (by omega) (by omega)]
  refine hs.len hvl (by decide) ?_
  rw [pLt_v]
  by_cases hc : i + k < zs.length
  · rw [decide_eq_true (by omega)]
    refine pAnd_true ?_
    rw [pAdd_v, w64 (by omega) (by omega)]
    refine hs.at_ hvl (by decide) (by omega) (by omega) fun p hp => ?_
    refine hp.load hs (w := .int .i64 zs[i + k]) (by rw [show ((i : Int) + (k : Int)).toNat = i + k by omega, Nat.mul_one, numsV_get hc]) ?_
    refine hs.at_ hvl (by decide) (by omega) (by omega) fun p hp => ?_
    refine hp.load hs (w := .int .i64 zs[i]) (by rw [Int.toNat_natCast, Nat.mul_one, numsV_get hi]) ?_
    rw [pEq_0]
    intro _
    refine pCond_if (fun he => ?_) (fun he => ?_)
    · rw [pAdd_v, w64 (by omega) (by omega)]
      refine ⟨⟨k + 1, rfl, by omega, by omega, fun j hj2 => ?_, rfl⟩, by show (_ : Int).toNat < (_ : Int).toNat; omega⟩
      by_cases e : j = k
      · subst e; rw [gd hc, gd hi]; exact he
      · exact hj j (by omega)
    · exact h k h1 hk hj
  · rw [decide_eq_false (by omega), pAnd_false]
    intro _
    rw [pCond_false]
    exact h k h1 hk hj
def exV (e : Ex) : Value := .agg #[.int .i64 (e.1 : Nat), .int .i64 (e.2.1 : Nat), .int .u64 (e.2.2 : Nat)]
def exC (e : Ex) : List Value := [.int .i64 (e.1 : Nat), .int .i64 (e.2.1 : Nat), .int .u64 (e.2.2 : Nat)]
def againF (z : Int) (n : Nat) : Ex × Nat × Bool :=
  if z = 0 ∧ 11 ≤ n then ((18, 7, min n 138 - 11), min n 138, true) else if z = 0 ∧ 3 ≤ n then ((17, 3, n - 3), n, true) else if z ≠ 0 ∧ 3 ≤ n then ((16, 2, min n 6 - 3), min n 6, true) else ((0, 0, 0), 0, false)
theorem again_spec {z : Int} {n : Nat} (hn : n ≤ 1000) (h : ∀ H', Ext H H' → R (.tuple #[exV (againF z n).1, .int .i64 ((againF z n).2.1 : Nat), .bool (againF z n).2.2]) H') : CallsH Tryz.prog 82 #[.int .i64 z, .int .i64 (n : Int)] H R := by
  refine block_again.vc _ _ _ _ ?_
  unfold block_again.res
  refine (Owns.start (H := H)).box fun b H1 o _ => ?_
  have fin : ∀ {a c : Int} {x : Int} {K : Value → Heap → Prop}, (∀ H', Ext H H' → K (.agg #[.int .i64 a, .int .i64 c, .int .u64 x]) H') → pStoreN H1 3 (.pointer (some ⟨b, 0, none⟩)) (.agg #[.int .i64 a, .int .i64 c, .int .u64 x]) fun _ H_4 => pLoadN H_4 3 (.pointer (some ⟨b, 0, none⟩)) fun r_5 => K r_5 H_4 := fun {a c x K} hK => by
    refine o.bstoreN (vs := [.int .i64 a, .int .i64 c, .int .u64 x]) (by repeat (first | exact List.mem_cons_self | apply List.mem_cons_of_mem)) rfl rfl rfl (by repeat (first | exact Rep.here | apply Rep.there)) fun H2 o2 _ => ?_
    refine o2.bloadN (by repeat (first | exact List.mem_cons_self | apply List.mem_cons_of_mem)) rfl ?_
    exact hK H2 o2.ext
  rw [pEq_0]
  by_cases hz : z = 0
  · rw [decide_eq_true hz]
    refine pAnd_true ?_
    rw [pGe_v]
    by_cases h11 : 11 ≤ n
    · rw [decide_eq_true (by omega)]
      intro _
      rw [pCond_true, pMin_v, pSub_v, show min (n : Int) 138 = ((min n 138 : Nat) : Int) by omega, w64 (by omega) (by omega), pConv_v, show ((min n 138 : Nat) : Int) - 11 = ((min n 138 - 11 : Nat) : Int) by omega, wu64 (by omega) (by omega)]
      refine pBuild_three rfl rfl rfl ?_
      refine fin fun H2 hx => ?_
      have := h H2 hx
      unfold againF at this
      rw [if_pos ⟨hz, h11⟩] at this
      exact this
    rw [decide_eq_false (by omega)]
    intro _
    rw [pCond_false, pEq_0, decide_eq_true hz]
    refine pAnd_true ?_
    rw [pGe_v]
    by_cases h3 : 3 ≤ n
    · rw [decide_eq_true (by omega)]
      intro _
      rw [pCond_true, pSub_v, w64 (by omega) (by omega), pConv_v, show (n : Int) - 3 = ((n - 3 : Nat) : Int) by omega, wu64 (by omega) (by omega)]
      refine pBuild_three rfl rfl rfl ?_
      refine fin fun H2 hx => ?_
      have := h H2 hx
      unfold againF at this
      rw [if_neg (by omega), if_pos ⟨hz, h3⟩] at this
      exact this
    rw [decide_eq_false (by omega)]
    intro _
    rw [pCond_false, pNe_0, decide_eq_false (by simpa using hz), pAnd_false]
    intro _
    rw [pCond_false]
    rw [pBuild_n]
    refine fin fun H2 hx => ?_
    have := h H2 hx
    unfold againF at this
    rw [if_neg (by omega), if_neg (by omega), if_neg (by omega)] at this
    exact this
  · rw [decide_eq_false hz, pAnd_false]
    intro _
    rw [pCond_false, pEq_0, decide_eq_false hz, pAnd_false]
    intro _
    rw [pCond_false, pNe_0, decide_eq_true hz]
    refine pAnd_true ?_
    rw [pGe_v]
    by_cases h3 : 3 ≤ n
    · rw [decide_eq_true (by omega)]
      intro _
      rw [pCond_true, pMin_v, pSub_v, show min (n : Int) 6 = ((min n 6 : Nat) : Int) by omega, w64 (by omega) (by omega), pConv_v, show ((min n 6 : Nat) : Int) - 3 = ((min n 6 - 3 : Nat) : Int) by omega, wu64 (by omega) (by omega)]
      refine pBuild_three rfl rfl rfl ?_
      refine fin fun H2 hx => ?_
      have := h H2 hx
      unfold againF at this
      rw [if_neg (by omega), if_neg (by omega), if_pos ⟨hz, h3⟩] at this
      exact this
    rw [decide_eq_false (by omega)]
    intro _
    rw [pCond_false]
    rw [pBuild_n]
    refine fin fun H2 hx => ?_
    have := h H2 hx
    unfold againF at this
    rw [if_neg (by omega), if_neg (by omega), if_neg (by omega)] at this
    exact this
end Go.Proofs.YtameljhbkedhjaaGreatDoor
namespace Go.Proofs.YtameljhbkedhjaaGreatDoor
open Go Go.Vc Go.Proofs
set_option linter.unusedVariables false
set_option linter.unusedSimpArgs false
variable {H H0 H' : Heap} {R : Value → Heap → Prop} {v : Value} {L : List It} {zs : List Int}
theorem contains_none {g : Nat} (hm : memb g Tryz.C = true) (hs : Sl H v 1 (numsV zs)) (hlen : zs.length ≤ 1000) (hg : ∀ z ∈ zs, ∀ (H : Heap) (R : Value → Heap → Prop), R (.bool false) H → CallsH Tryz.prog g #[.int .i64 z] H R) (h : R (.bool false) H) :
    CallsH Tryz.prog 37 #[v, .func (.func g) #[] #[]] H R := by
  have hvl : (numsV zs).length = zs.length * 1 := by rw [numsV_len]; omega
  refine slices_ContainsFunc_s_int_int.vc _ _ _ _ ?_
  unfold slices_ContainsFunc_s_int_int.res
  refine slices_IndexFunc_s_int_int.vc _ _ _ _ ?_
  unfold slices_IndexFunc_s_int_int.res
  refine hs.len hvl (by decide) ?_
  refine ⟨fun i H' => ∃ k : Nat, i = .int .i64 k ∧ k ≤ zs.length ∧ H = H', fun i _ => match i with | .int _ x => (zs.length - x).toNat | _ => 0, ⟨0, rfl, by omega, rfl⟩, ?_⟩
  rintro _ _ _ ⟨k, rfl, hk, rfl⟩
  rw [pLt_v]
  refine pCond_if (fun hc => ?_) (fun hc => ?_)
  · have hkn : k < zs.length := by omega
    refine hs.at_ hvl (by decide) (by omega) (by omega) fun p hp => ?_
    refine hp.load hs (w := .int .i64 zs[k]) (by rw [Int.toNat_natCast, Nat.mul_one, numsV_get hkn]) ?_
    refine callH_f hm ?_
    refine hg _ (List.getElem_mem hkn) _ _ ?_
    rw [pCond_false, pAdd_v, w64 (by omega) (by omega)]
    exact ⟨⟨k + 1, rfl, by omega, rfl⟩, by show (_ : Int).toNat < (_ : Int).toNat; omega⟩
  · show pGe _ _ _
    rw [pGe_v, decide_eq_false (by decide)]
    exact h
theorem badP_spec {z : Int} (h0 : 0 ≤ z) (h1 : z ≤ 15) (h : R (.bool false) H) : CallsH Tryz.prog 80 #[.int .i64 z] H R := by
  refine block_Pack_f1.vc _ _ _ ?_
  unfold block_Pack_f1.res
  rw [pLt_v, decide_eq_false (by omega)]
  refine pOr_false ?_
  rw [pGt_v, decide_eq_false (by omega)]
  intro _
  exact h
def exsC (E : List Ex) : List Value := E.flatMap exC
theorem exsC_len : ∀ E : List Ex, (exsC E).length = E.length * 3
  | [] => rfl
  | e :: E => by unfold exsC; rw [List.flatMap_cons, List.length_append]; show 3 + (exsC E).length = _; rw [exsC_len E, List.length_cons]; omega
theorem exsC_snoc (E : List Ex) (e : Ex) : exsC (E ++ [e]) = exsC E ++ exC e := by unfold exsC; rw [List.flatMap_append]; simp
theorem take_run {z : Int} {m : Nat} : ∀ k, m + k ≤ zs.length → (∀ j, j < k → zs.getD (m + j) 0 = z) → zs.take (m + k) = zs.take m ++ List.replicate k z
  | 0, h, hj => by simp
  | k + 1, h, hj => by
    have h1 := hj k (by omega)
    rw [List.getD_eq_getElem?_getD, List.getElem?_eq_getElem (by omega), Option.getD_some] at h1
    rw [show m + (k + 1) = (m + k) + 1 by omega, List.take_add_one, List.getElem?_eq_getElem (by omega), take_run k (by omega) (fun j hj2 => hj j (by omega)), h1, List.replicate_succ', List.append_assoc]; rfl
theorem pack_step {i n r : Nat} {E : List Ex} (hz : ∀ z ∈ zs, 0 ≤ z ∧ z ≤ 15) (hin : i + n ≤ zs.length) (hrun : ∀ j, j < n → zs.getD (i + j) 0 = zs.getD i 0) (h1 : 1 ≤ r) (hr : r ≤ n) (hnz : zs.getD i 0 ≠ 0 → r < n)
    (hT : Told [] E (zs.take (i + n - r))) :
    (∀ x k, againF (zs.getD i 0) r = (x, k, true) → 1 ≤ k ∧ k ≤ r ∧ Told [] (E ++ [x]) (zs.take (i + n - (r - k)))) ∧ Told [] (E ++ [((zs.getD i 0).toNat, 0, 0)]) (zs.take (i + n - (r - 1))) := by
  have hi : i < zs.length := by omega
  have hzi := hz _ (List.getElem_mem hi)
  have gi : zs.getD i 0 = zs[i] := by rw [List.getD_eq_getElem?_getD, List.getElem?_eq_getElem hi]; rfl
  rw [← gi] at hzi
  have htk : ∀ k, k ≤ r → zs.take (i + n - (r - k)) = zs.take (i + n - r) ++ List.replicate k (zs.getD i 0) := fun k hk => by
    rw [show i + n - (r - k) = (i + n - r) + k by omega]
    refine take_run k (by omega) fun j hj => ?_
    rw [show i + n - r + j = i + (n - r + j) by omega]
    exact hrun _ (by omega)
  constructor
  · intro x k hx
    unfold againF at hx
    split at hx
    · rename_i hc
      cases hx
      refine ⟨by omega, by omega, ?_⟩
      have hv : valE (zs.take (i + n - r)) (18, 7, min r 138 - 11) := .inr (.inr (.inr ⟨rfl, rfl, by show min r 138 - 11 < 128; omega⟩))
      have := hT.snoc hv
      rw [htk _ (by omega), hc.1]
      have e : addE (zs.take (i + n - r)) (18, 7, min r 138 - 11) = zs.take (i + n - r) ++ List.replicate (11 + (min r 138 - 11)) 0 := rfl
      rw [e, show 11 + (min r 138 - 11) = min r 138 by omega] at this
      exact this
    split at hx
    · rename_i hc0 hc
      cases hx
      refine ⟨by omega, by omega, ?_⟩
      have hv : valE (zs.take (i + n - r)) (17, 3, r - 3) := .inr (.inr (.inl ⟨rfl, rfl, by show r - 3 < 8; omega⟩))
      have := hT.snoc hv
      rw [htk _ (by omega), hc.1]
      have e : addE (zs.take (i + n - r)) (17, 3, r - 3) = zs.take (i + n - r) ++ List.replicate (3 + (r - 3)) 0 := rfl
      rw [e, show 3 + (r - 3) = r by omega] at this
      exact this
    split at hx
    · rename_i hc0 hc1 hc
      cases hx
      refine ⟨by omega, by omega, ?_⟩
      have hrn := hnz hc.1
      have hlen : (zs.take (i + n - r)).length = i + n - r := by rw [List.length_take]; omega
      have hv : valE (zs.take (i + n - r)) (16, 2, min r 6 - 3) := .inr (.inl ⟨rfl, fun e => by rw [e] at hlen; simp at hlen; omega, rfl, by show min r 6 - 3 < 4; omega⟩)
      have := hT.snoc hv
      rw [htk _ (by omega)]
      have hlast : (zs.take (i + n - r)).getD ((zs.take (i + n - r)).length - 1) 0 = zs.getD i 0 := by
        rw [hlen, List.getD_eq_getElem?_getD, List.getElem?_take_of_lt (by omega), ← List.getD_eq_getElem?_getD, show i + n - r - 1 = i + (n - r - 1) by omega]
        exact hrun _ (by omega)
      have e : addE (zs.take (i + n - r)) (16, 2, min r 6 - 3) = zs.take (i + n - r) ++ List.replicate (3 + (min r 6 - 3)) ((zs.take (i + n - r)).getD ((zs.take (i + n - r)).length - 1) 0) := rfl
      rw [e, hlast, show 3 + (min r 6 - 3) = min r 6 by omega] at this
      exact this
    · cases hx
  · have hv : valE (zs.take (i + n - r)) ((zs.getD i 0).toNat, 0, 0) := .inl ⟨by show (zs.getD i 0).toNat < 16; omega, rfl, rfl⟩
    have := hT.snoc hv
    rw [htk 1 h1]
    have e : addE (zs.take (i + n - r)) ((zs.getD i 0).toNat, 0, 0) = zs.take (i + n - r) ++ List.replicate 1 (zs.getD i 0) := by
      unfold addE repE
      dsimp only
      rw [if_neg (by omega), if_neg (by omega), if_neg (by omega), show (((zs.getD i 0).toNat : Nat) : Int) = zs.getD i 0 by omega]
    rw [e] at this
    exact this
theorem pack_first {i : Nat} {E : List Ex} (hz : ∀ z ∈ zs, 0 ≤ z ∧ z ≤ 15) (hi : i < zs.length) (hT : Told [] E (zs.take i)) : Told [] (E ++ [((zs.getD i 0).toNat, 0, 0)]) (zs.take (i + 1)) := by
  have hzi := hz _ (List.getElem_mem hi)
  have gi : zs.getD i 0 = zs[i] := by rw [List.getD_eq_getElem?_getD, List.getElem?_eq_getElem hi]; rfl
  have hv : valE (zs.take i) ((zs.getD i 0).toNat, 0, 0) := .inl ⟨by show (zs.getD i 0).toNat < 16; omega, rfl, rfl⟩
  have := hT.snoc hv
  have e : addE (zs.take i) ((zs.getD i 0).toNat, 0, 0) = zs.take (i + 1) := by
    unfold addE repE
    dsimp only
    rw [if_neg (by omega), if_neg (by omega), if_neg (by omega), show (((zs.getD i 0).toNat : Nat) : Int) = zs.getD i 0 by omega, List.take_add_one, List.getElem?_eq_getElem hi, gi]; rfl
  rw [e] at this
  exact this
theorem pack_spec (hs : Sl H v 1 (numsV zs)) (hlen : zs.length ≤ 400) (hz : ∀ z ∈ zs, 0 ≤ z ∧ z ≤ 15) (h : ∀ y E H', Told [] E zs → Owns H H' [.sl y 3 (exsC E)] → R y H') : CallsH Tryz.prog 57 #[v] H R := by
  have hvl : (numsV zs).length = zs.length * 1 := by rw [numsV_len]; omega
  refine block_Pack.vc _ _ _ ?_
  unfold block_Pack.res
  refine contains_none (by kernel_rfl) hs (by omega) (fun z hzm H R hR => badP_spec (hz z hzm).1 (hz z hzm).2 hR) ?_
  rw [pCond_false]
  refine ⟨fun y i H' => ∃ (k : Nat) (E : List Ex), i = .int .i64 k ∧ k ≤ zs.length ∧ Told [] E (zs.take k) ∧ Owns H H' [.sl y 3 (exsC E)], fun _ i _ => match i with | .int _ x => (zs.length - x).toNat | _ => 0, ⟨0, [], rfl, by omega, rfl, ?_⟩, ?_⟩
  · exact Owns.start.add (Ext.refl _) ⟨by decide, .inl ⟨rfl, rfl⟩⟩ (by intro k hk; exact absurd hk (by simp [It.foot, blkOf]))
  rintro _ y _ H1 ⟨i, E, rfl, hk, hT, o⟩
  refine hs.len hvl (by decide) ?_
  rw [pLt_v]
  refine pCond_if (fun hc => ?_) (fun hc => ?_)
  · have hi : i < zs.length := by omega
    have gi : zs.getD i 0 = zs[i] := by rw [List.getD_eq_getElem?_getD, List.getElem?_eq_getElem hi]; rfl
    have hzi := hz _ (List.getElem_mem hi)
    have hs1 := hs.ext o.ext
    refine hs1.at_ hvl (by decide) (by omega) (by omega) fun p hp => ?_
    rw [Int.toNat_natCast, Nat.mul_one] at hp
    refine hp.load hs1 (w := .int .i64 zs[i]) (numsV_get hi) ?_
    refine run_spec hs1 (by omega) hi fun n hn1 hin hrun => ?_
    refine ⟨hp.load hs1 (w := .int .i64 zs[i]) (numsV_get hi) rfl, ?_⟩
    rw [pAdd_v, w64 (by omega) (by omega)]
    have hTl : ∀ {E : List Ex} {m : Nat}, Told [] E (zs.take m) → E.length ≤ 400 := fun hT => by
      have := hT.len
      rw [List.length_take] at this
      simp at this; omega
    refine ⟨fun y n' H' => ∃ (r : Nat) (E : List Ex), n' = .int .i64 r ∧ r ≤ n ∧ (zs.getD i 0 ≠ 0 → r < n) ∧ Told [] E (zs.take (i + n - r)) ∧ Owns H H' [.sl y 3 (exsC E)], ?_, ?_⟩
    · rintro _ y2 _ H2 ⟨r0, E0, rfl, hr0, hnz0, hT0, o0⟩
      refine ⟨fun y n' H' => ∃ (r : Nat) (E : List Ex), n' = .int .i64 r ∧ r ≤ n ∧ (zs.getD i 0 ≠ 0 → r < n) ∧ Told [] E (zs.take (i + n - r)) ∧ Owns H H' [.sl y 3 (exsC E)], fun _ n' _ => match n' with | .int _ x => x.toNat | _ => 0, ⟨r0, E0, rfl, hr0, hnz0, hT0, o0⟩, ?_⟩
      rintro _ y3 _ H3 ⟨r, E, rfl, hr, hnz, hT, o⟩
      rw [pGt_v]
      refine pCond_if (fun hc2 => ?_) (fun hc2 => ?_)
      · have hst := pack_step hz hin hrun (by omega) hr hnz hT
        refine again_spec (by omega) fun H4 hx4 => ?_
        rw [gi] at hst
        obtain ⟨x, k, ok, hag⟩ : ∃ x k ok, againF zs[i] r = (x, k, ok) := ⟨_, _, _, rfl⟩
        rw [hag] at hst ⊢
        refine pExtract_to (vs := [exV x, .int .i64 (k : Nat), .bool ok]) rfl ?_
        refine pExtract_to (vs := [exV x, .int .i64 (k : Nat), .bool ok]) rfl ?_
        refine pExtract_to (vs := [exV x, .int .i64 (k : Nat), .bool ok]) rfl ?_
        have o4 := o.more hx4
        refine o4.box fun b H5 o5 _ => ?_
        refine o5.bstoreN (vs := exC x) (by repeat (first | exact List.mem_cons_self | apply List.mem_cons_of_mem)) rfl rfl rfl (by repeat (first | exact Rep.here | apply Rep.there)) fun H6 o6 _ => ?_
        refine ⟨fun k9 H' => ∃ (x' : Ex) (k' : Nat), k9 = .int .i64 k' ∧ 1 ≤ k' ∧ k' ≤ r ∧ Told [] (E ++ [x']) (zs.take (i + n - (r - k'))) ∧ Owns H H' (.box b (exC x') 106 :: .sl y3 3 (exsC E) :: []), ?_, ?_⟩
        · rintro _ _ H7 ⟨x', k', rfl, hk1, hkr, hT7, o7⟩
          refine o7.bloadN (by repeat (first | exact List.mem_cons_self | apply List.mem_cons_of_mem)) rfl ?_
          refine o7.build1 (sz := 3) (x := exV x') (by decide) rfl rfl fun z H8 o8 => ?_
          refine o8.append (sz := 3) (v := y3) (x := z) (n := E.length) (m := 1) (by repeat (first | exact Sel.here | apply Sel.there)) rfl (o8.sl (by repeat (first | exact List.mem_cons_self | apply List.mem_cons_of_mem))) (exsC_len E) rfl rfl (by have := hTl hT; omega) fun y4 H9 o9 => ?_
          rw [pSub_v, w64 (by omega) (by omega)]
          refine ⟨⟨r - k', E ++ [x'], by rw [show ((r - k' : Nat) : Int) = (r : Int) - k' by omega], by omega, fun _ => by omega, hT7, ?_⟩, by show (_ : Int).toNat < (_ : Int).toNat; omega⟩
          rw [exsC_snoc]
          exact o9.arr (by repeat (first | exact Sels.nil | exact Sel.here | apply Sels.cons | apply Sel.there))
        · cases ok
          · rw [pNot_v]
            show pCond (.bool true) _ _
            rw [pCond_true]
            refine pBuild_one rfl (by decide) ?_
            rw [pBuild_n]
            refine o6.bstoreN (vs := [.int .i64 zs[i], .int .i64 0, .int .u64 0]) (by repeat (first | exact List.mem_cons_self | apply List.mem_cons_of_mem)) rfl rfl rfl (by repeat (first | exact Rep.here | apply Rep.there)) fun H7 o7 _ => ?_
            have e : exC ((zs[i]).toNat, 0, 0) = [.int .i64 zs[i], .int .i64 0, .int .u64 0] := by
              unfold exC
              rw [Int.toNat_of_nonneg hzi.1]; rfl
            exact ⟨((zs[i]).toNat, 0, 0), 1, rfl, Nat.le_refl _, by omega, hst.2, by rw [e]; exact o7⟩
          · rw [pNot_v]
            show pCond (.bool false) _ _
            rw [pCond_false]
            obtain ⟨h1, h2, h3⟩ := hst.1 x k rfl
            exact ⟨x, k, rfl, h1, h2, h3, o6⟩
      · have hr0 : r = 0 := by omega
        subst hr0
        exact ⟨⟨i + n, E, by rw [show ((i + n : Nat) : Int) = (i : Int) + n by omega], by omega, hT, o⟩, by show (_ : Int).toNat < (_ : Int).toNat; omega⟩
    · rw [pNe_0]
      refine pCond_b (fun hb => ?_) (fun hb => ?_)
      · refine pBuild_one rfl (by decide) ?_
        rw [pBuild_n]
        refine o.build1 (sz := 3) (by decide) rfl rfl fun z H2 o2 => ?_
        refine o2.append (sz := 3) (v := y) (x := z) (n := E.length) (m := 1) (by repeat (first | exact Sel.here | apply Sel.there)) rfl (o2.sl (by repeat (first | exact List.mem_cons_self | apply List.mem_cons_of_mem))) (exsC_len E) rfl rfl (by have := hTl hT; omega) fun y4 H3 o3 => ?_
        rw [pSub_v, w64 (by omega) (by omega)]
        refine ⟨n - 1, E ++ [((zs.getD i 0).toNat, 0, 0)], by rw [show ((n - 1 : Nat) : Int) = (n : Int) - 1 by omega], by omega, fun _ => by omega, ?_, ?_⟩
        · rw [show i + n - (n - 1) = i + 1 by omega]; exact pack_first hz hi hT
        · rw [exsC_snoc]
          have e : exC ((zs.getD i 0).toNat, 0, 0) = [.int .i64 zs[i], .int .i64 0, .int .u64 0] := by
            unfold exC
            rw [gi, Int.toNat_of_nonneg hzi.1]; rfl
          rw [e]
          exact o3.arr (by repeat (first | exact Sels.nil | exact Sel.here | apply Sels.cons | apply Sel.there))
      · have hz0 : zs[i] = 0 := by simpa using hb
        exact ⟨n, E, rfl, Nat.le_refl _, fun h0 => absurd (gi.trans hz0) h0, by rw [show i + n - n = i by omega]; exact hT, o⟩
  · have hkz : i = zs.length := by omega
    rw [hkz, List.take_length] at hT
    exact h _ _ _ hT o
end Go.Proofs.YtameljhbkedhjaaGreatDoor
namespace Go.Proofs.YtameljhbkedhjaaGreatDoor
open Go Go.Vc Go.Proofs
set_option linter.unusedVariables false
set_option linter.unusedSimpArgs false
variable {H H0 H' : Heap} {R : Value → Heap → Prop} {v : Value} {L : List It} {zs : List Int}
theorem upto_spec {least : Nat} (hs : Sl H v 1 (numsV zs)) (hlen : zs.length ≤ 1000) (hl : least ≤ zs.length) (h1 : 1 ≤ least)
    (h : ∀ n : Nat, least ≤ n → n ≤ zs.length → (∀ j, n ≤ j → zs.getD j 0 = 0) → R (.int .i64 (n : Int)) H) : CallsH Tryz.prog 56 #[v, .int .i64 (least : Int)] H R := by
  have hvl : (numsV zs).length = zs.length * 1 := by rw [numsV_len]; omega
  refine block_upto.vc _ _ _ _ ?_
  unfold block_upto.res
  refine hs.len hvl (by decide) ?_
  refine ⟨fun n H' => ∃ k : Nat, n = .int .i64 k ∧ least ≤ k ∧ k ≤ zs.length ∧ (∀ j, k ≤ j → zs.getD j 0 = 0) ∧ H = H', fun n _ => match n with | .int _ x => x.toNat | _ => 0,
    ⟨zs.length, rfl, hl, Nat.le_refl _, fun j hj => by rw [List.getD_eq_getElem?_getD, List.getElem?_eq_none hj]; rfl, rfl⟩, ?_⟩
  rintro _ _ _ ⟨k, rfl, hk1, hk2, hz, rfl⟩
  rw [pGt_v]
  by_cases hc : least < k
  · rw [decide_eq_true (by omega)]
    refine pAnd_true ?_
    rw [pSub_v, w64 (by omega) (by omega)]
    have hkn : k - 1 < zs.length := by omega
    refine hs.at_ hvl (by decide) (by omega) (by omega) fun p hp => ?_
    refine hp.load hs (w := .int .i64 zs[k - 1]) (by rw [show ((k : Int) - 1).toNat = k - 1 by omega, Nat.mul_one, numsV_get hkn]) ?_
    rw [pEq_0]
    intro _
    refine pCond_if (fun he => ?_) (fun he => ?_)
    · rw [pSub_v, w64 (by omega) (by omega)]
      refine ⟨⟨k - 1, by rw [show ((k - 1 : Nat) : Int) = (k : Int) - 1 by omega], by omega, by omega, fun j hj => ?_, rfl⟩, by show (_ : Int).toNat < (_ : Int).toNat; omega⟩
      by_cases e : j = k - 1
      · subst e; rw [List.getD_eq_getElem?_getD, List.getElem?_eq_getElem hkn]; exact he
      · exact hz j (by omega)
    · exact h k hk1 hk2 hz
  · rw [decide_eq_false (by omega), pAnd_false]
    intro _
    rw [pCond_false]
    exact h k hk1 hk2 hz
theorem shareL_set : ∀ (l : List Nat) (f : Nat), f < l.length → l.getD f 0 = 0 → shareL (l.set f 1) 15 = shareL l 15 + 16384
  | [], f, h, _ => by simp at h
  | a :: l, 0, h, h0 => by
    simp at h0; subst h0
    unfold shareL; simp; omega
  | a :: l, f + 1, h, h0 => by
    have := shareL_set l f (by simpa using h) (by simpa using h0)
    unfold shareL at this ⊢
    simp only [List.set_cons_succ, List.map_cons, List.sum_cons]
    omega
structure StrOk (zs : List Int) (m : Nat) (ys : List Int) : Prop where
  len : ys.length = zs.length
  rng : ∀ s, 0 ≤ ys.getD s 0 ∧ ys.getD s 0 ≤ m
  has : ∀ s, 0 < zs.getD s 0 → 1 ≤ ys.getD s 0
  share : shareL (natL ys) 15 = 32768
theorem natL_getD0 (ys : List Int) (s : Nat) : (natL ys).getD s 0 = (ys.getD s 0).toNat := by
  unfold natL
  rw [List.getD_eq_getElem?_getD, List.getElem?_map, List.getD_eq_getElem?_getD]
  cases ys[s]? <;> rfl
theorem natL_set (ys : List Int) (f : Nat) (z : Int) : natL (ys.set f z) = (natL ys).set f z.toNat := by unfold natL; rw [List.map_set]
theorem nzL_take (l : List Nat) (k : Nat) (h : k < l.length) : nzL (l.take (k + 1)) = nzL (l.take k) + if l.getD k 0 = 0 then 0 else 1 := by
  rw [List.take_add_one, List.getElem?_eq_getElem h, nzL_append, List.getD_eq_getElem?_getD, List.getElem?_eq_getElem h]
  congr 1
  unfold nzL
  by_cases e : l[k] = 0 <;> simp [e]
theorem strict_spec {m : Nat} (hs : Sl H v 1 (numsV zs)) (hlen : zs.length ≤ 288) (hl2 : 2 ≤ zs.length) (hok : goodM zs = true) (h1 : 1 ≤ m) (h2 : m ≤ 15) (hn : (suppU zs zs.length).length ≤ 2 ^ m) (hn1 : 1 ≤ (suppU zs zs.length).length)
    (h : ∀ y ys H', StrOk zs m ys → Owns H H' [.sl y 1 (numsV ys)] → R y H') : CallsH Tryz.prog 55 #[v, .int .i64 (m : Int)] H R := by
  refine block_strict.vc _ _ _ _ ?_
  unfold block_strict.res
  refine lengths_spec hs hlen hok h1 h2 hn fun y ls H1 hlo o => ?_
  obtain ⟨f1, f2, f3, f4, f5⟩ := lensOk_facts hlo h1 h2 hn
  refine pExtract_to (vs := [y, .int .i64 0]) rfl ?_
  refine pExtract_to (vs := [y, .int .i64 0]) rfl ?_
  have hy := o.sl (v := y) (by repeat (first | exact List.mem_cons_self | apply List.mem_cons_of_mem))
  have hyl : (numsV ls).length = ls.length * 1 := by rw [numsV_len]; omega
  have hrng : ∀ s, 0 ≤ ls.getD s 0 ∧ ls.getD s 0 ≤ m := fun s => by
    by_cases hsl : s < zs.length
    · have := f2 s hsl
      split at this <;> omega
    · rw [List.getD_eq_getElem?_getD, List.getElem?_eq_none (by omega)]; simp
  have hhas : ∀ s, 0 < zs.getD s 0 → 1 ≤ ls.getD s 0 := fun s h0 => by
    by_cases hsl : s < zs.length
    · have := f2 s hsl
      rw [if_pos h0] at this; exact this.1
    · rw [List.getD_eq_getElem?_getD, List.getElem?_eq_none (by omega)] at h0; simp at h0
  have hnl : (natL ls).length = ls.length := natL_len ls
  refine hy.len hyl (by decide) ?_
  refine ⟨fun a f i H' => ∃ (k : Nat) (fi : Int), i = .int .i64 k ∧ a = .int .i64 ((nzL ((natL ls).take k) : Nat) : Int) ∧ f = .int .i64 fi ∧ k ≤ ls.length ∧ ((fi = -1 ∧ nzL ((natL ls).take k) = k) ∨ (0 ≤ fi ∧ fi < ls.length ∧ ls.getD fi.toNat 0 = 0)) ∧ nzL ((natL ls).take k) ≤ k ∧ H1 = H',
    fun _ _ i _ => match i with | .int _ x => (ls.length - x).toNat | _ => 0, ⟨0, -1, rfl, rfl, rfl, by omega, .inl ⟨rfl, rfl⟩, Nat.le_refl _, rfl⟩, ?_⟩
  rintro _ _ _ _ _ ⟨k, fi, rfl, rfl, rfl, hk, hf, hnk, rfl⟩
  rw [pLt_v]
  refine pCond_if (fun hc => ?_) (fun hc => ?_)
  · have hkn : k < ls.length := by omega
    have gk : ls.getD k 0 = ls[k] := by rw [List.getD_eq_getElem?_getD, List.getElem?_eq_getElem hkn]; rfl
    have hnt := nzL_take (natL ls) k (by omega)
    rw [natL_getD0, gk] at hnt
    refine hy.at_ hyl (by decide) (by omega) (by omega) fun p hp => ?_
    refine hp.load hy (w := .int .i64 ls[k]) (by rw [Int.toNat_natCast, Nat.mul_one, numsV_get hkn]) ?_
    have hrk := hrng k
    rw [gk] at hrk
    rw [pGt_v]
    refine pCond_if (fun hp0 => ?_) (fun hp0 => ?_)
    · rw [if_neg (by omega)] at hnt
      rw [pAdd_v, w64 (by omega) (by omega), pAdd_v, w64 (by omega) (by omega)]
      refine ⟨⟨k + 1, fi, rfl, by rw [hnt]; rfl, rfl, by omega, ?_, by omega, rfl⟩, by show (_ : Int).toNat < (_ : Int).toNat; omega⟩
      rcases hf with ⟨hf, hq⟩ | hf
      · exact .inl ⟨hf, by omega⟩
      · exact .inr hf
    · have hz0 : ls[k] = 0 := by omega
      rw [if_pos (by omega)] at hnt
      replace hnt : nzL ((natL ls).take (k + 1)) = nzL ((natL ls).take k) := hnt
      rw [pLt_v]
      refine pCond_if (fun hf0 => ?_) (fun hf0 => ?_)
      · rw [pAdd_v, w64 (by omega) (by omega)]
        exact ⟨⟨k + 1, (k : Int), rfl, by rw [hnt], rfl, by omega, .inr ⟨by omega, by omega, by rw [Int.toNat_natCast, gk]; exact hz0⟩, by omega, rfl⟩, by show (_ : Int).toNat < (_ : Int).toNat; omega⟩
      · rw [pAdd_v, w64 (by omega) (by omega)]
        have hf2 : 0 ≤ fi ∧ fi < ls.length ∧ ls.getD fi.toNat 0 = 0 := by
          rcases hf with ⟨hf, _⟩ | hf
          · omega
          · exact hf
        exact ⟨⟨k + 1, fi, rfl, by rw [hnt], rfl, by omega, .inr hf2, by omega, rfl⟩, by show (_ : Int).toNat < (_ : Int).toNat; omega⟩
  · have hkl : k = ls.length := by omega
    rw [hkl, List.take_of_length_le (by omega)] at hf ⊢
    rw [f5] at hf ⊢
    rw [pEq_0]
    refine pCond_if (fun he => ?_) (fun he => ?_)
    · have hs1 : (suppU zs zs.length).length = 1 := by omega
      rcases hf with ⟨_, hf⟩ | ⟨g1, g2, g3⟩
      · omega
      obtain ⟨fn, rfl⟩ : ∃ n : Nat, fi = n := ⟨fi.toNat, by omega⟩
      rw [Int.toNat_natCast] at g3
      refine hy.at_ hyl (by decide) (by omega) (by omega) fun p hp => ?_
      rw [Int.toNat_natCast, Nat.mul_one] at hp
      refine o.store hp (by repeat (first | exact List.mem_cons_self | apply List.mem_cons_of_mem)) (by rw [numsV_len]; omega) rfl (by repeat (first | exact Rep.here | apply Rep.there)) fun H2 o2 _ => ?_
      rw [numsV_set] at o2
      have hget : ∀ s, (ls.set fn 1).getD s 0 = if s = fn then 1 else ls.getD s 0 := fun s => by
        rw [List.getD_eq_getElem?_getD, List.getElem?_set]
        by_cases e : fn = s
        · subst e; rw [if_pos rfl, if_pos (by omega), if_pos rfl]; rfl
        · rw [if_neg e, if_neg (fun h => e h.symm), List.getD_eq_getElem?_getD]
      refine h y (ls.set fn 1) H2 ⟨by rw [List.length_set]; exact f1, fun s => ?_, fun s h0 => ?_, ?_⟩ o2
      · rw [hget s]; have := hrng s; split <;> omega
      · rw [hget s]; have := hhas s h0; split <;> omega
      · rw [natL_set, show (1 : Int).toNat = 1 from rfl, shareL_set _ _ (by omega) (by rw [natL_getD0, g3]; rfl), (f4 (by omega)).1, hs1]
    · have hs2 : 2 ≤ (suppU zs zs.length).length := by omega
      exact h y ls H1 ⟨f1, hrng, hhas, f3 hs2⟩ o
end Go.Proofs.YtameljhbkedhjaaGreatDoor
namespace Go.Proofs.YtameljhbkedhjaaGreatDoor
open Go Go.Vc Go.Proofs
set_option linter.unusedVariables false
set_option linter.unusedSimpArgs false
variable {H : Heap} {R : Value → Heap → Prop} {v : Value} {zs : List Int} {ls : List Nat} {B : List Bool}
theorem open1_spec {H0 : Heap} {L : List It} {hb mb vb : Nat} {th tm tv : TypeId} {x n a m : Nat} (o : Owns H0 H L) (hn : n ≤ 15) (ha : a < 18446744073709551616) (m1 : It.box hb [.int .i64 (n : Int)] th ∈ L) (m2 : It.box mb [.int .u64 (IntKind.u64.wrap (IntKind.u64.wrap (1 * 2 ^ min ((n : Int)).toNat IntKind.u64.bits) - 1))] tm ∈ L) (m3 : It.box vb [.int .u64 (x : Int)] tv ∈ L)
    (h : ∀ H', Owns H0 H' L → R (.bool (decide (n < m) && decide (a % 2 ^ n = x))) H') :
    CallsH Tryz.prog 74 #[.agg #[.int .u64 (a : Int), .int .i64 (m : Int)], .pointer (some ⟨hb, 0, none⟩), .pointer (some ⟨mb, 0, none⟩), .pointer (some ⟨vb, 0, none⟩)] H R := by
  refine canon_Code_open_f1.vc _ _ _ _ _ _ ?_
  unfold canon_Code_open_f1.res
  refine o.box fun wb H1 o1 _ => ?_
  change Owns H0 H1 (.box wb [.int .u64 (a : Int), .int .i64 (m : Int)] _ :: L) at o1
  rw [pFieldAddr_v, add_mk]
  refine o1.bload (f := 0 + 1) (by repeat (first | exact List.mem_cons_self | apply List.mem_cons_of_mem)) rfl ?_
  refine o1.bload (List.mem_cons_of_mem _ m1) rfl ?_
  rw [pGt_v]
  refine pAnd_if (d := decide (a % 2 ^ n = x)) (fun _ => ?_) ?_
  · rw [pFieldAddr_v, add_mk]
    refine o1.bload (f := 0 + 0) (by repeat (first | exact List.mem_cons_self | apply List.mem_cons_of_mem)) rfl ?_
    refine o1.bload (List.mem_cons_of_mem _ m2) rfl ?_
    rw [pBits_v, mask_u64 ha (by omega)]
    refine o1.bload (List.mem_cons_of_mem _ m3) rfl ?_
    rw [pEq_0]
    refine ⟨?_, rfl⟩
    congr 1
    rw [Bool.eq_iff_iff, decide_eq_true_eq, decide_eq_true_eq]
    omega
  intro _
  have := h H1 (o1.pick (List.sublist_cons_self _ _))
  rw [show decide ((n : Int) < (m : Int)) = decide (n < m) by rw [Bool.eq_iff_iff, decide_eq_true_eq, decide_eq_true_eq]; omega]
  exact this
theorem wordB_bits {s n x : Nat} (h : n ≤ ls.getD s 0) (hx : x < 2 ^ n) : (wordB ls s).take n = bitsN x n ↔ revN (codeL ls s) (ls.getD s 0) % 2 ^ n = x := by
  unfold wordB
  rw [bitsN_take h]
  constructor
  · intro g
    have := bitsN_inj g
    rwa [Nat.mod_eq_of_lt hx] at this
  · intro g
    rw [← bitsN_mod, g]
open Classical in
theorem open_spec {H0 : Heap} {L : List It} {b : Nat} {lv wv sv : Value} {x n : Nat} (hz : okZ zs) (o : Owns H0 H L) (m1 : It.box b (codeCells lv wv (countsL (natL zs)) sv) 90 ∈ L) (m2 : It.sl wv 2 (wordsV (natL zs)) ∈ L)
    (hx : x < 2 ^ n) (hn : n ≤ 15) (h : ∀ H', Owns H0 H' L → R (.bool (decide (more (natL zs) (bitsN x n)))) H') :
    CallsH Tryz.prog 46 #[.pointer (some ⟨b, 0, none⟩), .int .u64 (x : Int), .int .i64 (n : Int)] H R := by
  have hle := ok_le hz
  have hlen : (natL zs).length ≤ 288 := by rw [natL_len]; exact hz.1
  generalize natL zs = ls at *
  have hwl := wordsV_len ls
  refine canon_Code_open.vc _ _ _ _ _ ?_
  unfold canon_Code_open.res
  refine o.box fun vb H1 o1 _ => ?_
  change Owns H0 H1 (.box vb [.int .u64 (x : Int)] _ :: L) at o1
  refine o1.box fun hb H2 o2 _ => ?_
  change Owns H0 H2 (.box hb [.int .i64 (n : Int)] _ :: .box vb [.int .u64 (x : Int)] _ :: L) at o2
  refine o2.bload (by repeat (first | exact List.mem_cons_self | apply List.mem_cons_of_mem)) rfl ?_
  rw [pShl_v]
  refine ⟨by omega, ?_⟩
  rw [pSub_v]
  refine o2.box fun mb H3 o3 _ => ?_
  change Owns H0 H3 (.box mb [.int .u64 0] _ :: .box hb [.int .i64 (n : Int)] _ :: .box vb [.int .u64 (x : Int)] _ :: L) at o3
  refine o3.bstore (by repeat (first | exact List.mem_cons_self | apply List.mem_cons_of_mem)) (by decide) rfl (Rep.here) fun H4 o4 _ => ?_
  rw [List.set_cons_zero] at o4
  rw [pNil_v, pFieldAddr_v, add_mk]
  have mem : ∀ {i : It}, i ∈ L → ∀ {a b c : It}, i ∈ a :: b :: c :: L := fun {i} h {a b c} => List.mem_cons_of_mem _ (List.mem_cons_of_mem _ (List.mem_cons_of_mem _ h))
  refine o4.bload (f := 0 + 1) (mem m1) rfl ?_
  refine slices_ContainsFunc_s_canon_word_canon_word.vc _ _ _ _ ?_
  unfold slices_ContainsFunc_s_canon_word_canon_word.res
  refine slices_IndexFunc_s_canon_word_canon_word.vc _ _ _ _ ?_
  unfold slices_IndexFunc_s_canon_word_canon_word.res
  refine (o4.sl (mem m2)).len hwl (by decide) ?_
  have hend : ∀ {H' a b c}, Owns H0 H' (a :: b :: c :: L) → Owns H0 H' L := fun o => o.pick (List.Sublist.cons _ (List.Sublist.cons _ (List.sublist_cons_self _ _)))
  refine ⟨fun i H' => ∃ k : Nat, i = .int .i64 k ∧ k ≤ ls.length ∧ Owns H0 H' (.box mb [.int .u64 (IntKind.u64.wrap (IntKind.u64.wrap (1 * 2 ^ min ((n : Int)).toNat IntKind.u64.bits) - 1))] 25 :: .box hb [.int .i64 (n : Int)] 3 :: .box vb [.int .u64 (x : Int)] 25 :: L) ∧ ∀ s, s < k → ¬ (n < ls.getD s 0 ∧ (wordB ls s).take n = bitsN x n), fun i _ => match i with | .int _ x => (1000 - x).toNat | _ => 0, ⟨0, rfl, by omega, o4, by omega⟩, ?_⟩
  clear o o1 o2 o3 o4
  rintro _ _ H5 ⟨k, rfl, hk, o4, hno⟩
  rw [pLt_v]
  refine pCond_if (fun hc => ?_) (fun hc => ?_)
  · have hkl : k < ls.length := by omega
    refine (o4.sl (mem m2)).at_ hwl (by decide) (by omega) (by omega) fun p hp => ?_
    rw [Int.toNat_natCast] at hp
    refine hp.loadN (o4.sl (mem m2)) (ws := wordV ls k) ?_ rfl ?_
    · have e0 := wordsV_at (ls := ls) (s := k) (j := 0) hkl (by decide)
      have e1 := wordsV_at (ls := ls) (s := k) (j := 1) hkl (by decide)
      apply List.ext_getElem?
      intro i
      rw [List.getElem?_take]
      split
      · rename_i hi
        rw [List.getElem?_drop]
        match i, hi with
        | 0, _ => exact e0
        | 1, _ => exact e1
      · rename_i hi
        rw [List.getElem?_eq_none (by show 2 ≤ i; omega)]
    refine callH_f (by kernel_rfl) ?_
    have hr := revN_lt (codeL ls k) (ls.getD k 0)
    have hp2 : 2 ^ ls.getD k 0 ≤ 2 ^ 15 := Nat.pow_le_pow_right (by decide) (getD_le hle k)
    refine open1_spec (a := revN (codeL ls k) (ls.getD k 0)) (m := ls.getD k 0) o4 hn (by omega) (by repeat (first | exact List.mem_cons_self | apply List.mem_cons_of_mem)) (by repeat (first | exact List.mem_cons_self | apply List.mem_cons_of_mem)) (by repeat (first | exact List.mem_cons_self | apply List.mem_cons_of_mem)) fun H6 o5 => ?_
    have hiff := @wordB_bits ls k n x
    refine pCond_b (fun hb => ?_) (fun hb => ?_)
    · rw [Bool.and_eq_true, decide_eq_true_eq, decide_eq_true_eq] at hb
      show pGe _ _ _
      rw [pGe_v, decide_eq_true (by omega)]
      have hm : more ls (bitsN x n) := ⟨k, hkl, by rw [bitsN_len]; exact hb.1, by rw [bitsN_len]; exact (hiff (by omega) hx).2 hb.2⟩
      have := h H6 (hend o5)
      rw [decide_eq_true hm] at this
      exact this
    · rw [pAdd_v, w64 (n := (k : Int) + 1) (by omega) (by omega)]
      refine ⟨⟨k + 1, rfl, by omega, o5, fun s hs => ?_⟩, by show (_ : Int).toNat < (_ : Int).toNat; omega⟩
      by_cases he : s = k
      · subst he
        rintro ⟨g1, g2⟩
        rw [decide_eq_true g1, decide_eq_true ((hiff (by omega) hx).1 g2)] at hb
        cases hb
      · exact hno s (by omega)
  · have hkl : k = ls.length := by omega
    subst hkl
    show pGe _ _ _
    rw [pGe_v, decide_eq_false (by decide)]
    have hm : ¬ more ls (bitsN x n) := by
      rintro ⟨s, g1, g2, g3⟩
      rw [bitsN_len] at g2 g3
      exact hno s g1 ⟨g2, g3⟩
    have := h H5 (hend o4)
    rw [decide_eq_false hm] at this
    exact this
end Go.Proofs.YtameljhbkedhjaaGreatDoor
