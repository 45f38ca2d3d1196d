/- Contracts of package lighterref24. -/
import Derived.Test.YtmolkhfohpfhaaaLaw24b
import Derived.Test.YtmolkhfohpfhaaaVcOwns
import Derived.Test.YtmolkhfohpfhaaaResLighterref24
namespace Go.Proofs.Ytmolkhfohpfhaaa
open Go Go.Vc Go.Proofs
set_option linter.unusedVariables false
set_option linter.unusedSimpArgs false
variable {H : Heap} {R : Value → Heap → Prop} {first size : Int} {w : Value} {c : Nat} {D E : Nat → Bool}
def boolsV (D : Nat → Bool) (n : Nat) : List Value := (List.range n).map fun i => .bool (D i)
theorem boolsV_len {n : Nat} : (boolsV D n).length = n := by simp [boolsV]
theorem boolsV_one {n : Nat} : (boolsV D n).all oneCell = true := by simp [boolsV, oneCell]
theorem boolsV_at {n i : Nat} (hi : i < n) : (boolsV D n)[i]? = some (.bool (D i)) := by simp [boolsV, List.getElem?_range hi]
theorem boolsV_congr {n : Nat} (h : ∀ i, i < n → D i = E i) : boolsV D n = boolsV E n := by
  unfold boolsV
  exact List.map_congr_left fun i hi => by rw [h i (List.mem_range.1 hi)]
theorem boolsV_set {n i : Nat} {v : Bool} : (boolsV D n).set i (.bool v) = boolsV (fun j => bif decide (j = i) then v else D j) n := by
  apply List.ext_getElem?
  intro j
  by_cases hj : j < n
  · rw [boolsV_at hj]
    by_cases hji : j = i
    · subst hji
      rw [List.getElem?_set_self (by rw [boolsV_len]; exact hj), decide_eq_true rfl]; rfl
    · rw [List.getElem?_set_ne (fun e => hji e.symm), boolsV_at hj, decide_eq_false hji]; rfl
  · rw [List.getElem?_eq_none (by rw [List.length_set, boolsV_len]; omega), List.getElem?_eq_none (by rw [boolsV_len]; omega)]
theorem boolsV_set' {n i : Nat} {v : Bool} (h : ∀ j, j < n → E j = bif decide (j = i) then v else D j) : (boolsV D n).set i (.bool v) = boolsV E n := by
  rw [boolsV_set]; exact (boolsV_congr h).symm
/-- the ref's window, a value -/
structure RefS (H : Heap) (w : Value) (first size : Int) (c : Nat) (D E : Nat → Bool) : Prop where
  ex : ∃ sv av, w = .agg #[.int .u32 first, .int .i64 size, sv, av] ∧ Sl H sv 1 (boolsV D c) ∧ Sl H av 1 (boolsV E c)
theorem RefS.ext {H' : Heap} (h : RefS H w first size c D E) (hx : Ext H H') : RefS H' w first size c D E := by
  obtain ⟨sv, av, e, h1, h2⟩ := h.ex
  exact ⟨sv, av, e, h1.ext hx, h2.ext hx⟩
theorem RefS.congr {D' E' : Nat → Bool} (h : RefS H w first size c D E) (hd : ∀ i, i < c → D i = D' i) (he : ∀ i, i < c → E i = E' i) : RefS H w first size c D' E' := by
  obtain ⟨sv, av, e, h1, h2⟩ := h.ex
  exact ⟨sv, av, e, by rw [← boolsV_congr hd]; exact h1, by rw [← boolsV_congr he]; exact h2⟩
theorem r24Base {k : Nat} (hw : RefS H w first size c D E) (hc : c ≤ 1000) (hk : k ≤ c) (h1 : ∀ i, i < k → E i = true) (h2 : k < c → E k = false) (h : ∀ H', Ext H H' → R (.int .i64 k) H') : CallsH Try.prog 29 #[w] H R := by
  obtain ⟨sv, av, rfl, hs, ha⟩ := hw.ex
  refine lighterref24_Base.vc _ _ _ ?_
  unfold lighterref24_Base.res
  refine (Owns.start (H := H)).box fun b1 H1 o _ => ?_
  change Owns H H1 [.box b1 [.int .u32 first, .int .i64 size, sv, av] _] at o
  refine ⟨fun i H' => ∃ j : Nat, i = .int .i64 j ∧ j ≤ k ∧ H1 = H', fun i _ => match i with | .int _ x => (2000 - x).toNat | _ => 0, ⟨0, rfl, by omega, rfl⟩, ?_⟩
  rintro _ _ _ ⟨j, rfl, hj, rfl⟩
  rw [pFieldAddr_v, add_mk]
  refine o.bload (by repeat (first | exact List.mem_cons_self | apply List.mem_cons_of_mem)) rfl ?_
  refine (ha.ext o.ext).len (n := c) (by simp [boolsV_len]) (by decide) ?_
  rw [pLt_v]
  refine pCond_if (fun hc' => ?_) (fun hc' => ?_)
  · rw [pFieldAddr_v, add_mk]
    refine o.bload (by repeat (first | exact List.mem_cons_self | apply List.mem_cons_of_mem)) rfl ?_
    refine (ha.ext o.ext).at_ (n := c) (by simp [boolsV_len]) (by decide) (by omega) (by omega) fun p hp => ?_
    refine hp.load (ha.ext o.ext) (w := .bool (E j)) (by rw [Int.toNat_natCast, Nat.mul_one, boolsV_at (by omega)]) ?_
    rw [pNot_v]
    by_cases hjk : j = k
    · subst hjk
      rw [h2 (by omega), Bool.not_false, pCond_true]
      exact h _ o.ext
    · rw [h1 j (by omega), Bool.not_true, pCond_false, pAdd_v, w64 (n := (j : Int) + 1) (by omega) (by omega)]
      exact ⟨⟨j + 1, rfl, by omega, rfl⟩, by show (_ : Int).toNat < (_ : Int).toNat; omega⟩
  · rw [pFieldAddr_v, add_mk]
    refine o.bload (by repeat (first | exact List.mem_cons_self | apply List.mem_cons_of_mem)) rfl ?_
    refine (ha.ext o.ext).len (n := c) (by simp [boolsV_len]) (by decide) ?_
    rw [show (c : Int) = (k : Int) by omega]
    exact h _ o.ext
theorem r24Sent {k : Nat} (hw : RefS H w first size c D E) (hc : c ≤ 1000) (hk : k ≤ c) (h1 : ∀ i, i < k → D i = true) (h2 : k < c → D k = false) (h : ∀ H', Ext H H' → R (.int .i64 k) H') : CallsH Try.prog 40 #[w] H R := by
  obtain ⟨sv, av, rfl, hs, ha⟩ := hw.ex
  refine lighterref24_Sent.vc _ _ _ ?_
  unfold lighterref24_Sent.res
  refine (Owns.start (H := H)).box fun b1 H1 o _ => ?_
  change Owns H H1 [.box b1 [.int .u32 first, .int .i64 size, sv, av] _] at o
  refine ⟨fun i H' => ∃ j : Nat, i = .int .i64 j ∧ j ≤ k ∧ H1 = H', fun i _ => match i with | .int _ x => (2000 - x).toNat | _ => 0, ⟨0, rfl, by omega, rfl⟩, ?_⟩
  rintro _ _ _ ⟨j, rfl, hj, rfl⟩
  rw [pFieldAddr_v, add_mk]
  refine o.bload (by repeat (first | exact List.mem_cons_self | apply List.mem_cons_of_mem)) rfl ?_
  refine (hs.ext o.ext).len (n := c) (by simp [boolsV_len]) (by decide) ?_
  rw [pLt_v]
  by_cases hjc : j < c
  · rw [decide_eq_true (by omega)]
    refine pAnd_true ?_
    rw [pFieldAddr_v, add_mk]
    refine o.bload (by repeat (first | exact List.mem_cons_self | apply List.mem_cons_of_mem)) rfl ?_
    refine (hs.ext o.ext).at_ (n := c) (by simp [boolsV_len]) (by decide) (by omega) (by omega) fun p hp => ?_
    refine hp.load (hs.ext o.ext) (w := .bool (D j)) (by rw [Int.toNat_natCast, Nat.mul_one, boolsV_at (by omega)]) ?_
    intro _
    by_cases hjk : j = k
    · subst hjk
      rw [h2 (by omega), pCond_false]
      exact h _ o.ext
    · rw [h1 j (by omega), pCond_true, pAdd_v, w64 (n := (j : Int) + 1) (by omega) (by omega)]
      exact ⟨⟨j + 1, rfl, by omega, rfl⟩, by show (_ : Int).toNat < (_ : Int).toNat; omega⟩
  · rw [decide_eq_false (by omega), pAnd_false]
    intro _
    rw [pCond_false, show (j : Int) = (k : Int) by omega]
    exact h _ o.ext
theorem r24Number {i : Int} (hw : RefS H w first size c D E) (h : ∀ H', Ext H H' → R (.int .u32 (numb first i)) H') : CallsH Try.prog 39 #[w, .int .i64 i] H R := by
  obtain ⟨sv, av, rfl, hs, ha⟩ := hw.ex
  refine lighterref24_Number.vc _ _ _ _ ?_
  unfold lighterref24_Number.res
  refine (Owns.start (H := H)).box fun b1 H1 o _ => ?_
  change Owns H H1 [.box b1 [.int .u32 first, .int .i64 size, sv, av] _] at o
  rw [pFieldAddr_v, add_mk]
  refine o.bload (by repeat (first | exact List.mem_cons_self | apply List.mem_cons_of_mem)) rfl ?_
  rw [pConv_v, pAdd_v]
  exact h _ o.ext
def intsV (l : List Int) : List Value := l.map fun i => .int .i64 i
theorem intsV_len {l : List Int} : (intsV l).length = l.length := by simp [intsV]
theorem r24Fresh {base next hi : Nat} {sz : Nat} {sv av : Value} (hs : Sl H sv 1 (boolsV (fun i => decide (i < next)) c)) (ha : Sl H av 1 (boolsV E c)) (hc : c ≤ 1000) (hsz : sz ≤ 32) (hb : base ≤ next) (hn : next ≤ c) (h1 : ∀ i, i < base → E i = true) (h2 : base < c → E base = false) (hhi : hi = max next (min (base + sz) c))
    (h : ∀ y v H', Owns H H' [.sl v 1 (intsV (places next hi)), .sl y 1 (boolsV (fun i => decide (i < hi)) c)] → R (.tuple #[.agg #[.int .u32 first, .int .i64 sz, y, av], v]) H') : CallsH Try.prog 30 #[.agg #[.int .u32 first, .int .i64 sz, sv, av]] H R := by
  have hw : RefS H (.agg #[.int .u32 first, .int .i64 sz, sv, av]) first sz c (fun i => decide (i < next)) E := ⟨sv, av, rfl, hs, ha⟩
  refine lighterref24_Fresh.vc _ _ _ ?_
  unfold lighterref24_Fresh.res
  refine (Owns.start (H := H)).box fun b1 H1 o _ => ?_
  change Owns H H1 [.box b1 [.int .u32 first, .int .i64 sz, sv, av] _] at o
  refine o.box fun b2 H2 o _ => ?_
  change Owns H H2 [.box b2 [.int .u32 0, .int .i64 0, .slice none 0 0, .slice none 0 0] _, _] at o
  refine o.bloadN (by repeat (first | exact List.mem_cons_self | apply List.mem_cons_of_mem)) rfl ?_
  refine r24Base (hw.ext o.ext) hc (Nat.le_trans hb hn) h1 h2 fun H3 x3 => ?_
  have o := o.more x3
  refine o.build0 1 (by decide) fun y0 H4 o => ?_
  rw [pFieldAddr_v, add_mk]
  refine o.bload (by repeat (first | exact List.mem_cons_self | apply List.mem_cons_of_mem)) rfl ?_
  refine o.app (by repeat (first | exact Sel.here | apply Sel.there)) (hs.ext o.ext) boolsV_one (by simp only [boolsV_len, List.length_nil]; omega) fun y H5 o => ?_
  rw [List.nil_append] at o
  have o := o.add (i := .sl (.slice none 0 0) 1 []) (Ext.refl _) ⟨by decide, .inl ⟨rfl, rfl⟩⟩ (fun k hk => by simp [It.foot, blkOf] at hk)
  refine ⟨fun out i H' => ∃ (j : Nat), i = .int .i64 j ∧ base ≤ j ∧ j ≤ max base (min (base + sz) c) ∧ Owns H H' [.sl out 1 (intsV (places next (max next j : Nat))), .sl y 1 (boolsV (fun i => decide (i < max next j)) c), .box b2 [.int .u32 0, .int .i64 0, .slice none 0 0, .slice none 0 0] 67, .box b1 [.int .u32 first, .int .i64 sz, sv, av] 67 ],
    fun _ i _ => match i with | .int _ x => (2000 - x).toNat | _ => 0, ⟨base, rfl, by omega, by omega, ?_⟩, ?_⟩
  · rw [places_none (by omega), show max next base = next by omega]
    exact o
  rintro _ out _ H6 ⟨j, rfl, hj0, hj1, o⟩
  rw [pFieldAddr_v, add_mk]
  refine o.bload (by repeat (first | exact List.mem_cons_self | apply List.mem_cons_of_mem)) rfl ?_
  refine (hs.ext o.ext).len (n := c) (by simp [boolsV_len]) (by decide) ?_
  rw [pLt_v]
  have hfin : max base (min (base + sz) c) ≤ j → (max next j = hi) := fun hj => by omega
  have hleaf : max base (min (base + sz) c) ≤ j → pFieldAddr 2 (.pointer (some ⟨b1, 0, none⟩)) fun x43 => pStore H6 x43 y fun _ H_16 => pLoadN H_16 4 (.pointer (some ⟨b1, 0, none⟩)) fun x44 => pStoreN H_16 4 (.pointer (some ⟨b2, 0, none⟩)) x44 fun _ H_17 => pLoadN H_17 4 (.pointer (some ⟨b2, 0, none⟩)) fun r_18 => R (.tuple #[r_18, out]) H_17 := fun hj => by
    rw [hfin hj] at o
    rw [pFieldAddr_v, add_mk]
    have oy := (o.sl (v := y) (by repeat (first | exact List.mem_cons_self | apply List.mem_cons_of_mem))).one
    have oa := ha.one
    refine o.bstore (by repeat (first | exact List.mem_cons_self | apply List.mem_cons_of_mem)) (by simp) oy (by repeat (first | exact Rep.here | apply Rep.there)) fun H7 o _ => ?_
    refine o.bloadN (by repeat (first | exact List.mem_cons_self | apply List.mem_cons_of_mem)) rfl ?_
    refine o.bstoreN (vs := [_, _, _, _]) (by repeat (first | exact List.mem_cons_self | apply List.mem_cons_of_mem)) rfl rfl (all_cons rfl (all_cons rfl (all_cons oy (all_cons oa rfl)))) (by repeat (first | exact Rep.here | apply Rep.there)) fun H8 o _ => ?_
    refine o.bloadN (by repeat (first | exact List.mem_cons_self | apply List.mem_cons_of_mem)) rfl ?_
    exact h y out _ (o.arr (by repeat (first | exact Sels.nil | exact Sel.here | apply Sels.cons | apply Sel.there)))
  by_cases hjc : j < c
  rotate_left
  · rw [decide_eq_false (by omega), pAnd_false]
    intro _
    rw [pCond_false]
    exact hleaf (by omega)
  rw [decide_eq_true (by omega)]
  refine pAnd_true ?_
  rw [pFieldAddr_v, add_mk]
  refine o.bload (by repeat (first | exact List.mem_cons_self | apply List.mem_cons_of_mem)) rfl ?_
  rw [pAdd_v, w64 (n := (base : Int) + (sz : Int)) (by omega) (by omega), pLt_v]
  intro _
  refine pCond_if (fun hlt => ?_) (fun hlt => hleaf (by omega))
  refine ⟨fun out H' => Owns H H' [.sl out 1 (intsV (places next (max next (j + 1) : Nat))), .sl y 1 (boolsV (fun i => decide (i < max next (j + 1))) c), .box b2 [.int .u32 0, .int .i64 0, .slice none 0 0, .slice none 0 0] 67, .box b1 [.int .u32 first, .int .i64 sz, sv, av] 67 ], ?_, ?_⟩
  · intro _ out' H7 o
    rw [pAdd_v, w64 (n := (j : Int) + 1) (by omega) (by omega)]
    exact ⟨⟨j + 1, rfl, by omega, by omega, o⟩, by show (_ : Int).toNat < (_ : Int).toNat; omega⟩
  refine (o.sl (v := y) (by repeat (first | exact List.mem_cons_self | apply List.mem_cons_of_mem))).at_ (n := c) (by simp [boolsV_len]) (by decide) (by omega) (by omega) fun p hp => ?_
  refine hp.load (o.sl (v := y) (by repeat (first | exact List.mem_cons_self | apply List.mem_cons_of_mem))) (w := .bool (decide (j < max next j))) (by rw [Int.toNat_natCast, Nat.mul_one, boolsV_at (by omega)]) ?_
  rw [pNot_v]
  by_cases hjn : j < next
  · rw [decide_eq_true (by omega), Bool.not_true, pCond_false, show max next (j + 1) = max next j by omega]
    exact o
  · rw [decide_eq_false (by omega), Bool.not_false, pCond_true]
    refine (o.sl (v := y) (by repeat (first | exact List.mem_cons_self | apply List.mem_cons_of_mem))).at_ (n := c) (by simp [boolsV_len]) (by decide) (by omega) (by omega) fun p hp => ?_
    refine o.store hp (by repeat (first | exact List.mem_cons_self | apply List.mem_cons_of_mem)) (by simp [boolsV_len]; omega) rfl (by repeat (first | exact Rep.here | apply Rep.there)) fun H7 o _ => ?_
    rw [boolsV_set' (E := fun i => decide (i < max next (j + 1))) (fun i hi => by
      rw [Int.toNat_natCast, Nat.mul_one]
      by_cases hij : i = j
      · subst hij; simp; omega
      · rw [decide_eq_false hij, cond_false, Bool.eq_iff_iff, decide_eq_true_eq, decide_eq_true_eq]; omega)] at o
    refine o.build1 (by decide) rfl rfl fun z H8 o => ?_
    refine o.app (by repeat (first | exact Sel.here | apply Sel.there)) (o.sl (v := z) (by repeat (first | exact List.mem_cons_self | apply List.mem_cons_of_mem))) rfl (by rw [intsV_len, places_len]; simp [cells_int]; omega) fun out' H9 o => ?_
    have e : intsV (places next (max next j : Nat)) ++ (Value.int .i64 (j : Int)).cells.toList = intsV (places next (max next (j + 1) : Nat)) := by
      rw [show max next j = j by omega, show max next (j + 1) = j + 1 by omega, Int.natCast_succ, places_succ (by omega)]
      simp [intsV, cells_int]
    rw [e] at o
    exact o.arr (by repeat (first | exact Sels.nil | exact Sel.here | apply Sels.cons | apply Sel.there))
theorem r24Forget {base : Nat} {sv av : Value} (hs : Sl H sv 1 (boolsV D c)) (ha : Sl H av 1 (boolsV E c)) (hc : c ≤ 1000) (hb : base ≤ c) (h1 : ∀ i, i < base → E i = true) (h2 : base < c → E base = false)
    (h : ∀ y H', Owns H H' [.sl y 1 (boolsV (fun i => decide (i < base)) c)] → R (.agg #[.int .u32 first, .int .i64 size, sv, y]) H') : CallsH Try.prog 33 #[.agg #[.int .u32 first, .int .i64 size, sv, av]] H R := by
  have hw : RefS H (.agg #[.int .u32 first, .int .i64 size, sv, av]) first size c D E := ⟨sv, av, rfl, hs, ha⟩
  refine lighterref24_Forget.vc _ _ _ ?_
  unfold lighterref24_Forget.res
  refine (Owns.start (H := H)).box fun b1 H1 o _ => ?_
  change Owns H H1 [.box b1 [.int .u32 first, .int .i64 size, sv, av] _] at o
  refine o.box fun b2 H2 o _ => ?_
  change Owns H H2 [.box b2 [.int .u32 0, .int .i64 0, .slice none 0 0, .slice none 0 0] _, _] at o
  refine o.build0 1 (by decide) fun y0 H4 o => ?_
  rw [pFieldAddr_v, add_mk]
  refine o.bload (by repeat (first | exact List.mem_cons_self | apply List.mem_cons_of_mem)) rfl ?_
  refine o.app (by repeat (first | exact Sel.here | apply Sel.there)) (ha.ext o.ext) boolsV_one (by simp only [boolsV_len, List.length_nil]; omega) fun y H5 o => ?_
  rw [List.nil_append] at o
  refine o.bloadN (by repeat (first | exact List.mem_cons_self | apply List.mem_cons_of_mem)) rfl ?_
  refine r24Base (hw.ext o.ext) hc hb h1 h2 fun H3 x3 => ?_
  have o := o.more x3
  refine ⟨fun i H' => ∃ (j : Nat), i = .int .i64 j ∧ base ≤ j ∧ j ≤ c ∧ Owns H H' [.sl y 1 (boolsV (fun i => bif decide (base ≤ i ∧ i < j) then false else E i) c), .box b2 [.int .u32 0, .int .i64 0, .slice none 0 0, .slice none 0 0] 67, .box b1 [.int .u32 first, .int .i64 size, sv, av] 67 ],
    fun i _ => match i with | .int _ x => (2000 - x).toNat | _ => 0, ⟨base, rfl, by omega, by omega, ?_⟩, ?_⟩
  · rw [boolsV_congr (E := E) (fun i hi => by rw [decide_eq_false (by omega)]; rfl)]
    exact o
  rintro _ _ H6 ⟨j, rfl, hj0, hj1, o⟩
  refine (o.sl (v := y) (by repeat (first | exact List.mem_cons_self | apply List.mem_cons_of_mem))).len (n := c) (by simp [boolsV_len]) (by decide) ?_
  rw [pLt_v]
  refine pCond_if (fun hlt => ?_) (fun hlt => ?_)
  · refine (o.sl (v := y) (by repeat (first | exact List.mem_cons_self | apply List.mem_cons_of_mem))).at_ (n := c) (by simp [boolsV_len]) (by decide) (by omega) (by omega) fun p hp => ?_
    refine o.store hp (by repeat (first | exact List.mem_cons_self | apply List.mem_cons_of_mem)) (by simp [boolsV_len]; omega) rfl (by repeat (first | exact Rep.here | apply Rep.there)) fun H7 o _ => ?_
    rw [boolsV_set' (E := fun i => bif decide (base ≤ i ∧ i < j + 1) then false else E i) (fun i hi => by
      rw [Int.toNat_natCast, Nat.mul_one]
      by_cases hij : i = j
      · subst hij; rw [decide_eq_true (by omega), decide_eq_true rfl]; rfl
      · rw [decide_eq_false hij, cond_false]
        by_cases hd : base ≤ i ∧ i < j
        · rw [decide_eq_true hd, decide_eq_true (by omega)]
        · rw [decide_eq_false hd, decide_eq_false (by omega)])] at o
    rw [pAdd_v, w64 (n := (j : Int) + 1) (by omega) (by omega)]
    exact ⟨⟨j + 1, rfl, by omega, by omega, o⟩, by show (_ : Int).toNat < (_ : Int).toNat; omega⟩
  · rw [boolsV_congr (E := fun i => decide (i < base)) (fun i hi => by
      by_cases hd : base ≤ i ∧ i < j
      · rw [decide_eq_true hd, decide_eq_false (by omega)]; rfl
      · rw [decide_eq_false hd, h1 i (by omega), decide_eq_true (by omega)]; rfl)] at o
    rw [pFieldAddr_v, add_mk]
    have oy := (o.sl (v := y) (by repeat (first | exact List.mem_cons_self | apply List.mem_cons_of_mem))).one
    have os := hs.one
    refine o.bstore (by repeat (first | exact List.mem_cons_self | apply List.mem_cons_of_mem)) (by simp) oy (by repeat (first | exact Rep.here | apply Rep.there)) fun H7 o _ => ?_
    refine o.bloadN (by repeat (first | exact List.mem_cons_self | apply List.mem_cons_of_mem)) rfl ?_
    refine o.bstoreN (vs := [_, _, _, _]) (by repeat (first | exact List.mem_cons_self | apply List.mem_cons_of_mem)) rfl rfl (all_cons rfl (all_cons rfl (all_cons os (all_cons oy rfl)))) (by repeat (first | exact Rep.here | apply Rep.there)) fun H8 o _ => ?_
    refine o.bloadN (by repeat (first | exact List.mem_cons_self | apply List.mem_cons_of_mem)) rfl ?_
    exact h y _ (o.arr (by repeat (first | exact Sels.nil | exact Sel.here | apply Sels.cons | apply Sel.there)))
/-- what an acknowledgement tells of the place j -/
def setF (at_ : Nat) (bits : Int) (j : Nat) : Bool := if at_ + 1 ≤ j ∧ j < at_ + 33 then bitAt bits (j - at_ - 1) else decide (j < at_)
/-- is anything new below j? -/
def newsF (at_ : Nat) (bits : Int) (E : Nat → Bool) (base : Nat) : Nat → Bool
  | 0 => false
  | j + 1 => newsF at_ bits E base j || (decide (base ≤ j) && setF at_ bits j && !E j)
theorem newsF_base {at_ : Nat} {bits : Int} {base : Nat} : ∀ j, j ≤ base → newsF at_ bits E base j = false
  | 0, _ => rfl
  | j + 1, h => by rw [newsF, newsF_base j (by omega), decide_eq_false (by omega)]; rfl
theorem newsF_iff {at_ : Nat} {bits : Int} {base : Nat} : ∀ n, (newsF at_ bits E base n = true ↔ ∃ j, base ≤ j ∧ j < n ∧ setF at_ bits j = true ∧ E j = false)
  | 0 => by simp [newsF]
  | n + 1 => by
    rw [newsF, Bool.or_eq_true, newsF_iff n]
    simp only [Bool.and_eq_true, decide_eq_true_eq, Bool.not_eq_true']
    constructor
    · rintro (⟨j, h1, h2, h3, h4⟩ | ⟨⟨h1, h2⟩, h3⟩)
      · exact ⟨j, h1, by omega, h3, h4⟩
      · exact ⟨n, h1, by omega, h2, h3⟩
    · rintro ⟨j, h1, h2, h3, h4⟩
      by_cases hj : j = n
      · subst hj; exact .inr ⟨⟨h1, h3⟩, h4⟩
      · exact .inl ⟨j, h1, by omega, h3, h4⟩
theorem ahead_at {base i : Nat} {upto : Int} (hu0 : 0 ≤ upto) (hu1 : upto ≤ 4294967295) (hi0 : base ≤ i) (hi1 : i ≤ base + 2000) : numb first i = upto ↔ ahead first base upto = (i : Int) - base := by
  unfold ahead numb
  simp only [wu32_mod]
  omega
set_option maxHeartbeats 1000000 in
theorem r24Ack {base next : Nat} {upto bits : Int} {sv av : Value} (hs : Sl H sv 1 (boolsV (fun i => decide (i < next)) c)) (ha : Sl H av 1 (boolsV E c)) (hc : c ≤ 1000) (hb : base ≤ next) (hn : next ≤ c) (h1 : ∀ i, i < base → E i = true) (h2 : base < c → E base = false)
    (hu0 : 0 ≤ upto) (hu1 : upto ≤ 4294967295) (hb0 : 0 ≤ bits) (hb1 : bits ≤ 4294967295)
    (hno : ((next : Int) - base < ahead first base upto) → ∀ H', Ext H H' → R (.tuple #[.agg #[.int .u32 first, .int .i64 size, sv, av], .bool false]) H')
    (hyes : ∀ at_ : Nat, base ≤ at_ → at_ ≤ next → ahead first base upto = (at_ : Int) - base → ∀ y H', Owns H H' [.sl y 1 (boolsV (fun j => bif decide (j = at_) then false else (E j || (decide (base ≤ j ∧ j < next) && setF at_ bits j))) c)] → R (.tuple #[.agg #[.int .u32 first, .int .i64 size, sv, y], .bool (newsF at_ bits E base next)]) H') :
    CallsH Try.prog 34 #[.agg #[.int .u32 first, .int .i64 size, sv, av], .int .u32 upto, .int .u32 bits] H R := by
  have hw : RefS H (.agg #[.int .u32 first, .int .i64 size, sv, av]) first size c (fun i => decide (i < next)) E := ⟨sv, av, rfl, hs, ha⟩
  have hsent : ∀ {H' : Heap} {R' : Value → Heap → Prop}, Ext H H' → (∀ H'', Ext H' H'' → R' (.int .i64 next) H'') → CallsH Try.prog 40 #[.agg #[.int .u32 first, .int .i64 size, sv, av]] H' R' := fun hx hk =>
    r24Sent (hw.ext hx) hc hn (fun i hi => by simp [hi]) (fun _ => by simp) hk
  have hah := wu32_range (upto - numb first base)
  change 0 ≤ ahead first base upto ∧ _ at hah
  refine lighterref24_Ack.vc _ _ _ _ _ ?_
  unfold lighterref24_Ack.res
  refine (Owns.start (H := H)).box fun b1 H1 o _ => ?_
  change Owns H H1 [.box b1 [.int .u32 first, .int .i64 size, sv, av] _] at o
  refine o.box fun b2 H2 o _ => ?_
  change Owns H H2 [.box b2 [.int .u32 0, .int .i64 0, .slice none 0 0, .slice none 0 0] _, _] at o
  refine o.bloadN (by repeat (first | exact List.mem_cons_self | apply List.mem_cons_of_mem)) rfl ?_
  refine r24Base (hw.ext o.ext) hc (Nat.le_trans hb hn) h1 h2 fun H3 x3 => ?_
  have o := o.more x3
  refine ⟨fun at9 i H' => ∃ (j : Nat), i = .int .i64 j ∧ base ≤ j ∧ j ≤ next + 1 ∧ at9 = .int .i64 (if base + ahead first base upto < j then base + ahead first base upto else -1) ∧ Owns H H' [.box b2 [.int .u32 0, .int .i64 0, .slice none 0 0, .slice none 0 0] 67, .box b1 [.int .u32 first, .int .i64 size, sv, av] 67 ],
    fun _ i _ => match i with | .int _ x => (2000 - x).toNat | _ => 0, ⟨base, rfl, by omega, by omega, by rw [if_neg (by omega)], o⟩, ?_⟩
  rintro _ _ _ H4 ⟨j, rfl, hj0, hj1, rfl, o⟩
  refine o.bloadN (by repeat (first | exact List.mem_cons_self | apply List.mem_cons_of_mem)) rfl ?_
  refine hsent o.ext fun H5 x5 => ?_
  have o := o.more x5
  rw [pLe_v]
  refine pCond_if (fun hjn => ?_) (fun hjn => ?_)
  · refine ⟨fun at9 H' => at9 = .int .i64 (if base + ahead first base upto < (j + 1 : Nat) then base + ahead first base upto else -1) ∧ Owns H H' [.box b2 [.int .u32 0, .int .i64 0, .slice none 0 0, .slice none 0 0] 67, .box b1 [.int .u32 first, .int .i64 size, sv, av] 67 ], ?_, ?_⟩
    · rintro _ _ H6 ⟨rfl, o⟩
      rw [pAdd_v, w64 (n := (j : Int) + 1) (by omega) (by omega)]
      exact ⟨⟨j + 1, rfl, by omega, by omega, rfl, o⟩, by show (_ : Int).toNat < (_ : Int).toNat; omega⟩
    refine o.bloadN (by repeat (first | exact List.mem_cons_self | apply List.mem_cons_of_mem)) rfl ?_
    refine r24Number (hw.ext o.ext) fun H6 x6 => ?_
    have o := o.more x6
    rw [pEq_0]
    have hat := ahead_at (first := first) hu0 hu1 hj0 (by omega)
    by_cases hnu : numb first j = upto
    · have ha9 := hat.1 hnu
      rw [decide_eq_true hnu]
      refine pAnd_true ?_
      rw [pLt_v, if_neg (show ¬ ((base : Int) + ahead first base upto < (j : Int)) by omega)]
      intro _
      rw [decide_eq_true (by omega), pCond_true]
      exact ⟨by rw [if_pos (by omega)]; congr 1; omega, o⟩
    · have ha9 : ahead first base upto ≠ (j : Int) - base := fun h => hnu (hat.2 h)
      rw [decide_eq_false hnu, pAnd_false]
      intro _
      rw [pCond_false]
      refine ⟨?_, o⟩
      by_cases hlt : (base : Int) + ahead first base upto < j
      · rw [if_pos hlt, if_pos (by omega)]
      · rw [if_neg hlt, if_neg (by omega)]
  -- the place is known
  rw [pLt_v]
  by_cases hin : (base : Int) + ahead first base upto < j
  rotate_left
  · rw [if_neg hin, decide_eq_true (by omega), pCond_true]
    refine o.bloadN (by repeat (first | exact List.mem_cons_self | apply List.mem_cons_of_mem)) rfl ?_
    refine o.bstoreN (vs := [_, _, _, _]) (by repeat (first | exact List.mem_cons_self | apply List.mem_cons_of_mem)) rfl rfl (all_cons rfl (all_cons rfl (all_cons hs.one (all_cons ha.one rfl)))) (by repeat (first | exact Rep.here | apply Rep.there)) fun H8 o _ => ?_
    refine o.bloadN (by repeat (first | exact List.mem_cons_self | apply List.mem_cons_of_mem)) rfl ?_
    exact hno (by omega) _ o.ext
  rw [if_pos hin]
  obtain ⟨at_, hat⟩ : ∃ at_ : Nat, (base : Int) + ahead first base upto = at_ := ⟨(base + ahead first base upto).toNat, by omega⟩
  rw [hat]
  rw [hat] at hin
  rw [decide_eq_false (by omega), pCond_false]
  have hat0 : base ≤ at_ := by omega
  have hat1 : at_ ≤ next := by omega
  have hk := hyes at_ hat0 hat1 (by omega)
  clear hyes hno
  refine o.build0 1 (by decide) fun y0 H6 o => ?_
  rw [pFieldAddr_v, add_mk]
  refine o.bload (by repeat (first | exact List.mem_cons_self | apply List.mem_cons_of_mem)) rfl ?_
  refine o.app (by repeat (first | exact Sel.here | apply Sel.there)) (ha.ext o.ext) boolsV_one (by simp only [boolsV_len, List.length_nil]; omega) fun y H7 o => ?_
  rw [List.nil_append] at o
  refine ⟨fun nw i H' => ∃ (j : Nat), i = .int .i64 j ∧ base ≤ j ∧ j ≤ next ∧ nw = .bool (newsF at_ bits E base j) ∧ Owns H H' [.sl y 1 (boolsV (fun i => E i || (decide (base ≤ i ∧ i < j) && setF at_ bits i)) c), .box b2 [.int .u32 0, .int .i64 0, .slice none 0 0, .slice none 0 0] 67, .box b1 [.int .u32 first, .int .i64 size, sv, av] 67 ],
    fun _ i _ => match i with | .int _ x => (2000 - x).toNat | _ => 0, ⟨base, rfl, by omega, hb, by rw [newsF_base base (by omega)], ?_⟩, ?_⟩
  · rw [boolsV_congr (E := E) (fun i hi => by rw [decide_eq_false (by omega)]; simp)]
    exact o
  rintro _ _ _ H8 ⟨j, rfl, hj0, hj1, rfl, o⟩
  refine o.bloadN (by repeat (first | exact List.mem_cons_self | apply List.mem_cons_of_mem)) rfl ?_
  refine hsent o.ext fun H9 x9 => ?_
  have o := o.more x9
  rw [pLt_v]
  refine pCond_if (fun hlt => ?_) (fun hlt => ?_)
  · refine ⟨fun nw H' => nw = .bool (newsF at_ bits E base (j + 1)) ∧ Owns H H' [.sl y 1 (boolsV (fun i => E i || (decide (base ≤ i ∧ i < j + 1) && setF at_ bits i)) c), .box b2 [.int .u32 0, .int .i64 0, .slice none 0 0, .slice none 0 0] 67, .box b1 [.int .u32 first, .int .i64 size, sv, av] 67 ], ?_, ?_⟩
    · rintro _ _ H10 ⟨rfl, o⟩
      rw [pAdd_v, w64 (n := (j : Int) + 1) (by omega) (by omega)]
      exact ⟨⟨j + 1, rfl, by omega, by omega, rfl, o⟩, by show (_ : Int).toNat < (_ : Int).toNat; omega⟩
    rw [pLt_v]
    refine ⟨fun v H' => v = .bool (setF at_ bits j) ∧ H9 = H', ?_, ?_⟩
    · rintro _ _ _ ⟨rfl, rfl⟩
      have hEj : ∀ i, i < c → i ≠ j → (E i || (decide (base ≤ i ∧ i < j + 1) && setF at_ bits i)) = (E i || (decide (base ≤ i ∧ i < j) && setF at_ bits i)) := fun i hi hne => by
        by_cases hd : base ≤ i ∧ i < j
        · rw [decide_eq_true hd, decide_eq_true (by omega)]
        · rw [decide_eq_false hd, decide_eq_false (by omega)]
      have hEj0 : (E j || (decide (base ≤ j ∧ j < j) && setF at_ bits j)) = E j := by rw [decide_eq_false (by omega)]; simp
      have hEj1 : (E j || (decide (base ≤ j ∧ j < j + 1) && setF at_ bits j)) = (E j || setF at_ bits j) := by rw [decide_eq_true (by omega)]; simp
      have hnw : newsF at_ bits E base (j + 1) = (newsF at_ bits E base j || (setF at_ bits j && !E j)) := by rw [newsF, decide_eq_true hj0, Bool.true_and]
      cases hst : setF at_ bits j with
      | false =>
        rw [pAnd_false]
        intro _
        rw [pCond_false]
        refine ⟨by rw [hnw, hst]; simp, ?_⟩
        rw [boolsV_congr (E := fun i => E i || (decide (base ≤ i ∧ i < j) && setF at_ bits i)) (fun i hi => by
          by_cases hij : i = j
          · subst hij; rw [hEj1, hEj0, hst, Bool.or_false]
          · exact hEj i hi hij)]
        exact o
      | true =>
        refine pAnd_true ?_
        refine (o.sl (v := y) (by repeat (first | exact List.mem_cons_self | apply List.mem_cons_of_mem))).at_ (n := c) (by simp [boolsV_len]) (by decide) (by omega) (by omega) fun p hp => ?_
        refine hp.load (o.sl (v := y) (by repeat (first | exact List.mem_cons_self | apply List.mem_cons_of_mem))) (w := .bool (E j)) (by rw [Int.toNat_natCast, Nat.mul_one, boolsV_at (by omega), hEj0]) ?_
        rw [pNot_v]
        intro _
        cases hEE : E j with
        | true =>
          rw [Bool.not_true, pCond_false]
          refine ⟨by rw [hnw, hEE]; simp, ?_⟩
          rw [boolsV_congr (E := fun i => E i || (decide (base ≤ i ∧ i < j) && setF at_ bits i)) (fun i hi => by
            by_cases hij : i = j
            · subst hij; rw [hEj1, hEj0, hEE, Bool.true_or]
            · exact hEj i hi hij)]
          exact o
        | false =>
          rw [Bool.not_false, pCond_true]
          refine (o.sl (v := y) (by repeat (first | exact List.mem_cons_self | apply List.mem_cons_of_mem))).at_ (n := c) (by simp [boolsV_len]) (by decide) (by omega) (by omega) fun p hp => ?_
          refine o.store hp (by repeat (first | exact List.mem_cons_self | apply List.mem_cons_of_mem)) (by simp [boolsV_len]; omega) rfl (by repeat (first | exact Rep.here | apply Rep.there)) fun H10 o _ => ?_
          refine ⟨by rw [hnw, hst, hEE]; simp, ?_⟩
          rw [boolsV_set' (E := fun i => E i || (decide (base ≤ i ∧ i < j + 1) && setF at_ bits i)) (fun i hi => by
            rw [Int.toNat_natCast, Nat.mul_one]
            by_cases hij : i = j
            · subst hij; rw [decide_eq_true (p := i = i) rfl, hEj1, hst, Bool.or_true]; rfl
            · rw [decide_eq_false hij, cond_false]; exact hEj i hi hij)] at o
          exact o
    · rw [pSub_v, pSub_v, w64 (n := (j : Int) - (at_ : Int)) (by omega) (by omega), w64 (n := (j : Int) - (at_ : Int) - 1) (by omega) (by omega), pGe_v]
      by_cases hge : at_ + 1 ≤ j
      rotate_left
      · rw [decide_eq_false (by omega), pAnd_false]
        intro _
        rw [pCond_false]
        refine ⟨?_, rfl⟩
        unfold setF
        rw [if_neg (by omega)]
        congr 1
        rw [Bool.eq_iff_iff, decide_eq_true_eq, decide_eq_true_eq]; omega
      rw [decide_eq_true (by omega)]
      refine pAnd_true ?_
      rw [pLt_v]
      intro _
      refine pCond_if (fun h32 => ?_) (fun h32 => ?_)
      rotate_left
      · refine ⟨?_, rfl⟩
        unfold setF
        rw [if_neg (by omega)]
        congr 1
        rw [Bool.eq_iff_iff, decide_eq_true_eq, decide_eq_true_eq]; omega
      obtain ⟨kk, hkk⟩ : ∃ kk : Nat, (j : Int) - (at_ : Int) - 1 = kk := ⟨j - at_ - 1, by omega⟩
      have hset : setF at_ bits j = bitAt bits kk := by
        unfold setF
        rw [if_pos (by omega), show j - at_ - 1 = kk by omega]
      rw [hkk, hset]
      refine ⟨fun v i H' => ∃ q : Nat, i = .int .i64 q ∧ q ≤ kk ∧ v = .int .u32 (bits / 2 ^ q) ∧ H9 = H', fun _ i _ => match i with | .int _ x => (2000 - x).toNat | _ => 0, ⟨0, rfl, by omega, by simp, rfl⟩, ?_⟩
      rintro _ _ _ _ ⟨q, rfl, hq, rfl, rfl⟩
      have hP : (0 : Int) < 2 ^ q := Int.pow_pos (by decide)
      have hq0 : 0 ≤ bits / 2 ^ q := Int.ediv_nonneg hb0 (by omega)
      have hq1 : bits / 2 ^ q ≤ bits := Int.ediv_le_self _ hb0
      have hqs : bits / 2 ^ (q + 1) = bits / 2 ^ q / 2 := by rw [Int.pow_succ, Int.ediv_ediv_of_nonneg (by omega)]
      rw [pLt_v]
      refine pCond_if (fun hlt => ?_) (fun hlt => ?_)
      · simp only [pPick_v, pNil_v, pNil_f, pAdd_v, pSub_v, pMul_v, pAdd_s, pQuo_v, pRem_v, pBits_v, pShl_v, pShr_v, pLt_v, pLe_v, pGt_v, pGe_v, pEq_0, pNe_0, pEq_1, pNe_1, pEq_2, pNe_2, pEq_3n, pNe_3n, pEq_3s, pNe_3s, pEq_3t, pNe_3t, pEq_5n, pNe_5n, pEq_5s, pNe_5s, pEq_5t, pNe_5t, pEq_4n, pNe_4n, pEq_4s, pNe_4s, pNot_v, pNeg_v, pCom_v, pConv_v, pConvS_v, pMin_v, pMax_v, pFieldAddr_v, pField1_v, pFieldN_v, pExtract_v, pIdxArr_v, pIdxSl_v, pIdxStr_v, pBounds_00, pBounds_10, pBounds_01, pBounds_11, pSlStr_v, pSlSl_v, pSlArr_v, pLenS_v, pLen_v, pCap_v, pBuild_n, pBuild_c, cells_int, cells_str, cells_bool, cells_ptr, cells_slice, cells_map, cells_agg, oneCell_int, oneCell_str, oneCell_bool, oneCell_ptr, oneCell_slice, oneCell_map, putL_cons, putL_nil, pAnd_pure, pOr_pure, pAnd_pureE, pOr_pureE, pAnd_false, pOr_true, pCond_true, pCond_false, add_mk, bys_mk, bys_size, cond_true, cond_false, decide_true, decide_false, decide_not', dec_and, dec_or, dec_eqt, Bool.not_true, Bool.not_false, Option.isNone_none, Option.isNone_some, Option.map_some, Option.map_none, List.getElem?_toArray, List.getElem?_cons_zero, List.getElem?_cons_succ, List.size_toArray, List.length_cons, List.length_nil, List.length_replicate, List.set_cons_zero, List.set_cons_succ, Nat.reduceAdd, Nat.reduceMul, Nat.reduceSub, Nat.reduceLeDiff, Nat.zero_add, Nat.add_zero, Nat.zero_le, true_and, and_true, not_false_eq_true, ne_eq, Int.reduceNeg, Int.reduceEq, Int.reduceNe, Int.reduceLT, Int.reduceLE, le_refl', List.setIfInBounds_toArray, Nat.reduceLT, Array.size_setIfInBounds, if_true, if_false, reduceCtorEq, List.toArray_toList', List.drop_succ_cons, List.drop_zero, List.take_succ_cons, List.take_zero, List.nil_append, List.append_nil, List.cons_append, Bool.and_true, Bool.true_and, Bool.or_false, Bool.false_or, Bool.and_false, Bool.or_true, Bool.true_or, Bool.false_and, eq_self]
        rw [Int.tdiv_eq_ediv_of_nonneg hq0, ← hqs, w64 (n := (q : Int) + 1) (by omega) (by omega)]
        have hq2 : 0 ≤ bits / 2 ^ (q + 1) ∧ bits / 2 ^ (q + 1) ≤ 4294967295 := by omega
        rw [show IntKind.u32.wrap (bits / 2 ^ (q + 1)) = bits / 2 ^ (q + 1) by rw [wu32_mod]; omega]
        exact ⟨⟨q + 1, rfl, by omega, rfl⟩, by show (_ : Int).toNat < (_ : Int).toNat; omega⟩
      · simp only [pPick_v, pNil_v, pNil_f, pAdd_v, pSub_v, pMul_v, pAdd_s, pQuo_v, pRem_v, pBits_v, pShl_v, pShr_v, pLt_v, pLe_v, pGt_v, pGe_v, pEq_0, pNe_0, pEq_1, pNe_1, pEq_2, pNe_2, pEq_3n, pNe_3n, pEq_3s, pNe_3s, pEq_3t, pNe_3t, pEq_5n, pNe_5n, pEq_5s, pNe_5s, pEq_5t, pNe_5t, pEq_4n, pNe_4n, pEq_4s, pNe_4s, pNot_v, pNeg_v, pCom_v, pConv_v, pConvS_v, pMin_v, pMax_v, pFieldAddr_v, pField1_v, pFieldN_v, pExtract_v, pIdxArr_v, pIdxSl_v, pIdxStr_v, pBounds_00, pBounds_10, pBounds_01, pBounds_11, pSlStr_v, pSlSl_v, pSlArr_v, pLenS_v, pLen_v, pCap_v, pBuild_n, pBuild_c, cells_int, cells_str, cells_bool, cells_ptr, cells_slice, cells_map, cells_agg, oneCell_int, oneCell_str, oneCell_bool, oneCell_ptr, oneCell_slice, oneCell_map, putL_cons, putL_nil, pAnd_pure, pOr_pure, pAnd_pureE, pOr_pureE, pAnd_false, pOr_true, pCond_true, pCond_false, add_mk, bys_mk, bys_size, cond_true, cond_false, decide_true, decide_false, decide_not', dec_and, dec_or, dec_eqt, Bool.not_true, Bool.not_false, Option.isNone_none, Option.isNone_some, Option.map_some, Option.map_none, List.getElem?_toArray, List.getElem?_cons_zero, List.getElem?_cons_succ, List.size_toArray, List.length_cons, List.length_nil, List.length_replicate, List.set_cons_zero, List.set_cons_succ, Nat.reduceAdd, Nat.reduceMul, Nat.reduceSub, Nat.reduceLeDiff, Nat.zero_add, Nat.add_zero, Nat.zero_le, true_and, and_true, not_false_eq_true, ne_eq, Int.reduceNeg, Int.reduceEq, Int.reduceNe, Int.reduceLT, Int.reduceLE, le_refl', List.setIfInBounds_toArray, Nat.reduceLT, Array.size_setIfInBounds, if_true, if_false, reduceCtorEq, List.toArray_toList', List.drop_succ_cons, List.drop_zero, List.take_succ_cons, List.take_zero, List.nil_append, List.append_nil, List.cons_append, Bool.and_true, Bool.true_and, Bool.or_false, Bool.false_or, Bool.and_false, Bool.or_true, Bool.true_or, Bool.false_and, eq_self]
        have : q = kk := by omega
        subst this
        rw [Int.tmod_eq_emod_of_nonneg hq0]
        unfold bitAt
        rfl
  -- the window as it is told
  have hjn2 : j = next := by omega
  subst hjn2
  refine ⟨fun H' => Owns H H' [.sl y 1 (boolsV (fun i => bif decide (i = at_) then false else (E i || (decide (base ≤ i ∧ i < j) && setF at_ bits i))) c), .box b2 [.int .u32 0, .int .i64 0, .slice none 0 0, .slice none 0 0] 67, .box b1 [.int .u32 first, .int .i64 size, sv, av] 67 ], ?_, ?_⟩
  · intro _ H10 o
    rw [pFieldAddr_v, add_mk]
    have oy := (o.sl (v := y) (by repeat (first | exact List.mem_cons_self | apply List.mem_cons_of_mem))).one
    have os := hs.one
    refine o.bstore (by repeat (first | exact List.mem_cons_self | apply List.mem_cons_of_mem)) (by simp) oy (by repeat (first | exact Rep.here | apply Rep.there)) fun H7 o _ => ?_
    refine o.bloadN (by repeat (first | exact List.mem_cons_self | apply List.mem_cons_of_mem)) rfl ?_
    refine o.bstoreN (vs := [_, _, _, _]) (by repeat (first | exact List.mem_cons_self | apply List.mem_cons_of_mem)) rfl rfl (all_cons rfl (all_cons rfl (all_cons os (all_cons oy rfl)))) (by repeat (first | exact Rep.here | apply Rep.there)) fun H8 o _ => ?_
    refine o.bloadN (by repeat (first | exact List.mem_cons_self | apply List.mem_cons_of_mem)) rfl ?_
    exact hk y _ (o.arr (by repeat (first | exact Sels.nil | exact Sel.here | apply Sels.cons | apply Sel.there)))
  refine (o.sl (v := y) (by repeat (first | exact List.mem_cons_self | apply List.mem_cons_of_mem))).len (n := c) (by simp [boolsV_len]) (by decide) ?_
  rw [pLt_v]
  refine pCond_if (fun hlt => ?_) (fun hlt => ?_)
  · refine (o.sl (v := y) (by repeat (first | exact List.mem_cons_self | apply List.mem_cons_of_mem))).at_ (n := c) (by simp [boolsV_len]) (by decide) (by omega) (by omega) fun p hp => ?_
    refine o.store hp (by repeat (first | exact List.mem_cons_self | apply List.mem_cons_of_mem)) (by simp [boolsV_len]; omega) rfl (by repeat (first | exact Rep.here | apply Rep.there)) fun H10 o _ => ?_
    rw [boolsV_set, Int.toNat_natCast, Nat.mul_one] at o
    exact o
  · rw [boolsV_congr (E := fun i => E i || (decide (base ≤ i ∧ i < j) && setF at_ bits i)) (fun i hi => by rw [decide_eq_false (by omega)]; rfl)]
    exact o
end Go.Proofs.Ytmolkhfohpfhaaa
