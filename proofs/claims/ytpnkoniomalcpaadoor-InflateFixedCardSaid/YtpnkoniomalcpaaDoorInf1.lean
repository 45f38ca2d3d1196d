/- Contracts of package inflate: the codes that a stream tells. -/
import Derived.Test.YtpnkoniomalcpaaDoorRdP
import Derived.Test.YtpnkoniomalcpaaDoorNew03
namespace Go.Proofs.YtpnkoniomalcpaaDoor
open Go Go.Vc Go.Proofs
set_option linter.unusedVariables false
set_option linter.unusedSimpArgs false
variable {H H0 : Heap} {R : Value → Heap → Prop} {v : Value} {zs : List Int} {ls : List Nat} {B : List Bool} {L : List It} {b : Nat} {post : List Value} {t : TypeId}
theorem numsV_getD {l : List Int} {i : Nat} (h : i < l.length) : (numsV l)[i]? = some (.int .i64 (l.getD i 0)) := by
  rw [numsV_get h, List.getD_eq_getElem?_getD, List.getElem?_eq_getElem h]; rfl
theorem numsV_snoc (l : List Int) (z : Int) : numsV l ++ (Value.int .i64 z).cells.toList = numsV (l ++ [z]) := by rw [numsV_append]; rfl
/-- the second item is dropped -/
theorem _root_.Go.Vc.Owns.drop2 {i j : It} (o : Owns H0 H (i :: j :: L)) : Owns H0 H (i :: L) := o.pick (List.Sublist.cons_cons _ (List.sublist_cons_self _ _))
theorem _root_.Go.Vc.Owns.swap {i j : It} (o : Owns H0 H (i :: j :: L)) : Owns H0 H (j :: i :: L) := o.perm (List.Perm.swap ..)
theorem _root_.Go.Vc.Owns.lenV1 {l : List Value} (o : Owns H0 H L) (h : It.sl v 1 l ∈ L) : lenV v = some l.length := (o.sl h).lenV (Nat.mul_one _).symm (by decide)
theorem _root_.Go.Vc.Owns.len1 {l : List Value} {K : Value → Prop} (o : Owns H0 H L) (h : It.sl v 1 l ∈ L) (hk : K (.int .i64 (l.length : Int))) : pLen v K := (o.sl h).len (Nat.mul_one _).symm (by decide) hk
/-- a loop's measure: as long as a slice grows -/
abbrev grows (n : Nat) (v : Value) : Nat := n - (lenV v).getD 0
theorem grows_lt {n a c : Nat} {v w : Value} (hv : lenV v = some a) (hw : lenV w = some c) (h : a < c) (hn : a < n) : grows n w < grows n v := by
  unfold grows; rw [hv, hw]; simp only [Option.getD_some]; omega
/-- an item is brought to the front -/
theorem _root_.Go.Vc.Owns.mid {M : List It} {i : It} (o : Owns H0 H (M ++ i :: L)) : Owns H0 H (i :: (M ++ L)) := o.perm List.perm_middle.symm
theorem _root_.Go.Vc.Owns.nil1 (o : Owns H0 H L) : Owns H0 H (.sl (.slice none 0 0) 1 [] :: L) :=
  o.add (Ext.refl H) ⟨by decide, .inl ⟨rfl, rfl⟩⟩ (by intro k hk; exact absurd hk (by simp [It.foot, blkOf]))
/-- a code stands in a list of things -/
def HasC (L : List It) (zs : List Int) (p : Value) : Prop := okC zs ∧ ∃ cb lv wv sv, p = .pointer (some ⟨cb, 0, none⟩) ∧ ∀ i ∈ codeIts zs cb lv wv sv, i ∈ L
theorem HasC.mono {L L' : List It} {p : Value} (h : HasC L zs p) (hm : ∀ i ∈ L, i ∈ L') : HasC L' zs p := by
  obtain ⟨h1, cb, lv, wv, sv, h2, h3⟩ := h
  exact ⟨h1, cb, lv, wv, sv, h2, fun i hi => hm i (h3 i hi)⟩
theorem HasC.cons {i : It} {L : List It} {p : Value} (h : HasC L zs p) : HasC (i :: L) zs p := h.mono fun _ => List.mem_cons_of_mem _
theorem HasC.app {M L : List It} {p : Value} (h : HasC L zs p) : HasC (M ++ L) zs p := h.mono fun _ => List.mem_append_right _
theorem HasC.appl {M L : List It} {p : Value} (h : HasC M zs p) : HasC (M ++ L) zs p := h.mono fun _ => List.mem_append_left _
theorem nextC_spec {p : Value} (hc : HasC L zs p) (o : Owns H0 H (rdI b post t B :: L))
    (hok : ∀ s C H', nextM zs B = .ok s C → s < zs.length → Owns H0 H' (rdI b post t C :: L) → R (.tuple #[i64 s, .int .i64 0]) H')
    (her : ∀ e H', nextM zs B = .er e → e ≠ 0 → Owns H0 H' (rdI b post t B :: L) → R (.tuple #[.int .i64 0, .int .i64 e]) H') :
    CallsH Tryd.prog 53 #[p, at_ b 0] H R := by
  obtain ⟨h1, cb, lv, wv, sv, rfl, h3⟩ := hc
  exact nextP_spec h1 o (h3 _ (by repeat (first | exact List.mem_cons_self | apply List.mem_cons_of_mem))) (h3 _ (by repeat (first | exact List.mem_cons_self | apply List.mem_cons_of_mem))) (h3 _ (by repeat (first | exact List.mem_cons_self | apply List.mem_cons_of_mem))) hok her
/-- canon's New, among things -/
theorem newO_spec {loose : Bool} {v : Value} (o : Owns H0 H L) (hs : Sl H v 1 (numsV zs)) (hlen : zs.length ≤ 1000)
    (hno : ∀ H', whyL zs loose ≠ 0 → Owns H0 H' L → R (.tuple #[.pointer none, .int .i64 (whyL zs loose)]) H')
    (hyes : ∀ H' M p, whyL zs loose = 0 → HasC M zs p → Owns H0 H' (M ++ L) → R (.tuple #[p, .int .i64 0]) H') : CallsH Tryd.prog 63 #[v, .bool loose] H R :=
  newC_spec hs (by have : maxLen = 9223372036854775807 := rfl; omega) (fun H' hx h => hno H' h (o.more hx)) (fun H' b lv wv sv c hz h => hyes H' (codeIts zs b lv wv sv) _ h ⟨why_okC h, b, lv, wv, sv, rfl, fun i hi => hi⟩ (o.call c))
theorem ne_ok {K : Value → Prop} (h : K (.bool false)) : pNe 0 (.int .i64 0) (.int .i64 0) K := h
theorem ne_er {e : Int} {K : Value → Prop} (he : e ≠ 0) (h : K (.bool true)) : pNe 0 (.int .i64 e) (.int .i64 0) K := by
  rw [pNe_0, decide_eq_true he]; exact h
/-! ### the codes of the kind 1 -/
theorem fix_fill {e t : TypeId} {K : Value → Heap → Prop} {l2 : Value} {nv up : Nat} {zs : List Int} (o : Owns H0 H (.sl l2 1 (numsV zs) :: L)) (hz : zs.length ≤ up) (hup : up ≤ 288)
    (hk : ∀ l H', Owns H0 H' (.sl l 1 (numsV (zs ++ List.replicate (up - zs.length) (nv : Int))) :: L) → K l H') :
    pBox H t (.agg #[(.int .i64 0), (.int .i64 0)]) fun x5 H_4 =>
    pStoreN H_4 2 x5 (.agg #[i64 nv, i64 up]) fun _ H_5 =>
    ∃ (I_6 : Value → Heap → Prop) (m_7 : Value → Heap → Nat), I_6 l2 H_5 ∧
    ∀ _ : Env, ∀ l2' : Value, ∀ H_8 : Heap, I_6 l2' H_8 →
    pLen l2' fun x19 =>
    pFieldAddr 1 x5 fun x20 =>
    pLoad H_8 x20 fun x21 =>
    pLt x19 x21 fun x22 =>
    pCond x22
    (pFieldAddr 0 x5 fun x24 =>
    pLoad H_8 x24 fun x25 =>
    pBuildSl H_8 e 1 [(.int .i64 0)] [(0, 1, x25)] fun x26 H_9 =>
    pAppend H_9 e 1 8 [(.int .i64 0)] l2' x26 fun x27 H_10 =>
    I_6 x27 H_10 ∧ m_7 x27 H_10 < m_7 l2' H_8)
    (K l2' H_8) := by
  refine o.box fun c H1 o hc => ?_
  change Owns H0 H1 (.box c [.int .i64 0, .int .i64 0] t :: _) at o
  refine o.bstoreN (vs := [i64 nv, i64 up]) (by repeat (first | exact List.mem_cons_self | apply List.mem_cons_of_mem)) rfl rfl rfl (by repeat (first | exact Rep.here | apply Rep.there)) fun H2 o _ => ?_
  refine ⟨fun l2' H' => ∃ j, zs.length + j ≤ up ∧ Owns H0 H' (.box c [i64 nv, i64 up] t :: .sl l2' 1 (numsV (zs ++ List.replicate j (nv : Int))) :: L), fun v _ => grows 1000 v, ⟨0, by omega, by simpa using o⟩, ?_⟩
  rintro _ l2' H3 ⟨j, hj, o⟩
  have hlen : (numsV (zs ++ List.replicate j (nv : Int))).length = zs.length + j := by rw [numsV_len, List.length_append, List.length_replicate]
  have hlv := o.lenV1 (v := l2') (by repeat (first | exact List.mem_cons_self | apply List.mem_cons_of_mem))
  refine o.len1 (v := l2') (by repeat (first | exact List.mem_cons_self | apply List.mem_cons_of_mem)) ?_
  rw [pFieldAddr_v, add_mk]
  refine o.bload (b := c) (f := 0 + 1) (by repeat (first | exact List.mem_cons_self | apply List.mem_cons_of_mem)) rfl ?_
  rw [pLt_v]
  refine pCond_if (fun hc => ?_) (fun hc => ?_)
  · rw [pFieldAddr_v, add_mk]
    refine o.bload (b := c) (f := 0 + 0) (by repeat (first | exact List.mem_cons_self | apply List.mem_cons_of_mem)) rfl ?_
    refine o.build1 (by decide) rfl rfl fun y H4 o => ?_
    refine o.app (v := l2') (x := y) (by repeat (first | exact Sel.here | apply Sel.there)) (o.sl (by repeat (first | exact List.mem_cons_self | apply List.mem_cons_of_mem))) (by rfl) (by rw [hlen]; show 2 * (zs.length + j + 1) * 8 ≤ _; omega) fun y2 H5 o => ?_
    rw [numsV_snoc, List.append_assoc, ← List.replicate_succ'] at o
    have hlv2 := o.lenV1 (v := y2) (by repeat (first | exact List.mem_cons_self | apply List.mem_cons_of_mem))
    rw [numsV_len] at hlv2
    refine ⟨⟨j + 1, by omega, o.drop2.swap⟩, ?_⟩
    refine grows_lt hlv hlv2 ?_ ?_ <;> rw [hlen] <;> first | omega | (rw [List.length_append, List.length_replicate]; omega)
  · have : j = up - zs.length := by omega
    subst this
    exact hk l2' H3 (o.pick (List.sublist_cons_self _ _))
theorem fixL_why : whyL fixL false = 0 := by
  rw [why_ok fixL_ok.1, if_neg (by decide +kernel), if_neg (by decide +kernel)]
theorem fixD_why : whyL fixD false = 0 := by
  rw [why_ok fixD_ok.1, if_neg (by decide +kernel), if_neg (by decide +kernel)]
def fixUp : Nat → Nat
  | 0 => 0 | 1 => 144 | 2 => 256 | 3 => 280 | _ => 288
def fixN : Nat → Nat
  | 0 => 8 | 1 => 9 | 2 => 7 | _ => 8
theorem fix_take : ∀ i : Fin 4, fixL.take (fixUp i.val) ++ List.replicate (fixUp (i.val + 1) - fixUp i.val) (fixN i.val : Int) = fixL.take (fixUp (i.val + 1)) ∧ (fixL.take (fixUp i.val)).length = fixUp i.val ∧ fixUp i.val ≤ fixUp (i.val + 1) ∧ fixUp (i.val + 1) ≤ 288 := by decide +kernel
theorem fixed_spec (o : Owns H0 H L) (h : ∀ H' M p q, HasC M fixL p → HasC M fixD q → Owns H0 H' (M ++ L) → R (.tuple #[p, q]) H') : CallsH Tryd.prog 48 #[] H R := by
  refine inflate_fixedCodes.vc _ _ ?_
  unfold inflate_fixedCodes.res
  refine pBuild_two rfl rfl ?_
  refine pBuild_two rfl rfl ?_
  refine pBuild_two rfl rfl ?_
  refine pBuild_two rfl rfl ?_
  simp only [pBuild_c, pBuild_n, cells_agg, putL_cons, putL_nil, List.set_cons_zero, List.set_cons_succ, List.length_cons, List.length_nil, Nat.reduceAdd, Nat.reduceLeDiff, true_and]
  refine ⟨rfl, rfl, rfl, rfl, ?_⟩
  refine ⟨fun l u H' => ∃ i : Nat, u = i64 i ∧ i ≤ 4 ∧ Owns H0 H' (.sl l 1 (numsV (fixL.take (fixUp i))) :: L), fun _ u _ => match u with | .int _ i => (4 - i).toNat | _ => 0, ⟨0, rfl, by omega, o.nil1⟩, ?_⟩
  rintro _ l2 _ H3 ⟨i, rfl, hi, o⟩
  rw [pLt_v]
  refine pCond_if (fun hc => ?_) (fun hc => ?_)
  · have hi4 : i < 4 := by omega
    obtain ⟨e1, e2, e3, e4⟩ := fix_take ⟨i, hi4⟩
    dsimp only at e1 e2 e3 e4
    have hx : ∀ K : Value → Prop, K (.agg #[i64 (fixN i), i64 (fixUp (i + 1))]) → pIdxAggN 4 2 (.agg [Value.int .i64 8, .int .i64 144, .int .i64 9, .int .i64 256, .int .i64 7, .int .i64 280, .int .i64 8, .int .i64 288].toArray) (i64 i) K := by
      intro K hK
      refine ⟨by omega, by omega, ?_⟩
      rw [Int.toNat_natCast]
      match i, hi4 with
      | 0, _ => exact hK
      | 1, _ => exact hK
      | 2, _ => exact hK
      | 3, _ => exact hK
    refine hx _ ?_
    refine fix_fill o (by rw [e2]; exact e3) e4 fun l H4 o => ?_
    rw [e2, e1] at o
    rw [pAdd_v, w64 (by omega) (by omega)]
    exact ⟨⟨i + 1, rfl, by omega, o⟩, by show (_ : Int).toNat < (_ : Int).toNat; omega⟩
  have hi4 : i = 4 := by omega
  subst hi4
  rw [show fixL.take (fixUp 4) = fixL by decide +kernel] at o
  refine ⟨fun d u H' => ∃ i : Nat, u = i64 i ∧ i ≤ 32 ∧ Owns H0 H' (.sl d 1 (numsV (List.replicate i 5)) :: .sl l2 1 (numsV fixL) :: L), fun _ u _ => match u with | .int _ i => (32 - i).toNat | _ => 0, ⟨0, rfl, by omega, o.nil1⟩, ?_⟩
  rintro _ d3 _ H4 ⟨i, rfl, hi, o⟩
  rw [pLt_v]
  refine pCond_if (fun hc => ?_) (fun hc => ?_)
  · refine o.build1 (by decide) rfl rfl fun y H5 o => ?_
    refine o.app (v := d3) (x := y) (by repeat (first | exact Sel.here | apply Sel.there)) (o.sl (by repeat (first | exact List.mem_cons_self | apply List.mem_cons_of_mem))) (by rfl) (by rw [numsV_len, List.length_replicate]; show 2 * (i + 1) * 8 ≤ _; omega) fun y2 H6 o => ?_
    rw [numsV_snoc, ← List.replicate_succ'] at o
    rw [pAdd_v, w64 (by omega) (by omega)]
    exact ⟨⟨i + 1, rfl, by omega, o.drop2⟩, by show (_ : Int).toNat < (_ : Int).toNat; omega⟩
  have hi32 : i = 32 := by omega
  subst hi32
  refine newO_spec (zs := fixL) o (o.sl (by repeat (first | exact List.mem_cons_self | apply List.mem_cons_of_mem))) (by decide +kernel) (fun H5 hw => absurd fixL_why hw) fun H5 M p _ hp o => ?_
  refine pExtract_to rfl ?_
  refine pExtract_to rfl ?_
  have o := o.pick (List.Sublist.append (List.Sublist.refl M) (List.Sublist.cons_cons _ (List.sublist_cons_self _ L)))
  refine newO_spec (zs := fixD) o (o.sl (v := d3) (List.mem_append_right _ (by repeat (first | exact List.mem_cons_self | apply List.mem_cons_of_mem)))) (by decide +kernel) (fun H5 hw => absurd fixD_why hw) fun H6 M2 q _ hq o => ?_
  refine pExtract_to rfl ?_
  refine pExtract_to rfl ?_
  have o := o.pick (List.Sublist.append (List.Sublist.refl M2) (List.Sublist.append (List.Sublist.refl M) (List.sublist_cons_self _ L)))
  rw [← List.append_assoc] at o
  exact h H6 (M2 ++ M) p q hp.app hq.appl o
/-! ### lengths -/
theorem and_i64 {v k : Nat} {m : Int} (hk : k ≤ 62) (hm : m = 2 ^ k - 1) : bitsOf .and .i64 (v : Int) m = ((v % 2 ^ k : Nat) : Int) := by
  rw [and_low hk hm]
  push_cast
  rfl
theorem repeat_spec {s : Nat} {ah : List Int} {v : Value} (o : Owns H0 H (rdI b post t B :: L)) (hS : Sl H v 1 (numsV ah)) (hl : ah.length ≤ 1000)
    (hok : ∀ k z C H', repM s ah B = .ok (k, z) C → 1 ≤ k → k ≤ 138 → Owns H0 H' (rdI b post t C :: L) → R (.tuple #[i64 k, .int .i64 z, .int .i64 0]) H')
    (her : ∀ e x z H', repM s ah B = .er e → e ≠ 0 → Owns H0 H' (rdI b post t B :: L) → R (.tuple #[x, z, .int .i64 e]) H') : CallsH Tryd.prog 85 #[at_ b 0, i64 s, v] H R := by
  refine inflate_repeat.vc _ _ _ _ _ ?_
  unfold inflate_repeat.res
  refine ⟨fun le ex va H' => ∃ (l0 n0 : Nat) (z : Int), le = i64 l0 ∧ ex = i64 n0 ∧ va = .int .i64 z ∧ H' = H ∧ 1 ≤ l0 ∧ l0 ≤ 11 ∧ n0 ≤ 7 ∧ repM s ah B = (needM n0 B).bind fun n B => .ok (l0 + n, z) B, ?_, ?_⟩
  · rintro _ _ _ _ _ ⟨l0, n0, z, rfl, rfl, rfl, rfl, h1, h2, h3, hr⟩
    refine need_spec (n := n0) (by omega) o (fun x C H1 hx hlt o => ?_) (fun hx => ?_)
    · refine pExtract_to rfl ?_
      refine pExtract_to rfl ?_
      have h7 : 2 ^ n0 ≤ 2 ^ 7 := Nat.pow_le_pow_right (by decide) h3
      rw [pAdd_v, show (l0 : Int) + (x : Int) = ((l0 + x : Nat) : Int) by omega, w64 (by omega) (by omega)]
      rw [hx] at hr
      exact hok _ _ C H1 hr (by omega) (by omega) o
    · refine pExtract_to rfl ?_
      refine pExtract_to rfl ?_
      rw [pAdd_v]
      rw [hx] at hr
      exact her 2 _ _ _ hr (by decide) o
  · rw [pEq_0]
    refine pCond_if (fun hc => ?_) (fun hc => ?_)
    · have hs : s = 16 := by omega
      refine hS.len (Nat.mul_one _).symm (by decide) ?_
      rw [pEq_0, numsV_len]
      refine pCond_if (fun h0 => ?_) (fun h0 => ?_)
      · have : ah = [] := List.length_eq_zero_iff.1 (by omega)
        exact her 3 _ _ H (by unfold repM; rw [if_pos hs, if_pos this]) (by decide) o
      · refine hS.len (Nat.mul_one _).symm (by decide) ?_
        rw [numsV_len, pSub_v, show (ah.length : Int) - 1 = ((ah.length - 1 : Nat) : Int) by omega, w64 (by omega) (by omega)]
        refine hS.at_ (n := ah.length) (by rw [numsV_len]; omega) (by decide) (by omega) (by omega) fun p hp => ?_
        refine hp.load hS (w := .int .i64 (ah.getD (ah.length - 1) 0)) ?_ ?_
        · rw [Int.toNat_natCast, Nat.mul_one]; exact numsV_getD (by omega)
        · refine ⟨3, 2, _, rfl, rfl, rfl, rfl, by decide, by decide, by decide, ?_⟩
          unfold repM
          rw [if_pos hs, if_neg (fun g => h0 (by rw [g]; rfl))]
    rw [pEq_0]
    refine pCond_if (fun hc2 => ?_) (fun hc2 => ?_)
    · refine ⟨3, 3, 0, rfl, rfl, rfl, rfl, by decide, by decide, by decide, ?_⟩
      unfold repM
      rw [if_neg (by omega), if_pos (by omega)]
    rw [pEq_0]
    refine pCond_if (fun hc3 => ?_) (fun hc3 => ?_)
    · refine ⟨11, 7, 0, rfl, rfl, rfl, rfl, by decide, by decide, by decide, ?_⟩
      unfold repM
      rw [if_neg (by omega), if_neg (by omega), if_pos (by omega)]
    · exact hok 1 (s : Int) B H (by unfold repM; rw [if_neg (by omega), if_neg (by omega), if_neg (by omega)]) (by decide) (by decide) o
theorem lengths_spec7 {n : Nat} {p : Value} (hn : n ≤ 400) (hc : HasC L zs p) (o : Owns H0 H (rdI b post t B :: L))
    (hok : ∀ l C v H', lensM (n + 1) zs n [] B = .ok l C → l.length = n → Owns H0 H' (rdI b post t C :: .sl v 1 (numsV l) :: L) → R (.tuple #[v, .int .i64 0]) H')
    (her : ∀ e C H', lensM (n + 1) zs n [] B = .er e → e ≠ 0 → Owns H0 H' (rdI b post t C :: L) → R (.tuple #[.slice none 0 0, .int .i64 e]) H') : CallsH Tryd.prog 65 #[at_ b 0, p, i64 n] H R := by
  generalize hT : lensM (n + 1) zs n [] B = T at *
  refine inflate_lengths.vc _ _ _ _ _ ?_
  unfold inflate_lengths.res
  refine ⟨fun v H' => ∃ k out C, lensM k zs n out C = T ∧ n < k + out.length ∧ out.length ≤ n ∧ Owns H0 H' (rdI b post t C :: .sl v 1 (numsV out) :: L), fun v _ => grows 1000 v, ⟨n + 1, [], B, hT, by simp, by simp, o.nil1.swap⟩, ?_⟩
  rintro _ out8 H1 ⟨k, out, C, hk, hlt, hle, o⟩
  have hlv := o.lenV1 (v := out8) (by repeat (first | exact List.mem_cons_self | apply List.mem_cons_of_mem))
  rw [numsV_len] at hlv
  obtain ⟨k, rfl⟩ : ∃ j, k = j + 1 := ⟨k - 1, by omega⟩
  unfold lensM at hk
  refine o.len1 (v := out8) (by repeat (first | exact List.mem_cons_self | apply List.mem_cons_of_mem)) ?_
  rw [numsV_len, pLt_v]
  refine pCond_if (fun hc1 => ?_) (fun hc1 => ?_)
  · rw [if_neg (by omega)] at hk
    refine nextC_spec hc.cons o (fun s C1 H2 hs hsl o => ?_) (fun e H2 hs he o => ?_)
    · rw [hs] at hk
      refine pExtract_to rfl ?_
      refine pExtract_to rfl ?_
      refine ne_ok ?_
      rw [pCond_false]
      refine repeat_spec o (o.sl (v := out8) (by repeat (first | exact List.mem_cons_self | apply List.mem_cons_of_mem))) (by omega) (fun k1 z C2 H3 hr h1 h2 o => ?_) (fun e x z H3 hr he o => ?_)
      · simp only [Rs.bind, hr] at hk
        refine pExtract_to rfl ?_
        refine pExtract_to rfl ?_
        refine pExtract_to rfl ?_
        refine ne_ok ?_
        rw [pCond_false]
        refine o.len1 (v := out8) (by repeat (first | exact List.mem_cons_self | apply List.mem_cons_of_mem)) ?_
        rw [numsV_len, pSub_v, show (n : Int) - (out.length : Int) = ((n - out.length : Nat) : Int) by omega, w64 (by omega) (by omega), pGt_v]
        refine pCond_if (fun hc2 => ?_) (fun hc2 => ?_)
        · rw [if_pos (by omega)] at hk
          exact her 20 C2 H3 hk.symm (by decide) o.drop2
        · rw [if_neg (by omega)] at hk
          refine ⟨fun v u H' => ∃ i : Nat, u = i64 i ∧ i ≤ k1 ∧ Owns H0 H' (rdI b post t C2 :: .sl v 1 (numsV (out ++ List.replicate i z)) :: L), fun _ u _ => match u with | .int _ i => (k1 - i).toNat | _ => 0, ⟨0, rfl, by omega, by simpa using o⟩, ?_⟩
          rintro _ v _ H4 ⟨i, rfl, hi, o⟩
          rw [pLt_v]
          refine pCond_if (fun hc3 => ?_) (fun hc3 => ?_)
          · refine o.build1 (by decide) rfl rfl fun y H5 o => ?_
            refine o.app (v := v) (x := y) (by repeat (first | exact Sel.here | apply Sel.there)) (o.sl (by repeat (first | exact List.mem_cons_self | apply List.mem_cons_of_mem))) (by rfl) (by rw [numsV_len, List.length_append, List.length_replicate]; show 2 * (out.length + i + 1) * 8 ≤ _; omega) fun y2 H6 o => ?_
            rw [numsV_snoc, List.append_assoc, ← List.replicate_succ'] at o
            rw [pAdd_v, w64 (by omega) (by omega)]
            exact ⟨⟨i + 1, rfl, by omega, o.drop2.swap⟩, by show (_ : Int).toNat < (_ : Int).toNat; omega⟩
          · have : i = k1 := by omega
            subst this
            have hlv2 := o.lenV1 (v := v) (by repeat (first | exact List.mem_cons_self | apply List.mem_cons_of_mem))
            rw [numsV_len, List.length_append, List.length_replicate] at hlv2
            refine ⟨⟨k, _, C2, hk, by rw [List.length_append, List.length_replicate]; omega, by rw [List.length_append, List.length_replicate]; omega, o⟩, grows_lt hlv hlv2 (by omega) (by omega)⟩
      · simp only [Rs.bind, hr] at hk
        refine pExtract_to rfl ?_
        refine pExtract_to rfl ?_
        refine pExtract_to rfl ?_
        refine ne_er he ?_
        rw [pCond_true]
        exact her e C1 H3 hk.symm he o.drop2
    · rw [hs] at hk
      refine pExtract_to rfl ?_
      refine pExtract_to rfl ?_
      refine ne_er he ?_
      rw [pCond_true]
      exact her e C H2 hk.symm he o.drop2
  · rw [if_pos (by omega)] at hk
    exact hok out C out8 H1 hk.symm (by omega) o
end Go.Proofs.YtpnkoniomalcpaaDoor
