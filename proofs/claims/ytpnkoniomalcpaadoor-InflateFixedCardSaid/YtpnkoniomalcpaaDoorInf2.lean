/- Contracts of package inflate: blocks' beginnings. -/
import Derived.Test.YtpnkoniomalcpaaDoorInf1
namespace Go.Proofs.YtpnkoniomalcpaaDoor
open Go Go.Vc Go.Proofs
set_option linter.unusedVariables false
set_option linter.unusedSimpArgs false
variable {H H0 : Heap} {R : Value → Heap → Prop} {v : Value} {zs : List Int} {ls : List Nat} {B : List Bool} {L : List It} {b : Nat} {post : List Value} {t : TypeId}
def ordV : List Value := orderL.map fun n : Nat => i64 n
abbrev ordN (i : Nat) : Nat := orderL.getD i 0
theorem ordV_get {i : Nat} (h : i < 19) : ordV[i]? = some (i64 (orderL.getD i 0)) := by
  unfold ordV
  rw [List.getElem?_map, List.getElem?_eq_getElem (by exact h), List.getD_eq_getElem?_getD, List.getElem?_eq_getElem (by exact h)]; rfl
theorem orderL_lt : ∀ i : Fin 19, orderL.getD i.val 0 < 19 := by decide
theorem teller_spec {c : Nat} (hG : Reads H0 ⟨0, 0, none⟩ ordV) (hc : c ≤ 19) (o : Owns H0 H (rdI b post t B :: L))
    (hok : ∀ l C H' M p, tellM (orderL.take c) (List.replicate 19 0) B = .ok l C → whyL l false = 0 → HasC M l p → Owns H0 H' (rdI b post t C :: (M ++ L)) → R (.tuple #[p, .int .i64 0]) H')
    (hwhy : ∀ l C H', tellM (orderL.take c) (List.replicate 19 0) B = .ok l C → whyL l false ≠ 0 → Owns H0 H' (rdI b post t C :: L) → R (.tuple #[.pointer none, .int .i64 (whyL l false)]) H')
    (her : ∀ e C H', tellM (orderL.take c) (List.replicate 19 0) B = .er e → e ≠ 0 → Owns H0 H' (rdI b post t C :: L) → R (.tuple #[.pointer none, .int .i64 e]) H') : CallsH Tryd.prog 64 #[at_ b 0, i64 c] H R := by
  generalize hT : tellM (orderL.take c) (List.replicate 19 0) B = T at *
  refine inflate_teller.vc _ _ _ _ ?_
  unfold inflate_teller.res
  refine o.make1 (n := 19) (by decide) (by decide) (by decide) fun y H1 o => ?_
  rw [show (19 : Int).toNat = 19 from rfl, numsV_rep] at o
  rw [pSlArr_v, pBounds_01]
  refine ⟨by omega, by omega, ?_⟩
  rw [Int.toNat_natCast, Nat.sub_zero, if_neg (by decide), add_mk, pLen_v]
  refine ⟨fun u H' => ∃ (i : Nat) (l : List Int) (C : List Bool), u = i64 i ∧ i ≤ c ∧ l.length = 19 ∧ tellM ((orderL.take c).drop i) l C = T ∧ Owns H0 H' (rdI b post t C :: .sl y 1 (numsV l) :: L), fun u _ => match u with | .int _ i => (c - i).toNat | _ => 0, ⟨0, _, B, rfl, by omega, by simp, hT, o.swap⟩, ?_⟩
  rintro _ _ H2 ⟨i, l, C, rfl, hi, hl, hk, o⟩
  rw [pLt_v]
  refine pCond_if (fun hc1 => ?_) (fun hc1 => ?_)
  · have hic : i < c := by omega
    rw [pIdxSl_v]
    refine ⟨by omega, by omega, ?_⟩
    have hcell := (hG.ext o.ext) i _ (ordV_get (by omega))
    rw [add_mk, Nat.zero_add] at hcell
    rw [add_mk, Int.toNat_natCast, show 0 + 0 + i * 1 = i by omega, pLoad_cell hcell]
    have hlt := orderL_lt ⟨i, by omega⟩
    dsimp only at hlt
    have hsp : (orderL.take c).drop i = orderL.getD i 0 :: (orderL.take c).drop (i + 1) := by
      have h1 : i < (orderL.take c).length := by rw [List.length_take]; show i < min c 19; omega
      rw [List.drop_eq_getElem_cons h1, List.getElem_take, List.getD_eq_getElem?_getD, List.getElem?_eq_getElem (by show i < 19; omega)]; rfl
    rw [hsp] at hk
    unfold tellM at hk
    refine need_spec (n := 3) (by decide) o (fun x C1 H3 hx hx8 o => ?_) (fun hx => ?_)
    · refine pExtract_to rfl ?_
      refine pExtract_to rfl ?_
      refine ne_ok ?_
      rw [pCond_false]
      have hll : (numsV l).length = 19 * 1 := by rw [numsV_len, hl]
      refine (o.sl (v := y) (by repeat (first | exact List.mem_cons_self | apply List.mem_cons_of_mem))).at_ hll (by decide) (by omega) (by omega) fun p hp => ?_
      refine o.store hp (by repeat (first | exact List.mem_cons_self | apply List.mem_cons_of_mem)) (by rw [hll]; omega) rfl (by repeat (first | exact Rep.here | apply Rep.there)) fun H4 o _ => ?_
      rw [Int.toNat_natCast, Nat.mul_one, numsV_set] at o
      rw [pAdd_v, w64 (by omega) (by omega)]
      rw [hx] at hk
      exact ⟨⟨i + 1, _, C1, rfl, by omega, by rw [List.length_set, hl], hk, o⟩, by show (_ : Int).toNat < (_ : Int).toNat; omega⟩
    · refine pExtract_to rfl ?_
      refine pExtract_to rfl ?_
      refine ne_er (by decide) ?_
      rw [pCond_true]
      rw [hx] at hk
      exact her 2 C H2 hk.symm (by decide) o.drop2
  · have hic : i = c := by omega
    subst hic
    rw [List.drop_of_length_le (by rw [List.length_take]; omega)] at hk
    refine newO_spec (zs := l) o (o.sl (v := y) (by repeat (first | exact List.mem_cons_self | apply List.mem_cons_of_mem))) (by omega) (fun H3 hw o => ?_) fun H3 M p hw hp o => ?_
    · refine pExtract_to rfl ?_
      refine pExtract_to rfl ?_
      exact hwhy l C H3 hk.symm hw o.drop2
    · refine pExtract_to rfl ?_
      refine pExtract_to rfl ?_
      refine hok l C H3 M p hk.symm hw hp ?_
      exact (o.mid).pick (List.Sublist.cons_cons _ (List.Sublist.append (List.Sublist.refl M) (List.sublist_cons_self _ L)))
theorem dynamic_spec (hG : Reads H0 ⟨0, 0, none⟩ ordV) (o : Owns H0 H (rdI b post t B :: L))
    (hok : ∀ p C H' M x y, dynM B = .ok p C → HasC M p.1 x → HasC M p.2 y → Owns H0 H' (rdI b post t C :: (M ++ L)) → R (.tuple #[x, y, .int .i64 0]) H')
    (her : ∀ e C H' x y, dynM B = .er e → e ≠ 0 → oneCell x = true → oneCell y = true → Owns H0 H' (rdI b post t C :: L) → R (.tuple #[x, y, .int .i64 e]) H') : CallsH Tryd.prog 49 #[at_ b 0] H R := by
  generalize hT : dynM B = T at *
  unfold dynM at hT
  refine inflate_dynamicCodes.vc _ _ _ ?_
  unfold inflate_dynamicCodes.res
  refine need_spec (n := 14) (by decide) o (fun x C1 H1 hx hx14 o => ?_) (fun hx => ?_)
  rotate_left
  · rw [hx] at hT
    refine pExtract_to rfl ?_
    refine pExtract_to rfl ?_
    refine ne_er (by decide) ?_
    rw [pCond_true]
    exact her 2 B H _ _ hT.symm (by decide) rfl rfl o
  rw [hx] at hT
  dsimp only [Rs.bind] at hT
  refine pExtract_to rfl ?_
  refine pExtract_to rfl ?_
  refine ne_ok ?_
  rw [pCond_false, pBits_v, and_i64 (k := 5) (m := 31) (by decide) rfl, show (2 : Nat) ^ 5 = 32 from rfl, pAdd_v, show ((x % 32 : Nat) : Int) + 257 = ((x % 32 + 257 : Nat) : Int) by omega, w64 (by omega) (by omega), pShr_v]
  refine ⟨by decide, ?_⟩
  rw [fdiv_nat (m := min (Int.toNat 5) IntKind.i64.bits) (j := 5) rfl, show (2 : Nat) ^ 5 = 32 from rfl, pBits_v, and_i64 (k := 5) (m := 31) (by decide) rfl, show (2 : Nat) ^ 5 = 32 from rfl, pAdd_v, show ((x / 32 % 32 : Nat) : Int) + 1 = ((x / 32 % 32 + 1 : Nat) : Int) by omega, w64 (by omega) (by omega), pShr_v]
  refine ⟨by decide, ?_⟩
  rw [fdiv_nat (m := min (Int.toNat 10) IntKind.i64.bits) (j := 10) rfl, show (2 : Nat) ^ 10 = 1024 from rfl, pAdd_v, show ((x / 1024 : Nat) : Int) + 4 = ((x / 1024 + 4 : Nat) : Int) by omega, w64 (by omega) (by omega), pGt_v]
  have ha : 257 ≤ x % 32 + 257 := by omega
  have hcc : x / 1024 + 4 ≤ 19 := by omega
  have ha3 : x % 32 + 257 ≤ 288 := by omega
  have hd3 : x / 32 % 32 + 1 ≤ 32 := by omega
  generalize x % 32 + 257 = a at *
  generalize x / 32 % 32 + 1 = d at *
  generalize x / 1024 + 4 = c at *
  refine pOr_if (d := decide ((30 : Int) < (d : Int))) (fun _ => ?_) ?_
  · rw [pGt_v]; exact ⟨rfl, rfl⟩
  intro _
  refine pCond_b (fun hb => ?_) (fun hb => ?_)
  · rw [Bool.or_eq_true, decide_eq_true_eq, decide_eq_true_eq] at hb
    rw [if_pos (by omega)] at hT
    exact her 20 C1 H1 _ _ hT.symm (by decide) rfl rfl o
  rw [Bool.or_eq_false_iff, decide_eq_false_iff_not, decide_eq_false_iff_not] at hb
  rw [if_neg (by omega)] at hT
  have ha2 : a ≤ 286 := by omega
  have hd2 : d ≤ 30 := by omega
  refine teller_spec hG hcc o (fun tl C2 H2 M p ht hw hp o => ?_) (fun tl C2 H2 ht hw o => ?_) (fun e C2 H2 ht he o => ?_)
  rotate_left
  · rw [ht] at hT
    dsimp only [Rs.bind] at hT
    rw [if_pos hw] at hT
    refine pExtract_to rfl ?_
    refine pExtract_to rfl ?_
    refine ne_er hw ?_
    rw [pCond_true]
    exact her _ C2 H2 _ _ hT.symm hw rfl rfl o
  · rw [ht] at hT
    refine pExtract_to rfl ?_
    refine pExtract_to rfl ?_
    refine ne_er he ?_
    rw [pCond_true]
    exact her e C2 H2 _ _ hT.symm he rfl rfl o
  rw [ht] at hT
  dsimp only [Rs.bind] at hT
  rw [if_neg (fun g => g hw)] at hT
  refine pExtract_to rfl ?_
  refine pExtract_to rfl ?_
  refine ne_ok ?_
  rw [pCond_false, pAdd_v, show (a : Int) + (d : Int) = ((a + d : Nat) : Int) by omega, w64 (by omega) (by omega)]
  refine lengths_spec7 (n := a + d) (by omega) hp.appl o (fun l C3 lv H3 hl hll o => ?_) (fun e C3 H3 hl he o => ?_)
  rotate_left
  · rw [hl] at hT
    refine pExtract_to rfl ?_
    refine pExtract_to rfl ?_
    refine ne_er he ?_
    rw [pCond_true]
    exact her e C3 H3 _ _ hT.symm he rfl rfl (o.pick (List.Sublist.cons_cons _ (List.sublist_append_right M L)))
  rw [hl] at hT
  dsimp only [Rs.bind] at hT
  refine pExtract_to rfl ?_
  refine pExtract_to rfl ?_
  refine ne_ok ?_
  rw [pCond_false]
  have hlen : (numsV l).length = (a + d) * 1 := by rw [numsV_len, hll]; omega
  have hS := o.sl (v := lv) (by repeat (first | exact List.mem_cons_self | apply List.mem_cons_of_mem))
  have oL : Owns H0 H3 (rdI b post t C3 :: L) := o.pick (List.Sublist.cons_cons _ (List.Sublist.cons _ (List.sublist_append_right M L)))
  refine hS.at_ (n := a + d) hlen (by decide) (by decide) (by omega) fun p hp => ?_
  refine hp.load hS (w := .int .i64 (l.getD 256 0)) (numsV_getD (by rw [hll]; show 256 < a + d; omega)) ?_
  rw [pEq_0]
  refine pCond_if (fun hc5 => ?_) (fun hc5 => ?_)
  · rw [if_pos hc5] at hT
    exact her 12 C3 H3 _ _ hT.symm (by decide) rfl rfl oL
  rw [if_neg hc5] at hT
  refine hS.cut (by decide) (n := a + d) (lo := 0) (hi := a) hlen (by omega) (by omega) (fun v1 h1 => ?_) (.inr ⟨rfl, rfl⟩) (.inl rfl)
  rw [Nat.zero_mul, List.drop_zero, Nat.sub_zero, Nat.mul_one, numsV_take] at h1
  refine newO_spec (zs := l.take a) o h1 (by rw [List.length_take]; omega) (fun H4 hw1 o => ?_) (fun H4 M1 p1 hw1 hp1 o => ?_)
  · rw [if_pos hw1] at hT
    refine pExtract_to rfl ?_
    refine pExtract_to rfl ?_
    refine ne_er hw1 ?_
    rw [pCond_true]
    exact her _ C3 H4 _ _ hT.symm hw1 rfl rfl (o.pick (List.Sublist.cons_cons _ (List.Sublist.cons _ (List.sublist_append_right M L))))
  rw [if_neg (fun g => g hw1)] at hT
  refine pExtract_to rfl ?_
  refine pExtract_to rfl ?_
  refine ne_ok ?_
  rw [pCond_false]
  have hS4 := o.sl (v := lv) (List.mem_append_right _ (by repeat (first | exact List.mem_cons_self | apply List.mem_cons_of_mem)))
  refine hS4.cut (by decide) (n := a + d) (lo := a) (hi := a + d) hlen (by omega) (by omega) (fun v2 h2 => ?_) (.inl rfl) (.inr ⟨rfl, rfl⟩)
  rw [Nat.mul_one, Nat.mul_one, numsV_drop, List.take_of_length_le (by rw [numsV_len, List.length_drop]; omega)] at h2
  have o := (o.mid).pick (List.Sublist.cons_cons (rdI b post t C3) (List.Sublist.append (List.Sublist.refl M1) (List.Sublist.cons _ (List.sublist_append_right M L))))
  refine newO_spec (zs := l.drop a) o h2 (by rw [List.length_drop]; omega) (fun H5 hw2 o => ?_) (fun H5 M2 p2 hw2 hp2 o => ?_)
  · rw [if_pos hw2] at hT
    refine pExtract_to rfl ?_
    refine pExtract_to rfl ?_
    obtain ⟨-, cb, _, _, _, rfl, -⟩ := hp1
    exact her _ C3 H5 _ _ hT.symm hw2 rfl rfl (o.pick (List.Sublist.cons_cons _ (List.sublist_append_right M1 L)))
  · rw [if_neg (fun g => g hw2)] at hT
    refine pExtract_to rfl ?_
    refine pExtract_to rfl ?_
    refine hok _ C3 H5 (M2 ++ M1) p1 p2 hT.symm hp1.app hp2.appl ?_
    rw [List.append_assoc]
    exact o.mid
end Go.Proofs.YtpnkoniomalcpaaDoor
