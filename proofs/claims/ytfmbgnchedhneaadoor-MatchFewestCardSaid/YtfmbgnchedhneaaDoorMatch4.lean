/- Contracts of package match: Fewest. -/
import Derived.Test.YtfmbgnchedhneaaDoorMatch3
namespace Go.Proofs.YtfmbgnchedhneaaDoor
-- only what is there
open Go Go.Vc Go.Proofs
set_option linter.unusedVariables false
set_option linter.unusedSimpArgs false
variable {H H0 : Heap} {R : Value → Heap → Prop} {v : Value} {L : List It} {T : List UInt8} {fb at_ dp e : Nat}
theorem fewF_fuel : ∀ (c c' i : Nat), T.length - i ≤ c → T.length - i ≤ c' → fewF T c i = fewF T c' i
  | 0, c', i, h1, h2 => by rw [fewF_end (by omega), fewF_end (by omega)]
  | c + 1, 0, i, h1, h2 => by rw [fewF_end (by omega), fewF_end (by omega)]
  | c + 1, c' + 1, i, h1, h2 => by
    by_cases hi : i < T.length
    · by_cases h0 : pickC T (T.length - i) = 1
      · rw [fewF_lit hi h0, fewF_lit hi h0, fewF_fuel c c' (i + 1) (by omega) (by omega)]
      · have := (pick_is hi h0).1
        rw [fewF_mat hi h0, fewF_mat hi h0, fewF_fuel c c' (i + pickC T (T.length - i)) (by omega) (by omega)]
    · rw [fewF_end (by omega), fewF_end (by omega)]
set_option maxHeartbeats 1000000 in
theorem fewestA_spec {A s : List UInt8} (hlen : A.length + s.length ≤ 32000) (h : ∀ H' y L', Owns H H' (.sl y 3 (toksL (fewF (A ++ s) (A ++ s).length A.length)) :: L') → R y H') : CallsH Tryd.prog 22 #[str A, str s] H R := by
  refine match_Fewest.vc _ _ _ _ ?_
  unfold match_Fewest.res
  have hTl : (A ++ s).length = A.length + s.length := List.length_append
  have hgs : ∀ n, n < s.length → (A ++ s).getD (A.length + n) 0 = s.getD n 0 := fun n hn => by
    rw [List.getD_eq_getElem?_getD, List.getD_eq_getElem?_getD, List.getElem?_append_right (by omega), Nat.add_sub_cancel_left]
  have hlast : lastB A = A := by unfold lastB; rw [show A.length - 32768 = 0 by omega, List.drop_zero]
  refine newF8_spec (d := 1073741824) (Owns.start (H := H)) (by omega) (Nat.le_refl _) fun H1 fb f => ?_
  rw [show A.drop (A.length - 32768) = A from hlast] at f
  generalize hTd : A ++ s = T at *
  generalize hN : s.length = N at *
  generalize hM : A.length = M at *
  have hT : T.length ≤ 1000000 := by omega
  refine ⟨fun ls ds H' => ∃ L', FS H H' fb T M 1073741824 M (.sl ls 1 (nat8 (lstN (fun j => (longF T 1073741824 (M + j)).1) 0 N)) :: .sl ds 1 (nat8 (lstN (fun j => (longF T 1073741824 (M + j)).2) 0 N)) :: L'), ?_, ?_⟩
  rotate_left
  · refine pLenS_to ?_
    refine pLenS_to ?_
    rw [hN]
    obtain ⟨r, pv, o⟩ := f
    constructor
    · refine o.make1 (by omega) (by omega) (by omega) fun x H2 o => ?_
      refine o.make1 (by omega) (by omega) (by omega) fun y H3 o => ?_
      rw [Int.toNat_natCast] at o
      have o2 : Owns H H3 (.sl y 1 (nat8 (lstN (fun j => (longF T 1073741824 (M + j)).2) 0 N)) :: .sl x 1 (nat8 (lstN (fun j => (longF T 1073741824 (M + j)).1) 0 N)) :: fIt fb T M r pv 1073741824 :: .thing (map8 r (hdM T M)) :: .sl pv 1 (nat8 (prvL T M)) :: []) := by
        rw [← lstN_zero (fun j => (longF T 1073741824 (M + j)).1), ← lstN_zero (fun j => (longF T 1073741824 (M + j)).2)]
        exact o
      exact ⟨[], r, pv, o2.arr (by repeat (first | exact Sels.nil | exact Sel.here | apply Sels.cons | apply Sel.there))⟩
    · refine o.make1 (by omega) (by omega) (by omega) fun x H2 o => ?_
      refine o.make1 (by omega) (by omega) (by omega) fun y H3 o => ?_
      rw [Int.toNat_natCast] at o
      have o2 : Owns H H3 (.sl y 1 (nat8 (lstN (fun j => (longF T 1073741824 (M + j)).1) 0 N)) :: .sl x 1 (nat8 (lstN (fun j => (longF T 1073741824 (M + j)).2) 0 N)) :: fIt fb T M r pv 1073741824 :: .thing (map8 r (hdM T M)) :: .sl pv 1 (nat8 (prvL T M)) :: []) := by
        rw [← lstN_zero (fun j => (longF T 1073741824 (M + j)).1), ← lstN_zero (fun j => (longF T 1073741824 (M + j)).2)]
        exact o
      exact ⟨[], r, pv, o2.arr (by repeat (first | exact Sels.nil | exact Sel.here | apply Sels.cons | apply Sel.there))⟩
  clear f
  rintro _ ls ds H2 ⟨L', f⟩
  refine pLenS_to ?_
  rw [hN]
  refine ⟨fun i H' => ∃ j : Nat, i = .int .i64 (j : Int) ∧ j ≤ N ∧ FS H H' fb T M 1073741824 (M + j) (.sl ls 1 (nat8 (lstN (fun j => (longF T 1073741824 (M + j)).1) j N)) :: .sl ds 1 (nat8 (lstN (fun j => (longF T 1073741824 (M + j)).2) j N)) :: L'), fun i _ => match i with | .int _ x => N - x.toNat | _ => 0, ⟨0, rfl, by omega, f⟩, ?_⟩
  clear f
  rintro _ _ H3 ⟨j, rfl, hj, f⟩
  rw [pLt_v]
  refine pCond_if (fun hc => ?_) (fun hc => ?_)
  · have hjN : j < N := by omega
    obtain ⟨r, pv, o⟩ := f
    rw [pNil_v, pFieldAddr_v, add_mk]
    refine o.bload (b := fb) (f := 0 + 1) (by repeat (first | exact List.mem_cons_self | apply List.mem_cons_of_mem)) rfl ?_
    rw [pAdd_v, show (M : Int) + (j : Int) = ((M + j : Nat) : Int) by omega, w64 (by omega) (by omega)]
    refine longest8_spec ⟨r, pv, o⟩ hT (by omega) ?_
    refine pExtract_to rfl ?_
    refine pExtract_to rfl ?_
    have hl1 : ∀ f : Nat → Nat, ∀ j, (nat8 (lstN f j N)).length = N * 1 := fun f j => by rw [nat8_len, lstN_len, Nat.mul_one]
    refine (o.sl (v := ls) (by repeat (first | exact List.mem_cons_self | apply List.mem_cons_of_mem))).at_ (hl1 _ _) (by decide) (by omega) (by omega) fun p hp => ?_
    refine o.store hp (by repeat (first | exact List.mem_cons_self | apply List.mem_cons_of_mem)) (by rw [hl1]; omega) rfl (by repeat (first | exact Rep.here | apply Rep.there)) fun H4 o _ => ?_
    rw [Int.toNat_natCast, Nat.mul_one, nat8_set, lstN_set (f := fun j => (longF T 1073741824 (M + j)).1) hjN] at o
    refine (o.sl (v := ds) (by repeat (first | exact List.mem_cons_self | apply List.mem_cons_of_mem))).at_ (hl1 _ _) (by decide) (by omega) (by omega) fun p hp => ?_
    refine o.store hp (by repeat (first | exact List.mem_cons_self | apply List.mem_cons_of_mem)) (by rw [hl1]; omega) rfl (by repeat (first | exact Rep.here | apply Rep.there)) fun H5 o _ => ?_
    rw [Int.toNat_natCast, Nat.mul_one, nat8_set, lstN_set (f := fun j => (longF T 1073741824 (M + j)).2) hjN] at o
    rw [pNil_v, pFieldAddr_v, add_mk]
    refine o.bload (b := fb) (f := 0 + 1) (by repeat (first | exact List.mem_cons_self | apply List.mem_cons_of_mem)) rfl ?_
    rw [pAdd_v, show (M : Int) + (j : Int) = ((M + j : Nat) : Int) by omega, w64 (by omega) (by omega)]
    refine enter8_spec ⟨r, pv, o⟩ hT (by omega) fun H6 f => ?_
    rw [pAdd_v, w64 (n := (j : Int) + 1) (by omega) (by omega)]
    exact ⟨⟨j + 1, rfl, by omega, f⟩, by show N - ((j : Int) + 1).toNat < N - (j : Int).toNat; omega⟩
  have hjN : j = N := by omega
  subst hjN
  obtain ⟨r, pv, o⟩ := f
  have hlens : ∀ i, i < j → (lstN (fun q => (longF T 1073741824 (M + q)).1) j j).getD i 0 = lensM T (j - i) := fun i hi => by
    rw [lstN_get hi]
    unfold lensM lensT
    rw [if_pos (by omega), show T.length - (j - i) = M + i by omega]
  have hdist : ∀ i, i < j → (lstN (fun q => (longF T 1073741824 (M + q)).2) j j).getD i 0 = (longF T 1073741824 (M + i)).2 := fun i hi => lstN_get hi
  have hLL := lstN_len (fun q => (longF T 1073741824 (M + q)).1) j j
  have hDL := lstN_len (fun q => (longF T 1073741824 (M + q)).2) j j
  generalize lstN (fun q => (longF T 1073741824 (M + q)).1) j j = LS at *
  generalize lstN (fun q => (longF T 1073741824 (M + q)).2) j j = DS at *
  have o : Owns H H3 (.sl ls 1 (nat8 LS) :: .sl ds 1 (nat8 DS) :: fIt fb T M r pv 1073741824 :: .thing (map8 r (hdM T (M + j))) :: .sl pv 1 (nat8 (prvL T (M + j))) :: L') := o.arrT (by repeat (first | exact SelsT.refl | exact Sel.here | apply SelsT.cons | apply Sel.there))
  clear hc hj
  have hlle := lensM_le T
  have htk := takeL_get T
  have hpko := pickC_or T
  generalize lensM T = lens at *
  generalize fIt fb T M r pv 1073741824 :: .thing (map8 r (hdM T (M + j))) :: .sl pv 1 (nat8 (prvL T (M + j))) :: L' = L2 at *
  refine pLenS_to ?_
  rw [hN, pAdd_v, show (j : Int) + 1 = ((j + 1 : Nat) : Int) by omega, w64 (by omega) (by omega)]
  refine o.make1 (by omega) (by omega) (by omega) fun bs H4 o => ?_
  rw [Int.toNat_natCast, padL_zero] at o
  refine pLenS_to ?_
  rw [hN, pAdd_v, show (j : Int) + 1 = ((j + 1 : Nat) : Int) by omega, w64 (by omega) (by omega)]
  refine o.make1 (by omega) (by omega) (by omega) fun ts H5 o => ?_
  rw [Int.toNat_natCast, padL_zero] at o
  refine pLenS_to ?_
  rw [hN, pSub_v, w64 (n := (j : Int) - 1) (by omega) (by omega)]
  refine ⟨fun i H' => ∃ c : Nat, i = .int .i64 ((j : Int) - 1 - (c : Int)) ∧ c ≤ j ∧ Owns H H' (.sl ts 1 (nat8 (padL j c (takeL lens c))) :: .sl bs 1 (nat8 (padL j c (bestL lens c))) :: .sl ls 1 (nat8 LS) :: .sl ds 1 (nat8 DS) :: L2), fun i _ => match i with | .int _ x => (x + 1).toNat | _ => 0, ⟨0, congrArg (Value.int .i64) (show (j : Int) - 1 = (j : Int) - 1 - ((0 : Nat) : Int) by omega), by omega, o⟩, ?_⟩
  clear o
  rintro _ _ H6 ⟨c, rfl, hc, o⟩
  have hbl := bestL_len lens c
  have htl := takeL_len lens c
  have hpl := padL_len hc hbl
  have hptl := padL_len hc htl
  rw [pGe_v]
  refine pCond_if (fun hg => ?_) (fun hg => ?_)
  · have hcN : c < j := by omega
    have hi : (j : Int) - 1 - (c : Int) = ((j - (c + 1) : Nat) : Int) := by omega
    rw [hi, pAdd_v, show ((j - (c + 1) : Nat) : Int) + 1 = ((j - c : Nat) : Int) by omega, w64 (by omega) (by omega)]
    refine nat_at (o.sl (v := bs) (by repeat (first | exact List.mem_cons_self | apply List.mem_cons_of_mem))) hpl (by omega) (by omega) ?_
    rw [padL_get hc (by omega), Nat.sub_self]
    have hb0 := bestL_bound lens hlle c 0
    rw [pAdd_v, show (((bestL lens c).getD 0 0 : Nat) : Int) + 1 = (((bestL lens c).getD 0 0 + 1 : Nat) : Int) by omega, w64 (by omega) (by omega)]
    have hp1 : (nat8 (padL j c (bestL lens c))).length = (j + 1) * 1 := by rw [nat8_len, hpl, Nat.mul_one]
    have hp2 : (nat8 (padL j c (takeL lens c))).length = (j + 1) * 1 := by rw [nat8_len, hptl, Nat.mul_one]
    refine (o.sl (v := bs) (by repeat (first | exact List.mem_cons_self | apply List.mem_cons_of_mem))).at_ hp1 (by decide) (by omega) (by omega) fun p hp => ?_
    refine o.store hp (by repeat (first | exact List.mem_cons_self | apply List.mem_cons_of_mem)) (by rw [hp1]; omega) rfl (by repeat (first | exact Rep.here | apply Rep.there)) fun H7 o _ => ?_
    rw [Int.toNat_natCast, Nat.mul_one, nat8_set, padL_set hcN] at o
    refine (o.sl (v := ts) (by repeat (first | exact List.mem_cons_self | apply List.mem_cons_of_mem))).at_ hp2 (by decide) (by omega) (by omega) fun p hp => ?_
    refine o.store hp (by repeat (first | exact List.mem_cons_self | apply List.mem_cons_of_mem)) (by rw [hp2]; omega) rfl (by repeat (first | exact Rep.here | apply Rep.there)) fun H8 o _ => ?_
    have o : Owns H H8 (.sl ts 1 ((nat8 (padL j c (takeL lens c))).set (((j - (c + 1) : Nat) : Int).toNat * 1) (.int .i64 ((1 : Nat) : Int))) :: .sl bs 1 (nat8 (padL j (c + 1) (((bestL lens c).getD 0 0 + 1) :: bestL lens c))) :: .sl ls 1 (nat8 LS) :: .sl ds 1 (nat8 DS) :: L2) := o
    rw [Int.toNat_natCast, Nat.mul_one, nat8_set, padL_set hcN] at o
    have hlc := hlle (c + 1)
    generalize hgd : (fun n => (bestL lens c).getD (n - 1) 0) = g at *
    have hg1 : (bestL lens c).getD 0 0 = g 1 := by rw [← hgd]
    have hgb : ∀ n, g n ≤ c := fun n => by rw [← hgd]; exact bestL_bound lens hlle c (n - 1)
    rw [hg1] at o
    refine ⟨fun k H' => ∃ m : Nat, k = .int .i64 ((m + 1 : Nat) : Int) ∧ 2 ≤ m ∧ (m ≤ lens (c + 1) ∨ m = 2) ∧ Owns H H' (.sl ts 1 (nat8 (padL j (c + 1) ((foldB g m).2 :: takeL lens c))) :: .sl bs 1 (nat8 (padL j (c + 1) ((foldB g m).1 :: bestL lens c))) :: .sl ls 1 (nat8 LS) :: .sl ds 1 (nat8 DS) :: L2), fun k _ => match k with | .int _ x => j + 10 - x.toNat | _ => 0, ⟨2, rfl, by omega, .inr rfl, by rw [foldB_two]; exact o⟩, ?_⟩
    clear o
    rintro _ _ H9 ⟨m, rfl, hm2, hmor, o⟩
    have hpl2 : (padL j (c + 1) ((foldB g m).1 :: bestL lens c)).length = j + 1 := padL_len (by omega) (by rw [List.length_cons, hbl])
    have hptl2 : (padL j (c + 1) ((foldB g m).2 :: takeL lens c)).length = j + 1 := padL_len (by omega) (by rw [List.length_cons, htl])
    have hfb := foldB_bound (g := g) m
    have hg1b := hgb 1
    refine nat_at (o.sl (v := ls) (by repeat (first | exact List.mem_cons_self | apply List.mem_cons_of_mem))) hLL (by omega) (by omega) ?_
    rw [hlens _ (by omega), show j - (j - (c + 1)) = c + 1 by omega, pLe_v]
    refine pCond_if (fun hk => ?_) (fun hk => ?_)
    · have hgm := hgb (m + 1)
      have hld : (padL j (c + 1) ((foldB g m).1 :: bestL lens c)).getD (j - (c + 1) + (m + 1)) 0 = g (m + 1) := by
        rw [padL_get (by omega) (by omega), show j - (c + 1) + (m + 1) - (j - (c + 1)) = m + 1 by omega, List.getD_cons_succ, ← hgd]
        rfl
      have hl0 : (padL j (c + 1) ((foldB g m).1 :: bestL lens c)).getD (j - (c + 1)) 0 = (foldB g m).1 := by
        rw [padL_get (by omega) (by omega), Nat.sub_self]; rfl
      have hadd : ((j - (c + 1) : Nat) : Int) + ((m + 1 : Nat) : Int) = ((j - (c + 1) + (m + 1) : Nat) : Int) := by omega
      refine ⟨fun H' => Owns H H' (.sl ts 1 (nat8 (padL j (c + 1) ((foldB g (m + 1)).2 :: takeL lens c))) :: .sl bs 1 (nat8 (padL j (c + 1) ((foldB g (m + 1)).1 :: bestL lens c))) :: .sl ls 1 (nat8 LS) :: .sl ds 1 (nat8 DS) :: L2), ?_, ?_⟩
      · intro _ H10 o
        rw [pAdd_v, show ((m + 1 : Nat) : Int) + 1 = ((m + 1 + 1 : Nat) : Int) by omega, w64 (by omega) (by omega)]
        exact ⟨⟨m + 1, rfl, by omega, .inl (by omega), o⟩, by show j + 10 - ((m + 1 + 1 : Nat) : Int).toNat < j + 10 - ((m + 1 : Nat) : Int).toNat; omega⟩
      rw [pAdd_v, hadd, w64 (by omega) (by omega)]
      refine nat_at (o.sl (v := bs) (by repeat (first | exact List.mem_cons_self | apply List.mem_cons_of_mem))) hpl2 (by omega) (by omega) ?_
      rw [hld, pAdd_v, show ((g (m + 1) : Nat) : Int) + 1 = ((g (m + 1) + 1 : Nat) : Int) by omega, w64 (by omega) (by omega)]
      refine nat_at (o.sl (v := bs) (by repeat (first | exact List.mem_cons_self | apply List.mem_cons_of_mem))) hpl2 (by omega) (by omega) ?_
      rw [hl0, pLt_v]
      refine pCond_if (fun hlt => ?_) (fun hlt => ?_)
      · rw [pAdd_v, hadd, w64 (by omega) (by omega)]
        refine nat_at (o.sl (v := bs) (by repeat (first | exact List.mem_cons_self | apply List.mem_cons_of_mem))) hpl2 (by omega) (by omega) ?_
        rw [hld, pAdd_v, show ((g (m + 1) : Nat) : Int) + 1 = ((g (m + 1) + 1 : Nat) : Int) by omega, w64 (by omega) (by omega)]
        have hp3 : (nat8 (padL j (c + 1) ((foldB g m).1 :: bestL lens c))).length = (j + 1) * 1 := by rw [nat8_len, hpl2, Nat.mul_one]
        have hp4 : (nat8 (padL j (c + 1) ((foldB g m).2 :: takeL lens c))).length = (j + 1) * 1 := by rw [nat8_len, hptl2, Nat.mul_one]
        refine (o.sl (v := bs) (by repeat (first | exact List.mem_cons_self | apply List.mem_cons_of_mem))).at_ hp3 (by decide) (by omega) (by omega) fun p hp => ?_
        refine o.store hp (by repeat (first | exact List.mem_cons_self | apply List.mem_cons_of_mem)) (by rw [hp3]; omega) rfl (by repeat (first | exact Rep.here | apply Rep.there)) fun H10 o _ => ?_
        rw [Int.toNat_natCast, Nat.mul_one, nat8_set, padL_set0 hcN] at o
        refine (o.sl (v := ts) (by repeat (first | exact List.mem_cons_self | apply List.mem_cons_of_mem))).at_ hp4 (by decide) (by omega) (by omega) fun p hp => ?_
        refine o.store hp (by repeat (first | exact List.mem_cons_self | apply List.mem_cons_of_mem)) (by rw [hp4]; omega) rfl (by repeat (first | exact Rep.here | apply Rep.there)) fun H11 o _ => ?_
        rw [Int.toNat_natCast, Nat.mul_one, nat8_set, padL_set0 hcN] at o
        show Owns H H11 (.sl ts 1 (nat8 (padL j (c + 1) ((foldB g (m + 1)).2 :: takeL lens c))) :: .sl bs 1 (nat8 (padL j (c + 1) ((foldB g (m + 1)).1 :: bestL lens c))) :: .sl ls 1 (nat8 LS) :: .sl ds 1 (nat8 DS) :: L2)
        rw [foldB_up (by omega) (by omega)]
        exact o
      · show Owns H H9 (.sl ts 1 (nat8 (padL j (c + 1) ((foldB g (m + 1)).2 :: takeL lens c))) :: .sl bs 1 (nat8 (padL j (c + 1) ((foldB g (m + 1)).1 :: bestL lens c))) :: .sl ls 1 (nat8 LS) :: .sl ds 1 (nat8 DS) :: L2)
        rw [foldB_stay (by omega)]
        exact o
    · have hfin : foldB g m = foldB g (lens (c + 1)) := by
        by_cases h2 : lens (c + 1) ≤ 2
        · rw [foldB_small h2, show m = 2 by omega]
        · rw [show m = lens (c + 1) by omega]
      rw [hfin, ← hgd] at o
      rw [pSub_v, w64 (by omega) (by omega)]
      exact ⟨⟨c + 1, congrArg (Value.int .i64) (show ((j - (c + 1) : Nat) : Int) - 1 = (j : Int) - 1 - ((c + 1 : Nat) : Int) by omega), by omega, o⟩, by show (((j - (c + 1) : Nat) : Int) - 1 + 1).toNat < (((j - (c + 1) : Nat) : Int) + 1).toNat; omega⟩
  · have hcN : c = j := by omega
    subst hcN
    rw [padL_full, padL_full] at o
    have htake : ∀ i, i < c → (takeL lens c).getD i 0 = pickC T (c - i) := fun i hi => htk c i hi
    generalize takeL lens c = TS at *
    generalize bestL lens c = BS at *
    have o := nil8 3 (by decide) o
    refine ⟨fun out i H' => ∃ (k : Nat) (pre : List Tok) (L3 : List It), i = .int .i64 (k : Int) ∧ k ≤ c ∧ Owns H H' (.sl out 3 (toksL pre) :: .sl ts 1 (nat8 TS) :: .sl ds 1 (nat8 DS) :: L3) ∧ pre ++ fewF T T.length (M + k) = fewF T T.length M ∧ pre.length ≤ k, fun _ i _ => match i with | .int _ x => c - x.toNat | _ => 0, ⟨0, [], .sl bs 1 (nat8 BS) :: .sl ls 1 (nat8 LS) :: L2, rfl, by omega, o.arrT (by repeat (first | exact SelsT.refl | exact Sel.here | apply SelsT.cons | apply Sel.there)), rfl, by simp⟩, ?_⟩
    clear o
    rintro _ out _ H7 ⟨k, pre, L3, rfl, hk, o, hpre, hpl3⟩
    refine pLenS_to ?_
    rw [hN, pLt_v]
    refine pCond_if (fun hc2 => ?_) (fun hc2 => ?_)
    · have hkc : k < c := by omega
      have hiT : M + k < T.length := by omega
      have hplen : (toksL pre).length = pre.length * 3 := toksL_len pre
      have hpk : pickC T (T.length - (M + k)) = pickC T (c - k) := by rw [show T.length - (M + k) = c - k by omega]
      have hpk1 : 1 ≤ pickC T (c - k) ∧ k + pickC T (c - k) ≤ c := by
        rcases hpko (c - k) with g | g
        · omega
        · have := hlle (c - k); omega
      refine ⟨fun out' H' => ∃ (t : Tok) (L3 : List It), Owns H H' (.sl out' 3 (toksL (pre ++ [t])) :: .sl ts 1 (nat8 TS) :: .sl ds 1 (nat8 DS) :: L3) ∧ fewF T T.length (M + k) = t :: fewF T T.length (M + (k + pickC T (c - k))), ?_, ?_⟩
      · clear o
        rintro _ out2 H8 ⟨t, L3, o, hft⟩
        refine nat_at (o.sl (v := ts) (by repeat (first | exact List.mem_cons_self | apply List.mem_cons_of_mem))) htl (by omega) (by omega) ?_
        rw [htake k hkc, pAdd_v, show (k : Int) + (pickC T (c - k) : Int) = ((k + pickC T (c - k) : Nat) : Int) by omega, w64 (by omega) (by omega)]
        refine ⟨⟨k + pickC T (c - k), pre ++ [t], L3, rfl, by omega, o, ?_, by rw [List.length_append]; show pre.length + 1 ≤ _; omega⟩, by show c - ((k + pickC T (c - k) : Nat) : Int).toNat < c - (k : Int).toNat; omega⟩
        rw [← hpre, hft, List.append_assoc]; rfl
      · refine nat_at (o.sl (v := ts) (by repeat (first | exact List.mem_cons_self | apply List.mem_cons_of_mem))) htl (by omega) (by omega) ?_
        rw [htake k hkc, pEq_0]
        refine pCond_if (fun h1 => ?_) (fun h1 => ?_)
        · have h1 : pickC T (c - k) = 1 := by omega
          rw [pIdxStr_v]
          refine ⟨by omega, by rw [bys_mk]; omega, ?_⟩
          rw [bys_mk, Int.toNat_natCast]
          refine pBuild_one rfl (by decide) ?_
          rw [pBuild_n]
          refine o.build1 (sz := 3) (by decide) rfl rfl fun y H8 o => ?_
          have o : Owns H H8 (.sl y 3 (litT (s.getD k 0)).cells :: .sl out 3 (toksL pre) :: .sl ts 1 (nat8 TS) :: .sl ds 1 (nat8 DS) :: L3) := o
          refine o.append (v := out) (n := pre.length) (m := 1) (by repeat (first | exact Sel.here | apply Sel.there)) rfl (o.sl (v := y) (by repeat (first | exact List.mem_cons_self | apply List.mem_cons_of_mem))) hplen rfl rfl (by omega) fun y2 H9 o => ?_
          rw [← toksL_snoc] at o
          refine ⟨litT (s.getD k 0), _, o.arrT (by repeat (first | exact SelsT.refl | exact Sel.here | apply SelsT.cons | apply Sel.there)), ?_⟩
          rw [fewF_fuel T.length ((T.length - 1) + 1) (M + k) (by omega) (by omega), fewF_lit hiT (by rw [hpk]; exact h1), fewF_fuel (T.length - 1) T.length _ (by omega) (by omega), hgs k (by omega), h1]
          rfl
        · have h1 : pickC T (c - k) ≠ 1 := by omega
          refine nat_at (o.sl (v := ts) (by repeat (first | exact List.mem_cons_self | apply List.mem_cons_of_mem))) htl (by omega) (by omega) ?_
          rw [htake k hkc]
          refine nat_at (o.sl (v := ds) (by repeat (first | exact List.mem_cons_self | apply List.mem_cons_of_mem))) hDL (by omega) (by omega) ?_
          rw [hdist k hkc]
          refine pBuild_one rfl (by decide) ?_
          refine pBuild_one rfl (by simp) ?_
          rw [pBuild_n]
          refine o.build1 (sz := 3) (by decide) rfl rfl fun y H8 o => ?_
          have o : Owns H H8 (.sl y 3 (matT (pickC T (c - k)) (longF T 1073741824 (M + k)).2).cells :: .sl out 3 (toksL pre) :: .sl ts 1 (nat8 TS) :: .sl ds 1 (nat8 DS) :: L3) := o
          refine o.append (v := out) (n := pre.length) (m := 1) (by repeat (first | exact Sel.here | apply Sel.there)) rfl (o.sl (v := y) (by repeat (first | exact List.mem_cons_self | apply List.mem_cons_of_mem))) hplen rfl rfl (by omega) fun y2 H9 o => ?_
          rw [← toksL_snoc] at o
          refine ⟨matT (pickC T (c - k)) (longF T 1073741824 (M + k)).2, _, o.arrT (by repeat (first | exact SelsT.refl | exact Sel.here | apply SelsT.cons | apply Sel.there)), ?_⟩
          rw [fewF_fuel T.length ((T.length - 1) + 1) (M + k) (by omega) (by omega), fewF_mat hiT (by rw [hpk]; exact h1), hpk, fewF_fuel (T.length - 1) T.length _ (by omega) (by omega), Nat.add_assoc]
    · have hkc : k = c := by omega
      rw [hkc, fewF_end (by omega), List.append_nil] at hpre
      rw [← hpre] at h
      exact h H7 out _ o
end Go.Proofs.YtfmbgnchedhneaaDoor
