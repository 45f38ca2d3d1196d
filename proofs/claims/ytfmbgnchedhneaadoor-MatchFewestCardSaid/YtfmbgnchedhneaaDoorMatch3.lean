/- Contracts of package match: the fewest tokens. -/
import Derived.Test.YtfmbgnchedhneaaDoorMatch2
namespace Go.Proofs.YtfmbgnchedhneaaDoor
-- only what is there
open Go Go.Vc Go.Proofs
set_option linter.unusedVariables false
set_option linter.unusedSimpArgs false
variable {H H0 : Heap} {R : Value → Heap → Prop} {v : Value} {L : List It} {T : List UInt8} {fb at_ dp e : Nat}
def lstN (f : Nat → Nat) (i N : Nat) : List Nat := (List.range N).map fun j => if j < i then f j else 0
theorem lstN_len (f : Nat → Nat) (i N : Nat) : (lstN f i N).length = N := by simp [lstN]
theorem lstN_zero (f : Nat → Nat) (N : Nat) : List.replicate N (Value.int .i64 0) = nat8 (lstN f 0 N) := by
  unfold nat8 lstN
  rw [List.map_map]
  apply List.ext_getElem?
  intro i
  rw [List.getElem?_replicate, List.getElem?_map]
  by_cases hi : i < N
  · rw [if_pos hi, List.getElem?_range hi]
    show _ = some (Value.int .i64 (((if i < 0 then f i else 0) : Nat) : Int))
    rw [if_neg (by omega)]; rfl
  · rw [if_neg hi, List.getElem?_eq_none (by rw [List.length_range]; omega)]; rfl
theorem lstN_set {f : Nat → Nat} {i N : Nat} (h : i < N) : (lstN f i N).set i (f i) = lstN f (i + 1) N := by
  apply List.ext_getElem?
  intro j
  rw [List.getElem?_set, lstN_len]
  unfold lstN
  by_cases hj : i = j
  · subst hj
    rw [if_pos rfl, if_pos h, List.getElem?_map, List.getElem?_range h]
    show _ = some (if i < i + 1 then f i else 0)
    rw [if_pos (by omega)]
  · rw [if_neg hj]
    by_cases hl : j < N
    · rw [List.getElem?_map, List.getElem?_map, List.getElem?_range hl]
      show some (if j < i then f j else 0) = some (if j < i + 1 then f j else 0)
      have hiff : (j < i) ↔ (j < i + 1) := by omega
      simp only [hiff]
    · rw [List.getElem?_eq_none (by simp; omega), List.getElem?_eq_none (by simp; omega)]
theorem lstN_get {f : Nat → Nat} {j N : Nat} (h : j < N) : (lstN f N N).getD j 0 = f j := by
  unfold lstN
  rw [List.getD_eq_getElem?_getD, List.getElem?_map, List.getElem?_range h]
  show (if j < N then f j else 0) = _
  rw [if_pos h]
theorem bestL_len (lens : Nat → Nat) : ∀ c, (bestL lens c).length = c + 1
  | 0 => rfl
  | c + 1 => by
    show (bestL lens c).length + 1 = _
    rw [bestL_len lens c]
/-- the places' numbers, of which the last ones are known -/
def padL (N c : Nat) (l : List Nat) : List Nat := List.replicate (N - c) 0 ++ l
theorem padL_len {N c : Nat} {l : List Nat} (h : c ≤ N) (hl : l.length = c + 1) : (padL N c l).length = N + 1 := by
  unfold padL
  rw [List.length_append, List.length_replicate, hl]; omega
theorem padL_get {N c j : Nat} {l : List Nat} (h : c ≤ N) (hj : N - c ≤ j) : (padL N c l).getD j 0 = l.getD (j - (N - c)) 0 := by
  unfold padL
  rw [List.getD_eq_getElem?_getD, List.getElem?_append_right (by rw [List.length_replicate]; omega), List.length_replicate, ← List.getD_eq_getElem?_getD]
theorem padL_set {N c x : Nat} {l : List Nat} (h : c < N) : (padL N c l).set (N - (c + 1)) x = padL N (c + 1) (x :: l) := by
  unfold padL
  obtain ⟨m, hm⟩ : ∃ m, N - c = m + 1 := ⟨N - c - 1, by omega⟩
  rw [hm, show N - (c + 1) = m by omega, List.set_append_left _ _ (by rw [List.length_replicate]; omega), List.replicate_succ', List.set_append_right _ _ (by rw [List.length_replicate]; omega), List.length_replicate, Nat.sub_self, List.set_cons_zero, List.append_assoc]
  rfl
theorem padL_set0 {N c x y : Nat} {l : List Nat} (h : c < N) : (padL N (c + 1) (y :: l)).set (N - (c + 1)) x = padL N (c + 1) (x :: l) := by
  unfold padL
  rw [List.set_append_right _ _ (by rw [List.length_replicate]; omega), List.length_replicate, Nat.sub_self, List.set_cons_zero]
theorem padL_zero (N : Nat) : List.replicate (N + 1) (Value.int .i64 0) = nat8 (padL N 0 [0]) := by
  unfold nat8 padL
  rw [Nat.sub_zero, ← List.replicate_succ', List.map_replicate]; rfl
theorem padL_full (N : Nat) (l : List Nat) : padL N N l = l := by
  unfold padL
  rw [Nat.sub_self]; rfl
/-- which are taken -/
def takeL (lens : Nat → Nat) : Nat → List Nat
  | 0 => [0]
  | c + 1 => (foldB (fun n => (bestL lens c).getD (n - 1) 0) (lens (c + 1))).2 :: takeL lens c
theorem takeL_len (lens : Nat → Nat) : ∀ c, (takeL lens c).length = c + 1
  | 0 => rfl
  | c + 1 => by
    show (takeL lens c).length + 1 = _
    rw [takeL_len lens c]
theorem takeL_get (T : List UInt8) : ∀ c j, j < c → (takeL (lensM T) c).getD j 0 = pickC T (c - j)
  | 0, j, h => by omega
  | c + 1, 0, _ => by
    show (foldB (fun n => (bestL (lensM T) c).getD (n - 1) 0) (lensM T (c + 1))).2 = pickC T (c + 1)
    unfold pickC
    have hle := lensM_le T (c + 1)
    rw [foldB_congr (lensM T (c + 1)) (g' := fun n => bestC (lensM T) (c + 1 - n)) rfl (fun n h3 h4 => by
      show (bestL (lensM T) c).getD (n - 1) 0 = bestC (lensM T) (c + 1 - n)
      rw [bestL_get (lensM T) c (n - 1) (by omega), show c - (n - 1) = c + 1 - n by omega])]
  | c + 1, j + 1, h => by
    show ((_ :: takeL (lensM T) c) : List Nat).getD (j + 1) 0 = _
    rw [List.getD_cons_succ, takeL_get T c j (by omega), show c + 1 - (j + 1) = c - j by omega]
theorem foldB_two (g : Nat → Nat) : foldB g 2 = (g 1 + 1, 1) := by
  show (if 3 ≤ 1 + 1 ∧ g (1 + 1) + 1 < (foldB g 1).1 then _ else foldB g 1) = _
  rw [if_neg (fun h => absurd h.1 (by decide))]
  show (if 3 ≤ 0 + 1 ∧ g (0 + 1) + 1 < (foldB g 0).1 then _ else foldB g 0) = _
  rw [if_neg (fun h => absurd h.1 (by decide))]
  rfl
theorem foldB_up {g : Nat → Nat} {m : Nat} (h : 3 ≤ m + 1) (hl : g (m + 1) + 1 < (foldB g m).1) : foldB g (m + 1) = (g (m + 1) + 1, m + 1) := by
  show (if 3 ≤ m + 1 ∧ g (m + 1) + 1 < (foldB g m).1 then _ else _) = _
  rw [if_pos ⟨h, hl⟩]
theorem foldB_stay {g : Nat → Nat} {m : Nat} (hl : ¬ g (m + 1) + 1 < (foldB g m).1) : foldB g (m + 1) = foldB g m := by
  show (if 3 ≤ m + 1 ∧ g (m + 1) + 1 < (foldB g m).1 then _ else _) = _
  rw [if_neg (fun h => hl h.2)]
theorem foldB_small {g : Nat → Nat} : ∀ {m : Nat}, m ≤ 2 → foldB g m = foldB g 2
  | 0, _ => (foldB_two g).symm
  | 1, _ => by
    rw [foldB_two]
    show (if 3 ≤ 0 + 1 ∧ g (0 + 1) + 1 < (foldB g 0).1 then _ else foldB g 0) = _
    rw [if_neg (fun h => absurd h.1 (by decide))]
    rfl
  | 2, _ => rfl
theorem foldB_bound {g : Nat → Nat} (m : Nat) : (foldB g m).1 ≤ g 1 + 1 := (foldB_le g m).1
theorem bestL_bound (lens : Nat → Nat) (hl : ∀ c, lens c ≤ c) (c j : Nat) : (bestL lens c).getD j 0 ≤ c := by
  by_cases hj : j ≤ c
  · rw [bestL_get lens c j hj]
    have := bestC_le lens hl (c - j)
    omega
  · rw [List.getD_eq_getElem?_getD, List.getElem?_eq_none (by rw [bestL_len]; omega)]
    exact Nat.zero_le _
theorem nat_at {l : List Nat} {y : Value} {i n : Nat} {K : Value → Prop} (hS : Sl H y 1 (nat8 l)) (hn : l.length = n) (hi : i < n) (hmax : n ≤ 1000000) (hk : K (.int .i64 ((l.getD i 0 : Nat) : Int))) : pIdxSl 1 y (.int .i64 (i : Int)) fun p => pLoad H p K := by
  refine hS.at_ (n := n) (by rw [nat8_len, hn, Nat.mul_one]) (by decide) (by omega) (by omega) fun p hp => ?_
  exact hp.load hS (by rw [Int.toNat_natCast, Nat.mul_one]; exact nat8_get (by omega)) hk
theorem refFew_spec {A s : List UInt8} (hlen : A.length + s.length ≤ 32000) (h : ∀ H', Ext H H' → R (.int .i64 (bestC (lensM (A ++ s)) s.length : Int)) H') : CallsH Tryd.prog 23 #[str A, str s] H R := by
  refine lighterref08_Fewest.vc _ _ _ _ ?_
  unfold lighterref08_Fewest.res
  have hTl : (A ++ s).length = A.length + s.length := List.length_append
  have hlens : ∀ i, i < s.length → (refLong (A ++ s) (A.length + i)).1 = lensM (A ++ s) (s.length - i) := fun i hi => by
    unfold lensM lensT
    rw [if_pos (by omega), show (A ++ s).length - (s.length - i) = A.length + i by omega, longF_ref (by omega)]
  have hlle := lensM_le (A ++ s)
  have hsplit : ∀ i, i ≤ s.length → (A ++ s.take i) ++ s.drop i = A ++ s := fun i hi => by rw [List.append_assoc, List.take_append_drop]
  generalize lensM (A ++ s) = lens at *
  generalize hN : s.length = N at *
  refine pLenS_to ?_
  rw [hN, pAdd_v, show (N : Int) + 1 = ((N + 1 : Nat) : Int) by omega, w64 (by omega) (by omega)]
  refine (Owns.start (H := H)).make1 (by omega) (by omega) (by omega) fun y H1 o => ?_
  rw [Int.toNat_natCast, padL_zero] at o
  refine pLenS_to ?_
  rw [hN, pSub_v, w64 (n := (N : Int) - 1) (by omega) (by omega)]
  refine ⟨fun i H' => ∃ c : Nat, i = .int .i64 ((N : Int) - 1 - (c : Int)) ∧ c ≤ N ∧ Owns H H' [.sl y 1 (nat8 (padL N c (bestL lens c)))], fun i _ => match i with | .int _ x => (x + 1).toNat | _ => 0, ⟨0, by congr 1; omega, by omega, o⟩, ?_⟩
  clear o
  rintro _ _ H2 ⟨c, rfl, hc, o⟩
  have hbl := bestL_len lens c
  have hpl := padL_len hc hbl
  rw [pGe_v]
  refine pCond_if (fun hg => ?_) (fun hg => ?_)
  · have hcN : c < N := by omega
    have hi : (N : Int) - 1 - (c : Int) = ((N - (c + 1) : Nat) : Int) := by omega
    rw [hi, pAdd_v, show ((N - (c + 1) : Nat) : Int) + 1 = ((N - c : Nat) : Int) by omega, w64 (by omega) (by omega)]
    refine nat_at (o.sl (v := y) (by repeat (first | exact List.mem_cons_self | apply List.mem_cons_of_mem))) hpl (by omega) (by omega) ?_
    rw [padL_get hc (by omega), Nat.sub_self]
    have hb0 := bestL_bound lens hlle c 0
    rw [pAdd_v, show (((bestL lens c).getD 0 0 : Nat) : Int) + 1 = (((bestL lens c).getD 0 0 + 1 : Nat) : Int) by omega, w64 (by omega) (by omega)]
    have hp1 : (nat8 (padL N c (bestL lens c))).length = (N + 1) * 1 := by rw [nat8_len, hpl, Nat.mul_one]
    refine (o.sl (v := y) (by repeat (first | exact List.mem_cons_self | apply List.mem_cons_of_mem))).at_ hp1 (by decide) (by omega) (by omega) fun p hp => ?_
    refine o.store hp (by repeat (first | exact List.mem_cons_self | apply List.mem_cons_of_mem)) (by rw [hp1]; omega) rfl (by repeat (first | exact Rep.here | apply Rep.there)) fun H3 o _ => ?_
    rw [Int.toNat_natCast, Nat.mul_one, nat8_set, padL_set hcN] at o
    refine pSlStr_to (lo := 0) (hi := N - (c + 1)) (.inr ⟨rfl, rfl⟩) (.inl rfl) (by omega) (by omega) ?_
    rw [List.drop_zero, Nat.sub_zero]
    refine pAdd_str (by rw [List.length_take]; omega) ?_
    refine pSlStr_to (lo := N - (c + 1)) (hi := s.length) (.inl rfl) (.inr ⟨rfl, rfl⟩) (by omega) (by omega) ?_
    rw [List.take_of_length_le (l := s.drop (N - (c + 1))) (by rw [List.length_drop]; exact Nat.le_refl _)]
    refine refLong_spec (by rw [List.length_append, List.length_take, List.length_drop]; omega) ?_
    refine pExtract_to rfl ?_
    refine pExtract_to rfl ?_
    rw [hsplit _ (by omega), List.length_append, List.length_take, hN, show min (N - (c + 1)) N = N - (c + 1) by omega, hlens _ (by omega), show N - (N - (c + 1)) = c + 1 by omega]
    have hlc := hlle (c + 1)
    generalize hgd : (fun n => (bestL lens c).getD (n - 1) 0) = g at *
    have hg1 : (bestL lens c).getD 0 0 = g 1 := by rw [← hgd]
    have hgb : ∀ n, g n ≤ c := fun n => by rw [← hgd]; exact bestL_bound lens hlle c (n - 1)
    rw [hg1] at o
    refine ⟨fun k H' => ∃ m : Nat, k = .int .i64 ((m + 1 : Nat) : Int) ∧ 2 ≤ m ∧ (m ≤ lens (c + 1) ∨ m = 2) ∧ Owns H H' [.sl y 1 (nat8 (padL N (c + 1) ((foldB g m).1 :: bestL lens c)))], fun k _ => match k with | .int _ x => N + 10 - x.toNat | _ => 0, ⟨2, rfl, by omega, .inr rfl, by rw [foldB_two]; exact o⟩, ?_⟩
    clear o
    rintro _ _ H4 ⟨m, rfl, hm2, hmor, o⟩
    have hpl2 : (padL N (c + 1) ((foldB g m).1 :: bestL lens c)).length = N + 1 := padL_len (by omega) (by rw [List.length_cons, hbl])
    have hfb := foldB_bound (g := g) m
    have hg1b := hgb 1
    rw [pLe_v]
    refine pCond_if (fun hk => ?_) (fun hk => ?_)
    · have hgm := hgb (m + 1)
      have hld : (padL N (c + 1) ((foldB g m).1 :: bestL lens c)).getD (N - (c + 1) + (m + 1)) 0 = g (m + 1) := by
        rw [padL_get (by omega) (by omega), show N - (c + 1) + (m + 1) - (N - (c + 1)) = m + 1 by omega, List.getD_cons_succ, ← hgd]
        rfl
      have hl0 : (padL N (c + 1) ((foldB g m).1 :: bestL lens c)).getD (N - (c + 1)) 0 = (foldB g m).1 := by
        rw [padL_get (by omega) (by omega), Nat.sub_self]; rfl
      have hadd : ((N - (c + 1) : Nat) : Int) + ((m + 1 : Nat) : Int) = ((N - (c + 1) + (m + 1) : Nat) : Int) := by omega
      refine ⟨fun H' => Owns H H' [.sl y 1 (nat8 (padL N (c + 1) ((foldB g (m + 1)).1 :: bestL lens c)))], ?_, ?_⟩
      · intro _ H5 o
        rw [pAdd_v, show ((m + 1 : Nat) : Int) + 1 = ((m + 1 + 1 : Nat) : Int) by omega, w64 (by omega) (by omega)]
        exact ⟨⟨m + 1, rfl, by omega, .inl (by omega), o⟩, by show N + 10 - ((m + 1 + 1 : Nat) : Int).toNat < N + 10 - ((m + 1 : Nat) : Int).toNat; omega⟩
      rw [pAdd_v, hadd, w64 (by omega) (by omega)]
      refine nat_at (o.sl (v := y) (by repeat (first | exact List.mem_cons_self | apply List.mem_cons_of_mem))) hpl2 (by omega) (by omega) ?_
      rw [hld, pAdd_v, show ((g (m + 1) : Nat) : Int) + 1 = ((g (m + 1) + 1 : Nat) : Int) by omega, w64 (by omega) (by omega)]
      refine nat_at (o.sl (v := y) (by repeat (first | exact List.mem_cons_self | apply List.mem_cons_of_mem))) hpl2 (by omega) (by omega) ?_
      rw [hl0, pLt_v]
      refine pCond_if (fun hlt => ?_) (fun hlt => ?_)
      · rw [pAdd_v, hadd, w64 (by omega) (by omega)]
        refine nat_at (o.sl (v := y) (by repeat (first | exact List.mem_cons_self | apply List.mem_cons_of_mem))) hpl2 (by omega) (by omega) ?_
        rw [hld, pAdd_v, show ((g (m + 1) : Nat) : Int) + 1 = ((g (m + 1) + 1 : Nat) : Int) by omega, w64 (by omega) (by omega)]
        have hp2 : (nat8 (padL N (c + 1) ((foldB g m).1 :: bestL lens c))).length = (N + 1) * 1 := by rw [nat8_len, hpl2, Nat.mul_one]
        refine (o.sl (v := y) (by repeat (first | exact List.mem_cons_self | apply List.mem_cons_of_mem))).at_ hp2 (by decide) (by omega) (by omega) fun p hp => ?_
        refine o.store hp (by repeat (first | exact List.mem_cons_self | apply List.mem_cons_of_mem)) (by rw [hp2]; omega) rfl (by repeat (first | exact Rep.here | apply Rep.there)) fun H5 o _ => ?_
        rw [Int.toNat_natCast, Nat.mul_one, nat8_set, padL_set0 hcN] at o
        show Owns H H5 [.sl y 1 (nat8 (padL N (c + 1) ((foldB g (m + 1)).1 :: bestL lens c)))]
        rw [foldB_up (by omega) (by omega)]
        exact o
      · show Owns H H4 [.sl y 1 (nat8 (padL N (c + 1) ((foldB g (m + 1)).1 :: bestL lens c)))]
        rw [foldB_stay (by omega)]
        exact o
    · have hfin : foldB g m = foldB g (lens (c + 1)) := by
        by_cases h2 : lens (c + 1) ≤ 2
        · rw [foldB_small h2, show m = 2 by omega]
        · rw [show m = lens (c + 1) by omega]
      rw [hfin, ← hgd] at o
      rw [pSub_v, w64 (by omega) (by omega)]
      exact ⟨⟨c + 1, by congr 1; omega, by omega, o⟩, by show (((N - (c + 1) : Nat) : Int) - 1 + 1).toNat < (((N - (c + 1) : Nat) : Int) + 1).toNat; omega⟩
  · have hcN : c = N := by omega
    subst hcN
    refine nat_at (i := 0) (o.sl (v := y) (by repeat (first | exact List.mem_cons_self | apply List.mem_cons_of_mem))) hpl (by omega) (by omega) ?_
    rw [padL_full]
    exact h H2 o.ext
end Go.Proofs.YtfmbgnchedhneaaDoor
