/- Contracts of package wal: the stable sort of few, and Entries. -/
import Derived.Test.YtaopejkbnohiiaaWalL
import Derived.Test.YtaopejkbnohiiaaDelF
import Derived.Test.YtaopejkbnohiiaaResCmp
import Derived.Test.YtaopejkbnohiiaaResSlices
namespace Go.Proofs.Ytaopejkbnohiiaa
open Go Go.Vc Go.Proofs
set_option linter.unusedVariables false
set_option linter.unusedSimpArgs false
variable {H H0 : Heap} {R : Value → Heap → Prop} {v : Value} {L L' : List It} {b lb at_ k N : Nat} {M : Dk} {want : List UInt8} {bad : Bool}
theorem flat_set18 {n : Nat} : ∀ (L : List (List Value)) (i : Nat) (r : List Value), (∀ r ∈ L, r.length = n) → r.length = n → i < L.length → putL L.flatten (i * n) r = (L.set i r).flatten := fun L i r hl hr hi => by
  have hp : (L.take i).flatten.length = i * n := by
    rw [flat_len (L.take i) (fun x hx => hl x (List.mem_of_mem_take hx)), List.length_take, Nat.min_eq_left (by omega)]
  have hu := hl L[i] (List.getElem_mem hi)
  have e1 : L.flatten = (L.take i).flatten ++ (L[i] ++ (L.drop (i + 1)).flatten) := by
    rw [← List.flatten_cons, ← List.flatten_append, ← List.drop_eq_getElem_cons hi, List.take_append_drop]
  have e2 : (L.set i r).flatten = (L.take i).flatten ++ (r ++ (L.drop (i + 1)).flatten) := by
    rw [← List.flatten_cons, ← List.flatten_append, List.set_eq_take_append_cons_drop, if_pos hi]
  rw [e1, e2, ← hp, putL_mid r _ _ (by rw [List.length_append]; omega), List.append_assoc, List.drop_append_of_le_length (by omega), List.drop_of_length_le (by omega), List.nil_append]
abbrev Ent := Nat × List UInt8
def rowE (e : Ent) : List Value := [.int .u64 (e.1 : Int), str e.2]
def rowsE (E : List Ent) : List Value := (E.map rowE).flatten
theorem rowE_len (E : List Ent) : ∀ r ∈ E.map rowE, r.length = 2 := by
  intro r hr
  obtain ⟨e, _, rfl⟩ := List.mem_map.1 hr
  rfl
theorem rowsE_len (E : List Ent) : (rowsE E).length = E.length * 2 := by unfold rowsE; rw [flat_len _ (rowE_len E), List.length_map]
theorem rowsE_at {E : List Ent} {i : Nat} (h : i < E.length) : ((rowsE E).drop (i * 2)).take 2 = rowE E[i] :=
  flat_at _ i _ (rowE_len E) (by rw [List.getElem?_map, List.getElem?_eq_getElem h]; rfl)
theorem rowsE_set {E : List Ent} {i : Nat} {e : Ent} (h : i < E.length) : putL (rowsE E) (i * 2) (rowE e) = rowsE (E.set i e) := by
  unfold rowsE
  rw [flat_set18 _ i _ (rowE_len E) rfl (by rw [List.length_map]; exact h), List.map_set]
theorem rowsE_snoc (E : List Ent) (e : Ent) : rowsE (E ++ [e]) = rowsE E ++ rowE e := by simp [rowsE]
theorem nan18_spec {n : Int} (h : R (.bool false) H) : CallsH Try.prog 50 #[.int .u64 n] H R := by
  refine cmp_isNaN_uint64.vc _ _ _ ?_
  unfold cmp_isNaN_uint64.res
  rw [pNe_0, decide_eq_false (fun g => g rfl)]
  exact h
theorem compare18_spec {a c : Nat} (h : R (.int .i64 (if a < c then -1 else if c < a then 1 else 0)) H) : CallsH Try.prog 37 #[.int .u64 (a : Int), .int .u64 (c : Int)] H R := by
  refine cmp_Compare_uint64.vc _ _ _ _ ?_
  unfold cmp_Compare_uint64.res
  refine nan18_spec ?_
  refine nan18_spec ?_
  rw [pCond_false, pCond_false, pLt_v]
  refine pCond_if (fun hc => ?_) (fun hc => ?_)
  · rw [if_pos (by omega)] at h; exact h
  · rw [if_neg (by omega)] at h
    rw [pGt_v]
    refine pCond_if (fun hc => ?_) (fun hc => ?_)
    · rw [if_pos (by omega)] at h; exact h
    · rw [if_neg (by omega)] at h; exact h
theorem entCmp_spec {e f : Ent} (h : ∀ H', Ext H H' → R (.int .i64 (if e.1 < f.1 then -1 else if f.1 < e.1 then 1 else 0)) H') : CallsH Try.prog 36 #[.agg (rowE e).toArray, .agg (rowE f).toArray] H R := by
  refine wal_Log_Entries_f1.vc _ _ _ _ ?_
  unfold wal_Log_Entries_f1.res
  refine (Owns.start (H := H)).box fun a H1 o _ => ?_
  refine o.box fun c H2 o _ => ?_
  change Owns H H2 [.box c (rowE f) _, .box a (rowE e) _] at o
  rw [pFieldAddr_v, add_mk]
  refine o.bload (b := a) (f := 0 + 0) (by repeat (first | exact List.mem_cons_self | apply List.mem_cons_of_mem)) rfl ?_
  rw [pFieldAddr_v, add_mk]
  refine o.bload (b := c) (f := 0 + 0) (by repeat (first | exact List.mem_cons_self | apply List.mem_cons_of_mem)) rfl ?_
  exact compare18_spec (h H2 o.ext)
abbrev cmpF : Value := .func (.func 36 ) #[] #[]
def keyE (E : List Ent) (x : Nat) : Nat := (E.getD x (0, [])).1
theorem keyE_get {E : List Ent} {x : Nat} (h : x < E.length) : keyE E x = E[x].1 := by
  unfold keyE
  rw [List.getD_eq_getElem?_getD, List.getElem?_eq_getElem h]; rfl
theorem keyE_swap {E : List Ent} {q x : Nat} (h : q < E.length) (h1 : 1 ≤ q) : keyE ((E.set q E[q - 1]).set (q - 1) E[q]) x = if x = q - 1 then keyE E q else if x = q then keyE E (q - 1) else keyE E x := by
  unfold keyE
  rw [List.getD_eq_getElem?_getD, List.getElem?_set, List.length_set]
  by_cases h2 : x = q - 1
  · rw [if_pos h2.symm, if_pos (by omega), if_pos h2, List.getD_eq_getElem?_getD, List.getElem?_eq_getElem h]
  · rw [if_neg (by omega), if_neg h2, List.getElem?_set]
    by_cases h3 : x = q
    · rw [if_pos h3.symm, if_pos (by omega), if_pos h3, List.getD_eq_getElem?_getD, List.getElem?_eq_getElem (by omega)]
    · rw [if_neg (by omega), if_neg h3, List.getD_eq_getElem?_getD]
theorem insSort_spec {E : List Ent} (o : Owns H0 H (.sl v 2 (rowsE E) :: L)) (hlen : E.length ≤ 1000000) (h : ∀ H' E', Owns H0 H' (.sl v 2 (rowsE E') :: L) → E'.Perm E → E'.Pairwise (fun a c => a.1 ≤ c.1) → R (.tuple #[]) H') :
    CallsH Try.prog 56 #[v, .int .i64 0, .int .i64 (E.length : Int), cmpF] H R := by
  refine slices_insertionSortCmpFunc_wal_Entry.vc _ _ _ _ _ _ ?_
  unfold slices_insertionSortCmpFunc_wal_Entry.res
  rw [pAdd_v, w64 (n := (0 : Int) + 1) (by decide) (by decide)]
  refine ⟨fun i H' => ∃ (p : Nat) (E' : List Ent), i = .int .i64 p ∧ 1 ≤ p ∧ p ≤ E.length + 1 ∧ Owns H0 H' (.sl v 2 (rowsE E') :: L) ∧ E'.Perm E ∧ ∀ x y, x < y → y < p → y < E.length → keyE E' x ≤ keyE E' y, fun i _ => match i with | .int _ x => 2000000 - x.toNat | _ => 0, ⟨1, E, rfl, by omega, by omega, o, List.Perm.refl _, fun x y _ _ _ => by omega⟩, ?_⟩
  clear o
  rintro _ _ H1 ⟨p, E', rfl, hp1, hpn, o, hperm, hsort⟩
  have hlE := hperm.length_eq
  rw [pLt_v]
  refine pCond_if (fun hc => ?_) (fun hc => ?_)
  · have hpE : p < E.length := by omega
    refine ⟨fun j H' => ∃ (q : Nat) (E' : List Ent), j = .int .i64 q ∧ q ≤ p ∧ Owns H0 H' (.sl v 2 (rowsE E') :: L) ∧ E'.Perm E ∧ (∀ x y, x < y → y ≤ p → x ≠ q → y ≠ q → keyE E' x ≤ keyE E' y) ∧ (∀ y, q < y → y ≤ p → keyE E' q ≤ keyE E' y), fun j _ => match j with | .int _ x => x.toNat | _ => 0, ⟨p, E', rfl, by omega, o, hperm, fun x y hxy hy hx hy2 => hsort x y hxy (by omega) (by omega), fun y h1 h2 => by omega⟩, ?_⟩
    clear o hsort hlE hperm E'
    rintro _ _ H2 ⟨q, E', rfl, hqp, o, hperm, hA, hB⟩
    have hlE := hperm.length_eq
    have hrl : (rowsE E').length = E'.length * 2 := rowsE_len E'
    rw [pGt_v]
    refine pAnd_split (fun hf => ?_) (fun ht => ?_)
    · rw [decide_eq_false_iff_not] at hf
      intro _
      rw [pCond_false, pAdd_v, w64 (n := (p : Int) + 1) (by omega) (by omega)]
      refine ⟨⟨p + 1, E', rfl, by omega, by omega, o, hperm, fun x y hxy hy hyE => ?_⟩, by show 2000000 - ((p : Int) + 1).toNat < 2000000 - (p : Int).toNat; omega⟩
      by_cases hx : x = q
      · subst hx; exact hB y hxy (by omega)
      · exact hA x y hxy (by omega) hx (by omega)
    · rw [decide_eq_true_eq] at ht
      have hq1 : 1 ≤ q := by omega
      have hqE : q < E'.length := by omega
      have hS := o.sl (v := v) (by repeat (first | exact List.mem_cons_self | apply List.mem_cons_of_mem))
      refine hS.at_ hrl (by decide) (by omega) (by omega) fun p1 h1 => ?_
      rw [Int.toNat_natCast] at h1
      refine h1.loadN hS (ws := rowE E'[q]) (rowsE_at hqE) rfl ?_
      rw [pSub_v, show (q : Int) - 1 = ((q - 1 : Nat) : Int) by omega, w64 (by omega) (by omega)]
      refine hS.at_ hrl (by decide) (by omega) (by omega) fun p2 h2 => ?_
      rw [Int.toNat_natCast] at h2
      refine h2.loadN hS (ws := rowE E'[q - 1]) (rowsE_at (by omega)) rfl ?_
      refine callH_f' (by decide +kernel) ?_
      refine entCmp_spec fun H3 hx3 => ?_
      have o := o.more hx3
      have hk1 := keyE_get hqE
      have hk2 := keyE_get (E := E') (x := q - 1) (by omega)
      rw [pLt_v]
      intro _
      refine pCond_if (fun hc2 => ?_) (fun hc2 => ?_)
      · have hlt : keyE E' q < keyE E' (q - 1) := by
          rw [hk1, hk2]
          split at hc2
          · assumption
          · split at hc2 <;> omega
        rw [pSub_v, show (q : Int) - 1 = ((q - 1 : Nat) : Int) by omega, w64 (by omega) (by omega)]
        rw [pSub_v, show (q : Int) - 1 = ((q - 1 : Nat) : Int) by omega, w64 (by omega) (by omega)]
        have hS := o.sl (v := v) (by repeat (first | exact List.mem_cons_self | apply List.mem_cons_of_mem))
        refine hS.at_ hrl (by decide) (by omega) (by omega) fun p3 h3 => ?_
        rw [Int.toNat_natCast] at h3
        refine h3.loadN hS (ws := rowE E'[q - 1]) (rowsE_at (by omega)) rfl ?_
        refine hS.at_ hrl (by decide) (by omega) (by omega) fun p4 h4 => ?_
        rw [Int.toNat_natCast] at h4
        refine h4.loadN hS (ws := rowE E'[q]) (rowsE_at hqE) rfl ?_
        refine hS.at_ hrl (by decide) (by omega) (by omega) fun p5 h5 => ?_
        rw [Int.toNat_natCast] at h5
        refine o.storeN h5 (by repeat (first | exact List.mem_cons_self | apply List.mem_cons_of_mem)) rfl (by rw [hrl]; omega) rfl (by repeat (first | exact Rep.here | apply Rep.there)) fun H4 o _ => ?_
        rw [rowsE_set hqE] at o
        have hrl2 : (rowsE (E'.set q E'[q - 1])).length = E'.length * 2 := by rw [rowsE_len, List.length_set]
        refine (o.sl (v := v) (by repeat (first | exact List.mem_cons_self | apply List.mem_cons_of_mem))).at_ hrl2 (by decide) (by omega) (by omega) fun p6 h6 => ?_
        rw [Int.toNat_natCast] at h6
        refine o.storeN h6 (by repeat (first | exact List.mem_cons_self | apply List.mem_cons_of_mem)) rfl (by rw [hrl2]; omega) rfl (by repeat (first | exact Rep.here | apply Rep.there)) fun H5 o _ => ?_
        rw [rowsE_set (by rw [List.length_set]; omega)] at o
        have hks := fun x => keyE_swap (x := x) hqE hq1
        rw [pSub_v, show (q : Int) - 1 = ((q - 1 : Nat) : Int) by omega, w64 (by omega) (by omega)]
        refine ⟨⟨q - 1, (E'.set q E'[q - 1]).set (q - 1) E'[q], rfl, by omega, o, (List.set_set_perm hqE (by omega)).trans hperm, fun x y hxy hy hx hy2 => ?_, fun y hy1 hy2 => ?_⟩, by show ((q - 1 : Nat) : Int).toNat < (q : Int).toNat; omega⟩
        · rw [hks, hks, if_neg hx, if_neg hy2]
          by_cases h7 : x = q
          · rw [if_pos h7, if_neg (by omega)]
            exact hA (q - 1) y (by omega) hy (by omega) (by omega)
          · rw [if_neg h7]
            by_cases h8 : y = q
            · rw [if_pos h8]
              exact hA x (q - 1) (by omega) (by omega) h7 (by omega)
            · rw [if_neg h8]
              exact hA x y hxy hy h7 h8
        · rw [hks, hks, if_pos rfl, if_neg (by omega)]
          by_cases h8 : y = q
          · rw [if_pos h8]; omega
          · rw [if_neg h8]
            exact hB y (by omega) hy2
      · have hge : keyE E' (q - 1) ≤ keyE E' q := by
          rw [hk1, hk2]
          split at hc2
          · omega
          · omega
        rw [pAdd_v, w64 (n := (p : Int) + 1) (by omega) (by omega)]
        refine ⟨⟨p + 1, E', rfl, by omega, by omega, o, hperm, fun x y hxy hy hyE => ?_⟩, by show 2000000 - ((p : Int) + 1).toNat < 2000000 - (p : Int).toNat; omega⟩
        by_cases hx : x = q
        · subst hx; exact hB y hxy (by omega)
        · by_cases hy3 : y = q
          · subst hy3
            by_cases hx4 : x = y - 1
            · rw [hx4]; exact hge
            · exact Nat.le_trans (hA x (y - 1) (by omega) (by omega) hx (by omega)) hge
          · exact hA x y hxy (by omega) hx hy3
  · refine h H1 E' o hperm (List.pairwise_iff_getElem.2 fun i j hi hj hij => ?_)
    have := hsort i j hij (by omega) (by omega)
    rwa [keyE_get hi, keyE_get hj] at this
theorem stable_spec {E : List Ent} (o : Owns H0 H (.sl v 2 (rowsE E) :: L)) (hlen : E.length < 20) (h : ∀ H' E', Owns H0 H' (.sl v 2 (rowsE E') :: L) → E'.Perm E → E'.Pairwise (fun a c => a.1 ≤ c.1) → R (.tuple #[]) H') :
    CallsH Try.prog 35 #[v, cmpF] H R := by
  refine slices_SortStableFunc_s_wal_Entry_wal_Entry.vc _ _ _ _ ?_
  unfold slices_SortStableFunc_s_wal_Entry_wal_Entry.res
  refine (o.sl (v := v) (by repeat (first | exact List.mem_cons_self | apply List.mem_cons_of_mem))).len (rowsE_len E) (by decide) ?_
  refine slices_stableCmpFunc_wal_Entry.vc _ _ _ _ _ ?_
  unfold slices_stableCmpFunc_wal_Entry.res
  refine ⟨fun a c H' => a = .int .i64 0 ∧ c = .int .i64 20 ∧ H = H', fun _ _ _ => 0, ⟨rfl, rfl, rfl⟩, ?_⟩
  rintro _ _ _ _ ⟨rfl, rfl, rfl⟩
  rw [pLe_v, decide_eq_false (by omega), pCond_false]
  refine insSort_spec o (by omega) fun H1 E' o hp hs => ?_
  refine ⟨fun a H' => a = .int .i64 20 ∧ H1 = H', fun _ _ => 0, ⟨rfl, rfl⟩, ?_⟩
  rintro _ _ _ ⟨rfl, rfl⟩
  rw [pLt_v, decide_eq_false (by omega), pCond_false]
  exact h H1 E' o hp hs
theorem entries_nil (h : R (.tuple #[.slice none 0 0, .int .i64 1]) H) : CallsH Try.prog 19 #[.pointer none] H R := by
  refine wal_Log_Entries.vc _ _ _ ?_
  unfold wal_Log_Entries.res
  rw [pEq_3n, pCond_true]
  exact h
theorem entries_off (d : Dsk H0 H b M (logIt lb b at_ k want N bad :: L)) (ho : M.off = true) (hk : 1 ≤ k) (hr : at_ + k ≤ 65536) (h : R (.tuple #[.slice none 0 0, .int .i64 14]) H) : CallsH Try.prog 19 #[ptr lb] H R := by
  refine wal_Log_Entries.vc _ _ _ ?_
  unfold wal_Log_Entries.res
  obtain ⟨lv, r, ov, lf, o, ok⟩ := d
  rw [pEq_3s, pCond_false, pNil_v, pFieldAddr_v, add_mk]
  refine o.bload (b := lb) (f := 0 + 2) (by repeat (first | exact List.mem_cons_self | apply List.mem_cons_of_mem)) rfl ?_
  refine ⟨fun w i H' => i = .int .i64 0 ∧ H = H', fun _ _ _ => 0, ⟨rfl, rfl⟩, ?_⟩
  rintro _ _ _ _ ⟨rfl, rfl⟩
  rw [pLt_v, decide_eq_true (by omega), pCond_true, pNil_v, pFieldAddr_v, add_mk]
  refine o.bload (b := lb) (f := 0 + 0) (by repeat (first | exact List.mem_cons_self | apply List.mem_cons_of_mem)) rfl ?_
  rw [pNil_v, pFieldAddr_v, add_mk]
  refine o.bload (b := lb) (f := 0 + 1) (by repeat (first | exact List.mem_cons_self | apply List.mem_cons_of_mem)) rfl ?_
  rw [pAdd_v, w64 (n := (at_ : Int) + 0) (by omega) (by omega)]
  have d : Dsk H0 H b M (logIt lb b at_ k want N bad :: L) := ⟨lv, r, ov, lf, o, ok⟩
  refine read_spec d ?_
  have hrd : M.read ((at_ : Int) + 0) = ([], 14) := by
    unfold Dk.read Dk.ready
    rw [ho, if_pos rfl, if_pos (by decide)]
  rw [hrd]
  refine pExtract_to rfl ?_
  refine pExtract_to rfl ?_
  rw [pNe_0, decide_eq_true (by decide), pCond_true]
  exact h
theorem entries_spec (d : Dsk H0 H b M (logIt lb b at_ k want N bad :: L)) (ho : M.off = false) (hk : k < 20) (hr : at_ + k ≤ M.n)
    (h : ∀ H' y E, Dsk H0 H' b M (.sl y 2 (rowsE E) :: logIt lb b at_ k want N bad :: L) → E.Perm ((List.range k).filterMap (noteAt M at_)) → E.Pairwise (fun a c => a.1 ≤ c.1) → R (.tuple #[y, .int .i64 0]) H') : CallsH Try.prog 19 #[ptr lb] H R := by
  have hmax := d.nmax
  refine wal_Log_Entries.vc _ _ _ ?_
  unfold wal_Log_Entries.res
  obtain ⟨lv, r, ov, lf, o, ok⟩ := d
  rw [pEq_3s, pCond_false, pNil_v, pFieldAddr_v, add_mk]
  refine o.bload (b := lb) (f := 0 + 2) (by repeat (first | exact List.mem_cons_self | apply List.mem_cons_of_mem)) rfl ?_
  have o := o.add (Ext.refl _) (i := .sl (.slice none 0 0) 2 (rowsE [])) ⟨by decide, .inl ⟨rfl, rfl⟩⟩ (by intro k hk; exact absurd hk (by simp [It.foot, blkOf]))
  refine ⟨fun w i H' => ∃ j : Nat, i = .int .i64 j ∧ j ≤ k ∧ Dsk H0 H' b M (.sl w 2 (rowsE ((List.range j).filterMap (noteAt M at_))) :: logIt lb b at_ k want N bad :: L), fun _ i _ => match i with | .int _ x => k - x.toNat | _ => 0, ⟨0, rfl, by omega, lv, r, ov, lf, o.arrT (by repeat (first | exact SelsT.refl | exact Sel.here | apply SelsT.cons | apply Sel.there)), ok⟩, ?_⟩
  clear o ok
  rintro _ w _ H1 ⟨j, rfl, hj, d⟩
  have hfl : ((List.range j).filterMap (noteAt M at_)).length ≤ j := by
    have := List.length_filterMap_le (noteAt M at_) (List.range j)
    rwa [List.length_range] at this
  rw [pLt_v]
  refine pCond_if (fun hc => ?_) (fun hc => ?_)
  · have hjk : j < k := by omega
    obtain ⟨lv, r, ov, lf, o, ok⟩ := d
    rw [pNil_v, pFieldAddr_v, add_mk]
    refine o.bload (b := lb) (f := 0 + 0) (by repeat (first | exact List.mem_cons_self | apply List.mem_cons_of_mem)) rfl ?_
    rw [pNil_v, pFieldAddr_v, add_mk]
    refine o.bload (b := lb) (f := 0 + 1) (by repeat (first | exact List.mem_cons_self | apply List.mem_cons_of_mem)) rfl ?_
    rw [pAdd_v, show (at_ : Int) + (j : Int) = ((at_ + j : Nat) : Int) by omega, w64 (by omega) (by omega)]
    have d : Dsk H0 H1 b M (.sl w 2 (rowsE ((List.range j).filterMap (noteAt M at_))) :: logIt lb b at_ k want N bad :: L) := ⟨lv, r, ov, lf, o, ok⟩
    have hs64 := d.secs (j := at_ + j) (by omega)
    refine read_spec d ?_
    rw [read_ok' (by omega) ho]
    refine pExtract_to rfl ?_
    refine pExtract_to rfl ?_
    rw [pNe_0, decide_eq_false (by simp), pCond_false]
    have hstep : (List.range (j + 1)).filterMap (noteAt M at_) = (List.range j).filterMap (noteAt M at_) ++ (noteAt M at_ j).toList := by
      rw [List.range_succ, List.filterMap_append]
      congr 1
    refine readS_spec hs64 (fun H2 hx n s hp => ?_) (fun hp H2 hx n s hn => ?_)
    · have hna : noteAt M at_ j = some (n, s) := hp
      refine pExtract_to rfl ?_
      refine pExtract_to rfl ?_
      refine pExtract_to rfl ?_
      rw [pCond_true]
      have o := o.more hx
      refine pBuild_one rfl (by decide) ?_
      refine pBuild_one rfl (by simp) ?_
      rw [pBuild_n]
      refine o.build1 (sz := 2) (by decide) rfl rfl fun y H3 o => ?_
      have o : Owns H0 H3 (.sl y 2 (rowE (n, s)) :: dkIts b lv r ov lf M (.sl w 2 (rowsE ((List.range j).filterMap (noteAt M at_))) :: logIt lb b at_ k want N bad :: L)) := o
      refine o.append (v := w) (n := ((List.range j).filterMap (noteAt M at_)).length) (m := 1) (by repeat (first | exact Sel.here | apply Sel.there)) rfl (o.sl (v := y) (by repeat (first | exact List.mem_cons_self | apply List.mem_cons_of_mem))) (rowsE_len _) rfl rfl (by omega) fun y2 H4 o => ?_
      rw [pAdd_v, w64 (n := (j : Int) + 1) (by omega) (by omega)]
      refine ⟨⟨j + 1, rfl, by omega, lv, r, ov, lf, ?_, ok⟩, by show k - ((j : Int) + 1).toNat < k - (j : Int).toNat; omega⟩
      rw [hstep, hna]
      show Owns H0 H4 (dkIts b lv r ov lf M (.sl y2 2 (rowsE ((List.range j).filterMap (noteAt M at_) ++ [(n, s)])) :: logIt lb b at_ k want N bad :: L))
      rw [rowsE_snoc]
      have hs : ∀ {a c : It} {A : List It}, Owns H0 H4 (a :: c :: A) → Owns H0 H4 (a :: A) := fun o => o.pick (.cons_cons _ (.cons _ (List.Sublist.refl _)))
      exact (hs o).arrT (by repeat (first | exact SelsT.refl | exact Sel.here | apply SelsT.cons | apply Sel.there))
    · have hna : noteAt M at_ j = none := hp
      refine pExtract_to rfl ?_
      refine pExtract_to rfl ?_
      refine pExtract_to rfl ?_
      rw [pCond_false, pAdd_v, w64 (n := (j : Int) + 1) (by omega) (by omega)]
      refine ⟨⟨j + 1, rfl, by omega, ?_⟩, by show k - ((j : Int) + 1).toNat < k - (j : Int).toNat; omega⟩
      rw [hstep, hna]
      show Dsk H0 H2 b M (.sl w 2 (rowsE ((List.range j).filterMap (noteAt M at_) ++ [])) :: _)
      rw [List.append_nil]
      exact d.more' hx
  · have hjk : j = k := by omega
    subst hjk
    obtain ⟨lv, r, ov, lf, o, ok⟩ := d
    have o : Owns H0 H1 (.sl w 2 (rowsE ((List.range j).filterMap (noteAt M at_))) :: dkIts b lv r ov lf M (logIt lb b at_ j want N bad :: L)) := o.arrT (by repeat (first | exact SelsT.refl | exact Sel.here | apply SelsT.cons | apply Sel.there))
    refine stable_spec o (by omega) fun H2 E' o hp hs => ?_
    exact h H2 w E' ⟨lv, r, ov, lf, o.arrT (by repeat (first | exact SelsT.refl | exact Sel.here | apply SelsT.cons | apply Sel.there)), ok⟩ hp hs
end Go.Proofs.Ytaopejkbnohiiaa
