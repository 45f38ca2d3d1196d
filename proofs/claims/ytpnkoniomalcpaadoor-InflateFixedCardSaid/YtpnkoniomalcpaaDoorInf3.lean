/- The window that stands behind a reader in one block. -/
import Derived.Test.YtpnkoniomalcpaaDoorInf2
import Derived.Test.YtpnkoniomalcpaaDoorWindow
namespace Go.Proofs.YtpnkoniomalcpaaDoor
open Go Go.Vc Go.Proofs
set_option linter.unusedVariables false
set_option linter.unusedSimpArgs false
variable {H H0 : Heap} {R : Value → Heap → Prop} {v : Value} {zs : List Int} {ls : List Nat} {B : List Bool} {L : List It} {b : Nat} {q : List Value} {t : TypeId} {all : List UInt8}
/-- a reader and a window behind it -/
def WinO (H0 H : Heap) (b : Nat) (q : List Value) (t : TypeId) (B : List Bool) (all : List UInt8) (L : List It) : Prop :=
  ∃ rv ring, Ring ring all ∧ all.length ≤ 1099511627776 ∧ Owns H0 H (rdI b (rv :: i64 all.length :: q) t B :: .sl rv 1 (ring.map byteV) :: L)
theorem ring_len (ring : List UInt8) : (ring.map byteV).length = ring.length * 1 := by simp
theorem WinO.rd_rep {rv : Value} {B' : List Bool} {M : List It} {post : List Value} : Rep (rdI b post t B) (rdI b post t B') (rdI b post t B :: M) (rdI b post t B' :: M) := Rep.here
theorem wlen7 (w : WinO H0 H b q t B all L) (h : R (i64 (min all.length 32768)) H) : CallsH Tryd.prog 91 #[at_ b 3] H R := by
  obtain ⟨rv, ring, hr, hs, o⟩ := w
  refine window_Window_Len.vc _ _ _ ?_
  unfold window_Window_Len.res
  rw [pEq_3s, pCond_false, pNil_v, pFieldAddr_v, add_mk]
  refine o.pl (by repeat (first | exact List.mem_cons_self | apply List.mem_cons_of_mem)) (by decide) rfl ?_
  refine o.len1 (v := rv) (by repeat (first | exact List.mem_cons_self | apply List.mem_cons_of_mem)) ?_
  rw [List.length_map, hr.len]; exact h
theorem wtotal7 (w : WinO H0 H b q t B all L) (h : R (i64 all.length) H) : CallsH Tryd.prog 39 #[at_ b 3] H R := by
  obtain ⟨rv, ring, hr, hs, o⟩ := w
  refine window_Window_Total.vc _ _ _ ?_
  unfold window_Window_Total.res
  rw [pEq_3s, pCond_false, pNil_v, pFieldAddr_v, add_mk]
  exact o.pl (by repeat (first | exact List.mem_cons_self | apply List.mem_cons_of_mem)) (by decide) rfl h
theorem wput7 {x : UInt8} (w : WinO H0 H b q t B all L) (hsz : all.length < 1099511627776) (h : ∀ H', WinO H0 H' b q t B (all ++ [x]) L → R (.tuple #[]) H') : CallsH Tryd.prog 55 #[at_ b 3, byteV x] H R := by
  obtain ⟨rv, ring, hr, hs, o⟩ := w
  have hlen := hr.len
  refine window_Window_Put.vc _ _ _ _ ?_
  unfold window_Window_Put.res
  rw [pEq_3s, pCond_false]
  refine ⟨fun H' => ∃ rv' ring', Ring ring' (all ++ [x]) ∧ Owns H0 H' (rdI b (rv' :: i64 all.length :: q) t B :: .sl rv' 1 (ring'.map byteV) :: L), ?_, ?_⟩
  · rintro _ H1 ⟨rv', ring', hr1, o⟩
    rw [pNil_v, pFieldAddr_v, add_mk]
    refine o.pl (by repeat (first | exact List.mem_cons_self | apply List.mem_cons_of_mem)) (by decide) rfl ?_
    rw [pAdd_v, w64 (by omega) (by omega), pNil_v, pFieldAddr_v, add_mk]
    refine o.ps (g := 3 + 1) Rep.here (by decide) (by simp) rfl fun H2 o _ => ?_
    refine h H2 ⟨rv', ring', hr1, by rw [List.length_append, List.length_singleton]; omega, ?_⟩
    have e : i64 (all ++ [x]).length = .int .i64 ((all.length : Int) + 1) := by rw [List.length_append, List.length_singleton]; rfl
    rw [e]
    exact o
  · rw [pNil_v, pFieldAddr_v, add_mk]
    refine o.pl (by repeat (first | exact List.mem_cons_self | apply List.mem_cons_of_mem)) (by decide) rfl ?_
    refine o.len1 (v := rv) (by repeat (first | exact List.mem_cons_self | apply List.mem_cons_of_mem)) ?_
    rw [List.length_map, pLt_v]
    refine pCond_if (fun hc => ?_) (fun hc => ?_)
    · rw [pNil_v, pFieldAddr_v, add_mk]
      refine o.pl (by repeat (first | exact List.mem_cons_self | apply List.mem_cons_of_mem)) (by decide) rfl ?_
      refine o.build1 (by decide) rfl rfl fun y H1 o => ?_
      refine o.app (v := rv) (x := y) (by repeat (first | exact Sel.here | apply Sel.there)) (o.sl (by repeat (first | exact List.mem_cons_self | apply List.mem_cons_of_mem))) (by rfl) (by rw [List.length_map]; show 2 * (ring.length + 1) * 1 ≤ _; omega) fun y2 H2 o => ?_
      rw [pNil_v, pFieldAddr_v, add_mk]
      have hy2 := (o.sl (v := y2) (by repeat (first | exact List.mem_cons_self | apply List.mem_cons_of_mem))).one
      refine o.ps (b := b) (post := rv :: i64 all.length :: q) (t := t) (B := B) (g := 3 + 0) (by repeat (first | exact Rep.here | apply Rep.there)) (by decide) (by simp) hy2 fun H3 o _ => ?_
      have hring : ring = all := by
        apply List.ext_getElem?
        intro i
        by_cases hi : i < all.length
        · rw [← hr.at_ i hi (by omega), Nat.mod_eq_of_lt (by omega)]
        · rw [List.getElem?_eq_none (by omega), List.getElem?_eq_none (by omega)]
      subst hring
      refine ⟨y2, ring ++ [x], ⟨by simp; omega, fun i hi _ => by rw [Nat.mod_eq_of_lt (by simp at hi; omega)]⟩, ?_⟩
      rw [List.map_append]
      exact o.drop2.swap
    · have hall : 32768 ≤ all.length := by omega
      rw [pNil_v, pFieldAddr_v, add_mk]
      refine o.pl (by repeat (first | exact List.mem_cons_self | apply List.mem_cons_of_mem)) (by decide) rfl ?_
      rw [pNil_v, pFieldAddr_v, add_mk]
      refine o.pl (by repeat (first | exact List.mem_cons_self | apply List.mem_cons_of_mem)) (by decide) rfl ?_
      rw [pRem_v]
      refine ⟨by decide, ?_⟩
      rw [Int.tmod_eq_emod_of_nonneg (by omega)]
      have hm : ((all.length : Int) % 32768).toNat * 1 = all.length % 32768 := by omega
      refine (o.sl (v := rv) (by repeat (first | exact List.mem_cons_self | apply List.mem_cons_of_mem))).at_ (ring_len ring) (by decide) (by omega) (by omega) fun p hp => ?_
      refine o.store hp (by repeat (first | exact List.mem_cons_self | apply List.mem_cons_of_mem)) (by rw [List.length_map]; omega) rfl (by repeat (first | exact Rep.here | apply Rep.there)) fun H1 o _ => ?_
      rw [hm] at o
      refine ⟨rv, ring.set (all.length % 32768) x, ⟨by simp; omega, fun i hi hi2 => ?_⟩, by rw [List.map_set]; exact o⟩
      rw [List.length_append, List.length_singleton] at hi hi2
      by_cases he : i = all.length
      · subst he
        rw [List.getElem?_set_self (by omega), List.getElem?_append_right (Nat.le_refl _), Nat.sub_self]
        rfl
      · rw [List.getElem?_set_ne (by omega), List.getElem?_append_left (by omega)]
        exact hr.at_ i (by omega) (by omega)
theorem wback7 {d : Int} (w : WinO H0 H b q t B all L) (hd1 : 1 ≤ d) (hd2 : d ≤ (min all.length 32768 : Nat)) (h : R (.tuple #[byteV (all.getD (all.length - d.toNat) 0), .bool true]) H) : CallsH Tryd.prog 92 #[at_ b 3, .int .i64 d] H R := by
  have w0 := w
  obtain ⟨rv, ring, hr, hs, o⟩ := w
  refine window_Window_Back.vc _ _ _ _ ?_
  unfold window_Window_Back.res
  rw [pLt_v, decide_eq_false (by omega)]
  refine pOr_false ?_
  refine wlen7 w0 ?_
  rw [pGt_v, decide_eq_false (by omega)]
  intro _
  rw [pCond_false, pNil_v, pFieldAddr_v, add_mk]
  refine o.pl (by repeat (first | exact List.mem_cons_self | apply List.mem_cons_of_mem)) (by decide) rfl ?_
  rw [pNil_v, pFieldAddr_v, add_mk]
  refine o.pl (by repeat (first | exact List.mem_cons_self | apply List.mem_cons_of_mem)) (by decide) rfl ?_
  rw [pSub_v, w64 (by omega) (by omega), pRem_v]
  refine ⟨by decide, ?_⟩
  rw [Int.tmod_eq_emod_of_nonneg (by omega)]
  have hlen := hr.len
  have hm : (((all.length : Int) - d) % 32768).toNat * 1 = (all.length - d.toNat) % 32768 := by omega
  have hS := o.sl (v := rv) (by repeat (first | exact List.mem_cons_self | apply List.mem_cons_of_mem))
  refine hS.at_ (ring_len ring) (by decide) (by omega) (by omega) fun p hp => ?_
  refine hp.load hS (w := byteV (all.getD (all.length - d.toNat) 0)) ?_ h
  rw [hm, List.getElem?_map, hr.at_ _ (by omega) (by omega), List.getElem?_eq_getElem (by omega), List.getD_eq_getElem?_getD, List.getElem?_eq_getElem (by omega)]
  rfl
theorem wadd7 {s : List UInt8} (w : WinO H0 H b q t B all L) (hsz : all.length + s.length ≤ 1099511627776) (h : ∀ H', WinO H0 H' b q t B (all ++ s) L → R (.tuple #[]) H') : CallsH Tryd.prog 50 #[at_ b 3, str s] H R := by
  refine window_Window_Add.vc _ _ _ _ ?_
  unfold window_Window_Add.res
  refine pLenS_to ?_
  refine ⟨fun v H' => ∃ (i : Nat), v = .int .i64 i ∧ i ≤ s.length ∧ WinO H0 H' b q t B (all ++ s.take i) L, fun v _ => match v with | .int _ i => (s.length - i).toNat | _ => 0, ⟨0, rfl, by omega, by simpa using w⟩, ?_⟩
  rintro _ _ H1 ⟨i, rfl, hi, w⟩
  rw [pLt_v]
  refine pCond_if (fun hc => ?_) (fun hc => ?_)
  · rw [pIdxStr_v, bys_mk]
    refine ⟨by omega, by omega, ?_⟩
    rw [Int.toNat_natCast]
    refine wput7 w (by rw [List.length_append, List.length_take]; omega) fun H2 w => ?_
    rw [pAdd_v, w64 (by omega) (by omega)]
    refine ⟨⟨i + 1, rfl, by omega, ?_⟩, by show (_ : Int).toNat < (_ : Int).toNat; omega⟩
    rw [List.take_add_one, List.getElem?_eq_getElem (by omega), ← List.append_assoc]
    rw [List.getD_eq_getElem?_getD, List.getElem?_eq_getElem (by omega)] at w
    exact w
  · have : i = s.length := by omega
    subst this
    rw [List.take_length] at w
    exact h _ w
theorem wcopy_no7 {n d : Nat} (w : WinO H0 H b q t B all L) (hn : n ≤ 258) (hno : d < 1 ∨ min all.length 32768 < d) (h : R (.tuple #[str [], .bool false]) H) : CallsH Tryd.prog 73 #[at_ b 3, i64 n, i64 d] H R := by
  refine window_Window_Copy.vc _ _ _ _ _ ?_
  unfold window_Window_Copy.res
  rw [pLt_v, decide_eq_false (by omega)]
  refine pOr_false ?_
  rw [pGt_v, decide_eq_false (by omega)]
  intro _
  refine pOr_false ?_
  rw [pLt_v]
  intro _
  refine pOr_if (d := decide (((min all.length 32768 : Nat) : Int) < d)) (fun _ => ?_) ?_
  · refine wlen7 w ?_
    rw [pGt_v]
    exact ⟨rfl, rfl⟩
  intro _
  refine pCond_b (fun _ => h) (fun hc => ?_)
  simp only [Bool.or_eq_false_iff, decide_eq_false_iff_not] at hc
  omega
theorem WinO.slow {i : It} (w : WinO H0 H b q t B all (i :: L)) : ∃ rv ring, Ring ring all ∧ all.length ≤ 1099511627776 ∧ Owns H0 H (i :: rdI b (rv :: i64 all.length :: q) t B :: .sl rv 1 (ring.map byteV) :: L) := by
  obtain ⟨rv, ring, hr, hs, o⟩ := w
  refine ⟨rv, ring, hr, hs, o.perm ?_⟩
  exact List.Perm.trans (List.Perm.swap ..) (List.Perm.cons _ (List.Perm.swap ..))
theorem WinO.fast {i : It} {rv : Value} {ring : List UInt8} (hr : Ring ring all) (hs : all.length ≤ 1099511627776) (o : Owns H0 H (i :: rdI b (rv :: i64 all.length :: q) t B :: .sl rv 1 (ring.map byteV) :: L)) : WinO H0 H b q t B all (i :: L) := by
  refine ⟨rv, ring, hr, hs, o.perm ?_⟩
  exact List.Perm.trans (List.Perm.cons _ (List.Perm.swap ..)) (List.Perm.swap ..)
theorem wcopy7 {n d : Nat} (w : WinO H0 H b q t B all L) (hn1 : n ≤ 258) (hd0 : 1 ≤ d) (hd1 : d ≤ min all.length 32768) (hsz : all.length + 258 ≤ 1099511627776)
    (h : ∀ H', WinO H0 H' b q t B (copyN n all d) L → R (.tuple #[str ((copyN n all d).drop all.length), .bool true]) H') : CallsH Tryd.prog 73 #[at_ b 3, i64 n, i64 d] H R := by
  refine window_Window_Copy.vc _ _ _ _ _ ?_
  unfold window_Window_Copy.res
  rw [pLt_v, decide_eq_false (by omega)]
  refine pOr_false ?_
  rw [pGt_v, decide_eq_false (by omega)]
  intro _
  refine pOr_false ?_
  rw [pLt_v, decide_eq_false (by omega)]
  intro _
  refine pOr_false ?_
  refine wlen7 w ?_
  rw [pGt_v, decide_eq_false (by omega)]
  intro _
  rw [pCond_false]
  obtain ⟨rv, ring, hr, hs, o⟩ := w
  refine o.make1 (by omega) (by omega) (by omega) fun ov H1 o => ?_
  rw [Int.toNat_natCast] at o
  have w := WinO.fast hr hs o
  refine o.len1 (v := ov) (by repeat (first | exact List.mem_cons_self | apply List.mem_cons_of_mem)) ?_
  rw [List.length_replicate]
  refine ⟨fun v H' => ∃ (i : Nat) (out : List Value), v = .int .i64 i ∧ i ≤ n ∧ WinO H0 H' b q t B (copyN i all d) (.sl ov 1 out :: L) ∧ out.length = n ∧ out.take i = ((copyN i all d).drop all.length).map byteV,
    fun v _ => match v with | .int _ i => (n - i).toNat | _ => 0, ⟨0, _, rfl, by omega, w, by simp, by simp [copyN]⟩, ?_⟩
  rintro _ _ H2 ⟨i, out, rfl, hi, w2, hol, hot⟩
  have hl := copyN_len i all d
  rw [pLt_v]
  refine pCond_if (fun hc => ?_) (fun hc => ?_)
  · refine wback7 (d := d) w2 (by omega) (by rw [hl]; omega) ?_
    refine pExtract_to rfl ?_
    refine pExtract_to rfl ?_
    rw [Int.toNat_natCast]
    generalize hx : (copyN i all d).getD ((copyN i all d).length - d) 0 = x
    obtain ⟨rv, ring, hr, hs2, o⟩ := w2.slow
    refine (o.sl (v := ov) (by repeat (first | exact List.mem_cons_self | apply List.mem_cons_of_mem))).at_ (n := n) (by omega) (by decide) (by omega) (by omega) fun p hp => ?_
    refine o.store hp (by repeat (first | exact List.mem_cons_self | apply List.mem_cons_of_mem)) (by omega) rfl (by repeat (first | exact Rep.here | apply Rep.there)) fun H3 o _ => ?_
    rw [Int.toNat_natCast, Nat.mul_one] at o
    have hS := o.sl (v := ov) (by repeat (first | exact List.mem_cons_self | apply List.mem_cons_of_mem))
    refine hS.at_ (n := n) (by rw [List.length_set]; omega) (by decide) (by omega) (by omega) fun p hp => ?_
    refine hp.load hS (w := byteV x) (by rw [Int.toNat_natCast, Nat.mul_one, List.getElem?_set_self (by omega)]) ?_
    refine wput7 (WinO.fast hr hs2 o) (by rw [hl]; omega) fun H4 w => ?_
    rw [pAdd_v, w64 (by omega) (by omega)]
    refine ⟨⟨i + 1, out.set i (byteV x), rfl, by omega, ?_, by simpa using hol, ?_⟩, by show (_ : Int).toNat < (_ : Int).toNat; omega⟩
    · rw [copyN_end, hx]; exact w
    · rw [copyN_end, hx, List.drop_append_of_le_length (by rw [hl]; omega), List.map_append, ← hot]
      rw [List.take_add_one, List.getElem?_set_self (by omega), List.take_set_of_le (by omega)]
      rfl
  · have hi2 : i = n := by omega
    subst hi2
    rw [List.take_of_length_le (by omega)] at hot
    rw [hot] at w2
    obtain ⟨rv, ring, hr, hs2, o⟩ := w2.slow
    refine Sl.str (o.sl (v := ov) (by repeat (first | exact List.mem_cons_self | apply List.mem_cons_of_mem))) ?_
    exact h _ ⟨rv, ring, hr, hs2, o.pick (List.sublist_cons_self _ _)⟩
/-- another cell behind the window is read, stored -/
theorem WinO.pl {K : Value → Prop} {g : Nat} {x : Value} (w : WinO H0 H b q t B all L) (h5 : 5 ≤ g) (hx : q[g - 5]? = some x) (hk : K x) : pLoad H (at_ b g) K := by
  obtain ⟨rv, ring, hr, hs, o⟩ := w
  refine o.pl (w := x) (by repeat (first | exact List.mem_cons_self | apply List.mem_cons_of_mem)) (by omega) ?_ hk
  obtain ⟨j, rfl⟩ : ∃ j, g = j + 5 := ⟨g - 5, by omega⟩
  simp only [Nat.add_sub_cancel] at hx
  rw [show j + 5 - 3 = j + 1 + 1 by omega]
  exact hx
theorem WinO.ps {K : Value → Heap → Prop} {g : Nat} {x : Value} (w : WinO H0 H b q t B all L) (h5 : 5 ≤ g) (hg : g - 5 < q.length) (hx : oneCell x = true) (hk : ∀ H', WinO H0 H' b (q.set (g - 5) x) t B all L → K undef H') : pStore H (at_ b g) x K := by
  obtain ⟨rv, ring, hr, hs, o⟩ := w
  refine o.ps (g := g) Rep.here (by omega) (by simp; omega) hx fun H' o _ => hk H' ⟨rv, ring, hr, hs, ?_⟩
  obtain ⟨j, rfl⟩ : ∃ j, g = j + 5 := ⟨g - 5, by omega⟩
  rw [show j + 5 - 3 = j + 1 + 1 by omega] at o
  exact o
theorem wcopied7 (w : WinO H0 H b q t B all L) (h : ∀ H' c rv2 ring, Ring ring all → all.length ≤ 1099511627776 → WinO H0 H' b q t B all (.box c [rv2, i64 all.length] 64 :: .sl rv2 1 (ring.map byteV) :: L) → Ext H H' → R (.pointer (some ⟨c, 0, none⟩)) H') : CallsH Tryd.prog 38 #[at_ b 3] H R := by
  obtain ⟨rv, ring, hr, hs, o⟩ := w
  have hlen := hr.len
  refine window_Window_Copied.vc _ _ _ ?_
  unfold window_Window_Copied.res
  rw [pEq_3s, pCond_false, pNil_v]
  have hone := (o.sl (v := rv) (by repeat (first | exact List.mem_cons_self | apply List.mem_cons_of_mem))).one
  obtain ⟨rest, acc, n, h1, -⟩ := o.thing (T := rdP b (rv :: i64 all.length :: q) t B) (by repeat (first | exact List.mem_cons_self | apply List.mem_cons_of_mem))
  have hc : Reads H ⟨b, 3, none⟩ [rv, i64 all.length] := fun i x hx => by
    rw [add_mk, cellAt_blk h1, List.getElem?_toArray]
    have hi := (List.getElem?_eq_some_iff.1 hx).1
    match i, hi with
    | 0, _ => exact hx
    | 1, _ => exact hx
  refine hc.loadN (n := 2) rfl ?_
  refine (Owns.start (H := H)).box fun c H1 oc _ => ?_
  change Owns H H1 [.box c [.slice none 0 0, .int .i64 0] _] at oc
  refine oc.bstoreN (vs := [rv, i64 all.length]) (by repeat (first | exact List.mem_cons_self | apply List.mem_cons_of_mem)) rfl rfl (by simp only [List.all_cons, hone, oneCell_int, List.all_nil, Bool.and_true]) (by repeat (first | exact Rep.here | apply Rep.there)) fun H2 oc _ => ?_
  rw [pNil_v, pFieldAddr_v, add_mk]
  have o2 := o.more oc.ext
  refine o2.pl (b := b) (by repeat (first | exact List.mem_cons_self | apply List.mem_cons_of_mem)) (by decide) rfl ?_
  have ocn := oc.nil1
  refine ocn.app (v := .slice none 0 0) (x := rv) (by repeat (first | exact Sel.here | apply Sel.there)) (o2.sl (v := rv) (by repeat (first | exact List.mem_cons_self | apply List.mem_cons_of_mem))) (by simp [oneCell]) (by rw [List.length_map]; show 2 * (0 + ring.length) * 1 ≤ _; omega) fun v3 H3 oc => ?_
  rw [List.nil_append] at oc
  rw [pFieldAddr_v, add_mk]
  refine oc.bstore (b := c) (f := 0 + 0) (cs := [rv, i64 all.length]) (by repeat (first | exact List.mem_cons_self | apply List.mem_cons_of_mem)) (by simp) ((oc.sl (v := v3) (by repeat (first | exact List.mem_cons_self | apply List.mem_cons_of_mem))).one) (by repeat (first | exact Rep.here | apply Rep.there)) fun H4 oc _ => ?_
  have ob := o.call oc
  refine h H4 c v3 ring hr hs ⟨rv, ring, hr, hs, ?_⟩ oc.ext
  exact ob.arrT (by repeat (first | exact SelsT.refl | exact Sel.here | apply SelsT.cons | apply Sel.there))
end Go.Proofs.YtpnkoniomalcpaaDoor
