/- The law DiskImages over heaps. -/
import Derived.Test.YthadmceioakgnaaRef17
import Derived.Test.YthadmceioakgnaaLaw17c
import Derived.Test.YthadmceioakgnaaVcInner
namespace Go.Proofs.Ythadmceioakgnaa
open Go Go.Vc Go.Proofs
set_option linter.unusedVariables false
set_option linter.unusedSimpArgs false
variable {H H0 : Heap} {R : Value → Heap → Prop} {v : Value} {L : List It} {b : Nat} {M : Dk}
theorem chunk64 : ∀ (L : List (List UInt8)) (j : Nat) (r : List UInt8), (∀ s ∈ L, s.length = 64) → L[j]? = some r → (L.flatten.drop (64 * j)).take 64 = r
  | [], j, r, _, h => by simp at h
  | u :: L, 0, r, hl, h => by
    simp only [List.getElem?_cons_zero, Option.some.injEq] at h
    subst h
    have hu := hl u (by simp)
    rw [List.flatten_cons, Nat.mul_zero, List.drop_zero, List.take_append_of_le_length (by omega), List.take_of_length_le (by omega)]
  | u :: L, j + 1, r, hl, h => by
    simp only [List.getElem?_cons_succ] at h
    have hu := hl u (by simp)
    have := chunk64 L j r (fun r hr => hl r (by simp [hr])) h
    rw [List.flatten_cons, show 64 * (j + 1) = u.length + 64 * j by omega, List.drop_append, List.drop_eq_nil_of_le (by omega), List.nil_append, show u.length + 64 * j - u.length = 64 * j by omega]
    exact this
theorem rowsI {ds : List TypeDesc} {j : Nat} {a : Option Addr} {len cap : Nat} (h : StructRowI ds j H a len cap) (hj : j < ds.length) : ∃ T : List (List Value), T.length = len ∧ len ≤ maxLen ∧ (∀ r ∈ T, r.length = ds.length) ∧ (∀ r ∈ T, FitAll ds fun j => r[j]?) ∧ Sl H (.slice a len cap) ds.length T.flatten ∧ ∀ r ∈ T, ∃ a' l' c' zs, r[j]? = some (.slice a' l' c') ∧ IntRow .i64 H a' l' c' zs := by
  obtain ⟨T, h1, h2, h3, h4, h5⟩ := h.1.rows (by omega)
  refine ⟨T, h1, h2, h3, h4, h5, fun r hr => ?_⟩
  obtain ⟨i, hi⟩ := List.getElem?_of_mem hr
  have hil := (List.getElem?_eq_some_iff.1 hi).1
  have hrl := h3 r hr
  rcases h5 with ⟨e, hn⟩ | ⟨x, n, c, e, hl, hc, hrd⟩
  · have := flat_len T h3
    rw [hn, List.length_nil] at this
    have hpos : 0 < T.length * ds.length := Nat.mul_pos (by omega) (by omega)
    omega
  · injection e with e1 e2 e3
    obtain ⟨a', l', c', zs, hcell, hrow⟩ := h.2 x e1 i (by omega)
    have hf : T.flatten[i * ds.length + j]? = r[j]? := flat_cell17 h3 hi hj
    have hrj : r[j]? = some r[j] := List.getElem?_eq_getElem (by omega)
    have := hrd _ _ (hf.trans hrj)
    rw [hcell] at this
    exact ⟨a', l', c', zs, hrj.trans this.symm, hrow⟩
theorem load_any {s : List UInt8} (o : Owns H0 H L) (hs : s.length ≤ 4000000) (h : ∀ H' p e, Owns H0 H' L → (e = 0 ↔ (s.length % 64 = 0 ∧ 0 < s.length)) → R (.tuple #[p, .int .i64 e]) H') : CallsH Try.prog 25 #[str s] H R := by
  by_cases hc : s.length % 64 = 0 ∧ 1 ≤ s.length / 64 ∧ s.length / 64 ≤ 65536
  · refine load_spec o (n := s.length / 64) (by omega) hc.2.1 hc.2.2 fun H' b d => ?_
    obtain ⟨lv, r, ov, lf, o, ok⟩ := d
    refine h H' _ 0 (o.pick ?_) ⟨fun _ => by omega, fun _ => rfl⟩
    exact ((((List.Sublist.refl L).cons _).cons _).cons _).cons _
  · refine load_no (by omega) hc (h H _ 1 o ⟨fun g => by omega, fun g => absurd g (by omega)⟩)
theorem write_no {i : Int} {s : List UInt8} (hs : s.length = 64) (ho : M.off = false) (hi : ¬ (0 ≤ i ∧ i < (M.n : Int))) : M.write i s = (M, 20) := by
  have hr : M.ready i = 20 := by
    unfold Dk.ready
    rw [ho]
    exact (if_neg Bool.false_ne_true).trans (if_neg hi)
  unfold Dk.write
  rw [if_neg (by omega), hr, if_pos (by decide)]
/-- the law's state: the disk, the document's one, and a third beside -/
abbrev W7 (H1 H' : Heap) (b w : Nat) (M : Dk) : Prop := ∃ lw cw, Dsk H1 H' b M [.box w [lw, cw, .bool false, .int .i64 (-1)] 47 , .sl lw 1 (txtsV (genL M.n M.la)), .sl cw 2 (cacheR M).flatten] ∧ M.n = 6 ∧ M.off = false ∧ M.fuse = none
theorem nil_item (sz : Nat) (hz : 0 < sz) (o : Owns H0 H L) : Owns H0 H (.sl (.slice none 0 0) sz [] :: L) :=
  o.add (Ext.refl _) (i := .sl (.slice none 0 0) sz []) ⟨hz, .inl ⟨rfl, rfl⟩⟩ (by intro k hk; exact absurd hk (by simp [It.foot, blkOf]))
open Classical in
set_option maxHeartbeats 2000000 in
theorem DiskImages_law (a0 : Option Addr) (len0 cap0 : Nat) (cut : Int) (w0 : StructRowI actDs 4 H a0 len0 cap0) (w1 : (Lit.int .i64 cut).wf = true) :
    CallsH Try.prog 6 #[.slice a0 len0 cap0, .int .i64 cut] H (LawOk H) := by
  obtain ⟨T, hTl, hTm, hT1, hT2, hS, hT3⟩ := rowsI w0 (by decide)
  have hSl : T.flatten.length = len0 * 5 := by rw [flat_len T hT1, hTl]; rfl
  change Sl H (.slice a0 len0 cap0) 5 T.flatten at hS
  change ∀ r ∈ T, r.length = 5 at hT1
  refine lighterlaw17_DiskImages.vc _ _ _ _ ?_
  unfold lighterlaw17_DiskImages.res
  refine speaks17_spec fun H1 hx1 => ?_
  rw [pNot_v, Bool.not_true, pCond_false]
  have hS := hS.ext hx1
  refine new_spec (n := 6) (Owns.start (H := H1)) (by decide) (by decide) fun H2 b d => ?_
  refine pExtract_to rfl ?_
  refine pExtract_to rfl ?_
  refine pBuild_one rfl (by simp) ?_
  rw [pBuild_n]
  obtain ⟨lv, r, ov, lf, o, ok⟩ := d
  refine o.box fun w H3 o _ => ?_
  refine o.bstoreN (b := w) (by repeat (first | exact List.mem_cons_self | apply List.mem_cons_of_mem)) rfl rfl rfl (by repeat (first | exact Rep.here | apply Rep.there)) fun H4 o _ => ?_
  have o := nil_item 1 (by decide) o
  have d : Dsk H1 H4 b (Dk.new 6) [.box w [.slice none 0 0, .slice none 0 0, .bool false, .int .i64 (-1)] 47 , .sl (.slice none 0 0) 1 (txtsV (List.replicate 0 zero64))] := ⟨lv, r, ov, lf, o.arr (by repeat (first | exact Sels.nil | exact Sel.here | apply Sels.cons | apply Sel.there)), ok⟩
  clear o ok
  refine ⟨fun i H' => ∃ k : Nat, i = .int .i64 k ∧ k ≤ 6 ∧ ∃ lw, Dsk H1 H' b (Dk.new 6) [.box w [lw, .slice none 0 0, .bool false, .int .i64 (-1)] 47 , .sl lw 1 (txtsV (List.replicate k zero64))], fun i _ => match i with | .int _ x => 100 - x.toNat | _ => 0, ⟨0, rfl, by omega, _, d⟩, ?_⟩
  clear d
  rintro _ _ H5 ⟨k, rfl, hk, lw, d⟩
  rw [pLt_v]
  refine pCond_if (fun hc => ?_) (fun hc => ?_)
  · rw [pFieldAddr_v, add_mk]
    obtain ⟨lv, r, ov, lf, o, ok⟩ := d
    refine o.bload (b := w) (f := 0 + 0) (by repeat (first | exact List.mem_cons_self | apply List.mem_cons_of_mem)) rfl ?_
    refine sector_spec (u := 0) fun H6 hx => ?_
    have o := o.more hx
    refine ⟨o.bload (b := w) (f := 0 + 0) (by repeat (first | exact List.mem_cons_self | apply List.mem_cons_of_mem)) rfl rfl, ?_⟩
    refine o.build1 (sz := 1) (by decide) rfl rfl fun y H7 o => ?_
    refine ⟨o.bload (b := w) (f := 0 + 0) (by repeat (first | exact List.mem_cons_self | apply List.mem_cons_of_mem)) rfl rfl, ?_⟩
    refine o.app (v := lw) (by repeat (first | exact Sel.here | apply Sel.there)) (o.sl (v := y) (by repeat (first | exact List.mem_cons_self | apply List.mem_cons_of_mem))) rfl (by rw [txtsV_len, List.length_replicate]; show 2 * (_ + 1) * 16 ≤ _; omega) fun y2 H8 o => ?_
    rw [pFieldAddr_v, add_mk]
    refine o.bstore (b := w) (f := 0 + 0) (by repeat (first | exact List.mem_cons_self | apply List.mem_cons_of_mem)) (by simp) (o.sl (v := y2) (by repeat (first | exact List.mem_cons_self | apply List.mem_cons_of_mem))).one (by repeat (first | exact Rep.here | apply Rep.there)) fun H9 o _ => ?_
    rw [pAdd_v, w64 (n := (k : Int) + 1) (by omega) (by omega)]
    refine ⟨⟨k + 1, rfl, by omega, y2, lv, r, ov, lf, ?_, ok⟩, by show 100 - ((k : Int) + 1).toNat < 100 - (k : Int).toNat; omega⟩
    have e : txtsV (List.replicate (k + 1) zero64) = txtsV (List.replicate k zero64) ++ [str (secB 0)] := by rw [List.replicate_succ', txtsV_append]; rfl
    rw [e]
    exact o.arr (by repeat (first | exact Sels.nil | exact Sel.here | apply Sels.cons | apply Sel.there))
  have hk6 : k = 6 := by omega
  subst hk6
  clear hc hk
  have hst : ∃ M, W7 H1 H5 b w M := by
    obtain ⟨lv, r, ov, lf, o, ok⟩ := d
    have o := nil_item 2 (by decide) o
    exact ⟨Dk.new 6, lw, .slice none 0 0, ⟨lv, r, ov, lf, o.arr (by repeat (first | exact Sels.nil | exact Sel.here | apply Sels.cons | apply Sel.there)), ok⟩, rfl, rfl, rfl⟩
  clear d
  refine ⟨fun i H' => ∃ k : Nat, i = .int .i64 k ∧ k ≤ 30 ∧ ∃ M, W7 H1 H' b w M, fun i _ => match i with | .int _ x => 100 - x.toNat | _ => 0, ⟨0, rfl, by omega, hst⟩, ?_⟩
  clear hst
  rintro _ _ H6 ⟨k, rfl, hk, M, lw, cw, d, hn, hoff, hfu⟩
  refine hS.len hSl (by decide) ?_
  rw [pLt_v]
  refine pAnd_if (d := decide ((k : Int) < 30)) (fun _ => by rw [pLt_v]; exact ⟨rfl, rfl⟩) ?_
  intro _
  refine pCond_b (fun hc => ?_) (fun _ => ?_)
  · rw [Bool.and_eq_true, decide_eq_true_eq, decide_eq_true_eq] at hc
    have hkT : k < T.length := by omega
    have hr1 := hT1 _ (List.getElem_mem hkT)
    have hr3 := hT3 _ (List.getElem_mem hkT)
    obtain ⟨wh, a, u, nn, fv, hr⟩ := act5 hr1 (hT2 _ (List.getElem_mem hkT))
    rw [hr] at hr3
    obtain ⟨fa, fl, fc, zs, hfv, hrow⟩ := hr3
    obtain rfl : fv = .slice fa fl fc := Option.some.inj hfv
    obtain ⟨fs, hfl, hfm, _, hfs⟩ := int_rows hrow
    have hfs := hfs.ext hx1
    obtain ⟨lv, r, ov, lf, o, ok⟩ := d
    refine (hS.ext o.ext).at_ hSl (by decide) (by omega) (by omega) fun p hp => ?_
    rw [Int.toNat_natCast] at hp
    refine hp.loadN (hS.ext o.ext) (ws := T[k]) (flat_at T k _ hT1 (List.getElem?_eq_getElem hkT)) hr1 ?_
    rw [hr]
    refine o.box fun x H7 o _ => ?_
    refine o.bstoreN (b := x) (by repeat (first | exact List.mem_cons_self | apply List.mem_cons_of_mem)) rfl rfl rfl (by repeat (first | exact Rep.here | apply Rep.there)) fun H8 o _ => ?_
    refine ⟨fun H' => ∃ M, W7 H1 H' b w M, ?_, ?_⟩
    · rintro _ H9 ⟨M, lw, cw, d, hn, hoff, hfu⟩
      obtain ⟨lv, r, ov, lf, o, ok⟩ := d
      have hgl : (genL 6 M.la).length = 6 := genL_len _ _
      have hlw : Sl H9 lw 1 (txtsV (genL 6 M.la)) := by have := o.sl (v := lw) (by repeat (first | exact List.mem_cons_self | apply List.mem_cons_of_mem)); rw [hn] at this; exact this
      have hlwl : (txtsV (genL 6 M.la)).length = 6 * 1 := by rw [txtsV_len, genL_len]
      refine ⟨fun all i H' => ∃ j : Nat, i = .int .i64 j ∧ j ≤ 6 ∧ all = str ((genL 6 M.la).take j).flatten ∧ H9 = H', fun _ i _ => match i with | .int _ x => 100 - x.toNat | _ => 0, ⟨0, rfl, by omega, rfl, rfl⟩, ?_⟩
      rintro _ _ _ _ ⟨j, rfl, hj, rfl, rfl⟩
      rw [pLt_v]
      refine pCond_if (fun hc => ?_) (fun hc => ?_)
      · have hj6 : j < 6 := by omega
        rw [pFieldAddr_v, add_mk]
        refine o.bload (b := w) (f := 0 + 0) (by repeat (first | exact List.mem_cons_self | apply List.mem_cons_of_mem)) rfl ?_
        refine hlw.at_ hlwl (by decide) (by omega) (by omega) fun p hp => ?_
        refine hp.load hlw (w := str (M.la j)) (by rw [Int.toNat_natCast, Nat.mul_one]; unfold txtsV; rw [List.getElem?_map, genL_get hj6]; rfl) ?_
        have hlen : ((genL 6 M.la).take j).flatten.length = j * 64 := by
          rw [flat64, List.length_take, genL_len, Nat.min_eq_left hj]
          intro s hs
          obtain ⟨q, hq, rfl⟩ := genL_mem (List.mem_of_mem_take hs)
          exact ok.l64 q (by omega)
        have h64 := ok.l64 j (by omega)
        refine pAdd_str (by omega) ?_
        rw [pAdd_v, w64 (n := (j : Int) + 1) (by omega) (by omega)]
        refine ⟨⟨j + 1, rfl, by omega, ?_, rfl⟩, by show 100 - ((j : Int) + 1).toNat < 100 - (j : Int).toNat; omega⟩
        rw [List.take_add_one, genL_get hj6, Option.toList, List.flatten_append, List.flatten_singleton]
      have hj6 : j = 6 := by omega
      subst hj6
      rw [List.take_of_length_le (by omega)]
      have himg : (genL 6 M.la).flatten = M.image := by unfold Dk.image; rw [hn]
      rw [himg]
      have d : Dsk H1 H9 b M [.box w [lw, cw, .bool false, .int .i64 (-1)] 47 , .sl lw 1 (txtsV (genL M.n M.la)), .sl cw 2 (cacheR M).flatten] := ⟨lv, r, ov, lf, o, ok⟩
      refine dirty_spec d fun y H10 c => ?_
      have hy := c.sl (v := y) (by repeat (first | exact List.mem_cons_self | apply List.mem_cons_of_mem))
      have d := d.more c.ext
      refine image_spec d fun H11 hx => ?_
      have hy := hy.ext hx
      have d := d.more hx
      obtain ⟨lv, r, ov, lf, o, ok⟩ := d
      have hyl : (natsV M.order).length = M.order.length * 1 := by rw [natsV_len, Nat.mul_one]
      refine pNe1_to ?_
      rw [decide_eq_false (fun g => g rfl)]
      refine pOr_false ?_
      refine hy.len hyl (by decide) ?_
      rw [pFieldAddr_v, add_mk]
      refine o.bload (b := w) (f := 0 + 1) (by repeat (first | exact List.mem_cons_self | apply List.mem_cons_of_mem)) rfl ?_
      refine (o.sl (v := cw) (by repeat (first | exact List.mem_cons_self | apply List.mem_cons_of_mem))).len cacheR_len (by decide) ?_
      rw [pNe_0, decide_eq_false (fun g => g rfl)]
      intro _
      rw [pCond_false]
      refine ⟨fun i H' => ∃ j : Nat, i = .int .i64 j ∧ H11 = H', fun i _ => match i with | .int _ x => M.order.length - x.toNat | _ => 0, ⟨0, rfl, rfl⟩, ?_⟩
      rintro _ _ _ ⟨j, rfl, rfl⟩
      refine hy.len hyl (by decide) ?_
      rw [pLt_v]
      have hol := ok.olen
      refine pCond_if (fun hc => ?_) (fun _ => ?_)
      · have hjo : j < M.order.length := by omega
        refine hy.at_ hyl (by decide) (by omega) (by omega) fun p hp => ?_
        refine hp.load hy (by rw [Int.toNat_natCast, Nat.mul_one]; exact natsV_get hjo) ?_
        rw [pFieldAddr_v, add_mk]
        refine o.bload (b := w) (f := 0 + 1) (by repeat (first | exact List.mem_cons_self | apply List.mem_cons_of_mem)) rfl ?_
        refine cache_at (o.sl (v := cw) (by repeat (first | exact List.mem_cons_self | apply List.mem_cons_of_mem))) hjo ?_
        rw [pNe_0, decide_eq_false (fun g => g rfl), pCond_false]
        rw [pAdd_v, w64 (n := (j : Int) + 1) (by omega) (by omega)]
        exact ⟨⟨j + 1, rfl, rfl⟩, by show M.order.length - ((j : Int) + 1).toNat < M.order.length - (j : Int).toNat; omega⟩
      · rw [pAdd_v, w64 (n := (k : Int) + 1) (by omega) (by omega)]
        exact ⟨⟨k + 1, rfl, by omega, M, lw, cw, ⟨lv, r, ov, lf, o, ok⟩, hn, hoff, hfu⟩, by show 100 - ((k : Int) + 1).toNat < 100 - (k : Int).toNat; omega⟩
    rw [pFieldAddr_v, add_mk]
    refine o.bload (b := x) (f := 0 + 0) (by repeat (first | exact List.mem_cons_self | apply List.mem_cons_of_mem)) rfl ?_
    rw [pBits_v, and_low (k := 2) (m := 3) (n := wh) (by decide) rfl, pEq_0]
    refine pCond_if (fun _ => ?_) (fun _ => ?_)
    · have d : Dsk H1 H8 b M [.box x [.int .i64 wh, .int .i64 a, byteV u, .int .i64 nn, .slice fa fl fc] 31 , .box w [lw, cw, .bool false, .int .i64 (-1)] 47 , .sl lw 1 (txtsV (genL M.n M.la)), .sl cw 2 (cacheR M).flatten] := ⟨lv, r, ov, lf, o.arr (by repeat (first | exact Sels.nil | exact Sel.here | apply Sels.cons | apply Sel.there)), ok⟩
      refine sync_spec d fun H9 d => ?_
      rw [sync_ok hoff (by rw [hfu]; simp)] at d
      obtain ⟨lv, r, ov, lf2, o, ok2⟩ := d
      change Owns H1 H9 (dkIts b lv r ov lf2 M.flush _) at o
      refine o.bloadN (b := w) (by repeat (first | exact List.mem_cons_self | apply List.mem_cons_of_mem)) rfl ?_
      refine refSync_spec ok (o.sl (v := lw) (by repeat (first | exact List.mem_cons_self | apply List.mem_cons_of_mem))) (o.sl (v := cw) (by repeat (first | exact List.mem_cons_self | apply List.mem_cons_of_mem))) fun H10 y c => ?_
      have o := o.call c
      refine pExtract_to rfl ?_
      refine pExtract_to rfl ?_
      refine o.bstoreN (b := w) (by repeat (first | exact List.mem_cons_self | apply List.mem_cons_of_mem)) rfl rfl (all_cons (o.sl (v := y) (by repeat (first | exact List.mem_cons_self | apply List.mem_cons_of_mem))).one rfl) (by repeat (first | exact Rep.here | apply Rep.there)) fun H11 o _ => ?_
      have o := nil_item 2 (by decide) o
      exact ⟨M.flush, y, .slice none 0 0, ⟨lv, r, ov, lf2, o.arr (by repeat (first | exact Sels.nil | exact Sel.here | apply Sels.cons | apply Sel.there)), ok2⟩, hn, hoff, hfu⟩
    rw [pEq_0]
    refine pCond_if (fun _ => ?_) (fun _ => ?_)
    · have d : Dsk H1 H8 b M [.box x [.int .i64 wh, .int .i64 a, byteV u, .int .i64 nn, .slice fa fl fc] 31 , .box w [lw, cw, .bool false, .int .i64 (-1)] 47 , .sl lw 1 (txtsV (genL M.n M.la)), .sl cw 2 (cacheR M).flatten] := ⟨lv, r, ov, lf, o.arr (by repeat (first | exact Sels.nil | exact Sel.here | apply Sels.cons | apply Sel.there)), ok⟩
      rw [pFieldAddr_v, add_mk]
      refine o.bload (b := x) (f := 0 + 4) (by repeat (first | exact List.mem_cons_self | apply List.mem_cons_of_mem)) rfl ?_
      refine crash_spec d (.inl hfs) (by omega) fun H9 d => ?_
      refine start_spec d fun H10 d => ?_
      obtain ⟨lv, r, ov, lf2, o, ok2⟩ := d
      refine o.bloadN (b := w) (by repeat (first | exact List.mem_cons_self | apply List.mem_cons_of_mem)) rfl ?_
      rw [pFieldAddr_v, add_mk]
      refine o.bload (b := x) (f := 0 + 4) (by repeat (first | exact List.mem_cons_self | apply List.mem_cons_of_mem)) rfl ?_
      refine refCrash_spec ok hoff (o.sl (v := lw) (by repeat (first | exact List.mem_cons_self | apply List.mem_cons_of_mem))) (o.sl (v := cw) (by repeat (first | exact List.mem_cons_self | apply List.mem_cons_of_mem))) (hfs.ext o.ext) (by omega) fun H11 y c => ?_
      have o := o.call c
      refine o.bstoreN (b := w) (by repeat (first | exact List.mem_cons_self | apply List.mem_cons_of_mem)) rfl rfl (all_cons (o.sl (v := y) (by repeat (first | exact List.mem_cons_self | apply List.mem_cons_of_mem))).one rfl) (by repeat (first | exact Rep.here | apply Rep.there)) fun H12 o _ => ?_
      rw [pFieldAddr_v, add_mk]
      refine o.bstore (b := w) (f := 0 + 2) (by repeat (first | exact List.mem_cons_self | apply List.mem_cons_of_mem)) (by simp) rfl (by repeat (first | exact Rep.here | apply Rep.there)) fun H13 o _ => ?_
      have o := nil_item 2 (by decide) o
      have e1 : (M.crash fs).n = M.n ∧ (M.crash fs).order = [] ∧ (M.crash fs).fuse = none := by
        unfold Dk.crash; rw [if_neg (by rw [hoff]; decide)]; exact ⟨rfl, rfl, rfl⟩
      refine ⟨{ M.crash fs with off := false }, y, .slice none 0 0, ⟨lv, r, ov, lf2, ?_, ok2⟩, e1.1.trans hn, rfl, e1.2.2⟩
      have e2 : (cacheR { M.crash fs with off := false }).flatten = [] := by unfold cacheR; show (List.map _ (M.crash fs).order).flatten = []; rw [e1.2.1]; rfl
      have e3 : genL ({ M.crash fs with off := false } : Dk).n ({ M.crash fs with off := false } : Dk).la = genL M.n (M.crash fs).la := by show genL (M.crash fs).n _ = _; rw [e1.1]
      rw [e2]
      have o : Owns H1 H13 (dkIts b lv r ov lf2 { M.crash fs with off := false } [.box w [y, .slice none 0 0, .bool false, .int .i64 (-1)] 47 , .sl y 1 (txtsV (genL M.n (M.crash fs).la)), .sl (.slice none 0 0) 2 []]) := o.arr (by repeat (first | exact Sels.nil | exact Sel.here | apply Sels.cons | apply Sel.there))
      rw [← e3] at o
      exact o
    · have d : Dsk H1 H8 b M [.box x [.int .i64 wh, .int .i64 a, byteV u, .int .i64 nn, .slice fa fl fc] 31 , .box w [lw, cw, .bool false, .int .i64 (-1)] 47 , .sl lw 1 (txtsV (genL M.n M.la)), .sl cw 2 (cacheR M).flatten] := ⟨lv, r, ov, lf, o.arr (by repeat (first | exact Sels.nil | exact Sel.here | apply Sels.cons | apply Sel.there)), ok⟩
      rw [pFieldAddr_v, add_mk]
      refine o.bload (b := x) (f := 0 + 1) (by repeat (first | exact List.mem_cons_self | apply List.mem_cons_of_mem)) rfl ?_
      rw [pFieldAddr_v, add_mk]
      refine o.bload (b := x) (f := 0 + 2) (by repeat (first | exact List.mem_cons_self | apply List.mem_cons_of_mem)) rfl ?_
      refine sector_spec fun H9 hx => ?_
      have o := o.more hx
      have d := d.more hx
      refine ⟨o.bload (b := x) (f := 0 + 1) (by repeat (first | exact List.mem_cons_self | apply List.mem_cons_of_mem)) rfl rfl, ?_⟩
      refine write_spec d fun H10 d => ?_
      obtain ⟨lv, r, ov, lf2, o, ok2⟩ := d
      refine o.bloadN (b := w) (by repeat (first | exact List.mem_cons_self | apply List.mem_cons_of_mem)) rfl ?_
      rw [pFieldAddr_v, add_mk]
      refine o.bload (b := x) (f := 0 + 1) (by repeat (first | exact List.mem_cons_self | apply List.mem_cons_of_mem)) rfl ?_
      rw [pFieldAddr_v, add_mk]
      refine o.bload (b := x) (f := 0 + 2) (by repeat (first | exact List.mem_cons_self | apply List.mem_cons_of_mem)) rfl ?_
      refine sector_spec fun H11 hx => ?_
      have o := o.more hx
      refine ⟨o.bloadN (b := w) (by repeat (first | exact List.mem_cons_self | apply List.mem_cons_of_mem)) rfl rfl, ?_⟩
      refine ⟨o.bload (b := x) (f := 0 + 1) (by repeat (first | exact List.mem_cons_self | apply List.mem_cons_of_mem)) rfl rfl, ?_⟩
      refine refWrite_spec ok (secB_len u) (o.sl (v := lw) (by repeat (first | exact List.mem_cons_self | apply List.mem_cons_of_mem))) (o.sl (v := cw) (by repeat (first | exact List.mem_cons_self | apply List.mem_cons_of_mem))) (fun hno H12 hx => ?_) (fun h0 hlt H12 y c => ?_)
      · have o := o.more hx
        have e := write_no (M := M) (secB_len u) hoff hno
        rw [e] at ok2 o
        refine pExtract_to rfl ?_
        refine pExtract_to rfl ?_
        refine o.bstoreN (b := w) (by repeat (first | exact List.mem_cons_self | apply List.mem_cons_of_mem)) rfl rfl (all_cons (o.sl (v := lw) (by repeat (first | exact List.mem_cons_self | apply List.mem_cons_of_mem))).one (all_cons (o.sl (v := cw) (by repeat (first | exact List.mem_cons_self | apply List.mem_cons_of_mem))).one rfl)) (by repeat (first | exact Rep.here | apply Rep.there)) fun H13 o _ => ?_
        exact ⟨M, lw, cw, ⟨lv, r, ov, lf2, o.arr (by repeat (first | exact Sels.nil | exact Sel.here | apply Sels.cons | apply Sel.there)), ok2⟩, hn, hoff, hfu⟩
      · have o := o.call c
        have e := write_ok (M := M) (i := a.toNat) (secB_len u) (by omega) hoff (by rw [hfu]; simp)
        rw [show ((a.toNat : Nat) : Int) = a by omega] at e
        rw [e] at ok2 o
        refine pExtract_to rfl ?_
        refine pExtract_to rfl ?_
        refine o.bstoreN (b := w) (by repeat (first | exact List.mem_cons_self | apply List.mem_cons_of_mem)) rfl rfl (all_cons (o.sl (v := lw) (by repeat (first | exact List.mem_cons_self | apply List.mem_cons_of_mem))).one (all_cons (o.sl (v := y) (by repeat (first | exact List.mem_cons_self | apply List.mem_cons_of_mem))).one rfl)) (by repeat (first | exact Rep.here | apply Rep.there)) fun H13 o _ => ?_
        refine ⟨M.put a.toNat (secB u), lw, y, ⟨lv, r, ov, lf2, o.arr (by repeat (first | exact Sels.nil | exact Sel.here | apply Sels.cons | apply Sel.there)), ok2⟩, hn, hoff, by show M.fuse.map _ = none; rw [hfu]; rfl⟩
  · refine image_spec d fun H7 hx => ?_
    have d := d.more hx
    obtain ⟨lv, r, ov, lf, o, ok⟩ := d
    have hil := image_len ok
    rw [hn] at hil
    refine load_spec (n := 6) o (by omega) (by decide) (by decide) fun H8 b2 d2 => ?_
    obtain ⟨lv2, r2, ov2, lf2, o, ok2⟩ := d2
    refine pExtract_to rfl ?_
    refine pExtract_to rfl ?_
    rw [pBits_v, and_low (k := 9) (m := 511) (n := cut) (by decide) rfl]
    refine pLenS_to ?_
    rw [pRem_v]
    refine ⟨by omega, ?_⟩
    obtain ⟨n, hne, hn384⟩ : ∃ n : Nat, (cut % 2 ^ 9).tmod (M.image.length : Int) = (n : Int) ∧ n < 384 := by
      have h0 : 0 ≤ cut % 2 ^ 9 := Int.emod_nonneg _ (by decide)
      have := Int.tmod_lt_of_pos (cut % 2 ^ 9) (show (0 : Int) < (M.image.length : Int) by omega)
      have h2 := Int.tmod_nonneg (M.image.length : Int) h0
      exact ⟨((cut % 2 ^ 9).tmod (M.image.length : Int)).toNat, by omega, by omega⟩
    rw [hne]
    refine pSlStr_to (lo := 0) (hi := n) (.inr ⟨rfl, rfl⟩) (.inl rfl) (by omega) (by omega) ?_
    rw [List.drop_zero, Nat.sub_zero]
    have hnl : (M.image.take n).length = n := by rw [List.length_take]; omega
    refine load_any o (by rw [hnl]; omega) fun H9 p e o he => ?_
    rw [hnl] at he
    refine pExtract_to rfl ?_
    refine pExtract_to rfl ?_
    have d : Dsk H1 H9 b M (dkIts b2 lv2 r2 ov2 lf2 (Dk.ofImage 6 M.image) [.box w [lw, cw, .bool false, .int .i64 (-1)] 47 , .sl lw 1 (txtsV (genL M.n M.la)), .sl cw 2 (cacheR M).flatten]) := ⟨lv, r, ov, lf, o.arr (by repeat (first | exact Sels.nil | exact Sel.here | apply Sels.cons | apply Sel.there)), ok⟩
    refine sync_spec d fun H10 d => ?_
    rw [sync_ok hoff (by rw [hfu]; simp)] at d
    obtain ⟨lv, r, ov, lf3, o, ok3⟩ := d
    change Owns H1 H10 (dkIts b lv r ov lf3 M.flush _) at o
    change DkOk M.flush lf3 at ok3
    have hla : ∀ j, j < 6 → (M.image.drop (64 * j)).take 64 = M.la j := fun j hj => by
      unfold Dk.image
      refine chunk64 _ _ _ (fun s hs => ?_) (by rw [hn]; exact genL_get hj)
      obtain ⟨q, hq, rfl⟩ := genL_mem hs
      exact ok.l64 q hq
    have himg : (Dk.ofImage 6 M.image).image = M.image := by
      show (genL 6 fun j => (M.image.drop (64 * j)).take 64).flatten = _
      rw [genL_congr hla]
      unfold Dk.image
      rw [hn]
    have d2 : Dsk H1 H10 b2 (Dk.ofImage 6 M.image) (dkIts b lv r ov lf3 M.flush [.box w [lw, cw, .bool false, .int .i64 (-1)] 47 , .sl lw 1 (txtsV (genL M.n M.la)), .sl cw 2 (cacheR M).flatten]) := ⟨lv2, r2, ov2, lf2, o.arr (by repeat (first | exact Sels.nil | exact Sel.here | apply Sels.cons | apply Sel.there)), ok2⟩
    rw [pEq_0, decide_eq_true (show (0 : Int) = 0 from rfl)]
    refine pAnd_true ?_
    refine image_spec d2 fun H11 hx => ?_
    have d2 := d2.more hx
    rw [himg]
    refine pEq1_to ?_
    rw [decide_eq_true rfl]
    intro _
    refine pAnd_true ?_
    refine on_spec d2 ?_
    intro _
    refine pAnd_true ?_
    rw [pEq_0, pGt_v]
    refine pAnd_if (d := decide (n % 64 = 0)) (fun _ => ?_) ?_
    · rw [pRem_v]
      refine ⟨by decide, ?_⟩
      rw [show ((n : Nat) : Int).tmod 64 = ((n % 64 : Nat) : Int) from rfl, pEq_0]
      refine ⟨?_, rfl⟩
      congr 1
      rw [decide_eq_decide]
      omega
    intro _
    rw [pEq_2]
    intro _
    rw [show (decide (decide (e = 0) = (decide ((n : Int) > 0) && decide (n % 64 = 0)))) = true from by
      rw [decide_eq_true_eq, Bool.eq_iff_iff, Bool.and_eq_true, decide_eq_true_eq, decide_eq_true_eq, decide_eq_true_eq, he]
      omega]
    refine pAnd_true ?_
    obtain ⟨lv2, r2, ov2, lf2, o, ok2⟩ := d2
    rw [pFieldAddr_v, add_mk]
    refine o.bload (b := w) (f := 0 + 1) (by repeat (first | exact List.mem_cons_self | apply List.mem_cons_of_mem)) rfl ?_
    refine (o.sl (v := cw) (by repeat (first | exact List.mem_cons_self | apply List.mem_cons_of_mem))).len cacheR_len (by decide) ?_
    rw [pGt_v]
    refine pOr_if (d := true) (fun h0 => ?_) ?_
    · rw [decide_eq_false_iff_not] at h0
      have hord : M.order = [] := List.length_eq_zero_iff.1 (by omega)
      refine same_spec o ok2 ok3 (by repeat (first | exact List.mem_cons_self | apply List.mem_cons_of_mem)) (by repeat (first | exact List.mem_cons_self | apply List.mem_cons_of_mem)) (by repeat (first | exact List.mem_cons_self | apply List.mem_cons_of_mem)) (by repeat (first | exact List.mem_cons_self | apply List.mem_cons_of_mem)) (by repeat (first | exact List.mem_cons_self | apply List.mem_cons_of_mem)) (by repeat (first | exact List.mem_cons_self | apply List.mem_cons_of_mem)) ?_
      refine ⟨?_, rfl⟩
      rw [decide_eq_true]
      refine ⟨rfl, rfl, ?_⟩
      show genL 6 _ = genL M.n _
      rw [hn]
      refine genL_congr fun j hj => ?_
      show (M.image.drop (64 * j)).take 64 = (M.cs j).getD (M.la j)
      rw [hla j hj]
      have : M.cs j = none := by
        cases hs : M.cs j with
        | none => rfl
        | some s => have := (ok.dom j).2 (by rw [hs]; rfl); rw [hord] at this; cases this
      rw [this]; rfl
    intro _
    rw [Bool.or_true]
    intro _
    refine pAnd_true ?_
    refine dirty_nil ?_
    rw [pLen_v]
    rw [pEq_0, decide_eq_true (show ((0 : Nat) : Int) = 0 from rfl)]
    intro _
    refine pAnd_true ?_
    refine image_nil ?_
    refine pEq1_to ?_
    rw [decide_eq_true rfl]
    intro _
    exact ⟨rfl, hx1.trans o.ext⟩
end Go.Proofs.Ythadmceioakgnaa
