/- The laws DiskLasts and DiskCopies over heaps. -/
import Derived.Test.YthadmceioakgnaaLaw17
import Derived.Test.YthadmceioakgnaaVcRows
namespace Go.Proofs.Ythadmceioakgnaa
open Go Go.Vc Go.Proofs
set_option linter.unusedVariables false
set_option linter.unusedSimpArgs false
variable {H H0 : Heap} {R : Value → Heap → Prop} {v : Value} {L : List It} {b : Nat} {M : Dk}
theorem flat_cell17 {n : Nat} {L : List (List Value)} {i j : Nat} {r : List Value} (hl : ∀ r ∈ L, r.length = n) (hi : L[i]? = some r) (hj : j < n) : L.flatten[i * n + j]? = r[j]? := by
  have hil := (List.getElem?_eq_some_iff.1 hi).1
  have hir := (List.getElem?_eq_some_iff.1 hi).2
  have e : L = L.take i ++ r :: L.drop (i + 1) := by rw [← hir, ← List.drop_eq_getElem_cons hil, List.take_append_drop]
  have hp : (L.take i).flatten.length = i * n := by
    rw [flat_len (L.take i) (fun x hx => hl x (List.mem_of_mem_take hx)), List.length_take, Nat.min_eq_left (by omega)]
  have hr : r.length = n := by rw [← hir]; exact hl _ (List.getElem_mem hil)
  rw [e, List.flatten_append, List.flatten_cons, List.getElem?_append_right (by omega), List.getElem?_append_left (by omega)]
  congr 1
  omega
/-- writes, one behind the other -/
def runW (M : Dk) (l : List (Nat × UInt8)) : Dk := l.foldl (fun M p => M.put p.1 (secB p.2)) M
theorem runW_snoc (M : Dk) (l : List (Nat × UInt8)) (p : Nat × UInt8) : runW M (l ++ [p]) = (runW M l).put p.1 (secB p.2) := by unfold runW; rw [List.foldl_append]; rfl
theorem runW_keep (M : Dk) : ∀ l, (runW M l).n = M.n ∧ (runW M l).la = M.la ∧ (runW M l).off = M.off ∧ (M.fuse = none → (runW M l).fuse = none) := fun l => by
  unfold runW
  induction l generalizing M with
  | nil => exact ⟨rfl, rfl, rfl, id⟩
  | cons p l ih =>
    have := ih (M.put p.1 (secB p.2))
    exact ⟨this.1, this.2.1, this.2.2.1, fun h => this.2.2.2 (by show M.fuse.map _ = none; rw [h]; rfl)⟩
abbrev actDs : List TypeDesc := [.int .i64, .int .i64, .int .u8, .int .i64, .slice 3 ]
theorem act5 {r : List Value} (hl : r.length = 5) (hf : FitAll actDs fun j => r[j]?) : ∃ (w a : Int) (u : UInt8) (n : Int) (f : Value), r = [.int .i64 w, .int .i64 a, byteV u, .int .i64 n, f] := by
  match r, hl with
  | [x0, x1, x2, x3, x4], _ =>
    obtain ⟨_, h0, w, rfl, k0⟩ := hf 0 _ rfl
    obtain ⟨_, h1, a, rfl, k1⟩ := hf 1 _ rfl
    obtain ⟨_, h2, c, rfl, k2⟩ := hf 2 _ rfl
    obtain ⟨_, h3, n, rfl, k3⟩ := hf 3 _ rfl
    simp at h0 h1 h2 h3
    have b2 := wfu8 k2
    refine ⟨w, a, UInt8.ofNat c.toNat, n, x4, ?_⟩
    rw [h0, h1, h2, h3]
    have : Value.int .u8 c = byteV (UInt8.ofNat c.toNat) := by
      unfold byteV
      rw [UInt8.toNat_ofNat']
      congr 1
      omega
    rw [this]
def actOf (r : List Value) : Nat × UInt8 := match r with
  | [_, .int _ a, .int _ u, _, _] => ((a % 8).toNat, UInt8.ofNat u.toNat)
  | _ => (0, 0)
theorem actOf_five (w a : Int) (u : UInt8) (n : Int) (f : Value) : actOf [.int .i64 w, .int .i64 a, byteV u, .int .i64 n, f] = ((a % 8).toNat, u) := by
  show ((a % 8).toNat, UInt8.ofNat ((u.toNat : Int)).toNat) = _
  rw [Int.toNat_natCast, UInt8.ofNat_toNat]
/-- what a slice of acts tells -/
structure Acts (H : Heap) (v : Value) (A : List (Nat × UInt8)) : Prop where
  at_ : ∀ (k : Nat) (h : k < A.length), ∀ {H' : Heap}, Ext H H' → ∃ a : Int, a % 8 = (A[k].1 : Int) ∧
    (∀ {K : Value → Prop}, (∀ p, (∀ {H'' : Heap} {K : Value → Prop}, Ext H H'' → K (.int .i64 a) → pLoad H'' p K) → K p) → pIdxSl 5 v (.int .i64 (k : Int)) fun x => pFieldAddr 1 x K) ∧
    (∀ {K : Value → Prop}, K (byteV A[k].2) → pIdxSl 5 v (.int .i64 (k : Int)) fun x => pFieldAddr 2 x fun y => pLoad H' y K)
  len : ∀ {K : Value → Prop}, K (.int .i64 (A.length : Int)) → pLen v K
  lt8 : ∀ p ∈ A, p.1 < 8
theorem acts_of {a : Option Addr} {len cap : Nat} (w0 : StructRow actDs H a len cap) : ∃ A, Acts H (.slice a len cap) A := by
  obtain ⟨T, hTl, hTm, hT1, hT2, hS⟩ := w0.rows (by decide)
  have hSl : T.flatten.length = len * 5 := by rw [flat_len T hT1, hTl]; rfl
  refine ⟨T.map actOf, ⟨fun k hk H' hx => ?_, fun hK => ?_, fun p hp => ?_⟩⟩
  · have hkT : k < T.length := by rw [List.length_map] at hk; exact hk
    obtain ⟨w, a', u, n, f, hr⟩ := act5 (hT1 _ (List.getElem_mem hkT)) (hT2 _ (List.getElem_mem hkT))
    have hTk : T[k]? = some [.int .i64 w, .int .i64 a', byteV u, .int .i64 n, f] := by rw [List.getElem?_eq_getElem hkT, hr]
    have e : (T.map actOf)[k] = ((a' % 8).toNat, u) := by rw [List.getElem_map, hr, actOf_five]
    refine ⟨a', by rw [e]; show a' % 8 = ((a' % 8).toNat : Int); omega, fun {K} hK => ?_, fun {K} hK => ?_⟩
    · refine hS.at_ hSl (by decide) (by omega) (by omega) fun p hp => ?_
      refine hp.field (f := 1) fun q hq => ?_
      refine hK q fun {H''} {K'} hx2 hK2 => ?_
      exact hq.load (hS.ext hx2) (by rw [Int.toNat_natCast]; exact (flat_cell17 (n := 5) hT1 hTk (by decide)).trans rfl) hK2
    · rw [e] at hK
      refine hS.at_ hSl (by decide) (by omega) (by omega) fun p hp => ?_
      refine hp.field (f := 2) fun q hq => ?_
      exact hq.load (hS.ext hx) (by rw [Int.toNat_natCast]; exact (flat_cell17 (n := 5) hT1 hTk (by decide)).trans rfl) hK
  · refine hS.len hSl (by decide) ?_
    rw [List.length_map, hTl] at hK
    exact hK
  · obtain ⟨r, hr, rfl⟩ := List.mem_map.1 hp
    obtain ⟨w, a', u, n, f, rfl⟩ := act5 (hT1 _ hr) (hT2 _ hr)
    rw [actOf_five]
    show (a' % 8).toNat < 8
    omega
theorem acts_ext {H' : Heap} {A : List (Nat × UInt8)} (h : Acts H v A) (hx : Ext H H') : Acts H' v A :=
  ⟨fun k hk H'' hx2 => by
    obtain ⟨a, h1, h2, h3⟩ := h.at_ k hk (hx.trans hx2)
    exact ⟨a, h1, fun hK => h2 fun p hp => hK p fun hx3 => hp (hx.trans hx3), h3⟩, h.len, h.lt8⟩
theorem put_la (M : Dk) (i : Nat) (s : List UInt8) : (M.put i s).la = M.la := rfl
theorem put_off (M : Dk) (i : Nat) (s : List UInt8) : (M.put i s).off = M.off := rfl
set_option maxHeartbeats 1000000 in
theorem DiskLasts_law (a0 : Option Addr) (len0 cap0 : Nat) (a1 : Option Addr) (len1 cap1 : Nat) (a2 : Option Addr) (len2 cap2 : Nat) (zs : List Int) (w0 : StructRow actDs H a0 len0 cap0) (w1 : StructRow actDs H a1 len1 cap1) (w2 : IntRow .i64 H a2 len2 cap2 zs) :
    CallsH Try.prog 3 #[.slice a0 len0 cap0, .slice a1 len1 cap1, .slice a2 len2 cap2] H (LawOk H) := by
  obtain ⟨A, hA⟩ := acts_of w0
  obtain ⟨B, hB⟩ := acts_of w1
  obtain ⟨fs, hfl, hfm, _, hfs⟩ := int_rows w2
  refine lighterlaw17_DiskLasts.vc _ _ _ _ _ ?_
  unfold lighterlaw17_DiskLasts.res
  refine speaks17_spec fun H1 hx1 => ?_
  rw [pNot_v, Bool.not_true, pCond_false]
  have hA := acts_ext hA hx1
  have hB := acts_ext hB hx1
  have hfs := hfs.ext hx1
  refine new_spec (n := 8) (Owns.start (H := H1)) (by decide) (by decide) fun H2 b d => ?_
  refine pExtract_to rfl ?_
  refine pExtract_to rfl ?_
  refine ⟨fun i H' => ∃ k : Nat, i = .int .i64 k ∧ k ≤ A.length ∧ k ≤ 20 ∧ Dsk H1 H' b (runW (Dk.new 8) (A.take k)) [], fun i _ => match i with | .int _ x => 100 - x.toNat | _ => 0, ⟨0, rfl, by omega, by omega, d⟩, ?_⟩
  clear d
  rintro _ _ H3 ⟨k, rfl, hk, hk20, d⟩
  refine hA.len ?_
  rw [pLt_v]
  refine pAnd_if (d := decide ((k : Int) < 20)) (fun _ => by rw [pLt_v]; exact ⟨rfl, rfl⟩) ?_
  intro _
  refine pCond_b (fun hc => ?_) (fun hc => ?_)
  · rw [Bool.and_eq_true, decide_eq_true_eq, decide_eq_true_eq] at hc
    have hkA : k < A.length := by omega
    obtain ⟨a, ha, h2, h3⟩ := hA.at_ k hkA d.ext
    have h8 := hA.lt8 _ (List.getElem_mem hkA)
    refine h2 fun p hp => ?_
    refine hp d.ext ?_
    rw [pBits_v, and_low (k := 3) (m := 7) (n := a) (by decide) rfl, show a % 2 ^ 3 = (A[k].1 : Int) from ha]
    refine h3 ?_
    refine sector_spec fun H4 hx => ?_
    have d := d.more hx
    refine ⟨hp d.ext rfl, ?_⟩
    refine write_spec d fun H5 d => ?_
    have hkp := runW_keep (Dk.new 8) (A.take k)
    rw [write_ok (secB_len _) (by rw [hkp.1]; exact h8) (by rw [hkp.2.2.1]; rfl) (by rw [hkp.2.2.2 rfl]; simp)] at d
    rw [pAdd_v, w64 (n := (k : Int) + 1) (by omega) (by omega)]
    refine ⟨⟨k + 1, rfl, by omega, by omega, ?_⟩, by show 100 - ((k : Int) + 1).toNat < 100 - (k : Int).toNat; omega⟩
    rw [List.take_add_one, List.getElem?_eq_getElem hkA, Option.toList, runW_snoc]
    exact d
  clear hc hk hk20
  have hkp := runW_keep (Dk.new 8) (A.take k)
  refine sync_spec d fun H4 d => ?_
  rw [sync_ok (by rw [hkp.2.2.1]; rfl) (by rw [hkp.2.2.2 rfl]; simp)] at d ⊢
  rw [pNe_0, decide_eq_false (by simp), pCond_false]
  obtain ⟨M1, hM1⟩ : ∃ M1, M1 = (runW (Dk.new 8) (A.take k)).flush := ⟨_, rfl⟩
  have hn1 : M1.n = 8 := by rw [hM1]; exact hkp.1
  have ho1 : M1.off = false := by rw [hM1]; exact hkp.2.2.1
  have hf1 : M1.fuse = none := by rw [hM1]; exact hkp.2.2.2 rfl
  have hc1 : M1.cs = fun _ => none := by rw [hM1]; rfl
  change Dsk H1 H4 b (runW (Dk.new 8) (A.take k)).flush [] at d
  rw [← hM1] at d
  clear hM1 hkp
  obtain ⟨lv, r, ov, lf, o, ok⟩ := d
  refine copy_spec o ok fun H5 b2 lv2 r2 ov2 o => ?_
  have o : Owns H1 H5 (dkIts b lv r ov lf M1 (dkIts b2 lv2 r2 ov2 lf M1 [])) := o.arrT (by repeat (first | exact SelsT.refl | exact Sel.here | apply SelsT.cons | apply Sel.there))
  refine copy_spec o ok fun H6 b3 lv3 r3 ov3 o => ?_
  have ok3 := ok
  have ok2 := ok
  have o : Owns H1 H6 (dkIts b lv r ov lf M1 (dkIts b3 lv3 r3 ov3 lf M1 (dkIts b2 lv2 r2 ov2 lf M1 []))) := o.arrT (by repeat (first | exact SelsT.refl | exact Sel.here | apply SelsT.cons | apply Sel.there))
  generalize hlf2 : lf = lf2 at ok2
  rw [hlf2] at o
  refine ⟨fun i H' => ∃ k : Nat, i = .int .i64 k ∧ k ≤ B.length ∧ k ≤ 20 ∧ ∃ lv r ov lf lv3 r3 ov3 lf3, Owns H1 H' (dkIts b lv r ov lf (runW M1 (B.take k)) (dkIts b3 lv3 r3 ov3 lf3 (runW M1 (B.take k)) (dkIts b2 lv2 r2 ov2 lf2 M1 []))) ∧ DkOk (runW M1 (B.take k)) lf ∧ DkOk (runW M1 (B.take k)) lf3, fun i _ => match i with | .int _ x => 100 - x.toNat | _ => 0, ⟨0, rfl, by omega, by omega, lv, r, ov, lf2, lv3, r3, ov3, lf2, o, ok2, ok2⟩, ?_⟩
  clear o ok ok3 hlf2
  rintro _ _ H7 ⟨k, rfl, hk, hk20, lv, r, ov, lf, lv3, r3, ov3, lf3, o, ok, ok3⟩
  refine hB.len ?_
  rw [pLt_v]
  refine pAnd_if (d := decide ((k : Int) < 20)) (fun _ => by rw [pLt_v]; exact ⟨rfl, rfl⟩) ?_
  intro _
  have hkp := runW_keep M1 (B.take k)
  rw [ho1] at hkp
  have hkf := hkp.2.2.2 hf1
  refine pCond_b (fun hc => ?_) (fun hc => ?_)
  · rw [Bool.and_eq_true, decide_eq_true_eq, decide_eq_true_eq] at hc
    have hkB : k < B.length := by omega
    have h8 := hB.lt8 _ (List.getElem_mem hkB)
    have hwr : (runW M1 (B.take k)).write (B[k].1 : Int) (secB B[k].2) = ((runW M1 (B.take k)).put B[k].1 (secB B[k].2), 0) := write_ok (secB_len _) (by rw [hkp.1, hn1]; exact h8) hkp.2.2.1 (by rw [hkf]; simp)
    have d : Dsk H1 H7 b (runW M1 (B.take k)) (dkIts b3 lv3 r3 ov3 lf3 (runW M1 (B.take k)) (dkIts b2 lv2 r2 ov2 lf2 M1 [])) := ⟨lv, r, ov, lf, o, ok⟩
    obtain ⟨a, ha, h2, h3⟩ := hB.at_ k hkB d.ext
    refine h2 fun p hp => ?_
    refine hp d.ext ?_
    rw [pBits_v, and_low (k := 3) (m := 7) (n := a) (by decide) rfl, show a % 2 ^ 3 = (B[k].1 : Int) from ha]
    refine h3 ?_
    refine sector_spec fun H8 hx => ?_
    have d := d.more hx
    refine ⟨hp d.ext rfl, ?_⟩
    refine write_spec d fun H9 d => ?_
    rw [hwr] at d
    obtain ⟨a, ha, h2, h3⟩ := hB.at_ k hkB d.ext
    refine h2 fun p hp => ?_
    refine hp d.ext ?_
    rw [pBits_v, and_low (k := 3) (m := 7) (n := a) (by decide) rfl, show a % 2 ^ 3 = (B[k].1 : Int) from ha]
    refine h3 ?_
    refine sector_spec fun H10 hx => ?_
    have d := d.more hx
    refine ⟨hp d.ext rfl, ?_⟩
    obtain ⟨lv, r, ov, lf, o, ok⟩ := d
    have d : Dsk H1 H10 b3 (runW M1 (B.take k)) (dkIts b lv r ov lf ((runW M1 (B.take k)).put B[k].1 (secB B[k].2)) (dkIts b2 lv2 r2 ov2 lf2 M1 [])) := ⟨lv3, r3, ov3, lf3, o.arrT (by repeat (first | exact SelsT.refl | exact Sel.here | apply SelsT.cons | apply Sel.there)), ok3⟩
    refine write_spec d fun H11 d => ?_
    rw [hwr] at d
    obtain ⟨lv3, r3, ov3, lf3, o, ok3⟩ := d
    rw [pAdd_v, w64 (n := (k : Int) + 1) (by omega) (by omega)]
    refine ⟨⟨k + 1, rfl, by omega, by omega, lv, r, ov, lf, lv3, r3, ov3, lf3, ?_⟩, by show 100 - ((k : Int) + 1).toNat < 100 - (k : Int).toNat; omega⟩
    rw [List.take_add_one, List.getElem?_eq_getElem hkB, Option.toList, runW_snoc]
    exact ⟨o.arrT (by repeat (first | exact SelsT.refl | exact Sel.here | apply SelsT.cons | apply Sel.there)), ok, ok3⟩
  clear hc hk hk20
  generalize runW M1 (B.take k) = M2 at *
  have d : Dsk H1 H7 b M2 (dkIts b3 lv3 r3 ov3 lf3 M2 (dkIts b2 lv2 r2 ov2 lf2 M1 [])) := ⟨lv, r, ov, lf, o, ok⟩
  clear o ok
  refine crash_spec d (.inl hfs) (by omega) fun H8 d => ?_
  refine start_spec d fun H9 d => ?_
  obtain ⟨lv, r, ov, lf, o, ok⟩ := d
  refine ⟨fun i H' => ∃ k : Nat, i = .int .i64 k ∧ H9 = H', fun i _ => match i with | .int _ x => 100 - x.toNat | _ => 0, ⟨0, rfl, rfl⟩, ?_⟩
  rintro _ _ _ ⟨k, rfl, rfl⟩
  rw [pLt_v]
  refine pCond_if (fun hc => ?_) (fun _ => ⟨rfl, hx1.trans o.ext⟩)
  have hk8 : k < 8 := by omega
  have hcn : (M2.crash fs).n = 8 := by
    unfold Dk.crash
    split
    · rw [hkp.1, hn1]
    · show M2.n = 8; rw [hkp.1, hn1]
  have d1 : Dsk H1 H9 b { M2.crash fs with off := false } (dkIts b3 lv3 r3 ov3 lf3 M2 (dkIts b2 lv2 r2 ov2 lf2 M1 [])) := ⟨lv, r, ov, lf, o, ok⟩
  have d2 : Dsk H1 H9 b2 M1 (dkIts b lv r ov lf { M2.crash fs with off := false } (dkIts b3 lv3 r3 ov3 lf3 M2 [])) := ⟨lv2, r2, ov2, lf2, o.arrT (by repeat (first | exact SelsT.refl | exact Sel.here | apply SelsT.cons | apply Sel.there)), ok2⟩
  have d3 : Dsk H1 H9 b3 M2 (dkIts b lv r ov lf { M2.crash fs with off := false } (dkIts b2 lv2 r2 ov2 lf2 M1 [])) := ⟨lv3, r3, ov3, lf3, o.arrT (by repeat (first | exact SelsT.refl | exact Sel.here | apply SelsT.cons | apply Sel.there)), ok3⟩
  refine read_spec d1 ?_
  refine pExtract_to rfl ?_
  refine pExtract_to rfl ?_
  refine read_spec d2 ?_
  refine pExtract_to rfl ?_
  refine pExtract_to rfl ?_
  refine read_spec d3 ?_
  refine pExtract_to rfl ?_
  refine pExtract_to rfl ?_
  rw [read_ok (M := { M2.crash fs with off := false }) (by show k < (M2.crash fs).n; rw [hcn]; exact hk8) rfl, read_ok (M := M1) (by rw [hn1]; exact hk8) ho1, read_ok (M := M2) (by rw [hkp.1, hn1]; exact hk8) hkp.2.2.1]
  have hA64 : (M1.sec k).length = 64 := by
    unfold Dk.sec; rw [hc1]; exact ok2.l64 k (by rw [hn1]; exact hk8)
  have hB64 : (M2.sec k).length = 64 := by
    unfold Dk.sec
    cases hs : M2.cs k with
    | some s => exact ok3.c64 k s hs
    | none => exact ok3.l64 k (by rw [hkp.1, hn1]; exact hk8)
  have hsec : ∃ f, Dk.sec { M2.crash fs with off := false } k = tornF (M1.sec k) (M2.sec k) f ∧ f < 4 := by
    have e0 : M1.sec k = M2.la k := by unfold Dk.sec; rw [hc1, hkp.2.1]; rfl
    unfold Dk.crash
    rw [if_neg (by rw [hkp.2.2.1]; decide), e0]
    show ∃ f, (match M2.cs k with | some s => tornF (M2.la k) s (fateN fs (M2.order.idxOf k)) | none => M2.la k) = _ ∧ _
    unfold Dk.sec
    cases hs : M2.cs k with
    | some s => exact ⟨_, rfl, fateN_lt _ _⟩
    | none => exact ⟨0, rfl, by decide⟩
  obtain ⟨f, hf, hf4⟩ := hsec
  dsimp only
  rw [hf]
  generalize M1.sec k = x at *
  generalize M2.sec k = y at *
  refine pNe1_to ?_
  refine pAnd_if (d := decide (tornF x y f ≠ y)) (fun _ => by refine pNe1_to ?_; exact ⟨rfl, rfl⟩) ?_
  intro _
  have hcut : ∀ {a c : List UInt8} {K : Value → Prop}, a.length = 64 → c.length = 64 → K (str (a.take 32 ++ c.drop 32)) → pSlStr (str a) none (some (.int .i64 32)) fun x => pSlStr (str c) (some (.int .i64 32)) none fun y => pAdd x y fun z => K z := fun {a c K} ha hc hK =>
    pSlStr_to (lo := 0) (hi := 32) (.inr ⟨rfl, rfl⟩) (.inl rfl) (by omega) (by omega) (pSlStr_to (lo := 32) (hi := c.length) (.inl rfl) (.inr ⟨rfl, rfl⟩) (by omega) (by omega) (pAdd_str (by simp only [List.length_take, List.length_drop]; omega) (by
      rw [List.drop_zero, Nat.sub_zero, List.take_of_length_le (l := c.drop 32) (by rw [List.length_drop]; omega)]; exact hK)))
  refine pAnd_if (d := decide (tornF x y f ≠ x.take 32 ++ y.drop 32)) (fun _ => hcut hA64 hB64 (by refine pNe1_to ?_; exact ⟨rfl, rfl⟩)) ?_
  intro _
  refine pAnd_if (d := decide (tornF x y f ≠ y.take 32 ++ x.drop 32)) (fun _ => hcut hB64 hA64 (by refine pNe1_to ?_; exact ⟨rfl, rfl⟩)) ?_
  intro _
  rw [show (decide (tornF x y f ≠ x) && decide (tornF x y f ≠ y) && decide (tornF x y f ≠ x.take 32 ++ y.drop 32) && decide (tornF x y f ≠ y.take 32 ++ x.drop 32)) = false from ?_, pCond_false]
  · rw [pAdd_v, w64 (n := (k : Int) + 1) (by omega) (by omega)]
    exact ⟨⟨k + 1, rfl, rfl⟩, by show 100 - ((k : Int) + 1).toNat < 100 - (k : Int).toNat; omega⟩
  · rw [← Bool.not_eq_true]
    intro hb
    simp only [Bool.and_eq_true, decide_eq_true_eq] at hb
    unfold tornF at hb
    split at hb
    · exact hb.1.1.2 rfl
    · split at hb
      · exact hb.2 rfl
      · split at hb
        · exact hb.1.2 rfl
        · exact hb.1.1.1 rfl
end Go.Proofs.Ythadmceioakgnaa
