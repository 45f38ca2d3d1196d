/- The law DiskCopies over heaps. -/
import Derived.Test.YthadmceioakgnaaLaw17b
namespace Go.Proofs.Ythadmceioakgnaa
open Go Go.Vc Go.Proofs
set_option linter.unusedVariables false
set_option linter.unusedSimpArgs false
variable {H H0 : Heap} {R : Value → Heap → Prop} {v : Value} {L : List It} {b : Nat} {M : Dk}
theorem secB_inj {u w : UInt8} (h : secB u = secB w) : u = w := by
  have := congrArg (fun l => l[0]?) h
  simpa [secB] using this
theorem runW_order (M : Dk) (l : List (Nat × UInt8)) (h : l ≠ []) : (runW M l).order ≠ [] := by
  rcases List.eq_nil_or_concat l with rfl | ⟨l', p, rfl⟩
  · exact absurd rfl h
  · rw [List.concat_eq_append, runW_snoc]
    show (_ ++ [p.1]) ≠ []
    simp
open Classical in
set_option maxHeartbeats 1000000 in
theorem DiskCopies_law (a0 : Option Addr) (len0 cap0 : Nat) (at_ b2 : Int) (w0 : StructRow actDs H a0 len0 cap0) (w1 : (Lit.int .i64 at_).wf = true) (w2 : (Lit.int .u8 b2).wf = true) :
    CallsH Try.prog 4 #[.slice a0 len0 cap0, .int .i64 at_, .int .u8 b2] H (LawOk H) := by
  obtain ⟨A, hA⟩ := acts_of w0
  obtain ⟨u, hu⟩ : ∃ u : UInt8, Value.int .u8 b2 = byteV u := by
    have := wfu8 w2
    refine ⟨UInt8.ofNat b2.toNat, ?_⟩
    unfold byteV
    rw [UInt8.toNat_ofNat']
    congr 1
    omega
  rw [hu]
  obtain ⟨q, hq, hq8⟩ : ∃ q : Nat, at_ % 2 ^ 3 = (q : Int) ∧ q < 8 := ⟨(at_ % 2 ^ 3).toNat, by omega, by omega⟩
  have hand : bitsOf .and .i64 at_ 7 = (q : Int) := by rw [and_low (k := 3) (m := 7) (n := at_) (by decide) rfl, hq]
  refine lighterlaw17_DiskCopies.vc _ _ _ _ _ ?_
  unfold lighterlaw17_DiskCopies.res
  refine speaks17_spec fun H1 hx1 => ?_
  rw [pNot_v, Bool.not_true, pCond_false]
  have hA := acts_ext hA hx1
  refine new_spec (n := 8) (Owns.start (H := H1)) (by decide) (by decide) fun H2 b d => ?_
  refine pExtract_to rfl ?_
  refine pExtract_to rfl ?_
  refine ⟨fun i H' => ∃ k : Nat, i = .int .i64 k ∧ k ≤ A.length ∧ k ≤ 20 ∧ Dsk H1 H' b (runW (Dk.new 8) (A.take k)) [], fun i _ => match i with | .int _ x => 100 - x.toNat | _ => 0, ⟨0, rfl, by omega, by omega, d⟩, ?_⟩
  clear d
  rintro _ _ H3 ⟨k, rfl, hk, hk20, d⟩
  refine hA.len ?_
  rw [pLt_v]
  refine pAnd_if (d := decide ((k : Int) < 20)) (fun _ => by rw [pLt_v]; exact ⟨rfl, rfl⟩) ?_
  intro _
  have hkp := runW_keep (Dk.new 8) (A.take k)
  refine pCond_b (fun hc => ?_) (fun hc => ?_)
  · rw [Bool.and_eq_true, decide_eq_true_eq, decide_eq_true_eq] at hc
    have hkA : k < A.length := by omega
    obtain ⟨a, ha, h2, h3⟩ := hA.at_ k hkA d.ext
    have h8 := hA.lt8 _ (List.getElem_mem hkA)
    refine h2 fun p hp => ?_
    refine hp d.ext ?_
    rw [pBits_v, and_low (k := 3) (m := 7) (n := a) (by decide) rfl, show a % 2 ^ 3 = (A[k].1 : Int) from ha]
    refine h3 ?_
    refine sector_spec fun H4 hx => ?_
    have d := d.more hx
    refine ⟨hp d.ext rfl, ?_⟩
    refine write_spec d fun H5 d => ?_
    rw [write_ok (secB_len _) (by rw [hkp.1]; exact h8) (by rw [hkp.2.2.1]; rfl) (by rw [hkp.2.2.2 rfl]; simp)] at d
    rw [pAdd_v, w64 (n := (k : Int) + 1) (by omega) (by omega)]
    refine ⟨⟨k + 1, rfl, by omega, by omega, ?_⟩, by show 100 - ((k : Int) + 1).toNat < 100 - (k : Int).toNat; omega⟩
    rw [List.take_add_one, List.getElem?_eq_getElem hkA, Option.toList, runW_snoc]
    exact d
  have hke : k = min A.length 20 := by
    simp only [Bool.and_eq_false_iff, decide_eq_false_iff_not] at hc
    clear hkp
    omega
  have hord : 0 < A.length → (runW (Dk.new 8) (A.take k)).order ≠ [] := fun h0 => runW_order _ _ (by
    intro e
    have := congrArg List.length e
    rw [List.length_take, List.length_nil] at this
    omega)
  clear hc hk hk20 hke
  obtain ⟨M0, hM0⟩ : ∃ M0, M0 = runW (Dk.new 8) (A.take k) := ⟨_, rfl⟩
  rw [← hM0] at d hord hkp
  have hn1 : M0.n = 8 := hkp.1
  have ho1 : M0.off = false := hkp.2.2.1
  have hf1 : M0.fuse = none := hkp.2.2.2 rfl
  clear hM0 hkp
  obtain ⟨lv, r, ov, lf, o, ok⟩ := d
  refine copy_spec o ok fun H5 c lv2 r2 ov2 o => ?_
  refine hA.len ?_
  rw [pGt_v]
  refine pAnd_if (d := false) (fun h0 => ?_) ?_
  · refine same_spec o ok ok (by repeat (first | exact List.mem_cons_self | apply List.mem_cons_of_mem)) (by repeat (first | exact List.mem_cons_self | apply List.mem_cons_of_mem)) (by repeat (first | exact List.mem_cons_self | apply List.mem_cons_of_mem)) (by repeat (first | exact List.mem_cons_self | apply List.mem_cons_of_mem)) (by repeat (first | exact List.mem_cons_self | apply List.mem_cons_of_mem)) (by repeat (first | exact List.mem_cons_self | apply List.mem_cons_of_mem)) ?_
    refine ⟨?_, rfl⟩
    rw [decide_eq_false]
    intro g
    rw [decide_eq_true_eq] at h0
    exact hord (by omega) g.1
  intro _
  rw [Bool.and_false, pCond_false]
  have d : Dsk H1 H5 b M0 (dkIts c lv2 r2 ov2 lf M0 []) := ⟨lv, r, ov, lf, o.arrT (by repeat (first | exact SelsT.refl | exact Sel.here | apply SelsT.cons | apply Sel.there)), ok⟩
  refine sync_spec d fun H6 d => ?_
  rw [sync_ok ho1 (by rw [hf1]; simp)] at d
  change Dsk H1 H6 b M0.flush _ at d
  obtain ⟨lv, r, ov, lf', o, okb⟩ := d
  have d : Dsk H1 H6 c M0 (dkIts b lv r ov lf' M0.flush []) := ⟨lv2, r2, ov2, lf, o.arrT (by repeat (first | exact SelsT.refl | exact Sel.here | apply SelsT.cons | apply Sel.there)), ok⟩
  refine sync_spec d fun H7 d => ?_
  rw [sync_ok ho1 (by rw [hf1]; simp)] at d
  change Dsk H1 H7 c M0.flush _ at d
  have hn1 : M0.flush.n = 8 := hn1
  have ho1 : M0.flush.off = false := ho1
  have hf1 : M0.flush.fuse = none := hf1
  have hor : M0.flush.order = [] := rfl
  have hcs : M0.flush.cs = fun _ => none := rfl
  clear hord ok
  generalize M0.flush = M1 at *
  obtain ⟨lv2, r2, ov2, lf2, o, okc⟩ := d
  refine same_spec o okb okc (by repeat (first | exact List.mem_cons_self | apply List.mem_cons_of_mem)) (by repeat (first | exact List.mem_cons_self | apply List.mem_cons_of_mem)) (by repeat (first | exact List.mem_cons_self | apply List.mem_cons_of_mem)) (by repeat (first | exact List.mem_cons_self | apply List.mem_cons_of_mem)) (by repeat (first | exact List.mem_cons_self | apply List.mem_cons_of_mem)) (by repeat (first | exact List.mem_cons_self | apply List.mem_cons_of_mem)) ?_
  rw [decide_eq_true ⟨hor, hor, rfl⟩, pNot_v, Bool.not_true]
  refine pOr_false ?_
  refine same_spec o okc okb (by repeat (first | exact List.mem_cons_self | apply List.mem_cons_of_mem)) (by repeat (first | exact List.mem_cons_self | apply List.mem_cons_of_mem)) (by repeat (first | exact List.mem_cons_self | apply List.mem_cons_of_mem)) (by repeat (first | exact List.mem_cons_self | apply List.mem_cons_of_mem)) (by repeat (first | exact List.mem_cons_self | apply List.mem_cons_of_mem)) (by repeat (first | exact List.mem_cons_self | apply List.mem_cons_of_mem)) ?_
  rw [decide_eq_true ⟨hor, hor, rfl⟩, pNot_v, Bool.not_true]
  intro _
  rw [pCond_false, pBits_v, hand]
  have hrd : M1.read (q : Int) = (M1.la q, 0) := by
    rw [read_ok (by rw [hn1]; exact hq8) ho1]
    unfold Dk.sec
    rw [hcs]; rfl
  have d : Dsk H1 H7 b M1 (dkIts c lv2 r2 ov2 lf2 M1 []) := ⟨lv, r, ov, lf', o.arrT (by repeat (first | exact SelsT.refl | exact Sel.here | apply SelsT.cons | apply Sel.there)), okb⟩
  refine read_spec d ?_
  rw [hrd]
  refine pExtract_to rfl ?_
  refine pExtract_to rfl ?_
  rw [pBits_v, hand]
  refine sector_spec fun H8 hx => ?_
  have o := o.more hx
  have d : Dsk H1 H8 c M1 (dkIts b lv r ov lf' M1 []) := ⟨lv2, r2, ov2, lf2, o.arrT (by repeat (first | exact SelsT.refl | exact Sel.here | apply SelsT.cons | apply Sel.there)), okc⟩
  refine write_spec d fun H9 d => ?_
  rw [write_ok (secB_len _) (by rw [hn1]; exact hq8) ho1 (by rw [hf1]; simp)] at d
  change Dsk H1 H9 c (M1.put q (secB u)) _ at d
  obtain ⟨lv2, r2, ov2, lf2, o, okc⟩ := d
  rw [pBits_v, hand]
  have d : Dsk H1 H9 b M1 (dkIts c lv2 r2 ov2 lf2 (M1.put q (secB u)) []) := ⟨lv, r, ov, lf', o.arrT (by repeat (first | exact SelsT.refl | exact Sel.here | apply SelsT.cons | apply Sel.there)), okb⟩
  refine read_spec d ?_
  rw [hrd]
  refine pExtract_to rfl ?_
  refine pExtract_to rfl ?_
  have d : Dsk H1 H9 c (M1.put q (secB u)) (dkIts b lv r ov lf' M1 []) := ⟨lv2, r2, ov2, lf2, o.arrT (by repeat (first | exact SelsT.refl | exact Sel.here | apply SelsT.cons | apply Sel.there)), okc⟩
  refine sync_spec d fun H10 d => ?_
  rw [sync_ok (M := M1.put q (secB u)) ho1 (by show M1.fuse.map _ ≠ _; rw [hf1]; simp)] at d
  change Dsk H1 H10 c (M1.put q (secB u)).flush _ at d
  obtain ⟨lv2, r2, ov2, lf2, o, okc⟩ := d
  refine pEq1_to ?_
  rw [decide_eq_true (by rfl)]
  refine pAnd_true ?_
  refine same_spec o okb okc (by repeat (first | exact List.mem_cons_self | apply List.mem_cons_of_mem)) (by repeat (first | exact List.mem_cons_self | apply List.mem_cons_of_mem)) (by repeat (first | exact List.mem_cons_self | apply List.mem_cons_of_mem)) (by repeat (first | exact List.mem_cons_self | apply List.mem_cons_of_mem)) (by repeat (first | exact List.mem_cons_self | apply List.mem_cons_of_mem)) (by repeat (first | exact List.mem_cons_self | apply List.mem_cons_of_mem)) ?_
  refine sector_spec fun H11 hx => ?_
  refine pEq1_to ?_
  rw [pEq_2]
  intro _
  refine ⟨?_, hx1.trans (o.ext.trans hx)⟩
  congr 1
  rw [decide_eq_true_eq, Bool.eq_iff_iff, decide_eq_true_eq, decide_eq_true_eq]
  have hla : (M1.put q (secB u)).flush.la = fun j => if j = q then secB u else M1.la j := by
    funext j
    show (updS M1.cs q (secB u) j).getD (M1.la j) = _
    unfold updS
    rw [hcs]
    split <;> rfl
  unfold Dk.same
  rw [hla]
  constructor
  · rintro ⟨_, _, g⟩
    have := congrArg (fun l => l[q]?) g
    rw [genL_get (by rw [hn1]; exact hq8)] at this
    have h2 : (genL (M1.put q (secB u)).flush.n fun j => if j = q then secB u else M1.la j)[q]? = some (secB u) := by
      rw [genL_get (by show q < M1.n; rw [hn1]; exact hq8), if_pos rfl]
    rw [h2] at this
    exact Option.some.inj this
  · intro g
    refine ⟨hor, rfl, ?_⟩
    refine genL_congr fun j _ => ?_
    by_cases hj : j = q
    · subst hj; rw [if_pos rfl]; exact g
    · rw [if_neg hj]
end Go.Proofs.Ythadmceioakgnaa
