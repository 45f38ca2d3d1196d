/- The laws of package disk over heaps: the sector, the first test, DiskNone. -/
import Derived.Test.YthadmceioakgnaaDisk4
import Derived.Test.YthadmceioakgnaaResLighterlaw17
import Derived.Test.YthadmceioakgnaaVcRow
namespace Go.Proofs.Ythadmceioakgnaa
open Go Go.Vc Go.Proofs
set_option linter.unusedVariables false
set_option linter.unusedSimpArgs false
variable {H H0 : Heap} {R : Value → Heap → Prop} {v : Value} {L : List It} {b : Nat} {M : Dk}
def secB (u : UInt8) : List UInt8 := List.replicate 64 u
theorem secB_len (u : UInt8) : (secB u).length = 64 := by simp [secB]
theorem byteV_rep (n : Nat) (u : UInt8) : List.replicate n (byteV u) = (List.replicate n u).map byteV := by simp
theorem sector_spec {u : UInt8} (h : ∀ H', Ext H H' → R (str (secB u)) H') : CallsH Try.prog 10 #[byteV u] H R := by
  refine lighterlaw17_sector.vc _ _ _ ?_
  unfold lighterlaw17_sector.res
  refine (Owns.start (H := H)).make1 (by decide) (by decide) (by decide) fun y H1 o => ?_
  refine ⟨fun i H' => ∃ k : Nat, i = .int .i64 k ∧ k ≤ 64 ∧ Owns H H' [.sl y 1 ((List.replicate k u ++ List.replicate (64 - k) 0).map byteV)], fun i _ => match i with | .int _ x => 64 - x.toNat | _ => 0, ⟨0, rfl, by omega, o⟩, ?_⟩
  clear o
  rintro _ _ H2 ⟨k, rfl, hk, o⟩
  rw [pLt_v]
  have hl : ((List.replicate k u ++ List.replicate (64 - k) 0).map byteV).length = 64 * 1 := by rw [List.length_map, List.length_append, List.length_replicate, List.length_replicate]; omega
  refine pCond_if (fun hc => ?_) (fun hc => ?_)
  · refine (o.sl (v := y) (by repeat (first | exact List.mem_cons_self | apply List.mem_cons_of_mem))).at_ hl (by decide) (by omega) (by omega) fun p hp => ?_
    refine o.store hp (by repeat (first | exact List.mem_cons_self | apply List.mem_cons_of_mem)) (by rw [hl]; omega) rfl (by repeat (first | exact Rep.here | apply Rep.there)) fun H3 o _ => ?_
    rw [pAdd_v, w64 (n := (k : Int) + 1) (by omega) (by omega)]
    refine ⟨⟨k + 1, rfl, by omega, ?_⟩, by show 64 - ((k : Int) + 1).toNat < 64 - (k : Int).toNat; omega⟩
    have e : ((List.replicate k u ++ List.replicate (64 - k) 0).map byteV).set ((k : Int).toNat * 1) (byteV u) = (List.replicate (k + 1) u ++ List.replicate (64 - (k + 1)) 0).map byteV := by
      rw [Int.toNat_natCast, Nat.mul_one, ← List.map_set]
      congr 1
      rw [List.set_append_right _ _ (by rw [List.length_replicate]; exact Nat.le_refl _), List.length_replicate, Nat.sub_self, show 64 - k = (64 - (k + 1)) + 1 by omega, List.replicate_succ, List.set_cons_zero, List.replicate_succ', List.append_assoc]
      rfl
    rw [← e]
    exact o
  · have : k = 64 := by omega
    subst this
    have hs := o.sl (v := y) (by repeat (first | exact List.mem_cons_self | apply List.mem_cons_of_mem))
    refine hs.str ?_
    rw [Nat.sub_self, List.replicate_zero, List.append_nil]
    exact h H2 o.ext
theorem write_ok {i : Nat} {s : List UInt8} (hs : s.length = 64) (hi : i < M.n) (ho : M.off = false) (hf : M.fuse ≠ some 0) : M.write (i : Int) s = (M.put i s, 0) := by
  have hr : M.ready (i : Int) = 0 := by
    unfold Dk.ready
    rw [if_neg (by rw [ho]; decide), if_pos (by omega)]
  unfold Dk.write
  rw [if_neg (by omega), if_neg (by rw [hr]; decide), if_neg hf, Int.toNat_natCast]
theorem sync_ok (ho : M.off = false) (hf : M.fuse ≠ some 0) : M.sync = (M.flush, 0) := by
  unfold Dk.sync
  rw [if_neg (by rw [ho]; decide), if_neg hf]
theorem read_ok {i : Nat} (hi : i < M.n) (ho : M.off = false) : M.read (i : Int) = (M.sec i, 0) := by
  have hr : M.ready (i : Int) = 0 := by
    unfold Dk.ready
    rw [if_neg (by rw [ho]; decide), if_pos (by omega)]
  unfold Dk.read
  rw [if_neg (by rw [hr]; decide), Int.toNat_natCast]
theorem Dsk.more {H' : Heap} (d : Dsk H0 H b M L) (hx : Ext H H') : Dsk H0 H' b M L := by
  obtain ⟨lv, r, ov, lf, o, ok⟩ := d
  exact ⟨lv, r, ov, lf, o.more hx, ok⟩
theorem speaks17_spec (h : ∀ H', Ext H H' → R (.bool true) H') : CallsH Try.prog 7 #[] H R := by
  refine lighterlaw17_speaks.vc _ _ ?_
  unfold lighterlaw17_speaks.res
  refine new_spec (n := 2) (Owns.start (H := H)) (by decide) (by decide) fun H1 b d => ?_
  refine pExtract_to rfl ?_
  refine pExtract_to rfl ?_
  rw [pNe_0, decide_eq_false (by simp)]
  refine pOr_false ?_
  refine sector_spec (u := 7) fun H2 hx => ?_
  have d := d.more hx
  refine write_spec d fun H3 d => ?_
  rw [show (0 : Int) = ((0 : Nat) : Int) from rfl, write_ok (secB_len 7) (by decide) rfl (by decide)] at d
  rw [show (0 : Int) = ((0 : Nat) : Int) from rfl, write_ok (secB_len 7) (by decide) rfl (by decide), pNe_0, decide_eq_false (by simp)]
  intro _
  rw [pCond_false]
  obtain ⟨lv, r, ov, lf, o, ok⟩ := d
  refine o.build1 (sz := 1) (by decide) rfl rfl fun y H4 o => ?_
  have d : Dsk H H4 b ((Dk.new 2).put 0 (secB 7)) [.sl y 1 (numsV [1])] := ⟨lv, r, ov, lf, o.arrT (by repeat (first | exact SelsT.refl | exact Sel.here | apply SelsT.cons | apply Sel.there)), ok⟩
  refine crash_spec d (.inr (by repeat (first | exact List.mem_cons_self | apply List.mem_cons_of_mem))) (by decide) fun H5 d => ?_
  refine on_spec d ?_
  rw [pNot_v]
  refine start_spec d fun H6 d => ?_
  refine read_spec d ?_
  have er : Dk.read { ((Dk.new 2).put 0 (secB 7)).crash [1] with off := false } ((0 : Nat) : Int) = (secB 7, 0) := by rfl
  rw [er]
  refine pExtract_to rfl ?_
  refine pExtract_to rfl ?_
  rw [show (!!(((Dk.new 2).put 0 (secB 7)).crash [1]).off) = true from rfl]
  refine pAnd_true ?_
  rw [pEq_0, decide_eq_true (by rfl)]
  intro _
  refine pAnd_true ?_
  refine sector_spec (u := 7) fun H7 hx => ?_
  refine pEq1_to ?_
  rw [decide_eq_true (by rfl)]
  intro _
  have hd6 := d.ext
  have d := d.more hx
  refine pAnd_true ?_
  refine sectors_spec d ?_
  rw [pEq_0, decide_eq_true (by rfl)]
  intro _
  exact h H7 d.ext
def noneTail (s1 : Value) (H_16 : Heap) (R : Value → Heap → Prop) : Prop :=
 CallsH Try.prog 15 #[(.pointer none), (.int .i64 0)] H_16 fun x63 H_18 =>
 pExtract 0 x63 fun x64 =>
 pExtract 1 x63 fun x65 =>
 CallsH Try.prog 13 #[(.pointer none), (.slice none 0 0)] H_18 fun x67 H_19 =>
 CallsH Try.prog 17 #[(.pointer none), (.int .i64 1)] H_19 fun x69 H_20 =>
 CallsH Try.prog 14 #[(.pointer none)] H_20 fun x71 H_21 =>
 pEq 0 x65 (.int .i64 1) fun x73 =>
 pAnd x73 (fun J_22 =>
 CallsH Try.prog 9 #[(.pointer none), (.int .i64 0), s1] H_21 fun x77 H_24 =>
 pEq 0 x77 (.int .i64 1) fun x78 =>
 J_22 x78 H_24) H_21 fun x79 H_23 => ∀ _ : Env,
 pAnd x79 (fun J_25 =>
 CallsH Try.prog 11 #[(.pointer none)] H_23 fun x82 H_27 =>
 pEq 0 x82 (.int .i64 1) fun x83 =>
 J_25 x83 H_27) H_23 fun x84 H_26 => ∀ _ : Env,
 pAnd x84 (fun J_28 =>
 CallsH Try.prog 18 #[(.pointer none)] H_26 fun x87 H_30 =>
 pNot x87 fun x88 =>
 J_28 x88 H_30) H_26 fun x89 H_29 => ∀ _ : Env,
 pAnd x89 (fun J_31 =>
 CallsH Try.prog 19 #[(.pointer none)] H_29 fun x92 H_33 =>
 pEq 0 x92 (.int .i64 0) fun x93 =>
 J_31 x93 H_33) H_29 fun x94 H_32 => ∀ _ : Env,
 pAnd x94 (fun J_34 =>
 CallsH Try.prog 12 #[(.pointer none)] H_32 fun x97 H_36 =>
 pEq 3 x97 (.pointer none) fun x98 =>
 J_34 x98 H_36) H_32 fun x99 H_35 => ∀ _ : Env,
 pAnd x99 (fun J_37 =>
 CallsH Try.prog 16 #[(.pointer none), (.pointer none)] H_35 fun x103 H_39 =>
 pNot x103 fun x104 =>
 J_37 x104 H_39) H_35 fun x105 H_38 => ∀ _ : Env,
 R x105 H_38
theorem noneTail_spec {s : List UInt8} (h : ∀ H', Ext H H' → R (.bool true) H') : noneTail (str s) H R := by
  unfold noneTail
  refine read_nil ?_
  refine pExtract_to rfl ?_
  refine pExtract_to rfl ?_
  refine crash_nil ?_
  refine fuse_nil ?_
  refine start_nil ?_
  rw [pEq_0, decide_eq_true (by rfl)]
  refine pAnd_true ?_
  refine write_nil fun H1 hx => ?_
  rw [pEq_0, decide_eq_true (by rfl)]
  intro _
  refine pAnd_true ?_
  refine sync_nil ?_
  rw [pEq_0, decide_eq_true (by rfl)]
  intro _
  refine pAnd_true ?_
  refine on_nil ?_
  rw [pNot_v, Bool.not_false]
  intro _
  refine pAnd_true ?_
  refine sectors_nil ?_
  rw [pEq_0, decide_eq_true (by rfl)]
  intro _
  refine pAnd_true ?_
  refine copy_nil ?_
  rw [pEq_3n]
  intro _
  refine pAnd_true ?_
  refine same_nil ?_
  rw [pNot_v, Bool.not_false]
  intro _
  exact h H1 hx
theorem DiskNone_law (n : Int) (s : List UInt8) (w0 : (Lit.int .i64 n).wf = true) (w1 : (ByteArray.mk s.toArray).size ≤ maxLen) : CallsH Try.prog 5 #[.int .i64 n, str s] H (LawOk H) := by
  refine lighterlaw17_DiskNone.vc _ _ _ _ ?_
  unfold lighterlaw17_DiskNone.res
  refine speaks17_spec fun H1 hx1 => ?_
  rw [pNot_v, Bool.not_true, pCond_false]
  refine ⟨fun v H' => (∃ m : Int, v = .int .i64 m) ∧ H1 = H', ?_, ?_⟩
  rotate_left
  · rw [pGt_v]
    refine pAnd_if (d := decide (n ≤ 65536)) (fun _ => by rw [pLe_v]; exact ⟨rfl, rfl⟩) ?_
    intro _
    exact pCond_b (fun _ => ⟨⟨_, rfl⟩, rfl⟩) (fun _ => ⟨⟨_, rfl⟩, rfl⟩)
  rintro _ _ _ ⟨⟨m, rfl⟩, rfl⟩
  have tail : ∀ {H'}, Ext H H' → noneTail (str s) H' (LawOk H) := fun hx => noneTail_spec fun H'' hx2 => ⟨rfl, hx.trans hx2⟩
  by_cases hm : 1 ≤ m ∧ m ≤ 65536
  · obtain ⟨q, rfl⟩ : ∃ q : Nat, m = q := ⟨m.toNat, by omega⟩
    refine new_spec (n := q) (Owns.start (H := H1)) (by omega) (by omega) fun H2 b d => ?_
    refine pExtract_to rfl ?_
    refine pExtract_to rfl ?_
    rw [pGe_v, decide_eq_true (by omega)]
    refine pAnd_true ?_
    rw [pLe_v, decide_eq_true (by omega)]
    intro _
    rw [pEq_0, decide_eq_true (by rfl), pNe_2, decide_eq_false (by simp)]
    refine pOr_false ?_
    rw [pNe_3s, pNe_2, decide_eq_false (by simp)]
    intro _
    refine pOr_false ?_
    rw [pNot_v, Bool.not_true, pAnd_false]
    intro _
    intro _
    rw [pCond_false, pNe_3s]
    refine pAnd_true ?_
    refine pLenS_to ?_
    rw [pNe_0]
    intro _
    refine pAnd_split (fun _ => ?_) (fun ht => ?_)
    · intro _
      rw [pCond_false]
      exact tail (hx1.trans d.ext)
    · rw [decide_eq_true_eq] at ht
      refine write_spec d fun H3 d3 => ?_
      have e : ((Dk.new q).write 0 s).2 = 1 := by
        unfold Dk.write; rw [if_pos (by omega)]
      rw [e, pNe_0, decide_eq_false (by simp)]
      intro _
      rw [pCond_false]
      exact tail (hx1.trans d3.ext)
  · refine new_no hm ?_
    refine pExtract_to rfl ?_
    refine pExtract_to rfl ?_
    rw [pGe_v]
    refine pAnd_if (d := decide (m ≤ 65536)) (fun _ => by rw [pLe_v]; exact ⟨rfl, rfl⟩) ?_
    intro _
    rw [show (decide (1 ≤ m) && decide (m ≤ 65536)) = false by
      rw [← Bool.not_eq_true, Bool.and_eq_true, decide_eq_true_eq, decide_eq_true_eq]; exact hm]
    rw [pEq_0, decide_eq_false (by decide), pNe_2, decide_eq_false (by simp)]
    refine pOr_false ?_
    rw [pNe_3n, pNe_2, decide_eq_false (by simp)]
    intro _
    refine pOr_false ?_
    rw [pNot_v, Bool.not_false]
    refine pAnd_true ?_
    rw [pNe_0, decide_eq_false (by simp)]
    intro _
    intro _
    rw [pCond_false, pNe_3n, pAnd_false]
    intro _
    rw [pAnd_false]
    intro _
    rw [pCond_false]
    exact tail hx1
end Go.Proofs.Ythadmceioakgnaa
