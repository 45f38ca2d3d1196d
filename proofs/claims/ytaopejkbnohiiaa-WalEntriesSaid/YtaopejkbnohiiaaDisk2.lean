/- Contracts of package disk: Write, Sync, Read and the small ones. -/
import Derived.Test.YtaopejkbnohiiaaDisk
namespace Go.Proofs.Ytaopejkbnohiiaa
-- only what is there
open Go Go.Vc Go.Proofs
set_option linter.unusedVariables false
set_option linter.unusedSimpArgs false
variable {H H0 : Heap} {R : Value → Heap → Prop} {v : Value} {L : List It} {b : Nat} {M : Dk}
theorem burn_spec (d : Dsk H0 H b M L) (hno : M.fuse ≠ some 0 → R (.bool false) H) (hyes : M.fuse = some 0 → ∀ H', Dsk H0 H' b (M.crash []) L → R (.bool true) H') : CallsH Try.prog 27 #[ptr b] H R := by
  have d0 := d
  obtain ⟨lv, r, ov, lf, o, ok⟩ := d
  refine disk_Disk_burn.vc _ _ _ ?_
  unfold disk_Disk_burn.res
  rw [pNil_v, pFieldAddr_v, add_mk]
  refine o.bload (f := 0 + 4) (by repeat (first | exact List.mem_cons_self | apply List.mem_cons_of_mem)) rfl ?_
  refine pAnd_if (d := decide (lf ≤ 0)) (fun _ => ?_) ?_
  · rw [pNil_v, pFieldAddr_v, add_mk]
    refine o.bload (f := 0 + 5) (by repeat (first | exact List.mem_cons_self | apply List.mem_cons_of_mem)) rfl ?_
    rw [pLe_v]
    exact ⟨rfl, rfl⟩
  intro _
  cases hf : M.fuse with
  | none =>
    rw [Option.isSome_none, Bool.false_and, pCond_false]
    exact hno (by rw [hf]; simp)
  | some k =>
    have h1 := ok.fu k hf
    rw [Option.isSome_some, Bool.true_and]
    refine pCond_if (fun hc => ?_) (fun hc => ?_)
    · have hk0 : M.fuse = some 0 := by rw [hf]; congr 1; omega
      exact crash_spec d0 hasF_nil (Nat.zero_le _) fun H' d' => hyes hk0 H' d'
    · exact hno (by rw [hf]; intro e; cases e; omega)
theorem write_nil {i : Int} {s : List UInt8} (h : ∀ H', Ext H H' → R (.int .i64 1) H') : CallsH Try.prog 14 #[.pointer none, .int .i64 i, str s] H R := by
  refine disk_Disk_Write.vc _ _ _ _ _ ?_
  unfold disk_Disk_Write.res
  refine (Owns.start (H := H)).box fun ib H1 o _ => ?_
  rw [pEq_3n, pOr_true]
  intro _
  rw [pCond_true]
  exact h H1 o.ext
theorem others_nats (l : List Nat) (i : Nat) : others (l.map fun n : Nat => (n : Int)) (i : Int) = (l.filter fun j => decide (j ≠ i)).map fun n : Nat => (n : Int) := by
  unfold others
  rw [List.filter_map]
  congr 1
  refine List.filter_congr fun j _ => ?_
  show decide ((j : Int) ≠ (i : Int)) = decide (j ≠ i)
  rw [Bool.eq_iff_iff, decide_eq_true_eq, decide_eq_true_eq]
  omega
theorem natsV_snoc (l : List Nat) (i : Nat) : natsV l ++ [.int .i64 (i : Int)] = natsV (l ++ [i]) := by unfold natsV; rw [List.map_append, numsV_append]; rfl
theorem write_spec {i : Int} {s : List UInt8} (d : Dsk H0 H b M L) (h : ∀ H', Dsk H0 H' b (M.write i s).1 L → R (.int .i64 (M.write i s).2) H') : CallsH Try.prog 14 #[ptr b, .int .i64 i, str s] H R := by
  obtain ⟨lv, r, ov, lf, o, ok⟩ := d
  refine disk_Disk_Write.vc _ _ _ _ _ ?_
  unfold disk_Disk_Write.res
  refine o.box fun ib H1 o _ => ?_
  have o : Owns H0 H1 (dkIts b lv r ov lf M (.box ib [.int .i64 i] 3 :: L)) := o.arrT (by repeat (first | exact SelsT.refl | exact Sel.here | apply SelsT.cons | apply Sel.there))
  have d : Dsk H0 H1 b M (.box ib [.int .i64 i] 3 :: L) := ⟨lv, r, ov, lf, o, ok⟩
  have drop : ∀ {H' : Heap} {M' : Dk}, Dsk H0 H' b M' (.box ib [.int .i64 i] 3 :: L) → Dsk H0 H' b M' L := fun d => by
    obtain ⟨lv, r, ov, lf, o, ok⟩ := d
    exact ⟨lv, r, ov, lf, o.pick ((List.sublist_cons_self _ _).cons_cons _ |>.cons_cons _ |>.cons_cons _ |>.cons_cons _), ok⟩
  rw [pEq_3s]
  refine pOr_false ?_
  refine pLenS_to ?_
  rw [pNe_0]
  intro _
  unfold Dk.write at h
  refine pCond_if (fun hc => ?_) (fun hc => ?_)
  · rw [if_pos (by omega)] at h
    exact h H1 (drop d)
  have hs64 : s.length = 64 := by simp at hc; omega
  rw [if_neg (by omega)] at h
  refine o.bload (by repeat (first | exact List.mem_cons_self | apply List.mem_cons_of_mem)) rfl ?_
  refine ready_spec d ?_
  rw [pNe_0]
  refine pCond_if (fun hc => ?_) (fun hc => ?_)
  · rw [if_pos hc] at h
    exact h H1 (drop d)
  rw [if_neg hc] at h
  have hin : 0 ≤ i ∧ i < (M.n : Int) := by
    have hc : M.ready i = 0 := by simpa using hc
    unfold Dk.ready at hc
    split at hc
    · cases hc
    · split at hc
      · assumption
      · cases hc
  refine burn_spec d (fun hf => ?_) (fun hf H2 d2 => ?_)
  rotate_left
  · rw [pCond_true]
    rw [if_pos hf] at h
    exact h H2 (drop d2)
  rw [pCond_false]
  rw [if_neg hf] at h
  obtain ⟨q, rfl⟩ : ∃ q : Nat, i = q := ⟨i.toNat, by omega⟩
  rw [Int.toNat_natCast] at h
  have hokp := ok.put (i := q) (s := s) (by omega) hs64 hf
  have hol := ok.olen
  rw [pNil_v, pFieldAddr_v, add_mk]
  refine o.bload (f := 0 + 5) (by repeat (first | exact List.mem_cons_self | apply List.mem_cons_of_mem)) rfl ?_
  rw [pSub_v, pNil_v, pFieldAddr_v, add_mk]
  refine o.bstore (f := 0 + 5) (by repeat (first | exact List.mem_cons_self | apply List.mem_cons_of_mem)) (by simp) rfl (by repeat (first | exact Rep.here | apply Rep.there)) fun H2 o _ => ?_
  refine ⟨fun H' => ∃ ov', Owns H0 H' (.box b [lv, .map (some r), ov', .bool M.off, .bool M.fuse.isSome, .int .i64 (IntKind.i64.wrap (lf - 1))] 53 :: .sl lv 1 (txtsV (genL M.n M.la)) :: .thing (mapT r (mOf M.cs)) :: .sl ov' 1 (natsV ((M.order.filter fun j => decide (j ≠ q)) ++ [q])) :: .box ib [.int .i64 (q : Int)] 3 :: L), ?_, ?_⟩
  · rintro _ H3 ⟨ov', o⟩
    rw [pNil_v, pFieldAddr_v, add_mk]
    refine o.bload (f := 0 + 1) (by repeat (first | exact List.mem_cons_self | apply List.mem_cons_of_mem)) rfl ?_
    refine o.bload (b := ib) (f := 0) (by repeat (first | exact List.mem_cons_self | apply List.mem_cons_of_mem)) rfl ?_
    refine (map_at o (by repeat (first | exact List.mem_cons_self | apply List.mem_cons_of_mem))).set (k := (q : Int)) fun H4 hm hsz hne => ?_
    have o := owns_map o hm hsz hne (by repeat (first | exact Rep.here | apply Rep.there))
    rw [mOf_upd] at o
    refine h H4 (drop ⟨lv, r, ov', IntKind.i64.wrap (lf - 1), ?_, hokp⟩)
    have e : (M.fuse.map (· - 1)).isSome = M.fuse.isSome := by cases M.fuse <;> rfl
    show Owns H0 H4 (.box b [_, _, _, .bool M.off, .bool (M.fuse.map (· - 1)).isSome, _] _ :: _)
    rw [e]
    exact o
  rw [pNil_v, pFieldAddr_v, add_mk]
  refine o.bload (f := 0 + 2) (by repeat (first | exact List.mem_cons_self | apply List.mem_cons_of_mem)) rfl ?_
  refine o.bload (b := ib) (f := 0) (by repeat (first | exact List.mem_cons_self | apply List.mem_cons_of_mem)) rfl ?_
  have hlen1 : (M.order.map fun n : Nat => (n : Int)).length ≤ 1000000 := by rw [List.length_map]; omega
  have hflt : (M.order.filter fun j => decide (j ≠ q)).length ≤ 65536 := Nat.le_trans (List.length_filter_le _ _) hol
  constructor
  · refine delF_spec (l := M.order.map fun n : Nat => (n : Int)) o (by repeat (first | exact Sel.here | apply Sel.there)) (ti := 3) (i := (q : Int)) (by repeat (first | exact List.mem_cons_self | apply List.mem_cons_of_mem)) hlen1 fun y H3 o => ?_
    rw [others_nats] at o
    refine ⟨o.bload (b := ib) (f := 0) (by repeat (first | exact List.mem_cons_self | apply List.mem_cons_of_mem)) rfl rfl, ?_⟩
    refine o.build1 (sz := 1) (by decide) rfl rfl fun z H4 o => ?_
    refine ⟨o.bload (b := b) (f := 0 + 2) (by repeat (first | exact List.mem_cons_self | apply List.mem_cons_of_mem)) rfl rfl, ?_⟩
    refine o.app (v := y) (by repeat (first | exact Sel.here | apply Sel.there)) (o.sl (v := z) (by repeat (first | exact List.mem_cons_self | apply List.mem_cons_of_mem))) rfl (by rw [numsV_len, List.length_map]; show 2 * (_ + 1) * 8 ≤ _; omega) fun w H5 o => ?_
    rw [pNil_v, pFieldAddr_v, add_mk]
    refine o.bstore (b := b) (f := 0 + 2) (by repeat (first | exact List.mem_cons_self | apply List.mem_cons_of_mem)) (by simp) (o.sl (v := w) (by repeat (first | exact List.mem_cons_self | apply List.mem_cons_of_mem))).one (by repeat (first | exact Rep.here | apply Rep.there)) fun H6 o _ => ?_
    refine ⟨w, ?_⟩
    rw [← natsV_snoc]
    exact (o.front (i := .sl z 1 _) (by repeat (first | exact Sel.here | apply Sel.there))).pick (List.sublist_cons_self _ _) |>.arrT (by repeat (first | exact SelsT.refl | exact Sel.here | apply SelsT.cons | apply Sel.there))
  · refine o.build1 (sz := 1) (by decide) rfl rfl fun z H4 o => ?_
    refine ⟨o.bload (b := b) (f := 0 + 2) (by repeat (first | exact List.mem_cons_self | apply List.mem_cons_of_mem)) rfl rfl, ?_⟩
    refine delF_spec (v := ov) (l := M.order.map fun n : Nat => (n : Int)) o (by repeat (first | exact Sel.here | apply Sel.there)) (ti := 3) (i := (q : Int)) (by repeat (first | exact List.mem_cons_self | apply List.mem_cons_of_mem)) hlen1 fun y H3 o => ?_
    rw [others_nats] at o
    refine ⟨o.bload (b := ib) (f := 0) (by repeat (first | exact List.mem_cons_self | apply List.mem_cons_of_mem)) rfl rfl, ?_⟩
    refine o.app (v := y) (by repeat (first | exact Sel.here | apply Sel.there)) (o.sl (v := z) (by repeat (first | exact List.mem_cons_self | apply List.mem_cons_of_mem))) rfl (by rw [numsV_len, List.length_map]; show 2 * (_ + 1) * 8 ≤ _; omega) fun w H5 o => ?_
    rw [pNil_v, pFieldAddr_v, add_mk]
    refine o.bstore (b := b) (f := 0 + 2) (by repeat (first | exact List.mem_cons_self | apply List.mem_cons_of_mem)) (by simp) (o.sl (v := w) (by repeat (first | exact List.mem_cons_self | apply List.mem_cons_of_mem))).one (by repeat (first | exact Rep.here | apply Rep.there)) fun H6 o _ => ?_
    refine ⟨w, ?_⟩
    rw [← natsV_snoc]
    exact (o.front (i := .sl z 1 _) (by repeat (first | exact Sel.here | apply Sel.there))).pick (List.sublist_cons_self _ _) |>.arrT (by repeat (first | exact SelsT.refl | exact Sel.here | apply SelsT.cons | apply Sel.there))
end Go.Proofs.Ytaopejkbnohiiaa
