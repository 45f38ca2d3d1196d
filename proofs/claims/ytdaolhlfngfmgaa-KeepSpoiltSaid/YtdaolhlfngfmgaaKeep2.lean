/- Contracts of package keep: a keep on a disk. -/
import Derived.Test.YtdaolhlfngfmgaaKeep
namespace Go.Proofs.Ytdaolhlfngfmgaa
open Go Go.Vc Go.Proofs
set_option linter.unusedVariables false
set_option linter.unusedSimpArgs false
variable {H H0 : Heap} {R : Value → Heap → Prop} {v : Value} {L L' : List It} {b kb lb fb tb N m z : Nat} {M : Dk} {want C : List UInt8} {s s' : St}
abbrev keepIt (kb lb : Nat) (fv : Value) (tb : Nat) (s : St) : It := .box kb [ptr lb, fv, ptr tb, .int .u32 (s.se : Int), .int .u32 (s.ep : Int), .int .i64 (s.sz : Int), .int .u32 (s.su : Int), .bool s.dn, .bool false] 60
abbrev tabIt (tb : Nat) : It := .box tb tabL 97
/-- a keep whose log tells its state; its file has m sectors, of which z bytes are used -/
structure KW (H0 H : Heap) (b kb lb fb tb N m z : Nat) (M : Dk) (want : List UInt8) (s : St) (L : List It) : Prop where
  w : WL H0 H b lb 0 8 N M want (keepIt kb lb (ptr fb) tb s :: fileIt fb b 8 m z :: tabIt tb :: L)
  fu : M.fuse = none
  nz : N = 0 ∧ s = St.zero ∨ 1 ≤ N ∧ want = noteB s
  ok : StOk s
  hm : 8 + m = M.n
  dn : s.dn = false
theorem KW.more {H' : Heap} (k : KW H0 H b kb lb fb tb N m z M want s L) (hx : Ext H H') : KW H0 H' b kb lb fb tb N m z M want s L := ⟨k.w.more hx, k.fu, k.nz, k.ok, k.hm, k.dn⟩
theorem WL.swap_ {lb at_ k : Nat} (w : WL H0 H b lb at_ k N M want L) (s : SelsT L' L) : WL H0 H b lb at_ k N M want L' := by
  obtain ⟨lv, r, ov, lf, o, ok⟩ := w.d
  exact ⟨⟨lv, r, ov, lf, o.perm (((((s.perm.cons _).cons _).cons _).cons _).cons _), ok⟩, w.hr, w.hk, w.ho, w.cs, w.wf, w.good⟩
theorem ready20_spec {c : Bool} (k : KW H0 H b kb lb fb tb N m z M want s L) (h : R (.int .i64 0) H) : CallsH Try.prog 27 #[ptr kb, .bool c] H R := by
  obtain ⟨lv, r, ov, lf, o, ok⟩ := k.w.d
  have hdn := k.dn
  refine keep_Keep_ready.vc _ _ _ _ ?_
  unfold keep_Keep_ready.res
  rw [pEq_3s, pCond_false, pNil_v, pFieldAddr_v, add_mk]
  refine o.bload (b := kb) (f := 0 + 8) (by repeat (first | exact List.mem_cons_self | apply List.mem_cons_of_mem)) rfl ?_
  refine pOr_false ?_
  rw [pNot_v]
  refine pAnd_if (d := false) (fun _ => ?_) ?_
  · rw [pNil_v, pFieldAddr_v, add_mk, pFieldAddr_v, add_mk]
    refine o.bload (b := kb) (f := 0 + 3 + 4) (by repeat (first | exact List.mem_cons_self | apply List.mem_cons_of_mem)) rfl ?_
    exact ⟨by rw [hdn], rfl⟩
  intro _
  rw [Bool.and_false]
  intro _
  rw [pCond_false]
  exact h
theorem done20_spec (h : R (.int .i64 0) H) : CallsH Try.prog 29 #[ptr kb, .int .i64 0] H R := by
  refine keep_Keep_done.vc _ _ _ _ ?_
  unfold keep_Keep_done.res
  rw [pNe_0, decide_eq_false (by decide), pCond_false]
  exact h
theorem put20_spec (k : KW H0 H b kb lb fb tb N m z M want s L) (hN : N ≤ 1000000) (hs : StOk s') (hd : s'.dn = false)
    (h : ∀ H' M' i, KW H0 H' b kb lb fb tb (N + 1) m z M' (noteB s') s' (i :: L) → (∀ j, 8 ≤ j → M'.sec j = M.sec j) → R (.int .i64 0) H') : CallsH Try.prog 32 #[ptr kb, .agg (stL s').toArray] H R := by
  have hnl := noteB_len s'
  refine keep_Keep_put.vc _ _ _ _ ?_
  unfold keep_Keep_put.res
  obtain ⟨lv, r, ov, lf, o, ok⟩ := k.w.d
  refine o.box fun sb H1 o _ => ?_
  change Owns H0 H1 (.box sb (stL s') 40 :: _) at o
  rw [pNil_v, pFieldAddr_v, add_mk]
  refine o.bload (b := kb) (f := 0 + 0) (by repeat (first | exact List.mem_cons_self | apply List.mem_cons_of_mem)) rfl ?_
  refine o.bloadN (b := sb) (by repeat (first | exact List.mem_cons_self | apply List.mem_cons_of_mem)) rfl ?_
  refine stNote_spec hs fun H2 hx => ?_
  have o := o.more hx
  refine ⟨o.bload (b := kb) (f := 0 + 0) (by repeat (first | exact List.mem_cons_self | apply List.mem_cons_of_mem)) rfl rfl, ?_⟩
  have w : WL H0 H2 b lb 0 8 N M want (.box sb (stL s') 40 :: keepIt kb lb (ptr fb) tb s :: fileIt fb b 8 m z :: tabIt tb :: L) := ⟨⟨lv, r, ov, lf, o.arrT (by repeat (first | exact SelsT.refl | exact Sel.here | apply SelsT.cons | apply Sel.there)), ok⟩, k.w.hr, k.w.hk, k.w.ho, k.w.cs, k.w.wf, k.w.good⟩
  clear o ok
  refine w.put hN (by omega) k.fu fun H3 w => ?_
  obtain ⟨M', hM'⟩ : ∃ M' : Dk, M' = (M.put (0 + (N + 1) % 8) (slotB (N + 1) (noteB s'))).flush := ⟨_, rfl⟩
  rw [← hM'] at w
  have hsec : ∀ j, 8 ≤ j → M'.sec j = M.sec j := fun j hj => by
    rw [hM', flush_sec, sec_put, if_neg (by omega)]
  have hn' : M'.n = M.n := by rw [hM']; rfl
  have hf' : M'.fuse = none := by rw [hM']; show M.fuse.map _ = none; rw [k.fu]; rfl
  refine ⟨fun H' => KW H0 H' b kb lb fb tb (N + 1) m z M' (noteB s') s' (.box sb (stL s') 40 :: L), fun _ H' kk => ?_, ?_⟩
  · exact done20_spec (h H' M' _ kk hsec)
  · rw [pEq_0, decide_eq_true (show (0 : Int) = 0 from rfl), pCond_true]
    obtain ⟨lv, r, ov, lf, o, ok⟩ := w.d
    refine o.bloadN (b := sb) (by repeat (first | exact List.mem_cons_self | apply List.mem_cons_of_mem)) rfl ?_
    rw [pNil_v, pFieldAddr_v, add_mk]
    refine ownsStoreP o (bb := kb) (f := 0 + 3) (vs := stL s') (by repeat (first | exact List.mem_cons_self | apply List.mem_cons_of_mem)) rfl (by simp) rfl (by repeat (first | exact Rep.here | apply Rep.there)) fun H4 o => ?_
    have w : WL H0 H4 b lb 0 8 (N + 1) M' (noteB s') (.box sb (stL s') 40 :: keepIt kb lb (ptr fb) tb s' :: fileIt fb b 8 m z :: tabIt tb :: L) := ⟨⟨lv, r, ov, lf, o, ok⟩, w.hr, w.hk, w.ho, w.cs, w.wf, w.good⟩
    exact ⟨w.swap_ (by repeat (first | exact SelsT.refl | exact Sel.here | apply SelsT.cons | apply Sel.there)), hf', .inr ⟨by omega, rfl⟩, hs, k.hm.trans hn'.symm, hd⟩
theorem change20_spec {f : Value} {i0 : It} {c : Bool} (k : KW H0 H b kb lb fb tb N m z M want s (i0 :: L)) (hN : N ≤ 1000000) (hs : StOk s') (hd : s'.dn = false)
    (hf : ∀ {A H : Heap} {L L2 : List It} {sb : Nat} {K : Value → Heap → Prop}, Owns A H L → i0 ∈ L → It.box sb (stL s) 40 ∈ L → Rep (.box sb (stL s) 40 ) (.box sb (stL s') 40 ) L L2 → (∀ H', Owns A H' L2 → K (.tuple #[]) H') → callH Try.prog Try.C f [ptr sb] H K)
    (h : ∀ H' M' L', KW H0 H' b kb lb fb tb (N + 1) m z M' (noteB s') s' L' → (∀ j, 8 ≤ j → M'.sec j = M.sec j) → R (.int .i64 0) H') : CallsH Try.prog 37 #[ptr kb, .bool c, f] H R := by
  refine keep_Keep_change.vc _ _ _ _ _ ?_
  unfold keep_Keep_change.res
  refine ready20_spec k ?_
  rw [pNe_0, decide_eq_false (by decide), pCond_false, pNil_v, pFieldAddr_v, add_mk]
  obtain ⟨lv, r, ov, lf, o, ok⟩ := k.w.d
  refine ownsLoadP o (bb := kb) (f := 0 + 3) (ws := stL s) (by repeat (first | exact List.mem_cons_self | apply List.mem_cons_of_mem)) (by simp) rfl ?_
  refine o.box fun sb H1 o _ => ?_
  refine o.bstoreN (b := sb) (vs := stL s) (by repeat (first | exact List.mem_cons_self | apply List.mem_cons_of_mem)) rfl rfl rfl (by repeat (first | exact Rep.here | apply Rep.there)) fun H2 o _ => ?_
  refine hf o (by repeat (first | exact List.mem_cons_self | apply List.mem_cons_of_mem)) (by repeat (first | exact List.mem_cons_self | apply List.mem_cons_of_mem)) (by repeat (first | exact Rep.here | apply Rep.there)) fun H3 o => ?_
  refine o.bloadN (b := sb) (by repeat (first | exact List.mem_cons_self | apply List.mem_cons_of_mem)) rfl ?_
  have kk : KW H0 H3 b kb lb fb tb N m z M want s (.box sb (stL s') 40 :: i0 :: L) := ⟨⟨⟨lv, r, ov, lf, o.arrT (by repeat (first | exact SelsT.refl | exact Sel.here | apply SelsT.cons | apply Sel.there)), ok⟩, k.w.hr, k.w.hk, k.w.ho, k.w.cs, k.w.wf, k.w.good⟩, k.fu, k.nz, k.ok, k.hm, k.dn⟩
  exact put20_spec kk hN hs hd fun H4 M' i kk hsec => h H4 M' _ kk hsec
/-- a keep at rest: it tells C -/
structure KS (H0 H : Heap) (b kb lb fb tb N m : Nat) (M : Dk) (want C : List UInt8) (s : St) (L : List It) : Prop where
  k : KW H0 H b kb lb fb tb N m C.length M want s L
  sz : s.sz = C.length
  su : s.su = more32 0 C
  len : C.length ≤ 64 * m
  im : (img M 8 m).take C.length = C
theorem KS.more {H' : Heap} (k : KS H0 H b kb lb fb tb N m M want C s L) (hx : Ext H H') : KS H0 H' b kb lb fb tb N m M want C s L := ⟨k.k.more hx, k.sz, k.su, k.len, k.im⟩
theorem img_same {M' : Dk} (h : ∀ j, 8 ≤ j → M'.sec j = M.sec j) : img M' 8 m = img M 8 m := by
  unfold img
  rw [genL_congr fun j _ => h (8 + j) (by omega)]
theorem KW.nmax (k : KW H0 H b kb lb fb tb N m z M want s L) : M.n ≤ 65536 := k.w.d.nmax
theorem zero_ok : StOk St.zero := ⟨by decide, by decide, by decide, by decide⟩
theorem start20_spec (k : KS H0 H b kb lb fb tb N m M want C s L) (hN : N ≤ 1000000) (hep : s.ep + 1 < 4294967296)
    (h : ∀ H' M' L', KS H0 H' b kb lb fb tb (N + 1) m M' (noteB { s with ep := s.ep + 1 }) C { s with ep := s.ep + 1 } L' → R (.int .i64 0) H') : CallsH Try.prog 12 #[ptr kb] H R := by
  refine keep_Keep_Start.vc _ _ _ ?_
  unfold keep_Keep_Start.res
  have hk : ∃ i0, KW H0 H b kb lb fb tb N m C.length M want s (i0 :: L) := by
    obtain ⟨lv, r, ov, lf, o, ok⟩ := k.k.w.d
    refine ⟨.sl (.slice none 0 0) 1 [], ⟨⟨lv, r, ov, lf, ?_, ok⟩, k.k.w.hr, k.k.w.hk, k.k.w.ho, k.k.w.cs, k.k.w.wf, k.k.w.good⟩, k.k.fu, k.k.nz, k.k.ok, k.k.hm, k.k.dn⟩
    have o := o.add (Ext.refl _) (i := .sl (.slice none 0 0) 1 []) ⟨by decide, .inl ⟨rfl, rfl⟩⟩ (by intro k hk; exact absurd hk (by simp [It.foot, blkOf]))
    exact o.arrT (by repeat (first | exact SelsT.refl | exact Sel.here | apply SelsT.cons | apply Sel.there))
  obtain ⟨i0, hk⟩ := hk
  refine change20_spec (s' := { s with ep := s.ep + 1 }) hk hN ⟨k.k.ok.se, hep, k.k.ok.sz, k.k.ok.su⟩ k.k.dn (fun {A H L L2 sb K} o _ hin hr hK => ?_) (fun H' M' L' kk hsec => ?_)
  · refine callH_f' (by decide +kernel) ?_
    refine keep_Keep_Start_f1.vc _ _ _ ?_
    unfold keep_Keep_Start_f1.res
    rw [pNil_v, pFieldAddr_v, add_mk]
    refine o.bload (b := sb) (f := 0 + 1) hin rfl ?_
    rw [pAdd_v, show ((s.ep : Nat) : Int) + 1 = ((s.ep + 1 : Nat) : Int) by omega, wu32 (by omega) (by omega), pNil_v, pFieldAddr_v, add_mk]
    exact o.bstore (b := sb) (f := 0 + 1) hin (by simp) rfl hr fun H' o _ => hK H' o
  · exact h H' M' L' ⟨kk, k.sz, k.su, k.len, by rw [img_same hsec]; exact k.im⟩
theorem begin20_spec {n : Nat} (k : KS H0 H b kb lb fb tb N m M want C s L) (hN : N ≤ 1000000) (hn : n < 4294967296)
    (h : ∀ H' M' L', KS H0 H' b kb lb fb tb (N + 1) m M' (noteB ⟨n, s.ep, 0, 0, false⟩) [] ⟨n, s.ep, 0, 0, false⟩ L' → R (.int .i64 0) H') : CallsH Try.prog 14 #[ptr kb, .int .u32 (n : Int)] H R := by
  refine keep_Keep_Begin.vc _ _ _ _ ?_
  unfold keep_Keep_Begin.res
  obtain ⟨lv, r, ov, lf, o, ok⟩ := k.k.w.d
  refine o.box fun ab H1 o _ => ?_
  change Owns H0 H1 (.box ab [.int .u32 (n : Int)] _ :: _) at o
  have hk : KW H0 H1 b kb lb fb tb N m C.length M want s (.box ab [.int .u32 (n : Int)] _ :: L) := ⟨⟨⟨lv, r, ov, lf, o.arrT (by repeat (first | exact SelsT.refl | exact Sel.here | apply SelsT.cons | apply Sel.there)), ok⟩, k.k.w.hr, k.k.w.hk, k.k.w.ho, k.k.w.cs, k.k.w.wf, k.k.w.good⟩, k.k.fu, k.k.nz, k.k.ok, k.k.hm, k.k.dn⟩
  refine change20_spec (s' := ⟨n, s.ep, 0, 0, false⟩) hk hN ⟨hn, k.k.ok.ep, Nat.zero_le _, (by decide : 0 < 4294967296)⟩ rfl (fun {A H L L2 sb K} o h0 hin hr hK => ?_) (fun H' M' L' kk hsec => ?_)
  · refine callH_f' (by decide +kernel) ?_
    refine keep_Keep_Begin_f1.vc _ _ _ _ ?_
    unfold keep_Keep_Begin_f1.res
    refine o.bload (b := ab) (f := 0) h0 rfl ?_
    rw [pNil_v, pFieldAddr_v, add_mk]
    refine o.bload (b := sb) (f := 0 + 1) hin rfl ?_
    refine pBuild_one rfl (by decide) ?_
    refine pBuild_one rfl (by simp) ?_
    rw [pBuild_n, pNil_v]
    exact o.bstoreN (b := sb) (vs := stL ⟨n, s.ep, 0, 0, false⟩) hin rfl rfl rfl hr fun H' o _ => hK H' o
  · rw [pNe_0, decide_eq_false (by decide), pCond_false]
    obtain ⟨lv, r, ov, lf, o, ok⟩ := kk.w.d
    rw [pNil_v, pFieldAddr_v, add_mk]
    refine o.bload (b := kb) (f := 0 + 1) (by repeat (first | exact List.mem_cons_self | apply List.mem_cons_of_mem)) rfl ?_
    have d : Dsk H0 H' b M' (fileIt fb b 8 m C.length :: logIt lb b 0 8 (noteB ⟨n, s.ep, 0, 0, false⟩) (N + 1) false :: keepIt kb lb (ptr fb) tb ⟨n, s.ep, 0, 0, false⟩ :: tabIt tb :: L') := ⟨lv, r, ov, lf, o.arrT (by repeat (first | exact SelsT.refl | exact Sel.here | apply SelsT.cons | apply Sel.there)), ok⟩
    refine cut_spec d (fun g => absurd ⟨by decide, by omega⟩ g) fun _ _ H2 d => ?_
    obtain ⟨lv, r, ov, lf, o, ok⟩ := d
    exact h H2 M' L' ⟨⟨⟨⟨lv, r, ov, lf, o.arrT (by repeat (first | exact SelsT.refl | exact Sel.here | apply SelsT.cons | apply Sel.there)), ok⟩, kk.w.hr, kk.w.hk, kk.w.ho, kk.w.cs, kk.w.wf, kk.w.good⟩, kk.fu, kk.nz, kk.ok, kk.hm, kk.dn⟩, rfl, rfl, Nat.zero_le _, rfl⟩
theorem room20_spec (k : KS H0 H b kb lb fb tb N m M want C s L) (h : R (.int .i64 ((64 * m - C.length : Nat) : Int)) H) : CallsH Try.prog 17 #[ptr kb] H R := by
  have hmax := k.k.nmax
  have hm := k.k.hm
  have hdn := k.k.dn
  obtain ⟨lv, r, ov, lf, o, ok⟩ := k.k.w.d
  refine keep_Keep_Room.vc _ _ _ ?_
  unfold keep_Keep_Room.res
  rw [pEq_3s]
  refine pOr_false ?_
  rw [pNil_v, pFieldAddr_v, add_mk, pFieldAddr_v, add_mk]
  refine o.bload (b := kb) (f := 0 + 3 + 4) (by repeat (first | exact List.mem_cons_self | apply List.mem_cons_of_mem)) rfl ?_
  intro _
  rw [hdn, pCond_false, pNil_v, pFieldAddr_v, add_mk]
  refine o.bload (b := kb) (f := 0 + 1) (by repeat (first | exact List.mem_cons_self | apply List.mem_cons_of_mem)) rfl ?_
  have d : Dsk H0 H b M (fileIt fb b 8 m C.length :: logIt lb b 0 8 want N false :: keepIt kb lb (ptr fb) tb s :: tabIt tb :: L) := ⟨lv, r, ov, lf, o.arrT (by repeat (first | exact SelsT.refl | exact Sel.here | apply SelsT.cons | apply Sel.there)), ok⟩
  exact room_spec d (by omega) k.len h
theorem state20_spec (k : KS H0 H b kb lb fb tb N m M want C s L) (h : ∀ H', Ext H H' → R (.agg (stL s).toArray) H') : CallsH Try.prog 13 #[ptr kb] H R := by
  obtain ⟨lv, r, ov, lf, o, ok⟩ := k.k.w.d
  refine keep_Keep_State.vc _ _ _ ?_
  unfold keep_Keep_State.res
  refine (Owns.start (H := H)).box fun rb H1 o1 _ => ?_
  have o := o.more o1.ext
  rw [pEq_3s, pCond_false, pNil_v, pFieldAddr_v, add_mk]
  refine ownsLoadP o (bb := kb) (f := 0 + 3) (ws := stL s) (by repeat (first | exact List.mem_cons_self | apply List.mem_cons_of_mem)) (by simp) rfl ?_
  refine o1.bstoreN (b := rb) (vs := stL s) (by repeat (first | exact List.mem_cons_self | apply List.mem_cons_of_mem)) rfl rfl rfl (by repeat (first | exact Rep.here | apply Rep.there)) fun H2 o1 _ => ?_
  refine o1.bloadN (b := rb) (by repeat (first | exact List.mem_cons_self | apply List.mem_cons_of_mem)) rfl ?_
  exact h H2 o1.ext
theorem read20_spec {n : Nat} (k : KS H0 H b kb lb fb tb N m M want C s L) (hn : n = C.length) (h : ∀ H', Ext H H' → R (.tuple #[str C, .int .i64 0]) H') : CallsH Try.prog 15 #[ptr kb, .int .i64 0, .int .i64 (n : Int)] H R := by
  subst hn
  have hm := k.k.hm
  obtain ⟨lv, r, ov, lf, o, ok⟩ := k.k.w.d
  refine keep_Keep_Read.vc _ _ _ _ _ ?_
  unfold keep_Keep_Read.res
  rw [pEq_3s, pCond_false, pNil_v, pFieldAddr_v, add_mk]
  refine o.bload (b := kb) (f := 0 + 1) (by repeat (first | exact List.mem_cons_self | apply List.mem_cons_of_mem)) rfl ?_
  have d : Dsk H0 H b M (fileIt fb b 8 m C.length :: logIt lb b 0 8 want N false :: keepIt kb lb (ptr fb) tb s :: tabIt tb :: L) := ⟨lv, r, ov, lf, o.arrT (by repeat (first | exact SelsT.refl | exact Sel.here | apply SelsT.cons | apply Sel.there)), ok⟩
  refine readF_spec d (by omega) k.len k.k.w.ho (fun g => absurd ⟨by decide, by omega, by omega, by omega⟩ g) fun _ _ _ _ H2 hx => ?_
  refine pExtract_to rfl ?_
  refine pExtract_to rfl ?_
  rw [show (0 : Int).toNat = 0 from rfl, List.drop_zero, Int.toNat_natCast, k.im]
  exact h H2 hx
theorem append20_spec {t : List UInt8} (k : KS H0 H b kb lb fb tb N m M want C s L) (hN : N ≤ 1000000) (hC : C.length + t.length ≤ 64 * m) (hC2 : C.length + t.length ≤ 4194304)
    (h : ∀ H' M' L', KS H0 H' b kb lb fb tb (N + 1) m M' (noteB ⟨s.se, s.ep, (C ++ t).length, more32 0 (C ++ t), false⟩) (C ++ t) ⟨s.se, s.ep, (C ++ t).length, more32 0 (C ++ t), false⟩ L' → R (.int .i64 0) H') : CallsH Try.prog 9 #[ptr kb, str t] H R := by
  have hm := k.k.hm
  have hdn := k.k.dn
  refine keep_Keep_Append.vc _ _ _ _ ?_
  unfold keep_Keep_Append.res
  refine ready20_spec k.k ?_
  rw [pNe_0, decide_eq_false (by decide), pCond_false]
  refine pLenS_to ?_
  refine room20_spec k ?_
  rw [pGt_v, decide_eq_false (by omega), pCond_false, pNil_v, pFieldAddr_v, add_mk]
  obtain ⟨lv, r, ov, lf, o, ok⟩ := k.k.w.d
  refine o.bload (b := kb) (f := 0 + 1) (by repeat (first | exact List.mem_cons_self | apply List.mem_cons_of_mem)) rfl ?_
  have d : Dsk H0 H b M (fileIt fb b 8 m C.length :: logIt lb b 0 8 want N false :: keepIt kb lb (ptr fb) tb s :: tabIt tb :: L) := ⟨lv, r, ov, lf, o.arrT (by repeat (first | exact SelsT.refl | exact Sel.here | apply SelsT.cons | apply Sel.there)), ok⟩
  clear o ok
  refine append_spec d (by omega) k.len (by omega) k.k.w.ho fun H1 M1 e g d => ?_
  obtain ⟨rfl, hf1⟩ := g.calm k.k.fu
  obtain ⟨ho1, him⟩ := g.yes rfl
  rw [if_pos rfl] at d
  rw [pNe_0, decide_eq_false (by decide), pCond_false, pNil_v, pFieldAddr_v, add_mk]
  obtain ⟨lv, r, ov, lf, o, ok⟩ := d
  refine o.bload (b := kb) (f := 0 + 1) (by repeat (first | exact List.mem_cons_self | apply List.mem_cons_of_mem)) rfl ?_
  have d : Dsk H0 H1 b M1 (fileIt fb b 8 m (C.length + t.length) :: logIt lb b 0 8 want N false :: keepIt kb lb (ptr fb) tb s :: tabIt tb :: L) := ⟨lv, r, ov, lf, o, ok⟩
  clear o ok
  refine syncF_spec d fun H2 d => ?_
  have hsy : M1.sync = (M1.flush, 0) := by
    unfold Dk.sync
    rw [if_neg (by rw [ho1]; decide), if_neg (by rw [hf1]; simp)]
  rw [hsy] at d ⊢
  change Dsk H0 H2 b M1.flush _ at d
  rw [pNe_0, decide_eq_false (by simp), pCond_false, pNil_v, pFieldAddr_v, add_mk]
  obtain ⟨lv, r, ov, lf, o, ok⟩ := d
  refine ownsLoadP o (bb := kb) (f := 0 + 3) (ws := stL s) (by repeat (first | exact List.mem_cons_self | apply List.mem_cons_of_mem)) (by simp) rfl ?_
  refine o.box fun nb H3 o _ => ?_
  refine o.bstoreN (b := nb) (vs := stL s) (by repeat (first | exact List.mem_cons_self | apply List.mem_cons_of_mem)) rfl rfl rfl (by repeat (first | exact Rep.here | apply Rep.there)) fun H4 o _ => ?_
  rw [pFieldAddr_v, add_mk]
  refine o.bload (b := nb) (f := 0 + 2) (by repeat (first | exact List.mem_cons_self | apply List.mem_cons_of_mem)) rfl ?_
  refine pLenS_to ?_
  have hsz := k.sz
  have hmx := k.k.nmax
  rw [pAdd_v, show ((s.sz : Nat) : Int) + ((t.length : Nat) : Int) = (((C ++ t).length : Nat) : Int) by rw [List.length_append]; omega, w64 (by rw [List.length_append]; omega) (by rw [List.length_append]; omega), pNil_v, pFieldAddr_v, add_mk]
  refine o.bload (b := kb) (f := 0 + 2) (by repeat (first | exact List.mem_cons_self | apply List.mem_cons_of_mem)) rfl ?_
  rw [pFieldAddr_v, add_mk]
  refine o.bload (b := nb) (f := 0 + 3) (by repeat (first | exact List.mem_cons_self | apply List.mem_cons_of_mem)) rfl ?_
  rw [pFieldAddr_v, add_mk]
  refine tMore_spec (s := s.su) k.k.ok.su (by omega) ⟨o.blk (b := tb) (by repeat (first | exact List.mem_cons_self | apply List.mem_cons_of_mem))⟩ ?_
  rw [k.su, more32_append]
  refine ⟨o.bload (b := nb) (f := 0 + 2) (by repeat (first | exact List.mem_cons_self | apply List.mem_cons_of_mem)) rfl rfl, ?_⟩
  refine o.bstore (b := nb) (f := 0 + 2) (by repeat (first | exact List.mem_cons_self | apply List.mem_cons_of_mem)) (by simp) rfl (by repeat (first | exact Rep.here | apply Rep.there)) fun H5 o _ => ?_
  rw [pFieldAddr_v, add_mk]
  refine o.bstore (b := nb) (f := 0 + 3) (by repeat (first | exact List.mem_cons_self | apply List.mem_cons_of_mem)) (by simp) rfl (by repeat (first | exact Rep.here | apply Rep.there)) fun H6 o _ => ?_
  refine o.bloadN (b := nb) (by repeat (first | exact List.mem_cons_self | apply List.mem_cons_of_mem)) rfl ?_
  have hlow := g.low rfl
  have hla8 : ∀ j, j < 8 → M1.flush.la j = M.la j := fun j hj => by
    show (M1.cs j).getD (M1.la j) = M.la j
    rw [(hlow j hj).1, (hlow j hj).2, k.k.w.cs]; rfl
  have hna : ∀ j, j < 8 → noteAt M1.flush 0 j = noteAt M 0 j := fun j hj => by
    rw [noteAt_la rfl, noteAt_la k.k.w.cs]
    show parse (M1.flush.la (0 + j)) = parse (M.la (0 + j))
    rw [hla8 (0 + j) (by omega)]
  have hwf : WalF (noteAt M1.flush 0) 8 N want := by
    refine ⟨fun j hj q hq => k.k.w.wf.pos j hj q (by rw [← hna j hj]; exact hq), fun j hj q hq => k.k.w.wf.lt j hj q (by rw [← hna j hj]; exact hq), fun h1 => ?_, k.k.w.wf.zero⟩
    rw [hna _ (Nat.mod_lt _ (by decide))]
    exact k.k.w.wf.top h1
  have hn1 : M1.flush.n = M.n := g.n_
  have kk : KW H0 H6 b kb lb fb tb N m (C.length + t.length) M1.flush want s (.box nb (stL ⟨s.se, s.ep, (C ++ t).length, more32 0 (C ++ t), s.dn⟩) 40 :: L) := by
    refine ⟨⟨⟨lv, r, ov, lf, o.arrT (by repeat (first | exact SelsT.refl | exact Sel.here | apply SelsT.cons | apply Sel.there)), ok⟩, by rw [hn1]; exact k.k.w.hr, k.k.w.hk, ho1, rfl, hwf, fun j hj => by rw [hla8 (0 + j) (by omega)]; exact k.k.w.good j hj⟩, hf1, k.k.nz, k.k.ok, hm.trans hn1.symm, k.k.dn⟩
  have hst : (stL ⟨s.se, s.ep, (C ++ t).length, more32 0 (C ++ t), s.dn⟩) = stL ⟨s.se, s.ep, (C ++ t).length, more32 0 (C ++ t), false⟩ := by rw [hdn]
  show CallsH Try.prog 32 #[ptr kb, .agg (stL ⟨s.se, s.ep, (C ++ t).length, more32 0 (C ++ t), s.dn⟩).toArray] H6 _
  rw [hst]
  refine put20_spec kk hN ⟨k.k.ok.se, k.k.ok.ep, by show (C ++ t).length ≤ _; rw [List.length_append]; exact hC2, more32_lt _ _⟩ rfl fun H7 M2 i kk hsec => ?_
  rw [← List.length_append] at kk
  exact h H7 M2 _ ⟨kk, rfl, rfl, by rw [List.length_append]; exact hC, by rw [img_same hsec, flush_img, List.length_append, him, k.im]⟩
theorem open20_spec {i : List UInt8} (d : Dsk H0 H b M L) (hn : 8 + m = M.n) (hm1 : 1 ≤ m) (ho : M.off = false) (wf : WalF (noteAt M 0) 8 N want)
    (nz : N = 0 ∧ s = St.zero ∨ 1 ≤ N ∧ want = noteB s) (hs : StOk s) (hsz : s.sz ≤ 64 * m) (hi : i = (img M 8 m).take s.sz)
    (hyes : s.su = more32 0 i → ∀ H' kb lb fb tb i0, Dsk H0 H' b M (logIt lb b 0 8 want N false :: keepIt kb lb (ptr fb) tb s :: fileIt fb b 8 m s.sz :: tabIt tb :: i0 :: L) → R (.tuple #[ptr kb, .int .i64 0]) H')
    (hno : s.su ≠ more32 0 i → ∀ H', Ext H0 H' → R (.tuple #[.pointer none, .int .i64 7]) H') : CallsH Try.prog 8 #[ptr b] H R := by
  have hmax := d.nmax
  have hN : N < 18446744073709551616 := by
    rcases nz with h | h
    · omega
    · exact (parse_lt (wf.top h.1)).2.1
  refine keep_Open.vc _ _ _ ?_
  unfold keep_Open.res
  rw [pEq_3s, pCond_false]
  refine sectors_spec d ?_
  rw [pLt_v, decide_eq_false (by omega), pCond_false]
  refine open_spec18 (a := 0) (m := 8) (by decide) d ho (by decide) (fun g => absurd (by omega) g) fun _ _ _ H1 lb d => ?_
  rw [show (0 : Int).toNat = 0 from rfl, show (8 : Int).toNat = 8 from rfl, open_walF (by decide) wf] at d
  refine pExtract_to rfl ?_
  refine pExtract_to rfl ?_
  rw [pNe_0, decide_eq_false (by simp), pCond_false]
  refine tMake_spec fun H2 tb ht x2 hsz2 => ?_
  obtain ⟨lv, r, ov, lf, o, ok⟩ := d
  have o := o.add x2 (i := tabIt tb) ht.blk (by intro k hk; simp only [It.foot] at hk; omega)
  refine pBuild_one rfl (by decide) ?_
  refine pBuild_one rfl (by simp) ?_
  rw [pBuild_n]
  refine o.box fun kb H3 o _ => ?_
  have d : Dsk H0 H3 b M (logIt lb b 0 8 want N false :: keepIt kb lb (.pointer none) tb St.zero :: tabIt tb :: L) := ⟨lv, r, ov, lf, o.arrT (by repeat (first | exact SelsT.refl | exact Sel.here | apply SelsT.cons | apply Sel.there)), ok⟩
  clear o ok
  refine ⟨fun H' => ∃ i0, Dsk H0 H' b M (logIt lb b 0 8 want N false :: keepIt kb lb (.pointer none) tb s :: tabIt tb :: i0 :: L), ?_, ?_⟩
  · clear d
    rintro _ H4 ⟨i0, d⟩
    obtain ⟨lv, r, ov, lf, o, ok⟩ := d
    rw [pNil_v, pFieldAddr_v, add_mk, pFieldAddr_v, add_mk]
    refine o.bload (b := kb) (f := 0 + 3 + 2) (by repeat (first | exact List.mem_cons_self | apply List.mem_cons_of_mem)) rfl ?_
    have d : Dsk H0 H4 b M (logIt lb b 0 8 want N false :: keepIt kb lb (.pointer none) tb s :: tabIt tb :: i0 :: L) := ⟨lv, r, ov, lf, o, ok⟩
    refine sectors_spec d ?_
    refine ⟨o.bload (b := kb) (f := 0 + 3 + 2) (by repeat (first | exact List.mem_cons_self | apply List.mem_cons_of_mem)) rfl rfl, ?_⟩
    rw [pSub_v, show (M.n : Int) - 8 = (m : Int) by omega, w64 (by omega) (by omega)]
    refine newF_spec (by omega) d (by omega) (fun g => absurd ⟨by decide, by omega, by omega, by omega, by omega⟩ g) fun _ _ _ _ _ H5 fb d => ?_
    rw [show (8 : Int).toNat = 8 from rfl, Int.toNat_natCast, Int.toNat_natCast] at d
    refine pExtract_to rfl ?_
    refine pExtract_to rfl ?_
    obtain ⟨lv, r, ov, lf, o, ok⟩ := d
    rw [pNil_v, pFieldAddr_v, add_mk]
    refine o.bstore (b := kb) (f := 0 + 1) (by repeat (first | exact List.mem_cons_self | apply List.mem_cons_of_mem)) (by simp) rfl (by repeat (first | exact Rep.here | apply Rep.there)) fun H6 o _ => ?_
    have o : Owns H0 H6 (dkIts b lv r ov lf M (fileIt fb b 8 m s.sz :: logIt lb b 0 8 want N false :: keepIt kb lb (ptr fb) tb s :: tabIt tb :: i0 :: L)) := o
    rw [pNe_0, decide_eq_false (by decide), pCond_false, pNil_v, pFieldAddr_v, add_mk]
    refine o.bload (b := kb) (f := 0 + 1) (by repeat (first | exact List.mem_cons_self | apply List.mem_cons_of_mem)) rfl ?_
    rw [pNil_v, pFieldAddr_v, add_mk, pFieldAddr_v, add_mk]
    refine o.bload (b := kb) (f := 0 + 3 + 2) (by repeat (first | exact List.mem_cons_self | apply List.mem_cons_of_mem)) rfl ?_
    have d : Dsk H0 H6 b M (fileIt fb b 8 m s.sz :: logIt lb b 0 8 want N false :: keepIt kb lb (ptr fb) tb s :: tabIt tb :: i0 :: L) := ⟨lv, r, ov, lf, o, ok⟩
    have hil : (img M 8 m).length = 64 * m := img_len fun j hj => d.secs (by omega)
    refine readF_spec d (by omega) hsz ho (fun g => absurd ⟨by decide, by omega, by omega, by omega⟩ g) fun _ _ _ _ H7 hx => ?_
    have o := o.more hx
    refine pExtract_to rfl ?_
    refine pExtract_to rfl ?_
    rw [show (0 : Int).toNat = 0 from rfl, List.drop_zero, Int.toNat_natCast, ← hi]
    have hl : i.length = s.sz := by rw [hi, List.length_take]; omega
    rw [pNe_0, decide_eq_false (by decide), pCond_false, pNil_v, pFieldAddr_v, add_mk]
    refine o.bload (b := kb) (f := 0 + 2) (by repeat (first | exact List.mem_cons_self | apply List.mem_cons_of_mem)) rfl ?_
    rw [pNil_v, pFieldAddr_v, add_mk, pFieldAddr_v, add_mk]
    refine o.bload (b := kb) (f := 0 + 3 + 3) (by repeat (first | exact List.mem_cons_self | apply List.mem_cons_of_mem)) rfl ?_
    refine tSum_spec (by omega) ⟨o.blk (b := tb) (by repeat (first | exact List.mem_cons_self | apply List.mem_cons_of_mem))⟩ ?_
    refine ⟨o.bload (b := kb) (f := 0 + 3 + 3) (by repeat (first | exact List.mem_cons_self | apply List.mem_cons_of_mem)) rfl rfl, ?_⟩
    show pNe 0 (.int .u32 ((more32 0 i : Nat) : Int)) (.int .u32 ((s.su : Nat) : Int)) _
    rw [pNe_0]
    by_cases hc : s.su = more32 0 i
    · rw [decide_eq_false (by omega), pCond_false]
      exact hyes hc H7 kb lb fb tb i0 ⟨lv, r, ov, lf, o.arrT (by repeat (first | exact SelsT.refl | exact Sel.here | apply SelsT.cons | apply Sel.there)), ok⟩
    · rw [decide_eq_true (by omega), pCond_true]
      exact hno hc H7 o.ext
  · refine note_spec d ?_
    refine pExtract_to rfl ?_
    refine pExtract_to rfl ?_
    rw [pGt_v]
    refine pCond_if (fun hc => ?_) (fun hc => ?_)
    · obtain ⟨_, hw⟩ : 1 ≤ N ∧ want = noteB s := by
        rcases nz with g | g
        · omega
        · exact g
      subst hw
      refine stParse_spec hs fun H4 hx => ?_
      have d := d.more' hx
      refine pExtract_to rfl ?_
      refine pExtract_to rfl ?_
      obtain ⟨lv, r, ov, lf, o, ok⟩ := d
      refine o.box fun sb H5 o _ => ?_
      refine o.bstoreN (b := sb) (vs := stL s) (by repeat (first | exact List.mem_cons_self | apply List.mem_cons_of_mem)) rfl rfl rfl (by repeat (first | exact Rep.here | apply Rep.there)) fun H6 o _ => ?_
      rw [pNot_v, Bool.not_true, pCond_false]
      refine o.bloadN (b := sb) (by repeat (first | exact List.mem_cons_self | apply List.mem_cons_of_mem)) rfl ?_
      rw [pNil_v, pFieldAddr_v, add_mk]
      refine ownsStoreP o (bb := kb) (f := 0 + 3) (vs := stL s) (by repeat (first | exact List.mem_cons_self | apply List.mem_cons_of_mem)) rfl (by simp) rfl (by repeat (first | exact Rep.here | apply Rep.there)) fun H7 o => ?_
      exact ⟨.box sb (stL s) 40 , lv, r, ov, lf, o.arrT (by repeat (first | exact SelsT.refl | exact Sel.here | apply SelsT.cons | apply Sel.there)), ok⟩
    · have hs0 : s = St.zero := by
        rcases nz with g | g
        · exact g.2
        · omega
      subst hs0
      obtain ⟨lv, r, ov, lf, o, ok⟩ := d
      have o := o.add (Ext.refl _) (i := .sl (.slice none 0 0) 1 []) ⟨by decide, .inl ⟨rfl, rfl⟩⟩ (by intro k hk; exact absurd hk (by simp [It.foot, blkOf]))
      exact ⟨.sl (.slice none 0 0) 1 [], lv, r, ov, lf, o.arrT (by repeat (first | exact SelsT.refl | exact Sel.here | apply SelsT.cons | apply Sel.there)), ok⟩
/-- a disk that tells C and s -/
structure DS (H0 H : Heap) (b N m : Nat) (M : Dk) (want C : List UInt8) (s : St) (L : List It) : Prop where
  d : Dsk H0 H b M L
  hn : 8 + m = M.n
  hm : 1 ≤ m
  ho : M.off = false
  fu : M.fuse = none
  cs : M.cs = fun _ => none
  wf : WalF (noteAt M 0) 8 N want
  good : ∀ j, j < 8 → Good (M.la (0 + j))
  nz : N = 0 ∧ s = St.zero ∨ 1 ≤ N ∧ want = noteB s
  ok : StOk s
  dn : s.dn = false
  sz : s.sz = C.length
  su : s.su = more32 0 C
  len : C.length ≤ 64 * m
  im : (img M 8 m).take C.length = C
theorem KS.ds (k : KS H0 H b kb lb fb tb N m M want C s L) (hm : 1 ≤ m) : DS H0 H b N m M want C s (logIt lb b 0 8 want N false :: keepIt kb lb (ptr fb) tb s :: fileIt fb b 8 m C.length :: tabIt tb :: L) :=
  ⟨k.k.w.d, k.k.hm, hm, k.k.w.ho, k.k.fu, k.k.w.cs, k.k.w.wf, k.k.w.good, k.k.nz, k.k.ok, k.k.dn, k.sz, k.su, k.len, k.im⟩
theorem DS.open (k : DS H0 H b N m M want C s L) (h : ∀ H' kb lb fb tb i0, KS H0 H' b kb lb fb tb N m M want C s (i0 :: L) → R (.tuple #[ptr kb, .int .i64 0]) H') : CallsH Try.prog 8 #[ptr b] H R := by
  have hsz := k.sz
  have hlen := k.len
  refine open20_spec (i := C) k.d k.hn k.hm k.ho k.wf k.nz k.ok (by omega) (by rw [hsz, k.im]) (fun _ H' kb lb fb tb i0 d => ?_) (fun g => absurd k.su g)
  rw [hsz] at d
  exact h H' kb lb fb tb i0 ⟨⟨⟨d, by have := k.hn; omega, by decide, k.ho, k.cs, k.wf, k.good⟩, k.fu, k.nz, k.ok, k.hn, k.dn⟩, hsz, k.su, hlen, k.im⟩
theorem DS.new (d : Dsk H0 H b (Dk.new (8 + m)) L) (hm : 1 ≤ m) : DS H0 H b 0 m (Dk.new (8 + m)) [] [] St.zero L := by
  have e : noteAt (Dk.new (8 + m)) 0 = fun _ => none := by
    funext j
    exact parse_zero
  refine ⟨d, rfl, hm, rfl, rfl, rfl, ?_, fun _ _ => .inl rfl, .inl ⟨rfl, rfl⟩, zero_ok, rfl, rfl, rfl, Nat.zero_le _, rfl⟩
  rw [e]
  exact ⟨fun _ _ _ h => (by cases h), fun _ _ _ h => (by cases h), fun h => absurd h (by decide), fun _ => rfl⟩
theorem KS.back {kb2 lb2 fb2 tb2 : Nat} {i0 : It} {H' : Heap} (k : KS H0 H b kb lb fb tb N m M want C s L) (k2 : KS H0 H' b kb2 lb2 fb2 tb2 N m M want C s (i0 :: logIt lb b 0 8 want N false :: keepIt kb lb (ptr fb) tb s :: fileIt fb b 8 m C.length :: tabIt tb :: L)) : ∃ L', KS H0 H' b kb lb fb tb N m M want C s L' := by
  obtain ⟨lv, r, ov, lf, o, ok⟩ := k2.k.w.d
  refine ⟨i0 :: logIt lb2 b 0 8 want N false :: keepIt kb2 lb2 (ptr fb2) tb2 s :: fileIt fb2 b 8 m C.length :: tabIt tb2 :: L, ⟨⟨⟨lv, r, ov, lf, o.arrT (by repeat (first | exact SelsT.refl | exact Sel.here | apply SelsT.cons | apply Sel.there)), ok⟩, k.k.w.hr, k.k.w.hk, k.k.w.ho, k.k.w.cs, k.k.w.wf, k.k.w.good⟩, k.k.fu, k.k.nz, k.k.ok, k.k.hm, k.k.dn⟩, k.sz, k.su, k.len, k.im⟩
end Go.Proofs.Ytdaolhlfngfmgaa
