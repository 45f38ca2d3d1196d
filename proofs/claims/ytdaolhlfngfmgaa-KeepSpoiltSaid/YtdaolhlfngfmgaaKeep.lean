/- Contracts of package keep. -/
import Derived.Test.YtdaolhlfngfmgaaWalL
import Derived.Test.YtdaolhlfngfmgaaStage2
import Derived.Test.YtdaolhlfngfmgaaKeepN
import Derived.Test.YtdaolhlfngfmgaaResKeep
namespace Go.Proofs.Ytdaolhlfngfmgaa
open Go Go.Vc Go.Proofs
set_option linter.unusedVariables false
set_option linter.unusedSimpArgs false
variable {H H0 : Heap} {R : Value → Heap → Prop} {v : Value} {L L' : List It} {b kb lb fb tb N m z : Nat} {M : Dk} {want C : List UInt8} {s s' : St}
theorem ownsLoadP {KV : Value → Prop} {bb f n : Nat} {cs ws : List Value} {t : TypeId} (o : Owns H0 H L) (hin : It.box bb cs t ∈ L) (hfn : f + n ≤ cs.length) (hw : (cs.drop f).take n = ws) (hk : KV (.agg ws.toArray)) : pLoadN H n (.pointer (some ⟨bb, f, none⟩)) KV := by
  have h := o.blk hin
  have e := cellsAt_blk (o := f) h n (by simpa using hfn)
  simp only [pLoadN, e]
  subst hw
  exact hk
theorem ownsStoreP {K : Value → Heap → Prop} {bb f n : Nat} {cs vs : List Value} {t : TypeId} (o : Owns H0 H L) (hin : It.box bb cs t ∈ L) (hn : vs.length = n) (hfn : f + n ≤ cs.length) (hx : vs.all oneCell = true)
    (hrep : Rep (.box bb cs t) (.box bb (putL cs f vs) t) L L') (hk : ∀ H', Owns H0 H' L' → K undef H') : pStoreN H n (.pointer (some ⟨bb, f, none⟩)) (.agg vs.toArray) K := by
  subst hn
  have h := o.blk hin
  have e := setsAt_blk (o := f) vs H cs.toArray 0 h hx (by simpa using hfn)
  simp only [pStoreN, cells_agg, e]
  refine ⟨by simp, hk _ (o.turn hrep (by simp) (fun k hk hne => get_set_ne (by intro e; subst e; exact hne rfl)) ?_ (fun k hk => .inl hk))⟩
  show _ = _
  rw [get_set_self (lt_of_blk h)]
  rfl
abbrev stL (s : St) : List Value := [.int .u32 (s.se : Int), .int .u32 (s.ep : Int), .int .i64 (s.sz : Int), .int .u32 (s.su : Int), .bool s.dn]
theorem stNote_spec (hs : StOk s) (h : ∀ H', Ext H H' → R (str (noteB s)) H') : CallsH Try.prog 51 #[.agg (stL s).toArray] H R := by
  have h1 := hs.se
  have h2 := hs.ep
  have h3 := hs.sz
  have h4 := hs.su
  have h5 : s.dn.toNat < 2 := by cases s.dn <;> decide
  refine keep_State_note.vc _ _ _ ?_
  unfold keep_State_note.res
  refine (Owns.start (H := H)).box fun sb H1 o _ => ?_
  change Owns H H1 [.box sb (stL s) 40 ] at o
  refine ⟨fun dv H' => dv = .int .u64 ((s.dn.toNat : Nat) : Int) ∧ H1 = H', ?_, ?_⟩
  · rintro _ _ _ ⟨rfl, rfl⟩
    rw [pFieldAddr_v, add_mk]
    refine o.bload (b := sb) (f := 0 + 0) (by repeat (first | exact List.mem_cons_self | apply List.mem_cons_of_mem)) rfl ?_
    rw [pConv_v, wu64 (n := ((s.se : Nat) : Int)) (by omega) (by omega), pFieldAddr_v, add_mk]
    refine o.bload (b := sb) (f := 0 + 1) (by repeat (first | exact List.mem_cons_self | apply List.mem_cons_of_mem)) rfl ?_
    rw [pConv_v, wu64 (n := ((s.ep : Nat) : Int)) (by omega) (by omega), pFieldAddr_v, add_mk]
    refine o.bload (b := sb) (f := 0 + 2) (by repeat (first | exact List.mem_cons_self | apply List.mem_cons_of_mem)) rfl ?_
    rw [pConv_v, wu64 (n := ((s.sz : Nat) : Int)) (by omega) (by omega), pFieldAddr_v, add_mk]
    refine o.bload (b := sb) (f := 0 + 3) (by repeat (first | exact List.mem_cons_self | apply List.mem_cons_of_mem)) rfl ?_
    rw [pConv_v, wu64 (n := ((s.su : Nat) : Int)) (by omega) (by omega)]
    refine put_at (n := s.se) (kn := 4) rfl (by omega) (by decide) (by decide) fun H2 x => ?_
    have o := o.more x
    refine ⟨o.bload (b := sb) (f := 0 + 1) (by repeat (first | exact List.mem_cons_self | apply List.mem_cons_of_mem)) rfl rfl, o.bload (b := sb) (f := 0 + 2) (by repeat (first | exact List.mem_cons_self | apply List.mem_cons_of_mem)) rfl rfl, o.bload (b := sb) (f := 0 + 3) (by repeat (first | exact List.mem_cons_self | apply List.mem_cons_of_mem)) rfl rfl, ?_⟩
    refine put_at (n := s.ep) (kn := 4) rfl (by omega) (by decide) (by decide) fun H3 x => ?_
    have o := o.more x
    refine ⟨o.bload (b := sb) (f := 0 + 2) (by repeat (first | exact List.mem_cons_self | apply List.mem_cons_of_mem)) rfl rfl, o.bload (b := sb) (f := 0 + 3) (by repeat (first | exact List.mem_cons_self | apply List.mem_cons_of_mem)) rfl rfl, ?_⟩
    refine pAdd_str (by simp only [List.length_append, putN_len]; decide) ?_
    refine put_at (n := s.sz) (kn := 8) rfl (by omega) (by decide) (by decide) fun H4 x => ?_
    have o := o.more x
    refine ⟨o.bload (b := sb) (f := 0 + 3) (by repeat (first | exact List.mem_cons_self | apply List.mem_cons_of_mem)) rfl rfl, ?_⟩
    refine pAdd_str (by simp only [List.length_append, putN_len]; decide) ?_
    refine put_at (n := s.su) (kn := 4) rfl (by omega) (by decide) (by decide) fun H5 x => ?_
    have o := o.more x
    refine pAdd_str (by simp only [List.length_append, putN_len]; decide) ?_
    refine put_at (n := s.dn.toNat) (kn := 1) rfl (by omega) (by decide) (by decide) fun H6 x => ?_
    have o := o.more x
    refine pAdd_str (by simp only [List.length_append, putN_len]; decide) ?_
    exact h H6 o.ext
  · rw [pFieldAddr_v, add_mk]
    refine o.bload (b := sb) (f := 0 + 4) (by repeat (first | exact List.mem_cons_self | apply List.mem_cons_of_mem)) rfl ?_
    refine pCond_b (fun hd => ?_) (fun hd => ?_)
    · rw [hd]; exact ⟨rfl, rfl⟩
    · rw [hd]; exact ⟨rfl, rfl⟩
theorem stParse_spec (hs : StOk s) (h : ∀ H', Ext H H' → R (.tuple #[.agg (stL s).toArray, .bool true]) H') : CallsH Try.prog 23 #[str (noteB s)] H R := by
  have h1 := hs.se
  have h2 := hs.ep
  have h3 := hs.sz
  have h4 := hs.su
  have hnl := noteB_len s
  have hget : ∀ {n : Nat} {H' : Heap} {K : Value → Heap → Prop}, n < 4294967296 → K (.int .u32 (n : Int)) H' → CallsH Try.prog 50 #[str (putN n 4)] H' fun x H'' => pConv .u32 x fun y => K y H'' := fun {n H' K} hn hK => by
    refine get_spec (by rw [putN_len]; decide) ?_
    rw [if_pos (by rw [putN_len]; decide), getN4 hn, pConv_v, wu32 (n := (n : Int)) (by omega) (by omega)]
    exact hK
  refine keep_parse.vc _ _ _ ?_
  unfold keep_parse.res
  refine (Owns.start (H := H)).box fun rb H1 o _ => ?_
  change Owns H H1 [.box rb (stL St.zero) 40 ] at o
  refine pLenS_to ?_
  rw [hnl, pNe_0, decide_eq_false (by decide), pCond_false]
  refine pSlStr_to (lo := 8) (hi := 16) (.inl rfl) (.inl rfl) (by decide) (by omega) ?_
  rw [show 16 - 8 = 8 from rfl, note_sz]
  refine get_spec (by rw [putN_len]; decide) ?_
  rw [if_pos (by rw [putN_len]; decide), getN8 (by omega)]
  refine ⟨fun sv H' => ∃ sb, sv = ptr sb ∧ Owns H H' [.box sb (stL s) 40 , .box rb (stL St.zero) 40 ], ?_, ?_⟩
  · clear o
    rintro _ _ H2 ⟨sb, rfl, o⟩
    refine o.bloadN (b := sb) (by repeat (first | exact List.mem_cons_self | apply List.mem_cons_of_mem)) rfl ?_
    refine o.bloadN (b := sb) (by repeat (first | exact List.mem_cons_self | apply List.mem_cons_of_mem)) rfl ?_
    refine stNote_spec hs fun H3 hx => ?_
    have o := o.more hx
    refine ⟨o.bloadN (b := sb) (by repeat (first | exact List.mem_cons_self | apply List.mem_cons_of_mem)) rfl rfl, ?_⟩
    refine pEq1_to ?_
    rw [decide_eq_true rfl]
    refine o.bstoreN (b := rb) (by repeat (first | exact List.mem_cons_self | apply List.mem_cons_of_mem)) rfl rfl rfl (by repeat (first | exact Rep.here | apply Rep.there)) fun H4 o _ => ?_
    refine o.bloadN (b := rb) (by repeat (first | exact List.mem_cons_self | apply List.mem_cons_of_mem)) rfl ?_
    exact h H4 o.ext
  refine pSlStr_to (lo := 0) (hi := 4) (.inr ⟨rfl, rfl⟩) (.inl rfl) (by decide) (by omega) ?_
  rw [List.drop_zero, Nat.sub_zero, note_se]
  refine pSlStr_to (lo := 4) (hi := 8) (.inl rfl) (.inl rfl) (by decide) (by omega) ?_
  rw [show 8 - 4 = 4 from rfl, note_ep]
  rw [pMin_v, show min ((s.sz : Nat) : Int) 4194304 = ((s.sz : Nat) : Int) by omega, pConv_v, w64 (n := ((s.sz : Nat) : Int)) (by omega) (by omega)]
  refine pSlStr_to (lo := 16) (hi := 20) (.inl rfl) (.inl rfl) (by decide) (by omega) ?_
  rw [show 20 - 16 = 4 from rfl, note_su, pIdxStr_v]
  refine ⟨by decide, by rw [bys_mk, hnl]; decide, ?_⟩
  rw [bys_mk, show (20 : Int).toNat = 20 from rfl, note_dn]
  rw [pEq_0, show (decide ((((UInt8.ofNat s.dn.toNat).toNat : Nat) : Int) = 1)) = s.dn from by cases s.dn <;> rfl]
  have hend : ∀ {H' : Heap} {A : Heap → Value → Prop} {K : Value → Prop}, K (.agg (stL s).toArray) → pBuild [(.int .u32 0), (.int .u32 0), (.int .i64 0), (.int .u32 0), (.bool false)] [(0, 1, .int .u32 (s.se : Int)), (1, 1, .int .u32 (s.ep : Int)), (2, 1, .int .i64 (s.sz : Int)), (3, 1, .int .u32 (s.su : Int)), (4, 1, .bool s.dn)] K := fun hK => by
    refine pBuild_one rfl (by decide) ?_
    refine pBuild_one rfl (by simp) ?_
    refine pBuild_one rfl (by simp) ?_
    refine pBuild_one rfl (by simp) ?_
    refine pBuild_one rfl (by simp) ?_
    rw [pBuild_n]
    exact hK
  refine ⟨hget h1 ⟨hget h2 ⟨hget h4 ?_, ?_⟩, ?_⟩, ?_⟩
  · refine hend (A := fun _ _ => True) (H' := H) ?_
    refine o.box fun sb H2 o _ => ?_
    refine o.bstoreN (b := sb) (by repeat (first | exact List.mem_cons_self | apply List.mem_cons_of_mem)) rfl rfl rfl (by repeat (first | exact Rep.here | apply Rep.there)) fun H4 o _ => ?_
    exact ⟨sb, rfl, o⟩
  · refine o.box fun sb H2 o _ => ?_
    refine hget h4 ?_
    refine hend (A := fun _ _ => True) (H' := H) ?_
    refine o.bstoreN (b := sb) (by repeat (first | exact List.mem_cons_self | apply List.mem_cons_of_mem)) rfl rfl rfl (by repeat (first | exact Rep.here | apply Rep.there)) fun H4 o _ => ?_
    exact ⟨sb, rfl, o⟩
  · refine o.box fun sb H2 o _ => ?_
    refine hget h2 ?_
    refine hget h4 ?_
    refine hend (A := fun _ _ => True) (H' := H) ?_
    refine o.bstoreN (b := sb) (by repeat (first | exact List.mem_cons_self | apply List.mem_cons_of_mem)) rfl rfl rfl (by repeat (first | exact Rep.here | apply Rep.there)) fun H4 o _ => ?_
    exact ⟨sb, rfl, o⟩
  · refine o.box fun sb H2 o _ => ?_
    refine hget h1 ?_
    refine hget h2 ?_
    refine hget h4 ?_
    refine hend (A := fun _ _ => True) (H' := H) ?_
    refine o.bstoreN (b := sb) (by repeat (first | exact List.mem_cons_self | apply List.mem_cons_of_mem)) rfl rfl rfl (by repeat (first | exact Rep.here | apply Rep.there)) fun H4 o _ => ?_
    exact ⟨sb, rfl, o⟩
end Go.Proofs.Ytdaolhlfngfmgaa
