/- Contracts of package stage. -/
import Derived.Test.YtdaolhlfngfmgaaDskLem
import Derived.Test.YtdaolhlfngfmgaaBuild
import Derived.Test.YtdaolhlfngfmgaaResStage
namespace Go.Proofs.Ytdaolhlfngfmgaa
-- only what is there
open Go Go.Vc Go.Proofs
set_option linter.unusedVariables false
set_option linter.unusedSimpArgs false
variable {H H0 : Heap} {R : Value → Heap → Prop} {v : Value} {L : List It} {b fb at_ n size : Nat} {M : Dk}
/-- a file's own box -/
abbrev fileIt (fb b at_ n size : Nat) : It := .box fb [ptr b, .int .i64 (at_ : Int), .int .i64 (n : Int), .int .i64 (size : Int)] 100
theorem fill_spec19 {q f : Nat} {t : List UInt8} (d : Dsk H0 H b M (fileIt fb b at_ n size :: L)) (hq : at_ + q < M.n) (ho : M.off = false) (hf : f + t.length ≤ 64)
    (h : ∀ H', Dsk H0 H' b (M.write ((at_ + q : Nat) : Int) (fillX (M.sec (at_ + q)) t f)).1 (fileIt fb b at_ n size :: L) → R (.int .i64 (M.write ((at_ + q : Nat) : Int) (fillX (M.sec (at_ + q)) t f)).2) H') :
    CallsH Try.prog 52 #[ptr fb, .int .i64 (q : Int), .int .i64 (f : Int), str t] H R := by
  have hn := d.nmax
  have hs64 := d.secs hq
  refine stage_File_fill.vc _ _ _ _ _ _ ?_
  unfold stage_File_fill.res
  refine ⟨fun w H' => w = str ((M.sec (at_ + q)).take f) ∧ H = H', ?_, ?_⟩
  · rintro _ _ _ ⟨rfl, rfl⟩
    have htl : ((M.sec (at_ + q)).take f).length = f := by rw [List.length_take]; omega
    refine pAdd_str (by omega) ?_
    have d0 := d
    obtain ⟨lv, r, ov, lf, o, ok⟩ := d
    rw [pNil_v, pFieldAddr_v, add_mk]
    refine o.bload (b := fb) (f := 0 + 0) (by repeat (first | exact List.mem_cons_self | apply List.mem_cons_of_mem)) rfl ?_
    rw [pNil_v, pFieldAddr_v, add_mk]
    refine o.bload (b := fb) (f := 0 + 1) (by repeat (first | exact List.mem_cons_self | apply List.mem_cons_of_mem)) rfl ?_
    rw [pAdd_v, w64 (n := (at_ : Int) + (q : Int)) (by omega) (by omega)]
    refine pLenS_to ?_
    rw [List.length_append, htl, pSub_v, show (64 : Int) - ((f + t.length : Nat) : Int) = ((64 - (f + t.length) : Nat) : Int) by omega, w64 (by omega) (by omega)]
    refine repeat_spec (s := [0]) (by omega) (by show 1 * _ ≤ _; omega) fun H1 hx => ?_
    have o := o.more hx
    refine ⟨o.bload (b := fb) (f := 0 + 0) (by repeat (first | exact List.mem_cons_self | apply List.mem_cons_of_mem)) rfl rfl, ?_⟩
    refine ⟨o.bload (b := fb) (f := 0 + 1) (by repeat (first | exact List.mem_cons_self | apply List.mem_cons_of_mem)) rfl rfl, ?_⟩
    rw [repeat_one]
    refine pAdd_str (by rw [List.length_append, htl, List.length_replicate]; omega) ?_
    rw [show (at_ : Int) + (q : Int) = ((at_ + q : Nat) : Int) by omega]
    exact write_spec (d0.more' hx) h
  · rw [pGt_v]
    refine pCond_if (fun hc => ?_) (fun hc => ?_)
    · have d0 := d
      obtain ⟨lv, r, ov, lf, o, ok⟩ := d
      rw [pNil_v, pFieldAddr_v, add_mk]
      refine o.bload (b := fb) (f := 0 + 0) (by repeat (first | exact List.mem_cons_self | apply List.mem_cons_of_mem)) rfl ?_
      rw [pNil_v, pFieldAddr_v, add_mk]
      refine o.bload (b := fb) (f := 0 + 1) (by repeat (first | exact List.mem_cons_self | apply List.mem_cons_of_mem)) rfl ?_
      rw [pAdd_v, w64 (n := (at_ : Int) + (q : Int)) (by omega) (by omega), show (at_ : Int) + (q : Int) = ((at_ + q : Nat) : Int) by omega]
      refine read_spec d0 ?_
      rw [read_ok' hq ho]
      refine pExtract_to rfl ?_
      refine pExtract_to rfl ?_
      rw [pNe_0, decide_eq_false (by simp), pCond_false]
      refine pSlStr_to (l := M.sec (at_ + q)) (lo := 0) (hi := f) (.inr ⟨rfl, rfl⟩) (.inl rfl) (by omega) (by omega) ?_
      rw [List.drop_zero, Nat.sub_zero]
      exact ⟨rfl, rfl⟩
    · have : f = 0 := by omega
      subst this
      exact ⟨rfl, rfl⟩
/-- what an Append does -/
structure Grown (M M' : Dk) (at_ n size : Nat) (s : List UInt8) (e : Int) : Prop where
  n_ : M'.n = M.n
  yes : e = 0 → M'.off = false ∧ (img M' at_ n).take (size + s.length) = (img M at_ n).take size ++ s
  no : e ≠ 0 → e = 14 ∧ M'.off = true
  safe : ∀ C, C.length ≤ size → Safe M at_ C → Safe M' at_ C
  calm : M.fuse = none → e = 0 ∧ M'.fuse = none
  low : e = 0 → ∀ j, j < at_ → M'.la j = M.la j ∧ M'.cs j = M.cs j
theorem room_nil (h : R (.int .i64 0) H) : CallsH Try.prog 42 #[.pointer none] H R := by
  refine stage_File_Room.vc _ _ _ ?_
  unfold stage_File_Room.res
  rw [pEq_3n, pCond_true]
  exact h
theorem room_spec (d : Dsk H0 H b M (fileIt fb b at_ n size :: L)) (hn : n ≤ 65536) (hs : size ≤ 64 * n) (h : R (.int .i64 ((64 * n - size : Nat) : Int)) H) : CallsH Try.prog 42 #[ptr fb] H R := by
  obtain ⟨lv, r, ov, lf, o, ok⟩ := d
  refine stage_File_Room.vc _ _ _ ?_
  unfold stage_File_Room.res
  rw [pEq_3s, pCond_false, pNil_v, pFieldAddr_v, add_mk]
  refine o.bload (b := fb) (f := 0 + 2) (by repeat (first | exact List.mem_cons_self | apply List.mem_cons_of_mem)) rfl ?_
  rw [pMul_v, w64 (n := (n : Int) * 64) (by omega) (by omega), pNil_v, pFieldAddr_v, add_mk]
  refine o.bload (b := fb) (f := 0 + 3) (by repeat (first | exact List.mem_cons_self | apply List.mem_cons_of_mem)) rfl ?_
  rw [pSub_v, show (n : Int) * 64 - (size : Int) = ((64 * n - size : Nat) : Int) by omega, w64 (by omega) (by omega)]
  exact h
theorem append_nil {s : List UInt8} (h : R (.int .i64 1) H) : CallsH Try.prog 28 #[.pointer none, str s] H R := by
  refine stage_File_Append.vc _ _ _ _ ?_
  unfold stage_File_Append.res
  rw [pEq_3n, pCond_true]
  exact h
theorem append_full {s : List UInt8} (d : Dsk H0 H b M (fileIt fb b at_ n size :: L)) (hn : n ≤ 65536) (hs : size ≤ 64 * n) (hl : 64 * n - size < s.length) (h : R (.int .i64 15) H) : CallsH Try.prog 28 #[ptr fb, str s] H R := by
  refine stage_File_Append.vc _ _ _ _ ?_
  unfold stage_File_Append.res
  rw [pEq_3s, pCond_false]
  refine pLenS_to ?_
  refine room_spec d hn hs ?_
  rw [pGt_v, decide_eq_true (by omega), pCond_true]
  exact h
theorem append_spec {s : List UInt8} (d : Dsk H0 H b M (fileIt fb b at_ n size :: L)) (hn : at_ + n ≤ M.n) (hs : size ≤ 64 * n) (hl : s.length ≤ 64 * n - size) (ho : M.off = false)
    (h : ∀ H' M' e, Grown M M' at_ n size s e → Dsk H0 H' b M' (fileIt fb b at_ n (if e = 0 then size + s.length else size) :: L) → R (.int .i64 e) H') : CallsH Try.prog 28 #[ptr fb, str s] H R := by
  have hmax := d.nmax
  refine stage_File_Append.vc _ _ _ _ ?_
  unfold stage_File_Append.res
  rw [pEq_3s, pCond_false]
  refine pLenS_to ?_
  refine room_spec d (by omega) hs ?_
  rw [pGt_v, decide_eq_false (by omega), pCond_false, pNil_v, pFieldAddr_v, add_mk]
  have d0 := d
  obtain ⟨lv, r, ov, lf, o, ok⟩ := d
  refine o.bload (b := fb) (f := 0 + 3) (by repeat (first | exact List.mem_cons_self | apply List.mem_cons_of_mem)) rfl ?_
  refine ⟨fun s1 z H' => ∃ (t u : List UInt8) (Mk : Dk), s = t ++ u ∧ s1 = str u ∧ z = .int .i64 ((size + t.length : Nat) : Int) ∧ Grown M Mk at_ n size t 0 ∧ Dsk H0 H' b Mk (fileIt fb b at_ n size :: L), fun s1 _ _ => match s1 with | .string x => x.size | _ => 0, ⟨[], s, M, rfl, rfl, rfl, ⟨rfl, fun _ => ⟨ho, by simp⟩, fun h => absurd rfl h, fun C _ h => h, fun h => ⟨rfl, h⟩, fun _ j _ => ⟨rfl, rfl⟩⟩, d0⟩, ?_⟩
  clear o ok d0
  rintro _ _ _ H1 ⟨t, u, Mk, hsu, rfl, rfl, g, d⟩
  have hlen : t.length + u.length = s.length := by rw [hsu, List.length_append]
  have hmk := g.n_
  have hgo := (g.yes rfl).1
  refine pNe1_to ?_
  refine pCond_if (fun hne => ?_) (fun he => ?_)
  · have hu1 : 1 ≤ u.length := by
      cases u with
      | nil => exact absurd rfl hne
      | cons a u => simp
    obtain ⟨z, hz⟩ : ∃ z, z = size + t.length := ⟨_, rfl⟩
    rw [← hz]
    obtain ⟨k, hk⟩ : ∃ k, k = min u.length (64 - z % 64) := ⟨_, rfl⟩
    rw [pRem_v]
    refine ⟨by decide, ?_⟩
    rw [show ((z : Nat) : Int).tmod 64 = ((z % 64 : Nat) : Int) from rfl]
    refine pLenS_to ?_
    rw [pSub_v, w64 (n := 64 - ((z % 64 : Nat) : Int)) (by omega) (by omega), pMin_v, show min ((u.length : Nat) : Int) (64 - ((z % 64 : Nat) : Int)) = (k : Int) by omega, pQuo_v]
    refine ⟨by decide, ?_⟩
    rw [show ((z : Nat) : Int).tdiv 64 = ((z / 64 : Nat) : Int) from rfl, w64 (n := ((z / 64 : Nat) : Int)) (by omega) (by omega)]
    refine pSlStr_to (lo := 0) (hi := k) (.inr ⟨rfl, rfl⟩) (.inl rfl) (by omega) (by omega) ?_
    rw [List.drop_zero, Nat.sub_zero]
    have hkl : (u.take k).length = k := by rw [List.length_take]; omega
    have hq : z / 64 < n := by omega
    have hsl : ∀ j, j < n → (Mk.sec (at_ + j)).length = 64 := fun j hj => d.secs (by omega)
    refine fill_spec19 d (by omega) hgo (by omega) fun H2 d2 => ?_
    have hX : (fillX (Mk.sec (at_ + z / 64)) (u.take k) (z % 64)).length = 64 := fillX_len (hsl _ hq) (by omega)
    rw [write_on hX (by omega) hgo] at d2 ⊢
    rw [pNe_0]
    by_cases hf : Mk.fuse = some 0
    · rw [if_pos hf] at d2 ⊢
      rw [decide_eq_true (show (14 : Int) ≠ 0 by decide), pCond_true]
      refine h H2 (Mk.crash []) 14 ⟨?_, fun h => absurd h (by decide), fun _ => ⟨rfl, ?_⟩, fun C hC hsafe => ?_, fun hfn => ?_, fun h => absurd h (by decide)⟩ (by rw [if_neg (by decide)]; exact d2)
      · unfold Dk.crash
        rw [if_neg (by rw [hgo]; decide)]
        exact hmk
      · unfold Dk.crash
        rw [if_neg (by rw [hgo]; decide)]
      · obtain ⟨lv, r, ov, lf, o, ok⟩ := d
        exact safe_crash ok (g.safe C hC hsafe) (fun k hk => by omega) []
      · rw [(g.calm hfn).2] at hf; cases hf
    · rw [if_neg hf] at d2 ⊢
      rw [decide_eq_false (by simp), pCond_false]
      refine pSlStr_to (lo := k) (hi := u.length) (.inl rfl) (.inr ⟨rfl, rfl⟩) (by omega) (by omega) ?_
      rw [List.take_of_length_le (l := u.drop k) (by rw [List.length_drop]; omega), pAdd_v, w64 (n := (z : Int) + (k : Int)) (by omega) (by omega)]
      refine ⟨⟨t ++ u.take k, u.drop k, Mk.put (at_ + z / 64) (fillX (Mk.sec (at_ + z / 64)) (u.take k) (z % 64)), ?_, rfl, ?_, ⟨hmk, fun _ => ⟨hgo, ?_⟩, fun h => absurd rfl h, fun C hC hsafe => ?_, fun hfn => ⟨rfl, ?_⟩, fun _ j hj => ⟨(g.low rfl j hj).1, ?_⟩⟩, d2⟩, ?_⟩
      · rw [List.append_assoc, List.take_append_drop]; exact hsu
      · congr 1
        rw [List.length_append, hkl]
        omega
      · have e := img_fill (M := Mk) (at_ := at_) (n := n) (size := z) (t := u.take k) hsl hq (by omega)
        rw [hkl] at e
        rw [List.length_append, hkl, show size + (t.length + k) = z + k by omega, e, hz, (g.yes rfl).2, List.append_assoc]
      · refine safe_put (g.safe C hC hsafe) fun j hj he => ?_
        rw [fillX_low (hsl _ hq) (by omega) (by omega), ← he]
        exact safe_sec (g.safe C hC hsafe) hj
      · show Mk.fuse.map _ = none
        rw [(g.calm hfn).2]; rfl
      · show updS Mk.cs (at_ + z / 64) _ j = M.cs j
        unfold updS
        rw [if_neg (by omega)]
        exact (g.low rfl j hj).2
      · show (u.drop k).toArray.size < u.toArray.size
        rw [List.size_toArray, List.size_toArray, List.length_drop]
        omega
  · have hu : u = [] := by simpa using he
    subst hu
    rw [List.append_nil] at hsu
    subst hsu
    obtain ⟨lv, r, ov, lf, o, ok⟩ := d
    rw [pNil_v, pFieldAddr_v, add_mk]
    refine o.bstore (b := fb) (f := 0 + 3) (by repeat (first | exact List.mem_cons_self | apply List.mem_cons_of_mem)) (by simp) rfl (by repeat (first | exact Rep.here | apply Rep.there)) fun H2 o _ => ?_
    refine h H2 Mk 0 g ⟨lv, r, ov, lf, ?_, ok⟩
    rw [if_pos rfl]
    exact o
theorem cut_nil (h : R (.int .i64 1) H) {k : Int} : CallsH Try.prog 40 #[.pointer none, .int .i64 k] H R := by
  refine stage_File_Cut.vc _ _ _ _ ?_
  unfold stage_File_Cut.res
  rw [pEq_3n, pCond_true]
  exact h
theorem cut_spec {k : Int} (d : Dsk H0 H b M (fileIt fb b at_ n size :: L)) (hno : ¬ (0 ≤ k ∧ k ≤ (size : Int)) → R (.int .i64 20) H) (hyes : 0 ≤ k → k ≤ (size : Int) → ∀ H', Dsk H0 H' b M (fileIt fb b at_ n k.toNat :: L) → R (.int .i64 0) H') : CallsH Try.prog 40 #[ptr fb, .int .i64 k] H R := by
  obtain ⟨lv, r, ov, lf, o, ok⟩ := d
  refine stage_File_Cut.vc _ _ _ _ ?_
  unfold stage_File_Cut.res
  rw [pEq_3s, pCond_false, pLt_v]
  refine pOr_if (d := decide ((size : Int) < k)) (fun _ => ?_) ?_
  · rw [pNil_v, pFieldAddr_v, add_mk]
    refine o.bload (b := fb) (f := 0 + 3) (by repeat (first | exact List.mem_cons_self | apply List.mem_cons_of_mem)) rfl ?_
    rw [pGt_v]
    exact ⟨rfl, rfl⟩
  intro _
  refine pCond_b (fun hb => ?_) (fun hb => ?_)
  · rw [Bool.or_eq_true, decide_eq_true_eq, decide_eq_true_eq] at hb
    exact hno (by omega)
  · rw [Bool.or_eq_false_iff, decide_eq_false_iff_not, decide_eq_false_iff_not] at hb
    obtain ⟨q, rfl⟩ : ∃ q : Nat, k = q := ⟨k.toNat, by omega⟩
    rw [pNil_v, pFieldAddr_v, add_mk]
    refine o.bstore (b := fb) (f := 0 + 3) (by repeat (first | exact List.mem_cons_self | apply List.mem_cons_of_mem)) (by simp) rfl (by repeat (first | exact Rep.here | apply Rep.there)) fun H2 o _ => ?_
    exact hyes (by omega) (by omega) H2 ⟨lv, r, ov, lf, o, ok⟩
theorem syncF_nil (h : R (.int .i64 1) H) : CallsH Try.prog 30 #[.pointer none] H R := by
  refine stage_File_Sync.vc _ _ _ ?_
  unfold stage_File_Sync.res
  rw [pEq_3n, pCond_true]
  exact h
theorem syncF_spec (d : Dsk H0 H b M (fileIt fb b at_ n size :: L)) (h : ∀ H', Dsk H0 H' b M.sync.1 (fileIt fb b at_ n size :: L) → R (.int .i64 M.sync.2) H') : CallsH Try.prog 30 #[ptr fb] H R := by
  have d0 := d
  obtain ⟨lv, r, ov, lf, o, ok⟩ := d
  refine stage_File_Sync.vc _ _ _ ?_
  unfold stage_File_Sync.res
  rw [pEq_3s, pCond_false, pNil_v, pFieldAddr_v, add_mk]
  refine o.bload (b := fb) (f := 0 + 0) (by repeat (first | exact List.mem_cons_self | apply List.mem_cons_of_mem)) rfl ?_
  exact sync_spec d0 h
end Go.Proofs.Ytdaolhlfngfmgaa
