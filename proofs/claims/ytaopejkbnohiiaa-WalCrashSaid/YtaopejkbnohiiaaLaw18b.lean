/- The laws WalTears and WalCrash over heaps. -/
import Derived.Test.YtaopejkbnohiiaaLaw18
import Derived.Test.YtaopejkbnohiiaaInts
namespace Go.Proofs.Ytaopejkbnohiiaa
open Go Go.Vc Go.Proofs
set_option linter.unusedVariables false
set_option linter.unusedSimpArgs false
variable {H H0 : Heap} {R : Value → Heap → Prop} {v : Value} {L L' : List It} {b lb at_ k N : Nat} {M : Dk} {want : List UInt8} {bad : Bool}
theorem walF_congr {f g : Nat → Option (Nat × List UInt8)} (h : WalF f k N want) (hk : 1 ≤ k) (e : ∀ j, j < k → g j = f j) : WalF g k N want :=
  ⟨fun j hj q hq => h.pos j hj q (by rw [← e j hj]; exact hq), fun j hj q hq => h.lt j hj q (by rw [← e j hj]; exact hq), fun h1 => by rw [e _ (Nat.mod_lt _ (by omega))]; exact h.top h1, h.zero⟩
/-- a torn sector: what counts -/
theorem walF_torn {f g : Nat → Option (Nat × List UInt8)} {next : List UInt8} (hk : 2 ≤ k) (h : WalF f k N want) (e : ∀ j, j < k → j ≠ (N + 1) % k → g j = f j) (ht : g ((N + 1) % k) = f ((N + 1) % k) ∨ g ((N + 1) % k) = some (N + 1, next) ∨ g ((N + 1) % k) = none) :
    WalF g k N want ∨ WalF g k (N + 1) next := by
  rcases ht with ht | ht | ht
  · left
    refine walF_congr h (by omega) fun j hj => ?_
    by_cases hj2 : j = (N + 1) % k
    · rw [hj2]; exact ht
    · exact e j hj hj2
  · right
    refine walF_congr (h.put (s := next)) (by omega) fun j hj => ?_
    show g j = if j = (N + 1) % k then some (N + 1, next) else f j
    by_cases hj2 : j = (N + 1) % k
    · rw [if_pos hj2, hj2]; exact ht
    · rw [if_neg hj2]; exact e j hj hj2
  · left
    refine walF_congr (h.lost hk) (by omega) fun j hj => ?_
    show g j = if j = (N + 1) % k then none else f j
    by_cases hj2 : j = (N + 1) % k
    · rw [if_pos hj2, hj2]; exact ht
    · rw [if_neg hj2]; exact e j hj hj2
/-- the end of both laws: what is told -/
theorem told {K : Value → Heap → Prop} {n : Nat} {t want next : List UInt8} (hN : N ≤ 1000000) (hc : (t = want ∧ n = N) ∨ (t = next ∧ n = N + 1)) (hK : K (.bool true) H) :
    pEq 0 (.int .i64 0) (.int .i64 0) fun x100 =>
    pAnd x100 (fun J_18 =>
    pEq 1 (str t) (str want) fun x104 =>
    pAnd x104 (fun J_20 =>
    pEq 0 (.int .u64 (n : Int)) (.int .u64 (N : Int)) fun x108 =>
    J_20 x108 H) H fun x109 H_21 => ∀ _ : Env,
    pOr x109 (fun J_22 =>
    pEq 1 (str t) (str next) fun x113 =>
    pAnd x113 (fun J_24 =>
    pAdd (.int .u64 (N : Int)) (.int .u64 1) fun x117 =>
    pEq 0 (.int .u64 (n : Int)) x117 fun x118 =>
    J_24 x118 H_21) H_21 fun x119 H_25 => ∀ _ : Env,
    J_22 x119 H_25) H_21 fun x120 H_23 => ∀ _ : Env,
    J_18 x120 H_23) H fun x121 H_19 => ∀ _ : Env,
    K x121 H_19 := by
  rw [pEq_0, decide_eq_true (show (0 : Int) = 0 from rfl)]
  refine pAnd_true ?_
  refine pEq1_to ?_
  refine pAnd_if (d := decide (n = N)) (fun _ => ?_) ?_
  · rw [pEq_0]
    refine ⟨?_, rfl⟩
    congr 1
    rw [Bool.eq_iff_iff, decide_eq_true_eq, decide_eq_true_eq]
    omega
  intro _
  refine pOr_if (d := decide (t = next) && decide (n = N + 1)) (fun _ => ?_) ?_
  · refine pEq1_to ?_
    refine pAnd_if (d := decide (n = N + 1)) (fun _ => ?_) ?_
    · rw [pAdd_v, wu64 (n := (N : Int) + 1) (by omega) (by omega), pEq_0]
      refine ⟨?_, rfl⟩
      congr 1
      rw [Bool.eq_iff_iff, decide_eq_true_eq, decide_eq_true_eq]
      omega
    intro _
    exact ⟨rfl, rfl⟩
  intro _
  intro _
  have e : (decide (t = want) && decide (n = N) || decide (t = next) && decide (n = N + 1)) = true := by
    simp only [Bool.or_eq_true, Bool.and_eq_true, decide_eq_true_eq]
    exact hc
  rw [e]
  exact hK
set_option maxHeartbeats 1000000 in
theorem WalTears_law (a0 : Option Addr) (len0 cap0 : Nat) (a1 : Option Addr) (len1 cap1 : Nat) (zs : List Int) (w0 : StructRow [.string] H a0 len0 cap0) (w1 : IntRow .i64 H a1 len1 cap1 zs) :
    CallsH Try.prog 4 #[.slice a0 len0 cap0, .slice a1 len1 cap1] H (LawOk H) := by
  obtain ⟨T, hTl, hTm, hTs, hT⟩ := str_rows w0
  obtain ⟨fs, hfl, hfm, _, hfs⟩ := int_rows w1
  have hmax : maxLen = 9223372036854775807 := rfl
  have hvl : (txtsV T).length = T.length * 1 := by rw [txtsV_len, Nat.mul_one]
  refine lighterlaw18_WalTears.vc _ _ _ _ ?_
  unfold lighterlaw18_WalTears.res
  refine speaks18_spec fun H1 hx1 => ?_
  rw [pNot_v, Bool.not_true, pCond_false]
  have hT := hT.ext hx1
  have hfs := hfs.ext hx1
  refine new_spec (n := 3) (Owns.start (H := H1)) (by decide) (by decide) fun H2 b d => ?_
  refine pExtract_to rfl ?_
  refine pExtract_to rfl ?_
  refine wl_new (at_ := 0) (k := 3) d (by decide) (by decide) fun H3 lb w => ?_
  refine pExtract_to rfl ?_
  refine pExtract_to rfl ?_
  refine ⟨fun wv nv i H' => ∃ (q : Nat) (M : Dk) (want : List UInt8), i = .int .i64 q ∧ q ≤ 12 ∧ wv = str want ∧ nv = .int .u64 (q : Int) ∧ M.fuse = none ∧ M.n = 3 ∧ WL H1 H' b lb 0 3 q M want [], fun _ _ i _ => match i with | .int _ x => 100 - x.toNat | _ => 0, ⟨0, Dk.new 3, [], rfl, by omega, rfl, rfl, rfl, rfl, w⟩, ?_⟩
  clear w d
  rintro _ _ _ _ H4 ⟨q, M, want, rfl, hq, rfl, rfl, hf, hn, w⟩
  have hTx := hT.ext w.d.ext
  have hcut : ∀ {K : Value → Prop} (i : Nat) (h : i < T.length), K (str (T[i].take (min T[i].length 23))) → pIdxSl 1 (.slice a0 len0 cap0) (.int .i64 (i : Int)) fun x => pLoad H4 x fun y => pIdxSl 1 (.slice a0 len0 cap0) (.int .i64 (i : Int)) fun x => pLoad H4 x fun z => pLenS z fun l => pMin l (.int .i64 23) fun m => pSlStr y none (some m) K := fun {K} i h hK => by
    refine hTx.at_ hvl (by decide) (by omega) (by omega) fun p hp => ?_
    refine hp.load hTx (w := str T[i]) (by rw [Int.toNat_natCast, Nat.mul_one, txtsV_get h]) ?_
    refine hTx.at_ hvl (by decide) (by omega) (by omega) fun p hp => ?_
    refine hp.load hTx (w := str T[i]) (by rw [Int.toNat_natCast, Nat.mul_one, txtsV_get h]) ?_
    refine pLenS_to ?_
    rw [pMin_v, show min ((T[i].length : Nat) : Int) 23 = ((min T[i].length 23 : Nat) : Int) by omega]
    refine pSlStr_to (lo := 0) (hi := min T[i].length 23) (.inr ⟨rfl, rfl⟩) (.inl rfl) (by omega) (by omega) ?_
    rw [List.drop_zero, Nat.sub_zero]
    exact hK
  rw [pAdd_v, w64 (n := (q : Int) + 1) (by omega) (by omega)]
  refine hTx.len hvl (by decide) ?_
  rw [pLt_v]
  refine pAnd_if (d := decide ((q : Int) < 12)) (fun _ => by rw [pLt_v]; exact ⟨rfl, rfl⟩) ?_
  intro _
  refine pCond_b (fun hc => ?_) (fun hc => ?_)
  · rw [Bool.and_eq_true, decide_eq_true_eq, decide_eq_true_eq] at hc
    refine hcut q (by omega) ?_
    have hsl : (T[q].take (min T[q].length 23)).length ≤ 23 := by rw [List.length_take]; omega
    generalize T[q].take (min T[q].length 23) = s at *
    rw [pAdd_v, show (q : Int) + 1 = ((q + 1 : Nat) : Int) by omega, wu64 (by omega) (by omega)]
    refine w.put (by omega) hsl hf fun H5 w => ?_
    rw [pNe_0, decide_eq_false (by simp), pCond_false, pAdd_v, w64 (n := (q : Int) + 1) (by omega) (by omega)]
    exact ⟨⟨q + 1, (M.put (0 + (q + 1) % 3) (slotB (q + 1) s)).flush, s, by congr 1, by omega, rfl, rfl, by show M.fuse.map _ = none; rw [hf]; rfl, hn, w⟩, by show 100 - ((q : Int) + 1).toNat < 100 - (q : Int).toNat; omega⟩
  clear hc
  refine ⟨fun nv H' => ∃ next : List UInt8, nv = str next ∧ next.length ≤ 23 ∧ H4 = H', ?_, ?_⟩
  rotate_left
  · refine hTx.len hvl (by decide) ?_
    rw [pGt_v]
    refine pCond_if (fun hc => ?_) (fun _ => ⟨[], rfl, by simp, rfl⟩)
    refine hTx.len hvl (by decide) ?_
    rw [pSub_v, show (T.length : Int) - 1 = ((T.length - 1 : Nat) : Int) by omega, w64 (by omega) (by omega)]
    have hlast : T.length - 1 < T.length := by omega
    refine hTx.at_ hvl (by decide) (by omega) (by omega) fun p hp => ?_
    refine hp.load hTx (w := str T[T.length - 1]) (by rw [Int.toNat_natCast, Nat.mul_one, txtsV_get hlast]) ?_
    refine hTx.len hvl (by decide) ?_
    rw [pSub_v, show (T.length : Int) - 1 = ((T.length - 1 : Nat) : Int) by omega, w64 (by omega) (by omega)]
    refine hTx.at_ hvl (by decide) (by omega) (by omega) fun p hp => ?_
    refine hp.load hTx (w := str T[T.length - 1]) (by rw [Int.toNat_natCast, Nat.mul_one, txtsV_get hlast]) ?_
    refine pLenS_to ?_
    rw [pMin_v, show min ((T[T.length - 1].length : Nat) : Int) 23 = ((min T[T.length - 1].length 23 : Nat) : Int) by omega]
    refine pSlStr_to (lo := 0) (hi := min T[T.length - 1].length 23) (.inr ⟨rfl, rfl⟩) (.inl rfl) (by omega) (by omega) ?_
    rw [List.drop_zero, Nat.sub_zero]
    exact ⟨_, rfl, by rw [List.length_take]; omega, rfl⟩
  rintro _ _ _ ⟨next, rfl, hnl, rfl⟩
  have hmod := Nat.mod_lt (q + 1) (show 0 < 3 by decide)
  rw [pAdd_v, show (q : Int) + 1 = ((q + 1 : Nat) : Int) by omega, wu64 (by omega) (by omega), pRem_v]
  refine ⟨by decide, ?_⟩
  rw [show (((q + 1 : Nat)) : Int).tmod 3 = (((q + 1) % 3 : Nat) : Int) from rfl, pConv_v, w64 (n := (((q + 1) % 3 : Nat) : Int)) (by omega) (by omega), pAdd_v, show (q : Int) + 1 = ((q + 1 : Nat) : Int) by omega, wu64 (by omega) (by omega)]
  refine slot_spec (by omega) (by omega) hnl fun H5 hx => ?_
  have w := w.more hx
  refine write_spec w.d fun H6 d => ?_
  rw [write_on (slotB_len hnl) (by omega) w.ho, if_neg (by rw [hf]; simp)] at d
  refine crash_spec d (.inl hfs) (by omega) fun H7 d => ?_
  refine start_spec d fun H8 d => ?_
  obtain ⟨M3, hM3⟩ : ∃ M3 : Dk, M3 = { (M.put ((q + 1) % 3) (slotB (q + 1) next)).crash fs with off := false } := ⟨_, rfl⟩
  change Dsk H1 H8 b { (M.put ((q + 1) % 3) (slotB (q + 1) next)).crash fs with off := false } _ at d
  rw [← hM3] at d
  have hop : (M.put ((q + 1) % 3) (slotB (q + 1) next)).off = false := w.ho
  have hcr := crash_off hop fs
  have hcs3 : M3.cs = fun _ => none := by rw [hM3]; exact hcr.2.1
  have hn3 : M3.n = 3 := by rw [hM3]; show ((M.put ((q + 1) % 3) (slotB (q + 1) next)).crash fs).n = 3; rw [hcr.2.2]; exact hn
  have ho3 : M3.off = false := by rw [hM3]
  have hla3 : ∃ f, ∀ j, M3.la j = if j = (q + 1) % 3 then tornF (M.la j) (slotB (q + 1) next) f else M.la j := by
    refine ⟨fateN fs ((M.put ((q + 1) % 3) (slotB (q + 1) next)).order.idxOf ((q + 1) % 3)), fun j => ?_⟩
    rw [hM3]
    show ((M.put ((q + 1) % 3) (slotB (q + 1) next)).crash fs).la j = _
    unfold Dk.crash
    rw [if_neg (by rw [hop]; decide)]
    show (match updS M.cs ((q + 1) % 3) (slotB (q + 1) next) j with | some s => tornF (M.la j) s (fateN fs ((M.put ((q + 1) % 3) (slotB (q + 1) next)).order.idxOf j)) | none => M.la j) = _
    unfold updS
    rw [w.cs]
    by_cases hj : j = (q + 1) % 3
    · subst hj; rw [if_pos rfl, if_pos rfl]
    · rw [if_neg hj, if_neg hj]
  obtain ⟨f, hla3⟩ := hla3
  have hgn : Good (slotB (q + 1) next) := .inr ⟨q + 1, next, by omega, by omega, hnl, rfl⟩
  have hg0 : Good (M.la ((q + 1) % 3)) := by
    have := w.good ((q + 1) % 3) hmod
    rwa [Nat.zero_add] at this
  have hwf : WalF (noteAt M3 0) 3 q want ∨ WalF (noteAt M3 0) 3 (q + 1) next := by
    refine walF_torn (by decide) w.wf (fun j hj hj2 => ?_) ?_
    · rw [noteAt_la hcs3, noteAt_la w.cs]
      show parse (M3.la (0 + j)) = parse (M.la (0 + j))
      rw [Nat.zero_add, hla3, if_neg hj2]
    · rw [noteAt_la hcs3, noteAt_la w.cs]
      show parse (M3.la (0 + (q + 1) % 3)) = parse (M.la (0 + (q + 1) % 3)) ∨ parse (M3.la (0 + (q + 1) % 3)) = _ ∨ parse (M3.la (0 + (q + 1) % 3)) = _
      rw [Nat.zero_add, hla3, if_pos rfl]
      have := parse_torn hg0 hgn f
      rwa [parse_slot (by omega) (by omega) hnl] at this
  have hopen : ∀ {R : Value → Heap → Prop}, (∀ H' lb t n, ((t = want ∧ n = q) ∨ (t = next ∧ n = q + 1)) → Dsk H1 H' b M3 (logIt lb b 0 3 t n false :: _) → R (.tuple #[ptr lb, .int .i64 0]) H') → CallsH Try.prog 9 #[ptr b, .int .i64 0, .int .i64 3] H8 R := fun {R} hR => by
    refine open_spec18 (by decide) d ho3 (by decide) (fun hg => absurd (by omega) hg) fun _ _ _ H9 lb d => ?_
    rcases hwf with g | g
    · rw [show (0 : Int).toNat = 0 from rfl, show (3 : Int).toNat = 3 from rfl, open_walF (by decide) g] at d
      exact hR H9 lb want q (.inl ⟨rfl, rfl⟩) d
    · rw [show (0 : Int).toNat = 0 from rfl, show (3 : Int).toNat = 3 from rfl, open_walF (by decide) g] at d
      exact hR H9 lb next (q + 1) (.inr ⟨rfl, rfl⟩) d
  refine hopen fun H9 lb2 t n htn d => ?_
  refine pExtract_to rfl ?_
  refine pExtract_to rfl ?_
  refine note_spec d ?_
  refine pExtract_to rfl ?_
  refine pExtract_to rfl ?_
  exact told (by omega) htn ⟨rfl, hx1.trans d.ext⟩
set_option maxHeartbeats 1000000 in
theorem WalCrash_law (a0 : Option Addr) (len0 cap0 : Nat) (fuse : Int) (a1 : Option Addr) (len1 cap1 : Nat) (zs : List Int) (w0 : StructRow [.string] H a0 len0 cap0) (w1 : (Lit.int .i64 fuse).wf = true) (w2 : IntRow .i64 H a1 len1 cap1 zs) :
    CallsH Try.prog 5 #[.slice a0 len0 cap0, .int .i64 fuse, .slice a1 len1 cap1] H (LawOk H) := by
  obtain ⟨T, hTl, hTm, hTs, hT⟩ := str_rows w0
  obtain ⟨fs, hfl, hfm, _, hfs⟩ := int_rows w2
  have hmax : maxLen = 9223372036854775807 := rfl
  have hvl : (txtsV T).length = T.length * 1 := by rw [txtsV_len, Nat.mul_one]
  refine lighterlaw18_WalCrash.vc _ _ _ _ _ ?_
  unfold lighterlaw18_WalCrash.res
  refine speaks18_spec fun H1 hx1 => ?_
  rw [pNot_v, Bool.not_true, pCond_false]
  have hT := hT.ext hx1
  have hfs := hfs.ext hx1
  refine new_spec (n := 6) (Owns.start (H := H1)) (by decide) (by decide) fun H2 b d => ?_
  refine pExtract_to rfl ?_
  refine pExtract_to rfl ?_
  refine wl_new (at_ := 0) (k := 3) d (by decide) (by decide) fun H3 lb w => ?_
  refine pExtract_to rfl ?_
  refine pExtract_to rfl ?_
  rw [pBits_v, and_low (k := 5) (m := 31) (n := fuse) (by decide) rfl]
  refine fuse_spec (by omega) w.d fun H4 d => ?_
  have w : WL H1 H4 b lb 0 3 0 _ [] [] := ⟨d, w.hr, w.hk, w.ho, w.cs, w.wf, w.good⟩
  refine ⟨fun wv xv nv H' => ∃ (N : Nat) (M : Dk) (want next : List UInt8) (L : List It), N ≤ 20 ∧ wv = str want ∧ xv = str next ∧ nv = .int .u64 (N : Int) ∧ M.n = 6 ∧ M.cs = (fun _ => none) ∧ WalF (fun j => parse (M.la (0 + j))) 3 N want ∧ Dsk H1 H' b M L, ?_, ?_⟩
  · clear w d
    rintro _ _ _ _ H5 ⟨N, M, want, next, L, hN, rfl, rfl, rfl, hn, hcs, wf, d⟩
    refine crash_spec d (.inl hfs) (by omega) fun H6 d => ?_
    refine start_spec d fun H7 d => ?_
    have hM : (M.crash fs).la = M.la ∧ (M.crash fs).cs = (fun _ => none) ∧ (M.crash fs).n = 6 := by
      unfold Dk.crash
      split
      · exact ⟨rfl, hcs, hn⟩
      · refine ⟨?_, rfl, hn⟩
        funext j
        show (match M.cs j with | some s => tornF (M.la j) s (fateN fs (M.order.idxOf j)) | none => M.la j) = M.la j
        rw [hcs]
    obtain ⟨M3, hM3⟩ : ∃ M3 : Dk, M3 = { M.crash fs with off := false } := ⟨_, rfl⟩
    change Dsk H1 H7 b { M.crash fs with off := false } _ at d
    rw [← hM3] at d
    have hcs3 : M3.cs = fun _ => none := by rw [hM3]; exact hM.2.1
    have wf3 : WalF (noteAt M3 0) 3 N want := by
      rw [noteAt_la hcs3, hM3]
      show WalF (fun j => parse ((M.crash fs).la (0 + j))) 3 N want
      rw [hM.1]
      exact wf
    have hn3 : M3.n = 6 := by rw [hM3]; exact hM.2.2
    refine open_spec18 (by decide) d (by rw [hM3]) (by decide) (fun hg => absurd (by omega) hg) fun _ _ _ H8 lb2 d => ?_
    rw [show (0 : Int).toNat = 0 from rfl, show (3 : Int).toNat = 3 from rfl, open_walF (by decide) wf3] at d
    refine pExtract_to rfl ?_
    refine pExtract_to rfl ?_
    refine note_spec d ?_
    refine pExtract_to rfl ?_
    refine pExtract_to rfl ?_
    exact told (by omega) (.inl ⟨rfl, rfl⟩) ⟨rfl, hx1.trans d.ext⟩
  refine ⟨fun wv xv nv i H' => ∃ (q : Nat) (M : Dk) (want next : List UInt8), i = .int .i64 q ∧ q ≤ 20 ∧ wv = str want ∧ xv = str next ∧ nv = .int .u64 (q : Int) ∧ M.n = 6 ∧ WL H1 H' b lb 0 3 q M want [], fun _ _ _ i _ => match i with | .int _ x => 100 - x.toNat | _ => 0, ⟨0, _, [], [], rfl, by omega, rfl, rfl, rfl, rfl, w⟩, ?_⟩
  clear w d
  rintro _ _ _ _ _ H5 ⟨q, M, want, next, rfl, hq, rfl, rfl, rfl, hn, w⟩
  have hTx := hT.ext w.d.ext
  have hwla : WalF (fun j => parse (M.la (0 + j))) 3 q want := by have := w.wf; rwa [noteAt_la w.cs] at this
  refine hTx.len hvl (by decide) ?_
  rw [pLt_v]
  refine pAnd_if (d := decide ((q : Int) < 20)) (fun _ => by rw [pLt_v]; exact ⟨rfl, rfl⟩) ?_
  intro _
  refine pCond_b (fun hc => ?_) (fun _ => ⟨q, M, want, next, _, hq, rfl, rfl, rfl, hn, w.cs, hwla, w.d⟩)
  rw [Bool.and_eq_true, decide_eq_true_eq, decide_eq_true_eq] at hc
  have hqT : q < T.length := by omega
  refine hTx.at_ hvl (by decide) (by omega) (by omega) fun p hp => ?_
  refine hp.load hTx (w := str T[q]) (by rw [Int.toNat_natCast, Nat.mul_one, txtsV_get hqT]) ?_
  refine hTx.at_ hvl (by decide) (by omega) (by omega) fun p hp => ?_
  refine hp.load hTx (w := str T[q]) (by rw [Int.toNat_natCast, Nat.mul_one, txtsV_get hqT]) ?_
  refine pLenS_to ?_
  rw [pMin_v, show min ((T[q].length : Nat) : Int) 23 = ((min T[q].length 23 : Nat) : Int) by omega]
  refine pSlStr_to (lo := 0) (hi := min T[q].length 23) (.inr ⟨rfl, rfl⟩) (.inl rfl) (by omega) (by omega) ?_
  rw [List.drop_zero, Nat.sub_zero]
  have hsl : (T[q].take (min T[q].length 23)).length ≤ 23 := by rw [List.length_take]; omega
  generalize T[q].take (min T[q].length 23) = s at *
  refine put_spec18 w.d w.ho (by decide) w.hr (by omega) (fun g => by omega) (fun _ g => by cases g) (fun _ _ hf H6 d => ?_) (fun _ _ hf H6 M' g1 g2 g3 g4 d => ?_)
  · rw [pNe_0, decide_eq_false (by simp), pCond_false, pAdd_v, show (q : Int) + 1 = ((q + 1 : Nat) : Int) by omega, wu64 (by omega) (by omega), pAdd_v, show (q : Int) + 1 = ((q + 1 : Nat) : Int) by omega, w64 (by omega) (by omega)]
    exact ⟨⟨q + 1, (M.put (0 + (q + 1) % 3) (slotB (q + 1) s)).flush, s, s, rfl, by omega, rfl, rfl, rfl, hn, w.put_ (by omega) hsl d⟩, by show 100 - (((q + 1 : Nat) : Int)).toNat < 100 - (q : Int).toNat; omega⟩
  · rw [pNe_0, decide_eq_true (show (14 : Int) ≠ 0 by decide), pCond_true, pNe_0, decide_eq_false (by simp)]
    refine pOr_false ?_
    have hres : CallsH Try.prog 10 #[ptr lb, str [120]] H6 fun v H' => v = .int .i64 16 ∧ H6 = H' := by
      refine wal_Log_Put.vc _ _ _ _ ?_
      unfold wal_Log_Put.res
      rw [pEq_3s]
      refine pOr_false ?_
      refine pLenS_to ?_
      rw [pGt_v, decide_eq_false (by decide)]
      intro _
      rw [pCond_false]
      obtain ⟨lv, r, ov, lf, o, ok⟩ := d
      rw [pNil_v, pFieldAddr_v, add_mk]
      refine o.bload (b := lb) (f := 0 + 5) (by repeat (first | exact List.mem_cons_self | apply List.mem_cons_of_mem)) rfl ?_
      rw [pCond_true]
      exact ⟨rfl, rfl⟩
    refine hres.mono fun v H' ⟨hv, hH⟩ => ?_
    subst hv
    subst hH
    rw [pNe_0, decide_eq_false (by simp)]
    intro _
    rw [pCond_false]
    exact ⟨q, M', want, s, _, hq, rfl, rfl, rfl, by rw [g4]; exact hn, g2, by rw [g1]; exact hwla, d⟩
end Go.Proofs.Ytaopejkbnohiiaa
