/- Contracts of package wal. -/
import Derived.Test.YtaopejkbnohiiaaWalN
import Derived.Test.YtaopejkbnohiiaaDskLem
import Derived.Test.YtaopejkbnohiiaaBitsN
import Derived.Test.YtaopejkbnohiiaaCrc
import Derived.Test.YtaopejkbnohiiaaResWal
namespace Go.Proofs.Ytaopejkbnohiiaa
-- only what is there
open Go Go.Vc Go.Proofs
set_option linter.unusedVariables false
set_option linter.unusedSimpArgs false
variable {H H0 : Heap} {R : Value → Heap → Prop} {v : Value} {L : List It} {b lb at_ k N : Nat} {M : Dk} {want : List UInt8} {bad : Bool}
/-- a log's own box -/
abbrev logIt (lb b at_ k : Nat) (note : List UInt8) (N : Nat) (bad : Bool) : It := .box lb [ptr b, .int .i64 (at_ : Int), .int .i64 (k : Int), str note, .int .u64 (N : Int), .bool bad] 57
theorem slot_no {n : Nat} {s : List UInt8} (hno : n = 0 ∨ 23 < s.length) (h : R (str []) H) : CallsH Try.prog 15 #[.int .u64 (n : Int), str s] H R := by
  refine wal_Slot.vc _ _ _ _ ?_
  unfold wal_Slot.res
  rw [pEq_0]
  refine pOr_if (d := decide (23 < (s.length : Int))) (fun _ => by refine pLenS_to ?_; rw [pGt_v]; exact ⟨rfl, rfl⟩) ?_
  intro _
  refine pCond_b (fun _ => h) (fun hb => ?_)
  rw [Bool.or_eq_false_iff, decide_eq_false_iff_not, decide_eq_false_iff_not] at hb
  omega
theorem slot_spec {n : Nat} {s : List UInt8} (h1 : 1 ≤ n) (hn : n < 18446744073709551616) (hs : s.length ≤ 23) (h : ∀ H', Ext H H' → R (str (slotB n s)) H') : CallsH Try.prog 15 #[.int .u64 (n : Int), str s] H R := by
  have hbl := bodyB_len (n := n) hs
  refine wal_Slot.vc _ _ _ _ ?_
  unfold wal_Slot.res
  rw [pEq_0, decide_eq_false (by omega)]
  refine pOr_false ?_
  refine pLenS_to ?_
  rw [pGt_v, decide_eq_false (by omega)]
  intro _
  rw [pCond_false]
  refine put_at (n := n) (kn := 8) rfl hn (by decide) (by decide) fun H1 x1 => ?_
  refine pLenS_to ?_
  rw [pConv_v, wu64 (n := ((s.length : Nat) : Int)) (by omega) (by omega)]
  refine put_at (n := s.length) (kn := 1) rfl (by omega) (by decide) (by decide) fun H2 x2 => ?_
  refine pAdd_str (by rw [putN_len, putN_len]; decide) ?_
  refine pAdd_str (by rw [List.length_append, putN_len, putN_len]; omega) ?_
  refine pLenS_to ?_
  have hl : (putN n 8 ++ putN s.length 1 ++ s).length = 9 + s.length := by simp only [List.length_append, putN_len]
  rw [hl, pSub_v, show (60 : Int) - ((9 + s.length : Nat) : Int) = ((60 - (9 + s.length) : Nat) : Int) by omega, w64 (by omega) (by omega)]
  refine repeat_spec (s := [0]) (by omega) (by show 1 * _ ≤ _; omega) fun H3 x3 => ?_
  rw [repeat_one]
  refine pAdd_str (by rw [hl, List.length_replicate]; omega) ?_
  show CallsH Try.prog 31 _ _ _
  have hbd : putN n 8 ++ putN s.length 1 ++ s ++ List.replicate (60 - (9 + s.length)) 0 = bodyB n s := rfl
  rw [hbd]
  refine tMake_spec fun H4 tb ht x4 _ => ?_
  refine tSum_spec (by omega) ht ?_
  have hcr := more32_lt 0 (bodyB n s)
  rw [pConv_v, wu64 (n := ((more32 0 (bodyB n s) : Nat) : Int)) (by omega) (by omega)]
  refine put_at (n := more32 0 (bodyB n s)) (kn := 4) rfl (by omega) (by decide) (by decide) fun H5 x5 => ?_
  refine pAdd_str (by rw [hbl, putN_len]; decide) ?_
  exact h H5 (x1.trans (x2.trans (x3.trans (x4.trans x5))))
theorem parse_lt {b : List UInt8} {q : Nat × List UInt8} (h : parse b = some q) : 1 ≤ q.1 ∧ q.1 < 18446744073709551616 ∧ q.2.length ≤ 23 := by
  unfold parse at h
  split at h
  · rename_i hc
    cases h
    refine ⟨by show 1 ≤ parseN b; omega, ?_, ?_⟩
    · exact getN_lt8 (by rw [List.length_take]; omega)
    · show ((b.drop 9).take (parseK b)).length ≤ 23
      rw [List.length_take]; omega
  · cases h
theorem readS_spec {B : List UInt8} (hB : B.length = 64) (h1 : ∀ H', Ext H H' → ∀ n s, parse B = some (n, s) → R (.tuple #[.int .u64 ((n : Nat) : Int), str s, .bool true]) H')
    (h2 : parse B = none → ∀ H', Ext H H' → ∀ (n : Nat) s, n < 18446744073709551616 → R (.tuple #[.int .u64 ((n : Nat) : Int), str s, .bool false]) H') : CallsH Try.prog 22 #[str B] H R := by
  refine wal_read.vc _ _ _ ?_
  unfold wal_read.res
  have h8l : (B.take 8).length = 8 := by rw [List.length_take]; omega
  have hNlt : parseN B < 18446744073709551616 := getN_lt8 (by omega)
  refine pSlStr_to (lo := 0) (hi := 8) (.inr ⟨rfl, rfl⟩) (.inl rfl) (by omega) (by omega) ?_
  rw [List.drop_zero, Nat.sub_zero, pIdxStr_v]
  refine ⟨by decide, by rw [bys_mk]; omega, ?_⟩
  rw [bys_mk, pConv_v]
  have hk256 : (B.getD 8 0).toNat < 256 := (B.getD 8 0).toNat_lt
  rw [show (8 : Int).toNat = 8 from rfl, w64 (n := (((B.getD 8 0).toNat : Nat) : Int)) (by omega) (by omega)]
  refine get_spec (by omega) ?_
  rw [if_pos (by omega)]
  show pEq 0 (.int .u64 ((parseN B : Nat) : Int)) _ _
  rw [pEq_0]
  refine pOr_if (d := decide (23 < ((parseK B : Nat) : Int))) (fun _ => by rw [pGt_v]; exact ⟨rfl, rfl⟩) ?_
  intro _
  refine pCond_b (fun hb => ?_) (fun hb => ?_)
  · rw [Bool.or_eq_true, decide_eq_true_eq, decide_eq_true_eq] at hb
    refine h2 ?_ H (Ext.refl H) 0 [] (by decide)
    unfold parse
    rw [if_neg]
    rintro ⟨g1, g2, _⟩
    omega
  · rw [Bool.or_eq_false_iff, decide_eq_false_iff_not, decide_eq_false_iff_not] at hb
    have hk : parseK B ≤ 23 := by omega
    have hn1 : 1 ≤ parseN B := by omega
    show pAdd (.int .i64 9) (.int .i64 ((parseK B : Nat) : Int)) _
    rw [pAdd_v, show (9 : Int) + ((parseK B : Nat) : Int) = ((9 + parseK B : Nat) : Int) by omega, w64 (by omega) (by omega)]
    refine pSlStr_to (lo := 9) (hi := 9 + parseK B) (.inl rfl) (.inl rfl) (by omega) (by omega) ?_
    rw [show 9 + parseK B - 9 = parseK B by omega]
    show CallsH Try.prog 15 #[.int .u64 ((parseN B : Nat) : Int), str (parseS B)] _ _
    have hsl : (parseS B).length ≤ 23 := by unfold parseS; rw [List.length_take]; omega
    refine slot_spec hn1 hNlt hsl fun H1 x1 => ?_
    refine pEq1_to ?_
    by_cases hc : slotB (parseN B) (parseS B) = B
    · rw [decide_eq_true hc]
      refine h1 H1 x1 (parseN B) (parseS B) ?_
      unfold parse
      rw [if_pos ⟨by omega, hk, hc⟩]
    · rw [decide_eq_false hc]
      refine h2 ?_ H1 x1 (parseN B) (parseS B) hNlt
      unfold parse
      rw [if_neg (fun g => hc g.2.2)]
def noteAt (M : Dk) (at_ : Nat) : Nat → Option (Nat × List UInt8) := fun j => parse (M.sec (at_ + j))
theorem openF_lt (M : Dk) (at_ : Nat) : ∀ k, (openF (noteAt M at_) k).1 < 18446744073709551616
  | 0 => by show 0 < 18446744073709551616; decide
  | k + 1 => by
    have ih := openF_lt M at_ k
    rw [openF]
    cases hf : noteAt M at_ k with
    | none => exact ih
    | some q =>
      show (if (openF (noteAt M at_) k).1 < q.1 then q else openF (noteAt M at_) k).1 < _
      have := (parse_lt hf).2.1
      split
      · exact this
      · exact ih
theorem open_spec18 {a m : Int} (hm : m ≤ 9223372036854775807) (d : Dsk H0 H b M L) (ho : M.off = false) (h2 : 2 ≤ m) (hno : ¬ (0 ≤ a ∧ a ≤ M.n ∧ m ≤ M.n - a) → R (.tuple #[.pointer none, .int .i64 20]) H)
    (hyes : 0 ≤ a → a ≤ M.n → m ≤ M.n - a → ∀ H' lb, Dsk H0 H' b M (logIt lb b a.toNat m.toNat (openF (noteAt M a.toNat) m.toNat).2 (openF (noteAt M a.toNat) m.toNat).1 false :: L) → R (.tuple #[ptr lb, .int .i64 0]) H') : CallsH Try.prog 9 #[ptr b, .int .i64 a, .int .i64 m] H R := by
  have hmax := d.nmax
  refine wal_Open.vc _ _ _ _ _ ?_
  unfold wal_Open.res
  rw [pEq_3s]
  refine pOr_false ?_
  rw [pLt_v, decide_eq_false (by omega)]
  intro _
  rw [pCond_false, pLt_v]
  have hfin : ∀ {c : Bool} {A : Prop}, c = true → ¬ (0 ≤ a ∧ a ≤ M.n ∧ m ≤ M.n - a) → pCond (.bool c) (R (.tuple #[.pointer none, .int .i64 20]) H) A := fun hc hg => by
    rw [hc, pCond_true]; exact hno hg
  by_cases h1 : a < 0
  · rw [decide_eq_true h1, pOr_true]
    intro _
    rw [pOr_true]
    intro _
    exact hfin rfl (by omega)
  rw [decide_eq_false h1]
  refine pOr_false ?_
  refine sectors_spec d ?_
  rw [pGt_v]
  intro _
  by_cases h3 : (M.n : Int) < a
  · rw [decide_eq_true h3, pOr_true]
    intro _
    exact hfin rfl (by omega)
  rw [decide_eq_false h3]
  refine pOr_false ?_
  refine sectors_spec d ?_
  rw [pSub_v, w64 (n := (M.n : Int) - a) (by omega) (by omega), pGt_v]
  intro _
  by_cases h4 : (M.n : Int) - a < m
  · exact hfin (decide_eq_true h4) (by omega)
  rw [decide_eq_false h4, pCond_false]
  have hk := hyes (by omega) (by omega) (by omega)
  obtain ⟨a', rfl⟩ : ∃ a' : Nat, a = a' := ⟨a.toNat, by omega⟩
  obtain ⟨k, rfl⟩ : ∃ k : Nat, m = k := ⟨m.toNat, by omega⟩
  rw [Int.toNat_natCast, Int.toNat_natCast] at hk
  obtain ⟨lv, r, ov, lf, o, ok⟩ := d
  refine pBuild_one rfl (by decide) ?_
  refine pBuild_one rfl (by simp) ?_
  refine pBuild_one rfl (by simp) ?_
  rw [pBuild_n]
  refine o.box fun lb H1 o _ => ?_
  change Owns H0 H1 (logIt lb b a' k [] 0 false :: _) at o
  refine ⟨fun i H' => ∃ j : Nat, i = .int .i64 j ∧ j ≤ k ∧ Dsk H0 H' b M (logIt lb b a' k (openF (noteAt M a') j).2 (openF (noteAt M a') j).1 false :: L), fun i _ => match i with | .int _ x => k - x.toNat | _ => 0, ⟨0, rfl, by omega, lv, r, ov, lf, o.arrT (by repeat (first | exact SelsT.refl | exact Sel.here | apply SelsT.cons | apply Sel.there)), ok⟩, ?_⟩
  clear o ok
  rintro _ _ H2 ⟨j, rfl, hj, d⟩
  rw [pLt_v]
  refine pCond_if (fun hc => ?_) (fun hc => ?_)
  · have hjk : j < k := by omega
    have hs64 := d.secs (j := a' + j) (by omega)
    rw [pAdd_v, w64 (n := (a' : Int) + (j : Int)) (by omega) (by omega), show (a' : Int) + (j : Int) = ((a' + j : Nat) : Int) by omega]
    refine read_spec d ?_
    rw [read_ok' (by omega) ho]
    refine pExtract_to rfl ?_
    refine pExtract_to rfl ?_
    rw [pNe_0, decide_eq_false (by simp), pCond_false]
    have hlt := openF_lt M a' j
    have hof : openF (noteAt M a') (j + 1) = match noteAt M a' j with | some q => if (openF (noteAt M a') j).1 < q.1 then q else openF (noteAt M a') j | none => openF (noteAt M a') j := rfl
    have hstep : ∀ {H'}, Dsk H0 H' b M (logIt lb b a' k (openF (noteAt M a') (j + 1)).2 (openF (noteAt M a') (j + 1)).1 false :: L) → pAdd (.int .i64 (j : Int)) (.int .i64 1) fun x82 => (∃ i : Nat, x82 = .int .i64 i ∧ i ≤ k ∧ Dsk H0 H' b M (logIt lb b a' k (openF (noteAt M a') i).2 (openF (noteAt M a') i).1 false :: L)) ∧ (match x82 with | .int _ x => k - x.toNat | _ => 0) < k - (j : Int).toNat := fun d => by
      rw [pAdd_v, w64 (n := (j : Int) + 1) (by omega) (by omega)]
      exact ⟨⟨j + 1, rfl, by omega, d⟩, by show k - ((j : Int) + 1).toNat < k - (j : Int).toNat; omega⟩
    refine readS_spec hs64 (fun H3 hx n s hp => ?_) (fun hp H3 hx n s hn => ?_)
    · have d := d.more' hx
      have hq := (parse_lt hp).2.1
      have hna : noteAt M a' j = some (n, s) := hp
      rw [hna] at hof
      refine pExtract_to rfl ?_
      refine pExtract_to rfl ?_
      refine pExtract_to rfl ?_
      refine pAnd_true ?_
      obtain ⟨lv, r, ov, lf, o, ok⟩ := d
      rw [pNil_v, pFieldAddr_v, add_mk]
      refine o.bload (b := lb) (f := 0 + 4) (by repeat (first | exact List.mem_cons_self | apply List.mem_cons_of_mem)) rfl ?_
      rw [pGt_v]
      intro _
      refine pCond_if (fun hc => ?_) (fun hc => ?_)
      · rw [pNil_v, pFieldAddr_v, add_mk]
        refine o.bstore (b := lb) (f := 0 + 4) (by repeat (first | exact List.mem_cons_self | apply List.mem_cons_of_mem)) (by simp) rfl (by repeat (first | exact Rep.here | apply Rep.there)) fun H4 o _ => ?_
        rw [pNil_v, pFieldAddr_v, add_mk]
        refine o.bstore (b := lb) (f := 0 + 3) (by repeat (first | exact List.mem_cons_self | apply List.mem_cons_of_mem)) (by simp) rfl (by repeat (first | exact Rep.here | apply Rep.there)) fun H5 o _ => ?_
        refine hstep ⟨lv, r, ov, lf, ?_, ok⟩
        have e : openF (noteAt M a') (j + 1) = (n, s) := by
          rw [hof]
          show (if (openF (noteAt M a') j).1 < n then (n, s) else openF (noteAt M a') j) = (n, s)
          rw [if_pos (by omega)]
        rw [e]
        exact o
      · refine hstep ⟨lv, r, ov, lf, ?_, ok⟩
        have e : openF (noteAt M a') (j + 1) = openF (noteAt M a') j := by
          rw [hof]
          show (if (openF (noteAt M a') j).1 < n then (n, s) else openF (noteAt M a') j) = openF (noteAt M a') j
          rw [if_neg (by omega)]
        rw [e]
        exact o
    · have d := d.more' hx
      have hna : noteAt M a' j = none := hp
      rw [hna] at hof
      refine pExtract_to rfl ?_
      refine pExtract_to rfl ?_
      refine pExtract_to rfl ?_
      rw [pAnd_false]
      intro _
      rw [pCond_false]
      refine hstep ?_
      rw [hof]
      exact d
  · have hjk : j = k := by omega
    subst hjk
    exact hk H2 lb d
theorem open_bad {m : Int} {a : Int} {p : Value} (hp : p = .pointer none ∨ (∃ b, p = ptr b) ∧ m < 2) (h : R (.tuple #[.pointer none, .int .i64 1]) H) : CallsH Try.prog 9 #[p, .int .i64 a, .int .i64 m] H R := by
  refine wal_Open.vc _ _ _ _ _ ?_
  unfold wal_Open.res
  rcases hp with rfl | ⟨⟨b, rfl⟩, hn⟩
  · rw [pEq_3n, pOr_true]
    intro _
    rw [pCond_true]
    exact h
  · rw [pEq_3s]
    refine pOr_false ?_
    rw [pLt_v, decide_eq_true hn]
    intro _
    rw [pCond_true]
    exact h
theorem note_spec (d : Dsk H0 H b M (logIt lb b at_ k want N bad :: L)) (h : R (.tuple #[str want, .int .u64 (N : Int)]) H) : CallsH Try.prog 13 #[ptr lb] H R := by
  obtain ⟨lv, r, ov, lf, o, ok⟩ := d
  refine wal_Log_Note.vc _ _ _ ?_
  unfold wal_Log_Note.res
  rw [pEq_3s, pCond_false, pNil_v, pFieldAddr_v, add_mk]
  refine o.bload (b := lb) (f := 0 + 3) (by repeat (first | exact List.mem_cons_self | apply List.mem_cons_of_mem)) rfl ?_
  rw [pNil_v, pFieldAddr_v, add_mk]
  exact o.bload (b := lb) (f := 0 + 4) (by repeat (first | exact List.mem_cons_self | apply List.mem_cons_of_mem)) rfl h
theorem crash_off (ho : M.off = false) (fs : List Int) : (M.crash fs).off = true ∧ (M.crash fs).cs = (fun _ => none) ∧ (M.crash fs).n = M.n := by
  unfold Dk.crash
  rw [if_neg (by rw [ho]; decide)]
  exact ⟨rfl, rfl, rfl⟩
theorem crash_nil_la (ho : M.off = false) : (M.crash []).la = M.la := by
  unfold Dk.crash
  rw [if_neg (by rw [ho]; decide)]
  funext j
  show (match M.cs j with | some s => tornF (M.la j) s (fateN [] (M.order.idxOf j)) | none => M.la j) = M.la j
  cases M.cs j with
  | none => rfl
  | some s => rfl
theorem write18_spec {n : Nat} {s : List UInt8} (d : Dsk H0 H b M (logIt lb b at_ k want N bad :: L)) (ho : M.off = false) (hk : 1 ≤ k) (hr : at_ + k ≤ M.n) (h1 : 1 ≤ n) (hn : n < 18446744073709551616) (hs : s.length ≤ 23)
    (hok : (M.fuse = none ∨ ∃ q, M.fuse = some (q + 2)) → ∀ H', Dsk H0 H' b (M.put (at_ + n % k) (slotB n s)).flush (logIt lb b at_ k want N bad :: L) → R (.int .i64 0) H')
    (hbad : (M.fuse = some 0 ∨ M.fuse = some 1) → ∀ H' M', M'.la = M.la → M'.cs = (fun _ => none) → M'.off = true → M'.n = M.n → Dsk H0 H' b M' (logIt lb b at_ k want N bad :: L) → R (.int .i64 14) H') :
    CallsH Try.prog 23 #[ptr lb, .int .u64 (n : Int), str s] H R := by
  have hmax := d.nmax
  have hmod := Nat.mod_lt n (show 0 < k by omega)
  refine wal_Log_write.vc _ _ _ _ _ ?_
  unfold wal_Log_write.res
  have d0 := d
  obtain ⟨lv, r, ov, lf, o, ok⟩ := d
  rw [pNil_v, pFieldAddr_v, add_mk]
  refine o.bload (b := lb) (f := 0 + 0) (by repeat (first | exact List.mem_cons_self | apply List.mem_cons_of_mem)) rfl ?_
  rw [pNil_v, pFieldAddr_v, add_mk]
  refine o.bload (b := lb) (f := 0 + 1) (by repeat (first | exact List.mem_cons_self | apply List.mem_cons_of_mem)) rfl ?_
  rw [pNil_v, pFieldAddr_v, add_mk]
  refine o.bload (b := lb) (f := 0 + 2) (by repeat (first | exact List.mem_cons_self | apply List.mem_cons_of_mem)) rfl ?_
  rw [pConv_v, wu64 (n := (k : Int)) (by omega) (by omega), pRem_v]
  refine ⟨by omega, ?_⟩
  rw [show ((n : Nat) : Int).tmod (k : Int) = ((n % k : Nat) : Int) from rfl, pConv_v, w64 (n := ((n % k : Nat) : Int)) (by omega) (by omega), pAdd_v, show (at_ : Int) + ((n % k : Nat) : Int) = ((at_ + n % k : Nat) : Int) by omega, w64 (by omega) (by omega)]
  refine slot_spec h1 hn hs fun H1 hx => ?_
  have o := o.more hx
  refine ⟨o.bload (b := lb) (f := 0 + 0) (by repeat (first | exact List.mem_cons_self | apply List.mem_cons_of_mem)) rfl rfl, ?_⟩
  refine ⟨o.bload (b := lb) (f := 0 + 1) (by repeat (first | exact List.mem_cons_self | apply List.mem_cons_of_mem)) rfl rfl, ?_⟩
  refine ⟨o.bload (b := lb) (f := 0 + 2) (by repeat (first | exact List.mem_cons_self | apply List.mem_cons_of_mem)) rfl rfl, ?_⟩
  refine write_spec (d0.more' hx) fun H2 d => ?_
  rw [write_on (slotB_len hs) (by omega) ho] at d ⊢
  rw [pNe_0]
  by_cases hf : M.fuse = some 0
  · rw [if_pos hf] at d ⊢
    rw [decide_eq_true (show (14 : Int) ≠ 0 by decide), pCond_true]
    have hc := crash_off ho []
    exact hbad (.inl hf) H2 _ (crash_nil_la ho) hc.2.1 hc.1 hc.2.2 d
  rw [if_neg hf] at d ⊢
  rw [decide_eq_false (by simp), pCond_false]
  have d1 := d
  obtain ⟨lv, r, ov, lf, o, ok⟩ := d
  rw [pNil_v, pFieldAddr_v, add_mk]
  refine o.bload (b := lb) (f := 0 + 0) (by repeat (first | exact List.mem_cons_self | apply List.mem_cons_of_mem)) rfl ?_
  refine sync_spec d1 fun H3 d => ?_
  have hop : (M.put (at_ + n % k) (slotB n s)).off = false := ho
  unfold Dk.sync at d ⊢
  rw [if_neg (by rw [hop]; decide)] at d ⊢
  by_cases hf1 : M.fuse = some 1
  · have hf2 : (M.put (at_ + n % k) (slotB n s)).fuse = some 0 := by show M.fuse.map _ = _; rw [hf1]; rfl
    rw [if_pos hf2] at d ⊢
    have hc := crash_off hop []
    exact hbad (.inr hf1) H3 ((M.put (at_ + n % k) (slotB n s)).crash []) (crash_nil_la hop) hc.2.1 hc.1 hc.2.2 d
  · have hcase : M.fuse = none ∨ ∃ q, M.fuse = some (q + 2) := by
      cases hfu : M.fuse with
      | none => exact .inl rfl
      | some q =>
        match q, hfu with
        | 0, hfu => exact absurd hfu hf
        | 1, hfu => exact absurd hfu hf1
        | q + 2, _ => exact .inr ⟨q, rfl⟩
    have hf2 : ¬ (M.put (at_ + n % k) (slotB n s)).fuse = some 0 := by
      show ¬ M.fuse.map _ = _
      rcases hcase with g | ⟨q, g⟩
      · rw [g]; simp
      · rw [g]; simp
    rw [if_neg hf2] at d ⊢
    exact hok hcase H3 d
theorem put_spec18 {s : List UInt8} (d : Dsk H0 H b M (logIt lb b at_ k want N bad :: L)) (ho : M.off = false) (hk : 1 ≤ k) (hr : at_ + k ≤ M.n) (hN : N ≤ 1000000)
    (hlong : 23 < s.length → R (.int .i64 1) H) (hfailed : s.length ≤ 23 → bad = true → R (.int .i64 16) H)
    (hok : s.length ≤ 23 → bad = false → (M.fuse = none ∨ ∃ q, M.fuse = some (q + 2)) → ∀ H', Dsk H0 H' b (M.put (at_ + (N + 1) % k) (slotB (N + 1) s)).flush (logIt lb b at_ k s (N + 1) false :: L) → R (.int .i64 0) H')
    (hbad : s.length ≤ 23 → bad = false → (M.fuse = some 0 ∨ M.fuse = some 1) → ∀ H' M', M'.la = M.la → M'.cs = (fun _ => none) → M'.off = true → M'.n = M.n → Dsk H0 H' b M' (logIt lb b at_ k want N true :: L) → R (.int .i64 14) H') :
    CallsH Try.prog 10 #[ptr lb, str s] H R := by
  refine wal_Log_Put.vc _ _ _ _ ?_
  unfold wal_Log_Put.res
  rw [pEq_3s]
  refine pOr_false ?_
  refine pLenS_to ?_
  rw [pGt_v]
  intro _
  refine pCond_if (fun hc => hlong (by omega)) (fun hc => ?_)
  have hs : s.length ≤ 23 := by omega
  have d0 := d
  obtain ⟨lv, r, ov, lf, o, ok⟩ := d
  rw [pNil_v, pFieldAddr_v, add_mk]
  refine o.bload (b := lb) (f := 0 + 5) (by repeat (first | exact List.mem_cons_self | apply List.mem_cons_of_mem)) rfl ?_
  refine pCond_b (fun hb => hfailed hs hb) (fun hb => ?_)
  subst hb
  rw [pNil_v, pFieldAddr_v, add_mk]
  refine o.bload (b := lb) (f := 0 + 4) (by repeat (first | exact List.mem_cons_self | apply List.mem_cons_of_mem)) rfl ?_
  rw [pEq_0, decide_eq_false (by omega), pCond_false, pNil_v, pFieldAddr_v, add_mk]
  refine o.bload (b := lb) (f := 0 + 4) (by repeat (first | exact List.mem_cons_self | apply List.mem_cons_of_mem)) rfl ?_
  rw [pAdd_v, show (N : Int) + 1 = ((N + 1 : Nat) : Int) by omega, wu64 (by omega) (by omega)]
  refine write18_spec d0 ho hk hr (by omega) (by omega) hs (fun hf H1 d => ?_) (fun hf H1 M' g1 g2 g3 g4 d => ?_)
  · rw [pNe_0, decide_eq_false (by simp), pCond_false]
    obtain ⟨lv, r, ov, lf, o, ok⟩ := d
    rw [pNil_v, pFieldAddr_v, add_mk]
    refine o.bload (b := lb) (f := 0 + 4) (by repeat (first | exact List.mem_cons_self | apply List.mem_cons_of_mem)) rfl ?_
    rw [pAdd_v, show (N : Int) + 1 = ((N + 1 : Nat) : Int) by omega, wu64 (by omega) (by omega), pNil_v, pFieldAddr_v, add_mk]
    refine o.bstore (b := lb) (f := 0 + 4) (by repeat (first | exact List.mem_cons_self | apply List.mem_cons_of_mem)) (by simp) rfl (by repeat (first | exact Rep.here | apply Rep.there)) fun H2 o _ => ?_
    rw [pNil_v, pFieldAddr_v, add_mk]
    refine o.bstore (b := lb) (f := 0 + 3) (by repeat (first | exact List.mem_cons_self | apply List.mem_cons_of_mem)) (by simp) rfl (by repeat (first | exact Rep.here | apply Rep.there)) fun H3 o _ => ?_
    exact hok hs rfl hf H3 ⟨lv, r, ov, lf, o, ok⟩
  · rw [pNe_0, decide_eq_true (show (14 : Int) ≠ 0 by decide), pCond_true]
    obtain ⟨lv, r, ov, lf, o, ok⟩ := d
    rw [pNil_v, pFieldAddr_v, add_mk]
    refine o.bstore (b := lb) (f := 0 + 5) (by repeat (first | exact List.mem_cons_self | apply List.mem_cons_of_mem)) (by simp) rfl (by repeat (first | exact Rep.here | apply Rep.there)) fun H2 o _ => ?_
    exact hbad hs rfl hf H2 M' g1 g2 g3 g4 ⟨lv, r, ov, lf, o, ok⟩
end Go.Proofs.Ytaopejkbnohiiaa
