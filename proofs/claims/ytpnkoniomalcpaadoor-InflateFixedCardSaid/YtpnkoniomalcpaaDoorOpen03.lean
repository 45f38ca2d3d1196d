/- canon's open; the document's Find. -/
import Derived.Test.YtpnkoniomalcpaaDoorFind03
namespace Go.Proofs.YtpnkoniomalcpaaDoor
-- only what is there
open Go Go.Vc Go.Proofs
set_option linter.unusedVariables false
set_option linter.unusedSimpArgs false
variable {H : Heap} {R : Value → Heap → Prop} {v : Value} {zs : List Int} {ls : List Nat} {B : List Bool}
theorem pSlStr01_to {K : Value → Prop} {l : List UInt8} {m : Nat} (hm : m ≤ l.length) (h : K (str (l.take m))) : pSlStr (str l) none (some (.int .i64 (m : Int))) K :=
  pSlStr_to (lo := 0) (hi := m) (.inr ⟨rfl, rfl⟩) (.inl rfl) (Nat.zero_le _) hm (by rw [List.drop_zero, Nat.sub_zero]; exact h)
theorem open1_spec {H0 : Heap} {L : List It} {hb mb vb : Nat} {th tm tv : TypeId} {x n a m : Nat} (o : Owns H0 H L) (hn : n ≤ 15) (ha : a < 18446744073709551616) (m1 : It.box hb [.int .i64 (n : Int)] th ∈ L) (m2 : It.box mb [.int .u64 (IntKind.u64.wrap (IntKind.u64.wrap (1 * 2 ^ min ((n : Int)).toNat IntKind.u64.bits) - 1))] tm ∈ L) (m3 : It.box vb [.int .u64 (x : Int)] tv ∈ L)
    (h : ∀ H', Owns H0 H' L → R (.bool (decide (n < m) && decide (a % 2 ^ n = x))) H') :
    CallsH Tryd.prog 89 #[.agg #[.int .u64 (a : Int), .int .i64 (m : Int)], .pointer (some ⟨hb, 0, none⟩), .pointer (some ⟨mb, 0, none⟩), .pointer (some ⟨vb, 0, none⟩)] H R := by
  refine canon_Code_open_f1.vc _ _ _ _ _ _ ?_
  unfold canon_Code_open_f1.res
  refine o.box fun wb H1 o1 _ => ?_
  change Owns H0 H1 (.box wb [.int .u64 (a : Int), .int .i64 (m : Int)] _ :: L) at o1
  rw [pFieldAddr_v, add_mk]
  refine o1.bload (f := 0 + 1) (by repeat (first | exact List.mem_cons_self | apply List.mem_cons_of_mem)) rfl ?_
  refine o1.bload (List.mem_cons_of_mem _ m1) rfl ?_
  rw [pGt_v]
  refine pAnd_if (d := decide (a % 2 ^ n = x)) (fun _ => ?_) ?_
  · rw [pFieldAddr_v, add_mk]
    refine o1.bload (f := 0 + 0) (by repeat (first | exact List.mem_cons_self | apply List.mem_cons_of_mem)) rfl ?_
    refine o1.bload (List.mem_cons_of_mem _ m2) rfl ?_
    rw [pBits_v, mask_u64 ha (by omega)]
    refine o1.bload (List.mem_cons_of_mem _ m3) rfl ?_
    rw [pEq_0]
    refine ⟨?_, rfl⟩
    congr 1
    rw [Bool.eq_iff_iff, decide_eq_true_eq, decide_eq_true_eq]
    omega
  intro _
  have := h H1 (o1.pick (List.sublist_cons_self _ _))
  rw [show decide ((n : Int) < (m : Int)) = decide (n < m) by rw [Bool.eq_iff_iff, decide_eq_true_eq, decide_eq_true_eq]; omega]
  exact this
theorem wordB_bits {s n x : Nat} (h : n ≤ ls.getD s 0) (hx : x < 2 ^ n) : (wordB ls s).take n = bitsN x n ↔ revN (codeL ls s) (ls.getD s 0) % 2 ^ n = x := by
  unfold wordB
  rw [bitsN_take h]
  constructor
  · intro g
    have := bitsN_inj g
    rwa [Nat.mod_eq_of_lt hx] at this
  · intro g
    rw [← bitsN_mod, g]
open Classical in
theorem open_spec {H0 : Heap} {L : List It} {b : Nat} {lv wv sv : Value} {x n : Nat} (hz : okZ zs) (o : Owns H0 H L) (m1 : It.box b (codeCells lv wv (countsL (natL zs)) sv) 139 ∈ L) (m2 : It.sl wv 2 (wordsV (natL zs)) ∈ L)
    (hx : x < 2 ^ n) (hn : n ≤ 15) (h : ∀ H', Owns H0 H' L → R (.bool (decide (more (natL zs) (bitsN x n)))) H') :
    CallsH Tryd.prog 69 #[.pointer (some ⟨b, 0, none⟩), .int .u64 (x : Int), .int .i64 (n : Int)] H R := by
  have hle := ok_le hz
  have hlen : (natL zs).length ≤ 288 := by rw [natL_len]; exact hz.1
  generalize natL zs = ls at *
  have hwl := wordsV_len ls
  refine canon_Code_open.vc _ _ _ _ _ ?_
  unfold canon_Code_open.res
  refine o.box fun vb H1 o1 _ => ?_
  change Owns H0 H1 (.box vb [.int .u64 (x : Int)] _ :: L) at o1
  refine o1.box fun hb H2 o2 _ => ?_
  change Owns H0 H2 (.box hb [.int .i64 (n : Int)] _ :: .box vb [.int .u64 (x : Int)] _ :: L) at o2
  refine o2.bload (by repeat (first | exact List.mem_cons_self | apply List.mem_cons_of_mem)) rfl ?_
  rw [pShl_v]
  refine ⟨by omega, ?_⟩
  rw [pSub_v]
  refine o2.box fun mb H3 o3 _ => ?_
  change Owns H0 H3 (.box mb [.int .u64 0] _ :: .box hb [.int .i64 (n : Int)] _ :: .box vb [.int .u64 (x : Int)] _ :: L) at o3
  refine o3.bstore (by repeat (first | exact List.mem_cons_self | apply List.mem_cons_of_mem)) (by decide) rfl (Rep.here) fun H4 o4 _ => ?_
  rw [List.set_cons_zero] at o4
  rw [pNil_v, pFieldAddr_v, add_mk]
  have mem : ∀ {i : It}, i ∈ L → ∀ {a b c : It}, i ∈ a :: b :: c :: L := fun {i} h {a b c} => List.mem_cons_of_mem _ (List.mem_cons_of_mem _ (List.mem_cons_of_mem _ h))
  refine o4.bload (f := 0 + 1) (mem m1) rfl ?_
  refine slices_ContainsFunc_s_canon_word_canon_word.vc _ _ _ _ ?_
  unfold slices_ContainsFunc_s_canon_word_canon_word.res
  refine slices_IndexFunc_s_canon_word_canon_word.vc _ _ _ _ ?_
  unfold slices_IndexFunc_s_canon_word_canon_word.res
  refine (o4.sl (mem m2)).len hwl (by decide) ?_
  have hend : ∀ {H' a b c}, Owns H0 H' (a :: b :: c :: L) → Owns H0 H' L := fun o => o.pick (List.Sublist.cons _ (List.Sublist.cons _ (List.sublist_cons_self _ _)))
  refine ⟨fun i H' => ∃ k : Nat, i = .int .i64 k ∧ k ≤ ls.length ∧ Owns H0 H' (.box mb [.int .u64 (IntKind.u64.wrap (IntKind.u64.wrap (1 * 2 ^ min ((n : Int)).toNat IntKind.u64.bits) - 1))] 34 :: .box hb [.int .i64 (n : Int)] 3 :: .box vb [.int .u64 (x : Int)] 34 :: L) ∧ ∀ s, s < k → ¬ (n < ls.getD s 0 ∧ (wordB ls s).take n = bitsN x n), fun i _ => match i with | .int _ x => (1000 - x).toNat | _ => 0, ⟨0, rfl, by omega, o4, by omega⟩, ?_⟩
  clear o o1 o2 o3 o4
  rintro _ _ H5 ⟨k, rfl, hk, o4, hno⟩
  rw [pLt_v]
  refine pCond_if (fun hc => ?_) (fun hc => ?_)
  · have hkl : k < ls.length := by omega
    refine (o4.sl (mem m2)).at_ hwl (by decide) (by omega) (by omega) fun p hp => ?_
    rw [Int.toNat_natCast] at hp
    refine hp.loadN (o4.sl (mem m2)) (ws := wordV ls k) ?_ rfl ?_
    · have e0 := wordsV_at (ls := ls) (s := k) (j := 0) hkl (by decide)
      have e1 := wordsV_at (ls := ls) (s := k) (j := 1) hkl (by decide)
      apply List.ext_getElem?
      intro i
      rw [List.getElem?_take]
      split
      · rename_i hi
        rw [List.getElem?_drop]
        match i, hi with
        | 0, _ => exact e0
        | 1, _ => exact e1
      · rename_i hi
        rw [List.getElem?_eq_none (by show 2 ≤ i; omega)]
    refine callH_f (by kernel_rfl) ?_
    have hr := revN_lt (codeL ls k) (ls.getD k 0)
    have hp2 : 2 ^ ls.getD k 0 ≤ 2 ^ 15 := Nat.pow_le_pow_right (by decide) (getD_le hle k)
    refine open1_spec (a := revN (codeL ls k) (ls.getD k 0)) (m := ls.getD k 0) o4 hn (by omega) (by repeat (first | exact List.mem_cons_self | apply List.mem_cons_of_mem)) (by repeat (first | exact List.mem_cons_self | apply List.mem_cons_of_mem)) (by repeat (first | exact List.mem_cons_self | apply List.mem_cons_of_mem)) fun H6 o5 => ?_
    have hiff := @wordB_bits ls k n x
    refine pCond_b (fun hb => ?_) (fun hb => ?_)
    · rw [Bool.and_eq_true, decide_eq_true_eq, decide_eq_true_eq] at hb
      show pGe _ _ _
      rw [pGe_v, decide_eq_true (by omega)]
      have hm : more ls (bitsN x n) := ⟨k, hkl, by rw [bitsN_len]; exact hb.1, by rw [bitsN_len]; exact (hiff (by omega) hx).2 hb.2⟩
      have := h H6 (hend o5)
      rw [decide_eq_true hm] at this
      exact this
    · rw [pAdd_v, w64 (n := (k : Int) + 1) (by omega) (by omega)]
      refine ⟨⟨k + 1, rfl, by omega, o5, fun s hs => ?_⟩, by show (_ : Int).toNat < (_ : Int).toNat; omega⟩
      by_cases he : s = k
      · subst he
        rintro ⟨g1, g2⟩
        rw [decide_eq_true g1, decide_eq_true ((hiff (by omega) hx).1 g2)] at hb
        cases hb
      · exact hno s (by omega)
  · have hkl : k = ls.length := by omega
    subst hkl
    show pGe _ _ _
    rw [pGe_v, decide_eq_false (by decide)]
    have hm : ¬ more ls (bitsN x n) := by
      rintro ⟨s, g1, g2, g3⟩
      rw [bitsN_len] at g2 g3
      exact hno s g1 ⟨g2, g3⟩
    have := h H5 (hend o4)
    rw [decide_eq_false hm] at this
    exact this
/-! ### the document's Find -/
theorem chr_inj {a b : Bool} (h : chr a = chr b) : a = b := by cases a <;> cases b <;> first | rfl | exact absurd h (by decide)
theorem textB_inj {l m : List Bool} (h : textB l = textB m) : l = m := by
  induction l generalizing m with
  | nil => cases m with
    | nil => rfl
    | cons b m => cases h
  | cons a l ih => cases m with
    | nil => cases h
    | cons b m =>
      simp only [textB, List.map_cons, List.cons.injEq] at h
      rw [chr_inj h.1, ih h.2]
theorem textB_take (l : List Bool) (n : Nat) : (textB l).take n = textB (l.take n) := by unfold textB; rw [List.map_take]
theorem eqT (a b : List Bool) : decide (textB a = textB b) = decide (a = b) := by
  rw [Bool.eq_iff_iff, decide_eq_true_eq, decide_eq_true_eq]
  exact ⟨textB_inj, fun h => by rw [h]⟩
theorem wordsT_len' (ls : List Nat) : (wordsT ls).length = ls.length := by simp [wordsT]
open Classical in
theorem rfind_spec {w : Value} {Bx : List Bool} (hs : Sl H w 1 (txtsV (wordsT ls))) (hl : ls.length ≤ 288) (hle : ∀ k ∈ ls, k ≤ 15) (hB : Bx.length ≤ 15)
    (h1 : ∀ s, hit ls Bx s → R (.int .i64 (s : Nat)) H) (h2 : (∀ s, ¬ hit ls Bx s) → R (.int .i64 (if more ls Bx then -2 else -1)) H) : CallsH Tryd.prog 93 #[w, str (textB Bx)] H R := by
  have hvl : (txtsV (wordsT ls)).length = ls.length * 1 := by rw [txtsV_len, wordsT_len', Nat.mul_one]
  refine lighterref03_Find.vc _ _ _ _ ?_
  unfold lighterref03_Find.res
  refine ⟨fun m i H' => ∃ k : Nat, i = .int .i64 k ∧ k ≤ ls.length ∧ m = .bool (decide (∃ s, s < k ∧ Bx.length < ls.getD s 0 ∧ (wordB ls s).take Bx.length = Bx)) ∧ (∀ s, s < k → ¬ hit ls Bx s) ∧ H = H', fun _ i _ => match i with | .int _ x => (1000 - x).toNat | _ => 0, ⟨0, rfl, by omega, by rw [decide_eq_false (by rintro ⟨s, h, _⟩; omega)], by omega, rfl⟩, ?_⟩
  rintro _ _ _ _ ⟨k, rfl, hk, rfl, hno, rfl⟩
  refine hs.len hvl (by decide) ?_
  rw [pLt_v]
  refine pCond_if (fun hc => ?_) (fun hc => ?_)
  · have hkl : k < ls.length := by omega
    have h15 := getD_le hle k
    have hwl := wordB_len ls k
    refine ⟨fun m H' => m = .bool (decide (∃ s, s < k + 1 ∧ Bx.length < ls.getD s 0 ∧ (wordB ls s).take Bx.length = Bx)) ∧ (¬ hit ls Bx k) ∧ H = H', ?_, ?_⟩
    · rintro _ _ _ ⟨rfl, hh, rfl⟩
      rw [pAdd_v, w64 (n := (k : Int) + 1) (by omega) (by omega)]
      refine ⟨⟨k + 1, rfl, by omega, rfl, fun s hs => ?_, rfl⟩, by show (_ : Int).toNat < (_ : Int).toNat; omega⟩
      by_cases he : s = k
      · subst he; exact hh
      · exact hno s (by omega)
    have hmm : ∀ {p : Prop}, (p ↔ (Bx.length < ls.getD k 0 ∧ (wordB ls k).take Bx.length = Bx)) → ((∃ s, s < k + 1 ∧ Bx.length < ls.getD s 0 ∧ (wordB ls s).take Bx.length = Bx) ↔ ((∃ s, s < k ∧ Bx.length < ls.getD s 0 ∧ (wordB ls s).take Bx.length = Bx) ∨ p)) := by
      intro p hp
      constructor
      · rintro ⟨s, g1, g2⟩
        by_cases he : s = k
        · subst he; exact .inr (hp.2 g2)
        · exact .inl ⟨s, by omega, g2⟩
      · rintro (⟨s, g1, g2⟩ | g)
        · exact ⟨s, by omega, g2⟩
        · exact ⟨k, by omega, hp.1 g⟩
    refine hs.at_ hvl (by decide) (by omega) (by omega) fun p hp => ?_
    refine hp.load hs (w := str (textB (wordB ls k))) (by rw [Int.toNat_natCast, Nat.mul_one]; unfold txtsV wordsT; rw [List.getElem?_map, List.getElem?_map, List.getElem?_range hkl]; rfl) ?_
    refine pEq1_to ?_
    refine pCond_if (fun he => ?_) (fun he => ?_)
    · have h0 : ls.getD k 0 = 0 := by
        have := congrArg List.length he
        rw [textB_len, hwl] at this
        exact this
      refine ⟨?_, fun hh => by have := hh.2.1; omega, rfl⟩
      congr 1
      rw [Bool.eq_iff_iff, decide_eq_true_eq, decide_eq_true_eq, hmm (p := False) ⟨False.elim, fun g => by omega⟩, or_false]
    have hn0 : 1 ≤ ls.getD k 0 := by
      rcases Nat.eq_zero_or_pos (ls.getD k 0) with g | g
      · exfalso
        have : wordB ls k = [] := List.length_eq_zero_iff.1 (by rw [hwl]; exact g)
        rw [this] at he
        exact he rfl
      · exact g
    refine pLenS_to ?_
    refine pLenS_to ?_
    rw [textB_len, textB_len, hwl, pLe_v]
    refine pAnd_split (fun hf => ?_) (fun ht => ?_)
    · intro _
      rw [pCond_false]
      rw [decide_eq_false_iff_not] at hf
      have hnh : ¬ hit ls Bx k := fun hh => by have := hit_len hh; omega
      refine pLenS_to ?_
      refine pLenS_to ?_
      rw [textB_len, textB_len, hwl, pGt_v, decide_eq_true (by omega)]
      refine pAnd_true ?_
      refine pLenS_to ?_
      rw [textB_len]
      refine pSlStr01_to (by rw [textB_len, hwl]; omega) ?_
      refine pEq1_to ?_
      rw [textB_take, eqT]
      intro _
      refine pCond_if (fun hm => ?_) (fun hm => ?_)
      · refine ⟨?_, hnh, rfl⟩
        congr 1
        symm
        rw [decide_eq_true_eq]
        exact ⟨k, by omega, by omega, hm⟩
      · refine ⟨?_, hnh, rfl⟩
        congr 1
        rw [Bool.eq_iff_iff, decide_eq_true_eq, decide_eq_true_eq, hmm (p := False) ⟨False.elim, fun g => hm g.2⟩, or_false]
    · rw [decide_eq_true_eq] at ht
      refine pLenS_to ?_
      rw [textB_len, hwl]
      refine pSlStr01_to (by rw [textB_len]; omega) ?_
      refine pEq1_to ?_
      rw [textB_take, eqT]
      intro _
      refine pCond_if (fun hm => ?_) (fun hm => ?_)
      · exact h1 k ⟨hkl, hn0, hm⟩
      · have hnh : ¬ hit ls Bx k := fun hh => hm hh.2.2
        refine pLenS_to ?_
        refine pLenS_to ?_
        rw [textB_len, textB_len, hwl, pGt_v, decide_eq_false (by omega), pAnd_false]
        intro _
        rw [pCond_false]
        refine ⟨?_, hnh, rfl⟩
        congr 1
        rw [Bool.eq_iff_iff, decide_eq_true_eq, decide_eq_true_eq, hmm (p := False) ⟨False.elim, fun g => by omega⟩, or_false]
  · have hkl : k = ls.length := by omega
    subst hkl
    have hh := h2 fun s hs => hno s hs.1 hs
    by_cases hm : more ls Bx
    · rw [if_pos hm] at hh
      obtain ⟨s, g1, g2, g3⟩ := hm
      rw [decide_eq_true ⟨s, g1, g2, g3⟩, pCond_true]
      exact hh
    · rw [if_neg hm] at hh
      rw [decide_eq_false (fun g => hm (by obtain ⟨s, g1, g2, g3⟩ := g; exact ⟨s, g1, g2, g3⟩)), pCond_false]
      exact hh
end Go.Proofs.YtpnkoniomalcpaaDoor
