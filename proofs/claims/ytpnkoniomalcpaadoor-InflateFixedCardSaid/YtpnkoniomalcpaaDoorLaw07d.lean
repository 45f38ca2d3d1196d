/- The law InflateFixed over heaps. -/
import Derived.Test.YtpnkoniomalcpaaDoorLaw07
import Derived.Test.YtpnkoniomalcpaaDoorInfS
import Derived.Test.YtpnkoniomalcpaaDoorWrT
import Derived.Test.YtpnkoniomalcpaaDoorLaw05b
import Derived.Test.YtpnkoniomalcpaaDoorLaw05c
namespace Go.Proofs.YtpnkoniomalcpaaDoor
open Go Go.Vc Go.Proofs
set_option linter.unusedVariables false
set_option linter.unusedSimpArgs false
variable {H H0 : Heap} {R : Value → Heap → Prop} {L : List It} {b : Nat} {B : List Bool}
/-! ### tokens as bits -/
theorem needM_bits {v k : Nat} {C : List Bool} (h : v < 2 ^ k) : needM k (bitsN v k ++ C) = .ok v C := by
  unfold needM
  have hl := bitsN_len v k
  rw [if_pos (by rw [List.length_append, hl]; omega)]
  conv => lhs; rw [← hl, List.take_append_of_le_length (by rw [hl, hl]; exact Nat.le_refl _), List.drop_append_of_le_length (by rw [hl, hl]; exact Nat.le_refl _)]
  rw [hl, List.take_of_length_le (by rw [hl]; exact Nat.le_refl _), List.drop_of_length_le (by rw [hl]; exact Nat.le_refl _), numB_bitsN, Nat.mod_eq_of_lt h, List.nil_append]
def lenS (n : Nat) : Nat := 257 + lastI lenOf 257 n 29
def dstS (d : Nat) : Nat := lastI distOf 0 d 30
def lenB (n : Nat) : List Bool := fixWord (lenS n) ++ bitsN (n - (lenOf (lenS n)).1.toNat) (lenOf (lenS n)).2.toNat
def dstB (d : Nat) : List Bool := hbits (dstS d) 5 ++ bitsN (d - (distOf (dstS d)).1.toNat) (distOf (dstS d)).2.toNat
theorem lenS_facts {n : Nat} (h0 : 3 ≤ n) (h1 : n ≤ 258) : 257 ≤ lenS n ∧ lenS n ≤ 285 ∧ 0 ≤ (lenOf (lenS n)).1 ∧ (lenOf (lenS n)).1.toNat ≤ n ∧ n - (lenOf (lenS n)).1.toNat < 2 ^ (lenOf (lenS n)).2.toNat ∧ 0 ≤ (lenOf (lenS n)).2 ∧ (lenOf (lenS n)).2.toNat ≤ 5 := by
  have hs : symL (n : Int) = (lenS n : Int) := by
    have := lastI_find lenOf 257 (n : Int) (by rw [show (lenOf 257).1 = 3 by decide +kernel]; omega) 28
    unfold symL lenS
    rw [show (285 : Int) = 257 + ((28 : Nat) : Int) from rfl, this]
    show (257 : Int) + ((lastI lenOf 257 (n : Int) 29 : Nat) : Int) = ((257 + lastI lenOf 257 (n : Int) 29 : Nat) : Int)
    generalize lastI lenOf 257 (n : Int) 29 = m
    omega
  have f := symL_facts (n := (n : Int)) (by omega) (by omega)
  rw [hs] at f
  obtain ⟨f1, f2, f3, f4, f5, f6⟩ := f
  have g := lens_facts ⟨lenS n - 257, by omega⟩
  have es : (257 : Int) + ((lenS n - 257 : Nat) : Int) = (lenS n : Int) := by omega
  dsimp only at g
  rw [es] at g
  obtain ⟨g1, g2, g3, g4⟩ := g
  have hp : ((2 ^ (lenOf (lenS n)).2.toNat : Nat) : Int) = 2 ^ (lenOf (lenS n)).2.toNat := by push_cast; rfl
  rw [← hp] at f4
  exact ⟨by omega, by omega, by omega, by omega, by omega, f5, by omega⟩
theorem dstS_facts {d : Nat} (h0 : 1 ≤ d) (h1 : d ≤ 32768) : dstS d ≤ 29 ∧ 0 ≤ (distOf (dstS d)).1 ∧ (distOf (dstS d)).1.toNat ≤ d ∧ d - (distOf (dstS d)).1.toNat < 2 ^ (distOf (dstS d)).2.toNat ∧ 0 ≤ (distOf (dstS d)).2 ∧ (distOf (dstS d)).2.toNat ≤ 13 := by
  have hs : symD (d : Int) = (dstS d : Int) := by
    have := lastI_find distOf 0 (d : Int) (by rw [show (distOf 0).1 = 1 by decide +kernel]; omega) 29
    unfold symD dstS
    have e : (29 : Int) = 0 + ((29 : Nat) : Int) := rfl
    show findF distOf (d : Int) 29 (0 + ((29 : Nat) : Int)) = _
    rw [this]
    show (0 : Int) + ((lastI distOf 0 (d : Int) 30 : Nat) : Int) = ((lastI distOf 0 (d : Int) 30 : Nat) : Int)
    generalize lastI distOf 0 (d : Int) 30 = m
    omega
  have f := symD_facts (n := (d : Int)) (by omega) (by omega)
  rw [hs] at f
  obtain ⟨f1, f2, f3, f4, f5, f6⟩ := f
  have g := dists_facts ⟨dstS d, by omega⟩
  dsimp only at g
  obtain ⟨g1, g2, g3, g4⟩ := g
  have hp : ((2 ^ (distOf (dstS d)).2.toNat : Nat) : Int) = 2 ^ (distOf (dstS d)).2.toNat := by push_cast; rfl
  rw [← hp] at f4
  exact ⟨by omega, by omega, by omega, by omega, f5, by omega⟩
def tokB (t : Tok) : List Bool := if t.n = 0 then fixWord t.b.toNat else lenB t.n.toNat ++ dstB t.d.toNat
def tokW (t : Tok) (W : List UInt8) : List UInt8 := copyN t.n.toNat (if t.n = 0 then W ++ [t.b] else W) t.d.toNat
theorem steps_tok {t : Tok} {W : List UInt8} {C : List Bool} {l : Bool} (hg : goodK t = true) (hd : t.d ≤ (W.length : Int)) : ∃ o, Steps ⟨.tl fixL fixD l, tokB t ++ C, W⟩ o ⟨.tl fixL fixD l, C, tokW t W⟩ := by
  unfold tokB tokW
  by_cases h0 : t.n = 0
  · rw [if_pos h0, if_pos h0, h0]
    have hx := t.b.toNat_lt
    exact ⟨_, Steps.one (step_lit (x := t.b) (next_fix (by omega)))⟩
  · rw [if_neg h0, if_neg h0]
    rcases goodK_facts hg with ⟨h, _⟩ | ⟨h1, h2, h3, h4⟩
    · exact absurd h h0
    obtain ⟨n, hn⟩ : ∃ n : Nat, t.n = n := ⟨t.n.toNat, by omega⟩
    obtain ⟨d, hdd⟩ : ∃ d : Nat, t.d = d := ⟨t.d.toNat, by omega⟩
    rw [hn, hdd, Int.toNat_natCast, Int.toNat_natCast]
    rw [hn] at h1 h2
    rw [hdd] at h3 h4 hd
    obtain ⟨f1, f2, f3, f4, f5, f6, f7⟩ := lenS_facts (n := n) (by omega) (by omega)
    obtain ⟨g1, g2, g3, g4, g5, g6⟩ := dstS_facts (d := d) (by omega) (by omega)
    have hnx : nextM fixL (lenB n ++ dstB d ++ C) = .ok (lenS n) (bitsN (n - (lenOf (lenS n)).1.toNat) (lenOf (lenS n)).2.toNat ++ (dstB d ++ C)) := by
      unfold lenB
      rw [List.append_assoc, List.append_assoc, next_fix (by omega)]
    have hm : matchM fixD (lenS n) (bitsN (n - (lenOf (lenS n)).1.toNat) (lenOf (lenS n)).2.toNat ++ (dstB d ++ C)) = .ok (n, d) C := by
      unfold matchM
      rw [if_neg (by omega), needM_bits f5]
      dsimp only [Rs.bind]
      unfold dstB
      rw [List.append_assoc, next_fixd (by omega)]
      dsimp only
      rw [if_neg (by omega), needM_bits g4]
      dsimp only
      rw [Nat.add_sub_cancel' f4, Nat.add_sub_cancel' g3]
    refine ⟨(copyN n W d).drop W.length, Steps.one ?_⟩
    rw [step_tl hnx, if_neg (by omega), if_neg (by omega), hm]
    dsimp only
    rw [if_pos (by omega)]
theorem expandF_snoc {t : Tok} (hg : goodK t = true) : ∀ (G : List Tok) (b W : List UInt8), expandF G b = some W → t.d ≤ (W.length : Int) → expandF (G ++ [t]) b = some (tokW t W)
  | [], b, W, h, hd => by
    cases h
    rw [List.nil_append, expandF, if_pos ⟨hg, hd⟩]; rfl
  | u :: G, b, W, h, hd => by
    rw [List.cons_append, expandF] at *
    split at h
    · rename_i hu
      rw [if_pos hu]
      exact expandF_snoc hg G _ W h hd
    · cases h
theorem tokW_len {t : Tok} {W : List UInt8} (hg : goodK t = true) : ((tokW t W).length : Int) = W.length + max t.n 1 ∧ (tokW t W).length ≤ W.length + 258 := by
  unfold tokW
  rw [copyN_len]
  rcases goodK_facts hg with ⟨h, _⟩ | ⟨h1, h2, h3, h4⟩
  · rw [if_pos h, h, List.length_append, List.length_singleton]
    exact ⟨by simp; omega, by simp⟩
  · rw [if_neg (by omega)]
    omega
theorem hbits_len (v n : Nat) : (hbits v n).length = n := by simp [hbits]
theorem fixWord_len {s : Nat} : (fixWord s).length ≤ 9 := by
  unfold fixWord
  split
  · rw [hbits_len]; decide
  split
  · rw [hbits_len]; decide
  split <;> rw [hbits_len] <;> decide
theorem tokB_len {t : Tok} (hg : goodK t = true) : (tokB t).length ≤ 40 := by
  unfold tokB
  split
  · have := fixWord_len (s := t.b.toNat); omega
  · rename_i h0
    rcases goodK_facts hg with ⟨h, _⟩ | ⟨h1, h2, h3, h4⟩
    · exact absurd h h0
    obtain ⟨f1, f2, f3, f4, f5, f6, f7⟩ := lenS_facts (n := t.n.toNat) (by omega) (by omega)
    obtain ⟨g1, g2, g3, g4, g5, g6⟩ := dstS_facts (d := t.d.toNat) (by omega) (by omega)
    unfold lenB dstB
    have := fixWord_len (s := lenS t.n.toNat)
    simp only [List.length_append, bitsN_len, hbits_len]
    omega
/-! ### they are written -/
theorem wbits {v : Nat} {k : Nat} {dv : Value} (hv : v < 18446744073709551616) (hk : k ≤ 32) (hbig : B.length ≤ 100000) (o : Owns H0 H (.thing (wrT b dv B) :: L)) (h : ∀ H' dv', Owns H0 H' (.thing (wrT b dv' (B ++ bitsN v k)) :: L) → R (.tuple #[]) H') : CallsH Tryd.prog 16 #[at_ b 0, .int .u64 (v : Int), .int .i64 (k : Int)] H R := by
  by_cases h0 : 1 ≤ k
  · exact wWrite_spec hv h0 hk (wr_at o (by repeat (first | exact List.mem_cons_self | apply List.mem_cons_of_mem))) (by omega) fun H1 dv1 w c => h H1 dv1 (owns_wr o w c Rep.here)
  · have : k = 0 := by omega
    subst this
    exact wWrite_no (by omega) (h H dv (by rw [bitsN_zero, List.append_nil]; exact o))
theorem bitsN_one (v : Nat) : bitsN v 1 = [v.testBit 0] := rfl
theorem high_spec {v n : Nat} {dv : Value} (hv : v < 1000000) (hn : n ≤ 20) (hbig : B.length ≤ 90000) (o : Owns H0 H (.thing (wrT b dv B) :: L)) (h : ∀ H' dv', Owns H0 H' (.thing (wrT b dv' (B ++ hbits v n)) :: L) → R (.tuple #[]) H') : CallsH Tryd.prog 22 #[at_ b 0, .int .i64 (v : Int), .int .i64 (n : Int)] H R := by
  refine lighterlaw07_high.vc _ _ _ _ _ ?_
  unfold lighterlaw07_high.res
  rw [pSub_v, w64 (by omega) (by omega)]
  refine ⟨fun u H' => ∃ (m : Nat) (dv : Value), m ≤ n ∧ u = .int .i64 ((m : Int) - 1) ∧ Owns H0 H' (.thing (wrT b dv (B ++ (hbits v n).take (n - m))) :: L), fun u _ => match u with | .int _ i => (i + 1).toNat | _ => 0, ⟨n, dv, Nat.le_refl _, rfl, by rw [Nat.sub_self, List.take_zero, List.append_nil]; exact o⟩, ?_⟩
  rintro _ _ H1 ⟨m, dv, hm, rfl, o⟩
  rw [pGe_v]
  refine pCond_if (fun hc => ?_) (fun hc => ?_)
  · obtain ⟨j, rfl⟩ : ∃ j, m = j + 1 := ⟨m - 1, by omega⟩
    rw [show ((j + 1 : Nat) : Int) - 1 = (j : Int) by omega, pShr_v]
    refine ⟨by omega, ?_⟩
    rw [shr_int (k := .i64) (by show j ≤ 64; omega)]
    have hle : v / 2 ^ j ≤ v := Nat.div_le_self _ _
    have hbit : (v / 2 ^ j).testBit 0 = v.testBit j := by rw [Nat.testBit_div_two_pow, Nat.zero_add]
    generalize v / 2 ^ j = z at *
    refine pConv_to ?_
    rw [wu64 (by omega) (by omega)]
    refine wbits (v := z) (k := 1) (by omega) (by decide) (by rw [List.length_append, List.length_take, hbits_len]; omega) o fun H2 dv2 o => ?_
    rw [pSub_v, w64 (by omega) (by omega)]
    refine ⟨⟨j, dv2, by omega, rfl, ?_⟩, by show (_ : Int).toNat < (_ : Int).toNat; omega⟩
    have e : (hbits v n).take (n - j) = (hbits v n).take (n - (j + 1)) ++ [v.testBit j] := by
      rw [show n - j = (n - (j + 1)) + 1 by omega, List.take_add_one]
      congr 1
      unfold hbits
      rw [List.getElem?_map, List.getElem?_range (by omega)]
      show [v.testBit (n - 1 - (n - (j + 1)))] = _
      rw [show n - 1 - (n - (j + 1)) = j by omega]
    rw [e, ← List.append_assoc, ← hbit, ← bitsN_one]
    exact o
  · have : m = 0 := by omega
    subst this
    rw [Nat.sub_zero, List.take_of_length_le (by rw [hbits_len]; exact Nat.le_refl _)] at o
    exact h H1 dv o
theorem symbol_spec {s : Nat} {dv : Value} (hs : s < 288) (hbig : B.length ≤ 90000) (o : Owns H0 H (.thing (wrT b dv B) :: L)) (h : ∀ H' dv', Owns H0 H' (.thing (wrT b dv' (B ++ fixWord s)) :: L) → R (.tuple #[]) H') : CallsH Tryd.prog 18 #[at_ b 0, .int .i64 (s : Int)] H R := by
  refine lighterlaw07_symbol.vc _ _ _ _ ?_
  unfold lighterlaw07_symbol.res
  unfold fixWord at h
  rw [pLt_v]
  refine pCond_if (fun hc => ?_) (fun hc => ?_)
  · rw [if_pos (by omega)] at h
    rw [pAdd_v, show (48 : Int) + (s : Int) = ((48 + s : Nat) : Int) by omega, w64 (by omega) (by omega)]
    exact high_spec (n := 8) (by omega) (by decide) hbig o h
  rw [if_neg (by omega)] at h
  rw [pLt_v]
  refine pCond_if (fun hc2 => ?_) (fun hc2 => ?_)
  · rw [if_pos (by omega)] at h
    rw [pAdd_v, w64 (by omega) (by omega), pSub_v, show (400 : Int) + (s : Int) - 144 = ((400 + s - 144 : Nat) : Int) by omega, w64 (by omega) (by omega)]
    exact high_spec (n := 9) (by omega) (by decide) hbig o h
  rw [if_neg (by omega)] at h
  rw [pLt_v]
  refine pCond_if (fun hc3 => ?_) (fun hc3 => ?_)
  · rw [if_pos (by omega)] at h
    rw [pSub_v, show (s : Int) - 256 = ((s - 256 : Nat) : Int) by omega, w64 (by omega) (by omega)]
    exact high_spec (n := 7) (by omega) (by decide) hbig o h
  · rw [if_neg (by omega)] at h
    rw [pAdd_v, w64 (by omega) (by omega), pSub_v, show (192 : Int) + (s : Int) - 280 = ((192 + s - 280 : Nat) : Int) by omega, w64 (by omega) (by omega)]
    exact high_spec (n := 8) (by omega) (by decide) hbig o h
/-- a row of a table is found, in whatever order Go takes -/
theorem region3 {F : Nat} {g : Int → Int × Int} {base zn : Int} {N : Nat} {x63 : Value} {K : Value → Heap → Prop} (hN : 0 < N) (hN2 : N ≤ 100) (hF : ∀ (H : Heap) (R : Value → Heap → Prop), (∀ H' v, Sl H' v 3 (tab g base N) → Ext H H' → R v H') → CallsH Tryd.prog F #[] H R)
    (o : Owns H0 H L) (hld : ∀ H' (K : Value → Prop), Ext H H' → K (.int .i64 zn) → pLoad H' x63 K)
    (hk : ∀ c H', Owns H0 H' (.box c (rowT g base (lastI g base zn N)) 50 :: L) → K (.pointer (some ⟨c, 0, none⟩)) H') :
    (CallsH Tryd.prog F #[] H fun x62 H_38 =>
    (pLoad H_38 x63 fun r_ => r_ = .int .i64 zn) ∧
    (CallsH Tryd.prog 19 #[x62, .int .i64 zn] H_38 fun x65 H_39 =>
    pBox H_39 50 (.agg #[(.int .i64 0), (.int .i64 0), (.int .i64 0)]) fun x10 H_40 =>
    (pLoad H_40 x63 fun r_ => r_ = .int .i64 zn) ∧
    pStoreN H_40 3 x10 x65 fun _ H_41 => K x10 H_41) ∧
    (pBox H_38 50 (.agg #[(.int .i64 0), (.int .i64 0), (.int .i64 0)]) fun x10 H_42 =>
    (pLoad H_42 x63 fun r_ => r_ = .int .i64 zn) ∧
    CallsH Tryd.prog 19 #[x62, .int .i64 zn] H_42 fun x65 H_43 =>
    pStoreN H_43 3 x10 x65 fun _ H_44 => K x10 H_44)) ∧
    (pBox H 50 (.agg #[(.int .i64 0), (.int .i64 0), (.int .i64 0)]) fun x10 H_45 =>
    (pLoad H_45 x63 fun r_ => r_ = .int .i64 zn) ∧
    CallsH Tryd.prog F #[] H_45 fun x62 H_46 =>
    (pLoad H_46 x63 fun r_ => r_ = .int .i64 zn) ∧
    CallsH Tryd.prog 19 #[x62, .int .i64 zn] H_46 fun x65 H_47 =>
    pStoreN H_47 3 x10 x65 fun _ H_48 => K x10 H_48) := by
  have fin : ∀ {c : Nat} {H1 : Heap}, Owns H H1 [.box c [.int .i64 0, .int .i64 0, .int .i64 0] 50 ] → pStoreN H1 3 (.pointer (some ⟨c, 0, none⟩)) (.agg (rowT g base (lastI g base zn N)).toArray) fun _ H2 => K (.pointer (some ⟨c, 0, none⟩)) H2 := by
    intro c H1 oc
    refine oc.bstoreN (b := c) (vs := rowT g base (lastI g base zn N)) (by repeat (first | exact List.mem_cons_self | apply List.mem_cons_of_mem)) rfl rfl rfl (by repeat (first | exact Rep.here | apply Rep.there)) fun H2 oc _ => ?_
    exact hk c H2 (o.call oc)
  refine ⟨?_, ?_⟩
  · refine hF _ _ fun H1 v hs hx => ?_
    refine ⟨hld H1 _ hx rfl, ?_, ?_⟩
    · refine refFind_spec hs hN hN2 fun H2 hx2 => ?_
      refine ((Owns.start (H := H)).more (hx.trans hx2)).box fun c H3 oc _ => ?_
      exact ⟨hld H3 _ oc.ext rfl, fin oc⟩
    · refine pBox_ext fun H2 s2 e2 b2 => ?_
      have oc := ((Owns.start (H := H)).more hx).add (i := .box H1.size [.int .i64 0, .int .i64 0, .int .i64 0] 50 ) e2 b2 (fun k hk => by simp only [It.foot] at hk; omega)
      refine ⟨hld H2 _ oc.ext rfl, ?_⟩
      refine refFind_spec (hs.ext e2) hN hN2 fun H3 hx3 => ?_
      exact fin (oc.more hx3)
  · refine (Owns.start (H := H)).box fun c H1 oc _ => ?_
    refine ⟨hld H1 _ oc.ext rfl, ?_⟩
    refine hF _ _ fun H2 v hs hx => ?_
    refine ⟨hld H2 _ (oc.ext.trans hx) rfl, ?_⟩
    refine refFind_spec hs hN hN2 fun H3 hx3 => ?_
    exact fin (oc.more (hx.trans hx3))
theorem Steps.W {D D' : DM} {o : List UInt8} (h : Steps D o D') (hl : leftOk D.st) : D'.W = D.W ++ o ∧ leftOk D'.st := by
  induction h with
  | refl => exact ⟨by simp, hl⟩
  | step hs _ ih =>
    have hi := step_inv hl (.inl hs)
    have := ih hi.2.2
    exact ⟨by rw [this.1, hi.1, List.append_assoc], this.2⟩
/-- what has been written of a block so far -/
structure Wrote (G : List Tok) (W : List UInt8) (X : List Bool) : Prop where
  exp : expandF G [] = some W
  runs : ∀ C, ∃ o, Steps ⟨.tl fixL fixD true, X ++ C, []⟩ o ⟨.tl fixL fixD true, C, W⟩
  fits : ∀ t ∈ G, t.fits
theorem Wrote.snoc {G : List Tok} {W : List UInt8} {X : List Bool} {t : Tok} (w : Wrote G W X) (hg : goodK t = true) (hf : t.fits) (hd : t.d ≤ (W.length : Int)) : Wrote (G ++ [t]) (tokW t W) (X ++ tokB t) :=
  ⟨expandF_snoc hg G [] W w.exp hd, fun C => by
    obtain ⟨o1, h1⟩ := w.runs (tokB t ++ C)
    obtain ⟨o2, h2⟩ := steps_tok (t := t) (W := W) (C := C) (l := true) hg hd
    exact ⟨o1 ++ o2, by rw [List.append_assoc]; exact h1.trans h2⟩, fun u hu => by
    rcases List.mem_append.1 hu with h | h
    · exact w.fits u h
    · rw [List.mem_singleton.1 h]; exact hf⟩
theorem run_fix {G : List Tok} {W : List UInt8} {X r : List Bool} (w : Wrote G W X) (hr : r.length < 8) : run ⟨.hd, true :: true :: false :: (X ++ (fixWord 256 ++ r)), []⟩ = (W, ⟨.dn, [], W⟩, 0) := by
  obtain ⟨o, h⟩ := w.runs (fixWord 256 ++ r)
  have s1 := step_fixed (l := true) (C := X ++ (fixWord 256 ++ r)) (W := [])
  have s2 := step_end (l := true) (W := W) (zs := fixL) (zd := fixD) (next_fix (s := 256) (C := r) (by decide))
  have hall := Steps.step s1 (h.trans (Steps.one s2))
  have hal : alB r = [] := by unfold alB; rw [Nat.mod_eq_of_lt hr, List.drop_length]
  have hw := (Steps.W hall trivial).1
  have he : endM true r W = ⟨.dn, [], W⟩ := by unfold endM; rw [hal]; rfl
  rw [he] at hall hw
  have := hall.fin rfl
  rw [this]
  have hw : W = [] ++ ([] ++ (o ++ [])) := hw
  simp only [List.nil_append, List.append_nil] at hw ⊢
  rw [← hw]
theorem InflateFixed_law (a : Option Addr) (len cap : Nat) (piece : Int) (hG : Reads H ⟨0, 0, none⟩ ordV) (w0 : StructRow [.int .u8, .int .i64, .int .i64] H a len cap) (w1 : (Lit.int .i64 piece).wf = true) : CallsH Tryd.prog 5 #[.slice a len cap, .int .i64 piece] H (LawOk H) := by
  have hmax : maxLen = 9223372036854775807 := rfl
  obtain ⟨LL, hLl, hlm, hL1, hL2, hS⟩ := w0.rows (by decide)
  obtain ⟨T, hT1, hT2, hT3⟩ := toks_of LL hL1 hL2
  have hS : Sl H (.slice a len cap) 3 (toksL T) := by rw [hT2]; exact hS
  have hTl : T.length = len := hT1.trans hLl
  refine lighterlaw07_InflateFixed.vc _ _ _ _ ?_
  unfold lighterlaw07_InflateFixed.res
  refine speaks07 hG fun H1 hx1 => ?_
  rw [pNot_v, Bool.not_true, pCond_false]
  refine (Owns.start (H := H1)).box fun b H2 o _ => ?_
  have o := wr_new o
  refine wbits (v := 3) (k := 3) (by decide) (by decide) (by simp) o fun H3 dv o => ?_
  rw [List.nil_append] at o
  refine ⟨fun gv hv u H' => ∃ (i : Nat) (G : List Tok) (W : List UInt8) (X : List Bool) (dv : Value), u = .int .i64 (i : Int) ∧ i ≤ len ∧ i ≤ 60 ∧ hv = .int .i64 (W.length : Int) ∧ Wrote G W X ∧ G.length ≤ i ∧ W.length ≤ 258 * i ∧ X.length ≤ 40 * i ∧ Owns H1 H' [.thing (wrT b dv (bitsN 3 3 ++ X)), .sl gv 3 (toksL G)], fun _ _ u _ => match u with | .int _ i => (len - i).toNat | _ => 0,
    ⟨0, [], [], [], dv, rfl, by omega, by omega, rfl, ⟨rfl, fun C => ⟨_, Steps.refl⟩, by simp⟩, by simp, by simp, by simp, ?_⟩, ?_⟩
  · rw [List.append_nil]
    exact (o.add (Ext.refl _) (i := .sl (.slice none 0 0) 3 []) ⟨by decide, .inl ⟨rfl, rfl⟩⟩ (by intro k hk; exact absurd hk (by simp [It.foot, blkOf]))).swap
  rintro _ gv _ _ H4 ⟨i, G, W, X, dv, rfl, hi, hi60, rfl, wr, hGl, hWl, hXl, o⟩
  have hS4 := hS.ext (hx1.trans o.ext)
  have hbl : (bitsN 3 3 ++ X).length ≤ 3000 := by rw [List.length_append, bitsN_len]; omega
  refine hS4.len (n := len) (by rw [toksL_len, hTl]) (by decide) ?_
  rw [pLt_v]
  refine pAnd_if (d := decide ((i : Int) < 60)) (fun _ => ?_) ?_
  · rw [pLt_v]; exact ⟨rfl, rfl⟩
  intro _
  refine pCond_b (fun hc => ?_) (fun hc => ?_)
  · rw [Bool.and_eq_true, decide_eq_true_eq, decide_eq_true_eq] at hc
    have hil : i < T.length := by omega
    obtain ⟨t, ht⟩ : ∃ t, T[i]? = some t := ⟨T[i], List.getElem?_eq_getElem hil⟩
    have hft := hT3 t (List.mem_of_getElem? ht)
    refine ⟨fun gv' hv' H' => ∃ (G : List Tok) (W : List UInt8) (X : List Bool) (dv : Value), hv' = .int .i64 (W.length : Int) ∧ Wrote G W X ∧ G.length ≤ i + 1 ∧ W.length ≤ 258 * (i + 1) ∧ X.length ≤ 40 * (i + 1) ∧ Owns H1 H' [.thing (wrT b dv (bitsN 3 3 ++ X)), .sl gv' 3 (toksL G)], ?_, ?_⟩
    · rintro _ gv' _ H5 ⟨G, W, X, dv, rfl, wr, h1, h2, h3, o⟩
      rw [pAdd_v, w64 (by omega) (by omega)]
      exact ⟨⟨i + 1, G, W, X, dv, rfl, by omega, by omega, rfl, wr, h1, h2, h3, o⟩, by show (_ : Int).toNat < (_ : Int).toNat; omega⟩
    refine hS4.at_ (n := len) (by rw [toksL_len, hTl]) (by decide) (by omega) (by omega) fun p hp => ?_
    refine hp.loadN hS4 (ws := t.cells) (by rw [Int.toNat_natCast]; exact toksL_at T i t ht) rfl ?_
    refine o.box fun c H5 o hcn => ?_
    change Owns H1 H5 [.box c [.int .u8 0, .int .i64 0, .int .i64 0] _, _, _] at o
    refine o.bstoreN (b := c) (vs := t.cells) (by repeat (first | exact List.mem_cons_self | apply List.mem_cons_of_mem)) rfl rfl rfl (by repeat (first | exact Rep.here | apply Rep.there)) fun H6 o _ => ?_
    refine o.bloadN (b := c) (by repeat (first | exact List.mem_cons_self | apply List.mem_cons_of_mem)) rfl ?_
    refine refTokGood_spec fun H7 hx7 => ?_
    have o := o.more hx7
    rw [pNot_v]
    refine pOr_if (d := decide ((W.length : Int) < t.d)) (fun _ => ?_) ?_
    · rw [pFieldAddr_v, add_mk]
      refine o.bload (b := c) (f := 0 + 2) (by repeat (first | exact List.mem_cons_self | apply List.mem_cons_of_mem)) rfl ?_
      rw [pGt_v]; exact ⟨rfl, rfl⟩
    intro _
    refine pCond_b (fun hb => ?_) (fun hb => ?_)
    · exact ⟨G, W, X, dv, rfl, wr, by omega, by omega, by omega, o.pick (List.sublist_cons_self _ _)⟩
    rw [Bool.or_eq_false_iff, Bool.not_eq_false', decide_eq_false_iff_not] at hb
    obtain ⟨hg, hd⟩ := hb
    have hd : t.d ≤ (W.length : Int) := by omega
    have wr2 := wr.snoc hg hft hd
    have htl := tokW_len (W := W) hg
    have htb := tokB_len hg
    refine o.bloadN (b := c) (by repeat (first | exact List.mem_cons_self | apply List.mem_cons_of_mem)) rfl ?_
    refine o.build1 (sz := 3) (x := t.v) (by decide) rfl rfl fun y H8 o => ?_
    have hSy := o.sl (v := y) (by repeat (first | exact List.mem_cons_self | apply List.mem_cons_of_mem))
    refine o.append (sz := 3) (v := gv) (x := y) (n := G.length) (m := 1) (by repeat (first | exact Sel.here | apply Sel.there)) rfl hSy (toksL_len G) rfl rfl (by omega) fun gv2 H9 o => ?_
    have e1 : toksL G ++ t.v.cells.toList = toksL (G ++ [t]) := by unfold toksL; rw [List.flatMap_append]; simp; rfl
    rw [e1] at o
    have hcells : [byteV t.b, Value.int .i64 t.n, Value.int .i64 t.d] = t.cells := rfl
    rw [pFieldAddr_v, add_mk]
    refine o.bload (b := c) (f := 0 + 1) (by repeat (first | exact List.mem_cons_self | apply List.mem_cons_of_mem)) rfl ?_
    rw [pMax_v, pAdd_v, show (W.length : Int) + max t.n 1 = ((tokW t W).length : Int) by omega, w64 (by omega) (by omega), pFieldAddr_v, add_mk]
    refine o.bload (b := c) (f := 0 + 1) (by repeat (first | exact List.mem_cons_self | apply List.mem_cons_of_mem)) rfl ?_
    rw [pEq_0]
    have o9 : Owns H1 H9 (.thing (wrT b dv (bitsN 3 3 ++ X)) :: .sl gv2 3 (toksL (G ++ [t])) :: .box c t.cells 44 :: .sl y 3 t.v.cells.toList :: []) := o.arrT (by repeat (first | exact SelsT.refl | exact Sel.here | apply SelsT.cons | apply Sel.there))
    refine pCond_if (fun h0 => ?_) (fun h0 => ?_)
    · have hx := t.b.toNat_lt
      rw [pFieldAddr_v, add_mk]
      refine o9.bload (b := c) (f := 0 + 0) (by repeat (first | exact List.mem_cons_self | apply List.mem_cons_of_mem)) rfl ?_
      refine pConv_to ?_
      rw [w64 (by omega) (by omega)]
      refine symbol_spec (s := t.b.toNat) (by omega) (by omega) o9 fun H10 dv2 o => ?_
      have etb : tokB t = fixWord t.b.toNat := by unfold tokB; rw [if_pos h0]
      refine ⟨G ++ [t], tokW t W, X ++ tokB t, dv2, rfl, wr2, by rw [List.length_append, List.length_singleton]; omega, by omega, by rw [List.length_append]; omega, ?_⟩
      rw [← List.append_assoc, etb]
      exact o.pick (List.Sublist.cons_cons _ (List.Sublist.cons_cons _ (List.nil_sublist _)))
    · rcases goodK_facts hg with ⟨h, _⟩ | ⟨h1, h2, h3, h4⟩
      · exact absurd h h0
      obtain ⟨n, hn⟩ : ∃ n : Nat, t.n = n := ⟨t.n.toNat, by omega⟩
      obtain ⟨d, hdd⟩ : ∃ d : Nat, t.d = d := ⟨t.d.toNat, by omega⟩
      obtain ⟨f1, f2, f3, f4, f5, f6, f7⟩ := lenS_facts (n := n) (by omega) (by omega)
      obtain ⟨g1, g2, g3, g4, g5, g6⟩ := dstS_facts (d := d) (by omega) (by omega)
      have etb : tokB t = fixWord (lenS n) ++ (bitsN (n - (lenOf (lenS n)).1.toNat) (lenOf (lenS n)).2.toNat ++ (hbits (dstS d) 5 ++ bitsN (d - (distOf (dstS d)).1.toNat) (distOf (dstS d)).2.toNat)) := by
        unfold tokB
        rw [if_neg h0, hn, hdd, Int.toNat_natCast, Int.toNat_natCast]
        unfold lenB dstB
        rw [List.append_assoc]
      have hfl := fixWord_len (s := lenS n)
      have hrow1 : rowT lenOf 257 (lastI lenOf 257 t.n 29) = [.int .i64 (lenS n : Int), .int .i64 (lenOf (lenS n)).1, .int .i64 (lenOf (lenS n)).2] := by
        have e : (257 : Int) + ((lastI lenOf 257 (n : Int) 29 : Nat) : Int) = (lenS n : Int) := by unfold lenS; generalize lastI lenOf 257 (n : Int) 29 = m; omega
        rw [hn]; unfold rowT; rw [e]
      have hrow2 : rowT distOf 0 (lastI distOf 0 t.d 30) = [.int .i64 (dstS d : Int), .int .i64 (distOf (dstS d)).1, .int .i64 (distOf (dstS d)).2] := by
        have e : (0 : Int) + ((lastI distOf 0 (d : Int) 30 : Nat) : Int) = (dstS d : Int) := by unfold dstS; generalize lastI distOf 0 (d : Int) 30 = m; omega
        rw [hdd]; unfold rowT; rw [e]
      refine ⟨fun xv H' => ∃ (q : Nat) (tt : TypeId), xv = .pointer (some ⟨q, 0, none⟩) ∧ Owns H1 H' (.box q (rowT lenOf 257 (lastI lenOf 257 t.n 29)) tt :: .thing (wrT b dv (bitsN 3 3 ++ X)) :: .sl gv2 3 (toksL (G ++ [t])) :: .box c t.cells 44 :: .sl y 3 t.v.cells.toList :: []), ?_, ?_⟩
      · rintro _ _ H10 ⟨q, tt, rfl, o⟩
        rw [hrow1] at o
        rw [pFieldAddr_v, add_mk]
        refine o.bload (b := q) (f := 0 + 0) (by repeat (first | exact List.mem_cons_self | apply List.mem_cons_of_mem)) rfl ?_
        refine symbol_spec (s := lenS n) (by omega) (by omega) o.swap fun H11 dv2 o => ?_
        rw [pFieldAddr_v, add_mk]
        refine o.bload (b := c) (f := 0 + 1) (by repeat (first | exact List.mem_cons_self | apply List.mem_cons_of_mem)) rfl ?_
        rw [pFieldAddr_v, add_mk]
        refine o.bload (b := q) (f := 0 + 1) (by repeat (first | exact List.mem_cons_self | apply List.mem_cons_of_mem)) rfl ?_
        rw [pSub_v, hn, show (n : Int) - (lenOf (lenS n)).1 = ((n - (lenOf (lenS n)).1.toNat : Nat) : Int) by omega, w64 (by omega) (by omega)]
        refine pConv_to ?_
        rw [wu64 (by omega) (by omega), pFieldAddr_v, add_mk]
        refine o.bload (b := q) (f := 0 + 2) (by repeat (first | exact List.mem_cons_self | apply List.mem_cons_of_mem)) rfl ?_
        rw [show (lenOf (lenS n)).2 = (((lenOf (lenS n)).2.toNat : Nat) : Int) by omega]
        refine wbits (by omega) (by omega) (by simp only [List.length_append, bitsN_len]; omega) o fun H12 dv3 o => ?_
        refine ⟨fun yv H' => ∃ (r : Nat) (tt2 : TypeId), yv = .pointer (some ⟨r, 0, none⟩) ∧ Owns H1 H' (.box r (rowT distOf 0 (lastI distOf 0 t.d 30)) tt2 :: .thing (wrT b dv3 (bitsN 3 3 ++ X ++ fixWord (lenS n) ++ bitsN (n - (lenOf (lenS n)).1.toNat) (lenOf (lenS n)).2.toNat)) :: .sl gv2 3 (toksL (G ++ [t])) :: .box c t.cells 44 :: []), ?_, ?_⟩
        · rintro _ _ H13 ⟨r, tt2, rfl, o⟩
          rw [hrow2] at o
          rw [pFieldAddr_v, add_mk]
          refine o.bload (b := r) (f := 0 + 0) (by repeat (first | exact List.mem_cons_self | apply List.mem_cons_of_mem)) rfl ?_
          refine high_spec (v := dstS d) (n := 5) (by omega) (by decide) (by simp only [List.length_append, bitsN_len]; omega) o.swap fun H14 dv4 o => ?_
          rw [pFieldAddr_v, add_mk]
          refine o.bload (b := c) (f := 0 + 2) (by repeat (first | exact List.mem_cons_self | apply List.mem_cons_of_mem)) rfl ?_
          rw [pFieldAddr_v, add_mk]
          refine o.bload (b := r) (f := 0 + 1) (by repeat (first | exact List.mem_cons_self | apply List.mem_cons_of_mem)) rfl ?_
          rw [pSub_v, hdd, show (d : Int) - (distOf (dstS d)).1 = ((d - (distOf (dstS d)).1.toNat : Nat) : Int) by omega, w64 (by omega) (by omega)]
          refine pConv_to ?_
          rw [wu64 (by omega) (by omega), pFieldAddr_v, add_mk]
          refine o.bload (b := r) (f := 0 + 2) (by repeat (first | exact List.mem_cons_self | apply List.mem_cons_of_mem)) rfl ?_
          rw [show (distOf (dstS d)).2 = (((distOf (dstS d)).2.toNat : Nat) : Int) by omega]
          refine wbits (by omega) (by omega) (by simp only [List.length_append, bitsN_len, hbits_len]; omega) o fun H15 dv5 o => ?_
          refine ⟨G ++ [t], tokW t W, X ++ tokB t, dv5, rfl, wr2, by rw [List.length_append, List.length_singleton]; omega, by omega, by rw [List.length_append]; omega, ?_⟩
          rw [etb]
          simp only [List.append_assoc] at o ⊢
          exact o.pick (List.Sublist.cons_cons _ (List.Sublist.cons _ (List.Sublist.cons_cons _ (List.nil_sublist _))))
        · rw [pFieldAddr_v, add_mk]
          refine o.bload (b := c) (f := 0 + 2) (by repeat (first | exact List.mem_cons_self | apply List.mem_cons_of_mem)) rfl ?_
          have o12 : Owns H1 H12 (.thing (wrT b dv3 (bitsN 3 3 ++ X ++ fixWord (lenS n) ++ bitsN (n - (lenOf (lenS n)).1.toNat) (lenOf (lenS n)).2.toNat)) :: .sl gv2 3 (toksL (G ++ [t])) :: .box c t.cells 44 :: []) := o.arr (by repeat (first | exact Sels.nil | exact Sel.here | apply Sels.cons | apply Sel.there))
          refine region3 (g := distOf) (base := 0) (zn := t.d) (N := 30) (by decide) (by decide) (fun H R h => dists_spec h) o12 (fun H' K hx hK => ?_) fun r H' o' => ?_
          · exact (o12.more hx).bload (b := c) (f := 0 + 2) (by repeat (first | exact List.mem_cons_self | apply List.mem_cons_of_mem)) rfl hK
          · exact ⟨r, _, rfl, o'⟩
      · rw [pFieldAddr_v, add_mk]
        refine o9.bload (b := c) (f := 0 + 1) (by repeat (first | exact List.mem_cons_self | apply List.mem_cons_of_mem)) rfl ?_
        refine region3 (g := lenOf) (base := 257) (zn := t.n) (N := 29) (by decide) (by decide) (fun H R h => lengths_spec h) o9 (fun H' K hx hK => ?_) fun q H' o' => ?_
        · exact (o9.more hx).bload (b := c) (f := 0 + 1) (by repeat (first | exact List.mem_cons_self | apply List.mem_cons_of_mem)) rfl hK
        · exact ⟨q, _, rfl, o'⟩
  · refine symbol_spec (s := 256) (by decide) (by omega) o fun H5 dv5 o => ?_
    have hfl := fixWord_len (s := 256)
    have hbl2 : (bitsN 3 3 ++ X ++ fixWord 256).length ≤ 4000 := by rw [List.length_append]; omega
    refine wAlign_spec (wr_at o (by repeat (first | exact List.mem_cons_self | apply List.mem_cons_of_mem))) (by omega) fun H6 dv6 w c => ?_
    have o := owns_wr o w c Rep.here
    obtain ⟨r, hpad, hr8⟩ := padB_ext7 (bitsN 3 3 ++ X ++ fixWord 256)
    have hpl := padB_len (bitsN 3 3 ++ X ++ fixWord 256)
    refine wDrain_spec (wr_at o (by repeat (first | exact List.mem_cons_self | apply List.mem_cons_of_mem))) fun H7 dv7 w c => ?_
    have o := owns_wr o w c Rep.here
    have hs : toBits (toBytes (padB (bitsN 3 3 ++ X ++ fixWord 256))) = true :: true :: false :: (X ++ (fixWord 256 ++ r)) := by
      rw [toBits_toBytes ((padB (bitsN 3 3 ++ X ++ fixWord 256)).length / 8) _ (by omega), hpad]
      simp only [List.append_assoc]
      rfl
    have hsl : (toBytes (padB (bitsN 3 3 ++ X ++ fixWord 256))).length ≤ 1000 := by
      rw [toBytes_len ((padB (bitsN 3 3 ++ X ++ fixWord 256)).length / 8) _ rfl]; omega
    generalize toBytes (padB (bitsN 3 3 ++ X ++ fixWord 256)) = s at *
    have hrun := run_fix wr hr8
    rw [← hs] at hrun
    have h0 : (run ⟨.hd, toBits s, []⟩).2.2 = 0 := by rw [hrun]
    have hSg := o.sl (v := gv) (by repeat (first | exact List.mem_cons_self | apply List.mem_cons_of_mem))
    refine refExpand_spec (ahead := []) hSg wr.fits (by simp; omega) fun H8 hx8 => ?_
    have hev : expandV [] G = .tuple #[str W, .bool true] := by unfold expandV; rw [wr.exp]; rfl
    rw [hev]
    refine pExtract_to rfl ?_
    refine pExtract_to rfl ?_
    rw [pBits_v, and_low (k := 3) (m := 7) (by decide) rfl, pAdd_v, w64 (by omega) (by omega)]
    obtain ⟨pc, hpc⟩ : ∃ pc : Nat, 1 + piece % 2 ^ 3 = (pc : Int) := ⟨(1 + piece % 2 ^ 3).toNat, by omega⟩
    have hpc1 : 1 ≤ pc ∧ pc ≤ 8 := by omega
    rw [hpc]
    have hx18 := o.ext.trans hx8
    refine new_spec7 (Owns.start (H := H8)) fun H9 b9 r9 => ?_
    refine ⟨fun g u H' => ∃ (p : Nat) (M : List It), u = .int .i64 (p : Int) ∧ p ≤ s.length + 100 ∧ g = str (preR s p).1 ∧ Rest7 H8 H' b9 (preR s p).2.1 (min p s.length) M, fun _ u _ => match u with | .int _ x => 1000000 - x.toNat | _ => 0, ⟨0, [], rfl, by omega, by rw [preR_zero], by rw [preR_zero]; simpa using r9⟩, ?_⟩
    rintro _ _ _ H10 ⟨p, M, rfl, hp, rfl, r10⟩
    refine pLenS_to ?_
    rw [pLt_v]
    refine pCond_if (fun hc => ?_) (fun hc => ?_)
    · have hpl : p < s.length := by omega
      rw [pAdd_v, w64 (by omega) (by omega)]
      refine pLenS_to ?_
      rw [pMin_v, show min ((p : Int) + (pc : Int)) (s.length : Int) = ((min (p + pc) s.length : Nat) : Int) by omega]
      refine pSlStr_to (lo := p) (hi := min (p + pc) s.length) (.inl rfl) (.inl rfl) (by omega) (by omega) ?_
      have hq : (s.drop p).take (min (p + pc) s.length - p) = (s.drop p).take pc := by
        by_cases g : p + pc ≤ s.length
        · rw [Nat.min_eq_left g, Nat.add_sub_cancel_left]
        · rw [Nat.min_eq_right (by omega), List.take_of_length_le (by rw [List.length_drop]; omega), List.take_of_length_le (by rw [List.length_drop]; omega)]
      rw [hq]
      have hinv := preR_inv s p
      have hnx := preR_next h0 p pc
      have hok := preR_ok h0 (p + pc)
      have hql : ((s.drop p).take pc).length ≤ 100 := by rw [List.length_take]; omega
      have hql2 : ((s.drop p).take pc).length = min (p + pc) s.length - p := by rw [List.length_take, List.length_drop]; omega
      refine feed_spec7 ((hG.ext hx1).ext hx18) r10 hinv.2.2 (by omega) (by omega) (fun o D' H4 M2 hr4 r4 => ?_) (fun o D' e H4 M2 hr4 he d => ?_)
      · rw [hr4] at hnx
        refine pExtract_to rfl ?_
        refine pExtract_to rfl ?_
        refine ne_ok ?_
        rw [pCond_false]
        refine pAdd_str ?_ ?_
        · have h1 := preR_inv s (p + pc)
          rw [hnx] at h1
          have h2 := congrArg List.length h1.1
          dsimp only at h1 h2
          rw [List.length_append] at h2
          omega
        rw [pAdd_v, show (p : Int) + (pc : Int) = ((p + pc : Nat) : Int) by omega, w64 (by omega) (by omega)]
        refine ⟨⟨p + pc, M2 ++ M, rfl, by omega, by rw [hnx], ?_⟩, by show 1000000 - ((p + pc : Nat) : Int).toNat < 1000000 - (p : Int).toNat; omega⟩
        rw [hnx]
        rw [hql2, show min p s.length + (min (p + pc) s.length - p) = min (p + pc) s.length by omega] at r4
        exact r4
      · rw [hr4] at hnx
        rw [hnx] at hok
        exact absurd hok he
    · have hall := preR_all (s := s) (p := p) (by omega)
      rw [hrun] at hall
      rw [hall] at r10 ⊢
      rw [Nat.min_eq_right (by omega)] at r10
      refine done_spec7 r10 ?_
      refine pAnd_true ?_
      refine pEq1_to ?_
      rw [decide_eq_true rfl]
      intro _
      refine pAnd_true ?_
      have hz : ∀ n, toBytes (List.take n (alB [])) = [] := fun n => by rw [show alB [] = [] from rfl, List.take_nil]; rfl
      refine rest_spec7 r10 rfl fun H11 hx11 => ?_
      refine pEq1_to ?_
      rw [decide_eq_true (hz _)]
      intro _
      refine pAnd_true ?_
      refine used_spec7 (r10.more hx11) rfl (by omega) (by simp) fun H12 hx12 => ?_
      refine pLenS_to ?_
      rw [pEq_0, decide_eq_true (by rw [show List.length (toBytes _) = 0 from congrArg List.length (hz _)]; omega)]
      intro _
      have hx10 : Ext H8 H10 := by obtain ⟨q, _, bp, bv, _, _, rv, ring, _, _, o⟩ := r10; exact o.ext
      exact ⟨rfl, (((hx1.trans hx18).trans hx10).trans hx11).trans hx12⟩
end Go.Proofs.YtpnkoniomalcpaaDoor
