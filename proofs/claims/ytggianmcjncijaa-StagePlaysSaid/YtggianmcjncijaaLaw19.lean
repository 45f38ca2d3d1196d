/- The laws of package stage over heaps: the first test, StageRefuses, StageSums. -/
import Derived.Test.YtggianmcjncijaaStage2
import Derived.Test.YtggianmcjncijaaResLighterlaw19
import Derived.Test.YtggianmcjncijaaResLighterref19
import Derived.Test.YtggianmcjncijaaRef02
import Derived.Test.YtggianmcjncijaaVcRow
import Derived.Test.YtggianmcjncijaaStrs
namespace Go.Proofs.Ytggianmcjncijaa
open Go Go.Vc Go.Proofs
set_option linter.unusedVariables false
set_option linter.unusedSimpArgs false
variable {H H0 : Heap} {R : Value → Heap → Prop} {v : Value} {L : List It} {b fb at_ n : Nat} {M : Dk} {C : List UInt8}
/-- a file that holds these bytes, on a disk that is on and has no fuse -/
structure FA (H0 H : Heap) (b fb : Nat) (M : Dk) (at_ n : Nat) (C : List UInt8) (L : List It) : Prop where
  d : Dsk H0 H b M (fileIt fb b at_ n C.length :: L)
  hn : at_ + n ≤ M.n
  hC : C.length ≤ 64 * n
  ho : M.off = false
  hf : M.fuse = none
  im : (img M at_ n).take C.length = C
theorem FA.more {H' : Heap} (f : FA H0 H b fb M at_ n C L) (hx : Ext H H') : FA H0 H' b fb M at_ n C L := ⟨f.d.more' hx, f.hn, f.hC, f.ho, f.hf, f.im⟩
theorem FA.ext (f : FA H0 H b fb M at_ n C L) : Ext H0 H := f.d.ext
theorem dec_refl {b : Bool} : decide (b = b) = true := by simp
theorem part_of {l : List UInt8} {a c s : Nat} (h : a + c ≤ s) : (l.drop a).take c = ((l.take s).drop a).take c := by
  apply List.ext_getElem?
  intro i
  rw [List.getElem?_take, List.getElem?_take]
  by_cases hi : i < c
  · rw [if_pos hi, if_pos hi, List.getElem?_drop, List.getElem?_drop, List.getElem?_take, if_pos (by omega)]
  · rw [if_neg hi, if_neg hi]
theorem FA.part (f : FA H0 H b fb M at_ n C L) {a c : Nat} (h : a + c ≤ C.length) : ((img M at_ n).drop a).take c = (C.drop a).take c := by rw [part_of h, f.im]
theorem FA.secs (f : FA H0 H b fb M at_ n C L) : ∀ j, j < n → (M.sec (at_ + j)).length = 64 := fun j hj => f.d.secs (by have := f.hn; omega)
theorem FA.append {s : List UInt8} (f : FA H0 H b fb M at_ n C L) (hl : C.length + s.length ≤ 64 * n) (h : ∀ H' M', FA H0 H' b fb M' at_ n (C ++ s) L → R (.int .i64 0) H') : CallsH Try.prog 14 #[ptr fb, str s] H R := by
  refine append_spec f.d f.hn f.hC (by omega) f.ho fun H1 M1 e g d => ?_
  obtain ⟨rfl, hfn⟩ := g.calm f.hf
  rw [if_pos rfl] at d
  refine h H1 M1 ⟨by rw [List.length_append]; exact d, by rw [g.n_]; exact f.hn, by rw [List.length_append]; exact hl, (g.yes rfl).1, hfn, ?_⟩
  rw [List.length_append, (g.yes rfl).2, f.im]
theorem FA.read {a c : Int} (f : FA H0 H b fb M at_ n C L) (hno : ¬ (0 ≤ a ∧ 0 ≤ c ∧ a ≤ (C.length : Int) ∧ c ≤ (C.length : Int) - a) → R (.tuple #[str [], .int .i64 20]) H)
    (hyes : 0 ≤ a → 0 ≤ c → a ≤ (C.length : Int) → c ≤ (C.length : Int) - a → ∀ H', FA H0 H' b fb M at_ n C L → R (.tuple #[str ((C.drop a.toNat).take c.toNat), .int .i64 0]) H') : CallsH Try.prog 10 #[ptr fb, .int .i64 a, .int .i64 c] H R := by
  refine readF_spec f.d f.hn f.hC f.ho hno fun g1 g2 g3 g4 H1 hx => ?_
  rw [f.part (by omega)]
  exact hyes g1 g2 g3 g4 H1 (f.more hx)
theorem FA.len (f : FA H0 H b fb M at_ n C L) (h : R (.int .i64 (C.length : Int)) H) : CallsH Try.prog 15 #[ptr fb] H R := len_spec19 f.d h
theorem FA.room (f : FA H0 H b fb M at_ n C L) (h : R (.int .i64 ((64 * n - C.length : Nat) : Int)) H) : CallsH Try.prog 16 #[ptr fb] H R :=
  room_spec f.d (by have := f.hn; have := f.d.nmax; omega) f.hC h
theorem FA.new (d : Dsk H0 H b M L) (h1 : 1 ≤ n) (hn : at_ + n ≤ M.n) (ho : M.off = false) (hf : M.fuse = none) (hC : C.length ≤ 64 * n) (im : (img M at_ n).take C.length = C)
    (h : ∀ H' fb, FA H0 H' b fb M at_ n C L → R (.tuple #[ptr fb, .int .i64 0]) H') : CallsH Try.prog 9 #[ptr b, .int .i64 (at_ : Int), .int .i64 (n : Int), .int .i64 (C.length : Int)] H R := by
  have hmax := d.nmax
  refine newF_spec (by omega) d (by omega) (fun hg => absurd (by omega) hg) fun _ _ _ _ _ H1 fb d1 => ?_
  exact h H1 fb ⟨d1, hn, hC, ho, hf, im⟩
theorem FA.new0 (d : Dsk H0 H b M L) (h1 : 1 ≤ n) (hn : at_ + n ≤ M.n) (ho : M.off = false) (hf : M.fuse = none)
    (h : ∀ H' fb, FA H0 H' b fb M at_ n [] L → R (.tuple #[ptr fb, .int .i64 0]) H') : CallsH Try.prog 9 #[ptr b, .int .i64 (at_ : Int), .int .i64 (n : Int), .int .i64 0] H R :=
  FA.new (C := []) d h1 hn ho hf (by simp) (by simp) h
theorem speaks19_spec (h : ∀ H', Ext H H' → R (.bool true) H') : CallsH Try.prog 7 #[] H R := by
  refine lighterlaw19_speaks.vc _ _ ?_
  unfold lighterlaw19_speaks.res
  refine new_spec (n := 4) (Owns.start (H := H)) (by decide) (by decide) fun H1 b d => ?_
  refine pExtract_to rfl ?_
  refine pExtract_to rfl ?_
  refine FA.new0 (at_ := 1) (n := 2) d (by decide) (by decide) rfl rfl fun H2 fb f => ?_
  refine pExtract_to rfl ?_
  refine pExtract_to rfl ?_
  rw [pNe_0, decide_eq_false (by simp)]
  refine pOr_false ?_
  refine f.append (s := [97, 98, 99]) (by decide) fun H3 M3 f => ?_
  rw [pNe_0, decide_eq_false (by simp)]
  intro _
  rw [pCond_false]
  refine f.read (fun hg => absurd (by decide) hg) fun _ _ _ _ H4 f => ?_
  refine pExtract_to rfl ?_
  refine pExtract_to rfl ?_
  rw [pEq_0, decide_eq_true (by rfl)]
  refine pAnd_true ?_
  refine pEq1_to ?_
  rw [decide_eq_true (by decide)]
  intro _
  refine pAnd_true ?_
  refine f.len ?_
  rw [pEq_0, decide_eq_true (by decide)]
  intro _
  refine pAnd_true ?_
  refine f.room ?_
  rw [pEq_0, decide_eq_true (by decide)]
  intro _
  exact h H4 f.ext
theorem read19_spec {C : List UInt8} {a c : Int} (hC : C.length ≤ 1000000000) (ha : -9223372036854775808 ≤ a ∧ a ≤ 9223372036854775807) (hno : ¬ (0 ≤ a ∧ 0 ≤ c ∧ a ≤ (C.length : Int) ∧ c ≤ (C.length : Int) - a) → R (.tuple #[str [], .bool false]) H)
    (hyes : 0 ≤ a → 0 ≤ c → a ≤ (C.length : Int) → c ≤ (C.length : Int) - a → R (.tuple #[str ((C.drop a.toNat).take c.toNat), .bool true]) H) : CallsH Try.prog 11 #[str C, .int .i64 a, .int .i64 c] H R := by
  refine lighterref19_Read.vc _ _ _ _ _ ?_
  unfold lighterref19_Read.res
  rw [pLt_v]
  have hfin : ∀ {x : Bool} {A : Prop}, x = true → ¬ (0 ≤ a ∧ 0 ≤ c ∧ a ≤ (C.length : Int) ∧ c ≤ (C.length : Int) - a) → pCond (.bool x) (R (.tuple #[str [], .bool false]) H) A := fun hc hg => by
    rw [hc, pCond_true]; exact hno hg
  by_cases h1 : a < 0
  · rw [decide_eq_true h1, pOr_true]
    intro _
    rw [pOr_true]
    intro _
    rw [pOr_true]
    intro _
    exact hfin rfl (by omega)
  rw [decide_eq_false h1]
  refine pOr_false ?_
  rw [pLt_v]
  intro _
  by_cases h2 : c < 0
  · rw [decide_eq_true h2, pOr_true]
    intro _
    rw [pOr_true]
    intro _
    exact hfin rfl (by omega)
  rw [decide_eq_false h2]
  refine pOr_false ?_
  refine pLenS_to ?_
  rw [pGt_v]
  intro _
  by_cases h3 : (C.length : Int) < a
  · rw [decide_eq_true h3, pOr_true]
    intro _
    exact hfin rfl (by omega)
  rw [decide_eq_false h3]
  refine pOr_false ?_
  refine pLenS_to ?_
  rw [pSub_v, w64 (n := (C.length : Int) - a) (by omega) (by omega), pGt_v]
  intro _
  by_cases h4 : (C.length : Int) - a < c
  · exact hfin (decide_eq_true h4) (by omega)
  rw [decide_eq_false h4, pCond_false]
  obtain ⟨x, rfl⟩ : ∃ x : Nat, a = x := ⟨a.toNat, by omega⟩
  obtain ⟨y, rfl⟩ : ∃ y : Nat, c = y := ⟨c.toNat, by omega⟩
  have hk := hyes (by omega) (by omega) (by omega) (by omega)
  rw [Int.toNat_natCast, Int.toNat_natCast] at hk
  rw [pAdd_v, show (x : Int) + (y : Int) = ((x + y : Nat) : Int) by omega, w64 (by omega) (by omega)]
  refine pSlStr_to (lo := x) (hi := x + y) (.inl rfl) (.inl rfl) (by omega) (by omega) ?_
  rw [show x + y - x = y by omega]
  exact hk
set_option maxHeartbeats 1000000 in
theorem StageSums_law (a0 : Option Addr) (len0 cap0 : Nat) (from_ m : Int) (w0 : StructRow [.string] H a0 len0 cap0) (w1 : (Lit.int .i64 from_).wf = true) (w2 : (Lit.int .i64 m).wf = true) :
    CallsH Try.prog 6 #[.slice a0 len0 cap0, .int .i64 from_, .int .i64 m] H (LawOk H) := by
  obtain ⟨T, hTl, hTm, hTs, hT⟩ := str_rows w0
  have hfr := wf64 w1
  have hmax : maxLen = 9223372036854775807 := rfl
  have hvl : (txtsV T).length = T.length * 1 := by rw [txtsV_len, Nat.mul_one]
  refine lighterlaw19_StageSums.vc _ _ _ _ _ ?_
  unfold lighterlaw19_StageSums.res
  refine speaks19_spec fun H1 hx1 => ?_
  rw [pNot_v, Bool.not_true, pCond_false]
  have hT := hT.ext hx1
  refine new_spec (n := 12) (Owns.start (H := H1)) (by decide) (by decide) fun H2 b d => ?_
  refine pExtract_to rfl ?_
  refine pExtract_to rfl ?_
  refine FA.new0 (at_ := 2) (n := 9) d (by decide) (by decide) rfl rfl fun H3 fb f => ?_
  refine pExtract_to rfl ?_
  refine pExtract_to rfl ?_
  refine ⟨fun t i H' => ∃ (k : Nat) (C : List UInt8) (M : Dk), i = .int .i64 k ∧ t = str C ∧ k ≤ 6 ∧ C.length ≤ 90 * k ∧ FA H1 H' b fb M 2 9 C [], fun _ i _ => match i with | .int _ x => 100 - x.toNat | _ => 0, ⟨0, [], Dk.new 12, rfl, rfl, by omega, by simp, f⟩, ?_⟩
  clear f d
  rintro _ _ _ H4 ⟨k, C, M, rfl, rfl, hk, hC, f⟩
  refine (hT.ext f.ext).len hvl (by decide) ?_
  rw [pLt_v]
  refine pAnd_if (d := decide ((k : Int) < 6)) (fun _ => by rw [pLt_v]; exact ⟨rfl, rfl⟩) ?_
  intro _
  refine pCond_b (fun hc => ?_) (fun hc => ?_)
  · rw [Bool.and_eq_true, decide_eq_true_eq, decide_eq_true_eq] at hc
    have hkT : k < T.length := by omega
    have hld : ∀ {K : Value → Prop}, K (str T[k]) → pIdxSl 1 (.slice a0 len0 cap0) (.int .i64 (k : Int)) fun x => pLoad H4 x K := fun hK =>
      (hT.ext f.ext).at_ hvl (by decide) (by omega) (by omega) fun p hp => hp.load (hT.ext f.ext) (w := str T[k]) (by rw [Int.toNat_natCast, Nat.mul_one, txtsV_get hkT]) hK
    refine hld ?_
    refine hld ?_
    refine pLenS_to ?_
    rw [pMin_v, show min ((T[k].length : Nat) : Int) 90 = ((min T[k].length 90 : Nat) : Int) by omega]
    refine pSlStr_to (lo := 0) (hi := min T[k].length 90) (.inr ⟨rfl, rfl⟩) (.inl rfl) (by omega) (by omega) ?_
    rw [List.drop_zero, Nat.sub_zero]
    have hsl : (T[k].take (min T[k].length 90)).length ≤ 90 := by rw [List.length_take]; omega
    generalize T[k].take (min T[k].length 90) = s at *
    refine f.append (by omega) fun H5 M5 f => ?_
    rw [pNe_0, decide_eq_false (by simp), pCond_false]
    refine pAdd_str (by omega) ?_
    rw [pAdd_v, w64 (n := (k : Int) + 1) (by omega) (by omega)]
    exact ⟨⟨k + 1, C ++ s, M5, rfl, rfl, by omega, by rw [List.length_append]; omega, f⟩, by show 100 - ((k : Int) + 1).toNat < 100 - (k : Int).toNat; omega⟩
  clear hc
  have hC6 : C.length ≤ 540 := by omega
  have hsum : ∀ {K : Value → Heap → Prop}, (¬ (0 ≤ from_ ∧ 0 ≤ m ∧ from_ ≤ (C.length : Int) ∧ m ≤ (C.length : Int) - from_) → K (.tuple #[.int .u32 0, .int .i64 20]) H4) → (0 ≤ from_ → 0 ≤ m → from_ ≤ (C.length : Int) → m ≤ (C.length : Int) - from_ → ∀ H', FA H1 H' b fb M 2 9 C [] → K (.tuple #[n32 (more32 0 ((C.drop from_.toNat).take m.toNat)), .int .i64 0]) H') → CallsH Try.prog 20 #[ptr fb, .int .i64 from_, .int .i64 m] H4 K := fun k1 k2 =>
    sumF_spec f.d f.hn f.hC f.ho k1 fun g1 g2 g3 g4 H' hx => by
      rw [f.part (by omega)]
      exact k2 g1 g2 g3 g4 H' (f.more hx)
  have tail : ∀ {H5 : Heap}, FA H1 H5 b fb M 2 9 C [] → (pBits .and (.int .i64 m) (.int .i64 127) fun x105 =>
      pLenS (str C) fun x107 =>
      pAdd x107 (.int .i64 1) fun x108 =>
      pRem x105 x108 fun x109 =>
      pSlStr (str C) none (some x109) fun x114 =>
      CallsH Try.prog 22 #[ptr fb, x114] H5 fun x115 H_23 =>
      pExtract 0 x115 fun x116 =>
      pExtract 1 x115 fun x117 =>
      pSlStr (str C) none (some x109) fun x122 =>
      pAdd x122 (str [33]) fun x123 =>
      CallsH Try.prog 22 #[ptr fb, x123] H_23 fun x124 H_24 =>
      pExtract 0 x124 fun x125 =>
      pExtract 1 x124 fun x126 =>
      CallsH Try.prog 22 #[(.pointer none), (str [120])] H_24 fun x129 H_25 =>
      pExtract 0 x129 fun x130 =>
      pExtract 1 x129 fun x131 =>
      pEq 0 x117 (.int .i64 0) fun x133 =>
      pAnd x133 (fun J_26 =>
      J_26 x116 H_25) H_25 fun x136 H_27 => ∀ _ : Env,
      pAnd x136 (fun J_28 =>
      pEq 0 x126 (.int .i64 0) fun x139 =>
      J_28 x139 H_27) H_27 fun x140 H_29 => ∀ _ : Env,
      pAnd x140 (fun J_30 =>
      pLenS (str C) fun x145 =>
      pLt x109 x145 fun x146 =>
      pAnd x146 (fun J_32 =>
      pIdxStr (str C) x109 fun x150 =>
      pEq 0 x150 (.int .u8 33) fun x151 =>
      J_32 x151 H_29) H_29 fun x152 H_33 => ∀ _ : Env,
      pEq 2 x125 x152 fun x153 =>
      J_30 x153 H_33) H_29 fun x154 H_31 => ∀ _ : Env,
      pAnd x154 (fun J_34 =>
      pNot x130 fun x157 =>
      J_34 x157 H_31) H_31 fun x158 H_35 => ∀ _ : Env,
      pAnd x158 (fun J_36 =>
      pEq 0 x131 (.int .i64 1) fun x161 =>
      J_36 x161 H_35) H_35 fun x162 H_37 => ∀ _ : Env,
      LawOk H x162 H_37) := by
    intro H5 f
    rw [pBits_v, and_low (k := 7) (m := 127) (n := m) (by decide) rfl]
    obtain ⟨y, hy⟩ : ∃ y : Nat, m % 2 ^ 7 = (y : Int) := ⟨(m % 2 ^ 7).toNat, by omega⟩
    rw [hy]
    refine pLenS_to ?_
    rw [pAdd_v, show ((C.length : Nat) : Int) + 1 = ((C.length + 1 : Nat) : Int) by omega, w64 (by omega) (by omega), pRem_v]
    refine ⟨by omega, ?_⟩
    obtain ⟨q, hq⟩ : ∃ q, q = y % (C.length + 1) := ⟨_, rfl⟩
    have hqC : q ≤ C.length := by have := Nat.mod_lt y (show 0 < C.length + 1 by omega); omega
    rw [show ((y : Nat) : Int).tmod ((C.length + 1 : Nat) : Int) = ((y % (C.length + 1) : Nat) : Int) from rfl, ← hq]
    refine pSlStr_to (lo := 0) (hi := q) (.inr ⟨rfl, rfl⟩) (.inl rfl) (by omega) (by omega) ?_
    rw [List.drop_zero, Nat.sub_zero]
    have hil := img_len f.secs
    have htake : ∀ t : Nat, t ≤ C.length → (img M 2 9).take t = C.take t := fun t ht => by
      have := f.part (a := 0) (c := t) (by omega)
      simpa using this
    refine starts_spec f.d f.hn f.hC f.ho (by rw [List.length_take]; omega) fun H6 hx => ?_
    have f := f.more hx
    refine pExtract_to rfl ?_
    refine pExtract_to rfl ?_
    have e1 : (decide ((C.take q).length ≤ C.length) && decide ((img M 2 9).take (C.take q).length = C.take q)) = true := by
      rw [List.length_take, Nat.min_eq_left hqC, htake q hqC]
      simp [hqC]
    rw [e1]
    refine pSlStr_to (lo := 0) (hi := q) (.inr ⟨rfl, rfl⟩) (.inl rfl) (by omega) (by omega) ?_
    rw [List.drop_zero, Nat.sub_zero]
    refine pAdd_str (by rw [List.length_take]; show _ + 1 ≤ _; omega) ?_
    refine starts_spec f.d f.hn f.hC f.ho (by rw [List.length_append, List.length_take]; show _ + 1 ≤ _; omega) fun H7 hx => ?_
    have f := f.more hx
    refine pExtract_to rfl ?_
    refine pExtract_to rfl ?_
    refine starts_nil ?_
    refine pExtract_to rfl ?_
    refine pExtract_to rfl ?_
    have e2 : (decide ((C.take q ++ [33]).length ≤ C.length) && decide ((img M 2 9).take (C.take q ++ [33]).length = C.take q ++ [33])) = (decide (q < C.length) && decide (C[q]? = some 33)) := by
      have hl : (C.take q ++ [33]).length = q + 1 := by rw [List.length_append, List.length_take, Nat.min_eq_left hqC]; rfl
      rw [hl]
      by_cases hqC2 : q < C.length
      · rw [htake (q + 1) (by omega), decide_eq_true (show q + 1 ≤ C.length by omega), decide_eq_true hqC2, Bool.true_and, Bool.true_and, show C.take (q + 1) = C.take q ++ [C[q]] by rw [List.take_add_one, List.getElem?_eq_getElem hqC2]; rfl, List.getElem?_eq_getElem hqC2]
        rw [Bool.eq_iff_iff, decide_eq_true_eq, decide_eq_true_eq]
        constructor
        · intro g
          have := List.append_cancel_left g
          rw [List.cons.injEq] at this
          rw [this.1]
        · intro g
          rw [Option.some.inj g]
      · rw [decide_eq_false (show ¬ q + 1 ≤ C.length by omega), decide_eq_false hqC2, Bool.false_and, Bool.false_and]
    rw [e2, pEq_0, decide_eq_true (show (0 : Int) = 0 from rfl)]
    refine pAnd_true ?_
    intro _
    refine pAnd_true ?_
    rw [pEq_0, decide_eq_true (show (0 : Int) = 0 from rfl)]
    intro _
    refine pAnd_true ?_
    refine pLenS_to ?_
    rw [pLt_v, show decide ((q : Int) < (C.length : Int)) = decide (q < C.length) by rw [Bool.eq_iff_iff, decide_eq_true_eq, decide_eq_true_eq]; omega]
    refine pAnd_if (d := decide (C[q]? = some 33)) (fun hlt => ?_) ?_
    · rw [decide_eq_true_eq] at hlt
      rw [pIdxStr_v]
      refine ⟨by omega, by rw [bys_mk]; omega, ?_⟩
      rw [pEq_0]
      refine ⟨?_, rfl⟩
      congr 1
      rw [bys_mk, Int.toNat_natCast, List.getD_eq_getElem?_getD, List.getElem?_eq_getElem hlt, Bool.eq_iff_iff, decide_eq_true_eq, decide_eq_true_eq, Option.getD_some, Option.some.injEq]
      constructor
      · intro g
        apply UInt8.toNat_inj.1
        show C[q].toNat = 33
        omega
      · intro g
        rw [g]; rfl
    intro _
    rw [pEq_2, dec_refl]
    intro _
    refine pAnd_true ?_
    rw [pNot_v, Bool.not_false]
    intro _
    refine pAnd_true ?_
    rw [pEq_0, decide_eq_true (show (1 : Int) = 1 from rfl)]
    intro _
    exact ⟨rfl, hx1.trans f.ext⟩
  refine hsum (fun hg => ?_) (fun g1 g2 g3 g4 H5 f => ?_)
  · refine pExtract_to rfl ?_
    refine pExtract_to rfl ?_
    refine read19_spec (by omega) hfr (fun _ => ?_) (fun g1 g2 g3 g4 => absurd ⟨g1, g2, g3, g4⟩ hg)
    refine pExtract_to rfl ?_
    refine pExtract_to rfl ?_
    rw [pEq_0, decide_eq_false (by decide), pNe_2, decide_eq_false (by simp)]
    refine pOr_false ?_
    rw [pAnd_false]
    intro _
    intro _
    refine pOr_false ?_
    rw [pNot_v, Bool.not_false]
    refine pAnd_true ?_
    rw [pNe_0, decide_eq_false (by simp)]
    refine pOr_false ?_
    rw [pNe_0, decide_eq_false (by simp)]
    intro _
    intro _
    intro _
    rw [pCond_false]
    exact tail f
  · refine pExtract_to rfl ?_
    refine pExtract_to rfl ?_
    refine read19_spec (by omega) hfr (fun hg => absurd ⟨g1, g2, g3, g4⟩ hg) (fun _ _ _ _ => ?_)
    refine pExtract_to rfl ?_
    refine pExtract_to rfl ?_
    rw [pEq_0, decide_eq_true (by rfl), pNe_2, decide_eq_false (by simp)]
    refine pOr_false ?_
    refine pAnd_true ?_
    refine refMore_spec (s := 0) (by decide) (by simp only [List.length_take, List.length_drop]; omega) ?_
    rw [pNe_0, decide_eq_false (by simp)]
    intro _
    intro _
    refine pOr_false ?_
    rw [pNot_v, Bool.not_true, pAnd_false]
    intro _
    intro _
    rw [pCond_false]
    exact tail f
end Go.Proofs.Ytggianmcjncijaa
