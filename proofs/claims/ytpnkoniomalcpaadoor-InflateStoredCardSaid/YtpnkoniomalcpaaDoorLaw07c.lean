/- The law InflateStored over heaps. -/
import Derived.Test.YtpnkoniomalcpaaDoorLaw07
import Derived.Test.YtpnkoniomalcpaaDoorInfS
import Derived.Test.YtpnkoniomalcpaaDoorRef01
import Derived.Test.YtpnkoniomalcpaaDoorRefGet
import Derived.Test.YtpnkoniomalcpaaDoorBitsN
namespace Go.Proofs.YtpnkoniomalcpaaDoor
open Go Go.Vc Go.Proofs
set_option linter.unusedVariables false
set_option linter.unusedSimpArgs false
variable {H H0 : Heap} {R : Value → Heap → Prop}
theorem getN_two {n : Nat} (h : n < 65536) : getN (putN n 2) = n := by
  have e : putN n 2 = [UInt8.ofNat (n / 256 ^ 0 % 256), UInt8.ofNat (n / 256 ^ 1 % 256)] := rfl
  rw [e]
  show (UInt8.ofNat (n / 256 ^ 0 % 256)).toNat + 256 * ((UInt8.ofNat (n / 256 ^ 1 % 256)).toNat + 256 * 0) = n
  rw [UInt8.toNat_ofNat_of_lt' (by show _ < 256; omega), UInt8.toNat_ofNat_of_lt' (by show _ < 256; omega)]
  simp only [Nat.pow_zero, Nat.pow_one, Nat.div_one]
  omega
theorem seg7 {s p x r : List UInt8} (h : s = p ++ (x ++ r)) {a n : Nat} (ha : a = p.length) (hn : n = x.length) : (s.drop a).take n = x := by
  subst ha; subst hn; subst h
  rw [List.drop_append_of_le_length (Nat.le_refl _), List.drop_of_length_le (Nat.le_refl _), List.nil_append, List.take_append_of_le_length (Nat.le_refl _), List.take_length]
/-- a stored block's bytes, as the document takes them -/
theorem refPlain_spec {s p q c : List UInt8} {h : UInt8} {v : Value} {at_ : Int} {out : List UInt8} (hs : s = p ++ (h :: (putN c.length 2 ++ (putN (65535 - c.length) 2 ++ (c ++ q))))) (hc : c.length < 65536) (hsl : s.length ≤ 1000000) (hat : at_ = ((8 * p.length + 3 : Nat) : Int)) (o : Owns H0 H [.sl v 1 (out.map byteV)]) (hol : out.length ≤ 1000000)
    (hk : ∀ v' H', Owns H0 H' [.sl v' 1 ((out ++ c).map byteV)] → R (.tuple #[v', .int .i64 ((8 * (p.length + 5 + c.length) : Nat) : Int), .int .i64 0]) H') : CallsH Tryd.prog 58 #[str s, .int .i64 at_, v] H R := by
  subst hat
  have hlen : s.length = p.length + 5 + c.length + q.length := by rw [hs]; simp [putN_len]; omega
  have s1 : (s.drop (p.length + 1)).take 2 = putN c.length 2 := seg7 (p := p ++ [h]) (r := putN (65535 - c.length) 2 ++ (c ++ q)) (by rw [hs]; simp) (by simp) (by rw [putN_len])
  have s2 : (s.drop (p.length + 3)).take 2 = putN (65535 - c.length) 2 := seg7 (p := p ++ (h :: putN c.length 2)) (r := c ++ q) (by rw [hs]; simp) (by simp [putN_len]) (by rw [putN_len])
  have s3 : (s.drop (p.length + 5)).take c.length = c := seg7 (p := p ++ (h :: (putN c.length 2 ++ putN (65535 - c.length) 2))) (r := q) (by rw [hs]; simp) (by simp [putN_len]) rfl
  refine lighterref07_plain.vc _ _ _ _ _ ?_
  unfold lighterref07_plain.res
  rw [pAdd_v, w64 (by omega) (by omega), pQuo_v]
  refine ⟨by decide, ?_⟩
  rw [Int.tdiv_eq_ediv_of_nonneg (by omega), show (((8 * p.length + 3 : Nat) : Int) + 7) / 8 = ((p.length + 1 : Nat) : Int) by omega, w64 (by omega) (by omega), pAdd_v, w64 (by omega) (by omega)]
  refine pLenS_to ?_
  rw [pGt_v, decide_eq_false (by omega), pCond_false, pAdd_v, show ((p.length + 1 : Nat) : Int) + 2 = ((p.length + 3 : Nat) : Int) by omega, w64 (by omega) (by omega)]
  refine pSlStr_to (lo := p.length + 1) (hi := p.length + 3) (.inl rfl) (.inl rfl) (by omega) (by omega) ?_
  rw [show p.length + 3 - (p.length + 1) = 2 by omega, s1]
  refine refGet_spec (by rw [putN_len]; decide) ?_
  rw [putN_len, if_pos (by decide), getN_two hc]
  refine pConv_to ?_
  rw [w64 (by omega) (by omega), pAdd_v, show ((p.length + 1 : Nat) : Int) + 2 = ((p.length + 3 : Nat) : Int) by omega, w64 (by omega) (by omega), pAdd_v, show ((p.length + 1 : Nat) : Int) + 4 = ((p.length + 5 : Nat) : Int) by omega, w64 (by omega) (by omega)]
  refine pSlStr_to (lo := p.length + 3) (hi := p.length + 5) (.inl rfl) (.inl rfl) (by omega) (by omega) ?_
  rw [show p.length + 5 - (p.length + 3) = 2 by omega, s2]
  refine refGet_spec (by rw [putN_len]; decide) ?_
  rw [putN_len, if_pos (by decide), getN_two (by omega)]
  refine pConv_to ?_
  rw [w64 (by omega) (by omega), pAdd_v, w64 (by omega) (by omega), pNe_0, decide_eq_false (by omega), pCond_false, pAdd_v, show ((p.length + 1 : Nat) : Int) + 4 = ((p.length + 5 : Nat) : Int) by omega, w64 (by omega) (by omega), pAdd_v, w64 (by omega) (by omega)]
  refine pLenS_to ?_
  rw [pGt_v, decide_eq_false (by omega), pCond_false, pAdd_v, show ((p.length + 1 : Nat) : Int) + 4 = ((p.length + 5 : Nat) : Int) by omega, w64 (by omega) (by omega), pAdd_v, show ((p.length + 1 : Nat) : Int) + 4 = ((p.length + 5 : Nat) : Int) by omega, w64 (by omega) (by omega), pAdd_v, show ((p.length + 5 : Nat) : Int) + (c.length : Int) = ((p.length + 5 + c.length : Nat) : Int) by omega, w64 (by omega) (by omega)]
  refine pSlStr_to (lo := p.length + 5) (hi := p.length + 5 + c.length) (.inl rfl) (.inl rfl) (by omega) (by omega) ?_
  rw [show p.length + 5 + c.length - (p.length + 5) = c.length by omega, s3]
  obtain ⟨hz, ho⟩ := o.ok (.sl v 1 (out.map byteV)) (by repeat (first | exact List.mem_cons_self | apply List.mem_cons_of_mem))
  refine Own.append ho (n := out.length) (m := c.length) (by decide) rfl (by simp [lenV, bys_mk]) (by simp [cellsOf, bys_mk]; rfl) (by simp) (by simp) (by simp [oneCell]) (by omega) fun v' H' o' hi hss hb => ?_
  rw [pAdd_v, w64 (by omega) (by omega), pAdd_v, w64 (by omega) (by omega), pMul_v, w64 (by omega) (by omega)]
  refine Eq.mp ?_ (hk v' H' (o.turn (i := .sl v 1 (out.map byteV)) (i' := .sl v' 1 ((out ++ c).map byteV)) Rep.here hss (fun k hk hf => hi k hk hf) ⟨by decide, by rw [List.map_append]; exact o'⟩ fun k hk => ?_))
  · congr 4
  · simp only [It.foot] at hk ⊢
    rcases hb with hb | hb
    · left; rw [← hb]; exact hk
    · right; rw [hb, Option.some.injEq] at hk; omega
theorem flat_cons_len (L : List (List UInt8)) : (L.flatMap blkS).length = 5 * L.length + L.flatten.length := by
  induction L with
  | nil => rfl
  | cons c L ih => rw [List.flatMap_cons, List.length_append, blkS_len, ih, List.flatten_cons, List.length_append, List.length_cons]; omega
theorem bit_at {s p q : List UInt8} {x : UInt8} (h : s = p ++ (x :: q)) {j : Nat} (hj : j < 8) : (toBits s)[8 * p.length + j]? = some (x.toNat.testBit j) := by
  rw [h, toBits_append, List.getElem?_append_right (by rw [toBits_len]; omega), toBits_len, show 8 * p.length + j - 8 * p.length = j by omega, toBits_cons, List.getElem?_append_left (by rw [bitsN_len]; exact hj), bitsN_get hj]
theorem bitsV_at {l : List Bool} {i : Nat} {b : Bool} (h : l[i]? = some b) : (bitsV l)[i]? = some (.int .i64 ((b.toNat : Nat) : Int)) := by
  unfold bitsV; rw [List.getElem?_map, h]; rfl
theorem refRead_spec {L : List (List UInt8)} {rest : List UInt8} (hL : ∀ c ∈ L, c.length < 65536) (hsl : (strS L rest).length ≤ 1000000) (h : ∀ H', Ext H H' → R (.tuple #[str L.flatten, .int .i64 ((8 * ((strS L rest).length - rest.length) : Nat) : Int), .int .i64 0]) H') : CallsH Tryd.prog 35 #[str (strS L rest)] H R := by
  have hfl := flat_cons_len L
  have hsz : (strS L rest).length = (L.flatMap blkS).length + 5 + rest.length := by unfold strS; simp; omega
  have hrd : ∀ R : Value → Heap → Prop, (∀ H' v, Sl H' v 1 (L.flatten.map byteV) → Ext H H' → R (.tuple #[v, .int .i64 ((8 * ((strS L rest).length - rest.length) : Nat) : Int), .int .i64 0]) H') → CallsH Tryd.prog 45 #[str (strS L rest)] H R := by
    intro R h
    refine lighterref07_read.vc _ _ _ ?_
    unfold lighterref07_read.res
    refine refBits_spec (by omega) fun H1 w hw hx1 hfr => ?_
    have hS := hw.sl (by decide)
    have hbl : (bitsV (toBits (strS L rest))).length = 8 * (strS L rest).length := by rw [bitsV_len, toBits_len]
    refine ⟨fun v u H' => ∃ i : Nat, i ≤ L.length ∧ u = .int .i64 ((8 * ((L.take i).flatMap blkS).length : Nat) : Int) ∧ Owns H1 H' [.sl v 1 ((L.take i).flatten.map byteV)], fun _ u _ => match u with | .int _ x => 10000000 - x.toNat | _ => 0, ⟨0, by omega, by simp, (Owns.start (H := H1)).nil1⟩, ?_⟩
    rintro _ v _ H2 ⟨i, hi, rfl, o⟩
    have hS2 := hS.ext o.ext
    -- what stands at the place
    obtain ⟨x, c, tail, hx3, hcl, hst, hcase⟩ : ∃ (x : UInt8) (c tail : List UInt8), (x.toNat = 0 ∨ x.toNat = 1) ∧ c.length < 65536 ∧ strS L rest = (L.take i).flatMap blkS ++ (x :: (putN c.length 2 ++ (putN (65535 - c.length) 2 ++ (c ++ tail)))) ∧
        ((x.toNat = 0 ∧ i < L.length ∧ (L.take (i + 1)).flatten = (L.take i).flatten ++ c ∧ ((L.take (i + 1)).flatMap blkS).length = ((L.take i).flatMap blkS).length + 5 + c.length) ∨ (x.toNat = 1 ∧ i = L.length ∧ c = [])) := by
      by_cases hil : i < L.length
      · have ht : L.take (i + 1) = L.take i ++ [L[i]] := by rw [List.take_add_one, List.getElem?_eq_getElem hil]; rfl
        have hsplit : L = L.take i ++ (L[i] :: L.drop (i + 1)) := by
          conv => lhs; rw [← List.take_append_drop i L, List.drop_eq_getElem_cons hil]
        refine ⟨0, L[i], (L.drop (i + 1)).flatMap blkS ++ ([1, 0, 0, 255, 255] ++ rest), .inl rfl, hL _ (List.getElem_mem hil), ?_, .inl ⟨rfl, hil, by rw [ht, List.flatten_append]; simp only [List.flatten_cons, List.flatten_nil, List.append_nil], by rw [ht, List.flatMap_append, List.length_append]; simp only [List.flatMap_cons, List.flatMap_nil, List.append_nil, blkS_len]; omega⟩⟩
        have hfm : L.flatMap blkS = (L.take i).flatMap blkS ++ (blkS L[i] ++ (L.drop (i + 1)).flatMap blkS) := by
          conv => lhs; rw [hsplit]
          rw [List.flatMap_append, List.flatMap_cons]
        unfold strS
        rw [hfm]
        unfold blkS
        simp only [List.append_assoc, List.cons_append]
      · refine ⟨1, [], rest, .inr rfl, by decide, ?_, .inr ⟨rfl, by omega, rfl⟩⟩
        unfold strS
        rw [List.take_of_length_le (by omega)]
        rfl
    generalize hp : (L.take i).flatMap blkS = p at *
    have hln : (strS L rest).length = p.length + 5 + c.length + tail.length := by rw [hst]; simp [putN_len]; omega
    have b0 := bitsV_at (bit_at hst (j := 0) (by decide))
    have b1 := bitsV_at (bit_at hst (j := 1) (by decide))
    have b2 := bitsV_at (bit_at hst (j := 2) (by decide))
    have t1 : x.toNat.testBit 1 = false := by rcases hx3 with h | h <;> rw [h] <;> rfl
    have t2 : x.toNat.testBit 2 = false := by rcases hx3 with h | h <;> rw [h] <;> rfl
    rw [t1] at b1
    rw [t2] at b2
    have ld : ∀ (j : Nat) (y : Value) (K : Value → Prop), j < 3 → (bitsV (toBits (strS L rest)))[8 * p.length + j]? = some y → K y → pIdxSl 1 w (.int .i64 ((8 * p.length + j : Nat) : Int)) fun q => pLoad H2 q K := by
      intro j y K hj hy hK
      refine hS2.at_ (n := 8 * (strS L rest).length) (by rw [hbl, Nat.mul_one]) (by decide) (by omega) (by omega) fun q hq => ?_
      exact hq.load hS2 (by rw [Int.toNat_natCast, Nat.mul_one]; exact hy) hK
    rw [pAdd_v, w64 (by omega) (by omega)]
    refine hS2.len (n := 8 * (strS L rest).length) (by rw [hbl, Nat.mul_one]) (by decide) ?_
    rw [pGt_v, decide_eq_false (by omega), pCond_false]
    refine ld 0 _ _ (by decide) b0 ?_
    rw [pEq_0, pAdd_v, show ((8 * p.length : Nat) : Int) + 1 = ((8 * p.length + 1 : Nat) : Int) by omega, w64 (by omega) (by omega)]
    refine ld 1 _ _ (by decide) b1 ?_
    rw [pAdd_v, show ((8 * p.length : Nat) : Int) + 2 = ((8 * p.length + 2 : Nat) : Int) by omega, w64 (by omega) (by omega)]
    refine ld 2 _ _ (by decide) b2 ?_
    rw [pMul_v, pAdd_v, pAdd_v, show ((8 * p.length : Nat) : Int) + 3 = ((8 * p.length + 3 : Nat) : Int) by omega, w64 (n := ((8 * p.length + 3 : Nat) : Int)) (by omega) (by omega)]
    refine ⟨fun v u e H' => e = .int .i64 0 ∧ u = .int .i64 ((8 * (p.length + 5 + c.length) : Nat) : Int) ∧ Owns H1 H' [.sl v 1 (((L.take i).flatten ++ c).map byteV)], ?_, ?_⟩
    · rintro _ v3 _ _ H3 ⟨rfl, rfl, o3⟩
      refine ne_ok ?_
      rw [pCond_false]
      rcases hcase with ⟨h0, hil, hf1, hf2⟩ | ⟨h1, hil, rfl⟩
      · rw [h0]
        rw [decide_eq_false (by decide), pCond_false]
        refine ⟨⟨i + 1, by omega, by congr 2; omega, by rw [hf1]; exact o3⟩, ?_⟩
        show 10000000 - (((8 * (p.length + 5 + c.length) : Nat) : Int)).toNat < 10000000 - (((8 * p.length : Nat) : Int)).toNat
        omega
      · rw [h1]
        rw [decide_eq_true (by decide), pCond_true]
        rw [List.append_nil, List.take_of_length_le (by omega)] at o3
        have := h H3 v3 (o3.sl (by repeat (first | exact List.mem_cons_self | apply List.mem_cons_of_mem))) (hx1.trans o3.ext)
        have hpl : p = L.flatMap blkS := by rw [← hp, List.take_of_length_le (by omega)]
        rw [hsz, ← hpl] at this
        refine Eq.mp ?_ this
        congr 4
        simp
    · rw [pEq_0, decide_eq_true (by decide), pCond_true]
      refine refPlain_spec hst hcl hsl rfl o ?_ fun v3 H3 o3 => ?_
      · have := flat_cons_len (L.take i)
        rw [hp] at this
        omega
      · refine pExtract_to rfl ?_
        refine pExtract_to rfl ?_
        refine pExtract_to rfl ?_
        exact ⟨rfl, rfl, o3⟩
  refine lighterref07_Read.vc _ _ _ ?_
  unfold lighterref07_Read.res
  refine hrd _ fun H1 v hv hx => ?_
  refine pExtract_to rfl ?_
  refine pExtract_to rfl ?_
  refine pExtract_to rfl ?_
  refine Sl.str hv ?_
  exact h H1 hx
/-- a decoder that is fed piece by piece tells what it tells at once -/
theorem same_spec {L : List (List UInt8)} {rest : List UInt8} {piece : Nat} (hG : Reads H ⟨0, 0, none⟩ ordV) (hL : ∀ c ∈ L, c.length < 65536) (hsl : (strS L rest).length ≤ 100000) (hp0 : 1 ≤ piece) (hp1 : piece ≤ 100) (hr : rest ≠ []) (h : ∀ H', Ext H H' → R (.bool true) H') : CallsH Tryd.prog 15 #[str (strS L rest), .int .i64 (piece : Int)] H R := by
  have hrun := run_strS (L := L) (rest := rest) hL
  have hfl := flat_cons_len L
  have hsz : (strS L rest).length = (L.flatMap blkS).length + 5 + rest.length := by unfold strS; simp; omega
  have hrl : 0 < rest.length := by cases rest with | nil => exact absurd rfl hr | cons _ _ => simp
  have hdrop : (strS L rest).drop ((strS L rest).length - rest.length) = rest := by
    have : strS L rest = (L.flatMap blkS ++ [1, 0, 0, 255, 255]) ++ rest := by unfold strS; simp
    rw [hsz, this, List.drop_append_of_le_length (by simp only [List.length_append, List.length_cons, List.length_nil]; omega), List.drop_of_length_le (by simp only [List.length_append, List.length_cons, List.length_nil]; omega), List.nil_append]
  generalize hs : strS L rest = s at *
  have h0 : (run ⟨.hd, toBits s, []⟩).2.2 = 0 := by rw [hrun]
  refine lighterlaw07_same.vc _ _ _ _ ?_
  unfold lighterlaw07_same.res
  rw [← hs]
  refine refRead_spec hL (by rw [hs]; omega) fun H1 hx1 => ?_
  rw [hs]
  refine pExtract_to rfl ?_
  refine pExtract_to rfl ?_
  refine pExtract_to rfl ?_
  refine new_spec7 (Owns.start (H := H1)) fun H2 b r => ?_
  refine ⟨fun g u H' => ∃ (p : Nat) (M : List It), u = .int .i64 (p : Int) ∧ p ≤ s.length + 100 ∧ g = str (preR s p).1 ∧ Rest7 H1 H' b (preR s p).2.1 (min p s.length) M, fun _ u _ => match u with | .int _ x => 1000000 - x.toNat | _ => 0, ⟨0, [], rfl, by omega, by rw [preR_zero], by rw [preR_zero]; simpa using r⟩, ?_⟩
  rintro _ _ _ H3 ⟨p, M, rfl, hp, rfl, r⟩
  refine pLenS_to ?_
  rw [pLt_v]
  refine pCond_if (fun hc => ?_) (fun hc => ?_)
  · have hpl : p < s.length := by omega
    rw [pAdd_v, w64 (by omega) (by omega)]
    refine pLenS_to ?_
    rw [pMin_v, show min ((p : Int) + (piece : Int)) (s.length : Int) = ((min (p + piece) s.length : Nat) : Int) by omega]
    refine pSlStr_to (lo := p) (hi := min (p + piece) s.length) (.inl rfl) (.inl rfl) (by omega) (by omega) ?_
    have hq : (s.drop p).take (min (p + piece) s.length - p) = (s.drop p).take piece := by
      by_cases g : p + piece ≤ s.length
      · rw [Nat.min_eq_left g, Nat.add_sub_cancel_left]
      · rw [Nat.min_eq_right (by omega), List.take_of_length_le (by rw [List.length_drop]; omega), List.take_of_length_le (by rw [List.length_drop]; omega)]
    rw [hq]
    have hinv := preR_inv s p
    have hnx := preR_next h0 p piece
    have hok := preR_ok h0 (p + piece)
    have hql : ((s.drop p).take piece).length ≤ 100 := by rw [List.length_take]; omega
    have hql2 : ((s.drop p).take piece).length = min (p + piece) s.length - p := by rw [List.length_take, List.length_drop]; omega
    refine feed_spec7 (hG.ext hx1) r hinv.2.2 (by omega) (by omega) (fun o D' H4 M2 hr4 r4 => ?_) (fun o D' e H4 M2 hr4 he d => ?_)
    · rw [hr4] at hnx
      refine pExtract_to rfl ?_
      refine pExtract_to rfl ?_
      refine pAdd_str ?_ ?_
      · have h1 := preR_inv s (p + piece)
        rw [hnx] at h1
        have h2 := congrArg List.length h1.1
        dsimp only at h1 h2
        rw [List.length_append] at h2
        omega
      refine ne_ok ?_
      rw [pCond_false, pAdd_v, show (p : Int) + (piece : Int) = ((p + piece : Nat) : Int) by omega, w64 (by omega) (by omega)]
      refine ⟨⟨p + piece, M2 ++ M, rfl, by omega, by rw [hnx], ?_⟩, by show 1000000 - ((p + piece : Nat) : Int).toNat < 1000000 - (p : Int).toNat; omega⟩
      rw [hnx]
      rw [hql2, show min p s.length + (min (p + piece) s.length - p) = min (p + piece) s.length by omega] at r4
      exact r4
    · rw [hr4] at hnx
      rw [hnx] at hok
      exact absurd hok he
  · have hall := preR_all (s := s) (p := p) (by omega)
    rw [hrun] at hall
    rw [hall] at r ⊢
    rw [Nat.min_eq_right (by omega)] at r
    rw [pEq_0, decide_eq_false (by decide), pCond_false, pAdd_v, w64 (by omega) (by omega), pQuo_v]
    refine ⟨by decide, ?_⟩
    rw [Int.tdiv_eq_ediv_of_nonneg (by omega), show (((8 * (s.length - rest.length) : Nat) : Int) + 7) / 8 = ((s.length - rest.length : Nat) : Int) by omega, w64 (by omega) (by omega), pEq_0, decide_eq_true (p := (0 : Int) = 0) rfl]
    refine pAnd_true ?_
    refine pEq1_to ?_
    rw [decide_eq_true rfl]
    intro _
    refine pAnd_true ?_
    refine done_spec7 r ?_
    intro _
    refine pAnd_true ?_
    have hrest : toBytes ((alB (toBits rest)).take (8 * ((toBits rest).length / 8))) = rest := by
      have : alB (toBits rest) = toBits rest := by unfold alB; rw [toBits8]; rfl
      rw [this, toBits_len, Nat.mul_div_cancel_left _ (by decide), List.take_of_length_le (by rw [toBits_len]; omega), toBytes_toBits']
    refine used_spec7 r rfl (by omega) (by show (toBits rest).length ≤ _; rw [toBits_len]; omega) fun H4 hx4 => ?_
    rw [show (DM.mk .dn (toBits rest) L.flatten).B = toBits rest from rfl, hrest, pEq_0, decide_eq_true (by omega)]
    intro _
    refine pAnd_true ?_
    refine pSlStr_to (lo := s.length - rest.length) (hi := s.length) (.inl rfl) (.inr ⟨rfl, rfl⟩) (by omega) (by omega) ?_
    rw [hdrop, List.take_of_length_le (by omega)]
    have r4 := r.more hx4
    refine rest_spec7 r4 rfl fun H5 hx5 => ?_
    rw [show (DM.mk .dn (toBits rest) L.flatten).B = toBits rest from rfl, hrest]
    refine pEq1_to ?_
    rw [decide_eq_true rfl]
    intro _
    have hx3 : Ext H1 H3 := by obtain ⟨q, _, bp, bv, _, _, rv, ring, _, _, o⟩ := r; exact o.ext
    exact h H5 (((hx1.trans hx3).trans hx4).trans hx5)
theorem InflateStored_law (text : List UInt8) (cut piece : Int) (hG : Reads H ⟨0, 0, none⟩ ordV) (w0 : (ByteArray.mk text.toArray).size ≤ maxLen) (w1 : (Lit.int .i64 cut).wf = true) (w2 : (Lit.int .i64 piece).wf = true) : CallsH Tryd.prog 4 #[str text, .int .i64 cut, .int .i64 piece] H (LawOk H) := by
  have htl : text.length ≤ 9223372036854775807 := w0
  refine lighterlaw07_InflateStored.vc _ _ _ _ _ ?_
  unfold lighterlaw07_InflateStored.res
  refine speaks07 hG fun H1 hx1 => ?_
  rw [pNot_v, Bool.not_true, pCond_false]
  refine pLenS_to ?_
  rw [pMin_v, show min (text.length : Int) 500 = ((min text.length 500 : Nat) : Int) by omega]
  refine pSlStr_to (lo := 0) (hi := min text.length 500) (.inr ⟨rfl, rfl⟩) (.inl rfl) (by omega) (by omega) ?_
  have hxl : ((text.drop 0).take (min text.length 500 - 0)).length ≤ 500 := by rw [List.length_take]; omega
  generalize (text.drop 0).take (min text.length 500 - 0) = x at *
  rw [pBits_v, and_low (k := 6) (m := 63) (by decide) rfl, pAdd_v, w64 (by omega) (by omega)]
  obtain ⟨k, hk⟩ : ∃ k : Nat, 1 + cut % 2 ^ 6 = (k : Int) := ⟨(1 + cut % 2 ^ 6).toNat, by omega⟩
  have hk1 : 1 ≤ k ∧ k ≤ 64 := by omega
  rw [hk]
  refine ⟨fun s u H' => ∃ (L : List (List UInt8)) (a : Nat), u = .int .i64 (a : Int) ∧ a ≤ x.length + 64 ∧ s = str (L.flatMap blkS) ∧ L.flatten = x.take a ∧ (∀ c ∈ L, c.length ≤ 64) ∧ L.length ≤ a ∧ Ext H H', fun _ u _ => match u with | .int _ y => 1000000 - y.toNat | _ => 0, ⟨[], 0, rfl, by omega, rfl, rfl, by simp, by simp, hx1⟩, ?_⟩
  rintro _ _ _ H2 ⟨L, a, rfl, ha, rfl, hf, hc64, hLa, hx2⟩
  have hfl := flat_cons_len L
  have hff : L.flatten.length ≤ 500 := by rw [hf, List.length_take]; omega
  refine pLenS_to ?_
  rw [pLt_v]
  refine pCond_if (fun hc => ?_) (fun hc => ?_)
  · have hax : a < x.length := by omega
    refine pLenS_to ?_
    rw [pSub_v, w64 (by omega) (by omega), pMin_v, show min (k : Int) ((x.length : Int) - (a : Int)) = ((min k (x.length - a) : Nat) : Int) by omega]
    generalize hn : min k (x.length - a) = n at *
    have hnb : n ≤ 64 ∧ a + n ≤ x.length := by omega
    refine pConv_to ?_
    rw [wu64 (by omega) (by omega), pSub_v, show (65535 : Int) - (n : Int) = ((65535 - n : Nat) : Int) by omega, w64 (by omega) (by omega)]
    refine pConv_to ?_
    rw [wu64 (by omega) (by omega), pAdd_v, show (a : Int) + (n : Int) = ((a + n : Nat) : Int) by omega, w64 (by omega) (by omega)]
    refine pSlStr_to (lo := a) (hi := a + n) (.inl rfl) (.inl rfl) (by omega) (by omega) ?_
    rw [Nat.add_sub_cancel_left]
    have hcl : ((x.drop a).take n).length = n := by rw [List.length_take, List.length_drop]; omega
    refine put_at (n := n) (kn := 2) rfl (by omega) (by decide) (by decide) fun H3 hx3 => ?_
    have h1 : (putN n 2).length = 2 := putN_len _ _
    have h2 : (putN (65535 - n) 2).length = 2 := putN_len _ _
    refine pAdd_str (by rw [h1]; decide) ?_
    refine put_at (n := 65535 - n) (kn := 2) rfl (by omega) (by decide) (by decide) fun H4 hx4 => ?_
    refine pAdd_str (by rw [List.length_append, h1, h2]; decide) ?_
    refine pAdd_str (by rw [List.length_append, List.length_append, h1, h2, hcl]; simp; omega) ?_
    refine pAdd_str (by simp only [List.length_append, List.length_cons, List.length_nil, h1, h2, hcl, hfl]; omega) ?_
    rw [pAdd_v, show (a : Int) + (k : Int) = ((a + k : Nat) : Int) by omega, w64 (by omega) (by omega)]
    refine ⟨⟨L ++ [(x.drop a).take n], a + k, rfl, by omega, ?_, ?_, ?_, by rw [List.length_append, List.length_singleton]; omega, (hx2.trans hx3).trans hx4⟩, by show 1000000 - ((a + k : Nat) : Int).toNat < 1000000 - (a : Int).toNat; omega⟩
    · rw [List.flatMap_append]
      congr 1
      rw [List.flatMap_cons, List.flatMap_nil, List.append_nil]
      unfold blkS
      rw [hcl]
      simp
    · rw [List.flatten_append, hf]
      simp only [List.flatten_cons, List.flatten_nil, List.append_nil]
      rw [List.take_add]
      congr 1
      by_cases g : k ≤ x.length - a
      · rw [show n = k by omega]
      · rw [List.take_of_length_le (by rw [List.length_drop]; omega), List.take_of_length_le (by rw [List.length_drop]; omega)]
    · intro c hcm
      rcases List.mem_append.1 hcm with g | g
      · exact hc64 c g
      · rw [List.mem_singleton.1 g, hcl]; omega
  · rw [List.take_of_length_le (by omega)] at hf
    have hL : ∀ c ∈ L, c.length < 65536 := fun c hcm => by have := hc64 c hcm; omega
    refine pAdd_str (by simp only [List.length_append, List.length_cons, List.length_nil, hfl]; omega) ?_
    refine pAdd_str (by simp only [List.length_append, List.length_cons, List.length_nil, hfl]; omega) ?_
    have es : L.flatMap blkS ++ [1, 0, 0, 255, 255] ++ [114, 101, 115, 116] = strS L [114, 101, 115, 116] := by unfold strS; rw [List.append_assoc]
    rw [es]
    have hsl : (strS L [114, 101, 115, 116]).length ≤ 100000 := by unfold strS; simp only [List.length_append, List.length_cons, List.length_nil, hfl]; omega
    have hrun := run_strS (L := L) (rest := [114, 101, 115, 116]) hL
    have hG2 := hG.ext hx2
    refine all_spec7 hG2 (Owns.start (H := H2)) (by omega) (fun o D' H3 hr hd hx3 => ?_) (fun o D' H3 hr hd hx3 => ?_) (fun o D' e H3 hr he hx3 => ?_)
    rotate_left
    · rw [hrun] at hr
      simp only [Prod.mk.injEq] at hr
      obtain ⟨-, rfl, -⟩ := hr
      cases hd
    · rw [hrun] at hr
      simp only [Prod.mk.injEq] at hr
      exact absurd hr.2.2.symm he
    rw [hrun] at hr
    simp only [Prod.mk.injEq] at hr
    obtain ⟨rfl, rfl, -⟩ := hr
    rw [show toBytes ((alB (DM.mk .dn (toBits [114, 101, 115, 116]) L.flatten).B).take (8 * ((DM.mk .dn (toBits [114, 101, 115, 116]) L.flatten).B.length / 8))) = [114, 101, 115, 116] from (by decide : toBytes ((alB (toBits [114, 101, 115, 116])).take (8 * ((toBits [114, 101, 115, 116]).length / 8))) = [114, 101, 115, 116])]
    refine pExtract_to rfl ?_
    refine pExtract_to rfl ?_
    refine pExtract_to rfl ?_
    rw [pEq_0, decide_eq_true (p := (0 : Int) = 0) rfl]
    refine pAnd_true ?_
    refine pEq1_to ?_
    rw [decide_eq_true hf]
    intro _
    refine pAnd_true ?_
    refine pEq1_to ?_
    rw [decide_eq_true rfl]
    intro _
    refine pAnd_true ?_
    refine pAdd_str (by simp only [List.length_append, List.length_cons, List.length_nil, hfl]; omega) ?_
    rw [es, pBits_v, and_low (k := 4) (m := 15) (by decide) rfl, pAdd_v, w64 (by omega) (by omega)]
    obtain ⟨pc, hpc⟩ : ∃ pc : Nat, 1 + piece % 2 ^ 4 = (pc : Int) := ⟨(1 + piece % 2 ^ 4).toNat, by omega⟩
    rw [hpc]
    refine same_spec (hG2.ext hx3) hL hsl (by omega) (by omega) (by simp) fun H4 hx4 => ?_
    intro _
    exact ⟨rfl, (hx2.trans hx3).trans hx4⟩
end Go.Proofs.YtpnkoniomalcpaaDoor
