/- The decoder's steps over heaps: bytes, symbols, a step as a whole. -/
import Derived.Test.YtpnkoniomalcpaaDoorInf5
import Derived.Test.YtpnkoniomalcpaaDoorLzNum
namespace Go.Proofs.YtpnkoniomalcpaaDoor
open Go Go.Vc Go.Proofs
set_option linter.unusedVariables false
set_option linter.unusedSimpArgs false
variable {H H0 : Heap} {R : Value → Heap → Prop} {v fed : Value} {B : List Bool} {L M : List It} {b : Nat} {q : List Value} {W out : List UInt8}
theorem ended_spec {st left sy di : Value} {l : Bool} (h1 : oneCell left = true) (h2 : oneCell sy = true) (h3 : oneCell di = true) (d : Dc H0 H b [st, .bool l, left, sy, di, fed, .int .i64 0] B W out L)
    (h : ∀ H' q', Dc H0 H' b q' (endM l B W).B (endM l B W).W out L → StQ L fed (endM l B W).st q' → R (.tuple #[]) H') : CallsH Tryd.prog 52 #[at_ b 0] H R := by
  refine inflate_Decoder_ended.vc _ _ _ ?_
  unfold inflate_Decoder_ended.res
  rw [pNil_v, pFieldAddr_v, add_mk]
  refine d.ps (g := 0 + 7) (by decide) (by simp) rfl fun H1 d => ?_
  rw [pNil_v, pFieldAddr_v, add_mk]
  refine d.pl (g := 0 + 8) (x := .bool l) (by decide) rfl ?_
  cases l with
  | true =>
    rw [pCond_true, pNil_v, pFieldAddr_v, add_mk]
    refine d.ps (g := 0 + 7) (by decide) (by simp) rfl fun H2 d => ?_
    rw [pNil_v, pFieldAddr_v, add_mk]
    obtain ⟨post, rv, bv, ring, o, back⟩ := d.rd
    refine rAlign_spec (rdP_rd o (by repeat (first | exact List.mem_cons_self | apply List.mem_cons_of_mem))) fun H3 w c => ?_
    have o := o.rd w c Rep.here
    exact h H3 _ (back H3 (alB B) L o) ⟨_, _, _, _, _, rfl, rfl, h1, h2, h3, rfl⟩
  | false =>
    rw [pCond_false]
    exact h H1 _ d ⟨_, _, _, _, _, rfl, rfl, h1, h2, h3, rfl⟩
theorem toBytes_k {l : List Bool} {k : Nat} (h : l.length = 8 * k) : (toBytes l).length = k := toBytes_len k l (by omega)
theorem copied_spec {left : Nat} {last : Bool} (hq : StQ L fed (.cp left last) q) (hl : left ≤ 65535) (hsz : W.length + 258 * B.length ≤ 1000000000000) (ho : out.length ≤ W.length) (d : Dc H0 H b q B W out L)
    (hgo : ∀ D' o H' q', stepM ⟨.cp left last, B, W⟩ = .go D' o → Dc H0 H' b q' D'.B D'.W (out ++ o) L → StQ L fed D'.st q' → R (.int .i64 0) H')
    (hwt : ∀ D' o H' q', stepM ⟨.cp left last, B, W⟩ = .wait D' o → Dc H0 H' b q' D'.B D'.W (out ++ o) L → StQ L fed D'.st q' → R (.int .i64 2) H') : CallsH Tryd.prog 41 #[at_ b 0] H R := by
  obtain ⟨_, _, _, sy, di, rfl, -, -, h4, h5, rfl, rfl, rfl⟩ := hq
  have hq7 : ([i64 1, .bool last, i64 left, sy, di, fed, .int .i64 0] : List Value).length = 7 := rfl
  have hal := alB_len B
  refine inflate_Decoder_copied.vc _ _ _ ?_
  unfold inflate_Decoder_copied.res
  rw [pNil_v, pFieldAddr_v, add_mk, pNil_v, pFieldAddr_v, add_mk]
  refine d.pl (g := 0 + 9) (x := i64 left) (by decide) rfl ?_
  obtain ⟨post, rv, bv, ring, o, back⟩ := d.rd
  refine rTake_spec (n := (left : Int)) (by omega) (rdP_rd o (by repeat (first | exact List.mem_cons_self | apply List.mem_cons_of_mem))) fun H1 k hk w c => ?_
  change k = min (left : Int).toNat ((B.length - B.length % 8) / 8) at hk
  rw [← hal.2, Int.toNat_natCast] at hk
  change Rd H1 b 0 ((alB B).drop (8 * k)) at w
  change pNil (at_ b 0) _
  rw [show List.drop (B.length % 8) B = alB B from rfl]
  have d := back H1 _ L (o.rd w c Rep.here)
  have hkl : 8 * k ≤ (alB B).length := by omega
  have htl : (toBytes ((alB B).take (8 * k))).length = k := toBytes_k (by rw [List.length_take]; omega)
  rw [pNil_v, pFieldAddr_v, add_mk]
  refine d.pl (g := 0 + 9) (x := i64 left) (by decide) rfl ?_
  refine pLenS_to ?_
  rw [htl, pSub_v, show (left : Int) - (k : Int) = ((left - k : Nat) : Int) by omega, w64 (by omega) (by omega), pNil_v, pFieldAddr_v, add_mk]
  refine d.ps (g := 0 + 9) (by decide) (by simp) rfl fun H2 d => ?_
  rw [pNil_v, pFieldAddr_v, add_mk]
  obtain ⟨bp, bv, hbp, hbv, w⟩ := d
  refine wadd7 w (by rw [htl]; omega) fun H3 w => ?_
  have d : Dc H0 H3 b _ _ _ out L := ⟨bp, bv, hbp, hbv, w⟩
  rw [pNil_v, pFieldAddr_v, add_mk]
  refine bwriteS7 (by rfl) (by rw [htl]; omega) d fun H4 d => ?_
  rw [pNil_v, pFieldAddr_v, add_mk]
  refine d.pl (g := 0 + 9) (x := i64 (left - k)) (by decide) rfl ?_
  rw [pGt_v]
  have e1 : stepM ⟨.cp left last, B, W⟩ = if min left ((alB B).length / 8) < left then .wait ⟨.cp (left - min left ((alB B).length / 8)) last, (alB B).drop (8 * min left ((alB B).length / 8)), W ++ toBytes ((alB B).take (8 * min left ((alB B).length / 8)))⟩ (toBytes ((alB B).take (8 * min left ((alB B).length / 8))))
      else .go (endM last ((alB B).drop (8 * left)) (W ++ toBytes ((alB B).take (8 * left)))) (toBytes ((alB B).take (8 * left))) := rfl
  rw [← hk] at e1
  refine pCond_if (fun hc => ?_) (fun hc => ?_)
  · rw [if_pos (by omega)] at e1
    exact hwt _ _ H4 _ e1 d ⟨_, _, _, _, _, rfl, rfl, rfl, h4, h5, rfl, rfl, rfl⟩
  · have hkk : k = left := by omega
    rw [if_neg (by omega)] at e1
    rw [hkk] at d
    refine ended_spec (left := i64 (left - left)) (sy := sy) (di := di) rfl h4 h5 d fun H5 q' d hs => ?_
    exact hgo _ _ H5 _ e1 d hs
theorem lens_facts : ∀ k : Fin 29, 3 ≤ (lenOf (257 + ((k.val : Nat) : Int))).1 ∧ 0 ≤ (lenOf (257 + ((k.val : Nat) : Int))).2 ∧ (lenOf (257 + ((k.val : Nat) : Int))).2 ≤ 5 ∧ (lenOf (257 + ((k.val : Nat) : Int))).1.toNat + 2 ^ (lenOf (257 + ((k.val : Nat) : Int))).2.toNat ≤ 259 := by decide +kernel
theorem dists_facts : ∀ k : Fin 30, 1 ≤ (distOf ((k.val : Nat) : Int)).1 ∧ 0 ≤ (distOf ((k.val : Nat) : Int)).2 ∧ (distOf ((k.val : Nat) : Int)).2 ≤ 13 ∧ (distOf ((k.val : Nat) : Int)).1.toNat + 2 ^ (distOf ((k.val : Nat) : Int)).2.toNat ≤ 32769 := by decide +kernel
theorem extra_spec {least n : Nat} (hn : n ≤ 32) (hl : least ≤ 100000) (d : Dc H0 H b q B W out L)
    (hok : ∀ x C H', needM n B = .ok x C → x < 2 ^ n → Dc H0 H' b q C W out L → R (.tuple #[i64 (least + x), .int .i64 0]) H')
    (her : needM n B = .er 2 → R (.tuple #[i64 least, .int .i64 2]) H) : CallsH Tryd.prog 70 #[at_ b 0, i64 least, i64 n, .bool true] H R := by
  refine inflate_Decoder_extra.vc _ _ _ _ _ _ ?_
  unfold inflate_Decoder_extra.res
  rw [pNot_v, Bool.not_true, pCond_false, pNil_v, pFieldAddr_v, add_mk]
  obtain ⟨post, rv, bv, ring, o, back⟩ := d.rd
  refine need_spec hn o (fun x C H1 hx hxn o => ?_) (fun hx => ?_)
  · refine pExtract_to rfl ?_
    refine pExtract_to rfl ?_
    have : 2 ^ n ≤ 2 ^ 32 := Nat.pow_le_pow_right (by decide) hn
    rw [pAdd_v, show (least : Int) + (x : Int) = ((least + x : Nat) : Int) by omega, w64 (by omega) (by omega)]
    exact hok x C H1 hx hxn (back _ _ _ o)
  · refine pExtract_to rfl ?_
    refine pExtract_to rfl ?_
    rw [pAdd_v, Int.add_zero, w64 (by omega) (by omega)]
    exact her hx
theorem extra_no {x y : Int} (h : R (.tuple #[.int .i64 0, .int .i64 4]) H) : CallsH Tryd.prog 70 #[at_ b 0, .int .i64 x, .int .i64 y, .bool false] H R := by
  refine inflate_Decoder_extra.vc _ _ _ _ _ _ ?_
  unfold inflate_Decoder_extra.res
  rw [pNot_v, Bool.not_false, pCond_true]
  exact h
theorem match_spec7 {zd : List Int} {s : Nat} {st last left sy di e : Value} (hs : 257 ≤ s) (hsz : W.length + 258 * B.length ≤ 1000000000000) (hB : 0 < B.length ∨ W.length + 258 ≤ 1000000000000) (ho : out.length ≤ W.length) (hc : HasC L zd di) (d : Dc H0 H b [st, last, left, sy, di, fed, e] B W out L)
    (hok : ∀ p C H', matchM zd s B = .ok p C → 1 ≤ p.2 ∧ p.2 ≤ min W.length 32768 → Dc H0 H' b [st, last, left, sy, di, fed, e] C (copyN p.1 W p.2) (out ++ (copyN p.1 W p.2).drop W.length) L → R (.int .i64 0) H')
    (hfar : ∀ p C H', matchM zd s B = .ok p C → ¬ (1 ≤ p.2 ∧ p.2 ≤ min W.length 32768) → Dc H0 H' b [st, last, left, sy, di, fed, e] C W out L → R (.int .i64 6) H')
    (her : ∀ ev C H', matchM zd s B = .er ev → ev ≠ 0 → Dc H0 H' b [st, last, left, sy, di, fed, e] C W out L → R (.int .i64 ev) H') : CallsH Tryd.prog 54 #[at_ b 0, i64 s] H R := by
  generalize hT : matchM zd s B = T at *
  unfold matchM at hT
  rcases Nat.lt_or_ge 285 s with h285 | h285
  · rw [if_pos h285] at hT
    refine inflate_Decoder_match.vc _ _ _ _ ?_
    unfold inflate_Decoder_match.res
    refine lengthOf_spec ?_
    rw [if_pos (.inr (by omega))]
    refine pExtract_to rfl ?_
    refine pExtract_to rfl ?_
    refine pExtract_to rfl ?_
    refine extra_no ?_
    refine pExtract_to rfl ?_
    refine pExtract_to rfl ?_
    refine ne_er (by decide) ?_
    rw [pCond_true]
    exact her 4 B H hT.symm (by decide) d
  rw [if_neg (by omega)] at hT
  refine inflate_Decoder_match.vc _ _ _ _ ?_
  unfold inflate_Decoder_match.res
  refine lengthOf_spec ?_
  rw [if_neg (by omega)]
  refine pExtract_to rfl ?_
  refine pExtract_to rfl ?_
  refine pExtract_to rfl ?_
  obtain ⟨f1, f2, f3, f4⟩ := lens_facts ⟨s - 257, by omega⟩
  have es : (257 : Int) + ((s - 257 : Nat) : Int) = (s : Int) := by omega
  dsimp only at f1 f2 f3 f4
  rw [es] at f1 f2 f3 f4
  have p5 : 0 < 2 ^ (lenOf (s : Int)).2.toNat := Nat.pow_pos (by decide)
  obtain ⟨l1, hl1⟩ : ∃ l1 : Nat, (lenOf (s : Int)).1 = l1 := ⟨_, (Int.toNat_of_nonneg (by omega)).symm⟩
  obtain ⟨n1, hn1⟩ : ∃ n1 : Nat, (lenOf (s : Int)).2 = n1 := ⟨_, (Int.toNat_of_nonneg (by omega)).symm⟩
  rw [hl1] at f1 f4
  rw [hn1] at f2 f3 f4 p5
  rw [hl1, hn1] at hT ⊢
  rw [Int.toNat_natCast, Int.toNat_natCast] at f4 hT
  rw [Int.toNat_natCast] at p5
  refine extra_spec (least := l1) (n := n1) (by omega) (by omega) d (fun x C1 H1 hx hx2 d => ?_) (fun hx => ?_)
  rotate_left
  · rw [hx] at hT
    refine pExtract_to rfl ?_
    refine pExtract_to rfl ?_
    refine ne_er (by decide) ?_
    rw [pCond_true]
    exact her 2 B H hT.symm (by decide) d
  rw [hx] at hT
  dsimp only [Rs.bind] at hT
  refine pExtract_to rfl ?_
  refine pExtract_to rfl ?_
  refine ne_ok ?_
  rw [pCond_false, pNil_v, pFieldAddr_v, add_mk]
  refine d.pl (g := 0 + 11) (x := di) (by decide) rfl ?_
  rw [pNil_v, pFieldAddr_v, add_mk]
  obtain ⟨post, rv, bv, ring, o, back⟩ := d.rd
  refine nextC_spec hc.cons.cons o (fun k C2 H2 hk hkl o => ?_) (fun ev H2 hk he o => ?_)
  rotate_left
  · rw [hk] at hT
    dsimp only [Rs.bind] at hT
    refine pExtract_to rfl ?_
    refine pExtract_to rfl ?_
    refine ne_er he ?_
    rw [pCond_true]
    exact her ev C1 H2 hT.symm he (back _ _ _ o)
  rw [hk] at hT
  dsimp only [Rs.bind] at hT
  have d := back H2 C2 L o
  refine pExtract_to rfl ?_
  refine pExtract_to rfl ?_
  refine ne_ok ?_
  rw [pCond_false]
  refine distOf_spec ?_
  rcases Nat.lt_or_ge 29 k with h29 | h29
  · rw [if_pos h29] at hT
    rw [if_pos (.inr (by omega))]
    refine pExtract_to rfl ?_
    refine pExtract_to rfl ?_
    refine pExtract_to rfl ?_
    refine extra_no ?_
    refine pExtract_to rfl ?_
    refine pExtract_to rfl ?_
    refine ne_er (by decide) ?_
    rw [pCond_true]
    exact her 4 C2 H2 hT.symm (by decide) d
  rw [if_neg (by omega)] at hT
  rw [if_neg (by omega)]
  refine pExtract_to rfl ?_
  refine pExtract_to rfl ?_
  refine pExtract_to rfl ?_
  obtain ⟨g1, g2, g3, g4⟩ := dists_facts ⟨k, by omega⟩
  dsimp only at g1 g2 g3 g4
  obtain ⟨l2, hl2⟩ : ∃ l2 : Nat, (distOf (k : Int)).1 = l2 := ⟨_, (Int.toNat_of_nonneg (by omega)).symm⟩
  obtain ⟨n2, hn2⟩ : ∃ n2 : Nat, (distOf (k : Int)).2 = n2 := ⟨_, (Int.toNat_of_nonneg (by omega)).symm⟩
  have p6 : 0 < 2 ^ (distOf (k : Int)).2.toNat := Nat.pow_pos (by decide)
  rw [hl2] at g1 g4
  rw [hn2] at g2 g3 g4 p6
  rw [hl2, hn2] at hT ⊢
  rw [Int.toNat_natCast, Int.toNat_natCast] at g4 hT
  rw [Int.toNat_natCast] at p6
  refine extra_spec (least := l2) (n := n2) (by omega) (by omega) d (fun y C3 H3 hy hy2 d => ?_) (fun hy => ?_)
  rotate_left
  · rw [hy] at hT
    refine pExtract_to rfl ?_
    refine pExtract_to rfl ?_
    refine ne_er (by decide) ?_
    rw [pCond_true]
    exact her 2 C2 H2 hT.symm (by decide) d
  rw [hy] at hT
  dsimp only [Rs.bind] at hT
  refine pExtract_to rfl ?_
  refine pExtract_to rfl ?_
  refine ne_ok ?_
  rw [pCond_false, pNil_v, pFieldAddr_v, add_mk]
  obtain ⟨bp, bv, hbp, hbv, w⟩ := d
  have hsum : l1 + x ≤ 258 := by omega
  by_cases hd : 1 ≤ l2 + y ∧ l2 + y ≤ min W.length 32768
  · refine wcopy7 w hsum hd.1 hd.2 (by rcases hB with h | h <;> omega) fun H4 w => ?_
    refine pExtract_to rfl ?_
    refine pExtract_to rfl ?_
    rw [pNot_v, Bool.not_true, pCond_false, pNil_v, pFieldAddr_v, add_mk]
    have hcl := copyN_len (l1 + x) W (l2 + y)
    refine bwriteS7 (by rfl) (by rw [List.length_drop, hcl]; rcases hB with h | h <;> omega) ⟨bp, bv, hbp, hbv, w⟩ fun H5 d => ?_
    exact hok (l1 + x, l2 + y) C3 H5 hT.symm hd d
  · refine wcopy_no7 w hsum (by omega) ?_
    refine pExtract_to rfl ?_
    refine pExtract_to rfl ?_
    rw [pNot_v, Bool.not_false, pCond_true]
    exact hfar (l1 + x, l2 + y) C3 H3 hT.symm hd ⟨bp, bv, hbp, hbv, w⟩
theorem symbol_spec7 {zs zd : List Int} {l : Bool} (hq : StQ L fed (.tl zs zd l) q) (hsz : W.length + 258 * B.length ≤ 1000000000000) (ho : out.length ≤ W.length) (d : Dc H0 H b q B W out L)
    (hgo : ∀ D' o H' q', stepM ⟨.tl zs zd l, B, W⟩ = .go D' o → Dc H0 H' b q' D'.B D'.W (out ++ o) L → StQ L fed D'.st q' → R (.int .i64 0) H')
    (her : ∀ e C H', stepM ⟨.tl zs zd l, B, W⟩ = SR.of ⟨.tl zs zd l, B, W⟩ e → e ≠ 0 → Dc H0 H' b q C W out L → R (.int .i64 e) H') : CallsH Tryd.prog 42 #[at_ b 0] H R := by
  have hq0 := hq
  obtain ⟨_, _, left, sy, di, rfl, -, h3, h4, h5, rfl, rfl, hc1, hc2⟩ := hq
  have e1 : stepM ⟨.tl zs zd l, B, W⟩ = match nextM zs B with
    | .er e => SR.of ⟨.tl zs zd l, B, W⟩ e
    | .ok s B2 => if s = 256 then .go (endM l B2 W) [] else if s < 256 then .go ⟨.tl zs zd l, B2, W ++ [UInt8.ofNat s]⟩ [UInt8.ofNat s] else match matchM zd s B2 with
      | .er e => SR.of ⟨.tl zs zd l, B, W⟩ e
      | .ok p B2 => if 1 ≤ p.2 ∧ p.2 ≤ min W.length 32768 then .go ⟨.tl zs zd l, B2, copyN p.1 W p.2⟩ ((copyN p.1 W p.2).drop W.length) else .bad 6 := rfl
  refine inflate_Decoder_symbol.vc _ _ _ ?_
  unfold inflate_Decoder_symbol.res
  rw [pNil_v, pFieldAddr_v, add_mk]
  refine d.pl (g := 0 + 10) (x := sy) (by decide) rfl ?_
  rw [pNil_v, pFieldAddr_v, add_mk]
  obtain ⟨post, rv, bv, ring, o, back⟩ := d.rd
  refine nextC_spec hc1.cons.cons o (fun s C1 H1 hs hsl o => ?_) (fun ev H1 hs he o => ?_)
  rotate_left
  · rw [hs] at e1
    refine pExtract_to rfl ?_
    refine pExtract_to rfl ?_
    refine ne_er he ?_
    rw [pCond_true]
    exact her ev B H1 e1 he (back _ _ _ o)
  have hone := nextM_one hs
  rw [hs] at e1
  dsimp only at e1
  have d := back H1 C1 L o
  refine pExtract_to rfl ?_
  refine pExtract_to rfl ?_
  refine ne_ok ?_
  rw [pCond_false, pEq_0]
  refine pCond_if (fun h256 => ?_) (fun h256 => ?_)
  · rw [if_pos (by omega)] at e1
    refine ended_spec h3 h4 h5 d fun H2 q' d hs => ?_
    exact hgo _ _ H2 _ e1 (by rw [List.append_nil]; exact d) hs
  rw [if_neg (by omega)] at e1
  rw [pGt_v]
  refine pCond_if (fun hgt => ?_) (fun hgt => ?_)
  · rw [if_neg (by omega)] at e1
    refine match_spec7 (by omega) (by omega) (.inr (by omega)) ho hc2 d (fun p C H2 hm hp d => ?_) (fun p C H2 hm hp d => ?_) (fun ev C H2 hm he d => ?_)
    · rw [hm] at e1
      dsimp only at e1
      rw [if_pos hp] at e1
      exact hgo _ _ H2 _ e1 d hq0
    · rw [hm] at e1
      dsimp only at e1
      rw [if_neg hp] at e1
      refine her 6 C H2 (by rw [e1]; rfl) (by decide) d
    · rw [hm] at e1
      exact her ev C H2 e1 he d
  · rw [if_pos (by omega)] at e1
    rw [pNil_v, pFieldAddr_v, add_mk]
    refine pConv_to ?_
    have eb : Value.int .u8 (IntKind.u8.wrap (s : Int)) = byteV (UInt8.ofNat s) := by
      have := byte_low (v := s)
      rw [Nat.mod_eq_of_lt (by omega)] at this
      exact this
    rw [eb]
    obtain ⟨bp, bv, hbp, hbv, w⟩ := d
    refine wput7 w (by omega) fun H2 w => ?_
    rw [pNil_v, pFieldAddr_v, add_mk]
    refine pConv_to ?_
    rw [eb]
    refine bwriteB7 (by rfl) (by omega) ⟨bp, bv, hbp, hbv, w⟩ fun H3 d => ?_
    exact hgo _ _ H3 _ e1 d hq0
end Go.Proofs.YtpnkoniomalcpaaDoor
