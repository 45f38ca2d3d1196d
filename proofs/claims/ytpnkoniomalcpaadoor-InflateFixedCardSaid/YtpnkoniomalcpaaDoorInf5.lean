/- The decoder's steps over heaps. -/
import Derived.Test.YtpnkoniomalcpaaDoorInf4
namespace Go.Proofs.YtpnkoniomalcpaaDoor
open Go Go.Vc Go.Proofs
set_option linter.unusedVariables false
set_option linter.unusedSimpArgs false
variable {H H0 : Heap} {R : Value → Heap → Prop} {v fed : Value} {B : List Bool} {L M : List It} {b : Nat} {q : List Value} {W out : List UInt8}
theorem inf_xor {a b : Nat} (ha : a < 4611686018427387904) (hb : b < 4611686018427387904) : bitsOf .xor .i64 (a : Int) (b : Int) = ((a ^^^ b : Nat) : Int) := by
  have hlt : a ^^^ b < 2 ^ 62 := Nat.xor_lt_two_pow (by simpa using ha) (by simpa using hb)
  have e : ((BitVec.ofInt 64 (a : Int)) ^^^ (BitVec.ofInt 64 (b : Int))).toNat = a ^^^ b := by
    rw [BitVec.toNat_xor, BitVec.ofInt_natCast, BitVec.ofInt_natCast, BitVec.toNat_ofNat, BitVec.toNat_ofNat, Nat.mod_eq_of_lt (by omega), Nat.mod_eq_of_lt (by omega)]
  show IntKind.i64.wrap ((((BitVec.ofInt 64 (a : Int)) ^^^ (BitVec.ofInt 64 (b : Int))).toNat : Nat) : Int) = _
  rw [e, w64 (by omega) (by omega)]
/-- the cells behind the builder, whatever the state -/
def AnyQ (fed : Value) (q : List Value) : Prop := ∃ (n : Nat) (last left sy di : Value), q = [i64 n, last, left, sy, di, fed, .int .i64 0] ∧ n < 3 ∧ oneCell last = true ∧ oneCell left = true ∧ oneCell sy = true ∧ oneCell di = true
/-- the cells behind the builder, as a state tells -/
def StQ (L : List It) (fed : Value) (s : St) (q : List Value) : Prop := ∃ (st last left sy di : Value), q = [st, last, left, sy, di, fed, .int .i64 0] ∧ oneCell last = true ∧ oneCell left = true ∧ oneCell sy = true ∧ oneCell di = true ∧ match s with
  | .hd => st = i64 0
  | .cp n l => st = i64 1 ∧ last = .bool l ∧ left = i64 n
  | .tl zs zd l => st = i64 2 ∧ last = .bool l ∧ HasC L zs sy ∧ HasC L zd di
  | .dn => st = i64 3
theorem StQ.len {s : St} (h : StQ L fed s q) : q.length = 7 := by obtain ⟨_, _, _, _, _, rfl, _⟩ := h; rfl
theorem AnyQ.len (h : AnyQ fed q) : q.length = 7 := by obtain ⟨_, _, _, _, _, rfl, _⟩ := h; rfl
theorem StQ.mono {L' : List It} {s : St} (h : StQ L fed s q) (hm : ∀ i ∈ L, i ∈ L') : StQ L' fed s q := by
  obtain ⟨st, last, left, sy, di, h1, h2, h3, h4, h5, h6⟩ := h
  refine ⟨st, last, left, sy, di, h1, h2, h3, h4, h5, ?_⟩
  cases s with
  | tl zs zd l => exact ⟨h6.1, h6.2.1, h6.2.2.1.mono hm, h6.2.2.2.mono hm⟩
  | _ => exact h6
theorem HasC.one {zs : List Int} {p : Value} (h : HasC L zs p) : oneCell p = true := by obtain ⟨_, _, _, _, _, rfl, _⟩ := h; rfl
theorem Dc.pl {K : Value → Prop} {g : Nat} {x : Value} (d : Dc H0 H b q B W out L) (h7 : 7 ≤ g) (hx : q[g - 7]? = some x) (hk : K x) : pLoad H (at_ b g) K := by
  obtain ⟨bp, bv, hbp, hbv, w⟩ := d
  refine w.pl (x := x) (by omega) ?_ hk
  obtain ⟨j, rfl⟩ : ∃ j, g = j + 7 := ⟨g - 7, by omega⟩
  simp only [Nat.add_sub_cancel] at hx
  rw [show j + 7 - 5 = j + 1 + 1 by omega]
  exact hx
theorem Dc.ps {K : Value → Heap → Prop} {g : Nat} {x : Value} (d : Dc H0 H b q B W out L) (h7 : 7 ≤ g) (hg : g - 7 < q.length) (hx : oneCell x = true) (hk : ∀ H', Dc H0 H' b (q.set (g - 7) x) B W out L → K undef H') : pStore H (at_ b g) x K := by
  obtain ⟨bp, bv, hbp, hbv, w⟩ := d
  refine w.ps (by omega) (by simp; omega) hx fun H' w => hk H' ⟨bp, bv, hbp, hbv, ?_⟩
  obtain ⟨j, rfl⟩ : ∃ j, g = j + 7 := ⟨g - 7, by omega⟩
  rw [show j + 7 - 5 = j + 1 + 1 by omega] at w
  exact w
/-- the reader's things, and how they are put back -/
theorem Dc.rd (d : Dc H0 H b q B W out L) : ∃ (post : List Value) (rv bv : Value) (ring : List UInt8), Owns H0 H (rdI b post 71 B :: .sl rv 1 (ring.map byteV) :: .thing (bufT bv out) :: L) ∧ ∀ H' C M, Owns H0 H' (rdI b post 71 C :: .sl rv 1 (ring.map byteV) :: .thing (bufT bv out) :: M) → Dc H0 H' b q C W out M := by
  obtain ⟨bp, bv, hbp, hbv, rv, ring, hr, hs, o⟩ := d
  exact ⟨_, rv, bv, ring, o, fun H' C M o => ⟨bp, bv, hbp, hbv, rv, ring, hr, hs, o⟩⟩
theorem owns_m2 {M : List It} {i j k : It} (o : Owns H0 H (i :: (M ++ j :: k :: L))) : Owns H0 H (i :: j :: k :: (M ++ L)) := by
  refine o.perm (List.Perm.cons _ ?_)
  refine List.Perm.symm (List.perm_middle.trans (List.Perm.cons _ List.perm_middle))
theorem stored_spec (d : Dc H0 H b q B W out L)
    (hok : ∀ x C H', needM 32 (alB B) = .ok x C → (x % 65536) ^^^ (x / 65536) = 65535 → Dc H0 H' b q C W out L → R (.tuple #[i64 (x % 65536), .int .i64 0]) H')
    (hbad : ∀ x C H', needM 32 (alB B) = .ok x C → (x % 65536) ^^^ (x / 65536) ≠ 65535 → Dc H0 H' b q C W out L → R (.tuple #[i64 (x % 65536), .int .i64 8]) H')
    (her : ∀ H', needM 32 (alB B) = .er 2 → Dc H0 H' b q (alB B) W out L → R (.tuple #[i64 0, .int .i64 2]) H') : CallsH Tryd.prog 47 #[at_ b 0] H R := by
  obtain ⟨post, rv, bv, ring, o, back⟩ := d.rd
  refine inflate_storedLength.vc _ _ _ ?_
  unfold inflate_storedLength.res
  refine rAlign_spec (rdP_rd o (by repeat (first | exact List.mem_cons_self | apply List.mem_cons_of_mem))) fun H1 w c => ?_
  have o := o.rd w c Rep.here
  change Owns H0 H1 (rdI b post 71 (alB B) :: _) at o
  refine need_spec (n := 32) (by decide) o (fun x C H2 hx hx32 o => ?_) (fun hx => ?_)
  · refine pExtract_to rfl ?_
    refine pExtract_to rfl ?_
    have a1 := and_i64 (v := x) (k := 16) (m := 65535) (by decide) rfl
    rw [show (2 : Nat) ^ 16 = 65536 from rfl] at a1
    have e1 : bitsOf .xor .i64 ((x % 65536 : Nat) : Int) ((x / 65536 : Nat) : Int) = (((x % 65536) ^^^ (x / 65536) : Nat) : Int) := inf_xor (by omega) (by omega)
    refine ⟨fun e H' => H2 = H' ∧ e = if (x % 65536) ^^^ (x / 65536) ≠ 65535 then .int .i64 8 else .int .i64 0, ?_, ?_⟩
    · rintro _ _ _ ⟨rfl, rfl⟩
      rw [pBits_v, a1]
      by_cases hb : (x % 65536) ^^^ (x / 65536) ≠ 65535
      · rw [if_pos hb]; exact hbad x C H2 hx hb (back _ _ _ o)
      · rw [if_neg hb]; exact hok x C H2 hx (Decidable.not_not.1 hb) (back _ _ _ o)
    · rw [pEq_0, decide_eq_true rfl]
      refine pAnd_true ?_
      rw [pBits_v, a1, pShr_v]
      refine ⟨by decide, ?_⟩
      rw [fdiv_nat (m := min (Int.toNat 16) IntKind.i64.bits) (j := 16) rfl, show (2 : Nat) ^ 16 = 65536 from rfl, pBits_v, e1, pNe_0]
      intro _
      by_cases hb : (x % 65536) ^^^ (x / 65536) ≠ 65535
      · rw [decide_eq_true (by omega), pCond_true, if_pos hb]; exact ⟨rfl, rfl⟩
      · rw [decide_eq_false (by omega), pCond_false, if_neg hb]; exact ⟨rfl, rfl⟩
  · refine pExtract_to rfl ?_
    refine pExtract_to rfl ?_
    refine ⟨fun e H' => H1 = H' ∧ e = .int .i64 2, ?_, ?_⟩
    · rintro _ _ _ ⟨rfl, rfl⟩
      rw [pBits_v]
      exact her H1 hx (back _ _ _ o)
    · rw [pEq_0, decide_eq_false (by decide), pAnd_false]
      intro _
      rw [pCond_false]
      exact ⟨rfl, rfl⟩
theorem head_spec7 (hG : Reads H0 ⟨0, 0, none⟩ ordV) (hq : AnyQ fed q) (d : Dc H0 H b q B W out L)
    (hok : ∀ st C H' M q', headM B = .ok st C → Dc H0 H' b q' C W out (M ++ L) → StQ (M ++ L) fed st q' → R (.int .i64 0) H')
    (her : ∀ e H' C q', headM B = .er e → e ≠ 0 → Dc H0 H' b q' C W out L → AnyQ fed q' → R (.int .i64 e) H') : CallsH Tryd.prog 40 #[at_ b 0] H R := by
  obtain ⟨n, last, left, sy, di, rfl, hn3, hla, hle, hsy, hdi⟩ := hq
  generalize hT : headM B = T at *
  unfold headM at hT
  refine inflate_Decoder_head.vc _ _ _ ?_
  unfold inflate_Decoder_head.res
  rw [pNil_v, pFieldAddr_v, add_mk]
  obtain ⟨post, rv, bv, ring, o, back⟩ := d.rd
  refine need_spec (n := 3) (by decide) o (fun x C1 H1 hx hx3 o => ?_) (fun hx => ?_)
  rotate_left
  · rw [hx] at hT
    refine pExtract_to rfl ?_
    refine pExtract_to rfl ?_
    refine ne_er (by decide) ?_
    rw [pCond_true]
    exact her 2 H B _ hT.symm (by decide) d ⟨n, last, left, sy, di, rfl, hn3, hla, hle, hsy, hdi⟩
  rw [hx] at hT
  dsimp only [Rs.bind] at hT
  have d := back _ _ _ o
  refine pExtract_to rfl ?_
  refine pExtract_to rfl ?_
  refine ne_ok ?_
  rw [pCond_false]
  have hx8 : x < 8 := hx3
  have a1 := and_i64 (v := x) (k := 1) (m := 1) (by decide) rfl
  rw [show (2 : Nat) ^ 1 = 2 from rfl] at a1
  refine ⟨fun e H' => ∃ q' C M, Dc H0 H' b q' C W out (M ++ L) ∧ ((e = .int .i64 0 ∧ ∀ lastV, ∃ st, lastV = .bool (decide (x % 2 = 1)) → T = .ok st C ∧ StQ (M ++ L) fed st (q'.set 1 lastV)) ∨ (∃ ev, e = .int .i64 ev ∧ T = .er ev ∧ ev ≠ 0 ∧ AnyQ fed q' ∧ M = [])), ?_, ?_⟩
  · rintro _ _ H2 ⟨q', C, M, d, hd⟩
    rw [pBits_v, a1, pEq_0, pNil_v, pFieldAddr_v, add_mk]
    have hl7 : 7 = q'.length := by
      rcases hd with ⟨_, h⟩ | ⟨ev, _, _, _, h, _⟩
      · obtain ⟨st, h⟩ := h (.bool (decide (x % 2 = 1)))
        have := (h rfl).2.len
        rw [List.length_set] at this
        exact this.symm
      · exact h.len.symm
    refine d.ps (g := 0 + 8) (by decide) (by omega) rfl fun H3 d => ?_
    have eb : (decide (((x % 2 : Nat) : Int) = 1)) = decide (x % 2 = 1) := by rw [Bool.eq_iff_iff, decide_eq_true_eq, decide_eq_true_eq]; omega
    rw [eb] at d
    rcases hd with ⟨rfl, h⟩ | ⟨ev, rfl, h1, h2, h3, rfl⟩
    · obtain ⟨st, h⟩ := h (.bool (decide (x % 2 = 1)))
      obtain ⟨h1, h2⟩ := h rfl
      exact hok st C H3 M _ h1 d h2
    · refine her ev H3 C _ h1 h2 d ?_
      obtain ⟨n, last, left, sy, di, rfl, g1, g2, g3, g4, g5⟩ := h3
      exact ⟨n, _, left, sy, di, rfl, g1, rfl, g3, g4, g5⟩
  rw [pShr_v]
  refine ⟨by decide, ?_⟩
  rw [fdiv_nat (m := min (Int.toNat 1) IntKind.i64.bits) (j := 1) rfl, show (2 : Nat) ^ 1 = 2 from rfl, pEq_0]
  refine pCond_if (fun h0 => ?_) (fun h0 => ?_)
  · rw [if_pos (by omega)] at hT
    rw [pNil_v, pFieldAddr_v, add_mk]
    have fin : ∀ (nv : Nat) (ev : Int) (C : List Bool) (H2 : Heap), Dc H0 H2 b [i64 n, last, left, sy, di, fed, .int .i64 0] C W out L → ((ev = 0 ∧ T = .ok (.cp nv (decide (x % 2 = 1))) C) ∨ (T = .er ev ∧ ev ≠ 0)) →
        pNil (at_ b 0) fun x27 => pFieldAddr 9 x27 fun x28 => pStore H2 x28 (i64 nv) fun _ H_6 => pNil (at_ b 0) fun x30 => pFieldAddr 7 x30 fun x31 => pStore H_6 x31 (.int .i64 1) fun _ H_7 =>
        (∃ q' C M, Dc H0 H_7 b q' C W out (M ++ L) ∧ (((.int .i64 ev : Value) = .int .i64 0 ∧ ∀ lastV, ∃ st, lastV = .bool (decide (x % 2 = 1)) → T = .ok st C ∧ StQ (M ++ L) fed st (q'.set 1 lastV)) ∨ (∃ ev', (.int .i64 ev : Value) = .int .i64 ev' ∧ T = .er ev' ∧ ev' ≠ 0 ∧ AnyQ fed q' ∧ M = []))) := by
      intro nv ev C H2 d hh
      rw [pNil_v, pFieldAddr_v, add_mk]
      refine d.ps (g := 0 + 9) (by decide) (by simp) rfl fun H3 d => ?_
      rw [pNil_v, pFieldAddr_v, add_mk]
      refine d.ps (g := 0 + 7) (by decide) (by simp) rfl fun H4 d => ?_
      refine ⟨_, C, [], d, ?_⟩
      rcases hh with ⟨rfl, h⟩ | ⟨h1, h2⟩
      · exact .inl ⟨rfl, fun lastV => ⟨.cp nv (decide (x % 2 = 1)), fun e => by subst e; exact ⟨h, _, _, _, _, _, rfl, rfl, rfl, hsy, hdi, rfl, rfl, rfl⟩⟩⟩
      · exact .inr ⟨ev, rfl, h1, h2, ⟨1, last, i64 nv, sy, di, rfl, by decide, hla, rfl, hsy, hdi⟩, rfl⟩
    refine stored_spec d (fun y C H2 hy hxor d => ?_) (fun y C H2 hy hxor d => ?_) (fun H2 hy d => ?_)
    · refine pExtract_to rfl ?_
      refine pExtract_to rfl ?_
      rw [hy] at hT
      dsimp only [Rs.bind] at hT
      rw [if_neg (fun g => g hxor)] at hT
      exact fin (y % 65536) 0 C H2 d (.inl ⟨rfl, hT.symm⟩)
    · refine pExtract_to rfl ?_
      refine pExtract_to rfl ?_
      rw [hy] at hT
      dsimp only [Rs.bind] at hT
      rw [if_pos hxor] at hT
      exact fin (y % 65536) 8 C H2 d (.inr ⟨hT.symm, by decide⟩)
    · refine pExtract_to rfl ?_
      refine pExtract_to rfl ?_
      rw [hy] at hT
      exact fin 0 2 _ H2 d (.inr ⟨hT.symm, by decide⟩)
  rw [if_neg (by omega)] at hT
  rw [pEq_0]
  refine pCond_if (fun h1 => ?_) (fun h1 => ?_)
  · rw [if_pos (by omega)] at hT
    refine fixed_spec o fun H2 M p r hp hr o => ?_
    have d := back H2 C1 (M ++ L) (owns_m2 o.mid |> fun o => o.perm (by
      refine List.Perm.cons _ (List.Perm.cons _ ?_)
      exact List.Perm.refl _))
    refine pExtract_to rfl ?_
    refine pExtract_to rfl ?_
    rw [pNil_v, pFieldAddr_v, add_mk]
    refine d.ps (g := 0 + 10) (by decide) (by simp) hp.one fun H3 d => ?_
    rw [pNil_v, pFieldAddr_v, add_mk]
    refine d.ps (g := 0 + 11) (by decide) (by simp) hr.one fun H4 d => ?_
    rw [pNil_v, pFieldAddr_v, add_mk]
    refine d.ps (g := 0 + 7) (by decide) (by simp) rfl fun H5 d => ?_
    exact ⟨_, C1, M, d, .inl ⟨rfl, fun lastV => ⟨.tl fixL fixD (decide (x % 2 = 1)), fun e => by subst e; exact ⟨hT.symm, _, _, _, _, _, rfl, rfl, hle, hp.one, hr.one, rfl, rfl, hp.appl, hr.appl⟩⟩⟩⟩
  rw [if_neg (by omega)] at hT
  rw [pEq_0]
  refine pCond_if (fun h2 => ?_) (fun h2 => ?_)
  · rw [if_pos (by omega)] at hT
    rw [pNil_v, pFieldAddr_v, add_mk]
    refine dynamic_spec hG o (fun p C H2 M y z hd hy hz o => ?_) (fun e C H2 y z hd he hy hz o => ?_)
    · rw [hd] at hT
      dsimp only [Rs.bind] at hT
      have d := back H2 C (M ++ L) (owns_m2 o)
      refine pExtract_to rfl ?_
      refine pExtract_to rfl ?_
      refine pExtract_to rfl ?_
      rw [pNil_v, pFieldAddr_v, add_mk]
      refine d.ps (g := 0 + 10) (by decide) (by simp) hy.one fun H3 d => ?_
      rw [pNil_v, pFieldAddr_v, add_mk]
      refine d.ps (g := 0 + 11) (by decide) (by simp) hz.one fun H4 d => ?_
      rw [pNil_v, pFieldAddr_v, add_mk]
      refine d.ps (g := 0 + 7) (by decide) (by simp) rfl fun H5 d => ?_
      exact ⟨_, C, M, d, .inl ⟨rfl, fun lastV => ⟨.tl p.1 p.2 (decide (x % 2 = 1)), fun e => by subst e; exact ⟨hT.symm, _, _, _, _, _, rfl, rfl, hle, hy.one, hz.one, rfl, rfl, hy.appl, hz.appl⟩⟩⟩⟩
    · rw [hd] at hT
      dsimp only [Rs.bind] at hT
      have d := back H2 C L o
      refine pExtract_to rfl ?_
      refine pExtract_to rfl ?_
      refine pExtract_to rfl ?_
      rw [pNil_v, pFieldAddr_v, add_mk]
      refine d.ps (g := 0 + 10) (by decide) (by simp) hy fun H3 d => ?_
      rw [pNil_v, pFieldAddr_v, add_mk]
      refine d.ps (g := 0 + 11) (by decide) (by simp) hz fun H4 d => ?_
      rw [pNil_v, pFieldAddr_v, add_mk]
      refine d.ps (g := 0 + 7) (by decide) (by simp) rfl fun H5 d => ?_
      exact ⟨_, C, [], d, .inr ⟨e, rfl, hT.symm, he, ⟨2, last, left, y, z, rfl, by decide, hla, hle, hy, hz⟩, rfl⟩⟩
  · rw [if_neg (by omega)] at hT
    exact her 3 H1 C1 _ hT.symm (by decide) d ⟨n, last, left, sy, di, rfl, hn3, hla, hle, hsy, hdi⟩
end Go.Proofs.YtpnkoniomalcpaaDoor
