/- canon's find and open, and the document's Find: which word a text of bits begins with. -/
import Derived.Test.YtpnkoniomalcpaaDoorWords03
namespace Go.Proofs.YtpnkoniomalcpaaDoor
-- only what is there
open Go Go.Vc Go.Proofs
set_option linter.unusedVariables false
set_option linter.unusedSimpArgs false
variable {H : Heap} {R : Value → Heap → Prop} {v : Value} {zs : List Int} {ls : List Nat} {B : List Bool}
/-- a word stands at the beginning -/
def hit (ls : List Nat) (B : List Bool) (s : Nat) : Prop := s < ls.length ∧ 1 ≤ ls.getD s 0 ∧ B.take (ls.getD s 0) = wordB ls s
/-- more bits may make a word -/
def more (ls : List Nat) (B : List Bool) : Prop := ∃ s, s < ls.length ∧ B.length < ls.getD s 0 ∧ (wordB ls s).take B.length = B
theorem wordB_len (ls : List Nat) (s : Nat) : (wordB ls s).length = ls.getD s 0 := bitsN_len _ _
theorem hit_len {s : Nat} (h : hit ls B s) : ls.getD s 0 ≤ B.length := by
  have := congrArg List.length h.2.2
  rw [wordB_len, List.length_take] at this
  omega
theorem bitsN_take {v n m : Nat} (h : n ≤ m) : (bitsN v m).take n = bitsN v n := by
  obtain ⟨k, rfl⟩ : ∃ k, m = n + k := ⟨m - n, by omega⟩
  rw [bitsN_add, List.take_append_of_le_length (by rw [bitsN_len]; omega), List.take_of_length_le (by rw [bitsN_len]; omega)]
theorem bitsN_inj {a b n : Nat} (h : bitsN a n = bitsN b n) : a % 2 ^ n = b % 2 ^ n := by
  have := congrArg numB h
  rwa [numB_bitsN, numB_bitsN] at this
theorem hit_one (h : shareL ls 15 ≤ 32768) (hle : ∀ k ∈ ls, k ≤ 15) {s t : Nat} (hs : hit ls B s) (ht : hit ls B t) : s = t := by
  by_cases hne : s = t
  · exact hne
  exfalso
  have key : ∀ {s t : Nat}, hit ls B s → hit ls B t → s ≠ t → ls.getD s 0 ≤ ls.getD t 0 → False := by
    intro s t hs ht hne h2
    refine word_apart h hle hs.1 ht.1 hne hs.2.1 h2 ?_
    have e1 : (wordB ls t).take (ls.getD s 0) = wordB ls s := by rw [← ht.2.2, List.take_take, Nat.min_eq_left h2]; exact hs.2.2
    unfold wordB at e1
    rw [bitsN_take h2] at e1
    have := bitsN_inj e1
    rw [Nat.mod_eq_of_lt (revN_lt _ _)] at this
    exact this.symm
  rcases Nat.le_total (ls.getD s 0) (ls.getD t 0) with g | g
  · exact key hs ht hne g
  · exact key ht hs (Ne.symm hne) g
/-- the symbol at a place of the list of a code's symbols -/
theorem symsN_at {n : Nat} : ∀ {x r : Nat}, x ≤ ls.length → r < cntL (ls.take x) n → ∃ s, s < x ∧ ls.getD s 0 = n ∧ cntL (ls.take s) n = r ∧ (symsN ls n x)[r]? = some s
  | 0, r, _, h => by simp [cntL] at h
  | x + 1, r, hx, h => by
    have hxl : x < ls.length := by omega
    have hg : ls.getD x 0 = ls[x] := by rw [List.getD_eq_getElem?_getD, List.getElem?_eq_getElem hxl]; rfl
    have hlen := symsN_len (ls := ls) (n := n) x (by omega)
    have e : cntL (ls.take (x + 1)) n = cntL (ls.take x) n + (if ls.getD x 0 = n then 1 else 0) := by
      rw [take_snoc hxl, cntL_append, cntL_cons, hg]; simp [cntL]
    by_cases hr : r < cntL (ls.take x) n
    · obtain ⟨s, h1, h2, h3, h4⟩ := symsN_at (x := x) (by omega) hr
      refine ⟨s, by omega, h2, h3, ?_⟩
      by_cases hh : ls.getD x 0 = n
      · rw [symsN_hit hh, List.getElem?_append_left (by omega)]; exact h4
      · rw [symsN_miss hh]; exact h4
    · by_cases hh : ls.getD x 0 = n
      · rw [if_pos hh] at e
        refine ⟨x, by omega, hh, by omega, ?_⟩
        rw [symsN_hit hh, List.getElem?_append_right (by omega), show r - (symsN ls n x).length = 0 by omega]; rfl
      · rw [if_neg hh] at e; omega
theorem symsB_at {n r : Nat} (h1 : 1 ≤ n) (hr : r < cntL ls n) : ∀ m, n < m → ∃ s, s < ls.length ∧ ls.getD s 0 = n ∧ rankL ls s = r ∧ (symsB ls m)[sumC ls n + r]? = some s := by
  intro m hm
  induction m with
  | zero => omega
  | succ m ih =>
    rw [symsB]
    by_cases he : n = m
    · subst he
      obtain ⟨s, g1, g2, g3, g4⟩ := symsN_at (ls := ls) (x := ls.length) (Nat.le_refl _) (by rw [List.take_length]; exact hr)
      refine ⟨s, g1, g2, by unfold rankL; rw [g2]; exact g3, ?_⟩
      rw [if_neg (by omega), List.getElem?_append_right (by rw [symsB_len]; omega), symsB_len, show sumC ls n + r - sumC ls n = r by omega]
      exact g4
    · obtain ⟨s, g1, g2, g3, g4⟩ := ih (by omega)
      refine ⟨s, g1, g2, g3, ?_⟩
      rw [List.getElem?_append_left (List.getElem?_eq_some_iff.1 g4).1]
      exact g4
theorem wordB_code {s n x : Nat} (hn : ls.getD s 0 = n) (h : codeL ls s = revN x n) : wordB ls s = bitsN x n := by
  unfold wordB
  rw [hn, h, bitsN_rev, bitsN_rev, List.reverse_reverse]
theorem code_wordB (hsh : shareL ls 15 ≤ 32768) (hle : ∀ k ∈ ls, k ≤ 15) {s n x : Nat} (hs : s < ls.length) (h1 : 1 ≤ n) (hn : ls.getD s 0 = n) (h : wordB ls s = bitsN x n) : codeL ls s = revN x n := by
  unfold wordB at h
  rw [hn] at h
  have hc := code_pow hsh hle hs (by omega)
  rw [hn] at hc
  rw [bitsN_rev] at h
  have h2 : bitsN (codeL ls s) n = bitsN (revN x n) n := by rw [bitsN_rev, ← h, List.reverse_reverse]
  have := bitsN_inj h2
  rwa [Nat.mod_eq_of_lt hc, Nat.mod_eq_of_lt (revN_lt _ _)] at this
theorem or_one {r c : Nat} (hc : c < 2) (hr : r < 4294967296) : bitsOf .or .i64 ((2 * r : Nat) : Int) (c : Int) = ((2 * r + c : Nat) : Int) := by
  have e : ((BitVec.ofInt 64 ((2 * r : Nat) : Int)) ||| (BitVec.ofInt 64 (c : Int))).toNat = 2 * r + c := by
    rw [BitVec.toNat_or, BitVec.ofInt_natCast, BitVec.ofInt_natCast, BitVec.toNat_ofNat, BitVec.toNat_ofNat, Nat.mod_eq_of_lt (by omega), Nat.mod_eq_of_lt (by omega), Nat.or_comm, Nat.mul_comm]
    have := or_disj (a := c) (v := r) (n := 1) (by simpa using hc)
    rw [Nat.pow_one] at this
    rw [this]; omega
  show IntKind.i64.wrap ((((BitVec.ofInt 64 ((2 * r : Nat) : Int)) ||| (BitVec.ofInt 64 (c : Int))).toNat : Nat) : Int) = _
  rw [e, w64 (by omega) (by omega)]
theorem find_spec {H0 : Heap} {L : List It} {b : Nat} {lv wv sv : Value} {x n : Nat} (hz : okZ zs) (hsh : shareL (natL zs) 15 ≤ 32768) (o : Owns H0 H L) (m1 : It.box b (codeCells lv wv (countsL (natL zs)) sv) 139 ∈ L) (m2 : It.sl sv 1 (symsV (symsB (natL zs) 16)) ∈ L)
    (hx : x < 2 ^ n) (hn : n ≤ 15) (h1 : ∀ s, hit (natL zs) (bitsN x n) s → R (.tuple #[.int .i64 (s : Nat), .int .i64 ((natL zs).getD s 0 : Nat)]) H) (h2 : (∀ s, ¬ hit (natL zs) (bitsN x n) s) → R (.tuple #[.int .i64 0, .int .i64 0]) H) :
    CallsH Tryd.prog 68 #[.pointer (some ⟨b, 0, none⟩), .int .u64 (x : Int), .int .i64 (n : Int)] H R := by
  have hle := ok_le hz
  have hlen : (natL zs).length ≤ 288 := by rw [natL_len]; exact hz.1
  generalize natL zs = ls at *
  have hend := endC_le (ls := ls) hlen
  have hsum := sumC_le hlen
  have hxp : 2 ^ n ≤ 2 ^ 15 := Nat.pow_le_pow_right (by decide) hn
  have hcc : ∀ k : Nat, k ≤ 15 → (codeCells lv wv (countsL ls) sv)[2 + k]? = some (.int .i64 (if k = 0 then 0 else ((cntL ls k : Nat) : Int))) := fun k hk => by
    rw [codeCells_count (by rw [countsL_len]; omega), countsL_at (by omega)]
  refine canon_Code_find.vc _ _ _ _ _ ?_
  unfold canon_Code_find.res
  refine ⟨fun a w f d i H' => ∃ k : Nat, i = .int .i64 ((k + 1 : Nat) : Int) ∧ k ≤ n ∧ a = .int .u64 ((x / 2 ^ k : Nat) : Int) ∧ w = .int .i64 ((2 * revN x k : Nat) : Int) ∧ f = .int .i64 ((2 * endC ls k : Nat) : Int) ∧ d = .int .i64 ((sumC ls (k + 1) : Nat) : Int) ∧ endC ls k ≤ revN x k ∧ (∀ s, hit ls (bitsN x n) s → k < ls.getD s 0) ∧ H = H', fun _ _ _ _ i _ => match i with | .int _ x => (1000 - x).toNat | _ => 0, ⟨0, rfl, by omega, by rw [Nat.pow_zero, Nat.div_one], rfl, rfl, rfl, Nat.le_refl _, fun s h => h.2.1, rfl⟩, ?_⟩
  rintro _ _ _ _ _ _ _ ⟨k, rfl, hk, rfl, rfl, rfl, rfl, hge, hno, rfl⟩
  have hr := revN_lt x k
  have hkp : 2 ^ k ≤ 2 ^ 15 := Nat.pow_le_pow_right (by decide) (by omega)
  rw [pLe_v]
  refine pCond_if (fun hc => ?_) (fun hc => ?_)
  · have hk1 : k + 1 ≤ n := by omega
    have hd : x / 2 ^ k ≤ x := Nat.div_le_self _ _
    have h2' : x / 2 ^ k % 2 < 2 := Nat.mod_lt _ (by decide)
    have he := hend k
    have he1 := hend (k + 1)
    have hcl : cntL ls (k + 1) ≤ 288 := Nat.le_trans List.countP_le_length hlen
    have hs1 : sumC ls (k + 1) ≤ 16 * 288 := Nat.le_trans (hsum (k + 1)) (Nat.mul_le_mul_right _ (by omega))
    have e2 : bitsOf .and .u64 ((x / 2 ^ k : Nat) : Int) 1 = ((x / 2 ^ k % 2 : Nat) : Int) := by
      have := and_u64 (a := x / 2 ^ k) (b := 1) (by omega) (by omega)
      rw [Nat.and_one_is_mod] at this
      exact this
    have hrs : revN x (k + 1) = 2 * revN x k + x / 2 ^ k % 2 := rfl
    rw [pBits_v, e2, pConv_v, w64 (n := ((x / 2 ^ k % 2 : Nat) : Int)) (by omega) (by omega), pBits_v]
    have e3 : bitsOf .or .i64 ((2 * revN x k : Nat) : Int) ((x / 2 ^ k % 2 : Nat) : Int) = ((revN x (k + 1) : Nat) : Int) := by
      rw [hrs]
      exact or_one h2' (by omega)
    rw [e3, pShr_v]
    refine ⟨by decide, ?_⟩
    rw [show min (1 : Int).toNat IntKind.u64.bits = 1 from rfl, fdiv_nat (j := 1) rfl, Nat.div_div_eq_div_mul, show 2 ^ k * 2 ^ 1 = 2 ^ (k + 1) from rfl]
    have hld : ∀ {K : Value → Prop}, K (.int .i64 ((cntL ls (k + 1) : Nat) : Int)) → pIdxArr 16 1 (.pointer (some ⟨b, 0 + 2, none⟩)) (.int .i64 ((k + 1 : Nat) : Int)) fun y => pLoad H y K := fun {K} hK => by
      rw [pIdxArr_v]
      refine ⟨by omega, by omega, ?_⟩
      rw [add_mk, show 0 + 2 + ((k + 1 : Nat) : Int).toNat * 1 = 2 + (k + 1) by omega]
      refine o.bload m1 (hcc (k + 1) (by omega)) ?_
      rw [if_neg (by omega)]
      exact hK
    rw [pNil_v, pFieldAddr_v, add_mk]
    refine hld ?_
    rw [pSub_v, w64 (by omega) (by omega), pLt_v]
    refine pCond_if (fun hlt => ?_) (fun hlt => ?_)
    · have hr1 : revN x (k + 1) - 2 * endC ls k < cntL ls (k + 1) := by omega
      obtain ⟨s, g1, g2, g3, g4⟩ := symsB_at (ls := ls) (n := k + 1) (by omega) hr1 16 (by omega)
      have hcs : codeL ls s = revN x (k + 1) := by
        unfold codeL
        rw [g2, g3]
        unfold startC
        rw [Nat.add_sub_cancel]
        omega
      have hb := wordB_code g2 hcs
      have hh : hit ls (bitsN x n) s := ⟨g1, by omega, by rw [g2, bitsN_take hk1, hb]⟩
      rw [pNil_v, pFieldAddr_v, add_mk]
      refine o.bload (f := 0 + 18) m1 rfl ?_
      rw [pAdd_v, w64 (by omega) (by omega), pSub_v, w64 (by omega) (by omega)]
      have hsl := symsB_len (ls := ls) 16
      have hil := (List.getElem?_eq_some_iff.1 g4).1
      refine (o.sl m2).at_ (n := (symsB ls 16).length) (by rw [symsV_len, Nat.mul_one]) (by decide) (by omega) (by omega) fun p hp => ?_
      refine hp.load (o.sl m2) (w := .int .i64 (s : Nat)) ?_ ?_
      · unfold symsV
        rw [List.getElem?_map, show ((((sumC ls (k + 1) : Nat) : Int) + ((revN x (k + 1) : Nat) : Int) - ((2 * endC ls k : Nat) : Int)).toNat * 1) = sumC ls (k + 1) + (revN x (k + 1) - 2 * endC ls k) by omega, g4]
        rfl
      · have := h1 s hh
        rw [g2] at this
        exact this
    · rw [pNil_v, pFieldAddr_v, add_mk]
      refine hld ?_
      rw [pAdd_v, w64 (by omega) (by omega)]
      rw [pNil_v, pFieldAddr_v, add_mk]
      refine hld ?_
      have hek : endC ls (k + 1) = 2 * endC ls k + cntL ls (k + 1) := rfl
      have hr1 := revN_lt x (k + 1)
      have hkp1 : 2 ^ (k + 1) ≤ 2 ^ 15 := Nat.pow_le_pow_right (by decide) (by omega)
      rw [pAdd_v, show ((2 * endC ls k : Nat) : Int) + ((cntL ls (k + 1) : Nat) : Int) = ((endC ls (k + 1) : Nat) : Int) by omega, w64 (n := ((endC ls (k + 1) : Nat) : Int)) (by omega) (by omega), pShl_v]
      refine ⟨by decide, ?_⟩
      rw [show min (1 : Int).toNat IntKind.i64.bits = 1 from rfl, show ((endC ls (k + 1) : Nat) : Int) * 2 ^ 1 = ((2 * endC ls (k + 1) : Nat) : Int) by omega, w64 (n := ((2 * endC ls (k + 1) : Nat) : Int)) (by omega) (by omega), pShl_v]
      refine ⟨by decide, ?_⟩
      rw [show min (1 : Int).toNat IntKind.i64.bits = 1 from rfl, show ((revN x (k + 1) : Nat) : Int) * 2 ^ 1 = ((2 * revN x (k + 1) : Nat) : Int) by omega, w64 (n := ((2 * revN x (k + 1) : Nat) : Int)) (by omega) (by omega), pAdd_v, w64 (n := ((k + 1 : Nat) : Int) + 1) (by omega) (by omega)]
      refine ⟨⟨k + 1, rfl, hk1, rfl, rfl, rfl, ?_, by omega, fun s hh => ?_, rfl⟩, by show (_ : Int).toNat < (_ : Int).toNat; omega⟩
      · rw [sumC.eq_2 ls (k + 1), if_neg (by omega)]; rfl
      · have h3 := hno s hh
        by_cases he2 : ls.getD s 0 = k + 1
        · exfalso
          have hw := hh.2.2
          rw [he2, bitsN_take hk1] at hw
          have hcd := code_wordB hsh hle hh.1 (by omega) he2 hw.symm
          have := code_lt hh.1 hh.2.1
          rw [he2] at this
          omega
        · omega
  · have hkn : k = n := by omega
    subst hkn
    refine h2 fun s hh => ?_
    have h3 := hno s hh
    have h4 := hit_len hh
    rw [bitsN_len] at h4
    omega
end Go.Proofs.YtpnkoniomalcpaaDoor
