/- The law CanonBack over heaps. -/
import Derived.Test.YtcbaklebiohedaaNext03
namespace Go.Proofs.Ytcbaklebiohedaa
open Go Go.Vc Go.Proofs
set_option linter.unusedVariables false
set_option linter.unusedSimpArgs false
variable {H : Heap} {R : Value → Heap → Prop} {v : Value} {zs : List Int} {ls : List Nat} {B : List Bool}
/-- a writer as a thing -/
def wrT (b : Nat) (dv : Value) (B : List Bool) : Thing where
  foot k := k = b ∨ blkOf dv = some k
  holds H := Wr H b 0 dv B
  frame := fun h hf => by
    obtain ⟨⟨D, acc, n, g1, g2, g3⟩, g4, g5⟩ := h
    have hi : It.holds _ (.sl dv 1 (D.map byteV)) := ⟨by decide, g2⟩
    exact ⟨⟨D, acc, n, g1.same (hf b (.inl rfl)), (It.frame hi fun k hk => hf k (.inr hk)).2, g3⟩, g4, g5⟩
  lt := fun h hf => by
    rcases hf with rfl | hf
    · exact h.lt
    · exact h.live _ hf
theorem owns_wr {H0 H' : Heap} {L L' : List It} {b : Nat} {dv dv' : Value} {B' : List Bool} (o : Owns H0 H L) (w : Wr H' b 0 dv' B') (c : Chg b 0 3 (blkS dv) (blkS dv') H H') (hr : Rep (.thing (wrT b dv B)) (.thing (wrT b dv' B')) L L') : Owns H0 H' L' :=
  o.turn hr c.size (fun k hk hf => c.ne k hk (fun h => hf (.inl h)) (fun h => hf (.inr h))) w (fun k hk => by
    rcases hk with hk | hk
    · exact .inl (.inl hk)
    · rcases c.new k hk with h | h
      · exact .inl (.inr h)
      · exact .inr h)
theorem wr_at {H0 : Heap} {L : List It} {b : Nat} {dv : Value} (o : Owns H0 H L) (h : It.thing (wrT b dv B) ∈ L) : Wr H b 0 dv B := o.thing h
def catW (ls : List Nat) (M : List Nat) : List Bool := M.flatMap (wordB ls)
theorem catW_snoc (M : List Nat) (s : Nat) : catW ls (M ++ [s]) = catW ls M ++ wordB ls s := by unfold catW; rw [List.flatMap_append]; simp
theorem catW_cons (M : List Nat) (s : Nat) : catW ls (s :: M) = wordB ls s ++ catW ls M := by unfold catW; rw [List.flatMap_cons]
theorem catW_len (hle : ∀ k ∈ ls, k ≤ 15) : ∀ M, (catW ls M).length ≤ 15 * M.length
  | [] => Nat.zero_le _
  | s :: M => by
    rw [catW_cons, List.length_append, wordB_len, List.length_cons]
    have := catW_len hle M
    have := getD_le hle s
    omega
theorem padB_ext (B : List Bool) : ∃ r, padB B = B ++ r := ⟨_, rfl⟩
theorem CanonBack_law (a : Option Addr) (len cap : Nat) (zs : List Int) (a1 : Option Addr) (len1 cap1 : Nat) (zs1 : List Int) (w0 : IntRow .i64 H a len cap zs) (w1 : IntRow .i64 H a1 len1 cap1 zs1) : CallsH Try.prog 7 #[.slice a len cap, .slice a1 len1 cap1] H (LawOk H) := by
  obtain ⟨l, hl, hmx, hr, hs⟩ := int_rows w0
  obtain ⟨m, hlm, hmx1, hr1, hsm⟩ := int_rows w1
  have hmax : maxLen = 9223372036854775807 := rfl
  have hvl : (numsV l).length = l.length * 1 := by rw [numsV_len]; omega
  have hvm : (numsV m).length = m.length * 1 := by rw [numsV_len]; omega
  refine lighterlaw03_CanonBack.vc _ _ _ _ ?_
  unfold lighterlaw03_CanonBack.res
  refine speaks03_spec fun H1 hx1 => ?_
  rw [pNot_v, Bool.not_true, pCond_false]
  have hs := hs.ext hx1
  have hsm := hsm.ext hx1
  refine newC_spec hs (by omega) (fun H2 hx2 hne => ?_) fun H2 b lv wv sv o hok h0 => ?_
  · refine pExtract_to rfl ?_
    refine pExtract_to rfl ?_
    rw [pNe_0]
    simp only [ne_eq, hne, not_false_eq_true, decide_true, pCond_true]
    exact ⟨rfl, hx1.trans hx2⟩
  refine pExtract_to rfl ?_
  refine pExtract_to rfl ?_
  rw [pNe_0, decide_eq_false (by simp), pCond_false]
  have hsh := why_share hok h0
  have hle := ok_le hok
  have hok1 := hok.1
  have hnl := natL_len l
  refine o.box fun wb H3 o _ => ?_
  change Owns H1 H3 (.box wb [.slice none 0 0, .int .u64 0, .int .i64 0] _ :: _) at o
  have o := o.turn (i' := .thing (wrT wb (.slice none 0 0) [])) Rep.here (Nat.le_refl _) (fun k _ _ => rfl) (Wr.new (Sub.all (cs := [.slice none 0 0, .int .u64 0, .int .i64 0]) (o.blk (by repeat (first | exact List.mem_cons_self | apply List.mem_cons_of_mem))))) (fun k hk => by
    rcases hk with hk | hk
    · exact .inl hk.symm
    · cases hk)
  have o := o.add (Ext.refl _) (i := .sl (.slice none 0 0) 1 (symsV [])) ⟨by decide, .inl ⟨rfl, rfl⟩⟩ (by intro k hk; exact absurd hk (by simp [It.foot, blkOf]))
  refine ⟨fun t i H' => ∃ (k : Nat) (M : List Nat) (dv : Value), i = .int .i64 k ∧ k ≤ 60 ∧ M.length ≤ k ∧ (∀ s ∈ M, s < (natL l).length ∧ 1 ≤ (natL l).getD s 0) ∧ Owns H1 H' (.sl t 1 (symsV M) :: .thing (wrT wb dv (catW (natL l) M)) :: codeIts l b lv wv sv), fun _ i _ => match i with | .int _ x => (1000 - x).toNat | _ => 0, ⟨0, [], _, rfl, by omega, Nat.le_refl _, by simp, o⟩, ?_⟩
  clear o
  rintro _ wt _ H4 ⟨k, M, dv, rfl, hk, hMk, hMs, o⟩
  have hcw := catW_len hle M
  refine (hsm.ext o.ext).len hvm (by decide) ?_
  rw [pLt_v]
  refine pAnd_if (d := decide ((k : Int) < 60)) (fun _ => by rw [pLt_v]; exact ⟨rfl, rfl⟩) ?_
  intro _
  refine pCond_b (fun hc => ?_) (fun hc => ?_)
  · rw [Bool.and_eq_true, decide_eq_true_eq, decide_eq_true_eq] at hc
    have hkm : k < m.length := by omega
    have hld : ∀ {H' : Heap} {L : List It} {K : Value → Prop}, Owns H1 H' L → K (.int .i64 m[k]) → pIdxSl 1 (.slice a1 len1 cap1) (.int .i64 (k : Int)) fun x => pLoad H' x K := fun o hK =>
      (hsm.ext o.ext).at_ hvm (by decide) (by omega) (by omega) fun p hp => hp.load (hsm.ext o.ext) (w := .int .i64 m[k]) (by rw [Int.toNat_natCast, Nat.mul_one, numsV_get hkm]) hK
    refine ⟨fun t H' => ∃ (M : List Nat) (dv : Value), M.length ≤ k + 1 ∧ (∀ s ∈ M, s < (natL l).length ∧ 1 ≤ (natL l).getD s 0) ∧ Owns H1 H' (.sl t 1 (symsV M) :: .thing (wrT wb dv (catW (natL l) M)) :: codeIts l b lv wv sv), ?_, ?_⟩
    · rintro _ wt2 H5 ⟨M2, dv2, g1, g2, o⟩
      rw [pAdd_v, w64 (n := (k : Int) + 1) (by omega) (by omega)]
      exact ⟨⟨k + 1, M2, dv2, rfl, by omega, g1, g2, o⟩, by show (_ : Int).toNat < (_ : Int).toNat; omega⟩
    refine hld o ?_
    refine word_spec o (by repeat (first | exact List.mem_cons_self | apply List.mem_cons_of_mem)) (by repeat (first | exact List.mem_cons_self | apply List.mem_cons_of_mem)) hok1 ?_
    refine pExtract_to rfl ?_
    refine pExtract_to rfl ?_
    generalize hz : m[k] = z at *
    by_cases hin : 0 ≤ z ∧ z < ((natL l).length : Int)
    · obtain ⟨s, rfl⟩ : ∃ s : Nat, z = s := ⟨z.toNat, by omega⟩
      rw [wordP_in (by omega)]
      have h15 := getD_le hle s
      have hrl := revN_lt (codeL (natL l) s) ((natL l).getD s 0)
      have hp2 : 2 ^ (natL l).getD s 0 ≤ 2 ^ 15 := Nat.pow_le_pow_right (by decide) h15
      rw [pGt_v]
      refine pCond_if (fun hp => ?_) (fun hp => ⟨M, dv, by omega, hMs, o⟩)
      have hp1 : 1 ≤ (natL l).getD s 0 := by
        have : (0 : Int) < ((natL l).getD s 0 : Nat) := hp
        omega
      refine hld o ?_
      refine canon_Code_Write.vc _ _ _ _ _ ?_
      unfold canon_Code_Write.res
      refine word_spec o (by repeat (first | exact List.mem_cons_self | apply List.mem_cons_of_mem)) (by repeat (first | exact List.mem_cons_self | apply List.mem_cons_of_mem)) hok1 ?_
      refine pExtract_to rfl ?_
      refine pExtract_to rfl ?_
      rw [wordP_in (by omega)]
      refine wWrite_spec (v := revN (codeL (natL l) s) ((natL l).getD s 0)) (k := (natL l).getD s 0) (by omega) hp1 (by omega) (wr_at o (by repeat (first | exact List.mem_cons_self | apply List.mem_cons_of_mem))) (by omega) fun H5 dv5 w5 c5 => ?_
      have o := owns_wr o w5 c5 (by repeat (first | exact Rep.here | apply Rep.there))
      refine hld o ?_
      refine o.build1 (sz := 1) (by decide) rfl rfl fun y H6 o => ?_
      refine o.app (by repeat (first | exact Sel.here | apply Sel.there)) (o.sl (v := y) (by repeat (first | exact List.mem_cons_self | apply List.mem_cons_of_mem))) rfl (by rw [symsV_len]; show 2 * (_ + 1) * 8 ≤ _; omega) fun t2 H7 o => ?_
      refine ⟨M ++ [s], dv5, by rw [List.length_append]; show _ + 1 ≤ _; omega, fun u hu => ?_, ?_⟩
      · rcases List.mem_append.1 hu with g | g
        · exact hMs u g
        · rw [List.mem_singleton.1 g]; exact ⟨by omega, hp1⟩
      · rw [catW_snoc]
        have e : symsV (M ++ [s]) = symsV M ++ [Value.int .i64 (s : Int)] := by simp [symsV]
        rw [e]
        exact o.arr (by repeat (first | exact Sels.nil | exact Sel.here | apply Sels.cons | apply Sel.there))
    · have e : wordP (natL l) z = (0, 0) := if_neg hin
      rw [e, pGt_v, decide_eq_false (by decide), pCond_false]
      exact ⟨M, dv, by omega, hMs, o⟩
  refine wWrite_spec (v := 0) (k := 7) (by decide) (by decide) (by decide) (wr_at o (by repeat (first | exact List.mem_cons_self | apply List.mem_cons_of_mem))) (by omega) fun H5 dv5 w5 c5 => ?_
  have o := owns_wr o w5 c5 (by repeat (first | exact Rep.here | apply Rep.there))
  refine wAlign_spec (wr_at o (by repeat (first | exact List.mem_cons_self | apply List.mem_cons_of_mem))) (by rw [List.length_append, bitsN_len]; omega) fun H6 dv6 w6 c6 => ?_
  have o := owns_wr o w6 c6 (by repeat (first | exact Rep.here | apply Rep.there))
  obtain ⟨r1, hr1'⟩ := padB_ext (catW (natL l) M ++ bitsN 0 7)
  have hpl := padB_len (catW (natL l) M ++ bitsN 0 7)
  rw [List.length_append, bitsN_len] at hpl
  rw [List.append_assoc] at hr1'
  generalize padB (catW (natL l) M ++ bitsN 0 7) = PB at *
  generalize bitsN 0 7 ++ r1 = rest at *
  refine o.box fun rb H7 o _ => ?_
  change Owns H1 H7 (.box rb [str [], .int .u64 0, .int .i64 0] _ :: _) at o
  refine wDrain_spec (wr_at o (by repeat (first | exact List.mem_cons_self | apply List.mem_cons_of_mem))) fun H8 dv8 w8 c8 => ?_
  have o := owns_wr o w8 c8 (by repeat (first | exact Rep.here | apply Rep.there))
  have o := o.turn (i' := .thing (rdT rb [])) Rep.here (Nat.le_refl _) (fun k _ _ => rfl) (Rd.new (Sub.all (cs := [str [], .int .u64 0, .int .i64 0]) (o.blk (by repeat (first | exact List.mem_cons_self | apply List.mem_cons_of_mem))))) (fun k hk => .inl hk.symm)
  have htb : toBits (toBytes PB) = PB := toBits_toBytes (PB.length / 8) PB (by omega)
  have htl : 8 * (toBytes PB).length = PB.length := by rw [← toBits_len, htb]
  refine rFeed_spec (rd_at o (by repeat (first | exact List.mem_cons_self | apply List.mem_cons_of_mem))) (by rw [List.length_nil]; omega) fun H9 w9 c9 => ?_
  have o := owns_rd o w9 c9
  rw [List.nil_append, htb, hr1'] at o
  have o : Owns H1 H9 (.thing (rdT rb (catW (natL l) M ++ rest)) :: .sl wt 1 (symsV M) :: codeIts l b lv wv sv) := o.arr (by repeat (first | exact Sels.nil | exact Sel.here | apply Sels.cons | apply Sel.there))
  refine ⟨fun i H' => ∃ k : Nat, i = .int .i64 k ∧ k ≤ M.length ∧ Owns H1 H' (.thing (rdT rb (catW (natL l) (M.drop k) ++ rest)) :: .sl wt 1 (symsV M) :: codeIts l b lv wv sv), fun i _ => match i with | .int _ x => (1000 - x).toNat | _ => 0, ⟨0, rfl, by omega, o⟩, ?_⟩
  clear o
  rintro _ _ H10 ⟨j, rfl, hj, o⟩
  have hsl : (symsV M).length = M.length * 1 := by rw [symsV_len, Nat.mul_one]
  refine (o.sl (v := wt) (by repeat (first | exact List.mem_cons_self | apply List.mem_cons_of_mem))).len hsl (by decide) ?_
  rw [pLt_v]
  refine pCond_if (fun hc => ?_) (fun _ => ⟨rfl, hx1.trans o.ext⟩)
  have hjM : j < M.length := by omega
  have hMj := hMs _ (List.getElem_mem hjM)
  have hd : M.drop j = M[j] :: M.drop (j + 1) := List.drop_eq_getElem_cons hjM
  rw [hd, catW_cons, List.append_assoc] at o
  have hhit : hit (natL l) (wordB (natL l) M[j] ++ (catW (natL l) (M.drop (j + 1)) ++ rest)) M[j] := ⟨hMj.1, hMj.2, by rw [List.take_append_of_le_length (by rw [wordB_len]; omega), List.take_of_length_le (by rw [wordB_len]; omega)]⟩
  refine next_spec hok hsh o (by repeat (first | exact List.mem_cons_self | apply List.mem_cons_of_mem)) (by repeat (first | exact List.mem_cons_self | apply List.mem_cons_of_mem)) (by repeat (first | exact List.mem_cons_self | apply List.mem_cons_of_mem)) (fun s H11 hh o => ?_) (fun hno H11 o => absurd hhit (hno _))
  have he := hit_one hsh hle hh hhit
  rw [he, List.drop_append_of_le_length (by rw [wordB_len]; omega), List.drop_of_length_le (by rw [wordB_len]; omega), List.nil_append] at o
  refine pExtract_to rfl ?_
  refine pExtract_to rfl ?_
  rw [pNe_0, decide_eq_false (by simp)]
  refine pOr_if (d := false) (fun _ => ?_) ?_
  · refine (o.sl (v := wt) (by repeat (first | exact List.mem_cons_self | apply List.mem_cons_of_mem))).at_ hsl (by decide) (by omega) (by omega) fun p hp => ?_
    refine hp.load (o.sl (v := wt) (by repeat (first | exact List.mem_cons_self | apply List.mem_cons_of_mem))) (w := .int .i64 ((M[j] : Nat) : Int)) (by rw [Int.toNat_natCast, Nat.mul_one]; unfold symsV; rw [List.getElem?_map, List.getElem?_eq_getElem hjM]; rfl) ?_
    rw [pNe_0, decide_eq_false (by rw [he]; simp)]
    exact ⟨rfl, rfl⟩
  intro _
  rw [show (false || false) = false from rfl, pCond_false, pAdd_v, w64 (n := (j : Int) + 1) (by omega) (by omega)]
  exact ⟨⟨j + 1, rfl, by omega, o⟩, by show (_ : Int).toNat < (_ : Int).toNat; omega⟩
end Go.Proofs.Ytcbaklebiohedaa
