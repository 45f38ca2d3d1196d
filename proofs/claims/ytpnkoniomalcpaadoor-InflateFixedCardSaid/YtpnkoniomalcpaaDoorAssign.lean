/- The contract of canon's assign: words and symbols. -/
import Derived.Test.YtpnkoniomalcpaaDoorCode
import Derived.Test.YtpnkoniomalcpaaDoorVcLib
namespace Go.Proofs.YtpnkoniomalcpaaDoor
-- only what is there
open Go Go.Vc Go.Proofs
set_option linter.unusedVariables false
set_option linter.unusedSimpArgs false
variable {H : Heap} {R : Value → Heap → Prop} {v : Value} {zs : List Int}
/-- a symbol's word: its two cells -/
def wordV (ls : List Nat) (s : Nat) : List Value := [.int .u64 (revN (codeL ls s) (ls.getD s 0) : Nat), .int .i64 (ls.getD s 0 : Nat)]
def wordsV (ls : List Nat) : List Value := ((List.range ls.length).map (wordV ls)).flatten
/-- the words as far as they are assigned -/
def wordsP (ls : List Nat) (n x : Nat) : List Value := ((List.range ls.length).map fun s => if 1 ≤ ls.getD s 0 ∧ (ls.getD s 0 < n ∨ (ls.getD s 0 = n ∧ s < x)) then wordV ls s else [.int .u64 0, .int .i64 0]).flatten
theorem wordV_zero {ls : List Nat} {s : Nat} (h : ls.getD s 0 = 0) : wordV ls s = [.int .u64 0, .int .i64 0] := by unfold wordV; rw [h]; rfl
/-- the symbols of a length among the first x -/
def symsN (ls : List Nat) (n x : Nat) : List Nat := (List.range x).filter fun s => decide (ls.getD s 0 = n)
/-- the symbols of lengths below n -/
def symsB (ls : List Nat) : Nat → List Nat
  | 0 => []
  | n + 1 => symsB ls n ++ (if n = 0 then [] else symsN ls n ls.length)
theorem symsN_len {ls : List Nat} {n : Nat} : ∀ x, x ≤ ls.length → (symsN ls n x).length = cntL (ls.take x) n
  | 0, _ => rfl
  | x + 1, h => by
    have hx : x < ls.length := by omega
    have hg : ls.getD x 0 = ls[x] := by rw [List.getD_eq_getElem?_getD, List.getElem?_eq_getElem hx]; rfl
    unfold symsN
    rw [List.range_succ, List.filter_append, List.length_append, take_snoc hx, cntL_append]
    have ih := symsN_len (ls := ls) (n := n) x (by omega)
    unfold symsN at ih
    rw [ih]
    unfold cntL
    rw [List.filter_cons, List.filter_nil, hg, List.countP_cons, List.countP_nil]
    by_cases he : ls[x] = n
    · rw [decide_eq_true he]; rfl
    · rw [decide_eq_false he]; rfl
theorem symsB_len {ls : List Nat} : ∀ n, (symsB ls n).length = sumC ls n
  | 0 => rfl
  | n + 1 => by
    rw [symsB, sumC, List.length_append, symsB_len n]
    by_cases h0 : n = 0
    · rw [if_pos h0, if_pos h0]; rfl
    · rw [if_neg h0, if_neg h0, symsN_len _ (Nat.le_refl _), List.take_length]
theorem flat_set {n : Nat} : ∀ (L : List (List Value)) (i : Nat) (r : List Value), (∀ r ∈ L, r.length = n) → r.length = n → i < L.length → putL L.flatten (i * n) r = (L.set i r).flatten := fun L i r hl hr hi => by
  have e : L = L.take i ++ L[i] :: L.drop (i + 1) := by rw [← List.drop_eq_getElem_cons hi, List.take_append_drop]
  have hu : L[i].length = n := hl _ (List.getElem_mem hi)
  have hp : (L.take i).flatten.length = i * n := by
    rw [flat_len (L.take i) (fun x hx => hl x (List.mem_of_mem_take hx)), List.length_take, Nat.min_eq_left (by omega)]
  have e1 : L.flatten = (L.take i).flatten ++ (L[i] ++ (L.drop (i + 1)).flatten) := by
    conv => lhs; rw [e]
    rw [List.flatten_append, List.flatten_cons]
  have e2 : (L.set i r).flatten = (L.take i).flatten ++ (r ++ (L.drop (i + 1)).flatten) := by
    rw [List.set_eq_take_append_cons_drop, if_pos hi, List.flatten_append, List.flatten_cons]
  rw [e1, e2, ← hp, putL_mid r _ _ (by rw [List.length_append]; omega), List.append_assoc, List.drop_append_of_le_length (by omega), List.drop_of_length_le (by omega), List.nil_append]
def rowsP (ls : List Nat) (n x : Nat) : List (List Value) := (List.range ls.length).map fun s => if 1 ≤ ls.getD s 0 ∧ (ls.getD s 0 < n ∨ (ls.getD s 0 = n ∧ s < x)) then wordV ls s else [.int .u64 0, .int .i64 0]
theorem rowsP_len {ls : List Nat} {n x : Nat} : (rowsP ls n x).length = ls.length := by simp [rowsP]
theorem rowsP_row {ls : List Nat} {n x : Nat} : ∀ r ∈ rowsP ls n x, r.length = 2 := by
  intro r hr
  obtain ⟨s, _, rfl⟩ := List.mem_map.1 hr
  split <;> rfl
theorem rowsP_congr {ls : List Nat} {n x m y : Nat} (h : ∀ s, s < ls.length → (1 ≤ ls.getD s 0 ∧ (ls.getD s 0 < n ∨ (ls.getD s 0 = n ∧ s < x)) ↔ 1 ≤ ls.getD s 0 ∧ (ls.getD s 0 < m ∨ (ls.getD s 0 = m ∧ s < y)))) : rowsP ls n x = rowsP ls m y := by
  unfold rowsP
  refine List.map_congr_left fun s hs => ?_
  have := h s (List.mem_range.1 hs)
  by_cases hc : 1 ≤ ls.getD s 0 ∧ (ls.getD s 0 < n ∨ (ls.getD s 0 = n ∧ s < x))
  · rw [if_pos hc, if_pos (this.1 hc)]
  · rw [if_neg hc, if_neg (fun g => hc (this.2 g))]
theorem rowsP_same {ls : List Nat} {n x : Nat} (h : ls.getD x 0 ≠ n) : rowsP ls n (x + 1) = rowsP ls n x := rowsP_congr fun s hs => by
  constructor
  · rintro ⟨h1, h2 | ⟨h2, h3⟩⟩
    · exact ⟨h1, .inl h2⟩
    · refine ⟨h1, .inr ⟨h2, ?_⟩⟩
      by_cases he : s = x
      · subst he; exact absurd h2 h
      · omega
  · rintro ⟨h1, h2 | ⟨h2, h3⟩⟩
    · exact ⟨h1, .inl h2⟩
    · exact ⟨h1, .inr ⟨h2, by omega⟩⟩
theorem rowsP_at {ls : List Nat} {n x i : Nat} (h : i < ls.length) : (rowsP ls n x)[i]? = some (if 1 ≤ ls.getD i 0 ∧ (ls.getD i 0 < n ∨ (ls.getD i 0 = n ∧ i < x)) then wordV ls i else [.int .u64 0, .int .i64 0]) := by
  unfold rowsP
  rw [List.getElem?_map, List.getElem?_range h]; rfl
theorem rowsP_set {ls : List Nat} {n x : Nat} (hx : x < ls.length) (h : ls.getD x 0 = n) (hn : 1 ≤ n) : (rowsP ls n x).set x (wordV ls x) = rowsP ls n (x + 1) := by
  apply List.ext_getElem?
  intro i
  by_cases hil : i < ls.length
  · rw [rowsP_at hil]
    by_cases hi : x = i
    · subst hi
      rw [List.getElem?_set_self (by rw [rowsP_len]; exact hx), if_pos ⟨by omega, .inr ⟨h, by omega⟩⟩]
    · rw [List.getElem?_set_ne hi, rowsP_at hil]
      by_cases hc : 1 ≤ ls.getD i 0 ∧ (ls.getD i 0 < n ∨ (ls.getD i 0 = n ∧ i < x))
      · rw [if_pos hc, if_pos ⟨hc.1, hc.2.imp id fun g => ⟨g.1, by omega⟩⟩]
      · rw [if_neg hc, if_neg (fun g => hc ⟨g.1, g.2.imp id fun g => ⟨g.1, by omega⟩⟩)]
  · rw [List.getElem?_eq_none (by rw [List.length_set, rowsP_len]; omega), List.getElem?_eq_none (by rw [rowsP_len]; omega)]
theorem rowsP_next {ls : List Nat} {n : Nat} : rowsP ls n ls.length = rowsP ls (n + 1) 0 := rowsP_congr fun s hs => by omega
theorem rowsP_start {ls : List Nat} : (rowsP ls 1 0).flatten = repL [.int .u64 0, .int .i64 0] ls.length := by
  rw [repL_rep]
  congr 1
  apply List.ext_getElem?
  intro i
  by_cases hil : i < ls.length
  · rw [rowsP_at hil, List.getElem?_replicate, if_pos hil, if_neg (by omega)]
  · rw [List.getElem?_eq_none (by rw [rowsP_len]; omega), List.getElem?_eq_none (by rw [List.length_replicate]; omega)]
theorem rowsP_end {ls : List Nat} (h : ∀ k ∈ ls, k ≤ 15) : (rowsP ls 16 0).flatten = wordsV ls := by
  unfold rowsP wordsV
  congr 1
  refine List.map_congr_left fun s hs => ?_
  have hsl := List.mem_range.1 hs
  have hg : ls.getD s 0 = ls[s] := by rw [List.getD_eq_getElem?_getD, List.getElem?_eq_getElem hsl]; rfl
  have h15 := h _ (List.getElem_mem hsl)
  by_cases h0 : ls.getD s 0 = 0
  · rw [if_neg (by omega), wordV_zero h0]
  · rw [if_pos ⟨by omega, .inl (by omega)⟩]
/-- symbols as values -/
def symsV (l : List Nat) : List Value := l.map fun s => Value.int .i64 (s : Nat)
theorem symsV_len (l : List Nat) : (symsV l).length = l.length := by simp [symsV]
theorem symsN_hit {ls : List Nat} {n x : Nat} (h : ls.getD x 0 = n) : symsN ls n (x + 1) = symsN ls n x ++ [x] := by
  unfold symsN
  rw [List.range_succ, List.filter_append, List.filter_cons, List.filter_nil, decide_eq_true h]; rfl
theorem symsN_miss {ls : List Nat} {n x : Nat} (h : ls.getD x 0 ≠ n) : symsN ls n (x + 1) = symsN ls n x := by
  unfold symsN
  rw [List.range_succ, List.filter_append, List.filter_cons, List.filter_nil, decide_eq_false h]; simp
theorem endC_le {ls : List Nat} (h : ls.length ≤ 288) (n : Nat) : endC ls n ≤ 288 * 2 ^ n := by
  rw [endC_share]
  exact Nat.le_trans (shareL_le ls n) (Nat.mul_le_mul_right _ h)
theorem natL_getD {i : Nat} (h : i < zs.length) : (natL zs).getD i 0 = zs[i].toNat := by
  rw [List.getD_eq_getElem?_getD, List.getElem?_eq_getElem (by rw [natL_len]; exact h)]
  simp [natL]
theorem assign_spec {H0 : Heap} {b : Nat} {t : TypeId} {lv : Value} (hz : okZ zs) (o : Owns H0 H [.box b (codeCells lv (.slice none 0 0) (countsL (natL zs)) (.slice none 0 0)) t, .sl lv 1 (numsV zs)])
    (h : ∀ H' wv sv, Owns H0 H' [.box b (codeCells lv wv (countsL (natL zs)) sv) t, .sl lv 1 (numsV zs), .sl wv 2 (wordsV (natL zs)), .sl sv 1 (symsV (symsB (natL zs) 16))] → R (.tuple #[]) H') : CallsH Tryd.prog 84 #[.pointer (some ⟨b, 0, none⟩)] H R := by
  have hvl : (numsV zs).length = zs.length * 1 := by rw [numsV_len]; omega
  have hz1 := hz.1
  have hgz := @natL_getD zs
  have hlen : (natL zs).length = zs.length := natL_len zs
  have hle : ∀ k ∈ natL zs, k ≤ 15 := fun k hk => by
    obtain ⟨z, hz', rfl⟩ := List.mem_map.1 hk
    have := hz.2 z hz'
    omega
  generalize natL zs = ls at *
  have hend := endC_le (ls := ls) (by omega)
  refine canon_Code_assign.vc _ _ _ ?_
  unfold canon_Code_assign.res
  rw [pNil_v, pFieldAddr_v]
  refine o.bload (by repeat (first | exact List.mem_cons_self | apply List.mem_cons_of_mem)) rfl ?_
  refine (o.sl (v := lv) (by repeat (first | exact List.mem_cons_self | apply List.mem_cons_of_mem))).len hvl (by decide) ?_
  refine o.make (by decide) (by omega) (by omega) (by omega) fun wv H1 o => ?_
  rw [Int.toNat_natCast, ← hlen, ← rowsP_start] at o
  rw [pNil_v, pFieldAddr_v, add_mk]
  refine o.bstore (f := 0 + 1) (cs := codeCells lv (.slice none 0 0) (countsL ls) (.slice none 0 0)) (by repeat (first | exact List.mem_cons_self | apply List.mem_cons_of_mem)) (by simp) (o.sl (v := wv) (by repeat (first | exact List.mem_cons_self | apply List.mem_cons_of_mem))).one (by repeat (first | exact Rep.here | apply Rep.there)) fun H2 o _ => ?_
  have o : Owns H0 H2 [.box b (codeCells lv wv (countsL ls) (.slice none 0 0)) t, .sl lv 1 (numsV zs), .sl wv 2 (rowsP ls 1 0).flatten] := o.arr (by repeat (first | exact Sels.nil | exact Sel.here | apply Sels.cons | apply Sel.there))
  have o := o.add (Ext.refl _) (i := .sl (.slice none 0 0) 1 []) ⟨by decide, .inl ⟨rfl, rfl⟩⟩ (by intro k hk; exact absurd hk (by simp [It.foot, blkOf]))
  have o : Owns H0 H2 [.box b (codeCells lv wv (countsL ls) (.slice none 0 0)) t, .sl lv 1 (numsV zs), .sl wv 2 (rowsP ls 1 0).flatten, .sl (.slice none 0 0) 1 (symsV (symsB ls 1))] := o.arr (by repeat (first | exact Sels.nil | exact Sel.here | apply Sels.cons | apply Sel.there))
  refine ⟨fun m i H' => ∃ n : Nat, i = .int .i64 ((n + 1 : Nat) : Int) ∧ n ≤ 15 ∧ m = .int .u64 ((endC ls n : Nat) : Int) ∧ ∃ sv, Owns H0 H' [.box b (codeCells lv wv (countsL ls) sv) t, .sl lv 1 (numsV zs), .sl wv 2 (rowsP ls (n + 1) 0).flatten, .sl sv 1 (symsV (symsB ls (n + 1)))], fun _ i _ => match i with | .int _ x => (1000 - x).toNat | _ => 0, ⟨0, rfl, by omega, rfl, _, o⟩, ?_⟩
  clear o
  rintro _ _ _ H3 ⟨n, rfl, hn, rfl, sv, o⟩
  rw [pLe_v]
  refine pCond_if (fun hc => ?_) (fun hc => ?_)
  · have hn15 : n + 1 ≤ 15 := by omega
    have he := hend n
    have hp2 : 2 ^ n ≤ 2 ^ 15 := Nat.pow_le_pow_right (by decide) hn
    generalize 2 ^ n = P at *
    rw [pShl_v]
    refine ⟨by decide, ?_⟩
    rw [show min (1 : Int).toNat IntKind.u64.bits = 1 from rfl, show ((endC ls n : Nat) : Int) * 2 ^ 1 = ((startC ls (n + 1) : Nat) : Int) by unfold startC; rw [Nat.add_sub_cancel]; omega]
    have hst : startC ls (n + 1) = 2 * endC ls n := by unfold startC; rw [Nat.add_sub_cancel]
    rw [wu64 (by omega) (by omega)]
    rw [pNil_v, pFieldAddr_v]
    refine o.bload (by repeat (first | exact List.mem_cons_self | apply List.mem_cons_of_mem)) rfl ?_
    refine (o.sl (v := lv) (by repeat (first | exact List.mem_cons_self | apply List.mem_cons_of_mem))).len hvl (by decide) ?_
    refine ⟨fun m i H' => ∃ k : Nat, i = .int .i64 (k : Int) ∧ k ≤ zs.length ∧ m = .int .u64 ((startC ls (n + 1) + cntL (ls.take k) (n + 1) : Nat) : Int) ∧ ∃ sv, Owns H0 H' [.box b (codeCells lv wv (countsL ls) sv) t, .sl lv 1 (numsV zs), .sl wv 2 (rowsP ls (n + 1) k).flatten, .sl sv 1 (symsV (symsB ls (n + 1) ++ symsN ls (n + 1) k))], fun _ i _ => match i with | .int _ x => (1000 - x).toNat | _ => 0, ⟨0, rfl, by omega, rfl, sv, by rw [show symsN ls (n + 1) 0 = [] from rfl, List.append_nil]; exact o⟩, ?_⟩
    clear o
    rintro _ _ _ H4 ⟨k, rfl, hk, rfl, sv, o⟩
    rw [pLt_v]
    refine pCond_if (fun hc => ?_) (fun hc => ?_)
    · have hkn : k < zs.length := by omega
      have hcl : cntL (ls.take k) (n + 1) ≤ 288 := Nat.le_trans List.countP_le_length (by rw [List.length_take]; omega)
      have hzk := hz.2 _ (List.getElem_mem hkn)
      refine (o.sl (v := lv) (by repeat (first | exact List.mem_cons_self | apply List.mem_cons_of_mem))).at_ hvl (by decide) (by omega) (by omega) fun p hp => ?_
      refine hp.load (o.sl (v := lv) (by repeat (first | exact List.mem_cons_self | apply List.mem_cons_of_mem))) (w := .int .i64 zs[k]) (by rw [Int.toNat_natCast, Nat.mul_one, numsV_get hkn]) ?_
      rw [pEq_0, pAdd_v, w64 (n := (k : Int) + 1) (by omega) (by omega)]
      have hxk : ls[k]? = some zs[k].toNat := by
        have := hgz hkn
        rw [List.getD_eq_getElem?_getD, List.getElem?_eq_getElem (by omega)] at this
        rw [List.getElem?_eq_getElem (by omega), ← this]; rfl
      have htk : cntL (ls.take (k + 1)) (n + 1) = cntL (ls.take k) (n + 1) + (if ls.getD k 0 = n + 1 then 1 else 0) := by
        rw [List.take_add_one, hxk, hgz hkn, cntL_append, Option.toList, cntL_cons]
        simp [cntL]
      refine pCond_b (fun hb => ?_) (fun hb => ?_)
      · have hkv : zs[k] = ((n + 1 : Nat) : Int) := by
          have := hb
          simp at this
          rw [this]; rfl
        have hg : ls.getD k 0 = n + 1 := by rw [hgz hkn, hkv]; rfl
        rw [if_pos hg] at htk
        rw [pNil_v, pFieldAddr_v, add_mk]
        refine o.bload (f := 0 + 1) (by repeat (first | exact List.mem_cons_self | apply List.mem_cons_of_mem)) rfl ?_
        refine turned_spec03 (by omega) (by omega) ?_
        refine ⟨o.bload (f := 0 + 1) (by repeat (first | exact List.mem_cons_self | apply List.mem_cons_of_mem)) rfl rfl, ?_⟩
        refine pBuild_two rfl rfl ?_
        have hrl : (rowsP ls (n + 1) k).flatten.length = zs.length * 2 := by rw [flat_len _ rowsP_row, rowsP_len, hlen]
        refine (o.sl (v := wv) (by repeat (first | exact List.mem_cons_self | apply List.mem_cons_of_mem))).at_ hrl (by decide) (by omega) (by omega) fun p hp => ?_
        refine o.storeN (l := (rowsP ls (n + 1) k).flatten) hp (by repeat (first | exact List.mem_cons_self | apply List.mem_cons_of_mem)) rfl (by omega) rfl (by repeat (first | exact Rep.here | apply Rep.there)) fun H5 o _ => ?_
        rw [Int.toNat_natCast, flat_set _ _ _ rowsP_row rfl (by rw [rowsP_len]; omega)] at o
        have hw : [Value.int .u64 (revN (startC ls (n + 1) + cntL (ls.take k) (n + 1)) (n + 1) : Nat), .int .i64 ((n + 1 : Nat) : Int)] = wordV ls k := by
          unfold wordV codeL rankL
          rw [hg]
        rw [hw, rowsP_set (by omega) hg (by omega)] at o
        rw [pNil_v, pFieldAddr_v, add_mk]
        refine o.bload (f := 0 + 18) (by repeat (first | exact List.mem_cons_self | apply List.mem_cons_of_mem)) rfl ?_
        refine o.build1 (sz := 1) (by decide) rfl rfl fun y H6 o => ?_
        have hsz : (symsV (symsB ls (n + 1) ++ symsN ls (n + 1) k)).length ≤ 5000 := by
          rw [symsV_len, List.length_append, symsB_len, symsN_len _ (by omega)]
          have := sumC_le (ls := ls) (by omega) (n + 1)
          have h2 : (n + 1) * 288 ≤ 15 * 288 := Nat.mul_le_mul_right _ hn15
          exact Nat.le_trans (Nat.add_le_add (Nat.le_trans this h2) hcl) (by decide)
        refine o.app (by repeat (first | exact Sel.here | apply Sel.there)) (o.sl (v := y) (by repeat (first | exact List.mem_cons_self | apply List.mem_cons_of_mem))) rfl (by show 2 * (_ + 1) * 8 ≤ _; omega) fun z H7 o => ?_
        rw [pNil_v, pFieldAddr_v, add_mk]
        refine o.bstore (f := 0 + 18) (cs := codeCells lv wv (countsL ls) sv) (by repeat (first | exact List.mem_cons_self | apply List.mem_cons_of_mem)) (by simp [numsV_len, countsL_len]) (o.sl (v := z) (by repeat (first | exact List.mem_cons_self | apply List.mem_cons_of_mem))).one (by repeat (first | exact Rep.here | apply Rep.there)) fun H8 o _ => ?_
        rw [pAdd_v, wu64 (by omega) (by omega), pAdd_v, w64 (n := (k : Int) + 1) (by omega) (by omega)]
        refine ⟨⟨k + 1, rfl, by omega, ?_, z, ?_⟩, by show (_ : Int).toNat < (_ : Int).toNat; omega⟩
        · rw [htk]; rfl
        · rw [symsN_hit hg]
          have e : symsV (symsB ls (n + 1) ++ symsN ls (n + 1) k) ++ [Value.int .i64 (k : Int)] = symsV (symsB ls (n + 1) ++ (symsN ls (n + 1) k ++ [k])) := by simp [symsV]
          rw [← e]
          exact o.arr (by repeat (first | exact Sels.nil | exact Sel.here | apply Sels.cons | apply Sel.there))
      · have hkv : zs[k] ≠ ((n + 1 : Nat) : Int) := by
          intro e
          rw [e] at hb
          simp at hb
        have hg : ls.getD k 0 ≠ n + 1 := by rw [hgz hkn]; omega
        rw [if_neg hg, Nat.add_zero] at htk
        refine ⟨⟨k + 1, rfl, by omega, by rw [htk]; rfl, sv, ?_⟩, by show (_ : Int).toNat < (_ : Int).toNat; omega⟩
        rw [rowsP_same hg, symsN_miss hg]
        exact o
    · have hkk : k = zs.length := by omega
      rw [hkk, ← hlen, rowsP_next] at o
      rw [hkk, ← hlen, List.take_length, ← endC_start _ (by omega)]
      rw [pAdd_v, w64 (n := ((n + 1 : Nat) : Int) + 1) (by omega) (by omega)]
      refine ⟨⟨n + 1, rfl, by omega, rfl, sv, ?_⟩, by show (_ : Int).toNat < (_ : Int).toNat; omega⟩
      rw [symsB, if_neg (by omega)]
      exact o
  · have : n = 15 := by omega
    subst this
    rw [rowsP_end hle] at o
    exact h _ _ _ o
end Go.Proofs.YtpnkoniomalcpaaDoor
