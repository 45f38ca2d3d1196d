/- The contracts of lighterref03.Words and the law's text; CanonWords. -/
import Derived.Test.YtpnkoniomalcpaaDoorWord03
import Derived.Test.YtpnkoniomalcpaaDoorBitList
import Derived.Test.YtpnkoniomalcpaaDoorStrs
namespace Go.Proofs.YtpnkoniomalcpaaDoor
-- only what is there
open Go Go.Vc Go.Proofs
set_option linter.unusedVariables false
set_option linter.unusedSimpArgs false
variable {H : Heap} {R : Value → Heap → Prop} {v : Value} {zs : List Int}
/-- a bit as a digit -/
def chr (b : Bool) : UInt8 := if b then 49 else 48
def textB (l : List Bool) : List UInt8 := l.map chr
theorem textB_len (l : List Bool) : (textB l).length = l.length := by simp [textB]
theorem chr_mod (m k : Nat) : Value.int .u8 (IntKind.u8.wrap (IntKind.i64.wrap (48 + ((m / 2 ^ k % 2 : Nat) : Int)))) = byteV (chr (m.testBit k)) := by
  have h2 : m / 2 ^ k % 2 < 2 := Nat.mod_lt _ (by decide)
  rw [Nat.testBit_eq_decide_div_mod_eq]
  generalize m / 2 ^ k % 2 = x at *
  match x, h2 with
  | 0, _ => rfl
  | 1, _ => rfl
theorem chr_modu (m k : Nat) : Value.int .u8 (IntKind.u8.wrap (IntKind.u64.wrap (48 + ((m / 2 ^ k % 2 : Nat) : Int)))) = byteV (chr (m.testBit k)) := by
  have h2 : m / 2 ^ k % 2 < 2 := Nat.mod_lt _ (by decide)
  rw [Nat.testBit_eq_decide_div_mod_eq]
  generalize m / 2 ^ k % 2 = x at *
  match x, h2 with
  | 0, _ => rfl
  | 1, _ => rfl
theorem bitsN_snoc (v n : Nat) : bitsN v (n + 1) = bitsN v n ++ [v.testBit n] := by unfold bitsN; rw [List.range_succ, List.map_append]; rfl
theorem bitsN_rev (c : Nat) : ∀ n, bitsN (revN c n) n = (bitsN c n).reverse
  | 0 => rfl
  | n + 1 => by
    have h2 : c / 2 ^ n % 2 < 2 := Nat.mod_lt _ (by decide)
    rw [bitsN_snoc c, List.reverse_append, bitsN_cons, ← bitsN_rev c n, revN]
    have e1 : (2 * revN c n + c / 2 ^ n % 2) / 2 = revN c n := by omega
    have e2 : (2 * revN c n + c / 2 ^ n % 2).testBit 0 = c.testBit n := by
      rw [Nat.testBit_zero, Nat.testBit_eq_decide_div_mod_eq]
      congr 1
      have : (2 * revN c n + c / 2 ^ n % 2) % 2 = c / 2 ^ n % 2 := by omega
      rw [this]
    rw [e1, e2]
    rfl
/-- a symbol's word as bits, the first one first -/
def wordB (ls : List Nat) (s : Nat) : List Bool := bitsN (revN (codeL ls s) (ls.getD s 0)) (ls.getD s 0)
theorem byte_strO {H0 : Heap} {L : List It} {e : TypeId} {x : Value} {u : UInt8} {K : Value → Heap → Prop} (o : Owns H0 H L) (hx : x = byteV u) (hk : ∀ H', Owns H0 H' L → K (str [u]) H') : pBuildSl H e 1 [.int .u8 0] [(0, 1, x)] fun y H' => pStrOf H' y fun z => K z H' := by
  subst hx
  refine o.build1 (sz := 1) (by decide) rfl rfl fun y H1 o => ?_
  exact (o.sl (v := y) (by repeat (first | exact List.mem_cons_self | apply List.mem_cons_of_mem))).str (l := [u]) (hk H1 (o.pick (List.sublist_cons_self _ _)))
/-! ### what is assigned so far -/
section
variable {α : Type} {f : Nat → α} {z : α} {ls : List Nat} {n x : Nat}
def genP (f : Nat → α) (z : α) (ls : List Nat) (n x : Nat) : List α := (List.range ls.length).map fun s => if 1 ≤ ls.getD s 0 ∧ (ls.getD s 0 < n ∨ (ls.getD s 0 = n ∧ s < x)) then f s else z
theorem genP_len : (genP f z ls n x).length = ls.length := by simp [genP]
theorem genP_congr {m y : Nat} (h : ∀ s, s < ls.length → (1 ≤ ls.getD s 0 ∧ (ls.getD s 0 < n ∨ (ls.getD s 0 = n ∧ s < x)) ↔ 1 ≤ ls.getD s 0 ∧ (ls.getD s 0 < m ∨ (ls.getD s 0 = m ∧ s < y)))) : genP f z ls n x = genP f z ls m y := by
  unfold genP
  refine List.map_congr_left fun s hs => ?_
  have := h s (List.mem_range.1 hs)
  by_cases hc : 1 ≤ ls.getD s 0 ∧ (ls.getD s 0 < n ∨ (ls.getD s 0 = n ∧ s < x))
  · rw [if_pos hc, if_pos (this.1 hc)]
  · rw [if_neg hc, if_neg (fun g => hc (this.2 g))]
theorem genP_same (h : ls.getD x 0 ≠ n) : genP f z ls n (x + 1) = genP f z ls n x := genP_congr fun s hs => by
  constructor
  · rintro ⟨h1, h2 | ⟨h2, h3⟩⟩
    · exact ⟨h1, .inl h2⟩
    · refine ⟨h1, .inr ⟨h2, ?_⟩⟩
      by_cases he : s = x
      · subst he; exact absurd h2 h
      · omega
  · rintro ⟨h1, h2 | ⟨h2, h3⟩⟩
    · exact ⟨h1, .inl h2⟩
    · exact ⟨h1, .inr ⟨h2, by omega⟩⟩
theorem genP_at {i : Nat} (h : i < ls.length) : (genP f z ls n x)[i]? = some (if 1 ≤ ls.getD i 0 ∧ (ls.getD i 0 < n ∨ (ls.getD i 0 = n ∧ i < x)) then f i else z) := by
  unfold genP
  rw [List.getElem?_map, List.getElem?_range h]; rfl
theorem genP_set (hx : x < ls.length) (h : ls.getD x 0 = n) (hn : 1 ≤ n) : (genP f z ls n x).set x (f x) = genP f z ls n (x + 1) := by
  apply List.ext_getElem?
  intro i
  by_cases hil : i < ls.length
  · rw [genP_at hil]
    by_cases hi : x = i
    · subst hi
      rw [List.getElem?_set_self (by rw [genP_len]; exact hx), if_pos ⟨by omega, .inr ⟨h, by omega⟩⟩]
    · rw [List.getElem?_set_ne hi, genP_at hil]
      by_cases hc : 1 ≤ ls.getD i 0 ∧ (ls.getD i 0 < n ∨ (ls.getD i 0 = n ∧ i < x))
      · rw [if_pos hc, if_pos ⟨hc.1, hc.2.imp id fun g => ⟨g.1, by omega⟩⟩]
      · rw [if_neg hc, if_neg (fun g => hc ⟨g.1, g.2.imp id fun g => ⟨g.1, by omega⟩⟩)]
  · rw [List.getElem?_eq_none (by rw [List.length_set, genP_len]; omega), List.getElem?_eq_none (by rw [genP_len]; omega)]
theorem genP_next : genP f z ls n ls.length = genP f z ls (n + 1) 0 := genP_congr fun s hs => by omega
theorem genP_start : genP f z ls 1 0 = List.replicate ls.length z := by
  apply List.ext_getElem?
  intro i
  by_cases hil : i < ls.length
  · rw [genP_at hil, List.getElem?_replicate, if_pos hil, if_neg (by omega)]
  · rw [List.getElem?_eq_none (by rw [genP_len]; omega), List.getElem?_eq_none (by rw [List.length_replicate]; omega)]
theorem genP_end (h : ∀ k ∈ ls, k ≤ 15) (hz : ∀ s, ls.getD s 0 = 0 → f s = z) : genP f z ls 16 0 = (List.range ls.length).map f := by
  unfold genP
  refine List.map_congr_left fun s hs => ?_
  have h15 := getD_le h s
  by_cases h0 : ls.getD s 0 = 0
  · rw [if_neg (by omega), hz s h0]
  · rw [if_pos ⟨by omega, .inl (by omega)⟩]
end
/-- the document's words -/
def wordsT (ls : List Nat) : List (List UInt8) := (List.range ls.length).map fun s => textB (wordB ls s)
theorem txtsV_rep (n : Nat) : List.replicate n (str []) = txtsV (List.replicate n []) := by simp [txtsV]
theorem txtsV_set (l : List (List UInt8)) (i : Nat) (s : List UInt8) : (txtsV l).set i (str s) = txtsV (l.set i s) := by unfold txtsV; rw [List.map_set]
theorem tmod_nat (a b : Nat) : ((a : Nat) : Int).tmod (b : Nat) = ((a % b : Nat) : Int) := rfl
theorem words_spec (hs : Sl H v 1 (numsV zs)) (hz : okZ zs) (h : ∀ y H', Owns H H' [.sl y 1 (txtsV (wordsT (natL zs)))] → R y H') : CallsH Tryd.prog 75 #[v] H R := by
  have hvl : (numsV zs).length = zs.length * 1 := by rw [numsV_len]; omega
  have hz1 := hz.1
  have hgz := @natL_getD zs
  have hlen : (natL zs).length = zs.length := natL_len zs
  have hle := ok_le hz
  generalize natL zs = ls at *
  have hend := endC_le (ls := ls) (by omega)
  refine lighterref03_Words.vc _ _ _ ?_
  unfold lighterref03_Words.res
  refine hs.len hvl (by decide) ?_
  refine (Owns.start (H := H)).make1 (by omega) (by omega) (by omega) fun y H1 o => ?_
  rw [Int.toNat_natCast, ← hlen, txtsV_rep, ← genP_start (f := fun s => textB (wordB ls s))] at o
  refine ⟨fun m i H' => ∃ n : Nat, i = .int .i64 ((n + 1 : Nat) : Int) ∧ n ≤ 15 ∧ m = .int .i64 ((endC ls n : Nat) : Int) ∧ Owns H H' [.sl y 1 (txtsV (genP (fun s => textB (wordB ls s)) [] ls (n + 1) 0))], fun _ i _ => match i with | .int _ x => (1000 - x).toNat | _ => 0, ⟨0, rfl, by omega, rfl, o⟩, ?_⟩
  clear o
  rintro _ _ _ H3 ⟨n, rfl, hn, rfl, o⟩
  rw [pLe_v]
  refine pCond_if (fun hc => ?_) (fun hc => ?_)
  · have hn15 : n + 1 ≤ 15 := by omega
    have he := hend n
    have hp2 : 2 ^ n ≤ 2 ^ 15 := Nat.pow_le_pow_right (by decide) hn
    have hst : startC ls (n + 1) = 2 * endC ls n := by unfold startC; rw [Nat.add_sub_cancel]
    generalize 2 ^ n = P at *
    rw [pMul_v, show ((endC ls n : Nat) : Int) * 2 = ((startC ls (n + 1) : Nat) : Int) by omega, w64 (by omega) (by omega)]
    refine ⟨fun m i H' => ∃ k : Nat, i = .int .i64 (k : Int) ∧ k ≤ zs.length ∧ m = .int .i64 ((startC ls (n + 1) + cntL (ls.take k) (n + 1) : Nat) : Int) ∧ Owns H H' [.sl y 1 (txtsV (genP (fun s => textB (wordB ls s)) [] ls (n + 1) k))], fun _ i _ => match i with | .int _ x => (1000 - x).toNat | _ => 0, ⟨0, rfl, by omega, rfl, o⟩, ?_⟩
    clear o
    rintro _ _ _ H4 ⟨k, rfl, hk, rfl, o⟩
    refine (hs.ext o.ext).len hvl (by decide) ?_
    rw [pLt_v]
    refine pCond_if (fun hc => ?_) (fun hc => ?_)
    · have hkn : k < zs.length := by omega
      have hcl : cntL (ls.take k) (n + 1) ≤ 288 := Nat.le_trans List.countP_le_length (by rw [List.length_take]; omega)
      have hzk := hz.2 _ (List.getElem_mem hkn)
      have hxk : ls[k]? = some zs[k].toNat := by
        have := hgz hkn
        rw [List.getD_eq_getElem?_getD, List.getElem?_eq_getElem (by omega)] at this
        rw [List.getElem?_eq_getElem (by omega), ← this]; rfl
      have htk : cntL (ls.take (k + 1)) (n + 1) = cntL (ls.take k) (n + 1) + (if ls.getD k 0 = n + 1 then 1 else 0) := by
        rw [List.take_add_one, hxk, hgz hkn, cntL_append, Option.toList, cntL_cons]
        simp [cntL]
      refine ⟨fun a H' => a = .int .i64 ((startC ls (n + 1) + cntL (ls.take (k + 1)) (n + 1) : Nat) : Int) ∧ Owns H H' [.sl y 1 (txtsV (genP (fun s => textB (wordB ls s)) [] ls (n + 1) (k + 1)))], ?_, ?_⟩
      · rintro _ _ H5 ⟨rfl, o⟩
        rw [pAdd_v, w64 (n := (k : Int) + 1) (by omega) (by omega)]
        exact ⟨⟨k + 1, rfl, by omega, rfl, o⟩, by show (_ : Int).toNat < (_ : Int).toNat; omega⟩
      refine (hs.ext o.ext).at_ hvl (by decide) (by omega) (by omega) fun p hp => ?_
      refine hp.load (hs.ext o.ext) (w := .int .i64 zs[k]) (by rw [Int.toNat_natCast, Nat.mul_one, numsV_get hkn]) ?_
      rw [pEq_0]
      refine pCond_b (fun hb => ?_) (fun hb => ?_)
      · have hkv : zs[k] = ((n + 1 : Nat) : Int) := by
          have := hb
          simp at this
          rw [this]; rfl
        have hg : ls.getD k 0 = n + 1 := by rw [hgz hkn, hkv]; rfl
        rw [if_pos hg] at htk
        generalize hcd : startC ls (n + 1) + cntL (ls.take k) (n + 1) = c at *
        have hc0 : c ≤ 10000000 * 2 := by omega
        have hcode : codeL ls k = c := by
          unfold codeL rankL
          rw [hg]; exact hcd
        refine ⟨fun w a i H' => ∃ j : Nat, i = .int .i64 (j : Int) ∧ j ≤ n + 1 ∧ a = .int .i64 ((c / 2 ^ j : Nat) : Int) ∧ w = str (textB (bitsN c j).reverse) ∧ Owns H H' [.sl y 1 (txtsV (genP (fun s => textB (wordB ls s)) [] ls (n + 1) k))], fun _ _ i _ => match i with | .int _ x => (1000 - x).toNat | _ => 0, ⟨0, rfl, by omega, by rw [Nat.pow_zero, Nat.div_one], rfl, o⟩, ?_⟩
        clear o
        rintro _ _ _ _ H5 ⟨j, rfl, hj, rfl, rfl, o⟩
        rw [pLt_v]
        refine pCond_if (fun hc => ?_) (fun hc => ?_)
        · have hd : c / 2 ^ j ≤ c := Nat.div_le_self _ _
          have hd1 : c / 2 ^ (j + 1) ≤ c := Nat.div_le_self _ _
          rw [pRem_v]
          refine ⟨by decide, ?_⟩
          rw [show (((c / 2 ^ j : Nat) : Int).tmod 2) = ((c / 2 ^ j % 2 : Nat) : Int) from rfl, pAdd_v, pConv_v]
          refine byte_strO o (chr_mod c j) fun H6 o => ?_
          rw [pAdd_s]
          refine ⟨?_, ?_⟩
          · show 1 + (textB (bitsN c j).reverse).toArray.size ≤ _
            rw [List.size_toArray, textB_len, List.length_reverse, bitsN_len]
            omega
          rw [pQuo_v]
          refine ⟨by decide, ?_⟩
          rw [show (((c / 2 ^ j : Nat) : Int).tdiv 2) = ((c / 2 ^ (j + 1) : Nat) : Int) by rw [Nat.pow_succ, ← Nat.div_div_eq_div_mul]; rfl]
          rw [w64 (n := ((c / 2 ^ (j + 1) : Nat) : Int)) (Int.le_trans (by decide) (Int.natCast_nonneg _)) (by omega), pAdd_v, w64 (n := (j : Int) + 1) (by omega) (by omega)]
          refine ⟨⟨j + 1, rfl, by omega, rfl, ?_, o⟩, by show (_ : Int).toNat < (_ : Int).toNat; omega⟩
          rw [bitsN_snoc, List.reverse_append]
          simp [textB]
        · have hj' : j = n + 1 := by omega
          subst hj'
          refine (o.sl (v := y) (by repeat (first | exact List.mem_cons_self | apply List.mem_cons_of_mem))).at_ (n := ls.length) (by rw [txtsV_len, genP_len, Nat.mul_one]) (by decide) (by omega) (by omega) fun p hp => ?_
          refine o.store hp (by repeat (first | exact List.mem_cons_self | apply List.mem_cons_of_mem)) (by rw [txtsV_len, genP_len]; omega) rfl (by repeat (first | exact Rep.here | apply Rep.there)) fun H6 o _ => ?_
          rw [Int.toNat_natCast, Nat.mul_one, ← bitsN_rev, ← hcode] at o
          have e : textB (bitsN (revN (codeL ls k) (n + 1)) (n + 1)) = textB (wordB ls k) := by unfold wordB; rw [hg]
          rw [e, txtsV_set, genP_set (f := fun s => textB (wordB ls s)) (by omega) hg (by omega)] at o
          rw [pAdd_v, w64 (n := (c : Int) + 1) (by omega) (by omega)]
          refine ⟨?_, o⟩
          rw [htk, ← hcd]
          rfl
      · have hkv : zs[k] ≠ ((n + 1 : Nat) : Int) := by
          intro e
          rw [e] at hb
          simp at hb
        have hg : ls.getD k 0 ≠ n + 1 := by rw [hgz hkn]; omega
        rw [if_neg hg, Nat.add_zero] at htk
        rw [genP_same hg, htk]
        exact ⟨rfl, o⟩
    · have hkk : k = zs.length := by omega
      rw [hkk, ← hlen, genP_next] at o
      rw [hkk, ← hlen, List.take_length, ← endC_start _ (by omega)]
      rw [pAdd_v, w64 (n := ((n + 1 : Nat) : Int) + 1) (by omega) (by omega)]
      exact ⟨⟨n + 1, rfl, by omega, rfl, o⟩, by show (_ : Int).toNat < (_ : Int).toNat; omega⟩
  · have : n = 15 := by omega
    subst this
    rw [genP_end hle (fun s h0 => by unfold wordB; rw [h0]; rfl)] at o
    exact h _ _ o
end Go.Proofs.YtpnkoniomalcpaaDoor
