/- Contracts of package canon: a code's own functions. -/
import Derived.Test.YtpnkoniomalcpaaDoorWhy03
namespace Go.Proofs.YtpnkoniomalcpaaDoor
-- only what is there
open Go Go.Vc Go.Proofs
set_option linter.unusedVariables false
set_option linter.unusedSimpArgs false
variable {H : Heap} {R : Value → Heap → Prop} {v : Value} {zs : List Int}
/-- a code's cells: lengths, words, counts, symbols -/
abbrev codeCells (lv wv : Value) (cs : List Int) (sv : Value) : List Value := lv :: wv :: (numsV cs ++ [sv])
theorem codeCells_count {lv wv sv : Value} {cs : List Int} {n : Nat} (h : n < cs.length) : (codeCells lv wv cs sv)[2 + n]? = some (.int .i64 cs[n]) := by
  rw [show 2 + n = n + 1 + 1 by omega, List.getElem?_cons_succ, List.getElem?_cons_succ, List.getElem?_append_left (by rw [numsV_len]; exact h), numsV_get h]
theorem codeCells_set {lv wv sv : Value} {cs : List Int} {n : Nat} {z : Int} (h : n < cs.length) : (codeCells lv wv cs sv).set (2 + n) (.int .i64 z) = codeCells lv wv (cs.set n z) sv := by
  rw [show 2 + n = n + 1 + 1 by omega, List.set_cons_succ, List.set_cons_succ, List.set_append_left _ _ (by rw [numsV_len]; exact h), numsV_set]
/-- the counts of lengths: of those above 0 -/
def countsL (ls : List Nat) : List Int := (List.range 16).map fun n => if n = 0 then 0 else ((cntL ls n : Nat) : Int)
theorem countsL_len (ls : List Nat) : (countsL ls).length = 16 := by simp [countsL]
theorem countsL_at {ls : List Nat} {n : Nat} (h : n < 16) : (countsL ls)[n]'(by rw [countsL_len]; exact h) = if n = 0 then 0 else ((cntL ls n : Nat) : Int) := by simp [countsL]
theorem countsL_snoc {ls : List Nat} {k : Nat} (h0 : 1 ≤ k) (h1 : k ≤ 15) : countsL (ls ++ [k]) = (countsL ls).set k ((cntL ls k : Nat) + 1 : Int) := by
  apply List.ext_getElem
  · rw [List.length_set, countsL_len, countsL_len]
  intro i h2 h3
  rw [countsL_len] at h2
  rw [countsL_at h2, List.getElem_set]
  by_cases hi : k = i
  · subst hi
    rw [if_pos rfl, if_neg (by omega), cntL_append]
    have : cntL [k] k = 1 := by unfold cntL; rw [List.countP_cons, List.countP_nil, decide_eq_true rfl]; rfl
    rw [this]; omega
  · rw [if_neg hi, countsL_at h2]
    by_cases h0 : i = 0
    · rw [if_pos h0, if_pos h0]
    · rw [if_neg h0, if_neg h0, cntL_append]
      have : cntL [k] i = 0 := by unfold cntL; rw [List.countP_cons, List.countP_nil, decide_eq_false hi]; rfl
      rw [this]; omega
theorem countsL_zero {ls : List Nat} : countsL (ls ++ [0]) = countsL ls := by
  apply List.ext_getElem
  · rw [countsL_len, countsL_len]
  intro i h2 h3
  rw [countsL_len] at h2
  rw [countsL_at h2, countsL_at h2]
  by_cases h0 : i = 0
  · rw [if_pos h0, if_pos h0]
  · rw [if_neg h0, if_neg h0, cntL_append]
    have : cntL [0] i = 0 := by unfold cntL; rw [List.countP_cons, List.countP_nil, decide_eq_false (by omega)]; rfl
    rw [this]; omega
theorem leftC_range (ls : List Nat) (n : Nat) (hn : n ≤ 15) (hl : ls.length ≤ 288) : -10000000 ≤ leftC ls n ∧ leftC ls n ≤ 32768 := by
  unfold leftC
  have h1 : endC ls n ≤ 288 * 2 ^ 15 := by
    rw [endC_share]
    exact Nat.le_trans (shareL_le ls n) (Nat.mul_le_mul hl (Nat.pow_le_pow_right (by decide) hn))
  have h2 : 2 ^ n ≤ 2 ^ 15 := Nat.pow_le_pow_right (by decide) hn
  generalize 2 ^ n = P at *
  omega
theorem fill_spec {H0 : Heap} {b : Nat} {t : TypeId} {lv wv sv : Value} (hz : okZ zs) (o : Owns H0 H [.box b (codeCells lv wv (countsL []) sv) t, .sl lv 1 (numsV zs)])
    (h : ∀ H' r, Owns H0 H' [.box b (codeCells lv wv (countsL (natL zs)) sv) t, .sl lv 1 (numsV zs)] → (if leftC (natL zs) 15 < 0 then r < 0 else r = leftC (natL zs) 15) → R (.int .i64 r) H') : CallsH Tryd.prog 82 #[.pointer (some ⟨b, 0, none⟩)] H R := by
  have hvl : (numsV zs).length = zs.length * 1 := by rw [numsV_len]; omega
  have hz1 := hz.1
  refine canon_Code_fill.vc _ _ _ ?_
  unfold canon_Code_fill.res
  rw [pNil_v, pFieldAddr_v]
  refine o.bload (by repeat (first | exact List.mem_cons_self | apply List.mem_cons_of_mem)) rfl ?_
  refine (o.sl (v := lv) (by repeat (first | exact List.mem_cons_self | apply List.mem_cons_of_mem))).len hvl (by decide) ?_
  refine ⟨fun i H' => ∃ k : Nat, i = .int .i64 k ∧ k ≤ zs.length ∧ Owns H0 H' [.box b (codeCells lv wv (countsL (natL (zs.take k))) sv) t, .sl lv 1 (numsV zs)], fun i _ => match i with | .int _ x => (1000 - x).toNat | _ => 0, ⟨0, rfl, by omega, o⟩, ?_⟩
  rintro _ _ H1 ⟨k, rfl, hk, o⟩
  rw [pLt_v]
  refine pCond_if (fun hc => ?_) (fun hc => ?_)
  · have hkn : k < zs.length := by omega
    have hzk := hz.2 _ (List.getElem_mem hkn)
    have hsn := natL_snoc hkn
    obtain ⟨q, hq⟩ : ∃ q : Nat, zs[k] = q := ⟨zs[k].toNat, by omega⟩
    rw [hq, Int.toNat_natCast] at hsn
    refine (o.sl (v := lv) (by repeat (first | exact List.mem_cons_self | apply List.mem_cons_of_mem))).at_ hvl (by decide) (by omega) (by omega) fun p hp => ?_
    refine hp.load (o.sl (v := lv) (by repeat (first | exact List.mem_cons_self | apply List.mem_cons_of_mem))) (w := .int .i64 q) (by rw [Int.toNat_natCast, Nat.mul_one, numsV_get hkn, hq]) ?_
    rw [pGt_v]
    refine pCond_if (fun hpos => ?_) (fun hpos => ?_)
    · have hcl := countsL_len (natL (zs.take k))
      have hc1 : cntL (natL (zs.take k)) q ≤ 288 := by
        have := List.countP_le_length (p := fun j : Nat => decide (j = q)) (l := natL (zs.take k))
        rw [natL_len, List.length_take] at this
        unfold cntL; omega
      rw [pNil_v, pFieldAddr_v, add_mk, pIdxArr_v]
      refine ⟨by omega, by omega, ?_⟩
      rw [add_mk, show 0 + 2 + (q : Int).toNat * 1 = 2 + q by omega]
      refine o.bload (by repeat (first | exact List.mem_cons_self | apply List.mem_cons_of_mem)) (codeCells_count (by rw [hcl]; omega)) ?_
      rw [countsL_at (by omega), if_neg (by omega), pAdd_v, w64 (n := ((cntL (natL (zs.take k)) q : Nat) : Int) + 1) (by omega) (by omega)]
      rw [pNil_v, pFieldAddr_v, add_mk, pIdxArr_v]
      refine ⟨by omega, by omega, ?_⟩
      rw [add_mk, show 0 + 2 + (q : Int).toNat * 1 = 2 + q by omega]
      refine o.bstore (cs := codeCells lv wv (countsL (natL (zs.take k))) sv) (by repeat (first | exact List.mem_cons_self | apply List.mem_cons_of_mem)) (by simp [numsV_len, hcl]; omega) rfl (by repeat (first | exact Rep.here | apply Rep.there)) fun H2 o _ => ?_
      rw [codeCells_set (by rw [hcl]; omega), ← countsL_snoc (by omega) (by omega), ← hsn] at o
      rw [pAdd_v, w64 (n := (k : Int) + 1) (by omega) (by omega)]
      exact ⟨⟨k + 1, rfl, by omega, o⟩, by show (_ : Int).toNat < (_ : Int).toNat; omega⟩
    · have hq0 : q = 0 := by omega
      subst hq0
      rw [← countsL_zero, ← hsn] at o
      rw [pAdd_v, w64 (n := (k : Int) + 1) (by omega) (by omega)]
      exact ⟨⟨k + 1, rfl, by omega, o⟩, by show (_ : Int).toNat < (_ : Int).toNat; omega⟩
  have hkk : k = zs.length := by omega
  rw [hkk, List.take_length] at o
  have hlen : (natL zs).length ≤ 288 := by rw [natL_len]; omega
  generalize natL zs = ls at *
  refine ⟨fun l i H' => ∃ n : Nat, i = .int .i64 (n + 1 : Nat) ∧ n ≤ 15 ∧ l = .int .i64 (leftC ls n) ∧ 0 ≤ leftC ls n ∧ H1 = H', fun _ i _ => match i with | .int _ x => (1000 - x).toNat | _ => 0, ⟨0, rfl, by omega, rfl, by show (0 : Int) ≤ 1; decide, rfl⟩, ?_⟩
  rintro _ _ _ _ ⟨n, rfl, hn, rfl, hl0, rfl⟩
  rw [pLe_v]
  refine pCond_if (fun hc => ?_) (fun hc => ?_)
  · have hn15 : n + 1 ≤ 15 := by omega
    have hr := leftC_range ls n (by omega) hlen
    have hr1 := leftC_range ls (n + 1) hn15 hlen
    have hs := leftC_succ ls n
    rw [pMul_v, w64 (n := 2 * leftC ls n) (by omega) (by omega)]
    rw [pNil_v, pFieldAddr_v, add_mk, pIdxArr_v]
    refine ⟨by omega, by omega, ?_⟩
    rw [add_mk, show 0 + 2 + ((n + 1 : Nat) : Int).toNat * 1 = 2 + (n + 1) by omega]
    refine o.bload (by repeat (first | exact List.mem_cons_self | apply List.mem_cons_of_mem)) (codeCells_count (by rw [countsL_len]; omega)) ?_
    rw [countsL_at (by omega), if_neg (by omega), pSub_v, ← hs, w64 (n := leftC ls (n + 1)) (by omega) (by omega), pLt_v]
    refine pCond_if (fun hneg => ?_) (fun hneg => ?_)
    · exact h H1 _ o (by rw [if_pos (leftC_neg ls hneg hn15)]; exact hneg)
    · rw [pAdd_v, w64 (n := ((n + 1 : Nat) : Int) + 1) (by omega) (by omega)]
      exact ⟨⟨n + 1, rfl, by omega, rfl, by omega, rfl⟩, by show (_ : Int).toNat < (_ : Int).toNat; omega⟩
  · have : n = 15 := by omega
    subst this
    exact h H1 _ o (by rw [if_neg (by omega)])
/-- some cells of a box are loaded -/
theorem loadN_in {H0 : Heap} {L : List It} {b f n : Nat} {t : TypeId} {pre mid post : List Value} {K : Value → Prop} (o : Owns H0 H L) (hin : It.box b (pre ++ mid ++ post) t ∈ L) (hf : pre.length = f) (hn : mid.length = n) (hk : K (.agg mid.toArray)) : pLoadN H n (.pointer (some ⟨b, f, none⟩)) K := by
  have hr : Reads H ⟨b, f, none⟩ mid := fun i w hw => by
    have hil := (List.getElem?_eq_some_iff.1 hw).1
    rw [add_mk, cellAt_blk (o.blk hin), List.getElem?_toArray, List.append_assoc, List.getElem?_append_right (by omega), List.getElem?_append_left (by omega), show f + i - pre.length = i by omega]
    exact hw
  exact hr.loadN hn hk
/-- the sum of all counts -/
def sumC (ls : List Nat) : Nat → Nat
  | 0 => 0
  | n + 1 => sumC ls n + (if n = 0 then 0 else cntL ls n)
theorem sumC_cons (k : Nat) (ls : List Nat) : ∀ n, sumC (k :: ls) n = sumC ls n + (if 1 ≤ k ∧ k < n then 1 else 0)
  | 0 => by rw [if_neg (by omega)]; rfl
  | n + 1 => by
    rw [sumC, sumC, sumC_cons k ls n, cntL_cons]
    by_cases h0 : n = 0
    · subst h0; rw [if_pos rfl, if_pos rfl, if_neg (by omega), if_neg (by omega)]
    · rw [if_neg h0, if_neg h0]
      by_cases hk : k = n
      · subst hk; rw [if_pos rfl, if_neg (by omega), if_pos (by omega)]; omega
      · rw [if_neg hk]
        by_cases h1 : 1 ≤ k ∧ k < n
        · rw [if_pos h1, if_pos (by omega)]; omega
        · rw [if_neg h1, if_neg (by omega)]; omega
theorem sumC_nz : ∀ (ls : List Nat), (∀ k ∈ ls, k ≤ 15) → sumC ls 16 = nzL ls
  | [], _ => rfl
  | k :: ls, h => by
    rw [sumC_cons, sumC_nz ls fun x hx => h x (by simp [hx])]
    have := h k (by simp)
    unfold nzL
    rw [List.countP_cons]
    by_cases hk : k = 0
    · subst hk; rfl
    · rw [if_pos (by omega)]; simp [hk]
theorem sumC_le {ls : List Nat} (hlen : ls.length ≤ 288) : ∀ k, sumC ls k ≤ k * 288
  | 0 => Nat.le_refl _
  | k + 1 => by
    have ih := sumC_le hlen k
    have hc : cntL ls k ≤ 288 := Nat.le_trans (List.countP_le_length) hlen
    rw [sumC, Nat.succ_mul]
    by_cases h0 : k = 0
    · rw [if_pos h0]; exact Nat.le_trans ih (Nat.le_add_right _ _)
    · rw [if_neg h0]; exact Nat.add_le_add ih hc
theorem pIdxAgg_to {n : Nat} {l : List Value} {k : IntKind} {i : Int} {x : Value} {K : Value → Prop} (h0 : 0 ≤ i) (h1 : i < (n : Int)) (hx : l[i.toNat]? = some x) (hK : K x) : pIdxAgg n (.agg l.toArray) (.int k i) K := by
  refine ⟨h0, h1, ?_⟩
  show match l[i.toNat]? with | some v => K v | none => False
  rw [hx]
  exact hK
theorem slack_spec {H0 : Heap} {b : Nat} {t : TypeId} {lv wv sv : Value} (hz : okZ zs) (o : Owns H0 H [.box b (codeCells lv wv (countsL (natL zs)) sv) t, .sl lv 1 (numsV zs)])
    (h : R (.bool (slackL (natL zs))) H) : CallsH Tryd.prog 83 #[.pointer (some ⟨b, 0, none⟩)] H R := by
  have hz1 := hz.1
  have hlen : (natL zs).length ≤ 288 := by rw [natL_len]; omega
  have hle : ∀ k ∈ natL zs, k ≤ 15 := fun k hk => by
    obtain ⟨z, hz', rfl⟩ := List.mem_map.1 hk
    have := hz.2 z hz'
    omega
  generalize natL zs = ls at *
  refine canon_Code_slack.vc _ _ _ ?_
  unfold canon_Code_slack.res
  rw [pNil_v, pFieldAddr_v, add_mk]
  refine loadN_in (pre := [lv, wv]) (mid := numsV (countsL ls)) (post := [sv]) o (List.mem_cons_self) rfl (by rw [numsV_len, countsL_len]) ?_
  have hsum := sumC_le hlen
  refine ⟨fun a i H' => ∃ k : Nat, i = .int .i64 k ∧ k ≤ 16 ∧ a = .int .i64 (sumC ls k : Nat) ∧ H = H', fun _ i _ => match i with | .int _ x => (1000 - x).toNat | _ => 0, ⟨0, rfl, by omega, rfl, rfl⟩, ?_⟩
  rintro _ _ _ _ ⟨k, rfl, hk, rfl, rfl⟩
  have hsk := hsum k
  rw [pLt_v]
  refine pCond_if (fun hc => ?_) (fun hc => ?_)
  · have hk16 : k < 16 := by omega
    have hc : cntL ls k ≤ 288 := Nat.le_trans (List.countP_le_length) hlen
    have hgo : ∀ {K : Value → Prop}, K (.int .i64 (if k = 0 then 0 else ((cntL ls k : Nat) : Int))) → pIdxAgg 16 (.agg (numsV (countsL ls)).toArray) (.int .i64 (k : Int)) K := fun hK =>
      pIdxAgg_to (Int.natCast_nonneg k) (Int.ofNat_lt.2 hk16) (by rw [Int.toNat_natCast, numsV_get (by rw [countsL_len]; exact hk16), countsL_at hk16]) hK
    refine hgo ?_
    rw [pAdd_v, pAdd_v, w64 (n := (k : Int) + 1) (by omega) (by omega)]
    refine ⟨⟨k + 1, rfl, by omega, ?_, rfl⟩, by show (_ : Int).toNat < (_ : Int).toNat; omega⟩
    rw [sumC]
    split
    · rw [w64 (by omega) (by omega)]; simp
    · rw [w64 (by omega) (by omega)]; rfl
  · have : k = 16 := by omega
    subst this
    rw [sumC_nz ls hle, pEq_0, dec_zero]
    refine pOr_if (d := decide (nzL ls = 1) && decide (cntL ls 1 = 1)) (fun _ => ?_) (fun _ => h)
    rw [pEq_0, dec_one]
    refine pAnd_if (d := decide (cntL ls 1 = 1)) (fun _ => ?_) (fun _ => ⟨rfl, rfl⟩)
    rw [pNil_v, pFieldAddr_v, add_mk, pIdxArr_v]
    refine ⟨by decide, by decide, ?_⟩
    rw [add_mk]
    refine o.bload (f := 2 + 1) (by repeat (first | exact List.mem_cons_self | apply List.mem_cons_of_mem)) (codeCells_count (by rw [countsL_len]; decide)) ?_
    rw [countsL_at (by decide), if_neg (by decide), pEq_0, dec_one]
    exact ⟨rfl, rfl⟩
end Go.Proofs.YtpnkoniomalcpaaDoor
