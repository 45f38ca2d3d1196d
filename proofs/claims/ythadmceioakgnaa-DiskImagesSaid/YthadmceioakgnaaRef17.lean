/- The document's answer for disks, over the model: where the power is on and there is no fuse. -/
import Derived.Test.YthadmceioakgnaaLaw17b
import Derived.Test.YthadmceioakgnaaResLighterref17
namespace Go.Proofs.Ythadmceioakgnaa
open Go Go.Vc Go.Proofs
set_option linter.unusedVariables false
set_option linter.unusedSimpArgs false
variable {H H0 : Heap} {R : Value → Heap → Prop} {v lv cv : Value} {L : List It} {b : Nat} {M : Dk}
/-- the cache, by the times of its writes -/
def cacheR (M : Dk) : List (List Value) := M.order.map fun i : Nat => [.int .i64 (i : Int), str ((M.cs i).getD [])]
theorem cacheR_row : ∀ r ∈ cacheR M, r.length = 2 := by
  intro r hr
  obtain ⟨i, _, rfl⟩ := List.mem_map.1 hr
  rfl
theorem cacheR_len : (cacheR M).flatten.length = M.order.length * 2 := by rw [flat_len _ cacheR_row]; simp [cacheR]
theorem cache_at {k : Nat} {K : Value → Prop} (hc : Sl H cv 2 (cacheR M).flatten) (h : k < M.order.length) (hK : K (.int .i64 (M.order[k] : Nat))) : pIdxSl 2 cv (.int .i64 (k : Int)) fun x => pFieldAddr 0 x fun y => pLoad H y K := by
  refine hc.at_ cacheR_len (by decide) (by omega) (by omega) fun p hp => ?_
  refine hp.field (f := 0) fun q hq => ?_
  refine hq.load hc ?_ hK
  rw [Int.toNat_natCast]
  refine (flat_cell17 (n := 2) (j := 0) cacheR_row (r := [.int .i64 (M.order[k] : Nat), str ((M.cs M.order[k]).getD [])]) ?_ (by decide)).trans rfl
  unfold cacheR
  rw [List.getElem?_map, List.getElem?_eq_getElem h]; rfl
theorem cache_s {k : Nat} {K : Value → Prop} (hc : Sl H cv 2 (cacheR M).flatten) (h : k < M.order.length) (hK : K (str ((M.cs M.order[k]).getD []))) : pIdxSl 2 cv (.int .i64 (k : Int)) fun x => pFieldAddr 1 x fun y => pLoad H y K := by
  refine hc.at_ cacheR_len (by decide) (by omega) (by omega) fun p hp => ?_
  refine hp.field (f := 1) fun q hq => ?_
  refine hq.load hc ?_ hK
  rw [Int.toNat_natCast]
  refine (flat_cell17 (n := 2) (j := 1) cacheR_row (r := [.int .i64 (M.order[k] : Nat), str ((M.cs M.order[k]).getD [])]) ?_ (by decide)).trans rfl
  unfold cacheR
  rw [List.getElem?_map, List.getElem?_eq_getElem h]; rfl
theorem take_order {lf : Int} (ok : DkOk M lf) {k : Nat} (h : k < M.order.length) : M.order[k] ∉ M.order.take k := by
  intro hm
  obtain ⟨j, hj⟩ := List.getElem?_of_mem hm
  rw [List.getElem?_take] at hj
  split at hj
  · rename_i hjk
    have := nodup_get ok.nodup hj (List.getElem?_eq_getElem h)
    omega
  · cases hj
theorem refSync_spec {lf : Int} (ok : DkOk M lf) (hl : Sl H lv 1 (txtsV (genL M.n M.la))) (hc : Sl H cv 2 (cacheR M).flatten)
    (h : ∀ H' y, Owns H H' [.sl y 1 (txtsV (genL M.n M.flush.la))] → R (.tuple #[.agg #[y, .slice none 0 0, .bool false, .int .i64 (-1)], .int .i64 0]) H') : CallsH Try.prog 20 #[.agg #[lv, cv, .bool false, .int .i64 (-1)]] H R := by
  have hol := ok.olen
  have hn := ok.n2
  refine lighterref17_Sync.vc _ _ _ ?_
  unfold lighterref17_Sync.res
  refine (Owns.start (H := H)).box fun d H1 o _ => ?_
  change Owns H H1 [.box d [lv, cv, .bool false, .int .i64 (-1)] _] at o
  refine o.box fun x H2 o _ => ?_
  change Owns H H2 [.box x [.slice none 0 0, .slice none 0 0, .bool false, .int .i64 0] _, .box d [lv, cv, .bool false, .int .i64 (-1)] _] at o
  rw [pFieldAddr_v, add_mk]
  refine o.bload (b := d) (f := 0 + 2) (by repeat (first | exact List.mem_cons_self | apply List.mem_cons_of_mem)) rfl ?_
  rw [pCond_false, pFieldAddr_v, add_mk]
  refine o.bload (b := d) (f := 0 + 3) (by repeat (first | exact List.mem_cons_self | apply List.mem_cons_of_mem)) rfl ?_
  rw [pEq_0, decide_eq_false (by decide), pCond_false]
  refine o.build0 1 (by decide) fun y H3 o => ?_
  rw [pFieldAddr_v, add_mk]
  refine o.bload (b := d) (f := 0 + 0) (by repeat (first | exact List.mem_cons_self | apply List.mem_cons_of_mem)) rfl ?_
  refine o.app (v := y) (by repeat (first | exact Sel.here | apply Sel.there)) (hl.ext o.ext) txtsV_one (by rw [txtsV_len, genL_len]; show 2 * (0 + _) * 16 ≤ _; omega) fun y H4 o => ?_
  rw [List.nil_append] at o
  have hcv : oneCell cv = true := hc.one
  refine ⟨fun i H' => ∃ k : Nat, i = .int .i64 k ∧ k ≤ M.order.length ∧ Owns H H' [.sl y 1 (txtsV (genL M.n fun j => if j ∈ M.order.take k then (M.cs j).getD [] else M.la j)), .box x [.slice none 0 0, .slice none 0 0, .bool false, .int .i64 0] _, .box d [lv, cv, .bool false, .int .i64 (-1)] _], fun i _ => match i with | .int _ x => M.order.length - x.toNat | _ => 0, ⟨0, rfl, by omega, by simpa using o⟩, ?_⟩
  clear o
  rintro _ _ H5 ⟨k, rfl, hk, o⟩
  rw [pFieldAddr_v, add_mk]
  refine o.bload (b := d) (f := 0 + 1) (by repeat (first | exact List.mem_cons_self | apply List.mem_cons_of_mem)) rfl ?_
  refine (hc.ext o.ext).len cacheR_len (by decide) ?_
  rw [pLt_v]
  have hll : (txtsV (genL M.n fun j => if j ∈ M.order.take k then (M.cs j).getD [] else M.la j)).length = M.n * 1 := by rw [txtsV_len, genL_len, Nat.mul_one]
  refine pCond_if (fun hkl => ?_) (fun hkl => ?_)
  · have hkn : k < M.order.length := by omega
    have hq := ok.rng _ (List.getElem_mem hkn)
    rw [pFieldAddr_v, add_mk]
    refine o.bload (b := d) (f := 0 + 1) (by repeat (first | exact List.mem_cons_self | apply List.mem_cons_of_mem)) rfl ?_
    refine cache_at (hc.ext o.ext) hkn ?_
    rw [pFieldAddr_v, add_mk]
    refine o.bload (b := d) (f := 0 + 1) (by repeat (first | exact List.mem_cons_self | apply List.mem_cons_of_mem)) rfl ?_
    refine cache_s (hc.ext o.ext) hkn ?_
    refine (o.sl (v := y) (by repeat (first | exact List.mem_cons_self | apply List.mem_cons_of_mem))).at_ hll (by decide) (by omega) (by omega) fun p hp => ?_
    refine o.store hp (by repeat (first | exact List.mem_cons_self | apply List.mem_cons_of_mem)) (by rw [hll]; omega) rfl (by repeat (first | exact Rep.here | apply Rep.there)) fun H6 o _ => ?_
    rw [Int.toNat_natCast, Nat.mul_one, txtsV_set', genL_set] at o
    rw [pAdd_v, w64 (n := (k : Int) + 1) (by omega) (by omega)]
    refine ⟨⟨k + 1, rfl, by omega, ?_⟩, by show M.order.length - ((k : Int) + 1).toNat < M.order.length - (k : Int).toNat; omega⟩
    have e : (genL M.n fun j => if j ∈ M.order.take (k + 1) then (M.cs j).getD [] else M.la j) = genL M.n fun j => if j = M.order[k] then (M.cs M.order[k]).getD [] else if j ∈ M.order.take k then (M.cs j).getD [] else M.la j := by
      refine genL_congr fun j _ => ?_
      rw [List.take_add_one, List.getElem?_eq_getElem hkn]
      by_cases hj : j = M.order[k]
      · show (if j ∈ M.order.take k ++ [M.order[k]] then _ else _) = _
        rw [if_pos hj, if_pos (List.mem_append_right _ (List.mem_singleton.2 hj)), hj]
      · rw [if_neg hj]
        have : (j ∈ M.order.take k ++ [M.order[k]]) = (j ∈ M.order.take k) := by rw [List.mem_append, List.mem_singleton]; simp [hj]
        show (if j ∈ M.order.take k ++ [M.order[k]] then _ else _) = _
        simp only [this]
    rw [e]
    exact o
  · have hkk : k = M.order.length := by omega
    rw [hkk, List.take_length] at o
    rw [pFieldAddr_v, add_mk]
    refine o.bload (b := d) (f := 0 + 3) (by repeat (first | exact List.mem_cons_self | apply List.mem_cons_of_mem)) rfl ?_
    refine pBuild_one (o.sl (v := y) (by repeat (first | exact List.mem_cons_self | apply List.mem_cons_of_mem))).one (by decide) ?_
    refine pBuild_one rfl (by simp) ?_
    rw [pBuild_n]
    refine o.bstoreN (b := x) (by repeat (first | exact List.mem_cons_self | apply List.mem_cons_of_mem)) rfl rfl (all_cons (o.sl (v := y) (by repeat (first | exact List.mem_cons_self | apply List.mem_cons_of_mem))).one rfl) (by repeat (first | exact Rep.here | apply Rep.there)) fun H6 o _ => ?_
    refine o.bloadN (b := x) (by repeat (first | exact List.mem_cons_self | apply List.mem_cons_of_mem)) rfl ?_
    have e : (genL M.n fun j => if j ∈ M.order then (M.cs j).getD [] else M.la j) = genL M.n M.flush.la := by
      refine genL_congr fun j _ => ?_
      show _ = (M.cs j).getD (M.la j)
      cases hs : M.cs j with
      | some s => rw [if_pos ((ok.dom j).2 (by rw [hs]; rfl))]; rfl
      | none => rw [if_neg (fun g => by have := (ok.dom j).1 g; rw [hs] at this; cases this)]; rfl
    rw [e] at o
    exact h H6 y (o.arr (by repeat (first | exact Sels.nil | exact Sel.here | apply Sels.cons | apply Sel.there)))
theorem refCrash_spec {lf : Int} {fates : List Int} (ok : DkOk M lf) (ho : M.off = false) (hl : Sl H lv 1 (txtsV (genL M.n M.la))) (hc : Sl H cv 2 (cacheR M).flatten) (hf : Sl H v 1 (numsV fates)) (hfl : fates.length ≤ maxLen)
    (h : ∀ H' y, Owns H H' [.sl y 1 (txtsV (genL M.n (M.crash fates).la))] → R (.agg #[y, .slice none 0 0, .bool true, .int .i64 (-1)]) H') : CallsH Try.prog 21 #[.agg #[lv, cv, .bool false, .int .i64 (-1)], v] H R := by
  have hol := ok.olen
  have hn := ok.n2
  have hmax : maxLen = 9223372036854775807 := rfl
  have hfv : (numsV fates).length = fates.length * 1 := by rw [numsV_len, Nat.mul_one]
  refine lighterref17_Crash.vc _ _ _ _ ?_
  unfold lighterref17_Crash.res
  refine (Owns.start (H := H)).box fun d H1 o _ => ?_
  change Owns H H1 [.box d [lv, cv, .bool false, .int .i64 (-1)] _] at o
  refine o.box fun x H2 o _ => ?_
  change Owns H H2 [.box x [.slice none 0 0, .slice none 0 0, .bool false, .int .i64 0] _, .box d [lv, cv, .bool false, .int .i64 (-1)] _] at o
  rw [pFieldAddr_v, add_mk]
  refine o.bload (b := d) (f := 0 + 2) (by repeat (first | exact List.mem_cons_self | apply List.mem_cons_of_mem)) rfl ?_
  rw [pCond_false]
  refine o.build0 1 (by decide) fun y H3 o => ?_
  rw [pFieldAddr_v, add_mk]
  refine o.bload (b := d) (f := 0 + 0) (by repeat (first | exact List.mem_cons_self | apply List.mem_cons_of_mem)) rfl ?_
  refine o.app (v := y) (by repeat (first | exact Sel.here | apply Sel.there)) (hl.ext o.ext) txtsV_one (by rw [txtsV_len, genL_len]; show 2 * (0 + _) * 16 ≤ _; omega) fun y H4 o => ?_
  rw [List.nil_append] at o
  refine ⟨fun i H' => ∃ k : Nat, i = .int .i64 k ∧ k ≤ M.order.length ∧ Owns H H' [.sl y 1 (txtsV (genL M.n fun j => if j ∈ M.order.take k then tornF (M.la j) ((M.cs j).getD []) (fateN fates (M.order.idxOf j)) else M.la j)), .box x [.slice none 0 0, .slice none 0 0, .bool false, .int .i64 0] 47 , .box d [lv, cv, .bool false, .int .i64 (-1)] 47 ], fun i _ => match i with | .int _ x => M.order.length - x.toNat | _ => 0, ⟨0, rfl, by omega, by simpa using o⟩, ?_⟩
  clear o
  rintro _ _ H5 ⟨k, rfl, hk, o⟩
  rw [pFieldAddr_v, add_mk]
  refine o.bload (b := d) (f := 0 + 1) (by repeat (first | exact List.mem_cons_self | apply List.mem_cons_of_mem)) rfl ?_
  refine (hc.ext o.ext).len cacheR_len (by decide) ?_
  rw [pLt_v]
  refine pCond_if (fun hkl => ?_) (fun hkl => ?_)
  · have hkn : k < M.order.length := by omega
    have hin := List.getElem_mem hkn
    have hq := ok.rng _ hin
    have hnt := take_order ok hkn
    have hidx := idxOf_take (j := 0) ok.nodup hkn
    obtain ⟨s, hs⟩ : ∃ s, M.cs M.order[k] = some s := Option.isSome_iff_exists.1 ((ok.dom _).1 hin)
    have hs64 := ok.c64 _ s hs
    have hla64 := ok.l64 _ hq
    have htk : M.order.take (k + 1) = M.order.take k ++ [M.order[k]] := by rw [List.take_add_one, List.getElem?_eq_getElem hkn]; rfl
    have hcat : ∀ {H' : Heap} {L : List It} {K : Value → Prop}, Owns H H' L → It.box d [lv, cv, .bool false, .int .i64 (-1)] 47 ∈ L → K (.int .i64 (M.order[k] : Nat)) → pFieldAddr 1 (ptr d) fun x36 => pLoad H' x36 fun x37 => pIdxSl 2 x37 (.int .i64 (k : Int)) fun x => pFieldAddr 0 x fun y => pLoad H' y K := fun o hm hK => by
      rw [pFieldAddr_v, add_mk]
      exact o.bload (b := d) (f := 0 + 1) hm rfl (cache_at (hc.ext o.ext) hkn hK)
    have hcs : ∀ {H' : Heap} {L : List It} {K : Value → Prop}, Owns H H' L → It.box d [lv, cv, .bool false, .int .i64 (-1)] 47 ∈ L → K (str s) → pFieldAddr 1 (ptr d) fun x36 => pLoad H' x36 fun x37 => pIdxSl 2 x37 (.int .i64 (k : Int)) fun x => pFieldAddr 1 x fun y => pLoad H' y K := fun o hm hK => by
      rw [pFieldAddr_v, add_mk]
      exact o.bload (b := d) (f := 0 + 1) hm rfl (cache_s (hc.ext o.ext) hkn (by rw [hs]; exact hK))
    generalize hqd : M.order[k] = q at *
    -- the state where sector q holds W
    have hst : ∀ W : List UInt8, (txtsV (genL M.n fun j => if j = q then W else if j ∈ M.order.take k then tornF (M.la j) ((M.cs j).getD []) (fateN fates (M.order.idxOf j)) else M.la j)).length = M.n * 1 := fun W => by rw [txtsV_len, genL_len, Nat.mul_one]
    have e0 : (genL M.n fun j => if j ∈ M.order.take k then tornF (M.la j) ((M.cs j).getD []) (fateN fates (M.order.idxOf j)) else M.la j) = genL M.n fun j => if j = q then M.la q else if j ∈ M.order.take k then tornF (M.la j) ((M.cs j).getD []) (fateN fates (M.order.idxOf j)) else M.la j := by
      refine genL_congr fun j _ => ?_
      by_cases hj : j = q
      · rw [if_pos hj, hj, if_neg hnt]
      · rw [if_neg hj]
    rw [e0] at o
    clear e0
    have hput : ∀ {H' : Heap} {W W' : List UInt8} {K : Value → Heap → Prop}, Owns H H' [.sl y 1 (txtsV (genL M.n fun j => if j = q then W else if j ∈ M.order.take k then tornF (M.la j) ((M.cs j).getD []) (fateN fates (M.order.idxOf j)) else M.la j)), .box x [.slice none 0 0, .slice none 0 0, .bool false, .int .i64 0] 47 , .box d [lv, cv, .bool false, .int .i64 (-1)] 47 ] →
        (∀ H'', Owns H H'' [.sl y 1 (txtsV (genL M.n fun j => if j = q then W' else if j ∈ M.order.take k then tornF (M.la j) ((M.cs j).getD []) (fateN fates (M.order.idxOf j)) else M.la j)), .box x [.slice none 0 0, .slice none 0 0, .bool false, .int .i64 0] 47 , .box d [lv, cv, .bool false, .int .i64 (-1)] 47 ] → K undef H'') →
        pIdxSl 1 y (.int .i64 (q : Int)) fun p => pStore H' p (str W') K := by
      intro H' W W' K o hK
      refine (o.sl (v := y) (by repeat (first | exact List.mem_cons_self | apply List.mem_cons_of_mem))).at_ (hst W) (by decide) (by omega) (by omega) fun p hp => ?_
      refine o.store hp (by repeat (first | exact List.mem_cons_self | apply List.mem_cons_of_mem)) (by rw [hst W]; omega) rfl (by repeat (first | exact Rep.here | apply Rep.there)) fun H6 o _ => ?_
      rw [Int.toNat_natCast, Nat.mul_one, txtsV_set', genL_set] at o
      have e : (genL M.n fun j => if j = q then W' else if j = q then W else if j ∈ M.order.take k then tornF (M.la j) ((M.cs j).getD []) (fateN fates (M.order.idxOf j)) else M.la j) = genL M.n fun j => if j = q then W' else if j ∈ M.order.take k then tornF (M.la j) ((M.cs j).getD []) (fateN fates (M.order.idxOf j)) else M.la j := by
        refine genL_congr fun j _ => ?_
        by_cases hj : j = q
        · rw [if_pos hj, if_pos hj]
        · rw [if_neg hj, if_neg hj, if_neg hj]
      rw [e] at o
      exact hK H6 o
    have hcut : ∀ {a c : List UInt8} {K : Value → Prop}, a.length = 64 → c.length = 64 → K (str (a.take 32 ++ c.drop 32)) → pSlStr (str a) none (some (.int .i64 32)) fun x => pSlStr (str c) (some (.int .i64 32)) none fun y => pAdd x y fun z => K z := fun {a c K} ha hc hK =>
      pSlStr_to (lo := 0) (hi := 32) (.inr ⟨rfl, rfl⟩) (.inl rfl) (by omega) (by omega) (pSlStr_to (lo := 32) (hi := c.length) (.inl rfl) (.inr ⟨rfl, rfl⟩) (by omega) (by omega) (pAdd_str (by simp only [List.length_take, List.length_drop]; omega) (by
        rw [List.drop_zero, Nat.sub_zero, List.take_of_length_le (l := c.drop 32) (by rw [List.length_drop]; omega)]; exact hK)))
    have hf4 := fateN_lt fates k
    refine ⟨fun H' => Owns H H' [.sl y 1 (txtsV (genL M.n fun j => if j = q then tornF (M.la q) s (fateN fates k) else if j ∈ M.order.take k then tornF (M.la j) ((M.cs j).getD []) (fateN fates (M.order.idxOf j)) else M.la j)), .box x [.slice none 0 0, .slice none 0 0, .bool false, .int .i64 0] 47 , .box d [lv, cv, .bool false, .int .i64 (-1)] 47 ], ?_, ?_⟩
    · intro _ H6 o
      rw [pAdd_v, w64 (n := (k : Int) + 1) (by omega) (by omega)]
      refine ⟨⟨k + 1, rfl, by omega, ?_⟩, by show M.order.length - ((k : Int) + 1).toNat < M.order.length - (k : Int).toNat; omega⟩
      have e : (genL M.n fun j => if j ∈ M.order.take (k + 1) then tornF (M.la j) ((M.cs j).getD []) (fateN fates (M.order.idxOf j)) else M.la j) = genL M.n fun j => if j = q then tornF (M.la q) s (fateN fates k) else if j ∈ M.order.take k then tornF (M.la j) ((M.cs j).getD []) (fateN fates (M.order.idxOf j)) else M.la j := by
        refine genL_congr fun j _ => ?_
        rw [htk]
        by_cases hj : j = q
        · rw [if_pos hj, if_pos (List.mem_append_right _ (List.mem_singleton.2 hj)), hj, hs, hidx]; rfl
        · rw [if_neg hj]
          have : (j ∈ M.order.take k ++ [q]) = (j ∈ M.order.take k) := by rw [List.mem_append, List.mem_singleton]; simp [hj]
          simp only [this]
      rw [e]
      exact o
    refine ⟨fun fv H' => fv = .int .i64 ((fateN fates k : Nat) : Int) ∧ H5 = H', ?_, ?_⟩
    rotate_left
    · have hsf := hf.ext o.ext
      refine hsf.len hfv (by decide) ?_
      rw [pLt_v]
      unfold fateN
      refine pCond_if (fun hl => ?_) (fun hl => ?_)
      · have hkf : k < fates.length := by omega
        refine hsf.at_ hfv (by decide) (by omega) (by omega) fun p hp => ?_
        refine hp.load hsf (w := .int .i64 fates[k]) (by rw [Int.toNat_natCast, Nat.mul_one, numsV_get hkf]) ?_
        have t1 := tmod_range (z := fates[k]) (n := 4) (by decide)
        have t2 := mod_pick (z := fates[k]) (n := 4) (by decide)
        rw [pRem_v]
        refine ⟨by decide, ?_⟩
        rw [pAdd_v, w64 (n := fates[k].tmod 4 + 4) (by omega) (by omega), pRem_v]
        refine ⟨by decide, ?_⟩
        rw [List.getElem?_eq_getElem hkf]
        refine ⟨?_, rfl⟩
        show _ = Value.int .i64 (((fates[k].tmod 4 + 4).tmod 4).toNat : Int)
        rw [Int.toNat_of_nonneg t2.1]
      · rw [List.getElem?_eq_none (by omega)]
        exact ⟨rfl, rfl⟩
    rintro _ _ _ ⟨rfl, rfl⟩
    generalize fateN fates k = f at *
    refine hcat o (by repeat (first | exact List.mem_cons_self | apply List.mem_cons_of_mem)) ?_
    refine (o.sl (v := y) (by repeat (first | exact List.mem_cons_self | apply List.mem_cons_of_mem))).at_ (hst _) (by decide) (by omega) (by omega) fun p hp => ?_
    refine hp.load (o.sl (v := y) (by repeat (first | exact List.mem_cons_self | apply List.mem_cons_of_mem))) (w := str (M.la q)) (by rw [Int.toNat_natCast, Nat.mul_one]; unfold txtsV; rw [List.getElem?_map, genL_get hq, if_pos rfl]; rfl) ?_
    refine hcs o (by repeat (first | exact List.mem_cons_self | apply List.mem_cons_of_mem)) ?_
    refine ⟨fun H' => Owns H H' [.sl y 1 (txtsV (genL M.n fun j => if j = q then (if f = 1 then s else M.la q) else if j ∈ M.order.take k then tornF (M.la j) ((M.cs j).getD []) (fateN fates (M.order.idxOf j)) else M.la j)), .box x [.slice none 0 0, .slice none 0 0, .bool false, .int .i64 0] 47 , .box d [lv, cv, .bool false, .int .i64 (-1)] 47 ], ?_, ?_⟩
    rotate_left
    · rw [pEq_0]
      refine pCond_if (fun hc => ?_) (fun hc => ?_)
      · rw [if_pos (show f = 1 by omega)]
        refine hcat o (by repeat (first | exact List.mem_cons_self | apply List.mem_cons_of_mem)) ?_
        refine hput o fun H6 o => o
      · rw [if_neg (show ¬ f = 1 by omega)]
        exact o
    clear o
    intro _ H6 o
    refine ⟨fun H' => Owns H H' [.sl y 1 (txtsV (genL M.n fun j => if j = q then (if f = 1 then s else if f = 2 then s.take 32 ++ (M.la q).drop 32 else M.la q) else if j ∈ M.order.take k then tornF (M.la j) ((M.cs j).getD []) (fateN fates (M.order.idxOf j)) else M.la j)), .box x [.slice none 0 0, .slice none 0 0, .bool false, .int .i64 0] 47 , .box d [lv, cv, .bool false, .int .i64 (-1)] 47 ], ?_, ?_⟩
    rotate_left
    · rw [pEq_0]
      refine pCond_if (fun hc => ?_) (fun hc => ?_)
      · rw [if_neg (show ¬ f = 1 by omega), if_pos (show f = 2 by omega)]
        refine hcat o (by repeat (first | exact List.mem_cons_self | apply List.mem_cons_of_mem)) ?_
        refine hcut hs64 hla64 ?_
        refine hput o fun H6 o => o
      · rw [if_neg (show ¬ f = 2 by omega)]
        exact o
    clear o
    intro _ H7 o
    rw [pEq_0]
    unfold tornF at hst hput ⊢
    refine pCond_if (fun hc => ?_) (fun hc => ?_)
    · rw [if_neg (show ¬ f = 1 by omega), if_neg (show ¬ f = 2 by omega), if_pos (show f = 3 by omega)]
      refine hcat o (by repeat (first | exact List.mem_cons_self | apply List.mem_cons_of_mem)) ?_
      refine hcut hla64 hs64 ?_
      refine hput o fun H6 o => o
    · rw [if_neg (show ¬ f = 3 by omega)]
      exact o
  · have hkk : k = M.order.length := by omega
    rw [hkk, List.take_length] at o
    refine pBuild_one (o.sl (v := y) (by repeat (first | exact List.mem_cons_self | apply List.mem_cons_of_mem))).one (by decide) ?_
    refine pBuild_one rfl (by simp) ?_
    refine pBuild_one rfl (by simp) ?_
    rw [pBuild_n]
    refine o.bstoreN (b := x) (by repeat (first | exact List.mem_cons_self | apply List.mem_cons_of_mem)) rfl rfl (all_cons (o.sl (v := y) (by repeat (first | exact List.mem_cons_self | apply List.mem_cons_of_mem))).one rfl) (by repeat (first | exact Rep.here | apply Rep.there)) fun H6 o _ => ?_
    refine o.bloadN (b := x) (by repeat (first | exact List.mem_cons_self | apply List.mem_cons_of_mem)) rfl ?_
    have hla : (M.crash fates).la = fun j => match M.cs j with | some s => tornF (M.la j) s (fateN fates (M.order.idxOf j)) | none => M.la j := by
      unfold Dk.crash
      rw [if_neg (by rw [ho]; decide)]
      rfl
    have e : (genL M.n fun j => if j ∈ M.order then tornF (M.la j) ((M.cs j).getD []) (fateN fates (M.order.idxOf j)) else M.la j) = genL M.n (M.crash fates).la := by
      rw [hla]
      refine genL_congr fun j _ => ?_
      show _ = match M.cs j with | some s => tornF (M.la j) s (fateN fates (M.order.idxOf j)) | none => M.la j
      cases hs : M.cs j with
      | some s => rw [if_pos ((ok.dom j).2 (by rw [hs]; rfl))]; rfl
      | none => rw [if_neg (fun g => by have := (ok.dom j).1 g; rw [hs] at this; cases this)]
    rw [e] at o
    exact h H6 y (o.arr (by repeat (first | exact Sels.nil | exact Sel.here | apply Sels.cons | apply Sel.there)))
theorem cacheR_put (M : Dk) (i : Nat) (s : List UInt8) {lf : Int} (ok : DkOk M lf) : cacheR (M.put i s) = ((M.order.filter fun j => decide (j ≠ i)).map fun j : Nat => [Value.int .i64 (j : Int), str ((M.cs j).getD [])]) ++ [[.int .i64 (i : Int), str s]] := by
  show (((M.order.filter fun j => decide (j ≠ i)) ++ [i]).map fun j : Nat => [Value.int .i64 (j : Int), str ((updS M.cs i s j).getD [])]) = _
  rw [List.map_append]
  congr 1
  · refine List.map_congr_left fun j hj => ?_
    have := (List.mem_filter.1 hj).2
    rw [decide_eq_true_eq] at this
    unfold updS
    rw [if_neg this]
  · show [[Value.int .i64 (i : Int), str ((updS M.cs i s i).getD [])]] = _
    unfold updS
    rw [if_pos rfl]
    rfl
theorem refWrite_spec {lf : Int} {i : Int} {s : List UInt8} (ok : DkOk M lf) (hs : s.length = 64) (hl : Sl H lv 1 (txtsV (genL M.n M.la))) (hc : Sl H cv 2 (cacheR M).flatten)
    (hno : ¬ (0 ≤ i ∧ i < (M.n : Int)) → ∀ H', Ext H H' → R (.tuple #[.agg #[lv, cv, .bool false, .int .i64 (-1)], .int .i64 20]) H')
    (hyes : 0 ≤ i → i < (M.n : Int) → ∀ H' y, Owns H H' [.sl y 2 (cacheR (M.put i.toNat s)).flatten] → R (.tuple #[.agg #[lv, y, .bool false, .int .i64 (-1)], .int .i64 0]) H') : CallsH Try.prog 22 #[.agg #[lv, cv, .bool false, .int .i64 (-1)], .int .i64 i, str s] H R := by
  have hol := ok.olen
  have hn := ok.n2
  refine lighterref17_Write.vc _ _ _ _ _ ?_
  unfold lighterref17_Write.res
  refine (Owns.start (H := H)).box fun d H1 o _ => ?_
  change Owns H H1 [.box d [lv, cv, .bool false, .int .i64 (-1)] _] at o
  refine o.box fun x H2 o _ => ?_
  change Owns H H2 [.box x [.slice none 0 0, .slice none 0 0, .bool false, .int .i64 0] _, .box d [lv, cv, .bool false, .int .i64 (-1)] _] at o
  have hlv : oneCell lv = true := hl.one
  have hcv : oneCell cv = true := hc.one
  refine pLenS_to ?_
  rw [pNe_0, decide_eq_false (by omega), pCond_false, pFieldAddr_v, add_mk]
  refine o.bload (b := d) (f := 0 + 2) (by repeat (first | exact List.mem_cons_self | apply List.mem_cons_of_mem)) rfl ?_
  rw [pCond_false, pLt_v]
  refine pOr_if (d := decide ((M.n : Int) ≤ i)) (fun _ => ?_) ?_
  · rw [pFieldAddr_v, add_mk]
    refine o.bload (b := d) (f := 0 + 0) (by repeat (first | exact List.mem_cons_self | apply List.mem_cons_of_mem)) rfl ?_
    refine (hl.ext o.ext).len lasts_len (by decide) ?_
    rw [pGe_v]
    exact ⟨rfl, rfl⟩
  intro _
  refine pCond_b (fun hb => ?_) (fun hb => ?_)
  · rw [Bool.or_eq_true, decide_eq_true_eq, decide_eq_true_eq] at hb
    refine o.bloadN (b := d) (by repeat (first | exact List.mem_cons_self | apply List.mem_cons_of_mem)) rfl ?_
    refine o.bstoreN (b := x) (by repeat (first | exact List.mem_cons_self | apply List.mem_cons_of_mem)) rfl rfl (all_cons hlv (all_cons hcv rfl)) (by repeat (first | exact Rep.here | apply Rep.there)) fun H3 o _ => ?_
    refine o.bloadN (b := x) (by repeat (first | exact List.mem_cons_self | apply List.mem_cons_of_mem)) rfl ?_
    exact hno (by omega) H3 o.ext
  rw [Bool.or_eq_false_iff, decide_eq_false_iff_not, decide_eq_false_iff_not] at hb
  obtain ⟨q, rfl⟩ : ∃ q : Nat, i = q := ⟨i.toNat, by omega⟩
  have hk := hyes (by omega) (by omega)
  rw [Int.toNat_natCast, cacheR_put M q s ok] at hk
  rw [pFieldAddr_v, add_mk]
  refine o.bload (b := d) (f := 0 + 3) (by repeat (first | exact List.mem_cons_self | apply List.mem_cons_of_mem)) rfl ?_
  rw [pEq_0, decide_eq_false (by decide), pCond_false]
  refine ⟨fun H' => H2 = H', ?_, ?_⟩
  rotate_left
  · rw [pFieldAddr_v, add_mk]
    refine o.bload (b := d) (f := 0 + 3) (by repeat (first | exact List.mem_cons_self | apply List.mem_cons_of_mem)) rfl ?_
    rw [pGt_v, decide_eq_false (by decide), pCond_false]
  rintro _ _ rfl
  have o := o.add (Ext.refl _) (i := .sl (.slice none 0 0) 2 (((M.order.take 0).filter fun j => decide (j ≠ q)).map fun j : Nat => [Value.int .i64 (j : Int), str ((M.cs j).getD [])]).flatten) ⟨by decide, .inl ⟨rfl, rfl⟩⟩ (by intro k hk; exact absurd hk (by simp [It.foot, blkOf]))
  have hrow : ∀ l : List Nat, ∀ r ∈ l.map fun j : Nat => [Value.int .i64 (j : Int), str ((M.cs j).getD [])], r.length = 2 := by
    intro l r hr
    obtain ⟨j, _, rfl⟩ := List.mem_map.1 hr
    rfl
  have hrl : ∀ l : List Nat, (l.map fun j : Nat => [Value.int .i64 (j : Int), str ((M.cs j).getD [])]).flatten.length = l.length * 2 := fun l => by rw [flat_len _ (hrow l), List.length_map]
  refine ⟨fun c i H' => ∃ k : Nat, i = .int .i64 k ∧ k ≤ M.order.length ∧ Owns H H' [.sl c 2 (((M.order.take k).filter fun j => decide (j ≠ q)).map fun j : Nat => [Value.int .i64 (j : Int), str ((M.cs j).getD [])]).flatten, .box x [.slice none 0 0, .slice none 0 0, .bool false, .int .i64 0] 47 , .box d [lv, cv, .bool false, .int .i64 (-1)] 47 ], fun _ i _ => match i with | .int _ x => M.order.length - x.toNat | _ => 0, ⟨0, rfl, by omega, o⟩, ?_⟩
  clear o
  rintro _ c _ H5 ⟨k, rfl, hk2, o⟩
  have hfl : ((M.order.take k).filter fun j => decide (j ≠ q)).length ≤ 65536 := Nat.le_trans (List.length_filter_le _ _) (by rw [List.length_take]; omega)
  rw [pFieldAddr_v, add_mk]
  refine o.bload (b := d) (f := 0 + 1) (by repeat (first | exact List.mem_cons_self | apply List.mem_cons_of_mem)) rfl ?_
  refine (hc.ext o.ext).len cacheR_len (by decide) ?_
  rw [pLt_v]
  refine pCond_if (fun hkl => ?_) (fun hkl => ?_)
  · have hkn : k < M.order.length := by omega
    have htk : M.order.take (k + 1) = M.order.take k ++ [M.order[k]] := by rw [List.take_add_one, List.getElem?_eq_getElem hkn]; rfl
    refine ⟨fun c H' => Owns H H' [.sl c 2 (((M.order.take (k + 1)).filter fun j => decide (j ≠ q)).map fun j : Nat => [Value.int .i64 (j : Int), str ((M.cs j).getD [])]).flatten, .box x [.slice none 0 0, .slice none 0 0, .bool false, .int .i64 0] 47 , .box d [lv, cv, .bool false, .int .i64 (-1)] 47 ], ?_, ?_⟩
    · intro _ c2 H6 o
      rw [pAdd_v, w64 (n := (k : Int) + 1) (by omega) (by omega)]
      exact ⟨⟨k + 1, rfl, by omega, o⟩, by show M.order.length - ((k : Int) + 1).toNat < M.order.length - (k : Int).toNat; omega⟩
    rw [pFieldAddr_v, add_mk]
    refine o.bload (b := d) (f := 0 + 1) (by repeat (first | exact List.mem_cons_self | apply List.mem_cons_of_mem)) rfl ?_
    refine cache_at (hc.ext o.ext) hkn ?_
    rw [pNe_0, htk, List.filter_append, List.map_append, List.flatten_append]
    refine pCond_if (fun hne => ?_) (fun he => ?_)
    · have hne : M.order[k] ≠ q := by simp at hne; omega
      rw [List.filter_cons, decide_eq_true hne]
      rw [pFieldAddr_v, add_mk]
      refine o.bload (b := d) (f := 0 + 1) (by repeat (first | exact List.mem_cons_self | apply List.mem_cons_of_mem)) rfl ?_
      refine (hc.ext o.ext).at_ cacheR_len (by decide) (by omega) (by omega) fun p hp => ?_
      rw [Int.toNat_natCast] at hp
      refine hp.loadN (hc.ext o.ext) (ws := [Value.int .i64 (M.order[k] : Nat), str ((M.cs M.order[k]).getD [])]) (flat_at (cacheR M) k _ cacheR_row (by unfold cacheR; rw [List.getElem?_map, List.getElem?_eq_getElem hkn]; rfl)) rfl ?_
      refine o.build1 (sz := 2) (by decide) rfl rfl fun z H6 o => ?_
      refine o.append (v := c) (n := ((M.order.take k).filter fun j => decide (j ≠ q)).length) (m := 1) (by repeat (first | exact Sel.here | apply Sel.there)) rfl (o.sl (v := z) (by repeat (first | exact List.mem_cons_self | apply List.mem_cons_of_mem))) (hrl _) rfl rfl (by omega) fun c2 H7 o => ?_
      exact o.arr (by repeat (first | exact Sels.nil | exact Sel.here | apply Sels.cons | apply Sel.there))
    · have he : M.order[k] = q := by simp at he; omega
      rw [List.filter_cons, decide_eq_false (fun g => g he)]
      simp only [List.filter_nil, Bool.false_eq_true, if_false, List.map_nil, List.flatten_nil, List.append_nil]
      exact o
  · have hkk : k = M.order.length := by omega
    rw [hkk, List.take_length] at o hfl
    refine pBuild_two rfl rfl ?_
    refine o.build1 (sz := 2) (by decide) rfl rfl fun z H6 o => ?_
    refine o.append (v := c) (n := (M.order.filter fun j => decide (j ≠ q)).length) (m := 1) (by repeat (first | exact Sel.here | apply Sel.there)) rfl (o.sl (v := z) (by repeat (first | exact List.mem_cons_self | apply List.mem_cons_of_mem))) (hrl _) rfl rfl (by omega) fun c2 H7 o => ?_
    rw [pFieldAddr_v, add_mk]
    refine o.bstore (b := d) (f := 0 + 1) (by repeat (first | exact List.mem_cons_self | apply List.mem_cons_of_mem)) (by simp) (o.sl (v := c2) (by repeat (first | exact List.mem_cons_self | apply List.mem_cons_of_mem))).one (by repeat (first | exact Rep.here | apply Rep.there)) fun H8 o _ => ?_
    refine o.bloadN (b := d) (by repeat (first | exact List.mem_cons_self | apply List.mem_cons_of_mem)) rfl ?_
    refine o.bstoreN (b := x) (by repeat (first | exact List.mem_cons_self | apply List.mem_cons_of_mem)) rfl rfl (all_cons hlv (all_cons (o.sl (v := c2) (by repeat (first | exact List.mem_cons_self | apply List.mem_cons_of_mem))).one rfl)) (by repeat (first | exact Rep.here | apply Rep.there)) fun H9 o _ => ?_
    refine o.bloadN (b := x) (by repeat (first | exact List.mem_cons_self | apply List.mem_cons_of_mem)) rfl ?_
    refine hk H9 c2 ?_
    rw [List.flatten_append]
    exact o.arr (by repeat (first | exact Sels.nil | exact Sel.here | apply Sels.cons | apply Sel.there))
end Go.Proofs.Ythadmceioakgnaa
