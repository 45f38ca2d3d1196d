/- Contracts of package disk: Copy, Same, Dirty, Image, Load. -/
import Derived.Test.YthadmceioakgnaaDisk3
import Derived.Test.YthadmceioakgnaaCloneS
namespace Go.Proofs.Ythadmceioakgnaa
-- only what is there
open Go Go.Vc Go.Proofs
set_option linter.unusedVariables false
set_option linter.unusedSimpArgs false
variable {H H0 : Heap} {R : Value → Heap → Prop} {v : Value} {L : List It} {b : Nat} {M : Dk}
theorem copy_nil (h : R (.pointer none) H) : CallsH Try.prog 12 #[.pointer none] H R := by
  refine disk_Disk_Copy.vc _ _ _ ?_
  unfold disk_Disk_Copy.res
  rw [pEq_3n, pCond_true]
  exact h
theorem copy_spec {lv ov : Value} {r : Nat} {lf : Int} (o : Owns H0 H (dkIts b lv r ov lf M L)) (ok : DkOk M lf) (h : ∀ H' b' lv' r' ov', Owns H0 H' (dkIts b' lv' r' ov' lf M (dkIts b lv r ov lf M L)) → R (ptr b') H') : CallsH Try.prog 12 #[ptr b] H R := by
  have hol := ok.olen
  have hn := ok.n2
  refine disk_Disk_Copy.vc _ _ _ ?_
  unfold disk_Disk_Copy.res
  rw [pEq_3s, pCond_false, pNil_v]
  refine o.bloadN (by repeat (first | exact List.mem_cons_self | apply List.mem_cons_of_mem)) rfl ?_
  refine o.box fun c H1 o _ => ?_
  change Owns H0 H1 (.box c [.slice none 0 0, .map none, .slice none 0 0, .bool false, .bool false, .int .i64 0] _ :: _) at o
  refine o.bstoreN (b := c) (by repeat (first | exact List.mem_cons_self | apply List.mem_cons_of_mem)) rfl rfl (all_cons (o.sl (v := lv) (by repeat (first | exact List.mem_cons_self | apply List.mem_cons_of_mem))).one (all_cons rfl (all_cons (o.sl (v := ov) (by repeat (first | exact List.mem_cons_self | apply List.mem_cons_of_mem))).one rfl))) (by repeat (first | exact Rep.here | apply Rep.there)) fun H2 o _ => ?_
  rw [pNil_v, pFieldAddr_v, add_mk]
  refine o.bload (b := b) (f := 0 + 0) (by repeat (first | exact List.mem_cons_self | apply List.mem_cons_of_mem)) rfl ?_
  rw [pNil_v, pFieldAddr_v, add_mk]
  refine o.bload (b := b) (f := 0 + 1) (by repeat (first | exact List.mem_cons_self | apply List.mem_cons_of_mem)) rfl ?_
  rw [pNil_v, pFieldAddr_v, add_mk]
  refine o.bload (b := b) (f := 0 + 2) (by repeat (first | exact List.mem_cons_self | apply List.mem_cons_of_mem)) rfl ?_
  refine cloneS_spec (o.sl (v := lv) (by repeat (first | exact List.mem_cons_self | apply List.mem_cons_of_mem))) (by rw [genL_len]; omega) fun lv' H3 o2 => ?_
  have o := o.call o2
  refine ⟨o.bload (b := b) (f := 0 + 1) (by repeat (first | exact List.mem_cons_self | apply List.mem_cons_of_mem)) rfl rfl, ?_⟩
  refine ⟨o.bload (b := b) (f := 0 + 2) (by repeat (first | exact List.mem_cons_self | apply List.mem_cons_of_mem)) rfl rfl, ?_⟩
  refine mapsClone_spec (map_at o (by repeat (first | exact List.mem_cons_self | apply List.mem_cons_of_mem))) fun H4 hm hx hsz => ?_
  have o := o.add (i := .thing (mapT H3.size (mOf M.cs))) hx hm (fun k hk => by
    have hk : k = H3.size := hk
    omega)
  generalize H3.size = r' at *
  refine ⟨o.bload (b := b) (f := 0 + 2) (by repeat (first | exact List.mem_cons_self | apply List.mem_cons_of_mem)) rfl rfl, ?_⟩
  refine cloneI_spec (o.sl (v := ov) (by repeat (first | exact List.mem_cons_self | apply List.mem_cons_of_mem))) (by rw [List.length_map]; omega) fun ov' H5 o2 => ?_
  have o := o.call o2
  rw [pFieldAddr_v, add_mk]
  refine o.bstore (b := c) (f := 0 + 0) (by repeat (first | exact List.mem_cons_self | apply List.mem_cons_of_mem)) (by simp) (o.sl (v := lv') (by repeat (first | exact List.mem_cons_self | apply List.mem_cons_of_mem))).one (by repeat (first | exact Rep.here | apply Rep.there)) fun H6 o _ => ?_
  rw [pFieldAddr_v, add_mk]
  refine o.bstore (b := c) (f := 0 + 1) (by repeat (first | exact List.mem_cons_self | apply List.mem_cons_of_mem)) (by simp) rfl (by repeat (first | exact Rep.here | apply Rep.there)) fun H7 o _ => ?_
  rw [pFieldAddr_v, add_mk]
  refine o.bstore (b := c) (f := 0 + 2) (by repeat (first | exact List.mem_cons_self | apply List.mem_cons_of_mem)) (by simp) (o.sl (v := ov') (by repeat (first | exact List.mem_cons_self | apply List.mem_cons_of_mem))).one (by repeat (first | exact Rep.here | apply Rep.there)) fun H8 o _ => ?_
  refine h H8 c lv' r' ov' ?_
  exact o.arrT (by repeat (first | exact SelsT.refl | exact Sel.here | apply SelsT.cons | apply Sel.there))
theorem len_cache {lf : Int} (ok : DkOk M lf) {ks : List Int} (h1 : ks.Nodup) (h2 : ∀ k, k ∈ ks ↔ (mOf M.cs k).isSome = true) : ks.length = M.order.length := by
  have hp : ks.Perm (M.order.map fun n : Nat => (n : Int)) := (List.perm_ext_iff_of_nodup h1 (by
    unfold List.Nodup
    rw [List.pairwise_map]
    exact ok.nodup.imp fun h e => h (by omega))).2 fun k => by
      rw [h2, List.mem_map]
      constructor
      · intro g
        by_cases h0 : 0 ≤ k
        · refine ⟨k.toNat, (ok.dom _).2 ?_, by omega⟩
          unfold mOf at g
          rw [if_pos h0] at g
          cases hs : M.cs k.toNat with
          | none => rw [hs] at g; cases g
          | some s => rfl
        · unfold mOf at g; rw [if_neg h0] at g; cases g
      · rintro ⟨n, hn, rfl⟩
        rw [mOf_nat]
        cases hs : M.cs n with
        | none => have := (ok.dom n).1 hn; rw [hs] at this; cases this
        | some s => rfl
  rw [hp.length_eq, List.length_map]
def Dk.same (M N : Dk) : Prop := M.order = [] ∧ N.order = [] ∧ genL M.n M.la = genL N.n N.la
open Classical in
theorem same_spec {N : Dk} {b2 : Nat} {lv lv2 : Value} {r r2 : Nat} {lf lf2 : Int} {x1 x2 x3 x4 y1 y2 y3 y4 : Value} (o : Owns H0 H L) (ok : DkOk M lf) (ok2 : DkOk N lf2)
    (m1 : It.box b [lv, .map (some r), x1, x2, x3, x4] 60 ∈ L) (m2 : It.sl lv 1 (txtsV (genL M.n M.la)) ∈ L) (m3 : It.thing (mapT r (mOf M.cs)) ∈ L)
    (k1 : It.box b2 [lv2, .map (some r2), y1, y2, y3, y4] 60 ∈ L) (k2 : It.sl lv2 1 (txtsV (genL N.n N.la)) ∈ L) (k3 : It.thing (mapT r2 (mOf N.cs)) ∈ L)
    (h : R (.bool (decide (M.same N))) H) : CallsH Try.prog 16 #[ptr b, ptr b2] H R := by
  have ho1 := ok.olen
  have ho2 := ok2.olen
  refine disk_Disk_Same.vc _ _ _ _ ?_
  unfold disk_Disk_Same.res
  rw [pNe_3s]
  refine pAnd_true ?_
  rw [pNe_3s]
  intro _
  refine pAnd_true ?_
  rw [pNil_v, pFieldAddr_v, add_mk]
  refine o.bload (f := 0 + 1) m1 rfl ?_
  refine (map_at o m3).len fun ks1 hn1 hd1 => ?_
  rw [pNil_v, pFieldAddr_v, add_mk]
  refine o.bload (f := 0 + 1) k1 rfl ?_
  refine (map_at o k3).len fun ks2 hn2 hd2 => ?_
  rw [len_cache ok hn1 hd1, len_cache ok2 hn2 hd2, pAdd_v, w64 (by omega) (by omega), pEq_0]
  intro _
  refine pAnd_split (fun hf => ?_) (fun ht => ?_)
  · intro _
    rw [decide_eq_false_iff_not] at hf
    rw [decide_eq_false (fun g => by
      obtain ⟨g1, g2, _⟩ := g
      rw [g1, g2] at hf
      exact hf rfl)] at h
    exact h
  · rw [decide_eq_true_eq] at ht
    have h1 : M.order = [] := List.length_eq_zero_iff.1 (by omega)
    have h2 : N.order = [] := List.length_eq_zero_iff.1 (by omega)
    rw [pNil_v, pFieldAddr_v, add_mk]
    refine o.bload (f := 0 + 0) m1 rfl ?_
    rw [pNil_v, pFieldAddr_v, add_mk]
    refine o.bload (f := 0 + 0) k1 rfl ?_
    refine equalS_spec (o.sl m2) (o.sl k2) (by rw [genL_len]; have := ok.n2; omega) ?_
    intro _
    have e : decide (M.same N) = decide (genL M.n M.la = genL N.n N.la) := by
      rw [Bool.eq_iff_iff, decide_eq_true_eq, decide_eq_true_eq]
      exact ⟨fun g => g.2.2, fun g => ⟨h1, h2, g⟩⟩
    rw [e] at h
    exact h
theorem same_nil {w : Value} (h : R (.bool false) H) : CallsH Try.prog 16 #[.pointer none, w] H R := by
  refine disk_Disk_Same.vc _ _ _ _ ?_
  unfold disk_Disk_Same.res
  rw [pNe_3n, pAnd_false]
  intro _
  rw [pAnd_false]
  intro _
  rw [pAnd_false]
  exact fun _ => h
theorem dirty_nil (h : R (.slice none 0 0) H) : CallsH Try.prog 23 #[.pointer none] H R := by
  refine disk_Disk_Dirty.vc _ _ _ ?_
  unfold disk_Disk_Dirty.res
  rw [pEq_3n, pCond_true]
  exact h
theorem dirty_spec (d : Dsk H0 H b M L) (h : ∀ y H', Owns H H' [.sl y 1 (natsV M.order)] → R y H') : CallsH Try.prog 23 #[ptr b] H R := by
  obtain ⟨lv, r, ov, lf, o, ok⟩ := d
  have hol := ok.olen
  refine disk_Disk_Dirty.vc _ _ _ ?_
  unfold disk_Disk_Dirty.res
  rw [pEq_3s, pCond_false, pNil_v, pFieldAddr_v, add_mk]
  refine o.bload (f := 0 + 2) (by repeat (first | exact List.mem_cons_self | apply List.mem_cons_of_mem)) rfl ?_
  exact cloneI_spec (o.sl (v := ov) (by repeat (first | exact List.mem_cons_self | apply List.mem_cons_of_mem))) (by rw [List.length_map]; omega) h
theorem image_nil (h : R (str []) H) : CallsH Try.prog 24 #[.pointer none] H R := by
  refine disk_Disk_Image.vc _ _ _ ?_
  unfold disk_Disk_Image.res
  rw [pEq_3n, pCond_true]
  exact h
def Dk.image (M : Dk) : List UInt8 := (genL M.n M.la).flatten
theorem genL_mem {α : Type} {n : Nat} {f : Nat → α} {x : α} (h : x ∈ genL n f) : ∃ j, j < n ∧ x = f j := by
  obtain ⟨j, hj, e⟩ := List.mem_map.1 h
  exact ⟨j, List.mem_range.1 hj, e.symm⟩
theorem flat64 {L : List (List UInt8)} (h : ∀ s ∈ L, s.length = 64) : L.flatten.length = L.length * 64 := by
  induction L with
  | nil => rfl
  | cons s L ih =>
    rw [List.flatten_cons, List.length_append, ih (fun t ht => h t (by simp [ht])), h s (by simp), List.length_cons]
    omega
theorem image_len {lf : Int} (ok : DkOk M lf) : M.image.length = M.n * 64 := by
  unfold Dk.image
  rw [flat64, genL_len]
  intro s hs
  obtain ⟨j, hj, rfl⟩ := genL_mem hs
  exact ok.l64 j hj
theorem image_spec (d : Dsk H0 H b M L) (h : ∀ H', Ext H H' → R (str M.image) H') : CallsH Try.prog 24 #[ptr b] H R := by
  obtain ⟨lv, r, ov, lf, o, ok⟩ := d
  have hil := image_len ok
  have hn := ok.n2
  refine disk_Disk_Image.vc _ _ _ ?_
  unfold disk_Disk_Image.res
  rw [pEq_3s, pCond_false, pNil_v, pFieldAddr_v, add_mk]
  refine o.bload (f := 0 + 0) (by repeat (first | exact List.mem_cons_self | apply List.mem_cons_of_mem)) rfl ?_
  refine join_spec (o.sl (v := lv) (by repeat (first | exact List.mem_cons_self | apply List.mem_cons_of_mem))) (by rw [genL_len]; omega) (by show M.image.length ≤ _; omega) h
theorem load_no {s : List UInt8} (hs : s.length ≤ 9223372036854775807) (hno : ¬ (s.length % 64 = 0 ∧ 1 ≤ s.length / 64 ∧ s.length / 64 ≤ 65536)) (h : R (.tuple #[.pointer none, .int .i64 1]) H) : CallsH Try.prog 25 #[str s] H R := by
  refine disk_Load.vc _ _ _ ?_
  unfold disk_Load.res
  refine pLenS_to ?_
  rw [pRem_v]
  refine ⟨by decide, ?_⟩
  rw [show ((s.length : Nat) : Int).tmod 64 = ((s.length % 64 : Nat) : Int) from rfl, pNe_0]
  refine pCond_if (fun hc => h) (fun hc => ?_)
  refine pLenS_to ?_
  rw [pQuo_v]
  refine ⟨by decide, ?_⟩
  rw [show ((s.length : Nat) : Int).tdiv 64 = ((s.length / 64 : Nat) : Int) from rfl, w64 (by omega) (by omega)]
  have hc : s.length % 64 = 0 := by simp at hc; omega
  refine new_no (by omega) ?_
  refine pExtract_to rfl ?_
  refine pExtract_to rfl ?_
  rw [pNe_0, decide_eq_true (by decide), pCond_true]
  exact h
def Dk.ofImage (n : Nat) (s : List UInt8) : Dk := { Dk.new n with la := fun j => (s.drop (64 * j)).take 64 }
theorem load_spec {s : List UInt8} {n : Nat} (o : Owns H0 H L) (hs : s.length = 64 * n) (h1 : 1 ≤ n) (h2 : n ≤ 65536) (h : ∀ H' b, Dsk H0 H' b (Dk.ofImage n s) L → R (.tuple #[ptr b, .int .i64 0]) H') : CallsH Try.prog 25 #[str s] H R := by
  refine disk_Load.vc _ _ _ ?_
  unfold disk_Load.res
  refine pLenS_to ?_
  rw [pRem_v]
  refine ⟨by decide, ?_⟩
  rw [show ((s.length : Nat) : Int).tmod 64 = ((s.length % 64 : Nat) : Int) from rfl, pNe_0, decide_eq_false (by omega), pCond_false]
  refine pLenS_to ?_
  rw [pQuo_v]
  refine ⟨by decide, ?_⟩
  rw [show ((s.length : Nat) : Int).tdiv 64 = ((s.length / 64 : Nat) : Int) from rfl, show s.length / 64 = n by omega, w64 (by omega) (by omega)]
  refine new_spec o h1 h2 fun H1 b d => ?_
  refine pExtract_to rfl ?_
  refine pExtract_to rfl ?_
  rw [pNe_0, decide_eq_false (by simp), pCond_false]
  obtain ⟨lv, r, ov, lf, o, ok⟩ := d
  rw [pNil_v, pFieldAddr_v, add_mk]
  refine o.bload (f := 0 + 0) (by repeat (first | exact List.mem_cons_self | apply List.mem_cons_of_mem)) rfl ?_
  refine (o.sl (v := lv) (by repeat (first | exact List.mem_cons_self | apply List.mem_cons_of_mem))).len (n := n) (by rw [txtsV_len, genL_len, Nat.mul_one]; rfl) (by decide) ?_
  have hset : ∀ k, Dk.new n = { Dk.new n with la := fun j => if j < k then zero64 else zero64 } := fun k => by
    unfold Dk.new; congr 1; funext j; split <;> rfl
  refine ⟨fun i H' => ∃ k : Nat, i = .int .i64 k ∧ k ≤ n ∧ Owns H0 H' (dkIts b lv r ov lf { Dk.new n with la := fun j => if j < k then (s.drop (64 * j)).take 64 else zero64 } L), fun i _ => match i with | .int _ x => n - x.toNat | _ => 0, ⟨0, rfl, by omega, by
    have e : (fun j : Nat => if j < 0 then (s.drop (64 * j)).take 64 else zero64) = fun _ => zero64 := by funext j; rw [if_neg (by omega)]
    rw [e]; exact o⟩, ?_⟩
  clear o
  rintro _ _ H4 ⟨k, rfl, hk, o⟩
  rw [pLt_v]
  refine pCond_if (fun hc => ?_) (fun hc => ?_)
  · have hkn : k < n := by omega
    rw [pNil_v, pFieldAddr_v, add_mk]
    refine o.bload (f := 0 + 0) (by repeat (first | exact List.mem_cons_self | apply List.mem_cons_of_mem)) rfl ?_
    rw [pMul_v, w64 (n := (k : Int) * 64) (by omega) (by omega), pAdd_v, w64 (n := (k : Int) + 1) (by omega) (by omega), pMul_v, w64 (n := ((k : Int) + 1) * 64) (by omega) (by omega)]
    refine pSlStr_to (lo := 64 * k) (hi := 64 * (k + 1)) (.inl (by congr 2; omega)) (.inl (by congr 2; omega)) (by omega) (by omega) ?_
    rw [show 64 * (k + 1) - 64 * k = 64 by omega]
    have hll : (txtsV (genL n fun j => if j < k then (s.drop (64 * j)).take 64 else zero64)).length = n * 1 := by rw [txtsV_len, genL_len, Nat.mul_one]
    refine (o.sl (v := lv) (by repeat (first | exact List.mem_cons_self | apply List.mem_cons_of_mem))).at_ hll (by decide) (by omega) (by omega) fun p hp => ?_
    refine o.store hp (by repeat (first | exact List.mem_cons_self | apply List.mem_cons_of_mem)) (by show (k : Int).toNat * 1 < (txtsV (genL n fun j => if j < k then (s.drop (64 * j)).take 64 else zero64)).length; rw [hll]; omega) rfl (by repeat (first | exact Rep.here | apply Rep.there)) fun H6 o _ => ?_
    rw [Int.toNat_natCast, Nat.mul_one, txtsV_set', genL_set] at o
    have e : (genL n fun j : Nat => if j < k + 1 then (s.drop (64 * j)).take 64 else zero64) = genL n fun j => if j = k then (s.drop (64 * k)).take 64 else if j < k then (s.drop (64 * j)).take 64 else zero64 := genL_congr fun j _ => by
      by_cases h1 : j = k
      · rw [if_pos h1, if_pos (by omega), h1]
      · rw [if_neg h1]
        by_cases h2 : j < k
        · rw [if_pos h2, if_pos (by omega)]
        · rw [if_neg h2, if_neg (by omega)]
    rw [pAdd_v, w64 (n := (k : Int) + 1) (by omega) (by omega)]
    refine ⟨⟨k + 1, rfl, by omega, ?_⟩, by show n - ((k : Int) + 1).toNat < n - (k : Int).toNat; omega⟩
    show Owns H0 H6 (.box b _ _ :: .sl lv 1 (txtsV (genL n fun j : Nat => if j < k + 1 then (s.drop (64 * j)).take 64 else zero64)) :: _)
    rw [e]; exact o
  · have hkn : k = n := by omega
    subst hkn
    refine h H4 b ⟨lv, r, ov, lf, ?_, ⟨h1, h2, fun j hj => ?_, ok.nodup, ok.dom, ok.rng, ok.c64, ok.fu⟩⟩
    · have e : (genL k fun j : Nat => if j < k then (s.drop (64 * j)).take 64 else zero64) = genL k fun j => (s.drop (64 * j)).take 64 := genL_congr fun j hj => if_pos hj
      show Owns H0 H4 (.box b _ _ :: .sl lv 1 (txtsV (genL k fun j => (s.drop (64 * j)).take 64)) :: _)
      rw [← e]
      exact o
    · have hj : j < k := hj
      show ((s.drop (64 * j)).take 64).length = 64
      rw [List.length_take, List.length_drop]
      omega
end Go.Proofs.Ythadmceioakgnaa
