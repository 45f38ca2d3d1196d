/- Contracts of package disk: Sync, Read and the small ones. -/
import Derived.Test.YtaopejkbnohiiaaDisk2
namespace Go.Proofs.Ytaopejkbnohiiaa
-- only what is there
open Go Go.Vc Go.Proofs
set_option linter.unusedVariables false
set_option linter.unusedSimpArgs false
variable {H H0 : Heap} {R : Value → Heap → Prop} {v : Value} {L : List It} {b : Nat} {M : Dk}
/-- a map that is ranged over -/
def itT (it r : Nat) (m : Int → Option Value) (done : List Int) (c : Nat) : Thing where
  foot k := k = it ∨ k = r
  holds H := Iter (intKeys .i64) H it r m done ∧ iterLeft H it = c
  frame := fun h hf => ⟨h.1.keep (hf it (.inl rfl)) (hf r (.inr rfl)), (iterLeft_keep h.1 (hf it (.inl rfl)) (hf r (.inr rfl))).trans h.2⟩
  lt := fun h hf => by
    rcases hf with rfl | rfl
    · exact h.1.lt
    · exact h.1.map.lt
theorem it_at {it r : Nat} {m : Int → Option Value} {done : List Int} {c : Nat} (o : Owns H0 H L) (h : It.thing (itT it r m done c) ∈ L) : Iter (intKeys .i64) H it r m done ∧ iterLeft H it = c := o.thing h
def laD (cs : Nat → Option (List UInt8)) (la : Nat → List UInt8) (done : List Int) : Nat → List UInt8 := fun j => if (j : Int) ∈ done then (cs j).getD [] else la j
theorem sync_nil (h : R (.int .i64 1) H) : CallsH Try.prog 45 #[.pointer none] H R := by
  refine disk_Disk_Sync.vc _ _ _ ?_
  unfold disk_Disk_Sync.res
  refine ready_nil ?_
  rw [pNe_0, decide_eq_true (by decide), pCond_true]
  exact h
theorem sync_spec (d : Dsk H0 H b M L) (h : ∀ H', Dsk H0 H' b M.sync.1 L → R (.int .i64 M.sync.2) H') : CallsH Try.prog 45 #[ptr b] H R := by
  have n1 : 1 ≤ M.n := by obtain ⟨_, _, _, _, _, ok⟩ := d; exact ok.n1
  refine disk_Disk_Sync.vc _ _ _ ?_
  unfold disk_Disk_Sync.res
  refine ready_spec d ?_
  unfold Dk.sync at h
  unfold Dk.ready
  rw [pNe_0]
  refine pCond_if (fun hc => ?_) (fun hc => ?_)
  · by_cases hoff : M.off = true
    · rw [if_pos hoff] at h ⊢
      exact h H d
    · rw [if_neg hoff, if_pos (by omega)] at hc
      exact absurd rfl hc
  have hoff : ¬ M.off = true := fun g => by rw [if_pos g] at hc; exact hc (by decide)
  rw [if_neg hoff] at h
  refine burn_spec d (fun hf => ?_) (fun hf H2 d2 => ?_)
  rotate_left
  · rw [pCond_true]
    rw [if_pos hf] at h
    exact h H2 d2
  rw [pCond_false]
  rw [if_neg hf] at h
  obtain ⟨lv, r, ov, lf, o, ok⟩ := d
  have hokf := ok.flush
  rw [pNil_v, pFieldAddr_v, add_mk]
  refine o.bload (f := 0 + 1) (by repeat (first | exact List.mem_cons_self | apply List.mem_cons_of_mem)) rfl ?_
  refine (map_at o (by repeat (first | exact List.mem_cons_self | apply List.mem_cons_of_mem))).range (by kernel_rfl) fun H3 hx hsz hit => ?_
  have o := o.turn (H' := H3) (i := .thing (mapT r (mOf M.cs))) (i' := .thing (itT H.size r (mOf M.cs) [] (iterLeft H3 H.size))) (by repeat (first | exact Rep.here | apply Rep.there)) hx.size (fun k hk _ => hx.get k hk) ⟨hit, rfl⟩ (fun k hk => by
    rcases hk with rfl | rfl
    · exact .inr (Nat.le_refl _)
    · exact .inl rfl)
  generalize H.size = it at *
  refine ⟨fun H' => ∃ done c, Owns H0 H' (.box b [lv, .map (some r), ov, .bool M.off, .bool M.fuse.isSome, .int .i64 lf] 53 :: .sl lv 1 (txtsV (genL M.n (laD M.cs M.la done))) :: .thing (itT it r (mOf M.cs) done c) :: .sl ov 1 (natsV M.order) :: L), fun H' => iterLeft H' it, ⟨[], _, by
    have e : laD M.cs M.la [] = M.la := by funext j; unfold laD; rw [if_neg (by simp)]
    rw [e]; exact o⟩, ?_⟩
  clear o hit hsz
  rintro _ H4 ⟨done, c, o⟩
  have hdom : ∀ k ∈ done, (mOf M.cs k).isSome = true := fun k hk => (it_at (it := it) (r := r) (m := mOf M.cs) (done := done) (c := c) o (by repeat (first | exact List.mem_cons_self | apply List.mem_cons_of_mem))).1.dom hk
  have hcn := (it_at (it := it) (r := r) (m := mOf M.cs) (done := done) (c := c) o (by repeat (first | exact List.mem_cons_self | apply List.mem_cons_of_mem))).2
  refine (it_at o (by repeat (first | exact List.mem_cons_self | apply List.mem_cons_of_mem))).1.next (fun hover => ?_) (fun k w H5 hk hw hit hne hsz hlt => ?_)
  · refine pExtract_to rfl ?_
    rw [pCond_false]
    have o := o.turn (i := .thing (itT it r (mOf M.cs) done c)) (i' := .thing (mapT r (mOf M.cs))) (by repeat (first | exact Rep.here | apply Rep.there)) (Nat.le_refl _) (fun k _ _ => rfl) (it_at o (by repeat (first | exact List.mem_cons_self | apply List.mem_cons_of_mem))).1.map (fun k hk => .inl (.inr hk))
    refine clear_spec o fun H5 o => ?_
    refine h H5 ⟨lv, r, .slice none 0 0, lf, ?_, hokf⟩
    have e : genL M.n (laD M.cs M.la done) = genL M.n (fun j => (M.cs j).getD (M.la j)) := by
      refine genL_congr fun j _ => ?_
      unfold laD
      cases hs : M.cs j with
      | some s =>
        have := hover (j : Int) (by rw [mOf_nat, hs]; rfl)
        rw [if_pos this]; rfl
      | none =>
        rw [if_neg]
        · rfl
        · intro g
          have := hdom _ g
          rw [mOf_nat, hs] at this
          cases this
    show Owns H0 H5 (.box b _ _ :: .sl lv 1 (txtsV (genL M.n fun j => (M.cs j).getD (M.la j))) :: .thing (mapT r (mOf fun _ => none)) :: _)
    rw [← e, mOf_none]
    exact o
  · refine pExtract_to rfl ?_
    rw [pCond_true]
    obtain ⟨q, s, rfl, hs, rfl⟩ : ∃ (q : Nat) (s : List UInt8), k = (q : Int) ∧ M.cs q = some s ∧ w = str s := by
      by_cases h0 : 0 ≤ k
      · obtain ⟨q, rfl⟩ : ∃ q : Nat, k = q := ⟨k.toNat, by omega⟩
        rw [mOf_nat] at hw
        cases hs : M.cs q with
        | none => rw [hs] at hw; cases hw
        | some s => rw [hs] at hw; exact ⟨q, s, rfl, hs, (Option.some.inj hw).symm⟩
      · unfold mOf at hw; rw [if_neg h0] at hw; cases hw
    have hq : q < M.n := ok.rng q ((ok.dom q).2 (by rw [hs]; rfl))
    have o := o.turn (H' := H5) (i := .thing (itT it r (mOf M.cs) done c)) (i' := .thing (itT it r (mOf M.cs) (done ++ [(q : Int)]) (iterLeft H5 it))) (by repeat (first | exact Rep.here | apply Rep.there)) (by omega) (fun k _ hf => hne k (fun e => hf (.inl e))) ⟨hit, rfl⟩ (fun k hk => .inl hk)
    refine Iter.entry hit hw ?_
    refine pExtract_to rfl ?_
    refine pExtract_to rfl ?_
    rw [pNil_v, pFieldAddr_v, add_mk]
    refine o.bload (f := 0 + 0) (by repeat (first | exact List.mem_cons_self | apply List.mem_cons_of_mem)) rfl ?_
    have hll : (txtsV (genL M.n (laD M.cs M.la done))).length = M.n * 1 := by rw [txtsV_len, genL_len, Nat.mul_one]
    refine (o.sl (v := lv) (by repeat (first | exact List.mem_cons_self | apply List.mem_cons_of_mem))).at_ hll (by decide) (by omega) (by show (q : Int) < (M.n : Int); omega) fun p hp => ?_
    refine o.store hp (by repeat (first | exact List.mem_cons_self | apply List.mem_cons_of_mem)) (by rw [hll]; show (q : Int).toNat * 1 < M.n * 1; omega) rfl (by repeat (first | exact Rep.here | apply Rep.there)) fun H6 o _ => ?_
    rw [Int.toNat_natCast, Nat.mul_one, txtsV_set', genL_set] at o
    have e : genL M.n (laD M.cs M.la (done ++ [(q : Int)])) = genL M.n (fun j => if j = q then s else laD M.cs M.la done j) := by
      refine genL_congr fun j _ => ?_
      unfold laD
      by_cases hjq : j = q
      · subst hjq; rw [if_pos (by simp), if_pos rfl, hs]; rfl
      · rw [if_neg hjq]
        have : ((j : Int) ∈ done ++ [(q : Int)]) = ((j : Int) ∈ done) := by
          rw [List.mem_append, List.mem_singleton]
          have : ¬ (j : Int) = (q : Int) := by omega
          simp [this]
        simp only [this]
    rw [← e] at o
    refine ⟨⟨_, _, o⟩, ?_⟩
    have h6 := (it_at (it := it) (r := r) (m := mOf M.cs) (done := done ++ [(q : Int)]) (c := iterLeft H5 it) o (by repeat (first | exact List.mem_cons_self | apply List.mem_cons_of_mem))).2
    show iterLeft H6 it < iterLeft H4 it
    rw [h6]
    exact hlt
theorem read_nil {i : Int} (h : R (.tuple #[str [], .int .i64 1]) H) : CallsH Try.prog 11 #[.pointer none, .int .i64 i] H R := by
  refine disk_Disk_Read.vc _ _ _ _ ?_
  unfold disk_Disk_Read.res
  refine ready_nil ?_
  rw [pNe_0, decide_eq_true (by decide), pCond_true]
  exact h
theorem read_spec {i : Int} (d : Dsk H0 H b M L) (h : R (.tuple #[str (M.read i).1, .int .i64 (M.read i).2]) H) : CallsH Try.prog 11 #[ptr b, .int .i64 i] H R := by
  refine disk_Disk_Read.vc _ _ _ _ ?_
  unfold disk_Disk_Read.res
  refine ready_spec d ?_
  unfold Dk.read at h
  rw [pNe_0]
  refine pCond_if (fun hc => ?_) (fun hc => ?_)
  · rw [if_pos hc] at h
    exact h
  rw [if_neg hc] at h
  have hin : 0 ≤ i ∧ i < (M.n : Int) := by
    have hc : M.ready i = 0 := by simpa using hc
    unfold Dk.ready at hc
    split at hc
    · cases hc
    · split at hc
      · assumption
      · cases hc
  obtain ⟨q, rfl⟩ : ∃ q : Nat, i = q := ⟨i.toNat, by omega⟩
  rw [Int.toNat_natCast] at h
  obtain ⟨lv, r, ov, lf, o, ok⟩ := d
  rw [pNil_v, pFieldAddr_v, add_mk]
  refine o.bload (f := 0 + 1) (by repeat (first | exact List.mem_cons_self | apply List.mem_cons_of_mem)) rfl ?_
  refine MapAt.lookup (κ := intKeys .i64) (k := (q : Int)) (map_at o (by repeat (first | exact List.mem_cons_self | apply List.mem_cons_of_mem))) ?_
  rw [mOf_nat]
  unfold Dk.sec at h
  cases hs : M.cs q with
  | some s =>
    rw [hs] at h
    refine pExtract_to (v := str s) rfl ?_
    refine pExtract_to (v := .bool true) rfl ?_
    rw [pCond_true]
    exact h
  | none =>
    rw [hs] at h
    refine pExtract_to (v := str []) rfl ?_
    refine pExtract_to (v := .bool false) rfl ?_
    rw [pCond_false, pNil_v, pFieldAddr_v, add_mk]
    refine o.bload (f := 0 + 0) (by repeat (first | exact List.mem_cons_self | apply List.mem_cons_of_mem)) rfl ?_
    refine (o.sl (v := lv) (by repeat (first | exact List.mem_cons_self | apply List.mem_cons_of_mem))).at_ lasts_len (by decide) (by omega) (by omega) fun p hp => ?_
    refine hp.load (o.sl (v := lv) (by repeat (first | exact List.mem_cons_self | apply List.mem_cons_of_mem))) (w := str (M.la q)) (by rw [Int.toNat_natCast, Nat.mul_one, lasts_get (by omega)]) ?_
    exact h
theorem start_nil (h : R (.tuple #[]) H) : CallsH Try.prog 17 #[.pointer none] H R := by
  refine disk_Disk_Start.vc _ _ _ ?_
  unfold disk_Disk_Start.res
  rw [pNe_3n, pCond_false]
  exact h
theorem start_spec (d : Dsk H0 H b M L) (h : ∀ H', Dsk H0 H' b { M with off := false } L → R (.tuple #[]) H') : CallsH Try.prog 17 #[ptr b] H R := by
  obtain ⟨lv, r, ov, lf, o, ok⟩ := d
  refine disk_Disk_Start.vc _ _ _ ?_
  unfold disk_Disk_Start.res
  rw [pNe_3s, pCond_true, pNil_v, pFieldAddr_v, add_mk]
  refine o.bstore (f := 0 + 3) (by repeat (first | exact List.mem_cons_self | apply List.mem_cons_of_mem)) (by simp) rfl (by repeat (first | exact Rep.here | apply Rep.there)) fun H1 o _ => ?_
  exact h H1 ⟨lv, r, ov, lf, o, ⟨ok.n1, ok.n2, ok.l64, ok.nodup, ok.dom, ok.rng, ok.c64, ok.fu⟩⟩
theorem fuse_nil {n : Int} (h : R (.tuple #[]) H) : CallsH Try.prog 18 #[.pointer none, .int .i64 n] H R := by
  refine disk_Disk_Fuse.vc _ _ _ _ ?_
  unfold disk_Disk_Fuse.res
  rw [pNe_3n, pCond_false]
  exact h
theorem fuse_spec {n : Int} (hn : n ≤ 9223372036854775807) (d : Dsk H0 H b M L) (h : ∀ H', Dsk H0 H' b { M with fuse := if 0 ≤ n then some n.toNat else none } L → R (.tuple #[]) H') : CallsH Try.prog 18 #[ptr b, .int .i64 n] H R := by
  obtain ⟨lv, r, ov, lf, o, ok⟩ := d
  refine disk_Disk_Fuse.vc _ _ _ _ ?_
  unfold disk_Disk_Fuse.res
  rw [pNe_3s, pCond_true, pGe_v, pNil_v, pFieldAddr_v, add_mk]
  refine o.bstore (f := 0 + 4) (by repeat (first | exact List.mem_cons_self | apply List.mem_cons_of_mem)) (by simp) rfl (by repeat (first | exact Rep.here | apply Rep.there)) fun H1 o _ => ?_
  rw [pNil_v, pFieldAddr_v, add_mk]
  refine o.bstore (f := 0 + 5) (by repeat (first | exact List.mem_cons_self | apply List.mem_cons_of_mem)) (by simp) rfl (by repeat (first | exact Rep.here | apply Rep.there)) fun H2 o _ => ?_
  refine h H2 ⟨lv, r, ov, n, ?_, ⟨ok.n1, ok.n2, ok.l64, ok.nodup, ok.dom, ok.rng, ok.c64, fun k hk => ?_⟩⟩
  · have e : (if 0 ≤ n then some n.toNat else none).isSome = decide (0 ≤ n) := by
      by_cases h0 : 0 ≤ n
      · rw [if_pos h0, decide_eq_true h0]; rfl
      · rw [if_neg h0, decide_eq_false h0]; rfl
    show Owns H0 H2 (.box b [_, _, _, .bool M.off, .bool (if 0 ≤ n then some n.toNat else none).isSome, .int .i64 n] _ :: _)
    rw [e]
    exact o
  · have hk : (if 0 ≤ n then some n.toNat else none) = some k := hk
    split at hk
    · cases hk; omega
    · cases hk
theorem sectors_nil (h : R (.int .i64 0) H) : CallsH Try.prog 21 #[.pointer none] H R := by
  refine disk_Disk_Sectors.vc _ _ _ ?_
  unfold disk_Disk_Sectors.res
  rw [pEq_3n, pCond_true]
  exact h
theorem sectors_spec (d : Dsk H0 H b M L) (h : R (.int .i64 (M.n : Nat)) H) : CallsH Try.prog 21 #[ptr b] H R := by
  obtain ⟨lv, r, ov, lf, o, ok⟩ := d
  refine disk_Disk_Sectors.vc _ _ _ ?_
  unfold disk_Disk_Sectors.res
  rw [pEq_3s, pCond_false, pNil_v, pFieldAddr_v, add_mk]
  refine o.bload (f := 0 + 0) (by repeat (first | exact List.mem_cons_self | apply List.mem_cons_of_mem)) rfl ?_
  exact (o.sl (v := lv) (by repeat (first | exact List.mem_cons_self | apply List.mem_cons_of_mem))).len lasts_len (by decide) h
/-- a new disk -/
def zero64 : List UInt8 := List.replicate 64 0
def Dk.new (n : Nat) : Dk := { n := n, la := fun _ => zero64, cs := fun _ => none, order := [], off := false, fuse := none }
theorem DkOk.new {n : Nat} (h1 : 1 ≤ n) (h2 : n ≤ 65536) : DkOk (Dk.new n) 0 := ⟨h1, h2, fun _ _ => by simp [Dk.new, zero64], List.nodup_nil, by simp [Dk.new], by simp [Dk.new], by simp [Dk.new], by simp [Dk.new]⟩
theorem repL_txt (n : Nat) : List.replicate n (str []) = txtsV (genL n fun _ => []) := by
  apply List.ext_getElem?
  intro i
  by_cases hi : i < n
  · unfold txtsV; rw [List.getElem?_replicate, if_pos hi, List.getElem?_map, genL_get hi]; rfl
  · rw [List.getElem?_eq_none (by rw [List.length_replicate]; omega), List.getElem?_eq_none (by rw [txtsV_len, genL_len]; omega)]
theorem new_no {n : Int} (hn : ¬ (1 ≤ n ∧ n ≤ 65536)) (h : R (.tuple #[.pointer none, .int .i64 1]) H) : CallsH Try.prog 8 #[.int .i64 n] H R := by
  refine disk_New.vc _ _ _ ?_
  unfold disk_New.res
  rw [pLt_v]
  refine pOr_if (d := decide (65536 < n)) (fun _ => by rw [pGt_v]; exact ⟨rfl, rfl⟩) ?_
  intro _
  refine pCond_b (fun hb => h) (fun hb => ?_)
  rw [Bool.or_eq_false_iff, decide_eq_false_iff_not, decide_eq_false_iff_not] at hb
  exact absurd (by omega) hn
theorem new_spec {n : Nat} (o : Owns H0 H L) (h1 : 1 ≤ n) (h2 : n ≤ 65536) (h : ∀ H' b, Dsk H0 H' b (Dk.new n) L → R (.tuple #[ptr b, .int .i64 0]) H') : CallsH Try.prog 8 #[.int .i64 (n : Int)] H R := by
  have hok := DkOk.new h1 h2
  refine disk_New.vc _ _ _ ?_
  unfold disk_New.res
  rw [pLt_v]
  refine pOr_if (d := decide (65536 < (n : Int))) (fun _ => by rw [pGt_v]; exact ⟨rfl, rfl⟩) ?_
  intro _
  rw [decide_eq_false (by omega), decide_eq_false (by omega), show (false || false) = false from rfl, pCond_false]
  refine o.make1 (by omega) (by omega) (by omega) fun lv H1 o => ?_
  rw [Int.toNat_natCast, repL_txt] at o
  refine map_make (intKeys .i64) fun H2 hm hx hsz => ?_
  have o := o.add (i := .thing (mapT H1.size fun _ => none)) hx hm (fun k hk => by
    have hk : k = H1.size := hk
    omega)
  generalize H1.size = r at *
  refine pBuild_one (o.sl (v := lv) (by repeat (first | exact List.mem_cons_self | apply List.mem_cons_of_mem))).one (by decide) ?_
  refine pBuild_one rfl (by simp) ?_
  rw [pBuild_n]
  refine o.box fun b H3 o _ => ?_
  change Owns H0 H3 (.box b [lv, .map (some r), .slice none 0 0, .bool false, .bool false, .int .i64 0] _ :: _) at o
  have o := o.add (Ext.refl _) (i := .sl (.slice none 0 0) 1 []) ⟨by decide, .inl ⟨rfl, rfl⟩⟩ (by intro k hk; exact absurd hk (by simp [It.foot, blkOf]))
  have o : Owns H0 H3 (.box b [lv, .map (some r), .slice none 0 0, .bool false, .bool false, .int .i64 0] 53 :: .sl lv 1 (txtsV (genL n fun j => if j < 0 then zero64 else [])) :: .thing (mapT r fun _ => none) :: .sl (.slice none 0 0) 1 [] :: L) := by
    have e : (genL n fun j : Nat => if j < 0 then zero64 else []) = genL n fun _ => [] := genL_congr fun j _ => if_neg (by omega)
    rw [e]
    exact o.arrT (by repeat (first | exact SelsT.refl | exact Sel.here | apply SelsT.cons | apply Sel.there))
  rw [pNil_v, pFieldAddr_v, add_mk]
  refine o.bload (f := 0 + 0) (by repeat (first | exact List.mem_cons_self | apply List.mem_cons_of_mem)) rfl ?_
  refine (o.sl (v := lv) (by repeat (first | exact List.mem_cons_self | apply List.mem_cons_of_mem))).len (n := n) (by rw [txtsV_len, genL_len, Nat.mul_one]) (by decide) ?_
  refine ⟨fun i H' => ∃ k : Nat, i = .int .i64 k ∧ k ≤ n ∧ Owns H0 H' (.box b [lv, .map (some r), .slice none 0 0, .bool false, .bool false, .int .i64 0] 53 :: .sl lv 1 (txtsV (genL n fun j => if j < k then zero64 else [])) :: .thing (mapT r fun _ => none) :: .sl (.slice none 0 0) 1 [] :: L), fun i _ => match i with | .int _ x => n - x.toNat | _ => 0, ⟨0, rfl, by omega, o⟩, ?_⟩
  clear o
  rintro _ _ H4 ⟨k, rfl, hk, o⟩
  rw [pLt_v]
  refine pCond_if (fun hc => ?_) (fun hc => ?_)
  · have hkn : k < n := by omega
    rw [pNil_v, pFieldAddr_v, add_mk]
    refine o.bload (f := 0 + 0) (by repeat (first | exact List.mem_cons_self | apply List.mem_cons_of_mem)) rfl ?_
    refine repeat_spec (s := [0]) (c := 64) (by decide) (by decide) fun H5 hx => ?_
    have o := o.more hx
    rw [repeat_one]
    refine ⟨o.bload (f := 0 + 0) (by repeat (first | exact List.mem_cons_self | apply List.mem_cons_of_mem)) rfl rfl, ?_⟩
    have hll : (txtsV (genL n fun j => if j < k then zero64 else [])).length = n * 1 := by rw [txtsV_len, genL_len, Nat.mul_one]
    refine (o.sl (v := lv) (by repeat (first | exact List.mem_cons_self | apply List.mem_cons_of_mem))).at_ hll (by decide) (by omega) (by omega) fun p hp => ?_
    refine o.store hp (by repeat (first | exact List.mem_cons_self | apply List.mem_cons_of_mem)) (by rw [hll]; omega) rfl (by repeat (first | exact Rep.here | apply Rep.there)) fun H6 o _ => ?_
    rw [Int.toNat_natCast, Nat.mul_one, txtsV_set', genL_set] at o
    have e : (genL n fun j : Nat => if j < k + 1 then zero64 else []) = genL n fun j => if j = k then List.replicate 64 0 else if j < k then zero64 else [] := genL_congr fun j _ => by
      by_cases h1 : j = k
      · rw [if_pos h1, if_pos (by omega)]; rfl
      · rw [if_neg h1]
        by_cases h2 : j < k
        · rw [if_pos h2, if_pos (by omega)]
        · rw [if_neg h2, if_neg (by omega)]
    rw [pAdd_v, w64 (n := (k : Int) + 1) (by omega) (by omega)]
    refine ⟨⟨k + 1, rfl, by omega, ?_⟩, by show n - ((k : Int) + 1).toNat < n - (k : Int).toNat; omega⟩
    rw [e]; exact o
  · have hkn : k = n := by omega
    subst hkn
    refine h H4 b ⟨lv, r, .slice none 0 0, 0, ?_, hok⟩
    have e : (genL k fun j : Nat => if j < k then zero64 else []) = genL k fun _ => zero64 := genL_congr fun j hj => if_pos hj
    rw [e] at o
    show Owns H0 H4 (.box b _ _ :: .sl lv 1 (txtsV (genL k fun _ => zero64)) :: .thing (mapT r (mOf fun _ => none)) :: _)
    rw [mOf_none]
    exact o
end Go.Proofs.Ytaopejkbnohiiaa
