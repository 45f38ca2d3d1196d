/- Contracts of package disk, over a model of a disk. -/
import Derived.Test.YtaopejkbnohiiaaDelF
import Derived.Test.YtaopejkbnohiiaaLibS
import Derived.Test.YtaopejkbnohiiaaPick
import Derived.Test.YtaopejkbnohiiaaVcMap
namespace Go.Proofs.Ytaopejkbnohiiaa
-- only what is there
open Go Go.Vc Go.Proofs
set_option linter.unusedVariables false
set_option linter.unusedSimpArgs false
variable {H H0 : Heap} {R : Value → Heap → Prop} {v : Value} {L : List It} {b : Nat}
/-! ### the model -/
def genL {α : Type} (n : Nat) (f : Nat → α) : List α := (List.range n).map f
theorem genL_len {α : Type} (n : Nat) (f : Nat → α) : (genL n f).length = n := by simp [genL]
theorem genL_get {α : Type} {n j : Nat} {f : Nat → α} (h : j < n) : (genL n f)[j]? = some (f j) := by unfold genL; rw [List.getElem?_map, List.getElem?_range h]; rfl
theorem genL_congr {α : Type} {n : Nat} {f g : Nat → α} (h : ∀ j, j < n → f j = g j) : genL n f = genL n g := List.map_congr_left fun j hj => h j (List.mem_range.1 hj)
theorem genL_set {α : Type} {n j : Nat} {f : Nat → α} {x : α} : (genL n f).set j x = genL n fun k => if k = j then x else f k := by
  apply List.ext_getElem?
  intro i
  by_cases hi : i < n
  · rw [genL_get hi]
    by_cases he : j = i
    · subst he; rw [List.getElem?_set_self (by rw [genL_len]; exact hi), if_pos rfl]
    · rw [List.getElem?_set_ne he, genL_get hi, if_neg (fun g => he g.symm)]
  · rw [List.getElem?_eq_none (by rw [List.length_set, genL_len]; omega), List.getElem?_eq_none (by rw [genL_len]; omega)]
structure Dk where
  n : Nat
  la : Nat → List UInt8
  cs : Nat → Option (List UInt8)
  order : List Nat
  off : Bool
  fuse : Option Nat
structure DkOk (M : Dk) (lf : Int) : Prop where
  n1 : 1 ≤ M.n
  n2 : M.n ≤ 65536
  l64 : ∀ j, j < M.n → (M.la j).length = 64
  nodup : M.order.Nodup
  dom : ∀ i, i ∈ M.order ↔ (M.cs i).isSome = true
  rng : ∀ i, i ∈ M.order → i < M.n
  c64 : ∀ i s, M.cs i = some s → s.length = 64
  fu : ∀ k, M.fuse = some k → lf = k ∧ k ≤ 9223372036854775807
theorem nodup_lt : ∀ (n : Nat) (l : List Nat), l.Nodup → (∀ i ∈ l, i < n) → l.length ≤ n
  | 0, l, _, h => by
    cases l with
    | nil => exact Nat.le_refl _
    | cons a l => exact absurd (h a (by simp)) (by omega)
  | n + 1, l, hn, h => by
    by_cases hm : n ∈ l
    · have ih := nodup_lt n (l.erase n) (hn.erase n) (fun i hi => by
        have h1 := h i (List.mem_of_mem_erase hi)
        have h2 : i ≠ n := ((List.Nodup.mem_erase_iff hn).1 hi).1
        omega)
      rw [List.length_erase_of_mem hm] at ih
      omega
    · have ih := nodup_lt n l hn (fun i hi => by
        have h1 := h i hi
        have h2 : i ≠ n := fun e => hm (by rw [← e]; exact hi)
        omega)
      omega
theorem DkOk.olen {M : Dk} {lf : Int} (h : DkOk M lf) : M.order.length ≤ 65536 := Nat.le_trans (nodup_lt _ _ h.nodup h.rng) h.n2
def fateN (fates : List Int) (k : Nat) : Nat := match fates[k]? with
  | some z => ((z.tmod 4 + 4).tmod 4).toNat
  | none => 0
theorem fateN_lt (fates : List Int) (k : Nat) : fateN fates k < 4 := by
  unfold fateN
  split
  · rename_i z _
    have := mod_pick (z := z) (n := 4) (by decide)
    omega
  · decide
def tornF (was is : List UInt8) (f : Nat) : List UInt8 := if f = 1 then is else if f = 2 then is.take 32 ++ was.drop 32 else if f = 3 then was.take 32 ++ is.drop 32 else was
theorem tornF_len {was is : List UInt8} (h1 : was.length = 64) (h2 : is.length = 64) (f : Nat) : (tornF was is f).length = 64 := by
  unfold tornF
  split
  · exact h2
  · split
    · rw [List.length_append, List.length_take, List.length_drop]; omega
    · split
      · rw [List.length_append, List.length_take, List.length_drop]; omega
      · exact h1
def Dk.ready (M : Dk) (i : Int) : Int := if M.off then 14 else if 0 ≤ i ∧ i < (M.n : Int) then 0 else 20
def Dk.crash (M : Dk) (fates : List Int) : Dk := if M.off then M else { M with la := fun j => match M.cs j with | some s => tornF (M.la j) s (fateN fates (M.order.idxOf j)) | none => M.la j, cs := fun _ => none, order := [], off := true, fuse := none }
def updS (cs : Nat → Option (List UInt8)) (i : Nat) (s : List UInt8) : Nat → Option (List UInt8) := fun j => if j = i then some s else cs j
def Dk.put (M : Dk) (i : Nat) (s : List UInt8) : Dk := { M with cs := updS M.cs i s, order := (M.order.filter fun j => decide (j ≠ i)) ++ [i], fuse := M.fuse.map (· - 1) }
def Dk.write (M : Dk) (i : Int) (s : List UInt8) : Dk × Int := if s.length ≠ 64 then (M, 1) else if M.ready i ≠ 0 then (M, M.ready i) else if M.fuse = some 0 then (M.crash [], 14) else (M.put i.toNat s, 0)
def Dk.flush (M : Dk) : Dk := { M with la := fun j => (M.cs j).getD (M.la j), cs := fun _ => none, order := [] }
def Dk.sync (M : Dk) : Dk × Int := if M.off then (M, 14) else if M.fuse = some 0 then (M.crash [], 14) else (M.flush, 0)
def Dk.sec (M : Dk) (i : Nat) : List UInt8 := (M.cs i).getD (M.la i)
def Dk.read (M : Dk) (i : Int) : List UInt8 × Int := if M.ready i ≠ 0 then ([], M.ready i) else (M.sec i.toNat, 0)
theorem DkOk.crash {M : Dk} {lf : Int} (h : DkOk M lf) (fates : List Int) : DkOk (M.crash fates) lf := by
  unfold Dk.crash
  split
  · exact h
  · exact ⟨h.n1, h.n2, fun j hj => by
      show (match M.cs j with | some s => tornF (M.la j) s (fateN fates (M.order.idxOf j)) | none => M.la j).length = 64
      split
      · rename_i s hs; exact tornF_len (h.l64 j hj) (h.c64 j s hs) _
      · exact h.l64 j hj, List.nodup_nil, by simp, by simp, by simp, by simp⟩
theorem DkOk.flush {M : Dk} {lf : Int} (h : DkOk M lf) : DkOk M.flush lf :=
  ⟨h.n1, h.n2, fun j hj => by
      show ((M.cs j).getD (M.la j)).length = 64
      cases hs : M.cs j with
      | some s => exact h.c64 j s hs
      | none => exact h.l64 j hj, List.nodup_nil, by simp [Dk.flush], by simp [Dk.flush], by simp [Dk.flush], h.fu⟩
theorem DkOk.put {M : Dk} {lf : Int} (h : DkOk M lf) {i : Nat} {s : List UInt8} (hi : i < M.n) (hs : s.length = 64) (hf : M.fuse ≠ some 0) : DkOk (M.put i s) (IntKind.i64.wrap (lf - 1)) := by
  refine ⟨h.n1, h.n2, h.l64, ?_, fun j => ?_, fun j hj => ?_, fun j t ht => ?_, fun k hk => ?_⟩
  · show ((M.order.filter fun j => decide (j ≠ i)) ++ [i]).Nodup
    rw [List.nodup_append]
    refine ⟨h.nodup.filter _, by simp, fun a ha c hc => ?_⟩
    rw [List.mem_filter, decide_eq_true_eq] at ha
    rw [List.mem_singleton.1 hc]
    exact ha.2
  · show j ∈ (M.order.filter fun j => decide (j ≠ i)) ++ [i] ↔ (updS M.cs i s j).isSome = true
    unfold updS
    rw [List.mem_append, List.mem_filter, decide_eq_true_eq, List.mem_singleton, h.dom]
    by_cases he : j = i
    · simp [he]
    · simp [he]
  · have hj : j ∈ (M.order.filter fun j => decide (j ≠ i)) ++ [i] := hj
    rcases List.mem_append.1 hj with g | g
    · exact h.rng j ((List.mem_filter.1 g).1)
    · rw [List.mem_singleton.1 g]; exact hi
  · have ht : updS M.cs i s j = some t := ht
    unfold updS at ht
    split at ht
    · cases ht; exact hs
    · exact h.c64 j t ht
  · have hk : M.fuse.map (· - 1) = some k := hk
    cases hfu : M.fuse with
    | none => rw [hfu] at hk; cases hk
    | some m =>
      rw [hfu] at hk
      simp only [Option.map_some, Option.some.injEq] at hk
      have h1 := h.fu m hfu
      have hm : m ≠ 0 := fun e => hf (by rw [hfu, e])
      rw [h1.1]
      refine ⟨?_, by omega⟩
      rw [w64 (by omega) (by omega)]
      omega
/-! ### a disk in the heap -/
def natsV (l : List Nat) : List Value := numsV (l.map fun n : Nat => (n : Int))
def mOf (cs : Nat → Option (List UInt8)) : Int → Option Value := fun k => if 0 ≤ k then (cs k.toNat).map fun s => str s else none
theorem mOf_nat (cs : Nat → Option (List UInt8)) (i : Nat) : mOf cs (i : Int) = (cs i).map fun s => str s := by unfold mOf; rw [if_pos (by omega)]; rfl
theorem mOf_none : mOf (fun _ => none) = fun _ => none := by
  funext k; unfold mOf; split <;> rfl
theorem mOf_upd (cs : Nat → Option (List UInt8)) (i : Nat) (s : List UInt8) : mset (intKeys .i64) (mOf cs) (i : Int) (some (str s)) = mOf (updS cs i s) := by
  funext k
  by_cases h : k = (i : Int)
  · subst h; rw [mset_self, mOf_nat]; simp [updS]
  · rw [mset_ne _ h]
    unfold mOf updS
    by_cases h0 : 0 ≤ k
    · rw [if_pos h0, if_pos h0, if_neg (by omega)]
    · rw [if_neg h0, if_neg h0]
def mapT (r : Nat) (m : Int → Option Value) : Thing where
  foot k := k = r
  holds H := MapAt (intKeys .i64) H r m
  frame := fun h hf => h.keep (hf r rfl)
  lt := fun h hf => by subst hf; exact h.lt
theorem map_at {r : Nat} {m : Int → Option Value} (o : Owns H0 H L) (h : It.thing (mapT r m) ∈ L) : MapAt (intKeys .i64) H r m := o.thing h
theorem owns_map {H' : Heap} {L' : List It} {r : Nat} {m m' : Int → Option Value} (o : Owns H0 H L) (h : MapAt (intKeys .i64) H' r m') (hs : H'.size = H.size) (hne : ∀ i, i ≠ r → H'[i]? = H[i]?) (hr : Rep (.thing (mapT r m)) (.thing (mapT r m')) L L') : Owns H0 H' L' :=
  o.turn hr (by omega) (fun k _ hf => hne k hf) h (fun k hk => .inl hk)
abbrev dkIts (b : Nat) (lv : Value) (r : Nat) (ov : Value) (lf : Int) (M : Dk) (L : List It) : List It :=
  .box b [lv, .map (some r), ov, .bool M.off, .bool M.fuse.isSome, .int .i64 lf] 53 :: .sl lv 1 (txtsV (genL M.n M.la)) :: .thing (mapT r (mOf M.cs)) :: .sl ov 1 (natsV M.order) :: L
def Dsk (H0 H : Heap) (b : Nat) (M : Dk) (L : List It) : Prop := ∃ lv r ov lf, Owns H0 H (dkIts b lv r ov lf M L) ∧ DkOk M lf
theorem Dsk.ext {M : Dk} (d : Dsk H0 H b M L) : Ext H0 H := by obtain ⟨_, _, _, _, o, _⟩ := d; exact o.ext
abbrev ptr (b : Nat) : Value := .pointer (some ⟨b, 0, none⟩)
theorem lasts_len {M : Dk} : (txtsV (genL M.n M.la)).length = M.n * 1 := by rw [txtsV_len, genL_len, Nat.mul_one]
theorem lasts_get {M : Dk} {j : Nat} (h : j < M.n) : (txtsV (genL M.n M.la))[j]? = some (str (M.la j)) := by unfold txtsV; rw [List.getElem?_map, genL_get h]; rfl
theorem natsV_len (l : List Nat) : (natsV l).length = l.length := by simp [natsV, numsV]
theorem natsV_get {l : List Nat} {k : Nat} (h : k < l.length) : (natsV l)[k]? = some (.int .i64 (l[k] : Nat)) := by
  unfold natsV
  rw [numsV_get (by rw [List.length_map]; exact h)]
  simp
theorem txtsV_set' (l : List (List UInt8)) (i : Nat) (s : List UInt8) : (txtsV l).set i (str s) = txtsV (l.set i s) := by unfold txtsV; rw [List.map_set]
theorem ready_nil {i : Int} (h : R (.int .i64 1) H) : CallsH Try.prog 24 #[.pointer none, .int .i64 i] H R := by
  refine disk_Disk_ready.vc _ _ _ _ ?_
  unfold disk_Disk_ready.res
  rw [pEq_3n, pCond_true]
  exact h
theorem ready_spec {M : Dk} {i : Int} (d : Dsk H0 H b M L) (h : R (.int .i64 (M.ready i)) H) : CallsH Try.prog 24 #[ptr b, .int .i64 i] H R := by
  obtain ⟨lv, r, ov, lf, o, ok⟩ := d
  refine disk_Disk_ready.vc _ _ _ _ ?_
  unfold disk_Disk_ready.res
  rw [pEq_3s, pCond_false, pNil_v, pFieldAddr_v, add_mk]
  refine o.bload (f := 0 + 3) (by repeat (first | exact List.mem_cons_self | apply List.mem_cons_of_mem)) rfl ?_
  unfold Dk.ready at h
  refine pCond_b (fun hb => ?_) (fun hb => ?_)
  · rw [if_pos hb] at h; exact h
  rw [if_neg (by rw [hb]; decide)] at h
  rw [pLt_v]
  refine pOr_if (d := decide ((M.n : Int) ≤ i)) (fun _ => ?_) ?_
  · rw [pNil_v, pFieldAddr_v, add_mk]
    refine o.bload (f := 0 + 0) (by repeat (first | exact List.mem_cons_self | apply List.mem_cons_of_mem)) rfl ?_
    refine (o.sl (v := lv) (by repeat (first | exact List.mem_cons_self | apply List.mem_cons_of_mem))).len lasts_len (by decide) ?_
    rw [pGe_v]
    exact ⟨rfl, rfl⟩
  intro _
  refine pCond_b (fun hb => ?_) (fun hb => ?_)
  · rw [Bool.or_eq_true, decide_eq_true_eq, decide_eq_true_eq] at hb
    rw [if_neg (by omega)] at h; exact h
  · rw [Bool.or_eq_false_iff, decide_eq_false_iff_not, decide_eq_false_iff_not] at hb
    rw [if_pos (by omega)] at h; exact h
theorem torn_spec {was is : List UInt8} {f : Nat} (h1 : was.length = 64) (h2 : is.length = 64) (hf : f < 4) (h : R (str (tornF was is f)) H) : CallsH Try.prog 33 #[str was, str is, .int .i64 (f : Int)] H R := by
  refine disk_torn.vc _ _ _ _ _ ?_
  unfold disk_torn.res
  unfold tornF at h
  rw [pEq_0]
  refine pCond_if (fun hc => ?_) (fun hc => ?_)
  · rw [if_pos (by omega)] at h; exact h
  rw [if_neg (by omega)] at h
  have hcut : ∀ {a c : List UInt8} {K : Value → Prop}, a.length = 64 → c.length = 64 → K (str (a.take 32 ++ c.drop 32)) → pSlStr (str a) none (some (.int .i64 32)) fun x => pSlStr (str c) (some (.int .i64 32)) none fun y => pAdd x y fun z => K z := fun {a c K} ha hc hK =>
    pSlStr_to (lo := 0) (hi := 32) (.inr ⟨rfl, rfl⟩) (.inl rfl) (by omega) (by omega) (pSlStr_to (lo := 32) (hi := c.length) (.inl rfl) (.inr ⟨rfl, rfl⟩) (by omega) (by omega) (pAdd_str (by simp only [List.length_take, List.length_drop]; omega) (by
      rw [List.drop_zero, Nat.sub_zero, List.take_of_length_le (l := c.drop 32) (by rw [List.length_drop]; omega)]; exact hK)))
  rw [pEq_0]
  refine pCond_if (fun hc => ?_) (fun hc => ?_)
  · rw [if_pos (by omega)] at h
    exact hcut h2 h1 h
  rw [if_neg (by omega)] at h
  rw [pEq_0]
  refine pCond_if (fun hc => ?_) (fun hc => ?_)
  · rw [if_pos (by omega)] at h
    exact hcut h1 h2 h
  rw [if_neg (by omega)] at h
  exact h
/-- the cache is cleared, whatever lies in the rest -/
theorem clear_spec {lv ov : Value} {r : Nat} {m : Int → Option Value} {ld : List Value} {od : List Value} {x3 x4 x5 : Value} (o : Owns H0 H (.box b [lv, .map (some r), ov, x3, x4, x5] 53 :: .sl lv 1 ld :: .thing (mapT r m) :: .sl ov 1 od :: L))
    (h : ∀ H', Owns H0 H' (.box b [lv, .map (some r), .slice none 0 0, x3, x4, x5] 53 :: .sl lv 1 ld :: .thing (mapT r (fun _ => none)) :: .sl (.slice none 0 0) 1 [] :: L) → R (.tuple #[]) H') : CallsH Try.prog 34 #[ptr b] H R := by
  refine disk_Disk_clear.vc _ _ _ ?_
  unfold disk_Disk_clear.res
  rw [pNil_v, pFieldAddr_v, add_mk]
  refine o.bload (f := 0 + 1) (by repeat (first | exact List.mem_cons_self | apply List.mem_cons_of_mem)) rfl ?_
  refine (map_at o (by repeat (first | exact List.mem_cons_self | apply List.mem_cons_of_mem))).clear fun H1 hm hs hne => ?_
  have o := owns_map o hm hs hne (by repeat (first | exact Rep.here | apply Rep.there))
  rw [pNil_v, pFieldAddr_v, add_mk]
  refine o.bstore (f := 0 + 2) (by repeat (first | exact List.mem_cons_self | apply List.mem_cons_of_mem)) (by simp) rfl (by repeat (first | exact Rep.here | apply Rep.there)) fun H2 o _ => ?_
  refine h H2 ?_
  exact o.turn (i' := .sl (.slice none 0 0) 1 []) (by repeat (first | exact Rep.here | apply Rep.there)) (Nat.le_refl _) (fun k _ _ => rfl) ⟨by decide, .inl ⟨rfl, rfl⟩⟩ (fun k hk => by cases hk)
def hasF (H0 : Heap) (L : List It) (v : Value) (zs : List Int) : Prop := Sl H0 v 1 (numsV zs) ∨ It.sl v 1 (numsV zs) ∈ L
theorem hasF.at {v : Value} {zs : List Int} {L' : List It} (h : hasF H0 L v zs) (o : Owns H0 H L') (hm : ∀ i, i ∈ L → i ∈ L') : Sl H v 1 (numsV zs) := by
  rcases h with h | h
  · exact h.ext o.ext
  · exact o.sl (hm _ h)
theorem hasF_nil : hasF H0 L (.slice none 0 0) [] := .inl (.inl ⟨rfl, rfl⟩)
theorem mem4 {a c d e : It} : ∀ i, i ∈ L → i ∈ a :: c :: d :: e :: L := fun i h => List.mem_cons_of_mem _ (List.mem_cons_of_mem _ (List.mem_cons_of_mem _ (List.mem_cons_of_mem _ h)))
theorem crash_nil (h : R (.tuple #[]) H) : CallsH Try.prog 16 #[.pointer none, v] H R := by
  refine disk_Disk_Crash.vc _ _ _ _ ?_
  unfold disk_Disk_Crash.res
  rw [pEq_3n, pOr_true]
  intro _
  rw [pCond_true]
  exact h
theorem idxOf_take {l : List Nat} {k j : Nat} (hn : l.Nodup) (hk : k < l.length) : l.idxOf l[k] = k := by
  induction l generalizing k with
  | nil => simp at hk
  | cons a l ih =>
    cases k with
    | zero => simp
    | succ k =>
      have h1 := List.nodup_cons.1 hn
      have hne : a ≠ l[k]'(by simpa using hk) := fun e => h1.1 (by rw [e]; exact List.getElem_mem _)
      rw [List.getElem_cons_succ, List.idxOf_cons, beq_false_of_ne hne, ih h1.2]; rfl
theorem crash_spec {M : Dk} {fates : List Int} (d : Dsk H0 H b M L) (hf : hasF H0 L v fates) (hfl : fates.length ≤ maxLen) (h : ∀ H', Dsk H0 H' b (M.crash fates) L → R (.tuple #[]) H') : CallsH Try.prog 16 #[ptr b, v] H R := by
  obtain ⟨lv, r, ov, lf, o, ok⟩ := d
  refine disk_Disk_Crash.vc _ _ _ _ ?_
  unfold disk_Disk_Crash.res
  rw [pEq_3s]
  refine pOr_false ?_
  rw [pNil_v, pFieldAddr_v, add_mk]
  refine o.bload (f := 0 + 3) (by repeat (first | exact List.mem_cons_self | apply List.mem_cons_of_mem)) rfl ?_
  intro _
  refine pCond_b (fun hb => ?_) (fun hb => ?_)
  · refine h H ⟨lv, r, ov, lf, ?_, ?_⟩
    · unfold Dk.crash; rw [if_pos hb]; exact o
    · unfold Dk.crash; rw [if_pos hb]; exact ok
  have hokc := ok.crash fates
  have hol := ok.olen
  have hovl : (natsV M.order).length = M.order.length * 1 := by rw [natsV_len, Nat.mul_one]
  rw [pNil_v, pFieldAddr_v, add_mk]
  refine o.bload (f := 0 + 2) (by repeat (first | exact List.mem_cons_self | apply List.mem_cons_of_mem)) rfl ?_
  refine (o.sl (v := ov) (by repeat (first | exact List.mem_cons_self | apply List.mem_cons_of_mem))).len hovl (by decide) ?_
  refine ⟨fun i H' => ∃ k : Nat, i = .int .i64 k ∧ k ≤ M.order.length ∧ Owns H0 H' (dkIts b lv r ov lf { M with la := fun j => if j ∈ M.order.take k then tornF (M.la j) ((M.cs j).getD []) (fateN fates (M.order.idxOf j)) else M.la j } L), fun i _ => match i with | .int _ x => M.order.length - x.toNat | _ => 0, ⟨0, rfl, by omega, by simpa using o⟩, ?_⟩
  clear o
  rintro _ _ H1 ⟨k, rfl, hk, o⟩
  rw [pLt_v]
  refine pCond_if (fun hc => ?_) (fun hc => ?_)
  · have hkn : k < M.order.length := by omega
    have hmeas : M.order.length - ((k : Int) + 1).toNat < M.order.length - (k : Int).toNat := by omega
    have hin := List.getElem_mem hkn
    have hq := ok.rng _ hin
    have hidx := idxOf_take (j := 0) ok.nodup hkn
    have hnt : M.order[k] ∉ M.order.take k := by
      intro hm
      obtain ⟨j, hj⟩ := List.getElem?_of_mem hm
      rw [List.getElem?_take] at hj
      split at hj
      · rename_i hjk
        have := nodup_get ok.nodup hj (List.getElem?_eq_getElem hkn)
        omega
      · cases hj
    obtain ⟨s, hs⟩ : ∃ s, M.cs M.order[k] = some s := Option.isSome_iff_exists.1 ((ok.dom _).1 hin)
    have htk : M.order.take (k + 1) = M.order.take k ++ [M.order[k]] := by rw [List.take_add_one, List.getElem?_eq_getElem hkn]; rfl
    generalize hqd : M.order[k] = q at *
    refine (o.sl (v := ov) (by repeat (first | exact List.mem_cons_self | apply List.mem_cons_of_mem))).at_ hovl (by decide) (by omega) (by omega) fun p hp => ?_
    refine hp.load (o.sl (v := ov) (by repeat (first | exact List.mem_cons_self | apply List.mem_cons_of_mem))) (w := .int .i64 (q : Int)) (by rw [Int.toNat_natCast, Nat.mul_one, natsV_get hkn, hqd]) ?_
    refine ⟨fun f H' => f = .int .i64 ((fateN fates k : Nat) : Int) ∧ H1 = H', ?_, ?_⟩
    · rintro _ _ _ ⟨rfl, rfl⟩
      rw [pNil_v, pFieldAddr_v, add_mk]
      refine o.bload (f := 0 + 0) (by repeat (first | exact List.mem_cons_self | apply List.mem_cons_of_mem)) rfl ?_
      rw [pNil_v, pFieldAddr_v, add_mk]
      refine o.bload (f := 0 + 0) (by repeat (first | exact List.mem_cons_self | apply List.mem_cons_of_mem)) rfl ?_
      refine (o.sl (v := lv) (by repeat (first | exact List.mem_cons_self | apply List.mem_cons_of_mem))).at_ lasts_len (by decide) (by omega) (by show (q : Int) < (M.n : Int); omega) fun p hp => ?_
      refine hp.load (o.sl (v := lv) (by repeat (first | exact List.mem_cons_self | apply List.mem_cons_of_mem))) (w := str (M.la q)) (by rw [Int.toNat_natCast, Nat.mul_one]; refine (lasts_get (M := { M with la := fun j => if j ∈ M.order.take k then tornF (M.la j) ((M.cs j).getD []) (fateN fates (M.order.idxOf j)) else M.la j }) hq).trans ?_; show some (str (if q ∈ M.order.take k then _ else _)) = _; rw [if_neg hnt]) ?_
      rw [pNil_v, pFieldAddr_v, add_mk]
      refine o.bload (f := 0 + 1) (by repeat (first | exact List.mem_cons_self | apply List.mem_cons_of_mem)) rfl ?_
      refine MapAt.lookup (κ := intKeys .i64) (k := (q : Int)) (map_at o (by repeat (first | exact List.mem_cons_self | apply List.mem_cons_of_mem))) ?_
      rw [mOf_nat]
      show CallsH Try.prog 33 #[str (M.la q), ((M.cs q).map fun s => str s).getD (str []), .int .i64 ((fateN fates k : Nat) : Int)] H1 _
      rw [hs]
      refine torn_spec (ok.l64 q hq) (ok.c64 q s hs) (fateN_lt _ _) ?_
      refine ⟨o.bload (f := 0 + 0) (by repeat (first | exact List.mem_cons_self | apply List.mem_cons_of_mem)) rfl rfl, ?_⟩
      refine (o.sl (v := lv) (by repeat (first | exact List.mem_cons_self | apply List.mem_cons_of_mem))).at_ lasts_len (by decide) (by omega) (by show (q : Int) < (M.n : Int); omega) fun p hp => ?_
      refine o.store hp (by repeat (first | exact List.mem_cons_self | apply List.mem_cons_of_mem)) (by rw [lasts_len]; show (q : Int).toNat * 1 < M.n * 1; omega) rfl (by repeat (first | exact Rep.here | apply Rep.there)) fun H2 o _ => ?_
      rw [pAdd_v, w64 (n := (k : Int) + 1) (by omega) (by omega)]
      refine ⟨⟨k + 1, rfl, by omega, ?_⟩, hmeas⟩
      rw [Int.toNat_natCast, Nat.mul_one, txtsV_set', genL_set] at o
      have e : genL M.n (fun j => if j ∈ M.order.take (k + 1) then tornF (M.la j) ((M.cs j).getD []) (fateN fates (M.order.idxOf j)) else M.la j) = genL M.n (fun j => if j = q then tornF (M.la q) s (fateN fates k) else if j ∈ M.order.take k then tornF (M.la j) ((M.cs j).getD []) (fateN fates (M.order.idxOf j)) else M.la j) := by
        refine genL_congr fun j _ => ?_
        rw [htk]
        by_cases hjq : j = q
        · subst hjq; rw [if_pos (by simp), if_pos rfl, hs, hidx]; rfl
        · rw [if_neg hjq]
          have : (j ∈ M.order.take k ++ [q]) = (j ∈ M.order.take k) := by rw [List.mem_append, List.mem_singleton]; simp [hjq]
          simp only [this]
      show Owns H0 H2 (.box b _ _ :: .sl lv 1 (txtsV (genL M.n _)) :: _)
      rw [e]
      exact o
    · have hvl : (numsV fates).length = fates.length * 1 := by rw [numsV_len, Nat.mul_one]
      have hsf := hf.at o mem4
      refine hsf.len hvl (by decide) ?_
      rw [pLt_v]
      unfold fateN
      refine pCond_if (fun hl => ?_) (fun hl => ?_)
      · have hkf : k < fates.length := by omega
        refine hsf.at_ hvl (by decide) (by omega) (by omega) fun p hp => ?_
        refine hp.load hsf (w := .int .i64 fates[k]) (by rw [Int.toNat_natCast, Nat.mul_one, numsV_get hkf]) ?_
        have t1 := tmod_range (z := fates[k]) (n := 4) (by decide)
        have t2 := mod_pick (z := fates[k]) (n := 4) (by decide)
        rw [pRem_v]
        refine ⟨by decide, ?_⟩
        rw [pAdd_v, w64 (n := fates[k].tmod 4 + 4) (by omega) (by omega), pRem_v]
        refine ⟨by decide, ?_⟩
        rw [List.getElem?_eq_getElem hkf]
        refine ⟨?_, rfl⟩
        show _ = Value.int .i64 (((fates[k].tmod 4 + 4).tmod 4).toNat : Int)
        rw [Int.toNat_of_nonneg t2.1]
      · rw [List.getElem?_eq_none (by omega)]
        exact ⟨rfl, rfl⟩
  · have hkl : k = M.order.length := by omega
    rw [hkl, List.take_length] at o
    refine clear_spec o fun H2 o => ?_
    rw [pNil_v, pFieldAddr_v, add_mk]
    refine o.bstore (f := 0 + 3) (by repeat (first | exact List.mem_cons_self | apply List.mem_cons_of_mem)) (by simp) rfl (by repeat (first | exact Rep.here | apply Rep.there)) fun H3 o _ => ?_
    rw [pNil_v, pFieldAddr_v, add_mk]
    refine o.bstore (f := 0 + 4) (by repeat (first | exact List.mem_cons_self | apply List.mem_cons_of_mem)) (by simp) rfl (by repeat (first | exact Rep.here | apply Rep.there)) fun H4 o _ => ?_
    refine h H4 ⟨lv, r, .slice none 0 0, lf, ?_, hokc⟩
    unfold Dk.crash
    rw [if_neg (by rw [hb]; decide)]
    have e : genL M.n (fun j => if j ∈ M.order then tornF (M.la j) ((M.cs j).getD []) (fateN fates (M.order.idxOf j)) else M.la j) = genL M.n (fun j => match M.cs j with | some s => tornF (M.la j) s (fateN fates (M.order.idxOf j)) | none => M.la j) := by
      refine genL_congr fun j _ => ?_
      cases hs : M.cs j with
      | some s => rw [if_pos ((ok.dom j).2 (by rw [hs]; rfl))]; rfl
      | none => rw [if_neg (fun g => by have := (ok.dom j).1 g; rw [hs] at this; cases this)]
    show Owns H0 H4 (.box b _ _ :: .sl lv 1 (txtsV (genL M.n _)) :: .thing (mapT r (mOf fun _ => none)) :: _)
    rw [← e, mOf_none]
    exact o
end Go.Proofs.Ytaopejkbnohiiaa
