/- Structs within structs: a run of cells of a block, and what a step leaves alone. -/
import Derived.Test.YtfmbgnchedhneaaDoorVcOwn
set_option linter.unusedSimpArgs false
set_option linter.unusedVariables false
namespace Go.Vc
open Go
theorem arr_inj {l m : List Value} (h : l.toArray = m.toArray) : l = m := by simpa using congrArg Array.toList h
/-- cells of a block from a place on -/
def Sub (H : Heap) (b o : Nat) (cs : List Value) : Prop := ∃ (pre post : List Value) (t : TypeId), pre.length = o ∧ H[b]? = some (.cells (pre ++ cs ++ post).toArray t (0, 0))
/-- a step of the object at a place (n cells) with blocks F of its own: these, and no others, may turn; then they are F' -/
structure Chg (b o n : Nat) (F F' : Nat → Prop) (H H' : Heap) : Prop where
  size : H.size ≤ H'.size
  ne : ∀ i, i < H.size → i ≠ b → ¬ F i → H'[i]? = H[i]?
  blk : ∀ (cs : List Value) (t : TypeId) (fr : Nat × Nat), H[b]? = some (.cells cs.toArray t fr) → ∃ cs' : List Value, H'[b]? = some (.cells cs'.toArray t fr) ∧ cs'.length = cs.length ∧ ∀ j, (j < o ∨ o + n ≤ j) → cs'[j]? = cs[j]?
  new : ∀ k, F' k → F k ∨ H.size ≤ k
/-- no blocks -/
abbrev none_ : Nat → Prop := fun _ => False
/-- the block of a slice -/
abbrev blkS (v : Value) : Nat → Prop := fun k => blkOf v = some k
theorem Chg.refl {b o n : Nat} {F : Nat → Prop} {H : Heap} : Chg b o n F F H H := ⟨Nat.le_refl _, fun _ _ _ _ => rfl, fun cs t fr h => ⟨cs, h, rfl, fun _ _ => rfl⟩, fun k h => .inl h⟩
theorem Chg.trans {b o n : Nat} {F F' F'' : Nat → Prop} {H H' H'' : Heap} (h : Chg b o n F F' H H') (k : Chg b o n F' F'' H' H'') : Chg b o n F F'' H H'' :=
  ⟨Nat.le_trans h.size k.size, fun i hi hb hF => (k.ne i (Nat.lt_of_lt_of_le hi h.size) hb (fun e => by
      rcases h.new i e with h' | h'
      · exact hF h'
      · omega)).trans (h.ne i hi hb hF), fun cs t fr hc => by
    obtain ⟨c1, h1, h2, h3⟩ := h.blk cs t fr hc
    obtain ⟨c2, g1, g2, g3⟩ := k.blk c1 t fr h1
    exact ⟨c2, g1, g2.trans h2, fun j hj => (g3 j hj).trans (h3 j hj)⟩, fun i hi => by
    rcases k.new i hi with h' | h'
    · exact h.new i h'
    · right; have := h.size; omega⟩
theorem Chg.of_ext {b o n : Nat} {F : Nat → Prop} {H H' : Heap} (h : Ext H H') (hb : b < H.size) : Chg b o n F F H H' :=
  ⟨h.size, fun i hi _ _ => h.get i hi, fun cs t fr hc => ⟨cs, h.blk hc, rfl, fun _ _ => rfl⟩, fun k h => .inl h⟩
/-- the footprint may be told as a greater one at first, as a lesser one then -/
theorem Chg.weak {b o n : Nat} {F F' G G' : Nat → Prop} {H H' : Heap} (h : Chg b o n F F' H H') (h1 : ∀ k, F k → G k) (h2 : ∀ k, G' k → F' k ∨ G k ∨ H.size ≤ k) : Chg b o n G G' H H' :=
  ⟨h.size, fun i hi hb hG => h.ne i hi hb (fun e => hG (h1 i e)), h.blk, fun k hk => by
    rcases h2 k hk with h' | h' | h'
    · rcases h.new k h' with h'' | h''
      · exact .inl (h1 k h'')
      · exact .inr h''
    · exact .inl h'
    · exact .inr h'⟩
theorem Chg.any {b o n : Nat} {G : Nat → Prop} {H H' : Heap} (h : Chg b o n none_ none_ H H') : Chg b o n G G H H' := h.weak (fun _ h => h.elim) (fun _ h => .inr (.inl h))
/-- a lesser run of cells within a greater one -/
theorem Chg.wide {b o n o' n' : Nat} {F F' : Nat → Prop} {H H' : Heap} (h : Chg b o n F F' H H') (h1 : o' ≤ o) (h2 : o + n ≤ o' + n') : Chg b o' n' F F' H H' :=
  ⟨h.size, h.ne, fun cs t fr hc => by
    obtain ⟨c1, g1, g2, g3⟩ := h.blk cs t fr hc
    exact ⟨c1, g1, g2, fun j hj => g3 j (by omega)⟩, h.new⟩
/-- what was there ahead of the object and its blocks stays -/
theorem Chg.ext {A H H' : Heap} {b o n : Nat} {F F' : Nat → Prop} (h : Chg b o n F F' H H') (hx : Ext A H) (hb : A.size ≤ b) (hF : ∀ k, F k → A.size ≤ k) : Ext A H' ∧ ∀ k, F' k → A.size ≤ k :=
  ⟨⟨Nat.le_trans hx.size h.size, fun i hi => (h.ne i (Nat.lt_of_lt_of_le hi hx.size) (by omega) (fun e => by have := hF i e; omega)).trans (hx.get i hi)⟩, fun k hk => by
    rcases h.new k hk with h' | h'
    · exact hF k h'
    · have := hx.size; omega⟩
/-- another block stays -/
theorem Chg.keep {b o n c : Nat} {F F' : Nat → Prop} {H H' : Heap} {ob : Obj} (h : Chg b o n F F' H H') (hc : H[c]? = some ob) (h1 : c ≠ b) (h2 : ¬ F c) : H'[c]? = some ob := (h.ne c (lt_of_blk hc) h1 h2).trans hc
theorem Chg.sl {b o n sz : Nat} {F F' : Nat → Prop} {H H' : Heap} {v : Value} {l : List Value} (h : Chg b o n F F' H H') (hs : Sl H v sz l) (h1 : blkOf v ≠ some b) (h2 : ∀ k, blkOf v = some k → ¬ F k) : Sl H' v sz l := by
  rcases hs with hs | ⟨a, m, cap, rfl, h3, h4, h5⟩
  · exact .inl hs
  · refine .inr ⟨a, m, cap, rfl, h3, h4, fun i w hw => ?_⟩
    have hc := h5 i w hw
    have hbl : (a.add i).block = a.block := by unfold Addr.add; split <;> rfl
    unfold cellAt at hc ⊢
    rw [hbl] at hc ⊢
    have hl : a.block < H.size := by
      rcases Nat.lt_or_ge a.block H.size with h' | h'
      · exact h'
      · rw [Array.getElem?_eq_none h'] at hc; cases hc
    rw [h.ne a.block hl (fun e => h1 (by rw [← e]; rfl)) (h2 a.block rfl)]
    exact hc
theorem Chg.own {b o n sz : Nat} {F F' : Nat → Prop} {H H' : Heap} {v : Value} {l : List Value} (h : Chg b o n F F' H H') (hs : Own H v sz l) (h1 : blkOf v ≠ some b) (h2 : ∀ k, blkOf v = some k → ¬ F k) : Own H' v sz l := by
  rcases hs with hs | ⟨c, m, cap, sp, rfl, ⟨t, fr, hc, hf⟩, h3, h4⟩
  · exact .inl hs
  · exact .inr ⟨c, m, cap, sp, rfl, ⟨⟨t, fr, h.keep hc (fun e => h1 (by rw [← e]; rfl)) (h2 c rfl), hf⟩, h3, h4⟩⟩
theorem Sub.lt {H : Heap} {b o : Nat} {cs : List Value} (h : Sub H b o cs) : b < H.size := by obtain ⟨_, _, _, _, h⟩ := h; exact lt_of_blk h
theorem Sub.ext {H H' : Heap} {b o : Nat} {cs : List Value} (h : Sub H b o cs) (hx : Ext H H') : Sub H' b o cs := by
  obtain ⟨p, q, t, h1, h2⟩ := h; exact ⟨p, q, t, h1, hx.blk h2⟩
theorem Sub.same {H H' : Heap} {b o : Nat} {cs : List Value} (h : Sub H b o cs) (hx : H'[b]? = H[b]?) : Sub H' b o cs := by
  obtain ⟨p, q, t, h1, h2⟩ := h; exact ⟨p, q, t, h1, hx.trans h2⟩
theorem Sub.cell {H : Heap} {b o k : Nat} {cs : List Value} {v : Value} (h : Sub H b o cs) (hk : cs[k]? = some v) : cellAt H ⟨b, o + k, none⟩ = some v := by
  obtain ⟨p, q, t, h1, h2⟩ := h
  subst h1
  have hl := (List.getElem?_eq_some_iff.1 hk).1
  rw [cellAt_blk h2, List.getElem?_toArray, List.append_assoc, List.getElem?_append_right (by omega), List.getElem?_append_left (by omega), show p.length + k - p.length = k by omega, hk]
theorem Sub.cell0 {H : Heap} {b o : Nat} {cs : List Value} {v : Value} (h : Sub H b o cs) (hk : cs[0]? = some v) : cellAt H ⟨b, o, none⟩ = some v := h.cell (k := 0) hk
theorem list3 {α : Type} (l : List α) (o n : Nat) (h : o + n ≤ l.length) : l = l.take o ++ (l.drop o).take n ++ l.drop (o + n) := by
  rw [← List.drop_drop, List.append_assoc, List.take_append_drop, List.take_append_drop]
/-- a lesser run of cells -/
theorem Sub.part {H : Heap} {b o : Nat} {x y z : List Value} (h : Sub H b o (x ++ y ++ z)) : Sub H b (o + x.length) y := by
  obtain ⟨p, q, t, h1, h2⟩ := h
  exact ⟨p ++ x, z ++ q, t, by simp [h1], by rw [h2]; simp [List.append_assoc]⟩
/-- behind a step of a lesser run: the greater one -/
theorem Sub.whole {H H' : Heap} {b o : Nat} {x y y' z : List Value} {F F' : Nat → Prop} (h : Sub H b o (x ++ y ++ z)) (hc : Chg b (o + x.length) y.length F F' H H') (hy : Sub H' b (o + x.length) y') (hl : y'.length = y.length) : Sub H' b o (x ++ y' ++ z) := by
  obtain ⟨p, q, t, h1, h2⟩ := h
  obtain ⟨c, g1, g2, g3⟩ := hc.blk _ _ _ h2
  obtain ⟨p', q', t', k1, k2⟩ := hy
  rw [g1] at k2
  simp only [Option.some.injEq, Obj.cells.injEq] at k2
  obtain ⟨k2, k3, -⟩ := k2
  have k2 := arr_inj k2
  subst k3
  refine ⟨p, q, t, h1, ?_⟩
  rw [g1]
  congr 2
  subst h1
  rw [k2] at g2 g3 ⊢
  have e1 : p' = p ++ x := by
    apply List.ext_getElem?
    intro j
    by_cases hj : j < p'.length
    · have := g3 j (.inl (by omega))
      rw [List.append_assoc p', List.getElem?_append_left hj] at this
      rw [this, show p ++ (x ++ y ++ z) ++ q = (p ++ x) ++ (y ++ z ++ q) by simp [List.append_assoc], List.getElem?_append_left (by simp; omega)]
    · rw [List.getElem?_eq_none (by omega), List.getElem?_eq_none (by simp; omega)]
  have e2 : q' = z ++ q := by
    apply List.ext_getElem?
    intro j
    have := g3 (p.length + x.length + y.length + j) (.inr (by omega))
    rw [List.getElem?_append_right (by simp; omega), show p.length + x.length + y.length + j - (p' ++ y').length = j by simp; omega] at this
    rw [this, show p ++ (x ++ y ++ z) ++ q = (p ++ x ++ y) ++ (z ++ q) by simp [List.append_assoc], List.getElem?_append_right (by simp; omega)]
    congr 1
    simp; omega
  rw [e1, e2]
  simp [List.append_assoc]
/-- the whole block -/
theorem Sub.all {H : Heap} {b : Nat} {cs : List Value} {t : TypeId} (h : H[b]? = some (.cells cs.toArray t (0, 0))) : Sub H b 0 cs := ⟨[], [], t, rfl, by simpa using h⟩
theorem Sub.of_all {H H' : Heap} {b n : Nat} {cs cs' : List Value} {t : TypeId} {F F' : Nat → Prop} (h : H[b]? = some (.cells cs.toArray t (0, 0))) (hc : Chg b 0 n F F' H H') (hy : Sub H' b 0 cs') (hl : cs'.length = cs.length) : H'[b]? = some (.cells cs'.toArray t (0, 0)) := by
  obtain ⟨c, g1, g2, g3⟩ := hc.blk _ _ _ h
  obtain ⟨p', q', t', k1, k2⟩ := hy
  have : p' = [] := by simpa using k1
  subst this
  rw [g1] at k2
  simp only [Option.some.injEq, Obj.cells.injEq, List.nil_append] at k2
  obtain ⟨k2, k3, -⟩ := k2
  have k2 := arr_inj k2
  subst k3
  have hq : q' = [] := by
    have := congrArg List.length k2
    rw [List.length_append] at this
    apply List.eq_nil_of_length_eq_zero
    omega
  subst hq
  rw [g1, k2, List.append_nil]
section
variable {H : Heap} {KE : Value → Heap → Prop} {b o k : Nat} {cs : List Value} {v : Value}
theorem set_mid {p q : List Value} {v : Value} (hk : k < cs.length) : (p ++ cs ++ q).set (p.length + k) v = p ++ cs.set k v ++ q := by
  rw [List.append_assoc, List.set_append_right _ _ (by omega), show p.length + k - p.length = k by omega, List.set_append_left _ _ hk, List.append_assoc]
theorem pStore_sub {n : Nat} {F : Nat → Prop} (h : Sub H b o cs) (hn : n = cs.length) (hk : k < cs.length) (hv : oneCell v = true) (hK : ∀ H', H'.size = H.size → Sub H' b o (cs.set k v) → Chg b o n F F H H' → KE undef H') : pStore H (.pointer (some ⟨b, o + k, none⟩)) v KE := by
  obtain ⟨p, q, t, h1, h2⟩ := h
  subst h1
  rw [pStore_blk h2 (by simp; omega) hv]
  have hb := lt_of_blk h2
  have e : ((p ++ cs ++ q).toArray.setIfInBounds (p.length + k) v) = (p ++ cs.set k v ++ q).toArray := by rw [List.setIfInBounds_toArray, set_mid hk]
  rw [e]
  refine hK _ (by simp) ⟨p, q, t, rfl, get_set_self hb⟩ ⟨by simp, fun i hi hne _ => get_set_ne (Ne.symm hne), fun c t' fr hc => ?_, fun k h => .inl h⟩
  rw [h2] at hc
  simp only [Option.some.injEq, Obj.cells.injEq] at hc
  obtain ⟨hc, rfl, rfl⟩ := hc
  have hc := arr_inj hc
  subst hc
  refine ⟨_, get_set_self hb, by simp, fun j hj => ?_⟩
  rw [← set_mid hk, List.getElem?_set_ne (by omega)]
theorem pStore_sub0 {n : Nat} {F : Nat → Prop} (h : Sub H b o cs) (hn : n = cs.length) (hk : 0 < cs.length) (hv : oneCell v = true) (hK : ∀ H', H'.size = H.size → Sub H' b o (cs.set 0 v) → Chg b o n F F H H' → KE undef H') : pStore H (.pointer (some ⟨b, o, none⟩)) v KE :=
  pStore_sub (k := 0) h hn hk hv hK
end
/-- a new slice without elements -/
theorem own_build0 {H : Heap} {e : TypeId} {K : Value → Heap → Prop} (hk : ∀ y H', Own H' y 1 [] → Ext H H' → (∀ j, blkOf y = some j → H.size ≤ j) → K y H') : pBuildSl H e 0 [] [] K := by
  simp only [pBuildSl, pBuild_n, cells_agg]
  exact hk _ _ (.inr ⟨H.size, 0, 0, [], rfl, ⟨⟨e, (0, 0), get_push_self, .inl rfl⟩, rfl, rfl⟩⟩) (Ext.refl H).push (fun j hj => by simp only [blkOf, Option.some.injEq] at hj; omega)
/-- an own slice without elements, of what it held -/
theorem Own.cut0 {H : Heap} {v : Value} {l : List Value} {K : Value → Prop} (h : Own H v 1 l) (hk : ∀ v', Own H v' 1 [] → blkOf v' = blkOf v → K v') : pSlSl 1 v none (some (.int .i64 0)) K := by
  rcases h with ⟨rfl, rfl⟩ | ⟨b, n, cap, sp, rfl, ⟨t, fr, hb, hf⟩, hl, hc⟩
  · rw [pSlSl_v, pBounds_01]
    exact ⟨by decide, by decide, hk _ (.inl ⟨by simp, rfl⟩) rfl⟩
  · rw [pSlSl_v, pBounds_01]
    refine ⟨by decide, by omega, ?_⟩
    have e : (if cap = 0 then (some ⟨b, 0, none⟩ : Option Addr) else Option.map (fun x : Addr => x.add (0 * 1)) (some (⟨b, 0, none⟩ : Addr))) = some ⟨b, 0, none⟩ := by
      split
      · rfl
      · simp [Addr.add]
    rw [e]
    exact hk _ (.inr ⟨b, 0, cap, l ++ sp, rfl, ⟨⟨t, fr, by rw [List.nil_append]; exact hb, hf⟩, by simp, by rw [List.nil_append]; exact hc⟩⟩) rfl
/-- two texts, one behind the other -/
theorem pAdd_str {a b : List UInt8} {K : Value → Prop} (h : a.length + b.length ≤ 9223372036854775807) (hk : K (str (a ++ b))) : pAdd (str a) (str b) K := by
  rw [pAdd_s, bys_mk, bys_mk, bys_size, bys_size]
  exact ⟨h, hk⟩
/-- a new slice of one-cell elements -/
theorem build_vals {H : Heap} {e : TypeId} {n : Nat} {zero vs : List Value} {parts : List (Nat × Nat × Value)} {K : Value → Heap → Prop} (hval : ∀ K' : Value → Prop, K' (.agg vs.toArray) → pBuild zero parts K') (hn : vs.length = n)
    (hk : ∀ y H', Ext H H' → Sl H' y 1 vs → (∀ j, blkOf y = some j → H.size ≤ j) → K y H') : pBuildSl H e n zero parts K := by
  refine hval _ ?_
  simp only [cells_agg]
  refine hk _ _ (Ext.refl H).push (.inr ⟨_, n, n, rfl, by omega, Nat.le_refl _, fun i w hw => ?_⟩) (fun j hj => by simp only [blkOf, Option.some.injEq] at hj; omega)
  rw [add_mk, Nat.zero_add, cellAt_blk get_push_self, List.getElem?_toArray]
  exact hw
/-! ### single steps, goal by goal -/
section
variable {K : Value → Prop} {b o n : Nat} {k k' : IntKind} {a c : Int} {l : List UInt8} {p : Bool}
theorem pFieldAddr_to (h : K (.pointer (some ⟨b, o + n, none⟩))) : pFieldAddr n (.pointer (some ⟨b, o, none⟩)) K := by rw [pFieldAddr_v, add_mk]; exact h
theorem pConv_to (h : K (.int k (k.wrap a))) : pConv k (.int k' a) K := h
theorem pLenS_to (h : K (.int .i64 (l.length : Int))) : pLenS (str l) K := by rw [pLenS_v, bys_mk]; exact h
theorem pNil_to {ad : Addr} (h : K (.pointer (some ad))) : pNil (.pointer (some ad)) K := h
theorem pNot_to (h : K (.bool !p)) : pNot (.bool p) K := h
theorem pNe1_to {m : List UInt8} (h : K (.bool (decide (l ≠ m)))) : pNe 1 (str l) (str m) K := by rw [pNe_1, bys_mk, bys_mk]; exact h
theorem pEq1_to {m : List UInt8} (h : K (.bool (decide (l = m)))) : pEq 1 (str l) (str m) K := by rw [pEq_1, bys_mk, bys_mk]; exact h
theorem pExtract_to {vs : List Value} {v : Value} {i : Nat} (hv : vs[i]? = some v) (h : K v) : pExtract i (.tuple vs.toArray) K := by rw [pExtract_v, hv]; exact h
/-- a part of a text -/
theorem pSlStr_to {x y : Option Value} {lo hi : Nat} (hx : x = some (.int .i64 (lo : Int)) ∨ (x = none ∧ lo = 0)) (hy : y = some (.int .i64 (hi : Int)) ∨ (y = none ∧ hi = l.length)) (h1 : lo ≤ hi) (h2 : hi ≤ l.length) (h : K (str ((l.drop lo).take (hi - lo)))) : pSlStr (str l) x y K := by
  rw [pSlStr_v, bys_mk]
  rcases hx with rfl | ⟨rfl, rfl⟩ <;> rcases hy with rfl | ⟨rfl, rfl⟩
  · rw [pBounds_11]; exact ⟨by omega, by omega, by omega, by omega, by simpa using h⟩
  · rw [pBounds_10]; exact ⟨by omega, by omega, by simpa using h⟩
  · rw [pBounds_01]; exact ⟨by omega, by omega, by simpa using h⟩
  · rw [pBounds_00]; exact h
theorem pLoadN_to {H : Heap} {t : TypeId} {fr : Nat × Nat} {cs : Array Value} (h : H[b]? = some (.cells cs t fr)) (hn : cs.size = n) (hk : K (.agg cs)) : pLoadN H n (.pointer (some ⟨b, 0, none⟩)) K := by rw [pLoadN_blk h hn]; exact hk
end
end Go.Vc
