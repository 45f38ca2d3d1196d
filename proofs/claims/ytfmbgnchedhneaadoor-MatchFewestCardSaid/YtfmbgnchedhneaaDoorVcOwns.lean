/- What a function owns: slices, boxes, maps and other things that it made, apart from each other and from what was there. -/
import Derived.Test.YtfmbgnchedhneaaDoorVcMap
import Derived.Test.YtfmbgnchedhneaaDoorVcSub
set_option linter.unusedSimpArgs false
set_option linter.unusedVariables false
namespace Go.Vc
open Go
/-- something that stands in certain blocks -/
structure Thing where
  foot : Nat → Prop
  holds : Heap → Prop
  frame : ∀ {H H' : Heap}, holds H → (∀ k, foot k → H'[k]? = H[k]?) → holds H'
  lt : ∀ {H : Heap} {k : Nat}, holds H → foot k → k < H.size
/-- an own item -/
inductive It where
  | sl (v : Value) (sz : Nat) (l : List Value)
  | box (b : Nat) (cs : List Value) (t : TypeId)
  | thing (T : Thing)
def It.foot : It → Nat → Prop
  | .sl v _ _ => fun k => blkOf v = some k
  | .box b _ _ => fun k => b = k
  | .thing T => T.foot
def It.holds (H : Heap) : It → Prop
  | .sl v sz l => 0 < sz ∧ Own H v sz l
  | .box b cs t => H[b]? = some (.cells cs.toArray t (0, 0))
  | .thing T => T.holds H
theorem It.frame {H H' : Heap} {i : It} (h : i.holds H) (hf : ∀ k, i.foot k → H'[k]? = H[k]?) : i.holds H' := by
  cases i with
  | sl v sz l =>
    refine ⟨h.1, ?_⟩
    rcases h.2 with h | ⟨b, n, cap, sp, rfl, ⟨t, fr, hb, hfr⟩, hl, hc⟩
    · exact .inl h
    · exact .inr ⟨b, n, cap, sp, rfl, ⟨⟨t, fr, (hf b rfl).trans hb, hfr⟩, hl, hc⟩⟩
  | box b cs t => exact (hf b rfl).trans h
  | thing T => exact T.frame h hf
theorem It.lt {H : Heap} {i : It} {k : Nat} (h : i.holds H) (hf : i.foot k) : k < H.size := by
  cases i with
  | sl v sz l => exact h.2.lt hf
  | box b cs t => cases hf; exact lt_of_blk h
  | thing T => exact T.lt h hf
/-- the things L are own: they hold, stand apart, and are younger than H0; what was in H0 stays -/
structure Owns (H0 H : Heap) (L : List It) : Prop where
  ext : Ext H0 H
  ok : ∀ i ∈ L, i.holds H
  new : ∀ i ∈ L, ∀ k, i.foot k → H0.size ≤ k
  dis : L.Pairwise fun i j => ∀ k, i.foot k → ¬ j.foot k
variable {H0 H H' : Heap} {L L' M : List It} {i i' : It}
theorem Owns.start : Owns H H [] := ⟨Ext.refl H, by simp, by simp, List.Pairwise.nil⟩
theorem Owns.more (o : Owns H0 H L) (hx : Ext H H') : Owns H0 H' L :=
  ⟨o.ext.trans hx, fun i hi => It.frame (o.ok i hi) fun k hk => hx.get k (It.lt (o.ok i hi) hk), o.new, o.dis⟩
theorem Owns.add (o : Owns H0 H L) (hx : Ext H H') (hi : i.holds H') (hf : ∀ k, i.foot k → H.size ≤ k) : Owns H0 H' (i :: L) := by
  have o' := o.more hx
  refine ⟨o'.ext, ?_, ?_, List.pairwise_cons.2 ⟨fun j hj k hk hk' => ?_, o.dis⟩⟩
  · intro j hj; rcases List.mem_cons.1 hj with rfl | hj
    · exact hi
    · exact o'.ok j hj
  · intro j hj; rcases List.mem_cons.1 hj with rfl | hj
    · intro k hk; have := hf k hk; have := o.ext.size; omega
    · exact o.new j hj
  · have := hf k hk; have := It.lt (o.ok j hj) hk'; omega
/-- L' is L with the item i turned to i' -/
inductive Rep (i i' : It) : List It → List It → Prop
  | here {L : List It} : Rep i i' (i :: L) (i' :: L)
  | there {j : It} {L L' : List It} : Rep i i' L L' → Rep i i' (j :: L) (j :: L')
theorem Rep.mem : ∀ {L L' : List It}, Rep i i' L L' → i ∈ L
  | _, _, .here => List.mem_cons_self
  | _, _, .there h => List.mem_cons_of_mem _ h.mem
theorem Rep.mem' : ∀ {L L' : List It}, Rep i i' L L' → ∀ j ∈ L', j = i' ∨ j ∈ L
  | _, _, .here, j, hj => by
    rcases List.mem_cons.1 hj with h | h
    · exact .inl h
    · exact .inr (List.mem_cons_of_mem _ h)
  | _, _, .there h, j, hj => by
    rcases List.mem_cons.1 hj with h' | h'
    · subst h'; exact .inr List.mem_cons_self
    · rcases h.mem' j h' with h'' | h''
      · exact .inl h''
      · exact .inr (List.mem_cons_of_mem _ h'')
theorem Rep.dis {n : Nat} (hf : ∀ k, i'.foot k → i.foot k ∨ n ≤ k) : ∀ {L L' : List It}, Rep i i' L L' → (∀ j ∈ L, ∀ k, j.foot k → k < n) → L.Pairwise (fun i j => ∀ k, i.foot k → ¬ j.foot k) → L'.Pairwise (fun i j => ∀ k, i.foot k → ¬ j.foot k)
  | _, _, .here, hn, hd => by
    rw [List.pairwise_cons] at hd ⊢
    refine ⟨fun j hj k hk hk' => ?_, hd.2⟩
    rcases hf k hk with h | h
    · exact hd.1 j hj k h hk'
    · have := hn j (List.mem_cons_of_mem _ hj) k hk'; omega
  | _, _, .there (j := j) h, hn, hd => by
    rw [List.pairwise_cons] at hd ⊢
    refine ⟨fun x hx k hk hk' => ?_, h.dis hf (fun x hx => hn x (List.mem_cons_of_mem _ hx)) hd.2⟩
    rcases h.mem' x hx with rfl | hx
    · rcases hf k hk' with h' | h'
      · exact hd.1 i h.mem k hk h'
      · have := hn j List.mem_cons_self k hk; omega
    · exact hd.1 x hx k hk hk'
/-- the other items of L stand -/
theorem Rep.rest {P : It → Prop} (hp : P i') : ∀ {L L' : List It}, Rep i i' L L' → (∀ j ∈ L, (∀ k, i.foot k → ¬ j.foot k) → P j) → L.Pairwise (fun i j => ∀ k, i.foot k → ¬ j.foot k) → ∀ j ∈ L', P j
  | _, _, .here, hn, hd, j, hj => by
    rw [List.pairwise_cons] at hd
    rcases List.mem_cons.1 hj with rfl | hj
    · exact hp
    · exact hn j (List.mem_cons_of_mem _ hj) (hd.1 j hj)
  | _, _, .there (j := j') h, hn, hd, j, hj => by
    rw [List.pairwise_cons] at hd
    rcases List.mem_cons.1 hj with rfl | hj
    · exact hn j List.mem_cons_self (fun k hk hk' => hd.1 i h.mem k hk' hk)
    · exact h.rest hp (fun x hx => hn x (List.mem_cons_of_mem _ hx)) hd.2 j hj
/-- an item turns, and only its blocks do -/
theorem Owns.turn (o : Owns H0 H L) (r : Rep i i' L L') (hs : H.size ≤ H'.size) (hne : ∀ k, k < H.size → ¬ i.foot k → H'[k]? = H[k]?) (hi : i'.holds H') (hf : ∀ k, i'.foot k → i.foot k ∨ H.size ≤ k) : Owns H0 H' L' := by
  have hmem := r.mem
  refine ⟨⟨Nat.le_trans o.ext.size hs, fun k hk => ?_⟩, ?_, ?_, r.dis (n := H.size) hf (fun j hj k hk => It.lt (o.ok j hj) hk) o.dis⟩
  · rw [hne k (Nat.lt_of_lt_of_le hk o.ext.size) (fun h => by have := o.new i hmem k h; omega)]
    exact o.ext.get k hk
  · refine r.rest hi (fun j hj hd => It.frame (o.ok j hj) fun k hk => hne k (It.lt (o.ok j hj) hk) fun h => hd k h hk) o.dis
  · intro j hj k hk
    rcases r.mem' j hj with rfl | hj
    · rcases hf k hk with h | h
      · exact o.new i hmem k h
      · have := o.ext.size; omega
    · exact o.new j hj k hk
/-- M is L without the item i -/
inductive Sel (i : It) : List It → List It → Prop
  | here {L : List It} : Sel i (i :: L) L
  | there {j : It} {L M : List It} : Sel i L M → Sel i (j :: L) (j :: M)
theorem Sel.perm : ∀ {L M : List It}, Sel i L M → (i :: M).Perm L
  | _, _, .here => List.Perm.refl _
  | _, _, .there h => (List.Perm.swap ..).trans (h.perm.cons _)
theorem Owns.perm (o : Owns H0 H L) (hs : L'.Perm L) : Owns H0 H L' :=
  ⟨o.ext, fun i hi => o.ok i (hs.mem_iff.1 hi), fun i hi => o.new i (hs.mem_iff.1 hi), by
    refine (hs.symm.pairwise_iff ?_).1 o.dis
    intro a b hab k hk hk'
    exact hab k hk' hk⟩
theorem Owns.front (o : Owns H0 H L) (s : Sel i L M) : Owns H0 H (i :: M) := o.perm s.perm
/-- L' : items of L, in any order -/
inductive Sels : List It → List It → Prop
  | nil {L : List It} : Sels [] L
  | cons {i : It} {L L' M : List It} : Sel i L M → Sels L' M → Sels (i :: L') L
theorem Sels.perm : ∀ {L' L : List It}, Sels L' L → ∃ M, (L' ++ M).Perm L
  | _, L, .nil => ⟨L, List.Perm.refl _⟩
  | _, _, .cons s h => by
    obtain ⟨M, hM⟩ := h.perm
    exact ⟨M, (hM.cons _).trans s.perm⟩
theorem Owns.arr (o : Owns H0 H L) (s : Sels L' L) : Owns H0 H L' := by
  obtain ⟨M, hM⟩ := s.perm
  have o' := o.perm hM
  exact ⟨o'.ext, fun i hi => o'.ok i (List.mem_append_left _ hi), fun i hi => o'.new i (List.mem_append_left _ hi), (List.pairwise_append.1 o'.dis).1⟩
/-- another order of all items, to a common rest -/
inductive SelsT : List It → List It → Prop
  | refl {L : List It} : SelsT L L
  | cons {i : It} {L' M L : List It} : Sel i L M → SelsT L' M → SelsT (i :: L') L
theorem SelsT.perm : ∀ {L' L : List It}, SelsT L' L → L'.Perm L
  | _, _, .refl => List.Perm.refl _
  | _, _, .cons s t => (t.perm.cons _).trans s.perm
theorem Owns.arrT (o : Owns H0 H L) (s : SelsT L' L) : Owns H0 H L' := o.perm s.perm
theorem Owns.sl {v : Value} {sz : Nat} {l : List Value} (o : Owns H0 H L) (h : It.sl v sz l ∈ L) : Sl H v sz l := (o.ok _ h).2.sl (o.ok _ h).1
theorem Owns.newV {v : Value} {sz : Nat} {l : List Value} (o : Owns H0 H L) (h : It.sl v sz l ∈ L) {k : Nat} (hk : blkOf v = some k) : H0.size ≤ k := o.new _ h k hk
theorem Owns.own {v : Value} {sz : Nat} {l : List Value} (o : Owns H0 H L) (h : It.sl v sz l ∈ L) : Own H v sz l := (o.ok _ h).2
theorem Owns.blk {b : Nat} {cs : List Value} {t : TypeId} (o : Owns H0 H L) (h : It.box b cs t ∈ L) : H[b]? = some (.cells cs.toArray t (0, 0)) := o.ok _ h
theorem Owns.thing {T : Thing} (o : Owns H0 H L) (h : It.thing T ∈ L) : T.holds H := o.ok _ h
/-- some of the items -/
theorem Owns.pick (o : Owns H0 H L) (hs : L'.Sublist L) : Owns H0 H L' :=
  ⟨o.ext, fun i hi => o.ok i (hs.subset hi), fun i hi => o.new i (hs.subset hi), o.dis.sublist hs⟩
/-- seen from an older heap -/
theorem Owns.older {A : Heap} (o : Owns H0 H L) (h : Ext A H0) : Owns A H L :=
  ⟨h.trans o.ext, o.ok, fun i hi k hk => Nat.le_trans h.size (o.new i hi k hk), o.dis⟩
/-- own things of a callee become own things -/
theorem Owns.call {L2 : List It} (o : Owns H0 H L) (c : Owns H H' L2) : Owns H0 H' (L2 ++ L) := by
  have o' := o.more c.ext
  refine ⟨o'.ext, ?_, ?_, List.pairwise_append.2 ⟨c.dis, o.dis, fun a ha b hb k hk hk' => ?_⟩⟩
  · intro i hi; rcases List.mem_append.1 hi with h | h
    · exact c.ok i h
    · exact o'.ok i h
  · intro i hi; rcases List.mem_append.1 hi with h | h
    · intro k hk; have := c.new i h k hk; have := o.ext.size; omega
    · exact o.new i h
  · have := c.new a ha k hk; have := It.lt (o.ok b hb) hk'; omega
/-- a slice that is only read, as a thing -/
theorem Sl.frame {v : Value} {sz : Nat} {l : List Value} (h : Sl H v sz l) (hf : ∀ k, blkOf v = some k → H'[k]? = H[k]?) : Sl H' v sz l := by
  rcases h with h | ⟨a, n, cap, rfl, h1, h2, h3⟩
  · exact .inl h
  · refine .inr ⟨a, n, cap, rfl, h1, h2, fun i w hw => ?_⟩
    have hc := h3 i w hw
    have hbl : (a.add i).block = a.block := by unfold Addr.add; split <;> rfl
    unfold cellAt at hc ⊢
    rw [hbl] at hc ⊢
    rw [hf a.block rfl]
    exact hc
theorem Sl.lt {v : Value} {sz : Nat} {l : List Value} {k : Nat} (h : Sl H v sz l) (hl : l ≠ []) (hk : blkOf v = some k) : k < H.size := by
  rcases h with ⟨rfl, h⟩ | ⟨a, n, cap, rfl, h1, h2, h3⟩
  · exact absurd h hl
  · cases l with
    | nil => exact absurd rfl hl
    | cons x l =>
      have hc := h3 0 x rfl
      have hbl : (a.add 0).block = a.block := by unfold Addr.add; split <;> rfl
      simp only [blkOf, Option.some.injEq] at hk
      subst hk
      unfold cellAt at hc
      rw [hbl] at hc
      rcases Nat.lt_or_ge a.block H.size with h' | h'
      · exact h'
      · rw [Array.getElem?_eq_none h'] at hc; cases hc
/-! ### steps -/
section
variable {K : Value → Heap → Prop} {KV : Value → Prop} {e : TypeId} {sz : Nat}
theorem Owns.build0 (o : Owns H0 H L) (sz : Nat) (hz : 0 < sz) (hk : ∀ y H', Owns H0 H' (.sl y sz [] :: L) → K y H') : pBuildSl H e 0 [] [] K := by
  simp only [pBuildSl, pBuild_n, cells_agg]
  exact hk _ _ (o.add (Ext.refl H).push ⟨hz, .inr ⟨H.size, 0, 0, [], rfl, ⟨⟨e, (0, 0), get_push_self, .inl rfl⟩, by simp, by simp⟩⟩⟩ (fun j hj => by simp only [It.foot, blkOf, Option.some.injEq] at hj; omega))
/-- a new slice: its elements' cells vs -/
theorem Owns.build (o : Owns H0 H L) {n : Nat} {zero vs : List Value} {parts : List (Nat × Nat × Value)} (sz : Nat) (hz : 0 < sz) (hval : ∀ K' : Value → Prop, K' (.agg vs.toArray) → pBuild zero parts K') (hn : vs.length = n * sz)
    (hk : ∀ y H', Owns H0 H' (.sl y sz vs :: L) → K y H') : pBuildSl H e n zero parts K := by
  refine hval _ ?_
  simp only [cells_agg]
  exact hk _ _ (o.add (Ext.refl H).push ⟨hz, .inr ⟨H.size, n, n, [], rfl, ⟨⟨e, (0, 0), by rw [List.append_nil]; exact get_push_self, .inl rfl⟩, hn, by simpa using hn⟩⟩⟩ (fun j hj => by simp only [It.foot, blkOf, Option.some.injEq] at hj; omega))
/-- a new slice of one element -/
theorem Owns.build1 (o : Owns H0 H L) {zero : List Value} {x : Value} (hz : 0 < sz) (hzero : zero.length = sz) (hx : x.cells.size = sz) (hk : ∀ y H', Owns H0 H' (.sl y sz x.cells.toList :: L) → K y H') : pBuildSl H e 1 zero [(0, sz, x)] K := by
  refine o.build sz hz (vs := x.cells.toList) (fun K' hK => ?_) (by simp [hx]) hk
  have hp : putL zero 0 x.cells.toList = x.cells.toList := by
    have := putL_all x.cells.toList [] zero (by simp [hzero, hx])
    simpa using this
  rw [pBuild_c, pBuild_n, hp]
  exact ⟨hx, by omega, hK⟩
/-- the zeros of a new slice -/
theorem repL_rep (z : List Value) : ∀ n, repL z n = (List.replicate n z).flatten
  | 0 => rfl
  | n + 1 => by rw [repL, repL_rep z n, List.replicate_succ, List.flatten_cons]
theorem repL_one (z : Value) : ∀ n, repL [z] n = List.replicate n z
  | 0 => rfl
  | n + 1 => by rw [repL, repL_one z n]; rfl
theorem Owns.make (o : Owns H0 H L) {bytes : Nat} {z : List Value} {n : Int} (hz : 0 < z.length) (h0 : 0 ≤ n) (hb : (bytes : Int) * n ≤ 281474976710656) (hn : n ≤ 9223372036854775807)
    (hk : ∀ y H', Owns H0 H' (.sl y z.length (repL z n.toNat) :: L) → K y H') : pMakeSl H e bytes z (.int .i64 n) (.int .i64 n) K := by
  simp only [pMakeSl]
  refine ⟨h0, Int.le_refl _, hb, hn, ?_⟩
  exact hk _ _ (o.add (Ext.refl H).push ⟨hz, .inr ⟨H.size, n.toNat, n.toNat, [], rfl, ⟨⟨e, (0, 0), by rw [List.append_nil]; exact get_push_self, .inl rfl⟩, by rw [repL_len], by simp [repL_len]⟩⟩⟩ (fun j hj => by simp only [It.foot, blkOf, Option.some.injEq] at hj; omega))
theorem Owns.make1 (o : Owns H0 H L) {bytes : Nat} {z : Value} {n : Int} (h0 : 0 ≤ n) (hb : (bytes : Int) * n ≤ 281474976710656) (hn : n ≤ 9223372036854775807)
    (hk : ∀ y H', Owns H0 H' (.sl y 1 (List.replicate n.toNat z) :: L) → K y H') : pMakeSl H e bytes [z] (.int .i64 n) (.int .i64 n) K := by
  refine o.make (by simp) h0 hb hn fun y H' o' => ?_
  rw [repL_one] at o'
  exact hk y H' o'
/-- append to an own slice -/
theorem Owns.append (o : Owns H0 H L) {v x : Value} {bytes m n : Nat} {zero l new : List Value} (hin : Sel (.sl v sz l) L M) (hzero : zero.length = sz) (hx : Sl H x sz new)
    (hl : l.length = n * sz) (hm : new.length = m * sz) (hone : new.all oneCell = true) (hsize : 2 * (n + m) * bytes ≤ 281474976710656)
    (hk : ∀ v' H', Owns H0 H' (.sl v' sz (l ++ new) :: M) → K v' H') : pAppend H e sz bytes zero v x K := by
  have o1 := o.front hin
  obtain ⟨hz, ho⟩ := o1.ok _ List.mem_cons_self
  refine Own.append ho hz hzero (hx.lenV hm hz) hx.cellsOf hl hm hone hsize fun v' H' o' hi hs hb => ?_
  refine hk v' H' (o1.turn Rep.here hs (fun k hk hf => hi k hk hf) ⟨hz, o'⟩ fun k hk => ?_)
  simp only [It.foot] at hk ⊢
  rcases hb with hb | hb
  · left; rw [← hb]; exact hk
  · right; rw [hb, Option.some.injEq] at hk; omega
/-- append to an own slice of one-cell elements -/
theorem Owns.app (o : Owns H0 H L) {v x z : Value} {bytes : Nat} {l new : List Value} (hin : Sel (.sl v 1 l) L M) (hx : Sl H x 1 new)
    (hone : new.all oneCell = true) (hsize : 2 * (l.length + new.length) * bytes ≤ 281474976710656)
    (hk : ∀ v' H', Owns H0 H' (.sl v' 1 (l ++ new) :: M) → K v' H') : pAppend H e 1 bytes [z] v x K :=
  o.append hin rfl hx (Nat.mul_one _).symm (Nat.mul_one _).symm hone hsize hk
theorem Sl.one {v : Value} {l : List Value} (h : Sl H v sz l) : oneCell v = true := by
  rcases h with ⟨rfl, _⟩ | ⟨a, m, cap, rfl, _⟩ <;> rfl
theorem pBuild_one {l : List Value} {o : Nat} {v : Value} {r : List (Nat × Nat × Value)} (hv : oneCell v = true) (ho : o < l.length) (h : pBuild (l.set o v) r KV) : pBuild l ((o, 1, v) :: r) KV := by
  rw [pBuild_c, cells_one hv]
  exact ⟨rfl, by omega, by simpa [putL_cons, putL_nil] using h⟩
theorem all_cons {x : Value} {l : List Value} (hx : oneCell x = true) (hl : l.all oneCell = true) : (x :: l).all oneCell = true := by simp [hx, hl]
theorem pBuild_two {a b x y : Value} (hx : oneCell x = true) (hy : oneCell y = true) (h : KV (.agg #[x, y])) : pBuild [a, b] [(0, 1, x), (1, 1, y)] KV :=
  pBuild_one hx (by simp) (pBuild_one hy (by simp) h)
theorem pBuild_three {a b c x y z : Value} (hx : oneCell x = true) (hy : oneCell y = true) (hz : oneCell z = true) (h : KV (.agg #[x, y, z])) : pBuild [a, b, c] [(0, 1, x), (1, 1, y), (2, 1, z)] KV :=
  pBuild_one hx (by simp) (pBuild_one hy (by simp) (pBuild_one hz (by simp) h))
/-- the address of cell j of a slice -/
def At (v : Value) (j : Nat) (p : Value) : Prop := ∃ a n cap, v = .slice (some a) n cap ∧ p = .pointer (some (a.add j))
theorem Sl.at_ {v : Value} {l : List Value} (h : Sl H v sz l) {n : Nat} (hn : l.length = n * sz) (hz : 0 < sz) {i : Int} (h0 : 0 ≤ i) (h1 : i < (n : Int)) (hk : ∀ p, At v (i.toNat * sz) p → KV p) : pIdxSl sz v (.int .i64 i) KV := by
  rcases h with ⟨rfl, rfl⟩ | ⟨a, m, cap, rfl, h2, h3, h4⟩
  · have := Nat.mul_pos (show 0 < n by omega) hz
    simp only [List.length_nil] at hn
    omega
  · rw [h2] at hn
    have hmn := Nat.eq_of_mul_eq_mul_right hz hn
    rw [pIdxSl_v]
    exact ⟨h0, by omega, hk _ ⟨a, m, cap, rfl, rfl⟩⟩
theorem At.field {v p : Value} {j f : Nat} (h : At v j p) (hk : ∀ q, At v (j + f) q → KV q) : pFieldAddr f p KV := by
  obtain ⟨a, n, cap, rfl, rfl⟩ := h
  rw [pFieldAddr_v]
  exact hk _ ⟨a, n, cap, rfl, by rw [addr_add_add]⟩
theorem At.load {v p w : Value} {j : Nat} {l : List Value} (h : At v j p) (hs : Sl H v sz l) (hw : l[j]? = some w) (hk : KV w) : pLoad H p KV := by
  obtain ⟨a, n, cap, rfl, rfl⟩ := h
  rcases hs with ⟨h, rfl⟩ | ⟨a', m, cap', h, h2, h3, h4⟩
  · simp at hw
  · cases h
    rw [pLoad_cell (h4 j w hw)]; exact hk
theorem At.loadN {v p : Value} {j n : Nat} {l ws : List Value} (h : At v j p) (hs : Sl H v sz l) (hw : (l.drop j).take n = ws) (hn : ws.length = n) (hk : KV (.agg ws.toArray)) : pLoadN H n p KV := by
  obtain ⟨a, c, cap, rfl, rfl⟩ := h
  rcases hs with ⟨h, rfl⟩ | ⟨a', m, cap', h, h2, h3, h4⟩
  · simp at hw
    subst hw
    simp only [List.length_nil] at hn
    subst hn
    exact hk
  · cases h
    subst hw
    exact (h4.part j n).loadN hn hk
theorem setsAt_put {l sp new : List Value} {b j : Nat} {t : TypeId} {fr : Nat × Nat} {N : Nat} (hf : Thawed fr N) (hb : H[b]? = some (.cells (l ++ sp).toArray t fr)) (hone : new.all oneCell = true) (hj : j + new.length ≤ l.length) (hN : (l ++ sp).length = N) :
    setsAt H ⟨b, j, none⟩ 0 new = some (H.setIfInBounds b (.cells (putL l j new ++ sp).toArray t fr)) := by
  rw [setsAt_thaw hf new H j 0 (l ++ sp) hb hone (by rw [List.length_append]; omega) hN]
  congr 4
  rw [Nat.add_zero]
  have hsplit : l = l.take j ++ l.drop j := (List.take_append_drop j l).symm
  have hlj : (l.take j).length = j := by rw [List.length_take]; omega
  have e1 := putL_mid new (l.take j) (l.drop j ++ sp) (by rw [List.length_append, List.length_drop]; omega)
  have e2 := putL_mid new (l.take j) (l.drop j) (by rw [List.length_drop]; omega)
  rw [hlj] at e1 e2
  rw [← List.append_assoc, List.take_append_drop] at e1
  rw [List.take_append_drop] at e2
  rw [e1, e2, List.append_assoc (List.take j l ++ new), List.drop_append_of_le_length (by rw [List.length_drop]; omega)]
/-- cells of an own slice are stored -/
theorem Owns.put (o : Owns H0 H L) {v p : Value} {j : Nat} {l new : List Value} (h : At v j p) (hin : It.sl v sz l ∈ L) (hj : j + new.length ≤ l.length) (hone : new.all oneCell = true)
    (hrep : Rep (.sl v sz l) (.sl v sz (putL l j new)) L L') : ∃ a H', p = .pointer (some a) ∧ setsAt H a 0 new = some H' ∧ Owns H0 H' L' ∧ H'.size = H.size := by
  obtain ⟨hz, ho⟩ := o.ok _ hin
  obtain ⟨a, n, cap, rfl, rfl⟩ := h
  rcases ho with ⟨h, rfl⟩ | ⟨b, n', cap', sp, h, ⟨t, fr, hb, hf⟩, hl, hc⟩
  · cases h
  · cases h
    refine ⟨_, H.setIfInBounds b (.cells (putL l j new ++ sp).toArray t fr), rfl, ?_, ?_, ?_⟩
    · rw [add_mk, Nat.zero_add]; exact setsAt_put hf hb hone hj hc
    · refine o.turn hrep (by simp) (fun k hk hne => get_set_ne (by intro e; subst e; exact hne rfl)) ⟨hz, .inr ⟨b, n, cap, sp, rfl, ⟨⟨t, fr, get_set_self (lt_of_blk hb), hf⟩, ?_, ?_⟩⟩⟩ (fun k hk => .inl hk)
      · rw [putL_len]; exact hl
      · rw [List.length_append, putL_len, ← List.length_append]; exact hc
    · simp
theorem Owns.store (o : Owns H0 H L) {v p x : Value} {j : Nat} {l : List Value} (h : At v j p) (hin : It.sl v sz l ∈ L) (hj : j < l.length) (hx : oneCell x = true)
    (hrep : Rep (.sl v sz l) (.sl v sz (l.set j x)) L L') (hk : ∀ H', Owns H0 H' L' → H'.size = H.size → K undef H') : pStore H p x K := by
  obtain ⟨a, H', rfl, hs, o', hsz⟩ := o.put (new := [x]) h hin (by simp; omega) (by simp [hx]) (by rw [putL_cons, putL_nil]; exact hrep)
  simp only [pStore, hs]
  exact hk H' o' hsz
theorem Owns.storeN (o : Owns H0 H L) {v p : Value} {vs : List Value} {j n : Nat} {l : List Value} (h : At v j p) (hin : It.sl v sz l ∈ L) (hn : vs.length = n) (hj : j + n ≤ l.length) (hx : vs.all oneCell = true)
    (hrep : Rep (.sl v sz l) (.sl v sz (putL l j vs)) L L') (hk : ∀ H', Owns H0 H' L' → H'.size = H.size → K undef H') : pStoreN H n p (.agg vs.toArray) K := by
  subst hn
  obtain ⟨a, H', rfl, hs, o', hsz⟩ := o.put (new := vs) h hin hj hx hrep
  simp only [pStoreN, cells_agg, hs]
  exact ⟨by simp, hk H' o' hsz⟩
/-! boxes -/
theorem Owns.box (o : Owns H0 H L) {v : Value} (hk : ∀ b H', Owns H0 H' (.box b v.cells.toList e :: L) → b = H.size → K (.pointer (some ⟨b, 0, none⟩)) H') : pBox H e v K :=
  hk _ _ (o.add (Ext.refl H).push (show _ = _ from get_push_self) (fun j hj => by simp only [It.foot] at hj; omega)) rfl
theorem Owns.bload (o : Owns H0 H L) {b f : Nat} {cs : List Value} {t : TypeId} {w : Value} (hin : It.box b cs t ∈ L) (hw : cs[f]? = .some w) (hk : KV w) : pLoad H (.pointer (some ⟨b, f, none⟩)) KV :=
  pLoad_l (o.blk hin) hw hk
theorem Owns.bloadN (o : Owns H0 H L) {b n : Nat} {cs : List Value} {t : TypeId} (hin : It.box b cs t ∈ L) (hn : cs.length = n) (hk : KV (.agg cs.toArray)) : pLoadN H n (.pointer (some ⟨b, 0, none⟩)) KV :=
  pLoadN_to (o.blk hin) (by simpa using hn) hk
theorem Owns.bstore (o : Owns H0 H L) {b f : Nat} {cs : List Value} {t : TypeId} {x : Value} (hin : It.box b cs t ∈ L) (hf : f < cs.length) (hx : oneCell x = true)
    (hrep : Rep (.box b cs t) (.box b (cs.set f x) t) L L') (hk : ∀ H', Owns H0 H' L' → H'.size = H.size → K undef H') : pStore H (.pointer (some ⟨b, f, none⟩)) x K := by
  refine pStore_upd (o.blk hin) (by simpa using hf) hx fun H' hs u => hk H' (o.turn hrep u.size (fun k hk hne => u.ne k hk (fun e => hne e.symm)) ?_ (fun k hk => .inl hk)) hs
  show _ = _
  rw [u.at_, List.setIfInBounds_toArray]
theorem Owns.bstoreN (o : Owns H0 H L) {b n : Nat} {cs vs : List Value} {t : TypeId} (hin : It.box b cs t ∈ L) (hn : cs.length = n) (hv : vs.length = n) (hx : vs.all oneCell = true)
    (hrep : Rep (.box b cs t) (.box b vs t) L L') (hk : ∀ H', Owns H0 H' L' → H'.size = H.size → K undef H') : pStoreN H n (.pointer (some ⟨b, 0, none⟩)) (.agg vs.toArray) K := by
  refine pStoreN_upd (o.blk hin) (by simpa using hn) (by simpa using hv) (by simpa using hx) fun H' hs u => hk H' (o.turn hrep u.size (fun k hk hne => u.ne k hk (fun e => hne e.symm)) ?_ (fun k hk => .inl hk)) hs
  exact u.at_
end
end Go.Vc
