/- Slices: what they hold; those that a function has made for itself, and append. -/
import Derived.Test.YtfmbgnchedhneaaDoorVcRow
set_option linter.unusedSimpArgs false
set_option linter.unusedVariables false
namespace Go.Vc
open Go
theorem addr_add_add (a : Addr) (m n : Nat) : (a.add m).add n = a.add (m + n) := by
  unfold Addr.add
  by_cases hm : m = 0
  · subst hm; simp
  · by_cases hn : n = 0
    · subst hn; simp [hm]
    · have : m + n ≠ 0 := by omega
      simp [hm, hn, this, Nat.add_assoc]
/-- cells read from an address on -/
def Reads (H : Heap) (a : Addr) (l : List Value) : Prop := ∀ (i : Nat) (v : Value), l[i]? = some v → cellAt H (a.add i) = some v
theorem Reads.cells {H : Heap} {a : Addr} {l : List Value} (h : Reads H a l) : ∀ n, n ≤ l.length → cellsAt H a n = some (l.take n)
  | 0, _ => by simp [cellsAt]
  | n + 1, hn => by
    have hlt : n < l.length := by omega
    simp only [cellsAt, h.cells n (by omega), h n l[n] (List.getElem?_eq_getElem hlt)]
    rw [List.take_add_one, List.getElem?_eq_getElem hlt]
    rfl
theorem Reads.all {H : Heap} {a : Addr} {l : List Value} (h : Reads H a l) : cellsAt H a l.length = some l := by rw [h.cells _ (Nat.le_refl _), List.take_length]
theorem Reads.ext {H H' : Heap} {a : Addr} {l : List Value} (h : Reads H a l) (hx : Ext H H') : Reads H' a l := fun i v hv => cellAt_ext hx (h i v hv)
theorem Reads.part {H : Heap} {a : Addr} {l : List Value} (h : Reads H a l) (o n : Nat) : Reads H (a.add o) ((l.drop o).take n) := fun i v hv => by
  rw [addr_add_add]
  rw [List.getElem?_take] at hv
  split at hv
  · rw [List.getElem?_drop] at hv; exact h _ _ hv
  · cases hv
/-- what a slice holds, cell by cell -/
def Sl (H : Heap) (v : Value) (sz : Nat) (l : List Value) : Prop :=
  (v = .slice none 0 0 ∧ l = []) ∨ ∃ a n cap, v = .slice (some a) n cap ∧ l.length = n * sz ∧ n ≤ cap ∧ Reads H a l
theorem Sl.ext {H H' : Heap} {v : Value} {sz : Nat} {l : List Value} (h : Sl H v sz l) (hx : Ext H H') : Sl H' v sz l := by
  rcases h with h | ⟨a, n, cap, h1, h2, h3, h4⟩
  · exact .inl h
  · exact .inr ⟨a, n, cap, h1, h2, h3, h4.ext hx⟩
theorem Sl.len {H : Heap} {v : Value} {sz : Nat} {l : List Value} {K : Value → Prop} (h : Sl H v sz l) {n : Nat} (hn : l.length = n * sz) (hz : 0 < sz) (hk : K (.int .i64 (n : Int))) : pLen v K := by
  rcases h with ⟨rfl, rfl⟩ | ⟨a, m, cap, rfl, h2, h3, h4⟩
  · rw [pLen_v]
    have : n = 0 := by
      rcases Nat.eq_zero_or_pos n with h | h
      · exact h
      · have := Nat.mul_pos h hz
        simp only [List.length_nil] at hn
        omega
    subst this; exact hk
  · rw [pLen_v]
    rw [h2] at hn
    rw [Nat.eq_of_mul_eq_mul_right hz hn]; exact hk
theorem Sl.lenV {H : Heap} {v : Value} {sz : Nat} {l : List Value} (h : Sl H v sz l) {n : Nat} (hn : l.length = n * sz) (hz : 0 < sz) : Go.Vc.lenV v = some n := by
  rcases h with ⟨rfl, rfl⟩ | ⟨a, m, cap, rfl, h2, h3, h4⟩
  · have : n = 0 := by
      rcases Nat.eq_zero_or_pos n with h | h
      · exact h
      · have := Nat.mul_pos h hz
        simp only [List.length_nil] at hn
        omega
    subst this; rfl
  · rw [h2] at hn
    rw [Nat.eq_of_mul_eq_mul_right hz hn]; rfl
theorem Sl.cellsOf {H : Heap} {v : Value} {sz : Nat} {l : List Value} (h : Sl H v sz l) : Go.Vc.cellsOf H sz v = some l := by
  rcases h with ⟨rfl, rfl⟩ | ⟨a, m, cap, rfl, h2, h3, h4⟩
  · rfl
  · show cellsAt H a (m * sz) = some l
    rw [← h2]; exact h4.all
/-- the cell of element i, at place f within it -/
theorem Sl.idx {H : Heap} {v : Value} {sz : Nat} {l : List Value} {K : Value → Prop} (h : Sl H v sz l) {n : Nat} (hn : l.length = n * sz) (hz : 0 < sz) {i : Int} (h0 : 0 ≤ i) (h1 : i < (n : Int))
    (hk : ∀ a : Addr, Reads H a ((l.drop (i.toNat * sz)).take sz) → K (.pointer (some a))) : pIdxSl sz v (.int .i64 i) K := by
  rcases h with ⟨rfl, rfl⟩ | ⟨a, m, cap, rfl, h2, h3, h4⟩
  · have := Nat.mul_pos (show 0 < n by omega) hz
    simp only [List.length_nil] at hn
    omega
  · rw [h2] at hn
    have hmn := Nat.eq_of_mul_eq_mul_right hz hn
    rw [pIdxSl_v]
    exact ⟨h0, by omega, hk _ (h4.part _ _)⟩
theorem Reads.load {H : Heap} {a : Addr} {l : List Value} {v : Value} {K : Value → Prop} (h : Reads H a l) (hv : l[0]? = some v) (hk : K v) : pLoad H (.pointer (some a)) K := by
  have := h 0 v hv
  have e : a.add 0 = a := by simp [Addr.add]
  rw [e] at this
  rw [pLoad_cell this]; exact hk
theorem Reads.loadAt {H : Heap} {a : Addr} {l : List Value} {v : Value} {o : Nat} {K : Value → Prop} (h : Reads H a l) (hv : l[o]? = some v) (hk : K v) : pLoad H (.pointer (some (a.add o))) K := by
  rw [pLoad_cell (h o v hv)]; exact hk
theorem Reads.loadN {H : Heap} {a : Addr} {l : List Value} {n : Nat} {K : Value → Prop} (h : Reads H a l) (hn : l.length = n) (hk : K (.agg l.toArray)) : pLoadN H n (.pointer (some a)) K := by
  subst hn
  simp only [pLoadN, h.all]; exact hk
/-! ### slices that a function has made -/
/-- no cell of the block is frozen -/
def Thawed (fr : Nat × Nat) (n : Nat) : Prop := fr = (0, 0) ∨ n ≤ fr.1
/-- the block, the cells that the slice holds, those behind them -/
structure OwnB (H : Heap) (b : Nat) (sz n cap : Nat) (l sp : List Value) : Prop where
  blk : ∃ t fr, H[b]? = some (.cells (l ++ sp).toArray t fr) ∧ Thawed fr (cap * sz)
  len : l.length = n * sz
  cap_ : (l ++ sp).length = cap * sz
def Own (H : Heap) (v : Value) (sz : Nat) (l : List Value) : Prop :=
  (v = .slice none 0 0 ∧ l = []) ∨ ∃ b n cap sp, v = .slice (some ⟨b, 0, none⟩) n cap ∧ OwnB H b sz n cap l sp
/-- the block of an own slice -/
def blkOf : Value → Option Nat
  | .slice (some a) _ _ => some a.block
  | _ => none
theorem Own.sl {H : Heap} {v : Value} {sz : Nat} {l : List Value} (hz : 0 < sz) (h : Own H v sz l) : Sl H v sz l := by
  rcases h with h | ⟨b, n, cap, sp, rfl, ⟨t, fr, hb, _⟩, hl, hc⟩
  · exact .inl h
  · refine .inr ⟨_, n, cap, rfl, hl, ?_, fun i v hv => ?_⟩
    · rw [List.length_append] at hc
      exact Nat.le_of_mul_le_mul_right (by omega) hz
    · rw [add_mk, Nat.zero_add, cellAt_blk hb, List.getElem?_toArray, List.getElem?_append_left (List.getElem?_eq_some_iff.1 hv).1]
      exact hv
theorem Own.ext {H H' : Heap} {v : Value} {sz : Nat} {l : List Value} (h : Own H v sz l) (hx : Ext H H') : Own H' v sz l := by
  rcases h with h | ⟨b, n, cap, sp, rfl, ⟨t, fr, hb, hf⟩, hl, hc⟩
  · exact .inl h
  · exact .inr ⟨b, n, cap, sp, rfl, ⟨⟨t, fr, hx.blk hb, hf⟩, hl, hc⟩⟩
/-- another block turns -/
theorem Own.other {H H' : Heap} {v : Value} {sz : Nat} {l : List Value} {b' : Option Nat} (h : Own H v sz l) (hx : ∀ i, i < H.size → b' ≠ some i → H'[i]? = H[i]?) (hb : blkOf v ≠ b' ∨ blkOf v = none) : Own H' v sz l := by
  rcases h with h | ⟨b, n, cap, sp, rfl, ⟨t, fr, hb', hf⟩, hl, hc⟩
  · exact .inl h
  · refine .inr ⟨b, n, cap, sp, rfl, ⟨⟨t, fr, ?_, hf⟩, hl, hc⟩⟩
    rw [hx b (lt_of_blk hb') (by
      rcases hb with hb | hb
      · exact fun e => hb (by simp [blkOf, e])
      · simp [blkOf] at hb)]
    exact hb'
theorem Own.lt {H : Heap} {v : Value} {sz : Nat} {l : List Value} (h : Own H v sz l) {b : Nat} (hb : blkOf v = some b) : b < H.size := by
  rcases h with ⟨rfl, _⟩ | ⟨b', n, cap, sp, rfl, ⟨t, fr, hb', hf⟩, hl, hc⟩
  · simp [blkOf] at hb
  · simp only [blkOf, Option.some.injEq] at hb
    subst hb; exact lt_of_blk hb'
theorem setsAt_thaw {b : Nat} {t : TypeId} {fr : Nat × Nat} {N : Nat} (hf : Thawed fr N) : ∀ (l : List Value) (H : Heap) (o i : Nat) (cs : List Value), H[b]? = some (.cells cs.toArray t fr) → l.all oneCell = true → o + i + l.length ≤ cs.length → cs.length = N →
    setsAt H ⟨b, o, none⟩ i l = some (H.setIfInBounds b (.cells (putL cs (o + i) l).toArray t fr))
  | [], H, o, i, cs, h, _, _, _ => by simp only [setsAt, putL_nil]; rw [set_self h]
  | v :: r, H, o, i, cs, h, hv, hs, hN => by
    have hv1 : oneCell v = true := by simp only [List.all_cons, Bool.and_eq_true] at hv; exact hv.1
    have hv2 : r.all oneCell = true := by simp only [List.all_cons, Bool.and_eq_true] at hv; exact hv.2
    have hs' : o + i + (r.length + 1) ≤ cs.length := by simpa using hs
    have hc : cellAt H ⟨b, o + i, none⟩ = some (cs[o + i]'(by omega)) := by rw [cellAt_blk h, List.getElem?_toArray, List.getElem?_eq_getElem]
    have hfz : frozenAt H ⟨b, o + i, none⟩ = false := by
      obtain ⟨lo, hi⟩ := fr
      simp only [frozenAt, h]
      rcases hf with hf | hf
      · simp only [Prod.mk.injEq] at hf
        obtain ⟨rfl, rfl⟩ := hf
        simp
      · have : ¬ lo ≤ o + i := by simp only at hf; omega
        simp [this]
    simp only [setsAt, add_mk, hc, hfz, cond_false, hv1, cond_true, setAt_blk h]
    rw [show (Array.setIfInBounds cs.toArray (o + i) v) = (cs.set (o + i) v).toArray by simp]
    rw [setsAt_thaw hf r _ o (i + 1) (cs.set (o + i) v) (get_set_self (lt_of_blk h)) hv2 (by simp; omega) (by simpa using hN), set_set, putL_cons]
    simp [Nat.add_assoc]
theorem putL_mid (l : List Value) : ∀ (a c : List Value), l.length ≤ c.length → putL (a ++ c) a.length l = a ++ l ++ c.drop l.length := by
  induction l with
  | nil => intro a c _; simp [putL_nil]
  | cons v r ih =>
    intro a c h
    match c, h with
    | x :: c, h =>
      rw [putL_cons, show (a ++ x :: c).set a.length v = (a ++ [v]) ++ c by simp, show a.length + 1 = (a ++ [v]).length by simp, ih (a ++ [v]) c (by simpa using h)]
      simp
theorem repL_len (z : List Value) : ∀ n, (repL z n).length = n * z.length
  | 0 => by simp [repL]
  | n + 1 => by rw [repL, List.length_append, repL_len z n, Nat.succ_mul, Nat.add_comm]
/-- append to an own slice: what was in it and what comes; no other block turns -/
theorem Own.append {H : Heap} {v x : Value} {sz bytes m n : Nat} {e : TypeId} {zero l new : List Value} {K : Value → Heap → Prop} (h : Own H v sz l) (hz : 0 < sz) (hzero : zero.length = sz) (hlen : lenV x = some m) (hcells : cellsOf H sz x = some new)
    (hl : l.length = n * sz) (hm : new.length = m * sz) (hone : new.all oneCell = true) (hsize : 2 * (n + m) * bytes ≤ 281474976710656)
    (hk : ∀ v' H', Own H' v' sz (l ++ new) → (∀ i, i < H.size → blkOf v ≠ some i → H'[i]? = H[i]?) → H.size ≤ H'.size → (blkOf v' = blkOf v ∨ blkOf v' = some H.size) → K v' H') : pAppend H e sz bytes zero v x K := by
  rcases h with ⟨rfl, rfl⟩ | ⟨b, n', cap, sp, rfl, ⟨t, fr, hb, hf⟩, hl', hc⟩
  · have hn0 : n = 0 := by
      rcases Nat.eq_zero_or_pos n with h | h
      · exact h
      · have := Nat.mul_pos h hz
        simp only [List.length_nil] at hl
        omega
    subst hn0
    simp only [pAppend, hlen, hcells]
    refine ⟨fun hle => ?_, fun hlt => ?_⟩
    · have hm0 : m = 0 := by omega
      subst hm0
      have : new = [] := by simpa using hm
      subst this
      exact hk _ H (.inl ⟨rfl, rfl⟩) (fun _ _ _ => rfl) (Nat.le_refl _) (.inl rfl)
    · refine ⟨by simpa using hsize, ?_⟩
      simp only [cellsOf, List.nil_append]
      intro c hc
      refine hk _ _ (.inr ⟨H.size, 0 + m, c, repL zero (c - (0 + m)), rfl, ⟨⟨e, (0, 0), get_push_self, .inl rfl⟩, by simpa using hm, ?_⟩⟩) (fun i hi _ => get_push_lt hi) (by simp) (.inr rfl)
      simp only [List.nil_append]
      rw [List.length_append, repL_len, hm, hzero, ← Nat.add_mul]
      congr 1; omega
  · have hnn : n' = n := Nat.eq_of_mul_eq_mul_right hz (hl'.symm.trans hl)
    subst hnn
    simp only [pAppend, hlen, hcells]
    refine ⟨fun hle => ?_, fun hlt => ?_⟩
    · have hsp : new.length ≤ sp.length := by
        rw [List.length_append] at hc
        have := Nat.mul_le_mul_right sz hle
        rw [Nat.add_mul] at this
        omega
      simp only [add_mk, Nat.zero_add]
      rw [setsAt_thaw hf new H (n' * sz) 0 (l ++ sp) hb hone (by rw [List.length_append]; omega) hc]
      simp only [Nat.add_zero]
      rw [← hl', putL_mid new l sp hsp]
      refine hk _ _ (.inr ⟨b, n' + m, cap, sp.drop new.length, rfl, ⟨⟨t, fr, get_set_self (lt_of_blk hb), hf⟩, ?_, ?_⟩⟩) (fun i hi hne => ?_) (by simp) (.inl rfl)
      · rw [List.length_append, hl', hm, Nat.add_mul]
      · rw [List.length_append, List.length_append, List.length_drop]
        rw [List.length_append] at hc
        omega
      · exact get_set_ne (by intro e; subst e; simp [blkOf] at hne)
    · refine ⟨hsize, ?_⟩
      have hr : cellsOf H sz (.slice (some ⟨b, 0, none⟩) n' cap) = some l := by
        have := (Own.sl hz (.inr ⟨b, n', cap, sp, rfl, ⟨⟨t, fr, hb, hf⟩, hl', hc⟩⟩ : Own H (.slice (some ⟨b, 0, none⟩) n' cap) sz l)).cellsOf
        exact this
      rw [hr]
      intro c hc2
      refine hk _ _ (.inr ⟨H.size, n' + m, c, repL zero (c - (n' + m)), rfl, ⟨⟨e, (0, 0), get_push_self, .inl rfl⟩, ?_, ?_⟩⟩) (fun i hi _ => get_push_lt hi) (by simp) (.inr rfl)
      · rw [List.length_append, hl', hm, Nat.add_mul]
      · rw [List.length_append, List.length_append, repL_len, hl', hm, hzero, ← Nat.add_mul, ← Nat.add_mul]
        congr 1; omega
/-- append(l, x) -/
theorem Own.append1 {H : Heap} {v x : Value} {sz bytes n : Nat} {e : TypeId} {zero l : List Value} {K : Value → Heap → Prop} (h : Own H v sz l) (hz : 0 < sz) (hzero : zero.length = sz) (hx : x.cells.size = sz) (hone : x.cells.toList.all oneCell = true)
    (hl : l.length = n * sz) (hsize : 2 * (n + 1) * bytes ≤ 281474976710656)
    (hk : ∀ v' H', Own H' v' sz (l ++ x.cells.toList) → (∀ i, i < H.size → blkOf v ≠ some i → H'[i]? = H[i]?) → H.size ≤ H'.size → (∀ k, blkOf v' = some k → blkOf v = some k ∨ H.size ≤ k) → K v' H') :
    pBuildSl H e 1 zero [(0, sz, x)] fun y H1 => pAppend H1 e sz bytes zero v y K := by
  have hp : putL zero 0 x.cells.toList = x.cells.toList := by
    have := putL_all x.cells.toList [] zero (by simp [hzero, hx])
    simpa using this
  simp only [pBuildSl, pBuild_c, pBuild_n, hp, cells_agg]
  refine ⟨hx, by omega, ?_⟩
  have e1 : Ext H (H.push (.cells x.cells.toList.toArray e)) := (Ext.refl H).push
  have hr : Reads (H.push (.cells x.cells.toList.toArray e)) ⟨H.size, 0, none⟩ x.cells.toList := fun i w hw => by
    rw [add_mk, Nat.zero_add, cellAt_blk get_push_self, List.getElem?_toArray]; exact hw
  have hc : Go.Vc.cellsOf (H.push (.cells x.cells.toList.toArray e)) sz (.slice (some ⟨H.size, 0, none⟩) 1 1) = some x.cells.toList := by
    have := hr.all
    rw [show x.cells.toList.length = 1 * sz by simp [hx]] at this
    exact this
  refine Own.append (h.ext e1) hz hzero (m := 1) rfl hc hl (by simp [hx]) hone hsize fun v' H' ho hi hs hb => ?_
  refine hk v' H' ho (fun i hil hne => ?_) (by rw [Array.size_push] at hs; omega) (fun k hk' => ?_)
  · rw [hi i (by rw [Array.size_push]; omega) hne]; exact get_push_lt hil
  · rcases hb with hb | hb
    · left; rw [← hb]; exact hk'
    · right; rw [hb, Option.some.injEq, Array.size_push] at hk'; omega
/-- append to an own slice: what was in it and what comes; no other block turns -/
theorem ext_of_own {A H H' : Heap} {v : Value} (hx : Ext A H) (hv : ∀ k, blkOf v = some k → A.size ≤ k) (hi : ∀ i, i < H.size → blkOf v ≠ some i → H'[i]? = H[i]?) (hs : H.size ≤ H'.size) : Ext A H' :=
  ⟨Nat.le_trans hx.size hs, fun i hil => by
    have := hx.size
    rw [hi i (by omega) (fun e => by have := hv i e; omega)]; exact hx.get i hil⟩
/-- a string's bytes, as an own slice -/
theorem own_bytes {H : Heap} {e : TypeId} {l : List UInt8} {K : Value → Heap → Prop} (hk : ∀ v H', Own H' v 1 (l.map byteV) → Ext H H' → blkOf v = some H.size → K v H') : pBytes H e (str l) K := by
  simp only [pBytes, bys_mk]
  intro cap hc
  refine hk _ _ (.inr ⟨H.size, l.length, cap, List.replicate (cap - l.length) (.int .u8 0), rfl, ⟨⟨e, _, get_push_self, .inr (by simp)⟩, by simp, by simp; omega⟩⟩) (Ext.refl H).push rfl
theorem bytesOf_byteV : ∀ l : List UInt8, bytesOf (l.map byteV) = some l
  | [] => rfl
  | b :: r => by
    simp only [List.map_cons, bytesOf, bytesOf_byteV r]
    congr 2
    simp
/-- bytes as a string -/
theorem Sl.str {H : Heap} {v : Value} {l : List UInt8} {K : Value → Prop} (h : Sl H v 1 (l.map byteV)) (hk : K (str l)) : pStrOf H v K := by
  rcases h with ⟨rfl, hl⟩ | ⟨a, n, cap, rfl, h2, h3, h4⟩
  · have : l = [] := by simpa using hl
    subst this
    exact hk
  · simp only [List.length_map, Nat.mul_one] at h2
    simp only [pStrOf]
    have := h4.all
    rw [List.length_map, h2] at this
    rw [this]
    simp only [bytesOf_byteV]
    exact hk
/-- a part of a slice -/
theorem Sl.cut {H : Heap} {v : Value} {sz : Nat} {l : List Value} {K : Value → Prop} (h : Sl H v sz l) (hz : 0 < sz) {n lo hi : Nat} (hn : l.length = n * sz) (h1 : lo ≤ hi) (h2 : hi ≤ n) (hk : ∀ v', Sl H v' sz ((l.drop (lo * sz)).take ((hi - lo) * sz)) → K v') {x y : Option Value}
    (hx : x = some (.int .i64 (lo : Int)) ∨ (x = none ∧ lo = 0)) (hy : y = some (.int .i64 (hi : Int)) ∨ (y = none ∧ hi = n)) : pSlSl sz v x y K := by
  have hc : ∀ (c : Nat) (Kb : Nat → Nat → Prop), n ≤ c → Kb lo hi → pBounds n c x y Kb := by
    intro c Kb hnc hk
    rcases hx with rfl | ⟨rfl, rfl⟩ <;> rcases hy with rfl | ⟨rfl, rfl⟩
    · rw [pBounds_11]; exact ⟨by omega, by omega, by omega, by omega, by simpa using hk⟩
    · rw [pBounds_10]; exact ⟨by omega, by omega, by simpa using hk⟩
    · rw [pBounds_01]; exact ⟨by omega, by omega, by simpa using hk⟩
    · rw [pBounds_00]; exact hk
  rcases h with ⟨rfl, rfl⟩ | ⟨a, m, cap, rfl, hm, hcap, hr⟩
  · have hn0 : n = 0 := by
      rcases Nat.eq_zero_or_pos n with h | h
      · exact h
      · have := Nat.mul_pos h hz
        simp only [List.length_nil] at hn
        omega
    subst hn0
    have : hi = 0 := by omega
    subst this
    have : lo = 0 := by omega
    subst this
    rw [pSlSl_v]
    refine hc 0 _ (Nat.le_refl _) ?_
    exact hk _ (.inl ⟨by simp, by simp⟩)
  · have hmn := Nat.eq_of_mul_eq_mul_right hz (hm.symm.trans hn)
    subst hmn
    rw [pSlSl_v]
    refine hc cap _ hcap ?_
    refine hk _ (.inr ⟨if cap = lo then a else a.add (lo * sz), hi - lo, cap - lo, by split <;> rfl, ?_, by omega, ?_⟩)
    · rw [List.length_take, List.length_drop, hm]
      have : (hi - lo) * sz ≤ m * sz - lo * sz := by
        rw [← Nat.sub_mul]; exact Nat.mul_le_mul_right sz (by omega)
      omega
    · split
      · rename_i he
        subst he
        have : hi - cap = 0 := by omega
        rw [this, Nat.zero_mul, List.take_zero]
        intro i w hw; simp at hw
      · exact hr.part _ _
/-- an element of one cell is stored -/
theorem Own.store {H : Heap} {v x : Value} {l : List Value} {K : Value → Heap → Prop} (h : Own H v 1 l) (hx : oneCell x = true) {i : Int} (h0 : 0 ≤ i) (h1 : i < (l.length : Int))
    (hk : ∀ H', Own H' v 1 (l.set i.toNat x) → (∀ j, j < H.size → blkOf v ≠ some j → H'[j]? = H[j]?) → H'.size = H.size → K undef H') : pIdxSl 1 v (.int .i64 i) fun p => pStore H p x K := by
  rcases h with ⟨rfl, rfl⟩ | ⟨b, n, cap, sp, rfl, ⟨t, fr, hb, hf⟩, hl, hc⟩
  · simp only [List.length_nil] at h1; omega
  · rw [pIdxSl_v]
    refine ⟨h0, by omega, ?_⟩
    rw [Nat.mul_one, add_mk, Nat.zero_add]
    have hlt : i.toNat < (l ++ sp).length := by rw [List.length_append]; omega
    have hs := setsAt_thaw hf [x] H i.toNat 0 (l ++ sp) hb (by simp [hx]) (by simp only [List.length_cons, List.length_nil]; omega) hc
    simp only [pStore, hs, Nat.add_zero, putL_cons, putL_nil]
    refine hk _ (.inr ⟨b, n, cap, sp, rfl, ⟨⟨t, fr, ?_, hf⟩, by simpa using hl, by simpa using hc⟩⟩) (fun j hj hne => get_set_ne (by intro e; subst e; simp [blkOf] at hne)) (by simp)
    rw [get_set_self (lt_of_blk hb), List.set_append_left _ _ (by omega)]
/-- an own slice of zeros -/
theorem own_make {H : Heap} {e : TypeId} {bytes : Nat} {z : Value} {n : Int} {K : Value → Heap → Prop} (h0 : 0 ≤ n) (hb : (bytes : Int) * n ≤ 281474976710656) (hn : n ≤ 9223372036854775807)
    (hk : ∀ v H', Own H' v 1 (List.replicate n.toNat z) → Ext H H' → H'.size = H.size + 1 → blkOf v = some H.size → K v H') : pMakeSl H e bytes [z] (.int .i64 n) (.int .i64 n) K := by
  have hr : ∀ k, repL [z] k = List.replicate k z := by
    intro k
    induction k with
    | zero => rfl
    | succ k ih => rw [repL, ih]; rfl
  simp only [pMakeSl]
  refine ⟨h0, Int.le_refl _, hb, hn, ?_⟩
  rw [hr]
  exact hk _ _ (.inr ⟨H.size, n.toNat, n.toNat, [], rfl, ⟨⟨e, (0, 0), by rw [List.append_nil]; exact get_push_self, .inl rfl⟩, by simp, by simp⟩⟩) (Ext.refl H).push (by simp) rfl
/-- a slice of one element -/
theorem own_build1 {H : Heap} {e : TypeId} {sz : Nat} {zero : List Value} {x : Value} {K : Value → Heap → Prop} (hzero : zero.length = sz) (hx : x.cells.size = sz)
    (hk : ∀ y H', Sl H' y sz x.cells.toList → Ext H H' → blkOf y = some H.size → K y H') : pBuildSl H e 1 zero [(0, sz, x)] K := by
  have hp : putL zero 0 x.cells.toList = x.cells.toList := by
    have := putL_all x.cells.toList [] zero (by simp [hzero, hx])
    simpa using this
  simp only [pBuildSl, pBuild_c, pBuild_n, hp, cells_agg]
  refine ⟨hx, by omega, ?_⟩
  refine hk _ _ (.inr ⟨_, 1, 1, rfl, by simp [hx], Nat.le_refl _, fun i w hw => ?_⟩) (Ext.refl H).push ?_
  · rw [add_mk, Nat.zero_add, cellAt_blk get_push_self, List.getElem?_toArray]; exact hw
  · rfl
/-- another block turns -/
theorem Sl.other {H H' : Heap} {v : Value} {sz : Nat} {l : List Value} {b' : Option Nat} (h : Sl H v sz l) (hx : ∀ i, i < H.size → b' ≠ some i → H'[i]? = H[i]?) (hb : blkOf v ≠ b' ∨ blkOf v = none) : Sl H' v sz l := by
  rcases h with h | ⟨a, n, cap, rfl, h1, h2, h3⟩
  · exact .inl h
  · refine .inr ⟨a, n, cap, rfl, h1, h2, fun i w hw => ?_⟩
    have hc := h3 i w hw
    have hbl : (a.add i).block = a.block := by unfold Addr.add; split <;> rfl
    unfold cellAt at hc ⊢
    rw [hbl] at hc ⊢
    have hl : a.block < H.size := by
      rcases Nat.lt_or_ge a.block H.size with h' | h'
      · exact h'
      · rw [Array.getElem?_eq_none h'] at hc; cases hc
    rw [hx a.block hl (by
      rcases hb with hb | hb
      · exact fun e => hb (by rw [e]; rfl)
      · simp [blkOf] at hb)]
    exact hc
/-- two own slices, apart from each other and from what was there -/
structure Two2 (sz : Nat) (H0 H : Heap) (a b : Value) (la lb : List Value) : Prop where
  oa : Own H a sz la
  ob : Own H b sz lb
  ext : Ext H0 H
  fa : ∀ k, blkOf a = some k → H0.size ≤ k
  fb : ∀ k, blkOf b = some k → H0.size ≤ k
  sep : ∀ k, blkOf a = some k → blkOf b ≠ some k
theorem Two2.symm {sz : Nat} {H0 H : Heap} {a b : Value} {la lb : List Value} (h : Two2 sz H0 H a b la lb) : Two2 sz H0 H b a lb la :=
  ⟨h.ob, h.oa, h.ext, h.fb, h.fa, fun k hk hk' => h.sep k hk' hk⟩
theorem Two2.more {sz : Nat} {H0 H H' : Heap} {a b : Value} {la lb : List Value} (h : Two2 sz H0 H a b la lb) (hx : Ext H H') : Two2 sz H0 H' a b la lb :=
  ⟨h.oa.ext hx, h.ob.ext hx, h.ext.trans hx, h.fa, h.fb, h.sep⟩
theorem Two2.step {sz : Nat} {H0 H H' : Heap} {a b a' : Value} {la lb la' : List Value} (h : Two2 sz H0 H a b la lb) (o : Own H' a' sz la') (hi : ∀ i, i < H.size → blkOf a ≠ some i → H'[i]? = H[i]?) (hs : H.size ≤ H'.size) (hk : blkOf a' = blkOf a ∨ blkOf a' = some H.size) : Two2 sz H0 H' a' b la' lb := by
  refine ⟨o, h.ob.other hi ?_, ext_of_own h.ext h.fa hi hs, fun k e => ?_, h.fb, fun k e e' => ?_⟩
  · cases hb : blkOf b with
    | none => exact .inr rfl
    | some k => exact .inl fun e => h.sep k e.symm hb
  · rcases hk with hk | hk
    · exact h.fa k (hk ▸ e)
    · rw [hk, Option.some.injEq] at e; have := h.ext.size; omega
  · rcases hk with hk | hk
    · exact h.sep k (hk ▸ e) e'
    · rw [hk, Option.some.injEq] at e; have := h.ob.lt e'; omega
/-- append one element to the first of two -/
theorem Two2.append {sz bytes n : Nat} {H0 H : Heap} {a b y : Value} {la lb new zero : List Value} {e : TypeId} {K : Value → Heap → Prop} (h : Two2 sz H0 H a b la lb) (hz : 0 < sz) (hzero : zero.length = sz) (hy : Sl H y sz new) (hn : new.length = 1 * sz) (hone : new.all oneCell = true)
    (hl : la.length = n * sz) (hsize : 2 * (n + 1) * bytes ≤ 281474976710656) (hk : ∀ a' H', Two2 sz H0 H' a' b (la ++ new) lb → (∀ i, i < H.size → blkOf a ≠ some i → H'[i]? = H[i]?) → K a' H') : pAppend H e sz bytes zero a y K :=
  Own.append h.oa hz hzero (hy.lenV hn hz) hy.cellsOf hl hn hone hsize fun a' H' o i s k => hk a' H' (h.step o i s k) i
end Go.Vc
