/- The rules of XVcDefs for operations that may change memory. -/
import Derived.Test.YtfmbgnchedhneaaDoorVcSoundM
namespace Go.Vc
open Go
set_option linter.unusedSimpArgs false
set_option linter.unusedVariables false
/-- what is behind an operation -/
def after (P : Program) (K : Value → Heap → Prop) (w : World) : Result Next → Prop
  | .ok (.value v) w' => Rest w w' ∧ K v w'.heap
  | .ok .skip w' => Rest w w' ∧ K undef w'.heap
  | .ok (.enter f args) w' => Rest w w' ∧ CallsH P f args w'.heap K
  | _ => False
section
variable {P : Program} {H : Heap} {K : Value → Heap → Prop}
/-- what an operation that changes memory comes to -/
def ERun (P : Program) (s : Sem Value) (H : Heap) (K : Value → Heap → Prop) : Prop := ∀ w : World, w.heap = H → ∃ v w', s.run P w = .ok v w' ∧ Rest w w' ∧ K v w'.heap
def URun (P : Program) (s : Sem Unit) (H : Heap) (K : Value → Heap → Prop) : Prop := ∀ w : World, w.heap = H → ∃ w', s.run P w = .ok () w' ∧ Rest w w' ∧ K undef w'.heap
theorem ERun.exec {o : Oper} {ρ : Operand → Value} {s : Sem Value} (he : execOp ρ o = (do pure (.value (← s)))) (h : ERun P s H K) : ∀ w : World, w.heap = H → after P K w ((execOp ρ o).run P w) := by
  intro w hw
  obtain ⟨v, w', hr, hk⟩ := h w hw
  rw [he]; simpa [hr, after] using hk
theorem URun.exec {o : Oper} {ρ : Operand → Value} {s : Sem Unit} (he : execOp ρ o = (do s; pure .skip)) (h : URun P s H K) : ∀ w : World, w.heap = H → after P K w ((execOp ρ o).run P w) := by
  intro w hw
  obtain ⟨w', hr, hk⟩ := h w hw
  rw [he]; simpa [hr, after] using hk
theorem pStore_run {t : TypeId} {i : TypeInfo} {x v : Value} (hi : P.info? t = some i) (h1 : Nat.beq i.size 1 = true) (h : pStore H x v K) : URun P (Instr.storeAt t x v) H K := by
  cases x <;> (try simp only [pStore] at h)
  rename_i a
  cases a <;> (try simp only [pStore] at h)
  rename_i a
  split at h
  · rename_i H' hs
    intro w hw
    subst hw
    obtain ⟨w', hr, hw', hh⟩ := run_storeCells_at (P := P) hs
    have hv : oneCell v = true := by
      simp only [setsAt] at hs
      split at hs
      · cases hf : frozenAt w.heap (a.add 0) with
        | true => rw [hf] at hs; simp at hs
        | false =>
          rw [hf] at hs
          simp only [cond_false] at hs
          cases h2 : oneCell v with
          | true => rfl
          | false => rw [h2] at hs; simp at hs
      · simp at hs
    refine ⟨w', ?_, hw', by rw [hh]; exact h⟩
    have hs1 : i.size = 1 := Nat.eq_of_beq_eq_true h1
    simp [Instr.storeAt, Instr.sureAddr, storeVar, run_size hi, cells_one hv, hs1, hr]
  · exact h.elim
theorem pStoreN_run {t : TypeId} {i : TypeInfo} {x v : Value} (hi : P.info? t = some i) (h : pStoreN H i.size x v K) : URun P (Instr.storeAt t x v) H K := by
  cases x <;> (try simp only [pStoreN] at h)
  rename_i a
  cases a <;> (try simp only [pStoreN] at h)
  rename_i a
  obtain ⟨hc, h⟩ := h
  split at h
  · rename_i H' hs
    intro w hw
    subst hw
    obtain ⟨w', hr, hw', hh⟩ := run_storeCells_at (P := P) hs
    refine ⟨w', ?_, hw', by rw [hh]; exact h⟩
    simp [Instr.storeAt, Instr.sureAddr, storeVar, run_size hi, hc, hr]
  · exact h.elim
theorem pBox_run {e : TypeId} {v : Value} (h : pBox H e v K) : ERun P (Instr.box e v) H K := by
  intro w hw
  subst hw
  exact ⟨_, _, rfl, ⟨rfl, rfl⟩, h⟩
theorem pAlloc_run {e : TypeId} {z : Value} (hz : zeroT P e = some z) (h : pBox H e z K) : ERun P (Instr.alloc e true (.tuple #[])) H K := by
  intro w hw
  subst hw
  obtain ⟨i, hi, hz'⟩ := zeroT_some hz
  refine ⟨.pointer (some ⟨w.heap.size, 0, none⟩), { w with heap := w.heap.push (.cells z.cells e) }, ?_, ⟨rfl, rfl⟩, h⟩
  simp [Instr.alloc, run_zero hi hz', newVar, newRow]
theorem repL_range (z : List Value) (hz : 0 < z.length) : ∀ n : Nat, ((List.range (n * z.length)).map fun i => z.getD (i % z.length) undef) = repL z n
  | 0 => by simp [repL]
  | n + 1 => by
    have h1 : (n + 1) * z.length = z.length + n * z.length := by rw [Nat.succ_mul, Nat.add_comm]
    rw [h1, List.range_add, List.map_append, repL, ← repL_range z hz n]
    congr 1
    · apply List.ext_getElem (by simp)
      intro i h1 h2
      simp at h1
      simp [Nat.mod_eq_of_lt h1, List.getD_eq_getElem?_getD, h1]
    · simp [List.map_map, Function.comp_def, Nat.add_mod_left]
theorem rows_repL {z : Value} (hz : 1 ≤ (cellsL z).length) (n : Nat) : (Array.range (n * (cellsL z).length)).map (fun i => z.cells[i % z.cells.size]!) = (repL (cellsL z) n).toArray := by
  rw [← repL_range _ hz n]
  apply Array.ext'
  have hs : z.cells.size = (cellsL z).length := by rw [← cellsL_cells]; simp
  simp only [Array.toList_map, Array.toList_range]
  apply List.map_congr_left
  intro i _
  rw [hs, ← cellsL_cells]
  have hlt : i % (cellsL z).length < (cellsL z).length := Nat.mod_lt _ (by omega)
  simp [getElem!_def, List.getD_eq_getElem?_getD, hlt]
theorem wrap64_id {n : Int} (h0 : 0 ≤ n) (h1 : n ≤ 9223372036854775807) : IntKind.i64.wrap n = n := by
  simp [IntKind.wrap, IntKind.bits, IntKind.signed]
  omega
theorem pMakeSl_run {t e : TypeId} {i : TypeInfo} {z l c : Value} (ht : P.underlying t = some (.slice e)) (hi : P.info? e = some i) (hz : zeroT P e = some z)
    (hs : (cellsL z).length = i.size) (h1 : 1 ≤ i.size) (h : pMakeSl H e i.bytes (cellsL z) l c K) : ERun P (Instr.makeSlice t l c) H K := by
  unfold pMakeSl at h
  split at h
  · rename_i n m
    obtain ⟨h0, hnm, hb, hm, hk⟩ := h
    intro w hw
    subst hw
    obtain ⟨i', hi', hz'⟩ := zeroT_some hz
    obtain rfl : i' = i := by rw [hi] at hi'; exact (Option.some.inj hi').symm
    have wn := wrap64_id h0 (by omega)
    have wm := wrap64_id (n := m) (by omega) hm
    have hb' : ¬ ((i'.bytes : Int) * m > 2 ^ 48) := by omega
    have hno : (decide (m < 0) || decide ((i'.bytes : Int) * m > 2 ^ 48) || decide (n < 0) || decide (n > m)) = false := by
      simp only [Bool.or_eq_false_iff, decide_eq_false_iff_not]
      omega
    refine ⟨_, { w with heap := w.heap.push (.cells (repL (cellsL z) m.toNat).toArray e) }, ?_, ⟨rfl, rfl⟩, hk⟩
    simp only [Instr.makeSlice, Sem.run_bind, run_und ht, Result.andThen_ok, asInt, asIntOf, Sem.run_pure, run_info hi, wn, wm, Sem.run_ite, run_askRoom, run_size hi, run_zero hi hz']
    rw [if_neg (by simp only [Bool.or_eq_true, decide_eq_true_eq]; omega)]
    by_cases h0m : m.toNat * i'.size = 0
    · have : m.toNat = 0 := by rcases Nat.mul_eq_zero.1 h0m with h | h; exact h; omega
      rw [if_pos h0m]
      simp [this, newRow, repL, Array.range_zero']
    · rw [if_neg h0m]
      rw [← hs] at *
      have := rows_repL (z := z) (by omega) m.toNat
      simp [newRow, this]
  · exact h.elim
theorem pBuildSl_run {t e : TypeId} {i : TypeInfo} {z : Value} {len : Nat} {vs : List (Nat × Value)} (ht : P.underlying t = some (.slice e)) (hi : P.info? e = some i) (hz : zeroT P e = some z)
    (hl : len * i.size ≤ 16777216) (hs : (cellsL z).length = i.size) (h1 : 1 ≤ i.size) (h : pBuildSl H e len (repL (cellsL z) len) (partsE i.size vs) K) : ERun P (Instr.buildSlice t len vs.toArray) H K := by
  intro w hw
  subst hw
  obtain ⟨i', hi', hz'⟩ := zeroT_some hz
  obtain rfl : i' = i := by rw [hi] at hi'; exact (Option.some.inj hi').symm
  obtain ⟨cs, hc, hk⟩ := pBuild_fill (places := fun j => some (j * i'.size, i'.size)) _ vs (repL (cellsL z) len) (partsE_get vs) h
  refine ⟨_, { w with heap := w.heap.push (.cells cs e) }, ?_, ⟨rfl, rfl⟩, hk⟩
  simp only [Instr.buildSlice, Sem.run_bind, run_und ht, Result.andThen_ok, run_size hi, Sem.run_ite]
  rw [if_neg (by omega)]
  by_cases h0 : len * i'.size = 0
  · have : len = 0 := by rcases Nat.mul_eq_zero.1 h0 with h | h; exact h; omega
    subst this
    simp only [repL] at hc
    simp [newRow, Array.range_zero', hc]
  · rw [if_neg h0]
    have hr := rows_repL (z := z) (by omega) len
    rw [hs] at hr
    simp only [Sem.run_bind, run_zero hi hz', Result.andThen_ok, Sem.run_pure, hr, hc]
    simp [newRow]
theorem pBytes_run {s t e : TypeId} {x : Value} (hs : P.underlying s = some .string) (ht : P.underlying t = some (.slice e)) (he : P.underlying e = some (.int .u8)) (h : pBytes H e x K) : ERun P (convert s t x) H K := by
  cases x <;> simp only [pBytes] at h
  rename_i b
  intro w hw
  subst hw
  let c := (Question.appendCap b.size 0 e).cut (w.tape w.drawn (Question.appendCap b.size 0 e))
  have hc : b.size ≤ c := Nat.le_add_right _ _
  have hk := h c (by rw [bys_length]; exact hc)
  rw [bys_length] at hk
  have hcell : ((bys b).map byteV ++ List.replicate (c - b.size) (Value.int .u8 0)).toArray = (b.data.map fun b => Value.int .u8 b.toNat) ++ Array.replicate (c - b.size) (.int .u8 0) := by
    cases b
    apply Array.ext'
    simp [bys]
  have hsz : ((bys b).map byteV ++ List.replicate (c - b.size) (Value.int .u8 0)).length = c := by
    simp [bys_length]; omega
  refine ⟨.slice (some ⟨w.heap.size, 0, none⟩) b.size c, { w with drawn := w.drawn + 1, heap := w.heap.push (.cells ((bys b).map byteV ++ List.replicate (c - b.size) (Value.int .u8 0)).toArray e (c, c + 1)) }, ?_, ⟨rfl, rfl⟩, hk⟩
  have hf : ∀ q : Question, q = .appendCap b.size 0 e → q.forced = false := fun q hq => by subst hq; rfl
  simp only [convert, Sem.run_bind, run_und hs, run_und ht, run_und he, Result.andThen_ok, Conv.stringToBytes, run_choose, hf _ rfl, Bool.false_eq_true, if_false, newRow, run_newObj, Sem.run_pure, markStringish, run_shape]
  rw [← hcell]
  simp only [World.shape?, Array.getElem?_push_size, List.size_toArray, hsz, Sem.run_bind, run_freeze, Result.andThen_ok, Sem.run_pure]
  simp only [World.freeze]
  rw [if_neg (by omega)]
  congr 2
  apply Array.ext_getElem?
  intro j
  rw [Array.getElem?_modify]
  by_cases hj : w.heap.size = j
  · subst hj; simp
  · rw [if_neg hj, Array.getElem?_push, Array.getElem?_push, if_neg (Ne.symm hj), if_neg (Ne.symm hj)]
theorem run_lenOf {x : Value} {m : Nat} (h : lenV x = some m) (w : World) : (Builtin.lenOf x).run P w = .ok m w := by
  cases x <;> simp only [lenV, reduceCtorEq, Option.some.injEq] at h
  · subst h; simp [Builtin.lenOf, bys_length]
  · subst h; simp [Builtin.lenOf]
theorem run_firstCells {x : Value} {m size : Nat} {new : List Value} {w : World} (hm : lenV x = some m) (h : cellsOf w.heap size x = some new) (hs : (∃ s, x = .string s) → size = 1 ∨ True) :
    (Builtin.firstCells size m x).run P w = .ok new.toArray w := by
  cases x <;> simp only [lenV, reduceCtorEq, Option.some.injEq] at hm
  · rename_i s
    subst hm
    simp only [cellsOf, Option.some.injEq] at h
    subst h
    simp only [Builtin.firstCells, Sem.run_pure]
    congr 1
    rw [bys_length]
    have : s.extract 0 s.size = s := by
      cases s with | mk d => simp [ByteArray.ext_iff, ByteArray.data_extract, ByteArray.size]
    rw [this]
    cases s; simp only [bys]; apply Array.ext'; simp
  · rename_i a n c
    subst hm
    cases a with
    | none => simp only [cellsOf, Option.some.injEq] at h; subst h; simp [Builtin.firstCells]
    | some a => simp only [cellsOf] at h; exact run_loadCells_at h
theorem growBy_le (newLen : Nat) : ∀ (k c : Nat), 256 ≤ c → c ≤ 2 * newLen → Builtin.growBy newLen k c ≤ 2 * newLen
  | 0, c, _, h => h
  | k + 1, c, h0, h => by
    simp only [Builtin.growBy]
    split
    · exact h
    · exact growBy_le newLen k _ (by omega) (by omega)
theorem nextslicecap_le {newLen oldCap : Nat} (h : oldCap < newLen) : Builtin.nextslicecap newLen oldCap ≤ 2 * newLen := by
  unfold Builtin.nextslicecap
  split
  · omega
  · split
    · omega
    · exact growBy_le _ _ _ (by omega) (by omega)
theorem zeroCells_repL {z : Value} (hz : 1 ≤ (cellsL z).length) (n : Nat) : Builtin.zeroCells z.cells n = (repL (cellsL z) n).toArray := by
  have hs : z.cells.size = (cellsL z).length := by rw [← cellsL_cells]; simp
  rw [← rows_repL hz n]
  simp only [Builtin.zeroCells, hs]
theorem pAppend_run {t u e : TypeId} {du : TypeDesc} {ty : TypeId} {i : TypeInfo} {z s x : Value} (ht : P.underlying t = some (.slice e)) (hu : P.underlying u = some du) (hdu : ∀ k, du ≠ .int k) (hi : P.info? e = some i) (hz : zeroT P e = some z)
    (hb : 1 ≤ i.bytes) (h1 : 1 ≤ (cellsL z).length) (h : pAppend H e i.size i.bytes (cellsL z) s x K) : ERun P (Builtin.append_ #[t, u] ty #[s, x]) H K := by
  intro w hw
  subst hw
  obtain ⟨i', hi', hz'⟩ := zeroT_some hz
  obtain rfl : i' = i := by rw [hi] at hi'; exact (Option.some.inj hi').symm
  unfold pAppend at h
  split at h
  · rename_i base n cap m new hm hnew
    obtain ⟨ha, hg⟩ := h
    have hz0 : ((du matches .int _) : Bool) = false := by cases du <;> first | rfl | exact absurd rfl (hdu _)
    by_cases hc : n + m ≤ cap
    · have ha := ha hc
      cases base with
      | none =>
        refine ⟨_, w, ?_, Rest.refl w, ha⟩
        simp only [Builtin.append_, List.getElem?_toArray, List.getElem?_cons_zero, List.getElem?_cons_succ, Sem.run_bind, run_und ht, run_und hu, Result.andThen_ok, run_size hi, Sem.run_pure, hz0, Bool.false_eq_true, if_false, run_lenOf hm, if_pos hc,
          Bool.not_false, if_true, run_firstCells hm hnew (fun _ => .inr trivial)]
      | some a =>
        simp only at ha
        split at ha
        · rename_i H' hs
          obtain ⟨w', hr, hw', hh⟩ := run_storeCells_at (P := P) hs
          refine ⟨_, w', ?_, hw', by rw [hh]; exact ha⟩
          simp only [Builtin.append_, List.getElem?_toArray, List.getElem?_cons_zero, List.getElem?_cons_succ, Sem.run_bind, run_und ht, run_und hu, Result.andThen_ok, run_size hi, Sem.run_pure, hz0, Bool.false_eq_true, if_false, run_lenOf hm, if_pos hc,
            Bool.not_false, if_true, run_firstCells hm hnew (fun _ => .inr trivial), hr]
        · exact ha.elim
    · obtain ⟨hb2, hg⟩ := hg (by omega)
      split at hg
      · rename_i old hold
        let c := (Question.appendCap (n + m) cap e).cut (w.tape w.drawn (Question.appendCap (n + m) cap e))
        have hcm : n + m ≤ c := Nat.le_add_right _ _
        have hk := hg c hcm
        have hcells : (old ++ new ++ repL (cellsL z) (c - (n + m))).toArray = old.toArray ++ new.toArray ++ Builtin.zeroCells z.cells (c - (n + m)) := by
          rw [zeroCells_repL h1]; simp
        refine ⟨_, { w with drawn := w.drawn + 1, heap := w.heap.push (.cells (old ++ new ++ repL (cellsL z) (c - (n + m))).toArray e) }, ?_, ⟨rfl, rfl⟩, hk⟩
        have hbig : ¬ (Builtin.nextslicecap (n + m) cap * i'.bytes > 2 ^ 48) := by
          have := nextslicecap_le (newLen := n + m) (oldCap := cap) (by omega)
          have := Nat.mul_le_mul_right i'.bytes this
          omega
        have hq : (Question.appendCap (n + m) cap e).forced = false := rfl
        have hnb : ¬ (((n + m : Nat) : Int) > IntKind.i64.max ∧ ((false : Bool) = true ∨ i'.bytes = 0)) := by rintro ⟨_, h | h⟩; cases h; omega
        have hold' : (Builtin.firstCells i'.size n (.slice base n cap)).run P { w with drawn := w.drawn + 1 } = .ok old.toArray { w with drawn := w.drawn + 1 } := run_firstCells (w := { w with drawn := w.drawn + 1 }) rfl hold (fun _ => .inr trivial)
        have hnew' : (Builtin.firstCells i'.size m x).run P { w with drawn := w.drawn + 1 } = .ok new.toArray { w with drawn := w.drawn + 1 } := run_firstCells (w := { w with drawn := w.drawn + 1 }) hm hnew (fun _ => .inr trivial)
        simp only [Builtin.append_, List.getElem?_toArray, List.getElem?_cons_zero, List.getElem?_cons_succ, Sem.run_bind, run_und ht, run_und hu, Result.andThen_ok, run_size hi, Sem.run_pure, hz0, Bool.false_eq_true, if_false, run_lenOf hm, if_neg hc,
          Bool.not_false, if_true, run_info hi, Sem.run_ite]
        rw [if_neg (by simpa using hnb), if_neg hbig]
        simp only [Sem.run_bind, run_choose, hq, Bool.false_eq_true, if_false, Result.andThen_ok, run_info hi, run_askRoom, hold', hnew', run_zero hi hz', newRow, run_newObj, Sem.run_pure]
        rw [hcells]
      · exact hg.elim
  · exact h.elim
theorem run_getMap {r : Nat} {es : Array MapEntry} {c : Nat} {w : World} (h : w.heap[r]? = some (.map es c)) : (getObj r).run P w = .ok (.map es c) w := by simp [getObj, Sem.run, h]
theorem run_setMap {r : Nat} {es : Array MapEntry} {c : Nat} {o : Obj} {w : World} (h : w.heap[r]? = some (.map es c)) : (setObj r o).run P w = .ok () { w with heap := w.heap.setIfInBounds r o } := by simp [setObj, Sem.run, h]
theorem findE_spec {kind : Nat} {k : Value} : ∀ {es : List MapEntry} {i j : Nat} {v : Value}, findE kind k es i = some (some (j, v)) → ∃ e, es[j - i]? = some e ∧ i ≤ j ∧ eqK kind k e.key = some true ∧ e.val = v
  | [], i, j, v, h => by simp [findE] at h
  | e :: es, i, j, v, h => by
    simp only [findE] at h
    split at h
    · rename_i hc
      simp only [Option.some.injEq, Prod.mk.injEq] at h
      obtain ⟨rfl, rfl⟩ := h
      exact ⟨e, by simp, Nat.le_refl _, hc, rfl⟩
    · obtain ⟨e', he, hl, hk, hv⟩ := findE_spec h
      refine ⟨e', ?_, by omega, hk, hv⟩
      rw [show j - i = (j - (i + 1)) + 1 by omega]
      simpa using he
    · simp at h
theorem keyStays {kind : Nat} {k k' : Value} (hd : kind = 0 ∨ kind = 1) (h : eqK kind k k' = some true) (w : World) : (Instr.keyThatStays k' k).run P w = .ok k w := by
  rcases hd with rfl | rfl
  · obtain ⟨j, m, n, rfl, rfl, hc⟩ := eqK0 h
    have : m = n := by simpa using hc.symm
    subst this
    simp [Instr.keyThatStays, Instr.sameBits]
  · obtain ⟨s, t, rfl, rfl, hc⟩ := eqK1 h
    have : bys s = bys t := by simpa using hc.symm
    rw [bys_inj] at this
    subst this
    have : (s == s) = true := by rw [byteArray_beq]; simp
    simp [Instr.keyThatStays, Instr.sameBits, this]
theorem kind_01 {d : TypeDesc} {kind : Nat} (hd : d = .string ∧ kind = 1 ∨ (∃ j, d = .int j) ∧ kind = 0) : kind = 0 ∨ kind = 1 := by rcases hd with ⟨_, h⟩ | ⟨_, h⟩ <;> simp [h]
theorem pMapSet_run {t kt e : TypeId} {d : TypeDesc} {kind : Nat} {m k v : Value} (ht : P.underlying t = some (.map kt e)) (hu : P.underlying kt = some d)
    (hd : d = .string ∧ kind = 1 ∨ (∃ j, d = .int j) ∧ kind = 0) (h : pMapSet H kind m k v K) : URun P (Instr.mapUpdate t m k v) H K := by
  intro w hw
  subst hw
  cases m <;> (try simp only [pMapSet] at h)
  rename_i r
  cases r <;> (try simp only [pMapSet] at h)
  rename_i r
  split at h
  · rename_i es clock hr
    split at h
    · rename_i j u hf
      obtain ⟨en, he, _, hk, _⟩ := findE_spec hf
      refine ⟨{ w with heap := w.heap.setIfInBounds r _ }, ?_, ⟨rfl, rfl⟩, h⟩
      have hk2 : ((es[j]?).map (·.key)).getD k = en.key := by simp at he; simp [he]
      simp only [Instr.mapUpdate, Sem.run_bind, run_und ht, Result.andThen_ok, run_getMap hr, keyKind hu (kind_or hd), run_findKey hu hd hf, hk2, keyStays (kind_01 hd) hk, run_setMap hr]
    · rename_i hf
      refine ⟨{ w with heap := w.heap.setIfInBounds r _ }, ?_, ⟨rfl, rfl⟩, h⟩
      simp only [Instr.mapUpdate, Sem.run_bind, run_und ht, Result.andThen_ok, run_getMap hr, keyKind hu (kind_or hd), run_findKey hu hd hf, run_setMap hr]
    · exact h.elim
  · exact h.elim
theorem pDelete_run {t u kt e ty : TypeId} {d : TypeDesc} {kind : Nat} {m k : Value} (ht : P.underlying t = some (.map kt e)) (hu : P.underlying kt = some d)
    (hd : d = .string ∧ kind = 1 ∨ (∃ j, d = .int j) ∧ kind = 0) (h : pDelete H kind m k K) : ERun P (Builtin.delete_ #[t, u] ty #[m, k]) H K := by
  intro w hw
  subst hw
  cases m <;> (try simp only [pDelete] at h)
  rename_i r
  cases r <;> (try simp only [pDelete] at h)
  rename_i r
  split at h
  · rename_i es clock hr
    split at h
    · rename_i j u hf
      refine ⟨_, { w with heap := w.heap.setIfInBounds r _ }, ?_, ⟨rfl, rfl⟩, h⟩
      simp [Builtin.delete_, run_und ht, run_getMap hr, keyKind hu (kind_or hd), run_findKey hu hd hf, run_setMap hr]
    · rename_i hf
      refine ⟨_, w, ?_, Rest.refl w, h⟩
      have : w.heap.setIfInBounds r (.map es clock) = w.heap := by
        apply Array.ext_getElem?
        intro j
        rw [Array.getElem?_setIfInBounds]
        by_cases hj : r = j
        · subst hj
          have hl : r < w.heap.size := by
            rcases Nat.lt_or_ge r w.heap.size with h | h
            · exact h
            · simp [Array.getElem?_eq_none h] at hr
          simp [hl] at hr ⊢
          exact hr.symm
        · simp [hj]
      simp [Builtin.delete_, run_und ht, run_getMap hr, keyKind hu (kind_or hd), run_findKey hu hd hf, run_setMap hr, this]
    · exact h.elim
  · exact h.elim
theorem pClearM_run {t kt e ty : TypeId} {m : Value} (ht : P.underlying t = some (.map kt e)) (h : pClearM H m K) : ERun P (Builtin.clear_ #[t] ty #[m]) H K := by
  intro w hw
  subst hw
  cases m <;> (try simp only [pClearM] at h)
  rename_i r
  cases r <;> (try simp only [pClearM] at h)
  · exact ⟨_, w, by simp [Builtin.clear_, run_und ht], Rest.refl w, h⟩
  · rename_i r
    split at h
    · rename_i es clock hr
      refine ⟨_, { w with heap := w.heap.setIfInBounds r _ }, ?_, ⟨rfl, rfl⟩, h⟩
      simp [Builtin.clear_, run_und ht, run_getMap hr, run_setMap hr]
    · exact h.elim
theorem pLenC_run {t e ty : TypeId} {d : ChanDir} {x : Value} (ht : P.underlying t = some (.chan d e)) (h : pLenC H x K) : ERun P (Builtin.len_ #[t] ty #[x]) H K := by
  intro w hw
  subst hw
  cases x <;> simp only [pLenC] at h
  rename_i r
  cases r with
  | none => exact ⟨_, w, by simp [Builtin.len_, run_und ht, goInt], ⟨rfl, rfl⟩, h⟩
  | some r =>
    simp only at h
    split at h
    · rename_i cap buf cl s r2 tm hr
      exact ⟨_, w, by simp [Builtin.len_, run_und ht, goInt, getObj, Sem.run, hr], ⟨rfl, rfl⟩, h⟩
    · exact h.elim
theorem pSem_run {s : Sem Value} (h : pSem H P s K) : ERun P s H K := by
  intro w hw
  have := h w hw
  split at this
  · rename_i v w' hr; exact ⟨v, w', hr, this⟩
  · exact this.elim
theorem copy_new {s : Value} {m n : Nat} {new : List Value} {size : Nat} {w : World} (hm : lenV s = some m)
    (h : cellsOf w.heap size (takeV (min m n) s) = some new) :
    (Builtin.firstCells size (Nat.min m n) s).run P w = .ok new.toArray w := by
  have e : Nat.min m n = min m n := rfl
  rw [e]
  cases s <;> simp only [lenV, reduceCtorEq, Option.some.injEq] at hm
  · rename_i b
    simp only [takeV, cellsOf, Option.some.injEq, bys_mk] at h
    subst h
    simp only [Builtin.firstCells, Sem.run_pure]
    congr 1
    apply Array.ext'
    simp [bys, ByteArray.data_extract, List.map_take]
  · rename_i a l c
    cases a with
    | none => simp only [takeV, cellsOf, Option.some.injEq] at h; subst h; simp [Builtin.firstCells]
    | some a => simp only [takeV, cellsOf] at h; exact run_loadCells_at h
theorem pCopy_run {t u e ty : TypeId} {i : TypeInfo} {d s : Value} (ht : P.underlying t = some (.slice e)) (hi : P.info? e = some i) (h : pCopy H i.size d s K) : ERun P (Builtin.copy_ #[t, u] ty #[d, s]) H K := by
  intro w hw
  subst hw
  unfold pCopy at h
  split at h
  · rename_i base n c m hm
    split at h
    · rename_i new hnew
      have hl := copy_new (P := P) hm hnew
      cases base with
      | none =>
        refine ⟨_, w, ?_, Rest.refl w, h⟩
        simp only [Builtin.copy_, List.getElem?_toArray, List.getElem?_cons_zero, List.getElem?_cons_succ, Sem.run_bind, run_und ht, Result.andThen_ok, run_lenOf hm, run_size hi, hl, Sem.run_pure, goInt]
      | some a =>
        simp only at h
        split at h
        · rename_i H' hs
          obtain ⟨w', hr, hw', hh⟩ := run_storeCells_at (P := P) hs
          refine ⟨_, w', ?_, hw', by rw [hh]; exact h⟩
          simp only [Builtin.copy_, List.getElem?_toArray, List.getElem?_cons_zero, List.getElem?_cons_succ, Sem.run_bind, run_und ht, Result.andThen_ok, run_lenOf hm, run_size hi, hl, Sem.run_pure, goInt, hr]
        · exact h.elim
    · exact h.elim
  · exact h.elim
theorem pClearS_run {t e ty : TypeId} {z x : Value} (ht : P.underlying t = some (.slice e)) (hz : zeroT P e = some z) (h1 : 1 ≤ (cellsL z).length) (h : pClearS H (cellsL z) x K) : ERun P (Builtin.clear_ #[t] ty #[x]) H K := by
  intro w hw
  subst hw
  obtain ⟨i', hi', hz'⟩ := zeroT_some hz
  unfold pClearS at h
  split at h
  · exact ⟨_, w, by simp [Builtin.clear_, run_und ht], Rest.refl w, h⟩
  · rename_i a n c
    split at h
    · rename_i H' hs
      obtain ⟨w', hr, hw', hh⟩ := run_storeCells_at (P := P) hs
      by_cases h0 : n = 0
      · subst h0
        simp only [repL, setsAt, Option.some.injEq] at hs
        subst hs
        exact ⟨_, w, by simp [Builtin.clear_, run_und ht], Rest.refl w, h⟩
      · refine ⟨_, w', ?_, hw', by rw [hh]; exact h⟩
        obtain ⟨m, rfl⟩ : ∃ m, n = m + 1 := ⟨n - 1, by omega⟩
        simp [Builtin.clear_, run_und ht, run_zero hi' hz', zeroCells_repL h1, hr]
    · exact h.elim
  · exact h.elim
theorem list1 {α : Type} {a : Array α} {x : α} (h : a.toList = [x]) : a = #[x] := by cases a; simp at h; simp [h]
theorem list2 {α : Type} {a : Array α} {x y : α} (h : a.toList = [x, y]) : a = #[x, y] := by cases a; simp at h; simp [h]
theorem toA {ρ : Env} (a : Array Operand) : (evs ρ a.toList).toArray = a.map (ev ρ) := by rw [evs_eq]; cases a; simp
/-- the functions that may be called: entering them is what the model does -/
def Callable (P : Program) (C : List Nat) : Prop := ∀ f, memb f C = true → ∀ (args : Array Value) (w : World), (callFunc f args).run P w = .ok (.enter f args) w
theorem opE_sound {C : List Nat} (hC : Callable P C) {dst : Option Tmp} {op : Op} {ty : TypeId} {pos : String} {af : Array Edge} {g : Option (Nat × Bool)} {ρ : Env} (h : opE P ρ C op ty H K) :
    ∀ w : World, w.heap = H → after P K w ((execOp (ev ρ) ⟨dst, op, ty, pos, af, g⟩).run P w) := by
  cases op <;> first | exact (h : False).elim | skip
  case alloc e =>
    simp only [opE] at h
    split at h
    · rename_i z hz; exact (pAlloc_run hz h).exec rfl
    · exact h.elim
  case box e v => exact (pBox_run h).exec rfl
  case buildSlice t len ps =>
    simp only [opE] at h
    split at h
    · rename_i e ht
      split at h
      · rename_i i z hi hz
        cases hb : (Nat.ble (len * i.size) 16777216 && (Nat.beq (cellsL z).length i.size && Nat.ble 1 i.size)) with
        | false => rw [hb] at h; exact h.elim
        | true =>
          rw [hb] at h
          simp only [Bool.and_eq_true] at hb
          obtain ⟨h1, h2, h3⟩ := hb
          have e1 : execOp (ev ρ) ⟨dst, .buildSlice t len ps, ty, pos, af, g⟩ = (do pure (.value (← Instr.buildSlice t len (evps ρ ps.toList).toArray))) := by
            rw [evps_eq, show ∀ f : Nat × Operand → Nat × Value, (ps.toList.map f).toArray = ps.map f from fun f => by cases ps; simp]; rfl
          exact (pBuildSl_run ht hi hz (Nat.le_of_ble_eq_true h1) (Nat.eq_of_beq_eq_true h2) (Nat.le_of_ble_eq_true h3) h).exec e1
      · exact h.elim
    · exact h.elim
  case store t x v =>
    simp only [opE] at h
    split at h
    · rename_i d i hd hi
      cases ha : isAggT P t with
      | true => rw [ha] at h; exact (pStoreN_run hi h).exec rfl
      | false =>
        rw [ha] at h
        simp only [cond_false] at h
        cases h1 : Nat.beq i.size 1 with
        | false => rw [h1] at h; exact h.elim
        | true => rw [h1] at h; exact (pStore_run hi h1 h).exec rfl
    · exact h.elim
  case convert s d x =>
    simp only [opE] at h
    split at h
    · rename_i e hs hd
      split at h
      · rename_i he; exact (pBytes_run hs hd he h).exec rfl
      · exact h.elim
    · exact h.elim
  case makeMap t r =>
    cases r with
    | some r => exact (h : False).elim
    | none =>
      intro w hw
      subst hw
      exact ⟨⟨rfl, rfl⟩, h⟩
  case makeSlice t l c =>
    simp only [opE] at h
    split at h
    · rename_i e ht
      split at h
      · rename_i i z hi hz
        cases hb : (Nat.beq (cellsL z).length i.size && Nat.ble 1 i.size) with
        | false => rw [hb] at h; exact h.elim
        | true =>
          rw [hb] at h
          simp only [Bool.and_eq_true] at hb
          exact (pMakeSl_run ht hi hz (Nat.eq_of_beq_eq_true hb.1) (Nat.le_of_ble_eq_true hb.2) h).exec rfl
      · exact h.elim
    · exact h.elim
  case mapUpdate t m k v =>
    simp only [opE] at h
    split at h
    · rename_i kt e ht
      split at h
      · rename_i j hu; exact (pMapSet_run ht hu (.inr ⟨⟨j, rfl⟩, rfl⟩) h).exec rfl
      · rename_i hu; exact (pMapSet_run ht hu (.inl ⟨rfl, rfl⟩) h).exec rfl
      · exact h.elim
    · exact h.elim
  case mapEntry t m k => exact (pSem_run h).exec rfl
  case entryStore t m k v =>
    have hr := pSem_run h
    intro w hw
    obtain ⟨v', w', hr, hk⟩ := hr w hw
    have : (Instr.entryStore t (ev ρ m) (ev ρ k) (ev ρ v)).run P w = .ok () w' := by
      simp only [Sem.run_bind] at hr
      cases hx : (Instr.entryStore t (ev ρ m) (ev ρ k) (ev ρ v)).run P w with
      | ok u w2 => rw [hx] at hr; simp at hr; rw [hr.2]
      | halt h w2 => rw [hx] at hr; simp at hr
    have e : execOp (ev ρ) ⟨dst, .entryStore t m k v, ty, pos, af, g⟩ = (do Instr.entryStore t (ev ρ m) (ev ρ k) (ev ρ v); pure .skip) := rfl
    rw [e]; simpa [this, after] using hk
  case makeChan t n => exact (pSem_run h).exec rfl
  case range t x => exact (pSem_run h).exec rfl
  case next it s => exact (pSem_run h).exec rfl
  case entry it => exact (pSem_run h).exec rfl
  case call c =>
    obtain ⟨callee, args, ats⟩ := c
    cases callee with
    | invoke r m => exact (h : False).elim
    | value f =>
      have main : ∀ (fv : Value), ev ρ f = fv → callH P C fv (evs ρ args.toList) H K → ∀ w : World, w.heap = H → after P K w ((execOp (ev ρ) ⟨dst, .call ⟨.value f, args, ats⟩, ty, pos, af, g⟩).run P w) := by
        intro fv hf h w hw
        subst hw
        unfold callH at h
        split at h
        · rename_i gg first cap
          cases hm : memb gg C with
          | false => rw [hm] at h; exact h.elim
          | true =>
            rw [hm] at h
            simp only [cond_true] at h
            have e : (first.toList ++ evs ρ args.toList ++ cap.toList).toArray = first ++ args.map (ev ρ) ++ cap := by
              rw [← toA (ρ := ρ) args]; apply Array.ext'; simp
            rw [e] at h
            have : (execOp (ev ρ) ⟨dst, .call ⟨.value f, args, ats⟩, ty, pos, af, g⟩).run P w = .ok (.enter gg (first ++ args.map (ev ρ) ++ cap)) w := by
              simp only [execOp, resolve, hf, Deferred.ofValue, pure_bind, invoke]
              exact hC gg hm _ w
            rw [this]
            exact ⟨Rest.refl w, h⟩
        · exact h.elim
      simp only [opE] at h
      cases f with
      | func gg =>
        refine main _ rfl ?_
        simpa [callH, ev] using h
      | tmp t => exact main _ rfl h
      | const v => exact main _ rfl h
      | global gg => exact main _ rfl h
    | builtin b =>
      simp only [opE] at h
      unfold builtinE at h
      split at h
      · rename_i s x t u ha ht
        rw [list2 ha, list2 ht]
        have ex : execOp (ev ρ) ⟨dst, .call ⟨.builtin .append, #[s, x], #[t, u]⟩, ty, pos, af, g⟩ = (do pure (.value (← Builtin.append_ #[t, u] ty #[ev ρ s, ev ρ x]))) := by
          simp [execOp, resolve, invoke, builtin]
        split at h
        · rename_i e e2 hu1 hu2
          split at h
          · rename_i i z hi hz
            cases hb : (Nat.ble 1 i.bytes && Nat.ble 1 (cellsL z).length) with
            | false => rw [hb] at h; exact h.elim
            | true =>
              rw [hb] at h
              simp only [Bool.and_eq_true] at hb
              exact (pAppend_run hu1 hu2 (fun k => by simp) hi hz (Nat.le_of_ble_eq_true hb.1) (Nat.le_of_ble_eq_true hb.2) h).exec ex
          · exact h.elim
        · rename_i e hu1 hu2
          split at h
          · rename_i i z hi hz
            cases hb : (Nat.ble 1 i.bytes && Nat.ble 1 (cellsL z).length) with
            | false => rw [hb] at h; exact h.elim
            | true =>
              rw [hb] at h
              simp only [Bool.and_eq_true] at hb
              exact (pAppend_run hu1 hu2 (fun k => by simp) hi hz (Nat.le_of_ble_eq_true hb.1) (Nat.le_of_ble_eq_true hb.2) h).exec ex
          · exact h.elim
        · exact h.elim
      · rename_i d s t u ha ht
        rw [list2 ha, list2 ht]
        split at h
        · rename_i e hu
          split at h
          · rename_i i hi; exact (pCopy_run (u := u) (ty := ty) hu hi h).exec (by simp [execOp, resolve, invoke, builtin])
          · exact h.elim
        · exact h.elim
      · rename_i m k t u ha ht
        rw [list2 ha, list2 ht]
        split at h
        · rename_i kt e hu
          split at h
          · rename_i j hk; exact (pDelete_run (u := u) (ty := ty) hu hk (.inr ⟨⟨j, rfl⟩, rfl⟩) h).exec (by simp [execOp, resolve, invoke, builtin])
          · rename_i hk; exact (pDelete_run (u := u) (ty := ty) hu hk (.inl ⟨rfl, rfl⟩) h).exec (by simp [execOp, resolve, invoke, builtin])
          · exact h.elim
        · exact h.elim
      · rename_i m t ha ht
        rw [list1 ha, list1 ht]
        split at h
        · rename_i kt e hu; exact (pClearM_run (ty := ty) hu h).exec (by simp [execOp, resolve, invoke, builtin])
        · rename_i e hu
          split at h
          · rename_i z hz
            cases hb : Nat.ble 1 (cellsL z).length with
            | false => rw [hb] at h; exact h.elim
            | true => rw [hb] at h; exact (pClearS_run (ty := ty) hu hz (Nat.le_of_ble_eq_true hb) h).exec (by simp [execOp, resolve, invoke, builtin])
          · exact h.elim
        · exact h.elim
      · rename_i x t ha ht
        rw [list1 ha, list1 ht]
        split at h
        · rename_i d e hu; exact (pLenC_run (ty := ty) hu h).exec (by simp [execOp, resolve, invoke, builtin])
        · exact h.elim
      · exact h.elim
end
end Go.Vc
