/- What the row's step tells of arguments that are structs by value, or slices of structs: each cell fits its field's type. -/
import Derived.Test.YtfmbgnchedhneaaDoorVcRow
import Derived.ProofKit
import Derived.OpenShut
import Derived.ShutString
import Derived.Deep.Slices
import Derived.Deep.Fields
import Derived.ChangeSame
set_option linter.unusedSimpArgs false
set_option linter.unusedVariables false
namespace Go.Vc
open Go Go.ChangeShapes Go.WideShapes Go.Deep Go.RowKit
/-- a cell fits a type of numbers, truth values, strings -/
def FitK : TypeDesc → Value → Prop
  | .int k, v => ∃ n, v = .int k n ∧ (Lit.int k n).wf = true
  | .bool, v => ∃ b, v = .bool b
  | .string, v => ∃ l, v = str l ∧ l.length ≤ maxLen
  | _, _ => True
/-- cells that fit, one by one -/
def FitAll (ds : List TypeDesc) (c : Nat → Option Value) : Prop := ∀ (j : Nat) (d : TypeDesc), ds[j]? = some d → ∃ v, c j = some v ∧ FitK d v
/-- a slice of structs whose fields are one cell each -/
def StructRow (ds : List TypeDesc) (H : Heap) (a : Option Addr) (len cap : Nat) : Prop :=
  (a = none ∧ len = 0 ∧ cap = 0) ∨
  ∃ x, a = some x ∧ len ≤ cap ∧ cap ≤ maxLen ∧ ∀ i, i < len → FitAll ds fun j => cellAt H (x.add (i * ds.length + j))
def descs (P : Program) (fs : List Field) : List TypeDesc := fs.map fun f => (P.underlying f.type).getD .bool
section
variable {H : Type} {enc : TypeId × Value → H} {P : Program} {w : World} {base : Nat} {spare : Nat → Bool} {held : Bool}
theorem fit_of {t : TypeId} {d : TypeDesc} {v : Value} {n : Nat} {y : DataW H × List MemPlace} (hu : P.underlying t = some d) (h : DataW.trod enc P w base spare held n t [v] = some y) : FitK d v := by
  unfold FitK
  split
  · obtain ⟨m, he, _, hw⟩ := DataW.trod_int hu h
    simp only [List.cons.injEq, and_true] at he
    exact ⟨m, he, hw⟩
  · obtain ⟨b, he, _⟩ := DataW.trod_bool hu h
    simp only [List.cons.injEq, and_true] at he
    exact ⟨b, he⟩
  · obtain ⟨s, he, _, hl⟩ := DataW.trod_string hu h
    simp only [List.cons.injEq, and_true] at he
    refine ⟨bys s, by rw [he, str_bys], ?_⟩
    have e : (bys s).length = s.size := rfl
    rw [e]; exact hl
  · trivial
theorem take_one {cs : List Value} {j : Nat} (h : j < cs.length) : (cs.drop j).take 1 = [cs[j]'h] := by
  rw [List.drop_eq_getElem_cons h]; rfl
theorem fits_of {t : TypeId} {fs : Array Field} {cs : List Value} {fuel : Nat} {x : DataW H × List MemPlace} (ht : P.underlying t = some (.struct fs)) (hone : oneCellFields P fs = true) (hC : P.cellsOf t = fs.size)
    (hall : fs.toList.all (fun f => (P.underlying f.type).isSome) = true) (h : DataW.trod enc P w base spare held fuel t cs = some x) : cs.length = fs.size ∧ FitAll (descs P fs.toList) fun j => cs[j]? := by
  obtain ⟨ys, n', hn', hy, hlen, hyl, hf⟩ := DataW.trod_struct ht h
  refine ⟨hlen.trans hC, fun j d hj => ?_⟩
  unfold descs at hj
  rw [List.getElem?_map, Array.getElem?_toList] at hj
  cases hfj : fs[j]? with
  | none => rw [hfj] at hj; cases hj
  | some f =>
    rw [hfj] at hj
    simp only [Option.map_some, Option.some.injEq] at hj
    have hjl : j < fs.size := (Array.getElem?_eq_some_iff.1 hfj).1
    obtain ⟨ho, hk⟩ := hone_of hone j f hfj
    have h1 := hf j f hfj
    have hl : j < cs.length := by omega
    rw [ho, hk, take_one hl, List.getElem?_eq_getElem (show j < ys.length by omega)] at h1
    have hs : (P.underlying f.type).isSome = true := List.all_eq_true.1 hall f (by
      have := (Array.getElem?_eq_some_iff.1 hfj)
      obtain ⟨h1, h2⟩ := this
      rw [← h2]; simp)
    obtain ⟨d', hd'⟩ := Option.isSome_iff_exists.1 hs
    rw [hd'] at hj
    simp only [Option.getD_some] at hj
    subst hj
    exact ⟨cs[j], List.getElem?_eq_getElem hl, fit_of hd' h1⟩
/-- a struct by value -/
theorem open_fields {t : TypeId} {fs : Array Field} {v : Value} {d : DataW H} {p : List MemPlace} {r : Reach} {b0 : Nat} (ht : P.underlying t = some (.struct fs)) (hone : oneCellFields P fs = true) (hC : P.cellsOf t = fs.size)
    (hall : fs.toList.all (fun f => (P.underlying f.type).isSome) = true) {ds : List TypeDesc} (hds : descs P fs.toList = ds) (hv : Value.okWide P w r b0 t v) (h : DataW.Trod enc P w base spare held t v d p) :
    ∃ l : List Value, v = .agg l.toArray ∧ l.length = ds.length ∧ FitAll ds fun j => l[j]? := by
  subst hds
  obtain ⟨cs, rfl, hsz⟩ := okWide_struct ht hv
  obtain ⟨l⟩ := cs
  obtain ⟨fuel, hf⟩ := h
  have := fits_of ht hone hC hall hf
  exact ⟨l, rfl, by have e : l.length = fs.size := this.1
                    simpa [descs] using e, this.2⟩
/-- a slice of structs -/
theorem open_structs {t e : TypeId} {fs : Array Field} {fuel : Nat} {a : Option Addr} {len cap : Nat} {x : DataW H × List MemPlace} (ht : P.underlying t = some (.slice e)) (he : P.underlying e = some (.struct fs)) (hone : oneCellFields P fs = true) (hC : P.cellsOf e = fs.size)
    (hall : fs.toList.all (fun f => (P.underlying f.type).isSome) = true) {ds : List TypeDesc} (hds : descs P fs.toList = ds) (h : DataW.trod enc P w base spare held fuel t [.slice a len cap] = some x) : StructRow ds w.heap a len cap := by
  subst hds
  rcases open_slice ht h with ⟨h0, _⟩ | ⟨a', len', cap', m, n, D, Pl, hcs, hb, hl, hm, hmm, hx, hi⟩
  · simp only [List.cons.injEq, Value.slice.injEq, and_true] at h0
    exact .inl h0
  · simp only [List.cons.injEq, Value.slice.injEq, and_true] at hcs
    obtain ⟨rfl, rfl, rfl⟩ := hcs
    refine .inr ⟨a', rfl, hl, hm, fun i hil => ?_⟩
    have him : i < m := by rw [hmm]; split <;> omega
    obtain ⟨cs', hc, ht'⟩ := hi i him
    have hF := fits_of he hone hC hall ht'
    obtain ⟨_, hcl, hat⟩ := World.cells?_some hc
    intro j d hj
    obtain ⟨v, hv, hk⟩ := hF.2 j d hj
    have hjl : j < cs'.length := (List.getElem?_eq_some_iff.1 hv).1
    refine ⟨v, ?_, hk⟩
    have hat := hat j (by omega)
    have hv : cs'[j]? = some v := hv
    show cellAt w.heap (a'.add (i * (descs P fs.toList).length + j)) = some v
    rw [← hv, ← hat, Go.Deep.add_add, hC]
    have : (descs P fs.toList).length = fs.size := by simp [descs]
    rw [this]
    rfl
/-- a slice of one-cell elements: strings, numbers -/
theorem open_cells {t e : TypeId} {d : TypeDesc} {fuel : Nat} {a : Option Addr} {len cap : Nat} {x : DataW H × List MemPlace} (ht : P.underlying t = some (.slice e)) (he : P.underlying e = some d) (hC : P.cellsOf e = 1)
    (h : DataW.trod enc P w base spare held fuel t [.slice a len cap] = some x) : StructRow [d] w.heap a len cap := by
  rcases open_slice ht h with ⟨h0, _⟩ | ⟨a', len', cap', m, n, D, Pl, hcs, hb, hl, hm, hmm, hx, hi⟩
  · simp only [List.cons.injEq, Value.slice.injEq, and_true] at h0
    exact .inl h0
  · simp only [List.cons.injEq, Value.slice.injEq, and_true] at hcs
    obtain ⟨rfl, rfl, rfl⟩ := hcs
    refine .inr ⟨a', rfl, hl, hm, fun i hil => ?_⟩
    have him : i < m := by rw [hmm]; split <;> omega
    obtain ⟨cs', hc, ht'⟩ := hi i him
    obtain ⟨_, hcl, hat⟩ := World.cells?_some hc
    rw [hC] at hcl
    match cs', hcl, ht', hat with
    | [v], _, ht', hat =>
      intro j d' hj
      match j, hj with
      | 0, hj =>
        simp only [List.getElem?_cons_zero, Option.some.injEq] at hj
        subst hj
        refine ⟨v, ?_, fit_of he ht'⟩
        have hat := hat 0 (by omega)
        rw [Go.Deep.add_add, hC] at hat
        exact hat
/-- an array by value of one-cell elements -/
theorem open_array {t e : TypeId} {d : TypeDesc} {k : Nat} {v : Value} {dd : DataW H} {p : List MemPlace} {r : Reach} {b0 : Nat} (ht : P.underlying t = some (.array k e)) (he : P.underlying e = some d) (hC : P.cellsOf e = 1) (hCt : P.cellsOf t = k)
    (hv : Value.okWide P w r b0 t v) (h : DataW.Trod enc P w base spare held t v dd p) : ∃ l : List Value, v = .agg l.toArray ∧ l.length = k ∧ FitAll (List.replicate k d) fun j => l[j]? := by
  have hv' : ∃ cs, v = .agg cs ∧ cs.size = P.cellsOf t := by
    simp only [Value.okWide, ht] at hv
    obtain ⟨cs, h1, h2, _⟩ := hv
    exact ⟨cs, h1, h2⟩
  obtain ⟨cs, rfl, hsz⟩ := hv'
  obtain ⟨l⟩ := cs
  obtain ⟨fuel, hf⟩ := h
  obtain ⟨ys, m, _, _, hlen, hyl, hg⟩ := DataW.trod_array ht hf
  have hl : l.length = k := by rw [← hCt]; exact hsz
  refine ⟨l, rfl, hl, fun j d' hj => ?_⟩
  have hjk : j < k := by have := (List.getElem?_eq_some_iff.1 hj).1; simpa using this
  have hd : d' = d := by
    rw [List.getElem?_replicate, if_pos hjk] at hj
    simpa using hj.symm
  subst hd
  have h1 := hg j hjk
  rw [hC, Nat.mul_one] at h1
  have hlt : j < (Value.agg l.toArray).cells.toList.length := by show j < l.length; omega
  rw [take_one hlt, List.getElem?_eq_getElem (show j < ys.length by omega)] at h1
  exact ⟨l[j], List.getElem?_eq_getElem (by omega), fit_of he h1⟩
/-- a slice of arrays of one-cell elements -/
theorem open_arrays {t e e' : TypeId} {d : TypeDesc} {k fuel : Nat} {a : Option Addr} {len cap : Nat} {x : DataW H × List MemPlace} (ht : P.underlying t = some (.slice e)) (he : P.underlying e = some (.array k e')) (he' : P.underlying e' = some d) (hC : P.cellsOf e' = 1) (hCt : P.cellsOf e = k)
    (h : DataW.trod enc P w base spare held fuel t [.slice a len cap] = some x) : StructRow (List.replicate k d) w.heap a len cap := by
  rcases open_slice ht h with ⟨h0, _⟩ | ⟨a', len', cap', m, n, D, Pl, hcs, hb, hl, hm, hmm, hx, hi⟩
  · simp only [List.cons.injEq, Value.slice.injEq, and_true] at h0
    exact .inl h0
  · simp only [List.cons.injEq, Value.slice.injEq, and_true] at hcs
    obtain ⟨rfl, rfl, rfl⟩ := hcs
    refine .inr ⟨a', rfl, hl, hm, fun i hil => ?_⟩
    have him : i < m := by rw [hmm]; split <;> omega
    obtain ⟨cs', hc, ht'⟩ := hi i him
    obtain ⟨_, hcl, hat⟩ := World.cells?_some hc
    obtain ⟨ys, m', _, _, hlen, hyl, hg⟩ := DataW.trod_array he ht'
    intro j d' hj
    have hjk : j < k := by have := (List.getElem?_eq_some_iff.1 hj).1; simpa using this
    have hd : d' = d := by
      rw [List.getElem?_replicate, if_pos hjk] at hj
      simpa using hj.symm
    subst hd
    have h1 := hg j hjk
    rw [hC, Nat.mul_one] at h1
    have hlt : j < cs'.length := by rw [hcl, hCt]; exact hjk
    rw [take_one hlt, List.getElem?_eq_getElem (show j < ys.length by omega)] at h1
    refine ⟨cs'[j], ?_, fit_of he' h1⟩
    have hat := hat j (by omega)
    rw [List.getElem?_eq_getElem hlt, Go.Deep.add_add, hCt] at hat
    rw [List.length_replicate]
    exact hat
end
end Go.Vc
