/- Slices of structs that hold slices of numbers. -/
import Derived.Test.YthadmceioakgnaaVcRows
import Derived.ChangeSlices
set_option linter.unusedSimpArgs false
set_option linter.unusedVariables false
namespace Go.Vc
open Go Go.ChangeShapes Go.WideShapes Go.Deep Go.RowKit
/-- field j of each struct is a slice of numbers -/
def InnerInts (n j : Nat) (H : Heap) (a : Option Addr) (len : Nat) : Prop := ∀ x, a = some x → ∀ i, i < len → ∃ (a' : Option Addr) (l' c' : Nat) (zs : List Int), cellAt H (x.add (i * n + j)) = some (.slice a' l' c') ∧ IntRow .i64 H a' l' c' zs
/-- a slice of structs of which field j is a slice of numbers -/
def StructRowI (ds : List TypeDesc) (j : Nat) (H : Heap) (a : Option Addr) (len cap : Nat) : Prop := StructRow ds H a len cap ∧ InnerInts ds.length j H a len
section
variable {H : Type} {enc : TypeId × Value → H} {P : Program} {w : World} {base : Nat} {held : Bool}
theorem inner_of {t : TypeId} {fs : Array Field} {cs : List Value} {fuel : Nat} {x : DataW H × List MemPlace} {j : Nat} {f : Field} {e : TypeId} (ht : P.underlying t = some (.struct fs)) (hone : oneCellFields P fs = true) (hC : P.cellsOf t = fs.size)
    (hj : fs[j]? = some f) (hf : P.underlying f.type = some (.slice e)) (he : P.underlying e = some (.int .i64)) (hce : P.cellsOf e = 1) (h : DataW.trod enc P w base (fun _ => true) held fuel t cs = some x) :
    ∃ (a' : Option Addr) (l' c' : Nat) (zs : List Int), cs[j]? = some (.slice a' l' c') ∧ IntRow .i64 w.heap a' l' c' zs := by
  obtain ⟨ys, n', hn', hy, hlen, hyl, hfs⟩ := DataW.trod_struct ht h
  have hjl : j < fs.size := (Array.getElem?_eq_some_iff.1 hj).1
  obtain ⟨ho, hk⟩ := hone_of hone j f hj
  have h1 := hfs j f hj
  have hl : j < cs.length := by omega
  rw [ho, hk, take_one hl, List.getElem?_eq_getElem (show j < ys.length by omega)] at h1
  rcases open_ints hf he hce h1 with ⟨hcs, _⟩ | ⟨x, l, c, zs, hcs, _, hl2, hm, hz, _, hcell, hwz⟩
  · simp only [List.cons.injEq, and_true] at hcs
    exact ⟨none, 0, 0, [], by rw [List.getElem?_eq_getElem hl, hcs], .inl ⟨rfl, rfl, rfl, rfl⟩⟩
  · simp only [List.cons.injEq, and_true] at hcs
    refine ⟨some x, l, c, zs, by rw [List.getElem?_eq_getElem hl, hcs], ?_⟩
    exact .inr ⟨_, rfl, hl2, hm, by simpa using hz, hcell, hwz⟩
theorem open_structsI {t e : TypeId} {fs : Array Field} {fuel : Nat} {a : Option Addr} {len cap : Nat} {x : DataW H × List MemPlace} {j : Nat} {f : Field} {e2 : TypeId} (ht : P.underlying t = some (.slice e)) (he : P.underlying e = some (.struct fs)) (hone : oneCellFields P fs = true) (hC : P.cellsOf e = fs.size)
    (hall : fs.toList.all (fun f => (P.underlying f.type).isSome) = true) {ds : List TypeDesc} (hds : descs P fs.toList = ds) (hj : fs[j]? = some f) (hf : P.underlying f.type = some (.slice e2)) (he2 : P.underlying e2 = some (.int .i64)) (hce : P.cellsOf e2 = 1)
    (h : DataW.trod enc P w base (fun _ => true) held fuel t [.slice a len cap] = some x) : StructRowI ds j w.heap a len cap := by
  refine ⟨open_structs ht he hone hC hall hds h, ?_⟩
  subst hds
  rcases open_slice ht h with ⟨h0, _⟩ | ⟨a', len', cap', m, n, D, Pl, hcs, hb, hl, hm, hmm, hx, hi⟩
  · simp only [List.cons.injEq, Value.slice.injEq, and_true] at h0
    obtain ⟨rfl, rfl, rfl⟩ := h0
    intro x hx; cases hx
  · simp only [List.cons.injEq, Value.slice.injEq, and_true] at hcs
    obtain ⟨rfl, rfl, rfl⟩ := hcs
    intro x hx i hil
    obtain rfl := Option.some.inj hx
    have him : i < m := by rw [hmm]; split <;> omega
    obtain ⟨cs', hc, ht'⟩ := hi i him
    obtain ⟨_, hcl, hat⟩ := World.cells?_some hc
    obtain ⟨a2, l2, c2, zs, hv, hrow⟩ := inner_of he hone hC hj hf he2 hce ht'
    have hjl : j < cs'.length := (List.getElem?_eq_some_iff.1 hv).1
    have hat := hat j (by omega)
    refine ⟨a2, l2, c2, zs, ?_, hrow⟩
    rw [← hv, ← hat, Go.Deep.add_add, hC]
    have : (descs P fs.toList).length = fs.size := by simp [descs]
    rw [this]
    rfl
end
end Go.Vc
