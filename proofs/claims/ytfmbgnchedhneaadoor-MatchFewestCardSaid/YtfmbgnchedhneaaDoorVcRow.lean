/- From a call over heaps to the row's step; slices of numbers that came in. -/
import Derived.Test.YtfmbgnchedhneaaDoorVcLib
import Derived.RowKit3
import Derived.Below
import Derived.ChangeAlike
set_option linter.unusedSimpArgs false
set_option linter.unusedVariables false
namespace Go.Vc
open Go Go.RowKit
theorem below_of {P : Program} {f : FuncId} {args : Array Value} {w : World} (h : CallsH P f args w.heap (LawOk w.heap)) : Calls P f args w fun e w' => e = .returned (.bool true) ∧ ∃ w'' : World, w'.Alike w'' ∧ Below w.heap.size w w'' :=
  (h w rfl).mono fun e w' ⟨v, he, hr, hv, hx⟩ => ⟨by rw [he, hv], { w' with tape := w.tape }, ⟨rfl, rfl, rfl⟩, ⟨hr.os, rfl, hr.output, hx.size, fun k hk => hx.get k hk⟩⟩
/-- a slice of numbers that came in: it is nil; or it leads to a row of 'cap' cells, the numbers 'zs' (the first 'len' are its elements), each fitting its kind -/
def IntRow (k : IntKind) (H : Heap) (a : Option Addr) (len cap : Nat) (zs : List Int) : Prop :=
  (a = none ∧ len = 0 ∧ cap = 0 ∧ zs = []) ∨
  ∃ x, a = some x ∧ len ≤ cap ∧ cap ≤ maxLen ∧ zs.length = cap ∧ (∀ i, i < zs.length → cellAt H (x.add i) = some (.int k (zs.getD i 0))) ∧ ∀ n ∈ zs, (Lit.int k n).wf = true
theorem wf64 {n : Int} (h : (Lit.int .i64 n).wf = true) : -9223372036854775808 ≤ n ∧ n ≤ 9223372036854775807 := by
  simpa [Lit.wf, IntKind.min, IntKind.max, IntKind.signed, IntKind.bits] using h
theorem wfu8 {n : Int} (h : (Lit.int .u8 n).wf = true) : 0 ≤ n ∧ n ≤ 255 := by
  simpa [Lit.wf, IntKind.min, IntKind.max, IntKind.signed, IntKind.bits] using h
theorem wfu32 {n : Int} (h : (Lit.int .u32 n).wf = true) : 0 ≤ n ∧ n ≤ 4294967295 := by
  simpa [Lit.wf, IntKind.min, IntKind.max, IntKind.signed, IntKind.bits] using h
theorem wfu64 {n : Int} (h : (Lit.int .u64 n).wf = true) : 0 ≤ n ∧ n ≤ 18446744073709551615 := by
  simpa [Lit.wf, IntKind.min, IntKind.max, IntKind.signed, IntKind.bits] using h
theorem cellAt_ext {H H' : Heap} {a : Addr} {v : Value} (h : Ext H H') (hc : cellAt H a = some v) : cellAt H' a = some v := by
  unfold cellAt at hc ⊢
  have hl : a.block < H.size := by
    rcases Nat.lt_or_ge a.block H.size with h' | h'
    · exact h'
    · rw [Array.getElem?_eq_none h'] at hc; cases hc
  rw [h.get _ hl]; exact hc
/-- one of a row's numbers is read -/
theorem IntRow.read {k : IntKind} {H H' : Heap} {a : Option Addr} {len cap : Nat} {zs : List Int} (hr : IntRow k H a len cap zs) (hx : Ext H H') {i : Int} (h0 : 0 ≤ i) (h1 : i < (len : Int)) {K : Value → Prop} :
    (K (.int k (zs.getD i.toNat 0))) → pIdxSl 1 (.slice a len cap) (.int .i64 i) fun x => pLoad H' x K := by
  intro hk
  rcases hr with ⟨_, rfl, _⟩ | ⟨x, rfl, hl, _, hz, hc, _⟩
  · omega
  · rw [pIdxSl_v]
    refine ⟨h0, h1, ?_⟩
    rw [Nat.mul_one, pLoad_cell (cellAt_ext hx (hc i.toNat (by omega)))]
    exact hk
theorem IntRow.wf {k : IntKind} {H : Heap} {a : Option Addr} {len cap : Nat} {zs : List Int} (hr : IntRow k H a len cap zs) {i : Nat} (h1 : i < len) : (Lit.int k (zs.getD i 0)).wf = true := by
  rcases hr with ⟨_, rfl, _⟩ | ⟨x, rfl, hl, _, hz, hc, hw⟩
  · omega
  · rw [List.getD_eq_getElem?_getD, List.getElem?_eq_getElem (by omega)]
    exact hw _ (List.getElem_mem _)
theorem IntRow.len_le {k : IntKind} {H : Heap} {a : Option Addr} {len cap : Nat} {zs : List Int} (hr : IntRow k H a len cap zs) : len ≤ zs.length := by
  rcases hr with ⟨_, rfl, _, rfl⟩ | ⟨x, rfl, hl, _, hz, hc, hw⟩
  · exact Nat.le_refl _
  · omega
theorem IntRow.len_max {k : IntKind} {H : Heap} {a : Option Addr} {len cap : Nat} {zs : List Int} (hr : IntRow k H a len cap zs) : len ≤ maxLen := by
  rcases hr with ⟨_, rfl, _, rfl⟩ | ⟨x, rfl, hl, _, hz, hc, hw⟩
  · exact Nat.zero_le _
  · omega
end Go.Vc
