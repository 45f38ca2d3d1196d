/- A strings.Builder that a function has made, over heaps, from the shelf's contracts. -/
import Derived.Test.YtdaolhlfngfmgaaShelf
import Derived.Test.YtdaolhlfngfmgaaLibS
namespace Go.Proofs.Ytdaolhlfngfmgaa
open Go Go.Vc Go.Proofs Go.RowKit
set_option linter.unusedVariables false
set_option linter.unusedSimpArgs false
variable {H : Heap} {R : Value → Heap → Prop} {v : Value}
/-- the builder of block b, whose own blocks are from B on, holds these bytes -/
def BldH (B b : Nat) (l : List UInt8) (H : Heap) : Prop := ∀ w : World, w.heap = H → Lib.IsBuilder 85 5 B b (Lib.byteCells l) w
theorem bld_of {B b : Nat} {l : List UInt8} {w : World} (h : Lib.IsBuilder 85 5 B b (Lib.byteCells l) w) : BldH B b l w.heap := by
  intro w2 hw
  simp only [Lib.IsBuilder, Lib.BuilderAt, World.ownsRow] at h ⊢
  rw [hw]
  exact h
theorem bld_new {b : Nat} (h : H[b]? = some (.cells #[.pointer none, .slice none 0 0] 85 (0, 0))) : BldH b b [] H := by
  intro w hw
  left
  simp only [Lib.BuilderAt, World.ownsRow]
  rw [hw]
  exact ⟨Nat.le_refl _, _, h, ⟨rfl, .inl ⟨rfl, rfl⟩⟩, by simp [Value.ownBlock]⟩
theorem bWrite_spec {A : Heap} {b : Nat} {l s : List UInt8} (h : BldH A.size b l H) (hx : Ext A H) (hlen : l.length + s.length ≤ 140737488355328) (hk : ∀ H', BldH A.size b (l ++ s) H' → Ext A H' → R (.tuple #[.int .i64 (s.length : Nat), .nilIface]) H') : CallsH Try.prog 46 #[.pointer (some ⟨b, 0, none⟩), str s] H R := by
  intro w hw
  refine (Try.Builder_WriteString A.size b (Lib.byteCells l) ⟨s.toArray⟩ w (h w hw) (by rw [Lib.byteCells_length]; show l.length + s.toArray.size ≤ _; rw [List.size_toArray]; exact hlen) (by rw [hw]; exact hx.size)).mono fun e w' ⟨he, hb, hbel⟩ => ⟨_, he, ⟨hbel.os, hbel.output⟩, ?_⟩
  have e1 : Lib.byteCells l ++ Lib.strCells ⟨s.toArray⟩ = Lib.byteCells (l ++ s) := by
    simp [Lib.byteCells, Lib.strCells]
  rw [e1] at hb
  refine hk _ (bld_of (.inr hb)) ⟨?_, fun k hk => ?_⟩
  · have := hbel.size
    rw [hw] at this
    exact Nat.le_trans hx.size this
  · rw [hbel.block k hk, hw]
    exact hx.get k hk
theorem bString_spec {A : Heap} {b : Nat} {l : List UInt8} (h : BldH A.size b l H) (hx : Ext A H) (hk : ∀ H', Ext A H' → R (str l) H') : CallsH Try.prog 48 #[.pointer (some ⟨b, 0, none⟩)] H R := by
  intro w hw
  refine (Try.Builder_String_any A.size b l w (h w hw) (by rw [hw]; exact hx.size)).mono fun e w' ⟨he, hbel⟩ => ⟨_, he, ⟨hbel.os, hbel.output⟩, ?_⟩
  refine hk _ ⟨?_, fun k hk => ?_⟩
  · have := hbel.size
    rw [hw] at this
    exact Nat.le_trans hx.size this
  · rw [hbel.block k hk, hw]
    exact hx.get k hk
end Go.Proofs.Ytdaolhlfngfmgaa
