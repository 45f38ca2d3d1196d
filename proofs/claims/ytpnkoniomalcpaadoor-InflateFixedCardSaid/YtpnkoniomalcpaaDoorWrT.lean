/- A writer of bits as a thing. -/
import Derived.Test.YtpnkoniomalcpaaDoorBitsW
import Derived.Test.YtpnkoniomalcpaaDoorVcLib
namespace Go.Proofs.YtpnkoniomalcpaaDoor
open Go Go.Vc Go.Proofs
set_option linter.unusedVariables false
set_option linter.unusedSimpArgs false
variable {H : Heap} {B : List Bool}
def wrT (b : Nat) (dv : Value) (B : List Bool) : Thing where
  foot k := k = b ∨ blkOf dv = some k
  holds H := Wr H b 0 dv B
  frame := fun h hf => by
    obtain ⟨⟨D, acc, n, g1, g2, g3⟩, g4, g5⟩ := h
    have hi : It.holds _ (.sl dv 1 (D.map byteV)) := ⟨by decide, g2⟩
    exact ⟨⟨D, acc, n, g1.same (hf b (.inl rfl)), (It.frame hi fun k hk => hf k (.inr hk)).2, g3⟩, g4, g5⟩
  lt := fun h hf => by
    rcases hf with rfl | hf
    · exact h.lt
    · exact h.live _ hf
theorem owns_wr {H0 H' : Heap} {L L' : List It} {b : Nat} {dv dv' : Value} {B' : List Bool} (o : Owns H0 H L) (w : Wr H' b 0 dv' B') (c : Chg b 0 3 (blkS dv) (blkS dv') H H') (hr : Rep (.thing (wrT b dv B)) (.thing (wrT b dv' B')) L L') : Owns H0 H' L' :=
  o.turn hr c.size (fun k hk hf => c.ne k hk (fun h => hf (.inl h)) (fun h => hf (.inr h))) w (fun k hk => by
    rcases hk with hk | hk
    · exact .inl (.inl hk)
    · rcases c.new k hk with h | h
      · exact .inl (.inr h)
      · exact .inr h)
theorem wr_at {H0 : Heap} {L : List It} {b : Nat} {dv : Value} (o : Owns H0 H L) (h : It.thing (wrT b dv B) ∈ L) : Wr H b 0 dv B := o.thing h
/-- a new writer -/
theorem wr_new {H0 : Heap} {L : List It} {b : Nat} {t : TypeId} (o : Owns H0 H (.box b [.slice none 0 0, .int .u64 0, .int .i64 0] t :: L)) : Owns H0 H (.thing (wrT b (.slice none 0 0) []) :: L) := by
  have hb := o.blk (b := b) List.mem_cons_self
  exact o.turn Rep.here (Nat.le_refl _) (fun _ _ _ => rfl) (Wr.new (Sub.all hb)) (fun k hk => by
    rcases hk with rfl | hk
    · exact .inl rfl
    · simp [blkOf] at hk)
theorem padB_ext7 (B : List Bool) : ∃ r, padB B = B ++ r ∧ r.length < 8 := ⟨_, rfl, by simp; omega⟩
end Go.Proofs.YtpnkoniomalcpaaDoor
