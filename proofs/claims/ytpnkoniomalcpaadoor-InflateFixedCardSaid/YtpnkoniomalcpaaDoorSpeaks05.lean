/- The laws' own first test, layer 5. -/
import Derived.Test.YtpnkoniomalcpaaDoorLzNum
namespace Go.Proofs.YtpnkoniomalcpaaDoor
-- only what is there
open Go Go.Vc Go.Proofs
set_option linter.unusedVariables false
set_option linter.unusedSimpArgs false
variable {H : Heap} {R : Value → Heap → Prop}
theorem pEqA_ex {a b c a' b' c' : Int} {K : Value → Prop} : pEqA [0, 0, 0] (exv a b c) (exv a' b' c') K = K (.bool (decide (a = a' ∧ b = b' ∧ c = c'))) := by
  have e : decide (a = a' ∧ b = b' ∧ c = c') = (decide (a = a') && (decide (b = b') && (decide (c = c') && true))) := by
    rw [Bool.eq_iff_iff]
    simp
  simp only [pEqA, eqCells, eqK, if_true, e]
theorem pNeA_ex {a b c a' b' c' : Int} {K : Value → Prop} : pNeA [0, 0, 0] (exv a b c) (exv a' b' c') K = K (.bool (!decide (a = a' ∧ b = b' ∧ c = c'))) := by
  have e : decide (a = a' ∧ b = b' ∧ c = c') = (decide (a = a') && (decide (b = b') && (decide (c = c') && true))) := by
    rw [Bool.eq_iff_iff]
    simp
  simp only [pNeA, eqCells, eqK, if_true, e]
theorem sl_new {H : Heap} {t : TypeId} {sz : Nat} {l : List Value} {n : Nat} (hl : l.length = n * sz) : Sl (H.push (.cells l.toArray t)) (.slice (some ⟨H.size, 0, none⟩) n n) sz l :=
  .inr ⟨_, n, n, rfl, hl, Nat.le_refl _, fun i v hv => by rw [add_mk, Nat.zero_add, cellAt_blk get_push_self, List.getElem?_toArray]; exact hv⟩
theorem lenX_258 : lenX 258 = exv 285 0 0 := by
  rw [lenX, if_neg (by decide), show symL 258 = 285 by decide +kernel, show lenOf 285 = (258, 0) by decide +kernel]
  rfl
theorem distX_6 : distX 6 = exv 4 1 1 := by
  rw [distX, if_neg (by decide), show symD 6 = 4 by decide +kernel, show distOf 4 = (5, 1) by decide +kernel]
  rfl
end Go.Proofs.YtpnkoniomalcpaaDoor
