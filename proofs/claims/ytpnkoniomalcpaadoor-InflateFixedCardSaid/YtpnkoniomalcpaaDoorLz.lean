/- Contracts of package lz. -/
import Derived.Test.YtpnkoniomalcpaaDoorVcLib
import Derived.Test.YtpnkoniomalcpaaDoorCopyN
import Derived.Test.YtpnkoniomalcpaaDoorResB
namespace Go.Proofs.YtpnkoniomalcpaaDoor
-- only what is there
open Go Go.Vc Go.Proofs
set_option linter.unusedVariables false
set_option linter.unusedSimpArgs false
variable {H : Heap} {R : Value → Heap → Prop}
/-- a token -/
structure Tok where
  (b : UInt8) (n d : Int)
abbrev Tok.cells (t : Tok) : List Value := [byteV t.b, .int .i64 t.n, .int .i64 t.d]
abbrev Tok.v (t : Tok) : Value := .agg t.cells.toArray
def Tok.fits (t : Tok) : Prop := -9223372036854775808 ≤ t.n ∧ t.n ≤ 9223372036854775807 ∧ -9223372036854775808 ≤ t.d ∧ t.d ≤ 9223372036854775807
def toksL (l : List Tok) : List Value := l.flatMap Tok.cells
theorem toksL_len : ∀ l : List Tok, (toksL l).length = l.length * 3
  | [] => rfl
  | t :: r => by
    have := toksL_len r
    simp only [toksL, List.flatMap_cons, List.length_append, List.length_cons, List.length_nil] at this ⊢
    omega
theorem toksL_at : ∀ (l : List Tok) (i : Nat) (t : Tok), l[i]? = some t → ((toksL l).drop (i * 3)).take 3 = t.cells
  | [], i, t, h => by simp at h
  | u :: r, 0, t, h => by
    simp only [List.getElem?_cons_zero, Option.some.injEq] at h
    subst h
    simp [toksL, Tok.cells]
  | u :: r, i + 1, t, h => by
    simp only [List.getElem?_cons_succ] at h
    have := toksL_at r i t h
    rw [← this]
    show ((u.cells ++ toksL r).drop ((i + 1) * 3)).take 3 = _
    rw [show (i + 1) * 3 = u.cells.length + i * 3 by simp [Tok.cells]; omega, List.drop_append]
    simp only [List.drop_eq_nil_of_le (show [byteV u.b, Value.int IntKind.i64 u.n, Value.int IntKind.i64 u.d].length ≤ [byteV u.b, Value.int IntKind.i64 u.n, Value.int IntKind.i64 u.d].length + i * 3 by omega), List.nil_append]
    rw [show u.cells.length + i * 3 - u.cells.length = i * 3 by omega]
def goodK (t : Tok) : Bool := if t.n = 0 then decide (t.d = 0) else decide ((t.b.toNat : Int) = 0 ∧ 3 ≤ t.n ∧ t.n ≤ 258 ∧ 1 ≤ t.d ∧ t.d ≤ 32768)
def expandF : List Tok → List UInt8 → Option (List UInt8)
  | [], b => some b
  | t :: r, b => if goodK t = true ∧ t.d ≤ (b.length : Int) then expandF r (copyN t.n.toNat (if t.n = 0 then b ++ [t.b] else b) t.d.toNat) else none
/-- what Expand answers -/
def expandV (ahead : List UInt8) (l : List Tok) : Value := match expandF l ahead with
  | some b => .tuple #[str (b.drop ahead.length), .bool true]
  | none => .tuple #[str [], .bool false]
theorem goodK_facts {t : Tok} (h : goodK t = true) : (t.n = 0 ∧ t.d = 0) ∨ (3 ≤ t.n ∧ t.n ≤ 258 ∧ 1 ≤ t.d ∧ t.d ≤ 32768) := by
  unfold goodK at h
  split at h
  · left; exact ⟨by assumption, by simpa using h⟩
  · right; simp only [decide_eq_true_eq] at h; omega
end Go.Proofs.YtpnkoniomalcpaaDoor
