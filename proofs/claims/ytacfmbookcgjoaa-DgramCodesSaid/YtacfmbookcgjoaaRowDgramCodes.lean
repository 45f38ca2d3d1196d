/- The given law 'DgramCodes': the row's step, from the theorem 'DgramCodes_law' over heaps. -/
import Derived.Test.YtacfmbookcgjoaaRows
import Derived.Test.YtacfmbookcgjoaaLaw22
import Derived.Test.YtacfmbookcgjoaaVcOpen
import Derived.WalkKit
import Derived.ProofKit
import Derived.OpenShut
import Derived.ShutString
import Derived.ChangeOld
import Derived.Below
namespace Go.Proofs.Ytacfmbookcgjoaa.dgramCodes
open Go Go.Vc Go.ChangeShapes Go.WideShapes Go.ChangeAt Go.RowKit
open Go.ChangeMaps (open_string shut_string)
set_option linter.unusedVariables false

theorem own : ownKnob Try.prog.godebug = none := by kernel_rfl
theorem laidOut : laidOutB Try.prog = true := by kernel_rfl
theorem walk (l0 : List Value) (w : World) (n0 : l0.length = ([.int .i64, .int .u32, .int .u32, .int .u32, .int .u64, .int .u32, .int .u32, .bool, .string] : List TypeDesc).length) (w0 : FitAll [.int .i64, .int .u32, .int .u32, .int .u32, .int .u64, .int .u32, .int .u32, .bool, .string] fun j => l0[j]?) :
    Calls Try.prog 3 #[.agg l0.toArray] w fun e w' => e = .returned (.bool true) ∧ ∃ w'' : World, w'.Alike w'' ∧ Below w.heap.size w w'' := by
  exact below_of (DgramCodes_law l0 n0 w0)

set_option maxRecDepth 100000 in
theorem lifted (os : Os) (started : os.Started) (H : Type) (enc : TypeId × Value → H) :
    ReturnsInHanded {} Try.checked os 3 .any (Rows.dgramCodesSpec.pre6 enc Try.prog Try.f3 Rows.dgramCodesRow.domain false) (Rows.dgramCodesSpec.post enc Try.prog Try.f3 false true false false) := by
  refine returnsInHanded_of_change (C := Try.checked) own started (by kernel_rfl) Try.func3
    (ChangeSpec.witness6 (enc := enc) (C := Try.checked) false ⟨#[], #[(.agg #[(.int .i64 0), (.int .u32 0), (.int .u32 0), (.int .u32 0), (.int .u64 0), (.int .u32 0), (.int .u32 0), (.bool false), (str [])])], []⟩ 8 (by kernel_rfl) (by kernel_rfl) (by kernel_rfl) (by kernel_rfl)) ?_
  intro W base args ds gs before hval0 hW hcnd _
  have hval : ∀ (j : Nat) t v, Try.f3.params[j]? = some t → args[j]? = some v → Value.okWide Try.prog W .any base t v := hval0
  have hW' := hW
  obtain ⟨p, q, hA0, hV, rfl, hfz, hnd⟩ := hW
  have hA : DataW.TrodAll enc Try.prog W 0 (fun _ => true) true Try.f3.params.toList args.toList ds p := hA0
  rw [Try.params3] at hA hval
  obtain ⟨v0, vs0, d0, ds0, p0, q0, hargs, rfl, rfl, h0, r0⟩ := trodAll_cons hA
  obtain ⟨rfl, rfl, rfl⟩ := trodAll_nil r0
  obtain rfl : args = #[v0] := by cases args; simp_all
  obtain ⟨rfl, rfl⟩ := trodVars_none hV
  have k0 := h0
  have lt0 : ∀ x ∈ p0, x.block < W.heap.size := by obtain ⟨m, hm⟩ := k0; exact DataW.trod_lt m _ _ _ hm
  obtain ⟨l0, rfl, n0, w0⟩ := open_fields Try.underlying25 (by kernel_rfl) (by kernel_rfl) (by kernel_rfl) (ds := [.int .i64, .int .u32, .int .u32, .int .u32, .int .u64, .int .u32, .int .u32, .bool, .string]) (by kernel_rfl) (hval 0 25 v0 rfl rfl) h0
  clear hA0 hval0
  refine (walk l0 W n0 w0).mono fun e W' ⟨he, W'', hal, bel⟩ => ?_
  subst he
  exact ⟨_, rfl, ChangeSpec.post_alike ⟨_, _, _, [], _, [], hW', trodAll_mk1 (shut_bool Try.underlying4 _), (trodAll_cons_mk (Below.trod laidOut (by kernel_rfl) (of_decide_eq_true (by kernel_rfl)) k0 bel lt0) trodAll_mk0), rfl, bel.frame _, fun h => by cases h⟩ hal⟩

theorem over : Rows.dgramCodesRow.holds Try.pinned (OpenSpec.ofChange Rows.dgramCodesSpec) :=
  OpenClaim.holds_of_wide 3 Try.f3 rfl rfl rfl rfl rfl rfl rfl ⟨rfl, rfl, rfl, rfl, rfl⟩ rfl rfl rfl rfl rfl (by kernel_rfl) Try.func3 (by kernel_rfl)
    (of_decide_eq_true (by kernel_rfl)) (by unfold Func.isWrapper; first | (rw [if_pos (by decide +kernel)]; kernel_rfl) | (rw [if_neg (by decide +kernel)]; exact ⟨rfl, rfl⟩))
    (fun os started H enc _ => lifted os started H enc)

end Go.Proofs.Ytacfmbookcgjoaa.dgramCodes
namespace Go.Proofs.Ytacfmbookcgjoaa
/-- The given statement of 'DgramCodes': for every input the law returns true and its arguments read as before. -/
theorem DgramCodes_proved : Rows.DgramCodesSaid := dgramCodes.over
#print axioms DgramCodes_proved
end Go.Proofs.Ytacfmbookcgjoaa
