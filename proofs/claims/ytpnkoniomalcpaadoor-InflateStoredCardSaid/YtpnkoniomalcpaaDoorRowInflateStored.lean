/- The given law 'InflateStored': the row's step, from the theorem 'InflateStored_law' over heaps. -/
import Derived.Test.YtpnkoniomalcpaaDoorRows
import Derived.Test.YtpnkoniomalcpaaDoorLaw07c
import Derived.Test.YtpnkoniomalcpaaDoorVcLib
import Derived.Test.YtpnkoniomalcpaaDoorCards
import Derived.Test.YtpnkoniomalcpaaDoorTie
import Derived.SevenTiedAt
import Derived.LaidMore
import Derived.Stop.Joined
import Derived.WalkKit
import Derived.ProofKit
import Derived.OpenShut
import Derived.ShutString
import Derived.ChangeOld
import Derived.Below
namespace Go.Proofs.YtpnkoniomalcpaaDoor.inflateStored
open Go Go.Vc Go.ChangeShapes Go.WideShapes Go.ChangeAt Go.RowKit
open Go.ChangeMaps (open_string shut_string)
set_option linter.unusedVariables false
set_option linter.unusedSimpArgs false

theorem own : ownKnob Tryd.prog.godebug = none := by kernel_rfl
theorem laidOut : laidOutB Tryd.prog = true := by kernel_rfl
abbrev laidL : List (String × DataW Unit) := [("lighter/inflate.order", Rows.laid_lighter_inflate_order)]
theorem gD : Tryd.prog.globalNamed "lighter/inflate.order" = some 0 := by kernel_rfl
theorem tD : (Tryd.prog.globals[0]?).map (·.type) = some 140 := by kernel_rfl
theorem door_met (os : Os) (args : Array Value) : laidMetH Tryd.prog laidL ((World.doorLaid Tryd.prog 400 os).forCall (fun _ _ => 0) ⟨#[], args, []⟩).memory :=
  laidMetH_of_parts3 (fuel := 8) (laidMet_of_run' 8 (by kernel_rfl) (by kernel_rfl)) (by kernel_rfl) (by kernel_rfl)
theorem table {W : World} (h : laidMetH Tryd.prog laidL W) : Reads W.heap ⟨0, 0, none⟩ ordV := by
  rw [MakeChecks.laidMetH_plain _ _ _ (by kernel_rfl)] at h
  obtain ⟨ps, ⟨g0, t0, cs0, f0, p0, q0, hg0, ht0, hv0, hd0, _, _⟩, _, _⟩ := h
  obtain rfl := Option.some.inj (gD.symm.trans hg0)
  obtain rfl := Option.some.inj (tD.symm.trans ht0)
  obtain ⟨xs, m1, rfl, hx1, hlen, hn, hel⟩ := DataW.trod_array Tryd.underlying140 hd0
  have cE : Tryd.prog.cellsOf 3 = 1 := by kernel_rfl
  rw [Prod.mk.injEq] at hx1
  intro i v hv
  have hi : i < 19 := by have := (List.getElem?_eq_some_iff.1 hv).1; rwa [show ordV.length = 19 from rfl] at this
  have hel := hel i hi
  rw [cE, Nat.mul_one] at hel
  obtain ⟨x, hx⟩ : ∃ x, xs[i]? = some x := ⟨xs[i], List.getElem?_eq_getElem (by omega)⟩
  rw [hx] at hel
  obtain ⟨k, e1, e2, _⟩ := DataW.trod_int Tryd.underlying3 hel
  have hD := congrArg (fun d => match d with | DataW.agg l => l[i]? | _ => Option.none) hx1.1
  have hD2 : (match (Rows.laid_lighter_inflate_order : DataW Unit) with | DataW.agg l => l[i]? | _ => Option.none) = some (.lit (.int .i64 (ordN i : Int))) := by
    match i, hi with
    | 0, _ | 1, _ | 2, _ | 3, _ | 4, _ | 5, _ | 6, _ | 7, _ | 8, _ | 9, _ | 10, _ | 11, _ | 12, _ | 13, _ | 14, _ | 15, _ | 16, _ | 17, _ | 18, _ => rfl
    | n + 19, h => exact absurd h (by omega)
  have hD3 : (match (DataW.agg (xs.map (·.1)) : DataW Unit) with | DataW.agg l => l[i]? | _ => Option.none) = some (.lit (.int .i64 k)) := by
    show (xs.map (·.1))[i]? = _
    rw [List.getElem?_map, hx, e2]; rfl
  have hk : (DataW.lit (.int .i64 (ordN i : Int)) : DataW Unit) = .lit (.int .i64 k) := Option.some.inj (hD2.symm.trans (hD.trans hD3))
  simp only [DataW.lit.injEq, Lit.int.injEq, true_and] at hk
  rw [ordV_get hi, Option.some.injEq] at hv
  subst hv
  have hcell := World.var?_cell hg0 hv0 i
  have hc : cs0[i]? = some (.int .i64 k) := by
    have := congrArg (fun l => l[0]?) e1
    simpa [List.getElem?_take, List.getElem?_drop] using this
  have hcc : W.cell? ⟨0, i, none⟩ = some (.int .i64 (ordN i : Int)) := by rw [hcell, hc, hk]
  rw [show (⟨0, 0, none⟩ : Addr).add i = ⟨0, i, none⟩ from by cases i <;> simp [Addr.add]]
  unfold World.cell? at hcc
  unfold cellAt
  exact hcc

theorem walk (a0 : ByteArray) (a1 : Int) (a2 : Int) (w : World) (hG : Reads w.heap ⟨0, 0, none⟩ ordV) (w0 : a0.size ≤ maxLen) (w1 : (Lit.int .i64 a1).wf = true) (w2 : (Lit.int .i64 a2).wf = true) :
    Calls Tryd.prog 4 #[.string a0, .int .i64 a1, .int .i64 a2] w fun e w' => e = .returned (.bool true) ∧ ∃ w'' : World, w'.Alike w'' ∧ Below w.heap.size w w'' := by
  rw [str_bys a0]
  exact below_of (InflateStored_law (bys a0) a1 a2 hG w0 w1 w2)

set_option maxRecDepth 100000 in
theorem lifted (os : Os) (started : os.Started) (H : Type) (enc : TypeId × Value → H) :
    ReturnsInHanded {} Tryd.checked os 4 .any (fun w args => (Rows.inflateStoredSpec.pre enc Tryd.prog Tryd.f4 [] false w args ∧ laidMetH Tryd.prog laidL w) ∧ sizedMet enc Tryd.prog Tryd.f4 (OpenSpec.ofChange Rows.inflateStoredSpec) false w args) (Rows.inflateStoredSpec.post enc Tryd.prog Tryd.f4 false true false false) := by
  refine returnsInHanded_of_change_and (C := Tryd.checked) (X := fun w _ => laidMetH Tryd.prog laidL w) (fun _ _ _ hh h => h.of_heap hh) own started (by kernel_rfl) Tryd.func4
    (ChangeSpec.witness_shaped (enc := enc) (C := Tryd.checked) (os := os) (X := fun w _ => laidMetH Tryd.prog laidL w) false (World.doorLaid Tryd.prog 400 os) #[.string ByteArray.empty, .int .i64 0, .int .i64 0] 8 rfl (World.shaped_of_RefB (by kernel_rfl) (by kernel_rfl)) (by kernel_rfl) (by kernel_rfl) (by kernel_rfl) (door_met os _)) ?_
  intro W base args ds gs before hval0 hW _ _ hL _
  have hval : ∀ (j : Nat) t v, Tryd.f4.params[j]? = some t → args[j]? = some v → Value.okWide Tryd.prog W .any base t v := hval0
  have hW' := hW
  obtain ⟨p, q, hA0, hV, rfl, hfz, hnd⟩ := hW
  have hA : DataW.TrodAll enc Tryd.prog W 0 (fun _ => true) true Tryd.f4.params.toList args.toList ds p := hA0
  rw [Tryd.params4] at hA hval
  obtain ⟨v0, vs0, d0, ds0, p0, q0, hargs, rfl, rfl, h0, r0⟩ := trodAll_cons hA
  obtain ⟨v1, vs1, d1, ds1, p1, q1, rfl, rfl, rfl, h1, r1⟩ := trodAll_cons r0
  obtain ⟨v2, vs2, d2, ds2, p2, q2, rfl, rfl, rfl, h2, r2⟩ := trodAll_cons r1
  obtain ⟨rfl, rfl, rfl⟩ := trodAll_nil r2
  obtain rfl : args = #[v0, v1, v2] := by cases args; simp_all
  obtain ⟨rfl, rfl⟩ := trodVars_none hV
  obtain ⟨a0, rfl, rfl, rfl, w0⟩ := open_string Tryd.underlying9 (hval 0 9 v0 rfl rfl) h0
  obtain ⟨a1, rfl, rfl, rfl, w1⟩ := open_int Tryd.underlying3 (hval 1 3 v1 rfl rfl) h1
  obtain ⟨a2, rfl, rfl, rfl, w2⟩ := open_int Tryd.underlying3 (hval 2 3 v2 rfl rfl) h2
  clear hA0 hval0
  refine (walk a0 a1 a2 W (table hL) w0 w1 w2).mono fun e W' ⟨he, W'', hal, bel⟩ => ?_
  subst he
  exact ⟨_, rfl, ChangeSpec.post_alike ⟨_, _, _, [], _, [], hW', trodAll_mk1 (shut_bool Tryd.underlying4 _), (trodAll_cons_mk (shut_string Tryd.underlying9 w0) (trodAll_cons_mk (shut_int Tryd.underlying3 w1) (trodAll_cons_mk (shut_int Tryd.underlying3 w2) trodAll_mk0))), rfl, bel.frame _, fun h => by cases h⟩ hal⟩

theorem over : Rows.inflateStoredRow.holds Tryd.pinned (OpenSpec.ofChange Rows.inflateStoredSpec) :=
  OpenClaim.holds_of_wide 4 Tryd.f4 rfl rfl rfl rfl rfl rfl rfl ⟨rfl, rfl, rfl, rfl, rfl⟩ rfl rfl rfl rfl rfl (by kernel_rfl) Tryd.func4 (by kernel_rfl)
    (of_decide_eq_true (by kernel_rfl)) (by unfold Func.isWrapper; first | (rw [if_pos (by decide +kernel)]; kernel_rfl) | (rw [if_neg (by decide +kernel)]; exact ⟨rfl, rfl⟩))
    (fun os started H enc _ => lifted os started H enc)

end Go.Proofs.YtpnkoniomalcpaaDoor.inflateStored
namespace Go.Proofs.YtpnkoniomalcpaaDoor
/-- The given statement of 'InflateStored': for every input the law returns true and its arguments read as before, where the table reads as the program's text lays it; the card ties that to the text. -/
theorem InflateStored_proved : Rows.InflateStoredCardSaid :=
  Claim7.holds_tied_plain_at .later [] [.widerDeep] true (true, "55a97ccab7e1f3e3c0acef1ddce985bb4519c3906812c3988e873e24c62c6c54") false
    inflateStored.over (fun _ h => by cases h) (by kernel_rfl) (fun _ h => by cases h) inflateStored_row_tie rfl ⟨rfl, rfl⟩ (by kernel_rfl) rfl
    (fun f fn hf hfn => by
      obtain rfl : f = 4 := Option.some.inj ((show Tryd.prog.funcNamed "lighter/lighterlaw07.InflateStored" = some 4 by kernel_rfl).symm.trans hf) |>.symm
      obtain rfl : fn = Tryd.f4 := (Option.some.inj (Tryd.func4.symm.trans hfn)).symm
      exact ⟨by kernel_rfl, fun j t ht => by
        rw [Tryd.params4] at ht
        have hm : t ∈ [9, 3, 3] := by simpa using Array.mem_of_getElem? ht
        have hall : ([9, 3, 3].all fun u => !Tryd.prog.wantsStandIn u) = true := by kernel_rfl
        exact (show Tryd.prog.wantsStandIn t = false by simpa using List.all_eq_true.1 hall t hm)⟩)
    (by kernel_rfl)
#print axioms InflateStored_proved
end Go.Proofs.YtpnkoniomalcpaaDoor
