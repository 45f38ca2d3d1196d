/- The given law 'DosTexts': the row's step, from the theorem 'DosTexts_law' over heaps. -/
import Derived.Test.YtildpckmmkphcaaDoorRows
import Derived.Test.YtildpckmmkphcaaDoorLaw11d
import Derived.Test.YtildpckmmkphcaaDoorVcLib
import Derived.Test.YtildpckmmkphcaaDoorCards
import Derived.Test.YtildpckmmkphcaaDoorTie
import Derived.SevenTiedAt
import Derived.LaidMore
import Derived.Stop.Joined
import Derived.WalkKit
import Derived.ProofKit
import Derived.OpenShut
import Derived.ShutString
import Derived.ChangeOld
import Derived.Below
namespace Go.Proofs.YtildpckmmkphcaaDoor.dosTexts
open Go Go.Vc Go.ChangeShapes Go.WideShapes Go.ChangeAt Go.RowKit
open Go.ChangeMaps (open_string shut_string)
set_option linter.unusedVariables false
set_option linter.unusedSimpArgs false

theorem own : ownKnob Tryd.prog.godebug = none := by kernel_rfl
theorem laidOut : laidOutB Tryd.prog = true := by kernel_rfl
abbrev laidL : List (String × DataW Unit) := [("lighter/dos.form", Rows.laid_lighter_dos_form)]
theorem gD : Tryd.prog.globalNamed "lighter/dos.form" = some 0 := by kernel_rfl
theorem tD : (Tryd.prog.globals[0]?).map (·.type) = some 43 := by kernel_rfl
theorem door_met (os : Os) (args : Array Value) : laidMetH Tryd.prog laidL ((World.doorLaid Tryd.prog 400 os).forCall (fun _ _ => 0) ⟨#[], args, []⟩).memory :=
  laidMetH_of_parts3 (fuel := 8) (laidMet_of_run' 8 (by kernel_rfl) (by kernel_rfl)) (by kernel_rfl) (by kernel_rfl)
theorem table {W : World} (h : laidMetH Tryd.prog laidL W) : Reads W.heap ⟨0, 0, none⟩ formV := by
  rw [MakeChecks.laidMetH_plain _ _ _ (by kernel_rfl)] at h
  obtain ⟨ps, ⟨g0, t0, cs0, f0, p0, q0, hg0, ht0, hv0, hd0, _, _⟩, _, _⟩ := h
  obtain rfl := Option.some.inj (gD.symm.trans hg0)
  obtain rfl := Option.some.inj (tD.symm.trans ht0)
  obtain ⟨xs, m1, rfl, hx1, hlen, hn, hel⟩ := DataW.trod_array Tryd.underlying43 hd0
  have cE : Tryd.prog.cellsOf 42 = 2 := by kernel_rfl
  have cI : Tryd.prog.cellsOf 3 = 1 := by kernel_rfl
  rw [Prod.mk.injEq] at hx1
  intro i v hv
  have hi : i < 12 := by have := (List.getElem?_eq_some_iff.1 hv).1; rwa [show formV.length = 12 from rfl] at this
  have hel := hel (i / 2) (by omega)
  rw [cE] at hel
  obtain ⟨x, hx⟩ : ∃ x, xs[i / 2]? = some x := ⟨xs[i / 2], List.getElem?_eq_getElem (by omega)⟩
  rw [hx] at hel
  obtain ⟨ys, n', hn', rfl, hyl, hyn, hf⟩ := DataW.trod_struct Tryd.underlying42 hel
  have hk : ∃ k, cs0[i]? = some (.int .i64 k) ∧ (ys.map (·.1))[i % 2]? = some (.lit (.int .i64 k)) := by
    rcases Nat.mod_two_eq_zero_or_one i with h0 | h0
    · have h := hf 0 _ rfl
      obtain ⟨y, hy⟩ : ∃ y, ys[0]? = some y := ⟨ys[0]'(by rw [hyn]; decide), List.getElem?_eq_getElem _⟩
      rw [hy] at h
      obtain ⟨k, e1, e2, _⟩ := DataW.trod_int Tryd.underlying3 h
      refine ⟨k, ?_, by rw [h0, List.getElem?_map, hy, e2]; rfl⟩
      have hq := congrArg (fun l => l[0]?) e1
      simp [List.getElem?_take, List.getElem?_drop, cI] at hq
      rwa [show i / 2 * 2 = i by omega] at hq
    · have h := hf 1 _ rfl
      obtain ⟨y, hy⟩ : ∃ y, ys[1]? = some y := ⟨ys[1]'(by rw [hyn]; decide), List.getElem?_eq_getElem _⟩
      rw [hy] at h
      obtain ⟨k, e1, e2, _⟩ := DataW.trod_int Tryd.underlying3 h
      refine ⟨k, ?_, by rw [h0, List.getElem?_map, hy, e2]; rfl⟩
      have hq := congrArg (fun l => l[0]?) e1
      simp [List.getElem?_take, List.getElem?_drop, cI] at hq
      rwa [show i / 2 * 2 + 1 = i by omega] at hq
  obtain ⟨k, hc, hk⟩ := hk
  have hD := congrArg (fun d : DataW Unit => match d with | DataW.agg l => (match l[i / 2]? with | some (DataW.agg m) => m[i % 2]? | _ => Option.none) | _ => Option.none) hx1.1
  have hD2 : (fun d : DataW Unit => match d with | DataW.agg l => (match l[i / 2]? with | some (DataW.agg m) => m[i % 2]? | _ => Option.none) | _ => Option.none) (Rows.laid_lighter_dos_form : DataW Unit) = some (.lit (.int .i64 (formF i : Int))) := by
    match i, hi with
    | 0, _ | 1, _ | 2, _ | 3, _ | 4, _ | 5, _ | 6, _ | 7, _ | 8, _ | 9, _ | 10, _ | 11, _ => rfl
    | n + 12, h => exact absurd h (by omega)
  have hD3 : (fun d : DataW Unit => match d with | DataW.agg l => (match l[i / 2]? with | some (DataW.agg m) => m[i % 2]? | _ => Option.none) | _ => Option.none) (DataW.agg (xs.map (·.1)) : DataW Unit) = some (.lit (.int .i64 k)) := by
    show (match (xs.map (·.1))[i / 2]? with | some (DataW.agg m) => m[i % 2]? | _ => Option.none) = _
    rw [List.getElem?_map, hx]; exact hk
  have hk : (DataW.lit (.int .i64 (formF i : Int)) : DataW Unit) = .lit (.int .i64 k) := Option.some.inj (hD2.symm.trans (hD.trans hD3))
  simp only [DataW.lit.injEq, Lit.int.injEq, true_and] at hk
  rw [formV_get hi, Option.some.injEq] at hv
  subst hv
  have hcell := World.var?_cell hg0 hv0 i
  have hcc : W.cell? ⟨0, i, none⟩ = some (.int .i64 (formF i : Int)) := by rw [hcell, hc, hk]
  rw [show (⟨0, 0, none⟩ : Addr).add i = ⟨0, i, none⟩ from by cases i <;> simp [Addr.add]]
  unfold World.cell? at hcc
  unfold cellAt
  exact hcc

theorem walk (l0 : List Value) (a1 : ByteArray) (w : World) (hG : Reads w.heap ⟨0, 0, none⟩ formV) (n0 : l0.length = ([.int .i64, .int .i64, .int .i64, .int .i64, .int .i64, .int .i64] : List TypeDesc).length) (w0 : FitAll [.int .i64, .int .i64, .int .i64, .int .i64, .int .i64, .int .i64] fun j => l0[j]?) (w1 : a1.size ≤ maxLen) :
    Calls Tryd.prog 3 #[.agg l0.toArray, .string a1] w fun e w' => e = .returned (.bool true) ∧ ∃ w'' : World, w'.Alike w'' ∧ Below w.heap.size w w'' := by
  rw [str_bys a1]
  exact below_of (DosTexts_law l0 (bys a1) hG n0 w0 w1)

set_option maxRecDepth 100000 in
theorem lifted (os : Os) (started : os.Started) (H : Type) (enc : TypeId × Value → H) :
    ReturnsInHanded {} Tryd.checked os 3 .any (fun w args => (Rows.dosTextsSpec.pre enc Tryd.prog Tryd.f3 [] false w args ∧ laidMetH Tryd.prog laidL w) ∧ sizedMet enc Tryd.prog Tryd.f3 (OpenSpec.ofChange Rows.dosTextsSpec) false w args) (Rows.dosTextsSpec.post enc Tryd.prog Tryd.f3 false true false false) := by
  refine returnsInHanded_of_change_and (C := Tryd.checked) (X := fun w _ => laidMetH Tryd.prog laidL w) (fun _ _ _ hh h => h.of_heap hh) own started (by kernel_rfl) Tryd.func3
    (ChangeSpec.witness_shaped (enc := enc) (C := Tryd.checked) (os := os) (X := fun w _ => laidMetH Tryd.prog laidL w) false (World.doorLaid Tryd.prog 400 os) #[(.agg #[(.int .i64 0), (.int .i64 0), (.int .i64 0), (.int .i64 0), (.int .i64 0), (.int .i64 0)]), .string ByteArray.empty] 8 rfl (World.shaped_of_RefB (by kernel_rfl) (by kernel_rfl)) (by kernel_rfl) (by kernel_rfl) (by kernel_rfl) (door_met os _)) ?_
  intro W base args ds gs before hval0 hW _ _ hL _
  have hval : ∀ (j : Nat) t v, Tryd.f3.params[j]? = some t → args[j]? = some v → Value.okWide Tryd.prog W .any base t v := hval0
  have hW' := hW
  obtain ⟨p, q, hA0, hV, rfl, hfz, hnd⟩ := hW
  have hA : DataW.TrodAll enc Tryd.prog W 0 (fun _ => true) true Tryd.f3.params.toList args.toList ds p := hA0
  rw [Tryd.params3] at hA hval
  obtain ⟨v0, vs0, d0, ds0, p0, q0, hargs, rfl, rfl, h0, r0⟩ := trodAll_cons hA
  obtain ⟨v1, vs1, d1, ds1, p1, q1, rfl, rfl, rfl, h1, r1⟩ := trodAll_cons r0
  obtain ⟨rfl, rfl, rfl⟩ := trodAll_nil r1
  obtain rfl : args = #[v0, v1] := by cases args; simp_all
  obtain ⟨rfl, rfl⟩ := trodVars_none hV
  have k0 := h0
  have lt0 : ∀ x ∈ p0, x.block < W.heap.size := by obtain ⟨m, hm⟩ := k0; exact DataW.trod_lt m _ _ _ hm
  obtain ⟨l0, rfl, n0, w0⟩ := open_fields Tryd.underlying23 (by kernel_rfl) (by kernel_rfl) (by kernel_rfl) (ds := [.int .i64, .int .i64, .int .i64, .int .i64, .int .i64, .int .i64]) (by kernel_rfl) (hval 0 23 v0 rfl rfl) h0
  obtain ⟨a1, rfl, rfl, rfl, w1⟩ := open_string Tryd.underlying9 (hval 1 9 v1 rfl rfl) h1
  clear hA0 hval0
  refine (walk l0 a1 W (table hL) n0 w0 w1).mono fun e W' ⟨he, W'', hal, bel⟩ => ?_
  subst he
  exact ⟨_, rfl, ChangeSpec.post_alike ⟨_, _, _, [], _, [], hW', trodAll_mk1 (shut_bool Tryd.underlying4 _), (trodAll_cons_mk (Below.trod laidOut (by kernel_rfl) (of_decide_eq_true (by kernel_rfl)) k0 bel lt0) (trodAll_cons_mk (shut_string Tryd.underlying9 w1) trodAll_mk0)), rfl, bel.frame _, fun h => by cases h⟩ hal⟩

theorem over : Rows.dosTextsRow.holds Tryd.pinned (OpenSpec.ofChange Rows.dosTextsSpec) :=
  OpenClaim.holds_of_wide 3 Tryd.f3 rfl rfl rfl rfl rfl rfl rfl ⟨rfl, rfl, rfl, rfl, rfl⟩ rfl rfl rfl rfl rfl (by kernel_rfl) Tryd.func3 (by kernel_rfl)
    (of_decide_eq_true (by kernel_rfl)) (by unfold Func.isWrapper; first | (rw [if_pos (by decide +kernel)]; kernel_rfl) | (rw [if_neg (by decide +kernel)]; exact ⟨rfl, rfl⟩))
    (fun os started H enc _ => lifted os started H enc)

end Go.Proofs.YtildpckmmkphcaaDoor.dosTexts
namespace Go.Proofs.YtildpckmmkphcaaDoor
/-- The given statement of 'DosTexts': for every input the law returns true and its arguments read as before, where the table reads as the program's text lays it; the card ties that to the text. -/
theorem DosTexts_proved : Rows.DosTextsCardSaid :=
  Claim7.holds_tied_plain_at .later [] [.data] true (true, "33c9057fe8de91dd0f531247924c9a03dbb62b25d659e41ec0e1173452c741f1") false
    dosTexts.over (fun _ h => by cases h) (by kernel_rfl) (fun _ h => by cases h) dosTexts_row_tie rfl ⟨rfl, rfl⟩ (by kernel_rfl) rfl
    (fun f fn hf hfn => by
      obtain rfl : f = 3 := Option.some.inj ((show Tryd.prog.funcNamed "lighter/lighterlaw11.DosTexts" = some 3 by kernel_rfl).symm.trans hf) |>.symm
      obtain rfl : fn = Tryd.f3 := (Option.some.inj (Tryd.func3.symm.trans hfn)).symm
      exact ⟨by kernel_rfl, fun j t ht => by
        rw [Tryd.params3] at ht
        have hm : t ∈ [23, 9] := by simpa using Array.mem_of_getElem? ht
        have hall : ([23, 9].all fun u => !Tryd.prog.wantsStandIn u) = true := by kernel_rfl
        exact (show Tryd.prog.wantsStandIn t = false by simpa using List.all_eq_true.1 hall t hm)⟩)
    (by kernel_rfl)
#print axioms DosTexts_proved
end Go.Proofs.YtildpckmmkphcaaDoor
