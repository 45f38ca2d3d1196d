/- The given law 'TopBlocks': the row's step, from the theorem 'TopBlocks_law' over heaps. -/
import Derived.Test.YtameljhbkedhjaaGreatDoorPkG
import Derived.Test.YtameljhbkedhjaaGreatDoorRows
import Derived.Test.YtameljhbkedhjaaGreatDoorCards
import Derived.Test.YtameljhbkedhjaaGreatDoorTie
import Derived.SevenTiedAt
import Derived.LaidMore
import Derived.Stop.Joined
import Derived.WalkKit
import Derived.ProofKit
import Derived.OpenShut
import Derived.ShutString
import Derived.ChangeOld
import Derived.Below
namespace Go.Proofs.YtameljhbkedhjaaGreatDoor.topBlocks
open Go Go.Vc Go.ChangeShapes Go.WideShapes Go.ChangeAt Go.RowKit
open Go.ChangeMaps (open_string shut_string)
set_option linter.unusedVariables false
set_option linter.unusedSimpArgs false

theorem own : ownKnob Tryz.prog.godebug = none := by kernel_rfl
theorem laidOut : laidOutB Tryz.prog = true := by kernel_rfl
abbrev laidL : List (String × DataW Unit) := [("lighter/block.order", Rows.laid_lighter_block_order), ("lighter/inflate.order", Rows.laid_lighter_inflate_order)]
theorem door_met (os : Os) (args : Array Value) : laidMetH Tryz.prog laidL ((World.doorLaid Tryz.prog 400 os).forCall (fun _ _ => 0) ⟨#[], args, []⟩).memory :=
  laidMetH_of_parts3 (fuel := 8) (laidMet_of_run' 8 (by kernel_rfl) (by kernel_rfl)) (by kernel_rfl) (by kernel_rfl)
theorem gD : Tryz.prog.globalNamed "lighter/block.order" = some 0 := by kernel_rfl
theorem tD : (Tryz.prog.globals[0]?).map (·.type) = some 114 := by kernel_rfl
theorem table {W : World} (h : laidMetH Tryz.prog laidL W) : Reads W.heap ⟨0, 0, none⟩ ordV := by
  rw [MakeChecks.laidMetH_plain _ _ _ (by kernel_rfl)] at h
  obtain ⟨ps, ⟨g0, t0, cs0, f0, p0, q0, hg0, ht0, hv0, hd0, _, _⟩, _, _⟩ := h
  obtain rfl := Option.some.inj (gD.symm.trans hg0)
  obtain rfl := Option.some.inj (tD.symm.trans ht0)
  obtain ⟨xs, m1, rfl, hx1, hlen, hn, hel⟩ := DataW.trod_array Tryz.underlying114 hd0
  have cE : Tryz.prog.cellsOf 3 = 1 := by kernel_rfl
  rw [Prod.mk.injEq] at hx1
  intro i v hv
  have hi : i < 19 := by have := (List.getElem?_eq_some_iff.1 hv).1; rwa [show ordV.length = 19 from rfl] at this
  have hel := hel i hi
  rw [cE, Nat.mul_one] at hel
  obtain ⟨x, hx⟩ : ∃ x, xs[i]? = some x := ⟨xs[i], List.getElem?_eq_getElem (by omega)⟩
  rw [hx] at hel
  obtain ⟨k, e1, e2, _⟩ := DataW.trod_int Tryz.underlying3 hel
  have hD := congrArg (fun d => match d with | DataW.agg l => l[i]? | _ => Option.none) hx1.1
  have hD2 : (match (Rows.laid_lighter_block_order : DataW Unit) with | DataW.agg l => l[i]? | _ => Option.none) = some (.lit (.int .i64 (ordN i : Int))) := by
    match i, hi with
    | 0, _ | 1, _ | 2, _ | 3, _ | 4, _ | 5, _ | 6, _ | 7, _ | 8, _ | 9, _ | 10, _ | 11, _ | 12, _ | 13, _ | 14, _ | 15, _ | 16, _ | 17, _ | 18, _ => rfl
    | n + 19, h => exact absurd h (by omega)
  have hD3 : (match (DataW.agg (xs.map (·.1)) : DataW Unit) with | DataW.agg l => l[i]? | _ => Option.none) = some (.lit (.int .i64 k)) := by
    show (xs.map (·.1))[i]? = _
    rw [List.getElem?_map, hx, e2]; rfl
  have hk : (DataW.lit (.int .i64 (ordN i : Int)) : DataW Unit) = .lit (.int .i64 k) := Option.some.inj (hD2.symm.trans (hD.trans hD3))
  simp only [DataW.lit.injEq, Lit.int.injEq, true_and] at hk
  rw [ordV_get hi, Option.some.injEq] at hv
  subst hv
  have hcell := World.var?_cell hg0 hv0 i
  have hc : cs0[i]? = some (.int .i64 k) := by
    have := congrArg (fun l => l[0]?) e1
    simpa [List.getElem?_take, List.getElem?_drop] using this
  have hcc : W.cell? ⟨0, i, none⟩ = some (.int .i64 (ordN i : Int)) := by rw [hcell, hc, hk]
  rw [show (⟨0, 0, none⟩ : Addr).add i = ⟨0, i, none⟩ from by cases i <;> simp [Addr.add]]
  unfold World.cell? at hcc
  unfold cellAt
  exact hcc

theorem gD2 : Tryz.prog.globalNamed "lighter/inflate.order" = some 1 := by kernel_rfl
theorem tD2 : (Tryz.prog.globals[1]?).map (·.type) = some 114 := by kernel_rfl
theorem table2 {W : World} (h : laidMetH Tryz.prog laidL W) : Reads W.heap ⟨1, 0, none⟩ ordV := by
  rw [MakeChecks.laidMetH_plain _ _ _ (by kernel_rfl)] at h
  obtain ⟨ps, ⟨_, _, _, _, _, _, _, _, _, _, ⟨g0, t0, cs0, f0, p0, q0, hg0, ht0, hv0, hd0, _, _⟩, _⟩, _, _⟩ := h
  obtain rfl := Option.some.inj (gD2.symm.trans hg0)
  obtain rfl := Option.some.inj (tD2.symm.trans ht0)
  obtain ⟨xs, m1, rfl, hx1, hlen, hn, hel⟩ := DataW.trod_array Tryz.underlying114 hd0
  have cE : Tryz.prog.cellsOf 3 = 1 := by kernel_rfl
  rw [Prod.mk.injEq] at hx1
  intro i v hv
  have hi : i < 19 := by have := (List.getElem?_eq_some_iff.1 hv).1; rwa [show ordV.length = 19 from rfl] at this
  have hel := hel i hi
  rw [cE, Nat.mul_one] at hel
  obtain ⟨x, hx⟩ : ∃ x, xs[i]? = some x := ⟨xs[i], List.getElem?_eq_getElem (by omega)⟩
  rw [hx] at hel
  obtain ⟨k, e1, e2, _⟩ := DataW.trod_int Tryz.underlying3 hel
  have hD := congrArg (fun d => match d with | DataW.agg l => l[i]? | _ => Option.none) hx1.1
  have hD2 : (match (Rows.laid_lighter_inflate_order : DataW Unit) with | DataW.agg l => l[i]? | _ => Option.none) = some (.lit (.int .i64 (ordN i : Int))) := by
    match i, hi with
    | 0, _ | 1, _ | 2, _ | 3, _ | 4, _ | 5, _ | 6, _ | 7, _ | 8, _ | 9, _ | 10, _ | 11, _ | 12, _ | 13, _ | 14, _ | 15, _ | 16, _ | 17, _ | 18, _ => rfl
    | n + 19, h => exact absurd h (by omega)
  have hD3 : (match (DataW.agg (xs.map (·.1)) : DataW Unit) with | DataW.agg l => l[i]? | _ => Option.none) = some (.lit (.int .i64 k)) := by
    show (xs.map (·.1))[i]? = _
    rw [List.getElem?_map, hx, e2]; rfl
  have hk : (DataW.lit (.int .i64 (ordN i : Int)) : DataW Unit) = .lit (.int .i64 k) := Option.some.inj (hD2.symm.trans (hD.trans hD3))
  simp only [DataW.lit.injEq, Lit.int.injEq, true_and] at hk
  rw [ordV_get hi, Option.some.injEq] at hv
  subst hv
  have hcell := World.var?_cell hg0 hv0 i
  have hc : cs0[i]? = some (.int .i64 k) := by
    have := congrArg (fun l => l[0]?) e1
    simpa [List.getElem?_take, List.getElem?_drop] using this
  have hcc : W.cell? ⟨1, i, none⟩ = some (.int .i64 (ordN i : Int)) := by rw [hcell, hc, hk]
  rw [show (⟨1, 0, none⟩ : Addr).add i = ⟨1, i, none⟩ from by cases i <;> simp [Addr.add]]
  unfold World.cell? at hcc
  unfold cellAt
  exact hcc

theorem walk (a0 : Option Addr) (len0 cap0 : Nat) (a1 : Int) (w : World) (hG : Reads w.heap ⟨0, 0, none⟩ ordV) (hG2 : Reads w.heap ⟨1, 0, none⟩ ordV) (w0 : StructRow [.string, .int .i64] w.heap a0 len0 cap0) (w1 : (Lit.int .i64 a1).wf = true) :
    Calls Tryz.prog 3 #[.slice a0 len0 cap0, .int .i64 a1] w fun e w' => e = .returned (.bool true) ∧ ∃ w'' : World, w'.Alike w'' ∧ Below w.heap.size w w'' := by
  exact below_of (TopBlocks_law a0 len0 cap0 a1 hG hG2 w0 w1)

set_option maxRecDepth 100000 in
theorem lifted (os : Os) (started : os.Started) (H : Type) (enc : TypeId × Value → H) :
    ReturnsInHanded {} Tryz.checked os 3 .any (fun w args => (Rows.topBlocksSpec.pre enc Tryz.prog Tryz.f3 [] false w args ∧ laidMetH Tryz.prog laidL w) ∧ sizedMet enc Tryz.prog Tryz.f3 (OpenSpec.ofChange Rows.topBlocksSpec) false w args) (Rows.topBlocksSpec.post enc Tryz.prog Tryz.f3 false true false false) := by
  refine returnsInHanded_of_change_and (C := Tryz.checked) (X := fun w _ => laidMetH Tryz.prog laidL w) (fun _ _ _ hh h => h.of_heap hh) own started (by kernel_rfl) Tryz.func3
    (ChangeSpec.witness_shaped (enc := enc) (C := Tryz.checked) (os := os) (X := fun w _ => laidMetH Tryz.prog laidL w) false (World.doorLaid Tryz.prog 400 os) #[.slice none 0 0, .int .i64 0] 8 rfl (World.shaped_of_RefB (by kernel_rfl) (by kernel_rfl)) (by kernel_rfl) (by kernel_rfl) (by kernel_rfl) (door_met os _)) ?_
  intro W base args ds gs before hval0 hW _ _ hL _
  have hval : ∀ (j : Nat) t v, Tryz.f3.params[j]? = some t → args[j]? = some v → Value.okWide Tryz.prog W .any base t v := hval0
  have hW' := hW
  obtain ⟨p, q, hA0, hV, rfl, hfz, hnd⟩ := hW
  have hA : DataW.TrodAll enc Tryz.prog W 0 (fun _ => true) true Tryz.f3.params.toList args.toList ds p := hA0
  rw [Tryz.params3] at hA hval
  obtain ⟨v0, vs0, d0, ds0, p0, q0, hargs, rfl, rfl, h0, r0⟩ := trodAll_cons hA
  obtain ⟨v1, vs1, d1, ds1, p1, q1, rfl, rfl, rfl, h1, r1⟩ := trodAll_cons r0
  obtain ⟨rfl, rfl, rfl⟩ := trodAll_nil r1
  obtain rfl : args = #[v0, v1] := by cases args; simp_all
  obtain ⟨rfl, rfl⟩ := trodVars_none hV
  have k0 := h0
  have lt0 : ∀ x ∈ p0, x.block < W.heap.size := by obtain ⟨m, hm⟩ := k0; exact DataW.trod_lt m _ _ _ hm
  obtain ⟨a0, len0, cap0, rfl⟩ := okWide_slice Tryz.underlying22 (hval 0 22 v0 rfl rfl)
  have w0 : StructRow [.string, .int .i64] W.heap a0 len0 cap0 := by
    obtain ⟨fuel, hf⟩ := h0
    exact open_structs Tryz.underlying22 Tryz.underlying29 (by kernel_rfl) (by kernel_rfl) (by kernel_rfl) (by kernel_rfl) hf
  obtain ⟨a1, rfl, rfl, rfl, w1⟩ := open_int Tryz.underlying3 (hval 1 3 v1 rfl rfl) h1
  clear hA0 hval0
  refine (walk a0 len0 cap0 a1 W (table hL) (table2 hL) w0 w1).mono fun e W' ⟨he, W'', hal, bel⟩ => ?_
  subst he
  exact ⟨_, rfl, ChangeSpec.post_alike ⟨_, _, _, [], _, [], hW', trodAll_mk1 (shut_bool Tryz.underlying4 _), (trodAll_cons_mk (Below.trod laidOut (by kernel_rfl) (of_decide_eq_true (by kernel_rfl)) k0 bel lt0) (trodAll_cons_mk (shut_int Tryz.underlying3 w1) trodAll_mk0)), rfl, bel.frame _, fun h => by cases h⟩ hal⟩

theorem over : Rows.topBlocksRow.holds Tryz.pinned (OpenSpec.ofChange Rows.topBlocksSpec) :=
  OpenClaim.holds_of_wide 3 Tryz.f3 rfl rfl rfl rfl rfl rfl rfl ⟨rfl, rfl, rfl, rfl, rfl⟩ rfl rfl rfl rfl rfl (by kernel_rfl) Tryz.func3 (by kernel_rfl)
    (of_decide_eq_true (by kernel_rfl)) (by unfold Func.isWrapper; first | (rw [if_pos (by decide +kernel)]; kernel_rfl) | (rw [if_neg (by decide +kernel)]; exact ⟨rfl, rfl⟩))
    (fun os started H enc _ => lifted os started H enc)

end Go.Proofs.YtameljhbkedhjaaGreatDoor.topBlocks
namespace Go.Proofs.YtameljhbkedhjaaGreatDoor
/-- The given statement of 'TopBlocks': for every input the law returns true and its arguments read as before, where the table reads as the program's text lays it; the card ties that to the text. -/
theorem TopBlocks_proved : Rows.TopBlocksCardSaid :=
  Claim7.holds_tied_plain_at .later [] [.widerDeep, .widerDeep] true (true, "c2f569cd7d54286faf709b57fcee99a41a31e08228627ee6ad09b3dd0f21db1b") false
    topBlocks.over (fun _ h => by cases h) (by kernel_rfl) (fun _ h => by cases h) topBlocks_row_tie rfl ⟨rfl, rfl⟩ (by kernel_rfl) rfl
    (fun f fn hf hfn => by
      obtain rfl : f = 3 := Option.some.inj ((show Tryz.prog.funcNamed "lighter/lightertop.TopBlocks" = some 3 by kernel_rfl).symm.trans hf) |>.symm
      obtain rfl : fn = Tryz.f3 := (Option.some.inj (Tryz.func3.symm.trans hfn)).symm
      exact ⟨by kernel_rfl, fun j t ht => by
        rw [Tryz.params3] at ht
        have hm : t ∈ [22, 3] := by simpa using Array.mem_of_getElem? ht
        have hall : ([22, 3].all fun u => !Tryz.prog.wantsStandIn u) = true := by kernel_rfl
        exact (show Tryz.prog.wantsStandIn t = false by simpa using List.all_eq_true.1 hall t hm)⟩)
    (by kernel_rfl)
#print axioms TopBlocks_proved
end Go.Proofs.YtameljhbkedhjaaGreatDoor
