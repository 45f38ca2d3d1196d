/- A select of one case with a default, in a function whose code is two parts, then the region that begins with it, then a last part. -/
import Derived.Test.YtelldphojhmhfaaVcSoundC
import Derived.Conc.LoneSelect
set_option linter.unusedSimpArgs false
set_option linter.unusedVariables false
namespace Go.Vc
open Go Go.Conc Go.RowKit
/-- what a select of one case does: ch, what is sent (none: a receive), the element's zero -/
def pSel (H : Heap) (ch : Value) (snd : Option Value) (z : Value) (K : Value → Heap → Prop) : Prop := match ch, snd with
  | .chan none, none => K (.tuple #[.int .i64 (-1), .bool false, z]) H
  | .chan none, some _ => K (.tuple #[.int .i64 (-1), .bool false]) H
  | .chan (some c), none => match H[c]? with
    | some (.chan cap buf false s r tm) => (buf.size = 0 → K (.tuple #[.int .i64 (-1), .bool false, z]) H) ∧ (0 < buf.size → K (.tuple #[.int .i64 0, .bool true, buf.getD 0 undef]) (H.setIfInBounds c (.chan cap (buf.extract 1 buf.size) false s (r + 1) tm)))
    | _ => False
  | .chan (some c), some v => match H[c]? with
    | some (.chan cap buf false s r tm) => (buf.size < cap → K (.tuple #[.int .i64 0, .bool false]) (H.setIfInBounds c (.chan cap (buf.push v) false (s + 1) r tm))) ∧ (cap ≤ buf.size → K (.tuple #[.int .i64 (-1), .bool false]) H)
    | _ => False
  | _, _ => False
section
variable {P : Program} {Q : Exit → Act → World → Prop} {a : Act} {w : World}
/-- as Code.wp, of a frame that was called in the common way -/
def wpN (P : Program) (c : Code) (Q : Exit → Act → World → Prop) (a : Act) (w : World) : Prop :=
  ∀ (b : Frame) (k : List Item) (cs : List Frame), b.kind = .normal → ∃ e a' w', Q e a' w' ∧ Arrives P (lone (b.at a (.code c :: k)) cs w) b k cs e a' w'
theorem wpN_of {c : Code} (h : c.wp P Q a w) : wpN P c Q a w := fun b k cs _ => h b k cs
theorem wpN_seq {x y : Code} (h : wpN P x (Exit.then (wpN P y Q) Q) a w) : wpN P (.seq x y) Q a w := by
  intro b k cs hb
  obtain ⟨e, a₁, w₁, hq, harr⟩ := h b (.code y :: k) cs hb
  cases e with
  | normal =>
    obtain ⟨e₂, a₂, w₂, hq₂, harr₂⟩ := hq b k cs hb
    exact ⟨e₂, a₂, w₂, hq₂, .of_steps (.head step_seq harr) harr₂⟩
  | exit id => exact ⟨_, a₁, w₁, hq, .of_steps (.one step_seq) (.pass (x := .code y) rfl (fun _ _ => .inl (by simp)) harr)⟩
  | goto l => exact ⟨_, a₁, w₁, hq, .of_steps (.one step_seq) (.pass (x := .code y) rfl (fun _ _ => .inl (by simp)) harr)⟩
  | ret => exact ⟨_, a₁, w₁, hq, .of_steps (.one step_seq) (.pass (x := .code y) rfl (fun _ _ => .inl (by simp)) harr)⟩
  | panic ch => exact ⟨_, a₁, w₁, hq, .of_steps (.one step_seq) (.pass (x := .code y) rfl (fun _ _ => .inl (by simp)) harr)⟩
  | outgrown => exact ⟨_, a₁, w₁, hq, .of_steps (.one step_seq) (.pass (x := .code y) rfl (fun _ _ => .inl (by simp)) harr)⟩
theorem calls_of_wpN {f : FuncId} {fn : Func} {c : Code} {args : Array Value} {w : World} {R : Ending → World → Prop}
    (hf : P.funcs[f]? = some fn) (hb : fn.body = some c)
    (h : wpN P c (bodyPost P fn R) { tmps := args ++ Array.replicate (fn.ntmps - args.size) undef, defers := [] } w) : Calls P f args w R := by
  intro cs
  let b : Frame := { (default : Frame) with fn := f, kind := .normal }
  have henter : Frame.enter P f args .normal = b.at { tmps := args ++ Array.replicate (fn.ntmps - args.size) undef, defers := [] } [.code c] := by
    simp [Frame.enter, Frame.at, hf, hb, b]
  obtain ⟨e, a', w', hq, harr⟩ := h b [] cs rfl
  rw [← henter] at harr
  cases e with
  | normal =>
    obtain ⟨hd, v, hr, hR⟩ := hq
    exact ⟨.returned v, w', _, hR, Steps.trans harr (.one step_end), rfl, rfl, hd, rfl, fn, hf, hr⟩
  | ret =>
    obtain ⟨hd, v, hr, hR⟩ := hq
    obtain ⟨todo, hs⟩ := harr
    exact ⟨.returned v, w', _, hR, hs, rfl, rfl, hd, rfl, fn, hf, hr⟩
  | panic chain =>
    obtain ⟨hd, hR⟩ := hq
    obtain ⟨todo, hs⟩ := harr
    exact ⟨.panicked chain, w', _, hR, hs, rfl, rfl, hd, fn, hf⟩
  | exit id => exact hq.elim
  | goto l => exact hq.elim
  | outgrown => exact ⟨.outgrown, w', b, hq, harr.resolve_left (by simp [b]), rfl, trivial⟩
/-- the step of the machine -/
theorem step_sel {ops : Array Oper} {o : Oper} {i : Nat} {rest : List Nat} {k : List Item} {cs : List Frame} {b : Frame} {ch : Operand} {snd : Option Operand} {elem : TypeId} {z : Value} {K : Value → Heap → Prop} (hb : b.kind = .normal)
    (ho : ops[i]? = some o) (hg : o.guard = none) (hop : o.op = .select #[⟨ch, snd, elem⟩] false) (hz : zeroT P elem = some z) (h : pSel w.heap (a.eval ch) (snd.map a.eval) z K) :
    ∃ v w', step P (lone (b.at a (.inRegion ops (i :: rest) :: k)) cs w) = .next (lone (b.at (a.put o.dst v) (.inRegion ops rest :: k)) cs w') ∧ Rest w w' ∧ K v w'.heap := by
  obtain ⟨inf, hi, hzi⟩ := zeroT_some hz
  have hw : Region.wanted o (yielded ops a.tmps) = true := by simp [Region.wanted, hg]
  have hrun : (execOp a.eval o).run P w = .ok (.comm #[{ chan := a.eval ch, send := snd.map a.eval, zero := z }] false .select) w := by
    obtain ⟨dst, op, ty, pos, af, g⟩ := o
    simp only at hop
    subst hop
    have := run_zero hi hzi w
    simp [execOp, this]
  have hcomm := stepG_comm (P := P) (main := true) (b := b) (a := a) (k := k) (cs := cs) (w := w) (rest := rest) ho hw (by rw [hb]; simp) hrun
  have hfin : ∀ v, (b.at a (.inRegion ops (i :: rest) :: k)).finish v = b.at (a.put o.dst v) (.inRegion ops rest :: k) := fun v => by
    rw [Frame.finish_at, ho]; rfl
  unfold pSel at h
  generalize a.eval ch = c at h hcomm
  generalize snd.map a.eval = s at h hcomm
  split at h
  · have := step_lone_select_recv_nil hcomm
    rw [hfin] at this
    exact ⟨_, w, this, Rest.refl w, h⟩
  · have := step_lone_select_send_nil hcomm
    rw [hfin] at this
    exact ⟨_, w, this, Rest.refl w, h⟩
  · split at h
    · rename_i c cap buf s r tm hc
      by_cases hs : buf.size = 0
      · have e : buf = #[] := by simpa using hs
        subst e
        have := step_lone_select_default hcomm hc
        rw [hfin] at this
        exact ⟨_, w, this, Rest.refl w, h.1 rfl⟩
      · have := step_lone_select_recv_buf hcomm hc (by omega)
        rw [hfin] at this
        exact ⟨_, _, this, ⟨rfl, rfl⟩, h.2 (by omega)⟩
    · exact h.elim
  · split at h
    · rename_i c v cap buf s r tm hc
      by_cases hs : buf.size < cap
      · have := step_lone_select_send_room hcomm hc hs
        rw [hfin] at this
        exact ⟨_, _, this, ⟨rfl, rfl⟩, h.1 hs⟩
      · have := step_lone_select_send_full hcomm hc (by omega)
        rw [hfin] at this
        exact ⟨_, w, this, Rest.refl w, h.2 (by omega)⟩
    · exact h.elim
  · exact h.elim
end
/-- what the code before the select asks of what follows -/
def onN (K : Env → Heap → Prop) : Ex → Env → Heap → Prop := fun e ρ H => match e with
  | .normal => K ρ H
  | _ => False
theorem vcSel_sound {P : Program} {C : List Nat} (hC : Callable P C) (hm : P.follows .mixedOrders = true) {f : FuncId} {fn : Func} {A X B : Code} {id : Nat} {ops : Array Oper} {o : Oper} {anA anX anB : Ann} {p : Plan} {args : List Value} {H : Heap} {R : Value → Heap → Prop}
    {ch : Operand} {snd : Option Operand} {elem : TypeId} {z : Value}
    (hf : P.funcs[f]? = some fn) (hb : fn.body = some (.seq A (.seq X (.seq (.region id ops false) B)))) (hle : Nat.ble args.length fn.ntmps = true)
    (hA : chkC P fn.ntmps A anA = true) (hX : chkC P fn.ntmps X anX = true) (hB : chkC P fn.ntmps B anB = true)
    (hp : chkP P ops (textChk ops.size fn.ntmps) p false none [0] (fun d => Nat.beq d.length ops.size) = true)
    (ho : ops[0]? = some o) (hg : o.guard = none) (hop : o.op = .select #[⟨ch, snd, elem⟩] false) (hd : ∀ d, o.dst = some d → d < fn.ntmps) (hz : zeroT P elem = some z)
    (h : vc P C A anA (initEnv args) H (onN fun ρ H1 => vc P C X anX ρ H1 (onN fun ρ H2 => pSel H2 (ev ρ ch) (snd.map (ev ρ)) z fun v H3 => vcP P C ops.toList p (ρ.put o.dst v) H3 fun ρ' H4 => vc P C B anB ρ' H4 fun e ρ H => match e with
      | .exit _ => False
      | _ => resH P ρ H (fun l => R (oneOr l) H) fn.results.toList))) : CallsH P f args.toArray H R := by
  intro w hw
  subst hw
  have hle := Nat.le_of_ble_eq_true hle
  refine calls_of_wpN hf hb ?_
  generalize ha : ({ tmps := args.toArray ++ Array.replicate (fn.ntmps - args.toArray.size) undef, defers := [] } : Act) = a
  have hok : Ok fn.ntmps a := by subst ha; exact ⟨by simp; omega, rfl⟩
  have hen : envOf a = initEnv args := by
    subst ha
    funext t
    simp only [envOf, initEnv, Array.getD_eq_getD_getElem?]
    by_cases ht : t < args.length
    · rw [Array.getElem?_append_left (by simpa using ht)]
      simp [ht]
    · rw [Array.getElem?_append_right (by simp; omega)]
      simp only [List.size_toArray, Array.getElem?_replicate]
      rw [List.getElem?_eq_none (by omega)]
      split <;> rfl
  rw [← hen] at h
  refine wpN_seq (wpN_of (wp_mono (vc_sound hC hm A anA a w _ hA hok h) fun e a1 w1 he => ?_))
  obtain ⟨h1, r1, _, he⟩ := he
  cases e <;> first | exact he.elim | skip
  refine wpN_seq (wpN_of (wp_mono (vc_sound hC hm X anX a1 w1 _ hX h1 he) fun e a2 w2 he => ?_))
  obtain ⟨h2, r2, _, he⟩ := he
  cases e <;> first | exact he.elim | skip
  -- the select, then the rest of its region
  refine wpN_seq ?_
  intro b k cs hbk
  have hsz : ops.size = (ops.size - 1) + 1 := by have := (Array.getElem?_eq_some_iff.1 ho).1; omega
  have hrange : List.range ops.size = 0 :: (List.range ops.size).drop 1 := by rw [hsz, List.range_succ_eq_map]; rfl
  simp only [QX, onN] at he
  have ee := eval_ev a2
  rw [← ee] at he
  obtain ⟨v, w3, hstep, r3, hk⟩ := step_sel (P := P) (i := 0) (rest := (List.range ops.size).drop 1) (k := k) (cs := cs) hbk ho hg hop hz he
  have h3 : Ok fn.ntmps (a2.put o.dst v) := h2.put _ _
  rw [← envOf_put (fun d h => by rw [h2.size]; exact hd d h)] at hk
  let N : Act → World → Prop := fun a' w' => wpN P B (bodyPost P fn fun e w' => ∃ v, e = .returned v ∧ Rest w w' ∧ R v w'.heap) a' w'
  have hops := (plan_all hC (R := textRun P ops N fn.ntmps) p).1 none [0] _ _ (a2.put o.dst v) w3 hp h3 trivial hk (fun done' a' w' g1 g2 g3 g4 _ g6 => by
    have hl : done'.length = ops.size := Nat.eq_of_beq_eq_true g1
    show wpOps P ops (QN N) ((List.range ops.size).drop done'.length) a' w'
    rw [hl, List.drop_eq_nil_of_le (by simp)]
    refine wpN_of (wp_mono (vc_sound hC hm B anB a' w' _ hB g2 g6) fun e a4 w4 he => ?_)
    obtain ⟨k1, k2, k3, k4⟩ := he
    have hrest : Rest w w4 := (((r1.trans r2).trans r3).trans g4).trans k2
    have fin : resH P (envOf a4) w4.heap (fun l => R (oneOr l) w4.heap) fn.results.toList → a4.defers = [] ∧ ∃ v, (results fn a4.tmps).run P w4 = .ok v w4 ∧ ∃ v', Ending.returned v = Ending.returned v' ∧ Rest w w4 ∧ R v' w4.heap := by
      intro hr
      obtain ⟨l, hl, hk⟩ := results_sound hr
      refine ⟨k1.defers, oneOr l, ?_, oneOr l, rfl, hrest, hk⟩
      rw [results_eq, Array.mapM_eq_mapM_toList]
      simp only [Sem.run_bind, Sem.run_map, hl, Result.andThen_ok, Sem.run_pure]
      cases l with
      | nil => rfl
      | cons x r => cases r <;> simp [oneOr]
    cases e with
    | normal => exact fin k4
    | ret => exact fin k4
    | exit id => exact k4.elim
    | goto l => exact k4.elim
    | panic ch => exact k4.elim
    | outgrown => exact k4.elim)
  obtain ⟨e, a5, w5, hq, harr⟩ := wp_ops _ _ _ hops b k cs
  refine ⟨e, a5, w5, ?_, .of_steps (.head step_region ?_) harr⟩
  · cases e <;> first | exact hq | exact hq.elim
  · rw [hrange]
    exact .one hstep
end Go.Vc
