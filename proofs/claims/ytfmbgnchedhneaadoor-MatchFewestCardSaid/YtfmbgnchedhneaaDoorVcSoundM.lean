/- The rules of XVcDefs for operations that look at memory or change it. -/
import Derived.Test.YtfmbgnchedhneaaDoorVcSoundV
import Derived.Laws.BytesString
namespace Go.Vc
open Go
set_option linter.unusedSimpArgs false
set_option linter.unusedVariables false
section
variable {P : Program}
theorem cell_at (w : World) (a : Addr) : w.cell? a = cellAt w.heap a := rfl
theorem frozen_at (w : World) (a : Addr) : w.frozen? a = frozenAt w.heap a := rfl
theorem set_at (w : World) (a : Addr) (v : Value) : (w.setCell a v).heap = setAt w.heap a v := rfl
theorem cellsAt_length {H : Heap} {a : Addr} : ∀ {n : Nat} {l : List Value}, cellsAt H a n = some l → l.length = n
  | 0, l, h => by simp only [cellsAt, Option.some.injEq] at h; subst h; rfl
  | n + 1, l, h => by
    simp only [cellsAt] at h
    split at h
    · rename_i m hm
      split at h
      · simp only [Option.some.injEq] at h; subst h; simp [cellsAt_length hm]
      · simp at h
    · simp at h
theorem cellsAt_get {H : Heap} {a : Addr} : ∀ {n : Nat} {l : List Value}, cellsAt H a n = some l → ∀ j v, l[j]? = some v → cellAt H (a.add j) = some v
  | 0, l, h, j, v, hv => by simp only [cellsAt, Option.some.injEq] at h; subst h; simp at hv
  | n + 1, l, h, j, v, hv => by
    simp only [cellsAt] at h
    split at h
    · rename_i m hm
      split at h
      · rename_i u hu
        simp only [Option.some.injEq] at h; subst h
        have hl := cellsAt_length hm
        by_cases hj : j < n
        · rw [List.getElem?_append_left (by omega)] at hv
          exact cellsAt_get hm j v hv
        · by_cases hj' : j = n
          · subst hj'
            rw [List.getElem?_append_right (by omega), hl] at hv
            simp at hv
            rw [hu, hv]
          · have : (m ++ [u]).length ≤ j := by simp; omega
            rw [List.getElem?_eq_none this] at hv; simp at hv
      · simp at h
    · simp at h
theorem run_loadCells_at {a : Addr} {n : Nat} {l : List Value} {w : World} (h : cellsAt w.heap a n = some l) : (loadCells a n).run P w = .ok l.toArray w := by
  have hl := cellsAt_length h
  subst hl
  exact run_loadCells_list w a l (fun j v hv => cellsAt_get h j v hv)
theorem cells_one {v : Value} (h : oneCell v = true) : v.cells = #[v] := by cases v <;> simp [oneCell] at h <;> rfl
theorem oneCell_oneCell' (v : Value) : oneCell v = v.oneCell' := by cases v <;> rfl
theorem run_storeCells_at {a : Addr} : ∀ {vs : List Value} {i : Nat} {H' : Heap} {w : World}, setsAt w.heap a i vs = some H' →
    ∃ w', (storeCells a vs i).run P w = .ok () w' ∧ Rest w w' ∧ w'.heap = H'
  | [], i, H', w, h => by simp only [setsAt, Option.some.injEq] at h; exact ⟨w, rfl, Rest.refl w, h⟩
  | v :: r, i, H', w, h => by
    simp only [setsAt] at h
    split at h
    · rename_i u hu
      cases hf : frozenAt w.heap (a.add i) with
      | true => rw [hf] at h; simp at h
      | false =>
        rw [hf] at h
        simp only [cond_false] at h
        cases h1 : oneCell v with
        | false => rw [h1] at h; simp at h
        | true =>
          rw [h1] at h
          simp only [cond_true] at h
          obtain ⟨w', hr, hw, hh⟩ := run_storeCells_at (w := w.setCell (a.add i) v) (by rw [set_at]; exact h)
          refine ⟨w', ?_, Rest.trans (show Rest w (w.setCell (a.add i) v) from ⟨rfl, rfl⟩) hw, hh⟩
          have hst : (store (a.add i) v).run P w = .ok () (w.setCell (a.add i) v) := by
            rw [run_store P w _ v _ (by rw [← oneCell_oneCell']; exact h1), cell_at, hu, frozen_at, hf]
            simp
          simp only [storeCells, Sem.run_bind, hst, Result.andThen_ok, hr]
    · simp at h

/-- what an operation that reads memory comes to -/
def RRun (P : Program) (s : Sem Value) (H : Heap) (K : Value → Prop) : Prop := ∃ v, (∀ w : World, w.heap = H → s.run P w = .ok v w) ∧ K v
theorem RRun.exec {o : Oper} {ρ : Operand → Value} {s : Sem Value} {H : Heap} {K : Value → Prop} (he : execOp ρ o = (do pure (.value (← s)))) (h : RRun P s H K) :
    ∃ v, (∀ w : World, w.heap = H → (execOp ρ o).run P w = .ok (.value v) w) ∧ K v := by
  obtain ⟨v, hr, hk⟩ := h
  exact ⟨v, fun w hw => by rw [he]; simp [hr w hw], hk⟩
variable {H : Heap} {K : Value → Prop}
theorem pLoad_run {t : TypeId} {d : TypeDesc} {x : Value} (hu : P.underlying t = some d) (ha : isAggT P t = false) (h : pLoad H x K) : RRun P (Instr.loadAt t x) H K := by
  cases x <;> (try simp only [pLoad] at h)
  rename_i a
  cases a <;> (try simp only [pLoad] at h)
  rename_i a
  split at h
  · rename_i v hv
    refine ⟨v, fun w hw => ?_, h⟩
    subst hw
    have : w.cell? a = some v := hv
    simp [Instr.loadAt, Instr.sureAddr, loadVar, run_isAgg hu, ha, this]
  · exact h.elim
theorem pLoadN_run {t : TypeId} {d : TypeDesc} {i : TypeInfo} {x : Value} (hu : P.underlying t = some d) (hi : P.info? t = some i) (ha : isAggT P t = true) (h : pLoadN H i.size x K) : RRun P (Instr.loadAt t x) H K := by
  cases x <;> (try simp only [pLoadN] at h)
  rename_i a
  cases a <;> (try simp only [pLoadN] at h)
  rename_i a
  split at h
  · rename_i l hv
    refine ⟨_, fun w hw => ?_, h⟩
    subst hw
    simp only [Instr.loadAt, Instr.sureAddr, loadVar, Sem.run_bind, Sem.run_pure, Result.andThen_ok, run_isAgg hu, ha, if_true, run_size hi, run_loadCells_at hv]
  · exact h.elim
theorem bytesOf_map : ∀ {l : List Value} {b : List UInt8}, bytesOf l = some b → ∃ ns : List Int, l = ns.map (Value.int .u8) ∧ b = ns.map fun n => UInt8.ofNat n.toNat
  | [], b, h => by simp only [bytesOf, Option.some.injEq] at h; subst h; exact ⟨[], rfl, rfl⟩
  | x :: r, b, h => by
    unfold bytesOf at h
    split at h
    · rename_i heq; simp at heq
    · rename_i n r' heq
      simp only [List.cons.injEq] at heq
      obtain ⟨rfl, rfl⟩ := heq
      split at h
      · rename_i l hl
        simp only [Option.some.injEq] at h
        subst h
        obtain ⟨ns, rfl, rfl⟩ := bytesOf_map hl
        exact ⟨n :: ns, rfl, rfl⟩
      · simp at h
    · simp at h
theorem foldl_push : ∀ (ns : List Int) (s : ByteArray), ns.foldl (fun r n => r.push (UInt8.ofNat n.toNat)) s = ⟨(bys s ++ ns.map fun n => UInt8.ofNat n.toNat).toArray⟩
  | [], s => by cases s; simp [bys]
  | n :: r, s => by
    simp only [List.foldl_cons]
    rw [foldl_push r]
    cases s
    simp [bys, ByteArray.push]
theorem pStrOf_run {s d e : TypeId} {x : Value} (hs : P.underlying s = some (.slice e)) (he : P.underlying e = some (.int .u8)) (hd : P.underlying d = some .string) (h : pStrOf H x K) : RRun P (convert s d x) H K := by
  cases x <;> (try simp only [pStrOf] at h)
  rename_i a n c
  cases a with
  | none =>
    simp only [pStrOf] at h
    refine ⟨_, fun w hw => ?_, h⟩
    rw [run_convert_bytes_string w s d e none n c hs he hd]
    rfl
  | some a =>
    simp only [pStrOf] at h
    split at h
    · rename_i l hl
      split at h
      · rename_i b hb
        obtain ⟨ns, rfl, rfl⟩ := bytesOf_map hb
        refine ⟨_, fun w hw => ?_, h⟩
        subst hw
        rw [run_convert_bytes_string w s d e (some a) n c hs he hd, run_bytesToString w a n c ns (run_loadCells_at hl), foldl_push]
        simp [bys, str]
      · exact h.elim
    · exact h.elim
/-- the kinds of a map's keys -/
theorem findNow_of {d : TypeDesc} {kind : Nat} {k : Value} (hd : d = .string ∧ kind = 1 ∨ (∃ j, d = .int j) ∧ kind = 0) : ∀ (es : List MapEntry) (i : Nat) (r : Option (Nat × Value)),
    findE kind k es i = some r → Instr.findNow d k es i = some r := by
  intro es
  induction es with
  | nil => intro i r h; simpa [findE, Instr.findNow] using h
  | cons e es ih =>
    intro i r h
    simp only [findE] at h
    have hs : ∀ c, eqK kind k e.key = some c → Instr.sameNow d k e.key = some c := by
      intro c hc
      rcases hd with ⟨rfl, rfl⟩ | ⟨⟨j, rfl⟩, rfl⟩
      · obtain ⟨s, t, hs, ht, rfl⟩ := eqK1 hc
        rw [hs, ht]; simp [Instr.sameNow, byteArray_beq]
      · obtain ⟨j, m, n, hm, hn, rfl⟩ := eqK0 hc
        rw [hm, hn]; simp [Instr.sameNow]
        rw [Bool.eq_iff_iff]; simp
    simp only [Instr.findNow]
    split at h
    · rename_i hc; rw [hs _ hc]; exact h
    · rename_i hc; rw [hs _ hc]; exact ih _ _ h
    · simp at h
theorem keyKind {t : TypeId} {k : Value} {d : TypeDesc} (hu : P.underlying t = some d) (hd : d = .string ∨ ∃ j, d = .int j) (em : Bool) (n : Nat) (w : World) : (Instr.checkKey em (n + 1) t k).run P w = .ok () w := by
  rcases hd with rfl | ⟨j, rfl⟩ <;> simp [Instr.checkKey, run_und hu]
theorem run_findKey {kt : TypeId} {d : TypeDesc} {kind : Nat} {k : Value} {es : List MapEntry} {r : Option (Nat × Value)} (hu : P.underlying kt = some d) (hd : d = .string ∧ kind = 1 ∨ (∃ j, d = .int j) ∧ kind = 0)
    (h : findE kind k es 0 = some r) (w : World) : (Instr.findKey kt k es).run P w = .ok r w := by
  simp [Instr.findKey, run_und hu, findNow_of hd es 0 r h]
theorem kind_or {d : TypeDesc} {kind : Nat} (hd : d = .string ∧ kind = 1 ∨ (∃ j, d = .int j) ∧ kind = 0) : d = .string ∨ ∃ j, d = .int j := hd.imp (·.1) (·.1)
theorem run_lookup {t kt e : TypeId} {m k : Value} {ok : Bool} {es : List MapEntry} {w : World} {R : Result Value} (ht : P.underlying t = some (.map kt e)) (h : entriesAt w.heap m = some es)
    (hr : (do
      Instr.checkKey es.isEmpty 10000 kt k
      let (v, o) ← match ← Instr.findKey kt k es with
        | some (_, v) => pure (v, true)
        | none => pure (← zeroValue e, false)
      pure (if ok then .tuple #[v, .bool o] else v) : Sem Value).run P w = R) : (Instr.lookup t m k ok).run P w = R := by
  subst hr
  cases m <;> simp only [entriesAt, reduceCtorEq] at h
  rename_i r
  cases r with
  | none => simp only [Option.some.injEq] at h; subst h; simp [Instr.lookup, run_und ht]; rfl
  | some r =>
    simp only at h
    split at h
    · rename_i es' c hr
      simp only [Option.some.injEq] at h
      subst h
      have hg : (getObj r).run P w = .ok (.map es' c) w := by simp [getObj, Sem.run, hr]
      simp only [Instr.lookup, Sem.run_bind, run_und ht, Result.andThen_ok, hg, pure_bind]
      simp [Array.isEmpty_toList]; rfl
    · simp at h
theorem pLookup_run {t kt e : TypeId} {d : TypeDesc} {kind : Nat} {z m k : Value} {ok : Bool} (ht : P.underlying t = some (.map kt e)) (hu : P.underlying kt = some d)
    (hd : d = .string ∧ kind = 1 ∨ (∃ j, d = .int j) ∧ kind = 0) (hz : zeroT P e = some z) (h : pLookup H kind z ok m k K) : RRun P (Instr.lookup t m k ok) H K := by
  unfold pLookup at h
  obtain ⟨i, hi, hz'⟩ := zeroT_some hz
  split at h
  · rename_i es hes
    split at h
    · rename_i j v hf
      refine ⟨_, fun w hw => ?_, h⟩
      subst hw
      refine run_lookup ht hes ?_
      simp only [Sem.run_bind, Result.andThen_ok, keyKind hu (kind_or hd), run_findKey hu hd hf, Sem.run_pure]
      cases ok <;> rfl
    · rename_i hf
      refine ⟨_, fun w hw => ?_, h⟩
      subst hw
      refine run_lookup ht hes ?_
      simp only [Sem.run_bind, Result.andThen_ok, keyKind hu (kind_or hd), run_findKey hu hd hf, Sem.run_pure, run_zero hi hz']
      cases ok <;> rfl
    · exact h.elim
  · exact h.elim
theorem opR_sound {dst : Option Tmp} {op : Op} {ty : TypeId} {pos : String} {af : Array Edge} {g : Option (Nat × Bool)} {ρ : Env} (h : opR P ρ op H K) :
    ∃ v, (∀ w : World, w.heap = H → (execOp (ev ρ) ⟨dst, op, ty, pos, af, g⟩).run P w = .ok (.value v) w) ∧ K v := by
  cases op <;> first | exact (h : False).elim | skip
  case load t x =>
    simp only [opR] at h
    split at h
    · rename_i d i hd hi
      cases ha : isAggT P t with
      | true => rw [ha] at h; exact (pLoadN_run hd hi ha h).exec rfl
      | false => rw [ha] at h; exact (pLoad_run hd ha h).exec rfl
    · exact h.elim
  case convert s d x =>
    simp only [opR] at h
    split at h
    · rename_i e hs hd
      split at h
      · rename_i he; exact (pStrOf_run hs he hd h).exec rfl
      · exact h.elim
    · exact h.elim
  case lookup t m k ok =>
    simp only [opR] at h
    split at h
    · rename_i kt e ht
      split at h
      · rename_i j z hu hz; exact (pLookup_run ht hu (.inr ⟨⟨j, rfl⟩, rfl⟩) hz h).exec rfl
      · rename_i z hu hz; exact (pLookup_run ht hu (.inl ⟨rfl, rfl⟩) hz h).exec rfl
      · exact h.elim
    · exact h.elim
  case call c =>
    obtain ⟨callee, args, ats⟩ := c
    simp only [opR] at h
    split at h
    · rename_i t x hb ha
      split at h
      · rename_i kt e hu
        generalize hx : ev ρ x = vx at h
        have e1 : args = #[x] := by cases args; simp at ha; simp [ha]
        have e2 : ats = #[t] := by cases ats; simp at hb; simp [hb]
        subst e1; subst e2
        refine RRun.exec (s := Builtin.len_ #[t] ty #[ev ρ x]) (by simp [execOp, resolve, invoke, builtin]) ?_
        cases vx <;> simp only [pLenM] at h
        rename_i r
        cases r with
        | none => exact ⟨_, fun w hw => by simp [Builtin.len_, run_und hu, hx, goInt], h⟩
        | some r =>
          simp only at h
          split at h
          · rename_i es c hr
            refine ⟨_, fun w hw => ?_, h⟩
            subst hw
            simp [Builtin.len_, run_und hu, hx, goInt, getObj, Sem.run, hr]
          · exact h.elim
      · exact h.elim
    · exact h.elim
end
end Go.Vc
