/- The rules of XVcDefs for operations that don't look at memory. -/
import Derived.Test.YtfmbgnchedhneaaDoorVcSound
import Derived.Laws.StructEq
namespace Go.Vc
open Go
set_option linter.unusedSimpArgs false
set_option linter.unusedVariables false
section
variable {P : Program} {K : Value → Prop}
theorem run_part {t : TypeId} {d : TypeDesc} {cs : Array Value} {off : Nat} {v : Value} (hu : P.underlying t = some d) (ha : isAggT P t = false) (hv : cs[off]? = some v) (w : World) :
    (part t cs off).run P w = .ok v w := by
  simp [part, run_isAgg hu, ha, hv]
theorem run_partN {t : TypeId} {d : TypeDesc} {i : TypeInfo} {cs : Array Value} {off : Nat} (hu : P.underlying t = some d) (ha : isAggT P t = true) (hi : P.info? t = some i) (w : World) :
    (part t cs off).run P w = .ok (.agg (cs.extract off (off + i.size))) w := by
  simp [part, run_isAgg hu, ha, run_size hi]
theorem kind_notAgg {t : TypeId} {d : TypeDesc} {k : Nat} (hu : P.underlying t = some d) (hk : kindD d = some k) : isAggT P t = false := by
  unfold isAggT; rw [hu]; cases d <;> simp [kindD] at hk <;> rfl
theorem run_eqFields {xs ys : Array Value} (n : Nat) (w : World) : ∀ (fs : List Field) (off : Nat) (ks : List Nat) (c : Bool), flatF P fs off = some ks →
    eqCells ks (xs.toList.drop off) (ys.toList.drop off) = some c → (Op.eqFields (n + 1) xs ys fs).run P w = .ok c w := by
  intro fs
  induction fs with
  | nil =>
    intro off ks c hf hc
    simp only [flatF, Option.some.injEq] at hf
    subst hf
    generalize xs.toList.drop off = l at hc
    generalize ys.toList.drop off = m at hc
    cases l <;> cases m <;> simp [eqCells] at hc
    subst hc; simp [Op.eqFields]
  | cons f r ih =>
    intro off ks c hf hc
    simp only [flatF] at hf
    cases h1 : (Nat.beq f.offset off && f.name != "_") with
    | false => simp [h1] at hf
    | true =>
      rw [h1] at hf
      simp only [cond_true] at hf
      simp only [Bool.and_eq_true, bne_iff_ne, ne_eq] at h1
      obtain ⟨h1, hn⟩ := h1
      have h1 : f.offset = off := Nat.eq_of_beq_eq_true h1
      cases hu : P.underlying f.type with
      | none => simp [hu] at hf
      | some d =>
        cases hi : P.info? f.type with
        | none => simp [hu, hi] at hf
        | some i =>
          rw [hu, hi] at hf
          simp only at hf
          cases hk : kindD d with
          | none => simp [hk] at hf
          | some k =>
            rw [hk] at hf
            simp only at hf
            cases hb : (Nat.ble k 2 && Nat.beq i.size 1) with
            | false => simp [hb] at hf
            | true =>
              rw [hb] at hf
              simp only [cond_true] at hf
              cases hr : flatF P r (off + 1) with
              | none => simp [hr] at hf
              | some l =>
                rw [hr] at hf
                simp only [Option.some.injEq] at hf
                subst hf
                cases hx : xs.toList.drop off with
                | nil => simp [hx, eqCells] at hc
                | cons x xr =>
                  cases hy : ys.toList.drop off with
                  | nil => simp [hx, hy, eqCells] at hc
                  | cons y yr =>
                    rw [hx, hy] at hc
                    simp only [eqCells] at hc
                    cases he : eqK k x y with
                    | none => simp [he] at hc
                    | some b =>
                      rw [he] at hc
                      simp only at hc
                      cases hcs : eqCells l xr yr with
                      | none => simp [hcs] at hc
                      | some c' =>
                        rw [hcs] at hc
                        simp only [Option.some.injEq] at hc
                        subst hc
                        have gx : xs[off]? = some x := by
                          have := congrArg (·[0]?) hx; simpa using this
                        have gy : ys[off]? = some y := by
                          have := congrArg (·[0]?) hy; simpa using this
                        have dx : xs.toList.drop (off + 1) = xr := by rw [← List.drop_drop, hx]; rfl
                        have dy : ys.toList.drop (off + 1) = yr := by rw [← List.drop_drop, hy]; rfl
                        have hrec := ih (off + 1) l c' hr (by rw [dx, dy]; exact hcs)
                        have na := kind_notAgg hu hk
                        simp only [Op.eqFields, if_pos hn, Sem.run_bind, h1, run_part hu na gx, run_part hu na gy, Result.andThen_ok, run_equalIn_of hu hk he, Sem.run_ite, hrec]
                        cases b <;> simp
theorem pEqA_run {t : TypeId} {x y : Operand} {a b : Value} {ks : List Nat} (hf : flatT P t = some ks) (h : pEqA ks a b K) : BinRun P .eql t x y a b K := by
  cases a <;> simp only [pEqA] at h
  cases b <;> simp only [pEqA] at h
  rename_i xs ys
  unfold flatT at hf
  cases hu : P.underlying t with
  | none => simp [hu] at hf
  | some d =>
    rw [hu] at hf
    cases d <;> simp only [reduceCtorEq] at hf
    rename_i fs
    cases hb : (P.stoodInHeld t || P.eqGuardType P.depth t) with
    | true => simp [hb] at hf
    | false =>
      rw [hb] at hf
      simp only [cond_false] at hf
      simp only [Bool.or_eq_false_iff] at hb
      cases hc : eqCells ks xs.toList ys.toList with
      | none => simp [hc] at h
      | some c =>
        rw [hc] at h
        refine ⟨_, fun w => ?_, h⟩
        have hs : P.underlying t = some (.struct (P.fieldsOf t)) := by simp [Program.fieldsOf, hu]
        have hfs : (P.fieldsOf t).toList = fs.toList := by simp [Program.fieldsOf, hu]
        have := run_equalIn_struct (P := P) w 9999 t xs ys hs hb.1
        rw [hfs, run_eqFields 9998 w fs.toList 0 ks c hf (by simpa using hc)] at this
        simp only [Sem.run_bind, run_eqGuard_agg w .eql t x y xs ys hb.2, Result.andThen_ok, run_eql_struct, this]
theorem pNeA_run {t : TypeId} {x y : Operand} {a b : Value} {ks : List Nat} (hf : flatT P t = some ks) (h : pNeA ks a b K) : BinRun P .neq t x y a b K := by
  cases a <;> simp only [pNeA] at h
  cases b <;> simp only [pNeA] at h
  rename_i xs ys
  unfold flatT at hf
  cases hu : P.underlying t with
  | none => simp [hu] at hf
  | some d =>
    rw [hu] at hf
    cases d <;> simp only [reduceCtorEq] at hf
    rename_i fs
    cases hb : (P.stoodInHeld t || P.eqGuardType P.depth t) with
    | true => simp [hb] at hf
    | false =>
      rw [hb] at hf
      simp only [cond_false] at hf
      simp only [Bool.or_eq_false_iff] at hb
      cases hc : eqCells ks xs.toList ys.toList with
      | none => simp [hc] at h
      | some c =>
        rw [hc] at h
        refine ⟨_, fun w => ?_, h⟩
        have hs : P.underlying t = some (.struct (P.fieldsOf t)) := by simp [Program.fieldsOf, hu]
        have hfs : (P.fieldsOf t).toList = fs.toList := by simp [Program.fieldsOf, hu]
        have := run_equalIn_struct (P := P) w 9999 t xs ys hs hb.1
        rw [hfs, run_eqFields 9998 w fs.toList 0 ks c hf (by simpa using hc)] at this
        simp only [Sem.run_bind, run_eqGuard_agg w .neq t x y xs ys hb.2, Result.andThen_ok, run_neq_struct, this]

/-- what an operation that doesn't look at memory comes to -/
def VRun (P : Program) (s : Sem Value) (K : Value → Prop) : Prop := ∃ v, (∀ w, s.run P w = .ok v w) ∧ K v
theorem pFieldAddr_run {t : TypeId} {fs : Array Field} {f : Nat} {fd : Field} {i : TypeInfo} {x : Value} (hu : P.underlying t = some (.struct fs)) (hf : fs.toList[f]? = some fd)
    (hi : P.info? fd.type = some i) (h0 : Nat.beq i.size 0 = false) (h : pFieldAddr fd.offset x K) : VRun P (Instr.fieldAt t x f) K := by
  cases x <;> simp only [pFieldAddr] at h
  rename_i a
  cases a <;> simp only [pFieldAddr] at h
  refine ⟨_, fun w => ?_, h⟩
  have hf' : fs[f]? = some fd := by simpa using hf
  have hne : i.size ≠ 0 := by intro e; rw [e] at h0; exact absurd h0 (by decide)
  simp [Instr.fieldAt, run_und hu, hf', Instr.sureAddr, fieldPlace, run_size hi, hne]
theorem pField1_run {t : TypeId} {fs : Array Field} {f : Nat} {fd : Field} {d : TypeDesc} {x : Value} (hu : P.underlying t = some (.struct fs)) (hf : fs.toList[f]? = some fd)
    (hd : P.underlying fd.type = some d) (h0 : isAggT P fd.type = false) (h : pField1 fd.offset x K) : VRun P (Instr.field t x f) K := by
  cases x <;> simp only [pField1] at h
  split at h
  · rename_i cs v hv
    refine ⟨v, fun w => ?_, h⟩
    have hf' : fs[f]? = some fd := by simpa using hf
    simp [Instr.field, run_und hu, hf', asAgg, run_part hd h0 (v := v) (by simpa using hv)]
  · exact h.elim
theorem pFieldN_run {t : TypeId} {fs : Array Field} {f : Nat} {fd : Field} {d : TypeDesc} {i : TypeInfo} {x : Value} (hu : P.underlying t = some (.struct fs)) (hf : fs.toList[f]? = some fd)
    (hd : P.underlying fd.type = some d) (hi : P.info? fd.type = some i) (h0 : isAggT P fd.type = true) (h : pFieldN fd.offset i.size x K) : VRun P (Instr.field t x f) K := by
  cases x <;> simp only [pFieldN] at h
  rename_i cs
  refine ⟨_, fun w => ?_, h⟩
  have hf' : fs[f]? = some fd := by simpa using hf
  simp only [Instr.field, Sem.run_bind, run_und hu, Result.andThen_ok, hf', asAgg, Sem.run_pure, run_partN hd h0 hi]
  congr 2
  apply Array.ext'
  simp [List.take_drop, Nat.add_comm]
theorem pExtract_run {x : Value} {i : Nat} (h : pExtract i x K) : VRun P (Instr.extract x i) K := by
  cases x <;> simp only [pExtract] at h
  rename_i vs
  cases hv : vs.toList[i]? with
  | none => simp [hv] at h
  | some v =>
    rw [hv] at h
    refine ⟨v, fun w => ?_, h⟩
    have : vs[i]? = some v := by simpa using hv
    simp [Instr.extract, this]
theorem pIdxArr_run {t e : TypeId} {n : Nat} {ti : TypeInfo} {x i : Value} (hu : P.underlying t = some (.array n e)) (hi : P.info? e = some ti) (h : pIdxArr n ti.size x i K) : VRun P (Instr.indexAt t x i) K := by
  cases x <;> (try simp only [pIdxArr] at h)
  rename_i a
  cases a <;> (try simp only [pIdxArr] at h)
  cases i <;> simp only [pIdxArr] at h
  obtain ⟨h0, h1, hk⟩ := h
  exact ⟨_, fun w => by simp [Instr.indexAt, asIntOf, run_und hu, Instr.sureAddr, h0, h1, run_size hi], hk⟩
theorem pIdxSl_run {t e : TypeId} {ti : TypeInfo} {x i : Value} (hu : P.underlying t = some (.slice e)) (hi : P.info? e = some ti) (h : pIdxSl ti.size x i K) : VRun P (Instr.indexAt t x i) K := by
  cases x <;> (try simp only [pIdxSl] at h)
  rename_i a _ _
  cases a <;> (try simp only [pIdxSl] at h)
  cases i <;> simp only [pIdxSl] at h
  obtain ⟨h0, h1, hk⟩ := h
  exact ⟨_, fun w => by simp [Instr.indexAt, asIntOf, run_und hu, h0, h1, run_size hi], hk⟩
theorem pIdxStr_run {t : TypeId} {x i : Value} (hu : P.underlying t = some .string) (h : pIdxStr x i K) : VRun P (Instr.index t x i) K := by
  cases x <;> simp only [pIdxStr] at h
  cases i <;> simp only [pIdxStr] at h
  obtain ⟨h0, h1, hk⟩ := h
  rename_i s k j
  refine ⟨_, fun w => ?_, hk⟩
  have hl : j.toNat < s.size := by rw [bys_length] at h1; omega
  have hg : s[j.toNat]? = some ((bys s).getD j.toNat 0) := by
    rw [List.getD_eq_getElem?_getD]
    cases s with | mk d =>
    have hl' : j.toNat < d.size := hl
    simp [bys, getElem?_def, hl']
    exact ⟨hl, rfl⟩
  simp [Instr.index, asIntOf, run_und hu, h0, hg]
theorem pIdxAgg_run {t e : TypeId} {n : Nat} {d : TypeDesc} {ti : TypeInfo} {x i : Value} (hu : P.underlying t = some (.array n e)) (hd : P.underlying e = some d) (hi : P.info? e = some ti) (h0 : isAggT P e = false) (h1 : Nat.beq ti.size 1 = true)
    (h : pIdxAgg n x i K) : VRun P (Instr.index t x i) K := by
  cases x <;> simp only [pIdxAgg] at h
  cases i <;> simp only [pIdxAgg] at h
  obtain ⟨g0, g1, hk⟩ := h
  rename_i cs _ j
  cases hv : cs.toList[j.toNat]? with
  | none => simp [hv] at hk
  | some v =>
    rw [hv] at hk
    refine ⟨v, fun w => ?_, hk⟩
    have hs : ti.size = 1 := Nat.eq_of_beq_eq_true h1
    simp [Instr.index, asIntOf, run_und hu, g0, g1, run_size hi, hs, run_part hd h0 (v := v) (cs := cs) (off := j.toNat) (by simpa using hv)]
theorem run_bounds {isSlice : Bool} {len cap : Nat} {lo hi : Option Value} {Kb : Nat → Nat → Prop} (h : pBounds len cap lo hi Kb) : ∃ l g, (∀ w, (Instr.sliceBounds isSlice len cap lo hi none).run P w = .ok (l, g, cap) w) ∧ Kb l g := by
  cases lo with
  | none =>
    cases hi with
    | none => exact ⟨0, len, fun w => by simp [Instr.sliceBounds], h⟩
    | some b =>
      cases b <;> simp only [pBounds] at h
      obtain ⟨h0, h1, hk⟩ := h
      exact ⟨_, _, fun w => by simp [Instr.sliceBounds, Instr.sliceBound, asIntOf, h0, h1], hk⟩
  | some a =>
    cases a <;> cases hi with
    | none =>
      simp only [pBounds] at h <;>
      (obtain ⟨h0, h1, hk⟩ := h
       exact ⟨_, _, fun w => by simp [Instr.sliceBounds, Instr.sliceBound, asIntOf, h0, h1], hk⟩)
    | some b =>
      cases b <;> simp only [pBounds] at h <;>
      (obtain ⟨h0, h1, h2, h3, hk⟩ := h
       refine ⟨_, _, fun w => ?_, hk⟩
       simp [Instr.sliceBounds, Instr.sliceBound, asIntOf, h0, h1]
       omega)
theorem pSlStr_run {t : TypeId} {x : Value} {lo hi : Option Value} (hu : P.underlying t = some .string) (h : pSlStr x lo hi K) : VRun P (Instr.sliceAt t x lo hi none) K := by
  cases x <;> simp only [pSlStr] at h
  rename_i s
  obtain ⟨l, g, hr, hk⟩ := run_bounds (P := P) (isSlice := false) h
  refine ⟨_, fun w => ?_, hk⟩
  rw [bys_length] at hr
  have hs : s.extract l g = ⟨(((bys s).drop l).take (g - l)).toArray⟩ := by
    cases s with | mk d =>
    simp [bys, ByteArray.ext_iff, ByteArray.data_extract]
    apply Array.ext'
    simp [List.take_drop]
  simp only [Instr.sliceAt, Instr.slice, Sem.run_bind, run_und hu, Result.andThen_ok, hr, hs]
  simp [hr, hs]
theorem pSlSl_run {t e : TypeId} {ti : TypeInfo} {x : Value} {lo hi : Option Value} (hu : P.underlying t = some (.slice e)) (hi' : P.info? e = some ti) (h : pSlSl ti.size x lo hi K) : VRun P (Instr.sliceAt t x lo hi none) K := by
  cases x <;> simp only [pSlSl] at h
  obtain ⟨l, g, hr, hk⟩ := run_bounds (P := P) (isSlice := true) h
  refine ⟨_, fun w => ?_, hk⟩
  simp only [Instr.sliceAt, Instr.slice, Sem.run_bind, run_und hu, Result.andThen_ok, hr, run_size hi', Sem.run_pure]
theorem pSlArr_run {t e : TypeId} {n : Nat} {ti : TypeInfo} {x : Value} {lo hi : Option Value} (hu : P.underlying t = some (.array n e)) (hi' : P.info? e = some ti) (h : pSlArr n ti.size x lo hi K) : VRun P (Instr.sliceAt t x lo hi none) K := by
  cases x <;> simp only [pSlArr] at h
  rename_i a
  cases a <;> simp only [pSlArr] at h
  obtain ⟨l, g, hr, hk⟩ := run_bounds (P := P) (isSlice := false) h
  refine ⟨_, fun w => ?_, hk⟩
  simp only [Instr.sliceAt, Sem.run_bind, run_und hu, Result.andThen_ok, hr, run_size hi', Sem.run_pure, Instr.sureAddr]
theorem foldl_put (v : List Value) : ∀ (cs : Array Value) (off k : Nat), (v.zipIdx k).foldl (fun cs (x : Value × Nat) => cs.setIfInBounds (off + x.2) x.1) cs = (putL cs.toList (off + k) v).toArray := by
  induction v with
  | nil => intro cs off k; simp [putL]
  | cons x r ih =>
    intro cs off k
    simp only [List.zipIdx_cons, List.foldl_cons, putL]
    rw [ih]
    congr 1
    rw [Array.toList_setIfInBounds, Nat.add_assoc]
theorem pBuild_fill {places : Nat → Option (Nat × Nat)} : ∀ (ps : List (Nat × Nat × Value)) (parts : List (Nat × Value)) (cells : List Value),
    (∀ k : Nat, (parts[k]?).map (fun p => (places p.1, p.2)) = (ps[k]?).map fun q => (some (q.1, q.2.1), q.2.2)) →
    pBuild cells ps K → ∃ cs, Instr.fill places cells.toArray parts = some cs ∧ K (.agg cs) := by
  intro ps
  induction ps with
  | nil =>
    intro parts cells hp h
    cases parts with
    | nil => exact ⟨_, rfl, h⟩
    | cons p r => have := hp 0; simp at this
  | cons q ps ih =>
    intro parts cells hp h
    cases parts with
    | nil => have := hp 0; simp at this
    | cons p r =>
      obtain ⟨i, v⟩ := p
      obtain ⟨off, size, u⟩ := q
      have h0 := hp 0
      simp only [List.getElem?_cons_zero, Option.map_some, Option.some.injEq, Prod.mk.injEq] at h0
      obtain ⟨h0, rfl⟩ := h0
      simp only [pBuild] at h
      obtain ⟨h1, h2, h3⟩ := h
      obtain ⟨cs, hc, hk⟩ := ih r _ (fun k => by have := hp (k + 1); simpa using this) h3
      refine ⟨cs, ?_, hk⟩
      simp only [Instr.fill, h0]
      rw [if_neg (by simp [h1]; omega)]
      rw [← hc]
      congr 1
      have := foldl_put v.cells.toList cells.toArray off 0
      simp only [Nat.add_zero] at this
      rw [← this, ← Array.toList_zipIdx, Array.foldl_toList]
theorem cellsL_cells (z : Value) : (cellsL z).toArray = z.cells := by cases z <;> simp [cellsL, Value.cells]
theorem mapM_places {fs : List Field} (h : ∀ f ∈ fs, ∃ i, P.info? f.type = some i) (w : World) :
    (fs.mapM fun f => (do pure (f.offset, ← Go.sizeOf f.type) : Sem (Nat × Nat))).run P w = .ok (placesF P fs) w := by
  induction fs with
  | nil => simp [placesF]
  | cons f r ih =>
    obtain ⟨i, hi⟩ := h f (by simp)
    simp only [List.mapM_cons, Sem.run_bind, run_size hi, Result.andThen_ok, Sem.run_pure, ih (fun g hg => h g (by simp [hg])), placesF, sizeT, hi]
theorem partsF_get {pl : List (Nat × Nat)} : ∀ (vs : List (Nat × Value)) (ps : List (Nat × Nat × Value)), partsF pl vs = some ps →
    ∀ k : Nat, (vs[k]?).map (fun p => ((fun j => pl[j]?) p.1, p.2)) = (ps[k]?).map fun q => (some (q.1, q.2.1), q.2.2) := by
  intro vs
  induction vs with
  | nil => intro ps h k; simp only [partsF, Option.some.injEq] at h; subst h; simp
  | cons p r ih =>
    intro ps h k
    obtain ⟨i, v⟩ := p
    simp only [partsF] at h
    cases hp : pl[i]? with
    | none => simp [hp] at h
    | some q =>
      obtain ⟨o, s⟩ := q
      rw [hp] at h
      simp only at h
      cases hr : partsF pl r with
      | none => simp [hr] at h
      | some l =>
        rw [hr] at h
        simp only [Option.some.injEq] at h
        subst h
        cases k with
        | zero => simp [hp]
        | succ k => have := ih l hr k; simpa using this
theorem partsE_get {size : Nat} : ∀ (vs : List (Nat × Value)) (k : Nat), (vs[k]?).map (fun p => ((fun i => some (i * size, size)) p.1, p.2)) = ((partsE size vs)[k]?).map fun q => (some (q.1, q.2.1), q.2.2) := by
  intro vs
  induction vs with
  | nil => intro k; simp [partsE]
  | cons p r ih =>
    intro k
    obtain ⟨i, v⟩ := p
    cases k with
    | zero => simp [partsE]
    | succ k => have := ih k; simpa [partsE] using this
theorem infoAll_spec : ∀ {fs : List Field}, infoAll P fs = true → ∀ f ∈ fs, ∃ i, P.info? f.type = some i
  | [], _, f, hf => by simp at hf
  | g :: r, h, f, hf => by
    simp only [infoAll] at h
    cases hi : P.info? g.type with
    | none => simp [hi] at h
    | some i =>
      rw [hi] at h
      rcases List.mem_cons.1 hf with rfl | hf
      · exact ⟨i, hi⟩
      · exact infoAll_spec h f hf
theorem pBuildF_run {t : TypeId} {z : Value} {fs : Array Field} {vs : List (Nat × Value)} {ps : List (Nat × Nat × Value)} (hz : zeroT P t = some z) (hu : P.underlying t = some (.struct fs))
    (hi : ∀ f ∈ fs.toList, ∃ i, P.info? f.type = some i) (hp : partsF (placesF P fs.toList) vs = some ps) (h : pBuild (cellsL z) ps K) : VRun P (Instr.build t vs.toArray) K := by
  obtain ⟨cs, hc, hk⟩ := pBuild_fill (places := fun j => (placesF P fs.toList)[j]?) ps vs (cellsL z) (partsF_get vs ps hp) h
  refine ⟨_, fun w => ?_, hk⟩
  obtain ⟨i, hi', hz'⟩ := zeroT_some hz
  have hm : (fs.mapM fun f => (do pure (f.offset, ← Go.sizeOf f.type) : Sem (Nat × Nat))).run P w = .ok (placesF P fs.toList).toArray w := by
    rw [Array.mapM_eq_mapM_toList]
    simp only [Sem.run_map, mapM_places hi, Result.andThen_ok]
  simp only [Instr.build, Sem.run_bind, run_zero hi' hz', Result.andThen_ok, run_und hu, hm, Sem.run_pure]
  rw [← cellsL_cells]
  simp [hc]
theorem pBuildE_run {t e : TypeId} {n : Nat} {z : Value} {ti : TypeInfo} {vs : List (Nat × Value)} (hz : zeroT P t = some z) (hu : P.underlying t = some (.array n e))
    (hi : P.info? e = some ti) (h : pBuild (cellsL z) (partsE ti.size vs) K) : VRun P (Instr.build t vs.toArray) K := by
  obtain ⟨cs, hc, hk⟩ := pBuild_fill (places := fun i => some (i * ti.size, ti.size)) _ vs (cellsL z) (partsE_get vs) h
  refine ⟨_, fun w => ?_, hk⟩
  obtain ⟨i, hi', hz'⟩ := zeroT_some hz
  simp only [Instr.build, Sem.run_bind, run_zero hi' hz', Result.andThen_ok, run_und hu, run_size hi, Sem.run_pure]
  rw [← cellsL_cells]
  simp [hc]
theorem evps_eq (ρ : Env) : ∀ ps : List (Nat × Operand), evps ρ ps = ps.map fun (i, x) => (i, ev ρ x)
  | [] => rfl
  | (i, x) :: r => by simp [evps, evps_eq ρ r]
theorem evs_eq (ρ : Env) : ∀ xs : List Operand, evs ρ xs = xs.map (ev ρ)
  | [] => rfl
  | x :: r => by simp [evs, evs_eq ρ r]
theorem evo_eq (ρ : Env) : ∀ x : Option Operand, evo ρ x = x.map (ev ρ)
  | none => rfl
  | some _ => rfl
theorem VRun.exec {o : Oper} {ρ : Operand → Value} {s : Sem Value} (he : execOp ρ o = (do pure (.value (← s)))) (h : VRun P s K) : ∃ v, (∀ w, (execOp ρ o).run P w = .ok (.value v) w) ∧ K v := by
  obtain ⟨v, hr, hk⟩ := h
  exact ⟨v, fun w => by rw [he]; simp [hr], hk⟩
theorem pPick_run {c a b : Value} (h : pPick c a b K) : VRun P (do pure (if ← asBool c then a else b)) K := by
  cases c <;> simp only [pPick] at h
  rename_i t
  cases t <;> exact ⟨_, fun w => by simp [asBool], h⟩
theorem opV_sound {dst : Option Tmp} {op : Op} {ty : TypeId} {pos : String} {af : Array Edge} {g : Option (Nat × Bool)} {ρ : Env} (h : opV P ρ op K) :
    ∃ v, (∀ w, (execOp (ev ρ) ⟨dst, op, ty, pos, af, g⟩).run P w = .ok (.value v) w) ∧ K v := by
  cases op <;> simp only [opV] at h
  case move x => exact ⟨_, fun w => rfl, h⟩
  case assign x => exact ⟨_, fun w => rfl, h⟩
  case pick c a b => exact (pPick_run h).exec (by simp [execOp])
  case nilCheck x =>
    simp only [pNil] at h
    split at h
    · rename_i a hx
      exact ⟨_, fun w => by simp only [execOp, hx]; rfl, h⟩
    · rename_i f a b hx
      exact ⟨_, fun w => by simp only [execOp, hx]; rfl, h⟩
    · exact h.elim
  case binOp op t x y yt =>
    have key : ∀ {op : BinOp}, BinRun P op t x y (ev ρ x) (ev ρ y) K → ∃ v, (∀ w, (execOp (ev ρ) ⟨dst, .binOp op t x y yt, ty, pos, af, g⟩).run P w = .ok (.value v) w) ∧ K v :=
      fun h => VRun.exec (s := do eqGuard _ t x y (ev ρ x) (ev ρ y); binOp _ t (ev ρ x) (ev ρ y)) rfl h
    cases op <;> simp only at h
    case add => exact key (pAdd_run h)
    case sub => exact key (pSub_run h)
    case mul => exact key (pMul_run h)
    case quo => exact key (pQuo_run h)
    case rem => exact key (pRem_run h)
    case and => exact key (pBits_run (by simp) h)
    case or => exact key (pBits_run (by simp) h)
    case xor => exact key (pBits_run (by simp) h)
    case andNot => exact key (pBits_run (by simp) h)
    case shl => exact key (pShl_run h)
    case shr => exact key (pShr_run h)
    case lss => exact key (pLt_run h)
    case leq => exact key (pLe_run h)
    case gtr => exact key (pGt_run h)
    case geq => exact key (pGe_run h)
    case eql =>
      split at h
      · split at h
        · rename_i ks hks; exact key (pEqA_run hks h)
        · exact h.elim
      · rename_i d _ hd
        split at h
        · rename_i k hk; exact key (pEq_run hd hk h)
        · exact h.elim
      · exact h.elim
    case neq =>
      split at h
      · split at h
        · rename_i ks hks; exact key (pNeA_run hks h)
        · exact h.elim
      · rename_i d _ hd
        split at h
        · rename_i k hk; exact key (pNe_run hd hk h)
        · exact h.elim
      · exact h.elim
  case unOp op t x =>
    cases op <;> simp only at h
    case not =>
      generalize hx : ev ρ x = vx at h
      cases vx <;> simp only [pNot] at h
      exact ⟨_, fun w => by simp [execOp, hx, Op.unary], h⟩
    case neg =>
      generalize hx : ev ρ x = vx at h
      cases vx <;> simp only [pNeg] at h
      exact ⟨_, fun w => by simp only [execOp, hx, Op.unary, Op.intArith]; rfl, h⟩
    case xor =>
      generalize hx : ev ρ x = vx at h
      cases vx <;> simp only [pCom] at h
      exact ⟨_, fun w => by simp only [execOp, hx, Op.unary, Op.intBits, bitsOf]; rfl, h⟩
  case convert s d x =>
    generalize hx : ev ρ x = vx at h
    split at h
    · rename_i k hd hk
      cases vx <;> simp only [pConv] at h
      exact ⟨_, fun w => by simp [execOp, hx, convert, run_und hd, run_und hk, Conv.intToInt], h⟩
    · rename_i hd hk
      cases vx <;> simp only [pConvS] at h
      exact ⟨_, fun w => by simp [execOp, hx, convert, run_und hd, run_und hk], h⟩
    · exact h.elim
  case fieldAddr t x f =>
    split at h
    · rename_i fs hu
      split at h
      · rename_i fd hf
        split at h
        · rename_i i hi
          cases hb : Nat.beq i.size 0 with
          | true => rw [hb] at h; exact h.elim
          | false => rw [hb] at h; exact (pFieldAddr_run hu hf hi hb h).exec rfl
        · exact h.elim
      · exact h.elim
    · exact h.elim
  case field t x f =>
    split at h
    · rename_i fs hu
      split at h
      · rename_i fd hf
        split at h
        · rename_i d i hd hi
          cases hb : isAggT P fd.type with
          | true => rw [hb] at h; exact (pFieldN_run hu hf hd hi hb h).exec rfl
          | false => rw [hb] at h; exact (pField1_run hu hf hd hb h).exec rfl
        · exact h.elim
      · exact h.elim
    · exact h.elim
  case extract x i => exact (pExtract_run h).exec rfl
  case indexAddr t x i =>
    split at h
    · rename_i n e hu
      split at h
      · rename_i ti hi; exact (pIdxArr_run hu hi h).exec rfl
      · exact h.elim
    · rename_i e hu
      split at h
      · rename_i ti hi; exact (pIdxSl_run hu hi h).exec rfl
      · exact h.elim
    · exact h.elim
  case index t x i =>
    split at h
    · rename_i hu; exact (pIdxStr_run hu h).exec rfl
    · rename_i n e hu
      split at h
      · rename_i d ti hd hi
        cases hb : isAggT P e with
        | true => rw [hb] at h; exact h.elim
        | false =>
          rw [hb] at h
          cases h1 : Nat.beq ti.size 1 with
          | false => rw [h1] at h; exact h.elim
          | true => rw [h1] at h; exact (pIdxAgg_run hu hd hi hb h1 h).exec rfl
      · exact h.elim
    · exact h.elim
  case slice t x lo hi mx =>
    cases mx with
    | some m => exact h.elim
    | none =>
      simp only at h
      split at h
      · rename_i hu; exact (pSlStr_run hu h).exec (by simp [execOp, evo_eq])
      · rename_i e hu
        split at h
        · rename_i ti hti; exact (pSlSl_run hu hti h).exec (by simp [execOp, evo_eq])
        · exact h.elim
      · rename_i n e hu
        split at h
        · rename_i ti hti; exact (pSlArr_run hu hti h).exec (by simp [execOp, evo_eq])
        · exact h.elim
      · exact h.elim
  case makeFunc fn first cap =>
    cases fn <;> first | (refine ⟨_, fun w => ?_, h⟩) | exact h.elim
    have e : ∀ a : Array Operand, (evs ρ a.toList).toArray = a.map (ev ρ) := fun a => by rw [evs_eq]; cases a; simp
    rw [e, e]; rfl
  case build t ps =>
    have e : execOp (ev ρ) ⟨dst, .build t ps, ty, pos, af, g⟩ = (do pure (.value (← Instr.build t (evps ρ ps.toList).toArray))) := by
      rw [evps_eq, show ∀ f : Nat × Operand → Nat × Value, (ps.toList.map f).toArray = ps.map f from fun f => by cases ps; simp]; rfl
    split at h
    · rename_i z fs hz hu
      split at h
      · rename_i parts hp
        cases hb : infoAll P fs.toList with
        | false => rw [hb] at h; exact h.elim
        | true => rw [hb] at h; exact (pBuildF_run hz hu (infoAll_spec hb) hp h).exec e
      · exact h.elim
    · rename_i z n e' hz hu
      split at h
      · rename_i ti hti; exact (pBuildE_run hz hu hti h).exec e
      · exact h.elim
    · exact h.elim
  case call c =>
    obtain ⟨callee, args, ats⟩ := c
    cases callee <;> first | exact h.elim | skip
    rename_i b
    simp only at h
    have ex : ∀ (l : List Operand) (s : Sem Value), args.toList = l → builtin b ats ty (args.map fun | .const _ => true | _ => false) (l.map (ev ρ)).toArray = (do pure (.value (← s))) →
        execOp (ev ρ) ⟨dst, .call ⟨.builtin b, args, ats⟩, ty, pos, af, g⟩ = (do pure (.value (← s))) := by
      intro l s h1 h2
      rw [← h2]
      subst h1
      simp only [execOp, resolve, List.map_toArray, invoke, pure_bind, Array.toArray_toList]
      simp only [← Array.toList_map, Array.toArray_toList]
      rfl
    have at1 : ∀ l, ats.toList = l → ats = l.toArray := fun l e => by subst e; simp
    unfold builtinV at h
    split at h
    · rename_i t x hb ha
      have ha' := at1 _ hb
      subst ha'
      split at h
      · rename_i hu
        generalize hx : ev ρ x = vx at h
        cases vx <;> simp only [pLenS] at h
        exact VRun.exec (ex _ (Builtin.len_ #[t] ty #[ev ρ x]) ha (by simp [builtin])) ⟨_, fun w => by simp [Builtin.len_, run_und hu, hx, goInt, bys_length], h⟩
      · rename_i e hu
        generalize hx : ev ρ x = vx at h
        cases vx <;> simp only [pLen] at h
        exact VRun.exec (ex _ (Builtin.len_ #[t] ty #[ev ρ x]) ha (by simp [builtin])) ⟨_, fun w => by simp [Builtin.len_, run_und hu, hx, goInt], h⟩
      · exact h.elim
    · rename_i t x hb ha
      have ha' := at1 _ hb
      subst ha'
      split at h
      · rename_i e hu
        generalize hx : ev ρ x = vx at h
        cases vx <;> simp only [pCap] at h
        exact VRun.exec (ex _ (Builtin.cap_ #[t] ty #[ev ρ x]) ha (by simp [builtin])) ⟨_, fun w => by simp [Builtin.cap_, run_und hu, hx, goInt], h⟩
      · exact h.elim
    · rename_i x y ha
      generalize hx : ev ρ x = vx at h
      generalize hy : ev ρ y = vy at h
      cases vx <;> simp only [pMin] at h
      cases vy <;> simp only [pMin] at h
      obtain ⟨rfl, h⟩ := h
      refine VRun.exec (ex _ (Builtin.min_ ats ty #[ev ρ x, ev ρ y]) ha (by simp [builtin])) ⟨_, fun w => ?_, h⟩
      simp [Builtin.min_, Builtin.min2, hx, hy]
      omega
    · rename_i x y ha
      generalize hx : ev ρ x = vx at h
      generalize hy : ev ρ y = vy at h
      cases vx <;> simp only [pMax] at h
      cases vy <;> simp only [pMax] at h
      obtain ⟨rfl, h⟩ := h
      refine VRun.exec (ex _ (Builtin.max_ ats ty #[ev ρ x, ev ρ y]) ha (by simp [builtin])) ⟨_, fun w => ?_, h⟩
      simp [Builtin.max_, Builtin.max2, hx, hy]
      omega
    · rename_i x y z ha
      generalize hx : ev ρ x = vx at h
      generalize hy : ev ρ y = vy at h
      generalize hz : ev ρ z = vz at h
      cases vx <;> simp only [pMin] at h
      cases vy <;> simp only [pMin] at h
      obtain ⟨rfl, h⟩ := h
      cases vz <;> simp only [pMin] at h
      obtain ⟨rfl, h⟩ := h
      refine VRun.exec (ex _ (Builtin.min_ ats ty #[ev ρ x, ev ρ y, ev ρ z]) ha (by simp [builtin])) ⟨_, fun w => ?_, h⟩
      simp [Builtin.min_, Builtin.min2, hx, hy, hz]
      omega
    · exact h.elim
  all_goals exact h.elim
end
end Go.Vc
