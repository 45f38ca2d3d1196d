/- Plans: how a region's operations are gone through. -/
import Derived.Test.YtfmbgnchedhneaaDoorVcSoundG
namespace Go.Vc
open Go
set_option linter.unusedSimpArgs false
set_option linter.unusedVariables false
structure Ok (n : Nat) (a : Act) : Prop where
  size : a.tmps.size = n
  defers : a.defers = []
theorem Ok.put {n : Nat} {a : Act} (h : Ok n a) (dst : Option Tmp) (v : Value) : Ok n (a.put dst v) := by
  cases dst with
  | none => exact h
  | some d => exact ⟨by simpa [Act.put] using h.size, h.defers⟩
structure Chk where
  n : Nat
  qOk : List Nat → Nat → Bool
  eOk : List Nat → List Nat → Bool
  stOk : List Nat → Nat → List Nat → Bool
section
variable (P : Program) (ops : Array Oper)
/-- an operation that leaves a value and nothing else: it isn't wanted, or it doesn't look at memory, or it reads -/
def Quiet (i : Nat) (v : Value) (a : Act) (w : World) : Prop := ∃ o, ops[i]? = some o ∧
  ((Region.wanted o (yielded ops a.tmps) = true ∧ ((cls P o.op = 0 ∧ ∀ w', (execOp a.eval o).run P w' = .ok (.value v) w') ∨ (cls P o.op = 1 ∧ ∀ w', w'.heap = w.heap → (execOp a.eval o).run P w' = .ok (.value v) w'))) ∨
   (Region.wanted o (yielded ops a.tmps) = false ∧ v = undef))
/-- reads that come to what they came to -/
def StabOk (st : List Nat) (a : Act) (w' : World) : Prop := ∀ k ∈ st, ∀ o, ops[k]? = some o → ∀ d, o.dst = some d → (execOp a.eval o).run P w' = .ok (.value (envOf a d)) w'
def EStep (X : List Nat → Act → World → Prop) (done : List Nat) (i : Nat) (st : List Nat) (a : Act) (w : World) : Prop := ∃ o, ops[i]? = some o ∧ Region.wanted o (yielded ops a.tmps) = true ∧
  o.wp P a w (fun a' w' => (∃ v, a' = a.put o.dst v) ∧ Rest w w' ∧ StabOk P ops st a w' ∧ X (i :: done) a' w') (QN fun _ _ => False)
structure Runner (ck : Chk) where
  X : List Nat → Act → World → Prop
  quiet : ∀ done i a w, Ok ck.n a → ck.qOk done i = true → (∃ v o, ops[i]? = some o ∧ Quiet P ops i v a w ∧ (∀ d, o.dst = some d → d < ck.n) ∧ X (i :: done) (a.put o.dst v) w) → X done a w
  effect : ∀ done (hs : List (Nat × List Nat)) a w, Ok ck.n a → ck.eOk done (hs.map (·.1)) = true → (∀ h ∈ hs, ck.stOk done h.1 h.2 = true ∧ EStep P ops X done h.1 h.2 a w) → X done a w
end
/-- the operations that a plan may begin with, where they change memory -/
def heads : Plan → List (Nat × List Nat)
  | .op i st _ => [(i, st)]
  | .fork a b => heads a ++ heads b
  | _ => []
def curOk (cur : Option (Nat × Bool × Nat)) (o : Oper) : Bool := match cur, o.guard with
  | none, none => true
  | some (c, w, t), some (c', w') => Nat.beq c c' && (w == w') && (match o.dst with | some d => !Nat.beq d t | none => true)
  | _, _ => false
def dstLt (n : Nat) (o : Oper) : Bool := match o.dst with
  | some d => Nat.blt d n
  | none => true
def skipP (ops : List Oper) (c : Nat) (want : Bool) : Plan → List Nat → Bool
  | .nil, _ => true
  | .op i _ r, sk => match ops[i]? with
    | some o => match o.guard with
      | some (g, b) => (Nat.beq g c && (b == want) || memb g sk) && skipP ops c want r (i :: sk)
      | none => false
    | none => false
  | .grp _ body p r, sk => skipP ops c want body sk && (match ops[p]? with
    | some o => match o.guard with
      | some (g, b) => (Nat.beq g c && (b == want) || memb g sk)
      | none => false
    | none => false) && skipP ops c want r sk
  | .fork _ _, _ => false
def curFree (cur : Option (Nat × Bool × Nat)) (l : List Nat) : Bool := match cur with
  | some (_, _, t0) => !memb t0 l
  | none => true
/-- the pick behind a && b, a || b: the test's slot, the value's slot, which answer wants the rest -/
def pickOf (o : Op) : Option (Nat × Nat × Bool) := match o with
  | .pick (.tmp t) (.tmp u) (.const (.bool false)) => some (t, u, true)
  | .pick (.tmp t) (.const (.bool true)) (.tmp u) => some (t, u, false)
  | _ => none
section
variable {P : Program} {ops : Array Oper} {ck : Chk}
def chkP (P : Program) (ops : Array Oper) (ck : Chk) : Plan → Bool → Option (Nat × Bool × Nat) → List Nat → (List Nat → Bool) → Bool
  | .nil, fl, _, done, k => !fl && k done
  | .op i st r, fl, cur, done, k => match ops.toList[i]? with
    | some o => curOk cur o && dstLt ck.n o && (match cls P o.op with
        | 0 | 1 => !fl && st.isEmpty && ck.qOk done i
        | _ => (fl || ck.eOk done [i]) && ck.stOk done i st && (cur.isNone || ck.qOk done i)) && chkP P ops ck r false cur (i :: done) k
    | none => false
  | .grp c body p r, fl, cur, done, k => match ops.toList[p]?, ops.toList[c]? with
    | some o, some oc => match pickOf o.op with
      | some (t, _, want) => !fl && curOk cur o && dstLt ck.n o && (match oc.dst with | some t' => Nat.beq t t' | none => false) && !memb t (dstsOf ops.toList body) &&
          curFree cur (dstsOf ops.toList body) && skipP ops.toList c want body [] &&
          chkP P ops ck body false (some (c, want, t)) done fun d => ck.qOk d p && chkP P ops ck r false cur (p :: d) k
      | none => false
    | _, _ => false
  | .fork a b, fl, cur, done, k => cur.isNone && (fl || ck.eOk done ((heads a ++ heads b).map (·.1))) && chkP P ops ck a true none done k && chkP P ops ck b true none done k

theorem yielded_env {a : Act} {c t : Nat} {b : Bool} {oc : Oper} (hc : ops[c]? = some oc) (hd : oc.dst = some t) (h : envOf a t = .bool b) : yielded ops a.tmps c = some b := by
  have : a.tmps[t]? = some (.bool b) := by
    unfold envOf at h
    rw [Array.getD_eq_getD_getElem?] at h
    cases hx : a.tmps[t]? with
    | none => rw [hx] at h; simp [undef] at h
    | some v => rw [hx] at h; simp at h; rw [h]
  simp [yielded, hc, hd, this]
theorem yielded_env_undef {a : Act} {c : Nat} {oc : Oper} (hc : ops[c]? = some oc) (h : ∀ t, oc.dst = some t → envOf a t = undef) : yielded ops a.tmps c = none := by
  unfold yielded
  cases hd : oc.dst with
  | none => simp [hc, hd]
  | some t =>
    have h := h t hd
    cases hx : a.tmps[t]? with
    | none => simp [hc, hd, hx]
    | some v =>
      unfold envOf at h
      rw [Array.getD_eq_getD_getElem?, hx] at h
      simp at h
      simp [hc, hd, hx, h, undef]
/-- the test that an operation hangs on is as it was -/
def CurAt (ops : Array Oper) (cur : Option (Nat × Bool × Nat)) (a : Act) : Prop := match cur with
  | none => True
  | some (c, want, t) => (∃ oc, ops[c]? = some oc ∧ oc.dst = some t) ∧ envOf a t = .bool want
theorem curOk_wanted {cur : Option (Nat × Bool × Nat)} {o : Oper} {a : Act} (hk : curOk cur o = true) (hc : CurAt ops cur a) : Region.wanted o (yielded ops a.tmps) = true := by
  unfold curOk at hk
  unfold Region.wanted
  split at hk
  · rename_i h; rw [h]
  · rename_i c w t c' w' h
    rw [h]
    simp only [Bool.and_eq_true, beq_iff_eq] at hk
    obtain ⟨⟨h1, h2⟩, _⟩ := hk
    have h1 := Nat.eq_of_beq_eq_true h1
    subst h1; subst h2
    obtain ⟨⟨oc, h1, h2⟩, h3⟩ := hc
    simp [yielded_env h1 h2 h3]
  · cases hk
theorem envOf_put_ne {n : Nat} {a : Act} {dst : Option Tmp} {v : Value} {s : Nat} (ha : Ok n a) (hd : ∀ d, dst = some d → d < n) (hs : ∀ d, dst = some d → d ≠ s) : envOf (a.put dst v) s = envOf a s := by
  rw [envOf_put (fun d h => by rw [ha.size]; exact hd d h)]
  cases dst with
  | none => rfl
  | some d =>
    have : Nat.beq s d = false := by cases h : Nat.beq s d with | false => rfl | true => exact absurd (Nat.eq_of_beq_eq_true h).symm (hs d rfl)
    simp [Env.put, Env.upd, this]
theorem CurAt.put {n : Nat} {cur : Option (Nat × Bool × Nat)} {o : Oper} {a : Act} {v : Value} (h : CurAt ops cur a) (hk : curOk cur o = true) (ha : Ok n a) (hd : ∀ d, o.dst = some d → d < n) : CurAt ops cur (a.put o.dst v) := by
  cases cur with
  | none => trivial
  | some c =>
    obtain ⟨c, w, t⟩ := c
    refine ⟨h.1, ?_⟩
    have h2 := h.2
    rw [envOf_put_ne ha hd ?_]
    · exact h2
    · intro d hdd he
      subst he
      unfold curOk at hk
      split at hk
      · rename_i h0 _; cases h0
      · rename_i h0 _
        simp only [Option.some.injEq, Prod.mk.injEq] at h0
        obtain ⟨rfl, rfl, rfl⟩ := h0
        rw [hdd] at hk
        simp at hk
      · cases hk
theorem dstLt_spec {n : Nat} {o : Oper} (h : dstLt n o = true) : ∀ d, o.dst = some d → d < n := by
  intro d hd
  unfold dstLt at h
  rw [hd] at h
  rwa [Nat.blt_eq] at h
theorem memb_iff {n : Nat} : ∀ {l : List Nat}, memb n l = true ↔ n ∈ l
  | [] => by simp [memb]
  | m :: r => by
    simp only [memb, List.mem_cons]
    cases h : Nat.beq n m with
    | true => simp [Nat.eq_of_beq_eq_true h]
    | false =>
      have : n ≠ m := fun e => by subst e; simp at h
      simp [this, memb_iff]
theorem memb_false {n : Nat} {l : List Nat} : memb n l = false ↔ n ∉ l := by
  rw [← memb_iff]; simp
/-- what a plan leaves alone -/
def Same (l : List Nat) (a a' : Act) : Prop := ∀ t, t ∉ l → envOf a' t = envOf a t
theorem Same.refl (l : List Nat) (a : Act) : Same l a a := fun _ _ => rfl
theorem Same.trans {l l' : List Nat} {a b c : Act} (h : Same l a b) (k : Same l' b c) : Same (l ++ l') a c := fun t ht => by
  rw [List.mem_append, not_or] at ht
  rw [k t ht.2, h t ht.1]
theorem Same.mono {l l' : List Nat} {a b : Act} (h : Same l a b) (hl : ∀ t ∈ l, t ∈ l') : Same l' a b := fun t ht => h t (fun hm => ht (hl t hm))
theorem Same.put {n : Nat} {a : Act} {dst : Option Tmp} {v : Value} {l : List Nat} (ha : Ok n a) (hd : ∀ d, dst = some d → d < n) (hl : ∀ d, dst = some d → d ∈ l) : Same l a (a.put dst v) := fun t ht =>
  envOf_put_ne ha hd (fun d hd e => ht (by rw [← e]; exact hl d hd))
theorem getL {i : Nat} {o : Oper} (h : ops.toList[i]? = some o) : ops[i]? = some o := by simpa using h
/-- the operations behind a test that says no are all passed over -/
theorem skip_sound {R : Runner P ops ck} {c t : Nat} {want : Bool} {oc : Oper} (hc : ops[c]? = some oc) (hoc : oc.dst = some t) :
    ∀ (p : Plan) (sk : List Nat) (cur : Option (Nat × Bool × Nat)) (done : List Nat) (k : List Nat → Bool) (a : Act) (w : World), skipP ops.toList c want p sk = true → chkP P ops ck p false cur done k = true → cur ≠ none → t ∉ dstsOf ops.toList p →
      Ok ck.n a → envOf a t = .bool (!want) → (∀ g ∈ sk, ∃ og, ops[g]? = some og ∧ ∀ d, og.dst = some d → envOf a d = undef) →
      (∀ done' a', k done' = true → Ok ck.n a' → Same (dstsOf ops.toList p) a a' → (∀ g ∈ sk, ∃ og, ops[g]? = some og ∧ ∀ d, og.dst = some d → envOf a' d = undef) → R.X done' a' w) → R.X done a w := by
  have unw : ∀ (o : Oper) (sk : List Nat) (a : Act), (match o.guard with
      | some (g, b) => (Nat.beq g c && (b == want) || memb g sk)
      | none => false) = true → envOf a t = .bool (!want) → (∀ g ∈ sk, ∃ og, ops[g]? = some og ∧ ∀ d, og.dst = some d → envOf a d = undef) → Region.wanted o (yielded ops a.tmps) = false := by
    intro o sk a h ha hsk
    unfold Region.wanted
    split at h
    · rename_i g b hg
      rw [hg]
      simp only [Bool.or_eq_true, Bool.and_eq_true, beq_iff_eq] at h
      rcases h with ⟨h1, h2⟩ | h
      · have h1 := Nat.eq_of_beq_eq_true h1
        subst h1; subst h2
        simp only [yielded_env hc hoc ha]
        cases b <;> rfl
      · obtain ⟨og, h1, h2⟩ := hsk g (memb_iff.1 h)
        simp only [yielded_env_undef h1 h2]
        rfl
    · cases h
  intro p
  induction p with
  | nil =>
    intro sk cur done k a w hs hk hcur ht ha hen hsk hX
    simp only [chkP, Bool.not_false, Bool.true_and] at hk
    exact hX done a hk ha (Same.refl _ _) hsk
  | op i st r ih =>
    intro sk cur done k a w hs hk hcur ht ha hen hsk hX
    simp only [skipP] at hs
    simp only [chkP] at hk
    cases ho : ops.toList[i]? with
    | none => rw [ho] at hs; cases hs
    | some o =>
      rw [ho] at hs hk
      simp only [Bool.and_eq_true] at hk
      obtain ⟨⟨⟨hco, hlt⟩, hcl⟩, hkr⟩ := hk
      have hlt := dstLt_spec hlt
      have hq : ck.qOk done i = true := by
        split at hcl
        · simp only [Bool.and_eq_true] at hcl; exact hcl.2
        · simp only [Bool.and_eq_true] at hcl; exact hcl.2
        · simp only [Bool.and_eq_true, Bool.or_eq_true] at hcl
          rcases hcl.2 with h | h
          · cases cur with
            | none => exact absurd rfl hcur
            | some _ => simp at h
          · exact h
      have hg : (match o.guard with
          | some (g, b) => (Nat.beq g c && (b == want) || memb g sk)
          | none => false) = true ∧ skipP ops.toList c want r (i :: sk) = true := by
        simp only at hs
        cases hgd : o.guard with
        | none => rw [hgd] at hs; cases hs
        | some gb =>
          rw [hgd] at hs
          simp only [Bool.and_eq_true] at hs
          exact hs
      have hdst : ∀ d, o.dst = some d → d ∈ dstsOf ops.toList (.op i st r) := by
        intro d hd; simp [dstsOf, ho, hd]
      have hsub : ∀ d ∈ dstsOf ops.toList r, d ∈ dstsOf ops.toList (.op i st r) := by
        intro d hd
        simp only [dstsOf, ho]
        cases o.dst <;> simp [hd]
      have ht' : ∀ d, o.dst = some d → d ≠ t := fun d hd e => ht (by rw [← e]; exact hdst d hd)
      refine R.quiet done i a w ha hq ⟨undef, o, getL ho, ⟨o, getL ho, .inr ⟨unw o sk a hg.1 hen hsk, rfl⟩⟩, hlt, ?_⟩
      have hsk' : ∀ g ∈ i :: sk, ∃ og, ops[g]? = some og ∧ ∀ d, og.dst = some d → envOf (a.put o.dst undef) d = undef := by
        intro g hgm
        have key : ∀ d, envOf a d = undef → envOf (a.put o.dst undef) d = undef := by
          intro d hd
          by_cases hdd : o.dst = some d
          · rw [envOf_put (fun d h => by rw [ha.size]; exact hlt d h), hdd]
            simp [Env.put, Env.upd]
          · rw [envOf_put_ne ha hlt (fun d' h e => hdd (by rw [h, e]))]; exact hd
        rcases List.mem_cons.1 hgm with rfl | hgm
        · refine ⟨o, getL ho, fun d hd => ?_⟩
          rw [envOf_put (fun d h => by rw [ha.size]; exact hlt d h), hd]
          simp [Env.put, Env.upd]
        · obtain ⟨og, h1, h2⟩ := hsk g hgm
          exact ⟨og, h1, fun d hd => key d (h2 d hd)⟩
      refine ih (i :: sk) cur (i :: done) k _ w hg.2 hkr hcur (fun h => ht (hsub t h)) (ha.put _ _) (by rw [envOf_put_ne ha hlt ht']; exact hen) hsk' ?_
      intro done' a' hkd ha' hsame hsk''
      refine hX done' a' hkd ha' ?_ (fun g hgm => hsk'' g (List.mem_cons_of_mem _ hgm))
      exact ((Same.put ha hlt hdst).trans (hsame.mono hsub)).mono (by simp)
  | grp c' body p r ihb ihr =>
    intro sk cur done k a w hs hk hcur ht ha hen hsk hX
    simp only [skipP, Bool.and_eq_true] at hs
    obtain ⟨⟨hsb, hsp⟩, hsr⟩ := hs
    simp only [chkP] at hk
    cases hop : ops.toList[p]? with
    | none => rw [hop] at hk; cases hk
    | some op =>
      cases hoc' : ops.toList[c']? with
      | none => rw [hop, hoc'] at hk; cases hk
      | some oc' =>
        rw [hop, hoc'] at hk
        simp only at hk
        cases hpk : pickOf op.op with
        | none => rw [hpk] at hk; cases hk
        | some q =>
          obtain ⟨t', u', want'⟩ := q
          rw [hpk] at hk
          simp only [Bool.and_eq_true] at hk
          obtain ⟨⟨⟨⟨⟨⟨⟨_, hco⟩, hlt⟩, hoc1⟩, hnt⟩, hcurb⟩, hskb⟩, hkb⟩ := hk
          have hlt := dstLt_spec hlt
          rw [hop] at hsp
          have hsubb : ∀ d ∈ dstsOf ops.toList body, d ∈ dstsOf ops.toList (.grp c' body p r) := fun d hd => by simp [dstsOf, hd]
          have hsubr : ∀ d ∈ dstsOf ops.toList r, d ∈ dstsOf ops.toList (.grp c' body p r) := fun d hd => by
            simp only [dstsOf, hop]; cases op.dst <;> simp [hd]
          have hdst : ∀ d, op.dst = some d → d ∈ dstsOf ops.toList (.grp c' body p r) := fun d hd => by simp [dstsOf, hop, hd]
          have ht' : ∀ d, op.dst = some d → d ≠ t := fun d hd e => ht (by rw [← e]; exact hdst d hd)
          refine ihb sk (some (c', want', t')) done _ a w hsb hkb (by simp) (fun h => ht (hsubb t h)) ha hen hsk ?_
          intro done1 a1 hk1 ha1 hs1 hsk1
          simp only [Bool.and_eq_true] at hk1
          have hen1 : envOf a1 t = .bool (!want) := by rw [hs1 t (fun h => ht (hsubb t h))]; exact hen
          refine R.quiet done1 p a1 w ha1 hk1.1 ⟨undef, op, getL hop, ⟨op, getL hop, .inr ⟨unw op sk a1 hsp hen1 hsk1, rfl⟩⟩, hlt, ?_⟩
          have hsk2 : ∀ g ∈ sk, ∃ og, ops[g]? = some og ∧ ∀ d, og.dst = some d → envOf (a1.put op.dst undef) d = undef := by
            intro g hgm
            obtain ⟨og, h1, h2⟩ := hsk1 g hgm
            refine ⟨og, h1, fun d hd => ?_⟩
            by_cases hdd : op.dst = some d
            · rw [envOf_put (fun d h => by rw [ha1.size]; exact hlt d h), hdd]
              simp [Env.put, Env.upd]
            · rw [envOf_put_ne ha1 hlt (fun d' h e => hdd (by rw [h, e]))]; exact h2 d hd
          refine ihr sk cur (p :: done1) k _ w hsr hk1.2 hcur (fun h => ht (hsubr t h)) (ha1.put _ _) (by rw [envOf_put_ne ha1 hlt ht']; exact hen1) hsk2 ?_
          intro done' a' hkd ha' hsame hsk3
          refine hX done' a' hkd ha' ?_ hsk3
          exact ((hs1.mono hsubb).trans ((Same.put ha1 hlt hdst).trans (hsame.mono hsubr))).mono (by simp)
  | fork a b _ _ =>
    intro sk cur done k a w hs
    simp [skipP] at hs
theorem after_wp {K : Value → Heap → Prop} {o : Oper} {a : Act} {w : World} {F : Act → World → Prop} (h : after P K w ((execOp a.eval o).run P w)) (hF : ∀ v w', Rest w w' → K v w'.heap → F (a.put o.dst v) w') :
    o.wp P a w F (QN fun _ _ => False) := by
  unfold Oper.wp
  generalize (execOp a.eval o).run P w = r at h
  cases r with
  | ok n w' =>
    cases n <;> simp only [after] at h
    case value v => exact hF v w' h.1 h.2
    case skip => exact hF undef w' h.1 h.2
    case enter f args =>
      refine (h.2 w' rfl).mono fun e w'' he => ?_
      obtain ⟨v, rfl, hr, hk⟩ := he
      exact hF v w'' (h.1.trans hr) hk
  | halt x w' => simp only [after] at h
theorem stabs_spec {ρ : Env} {H : Heap} {X : Prop} : ∀ {st : List Nat}, stabs P ops.toList ρ H X st → (∀ k ∈ st, reread P ops.toList ρ H k) ∧ X
  | [], h => ⟨by simp, h⟩
  | k :: r, h => by
    obtain ⟨h1, h2⟩ := h
    obtain ⟨h3, h4⟩ := stabs_spec h2
    exact ⟨fun j hj => by rcases List.mem_cons.1 hj with rfl | hj; exact h1; exact h3 j hj, h4⟩
theorem stabOk_of {a : Act} {w' : World} {st : List Nat} (h : ∀ k ∈ st, reread P ops.toList (envOf a) w'.heap k) : StabOk P ops st a w' := by
  intro k hk o ho d hd
  have hr := h k hk
  unfold reread at hr
  rw [show ops.toList[k]? = some o by simpa using ho] at hr
  simp only [hd] at hr
  obtain ⟨dst, op, ty, pos, af, g⟩ := o
  obtain ⟨v, hrun, rfl⟩ := opR_sound (dst := dst) (ty := ty) (pos := pos) (af := af) (g := g) hr
  rw [eval_ev]
  exact hrun w' rfl
variable {C : List Nat}
def GoodA (P : Program) (ops : Array Oper) (C : List Nat) (ck : Chk) (R : Runner P ops ck) (p : Plan) : Prop :=
  ∀ (cur : Option (Nat × Bool × Nat)) (done : List Nat) (k : List Nat → Bool) (K : Env → Heap → Prop) (a : Act) (w : World), chkP P ops ck p false cur done k = true → Ok ck.n a → CurAt ops cur a →
    vcP P C ops.toList p (envOf a) w.heap K → (∀ done' a' w', k done' = true → Ok ck.n a' → Same (dstsOf ops.toList p) a a' → Rest w w' → CurAt ops cur a' → K (envOf a') w'.heap → R.X done' a' w') → R.X done a w
def GoodB (P : Program) (ops : Array Oper) (C : List Nat) (ck : Chk) (R : Runner P ops ck) (p : Plan) : Prop :=
  ∀ (done : List Nat) (k : List Nat → Bool) (K : Env → Heap → Prop) (a : Act) (w : World), chkP P ops ck p true none done k = true → Ok ck.n a →
    vcP P C ops.toList p (envOf a) w.heap K → (∀ done' a' w', k done' = true → Ok ck.n a' → Same (dstsOf ops.toList p) a a' → Rest w w' → K (envOf a') w'.heap → R.X done' a' w') →
    ∀ h ∈ heads p, ck.stOk done h.1 h.2 = true ∧ EStep P ops R.X done h.1 h.2 a w
theorem plan_estep (hC : Callable P C) {R : Runner P ops ck} {i : Nat} {st : List Nat} {r : Plan} (ih : GoodA P ops C ck R r) {o : Oper} (ho : ops.toList[i]? = some o) (hcls : cls P o.op ≠ 0 ∧ cls P o.op ≠ 1)
    {cur : Option (Nat × Bool × Nat)} {done : List Nat} {k : List Nat → Bool} {K : Env → Heap → Prop} {a : Act} {w : World} (hco : curOk cur o = true) (hlt : ∀ d, o.dst = some d → d < ck.n) (hkr : chkP P ops ck r false cur (i :: done) k = true) (ha : Ok ck.n a) (hcur : CurAt ops cur a)
    (hv : vcP P C ops.toList (.op i st r) (envOf a) w.heap K) (hX : ∀ done' a' w', k done' = true → Ok ck.n a' → Same (dstsOf ops.toList (.op i st r)) a a' → Rest w w' → CurAt ops cur a' → K (envOf a') w'.heap → R.X done' a' w') :
    EStep P ops R.X done i st a w := by
  simp only [vcP, ho] at hv
  have hE : ∀ w1 : World, w1.heap = w.heap → after P (fun v H' => stabs P ops.toList (envOf a) H' (vcP P C ops.toList r ((envOf a).put o.dst v) H' K) st) w1 ((execOp (ev (envOf a)) o).run P w1) := by
    unfold opH at hv
    obtain ⟨dst, op, ty, pos, af, g⟩ := o
    split at hv
    · rename_i h0; exact absurd h0 hcls.1
    · rename_i h1; exact absurd h1 hcls.2
    · exact opE_sound hC hv
  refine ⟨o, getL ho, curOk_wanted hco hcur, after_wp (by rw [eval_ev]; exact hE w rfl) fun v w' hr hk => ?_⟩
  obtain ⟨h1, h2⟩ := stabs_spec hk
  refine ⟨⟨v, rfl⟩, hr, stabOk_of h1, ?_⟩
  have hdst : ∀ d, o.dst = some d → d ∈ dstsOf ops.toList (.op i st r) := by intro d hd; simp [dstsOf, ho, hd]
  have hsub : ∀ d ∈ dstsOf ops.toList r, d ∈ dstsOf ops.toList (.op i st r) := by
    intro d hd; simp only [dstsOf, ho]; cases o.dst <;> simp [hd]
  refine ih cur (i :: done) k K _ w' hkr (ha.put _ _) (hcur.put hco ha hlt) (by rw [envOf_put (fun d h => by rw [ha.size]; exact hlt d h)]; exact h2) ?_
  intro done' a' w'' hkd ha' hsame hr' hc' hK
  exact hX done' a' w'' hkd ha' (((Same.put ha hlt hdst).trans (hsame.mono hsub)).mono (by simp)) (hr.trans hr') hc' hK
theorem plan_op (hC : Callable P C) {R : Runner P ops ck} {i : Nat} {st : List Nat} {r : Plan} (ih : GoodA P ops C ck R r) : GoodA P ops C ck R (.op i st r) := by
  intro cur done k K a w hk ha hcur hv hX
  simp only [chkP] at hk
  cases ho : ops.toList[i]? with
  | none => rw [ho] at hk; cases hk
  | some o =>
    rw [ho] at hk
    simp only [Bool.and_eq_true] at hk
    obtain ⟨⟨⟨hco, hlt⟩, hcl⟩, hkr⟩ := hk
    have hlt := dstLt_spec hlt
    have hdst : ∀ d, o.dst = some d → d ∈ dstsOf ops.toList (.op i st r) := by intro d hd; simp [dstsOf, ho, hd]
    have hsub : ∀ d ∈ dstsOf ops.toList r, d ∈ dstsOf ops.toList (.op i st r) := by
      intro d hd; simp only [dstsOf, ho]; cases o.dst <;> simp [hd]
    have quiet : ∀ v, st = [] → ck.qOk done i = true → Quiet P ops i v a w → vcP P C ops.toList r ((envOf a).put o.dst v) w.heap K → R.X done a w := by
      intro v _ hq hqu hvr
      refine R.quiet done i a w ha hq ⟨v, o, getL ho, hqu, hlt, ?_⟩
      refine ih cur (i :: done) k K _ w hkr (ha.put _ _) (hcur.put hco ha hlt) (by rw [envOf_put (fun d h => by rw [ha.size]; exact hlt d h)]; exact hvr) ?_
      intro done' a' w'' hkd ha' hsame hr' hc' hK
      exact hX done' a' w'' hkd ha' (((Same.put ha hlt hdst).trans (hsame.mono hsub)).mono (by simp)) hr' hc' hK
    have hv' := hv
    simp only [vcP, ho, opH] at hv
    by_cases h0 : cls P o.op = 0
    · rw [h0] at hcl hv
      simp only [Bool.and_eq_true] at hcl
      have hst : st = [] := by simpa using hcl.1.2
      subst hst
      obtain ⟨dst, op, ty, pos, af, g⟩ := o
      obtain ⟨v, hrun, hk2⟩ := opV_sound (dst := dst) (ty := ty) (pos := pos) (af := af) (g := g) hv
      exact quiet v rfl hcl.2 ⟨_, getL ho, .inl ⟨curOk_wanted hco hcur, .inl ⟨h0, by rw [eval_ev]; exact hrun⟩⟩⟩ hk2
    · by_cases h1 : cls P o.op = 1
      · rw [h1] at hcl hv
        simp only [Bool.and_eq_true] at hcl
        have hst : st = [] := by simpa using hcl.1.2
        subst hst
        obtain ⟨dst, op, ty, pos, af, g⟩ := o
        obtain ⟨v, hrun, hk2⟩ := opR_sound (dst := dst) (ty := ty) (pos := pos) (af := af) (g := g) hv
        exact quiet v rfl hcl.2 ⟨_, getL ho, .inl ⟨curOk_wanted hco hcur, .inr ⟨h1, by rw [eval_ev]; exact hrun⟩⟩⟩ hk2
      · split at hcl
        · rename_i h; exact absurd h h0
        · rename_i h; exact absurd h h1
        · simp only [Bool.and_eq_true, Bool.false_or] at hcl
          refine R.effect done [(i, st)] a w ha (by simpa using hcl.1.1) ?_
          intro h hm
          simp only [List.mem_singleton] at hm
          subst hm
          exact ⟨hcl.1.2, plan_estep hC ih ho ⟨h0, h1⟩ hco hlt hkr ha hcur hv' hX⟩
theorem pickOf_inv {o : Op} {t u : Nat} {want : Bool} (h : pickOf o = some (t, u, want)) : (o = .pick (.tmp t) (.tmp u) (.const (.bool false)) ∧ want = true) ∨ (o = .pick (.tmp t) (.const (.bool true)) (.tmp u) ∧ want = false) := by
  unfold pickOf at h
  split at h
  · simp only [Option.some.injEq, Prod.mk.injEq] at h
    obtain ⟨rfl, rfl, rfl⟩ := h
    exact .inl ⟨rfl, rfl⟩
  · simp only [Option.some.injEq, Prod.mk.injEq] at h
    obtain ⟨rfl, rfl, rfl⟩ := h
    exact .inr ⟨rfl, rfl⟩
  · cases h
theorem mix_same {l : List Nat} {a a' : Act} (h : Same l a a') : (envOf a).mix (envOf a') l = envOf a' := by
  funext s
  simp only [Env.mix]
  cases hm : memb s l with
  | true => rfl
  | false => exact (h s (memb_false.1 hm)).symm
theorem CurAt.same {cur : Option (Nat × Bool × Nat)} {l : List Nat} {a a' : Act} (h : CurAt ops cur a) (hs : Same l a a') (hc : curFree cur l = true) : CurAt ops cur a' := by
  cases cur with
  | none => trivial
  | some c =>
    obtain ⟨c, w, t⟩ := c
    refine ⟨h.1, ?_⟩
    simp only [curFree, Bool.not_eq_true'] at hc
    rw [hs t (memb_false.1 hc)]
    exact h.2
theorem plan_grp {R : Runner P ops ck} {c p : Nat} {body r : Plan} (ihb : GoodA P ops C ck R body) (ihr : GoodA P ops C ck R r) : GoodA P ops C ck R (.grp c body p r) := by
  intro cur done k K a w hk ha hcur hv hX
  simp only [chkP] at hk
  cases hop : ops.toList[p]? with
  | none => rw [hop] at hk; cases hk
  | some op =>
    cases hoc' : ops.toList[c]? with
    | none => rw [hop, hoc'] at hk; cases hk
    | some oc =>
      rw [hop, hoc'] at hk
      simp only at hk
      cases hpk : pickOf op.op with
      | none => rw [hpk] at hk; cases hk
      | some q =>
        obtain ⟨t, u, want⟩ := q
        rw [hpk] at hk
        simp only [Bool.and_eq_true] at hk
        obtain ⟨⟨⟨⟨⟨⟨⟨_, hco⟩, hlt⟩, hoc1⟩, hnt⟩, hcurb⟩, hskb⟩, hkb⟩ := hk
        have hlt := dstLt_spec hlt
        have hoct : oc.dst = some t := by
          split at hoc1
          · rename_i t' h; rw [h, Nat.eq_of_beq_eq_true hoc1]
          · cases hoc1
        have hnt : t ∉ dstsOf ops.toList body := memb_false.1 (by simpa using hnt)
        have hsubb : ∀ d ∈ dstsOf ops.toList body, d ∈ dstsOf ops.toList (.grp c body p r) := fun d hd => by simp [dstsOf, hd]
        have hsubr : ∀ d ∈ dstsOf ops.toList r, d ∈ dstsOf ops.toList (.grp c body p r) := fun d hd => by
          simp only [dstsOf, hop]; cases op.dst <;> simp [hd]
        have hdst : ∀ d, op.dst = some d → d ∈ dstsOf ops.toList (.grp c body p r) := fun d hd => by simp [dstsOf, hop, hd]
        -- behind the pick
        have rest : ∀ (v : Value) (done1 : List Nat) (a1 : Act) (w1 : World), (ck.qOk done1 p && chkP P ops ck r false cur (p :: done1) k) = true → Ok ck.n a1 → Same (dstsOf ops.toList body) a a1 → Rest w w1 →
            (∀ w', (execOp a1.eval op).run P w' = .ok (.value v) w') → (∀ junk : Env, vcP P C ops.toList r (((envOf a).mix junk (dstsOf ops.toList body)).put op.dst v) w1.heap K) → R.X done1 a1 w1 := by
          intro v done1 a1 w1 hk1 ha1 hs1 hr1 hrun hvr
          simp only [Bool.and_eq_true] at hk1
          have hcur1 := hcur.same hs1 hcurb
          have hcls : cls P op.op = 0 := by rcases pickOf_inv hpk with ⟨h, _⟩ | ⟨h, _⟩ <;> rw [h] <;> rfl
          refine R.quiet done1 p a1 w1 ha1 hk1.1 ⟨v, op, getL hop, ⟨op, getL hop, .inl ⟨curOk_wanted hco hcur1, .inl ⟨hcls, hrun⟩⟩⟩, hlt, ?_⟩
          have hvr1 := hvr (envOf a1)
          rw [mix_same hs1] at hvr1
          refine ihr cur (p :: done1) k K _ w1 hk1.2 (ha1.put _ _) (hcur1.put hco ha1 hlt) (by rw [envOf_put (fun d h => by rw [ha1.size]; exact hlt d h)]; exact hvr1) ?_
          intro done' a' w'' hkd ha' hsame hr' hc' hK
          exact hX done' a' w'' hkd ha' (((hs1.mono hsubb).trans ((Same.put ha1 hlt hdst).trans (hsame.mono hsubr))).mono (by simp)) (hr1.trans hr') hc' hK
        have notwant : envOf a t = .bool (!want) → (∀ done1 a1, (ck.qOk done1 p && chkP P ops ck r false cur (p :: done1) k) = true → Ok ck.n a1 → Same (dstsOf ops.toList body) a a1 → R.X done1 a1 w) → R.X done a w := by
          intro hen h
          exact skip_sound (getL hoc') hoct body [] (some (c, want, t)) done _ a w hskb hkb (by simp) hnt ha hen (by simp) (fun done' a' h1 h2 h3 _ => h done' a' h1 h2 h3)
        have wants : ∀ (J : Value → Heap → Prop), envOf a t = .bool want → vcP P C ops.toList body (envOf a) w.heap (fun ρ' H' => J (ρ' u) H') →
            (∀ done1 a1 w1, (ck.qOk done1 p && chkP P ops ck r false cur (p :: done1) k) = true → Ok ck.n a1 → Same (dstsOf ops.toList body) a a1 → Rest w w1 → envOf a1 t = .bool want → J (envOf a1 u) w1.heap → R.X done1 a1 w1) → R.X done a w := by
          intro J hen hb h
          exact ihb (some (c, want, t)) done _ _ a w hkb ha ⟨⟨oc, getL hoc', hoct⟩, hen⟩ hb (fun done1 a1 w1 h1 h2 h3 h4 h5 h6 => h done1 a1 w1 h1 h2 h3 h4 h5.2 h6)
        simp only [vcP, hop] at hv
        rcases pickOf_inv hpk with ⟨hform, rfl⟩ | ⟨hform, rfl⟩
        · rw [hform] at hv
          simp only at hv
          cases hen : envOf a t <;> rw [hen] at hv <;> simp only [pAnd] at hv
          rename_i b
          obtain ⟨J, hJ, h0, h1⟩ := hv
          have runs : ∀ (a1 : Act) (bb : Bool), envOf a1 t = .bool bb → ∀ w', (execOp a1.eval op).run P w' = .ok (.value (if bb then envOf a1 u else .bool false)) w' := by
            intro a1 bb hbb w'
            obtain ⟨dst, o, ty, pos, af, g⟩ := op
            simp only at hform
            subst hform
            rw [eval_ev]
            have : ev (envOf a1) (.tmp t) = .bool bb := hbb
            cases bb <;> simp [execOp, this, asBool] <;> rfl
          cases b with
          | false =>
            refine notwant hen fun done1 a1 hk1 ha1 hs1 => ?_
            refine rest (.bool false) done1 a1 w hk1 ha1 hs1 (Rest.refl w) ?_ (hJ _ _ (h0 rfl))
            have := runs a1 false (by rw [hs1 t hnt]; exact hen)
            simpa using this
          | true =>
            refine wants J hen (h1 rfl) fun done1 a1 w1 hk1 ha1 hs1 hr1 hen1 hj => ?_
            refine rest (envOf a1 u) done1 a1 w1 hk1 ha1 hs1 hr1 ?_ (hJ _ _ hj)
            have := runs a1 true hen1
            simpa using this
        · rw [hform] at hv
          simp only at hv
          cases hen : envOf a t <;> rw [hen] at hv <;> simp only [pOr] at hv
          rename_i b
          obtain ⟨J, hJ, h0, h1⟩ := hv
          have runs : ∀ (a1 : Act) (bb : Bool), envOf a1 t = .bool bb → ∀ w', (execOp a1.eval op).run P w' = .ok (.value (if bb then .bool true else envOf a1 u)) w' := by
            intro a1 bb hbb w'
            obtain ⟨dst, o, ty, pos, af, g⟩ := op
            simp only at hform
            subst hform
            rw [eval_ev]
            have : ev (envOf a1) (.tmp t) = .bool bb := hbb
            cases bb <;> simp [execOp, this, asBool] <;> rfl
          cases b with
          | true =>
            refine notwant hen fun done1 a1 hk1 ha1 hs1 => ?_
            refine rest (.bool true) done1 a1 w hk1 ha1 hs1 (Rest.refl w) ?_ (hJ _ _ (h0 rfl))
            have := runs a1 true (by rw [hs1 t hnt]; exact hen)
            simpa using this
          | false =>
            refine wants J hen (h1 rfl) fun done1 a1 w1 hk1 ha1 hs1 hr1 hen1 hj => ?_
            refine rest (envOf a1 u) done1 a1 w1 hk1 ha1 hs1 hr1 ?_ (hJ _ _ hj)
            have := runs a1 false hen1
            simpa using this
theorem plan_all (hC : Callable P C) {R : Runner P ops ck} : ∀ p, GoodA P ops C ck R p ∧ GoodB P ops C ck R p := by
  intro p
  induction p with
  | nil =>
    refine ⟨?_, ?_⟩
    · intro cur done k K a w hk ha hcur hv hX
      simp only [chkP, Bool.not_false, Bool.true_and] at hk
      exact hX done a w hk ha (Same.refl _ _) (Rest.refl w) hcur hv
    · intro done k K a w hk
      simp [chkP] at hk
  | op i st r ih =>
    refine ⟨plan_op hC ih.1, ?_⟩
    intro done k K a w hk ha hv hX h hm
    simp only [heads, List.mem_singleton] at hm
    subst hm
    simp only [chkP] at hk
    cases ho : ops.toList[i]? with
    | none => rw [ho] at hk; cases hk
    | some o =>
      rw [ho] at hk
      simp only [Bool.and_eq_true] at hk
      obtain ⟨⟨⟨hco, hlt⟩, hcl⟩, hkr⟩ := hk
      split at hcl
      · simp at hcl
      · simp at hcl
      · rename_i h0 h1
        simp only [Bool.and_eq_true] at hcl
        exact ⟨hcl.1.2, plan_estep hC ih.1 ho ⟨h0, h1⟩ hco (dstLt_spec hlt) hkr ha trivial hv (fun done' a' w' g1 g2 g0 g3 _ g4 => hX done' a' w' g1 g2 g0 g3 g4)⟩
  | grp c body p r ihb ihr =>
    refine ⟨plan_grp ihb.1 ihr.1, ?_⟩
    intro done k K a w hk
    simp only [chkP] at hk
    split at hk
    · split at hk
      · simp at hk
      · cases hk
    · cases hk
  | fork p q ihp ihq =>
    have hB : GoodB P ops C ck R (.fork p q) := by
      intro done k K a w hk ha hv hX h hm
      simp only [chkP, Bool.and_eq_true] at hk
      obtain ⟨⟨_, hkp⟩, hkq⟩ := hk
      simp only [vcP] at hv
      rcases List.mem_append.1 hm with hm | hm
      · exact ihp.2 done k K a w hkp ha hv.1 (fun done' a' w' g1 g2 g0 => hX done' a' w' g1 g2 (g0.mono (by intro t ht; simp [dstsOf, ht]))) h hm
      · exact ihq.2 done k K a w hkq ha hv.2 (fun done' a' w' g1 g2 g0 => hX done' a' w' g1 g2 (g0.mono (by intro t ht; simp [dstsOf, ht]))) h hm
    refine ⟨?_, hB⟩
    intro cur done k K a w hk ha hcur hv hX
    simp only [chkP, Bool.and_eq_true, Bool.false_or] at hk
    obtain ⟨⟨⟨hn, he⟩, hkp⟩, hkq⟩ := hk
    have hn : cur = none := by cases cur with | none => rfl | some _ => simp at hn
    subst hn
    refine R.effect done (heads p ++ heads q) a w ha he ?_
    intro h hm
    exact hB done k K a w (by simp [chkP, hkp, hkq]) ha hv (fun done' a' w' g1 g2 g0 g3 g4 => hX done' a' w' g1 g2 g0 g3 trivial g4) h hm
end
end Go.Vc
