/- Regions, code and functions. -/
import Derived.Scope
import Derived.Test.YtfmbgnchedhneaaDoorVcSoundP
namespace Go.Vc
open Go
set_option linter.unusedSimpArgs false
set_option linter.unusedVariables false
section
variable {P : Program} {ops : Array Oper} {N : Act → World → Prop}
theorem wp_QN {o : Oper} {a : Act} {w : World} {F : Act → World → Prop} {N0 N1 : Act → World → Prop} (h : o.wp P a w F (QN N0)) : o.wp P a w F (QN N1) := by
  unfold Oper.wp at *
  generalize (execOp a.eval o).run P w = r at *
  cases r with
  | ok n w' =>
    cases n <;> simp only [Oper.upon] at h ⊢ <;> first | exact h | skip
  | halt x w' => cases x <;> simp only [Oper.upon] at h ⊢ <;> exact h
theorem Quiet.yields {i : Nat} {v : Value} {a : Act} {w : World} {o : Oper} (ho : ops[i]? = some o) (h : Quiet P ops i v a w) : YieldsAt P ops o v a w := by
  obtain ⟨o', ho', h⟩ := h
  rw [ho] at ho'
  obtain rfl := Option.some.inj ho'
  rcases h with ⟨hw, ⟨_, h⟩ | ⟨_, h⟩⟩ | h
  · exact .inl ⟨hw, h w⟩
  · exact .inl ⟨hw, h w rfl⟩
  · exact .inr h
/-- in the order of the text -/
def textChk (sz n : Nat) : Chk where
  n := n
  qOk done i := Nat.beq i done.length
  eOk done hs := match hs with | [i] => Nat.beq i done.length | _ => false
  stOk _ _ _ := true
theorem drop_range {n i : Nat} (h : i < n) : (List.range n).drop i = i :: (List.range n).drop (i + 1) := by
  rw [List.drop_eq_getElem_cons (by simpa using h)]
  simp
def textRun (P : Program) (ops : Array Oper) (N : Act → World → Prop) (n : Nat) : Runner P ops (textChk ops.size n) where
  X done a w := wpOps P ops (QN N) ((List.range ops.size).drop done.length) a w
  quiet done i a w ha hq h := by
    obtain ⟨v, o, ho, hqu, hd, hx⟩ := h
    have hi : i = done.length := Nat.eq_of_beq_eq_true hq
    subst hi
    have hlt : done.length < ops.size := (Array.getElem?_eq_some_iff.1 ho).1
    rw [drop_range hlt, wpOps_cons]
    exact (hqu.yields ho).wpOp ho hx
  effect done hs a w ha he h := by
    cases hs with
    | nil => simp [textChk] at he
    | cons x r =>
      cases r with
      | cons y r => simp [textChk] at he
      | nil =>
        obtain ⟨i, st⟩ := x
        have hi : i = done.length := Nat.eq_of_beq_eq_true he
        subst hi
        obtain ⟨o, ho, hw, hwp⟩ := (h (done.length, st) (by simp)).2
        have hlt : done.length < ops.size := (Array.getElem?_eq_some_iff.1 ho).1
        rw [drop_range hlt, wpOps_cons]
        unfold wpOp
        simp only [ho, hw, if_true]
        exact .inl (Oper.wp_mono (fun a' w' h => h.2.2.2) (wp_QN hwp))
/-- in an order that is drawn -/
def listedOf (sz : Nat) (done : List Nat) : Array Bool := done.foldr (fun i l => l.setIfInBounds i true) (Array.replicate sz false)
def readsOf (P : Program) (ops : Array Oper) (done : List Nat) : List Nat := done.filter fun i => match ops[i]? with | some o => Nat.beq (cls P o.op) 1 | none => false
def selfApart (ops : Array Oper) (o : Oper) : Bool := match o.dst with | some d => !(o.looksAt ops).contains d | none => true
def drawChk (P : Program) (ops : Array Oper) (Bs : List Nat) (n : Nat) : Chk where
  n := n
  qOk done i := Nat.blt done.length ops.size && (Region.ready .any ops (listedOf ops.size done)).contains i && Region.free .any ops (listedOf ops.size done) i && (match ops[i]? with
    | some o => selfApart ops o && (o.dst.isSome || !Nat.beq (cls P o.op) 1) && (readsOf P ops done).all fun k => match ops[k]? with | some ok => putApart ops o ok | none => true
    | none => false)
  eOk done hs := Nat.blt done.length ops.size && !hs.isEmpty && (Region.ready .any ops (listedOf ops.size done) == hs)
  stOk done j st := (readsOf P ops done).all fun k => bOf Bs k j || memb k st
def drawRun (P : Program) (ops : Array Oper) (N : Act → World → Prop) (Bs : List Nat) (n : Nat) (hB : okB ops.toList Bs = true) (hS : Region.noSelect ops = true) : Runner P ops (drawChk P ops Bs n) where
  X done a w := Closed ops (listedOf ops.size done) → wpG P ops N (bOf Bs) (ops.size - done.length) (listedOf ops.size done) (readsOf P ops done) a w
  quiet done i a w ha hq h := by
    intro hcl
    obtain ⟨v, o, ho, hqu, hd, hx⟩ := h
    simp only [drawChk, ho, Bool.and_eq_true] at hq
    obtain ⟨⟨⟨hlt, hr⟩, hf⟩, ⟨hself, hdst⟩, hap⟩ := hq
    have hr : i ∈ Region.ready .any ops (listedOf ops.size done) := by simpa using hr
    rw [Nat.blt_eq] at hlt
    rw [show ops.size - done.length = (ops.size - (i :: done).length) + 1 by simp; omega]
    have hcl' := hcl.add hr
    have hx := hx hcl'
    refine wpG_first (D' := readsOf P ops (i :: done)) ho (Region.noSelect_spec hS) ?_ ?_ ?_ _ _ a w (fun d h => by rw [ha.size]; exact hd d h) hcl (Region.free_spec ho hf) hr ?_ hx
    · intro d h
      unfold selfApart at hself
      rw [h] at hself
      simpa using hself
    · intro k hk ok hok
      rw [List.all_eq_true] at hap
      have := hap k hk
      rw [hok] at this
      exact this
    · intro listed hcl2 j hj hb
      obtain ⟨_, oj, hoj, hall⟩ := mem_ready.1 hj
      refine bOf_listed hB hcl2 (j + 1) j i (by omega) hb (fun o2 ho2 e he hbd => ?_)
      rw [hoj] at ho2
      obtain rfl := Option.some.inj ho2
      exact hall e he hbd
    · have hfil : readsOf P ops (i :: done) = if Nat.beq (cls P o.op) 1 = true then i :: readsOf P ops done else readsOf P ops done := by
        simp only [readsOf, List.filter_cons, ho]
      obtain ⟨o', ho', hqq⟩ := hqu
      rw [ho] at ho'
      obtain rfl := Option.some.inj ho'
      cases hc1 : Nat.beq (cls P o.op) 1 with
      | true =>
        rw [hc1] at hfil hdst
        refine .inl ⟨by simpa using hfil, ?_, Quiet.yields ho ⟨o, ho, hqq⟩⟩
        intro hn
        rw [hn] at hdst
        simp at hdst
      | false =>
        rw [hc1] at hfil
        refine .inr ⟨by simpa using hfil, fun w' => ?_⟩
        rcases hqq with ⟨hw, ⟨_, h⟩ | ⟨h1, _⟩⟩ | h
        · exact .inl ⟨hw, h w'⟩
        · rw [h1] at hc1; simp at hc1
        · exact .inr h
  effect done hs a w ha he h := by
    intro hcl
    simp only [drawChk, Bool.and_eq_true, beq_iff_eq] at he
    obtain ⟨⟨hlt, hne⟩, hrd⟩ := he
    rw [Nat.blt_eq] at hlt
    rw [show ops.size - done.length = (ops.size - (done.length + 1)) + 1 by omega]
    refine ⟨fun h0 => ?_, fun j hj => ?_⟩
    · rw [hrd] at h0
      rw [h0] at hne
      simp at hne
    · have hj' := hj
      rw [hrd] at hj'
      obtain ⟨⟨j', st⟩, hm, hje⟩ := List.mem_map.1 hj'
      simp only at hje
      subst hje
      obtain ⟨hst, o, ho, hw, hwp⟩ := h _ hm
      unfold wpOp
      simp only [ho, hw, if_true]
      refine .inl (Oper.wp_mono (fun a' w' h => ⟨?_, ?_⟩) (wp_QN hwp))
      · intro k hk hb ok hok d hd hy
        simp only [drawChk, List.all_eq_true, Bool.or_eq_true] at hst
        rcases hst k hk with h1 | h1
        · rw [hb] at h1; cases h1
        · rcases hy with ⟨hw2, _⟩ | hy
          · exact .inl ⟨hw2, h.2.2.1 k (memb_iff.1 h1) ok hok d hd⟩
          · exact .inr hy
      · have hx := h.2.2.2 (hcl.add hj)
        simp only [List.length_cons] at hx
        refine wpG_less (D' := readsOf P ops (j' :: done)) ?_ _ _ _ _ hx
        intro k hk
        rw [readsOf, List.mem_filter] at hk ⊢
        exact ⟨List.mem_cons_of_mem _ hk.1, hk.2⟩
def dstsR : List Oper → List Nat
  | [] => []
  | o :: r => match o.dst with
    | some d => d :: dstsR r
    | none => dstsR r
theorem dstsR_get {d : Nat} : ∀ {l : List Oper} {i : Nat} {o : Oper}, l[i]? = some o → o.dst = some d → d ∈ dstsR l
  | [], i, o, h, _ => by simp at h
  | x :: r, 0, o, h, hd => by
    simp only [List.getElem?_cons_zero, Option.some.injEq] at h
    subst h
    simp [dstsR, hd]
  | x :: r, i + 1, o, h, hd => by
    have := dstsR_get (l := r) (i := i) (by simpa using h) hd
    simp only [dstsR]
    cases x.dst <;> simp [this]
theorem dstsOf_sub {l : List Oper} {d : Nat} : ∀ {p : Plan}, d ∈ dstsOf l p → d ∈ dstsR l
  | .nil, h => by simp [dstsOf] at h
  | .op i st r, h => by
    simp only [dstsOf] at h
    cases ho : l[i]? with
    | none => rw [ho] at h; exact dstsOf_sub h
    | some o =>
      rw [ho] at h
      simp only at h
      cases hd : o.dst with
      | none => rw [hd] at h; exact dstsOf_sub h
      | some d' =>
        rw [hd] at h
        rcases List.mem_cons.1 h with rfl | h
        · exact dstsR_get ho hd
        · exact dstsOf_sub h
  | .grp c b p r, h => by
    simp only [dstsOf, List.mem_append] at h
    rcases h with h | h
    · exact dstsOf_sub h
    · cases ho : l[p]? with
      | none => rw [ho] at h; exact dstsOf_sub h
      | some o =>
        rw [ho] at h
        simp only at h
        cases hd : o.dst with
        | none => rw [hd] at h; exact dstsOf_sub h
        | some d' =>
          rw [hd] at h
          rcases List.mem_cons.1 h with rfl | h
          · exact dstsR_get ho hd
          · exact dstsOf_sub h
  | .fork a b, h => by
    simp only [dstsOf, List.mem_append] at h
    rcases h with h | h <;> exact dstsOf_sub h
def wrC : Code → List Nat
  | .region _ ops _ => dstsR ops.toList
  | .seq a b => wrC a ++ wrC b
  | .cond _ a b => wrC a ++ wrC b
  | .block _ a => wrC a
  | .loop a => wrC a
  | .scope a => wrC a
  | _ => []
def subL : List Nat → List Nat → Bool
  | [], _ => true
  | x :: r, l => memb x l && subL r l
theorem subL_spec : ∀ {l m : List Nat}, subL l m = true → ∀ t ∈ l, t ∈ m
  | [], _, _, t, ht => by simp at ht
  | x :: r, m, h, t, ht => by
    simp only [subL, Bool.and_eq_true] at h
    rcases List.mem_cons.1 ht with rfl | ht
    · exact memb_iff.1 h.1
    · exact subL_spec h.2 t ht
def chkC (P : Program) (n : Nat) : Code → Ann → Bool
  | .skip, _ | .ret, _ | .exit _, _ | .label _, _ => true
  | .scope x, a => chkC P n x a
  | .region _ ops draw, .reg p => !draw && chkP P ops (textChk ops.size n) p false none [] fun d => Nat.beq d.length ops.size
  | .region _ ops draw, .drw Bs p => draw && Region.noSelect ops && okB ops.toList Bs && chkP P ops (drawChk P ops Bs n) p false none [] fun d => Nat.beq d.length ops.size && (Region.ready .any ops (listedOf ops.size d)).isEmpty
  | .seq x y, .seq a b => chkC P n x a && chkC P n y b
  | .seq x y, .cut _ wr a b => subL (wrC x) wr && chkC P n x a && chkC P n y b
  | .cond _ x y, .cond a b => chkC P n x a && chkC P n y b
  | .block _ x, .block a => chkC P n x a
  | .loop x, .loop _ wr a => subL (wrC x) wr && chkC P n x a
  | _, _ => false
def QX (Q : Ex → Env → Heap → Prop) : Exit → Act → World → Prop
  | .normal, a, w => Q .normal (envOf a) w.heap
  | .exit id, a, w => Q (.exit id) (envOf a) w.heap
  | .ret, a, w => Q .ret (envOf a) w.heap
  | _, _, _ => False
def QC (n : Nat) (l : List Nat) (a0 : Act) (w0 : World) (Q : Ex → Env → Heap → Prop) (e : Exit) (a : Act) (w : World) : Prop := Ok n a ∧ Rest w0 w ∧ Same l a0 a ∧ QX Q e a w
theorem QC.le {n : Nat} {l l' : List Nat} {a0 a1 : Act} {w0 w1 : World} {Q Q' : Ex → Env → Heap → Prop} {e : Exit} {a : Act} {w : World} (h : QC n l' a1 w1 Q' e a w) (hs : Same l a0 a1) (hl : ∀ t ∈ l', t ∈ l) (hr : Rest w0 w1) (hq : QX Q' e a w → QX Q e a w) : QC n l a0 w0 Q e a w :=
  ⟨h.1, hr.trans h.2.1, ((hs.trans (h.2.2.1.mono hl)).mono (by simp)), hq h.2.2.2⟩
theorem alls_self : ∀ {slots : List Nat} {ρ : Env} {K : Env → Prop}, alls slots ρ K → K ρ
  | [], _, _, h => h
  | t :: s, ρ, K, h => by
    have h := h (ρ t)
    have : ρ.upd t (ρ t) = ρ := by
      funext s
      simp only [Env.upd]
      cases hb : Nat.beq s t with
      | true => simp [Nat.eq_of_beq_eq_true hb]
      | false => rfl
    rw [this] at h
    exact alls_self h
variable {C : List Nat}
theorem wp_weak {c : Code} {a : Act} {w : World} {Q Q' : Exit → Act → World → Prop} (h : c.wp P Q a w) (hq : ∀ e a w, Q e a w → Q' e a w) : c.wp P Q' a w := wp_mono h hq
theorem vc_sound (hC : Callable P C) (hm : P.follows .mixedOrders = true) {n : Nat} : ∀ (c : Code) (an : Ann) (a : Act) (w : World) (Q : Ex → Env → Heap → Prop), chkC P n c an = true → Ok n a → vc P C c an (envOf a) w.heap Q →
    c.wp P (QC n (wrC c) a w Q) a w := by
  intro c
  induction c with
  | skip =>
    intro an a w Q hk ha hv
    simp only [vc] at hv
    exact wp_skip ⟨ha, Rest.refl w, Same.refl _ _, hv⟩
  | ret =>
    intro an a w Q hk ha hv
    simp only [vc] at hv
    exact wp_ret ⟨ha, Rest.refl w, Same.refl _ _, hv⟩
  | exit id =>
    intro an a w Q hk ha hv
    simp only [vc] at hv
    exact wp_exit ⟨ha, Rest.refl w, Same.refl _ _, hv⟩
  | label l =>
    intro an a w Q hk ha hv
    simp only [vc] at hv
    exact wp_label ⟨ha, Rest.refl w, Same.refl _ _, hv⟩
  | scope x ih =>
    intro an a w Q hk ha hv
    simp only [chkC] at hk
    simp only [vc] at hv
    refine wp_scope_straight (wp_mono (ih an a w Q hk ha hv) fun e a' w' he => ?_)
    cases e with
    | goto l => exact he.2.2.2.elim
    | _ => exact he
  | region id ops draw =>
    intro an a w Q hk ha hv
    cases an with
    | reg p =>
      simp only [chkC, Bool.and_eq_true, Bool.not_eq_true'] at hk
      obtain ⟨hd, hk⟩ := hk
      subst hd
      simp only [vc] at hv
      let N : Act → World → Prop := fun a' w' => QC n (wrC (.region id ops false)) a w Q .normal a' w'
      have h := (plan_all hC (R := textRun P ops N n) p).1 none [] _ _ a w hk ha trivial hv (fun done' a' w' h1 h2 h3 h4 _ h6 => by
        have hl : done'.length = ops.size := Nat.eq_of_beq_eq_true h1
        show wpOps P ops (QN N) ((List.range ops.size).drop done'.length) a' w'
        rw [hl, List.drop_eq_nil_of_le (by simp)]
        exact ⟨h2, h4, h3.mono (fun t ht => dstsOf_sub ht), h6⟩)
      refine wp_mono (Q := QN N) (wp_region (by simpa [textRun] using h)) fun e a' w' he => ?_
      cases e <;> first | exact he | exact he.elim
    | drw Bs p =>
      simp only [chkC, Bool.and_eq_true] at hk
      obtain ⟨⟨⟨hd, hS⟩, hB⟩, hk⟩ := hk
      subst hd
      simp only [vc] at hv
      let N : Act → World → Prop := fun a' w' => QC n (wrC (.region id ops true)) a w Q .normal a' w'
      have hcl0 : Closed ops (listedOf ops.size []) := by
        intro k o ho hk
        have : (Array.replicate ops.size false)[k]?.getD false = false := by
          by_cases h : k < ops.size <;> simp [h]
        simp only [listedOf, List.foldr_nil, Array.getD_eq_getD_getElem?] at hk
        rw [this] at hk
        cases hk
      have h := (plan_all hC (R := drawRun P ops N Bs n hB hS) p).1 none [] _ _ a { w with drawn := w.drawn + 1 } hk ha trivial hv (fun done' a' w' h1 h2 h3 h4 _ h6 => by
        intro _
        simp only [Bool.and_eq_true] at h1
        have hl : done'.length = ops.size := Nat.eq_of_beq_eq_true h1.1
        rw [hl, Nat.sub_self]
        exact ⟨by simpa using h1.2, h2, Rest.trans (show Rest w { w with drawn := w.drawn + 1 } from ⟨rfl, rfl⟩) h4, h3.mono (fun t ht => dstsOf_sub ht), h6⟩)
      have h := h hcl0
      refine wp_mono (Q := QN N) (wp_region_any hm (wpAny_of_G _ _ _ _ h)) fun e a' w' he => ?_
      cases e <;> first | exact he | exact he.elim
    | _ => simp [chkC] at hk
  | seq x y ihx ihy =>
    intro an a w Q hk ha hv
    cases an with
    | seq p q =>
      simp only [chkC, Bool.and_eq_true] at hk
      simp only [vc] at hv
      refine wp_seq (wp_mono (ihx p a w _ hk.1 ha hv) fun e a' w' he => ?_)
      cases e with
      | normal =>
        obtain ⟨h1, h2, h3, h4⟩ := he
        refine wp_mono (ihy q a' w' Q hk.2 h1 h4) fun e2 a2 w2 he2 => he2.le (h3.mono (by intro t ht; simp [wrC, ht])) (by intro t ht; simp [wrC, ht]) h2 (fun h => h)
      | exit id => exact QC.le he (Same.refl _ _) (by intro t ht; simp [wrC, ht]) (Rest.refl w) (fun h => h)
      | ret => exact QC.le he (Same.refl _ _) (by intro t ht; simp [wrC, ht]) (Rest.refl w) (fun h => h)
      | goto l => exact he.2.2.2.elim
      | panic ch => exact he.2.2.2.elim
      | outgrown => exact he.2.2.2.elim
    | cut slots wr p q =>
      simp only [chkC, Bool.and_eq_true] at hk
      simp only [vc] at hv
      obtain ⟨J, hJ, hv⟩ := hv
      refine wp_seq (wp_mono (ihx p a w _ hk.1.2 ha hv) fun e a' w' he => ?_)
      cases e with
      | normal =>
        obtain ⟨h1, h2, h3, h4⟩ := he
        have h5 := hJ (envOf a')
        rw [mix_same (h3.mono (subL_spec hk.1.1))] at h5
        refine wp_mono (ihy q a' w' Q hk.2 h1 (alls_self h5 w'.heap h4)) fun e2 a2 w2 he2 => he2.le (h3.mono (by intro t ht; simp [wrC, ht])) (by intro t ht; simp [wrC, ht]) h2 (fun h => h)
      | exit id => exact QC.le he (Same.refl _ _) (by intro t ht; simp [wrC, ht]) (Rest.refl w) (fun h => h)
      | ret => exact QC.le he (Same.refl _ _) (by intro t ht; simp [wrC, ht]) (Rest.refl w) (fun h => h)
      | goto l => exact he.2.2.2.elim
      | panic ch => exact he.2.2.2.elim
      | outgrown => exact he.2.2.2.elim
    | _ => simp [chkC] at hk
  | cond c x y ihx ihy =>
    intro an a w Q hk ha hv
    cases an with
    | cond p q =>
      simp only [chkC, Bool.and_eq_true] at hk
      simp only [vc] at hv
      rw [← eval_ev] at hv
      cases hc : a.eval c <;> rw [hc] at hv <;> simp only [pCond] at hv
      refine wp_cond_split hc (fun ht => ?_) (fun hf => ?_)
      · exact wp_mono (ihx p a w Q hk.1 ha (hv.1 ht)) fun e a' w' he => he.le (Same.refl _ _) (by intro t ht; simp [wrC, ht]) (Rest.refl w) (fun h => h)
      · exact wp_mono (ihy q a w Q hk.2 ha (hv.2 hf)) fun e a' w' he => he.le (Same.refl _ _) (by intro t ht; simp [wrC, ht]) (Rest.refl w) (fun h => h)
    | _ => simp [chkC] at hk
  | block id x ih =>
    intro an a w Q hk ha hv
    cases an with
    | block p =>
      simp only [chkC] at hk
      simp only [vc] at hv
      refine wp_block (wp_mono (ih p a w _ hk ha hv) fun e a' w' he => ?_)
      cases e with
      | exit k =>
        simp only [Exit.inBlock]
        obtain ⟨h1, h2, h3, h4⟩ := he
        simp only [QX] at h4
        by_cases hki : k = id
        · subst hki
          rw [if_pos rfl]
          simp only [Nat.beq_eq_true_eq, Nat.beq_refl, cond_true] at h4
          exact ⟨h1, h2, h3, h4⟩
        · rw [if_neg hki]
          have : Nat.beq k id = false := by cases hb : Nat.beq k id with | false => rfl | true => exact absurd (Nat.eq_of_beq_eq_true hb) hki
          rw [this] at h4
          exact ⟨h1, h2, h3, h4⟩
      | normal => exact he
      | ret => exact he
      | goto l => exact he
      | panic ch => exact he
      | outgrown => exact he
    | _ => simp [chkC] at hk
  | loop x ih =>
    intro an a w Q hk ha hv
    cases an with
    | loop slots wr p =>
      simp only [chkC, Bool.and_eq_true] at hk
      simp only [vc] at hv
      obtain ⟨I, μ, h0, hround⟩ := hv
      refine wp_loop (fun a' w' => Ok n a' ∧ Rest w w' ∧ Same (wrC x) a a' ∧ appl slots I (envOf a') w'.heap) (fun a' w' => applN slots μ (envOf a') w'.heap) ⟨ha, Rest.refl w, Same.refl _ _, h0⟩ ?_
      intro a1 w1 ⟨g1, g2, g3, g4⟩
      have h5 := hround (envOf a1)
      rw [mix_same (g3.mono (subL_spec hk.1))] at h5
      refine wp_mono (ih p a1 w1 _ hk.2 g1 (alls_self h5 w1.heap g4)) fun e a' w' he => ?_
      cases e with
      | normal =>
        obtain ⟨h1, h2, h3, h4⟩ := he
        exact ⟨⟨h1, g2.trans h2, (g3.trans h3).mono (by simp), h4.1⟩, h4.2⟩
      | exit id => exact QC.le he g3 (by simp [wrC]) g2 (fun h => h)
      | ret => exact QC.le he g3 (by simp [wrC]) g2 (fun h => h)
      | goto l => exact he.2.2.2.elim
      | panic ch => exact he.2.2.2.elim
      | outgrown => exact he.2.2.2.elim
    | _ => simp [chkC] at hk
  | _ => intro an a w Q hk; simp [chkC] at hk
def resOne (tmps : Array Value) : ResultVar → Sem Value
  | .tmp t => pure (tmps.getD t undef)
  | .cell b t => do loadVar t (← asAddr (tmps.getD b undef))
theorem results_eq (fn : Func) (tmps : Array Value) : results fn tmps = (do let vs ← fn.results.mapM (resOne tmps); pure (if h : vs.size = 1 then vs[0] else .tuple vs)) := rfl
theorem results_sound {a : Act} {w : World} : ∀ {rs : List ResultVar} {K : List Value → Prop}, resH P (envOf a) w.heap K rs →
    ∃ l, (rs.mapM (resOne a.tmps)).run P w = Result.ok l w ∧ K l
  | [], K, h => ⟨[], rfl, h⟩
  | .tmp t :: r, K, h => by
    simp only [resH] at h
    obtain ⟨l, hl, hk⟩ := results_sound h
    refine ⟨envOf a t :: l, ?_, hk⟩
    simp only [List.mapM_cons, resOne, Sem.run_bind, Sem.run_pure, Result.andThen_ok, hl]
    rfl
  | .cell b t :: r, K, h => by
    simp only [resH] at h
    split at h
    · rename_i d i hd hi
      have key : ∀ {K' : Value → Prop}, RRun P (Instr.loadAt t (envOf a b)) w.heap K' → ∃ v, (resOne a.tmps (.cell b t)).run P w = .ok v w ∧ K' v := by
        intro K' ⟨v, hv, hk⟩
        refine ⟨v, ?_, hk⟩
        have hv := hv w rfl
        have he : a.tmps.getD b undef = envOf a b := rfl
        simp only [resOne]
        rw [he]
        cases hb : envOf a b <;> rw [hb] at hv <;> (try simp only [Instr.loadAt, Instr.sureAddr, Sem.run_bind, run_stuck, Result.andThen_halt, reduceCtorEq] at hv)
        rename_i p
        cases p with
        | none => simp [Instr.loadAt, Instr.sureAddr] at hv
        | some p => simpa [asAddr, Instr.loadAt, Instr.sureAddr] using hv
      cases ha : isAggT P t with
      | true =>
        rw [ha] at h
        simp only [cond_true] at h
        obtain ⟨v, hv, hk⟩ := key (pLoadN_run hd hi ha h)
        obtain ⟨l, hl, hk⟩ := results_sound hk
        refine ⟨v :: l, ?_, hk⟩
        simp only [List.mapM_cons, Sem.run_bind, hv, Result.andThen_ok, hl, Sem.run_pure]
      | false =>
        rw [ha] at h
        simp only [cond_false] at h
        obtain ⟨v, hv, hk⟩ := key (pLoad_run hd ha h)
        obtain ⟨l, hl, hk⟩ := results_sound hk
        refine ⟨v :: l, ?_, hk⟩
        simp only [List.mapM_cons, Sem.run_bind, hv, Result.andThen_ok, hl, Sem.run_pure]
    · exact h.elim
def chkFn (P : Program) (fn : Func) (an : Ann) (nargs : Nat) : Bool := Nat.ble nargs fn.ntmps && match fn.body with
  | some c => chkC P fn.ntmps c an
  | none => false
/-- **what a function's code asks gives the call** -/
theorem vcFn_sound {P : Program} {C : List Nat} (hC : Callable P C) (hm : P.follows .mixedOrders = true) {f : FuncId} {fn : Func} {an : Ann} {args : List Value} {H : Heap} {R : Value → Heap → Prop}
    (hf : P.funcs[f]? = some fn) (hk : chkFn P fn an args.length = true) (h : vcFn P C fn an args H R) : CallsH P f args.toArray H R := by
  intro w hw
  subst hw
  unfold chkFn at hk
  unfold vcFn at h
  simp only [Bool.and_eq_true] at hk
  obtain ⟨hle, hk⟩ := hk
  have hle := Nat.le_of_ble_eq_true hle
  cases hb : fn.body with
  | none => rw [hb] at h; exact h.elim
  | some c =>
    rw [hb] at h hk
    simp only at h hk
    refine calls_of_wp hf hb ?_
    generalize ha : ({ tmps := args.toArray ++ Array.replicate (fn.ntmps - args.toArray.size) undef, defers := [] } : Act) = a
    have hok : Ok fn.ntmps a := by subst ha; exact ⟨by simp; omega, rfl⟩
    have hen : envOf a = initEnv args := by
      subst ha
      funext t
      simp only [envOf, initEnv, Array.getD_eq_getD_getElem?]
      by_cases ht : t < args.length
      · rw [Array.getElem?_append_left (by simpa using ht)]
        simp [ht]
      · rw [Array.getElem?_append_right (by simp; omega)]
        simp only [List.size_toArray, Array.getElem?_replicate]
        rw [List.getElem?_eq_none (by omega)]
        split <;> rfl
    rw [← hen] at h
    refine wp_mono (vc_sound hC hm c an a w _ hk hok h) fun e a' w' he => ?_
    obtain ⟨h1, h2, h3, h4⟩ := he
    have fin : resH P (envOf a') w'.heap (fun l => R (oneOr l) w'.heap) fn.results.toList → a'.defers = [] ∧ ∃ v, (results fn a'.tmps).run P w' = .ok v w' ∧ ∃ v', Ending.returned v = Ending.returned v' ∧ Rest w w' ∧ R v' w'.heap := by
      intro hr
      obtain ⟨l, hl, hk⟩ := results_sound hr
      refine ⟨h1.defers, oneOr l, ?_, oneOr l, rfl, h2, hk⟩
      rw [results_eq, Array.mapM_eq_mapM_toList]
      simp only [Sem.run_bind, Sem.run_map, hl, Result.andThen_ok, Sem.run_pure]
      cases l with
      | nil => rfl
      | cons x r => cases r <;> simp [oneOr]
    cases e with
    | normal => exact fin h4
    | ret => exact fin h4
    | exit id => exact h4.elim
    | goto l => exact h4.elim
    | panic ch => exact h4.elim
    | outgrown => exact h4.elim
end
end Go.Vc
