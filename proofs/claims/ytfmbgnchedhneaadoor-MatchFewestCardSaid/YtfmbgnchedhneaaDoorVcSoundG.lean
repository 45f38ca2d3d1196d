/- A region whose order is drawn: operations that don't look at memory, and reads that what is done besides leaves as they are, may be taken first. -/
import Derived.Test.YtfmbgnchedhneaaDoorVcSoundE
namespace Go.Vc
open Go
set_option linter.unusedSimpArgs false
set_option linter.unusedVariables false
def envOf (a : Act) : Env := fun t => a.tmps.getD t undef
theorem eval_ev (a : Act) : a.eval = ev (envOf a) := by funext x; cases x <;> rfl
theorem envOf_put {a : Act} {dst : Option Tmp} {v : Value} (h : ∀ d, dst = some d → d < a.tmps.size) : envOf (a.put dst v) = (envOf a).put dst v := by
  cases dst with
  | none => rfl
  | some d =>
    funext s
    have hd := h d rfl
    simp only [envOf, Act.put, Env.put, Env.upd]
    by_cases hs : s = d
    · subst hs; simp [hd]
    · have : Nat.beq s d = false := by cases h : Nat.beq s d with | false => rfl | true => exact absurd (Nat.eq_of_beq_eq_true h) hs
      simp [this, Array.getElem?_setIfInBounds_ne (Ne.symm hs)]
def QN (N : Act → World → Prop) : Exit → Act → World → Prop
  | .normal, a, w => N a w
  | _, _, _ => False
theorem QN_lets {N : Act → World → Prop} : ¬ LetsOut (QN N) := fun ⟨_, _, h⟩ => h
section
variable {P : Program} {ops : Array Oper} {N : Act → World → Prop}
def YieldsAt (P : Program) (ops : Array Oper) (o : Oper) (v : Value) (a : Act) (w : World) : Prop :=
  (Region.wanted o (yielded ops a.tmps) = true ∧ (execOp a.eval o).run P w = .ok (.value v) w) ∨ (Region.wanted o (yielded ops a.tmps) = false ∧ v = undef)
theorem YieldsAt.of_same {o : Oper} {v : Value} {a a' : Act} {w : World} (hy : YieldsAt P ops o v a w) (he : execOp a'.eval o = execOp a.eval o)
    (hw : Region.wanted o (yielded ops a'.tmps) = Region.wanted o (yielded ops a.tmps)) : YieldsAt P ops o v a' w := by
  unfold YieldsAt at *
  rw [he, hw]
  exact hy
theorem YieldsAt.wpOp {i : Nat} {o : Oper} {v : Value} {a : Act} {w : World} {Q : Exit → Act → World → Prop} (hi : ops[i]? = some o) (hy : YieldsAt P ops o v a w)
    {K : Act → World → Prop} (h : K (a.put o.dst v) w) : wpOp P ops Q i K a w := by
  unfold Go.wpOp
  simp only [hi]
  rcases hy with ⟨hw, hv⟩ | ⟨hw, rfl⟩
  · simp only [hw, if_true, Oper.wp, hv, Oper.upon]; exact .inl h
  · simp only [hw, Bool.false_eq_true, if_false]; exact h
/-- what stays, behind operation j: the reads that were taken and that j doesn't wait for -/
def Obl (P : Program) (ops : Array Oper) (b : Nat → Nat → Bool) (D : List Nat) (j : Nat) (a : Act) (w w' : World) : Prop :=
  ∀ i ∈ D, b i j = false → ∀ o, ops[i]? = some o → ∀ d, o.dst = some d → YieldsAt P ops o (envOf a d) a w → YieldsAt P ops o (envOf a d) a w'
def wpG (P : Program) (ops : Array Oper) (N : Act → World → Prop) (b : Nat → Nat → Bool) : Nat → Array Bool → List Nat → Act → World → Prop
  | 0, listed, _, a, w => Region.ready .any ops listed = [] ∧ N a w
  | fuel + 1, listed, D, a, w =>
    (Region.ready .any ops listed = [] → N a w) ∧
    ∀ j ∈ Region.ready .any ops listed, wpOp P ops (QN N) j (fun a' w' => Obl P ops b D j a w w' ∧ wpG P ops N b fuel (listed.setIfInBounds j true) D a' w') a w
theorem wpAny_of_G {b : Nat → Nat → Bool} {D : List Nat} : ∀ (fuel : Nat) (listed : Array Bool) (a : Act) (w : World), wpG P ops N b fuel listed D a w → wpAny P .any ops (QN N) fuel listed a w
  | 0, _, _, _, h => h
  | fuel + 1, _, _, _, h => ⟨h.1, fun i hi => wpOp_mono (fun a' w' h' => wpAny_of_G fuel _ a' w' h'.2) (h.2 i hi)⟩
/-- one operation apart from another one, whose value is put before it or behind it -/
theorem wpOp_shift {j : Nat} {oi oj : Oper} {v : Value} (hj : ops[j]? = some oj) (hap : oi.apart ops oj = true)
    (hsj : ∀ cs b, oj.op ≠ .select cs b) {K : Act → World → Prop} {a : Act} {w : World}
    (h : wpOp P ops (QN N) j K (a.put oi.dst v) w) :
    wpOp P ops (QN N) j (fun a' w' => (∃ u, a'.tmps = (a.put oj.dst u).tmps) ∧ K (a'.put oi.dst v) w') a w := by
  obtain ⟨h1, h2, h3⟩ := Oper.apart_spec hap
  unfold wpOp at *
  simp only [hj] at *
  rw [wanted_put oj a oi.dst v h1] at h
  split
  · rename_i hw
    simp only [hw, if_true] at h
    rcases h with h | ⟨_, hlets⟩
    case inr => exact (QN_lets hlets).elim
    refine .inl ?_
    unfold Oper.wp at *
    rw [execOp_put oj hsj a oi.dst v h1] at h
    generalize hr : (execOp a.eval oj).run P w = r at *
    cases r with
    | ok n w' =>
      cases n <;> simp only [Oper.upon] at h ⊢
      case value u => exact ⟨⟨u, rfl⟩, by rw [← Act.put_comm a v u h2]; exact h⟩
      case skip => exact ⟨⟨_, rfl⟩, by rw [← Act.put_comm a v undef h2]; exact h⟩
      case defer d =>
        refine ⟨⟨undef, by cases oj.dst <;> rfl⟩, ?_⟩
        rw [← Act.put_comm _ v undef h2, ← Act.put_defers]
        exact h
      case enter f args =>
        refine Calls.mono h fun e w'' he => ?_
        cases e with
        | returned u => exact ⟨⟨u, rfl⟩, by rw [← Act.put_comm a v u h2]; exact he⟩
        | panicked c => exact he
        | outgrown => exact he
      case row row args => exact Rows.mono h fun u w'' he => ⟨⟨u, rfl⟩, by rw [← Act.put_comm a v u h2]; exact he⟩
    | halt x w' =>
      cases x <;> simp only [Oper.upon] at h ⊢
      case panic u => exact h
  · rename_i hw
    simp only [hw] at h
    exact ⟨⟨_, rfl⟩, by rw [← Act.put_comm a v undef h2]; exact h⟩
theorem YieldsAt.of_tmps {o : Oper} {v : Value} {a a' : Act} {w : World} (hy : YieldsAt P ops o v a w) (h : a'.tmps = a.tmps) : YieldsAt P ops o v a' w := by
  have he : a'.eval = a.eval := by funext x; cases x <;> simp [Act.eval, h]
  exact hy.of_same (by rw [he]) (by rw [h])
theorem YieldsAt.put {o : Oper} {v u : Value} {a : Act} {w : World} {dst : Option Tmp} (hs : ∀ cs b, o.op ≠ .select cs b) (hd : ∀ d, dst = some d → d ∉ o.looksAt ops) : YieldsAt P ops o v (a.put dst u) w ↔ YieldsAt P ops o v a w := by
  constructor
  · intro h
    exact h.of_same (execOp_put o hs a dst u hd).symm (wanted_put o a dst u hd).symm
  · intro h
    exact h.of_same (execOp_put o hs a dst u hd) (wanted_put o a dst u hd)
theorem put_tmps {a a' : Act} {dst : Option Tmp} {v : Value} (h : a'.tmps = a.tmps) : (a'.put dst v).tmps = (a.put dst v).tmps := by cases dst <;> simp [Act.put, h]
/-- every operation that is listed has all listed that it waits for -/
def Closed (ops : Array Oper) (listed : Array Bool) : Prop := ∀ (k : Nat) (o : Oper), ops[k]? = some o → listed.getD k false = true → ∀ e ∈ o.after, Region.binds .any e = true → listed.getD e.on false = true
theorem Closed.add {listed : Array Bool} {j : Nat} (h : Closed ops listed) (hj : j ∈ Region.ready .any ops listed) : Closed ops (listed.setIfInBounds j true) := by
  obtain ⟨_, oj, hoj, hall⟩ := mem_ready.1 hj
  intro k o ho hk e he hb
  by_cases hkj : j = k
  · subst hkj
    rw [hoj] at ho
    obtain rfl := Option.some.inj ho
    exact getD_set_true (hall e he hb)
  · rw [getD_set_ne false hkj] at hk
    exact getD_set_true (h k o ho hk e he hb)
/-- what the numbers Bs say of who waits for whom, through others too -/
def okB (ops : List Oper) (Bs : List Nat) : Bool := Bs.zipIdx.all fun (x, j) => match ops[j]? with
  | some o => Nat.beq (x ||| o.after.toList.foldl (fun s e => bif Region.binds .any e && Nat.blt e.on j then s ||| 2 ^ e.on ||| Bs.getD e.on 0 else s) 0) (o.after.toList.foldl (fun s e => bif Region.binds .any e && Nat.blt e.on j then s ||| 2 ^ e.on ||| Bs.getD e.on 0 else s) 0)
  | none => Nat.beq x 0
def bOf (Bs : List Nat) (i j : Nat) : Bool := (Bs.getD j 0).testBit i
theorem foldl_bit {Bs : List Nat} {i j : Nat} : ∀ (l : List Edge) (s : Nat), (l.foldl (fun s e => bif Region.binds .any e && Nat.blt e.on j then s ||| 2 ^ e.on ||| Bs.getD e.on 0 else s) s).testBit i = true →
    s.testBit i = true ∨ ∃ e ∈ l, Region.binds .any e = true ∧ e.on < j ∧ (e.on = i ∨ bOf Bs i e.on = true)
  | [], s, h => .inl h
  | e :: l, s, h => by
    simp only [List.foldl_cons] at h
    rcases foldl_bit l _ h with h | ⟨e', he', h⟩
    · cases hb : (Region.binds .any e && Nat.blt e.on j) with
      | false => rw [hb] at h; exact .inl h
      | true =>
        rw [hb] at h
        simp only [cond_true, Nat.testBit_or, Bool.or_eq_true] at h
        simp only [Bool.and_eq_true] at hb
        have hlt : e.on < j := by have := hb.2; rwa [Nat.blt_eq] at this
        rcases h with (h | h) | h
        · exact .inl h
        · rw [Nat.testBit_two_pow] at h
          exact .inr ⟨e, by simp, hb.1, hlt, .inl (by simpa using h)⟩
        · exact .inr ⟨e, by simp, hb.1, hlt, .inr h⟩
    · exact .inr ⟨e', List.mem_cons_of_mem _ he', h⟩
theorem bOf_listed {Bs : List Nat} (hB : okB ops.toList Bs = true) {listed : Array Bool} (hc : Closed ops listed) : ∀ (n j i : Nat), j < n → bOf Bs i j = true → (∀ o, ops[j]? = some o → ∀ e ∈ o.after, Region.binds .any e = true → listed.getD e.on false = true) → listed.getD i false = true := by
  intro n
  induction n with
  | zero => intro j i h; omega
  | succ n ih =>
    intro j i hj hb hall
    unfold okB at hB
    rw [List.all_eq_true] at hB
    unfold bOf at hb
    cases hx : Bs[j]? with
    | none => simp [List.getD_eq_getElem?_getD, hx] at hb
    | some x =>
      rw [List.getD_eq_getElem?_getD, hx] at hb
      simp only [Option.getD_some] at hb
      have hm := hB (x, j) (by rw [List.mem_zipIdx_iff_getElem?]; exact hx)
      simp only at hm
      cases ho : ops.toList[j]? with
      | none =>
        rw [ho] at hm
        have := Nat.eq_of_beq_eq_true hm
        subst this
        simp at hb
      | some o =>
        rw [ho] at hm
        have heq := Nat.eq_of_beq_eq_true hm
        have hbit : (x ||| o.after.toList.foldl (fun s e => bif Region.binds .any e && Nat.blt e.on j then s ||| 2 ^ e.on ||| Bs.getD e.on 0 else s) 0).testBit i = true := by
          rw [Nat.testBit_or, hb]; rfl
        rw [heq] at hbit
        have ho' : ops[j]? = some o := by simpa using ho
        rcases foldl_bit _ _ hbit with h | ⟨e, he, hbd, hlt, h⟩
        · simp at h
        · have hl := hall o ho' e (by simpa using he) hbd
          rcases h with h | h
          · rw [← h]; exact hl
          · exact ih e.on i (by omega) h (fun o2 ho2 e2 he2 hb2 => hc e.on o2 ho2 hl e2 he2 hb2)
theorem wpG_less {b : Nat → Nat → Bool} {D D' : List Nat} (hD : ∀ k ∈ D, k ∈ D') : ∀ (fuel : Nat) (listed : Array Bool) (a : Act) (w : World), wpG P ops N b fuel listed D' a w → wpG P ops N b fuel listed D a w
  | 0, _, _, _, h => h
  | fuel + 1, _, _, _, h => ⟨h.1, fun i hi => wpOp_mono (fun a' w' h' => ⟨fun k hk => h'.1 k (hD k hk), wpG_less hD fuel _ a' w' h'.2⟩) (h.2 i hi)⟩
/-- what x writes y doesn't look at and doesn't write -/
def putApart (ops : Array Oper) (x y : Oper) : Bool := match x.dst with
  | some d => !(y.looksAt ops).contains d && y.dst != some d
  | none => true
theorem putApart_spec {x y : Oper} (h : putApart ops x y = true) : (∀ d, x.dst = some d → d ∉ y.looksAt ops) ∧ (∀ d, x.dst = some d → y.dst ≠ some d) := by
  constructor <;> intro d hd <;> simp [putApart, hd] at h
  · exact h.1
  · exact h.2
/-- **an operation that may come up now may be taken first** -/
theorem wpG_first {b : Nat → Nat → Bool} {i : Nat} {oi : Oper} {v : Value} {D D' : List Nat} (hi : ops[i]? = some oi) (hsel : ∀ (j : Nat) (o : Oper) cs b, ops[j]? = some o → o.op ≠ .select cs b)
    (hself : ∀ d, oi.dst = some d → d ∉ oi.looksAt ops) (hD : ∀ k ∈ D, ∀ ok, ops[k]? = some ok → putApart ops oi ok = true)
    (hbl : ∀ listed : Array Bool, Closed ops listed → ∀ j ∈ Region.ready .any ops listed, b i j = true → listed.getD i false = true) :
    ∀ (fuel : Nat) (listed : Array Bool) (a : Act) (w : World), (∀ d, oi.dst = some d → d < a.tmps.size) → Closed ops listed →
      (∀ j oj, ops[j]? = some oj → j ≠ i → listed.getD j true = false → (∀ e ∈ oj.after, Region.binds .any e = true → e.on ≠ i) → oi.apart ops oj = true) →
      i ∈ Region.ready .any ops listed → ((D' = i :: D ∧ oi.dst ≠ none ∧ YieldsAt P ops oi v a w) ∨ (D' = D ∧ ∀ w', YieldsAt P ops oi v a w')) →
      wpG P ops N b fuel (listed.setIfInBounds i true) D' (a.put oi.dst v) w → wpG P ops N b (fuel + 1) listed D a w := by
  intro fuel
  induction fuel with
  | zero =>
    intro listed a w _ _ _ hr hy H
    refine ⟨fun h => (by rw [h] at hr; cases hr), fun j hj => ?_⟩
    by_cases hji : j = i
    · subst hji
      have hy' : YieldsAt P ops oi v a w := by rcases hy with ⟨_, _, h⟩ | ⟨_, h⟩; exact h; exact h w
      exact hy'.wpOp hi ⟨fun _ _ _ _ _ _ _ h => h, H⟩
    · have := ready_mono hj hji
      rw [H.1] at this
      cases this
  | succ fuel ih =>
    intro listed a w hsz hcl hfree hr hy H
    refine ⟨fun h => (by rw [h] at hr; cases hr), fun j hj => ?_⟩
    have hy' : YieldsAt P ops oi v a w := by rcases hy with ⟨_, _, h⟩ | ⟨_, h⟩; exact h; exact h w
    have hD' : ∀ k ∈ D, k ∈ D' := by rcases hy with ⟨rfl, _⟩ | ⟨rfl, _⟩; exact fun k hk => List.mem_cons_of_mem _ hk; exact fun k hk => hk
    by_cases hji : j = i
    · subst hji
      refine hy'.wpOp hi ⟨fun _ _ _ _ _ _ _ h => h, ?_⟩
      exact wpG_less hD' _ _ _ _ H
    · have h1 := H.2 j (ready_mono hj hji)
      obtain ⟨hjun, oj, hoj, hall⟩ := mem_ready.1 hj
      have hun : listed.getD i false = false := by
        have := (mem_ready.1 hr).1
        rcases Nat.lt_or_ge i listed.size with h' | h'
        · simpa [h'] using this
        · simp [Array.getElem?_eq_none h'] at this
      have hnot : ∀ e ∈ oj.after, Region.binds .any e = true → e.on ≠ i := fun e he hb heq => by
        have h1 := hall e he hb
        rw [heq, hun] at h1
        cases h1
      have hap := hfree j oj hoj hji hjun hnot
      obtain ⟨g1, g2, g3⟩ := Oper.apart_spec hap
      have h2 := wpOp_shift hoj hap (fun cs b => hsel j oj cs b hoj) h1
      have hbij : b i j = false := by
        cases hb : b i j with
        | false => rfl
        | true => rw [hbl listed hcl j hj hb] at hun; cases hun
      have hfree' : ∀ k ok, ops[k]? = some ok → k ≠ i → (listed.setIfInBounds j true).getD k true = false →
          (∀ e ∈ ok.after, Region.binds .any e = true → e.on ≠ i) → oi.apart ops ok = true := fun k ok hk hki hun hno => by
        refine hfree k ok hk hki ?_ hno
        by_cases hjk : j = k
        · subst hjk; exact hjun
        · rw [getD_set_ne true hjk] at hun; exact hun
      refine wpOp_mono (fun a' w' h3 => ?_) h2
      obtain ⟨⟨u, hu⟩, hob, h3⟩ := h3
      refine ⟨?_, ih (listed.setIfInBounds j true) a' w' ?_ (hcl.add hj) hfree' (ready_mono hr (Ne.symm hji)) ?_ ?_⟩
      · intro k hk hbk o ho d hd hyk
        have hko := hD k hk o ho
        obtain ⟨k1, k2⟩ := putApart_spec hko
        have hen : envOf (a.put oi.dst v) d = envOf a d := by
          cases hdi : oi.dst with
          | none => rfl
          | some di =>
            have hne : di ≠ d := fun e => k2 di hdi (by rw [hd, e])
            simp [envOf, Act.put, Array.getElem?_setIfInBounds_ne hne]
        have := hob k (hD' k hk) hbk o ho d hd
        rw [hen, YieldsAt.put (hsel k o · · ho) k1, YieldsAt.put (hsel k o · · ho) k1] at this
        exact this hyk
      · intro d hd
        rw [hu]
        have := hsz d hd
        cases oj.dst <;> simpa [Act.put] using this
      · rcases hy with ⟨hDe, hne, hy⟩ | ⟨hDe, hy⟩
        · refine .inl ⟨hDe, hne, ?_⟩
          obtain ⟨d, hd⟩ := Option.ne_none_iff_exists'.1 hne
          have hen : envOf (a.put oi.dst v) d = v := by
            have := hsz d hd
            simp [envOf, Act.put, hd, this]
          have := hob i (by rw [hDe]; simp) hbij oi hi d hd
          rw [hen, YieldsAt.put (hsel i oi · · hi) hself, YieldsAt.put (hsel i oi · · hi) hself] at this
          have h4 := (YieldsAt.put (u := u) (dst := oj.dst) (hsel i oi · · hi) (fun d hd => g3 d hd)).2 (this hy)
          exact h4.of_tmps hu
        · refine .inr ⟨hDe, fun w2 => ?_⟩
          have h4 := (YieldsAt.put (u := u) (dst := oj.dst) (hsel i oi · · hi) (fun d hd => g3 d hd)).2 (hy w2)
          exact h4.of_tmps hu
      · rw [Array.setIfInBounds_comm _ _ hji]
        exact h3
end
end Go.Vc
