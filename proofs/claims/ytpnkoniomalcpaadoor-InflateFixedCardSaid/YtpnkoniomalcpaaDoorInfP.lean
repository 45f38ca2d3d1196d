/- The decoder's law of pieces: what is told of a text in two pieces is told of it at once. -/
import Derived.Test.YtpnkoniomalcpaaDoorInfM
namespace Go.Proofs.YtpnkoniomalcpaaDoor
open Go Go.Vc Go.Proofs
set_option linter.unusedVariables false
set_option linter.unusedSimpArgs false
variable {α β : Type} {B C : List Bool} {zs : List Int}
/-- with more bits behind: the same, but where bits were lacking -/
structure Rs.Ex (r r' : Rs α) (C : List Bool) : Prop where
  h : match r with
    | .ok a B => r' = .ok a (B ++ C)
    | .er e => e = 2 ∨ r' = .er e
theorem Rs.Ex.seq {r r' : Rs α} {f g : α → List Bool → Rs β} (h : r.Ex r' C) (hf : ∀ a B, (f a B).Ex (g a (B ++ C)) C) : (r.bind f).Ex (r'.bind g) C := by
  obtain ⟨h⟩ := h
  cases r with
  | ok a B => dsimp only at h; subst h; exact hf a B
  | er e =>
    refine ⟨?_⟩
    rcases h with h | h
    · exact .inl h
    · subst h; exact .inr rfl
theorem ex_ok {a : α} : (Rs.ok a B).Ex (.ok a (B ++ C)) C := ⟨rfl⟩
theorem ex_er {e : Int} : (Rs.er e : Rs α).Ex (.er e) C := ⟨.inr rfl⟩
theorem needM_ex {n : Nat} : (needM n B).Ex (needM n (B ++ C)) C := by
  unfold needM
  by_cases h : n ≤ B.length
  · rw [if_pos h, if_pos (by rw [List.length_append]; omega), List.take_append_of_le_length h, List.drop_append_of_le_length h]
    exact ex_ok
  · rw [if_neg h]
    exact ⟨.inl rfl⟩
def okC (zs : List Int) : Prop := okZ zs ∧ shareL (natL zs) 15 ≤ 32768
theorem nextM_hit (hz : okC zs) {s : Nat} (h : hit (natL zs) B s) : nextM zs B = .ok s (B.drop ((natL zs).getD s 0)) := by
  have hh : ∃ s, hit (natL zs) B s := ⟨s, h⟩
  unfold nextM
  rw [dif_pos hh, hit_one hz.2 (ok_le hz.1) hh.choose_spec h]
theorem hit_app {ls : List Nat} {s : Nat} (h : hit ls B s) : hit ls (B ++ C) s :=
  ⟨h.1, h.2.1, by rw [List.take_append_of_le_length (hit_len h)]; exact h.2.2⟩
theorem nextM_ex (hz : okC zs) : (nextM zs B).Ex (nextM zs (B ++ C)) C := by
  have hle := ok_le hz.1
  by_cases h : ∃ s, hit (natL zs) B s
  · obtain ⟨s, h⟩ := h
    rw [nextM_hit hz h, nextM_hit hz (hit_app h), List.drop_append_of_le_length (hit_len h)]
    exact ex_ok
  · by_cases hm : more (natL zs) (B.take 15)
    · unfold nextM
      rw [dif_neg h, if_pos hm]
      exact ⟨.inl rfl⟩
    · have key : ∀ s, s < (natL zs).length → B.length < (natL zs).getD s 0 → (wordB (natL zs) s).take B.length = B → False := by
        intro s h1 h2 h3
        have := getD_le hle s
        refine hm ⟨s, h1, ?_, ?_⟩
        · rw [List.length_take]; omega
        · rw [List.take_of_length_le (by omega : B.length ≤ 15)]; exact h3
      have hno : ¬ ∃ s, hit (natL zs) (B ++ C) s := by
        rintro ⟨s, g⟩
        by_cases hl : (natL zs).getD s 0 ≤ B.length
        · exact h ⟨s, g.1, g.2.1, by rw [← g.2.2, List.take_append_of_le_length hl]⟩
        · refine key s g.1 (by omega) ?_
          rw [← g.2.2, List.take_take, Nat.min_eq_left (by omega), List.take_append_of_le_length (Nat.le_refl _), List.take_length]
      have hm2 : ¬ more (natL zs) ((B ++ C).take 15) := by
        rintro ⟨s, g1, g2, g3⟩
        by_cases hb : 15 ≤ B.length
        · rw [List.take_append_of_le_length hb] at g2 g3
          exact hm ⟨s, g1, g2, g3⟩
        · rw [List.length_take, List.length_append] at g2
          refine key s g1 (by omega) ?_
          have := congrArg (List.take B.length) g3
          rw [List.take_take, List.length_take, List.length_append, Nat.min_eq_left (by omega), List.take_take, Nat.min_eq_left (by omega), List.take_append_of_le_length (Nat.le_refl _), List.take_length] at this
          exact this
      unfold nextM
      rw [dif_neg h, dif_neg hno, if_neg hm, if_neg hm2]
      exact ex_er
theorem repM_ex {s : Nat} {ah : List Int} : (repM s ah B).Ex (repM s ah (B ++ C)) C := by
  unfold repM
  split
  · split
    · exact ex_er
    · exact needM_ex.seq fun _ _ => ex_ok
  split
  · exact needM_ex.seq fun _ _ => ex_ok
  split
  · exact needM_ex.seq fun _ _ => ex_ok
  · exact ex_ok
theorem lensM_ex (hz : okC zs) : ∀ (k n : Nat) (out : List Int) (B : List Bool), (lensM k zs n out B).Ex (lensM k zs n out (B ++ C)) C
  | 0, _, _, _ => ex_er
  | k + 1, n, out, B => by
    unfold lensM
    split
    · exact ex_ok
    · refine (nextM_ex hz).seq fun s B1 => repM_ex.seq fun r B2 => ?_
      split
      · exact ex_er
      · exact lensM_ex hz k _ _ _
theorem tellM_ex : ∀ (r : List Nat) (l : List Int) (B : List Bool), (tellM r l B).Ex (tellM r l (B ++ C)) C
  | [], _, _ => ex_ok
  | s :: r, l, B => by unfold tellM; exact needM_ex.seq fun v B => tellM_ex r _ _
theorem why_okC {loose : Bool} (h : whyL zs loose = 0) : okC zs := by
  by_cases hz : okZ zs
  · exact ⟨hz, why_share hz h⟩
  · rw [why_no hz] at h; exact absurd h (by decide)
theorem dynM_ex : (dynM B).Ex (dynM (B ++ C)) C := by
  unfold dynM
  refine needM_ex.seq fun v B => ?_
  split
  · exact ex_er
  refine (tellM_ex _ _ _).seq fun t B => ?_
  split
  · exact ex_er
  rename_i ht
  refine (lensM_ex (why_okC (Decidable.not_not.1 ht)) _ _ _ _).seq fun l B => ?_
  split
  · exact ex_er
  split
  · exact ex_er
  split
  · exact ex_er
  · exact ex_ok
theorem alB_app (hC : C.length % 8 = 0) : alB (B ++ C) = alB B ++ C := by
  unfold alB
  rw [List.length_append, show (B.length + C.length) % 8 = B.length % 8 by omega, List.drop_append_of_le_length (by omega)]
theorem headM_ex (hC : C.length % 8 = 0) : (headM B).Ex (headM (B ++ C)) C := by
  unfold headM
  refine needM_ex.seq fun v B => ?_
  split
  · rw [alB_app hC]
    refine needM_ex.seq fun x B => ?_
    split
    · exact ex_er
    · exact ex_ok
  split
  · exact ex_ok
  split
  · exact dynM_ex.seq fun p B => ex_ok
  · exact ex_er
theorem matchM_ex {di : List Int} (hz : okC di) {s : Nat} : (matchM di s B).Ex (matchM di s (B ++ C)) C := by
  unfold matchM
  split
  · exact ex_er
  refine needM_ex.seq fun x B => (nextM_ex hz).seq fun k B => ?_
  split
  · exact ex_er
  · exact needM_ex.seq fun y B => ex_ok
/-! ### the codes of a state may be -/
def okSt : St → Prop
  | .tl sy di _ => okC sy ∧ okC di
  | _ => True
structure Rs.All (r : Rs α) (P : α → Prop) : Prop where
  h : match r with
    | .ok a _ => P a
    | .er _ => True
theorem Rs.All.bind {r : Rs α} {f : α → List Bool → Rs β} {P : β → Prop} (hf : ∀ a B, (f a B).All P) : (r.bind f).All P := by
  cases r with
  | ok a B => exact hf a B
  | er e => exact ⟨trivial⟩
theorem all_er {P : α → Prop} {e : Int} : (Rs.er e : Rs α).All P := ⟨trivial⟩
theorem all_ok {P : α → Prop} {a : α} (h : P a) : (Rs.ok a B).All P := ⟨h⟩
theorem dynM_all : (dynM B).All fun p => okC p.1 ∧ okC p.2 := by
  unfold dynM
  refine Rs.All.bind fun v B => ?_
  split
  · exact all_er
  refine Rs.All.bind fun t B => ?_
  split
  · exact all_er
  refine Rs.All.bind fun l B => ?_
  split
  · exact all_er
  split
  · exact all_er
  rename_i h1
  split
  · exact all_er
  rename_i h2
  exact all_ok ⟨why_okC (Decidable.not_not.1 h1), why_okC (Decidable.not_not.1 h2)⟩
theorem fixL_ok : okC fixL := ⟨⟨by decide +kernel, by decide +kernel⟩, by decide +kernel⟩
theorem fixD_ok : okC fixD := ⟨⟨by decide +kernel, by decide +kernel⟩, by decide +kernel⟩
theorem headM_all : (headM B).All okSt := by
  unfold headM
  refine Rs.All.bind fun v B => ?_
  split
  · refine Rs.All.bind fun x B => ?_
    split
    · exact all_er
    · exact all_ok trivial
  split
  · exact all_ok ⟨fixL_ok, fixD_ok⟩
  split
  · have := dynM_all (B := B)
    cases hd : dynM B with
    | ok p E => rw [hd] at this; exact all_ok this.h
    | er e => exact all_er
  · exact all_er
theorem endM_ok (last : Bool) (B : List Bool) (W : List UInt8) : okSt (endM last B W).st := by unfold endM; split <;> trivial
theorem step_ok {D D' : DM} {o : List UInt8} (hs : okSt D.st) (h : stepM D = .go D' o ∨ stepM D = .wait D' o) : okSt D'.st := by
  obtain ⟨st, B, W⟩ := D
  unfold stepM at h
  cases st with
  | hd =>
    dsimp only at h
    have := headM_all (B := B)
    split at h
    · rename_i st C hh
      rw [hh] at this
      rcases h with h | h <;> cases h
      exact this.h
    · unfold SR.of at h
      split at h <;> rcases h with h | h <;> cases h
      exact hs
  | cp left last =>
    dsimp only at h
    split at h
    · rcases h with h | h <;> cases h
      trivial
    · rcases h with h | h <;> cases h
      exact endM_ok ..
  | tl sy di last =>
    dsimp only at h
    split at h
    · unfold SR.of at h
      split at h <;> rcases h with h | h <;> cases h
      exact hs
    · split at h
      · rcases h with h | h <;> cases h
        exact endM_ok ..
      split at h
      · rcases h with h | h <;> cases h
        exact hs
      · split at h
        · unfold SR.of at h
          split at h <;> rcases h with h | h <;> cases h
          exact hs
        · split at h <;> rcases h with h | h <;> cases h
          exact hs
  | dn =>
    rcases h with h | h <;> cases h
    exact hs
theorem run_ok : ∀ (n : Nat) (D : DM), meas D < n → okSt D.st → okSt (run D).2.1.st
  | 0, D, h, _ => by omega
  | n + 1, D, h, hs => by
    by_cases hd : D.st.isDn = true
    · rw [run_dn hd]; exact hs
    · have hd : D.st.isDn = false := by simpa using hd
      cases hst : stepM D with
      | go D' o =>
        have := step_meas hst
        rw [run_go hst]
        exact run_ok n D' (by omega) (step_ok hs (.inl hst))
      | wait D' o => rw [run_wait hd hst]; exact step_ok hs (.inr hst)
      | bad e => rw [run_bad hd hst]; exact hs
/-! ### the law of pieces -/
def DM.add (D : DM) (C : List Bool) : DM := ⟨D.st, D.B ++ C, D.W⟩
theorem toBytes_app {x y : List Bool} (h : x.length % 8 = 0) : toBytes (x ++ y) = toBytes x ++ toBytes y := by
  obtain ⟨n, hn⟩ : ∃ n, x.length = 8 * n := ⟨x.length / 8, by omega⟩
  induction n generalizing x with
  | zero =>
    have : x = [] := List.length_eq_zero_iff.1 (by omega)
    subst this; rfl
  | succ n ih =>
    have e : x = x.take 8 ++ x.drop 8 := (List.take_append_drop 8 x).symm
    have h8 : (x.take 8).length = 8 := by rw [List.length_take]; omega
    have hd : (x.drop 8).length = 8 * n := by rw [List.length_drop]; omega
    rw [e, List.append_assoc, toBytes_step h8, toBytes_step h8, ih (by omega) hd]
    rfl
theorem endM_add (hC : C.length % 8 = 0) (last : Bool) (B : List Bool) (W : List UInt8) : endM last (B ++ C) W = (endM last B W).add C := by
  unfold endM DM.add
  cases last <;> simp [alB_app hC]
theorem of_add {D : DM} {e : Int} : (SR.of D e = .wait D [] ∧ e = 2) ∨ SR.of D e = .bad e := by
  unfold SR.of; split
  · exact .inl ⟨rfl, by assumption⟩
  · exact .inr rfl
/-- a step with more bits behind -/
theorem step_add (hC : C.length % 8 = 0) {D : DM} (hs : okSt D.st) (hd : D.st.isDn = false) : match stepM D with
    | .go D' o => stepM (D.add C) = .go (D'.add C) o
    | .bad e => stepM (D.add C) = .bad e
    | .wait D' o => (run (D.add C)) = (o ++ (run (D'.add C)).1, (run (D'.add C)).2) := by
  obtain ⟨st, B, W⟩ := D
  cases st with
  | hd =>
    have hx := headM_ex (B := B) hC
    have e1 : stepM ⟨.hd, B, W⟩ = match headM B with | .ok st B => .go ⟨st, B, W⟩ [] | .er e => SR.of ⟨.hd, B, W⟩ e := rfl
    have e2 : stepM (DM.add ⟨.hd, B, W⟩ C) = match headM (B ++ C) with | .ok st B => .go ⟨st, B, W⟩ [] | .er e => SR.of ⟨.hd, B ++ C, W⟩ e := rfl
    rw [e1]
    cases hh : headM B with
    | ok st E =>
      rw [hh] at hx
      have hx := hx.h
      dsimp only at hx ⊢
      rw [e2, hx]; rfl
    | er e =>
      rw [hh] at hx
      dsimp only
      rcases of_add (D := ⟨.hd, B, W⟩) (e := e) with ⟨g, -⟩ | g
      · rw [g]; simp
      · rw [g]
        dsimp only
        have hne : e ≠ 2 := by
          intro he; subst he
          unfold SR.of at g; rw [if_pos rfl] at g; cases g
        have hx := hx.h.resolve_left hne
        rw [e2, hx]
        show SR.of _ e = _
        unfold SR.of; rw [if_neg hne]
  | cp left last =>
    have hal := alB_len B
    have ha8 : (alB B).length % 8 = 0 := by omega
    obtain ⟨k, hk⟩ : ∃ k, (alB B).length = 8 * k := ⟨(alB B).length / 8, by omega⟩
    obtain ⟨m, hm⟩ : ∃ m, C.length = 8 * m := ⟨C.length / 8, by omega⟩
    have hx : (alB B ++ C).length = 8 * (k + m) := by rw [List.length_append]; omega
    have e1 : stepM ⟨.cp left last, B, W⟩ = if min left ((alB B).length / 8) < left then .wait ⟨.cp (left - min left ((alB B).length / 8)) last, (alB B).drop (8 * min left ((alB B).length / 8)), W ++ toBytes ((alB B).take (8 * min left ((alB B).length / 8)))⟩ (toBytes ((alB B).take (8 * min left ((alB B).length / 8))))
        else .go (endM last ((alB B).drop (8 * left)) (W ++ toBytes ((alB B).take (8 * left)))) (toBytes ((alB B).take (8 * left))) := rfl
    have e2 : stepM (DM.add ⟨.cp left last, B, W⟩ C) = if min left ((alB (B ++ C)).length / 8) < left then .wait ⟨.cp (left - min left ((alB (B ++ C)).length / 8)) last, (alB (B ++ C)).drop (8 * min left ((alB (B ++ C)).length / 8)), W ++ toBytes ((alB (B ++ C)).take (8 * min left ((alB (B ++ C)).length / 8)))⟩ (toBytes ((alB (B ++ C)).take (8 * min left ((alB (B ++ C)).length / 8))))
        else .go (endM last ((alB (B ++ C)).drop (8 * left)) (W ++ toBytes ((alB (B ++ C)).take (8 * left)))) (toBytes ((alB (B ++ C)).take (8 * left))) := rfl
    rw [alB_app hC, hx] at e2
    rw [e1, hk, Nat.mul_div_cancel_left _ (by decide)]
    rw [Nat.mul_div_cancel_left _ (by decide)] at e2
    by_cases hl : left ≤ k
    · rw [if_neg (by omega)]
      dsimp only
      rw [e2, if_neg (by omega), List.drop_append_of_le_length (by omega), List.take_append_of_le_length (by omega), endM_add hC]
    · rw [if_pos (by omega), Nat.min_eq_right (by omega)]
      dsimp only
      rw [List.drop_of_length_le (by omega : (alB B).length ≤ 8 * k), List.take_of_length_le (by omega : (alB B).length ≤ 8 * k)]
      have hac : alB C = C := by unfold alB; rw [hC]; rfl
      have e3 : stepM (DM.add ⟨.cp (left - k) last, [], W ++ toBytes (alB B)⟩ C) = if min (left - k) ((alB C).length / 8) < left - k then .wait ⟨.cp (left - k - min (left - k) ((alB C).length / 8)) last, (alB C).drop (8 * min (left - k) ((alB C).length / 8)), W ++ toBytes (alB B) ++ toBytes ((alB C).take (8 * min (left - k) ((alB C).length / 8)))⟩ (toBytes ((alB C).take (8 * min (left - k) ((alB C).length / 8))))
        else .go (endM last ((alB C).drop (8 * (left - k))) (W ++ toBytes (alB B) ++ toBytes ((alB C).take (8 * (left - k))))) (toBytes ((alB C).take (8 * (left - k)))) := rfl
      rw [hac, hm, Nat.mul_div_cancel_left _ (by decide)] at e3
      by_cases hl2 : left ≤ k + m
      · rw [if_neg (by omega)] at e2 e3
        have d1 : (alB B ++ C).drop (8 * left) = C.drop (8 * (left - k)) := by
          rw [List.drop_append, List.drop_of_length_le (by omega), List.nil_append, hk]; congr 1; omega
        have t1 : (alB B ++ C).take (8 * left) = alB B ++ C.take (8 * (left - k)) := by
          rw [List.take_append, List.take_of_length_le (by omega), hk]; congr 2; omega
        rw [d1, t1, toBytes_app ha8] at e2
        rw [run_go e2, run_go e3]
        simp only [List.append_assoc]
      · rw [if_pos (by omega), Nat.min_eq_right (by omega)] at e2 e3
        rw [List.drop_of_length_le (by omega), List.take_of_length_le (by omega)] at e2 e3
        rw [toBytes_app ha8] at e2
        rw [run_wait rfl e2, run_wait rfl e3]
        simp only [List.append_assoc]
        rw [show left - k - m = left - (k + m) by omega]
  | tl sy di last =>
    have hx := nextM_ex (B := B) (C := C) hs.1
    have e1 : stepM ⟨.tl sy di last, B, W⟩ = match nextM sy B with
      | .er e => SR.of ⟨.tl sy di last, B, W⟩ e
      | .ok s B2 => if s = 256 then .go (endM last B2 W) [] else if s < 256 then .go ⟨.tl sy di last, B2, W ++ [UInt8.ofNat s]⟩ [UInt8.ofNat s] else match matchM di s B2 with
        | .er e => SR.of ⟨.tl sy di last, B, W⟩ e
        | .ok p B2 => if 1 ≤ p.2 ∧ p.2 ≤ min W.length 32768 then .go ⟨.tl sy di last, B2, copyN p.1 W p.2⟩ ((copyN p.1 W p.2).drop W.length) else .bad 6 := rfl
    have e2 : stepM (DM.add ⟨.tl sy di last, B, W⟩ C) = match nextM sy (B ++ C) with
      | .er e => SR.of ⟨.tl sy di last, B ++ C, W⟩ e
      | .ok s B2 => if s = 256 then .go (endM last B2 W) [] else if s < 256 then .go ⟨.tl sy di last, B2, W ++ [UInt8.ofNat s]⟩ [UInt8.ofNat s] else match matchM di s B2 with
        | .er e => SR.of ⟨.tl sy di last, B ++ C, W⟩ e
        | .ok p B2 => if 1 ≤ p.2 ∧ p.2 ≤ min W.length 32768 then .go ⟨.tl sy di last, B2, copyN p.1 W p.2⟩ ((copyN p.1 W p.2).drop W.length) else .bad 6 := rfl
    rw [e1]
    have her : ∀ {e : Int}, (e ≠ 2 → stepM (DM.add ⟨.tl sy di last, B, W⟩ C) = SR.of ⟨.tl sy di last, B ++ C, W⟩ e) → match SR.of ⟨.tl sy di last, B, W⟩ e with
        | .go D' o => stepM (DM.add ⟨.tl sy di last, B, W⟩ C) = .go (D'.add C) o
        | .bad e => stepM (DM.add ⟨.tl sy di last, B, W⟩ C) = .bad e
        | .wait D' o => (run (DM.add ⟨.tl sy di last, B, W⟩ C)) = (o ++ (run (D'.add C)).1, (run (D'.add C)).2) := by
      intro e h
      rcases of_add (D := ⟨.tl sy di last, B, W⟩) (e := e) with ⟨g, -⟩ | g
      · rw [g]; simp
      · rw [g]
        dsimp only
        have hne : e ≠ 2 := by
          intro he; subst he
          unfold SR.of at g; rw [if_pos rfl] at g; cases g
        rw [h hne]
        unfold SR.of; rw [if_neg hne]
    cases hn : nextM sy B with
    | er e =>
      rw [hn] at hx
      dsimp only
      refine her fun hne => ?_
      rw [e2, hx.h.resolve_left hne]
    | ok s E =>
      rw [hn] at hx
      have hx := hx.h
      dsimp only at hx ⊢
      rw [hx] at e2
      dsimp only at e2
      by_cases h1 : s = 256
      · rw [if_pos h1] at e2 ⊢
        dsimp only
        rw [e2, endM_add hC]
      · rw [if_neg h1] at e2 ⊢
        by_cases h2 : s < 256
        · rw [if_pos h2] at e2 ⊢
          dsimp only
          rw [e2]; rfl
        · rw [if_neg h2] at e2 ⊢
          have hy := matchM_ex (B := E) (C := C) (s := s) hs.2
          cases hm : matchM di s E with
          | er e =>
            rw [hm] at hy
            dsimp only
            refine her fun hne => ?_
            rw [e2, hy.h.resolve_left hne]
          | ok p F =>
            rw [hm] at hy
            have hy := hy.h
            dsimp only at hy ⊢
            rw [hy] at e2
            dsimp only at e2
            by_cases h3 : 1 ≤ p.2 ∧ p.2 ≤ min W.length 32768
            · rw [if_pos h3] at e2 ⊢
              dsimp only
              rw [e2]; rfl
            · rw [if_neg h3] at e2 ⊢
              dsimp only
              rw [e2]
  | dn => cases hd
theorem run_add (hC : C.length % 8 = 0) : ∀ (n : Nat) (D : DM), meas D < n → okSt D.st → ((run D).2.2 = 0 → run (D.add C) = ((run D).1 ++ (run ((run D).2.1.add C)).1, (run ((run D).2.1.add C)).2)) ∧ ((run D).2.2 ≠ 0 → (run (D.add C)).2.2 = (run D).2.2 ∧ (run (D.add C)).1 = (run D).1)
  | 0, D, h, _ => by omega
  | n + 1, D, h, hs => by
    by_cases hd : D.st.isDn = true
    · rw [run_dn hd]
      exact ⟨fun _ => by simp, fun h => absurd rfl h⟩
    · have hd : D.st.isDn = false := by simpa using hd
      have hd2 : (D.add C).st.isDn = false := hd
      have hst := step_add hC hs hd
      cases hq : stepM D with
      | go D' o =>
        rw [hq] at hst
        dsimp only at hst
        have := step_meas hq
        have ih := run_add hC n D' (by omega) (step_ok hs (.inl hq))
        rw [run_go hq, run_go hst]
        refine ⟨fun h0 => ?_, fun h0 => ?_⟩
        · rw [ih.1 h0]
          simp only [List.append_assoc]
        · have := ih.2 h0
          exact ⟨this.1, by rw [this.2]⟩
      | wait D' o =>
        rw [hq] at hst
        dsimp only at hst
        rw [run_wait hd hq]
        exact ⟨fun _ => hst, fun h => absurd rfl h⟩
      | bad e =>
        rw [hq] at hst
        dsimp only at hst
        rw [run_bad hd hq, run_bad hd2 hst]
        refine ⟨fun h0 => ?_, fun _ => ⟨rfl, rfl⟩⟩
        dsimp only at h0
        rfl
end Go.Proofs.YtpnkoniomalcpaaDoor
