/- The decoder of streams as a function of bits: its steps, their law of pieces. -/
import Derived.Test.YtpnkoniomalcpaaDoorFind03
import Derived.Test.YtpnkoniomalcpaaDoorWhy03
import Derived.Test.YtpnkoniomalcpaaDoorLzNum
import Derived.Test.YtpnkoniomalcpaaDoorCopyN
namespace Go.Proofs.YtpnkoniomalcpaaDoor
open Go Go.Vc Go.Proofs
set_option linter.unusedVariables false
set_option linter.unusedSimpArgs false
/-- what is read of bits: a thing and the rest, or an error's number (2: more bits) -/
inductive Rs (α : Type) where
  | ok (a : α) (B : List Bool)
  | er (e : Int)
def Rs.bind {α β : Type} : Rs α → (α → List Bool → Rs β) → Rs β
  | .ok a B, f => f a B
  | .er e, _ => .er e
def needM (n : Nat) (B : List Bool) : Rs Nat := if n ≤ B.length then .ok (numB (B.take n)) (B.drop n) else .er 2
open Classical in
noncomputable def nextM (zs : List Int) (B : List Bool) : Rs Nat :=
  if h : ∃ s, hit (natL zs) B s then .ok h.choose (B.drop ((natL zs).getD h.choose 0)) else .er (if more (natL zs) (B.take 15) then 2 else 4)
def repM (s : Nat) (ah : List Int) (B : List Bool) : Rs (Nat × Int) :=
  if s = 16 then (if ah = [] then .er 3 else (needM 2 B).bind fun n B => .ok (3 + n, ah.getD (ah.length - 1) 0) B)
  else if s = 17 then (needM 3 B).bind fun n B => .ok (3 + n, 0) B
  else if s = 18 then (needM 7 B).bind fun n B => .ok (11 + n, 0) B
  else .ok (1, (s : Int)) B
noncomputable def lensM : Nat → List Int → Nat → List Int → List Bool → Rs (List Int)
  | 0, _, _, _, _ => .er 1
  | k + 1, zs, n, out, B => if n ≤ out.length then .ok out B else
    (nextM zs B).bind fun s B1 => (repM s out B1).bind fun r B2 =>
    if n < out.length + r.1 then .er 20 else lensM k zs n (out ++ List.replicate r.1 r.2) B2
def orderL : List Nat := [16, 17, 18, 0, 8, 7, 9, 6, 10, 5, 11, 4, 12, 3, 13, 2, 14, 1, 15]
def tellM : List Nat → List Int → List Bool → Rs (List Int)
  | [], l, B => .ok l B
  | s :: r, l, B => (needM 3 B).bind fun v B => tellM r (l.set s (v : Int)) B
noncomputable def dynM (B : List Bool) : Rs (List Int × List Int) :=
  (needM 14 B).bind fun v B =>
  if 286 < v % 32 + 257 ∨ 30 < v / 32 % 32 + 1 then .er 20 else
  (tellM (orderL.take (v / 1024 + 4)) (List.replicate 19 0) B).bind fun t B =>
  if whyL t false ≠ 0 then .er (whyL t false) else
  (lensM (v % 32 + 257 + (v / 32 % 32 + 1) + 1) t (v % 32 + 257 + (v / 32 % 32 + 1)) [] B).bind fun l B =>
  if l.getD 256 0 = 0 then .er 12 else
  if whyL (l.take (v % 32 + 257)) false ≠ 0 then .er (whyL (l.take (v % 32 + 257)) false) else
  if whyL (l.drop (v % 32 + 257)) true ≠ 0 then .er (whyL (l.drop (v % 32 + 257)) true) else
  .ok (l.take (v % 32 + 257), l.drop (v % 32 + 257)) B
def fixL : List Int := List.replicate 144 8 ++ List.replicate 112 9 ++ List.replicate 24 7 ++ List.replicate 8 8
def fixD : List Int := List.replicate 32 5
/-- where a decoder stands -/
inductive St where
  | hd
  | cp (left : Nat) (last : Bool)
  | tl (sy di : List Int) (last : Bool)
  | dn
structure DM where
  (st : St) (B : List Bool) (W : List UInt8)
def alB (B : List Bool) : List Bool := B.drop (B.length % 8)
def endM (last : Bool) (B : List Bool) (W : List UInt8) : DM := if last then ⟨.dn, alB B, W⟩ else ⟨.hd, B, W⟩
noncomputable def headM (B : List Bool) : Rs St := (needM 3 B).bind fun v B =>
  if v / 2 = 0 then (needM 32 (alB B)).bind fun x B => if (x % 65536) ^^^ (x / 65536) ≠ 65535 then .er 8 else .ok (.cp (x % 65536) (decide (v % 2 = 1))) B
  else if v / 2 = 1 then .ok (.tl fixL fixD (decide (v % 2 = 1))) B
  else if v / 2 = 2 then (dynM B).bind fun p B => .ok (.tl p.1 p.2 (decide (v % 2 = 1))) B
  else .er 3
noncomputable def matchM (di : List Int) (s : Nat) (B : List Bool) : Rs (Nat × Nat) :=
  if 285 < s then .er 4 else
  (needM (lenOf s).2.toNat B).bind fun x B => (nextM di B).bind fun k B =>
  if 29 < k then .er 4 else (needM (distOf k).2.toNat B).bind fun y B => .ok ((lenOf s).1.toNat + x, (distOf k).1.toNat + y) B
inductive SR where
  | go (D : DM) (o : List UInt8)
  | wait (D : DM) (o : List UInt8)
  | bad (e : Int)
def SR.of (D : DM) (e : Int) : SR := if e = 2 then .wait D [] else .bad e
noncomputable def stepM (D : DM) : SR := match D.st with
  | .hd => match headM D.B with
    | .ok st B => .go ⟨st, B, D.W⟩ []
    | .er e => SR.of D e
  | .cp left last =>
    if min left ((alB D.B).length / 8) < left then .wait ⟨.cp (left - min left ((alB D.B).length / 8)) last, (alB D.B).drop (8 * min left ((alB D.B).length / 8)), D.W ++ toBytes ((alB D.B).take (8 * min left ((alB D.B).length / 8)))⟩ (toBytes ((alB D.B).take (8 * min left ((alB D.B).length / 8))))
    else .go (endM last ((alB D.B).drop (8 * left)) (D.W ++ toBytes ((alB D.B).take (8 * left)))) (toBytes ((alB D.B).take (8 * left)))
  | .tl sy di last => match nextM sy D.B with
    | .er e => SR.of D e
    | .ok s B => if s = 256 then .go (endM last B D.W) [] else
      if s < 256 then .go ⟨.tl sy di last, B, D.W ++ [UInt8.ofNat s]⟩ [UInt8.ofNat s] else
      match matchM di s B with
      | .er e => SR.of D e
      | .ok p B => if 1 ≤ p.2 ∧ p.2 ≤ min D.W.length 32768 then .go ⟨.tl sy di last, B, copyN p.1 D.W p.2⟩ ((copyN p.1 D.W p.2).drop D.W.length) else .bad 6
  | .dn => .wait D []
def St.isDn : St → Bool
  | .dn => true
  | _ => false
noncomputable def runM : Nat → DM → List UInt8 × DM × Int
  | 0, D => ([], D, 0)
  | k + 1, D => if D.st.isDn then ([], D, 0) else match stepM D with
    | .go D' o => (o ++ (runM k D').1, (runM k D').2)
    | .wait D' o => (o, D', 0)
    | .bad e => ([], D, e)
def meas (D : DM) : Nat := 2 * D.B.length + (match D.st with | .cp _ _ => 1 | _ => 0)
noncomputable def run (D : DM) : List UInt8 × DM × Int := runM (meas D + 1) D
/-! ### bits are taken -/
theorem needM_ok {n : Nat} {B : List Bool} {x : Nat} {C : List Bool} (h : needM n B = .ok x C) : n ≤ B.length ∧ x = numB (B.take n) ∧ C = B.drop n := by
  unfold needM at h
  split at h
  · cases h; exact ⟨by assumption, rfl, rfl⟩
  · cases h
/-- it tells less bits; an error has a number -/
structure Rs.less {α : Type} (r : Rs α) (n : Nat) : Prop where
  h : match r with
    | .ok _ C => C.length ≤ n
    | .er e => e ≠ 0
theorem Rs.less.mono {α : Type} {r : Rs α} {n m : Nat} (h : r.less n) (hm : n ≤ m) : r.less m := by
  cases r with
  | ok a B => exact ⟨Nat.le_trans h.h hm⟩
  | er e => exact ⟨h.h⟩
theorem Rs.less.seq {α β : Type} {r : Rs α} {f : α → List Bool → Rs β} {n m : Nat} (h : r.less n) (hf : ∀ a C, C.length ≤ n → (f a C).less m) : (r.bind f).less m := by
  cases r with
  | ok a B => exact hf a B h.h
  | er e => exact ⟨h.h⟩
theorem less_er {α : Type} {e : Int} {n : Nat} (h : e ≠ 0) : (Rs.er e : Rs α).less n := ⟨h⟩
theorem less_ok {α : Type} {x : α} {B : List Bool} {n : Nat} (h : B.length ≤ n) : (Rs.ok x B).less n := ⟨h⟩
theorem needM_less {k n : Nat} {B : List Bool} (h : B.length - k ≤ n) : (needM k B).less n := by
  unfold needM
  split
  · exact less_ok (by rw [List.length_drop]; exact h)
  · exact less_er (by decide)
theorem nextM_less {zs : List Int} {B : List Bool} : (nextM zs B).less (B.length - 1) := by
  unfold nextM
  split
  · rename_i hh
    have := hh.choose_spec
    have h1 := this.2.1
    exact less_ok (by rw [List.length_drop]; omega)
  · exact less_er (by split <;> decide)
theorem repM_less {s : Nat} {ah : List Int} {B : List Bool} : (repM s ah B).less B.length := by
  unfold repM
  split
  · split
    · exact less_er (by decide)
    · exact (needM_less (n := B.length) (by omega)).seq fun a C h => less_ok h
  split
  · exact (needM_less (n := B.length) (by omega)).seq fun a C h => less_ok h
  split
  · exact (needM_less (n := B.length) (by omega)).seq fun a C h => less_ok h
  · exact less_ok (Nat.le_refl _)
theorem lensM_less : ∀ (k : Nat) (zs : List Int) (n : Nat) (out : List Int) (B : List Bool), (lensM k zs n out B).less B.length
  | 0, _, _, _, _ => less_er (by decide)
  | k + 1, zs, n, out, B => by
    unfold lensM
    split
    · exact less_ok (Nat.le_refl _)
    · refine nextM_less.seq fun s C h => repM_less.seq fun r E h2 => ?_
      split
      · exact less_er (by decide)
      · exact (lensM_less k _ _ _ _).mono (by omega)
theorem tellM_less : ∀ (r : List Nat) (l : List Int) (B : List Bool), (tellM r l B).less B.length
  | [], _, _ => less_ok (Nat.le_refl _)
  | s :: r, l, B => (needM_less (n := B.length) (by omega)).seq fun v C h => (tellM_less r _ _).mono h
theorem dynM_less {B : List Bool} : (dynM B).less B.length := by
  unfold dynM
  refine (needM_less (n := B.length) (by omega)).seq fun v C h => ?_
  split
  · exact less_er (by decide)
  refine ((tellM_less _ _ C).mono h).seq fun t E h2 => ?_
  split
  · exact less_er (by assumption)
  refine ((lensM_less _ _ _ _ E).mono h2).seq fun l F h3 => ?_
  split
  · exact less_er (by decide)
  split
  · exact less_er (by assumption)
  split
  · exact less_er (by assumption)
  · exact less_ok h3
theorem alB_len (B : List Bool) : (alB B).length ≤ B.length ∧ (alB B).length = B.length - B.length % 8 := by unfold alB; rw [List.length_drop]; omega
theorem headM_less {B : List Bool} : (headM B).less (B.length - 3) := by
  unfold headM
  refine (needM_less (n := B.length - 3) (by omega)).seq fun v C h => ?_
  have := alB_len C
  split
  · refine (needM_less (n := B.length - 3) (by omega)).seq fun x E h2 => ?_
    split
    · exact less_er (by decide)
    · exact less_ok h2
  split
  · exact less_ok h
  split
  · exact (dynM_less.mono h).seq fun p E h2 => less_ok h2
  · exact less_er (by decide)
theorem headM_three {B : List Bool} {st : St} {C : List Bool} (h : headM B = .ok st C) : C.length + 3 ≤ B.length := by
  have h1 := headM_less (B := B)
  rw [h] at h1
  unfold headM needM at h
  split at h
  · have h1 : C.length ≤ B.length - 3 := h1.h
    omega
  · cases h
theorem nextM_one {zs : List Int} {B : List Bool} {s : Nat} {C : List Bool} (h : nextM zs B = .ok s C) : C.length + 1 ≤ B.length := by
  have h1 := nextM_less (zs := zs) (B := B)
  rw [h] at h1
  have h1 : C.length ≤ B.length - 1 := h1.h
  unfold nextM at h
  split at h
  · rename_i hh
    have g := hh.choose_spec
    have := hit_len g
    have := g.2.1
    omega
  · cases h
theorem matchM_less {di : List Int} {s : Nat} {B : List Bool} : (matchM di s B).less B.length := by
  unfold matchM
  split
  · exact less_er (by decide)
  refine (needM_less (n := B.length) (by omega)).seq fun x C h => ?_
  refine (nextM_less.mono (show C.length - 1 ≤ B.length by omega)).seq fun k E h2 => ?_
  split
  · exact less_er (by decide)
  · exact (needM_less (n := B.length) (by omega)).seq fun y F h3 => less_ok h3
theorem endM_meas (last : Bool) (B : List Bool) (W : List UInt8) : meas (endM last B W) ≤ 2 * B.length := by
  unfold endM meas
  have := alB_len B
  split <;> simp <;> omega
theorem step_meas {D D' : DM} {o : List UInt8} (h : stepM D = .go D' o) : meas D' < meas D := by
  obtain ⟨st, B, W⟩ := D
  unfold stepM at h
  cases st with
  | hd =>
    dsimp only at h
    split at h
    · rename_i st C hh
      cases h
      have := headM_three hh
      unfold meas
      dsimp only
      split <;> omega
    · unfold SR.of at h; split at h <;> cases h
  | cp left last =>
    dsimp only at h
    split at h
    · cases h
    · cases h
      have := endM_meas last ((alB B).drop (8 * left)) (W ++ toBytes ((alB B).take (8 * left)))
      have h2 := alB_len B
      rw [List.length_drop] at this
      unfold meas at this ⊢
      dsimp only at this ⊢
      omega
  | tl sy di last =>
    dsimp only at h
    split at h
    · unfold SR.of at h; split at h <;> cases h
    · rename_i s C hh
      have h1 := nextM_one hh
      split at h
      · cases h
        have := endM_meas last C W
        unfold meas at this ⊢
        dsimp only at this ⊢
        omega
      split at h
      · cases h
        unfold meas
        dsimp only
        omega
      · split at h
        · unfold SR.of at h; split at h <;> cases h
        · rename_i p E hm
          have h2 := matchM_less (di := di) (s := s) (B := C)
          rw [hm] at h2
          have h2 : E.length ≤ C.length := h2.h
          split at h
          · cases h
            unfold meas
            dsimp only
            omega
          · cases h
  | dn => cases h
theorem runM_enough : ∀ (k : Nat) (D : DM), meas D < k → runM k D = run D := by
  have key : ∀ (k j : Nat) (D : DM), meas D < k → meas D < j → runM k D = runM j D := by
    intro k
    induction k with
    | zero => intro j D h; omega
    | succ k ih =>
      intro j D h hj
      cases j with
      | zero => omega
      | succ j =>
        unfold runM
        split
        · rfl
        · split
          · rename_i D' o hs
            have := step_meas hs
            rw [ih j D' (by omega) (by omega)]
          · rfl
          · rfl
  exact fun k D h => key k _ D h (by omega)
theorem run_go {D D' : DM} {o : List UInt8} (h : stepM D = .go D' o) : run D = (o ++ (run D').1, (run D').2) := by
  have hn : D.st.isDn = false := by
    obtain ⟨st, B, W⟩ := D
    cases st <;> first | rfl | cases h
  have := step_meas h
  conv => lhs; unfold run runM
  rw [hn, h]
  simp only [Bool.false_eq_true, if_false]
  rw [runM_enough _ _ this]
theorem run_wait {D D' : DM} {o : List UInt8} (hn : D.st.isDn = false) (h : stepM D = .wait D' o) : run D = (o, D', 0) := by
  conv => lhs; unfold run runM
  rw [hn, h]; rfl
theorem run_bad {D : DM} {e : Int} (hn : D.st.isDn = false) (h : stepM D = .bad e) : run D = ([], D, e) := by
  conv => lhs; unfold run runM
  rw [hn, h]; rfl
theorem run_dn {D : DM} (hn : D.st.isDn = true) : run D = ([], D, 0) := by
  conv => lhs; unfold run runM
  rw [hn]; rfl
end Go.Proofs.YtpnkoniomalcpaaDoor
