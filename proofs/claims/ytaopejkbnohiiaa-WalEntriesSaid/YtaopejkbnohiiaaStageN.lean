/- Bytes in sectors: plain laws. -/
import Derived.Test.YtaopejkbnohiiaaDisk3
namespace Go.Proofs.Ytaopejkbnohiiaa
open Go Go.Vc Go.Proofs
set_option linter.unusedVariables false
set_option linter.unusedSimpArgs false
variable {M : Dk}
theorem flat64_at {L : List (List UInt8)} (hl : ∀ r ∈ L, r.length = 64) {i j : Nat} {r : List UInt8} (hi : L[i]? = some r) (hj : j < 64) : L.flatten[i * 64 + j]? = r[j]? := by
  have hil := (List.getElem?_eq_some_iff.1 hi).1
  have hir := (List.getElem?_eq_some_iff.1 hi).2
  have e : L = L.take i ++ r :: L.drop (i + 1) := by rw [← hir, ← List.drop_eq_getElem_cons hil, List.take_append_drop]
  have hp : ∀ l : List (List UInt8), (∀ r ∈ l, r.length = 64) → l.flatten.length = l.length * 64 := by
    intro l hl
    induction l with
    | nil => rfl
    | cons s l ih =>
      rw [List.flatten_cons, List.length_append, ih (fun t ht => hl t (by simp [ht])), hl s (by simp), List.length_cons]
      omega
  have hp1 := hp (L.take i) (fun x hx => hl x (List.mem_of_mem_take hx))
  rw [List.length_take, Nat.min_eq_left (by omega)] at hp1
  have hr : r.length = 64 := by rw [← hir]; exact hl _ (List.getElem_mem hil)
  rw [e, List.flatten_append, List.flatten_cons, List.getElem?_append_right (by omega), List.getElem?_append_left (by omega)]
  congr 1
  omega
/-- the bytes of n sectors from one on -/
def img (M : Dk) (at_ n : Nat) : List UInt8 := (genL n fun j => M.sec (at_ + j)).flatten
theorem sec_len {lf : Int} (ok : DkOk M lf) {j : Nat} (h : j < M.n) : (M.sec j).length = 64 := by
  unfold Dk.sec
  cases hs : M.cs j with
  | some s => exact ok.c64 j s hs
  | none => exact ok.l64 j h
theorem img_rows {at_ n : Nat} (h : ∀ j, j < n → (M.sec (at_ + j)).length = 64) : ∀ r ∈ genL n (fun j => M.sec (at_ + j)), r.length = 64 := by
  intro r hr
  obtain ⟨j, hj, e⟩ := List.mem_map.1 hr
  rw [← e]
  exact h j (List.mem_range.1 hj)
theorem img_get {at_ n k : Nat} (h : ∀ j, j < n → (M.sec (at_ + j)).length = 64) (hk : k < 64 * n) : (img M at_ n)[k]? = (M.sec (at_ + k / 64))[k % 64]? := by
  have hq : k / 64 < n := by omega
  have := flat64_at (img_rows h) (genL_get (f := fun j => M.sec (at_ + j)) hq) (Nat.mod_lt k (by decide : 0 < 64))
  unfold img
  rw [← this]
  congr 1
  omega
theorem img_len {at_ n : Nat} (h : ∀ j, j < n → (M.sec (at_ + j)).length = 64) : (img M at_ n).length = 64 * n := by
  unfold img
  have hp : ∀ l : List (List UInt8), (∀ r ∈ l, r.length = 64) → l.flatten.length = l.length * 64 := by
    intro l hl
    induction l with
    | nil => rfl
    | cons s l ih =>
      rw [List.flatten_cons, List.length_append, ih (fun t ht => hl t (by simp [ht])), hl s (by simp), List.length_cons]
      omega
  rw [hp _ (img_rows h), genL_len, Nat.mul_comm]
theorem sec_put (M : Dk) (i j : Nat) (s : List UInt8) : (M.put i s).sec j = if j = i then s else M.sec j := by
  show (updS M.cs i s j).getD (M.la j) = _
  unfold updS
  by_cases h : j = i
  · rw [if_pos h, if_pos h]; rfl
  · rw [if_neg h, if_neg h]; rfl
/-- a sector as it is written: what was there up to a place, then some bytes, then noughts -/
def fillX (was t : List UInt8) (f : Nat) : List UInt8 := was.take f ++ t ++ List.replicate (64 - (f + t.length)) 0
theorem fillX_len {was t : List UInt8} {f : Nat} (hw : was.length = 64) (hf : f + t.length ≤ 64) : (fillX was t f).length = 64 := by
  unfold fillX
  rw [List.length_append, List.length_append, List.length_take, List.length_replicate]
  omega
theorem fillX_low {was t : List UInt8} {f p : Nat} (hw : was.length = 64) (hf : f ≤ 64) (hp : p < f) : (fillX was t f)[p]? = was[p]? := by
  unfold fillX
  rw [List.append_assoc, List.getElem?_append_left (by rw [List.length_take]; omega), List.getElem?_take, if_pos hp]
theorem fillX_new {was t : List UInt8} {f p : Nat} (hw : was.length = 64) (hf : f ≤ 64) (hp : f ≤ p) (hp2 : p < f + t.length) : (fillX was t f)[p]? = t[p - f]? := by
  unfold fillX
  have hl : (was.take f).length = f := by rw [List.length_take]; omega
  rw [List.append_assoc, List.getElem?_append_right (by omega), hl, List.getElem?_append_left (by omega)]
theorem img_fill {at_ n size : Nat} {t : List UInt8} (h : ∀ j, j < n → (M.sec (at_ + j)).length = 64) (hq : size / 64 < n) (ht : size % 64 + t.length ≤ 64) :
    (img (M.put (at_ + size / 64) (fillX (M.sec (at_ + size / 64)) t (size % 64))) at_ n).take (size + t.length) = (img M at_ n).take size ++ t := by
  have hw := h _ hq
  have h' : ∀ j, j < n → ((M.put (at_ + size / 64) (fillX (M.sec (at_ + size / 64)) t (size % 64))).sec (at_ + j)).length = 64 := fun j hj => by
    rw [sec_put]
    split
    · exact fillX_len hw ht
    · exact h j hj
  have hl1 := img_len h
  have hl2 := img_len h'
  apply List.ext_getElem?
  intro k
  by_cases hk : k < size
  · rw [List.getElem?_take, if_pos (by omega), img_get h' (by omega), sec_put, List.getElem?_append_left (by rw [List.length_take]; omega), List.getElem?_take, if_pos hk, img_get h (by omega)]
    by_cases he : k / 64 = size / 64
    · rw [if_pos (by omega), fillX_low hw (by omega) (by omega), he]
    · rw [if_neg (by omega)]
  · rw [List.getElem?_append_right (by rw [List.length_take]; omega)]
    have hlt : ((img M at_ n).take size).length = size := by rw [List.length_take]; omega
    rw [hlt]
    by_cases hk2 : k < size + t.length
    · have hkq : k / 64 = size / 64 := by omega
      rw [List.getElem?_take, if_pos hk2, img_get h' (by omega), sec_put, if_pos (by omega), fillX_new hw (by omega) (by omega) (by omega)]
      congr 1
      omega
    · rw [List.getElem?_take, if_neg hk2, List.getElem?_eq_none (by omega)]
/-- bytes that are safe: in what lasts, and in the cache -/
def Safe (M : Dk) (at_ : Nat) (C : List UInt8) : Prop := ∀ k, k < C.length → (M.la (at_ + k / 64))[k % 64]? = C[k]? ∧ ∀ s, M.cs (at_ + k / 64) = some s → s[k % 64]? = C[k]?
theorem safe_sec {at_ : Nat} {C : List UInt8} (h : Safe M at_ C) {k : Nat} (hk : k < C.length) : (M.sec (at_ + k / 64))[k % 64]? = C[k]? := by
  unfold Dk.sec
  cases hs : M.cs (at_ + k / 64) with
  | none => exact (h k hk).1
  | some s => exact (h k hk).2 s hs
theorem safe_img {at_ n : Nat} {C : List UInt8} (h : Safe M at_ C) (hl : ∀ j, j < n → (M.sec (at_ + j)).length = 64) (hC : C.length ≤ 64 * n) : (img M at_ n).take C.length = C := by
  have hil := img_len hl
  apply List.ext_getElem?
  intro k
  by_cases hk : k < C.length
  · rw [List.getElem?_take, if_pos hk, img_get hl (by omega), safe_sec h hk]
  · rw [List.getElem?_take, if_neg hk, List.getElem?_eq_none (by omega)]
theorem safe_put {at_ i : Nat} {C X : List UInt8} (h : Safe M at_ C) (hX : ∀ k, k < C.length → at_ + k / 64 = i → X[k % 64]? = C[k]?) : Safe (M.put i X) at_ C := by
  intro k hk
  refine ⟨(h k hk).1, fun s hs => ?_⟩
  have hs : updS M.cs i X (at_ + k / 64) = some s := hs
  unfold updS at hs
  split at hs
  · rename_i he
    cases hs
    exact hX k hk he
  · exact (h k hk).2 s hs
theorem torn_get {was is : List UInt8} {f p : Nat} {x : Option UInt8} (h1 : was.length = 64) (h2 : is.length = 64) (hw : was[p]? = x) (hi : is[p]? = x) : (tornF was is f)[p]? = x := by
  have hc : ∀ a c : List UInt8, a.length = 64 → c.length = 64 → a[p]? = x → c[p]? = x → (a.take 32 ++ c.drop 32)[p]? = x := by
    intro a c ha hc h3 h4
    by_cases hp : p < 32
    · rw [List.getElem?_append_left (by rw [List.length_take]; omega), List.getElem?_take, if_pos hp]; exact h3
    · rw [List.getElem?_append_right (by rw [List.length_take]; omega), List.length_take, List.getElem?_drop, show 32 + (p - min 32 a.length) = p by omega]; exact h4
  unfold tornF
  split
  · exact hi
  · split
    · exact hc is was h2 h1 hi hw
    · split
      · exact hc was is h1 h2 hw hi
      · exact hw
theorem safe_crash {at_ : Nat} {C : List UInt8} {lf : Int} (ok : DkOk M lf) (h : Safe M at_ C) (hr : ∀ k, k < C.length → at_ + k / 64 < M.n) (fates : List Int) : Safe (M.crash fates) at_ C := by
  unfold Dk.crash
  split
  · exact h
  · intro k hk
    refine ⟨?_, fun s hs => by cases hs⟩
    show (match M.cs (at_ + k / 64) with | some s => tornF (M.la (at_ + k / 64)) s (fateN fates (M.order.idxOf (at_ + k / 64))) | none => M.la (at_ + k / 64))[k % 64]? = _
    cases hs : M.cs (at_ + k / 64) with
    | none => exact (h k hk).1
    | some s => exact torn_get (ok.l64 _ (hr k hk)) (ok.c64 _ s hs) (h k hk).1 ((h k hk).2 s hs)
theorem safe_flush {at_ : Nat} {C : List UInt8} (h : Safe M at_ C) : Safe M.flush at_ C := by
  intro k hk
  exact ⟨safe_sec h hk, fun s hs => by cases hs⟩
theorem safe_of_img {at_ n : Nat} {C : List UInt8} (hl : ∀ j, j < n → (M.sec (at_ + j)).length = 64) (hC : C.length ≤ 64 * n) (h : (img M at_ n).take C.length = C) : Safe M.flush at_ C := by
  intro k hk
  have h1 : (img M at_ n)[k]? = C[k]? := by
    have := congrArg (fun l => l[k]?) h
    simp only [List.getElem?_take, if_pos hk] at this
    exact this
  rw [img_get hl (by omega)] at h1
  exact ⟨h1, fun s hs => by cases hs⟩
theorem flush_sec (M : Dk) (j : Nat) : M.flush.sec j = M.sec j := rfl
theorem flush_img (M : Dk) (at_ n : Nat) : img M.flush at_ n = img M at_ n := rfl
end Go.Proofs.Ytaopejkbnohiiaa
