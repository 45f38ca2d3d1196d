/- The law WalEntries over heaps. -/
import Derived.Test.YtaopejkbnohiiaaLaw18
import Derived.Test.YtaopejkbnohiiaaEnt
import Derived.Test.YtaopejkbnohiiaaPick
namespace Go.Proofs.Ytaopejkbnohiiaa
open Go Go.Vc Go.Proofs
set_option linter.unusedVariables false
set_option linter.unusedSimpArgs false
variable {H H0 : Heap} {R : Value → Heap → Prop} {v : Value} {L L' : List It} {b lb at_ k N : Nat} {M : Dk} {want : List UInt8} {bad : Bool}
/-- which notes stand where, once all of A were put -/
def AllAt (f : Nat → Option Ent) (k : Nat) (A : List (List UInt8)) : Prop := ∀ j, j < k → ∀ n s, f j = some (n, s) ↔ n % k = j ∧ A.length < n + k ∧ 1 ≤ n ∧ n ≤ A.length ∧ A[n - 1]? = some s
theorem allAt_nil {f : Nat → Option Ent} (h : ∀ j, f j = none) : AllAt f k [] := by
  intro j hj n s
  rw [h j]
  constructor
  · intro g; cases g
  · rintro ⟨_, _, h1, h2, _⟩
    have : n ≤ 0 := h2
    omega
theorem allAt_put {f : Nat → Option Ent} {A : List (List UInt8)} {s : List UInt8} (hk : 1 ≤ k) (h : AllAt f k A) : AllAt (fun j => if j = (A.length + 1) % k then some (A.length + 1, s) else f j) k (A ++ [s]) := by
  intro j hj n t
  have hl : (A ++ [s]).length = A.length + 1 := by simp
  rw [hl]
  show (if j = (A.length + 1) % k then some (A.length + 1, s) else f j) = some (n, t) ↔ _
  by_cases hc : j = (A.length + 1) % k
  · rw [if_pos hc]
    constructor
    · intro g
      cases g
      refine ⟨hc.symm, by omega, by omega, by omega, ?_⟩
      rw [Nat.add_sub_cancel, List.getElem?_append_right (Nat.le_refl _), Nat.sub_self]; rfl
    · rintro ⟨h1, h2, h3, h4, h5⟩
      have hn : n = A.length + 1 := by
        have hm := Nat.sub_mod_eq_zero_of_mod_eq (show (A.length + 1) % k = n % k by omega)
        rw [Nat.mod_eq_of_lt (by omega)] at hm
        omega
      subst hn
      rw [Nat.add_sub_cancel, List.getElem?_append_right (Nat.le_refl _), Nat.sub_self] at h5
      cases h5
      rfl
  · rw [if_neg hc, h j hj n t]
    constructor
    · rintro ⟨h1, h2, h3, h4, h5⟩
      refine ⟨h1, ?_, h3, by omega, ?_⟩
      · by_cases hn : n + k = A.length + 1
        · have : (n + k) % k = n % k := Nat.add_mod_right n k
          rw [hn] at this
          omega
        · omega
      · rw [List.getElem?_append_left (by omega)]; exact h5
    · rintro ⟨h1, h2, h3, h4, h5⟩
      have hn : n ≠ A.length + 1 := by
        rintro rfl
        omega
      refine ⟨h1, by omega, h3, by omega, ?_⟩
      rw [List.getElem?_append_left (by omega)] at h5
      exact h5
/-- the last notes, in order -/
def lastE (A : List (List UInt8)) (k : Nat) : List Ent := (List.range (min A.length k)).map fun i => (A.length - min A.length k + i + 1, A.getD (A.length - min A.length k + i) [])
theorem lastE_len (A : List (List UInt8)) (k : Nat) : (lastE A k).length = min A.length k := by simp [lastE]
theorem lastE_get {A : List (List UInt8)} {k i : Nat} (h : i < min A.length k) : (lastE A k)[i]? = some (A.length - min A.length k + i + 1, A.getD (A.length - min A.length k + i) []) := by
  unfold lastE
  rw [List.getElem?_map, List.getElem?_range h]; rfl
theorem lastE_mem {A : List (List UInt8)} {k n : Nat} {s : List UInt8} : (n, s) ∈ lastE A k ↔ A.length < n + k ∧ 1 ≤ n ∧ n ≤ A.length ∧ A[n - 1]? = some s := by
  unfold lastE
  rw [List.mem_map]
  constructor
  · rintro ⟨i, hi, e⟩
    rw [List.mem_range] at hi
    cases e
    refine ⟨by omega, by omega, by omega, ?_⟩
    rw [Nat.add_sub_cancel, List.getD_eq_getElem?_getD, List.getElem?_eq_getElem (by omega)]; rfl
  · rintro ⟨h1, h2, h3, h4⟩
    refine ⟨n - 1 - (A.length - min A.length k), List.mem_range.2 (by omega), ?_⟩
    rw [show A.length - min A.length k + (n - 1 - (A.length - min A.length k)) = n - 1 by omega, List.getD_eq_getElem?_getD, h4, show n - 1 + 1 = n by omega]; rfl
theorem lastE_sorted (A : List (List UInt8)) (k : Nat) : (lastE A k).Pairwise fun a c => a.1 < c.1 := by
  unfold lastE
  rw [List.pairwise_map]
  refine List.Pairwise.imp ?_ List.pairwise_lt_range
  intro a c h
  show A.length - min A.length k + a + 1 < A.length - min A.length k + c + 1
  omega
theorem entries_are {f : Nat → Option Ent} {A : List (List UInt8)} {E : List Ent} (hk : 1 ≤ k) (h : AllAt f k A) (hp : E.Perm ((List.range k).filterMap f)) (hs : E.Pairwise fun a c => a.1 ≤ c.1) : E = lastE A k := by
  have hmem : ∀ n s, (n, s) ∈ (List.range k).filterMap f ↔ (n, s) ∈ lastE A k := fun n s => by
    rw [List.mem_filterMap, lastE_mem]
    constructor
    · rintro ⟨j, hj, e⟩
      exact ((h j (List.mem_range.1 hj) n s).1 e).2
    · intro g
      have hm := Nat.mod_lt n (show 0 < k by omega)
      exact ⟨n % k, List.mem_range.2 hm, (h _ hm n s).2 ⟨rfl, g⟩⟩
  have hn1 : ((List.range k).filterMap f).Nodup := by
    unfold List.Nodup
    rw [List.pairwise_filterMap]
    have hnd : (List.range k).Pairwise fun a a' => a < k ∧ a' < k ∧ a ≠ a' := by
      rw [List.pairwise_iff_getElem]
      intro i j hi hj hij
      rw [List.length_range] at hi hj
      rw [List.getElem_range, List.getElem_range]
      omega
    refine hnd.imp ?_
    rintro a a' ⟨h1, h2, h3⟩ ⟨n, s⟩ e1 ⟨n', s'⟩ e2 e3
    cases e3
    exact h3 (((h a h1 n s).1 e1).1.symm.trans ((h a' h2 n s).1 e2).1)
  have hn2 : (lastE A k).Nodup := (lastE_sorted A k).imp fun {a c} g e => by rw [e] at g; omega
  have hp2 : E.Perm (lastE A k) := hp.trans ((List.perm_ext_iff_of_nodup hn1 hn2).2 fun ⟨n, s⟩ => hmem n s)
  refine hp2.eq_of_pairwise (fun a c ha hc h1 h2 => ?_) hs ((lastE_sorted A k).imp fun g => Nat.le_of_lt g)
  obtain ⟨n, s⟩ := a
  obtain ⟨n', s'⟩ := c
  have ha := lastE_mem.1 (hp2.subset ha)
  have hc := lastE_mem.1 hc
  obtain rfl : n = n' := by
    have h1 : n ≤ n' := h1
    have h2 : n' ≤ n := h2
    omega
  rw [ha.2.2.2] at hc
  have := Option.some.inj hc.2.2.2
  rw [this]
set_option maxHeartbeats 1000000 in
theorem WalEntries_law (a0 : Option Addr) (len0 cap0 : Nat) (sec : Int) (w0 : StructRow [.string] H a0 len0 cap0) (w1 : (Lit.int .i64 sec).wf = true) :
    CallsH Try.prog 6 #[.slice a0 len0 cap0, .int .i64 sec] H (LawOk H) := by
  obtain ⟨T, hTl, hTm, hTs, hT⟩ := str_rows w0
  have hmax : maxLen = 9223372036854775807 := rfl
  have hvl : (txtsV T).length = T.length * 1 := by rw [txtsV_len, Nat.mul_one]
  refine lighterlaw18_WalEntries.vc _ _ _ _ ?_
  unfold lighterlaw18_WalEntries.res
  refine speaks18_spec fun H1 hx1 => ?_
  rw [pNot_v, Bool.not_true, pCond_false]
  have hT := hT.ext hx1
  rw [pBits_v, and_low (k := 3) (m := 7) (n := sec) (by decide) rfl]
  obtain ⟨k, hk⟩ : ∃ k : Nat, 2 + sec % 2 ^ 3 = (k : Int) := ⟨(2 + sec % 2 ^ 3).toNat, by omega⟩
  have hk9 : 2 ≤ k ∧ k ≤ 9 := by omega
  rw [pAdd_v, hk, w64 (n := (k : Int)) (by omega) (by omega)]
  refine new_spec (n := 12) (Owns.start (H := H1)) (by decide) (by decide) fun H2 b d => ?_
  refine pExtract_to rfl ?_
  refine pExtract_to rfl ?_
  have d : Dsk H1 H2 b (Dk.new 12) [.sl (.slice none 0 0) 1 (txtsV [])] := by
    obtain ⟨lv, r, ov, lf, o, ok⟩ := d
    have o := o.add (Ext.refl _) (i := .sl (.slice none 0 0) 1 (txtsV [])) ⟨by decide, .inl ⟨rfl, rfl⟩⟩ (by intro k hk; exact absurd hk (by simp [It.foot, blkOf]))
    exact ⟨lv, r, ov, lf, o.arrT (by repeat (first | exact SelsT.refl | exact Sel.here | apply SelsT.cons | apply Sel.there)), ok⟩
  refine wl_new (at_ := 1) (k := k) d hk9.1 (by omega) fun H3 lb w => ?_
  refine pExtract_to rfl ?_
  refine pExtract_to rfl ?_
  have hall0 : AllAt (noteAt (Dk.new 12) 1) k [] := allAt_nil fun j => parse_zero
  refine ⟨fun av i H' => ∃ (q : Nat) (A : List (List UInt8)) (M : Dk) (want : List UInt8), i = .int .i64 q ∧ q ≤ 25 ∧ A.length = q ∧ M.fuse = none ∧ M.n = 12 ∧ AllAt (noteAt M 1) k A ∧ WL H1 H' b lb 1 k q M want [.sl av 1 (txtsV A)], fun _ i _ => match i with | .int _ x => 100 - x.toNat | _ => 0, ⟨0, [], Dk.new 12, [], rfl, by omega, rfl, rfl, rfl, hall0, w⟩, ?_⟩
  clear w d hall0
  rintro _ av _ H4 ⟨q, A, M, want, rfl, hq, hA, hf, hn, hall, w⟩
  have hTx := hT.ext w.d.ext
  refine hTx.len hvl (by decide) ?_
  rw [pLt_v]
  refine pAnd_if (d := decide ((q : Int) < 25)) (fun _ => by rw [pLt_v]; exact ⟨rfl, rfl⟩) ?_
  intro _
  refine pCond_b (fun hc => ?_) (fun _ => ?_)
  · rw [Bool.and_eq_true, decide_eq_true_eq, decide_eq_true_eq] at hc
    have hqT : q < T.length := by omega
    refine hTx.at_ hvl (by decide) (by omega) (by omega) fun p hp => ?_
    refine hp.load hTx (w := str T[q]) (by rw [Int.toNat_natCast, Nat.mul_one, txtsV_get hqT]) ?_
    refine hTx.at_ hvl (by decide) (by omega) (by omega) fun p hp => ?_
    refine hp.load hTx (w := str T[q]) (by rw [Int.toNat_natCast, Nat.mul_one, txtsV_get hqT]) ?_
    refine pLenS_to ?_
    rw [pMin_v, show min ((T[q].length : Nat) : Int) 23 = ((min T[q].length 23 : Nat) : Int) by omega]
    refine pSlStr_to (lo := 0) (hi := min T[q].length 23) (.inr ⟨rfl, rfl⟩) (.inl rfl) (by omega) (by omega) ?_
    rw [List.drop_zero, Nat.sub_zero]
    have hsl : (T[q].take (min T[q].length 23)).length ≤ 23 := by rw [List.length_take]; omega
    generalize T[q].take (min T[q].length 23) = s at *
    have hcs := w.cs
    refine w.put (by omega) hsl hf fun H5 w => ?_
    rw [pNe_0, decide_eq_false (by simp), pCond_false]
    have hall2 : AllAt (noteAt (M.put (1 + (q + 1) % k) (slotB (q + 1) s)).flush 1) k (A ++ [s]) := by
      have e : noteAt (M.put (1 + (q + 1) % k) (slotB (q + 1) s)).flush 1 = fun j => if j = (A.length + 1) % k then some (A.length + 1, s) else noteAt M 1 j := by
        rw [noteAt_la rfl, put_flush_la hcs, noteAt_la hcs, hA]
        funext j
        by_cases hj : j = (q + 1) % k
        · rw [if_pos hj]
          show parse (if 1 + j = 1 + (q + 1) % k then slotB (q + 1) s else M.la (1 + j)) = _
          rw [if_pos (by omega), parse_slot (by omega) (by omega) hsl]
        · rw [if_neg hj]
          show parse (if 1 + j = 1 + (q + 1) % k then slotB (q + 1) s else M.la (1 + j)) = _
          rw [if_neg (by omega)]
      rw [e]
      exact allAt_put (by omega) hall
    obtain ⟨M2, hM2⟩ : ∃ M2, M2 = (M.put (1 + (q + 1) % k) (slotB (q + 1) s)).flush := ⟨_, rfl⟩
    have hn2 : M2.n = 12 := by rw [hM2]; exact hn
    have hf2 : M2.fuse = none := by rw [hM2]; show M.fuse.map _ = none; rw [hf]; rfl
    rw [← hM2] at w hall2
    obtain ⟨lv, r, ov, lf, o, ok⟩ := w.d
    refine o.build1 (sz := 1) (by decide) rfl rfl fun y H6 o => ?_
    refine o.app (v := av) (by repeat (first | exact Sel.here | apply Sel.there)) (o.sl (v := y) (by repeat (first | exact List.mem_cons_self | apply List.mem_cons_of_mem))) rfl (by rw [txtsV_len, hA]; show 2 * (_ + 1) * 16 ≤ _; omega) fun y2 H7 o => ?_
    rw [pAdd_v, w64 (n := (q : Int) + 1) (by omega) (by omega)]
    refine ⟨⟨q + 1, A ++ [s], M2, s, rfl, by omega, by simp [hA], hf2, hn2, hall2, ⟨⟨lv, r, ov, lf, ?_, ok⟩, w.hr, w.hk, w.ho, w.cs, w.wf, w.good⟩⟩, by show 100 - ((q : Int) + 1).toNat < 100 - (q : Int).toNat; omega⟩
    rw [txtsV_append]
    exact o.arr (by repeat (first | exact Sels.nil | exact Sel.here | apply Sels.cons | apply Sel.there))
  · refine entries_spec w.d w.ho (by omega) w.hr fun H5 y E d hp hs => ?_
    have hE := entries_are (by omega) hall hp hs
    subst hE
    have hEl := lastE_len A k
    have hrl : (rowsE (lastE A k)).length = min q k * 2 := by rw [rowsE_len, hEl, hA]
    have hal : (txtsV A).length = q * 1 := by rw [txtsV_len, hA, Nat.mul_one]
    refine pExtract_to rfl ?_
    refine pExtract_to rfl ?_
    rw [pNe_0, decide_eq_false (by simp)]
    refine pOr_false ?_
    obtain ⟨lv, r, ov, lf, o, ok⟩ := d
    have hy := o.sl (v := y) (by repeat (first | exact List.mem_cons_self | apply List.mem_cons_of_mem))
    have ha := o.sl (v := av) (by repeat (first | exact List.mem_cons_self | apply List.mem_cons_of_mem))
    refine hy.len hrl (by decide) ?_
    refine ha.len hal (by decide) ?_
    rw [pMin_v, show min (q : Int) (k : Int) = ((min q k : Nat) : Int) by omega, pNe_0, decide_eq_false (fun g => g rfl)]
    intro _
    rw [pCond_false]
    refine ⟨fun i H' => ∃ j : Nat, i = .int .i64 j ∧ H5 = H', fun i _ => match i with | .int _ x => 100 - x.toNat | _ => 0, ⟨0, rfl, rfl⟩, ?_⟩
    rintro _ _ _ ⟨j, rfl, rfl⟩
    refine hy.len hrl (by decide) ?_
    rw [pLt_v]
    refine pCond_if (fun hc => ?_) (fun _ => ?_)
    · have hj : j < min A.length k := by omega
      have hjE : j < (lastE A k).length := by omega
      have hget := lastE_get hj
      rw [hA] at hget
      refine ha.len hal (by decide) ?_
      refine hy.len hrl (by decide) ?_
      rw [pSub_v, show (q : Int) - ((min q k : Nat) : Int) = ((q - min q k : Nat) : Int) by omega, w64 (by omega) (by omega), pAdd_v, show ((q - min q k : Nat) : Int) + (j : Int) = ((q - min q k + j : Nat) : Int) by omega, w64 (by omega) (by omega)]
      have hrow : ((lastE A k).map rowE)[j]? = some (rowE (q - min q k + j + 1, A.getD (q - min q k + j) [])) := by rw [List.getElem?_map, hget]; rfl
      have hcell : ∀ {x : Nat} {w : Value}, x < 2 → (rowE (q - min q k + j + 1, A.getD (q - min q k + j) []))[x]? = some w → (rowsE (lastE A k))[j * 2 + x]? = some w := fun {x w} hx hw => by
        have := flat_at ((lastE A k).map rowE) j _ (rowE_len _) hrow
        rw [← this, List.getElem?_take, if_pos hx, List.getElem?_drop] at hw
        exact hw
      refine hy.at_ hrl (by decide) (by omega) (by omega) fun p hp => ?_
      refine hp.field (f := 0) fun p2 hp2 => ?_
      refine hp2.load hy (w := .int .u64 ((q - min q k + j + 1 : Nat) : Int)) (by rw [Int.toNat_natCast]; exact hcell (by decide) rfl) ?_
      rw [pAdd_v, w64 (n := ((q - min q k + j : Nat) : Int) + 1) (by omega) (by omega), pConv_v, wu64 (by omega) (by omega), pNe_0, decide_eq_false (by simp)]
      refine pOr_false ?_
      refine hy.at_ hrl (by decide) (by omega) (by omega) fun p hp => ?_
      refine hp.field (f := 1) fun p2 hp2 => ?_
      refine hp2.load hy (w := str (A.getD (q - min q k + j) [])) (by rw [Int.toNat_natCast]; exact hcell (by decide) rfl) ?_
      refine ha.at_ hal (by decide) (by omega) (by omega) fun p hp => ?_
      refine hp.load ha (w := str (A.getD (q - min q k + j) [])) (by rw [Int.toNat_natCast, Nat.mul_one, txtsV_get (show q - min q k + j < A.length by omega), List.getD_eq_getElem?_getD, List.getElem?_eq_getElem (by omega)]; rfl) ?_
      refine pNe1_to ?_
      rw [decide_eq_false (fun g => g rfl)]
      intro _
      rw [pCond_false, pAdd_v, w64 (n := (j : Int) + 1) (by omega) (by omega)]
      exact ⟨⟨j + 1, rfl, rfl⟩, by show 100 - ((j : Int) + 1).toNat < 100 - (j : Int).toNat; omega⟩
    · refine entries_nil ?_
      refine pExtract_to rfl ?_
      refine pExtract_to rfl ?_
      have d : Dsk H1 H5 b M (logIt lb b 1 k want q false :: .sl y 2 (rowsE (lastE A k)) :: [.sl av 1 (txtsV A)]) := ⟨lv, r, ov, lf, o.arr (by repeat (first | exact Sels.nil | exact Sel.here | apply Sels.cons | apply Sel.there)), ok⟩
      refine crash_spec d (fates := []) hasF_nil (by decide) fun H6 d => ?_
      have hoff : (M.crash []).off = true := (crash_off w.ho []).1
      refine entries_off d hoff (by omega) (by omega) ?_
      refine pExtract_to rfl ?_
      refine pExtract_to rfl ?_
      rw [pEq_0, decide_eq_true (show (1 : Int) = 1 from rfl)]
      refine pAnd_true ?_
      rw [pEq_0, decide_eq_true (show (14 : Int) = 14 from rfl)]
      intro _
      exact ⟨rfl, hx1.trans d.ext⟩
end Go.Proofs.Ytaopejkbnohiiaa
