/- The law DgramJoins over heaps. -/
import Derived.Test.YtacfmbookcgjoaaLaw22
import Derived.Test.YtacfmbookcgjoaaVcRows
namespace Go.Proofs.Ytacfmbookcgjoaa
open Go Go.Vc Go.Proofs
set_option linter.unusedVariables false
set_option linter.unusedSimpArgs false
variable {H : Heap} {R : Value → Heap → Prop}
def strsV (l : List (List UInt8)) : List Value := l.map fun s => str s
theorem strsV_len (l : List (List UInt8)) : (strsV l).length = l.length := by simp [strsV]
theorem strsV_get {l : List (List UInt8)} {i : Nat} {s : List UInt8} (h : l[i]? = some s) : (strsV l)[i]? = some (str s) := by unfold strsV; rw [List.getElem?_map, h]; rfl
/-- texts as one -/
def joinL (l : List (List UInt8)) : List UInt8 := l.flatMap fun s => putN s.length 2 ++ s
theorem joinL_end (l : List (List UInt8)) (s : List UInt8) : joinL (l ++ [s]) = joinL l ++ (putN s.length 2 ++ s) := by unfold joinL; rw [List.flatMap_append]; simp
theorem take_pre {α : Type} {p q : List α} {n : Nat} (h : p.length = n) : (p ++ q).take n = p := by subst h; simp
theorem drop_pre {α : Type} {p q : List α} {n : Nat} (h : p.length = n) : (p ++ q).drop n = q := by subst h; simp
theorem joinL_cons (s : List UInt8) (l : List (List UInt8)) : joinL (s :: l) = putN s.length 2 ++ s ++ joinL l := rfl
theorem joinL_len : ∀ (l : List (List UInt8)) (B : Nat), (∀ s ∈ l, s.length ≤ B) → (joinL l).length ≤ (B + 2) * l.length
  | [], _, _ => by simp [joinL]
  | s :: l, B, h => by
    have ih := joinL_len l B (fun t ht => h t (by simp [ht]))
    have := h s (by simp)
    rw [joinL_cons, List.length_append, List.length_append, putN_len, List.length_cons, Nat.mul_succ]
    omega
theorem joinL_take {l : List (List UInt8)} {j : Nat} (h : j < l.length) : joinL (l.take (j + 1)) = joinL (l.take j) ++ (putN l[j].length 2 ++ l[j]) := by
  rw [List.take_add_one, List.getElem?_eq_getElem h]
  exact joinL_end _ _
theorem str_get {H : Heap} {v : Value} {l : List (List UInt8)} {i : Nat} {K : Value → Prop} (hs : Sl H v 1 (strsV l)) (h : i < l.length) (hK : K (str l[i])) : pIdxSl 1 v (.int .i64 i) fun x => pLoad H x K := by
  refine hs.idx (n := l.length) (by rw [strsV_len]; omega) (by decide) (by omega) (by omega) fun ad had => ?_
  refine had.load (v := str l[i]) ?_ hK
  rw [Int.toNat_natCast, Nat.mul_one, List.getElem?_take, if_pos (by decide), List.getElem?_drop, Nat.add_zero]
  exact strsV_get (List.getElem?_eq_getElem h)
theorem join_spec {v : Value} {l : List (List UInt8)} (hl : l.length ≤ 100000) (hB : ∀ s ∈ l, s.length < 65536) (hs : Sl H v 1 (strsV l)) (h : ∀ H', Ext H H' → R (str (joinL l)) H') : CallsH Try.prog 16 #[v] H R := by
  refine dgram_Join.vc _ _ _ ?_
  unfold dgram_Join.res
  refine hs.len (n := l.length) (by rw [strsV_len]; omega) (by decide) ?_
  refine ⟨fun s i H' => ∃ j : Nat, i = .int .i64 j ∧ j ≤ l.length ∧ s = str (joinL (l.take j)) ∧ Ext H H', fun _ i _ => match i with | .int _ x => (l.length - x).toNat | _ => 0, ⟨0, rfl, by omega, rfl, Ext.refl _⟩, ?_⟩
  rintro _ _ _ H1 ⟨j, rfl, hj, rfl, e1⟩
  rw [pLt_v]
  refine pCond_if (fun hc => ?_) (fun hc => ?_)
  · have hjl : j < l.length := by omega
    have hb := hB _ (List.getElem_mem hjl)
    have htk := joinL_take hjl
    have hjlen := joinL_len (l.take j) 65535 (fun s hs => by have := hB s (List.mem_of_mem_take hs); omega)
    rw [List.length_take] at hjlen
    have hmul : (65535 + 2) * min j l.length ≤ 65537 * 100000 := Nat.mul_le_mul_left _ (by omega)
    refine str_get (hs.ext e1) hjl ?_
    generalize l[j] = s at *
    refine pLenS_to ?_
    rw [pLt_v, decide_eq_true (by omega), pCond_true]
    refine pLenS_to ?_
    rw [pConv_v, wu64 (by omega) (by omega)]
    refine put_at (kn := 2) (by omega) (by omega) (by decide) (by decide) fun H2 e2 => ?_
    refine pAdd_str (by rw [putN_len]; omega) ?_
    refine pAdd_str (by rw [List.length_append, putN_len]; omega) ?_
    rw [pAdd_v, w64 (by omega) (by omega)]
    exact ⟨⟨j + 1, rfl, by omega, by rw [htk], e1.trans e2⟩, by show (_ : Int).toNat < (_ : Int).toNat; omega⟩
  · have : j = l.length := by omega
    subst this
    rw [List.take_length]
    exact h H1 e1
theorem getN_two (s : List UInt8) : getN (s.take 2) < 65536 := by
  have h1 := getN_lt (s.take 2)
  have h2 : 256 ^ (s.take 2).length ≤ 256 ^ 2 := Nat.pow_le_pow_right (by decide) (by rw [List.length_take]; omega)
  have h3 : (256 : Nat) ^ 2 = 65536 := by decide
  omega
/-- a text is told as texts: what was told so far, and what is left -/
theorem split_spec {s : List UInt8} (hs : s.length ≤ 1000000) (P : List (List UInt8) → List UInt8 → Prop) (h0 : P [] s)
    (hstep : ∀ acc t, P acc t → 2 ≤ t.length → getN (t.take 2) ≤ (t.drop 2).length → P (acc ++ [(t.drop 2).take (getN (t.take 2))]) ((t.drop 2).drop (getN (t.take 2))))
    (hyes : ∀ acc H' v, P acc [] → acc.length ≤ s.length → (∀ x ∈ acc, x.length ≤ s.length) → Ext H H' → Own H' v 1 (strsV acc) → R (.tuple #[v, .bool true]) H')
    (hno : ∀ acc t H', P acc t → t ≠ [] → (t.length < 2 ∨ (t.drop 2).length < getN (t.take 2)) → Ext H H' → R (.tuple #[.slice none 0 0, .bool false]) H') : CallsH Try.prog 17 #[str s] H R := by
  refine dgram_Split.vc _ _ _ ?_
  unfold dgram_Split.res
  refine ⟨fun x v H' => ∃ (acc : List (List UInt8)) (t : List UInt8), x = str t ∧ P acc t ∧ acc.length + t.length ≤ s.length ∧ (∀ x ∈ acc, x.length ≤ s.length) ∧ Ext H H' ∧ Own H' v 1 (strsV acc) ∧ ∀ k, blkOf v = some k → H.size ≤ k, fun x _ _ => match x with | .string b => b.size | _ => 0,
    ⟨[], s, rfl, h0, by simp, by simp, Ext.refl _, .inl ⟨rfl, rfl⟩, by simp [blkOf]⟩, ?_⟩
  rintro _ _ v H1 ⟨acc, t, rfl, hP, hl, hxs, e1, o1, f1⟩
  refine pNe1_to ?_
  refine pCond_if (fun hc => ?_) (fun hc => ?_)
  · refine pLenS_to ?_
    rw [pLt_v]
    refine pCond_if (fun hc2 => ?_) (fun hc2 => ?_)
    · exact hno acc t H1 hP hc (.inl (by omega)) e1
    have h2 : 2 ≤ t.length := by omega
    refine pSlStr_to (lo := 0) (hi := 2) (.inr ⟨rfl, rfl⟩) (.inl rfl) (by omega) h2 ?_
    rw [List.drop_zero, Nat.sub_zero]
    have hg := getN_two t
    refine get_small (by rw [List.length_take]; omega) ?_
    rw [pConv_v, w64 (by omega) (by omega)]
    refine pSlStr_to (lo := 2) (hi := t.length) (.inl rfl) (.inr ⟨rfl, rfl⟩) h2 (Nat.le_refl _) ?_
    rw [List.take_of_length_le (by rw [List.length_drop]; omega)]
    refine pLenS_to ?_
    rw [pLt_v]
    have hdl : (t.drop 2).length = t.length - 2 := by rw [List.length_drop]
    refine pCond_if (fun hc3 => ?_) (fun hc3 => ?_)
    · exact hno acc t H1 hP hc (.inr (by omega)) e1
    have hst := hstep acc t hP h2 (by omega)
    generalize getN (t.take 2) = n at *
    generalize t.drop 2 = u at *
    refine pSlStr_to (lo := 0) (hi := n) (.inr ⟨rfl, rfl⟩) (.inl rfl) (by omega) (by omega) ?_
    rw [List.drop_zero, Nat.sub_zero]
    refine pSlStr_to (lo := n) (hi := u.length) (.inl rfl) (.inr ⟨rfl, rfl⟩) (by omega) (Nat.le_refl _) ?_
    rw [show (u.drop n).take (u.length - n) = u.drop n from List.take_of_length_le (by rw [List.length_drop]; omega)]
    refine o1.append1 (n := acc.length) (by decide) rfl rfl rfl (by rw [strsV_len]; omega) (by omega) fun v2 H2 o2 i2 s2 k2 => ?_
    refine ⟨⟨_, _, rfl, hst, by rw [List.length_append, List.length_drop]; simp; omega, fun x hx => ?_, ext_of_own e1 f1 i2 s2, ?_, fun k hk => ?_⟩, ?_⟩
    · rcases List.mem_append.1 hx with h' | h'
      · exact hxs x h'
      · simp only [List.mem_singleton] at h'; rw [h', List.length_take]; omega
    · unfold strsV at o2 ⊢; rw [List.map_append]; exact o2
    · rcases k2 k hk with h' | h'
      · exact f1 k h'
      · have := e1.size; omega
    · show (ByteArray.mk (u.drop n).toArray).size < (ByteArray.mk t.toArray).size
      rw [bys_size, bys_size, List.length_drop]; omega
  · have hc : t = [] := Classical.not_not.1 hc
    subst hc
    exact hyes acc H1 v hP (by simpa using hl) hxs e1 o1
theorem DgramJoins_law (a : Option Addr) (len cap : Nat) (junk : List UInt8) (w0 : StructRow [.string] H a len cap) (w1 : (ByteArray.mk junk.toArray).size ≤ maxLen) :
    CallsH Try.prog 7 #[.slice a len cap, str junk] H (LawOk H) := by
  have hmax : maxLen = 9223372036854775807 := rfl
  rw [bys_size] at w1
  obtain ⟨T, hTl, hTm, hT1, hT2, hS⟩ := w0.rows (by decide)
  have hrow : ∀ r ∈ T, ∃ s : List UInt8, r = [str s] ∧ s.length ≤ maxLen := by
    intro r hr
    have hl := hT1 r hr
    match r, hl, hT2 r hr with
    | [x], _, hf =>
      obtain ⟨_, h0, s, rfl, hs⟩ := hf 0 _ rfl
      simp at h0
      exact ⟨s, by rw [h0], hs⟩
  have hall : ∃ L : List (List UInt8), T.flatten = strsV L ∧ L.length = len ∧ ∀ s ∈ L, s.length ≤ maxLen := by
    clear hS hT1 hT2
    subst hTl
    clear hTm w0
    induction T with
    | nil => exact ⟨[], rfl, rfl, by simp⟩
    | cons r T ih =>
      obtain ⟨s, rfl, hs⟩ := hrow r (by simp)
      obtain ⟨L, h1, h2, h3⟩ := ih (fun r hr => hrow r (by simp [hr]))
      exact ⟨s :: L, by rw [List.flatten_cons, h1]; rfl, by simp [h2], fun x hx => by
        rcases List.mem_cons.1 hx with rfl | hx
        · exact hs
        · exact h3 x hx⟩
  obtain ⟨L, hTL, hLl, hLm⟩ := hall
  rw [hTL] at hS
  change Sl H _ 1 _ at hS
  refine lighterlaw22_DgramJoins.vc _ _ _ _ ?_
  unfold lighterlaw22_DgramJoins.res
  refine speaks22_spec fun H1 e1 => ?_
  rw [pNot_v]
  simp only [Bool.not_true, pCond_false]
  rw [pLen_v, pMin_v]
  refine hS.cut (by decide) (n := len) (lo := 0) (hi := min len 20) (by rw [strsV_len]; omega) (by omega) (by omega) (fun v hv => ?_) (.inr ⟨rfl, rfl⟩) (.inl (by congr 2; omega))
  have hv2 : Sl H v 1 (strsV (L.take (min len 20))) := by
    rw [Nat.zero_mul, List.drop_zero, Nat.sub_zero, Nat.mul_one] at hv
    unfold strsV at hv ⊢
    rw [List.map_take]; exact hv
  have hM20 : (L.take (min len 20)).length = min len 20 := by rw [List.length_take]; omega
  have hMm : ∀ s ∈ L.take (min len 20), s.length ≤ maxLen := fun s hs => hLm s (List.mem_of_mem_take hs)
  generalize L.take (min len 20) = M at *
  -- the texts, each cut to 300 bytes
  generalize hA : M.map (fun s => s.take 300) = A
  have hAl : A.length = M.length := by rw [← hA, List.length_map]
  have hA300 : ∀ s ∈ A, s.length ≤ 300 := by
    intro s hs
    rw [← hA] at hs
    obtain ⟨t, _, rfl⟩ := List.mem_map.1 hs
    rw [List.length_take]; omega
  have hAget : ∀ i (h : i < M.length), A[i]? = some (M[i].take 300) := by
    intro i h
    rw [← hA, List.getElem?_map, List.getElem?_eq_getElem h]; rfl
  refine ⟨fun want all i H' => ∃ j : Nat, i = .int .i64 j ∧ j ≤ M.length ∧ want = str (joinL (A.take j)) ∧ Own H' all 1 (strsV (A.take j)) ∧ Ext H H' ∧ ∀ k, blkOf all = some k → H.size ≤ k, fun _ _ i _ => match i with | .int _ x => (M.length - x).toNat | _ => 0,
    ⟨0, rfl, by omega, rfl, .inl ⟨rfl, rfl⟩, e1, by simp [blkOf]⟩, ?_⟩
  rintro _ _ all _ H2 ⟨j, rfl, hj, rfl, o2, e2, f2⟩
  refine hv2.len (n := M.length) (by rw [strsV_len]; omega) (by decide) ?_
  rw [pLt_v]
  refine pCond_if (fun hc => ?_) (fun hc => ?_)
  · have hjl : j < M.length := by omega
    have hjm := hMm _ (List.getElem_mem hjl)
    have hget := hAget j hjl
    have hjlA : j < A.length := by omega
    have hAj : A[j] = M[j].take 300 := by rw [List.getElem?_eq_getElem hjlA, Option.some.injEq] at hget; exact hget
    have htk := joinL_take hjlA
    have hjlen := joinL_len (A.take j) 300 (fun s hs => hA300 s (List.mem_of_mem_take hs))
    rw [List.length_take] at hjlen
    have hs300 := hA300 _ (List.getElem_mem hjlA)
    refine str_get (hv2.ext e2) hjl ?_
    refine str_get (hv2.ext e2) hjl ?_
    rw [hAj] at htk hs300
    generalize M[j] = s at *
    refine pLenS_to ?_
    rw [pMin_v]
    refine pSlStr_to (lo := 0) (hi := min s.length 300) (.inr ⟨rfl, rfl⟩) (.inl (by congr 2; omega)) (by omega) (by omega) ?_
    have ecut : (s.drop 0).take (min s.length 300 - 0) = s.take 300 := by
      rw [List.drop_zero, Nat.sub_zero]
      apply List.ext_getElem?
      intro i
      rw [List.getElem?_take, List.getElem?_take]
      by_cases h1 : i < 300
      · by_cases h2 : i < s.length
        · rw [if_pos (by omega), if_pos h1]
        · rw [if_neg (by omega), if_pos h1, List.getElem?_eq_none (by omega)]
      · rw [if_neg (by omega), if_neg h1]
    rw [ecut]
    generalize hu : s.take 300 = u at *
    refine o2.append1 (n := j) (by decide) rfl rfl rfl (by rw [strsV_len, List.length_take]; omega) (by omega) fun v3 H3 o3 i3 s3 k3 => ?_
    refine pLenS_to ?_
    rw [pConv_v, wu64 (by omega) (by omega)]
    refine refPut_at (kn := 2) (by omega) (by omega) (by decide) fun H4 e4 => ?_
    refine pAdd_str (by rw [putN_len]; omega) ?_
    refine pAdd_str (by rw [List.length_append, putN_len]; omega) ?_
    rw [pAdd_v, w64 (by omega) (by omega)]
    have htA : A.take (j + 1) = A.take j ++ [u] := by rw [List.take_add_one, hget]; rfl
    refine ⟨⟨j + 1, rfl, by omega, by rw [htk], ?_, (ext_of_own e2 f2 i3 s3).trans e4, fun k hk => ?_⟩, by show (_ : Int).toNat < (_ : Int).toNat; omega⟩
    · rw [htA]
      unfold strsV at o3 ⊢
      rw [List.map_append]
      exact o3.ext e4
    · rcases k3 k hk with h' | h'
      · exact f2 k h'
      · have := e2.size; omega
  have hje : A.take j = A := List.take_of_length_le (by omega)
  rw [hje] at o2 ⊢
  have hjoin := joinL_len A 300 hA300
  have hjl2 : (joinL A).length ≤ 302 * 20 := Nat.le_trans hjoin (Nat.mul_le_mul_left _ (by omega))
  refine join_spec (by omega) (fun s hs => by have := hA300 s hs; omega) (o2.sl (by decide)) fun H3 e3 => ?_
  -- what was joined is told again
  refine split_spec (by omega) (fun acc t => ∃ r, A = acc ++ r ∧ t = joinL r) ⟨A, rfl, rfl⟩ ?_ ?_ ?_
  · rintro acc t ⟨r, hAr, rfl⟩ h2 hn
    cases r with
    | nil => simp [joinL] at h2
    | cons u r =>
      have hu := hA300 u (by rw [hAr]; simp)
      rw [joinL_cons] at *
      have hp : (putN u.length 2).length = 2 := putN_len _ _
      have e2' : (putN u.length 2 ++ u ++ joinL r).take 2 = putN u.length 2 := by
        rw [List.append_assoc, take_pre hp]
      have e3' : (putN u.length 2 ++ u ++ joinL r).drop 2 = u ++ joinL r := by
        rw [List.append_assoc, drop_pre hp]
      rw [e2', e3', getN_put (by omega), List.take_append_of_le_length (Nat.le_refl _), List.take_length, List.drop_append_of_le_length (Nat.le_refl _), List.drop_of_length_le (Nat.le_refl _), List.nil_append]
      exact ⟨r, by rw [hAr]; simp, rfl⟩
  · rintro acc H4 v4 ⟨r, hAr, hr⟩ _ _ e4 o4
    have hr0 : r = [] := by
      cases r with
      | nil => rfl
      | cons u r => rw [joinL_cons] at hr; have := congrArg List.length hr; simp [putN_len] at this; omega
    subst hr0
    rw [List.append_nil] at hAr
    subst hAr
    refine pExtract_to rfl ?_
    refine pExtract_to rfl ?_
    refine pNe1_to ?_
    rw [decide_eq_false (p := joinL A ≠ joinL A) (by simp)]
    refine pOr_false ?_
    rw [pNot_v]
    refine fun _ => pOr_false ?_
    have o24 := (o2.ext e3).ext e4
    refine (o4.sl (by decide)).len (n := A.length) (by rw [strsV_len]; omega) (by decide) ?_
    refine (o24.sl (by decide)).len (n := A.length) (by rw [strsV_len]; omega) (by decide) ?_
    rw [pNe_0, decide_eq_false (by simp)]
    refine fun _ => ?_
    rw [pCond_false]
    have x4 : Ext H H4 := (e2.trans e3).trans e4
    refine ⟨fun i H' => ∃ q : Nat, i = .int .i64 q ∧ q ≤ A.length ∧ H4 = H', fun i _ => match i with | .int _ x => (A.length - x).toNat | _ => 0, ⟨0, rfl, by omega, rfl⟩, ?_⟩
    rintro _ _ _ ⟨q, rfl, hq, rfl⟩
    refine (o24.sl (by decide)).len (n := A.length) (by rw [strsV_len]; omega) (by decide) ?_
    rw [pLt_v]
    refine pCond_if (fun hcq => ?_) (fun hcq => ?_)
    · have hql : q < A.length := by omega
      refine str_get (o4.sl (by decide)) hql ?_
      refine str_get (o24.sl (by decide)) hql ?_
      refine pNe1_to ?_
      rw [decide_eq_false (by simp), pCond_false, pAdd_v, w64 (by omega) (by omega)]
      exact ⟨⟨q + 1, rfl, by omega, rfl⟩, by show (_ : Int).toNat < (_ : Int).toNat; omega⟩
    refine pLenS_to ?_
    rw [pMin_v]
    refine pSlStr_to (lo := 0) (hi := min junk.length 400) (.inr ⟨rfl, rfl⟩) (.inl (by congr 2; omega)) (by omega) (by omega) ?_
    generalize hJ : (junk.drop 0).take (min junk.length 400 - 0) = J
    have hJl : J.length ≤ 400 := by rw [← hJ, List.length_take]; omega
    -- any text that is told as texts is what they are joined to
    refine split_spec (by omega) (fun acc t => J = joinL acc ++ t) (by simp [joinL]) ?_ ?_ ?_
    · rintro acc t hJt h2 hn
      rw [joinL_end, hJt, List.append_assoc]
      congr 1
      have e1 : putN ((t.drop 2).take (getN (t.take 2))).length 2 = t.take 2 := by
        rw [List.length_take, Nat.min_eq_left hn]
        have := putN_getN (t.take 2)
        rw [List.length_take, Nat.min_eq_left h2] at this
        exact this
      rw [e1, List.append_assoc, List.take_append_drop, List.take_append_drop]
    · rintro acc H5 v5 hJa hacc hx e5 o5
      rw [List.append_nil] at hJa
      refine pExtract_to rfl ?_
      refine pExtract_to rfl ?_
      refine pAnd_true ?_
      refine join_spec (by omega) (fun s hs => by have := hx s hs; omega) (o5.sl (by decide)) fun H6 e6 => ?_
      refine pEq1_to ?_
      rw [← hJa, decide_eq_true rfl]
      refine fun _ => ?_
      rw [pOr_true]
      exact fun _ => ⟨rfl, (x4.trans e5).trans e6⟩
    · rintro acc t H5 _ _ _ e5
      refine pExtract_to rfl ?_
      refine pExtract_to rfl ?_
      rw [pAnd_false]
      refine fun _ => pOr_false ?_
      rw [pNot_v]
      refine pAnd_true ?_
      rw [pLen_v, pEq_0, decide_eq_true (p := ((0 : Nat) : Int) = 0) rfl]
      exact fun _ _ => ⟨rfl, x4.trans e5⟩
  · rintro acc t H4 ⟨r, hAr, rfl⟩ hne hbad e4
    exfalso
    cases r with
    | nil => exact hne rfl
    | cons u r =>
      have hu := hA300 u (by rw [hAr]; simp)
      rw [joinL_cons] at *
      have hp : (putN u.length 2).length = 2 := putN_len _ _
      have e2' : (putN u.length 2 ++ u ++ joinL r).take 2 = putN u.length 2 := by
        rw [List.append_assoc, take_pre hp]
      have e3' : (putN u.length 2 ++ u ++ joinL r).drop 2 = u ++ joinL r := by
        rw [List.append_assoc, drop_pre hp]
      rw [e2', e3', getN_put (by omega)] at hbad
      simp only [List.length_append, putN_len] at hbad
      omega
end Go.Proofs.Ytacfmbookcgjoaa
