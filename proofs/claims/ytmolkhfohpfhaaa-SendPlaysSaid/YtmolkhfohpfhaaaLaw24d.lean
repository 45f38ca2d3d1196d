/- The law SendPlays over heaps. -/
import Derived.Test.YtmolkhfohpfhaaaRef24
import Derived.Test.YtmolkhfohpfhaaaPick
import Derived.Test.YtmolkhfohpfhaaaVcRows
namespace Go.Proofs.Ytmolkhfohpfhaaa
open Go Go.Vc Go.Proofs
set_option linter.unusedVariables false
set_option linter.unusedSimpArgs false
variable {H : Heap} {R : Value → Heap → Prop} {b r : Nat} {first count size base next : Int} {A : Int → Bool}
/-- the window as an own thing -/
def sndT (b r : Nat) (first count size base next : Int) (A : Int → Bool) : Thing where
  foot k := k = b ∨ k = r
  holds H := Snd H b r first count size base next A
  frame h hf := { h with blk := (hf _ (.inl rfl)).trans h.blk, map := h.map.keep (hf _ (.inr rfl)) }
  lt h hk := by
    rcases hk with rfl | rfl
    · exact lt_of_blk h.blk
    · exact h.map.lt
theorem owns_snd {H0 H' : Heap} {L L' : List It} {base' next' : Int} {A' : Int → Bool} (o : Owns H0 H L) (on : Only b r H H') (w : Snd H' b r first count size base' next' A') (hr : Rep (.thing (sndT b r first count size base next A)) (.thing (sndT b r first count size base' next' A')) L L') : Owns H0 H' L' :=
  o.turn hr on.size (fun k hk hn => on.same k hk (fun e => hn (.inl e)) (fun e => hn (.inr e))) w (fun k hk => .inl hk)
theorem pBuild_four {a b c d x y z u : Value} {KV : Value → Prop} (hx : oneCell x = true) (hy : oneCell y = true) (hz : oneCell z = true) (hu : oneCell u = true) (h : KV (.agg #[x, y, z, u])) : pBuild [a, b, c, d] [(0, 1, x), (1, 1, y), (2, 1, z), (3, 1, u)] KV :=
  pBuild_one hx (by simp) (pBuild_one hy (by simp) (pBuild_one hz (by simp) (pBuild_one hu (by simp) h)))
theorem boolsV_false {n : Nat} : List.replicate n (Value.bool false) = boolsV (fun _ => false) n := by
  apply List.ext_getElem?
  intro j
  by_cases hj : j < n
  · rw [boolsV_at hj, List.getElem?_replicate, if_pos hj]
  · rw [List.getElem?_eq_none (by simp; omega), List.getElem?_eq_none (by rw [boolsV_len]; omega)]
theorem marks_news (base next : Int) : ∀ (l : List Int) (s : (Int → Bool) × Bool), (marks base next s l).2 = true ↔ s.2 = true ∨ ∃ i ∈ l, base ≤ i ∧ i < next ∧ s.1 i = false
  | [], s => by simp [marks]
  | i :: l, s => by
    show (marks base next (markF base next s i) l).2 = true ↔ _
    rw [marks_news base next l]
    rw [show (markF base next s i).2 = ((decide (base ≤ i ∧ i < next) && !s.1 i) || s.2) from rfl]
    simp only [Bool.or_eq_true, Bool.and_eq_true, decide_eq_true_eq, Bool.not_eq_true', List.mem_cons]
    constructor
    · rintro ((⟨⟨h1, h2⟩, h3⟩ | h) | ⟨j, hj, h1, h2, h3⟩)
      · exact .inr ⟨i, .inl rfl, h1, h2, h3⟩
      · exact .inl h
      · rw [markF_at, Bool.or_eq_false_iff] at h3; exact .inr ⟨j, .inr hj, h1, h2, h3.1⟩
    · rintro (h | ⟨j, hj, h1, h2, h3⟩)
      · exact .inl (.inr h)
      · rcases hj with rfl | hj
        · exact .inl (.inl ⟨⟨h1, h2⟩, h3⟩)
        · cases hm : (markF base next s i).1 j with
          | false => exact .inr ⟨j, hj, h1, h2, hm⟩
          | true =>
            rw [markF_at, h3, Bool.false_or, decide_eq_true_eq] at hm
            obtain ⟨_, _, rfl⟩ := hm
            exact .inl (.inl ⟨⟨h1, h2⟩, h3⟩)
theorem mem_places {lo hi k : Int} : k ∈ places lo hi ↔ lo ≤ k ∧ k < hi := by
  unfold places
  simp only [List.mem_map, List.mem_range]
  constructor
  · rintro ⟨j, h1, rfl⟩; omega
  · rintro ⟨h1, h2⟩; exact ⟨(k - lo).toNat, by omega, by omega⟩
/-- what is told as there, after an acknowledgement -/
theorem ack_at {bits : Int} {at_ : Int} (h0 : base ≤ at_) (h1 : at_ ≤ next) (k : Int) :
    without (ackF bits base next at_ A).1 base (at_ + 1) k = ((A k || decide (k < next ∧ ∃ j : Nat, j < 32 ∧ bitAt bits j = true ∧ k = at_ + 1 + j)) && !decide (base ≤ k ∧ k < at_ + 1)) := by
  unfold without ackF
  rw [marks_at, marks_at]
  by_cases hk : base ≤ k ∧ k < at_ + 1
  · rw [decide_eq_true hk]; simp
  · rw [decide_eq_false hk]
    simp only [Bool.not_false, Bool.and_true]
    rw [decide_eq_false (p := base ≤ k ∧ k < next ∧ k ∈ places base at_) (fun h => hk ⟨h.1, by have := (mem_places.1 h.2.2).2; omega⟩), Bool.or_false]
    congr 1
    rw [Bool.eq_iff_iff, decide_eq_true_eq, decide_eq_true_eq]
    constructor
    · rintro ⟨a, b', c⟩; exact ⟨b', mem_bitL.1 c⟩
    · rintro ⟨a, j, hj, hb, rfl⟩; exact ⟨by omega, a, mem_bitL.2 ⟨j, hj, hb, rfl⟩⟩
theorem ack_news {bits : Int} {bs nx at_ : Nat} {E : Nat → Bool} (hE : ∀ j : Nat, bs ≤ j → E j = A j) (h0 : bs ≤ at_) (h1 : at_ ≤ nx) :
    newsF at_ bits E bs nx = (ackF bits bs nx at_ A).2 := by
  rw [Bool.eq_iff_iff, newsF_iff]
  unfold ackF
  rw [marks_news, marks_news]
  simp only [reduceCtorEq, false_or, Bool.false_eq_true]
  constructor
  · rintro ⟨j, h2, h3, h4, h5⟩
    rw [hE j h2] at h5
    unfold setF at h4
    split at h4
    · rename_i hj
      right
      refine ⟨(j : Int), mem_bitL.2 ⟨j - at_ - 1, by omega, h4, by omega⟩, by omega, by omega, ?_⟩
      rw [marks_at]
      show (A (j : Int) || _) = false
      rw [h5, decide_eq_false (fun h => by have := (mem_places.1 h.2.2).2; omega)]; rfl
    · rw [decide_eq_true_eq] at h4
      left
      exact ⟨(j : Int), mem_places.2 ⟨by omega, by omega⟩, by omega, by omega, h5⟩
  · rintro (⟨i, h2, h3, h4, h5⟩ | ⟨i, h2, h3, h4, h5⟩)
    · obtain ⟨j, rfl⟩ : ∃ j : Nat, i = j := ⟨i.toNat, by omega⟩
      have := (mem_places.1 h2).2
      refine ⟨j, by omega, by omega, ?_, by rw [hE j (by omega)]; exact h5⟩
      unfold setF
      rw [if_neg (by omega), decide_eq_true_eq]; omega
    · obtain ⟨q, hq, hb, rfl⟩ := mem_bitL.1 h2
      rw [marks_at, Bool.or_eq_false_iff] at h5
      refine ⟨at_ + 1 + q, by omega, by omega, ?_, ?_⟩
      · unfold setF
        rw [if_pos (by omega), show at_ + 1 + q - at_ - 1 = q by omega]; exact hb
      · rw [hE _ (by omega), show ((at_ + 1 + q : Nat) : Int) = (at_ : Int) + 1 + q by omega]; exact h5.1
theorem numbers_spec {l w want : Value} {sz : Int} {c : Nat} {D E : Nat → Bool} {X : List Int} (hl : Sl H l 1 (numsL first X)) (hw : RefS H w first sz c D E) (hwant : Sl H want 1 (intsV X)) (hX : X.length ≤ 2000)
    (h : ∀ H', Ext H H' → R (.bool true) H') : CallsH Try.prog 31 #[l, w, want] H R := by
  obtain ⟨sv, av, rfl, hs, ha⟩ := hw.ex
  refine lighterlaw24_numbers.vc _ _ _ _ _ ?_
  unfold lighterlaw24_numbers.res
  refine (Owns.start (H := H)).box fun m4 H1 o _ => ?_
  change Owns H H1 [.box m4 [.int .u32 first, .int .i64 sz, sv, av] _] at o
  have hnl : (numsL first X).length = X.length * 1 := by simp [numsL]
  refine hl.len hnl (by decide) ?_
  refine hwant.len (n := X.length) (by simp [intsV_len]) (by decide) ?_
  rw [pNe_0, decide_eq_false (by simp), pCond_false]
  refine ⟨fun i H' => ∃ j : Nat, i = .int .i64 j ∧ j ≤ X.length ∧ Owns H H' [.box m4 [.int .u32 first, .int .i64 sz, sv, av] 67 ], fun i _ => match i with | .int _ x => (5000 - x).toNat | _ => 0, ⟨0, rfl, by omega, o⟩, ?_⟩
  rintro _ _ H2 ⟨j, rfl, hj, o⟩
  refine hl.len hnl (by decide) ?_
  rw [pLt_v]
  refine pCond_if (fun hc => ?_) (fun hc => h _ o.ext)
  have hjx : j < X.length := by omega
  refine (hl.ext o.ext).at_ hnl (by decide) (by omega) (by omega) fun p hp => ?_
  refine hp.load (hl.ext o.ext) (w := .int .u32 (numb first X[j])) (by rw [Int.toNat_natCast, Nat.mul_one]; simp [numsL, hjx]) ?_
  refine o.bloadN (by repeat (first | exact List.mem_cons_self | apply List.mem_cons_of_mem)) rfl ?_
  refine (hwant.ext o.ext).at_ (n := X.length) (by simp [intsV_len]) (by decide) (by omega) (by omega) fun q hq => ?_
  refine hq.load (hwant.ext o.ext) (w := .int .i64 X[j]) (by rw [Int.toNat_natCast, Nat.mul_one]; simp [intsV, hjx]) ?_
  refine r24Number (hw.ext o.ext) fun H3 x3 => ?_
  have o := o.more x3
  refine ⟨hp.load (hl.ext o.ext) (w := .int .u32 (numb first X[j])) (by rw [Int.toNat_natCast, Nat.mul_one]; simp [numsL, hjx]) rfl, ?_⟩
  rw [pNe_0, decide_eq_false (by simp), pCond_false, pAdd_v, w64 (n := (j : Int) + 1) (by omega) (by omega)]
  exact ⟨⟨j + 1, rfl, by omega, o⟩, by show (_ : Int).toNat < (_ : Int).toNat; omega⟩
theorem actS {r : List Value} (hl : r.length = 5) (hf : FitAll [.int .i64, .int .i64, .bool, .int .u32, .int .u32] fun j => r[j]?) :
    ∃ (w n : Int) (raw : Bool) (m t : Int), r = [.int .i64 w, .int .i64 n, .bool raw, .int .u32 m, .int .u32 t] ∧ (Lit.int .u32 m).wf = true ∧ (Lit.int .u32 t).wf = true := by
  match r, hl with
  | [a, b, c, d, e], _ =>
    obtain ⟨_, h0, x0, rfl, k0⟩ := hf 0 _ rfl
    obtain ⟨_, h1, x1, rfl, k1⟩ := hf 1 _ rfl
    obtain ⟨_, h2, x2, rfl⟩ := hf 2 _ rfl
    obtain ⟨_, h3, x3, rfl, k3⟩ := hf 3 _ rfl
    obtain ⟨_, h4, x4, rfl, k4⟩ := hf 4 _ rfl
    simp at h0 h1 h2 h3 h4
    exact ⟨x0, x1, x2, x3, x4, by simp [*], k3, k4⟩
/-- all that is own in the loop -/
abbrev allS (m b r : Nat) (first : Int) (s c : Nat) (sv av : Value) (base next : Nat) (A : Int → Bool) : List It :=
  [.box m [.int .u32 first, .int .i64 s, sv, av] 67, .sl sv 1 (boolsV (fun i => decide (i < next)) c), .sl av 1 (boolsV (fun i => decide (i < base) || A i) c), .thing (sndT b r first c s base next A)]
set_option maxHeartbeats 4000000 in
theorem SendPlays_law (first : Int) (l : List Value) (a : Option Addr) (len cap : Nat) (w0 : (Lit.int .u32 first).wf = true) (n1 : l.length = 2) (w1 : FitAll (List.replicate 2 (.int .i64)) fun j => l[j]?) (w2 : StructRow [.int .i64, .int .i64, .bool, .int .u32, .int .u32] H a len cap) :
    CallsH Try.prog 8 #[.int .u32 first, .agg l.toArray, .slice a len cap] H (LawOk H) := by
  have hf := wfu32 w0
  have hmax : maxLen = 9223372036854775807 := rfl
  obtain ⟨p, q, rfl⟩ := fit2 n1 w1
  obtain ⟨L, hLl, hlm, hL1, hL2, hS⟩ := w2.rows (by decide)
  have hSl : L.flatten.length = len * 5 := by rw [flat_len L hL1, hLl]; rfl
  refine lighterlaw24_SendPlays.vc _ _ _ _ _ ?_
  unfold lighterlaw24_SendPlays.res
  refine (Owns.start (H := H)).box fun pb H1 o _ => ?_
  change Owns H H1 [.box pb [.int .i64 p, .int .i64 q] _] at o
  refine speaks24_spec fun H2 x2 => ?_
  have o := o.more x2
  rw [pNot_v, Bool.not_true, pCond_false, pIdxArr_v]
  refine ⟨by decide, by decide, ?_⟩
  refine o.bload (by repeat (first | exact List.mem_cons_self | apply List.mem_cons_of_mem)) rfl ?_
  rw [pBits_v, and_low (k := 6) (m := 63) (n := p) (by decide) rfl, pIdxArr_v]
  refine ⟨by decide, by decide, ?_⟩
  rw [add_mk]
  refine o.bload (by repeat (first | exact List.mem_cons_self | apply List.mem_cons_of_mem)) rfl ?_
  rw [pBits_v, and_low (k := 5) (m := 31) (n := q) (by decide) rfl, pAdd_v]
  have hp0 := Int.emod_nonneg p (show (2 : Int) ^ 6 ≠ 0 by decide)
  have hp1 := Int.emod_lt_of_pos p (show (0 : Int) < 2 ^ 6 by decide)
  have hq0 := Int.emod_nonneg q (show (2 : Int) ^ 5 ≠ 0 by decide)
  have hq1 := Int.emod_lt_of_pos q (show (0 : Int) < 2 ^ 5 by decide)
  obtain ⟨c, hc⟩ : ∃ c : Nat, p % 2 ^ 6 = c := ⟨(p % 2 ^ 6).toNat, by omega⟩
  obtain ⟨s, hs⟩ : ∃ s : Nat, 1 + q % 2 ^ 5 = s := ⟨(1 + q % 2 ^ 5).toNat, by omega⟩
  rw [w64 (n := 1 + q % 2 ^ 5) (by omega) (by omega), hc, hs]
  have hc63 : c ≤ 63 := by omega
  have hs1 : 1 ≤ s := by omega
  have hs32 : s ≤ 32 := by omega
  clear hp0 hp1 hq0 hq1
  refine sNew_spec hf.1 hf.2 ⟨by omega, by omega, by omega, by omega⟩ fun H3 b r wn3 e3 hb hr => ?_
  have o := o.add (i := .thing (sndT b r first c s 0 0 fun _ => false)) e3 wn3 (fun k hk => by rcases hk with rfl | rfl <;> assumption)
  refine pExtract_to rfl ?_
  refine pExtract_to rfl ?_
  rw [pNe_0, decide_eq_false (by simp), pCond_false]
  refine ⟨fun v H' => ∃ (m : Nat) (sv av : Value), v = sptr m ∧ Owns H H' [.box m [.int .u32 first, .int .i64 s, sv, av] 67, .sl sv 1 (boolsV (fun _ => false) c), .sl av 1 (boolsV (fun _ => false) c), .thing (sndT b r first c s 0 0 fun _ => false)], ?_, ?_⟩
  rotate_left
  · have hoo := o
    repeat' (first
      | (with_reducible apply And.intro)
      | (with_reducible refine o.make1 (by omega) (by omega) (by omega) fun x H' o => ?_; rw [Int.toNat_natCast, boolsV_false] at o)
      | (with_reducible refine pBuild_four rfl rfl (o.sl (by repeat (first | exact List.mem_cons_self | apply List.mem_cons_of_mem))).one (o.sl (by repeat (first | exact List.mem_cons_self | apply List.mem_cons_of_mem))).one ?_)
      | (with_reducible refine o.box fun m H' o _ => ?_)
      | (with_reducible refine o.bstoreN (vs := [_, _, _, _]) (by repeat (first | exact List.mem_cons_self | apply List.mem_cons_of_mem)) rfl rfl (all_cons rfl (all_cons rfl (all_cons (o.sl (by repeat (first | exact List.mem_cons_self | apply List.mem_cons_of_mem))).one (all_cons (o.sl (by repeat (first | exact List.mem_cons_self | apply List.mem_cons_of_mem))).one rfl)))) (by repeat (first | exact Rep.here | apply Rep.there)) fun H' o hs => ?_)
      | exact ⟨_, _, _, rfl, o.arr (by repeat (first | exact Sels.nil | exact Sel.here | apply Sels.cons | apply Sel.there))⟩)
  rintro _ _ H4 ⟨m, sv, av, rfl, o⟩
  refine ⟨fun i H' => ∃ (k base next : Nat) (sv av : Value) (A : Int → Bool), i = .int .i64 k ∧ Owns H H' (allS m b r first s c sv av base next A) ∧ (∀ k, A k = true → base < k ∧ k < next), fun i _ => match i with | .int _ x => (100 - x).toNat | _ => 0, ⟨0, 0, 0, sv, av, fun _ => false, rfl, ?_, by simp⟩, ?_⟩
  · unfold allS
    rw [boolsV_congr (D := fun i => decide (i < 0)) (E := fun _ => false) (fun i _ => by simp), boolsV_congr (D := fun i => decide (i < 0) || false) (E := fun _ => false) (fun i _ => by simp)]
    exact o
  rintro _ _ H5 ⟨k, base, next, sv, av, A, rfl, o, told⟩
  have hrow := hS.ext o.ext
  rw [pLen_v, pLt_v]
  by_cases hkl : (k : Int) < (len : Int)
  rotate_left
  · rw [decide_eq_false hkl, pAnd_false]
    intro _
    rw [pCond_false]
    exact ⟨rfl, o.ext⟩
  rw [decide_eq_true hkl]
  refine pAnd_true ?_
  rw [pLt_v]
  intro _
  refine pCond_if (fun hc60 => ?_) (fun hc60 => ⟨rfl, o.ext⟩)
  have hil : k < L.length := by omega
  have hrm := List.getElem_mem hil
  obtain ⟨what, near, raw, num, bits, hr', hnum, hbits⟩ := actS (hL1 _ hrm) (hL2 _ hrm)
  have hbits := wfu32 hbits
  have hat := flat_at L k L[k] hL1 (List.getElem?_eq_getElem hil)
  rw [hr'] at hat
  refine hrow.at_ (n := len) hSl (by decide) (by omega) (by omega) fun ad had => ?_
  refine had.loadN hrow (ws := [.int .i64 what, .int .i64 near, .bool raw, .int .u32 num, .int .u32 bits]) (by rw [Int.toNat_natCast]; exact hat) rfl ?_
  refine o.box fun cb H6 o _ => ?_
  change Owns H H6 [.box cb [.int .i64 0, .int .i64 0, .bool false, .int .u32 0, .int .u32 0] _, _, _, _, _] at o
  refine o.bstoreN (vs := [_, _, _, _, _]) (by repeat (first | exact List.mem_cons_self | apply List.mem_cons_of_mem)) rfl rfl rfl (by repeat (first | exact Rep.here | apply Rep.there)) fun H7 o _ => ?_
  refine o.bloadN (by repeat (first | exact List.mem_cons_self | apply List.mem_cons_of_mem)) rfl ?_
  rw [pFieldAddr_v, add_mk]
  refine o.bload (by repeat (first | exact List.mem_cons_self | apply List.mem_cons_of_mem)) rfl ?_
  rw [pBits_v]
  have wn : Snd H7 b r first c s base next A := o.thing (T := sndT b r first c s base next A) (by repeat (first | exact List.mem_cons_self | apply List.mem_cons_of_mem))
  have hbn : base ≤ next := by have := wn.b1; omega
  have hnc : next ≤ c := by have := wn.n1; omega
  have hE1 : ∀ i, i < base → (decide (i < base) || A i) = true := fun i hi => by rw [decide_eq_true hi]; rfl
  have hA0 : A (base : Int) = false := by
    cases hA : A (base : Int) with
    | false => rfl
    | true => have := told _ hA; omega
  have hE2 : base < c → (decide (base < base) || A base) = false := fun _ => by rw [decide_eq_false (by omega), hA0]; rfl
  refine r24Base ⟨sv, av, rfl, o.sl (by repeat (first | exact List.mem_cons_self | apply List.mem_cons_of_mem)), o.sl (by repeat (first | exact List.mem_cons_self | apply List.mem_cons_of_mem))⟩ (by omega) (by omega) hE1 hE2 fun H8 x8 => ?_
  have o := o.more x8
  refine ⟨o.bload (by repeat (first | exact List.mem_cons_self | apply List.mem_cons_of_mem)) rfl rfl, ?_⟩
  rw [pAdd_v, pSub_v, pConv_v, pAdd_v]
  refine ⟨fun v H' => ∃ n : Int, v = .int .u32 n ∧ 0 ≤ n ∧ n ≤ 4294967295 ∧ H8 = H', ?_, ?_⟩
  rotate_left
  · rw [pFieldAddr_v, add_mk]
    refine o.bload (by repeat (first | exact List.mem_cons_self | apply List.mem_cons_of_mem)) rfl ?_
    cases raw with
    | true =>
      rw [pCond_true, pFieldAddr_v, add_mk]
      refine o.bload (by repeat (first | exact List.mem_cons_self | apply List.mem_cons_of_mem)) rfl ?_
      have := wfu32 hnum
      exact ⟨num, rfl, this.1, this.2, rfl⟩
    | false =>
      rw [pCond_false]
      exact ⟨_, rfl, (wu32_range _).1, (wu32_range _).2, rfl⟩
  rintro _ _ _ ⟨upto, rfl, hu0, hu1, rfl⟩
  refine ⟨fun H' => ∃ (base next : Nat) (sv av : Value) (A : Int → Bool), Owns H H' (allS m b r first s c sv av base next A) ∧ (∀ k, A k = true → base < k ∧ k < next), ?_, ?_⟩
  · -- the answers are the same
    rintro _ H9 ⟨base, next, sv, av, A, o, told⟩
    have wn : Snd H9 b r first c s base next A := o.thing (T := sndT b r first c s base next A) (by repeat (first | exact List.mem_cons_self | apply List.mem_cons_of_mem))
    have hbn : base ≤ next := by have := wn.b1; omega
    have hnc : next ≤ c := by have := wn.n1; omega
    have hE1 : ∀ i, i < base → (decide (i < base) || A i) = true := fun i hi => by rw [decide_eq_true hi]; rfl
    have hA0 : A (base : Int) = false := by
      cases hA : A (base : Int) with
      | false => rfl
      | true => have := told _ hA; omega
    have hE2 : base < c → (decide (base < base) || A base) = false := fun _ => by rw [decide_eq_false (by omega), hA0]; rfl
    have o := o.add (i := .sl (.slice none 0 0) 1 []) (Ext.refl _) ⟨by decide, .inl ⟨rfl, rfl⟩⟩ (fun k hk => by simp [It.foot, blkOf] at hk)
    refine ⟨fun out i H' => ∃ j : Nat, i = .int .i64 j ∧ j ≤ c ∧ Owns H H' (.sl out 1 (intsV (openP A base (max base (min j next) : Nat))) :: allS m b r first s c sv av base next A), fun _ i _ => match i with | .int _ x => (100 - x).toNat | _ => 0, ⟨0, rfl, by omega, ?_⟩, ?_⟩
    · rw [show max base (min 0 next) = base by omega, openP, places_none (Int.le_refl _)]
      exact o
    rintro _ out _ H10 ⟨j, rfl, hj, o⟩
    rw [pLt_v]
    refine pCond_if (fun hjc => ?_) (fun hjc => ?_)
    · refine ⟨fun out H' => Owns H H' (.sl out 1 (intsV (openP A base (max base (min (j + 1) next) : Nat))) :: allS m b r first s c sv av base next A), ?_, ?_⟩
      · intro _ out H11 o
        rw [pAdd_v, w64 (n := (j : Int) + 1) (by omega) (by omega)]
        exact ⟨⟨j + 1, rfl, by omega, o⟩, by show (_ : Int).toNat < (_ : Int).toNat; omega⟩
      rw [pFieldAddr_v, add_mk]
      refine o.bload (by repeat (first | exact List.mem_cons_self | apply List.mem_cons_of_mem)) rfl ?_
      refine (o.sl (v := sv) (by repeat (first | exact List.mem_cons_self | apply List.mem_cons_of_mem))).at_ (n := c) (by simp [boolsV_len]) (by decide) (by omega) (by omega) fun ad had => ?_
      refine had.load (o.sl (v := sv) (by repeat (first | exact List.mem_cons_self | apply List.mem_cons_of_mem))) (w := .bool (decide (j < next))) (by rw [Int.toNat_natCast, Nat.mul_one, boolsV_at (by omega)]) ?_
      by_cases hjn : j < next
      rotate_left
      · rw [decide_eq_false hjn, pAnd_false]
        intro _
        rw [pCond_false, show max base (min (j + 1) next) = max base (min j next) by omega]
        exact o
      rw [decide_eq_true hjn]
      refine pAnd_true ?_
      rw [pFieldAddr_v, add_mk]
      refine o.bload (by repeat (first | exact List.mem_cons_self | apply List.mem_cons_of_mem)) rfl ?_
      refine (o.sl (v := av) (by repeat (first | exact List.mem_cons_self | apply List.mem_cons_of_mem))).at_ (n := c) (by simp [boolsV_len]) (by decide) (by omega) (by omega) fun ad had => ?_
      refine had.load (o.sl (v := av) (by repeat (first | exact List.mem_cons_self | apply List.mem_cons_of_mem))) (w := .bool (decide (j < base) || A j)) (by rw [Int.toNat_natCast, Nat.mul_one, boolsV_at (by omega)]) ?_
      rw [pNot_v]
      intro _
      by_cases hjb : j < base
      · rw [decide_eq_true hjb, Bool.true_or, Bool.not_true, pCond_false, show max base (min (j + 1) next) = max base (min j next) by omega]
        exact o
      have hsucc := openP_succ (A := A) (lo := base) (hi := j) (by omega)
      rw [show max base (min j next) = j by omega] at o
      rw [show max base (min (j + 1) next) = j + 1 by omega, Int.natCast_succ, hsucc]
      rw [decide_eq_false hjb, Bool.false_or]
      have hol := openP_len A base j
      cases hAj : A (j : Int) with
      | true =>
        rw [Bool.not_true, pCond_false, cond_true, List.append_nil]
        exact o
      | false =>
        rw [Bool.not_false, pCond_true, cond_false]
        refine o.build1 (by decide) rfl rfl fun z H11 o => ?_
        refine o.app (by repeat (first | exact Sel.here | apply Sel.there)) (o.sl (v := z) (by repeat (first | exact List.mem_cons_self | apply List.mem_cons_of_mem))) rfl (by rw [intsV_len]; simp [cells_int]; omega) fun out' H12 o => ?_
        have e : intsV (openP A base j) ++ (Value.int .i64 (j : Int)).cells.toList = intsV (openP A base j ++ [(j : Int)]) := by simp [intsV, cells_int]
        rw [e] at o
        exact o.arr (by repeat (first | exact Sels.nil | exact Sel.here | apply Sels.cons | apply Sel.there))
    · have hje : j = c := by omega
      subst hje
      rw [show max base (min j next) = next by omega] at o
      refine o.bloadN (by repeat (first | exact List.mem_cons_self | apply List.mem_cons_of_mem)) rfl ?_
      refine r24Base ⟨sv, av, rfl, o.sl (by repeat (first | exact List.mem_cons_self | apply List.mem_cons_of_mem)), o.sl (by repeat (first | exact List.mem_cons_self | apply List.mem_cons_of_mem))⟩ (by omega) (by omega) hE1 hE2 fun H11 x11 => ?_
      have o := o.more x11
      refine o.bloadN (by repeat (first | exact List.mem_cons_self | apply List.mem_cons_of_mem)) rfl ?_
      refine sOpen_spec (o.thing (T := sndT b r first j s base next A) (by repeat (first | exact List.mem_cons_self | apply List.mem_cons_of_mem))) fun H12 v x12 ov fv => ?_
      have o := (o.more x12)
      refine ⟨o.bloadN (by repeat (first | exact List.mem_cons_self | apply List.mem_cons_of_mem)) rfl rfl, ?_⟩
      have hol := openP_len A base next
      refine numbers_spec (ov.sl (by decide)) ⟨sv, av, rfl, o.sl (by repeat (first | exact List.mem_cons_self | apply List.mem_cons_of_mem)), o.sl (by repeat (first | exact List.mem_cons_self | apply List.mem_cons_of_mem))⟩ (o.sl (v := out) (by repeat (first | exact List.mem_cons_self | apply List.mem_cons_of_mem))) (by omega) fun H13 x13 => ?_
      have o := o.more x13
      rw [pNot_v, Bool.not_true]
      refine pOr_false ?_
      rw [pConv_v, pAdd_v]
      refine sBase_spec (o.thing (T := sndT b r first j s base next A) (by repeat (first | exact List.mem_cons_self | apply List.mem_cons_of_mem))) ?_
      rw [pNe_0, decide_eq_false (by unfold numb; simp)]
      refine fun _ => pOr_false ?_
      rw [pEq_0]
      refine sDone_spec (o.thing (T := sndT b r first j s base next A) (by repeat (first | exact List.mem_cons_self | apply List.mem_cons_of_mem))) ?_
      rw [pNe_2, decide_eq_false (by simp)]
      intro _
      rw [pCond_false, pAdd_v, w64 (n := (k : Int) + 1) (by omega) (by omega)]
      exact ⟨⟨k + 1, base, next, sv, av, A, rfl, o.arr (by repeat (first | exact Sels.nil | exact Sel.here | apply Sels.cons | apply Sel.there)), told⟩, by show (_ : Int).toNat < (_ : Int).toNat; omega⟩
  -- the act
  have wn : Snd H8 b r first c s base next A := o.thing (T := sndT b r first c s base next A) (by repeat (first | exact List.mem_cons_self | apply List.mem_cons_of_mem))
  rw [pFieldAddr_v]
  refine o.bload (by repeat (first | exact List.mem_cons_self | apply List.mem_cons_of_mem)) rfl ?_
  rw [pRem_v]
  refine ⟨by decide, ?_⟩
  rw [pAdd_v, pRem_v]
  refine ⟨by decide, ?_⟩
  rw [pEq_0]
  refine pCond_if (fun hw0 => ?_) (fun hw0 => ?_)
  · -- new numbers
    refine o.bloadN (by repeat (first | exact List.mem_cons_self | apply List.mem_cons_of_mem)) rfl ?_
    refine r24Fresh (o.sl (v := sv) (by repeat (first | exact List.mem_cons_self | apply List.mem_cons_of_mem))) (o.sl (v := av) (by repeat (first | exact List.mem_cons_self | apply List.mem_cons_of_mem))) (by omega) hs32 hbn hnc hE1 hE2 rfl fun y v H9 o9 => ?_
    have o := o.call o9
    refine pExtract_to rfl ?_
    refine pExtract_to rfl ?_
    refine o.box fun nb H10 o _ => ?_
    change Owns H H10 (.box nb [.int .u32 0, .int .i64 0, .slice none 0 0, .slice none 0 0] _ :: _) at o
    have oy := (o.sl (v := y) (by repeat (first | exact List.mem_cons_self | apply List.mem_cons_of_mem))).one
    have oa := (o.sl (v := av) (by repeat (first | exact List.mem_cons_self | apply List.mem_cons_of_mem))).one
    refine o.bstoreN (vs := [_, _, _, _]) (by repeat (first | exact List.mem_cons_self | apply List.mem_cons_of_mem)) rfl rfl (all_cons rfl (all_cons rfl (all_cons oy (all_cons oa rfl)))) (by repeat (first | exact Rep.here | apply Rep.there)) fun H11 o _ => ?_
    refine o.bloadN (by repeat (first | exact List.mem_cons_self | apply List.mem_cons_of_mem)) rfl ?_
    refine sFresh_spec (o.thing (T := sndT b r first c s base next A) (by repeat (first | exact List.mem_cons_self | apply List.mem_cons_of_mem))) fun H12 nv wn12 on12 own12 fn12 => ?_
    have ehi : max (next : Int) (min ((base : Int) + s) c) = (max next (min (base + s) c) : Nat) := by omega
    rw [ehi] at wn12 own12
    have o := owns_snd o on12 wn12 (by repeat (first | exact Rep.here | apply Rep.there))
    refine ⟨o.bloadN (by repeat (first | exact List.mem_cons_self | apply List.mem_cons_of_mem)) rfl rfl, ?_⟩
    refine numbers_spec (own12.sl (by decide)) ⟨sv, av, rfl, o.sl (v := sv) (by repeat (first | exact List.mem_cons_self | apply List.mem_cons_of_mem)), o.sl (v := av) (by repeat (first | exact List.mem_cons_self | apply List.mem_cons_of_mem))⟩ (o.sl (v := v) (by repeat (first | exact List.mem_cons_self | apply List.mem_cons_of_mem))) (by rw [places_len]; omega) fun H13 x13 => ?_
    have o := o.more x13
    rw [pNot_v, Bool.not_true, pCond_false]
    refine o.bloadN (by repeat (first | exact List.mem_cons_self | apply List.mem_cons_of_mem)) rfl ?_
    refine o.bstoreN (b := m) (vs := [_, _, _, _]) (by repeat (first | exact List.mem_cons_self | apply List.mem_cons_of_mem)) rfl rfl (all_cons rfl (all_cons rfl (all_cons oy (all_cons oa rfl)))) (by repeat (first | exact Rep.here | apply Rep.there)) fun H14 o _ => ?_
    exact ⟨base, _, y, av, A, o.arr (by repeat (first | exact Sels.nil | exact Sel.here | apply Sels.cons | apply Sel.there)), fun k hk => ⟨(told k hk).1, by have := (told k hk).2; omega⟩⟩
  rw [pEq_0]
  refine pCond_if (fun hw4 => ?_) (fun hw4 => ?_)
  · -- what was told is forgotten
    refine sForget_spec wn fun H9 wn9 on9 => ?_
    have o := owns_snd o on9 wn9 (by repeat (first | exact Rep.here | apply Rep.there))
    refine o.bloadN (by repeat (first | exact List.mem_cons_self | apply List.mem_cons_of_mem)) rfl ?_
    refine r24Forget (o.sl (v := sv) (by repeat (first | exact List.mem_cons_self | apply List.mem_cons_of_mem))) (o.sl (v := av) (by repeat (first | exact List.mem_cons_self | apply List.mem_cons_of_mem))) (by omega) (by omega) hE1 hE2 fun y H10 o10 => ?_
    have o := o.call o10
    have oy := (o.sl (v := y) (by repeat (first | exact List.mem_cons_self | apply List.mem_cons_of_mem))).one
    have os := (o.sl (v := sv) (by repeat (first | exact List.mem_cons_self | apply List.mem_cons_of_mem))).one
    refine o.bstoreN (b := m) (vs := [_, _, _, _]) (by repeat (first | exact List.mem_cons_self | apply List.mem_cons_of_mem)) rfl rfl (all_cons rfl (all_cons rfl (all_cons os (all_cons oy rfl)))) (by repeat (first | exact Rep.here | apply Rep.there)) fun H11 o _ => ?_
    rw [boolsV_congr (D := fun i => decide (i < base)) (E := fun i => decide (i < base) || false) (fun i _ => by simp)] at o
    exact ⟨base, next, sv, y, fun _ => false, o.arr (by repeat (first | exact Sels.nil | exact Sel.here | apply Sels.cons | apply Sel.there)), by simp⟩
  -- an acknowledgement
  refine o.bloadN (by repeat (first | exact List.mem_cons_self | apply List.mem_cons_of_mem)) rfl ?_
  rw [pFieldAddr_v, add_mk]
  refine o.bload (by repeat (first | exact List.mem_cons_self | apply List.mem_cons_of_mem)) rfl ?_
  refine r24Ack (o.sl (v := sv) (by repeat (first | exact List.mem_cons_self | apply List.mem_cons_of_mem))) (o.sl (v := av) (by repeat (first | exact List.mem_cons_self | apply List.mem_cons_of_mem))) (by omega) hbn hnc hE1 hE2 hu0 hu1 hbits.1 hbits.2 (fun hno H9 x9 => ?_) (fun at_ ha0 ha1 hah y H9 o9 => ?_)
  · have o := o.more x9
    refine pExtract_to rfl ?_
    refine pExtract_to rfl ?_
    refine o.box fun nb H10 o _ => ?_
    change Owns H H10 (.box nb [.int .u32 0, .int .i64 0, .slice none 0 0, .slice none 0 0] _ :: _) at o
    have os := (o.sl (v := sv) (by repeat (first | exact List.mem_cons_self | apply List.mem_cons_of_mem))).one
    have oa := (o.sl (v := av) (by repeat (first | exact List.mem_cons_self | apply List.mem_cons_of_mem))).one
    refine o.bstoreN (vs := [_, _, _, _]) (by repeat (first | exact List.mem_cons_self | apply List.mem_cons_of_mem)) rfl rfl (all_cons rfl (all_cons rfl (all_cons os (all_cons oa rfl)))) (by repeat (first | exact Rep.here | apply Rep.there)) fun H11 o _ => ?_
    rw [pFieldAddr_v, add_mk]
    refine o.bload (by repeat (first | exact List.mem_cons_self | apply List.mem_cons_of_mem)) rfl ?_
    refine sAck_no (o.thing (T := sndT b r first c s base next A) (by repeat (first | exact List.mem_cons_self | apply List.mem_cons_of_mem))) (by omega) ?_
    rw [pNe_2, decide_eq_false (by simp), pCond_false]
    refine o.bloadN (by repeat (first | exact List.mem_cons_self | apply List.mem_cons_of_mem)) rfl ?_
    refine o.bstoreN (b := m) (vs := [_, _, _, _]) (by repeat (first | exact List.mem_cons_self | apply List.mem_cons_of_mem)) rfl rfl (all_cons rfl (all_cons rfl (all_cons os (all_cons oa rfl)))) (by repeat (first | exact Rep.here | apply Rep.there)) fun H14 o _ => ?_
    exact ⟨base, next, sv, av, A, o.arr (by repeat (first | exact Sels.nil | exact Sel.here | apply Sels.cons | apply Sel.there)), told⟩
  · have o := o.call o9
    refine pExtract_to rfl ?_
    refine pExtract_to rfl ?_
    refine o.box fun nb H10 o _ => ?_
    change Owns H H10 (.box nb [.int .u32 0, .int .i64 0, .slice none 0 0, .slice none 0 0] _ :: _) at o
    have os := (o.sl (v := sv) (by repeat (first | exact List.mem_cons_self | apply List.mem_cons_of_mem))).one
    have oy := (o.sl (v := y) (by repeat (first | exact List.mem_cons_self | apply List.mem_cons_of_mem))).one
    refine o.bstoreN (vs := [_, _, _, _]) (by repeat (first | exact List.mem_cons_self | apply List.mem_cons_of_mem)) rfl rfl (all_cons rfl (all_cons rfl (all_cons os (all_cons oy rfl)))) (by repeat (first | exact Rep.here | apply Rep.there)) fun H11 o _ => ?_
    rw [pFieldAddr_v, add_mk]
    refine o.bload (by repeat (first | exact List.mem_cons_self | apply List.mem_cons_of_mem)) rfl ?_
    refine sAck_spec hbits.1 hbits.2 (o.thing (T := sndT b r first c s base next A) (by repeat (first | exact List.mem_cons_self | apply List.mem_cons_of_mem))) (by omega) fun H12 wn12 on12 => ?_
    rw [show (base : Int) + ahead first base upto = at_ by omega] at wn12 ⊢
    have o := owns_snd o on12 wn12 (by repeat (first | exact Rep.here | apply Rep.there))
    rw [ack_news (A := A) (fun j hj => by rw [decide_eq_false (by omega)]; rfl) ha0 ha1]
    rw [pNe_2, decide_eq_false (by simp), pCond_false]
    refine o.bloadN (by repeat (first | exact List.mem_cons_self | apply List.mem_cons_of_mem)) rfl ?_
    refine o.bstoreN (b := m) (vs := [_, _, _, _]) (by repeat (first | exact List.mem_cons_self | apply List.mem_cons_of_mem)) rfl rfl (all_cons rfl (all_cons rfl (all_cons os (all_cons oy rfl)))) (by repeat (first | exact Rep.here | apply Rep.there)) fun H14 o _ => ?_
    rw [boolsV_congr (D := fun j => bif decide (j = at_) then false else ((decide (j < base) || A j) || (decide (base ≤ j ∧ j < next) && setF at_ bits j))) (E := fun j => decide (j < at_) || without (ackF bits base next at_ A).1 base (at_ + 1) j) (fun j hj => ?_)] at o
    · refine ⟨at_, next, sv, y, _, o.arr (by repeat (first | exact Sels.nil | exact Sel.here | apply Sels.cons | apply Sel.there)), fun k hk => ?_⟩
      rw [ack_at (by omega) (by omega)] at hk
      simp only [Bool.and_eq_true, Bool.or_eq_true, decide_eq_true_eq, Bool.not_eq_true', decide_eq_false_iff_not] at hk
      obtain ⟨hk | ⟨hk, q, _, _, rfl⟩, hk2⟩ := hk
      · have := told k hk; omega
      · omega
    · rw [ack_at (by omega) (by omega)]
      by_cases hja : j = at_
      · subst hja
        rw [decide_eq_true rfl, decide_eq_false (p := j < j) (by omega), decide_eq_true (p := (base : Int) ≤ j ∧ (j : Int) < (j : Int) + 1) (by omega)]; simp
      · rw [decide_eq_false hja, cond_false]
        by_cases hjl : j < at_
        · rw [decide_eq_true hjl, Bool.true_or]
          by_cases hjb : j < base
          · rw [decide_eq_true hjb]; simp
          · rw [decide_eq_true (p := base ≤ j ∧ j < next) (by omega)]
            unfold setF
            rw [if_neg (by omega), decide_eq_true hjl]; simp
        · rw [decide_eq_false hjl, decide_eq_false (p := j < base) (by omega), Bool.false_or, Bool.false_or, decide_eq_false (p := (base : Int) ≤ j ∧ (j : Int) < (at_ : Int) + 1) (by omega), Bool.not_false, Bool.and_true]
          congr 1
          rw [Bool.eq_iff_iff, Bool.and_eq_true, decide_eq_true_eq, decide_eq_true_eq]
          unfold setF
          constructor
          · rintro ⟨⟨h1, h2⟩, h3⟩
            split at h3
            · exact ⟨by omega, j - at_ - 1, by omega, h3, by omega⟩
            · rw [decide_eq_true_eq] at h3; omega
          · rintro ⟨h1, q, h2, h3, h4⟩
            have : j = at_ + 1 + q := by omega
            subst this
            rw [if_pos (by omega), show at_ + 1 + q - at_ - 1 = q by omega]
            exact ⟨by omega, h3⟩
end Go.Proofs.Ytmolkhfohpfhaaa
