/- The law LinkPlays over heaps. -/
import Derived.Test.YtelldphojhmhfaaLaw26b
import Derived.Test.YtelldphojhmhfaaRef26
namespace Go.Proofs.Ytelldphojhmhfaa
open Go Go.Vc Go.Proofs
set_option linter.unusedVariables false
set_option linter.unusedSimpArgs false
variable {H : Heap} {R : Value → Heap → Prop} {b c0 c1 m : Nat} {Q : Int → Texts} {w : Int}
/-- a slice that is only read, as an own thing -/
def slT (v : Value) (l : List Value) : Thing where
  foot k := blkOf v = some k
  holds H := Sl H v 1 l ∧ ∀ k, blkOf v = some k → k < H.size
  frame := by
    rintro H H' ⟨h1, h2⟩ hf
    refine ⟨h1.frame hf, fun k hk => ?_⟩
    have := hf k hk
    rw [Array.getElem?_eq_getElem (h2 k hk)] at this
    exact (Array.getElem?_eq_some_iff.1 this).1
  lt h hk := h.2 _ hk
theorem own_slT {H0 : Heap} {L L' : List It} {v : Value} {l : List Value} (o : Owns H0 H L) (hin : It.sl v 1 l ∈ L) (hr : Rep (.sl v 1 l) (.thing (slT v l)) L L') : Owns H0 H L' :=
  o.turn hr (Nat.le_refl _) (fun _ _ _ => rfl) ⟨o.sl hin, fun k hk => It.lt (o.ok _ hin) hk⟩ (fun k hk => .inl hk)
theorem sl_at {H0 : Heap} {L : List It} {v : Value} {l : List Value} (o : Owns H0 H L) (h : It.thing (slT v l) ∈ L) : Sl H v 1 l := (o.thing h).1
/-- a part of it -/
theorem sl_part {H0 : Heap} {L L' : List It} {v v' : Value} {l l' : List Value} (o : Owns H0 H L) (hin : It.thing (slT v l) ∈ L) (hs : Sl H v' 1 l') (hb : ∀ k, blkOf v' = some k → blkOf v = some k) (hr : Rep (.thing (slT v l)) (.thing (slT v' l')) L L') : Owns H0 H L' :=
  o.turn hr (Nat.le_refl _) (fun _ _ _ => rfl) ⟨hs, fun k hk => It.lt (o.ok _ hin) (hb k hk)⟩ (fun k hk => .inl (hb k hk))
theorem sl_tail {v : Value} {l : List Value} {K : Value → Prop} (h : Sl H v 1 l) (hl : 1 ≤ l.length) (hk : ∀ v', Sl H v' 1 (l.drop 1) → (∀ k, blkOf v' = some k → blkOf v = some k) → K v') : pSlSl 1 v (some (.int .i64 1)) none K := by
  rcases h with ⟨rfl, rfl⟩ | ⟨a, n, cap, rfl, hn, hcap, hr⟩
  · simp at hl
  · rw [pSlSl_v, pBounds_10]
    refine ⟨by omega, by omega, ?_⟩
    refine hk _ (.inr ⟨if cap = 1 then a else a.add (1 * 1), n - 1, cap - 1, ?_, by rw [List.length_drop]; omega, by omega, ?_⟩) (fun k hk => ?_)
    · show Value.slice (if cap = 1 then some a else (some a).map fun x => x.add (1 * 1)) (n - 1) (cap - 1) = _
      split <;> rfl
    · split
      · have : l.drop 1 = [] := List.drop_eq_nil_of_le (by omega)
        rw [this]
        intro i x hx; simp at hx
      · have := hr.part 1 l.length
        rw [List.take_of_length_le (by rw [List.length_drop]; omega)] at this
        exact this
    · have e : blkOf (Value.slice (if cap = (1 : Int).toNat then some a else (some a).map fun x => x.add ((1 : Int).toNat * 1)) (n - (1 : Int).toNat) (cap - (1 : Int).toNat)) = some a.block := by
        split
        · rfl
        · show some (a.add 1).block = some a.block
          unfold Addr.add; rfl
      exact e.symm.trans hk
theorem idx_m {K : Value → Prop} (hw : w = 0 ∨ w = 1) (h : K (.pointer (some ⟨m, w.toNat, none⟩))) : pIdxArr 2 1 (.pointer (some ⟨m, 0, none⟩)) (.int .i64 w) K := by
  rcases hw with rfl | rfl
  · exact ⟨by decide, by decide, h⟩
  · exact ⟨by decide, by decide, h⟩
theorem two_get {va : Int → Value} (hw : w = 0 ∨ w = 1) : [va 0, va 1][w.toNat]? = some (va w) := by
  rcases hw with rfl | rfl <;> rfl
def updV (va : Int → Value) (w : Int) (v : Value) : Int → Value := fun i => if i = w then v else va i
theorem two_set {va : Int → Value} {v : Value} (hw : w = 0 ∨ w = 1) : [va 0, va 1].set w.toNat v = [updV va w v 0, updV va w v 1] := by
  rcases hw with rfl | rfl <;> simp [updV]
/-- all that is own between the acts -/
abbrev stP (m b c0 c1 : Nat) (va : Int → Value) (Q : Int → Texts) : List It :=
  [.box m [va 0, va 1] 36 , .thing (slT (va 0) (txtsV (Q 0))), .thing (slT (va 1) (txtsV (Q 1))), .thing (lkT b c0 c1 Q)]
/-- the same, from a way -/
abbrev stW (m b c0 c1 : Nat) (va : Int → Value) (Q : Int → Texts) (w : Int) : List It :=
  [.box m [va 0, va 1] 36 , .thing (slT (va w) (txtsV (Q w))), .thing (slT (va (1 - w)) (txtsV (Q (1 - w)))), .thing (lkT b c0 c1 Q)]
theorem st_way {H0 : Heap} {va : Int → Value} {t : TypeId} {cs : List Value} {a : Nat} (hw : w = 0 ∨ w = 1) (o : Owns H0 H (.box a cs t :: stP m b c0 c1 va Q)) : Owns H0 H (.box a cs t :: stW m b c0 c1 va Q w) := by
  rcases hw with rfl | rfl
  · exact o.arr (by repeat (first | exact Sels.nil | exact Sel.here | apply Sels.cons | apply Sel.there))
  · exact o.arr (by repeat (first | exact Sels.nil | exact Sel.here | apply Sels.cons | apply Sel.there))
theorem st_back {H0 : Heap} {va : Int → Value} {v : Value} {q : Texts} (hw : w = 0 ∨ w = 1) (o : Owns H0 H [.box m [updV va w v 0, updV va w v 1] 36 , .thing (slT v (txtsV q)), .thing (slT (va (1 - w)) (txtsV (Q (1 - w)))), .thing (lkT b c0 c1 (updQ Q w q))]) :
    Owns H0 H (stP m b c0 c1 (updV va w v) (updQ Q w q)) := by
  rcases hw with rfl | rfl
  · exact o.arr (by repeat (first | exact Sels.nil | exact Sel.here | apply Sels.cons | apply Sel.there))
  · exact o.arr (by repeat (first | exact Sels.nil | exact Sel.here | apply Sels.cons | apply Sel.there))
theorem actL {r : List Value} (hl : r.length = 5) (hf : FitAll [.int .i64, .int .i64, .string, .int .i64, .int .u32] fun j => r[j]?) :
    ∃ (x w : Int) (t : List UInt8) (at_ bits : Int), r = [.int .i64 x, .int .i64 w, str t, .int .i64 at_, .int .u32 bits] ∧ t.length ≤ maxLen ∧ (Lit.int .i64 at_).wf = true ∧ (Lit.int .u32 bits).wf = true := by
  match r, hl with
  | [a, b, c, d, e], _ =>
    obtain ⟨_, h0, x0, rfl, k0⟩ := hf 0 _ rfl
    obtain ⟨_, h1, x1, rfl, k1⟩ := hf 1 _ rfl
    obtain ⟨_, h2, x2, rfl, k2⟩ := hf 2 _ rfl
    obtain ⟨_, h3, x3, rfl, k3⟩ := hf 3 _ rfl
    obtain ⟨_, h4, x4, rfl, k4⟩ := hf 4 _ rfl
    simp at h0 h1 h2 h3 h4
    exact ⟨x0, x1, x2, x3, x4, by simp [*], k2, k3, k4⟩
/-- texts that are short -/
def Small (q : Texts) : Prop := ∀ t ∈ q, t.length ≤ 20
/-- the texts as they were, and what is left of them -/
abbrev stE (m b c0 c1 : Nat) (va : Int → Value) (Q Q' : Int → Texts) : List It :=
  [.box m [va 0, va 1] 36 , .thing (slT (va 0) (txtsV (Q 0))), .thing (slT (va 1) (txtsV (Q 1))), .thing (lkT b c0 c1 Q')]
def empt (Q : Int → Texts) (n : Nat) : Int → Texts := fun i => if 0 ≤ i ∧ i < (n : Int) then [] else Q i
theorem sl_w {H0 : Heap} {va : Int → Value} {Q' : Int → Texts} (hw : w = 0 ∨ w = 1) (o : Owns H0 H (stE m b c0 c1 va Q Q')) : Sl H (va w) 1 (txtsV (Q w)) := by
  rcases hw with rfl | rfl
  · exact sl_at o (by repeat (first | exact List.mem_cons_self | apply List.mem_cons_of_mem))
  · exact sl_at o (by repeat (first | exact List.mem_cons_self | apply List.mem_cons_of_mem))
theorem two_zero : (fun _ => []) = two 0 (List.replicate 0 ([102] : List UInt8)) [] := by funext i; unfold two; split <;> rfl
theorem small_upd {q : Texts} (h : ∀ i, Small (Q i)) (hq : Small q) : ∀ i, Small (updQ Q w q i) := fun i => by unfold updQ; split; exact hq; exact h i
set_option maxHeartbeats 4000000 in
theorem LinkPlays_law (fill : Int) (a : Option Addr) (len cap : Nat) (w0 : (Lit.int .i64 fill).wf = true) (w1 : StructRow [.int .i64, .int .i64, .string, .int .i64, .int .u32] H a len cap) :
    CallsH Try.prog 5 #[.int .i64 fill, .slice a len cap] H (LawOk H) := by
  have hmax : maxLen = 9223372036854775807 := rfl
  obtain ⟨L, hLl, hlm, hL1, hL2, hS⟩ := w1.rows (by decide)
  have hSl : L.flatten.length = len * 5 := by rw [flat_len L hL1, hLl]; rfl
  refine lighterlaw26_LinkPlays.vc _ _ _ _ ?_
  unfold lighterlaw26_LinkPlays.res
  refine speaks26_spec fun H1 x1 => ?_
  have o := (Owns.start (H := H)).more x1
  rw [pNot_v, Bool.not_true, pCond_false]
  refine link_new fun H2 b c0 c1 o2 => ?_
  have o := o.call o2
  refine o.box fun m H3 o _ => ?_
  have o : Owns H H3 [.box m [.slice none 0 0, .slice none 0 0] 36 , .thing (lkT b c0 c1 (two 0 (List.replicate 0 [102]) []))] := by rw [← two_zero]; exact o
  have o := o.add (i := .sl (.slice none 0 0) 1 (txtsV (List.replicate 0 [102]))) (Ext.refl _) ⟨by decide, .inl ⟨rfl, rfl⟩⟩ (fun k hk => by simp [It.foot, blkOf] at hk)
  -- it is filled
  refine ⟨fun i H' => ∃ (k : Nat) (v : Value), i = .int .i64 k ∧ k ≤ 63 ∧ Owns H H' [.sl v 1 (txtsV (List.replicate k [102])), .box m [v, .slice none 0 0] 36 , .thing (lkT b c0 c1 (two 0 (List.replicate k [102]) []))], fun i _ => match i with | .int _ x => (100 - x).toNat | _ => 0, ⟨0, _, rfl, by omega, o⟩, ?_⟩
  rintro _ _ H4 ⟨k, v0, rfl, hk, o⟩
  rw [pBits_v, and_low (k := 6) (m := 63) (n := fill) (by decide) rfl]
  have hf0 := Int.emod_lt_of_pos fill (show (0 : Int) < 2 ^ 6 by decide)
  have hf1 := Int.emod_nonneg fill (show (2 : Int) ^ 6 ≠ 0 by decide)
  generalize fill % 2 ^ 6 = ff at *
  rw [pLt_v]
  refine pCond_if (fun hc => ?_) (fun hc => ?_)
  · refine put_spec (lk_at o (by repeat (first | exact List.mem_cons_self | apply List.mem_cons_of_mem))) (.inl rfl) (fun h => by rw [two_self, List.length_replicate] at h; omega) fun _ H5 l5 on5 => ?_
    have o := owns_lk o on5 l5 (by repeat (first | exact Rep.here | apply Rep.there))
    rw [two_self, upd_two, ← List.replicate_succ'] at o
    refine idx_m (.inl rfl) ?_
    refine o.bload (by repeat (first | exact List.mem_cons_self | apply List.mem_cons_of_mem)) rfl ?_
    refine o.build1 (by decide) rfl rfl fun y H6 o => ?_
    refine o.app (by repeat (first | exact Sel.here | apply Sel.there)) (o.sl (v := y) (by repeat (first | exact List.mem_cons_self | apply List.mem_cons_of_mem))) rfl (by rw [txtsV_len, List.length_replicate]; simp [cells_str]; omega) fun v1 H7 o => ?_
    have e : txtsV (List.replicate k [102]) ++ (str [102]).cells.toList = txtsV (List.replicate (k + 1) [102]) := by rw [List.replicate_succ', txtsV_append]; rfl
    rw [e] at o
    refine idx_m (.inl rfl) ?_
    refine o.bstore (by repeat (first | exact List.mem_cons_self | apply List.mem_cons_of_mem)) (by simp) (o.sl (v := v1) (by repeat (first | exact List.mem_cons_self | apply List.mem_cons_of_mem))).one (by repeat (first | exact Rep.here | apply Rep.there)) fun H8 o _ => ?_
    rw [pAdd_v, w64 (n := (k : Int) + 1) (by omega) (by omega)]
    exact ⟨⟨k + 1, v1, rfl, by omega, o.arr (by repeat (first | exact Sels.nil | exact Sel.here | apply Sels.cons | apply Sel.there))⟩, by show (_ : Int).toNat < (_ : Int).toNat; omega⟩
  have o := own_slT o (by repeat (first | exact List.mem_cons_self | apply List.mem_cons_of_mem)) (by repeat (first | exact Rep.here | apply Rep.there))
  have o := o.add (i := .thing (slT (.slice none 0 0) (txtsV []))) (Ext.refl _) ⟨.inl ⟨rfl, rfl⟩, fun k hk => by simp [blkOf] at hk⟩ (fun k hk => by have : blkOf (.slice none 0 0) = some k := hk; simp [blkOf] at this)
  have hsm0 : ∀ i, Small (two 0 (List.replicate k [102]) [] i) := fun i t ht => by
    unfold two at ht
    split at ht
    · rw [(List.mem_replicate.1 ht).2]; decide
    · simp at ht
  have hva : ∀ (va : Int → Value), va 0 = v0 → va 1 = .slice none 0 0 → Owns H H4 (stP m b c0 c1 va (two 0 (List.replicate k [102]) [])) := fun va h0 h1 => by
    unfold stP
    rw [h0, h1]
    exact o.arr (by repeat (first | exact Sels.nil | exact Sel.here | apply Sels.cons | apply Sel.there))
  refine ⟨fun i H' => ∃ (k : Nat) (va : Int → Value) (Q : Int → Texts), i = .int .i64 k ∧ k ≤ 60 ∧ Owns H H' (stP m b c0 c1 va Q) ∧ ∀ i, Small (Q i), fun i _ => match i with | .int _ x => (100 - x).toNat | _ => 0, ⟨0, fun i => if i = 0 then v0 else .slice none 0 0, _, rfl, by omega, hva _ rfl rfl, hsm0⟩, ?_⟩
  rintro _ _ H5 ⟨k, va, Q, rfl, hk60, o, hsm⟩
  have hrow := hS.ext o.ext
  have hQl : ∀ i, (Q i).length ≤ 64 := (lk_at o (by repeat (first | exact List.mem_cons_self | apply List.mem_cons_of_mem))).len
  rw [pLen_v, pLt_v]
  rw [show (fun J_14 : Value → Heap → Prop => pLt (.int .i64 (k : Int)) (.int .i64 60) fun x45 => J_14 x45 H5) = fun J_14 => J_14 (.bool (decide ((k : Int) < 60))) H5 from by funext J; rw [pLt_v], pAnd_pure]
  intro _
  refine pCond_b (fun hc => ?_) (fun hc => ?_)
  rotate_left
  · -- all is taken
    clear hc
    have o : Owns H H5 (stE m b c0 c1 va Q (empt Q 0)) := by
      rw [show empt Q 0 = Q from by funext i; unfold empt; rw [if_neg (by omega)]]; exact o
    refine ⟨fun i H' => ∃ n : Nat, i = .int .i64 n ∧ n ≤ 2 ∧ Owns H H' (stE m b c0 c1 va Q (empt Q n)), fun i _ => match i with | .int _ x => (100 - x).toNat | _ => 0, ⟨0, rfl, by omega, o⟩, ?_⟩
    rintro _ _ H6 ⟨n, rfl, hn, o⟩
    rw [pLt_v]
    refine pCond_if (fun hc => ?_) (fun hc => ?_)
    · have hw : (n : Int) = 0 ∨ (n : Int) = 1 := by omega
      refine ⟨fun i H' => ∃ j : Nat, i = .int .i64 j ∧ j ≤ (Q n).length ∧ Owns H H' (stE m b c0 c1 va Q (updQ (empt Q n) n ((Q n).drop j))), fun i _ => match i with | .int _ x => (((Q n).length : Int) - x).toNat | _ => 0, ⟨0, rfl, by omega, ?_⟩, ?_⟩
      · have e : (Q n).drop 0 = empt Q n n := by unfold empt; rw [List.drop_zero, if_neg (by omega)]
        rw [e, updQ_same]
        exact o
      rintro _ _ H7 ⟨j, rfl, hj, o⟩
      refine idx_m hw ?_
      refine o.bload (by repeat (first | exact List.mem_cons_self | apply List.mem_cons_of_mem)) (two_get hw) ?_
      refine (sl_w hw o).len (n := (Q n).length) (by rw [txtsV_len]; omega) (by decide) ?_
      rw [pLt_v]
      refine pCond_if (fun hjc => ?_) (fun hjc => ?_)
      · have hjl : j < (Q n).length := by omega
        have hd : (Q n).drop j = (Q n)[j] :: (Q n).drop (j + 1) := List.drop_eq_getElem_cons hjl
        refine take_spec (lk_at o (by repeat (first | exact List.mem_cons_self | apply List.mem_cons_of_mem))) hw (fun h => by rw [updQ_self, hd] at h; exact (List.cons_ne_nil _ _ h).elim) fun t q H8 hq l8 on8 => ?_
        have o := owns_lk o on8 l8 (by repeat (first | exact Rep.here | apply Rep.there))
        rw [updQ_self, hd, List.cons.injEq] at hq
        obtain ⟨rfl, rfl⟩ := hq
        rw [updQ_upd] at o
        refine pExtract_to rfl ?_
        refine pExtract_to rfl ?_
        rw [pNot_v, Bool.not_true]
        refine pOr_false ?_
        refine idx_m hw ?_
        refine o.bload (by repeat (first | exact List.mem_cons_self | apply List.mem_cons_of_mem)) (two_get hw) ?_
        refine (sl_w hw o).at_ (n := (Q n).length) (by rw [txtsV_len]; omega) (by decide) (by omega) (by omega) fun p hp => ?_
        refine hp.load (sl_w hw o) (w := str (Q n)[j]) (by rw [Int.toNat_natCast, Nat.mul_one, txtsV_get hjl]) ?_
        refine pNe1_to ?_
        rw [decide_eq_false (by simp)]
        intro _
        have hb := hQl n
        rw [pCond_false, pAdd_v, w64 (n := (j : Int) + 1) (by omega) (by omega)]
        exact ⟨⟨j + 1, rfl, by omega, o⟩, by show (_ : Int).toNat < (_ : Int).toNat; omega⟩
      · have : j = (Q n).length := by omega
        subst this
        rw [List.drop_length] at o
        rw [pAdd_v, w64 (n := (n : Int) + 1) (by omega) (by omega)]
        refine ⟨⟨n + 1, rfl, by omega, ?_⟩, by show (_ : Int).toNat < (_ : Int).toNat; omega⟩
        rw [show updQ (empt Q n) n [] = empt Q (n + 1) from by
          funext i
          unfold updQ empt
          by_cases hi : i = n
          · rw [if_pos hi, if_pos (by omega)]
          · rw [if_neg hi]
            by_cases hi2 : 0 ≤ i ∧ i < (n : Int)
            · rw [if_pos hi2, if_pos (by omega)]
            · rw [if_neg hi2, if_neg (by omega)]] at o
        exact o
    · have : n = 2 := by omega
      subst this
      refine len_spec (lk_at o (by repeat (first | exact List.mem_cons_self | apply List.mem_cons_of_mem))) (.inl rfl) ?_
      refine len_spec (lk_at o (by repeat (first | exact List.mem_cons_self | apply List.mem_cons_of_mem))) (.inr rfl) ?_
      rw [show empt Q 2 0 = [] from rfl, show empt Q 2 1 = [] from rfl, pAdd_v, pEq_0]
      exact ⟨rfl, o.ext⟩
  simp only [Bool.and_eq_true, decide_eq_true_eq] at hc
  refine ⟨fun H' => ∃ (va : Int → Value) (Q : Int → Texts), Owns H H' (stP m b c0 c1 va Q) ∧ ∀ i, Small (Q i), ?_, ?_⟩
  · rintro _ H6 ⟨va, Q, o, hsm⟩
    rw [pAdd_v, w64 (n := (k : Int) + 1) (by omega) (by omega)]
    exact ⟨⟨k + 1, va, Q, rfl, by omega, o, hsm⟩, by show (_ : Int).toNat < (_ : Int).toNat; omega⟩
  have hil : k < L.length := by omega
  have hrm := List.getElem_mem hil
  obtain ⟨what, w, t, at_, bits, hr', ht, hat, hbits⟩ := actL (hL1 _ hrm) (hL2 _ hrm)
  have hat := wf64 hat
  have hbits := wfu32 hbits
  have hfl := flat_at L k L[k] hL1 (List.getElem?_eq_getElem hil)
  rw [hr'] at hfl
  refine hrow.at_ (n := len) hSl (by decide) (by omega) (by omega) fun ad had => ?_
  refine had.loadN hrow (ws := [.int .i64 what, .int .i64 w, str t, .int .i64 at_, .int .u32 bits]) (by rw [Int.toNat_natCast]; exact hfl) rfl ?_
  refine o.box fun cb H6 o _ => ?_
  change Owns H H6 (.box cb [.int .i64 0, .int .i64 0, str [], .int .i64 0, .int .u32 0] _ :: stP m b c0 c1 va Q) at o
  refine o.bstoreN (vs := [_, _, _, _, _]) (by repeat (first | exact List.mem_cons_self | apply List.mem_cons_of_mem)) rfl rfl rfl (by repeat (first | exact Rep.here | apply Rep.there)) fun H7 o _ => ?_
  rw [pFieldAddr_v, add_mk]
  refine o.bload (by repeat (first | exact List.mem_cons_self | apply List.mem_cons_of_mem)) rfl ?_
  rw [pFieldAddr_v, add_mk]
  refine o.bload (by repeat (first | exact List.mem_cons_self | apply List.mem_cons_of_mem)) rfl ?_
  refine pLenS_to ?_
  rw [pMin_v]
  refine pSlStr_to (lo := 0) (hi := min t.length 20) (.inr ⟨rfl, rfl⟩) (.inl (by congr 2; omega)) (by omega) (by omega) ?_
  generalize hT : List.take (min t.length 20 - 0) (List.drop 0 t) = T
  have hTl : T.length ≤ 20 := by rw [← hT, List.length_take]; omega
  rw [pFieldAddr_v, add_mk]
  refine o.bload (by repeat (first | exact List.mem_cons_self | apply List.mem_cons_of_mem)) rfl ?_
  rw [pRem_v]
  refine ⟨by decide, ?_⟩
  rw [pAdd_v, pRem_v]
  refine ⟨by decide, ?_⟩
  generalize (IntKind.i64.wrap (what.tmod 6 + 6)).tmod 6 = kind
  rw [pFieldAddr_v, add_mk]
  refine o.bload (by repeat (first | exact List.mem_cons_self | apply List.mem_cons_of_mem)) rfl ?_
  rw [pLt_v]
  refine pOr_if (d := decide (1 < w)) (fun _ => ?_) ?_
  · rw [pFieldAddr_v, add_mk]
    refine o.bload (by repeat (first | exact List.mem_cons_self | apply List.mem_cons_of_mem)) rfl ?_
    rw [pGt_v]
    exact ⟨rfl, rfl⟩
  intro _
  by_cases hw : w = 0 ∨ w = 1
  rotate_left
  · -- no such way
    have hno : NoWay (.pointer (some ⟨b, 0, none⟩)) w := .inr ⟨hw, b, rfl⟩
    rw [show (decide (w < 0) || decide (1 < w)) = true by simp only [Bool.or_eq_true, decide_eq_true_eq]; omega, pCond_true]
    rw [pFieldAddr_v, add_mk]
    refine o.bload (by repeat (first | exact List.mem_cons_self | apply List.mem_cons_of_mem)) rfl ?_
    refine take_no hno ?_
    refine pExtract_to rfl ?_
    refine pExtract_to rfl ?_
    refine pOr_false ?_
    refine pNe1_to ?_
    rw [decide_eq_false (by simp)]
    refine fun _ => pOr_false ?_
    rw [pFieldAddr_v, add_mk]
    refine o.bload (by repeat (first | exact List.mem_cons_self | apply List.mem_cons_of_mem)) rfl ?_
    refine put_no hno ?_
    refine fun _ => pOr_false ?_
    rw [pFieldAddr_v, add_mk]
    refine o.bload (by repeat (first | exact List.mem_cons_self | apply List.mem_cons_of_mem)) rfl ?_
    refine turn_no hno ?_
    refine fun _ => pOr_false ?_
    rw [pFieldAddr_v, add_mk]
    refine o.bload (by repeat (first | exact List.mem_cons_self | apply List.mem_cons_of_mem)) rfl ?_
    refine twice_no hno fun H8 x8 => ?_
    have o := o.more x8
    refine fun _ => pOr_false ?_
    rw [pFieldAddr_v, add_mk]
    refine o.bload (by repeat (first | exact List.mem_cons_self | apply List.mem_cons_of_mem)) rfl ?_
    rw [pFieldAddr_v, add_mk]
    refine o.bload (by repeat (first | exact List.mem_cons_self | apply List.mem_cons_of_mem)) rfl ?_
    rw [pFieldAddr_v, add_mk]
    refine o.bload (by repeat (first | exact List.mem_cons_self | apply List.mem_cons_of_mem)) rfl ?_
    refine spoil_no hno fun H9 x9 => ?_
    have o := o.more x9
    refine fun _ => pOr_false ?_
    rw [pFieldAddr_v, add_mk]
    refine o.bload (by repeat (first | exact List.mem_cons_self | apply List.mem_cons_of_mem)) rfl ?_
    refine len_no hno ?_
    rw [pNe_0, decide_eq_false (by simp)]
    intro _
    rw [pCond_false]
    exact ⟨va, Q, o.arr (by repeat (first | exact Sels.nil | exact Sel.here | apply Sels.cons | apply Sel.there)), hsm⟩
  rw [show (decide (w < 0) || decide (1 < w)) = false by simp only [Bool.or_eq_false_iff, decide_eq_false_iff_not]; omega, pCond_false]
  have o := st_way hw o
  rw [pFieldAddr_v, add_mk]
  refine o.bload (by repeat (first | exact List.mem_cons_self | apply List.mem_cons_of_mem)) rfl ?_
  refine idx_m hw ?_
  refine o.bload (by repeat (first | exact List.mem_cons_self | apply List.mem_cons_of_mem)) (two_get hw) ?_
  have hqs := sl_at o (v := va w) (by repeat (first | exact List.mem_cons_self | apply List.mem_cons_of_mem))
  have hql : (txtsV (Q w)).length = (Q w).length * 1 := by rw [txtsV_len]; omega
  have hQw := hQl w
  have hsm20 : ∀ t ∈ Q w, t.length ≤ 1000000 := fun t ht => by have := hsm w t ht; omega
  refine ⟨fun v H' => ∃ q : Texts, Owns H H' [.box cb [.int .i64 what, .int .i64 w, str t, .int .i64 at_, .int .u32 bits] 38, .box m [va 0, va 1] 36 , .thing (slT v (txtsV q)), .thing (slT (va (1 - w)) (txtsV (Q (1 - w)))), .thing (lkT b c0 c1 (updQ Q w q))] ∧ Small q, ?_, ?_⟩
  · rintro _ v H8 ⟨q, o, hq⟩
    rw [pFieldAddr_v, add_mk]
    refine o.bload (by repeat (first | exact List.mem_cons_self | apply List.mem_cons_of_mem)) rfl ?_
    refine idx_m hw ?_
    refine o.bstore (by repeat (first | exact List.mem_cons_self | apply List.mem_cons_of_mem)) (by rcases hw with rfl | rfl <;> simp) (sl_at o (v := v) (by repeat (first | exact List.mem_cons_self | apply List.mem_cons_of_mem))).one (by repeat (first | exact Rep.here | apply Rep.there)) fun H9 o _ => ?_
    rw [two_set hw] at o
    have o := st_back hw (o.arr (by repeat (first | exact Sels.nil | exact Sel.here | apply Sels.cons | apply Sel.there)))
    refine idx_m (.inl rfl) ?_
    refine o.bload (by repeat (first | exact List.mem_cons_self | apply List.mem_cons_of_mem)) rfl ?_
    refine (sl_at o (v := updV va w v 0) (by repeat (first | exact List.mem_cons_self | apply List.mem_cons_of_mem))).len (n := (updQ Q w q 0).length) (by rw [txtsV_len]; omega) (by decide) ?_
    refine len_spec (lk_at o (by repeat (first | exact List.mem_cons_self | apply List.mem_cons_of_mem))) (.inl rfl) ?_
    refine ⟨o.bload (by repeat (first | exact List.mem_cons_self | apply List.mem_cons_of_mem)) rfl rfl, ?_⟩
    rw [pNe_0, decide_eq_false (by simp)]
    refine pOr_false ?_
    refine idx_m (.inr rfl) ?_
    refine o.bload (by repeat (first | exact List.mem_cons_self | apply List.mem_cons_of_mem)) rfl ?_
    refine (sl_at o (v := updV va w v 1) (by repeat (first | exact List.mem_cons_self | apply List.mem_cons_of_mem))).len (n := (updQ Q w q 1).length) (by rw [txtsV_len]; omega) (by decide) ?_
    refine len_spec (lk_at o (by repeat (first | exact List.mem_cons_self | apply List.mem_cons_of_mem))) (.inr rfl) ?_
    refine ⟨o.bload (by repeat (first | exact List.mem_cons_self | apply List.mem_cons_of_mem)) rfl rfl, ?_⟩
    rw [pNe_0, decide_eq_false (by simp)]
    intro _
    rw [pCond_false]
    exact ⟨_, _, o, small_upd hsm hq⟩
  rw [pEq_0]
  refine pCond_if (fun hk2 => ?_) (fun hk2 => ?_)
  · -- Take
    rw [pFieldAddr_v, add_mk]
    refine o.bload (by repeat (first | exact List.mem_cons_self | apply List.mem_cons_of_mem)) rfl ?_
    refine take_spec (lk_at o (by repeat (first | exact List.mem_cons_self | apply List.mem_cons_of_mem))) hw (fun h0 => ?_) (fun u q H8 hq l8 on8 => ?_)
    · refine pExtract_to rfl ?_
      refine pExtract_to rfl ?_
      refine hqs.len hql (by decide) ?_
      rw [h0, List.length_nil, pGt_v, decide_eq_false (by decide), pNe_2, decide_eq_false (by decide)]
      refine pOr_false ?_
      rw [pAnd_false]
      intro _ _
      refine pOr_false ?_
      rw [pNot_v, Bool.not_false]
      refine pAnd_true ?_
      refine pNe1_to ?_
      rw [decide_eq_false (by simp)]
      intro _ _
      rw [pCond_false, pCond_false]
      refine ⟨Q w, ?_, hsm w⟩
      rw [updQ_same]
      exact o
    · refine pExtract_to rfl ?_
      refine pExtract_to rfl ?_
      have o := owns_lk o on8 l8 (by repeat (first | exact Rep.here | apply Rep.there))
      have hqs := sl_at o (v := va w) (by repeat (first | exact List.mem_cons_self | apply List.mem_cons_of_mem))
      refine hqs.len hql (by decide) ?_
      have hq1 : (Q w).length = q.length + 1 := by rw [hq, List.length_cons]
      rw [pGt_v, decide_eq_true (by omega), pNe_2, decide_eq_false (by decide)]
      refine pOr_false ?_
      refine pAnd_true ?_
      refine hqs.at_ hql (by decide) (by decide) (by omega) fun p hp => ?_
      refine hp.load hqs (w := str u) (by rw [hq]; rfl) ?_
      refine pNe1_to ?_
      rw [decide_eq_false (by simp)]
      intro _ _
      refine pOr_false ?_
      rw [pNot_v, Bool.not_true, pAnd_false]
      intro _ _
      rw [pCond_false, pCond_true]
      refine sl_tail hqs (by rw [txtsV_len]; omega) fun v' hv' hb' => ?_
      rw [txtsV_drop, hq, List.drop_one, List.tail_cons] at hv'
      exact ⟨q, sl_part o (by repeat (first | exact List.mem_cons_self | apply List.mem_cons_of_mem)) hv' hb' (by repeat (first | exact Rep.here | apply Rep.there)), fun t ht => hsm w t (by rw [hq]; simp [ht])⟩
  rw [pEq_0]
  refine pCond_if (fun hk3 => ?_) (fun hk3 => ?_)
  · -- Turn
    rw [pFieldAddr_v, add_mk]
    refine o.bload (by repeat (first | exact List.mem_cons_self | apply List.mem_cons_of_mem)) rfl ?_
    refine turn_spec (lk_at o (by repeat (first | exact List.mem_cons_self | apply List.mem_cons_of_mem))) hw (fun h0 => ?_) (fun u q H8 hq l8 on8 => ?_)
    · refine hqs.len hql (by decide) ?_
      rw [h0, List.length_nil, pGt_v, decide_eq_false (by decide), pNe_2, decide_eq_false (by decide), pCond_false]
      refine hqs.len hql (by decide) ?_
      rw [h0, List.length_nil, pGt_v, decide_eq_false (by decide), pCond_false]
      refine ⟨Q w, ?_, hsm w⟩
      rw [updQ_same]
      exact o
    · have o := owns_lk o on8 l8 (by repeat (first | exact Rep.here | apply Rep.there))
      have hqs := sl_at o (v := va w) (by repeat (first | exact List.mem_cons_self | apply List.mem_cons_of_mem))
      have hq1 : (Q w).length = q.length + 1 := by rw [hq, List.length_cons]
      refine hqs.len hql (by decide) ?_
      rw [pGt_v, decide_eq_true (by omega), pNe_2, decide_eq_false (by decide), pCond_false]
      refine hqs.len hql (by decide) ?_
      rw [pGt_v, decide_eq_true (by omega), pCond_true]
      refine sl_tail hqs (by rw [txtsV_len]; omega) fun v' hv' hb' => ?_
      rw [txtsV_drop, hq, List.drop_one, List.tail_cons] at hv'
      refine hqs.at_ hql (by decide) (by decide) (by omega) fun p hp => ?_
      refine hp.load hqs (w := str u) (by rw [hq]; rfl) ?_
      have hleaf : ∀ y H', Owns H8 H' [.sl y 1 (txtsV q ++ [str u])] → ∃ q : Texts, Owns H H' [.box cb [.int .i64 what, .int .i64 w, str t, .int .i64 at_, .int .u32 bits] 38, .box m [va 0, va 1] 36 , .thing (slT y (txtsV q)), .thing (slT (va (1 - w)) (txtsV (Q (1 - w)))), .thing (lkT b c0 c1 (updQ Q w q))] ∧ Small q := fun y H' o2 => by
        have o := o.call o2
        rw [show txtsV q ++ [str u] = txtsV (q ++ [u]) by rw [txtsV_append]; rfl] at o
        have o := own_slT o (v := y) (by repeat (first | exact List.mem_cons_self | apply List.mem_cons_of_mem)) (by repeat (first | exact Rep.here | apply Rep.there))
        refine ⟨q ++ [u], o.arr (by repeat (first | exact Sels.nil | exact Sel.here | apply Sels.cons | apply Sel.there)), fun x hx => ?_⟩
        rcases List.mem_append.1 hx with hx | hx
        · exact hsm w x (by rw [hq]; simp [hx])
        · exact hsm w x (by rw [hq]; simp at hx; simp [hx])
      have o2 := Owns.start (H := H8)
      have hqh : (txtsV (Q w))[(0 : Int).toNat * 1]? = some (str u) := by rw [hq]; rfl
      repeat' (first
        | (with_reducible apply And.intro)
        | (with_reducible refine hp.load (hqs.ext o2.ext) (w := str u) hqh ?_; rfl)
        | (with_reducible refine o2.build0 1 (by decide) fun y H' o2 => ?_)
        | (with_reducible refine o2.build1 (by decide) rfl rfl fun y H' o2 => ?_)
        | (with_reducible refine o2.app (by repeat (first | exact Sel.here | apply Sel.there)) (hv'.ext o2.ext) txtsV_one (by simp only [txtsV_len, List.length_nil]; omega) fun y H' o2 => ?_)
        | (with_reducible refine o2.app (by repeat (first | exact Sel.here | apply Sel.there)) (o2.sl (by repeat (first | exact List.mem_cons_self | apply List.mem_cons_of_mem))) rfl (by simp [txtsV_len, cells_str]; omega) fun y H' o2 => ?_)
        | exact hleaf _ _ (o2.arr (by repeat (first | exact Sels.nil | exact Sel.here | apply Sels.cons | apply Sel.there))))
  rw [pEq_0]
  refine pCond_if (fun hk4 => ?_) (fun hk4 => ?_)
  · -- Twice
    refine hqs.len hql (by decide) ?_
    rw [pGt_v]
    refine pAnd_if (d := decide (((Q w).length : Int) < 64)) (fun _ => ?_) ?_
    · refine hqs.len hql (by decide) ?_
      rw [pLt_v]
      exact ⟨rfl, rfl⟩
    intro _
    rw [pFieldAddr_v, add_mk]
    refine o.bload (by repeat (first | exact List.mem_cons_self | apply List.mem_cons_of_mem)) rfl ?_
    refine twice_spec (lk_at o (by repeat (first | exact List.mem_cons_self | apply List.mem_cons_of_mem))) hw (fun h0 H8 x8 => ?_) (fun u q H8 hq hlt l8 on8 => ?_)
    · have o := o.more x8
      rw [show (decide ((0 : Int) < ((Q w).length : Int)) && decide (((Q w).length : Int) < 64)) = false by
        rcases h0 with h0 | h0
        · rw [h0]; rfl
        · rw [h0]; rfl]
      rw [pNe_2, decide_eq_false (by decide), pCond_false, pCond_false]
      refine ⟨Q w, ?_, hsm w⟩
      rw [updQ_same]
      exact o
    · have o := owns_lk o on8 l8 (by repeat (first | exact Rep.here | apply Rep.there))
      have hqs := sl_at o (v := va w) (by repeat (first | exact List.mem_cons_self | apply List.mem_cons_of_mem))
      have hq1 : (Q w).length = q.length + 1 := by rw [hq, List.length_cons]
      rw [show (decide ((0 : Int) < ((Q w).length : Int)) && decide (((Q w).length : Int) < 64)) = true by rw [decide_eq_true (by omega), decide_eq_true (by omega)]; rfl]
      rw [pNe_2, decide_eq_false (by decide), pCond_false, pCond_true]
      refine hqs.at_ hql (by decide) (by decide) (by omega) fun p hp => ?_
      refine hp.load hqs (w := str u) (by rw [hq]; rfl) ?_
      have hleaf : ∀ y H', Owns H8 H' [.sl y 1 (txtsV (Q w) ++ [str u])] → ∃ q : Texts, Owns H H' [.box cb [.int .i64 what, .int .i64 w, str t, .int .i64 at_, .int .u32 bits] 38, .box m [va 0, va 1] 36 , .thing (slT y (txtsV q)), .thing (slT (va (1 - w)) (txtsV (Q (1 - w)))), .thing (lkT b c0 c1 (updQ Q w q))] ∧ Small q := fun y H' o2 => by
        have o := o.call o2
        rw [show txtsV (Q w) ++ [str u] = txtsV (u :: q ++ [u]) by rw [← hq, txtsV_append]; rfl] at o
        have o := own_slT o (v := y) (by repeat (first | exact List.mem_cons_self | apply List.mem_cons_of_mem)) (by repeat (first | exact Rep.here | apply Rep.there))
        refine ⟨u :: q ++ [u], o.arr (by repeat (first | exact Sels.nil | exact Sel.here | apply Sels.cons | apply Sel.there)), fun x hx => ?_⟩
        rcases List.mem_append.1 hx with hx | hx
        · exact hsm w x (by rw [hq]; exact hx)
        · exact hsm w x (by rw [hq]; simp at hx; simp [hx])
      have o2 := Owns.start (H := H8)
      have hqh : (txtsV (Q w))[(0 : Int).toNat * 1]? = some (str u) := by rw [hq]; rfl
      repeat' (first
        | (with_reducible apply And.intro)
        | (with_reducible refine hp.load (hqs.ext o2.ext) (w := str u) hqh ?_; rfl)
        | (with_reducible refine o2.build0 1 (by decide) fun y H' o2 => ?_)
        | (with_reducible refine o2.build1 (by decide) rfl rfl fun y H' o2 => ?_)
        | (with_reducible refine o2.app (by repeat (first | exact Sel.here | apply Sel.there)) (hqs.ext o2.ext) txtsV_one (by simp only [txtsV_len, List.length_nil]; omega) fun y H' o2 => ?_)
        | (with_reducible refine o2.app (by repeat (first | exact Sel.here | apply Sel.there)) (o2.sl (by repeat (first | exact List.mem_cons_self | apply List.mem_cons_of_mem))) rfl (by simp [txtsV_len, cells_str]; omega) fun y H' o2 => ?_)
        | exact hleaf _ _ (o2.arr (by repeat (first | exact Sels.nil | exact Sel.here | apply Sels.cons | apply Sel.there))))
  rw [pEq_0]
  refine pCond_if (fun hk5 => ?_) (fun hk5 => ?_)
  · -- Spoil
    rw [pFieldAddr_v, add_mk]
    refine o.bload (by repeat (first | exact List.mem_cons_self | apply List.mem_cons_of_mem)) rfl ?_
    rw [pFieldAddr_v, add_mk]
    refine o.bload (by repeat (first | exact List.mem_cons_self | apply List.mem_cons_of_mem)) rfl ?_
    rw [pFieldAddr_v, add_mk]
    refine o.bload (by repeat (first | exact List.mem_cons_self | apply List.mem_cons_of_mem)) rfl ?_
    refine spoil_spec (lk_at o (by repeat (first | exact List.mem_cons_self | apply List.mem_cons_of_mem))) hw hsm20 hat.1 hat.2 hbits.1 hbits.2 (fun h0 H8 x8 => ?_) (fun u q H8 hq l8 on8 => ?_)
    · have o := o.more x8
      have hqs := sl_at o (v := va w) (by repeat (first | exact List.mem_cons_self | apply List.mem_cons_of_mem))
      refine hqs.len hql (by decide) ?_
      rw [h0, List.length_nil, pGt_v, decide_eq_false (by decide), pNe_2, decide_eq_false (by decide), pCond_false]
      refine hqs.len hql (by decide) ?_
      rw [h0, List.length_nil, pGt_v, decide_eq_false (by decide), pCond_false]
      refine ⟨Q w, ?_, hsm w⟩
      rw [updQ_same]
      exact o
    · have o := owns_lk o on8 l8 (by repeat (first | exact Rep.here | apply Rep.there))
      have hqs := sl_at o (v := va w) (by repeat (first | exact List.mem_cons_self | apply List.mem_cons_of_mem))
      have hq1 : (Q w).length = q.length + 1 := by rw [hq, List.length_cons]
      have hu20 : u.length ≤ 20 := hsm w u (by rw [hq]; simp)
      refine hqs.len hql (by decide) ?_
      rw [pGt_v, decide_eq_true (by omega), pNe_2, decide_eq_false (by decide), pCond_false]
      refine hqs.len hql (by decide) ?_
      rw [pGt_v, decide_eq_true (by omega), pCond_true]
      refine hqs.at_ hql (by decide) (by decide) (by omega) fun p hp => ?_
      refine hp.load hqs (w := str u) (by rw [hq]; rfl) ?_
      rw [pFieldAddr_v, add_mk]
      refine o.bload (by repeat (first | exact List.mem_cons_self | apply List.mem_cons_of_mem)) rfl ?_
      rw [pFieldAddr_v, add_mk]
      refine o.bload (by repeat (first | exact List.mem_cons_self | apply List.mem_cons_of_mem)) rfl ?_
      refine sl_tail hqs (by rw [txtsV_len]; omega) fun v' hv' hb' => ?_
      rw [txtsV_drop, hq, List.drop_one, List.tail_cons] at hv'
      refine ref26_spec (by omega) hat.1 hat.2 hbits.1 hbits.2 fun H9 x9 => ?_
      have o2 := (Owns.start (H := H8)).more x9
      refine o2.build1 (by decide) rfl rfl fun y H10 o2 => ?_
      refine o2.app (by repeat (first | exact Sel.here | apply Sel.there)) (hv'.ext o2.ext) txtsV_one (by rw [txtsV_len]; simp [cells_str]; omega) fun y H11 o2 => ?_
      have o := o.call o2
      rw [show (str (spoilL u at_ (tb bits))).cells.toList ++ txtsV q = txtsV (spoilL u at_ (tb bits) :: q) from rfl] at o
      have o := own_slT o (v := y) (by repeat (first | exact List.mem_cons_self | apply List.mem_cons_of_mem)) (by repeat (first | exact Rep.here | apply Rep.there))
      exact ⟨spoilL u at_ (tb bits) :: q, o.arr (by repeat (first | exact Sels.nil | exact Sel.here | apply Sels.cons | apply Sel.there)), fun x hx => by
        rcases List.mem_cons.1 hx with rfl | hx
        · rw [spoil_len]; exact hu20
        · exact hsm w x (by rw [hq]; simp [hx])⟩
  -- Put
  refine hqs.len hql (by decide) ?_
  rw [pLt_v, pFieldAddr_v, add_mk]
  refine o.bload (by repeat (first | exact List.mem_cons_self | apply List.mem_cons_of_mem)) rfl ?_
  refine put_spec (lk_at o (by repeat (first | exact List.mem_cons_self | apply List.mem_cons_of_mem))) hw (fun h64 => ?_) (fun hlt H8 l8 on8 => ?_)
  · rw [decide_eq_false (by omega), pNe_2, decide_eq_false (by decide), pCond_false, pCond_false]
    refine ⟨Q w, ?_, hsm w⟩
    rw [updQ_same]
    exact o
  · have o := owns_lk o on8 l8 (by repeat (first | exact Rep.here | apply Rep.there))
    have hqs := sl_at o (v := va w) (by repeat (first | exact List.mem_cons_self | apply List.mem_cons_of_mem))
    rw [decide_eq_true (by omega), pNe_2, decide_eq_false (by decide), pCond_false, pCond_true]
    have o2 := Owns.start (H := H8)
    refine o2.build0 1 (by decide) fun y H' o2 => ?_
    refine o2.app (by repeat (first | exact Sel.here | apply Sel.there)) (hqs.ext o2.ext) txtsV_one (by simp only [txtsV_len, List.length_nil]; omega) fun y H' o2 => ?_
    refine o2.build1 (by decide) rfl rfl fun z H' o2 => ?_
    refine o2.app (by repeat (first | exact Sel.here | apply Sel.there)) (o2.sl (v := z) (by repeat (first | exact List.mem_cons_self | apply List.mem_cons_of_mem))) rfl (by simp [txtsV_len, cells_str]; omega) fun y H' o2 => ?_
    have o := o.call (o2.arr (L' := [.sl y 1 _]) (by repeat (first | exact Sels.nil | exact Sel.here | apply Sels.cons | apply Sel.there)))
    have e : [] ++ txtsV (Q w) ++ (str T).cells.toList = txtsV (Q w ++ [T]) := by rw [txtsV_append]; rfl
    rw [e] at o
    have o := own_slT o (v := y) (by repeat (first | exact List.mem_cons_self | apply List.mem_cons_of_mem)) (by repeat (first | exact Rep.here | apply Rep.there))
    refine ⟨Q w ++ [T], o.arr (by repeat (first | exact Sels.nil | exact Sel.here | apply Sels.cons | apply Sel.there)), fun x hx => ?_⟩
    rcases List.mem_append.1 hx with hx | hx
    · exact hsm w x hx
    · simp at hx; rw [hx]; exact hTl
end Go.Proofs.Ytelldphojhmhfaa
