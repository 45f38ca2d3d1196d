/- A reader that stands at the beginning of a block, with other cells behind it; canon's Next over it. -/
import Derived.Test.YtpnkoniomalcpaaDoorOpen03
import Derived.Test.YtpnkoniomalcpaaDoorBits
import Derived.Test.YtpnkoniomalcpaaDoorInfP
import Derived.Test.YtpnkoniomalcpaaDoorResA
import Derived.Test.YtpnkoniomalcpaaDoorResB
namespace Go.Proofs.YtpnkoniomalcpaaDoor
open Go Go.Vc Go.Proofs
set_option linter.unusedVariables false
set_option linter.unusedSimpArgs false
variable {H H0 : Heap} {R : Value → Heap → Prop} {v : Value} {zs : List Int} {ls : List Nat} {B : List Bool} {L : List It} {b : Nat} {post : List Value} {t : TypeId}
def rdP (b : Nat) (post : List Value) (t : TypeId) (B : List Bool) : Thing where
  foot k := k = b
  holds H := ∃ (rest : List UInt8) (acc n : Nat), H[b]? = some (.cells (str rest :: u64 acc :: i64 n :: post).toArray t (0, 0)) ∧ B = bitsN acc n ++ toBits rest ∧ acc < 2 ^ n ∧ n < 40 ∧ B.length ≤ 1152921504606846976
  frame := fun h hf => by
    obtain ⟨rest, acc, n, h1, h2⟩ := h
    exact ⟨rest, acc, n, (hf b rfl).trans h1, h2⟩
  lt := fun h hf => by subst hf; obtain ⟨rest, acc, n, h1, h2⟩ := h; exact lt_of_blk h1
abbrev rdI (b : Nat) (post : List Value) (t : TypeId) (B : List Bool) : It := .thing (rdP b post t B)
theorem rdP_rd (o : Owns H0 H L) (hin : rdI b post t B ∈ L) : Rd H b 0 B := by
  obtain ⟨rest, acc, n, h1, h2, h3, h4, h5⟩ := o.thing hin
  refine ⟨⟨rest, acc, n, ?_, h2, h3, h4⟩, h5⟩
  exact (Sub.all h1).part (x := []) (y := [str rest, u64 acc, i64 n]) (z := post)
theorem _root_.Go.Vc.Owns.rd {H' : Heap} {B' : List Bool} {L' : List It} (o : Owns H0 H L) (w : Rd H' b 0 B') (c : Chg b 0 3 none_ none_ H H') (hr : Rep (rdI b post t B) (rdI b post t B') L L') : Owns H0 H' L' := by
  obtain ⟨rest, acc, n, h1, -⟩ := o.thing hr.mem
  refine o.turn hr c.size (fun k hk hf => c.ne k hk hf (fun h => h)) ?_ (fun k hk => .inl hk)
  obtain ⟨⟨rest', acc', n', hs, h2, h3, h4⟩, h5⟩ := w
  refine ⟨rest', acc', n', ?_, h2, h3, h4, h5⟩
  obtain ⟨cs, g1, g2, g3⟩ := c.blk _ _ _ h1
  obtain ⟨p, q, t', k1, k2⟩ := hs
  have hp : p = [] := by simpa using k1
  subst hp
  rw [g1] at k2
  simp only [Option.some.injEq, Obj.cells.injEq, List.nil_append] at k2
  obtain ⟨k2, k3, -⟩ := k2
  have k2 := arr_inj k2
  subst k3
  rw [g1, k2]
  have hq : q = post := by
    apply List.ext_getElem?
    intro j
    have := g3 (3 + j) (.inr (by omega))
    rw [k2, List.getElem?_append_right (by simp)] at this
    simp only [List.length_cons, List.length_nil, Nat.zero_add, Nat.reduceAdd, Nat.add_sub_cancel_left] at this
    rw [this, show 3 + j = j + 1 + 1 + 1 by omega]
    simp only [List.getElem?_cons_succ]
  rw [hq]; rfl
theorem _root_.Go.Vc.Owns.pl {K : Value → Prop} {g : Nat} {w : Value} (o : Owns H0 H L) (hin : rdI b post t B ∈ L) (h3 : 3 ≤ g) (hw : post[g - 3]? = some w) (hk : K w) : pLoad H (.pointer (some ⟨b, g, none⟩)) K := by
  obtain ⟨rest, acc, n, h1, -⟩ := o.thing hin
  refine pLoad_l h1 ?_ hk
  obtain ⟨j, rfl⟩ : ∃ j, g = j + 1 + 1 + 1 := ⟨g - 3, by omega⟩
  simp only [List.getElem?_cons_succ]
  simpa using hw
theorem _root_.Go.Vc.Owns.ps {K : Value → Heap → Prop} {g : Nat} {x : Value} {L' : List It} (o : Owns H0 H L) (hr : Rep (rdI b post t B) (rdI b (post.set (g - 3) x) t B) L L') (h3 : 3 ≤ g) (hg : g - 3 < post.length) (hx : oneCell x = true) (hk : ∀ H', Owns H0 H' L' → H'.size = H.size → K undef H') : pStore H (.pointer (some ⟨b, g, none⟩)) x K := by
  obtain ⟨rest, acc, n, h1, h2⟩ := o.thing hr.mem
  refine pStore_upd h1 (by simp; omega) hx fun H' hs u => hk H' (o.turn hr u.size (fun k hk hne => u.ne k hk (fun e => hne e)) ?_ (fun k hk => .inl hk)) hs
  refine ⟨rest, acc, n, ?_, h2⟩
  rw [u.at_, List.setIfInBounds_toArray]
  obtain ⟨j, rfl⟩ : ∃ j, g = j + 1 + 1 + 1 := ⟨g - 3, by omega⟩
  simp only [List.set_cons_succ, Nat.add_sub_cancel]
  simp
theorem _root_.Go.Vc.Owns.p3 {K : Value → Prop} (o : Owns H0 H L) (hin : rdI b post t B ∈ L) (hk : ∀ (rest : List UInt8) (acc n : Nat), B = bitsN acc n ++ toBits rest → acc < 2 ^ n → n < 40 → B.length ≤ 1152921504606846976 → K (.agg #[str rest, u64 acc, i64 n])) : pLoadN H 3 (.pointer (some ⟨b, 0, none⟩)) K := by
  obtain ⟨rest, acc, n, h1, h2, h3, h4, h5⟩ := o.thing hin
  have hs := (Sub.all h1).part (x := []) (y := [str rest, u64 acc, i64 n]) (z := post)
  have hc : Reads H ⟨b, 0, none⟩ [str rest, u64 acc, i64 n] := fun i v hv => by
    rw [add_mk]
    have := hs.cell (k := i) hv
    simpa using this
  exact hc.loadN (n := 3) rfl (hk rest acc n h2 h3 h4 h5)
/-- three cells of a reader are stored -/
theorem _root_.Go.Vc.Owns.p3s {K : Value → Heap → Prop} {rest : List UInt8} {acc n : Nat} {B' : List Bool} {L' : List It} (o : Owns H0 H L) (hr : Rep (rdI b post t B) (rdI b post t B') L L') (h2 : B' = bitsN acc n ++ toBits rest) (h3 : acc < 2 ^ n) (h4 : n < 40) (h5 : B'.length ≤ 1152921504606846976)
    (hk : ∀ H', Owns H0 H' L' → H'.size = H.size → K undef H') : pStoreN H 3 (.pointer (some ⟨b, 0, none⟩)) (.agg #[str rest, u64 acc, i64 n]) K := by
  obtain ⟨rest0, acc0, n0, h1, -⟩ := o.thing hr.mem
  have hs := setsAt_put (new := [str rest, u64 acc, i64 n]) (sp := []) (l := str rest0 :: u64 acc0 :: i64 n0 :: post) (b := b) (j := 0) (.inl rfl) (by rw [List.append_nil]; exact h1) rfl (by simp) rfl
  rw [List.append_nil] at hs
  have hp : putL (str rest0 :: u64 acc0 :: i64 n0 :: post) 0 [str rest, u64 acc, i64 n] = str rest :: u64 acc :: i64 n :: post := by
    simp [putL_cons, putL_nil]
  rw [hp] at hs
  have hb := lt_of_blk h1
  show pStoreN H 3 _ (.agg [str rest, u64 acc, i64 n].toArray) K
  simp only [pStoreN, cells_agg, hs]
  refine ⟨by simp, hk _ (o.turn hr (by simp) (fun k hk hne => get_set_ne (fun e => hne e.symm)) ⟨rest, acc, n, get_set_self hb, h2, h3, h4, h5⟩ (fun k hk => .inl hk)) (by simp)⟩
/-! ### need, Next -/
theorem need_spec {n : Nat} (hn : n ≤ 32) (o : Owns H0 H (rdI b post t B :: L))
    (hok : ∀ x C H', needM n B = .ok x C → x < 2 ^ n → Owns H0 H' (rdI b post t C :: L) → R (.tuple #[i64 x, .int .i64 0]) H')
    (her : needM n B = .er 2 → R (.tuple #[.int .i64 0, .int .i64 2]) H) : CallsH Tryd.prog 46 #[at_ b 0, i64 n] H R := by
  refine inflate_need.vc _ _ _ _ ?_
  unfold inflate_need.res
  have hr := rdP_rd o (List.mem_cons_self)
  by_cases hl : n ≤ B.length
  · refine rRead_spec (k := n) hr hn hl fun H1 w c => ?_
    have hlt := numB_lt (B.take n)
    rw [List.length_take, Nat.min_eq_left hl] at hlt
    have h32 : 2 ^ n ≤ 2 ^ 32 := Nat.pow_le_pow_right (by decide) hn
    have hx : numB (B.take n) < 4294967296 := by omega
    refine pExtract_to rfl ?_
    refine pExtract_to rfl ?_
    rw [pNot_v, Bool.not_true, pCond_false]
    refine pConv_to ?_
    rw [w64 (by omega) (by omega)]
    exact hok _ _ H1 (by unfold needM; rw [if_pos hl]) hlt (o.rd w c Rep.here)
  · refine rRead_no hr (by omega) ?_
    refine pExtract_to rfl ?_
    refine pExtract_to rfl ?_
    rw [pNot_v, Bool.not_false, pCond_true]
    exact her (by unfold needM; rw [if_neg hl])
theorem hitP_take (hle : ∀ k ∈ ls, k ≤ 15) {s : Nat} : hit ls (B.take 15) s ↔ hit ls B s := by
  have := getD_le hle s
  unfold hit
  rw [List.take_take, Nat.min_eq_left this]
open Classical in
theorem nextP_spec {cb : Nat} {lv wv sv : Value} (hz : okC zs) (o : Owns H0 H (rdI b post t B :: L)) (m1 : It.box cb (codeCells lv wv (countsL (natL zs)) sv) 139 ∈ L) (m2 : It.sl wv 2 (wordsV (natL zs)) ∈ L) (m3 : It.sl sv 1 (symsV (symsB (natL zs) 16)) ∈ L)
    (hok : ∀ s C H', nextM zs B = .ok s C → s < zs.length → Owns H0 H' (rdI b post t C :: L) → R (.tuple #[i64 s, .int .i64 0]) H')
    (her : ∀ e H', nextM zs B = .er e → e ≠ 0 → Owns H0 H' (rdI b post t B :: L) → R (.tuple #[.int .i64 0, .int .i64 e]) H') :
    CallsH Tryd.prog 53 #[.pointer (some ⟨cb, 0, none⟩), at_ b 0] H R := by
  have hle := ok_le hz.1
  have ht := @hitP_take (natL zs) B hle
  have hg15 := getD_le hle
  refine canon_Code_Next.vc _ _ _ _ ?_
  unfold canon_Code_Next.res
  rw [pEq_3s]
  refine pOr_false ?_
  rw [pEq_3s]
  intro _
  rw [pCond_false]
  refine rLeft_spec (rdP_rd o (by repeat (first | exact List.mem_cons_self | apply List.mem_cons_of_mem))) ?_
  rw [pMin_v]
  obtain ⟨n, hn⟩ : ∃ n, n = min B.length 15 := ⟨_, rfl⟩
  rw [show min ((B.length : Nat) : Int) 15 = (n : Int) by omega]
  refine rPeek_spec (k := n) (rdP_rd o (by repeat (first | exact List.mem_cons_self | apply List.mem_cons_of_mem))) (by omega) (by omega) fun H1 w1 c1 => ?_
  have o := o.rd w1 c1 Rep.here
  refine pExtract_to rfl ?_
  refine pExtract_to rfl ?_
  have hx := numB_lt (B.take n)
  have hbl : (B.take n).length = n := by rw [List.length_take]; omega
  have hb : bitsN (numB (B.take n)) n = B.take 15 := by
    have := bitsN_numB (B.take n)
    rw [hbl] at this
    rw [this, hn]
    rcases Nat.le_total B.length 15 with g | g
    · rw [Nat.min_eq_left g, List.take_of_length_le (Nat.le_refl _), List.take_of_length_le g]
    · rw [Nat.min_eq_right g]
  rw [hbl] at hx
  generalize numB (B.take n) = x at *
  refine find_spec (x := x) (n := n) hz.1 hz.2 o (List.mem_cons_of_mem _ m1) (List.mem_cons_of_mem _ m3) hx (by omega) (fun s hh => ?_) (fun hno => ?_)
  · rw [hb] at hh
    have hh := ht.1 hh
    have hs1 := hh.2.1
    have hlen := hit_len hh
    have h15 := hg15 s
    refine pExtract_to rfl ?_
    refine pExtract_to rfl ?_
    rw [pGt_v, decide_eq_true (by omega), pCond_true]
    refine rRead_spec (k := (natL zs).getD s 0) (rdP_rd o (by repeat (first | exact List.mem_cons_self | apply List.mem_cons_of_mem))) (by omega) hlen fun H2 w2 c2 => ?_
    exact hok s _ H2 (nextM_hit hz hh) (by have := hh.1; rwa [natL_len] at this) (o.rd w2 c2 Rep.here)
  · rw [hb] at hno
    refine pExtract_to rfl ?_
    refine pExtract_to rfl ?_
    rw [pGt_v, decide_eq_false (by decide), pCond_false]
    refine open_spec (x := x) (n := n) hz.1 o (List.mem_cons_of_mem _ m1) (List.mem_cons_of_mem _ m2) hx (by omega) fun H2 o => ?_
    rw [hb]
    have hnm : nextM zs B = .er (if more (natL zs) (B.take 15) then 2 else 4) := by
      unfold nextM
      rw [dif_neg (fun ⟨s, g⟩ => hno s (ht.2 g))]
    by_cases hm : more (natL zs) (B.take 15)
    · rw [if_pos hm] at hnm
      rw [decide_eq_true hm, pCond_true]
      exact her 2 H2 hnm (by decide) o
    · rw [if_neg hm] at hnm
      rw [decide_eq_false hm, pCond_false]
      exact her 4 H2 hnm (by decide) o
end Go.Proofs.YtpnkoniomalcpaaDoor
