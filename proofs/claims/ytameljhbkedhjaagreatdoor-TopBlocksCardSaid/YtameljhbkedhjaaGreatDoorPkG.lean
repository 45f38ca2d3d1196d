/- Part 7 of the proof of RowTopBlocks: what it is built on, in the order of its needs. -/
import Derived.Test.YtameljhbkedhjaaGreatDoorPkF
namespace Go.Proofs.YtameljhbkedhjaaGreatDoor
open Go Go.Vc Go.Proofs
set_option linter.unusedVariables false
set_option linter.unusedSimpArgs false
variable {H H0 H' : Heap} {R : Value → Heap → Prop} {v : Value} {L : List It} {zs : List Int} {b : Nat} {B : List Bool}
theorem fixedCoder_spec (o : Owns H0 H L) (h : ∀ H' M cb p q rest, It.box cb (p :: q :: rest) 104 ∈ M → HasC M fixL p → HasC M fixD q → Owns H0 H' (M ++ L) → R (.pointer (some ⟨cb, 0, none⟩)) H') : CallsH Tryz.prog 25 #[] H R := by
  refine block_fixedCoder.vc _ _ ?_
  unfold block_fixedCoder.res
  refine pBuild_two rfl rfl ?_
  refine pBuild_two rfl rfl ?_
  refine pBuild_two rfl rfl ?_
  refine pBuild_two rfl rfl ?_
  simp only [pBuild_c, pBuild_n, cells_agg, putL_cons, putL_nil, List.set_cons_zero, List.set_cons_succ, List.length_cons, List.length_nil, Nat.reduceAdd, Nat.reduceLeDiff, true_and]
  refine ⟨rfl, rfl, rfl, rfl, ?_⟩
  refine ⟨fun l u H' => ∃ i : Nat, u = i64 i ∧ i ≤ 4 ∧ Owns H0 H' (.sl l 1 (numsV (fixL.take (fixUp i))) :: L), fun _ u _ => match u with | .int _ i => (4 - i).toNat | _ => 0, ⟨0, rfl, by omega, o.nil1⟩, ?_⟩
  rintro _ l2 _ H3 ⟨i, rfl, hi, o⟩
  rw [pLt_v]
  refine pCond_if (fun hc => ?_) (fun hc => ?_)
  · have hi4 : i < 4 := by omega
    obtain ⟨e1, e2, e3, e4⟩ := fix_take ⟨i, hi4⟩
    dsimp only at e1 e2 e3 e4
    have hx : ∀ K : Value → Prop, K (.agg #[i64 (fixN i), i64 (fixUp (i + 1))]) → pIdxAggN 4 2 (.agg [Value.int .i64 8, .int .i64 144, .int .i64 9, .int .i64 256, .int .i64 7, .int .i64 280, .int .i64 8, .int .i64 288].toArray) (i64 i) K := by
      intro K hK
      refine ⟨by omega, by omega, ?_⟩
      rw [Int.toNat_natCast]
      match i, hi4 with
      | 0, _ => exact hK
      | 1, _ => exact hK
      | 2, _ => exact hK
      | 3, _ => exact hK
    refine hx _ ?_
    refine fix_fill o (by rw [e2]; exact e3) e4 fun l H4 o => ?_
    rw [e2, e1] at o
    rw [pAdd_v, w64 (by omega) (by omega)]
    exact ⟨⟨i + 1, rfl, by omega, o⟩, by show (_ : Int).toNat < (_ : Int).toNat; omega⟩
  have hi4 : i = 4 := by omega
  subst hi4
  rw [show fixL.take (fixUp 4) = fixL by decide +kernel] at o
  refine ⟨fun d u H' => ∃ i : Nat, u = i64 i ∧ i ≤ 32 ∧ Owns H0 H' (.sl d 1 (numsV (List.replicate i 5)) :: .sl l2 1 (numsV fixL) :: L), fun _ u _ => match u with | .int _ i => (32 - i).toNat | _ => 0, ⟨0, rfl, by omega, o.nil1⟩, ?_⟩
  rintro _ d3 _ H4 ⟨i, rfl, hi, o⟩
  rw [pLt_v]
  refine pCond_if (fun hc => ?_) (fun hc => ?_)
  · refine o.build1 (by decide) rfl rfl fun y H5 o => ?_
    refine o.app (v := d3) (x := y) (by repeat (first | exact Sel.here | apply Sel.there)) (o.sl (by repeat (first | exact List.mem_cons_self | apply List.mem_cons_of_mem))) (by rfl) (by rw [numsV_len, List.length_replicate]; show 2 * (i + 1) * 8 ≤ _; omega) fun y2 H6 o => ?_
    rw [numsV_snoc, ← List.replicate_succ'] at o
    rw [pAdd_v, w64 (by omega) (by omega)]
    exact ⟨⟨i + 1, rfl, by omega, o.drop2⟩, by show (_ : Int).toNat < (_ : Int).toNat; omega⟩
  have hi32 : i = 32 := by omega
  subst hi32
  refine o.box fun cb H5 o _ => ?_
  have o : Owns H0 H5 (.box cb [.pointer none, .pointer none, .pointer none, .slice none 0 0, .int .i64 0, .int .i64 0, .int .i64 0] 104 :: .sl d3 1 (numsV (List.replicate 32 5)) :: .sl l2 1 (numsV fixL) :: L) := o
  refine newO_spec (zs := fixL) o (o.sl (v := l2) (by repeat (first | exact List.mem_cons_self | apply List.mem_cons_of_mem))) (by decide +kernel) (fun H5 hw => absurd fixL_why hw) fun H6 M p _ hp o => ?_
  refine pExtract_to (vs := [p, .int .i64 0]) rfl ?_
  refine pExtract_to (vs := [p, .int .i64 0]) rfl ?_
  rw [pNil_v, pFieldAddr_v, add_mk]
  have o := o.mid
  have hp2 := hp
  obtain ⟨_, cb1, lv1, wv1, sv1, hpe, _⟩ := hp2
  refine o.bstore (b := cb) (f := 0 + 0) (x := p) (by repeat (first | exact List.mem_cons_self | apply List.mem_cons_of_mem)) (by decide) (by rw [hpe]; rfl) (by repeat (first | exact Rep.here | apply Rep.there)) fun H7 o _ => ?_
  have o : Owns H0 H7 (.box cb [p, .pointer none, .pointer none, .slice none 0 0, .int .i64 0, .int .i64 0, .int .i64 0] 104 :: (M ++ .sl d3 1 (numsV (List.replicate 32 5)) :: .sl l2 1 (numsV fixL) :: L)) := o
  have o := o.pick (List.Sublist.cons_cons _ (List.Sublist.append (List.Sublist.refl M) (List.Sublist.cons_cons _ (List.sublist_cons_self _ L))))
  refine newO_spec (zs := fixD) o (o.sl (v := d3) (List.mem_cons_of_mem _ (List.mem_append_right _ (by repeat (first | exact List.mem_cons_self | apply List.mem_cons_of_mem))))) (by decide +kernel) (fun H5 hw => absurd fixD_why hw) fun H8 M2 q _ hq o => ?_
  refine pExtract_to (vs := [q, .int .i64 0]) rfl ?_
  refine pExtract_to (vs := [q, .int .i64 0]) rfl ?_
  rw [pNil_v, pFieldAddr_v, add_mk]
  have o := o.mid
  have hq2 := hq
  obtain ⟨_, cb2, lv2, wv2, sv2, hqe, _⟩ := hq2
  refine o.bstore (b := cb) (f := 0 + 1) (x := q) (by repeat (first | exact List.mem_cons_self | apply List.mem_cons_of_mem)) (by simp) (by rw [hqe]; rfl) (by repeat (first | exact Rep.here | apply Rep.there)) fun H9 o _ => ?_
  have o : Owns H0 H9 (.box cb [p, q, .pointer none, .slice none 0 0, .int .i64 0, .int .i64 0, .int .i64 0] 104 :: (M2 ++ (M ++ .sl d3 1 (numsV (List.replicate 32 5)) :: L))) := o
  have o := o.pick (List.Sublist.cons_cons _ (List.Sublist.append (List.Sublist.refl M2) (List.Sublist.append (List.Sublist.refl M) (List.sublist_cons_self _ L))))
  have e : It.box cb [p, q, .pointer none, .slice none 0 0, .int .i64 0, .int .i64 0, .int .i64 0] 104 :: (M2 ++ (M ++ L)) = (It.box cb [p, q, .pointer none, .slice none 0 0, .int .i64 0, .int .i64 0, .int .i64 0] 104 :: (M2 ++ M)) ++ L := by simp
  rw [e] at o
  exact h H9 _ cb p q _ (by repeat (first | exact List.mem_cons_self | apply List.mem_cons_of_mem)) hp.app.cons hq.appl.cons o
theorem bits3f (l : Bool) : bitsN (2 + (if l then 1 else 0)) 3 = [l, true, false] := by cases l <;> rfl
theorem bits3s (l : Bool) : bitsN (0 + (if l then 1 else 0)) 3 = [l, false, false] := by cases l <;> rfl
theorem write_fix {G : List Tok} {lv dv : Value} {s : List UInt8} {l : Bool} (hsl : s.length ≤ 65535) (hl : It.sl lv 3 (toksL G) ∈ L) (hlen : G.length ≤ 65535) (hg : ∀ t ∈ G, goodK t = true) (hbig : B.length ≤ 400000000)
    (o : Owns H0 H (.thing (wrT b dv B) :: L))
    (h : ∀ H' dv', Owns H0 H' (.thing (wrT b dv' (B ++ (l :: true :: false :: toksG fixL fixD G))) :: L) → R (.int .i64 0) H') :
    CallsH Tryz.prog 6 #[at_ b 0, .int .i64 1, .bool l, str s, lv] H R := by
  refine block_Write.vc _ _ _ _ _ _ _ ?_
  unfold block_Write.res
  rw [pEq_3s]
  refine pOr_false ?_
  refine may_spec (kind := 1) (by decide) hsl (o.sl (v := lv) (List.mem_cons_of_mem _ hl)) hlen hg fun H1 hx1 => ?_
  rw [pNot_v]
  intro _
  show pCond (.bool false) _ _
  rw [pCond_false, pConv_v, wu64 (by decide) (by decide), pShl_v]
  refine ⟨by decide, ?_⟩
  have o1 := o.more hx1
  refine ⟨fun hd H' => hd = .int .u64 ((2 + (if l then 1 else 0) : Nat) : Int) ∧ H1 = H', ?_, ?_⟩
  · rintro _ _ _ ⟨rfl, rfl⟩
    refine wbitsG (n := 2 + (if l then 1 else 0)) (k := 3) (by split <;> omega) (by decide) (by omega) o1 fun H3 dv3 o => ?_
    rw [pEq_0, decide_eq_false (by decide), pCond_false, pEq_0, decide_eq_true rfl, pCond_true]
    refine fixedCoder_spec o fun H4 M cb p q rest hcb hp hq o => ?_
    have o := o.perm (L' := .thing (wrT b dv3 (B ++ bitsN (2 + (if l then 1 else 0)) 3)) :: (M ++ L)) List.perm_middle.symm
    refine tokens_spec (sy := fixL) (di := fixD) (List.mem_append_right _ hl) (List.mem_append_left _ hcb) hp.appl hq.appl (fix_hasW (by decide)) (fun t ht => ⟨hg t ht, fix_hasT (hg t ht)⟩) hlen (by rw [List.length_append, bitsN_len]; omega) o fun H6 dv6 o => ?_
    refine h H6 dv6 ?_
    rw [bits3f] at o
    simp only [List.append_assoc, List.cons_append, List.nil_append] at o ⊢
    exact o.pick (List.Sublist.cons_cons _ (List.sublist_append_right M L))
  · rw [show IntKind.u64.wrap (1 * 2 ^ (min (1 : Int).toNat IntKind.u64.bits)) = 2 from rfl]
    cases l
    · rw [pCond_false]; exact ⟨rfl, rfl⟩
    · rw [pCond_true, pBits_v]; exact ⟨rfl, rfl⟩
theorem padB_8 {X : List Bool} (h : X.length % 8 = 0) : padB X = X := by
  unfold padB
  rw [h]
  simp
theorem write_stored {G : List Tok} {lv dv : Value} {s : List UInt8} {l : Bool} (hsl : s.length ≤ 65535) (hl : It.sl lv 3 (toksL G) ∈ L) (hlen : G.length ≤ 65535) (hg : ∀ t ∈ G, goodK t = true) (hbig : B.length ≤ 400000000)
    (o : Owns H0 H (.thing (wrT b dv B) :: L))
    (h : ∀ H' dv' r, r.length < 8 → (B.length + 3 + r.length) % 8 = 0 → Owns H0 H' (.thing (wrT b dv' (B ++ stoB l r s)) :: L) → R (.int .i64 0) H') :
    CallsH Tryz.prog 6 #[at_ b 0, .int .i64 0, .bool l, str s, lv] H R := by
  refine block_Write.vc _ _ _ _ _ _ _ ?_
  unfold block_Write.res
  rw [pEq_3s]
  refine pOr_false ?_
  refine may_spec (kind := 0) (by decide) hsl (o.sl (v := lv) (List.mem_cons_of_mem _ hl)) hlen hg fun H1 hx1 => ?_
  rw [pNot_v]
  intro _
  show pCond (.bool false) _ _
  rw [pCond_false, pConv_v, wu64 (by decide) (by decide), pShl_v]
  refine ⟨by decide, ?_⟩
  have o1 := o.more hx1
  refine ⟨fun hd H' => hd = .int .u64 ((0 + (if l then 1 else 0) : Nat) : Int) ∧ H1 = H', ?_, ?_⟩
  · rintro _ _ _ ⟨rfl, rfl⟩
    refine wbitsG (n := 0 + (if l then 1 else 0)) (k := 3) (by split <;> omega) (by decide) (by omega) o1 fun H3 dv3 o => ?_
    rw [pEq_0, decide_eq_true rfl, pCond_true, bits3s] at *
    have hl3 : (B ++ [l, false, false]).length = B.length + 3 := by rw [List.length_append]; rfl
    refine wAlign_spec (wr_at o (by repeat (first | exact List.mem_cons_self | apply List.mem_cons_of_mem))) (by omega) fun H4 dv4 w c4 => ?_
    have o := owns_wr o w c4 Rep.here
    obtain ⟨r, hpad, hr8⟩ := padB_ext7 (B ++ [l, false, false])
    have hpl := padB_len (B ++ [l, false, false])
    have hlp : (padB (B ++ [l, false, false])).length = B.length + 3 + r.length := by rw [hpad, List.length_append]; omega
    refine pLenS_to ?_
    refine pConv_to ?_
    rw [wu64 (by omega) (by omega)]
    refine put_spec (n := s.length) (k := 2) (by omega) (by decide) (by decide) fun H5 hx5 => ?_
    refine pLenS_to ?_
    rw [pSub_v, show (65535 : Int) - (s.length : Int) = ((65535 - s.length : Nat) : Int) by omega, w64 (by omega) (by omega)]
    refine pConv_to ?_
    rw [wu64 (by omega) (by omega)]
    refine put_spec (n := 65535 - s.length) (k := 2) (by omega) (by decide) (by decide) fun H6 hx6 => ?_
    refine pAdd_str (by rw [putN_len, putN_len]; omega) ?_
    refine pAdd_str (by rw [List.length_append, putN_len, putN_len]; omega) ?_
    have o := (o.more hx5).more hx6
    refine wAdd_spec (wr_at o (by repeat (first | exact List.mem_cons_self | apply List.mem_cons_of_mem))) (by simp only [List.length_append, putN_len, hlp]; omega) fun H7 dv7 w c7 => ?_
    have o := owns_wr o w c7 Rep.here
    rw [padB_8 hpl.1, hpad, toBits_append, toBits_append, toBits_putN, toBits_putN] at o
    refine h H7 dv7 r hr8 (by omega) ?_
    unfold stoB
    simp only [List.append_assoc, List.cons_append, List.nil_append] at o ⊢
    exact o
  · rw [show IntKind.u64.wrap (0 * 2 ^ (min (1 : Int).toNat IntKind.u64.bits)) = 0 from rfl]
    cases l
    · rw [pCond_false]; exact ⟨rfl, rfl⟩
    · rw [pCond_true, pBits_v]; exact ⟨rfl, rfl⟩
theorem write_any {G : List Tok} {lv dv : Value} {s W V : List UInt8} {kind : Nat} (hk : kind < 3) (hG : Reads H0 ⟨0, 0, none⟩ ordV) (hsl : s.length ≤ 65535) (hl : It.sl lv 3 (toksL G) ∈ L) (hlen : G.length ≤ 65535) (hbig : B.length ≤ 400000000)
    (hV0 : kind = 0 → V = W ++ s) (hg : ∀ t ∈ G, goodK t = true) (hV : kind ≠ 0 → tellsF G W V)
    (o : Owns H0 H (.thing (wrT b dv B) :: L))
    (h : ∀ H' dv' X, Blk B.length false X W V → X.length ≤ 21000 + 50 * G.length + 8 * s.length → Owns H0 H' (.thing (wrT b dv' (B ++ X)) :: L) → R (.int .i64 0) H') :
    CallsH Tryz.prog 6 #[at_ b 0, .int .i64 (kind : Int), .bool false, str s, lv] H R := by
  match kind, hk with
  | 0, _ =>
    refine write_stored hsl hl hlen hg hbig o fun H' dv' r hr h8 o => h H' dv' _ ?_ ?_ o
    · rw [hV0 rfl]; exact blk_stored (by omega) hr h8
    · unfold stoB
      simp only [List.length_cons, List.length_append, bitsN_len, toBits_len]
      omega
  | 1, _ =>
    refine write_fix hsl hl hlen hg hbig o fun H' dv' o => h H' dv' _ (blk_fix (fun t ht => fix_hasT (hg t ht)) (fix_hasW (by decide)) (hV (by decide))) ?_ o
    have := toksG_len fixL_ok fixD_ok hg
    simp only [List.length_cons]; omega
  | 2, _ =>
    refine write_dyn hG hsl hl hlen hg hbig o fun H' dv' x y z E c d h256 hx hy hGt o => h H' dv' _ (blk_dyn d hx hy hGt h256 (hV (by decide))) ?_ o
    have h1 := toksG_len hx hy hg
    have h2 := dynB_len d
    simp only [List.length_cons, List.length_append]; omega
end Go.Proofs.YtameljhbkedhjaaGreatDoor
namespace Go.Proofs.YtameljhbkedhjaaGreatDoor
open Go Go.Vc Go.Proofs
set_option linter.unusedVariables false
set_option linter.unusedSimpArgs false
variable {H H0 H' : Heap} {R : Value → Heap → Prop} {v : Value} {L : List It} {b : Nat} {B : List Bool}
def pcE (p : List UInt8 × Int) : List Value := [str p.1, .int .i64 p.2]
def pcsV (T : List (List UInt8 × Int)) : List Value := T.flatMap pcE
theorem pcsV_cons (p : List UInt8 × Int) (T : List (List UInt8 × Int)) : pcsV (p :: T) = str p.1 :: .int .i64 p.2 :: pcsV T := rfl
theorem pcsV_len : ∀ T : List (List UInt8 × Int), (pcsV T).length = T.length * 2
  | [] => rfl
  | p :: T => by rw [pcsV_cons, List.length_cons, List.length_cons, pcsV_len T, List.length_cons]; omega
theorem pcsV_at : ∀ (T : List (List UInt8 × Int)) (i : Nat) (p : List UInt8 × Int), T[i]? = some p → (pcsV T)[i * 2]? = some (str p.1) ∧ (pcsV T)[i * 2 + 1]? = some (.int .i64 p.2)
  | [], i, p, h => by simp at h
  | q :: T, 0, p, h => by
    cases h
    exact ⟨rfl, rfl⟩
  | q :: T, i + 1, p, h => by
    have := pcsV_at T i p h
    rw [pcsV_cons, show (i + 1) * 2 = i * 2 + 1 + 1 by omega]
    exact this
theorem pcs_of : ∀ L : List (List Value), (∀ r ∈ L, r.length = 2) → (∀ r ∈ L, FitAll [.string, .int .i64] fun j => r[j]?) → ∃ T : List (List UInt8 × Int), T.length = L.length ∧ pcsV T = L.flatten ∧ ∀ p ∈ T, p.1.length ≤ maxLen ∧ -9223372036854775808 ≤ p.2 ∧ p.2 ≤ 9223372036854775807
  | [], _, _ => ⟨[], rfl, rfl, by simp⟩
  | r :: L, h1, h2 => by
    obtain ⟨T, h3, h4, h5⟩ := pcs_of L (fun r hr => h1 r (by simp [hr])) (fun r hr => h2 r (by simp [hr]))
    have hl := h1 r (by simp)
    have hf := h2 r (by simp)
    match r, hl with
    | [x, y], _ =>
      obtain ⟨_, g0, s, rfl, hs⟩ := hf 0 _ rfl
      obtain ⟨_, g1, z, rfl, hz⟩ := hf 1 _ rfl
      simp at g0 g1
      subst g0 g1
      refine ⟨(s, z) :: T, by simp [h3], ?_, ?_⟩
      · rw [List.flatten_cons, ← h4]; rfl
      · intro p hp
        rcases List.mem_cons.1 hp with rfl | hp
        · exact ⟨hs, wf64 hz⟩
        · exact h5 p hp
theorem nil3 {H0 H : Heap} (o : Owns H0 H L) : Owns H0 H (.sl (.slice none 0 0) 3 (toksL []) :: L) :=
  o.add (Ext.refl _) (i := .sl (.slice none 0 0) 3 []) ⟨by decide, .inl ⟨rfl, rfl⟩⟩ (by intro k hk; exact absurd hk (by simp [It.foot, blkOf]))
theorem toksL_snoc (T : List Tok) (t : Tok) : toksL T ++ t.v.cells.toList = toksL (T ++ [t]) := by unfold toksL; rw [List.flatMap_append]; simp; rfl
theorem feeds_spec {s V : List UInt8} {pc : Nat} (hI : Reads H ⟨1, 0, none⟩ ordV) (hrun : run ⟨.hd, toBits s, []⟩ = (V, ⟨.dn, [], V⟩, 0)) (hsl : s.length ≤ 100000) (hp0 : 1 ≤ pc) (hp1 : pc ≤ 100) (h : ∀ H', Ext H H' → R (.bool true) H') :
    CallsH Tryz.prog 9 #[] H fun x119 H_25 =>
      ∃ (I_26 : Value → Value → Heap → Prop) (m_27 : Value → Value → Heap → Nat), I_26 (str []) (.int .i64 0) H_25 ∧
      ∀ _ : Env, ∀ got15 : Value, ∀ at16 : Value, ∀ H_28 : Heap, I_26 got15 at16 H_28 →
      pLenS (str s) fun x122 =>
      pLt at16 x122 fun x123 =>
      pCond x123
      (pAdd at16 (.int .i64 (pc : Int)) fun x133 =>
      pLenS (str s) fun x135 =>
      pMin x133 x135 fun x136 =>
      pSlStr (str s) (some at16) (some x136) fun x137 =>
      CallsH Tryz.prog 10 #[x119, x137] H_28 fun x138 H_29 =>
      pExtract 0 x138 fun x139 =>
      pExtract 1 x138 fun x140 =>
      pNe 0 x140 (.int .i64 0) fun x142 =>
      pCond x142
      (R (.bool false) H_29)
      (pAdd got15 x139 fun x145 =>
      pAdd at16 (.int .i64 (pc : Int)) fun x126 =>
      I_26 x145 x126 H_29 ∧ m_27 x145 x126 H_29 < m_27 got15 at16 H_28))
      (CallsH Tryz.prog 11 #[x119] H_28 fun x147 H_30 =>
      pAnd x147 (fun J_31 =>
      pEq 1 got15 (str V) fun x151 =>
      J_31 x151 H_30) H_30 fun x152 H_32 => ∀ _ : Env,
      R x152 H_32) := by
  have h0 : (run ⟨.hd, toBits s, []⟩).2.2 = 0 := by rw [hrun]
  refine new_spec7 (Owns.start (H := H)) fun H9 b9 r9 => ?_
  refine ⟨fun g u H' => ∃ (p : Nat) (M : List It), u = .int .i64 (p : Int) ∧ p ≤ s.length + 100 ∧ g = str (preR s p).1 ∧ Rest7 H H' b9 (preR s p).2.1 (min p s.length) M, fun _ u _ => match u with | .int _ x => 1000000 - x.toNat | _ => 0, ⟨0, [], rfl, by omega, by rw [preR_zero], by rw [preR_zero]; simpa using r9⟩, ?_⟩
  rintro _ _ _ H10 ⟨p, M, rfl, hp, rfl, r10⟩
  refine pLenS_to ?_
  rw [pLt_v]
  refine pCond_if (fun hc => ?_) (fun hc => ?_)
  · have hpl : p < s.length := by omega
    rw [pAdd_v, w64 (by omega) (by omega)]
    refine pLenS_to ?_
    rw [pMin_v, show min ((p : Int) + (pc : Int)) (s.length : Int) = ((min (p + pc) s.length : Nat) : Int) by omega]
    refine pSlStr_to (lo := p) (hi := min (p + pc) s.length) (.inl rfl) (.inl rfl) (by omega) (by omega) ?_
    have hq : (s.drop p).take (min (p + pc) s.length - p) = (s.drop p).take pc := by
      by_cases g : p + pc ≤ s.length
      · rw [Nat.min_eq_left g, Nat.add_sub_cancel_left]
      · rw [Nat.min_eq_right (by omega), List.take_of_length_le (by rw [List.length_drop]; omega), List.take_of_length_le (by rw [List.length_drop]; omega)]
    rw [hq]
    have hinv := preR_inv s p
    have hnx := preR_next h0 p pc
    have hok := preR_ok h0 (p + pc)
    have hql : ((s.drop p).take pc).length ≤ 100 := by rw [List.length_take]; omega
    have hql2 : ((s.drop p).take pc).length = min (p + pc) s.length - p := by rw [List.length_take, List.length_drop]; omega
    refine feed_spec7 hI r10 hinv.2.2 (by omega) (by omega) (fun o D' H4 M2 hr4 r4 => ?_) (fun o D' e H4 M2 hr4 he d => ?_)
    · rw [hr4] at hnx
      refine pExtract_to rfl ?_
      refine pExtract_to rfl ?_
      refine ne_ok ?_
      rw [pCond_false]
      refine pAdd_str ?_ ?_
      · have h1 := preR_inv s (p + pc)
        rw [hnx] at h1
        have h2 := congrArg List.length h1.1
        dsimp only at h1 h2
        rw [List.length_append] at h2
        omega
      rw [pAdd_v, show (p : Int) + (pc : Int) = ((p + pc : Nat) : Int) by omega, w64 (by omega) (by omega)]
      refine ⟨⟨p + pc, M2 ++ M, rfl, by omega, by rw [hnx], ?_⟩, by show 1000000 - ((p + pc : Nat) : Int).toNat < 1000000 - (p : Int).toNat; omega⟩
      rw [hnx]
      rw [hql2, show min p s.length + (min (p + pc) s.length - p) = min (p + pc) s.length by omega] at r4
      exact r4
    · rw [hr4] at hnx
      rw [hnx] at hok
      exact absurd hok he
  · have hall := preR_all (s := s) (p := p) (by omega)
    rw [hrun] at hall
    rw [hall] at r10 ⊢
    refine done_spec7 r10 ?_
    refine pAnd_true ?_
    refine pEq1_to ?_
    rw [decide_eq_true rfl]
    intro _
    have hx10 : Ext H H10 := by obtain ⟨q, _, bp, bv, _, _, rv, ring, _, _, o⟩ := r10; exact o.ext
    exact h H10 hx10
theorem TopBlocks_law (a : Option Addr) (len cap : Nat) (cut : Int) (hG : Reads H ⟨0, 0, none⟩ ordV) (hI : Reads H ⟨1, 0, none⟩ ordV) (w0 : StructRow [.string, .int .i64] H a len cap) (w1 : (Lit.int .i64 cut).wf = true) : CallsH Tryz.prog 3 #[.slice a len cap, .int .i64 cut] H (LawOk H) := by
  have hmax : maxLen = 9223372036854775807 := rfl
  obtain ⟨LL, hLl, hlm, hL1, hL2, hS⟩ := w0.rows (by decide)
  obtain ⟨T, hT1, hT2, hT3⟩ := pcs_of LL hL1 hL2
  have hS : Sl H (.slice a len cap) 2 (pcsV T) := by rw [hT2]; exact hS
  have hTl : T.length = len := hT1.trans hLl
  have hvl : (pcsV T).length = len * 2 := by rw [pcsV_len, hTl]
  refine lightertop_TopBlocks.vc _ _ _ _ ?_
  unfold lightertop_TopBlocks.res
  refine blocks_spec hG hI fun H1 hx1 => ?_
  rw [pNot_v, Bool.not_true, pCond_false]
  refine (Owns.start (H := H1)).box fun b H2 o _ => ?_
  have o := wr_new o
  refine ⟨fun w i H' => ∃ (k : Nat) (W : List UInt8) (B : List Bool) (dv : Value), w = str W ∧ i = .int .i64 (k : Int) ∧ k ≤ len ∧ k ≤ 12 ∧ W.length ≤ 458 * k ∧ B.length ≤ 40000 * k ∧ Strm B W ∧ Owns H1 H' [.thing (wrT b dv B)], fun _ i _ => match i with | .int _ x => (12 - x).toNat | _ => 0,
    ⟨0, [], [], _, rfl, rfl, by omega, by omega, by simp, by simp, Strm.nil, o⟩, ?_⟩
  clear o
  rintro _ _ _ H3 ⟨k, W, B, dv, rfl, rfl, hk, hk12, hWl, hBl, hst, o⟩
  have hS3 := hS.ext (hx1.trans o.ext)
  refine hS3.len hvl (by decide) ?_
  rw [pLt_v]
  refine pAnd_if (d := decide ((k : Int) < 12)) (fun _ => ?_) ?_
  · rw [pLt_v]; exact ⟨rfl, rfl⟩
  intro _
  refine pCond_b (fun hc => ?_) (fun hc => ?_)
  · rw [Bool.and_eq_true, decide_eq_true_eq, decide_eq_true_eq] at hc
    have hkT : k < T.length := by omega
    obtain ⟨p, hp⟩ : ∃ p, T[k]? = some p := ⟨T[k], List.getElem?_eq_getElem hkT⟩
    obtain ⟨at0, at1⟩ := pcsV_at T k p hp
    obtain ⟨hp1, hp2, hp3⟩ := hT3 p (List.mem_of_getElem? hp)
    have ld0 : ∀ {H' : Heap} {K : Value → Prop}, Ext H1 H' → K (str p.1) → pIdxSl 2 (.slice a len cap) (.int .i64 (k : Int)) fun x33 => pFieldAddr 0 x33 fun x34 => pLoad H' x34 K := fun hx hK => by
      have hS' := hS.ext (hx1.trans hx)
      refine hS'.at_ hvl (by decide) (by omega) (by omega) fun q hq => ?_
      refine hq.field (f := 0) fun q2 hq2 => ?_
      exact hq2.load hS' (by rw [Int.toNat_natCast]; exact at0) hK
    have ld1 : ∀ {H' : Heap} {K : Value → Prop}, Ext H1 H' → K (.int .i64 p.2) → pIdxSl 2 (.slice a len cap) (.int .i64 (k : Int)) fun x33 => pFieldAddr 1 x33 fun x34 => pLoad H' x34 K := fun hx hK => by
      have hS' := hS.ext (hx1.trans hx)
      refine hS'.at_ hvl (by decide) (by omega) (by omega) fun q hq => ?_
      refine hq.field (f := 1) fun q2 hq2 => ?_
      exact hq2.load hS' (by rw [Int.toNat_natCast]; exact at1) hK
    have hm0 := Int.emod_nonneg p.2 (show (2 : Int) ^ 2 ≠ 0 by decide)
    have hm1 := Int.emod_lt_of_pos p.2 (show (0 : Int) < 2 ^ 2 by decide)
    obtain ⟨kd, hkd, hkd3⟩ : ∃ kd : Nat, (p.2 % 2 ^ 2).tmod 3 = (kd : Int) ∧ kd < 3 := ⟨((p.2 % 2 ^ 2).tmod 3).toNat, by rw [Int.tmod_eq_emod_of_nonneg hm0]; omega, by rw [Int.tmod_eq_emod_of_nonneg hm0]; omega⟩
    refine ld0 o.ext ?_
    refine ld0 o.ext ?_
    refine pLenS_to ?_
    rw [pMin_v, show min (p.1.length : Int) 200 = ((min p.1.length 200 : Nat) : Int) by omega]
    refine pSlStr_to (lo := 0) (hi := min p.1.length 200) (.inr ⟨rfl, rfl⟩) (.inl rfl) (by omega) (by omega) ?_
    rw [List.drop_zero, Nat.sub_zero]
    have hs0 : (p.1.take (min p.1.length 200)).length ≤ 200 := by rw [List.length_take]; omega
    generalize p.1.take (min p.1.length 200) = s0 at hs0
    refine ⟨fun t i H' => ∃ j : Nat, i = .int .i64 (j : Int) ∧ j ≤ s0.length ∧ Owns H1 H' [.sl t 3 (toksL ((s0.take j).map litT)), .thing (wrT b dv B)], fun _ i _ => match i with | .int _ x => (s0.length - x).toNat | _ => 0, ⟨0, rfl, by omega, by rw [List.take_zero]; exact nil3 o⟩, ?_⟩
    clear o hS3
    rintro _ tv _ H4 ⟨j, rfl, hj, o⟩
    have htl : ((s0.take j).map litT).length = j := by rw [List.length_map, List.length_take]; omega
    refine pLenS_to ?_
    rw [pLt_v]
    refine pCond_if (fun hc2 => ?_) (fun hc2 => ?_)
    · have hjs : j < s0.length := by omega
      rw [pIdxStr_v, bys_mk]
      refine ⟨by omega, by omega, ?_⟩
      rw [Int.toNat_natCast, show s0.getD j 0 = s0[j] by rw [List.getD_eq_getElem?_getD, List.getElem?_eq_getElem hjs]; rfl]
      refine pBuild_one rfl (by decide) ?_
      rw [pBuild_n]
      refine o.build1 (sz := 3) (x := (litT s0[j]).v) (by decide) rfl rfl fun y H5 o => ?_
      refine o.append (sz := 3) (v := tv) (x := y) (n := j) (m := 1) (by repeat (first | exact Sel.here | apply Sel.there)) rfl (o.sl (v := y) (by repeat (first | exact List.mem_cons_self | apply List.mem_cons_of_mem))) (by rw [toksL_len, htl]) rfl rfl (by omega) fun tv2 H6 o => ?_
      rw [toksL_snoc, show (s0.take j).map litT ++ [litT s0[j]] = (s0.take (j + 1)).map litT by rw [List.take_add_one, List.getElem?_eq_getElem hjs, List.map_append]; rfl] at o
      rw [pAdd_v, w64 (by omega) (by omega)]
      exact ⟨⟨j + 1, rfl, by omega, o.pick (List.Sublist.cons_cons _ (List.Sublist.cons _ (List.Sublist.refl _)))⟩, by show (_ : Int).toNat < (_ : Int).toNat; omega⟩
    have hjs : j = s0.length := by omega
    subst hjs
    rw [List.take_length] at o htl
    refine ⟨fun sv tv H' => ∃ (s : List UInt8) (G : List Tok), sv = str s ∧ s.length ≤ 458 ∧ G.length ≤ 201 ∧ (∀ t ∈ G, goodK t = true) ∧ (kd ≠ 0 → tellsF G W (W ++ s)) ∧ Owns H1 H' [.sl tv 3 (toksL G), .thing (wrT b dv B)], ?_, ?_⟩
    · clear o
      rintro _ _ tv H5 ⟨s, G, rfl, hsl, hGl, hGg, hGt, o⟩
      refine ld1 o.ext ?_
      rw [pBits_v, and_low (k := 2) (m := 3) (by decide) rfl, pRem_v]
      refine ⟨by decide, ?_⟩
      rw [hkd]
      refine write_any (G := G) (W := W) (V := W ++ s) hkd3 ((hG.ext hx1)) (by omega) (lv := tv) (L := [.sl tv 3 (toksL G)]) (by repeat (first | exact List.mem_cons_self | apply List.mem_cons_of_mem)) (by omega) (by omega) (fun _ => rfl) hGg hGt o.swap fun H6 dv6 X hX hXl o => ?_
      rw [pNe_0, decide_eq_false (by simp), pCond_false]
      refine pAdd_str (by omega) ?_
      rw [pAdd_v, w64 (by omega) (by omega)]
      refine ⟨⟨k + 1, W ++ s, B ++ X, dv6, rfl, rfl, by omega, by omega, by rw [List.length_append]; omega, by rw [List.length_append]; omega, hst.add hX, o.pick (List.Sublist.cons_cons _ (List.nil_sublist _))⟩, by show (_ : Int).toNat < (_ : Int).toNat; omega⟩
    · refine pAdd_str (by omega) ?_
      have hal : (W ++ s0).length = W.length + s0.length := List.length_append
      refine ld1 o.ext ?_
      rw [pBits_v, pGt_v]
      refine pAnd_if (d := decide (0 < kd)) (fun _ => ?_) ?_
      · refine ld1 o.ext ?_
        rw [pBits_v, and_low (k := 2) (m := 3) (by decide) rfl, pRem_v]
        refine ⟨by decide, ?_⟩
        rw [hkd, pGt_v]
        exact ⟨by congr 1; simp, rfl⟩
      intro _
      refine pAnd_if (d := decide (3 ≤ (W ++ s0).length)) (fun _ => ?_) ?_
      · refine pLenS_to ?_
        rw [pGe_v]
        refine ⟨?_, rfl⟩
        congr 1
        rw [decide_eq_decide]
        omega
      intro _
      refine pCond_b (fun hm => ?_) (fun hm => ?_)
      · rw [Bool.and_eq_true, Bool.and_eq_true, decide_eq_true_eq, decide_eq_true_eq, decide_eq_true_eq] at hm
        obtain ⟨⟨_, hm1⟩, hm2⟩ := hm
        refine pLenS_to ?_
        obtain ⟨n, hn⟩ : ∃ n, n = min (W ++ s0).length 258 := ⟨_, rfl⟩
        rw [pMin_v, show min ((W ++ s0).length : Int) 258 = (n : Int) by omega]
        refine pBuild_one rfl (by simp) ?_
        refine pBuild_one rfl (by simp) ?_
        rw [pBuild_n]
        refine o.build1 (sz := 3) (x := (matU n).v) (by decide) rfl rfl fun y H5 o => ?_
        refine o.append (sz := 3) (v := tv) (x := y) (n := s0.length) (m := 1) (by repeat (first | exact Sel.here | apply Sel.there)) rfl (o.sl (v := y) (by repeat (first | exact List.mem_cons_self | apply List.mem_cons_of_mem))) (by rw [toksL_len, htl]) rfl rfl (by omega) fun tv2 H6 o => ?_
        rw [toksL_snoc] at o
        refine pLenS_to ?_
        rw [pSub_v, show ((W ++ s0).length : Int) - (n : Int) = (((W ++ s0).length - n : Nat) : Int) by omega, w64 (by omega) (by omega)]
        refine pSlStr_to (lo := (W ++ s0).length - n) (hi := (W ++ s0).length) (.inl rfl) (.inr ⟨rfl, rfl⟩) (by omega) (by omega) ?_
        rw [List.take_of_length_le (by rw [List.length_drop]; omega)]
        have hdl : ((W ++ s0).drop ((W ++ s0).length - n)).length = n := by rw [List.length_drop]; omega
        refine pAdd_str (by omega) ?_
        refine ⟨_, s0.map litT ++ [matU n], rfl, by rw [List.length_append]; omega, by rw [List.length_append, htl]; simp; omega, ?_, fun _ => ?_, o.pick (List.Sublist.cons_cons _ (List.Sublist.cons _ (List.Sublist.refl _)))⟩
        · intro t ht
          rcases List.mem_append.1 ht with ht | ht
          · obtain ⟨c, _, rfl⟩ := List.mem_map.1 ht; exact litT_good c
          · rw [List.mem_singleton.1 ht]; exact matU_good (by omega) (by omega)
        · rw [← List.append_assoc]
          exact tells_lits s0 _ W _ (tells_mat (by omega) (by omega) (by omega))
      · refine ⟨s0, s0.map litT, rfl, by omega, by omega, ?_, fun _ => ?_, o⟩
        · intro t ht
          obtain ⟨c, _, rfl⟩ := List.mem_map.1 ht; exact litT_good c
        · have := tells_lits s0 [] W (W ++ s0) rfl
          rwa [List.append_nil] at this
  · clear hc
    refine write_fix (G := []) (s := []) (l := true) (L := [.sl (.slice none 0 0) 3 (toksL [])]) (by decide) (by repeat (first | exact List.mem_cons_self | apply List.mem_cons_of_mem)) (by decide) (by simp) (by omega) (nil3 o).swap fun H5 dv5 o => ?_
    have hbk := blk_fix (n := B.length) (l := true) (G := []) (W := W) (V := W) (by simp) (fix_hasW (by decide)) rfl
    have hXl : (true :: true :: false :: toksG fixL fixD []).length ≤ 100 := by
      have := toksG_len fixL_ok fixD_ok (G := []) (by simp)
      simp only [List.length_cons, List.length_nil] at this ⊢; omega
    generalize true :: true :: false :: toksG fixL fixD [] = X at o hbk hXl
    have hBX : (B ++ X).length ≤ 500000 := by rw [List.length_append]; omega
    refine wAlign_spec (wr_at o (by repeat (first | exact List.mem_cons_self | apply List.mem_cons_of_mem))) (by omega) fun H6 dv6 w c => ?_
    have o := owns_wr o w c Rep.here
    obtain ⟨r, hpad, hr8⟩ := padB_ext7 (B ++ X)
    have hpl := padB_len (B ++ X)
    refine wDrain_spec (wr_at o (by repeat (first | exact List.mem_cons_self | apply List.mem_cons_of_mem))) fun H7 dv7 w c => ?_
    have o := owns_wr o w c Rep.here
    have hrun := hst.fin hbk hr8 (by rw [← hpad]; exact hpl.1)
    have hs : toBits (toBytes (padB (B ++ X))) = B ++ X ++ r := by
      rw [toBits_toBytes ((padB (B ++ X)).length / 8) _ (by omega), hpad]
    rw [← hs] at hrun
    have hsl : (toBytes (padB (B ++ X))).length ≤ 100000 := by
      rw [toBytes_len ((padB (B ++ X)).length / 8) _ rfl]; omega
    rw [pBits_v, and_low (k := 5) (m := 31) (by decide) rfl, pAdd_v]
    obtain ⟨pc, hpc⟩ : ∃ pc : Nat, 1 + cut % 2 ^ 5 = (pc : Int) := ⟨(1 + cut % 2 ^ 5).toNat, by omega⟩
    have hpc1 : 1 ≤ pc ∧ pc ≤ 32 := by omega
    rw [hpc, w64 (by omega) (by omega)]
    exact feeds_spec (R := LawOk H) (hI.ext (hx1.trans o.ext)) hrun hsl hpc1.1 (by omega) fun H8 hx8 => ⟨rfl, (hx1.trans o.ext).trans hx8⟩
end Go.Proofs.YtameljhbkedhjaaGreatDoor
