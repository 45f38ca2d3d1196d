/- Contracts of package match: tokens, and the document's answers. -/
import Derived.Test.YtfmbgnchedhneaaDoorMatch
import Derived.Test.YtfmbgnchedhneaaDoorMatchT
import Derived.Test.YtfmbgnchedhneaaDoorResLighterref08
namespace Go.Proofs.YtfmbgnchedhneaaDoor
-- only what is there
open Go Go.Vc Go.Proofs
set_option linter.unusedVariables false
set_option linter.unusedSimpArgs false
variable {H H0 : Heap} {R : Value → Heap → Prop} {v : Value} {L : List It} {T : List UInt8} {fb at_ dp e : Nat}
theorem nil8 (sz : Nat) (hz : 0 < sz) (o : Owns H0 H L) : Owns H0 H (.sl (.slice none 0 0) sz [] :: L) :=
  o.add (Ext.refl _) (i := .sl (.slice none 0 0) sz []) ⟨hz, .inl ⟨rfl, rfl⟩⟩ (by intro k hk; exact absurd hk (by simp [It.foot, blkOf]))
theorem agg8 (l : List Value) : (Value.agg l.toArray).cells.toList = l := rfl
theorem toksL_snoc (l : List Tok) (t : Tok) : toksL (l ++ [t]) = toksL l ++ t.cells := by simp [toksL]
theorem tokens8_spec {lazy : Bool} (f : FS H0 H fb T at_ dp at_ L) (hl : T.length ≤ 1000000) (ha : at_ ≤ T.length) (h : ∀ H' y L', Owns H0 H' (.sl y 3 (toksL (toksF T dp lazy T.length at_)) :: L') → R y H') : CallsH Tryd.prog 26 #[ptr8 fb, .bool lazy] H R := by
  refine match_finder_tokens.vc _ _ _ _ ?_
  unfold match_finder_tokens.res
  obtain ⟨r, pv, o⟩ := f
  rw [pNil_v, pFieldAddr_v, add_mk]
  refine o.bload (b := fb) (f := 0 + 1) (by repeat (first | exact List.mem_cons_self | apply List.mem_cons_of_mem)) rfl ?_
  have o := nil8 3 (by decide) o
  have f : FS H0 H fb T at_ dp at_ (.sl (.slice none 0 0) 3 (toksL []) :: L) := ⟨r, pv, o.arrT (by repeat (first | exact SelsT.refl | exact Sel.here | apply SelsT.cons | apply Sel.there))⟩
  refine ⟨fun out i H' => ∃ (k : Nat) (pre : List Tok) (L' : List It), i = .int .i64 (k : Int) ∧ at_ ≤ k ∧ k ≤ T.length ∧ FS H0 H' fb T at_ dp k (.sl out 3 (toksL pre) :: L') ∧ pre ++ toksF T dp lazy T.length k = toksF T dp lazy T.length at_ ∧ pre.length ≤ k, fun _ i _ => match i with | .int _ x => T.length - x.toNat | _ => 0, ⟨at_, [], L, rfl, Nat.le_refl _, ha, f, rfl, by simp⟩, ?_⟩
  clear f o
  rintro _ out _ H1 ⟨k, pre, L', rfl, hak, hkT, f, hpre, hpl⟩
  obtain ⟨r, pv, o⟩ := f
  rw [pNil_v, pFieldAddr_v, add_mk]
  refine o.bload (b := fb) (f := 0 + 0) (by repeat (first | exact List.mem_cons_self | apply List.mem_cons_of_mem)) rfl ?_
  refine pLenS_to ?_
  rw [pLt_v]
  refine pCond_if (fun hc => ?_) (fun hc => ?_)
  · have hkl : k < T.length := by omega
    have f : FS H0 H1 fb T at_ dp k (.sl out 3 (toksL pre) :: L') := ⟨r, pv, o⟩
    have hL := lenF_le T (k - (longF T dp k).2) k
    refine longest8_spec f hl hkT ?_
    refine pExtract_to rfl ?_
    refine pExtract_to rfl ?_
    have hn258 : (longF T dp k).1 ≤ 258 := by
      by_cases h0 : (longF T dp k).1 = 0
      · omega
      · obtain ⟨_, _, _, _, g⟩ := longF_is h0; omega
    refine enter8_spec f hl hkT fun H2 f => ?_
    have hpl3 : (toksL pre).length = pre.length * 3 := toksL_len pre
    refine ⟨fun n H' => n = .int .i64 (takeN T dp lazy k : Int) ∧ FS H0 H' fb T at_ dp (k + 1) (.sl out 3 (toksL pre) :: L'), ?_, ?_⟩
    · clear f o
      rintro _ _ H3 ⟨rfl, f⟩
      obtain ⟨r, pv, o⟩ := f
      rw [pEq_0]
      refine pCond_if (fun h0 => ?_) (fun h0 => ?_)
      · have h0 : takeN T dp lazy k = 0 := by omega
        have hft : toksF T dp lazy T.length k = litT (T.getD k 0) :: toksF T dp lazy T.length (k + 1) := by
          rw [toksF_fuel T.length ((T.length - 1) + 1) k (by omega) (by omega), toksF_lit hkl h0, toksF_fuel (T.length - 1) T.length (k + 1) (by omega) (by omega)]
        rw [pNil_v, pFieldAddr_v, add_mk]
        refine o.bload (b := fb) (f := 0 + 0) (by repeat (first | exact List.mem_cons_self | apply List.mem_cons_of_mem)) rfl ?_
        rw [pIdxStr_v]
        refine ⟨by omega, by rw [bys_mk]; omega, ?_⟩
        rw [bys_mk, Int.toNat_natCast]
        refine pBuild_one rfl (by decide) ?_
        rw [pBuild_n]
        refine o.build1 (sz := 3) (by decide) rfl rfl fun y H4 o => ?_
        have o : Owns H0 H4 (.sl y 3 (litT (T.getD k 0)).cells :: fIt fb T at_ r pv dp :: .thing (map8 r (hdM T (k + 1))) :: .sl pv 1 (nat8 (prvL T (k + 1))) :: .sl out 3 (toksL pre) :: L') := o
        refine o.append (v := out) (n := pre.length) (m := 1) (by repeat (first | exact Sel.here | apply Sel.there)) rfl (o.sl (v := y) (by repeat (first | exact List.mem_cons_self | apply List.mem_cons_of_mem))) hpl3 rfl rfl (by omega) fun y2 H5 o => ?_
        rw [← toksL_snoc] at o
        rw [pAdd_v, w64 (n := (k : Int) + 1) (by omega) (by omega)]
        refine ⟨⟨k + 1, pre ++ [litT (T.getD k 0)], _, rfl, by omega, by omega, ⟨r, pv, o.arrT (by repeat (first | exact SelsT.refl | exact Sel.here | apply SelsT.cons | apply Sel.there))⟩, ?_, by rw [List.length_append]; show pre.length + 1 ≤ _; omega⟩, by show T.length - ((k : Int) + 1).toNat < T.length - (k : Int).toNat; omega⟩
        rw [← hpre, hft, List.append_assoc]; rfl
      · have h0 : takeN T dp lazy k ≠ 0 := by omega
        obtain ⟨t1, t2, t3, t4, t5, t6, t7, t8⟩ := take_is h0
        have hft : toksF T dp lazy T.length k = matT (takeN T dp lazy k) (longF T dp k).2 :: toksF T dp lazy T.length (k + takeN T dp lazy k) := by
          rw [toksF_fuel T.length ((T.length - 1) + 1) k (by omega) (by omega), toksF_mat hkl h0, toksF_fuel (T.length - 1) T.length _ (by omega) (by omega)]
        refine pBuild_one rfl (by decide) ?_
        refine pBuild_one rfl (by simp) ?_
        rw [pBuild_n]
        refine o.build1 (sz := 3) (by decide) rfl rfl fun y H4 o => ?_
        have o : Owns H0 H4 (.sl y 3 (matT (takeN T dp lazy k) (longF T dp k).2).cells :: fIt fb T at_ r pv dp :: .thing (map8 r (hdM T (k + 1))) :: .sl pv 1 (nat8 (prvL T (k + 1))) :: .sl out 3 (toksL pre) :: L') := o
        refine o.append (v := out) (n := pre.length) (m := 1) (by repeat (first | exact Sel.here | apply Sel.there)) rfl (o.sl (v := y) (by repeat (first | exact List.mem_cons_self | apply List.mem_cons_of_mem))) hpl3 rfl rfl (by omega) fun y2 H5 o => ?_
        rw [← toksL_snoc] at o
        generalize hN : takeN T dp lazy k = N at *
        rw [pSub_v, show (N : Int) - 1 = ((N - 1 : Nat) : Int) by omega, w64 (by omega) (by omega)]
        have f : FS H0 H5 fb T at_ dp (k + 1 + 0) (.sl y2 3 (toksL (pre ++ [matT N (longF T dp k).2])) :: .sl y 3 (matT N (longF T dp k).2).cells :: L') := ⟨r, pv, o.arrT (by repeat (first | exact SelsT.refl | exact Sel.here | apply SelsT.cons | apply Sel.there))⟩
        refine ⟨fun i x H' => ∃ j : Nat, i = .int .i64 ((k + j : Nat) : Int) ∧ x = .int .i64 (j : Int) ∧ j ≤ N - 1 ∧ FS H0 H' fb T at_ dp (k + 1 + j) (.sl y2 3 (toksL (pre ++ [matT N (longF T dp k).2])) :: .sl y 3 (matT N (longF T dp k).2).cells :: L'), fun _ x _ => match x with | .int _ x => N - x.toNat | _ => 0, ⟨0, rfl, rfl, by omega, f⟩, ?_⟩
        clear f o
        rintro _ _ _ H6 ⟨j, rfl, rfl, hj, f⟩
        rw [pLt_v]
        refine pCond_if (fun hc2 => ?_) (fun hc2 => ?_)
        · rw [pAdd_v, show ((k + j : Nat) : Int) + 1 = ((k + 1 + j : Nat) : Int) by omega, w64 (by omega) (by omega)]
          refine enter8_spec f hl (by omega) fun H7 f => ?_
          rw [pAdd_v, w64 (n := (j : Int) + 1) (by omega) (by omega)]
          exact ⟨⟨j + 1, by rw [show k + (j + 1) = k + 1 + j by omega], rfl, by omega, f⟩, by show N - ((j : Int) + 1).toNat < N - (j : Int).toNat; omega⟩
        · have hjN : j = N - 1 := by omega
          rw [pAdd_v, show ((k + j : Nat) : Int) + 1 = ((k + N : Nat) : Int) by omega, w64 (by omega) (by omega)]
          rw [show k + 1 + j = k + N by omega] at f
          refine ⟨⟨k + N, pre ++ [matT N (longF T dp k).2], _, rfl, by omega, by omega, f, ?_, by rw [List.length_append]; show pre.length + 1 ≤ _; omega⟩, by show T.length - ((k + N : Nat) : Int).toNat < T.length - (k : Int).toNat; omega⟩
          rw [← hpre, hft, List.append_assoc]; rfl
    · rw [pGt_v]
      refine pAnd_if (d := lazy) (fun _ => ⟨rfl, rfl⟩) ?_
      intro _
      refine pAnd_if (d := decide (((longF T dp k).1 : Int) < 258)) (fun _ => by rw [pLt_v]; exact ⟨rfl, rfl⟩) ?_
      intro _
      refine pCond_b (fun hc2 => ?_) (fun hc2 => ?_)
      · rw [Bool.and_eq_true, Bool.and_eq_true, decide_eq_true_eq, decide_eq_true_eq] at hc2
        rw [pAdd_v, show (k : Int) + 1 = ((k + 1 : Nat) : Int) by omega, w64 (by omega) (by omega)]
        refine longest8_spec f hl (by omega) ?_
        refine pExtract_to rfl ?_
        refine pExtract_to rfl ?_
        rw [pGt_v]
        refine pCond_if (fun hc3 => ?_) (fun hc3 => ?_)
        · refine ⟨?_, f⟩
          unfold takeN
          rw [if_pos ⟨by omega, hc2.1.2, by omega, by omega⟩]; rfl
        · refine ⟨?_, f⟩
          unfold takeN
          rw [if_neg (by omega)]
      · refine ⟨?_, f⟩
        unfold takeN
        rw [if_neg]
        rintro ⟨g1, g2, g3, _⟩
        rw [decide_eq_true (by omega), g2, decide_eq_true (by omega)] at hc2
        cases hc2
  · have hkl : k = T.length := by omega
    rw [hkl, toksF_end (Nat.le_refl _), List.append_nil] at hpre
    rw [← hpre] at h
    have o : Owns H0 H1 (.sl out 3 (toksL pre) :: fIt fb T at_ r pv dp :: .thing (map8 r (hdM T k)) :: .sl pv 1 (nat8 (prvL T k)) :: L') := o.arrT (by repeat (first | exact SelsT.refl | exact Sel.here | apply SelsT.cons | apply Sel.there))
    exact h H1 out _ o
abbrev lastB (A : List UInt8) : List UInt8 := A.drop (A.length - 32768)
def depthN (l : Nat) : Nat := [0, 4, 8, 16, 16, 32, 64, 128, 512, 1073741824].getD l 0
def depthsV : List Value := [0, 4, 8, 16, 16, 32, 64, 128, 512, 1073741824].map fun n : Nat => .int .i64 (n : Int)
theorem depthN_le (l : Nat) : depthN l ≤ 1073741824 := by
  unfold depthN
  match l with
  | 0 | 1 | 2 | 3 | 4 | 5 | 6 | 7 | 8 | 9 => decide
  | l + 10 => exact Nat.zero_le _
theorem depthsV_get {l : Nat} (h : l < 10) : depthsV[l]? = some (.int .i64 (depthN l : Int)) := by
  match l, h with
  | 0, _ | 1, _ | 2, _ | 3, _ | 4, _ | 5, _ | 6, _ | 7, _ | 8, _ | 9, _ => rfl
/-- the tokens of a level -/
def tokA (A s : List UInt8) (l : Nat) : List Tok := if l = 0 then s.map litT else toksF (lastB A ++ s) (depthN l) (decide (4 ≤ l)) (lastB A ++ s).length (lastB A).length
theorem toksL_setB : ∀ (l : List Tok) (i : Nat) (x : UInt8), i < l.length → (toksL l).set (i * 3) (byteV x) = toksL (l.set i ⟨x, (l.getD i ⟨0, 0, 0⟩).n, (l.getD i ⟨0, 0, 0⟩).d⟩)
  | t :: l, 0, x, _ => by
    rw [Nat.zero_mul, List.set_cons_zero, List.getD_cons_zero]
    rfl
  | t :: l, i + 1, x, h => by
    rw [List.set_cons_succ, List.getD_cons_succ]
    show (t.cells ++ toksL l).set ((i + 1) * 3) (byteV x) = t.cells ++ toksL (l.set i _)
    rw [← toksL_setB l i x (by simpa using h), show (i + 1) * 3 = t.cells.length + i * 3 by show (i + 1) * 3 = 3 + i * 3; omega, List.set_append_right _ _ (by omega), Nat.add_sub_cancel_left]
theorem toks_rep (n : Nat) : repL [.int .u8 0, .int .i64 0, .int .i64 0] n = toksL (List.replicate n (litT 0)) := by
  induction n with
  | zero => rfl
  | succ n ih =>
    show [.int .u8 0, .int .i64 0, .int .i64 0] ++ repL [.int .u8 0, .int .i64 0, .int .i64 0] n = (litT 0).cells ++ toksL (List.replicate n (litT 0))
    rw [ih]; rfl
theorem tokensA_bad {A s : List UInt8} {l : Int} (hl : l < 0 ∨ 9 < l) (h : R (.tuple #[.slice none 0 0, .int .i64 1]) H) : CallsH Tryd.prog 12 #[str A, str s, .int .i64 l] H R := by
  refine match_Tokens.vc _ _ _ _ _ ?_
  unfold match_Tokens.res
  rw [pLt_v]
  refine pOr_if (d := decide (9 < l)) (fun _ => by rw [pGt_v]; exact ⟨rfl, rfl⟩) ?_
  intro _
  rw [show (decide (l < 0) || decide (9 < l)) = true from by rw [Bool.or_eq_true, decide_eq_true_eq, decide_eq_true_eq]; exact hl, pCond_true]
  exact h
theorem tokensA_spec {A s : List UInt8} {l : Nat} (hG : Reads H ⟨0, 0, none⟩ depthsV) (hl : l ≤ 9) (hlen : A.length + s.length ≤ 900000) (h : ∀ H' y L', Owns H H' (.sl y 3 (toksL (tokA A s l)) :: L') → R (.tuple #[y, .int .i64 0]) H') : CallsH Tryd.prog 12 #[str A, str s, .int .i64 (l : Int)] H R := by
  refine match_Tokens.vc _ _ _ _ _ ?_
  unfold match_Tokens.res
  rw [pLt_v, decide_eq_false (by omega)]
  refine pOr_false ?_
  rw [pGt_v, decide_eq_false (by omega)]
  intro _
  rw [pCond_false, pEq_0]
  unfold tokA at h
  refine pCond_if (fun h0 => ?_) (fun h0 => ?_)
  · rw [if_pos (by omega)] at h
    refine pLenS_to ?_
    refine (Owns.start (H := H)).make (by decide) (by omega) (by omega) (by omega) fun y H1 o => ?_
    have o : Owns H H1 [.sl y 3 (repL [.int .u8 0, .int .i64 0, .int .i64 0] s.length)] := by rw [Int.toNat_natCast] at o; exact o
    rw [toks_rep] at o
    refine (o.sl (v := y) (by repeat (first | exact List.mem_cons_self | apply List.mem_cons_of_mem))).len (n := s.length) (by rw [toksL_len, List.length_replicate]) (by decide) ?_
    refine ⟨fun i H' => ∃ k : Nat, i = .int .i64 (k : Int) ∧ k ≤ s.length ∧ Owns H H' [.sl y 3 (toksL ((s.take k).map litT ++ List.replicate (s.length - k) (litT 0)))], fun i _ => match i with | .int _ x => s.length - x.toNat | _ => 0, ⟨0, rfl, by omega, by simpa using o⟩, ?_⟩
    clear o
    rintro _ _ H2 ⟨k, rfl, hk, o⟩
    rw [pLt_v]
    refine pCond_if (fun hc => ?_) (fun hc => ?_)
    · have hks : k < s.length := by omega
      rw [pIdxStr_v]
      refine ⟨by omega, by rw [bys_mk]; omega, ?_⟩
      rw [bys_mk, Int.toNat_natCast]
      have hll : ((s.take k).map litT ++ List.replicate (s.length - k) (litT 0)).length = s.length := by rw [List.length_append, List.length_map, List.length_take, List.length_replicate]; omega
      refine (o.sl (v := y) (by repeat (first | exact List.mem_cons_self | apply List.mem_cons_of_mem))).at_ (n := s.length) (by rw [toksL_len, hll]) (by decide) (by omega) (by omega) fun p hp => ?_
      rw [Int.toNat_natCast] at hp
      refine hp.field (f := 0) fun q hq => ?_
      refine o.store hq (by repeat (first | exact List.mem_cons_self | apply List.mem_cons_of_mem)) (by rw [toksL_len, hll]; omega) rfl (by repeat (first | exact Rep.here | apply Rep.there)) fun H3 o _ => ?_
      have e : ((s.take k).map litT ++ List.replicate (s.length - k) (litT 0)).set k (litT (s.getD k 0)) = (s.take (k + 1)).map litT ++ List.replicate (s.length - (k + 1)) (litT 0) := by
        obtain ⟨m, hm⟩ : ∃ m, s.length - k = m + 1 := ⟨s.length - k - 1, by omega⟩
        rw [hm, show s.length - (k + 1) = m by omega, List.set_append_right _ _ (by rw [List.length_map, List.length_take]; omega), List.length_map, List.length_take, show k - min k s.length = 0 by omega, List.replicate_succ, List.set_cons_zero, ← take_snoc hks, List.map_append, List.append_assoc]
        rfl
      have hgd : ((s.take k).map litT ++ List.replicate (s.length - k) (litT 0)).getD k ⟨0, 0, 0⟩ = litT 0 := by
        rw [List.getD_eq_getElem?_getD, List.getElem?_append_right (by rw [List.length_map, List.length_take]; omega), List.getElem?_replicate, if_pos (by rw [List.length_map, List.length_take]; omega)]; rfl
      rw [Nat.add_zero] at o
      have o : Owns H H3 [.sl y 3 ((toksL ((s.take k).map litT ++ List.replicate (s.length - k) (litT 0))).set (k * 3) (byteV (s.getD k 0)))] := o
      rw [toksL_setB _ _ _ (by omega), hgd] at o
      have o : Owns H H3 [.sl y 3 (toksL (((s.take k).map litT ++ List.replicate (s.length - k) (litT 0)).set k (litT (s.getD k 0))))] := o
      rw [e] at o
      rw [pAdd_v, w64 (n := (k : Int) + 1) (by omega) (by omega)]
      exact ⟨⟨k + 1, rfl, by omega, o⟩, by show s.length - ((k : Int) + 1).toNat < s.length - (k : Int).toNat; omega⟩
    · have hks : k = s.length := by omega
      rw [hks, List.take_length, Nat.sub_self, List.replicate_zero, List.append_nil] at o
      exact h H2 y [] o
  · rw [if_neg (by omega)] at h
    rw [pIdxArr_v]
    refine ⟨by omega, by omega, ?_⟩
    rw [Int.toNat_natCast, Nat.mul_one]
    refine hG.loadAt (depthsV_get (by omega)) ?_
    refine newF8_spec (Owns.start (H := H)) hlen (depthN_le l) fun H1 fb f => ?_
    have hT : (lastB A ++ s).length ≤ 1000000 := by rw [List.length_append, List.length_drop]; omega
    rw [pGe_v, show (decide ((4 : Int) ≤ (l : Int))) = decide (4 ≤ l) from by rw [decide_eq_decide]; omega]
    exact tokens8_spec f hT (by rw [List.length_append]; omega) fun H2 y L' o => h H2 y L' o
theorem longestA_spec {A s : List UInt8} (hlen : A.length + s.length ≤ 900000) (h : ∀ H', Ext H H' → R (.tuple #[.int .i64 ((longF (lastB A ++ s) 1073741824 (lastB A).length).1 : Int), .int .i64 ((longF (lastB A ++ s) 1073741824 (lastB A).length).2 : Int)]) H') : CallsH Tryd.prog 10 #[str A, str s] H R := by
  refine match_Longest.vc _ _ _ _ ?_
  unfold match_Longest.res
  refine newF8_spec (d := 1073741824) (Owns.start (H := H)) hlen (Nat.le_refl _) fun H1 fb f => ?_
  have hT : (lastB A ++ s).length ≤ 1000000 := by rw [List.length_append, List.length_drop]; omega
  obtain ⟨r, pv, o⟩ := f
  rw [pNil_v, pFieldAddr_v, add_mk]
  refine o.bload (b := fb) (f := 0 + 1) (by repeat (first | exact List.mem_cons_self | apply List.mem_cons_of_mem)) rfl ?_
  refine longest8_spec ⟨r, pv, o⟩ hT (by rw [List.length_append]; omega) ?_
  refine pExtract_to rfl ?_
  refine pExtract_to rfl ?_
  exact h H1 o.ext
theorem refLong_spec {A s : List UInt8} (hlen : A.length + s.length ≤ 900000) (h : R (.tuple #[.int .i64 ((refLong (A ++ s) A.length).1 : Int), .int .i64 ((refLong (A ++ s) A.length).2 : Int)]) H) : CallsH Tryd.prog 11 #[str A, str s] H R := by
  refine lighterref08_Longest.vc _ _ _ _ ?_
  unfold lighterref08_Longest.res
  refine pAdd_str (by omega) ?_
  have hTl : (A ++ s).length = A.length + s.length := List.length_append
  have hgs : ∀ n, n < s.length → (A ++ s).getD (A.length + n) 0 = s.getD n 0 := fun n hn => by
    rw [List.getD_eq_getElem?_getD, List.getD_eq_getElem?_getD, List.getElem?_append_right (by omega), Nat.add_sub_cancel_left]
  generalize hTd : A ++ s = T at *
  refine ⟨fun b d x H' => ∃ m : Nat, x = .int .i64 ((m + 1 : Nat) : Int) ∧ m ≤ min A.length 32768 ∧ b = .int .i64 ((refF T A.length m).1 : Int) ∧ d = .int .i64 ((refF T A.length m).2 : Int) ∧ H = H', fun _ _ x _ => match x with | .int _ x => 40000 - x.toNat | _ => 0, ⟨0, rfl, by omega, rfl, rfl, rfl⟩, ?_⟩
  rintro _ _ _ _ _ ⟨m, rfl, hm, rfl, rfl, rfl⟩
  refine pLenS_to ?_
  rw [pLe_v]
  refine pAnd_if (d := decide (((m + 1 : Nat) : Int) ≤ 32768)) (fun _ => by rw [pLe_v]; exact ⟨rfl, rfl⟩) ?_
  intro _
  refine pCond_b (fun hc => ?_) (fun hc => ?_)
  · rw [Bool.and_eq_true, decide_eq_true_eq, decide_eq_true_eq] at hc
    have hle := lenF_le T (A.length - (m + 1)) A.length
    have hmin : min 258 (T.length - A.length) = min 258 s.length := by omega
    refine ⟨fun b d H' => b = .int .i64 ((refF T A.length (m + 1)).1 : Int) ∧ d = .int .i64 ((refF T A.length (m + 1)).2 : Int) ∧ H = H', ?_, ?_⟩
    · rintro _ _ _ _ ⟨rfl, rfl, rfl⟩
      rw [pAdd_v, show ((m + 1 : Nat) : Int) + 1 = ((m + 1 + 1 : Nat) : Int) by omega, w64 (by omega) (by omega)]
      exact ⟨⟨m + 1, rfl, by omega, rfl, rfl, rfl⟩, by show 40000 - ((m + 1 + 1 : Nat) : Int).toNat < 40000 - ((m + 1 : Nat) : Int).toNat; omega⟩
    · refine ⟨fun n H' => ∃ q : Nat, n = .int .i64 (q : Int) ∧ q ≤ lenF T (A.length - (m + 1)) A.length ∧ H = H', fun n _ => match n with | .int _ x => 1000 - x.toNat | _ => 0, ⟨0, rfl, by omega, rfl⟩, ?_⟩
      rintro _ _ _ ⟨q, rfl, hq, rfl⟩
      refine pLenS_to ?_
      rw [pLt_v]
      refine pAnd_if (d := decide ((q : Int) < 258)) (fun _ => by rw [pLt_v]; exact ⟨rfl, rfl⟩) ?_
      intro _
      refine pAnd_if (d := decide (T.getD (A.length - (m + 1) + q) 0 = T.getD (A.length + q) 0)) (fun hc2 => ?_) ?_
      · rw [Bool.and_eq_true, decide_eq_true_eq, decide_eq_true_eq] at hc2
        refine pLenS_to ?_
        rw [pSub_v, show (A.length : Int) - ((m + 1 : Nat) : Int) = ((A.length - (m + 1) : Nat) : Int) by omega, w64 (by omega) (by omega), pAdd_v, show ((A.length - (m + 1) : Nat) : Int) + (q : Int) = ((A.length - (m + 1) + q : Nat) : Int) by omega, w64 (by omega) (by omega), pIdxStr_v]
        refine ⟨by omega, by rw [bys_mk]; omega, ?_⟩
        rw [bys_mk, Int.toNat_natCast, pIdxStr_v]
        refine ⟨by omega, by rw [bys_mk]; omega, ?_⟩
        rw [bys_mk, Int.toNat_natCast, pEq_0, hgs q (by omega)]
        refine ⟨?_, rfl⟩
        congr 1
        rw [decide_eq_decide]
        constructor
        · intro g
          exact UInt8.toNat_inj.1 (by omega)
        · intro g; rw [g]
      intro _
      refine pCond_b (fun hc2 => ?_) (fun hc2 => ?_)
      · rw [Bool.and_eq_true, Bool.and_eq_true, decide_eq_true_eq, decide_eq_true_eq, decide_eq_true_eq] at hc2
        rw [pAdd_v, w64 (n := (q : Int) + 1) (by omega) (by omega)]
        refine ⟨⟨q + 1, rfl, ?_, rfl⟩, by show 1000 - ((q : Int) + 1).toNat < 1000 - (q : Int).toNat; omega⟩
        by_cases hlt : q < lenF T (A.length - (m + 1)) A.length
        · omega
        · have hqe : lenF T (A.length - (m + 1)) A.length = q := by omega
          have := sameN_ne T (min 258 (T.length - A.length)) (A.length - (m + 1)) A.length (by show lenF T (A.length - (m + 1)) A.length < _; omega)
          rw [show sameN T (A.length - (m + 1)) A.length (min 258 (T.length - A.length)) = q from hqe] at this
          exact absurd hc2.2 this
      · have hqe : q = lenF T (A.length - (m + 1)) A.length := by
          by_cases hlt : q < lenF T (A.length - (m + 1)) A.length
          · have := sameN_eq T (min 258 (T.length - A.length)) (A.length - (m + 1)) A.length q hlt
            rw [this, decide_eq_true rfl, Bool.and_true, decide_eq_true (show (q : Int) < (s.length : Int) by omega), decide_eq_true (show (q : Int) < 258 by omega)] at hc2
            cases hc2
          · omega
        subst hqe
        rw [pGt_v]
        have hrf : refF T A.length (m + 1) = if (refF T A.length m).1 < lenF T (A.length - (m + 1)) A.length then (lenF T (A.length - (m + 1)) A.length, m + 1) else refF T A.length m := rfl
        refine pCond_if (fun hg => ?_) (fun hg => ?_)
        · rw [if_pos (by omega)] at hrf
          refine ⟨?_, ?_, rfl⟩
          · rw [hrf]
          · rw [hrf]
        · rw [if_neg (by omega)] at hrf
          refine ⟨?_, ?_, rfl⟩
          · rw [hrf]
          · rw [hrf]
  · have hmm : m = min A.length 32768 := by
      rw [Bool.and_eq_false_iff, decide_eq_false_iff_not, decide_eq_false_iff_not] at hc
      omega
    subst hmm
    unfold refLong at h
    rw [pLt_v]
    refine pCond_if (fun hg => ?_) (fun hg => ?_)
    · rw [if_pos (by omega)] at h; exact h
    · rw [if_neg (by omega)] at h; exact h
end Go.Proofs.YtfmbgnchedhneaaDoor
