/- Texts of times: contracts of Text, Parse, Weekday, Ahead. -/
import Derived.Test.YtildpckmmkphcaaDoorLaw11c
import Derived.Test.YtildpckmmkphcaaDoorVcLib
namespace Go.Proofs.YtildpckmmkphcaaDoor
open Go Go.Vc Go.Proofs
set_option linter.unusedVariables false
set_option linter.unusedSimpArgs false
variable {H : Heap} {R : Value → Heap → Prop}
def formN : List Nat := [0, 4, 5, 2, 8, 2, 11, 2, 14, 2, 17, 2]
def formV : List Value := formN.map fun n : Nat => .int .i64 (n : Int)
abbrev formF (i : Nat) : Nat := formN.getD i 0
theorem formV_get {i : Nat} (h : i < 12) : formV[i]? = some (.int .i64 (formF i : Int)) := by
  unfold formV
  rw [List.getElem?_map, List.getElem?_eq_getElem (by exact h), formF, List.getD_eq_getElem?_getD, List.getElem?_eq_getElem (by exact h)]; rfl
def fAt (i : Nat) : Nat := formF (2 * i)
def fLen (i : Nat) : Nat := formF (2 * i + 1)
theorem form_ok : ∀ i : Fin 6, fAt i.val + fLen i.val ≤ 19 ∧ 1 ≤ fLen i.val ∧ fLen i.val ≤ 4 := by decide
/-- a digit -/
def dg (v m : Nat) : UInt8 := UInt8.ofNat (48 + v / 10 ^ m % 10)
def digN (v : Nat) : Nat → List UInt8
  | 0 => []
  | m + 1 => dg v m :: digN v m
theorem digN_len (v : Nat) : ∀ m, (digN v m).length = m
  | 0 => rfl
  | m + 1 => by rw [digN, List.length_cons, digN_len v m]
def putB (l : List UInt8) (p : Nat) (ds : List UInt8) : List UInt8 := l.take p ++ ds ++ l.drop (p + ds.length)
theorem putB_len {l ds : List UInt8} {p : Nat} (h : p + ds.length ≤ l.length) : (putB l p ds).length = l.length := by
  unfold putB; rw [List.length_append, List.length_append, List.length_take, List.length_drop]; omega
theorem putB_set {l ds : List UInt8} {p : Nat} {x : UInt8} (h : p + 1 + ds.length ≤ l.length) : (putB l (p + 1) ds).set p x = putB l p (x :: ds) := by
  unfold putB
  have h1 : (l.take (p + 1)).set p x = l.take p ++ [x] := by
    rw [List.take_add_one, List.getElem?_eq_getElem (by omega), List.set_append_right _ _ (by rw [List.length_take]; omega), List.length_take, Nat.min_eq_left (by omega), Nat.sub_self]
    rfl
  rw [List.append_assoc, List.set_append_left _ _ (by rw [List.length_take]; omega), h1, List.length_cons, show p + 1 + ds.length = p + (ds.length + 1) by omega]
  simp
def signsL : List UInt8 := [48, 48, 48, 48, 45, 48, 48, 45, 48, 48, 32, 48, 48, 58, 48, 48, 58, 48, 48]
def fieldN (t : T6) : Nat → Nat
  | 0 => t.y.toNat | 1 => t.m.toNat | 2 => t.d.toNat | 3 => t.h.toNat | 4 => t.n.toNat | _ => t.s.toNat
def bufN (t : T6) : Nat → List UInt8
  | 0 => signsL
  | i + 1 => putB (bufN t i) (fAt i) (digN (fieldN t i) (fLen i))
theorem bufN_len (t : T6) : ∀ i, i ≤ 6 → (bufN t i).length = 19
  | 0, _ => rfl
  | i + 1, h => by
    have := form_ok ⟨i, by omega⟩
    dsimp only at this
    have ih := bufN_len t i (by omega)
    rw [bufN, putB_len (by rw [digN_len, ih]; exact this.1), ih]
def textL (t : T6) : List UInt8 := if goodB t then bufN t 6 else []
theorem byteV_nat {n : Nat} (h : n < 256) : byteV (UInt8.ofNat n) = .int .u8 (n : Int) := by
  show Value.int .u8 _ = _
  rw [UInt8.toNat_ofNat_of_lt' (by exact h)]
theorem div_pow10 (v m : Nat) : v / 10 ^ (m + 1) = v / 10 ^ m / 10 := by rw [Nat.pow_succ, ← Nat.div_div_eq_div_mul]
theorem field_le {t : T6} (h : goodB t = true) : ∀ i, i < 6 → fieldN t i ≤ 2107 := by
  have := good_facts h
  have hd := days_bounds t.y t.m
  intro i hi
  match i, hi with
  | 0, _ => show t.y.toNat ≤ _; omega
  | 1, _ => show t.m.toNat ≤ _; omega
  | 2, _ => show t.d.toNat ≤ _; omega
  | 3, _ => show t.h.toNat ≤ _; omega
  | 4, _ => show t.n.toNat ≤ _; omega
  | 5, _ => show t.s.toNat ≤ _; omega
theorem form_at {i j : Nat} (hG : Reads H ⟨0, 0, none⟩ formV) {K : Value → Prop} (h : 2 * i + j < 12) (hk : K (.int .i64 (formF (2 * i + j) : Int))) : pLoad H (.pointer (some ⟨0, 0 + i * 2 + j, none⟩)) K := by
  have hc := hG (2 * i + j) _ (formV_get h)
  rw [add_mk, Nat.zero_add] at hc
  rw [show 0 + i * 2 + j = 2 * i + j by omega, pLoad_cell hc]
  exact hk
theorem form_0 {i : Nat} (hG : Reads H ⟨0, 0, none⟩ formV) {K : Value → Prop} (h : i < 6) (hk : K (.int .i64 (fAt i : Int))) : pLoad H (.pointer (some ⟨0, 0 + i * 2 + 0, none⟩)) K := form_at hG (j := 0) (by omega) hk
theorem form_1 {i : Nat} (hG : Reads H ⟨0, 0, none⟩ formV) {K : Value → Prop} (h : i < 6) (hk : K (.int .i64 (fLen i : Int))) : pLoad H (.pointer (some ⟨0, 0 + i * 2 + 1, none⟩)) K := form_at hG (j := 1) (by omega) hk
theorem pIdxAgg_to7 {n : Nat} {l : List Value} {k : IntKind} {i : Int} {x : Value} {K : Value → Prop} (h0 : 0 ≤ i) (h1 : i < (n : Int)) (hx : l[i.toNat]? = some x) (hK : K x) : pIdxAgg n (.agg l.toArray) (.int k i) K := by
  refine ⟨h0, h1, ?_⟩
  simp only [hx]
  exact hK
theorem pConv_to7 {k k' : IntKind} {a : Int} {K : Value → Prop} (h : K (.int k (k.wrap a))) : pConv k (.int k' a) K := h
theorem pLenS_to7 {l : List UInt8} {K : Value → Prop} (h : K (.int .i64 (l.length : Int))) : pLenS (str l) K := by rw [pLenS_v, bys_mk]; exact h
theorem pExtract_to7 {vs : List Value} {v : Value} {i : Nat} {K : Value → Prop} (hv : vs[i]? = some v) (h : K v) : pExtract i (.tuple vs.toArray) K := by rw [pExtract_v, hv]; exact h
theorem text_spec11 {t : T6} (hG : Reads H ⟨0, 0, none⟩ formV) (h : ∀ H', Ext H H' → R (str (textL t)) H') : CallsH Tryd.prog 5 #[t.v] H R := by
  refine dos_Time_Text.vc _ _ _ ?_
  unfold dos_Time_Text.res
  refine pBox_ext fun H1 s1 e1 b1 => ?_
  have b1 : H1[H.size]? = some t.obj := b1
  rw [pLoadN_blk b1 (by rfl)]
  refine good_spec (t := t) fun H2 e2 => ?_
  have b2 := e2.blk b1
  have e02 := e1.trans e2
  unfold textL at h
  rw [pNot_v]
  refine pCond_b (fun hg => ?_) (fun hg => ?_)
  · rw [if_neg (by simpa using hg)] at h
    exact h H2 e02
  have hg : goodB t = true := by simpa using hg
  rw [if_pos hg] at h
  have hfl := field_le hg
  have hgf := good_facts hg
  have hbld : ∀ K : Value → Prop, K (.agg (signsL.map byteV).toArray) → pBuild (List.replicate 19 (.int .u8 0)) [(0, 1, (.int .u8 48)), (1, 1, (.int .u8 48)), (2, 1, (.int .u8 48)), (3, 1, (.int .u8 48)), (4, 1, (.int .u8 45)), (5, 1, (.int .u8 48)), (6, 1, (.int .u8 48)), (7, 1, (.int .u8 45)), (8, 1, (.int .u8 48)), (9, 1, (.int .u8 48)), (10, 1, (.int .u8 32)), (11, 1, (.int .u8 48)), (12, 1, (.int .u8 48)), (13, 1, (.int .u8 58)), (14, 1, (.int .u8 48)), (15, 1, (.int .u8 48)), (16, 1, (.int .u8 58)), (17, 1, (.int .u8 48)), (18, 1, (.int .u8 48))] K := by
    intro K hK
    simp only [pPick_v, pNil_v, pNil_f, pAdd_v, pSub_v, pMul_v, pAdd_s, pQuo_v, pRem_v, pBits_v, pShl_v, pShr_v, pLt_v, pLe_v, pGt_v, pGe_v, pEq_0, pNe_0, pEq_1, pNe_1, pEq_2, pNe_2, pEq_3n, pNe_3n, pEq_3s, pNe_3s, pEq_3t, pNe_3t, pEq_5n, pNe_5n, pEq_5s, pNe_5s, pEq_5t, pNe_5t, pEq_4n, pNe_4n, pEq_4s, pNe_4s, pNot_v, pNeg_v, pCom_v, pConv_v, pConvS_v, pMin_v, pMax_v, pFieldAddr_v, pField1_v, pFieldN_v, pExtract_v, pIdxArr_v, pIdxSl_v, pIdxStr_v, pBounds_00, pBounds_10, pBounds_01, pBounds_11, pSlStr_v, pSlSl_v, pSlArr_v, pLenS_v, pLen_v, pCap_v, pBuild_n, pBuild_c, cells_int, cells_str, cells_bool, cells_ptr, cells_slice, cells_map, cells_agg, oneCell_int, oneCell_str, oneCell_bool, oneCell_ptr, oneCell_slice, oneCell_map, putL_cons, putL_nil, pAnd_pure, pOr_pure, pAnd_pureE, pOr_pureE, pAnd_false, pOr_true, pCond_true, pCond_false, add_mk, bys_mk, bys_size, cond_true, cond_false, decide_true, decide_false, decide_not', dec_and, dec_or, dec_eqt, Bool.not_true, Bool.not_false, Option.isNone_none, Option.isNone_some, Option.map_some, Option.map_none, List.getElem?_toArray, List.getElem?_cons_zero, List.getElem?_cons_succ, List.size_toArray, List.length_cons, List.length_nil, List.length_replicate, List.set_cons_zero, List.set_cons_succ, Nat.reduceAdd, Nat.reduceMul, Nat.reduceSub, Nat.reduceLeDiff, Nat.zero_add, Nat.add_zero, Nat.zero_le, true_and, and_true, not_false_eq_true, ne_eq, Int.reduceNeg, Int.reduceEq, Int.reduceNe, Int.reduceLT, Int.reduceLE, le_refl', List.setIfInBounds_toArray, Nat.reduceLT, Array.size_setIfInBounds, if_true, if_false, reduceCtorEq, List.toArray_toList', List.drop_succ_cons, List.drop_zero, List.take_succ_cons, List.take_zero, List.nil_append, List.append_nil, List.cons_append, Bool.and_true, Bool.true_and, Bool.or_false, Bool.false_or, Bool.and_false, Bool.or_true, Bool.true_or, Bool.false_and, eq_self, List.length_set]
    exact hK
  refine hbld _ ?_
  simp only [cells_agg, pMark, get_push_self]
  rw [show markFr (0, 0) (signsL.map byteV).toArray.size = (19, 20) from rfl]
  have o0 : Owns H2 ((H2.push (.cells (signsL.map byteV).toArray 5)).setIfInBounds H2.size (.cells (signsL.map byteV).toArray 5 (19, 20))) (.sl (.slice (some ⟨H2.size, 0, none⟩) 19 19) 1 (signsL.map byteV) :: []) := by
    refine (Owns.start (H := H2)).add ⟨by simp, fun k hk => ?_⟩ ⟨by decide, .inr ⟨H2.size, 19, 19, [], rfl, ⟨⟨5, (19, 20), ?_, .inr (by decide)⟩, rfl, rfl⟩⟩⟩ (fun k hk => by simp only [It.foot, blkOf, Option.some.injEq] at hk; omega)
    · rw [get_set_ne (by omega)]; exact get_push_lt hk
    · rw [List.append_nil]; exact get_set_self (by simp)
  generalize ((H2.push (.cells (signsL.map byteV).toArray 5)).setIfInBounds H2.size (.cells (signsL.map byteV).toArray 5 (19, 20))) = H3 at *
  generalize (Value.slice (some ⟨H2.size, 0, none⟩) 19 19) = y at *
  have o := o0
  have b3 := o.ext.blk b2
  rw [pFieldAddr_v, add_mk]
  refine pLoad_l b3 rfl ?_
  rw [pFieldAddr_v, add_mk]
  refine pLoad_l b3 rfl ?_
  rw [pFieldAddr_v, add_mk]
  refine pLoad_l b3 rfl ?_
  rw [pFieldAddr_v, add_mk]
  refine pLoad_l b3 rfl ?_
  rw [pFieldAddr_v, add_mk]
  refine pLoad_l b3 rfl ?_
  rw [pFieldAddr_v, add_mk]
  refine pLoad_l b3 rfl ?_
  simp only [pBuild_c, pBuild_n, cells_int, putL_cons, putL_nil, List.set_cons_zero, List.set_cons_succ, List.length_cons, List.length_nil, Nat.reduceAdd, Nat.reduceLeDiff]
  refine ⟨rfl, trivial, rfl, trivial, rfl, trivial, rfl, trivial, rfl, trivial, rfl, trivial, ?_⟩
  refine ⟨fun u H' => ∃ i : Nat, u = .int .i64 i ∧ i ≤ 6 ∧ Owns H2 H' [.sl y 1 ((bufN t i).map byteV)], fun u _ => match u with | .int _ i => (6 - i).toNat | _ => 0, ⟨0, rfl, by omega, o⟩, ?_⟩
  rintro _ _ H4 ⟨i, rfl, hi, o⟩
  have hbl := bufN_len t i hi
  rw [pLt_v]
  refine pCond_if (fun hc => ?_) (fun hc => ?_)
  · have hi6 : i < 6 := by omega
    obtain ⟨f1, f2, f3⟩ := form_ok ⟨i, hi6⟩
    dsimp only at f1 f2 f3
    have hvl := hfl i hi6
    have hG4 := hG.ext (e02.trans o.ext)
    have hx : ∀ K : Value → Prop, K (.int .i64 (fieldN t i : Int)) → pIdxAgg 6 (.agg [Value.int .i64 t.y, .int .i64 t.m, .int .i64 t.d, .int .i64 t.h, .int .i64 t.n, .int .i64 t.s].toArray) (.int .i64 (i : Int)) K := by
      intro K hK
      refine pIdxAgg_to7 (by omega) (by omega) ?_ hK
      rw [Int.toNat_natCast]
      match i, hi6 with
      | 0, _ => show some (Value.int .i64 t.y) = some (.int .i64 (t.y.toNat : Int)); rw [Int.toNat_of_nonneg (by omega)]
      | 1, _ => show some (Value.int .i64 t.m) = some (.int .i64 (t.m.toNat : Int)); rw [Int.toNat_of_nonneg (by omega)]
      | 2, _ => show some (Value.int .i64 t.d) = some (.int .i64 (t.d.toNat : Int)); rw [Int.toNat_of_nonneg (by omega)]
      | 3, _ => show some (Value.int .i64 t.h) = some (.int .i64 (t.h.toNat : Int)); rw [Int.toNat_of_nonneg (by omega)]
      | 4, _ => show some (Value.int .i64 t.n) = some (.int .i64 (t.n.toNat : Int)); rw [Int.toNat_of_nonneg (by omega)]
      | 5, _ => show some (Value.int .i64 t.s) = some (.int .i64 (t.s.toNat : Int)); rw [Int.toNat_of_nonneg (by omega)]
    refine hx _ ?_
    rw [pIdxArr_v]
    refine ⟨by omega, by omega, ?_⟩
    rw [Int.toNat_natCast, add_mk, pFieldAddr_v, add_mk]
    refine form_0 hG4 (by omega) ?_
    rw [pIdxArr_v]
    refine ⟨by omega, by omega, ?_⟩
    rw [Int.toNat_natCast, add_mk, pFieldAddr_v, add_mk]
    refine form_1 hG4 (by omega) ?_
    rw [pAdd_v, w64 (by omega) (by omega), pSub_v, w64 (by omega) (by omega)]
    generalize hv : fieldN t i = v at *
    refine ⟨fun u k H' => ∃ m : Nat, m ≤ fLen i ∧ u = .int .i64 ((v / 10 ^ m : Nat) : Int) ∧ k = .int .i64 (((fAt i + fLen i - m : Nat) : Int) - 1) ∧ Owns H2 H' [.sl y 1 ((putB (bufN t i) (fAt i + fLen i - m) (digN v m)).map byteV)], fun _ k _ => match k with | .int _ i => (i + 1).toNat | _ => 0, ⟨0, by omega, by simp, by congr 1 <;> omega, ?_⟩, ?_⟩
    · have : putB (bufN t i) (fAt i + fLen i - 0) (digN v 0) = bufN t i := by unfold putB digN; simp
      rw [this]; exact o
    rintro _ _ _ H5 ⟨m, hm, rfl, rfl, o⟩
    have hG5 := hG.ext (e02.trans o.ext)
    rw [pIdxArr_v]
    refine ⟨by omega, by omega, ?_⟩
    rw [Int.toNat_natCast, add_mk, pFieldAddr_v, add_mk]
    refine form_0 hG5 (by omega) ?_
    rw [pGe_v]
    refine pCond_if (fun hc2 => ?_) (fun hc2 => ?_)
    · have hm2 : m < fLen i := by omega
      have hpl : (putB (bufN t i) (fAt i + fLen i - m) (digN v m)).length = 19 := by rw [putB_len (by rw [digN_len]; omega), hbl]
      have hvm : v / 10 ^ m ≤ v := Nat.div_le_self _ _
      have hdg : UInt8.ofNat (48 + v / 10 ^ m % 10) = dg v m := rfl
      have hnext := div_pow10 v m
      generalize v / 10 ^ m = z at *
      rw [pRem_v]
      refine ⟨by decide, ?_⟩
      rw [Int.tmod_eq_emod_of_nonneg (by omega), show (z : Int) % 10 = ((z % 10 : Nat) : Int) by omega, pAdd_v, show (48 : Int) + ((z % 10 : Nat) : Int) = ((48 + z % 10 : Nat) : Int) by omega, w64 (by omega) (by omega)]
      refine pConv_to7 ?_
      rw [wu8 (by omega) (by omega), ← byteV_nat (by omega), hdg]
      refine (o.sl (v := y) (by repeat (first | exact List.mem_cons_self | apply List.mem_cons_of_mem))).at_ (n := 19) (by rw [List.length_map, hpl]) (by decide) (by omega) (by omega) fun p hp => ?_
      refine o.store hp (by repeat (first | exact List.mem_cons_self | apply List.mem_cons_of_mem)) (by rw [List.length_map, hpl]; omega) rfl (by repeat (first | exact Rep.here | apply Rep.there)) fun H6 o _ => ?_
      rw [pQuo_v]
      refine ⟨by decide, ?_⟩
      rw [Int.tdiv_eq_ediv_of_nonneg (by omega), show (z : Int) / 10 = ((z / 10 : Nat) : Int) by omega, w64 (by omega) (by omega), pSub_v, w64 (by omega) (by omega)]
      refine ⟨⟨m + 1, by omega, by rw [hnext], by congr 1; omega, ?_⟩, by show (_ : Int).toNat < (_ : Int).toNat; omega⟩
      have e1 : (((fAt i + fLen i - m : Nat) : Int) - 1).toNat * 1 = fAt i + fLen i - (m + 1) := by omega
      rw [e1, ← List.map_set] at o
      have e2 := putB_set (l := bufN t i) (ds := digN v m) (p := fAt i + fLen i - (m + 1)) (x := dg v m) (by rw [digN_len, hbl]; omega)
      rw [show fAt i + fLen i - (m + 1) + 1 = fAt i + fLen i - m by omega] at e2
      rw [e2] at o
      exact o
    · have hm2 : m = fLen i := by omega
      subst hm2
      rw [pAdd_v, w64 (by omega) (by omega)]
      refine ⟨⟨i + 1, rfl, by omega, ?_⟩, by show (_ : Int).toNat < (_ : Int).toNat; omega⟩
      rw [show fAt i + fLen i - fLen i = fAt i by omega] at o
      rw [bufN, hv]; exact o
  · have hi6 : i = 6 := by omega
    subst hi6
    refine Sl.str (o.sl (v := y) (by repeat (first | exact List.mem_cons_self | apply List.mem_cons_of_mem))) ?_
    exact h H4 (e02.trans o.ext)
/-! ### Parse -/
def valN (l : List UInt8) : Int := l.foldl (fun a b => 10 * a + (b.toNat : Int) - 48) 0
theorem valN_snoc (l : List UInt8) (b : UInt8) : valN (l ++ [b]) = 10 * valN l + (b.toNat : Int) - 48 := by unfold valN; rw [List.foldl_append]; rfl
theorem valN_bound {l : List UInt8} (h : l.length ≤ 4) : -1000000 ≤ valN l ∧ valN l ≤ 1000000 := by
  match l, h with
  | [], _ => exact ⟨by decide, by decide⟩
  | [a], _ => have := a.toNat_lt; show _ ≤ 10 * 0 + (a.toNat : Int) - 48 ∧ 10 * 0 + (a.toNat : Int) - 48 ≤ _; omega
  | [a, b], _ => have := a.toNat_lt; have := b.toNat_lt; show _ ≤ 10 * (10 * 0 + (a.toNat : Int) - 48) + (b.toNat : Int) - 48 ∧ 10 * (10 * 0 + (a.toNat : Int) - 48) + (b.toNat : Int) - 48 ≤ _; omega
  | [a, b, c], _ => have := a.toNat_lt; have := b.toNat_lt; have := c.toNat_lt; show _ ≤ 10 * (10 * (10 * 0 + (a.toNat : Int) - 48) + (b.toNat : Int) - 48) + (c.toNat : Int) - 48 ∧ 10 * (10 * (10 * 0 + (a.toNat : Int) - 48) + (b.toNat : Int) - 48) + (c.toNat : Int) - 48 ≤ _; omega
  | [a, b, c, d], _ => have := a.toNat_lt; have := b.toNat_lt; have := c.toNat_lt; have := d.toNat_lt; show _ ≤ 10 * (10 * (10 * (10 * 0 + (a.toNat : Int) - 48) + (b.toNat : Int) - 48) + (c.toNat : Int) - 48) + (d.toNat : Int) - 48 ∧ 10 * (10 * (10 * (10 * 0 + (a.toNat : Int) - 48) + (b.toNat : Int) - 48) + (c.toNat : Int) - 48) + (d.toNat : Int) - 48 ≤ _; omega
def fldB (s : List UInt8) (i : Nat) : List UInt8 := (s.drop (fAt i)).take (fLen i)
def fieldsT (s : List UInt8) : T6 := ⟨valN (fldB s 0), valN (fldB s 1), valN (fldB s 2), valN (fldB s 3), valN (fldB s 4), valN (fldB s 5)⟩
def parseT (s : List UInt8) : Option T6 := if s.length = 19 ∧ textL (fieldsT s) = s then some (fieldsT s) else none
def arr6 (s : List UInt8) (i : Nat) (z : Int) : List Value := (List.range 6).map fun j => .int .i64 (if j < i then valN (fldB s j) else if j = i then z else 0)
theorem arr6_len {s : List UInt8} {i : Nat} {z : Int} : (arr6 s i z).length = 6 := by simp [arr6]
theorem arr6_get {s : List UInt8} {i : Nat} {z : Int} (h : i < 6) : (arr6 s i z)[i]? = some (.int .i64 z) := by
  unfold arr6
  rw [List.getElem?_map, List.getElem?_range h]
  show some (Value.int .i64 (if i < i then valN (fldB s i) else if i = i then z else 0)) = _
  rw [if_neg (by omega), if_pos rfl]
theorem arr6_set {s : List UInt8} {i : Nat} {z y : Int} (h : i < 6) : (arr6 s i z).set i (.int .i64 y) = arr6 s i y := by
  apply List.ext_getElem?
  intro j
  rw [List.getElem?_set, arr6_len]
  by_cases hj : i = j
  · subst hj
    rw [if_pos rfl, if_pos h, arr6_get h]
  · rw [if_neg hj]
    unfold arr6
    rw [List.getElem?_map, List.getElem?_map]
    by_cases hj6 : j < 6
    · rw [List.getElem?_range hj6]
      show some (Value.int .i64 (if j < i then _ else if j = i then z else 0)) = some (Value.int .i64 (if j < i then _ else if j = i then y else 0))
      rw [if_neg (show ¬ j = i by omega), if_neg (show ¬ j = i by omega)]
    · rw [List.getElem?_eq_none (by simp; omega)]; rfl
theorem arr6_next {s : List UInt8} {i : Nat} : arr6 s i (valN (fldB s i)) = arr6 s (i + 1) 0 := by
  unfold arr6
  refine List.map_congr_left fun j _ => ?_
  congr 1
  by_cases h1 : j < i
  · rw [if_pos h1, if_pos (by omega)]
  · rw [if_neg h1]
    by_cases h2 : j = i
    · subst h2; rw [if_pos rfl, if_pos (by omega)]
    · rw [if_neg h2, if_neg (by omega)]; split <;> rfl
theorem parse_spec11 {s : List UInt8} (hG : Reads H ⟨0, 0, none⟩ formV) (hs : s.length ≤ 1000) (h : ∀ H', Ext H H' → R (.tuple #[((parseT s).getD T6.zero).v, .bool (parseT s).isSome]) H') : CallsH Tryd.prog 8 #[str s] H R := by
  refine dos_Parse.vc _ _ _ ?_
  unfold dos_Parse.res
  refine pBox_ext fun H1 s1 e1 b1 => ?_
  have b1 : H1[H.size]? = some T6.zero.obj := b1
  have hb1 := lt_of_blk b1
  unfold parseT at h
  refine pLenS_to ?_
  rw [pNe_0]
  refine pCond_if (fun hc => ?_) (fun hc => ?_)
  · rw [if_neg (by omega)] at h
    rw [pBuild_n]
    refine pStoreN_upd b1 (by rfl) (by rfl) (by rfl) fun H2 _ u2 => ?_
    rw [pLoadN_blk u2.at_ (by rfl)]
    exact h H2 (u2.ext e1 (Nat.le_refl _))
  have hl19 : s.length = 19 := by omega
  refine (Owns.start (H := H1)).box fun c H2 o _ => ?_
  change Owns H1 H2 [.box c (arr6 s 0 0) _] at o
  have hG2 := hG.ext (e1.trans o.ext)
  refine hG2.loadN (n := 12) rfl ?_
  refine ⟨fun u H' => ∃ i : Nat, u = .int .i64 i ∧ i ≤ 6 ∧ Owns H1 H' [.box c (arr6 s i 0) 41 ], fun u _ => match u with | .int _ i => (6 - i).toNat | _ => 0, ⟨0, rfl, by omega, o⟩, ?_⟩
  rintro _ _ H3 ⟨i, rfl, hi, o⟩
  rw [pLt_v]
  refine pCond_if (fun hc1 => ?_) (fun hc1 => ?_)
  · have hi6 : i < 6 := by omega
    obtain ⟨f1, f2, f3⟩ := form_ok ⟨i, hi6⟩
    dsimp only at f1 f2 f3
    have hx : ∀ K : Value → Prop, K (.agg #[.int .i64 (fAt i : Int), .int .i64 (fLen i : Int)]) → pIdxAggN 6 2 (.agg formV.toArray) (.int .i64 (i : Int)) K := by
      intro K hK
      refine ⟨by omega, by omega, ?_⟩
      rw [Int.toNat_natCast]
      match i, hi6 with
      | 0, _ => exact hK
      | 1, _ => exact hK
      | 2, _ => exact hK
      | 3, _ => exact hK
      | 4, _ => exact hK
      | 5, _ => exact hK
    refine hx _ ?_
    refine o.box fun f H4 o _ => ?_
    change Owns H1 H4 [.box f [.int .i64 0, .int .i64 0] _, .box c (arr6 s i 0) _] at o
    refine o.bstoreN (vs := [.int .i64 (fAt i : Int), .int .i64 (fLen i : Int)]) (by repeat (first | exact List.mem_cons_self | apply List.mem_cons_of_mem)) rfl rfl rfl (by repeat (first | exact Rep.here | apply Rep.there)) fun H5 o _ => ?_
    rw [pFieldAddr_v, add_mk]
    refine o.bload (b := f) (f := 0 + 0) (by repeat (first | exact List.mem_cons_self | apply List.mem_cons_of_mem)) rfl ?_
    refine ⟨fun u H' => ∃ j : Nat, u = .int .i64 ((fAt i + j : Nat) : Int) ∧ j ≤ fLen i ∧ ∃ tt, Owns H1 H' [.box f [.int .i64 (fAt i : Int), .int .i64 (fLen i : Int)] tt, .box c (arr6 s i (valN ((s.drop (fAt i)).take j))) 41 ], fun u _ => match u with | .int _ i => (1000 - i).toNat | _ => 0, ⟨0, rfl, by omega, _, by simpa [valN] using o⟩, ?_⟩
    rintro _ _ H6 ⟨j, rfl, hj, tt, o⟩
    have hvb := valN_bound (l := (s.drop (fAt i)).take j) (by rw [List.length_take]; omega)
    rw [pFieldAddr_v, add_mk]
    refine o.bload (b := f) (f := 0 + 0) (by repeat (first | exact List.mem_cons_self | apply List.mem_cons_of_mem)) rfl ?_
    rw [pFieldAddr_v, add_mk]
    refine o.bload (b := f) (f := 0 + 1) (by repeat (first | exact List.mem_cons_self | apply List.mem_cons_of_mem)) rfl ?_
    rw [pAdd_v, w64 (by omega) (by omega), pLt_v]
    refine pCond_if (fun hc2 => ?_) (fun hc2 => ?_)
    · have hil : fAt i + j < s.length := by omega
      rw [pIdxArr_v]
      refine ⟨by omega, by omega, ?_⟩
      rw [Int.toNat_natCast, add_mk, Nat.mul_one, Nat.zero_add]
      refine o.bload (b := c) (f := i) (by repeat (first | exact List.mem_cons_self | apply List.mem_cons_of_mem)) (arr6_get hi6) ?_
      have hsn : (s.drop (fAt i)).take (j + 1) = (s.drop (fAt i)).take j ++ [s[fAt i + j]] := by
        rw [List.take_add_one, List.getElem?_drop, List.getElem?_eq_getElem hil]; rfl
      have hv2 := valN_snoc ((s.drop (fAt i)).take j) s[fAt i + j]
      have hxl := (s[fAt i + j]).toNat_lt
      rw [← hsn] at hv2
      rw [pMul_v, w64 (by omega) (by omega), pIdxStr_v, bys_mk]
      refine ⟨by omega, by omega, ?_⟩
      rw [Int.toNat_natCast, List.getD_eq_getElem?_getD, List.getElem?_eq_getElem hil, Option.getD_some]
      refine pConv_to7 ?_
      rw [w64 (by omega) (by omega), pAdd_v, w64 (by omega) (by omega), pSub_v, w64 (by omega) (by omega), ← hv2, pIdxArr_v]
      refine ⟨by omega, by omega, ?_⟩
      rw [Int.toNat_natCast, add_mk, Nat.mul_one, Nat.zero_add]
      refine o.bstore (b := c) (f := i) (cs := arr6 s i (valN ((s.drop (fAt i)).take j))) (by repeat (first | exact List.mem_cons_self | apply List.mem_cons_of_mem)) (by rw [arr6_len]; exact hi6) rfl (by repeat (first | exact Rep.here | apply Rep.there)) fun H7 o _ => ?_
      rw [arr6_set hi6] at o
      rw [pAdd_v, show ((fAt i + j : Nat) : Int) + 1 = ((fAt i + (j + 1) : Nat) : Int) by omega, w64 (by omega) (by omega)]
      exact ⟨⟨j + 1, rfl, by omega, tt, o⟩, by show (1000 - ((fAt i + (j + 1) : Nat) : Int)).toNat < (1000 - ((fAt i + j : Nat) : Int)).toNat; omega⟩
    · have hjl : j = fLen i := by omega
      subst hjl
      rw [show (s.drop (fAt i)).take (fLen i) = fldB s i from rfl, arr6_next] at o
      rw [pAdd_v, w64 (by omega) (by omega)]
      exact ⟨⟨i + 1, rfl, by omega, o.pick (List.sublist_cons_self _ _)⟩, by show (_ : Int).toNat < (_ : Int).toNat; omega⟩
  have hi6 : i = 6 := by omega
  subst hi6
  have ld : ∀ (k : Nat) (x : Value) (K : Value → Prop), k < 6 → (arr6 s 6 0)[k]? = some x → K x → pIdxArr 6 1 (.pointer (some ⟨c, 0, none⟩)) (.int .i64 (k : Int)) fun x42 => pLoad H3 x42 K := by
    intro k x K hk hx hK
    rw [pIdxArr_v]
    refine ⟨by omega, by omega, ?_⟩
    rw [Int.toNat_natCast, add_mk, Nat.mul_one, Nat.zero_add]
    exact o.bload (b := c) (f := k) (by repeat (first | exact List.mem_cons_self | apply List.mem_cons_of_mem)) hx hK
  refine ld 0 _ _ (by decide) rfl ?_
  refine ld 1 _ _ (by decide) rfl ?_
  refine ld 2 _ _ (by decide) rfl ?_
  refine ld 3 _ _ (by decide) rfl ?_
  refine ld 4 _ _ (by decide) rfl ?_
  refine ld 5 _ _ (by decide) rfl ?_
  have hbl : ∀ K : Value → Prop, K (fieldsT s).v → pBuild [(.int .i64 0), (.int .i64 0), (.int .i64 0), (.int .i64 0), (.int .i64 0), (.int .i64 0)] [(0, 1, .int .i64 (valN (fldB s 0))), (1, 1, .int .i64 (valN (fldB s 1))), (2, 1, .int .i64 (valN (fldB s 2))), (3, 1, .int .i64 (valN (fldB s 3))), (4, 1, .int .i64 (valN (fldB s 4))), (5, 1, .int .i64 (valN (fldB s 5)))] K := by
    intro K hK
    simp only [pPick_v, pNil_v, pNil_f, pAdd_v, pSub_v, pMul_v, pAdd_s, pQuo_v, pRem_v, pBits_v, pShl_v, pShr_v, pLt_v, pLe_v, pGt_v, pGe_v, pEq_0, pNe_0, pEq_1, pNe_1, pEq_2, pNe_2, pEq_3n, pNe_3n, pEq_3s, pNe_3s, pEq_3t, pNe_3t, pEq_5n, pNe_5n, pEq_5s, pNe_5s, pEq_5t, pNe_5t, pEq_4n, pNe_4n, pEq_4s, pNe_4s, pNot_v, pNeg_v, pCom_v, pConv_v, pConvS_v, pMin_v, pMax_v, pFieldAddr_v, pField1_v, pFieldN_v, pExtract_v, pIdxArr_v, pIdxSl_v, pIdxStr_v, pBounds_00, pBounds_10, pBounds_01, pBounds_11, pSlStr_v, pSlSl_v, pSlArr_v, pLenS_v, pLen_v, pCap_v, pBuild_n, pBuild_c, cells_int, cells_str, cells_bool, cells_ptr, cells_slice, cells_map, cells_agg, oneCell_int, oneCell_str, oneCell_bool, oneCell_ptr, oneCell_slice, oneCell_map, putL_cons, putL_nil, pAnd_pure, pOr_pure, pAnd_pureE, pOr_pureE, pAnd_false, pOr_true, pCond_true, pCond_false, add_mk, bys_mk, bys_size, cond_true, cond_false, decide_true, decide_false, decide_not', dec_and, dec_or, dec_eqt, Bool.not_true, Bool.not_false, Option.isNone_none, Option.isNone_some, Option.map_some, Option.map_none, List.getElem?_toArray, List.getElem?_cons_zero, List.getElem?_cons_succ, List.size_toArray, List.length_cons, List.length_nil, List.length_replicate, List.set_cons_zero, List.set_cons_succ, Nat.reduceAdd, Nat.reduceMul, Nat.reduceSub, Nat.reduceLeDiff, Nat.zero_add, Nat.add_zero, Nat.zero_le, true_and, and_true, not_false_eq_true, ne_eq, Int.reduceNeg, Int.reduceEq, Int.reduceNe, Int.reduceLT, Int.reduceLE, le_refl', List.setIfInBounds_toArray, Nat.reduceLT, Array.size_setIfInBounds, if_true, if_false, reduceCtorEq, List.toArray_toList', List.drop_succ_cons, List.drop_zero, List.take_succ_cons, List.take_zero, List.nil_append, List.append_nil, List.cons_append, Bool.and_true, Bool.true_and, Bool.or_false, Bool.false_or, Bool.and_false, Bool.or_true, Bool.true_or, Bool.false_and, eq_self]
    exact hK
  refine hbl _ ?_
  have e3 := o.ext
  have e13 : Ext H H3 := e1.trans e3
  have b3 := e3.blk b1
  refine pBox_ext fun H4 s4 e4 b4 => ?_
  have b4' : H4[H3.size]? = some T6.zero.obj := b4
  refine pStoreN_upd b4' (by rfl) (by rfl) (by rfl) fun H5 _ u5 => ?_
  have b5 : H5[H3.size]? = some (fieldsT s).obj := u5.at_
  have hlt3 : H.size < H3.size := lt_of_blk b3
  have a5 : H5[H.size]? = some T6.zero.obj := u5.keep (e4.blk b3) (by omega)
  have e5 : Ext H H5 := u5.ext (e13.trans e4) (by omega)
  rw [pLoadN_blk b5 (by rfl)]
  refine text_spec11 (t := fieldsT s) (hG.ext e5) fun H6 e6 => ?_
  have a6 := e6.blk a5
  have b6 := e6.blk b5
  refine pNe1_to ?_
  refine pCond_if (fun hne => ?_) (fun hne => ?_)
  · rw [if_neg (fun g => hne g.2)] at h
    rw [pBuild_n]
    refine pStoreN_upd a6 (by rfl) (by rfl) (by rfl) fun H7 _ u7 => ?_
    rw [pLoadN_blk u7.at_ (by rfl)]
    exact h H7 (u7.ext (e5.trans e6) (Nat.le_refl _))
  · rw [if_pos ⟨hl19, Decidable.not_not.1 hne⟩] at h
    rw [pLoadN_blk b6 (by rfl)]
    refine pStoreN_upd a6 (by rfl) (by rfl) (by rfl) fun H7 _ u7 => ?_
    rw [pLoadN_blk u7.at_ (by rfl)]
    exact h H7 (u7.ext (e5.trans e6) (Nat.le_refl _))
end Go.Proofs.YtildpckmmkphcaaDoor
