/- Contracts of package match: the finder. -/
import Derived.Test.YtfmbgnchedhneaaDoorMatchN
import Derived.Test.YtfmbgnchedhneaaDoorVcMap
import Derived.Test.YtfmbgnchedhneaaDoorVcOwns
import Derived.Test.YtfmbgnchedhneaaDoorVcSub
import Derived.Test.YtfmbgnchedhneaaDoorResMatch
namespace Go.Proofs.YtfmbgnchedhneaaDoor
-- only what is there
open Go Go.Vc Go.Proofs
set_option linter.unusedVariables false
set_option linter.unusedSimpArgs false
variable {H H0 : Heap} {R : Value → Heap → Prop} {v : Value} {L : List It} {T : List UInt8} {fb at_ dp e : Nat}
theorem xor_i64 {a b : Nat} (ha : a < 4611686018427387904) (hb : b < 4611686018427387904) : bitsOf .xor .i64 (a : Int) (b : Int) = ((a ^^^ b : Nat) : Int) := by
  have hlt : a ^^^ b < 2 ^ 62 := Nat.xor_lt_two_pow (by simpa using ha) (by simpa using hb)
  have e : ((BitVec.ofInt 64 (a : Int)) ^^^ (BitVec.ofInt 64 (b : Int))).toNat = a ^^^ b := by
    rw [BitVec.toNat_xor, BitVec.ofInt_natCast, BitVec.ofInt_natCast, BitVec.toNat_ofNat, BitVec.toNat_ofNat, Nat.mod_eq_of_lt (by omega), Nat.mod_eq_of_lt (by omega)]
  show IntKind.i64.wrap ((((BitVec.ofInt 64 (a : Int)) ^^^ (BitVec.ofInt 64 (b : Int))).toNat : Nat) : Int) = _
  rw [e, w64 (by omega) (by omega)]
abbrev ptr8 (b : Nat) : Value := .pointer (some ⟨b, 0, none⟩)
def nat8 (l : List Nat) : List Value := l.map fun n : Nat => .int .i64 (n : Int)
theorem nat8_len (l : List Nat) : (nat8 l).length = l.length := by simp [nat8]
theorem nat8_get {l : List Nat} {i : Nat} (h : i < l.length) : (nat8 l)[i]? = some (.int .i64 (l.getD i 0 : Int)) := by
  unfold nat8
  rw [List.getElem?_map, List.getElem?_eq_getElem h, List.getD_eq_getElem?_getD, List.getElem?_eq_getElem h]; rfl
theorem nat8_set (l : List Nat) (i n : Nat) : (nat8 l).set i (.int .i64 (n : Int)) = nat8 (l.set i n) := by unfold nat8; rw [List.map_set]
def map8 (r : Nat) (m : Int → Option Value) : Thing where
  foot k := k = r
  holds H := MapAt (intKeys .i64) H r m
  frame := fun h hf => h.keep (hf r rfl)
  lt := fun h hf => by subst hf; exact h.lt
/-- the last places of the hashes, once e places are entered -/
def hdM (T : List UInt8) (e : Nat) : Int → Option Value := fun k => if 0 ≤ k ∧ 0 < lastP T e k.toNat then some (.int .i64 (lastP T e k.toNat : Int)) else none
theorem hdM_get (T : List UInt8) (e h : Nat) : (hdM T e (h : Int)).getD (.int .i64 0) = .int .i64 (lastP T e h : Int) := by
  unfold hdM
  rw [Int.toNat_natCast]
  by_cases hc : 0 < lastP T e h
  · rw [if_pos ⟨by omega, hc⟩]; rfl
  · rw [if_neg (fun g => hc g.2), show lastP T e h = 0 by omega]; rfl
theorem hdM_zero (T : List UInt8) : hdM T 0 = fun _ => none := by
  funext k
  unfold hdM lastP
  rw [if_neg (by omega)]
theorem lastP_step {T : List UInt8} {e : Nat} (h : e + 3 ≤ T.length) (x : Nat) : lastP T (e + 1) x = if x = hashN T e then e + 1 else lastP T e x := by
  show (if e + 3 ≤ T.length ∧ hashN T e = x then e + 1 else lastP T e x) = _
  by_cases hx : x = hashN T e
  · rw [if_pos ⟨h, hx.symm⟩, if_pos hx]
  · rw [if_neg (fun g => hx g.2.symm), if_neg hx]
theorem lastP_end {T : List UInt8} {e : Nat} (h : ¬ e + 3 ≤ T.length) (x : Nat) : lastP T (e + 1) x = lastP T e x := by
  show (if e + 3 ≤ T.length ∧ hashN T e = x then e + 1 else lastP T e x) = _
  rw [if_neg (fun g => h g.1)]
theorem hdM_step {T : List UInt8} {e : Nat} (h : e + 3 ≤ T.length) : mset (intKeys .i64) (hdM T e) (hashN T e : Int) (some (.int .i64 ((e + 1 : Nat) : Int))) = hdM T (e + 1) := by
  funext k
  by_cases hk : k = (hashN T e : Int)
  · subst hk
    rw [mset_self]
    unfold hdM
    rw [Int.toNat_natCast, lastP_step h, if_pos rfl, if_pos ⟨by omega, by omega⟩]
  · rw [mset_ne _ hk]
    unfold hdM
    rw [lastP_step h]
    by_cases h0 : 0 ≤ k
    · rw [if_neg (show ¬ k.toNat = hashN T e by omega)]
    · rw [if_neg (fun g => h0 g.1), if_neg (fun g => h0 g.1)]
theorem hdM_end {T : List UInt8} {e : Nat} (h : ¬ e + 3 ≤ T.length) : hdM T (e + 1) = hdM T e := by
  funext k
  unfold hdM
  rw [lastP_end h]
def prvL (T : List UInt8) (e : Nat) : List Nat := (List.range T.length).map fun j => if j < e ∧ j + 3 ≤ T.length then lastP T j (hashN T j) else 0
theorem prvL_len (T : List UInt8) (e : Nat) : (prvL T e).length = T.length := by simp [prvL]
theorem prvL_get {T : List UInt8} {e j : Nat} (h : j < e) (h2 : j + 3 ≤ T.length) : (prvL T e).getD j 0 = lastP T j (hashN T j) := by
  unfold prvL
  rw [List.getD_eq_getElem?_getD, List.getElem?_map, List.getElem?_range (by omega)]
  show (if j < e ∧ j + 3 ≤ T.length then lastP T j (hashN T j) else 0) = _
  rw [if_pos ⟨h, h2⟩]
theorem prvL_step {T : List UInt8} {e : Nat} (h : e + 3 ≤ T.length) : (prvL T e).set e (lastP T e (hashN T e)) = prvL T (e + 1) := by
  apply List.ext_getElem?
  intro i
  rw [List.getElem?_set, prvL_len]
  unfold prvL
  by_cases hi : e = i
  · subst hi
    rw [if_pos rfl, if_pos (by omega), List.getElem?_map, List.getElem?_range (by omega)]
    show _ = some (if e < e + 1 ∧ e + 3 ≤ T.length then lastP T e (hashN T e) else 0)
    rw [if_pos ⟨by omega, h⟩]
  · rw [if_neg hi]
    by_cases hl : i < T.length
    · rw [List.getElem?_map, List.getElem?_map, List.getElem?_range hl]
      show some (if i < e ∧ i + 3 ≤ T.length then lastP T i (hashN T i) else 0) = some (if i < e + 1 ∧ i + 3 ≤ T.length then lastP T i (hashN T i) else 0)
      have hiff : (i < e ∧ i + 3 ≤ T.length) ↔ (i < e + 1 ∧ i + 3 ≤ T.length) := by omega
      simp only [hiff]
    · rw [List.getElem?_eq_none (by simp; omega), List.getElem?_eq_none (by simp; omega)]
theorem prvL_end {T : List UInt8} {e : Nat} (h : ¬ e + 3 ≤ T.length) : prvL T (e + 1) = prvL T e := by
  unfold prvL
  refine List.map_congr_left fun i _ => ?_
  have hiff : (i < e + 1 ∧ i + 3 ≤ T.length) ↔ (i < e ∧ i + 3 ≤ T.length) := by omega
  simp only [hiff]
abbrev fIt (fb : Nat) (T : List UInt8) (at_ r : Nat) (pv : Value) (dp : Nat) : It := .box fb [str T, .int .i64 (at_ : Int), .map (some r), pv, .int .i64 (dp : Int)] 58
/-- a finder that has entered e places -/
def FS (H0 H : Heap) (fb : Nat) (T : List UInt8) (at_ dp e : Nat) (L : List It) : Prop := ∃ r pv, Owns H0 H (fIt fb T at_ r pv dp :: .thing (map8 r (hdM T e)) :: .sl pv 1 (nat8 (prvL T e)) :: L)
theorem FS.ext (f : FS H0 H fb T at_ dp e L) : Ext H0 H := by obtain ⟨_, _, o⟩ := f; exact o.ext
theorem FS.more {H' : Heap} (f : FS H0 H fb T at_ dp e L) (hx : Ext H H') : FS H0 H' fb T at_ dp e L := by
  obtain ⟨r, pv, o⟩ := f
  exact ⟨r, pv, o.more hx⟩
theorem hash8_spec {i r : Nat} {pv : Value} (o : Owns H0 H L) (hin : fIt fb T at_ r pv dp ∈ L) (hi : i + 3 ≤ T.length) (hl : T.length ≤ 1000000) (h : R (.int .i64 (hashN T i : Int)) H) : CallsH Tryd.prog 34 #[ptr8 fb, .int .i64 (i : Int)] H R := by
  refine match_finder_hash.vc _ _ _ _ ?_
  unfold match_finder_hash.res
  have h0 := (T.getD i 0).toNat_lt
  have h1 := (T.getD (i + 1) 0).toNat_lt
  have h2 := (T.getD (i + 2) 0).toNat_lt
  rw [pNil_v, pFieldAddr_v, add_mk]
  refine o.bload (f := 0 + 0) hin rfl ?_
  rw [pIdxStr_v]
  refine ⟨by omega, by rw [bys_mk]; omega, ?_⟩
  rw [bys_mk, Int.toNat_natCast, pConv_v, w64 (n := (((T.getD i 0).toNat : Nat) : Int)) (by omega) (by omega), pShl_v]
  refine ⟨by decide, ?_⟩
  rw [show (((T.getD i 0).toNat : Nat) : Int) * 2 ^ (min (Int.toNat 10) IntKind.i64.bits) = (((T.getD i 0).toNat * 1024 : Nat) : Int) from by
    rw [show min (Int.toNat 10) IntKind.i64.bits = 10 from rfl]; omega, w64 (by omega) (by omega), pAdd_v, show (i : Int) + 1 = ((i + 1 : Nat) : Int) by omega, w64 (by omega) (by omega), pIdxStr_v]
  refine ⟨by omega, by rw [bys_mk]; omega, ?_⟩
  rw [bys_mk, Int.toNat_natCast, pConv_v, w64 (n := (((T.getD (i + 1) 0).toNat : Nat) : Int)) (by omega) (by omega), pShl_v]
  refine ⟨by decide, ?_⟩
  rw [show (((T.getD (i + 1) 0).toNat : Nat) : Int) * 2 ^ (min (Int.toNat 5) IntKind.i64.bits) = (((T.getD (i + 1) 0).toNat * 32 : Nat) : Int) from by
    rw [show min (Int.toNat 5) IntKind.i64.bits = 5 from rfl]; omega, w64 (by omega) (by omega), pBits_v, xor_i64 (by omega) (by omega), pAdd_v, show (i : Int) + 2 = ((i + 2 : Nat) : Int) by omega, w64 (by omega) (by omega), pIdxStr_v]
  refine ⟨by omega, by rw [bys_mk]; omega, ?_⟩
  rw [bys_mk, Int.toNat_natCast, pConv_v, w64 (n := (((T.getD (i + 2) 0).toNat : Nat) : Int)) (by omega) (by omega), pBits_v]
  have hx : (T.getD i 0).toNat * 1024 ^^^ (T.getD (i + 1) 0).toNat * 32 < 2 ^ 20 := Nat.xor_lt_two_pow (by omega) (by omega)
  rw [xor_i64 (by omega) (by omega), pBits_v, and_low (k := 15) (m := 32767) (by decide) rfl]
  exact h
theorem enter8_spec (f : FS H0 H fb T at_ dp e L) (hl : T.length ≤ 1000000) (he : e ≤ T.length) (h : ∀ H', FS H0 H' fb T at_ dp (e + 1) L → R (.tuple #[]) H') : CallsH Tryd.prog 33 #[ptr8 fb, .int .i64 (e : Int)] H R := by
  obtain ⟨r, pv, o⟩ := f
  refine match_finder_enter.vc _ _ _ _ ?_
  unfold match_finder_enter.res
  rw [pAdd_v, w64 (n := (e : Int) + 3) (by omega) (by omega), pNil_v, pFieldAddr_v, add_mk]
  refine o.bload (b := fb) (f := 0 + 0) (by repeat (first | exact List.mem_cons_self | apply List.mem_cons_of_mem)) rfl ?_
  refine pLenS_to ?_
  rw [pGt_v]
  refine pCond_if (fun hc => ?_) (fun hc => ?_)
  · have hne : ¬ e + 3 ≤ T.length := by omega
    exact h H ⟨r, pv, by rw [hdM_end hne, prvL_end hne]; exact o⟩
  · have he3 : e + 3 ≤ T.length := by omega
    refine hash8_spec (fb := fb) (r := r) (pv := pv) (at_ := at_) (dp := dp) o (by repeat (first | exact List.mem_cons_self | apply List.mem_cons_of_mem)) he3 hl ?_
    rw [pNil_v, pFieldAddr_v, add_mk]
    refine o.bload (b := fb) (f := 0 + 3) (by repeat (first | exact List.mem_cons_self | apply List.mem_cons_of_mem)) rfl ?_
    rw [pNil_v, pFieldAddr_v, add_mk]
    refine o.bload (b := fb) (f := 0 + 2) (by repeat (first | exact List.mem_cons_self | apply List.mem_cons_of_mem)) rfl ?_
    refine MapAt.lookup (κ := intKeys .i64) (o.thing (T := map8 r (hdM T e)) (by repeat (first | exact List.mem_cons_self | apply List.mem_cons_of_mem))) (k := (hashN T e : Int)) ?_
    rw [cond_false, hdM_get]
    have hpl : (nat8 (prvL T e)).length = T.length * 1 := by rw [nat8_len, prvL_len, Nat.mul_one]
    refine (o.sl (v := pv) (by repeat (first | exact List.mem_cons_self | apply List.mem_cons_of_mem))).at_ hpl (by decide) (by omega) (by omega) fun p hp => ?_
    refine o.store hp (by repeat (first | exact List.mem_cons_self | apply List.mem_cons_of_mem)) (by rw [hpl]; omega) rfl (by repeat (first | exact Rep.here | apply Rep.there)) fun H1 o _ => ?_
    rw [Int.toNat_natCast, Nat.mul_one, nat8_set, prvL_step he3] at o
    rw [pNil_v, pFieldAddr_v, add_mk]
    refine o.bload (b := fb) (f := 0 + 2) (by repeat (first | exact List.mem_cons_self | apply List.mem_cons_of_mem)) rfl ?_
    rw [pAdd_v, show (e : Int) + 1 = ((e + 1 : Nat) : Int) by omega, w64 (by omega) (by omega)]
    refine MapAt.set (κ := intKeys .i64) (o.thing (T := map8 r (hdM T e)) (by repeat (first | exact List.mem_cons_self | apply List.mem_cons_of_mem))) (k := (hashN T e : Int)) fun H2 hm hs hne => ?_
    rw [hdM_step he3] at hm
    exact h H2 ⟨r, pv, o.turn (i := .thing (map8 r (hdM T e))) (i' := .thing (map8 r (hdM T (e + 1)))) (by repeat (first | exact Rep.here | apply Rep.there)) (by omega) (fun k _ hf => hne k hf) hm (fun k hk => .inl hk)⟩
theorem len8_spec {k i r : Nat} {pv : Value} (o : Owns H0 H L) (hin : fIt fb T at_ r pv dp ∈ L) (hk : k ≤ i) (hi : i ≤ T.length) (hl : T.length ≤ 1000000) (h : R (.int .i64 (lenF T k i : Int)) H) : CallsH Tryd.prog 35 #[ptr8 fb, .int .i64 (k : Int), .int .i64 (i : Int)] H R := by
  refine match_finder_length.vc _ _ _ _ _ ?_
  unfold match_finder_length.res
  rw [pNil_v, pFieldAddr_v, add_mk]
  refine o.bload (f := 0 + 0) hin rfl ?_
  refine pLenS_to ?_
  rw [pSub_v, show (T.length : Int) - (i : Int) = ((T.length - i : Nat) : Int) by omega, w64 (by omega) (by omega), pMin_v, show min (258 : Int) ((T.length - i : Nat) : Int) = ((min 258 (T.length - i) : Nat) : Int) by omega]
  refine ⟨fun n H' => ∃ q : Nat, n = .int .i64 q ∧ q ≤ lenF T k i ∧ H = H', fun n _ => match n with | .int _ x => 1000 - x.toNat | _ => 0, ⟨0, rfl, by omega, rfl⟩, ?_⟩
  rintro _ _ _ ⟨q, rfl, hq, rfl⟩
  have hle := lenF_le T k i
  rw [pLt_v]
  refine pAnd_if (d := decide (T.getD (k + q) 0 = T.getD (i + q) 0)) (fun hc => ?_) ?_
  · rw [decide_eq_true_eq] at hc
    rw [pNil_v, pFieldAddr_v, add_mk]
    refine o.bload (f := 0 + 0) hin rfl ?_
    rw [pAdd_v, show (k : Int) + (q : Int) = ((k + q : Nat) : Int) by omega, w64 (by omega) (by omega), pIdxStr_v]
    refine ⟨by omega, by rw [bys_mk]; omega, ?_⟩
    rw [bys_mk, Int.toNat_natCast, pNil_v, pFieldAddr_v, add_mk]
    refine o.bload (f := 0 + 0) hin rfl ?_
    rw [pAdd_v, show (i : Int) + (q : Int) = ((i + q : Nat) : Int) by omega, w64 (by omega) (by omega), pIdxStr_v]
    refine ⟨by omega, by rw [bys_mk]; omega, ?_⟩
    rw [bys_mk, Int.toNat_natCast, pEq_0]
    refine ⟨?_, rfl⟩
    congr 1
    rw [decide_eq_decide]
    constructor
    · intro g
      exact UInt8.toNat_inj.1 (by omega)
    · intro g; rw [g]
  intro _
  refine pCond_b (fun hc => ?_) (fun hc => ?_)
  · rw [Bool.and_eq_true, decide_eq_true_eq, decide_eq_true_eq] at hc
    have hqm : q < min 258 (T.length - i) := by omega
    rw [pAdd_v, w64 (n := (q : Int) + 1) (by omega) (by omega)]
    refine ⟨⟨q + 1, rfl, ?_, rfl⟩, by show 1000 - ((q : Int) + 1).toNat < 1000 - (q : Int).toNat; omega⟩
    by_cases hlt : q < lenF T k i
    · omega
    · have hqe : lenF T k i = q := by omega
      have := sameN_ne T (min 258 (T.length - i)) k i (by show lenF T k i < _; omega)
      rw [show sameN T k i (min 258 (T.length - i)) = q from hqe] at this
      exact absurd hc.2 this
  · have hqe : q = lenF T k i := by
      by_cases hlt : q < lenF T k i
      · have := sameN_eq T (min 258 (T.length - i)) k i q hlt
        rw [this, decide_eq_true rfl, Bool.and_true, decide_eq_false_iff_not] at hc
        omega
      · omega
    rw [hqe]
    exact h
theorem longest8_spec (f : FS H0 H fb T at_ dp e L) (hl : T.length ≤ 1000000) (he : e ≤ T.length) (h : R (.tuple #[.int .i64 ((longF T dp e).1 : Int), .int .i64 ((longF T dp e).2 : Int)]) H) : CallsH Tryd.prog 25 #[ptr8 fb, .int .i64 (e : Int)] H R := by
  obtain ⟨r, pv, o⟩ := f
  refine match_finder_longest.vc _ _ _ _ ?_
  unfold match_finder_longest.res
  rw [pAdd_v, w64 (n := (e : Int) + 3) (by omega) (by omega), pNil_v, pFieldAddr_v, add_mk]
  refine o.bload (b := fb) (f := 0 + 0) (by repeat (first | exact List.mem_cons_self | apply List.mem_cons_of_mem)) rfl ?_
  refine pLenS_to ?_
  rw [pGt_v]
  refine pCond_if (fun hc => ?_) (fun hc => ?_)
  · unfold longF at h
    rw [if_pos (by omega)] at h
    exact h
  have he3 : e + 3 ≤ T.length := by omega
  have hlong : longF T dp e = if (walkF T dp e (e + 1) 0 (lastP T e (hashN T e)) 0 0).1 < 3 then (0, 0) else walkF T dp e (e + 1) 0 (lastP T e (hashN T e)) 0 0 := by
    unfold longF
    rw [if_neg (by omega)]
  rw [hlong] at h
  rw [pNil_v, pFieldAddr_v, add_mk]
  refine o.bload (b := fb) (f := 0 + 2) (by repeat (first | exact List.mem_cons_self | apply List.mem_cons_of_mem)) rfl ?_
  refine hash8_spec (fb := fb) (r := r) (pv := pv) (at_ := at_) (dp := dp) o (by repeat (first | exact List.mem_cons_self | apply List.mem_cons_of_mem)) he3 hl ?_
  refine ⟨o.bload (b := fb) (f := 0 + 2) (by repeat (first | exact List.mem_cons_self | apply List.mem_cons_of_mem)) rfl rfl, ?_⟩
  refine MapAt.lookup (κ := intKeys .i64) (o.thing (T := map8 r (hdM T e)) (by repeat (first | exact List.mem_cons_self | apply List.mem_cons_of_mem))) (k := (hashN T e : Int)) ?_
  rw [hdM_get]
  have hpl : (nat8 (prvL T e)).length = T.length * 1 := by rw [nat8_len, prvL_len, Nat.mul_one]
  generalize hW : walkF T dp e (e + 1) 0 (lastP T e (hashN T e)) 0 0 = W at *
  refine ⟨fun b d H' => b = .int .i64 (W.1 : Int) ∧ d = .int .i64 (W.2 : Int) ∧ H = H', ?_, ?_⟩
  · rintro _ _ _ _ ⟨rfl, rfl, rfl⟩
    rw [pLt_v]
    refine pCond_if (fun hc => ?_) (fun hc => ?_)
    · rw [if_pos (by omega)] at h; exact h
    · rw [if_neg (by omega)] at h; exact h
  refine ⟨fun b d k n H' => ∃ (best dist kk nn c : Nat), b = .int .i64 (best : Int) ∧ d = .int .i64 (dist : Int) ∧ k = .int .i64 (kk : Int) ∧ n = .int .i64 (nn : Int) ∧ kk ≤ c ∧ kk ≤ e ∧ (0 < kk → kk - 1 + 3 ≤ T.length) ∧ nn + kk ≤ e ∧ best ≤ 258 ∧ dist ≤ e ∧ walkF T dp e c nn kk best dist = W ∧ H = H', fun _ _ k _ _ => match k with | .int _ x => x.toNat | _ => 0,
    ⟨0, 0, lastP T e (hashN T e), 0, e + 1, rfl, rfl, rfl, rfl, by have := lastP_le T (hashN T e) e; omega, lastP_le _ _ _, fun g => (lastP_at T _ _ g).1, by have := lastP_le T (hashN T e) e; omega, by omega, by omega, hW, rfl⟩, ?_⟩
  rintro _ _ _ _ _ _ ⟨best, dist, k, n, c, rfl, rfl, rfl, rfl, hkc, hke, hkT, hnk, hb, hd, hw, rfl⟩
  rw [pGt_v]
  refine pAnd_if (d := decide ((n : Int) < (dp : Int))) (fun _ => ?_) ?_
  · rw [pNil_v, pFieldAddr_v, add_mk]
    refine o.bload (b := fb) (f := 0 + 4) (by repeat (first | exact List.mem_cons_self | apply List.mem_cons_of_mem)) rfl ?_
    rw [pLt_v]
    exact ⟨rfl, rfl⟩
  intro _
  refine pAnd_if (d := decide ((e : Int) - ((k : Int) - 1) ≤ 32768)) (fun _ => ?_) ?_
  · rw [pSub_v, w64 (by omega) (by omega), pSub_v, w64 (by omega) (by omega), pLe_v]
    exact ⟨rfl, rfl⟩
  intro _
  refine pCond_b (fun hc => ?_) (fun hc => ?_)
  · rw [Bool.and_eq_true, Bool.and_eq_true, decide_eq_true_eq, decide_eq_true_eq, decide_eq_true_eq] at hc
    have hk0 : 0 < k := by omega
    obtain ⟨c, rfl⟩ : ∃ c', c = c' + 1 := ⟨c - 1, by omega⟩
    have hcc : 0 < k ∧ n < dp ∧ e - (k - 1) ≤ 32768 := ⟨hk0, by omega, by omega⟩
    have hlen := lenF_le T (k - 1) e
    refine ⟨fun b d H' => b = .int .i64 (stepB T e k best : Int) ∧ d = .int .i64 (stepD T e k best dist : Int) ∧ H = H', ?_, ?_⟩
    · rintro _ _ _ _ ⟨rfl, rfl, rfl⟩
      rw [pEq_0]
      refine pCond_if (fun h258 => ?_) (fun h258 => ?_)
      · rw [walkF_full hcc (by omega)] at hw
        rw [← hw]
        exact ⟨rfl, rfl, rfl⟩
      · rw [walkF_go hcc (by omega)] at hw
        rw [pNil_v, pFieldAddr_v, add_mk]
        refine o.bload (b := fb) (f := 0 + 3) (by repeat (first | exact List.mem_cons_self | apply List.mem_cons_of_mem)) rfl ?_
        rw [pSub_v, show (k : Int) - 1 = ((k - 1 : Nat) : Int) by omega, w64 (by omega) (by omega)]
        have hkT := hkT hk0
        refine (o.sl (v := pv) (by repeat (first | exact List.mem_cons_self | apply List.mem_cons_of_mem))).at_ hpl (by decide) (by omega) (by omega) fun p hp => ?_
        refine hp.load (o.sl (v := pv) (by repeat (first | exact List.mem_cons_self | apply List.mem_cons_of_mem))) (by rw [Int.toNat_natCast, Nat.mul_one]; exact nat8_get (by rw [prvL_len]; omega)) ?_
        rw [prvL_get (by omega) hkT, pAdd_v, w64 (n := (n : Int) + 1) (by omega) (by omega)]
        have hl2 := lastP_le T (hashN T (k - 1)) (k - 1)
        refine ⟨⟨stepB T e k best, stepD T e k best dist, lastP T (k - 1) (hashN T (k - 1)), n + 1, c, rfl, rfl, rfl, rfl, by omega, by omega, fun g => (lastP_at T _ _ g).1, by omega, ?_, ?_, hw, rfl⟩, by show ((lastP T (k - 1) (hashN T (k - 1)) : Nat) : Int).toNat < (k : Int).toNat; omega⟩
        · unfold stepB; split <;> omega
        · unfold stepD; split <;> omega
    · rw [pSub_v, show (k : Int) - 1 = ((k - 1 : Nat) : Int) by omega, w64 (by omega) (by omega)]
      refine len8_spec (fb := fb) (r := r) (pv := pv) (at_ := at_) (dp := dp) o (by repeat (first | exact List.mem_cons_self | apply List.mem_cons_of_mem)) (by omega) he hl ?_
      rw [pGt_v]
      refine pCond_if (fun hlt => ?_) (fun hlt => ?_)
      · rw [pSub_v, show (k : Int) - 1 = ((k - 1 : Nat) : Int) by omega, w64 (by omega) (by omega), pSub_v, show (e : Int) - ((k - 1 : Nat) : Int) = ((e - (k - 1) : Nat) : Int) by omega, w64 (by omega) (by omega)]
        unfold stepB stepD
        rw [if_pos (by omega), if_pos (by omega)]
        exact ⟨rfl, rfl, rfl⟩
      · unfold stepB stepD
        rw [if_neg (by omega), if_neg (by omega)]
        exact ⟨rfl, rfl, rfl⟩
  · have hstop : walkF T dp e c n k best dist = (best, dist) := by
      cases c with
      | zero => rfl
      | succ c =>
        refine walkF_stop fun g => ?_
        rw [decide_eq_true (by omega), decide_eq_true (by omega), decide_eq_true (by omega)] at hc
        cases hc
    rw [hstop] at hw
    rw [← hw]
    exact ⟨rfl, rfl, rfl⟩
theorem newF8_spec {A s : List UInt8} {d : Nat} (o : Owns H0 H L) (hl : A.length + s.length ≤ 900000) (hd : d ≤ 1073741824)
    (h : ∀ H' fb, FS H0 H' fb (A.drop (A.length - 32768) ++ s) (A.drop (A.length - 32768)).length d (A.drop (A.length - 32768)).length L → R (ptr8 fb) H') : CallsH Tryd.prog 24 #[str A, str s, .int .i64 (d : Int)] H R := by
  refine match_newFinder.vc _ _ _ _ _ ?_
  unfold match_newFinder.res
  refine pLenS_to ?_
  rw [pSub_v, w64 (n := (A.length : Int) - 32768) (by omega) (by omega), pMax_v, show max ((A.length : Int) - 32768) 0 = ((A.length - 32768 : Nat) : Int) by omega]
  refine pSlStr_to (lo := A.length - 32768) (hi := A.length) (.inl rfl) (.inr ⟨rfl, rfl⟩) (by omega) (by omega) ?_
  rw [List.take_of_length_le (by rw [List.length_drop]; exact Nat.le_refl _)]
  have hBl : (A.drop (A.length - 32768)).length ≤ A.length := by rw [List.length_drop]; omega
  generalize A.drop (A.length - 32768) = B at *
  refine pAdd_str (by omega) ?_
  refine pLenS_to ?_
  have hTl : (B ++ s).length ≤ 1000000 := by rw [List.length_append]; omega
  have hBT : B.length ≤ (B ++ s).length := by rw [List.length_append]; omega
  generalize B ++ s = T at *
  refine map_make (intKeys .i64) fun H1 hm hx hsz => ?_
  have o := o.add hx (i := .thing (map8 H.size (hdM T 0))) (by rw [hdM_zero]; exact hm) (by intro k hk; obtain rfl : k = H.size := hk; exact Nat.le_refl _)
  refine pBuild_one rfl (by decide) ?_
  refine pBuild_one rfl (by simp) ?_
  refine pBuild_one rfl (by simp) ?_
  refine pBuild_one rfl (by simp) ?_
  rw [pBuild_n]
  refine o.box fun fb H2 o _ => ?_
  change Owns H0 H2 (fIt fb T B.length H.size (.slice none 0 0) d :: _) at o
  rw [pNil_v, pFieldAddr_v, add_mk]
  refine o.bload (b := fb) (f := 0 + 0) (by repeat (first | exact List.mem_cons_self | apply List.mem_cons_of_mem)) rfl ?_
  refine pLenS_to ?_
  refine o.make1 (by omega) (by omega) (by omega) fun pv H3 o => ?_
  rw [Int.toNat_natCast] at o
  rw [pNil_v, pFieldAddr_v, add_mk]
  refine o.bstore (b := fb) (f := 0 + 3) (by repeat (first | exact List.mem_cons_self | apply List.mem_cons_of_mem)) (by simp) (o.sl (v := pv) (by repeat (first | exact List.mem_cons_self | apply List.mem_cons_of_mem))).one (by repeat (first | exact Rep.here | apply Rep.there)) fun H4 o _ => ?_
  refine pLenS_to ?_
  have hp0 : List.replicate T.length (Value.int .i64 0) = nat8 (prvL T 0) := by
    unfold nat8 prvL
    rw [List.map_map]
    apply List.ext_getElem?
    intro i
    rw [List.getElem?_replicate, List.getElem?_map]
    by_cases hi : i < T.length
    · rw [if_pos hi, List.getElem?_range hi]
      show _ = some (Value.int .i64 (((if i < 0 ∧ i + 3 ≤ T.length then lastP T i (hashN T i) else 0) : Nat) : Int))
      rw [if_neg (by omega)]; rfl
    · rw [if_neg hi, List.getElem?_eq_none (by rw [List.length_range]; omega)]; rfl
  rw [hp0] at o
  have f : FS H0 H4 fb T B.length d 0 L := ⟨H.size, pv, o.arrT (by repeat (first | exact SelsT.refl | exact Sel.here | apply SelsT.cons | apply Sel.there))⟩
  clear o
  refine ⟨fun i H' => ∃ j : Nat, i = .int .i64 j ∧ j ≤ B.length ∧ FS H0 H' fb T B.length d j L, fun i _ => match i with | .int _ x => B.length - x.toNat | _ => 0, ⟨0, rfl, by omega, f⟩, ?_⟩
  clear f
  rintro _ _ H5 ⟨j, rfl, hj, f⟩
  rw [pLt_v]
  refine pCond_if (fun hc => ?_) (fun hc => ?_)
  · refine enter8_spec f hTl (by omega) fun H6 f => ?_
    rw [pAdd_v, w64 (n := (j : Int) + 1) (by omega) (by omega)]
    exact ⟨⟨j + 1, rfl, by omega, f⟩, by show B.length - ((j : Int) + 1).toNat < B.length - (j : Int).toNat; omega⟩
  · have hjB : j = B.length := by omega
    subst hjB
    exact h H5 fb f
end Go.Proofs.YtfmbgnchedhneaaDoor
