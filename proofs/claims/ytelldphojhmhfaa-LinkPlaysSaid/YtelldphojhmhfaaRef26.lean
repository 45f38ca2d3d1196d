/- Contracts of package lighterref26. -/
import Derived.Test.YtelldphojhmhfaaLinkB
import Derived.Test.YtelldphojhmhfaaRef01
import Derived.Test.YtelldphojhmhfaaResLighterref26
namespace Go.Proofs.Ytelldphojhmhfaa
open Go Go.Vc Go.Proofs
set_option linter.unusedVariables false
set_option linter.unusedSimpArgs false
variable {H : Heap} {R : Value → Heap → Prop}
theorem tb_mod {bits : Int} {k : Nat} (h0 : 0 ≤ bits) : (decide ((bits / 2 ^ k).tmod 2 = 1)) = tb bits k := by
  obtain ⟨m, rfl⟩ := Int.eq_ofNat_of_zero_le h0
  unfold tb
  rw [Int.toNat_natCast, Nat.testBit_eq_decide_div_mod_eq]
  have e : ((m : Int) / 2 ^ k) = ((m / 2 ^ k : Nat) : Int) := by rw [Int.natCast_ediv, Int.natCast_pow]; rfl
  rw [e]
  generalize m / 2 ^ k = z
  rw [Int.tmod_eq_emod_of_nonneg (Int.natCast_nonneg _), Bool.eq_iff_iff, decide_eq_true_eq, decide_eq_true_eq]
  omega
theorem bitsV_at {l : List Bool} {i : Nat} (h : i < l.length) : (bitsV l)[i]? = some (.int .i64 ((l[i].toNat : Nat) : Int)) := by simp [bitsV, h]
theorem bitsV_set {l : List Bool} {i : Nat} {b : Bool} : (bitsV l).set i (.int .i64 ((b.toNat : Nat) : Int)) = bitsV (l.set i b) := by simp [bitsV, List.map_set]
theorem ref26_spec {s : List UInt8} {at_ bits : Int} (hs : s.length ≤ 1000000) (ha0 : -9223372036854775808 ≤ at_) (ha1 : at_ ≤ 9223372036854775807) (h0 : 0 ≤ bits) (h1 : bits ≤ 4294967295)
    (h : ∀ H', Ext H H' → R (str (spoilL s at_ (tb bits))) H') : CallsH Try.prog 15 #[str s, .int .i64 at_, .int .u32 bits] H R := by
  refine lighterref26_Spoil.vc _ _ _ _ _ ?_
  unfold lighterref26_Spoil.res
  refine refBits_spec (by omega) fun H1 y oy e1 fy => ?_
  have o : Owns H H1 [.sl y 1 (bitsV (toBits s))] := (Owns.start (H := H)).add e1 ⟨by decide, oy⟩ (fun k hk => fy k hk)
  have hBl : (toBits s).length = 8 * s.length := toBits_len s
  generalize hB : toBits s = B at *
  have o : Owns H H1 [.sl y 1 (bitsV (flipB at_ (tb bits) 0 B))] := by rw [flipB_zero]; exact o
  have hfl : ∀ k, (bitsV (flipB at_ (tb bits) k B)).length = B.length * 1 := fun k => by rw [bitsV_len, flipB_len]; omega
  refine ⟨fun i H' => ∃ k : Nat, i = .int .i64 k ∧ k ≤ 32 ∧ Owns H H' [.sl y 1 (bitsV (flipB at_ (tb bits) k B))], fun i _ => match i with | .int _ x => (100 - x).toNat | _ => 0, ⟨0, rfl, by omega, o⟩, ?_⟩
  rintro _ _ H2 ⟨k, rfl, hk, o⟩
  rw [pLt_v]
  refine pCond_if (fun hc => ?_) (fun hc => ?_)
  rotate_left
  · have : k = 32 := by omega
    subst this
    refine refBytes_spec (l := flipB at_ (tb bits) 32 B) (by rw [flipB_len]; omega) (o.sl (by repeat (first | exact List.mem_cons_self | apply List.mem_cons_of_mem))) fun H3 x3 => ?_
    have := h H3 (o.ext.trans x3)
    unfold spoilL at this
    rw [hB] at this
    exact this
  refine ⟨fun v i H' => ∃ q : Nat, i = .int .i64 q ∧ q ≤ k ∧ v = .int .u32 (bits / 2 ^ q) ∧ H2 = H', fun v i _ => match i with | .int _ x => (2000 - x).toNat | _ => 0, ⟨0, rfl, by omega, by simp, rfl⟩, ?_⟩
  rintro _ _ _ _ ⟨q, rfl, hq, rfl, rfl⟩
  have hP : (0 : Int) < 2 ^ q := Int.pow_pos (by decide)
  have hq0 : 0 ≤ bits / 2 ^ q := Int.ediv_nonneg h0 (by omega)
  have hq1 : bits / 2 ^ q ≤ bits := Int.ediv_le_self _ h0
  have hqs : bits / 2 ^ (q + 1) = bits / 2 ^ q / 2 := by rw [Int.pow_succ, Int.ediv_ediv_of_nonneg (by omega)]
  rw [pLt_v]
  refine pCond_if (fun hlt => ?_) (fun hlt => ?_)
  · simp only [pPick_v, pNil_v, pNil_f, pAdd_v, pSub_v, pMul_v, pAdd_s, pQuo_v, pRem_v, pBits_v, pShl_v, pShr_v, pLt_v, pLe_v, pGt_v, pGe_v, pEq_0, pNe_0, pEq_1, pNe_1, pEq_2, pNe_2, pEq_3n, pNe_3n, pEq_3s, pNe_3s, pEq_3t, pNe_3t, pEq_5n, pNe_5n, pEq_5s, pNe_5s, pEq_5t, pNe_5t, pEq_4n, pNe_4n, pEq_4s, pNe_4s, pNot_v, pNeg_v, pCom_v, pConv_v, pConvS_v, pMin_v, pMax_v, pFieldAddr_v, pField1_v, pFieldN_v, pExtract_v, pIdxArr_v, pIdxSl_v, pIdxStr_v, pBounds_00, pBounds_10, pBounds_01, pBounds_11, pSlStr_v, pSlSl_v, pSlArr_v, pLenS_v, pLen_v, pCap_v, pBuild_n, pBuild_c, cells_int, cells_str, cells_bool, cells_ptr, cells_slice, cells_map, cells_agg, oneCell_int, oneCell_str, oneCell_bool, oneCell_ptr, oneCell_slice, oneCell_map, putL_cons, putL_nil, pAnd_pure, pOr_pure, pAnd_pureE, pOr_pureE, pAnd_false, pOr_true, pCond_true, pCond_false, add_mk, bys_mk, bys_size, cond_true, cond_false, decide_true, decide_false, decide_not', dec_and, dec_or, dec_eqt, Bool.not_true, Bool.not_false, Option.isNone_none, Option.isNone_some, Option.map_some, Option.map_none, List.getElem?_toArray, List.getElem?_cons_zero, List.getElem?_cons_succ, List.size_toArray, List.length_cons, List.length_nil, List.length_replicate, List.set_cons_zero, List.set_cons_succ, Nat.reduceAdd, Nat.reduceMul, Nat.reduceSub, Nat.reduceLeDiff, Nat.zero_add, Nat.add_zero, Nat.zero_le, true_and, and_true, not_false_eq_true, ne_eq, Int.reduceNeg, Int.reduceEq, Int.reduceNe, Int.reduceLT, Int.reduceLE, le_refl', List.setIfInBounds_toArray, Nat.reduceLT, Array.size_setIfInBounds, if_true, if_false, reduceCtorEq, List.toArray_toList', List.drop_succ_cons, List.drop_zero, List.take_succ_cons, List.take_zero, List.nil_append, List.append_nil, List.cons_append, Bool.and_true, Bool.true_and, Bool.or_false, Bool.false_or, Bool.and_false, Bool.or_true, Bool.true_or, Bool.false_and, eq_self]
    rw [Int.tdiv_eq_ediv_of_nonneg hq0, ← hqs, w64 (n := (q : Int) + 1) (by omega) (by omega)]
    have hq2 : 0 ≤ bits / 2 ^ (q + 1) ∧ bits / 2 ^ (q + 1) ≤ 4294967295 := by omega
    rw [show IntKind.u32.wrap (bits / 2 ^ (q + 1)) = bits / 2 ^ (q + 1) by rw [wu32_mod]; omega]
    exact ⟨⟨q + 1, rfl, by omega, rfl⟩, by show (_ : Int).toNat < (_ : Int).toNat; omega⟩
  have hqk : q = k := by omega
  subst hqk
  -- the bits, one by one
  refine ⟨fun i H' => ∃ j : Nat, i = .int .i64 j ∧ j ≤ B.length ∧ Owns H H' [.sl y 1 (bitsV (if tb bits q = true ∧ 0 ≤ at_ + q ∧ at_ + q < j then flipB at_ (tb bits) (q + 1) B else flipB at_ (tb bits) q B))],
    fun i _ => match i with | .int _ x => ((B.length : Int) - x).toNat | _ => 0, ⟨0, rfl, by omega, by rw [if_neg (by omega)]; exact o⟩, ?_⟩
  rintro _ _ H3 ⟨j, rfl, hj, o⟩
  have hcl : ∀ j : Nat, (bitsV (if tb bits q = true ∧ 0 ≤ at_ + q ∧ at_ + q < j then flipB at_ (tb bits) (q + 1) B else flipB at_ (tb bits) q B)).length = B.length * 1 := fun j => by split <;> exact hfl _
  refine (o.sl (v := y) (by repeat (first | exact List.mem_cons_self | apply List.mem_cons_of_mem))).len (hcl j) (by decide) ?_
  rw [pLt_v]
  refine pCond_if (fun hjc => ?_) (fun hjc => ?_)
  · have hjl : j < B.length := by omega
    refine ⟨fun H' => Owns H H' [.sl y 1 (bitsV (if tb bits q = true ∧ 0 ≤ at_ + q ∧ at_ + q < (j + 1 : Nat) then flipB at_ (tb bits) (q + 1) B else flipB at_ (tb bits) q B))], ?_, ?_⟩
    · intro _ H4 o
      rw [pAdd_v, w64 (n := (j : Int) + 1) (by omega) (by omega)]
      exact ⟨⟨j + 1, rfl, by omega, o⟩, by show (_ : Int).toNat < (_ : Int).toNat; omega⟩
    rw [pRem_v]
    refine ⟨by decide, ?_⟩
    rw [pEq_0, tb_mod h0]
    cases htb : tb bits q with
    | false =>
      rw [pAnd_false]
      intro _
      rw [pCond_false]
      rw [if_neg (by simp)]
      rw [if_neg (by rw [htb]; simp)] at o
      exact o
    | true =>
      refine pAnd_true ?_
      rw [pSub_v, w64 (n := (j : Int) - (q : Int)) (by omega) (by omega), pEq_0]
      intro _
      refine pCond_if (fun heq => ?_) (fun hne => ?_)
      · rw [if_neg (by omega)] at o
        obtain ⟨hg, hse⟩ := flipB_set (B := B) htb (show at_ + (q : Int) = (j : Int) by omega) hjl
        have hjf : j < (flipB at_ (tb bits) q B).length := by rw [flipB_len]; exact hjl
        refine (o.sl (v := y) (by repeat (first | exact List.mem_cons_self | apply List.mem_cons_of_mem))).at_ (hfl q) (by decide) (by omega) (by omega) fun p hp => ?_
        refine hp.load (o.sl (v := y) (by repeat (first | exact List.mem_cons_self | apply List.mem_cons_of_mem))) (w := .int .i64 ((B[j].toNat : Nat) : Int)) (by
          rw [Int.toNat_natCast, Nat.mul_one, bitsV_at hjf]
          rw [List.getElem?_eq_getElem hjf] at hg
          rw [Option.some.inj hg]) ?_
        rw [pSub_v]
        refine (o.sl (v := y) (by repeat (first | exact List.mem_cons_self | apply List.mem_cons_of_mem))).at_ (hfl q) (by decide) (by omega) (by omega) fun p hp => ?_
        have e : IntKind.i64.wrap (1 - ((B[j].toNat : Nat) : Int)) = (((!B[j]).toNat : Nat) : Int) := by
          cases B[j] <;> rfl
        rw [e]
        refine o.store hp (by repeat (first | exact List.mem_cons_self | apply List.mem_cons_of_mem)) (by rw [Int.toNat_natCast, hfl]; omega) rfl (by repeat (first | exact Rep.here | apply Rep.there)) fun H4 o _ => ?_
        rw [Int.toNat_natCast, Nat.mul_one, bitsV_set, ← hse] at o
        rw [if_pos ⟨by trivial, by omega, by omega⟩]
        exact o
      · have e : (if true = true ∧ 0 ≤ at_ + (q : Int) ∧ at_ + (q : Int) < ((j + 1 : Nat) : Int) then flipB at_ (tb bits) (q + 1) B else flipB at_ (tb bits) q B) = (if tb bits q = true ∧ 0 ≤ at_ + (q : Int) ∧ at_ + (q : Int) < (j : Int) then flipB at_ (tb bits) (q + 1) B else flipB at_ (tb bits) q B) := by
          by_cases hd : 0 ≤ at_ + (q : Int) ∧ at_ + (q : Int) < (j : Int)
          · rw [if_pos ⟨rfl, hd.1, by omega⟩, if_pos ⟨htb, hd⟩]
          · rw [if_neg (fun g => hd ⟨g.2.1, by have := g.2.2; omega⟩), if_neg (fun g => hd g.2)]
        rw [e]
        exact o
  · have hjl : j = B.length := by omega
    rw [pAdd_v, w64 (n := (q : Int) + 1) (by omega) (by omega)]
    refine ⟨⟨q + 1, rfl, by omega, ?_⟩, by show (_ : Int).toNat < (_ : Int).toNat; omega⟩
    by_cases hd : tb bits q = true ∧ 0 ≤ at_ + q ∧ at_ + q < j
    · rw [if_pos hd] at o; exact o
    · rw [if_neg hd] at o
      rw [flipB_same (by
        by_cases hg : tb bits q = true
        · right
          by_cases hn : at_ + q < 0
          · exact .inl hn
          · right; have : ¬ (at_ + q < j) := fun g => hd ⟨hg, by omega, g⟩
            omega
        · left; simpa using hg)]
      exact o
end Go.Proofs.Ytelldphojhmhfaa
