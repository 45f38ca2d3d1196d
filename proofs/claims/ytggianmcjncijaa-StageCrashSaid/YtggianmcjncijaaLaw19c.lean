/- The law StageCrash over heaps. -/
import Derived.Test.YtggianmcjncijaaLaw19
import Derived.Test.YtggianmcjncijaaInts
namespace Go.Proofs.Ytggianmcjncijaa
open Go Go.Vc Go.Proofs
set_option linter.unusedVariables false
set_option linter.unusedSimpArgs false
variable {H H0 : Heap} {R : Value → Heap → Prop} {v : Value} {L : List It} {b fb at_ n : Nat} {M : Dk} {C : List UInt8}
theorem crash_n (M : Dk) (fs : List Int) : (M.crash fs).n = M.n := by
  unfold Dk.crash
  split <;> rfl
theorem dsk_safe_crash {S : List UInt8} (d : Dsk H0 H b M L) (h : Safe M at_ S) (hr : ∀ k, k < S.length → at_ + k / 64 < M.n) (fs : List Int) : Safe (M.crash fs) at_ S := by
  obtain ⟨lv, r, ov, lf, o, ok⟩ := d
  exact safe_crash ok h hr fs
set_option maxHeartbeats 1000000 in
theorem StageCrash_law (a0 : Option Addr) (len0 cap0 : Nat) (fuse : Int) (a1 : Option Addr) (len1 cap1 : Nat) (zs : List Int) (w0 : StructRow [.string] H a0 len0 cap0) (w1 : (Lit.int .i64 fuse).wf = true) (w2 : IntRow .i64 H a1 len1 cap1 zs) :
    CallsH Try.prog 4 #[.slice a0 len0 cap0, .int .i64 fuse, .slice a1 len1 cap1] H (LawOk H) := by
  obtain ⟨T, hTl, hTm, hTs, hT⟩ := str_rows w0
  obtain ⟨fs, hfl, hfm, _, hfs⟩ := int_rows w2
  have hmax : maxLen = 9223372036854775807 := rfl
  have hvl : (txtsV T).length = T.length * 1 := by rw [txtsV_len, Nat.mul_one]
  refine lighterlaw19_StageCrash.vc _ _ _ _ _ ?_
  unfold lighterlaw19_StageCrash.res
  refine speaks19_spec fun H1 hx1 => ?_
  rw [pNot_v, Bool.not_true, pCond_false]
  have hT := hT.ext hx1
  have hfs := hfs.ext hx1
  refine new_spec (n := 16) (Owns.start (H := H1)) (by decide) (by decide) fun H2 b d => ?_
  refine pExtract_to rfl ?_
  refine pExtract_to rfl ?_
  refine FA.new0 (at_ := 1) (n := 14) d (by decide) (by decide) rfl rfl fun H3 fb f => ?_
  refine pExtract_to rfl ?_
  refine pExtract_to rfl ?_
  rw [pBits_v, and_low (k := 6) (m := 63) (n := fuse) (by decide) rfl]
  refine fuse_spec (by omega) f.d fun H4 d => ?_
  refine ⟨fun sv H' => ∃ (S : List UInt8) (M : Dk) (size : Nat), sv = str S ∧ M.n = 16 ∧ S.length ≤ 896 ∧ Safe M 1 S ∧ Dsk H1 H' b M (fileIt fb b 1 14 size :: []), ?_, ?_⟩
  · clear f d
    rintro _ _ H5 ⟨S, M, size, rfl, hn, hS, hsafe, d⟩
    refine crash_spec d (.inl hfs) (by omega) fun H6 d2 => ?_
    have hs2 := dsk_safe_crash d hsafe (fun k hk => by rw [hn]; omega) fs
    refine start_spec d2 fun H7 d3 => ?_
    have hs3 : Safe { M.crash fs with off := false } 1 S := hs2
    have hn3 : ({ M.crash fs with off := false } : Dk).n = 16 := by show (M.crash fs).n = 16; rw [crash_n]; exact hn
    generalize hM3 : ({ M.crash fs with off := false } : Dk) = M3 at *
    have ho3 : M3.off = false := by rw [← hM3]
    refine pLenS_to ?_
    refine newF_spec (by omega) d3 (by decide) (fun hg => absurd (by omega) hg) fun _ _ _ _ _ H8 fb2 d4 => ?_
    rw [Int.toNat_natCast] at d4
    refine pExtract_to rfl ?_
    refine pExtract_to rfl ?_
    refine pLenS_to ?_
    refine readF_spec (at_ := 1) (n := 14) (size := S.length) d4 (by omega) (by omega) ho3 (fun hg => absurd (by omega) hg) fun _ _ _ _ H9 hx => ?_
    refine pExtract_to rfl ?_
    refine pExtract_to rfl ?_
    rw [pEq_0, decide_eq_true (show (0 : Int) = 0 from rfl)]
    refine pAnd_true ?_
    rw [pEq_0, decide_eq_true (show (0 : Int) = 0 from rfl)]
    intro _
    refine pAnd_true ?_
    refine pEq1_to ?_
    have e : ((img M3 1 14).drop (0 : Int).toNat).take ((S.length : Nat) : Int).toNat = S := by
      rw [Int.toNat_natCast]
      exact safe_img hs3 (fun j hj => d4.secs (by omega)) (by omega)
    rw [e, decide_eq_true (by rfl)]
    intro _
    exact ⟨rfl, hx1.trans (d4.ext.trans hx)⟩
  refine ⟨fun sv av i H' => ∃ (k : Nat) (S C : List UInt8) (M : Dk), i = .int .i64 k ∧ k ≤ 20 ∧ sv = str S ∧ av = str C ∧ M.n = 16 ∧ M.off = false ∧ C.length ≤ 896 ∧ (img M 1 14).take C.length = C ∧ S.length ≤ C.length ∧ Safe M 1 S ∧ Dsk H1 H' b M (fileIt fb b 1 14 C.length :: []), fun _ _ i _ => match i with | .int _ x => 100 - x.toNat | _ => 0, ⟨0, [], [], _, rfl, by omega, rfl, rfl, rfl, rfl, by simp, by simp, by simp, fun k hk => by simp at hk, d⟩, ?_⟩
  clear f d
  rintro _ _ _ _ H5 ⟨k, S, C, M, rfl, hk, rfl, rfl, hn, ho, hC, him, hSC, hsafe, d⟩
  refine (hT.ext d.ext).len hvl (by decide) ?_
  rw [pLt_v]
  refine pAnd_if (d := decide ((k : Int) < 20)) (fun _ => by rw [pLt_v]; exact ⟨rfl, rfl⟩) ?_
  intro _
  refine pCond_b (fun hc => ?_) (fun _ => ⟨S, M, C.length, rfl, hn, by omega, hsafe, d⟩)
  rw [Bool.and_eq_true, decide_eq_true_eq, decide_eq_true_eq] at hc
  have hkT : k < T.length := by omega
  refine ⟨fun sv av H' => ∃ (S C : List UInt8) (M : Dk), sv = str S ∧ av = str C ∧ M.n = 16 ∧ M.off = false ∧ C.length ≤ 896 ∧ (img M 1 14).take C.length = C ∧ S.length ≤ C.length ∧ Safe M 1 S ∧ Dsk H1 H' b M (fileIt fb b 1 14 C.length :: []), ?_, ?_⟩
  · rintro _ _ _ H6 ⟨S, C, M, rfl, rfl, g1, g2, g3, g4, g5, g6, g7⟩
    rw [pAdd_v, w64 (n := (k : Int) + 1) (by omega) (by omega)]
    exact ⟨⟨k + 1, S, C, M, rfl, by omega, rfl, rfl, g1, g2, g3, g4, g5, g6, g7⟩, by show 100 - ((k : Int) + 1).toNat < 100 - (k : Int).toNat; omega⟩
  have hld : ∀ {K : Value → Prop}, K (str T[k]) → pIdxSl 1 (.slice a0 len0 cap0) (.int .i64 (k : Int)) fun x => pLoad H5 x K := fun hK =>
    (hT.ext d.ext).at_ hvl (by decide) (by omega) (by omega) fun p hp => hp.load (hT.ext d.ext) (w := str T[k]) (by rw [Int.toNat_natCast, Nat.mul_one, txtsV_get hkT]) hK
  refine hld ?_
  refine hld ?_
  refine pLenS_to ?_
  rw [pMin_v, show min ((T[k].length : Nat) : Int) 100 = ((min T[k].length 100 : Nat) : Int) by omega]
  refine pSlStr_to (lo := 0) (hi := min T[k].length 100) (.inr ⟨rfl, rfl⟩) (.inl rfl) (by omega) (by omega) ?_
  rw [List.drop_zero, Nat.sub_zero]
  have hsl : (T[k].take (min T[k].length 100)).length ≤ 100 := by rw [List.length_take]; omega
  generalize T[k].take (min T[k].length 100) = s at *
  by_cases hfull : 64 * 14 - C.length < s.length
  · refine append_full d (by decide) (by omega) hfull ?_
    rw [pEq_0, decide_eq_true (show (15 : Int) = 15 from rfl), pCond_true]
    exact ⟨S, M, C.length, rfl, hn, by omega, hsafe, d⟩
  refine append_spec d (by omega) (by omega) (by omega) ho fun H6 M6 e g d6 => ?_
  have hs6 := g.safe S hSC hsafe
  by_cases he : e = 0
  · subst he
    rw [if_pos rfl] at d6
    rw [pEq_0, decide_eq_false (by decide), pCond_false, pNe_0, decide_eq_false (by simp), pCond_false]
    refine pAdd_str (by omega) ?_
    have hy := g.yes rfl
    have hn6 : M6.n = 16 := by rw [g.n_]; exact hn
    have hCs : (C ++ s).length = C.length + s.length := List.length_append
    have him6 : (img M6 1 14).take (C ++ s).length = C ++ s := by rw [hCs, hy.2, him]
    rw [pBits_v, and_low (k := 1) (m := 1) (n := (k : Int)) (by decide) rfl, pEq_0]
    refine pCond_if (fun _ => ?_) (fun _ => ?_)
    · refine syncF_spec d6 fun H7 d7 => ?_
      unfold Dk.sync at d7 ⊢
      rw [if_neg (by rw [hy.1]; decide)] at d7 ⊢
      by_cases hf : M6.fuse = some 0
      · rw [if_pos hf] at d7 ⊢
        rw [pNe_0, decide_eq_true (show (14 : Int) ≠ 0 by decide), pCond_true]
        exact ⟨S, M6.crash [], _, rfl, by rw [crash_n]; exact hn6, by omega, dsk_safe_crash d6 hs6 (fun k hk => by omega) [], d7⟩
      · rw [if_neg hf] at d7 ⊢
        rw [pNe_0, decide_eq_false (by simp), pCond_false]
        refine ⟨C ++ s, C ++ s, M6.flush, rfl, rfl, hn6, hy.1, by omega, him6, Nat.le_refl _, safe_of_img (n := 14) (fun j hj => d6.secs (by omega)) (by omega) him6, ?_⟩
        rw [hCs]
        exact d7
    · refine ⟨S, C ++ s, M6, rfl, rfl, hn6, hy.1, by omega, him6, by omega, hs6, ?_⟩
      rw [hCs]
      exact d6
  · obtain ⟨rfl, hoff⟩ := g.no he
    rw [if_neg (by decide)] at d6
    rw [pEq_0, decide_eq_false (by decide), pCond_false, pNe_0, decide_eq_true (show (14 : Int) ≠ 0 by decide), pCond_true, pNe_0, decide_eq_false (by simp)]
    refine pOr_false ?_
    refine len_spec19 d6 ?_
    refine pLenS_to ?_
    rw [pNe_0, decide_eq_false (by simp)]
    intro _
    rw [pCond_false]
    exact ⟨S, M6, C.length, rfl, by rw [g.n_]; exact hn, by omega, hs6, d6⟩
end Go.Proofs.Ytggianmcjncijaa
