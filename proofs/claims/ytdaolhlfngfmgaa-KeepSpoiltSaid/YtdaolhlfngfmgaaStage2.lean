/- Contracts of package stage: New, Read, Sum, Starts. -/
import Derived.Test.YtdaolhlfngfmgaaStage
import Derived.Test.YtdaolhlfngfmgaaCrc
namespace Go.Proofs.Ytdaolhlfngfmgaa
-- only what is there
open Go Go.Vc Go.Proofs
set_option linter.unusedVariables false
set_option linter.unusedSimpArgs false
variable {H H0 : Heap} {R : Value → Heap → Prop} {v : Value} {L : List It} {b fb at_ n size : Nat} {M : Dk}
theorem newF_bad {at_ n size : Int} {p : Value} (hp : p = .pointer none ∨ (∃ b, p = ptr b) ∧ n < 1) (h : R (.tuple #[.pointer none, .int .i64 1]) H) : CallsH Try.prog 24 #[p, .int .i64 at_, .int .i64 n, .int .i64 size] H R := by
  refine stage_New.vc _ _ _ _ _ _ ?_
  unfold stage_New.res
  rcases hp with rfl | ⟨⟨b, rfl⟩, hn⟩
  · rw [pEq_3n, pOr_true]
    intro _
    rw [pCond_true]
    exact h
  · rw [pEq_3s]
    refine pOr_false ?_
    rw [pLt_v, decide_eq_true hn]
    intro _
    rw [pCond_true]
    exact h
theorem newF_spec {at_ n size : Int} (w : -9223372036854775808 ≤ n ∧ n ≤ 9223372036854775807) (d : Dsk H0 H b M L) (hn : 1 ≤ n) (hno : ¬ (0 ≤ at_ ∧ at_ ≤ M.n ∧ n ≤ M.n - at_ ∧ 0 ≤ size ∧ size ≤ n * 64) → R (.tuple #[.pointer none, .int .i64 20]) H)
    (hyes : 0 ≤ at_ → at_ ≤ M.n → n ≤ M.n - at_ → 0 ≤ size → size ≤ n * 64 → ∀ H' fb, Dsk H0 H' b M (fileIt fb b at_.toNat n.toNat size.toNat :: L) → R (.tuple #[ptr fb, .int .i64 0]) H') : CallsH Try.prog 24 #[ptr b, .int .i64 at_, .int .i64 n, .int .i64 size] H R := by
  have hmax := d.nmax
  refine stage_New.vc _ _ _ _ _ _ ?_
  unfold stage_New.res
  rw [pEq_3s]
  refine pOr_false ?_
  rw [pLt_v, decide_eq_false (by omega)]
  intro _
  rw [pCond_false, pLt_v]
  have hfin : ∀ {c : Bool} {A : Prop}, c = true → ¬ (0 ≤ at_ ∧ at_ ≤ M.n ∧ n ≤ M.n - at_ ∧ 0 ≤ size ∧ size ≤ n * 64) → pCond (.bool c) (R (.tuple #[.pointer none, .int .i64 20]) H) A := fun hc hg => by
    rw [hc, pCond_true]; exact hno hg
  by_cases h1 : at_ < 0
  · rw [decide_eq_true h1, pOr_true]
    intro _
    rw [pOr_true]
    intro _
    rw [pOr_true]
    intro _
    rw [pOr_true]
    intro _
    exact hfin rfl (by omega)
  rw [decide_eq_false h1]
  refine pOr_false ?_
  refine sectors_spec d ?_
  rw [pGt_v]
  intro _
  by_cases h2 : (M.n : Int) < at_
  · rw [decide_eq_true h2, pOr_true]
    intro _
    rw [pOr_true]
    intro _
    rw [pOr_true]
    intro _
    exact hfin rfl (by omega)
  rw [decide_eq_false h2]
  refine pOr_false ?_
  refine sectors_spec d ?_
  rw [pSub_v, w64 (n := (M.n : Int) - at_) (by omega) (by omega), pGt_v]
  intro _
  by_cases h3 : (M.n : Int) - at_ < n
  · rw [decide_eq_true h3, pOr_true]
    intro _
    rw [pOr_true]
    intro _
    exact hfin rfl (by omega)
  rw [decide_eq_false h3]
  refine pOr_false ?_
  rw [pLt_v]
  intro _
  by_cases h4 : size < 0
  · rw [decide_eq_true h4, pOr_true]
    intro _
    exact hfin rfl (by omega)
  rw [decide_eq_false h4]
  refine pOr_false ?_
  rw [pMul_v, w64 (n := n * 64) (by omega) (by omega), pGt_v]
  intro _
  by_cases h5 : n * 64 < size
  · exact hfin (decide_eq_true h5) (by omega)
  rw [decide_eq_false h5, pCond_false]
  obtain ⟨lv, r, ov, lf, o, ok⟩ := d
  refine pBuild_one rfl (by decide) ?_
  refine pBuild_one rfl (by simp) ?_
  refine pBuild_one rfl (by simp) ?_
  refine pBuild_one rfl (by simp) ?_
  rw [pBuild_n]
  refine o.box fun fb H1 o _ => ?_
  obtain ⟨a', rfl⟩ : ∃ a' : Nat, at_ = a' := ⟨at_.toNat, by omega⟩
  obtain ⟨n', rfl⟩ : ∃ n' : Nat, n = n' := ⟨n.toNat, by omega⟩
  obtain ⟨s', rfl⟩ : ∃ s' : Nat, size = s' := ⟨size.toNat, by omega⟩
  change Owns H0 H1 (fileIt fb b a' n' s' :: _) at o
  refine hyes (by omega) (by omega) (by omega) (by omega) (by omega) H1 fb ⟨lv, r, ov, lf, ?_, ok⟩
  exact o.arrT (by repeat (first | exact SelsT.refl | exact Sel.here | apply SelsT.cons | apply Sel.there))
/-- a part of the bytes lies in one sector -/
theorem img_part {at_ n p k : Nat} (h : ∀ j, j < n → (M.sec (at_ + j)).length = 64) (hk : p % 64 + k ≤ 64) (hp : p + k ≤ 64 * n) : ((img M at_ n).drop p).take k = ((M.sec (at_ + p / 64)).drop (p % 64)).take k := by
  have hl := img_len h
  apply List.ext_getElem?
  intro i
  rw [List.getElem?_take, List.getElem?_take]
  by_cases hi : i < k
  · rw [if_pos hi, if_pos hi, List.getElem?_drop, List.getElem?_drop, img_get h (by omega), show (p + i) / 64 = p / 64 by omega, show (p + i) % 64 = p % 64 + i by omega]
  · rw [if_neg hi, if_neg hi]
theorem readF_nil {a c : Int} (h : R (.tuple #[str [], .int .i64 1]) H) : CallsH Try.prog 25 #[.pointer none, .int .i64 a, .int .i64 c] H R := by
  refine stage_File_Read.vc _ _ _ _ _ ?_
  unfold stage_File_Read.res
  rw [pEq_3n, pCond_true]
  exact h
theorem readF_spec {a c : Int} (d : Dsk H0 H b M (fileIt fb b at_ n size :: L)) (hn : at_ + n ≤ M.n) (hs : size ≤ 64 * n) (ho : M.off = false)
    (hno : ¬ (0 ≤ a ∧ 0 ≤ c ∧ a ≤ (size : Int) ∧ c ≤ (size : Int) - a) → R (.tuple #[str [], .int .i64 20]) H)
    (hyes : 0 ≤ a → 0 ≤ c → a ≤ (size : Int) → c ≤ (size : Int) - a → ∀ H', Ext H H' → R (.tuple #[str (((img M at_ n).drop a.toNat).take c.toNat), .int .i64 0]) H') : CallsH Try.prog 25 #[ptr fb, .int .i64 a, .int .i64 c] H R := by
  have hmax := d.nmax
  have hsl : ∀ j, j < n → (M.sec (at_ + j)).length = 64 := fun j hj => d.secs (by omega)
  have hil := img_len hsl
  have hsz : ∀ {H' : Heap} {K : Value → Prop}, Dsk H0 H' b M (fileIt fb b at_ n size :: L) → K (.int .i64 (size : Int)) → pNil (ptr fb) fun x27 => pFieldAddr 3 x27 fun x28 => pLoad H' x28 K := fun d hK => by
    obtain ⟨lv, r, ov, lf, o, ok⟩ := d
    rw [pNil_v, pFieldAddr_v, add_mk]
    exact o.bload (b := fb) (f := 0 + 3) (by repeat (first | exact List.mem_cons_self | apply List.mem_cons_of_mem)) rfl hK
  refine stage_File_Read.vc _ _ _ _ _ ?_
  unfold stage_File_Read.res
  rw [pEq_3s, pCond_false, pLt_v]
  have hfin : ∀ {x : Bool} {A : Prop}, x = true → ¬ (0 ≤ a ∧ 0 ≤ c ∧ a ≤ (size : Int) ∧ c ≤ (size : Int) - a) → pCond (.bool x) (R (.tuple #[str [], .int .i64 20]) H) A := fun hc hg => by
    rw [hc, pCond_true]; exact hno hg
  by_cases h1 : a < 0
  · rw [decide_eq_true h1, pOr_true]
    intro _
    rw [pOr_true]
    intro _
    rw [pOr_true]
    intro _
    exact hfin rfl (by omega)
  rw [decide_eq_false h1]
  refine pOr_false ?_
  rw [pLt_v]
  intro _
  by_cases h2 : c < 0
  · rw [decide_eq_true h2, pOr_true]
    intro _
    rw [pOr_true]
    intro _
    exact hfin rfl (by omega)
  rw [decide_eq_false h2]
  refine pOr_false ?_
  refine hsz d ?_
  rw [pGt_v]
  intro _
  by_cases h3 : (size : Int) < a
  · rw [decide_eq_true h3, pOr_true]
    intro _
    exact hfin rfl (by omega)
  rw [decide_eq_false h3]
  refine pOr_false ?_
  refine hsz d ?_
  rw [pSub_v, w64 (n := (size : Int) - a) (by omega) (by omega), pGt_v]
  intro _
  by_cases h4 : (size : Int) - a < c
  · exact hfin (decide_eq_true h4) (by omega)
  rw [decide_eq_false h4, pCond_false]
  have hk := hyes (by omega) (by omega) (by omega) (by omega)
  obtain ⟨x, rfl⟩ : ∃ x : Nat, a = x := ⟨a.toNat, by omega⟩
  obtain ⟨y, rfl⟩ : ∃ y : Nat, c = y := ⟨c.toNat, by omega⟩
  rw [Int.toNat_natCast, Int.toNat_natCast] at hk
  have hbox : ∀ {e : TypeId} {v : Value} {K : Value → Heap → Prop}, K (ptr H.size) (H.push (.cells v.cells e)) → pBox H e v K := fun h => h
  refine hbox ?_
  rw [pAdd_v, w64 (n := (x : Int) + (y : Int)) (by omega) (by omega)]
  have hpush : Ext H (H.push (.cells #[.pointer none, .slice none 0 0] 85)) := (Ext.refl H).push
  refine ⟨fun p H' => ∃ q : Nat, p = .int .i64 ((x + q : Nat) : Int) ∧ q ≤ y ∧ BldH H.size H.size (((img M at_ n).drop x).take q) H' ∧ Ext H H', fun p _ => match p with | .int _ z => (x + y) - z.toNat | _ => 0, ⟨0, rfl, by omega, bld_new get_push_self, hpush⟩, ?_⟩
  rintro _ _ H1 ⟨q, rfl, hq, hb, hx⟩
  have d := d.more' hx
  rw [pLt_v]
  refine pCond_if (fun hc => ?_) (fun hc => ?_)
  · obtain ⟨p, hp⟩ : ∃ p, p = x + q := ⟨_, rfl⟩
    rw [← hp]
    have hqn : p / 64 < n := by omega
    have d0 := d
    obtain ⟨lv, r, ov, lf, o, ok⟩ := d
    rw [pNil_v, pFieldAddr_v, add_mk]
    refine o.bload (b := fb) (f := 0 + 0) (by repeat (first | exact List.mem_cons_self | apply List.mem_cons_of_mem)) rfl ?_
    rw [pNil_v, pFieldAddr_v, add_mk]
    refine o.bload (b := fb) (f := 0 + 1) (by repeat (first | exact List.mem_cons_self | apply List.mem_cons_of_mem)) rfl ?_
    rw [pQuo_v]
    refine ⟨by decide, ?_⟩
    rw [show ((p : Nat) : Int).tdiv 64 = ((p / 64 : Nat) : Int) from rfl, w64 (n := ((p / 64 : Nat) : Int)) (by omega) (by omega), pAdd_v, show (at_ : Int) + ((p / 64 : Nat) : Int) = ((at_ + p / 64 : Nat) : Int) by omega, w64 (by omega) (by omega)]
    refine read_spec d0 ?_
    rw [read_ok' (by omega) ho]
    refine pExtract_to rfl ?_
    refine pExtract_to rfl ?_
    rw [pNe_0, decide_eq_false (by simp), pCond_false, pRem_v]
    refine ⟨by decide, ?_⟩
    obtain ⟨k, hkd⟩ : ∃ k, k = min (64 - p % 64) (x + y - p) := ⟨_, rfl⟩
    have hsq := hsl _ hqn
    rw [show ((p : Nat) : Int).tmod 64 = ((p % 64 : Nat) : Int) from rfl, pSub_v, w64 (n := 64 - ((p % 64 : Nat) : Int)) (by omega) (by omega), pSub_v, w64 (n := (x : Int) + (y : Int) - (p : Int)) (by omega) (by omega), pMin_v, show min (64 - ((p % 64 : Nat) : Int)) ((x : Int) + (y : Int) - (p : Int)) = (k : Int) by omega, pAdd_v, show ((p % 64 : Nat) : Int) + (k : Int) = ((p % 64 + k : Nat) : Int) by omega, w64 (by omega) (by omega)]
    refine pSlStr_to (l := M.sec (at_ + p / 64)) (lo := p % 64) (hi := p % 64 + k) (.inl rfl) (.inl rfl) (by omega) (by omega) ?_
    rw [show p % 64 + k - p % 64 = k by omega, ← img_part hsl (by omega) (by omega)]
    refine bWrite_spec hb hx (by simp only [List.length_take, List.length_drop]; omega) fun H2 hb2 hx2 => ?_
    rw [pAdd_v, show (p : Int) + (k : Int) = ((x + (q + k) : Nat) : Int) by omega, w64 (by omega) (by omega)]
    refine ⟨⟨q + k, rfl, by omega, ?_, hx2⟩, by show (x + y) - (((x + (q + k) : Nat) : Int)).toNat < (x + y) - ((p : Nat) : Int).toNat; omega⟩
    have e : ((img M at_ n).drop x).take (q + k) = ((img M at_ n).drop x).take q ++ ((img M at_ n).drop p).take k := by
      rw [List.take_add, List.drop_drop, hp]
    rw [e]
    exact hb2
  · have : q = y := by omega
    subst this
    exact bString_spec hb hx fun H2 hx2 => hk H2 hx2
end Go.Proofs.Ytdaolhlfngfmgaa
