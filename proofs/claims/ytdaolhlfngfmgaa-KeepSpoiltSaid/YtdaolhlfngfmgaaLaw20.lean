/- The laws of package keep over heaps: the first test, KeepRefuses, KeepAgain and KeepSpoilt. -/
import Derived.Test.YtdaolhlfngfmgaaKeep2
import Derived.Test.YtdaolhlfngfmgaaResLighterlaw20
import Derived.Test.YtdaolhlfngfmgaaVcRow
import Derived.Test.YtdaolhlfngfmgaaInts
namespace Go.Proofs.Ytdaolhlfngfmgaa
open Go Go.Vc Go.Proofs
set_option linter.unusedVariables false
set_option linter.unusedSimpArgs false
variable {H H0 : Heap} {R : Value → Heap → Prop} {v : Value} {L L' : List It} {b kb lb fb tb N m z : Nat} {M : Dk} {want C : List UInt8} {s s' : St}
theorem fld20 {o : Nat} {l : List Value} {w : Value} {K : Value → Prop} (h : l[o]? = some w) (hk : K w) : pField1 o (.agg l.toArray) K := by rw [pField1_v, h]; exact hk
theorem eqSt (s : St) : eqCells [0, 0, 0, 0, 2] (stL s) (stL s) = some true := by simp [eqCells, eqK]
theorem eqA20 {K : Value → Prop} (h : K (.bool true)) : pEqA [0, 0, 0, 0, 2] (.agg (stL s).toArray) (.agg (stL s).toArray) K := by
  simp only [pEqA, eqSt]; exact h
theorem neA20 {K : Value → Prop} (h : K (.bool false)) : pNeA [0, 0, 0, 0, 2] (.agg (stL s).toArray) (.agg (stL s).toArray) K := by
  simp only [pNeA, eqSt]; exact h
theorem openN_spec (h : R (.tuple #[.pointer none, .int .i64 1]) H) : CallsH Try.prog 8 #[.pointer none] H R := by
  refine keep_Open.vc _ _ _ ?_
  unfold keep_Open.res
  rw [pEq_3n, pCond_true]
  exact h
theorem open_small (d : Dsk H0 H b M L) (hn : M.n < 9) (h : R (.tuple #[.pointer none, .int .i64 20]) H) : CallsH Try.prog 8 #[ptr b] H R := by
  refine keep_Open.vc _ _ _ ?_
  unfold keep_Open.res
  rw [pEq_3s, pCond_false]
  refine sectors_spec d ?_
  rw [pLt_v, decide_eq_true (by omega), pCond_true]
  exact h
theorem readyN_spec {c : Bool} (h : R (.int .i64 1) H) : CallsH Try.prog 27 #[.pointer none, .bool c] H R := by
  refine keep_Keep_ready.vc _ _ _ _ ?_
  unfold keep_Keep_ready.res
  rw [pEq_3n, pCond_true]
  exact h
theorem changeN_spec {c : Bool} {f : Value} (h : R (.int .i64 1) H) : CallsH Try.prog 37 #[.pointer none, .bool c, f] H R := by
  refine keep_Keep_change.vc _ _ _ _ _ ?_
  unfold keep_Keep_change.res
  refine readyN_spec ?_
  rw [pNe_0, decide_eq_true (show (1 : Int) ≠ 0 by decide), pCond_true]
  exact h
theorem startN_spec (h : R (.int .i64 1) H) : CallsH Try.prog 12 #[.pointer none] H R := by
  refine keep_Keep_Start.vc _ _ _ ?_
  unfold keep_Keep_Start.res
  exact changeN_spec h
theorem commitN_spec (h : R (.int .i64 1) H) : CallsH Try.prog 16 #[.pointer none] H R := by
  refine keep_Keep_Commit.vc _ _ _ ?_
  unfold keep_Keep_Commit.res
  exact changeN_spec h
theorem beginN_spec {w : Value} (h : ∀ H', Ext H H' → R (.int .i64 1) H') : CallsH Try.prog 14 #[.pointer none, w] H R := by
  refine keep_Keep_Begin.vc _ _ _ _ ?_
  unfold keep_Keep_Begin.res
  refine (Owns.start (H := H)).box fun ab H1 o _ => ?_
  refine changeN_spec ?_
  rw [pNe_0, decide_eq_true (show (1 : Int) ≠ 0 by decide), pCond_true]
  exact h H1 o.ext
theorem appendN_spec {w : Value} (h : R (.int .i64 1) H) : CallsH Try.prog 9 #[.pointer none, w] H R := by
  refine keep_Keep_Append.vc _ _ _ _ ?_
  unfold keep_Keep_Append.res
  refine readyN_spec ?_
  rw [pNe_0, decide_eq_true (show (1 : Int) ≠ 0 by decide), pCond_true]
  exact h
theorem roomN_spec (h : R (.int .i64 0) H) : CallsH Try.prog 17 #[.pointer none] H R := by
  refine keep_Keep_Room.vc _ _ _ ?_
  unfold keep_Keep_Room.res
  rw [pEq_3n, pOr_true]
  intro _
  rw [pCond_true]
  exact h
theorem stateN_spec (h : ∀ H', Ext H H' → R (.agg (stL St.zero).toArray) H') : CallsH Try.prog 13 #[.pointer none] H R := by
  refine keep_Keep_State.vc _ _ _ ?_
  unfold keep_Keep_State.res
  refine (Owns.start (H := H)).box fun rb H1 o1 _ => ?_
  rw [pEq_3n, pCond_true, pBuild_n]
  refine o1.bstoreN (b := rb) (vs := stL St.zero) (by repeat (first | exact List.mem_cons_self | apply List.mem_cons_of_mem)) rfl rfl rfl (by repeat (first | exact Rep.here | apply Rep.there)) fun H2 o1 _ => ?_
  refine o1.bloadN (b := rb) (by repeat (first | exact List.mem_cons_self | apply List.mem_cons_of_mem)) rfl ?_
  exact h H2 o1.ext
theorem readN_spec {a c : Value} (h : R (.tuple #[str [], .int .i64 1]) H) : CallsH Try.prog 15 #[.pointer none, a, c] H R := by
  refine keep_Keep_Read.vc _ _ _ _ _ ?_
  unfold keep_Keep_Read.res
  rw [pEq_3n, pCond_true]
  exact h
theorem speaks20_spec (h : ∀ H', Ext H H' → R (.bool true) H') : CallsH Try.prog 6 #[] H R := by
  refine lighterlaw20_speaks.vc _ _ ?_
  unfold lighterlaw20_speaks.res
  refine new_spec (n := 12) (Owns.start (H := H)) (by decide) (by decide) fun H1 b d => ?_
  refine pExtract_to rfl ?_
  refine pExtract_to rfl ?_
  refine (DS.new (m := 4) d (by decide)).open fun H2 kb lb fb tb i0 k => ?_
  refine pExtract_to rfl ?_
  refine pExtract_to rfl ?_
  rw [pNe_0, decide_eq_false (by simp)]
  refine pOr_false ?_
  refine begin20_spec (n := 7) k (by decide) (by decide) fun H3 M3 L3 k => ?_
  rw [pNe_0, decide_eq_false (by simp)]
  intro _
  refine pOr_false ?_
  refine append20_spec (t := [97, 98, 99]) k (by decide) (by decide) (by decide) fun H4 M4 L4 k => ?_
  rw [pNe_0, decide_eq_false (by simp)]
  intro _
  rw [pCond_false]
  refine read20_spec (n := 3) k rfl fun H5 hx => ?_
  have k := k.more hx
  refine pExtract_to rfl ?_
  refine pExtract_to rfl ?_
  rw [pEq_0, decide_eq_true (by decide)]
  refine pAnd_true ?_
  refine pEq1_to ?_
  rw [decide_eq_true (by rfl)]
  intro _
  refine pAnd_true ?_
  refine state20_spec k fun H6 hx => ?_
  have k := k.more hx
  refine fld20 rfl ?_
  rw [pEq_0, decide_eq_true (by rfl)]
  intro _
  refine pAnd_true ?_
  refine state20_spec k fun H7 hx => ?_
  have k := k.more hx
  refine fld20 rfl ?_
  rw [pEq_0, decide_eq_true (by rfl)]
  intro _
  refine pAnd_true ?_
  refine state20_spec k fun H8 hx => ?_
  have k := k.more hx
  refine fld20 rfl ?_
  rw [pNot_v]
  intro _
  refine pAnd_true ?_
  refine room20_spec k ?_
  rw [pEq_0, decide_eq_true (by rfl)]
  intro _
  exact h H8 k.k.w.d.ext
theorem KeepRefuses_law (sec : Int) (w0 : (Lit.int .i64 sec).wf = true) : CallsH Try.prog 5 #[.int .i64 sec] H (LawOk H) := by
  refine lighterlaw20_KeepRefuses.vc _ _ _ ?_
  unfold lighterlaw20_KeepRefuses.res
  refine speaks20_spec fun H1 hx1 => ?_
  rw [pNot_v, Bool.not_true, pCond_false]
  rw [pBits_v, and_low (k := 4) (m := 15) (n := sec) (by decide) rfl]
  obtain ⟨n, hn⟩ : ∃ n : Nat, 1 + sec % 2 ^ 4 = (n : Int) := ⟨(1 + sec % 2 ^ 4).toNat, by omega⟩
  have hn16 : 1 ≤ n ∧ n ≤ 16 := by omega
  rw [pAdd_v, hn, w64 (n := (n : Int)) (by omega) (by omega)]
  refine new_spec (n := n) (Owns.start (H := H1)) (by omega) (by omega) fun H2 b d => ?_
  refine pExtract_to rfl ?_
  refine pExtract_to rfl ?_
  have hopen : ∀ {K : Value → Heap → Prop}, (∀ H' p e, (e = 0 ↔ 9 ≤ n) → (e = 0 ∨ e = 20) → (∀ K : Value → Prop, K (.bool (decide (9 ≤ n))) → pNe 3 p (.pointer none) K) → Ext H1 H' → K (.tuple #[p, .int .i64 e]) H') → CallsH Try.prog 8 #[ptr b] H2 K := fun {K} hK => by
    by_cases h9 : 9 ≤ n
    · obtain ⟨m, rfl⟩ : ∃ m, n = 8 + m := ⟨n - 8, by omega⟩
      refine (DS.new (m := m) d (by omega)).open fun H3 kb lb fb tb i0 k => ?_
      refine hK H3 _ 0 ⟨fun _ => h9, fun _ => rfl⟩ (.inl rfl) (fun K hK => ?_) k.k.w.d.ext
      rw [pNe_3s]
      rw [decide_eq_true h9] at hK
      exact hK
    · refine open_small d (by show n < 9; omega) ?_
      refine hK H2 _ 20 ⟨fun g => by omega, fun g => absurd g h9⟩ (.inr rfl) (fun K hK => ?_) d.ext
      rw [pNe_3n]
      rw [decide_eq_false h9] at hK
      exact hK
  refine hopen fun H3 p e he he2 hp hx => ?_
  refine pExtract_to rfl ?_
  refine pExtract_to rfl ?_
  refine openN_spec ?_
  refine pExtract_to rfl ?_
  refine pExtract_to rfl ?_
  refine readN_spec ?_
  refine pExtract_to rfl ?_
  refine pExtract_to rfl ?_
  rw [pEq_0, pGe_v, pEq_2]
  rw [show (decide (decide (e = 0) = decide ((9 : Int) ≤ (n : Int)))) = true from by
    rw [decide_eq_true_eq, decide_eq_decide, he]; omega]
  refine pAnd_true ?_
  refine hp _ ?_
  rw [pGe_v, pEq_2]
  rw [show (decide (decide (9 ≤ n) = decide ((9 : Int) ≤ (n : Int)))) = true from by
    rw [decide_eq_true_eq, decide_eq_decide]; omega]
  intro _
  refine pAnd_true ?_
  rw [pEq_0]
  refine pOr_if (d := decide (e = 20)) (fun _ => by rw [pEq_0]; exact ⟨rfl, rfl⟩) ?_
  intro _
  rw [show (decide (e = 0) || decide (e = 20)) = true from by
    rw [Bool.or_eq_true, decide_eq_true_eq, decide_eq_true_eq]; exact he2]
  intro _
  refine pAnd_true ?_
  rw [pEq_0, decide_eq_true (show (1 : Int) = 1 from rfl)]
  intro _
  refine pAnd_true ?_
  rw [pEq_0, decide_eq_true (show (1 : Int) = 1 from rfl)]
  intro _
  refine pAnd_true ?_
  refine startN_spec ?_
  rw [pEq_0, decide_eq_true (show (1 : Int) = 1 from rfl)]
  intro _
  refine pAnd_true ?_
  refine beginN_spec fun H4 hx4 => ?_
  rw [pEq_0, decide_eq_true (show (1 : Int) = 1 from rfl)]
  intro _
  refine pAnd_true ?_
  refine appendN_spec ?_
  rw [pEq_0, decide_eq_true (show (1 : Int) = 1 from rfl)]
  intro _
  refine pAnd_true ?_
  refine commitN_spec ?_
  rw [pEq_0, decide_eq_true (show (1 : Int) = 1 from rfl)]
  intro _
  refine pAnd_true ?_
  refine roomN_spec ?_
  rw [pEq_0, decide_eq_true (show (0 : Int) = 0 from rfl)]
  intro _
  refine pAnd_true ?_
  refine stateN_spec fun H5 hx5 => ?_
  rw [pBuild_n]
  refine eqA20 (s := St.zero) ?_
  intro _
  exact ⟨rfl, hx1.trans (hx.trans (hx4.trans hx5))⟩
theorem nats32 {a : Option Addr} {len cap : Nat} {zs : List Int} (h : IntRow .u32 H a len cap zs) : ∃ l : List Nat, l.length = len ∧ len ≤ maxLen ∧ (∀ z ∈ l, z < 4294967296) ∧ Sl H (.slice a len cap) 1 (l.map n32) := by
  have hw : ∀ z : Int, (Lit.int .u32 z).wf = true → 0 ≤ z ∧ z < 4294967296 := fun z h => by
    simp [Lit.wf, IntKind.min, IntKind.max, IntKind.signed, IntKind.bits] at h
    omega
  rcases h with ⟨rfl, rfl, rfl, rfl⟩ | ⟨x, rfl, hl, hm, hz, hc, hwf⟩
  · exact ⟨[], rfl, Nat.zero_le _, by simp, .inl ⟨rfl, rfl⟩⟩
  · refine ⟨(zs.take len).map Int.toNat, by rw [List.length_map, List.length_take]; omega, by omega, fun z hz => ?_, .inr ⟨x, len, cap, rfl, by rw [List.length_map, List.length_map, List.length_take]; omega, hl, fun i v hv => ?_⟩⟩
    · obtain ⟨y, hy, rfl⟩ := List.mem_map.1 hz
      have := hw y (hwf y (List.mem_of_mem_take hy))
      omega
    · rw [List.map_map, List.getElem?_map] at hv
      obtain ⟨y, hy, rfl⟩ := Option.map_eq_some_iff.1 hv
      have hi := (List.getElem?_eq_some_iff.1 hy).1
      rw [List.length_take] at hi
      have hym := hw y (hwf y (List.mem_of_mem_take (List.mem_of_getElem? hy)))
      rw [hc i (by omega), List.getD_eq_getElem?_getD]
      rw [List.getElem?_take, if_pos (by omega)] at hy
      rw [hy]
      show some (Value.int .u32 y) = some (Value.int .u32 ((y.toNat : Nat) : Int))
      rw [Int.toNat_of_nonneg hym.1]
set_option maxHeartbeats 1000000 in
theorem KeepAgain_law (a0 : Option Addr) (len0 cap0 : Nat) (zs : List Int) (st : Int) (t : List UInt8) (w0 : IntRow .u32 H a0 len0 cap0 zs) (w1 : (Lit.int .i64 st).wf = true) (w2 : (ByteArray.mk t.toArray).size ≤ maxLen) :
    CallsH Try.prog 4 #[.slice a0 len0 cap0, .int .i64 st, str t] H (LawOk H) := by
  obtain ⟨T, hTl, hTm, hTs, hT⟩ := nats32 w0
  have hmax : maxLen = 9223372036854775807 := rfl
  rw [bys_size] at w2
  have hvl : (T.map n32).length = T.length * 1 := by rw [List.length_map, Nat.mul_one]
  refine lighterlaw20_KeepAgain.vc _ _ _ _ _ ?_
  unfold lighterlaw20_KeepAgain.res
  refine speaks20_spec fun H1 hx1 => ?_
  rw [pNot_v, Bool.not_true, pCond_false]
  have hT := hT.ext hx1
  refine pLenS_to ?_
  rw [pMin_v, show min ((t.length : Nat) : Int) 60 = ((min t.length 60 : Nat) : Int) by omega]
  refine pSlStr_to (lo := 0) (hi := min t.length 60) (.inr ⟨rfl, rfl⟩) (.inl rfl) (by omega) (by omega) ?_
  rw [List.drop_zero, Nat.sub_zero]
  have htl : (t.take (min t.length 60)).length ≤ 60 := by rw [List.length_take]; omega
  generalize t.take (min t.length 60) = t at *
  refine new_spec (n := 12) (Owns.start (H := H1)) (by decide) (by decide) fun H2 b d => ?_
  refine pExtract_to rfl ?_
  refine pExtract_to rfl ?_
  rw [pBits_v, and_low (k := 3) (m := 7) (n := st) (by decide) rfl]
  obtain ⟨a, ha⟩ : ∃ a : Nat, st % 2 ^ 3 = (a : Int) := ⟨(st % 2 ^ 3).toNat, by omega⟩
  have ha8 : a < 8 := by omega
  rw [ha]
  refine ⟨fun i H' => ∃ (j : Nat) (M : Dk) (want : List UInt8) (s : St) (L : List It), i = .int .i64 ((j + 1 : Nat) : Int) ∧ j ≤ a ∧ s.ep = j ∧ DS H1 H' b j 4 M want [] s L, fun i _ => match i with | .int _ x => 100 - x.toNat | _ => 0, ⟨0, Dk.new 12, [], St.zero, [], rfl, by omega, rfl, DS.new (m := 4) d (by decide)⟩, ?_⟩
  clear d
  rintro _ _ H3 ⟨j, M, want, s, L, rfl, hj, hep, d⟩
  rw [pLe_v]
  refine pCond_if (fun hc => ?_) (fun hc => ?_)
  · have hja : j < a := by omega
    refine d.open fun H4 kb lb fb tb i0 k => ?_
    refine pExtract_to rfl ?_
    refine pExtract_to rfl ?_
    rw [pNe_0, decide_eq_false (by simp)]
    refine pOr_false ?_
    refine start20_spec k (by omega) (by omega) fun H5 M5 L5 k => ?_
    rw [pNe_0, decide_eq_false (by simp)]
    intro _
    refine pOr_false ?_
    refine state20_spec k fun H6 hx => ?_
    have k := k.more hx
    refine fld20 rfl ?_
    rw [pConv_v, wu32 (by omega) (by omega), pNe_0]
    show ∀ _ : Env, pCond (.bool (decide (((s.ep + 1 : Nat) : Int) ≠ ((j + 1 : Nat) : Int)))) _ _
    rw [hep, decide_eq_false (by simp)]
    intro _
    rw [pCond_false, pAdd_v, w64 (n := ((j + 1 : Nat) : Int) + 1) (by omega) (by omega)]
    exact ⟨⟨j + 1, M5, _, _, _, by congr 1, by omega, by show s.ep + 1 = j + 1; omega, k.ds (by decide)⟩, by show 100 - (((j + 1 : Nat) : Int) + 1).toNat < 100 - ((j + 1 : Nat) : Int).toNat; omega⟩
  · have hja : j = a := by omega
    subst hja
    refine d.open fun H4 kb lb fb tb i0 k => ?_
    refine pExtract_to rfl ?_
    refine pExtract_to rfl ?_
    refine ⟨fun i H' => ∃ (q N : Nat) (M : Dk) (want C : List UInt8) (s : St) (L : List It), i = .int .i64 q ∧ q ≤ 8 ∧ N = j + 2 * q ∧ s.ep = j ∧ KS H1 H' b kb lb fb tb N 4 M want C s L, fun i _ => match i with | .int _ x => 100 - x.toNat | _ => 0, ⟨0, j, M, want, [], s, _, rfl, by omega, by omega, hep, k⟩, ?_⟩
    clear k d hep
    rintro _ _ H5 ⟨q, N, M, want, C, s, L, rfl, hq, hN, hep, k⟩
    have hTx := hT.ext k.k.w.d.ext
    refine hTx.len hvl (by decide) ?_
    rw [pLt_v]
    refine pAnd_if (d := decide ((q : Int) < 8)) (fun _ => by rw [pLt_v]; exact ⟨rfl, rfl⟩) ?_
    intro _
    refine pCond_b (fun hc => ?_) (fun _ => ?_)
    · rw [Bool.and_eq_true, decide_eq_true_eq, decide_eq_true_eq] at hc
      have hqT : q < T.length := by omega
      have hTq := hTs _ (List.getElem_mem hqT)
      refine hTx.at_ hvl (by decide) (by omega) (by omega) fun p hp => ?_
      refine hp.load hTx (w := n32 T[q]) (by rw [Int.toNat_natCast, Nat.mul_one, List.getElem?_map, List.getElem?_eq_getElem hqT]; rfl) ?_
      refine begin20_spec (n := T[q]) k (by omega) hTq fun H6 M6 L6 k => ?_
      rw [pNe_0, decide_eq_false (by simp)]
      refine pOr_false ?_
      have hTx := hT.ext k.k.w.d.ext
      refine hTx.at_ hvl (by decide) (by omega) (by omega) fun p hp => ?_
      refine hp.load hTx (w := n32 T[q]) (by rw [Int.toNat_natCast, Nat.mul_one, List.getElem?_map, List.getElem?_eq_getElem hqT]; rfl) ?_
      rw [pConv_v, wu32 (by omega) (by omega)]
      refine pBuild_one rfl (by decide) ?_
      refine pBuild_one rfl (by simp) ?_
      rw [pBuild_n]
      refine state20_spec k fun H7 hx => ?_
      have k := k.more hx
      have hTx := hT.ext k.k.w.d.ext
      refine ⟨hp.load hTx (w := n32 T[q]) (by rw [Int.toNat_natCast, Nat.mul_one, List.getElem?_map, List.getElem?_eq_getElem hqT]; rfl) rfl, ?_⟩
      rw [hep] at k ⊢
      refine neA20 (s := ⟨T[q], j, 0, 0, false⟩) ?_
      intro _
      refine pOr_false ?_
      refine append20_spec (t := t) k (by omega) (by show 0 + t.length ≤ _; omega) (by show 0 + t.length ≤ _; omega) fun H8 M8 L8 k => ?_
      rw [pNe_0, decide_eq_false (by simp)]
      intro _
      refine pOr_false ?_
      refine pLenS_to ?_
      refine state20_spec k fun H9 hx => ?_
      have k := k.more hx
      refine fld20 rfl ?_
      rw [pNe_0, decide_eq_false (by simp)]
      intro _
      rw [pCond_false, pAdd_v, w64 (n := (q : Int) + 1) (by omega) (by omega)]
      exact ⟨⟨q + 1, _, _, _, _, _, _, rfl, by omega, by omega, rfl, k⟩, by show 100 - ((q : Int) + 1).toNat < 100 - (q : Int).toNat; omega⟩
    · refine (k.ds (by decide)).open fun H6 kb2 lb2 fb2 tb2 i0 k2 => ?_
      obtain ⟨L', k'⟩ := k.back k2
      refine pExtract_to rfl ?_
      refine pExtract_to rfl ?_
      rw [pEq_0, decide_eq_true (show (0 : Int) = 0 from rfl)]
      refine pAnd_true ?_
      refine state20_spec k2 fun H7 hx => ?_
      have k' := k'.more hx
      refine state20_spec k' fun H8 hx => ?_
      have k' := k'.more hx
      refine eqA20 ?_
      intro _
      exact ⟨rfl, hx1.trans k'.k.w.d.ext⟩
theorem img_put1 {at_ n q p : Nat} {x : UInt8} (h : ∀ j, j < n → (M.sec (at_ + j)).length = 64) (hq : q < n) (hp : p < 64) : img (M.put (at_ + q) ((M.sec (at_ + q)).set p x)) at_ n = (img M at_ n).set (64 * q + p) x := by
  have h' : ∀ j, j < n → ((M.put (at_ + q) ((M.sec (at_ + q)).set p x)).sec (at_ + j)).length = 64 := fun j hj => by
    rw [sec_put]
    split
    · rw [List.length_set]; exact h q hq
    · exact h j hj
  have hl1 := img_len h
  have hl2 := img_len h'
  apply List.ext_getElem?
  intro k
  by_cases hk : k < 64 * n
  · rw [img_get h' hk, sec_put, List.getElem?_set]
    by_cases hkq : k / 64 = q
    · rw [if_pos (by omega), List.getElem?_set]
      by_cases hkp : k % 64 = p
      · rw [if_pos hkp.symm, if_pos (by rw [h q hq]; exact hp), if_pos (by omega), if_pos (by rw [hl1]; omega)]
      · rw [if_neg (by omega), if_neg (by omega), img_get h hk, hkq]
    · rw [if_neg (by omega), if_neg (by omega), img_get h hk]
  · rw [List.getElem?_eq_none (by omega), List.getElem?_eq_none (by rw [List.length_set]; omega)]
set_option maxHeartbeats 1000000 in
theorem KeepSpoilt_law (t : List UInt8) (at_ : Int) (w0 : (ByteArray.mk t.toArray).size ≤ maxLen) (w1 : (Lit.int .i64 at_).wf = true) :
    CallsH Try.prog 3 #[str t, .int .i64 at_] H (LawOk H) := by
  have hmax : maxLen = 9223372036854775807 := rfl
  rw [bys_size] at w0
  refine lighterlaw20_KeepSpoilt.vc _ _ _ _ ?_
  unfold lighterlaw20_KeepSpoilt.res
  refine speaks20_spec fun H1 hx1 => ?_
  rw [pNot_v, Bool.not_true, pCond_false]
  refine pLenS_to ?_
  rw [pMin_v, show min ((t.length : Nat) : Int) 200 = ((min t.length 200 : Nat) : Int) by omega]
  refine pSlStr_to (lo := 0) (hi := min t.length 200) (.inr ⟨rfl, rfl⟩) (.inl rfl) (by omega) (by omega) ?_
  rw [List.drop_zero, Nat.sub_zero]
  refine pAdd_str (by rw [List.length_take]; show min _ t.length + 1 ≤ _; omega) ?_
  have htl : 1 ≤ (t.take (min t.length 200) ++ [120]).length ∧ (t.take (min t.length 200) ++ [120]).length ≤ 201 := by
    rw [List.length_append, List.length_take]; show 1 ≤ min _ t.length + 1 ∧ min _ t.length + 1 ≤ _; omega
  generalize t.take (min t.length 200) ++ [120] = t at *
  refine new_spec (n := 16) (Owns.start (H := H1)) (by decide) (by decide) fun H2 b d => ?_
  refine pExtract_to rfl ?_
  refine pExtract_to rfl ?_
  refine (DS.new (m := 8) d (by decide)).open fun H3 kb lb fb tb i0 k => ?_
  refine pExtract_to rfl ?_
  refine pExtract_to rfl ?_
  refine append20_spec (t := t) k (by decide) (by show 0 + t.length ≤ _; omega) (by show 0 + t.length ≤ _; omega) fun H4 M L4 k => ?_
  rw [List.nil_append] at k
  rw [pNe_0, decide_eq_false (by simp), pCond_false]
  refine pLenS_to ?_
  rw [pRem_v]
  refine ⟨by omega, ?_⟩
  refine pLenS_to ?_
  have hpk := mod_pick (z := at_) (n := (t.length : Int)) (by omega)
  have htr := tmod_range (z := at_) (n := (t.length : Int)) (by omega)
  rw [pAdd_v, w64 (n := at_.tmod (t.length : Int) + (t.length : Int)) (by omega) (by omega)]
  refine pLenS_to ?_
  rw [pRem_v]
  refine ⟨by omega, ?_⟩
  obtain ⟨i, hi, hit⟩ : ∃ i : Nat, (at_.tmod (t.length : Int) + (t.length : Int)).tmod (t.length : Int) = (i : Int) ∧ i < t.length := ⟨((at_.tmod (t.length : Int) + (t.length : Int)).tmod (t.length : Int)).toNat, by omega, by omega⟩
  rw [hi, pQuo_v]
  refine ⟨by decide, ?_⟩
  rw [show ((i : Nat) : Int).tdiv 64 = ((i / 64 : Nat) : Int) from rfl, w64 (n := ((i / 64 : Nat) : Int)) (by omega) (by omega), pAdd_v, show (8 : Int) + ((i / 64 : Nat) : Int) = ((8 + i / 64 : Nat) : Int) by omega, w64 (n := ((8 + i / 64 : Nat) : Int)) (by omega) (by omega)]
  have hmn : M.n = 16 := k.k.hm.symm
  refine read_spec k.k.w.d ?_
  rw [read_ok' (by omega) k.k.w.ho]
  refine pExtract_to rfl ?_
  refine pExtract_to rfl ?_
  have hsl : ∀ j, j < 8 → (M.sec (8 + j)).length = 64 := fun j hj => k.k.w.d.secs (by omega)
  have hS := hsl (i / 64) (by omega)
  refine own_bytes fun y H5 hy hx hb => ?_
  obtain ⟨lv, r, ov, lf, o, ok⟩ := k.k.w.d
  have o := o.add hx (i := .sl y 1 ((M.sec (8 + i / 64)).map byteV)) ⟨by decide, hy⟩ (by intro q hq; simp only [It.foot] at hq; rw [hb] at hq; cases hq; exact Nat.le_refl _)
  have hyl : ((M.sec (8 + i / 64)).map byteV).length = 64 * 1 := by rw [List.length_map, hS]
  rw [pRem_v]
  refine ⟨by decide, ?_⟩
  rw [show ((i : Nat) : Int).tmod 64 = ((i % 64 : Nat) : Int) from rfl]
  have hpl : i % 64 < (M.sec (8 + i / 64)).length := by rw [hS]; omega
  refine (o.sl (v := y) (by repeat (first | exact List.mem_cons_self | apply List.mem_cons_of_mem))).at_ hyl (by decide) (by omega) (by omega) fun p hp => ?_
  refine hp.load (o.sl (v := y) (by repeat (first | exact List.mem_cons_self | apply List.mem_cons_of_mem))) (w := byteV (M.sec (8 + i / 64))[i % 64]) (by rw [Int.toNat_natCast, Nat.mul_one, List.getElem?_map, List.getElem?_eq_getElem hpl]; rfl) ?_
  have hu := ((M.sec (8 + i / 64))[i % 64]).toNat_lt
  rw [show byteV (M.sec (8 + i / 64))[i % 64] = .int .u8 ((((M.sec (8 + i / 64))[i % 64]).toNat : Nat) : Int) from rfl, pBits_v, show (1 : Int) = ((1 : Nat) : Int) from rfl, xor_u8 (by omega) (by decide)]
  obtain ⟨x, hx2⟩ : ∃ x : UInt8, x.toNat = ((M.sec (8 + i / 64))[i % 64]).toNat ^^^ 1 := by
    refine ⟨UInt8.ofNat (((M.sec (8 + i / 64))[i % 64]).toNat ^^^ 1), ?_⟩
    rw [UInt8.toNat_ofNat']
    exact Nat.mod_eq_of_lt (Nat.xor_lt_two_pow (n := 8) (by omega) (by decide))
  rw [← hx2]
  refine (o.sl (v := y) (by repeat (first | exact List.mem_cons_self | apply List.mem_cons_of_mem))).at_ hyl (by decide) (by omega) (by omega) fun p hp => ?_
  refine o.store hp (by repeat (first | exact List.mem_cons_self | apply List.mem_cons_of_mem)) (by rw [Int.toNat_natCast, hyl]; omega) rfl (by repeat (first | exact Rep.here | apply Rep.there)) fun H6 o _ => ?_
  have hset : (List.map byteV (M.sec (8 + i / 64))).set ((↑(i % 64) : Int).toNat * 1) (.int .u8 (x.toNat : Int)) = ((M.sec (8 + i / 64)).set (i % 64) x).map byteV := by
    rw [Int.toNat_natCast, Nat.mul_one, List.map_set]
  rw [hset] at o
  rw [pQuo_v]
  refine ⟨by decide, ?_⟩
  rw [show ((i : Nat) : Int).tdiv 64 = ((i / 64 : Nat) : Int) from rfl, w64 (n := ((i / 64 : Nat) : Int)) (by omega) (by omega), pAdd_v, show (8 : Int) + ((i / 64 : Nat) : Int) = ((8 + i / 64 : Nat) : Int) by omega, w64 (n := ((8 + i / 64 : Nat) : Int)) (by omega) (by omega)]
  refine (o.sl (v := y) (by repeat (first | exact List.mem_cons_self | apply List.mem_cons_of_mem))).str ?_
  have d : Dsk H1 H6 b M (.sl y 1 (((M.sec (8 + i / 64)).set (i % 64) x).map byteV) :: logIt lb b 0 8 (noteB ⟨St.zero.se, St.zero.ep, t.length, more32 0 t, false⟩) (0 + 1) false :: keepIt kb lb (ptr fb) tb ⟨St.zero.se, St.zero.ep, t.length, more32 0 t, false⟩ :: fileIt fb b 8 8 t.length :: tabIt tb :: L4) := ⟨lv, r, ov, lf, o.arrT (by repeat (first | exact SelsT.refl | exact Sel.here | apply SelsT.cons | apply Sel.there)), ok⟩
  refine write_spec d fun H7 d => ?_
  rw [write_on (by rw [List.length_set]; exact hS) (by omega) k.k.w.ho, if_neg (by rw [k.k.fu]; simp)] at d
  change Dsk H1 H7 b (M.put (8 + i / 64) ((M.sec (8 + i / 64)).set (i % 64) x)) _ at d
  have himg := img_put1 (M := M) (at_ := 8) (n := 8) (x := x) hsl (show i / 64 < 8 by omega) (show i % 64 < 64 by omega)
  have him := k.im
  have hil := img_len hsl
  have hti : t[i]? = (M.sec (8 + i / 64))[i % 64]? := by
    rw [← img_get hsl (show i < 64 * 8 by omega)]
    have := congrArg (fun l => l[i]?) him
    simp only [List.getElem?_take, if_pos hit] at this
    exact this.symm
  have hi2 : (img (M.put (8 + i / 64) ((M.sec (8 + i / 64)).set (i % 64) x)) 8 8).take t.length = t.set i x := by
    rw [himg, List.take_set, him, show 64 * (i / 64) + i % 64 = i by omega]
  have htell : more32 0 (t.set i x) ≠ more32 0 t := by
    refine burst_tells (e := 1) (at_ := 8 * i + 0) (by rw [List.length_set]) ?_ (by decide) (by decide) (by omega)
    rw [Nat.mul_one]
    refine num_set t i x 0 hit ?_
    rw [hx2, List.getD_eq_getElem?_getD, hti, List.getElem?_eq_getElem hpl]
    rfl
  have hwf : WalF (noteAt (M.put (8 + i / 64) ((M.sec (8 + i / 64)).set (i % 64) x)) 0) 8 (0 + 1) (noteB ⟨St.zero.se, St.zero.ep, t.length, more32 0 t, false⟩) := by
    have hna : ∀ j, j < 8 → noteAt (M.put (8 + i / 64) ((M.sec (8 + i / 64)).set (i % 64) x)) 0 j = noteAt M 0 j := fun j hj => by
      unfold noteAt
      rw [sec_put, if_neg (by omega)]
    refine ⟨fun j hj q hq => k.k.w.wf.pos j hj q (by rw [← hna j hj]; exact hq), fun j hj q hq => k.k.w.wf.lt j hj q (by rw [← hna j hj]; exact hq), fun h1 => ?_, k.k.w.wf.zero⟩
    rw [hna _ (Nat.mod_lt _ (by decide))]
    exact k.k.w.wf.top h1
  refine open20_spec (i := t.set i x) d (by show 8 + 8 = M.n; omega) (by decide) k.k.w.ho hwf (.inr ⟨by decide, rfl⟩) k.k.ok k.len hi2.symm (fun g => absurd g.symm htell) fun _ H8 hx8 => ?_
  refine pExtract_to rfl ?_
  refine pExtract_to rfl ?_
  rw [pEq_0, decide_eq_true (show (7 : Int) = 7 from rfl)]
  refine pAnd_true ?_
  rw [pEq_3n]
  intro _
  exact ⟨rfl, hx1.trans hx8⟩
end Go.Proofs.Ytdaolhlfngfmgaa
