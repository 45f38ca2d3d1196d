/- The laws of package wal over heaps: the first test, WalPuts. -/
import Derived.Test.YtaopejkbnohiiaaWalL
import Derived.Test.YtaopejkbnohiiaaResLighterlaw18
import Derived.Test.YtaopejkbnohiiaaResLighterref18
import Derived.Test.YtaopejkbnohiiaaRefPut
import Derived.Test.YtaopejkbnohiiaaRef02
import Derived.Test.YtaopejkbnohiiaaVcRow
import Derived.Test.YtaopejkbnohiiaaStrs
namespace Go.Proofs.Ytaopejkbnohiiaa
open Go Go.Vc Go.Proofs
set_option linter.unusedVariables false
set_option linter.unusedSimpArgs false
variable {H H0 : Heap} {R : Value → Heap → Prop} {v : Value} {L L' : List It} {b lb at_ k N : Nat} {M : Dk} {want : List UInt8} {bad : Bool}
theorem speaks18_spec (h : ∀ H', Ext H H' → R (.bool true) H') : CallsH Try.prog 7 #[] H R := by
  refine lighterlaw18_speaks.vc _ _ ?_
  unfold lighterlaw18_speaks.res
  refine new_spec (n := 4) (Owns.start (H := H)) (by decide) (by decide) fun H1 b d => ?_
  refine pExtract_to rfl ?_
  refine pExtract_to rfl ?_
  refine wl_new (at_ := 1) (k := 3) d (by decide) (by decide) fun H2 lb w => ?_
  refine pExtract_to rfl ?_
  refine pExtract_to rfl ?_
  rw [pNe_0, decide_eq_false (by simp)]
  refine pOr_false ?_
  refine w.put (s := [97]) (by decide) (by decide) rfl fun H3 w => ?_
  rw [pNe_0, decide_eq_false (by simp)]
  intro _
  rw [pCond_false]
  refine w.note ?_
  refine pExtract_to rfl ?_
  refine pExtract_to rfl ?_
  refine pEq1_to ?_
  rw [decide_eq_true (show ([97] : List UInt8) = [97] from rfl)]
  refine pAnd_true ?_
  rw [pEq_0, decide_eq_true (by decide)]
  intro _
  refine pAnd_true ?_
  refine slot_spec (n := 1) (s := [97]) (by decide) (by decide) (by decide) fun H4 hx => ?_
  refine pLenS_to ?_
  rw [slotB_len (by decide), pEq_0, decide_eq_true (by decide)]
  intro _
  exact h H4 (w.d.ext.trans hx)
theorem bytesB_rep (n : Nat) : List.replicate n (Value.int .u8 0) = (List.replicate n (0 : UInt8)).map byteV := by simp [byteV]
theorem refSlot_spec {n : Nat} {s : List UInt8} (h1 : 1 ≤ n) (hn : n < 18446744073709551616) (hs : s.length ≤ 23) (h : ∀ H', Ext H H' → R (str (slotB n s)) H') : CallsH Try.prog 12 #[.int .u64 (n : Int), str s] H R := by
  have hbl := bodyB_len (n := n) hs
  have hp1 : putN s.length 1 = [UInt8.ofNat (s.length % 256)] := by rw [putN_cons]; rfl
  have hl : (putN n 8 ++ putN s.length 1 ++ s).length = 9 + s.length := by simp only [List.length_append, putN_len]
  refine lighterref18_Slot.vc _ _ _ _ ?_
  unfold lighterref18_Slot.res
  rw [pEq_0, decide_eq_false (by omega)]
  refine pOr_false ?_
  refine pLenS_to ?_
  rw [pGt_v, decide_eq_false (by omega)]
  intro _
  rw [pCond_false]
  refine ⟨fun w H' => w = str (putN n 8 ++ putN s.length 1 ++ s) ∧ Ext H H', ?_, ?_⟩
  · rintro _ _ H1 ⟨rfl, x1⟩
    refine pLenS_to ?_
    rw [hl, pSub_v, show (60 : Int) - ((9 + s.length : Nat) : Int) = ((60 - (9 + s.length) : Nat) : Int) by omega, w64 (by omega) (by omega)]
    refine (Owns.start (H := H1)).make1 (by omega) (by omega) (by omega) fun y H2 o => ?_
    have o : Owns H1 H2 [.sl y 1 ((List.replicate (60 - (9 + s.length)) (0 : UInt8)).map byteV)] := by
      rw [Int.toNat_natCast, bytesB_rep] at o
      exact o
    refine (o.sl (v := y) (by repeat (first | exact List.mem_cons_self | apply List.mem_cons_of_mem))).str ?_
    refine pAdd_str (by rw [hl, List.length_replicate]; omega) ?_
    show CallsH Try.prog 26 #[n32 0, str (bodyB n s)] _ _
    refine refMore_spec (s := 0) (by decide) (by omega) ?_
    have hcr := more32_lt 0 (bodyB n s)
    show pConv .u64 (.int .u32 ((more32 0 (bodyB n s) : Nat) : Int)) _
    rw [pConv_v, wu64 (n := ((more32 0 (bodyB n s) : Nat) : Int)) (by omega) (by omega)]
    refine refPut_spec (n := more32 0 (bodyB n s)) (k := 4) (by omega) fun H3 x3 => ?_
    rw [if_pos (by decide)]
    show pAdd (str (bodyB n s)) (str (putN (more32 0 (bodyB n s)) 4)) _
    refine pAdd_str (by rw [hbl, putN_len]; decide) ?_
    exact h H3 (x1.trans (o.ext.trans x3))
  · refine pLenS_to ?_
    rw [pConv_v]
    have hb : Value.int .u8 (IntKind.u8.wrap ((s.length : Nat) : Int)) = byteV (UInt8.ofNat (s.length % 256)) := byte_low
    rw [hb]
    constructor
    · refine refPut_spec (n := n) (k := 8) hn fun H1 x1 => ?_
      rw [if_pos (by decide)]
      refine (Owns.start (H := H1)).build1 (sz := 1) (by decide) rfl rfl fun y H2 o => ?_
      refine (o.sl (v := y) (by repeat (first | exact List.mem_cons_self | apply List.mem_cons_of_mem))).str (l := [UInt8.ofNat (s.length % 256)]) ?_
      refine pAdd_str (by show (putN n 8).length + 1 ≤ _; rw [putN_len]; decide) ?_
      rw [← hp1]
      refine pAdd_str (by show (putN n 8 ++ _).length + _ ≤ _; rw [List.length_append, putN_len, putN_len]; omega) ?_
      exact ⟨rfl, x1.trans o.ext⟩
    · refine (Owns.start (H := H)).build1 (sz := 1) (by decide) rfl rfl fun y H1 o => ?_
      refine (o.sl (v := y) (by repeat (first | exact List.mem_cons_self | apply List.mem_cons_of_mem))).str (l := [UInt8.ofNat (s.length % 256)]) ?_
      refine refPut_spec (n := n) (k := 8) hn fun H2 x2 => ?_
      rw [if_pos (by decide)]
      have o := o.more x2
      refine ⟨(o.sl (v := y) (by repeat (first | exact List.mem_cons_self | apply List.mem_cons_of_mem))).str (l := [UInt8.ofNat (s.length % 256)]) rfl, ?_⟩
      refine pAdd_str (by show (putN n 8).length + 1 ≤ _; rw [putN_len]; decide) ?_
      rw [← hp1]
      refine pAdd_str (by show (putN n 8 ++ _).length + _ ≤ _; rw [List.length_append, putN_len, putN_len]; omega) ?_
      exact ⟨rfl, o.ext⟩
set_option maxHeartbeats 1000000 in
theorem WalPuts_law (a0 : Option Addr) (len0 cap0 : Nat) (sec at0 : Int) (w0 : StructRow [.string] H a0 len0 cap0) (w1 : (Lit.int .i64 sec).wf = true) (w2 : (Lit.int .i64 at0).wf = true) :
    CallsH Try.prog 3 #[.slice a0 len0 cap0, .int .i64 sec, .int .i64 at0] H (LawOk H) := by
  obtain ⟨T, hTl, hTm, hTs, hT⟩ := str_rows w0
  have hmax : maxLen = 9223372036854775807 := rfl
  have hvl : (txtsV T).length = T.length * 1 := by rw [txtsV_len, Nat.mul_one]
  refine lighterlaw18_WalPuts.vc _ _ _ _ _ ?_
  unfold lighterlaw18_WalPuts.res
  refine speaks18_spec fun H1 hx1 => ?_
  rw [pNot_v, Bool.not_true, pCond_false]
  have hT := hT.ext hx1
  rw [pBits_v, and_low (k := 3) (m := 7) (n := sec) (by decide) rfl]
  obtain ⟨k, hk⟩ : ∃ k : Nat, 2 + sec % 2 ^ 3 = (k : Int) := ⟨(2 + sec % 2 ^ 3).toNat, by omega⟩
  have hk9 : 2 ≤ k ∧ k ≤ 9 := by omega
  rw [pAdd_v, hk, w64 (n := (k : Int)) (by omega) (by omega), pBits_v, and_low (k := 2) (m := 3) (n := at0) (by decide) rfl]
  obtain ⟨a, ha⟩ : ∃ a : Nat, at0 % 2 ^ 2 = (a : Int) := ⟨(at0 % 2 ^ 2).toNat, by omega⟩
  have ha3 : a ≤ 3 := by omega
  rw [ha]
  refine new_spec (n := 12) (Owns.start (H := H1)) (by decide) (by decide) fun H2 b d => ?_
  refine pExtract_to rfl ?_
  refine pExtract_to rfl ?_
  refine wl_new (at_ := a) (k := k) d hk9.1 (by omega) fun H3 lb w => ?_
  refine pExtract_to rfl ?_
  refine pExtract_to rfl ?_
  rw [pNe_0, decide_eq_false (by simp), pCond_false]
  refine ⟨fun nv i H' => ∃ (q N : Nat) (M : Dk) (want : List UInt8) (L : List It), i = .int .i64 q ∧ q ≤ 30 ∧ N ≤ q ∧ nv = .int .u64 (N : Int) ∧ M.fuse = none ∧ M.n = 12 ∧ WL H1 H' b lb a k N M want L, fun _ i _ => match i with | .int _ x => 100 - x.toNat | _ => 0, ⟨0, 0, Dk.new 12, [], [], rfl, by omega, by omega, rfl, rfl, rfl, w⟩, ?_⟩
  clear w d
  rintro _ _ _ H4 ⟨q, N, M, want, L, rfl, hq, hNq, rfl, hf, hn, w⟩
  refine (hT.ext w.d.ext).len hvl (by decide) ?_
  rw [pLt_v]
  refine pAnd_if (d := decide ((q : Int) < 30)) (fun _ => by rw [pLt_v]; exact ⟨rfl, rfl⟩) ?_
  intro _
  refine pCond_b (fun hc => ?_) (fun _ => ⟨rfl, hx1.trans w.d.ext⟩)
  rw [Bool.and_eq_true, decide_eq_true_eq, decide_eq_true_eq] at hc
  have hqT : q < T.length := by omega
  refine ⟨fun nv H' => ∃ (N : Nat) (M : Dk) (want : List UInt8) (L : List It), N ≤ q + 1 ∧ nv = .int .u64 (N : Int) ∧ M.fuse = none ∧ M.n = 12 ∧ WL H1 H' b lb a k N M want L, ?_, ?_⟩
  · rintro _ _ H5 ⟨N, M, want, L, g1, rfl, g2, g3, w⟩
    rw [pAdd_v, w64 (n := (q : Int) + 1) (by omega) (by omega)]
    exact ⟨⟨q + 1, N, M, want, L, rfl, by omega, g1, rfl, g2, g3, w⟩, by show 100 - ((q : Int) + 1).toNat < 100 - (q : Int).toNat; omega⟩
  have hld : ∀ {K : Value → Prop}, K (str T[q]) → pIdxSl 1 (.slice a0 len0 cap0) (.int .i64 (q : Int)) fun x => pLoad H4 x K := fun hK =>
    (hT.ext w.d.ext).at_ hvl (by decide) (by omega) (by omega) fun p hp => hp.load (hT.ext w.d.ext) (w := str T[q]) (by rw [Int.toNat_natCast, Nat.mul_one, txtsV_get hqT]) hK
  refine hld ?_
  refine hld ?_
  refine pLenS_to ?_
  rw [pMin_v, show min ((T[q].length : Nat) : Int) 50 = ((min T[q].length 50 : Nat) : Int) by omega]
  refine pSlStr_to (lo := 0) (hi := min T[q].length 50) (.inr ⟨rfl, rfl⟩) (.inl rfl) (by omega) (by omega) ?_
  rw [List.drop_zero, Nat.sub_zero]
  have hsl : (T[q].take (min T[q].length 50)).length ≤ 50 := by rw [List.length_take]; omega
  generalize T[q].take (min T[q].length 50) = s at *
  by_cases hlong : 23 < s.length
  · refine put_spec18 w.d w.ho (by omega) w.hr (by omega) (fun _ => ?_) (fun g => by omega) (fun g => by omega) (fun g => by omega)
    refine pLenS_to ?_
    rw [pGt_v, decide_eq_true (by omega), pCond_true, pNe_0, decide_eq_false (by simp), pCond_false]
    exact ⟨N, M, want, L, by omega, rfl, hf, hn, w⟩
  have hs : s.length ≤ 23 := by omega
  refine w.put (by omega) hs hf fun H5 w => ?_
  have hmod := Nat.mod_lt (N + 1) (show 0 < k by omega)
  have hsec : (M.put (a + (N + 1) % k) (slotB (N + 1) s)).flush.sec (a + (N + 1) % k) = slotB (N + 1) s := by
    rw [flush_sec, sec_put, if_pos rfl]
  have hn2 : (M.put (a + (N + 1) % k) (slotB (N + 1) s)).flush.n = 12 := hn
  have hf2 : (M.put (a + (N + 1) % k) (slotB (N + 1) s)).flush.fuse = none := by show M.fuse.map _ = none; rw [hf]; rfl
  generalize (M.put (a + (N + 1) % k) (slotB (N + 1) s)).flush = M2 at *
  refine pLenS_to ?_
  rw [pGt_v, decide_eq_false (by omega), pCond_false, pAdd_v, show (N : Int) + 1 = ((N + 1 : Nat) : Int) by omega, wu64 (by omega) (by omega), pConv_v, wu64 (n := (k : Int)) (by omega) (by omega), pRem_v]
  refine ⟨by omega, ?_⟩
  rw [show (((N + 1 : Nat)) : Int).tmod (k : Int) = (((N + 1) % k : Nat) : Int) from rfl, pConv_v, w64 (n := (((N + 1) % k : Nat) : Int)) (by omega) (by omega), pAdd_v, show (a : Int) + (((N + 1) % k : Nat) : Int) = ((a + (N + 1) % k : Nat) : Int) by omega, w64 (by omega) (by omega)]
  refine read_spec w.d ?_
  rw [read_ok' (by omega) w.ho, hsec]
  refine pExtract_to rfl ?_
  refine pExtract_to rfl ?_
  rw [pNe_0, decide_eq_false (by simp)]
  refine pOr_false ?_
  refine refSlot_spec (by omega) (by omega) hs fun H6 hx => ?_
  have w := w.more hx
  refine pNe1_to ?_
  rw [decide_eq_false (by simp)]
  intro _
  rw [pCond_false]
  refine wl_open w.d w.hk w.hr w.ho w.cs w.wf w.good fun H7 lb2 w2 => ?_
  refine pExtract_to rfl ?_
  refine pExtract_to rfl ?_
  refine w2.note ?_
  refine pExtract_to rfl ?_
  refine pExtract_to rfl ?_
  have w : WL H1 H7 b lb a k (N + 1) M2 s (logIt lb2 b a k s (N + 1) false :: L) := ⟨w2.d.swap18 (by repeat (first | exact SelsT.refl | exact Sel.here | apply SelsT.cons | apply Sel.there)), w.hr, w.hk, w.ho, w.cs, w.wf, w.good⟩
  refine w.note ?_
  refine pExtract_to rfl ?_
  refine pExtract_to rfl ?_
  rw [pNe_0, decide_eq_false (by simp)]
  refine pOr_false ?_
  refine pNe1_to ?_
  rw [decide_eq_false (by simp)]
  intro _
  refine pOr_false ?_
  rw [pNe_0, decide_eq_false (by simp)]
  intro _
  refine pOr_false ?_
  refine pNe1_to ?_
  rw [decide_eq_false (by simp)]
  intro _
  refine pOr_false ?_
  rw [pNe_0, decide_eq_false (by simp)]
  intro _
  rw [pCond_false]
  exact ⟨N + 1, M2, s, _, by omega, rfl, hf2, hn2, w⟩
end Go.Proofs.Ytaopejkbnohiiaa
