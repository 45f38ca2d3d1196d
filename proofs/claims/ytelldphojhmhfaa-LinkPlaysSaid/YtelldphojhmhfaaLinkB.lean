/- Contracts of package link: New, turned, Spoil, Twice. -/
import Derived.Test.YtelldphojhmhfaaLink
import Derived.Conc.SmallLaws
import Derived.KernelRfl
namespace Go.Proofs.Ytelldphojhmhfaa
open Go Go.Vc Go.Proofs
set_option linter.unusedVariables false
set_option linter.unusedSimpArgs false
variable {H : Heap} {R : Value → Heap → Prop} {b c0 c1 : Nat} {Q : Int → Texts} {w : Int}
/-- a channel as an own thing -/
def chT (r : Nat) (q : Texts) : Thing where
  foot k := k = r
  holds H := Chn H r q
  frame h hf := h.keep (hf _ rfl)
  lt h hk := by cases hk; exact h.lt
theorem chanBytes : ∃ i, Try.prog.info? 9 = some i ∧ i.bytes = 16 := by
  have h : (Try.prog.info? 9).map (·.bytes) = some 16 := by kernel_rfl
  obtain ⟨i, hi, hb⟩ := Option.map_eq_some_iff.1 h
  exact ⟨i, hi, hb⟩
theorem chanType : Try.prog.underlying 41 = some (.chan .both 9) := by kernel_rfl
theorem owns_makeChan {H0 : Heap} {L : List It} {K : Value → Heap → Prop} (o : Owns H0 H L) (hk : ∀ r H', Owns H0 H' (.thing (chT r []) :: L) → H'.size = H.size + 1 → K (.chan (some r)) H') : pSem H Try.prog (Instr.makeChan 41 (.int .i64 64)) K := by
  intro w hw
  subst hw
  obtain ⟨i, hi, hb⟩ := chanBytes
  have := Go.Conc.run_makeChan (P := Try.prog) (w := w) chanType hi .i64 64 (by omega) (by rw [hb]; omega)
  rw [show ((64 : Nat) : Int) = 64 from rfl] at this
  rw [this]
  refine ⟨⟨rfl, rfl⟩, ?_⟩
  refine hk _ _ (o.add (Ext.refl _).push (show Chn _ _ _ from ⟨0, 0, get_push_self⟩) (fun k hk => ?_)) (by simp)
  show w.heap.size ≤ k
  have : k = w.heap.size := hk
  omega
/-- a link as an own thing -/
def lkT (b c0 c1 : Nat) (Q : Int → Texts) : Thing where
  foot k := k = b ∨ k = c0 ∨ k = c1
  holds H := Lk H b c0 c1 Q
  frame h hf := { h with blk := (hf _ (.inl rfl)).trans h.blk, ch0 := h.ch0.keep (hf _ (.inr (.inl rfl))), ch1 := h.ch1.keep (hf _ (.inr (.inr rfl))) }
  lt h hk := by
    rcases hk with rfl | rfl | rfl
    · exact lt_of_blk h.blk
    · exact h.ch0.lt
    · exact h.ch1.lt
theorem owns_lk {H0 H' : Heap} {L L' : List It} {Q' : Int → Texts} (o : Owns H0 H L) (on : Only2 c0 c1 H H') (h : Lk H' b c0 c1 Q') (hr : Rep (.thing (lkT b c0 c1 Q)) (.thing (lkT b c0 c1 Q')) L L') : Owns H0 H' L' :=
  o.turn hr on.size (fun k hk hn => on.same k hk (fun e => hn (.inr (.inl e))) (fun e => hn (.inr (.inr e)))) h (fun k hk => .inl hk)
theorem link_new (h : ∀ H' b c0 c1, Owns H H' [.thing (lkT b c0 c1 fun _ => [])] → R (.pointer (some ⟨b, 0, none⟩)) H') : CallsH Try.prog 8 #[] H R := by
  refine link_New.vc _ _ ?_
  unfold link_New.res
  rw [pBuild_n]
  refine (Owns.start (H := H)).box fun b H1 o _ => ?_
  change Owns H H1 [.box b [.chan none, .chan none] _] at o
  refine ⟨fun i H' => (i = .int .i64 0 ∧ Owns H H' [.box b [.chan none, .chan none] 44 ]) ∨ (i = .int .i64 1 ∧ ∃ c0, Owns H H' [.box b [.chan (some c0), .chan none] 44, .thing (chT c0 [])]) ∨ (i = .int .i64 2 ∧ ∃ c0 c1, Owns H H' [.box b [.chan (some c0), .chan (some c1)] 44, .thing (chT c1 []), .thing (chT c0 [])]),
    fun i _ => match i with | .int _ x => (10 - x).toNat | _ => 0, .inl ⟨rfl, o⟩, ?_⟩
  rintro _ _ H2 (⟨rfl, o⟩ | ⟨rfl, c0, o⟩ | ⟨rfl, c0, c1, o⟩)
  · rw [pLt_v, decide_eq_true (by decide), pCond_true, pNil_v, pFieldAddr_v]
    refine owns_makeChan o fun r H3 o _ => ?_
    rw [pIdxArr_v]
    refine ⟨by decide, by decide, ?_⟩
    refine o.bstore (by repeat (first | exact List.mem_cons_self | apply List.mem_cons_of_mem)) (by simp) rfl (by repeat (first | exact Rep.here | apply Rep.there)) fun H4 o _ => ?_
    rw [pAdd_v]
    exact ⟨.inr (.inl ⟨rfl, r, o.arr (by repeat (first | exact Sels.nil | exact Sel.here | apply Sels.cons | apply Sel.there))⟩), by show (_ : Int).toNat < (_ : Int).toNat; decide⟩
  · rw [pLt_v, decide_eq_true (by decide), pCond_true, pNil_v, pFieldAddr_v]
    refine owns_makeChan o fun r H3 o _ => ?_
    rw [pIdxArr_v]
    refine ⟨by decide, by decide, ?_⟩
    refine o.bstore (cs := [.chan (some c0), .chan none]) (by repeat (first | exact List.mem_cons_self | apply List.mem_cons_of_mem)) (show 1 < 2 by decide) rfl (by repeat (first | exact Rep.here | apply Rep.there)) fun H4 o _ => ?_
    rw [pAdd_v]
    exact ⟨.inr (.inr ⟨rfl, c0, r, o.arr (by repeat (first | exact Sels.nil | exact Sel.here | apply Sels.cons | apply Sel.there))⟩), by show (_ : Int).toNat < (_ : Int).toNat; decide⟩
  · rw [pLt_v, decide_eq_false (by decide), pCond_false]
    have hd := o.dis
    simp only [List.pairwise_cons, List.mem_cons, List.not_mem_nil, or_false, forall_eq_or_imp, forall_eq] at hd
    obtain ⟨⟨d1, d2⟩, d3, -⟩ := hd
    refine h H2 b c0 c1 ⟨o.ext, ?_, ?_, by simp⟩
    · intro i hi
      rw [List.mem_singleton.1 hi]
      exact ⟨o.blk (by repeat (first | exact List.mem_cons_self | apply List.mem_cons_of_mem)), o.thing (T := chT c0 []) (by repeat (first | exact List.mem_cons_self | apply List.mem_cons_of_mem)), o.thing (T := chT c1 []) (by repeat (first | exact List.mem_cons_self | apply List.mem_cons_of_mem)), fun e => d3 c1 rfl e.symm, fun e => d2 b rfl e, fun e => d1 b rfl e, fun _ => by simp⟩
    · intro i hi k hk
      rw [List.mem_singleton.1 hi] at hk
      rcases hk with rfl | rfl | rfl
      · exact o.new (.box k _ _) List.mem_cons_self k rfl
      · exact o.new (.thing (chT k [])) (by repeat (first | exact List.mem_cons_self | apply List.mem_cons_of_mem)) k rfl
      · exact o.new (.thing (chT k [])) (by repeat (first | exact List.mem_cons_self | apply List.mem_cons_of_mem)) k rfl
/-- the bits of a number -/
def tb (bits : Int) (k : Nat) : Bool := bits.toNat.testBit k
theorem shr_and {bits : Int} {k : Nat} (h0 : 0 ≤ bits) (h1 : bits ≤ 4294967295) (hk : k < 32) : bitsOf .and .u32 (bits.fdiv (2 ^ min ((k : Int)).toNat IntKind.u32.bits)) 1 = ((tb bits k).toNat : Int) := by
  obtain ⟨m, rfl⟩ := Int.eq_ofNat_of_zero_le h0
  rw [show min ((k : Int)).toNat IntKind.u32.bits = k by show min ((k : Int)).toNat 32 = k; omega, fdiv_nat (j := k) rfl]
  have hm : m / 2 ^ k < 2 ^ 32 := Nat.lt_of_le_of_lt (Nat.div_le_self _ _) (by omega)
  have e : ((BitVec.ofInt 32 ((m / 2 ^ k : Nat) : Int)) &&& (BitVec.ofInt 32 1)).toNat = (m / 2 ^ k) % 2 := by
    rw [BitVec.toNat_and, BitVec.ofInt_natCast, BitVec.toNat_ofNat, Nat.mod_eq_of_lt hm]
    show _ &&& 1 = _
    exact Nat.and_one_is_mod _
  show IntKind.u32.wrap ((((BitVec.ofInt 32 ((m / 2 ^ k : Nat) : Int)) &&& (BitVec.ofInt 32 1)).toNat : Nat) : Int) = _
  rw [e]
  unfold tb
  rw [Int.toNat_natCast, Nat.testBit_eq_decide_div_mod_eq]
  have : m / 2 ^ k % 2 < 2 := Nat.mod_lt _ (by decide)
  rw [show IntKind.u32.wrap ((m / 2 ^ k % 2 : Nat) : Int) = ((m / 2 ^ k % 2 : Nat) : Int) by rw [wu32_mod]; omega]
  rcases (by omega : m / 2 ^ k % 2 = 0 ∨ m / 2 ^ k % 2 = 1) with h | h <;> simp [h]
theorem bytesV_len {l : List UInt8} : (l.map byteV).length = l.length := by simp
theorem bytesV_one {l : List UInt8} : (l.map byteV).all oneCell = true := by
  rw [List.all_eq_true]
  intro v hv
  obtain ⟨u, _, rfl⟩ := List.mem_map.1 hv
  rfl
theorem turned_spec {s : List UInt8} {at_ bits : Int} (hs : s.length ≤ 1000000) (ha0 : -9223372036854775808 ≤ at_) (ha1 : at_ ≤ 9223372036854775807) (h0 : 0 ≤ bits) (h1 : bits ≤ 4294967295)
    (h : ∀ H', Ext H H' → R (str (spoilL s at_ (tb bits))) H') : CallsH Try.prog 19 #[str s, .int .i64 at_, .int .u32 bits] H R := by
  refine link_turned.vc _ _ _ _ _ ?_
  unfold link_turned.res
  refine own_bytes fun y H1 oy e1 hy => ?_
  have o : Owns H H1 [.sl y 1 (s.map byteV)] := (Owns.start (H := H)).add e1 ⟨by decide, oy⟩ (fun k hk => by have : some k = some H.size := hk.symm.trans hy; simp at this; omega)
  refine ⟨fun i H' => ∃ (k : Nat) (l : List UInt8), i = .int .i64 k ∧ k ≤ 32 ∧ l.length = s.length ∧ toBits l = flipB at_ (tb bits) k (toBits s) ∧ Owns H H' [.sl y 1 (l.map byteV)], fun i _ => match i with | .int _ x => (100 - x).toNat | _ => 0, ⟨0, s, rfl, by omega, rfl, by rw [flipB_zero], o⟩, ?_⟩
  rintro _ _ H2 ⟨k, l, rfl, hk, hl, hb, o⟩
  rw [pLt_v]
  refine pCond_if (fun hc => ?_) (fun hc => ?_)
  rotate_left
  · have : k = 32 := by omega
    subst this
    have e : l = spoilL s at_ (tb bits) := by unfold spoilL; rw [← hb, toBytes_toBits']
    subst e
    exact (o.sl (by repeat (first | exact List.mem_cons_self | apply List.mem_cons_of_mem))).str (h _ o.ext)
  have hk32 : k < 32 := by omega
  have hbl : (toBits s).length = 8 * s.length := toBits_len s
  have hskip : (tb bits k = false ∨ at_ + k < 0 ∨ ((toBits s).length : Int) ≤ at_ + k) → pAdd (.int .i64 (k : Int)) (.int .i64 1) fun x48 => (∃ (k : Nat) (l : List UInt8), x48 = .int .i64 k ∧ k ≤ 32 ∧ l.length = s.length ∧ toBits l = flipB at_ (tb bits) k (toBits s) ∧ Owns H H2 [.sl y 1 (l.map byteV)]) ∧ (match x48 with | .int _ x => (100 - x).toNat | _ => 0) < (100 - (k : Int)).toNat := fun hd => by
    rw [pAdd_v, w64 (n := (k : Int) + 1) (by omega) (by omega)]
    exact ⟨⟨k + 1, l, rfl, by omega, hl, by rw [hb, flipB_same hd], o⟩, by show (_ : Int).toNat < (_ : Int).toNat; omega⟩
  rw [pShr_v]
  refine ⟨by omega, ?_⟩
  rw [pBits_v, shr_and h0 h1 hk32, pEq_0]
  cases htb : tb bits k with
  | false =>
    rw [decide_eq_true (by rfl), pOr_true]
    intro _
    rw [pOr_true]
    intro _
    rw [pCond_true]
    exact hskip (.inl htb)
  | true =>
    rw [decide_eq_false (by decide)]
    refine pOr_false ?_
    rw [pNeg_v, w64 (n := 0 - (k : Int)) (by omega) (by omega), pLt_v]
    intro _
    by_cases hneg : at_ < 0 - (k : Int)
    · rw [decide_eq_true hneg, pOr_true]
      intro _
      rw [pCond_true]
      exact hskip (.inr (.inl (by omega)))
    rw [decide_eq_false hneg]
    refine pOr_false ?_
    refine (o.sl (v := y) (by repeat (first | exact List.mem_cons_self | apply List.mem_cons_of_mem))).len (n := s.length) (by simp [hl]) (by decide) ?_
    rw [pMul_v, pSub_v, w64 (n := 8 * (s.length : Int)) (by omega) (by omega), w64 (n := 8 * (s.length : Int) - (k : Int)) (by omega) (by omega), pGe_v]
    intro _
    by_cases hbig : 8 * (s.length : Int) - (k : Int) ≤ at_
    · rw [decide_eq_true hbig, pCond_true]
      exact hskip (.inr (.inr (by omega)))
    rw [decide_eq_false hbig, pCond_false]
    obtain ⟨m, hm⟩ : ∃ m : Nat, at_ + (k : Int) = m := ⟨(at_ + k).toNat, by omega⟩
    rw [pAdd_v, hm, w64 (n := (m : Int)) (by omega) (by omega), pQuo_v]
    refine ⟨by decide, ?_⟩
    have eq8 : (m : Int).tdiv 8 = ((m / 8 : Nat) : Int) := by rw [Int.tdiv_eq_ediv_of_nonneg (by omega)]; omega
    have er8 : (m : Int).tmod 8 = ((m % 8 : Nat) : Int) := by rw [Int.tmod_eq_emod_of_nonneg (by omega)]; omega
    rw [eq8, w64 (n := ((m / 8 : Nat) : Int)) (by omega) (by omega)]
    have hml : m / 8 < l.length := by omega
    refine (o.sl (v := y) (by repeat (first | exact List.mem_cons_self | apply List.mem_cons_of_mem))).at_ (n := s.length) (by simp [hl]) (by decide) (by omega) (by omega) fun p hp => ?_
    refine hp.load (o.sl (v := y) (by repeat (first | exact List.mem_cons_self | apply List.mem_cons_of_mem))) (w := byteV l[m / 8]) (by rw [Int.toNat_natCast, Nat.mul_one, List.getElem?_map, List.getElem?_eq_getElem hml]; rfl) ?_
    rw [pAdd_v, hm, w64 (n := (m : Int)) (by omega) (by omega), pRem_v]
    refine ⟨by decide, ?_⟩
    rw [er8, pShl_v]
    refine ⟨by omega, ?_⟩
    unfold byteV
    rw [pBits_v, flipU_val (Nat.mod_lt _ (by decide))]
    refine (o.sl (v := y) (by repeat (first | exact List.mem_cons_self | apply List.mem_cons_of_mem))).at_ (n := s.length) (by simp [hl]) (by decide) (by omega) (by omega) fun p hp => ?_
    refine o.store hp (by repeat (first | exact List.mem_cons_self | apply List.mem_cons_of_mem)) (by rw [Int.toNat_natCast, List.length_map]; omega) rfl (by repeat (first | exact Rep.here | apply Rep.there)) fun H3 o _ => ?_
    rw [Int.toNat_natCast, Nat.mul_one, ← List.map_set] at o
    obtain ⟨hg, hse⟩ := flipB_set (B := toBits s) htb hm (by omega)
    have hfl := toBits_flip hml (Nat.mod_lt m (show 0 < 8 by decide)) ((toBits s)[m]) (by rw [show 8 * (m / 8) + m % 8 = m by omega, hb]; exact hg)
    rw [show 8 * (m / 8) + m % 8 = m by omega, hb, ← hse] at hfl
    rw [pAdd_v, w64 (n := (k : Int) + 1) (by omega) (by omega)]
    exact ⟨⟨k + 1, _, rfl, by omega, by rw [List.length_set]; exact hl, hfl, o⟩, by show (_ : Int).toNat < (_ : Int).toNat; omega⟩
theorem spoil_spec {at_ bits : Int} (hl : Lk H b c0 c1 Q) (hw : w = 0 ∨ w = 1) (hsz : ∀ t ∈ Q w, t.length ≤ 1000000) (ha0 : -9223372036854775808 ≤ at_) (ha1 : at_ ≤ 9223372036854775807) (h0 : 0 ≤ bits) (h1 : bits ≤ 4294967295)
    (hno : Q w = [] → ∀ H', Ext H H' → R (.bool false) H')
    (hyes : ∀ t q H', Q w = t :: q → Lk H' b c0 c1 (updQ Q w (spoilL t at_ (tb bits) :: q)) → Only2 c0 c1 H H' → R (.bool true) H') : CallsH Try.prog 13 #[.pointer (some ⟨b, 0, none⟩), .int .i64 w, .int .i64 at_, .int .u32 bits] H R := by
  refine link_Link_Spoil.vc _ _ _ _ _ _ ?_
  unfold link_Link_Spoil.res
  refine pBox_ext fun H1 s1 e1 b1 => ?_
  refine pBox_ext fun H2 s2 e2 b2 => ?_
  have hx := e1.trans e2
  refine change_spec (hl.ext hx) hw (fun hq => hno hq _ hx) (fun t q H3 hq hl3 on3 => ?_)
  refine callH_of (by rfl) ?_
  have hb0 := hl.ch0.lt
  have hb1 := hl.ch1.lt
  have b1' : H3[H.size]? = some (.cells [.int .i64 at_].toArray 3 (0, 0)) := (on3.same _ (by omega) (by omega) (by omega)).trans (e2.blk b1)
  have b2' : H3[H1.size]? = some (.cells [.int .u32 bits].toArray 32 (0, 0)) := (on3.same _ (by omega) (by omega) (by omega)).trans b2
  refine link_Link_Spoil_f1.vc _ _ _ _ _ ?_
  unfold link_Link_Spoil_f1.res
  refine pLoad_l b1' rfl ?_
  refine pLoad_l b2' rfl ?_
  refine turned_spec (hsz t (by rw [hq]; simp)) ha0 ha1 h0 h1 fun H4 e4 => ?_
  exact ⟨_, rfl, hl3.ext e4, fun H5 hl5 on5 => hyes t q H5 hq hl5 (((Only2.of_ext hx).trans on3).trans ((Only2.of_ext e4).trans on5))⟩
theorem twice_spec (hl : Lk H b c0 c1 Q) (hw : w = 0 ∨ w = 1)
    (hno : (Q w = [] ∨ (Q w).length = 64) → ∀ H', Ext H H' → R (.bool false) H')
    (hyes : ∀ t q H', Q w = t :: q → (Q w).length < 64 → Lk H' b c0 c1 (updQ Q w (t :: q ++ [t])) → Only2 c0 c1 H H' → R (.bool true) H') : CallsH Try.prog 14 #[.pointer (some ⟨b, 0, none⟩), .int .i64 w] H R := by
  refine link_Link_Twice.vc _ _ _ _ ?_
  unfold link_Link_Twice.res
  refine len_spec hl hw ?_
  have hle := hl.len w
  rw [pEq_0]
  refine pCond_if (fun h64 => hno (.inr (by omega)) _ (Ext.refl _)) (fun h64 => ?_)
  refine pBox_ext fun H1 s1 e1 b1 => ?_
  refine pStore_upd b1 (by simp [cells_str]) rfl fun H2 s2 u2 => ?_
  have e2 : Ext H H2 := u2.ext e1 (Nat.le_refl _)
  have hb0 := hl.ch0.lt
  have hb1 := hl.ch1.lt
  have hbb := lt_of_blk hl.blk
  refine change_spec (hl.ext e2) hw (fun hq => ?_) (fun t q H3 hq hl3 on3 => ?_)
  · rw [pNot_v, Bool.not_false, pCond_true]
    exact hno (.inl hq) _ e2
  · refine callH_of (by rfl) ?_
    have hb2 : H2[H.size]? = some (.cells [str []].toArray 9 (0, 0)) := u2.at_
    have hb3 : H3[H.size]? = some (.cells [str []].toArray 9 (0, 0)) := (on3.same _ (by omega) (by omega) (by omega)).trans hb2
    refine link_Link_Twice_f1.vc _ _ _ _ ?_
    unfold link_Link_Twice_f1.res
    refine pStore_upd hb3 (by simp) rfl fun H4 s4 u4 => ?_
    have hl4 : Lk H4 b c0 c1 (updQ Q w q) := { hl3 with blk := (u4.ne b (lt_of_blk hl3.blk) (by omega)).trans hl3.blk, ch0 := hl3.ch0.keep (u4.ne _ hl3.ch0.lt (by omega)), ch1 := hl3.ch1.keep (u4.ne _ hl3.ch1.lt (by omega)) }
    refine ⟨t, rfl, hl4, fun H5 hl5 on5 => ?_⟩
    have h34 := on3.size
    have h45 := on5.size
    have hb4 : H4[H.size]? = some (.cells [str t].toArray 9 (0, 0)) := u4.at_
    have hb5 : H5[H.size]? = some (.cells [str t].toArray 9 (0, 0)) := (on5.same _ (by omega) (by omega) (by omega)).trans hb4
    rw [pNot_v, Bool.not_true, pCond_false]
    refine pLoad_l hb5 rfl ?_
    have hql : (updQ Q w (t :: q) w).length = (Q w).length := by rw [updQ_self, hq]
    refine put_spec hl5 hw (fun h => by omega) (fun _ H6 hl6 on6 => ?_)
    rw [updQ_self, updQ_upd] at hl6
    refine hyes t q H6 hq (by omega) hl6 ⟨by have := on6.size; have := e2.size; omega, fun i hi h0 h1 => ?_⟩
    have := e2.size
    rw [on6.same i (by omega) h0 h1, on5.same i (by omega) h0 h1, u4.ne i (by omega) (by omega), on3.same i (by omega) h0 h1, e2.get i hi]
end Go.Proofs.Ytelldphojhmhfaa
