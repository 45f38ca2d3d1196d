/- slices.DeleteFunc of numbers that are one number, over own slices. -/
import Derived.Test.YtaopejkbnohiiaaResSlices
import Derived.Test.YtaopejkbnohiiaaResDisk
import Derived.Test.YtaopejkbnohiiaaInts
import Derived.Test.YtaopejkbnohiiaaVcOwns
namespace Go.Proofs.Ytaopejkbnohiiaa
open Go Go.Vc Go.Proofs
set_option linter.unusedVariables false
set_option linter.unusedSimpArgs false
variable {H : Heap} {R : Value → Heap → Prop} {v : Value}
theorem callH_f' {P : Program} {C : List Nat} {g : Nat} {first cap : Array Value} {args : List Value} {K : Value → Heap → Prop} (hm : memb g C = true) (h : CallsH P g (first.toList ++ args ++ cap.toList).toArray H K) : callH P C (.func (.func g) first cap) args H K := by
  show (bif memb g C then CallsH P g (first.toList ++ args ++ cap.toList).toArray H K else False)
  rw [hm]; exact h
/-- an own slice, cut to its first elements -/
theorem own_cutN {v : Value} {l : List Value} {K : Value → Prop} {k : Nat} (h : Own H v 1 l) (hkl : k ≤ l.length) (hk : ∀ v', Own H v' 1 (l.take k) → blkOf v' = blkOf v → K v') : pSlSl 1 v none (some (.int .i64 (k : Int))) K := by
  rcases h with ⟨rfl, rfl⟩ | ⟨b, n, cap, sp, rfl, ⟨t, fr, hb, hf⟩, hl, hc⟩
  · rw [pSlSl_v, pBounds_01]
    have : k = 0 := by simpa using hkl
    subst this
    exact ⟨by decide, by decide, hk _ (.inl ⟨by simp, rfl⟩) rfl⟩
  · rw [List.length_append] at hc
    rw [pSlSl_v, pBounds_01]
    refine ⟨by omega, by omega, ?_⟩
    have e : (if cap = 0 then (some ⟨b, 0, none⟩ : Option Addr) else Option.map (fun x : Addr => x.add (0 * 1)) (some (⟨b, 0, none⟩ : Addr))) = some ⟨b, 0, none⟩ := by
      split
      · rfl
      · simp [Addr.add]
    rw [e, Int.toNat_natCast]
    refine hk _ (.inr ⟨b, k, cap, l.drop k ++ sp, by simp, ⟨⟨t, fr, ?_, hf⟩, ?_, ?_⟩⟩) rfl
    · rw [← List.append_assoc, List.take_append_drop]; exact hb
    · rw [List.length_take]; omega
    · rw [← List.append_assoc, List.take_append_drop, List.length_append]; exact hc
/-- the cells of an own slice from a place on are cleared -/
theorem owns_clearFrom {H0 : Heap} {L L' : List It} {v z : Value} {l : List Value} {k : Nat} {K : Value → Heap → Prop} (o : Owns H0 H L) (hin : It.sl v 1 l ∈ L) (hkl : k < l.length) (hz : oneCell z = true)
    (hrep : Rep (.sl v 1 l) (.sl v 1 (putL l k (List.replicate (l.length - k) z))) L L') (hk : ∀ H', Owns H0 H' L' → K (.tuple #[]) H') : pSlSl 1 v (some (.int .i64 (k : Int))) none fun y => pClearS H [z] y K := by
  obtain ⟨hz1, ho⟩ := o.ok _ hin
  rcases ho with ⟨h, rfl⟩ | ⟨b, n, cap, sp, rfl, ⟨t, fr, hb, hf⟩, hl, hc⟩
  · simp at hkl
  · rw [List.length_append] at hc
    have hn : l.length = n := by omega
    rw [pSlSl_v, pBounds_10]
    refine ⟨by omega, by omega, ?_⟩
    rw [if_neg (by omega), Int.toNat_natCast, Option.map_some]
    have hp : At (.slice (some ⟨b, 0, none⟩) n cap) k (.pointer (some ((⟨b, 0, none⟩ : Addr).add k))) := ⟨_, n, cap, rfl, rfl⟩
    obtain ⟨a, H', ha, hs, o', hsz⟩ := o.put (new := List.replicate (l.length - k) z) hp hin (by rw [List.length_replicate]; omega) (by rw [List.all_eq_true]; intro x hx; rw [List.mem_replicate] at hx; rw [hx.2]; exact hz) hrep
    simp only [Value.pointer.injEq, Option.some.injEq] at ha
    show (match setsAt H ((⟨b, 0, none⟩ : Addr).add (k * 1)) 0 (repL [z] (n - k)) with | some H' => K (.tuple #[]) H' | none => False)
    rw [Nat.mul_one, repL_one, ha, ← hn, hs]
    exact hk H' o'
variable {H0 : Heap} {L M : List It} {l : List Int} {i : Int} {ib : Nat} {ti : TypeId}
theorem sub_sel {i : It} {L M : List It} (s : Sel i L M) : ∀ j ∈ M, j ∈ L := fun j hj => s.perm.subset (List.mem_cons_of_mem _ hj)
theorem keyEq_spec {k : Int} (o : Owns H0 H L) (hb : It.box ib [.int .i64 i] ti ∈ L) (h : R (.bool (decide (k = i))) H) : CallsH Try.prog 29 #[.int .i64 k, .pointer (some ⟨ib, 0, none⟩)] H R := by
  refine disk_Disk_Write_f1.vc _ _ _ _ ?_
  unfold disk_Disk_Write_f1.res
  refine o.bload hb rfl ?_
  rw [pEq_0]
  exact h
theorem indexF_spec (o : Owns H0 H L) (hin : It.sl v 1 (numsV l) ∈ L) (hb : It.box ib [.int .i64 i] ti ∈ L) (hlen : l.length ≤ 1000000) (hno : i ∉ l → R (.int .i64 (-1)) H) (hyes : ∀ k : Nat, k < l.length → l[k]? = some i → (∀ z ∈ l.take k, z ≠ i) → R (.int .i64 (k : Int)) H) :
    CallsH Try.prog 47 #[v, .func (.func 29) #[] #[.pointer (some ⟨ib, 0, none⟩)]] H R := by
  have hvl : (numsV l).length = l.length * 1 := by rw [numsV_len]; omega
  refine slices_IndexFunc_s_int_int.vc _ _ _ _ ?_
  unfold slices_IndexFunc_s_int_int.res
  refine (o.sl hin).len hvl (by decide) ?_
  refine ⟨fun i2 H' => ∃ k : Nat, i2 = .int .i64 k ∧ k ≤ l.length ∧ (∀ z ∈ l.take k, z ≠ i) ∧ H = H', fun i _ => match i with | .int _ x => (10000000 - x).toNat | _ => 0, ⟨0, rfl, by omega, by simp, rfl⟩, ?_⟩
  rintro _ _ _ ⟨k, rfl, hk, hok, rfl⟩
  rw [pLt_v]
  refine pCond_if (fun hc => ?_) (fun hc => ?_)
  · have hkn : k < l.length := by omega
    refine (o.sl hin).at_ hvl (by decide) (by omega) (by omega) fun p hp => ?_
    refine hp.load (o.sl hin) (w := .int .i64 l[k]) (by rw [Int.toNat_natCast, Nat.mul_one, numsV_get hkn]) ?_
    refine callH_f' (by kernel_rfl) ?_
    refine keyEq_spec o hb ?_
    refine pCond_if (fun he => ?_) (fun he => ?_)
    · exact hyes k hkn (by rw [List.getElem?_eq_getElem hkn, he]) hok
    · rw [pAdd_v, w64 (n := (k : Int) + 1) (by omega) (by omega)]
      refine ⟨⟨k + 1, rfl, by omega, fun z hz => ?_, rfl⟩, by show (_ : Int).toNat < (_ : Int).toNat; omega⟩
      rw [List.take_add_one, List.getElem?_eq_getElem hkn] at hz
      rcases List.mem_append.1 hz with g | g
      · exact hok z g
      · simp at g; rw [g]; exact he
  · have : k = l.length := by omega
    rw [this, List.take_length] at hok
    exact hno fun h => hok i h rfl
def others (l : List Int) (i : Int) : List Int := l.filter fun z => decide (z ≠ i)
theorem others_all {l : List Int} (h : ∀ z ∈ l, z ≠ i) : others l i = l := List.filter_eq_self.2 fun z hz => decide_eq_true (h z hz)
theorem others_snoc {l : List Int} {k : Nat} (h : k < l.length) : others (l.take (k + 1)) i = others (l.take k) i ++ (if l[k] = i then [] else [l[k]]) := by
  unfold others
  rw [List.take_add_one, List.getElem?_eq_getElem h, List.filter_append]
  congr 1
  show List.filter _ [l[k]] = _
  rw [List.filter_cons, List.filter_nil]
  by_cases he : l[k] = i
  · rw [if_pos he, decide_eq_false (fun g => g he)]; rfl
  · rw [if_neg he, decide_eq_true he]; rfl
theorem delF_spec (o : Owns H0 H L) (hin : Sel (.sl v 1 (numsV l)) L M) (hb : It.box ib [.int .i64 i] ti ∈ M) (hlen : l.length ≤ 1000000) (hk : ∀ y H', Owns H0 H' (.sl y 1 (numsV (others l i)) :: M) → R y H') :
    CallsH Try.prog 28 #[v, .func (.func 29) #[] #[.pointer (some ⟨ib, 0, none⟩)]] H R := by
  have hvl : (numsV l).length = l.length * 1 := by rw [numsV_len]; omega
  have o := o.front hin
  refine slices_DeleteFunc_s_int_int.vc _ _ _ _ ?_
  unfold slices_DeleteFunc_s_int_int.res
  refine indexF_spec o (by repeat (first | exact List.mem_cons_self | apply List.mem_cons_of_mem)) (List.mem_cons_of_mem _ hb) hlen (fun hno => ?_) (fun k hkl hki hpre => ?_)
  · rw [pEq_0, decide_eq_true (by rfl), pCond_true]
    refine hk v H ?_
    rw [others_all (fun z hz e => hno (by rw [← e]; exact hz))]
    exact o
  rw [pEq_0, decide_eq_false (by omega), pCond_false, pAdd_v, w64 (n := (k : Int) + 1) (by omega) (by omega)]
  have hfk : others (l.take (k + 1)) i = l.take k := by
    obtain ⟨g1, g2⟩ := List.getElem?_eq_some_iff.1 hki
    rw [others_snoc g1, if_pos g2, List.append_nil, others_all hpre]
  refine ⟨fun i5 j6 H' => ∃ (j : Nat) (x : List Int), j6 = .int .i64 (j : Int) ∧ j ≤ l.length ∧ i5 = .int .i64 ((others (l.take j) i).length : Int) ∧ (others (l.take j) i).length < j ∧ x.length = l.length ∧ x.take (others (l.take j) i).length = others (l.take j) i ∧ x.drop j = l.drop j ∧ Owns H0 H' (.sl v 1 (numsV x) :: M), fun _ j _ => match j with | .int _ x => (10000000 - x).toNat | _ => 0, ⟨k + 1, l, by simp, by omega, by rw [hfk, List.length_take]; congr 1; omega, by rw [hfk, List.length_take]; omega, rfl, by rw [hfk, List.length_take, Nat.min_eq_left (by omega)], rfl, o⟩, ?_⟩
  clear o
  rintro _ _ _ H4 ⟨j, x, rfl, hj, rfl, hlt, hxl, hx1, hx2, o⟩
  have hxv : (numsV x).length = l.length * 1 := by rw [numsV_len, hxl]; omega
  refine (o.sl (v := v) (by repeat (first | exact List.mem_cons_self | apply List.mem_cons_of_mem))).len hxv (by decide) ?_
  rw [pLt_v]
  refine pCond_if (fun hc => ?_) (fun hc => ?_)
  · have hjl : j < l.length := by omega
    have hxj : x[j]? = some l[j] := by
      have := congrArg (fun y => y[0]?) hx2
      simp only [List.getElem?_drop, Nat.add_zero] at this
      rw [this, List.getElem?_eq_getElem hjl]
    have hd1 : x.drop (j + 1) = l.drop (j + 1) := by
      rw [← List.drop_drop, ← List.drop_drop, hx2]
    have hsn := others_snoc (i := i) hjl
    refine ⟨fun i5 H' => ∃ x : List Int, i5 = .int .i64 ((others (l.take (j + 1)) i).length : Int) ∧ (others (l.take (j + 1)) i).length < j + 1 ∧ x.length = l.length ∧ x.take (others (l.take (j + 1)) i).length = others (l.take (j + 1)) i ∧ x.drop (j + 1) = l.drop (j + 1) ∧ Owns H0 H' (.sl v 1 (numsV x) :: M), ?_, ?_⟩
    · rintro _ _ H5 ⟨x2, rfl, g1, g2, g3, g4, o⟩
      rw [pAdd_v, w64 (n := (j : Int) + 1) (by omega) (by omega)]
      exact ⟨⟨j + 1, x2, by simp, by omega, rfl, g1, g2, g3, g4, o⟩, by show (_ : Int).toNat < (_ : Int).toNat; omega⟩
    refine (o.sl (v := v) (by repeat (first | exact List.mem_cons_self | apply List.mem_cons_of_mem))).at_ hxv (by decide) (by omega) (by omega) fun p hp => ?_
    refine hp.load (o.sl (v := v) (by repeat (first | exact List.mem_cons_self | apply List.mem_cons_of_mem))) (w := .int .i64 l[j]) (by rw [Int.toNat_natCast, Nat.mul_one]; unfold numsV; rw [List.getElem?_map, hxj]; rfl) ?_
    refine callH_f' (by kernel_rfl) ?_
    refine keyEq_spec o (List.mem_cons_of_mem _ hb) ?_
    rw [pNot_v]
    refine pCond_b (fun hne => ?_) (fun he => ?_)
    · have hne : l[j] ≠ i := by simpa using hne
      rw [if_neg hne] at hsn
      generalize hF : others (l.take j) i = F at *
      rw [hsn]
      have hFl : F.length < x.length := by omega
      refine (o.sl (v := v) (by repeat (first | exact List.mem_cons_self | apply List.mem_cons_of_mem))).at_ hxv (by decide) (by omega) (by omega) fun p hp => ?_
      refine o.store hp (by repeat (first | exact List.mem_cons_self | apply List.mem_cons_of_mem)) (by rw [numsV_len]; omega) rfl (by repeat (first | exact Rep.here | apply Rep.there)) fun H5 o _ => ?_
      rw [Int.toNat_natCast, Nat.mul_one, numsV_set] at o
      rw [pAdd_v, w64 (n := (F.length : Int) + 1) (by omega) (by omega)]
      refine ⟨x.set F.length l[j], by simp, by simp; omega, by rw [List.length_set]; exact hxl, ?_, ?_, o⟩
      · rw [List.length_append, List.length_singleton, List.take_add_one, List.getElem?_set_self hFl, List.take_set_of_le (Nat.le_refl _), hx1]
        rfl
      · rw [List.drop_set_of_lt (by omega)]; exact hd1
    · have he : l[j] = i := by simpa using he
      rw [if_pos he, List.append_nil] at hsn
      rw [hsn]
      exact ⟨x, rfl, by omega, hxl, hx1, hd1, o⟩
  · have hjl : j = l.length := by omega
    subst hjl
    rw [List.take_length] at hx1 hlt
    rw [List.take_length]
    generalize hF : others l i = F at *
    refine owns_clearFrom o (k := F.length) (by repeat (first | exact List.mem_cons_self | apply List.mem_cons_of_mem)) (by rw [numsV_len]; omega) rfl (by repeat (first | exact Rep.here | apply Rep.there)) fun H5 o => ?_
    have hpl : (putL (numsV x) F.length (List.replicate ((numsV x).length - F.length) (Value.int .i64 0))).length = l.length := by rw [putL_len, numsV_len, hxl]
    refine own_cutN (o.own (v := v) (by repeat (first | exact List.mem_cons_self | apply List.mem_cons_of_mem))) (by rw [hpl]; omega) fun y hy hby => ?_
    have e : (putL (numsV x) F.length (List.replicate ((numsV x).length - F.length) (Value.int .i64 0))).take F.length = numsV F := by
      have hsplit : numsV x = (numsV x).take F.length ++ (numsV x).drop F.length := (List.take_append_drop _ _).symm
      have hl1 : ((numsV x).take F.length).length = F.length := by rw [List.length_take, numsV_len]; omega
      have e2 := putL_mid (List.replicate ((numsV x).length - F.length) (Value.int .i64 0)) ((numsV x).take F.length) ((numsV x).drop F.length) (by rw [List.length_replicate, List.length_drop]; omega)
      rw [hl1, List.take_append_drop] at e2
      rw [e2, List.append_assoc, List.take_append_of_le_length (by omega), List.take_of_length_le (by omega), numsV_take, hx1]
    rw [e] at hy
    refine hk y H5 ?_
    exact o.turn (i' := .sl y 1 (numsV F)) Rep.here (Nat.le_refl _) (fun k _ _ => rfl) ⟨by decide, hy⟩ (fun k hk => .inl (by show blkOf v = some k; rw [← hby]; exact hk))
end Go.Proofs.Ytaopejkbnohiiaa
