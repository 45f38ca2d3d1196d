/- The decoder's strings.Builder, and the whole decoder, over heaps. -/
import Derived.Test.YtpnkoniomalcpaaDoorInf3
import Derived.Test.YtpnkoniomalcpaaDoorBldIn
import Derived.Test.YtpnkoniomalcpaaDoorResB
namespace Go.Proofs.YtpnkoniomalcpaaDoor
open Go Go.Vc Go.Proofs
set_option linter.unusedVariables false
set_option linter.unusedSimpArgs false
variable {H H0 : Heap} {R : Value → Heap → Prop} {v : Value} {B : List Bool} {L M : List It} {b : Nat} {q : List Value} {W out : List UInt8}
/-- a buffer of bytes that was made -/
def bufT (v : Value) (out : List UInt8) : Thing where
  foot k := blkOf v = some k
  holds H := (v = .slice none 0 0 ∧ out = []) ∨ (out ≠ [] ∧ ∃ (g cap : Nat) (sp : List Value) (fr : Nat × Nat), v = .slice (some ⟨g, 0, none⟩) out.length cap ∧ H[g]? = some (.cells (out.map byteV ++ sp).toArray 5 fr) ∧ Thawed fr cap ∧ out.length + sp.length = cap)
  frame := fun h hf => by
    rcases h with h | ⟨h0, g, cap, sp, fr, rfl, h1, h2⟩
    · exact .inl h
    · exact .inr ⟨h0, g, cap, sp, fr, rfl, (hf g rfl).trans h1, h2⟩
  lt := fun h hf => by
    rcases h with ⟨rfl, _⟩ | ⟨h0, g, cap, sp, fr, rfl, h1, h2⟩
    · simp [blkOf] at hf
    · simp only [blkOf, Option.some.injEq] at hf; subst hf; exact lt_of_blk h1
theorem bytes_one (l : List UInt8) : (l.map byteV).all oneCell = true := by simp [oneCell]
theorem buf_app {K : Value → Heap → Prop} {x : Value} {new : List UInt8} (o : Owns H0 H L) (hin : Sel (.thing (bufT v out)) L M) (hlen : lenV x = some new.length) (hcells : cellsOf H 1 x = some (new.map byteV)) (hsize : out.length + new.length ≤ 140737488355328)
    (hk : ∀ v' H', Owns H0 H' (.thing (bufT v' (out ++ new)) :: M) → K v' H') : pAppend H 5 1 1 [.int .u8 0] v x K := by
  have o1 := o.front hin
  have hh := o1.thing (T := bufT v out) List.mem_cons_self
  have key : ∀ v' H', H.size ≤ H'.size → (∀ k, k < H.size → blkOf v ≠ some k → H'[k]? = H[k]?) → (bufT v' (out ++ new)).holds H' → (∀ k, blkOf v' = some k → blkOf v = some k ∨ H.size ≤ k) → K v' H' :=
    fun v' H' h1 h2 h3 h4 => hk v' H' (o1.turn Rep.here h1 h2 h3 h4)
  rcases hh with ⟨rfl, rfl⟩ | ⟨h0, g, cap, sp, fr, rfl, hb, hf, hc⟩
  · simp only [pAppend, hlen, hcells]
    refine ⟨fun hle => ?_, fun hlt => ?_⟩
    · have : new = [] := List.length_eq_zero_iff.1 (by omega)
      subst this
      exact key _ H (Nat.le_refl _) (fun _ _ _ => rfl) (.inl ⟨rfl, rfl⟩) (fun k hk => .inl hk)
    · refine ⟨by simp at hsize; omega, ?_⟩
      simp only [cellsOf, List.nil_append]
      intro c hc
      refine key _ _ (by simp) (fun i hi _ => get_push_lt hi) (.inr ⟨by intro e; rw [List.append_eq_nil_iff] at e; rw [e.2] at hlt; simp at hlt, H.size, c, repL [.int .u8 0] (c - (0 + new.length)), (0, 0), by simp, ?_, .inl rfl, ?_⟩) (fun k hk => ?_)
      · exact get_push_self
      · rw [repL_len]; simp; omega
      · simp only [blkOf, Option.some.injEq] at hk; right; omega
  · simp only [pAppend, hlen, hcells]
    refine ⟨fun hle => ?_, fun hlt => ?_⟩
    · simp only [add_mk, Nat.zero_add, Nat.mul_one]
      have hsp : new.length ≤ sp.length := by omega
      rw [setsAt_thaw hf (new.map byteV) H out.length 0 (out.map byteV ++ sp) hb (bytes_one new) (by simp; omega) (by simp; omega)]
      simp only [Nat.add_zero]
      have hp := putL_mid (new.map byteV) (out.map byteV) sp (by simpa using hsp)
      rw [List.length_map] at hp
      rw [hp, List.length_map]
      refine key _ _ (by simp) (fun i hi hne => get_set_ne (by intro e; subst e; exact hne rfl)) (.inr ⟨by simp [h0], g, cap, sp.drop new.length, fr, by simp, ?_, hf, ?_⟩) (fun k hk => .inl hk)
      · rw [List.map_append]; exact get_set_self (lt_of_blk hb)
      · rw [List.length_append, List.length_drop]; omega
    · refine ⟨by omega, ?_⟩
      have hr : cellsOf H 1 (.slice (some ⟨g, 0, none⟩) out.length cap) = some (out.map byteV) := by
        have := (Own.sl (by decide) (.inr ⟨g, out.length, cap, sp, rfl, ⟨⟨_, fr, hb, by simpa using hf⟩, by simp, by simp; omega⟩⟩ : Own H (.slice (some ⟨g, 0, none⟩) out.length cap) 1 (out.map byteV))).cellsOf
        exact this
      rw [hr]
      intro c hc2
      refine key _ _ (by simp) (fun i hi _ => get_push_lt hi) (.inr ⟨by simp [h0], H.size, c, repL [.int .u8 0] (c - (out.length + new.length)), (0, 0), by simp, ?_, .inl rfl, ?_⟩) (fun k hk => ?_)
      · rw [List.map_append]; exact get_push_self
      · rw [repL_len, List.length_append]; simp; omega
      · simp only [blkOf, Option.some.injEq] at hk; right; omega
/-- a decoder at work: its cells behind the builder, what it told since it was fed -/
def Dc (H0 H : Heap) (b : Nat) (q : List Value) (B : List Bool) (W out : List UInt8) (L : List It) : Prop :=
  ∃ bp bv, (bp = .pointer none ∨ bp = at_ b 5) ∧ oneCell bv = true ∧ WinO H0 H b (bp :: bv :: q) 71 B W (.thing (bufT bv out) :: L)
/-- a decoder at rest -/
def Idle (H0 H : Heap) (b : Nat) (q : List Value) (B : List Bool) (W : List UInt8) (L : List It) : Prop :=
  ∃ bp bv, oneCell bp = true ∧ oneCell bv = true ∧ WinO H0 H b (bp :: bv :: q) 71 B W L
theorem pStore_setAt {K : Value → Heap → Prop} {a : Addr} {x : Value} (h : pStore H (.pointer (some a)) x K) : K undef (setAt H (a.add 0) x) := by
  simp only [pStore, setsAt] at h
  cases hc : cellAt H (a.add 0) with
  | none => simp only [hc] at h
  | some y =>
    simp only [hc] at h
    cases hq : frozenAt H (a.add 0) with
    | true => simp only [hq, cond_true] at h
    | false =>
      cases ho : oneCell x with
      | false => simp only [hq, ho, cond_false] at h
      | true => simpa only [hq, ho, cond_false, cond_true] using h
theorem copyCheck_spec {bp bv : Value} (hq : q.length = 7) (hbp : bp = .pointer none ∨ bp = at_ b 5) (w : WinO H0 H b (bp :: bv :: q) 71 B W L)
    (h : ∀ H', WinO H0 H' b (at_ b 5 :: bv :: q) 71 B W L → R (.tuple #[]) H') : CallsH Tryd.prog 66 #[at_ b 5] H R := by
  obtain ⟨rv, ring, hr, hs, o⟩ := id w
  obtain ⟨rest, acc, n, h1, -⟩ := o.thing (T := rdP b (rv :: i64 W.length :: bp :: bv :: q) 71 B) (by repeat (first | exact List.mem_cons_self | apply List.mem_cons_of_mem))
  intro wd hw
  subst hw
  have hc := Lib.cell_of_heap h1 5
  rcases hbp with rfl | rfl
  · have hst := w.ps (K := fun _ H' => R (.tuple #[]) H') (g := 5) (x := at_ b 5) (by decide) (by simp) rfl (fun H' w' => h H' w')
    have := pStore_setAt hst
    refine (Tryd.copyCheck_fresh b wd hc ?_ (Lib.frozen_of_heap h1 5)).mono fun e w' ⟨he, hw'⟩ => ⟨_, he, ?_, ?_⟩
    · simp [World.shape?, h1, hq]
    · subst hw'; exact ⟨rfl, rfl⟩
    · subst hw'; exact this
  · exact (Tryd.copyCheck_used b 5 wd hc).mono fun e w' ⟨he, hw'⟩ => ⟨_, he, by subst hw'; exact Rest.refl _, by subst hw'; exact h _ w⟩
theorem buf_one (o : Owns H0 H L) (h : It.thing (bufT v out) ∈ L) : oneCell v = true := by
  rcases o.thing h with ⟨rfl, _⟩ | ⟨_, _, _, _, _, rfl, _⟩ <;> rfl
theorem bwrite_core {x : Value} {new : List UInt8} {bv : Value} (hq : q.length = 7) (hn : out.length + new.length ≤ 140737488355328) (w : WinO H0 H b (at_ b 5 :: bv :: q) 71 B W (.thing (bufT bv out) :: L))
    (hlen : lenV x = some new.length) (hcells : cellsOf H 1 x = some (new.map byteV)) (h : ∀ H', Dc H0 H' b q B W (out ++ new) L → R undef H') :
    pNil (at_ b 5) fun x10 => pFieldAddr 1 x10 fun x11 => pLoad H x11 fun x12 => pAppend H 5 1 1 [(.int .u8 0)] x12 x fun x14 H_2 => pNil (at_ b 5) fun x15 => pFieldAddr 1 x15 fun x16 => pStore H_2 x16 x14 R := by
  rw [pNil_v, pFieldAddr_v, add_mk]
  refine w.pl (g := 5 + 1) (x := bv) (by decide) rfl ?_
  obtain ⟨rv, ring, hr, hs, o⟩ := w.slow
  refine buf_app o (by repeat (first | exact Sel.here | apply Sel.there)) hlen hcells hn fun v' H2 o => ?_
  have h1 := buf_one o (by repeat (first | exact List.mem_cons_self | apply List.mem_cons_of_mem))
  have w := WinO.fast hr hs o
  rw [pNil_v, pFieldAddr_v, add_mk]
  refine w.ps (g := 5 + 1) (by decide) (by simp) h1 fun H3 w => ?_
  exact h H3 ⟨_, v', .inr rfl, h1, w⟩
theorem bwriteS7 {s : List UInt8} (hq : q.length = 7) (hs : out.length + s.length ≤ 140737488355328) (d : Dc H0 H b q B W out L) (h : ∀ H', Dc H0 H' b q B W (out ++ s) L → R (.tuple #[i64 s.length, .nilIface]) H') : CallsH Tryd.prog 51 #[at_ b 5, str s] H R := by
  obtain ⟨bp, bv, hbp, hbv, w⟩ := d
  refine strings_Builder_WriteString.vc _ _ _ _ ?_
  unfold strings_Builder_WriteString.res
  refine copyCheck_spec hq hbp w fun H1 w => ?_
  refine bwrite_core (x := str s) (new := s) hq hs w (by simp [lenV, bys_mk]) (by simp [cellsOf, bys_mk]) fun H2 d => ?_
  refine pLenS_to ?_
  exact h H2 d
theorem bwriteB7 {x : UInt8} (hq : q.length = 7) (hs : out.length + 1 ≤ 140737488355328) (d : Dc H0 H b q B W out L) (h : ∀ H', Dc H0 H' b q B W (out ++ [x]) L → R .nilIface H') : CallsH Tryd.prog 56 #[at_ b 5, byteV x] H R := by
  obtain ⟨bp, bv, hbp, hbv, w⟩ := d
  refine strings_Builder_WriteByte.vc _ _ _ _ ?_
  unfold strings_Builder_WriteByte.res
  refine copyCheck_spec hq hbp w fun H1 w => ?_
  rw [pNil_v, pFieldAddr_v, add_mk]
  refine w.pl (g := 5 + 1) (x := bv) (by decide) rfl ?_
  obtain ⟨rv, ring, hr, hs2, o⟩ := w.slow
  refine o.build1 (sz := 1) (by decide) rfl rfl fun y H2 o => ?_
  have hS := o.sl (v := y) (by repeat (first | exact List.mem_cons_self | apply List.mem_cons_of_mem))
  refine buf_app (new := [x]) o (by repeat (first | exact Sel.here | apply Sel.there)) (hS.lenV (n := 1) rfl (by decide)) hS.cellsOf hs fun v' H2 o => ?_
  have h1 := buf_one o (by repeat (first | exact List.mem_cons_self | apply List.mem_cons_of_mem))
  have w := WinO.fast hr hs2 o.drop2
  rw [pNil_v, pFieldAddr_v, add_mk]
  refine w.ps (g := 5 + 1) (by decide) (by simp) h1 fun H3 w => ?_
  exact h H3 ⟨_, v', .inr rfl, h1, w⟩
theorem breset7 (hq : q.length = 7) (d : Idle H0 H b q B W L) (h : ∀ H', Dc H0 H' b q B W [] L → R (.tuple #[]) H') : CallsH Tryd.prog 30 #[at_ b 5] H R := by
  obtain ⟨bp, bv, hbp, hbv, w⟩ := d
  refine strings_Builder_Reset.vc _ _ _ ?_
  unfold strings_Builder_Reset.res
  rw [pNil_v, pFieldAddr_v, add_mk]
  refine w.ps (g := 5 + 0) (by decide) (by simp) rfl fun H1 w => ?_
  rw [pNil_v, pFieldAddr_v, add_mk]
  refine w.ps (g := 5 + 1) (by decide) (by simp) rfl fun H2 w => ?_
  refine h H2 ⟨.pointer none, .slice none 0 0, .inl rfl, rfl, ?_⟩
  obtain ⟨rv, ring, hr, hs, o⟩ := w
  refine WinO.fast (rv := rv) hr hs ?_
  exact o.add (Ext.refl _) (i := .thing (bufT (.slice none 0 0) [])) (.inl ⟨rfl, rfl⟩) (by intro k hk; simp [It.foot, bufT, blkOf] at hk)
def noneT : Thing where
  foot _ := False
  holds _ := True
  frame := fun _ _ => trivial
  lt := fun _ h => h.elim
theorem bstring7 (hq : q.length = 7) (hs : out.length ≤ 140737488355328) (d : Dc H0 H b q B W out L) (h : ∀ H', Idle H0 H' b q B W L → R (str out) H') : CallsH Tryd.prog 32 #[at_ b 5] H R := by
  obtain ⟨bp, bv, hbp, hbv, w⟩ := d
  have hbp1 : oneCell bp = true := by rcases hbp with rfl | rfl <;> rfl
  obtain ⟨rv, ring, hr, hs2, o⟩ := w.slow
  obtain ⟨rest, acc, n, h1, -⟩ := o.thing (T := rdP b (rv :: i64 W.length :: bp :: bv :: q) 71 B) (by repeat (first | exact List.mem_cons_self | apply List.mem_cons_of_mem))
  intro wd hw
  subst hw
  have hc : wd.cell? ⟨b, 6, none⟩ = some bv := Lib.cell_of_heap h1 6
  rcases o.thing (T := bufT bv out) (by repeat (first | exact List.mem_cons_self | apply List.mem_cons_of_mem)) with ⟨rfl, rfl⟩ | ⟨h0, g, cap, sp, fr, rfl, hg, hf, hcap⟩
  · refine (Tryd.String_nil b wd hc).mono fun e w' ⟨he, hw'⟩ => ⟨_, he, by subst hw'; exact ⟨rfl, rfl⟩, ?_⟩
    subst hw'
    exact h _ ⟨bp, _, hbp1, rfl, rv, ring, hr, hs2, o.pick (List.sublist_cons_self _ _)⟩
  · have hl0 : out.length ≠ 0 := by simpa using h0
    have hfz : (wd.drew.freeze ⟨g, 0, none⟩ out.length).heap = wd.heap.modify g fun
        | .cells c elem (lo, hi) => .cells c elem (if lo == hi then (0, 0 + out.length) else (min lo 0, max hi (0 + out.length)))
        | o => o := by
      unfold World.freeze
      rw [if_neg hl0]
      rfl
    refine (Tryd.String_some b g cap _ fr out wd hc hg h0 (by omega) (by omega) (by simp) ?_).mono fun e w' ⟨he, hw'⟩ => ⟨_, he, ?_, ?_⟩
    · intro j x hx
      have hj := (List.getElem?_eq_some_iff.1 hx).1
      rw [List.getElem?_toArray, List.getElem?_append_left (by simpa using hj), List.getElem?_map, hx]; rfl
    · subst hw'
      unfold World.freeze
      rw [if_neg hl0]
      exact ⟨rfl, rfl⟩
    · subst hw'
      have o2 : Owns H0 (wd.drew.freeze ⟨g, 0, none⟩ out.length).heap (.thing noneT :: rdI b (rv :: i64 W.length :: bp :: .slice (some ⟨g, 0, none⟩) out.length cap :: q) 71 B :: .sl rv 1 (ring.map byteV) :: L) := by
        rw [hfz]
        refine o.turn Rep.here (by simp) (fun k hk hne => ?_) trivial (fun k hk => hk.elim)
        rw [Array.getElem?_modify, if_neg]
        intro e
        exact hne (by simp [It.foot, bufT, blkOf, e])
      exact h _ ⟨bp, _, hbp1, rfl, rv, ring, hr, hs2, o2.pick (List.sublist_cons_self _ _)⟩
end Go.Proofs.YtpnkoniomalcpaaDoor
