/- A log on a disk that is on, all of which lasts. -/
import Derived.Test.YtaopejkbnohiiaaWal
namespace Go.Proofs.Ytaopejkbnohiiaa
open Go Go.Vc Go.Proofs
set_option linter.unusedVariables false
set_option linter.unusedSimpArgs false
variable {H H0 : Heap} {R : Value → Heap → Prop} {v : Value} {L L' : List It} {b lb at_ k N : Nat} {M : Dk} {want : List UInt8} {bad : Bool}
theorem Dsk.swap18 (d : Dsk H0 H b M L) (s : SelsT L' L) : Dsk H0 H b M L' := by
  obtain ⟨lv, r, ov, lf, o, ok⟩ := d
  exact ⟨lv, r, ov, lf, o.perm ((((s.perm.cons _).cons _).cons _).cons _), ok⟩
/-- a log on a disk that is on, all of which lasts -/
structure WL (H0 H : Heap) (b lb at_ k N : Nat) (M : Dk) (want : List UInt8) (L : List It) : Prop where
  d : Dsk H0 H b M (logIt lb b at_ k want N false :: L)
  hr : at_ + k ≤ M.n
  hk : 2 ≤ k
  ho : M.off = false
  cs : M.cs = fun _ => none
  wf : WalF (noteAt M at_) k N want
  good : ∀ j, j < k → Good (M.la (at_ + j))
theorem noteAt_la (hcs : M.cs = fun _ => none) : noteAt M at_ = fun j => parse (M.la (at_ + j)) := by
  funext j
  unfold noteAt Dk.sec
  rw [hcs]; rfl
theorem put_flush_la (hcs : M.cs = fun _ => none) (i : Nat) (X : List UInt8) : (M.put i X).flush.la = fun j => if j = i then X else M.la j := by
  funext j
  show (updS M.cs i X j).getD (M.la j) = _
  unfold updS
  rw [hcs]
  split <;> rfl
theorem WL.put_ {s : List UInt8} (w : WL H0 H b lb at_ k N M want L) (hN : N ≤ 1000000) (hs : s.length ≤ 23) {H' : Heap} (d : Dsk H0 H' b (M.put (at_ + (N + 1) % k) (slotB (N + 1) s)).flush (logIt lb b at_ k s (N + 1) false :: L)) :
    WL H0 H' b lb at_ k (N + 1) (M.put (at_ + (N + 1) % k) (slotB (N + 1) s)).flush s L := by
  have hla := put_flush_la w.cs (at_ + (N + 1) % k) (slotB (N + 1) s)
  refine ⟨d, w.hr, w.hk, w.ho, rfl, ?_, fun j hj => ?_⟩
  · have e : noteAt (M.put (at_ + (N + 1) % k) (slotB (N + 1) s)).flush at_ = fun j => if j = (N + 1) % k then some (N + 1, s) else noteAt M at_ j := by
      rw [noteAt_la rfl, hla, noteAt_la w.cs]
      funext j
      by_cases hj : j = (N + 1) % k
      · rw [if_pos hj]
        show parse (if at_ + j = at_ + (N + 1) % k then slotB (N + 1) s else M.la (at_ + j)) = _
        rw [if_pos (by omega), parse_slot (by omega) (by omega) hs]
      · rw [if_neg hj]
        show parse (if at_ + j = at_ + (N + 1) % k then slotB (N + 1) s else M.la (at_ + j)) = _
        rw [if_neg (by omega)]
    rw [e]
    exact w.wf.put
  · rw [hla]
    show Good (if at_ + j = at_ + (N + 1) % k then slotB (N + 1) s else M.la (at_ + j))
    split
    · exact .inr ⟨N + 1, s, by omega, by omega, hs, rfl⟩
    · exact w.good j hj
theorem wl_open (d : Dsk H0 H b M L) (hk : 2 ≤ k) (hr : at_ + k ≤ M.n) (ho : M.off = false) (hcs : M.cs = fun _ => none) (wf : WalF (noteAt M at_) k N want) (hg : ∀ j, j < k → Good (M.la (at_ + j)))
    (h : ∀ H' lb, WL H0 H' b lb at_ k N M want L → R (.tuple #[ptr lb, .int .i64 0]) H') : CallsH Try.prog 9 #[ptr b, .int .i64 (at_ : Int), .int .i64 (k : Int)] H R := by
  have hmax := d.nmax
  refine open_spec18 (by omega) d ho (by omega) (fun hg => absurd (by omega) hg) fun _ _ _ H1 lb d => ?_
  rw [Int.toNat_natCast, Int.toNat_natCast, open_walF (by omega) wf] at d
  exact h H1 lb ⟨d, hr, hk, ho, hcs, wf, hg⟩
theorem wl_new {n : Nat} (d : Dsk H0 H b (Dk.new n) L) (hk : 2 ≤ k) (hr : at_ + k ≤ n)
    (h : ∀ H' lb, WL H0 H' b lb at_ k 0 (Dk.new n) [] L → R (.tuple #[ptr lb, .int .i64 0]) H') : CallsH Try.prog 9 #[ptr b, .int .i64 (at_ : Int), .int .i64 (k : Int)] H R := by
  have e : noteAt (Dk.new n) at_ = fun _ => none := by
    funext j
    exact parse_zero
  refine wl_open d hk hr rfl rfl ?_ (fun _ _ => .inl rfl) h
  rw [e]
  exact ⟨fun _ _ _ h => (by cases h), fun _ _ _ h => (by cases h), fun h => absurd h (by decide), fun _ => rfl⟩
theorem WL.note (w : WL H0 H b lb at_ k N M want L) (h : R (.tuple #[str want, .int .u64 (N : Int)]) H) : CallsH Try.prog 13 #[ptr lb] H R := note_spec w.d h
theorem WL.put {s : List UInt8} (w : WL H0 H b lb at_ k N M want L) (hN : N ≤ 1000000) (hs : s.length ≤ 23) (hf : M.fuse = none) (h : ∀ H', WL H0 H' b lb at_ k (N + 1) (M.put (at_ + (N + 1) % k) (slotB (N + 1) s)).flush s L → R (.int .i64 0) H') : CallsH Try.prog 10 #[ptr lb, str s] H R := by
  have := w.hk
  refine put_spec18 w.d w.ho (by omega) w.hr hN (fun g => by omega) (fun _ g => by cases g) (fun _ _ _ H1 d => ?_) (fun _ _ g => by rw [hf] at g; rcases g with g | g <;> cases g)
  exact h H1 (w.put_ hN hs d)
theorem WL.more {H' : Heap} (w : WL H0 H b lb at_ k N M want L) (hx : Ext H H') : WL H0 H' b lb at_ k N M want L := ⟨w.d.more' hx, w.hr, w.hk, w.ho, w.cs, w.wf, w.good⟩
end Go.Proofs.Ytaopejkbnohiiaa
