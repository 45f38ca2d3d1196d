/- Small steps of a disk in the heap. -/
import Derived.Test.YtaopejkbnohiiaaStageN
namespace Go.Proofs.Ytaopejkbnohiiaa
open Go Go.Vc Go.Proofs
set_option linter.unusedVariables false
set_option linter.unusedSimpArgs false
variable {H H0 : Heap} {R : Value → Heap → Prop} {v : Value} {L : List It} {b fb at_ n size : Nat} {M : Dk}
theorem Dsk.more' {H' : Heap} (d : Dsk H0 H b M L) (hx : Ext H H') : Dsk H0 H' b M L := by
  obtain ⟨lv, r, ov, lf, o, ok⟩ := d
  exact ⟨lv, r, ov, lf, o.more hx, ok⟩
theorem Dsk.secs (d : Dsk H0 H b M L) {j : Nat} (h : j < M.n) : (M.sec j).length = 64 := by
  obtain ⟨lv, r, ov, lf, o, ok⟩ := d
  exact sec_len ok h
theorem Dsk.nmax (d : Dsk H0 H b M L) : M.n ≤ 65536 := by
  obtain ⟨lv, r, ov, lf, o, ok⟩ := d
  exact ok.n2
theorem read_ok' {i : Nat} (hi : i < M.n) (ho : M.off = false) : M.read (i : Int) = (M.sec i, 0) := by
  have hr : M.ready (i : Int) = 0 := by
    unfold Dk.ready
    rw [if_neg (by rw [ho]; decide), if_pos (by omega)]
  unfold Dk.read
  rw [if_neg (by rw [hr]; decide), Int.toNat_natCast]
theorem write_on {i : Nat} {s : List UInt8} (hs : s.length = 64) (hi : i < M.n) (ho : M.off = false) : M.write (i : Int) s = if M.fuse = some 0 then (M.crash [], 14) else (M.put i s, 0) := by
  have hr : M.ready (i : Int) = 0 := by
    unfold Dk.ready
    rw [if_neg (by rw [ho]; decide), if_pos (by omega)]
  unfold Dk.write
  rw [if_neg (by omega), if_neg (by rw [hr]; decide), Int.toNat_natCast]
end Go.Proofs.Ytaopejkbnohiiaa
