/- A keep's state as a note: plain laws. -/
import Derived.Test.YtdaolhlfngfmgaaWalN
namespace Go.Proofs.Ytdaolhlfngfmgaa
open Go Go.Vc Go.Proofs
set_option linter.unusedVariables false
set_option linter.unusedSimpArgs false
structure St where
  se : Nat
  ep : Nat
  sz : Nat
  su : Nat
  dn : Bool
structure StOk (s : St) : Prop where
  se : s.se < 4294967296
  ep : s.ep < 4294967296
  sz : s.sz ≤ 4194304
  su : s.su < 4294967296
def St.zero : St := ⟨0, 0, 0, 0, false⟩
def noteB (s : St) : List UInt8 := putN s.se 4 ++ putN s.ep 4 ++ putN s.sz 8 ++ putN s.su 4 ++ putN s.dn.toNat 1
theorem noteB_len (s : St) : (noteB s).length = 21 := by
  unfold noteB
  simp only [List.length_append, putN_len]
theorem part_app {a b c : List UInt8} {i n : Nat} (hi : a.length = i) (hn : b.length = n) : ((a ++ b ++ c).drop i).take n = b := by
  rw [List.append_assoc, List.drop_append_of_le_length (by omega), List.drop_of_length_le (by omega), List.nil_append, List.take_append_of_le_length (by omega), List.take_of_length_le (by omega)]
theorem note_se (s : St) : (noteB s).take 4 = putN s.se 4 := by
  have := part_app (a := []) (b := putN s.se 4) (c := putN s.ep 4 ++ putN s.sz 8 ++ putN s.su 4 ++ putN s.dn.toNat 1) (i := 0) (n := 4) rfl (putN_len _ _)
  simpa only [noteB, List.nil_append, List.append_assoc, List.drop_zero] using this
theorem note_ep (s : St) : ((noteB s).drop 4).take 4 = putN s.ep 4 := by
  have := part_app (a := putN s.se 4) (b := putN s.ep 4) (c := putN s.sz 8 ++ putN s.su 4 ++ putN s.dn.toNat 1) (i := 4) (n := 4) (putN_len _ _) (putN_len _ _)
  simpa only [noteB, List.append_assoc] using this
theorem note_sz (s : St) : ((noteB s).drop 8).take 8 = putN s.sz 8 := by
  have := part_app (a := putN s.se 4 ++ putN s.ep 4) (b := putN s.sz 8) (c := putN s.su 4 ++ putN s.dn.toNat 1) (i := 8) (n := 8) (by rw [List.length_append, putN_len, putN_len]) (putN_len _ _)
  simpa only [noteB, List.append_assoc] using this
theorem note_su (s : St) : ((noteB s).drop 16).take 4 = putN s.su 4 := by
  have := part_app (a := putN s.se 4 ++ putN s.ep 4 ++ putN s.sz 8) (b := putN s.su 4) (c := putN s.dn.toNat 1) (i := 16) (n := 4) (by simp only [List.length_append, putN_len]) (putN_len _ _)
  simpa only [noteB, List.append_assoc] using this
theorem note_dn (s : St) : (noteB s).getD 20 0 = UInt8.ofNat s.dn.toNat := by
  have e : noteB s = (putN s.se 4 ++ putN s.ep 4 ++ putN s.sz 8 ++ putN s.su 4) ++ [UInt8.ofNat (s.dn.toNat % 256)] := by
    unfold noteB
    rw [show putN s.dn.toNat 1 = [UInt8.ofNat (s.dn.toNat % 256)] from by rw [putN_cons]; rfl]
  rw [e, List.getD_eq_getElem?_getD, List.getElem?_append_right (by simp only [List.length_append, putN_len]; omega)]
  simp only [List.length_append, putN_len]
  cases s.dn <;> rfl
theorem getN4 {n : Nat} (h : n < 4294967296) : getN (putN n 4) = n := by
  rw [getN_putN]
  exact Nat.mod_eq_of_lt (by show n < 256 ^ 4; omega)
theorem getN8 {n : Nat} (h : n < 18446744073709551616) : getN (putN n 8) = n := by
  rw [getN_putN]
  exact Nat.mod_eq_of_lt (by show n < 256 ^ 8; omega)
end Go.Proofs.Ytdaolhlfngfmgaa
