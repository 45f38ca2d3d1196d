/- The library's functions strings.Repeat, strings.Join and maps.Clone over heaps, from the shelf's contracts. -/
import Derived.Test.YtaopejkbnohiiaaShelf
import Derived.Test.YtaopejkbnohiiaaVcRow
import Derived.Test.YtaopejkbnohiiaaVcOwns
import Derived.Test.YtaopejkbnohiiaaStrs
namespace Go.Proofs.Ytaopejkbnohiiaa
-- only what is known
open Go Go.Vc Go.Proofs Go.RowKit
set_option linter.unusedVariables false
set_option linter.unusedSimpArgs false
variable {H : Heap} {R : Value → Heap → Prop} {v : Value}
/-- a contract that leaves alone what was there -/
theorem callsH_below {P : Program} {f : FuncId} {args : Array Value} {r : Value} (h : ∀ w : World, w.heap = H → Calls P f args w fun e w' => e = .returned r ∧ Below w.heap.size w w') (hk : ∀ H', Ext H H' → R r H') : CallsH P f args H R :=
  fun w hw => (h w hw).mono fun e w' ⟨he, hb⟩ => ⟨r, he, ⟨hb.os, hb.output⟩, hk _ ⟨by rw [← hw]; exact hb.size, fun k hk => by rw [← hw] at hk ⊢; exact hb.block k hk⟩⟩
theorem callsH_same {P : Program} {f : FuncId} {args : Array Value} {r : Value} (h : ∀ w : World, w.heap = H → Calls P f args w fun e w' => e = .returned r ∧ w' = w) (hk : R r H) : CallsH P f args H R :=
  fun w hw => (h w hw).mono fun e w' ⟨he, hb⟩ => ⟨r, he, by rw [hb]; exact Rest.refl w, by rw [hb, hw]; exact hk⟩
theorem repeat_spec {s : List UInt8} {c : Nat} (hc : c ≤ 9223372036854775807) (hlen : s.length * c ≤ 140737488355328) (hk : ∀ H', Ext H H' → R (str (Lib.repeatL s c)) H') : CallsH Try.prog 20 #[str s, .int .i64 (c : Int)] H R :=
  callsH_below (fun w hw => Try.strings_Repeat ⟨s.toArray⟩ c w hc (by show s.toArray.size * c ≤ _; rw [List.size_toArray]; exact hlen)) hk
theorem repeat_one (b : UInt8) : ∀ c, Lib.repeatL [b] c = List.replicate c b
  | 0 => rfl
  | c + 1 => by rw [Lib.repeatL, repeat_one b c]; rfl
end Go.Proofs.Ytaopejkbnohiiaa
