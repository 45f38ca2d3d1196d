/- The seat's callable functions. -/
import Derived.Test.YtildpckmmkphcaaDoorVcSound
import Derived.Test.YtildpckmmkphcaaDoorProg
import Derived.KernelRfl
namespace Go.Proofs
open Go Go.Vc
def Tryd.C : List Nat := [2, 3, 4, 5, 6, 7, 8, 9, 10, 11, 12, 13, 14, 15, 16, 17, 37]
theorem Tryd.mixed : Tryd.prog.follows .mixedOrders = true := by kernel_rfl
set_option maxRecDepth 100000 in
theorem Tryd.callable : Callable Tryd.prog Tryd.C := by
  have key : ∀ f ∈ Tryd.C, ∀ (args : Array Value) (w : World), (callFunc f args).run Tryd.prog w = .ok (.enter f args) w := by
    unfold Tryd.C
    repeat (refine List.forall_mem_cons.2 ⟨fun _ _ => rfl, ?_⟩)
    exact fun _ h => absurd h List.not_mem_nil
  exact fun f hf => key f (memb_iff.1 hf)
end Go.Proofs
