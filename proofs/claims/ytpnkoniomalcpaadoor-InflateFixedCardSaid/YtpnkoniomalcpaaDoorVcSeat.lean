/- The seat's callable functions. -/
import Derived.Test.YtpnkoniomalcpaaDoorVcSound
import Derived.Test.YtpnkoniomalcpaaDoorProg
import Derived.KernelRfl
namespace Go.Proofs
open Go Go.Vc
def Tryd.C : List Nat := [2, 3, 4, 5, 6, 7, 8, 9, 10, 11, 12, 13, 14, 15, 16, 17, 18, 19, 20, 21, 22, 23, 24, 25, 26, 27, 28, 29, 30, 31, 32, 33, 34, 35, 36, 37, 38, 39, 40, 41, 42, 43, 44, 45, 46, 47, 48, 49, 50, 51, 52, 53, 54, 55, 56, 57, 58, 59, 60, 61, 62, 63, 64, 65, 66, 67, 68, 69, 70, 71, 72, 73, 74, 75, 76, 77, 78, 79, 80, 81, 82, 83, 84, 85, 87, 88, 89, 90, 91, 92, 93, 94, 95, 96, 97, 98, 119]
theorem Tryd.mixed : Tryd.prog.follows .mixedOrders = true := by kernel_rfl
set_option maxRecDepth 100000 in
theorem Tryd.callable : Callable Tryd.prog Tryd.C := by
  have key : ∀ f ∈ Tryd.C, ∀ (args : Array Value) (w : World), (callFunc f args).run Tryd.prog w = .ok (.enter f args) w := by
    unfold Tryd.C
    repeat (refine List.forall_mem_cons.2 ⟨fun _ _ => rfl, ?_⟩)
    exact fun _ h => absurd h List.not_mem_nil
  exact fun f hf => key f (memb_iff.1 hf)
end Go.Proofs
