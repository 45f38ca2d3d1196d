/- The seat's callable functions. -/
import Derived.Test.YtfmbgnchedhneaaDoorVcSoundC
import Derived.Test.YtfmbgnchedhneaaDoorProg
import Derived.KernelRfl
namespace Go.Proofs
open Go Go.Vc
def Tryd.C : List Nat := [2, 3, 4, 5, 6, 7, 8, 9, 10, 11, 12, 13, 14, 15, 16, 17, 18, 19, 20, 21, 22, 23, 24, 25, 26, 27, 28, 29, 30, 31, 32, 33, 34, 35, 36, 57]
theorem Tryd.mixed : Tryd.prog.follows .mixedOrders = true := by kernel_rfl
theorem Tryd.callable : Callable Tryd.prog Tryd.C := by
  intro f hf args w
  have hf := memb_iff.1 hf
  simp only [Tryd.C, List.mem_cons, List.not_mem_nil, or_false] at hf
  rcases hf with rfl | rfl | rfl | rfl | rfl | rfl | rfl | rfl | rfl | rfl | rfl | rfl | rfl | rfl | rfl | rfl | rfl | rfl | rfl | rfl | rfl | rfl | rfl | rfl | rfl | rfl | rfl | rfl | rfl | rfl | rfl | rfl | rfl | rfl | rfl | rfl <;> rfl
end Go.Proofs
