/- The seat's callable functions. -/
import Derived.Test.YtfmbgnchedhneaaVcSoundC
import Derived.Test.YtfmbgnchedhneaaProg
import Derived.KernelRfl
namespace Go.Proofs
open Go Go.Vc
def Try.C : List Nat := [2, 3, 4, 5, 6, 7, 8, 9, 10, 11, 12, 13, 14, 15, 16, 17]
theorem Try.mixed : Try.prog.follows .mixedOrders = true := by kernel_rfl
theorem Try.callable : Callable Try.prog Try.C := by
  intro f hf args w
  have hf := memb_iff.1 hf
  simp only [Try.C, List.mem_cons, List.not_mem_nil, or_false] at hf
  rcases hf with rfl | rfl | rfl | rfl | rfl | rfl | rfl | rfl | rfl | rfl | rfl | rfl | rfl | rfl | rfl | rfl <;> rfl
end Go.Proofs
