/-
  Parts of the executor Sx over the model's code (any program), or of this seat's walks: words and proofs that the row's text uses.
-/
import Derived.Test.YtiloinplnmnamaaGreatBJ
import Derived.KernelRfl
namespace Go.Proofs.YtiloinplnmnamaaGreat
theorem jiB : factsB Tryz.pinned.checked.prog Tryz.f3 Rows.itabVoidSpec Rows.itabVoidRow = true := by kernel_rfl
end Go.Proofs.YtiloinplnmnamaaGreat
