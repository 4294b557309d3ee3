/-
  Parts of the executor Sx over the model's code (any program), or of this seat's walks: words and proofs that the row's text uses.
-/
import Derived.Test.YtiloinplnmnamaaGreatBJ
import Derived.KernelRfl
namespace Go.Proofs.YtiloinplnmnamaaGreat
theorem jv3 : (Rows.volVoidRow.recurses == Tryz.pinned.checked.prog.recurses 8) = true := by kernel_rfl
end Go.Proofs.YtiloinplnmnamaaGreat
