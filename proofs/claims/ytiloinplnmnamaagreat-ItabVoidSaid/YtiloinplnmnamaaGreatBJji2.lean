/-
  Parts of the executor Sx over the model's code (any program), or of this seat's walks: words and proofs that the row's text uses.
-/
import Derived.Test.YtiloinplnmnamaaGreatBJ
import Derived.KernelRfl
namespace Go.Proofs.YtiloinplnmnamaaGreat
theorem ji3 : (Rows.itabVoidRow.recurses == Tryz.pinned.checked.prog.recurses 3) = true := by kernel_rfl
end Go.Proofs.YtiloinplnmnamaaGreat
