/-
  Parts of the executor Sx over the model's code (any program), or of this seat's walks: words and proofs that the row's text uses.
-/
import Derived.Test.YtiloinplnmnamaaGreatBJ
import Derived.KernelRfl
namespace Go.Proofs.YtiloinplnmnamaaGreat
theorem ji1 : (Rows.itabVoidRow.inPlace == Tryz.pinned.checked.prog.inPlace 3) = true := by kernel_rfl
theorem ji2 : (Rows.itabVoidRow.unfollowed == Tryz.pinned.checked.prog.unfollowed 3) = true := by kernel_rfl
end Go.Proofs.YtiloinplnmnamaaGreat
