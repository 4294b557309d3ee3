/-
  Parts of the executor Sx over the model's code (any program), or of this seat's walks: words and proofs that the row's text uses.
-/
import Derived.Test.YtiloinplnmnamaaGreatBJ
import Derived.KernelRfl
namespace Go.Proofs.YtiloinplnmnamaaGreat
theorem jv1 : (Rows.volVoidRow.inPlace == Tryz.pinned.checked.prog.inPlace 8) = true := by kernel_rfl
theorem jv2 : (Rows.volVoidRow.unfollowed == Tryz.pinned.checked.prog.unfollowed 8) = true := by kernel_rfl
end Go.Proofs.YtiloinplnmnamaaGreat
