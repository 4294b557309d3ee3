/-
  Parts of the executor Sx over the model's code (any program), or of this seat's walks: words and proofs that the row's text uses.
-/
import Derived.Test.YtfceckiklfkjkaaGreatRows
import Derived.Test.YtfceckiklfkjkaaGreatChecked
import Derived.JoinedOf
import Derived.KernelRfl
namespace Go.Proofs.YtfceckiklfkjkaaGreat
theorem jf : joinedFacts Tryz.pinned.checked.prog 3 Tryz.f3 Rows.fieldsPlaysSpec Rows.fieldsPlaysRow = true := by kernel_rfl
end Go.Proofs.YtfceckiklfkjkaaGreat
