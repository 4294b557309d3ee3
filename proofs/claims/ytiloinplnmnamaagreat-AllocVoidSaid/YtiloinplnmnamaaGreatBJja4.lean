/-
  Parts of the executor Sx over the model's code (any program), or of this seat's walks: words and proofs that the row's text uses.
-/
import Derived.Test.YtiloinplnmnamaaGreatBJja1
import Derived.Test.YtiloinplnmnamaaGreatBJja2
import Derived.Test.YtiloinplnmnamaaGreatBJja3
import Derived.Test.YtiloinplnmnamaaGreatBJjaA
import Derived.Test.YtiloinplnmnamaaGreatBJjaB
import Derived.Test.YtiloinplnmnamaaGreatBJjaC
namespace Go.Proofs.YtiloinplnmnamaaGreat
theorem jac : joinedFacts Tryz.pinned.checked.prog 4 Tryz.f4 Rows.allocVoidSpec Rows.allocVoidRow = true :=
  joined_of ja1 ja2 ja3 ja4 jaA jaB jaC
end Go.Proofs.YtiloinplnmnamaaGreat
