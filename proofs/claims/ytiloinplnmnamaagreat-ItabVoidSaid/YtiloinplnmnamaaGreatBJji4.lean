/-
  Parts of the executor Sx over the model's code (any program), or of this seat's walks: words and proofs that the row's text uses.
-/
import Derived.Test.YtiloinplnmnamaaGreatBJji1
import Derived.Test.YtiloinplnmnamaaGreatBJji2
import Derived.Test.YtiloinplnmnamaaGreatBJji3
import Derived.Test.YtiloinplnmnamaaGreatBJjiA
import Derived.Test.YtiloinplnmnamaaGreatBJjiB
import Derived.Test.YtiloinplnmnamaaGreatBJjiC
namespace Go.Proofs.YtiloinplnmnamaaGreat
theorem jic : joinedFacts Tryz.pinned.checked.prog 3 Tryz.f3 Rows.itabVoidSpec Rows.itabVoidRow = true :=
  joined_of ji1 ji2 ji3 ji4 jiA jiB jiC
end Go.Proofs.YtiloinplnmnamaaGreat
