/-
  Parts of the executor Sx over the model's code (any program), or of this seat's walks: words and proofs that the row's text uses.
-/
import Derived.Test.YtiloinplnmnamaaGreatBJjv1
import Derived.Test.YtiloinplnmnamaaGreatBJjv2
import Derived.Test.YtiloinplnmnamaaGreatBJjv3
import Derived.Test.YtiloinplnmnamaaGreatBJjvA
import Derived.Test.YtiloinplnmnamaaGreatBJjvB
import Derived.Test.YtiloinplnmnamaaGreatBJjvC
namespace Go.Proofs.YtiloinplnmnamaaGreat
theorem jvc : joinedFacts Tryz.pinned.checked.prog 8 Tryz.f8 Rows.volVoidSpec Rows.volVoidRow = true :=
  joined_of jv1 jv2 jv3 jv4 jvA jvB jvC
end Go.Proofs.YtiloinplnmnamaaGreat
