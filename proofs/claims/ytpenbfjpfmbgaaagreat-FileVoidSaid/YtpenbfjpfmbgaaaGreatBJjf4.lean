/-
  Parts of the executor Sx over the model's code (any program), or of this seat's walks: words and proofs that the row's text uses.
-/
import Derived.Test.YtpenbfjpfmbgaaaGreatBJjf1
import Derived.Test.YtpenbfjpfmbgaaaGreatBJjf2
import Derived.Test.YtpenbfjpfmbgaaaGreatBJjf3
import Derived.Test.YtpenbfjpfmbgaaaGreatBJjfA
import Derived.Test.YtpenbfjpfmbgaaaGreatBJjfB
import Derived.Test.YtpenbfjpfmbgaaaGreatBJjfC
namespace Go.Proofs.YtpenbfjpfmbgaaaGreat
theorem jfc : joinedFacts Tryz.pinned.checked.prog 4 Tryz.f4 Rows.fileVoidSpec Rows.fileVoidRow = true :=
  joined_of jf1 jf2 jf3 jf4 jfA jfB jfC
end Go.Proofs.YtpenbfjpfmbgaaaGreat
