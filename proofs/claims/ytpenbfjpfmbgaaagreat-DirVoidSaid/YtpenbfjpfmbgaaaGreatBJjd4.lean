/-
  Parts of the executor Sx over the model's code (any program), or of this seat's walks: words and proofs that the row's text uses.
-/
import Derived.Test.YtpenbfjpfmbgaaaGreatBJjd1
import Derived.Test.YtpenbfjpfmbgaaaGreatBJjd2
import Derived.Test.YtpenbfjpfmbgaaaGreatBJjd3
import Derived.Test.YtpenbfjpfmbgaaaGreatBJjdA
import Derived.Test.YtpenbfjpfmbgaaaGreatBJjdB
import Derived.Test.YtpenbfjpfmbgaaaGreatBJjdC
namespace Go.Proofs.YtpenbfjpfmbgaaaGreat
theorem jdc : joinedFacts Tryz.pinned.checked.prog 3 Tryz.f3 Rows.dirVoidSpec Rows.dirVoidRow = true :=
  joined_of jd1 jd2 jd3 jd4 jdA jdB jdC
end Go.Proofs.YtpenbfjpfmbgaaaGreat
