import Derived.Test.YtfceckiklfkjkaaGreatRows
import Derived.Test.YtfceckiklfkjkaaGreatChecked
import Derived.JoinedOf
import Derived.KernelRfl
noncomputable section
namespace Go.Proofs.YtfceckiklfkjkaaGreat
theorem jf:joinedFacts Tryz.pinned.checked.prog 9 Tryz.f9 Rows.linksOnceSpec Rows.linksOnceRow=true:=by kernel_rfl
end Go.Proofs.YtfceckiklfkjkaaGreat
