import Derived.Test.YtfceckiklfkjkaaGreatS19
import Derived.KernelRfl
noncomputable section
open Go.Proofs Go.RowKit
open Go.Proofs.Tryz
namespace Go.Sx
theorem Iy:s7 prog WL true 1000 29 [] s0 (fun v _=>some v)=some (.one (.c (.bool true))):=by kernel_rfl
theorem Ks{s:S}(ht:cJ s):aU prog 29 [] s (.one (.c (.bool true))) s []:=ME afz (fun _ _ _ h=>by exact h) Iy ht
end Go.Sx
