/-
  Parts of the executor Sx over the model's code (any program), or of this seat's walks: words and proofs that the row's text uses.
-/
import Derived.Test.YtfceckiklfkjkaaGreatF10
namespace Go.Sx
open Go.Proofs Go.RowKit
/-- a pointer behind: kept where its size needs it and its sector is one of data -/
def kp (a b c : Int) (need : Bool) (d : Int) : Int := if need && rawB a b c d then d else 0
end Go.Sx

namespace Go.Sx
open Go.Proofs Go.RowKit
end Go.Sx
