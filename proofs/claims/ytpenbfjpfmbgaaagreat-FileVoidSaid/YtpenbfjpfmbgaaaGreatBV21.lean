/-
  Parts of the executor Sx over the model's code (any program), or of this seat's walks: words and proofs that the row's text uses.
-/
import Derived.Test.YtpenbfjpfmbgaaaGreatBQ21b
namespace Go.Sx
open Go.Proofs
noncomputable def sg21b : FuncId → Option Sum := fun f => match f with | 15 => some (cutSum2 cut15A cut15H1 cut15N1 cut15V cut15H2 cut15N2) | f => sg21 f
theorem sg21b_ok : SumOK Tryz.prog sg21b := by
  intro g sm h args s v hp nx lg ht hs
  unfold sg21b at h
  split at h
  · cases h; exact cutSum2_ok fit21 cut15_side cut15_run args s v hp nx lg ht hs
  · exact sg21_ok _ sm h args s v hp nx lg ht hs
theorem fit21b : Fit Tryz.prog sg21b := ⟨fit_ng, fit_mixed, sg21b_ok⟩
theorem works21_run : runF Tryz.prog sg21b true 1000 13 [] s0 (fun v _ => some v) = some (.one (.c (.bool true))) := by kernel_rfl
theorem works21 {s : S} (ht : Top s) : CallInfo Tryz.prog 13 [] s (.one (.c (.bool true))) s [] := runB_quiet fit21b (fun _ _ _ h => by exact h) ((runF_eq ..).symm.trans works21_run) ht
#print axioms works21
end Go.Sx
