/-
  No cell of these rows narrows 'for every input' (looked for: loops, veiled, ifaces, maps, wideKeys, modest, calm, conditions, laid).
  DERIVED. THE GIVEN ROWS OF THIS SEAT. 11 by the template 'for every input the law returns true; each argument reads behind the call as it read before'; 0 by the template 'total and deterministic' (their statements: YtiloinplnmnamaaGreatTotals.lean).
  GIVEN WITH THE SEED: the statements are not yours to turn. If you find one false, say at which input.
  Laid BY PROGRAM, IN A SANDBOX (cutbox-rows.mjs): the forced cells as the released guide's own fill.sh prints them over the translation 5c5d21221de5131e… (all of the seat's roots in one cut). By AI agents, Wed Nov 11 2026. No macro, syntax, notation, axiom, sorry.
-/
import Derived.Test.YtiloinplnmnamaaGreatChecked
import GoSem.Claim
import GoSem.ClaimJoined
import GoSem.ClaimMapViews
import Derived.JoinedTies
import Derived.KernelRfl
namespace Go.Proofs.YtiloinplnmnamaaGreat
/- THE CELL 'sum', in the pinned program and in every row, IS THE sha256 OF THE DUMP (.gsa) THAT YtiloinplnmnamaaGreatProg.lean LOADS. Nothing in Lean hashes anything: it is a label: what it is worth is what the hold of that sum in a sandbox is worth. -/
noncomputable def Tryz.pinned : Pinned := { name := "ytiloinplnmnamaagreat", sum := "5c5d21221de5131e5a1711af2e2cd37b7e1add278524a25970e326374727a946", checked := Tryz.checked }
namespace Rows
def none {H : Type} : Left H := { results := [], args := [] }

/-- 'scupperlaw19.ItabVoid': WHATEVER THE INPUT: true; the input reads as it did. -/
def itabVoidSpec : ChangeSpec := { name := "itabVoid", fn := fun _ => fun
  | [d1, d2] => { results := [.lit (.bool true)], args := [d1, d2] }
  | _ => none }
def itabVoidRow : OpenClaim := { program := "ytiloinplnmnamaagreat", sum := "5c5d21221de5131e5a1711af2e2cd37b7e1add278524a25970e326374727a946", func := "scupper/scupperlaw19.ItabVoid", spec := "itabVoid", inPlace := ["slices.overlaps[int]"], unfollowed := true, recurses := true, plainKeys := false, apart := false }
def ItabVoidSaid : Prop := itabVoidRow.holds Tryz.pinned (OpenSpec.ofChange itabVoidSpec)

/-- ITS FALSE NEIGHBOUR: 'it returns false'. Refute it at one input. -/
def itabVoidWrong : ChangeSpec := { name := "itabVoid", fn := fun _ => fun
  | [d1, d2] => { results := [.lit (.bool false)], args := [d1, d2] }
  | _ => none }
def ItabVoidWrongFalsely : Prop := itabVoidRow.holds Tryz.pinned (OpenSpec.ofChange itabVoidWrong)

/-- 'scupperlaw18.AllocVoid': WHATEVER THE INPUT: true; the input reads as it did. -/
def allocVoidSpec : ChangeSpec := { name := "allocVoid", fn := fun _ => fun
  | [d] => { results := [.lit (.bool true)], args := [d] }
  | _ => none }
def allocVoidRow : OpenClaim := { program := "ytiloinplnmnamaagreat", sum := "5c5d21221de5131e5a1711af2e2cd37b7e1add278524a25970e326374727a946", func := "scupper/scupperlaw18.AllocVoid", spec := "allocVoid", inPlace := ["slices.overlaps[int]"], unfollowed := true, recurses := true, plainKeys := false, apart := false }
def AllocVoidSaid : Prop := allocVoidRow.holds Tryz.pinned (OpenSpec.ofChange allocVoidSpec)

/-- ITS FALSE NEIGHBOUR: 'it returns false'. Refute it at one input. -/
def allocVoidWrong : ChangeSpec := { name := "allocVoid", fn := fun _ => fun
  | [d] => { results := [.lit (.bool false)], args := [d] }
  | _ => none }
def AllocVoidWrongFalsely : Prop := allocVoidRow.holds Tryz.pinned (OpenSpec.ofChange allocVoidWrong)

/-- 'scupperlaw17.VolMakes': WHATEVER THE INPUT: true; the input reads as it did. -/
def volMakesSpec : ChangeSpec := { name := "volMakes", fn := fun _ => fun
  | [d1, d2, d3, d4] => { results := [.lit (.bool true)], args := [d1, d2, d3, d4] }
  | _ => none }
def volMakesRow : OpenClaim := { program := "ytiloinplnmnamaagreat", sum := "5c5d21221de5131e5a1711af2e2cd37b7e1add278524a25970e326374727a946", func := "scupper/scupperlaw17.VolMakes", spec := "volMakes", inPlace := ["slices.overlaps[int]"], unfollowed := true, recurses := true, plainKeys := false, apart := false }
def VolMakesSaid : Prop := volMakesRow.holds Tryz.pinned (OpenSpec.ofChange volMakesSpec)

/-- ITS FALSE NEIGHBOUR: 'it returns false'. Refute it at one input. -/
def volMakesWrong : ChangeSpec := { name := "volMakes", fn := fun _ => fun
  | [d1, d2, d3, d4] => { results := [.lit (.bool false)], args := [d1, d2, d3, d4] }
  | _ => none }
def VolMakesWrongFalsely : Prop := volMakesRow.holds Tryz.pinned (OpenSpec.ofChange volMakesWrong)

/-- 'scupperlaw17.VolNow': WHATEVER THE INPUT: true; the input reads as it did. -/
def volNowSpec : ChangeSpec := { name := "volNow", fn := fun _ => fun
  | [d1, d2] => { results := [.lit (.bool true)], args := [d1, d2] }
  | _ => none }
def volNowRow : OpenClaim := { program := "ytiloinplnmnamaagreat", sum := "5c5d21221de5131e5a1711af2e2cd37b7e1add278524a25970e326374727a946", func := "scupper/scupperlaw17.VolNow", spec := "volNow", inPlace := ["slices.overlaps[int]"], unfollowed := true, recurses := true, plainKeys := false, apart := false }
def VolNowSaid : Prop := volNowRow.holds Tryz.pinned (OpenSpec.ofChange volNowSpec)

/-- ITS FALSE NEIGHBOUR: 'it returns false'. Refute it at one input. -/
def volNowWrong : ChangeSpec := { name := "volNow", fn := fun _ => fun
  | [d1, d2] => { results := [.lit (.bool false)], args := [d1, d2] }
  | _ => none }
def VolNowWrongFalsely : Prop := volNowRow.holds Tryz.pinned (OpenSpec.ofChange volNowWrong)

/-- 'scupperlaw17.VolAll': WHATEVER THE INPUT: true; the input reads as it did. -/
def volAllSpec : ChangeSpec := { name := "volAll", fn := fun _ => fun
  | [d1, d2] => { results := [.lit (.bool true)], args := [d1, d2] }
  | _ => none }
def volAllRow : OpenClaim := { program := "ytiloinplnmnamaagreat", sum := "5c5d21221de5131e5a1711af2e2cd37b7e1add278524a25970e326374727a946", func := "scupper/scupperlaw17.VolAll", spec := "volAll", inPlace := ["slices.overlaps[int]"], unfollowed := true, recurses := true, plainKeys := false, apart := false }
def VolAllSaid : Prop := volAllRow.holds Tryz.pinned (OpenSpec.ofChange volAllSpec)

/-- ITS FALSE NEIGHBOUR: 'it returns false'. Refute it at one input. -/
def volAllWrong : ChangeSpec := { name := "volAll", fn := fun _ => fun
  | [d1, d2] => { results := [.lit (.bool false)], args := [d1, d2] }
  | _ => none }
def VolAllWrongFalsely : Prop := volAllRow.holds Tryz.pinned (OpenSpec.ofChange volAllWrong)

/-- 'scupperlaw17.VolVoid': WHATEVER THE INPUT: true; the input reads as it did. -/
def volVoidSpec : ChangeSpec := { name := "volVoid", fn := fun _ => fun
  | [d] => { results := [.lit (.bool true)], args := [d] }
  | _ => none }
def volVoidRow : OpenClaim := { program := "ytiloinplnmnamaagreat", sum := "5c5d21221de5131e5a1711af2e2cd37b7e1add278524a25970e326374727a946", func := "scupper/scupperlaw17.VolVoid", spec := "volVoid", inPlace := ["slices.overlaps[int]"], unfollowed := true, recurses := true, plainKeys := false, apart := false }
def VolVoidSaid : Prop := volVoidRow.holds Tryz.pinned (OpenSpec.ofChange volVoidSpec)

/-- ITS FALSE NEIGHBOUR: 'it returns false'. Refute it at one input. -/
def volVoidWrong : ChangeSpec := { name := "volVoid", fn := fun _ => fun
  | [d] => { results := [.lit (.bool false)], args := [d] }
  | _ => none }
def VolVoidWrongFalsely : Prop := volVoidRow.holds Tryz.pinned (OpenSpec.ofChange volVoidWrong)

/-- 'scupperlaw19.ItabSet': WHATEVER THE INPUT: true; the input reads as it did. -/
def itabSetSpec : ChangeSpec := { name := "itabSet", fn := fun _ => fun
  | [d1, d2, d3, d4] => { results := [.lit (.bool true)], args := [d1, d2, d3, d4] }
  | _ => none }
def itabSetRow : OpenClaim := { program := "ytiloinplnmnamaagreat", sum := "5c5d21221de5131e5a1711af2e2cd37b7e1add278524a25970e326374727a946", func := "scupper/scupperlaw19.ItabSet", spec := "itabSet", inPlace := ["slices.overlaps[int]"], unfollowed := true, recurses := true, plainKeys := false, apart := false }
def ItabSetSaid : Prop := itabSetRow.holds Tryz.pinned (OpenSpec.ofChange itabSetSpec)

/-- ITS FALSE NEIGHBOUR: 'it returns false'. Refute it at one input. -/
def itabSetWrong : ChangeSpec := { name := "itabSet", fn := fun _ => fun
  | [d1, d2, d3, d4] => { results := [.lit (.bool false)], args := [d1, d2, d3, d4] }
  | _ => none }
def ItabSetWrongFalsely : Prop := itabSetRow.holds Tryz.pinned (OpenSpec.ofChange itabSetWrong)

/-- 'scupperlaw18.AllocOne': WHATEVER THE INPUT: true; the input reads as it did. -/
def allocOneSpec : ChangeSpec := { name := "allocOne", fn := fun _ => fun
  | [d1, d2, d3, d4] => { results := [.lit (.bool true)], args := [d1, d2, d3, d4] }
  | _ => none }
def allocOneRow : OpenClaim := { program := "ytiloinplnmnamaagreat", sum := "5c5d21221de5131e5a1711af2e2cd37b7e1add278524a25970e326374727a946", func := "scupper/scupperlaw18.AllocOne", spec := "allocOne", inPlace := ["slices.overlaps[int]"], unfollowed := true, recurses := true, plainKeys := false, apart := false }
def AllocOneSaid : Prop := allocOneRow.holds Tryz.pinned (OpenSpec.ofChange allocOneSpec)

/-- ITS FALSE NEIGHBOUR: 'it returns false'. Refute it at one input. -/
def allocOneWrong : ChangeSpec := { name := "allocOne", fn := fun _ => fun
  | [d1, d2, d3, d4] => { results := [.lit (.bool false)], args := [d1, d2, d3, d4] }
  | _ => none }
def AllocOneWrongFalsely : Prop := allocOneRow.holds Tryz.pinned (OpenSpec.ofChange allocOneWrong)

/-- 'scupperlaw18.AllocCounts': WHATEVER THE INPUT: true; the input reads as it did. -/
def allocCountsSpec : ChangeSpec := { name := "allocCounts", fn := fun _ => fun
  | [d1, d2] => { results := [.lit (.bool true)], args := [d1, d2] }
  | _ => none }
def allocCountsRow : OpenClaim := { program := "ytiloinplnmnamaagreat", sum := "5c5d21221de5131e5a1711af2e2cd37b7e1add278524a25970e326374727a946", func := "scupper/scupperlaw18.AllocCounts", spec := "allocCounts", inPlace := ["slices.overlaps[int]"], unfollowed := true, recurses := true, plainKeys := false, apart := false }
def AllocCountsSaid : Prop := allocCountsRow.holds Tryz.pinned (OpenSpec.ofChange allocCountsSpec)

/-- ITS FALSE NEIGHBOUR: 'it returns false'. Refute it at one input. -/
def allocCountsWrong : ChangeSpec := { name := "allocCounts", fn := fun _ => fun
  | [d1, d2] => { results := [.lit (.bool false)], args := [d1, d2] }
  | _ => none }
def AllocCountsWrongFalsely : Prop := allocCountsRow.holds Tryz.pinned (OpenSpec.ofChange allocCountsWrong)

/-- 'scupperlaw22.DirVoid': WHATEVER THE INPUT: true; the input reads as it did. -/
def dirVoidSpec : ChangeSpec := { name := "dirVoid", fn := fun _ => fun
  | [d1, d2] => { results := [.lit (.bool true)], args := [d1, d2] }
  | _ => none }
def dirVoidRow : OpenClaim := { program := "ytiloinplnmnamaagreat", sum := "5c5d21221de5131e5a1711af2e2cd37b7e1add278524a25970e326374727a946", func := "scupper/scupperlaw22.DirVoid", spec := "dirVoid", inPlace := ["slices.overlaps[int]"], unfollowed := true, recurses := true, plainKeys := false, apart := false }
def DirVoidSaid : Prop := dirVoidRow.holds Tryz.pinned (OpenSpec.ofChange dirVoidSpec)

/-- ITS FALSE NEIGHBOUR: 'it returns false'. Refute it at one input. -/
def dirVoidWrong : ChangeSpec := { name := "dirVoid", fn := fun _ => fun
  | [d1, d2] => { results := [.lit (.bool false)], args := [d1, d2] }
  | _ => none }
def DirVoidWrongFalsely : Prop := dirVoidRow.holds Tryz.pinned (OpenSpec.ofChange dirVoidWrong)

/-- 'scupperlaw21.FileVoid': WHATEVER THE INPUT: true; the input reads as it did. -/
def fileVoidSpec : ChangeSpec := { name := "fileVoid", fn := fun _ => fun
  | [d1, d2] => { results := [.lit (.bool true)], args := [d1, d2] }
  | _ => none }
def fileVoidRow : OpenClaim := { program := "ytiloinplnmnamaagreat", sum := "5c5d21221de5131e5a1711af2e2cd37b7e1add278524a25970e326374727a946", func := "scupper/scupperlaw21.FileVoid", spec := "fileVoid", inPlace := ["slices.overlaps[int]"], unfollowed := true, recurses := true, plainKeys := false, apart := false }
def FileVoidSaid : Prop := fileVoidRow.holds Tryz.pinned (OpenSpec.ofChange fileVoidSpec)

/-- ITS FALSE NEIGHBOUR: 'it returns false'. Refute it at one input. -/
def fileVoidWrong : ChangeSpec := { name := "fileVoid", fn := fun _ => fun
  | [d1, d2] => { results := [.lit (.bool false)], args := [d1, d2] }
  | _ => none }
def FileVoidWrongFalsely : Prop := fileVoidRow.holds Tryz.pinned (OpenSpec.ofChange fileVoidWrong)

/- THE SECOND FORM. 'bulk': how many values and letters a reading holds, each counted each time it is reached (what is shared counts as often as it is met; a slice's spare places count too). A statement '..UptoSaid' is the law's where the arguments, and the package variables that the reading takes, are together of bulk at most 1048576: NARROWER than '..Said'. Prove '..Said' where nothing that the law and all that it calls make is longer than what came in: it says more and counts as full. Else prove '..UptoSaid'. A law counts once. -/
mutual
def uptoBulk {H : Type} : DataW H → Nat
  | .lit (.string bytes) => bytes.length + 1
  | .lit _ => 1
  | .nil => 1
  | .ptr d => uptoBulk d + 1
  | .slice elems spare => uptoBulkAll elems + uptoBulkAll spare + 1
  | .agg parts => uptoBulkAll parts + 1
  | .iface _ d => uptoBulk d + 1
  | .map entries => uptoBulkEntries entries + 1
  | .held _ => 1
def uptoBulkAll {H : Type} : List (DataW H) → Nat
  | [] => 0
  | d :: r => uptoBulk d + uptoBulkAll r
def uptoBulkEntries {H : Type} : List (Lit × DataW H) → Nat
  | [] => 0
  | x :: r => uptoBulkEntry x + uptoBulkEntries r
def uptoBulkEntry {H : Type} : Lit × DataW H → Nat
  | (.string bytes, d) => bytes.length + uptoBulk d + 1
  | (_, d) => uptoBulk d + 1
 end
def uptoSmall : (H : Type) → List (DataW H) → Bool := fun _ ds => decide (uptoBulkAll ds ≤ 1048576)
def OpenSpec.upto (s : _root_.Go.ChangeSpec) : _root_.Go.OpenSpec := { _root_.Go.OpenSpec.ofChange s with cond := some uptoSmall }

/-- 'scupperlaw19.ItabVoid', WHERE WHAT IT READS IS OF BULK AT MOST 1048576: true; the input reads as it did. -/
def itabVoidUptoRow : OpenClaim := { program := "ytiloinplnmnamaagreat", sum := "5c5d21221de5131e5a1711af2e2cd37b7e1add278524a25970e326374727a946", func := "scupper/scupperlaw19.ItabVoid", spec := "itabVoid", inPlace := ["slices.overlaps[int]"], unfollowed := true, recurses := true, plainKeys := false, apart := false, narrowed := true }
def ItabVoidUptoSaid : Prop := itabVoidUptoRow.holds Tryz.pinned (OpenSpec.upto itabVoidSpec)

/-- 'scupperlaw18.AllocVoid', WHERE WHAT IT READS IS OF BULK AT MOST 1048576: true; the input reads as it did. -/
def allocVoidUptoRow : OpenClaim := { program := "ytiloinplnmnamaagreat", sum := "5c5d21221de5131e5a1711af2e2cd37b7e1add278524a25970e326374727a946", func := "scupper/scupperlaw18.AllocVoid", spec := "allocVoid", inPlace := ["slices.overlaps[int]"], unfollowed := true, recurses := true, plainKeys := false, apart := false, narrowed := true }
def AllocVoidUptoSaid : Prop := allocVoidUptoRow.holds Tryz.pinned (OpenSpec.upto allocVoidSpec)

/-- 'scupperlaw17.VolMakes', WHERE WHAT IT READS IS OF BULK AT MOST 1048576: true; the input reads as it did. -/
def volMakesUptoRow : OpenClaim := { program := "ytiloinplnmnamaagreat", sum := "5c5d21221de5131e5a1711af2e2cd37b7e1add278524a25970e326374727a946", func := "scupper/scupperlaw17.VolMakes", spec := "volMakes", inPlace := ["slices.overlaps[int]"], unfollowed := true, recurses := true, plainKeys := false, apart := false, narrowed := true }
def VolMakesUptoSaid : Prop := volMakesUptoRow.holds Tryz.pinned (OpenSpec.upto volMakesSpec)

/-- 'scupperlaw17.VolNow', WHERE WHAT IT READS IS OF BULK AT MOST 1048576: true; the input reads as it did. -/
def volNowUptoRow : OpenClaim := { program := "ytiloinplnmnamaagreat", sum := "5c5d21221de5131e5a1711af2e2cd37b7e1add278524a25970e326374727a946", func := "scupper/scupperlaw17.VolNow", spec := "volNow", inPlace := ["slices.overlaps[int]"], unfollowed := true, recurses := true, plainKeys := false, apart := false, narrowed := true }
def VolNowUptoSaid : Prop := volNowUptoRow.holds Tryz.pinned (OpenSpec.upto volNowSpec)

/-- 'scupperlaw17.VolAll', WHERE WHAT IT READS IS OF BULK AT MOST 1048576: true; the input reads as it did. -/
def volAllUptoRow : OpenClaim := { program := "ytiloinplnmnamaagreat", sum := "5c5d21221de5131e5a1711af2e2cd37b7e1add278524a25970e326374727a946", func := "scupper/scupperlaw17.VolAll", spec := "volAll", inPlace := ["slices.overlaps[int]"], unfollowed := true, recurses := true, plainKeys := false, apart := false, narrowed := true }
def VolAllUptoSaid : Prop := volAllUptoRow.holds Tryz.pinned (OpenSpec.upto volAllSpec)

/-- 'scupperlaw17.VolVoid', WHERE WHAT IT READS IS OF BULK AT MOST 1048576: true; the input reads as it did. -/
def volVoidUptoRow : OpenClaim := { program := "ytiloinplnmnamaagreat", sum := "5c5d21221de5131e5a1711af2e2cd37b7e1add278524a25970e326374727a946", func := "scupper/scupperlaw17.VolVoid", spec := "volVoid", inPlace := ["slices.overlaps[int]"], unfollowed := true, recurses := true, plainKeys := false, apart := false, narrowed := true }
def VolVoidUptoSaid : Prop := volVoidUptoRow.holds Tryz.pinned (OpenSpec.upto volVoidSpec)

/-- 'scupperlaw19.ItabSet', WHERE WHAT IT READS IS OF BULK AT MOST 1048576: true; the input reads as it did. -/
def itabSetUptoRow : OpenClaim := { program := "ytiloinplnmnamaagreat", sum := "5c5d21221de5131e5a1711af2e2cd37b7e1add278524a25970e326374727a946", func := "scupper/scupperlaw19.ItabSet", spec := "itabSet", inPlace := ["slices.overlaps[int]"], unfollowed := true, recurses := true, plainKeys := false, apart := false, narrowed := true }
def ItabSetUptoSaid : Prop := itabSetUptoRow.holds Tryz.pinned (OpenSpec.upto itabSetSpec)

/-- 'scupperlaw18.AllocOne', WHERE WHAT IT READS IS OF BULK AT MOST 1048576: true; the input reads as it did. -/
def allocOneUptoRow : OpenClaim := { program := "ytiloinplnmnamaagreat", sum := "5c5d21221de5131e5a1711af2e2cd37b7e1add278524a25970e326374727a946", func := "scupper/scupperlaw18.AllocOne", spec := "allocOne", inPlace := ["slices.overlaps[int]"], unfollowed := true, recurses := true, plainKeys := false, apart := false, narrowed := true }
def AllocOneUptoSaid : Prop := allocOneUptoRow.holds Tryz.pinned (OpenSpec.upto allocOneSpec)

/-- 'scupperlaw18.AllocCounts', WHERE WHAT IT READS IS OF BULK AT MOST 1048576: true; the input reads as it did. -/
def allocCountsUptoRow : OpenClaim := { program := "ytiloinplnmnamaagreat", sum := "5c5d21221de5131e5a1711af2e2cd37b7e1add278524a25970e326374727a946", func := "scupper/scupperlaw18.AllocCounts", spec := "allocCounts", inPlace := ["slices.overlaps[int]"], unfollowed := true, recurses := true, plainKeys := false, apart := false, narrowed := true }
def AllocCountsUptoSaid : Prop := allocCountsUptoRow.holds Tryz.pinned (OpenSpec.upto allocCountsSpec)

/-- 'scupperlaw22.DirVoid', WHERE WHAT IT READS IS OF BULK AT MOST 1048576: true; the input reads as it did. -/
def dirVoidUptoRow : OpenClaim := { program := "ytiloinplnmnamaagreat", sum := "5c5d21221de5131e5a1711af2e2cd37b7e1add278524a25970e326374727a946", func := "scupper/scupperlaw22.DirVoid", spec := "dirVoid", inPlace := ["slices.overlaps[int]"], unfollowed := true, recurses := true, plainKeys := false, apart := false, narrowed := true }
def DirVoidUptoSaid : Prop := dirVoidUptoRow.holds Tryz.pinned (OpenSpec.upto dirVoidSpec)

/-- 'scupperlaw21.FileVoid', WHERE WHAT IT READS IS OF BULK AT MOST 1048576: true; the input reads as it did. -/
def fileVoidUptoRow : OpenClaim := { program := "ytiloinplnmnamaagreat", sum := "5c5d21221de5131e5a1711af2e2cd37b7e1add278524a25970e326374727a946", func := "scupper/scupperlaw21.FileVoid", spec := "fileVoid", inPlace := ["slices.overlaps[int]"], unfollowed := true, recurses := true, plainKeys := false, apart := false, narrowed := true }
def FileVoidUptoSaid : Prop := fileVoidUptoRow.holds Tryz.pinned (OpenSpec.upto fileVoidSpec)

end Rows
end Go.Proofs.YtiloinplnmnamaaGreat
