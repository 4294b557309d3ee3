/-
  No cell of these rows narrows 'for every input' (looked for: loops, veiled, ifaces, maps, wideKeys, modest, calm, conditions, laid).
  DERIVED. THE GIVEN ROWS OF THIS SEAT. 12 by the template 'for every input the law returns true; each argument reads behind the call as it read before'; 0 by the template 'total and deterministic' (their statements: YtfceckiklfkjkaaGreatTotals.lean).
  GIVEN WITH THE SEED: the statements are not yours to turn. If you find one false, say at which input.
  Laid BY PROGRAM, IN A SANDBOX (cutbox-rows.mjs): the forced cells as the released guide's own fill.sh prints them over the translation b511510717bcc3ef… (all of the seat's roots in one cut). By AI agents, Wed Nov 11 2026. No macro, syntax, notation, axiom, sorry.
-/
import Derived.Test.YtfceckiklfkjkaaGreatChecked
import GoSem.Claim
import GoSem.ClaimJoined
import GoSem.ClaimMapViews
import Derived.JoinedTies
import Derived.KernelRfl
namespace Go.Proofs.YtfceckiklfkjkaaGreat
/- THE CELL 'sum', in the pinned program and in every row, IS THE sha256 OF THE DUMP (.gsa) THAT YtfceckiklfkjkaaGreatProg.lean LOADS. Nothing in Lean hashes anything: it is a label: what it is worth is what the hold of that sum in a sandbox is worth. -/
noncomputable def Tryz.pinned : Pinned := { name := "ytfceckiklfkjkaagreat", sum := "b511510717bcc3ef4d0a61dee419e3cd48ac291d3d7bb22cc487006ea76886bf", checked := Tryz.checked }
namespace Rows
def none {H : Type} : Left H := { results := [], args := [] }

/-- 'scupperlaw28.FieldsPlays': WHATEVER THE INPUT: true; the input reads as it did. -/
def fieldsPlaysSpec : ChangeSpec := { name := "fieldsPlays", fn := fun _ => fun
  | [d1, d2, d3, d4, d5] => { results := [.lit (.bool true)], args := [d1, d2, d3, d4, d5] }
  | _ => none }
def fieldsPlaysRow : OpenClaim := { program := "ytfceckiklfkjkaagreat", sum := "b511510717bcc3ef4d0a61dee419e3cd48ac291d3d7bb22cc487006ea76886bf", func := "scupper/scupperlaw28.FieldsPlays", spec := "fieldsPlays", unfollowed := true, recurses := true, apart := false }
def FieldsPlaysSaid : Prop := fieldsPlaysRow.holds Tryz.pinned (OpenSpec.ofChange fieldsPlaysSpec)

/-- ITS FALSE NEIGHBOUR: 'it returns false'. Refute it at one input. -/
def fieldsPlaysWrong : ChangeSpec := { name := "fieldsPlays", fn := fun _ => fun
  | [d1, d2, d3, d4, d5] => { results := [.lit (.bool false)], args := [d1, d2, d3, d4, d5] }
  | _ => none }
def FieldsPlaysWrongFalsely : Prop := fieldsPlaysRow.holds Tryz.pinned (OpenSpec.ofChange fieldsPlaysWrong)

/-- 'scupperlaw30.LinksFound': WHATEVER THE INPUT: true; the input reads as it did. -/
def linksFoundSpec : ChangeSpec := { name := "linksFound", fn := fun _ => fun
  | [d1, d2] => { results := [.lit (.bool true)], args := [d1, d2] }
  | _ => none }
def linksFoundRow : OpenClaim := { program := "ytfceckiklfkjkaagreat", sum := "b511510717bcc3ef4d0a61dee419e3cd48ac291d3d7bb22cc487006ea76886bf", func := "scupper/scupperlaw30.LinksFound", spec := "linksFound", unfollowed := true, recurses := true, apart := false }
def LinksFoundSaid : Prop := linksFoundRow.holds Tryz.pinned (OpenSpec.ofChange linksFoundSpec)

/-- ITS FALSE NEIGHBOUR: 'it returns false'. Refute it at one input. -/
def linksFoundWrong : ChangeSpec := { name := "linksFound", fn := fun _ => fun
  | [d1, d2] => { results := [.lit (.bool false)], args := [d1, d2] }
  | _ => none }
def LinksFoundWrongFalsely : Prop := linksFoundRow.holds Tryz.pinned (OpenSpec.ofChange linksFoundWrong)

/-- 'scupperlaw31.BitsShould': WHATEVER THE INPUT: true; the input reads as it did. -/
def bitsShouldSpec : ChangeSpec := { name := "bitsShould", fn := fun _ => fun
  | [d1, d2, d3] => { results := [.lit (.bool true)], args := [d1, d2, d3] }
  | _ => none }
def bitsShouldRow : OpenClaim := { program := "ytfceckiklfkjkaagreat", sum := "b511510717bcc3ef4d0a61dee419e3cd48ac291d3d7bb22cc487006ea76886bf", func := "scupper/scupperlaw31.BitsShould", spec := "bitsShould", unfollowed := true, recurses := true, apart := false }
def BitsShouldSaid : Prop := bitsShouldRow.holds Tryz.pinned (OpenSpec.ofChange bitsShouldSpec)

/-- ITS FALSE NEIGHBOUR: 'it returns false'. Refute it at one input. -/
def bitsShouldWrong : ChangeSpec := { name := "bitsShould", fn := fun _ => fun
  | [d1, d2, d3] => { results := [.lit (.bool false)], args := [d1, d2, d3] }
  | _ => none }
def BitsShouldWrongFalsely : Prop := bitsShouldRow.holds Tryz.pinned (OpenSpec.ofChange bitsShouldWrong)

/-- 'scupperlaw31.BitsOnce': WHATEVER THE INPUT: true; the input reads as it did. -/
def bitsOnceSpec : ChangeSpec := { name := "bitsOnce", fn := fun _ => fun
  | [d1, d2] => { results := [.lit (.bool true)], args := [d1, d2] }
  | _ => none }
def bitsOnceRow : OpenClaim := { program := "ytfceckiklfkjkaagreat", sum := "b511510717bcc3ef4d0a61dee419e3cd48ac291d3d7bb22cc487006ea76886bf", func := "scupper/scupperlaw31.BitsOnce", spec := "bitsOnce", unfollowed := true, recurses := true, apart := false }
def BitsOnceSaid : Prop := bitsOnceRow.holds Tryz.pinned (OpenSpec.ofChange bitsOnceSpec)

/-- ITS FALSE NEIGHBOUR: 'it returns false'. Refute it at one input. -/
def bitsOnceWrong : ChangeSpec := { name := "bitsOnce", fn := fun _ => fun
  | [d1, d2] => { results := [.lit (.bool false)], args := [d1, d2] }
  | _ => none }
def BitsOnceWrongFalsely : Prop := bitsOnceRow.holds Tryz.pinned (OpenSpec.ofChange bitsOnceWrong)

/-- 'scupperlaw29.WalkTree': WHATEVER THE INPUT: true; the input reads as it did. -/
def walkTreeSpec : ChangeSpec := { name := "walkTree", fn := fun _ => fun
  | [d1, d2] => { results := [.lit (.bool true)], args := [d1, d2] }
  | _ => none }
def walkTreeRow : OpenClaim := { program := "ytfceckiklfkjkaagreat", sum := "b511510717bcc3ef4d0a61dee419e3cd48ac291d3d7bb22cc487006ea76886bf", func := "scupper/scupperlaw29.WalkTree", spec := "walkTree", unfollowed := true, recurses := true, apart := false }
def WalkTreeSaid : Prop := walkTreeRow.holds Tryz.pinned (OpenSpec.ofChange walkTreeSpec)

/-- ITS FALSE NEIGHBOUR: 'it returns false'. Refute it at one input. -/
def walkTreeWrong : ChangeSpec := { name := "walkTree", fn := fun _ => fun
  | [d1, d2] => { results := [.lit (.bool false)], args := [d1, d2] }
  | _ => none }
def WalkTreeWrongFalsely : Prop := walkTreeRow.holds Tryz.pinned (OpenSpec.ofChange walkTreeWrong)

/-- 'scupperlaw29.WalkOnce': WHATEVER THE INPUT: true; the input reads as it did. -/
def walkOnceSpec : ChangeSpec := { name := "walkOnce", fn := fun _ => fun
  | [d] => { results := [.lit (.bool true)], args := [d] }
  | _ => none }
def walkOnceRow : OpenClaim := { program := "ytfceckiklfkjkaagreat", sum := "b511510717bcc3ef4d0a61dee419e3cd48ac291d3d7bb22cc487006ea76886bf", func := "scupper/scupperlaw29.WalkOnce", spec := "walkOnce", unfollowed := true, recurses := true, apart := false }
def WalkOnceSaid : Prop := walkOnceRow.holds Tryz.pinned (OpenSpec.ofChange walkOnceSpec)

/-- ITS FALSE NEIGHBOUR: 'it returns false'. Refute it at one input. -/
def walkOnceWrong : ChangeSpec := { name := "walkOnce", fn := fun _ => fun
  | [d] => { results := [.lit (.bool false)], args := [d] }
  | _ => none }
def WalkOnceWrongFalsely : Prop := walkOnceRow.holds Tryz.pinned (OpenSpec.ofChange walkOnceWrong)

/-- 'scupperlaw30.LinksOnce': WHATEVER THE INPUT: true; the input reads as it did. -/
def linksOnceSpec : ChangeSpec := { name := "linksOnce", fn := fun _ => fun
  | [d1, d2] => { results := [.lit (.bool true)], args := [d1, d2] }
  | _ => none }
def linksOnceRow : OpenClaim := { program := "ytfceckiklfkjkaagreat", sum := "b511510717bcc3ef4d0a61dee419e3cd48ac291d3d7bb22cc487006ea76886bf", func := "scupper/scupperlaw30.LinksOnce", spec := "linksOnce", unfollowed := true, recurses := true, apart := false }
def LinksOnceSaid : Prop := linksOnceRow.holds Tryz.pinned (OpenSpec.ofChange linksOnceSpec)

/-- ITS FALSE NEIGHBOUR: 'it returns false'. Refute it at one input. -/
def linksOnceWrong : ChangeSpec := { name := "linksOnce", fn := fun _ => fun
  | [d1, d2] => { results := [.lit (.bool false)], args := [d1, d2] }
  | _ => none }
def LinksOnceWrongFalsely : Prop := linksOnceRow.holds Tryz.pinned (OpenSpec.ofChange linksOnceWrong)

/-- 'scupperlaw32.FsckNarrow': WHATEVER THE INPUT: true; the input reads as it did. -/
def fsckNarrowSpec : ChangeSpec := { name := "fsckNarrow", fn := fun _ => fun
  | [d1, d2] => { results := [.lit (.bool true)], args := [d1, d2] }
  | _ => none }
def fsckNarrowRow : OpenClaim := { program := "ytfceckiklfkjkaagreat", sum := "b511510717bcc3ef4d0a61dee419e3cd48ac291d3d7bb22cc487006ea76886bf", func := "scupper/scupperlaw32.FsckNarrow", spec := "fsckNarrow", unfollowed := true, recurses := true, apart := false }
def FsckNarrowSaid : Prop := fsckNarrowRow.holds Tryz.pinned (OpenSpec.ofChange fsckNarrowSpec)

/-- ITS FALSE NEIGHBOUR: 'it returns false'. Refute it at one input. -/
def fsckNarrowWrong : ChangeSpec := { name := "fsckNarrow", fn := fun _ => fun
  | [d1, d2] => { results := [.lit (.bool false)], args := [d1, d2] }
  | _ => none }
def FsckNarrowWrongFalsely : Prop := fsckNarrowRow.holds Tryz.pinned (OpenSpec.ofChange fsckNarrowWrong)

/-- 'scupperlaw32.FsckAgain': WHATEVER THE INPUT: true; the input reads as it did. -/
def fsckAgainSpec : ChangeSpec := { name := "fsckAgain", fn := fun _ => fun
  | [d] => { results := [.lit (.bool true)], args := [d] }
  | _ => none }
def fsckAgainRow : OpenClaim := { program := "ytfceckiklfkjkaagreat", sum := "b511510717bcc3ef4d0a61dee419e3cd48ac291d3d7bb22cc487006ea76886bf", func := "scupper/scupperlaw32.FsckAgain", spec := "fsckAgain", unfollowed := true, recurses := true, apart := false }
def FsckAgainSaid : Prop := fsckAgainRow.holds Tryz.pinned (OpenSpec.ofChange fsckAgainSpec)

/-- ITS FALSE NEIGHBOUR: 'it returns false'. Refute it at one input. -/
def fsckAgainWrong : ChangeSpec := { name := "fsckAgain", fn := fun _ => fun
  | [d] => { results := [.lit (.bool false)], args := [d] }
  | _ => none }
def FsckAgainWrongFalsely : Prop := fsckAgainRow.holds Tryz.pinned (OpenSpec.ofChange fsckAgainWrong)

/-- 'scupperlaw32.FsckUntouched': WHATEVER THE INPUT: true; the input reads as it did. -/
def fsckUntouchedSpec : ChangeSpec := { name := "fsckUntouched", fn := fun _ => fun
  | [d1, d2] => { results := [.lit (.bool true)], args := [d1, d2] }
  | _ => none }
def fsckUntouchedRow : OpenClaim := { program := "ytfceckiklfkjkaagreat", sum := "b511510717bcc3ef4d0a61dee419e3cd48ac291d3d7bb22cc487006ea76886bf", func := "scupper/scupperlaw32.FsckUntouched", spec := "fsckUntouched", unfollowed := true, recurses := true, apart := false }
def FsckUntouchedSaid : Prop := fsckUntouchedRow.holds Tryz.pinned (OpenSpec.ofChange fsckUntouchedSpec)

/-- ITS FALSE NEIGHBOUR: 'it returns false'. Refute it at one input. -/
def fsckUntouchedWrong : ChangeSpec := { name := "fsckUntouched", fn := fun _ => fun
  | [d1, d2] => { results := [.lit (.bool false)], args := [d1, d2] }
  | _ => none }
def FsckUntouchedWrongFalsely : Prop := fsckUntouchedRow.holds Tryz.pinned (OpenSpec.ofChange fsckUntouchedWrong)

/-- 'scupperlaw33.SoundCounts': WHATEVER THE INPUT: true; the input reads as it did. -/
def soundCountsSpec : ChangeSpec := { name := "soundCounts", fn := fun _ => fun
  | [d] => { results := [.lit (.bool true)], args := [d] }
  | _ => none }
def soundCountsRow : OpenClaim := { program := "ytfceckiklfkjkaagreat", sum := "b511510717bcc3ef4d0a61dee419e3cd48ac291d3d7bb22cc487006ea76886bf", func := "scupper/scupperlaw33.SoundCounts", spec := "soundCounts", inPlace := ["internal/bytealg.abigen_runtime_cmpstring"], unfollowed := true, recurses := true, apart := false }
def SoundCountsSaid : Prop := soundCountsRow.holds Tryz.pinned (OpenSpec.ofChange soundCountsSpec)

/-- ITS FALSE NEIGHBOUR: 'it returns false'. Refute it at one input. -/
def soundCountsWrong : ChangeSpec := { name := "soundCounts", fn := fun _ => fun
  | [d] => { results := [.lit (.bool false)], args := [d] }
  | _ => none }
def SoundCountsWrongFalsely : Prop := soundCountsRow.holds Tryz.pinned (OpenSpec.ofChange soundCountsWrong)

/-- 'scupperlaw33.SoundHarmless': WHATEVER THE INPUT: true; the input reads as it did. -/
def soundHarmlessSpec : ChangeSpec := { name := "soundHarmless", fn := fun _ => fun
  | [d] => { results := [.lit (.bool true)], args := [d] }
  | _ => none }
def soundHarmlessRow : OpenClaim := { program := "ytfceckiklfkjkaagreat", sum := "b511510717bcc3ef4d0a61dee419e3cd48ac291d3d7bb22cc487006ea76886bf", func := "scupper/scupperlaw33.SoundHarmless", spec := "soundHarmless", inPlace := ["internal/bytealg.abigen_runtime_cmpstring"], unfollowed := true, recurses := true, apart := false }
def SoundHarmlessSaid : Prop := soundHarmlessRow.holds Tryz.pinned (OpenSpec.ofChange soundHarmlessSpec)

/-- ITS FALSE NEIGHBOUR: 'it returns false'. Refute it at one input. -/
def soundHarmlessWrong : ChangeSpec := { name := "soundHarmless", fn := fun _ => fun
  | [d] => { results := [.lit (.bool false)], args := [d] }
  | _ => none }
def SoundHarmlessWrongFalsely : Prop := soundHarmlessRow.holds Tryz.pinned (OpenSpec.ofChange soundHarmlessWrong)

/- THE SECOND FORM. 'bulk': how many values and letters a reading holds, each counted each time it is reached (what is shared counts as often as it is met; a slice's spare places count too). A statement '..UptoSaid' is the law's where the arguments, and the package variables that the reading takes, are together of bulk at most 1048576: NARROWER than '..Said'. Prove '..Said' where nothing that the law and all that it calls make is longer than what came in: it says more and counts as full. Else prove '..UptoSaid'. A law counts once. -/
mutual
def uptoBulk {H : Type} : DataW H → Nat
  | .lit (.string bytes) => bytes.length + 1
  | .lit _ => 1
  | .nil => 1
  | .ptr d => uptoBulk d + 1
  | .slice elems spare => uptoBulkAll elems + uptoBulkAll spare + 1
  | .agg parts => uptoBulkAll parts + 1
  | .iface _ d => uptoBulk d + 1
  | .map entries => uptoBulkEntries entries + 1
  | .held _ => 1
def uptoBulkAll {H : Type} : List (DataW H) → Nat
  | [] => 0
  | d :: r => uptoBulk d + uptoBulkAll r
def uptoBulkEntries {H : Type} : List (Lit × DataW H) → Nat
  | [] => 0
  | x :: r => uptoBulkEntry x + uptoBulkEntries r
def uptoBulkEntry {H : Type} : Lit × DataW H → Nat
  | (.string bytes, d) => bytes.length + uptoBulk d + 1
  | (_, d) => uptoBulk d + 1
 end
def uptoSmall : (H : Type) → List (DataW H) → Bool := fun _ ds => decide (uptoBulkAll ds ≤ 1048576)
def OpenSpec.upto (s : _root_.Go.ChangeSpec) : _root_.Go.OpenSpec := { _root_.Go.OpenSpec.ofChange s with cond := some uptoSmall }

/-- 'scupperlaw28.FieldsPlays', WHERE WHAT IT READS IS OF BULK AT MOST 1048576: true; the input reads as it did. -/
def fieldsPlaysUptoRow : OpenClaim := { program := "ytfceckiklfkjkaagreat", sum := "b511510717bcc3ef4d0a61dee419e3cd48ac291d3d7bb22cc487006ea76886bf", func := "scupper/scupperlaw28.FieldsPlays", spec := "fieldsPlays", unfollowed := true, recurses := true, apart := false, narrowed := true }
def FieldsPlaysUptoSaid : Prop := fieldsPlaysUptoRow.holds Tryz.pinned (OpenSpec.upto fieldsPlaysSpec)

/-- 'scupperlaw30.LinksFound', WHERE WHAT IT READS IS OF BULK AT MOST 1048576: true; the input reads as it did. -/
def linksFoundUptoRow : OpenClaim := { program := "ytfceckiklfkjkaagreat", sum := "b511510717bcc3ef4d0a61dee419e3cd48ac291d3d7bb22cc487006ea76886bf", func := "scupper/scupperlaw30.LinksFound", spec := "linksFound", unfollowed := true, recurses := true, apart := false, narrowed := true }
def LinksFoundUptoSaid : Prop := linksFoundUptoRow.holds Tryz.pinned (OpenSpec.upto linksFoundSpec)

/-- 'scupperlaw31.BitsShould', WHERE WHAT IT READS IS OF BULK AT MOST 1048576: true; the input reads as it did. -/
def bitsShouldUptoRow : OpenClaim := { program := "ytfceckiklfkjkaagreat", sum := "b511510717bcc3ef4d0a61dee419e3cd48ac291d3d7bb22cc487006ea76886bf", func := "scupper/scupperlaw31.BitsShould", spec := "bitsShould", unfollowed := true, recurses := true, apart := false, narrowed := true }
def BitsShouldUptoSaid : Prop := bitsShouldUptoRow.holds Tryz.pinned (OpenSpec.upto bitsShouldSpec)

/-- 'scupperlaw31.BitsOnce', WHERE WHAT IT READS IS OF BULK AT MOST 1048576: true; the input reads as it did. -/
def bitsOnceUptoRow : OpenClaim := { program := "ytfceckiklfkjkaagreat", sum := "b511510717bcc3ef4d0a61dee419e3cd48ac291d3d7bb22cc487006ea76886bf", func := "scupper/scupperlaw31.BitsOnce", spec := "bitsOnce", unfollowed := true, recurses := true, apart := false, narrowed := true }
def BitsOnceUptoSaid : Prop := bitsOnceUptoRow.holds Tryz.pinned (OpenSpec.upto bitsOnceSpec)

/-- 'scupperlaw29.WalkTree', WHERE WHAT IT READS IS OF BULK AT MOST 1048576: true; the input reads as it did. -/
def walkTreeUptoRow : OpenClaim := { program := "ytfceckiklfkjkaagreat", sum := "b511510717bcc3ef4d0a61dee419e3cd48ac291d3d7bb22cc487006ea76886bf", func := "scupper/scupperlaw29.WalkTree", spec := "walkTree", unfollowed := true, recurses := true, apart := false, narrowed := true }
def WalkTreeUptoSaid : Prop := walkTreeUptoRow.holds Tryz.pinned (OpenSpec.upto walkTreeSpec)

/-- 'scupperlaw29.WalkOnce', WHERE WHAT IT READS IS OF BULK AT MOST 1048576: true; the input reads as it did. -/
def walkOnceUptoRow : OpenClaim := { program := "ytfceckiklfkjkaagreat", sum := "b511510717bcc3ef4d0a61dee419e3cd48ac291d3d7bb22cc487006ea76886bf", func := "scupper/scupperlaw29.WalkOnce", spec := "walkOnce", unfollowed := true, recurses := true, apart := false, narrowed := true }
def WalkOnceUptoSaid : Prop := walkOnceUptoRow.holds Tryz.pinned (OpenSpec.upto walkOnceSpec)

/-- 'scupperlaw30.LinksOnce', WHERE WHAT IT READS IS OF BULK AT MOST 1048576: true; the input reads as it did. -/
def linksOnceUptoRow : OpenClaim := { program := "ytfceckiklfkjkaagreat", sum := "b511510717bcc3ef4d0a61dee419e3cd48ac291d3d7bb22cc487006ea76886bf", func := "scupper/scupperlaw30.LinksOnce", spec := "linksOnce", unfollowed := true, recurses := true, apart := false, narrowed := true }
def LinksOnceUptoSaid : Prop := linksOnceUptoRow.holds Tryz.pinned (OpenSpec.upto linksOnceSpec)

/-- 'scupperlaw32.FsckNarrow', WHERE WHAT IT READS IS OF BULK AT MOST 1048576: true; the input reads as it did. -/
def fsckNarrowUptoRow : OpenClaim := { program := "ytfceckiklfkjkaagreat", sum := "b511510717bcc3ef4d0a61dee419e3cd48ac291d3d7bb22cc487006ea76886bf", func := "scupper/scupperlaw32.FsckNarrow", spec := "fsckNarrow", unfollowed := true, recurses := true, apart := false, narrowed := true }
def FsckNarrowUptoSaid : Prop := fsckNarrowUptoRow.holds Tryz.pinned (OpenSpec.upto fsckNarrowSpec)

/-- 'scupperlaw32.FsckAgain', WHERE WHAT IT READS IS OF BULK AT MOST 1048576: true; the input reads as it did. -/
def fsckAgainUptoRow : OpenClaim := { program := "ytfceckiklfkjkaagreat", sum := "b511510717bcc3ef4d0a61dee419e3cd48ac291d3d7bb22cc487006ea76886bf", func := "scupper/scupperlaw32.FsckAgain", spec := "fsckAgain", unfollowed := true, recurses := true, apart := false, narrowed := true }
def FsckAgainUptoSaid : Prop := fsckAgainUptoRow.holds Tryz.pinned (OpenSpec.upto fsckAgainSpec)

/-- 'scupperlaw32.FsckUntouched', WHERE WHAT IT READS IS OF BULK AT MOST 1048576: true; the input reads as it did. -/
def fsckUntouchedUptoRow : OpenClaim := { program := "ytfceckiklfkjkaagreat", sum := "b511510717bcc3ef4d0a61dee419e3cd48ac291d3d7bb22cc487006ea76886bf", func := "scupper/scupperlaw32.FsckUntouched", spec := "fsckUntouched", unfollowed := true, recurses := true, apart := false, narrowed := true }
def FsckUntouchedUptoSaid : Prop := fsckUntouchedUptoRow.holds Tryz.pinned (OpenSpec.upto fsckUntouchedSpec)

/-- 'scupperlaw33.SoundCounts', WHERE WHAT IT READS IS OF BULK AT MOST 1048576: true; the input reads as it did. -/
def soundCountsUptoRow : OpenClaim := { program := "ytfceckiklfkjkaagreat", sum := "b511510717bcc3ef4d0a61dee419e3cd48ac291d3d7bb22cc487006ea76886bf", func := "scupper/scupperlaw33.SoundCounts", spec := "soundCounts", inPlace := ["internal/bytealg.abigen_runtime_cmpstring"], unfollowed := true, recurses := true, apart := false, narrowed := true }
def SoundCountsUptoSaid : Prop := soundCountsUptoRow.holds Tryz.pinned (OpenSpec.upto soundCountsSpec)

/-- 'scupperlaw33.SoundHarmless', WHERE WHAT IT READS IS OF BULK AT MOST 1048576: true; the input reads as it did. -/
def soundHarmlessUptoRow : OpenClaim := { program := "ytfceckiklfkjkaagreat", sum := "b511510717bcc3ef4d0a61dee419e3cd48ac291d3d7bb22cc487006ea76886bf", func := "scupper/scupperlaw33.SoundHarmless", spec := "soundHarmless", inPlace := ["internal/bytealg.abigen_runtime_cmpstring"], unfollowed := true, recurses := true, apart := false, narrowed := true }
def SoundHarmlessUptoSaid : Prop := soundHarmlessUptoRow.holds Tryz.pinned (OpenSpec.upto soundHarmlessSpec)

end Rows
end Go.Proofs.YtfceckiklfkjkaaGreat
