/-
  No cell of these rows narrows 'for every input' (looked for: loops, veiled, ifaces, maps, wideKeys, modest, calm, conditions, laid).
  DERIVED. THE GIVEN ROWS OF THIS SEAT. 6 by the template 'for every input the law returns true; each argument reads behind the call as it read before'; 0 by the template 'total and deterministic' (their statements: YtganobhodimjnaaTotals.lean).
  GIVEN WITH THE SEED: the statements are not yours to turn. If you find one false, say at which input.
  Laid BY PROGRAM, IN A SANDBOX (cutbox-rows.mjs): the forced cells as the released guide's own fill.sh prints them over the translation 5c76aea8b44eaab4… (all of the seat's roots in one cut). By AI agents, Wed Nov 11 2026. No macro, syntax, notation, axiom, sorry.
-/
import Derived.Test.YtganobhodimjnaaChecked
import GoSem.Claim
import GoSem.ClaimJoined
import GoSem.ClaimMapViews
import Derived.JoinedTies
import Derived.KernelRfl
namespace Go.Proofs.Ytganobhodimjnaa
/- THE CELL 'sum', in the pinned program and in every row, IS THE sha256 OF THE DUMP (.gsa) THAT YtganobhodimjnaaProg.lean LOADS. Nothing in Lean hashes anything: it is a label: what it is worth is what the hold of that sum in a sandbox is worth. -/
noncomputable def Try.pinned : Pinned := { name := "ytganobhodimjnaa", sum := "5c76aea8b44eaab45c02f0de2f3dc793b9df476cc372b9498362b2a5e9295d7b", checked := Try.checked }
namespace Rows
def none {H : Type} : Left H := { results := [], args := [] }

/-- 'scupperlaw28.FieldsShould': WHATEVER THE INPUT: true; the input reads as it did. -/
def fieldsShouldSpec : ChangeSpec := { name := "fieldsShould", fn := fun _ => fun
  | [d1, d2, d3] => { results := [.lit (.bool true)], args := [d1, d2, d3] }
  | _ => none }
def fieldsShouldRow : OpenClaim := { program := "ytganobhodimjnaa", sum := "5c76aea8b44eaab45c02f0de2f3dc793b9df476cc372b9498362b2a5e9295d7b", func := "scupper/scupperlaw28.FieldsShould", spec := "fieldsShould", unfollowed := true, recurses := true, apart := false }
def FieldsShouldSaid : Prop := fieldsShouldRow.holds Try.pinned (OpenSpec.ofChange fieldsShouldSpec)

/-- ITS FALSE NEIGHBOUR: 'it returns false'. Refute it at one input. -/
def fieldsShouldWrong : ChangeSpec := { name := "fieldsShould", fn := fun _ => fun
  | [d1, d2, d3] => { results := [.lit (.bool false)], args := [d1, d2, d3] }
  | _ => none }
def FieldsShouldWrongFalsely : Prop := fieldsShouldRow.holds Try.pinned (OpenSpec.ofChange fieldsShouldWrong)

/-- 'scupperlaw27.ScanRight': WHATEVER THE INPUT: true; the input reads as it did. -/
def scanRightSpec : ChangeSpec := { name := "scanRight", fn := fun _ => fun
  | [d1, d2] => { results := [.lit (.bool true)], args := [d1, d2] }
  | _ => none }
def scanRightRow : OpenClaim := { program := "ytganobhodimjnaa", sum := "5c76aea8b44eaab45c02f0de2f3dc793b9df476cc372b9498362b2a5e9295d7b", func := "scupper/scupperlaw27.ScanRight", spec := "scanRight", unfollowed := true, recurses := true, apart := false }
def ScanRightSaid : Prop := scanRightRow.holds Try.pinned (OpenSpec.ofChange scanRightSpec)

/-- ITS FALSE NEIGHBOUR: 'it returns false'. Refute it at one input. -/
def scanRightWrong : ChangeSpec := { name := "scanRight", fn := fun _ => fun
  | [d1, d2] => { results := [.lit (.bool false)], args := [d1, d2] }
  | _ => none }
def ScanRightWrongFalsely : Prop := scanRightRow.holds Try.pinned (OpenSpec.ofChange scanRightWrong)

/-- 'scupperlaw27.ScanWrites': WHATEVER THE INPUT: true; the input reads as it did. -/
def scanWritesSpec : ChangeSpec := { name := "scanWrites", fn := fun _ => fun
  | [d1, d2, d3, d4] => { results := [.lit (.bool true)], args := [d1, d2, d3, d4] }
  | _ => none }
def scanWritesRow : OpenClaim := { program := "ytganobhodimjnaa", sum := "5c76aea8b44eaab45c02f0de2f3dc793b9df476cc372b9498362b2a5e9295d7b", func := "scupper/scupperlaw27.ScanWrites", spec := "scanWrites", unfollowed := true, recurses := true, apart := false }
def ScanWritesSaid : Prop := scanWritesRow.holds Try.pinned (OpenSpec.ofChange scanWritesSpec)

/-- ITS FALSE NEIGHBOUR: 'it returns false'. Refute it at one input. -/
def scanWritesWrong : ChangeSpec := { name := "scanWrites", fn := fun _ => fun
  | [d1, d2, d3, d4] => { results := [.lit (.bool false)], args := [d1, d2, d3, d4] }
  | _ => none }
def ScanWritesWrongFalsely : Prop := scanWritesRow.holds Try.pinned (OpenSpec.ofChange scanWritesWrong)

/-- 'scupperlaw27.ScanPlays': WHATEVER THE INPUT: true; the input reads as it did. -/
def scanPlaysSpec : ChangeSpec := { name := "scanPlays", fn := fun _ => fun
  | [d1, d2, d3, d4] => { results := [.lit (.bool true)], args := [d1, d2, d3, d4] }
  | _ => none }
def scanPlaysRow : OpenClaim := { program := "ytganobhodimjnaa", sum := "5c76aea8b44eaab45c02f0de2f3dc793b9df476cc372b9498362b2a5e9295d7b", func := "scupper/scupperlaw27.ScanPlays", spec := "scanPlays", unfollowed := true, recurses := true, apart := false }
def ScanPlaysSaid : Prop := scanPlaysRow.holds Try.pinned (OpenSpec.ofChange scanPlaysSpec)

/-- ITS FALSE NEIGHBOUR: 'it returns false'. Refute it at one input. -/
def scanPlaysWrong : ChangeSpec := { name := "scanPlays", fn := fun _ => fun
  | [d1, d2, d3, d4] => { results := [.lit (.bool false)], args := [d1, d2, d3, d4] }
  | _ => none }
def ScanPlaysWrongFalsely : Prop := scanPlaysRow.holds Try.pinned (OpenSpec.ofChange scanPlaysWrong)

/-- 'scupperlaw27.ScanVoid': WHATEVER THE INPUT: true; the input reads as it did. -/
def scanVoidSpec : ChangeSpec := { name := "scanVoid", fn := fun _ => fun
  | [d1, d2] => { results := [.lit (.bool true)], args := [d1, d2] }
  | _ => none }
def scanVoidRow : OpenClaim := { program := "ytganobhodimjnaa", sum := "5c76aea8b44eaab45c02f0de2f3dc793b9df476cc372b9498362b2a5e9295d7b", func := "scupper/scupperlaw27.ScanVoid", spec := "scanVoid", unfollowed := true, recurses := true, apart := false }
def ScanVoidSaid : Prop := scanVoidRow.holds Try.pinned (OpenSpec.ofChange scanVoidSpec)

/-- ITS FALSE NEIGHBOUR: 'it returns false'. Refute it at one input. -/
def scanVoidWrong : ChangeSpec := { name := "scanVoid", fn := fun _ => fun
  | [d1, d2] => { results := [.lit (.bool false)], args := [d1, d2] }
  | _ => none }
def ScanVoidWrongFalsely : Prop := scanVoidRow.holds Try.pinned (OpenSpec.ofChange scanVoidWrong)

/-- 'scupperlaw28.FieldsOnce': WHATEVER THE INPUT: true; the input reads as it did. -/
def fieldsOnceSpec : ChangeSpec := { name := "fieldsOnce", fn := fun _ => fun
  | [d1, d2] => { results := [.lit (.bool true)], args := [d1, d2] }
  | _ => none }
def fieldsOnceRow : OpenClaim := { program := "ytganobhodimjnaa", sum := "5c76aea8b44eaab45c02f0de2f3dc793b9df476cc372b9498362b2a5e9295d7b", func := "scupper/scupperlaw28.FieldsOnce", spec := "fieldsOnce", unfollowed := true, recurses := true, apart := false }
def FieldsOnceSaid : Prop := fieldsOnceRow.holds Try.pinned (OpenSpec.ofChange fieldsOnceSpec)

/-- ITS FALSE NEIGHBOUR: 'it returns false'. Refute it at one input. -/
def fieldsOnceWrong : ChangeSpec := { name := "fieldsOnce", fn := fun _ => fun
  | [d1, d2] => { results := [.lit (.bool false)], args := [d1, d2] }
  | _ => none }
def FieldsOnceWrongFalsely : Prop := fieldsOnceRow.holds Try.pinned (OpenSpec.ofChange fieldsOnceWrong)

/- THE SECOND FORM. 'bulk': how many values and letters a reading holds, each counted each time it is reached (what is shared counts as often as it is met; a slice's spare places count too). A statement '..UptoSaid' is the law's where the arguments, and the package variables that the reading takes, are together of bulk at most 1048576: NARROWER than '..Said'. Prove '..Said' where nothing that the law and all that it calls make is longer than what came in: it says more and counts as full. Else prove '..UptoSaid'. A law counts once. -/
mutual
def uptoBulk {H : Type} : DataW H → Nat
  | .lit (.string bytes) => bytes.length + 1
  | .lit _ => 1
  | .nil => 1
  | .ptr d => uptoBulk d + 1
  | .slice elems spare => uptoBulkAll elems + uptoBulkAll spare + 1
  | .agg parts => uptoBulkAll parts + 1
  | .iface _ d => uptoBulk d + 1
  | .map entries => uptoBulkEntries entries + 1
  | .held _ => 1
def uptoBulkAll {H : Type} : List (DataW H) → Nat
  | [] => 0
  | d :: r => uptoBulk d + uptoBulkAll r
def uptoBulkEntries {H : Type} : List (Lit × DataW H) → Nat
  | [] => 0
  | x :: r => uptoBulkEntry x + uptoBulkEntries r
def uptoBulkEntry {H : Type} : Lit × DataW H → Nat
  | (.string bytes, d) => bytes.length + uptoBulk d + 1
  | (_, d) => uptoBulk d + 1
 end
def uptoSmall : (H : Type) → List (DataW H) → Bool := fun _ ds => decide (uptoBulkAll ds ≤ 1048576)
def OpenSpec.upto (s : _root_.Go.ChangeSpec) : _root_.Go.OpenSpec := { _root_.Go.OpenSpec.ofChange s with cond := some uptoSmall }

/-- 'scupperlaw28.FieldsShould', WHERE WHAT IT READS IS OF BULK AT MOST 1048576: true; the input reads as it did. -/
def fieldsShouldUptoRow : OpenClaim := { program := "ytganobhodimjnaa", sum := "5c76aea8b44eaab45c02f0de2f3dc793b9df476cc372b9498362b2a5e9295d7b", func := "scupper/scupperlaw28.FieldsShould", spec := "fieldsShould", unfollowed := true, recurses := true, apart := false, narrowed := true }
def FieldsShouldUptoSaid : Prop := fieldsShouldUptoRow.holds Try.pinned (OpenSpec.upto fieldsShouldSpec)

/-- 'scupperlaw27.ScanRight', WHERE WHAT IT READS IS OF BULK AT MOST 1048576: true; the input reads as it did. -/
def scanRightUptoRow : OpenClaim := { program := "ytganobhodimjnaa", sum := "5c76aea8b44eaab45c02f0de2f3dc793b9df476cc372b9498362b2a5e9295d7b", func := "scupper/scupperlaw27.ScanRight", spec := "scanRight", unfollowed := true, recurses := true, apart := false, narrowed := true }
def ScanRightUptoSaid : Prop := scanRightUptoRow.holds Try.pinned (OpenSpec.upto scanRightSpec)

/-- 'scupperlaw27.ScanWrites', WHERE WHAT IT READS IS OF BULK AT MOST 1048576: true; the input reads as it did. -/
def scanWritesUptoRow : OpenClaim := { program := "ytganobhodimjnaa", sum := "5c76aea8b44eaab45c02f0de2f3dc793b9df476cc372b9498362b2a5e9295d7b", func := "scupper/scupperlaw27.ScanWrites", spec := "scanWrites", unfollowed := true, recurses := true, apart := false, narrowed := true }
def ScanWritesUptoSaid : Prop := scanWritesUptoRow.holds Try.pinned (OpenSpec.upto scanWritesSpec)

/-- 'scupperlaw27.ScanPlays', WHERE WHAT IT READS IS OF BULK AT MOST 1048576: true; the input reads as it did. -/
def scanPlaysUptoRow : OpenClaim := { program := "ytganobhodimjnaa", sum := "5c76aea8b44eaab45c02f0de2f3dc793b9df476cc372b9498362b2a5e9295d7b", func := "scupper/scupperlaw27.ScanPlays", spec := "scanPlays", unfollowed := true, recurses := true, apart := false, narrowed := true }
def ScanPlaysUptoSaid : Prop := scanPlaysUptoRow.holds Try.pinned (OpenSpec.upto scanPlaysSpec)

/-- 'scupperlaw27.ScanVoid', WHERE WHAT IT READS IS OF BULK AT MOST 1048576: true; the input reads as it did. -/
def scanVoidUptoRow : OpenClaim := { program := "ytganobhodimjnaa", sum := "5c76aea8b44eaab45c02f0de2f3dc793b9df476cc372b9498362b2a5e9295d7b", func := "scupper/scupperlaw27.ScanVoid", spec := "scanVoid", unfollowed := true, recurses := true, apart := false, narrowed := true }
def ScanVoidUptoSaid : Prop := scanVoidUptoRow.holds Try.pinned (OpenSpec.upto scanVoidSpec)

/-- 'scupperlaw28.FieldsOnce', WHERE WHAT IT READS IS OF BULK AT MOST 1048576: true; the input reads as it did. -/
def fieldsOnceUptoRow : OpenClaim := { program := "ytganobhodimjnaa", sum := "5c76aea8b44eaab45c02f0de2f3dc793b9df476cc372b9498362b2a5e9295d7b", func := "scupper/scupperlaw28.FieldsOnce", spec := "fieldsOnce", unfollowed := true, recurses := true, apart := false, narrowed := true }
def FieldsOnceUptoSaid : Prop := fieldsOnceUptoRow.holds Try.pinned (OpenSpec.upto fieldsOnceSpec)

end Rows
end Go.Proofs.Ytganobhodimjnaa
