/-
  No cell of these rows narrows 'for every input' (looked for: loops, veiled, ifaces, maps, wideKeys, modest, calm, conditions, laid).
  DERIVED. THE GIVEN ROWS OF THIS SEAT. 7 by the template 'for every input the law returns true; each argument reads behind the call as it read before'; 0 by the template 'total and deterministic' (their statements: YtcfoobpnmeaflaaTotals.lean).
  GIVEN WITH THE SEED: the statements are not yours to turn. If you find one false, say at which input.
  Laid BY PROGRAM, IN A SANDBOX (cutbox-rows.mjs): the forced cells as the released guide's own fill.sh prints them over the translation 9258bccc056abc29… (all of the seat's roots in one cut). By AI agents, Wed Nov 11 2026. No macro, syntax, notation, axiom, sorry.
-/
import Derived.Test.YtcfoobpnmeaflaaChecked
import GoSem.Claim
import GoSem.ClaimJoined
import GoSem.ClaimMapViews
import Derived.JoinedTies
import Derived.KernelRfl
namespace Go.Proofs.Ytcfoobpnmeaflaa
/- THE CELL 'sum', in the pinned program and in every row, IS THE sha256 OF THE DUMP (.gsa) THAT YtcfoobpnmeaflaaProg.lean LOADS. Nothing in Lean hashes anything: it is a label: what it is worth is what the hold of that sum in a sandbox is worth. -/
noncomputable def Try.pinned : Pinned := { name := "ytcfoobpnmeaflaa", sum := "9258bccc056abc29833e2b63229c4440d5529dcd985d3fd50daa57edc52f2d3a", checked := Try.checked }
namespace Rows
def none {H : Type} : Left H := { results := [], args := [] }

/-- 'quadratlaw25.ImageValids': WHATEVER THE INPUT: true; the input reads as it did. -/
def imageValidsSpec : ChangeSpec := { name := "imageValids", fn := fun _ => fun
  | [d] => { results := [.lit (.bool true)], args := [d] }
  | _ => none }
def imageValidsRow : OpenClaim := { program := "ytcfoobpnmeaflaa", sum := "9258bccc056abc29833e2b63229c4440d5529dcd985d3fd50daa57edc52f2d3a", func := "quadrat/quadratlaw25.ImageValids", spec := "imageValids", unfollowed := true, recurses := true, apart := false }
def ImageValidsSaid : Prop := imageValidsRow.holds Try.pinned (OpenSpec.ofChange imageValidsSpec)

/-- ITS FALSE NEIGHBOUR: 'it returns false'. Refute it at one input. -/
def imageValidsWrong : ChangeSpec := { name := "imageValids", fn := fun _ => fun
  | [d] => { results := [.lit (.bool false)], args := [d] }
  | _ => none }
def ImageValidsWrongFalsely : Prop := imageValidsRow.holds Try.pinned (OpenSpec.ofChange imageValidsWrong)

/-- 'quadratlaw25.ImageLocks': WHATEVER THE INPUT: true; the input reads as it did. -/
def imageLocksSpec : ChangeSpec := { name := "imageLocks", fn := fun _ => fun
  | [d1, d2] => { results := [.lit (.bool true)], args := [d1, d2] }
  | _ => none }
def imageLocksRow : OpenClaim := { program := "ytcfoobpnmeaflaa", sum := "9258bccc056abc29833e2b63229c4440d5529dcd985d3fd50daa57edc52f2d3a", func := "quadrat/quadratlaw25.ImageLocks", spec := "imageLocks", unfollowed := true, recurses := true, apart := false }
def ImageLocksSaid : Prop := imageLocksRow.holds Try.pinned (OpenSpec.ofChange imageLocksSpec)

/-- ITS FALSE NEIGHBOUR: 'it returns false'. Refute it at one input. -/
def imageLocksWrong : ChangeSpec := { name := "imageLocks", fn := fun _ => fun
  | [d1, d2] => { results := [.lit (.bool false)], args := [d1, d2] }
  | _ => none }
def ImageLocksWrongFalsely : Prop := imageLocksRow.holds Try.pinned (OpenSpec.ofChange imageLocksWrong)

/-- 'quadratlaw25.ImageRuns': WHATEVER THE INPUT: true; the input reads as it did. -/
def imageRunsSpec : ChangeSpec := { name := "imageRuns", fn := fun _ => fun
  | [d1, d2] => { results := [.lit (.bool true)], args := [d1, d2] }
  | _ => none }
def imageRunsRow : OpenClaim := { program := "ytcfoobpnmeaflaa", sum := "9258bccc056abc29833e2b63229c4440d5529dcd985d3fd50daa57edc52f2d3a", func := "quadrat/quadratlaw25.ImageRuns", spec := "imageRuns", unfollowed := true, recurses := true, apart := false }
def ImageRunsSaid : Prop := imageRunsRow.holds Try.pinned (OpenSpec.ofChange imageRunsSpec)

/-- ITS FALSE NEIGHBOUR: 'it returns false'. Refute it at one input. -/
def imageRunsWrong : ChangeSpec := { name := "imageRuns", fn := fun _ => fun
  | [d1, d2] => { results := [.lit (.bool false)], args := [d1, d2] }
  | _ => none }
def ImageRunsWrongFalsely : Prop := imageRunsRow.holds Try.pinned (OpenSpec.ofChange imageRunsWrong)

/-- 'quadratlaw25.ImageSteps': WHATEVER THE INPUT: true; the input reads as it did. -/
def imageStepsSpec : ChangeSpec := { name := "imageSteps", fn := fun _ => fun
  | [d1, d2] => { results := [.lit (.bool true)], args := [d1, d2] }
  | _ => none }
def imageStepsRow : OpenClaim := { program := "ytcfoobpnmeaflaa", sum := "9258bccc056abc29833e2b63229c4440d5529dcd985d3fd50daa57edc52f2d3a", func := "quadrat/quadratlaw25.ImageSteps", spec := "imageSteps", unfollowed := true, recurses := true, apart := false }
def ImageStepsSaid : Prop := imageStepsRow.holds Try.pinned (OpenSpec.ofChange imageStepsSpec)

/-- ITS FALSE NEIGHBOUR: 'it returns false'. Refute it at one input. -/
def imageStepsWrong : ChangeSpec := { name := "imageSteps", fn := fun _ => fun
  | [d1, d2] => { results := [.lit (.bool false)], args := [d1, d2] }
  | _ => none }
def ImageStepsWrongFalsely : Prop := imageStepsRow.holds Try.pinned (OpenSpec.ofChange imageStepsWrong)

/-- 'quadratlaw25.ImageLogs': WHATEVER THE INPUT: true; the input reads as it did. -/
def imageLogsSpec : ChangeSpec := { name := "imageLogs", fn := fun _ => fun
  | [d1, d2] => { results := [.lit (.bool true)], args := [d1, d2] }
  | _ => none }
def imageLogsRow : OpenClaim := { program := "ytcfoobpnmeaflaa", sum := "9258bccc056abc29833e2b63229c4440d5529dcd985d3fd50daa57edc52f2d3a", func := "quadrat/quadratlaw25.ImageLogs", spec := "imageLogs", unfollowed := true, recurses := true, apart := false }
def ImageLogsSaid : Prop := imageLogsRow.holds Try.pinned (OpenSpec.ofChange imageLogsSpec)

/-- ITS FALSE NEIGHBOUR: 'it returns false'. Refute it at one input. -/
def imageLogsWrong : ChangeSpec := { name := "imageLogs", fn := fun _ => fun
  | [d1, d2] => { results := [.lit (.bool false)], args := [d1, d2] }
  | _ => none }
def ImageLogsWrongFalsely : Prop := imageLogsRow.holds Try.pinned (OpenSpec.ofChange imageLogsWrong)

/-- 'quadratlaw25.ImageCopies': WHATEVER THE INPUT: true; the input reads as it did. -/
def imageCopiesSpec : ChangeSpec := { name := "imageCopies", fn := fun _ => fun
  | [d1, d2, d3] => { results := [.lit (.bool true)], args := [d1, d2, d3] }
  | _ => none }
def imageCopiesRow : OpenClaim := { program := "ytcfoobpnmeaflaa", sum := "9258bccc056abc29833e2b63229c4440d5529dcd985d3fd50daa57edc52f2d3a", func := "quadrat/quadratlaw25.ImageCopies", spec := "imageCopies", inPlace := ["maps.clone"], unfollowed := true, recurses := true, apart := false }
def ImageCopiesSaid : Prop := imageCopiesRow.holds Try.pinned (OpenSpec.ofChange imageCopiesSpec)

/-- ITS FALSE NEIGHBOUR: 'it returns false'. Refute it at one input. -/
def imageCopiesWrong : ChangeSpec := { name := "imageCopies", fn := fun _ => fun
  | [d1, d2, d3] => { results := [.lit (.bool false)], args := [d1, d2, d3] }
  | _ => none }
def ImageCopiesWrongFalsely : Prop := imageCopiesRow.holds Try.pinned (OpenSpec.ofChange imageCopiesWrong)

/-- 'quadratlaw25.ImageNil': WHATEVER THE INPUT: true; the input reads as it did. -/
def imageNilSpec : ChangeSpec := { name := "imageNil", fn := fun _ => fun
  | [d] => { results := [.lit (.bool true)], args := [d] }
  | _ => none }
def imageNilRow : OpenClaim := { program := "ytcfoobpnmeaflaa", sum := "9258bccc056abc29833e2b63229c4440d5529dcd985d3fd50daa57edc52f2d3a", func := "quadrat/quadratlaw25.ImageNil", spec := "imageNil", inPlace := ["maps.clone"], unfollowed := true, recurses := true, apart := false }
def ImageNilSaid : Prop := imageNilRow.holds Try.pinned (OpenSpec.ofChange imageNilSpec)

/-- ITS FALSE NEIGHBOUR: 'it returns false'. Refute it at one input. -/
def imageNilWrong : ChangeSpec := { name := "imageNil", fn := fun _ => fun
  | [d] => { results := [.lit (.bool false)], args := [d] }
  | _ => none }
def ImageNilWrongFalsely : Prop := imageNilRow.holds Try.pinned (OpenSpec.ofChange imageNilWrong)

/- THE SECOND FORM. 'bulk': how many values and letters a reading holds, each counted each time it is reached (what is shared counts as often as it is met; a slice's spare places count too). A statement '..UptoSaid' is the law's where the arguments, and the package variables that the reading takes, are together of bulk at most 1048576: NARROWER than '..Said'. Prove '..Said' where nothing that the law and all that it calls make is longer than what came in: it says more and counts as full. Else prove '..UptoSaid'. A law counts once. -/
mutual
def uptoBulk {H : Type} : DataW H → Nat
  | .lit (.string bytes) => bytes.length + 1
  | .lit _ => 1
  | .nil => 1
  | .ptr d => uptoBulk d + 1
  | .slice elems spare => uptoBulkAll elems + uptoBulkAll spare + 1
  | .agg parts => uptoBulkAll parts + 1
  | .iface _ d => uptoBulk d + 1
  | .map entries => uptoBulkEntries entries + 1
  | .held _ => 1
def uptoBulkAll {H : Type} : List (DataW H) → Nat
  | [] => 0
  | d :: r => uptoBulk d + uptoBulkAll r
def uptoBulkEntries {H : Type} : List (Lit × DataW H) → Nat
  | [] => 0
  | x :: r => uptoBulkEntry x + uptoBulkEntries r
def uptoBulkEntry {H : Type} : Lit × DataW H → Nat
  | (.string bytes, d) => bytes.length + uptoBulk d + 1
  | (_, d) => uptoBulk d + 1
 end
def uptoSmall : (H : Type) → List (DataW H) → Bool := fun _ ds => decide (uptoBulkAll ds ≤ 1048576)
def OpenSpec.upto (s : _root_.Go.ChangeSpec) : _root_.Go.OpenSpec := { _root_.Go.OpenSpec.ofChange s with cond := some uptoSmall }

/-- 'quadratlaw25.ImageValids', WHERE WHAT IT READS IS OF BULK AT MOST 1048576: true; the input reads as it did. -/
def imageValidsUptoRow : OpenClaim := { program := "ytcfoobpnmeaflaa", sum := "9258bccc056abc29833e2b63229c4440d5529dcd985d3fd50daa57edc52f2d3a", func := "quadrat/quadratlaw25.ImageValids", spec := "imageValids", unfollowed := true, recurses := true, apart := false, narrowed := true }
def ImageValidsUptoSaid : Prop := imageValidsUptoRow.holds Try.pinned (OpenSpec.upto imageValidsSpec)

/-- 'quadratlaw25.ImageLocks', WHERE WHAT IT READS IS OF BULK AT MOST 1048576: true; the input reads as it did. -/
def imageLocksUptoRow : OpenClaim := { program := "ytcfoobpnmeaflaa", sum := "9258bccc056abc29833e2b63229c4440d5529dcd985d3fd50daa57edc52f2d3a", func := "quadrat/quadratlaw25.ImageLocks", spec := "imageLocks", unfollowed := true, recurses := true, apart := false, narrowed := true }
def ImageLocksUptoSaid : Prop := imageLocksUptoRow.holds Try.pinned (OpenSpec.upto imageLocksSpec)

/-- 'quadratlaw25.ImageRuns', WHERE WHAT IT READS IS OF BULK AT MOST 1048576: true; the input reads as it did. -/
def imageRunsUptoRow : OpenClaim := { program := "ytcfoobpnmeaflaa", sum := "9258bccc056abc29833e2b63229c4440d5529dcd985d3fd50daa57edc52f2d3a", func := "quadrat/quadratlaw25.ImageRuns", spec := "imageRuns", unfollowed := true, recurses := true, apart := false, narrowed := true }
def ImageRunsUptoSaid : Prop := imageRunsUptoRow.holds Try.pinned (OpenSpec.upto imageRunsSpec)

/-- 'quadratlaw25.ImageSteps', WHERE WHAT IT READS IS OF BULK AT MOST 1048576: true; the input reads as it did. -/
def imageStepsUptoRow : OpenClaim := { program := "ytcfoobpnmeaflaa", sum := "9258bccc056abc29833e2b63229c4440d5529dcd985d3fd50daa57edc52f2d3a", func := "quadrat/quadratlaw25.ImageSteps", spec := "imageSteps", unfollowed := true, recurses := true, apart := false, narrowed := true }
def ImageStepsUptoSaid : Prop := imageStepsUptoRow.holds Try.pinned (OpenSpec.upto imageStepsSpec)

/-- 'quadratlaw25.ImageLogs', WHERE WHAT IT READS IS OF BULK AT MOST 1048576: true; the input reads as it did. -/
def imageLogsUptoRow : OpenClaim := { program := "ytcfoobpnmeaflaa", sum := "9258bccc056abc29833e2b63229c4440d5529dcd985d3fd50daa57edc52f2d3a", func := "quadrat/quadratlaw25.ImageLogs", spec := "imageLogs", unfollowed := true, recurses := true, apart := false, narrowed := true }
def ImageLogsUptoSaid : Prop := imageLogsUptoRow.holds Try.pinned (OpenSpec.upto imageLogsSpec)

/-- 'quadratlaw25.ImageCopies', WHERE WHAT IT READS IS OF BULK AT MOST 1048576: true; the input reads as it did. -/
def imageCopiesUptoRow : OpenClaim := { program := "ytcfoobpnmeaflaa", sum := "9258bccc056abc29833e2b63229c4440d5529dcd985d3fd50daa57edc52f2d3a", func := "quadrat/quadratlaw25.ImageCopies", spec := "imageCopies", inPlace := ["maps.clone"], unfollowed := true, recurses := true, apart := false, narrowed := true }
def ImageCopiesUptoSaid : Prop := imageCopiesUptoRow.holds Try.pinned (OpenSpec.upto imageCopiesSpec)

/-- 'quadratlaw25.ImageNil', WHERE WHAT IT READS IS OF BULK AT MOST 1048576: true; the input reads as it did. -/
def imageNilUptoRow : OpenClaim := { program := "ytcfoobpnmeaflaa", sum := "9258bccc056abc29833e2b63229c4440d5529dcd985d3fd50daa57edc52f2d3a", func := "quadrat/quadratlaw25.ImageNil", spec := "imageNil", inPlace := ["maps.clone"], unfollowed := true, recurses := true, apart := false, narrowed := true }
def ImageNilUptoSaid : Prop := imageNilUptoRow.holds Try.pinned (OpenSpec.upto imageNilSpec)

end Rows
end Go.Proofs.Ytcfoobpnmeaflaa
