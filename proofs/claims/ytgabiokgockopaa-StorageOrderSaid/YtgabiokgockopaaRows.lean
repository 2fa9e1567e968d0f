/-
  No cell of these rows narrows 'for every input' (looked for: loops, veiled, ifaces, maps, wideKeys, modest, calm, conditions, laid).
  DERIVED. THE GIVEN ROWS OF THIS SEAT. 6 by the template 'for every input the law returns true; each argument reads behind the call as it read before'; 0 by the template 'total and deterministic' (their statements: YtgabiokgockopaaTotals.lean).
  GIVEN WITH THE SEED: the statements are not yours to turn. If you find one false, say at which input.
  Laid BY PROGRAM, IN A SANDBOX (cutbox-rows.mjs): the forced cells as the released guide's own fill.sh prints them over the translation e64b3f7fbf413018… (all of the seat's roots in one cut). By AI agents, Wed Nov 11 2026. No macro, syntax, notation, axiom, sorry.
-/
import Derived.Test.YtgabiokgockopaaChecked
import GoSem.Claim
import GoSem.ClaimJoined
import GoSem.ClaimMapViews
import Derived.JoinedTies
import Derived.KernelRfl
namespace Go.Proofs.Ytgabiokgockopaa
/- THE CELL 'sum', in the pinned program and in every row, IS THE sha256 OF THE DUMP (.gsa) THAT YtgabiokgockopaaProg.lean LOADS. Nothing in Lean hashes anything: it is a label: what it is worth is what the hold of that sum in a sandbox is worth. -/
noncomputable def Try.pinned : Pinned := { name := "ytgabiokgockopaa", sum := "e64b3f7fbf413018050c650ba11831933cc7c0ab1d29435e06540b77fdbfc22e", checked := Try.checked }
namespace Rows
def none {H : Type} : Left H := { results := [], args := [] }

/-- 'quadratlaw11.StorageLays': WHATEVER THE INPUT: true; the input reads as it did. -/
def storageLaysSpec : ChangeSpec := { name := "storageLays", fn := fun _ => fun
  | [d1, d2, d3] => { results := [.lit (.bool true)], args := [d1, d2, d3] }
  | _ => none }
def storageLaysRow : OpenClaim := { program := "ytgabiokgockopaa", sum := "e64b3f7fbf413018050c650ba11831933cc7c0ab1d29435e06540b77fdbfc22e", func := "quadrat/quadratlaw11.StorageLays", spec := "storageLays", unfollowed := true, recurses := true, apart := false }
def StorageLaysSaid : Prop := storageLaysRow.holds Try.pinned (OpenSpec.ofChange storageLaysSpec)

/-- ITS FALSE NEIGHBOUR: 'it returns false'. Refute it at one input. -/
def storageLaysWrong : ChangeSpec := { name := "storageLays", fn := fun _ => fun
  | [d1, d2, d3] => { results := [.lit (.bool false)], args := [d1, d2, d3] }
  | _ => none }
def StorageLaysWrongFalsely : Prop := storageLaysRow.holds Try.pinned (OpenSpec.ofChange storageLaysWrong)

/-- 'quadratlaw11.StorageAgrees': WHATEVER THE INPUT: true; the input reads as it did. -/
def storageAgreesSpec : ChangeSpec := { name := "storageAgrees", fn := fun _ => fun
  | [d1, d2, d3] => { results := [.lit (.bool true)], args := [d1, d2, d3] }
  | _ => none }
def storageAgreesRow : OpenClaim := { program := "ytgabiokgockopaa", sum := "e64b3f7fbf413018050c650ba11831933cc7c0ab1d29435e06540b77fdbfc22e", func := "quadrat/quadratlaw11.StorageAgrees", spec := "storageAgrees", unfollowed := true, recurses := true, apart := false }
def StorageAgreesSaid : Prop := storageAgreesRow.holds Try.pinned (OpenSpec.ofChange storageAgreesSpec)

/-- ITS FALSE NEIGHBOUR: 'it returns false'. Refute it at one input. -/
def storageAgreesWrong : ChangeSpec := { name := "storageAgrees", fn := fun _ => fun
  | [d1, d2, d3] => { results := [.lit (.bool false)], args := [d1, d2, d3] }
  | _ => none }
def StorageAgreesWrongFalsely : Prop := storageAgreesRow.holds Try.pinned (OpenSpec.ofChange storageAgreesWrong)

/-- 'quadratlaw11.StorageOrder': WHATEVER THE INPUT: true; the input reads as it did. -/
def storageOrderSpec : ChangeSpec := { name := "storageOrder", fn := fun _ => fun
  | [d1, d2, d3] => { results := [.lit (.bool true)], args := [d1, d2, d3] }
  | _ => none }
def storageOrderRow : OpenClaim := { program := "ytgabiokgockopaa", sum := "e64b3f7fbf413018050c650ba11831933cc7c0ab1d29435e06540b77fdbfc22e", func := "quadrat/quadratlaw11.StorageOrder", spec := "storageOrder", unfollowed := true, recurses := true, apart := false }
def StorageOrderSaid : Prop := storageOrderRow.holds Try.pinned (OpenSpec.ofChange storageOrderSpec)

/-- ITS FALSE NEIGHBOUR: 'it returns false'. Refute it at one input. -/
def storageOrderWrong : ChangeSpec := { name := "storageOrder", fn := fun _ => fun
  | [d1, d2, d3] => { results := [.lit (.bool false)], args := [d1, d2, d3] }
  | _ => none }
def StorageOrderWrongFalsely : Prop := storageOrderRow.holds Try.pinned (OpenSpec.ofChange storageOrderWrong)

/-- 'quadratlaw11.StorageChecks': WHATEVER THE INPUT: true; the input reads as it did. -/
def storageChecksSpec : ChangeSpec := { name := "storageChecks", fn := fun _ => fun
  | [d1, d2, d3] => { results := [.lit (.bool true)], args := [d1, d2, d3] }
  | _ => none }
def storageChecksRow : OpenClaim := { program := "ytgabiokgockopaa", sum := "e64b3f7fbf413018050c650ba11831933cc7c0ab1d29435e06540b77fdbfc22e", func := "quadrat/quadratlaw11.StorageChecks", spec := "storageChecks", unfollowed := true, recurses := true, apart := false }
def StorageChecksSaid : Prop := storageChecksRow.holds Try.pinned (OpenSpec.ofChange storageChecksSpec)

/-- ITS FALSE NEIGHBOUR: 'it returns false'. Refute it at one input. -/
def storageChecksWrong : ChangeSpec := { name := "storageChecks", fn := fun _ => fun
  | [d1, d2, d3] => { results := [.lit (.bool false)], args := [d1, d2, d3] }
  | _ => none }
def StorageChecksWrongFalsely : Prop := storageChecksRow.holds Try.pinned (OpenSpec.ofChange storageChecksWrong)

/-- 'quadratlaw11.StorageWho': WHATEVER THE INPUT: true; the input reads as it did. -/
def storageWhoSpec : ChangeSpec := { name := "storageWho", fn := fun _ => fun
  | [d1, d2, d3] => { results := [.lit (.bool true)], args := [d1, d2, d3] }
  | _ => none }
def storageWhoRow : OpenClaim := { program := "ytgabiokgockopaa", sum := "e64b3f7fbf413018050c650ba11831933cc7c0ab1d29435e06540b77fdbfc22e", func := "quadrat/quadratlaw11.StorageWho", spec := "storageWho", unfollowed := true, recurses := true, apart := false }
def StorageWhoSaid : Prop := storageWhoRow.holds Try.pinned (OpenSpec.ofChange storageWhoSpec)

/-- ITS FALSE NEIGHBOUR: 'it returns false'. Refute it at one input. -/
def storageWhoWrong : ChangeSpec := { name := "storageWho", fn := fun _ => fun
  | [d1, d2, d3] => { results := [.lit (.bool false)], args := [d1, d2, d3] }
  | _ => none }
def StorageWhoWrongFalsely : Prop := storageWhoRow.holds Try.pinned (OpenSpec.ofChange storageWhoWrong)

/-- 'quadratlaw11.StorageOverlaps': WHATEVER THE INPUT: true; the input reads as it did. -/
def storageOverlapsSpec : ChangeSpec := { name := "storageOverlaps", fn := fun _ => fun
  | [d1, d2] => { results := [.lit (.bool true)], args := [d1, d2] }
  | _ => none }
def storageOverlapsRow : OpenClaim := { program := "ytgabiokgockopaa", sum := "e64b3f7fbf413018050c650ba11831933cc7c0ab1d29435e06540b77fdbfc22e", func := "quadrat/quadratlaw11.StorageOverlaps", spec := "storageOverlaps", unfollowed := true, recurses := true, apart := false }
def StorageOverlapsSaid : Prop := storageOverlapsRow.holds Try.pinned (OpenSpec.ofChange storageOverlapsSpec)

/-- ITS FALSE NEIGHBOUR: 'it returns false'. Refute it at one input. -/
def storageOverlapsWrong : ChangeSpec := { name := "storageOverlaps", fn := fun _ => fun
  | [d1, d2] => { results := [.lit (.bool false)], args := [d1, d2] }
  | _ => none }
def StorageOverlapsWrongFalsely : Prop := storageOverlapsRow.holds Try.pinned (OpenSpec.ofChange storageOverlapsWrong)

/- THE SECOND FORM. 'bulk': how many values and letters a reading holds, each counted each time it is reached (what is shared counts as often as it is met; a slice's spare places count too). A statement '..UptoSaid' is the law's where the arguments, and the package variables that the reading takes, are together of bulk at most 1048576: NARROWER than '..Said'. Prove '..Said' where nothing that the law and all that it calls make is longer than what came in: it says more and counts as full. Else prove '..UptoSaid'. A law counts once. -/
mutual
def uptoBulk {H : Type} : DataW H → Nat
  | .lit (.string bytes) => bytes.length + 1
  | .lit _ => 1
  | .nil => 1
  | .ptr d => uptoBulk d + 1
  | .slice elems spare => uptoBulkAll elems + uptoBulkAll spare + 1
  | .agg parts => uptoBulkAll parts + 1
  | .iface _ d => uptoBulk d + 1
  | .map entries => uptoBulkEntries entries + 1
  | .held _ => 1
def uptoBulkAll {H : Type} : List (DataW H) → Nat
  | [] => 0
  | d :: r => uptoBulk d + uptoBulkAll r
def uptoBulkEntries {H : Type} : List (Lit × DataW H) → Nat
  | [] => 0
  | x :: r => uptoBulkEntry x + uptoBulkEntries r
def uptoBulkEntry {H : Type} : Lit × DataW H → Nat
  | (.string bytes, d) => bytes.length + uptoBulk d + 1
  | (_, d) => uptoBulk d + 1
 end
def uptoSmall : (H : Type) → List (DataW H) → Bool := fun _ ds => decide (uptoBulkAll ds ≤ 1048576)
def OpenSpec.upto (s : _root_.Go.ChangeSpec) : _root_.Go.OpenSpec := { _root_.Go.OpenSpec.ofChange s with cond := some uptoSmall }

/-- 'quadratlaw11.StorageLays', WHERE WHAT IT READS IS OF BULK AT MOST 1048576: true; the input reads as it did. -/
def storageLaysUptoRow : OpenClaim := { program := "ytgabiokgockopaa", sum := "e64b3f7fbf413018050c650ba11831933cc7c0ab1d29435e06540b77fdbfc22e", func := "quadrat/quadratlaw11.StorageLays", spec := "storageLays", unfollowed := true, recurses := true, apart := false, narrowed := true }
def StorageLaysUptoSaid : Prop := storageLaysUptoRow.holds Try.pinned (OpenSpec.upto storageLaysSpec)

/-- 'quadratlaw11.StorageAgrees', WHERE WHAT IT READS IS OF BULK AT MOST 1048576: true; the input reads as it did. -/
def storageAgreesUptoRow : OpenClaim := { program := "ytgabiokgockopaa", sum := "e64b3f7fbf413018050c650ba11831933cc7c0ab1d29435e06540b77fdbfc22e", func := "quadrat/quadratlaw11.StorageAgrees", spec := "storageAgrees", unfollowed := true, recurses := true, apart := false, narrowed := true }
def StorageAgreesUptoSaid : Prop := storageAgreesUptoRow.holds Try.pinned (OpenSpec.upto storageAgreesSpec)

/-- 'quadratlaw11.StorageOrder', WHERE WHAT IT READS IS OF BULK AT MOST 1048576: true; the input reads as it did. -/
def storageOrderUptoRow : OpenClaim := { program := "ytgabiokgockopaa", sum := "e64b3f7fbf413018050c650ba11831933cc7c0ab1d29435e06540b77fdbfc22e", func := "quadrat/quadratlaw11.StorageOrder", spec := "storageOrder", unfollowed := true, recurses := true, apart := false, narrowed := true }
def StorageOrderUptoSaid : Prop := storageOrderUptoRow.holds Try.pinned (OpenSpec.upto storageOrderSpec)

/-- 'quadratlaw11.StorageChecks', WHERE WHAT IT READS IS OF BULK AT MOST 1048576: true; the input reads as it did. -/
def storageChecksUptoRow : OpenClaim := { program := "ytgabiokgockopaa", sum := "e64b3f7fbf413018050c650ba11831933cc7c0ab1d29435e06540b77fdbfc22e", func := "quadrat/quadratlaw11.StorageChecks", spec := "storageChecks", unfollowed := true, recurses := true, apart := false, narrowed := true }
def StorageChecksUptoSaid : Prop := storageChecksUptoRow.holds Try.pinned (OpenSpec.upto storageChecksSpec)

/-- 'quadratlaw11.StorageWho', WHERE WHAT IT READS IS OF BULK AT MOST 1048576: true; the input reads as it did. -/
def storageWhoUptoRow : OpenClaim := { program := "ytgabiokgockopaa", sum := "e64b3f7fbf413018050c650ba11831933cc7c0ab1d29435e06540b77fdbfc22e", func := "quadrat/quadratlaw11.StorageWho", spec := "storageWho", unfollowed := true, recurses := true, apart := false, narrowed := true }
def StorageWhoUptoSaid : Prop := storageWhoUptoRow.holds Try.pinned (OpenSpec.upto storageWhoSpec)

/-- 'quadratlaw11.StorageOverlaps', WHERE WHAT IT READS IS OF BULK AT MOST 1048576: true; the input reads as it did. -/
def storageOverlapsUptoRow : OpenClaim := { program := "ytgabiokgockopaa", sum := "e64b3f7fbf413018050c650ba11831933cc7c0ab1d29435e06540b77fdbfc22e", func := "quadrat/quadratlaw11.StorageOverlaps", spec := "storageOverlaps", unfollowed := true, recurses := true, apart := false, narrowed := true }
def StorageOverlapsUptoSaid : Prop := storageOverlapsUptoRow.holds Try.pinned (OpenSpec.upto storageOverlapsSpec)

end Rows
end Go.Proofs.Ytgabiokgockopaa
