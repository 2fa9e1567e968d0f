/-
  No cell of these rows narrows 'for every input' (looked for: loops, veiled, ifaces, maps, wideKeys, modest, calm, conditions, laid).
  DERIVED. THE GIVEN ROWS OF THIS SEAT. 7 by the template 'for every input the law returns true; each argument reads behind the call as it read before'; 0 by the template 'total and deterministic' (their statements: YtpkoebbjnfpifaaTotals.lean).
  GIVEN WITH THE SEED: the statements are not yours to turn. If you find one false, say at which input.
  Laid BY PROGRAM, IN A SANDBOX (cutbox-rows.mjs): the forced cells as the released guide's own fill.sh prints them over the translation b4afd23f0e62faf5… (all of the seat's roots in one cut). By AI agents, Wed Nov 11 2026. No macro, syntax, notation, axiom, sorry.
-/
import Derived.Test.YtpkoebbjnfpifaaChecked
import GoSem.Claim
import GoSem.ClaimJoined
import GoSem.ClaimMapViews
import Derived.JoinedTies
import Derived.KernelRfl
namespace Go.Proofs.Ytpkoebbjnfpifaa
/- THE CELL 'sum', in the pinned program and in every row, IS THE sha256 OF THE DUMP (.gsa) THAT YtpkoebbjnfpifaaProg.lean LOADS. Nothing in Lean hashes anything: it is a label: what it is worth is what the hold of that sum in a sandbox is worth. -/
noncomputable def Try.pinned : Pinned := { name := "ytpkoebbjnfpifaa", sum := "b4afd23f0e62faf56cd1b7fb4ab2ffd48bc8ace40184eb55d94bb7005bec487d", checked := Try.checked }
namespace Rows
def none {H : Type} : Left H := { results := [], args := [] }

/-- 'quadratlaw10.GenericResolves': WHATEVER THE INPUT: true; the input reads as it did. -/
def genericResolvesSpec : ChangeSpec := { name := "genericResolves", fn := fun _ => fun
  | [d1, d2] => { results := [.lit (.bool true)], args := [d1, d2] }
  | _ => none }
def genericResolvesRow : OpenClaim := { program := "ytpkoebbjnfpifaa", sum := "b4afd23f0e62faf56cd1b7fb4ab2ffd48bc8ace40184eb55d94bb7005bec487d", func := "quadrat/quadratlaw10.GenericResolves", spec := "genericResolves", unfollowed := true, recurses := true, apart := false }
def GenericResolvesSaid : Prop := genericResolvesRow.holds Try.pinned (OpenSpec.ofChange genericResolvesSpec)

/-- ITS FALSE NEIGHBOUR: 'it returns false'. Refute it at one input. -/
def genericResolvesWrong : ChangeSpec := { name := "genericResolves", fn := fun _ => fun
  | [d1, d2] => { results := [.lit (.bool false)], args := [d1, d2] }
  | _ => none }
def GenericResolvesWrongFalsely : Prop := genericResolvesRow.holds Try.pinned (OpenSpec.ofChange genericResolvesWrong)

/-- 'quadratlaw10.GenericFits': WHATEVER THE INPUT: true; the input reads as it did. -/
def genericFitsSpec : ChangeSpec := { name := "genericFits", fn := fun _ => fun
  | [d1, d2] => { results := [.lit (.bool true)], args := [d1, d2] }
  | _ => none }
def genericFitsRow : OpenClaim := { program := "ytpkoebbjnfpifaa", sum := "b4afd23f0e62faf56cd1b7fb4ab2ffd48bc8ace40184eb55d94bb7005bec487d", func := "quadrat/quadratlaw10.GenericFits", spec := "genericFits", unfollowed := true, recurses := true, apart := false }
def GenericFitsSaid : Prop := genericFitsRow.holds Try.pinned (OpenSpec.ofChange genericFitsSpec)

/-- ITS FALSE NEIGHBOUR: 'it returns false'. Refute it at one input. -/
def genericFitsWrong : ChangeSpec := { name := "genericFits", fn := fun _ => fun
  | [d1, d2] => { results := [.lit (.bool false)], args := [d1, d2] }
  | _ => none }
def GenericFitsWrongFalsely : Prop := genericFitsRow.holds Try.pinned (OpenSpec.ofChange genericFitsWrong)

/-- 'quadratlaw10.GenericChecks': WHATEVER THE INPUT: true; the input reads as it did. -/
def genericChecksSpec : ChangeSpec := { name := "genericChecks", fn := fun _ => fun
  | [d] => { results := [.lit (.bool true)], args := [d] }
  | _ => none }
def genericChecksRow : OpenClaim := { program := "ytpkoebbjnfpifaa", sum := "b4afd23f0e62faf56cd1b7fb4ab2ffd48bc8ace40184eb55d94bb7005bec487d", func := "quadrat/quadratlaw10.GenericChecks", spec := "genericChecks", unfollowed := true, recurses := true, apart := false }
def GenericChecksSaid : Prop := genericChecksRow.holds Try.pinned (OpenSpec.ofChange genericChecksSpec)

/-- ITS FALSE NEIGHBOUR: 'it returns false'. Refute it at one input. -/
def genericChecksWrong : ChangeSpec := { name := "genericChecks", fn := fun _ => fun
  | [d] => { results := [.lit (.bool false)], args := [d] }
  | _ => none }
def GenericChecksWrongFalsely : Prop := genericChecksRow.holds Try.pinned (OpenSpec.ofChange genericChecksWrong)

/-- 'quadratlaw10.GenericOrders': WHATEVER THE INPUT: true; the input reads as it did. -/
def genericOrdersSpec : ChangeSpec := { name := "genericOrders", fn := fun _ => fun
  | [d1, d2, d3] => { results := [.lit (.bool true)], args := [d1, d2, d3] }
  | _ => none }
def genericOrdersRow : OpenClaim := { program := "ytpkoebbjnfpifaa", sum := "b4afd23f0e62faf56cd1b7fb4ab2ffd48bc8ace40184eb55d94bb7005bec487d", func := "quadrat/quadratlaw10.GenericOrders", spec := "genericOrders", unfollowed := true, recurses := true, apart := false }
def GenericOrdersSaid : Prop := genericOrdersRow.holds Try.pinned (OpenSpec.ofChange genericOrdersSpec)

/-- ITS FALSE NEIGHBOUR: 'it returns false'. Refute it at one input. -/
def genericOrdersWrong : ChangeSpec := { name := "genericOrders", fn := fun _ => fun
  | [d1, d2, d3] => { results := [.lit (.bool false)], args := [d1, d2, d3] }
  | _ => none }
def GenericOrdersWrongFalsely : Prop := genericOrdersRow.holds Try.pinned (OpenSpec.ofChange genericOrdersWrong)

/-- 'quadratlaw10.GenericPairs': WHATEVER THE INPUT: true; the input reads as it did. -/
def genericPairsSpec : ChangeSpec := { name := "genericPairs", fn := fun _ => fun
  | [d1, d2] => { results := [.lit (.bool true)], args := [d1, d2] }
  | _ => none }
def genericPairsRow : OpenClaim := { program := "ytpkoebbjnfpifaa", sum := "b4afd23f0e62faf56cd1b7fb4ab2ffd48bc8ace40184eb55d94bb7005bec487d", func := "quadrat/quadratlaw10.GenericPairs", spec := "genericPairs", unfollowed := true, recurses := true, apart := false }
def GenericPairsSaid : Prop := genericPairsRow.holds Try.pinned (OpenSpec.ofChange genericPairsSpec)

/-- ITS FALSE NEIGHBOUR: 'it returns false'. Refute it at one input. -/
def genericPairsWrong : ChangeSpec := { name := "genericPairs", fn := fun _ => fun
  | [d1, d2] => { results := [.lit (.bool false)], args := [d1, d2] }
  | _ => none }
def GenericPairsWrongFalsely : Prop := genericPairsRow.holds Try.pinned (OpenSpec.ofChange genericPairsWrong)

/-- 'quadratlaw10.GenericMeets': WHATEVER THE INPUT: true; the input reads as it did. -/
def genericMeetsSpec : ChangeSpec := { name := "genericMeets", fn := fun _ => fun
  | [d1, d2, d3] => { results := [.lit (.bool true)], args := [d1, d2, d3] }
  | _ => none }
def genericMeetsRow : OpenClaim := { program := "ytpkoebbjnfpifaa", sum := "b4afd23f0e62faf56cd1b7fb4ab2ffd48bc8ace40184eb55d94bb7005bec487d", func := "quadrat/quadratlaw10.GenericMeets", spec := "genericMeets", unfollowed := true, recurses := true, apart := false }
def GenericMeetsSaid : Prop := genericMeetsRow.holds Try.pinned (OpenSpec.ofChange genericMeetsSpec)

/-- ITS FALSE NEIGHBOUR: 'it returns false'. Refute it at one input. -/
def genericMeetsWrong : ChangeSpec := { name := "genericMeets", fn := fun _ => fun
  | [d1, d2, d3] => { results := [.lit (.bool false)], args := [d1, d2, d3] }
  | _ => none }
def GenericMeetsWrongFalsely : Prop := genericMeetsRow.holds Try.pinned (OpenSpec.ofChange genericMeetsWrong)

/-- 'quadratlaw10.GenericMerges': WHATEVER THE INPUT: true; the input reads as it did. -/
def genericMergesSpec : ChangeSpec := { name := "genericMerges", fn := fun _ => fun
  | [d1, d2] => { results := [.lit (.bool true)], args := [d1, d2] }
  | _ => none }
def genericMergesRow : OpenClaim := { program := "ytpkoebbjnfpifaa", sum := "b4afd23f0e62faf56cd1b7fb4ab2ffd48bc8ace40184eb55d94bb7005bec487d", func := "quadrat/quadratlaw10.GenericMerges", spec := "genericMerges", unfollowed := true, recurses := true, apart := false }
def GenericMergesSaid : Prop := genericMergesRow.holds Try.pinned (OpenSpec.ofChange genericMergesSpec)

/-- ITS FALSE NEIGHBOUR: 'it returns false'. Refute it at one input. -/
def genericMergesWrong : ChangeSpec := { name := "genericMerges", fn := fun _ => fun
  | [d1, d2] => { results := [.lit (.bool false)], args := [d1, d2] }
  | _ => none }
def GenericMergesWrongFalsely : Prop := genericMergesRow.holds Try.pinned (OpenSpec.ofChange genericMergesWrong)

/- THE SECOND FORM. 'bulk': how many values and letters a reading holds, each counted each time it is reached (what is shared counts as often as it is met; a slice's spare places count too). A statement '..UptoSaid' is the law's where the arguments, and the package variables that the reading takes, are together of bulk at most 1048576: NARROWER than '..Said'. Prove '..Said' where nothing that the law and all that it calls make is longer than what came in: it says more and counts as full. Else prove '..UptoSaid'. A law counts once. -/
mutual
def uptoBulk {H : Type} : DataW H → Nat
  | .lit (.string bytes) => bytes.length + 1
  | .lit _ => 1
  | .nil => 1
  | .ptr d => uptoBulk d + 1
  | .slice elems spare => uptoBulkAll elems + uptoBulkAll spare + 1
  | .agg parts => uptoBulkAll parts + 1
  | .iface _ d => uptoBulk d + 1
  | .map entries => uptoBulkEntries entries + 1
  | .held _ => 1
def uptoBulkAll {H : Type} : List (DataW H) → Nat
  | [] => 0
  | d :: r => uptoBulk d + uptoBulkAll r
def uptoBulkEntries {H : Type} : List (Lit × DataW H) → Nat
  | [] => 0
  | x :: r => uptoBulkEntry x + uptoBulkEntries r
def uptoBulkEntry {H : Type} : Lit × DataW H → Nat
  | (.string bytes, d) => bytes.length + uptoBulk d + 1
  | (_, d) => uptoBulk d + 1
 end
def uptoSmall : (H : Type) → List (DataW H) → Bool := fun _ ds => decide (uptoBulkAll ds ≤ 1048576)
def OpenSpec.upto (s : _root_.Go.ChangeSpec) : _root_.Go.OpenSpec := { _root_.Go.OpenSpec.ofChange s with cond := some uptoSmall }

/-- 'quadratlaw10.GenericResolves', WHERE WHAT IT READS IS OF BULK AT MOST 1048576: true; the input reads as it did. -/
def genericResolvesUptoRow : OpenClaim := { program := "ytpkoebbjnfpifaa", sum := "b4afd23f0e62faf56cd1b7fb4ab2ffd48bc8ace40184eb55d94bb7005bec487d", func := "quadrat/quadratlaw10.GenericResolves", spec := "genericResolves", unfollowed := true, recurses := true, apart := false, narrowed := true }
def GenericResolvesUptoSaid : Prop := genericResolvesUptoRow.holds Try.pinned (OpenSpec.upto genericResolvesSpec)

/-- 'quadratlaw10.GenericFits', WHERE WHAT IT READS IS OF BULK AT MOST 1048576: true; the input reads as it did. -/
def genericFitsUptoRow : OpenClaim := { program := "ytpkoebbjnfpifaa", sum := "b4afd23f0e62faf56cd1b7fb4ab2ffd48bc8ace40184eb55d94bb7005bec487d", func := "quadrat/quadratlaw10.GenericFits", spec := "genericFits", unfollowed := true, recurses := true, apart := false, narrowed := true }
def GenericFitsUptoSaid : Prop := genericFitsUptoRow.holds Try.pinned (OpenSpec.upto genericFitsSpec)

/-- 'quadratlaw10.GenericChecks', WHERE WHAT IT READS IS OF BULK AT MOST 1048576: true; the input reads as it did. -/
def genericChecksUptoRow : OpenClaim := { program := "ytpkoebbjnfpifaa", sum := "b4afd23f0e62faf56cd1b7fb4ab2ffd48bc8ace40184eb55d94bb7005bec487d", func := "quadrat/quadratlaw10.GenericChecks", spec := "genericChecks", unfollowed := true, recurses := true, apart := false, narrowed := true }
def GenericChecksUptoSaid : Prop := genericChecksUptoRow.holds Try.pinned (OpenSpec.upto genericChecksSpec)

/-- 'quadratlaw10.GenericOrders', WHERE WHAT IT READS IS OF BULK AT MOST 1048576: true; the input reads as it did. -/
def genericOrdersUptoRow : OpenClaim := { program := "ytpkoebbjnfpifaa", sum := "b4afd23f0e62faf56cd1b7fb4ab2ffd48bc8ace40184eb55d94bb7005bec487d", func := "quadrat/quadratlaw10.GenericOrders", spec := "genericOrders", unfollowed := true, recurses := true, apart := false, narrowed := true }
def GenericOrdersUptoSaid : Prop := genericOrdersUptoRow.holds Try.pinned (OpenSpec.upto genericOrdersSpec)

/-- 'quadratlaw10.GenericPairs', WHERE WHAT IT READS IS OF BULK AT MOST 1048576: true; the input reads as it did. -/
def genericPairsUptoRow : OpenClaim := { program := "ytpkoebbjnfpifaa", sum := "b4afd23f0e62faf56cd1b7fb4ab2ffd48bc8ace40184eb55d94bb7005bec487d", func := "quadrat/quadratlaw10.GenericPairs", spec := "genericPairs", unfollowed := true, recurses := true, apart := false, narrowed := true }
def GenericPairsUptoSaid : Prop := genericPairsUptoRow.holds Try.pinned (OpenSpec.upto genericPairsSpec)

/-- 'quadratlaw10.GenericMeets', WHERE WHAT IT READS IS OF BULK AT MOST 1048576: true; the input reads as it did. -/
def genericMeetsUptoRow : OpenClaim := { program := "ytpkoebbjnfpifaa", sum := "b4afd23f0e62faf56cd1b7fb4ab2ffd48bc8ace40184eb55d94bb7005bec487d", func := "quadrat/quadratlaw10.GenericMeets", spec := "genericMeets", unfollowed := true, recurses := true, apart := false, narrowed := true }
def GenericMeetsUptoSaid : Prop := genericMeetsUptoRow.holds Try.pinned (OpenSpec.upto genericMeetsSpec)

/-- 'quadratlaw10.GenericMerges', WHERE WHAT IT READS IS OF BULK AT MOST 1048576: true; the input reads as it did. -/
def genericMergesUptoRow : OpenClaim := { program := "ytpkoebbjnfpifaa", sum := "b4afd23f0e62faf56cd1b7fb4ab2ffd48bc8ace40184eb55d94bb7005bec487d", func := "quadrat/quadratlaw10.GenericMerges", spec := "genericMerges", unfollowed := true, recurses := true, apart := false, narrowed := true }
def GenericMergesUptoSaid : Prop := genericMergesUptoRow.holds Try.pinned (OpenSpec.upto genericMergesSpec)

end Rows
end Go.Proofs.Ytpkoebbjnfpifaa
