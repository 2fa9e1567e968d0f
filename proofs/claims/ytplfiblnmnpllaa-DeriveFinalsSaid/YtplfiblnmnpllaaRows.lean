/-
  No cell of these rows narrows 'for every input' (looked for: loops, veiled, ifaces, maps, wideKeys, modest, calm, conditions, laid).
  DERIVED. THE GIVEN ROWS OF THIS SEAT. 9 by the template 'for every input the law returns true; each argument reads behind the call as it read before'; 0 by the template 'total and deterministic' (their statements: YtplfiblnmnpllaaTotals.lean).
  GIVEN WITH THE SEED: the statements are not yours to turn. If you find one false, say at which input.
  Laid BY PROGRAM, IN A SANDBOX (cutbox-rows.mjs): the forced cells as the released guide's own fill.sh prints them over the translation 0640073fe11687e8… (all of the seat's roots in one cut). By AI agents, Wed Nov 11 2026. No macro, syntax, notation, axiom, sorry.
-/
import Derived.Test.YtplfiblnmnpllaaChecked
import GoSem.Claim
import GoSem.ClaimJoined
import GoSem.ClaimMapViews
import Derived.JoinedTies
import Derived.KernelRfl
namespace Go.Proofs.Ytplfiblnmnpllaa
/- THE CELL 'sum', in the pinned program and in every row, IS THE sha256 OF THE DUMP (.gsa) THAT YtplfiblnmnpllaaProg.lean LOADS. Nothing in Lean hashes anything: it is a label: what it is worth is what the hold of that sum in a sandbox is worth. -/
noncomputable def Try.pinned : Pinned := { name := "ytplfiblnmnpllaa", sum := "0640073fe11687e8cc7760b3311289a9e1f2fa10935e2742718e91201488e8c1", checked := Try.checked }
namespace Rows
def none {H : Type} : Left H := { results := [], args := [] }

/-- 'quadratlaw09.DeriveChecks': WHATEVER THE INPUT: true; the input reads as it did. -/
def deriveChecksSpec : ChangeSpec := { name := "deriveChecks", fn := fun _ => fun
  | [d] => { results := [.lit (.bool true)], args := [d] }
  | _ => none }
def deriveChecksRow : OpenClaim := { program := "ytplfiblnmnpllaa", sum := "0640073fe11687e8cc7760b3311289a9e1f2fa10935e2742718e91201488e8c1", func := "quadrat/quadratlaw09.DeriveChecks", spec := "deriveChecks", unfollowed := true, recurses := true, apart := false }
def DeriveChecksSaid : Prop := deriveChecksRow.holds Try.pinned (OpenSpec.ofChange deriveChecksSpec)

/-- ITS FALSE NEIGHBOUR: 'it returns false'. Refute it at one input. -/
def deriveChecksWrong : ChangeSpec := { name := "deriveChecks", fn := fun _ => fun
  | [d] => { results := [.lit (.bool false)], args := [d] }
  | _ => none }
def DeriveChecksWrongFalsely : Prop := deriveChecksRow.holds Try.pinned (OpenSpec.ofChange deriveChecksWrong)

/-- 'quadratlaw09.DeriveOffsets': WHATEVER THE INPUT: true; the input reads as it did. -/
def deriveOffsetsSpec : ChangeSpec := { name := "deriveOffsets", fn := fun _ => fun
  | [d1, d2, d3] => { results := [.lit (.bool true)], args := [d1, d2, d3] }
  | _ => none }
def deriveOffsetsRow : OpenClaim := { program := "ytplfiblnmnpllaa", sum := "0640073fe11687e8cc7760b3311289a9e1f2fa10935e2742718e91201488e8c1", func := "quadrat/quadratlaw09.DeriveOffsets", spec := "deriveOffsets", unfollowed := true, recurses := true, apart := false }
def DeriveOffsetsSaid : Prop := deriveOffsetsRow.holds Try.pinned (OpenSpec.ofChange deriveOffsetsSpec)

/-- ITS FALSE NEIGHBOUR: 'it returns false'. Refute it at one input. -/
def deriveOffsetsWrong : ChangeSpec := { name := "deriveOffsets", fn := fun _ => fun
  | [d1, d2, d3] => { results := [.lit (.bool false)], args := [d1, d2, d3] }
  | _ => none }
def DeriveOffsetsWrongFalsely : Prop := deriveOffsetsRow.holds Try.pinned (OpenSpec.ofChange deriveOffsetsWrong)

/-- 'quadratlaw09.DeriveApart': WHATEVER THE INPUT: true; the input reads as it did. -/
def deriveApartSpec : ChangeSpec := { name := "deriveApart", fn := fun _ => fun
  | [d1, d2] => { results := [.lit (.bool true)], args := [d1, d2] }
  | _ => none }
def deriveApartRow : OpenClaim := { program := "ytplfiblnmnpllaa", sum := "0640073fe11687e8cc7760b3311289a9e1f2fa10935e2742718e91201488e8c1", func := "quadrat/quadratlaw09.DeriveApart", spec := "deriveApart", unfollowed := true, recurses := true, apart := false }
def DeriveApartSaid : Prop := deriveApartRow.holds Try.pinned (OpenSpec.ofChange deriveApartSpec)

/-- ITS FALSE NEIGHBOUR: 'it returns false'. Refute it at one input. -/
def deriveApartWrong : ChangeSpec := { name := "deriveApart", fn := fun _ => fun
  | [d1, d2] => { results := [.lit (.bool false)], args := [d1, d2] }
  | _ => none }
def DeriveApartWrongFalsely : Prop := deriveApartRow.holds Try.pinned (OpenSpec.ofChange deriveApartWrong)

/-- 'quadratlaw09.DeriveExtends': WHATEVER THE INPUT: true; the input reads as it did. -/
def deriveExtendsSpec : ChangeSpec := { name := "deriveExtends", fn := fun _ => fun
  | [d1, d2, d3] => { results := [.lit (.bool true)], args := [d1, d2, d3] }
  | _ => none }
def deriveExtendsRow : OpenClaim := { program := "ytplfiblnmnpllaa", sum := "0640073fe11687e8cc7760b3311289a9e1f2fa10935e2742718e91201488e8c1", func := "quadrat/quadratlaw09.DeriveExtends", spec := "deriveExtends", unfollowed := true, recurses := true, apart := false }
def DeriveExtendsSaid : Prop := deriveExtendsRow.holds Try.pinned (OpenSpec.ofChange deriveExtendsSpec)

/-- ITS FALSE NEIGHBOUR: 'it returns false'. Refute it at one input. -/
def deriveExtendsWrong : ChangeSpec := { name := "deriveExtends", fn := fun _ => fun
  | [d1, d2, d3] => { results := [.lit (.bool false)], args := [d1, d2, d3] }
  | _ => none }
def DeriveExtendsWrongFalsely : Prop := deriveExtendsRow.holds Try.pinned (OpenSpec.ofChange deriveExtendsWrong)

/-- 'quadratlaw09.DeriveSizes': WHATEVER THE INPUT: true; the input reads as it did. -/
def deriveSizesSpec : ChangeSpec := { name := "deriveSizes", fn := fun _ => fun
  | [d1, d2] => { results := [.lit (.bool true)], args := [d1, d2] }
  | _ => none }
def deriveSizesRow : OpenClaim := { program := "ytplfiblnmnpllaa", sum := "0640073fe11687e8cc7760b3311289a9e1f2fa10935e2742718e91201488e8c1", func := "quadrat/quadratlaw09.DeriveSizes", spec := "deriveSizes", unfollowed := true, recurses := true, apart := false }
def DeriveSizesSaid : Prop := deriveSizesRow.holds Try.pinned (OpenSpec.ofChange deriveSizesSpec)

/-- ITS FALSE NEIGHBOUR: 'it returns false'. Refute it at one input. -/
def deriveSizesWrong : ChangeSpec := { name := "deriveSizes", fn := fun _ => fun
  | [d1, d2] => { results := [.lit (.bool false)], args := [d1, d2] }
  | _ => none }
def DeriveSizesWrongFalsely : Prop := deriveSizesRow.holds Try.pinned (OpenSpec.ofChange deriveSizesWrong)

/-- 'quadratlaw09.DeriveSelects': WHATEVER THE INPUT: true; the input reads as it did. -/
def deriveSelectsSpec : ChangeSpec := { name := "deriveSelects", fn := fun _ => fun
  | [d1, d2, d3] => { results := [.lit (.bool true)], args := [d1, d2, d3] }
  | _ => none }
def deriveSelectsRow : OpenClaim := { program := "ytplfiblnmnpllaa", sum := "0640073fe11687e8cc7760b3311289a9e1f2fa10935e2742718e91201488e8c1", func := "quadrat/quadratlaw09.DeriveSelects", spec := "deriveSelects", unfollowed := true, recurses := true, apart := false }
def DeriveSelectsSaid : Prop := deriveSelectsRow.holds Try.pinned (OpenSpec.ofChange deriveSelectsSpec)

/-- ITS FALSE NEIGHBOUR: 'it returns false'. Refute it at one input. -/
def deriveSelectsWrong : ChangeSpec := { name := "deriveSelects", fn := fun _ => fun
  | [d1, d2, d3] => { results := [.lit (.bool false)], args := [d1, d2, d3] }
  | _ => none }
def DeriveSelectsWrongFalsely : Prop := deriveSelectsRow.holds Try.pinned (OpenSpec.ofChange deriveSelectsWrong)

/-- 'quadratlaw09.DeriveBindings': WHATEVER THE INPUT: true; the input reads as it did. -/
def deriveBindingsSpec : ChangeSpec := { name := "deriveBindings", fn := fun _ => fun
  | [d1, d2] => { results := [.lit (.bool true)], args := [d1, d2] }
  | _ => none }
def deriveBindingsRow : OpenClaim := { program := "ytplfiblnmnpllaa", sum := "0640073fe11687e8cc7760b3311289a9e1f2fa10935e2742718e91201488e8c1", func := "quadrat/quadratlaw09.DeriveBindings", spec := "deriveBindings", unfollowed := true, recurses := true, apart := false }
def DeriveBindingsSaid : Prop := deriveBindingsRow.holds Try.pinned (OpenSpec.ofChange deriveBindingsSpec)

/-- ITS FALSE NEIGHBOUR: 'it returns false'. Refute it at one input. -/
def deriveBindingsWrong : ChangeSpec := { name := "deriveBindings", fn := fun _ => fun
  | [d1, d2] => { results := [.lit (.bool false)], args := [d1, d2] }
  | _ => none }
def DeriveBindingsWrongFalsely : Prop := deriveBindingsRow.holds Try.pinned (OpenSpec.ofChange deriveBindingsWrong)

/-- 'quadratlaw09.DeriveFinals': WHATEVER THE INPUT: true; the input reads as it did. -/
def deriveFinalsSpec : ChangeSpec := { name := "deriveFinals", fn := fun _ => fun
  | [d1, d2] => { results := [.lit (.bool true)], args := [d1, d2] }
  | _ => none }
def deriveFinalsRow : OpenClaim := { program := "ytplfiblnmnpllaa", sum := "0640073fe11687e8cc7760b3311289a9e1f2fa10935e2742718e91201488e8c1", func := "quadrat/quadratlaw09.DeriveFinals", spec := "deriveFinals", unfollowed := true, recurses := true, apart := false }
def DeriveFinalsSaid : Prop := deriveFinalsRow.holds Try.pinned (OpenSpec.ofChange deriveFinalsSpec)

/-- ITS FALSE NEIGHBOUR: 'it returns false'. Refute it at one input. -/
def deriveFinalsWrong : ChangeSpec := { name := "deriveFinals", fn := fun _ => fun
  | [d1, d2] => { results := [.lit (.bool false)], args := [d1, d2] }
  | _ => none }
def DeriveFinalsWrongFalsely : Prop := deriveFinalsRow.holds Try.pinned (OpenSpec.ofChange deriveFinalsWrong)

/-- 'quadratlaw09.DeriveFront': WHATEVER THE INPUT: true; the input reads as it did. -/
def deriveFrontSpec : ChangeSpec := { name := "deriveFront", fn := fun _ => fun
  | [d1, d2, d3] => { results := [.lit (.bool true)], args := [d1, d2, d3] }
  | _ => none }
def deriveFrontRow : OpenClaim := { program := "ytplfiblnmnpllaa", sum := "0640073fe11687e8cc7760b3311289a9e1f2fa10935e2742718e91201488e8c1", func := "quadrat/quadratlaw09.DeriveFront", spec := "deriveFront", unfollowed := true, recurses := true, apart := false }
def DeriveFrontSaid : Prop := deriveFrontRow.holds Try.pinned (OpenSpec.ofChange deriveFrontSpec)

/-- ITS FALSE NEIGHBOUR: 'it returns false'. Refute it at one input. -/
def deriveFrontWrong : ChangeSpec := { name := "deriveFront", fn := fun _ => fun
  | [d1, d2, d3] => { results := [.lit (.bool false)], args := [d1, d2, d3] }
  | _ => none }
def DeriveFrontWrongFalsely : Prop := deriveFrontRow.holds Try.pinned (OpenSpec.ofChange deriveFrontWrong)

/- THE SECOND FORM. 'bulk': how many values and letters a reading holds, each counted each time it is reached (what is shared counts as often as it is met; a slice's spare places count too). A statement '..UptoSaid' is the law's where the arguments, and the package variables that the reading takes, are together of bulk at most 1048576: NARROWER than '..Said'. Prove '..Said' where nothing that the law and all that it calls make is longer than what came in: it says more and counts as full. Else prove '..UptoSaid'. A law counts once. -/
mutual
def uptoBulk {H : Type} : DataW H → Nat
  | .lit (.string bytes) => bytes.length + 1
  | .lit _ => 1
  | .nil => 1
  | .ptr d => uptoBulk d + 1
  | .slice elems spare => uptoBulkAll elems + uptoBulkAll spare + 1
  | .agg parts => uptoBulkAll parts + 1
  | .iface _ d => uptoBulk d + 1
  | .map entries => uptoBulkEntries entries + 1
  | .held _ => 1
def uptoBulkAll {H : Type} : List (DataW H) → Nat
  | [] => 0
  | d :: r => uptoBulk d + uptoBulkAll r
def uptoBulkEntries {H : Type} : List (Lit × DataW H) → Nat
  | [] => 0
  | x :: r => uptoBulkEntry x + uptoBulkEntries r
def uptoBulkEntry {H : Type} : Lit × DataW H → Nat
  | (.string bytes, d) => bytes.length + uptoBulk d + 1
  | (_, d) => uptoBulk d + 1
 end
def uptoSmall : (H : Type) → List (DataW H) → Bool := fun _ ds => decide (uptoBulkAll ds ≤ 1048576)
def OpenSpec.upto (s : _root_.Go.ChangeSpec) : _root_.Go.OpenSpec := { _root_.Go.OpenSpec.ofChange s with cond := some uptoSmall }

/-- 'quadratlaw09.DeriveChecks', WHERE WHAT IT READS IS OF BULK AT MOST 1048576: true; the input reads as it did. -/
def deriveChecksUptoRow : OpenClaim := { program := "ytplfiblnmnpllaa", sum := "0640073fe11687e8cc7760b3311289a9e1f2fa10935e2742718e91201488e8c1", func := "quadrat/quadratlaw09.DeriveChecks", spec := "deriveChecks", unfollowed := true, recurses := true, apart := false, narrowed := true }
def DeriveChecksUptoSaid : Prop := deriveChecksUptoRow.holds Try.pinned (OpenSpec.upto deriveChecksSpec)

/-- 'quadratlaw09.DeriveOffsets', WHERE WHAT IT READS IS OF BULK AT MOST 1048576: true; the input reads as it did. -/
def deriveOffsetsUptoRow : OpenClaim := { program := "ytplfiblnmnpllaa", sum := "0640073fe11687e8cc7760b3311289a9e1f2fa10935e2742718e91201488e8c1", func := "quadrat/quadratlaw09.DeriveOffsets", spec := "deriveOffsets", unfollowed := true, recurses := true, apart := false, narrowed := true }
def DeriveOffsetsUptoSaid : Prop := deriveOffsetsUptoRow.holds Try.pinned (OpenSpec.upto deriveOffsetsSpec)

/-- 'quadratlaw09.DeriveApart', WHERE WHAT IT READS IS OF BULK AT MOST 1048576: true; the input reads as it did. -/
def deriveApartUptoRow : OpenClaim := { program := "ytplfiblnmnpllaa", sum := "0640073fe11687e8cc7760b3311289a9e1f2fa10935e2742718e91201488e8c1", func := "quadrat/quadratlaw09.DeriveApart", spec := "deriveApart", unfollowed := true, recurses := true, apart := false, narrowed := true }
def DeriveApartUptoSaid : Prop := deriveApartUptoRow.holds Try.pinned (OpenSpec.upto deriveApartSpec)

/-- 'quadratlaw09.DeriveExtends', WHERE WHAT IT READS IS OF BULK AT MOST 1048576: true; the input reads as it did. -/
def deriveExtendsUptoRow : OpenClaim := { program := "ytplfiblnmnpllaa", sum := "0640073fe11687e8cc7760b3311289a9e1f2fa10935e2742718e91201488e8c1", func := "quadrat/quadratlaw09.DeriveExtends", spec := "deriveExtends", unfollowed := true, recurses := true, apart := false, narrowed := true }
def DeriveExtendsUptoSaid : Prop := deriveExtendsUptoRow.holds Try.pinned (OpenSpec.upto deriveExtendsSpec)

/-- 'quadratlaw09.DeriveSizes', WHERE WHAT IT READS IS OF BULK AT MOST 1048576: true; the input reads as it did. -/
def deriveSizesUptoRow : OpenClaim := { program := "ytplfiblnmnpllaa", sum := "0640073fe11687e8cc7760b3311289a9e1f2fa10935e2742718e91201488e8c1", func := "quadrat/quadratlaw09.DeriveSizes", spec := "deriveSizes", unfollowed := true, recurses := true, apart := false, narrowed := true }
def DeriveSizesUptoSaid : Prop := deriveSizesUptoRow.holds Try.pinned (OpenSpec.upto deriveSizesSpec)

/-- 'quadratlaw09.DeriveSelects', WHERE WHAT IT READS IS OF BULK AT MOST 1048576: true; the input reads as it did. -/
def deriveSelectsUptoRow : OpenClaim := { program := "ytplfiblnmnpllaa", sum := "0640073fe11687e8cc7760b3311289a9e1f2fa10935e2742718e91201488e8c1", func := "quadrat/quadratlaw09.DeriveSelects", spec := "deriveSelects", unfollowed := true, recurses := true, apart := false, narrowed := true }
def DeriveSelectsUptoSaid : Prop := deriveSelectsUptoRow.holds Try.pinned (OpenSpec.upto deriveSelectsSpec)

/-- 'quadratlaw09.DeriveBindings', WHERE WHAT IT READS IS OF BULK AT MOST 1048576: true; the input reads as it did. -/
def deriveBindingsUptoRow : OpenClaim := { program := "ytplfiblnmnpllaa", sum := "0640073fe11687e8cc7760b3311289a9e1f2fa10935e2742718e91201488e8c1", func := "quadrat/quadratlaw09.DeriveBindings", spec := "deriveBindings", unfollowed := true, recurses := true, apart := false, narrowed := true }
def DeriveBindingsUptoSaid : Prop := deriveBindingsUptoRow.holds Try.pinned (OpenSpec.upto deriveBindingsSpec)

/-- 'quadratlaw09.DeriveFinals', WHERE WHAT IT READS IS OF BULK AT MOST 1048576: true; the input reads as it did. -/
def deriveFinalsUptoRow : OpenClaim := { program := "ytplfiblnmnpllaa", sum := "0640073fe11687e8cc7760b3311289a9e1f2fa10935e2742718e91201488e8c1", func := "quadrat/quadratlaw09.DeriveFinals", spec := "deriveFinals", unfollowed := true, recurses := true, apart := false, narrowed := true }
def DeriveFinalsUptoSaid : Prop := deriveFinalsUptoRow.holds Try.pinned (OpenSpec.upto deriveFinalsSpec)

/-- 'quadratlaw09.DeriveFront', WHERE WHAT IT READS IS OF BULK AT MOST 1048576: true; the input reads as it did. -/
def deriveFrontUptoRow : OpenClaim := { program := "ytplfiblnmnpllaa", sum := "0640073fe11687e8cc7760b3311289a9e1f2fa10935e2742718e91201488e8c1", func := "quadrat/quadratlaw09.DeriveFront", spec := "deriveFront", unfollowed := true, recurses := true, apart := false, narrowed := true }
def DeriveFrontUptoSaid : Prop := deriveFrontUptoRow.holds Try.pinned (OpenSpec.upto deriveFrontSpec)

end Rows
end Go.Proofs.Ytplfiblnmnpllaa
