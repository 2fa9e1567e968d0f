/-
  No cell of these rows narrows 'for every input' (looked for: loops, veiled, ifaces, maps, wideKeys, modest, calm, conditions, laid).
  DERIVED. THE GIVEN ROWS OF THIS SEAT. 6 by the template 'for every input the law returns true; each argument reads behind the call as it read before'; 0 by the template 'total and deterministic' (their statements: YtdmpmbcnfoionaaTotals.lean).
  GIVEN WITH THE SEED: the statements are not yours to turn. If you find one false, say at which input.
  Laid BY PROGRAM, IN A SANDBOX (cutbox-rows.mjs): the forced cells as the released guide's own fill.sh prints them over the translation 1f64b62d527540ee… (all of the seat's roots in one cut). By AI agents, Wed Nov 11 2026. No macro, syntax, notation, axiom, sorry.
-/
import Derived.Test.YtdmpmbcnfoionaaChecked
import GoSem.Claim
import GoSem.ClaimJoined
import GoSem.ClaimMapViews
import Derived.JoinedTies
import Derived.KernelRfl
namespace Go.Proofs.Ytdmpmbcnfoionaa
/- THE CELL 'sum', in the pinned program and in every row, IS THE sha256 OF THE DUMP (.gsa) THAT YtdmpmbcnfoionaaProg.lean LOADS. Nothing in Lean hashes anything: it is a label: what it is worth is what the hold of that sum in a sandbox is worth. -/
noncomputable def Try.pinned : Pinned := { name := "ytdmpmbcnfoionaa", sum := "1f64b62d527540ee2de2683079d8796282f6cef246050c850868f6a91771390b", checked := Try.checked }
namespace Rows
def none {H : Type} : Left H := { results := [], args := [] }

/-- 'quadratlaw16.UnitSplits': WHATEVER THE INPUT: true; the input reads as it did. -/
def unitSplitsSpec : ChangeSpec := { name := "unitSplits", fn := fun _ => fun
  | [d1, d2] => { results := [.lit (.bool true)], args := [d1, d2] }
  | _ => none }
def unitSplitsRow : OpenClaim := { program := "ytdmpmbcnfoionaa", sum := "1f64b62d527540ee2de2683079d8796282f6cef246050c850868f6a91771390b", func := "quadrat/quadratlaw16.UnitSplits", spec := "unitSplits", inPlace := ["internal/bytealg.IndexByte"], apart := false }
def UnitSplitsSaid : Prop := unitSplitsRow.holds Try.pinned (OpenSpec.ofChange unitSplitsSpec)

/-- ITS FALSE NEIGHBOUR: 'it returns false'. Refute it at one input. -/
def unitSplitsWrong : ChangeSpec := { name := "unitSplits", fn := fun _ => fun
  | [d1, d2] => { results := [.lit (.bool false)], args := [d1, d2] }
  | _ => none }
def UnitSplitsWrongFalsely : Prop := unitSplitsRow.holds Try.pinned (OpenSpec.ofChange unitSplitsWrong)

/-- 'quadratlaw16.UnitBack': WHATEVER THE INPUT: true; the input reads as it did. -/
def unitBackSpec : ChangeSpec := { name := "unitBack", fn := fun _ => fun
  | [d1, d2] => { results := [.lit (.bool true)], args := [d1, d2] }
  | _ => none }
def unitBackRow : OpenClaim := { program := "ytdmpmbcnfoionaa", sum := "1f64b62d527540ee2de2683079d8796282f6cef246050c850868f6a91771390b", func := "quadrat/quadratlaw16.UnitBack", spec := "unitBack", inPlace := ["internal/bytealg.IndexByte"], apart := false }
def UnitBackSaid : Prop := unitBackRow.holds Try.pinned (OpenSpec.ofChange unitBackSpec)

/-- ITS FALSE NEIGHBOUR: 'it returns false'. Refute it at one input. -/
def unitBackWrong : ChangeSpec := { name := "unitBack", fn := fun _ => fun
  | [d1, d2] => { results := [.lit (.bool false)], args := [d1, d2] }
  | _ => none }
def UnitBackWrongFalsely : Prop := unitBackRow.holds Try.pinned (OpenSpec.ofChange unitBackWrong)

/-- 'quadratlaw16.UnitPlaces': WHATEVER THE INPUT: true; the input reads as it did. -/
def unitPlacesSpec : ChangeSpec := { name := "unitPlaces", fn := fun _ => fun
  | [d1, d2, d3] => { results := [.lit (.bool true)], args := [d1, d2, d3] }
  | _ => none }
def unitPlacesRow : OpenClaim := { program := "ytdmpmbcnfoionaa", sum := "1f64b62d527540ee2de2683079d8796282f6cef246050c850868f6a91771390b", func := "quadrat/quadratlaw16.UnitPlaces", spec := "unitPlaces", inPlace := ["internal/bytealg.IndexByte"], apart := false }
def UnitPlacesSaid : Prop := unitPlacesRow.holds Try.pinned (OpenSpec.ofChange unitPlacesSpec)

/-- ITS FALSE NEIGHBOUR: 'it returns false'. Refute it at one input. -/
def unitPlacesWrong : ChangeSpec := { name := "unitPlaces", fn := fun _ => fun
  | [d1, d2, d3] => { results := [.lit (.bool false)], args := [d1, d2, d3] }
  | _ => none }
def UnitPlacesWrongFalsely : Prop := unitPlacesRow.holds Try.pinned (OpenSpec.ofChange unitPlacesWrong)

/-- 'quadratlaw16.UnitPlays': WHATEVER THE INPUT: true; the input reads as it did. -/
def unitPlaysSpec : ChangeSpec := { name := "unitPlays", fn := fun _ => fun
  | [d1, d2] => { results := [.lit (.bool true)], args := [d1, d2] }
  | _ => none }
def unitPlaysRow : OpenClaim := { program := "ytdmpmbcnfoionaa", sum := "1f64b62d527540ee2de2683079d8796282f6cef246050c850868f6a91771390b", func := "quadrat/quadratlaw16.UnitPlays", spec := "unitPlays", inPlace := ["internal/bytealg.IndexByte"], apart := false }
def UnitPlaysSaid : Prop := unitPlaysRow.holds Try.pinned (OpenSpec.ofChange unitPlaysSpec)

/-- ITS FALSE NEIGHBOUR: 'it returns false'. Refute it at one input. -/
def unitPlaysWrong : ChangeSpec := { name := "unitPlays", fn := fun _ => fun
  | [d1, d2] => { results := [.lit (.bool false)], args := [d1, d2] }
  | _ => none }
def UnitPlaysWrongFalsely : Prop := unitPlaysRow.holds Try.pinned (OpenSpec.ofChange unitPlaysWrong)

/-- 'quadratlaw16.UnitCopies': WHATEVER THE INPUT: true; the input reads as it did. -/
def unitCopiesSpec : ChangeSpec := { name := "unitCopies", fn := fun _ => fun
  | [d1, d2, d3] => { results := [.lit (.bool true)], args := [d1, d2, d3] }
  | _ => none }
def unitCopiesRow : OpenClaim := { program := "ytdmpmbcnfoionaa", sum := "1f64b62d527540ee2de2683079d8796282f6cef246050c850868f6a91771390b", func := "quadrat/quadratlaw16.UnitCopies", spec := "unitCopies", inPlace := ["internal/bytealg.IndexByte"], apart := false }
def UnitCopiesSaid : Prop := unitCopiesRow.holds Try.pinned (OpenSpec.ofChange unitCopiesSpec)

/-- ITS FALSE NEIGHBOUR: 'it returns false'. Refute it at one input. -/
def unitCopiesWrong : ChangeSpec := { name := "unitCopies", fn := fun _ => fun
  | [d1, d2, d3] => { results := [.lit (.bool false)], args := [d1, d2, d3] }
  | _ => none }
def UnitCopiesWrongFalsely : Prop := unitCopiesRow.holds Try.pinned (OpenSpec.ofChange unitCopiesWrong)

/-- 'quadratlaw16.UnitNils': WHATEVER THE INPUT: true; the input reads as it did. -/
def unitNilsSpec : ChangeSpec := { name := "unitNils", fn := fun _ => fun
  | [d] => { results := [.lit (.bool true)], args := [d] }
  | _ => none }
def unitNilsRow : OpenClaim := { program := "ytdmpmbcnfoionaa", sum := "1f64b62d527540ee2de2683079d8796282f6cef246050c850868f6a91771390b", func := "quadrat/quadratlaw16.UnitNils", spec := "unitNils", inPlace := ["internal/bytealg.IndexByte"], apart := false }
def UnitNilsSaid : Prop := unitNilsRow.holds Try.pinned (OpenSpec.ofChange unitNilsSpec)

/-- ITS FALSE NEIGHBOUR: 'it returns false'. Refute it at one input. -/
def unitNilsWrong : ChangeSpec := { name := "unitNils", fn := fun _ => fun
  | [d] => { results := [.lit (.bool false)], args := [d] }
  | _ => none }
def UnitNilsWrongFalsely : Prop := unitNilsRow.holds Try.pinned (OpenSpec.ofChange unitNilsWrong)

/- THE SECOND FORM. 'bulk': how many values and letters a reading holds, each counted each time it is reached (what is shared counts as often as it is met; a slice's spare places count too). A statement '..UptoSaid' is the law's where the arguments, and the package variables that the reading takes, are together of bulk at most 1048576: NARROWER than '..Said'. Prove '..Said' where nothing that the law and all that it calls make is longer than what came in: it says more and counts as full. Else prove '..UptoSaid'. A law counts once. -/
mutual
def uptoBulk {H : Type} : DataW H → Nat
  | .lit (.string bytes) => bytes.length + 1
  | .lit _ => 1
  | .nil => 1
  | .ptr d => uptoBulk d + 1
  | .slice elems spare => uptoBulkAll elems + uptoBulkAll spare + 1
  | .agg parts => uptoBulkAll parts + 1
  | .iface _ d => uptoBulk d + 1
  | .map entries => uptoBulkEntries entries + 1
  | .held _ => 1
def uptoBulkAll {H : Type} : List (DataW H) → Nat
  | [] => 0
  | d :: r => uptoBulk d + uptoBulkAll r
def uptoBulkEntries {H : Type} : List (Lit × DataW H) → Nat
  | [] => 0
  | x :: r => uptoBulkEntry x + uptoBulkEntries r
def uptoBulkEntry {H : Type} : Lit × DataW H → Nat
  | (.string bytes, d) => bytes.length + uptoBulk d + 1
  | (_, d) => uptoBulk d + 1
 end
def uptoSmall : (H : Type) → List (DataW H) → Bool := fun _ ds => decide (uptoBulkAll ds ≤ 1048576)
def OpenSpec.upto (s : _root_.Go.ChangeSpec) : _root_.Go.OpenSpec := { _root_.Go.OpenSpec.ofChange s with cond := some uptoSmall }

/-- 'quadratlaw16.UnitSplits', WHERE WHAT IT READS IS OF BULK AT MOST 1048576: true; the input reads as it did. -/
def unitSplitsUptoRow : OpenClaim := { program := "ytdmpmbcnfoionaa", sum := "1f64b62d527540ee2de2683079d8796282f6cef246050c850868f6a91771390b", func := "quadrat/quadratlaw16.UnitSplits", spec := "unitSplits", inPlace := ["internal/bytealg.IndexByte"], apart := false, narrowed := true }
def UnitSplitsUptoSaid : Prop := unitSplitsUptoRow.holds Try.pinned (OpenSpec.upto unitSplitsSpec)

/-- 'quadratlaw16.UnitBack', WHERE WHAT IT READS IS OF BULK AT MOST 1048576: true; the input reads as it did. -/
def unitBackUptoRow : OpenClaim := { program := "ytdmpmbcnfoionaa", sum := "1f64b62d527540ee2de2683079d8796282f6cef246050c850868f6a91771390b", func := "quadrat/quadratlaw16.UnitBack", spec := "unitBack", inPlace := ["internal/bytealg.IndexByte"], apart := false, narrowed := true }
def UnitBackUptoSaid : Prop := unitBackUptoRow.holds Try.pinned (OpenSpec.upto unitBackSpec)

/-- 'quadratlaw16.UnitPlaces', WHERE WHAT IT READS IS OF BULK AT MOST 1048576: true; the input reads as it did. -/
def unitPlacesUptoRow : OpenClaim := { program := "ytdmpmbcnfoionaa", sum := "1f64b62d527540ee2de2683079d8796282f6cef246050c850868f6a91771390b", func := "quadrat/quadratlaw16.UnitPlaces", spec := "unitPlaces", inPlace := ["internal/bytealg.IndexByte"], apart := false, narrowed := true }
def UnitPlacesUptoSaid : Prop := unitPlacesUptoRow.holds Try.pinned (OpenSpec.upto unitPlacesSpec)

/-- 'quadratlaw16.UnitPlays', WHERE WHAT IT READS IS OF BULK AT MOST 1048576: true; the input reads as it did. -/
def unitPlaysUptoRow : OpenClaim := { program := "ytdmpmbcnfoionaa", sum := "1f64b62d527540ee2de2683079d8796282f6cef246050c850868f6a91771390b", func := "quadrat/quadratlaw16.UnitPlays", spec := "unitPlays", inPlace := ["internal/bytealg.IndexByte"], apart := false, narrowed := true }
def UnitPlaysUptoSaid : Prop := unitPlaysUptoRow.holds Try.pinned (OpenSpec.upto unitPlaysSpec)

/-- 'quadratlaw16.UnitCopies', WHERE WHAT IT READS IS OF BULK AT MOST 1048576: true; the input reads as it did. -/
def unitCopiesUptoRow : OpenClaim := { program := "ytdmpmbcnfoionaa", sum := "1f64b62d527540ee2de2683079d8796282f6cef246050c850868f6a91771390b", func := "quadrat/quadratlaw16.UnitCopies", spec := "unitCopies", inPlace := ["internal/bytealg.IndexByte"], apart := false, narrowed := true }
def UnitCopiesUptoSaid : Prop := unitCopiesUptoRow.holds Try.pinned (OpenSpec.upto unitCopiesSpec)

/-- 'quadratlaw16.UnitNils', WHERE WHAT IT READS IS OF BULK AT MOST 1048576: true; the input reads as it did. -/
def unitNilsUptoRow : OpenClaim := { program := "ytdmpmbcnfoionaa", sum := "1f64b62d527540ee2de2683079d8796282f6cef246050c850868f6a91771390b", func := "quadrat/quadratlaw16.UnitNils", spec := "unitNils", inPlace := ["internal/bytealg.IndexByte"], apart := false, narrowed := true }
def UnitNilsUptoSaid : Prop := unitNilsUptoRow.holds Try.pinned (OpenSpec.upto unitNilsSpec)

end Rows
end Go.Proofs.Ytdmpmbcnfoionaa
