/- What the arguments are read as; no condition. -/
import Derived.Test.YtdmpmbcnfoionaaGx1
import Derived.Test.YtdmpmbcnfoionaaSxC
namespace Go.Sx.unit
open Go Go.Sx Go.Proofs


def LawUnitSplits : Prop := ∀ (a0 : List Int) (a1 : List (List Int)), (a0.length ≤ maxLen ∧ ∀ y ∈ a0, (Lit.int .u8 y).wf = true) → (a1.length ≤ maxLen ∧ ∀ y ∈ a1, (y.length ≤ maxLen ∧ ∀ y' ∈ y, (Lit.int .u8 y').wf = true)) → f3 a0 a1 = some true

end Go.Sx.unit
