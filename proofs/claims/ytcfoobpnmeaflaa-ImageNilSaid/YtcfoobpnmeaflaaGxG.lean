/- What the arguments are read as; no condition. -/
import Derived.Test.YtcfoobpnmeaflaaGx4
import Derived.Test.YtcfoobpnmeaflaaSxD
namespace Go.Sx.img
open Go Go.Sx Go.Proofs


def LawImageNil:Prop:=∀ (a0:Int),((Lit.int .i64 a0).wf = true) → f9 a0 = some true

end Go.Sx.img
