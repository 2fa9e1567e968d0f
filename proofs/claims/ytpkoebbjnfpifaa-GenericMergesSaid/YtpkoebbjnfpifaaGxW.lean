/- Plain laws of the printed functions; no condition. -/
import Derived.Test.YtpkoebbjnfpifaaGxM
import Derived.KernelRfl
namespace Go.Sx.gen
open Go Go.Sx
theorem awake : f11 = some true := f11_le 30 true (by kernel_rfl)
#print axioms awake
end Go.Sx.gen
