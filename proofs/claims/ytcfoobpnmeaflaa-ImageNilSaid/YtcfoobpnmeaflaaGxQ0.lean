/- The plain law: what a nil world, and one that is zero, have; no condition. -/
import Derived.Test.YtcfoobpnmeaflaaGxG
import Derived.Test.YtcfoobpnmeaflaaGxM
namespace Go.Sx.img
open Go Go.Sx

theorem awakeN:f11 = some true:=f11_le 60 true (by kernel_rfl)

theorem Pure.ImageNil:LawImageNil:=fun x _=>by
 unfold f9
 rw [show f22_z x = some (false,7) from rfl,Option.bind_some,show f22o x (T50.mk ([]:List T60) (0:Int) ([]:List T43)) = some (false,7,T50.mk [] 0 []) from rfl,Option.bind_some]
 rw [show f28_z x = some ([],7) from rfl,Option.bind_some,show f17 (T50.mk ([]:List T60) (0:Int) ([]:List T43)) x = some ([],7) from rfl,Option.bind_some]
 rw [show f16_z [x] = some 7 from rfl,show f18_z x = some [] from rfl,show f18 (T50.mk ([]:List T60) (0:Int) ([]:List T43)) x = some [] from rfl,show f19_z = some false from rfl,show f24 (T50.mk ([]:List T60) (0:Int) ([]:List T43)) = some [] from rfl,show f27_z = some () from rfl,show f25_z_z1 = some true from rfl,awakeN]
 rfl

end Go.Sx.img

