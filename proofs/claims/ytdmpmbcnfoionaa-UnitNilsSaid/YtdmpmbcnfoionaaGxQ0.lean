/- The plain law: what a nil unit, and one that was not opened, tell; no condition. -/
import Derived.Test.YtdmpmbcnfoionaaGxG
import Derived.Test.YtdmpmbcnfoionaaGxM
import Derived.Test.YtdmpmbcnfoionaaSxC
namespace Go.Sx.unit
open Go Go.Sx

theorem awakeN : f9 = some true := f9_le 30 true (by kernel_rfl)

def Z : T64 := T64.mk [] 0 [] 0 false

theorem z41 : f41_z = some true := rfl
theorem zZ : f41 Z = some true := rfl
theorem z28 (x : T46) : f28_z x = some ([], 7) := by
  have h17 : f17_z x.f3 = some 7 := rfl
  have h24 : f24_z x.f1 x.f3 = some 7 := rfl
  have h25 : f25_z x.f1 x.f2 = some ([], 7) := rfl
  unfold f28_z
  rw [h17, h24, h25, show f22_z = some ([], 7) from rfl, show f20_z = some 7 from rfl, show f23_z = some 7 from rfl, show f51_z = some 7 from rfl]
  cases x.f0 == (0 : Int) <;> cases x.f0 == (1 : Int) <;> cases x.f0 == (2 : Int) <;> cases x.f0 == (3 : Int) <;> cases x.f0 == (4 : Int) <;> cases x.f0 == (5 : Int) <;> rfl

theorem o28 (x : T46) : f28o x Z = some ([], 7, Z) := by
  have h17 : f17o x.f3 Z = some (7, Z) := rfl
  have h24 : f24o x.f1 x.f3 Z = some (7, Z) := rfl
  have h25 : f25o x.f1 x.f2 Z = some ([], 7, Z) := rfl
  unfold f28o
  rw [h17, h24, h25, show f22o Z = some ([], 7, Z) from rfl, show f20o Z = some (7, Z) from rfl, show f23o Z = some (7, Z) from rfl, show f51o Z = some (7, Z) from rfl]
  cases x.f0 == (0 : Int) <;> cases x.f0 == (1 : Int) <;> cases x.f0 == (2 : Int) <;> cases x.f0 == (3 : Int) <;> cases x.f0 == (4 : Int) <;> cases x.f0 == (5 : Int) <;> rfl

theorem Pure.UnitNils : LawUnitNils := fun x _ => by
  have h9 : (f9.bind fun v => some v) = some true := by rw [awakeN]; rfl
  unfold f8
  rw [z28, show T64.mk ([] : List UInt8) (0 : Int) ([] : List Int) (0 : Int) false = Z from rfl, o28, h9]
  cases decide ((x.f3.length : Int) > (21000 : Int)) <;> rfl

end Go.Sx.unit

