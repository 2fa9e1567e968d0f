/- The functions with so many rounds a loop; no condition. -/
import Derived.Test.YtpkoebbjnfpifaaGx3
import Derived.Test.YtpkoebbjnfpifaaSxC
namespace Go.Sx.gen
open Go Go.Sx Go.Proofs
set_option linter.unusedVariables false

def f10_b1n (N : Nat) (v1 : List T31) (v2 : Int) : Option (Int ⊕ Out Bool Unit) :=
  cond (decide (v2 < (v1.length : Int))) (if (0 : Int) ≤ v2 ∧ v2 < (v1.length : Int) then (cond (decide ((((v1.getD v2.toNat default).f1).length : Int) > (100 : Int))) (some true) (if (0 : Int) ≤ v2 ∧ v2 < (v1.length : Int) then some (decide ((((v1.getD v2.toNat default).f0).length : Int) > (100 : Int))) else none)).bind fun v3 => cond v3 (some (.inr (.ret true))) (some (.inl (w64 (v2 + (1 : Int))))) else none) (some (.inr (.go ())))
theorem f10_b1_le (N : Nat) (v1 : List T31) (v2 : Int) : Le (f10_b1n N v1 v2) (f10_b1 v1 v2) := by
  unfold f10_b1n f10_b1
  repeat' (first | exact Le.refl _ | apply Le.cond | apply Le.ite | apply Le.iter | apply Le.bind | (intro y; cases y <;> dsimp only) | intro y)
def f10n (N : Nat) (v1 : List T31) : Option Bool :=
  (itN N (fun s => f10_b1n N v1 s) (0 : Int)).bind fun y => match y with | .ret v4 => some v4 | .go _ => some (decide ((v1.length : Int) > (100 : Int)))
theorem f10_le (N : Nat) (v1 : List T31) : Le (f10n N v1) (f10 v1) := by
  unfold f10n f10
  repeat' (first | exact Le.refl _ | apply f10_b1_le | apply Le.cond | apply Le.ite | apply Le.iter | apply Le.bind | (intro y; cases y <;> dsimp only) | intro y)
def f57n (N : Nat) (v1 : Int) : Option Bool :=
  (cond (decide (v1 ≥ (97 : Int))) (some (decide (v1 ≤ (122 : Int)))) (some false)).bind fun v2 => (cond v2 (some true) ((cond (decide (v1 ≥ (65 : Int))) (some (decide (v1 ≤ (90 : Int)))) (some false)).bind fun v3 => some v3)).bind fun v4 => some v4
theorem f57_le (N : Nat) (v1 : Int) : Le (f57n N v1) (f57 v1) := by
  unfold f57n f57
  repeat' (first | exact Le.refl _ | apply Le.cond | apply Le.ite | apply Le.iter | apply Le.bind | (intro y; cases y <;> dsimp only) | intro y)
def f67n (N : Nat) (v1 : Int) : Option Bool :=
  (cond (decide (v1 ≥ (48 : Int))) (some (decide (v1 ≤ (57 : Int)))) (some false)).bind fun v2 => some v2
theorem f67_le (N : Nat) (v1 : Int) : Le (f67n N v1) (f67 v1) := by
  unfold f67n f67
  repeat' (first | exact Le.refl _ | apply Le.cond | apply Le.ite | apply Le.iter | apply Le.bind | (intro y; cases y <;> dsimp only) | intro y)
def f59n (N : Nat) (v1 : Int) : Option Bool :=
  (f57n N v1).bind fun v2 => (cond v2 (some true) ((f67n N v1).bind fun v3 => some v3)).bind fun v4 => (cond v4 (some true) (some (v1 == (95 : Int)))).bind fun v5 => some v5
theorem f59_le (N : Nat) (v1 : Int) : Le (f59n N v1) (f59 v1) := by
  unfold f59n f59
  repeat' (first | exact Le.refl _ | apply f57_le | apply f67_le | apply Le.cond | apply Le.ite | apply Le.iter | apply Le.bind | (intro y; cases y <;> dsimp only) | intro y)
def f58_59_b1n (N : Nat) (v1 : List UInt8) (v2 : Int) : Option (Int ⊕ Out Int Int) :=
  (cond (decide (v2 < (v1.length : Int))) (if (0 : Int) ≤ v2 ∧ v2 < (v1.length : Int) then (f59n N (((v1.getD v2.toNat 0).toNat : Nat) : Int)).bind fun v4 => some v4 else none) (some false)).bind fun v5 => cond v5 (some (.inl (w64 (v2 + (1 : Int))))) (some (.inr (.go v2)))
theorem f58_59_b1_le (N : Nat) (v1 : List UInt8) (v2 : Int) : Le (f58_59_b1n N v1 v2) (f58_59_b1 v1 v2) := by
  unfold f58_59_b1n f58_59_b1
  repeat' (first | exact Le.refl _ | apply f59_le | apply Le.cond | apply Le.ite | apply Le.iter | apply Le.bind | (intro y; cases y <;> dsimp only) | intro y)
def f58_59n (N : Nat) (v1 : List UInt8) : Option Int :=
  (itN N (fun s => f58_59_b1n N v1 s) (0 : Int)).bind fun y => match y with | .ret v6 => some v6 | .go v3 => some v3
theorem f58_59_le (N : Nat) (v1 : List UInt8) : Le (f58_59n N v1) (f58_59 v1) := by
  unfold f58_59n f58_59
  repeat' (first | exact Le.refl _ | apply f58_59_b1_le | apply Le.cond | apply Le.ite | apply Le.iter | apply Le.bind | (intro y; cases y <;> dsimp only) | intro y)
def f60_j1n (N : Nat) (v3 : Int) (v5 : List Int) : Option (((List Int) × Int) ⊕ Out (List UInt8) (List Int)) :=
  some (.inl (v5, w64 (v3 + (1 : Int))))
theorem f60_j1_le (N : Nat) (v3 : Int) (v5 : List Int) : Le (f60_j1n N v3 v5) (f60_j1 v3 v5) := by
  unfold f60_j1n f60_j1
  repeat' (first | exact Le.refl _ | apply Le.cond | apply Le.ite | apply Le.iter | apply Le.bind | (intro y; cases y <;> dsimp only) | intro y)
def f60_b2n (N : Nat) (v1 : List UInt8) (v2 : List Int) (v3 : Int) : Option (((List Int) × Int) ⊕ Out (List UInt8) (List Int)) :=
  cond (decide (v3 < ((v1.map (fun b => (b.toNat : Int))).length : Int))) (if (0 : Int) ≤ v3 ∧ v3 < (v2.length : Int) then (cond (decide (v2.getD v3.toNat default ≥ (65 : Int))) (some (decide (v2.getD v3.toNat default ≤ (90 : Int)))) (some false)).bind fun v6 => cond v6 (if (0 : Int) ≤ v3 ∧ v3 < (v2.length : Int) then f60_j1n N v3 (v2.set v3.toNat (IntKind.wrap .u8 ((IntKind.wrap .u8 ((v2.getD v3.toNat default) - (65 : Int))) + (97 : Int)))) else none) (f60_j1n N v3 v2) else none) (some (.inr (.go v2)))
theorem f60_b2_le (N : Nat) (v1 : List UInt8) (v2 : List Int) (v3 : Int) : Le (f60_b2n N v1 v2 v3) (f60_b2 v1 v2 v3) := by
  unfold f60_b2n f60_b2
  repeat' (first | exact Le.refl _ | apply f60_j1_le | apply Le.cond | apply Le.ite | apply Le.iter | apply Le.bind | (intro y; cases y <;> dsimp only) | intro y)
def f60n (N : Nat) (v1 : List UInt8) : Option (List UInt8) :=
  if (v1.length : Int) ≤ 9223372036854775807 then (itN N (fun s => f60_b2n N v1 s.1 s.2) (v1.map (fun b => (b.toNat : Int)), (0 : Int))).bind fun y => match y with | .ret v7 => some v7 | .go v4 => some (v4.map (fun n => UInt8.ofNat n.toNat)) else none
theorem f60_le (N : Nat) (v1 : List UInt8) : Le (f60n N v1) (f60 v1) := by
  unfold f60n f60
  repeat' (first | exact Le.refl _ | apply f60_b2_le | apply Le.cond | apply Le.ite | apply Le.iter | apply Le.bind | (intro y; cases y <;> dsimp only) | intro y)
def f38n (N : Nat) (v1 : List UInt8) : Option Bool :=
  (cond (!(v1 == ([] : List UInt8))) (some (decide ((v1.length : Int) ≤ (12 : Int)))) (some false)).bind fun v2 => (cond v2 (if (0 : Int) < (v1.length : Int) then (f57n N (((v1.getD 0 0).toNat : Nat) : Int)).bind fun v3 => some v3 else none) (some false)).bind fun v4 => (cond v4 ((f58_59n N v1).bind fun v5 => some (v5 == (v1.length : Int))) (some false)).bind fun v6 => (cond v6 ((f60n N v1).bind fun v7 => some (v1 == v7)) (some false)).bind fun v8 => some v8
theorem f38_le (N : Nat) (v1 : List UInt8) : Le (f38n N v1) (f38 v1) := by
  unfold f38n f38
  repeat' (first | exact Le.refl _ | apply f57_le | apply f58_59_le | apply f60_le | apply Le.cond | apply Le.ite | apply Le.iter | apply Le.bind | (intro y; cases y <;> dsimp only) | intro y)
def f39n (N : Nat) (v1 : T48) (v2 : Int) : Option Bool :=
  (cond (decide (v1.f0 ≥ (1 : Int))) (some (decide (v1.f0 ≤ (4 : Int)))) (some false)).bind fun v3 => (cond v3 (some (decide (v1.f1 ≥ v2))) (some false)).bind fun v4 => (cond v4 (some (decide (v1.f1 ≤ (3 : Int)))) (some false)).bind fun v5 => some v5
theorem f39_le (N : Nat) (v1 : T48) (v2 : Int) : Le (f39n N v1 v2) (f39 v1 v2) := by
  unfold f39n f39
  repeat' (first | exact Le.refl _ | apply Le.cond | apply Le.ite | apply Le.iter | apply Le.bind | (intro y; cases y <;> dsimp only) | intro y)
def f54n (N : Nat) (v1 : T48) : Option Bool :=
  some (v1.f1 == (-1 : Int))
theorem f54_le (N : Nat) (v1 : T48) : Le (f54n N v1) (f54 v1) := by
  unfold f54n f54
  repeat' (first | exact Le.refl _ | apply Le.cond | apply Le.ite | apply Le.iter | apply Le.bind | (intro y; cases y <;> dsimp only) | intro y)
def f65_54_b1n (N : Nat) (v1 : List T48) (v2 : Int) : Option (Int ⊕ Out Int Unit) :=
  cond (decide (v2 < (v1.length : Int))) (if (0 : Int) ≤ v2 ∧ v2 < (v1.length : Int) then (f54n N (v1.getD v2.toNat default)).bind fun v3 => cond v3 (some (.inr (.ret v2))) (some (.inl (w64 (v2 + (1 : Int))))) else none) (some (.inr (.go ())))
theorem f65_54_b1_le (N : Nat) (v1 : List T48) (v2 : Int) : Le (f65_54_b1n N v1 v2) (f65_54_b1 v1 v2) := by
  unfold f65_54_b1n f65_54_b1
  repeat' (first | exact Le.refl _ | apply f54_le | apply Le.cond | apply Le.ite | apply Le.iter | apply Le.bind | (intro y; cases y <;> dsimp only) | intro y)
def f65_54n (N : Nat) (v1 : List T48) : Option Int :=
  (itN N (fun s => f65_54_b1n N v1 s) (0 : Int)).bind fun y => match y with | .ret v4 => some v4 | .go _ => some (-1 : Int)
theorem f65_54_le (N : Nat) (v1 : List T48) : Le (f65_54n N v1) (f65_54 v1) := by
  unfold f65_54n f65_54
  repeat' (first | exact Le.refl _ | apply f65_54_b1_le | apply Le.cond | apply Le.ite | apply Le.iter | apply Le.bind | (intro y; cases y <;> dsimp only) | intro y)
def f52_54n (N : Nat) (v1 : List T48) : Option Bool :=
  (f65_54n N v1).bind fun v2 => some (decide (v2 ≥ (0 : Int)))
theorem f52_54_le (N : Nat) (v1 : List T48) : Le (f52_54n N v1) (f52_54 v1) := by
  unfold f52_54n f52_54
  repeat' (first | exact Le.refl _ | apply f65_54_le | apply Le.cond | apply Le.ite | apply Le.iter | apply Le.bind | (intro y; cases y <;> dsimp only) | intro y)
def f32n (N : Nat) (v1 : T31) : Option Bool :=
  (f52_54n N v1.f1).bind fun v2 => some v2
theorem f32_le (N : Nat) (v1 : T31) : Le (f32n N v1) (f32 v1) := by
  unfold f32n f32
  repeat' (first | exact Le.refl _ | apply f52_54_le | apply Le.cond | apply Le.ite | apply Le.iter | apply Le.bind | (intro y; cases y <;> dsimp only) | intro y)
def f19_b1n (N : Nat) (v1 : T31) (v4 : Int) : Option (Int ⊕ Out Bool Unit) :=
  cond (decide (v4 < (v1.f1.length : Int))) (if (0 : Int) ≤ v4 ∧ v4 < (v1.f1.length : Int) then (f39n N (v1.f1.getD v4.toNat default) (-1 : Int)).bind fun v5 => (cond (!v5) (some true) ((f32n N v1).bind fun v6 => (cond v6 (some ((v1.f1.getD v4.toNat default).f1 != (-1 : Int))) (some false)).bind fun v7 => some v7)).bind fun v8 => (cond v8 (some true) ((cond (decide (v4 > (0 : Int))) (if (0 : Int) ≤ w64 (v4 - (1 : Int)) ∧ w64 (v4 - (1 : Int)) < (v1.f1.length : Int) then some ((v1.f1.getD (Int.toNat (w64 (v4 - (1 : Int)))) default).f2) else none) (some false)).bind fun v9 => (cond v9 (some (!((v1.f1.getD v4.toNat default).f2))) (some false)).bind fun v10 => some v10)).bind fun v11 => cond v11 (some (.inr (.ret false))) (some (.inl (w64 (v4 + (1 : Int))))) else none) (some (.inr (.go ())))
theorem f19_b1_le (N : Nat) (v1 : T31) (v4 : Int) : Le (f19_b1n N v1 v4) (f19_b1 v1 v4) := by
  unfold f19_b1n f19_b1
  repeat' (first | exact Le.refl _ | apply f39_le | apply f32_le | apply Le.cond | apply Le.ite | apply Le.iter | apply Le.bind | (intro y; cases y <;> dsimp only) | intro y)
def f19n (N : Nat) (v1 : T31) : Option Bool :=
  (f38n N v1.f0).bind fun v2 => (cond (!v2) (some true) (some (decide ((v1.f1.length : Int) > (8 : Int))))).bind fun v3 => cond v3 (some false) ((itN N (fun s => f19_b1n N v1 s) (0 : Int)).bind fun y => match y with | .ret v12 => some v12 | .go _ => some true)
theorem f19_le (N : Nat) (v1 : T31) : Le (f19n N v1) (f19 v1) := by
  unfold f19n f19
  repeat' (first | exact Le.refl _ | apply f38_le | apply f19_b1_le | apply Le.cond | apply Le.ite | apply Le.iter | apply Le.bind | (intro y; cases y <;> dsimp only) | intro y)
def f51n (N : Nat) (v1 : T31) (v2 : T31) : Option Bool :=
  some (v1.f0 == v2.f0)
theorem f51_le (N : Nat) (v1 : T31) (v2 : T31) : Le (f51n N v1 v2) (f51 v1 v2) := by
  unfold f51n f51
  repeat' (first | exact Le.refl _ | apply Le.cond | apply Le.ite | apply Le.iter | apply Le.bind | (intro y; cases y <;> dsimp only) | intro y)
def f63_51_b1n (N : Nat) (v1 : List T31) (v2 : T31) (v3 : Int) : Option (Int ⊕ Out Int Unit) :=
  cond (decide (v3 < (v1.length : Int))) (if (0 : Int) ≤ v3 ∧ v3 < (v1.length : Int) then (f51n N (v1.getD v3.toNat default) v2).bind fun v4 => cond v4 (some (.inr (.ret v3))) (some (.inl (w64 (v3 + (1 : Int))))) else none) (some (.inr (.go ())))
theorem f63_51_b1_le (N : Nat) (v1 : List T31) (v2 : T31) (v3 : Int) : Le (f63_51_b1n N v1 v2 v3) (f63_51_b1 v1 v2 v3) := by
  unfold f63_51_b1n f63_51_b1
  repeat' (first | exact Le.refl _ | apply f51_le | apply Le.cond | apply Le.ite | apply Le.iter | apply Le.bind | (intro y; cases y <;> dsimp only) | intro y)
def f63_51n (N : Nat) (v1 : List T31) (v2 : T31) : Option Int :=
  (itN N (fun s => f63_51_b1n N v1 v2 s) (0 : Int)).bind fun y => match y with | .ret v5 => some v5 | .go _ => some (-1 : Int)
theorem f63_51_le (N : Nat) (v1 : List T31) (v2 : T31) : Le (f63_51n N v1 v2) (f63_51 v1 v2) := by
  unfold f63_51n f63_51
  repeat' (first | exact Le.refl _ | apply f63_51_b1_le | apply Le.cond | apply Le.ite | apply Le.iter | apply Le.bind | (intro y; cases y <;> dsimp only) | intro y)
def f46_51n (N : Nat) (v1 : List T31) (v2 : T31) : Option Bool :=
  (f63_51n N v1 v2).bind fun v3 => some (decide (v3 ≥ (0 : Int)))
theorem f46_51_le (N : Nat) (v1 : List T31) (v2 : T31) : Le (f46_51n N v1 v2) (f46_51 v1 v2) := by
  unfold f46_51n f46_51
  repeat' (first | exact Le.refl _ | apply f63_51_le | apply Le.cond | apply Le.ite | apply Le.iter | apply Le.bind | (intro y; cases y <;> dsimp only) | intro y)
def f29_b1n (N : Nat) (v1 : List T31) (v2 : Int) : Option (Int ⊕ Out Bool Unit) :=
  cond (decide (v2 < (v1.length : Int))) (if (0 : Int) ≤ v2 ∧ v2 < (v1.length : Int) then (f19n N (v1.getD v2.toNat default)).bind fun v3 => (cond (!v3) (some true) (if (0 : Int) ≤ v2 ∧ v2 ≤ (v1.length : Int) then (f46_51n N ((v1.take v2.toNat).drop 0) (v1.getD v2.toNat default)).bind fun v4 => some v4 else none)).bind fun v5 => cond v5 (some (.inr (.ret false))) (some (.inl (w64 (v2 + (1 : Int))))) else none) (some (.inr (.go ())))
theorem f29_b1_le (N : Nat) (v1 : List T31) (v2 : Int) : Le (f29_b1n N v1 v2) (f29_b1 v1 v2) := by
  unfold f29_b1n f29_b1
  repeat' (first | exact Le.refl _ | apply f19_le | apply f46_51_le | apply Le.cond | apply Le.ite | apply Le.iter | apply Le.bind | (intro y; cases y <;> dsimp only) | intro y)
def f29n (N : Nat) (v1 : List T31) : Option Bool :=
  (itN N (fun s => f29_b1n N v1 s) (0 : Int)).bind fun y => match y with | .ret v6 => some v6 | .go _ => some (decide ((v1.length : Int) ≤ (20 : Int)))
theorem f29_le (N : Nat) (v1 : List T31) : Le (f29n N v1) (f29 v1) := by
  unfold f29n f29
  repeat' (first | exact Le.refl _ | apply f29_b1_le | apply Le.cond | apply Le.ite | apply Le.iter | apply Le.bind | (intro y; cases y <;> dsimp only) | intro y)
def f53n (N : Nat) (v1 : T48) : Option Bool :=
  (f39n N v1 (0 : Int)).bind fun v2 => some (!v2)
theorem f53_le (N : Nat) (v1 : T48) : Le (f53n N v1) (f53 v1) := by
  unfold f53n f53
  repeat' (first | exact Le.refl _ | apply f39_le | apply Le.cond | apply Le.ite | apply Le.iter | apply Le.bind | (intro y; cases y <;> dsimp only) | intro y)
def f65_53_b1n (N : Nat) (v1 : List T48) (v2 : Int) : Option (Int ⊕ Out Int Unit) :=
  cond (decide (v2 < (v1.length : Int))) (if (0 : Int) ≤ v2 ∧ v2 < (v1.length : Int) then (f53n N (v1.getD v2.toNat default)).bind fun v3 => cond v3 (some (.inr (.ret v2))) (some (.inl (w64 (v2 + (1 : Int))))) else none) (some (.inr (.go ())))
theorem f65_53_b1_le (N : Nat) (v1 : List T48) (v2 : Int) : Le (f65_53_b1n N v1 v2) (f65_53_b1 v1 v2) := by
  unfold f65_53_b1n f65_53_b1
  repeat' (first | exact Le.refl _ | apply f53_le | apply Le.cond | apply Le.ite | apply Le.iter | apply Le.bind | (intro y; cases y <;> dsimp only) | intro y)
def f65_53n (N : Nat) (v1 : List T48) : Option Int :=
  (itN N (fun s => f65_53_b1n N v1 s) (0 : Int)).bind fun y => match y with | .ret v4 => some v4 | .go _ => some (-1 : Int)
theorem f65_53_le (N : Nat) (v1 : List T48) : Le (f65_53n N v1) (f65_53 v1) := by
  unfold f65_53n f65_53
  repeat' (first | exact Le.refl _ | apply f65_53_b1_le | apply Le.cond | apply Le.ite | apply Le.iter | apply Le.bind | (intro y; cases y <;> dsimp only) | intro y)
def f52_53n (N : Nat) (v1 : List T48) : Option Bool :=
  (f65_53n N v1).bind fun v2 => some (decide (v2 ≥ (0 : Int)))
theorem f52_53_le (N : Nat) (v1 : List T48) : Le (f52_53n N v1) (f52_53 v1) := by
  unfold f52_53n f52_53
  repeat' (first | exact Le.refl _ | apply f65_53_le | apply Le.cond | apply Le.ite | apply Le.iter | apply Le.bind | (intro y; cases y <;> dsimp only) | intro y)
def f30n (N : Nat) (v1 : List T48) : Option Bool :=
  (cond (decide ((v1.length : Int) ≤ (8 : Int))) ((f52_53n N v1).bind fun v2 => some (!v2)) (some false)).bind fun v3 => some v3
theorem f30_le (N : Nat) (v1 : List T48) : Le (f30n N v1) (f30 v1) := by
  unfold f30n f30
  repeat' (first | exact Le.refl _ | apply f52_53_le | apply Le.cond | apply Le.ite | apply Le.iter | apply Le.bind | (intro y; cases y <;> dsimp only) | intro y)
def f66n (N : Nat) (v1 : T48) : Option Bool :=
  some v1.f2
theorem f66_le (N : Nat) (v1 : T48) : Le (f66n N v1) (f66 v1) := by
  unfold f66n f66
  repeat' (first | exact Le.refl _ | apply Le.cond | apply Le.ite | apply Le.iter | apply Le.bind | (intro y; cases y <;> dsimp only) | intro y)
def f65_66_b1n (N : Nat) (v1 : List T48) (v2 : Int) : Option (Int ⊕ Out Int Unit) :=
  cond (decide (v2 < (v1.length : Int))) (if (0 : Int) ≤ v2 ∧ v2 < (v1.length : Int) then (f66n N (v1.getD v2.toNat default)).bind fun v3 => cond v3 (some (.inr (.ret v2))) (some (.inl (w64 (v2 + (1 : Int))))) else none) (some (.inr (.go ())))
theorem f65_66_b1_le (N : Nat) (v1 : List T48) (v2 : Int) : Le (f65_66_b1n N v1 v2) (f65_66_b1 v1 v2) := by
  unfold f65_66_b1n f65_66_b1
  repeat' (first | exact Le.refl _ | apply f66_le | apply Le.cond | apply Le.ite | apply Le.iter | apply Le.bind | (intro y; cases y <;> dsimp only) | intro y)
def f65_66n (N : Nat) (v1 : List T48) : Option Int :=
  (itN N (fun s => f65_66_b1n N v1 s) (0 : Int)).bind fun y => match y with | .ret v4 => some v4 | .go _ => some (-1 : Int)
theorem f65_66_le (N : Nat) (v1 : List T48) : Le (f65_66n N v1) (f65_66 v1) := by
  unfold f65_66n f65_66
  repeat' (first | exact Le.refl _ | apply f65_66_b1_le | apply Le.cond | apply Le.ite | apply Le.iter | apply Le.bind | (intro y; cases y <;> dsimp only) | intro y)
def f55n (N : Nat) (v1 : T31) : Option Int :=
  (f65_66n N v1.f1).bind fun v2 => cond (decide (v2 ≥ (0 : Int))) (some v2) (some (v1.f1.length : Int))
theorem f55_le (N : Nat) (v1 : T31) : Le (f55n N v1) (f55 v1) := by
  unfold f55n f55
  repeat' (first | exact Le.refl _ | apply f65_66_le | apply Le.cond | apply Le.ite | apply Le.iter | apply Le.bind | (intro y; cases y <;> dsimp only) | intro y)
def f33_j1n (N : Nat) (v6 : Int) (v7 : Int) : Option ((Int × Int) ⊕ Out Bool Unit) :=
  some (.inl (v7, w64 (v6 + (1 : Int))))
theorem f33_j1_le (N : Nat) (v6 : Int) (v7 : Int) : Le (f33_j1n N v6 v7) (f33_j1 v6 v7) := by
  unfold f33_j1n f33_j1
  repeat' (first | exact Le.refl _ | apply Le.cond | apply Le.ite | apply Le.iter | apply Le.bind | (intro y; cases y <;> dsimp only) | intro y)
def f33_b2n (N : Nat) (v1 : T31) (v2 : List T48) (v5 : Int) (v6 : Int) : Option ((Int × Int) ⊕ Out Bool Unit) :=
  cond (decide (v6 < (v2.length : Int))) (if (0 : Int) ≤ v6 ∧ v6 < (v2.length : Int) then if (0 : Int) ≤ v6 ∧ v6 < (v1.f1.length : Int) then (cond ((v2.getD v6.toNat default).f0 != (v1.f1.getD v6.toNat default).f0) (some true) ((cond ((v1.f1.getD v6.toNat default).f1 != (-1 : Int)) (some ((v2.getD v6.toNat default).f1 != (v1.f1.getD v6.toNat default).f1)) (some false)).bind fun v8 => some v8)).bind fun v9 => cond v9 (some (.inr (.ret false))) ((cond ((v1.f1.getD v6.toNat default).f1 != (-1 : Int)) (some true) (some ((v2.getD v6.toNat default).f1 == (0 : Int)))).bind fun v10 => cond v10 (f33_j1n N v6 v5) ((cond (decide (v5 > (0 : Int))) (some (v5 != (v2.getD v6.toNat default).f1)) (some false)).bind fun v11 => cond v11 (some (.inr (.ret false))) (f33_j1n N v6 ((v2.getD v6.toNat default).f1)))) else none else none) (some (.inr (.go ())))
theorem f33_b2_le (N : Nat) (v1 : T31) (v2 : List T48) (v5 : Int) (v6 : Int) : Le (f33_b2n N v1 v2 v5 v6) (f33_b2 v1 v2 v5 v6) := by
  unfold f33_b2n f33_b2
  repeat' (first | exact Le.refl _ | apply f33_j1_le | apply Le.cond | apply Le.ite | apply Le.iter | apply Le.bind | (intro y; cases y <;> dsimp only) | intro y)
def f33n (N : Nat) (v1 : T31) (v2 : List T48) : Option Bool :=
  (f55n N v1).bind fun v3 => (cond (decide ((v2.length : Int) < v3)) (some true) (some (decide ((v2.length : Int) > (v1.f1.length : Int))))).bind fun v4 => cond v4 (some false) ((itN N (fun s => f33_b2n N v1 v2 s.1 s.2) ((0 : Int), (0 : Int))).bind fun y => match y with | .ret v12 => some v12 | .go _ => some true)
theorem f33_le (N : Nat) (v1 : T31) (v2 : List T48) : Le (f33n N v1 v2) (f33 v1 v2) := by
  unfold f33n f33
  repeat' (first | exact Le.refl _ | apply f55_le | apply f33_b2_le | apply Le.cond | apply Le.ite | apply Le.iter | apply Le.bind | (intro y; cases y <;> dsimp only) | intro y)
def f43_b1n (N : Nat) (v1 : T31) (v2 : T31) (v3 : Int) (v4 : Int) (v5 : List T48) (v6 : Int) : Option (((List T48) × Int) ⊕ Out ((List T48) × Bool) (List T48)) :=
  cond (decide (v6 < (if v4 > v3 then v4 else v3))) (if (0 : Int) ≤ v6 ∧ v6 < (v1.f1.length : Int) ∧ (0 : Int) ≤ v6 ∧ v6 < (v1.f1.length : Int) ∧ (0 : Int) ≤ v6 ∧ v6 < (v2.f1.length : Int) then if (v5.length + [T48.mk ((v1.f1.getD v6.toNat default).f0) (if (0 : Int) > (if (v2.f1.getD v6.toNat default).f1 > (v1.f1.getD v6.toNat default).f1 then (v2.f1.getD v6.toNat default).f1 else (v1.f1.getD v6.toNat default).f1) then (0 : Int) else (if (v2.f1.getD v6.toNat default).f1 > (v1.f1.getD v6.toNat default).f1 then (v2.f1.getD v6.toNat default).f1 else (v1.f1.getD v6.toNat default).f1)) false].length) * 24 ≤ 140737488355328 then some (.inl (v5 ++ [T48.mk ((v1.f1.getD v6.toNat default).f0) (if (0 : Int) > (if (v2.f1.getD v6.toNat default).f1 > (v1.f1.getD v6.toNat default).f1 then (v2.f1.getD v6.toNat default).f1 else (v1.f1.getD v6.toNat default).f1) then (0 : Int) else (if (v2.f1.getD v6.toNat default).f1 > (v1.f1.getD v6.toNat default).f1 then (v2.f1.getD v6.toNat default).f1 else (v1.f1.getD v6.toNat default).f1)) false], w64 (v6 + (1 : Int)))) else none else none) (some (.inr (.go v5)))
theorem f43_b1_le (N : Nat) (v1 : T31) (v2 : T31) (v3 : Int) (v4 : Int) (v5 : List T48) (v6 : Int) : Le (f43_b1n N v1 v2 v3 v4 v5 v6) (f43_b1 v1 v2 v3 v4 v5 v6) := by
  unfold f43_b1n f43_b1
  repeat' (first | exact Le.refl _ | apply Le.cond | apply Le.ite | apply Le.iter | apply Le.bind | (intro y; cases y <;> dsimp only) | intro y)
def f43n (N : Nat) (v1 : T31) (v2 : T31) : Option ((List T48) × Bool) :=
  (f55n N v1).bind fun v3 => (f55n N v2).bind fun v4 => cond (decide ((if v4 > v3 then v4 else v3) > (if (v2.f1.length : Int) < (v1.f1.length : Int) then (v2.f1.length : Int) else (v1.f1.length : Int)))) (some (([] : List T48), false)) ((itN N (fun s => f43_b1n N v1 v2 v3 v4 s.1 s.2) ([], (0 : Int))).bind fun y => match y with | .ret v8 => some (v8.1, v8.2) | .go v7 => (f33n N v1 v7).bind fun v9 => (cond v9 ((f33n N v2 v7).bind fun v10 => some v10) (some false)).bind fun v11 => some (v7, v11))
theorem f43_le (N : Nat) (v1 : T31) (v2 : T31) : Le (f43n N v1 v2) (f43 v1 v2) := by
  unfold f43n f43
  repeat' (first | exact Le.refl _ | apply f55_le | apply f43_b1_le | apply f33_le | apply Le.cond | apply Le.ite | apply Le.iter | apply Le.bind | (intro y; cases y <;> dsimp only) | intro y)
def f41n (N : Nat) (v1 : T31) (v2 : T31) : Option Bool :=
  (f43n N v1 v2).bind fun v3 => (cond v3.2 ((f32n N v1).bind fun v5 => (f32n N v2).bind fun v6 => some (v5 == v6)) (some false)).bind fun v4 => some v4
theorem f41_le (N : Nat) (v1 : T31) (v2 : T31) : Le (f41n N v1 v2) (f41 v1 v2) := by
  unfold f41n f41
  repeat' (first | exact Le.refl _ | apply f43_le | apply f32_le | apply Le.cond | apply Le.ite | apply Le.iter | apply Le.bind | (intro y; cases y <;> dsimp only) | intro y)
def f31_b1n (N : Nat) (v1 : List T31) (v2 : Int) (v3 : Int) : Option (Int ⊕ Out (Int × Int × Bool) Unit) :=
  cond (decide (v3 < v2)) (if (0 : Int) ≤ v3 ∧ v3 < (v1.length : Int) ∧ (0 : Int) ≤ v2 ∧ v2 < (v1.length : Int) then (f41n N (v1.getD v3.toNat default) (v1.getD v2.toNat default)).bind fun v4 => cond v4 (some (.inr (.ret (v3, v2, true)))) (some (.inl (w64 (v3 + (1 : Int))))) else none) (some (.inr (.go ())))
theorem f31_b1_le (N : Nat) (v1 : List T31) (v2 : Int) (v3 : Int) : Le (f31_b1n N v1 v2 v3) (f31_b1 v1 v2 v3) := by
  unfold f31_b1n f31_b1
  repeat' (first | exact Le.refl _ | apply f41_le | apply Le.cond | apply Le.ite | apply Le.iter | apply Le.bind | (intro y; cases y <;> dsimp only) | intro y)
def f31_b2n (N : Nat) (v1 : List T31) (v2 : Int) : Option (Int ⊕ Out (Int × Int × Bool) Unit) :=
  cond (decide (v2 < (v1.length : Int))) ((itN N (fun s => f31_b1n N v1 v2 s) (0 : Int)).bind fun y => match y with | .ret v5 => some (.inr (.ret (v5.1, v5.2.1, v5.2.2))) | .go _ => some (.inl (w64 (v2 + (1 : Int))))) (some (.inr (.go ())))
theorem f31_b2_le (N : Nat) (v1 : List T31) (v2 : Int) : Le (f31_b2n N v1 v2) (f31_b2 v1 v2) := by
  unfold f31_b2n f31_b2
  repeat' (first | exact Le.refl _ | apply f31_b1_le | apply Le.cond | apply Le.ite | apply Le.iter | apply Le.bind | (intro y; cases y <;> dsimp only) | intro y)
def f31n (N : Nat) (v1 : List T31) : Option (Int × Int × Bool) :=
  (itN N (fun s => f31_b2n N v1 s) (0 : Int)).bind fun y => match y with | .ret v6 => some (v6.1, v6.2.1, v6.2.2) | .go _ => some ((0 : Int), (0 : Int), false)
theorem f31_le (N : Nat) (v1 : List T31) : Le (f31n N v1) (f31 v1) := by
  unfold f31n f31
  repeat' (first | exact Le.refl _ | apply f31_b2_le | apply Le.cond | apply Le.ite | apply Le.iter | apply Le.bind | (intro y; cases y <;> dsimp only) | intro y)
def f12_b1n (N : Nat) (v1 : List T31) (v2 : List T48) (v7 : Int) (v8 : Int) : Option (Int ⊕ Out (Int × Int) Unit) :=
  cond (decide (v8 < (v1.length : Int))) (if (0 : Int) ≤ v8 ∧ v8 < (v1.length : Int) then (f32n N (v1.getD v8.toNat default)).bind fun v9 => (cond (v9 == ([false, true].getD v7.toNat default)) ((f33n N (v1.getD v8.toNat default) v2).bind fun v10 => some v10) (some false)).bind fun v11 => cond v11 (some (.inr (.ret (v8, (0 : Int))))) (some (.inl (w64 (v8 + (1 : Int))))) else none) (some (.inr (.go ())))
theorem f12_b1_le (N : Nat) (v1 : List T31) (v2 : List T48) (v7 : Int) (v8 : Int) : Le (f12_b1n N v1 v2 v7 v8) (f12_b1 v1 v2 v7 v8) := by
  unfold f12_b1n f12_b1
  repeat' (first | exact Le.refl _ | apply f32_le | apply f33_le | apply Le.cond | apply Le.ite | apply Le.iter | apply Le.bind | (intro y; cases y <;> dsimp only) | intro y)
def f12_b2n (N : Nat) (v1 : List T31) (v2 : List T48) (v7 : Int) : Option (Int ⊕ Out (Int × Int) Unit) :=
  cond (decide (v7 < ([false, true].length : Int))) (if (0 : Int) ≤ v7 ∧ v7 < ([false, true].length : Int) then (itN N (fun s => f12_b1n N v1 v2 v7 s) (0 : Int)).bind fun y => match y with | .ret v12 => some (.inr (.ret (v12.1, v12.2))) | .go _ => some (.inl (w64 (v7 + (1 : Int)))) else none) (some (.inr (.go ())))
theorem f12_b2_le (N : Nat) (v1 : List T31) (v2 : List T48) (v7 : Int) : Le (f12_b2n N v1 v2 v7) (f12_b2 v1 v2 v7) := by
  unfold f12_b2n f12_b2
  repeat' (first | exact Le.refl _ | apply f12_b1_le | apply Le.cond | apply Le.ite | apply Le.iter | apply Le.bind | (intro y; cases y <;> dsimp only) | intro y)
def f12n (N : Nat) (v1 : List T31) (v2 : List T48) : Option (Int × Int) :=
  (f29n N v1).bind fun v3 => (cond (!v3) (some true) ((f30n N v2).bind fun v4 => some (!v4))).bind fun v5 => cond v5 (some ((0 : Int), (2 : Int))) ((f31n N v1).bind fun v6 => cond v6.2.2 (some ((0 : Int), (8 : Int))) ((itN N (fun s => f12_b2n N v1 v2 s) (0 : Int)).bind fun y => match y with | .ret v13 => some (v13.1, v13.2) | .go _ => some ((0 : Int), (5 : Int))))
theorem f12_le (N : Nat) (v1 : List T31) (v2 : List T48) : Le (f12n N v1 v2) (f12 v1 v2) := by
  unfold f12n f12
  repeat' (first | exact Le.refl _ | apply f29_le | apply f30_le | apply f31_le | apply f12_b2_le | apply Le.cond | apply Le.ite | apply Le.iter | apply Le.bind | (intro y; cases y <;> dsimp only) | intro y)
def f11n (N : Nat)  : Option Bool :=
  (f12n N ([T31.mk ([102, 105] : List UInt8) [T48.mk (1 : Int) (0 : Int) false], T31.mk ([102, 114] : List UInt8) [T48.mk (3 : Int) (0 : Int) false], T31.mk ([102, 101] : List UInt8) [T48.mk (1 : Int) (-1 : Int) false]]) [T48.mk (1 : Int) (1 : Int) false]).bind fun v1 => (f12n N ([T31.mk ([102, 105] : List UInt8) [T48.mk (1 : Int) (0 : Int) false], T31.mk ([102, 114] : List UInt8) [T48.mk (3 : Int) (0 : Int) false], T31.mk ([102, 101] : List UInt8) [T48.mk (1 : Int) (-1 : Int) false]]) [T48.mk (1 : Int) (0 : Int) false]).bind fun v2 => (cond (v1.1 == (2 : Int)) (some (v1.2 == (0 : Int))) (some false)).bind fun v3 => (cond v3 (some (v2.1 == (0 : Int))) (some false)).bind fun v4 => (cond v4 (some (v2.2 == (0 : Int))) (some false)).bind fun v5 => some v5
theorem f11_le (N : Nat)  : Le (f11n N ) (f11 ) := by
  unfold f11n f11
  repeat' (first | exact Le.refl _ | apply f12_le | apply Le.cond | apply Le.ite | apply Le.iter | apply Le.bind | (intro y; cases y <;> dsimp only) | intro y)
def f68n (N : Nat) (v1 : Int) : Option Bool :=
  (cond (decide (v1 ≥ (97 : Int))) (some (decide (v1 ≤ (122 : Int)))) (some false)).bind fun v2 => (cond v2 (some true) ((cond (decide (v1 ≥ (65 : Int))) (some (decide (v1 ≤ (90 : Int)))) (some false)).bind fun v3 => some v3)).bind fun v4 => some v4
theorem f68_le (N : Nat) (v1 : Int) : Le (f68n N v1) (f68 v1) := by
  unfold f68n f68
  repeat' (first | exact Le.refl _ | apply Le.cond | apply Le.ite | apply Le.iter | apply Le.bind | (intro y; cases y <;> dsimp only) | intro y)
def f69n (N : Nat) (v1 : Int) : Option Bool :=
  (cond (decide (v1 ≥ (48 : Int))) (some (decide (v1 ≤ (57 : Int)))) (some false)).bind fun v2 => some v2
theorem f69_le (N : Nat) (v1 : Int) : Le (f69n N v1) (f69 v1) := by
  unfold f69n f69
  repeat' (first | exact Le.refl _ | apply Le.cond | apply Le.ite | apply Le.iter | apply Le.bind | (intro y; cases y <;> dsimp only) | intro y)
def f61n (N : Nat) (v1 : Int) : Option Bool :=
  (f68n N v1).bind fun v2 => (cond v2 (some true) ((f69n N v1).bind fun v3 => some v3)).bind fun v4 => (cond v4 (some true) (some (v1 == (95 : Int)))).bind fun v5 => some v5
theorem f61_le (N : Nat) (v1 : Int) : Le (f61n N v1) (f61 v1) := by
  unfold f61n f61
  repeat' (first | exact Le.refl _ | apply f68_le | apply f69_le | apply Le.cond | apply Le.ite | apply Le.iter | apply Le.bind | (intro y; cases y <;> dsimp only) | intro y)
def f40_b1n (N : Nat) (v1 : List UInt8) (v5 : Int) : Option (Int ⊕ Out Bool Unit) :=
  cond (decide (v5 < (v1.length : Int))) (if (0 : Int) ≤ v5 ∧ v5 < (v1.length : Int) then (f61n N (((v1.getD v5.toNat 0).toNat : Nat) : Int)).bind fun v6 => (cond (!v6) (some true) (if (0 : Int) ≤ v5 ∧ v5 < (v1.length : Int) then (cond (decide ((((v1.getD v5.toNat 0).toNat : Nat) : Int) ≥ (65 : Int))) (if (0 : Int) ≤ v5 ∧ v5 < (v1.length : Int) then some (decide ((((v1.getD v5.toNat 0).toNat : Nat) : Int) ≤ (90 : Int))) else none) (some false)).bind fun v7 => some v7 else none)).bind fun v8 => cond v8 (some (.inr (.ret false))) (some (.inl (w64 (v5 + (1 : Int))))) else none) (some (.inr (.go ())))
theorem f40_b1_le (N : Nat) (v1 : List UInt8) (v5 : Int) : Le (f40_b1n N v1 v5) (f40_b1 v1 v5) := by
  unfold f40_b1n f40_b1
  repeat' (first | exact Le.refl _ | apply f61_le | apply Le.cond | apply Le.ite | apply Le.iter | apply Le.bind | (intro y; cases y <;> dsimp only) | intro y)
def f40n (N : Nat) (v1 : List UInt8) : Option Bool :=
  (cond (v1 == ([] : List UInt8)) (some true) (some (decide ((v1.length : Int) > (12 : Int))))).bind fun v2 => (cond v2 (some true) (if (0 : Int) < (v1.length : Int) then some (decide ((((v1.getD 0 0).toNat : Nat) : Int) < (97 : Int))) else none)).bind fun v3 => (cond v3 (some true) (if (0 : Int) < (v1.length : Int) then some (decide ((((v1.getD 0 0).toNat : Nat) : Int) > (122 : Int))) else none)).bind fun v4 => cond v4 (some false) ((itN N (fun s => f40_b1n N v1 s) (0 : Int)).bind fun y => match y with | .ret v9 => some v9 | .go _ => some true)
theorem f40_le (N : Nat) (v1 : List UInt8) : Le (f40n N v1) (f40 v1) := by
  unfold f40n f40
  repeat' (first | exact Le.refl _ | apply f40_b1_le | apply Le.cond | apply Le.ite | apply Le.iter | apply Le.bind | (intro y; cases y <;> dsimp only) | intro y)
def f15n (N : Nat) (v1 : T31) : Option Bool :=
  (cond (decide ((v1.f1.length : Int) > (0 : Int))) (if (0 : Int) < (v1.f1.length : Int) then some ((v1.f1.getD 0 default).f1 == (-1 : Int)) else none) (some false)).bind fun v2 => some v2
theorem f15_le (N : Nat) (v1 : T31) : Le (f15n N v1) (f15 v1) := by
  unfold f15n f15
  repeat' (first | exact Le.refl _ | apply Le.cond | apply Le.ite | apply Le.iter | apply Le.bind | (intro y; cases y <;> dsimp only) | intro y)
def f20_b1n (N : Nat) (v1 : T31) (v4 : Bool) (v5 : Int) : Option ((Bool × Int) ⊕ Out Bool Unit) :=
  cond (decide (v5 < (v1.f1.length : Int))) (if (0 : Int) ≤ v5 ∧ v5 < (v1.f1.length : Int) then (cond (decide ((v1.f1.getD v5.toNat default).f0 < (1 : Int))) (some true) (cond (decide ((v1.f1.getD v5.toNat default).f0 > (4 : Int))) (some true) (cond (decide ((v1.f1.getD v5.toNat default).f1 < (-1 : Int))) (some true) (cond (decide ((v1.f1.getD v5.toNat default).f1 > (3 : Int))) (some true) ((f15n N v1).bind fun v7 => cond (!(((v1.f1.getD v5.toNat default).f1 == (-1 : Int)) == v7)) (some true) (cond v4 (some (!((v1.f1.getD v5.toNat default).f2))) (some false))))))).bind fun v6 => cond v6 (some (.inr (.ret false))) (some (.inl ((v1.f1.getD v5.toNat default).f2, w64 (v5 + (1 : Int))))) else none) (some (.inr (.go ())))
theorem f20_b1_le (N : Nat) (v1 : T31) (v4 : Bool) (v5 : Int) : Le (f20_b1n N v1 v4 v5) (f20_b1 v1 v4 v5) := by
  unfold f20_b1n f20_b1
  repeat' (first | exact Le.refl _ | apply f15_le | apply Le.cond | apply Le.ite | apply Le.iter | apply Le.bind | (intro y; cases y <;> dsimp only) | intro y)
def f20n (N : Nat) (v1 : T31) : Option Bool :=
  (f40n N v1.f0).bind fun v2 => (cond (!v2) (some true) (some (decide ((v1.f1.length : Int) > (8 : Int))))).bind fun v3 => cond v3 (some false) ((itN N (fun s => f20_b1n N v1 s.1 s.2) (false, (0 : Int))).bind fun y => match y with | .ret v8 => some v8 | .go _ => some true)
theorem f20_le (N : Nat) (v1 : T31) : Le (f20n N v1) (f20 v1) := by
  unfold f20n f20
  repeat' (first | exact Le.refl _ | apply f40_le | apply f20_b1_le | apply Le.cond | apply Le.ite | apply Le.iter | apply Le.bind | (intro y; cases y <;> dsimp only) | intro y)
def f34_b1n (N : Nat) (v1 : List T31) (v2 : Int) (v4 : Int) : Option (Int ⊕ Out Bool Unit) :=
  cond (decide (v4 < v2)) (if (0 : Int) ≤ v4 ∧ v4 < (v1.length : Int) ∧ (0 : Int) ≤ v2 ∧ v2 < (v1.length : Int) then cond (((v1.getD v4.toNat default).f0) == ((v1.getD v2.toNat default).f0)) (some (.inr (.ret false))) (some (.inl (w64 (v4 + (1 : Int))))) else none) (some (.inr (.go ())))
theorem f34_b1_le (N : Nat) (v1 : List T31) (v2 : Int) (v4 : Int) : Le (f34_b1n N v1 v2 v4) (f34_b1 v1 v2 v4) := by
  unfold f34_b1n f34_b1
  repeat' (first | exact Le.refl _ | apply Le.cond | apply Le.ite | apply Le.iter | apply Le.bind | (intro y; cases y <;> dsimp only) | intro y)
def f34_b2n (N : Nat) (v1 : List T31) (v2 : Int) : Option (Int ⊕ Out Bool Unit) :=
  cond (decide (v2 < (v1.length : Int))) (if (0 : Int) ≤ v2 ∧ v2 < (v1.length : Int) then (f20n N (v1.getD v2.toNat default)).bind fun v3 => cond (!v3) (some (.inr (.ret false))) ((itN N (fun s => f34_b1n N v1 v2 s) (0 : Int)).bind fun y => match y with | .ret v5 => some (.inr (.ret v5)) | .go _ => some (.inl (w64 (v2 + (1 : Int))))) else none) (some (.inr (.go ())))
theorem f34_b2_le (N : Nat) (v1 : List T31) (v2 : Int) : Le (f34_b2n N v1 v2) (f34_b2 v1 v2) := by
  unfold f34_b2n f34_b2
  repeat' (first | exact Le.refl _ | apply f20_le | apply f34_b1_le | apply Le.cond | apply Le.ite | apply Le.iter | apply Le.bind | (intro y; cases y <;> dsimp only) | intro y)
def f34n (N : Nat) (v1 : List T31) : Option Bool :=
  (itN N (fun s => f34_b2n N v1 s) (0 : Int)).bind fun y => match y with | .ret v6 => some v6 | .go _ => some (decide ((v1.length : Int) ≤ (20 : Int)))
theorem f34_le (N : Nat) (v1 : List T31) : Le (f34n N v1) (f34 v1) := by
  unfold f34n f34
  repeat' (first | exact Le.refl _ | apply f34_b2_le | apply Le.cond | apply Le.ite | apply Le.iter | apply Le.bind | (intro y; cases y <;> dsimp only) | intro y)
def f35_b1n (N : Nat) (v1 : List T48) (v2 : Int) : Option (Int ⊕ Out Bool Unit) :=
  cond (decide (v2 < (v1.length : Int))) (if (0 : Int) ≤ v2 ∧ v2 < (v1.length : Int) then (cond (decide ((v1.getD v2.toNat default).f0 < (1 : Int))) (some true) (if (0 : Int) ≤ v2 ∧ v2 < (v1.length : Int) then some (decide ((v1.getD v2.toNat default).f0 > (4 : Int))) else none)).bind fun v3 => (cond v3 (some true) (if (0 : Int) ≤ v2 ∧ v2 < (v1.length : Int) then some (decide ((v1.getD v2.toNat default).f1 < (0 : Int))) else none)).bind fun v4 => (cond v4 (some true) (if (0 : Int) ≤ v2 ∧ v2 < (v1.length : Int) then some (decide ((v1.getD v2.toNat default).f1 > (3 : Int))) else none)).bind fun v5 => cond v5 (some (.inr (.ret false))) (some (.inl (w64 (v2 + (1 : Int))))) else none) (some (.inr (.go ())))
theorem f35_b1_le (N : Nat) (v1 : List T48) (v2 : Int) : Le (f35_b1n N v1 v2) (f35_b1 v1 v2) := by
  unfold f35_b1n f35_b1
  repeat' (first | exact Le.refl _ | apply Le.cond | apply Le.ite | apply Le.iter | apply Le.bind | (intro y; cases y <;> dsimp only) | intro y)
def f35n (N : Nat) (v1 : List T48) : Option Bool :=
  (itN N (fun s => f35_b1n N v1 s) (0 : Int)).bind fun y => match y with | .ret v6 => some v6 | .go _ => some (decide ((v1.length : Int) ≤ (8 : Int)))
theorem f35_le (N : Nat) (v1 : List T48) : Le (f35n N v1) (f35 v1) := by
  unfold f35n f35
  repeat' (first | exact Le.refl _ | apply f35_b1_le | apply Le.cond | apply Le.ite | apply Le.iter | apply Le.bind | (intro y; cases y <;> dsimp only) | intro y)
def f56_b1n (N : Nat) (v1 : T31) (v2 : Int) : Option (Int ⊕ Out Int Int) :=
  (cond (decide (v2 < (v1.f1.length : Int))) (if (0 : Int) ≤ v2 ∧ v2 < (v1.f1.length : Int) then some (!((v1.f1.getD v2.toNat default).f2)) else none) (some false)).bind fun v4 => cond v4 (some (.inl (w64 (v2 + (1 : Int))))) (some (.inr (.go v2)))
theorem f56_b1_le (N : Nat) (v1 : T31) (v2 : Int) : Le (f56_b1n N v1 v2) (f56_b1 v1 v2) := by
  unfold f56_b1n f56_b1
  repeat' (first | exact Le.refl _ | apply Le.cond | apply Le.ite | apply Le.iter | apply Le.bind | (intro y; cases y <;> dsimp only) | intro y)
def f56n (N : Nat) (v1 : T31) : Option Int :=
  (itN N (fun s => f56_b1n N v1 s) (0 : Int)).bind fun y => match y with | .ret v5 => some v5 | .go v3 => some v3
theorem f56_le (N : Nat) (v1 : T31) : Le (f56n N v1) (f56 v1) := by
  unfold f56n f56
  repeat' (first | exact Le.refl _ | apply f56_b1_le | apply Le.cond | apply Le.ite | apply Le.iter | apply Le.bind | (intro y; cases y <;> dsimp only) | intro y)
def f37_j1n (N : Nat) (v6 : Int) (v7 : Int) : Option ((Int × Int) ⊕ Out Bool Unit) :=
  some (.inl (v7, w64 (v6 + (1 : Int))))
theorem f37_j1_le (N : Nat) (v6 : Int) (v7 : Int) : Le (f37_j1n N v6 v7) (f37_j1 v6 v7) := by
  unfold f37_j1n f37_j1
  repeat' (first | exact Le.refl _ | apply Le.cond | apply Le.ite | apply Le.iter | apply Le.bind | (intro y; cases y <;> dsimp only) | intro y)
def f37_b2n (N : Nat) (v1 : T31) (v2 : List T48) (v5 : Int) (v6 : Int) : Option ((Int × Int) ⊕ Out Bool Unit) :=
  cond (decide (v6 < (v2.length : Int))) (if (0 : Int) ≤ v6 ∧ v6 < (v1.f1.length : Int) then (if (0 : Int) ≤ v6 ∧ v6 < (v2.length : Int) then cond ((v1.f1.getD v6.toNat default).f0 != (v2.getD v6.toNat default).f0) (some true) (cond (decide ((v1.f1.getD v6.toNat default).f1 ≥ (0 : Int))) (if (0 : Int) ≤ v6 ∧ v6 < (v2.length : Int) then some ((v1.f1.getD v6.toNat default).f1 != (v2.getD v6.toNat default).f1) else none) (some false)) else none).bind fun v8 => cond v8 (some (.inr (.ret false))) ((cond (decide ((v1.f1.getD v6.toNat default).f1 < (0 : Int))) (if (0 : Int) ≤ v6 ∧ v6 < (v2.length : Int) then some (decide ((v2.getD v6.toNat default).f1 > (0 : Int))) else none) (some false)).bind fun v9 => cond v9 ((cond (decide (v5 > (0 : Int))) (if (0 : Int) ≤ v6 ∧ v6 < (v2.length : Int) then some (v5 != (v2.getD v6.toNat default).f1) else none) (some false)).bind fun v10 => cond v10 (some (.inr (.ret false))) (if (0 : Int) ≤ v6 ∧ v6 < (v2.length : Int) then f37_j1n N v6 ((v2.getD v6.toNat default).f1) else none)) (f37_j1n N v6 v5)) else none) (some (.inr (.go ())))
theorem f37_b2_le (N : Nat) (v1 : T31) (v2 : List T48) (v5 : Int) (v6 : Int) : Le (f37_b2n N v1 v2 v5 v6) (f37_b2 v1 v2 v5 v6) := by
  unfold f37_b2n f37_b2
  repeat' (first | exact Le.refl _ | apply f37_j1_le | apply Le.cond | apply Le.ite | apply Le.iter | apply Le.bind | (intro y; cases y <;> dsimp only) | intro y)
def f37n (N : Nat) (v1 : T31) (v2 : List T48) : Option Bool :=
  (f56n N v1).bind fun v3 => (cond (decide ((v2.length : Int) < v3)) (some true) (some (decide ((v2.length : Int) > (v1.f1.length : Int))))).bind fun v4 => cond v4 (some false) ((itN N (fun s => f37_b2n N v1 v2 s.1 s.2) ((0 : Int), (0 : Int))).bind fun y => match y with | .ret v11 => some v11 | .go _ => some true)
theorem f37_le (N : Nat) (v1 : T31) (v2 : List T48) : Le (f37n N v1 v2) (f37 v1 v2) := by
  unfold f37n f37
  repeat' (first | exact Le.refl _ | apply f56_le | apply f37_b2_le | apply Le.cond | apply Le.ite | apply Le.iter | apply Le.bind | (intro y; cases y <;> dsimp only) | intro y)
def f44_b1n (N : Nat) (v1 : T31) (v2 : T31) (v3 : Int) (v5 : List T48) (v6 : Int) : Option (((List T48) × Int) ⊕ Out ((List T48) × Bool) (List T48)) :=
  cond (decide (v6 < v3)) (if (0 : Int) ≤ v6 ∧ v6 < (v1.f1.length : Int) ∧ (0 : Int) ≤ v6 ∧ v6 < (v1.f1.length : Int) ∧ (0 : Int) ≤ v6 ∧ v6 < (v2.f1.length : Int) then if (v5.length + [T48.mk ((v1.f1.getD v6.toNat default).f0) (if (0 : Int) > (if (v2.f1.getD v6.toNat default).f1 > (v1.f1.getD v6.toNat default).f1 then (v2.f1.getD v6.toNat default).f1 else (v1.f1.getD v6.toNat default).f1) then (0 : Int) else (if (v2.f1.getD v6.toNat default).f1 > (v1.f1.getD v6.toNat default).f1 then (v2.f1.getD v6.toNat default).f1 else (v1.f1.getD v6.toNat default).f1)) false].length) * 24 ≤ 140737488355328 then some (.inl (v5 ++ [T48.mk ((v1.f1.getD v6.toNat default).f0) (if (0 : Int) > (if (v2.f1.getD v6.toNat default).f1 > (v1.f1.getD v6.toNat default).f1 then (v2.f1.getD v6.toNat default).f1 else (v1.f1.getD v6.toNat default).f1) then (0 : Int) else (if (v2.f1.getD v6.toNat default).f1 > (v1.f1.getD v6.toNat default).f1 then (v2.f1.getD v6.toNat default).f1 else (v1.f1.getD v6.toNat default).f1)) false], w64 (v6 + (1 : Int)))) else none else none) (some (.inr (.go v5)))
theorem f44_b1_le (N : Nat) (v1 : T31) (v2 : T31) (v3 : Int) (v5 : List T48) (v6 : Int) : Le (f44_b1n N v1 v2 v3 v5 v6) (f44_b1 v1 v2 v3 v5 v6) := by
  unfold f44_b1n f44_b1
  repeat' (first | exact Le.refl _ | apply Le.cond | apply Le.ite | apply Le.iter | apply Le.bind | (intro y; cases y <;> dsimp only) | intro y)
def f44_b2n (N : Nat) (v1 : T31) (v2 : T31) (v3 : Int) : Option (Int ⊕ Out ((List T48) × Bool) Unit) :=
  cond (decide (v3 ≤ (8 : Int))) ((cond (decide (v3 > (v1.f1.length : Int))) (some true) (some (decide (v3 > (v2.f1.length : Int))))).bind fun v4 => cond v4 (some (.inr (.ret (([] : List T48), false)))) ((itN N (fun s => f44_b1n N v1 v2 v3 s.1 s.2) ([], (0 : Int))).bind fun y => match y with | .ret v8 => some (.inr (.ret (v8.1, v8.2))) | .go v7 => (f37n N v1 v7).bind fun v9 => (cond v9 ((f37n N v2 v7).bind fun v10 => some v10) (some false)).bind fun v11 => cond v11 (some (.inr (.ret (v7, true)))) (some (.inl (w64 (v3 + (1 : Int))))))) (some (.inr (.go ())))
theorem f44_b2_le (N : Nat) (v1 : T31) (v2 : T31) (v3 : Int) : Le (f44_b2n N v1 v2 v3) (f44_b2 v1 v2 v3) := by
  unfold f44_b2n f44_b2
  repeat' (first | exact Le.refl _ | apply f44_b1_le | apply f37_le | apply Le.cond | apply Le.ite | apply Le.iter | apply Le.bind | (intro y; cases y <;> dsimp only) | intro y)
def f44n (N : Nat) (v1 : T31) (v2 : T31) : Option ((List T48) × Bool) :=
  (itN N (fun s => f44_b2n N v1 v2 s) (0 : Int)).bind fun y => match y with | .ret v12 => some (v12.1, v12.2) | .go _ => some (([] : List T48), false)
theorem f44_le (N : Nat) (v1 : T31) (v2 : T31) : Le (f44n N v1 v2) (f44 v1 v2) := by
  unfold f44n f44
  repeat' (first | exact Le.refl _ | apply f44_b2_le | apply Le.cond | apply Le.ite | apply Le.iter | apply Le.bind | (intro y; cases y <;> dsimp only) | intro y)
def f42n (N : Nat) (v1 : T31) (v2 : T31) : Option Bool :=
  (f44n N v1 v2).bind fun v3 => (cond v3.2 ((f15n N v1).bind fun v5 => (f15n N v2).bind fun v6 => some (v5 == v6)) (some false)).bind fun v4 => some v4
theorem f42_le (N : Nat) (v1 : T31) (v2 : T31) : Le (f42n N v1 v2) (f42 v1 v2) := by
  unfold f42n f42
  repeat' (first | exact Le.refl _ | apply f44_le | apply f15_le | apply Le.cond | apply Le.ite | apply Le.iter | apply Le.bind | (intro y; cases y <;> dsimp only) | intro y)
def f36_b1n (N : Nat) (v1 : List T31) (v2 : Int) (v3 : Int) : Option (Int ⊕ Out (Int × Int × Bool) Unit) :=
  cond (decide (v3 < v2)) (if (0 : Int) ≤ v3 ∧ v3 < (v1.length : Int) ∧ (0 : Int) ≤ v2 ∧ v2 < (v1.length : Int) then (f42n N (v1.getD v3.toNat default) (v1.getD v2.toNat default)).bind fun v4 => cond v4 (some (.inr (.ret (v3, v2, true)))) (some (.inl (w64 (v3 + (1 : Int))))) else none) (some (.inr (.go ())))
theorem f36_b1_le (N : Nat) (v1 : List T31) (v2 : Int) (v3 : Int) : Le (f36_b1n N v1 v2 v3) (f36_b1 v1 v2 v3) := by
  unfold f36_b1n f36_b1
  repeat' (first | exact Le.refl _ | apply f42_le | apply Le.cond | apply Le.ite | apply Le.iter | apply Le.bind | (intro y; cases y <;> dsimp only) | intro y)
def f36_b2n (N : Nat) (v1 : List T31) (v2 : Int) : Option (Int ⊕ Out (Int × Int × Bool) Unit) :=
  cond (decide (v2 < (v1.length : Int))) ((itN N (fun s => f36_b1n N v1 v2 s) (0 : Int)).bind fun y => match y with | .ret v5 => some (.inr (.ret (v5.1, v5.2.1, v5.2.2))) | .go _ => some (.inl (w64 (v2 + (1 : Int))))) (some (.inr (.go ())))
theorem f36_b2_le (N : Nat) (v1 : List T31) (v2 : Int) : Le (f36_b2n N v1 v2) (f36_b2 v1 v2) := by
  unfold f36_b2n f36_b2
  repeat' (first | exact Le.refl _ | apply f36_b1_le | apply Le.cond | apply Le.ite | apply Le.iter | apply Le.bind | (intro y; cases y <;> dsimp only) | intro y)
def f36n (N : Nat) (v1 : List T31) : Option (Int × Int × Bool) :=
  (itN N (fun s => f36_b2n N v1 s) (0 : Int)).bind fun y => match y with | .ret v6 => some (v6.1, v6.2.1, v6.2.2) | .go _ => some ((0 : Int), (0 : Int), false)
theorem f36_le (N : Nat) (v1 : List T31) : Le (f36n N v1) (f36 v1) := by
  unfold f36n f36
  repeat' (first | exact Le.refl _ | apply f36_b2_le | apply Le.cond | apply Le.ite | apply Le.iter | apply Le.bind | (intro y; cases y <;> dsimp only) | intro y)
def f13_b1n (N : Nat) (v1 : List T31) (v2 : List T48) (v7 : Int) (v8 : Int) : Option (Int ⊕ Out (Int × Int) Unit) :=
  cond (decide (v8 < (v1.length : Int))) (if (0 : Int) ≤ v8 ∧ v8 < (v1.length : Int) then (f15n N (v1.getD v8.toNat default)).bind fun v9 => (cond (v9 == (v7 == (1 : Int))) (if (0 : Int) ≤ v8 ∧ v8 < (v1.length : Int) then (f37n N (v1.getD v8.toNat default) v2).bind fun v10 => some v10 else none) (some false)).bind fun v11 => cond v11 (some (.inr (.ret (v8, (0 : Int))))) (some (.inl (w64 (v8 + (1 : Int))))) else none) (some (.inr (.go ())))
theorem f13_b1_le (N : Nat) (v1 : List T31) (v2 : List T48) (v7 : Int) (v8 : Int) : Le (f13_b1n N v1 v2 v7 v8) (f13_b1 v1 v2 v7 v8) := by
  unfold f13_b1n f13_b1
  repeat' (first | exact Le.refl _ | apply f15_le | apply f37_le | apply Le.cond | apply Le.ite | apply Le.iter | apply Le.bind | (intro y; cases y <;> dsimp only) | intro y)
def f13_b2n (N : Nat) (v1 : List T31) (v2 : List T48) (v7 : Int) : Option (Int ⊕ Out (Int × Int) Unit) :=
  cond (decide (v7 < (2 : Int))) ((itN N (fun s => f13_b1n N v1 v2 v7 s) (0 : Int)).bind fun y => match y with | .ret v12 => some (.inr (.ret (v12.1, v12.2))) | .go _ => some (.inl (w64 (v7 + (1 : Int))))) (some (.inr (.go ())))
theorem f13_b2_le (N : Nat) (v1 : List T31) (v2 : List T48) (v7 : Int) : Le (f13_b2n N v1 v2 v7) (f13_b2 v1 v2 v7) := by
  unfold f13_b2n f13_b2
  repeat' (first | exact Le.refl _ | apply f13_b1_le | apply Le.cond | apply Le.ite | apply Le.iter | apply Le.bind | (intro y; cases y <;> dsimp only) | intro y)
def f13n (N : Nat) (v1 : List T31) (v2 : List T48) : Option (Int × Int) :=
  (f34n N v1).bind fun v3 => (cond (!v3) (some true) ((f35n N v2).bind fun v4 => some (!v4))).bind fun v5 => cond v5 (some ((0 : Int), (2 : Int))) ((f36n N v1).bind fun v6 => cond v6.2.2 (some ((0 : Int), (8 : Int))) ((itN N (fun s => f13_b2n N v1 v2 s) (0 : Int)).bind fun y => match y with | .ret v13 => some (v13.1, v13.2) | .go _ => some ((0 : Int), (5 : Int))))
theorem f13_le (N : Nat) (v1 : List T31) (v2 : List T48) : Le (f13n N v1 v2) (f13 v1 v2) := by
  unfold f13n f13
  repeat' (first | exact Le.refl _ | apply f34_le | apply f35_le | apply f36_le | apply f13_b2_le | apply Le.cond | apply Le.ite | apply Le.iter | apply Le.bind | (intro y; cases y <;> dsimp only) | intro y)
def f14n (N : Nat) (v1 : T31) (v2 : List T48) : Option (Bool × Int) :=
  (f19n N v1).bind fun v3 => (cond (!v3) (some true) ((f30n N v2).bind fun v4 => some (!v4))).bind fun v5 => cond v5 (some (false, (2 : Int))) ((f33n N v1 v2).bind fun v6 => some (v6, (0 : Int)))
theorem f14_le (N : Nat) (v1 : T31) (v2 : List T48) : Le (f14n N v1 v2) (f14 v1 v2) := by
  unfold f14n f14
  repeat' (first | exact Le.refl _ | apply f19_le | apply f30_le | apply f33_le | apply Le.cond | apply Le.ite | apply Le.iter | apply Le.bind | (intro y; cases y <;> dsimp only) | intro y)
def f3_b1n (N : Nat) (v1 : List T31) (v2 : List T48) (v6 : Int × Int) (v12 : Int) : Option (Int ⊕ Out Bool Unit) :=
  cond (decide (v12 < (v1.length : Int))) (if (0 : Int) ≤ v12 ∧ v12 < (v1.length : Int) then (f14n N (v1.getD v12.toNat default) v2).bind fun v13 => (cond (v13.2 != (0 : Int)) (some true) ((cond v13.1 (some (v12 != v6.1)) (some false)).bind fun v14 => (cond v14 (if (0 : Int) ≤ v6.1 ∧ v6.1 < (v1.length : Int) then (f15n N (v1.getD (Int.toNat v6.1) default)).bind fun v15 => (cond v15 (some true) (if (0 : Int) ≤ v12 ∧ v12 < (v1.length : Int) then (f15n N (v1.getD v12.toNat default)).bind fun v16 => some (!v16) else none)).bind fun v17 => some v17 else none) (some false)).bind fun v18 => some v18)).bind fun v19 => cond v19 (some (.inr (.ret false))) (some (.inl (w64 (v12 + (1 : Int))))) else none) (some (.inr (.go ())))
theorem f3_b1_le (N : Nat) (v1 : List T31) (v2 : List T48) (v6 : Int × Int) (v12 : Int) : Le (f3_b1n N v1 v2 v6 v12) (f3_b1 v1 v2 v6 v12) := by
  unfold f3_b1n f3_b1
  repeat' (first | exact Le.refl _ | apply f14_le | apply f15_le | apply Le.cond | apply Le.ite | apply Le.iter | apply Le.bind | (intro y; cases y <;> dsimp only) | intro y)
def f3n (N : Nat) (v1 : List T31) (v2 : List T48) : Option Bool :=
  (f10n N v1).bind fun v3 => (cond v3 (some true) (some (decide ((v2.length : Int) > (100 : Int))))).bind fun v4 => cond v4 ((f11n N ).bind fun v5 => some v5) ((f12n N v1 v2).bind fun v6 => (f13n N v1 v2).bind fun v7 => (cond (v6.1 != v7.1) (some true) (some (v6.2 != v7.2))).bind fun v8 => cond v8 (some false) (cond (v6.2 != (0 : Int)) ((f11n N ).bind fun v9 => some v9) (if (0 : Int) ≤ v6.1 ∧ v6.1 < (v1.length : Int) then (f14n N (v1.getD (Int.toNat v6.1) default) v2).bind fun v10 => (cond (v10.2 != (0 : Int)) (some true) (some (!v10.1))).bind fun v11 => cond v11 (some false) ((itN N (fun s => f3_b1n N v1 v2 v6 s) (0 : Int)).bind fun y => match y with | .ret v20 => some v20 | .go _ => (f11n N ).bind fun v21 => some v21) else none)))
theorem f3_le (N : Nat) (v1 : List T31) (v2 : List T48) : Le (f3n N v1 v2) (f3 v1 v2) := by
  unfold f3n f3
  repeat' (first | exact Le.refl _ | apply f10_le | apply f11_le | apply f12_le | apply f13_le | apply f14_le | apply f3_b1_le | apply Le.cond | apply Le.ite | apply Le.iter | apply Le.bind | (intro y; cases y <;> dsimp only) | intro y)
def f16n (N : Nat) (v1 : T31) (v2 : List T48) : Option (Bool × Int) :=
  (f20n N v1).bind fun v3 => (cond (!v3) (some true) ((f35n N v2).bind fun v4 => some (!v4))).bind fun v5 => cond v5 (some (false, (2 : Int))) ((f37n N v1 v2).bind fun v6 => some (v6, (0 : Int)))
theorem f16_le (N : Nat) (v1 : T31) (v2 : List T48) : Le (f16n N v1 v2) (f16 v1 v2) := by
  unfold f16n f16
  repeat' (first | exact Le.refl _ | apply f20_le | apply f35_le | apply f37_le | apply Le.cond | apply Le.ite | apply Le.iter | apply Le.bind | (intro y; cases y <;> dsimp only) | intro y)
def f4n (N : Nat) (v1 : T31) (v2 : List T48) : Option Bool :=
  (f10n N [v1]).bind fun v3 => (cond v3 (some true) (some (decide ((v2.length : Int) > (100 : Int))))).bind fun v4 => cond v4 ((f11n N ).bind fun v5 => some v5) ((f14n N v1 v2).bind fun v6 => (f16n N v1 v2).bind fun v7 => (cond (v6.1 == v7.1) (some (v6.2 == v7.2)) (some false)).bind fun v8 => (cond v8 ((f11n N ).bind fun v9 => some v9) (some false)).bind fun v10 => some v10)
theorem f4_le (N : Nat) (v1 : T31) (v2 : List T48) : Le (f4n N v1 v2) (f4 v1 v2) := by
  unfold f4n f4
  repeat' (first | exact Le.refl _ | apply f10_le | apply f11_le | apply f14_le | apply f16_le | apply Le.cond | apply Le.ite | apply Le.iter | apply Le.bind | (intro y; cases y <;> dsimp only) | intro y)
def f17n (N : Nat) (v1 : List T31) : Option (Int × Int × Int) :=
  (f29n N v1).bind fun v2 => cond (!v2) (some ((0 : Int), (0 : Int), (2 : Int))) ((f31n N v1).bind fun v3 => cond v3.2.2 (some (v3.1, v3.2.1, (8 : Int))) (some ((0 : Int), (0 : Int), (0 : Int))))
theorem f17_le (N : Nat) (v1 : List T31) : Le (f17n N v1) (f17 v1) := by
  unfold f17n f17
  repeat' (first | exact Le.refl _ | apply f29_le | apply f31_le | apply Le.cond | apply Le.ite | apply Le.iter | apply Le.bind | (intro y; cases y <;> dsimp only) | intro y)
def f18n (N : Nat) (v1 : List T31) : Option (Int × Int × Int) :=
  (f34n N v1).bind fun v2 => cond (!v2) (some ((0 : Int), (0 : Int), (2 : Int))) ((f36n N v1).bind fun v3 => cond v3.2.2 (some (v3.1, v3.2.1, (8 : Int))) (some ((0 : Int), (0 : Int), (0 : Int))))
theorem f18_le (N : Nat) (v1 : List T31) : Le (f18n N v1) (f18 v1) := by
  unfold f18n f18
  repeat' (first | exact Le.refl _ | apply f34_le | apply f36_le | apply Le.cond | apply Le.ite | apply Le.iter | apply Le.bind | (intro y; cases y <;> dsimp only) | intro y)
def f5_b1n (N : Nat) (v1 : List T31) (v6 : Int) : Option (Int ⊕ Out Bool Unit) :=
  cond (decide (v6 < (v1.length : Int))) (if (0 : Int) ≤ v6 ∧ v6 < (v1.length : Int) ∧ (0 : Int) ≤ v6 ∧ v6 < (v1.length : Int) then (f19n N (v1.getD v6.toNat default)).bind fun v7 => (f20n N (v1.getD v6.toNat default)).bind fun v8 => cond (!(v7 == v8)) (some (.inr (.ret false))) (some (.inl (w64 (v6 + (1 : Int))))) else none) (some (.inr (.go ())))
theorem f5_b1_le (N : Nat) (v1 : List T31) (v6 : Int) : Le (f5_b1n N v1 v6) (f5_b1 v1 v6) := by
  unfold f5_b1n f5_b1
  repeat' (first | exact Le.refl _ | apply f19_le | apply f20_le | apply Le.cond | apply Le.ite | apply Le.iter | apply Le.bind | (intro y; cases y <;> dsimp only) | intro y)
def f5n (N : Nat) (v1 : List T31) : Option Bool :=
  (f10n N v1).bind fun v2 => cond v2 ((f11n N ).bind fun v3 => some v3) ((f17n N v1).bind fun v4 => (f18n N v1).bind fun v5 => (itN N (fun s => f5_b1n N v1 s) (0 : Int)).bind fun y => match y with | .ret v9 => some v9 | .go _ => (cond (v4.1 == v5.1) (some (v4.2.1 == v5.2.1)) (some false)).bind fun v10 => (cond v10 (some (v4.2.2 == v5.2.2)) (some false)).bind fun v11 => (cond v11 ((f11n N ).bind fun v12 => some v12) (some false)).bind fun v13 => some v13)
theorem f5_le (N : Nat) (v1 : List T31) : Le (f5n N v1) (f5 v1) := by
  unfold f5n f5
  repeat' (first | exact Le.refl _ | apply f10_le | apply f11_le | apply f17_le | apply f18_le | apply f5_b1_le | apply Le.cond | apply Le.ite | apply Le.iter | apply Le.bind | (intro y; cases y <;> dsimp only) | intro y)
def f6_j1n (N : Nat) (v1 : List T31) (v2 : List T48) (v7 : List T31) : Option Bool :=
  (f17n N v1).bind fun v8 => (f17n N v7).bind fun v9 => (f12n N v1 v2).bind fun v10 => (f12n N v7 v2).bind fun v11 => (cond (v8.2.2 == v9.2.2) (cond (v10.2 == v11.2) (cond (v10.2 != (0 : Int)) ((f11n N ).bind fun v13 => some v13) (if (0 : Int) ≤ v10.1 ∧ v10.1 < (v1.length : Int) ∧ (0 : Int) ≤ v11.1 ∧ v11.1 < (v7.length : Int) then cond (((v1.getD (Int.toNat v10.1) default).f0) == ((v7.getD (Int.toNat v11.1) default).f0)) ((f11n N ).bind fun v14 => some v14) (some false) else none)) (some false)) (some false)).bind fun v12 => some v12
theorem f6_j1_le (N : Nat) (v1 : List T31) (v2 : List T48) (v7 : List T31) : Le (f6_j1n N v1 v2 v7) (f6_j1 v1 v2 v7) := by
  unfold f6_j1n f6_j1
  repeat' (first | exact Le.refl _ | apply f17_le | apply f12_le | apply f11_le | apply Le.cond | apply Le.ite | apply Le.iter | apply Le.bind | (intro y; cases y <;> dsimp only) | intro y)
def f6_b2n (N : Nat) (v1 : List T31) (v3 : Int) (v15 : List T31) (v16 : Int) : Option (((List T31) × Int) ⊕ Out Bool (List T31)) :=
  (cond (Int.tmod v3 (2 : Int) != (0 : Int)) (some (decide (v16 < w64 (Int.tdiv ((([] : List T31) ++ v1).length : Int) (2 : Int))))) (some false)).bind fun v18 => cond v18 (if (0 : Int) ≤ w64 ((w64 (((([] : List T31) ++ v1).length : Int) - (1 : Int))) - v16) ∧ w64 ((w64 (((([] : List T31) ++ v1).length : Int) - (1 : Int))) - v16) < (v15.length : Int) ∧ (0 : Int) ≤ v16 ∧ v16 < (v15.length : Int) then if (0 : Int) ≤ v16 ∧ v16 < (v15.length : Int) then if (0 : Int) ≤ w64 ((w64 (((([] : List T31) ++ v1).length : Int) - (1 : Int))) - v16) ∧ w64 ((w64 (((([] : List T31) ++ v1).length : Int) - (1 : Int))) - v16) < ((v15.set v16.toNat (v15.getD (Int.toNat (w64 ((w64 (((([] : List T31) ++ v1).length : Int) - (1 : Int))) - v16))) default)).length : Int) then some (.inl ((v15.set v16.toNat (v15.getD (Int.toNat (w64 ((w64 (((([] : List T31) ++ v1).length : Int) - (1 : Int))) - v16))) default)).set (Int.toNat (w64 ((w64 (((([] : List T31) ++ v1).length : Int) - (1 : Int))) - v16))) (v15.getD v16.toNat default), w64 (v16 + (1 : Int)))) else none else none else none) (some (.inr (.go v15)))
theorem f6_b2_le (N : Nat) (v1 : List T31) (v3 : Int) (v15 : List T31) (v16 : Int) : Le (f6_b2n N v1 v3 v15 v16) (f6_b2 v1 v3 v15 v16) := by
  unfold f6_b2n f6_b2
  repeat' (first | exact Le.refl _ | apply Le.cond | apply Le.ite | apply Le.iter | apply Le.bind | (intro y; cases y <;> dsimp only) | intro y)
def f6n (N : Nat) (v1 : List T31) (v2 : List T48) (v3 : Int) : Option Bool :=
  (f10n N v1).bind fun v4 => (cond v4 (some true) (some (decide ((v2.length : Int) > (100 : Int))))).bind fun v5 => cond v5 ((f11n N ).bind fun v6 => some v6) (if (([] : List T31).length + v1.length) * 40 ≤ 140737488355328 then cond (decide (((([] : List T31) ++ v1).length : Int) > (0 : Int))) (if ((([] : List T31) ++ v1).length : Int) ≠ (0 : Int) ∧ ((([] : List T31) ++ v1).length : Int) ≠ (0 : Int) then if (0 : Int) ≤ Int.tmod (w64 ((Int.tmod v3 ((([] : List T31) ++ v1).length : Int)) + ((([] : List T31) ++ v1).length : Int))) ((([] : List T31) ++ v1).length : Int) ∧ Int.tmod (w64 ((Int.tmod v3 ((([] : List T31) ++ v1).length : Int)) + ((([] : List T31) ++ v1).length : Int))) ((([] : List T31) ++ v1).length : Int) ≤ (v1.length : Int) then if (0 : Int) ≤ Int.tmod (w64 ((Int.tmod v3 ((([] : List T31) ++ v1).length : Int)) + ((([] : List T31) ++ v1).length : Int))) ((([] : List T31) ++ v1).length : Int) ∧ Int.tmod (w64 ((Int.tmod v3 ((([] : List T31) ++ v1).length : Int)) + ((([] : List T31) ++ v1).length : Int))) ((([] : List T31) ++ v1).length : Int) ≤ (v1.length : Int) then if (([] : List T31).length + ((v1.take (Int.toNat (v1.length : Int))).drop (Int.toNat (Int.tmod (w64 ((Int.tmod v3 ((([] : List T31) ++ v1).length : Int)) + ((([] : List T31) ++ v1).length : Int))) ((([] : List T31) ++ v1).length : Int)))).length) * 40 ≤ 140737488355328 then if ((([] : List T31) ++ ((v1.take (Int.toNat (v1.length : Int))).drop (Int.toNat (Int.tmod (w64 ((Int.tmod v3 ((([] : List T31) ++ v1).length : Int)) + ((([] : List T31) ++ v1).length : Int))) ((([] : List T31) ++ v1).length : Int))))).length + ((v1.take (Int.toNat (Int.tmod (w64 ((Int.tmod v3 ((([] : List T31) ++ v1).length : Int)) + ((([] : List T31) ++ v1).length : Int))) ((([] : List T31) ++ v1).length : Int)))).drop 0).length) * 40 ≤ 140737488355328 then (itN N (fun s => f6_b2n N v1 v3 s.1 s.2) ((([] : List T31) ++ ((v1.take (Int.toNat (v1.length : Int))).drop (Int.toNat (Int.tmod (w64 ((Int.tmod v3 ((([] : List T31) ++ v1).length : Int)) + ((([] : List T31) ++ v1).length : Int))) ((([] : List T31) ++ v1).length : Int))))) ++ ((v1.take (Int.toNat (Int.tmod (w64 ((Int.tmod v3 ((([] : List T31) ++ v1).length : Int)) + ((([] : List T31) ++ v1).length : Int))) ((([] : List T31) ++ v1).length : Int)))).drop 0), (0 : Int))).bind fun y => match y with | .ret v19 => some v19 | .go v17 => f6_j1n N v1 v2 v17 else none else none else none else none else none) (f6_j1n N v1 v2 (([] : List T31) ++ v1)) else none)
theorem f6_le (N : Nat) (v1 : List T31) (v2 : List T48) (v3 : Int) : Le (f6n N v1 v2 v3) (f6 v1 v2 v3) := by
  unfold f6n f6
  repeat' (first | exact Le.refl _ | apply f10_le | apply f11_le | apply f6_b2_le | apply f6_j1_le | apply Le.cond | apply Le.ite | apply Le.iter | apply Le.bind | (intro y; cases y <;> dsimp only) | intro y)
def f21n (N : Nat) (v1 : T31) (v2 : T31) : Option (Bool × Int) :=
  (f19n N v1).bind fun v3 => (cond (!v3) (some true) ((f19n N v2).bind fun v4 => some (!v4))).bind fun v5 => cond v5 (some (false, (2 : Int))) ((f41n N v1 v2).bind fun v6 => some (v6, (0 : Int)))
theorem f21_le (N : Nat) (v1 : T31) (v2 : T31) : Le (f21n N v1 v2) (f21 v1 v2) := by
  unfold f21n f21
  repeat' (first | exact Le.refl _ | apply f19_le | apply f41_le | apply Le.cond | apply Le.ite | apply Le.iter | apply Le.bind | (intro y; cases y <;> dsimp only) | intro y)
def f22n (N : Nat) (v1 : T31) (v2 : T31) : Option (Bool × Int) :=
  (f20n N v1).bind fun v3 => (cond (!v3) (some true) ((f20n N v2).bind fun v4 => some (!v4))).bind fun v5 => cond v5 (some (false, (2 : Int))) ((f42n N v1 v2).bind fun v6 => some (v6, (0 : Int)))
theorem f22_le (N : Nat) (v1 : T31) (v2 : T31) : Le (f22n N v1 v2) (f22 v1 v2) := by
  unfold f22n f22
  repeat' (first | exact Le.refl _ | apply f20_le | apply f42_le | apply Le.cond | apply Le.ite | apply Le.iter | apply Le.bind | (intro y; cases y <;> dsimp only) | intro y)
def f23n (N : Nat) (v1 : T31) (v2 : T31) : Option ((List T48) × Int) :=
  (f19n N v1).bind fun v3 => (cond (!v3) (some true) ((f19n N v2).bind fun v4 => some (!v4))).bind fun v5 => cond v5 (some (([] : List T48), (2 : Int))) ((f43n N v1 v2).bind fun v6 => cond (!v6.2) (some (([] : List T48), (5 : Int))) (some (v6.1, (0 : Int))))
theorem f23_le (N : Nat) (v1 : T31) (v2 : T31) : Le (f23n N v1 v2) (f23 v1 v2) := by
  unfold f23n f23
  repeat' (first | exact Le.refl _ | apply f19_le | apply f43_le | apply Le.cond | apply Le.ite | apply Le.iter | apply Le.bind | (intro y; cases y <;> dsimp only) | intro y)
def f24n (N : Nat) (v1 : T31) (v2 : T31) : Option ((List T48) × Int) :=
  (f20n N v1).bind fun v3 => (cond (!v3) (some true) ((f20n N v2).bind fun v4 => some (!v4))).bind fun v5 => cond v5 (some (([] : List T48), (2 : Int))) ((f44n N v1 v2).bind fun v6 => cond (!v6.2) (some (([] : List T48), (5 : Int))) (some (v6.1, (0 : Int))))
theorem f24_le (N : Nat) (v1 : T31) (v2 : T31) : Le (f24n N v1 v2) (f24 v1 v2) := by
  unfold f24n f24
  repeat' (first | exact Le.refl _ | apply f20_le | apply f44_le | apply Le.cond | apply Le.ite | apply Le.iter | apply Le.bind | (intro y; cases y <;> dsimp only) | intro y)
def f25_b1n (N : Nat) (v1 : List T48) (v2 : List T48) (v3 : Int) : Option (Int ⊕ Out Bool Unit) :=
  cond (decide (v3 < (v1.length : Int))) (if (0 : Int) ≤ v3 ∧ v3 < (v1.length : Int) ∧ (0 : Int) ≤ v3 ∧ v3 < (v2.length : Int) then cond (!((((v1.getD v3.toNat default).f0) == ((v2.getD v3.toNat default).f0)) && ((((v1.getD v3.toNat default).f1) == ((v2.getD v3.toNat default).f1)) && (((v1.getD v3.toNat default).f2) == ((v2.getD v3.toNat default).f2))))) (some (.inr (.ret false))) (some (.inl (w64 (v3 + (1 : Int))))) else none) (some (.inr (.go ())))
theorem f25_b1_le (N : Nat) (v1 : List T48) (v2 : List T48) (v3 : Int) : Le (f25_b1n N v1 v2 v3) (f25_b1 v1 v2 v3) := by
  unfold f25_b1n f25_b1
  repeat' (first | exact Le.refl _ | apply Le.cond | apply Le.ite | apply Le.iter | apply Le.bind | (intro y; cases y <;> dsimp only) | intro y)
def f25n (N : Nat) (v1 : List T48) (v2 : List T48) : Option Bool :=
  cond ((v1.length : Int) != (v2.length : Int)) (some false) ((itN N (fun s => f25_b1n N v1 v2 s) (0 : Int)).bind fun y => match y with | .ret v4 => some v4 | .go _ => some true)
theorem f25_le (N : Nat) (v1 : List T48) (v2 : List T48) : Le (f25n N v1 v2) (f25 v1 v2) := by
  unfold f25n f25
  repeat' (first | exact Le.refl _ | apply f25_b1_le | apply Le.cond | apply Le.ite | apply Le.iter | apply Le.bind | (intro y; cases y <;> dsimp only) | intro y)
def f7n (N : Nat) (v1 : T31) (v2 : T31) : Option Bool :=
  (f10n N [v1, v2]).bind fun v3 => cond v3 ((f11n N ).bind fun v4 => some v4) ((f21n N v1 v2).bind fun v5 => (f22n N v1 v2).bind fun v6 => (f23n N v1 v2).bind fun v7 => (f24n N v1 v2).bind fun v8 => (cond (!(v5.1 == v6.1)) (some true) (some (v5.2 != v6.2))).bind fun v9 => (cond v9 (some true) ((f25n N v7.1 v8.1).bind fun v10 => some (!v10))).bind fun v11 => (cond v11 (some true) (some (v7.2 != v8.2))).bind fun v12 => cond v12 (some false) (cond (v7.2 != (0 : Int)) ((f11n N ).bind fun v13 => some v13) ((f14n N v1 v7.1).bind fun v14 => (f14n N v2 v7.1).bind fun v15 => (cond (v14.2 == (0 : Int)) (some (v15.2 == (0 : Int))) (some false)).bind fun v16 => (cond v16 (some v14.1) (some false)).bind fun v17 => (cond v17 (some v15.1) (some false)).bind fun v18 => (cond v18 ((f11n N ).bind fun v19 => some v19) (some false)).bind fun v20 => some v20)))
theorem f7_le (N : Nat) (v1 : T31) (v2 : T31) : Le (f7n N v1 v2) (f7 v1 v2) := by
  unfold f7n f7
  repeat' (first | exact Le.refl _ | apply f10_le | apply f11_le | apply f21_le | apply f22_le | apply f23_le | apply f24_le | apply f25_le | apply f14_le | apply Le.cond | apply Le.ite | apply Le.iter | apply Le.bind | (intro y; cases y <;> dsimp only) | intro y)
def f8n (N : Nat) (v1 : T31) (v2 : T31) (v3 : List T48) : Option Bool :=
  (f10n N [v1, v2]).bind fun v4 => (cond v4 (some true) (some (decide ((v3.length : Int) > (100 : Int))))).bind fun v5 => cond v5 ((f11n N ).bind fun v6 => some v6) ((f14n N v1 v3).bind fun v7 => (f14n N v2 v3).bind fun v8 => (cond (v7.2 != (0 : Int)) (some true) (some (v8.2 != (0 : Int)))).bind fun v9 => (cond v9 (some true) (some (!v7.1))).bind fun v10 => (cond v10 (some true) (some (!v8.1))).bind fun v11 => cond v11 ((f11n N ).bind fun v12 => some v12) ((f23n N v1 v2).bind fun v13 => (f21n N v1 v2).bind fun v14 => (cond (v13.2 == (0 : Int)) (cond (v14.2 == (0 : Int)) ((f15n N v1).bind fun v16 => (f15n N v2).bind fun v17 => cond (v14.1 == (v16 == v17)) ((f11n N ).bind fun v18 => some v18) (some false)) (some false)) (some false)).bind fun v15 => some v15))
theorem f8_le (N : Nat) (v1 : T31) (v2 : T31) (v3 : List T48) : Le (f8n N v1 v2 v3) (f8 v1 v2 v3) := by
  unfold f8n f8
  repeat' (first | exact Le.refl _ | apply f10_le | apply f11_le | apply f14_le | apply f23_le | apply f21_le | apply f15_le | apply Le.cond | apply Le.ite | apply Le.iter | apply Le.bind | (intro y; cases y <;> dsimp only) | intro y)
def f62_e_j1n (N : Nat) (v2 : List T31) : Option (List T31) :=
  some v2
theorem f62_e_j1_le (N : Nat) (v2 : List T31) : Le (f62_e_j1n N v2) (f62_e_j1 v2) := by
  unfold f62_e_j1n f62_e_j1
  repeat' (first | exact Le.refl _ | apply Le.cond | apply Le.ite | apply Le.iter | apply Le.bind | (intro y; cases y <;> dsimp only) | intro y)
def f62_en (N : Nat) (v1 : Int) : Option (List T31) :=
  cond (decide (v1 < (0 : Int))) none (cond (decide (w64 (v1 - (w64 ((0 : Int) - (0 : Int)))) > (0 : Int))) (if (0 : Int) ≤ w64 (v1 - (w64 ((0 : Int) - (0 : Int)))) ∧ (Int.toNat (w64 (v1 - (w64 ((0 : Int) - (0 : Int)))))) * 40 ≤ 140737488355328 then f62_e_j1n N ([] : List T31) else none) (f62_e_j1n N []))
theorem f62_e_le (N : Nat) (v1 : Int) : Le (f62_en N v1) (f62_e v1) := by
  unfold f62_en f62_e
  repeat' (first | exact Le.refl _ | apply f62_e_j1_le | apply Le.cond | apply Le.ite | apply Le.iter | apply Le.bind | (intro y; cases y <;> dsimp only) | intro y)
def f45_b1n (N : Nat) (v1 : List (List T31)) (v2 : Int) (v3 : Int) : Option ((Int × Int) ⊕ Out (List T31) Int) :=
  cond (decide (v3 < (v1.length : Int))) (if (0 : Int) ≤ v3 ∧ v3 < (v1.length : Int) then cond (decide (w64 (v2 + ((v1.getD v3.toNat default).length : Int)) < (0 : Int))) none (some (.inl (w64 (v2 + ((v1.getD v3.toNat default).length : Int)), w64 (v3 + (1 : Int))))) else none) (some (.inr (.go v2)))
theorem f45_b1_le (N : Nat) (v1 : List (List T31)) (v2 : Int) (v3 : Int) : Le (f45_b1n N v1 v2 v3) (f45_b1 v1 v2 v3) := by
  unfold f45_b1n f45_b1
  repeat' (first | exact Le.refl _ | apply Le.cond | apply Le.ite | apply Le.iter | apply Le.bind | (intro y; cases y <;> dsimp only) | intro y)
def f45_b2n (N : Nat) (v1 : List (List T31)) (v7 : List T31) (v8 : Int) : Option (((List T31) × Int) ⊕ Out (List T31) (List T31)) :=
  cond (decide (v8 < (v1.length : Int))) (if (0 : Int) ≤ v8 ∧ v8 < (v1.length : Int) then if (v7.length + (v1.getD v8.toNat default).length) * 40 ≤ 140737488355328 then some (.inl (v7 ++ (v1.getD v8.toNat default), w64 (v8 + (1 : Int)))) else none else none) (some (.inr (.go v7)))
theorem f45_b2_le (N : Nat) (v1 : List (List T31)) (v7 : List T31) (v8 : Int) : Le (f45_b2n N v1 v7 v8) (f45_b2 v1 v7 v8) := by
  unfold f45_b2n f45_b2
  repeat' (first | exact Le.refl _ | apply Le.cond | apply Le.ite | apply Le.iter | apply Le.bind | (intro y; cases y <;> dsimp only) | intro y)
def f45n (N : Nat) (v1 : List (List T31)) : Option (List T31) :=
  (itN N (fun s => f45_b1n N v1 s.1 s.2) ((0 : Int), (0 : Int))).bind fun y => match y with | .ret v5 => some v5 | .go v4 => (f62_en N v4).bind fun v6 => (itN N (fun s => f45_b2n N v1 s.1 s.2) (v6, (0 : Int))).bind fun y => match y with | .ret v10 => some v10 | .go v9 => some v9
theorem f45_le (N : Nat) (v1 : List (List T31)) : Le (f45n N v1) (f45 v1) := by
  unfold f45n f45
  repeat' (first | exact Le.refl _ | apply f45_b1_le | apply f62_e_le | apply f45_b2_le | apply Le.cond | apply Le.ite | apply Le.iter | apply Le.bind | (intro y; cases y <;> dsimp only) | intro y)
def f64_b1n (N : Nat) (v1 : List T48) (v2 : List T48) (v3 : Int) : Option (Int ⊕ Out Bool Unit) :=
  cond (decide (v3 < (v1.length : Int))) (if (0 : Int) ≤ v3 ∧ v3 < (v1.length : Int) ∧ (0 : Int) ≤ v3 ∧ v3 < (v2.length : Int) then cond (!((((v1.getD v3.toNat default).f0) == ((v2.getD v3.toNat default).f0)) && ((((v1.getD v3.toNat default).f1) == ((v2.getD v3.toNat default).f1)) && (((v1.getD v3.toNat default).f2) == ((v2.getD v3.toNat default).f2))))) (some (.inr (.ret false))) (some (.inl (w64 (v3 + (1 : Int))))) else none) (some (.inr (.go ())))
theorem f64_b1_le (N : Nat) (v1 : List T48) (v2 : List T48) (v3 : Int) : Le (f64_b1n N v1 v2 v3) (f64_b1 v1 v2 v3) := by
  unfold f64_b1n f64_b1
  repeat' (first | exact Le.refl _ | apply Le.cond | apply Le.ite | apply Le.iter | apply Le.bind | (intro y; cases y <;> dsimp only) | intro y)
def f64n (N : Nat) (v1 : List T48) (v2 : List T48) : Option Bool :=
  cond ((v1.length : Int) != (v2.length : Int)) (some false) ((itN N (fun s => f64_b1n N v1 v2 s) (0 : Int)).bind fun y => match y with | .ret v4 => some v4 | .go _ => some true)
theorem f64_le (N : Nat) (v1 : List T48) (v2 : List T48) : Le (f64n N v1 v2) (f64 v1 v2) := by
  unfold f64n f64
  repeat' (first | exact Le.refl _ | apply f64_b1_le | apply Le.cond | apply Le.ite | apply Le.iter | apply Le.bind | (intro y; cases y <;> dsimp only) | intro y)
def f48n (N : Nat) (v1 : T31) (v2 : T31) : Option Bool :=
  (cond (v1.f0 == v2.f0) ((f64n N v1.f1 v2.f1).bind fun v3 => some v3) (some false)).bind fun v4 => some v4
theorem f48_le (N : Nat) (v1 : T31) (v2 : T31) : Le (f48n N v1 v2) (f48 v1 v2) := by
  unfold f48n f48
  repeat' (first | exact Le.refl _ | apply f64_le | apply Le.cond | apply Le.ite | apply Le.iter | apply Le.bind | (intro y; cases y <;> dsimp only) | intro y)
def f47n (N : Nat) (v1 : T31) (v2 : T31) : Option Bool :=
  (f48n N v2 v1).bind fun v3 => some v3
theorem f47_le (N : Nat) (v1 : T31) (v2 : T31) : Le (f47n N v1 v2) (f47 v1 v2) := by
  unfold f47n f47
  repeat' (first | exact Le.refl _ | apply f48_le | apply Le.cond | apply Le.ite | apply Le.iter | apply Le.bind | (intro y; cases y <;> dsimp only) | intro y)
def f63_47_b1n (N : Nat) (v1 : List T31) (v2 : T31) (v3 : Int) : Option (Int ⊕ Out Int Unit) :=
  cond (decide (v3 < (v1.length : Int))) (if (0 : Int) ≤ v3 ∧ v3 < (v1.length : Int) then (f47n N (v1.getD v3.toNat default) v2).bind fun v4 => cond v4 (some (.inr (.ret v3))) (some (.inl (w64 (v3 + (1 : Int))))) else none) (some (.inr (.go ())))
theorem f63_47_b1_le (N : Nat) (v1 : List T31) (v2 : T31) (v3 : Int) : Le (f63_47_b1n N v1 v2 v3) (f63_47_b1 v1 v2 v3) := by
  unfold f63_47_b1n f63_47_b1
  repeat' (first | exact Le.refl _ | apply f47_le | apply Le.cond | apply Le.ite | apply Le.iter | apply Le.bind | (intro y; cases y <;> dsimp only) | intro y)
def f63_47n (N : Nat) (v1 : List T31) (v2 : T31) : Option Int :=
  (itN N (fun s => f63_47_b1n N v1 v2 s) (0 : Int)).bind fun y => match y with | .ret v5 => some v5 | .go _ => some (-1 : Int)
theorem f63_47_le (N : Nat) (v1 : List T31) (v2 : T31) : Le (f63_47n N v1 v2) (f63_47 v1 v2) := by
  unfold f63_47n f63_47
  repeat' (first | exact Le.refl _ | apply f63_47_b1_le | apply Le.cond | apply Le.ite | apply Le.iter | apply Le.bind | (intro y; cases y <;> dsimp only) | intro y)
def f46_47n (N : Nat) (v1 : List T31) (v2 : T31) : Option Bool :=
  (f63_47n N v1 v2).bind fun v3 => some (decide (v3 ≥ (0 : Int)))
theorem f46_47_le (N : Nat) (v1 : List T31) (v2 : T31) : Le (f46_47n N v1 v2) (f46_47 v1 v2) := by
  unfold f46_47n f46_47
  repeat' (first | exact Le.refl _ | apply f63_47_le | apply Le.cond | apply Le.ite | apply Le.iter | apply Le.bind | (intro y; cases y <;> dsimp only) | intro y)
def f49n (N : Nat) (v1 : List T48) : Option (List T48) :=
  if (([] : List T48).length + v1.length) * 24 ≤ 140737488355328 then some (([] : List T48) ++ v1) else none
theorem f49_le (N : Nat) (v1 : List T48) : Le (f49n N v1) (f49 v1) := by
  unfold f49n f49
  repeat' (first | exact Le.refl _ | apply Le.cond | apply Le.ite | apply Le.iter | apply Le.bind | (intro y; cases y <;> dsimp only) | intro y)
def f26_j1n (N : Nat) (v8 : Int) (v10 : List T31) : Option (((List T31) × Int) ⊕ Out ((List T31) × Int) (List T31)) :=
  some (.inl (v10, w64 (v8 + (1 : Int))))
theorem f26_j1_le (N : Nat) (v8 : Int) (v10 : List T31) : Le (f26_j1n N v8 v10) (f26_j1 v8 v10) := by
  unfold f26_j1n f26_j1
  repeat' (first | exact Le.refl _ | apply Le.cond | apply Le.ite | apply Le.iter | apply Le.bind | (intro y; cases y <;> dsimp only) | intro y)
def f26_b2n (N : Nat) (v6 : (List T31)) (v7 : List T31) (v8 : Int) : Option (((List T31) × Int) ⊕ Out ((List T31) × Int) (List T31)) :=
  cond (decide (v8 < (v6.length : Int))) (if (0 : Int) ≤ v8 ∧ v8 < (v6.length : Int) then (f46_47n N v7 (v6.getD v8.toNat default)).bind fun v11 => cond v11 (f26_j1n N v8 v7) ((f49n N ((v6.getD v8.toNat default).f1)).bind fun v12 => if (v7.length + [T31.mk ((v6.getD v8.toNat default).f0) v12].length) * 40 ≤ 140737488355328 then f26_j1n N v8 (v7 ++ [T31.mk ((v6.getD v8.toNat default).f0) v12]) else none) else none) (some (.inr (.go v7)))
theorem f26_b2_le (N : Nat) (v6 : (List T31)) (v7 : List T31) (v8 : Int) : Le (f26_b2n N v6 v7 v8) (f26_b2 v6 v7 v8) := by
  unfold f26_b2n f26_b2
  repeat' (first | exact Le.refl _ | apply f46_47_le | apply f26_j1_le | apply f49_le | apply Le.cond | apply Le.ite | apply Le.iter | apply Le.bind | (intro y; cases y <;> dsimp only) | intro y)
def f26n (N : Nat) (v1 : List T31) (v2 : List T31) : Option ((List T31) × Int) :=
  (f29n N v1).bind fun v3 => (cond (!v3) (some true) ((f29n N v2).bind fun v4 => some (!v4))).bind fun v5 => cond v5 (some (([] : List T31), (2 : Int))) ((f45n N [v1, v2]).bind fun v6 => (itN N (fun s => f26_b2n N v6 s.1 s.2) ([], (0 : Int))).bind fun y => match y with | .ret v13 => some (v13.1, v13.2) | .go v9 => (f29n N v9).bind fun v14 => cond (!v14) (some (([] : List T31), (2 : Int))) ((f31n N v9).bind fun v15 => cond v15.2.2 (some (([] : List T31), (8 : Int))) (some (v9, (0 : Int)))))
theorem f26_le (N : Nat) (v1 : List T31) (v2 : List T31) : Le (f26n N v1 v2) (f26 v1 v2) := by
  unfold f26n f26
  repeat' (first | exact Le.refl _ | apply f29_le | apply f45_le | apply f26_b2_le | apply f31_le | apply Le.cond | apply Le.ite | apply Le.iter | apply Le.bind | (intro y; cases y <;> dsimp only) | intro y)
def f50_b1n (N : Nat) (v1 : T31) (v2 : T31) (v4 : Int) : Option (Int ⊕ Out Bool Unit) :=
  cond (decide (v4 < (v1.f1.length : Int))) (if (0 : Int) ≤ v4 ∧ v4 < (v1.f1.length : Int) ∧ (0 : Int) ≤ v4 ∧ v4 < (v2.f1.length : Int) then cond (!((((v1.f1.getD v4.toNat default).f0) == ((v2.f1.getD v4.toNat default).f0)) && ((((v1.f1.getD v4.toNat default).f1) == ((v2.f1.getD v4.toNat default).f1)) && (((v1.f1.getD v4.toNat default).f2) == ((v2.f1.getD v4.toNat default).f2))))) (some (.inr (.ret false))) (some (.inl (w64 (v4 + (1 : Int))))) else none) (some (.inr (.go ())))
theorem f50_b1_le (N : Nat) (v1 : T31) (v2 : T31) (v4 : Int) : Le (f50_b1n N v1 v2 v4) (f50_b1 v1 v2 v4) := by
  unfold f50_b1n f50_b1
  repeat' (first | exact Le.refl _ | apply Le.cond | apply Le.ite | apply Le.iter | apply Le.bind | (intro y; cases y <;> dsimp only) | intro y)
def f50n (N : Nat) (v1 : T31) (v2 : T31) : Option Bool :=
  (cond (!(v1.f0 == v2.f0)) (some true) (some ((v1.f1.length : Int) != (v2.f1.length : Int)))).bind fun v3 => cond v3 (some false) ((itN N (fun s => f50_b1n N v1 v2 s) (0 : Int)).bind fun y => match y with | .ret v5 => some v5 | .go _ => some true)
theorem f50_le (N : Nat) (v1 : T31) (v2 : T31) : Le (f50n N v1 v2) (f50 v1 v2) := by
  unfold f50n f50
  repeat' (first | exact Le.refl _ | apply f50_b1_le | apply Le.cond | apply Le.ite | apply Le.iter | apply Le.bind | (intro y; cases y <;> dsimp only) | intro y)
def f27_j1n (N : Nat) (v7 : Int) (v9 : List T31) : Option (((List T31) × Int) ⊕ Out ((List T31) × Int) (List T31)) :=
  some (.inl (v9, w64 (v7 + (1 : Int))))
theorem f27_j1_le (N : Nat) (v7 : Int) (v9 : List T31) : Le (f27_j1n N v7 v9) (f27_j1 v7 v9) := by
  unfold f27_j1n f27_j1
  repeat' (first | exact Le.refl _ | apply Le.cond | apply Le.ite | apply Le.iter | apply Le.bind | (intro y; cases y <;> dsimp only) | intro y)
def f27_b2n (N : Nat) (v1 : List T31) (v2 : List T31) (v7 : Int) (v10 : Bool) (v11 : Int) : Option ((Bool × Int) ⊕ Out ((List T31) × Int) Bool) :=
  cond (decide (v11 < (v1.length : Int))) ((cond v10 (some true) (if (0 : Int) ≤ v11 ∧ v11 < (v1.length : Int) ∧ (0 : Int) ≤ v7 ∧ v7 < (v2.length : Int) then (f50n N (v1.getD v11.toNat default) (v2.getD v7.toNat default)).bind fun v14 => some v14 else none)).bind fun v13 => some (.inl (v13, w64 (v11 + (1 : Int))))) (some (.inr (.go v10)))
theorem f27_b2_le (N : Nat) (v1 : List T31) (v2 : List T31) (v7 : Int) (v10 : Bool) (v11 : Int) : Le (f27_b2n N v1 v2 v7 v10 v11) (f27_b2 v1 v2 v7 v10 v11) := by
  unfold f27_b2n f27_b2
  repeat' (first | exact Le.refl _ | apply f50_le | apply Le.cond | apply Le.ite | apply Le.iter | apply Le.bind | (intro y; cases y <;> dsimp only) | intro y)
def f27_b3n (N : Nat) (v1 : List T31) (v2 : List T31) (v6 : List T31) (v7 : Int) : Option (((List T31) × Int) ⊕ Out ((List T31) × Int) (List T31)) :=
  cond (decide (v7 < (v2.length : Int))) ((itN N (fun s => f27_b2n N v1 v2 v7 s.1 s.2) (false, (0 : Int))).bind fun y => match y with | .ret v15 => some (.inr (.ret (v15.1, v15.2))) | .go v12 => cond (!v12) (if (0 : Int) ≤ v7 ∧ v7 < (v2.length : Int) then if (v6.length + [v2.getD v7.toNat default].length) * 40 ≤ 140737488355328 then f27_j1n N v7 (v6 ++ [v2.getD v7.toNat default]) else none else none) (f27_j1n N v7 v6)) (some (.inr (.go v6)))
theorem f27_b3_le (N : Nat) (v1 : List T31) (v2 : List T31) (v6 : List T31) (v7 : Int) : Le (f27_b3n N v1 v2 v6 v7) (f27_b3 v1 v2 v6 v7) := by
  unfold f27_b3n f27_b3
  repeat' (first | exact Le.refl _ | apply f27_b2_le | apply f27_j1_le | apply Le.cond | apply Le.ite | apply Le.iter | apply Le.bind | (intro y; cases y <;> dsimp only) | intro y)
def f27n (N : Nat) (v1 : List T31) (v2 : List T31) : Option ((List T31) × Int) :=
  (f34n N v1).bind fun v3 => (cond (!v3) (some true) ((f34n N v2).bind fun v4 => some (!v4))).bind fun v5 => cond v5 (some (([] : List T31), (2 : Int))) (if (([] : List T31).length + v1.length) * 40 ≤ 140737488355328 then (itN N (fun s => f27_b3n N v1 v2 s.1 s.2) (([] : List T31) ++ v1, (0 : Int))).bind fun y => match y with | .ret v16 => some (v16.1, v16.2) | .go v8 => (f34n N v8).bind fun v17 => cond (!v17) (some (([] : List T31), (2 : Int))) ((f36n N v8).bind fun v18 => cond v18.2.2 (some (([] : List T31), (8 : Int))) (some (v8, (0 : Int)))) else none)
theorem f27_le (N : Nat) (v1 : List T31) (v2 : List T31) : Le (f27n N v1 v2) (f27 v1 v2) := by
  unfold f27n f27
  repeat' (first | exact Le.refl _ | apply f34_le | apply f27_b3_le | apply f36_le | apply Le.cond | apply Le.ite | apply Le.iter | apply Le.bind | (intro y; cases y <;> dsimp only) | intro y)
def f28_b1n (N : Nat) (v1 : List T31) (v2 : List T31) (v3 : Int) : Option (Int ⊕ Out Bool Unit) :=
  cond (decide (v3 < (v1.length : Int))) (if (0 : Int) ≤ v3 ∧ v3 < (v1.length : Int) ∧ (0 : Int) ≤ v3 ∧ v3 < (v2.length : Int) then (f50n N (v1.getD v3.toNat default) (v2.getD v3.toNat default)).bind fun v4 => cond (!v4) (some (.inr (.ret false))) (some (.inl (w64 (v3 + (1 : Int))))) else none) (some (.inr (.go ())))
theorem f28_b1_le (N : Nat) (v1 : List T31) (v2 : List T31) (v3 : Int) : Le (f28_b1n N v1 v2 v3) (f28_b1 v1 v2 v3) := by
  unfold f28_b1n f28_b1
  repeat' (first | exact Le.refl _ | apply f50_le | apply Le.cond | apply Le.ite | apply Le.iter | apply Le.bind | (intro y; cases y <;> dsimp only) | intro y)
def f28n (N : Nat) (v1 : List T31) (v2 : List T31) : Option Bool :=
  cond ((v1.length : Int) != (v2.length : Int)) (some false) ((itN N (fun s => f28_b1n N v1 v2 s) (0 : Int)).bind fun y => match y with | .ret v5 => some v5 | .go _ => some true)
theorem f28_le (N : Nat) (v1 : List T31) (v2 : List T31) : Le (f28n N v1 v2) (f28 v1 v2) := by
  unfold f28n f28
  repeat' (first | exact Le.refl _ | apply f28_b1_le | apply Le.cond | apply Le.ite | apply Le.iter | apply Le.bind | (intro y; cases y <;> dsimp only) | intro y)
def f9n (N : Nat) (v1 : List T31) (v2 : List T31) : Option Bool :=
  (f10n N v1).bind fun v3 => (cond v3 (some true) ((f10n N v2).bind fun v4 => some v4)).bind fun v5 => cond v5 ((f11n N ).bind fun v6 => some v6) ((f26n N v1 v2).bind fun v7 => (f27n N v1 v2).bind fun v8 => (f28n N v7.1 v8.1).bind fun v9 => (cond v9 (some (v7.2 == v8.2)) (some false)).bind fun v10 => (cond v10 ((f11n N ).bind fun v11 => some v11) (some false)).bind fun v12 => some v12)
theorem f9_le (N : Nat) (v1 : List T31) (v2 : List T31) : Le (f9n N v1 v2) (f9 v1 v2) := by
  unfold f9n f9
  repeat' (first | exact Le.refl _ | apply f10_le | apply f11_le | apply f26_le | apply f27_le | apply f28_le | apply Le.cond | apply Le.ite | apply Le.iter | apply Le.bind | (intro y; cases y <;> dsimp only) | intro y)
end Go.Sx.gen
