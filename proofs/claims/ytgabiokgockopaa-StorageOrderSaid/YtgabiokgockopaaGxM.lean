/- The functions with so many rounds a loop; no condition. -/
import Derived.Test.YtgabiokgockopaaGx2
import Derived.Test.YtgabiokgockopaaSxC
namespace Go.Sx.sto
open Go Go.Sx Go.Proofs
set_option linter.unusedVariables false

def f58n (N : Nat) (v1 : Int) : Option Bool :=
 (cond (decide (v1 ≥ (97 : Int))) (some (decide (v1 ≤ (122 : Int)))) (some false)).bind fun v2 => (cond v2 (some true) ((cond (decide (v1 ≥ (65 : Int))) (some (decide (v1 ≤ (90 : Int)))) (some false)).bind fun v4 => some v4)).bind fun v3 => some v3
theorem f58_le (N : Nat) (v1 : Int) : Le (f58n N v1) (f58 v1) := by
 unfold f58n f58
 repeat' (first | exact Le.refl _ | apply Le.cond | apply Le.ite | apply Le.iter | apply Le.bind | (intro y; cases y <;> dsimp only) | intro y)
def f63n (N : Nat) (v1 : Int) : Option Bool :=
 (cond (decide (v1 ≥ (48 : Int))) (some (decide (v1 ≤ (57 : Int)))) (some false)).bind fun v2 => some v2
theorem f63_le (N : Nat) (v1 : Int) : Le (f63n N v1) (f63 v1) := by
 unfold f63n f63
 repeat' (first | exact Le.refl _ | apply Le.cond | apply Le.ite | apply Le.iter | apply Le.bind | (intro y; cases y <;> dsimp only) | intro y)
def f60n (N : Nat) (v1 : Int) : Option Bool :=
 (f58n N v1).bind fun v2 => (cond v2 (some true) ((f63n N v1).bind fun v4 => some v4)).bind fun v3 => (cond v3 (some true) (some (v1 == (95 : Int)))).bind fun v5 => some v5
theorem f60_le (N : Nat) (v1 : Int) : Le (f60n N v1) (f60 v1) := by
 unfold f60n f60
 repeat' (first | exact Le.refl _ | apply f58_le | apply f63_le | apply Le.cond | apply Le.ite | apply Le.iter | apply Le.bind | (intro y; cases y <;> dsimp only) | intro y)
def f59_60_b1n (N : Nat) (v1 : List UInt8) (v2 : Int) : Option (Int ⊕ Out Int Int) :=
 (cond (decide (v2 < (v1.length : Int))) (if (0 : Int) ≤ v2 ∧ v2 < (v1.length : Int) then (f60n N (((v1.getD v2.toNat 0).toNat : Nat) : Int)).bind fun v5 => some v5 else none) (some false)).bind fun v4 => cond v4 (some (.inl (w64 (v2 + (1 : Int))))) (some (.inr (.go v2)))
theorem f59_60_b1_le (N : Nat) (v1 : List UInt8) (v2 : Int) : Le (f59_60_b1n N v1 v2) (f59_60_b1 v1 v2) := by
 unfold f59_60_b1n f59_60_b1
 repeat' (first | exact Le.refl _ | apply f60_le | apply Le.cond | apply Le.ite | apply Le.iter | apply Le.bind | (intro y; cases y <;> dsimp only) | intro y)
def f59_60n (N : Nat) (v1 : List UInt8) : Option Int :=
 (itN N (fun s => f59_60_b1n N v1 s) (0 : Int)).bind fun y => match y with | .ret v6 => some v6 | .go v3 => some v3
theorem f59_60_le (N : Nat) (v1 : List UInt8) : Le (f59_60n N v1) (f59_60 v1) := by
 unfold f59_60n f59_60
 repeat' (first | exact Le.refl _ | apply f59_60_b1_le | apply Le.cond | apply Le.ite | apply Le.iter | apply Le.bind | (intro y; cases y <;> dsimp only) | intro y)
def f61_j1n (N : Nat) (v3 : Int) (v5 : List Int) : Option (((List Int) × Int) ⊕ Out (List UInt8) (List Int)) :=
 some (.inl (v5, w64 (v3 + (1 : Int))))
theorem f61_j1_le (N : Nat) (v3 : Int) (v5 : List Int) : Le (f61_j1n N v3 v5) (f61_j1 v3 v5) := by
 unfold f61_j1n f61_j1
 repeat' (first | exact Le.refl _ | apply Le.cond | apply Le.ite | apply Le.iter | apply Le.bind | (intro y; cases y <;> dsimp only) | intro y)
def f61_b2n (N : Nat) (v1 : List UInt8) (v2 : List Int) (v3 : Int) : Option (((List Int) × Int) ⊕ Out (List UInt8) (List Int)) :=
 cond (decide (v3 < ((v1.map (fun b => (b.toNat : Int))).length : Int))) (if (0 : Int) ≤ v3 ∧ v3 < (v2.length : Int) then (cond (decide (v2.getD v3.toNat default ≥ (65 : Int))) (some (decide (v2.getD v3.toNat default ≤ (90 : Int)))) (some false)).bind fun v6 => cond v6 (if (0 : Int) ≤ v3 ∧ v3 < (v2.length : Int) then f61_j1n N v3 (v2.set v3.toNat (IntKind.wrap .u8 ((IntKind.wrap .u8 ((v2.getD v3.toNat default) - (65 : Int))) + (97 : Int)))) else none) (f61_j1n N v3 v2) else none) (some (.inr (.go v2)))
theorem f61_b2_le (N : Nat) (v1 : List UInt8) (v2 : List Int) (v3 : Int) : Le (f61_b2n N v1 v2 v3) (f61_b2 v1 v2 v3) := by
 unfold f61_b2n f61_b2
 repeat' (first | exact Le.refl _ | apply f61_j1_le | apply Le.cond | apply Le.ite | apply Le.iter | apply Le.bind | (intro y; cases y <;> dsimp only) | intro y)
def f61n (N : Nat) (v1 : List UInt8) : Option (List UInt8) :=
 if (v1.length : Int) ≤ 9223372036854775807 then (itN N (fun s => f61_b2n N v1 s.1 s.2) (v1.map (fun b => (b.toNat : Int)), (0 : Int))).bind fun y => match y with | .ret v7 => some v7 | .go v4 => some (v4.map (fun n => UInt8.ofNat n.toNat)) else none
theorem f61_le (N : Nat) (v1 : List UInt8) : Le (f61n N v1) (f61 v1) := by
 unfold f61n f61
 repeat' (first | exact Le.refl _ | apply f61_b2_le | apply Le.cond | apply Le.ite | apply Le.iter | apply Le.bind | (intro y; cases y <;> dsimp only) | intro y)
def f53n (N : Nat) (v1 : List UInt8) : Option Bool :=
 (cond (!(v1 == ([] : List UInt8))) (some (decide ((v1.length : Int) ≤ (12 : Int)))) (some false)).bind fun v2 => (cond v2 (if (0 : Int) < (v1.length : Int) then (f58n N (((v1.getD 0 0).toNat : Nat) : Int)).bind fun v4 => some v4 else none) (some false)).bind fun v3 => (cond v3 ((f59_60n N v1).bind fun v6 => some (v6 == (v1.length : Int))) (some false)).bind fun v5 => (cond v5 ((f61n N v1).bind fun v8 => some (v1 == v8)) (some false)).bind fun v7 => some v7
theorem f53_le (N : Nat) (v1 : List UInt8) : Le (f53n N v1) (f53 v1) := by
 unfold f53n f53
 repeat' (first | exact Le.refl _ | apply f58_le | apply f59_60_le | apply f61_le | apply Le.cond | apply Le.ite | apply Le.iter | apply Le.bind | (intro y; cases y <;> dsimp only) | intro y)
def f46n (N : Nat) (v1 : T36) (v2 : List UInt8) : Option Bool :=
 some (v1.f0 == v2)
theorem f46_le (N : Nat) (v1 : T36) (v2 : List UInt8) : Le (f46n N v1 v2) (f46 v1 v2) := by
 unfold f46n f46
 repeat' (first | exact Le.refl _ | apply Le.cond | apply Le.ite | apply Le.iter | apply Le.bind | (intro y; cases y <;> dsimp only) | intro y)
def f45_46_b1n (N : Nat) (v1 : List T36) (v2 : List UInt8) (v3 : Int) : Option (Int ⊕ Out Int Unit) :=
 cond (decide (v3 < (v1.length : Int))) (if (0 : Int) ≤ v3 ∧ v3 < (v1.length : Int) then (f46n N (v1.getD v3.toNat default) v2).bind fun v4 => cond v4 (some (.inr (.ret v3))) (some (.inl (w64 (v3 + (1 : Int))))) else none) (some (.inr (.go ())))
theorem f45_46_b1_le (N : Nat) (v1 : List T36) (v2 : List UInt8) (v3 : Int) : Le (f45_46_b1n N v1 v2 v3) (f45_46_b1 v1 v2 v3) := by
 unfold f45_46_b1n f45_46_b1
 repeat' (first | exact Le.refl _ | apply f46_le | apply Le.cond | apply Le.ite | apply Le.iter | apply Le.bind | (intro y; cases y <;> dsimp only) | intro y)
def f45_46n (N : Nat) (v1 : List T36) (v2 : List UInt8) : Option Int :=
 (itN N (fun s => f45_46_b1n N v1 v2 s) (0 : Int)).bind fun y => match y with | .ret v5 => some v5 | .go _ => some (-1 : Int)
theorem f45_46_le (N : Nat) (v1 : List T36) (v2 : List UInt8) : Le (f45_46n N v1 v2) (f45_46 v1 v2) := by
 unfold f45_46n f45_46
 repeat' (first | exact Le.refl _ | apply f45_46_b1_le | apply Le.cond | apply Le.ite | apply Le.iter | apply Le.bind | (intro y; cases y <;> dsimp only) | intro y)
def f34n (N : Nat) (v1 : List T36) (v2 : List UInt8) : Option Int :=
 (f45_46n N v1 v2).bind fun v3 => some v3
theorem f34_le (N : Nat) (v1 : List T36) (v2 : List UInt8) : Le (f34n N v1 v2) (f34 v1 v2) := by
 unfold f34n f34
 repeat' (first | exact Le.refl _ | apply f45_46_le | apply Le.cond | apply Le.ite | apply Le.iter | apply Le.bind | (intro y; cases y <;> dsimp only) | intro y)
def f42_b1n (N : Nat) (v1 : List T36) (v2 : Int) : Option (Int ⊕ Out Bool Unit) :=
 cond (decide (v2 < (v1.length : Int))) (if (0 : Int) ≤ v2 ∧ v2 < (v1.length : Int) then (cond ((v1.getD v2.toNat default).f1 == (1 : Int)) (some true) (some ((v1.getD v2.toNat default).f1 == (2 : Int)))).bind fun v3 => (cond v3 (some true) (some ((v1.getD v2.toNat default).f1 == (4 : Int)))).bind fun v4 => ((f53n N ((v1.getD v2.toNat default).f0)).bind fun v6 => cond (!v6) (some true) (cond (!v4) (some true) (cond (decide ((v1.getD v2.toNat default).f2 < (1 : Int))) (some true) (cond (decide ((v1.getD v2.toNat default).f2 > (1000 : Int))) (some true) (if (0 : Int) ≤ v2 ∧ v2 ≤ (v1.length : Int) then (f34n N ((v1.take v2.toNat).drop 0) ((v1.getD v2.toNat default).f0)).bind fun v7 => some (decide (v7 ≥ (0 : Int))) else none))))).bind fun v5 => cond v5 (some (.inr (.ret false))) (some (.inl (w64 (v2 + (1 : Int))))) else none) (some (.inr (.go ())))
theorem f42_b1_le (N : Nat) (v1 : List T36) (v2 : Int) : Le (f42_b1n N v1 v2) (f42_b1 v1 v2) := by
 unfold f42_b1n f42_b1
 repeat' (first | exact Le.refl _ | apply f53_le | apply f34_le | apply Le.cond | apply Le.ite | apply Le.iter | apply Le.bind | (intro y; cases y <;> dsimp only) | intro y)
def f42n (N : Nat) (v1 : List T36) : Option Bool :=
 (itN N (fun s => f42_b1n N v1 s) (0 : Int)).bind fun y => match y with | .ret v8 => some v8 | .go _ => some (decide ((v1.length : Int) ≤ (60 : Int)))
theorem f42_le (N : Nat) (v1 : List T36) : Le (f42n N v1) (f42 v1) := by
 unfold f42n f42
 repeat' (first | exact Le.refl _ | apply f42_b1_le | apply Le.cond | apply Le.ite | apply Le.iter | apply Le.bind | (intro y; cases y <;> dsimp only) | intro y)
def f47n (N : Nat) (v1 : Int) : Option Bool :=
 some (decide (v1 > (60 : Int)))
theorem f47_le (N : Nat) (v1 : Int) : Le (f47n N v1) (f47 v1) := by
 unfold f47n f47
 repeat' (first | exact Le.refl _ | apply Le.cond | apply Le.ite | apply Le.iter | apply Le.bind | (intro y; cases y <;> dsimp only) | intro y)
def f30n (N : Nat) (v1 : List T36) (v2 : T34) : Option Bool :=
 (f34n N v1 v2.f0).bind fun v3 => (cond (decide (v3 ≥ (0 : Int))) (cond (decide (v2.f1 ≥ (0 : Int))) (if (0 : Int) ≤ v3 ∧ v3 < (v1.length : Int) then some (decide (v2.f1 < (v1.getD v3.toNat default).f2)) else none) (some false)) (some false)).bind fun v4 => some v4
theorem f30_le (N : Nat) (v1 : List T36) (v2 : T34) : Le (f30n N v1 v2) (f30 v1 v2) := by
 unfold f30n f30
 repeat' (first | exact Le.refl _ | apply f34_le | apply Le.cond | apply Le.ite | apply Le.iter | apply Le.bind | (intro y; cases y <;> dsimp only) | intro y)
def f56_e_j1n (N : Nat) (v2 : List (List UInt8)) : Option (List (List UInt8)) :=
 some v2
theorem f56_e_j1_le (N : Nat) (v2 : List (List UInt8)) : Le (f56_e_j1n N v2) (f56_e_j1 v2) := by
 unfold f56_e_j1n f56_e_j1
 repeat' (first | exact Le.refl _ | apply Le.cond | apply Le.ite | apply Le.iter | apply Le.bind | (intro y; cases y <;> dsimp only) | intro y)
def f56_en (N : Nat) (v1 : Int) : Option (List (List UInt8)) :=
 cond (decide (v1 < (0 : Int))) none (cond (decide (w64 (v1 - (w64 ((0 : Int) - (0 : Int)))) > (0 : Int))) (if (0 : Int) ≤ w64 (v1 - (w64 ((0 : Int) - (0 : Int)))) ∧ (Int.toNat (w64 (v1 - (w64 ((0 : Int) - (0 : Int)))))) * 16 ≤ 140737488355328 then f56_e_j1n N ((List.replicate (Int.toNat (w64 (v1 - (w64 ((0 : Int) - (0 : Int)))))) ([] : List UInt8)).take 0) else none) (f56_e_j1n N []))
theorem f56_e_le (N : Nat) (v1 : Int) : Le (f56_en N v1) (f56_e v1) := by
 unfold f56_en f56_e
 repeat' (first | exact Le.refl _ | apply f56_e_j1_le | apply Le.cond | apply Le.ite | apply Le.iter | apply Le.bind | (intro y; cases y <;> dsimp only) | intro y)
def f48_b1n (N : Nat) (v1 : List (List (List UInt8))) (v2 : Int) (v3 : Int) : Option ((Int × Int) ⊕ Out (List (List UInt8)) Int) :=
 cond (decide (v3 < (v1.length : Int))) (if (0 : Int) ≤ v3 ∧ v3 < (v1.length : Int) then cond (decide (w64 (v2 + ((v1.getD v3.toNat default).length : Int)) < (0 : Int))) none (some (.inl (w64 (v2 + ((v1.getD v3.toNat default).length : Int)), w64 (v3 + (1 : Int))))) else none) (some (.inr (.go v2)))
theorem f48_b1_le (N : Nat) (v1 : List (List (List UInt8))) (v2 : Int) (v3 : Int) : Le (f48_b1n N v1 v2 v3) (f48_b1 v1 v2 v3) := by
 unfold f48_b1n f48_b1
 repeat' (first | exact Le.refl _ | apply Le.cond | apply Le.ite | apply Le.iter | apply Le.bind | (intro y; cases y <;> dsimp only) | intro y)
def f48_b2n (N : Nat) (v1 : List (List (List UInt8))) (v7 : List (List UInt8)) (v8 : Int) : Option (((List (List UInt8)) × Int) ⊕ Out (List (List UInt8)) (List (List UInt8))) :=
 cond (decide (v8 < (v1.length : Int))) (if (0 : Int) ≤ v8 ∧ v8 < (v1.length : Int) then if (v7.length + (v1.getD v8.toNat default).length) * 16 ≤ 140737488355328 then some (.inl (v7 ++ (v1.getD v8.toNat default), w64 (v8 + (1 : Int)))) else none else none) (some (.inr (.go v7)))
theorem f48_b2_le (N : Nat) (v1 : List (List (List UInt8))) (v7 : List (List UInt8)) (v8 : Int) : Le (f48_b2n N v1 v7 v8) (f48_b2 v1 v7 v8) := by
 unfold f48_b2n f48_b2
 repeat' (first | exact Le.refl _ | apply Le.cond | apply Le.ite | apply Le.iter | apply Le.bind | (intro y; cases y <;> dsimp only) | intro y)
def f48n (N : Nat) (v1 : List (List (List UInt8))) : Option (List (List UInt8)) :=
 (itN N (fun s => f48_b1n N v1 s.1 s.2) ((0 : Int), (0 : Int))).bind fun y => match y with | .ret v5 => some v5 | .go v4 => (f56_en N v4).bind fun v6 => (itN N (fun s => f48_b2n N v1 s.1 s.2) (v6, (0 : Int))).bind fun y => match y with | .ret v10 => some v10 | .go v9 => some v9
theorem f48_le (N : Nat) (v1 : List (List (List UInt8))) : Le (f48n N v1) (f48 v1) := by
 unfold f48n f48
 repeat' (first | exact Le.refl _ | apply f48_b1_le | apply f56_e_le | apply f48_b2_le | apply Le.cond | apply Le.ite | apply Le.iter | apply Le.bind | (intro y; cases y <;> dsimp only) | intro y)
def f57_b1n (N : Nat) (v1 : List (List UInt8)) (v2 : List UInt8) (v3 : Int) : Option (Int ⊕ Out Int Unit) :=
 cond (decide (v3 < (v1.length : Int))) (if (0 : Int) ≤ v3 ∧ v3 < (v1.length : Int) then cond (v2 == (v1.getD v3.toNat default)) (some (.inr (.ret v3))) (some (.inl (w64 (v3 + (1 : Int))))) else none) (some (.inr (.go ())))
theorem f57_b1_le (N : Nat) (v1 : List (List UInt8)) (v2 : List UInt8) (v3 : Int) : Le (f57_b1n N v1 v2 v3) (f57_b1 v1 v2 v3) := by
 unfold f57_b1n f57_b1
 repeat' (first | exact Le.refl _ | apply Le.cond | apply Le.ite | apply Le.iter | apply Le.bind | (intro y; cases y <;> dsimp only) | intro y)
def f57n (N : Nat) (v1 : List (List UInt8)) (v2 : List UInt8) : Option Int :=
 (itN N (fun s => f57_b1n N v1 v2 s) (0 : Int)).bind fun y => match y with | .ret v4 => some v4 | .go _ => some (-1 : Int)
theorem f57_le (N : Nat) (v1 : List (List UInt8)) (v2 : List UInt8) : Le (f57n N v1 v2) (f57 v1 v2) := by
 unfold f57n f57
 repeat' (first | exact Le.refl _ | apply f57_b1_le | apply Le.cond | apply Le.ite | apply Le.iter | apply Le.bind | (intro y; cases y <;> dsimp only) | intro y)
def f49n (N : Nat) (v1 : List (List UInt8)) (v2 : List UInt8) : Option Bool :=
 (f57n N v1 v2).bind fun v3 => some (decide (v3 ≥ (0 : Int)))
theorem f49_le (N : Nat) (v1 : List (List UInt8)) (v2 : List UInt8) : Le (f49n N v1 v2) (f49 v1 v2) := by
 unfold f49n f49
 repeat' (first | exact Le.refl _ | apply f57_le | apply Le.cond | apply Le.ite | apply Le.iter | apply Le.bind | (intro y; cases y <;> dsimp only) | intro y)
def f35_b1n (N : Nat) (v2 : List (List T34)) (v9 : Int) : Option (Int ⊕ Out ((List UInt8) × Int) Unit) :=
 cond (decide (v9 < (v2.length : Int))) (if (0 : Int) ≤ v9 ∧ v9 < (v2.length : Int) then (f47n N ((v2.getD v9.toNat default).length : Int)).bind fun v10 => cond v10 (some (.inr (.ret (([] : List UInt8), (2 : Int))))) (some (.inl (w64 (v9 + (1 : Int))))) else none) (some (.inr (.go ())))
theorem f35_b1_le (N : Nat) (v2 : List (List T34)) (v9 : Int) : Le (f35_b1n N v2 v9) (f35_b1 v2 v9) := by
 unfold f35_b1n f35_b1
 repeat' (first | exact Le.refl _ | apply f47_le | apply Le.cond | apply Le.ite | apply Le.iter | apply Le.bind | (intro y; cases y <;> dsimp only) | intro y)
def f35_b2n (N : Nat) (v3 : List (List (List UInt8))) (v12 : Int) : Option (Int ⊕ Out ((List UInt8) × Int) Unit) :=
 cond (decide (v12 < (v3.length : Int))) (if (0 : Int) ≤ v12 ∧ v12 < (v3.length : Int) then (f47n N ((v3.getD v12.toNat default).length : Int)).bind fun v13 => cond v13 (some (.inr (.ret (([] : List UInt8), (2 : Int))))) (some (.inl (w64 (v12 + (1 : Int))))) else none) (some (.inr (.go ())))
theorem f35_b2_le (N : Nat) (v3 : List (List (List UInt8))) (v12 : Int) : Le (f35_b2n N v3 v12) (f35_b2 v3 v12) := by
 unfold f35_b2n f35_b2
 repeat' (first | exact Le.refl _ | apply f47_le | apply Le.cond | apply Le.ite | apply Le.iter | apply Le.bind | (intro y; cases y <;> dsimp only) | intro y)
def f35_b3n (N : Nat) (v1 : List T36) (v2 : List (List T34)) (v15 : Int) (v16 : Int) : Option (Int ⊕ Out ((List UInt8) × Int) Unit) :=
 cond (decide (v16 < ((v2.getD v15.toNat default).length : Int))) (if (0 : Int) ≤ v16 ∧ v16 < ((v2.getD v15.toNat default).length : Int) then (f30n N v1 ((v2.getD v15.toNat default).getD v16.toNat default)).bind fun v17 => cond (!v17) (some (.inr (.ret (((v2.getD v15.toNat default).getD v16.toNat default).f0, (5 : Int))))) (some (.inl (w64 (v16 + (1 : Int))))) else none) (some (.inr (.go ())))
theorem f35_b3_le (N : Nat) (v1 : List T36) (v2 : List (List T34)) (v15 : Int) (v16 : Int) : Le (f35_b3n N v1 v2 v15 v16) (f35_b3 v1 v2 v15 v16) := by
 unfold f35_b3n f35_b3
 repeat' (first | exact Le.refl _ | apply f30_le | apply Le.cond | apply Le.ite | apply Le.iter | apply Le.bind | (intro y; cases y <;> dsimp only) | intro y)
def f35_b4n (N : Nat) (v1 : List T36) (v2 : List (List T34)) (v15 : Int) : Option (Int ⊕ Out ((List UInt8) × Int) Unit) :=
 cond (decide (v15 < (v2.length : Int))) (if (0 : Int) ≤ v15 ∧ v15 < (v2.length : Int) then (itN N (fun s => f35_b3n N v1 v2 v15 s) (0 : Int)).bind fun y => match y with | .ret v18 => some (.inr (.ret (v18.1, v18.2))) | .go _ => some (.inl (w64 (v15 + (1 : Int)))) else none) (some (.inr (.go ())))
theorem f35_b4_le (N : Nat) (v1 : List T36) (v2 : List (List T34)) (v15 : Int) : Le (f35_b4n N v1 v2 v15) (f35_b4 v1 v2 v15) := by
 unfold f35_b4n f35_b4
 repeat' (first | exact Le.refl _ | apply f35_b3_le | apply Le.cond | apply Le.ite | apply Le.iter | apply Le.bind | (intro y; cases y <;> dsimp only) | intro y)
def f35_b5n (N : Nat) (v1 : List T36) (v20 : (List (List UInt8))) (v21 : Int) : Option (Int ⊕ Out ((List UInt8) × Int) Unit) :=
 cond (decide (v21 < (v20.length : Int))) (if (0 : Int) ≤ v21 ∧ v21 < (v20.length : Int) then (f34n N v1 (v20.getD v21.toNat default)).bind fun v22 => cond (decide (v22 < (0 : Int))) (some (.inr (.ret (v20.getD v21.toNat default, (5 : Int))))) (some (.inl (w64 (v21 + (1 : Int))))) else none) (some (.inr (.go ())))
theorem f35_b5_le (N : Nat) (v1 : List T36) (v20 : (List (List UInt8))) (v21 : Int) : Le (f35_b5n N v1 v20 v21) (f35_b5 v1 v20 v21) := by
 unfold f35_b5n f35_b5
 repeat' (first | exact Le.refl _ | apply f34_le | apply Le.cond | apply Le.ite | apply Le.iter | apply Le.bind | (intro y; cases y <;> dsimp only) | intro y)
def f35_b6n (N : Nat) (v24 : (List (List UInt8))) (v25 : List (List UInt8)) (v26 : Int) : Option (((List (List UInt8)) × Int) ⊕ Out ((List UInt8) × Int) Unit) :=
 cond (decide (v26 < (v24.length : Int))) (if (0 : Int) ≤ v26 ∧ v26 < (v24.length : Int) then (f49n N v25 (v24.getD v26.toNat default)).bind fun v27 => cond v27 (some (.inr (.ret (v24.getD v26.toNat default, (8 : Int))))) (if (v25.length + [v24.getD v26.toNat default].length) * 16 ≤ 140737488355328 then some (.inl (v25 ++ [v24.getD v26.toNat default], w64 (v26 + (1 : Int)))) else none) else none) (some (.inr (.go ())))
theorem f35_b6_le (N : Nat) (v24 : (List (List UInt8))) (v25 : List (List UInt8)) (v26 : Int) : Le (f35_b6n N v24 v25 v26) (f35_b6 v24 v25 v26) := by
 unfold f35_b6n f35_b6
 repeat' (first | exact Le.refl _ | apply f49_le | apply Le.cond | apply Le.ite | apply Le.iter | apply Le.bind | (intro y; cases y <;> dsimp only) | intro y)
def f35n (N : Nat) (v1 : List T36) (v2 : List (List T34)) (v3 : List (List (List UInt8))) : Option ((List UInt8) × Int) :=
 (f42n N v1).bind fun v4 => (cond (!v4) (some true) ((f47n N (v2.length : Int)).bind fun v6 => some v6)).bind fun v5 => (cond v5 (some true) ((f47n N (v3.length : Int)).bind fun v8 => some v8)).bind fun v7 => cond v7 (some (([] : List UInt8), (2 : Int))) ((itN N (fun s => f35_b1n N v2 s) (0 : Int)).bind fun y => match y with | .ret v11 => some (v11.1, v11.2) | .go _ => (itN N (fun s => f35_b2n N v3 s) (0 : Int)).bind fun y => match y with | .ret v14 => some (v14.1, v14.2) | .go _ => (itN N (fun s => f35_b4n N v1 v2 s) (0 : Int)).bind fun y => match y with | .ret v19 => some (v19.1, v19.2) | .go _ => (f48n N v3).bind fun v20 => (itN N (fun s => f35_b5n N v1 v20 s) (0 : Int)).bind fun y => match y with | .ret v23 => some (v23.1, v23.2) | .go _ => (f48n N v3).bind fun v24 => (itN N (fun s => f35_b6n N v24 s.1 s.2) ([], (0 : Int))).bind fun y => match y with | .ret v28 => some (v28.1, v28.2) | .go _ => some (([] : List UInt8), (0 : Int)))
theorem f35_le (N : Nat) (v1 : List T36) (v2 : List (List T34)) (v3 : List (List (List UInt8))) : Le (f35n N v1 v2 v3) (f35 v1 v2 v3) := by
 unfold f35n f35
 repeat' (first | exact Le.refl _ | apply f42_le | apply f47_le | apply f35_b1_le | apply f35_b2_le | apply f35_b4_le | apply f48_le | apply f35_b5_le | apply f35_b6_le | apply Le.cond | apply Le.ite | apply Le.iter | apply Le.bind | (intro y; cases y <;> dsimp only) | intro y)
def f25n (N : Nat) (v1 : T36) : Option Int :=
 some (w64 (v1.f1 * v1.f2))
theorem f25_le (N : Nat) (v1 : T36) : Le (f25n N v1) (f25 v1) := by
 unfold f25n f25
 repeat' (first | exact Le.refl _ | apply Le.cond | apply Le.ite | apply Le.iter | apply Le.bind | (intro y; cases y <;> dsimp only) | intro y)
def f36o_j1n (N : Nat) (v6 : Int) (v11 : List Int) (v12 : List Int) : Option ((Int × (List Int) × (List Int)) ⊕ Out (Bool × T57) ((List Int) × (List Int))) :=
 some (.inl (w64 (v6 + (1 : Int)), v11, v12))
theorem f36o_j1_le (N : Nat) (v6 : Int) (v11 : List Int) (v12 : List Int) : Le (f36o_j1n N v6 v11 v12) (f36o_j1 v6 v11 v12) := by
 unfold f36o_j1n f36o_j1
 repeat' (first | exact Le.refl _ | apply Le.cond | apply Le.ite | apply Le.iter | apply Le.bind | (intro y; cases y <;> dsimp only) | intro y)
def f36o_b2n (N : Nat) (v1 : Int) (v2 : Int) (v3 : Int) (v4 : Int) (v5 : T57) (v6 : Int) (v7 : List Int) (v8 : List Int) : Option ((Int × (List Int) × (List Int)) ⊕ Out (Bool × T57) ((List Int) × (List Int))) :=
 cond (decide (v6 < (v5.f0.length : Int))) (if (0 : Int) ≤ v6 ∧ v6 < (v7.length : Int) then cond (v7.getD v6.toNat default == v5.f1.getD v3.toNat default) (if (0 : Int) ≤ v6 ∧ v6 < (v7.length : Int) then if (0 : Int) ≤ v6 ∧ v6 < (v8.length : Int) ∧ (0 : Int) ≤ v6 ∧ v6 < (v8.length : Int) then f36o_j1n N v6 (v7.set v6.toNat (v5.f1.getD v1.toNat default)) (v8.set v6.toNat (w64 ((v8.getD v6.toNat default) + (w64 ((w64 ((w64 ((v5.f2.getD v1.toNat default) + v2)) - (v5.f2.getD v3.toNat default))) - v4))))) else none else none) (f36o_j1n N v6 v7 v8) else none) (some (.inr (.go (v7, v8))))
theorem f36o_b2_le (N : Nat) (v1 : Int) (v2 : Int) (v3 : Int) (v4 : Int) (v5 : T57) (v6 : Int) (v7 : List Int) (v8 : List Int) : Le (f36o_b2n N v1 v2 v3 v4 v5 v6 v7 v8) (f36o_b2 v1 v2 v3 v4 v5 v6 v7 v8) := by
 unfold f36o_b2n f36o_b2
 repeat' (first | exact Le.refl _ | apply f36o_j1_le | apply Le.cond | apply Le.ite | apply Le.iter | apply Le.bind | (intro y; cases y <;> dsimp only) | intro y)
def f36on (N : Nat) (v1 : Int) (v2 : Int) (v3 : Int) (v4 : Int) (v5 : T57) : Option (Bool × T57) :=
 if (0 : Int) ≤ v1 ∧ v1 < (v5.f2.length : Int) then if (0 : Int) ≤ v3 ∧ v3 < (v5.f2.length : Int) then if (0 : Int) ≤ v1 ∧ v1 < (v5.f1.length : Int) then if (0 : Int) ≤ v3 ∧ v3 < (v5.f1.length : Int) then cond (v5.f1.getD v1.toNat default == v5.f1.getD v3.toNat default) (some ((w64 ((w64 ((w64 ((v5.f2.getD v1.toNat default) + v2)) - (v5.f2.getD v3.toNat default))) - v4) == (0 : Int)), T57.mk v5.f0 v5.f1 v5.f2)) (if (0 : Int) ≤ v3 ∧ v3 < (v5.f1.length : Int) then if (0 : Int) ≤ v1 ∧ v1 < (v5.f1.length : Int) then (itN N (fun s => f36o_b2n N v1 v2 v3 v4 v5 s.1 s.2.1 s.2.2) ((0 : Int), v5.f1, v5.f2)).bind fun y => match y with | .ret v13 => some v13 | .go (v9, v10) => some (true, T57.mk v5.f0 v9 v10) else none else none) else none else none else none else none
theorem f36o_le (N : Nat) (v1 : Int) (v2 : Int) (v3 : Int) (v4 : Int) (v5 : T57) : Le (f36on N v1 v2 v3 v4 v5) (f36o v1 v2 v3 v4 v5) := by
 unfold f36on f36o
 repeat' (first | exact Le.refl _ | apply f36o_b2_le | apply Le.cond | apply Le.ite | apply Le.iter | apply Le.bind | (intro y; cases y <;> dsimp only) | intro y)
def f37o_j1n (N : Nat) (v5 : Int) (v8 : List (Int × Int)) (v9 : List (Int × Int)) : Option (((List (Int × Int)) × (List (Int × Int)) × Int) ⊕ Out (Bool × (List UInt8) × Int × T57) ((List (Int × Int)) × (List (Int × Int)))) :=
 some (.inl (v8, v9, w64 (v5 + (1 : Int))))
theorem f37o_j1_le (N : Nat) (v5 : Int) (v8 : List (Int × Int)) (v9 : List (Int × Int)) : Le (f37o_j1n N v5 v8 v9) (f37o_j1 v5 v8 v9) := by
 unfold f37o_j1n f37o_j1
 repeat' (first | exact Le.refl _ | apply Le.cond | apply Le.ite | apply Le.iter | apply Le.bind | (intro y; cases y <;> dsimp only) | intro y)
def f37o_b2n (N : Nat) (v1 : List (List (List UInt8))) (v2 : T57) (v3 : List (Int × Int)) (v4 : List (Int × Int)) (v5 : Int) : Option (((List (Int × Int)) × (List (Int × Int)) × Int) ⊕ Out (Bool × (List UInt8) × Int × T57) ((List (Int × Int)) × (List (Int × Int)))) :=
 cond (decide (v5 < (v1.length : Int))) (if (0 : Int) ≤ v5 ∧ v5 < (v1.length : Int) then cond (((v1.getD v5.toNat default).length : Int) == (0 : Int)) (f37o_j1n N v5 v3 v4) (if (0 : Int) < ((v1.getD v5.toNat default).length : Int) then (f34n N v2.f0 ((v1.getD v5.toNat default).getD 0 default)).bind fun v10 => if (0 : Int) ≤ v10 ∧ v10 < (v2.f1.length : Int) then cond (mget v4 (v2.f1.getD v10.toNat default) != 0) (if (0 : Int) < ((v1.getD v5.toNat default).length : Int) then some (.inr (.ret (false, (v1.getD v5.toNat default).getD 0 default, (110 : Int), T57.mk v2.f0 v2.f1 v2.f2))) else none) (if (0 : Int) ≤ v10 ∧ v10 < (v2.f1.length : Int) then if (0 : Int) ≤ v10 ∧ v10 < (v2.f1.length : Int) then if (0 : Int) ≤ v10 ∧ v10 < (v2.f2.length : Int) then f37o_j1n N v5 (mset v3 (v2.f1.getD v10.toNat default) (v2.f2.getD v10.toNat default)) (mset v4 (v2.f1.getD v10.toNat default) 1) else none else none else none) else none else none) else none) (some (.inr (.go (v3, v4))))
theorem f37o_b2_le (N : Nat) (v1 : List (List (List UInt8))) (v2 : T57) (v3 : List (Int × Int)) (v4 : List (Int × Int)) (v5 : Int) : Le (f37o_b2n N v1 v2 v3 v4 v5) (f37o_b2 v1 v2 v3 v4 v5) := by
 unfold f37o_b2n f37o_b2
 repeat' (first | exact Le.refl _ | apply f37o_j1_le | apply f34_le | apply Le.cond | apply Le.ite | apply Le.iter | apply Le.bind | (intro y; cases y <;> dsimp only) | intro y)
def f37o_j3n (N : Nat) (v13 : Int) (v15 : List (Int × Int)) : Option (((List (Int × Int)) × Int) ⊕ Out (Bool × (List UInt8) × Int × T57) (List (Int × Int))) :=
 some (.inl (v15, w64 (v13 + (1 : Int))))
theorem f37o_j3_le (N : Nat) (v13 : Int) (v15 : List (Int × Int)) : Le (f37o_j3n N v13 v15) (f37o_j3 v13 v15) := by
 unfold f37o_j3n f37o_j3
 repeat' (first | exact Le.refl _ | apply Le.cond | apply Le.ite | apply Le.iter | apply Le.bind | (intro y; cases y <;> dsimp only) | intro y)
def f37o_b4n (N : Nat) (v2 : T57) (v7 : List (Int × Int)) (v12 : List (Int × Int)) (v13 : Int) : Option (((List (Int × Int)) × Int) ⊕ Out (Bool × (List UInt8) × Int × T57) (List (Int × Int))) :=
 cond (decide (v13 < (v2.f1.length : Int))) (if (0 : Int) ≤ v13 ∧ v13 < (v2.f1.length : Int) then cond (!(mget v7 (v2.f1.getD v13.toNat default) != 0)) ((cond (!(mhas v12 (v2.f1.getD v13.toNat default))) (some true) (if (0 : Int) ≤ v13 ∧ v13 < (v2.f2.length : Int) then some (decide (v2.f2.getD v13.toNat default < mget v12 (v2.f1.getD v13.toNat default))) else none)).bind fun v16 => cond v16 (if (0 : Int) ≤ v13 ∧ v13 < (v2.f2.length : Int) then f37o_j3n N v13 (mset v12 (v2.f1.getD v13.toNat default) (v2.f2.getD v13.toNat default)) else none) (f37o_j3n N v13 v12)) (f37o_j3n N v13 v12) else none) (some (.inr (.go v12)))
theorem f37o_b4_le (N : Nat) (v2 : T57) (v7 : List (Int × Int)) (v12 : List (Int × Int)) (v13 : Int) : Le (f37o_b4n N v2 v7 v12 v13) (f37o_b4 v2 v7 v12 v13) := by
 unfold f37o_b4n f37o_b4
 repeat' (first | exact Le.refl _ | apply f37o_j3_le | apply Le.cond | apply Le.ite | apply Le.iter | apply Le.bind | (intro y; cases y <;> dsimp only) | intro y)
def f37o_b5n (N : Nat) (v2 : T57) (v14 : List (Int × Int)) (v18 : Int) (v19 : List Int) : Option ((Int × (List Int)) ⊕ Out (Bool × (List UInt8) × Int × T57) (List Int)) :=
 cond (decide (v18 < (v2.f1.length : Int))) (if (0 : Int) ≤ v18 ∧ v18 < (v2.f1.length : Int) then if (0 : Int) ≤ v18 ∧ v18 < (v19.length : Int) then if (0 : Int) ≤ v18 ∧ v18 < ((v19.set v18.toNat (w64 ((v19.getD v18.toNat default) - (mget v14 (v2.f1.getD v18.toNat default))))).length : Int) then cond (decide ((v19.set v18.toNat (w64 ((v19.getD v18.toNat default) - (mget v14 (v2.f1.getD v18.toNat default))))).getD v18.toNat default < (0 : Int))) (if (0 : Int) ≤ v18 ∧ v18 < (v2.f0.length : Int) then some (.inr (.ret (false, (v2.f0.getD v18.toNat default).f0, (10 : Int), T57.mk v2.f0 v2.f1 (v19.set v18.toNat (w64 ((v19.getD v18.toNat default) - (mget v14 (v2.f1.getD v18.toNat default)))))))) else none) (some (.inl (w64 (v18 + (1 : Int)), v19.set v18.toNat (w64 ((v19.getD v18.toNat default) - (mget v14 (v2.f1.getD v18.toNat default))))))) else none else none else none) (some (.inr (.go v19)))
theorem f37o_b5_le (N : Nat) (v2 : T57) (v14 : List (Int × Int)) (v18 : Int) (v19 : List Int) : Le (f37o_b5n N v2 v14 v18 v19) (f37o_b5 v2 v14 v18 v19) := by
 unfold f37o_b5n f37o_b5
 repeat' (first | exact Le.refl _ | apply Le.cond | apply Le.ite | apply Le.iter | apply Le.bind | (intro y; cases y <;> dsimp only) | intro y)
def f37on (N : Nat) (v1 : List (List (List UInt8))) (v2 : T57) : Option (Bool × (List UInt8) × Int × T57) :=
 (itN N (fun s => f37o_b2n N v1 v2 s.1 s.2.1 s.2.2) (([] : List (Int × Int)), ([] : List (Int × Int)), (0 : Int))).bind fun y => match y with | .ret v11 => some v11 | .go (v6, v7) => (itN N (fun s => f37o_b4n N v2 v7 s.1 s.2) (v6, (0 : Int))).bind fun y => match y with | .ret v17 => some v17 | .go v14 => (itN N (fun s => f37o_b5n N v2 v14 s.1 s.2) ((0 : Int), v2.f2)).bind fun y => match y with | .ret v21 => some v21 | .go v20 => some (true, ([] : List UInt8), (0 : Int), T57.mk v2.f0 v2.f1 v20)
theorem f37o_le (N : Nat) (v1 : List (List (List UInt8))) (v2 : T57) : Le (f37on N v1 v2) (f37o v1 v2) := by
 unfold f37on f37o
 repeat' (first | exact Le.refl _ | apply f37o_b2_le | apply f37o_b4_le | apply f37o_b5_le | apply Le.cond | apply Le.ite | apply Le.iter | apply Le.bind | (intro y; cases y <;> dsimp only) | intro y)
def f24_b1n (N : Nat) (v1 : List T36) (v5 : Int) (v6 : List Int) : Option ((Int × (List Int)) ⊕ Out ((Option T57) × (List UInt8) × Int) (List Int)) :=
 cond (decide (v5 < (v1.length : Int))) (if (v6.length + [v5].length) * 8 ≤ 140737488355328 then some (.inl (w64 (v5 + (1 : Int)), v6 ++ [v5])) else none) (some (.inr (.go v6)))
theorem f24_b1_le (N : Nat) (v1 : List T36) (v5 : Int) (v6 : List Int) : Le (f24_b1n N v1 v5 v6) (f24_b1 v1 v5 v6) := by
 unfold f24_b1n f24_b1
 repeat' (first | exact Le.refl _ | apply Le.cond | apply Le.ite | apply Le.iter | apply Le.bind | (intro y; cases y <;> dsimp only) | intro y)
def f24_b2n (N : Nat) (v1 : List T36) (v3 : List (List (List UInt8))) (v9 : Int) (v16 : Int) (v17 : List T36) (v18 : List Int) (v19 : List Int) : Option ((Int × (List T36) × (List Int) × (List Int)) ⊕ Out ((Option T57) × (List UInt8) × Int) ((List T36) × (List Int) × (List Int))) :=
 cond (decide (v16 < ((v3.getD v9.toNat default).length : Int))) (if (0 : Int) ≤ w64 (v16 - (1 : Int)) ∧ w64 (v16 - (1 : Int)) < ((v3.getD v9.toNat default).length : Int) then (f34n N v1 ((v3.getD v9.toNat default).getD (Int.toNat (w64 (v16 - (1 : Int)))) default)).bind fun v23 => if (0 : Int) ≤ v23 ∧ v23 < (v1.length : Int) ∧ (0 : Int) ≤ v16 ∧ v16 < ((v3.getD v9.toNat default).length : Int) then (f25n N (v1.getD v23.toNat default)).bind fun v24 => (f34n N v1 ((v3.getD v9.toNat default).getD v16.toNat default)).bind fun v25 => (f36on N v23 v24 v25 (0 : Int) (T57.mk v17 v18 v19)).bind fun v26 => some (.inl (w64 (v16 + (1 : Int)), v26.2.f0, v26.2.f1, v26.2.f2)) else none else none) (some (.inr (.go (v17, v18, v19))))
theorem f24_b2_le (N : Nat) (v1 : List T36) (v3 : List (List (List UInt8))) (v9 : Int) (v16 : Int) (v17 : List T36) (v18 : List Int) (v19 : List Int) : Le (f24_b2n N v1 v3 v9 v16 v17 v18 v19) (f24_b2 v1 v3 v9 v16 v17 v18 v19) := by
 unfold f24_b2n f24_b2
 repeat' (first | exact Le.refl _ | apply f34_le | apply f25_le | apply f36o_le | apply Le.cond | apply Le.ite | apply Le.iter | apply Le.bind | (intro y; cases y <;> dsimp only) | intro y)
def f24_b3n (N : Nat) (v1 : List T36) (v3 : List (List (List UInt8))) (v9 : Int) (v10 : List T36) (v11 : List Int) (v12 : List Int) : Option ((Int × (List T36) × (List Int) × (List Int)) ⊕ Out ((Option T57) × (List UInt8) × Int) ((List T36) × (List Int) × (List Int))) :=
 cond (decide (v9 < (v3.length : Int))) (if (0 : Int) ≤ v9 ∧ v9 < (v3.length : Int) then (itN N (fun s => f24_b2n N v1 v3 v9 s.1 s.2.1 s.2.2.1 s.2.2.2) ((1 : Int), v10, v11, v12)).bind fun y => match y with | .ret v27 => some (.inr (.ret v27)) | .go (v20, v21, v22) => some (.inl (w64 (v9 + (1 : Int)), v20, v21, v22)) else none) (some (.inr (.go (v10, v11, v12))))
theorem f24_b3_le (N : Nat) (v1 : List T36) (v3 : List (List (List UInt8))) (v9 : Int) (v10 : List T36) (v11 : List Int) (v12 : List Int) : Le (f24_b3n N v1 v3 v9 v10 v11 v12) (f24_b3 v1 v3 v9 v10 v11 v12) := by
 unfold f24_b3n f24_b3
 repeat' (first | exact Le.refl _ | apply f24_b2_le | apply Le.cond | apply Le.ite | apply Le.iter | apply Le.bind | (intro y; cases y <;> dsimp only) | intro y)
def f24_b4n (N : Nat) (v1 : List T36) (v2 : List (List T34)) (v29 : Int) (v36 : Int) (v37 : List T36) (v38 : List Int) (v39 : List Int) : Option ((Int × (List T36) × (List Int) × (List Int)) ⊕ Out ((Option T57) × (List UInt8) × Int) ((List T36) × (List Int) × (List Int))) :=
 cond (decide (v36 < ((v2.getD v29.toNat default).length : Int))) (if (0 : Int) < ((v2.getD v29.toNat default).length : Int) ∧ (0 : Int) ≤ v36 ∧ v36 < ((v2.getD v29.toNat default).length : Int) then (f34n N v1 (((v2.getD v29.toNat default).getD 0 default).f0)).bind fun v43 => (f34n N v1 (((v2.getD v29.toNat default).getD v36.toNat default).f0)).bind fun v44 => if (0 : Int) < ((v2.getD v29.toNat default).length : Int) ∧ (0 : Int) ≤ v43 ∧ v43 < (v1.length : Int) ∧ (0 : Int) ≤ v36 ∧ v36 < ((v2.getD v29.toNat default).length : Int) ∧ (0 : Int) ≤ v44 ∧ v44 < (v1.length : Int) then (f36on N v43 (w64 ((((v2.getD v29.toNat default).getD 0 default).f1) * ((v1.getD v43.toNat default).f1))) v44 (w64 ((((v2.getD v29.toNat default).getD v36.toNat default).f1) * ((v1.getD v44.toNat default).f1))) (T57.mk v37 v38 v39)).bind fun v45 => cond (!v45.1) (if (0 : Int) ≤ v36 ∧ v36 < ((v2.getD v29.toNat default).length : Int) then some (.inr (.ret (none, ((v2.getD v29.toNat default).getD v36.toNat default).f0, (110 : Int)))) else none) (some (.inl (w64 (v36 + (1 : Int)), v45.2.f0, v45.2.f1, v45.2.f2))) else none else none) (some (.inr (.go (v37, v38, v39))))
theorem f24_b4_le (N : Nat) (v1 : List T36) (v2 : List (List T34)) (v29 : Int) (v36 : Int) (v37 : List T36) (v38 : List Int) (v39 : List Int) : Le (f24_b4n N v1 v2 v29 v36 v37 v38 v39) (f24_b4 v1 v2 v29 v36 v37 v38 v39) := by
 unfold f24_b4n f24_b4
 repeat' (first | exact Le.refl _ | apply f34_le | apply f36o_le | apply Le.cond | apply Le.ite | apply Le.iter | apply Le.bind | (intro y; cases y <;> dsimp only) | intro y)
def f24_b5n (N : Nat) (v1 : List T36) (v2 : List (List T34)) (v29 : Int) (v30 : List T36) (v31 : List Int) (v32 : List Int) : Option ((Int × (List T36) × (List Int) × (List Int)) ⊕ Out ((Option T57) × (List UInt8) × Int) ((List T36) × (List Int) × (List Int))) :=
 cond (decide (v29 < (v2.length : Int))) (if (0 : Int) ≤ v29 ∧ v29 < (v2.length : Int) then (itN N (fun s => f24_b4n N v1 v2 v29 s.1 s.2.1 s.2.2.1 s.2.2.2) ((1 : Int), v30, v31, v32)).bind fun y => match y with | .ret v46 => some (.inr (.ret v46)) | .go (v40, v41, v42) => some (.inl (w64 (v29 + (1 : Int)), v40, v41, v42)) else none) (some (.inr (.go (v30, v31, v32))))
theorem f24_b5_le (N : Nat) (v1 : List T36) (v2 : List (List T34)) (v29 : Int) (v30 : List T36) (v31 : List Int) (v32 : List Int) : Le (f24_b5n N v1 v2 v29 v30 v31 v32) (f24_b5 v1 v2 v29 v30 v31 v32) := by
 unfold f24_b5n f24_b5
 repeat' (first | exact Le.refl _ | apply f24_b4_le | apply Le.cond | apply Le.ite | apply Le.iter | apply Le.bind | (intro y; cases y <;> dsimp only) | intro y)
def f24n (N : Nat) (v1 : List T36) (v2 : List (List T34)) (v3 : List (List (List UInt8))) : Option ((Option T57) × (List UInt8) × Int) :=
 (f35n N v1 v2 v3).bind fun v4 => cond (v4.2 != (0 : Int)) (some (none, v4.1, v4.2)) (if (8 : Int) * (v1.length : Int) ≤ 281474976710656 ∧ (v1.length : Int) ≤ 9223372036854775807 then (itN N (fun s => f24_b1n N v1 s.1 s.2) ((0 : Int), [])).bind fun y => match y with | .ret v8 => some v8 | .go v7 => (itN N (fun s => f24_b3n N v1 v3 s.1 s.2.1 s.2.2.1 s.2.2.2) ((0 : Int), v1, v7, List.replicate (Int.toNat (v1.length : Int)) (0 : Int))).bind fun y => match y with | .ret v28 => some v28 | .go (v13, v14, v15) => (itN N (fun s => f24_b5n N v1 v2 s.1 s.2.1 s.2.2.1 s.2.2.2) ((0 : Int), v13, v14, v15)).bind fun y => match y with | .ret v47 => some v47 | .go (v33, v34, v35) => (f37on N v3 (T57.mk v33 v34 v35)).bind fun v48 => match v48 with | (false, v50, v51, v52) => some (none, v50, v51) | (true, v50, v51, v52) => some (some (T57.mk v52.f0 v52.f1 v52.f2), v50, v51) else none)
theorem f24_le (N : Nat) (v1 : List T36) (v2 : List (List T34)) (v3 : List (List (List UInt8))) : Le (f24n N v1 v2 v3) (f24 v1 v2 v3) := by
 unfold f24n f24
 repeat' (first | exact Le.refl _ | apply f35_le | apply f24_b1_le | apply f24_b3_le | apply f24_b5_le | apply f37o_le | apply Le.cond | apply Le.ite | apply Le.iter | apply Le.bind | (intro y; cases y <;> dsimp only) | intro y)
def f26n (N : Nat) (v1 : List Int) : Option (List Int) :=
 if (([] : List Int).length + v1.length) * 8 ≤ 140737488355328 then some (([] : List Int) ++ v1) else none
theorem f26_le (N : Nat) (v1 : List Int) : Le (f26n N v1) (f26 v1) := by
 unfold f26n f26
 repeat' (first | exact Le.refl _ | apply Le.cond | apply Le.ite | apply Le.iter | apply Le.bind | (intro y; cases y <;> dsimp only) | intro y)
def f11_j1n (N : Nat) (v1 : List T36) (v5 : T57) (v8 : List Int) (v11 : Int) (v14 : List Int) (v15 : List (Int × Int)) (v16 : Int) : Option (((List Int) × (List Int) × (List (Int × Int)) × Int) ⊕ Out ((List Int) × (List Int) × (List Int) × Int) ((List Int) × (List Int))) :=
 if (v8.length + [v16].length) * 8 ≤ 140737488355328 then if (0 : Int) ≤ v16 ∧ v16 < (v14.length : Int) ∧ (0 : Int) ≤ v11 ∧ v11 < (v1.length : Int) then if (0 : Int) ≤ v11 ∧ v11 < (v5.f2.length : Int) then (f25n N (v1.getD v11.toNat default)).bind fun v17 => if (0 : Int) ≤ v16 ∧ v16 < (v14.length : Int) then some (.inl (v8 ++ [v16], v14.set v16.toNat (if w64 ((v5.f2.getD v11.toNat default) + v17) > v14.getD v16.toNat default then w64 ((v5.f2.getD v11.toNat default) + v17) else v14.getD v16.toNat default), v15, w64 (v11 + (1 : Int)))) else none else none else none else none
theorem f11_j1_le (N : Nat) (v1 : List T36) (v5 : T57) (v8 : List Int) (v11 : Int) (v14 : List Int) (v15 : List (Int × Int)) (v16 : Int) : Le (f11_j1n N v1 v5 v8 v11 v14 v15 v16) (f11_j1 v1 v5 v8 v11 v14 v15 v16) := by
 unfold f11_j1n f11_j1
 repeat' (first | exact Le.refl _ | apply f25_le | apply Le.cond | apply Le.ite | apply Le.iter | apply Le.bind | (intro y; cases y <;> dsimp only) | intro y)
def f11_b2n (N : Nat) (v1 : List T36) (v5 : T57) (v8 : List Int) (v9 : List Int) (v10 : List (Int × Int)) (v11 : Int) : Option (((List Int) × (List Int) × (List (Int × Int)) × Int) ⊕ Out ((List Int) × (List Int) × (List Int) × Int) ((List Int) × (List Int))) :=
 cond (decide (v11 < (v5.f1.length : Int))) (if (0 : Int) ≤ v11 ∧ v11 < (v5.f1.length : Int) then cond (!(mhas v10 (v5.f1.getD v11.toNat default))) (if (v9.length + [(0 : Int)].length) * 8 ≤ 140737488355328 then f11_j1n N v1 v5 v8 v11 (v9 ++ [(0 : Int)]) (mset v10 (v5.f1.getD v11.toNat default) (v9.length : Int)) (v9.length : Int) else none) (f11_j1n N v1 v5 v8 v11 v9 v10 (mget v10 (v5.f1.getD v11.toNat default))) else none) (some (.inr (.go (v8, v9))))
theorem f11_b2_le (N : Nat) (v1 : List T36) (v5 : T57) (v8 : List Int) (v9 : List Int) (v10 : List (Int × Int)) (v11 : Int) : Le (f11_b2n N v1 v5 v8 v9 v10 v11) (f11_b2 v1 v5 v8 v9 v10 v11) := by
 unfold f11_b2n f11_b2
 repeat' (first | exact Le.refl _ | apply f11_j1_le | apply Le.cond | apply Le.ite | apply Le.iter | apply Le.bind | (intro y; cases y <;> dsimp only) | intro y)
def f11n (N : Nat) (v1 : List T36) (v2 : List (List T34)) (v3 : List (List (List UInt8))) : Option ((List Int) × (List Int) × (List Int) × Int) :=
 (f24n N v1 v2 v3).bind fun v4 => match v4 with | (none, v6, v7) => cond (v7 != (0 : Int)) (some (([] : List Int), ([] : List Int), ([] : List Int), v7)) none | (some v5, v6, v7) => cond (v7 != (0 : Int)) (some (([] : List Int), ([] : List Int), ([] : List Int), v7)) ((itN N (fun s => f11_b2n N v1 v5 s.1 s.2.1 s.2.2.1 s.2.2.2) ([], [], ([] : List (Int × Int)), (0 : Int))).bind fun y => match y with | .ret v18 => some (v18.1, v18.2.1, v18.2.2.1, v18.2.2.2) | .go (v12, v13) => (f26n N v5.f2).bind fun v19 => some (v12, v19, v13, (0 : Int)))
theorem f11_le (N : Nat) (v1 : List T36) (v2 : List (List T34)) (v3 : List (List (List UInt8))) : Le (f11n N v1 v2 v3) (f11 v1 v2 v3) := by
 unfold f11n f11
 repeat' (first | exact Le.refl _ | apply f24_le | apply f11_b2_le | apply f26_le | apply Le.cond | apply Le.ite | apply Le.iter | apply Le.bind | (rintro (⟨_ | _, _⟩ : Option _ × _) <;> dsimp only) | (intro y; cases y <;> dsimp only) | intro y)
def f10n (N : Nat)  : Option Bool :=
 (f11n N ([T36.mk ([97] : List UInt8) (4 : Int) (3 : Int), T36.mk ([98] : List UInt8) (2 : Int) (4 : Int)]) ([[T34.mk ([97] : List UInt8) (1 : Int), T34.mk ([98] : List UInt8) (0 : Int)]]) ([] : List (List (List UInt8)))).bind fun v1 => (cond (v1.2.2.2 == (0 : Int)) (some ((v1.1.length : Int) == (2 : Int))) (some false)).bind fun v2 => (cond v2 (some ((v1.2.1.length : Int) == (2 : Int))) (some false)).bind fun v3 => (cond v3 (some ((v1.2.2.1.length : Int) == (1 : Int))) (some false)).bind fun v4 => (cond v4 (if (0 : Int) < (v1.2.1.length : Int) then some (v1.2.1.getD 0 default == (0 : Int)) else none) (some false)).bind fun v5 => (cond v5 (if (1 : Int) < (v1.2.1.length : Int) then some (v1.2.1.getD 1 default == (4 : Int)) else none) (some false)).bind fun v6 => (cond v6 (if (0 : Int) < (v1.2.2.1.length : Int) then some (v1.2.2.1.getD 0 default == (12 : Int)) else none) (some false)).bind fun v7 => some v7
theorem f10_le (N : Nat)  : Le (f10n N ) (f10 ) := by
 unfold f10n f10
 repeat' (first | exact Le.refl _ | apply f11_le | apply Le.cond | apply Le.ite | apply Le.iter | apply Le.bind | (intro y; cases y <;> dsimp only) | intro y)
end Go.Sx.sto
