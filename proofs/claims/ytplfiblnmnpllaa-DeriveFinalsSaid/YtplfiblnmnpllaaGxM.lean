/- The functions with so many rounds a loop; no condition. -/
import Derived.Test.YtplfiblnmnpllaaGx6
import Derived.Test.YtplfiblnmnpllaaSxC
namespace Go.Sx.der
open Go Go.Sx Go.Proofs
set_option linter.unusedVariables false

def f85n (N : Nat) (v1 : Int) : Option Bool :=
  (cond (decide (v1 ≥ (97 : Int))) (some (decide (v1 ≤ (122 : Int)))) (some false)).bind fun v2 => (cond v2 (some true) ((cond (decide (v1 ≥ (65 : Int))) (some (decide (v1 ≤ (90 : Int)))) (some false)).bind fun v4 => some v4)).bind fun v3 => some v3
theorem f85_le (N : Nat) (v1 : Int) : Le (f85n N v1) (f85 v1) := by
  unfold f85n f85
  repeat' (first | exact Le.refl _ | apply Le.cond | apply Le.ite | apply Le.iter | apply Le.bind | (intro y; cases y <;> dsimp only) | intro y)
def f93n (N : Nat) (v1 : Int) : Option Bool :=
  (cond (decide (v1 ≥ (48 : Int))) (some (decide (v1 ≤ (57 : Int)))) (some false)).bind fun v2 => some v2
theorem f93_le (N : Nat) (v1 : Int) : Le (f93n N v1) (f93 v1) := by
  unfold f93n f93
  repeat' (first | exact Le.refl _ | apply Le.cond | apply Le.ite | apply Le.iter | apply Le.bind | (intro y; cases y <;> dsimp only) | intro y)
def f87n (N : Nat) (v1 : Int) : Option Bool :=
  (f85n N v1).bind fun v2 => (cond v2 (some true) ((f93n N v1).bind fun v4 => some v4)).bind fun v3 => (cond v3 (some true) (some (v1 == (95 : Int)))).bind fun v5 => some v5
theorem f87_le (N : Nat) (v1 : Int) : Le (f87n N v1) (f87 v1) := by
  unfold f87n f87
  repeat' (first | exact Le.refl _ | apply f85_le | apply f93_le | apply Le.cond | apply Le.ite | apply Le.iter | apply Le.bind | (intro y; cases y <;> dsimp only) | intro y)
def f86_87_b1n (N : Nat) (v1 : List UInt8) (v2 : Int) : Option (Int ⊕ Out Int Int) :=
  (cond (decide (v2 < (v1.length : Int))) (if (0 : Int) ≤ v2 ∧ v2 < (v1.length : Int) then (f87n N (((v1.getD v2.toNat 0).toNat : Nat) : Int)).bind fun v5 => some v5 else none) (some false)).bind fun v4 => cond v4 (some (.inl (w64 (v2 + (1 : Int))))) (some (.inr (.go v2)))
theorem f86_87_b1_le (N : Nat) (v1 : List UInt8) (v2 : Int) : Le (f86_87_b1n N v1 v2) (f86_87_b1 v1 v2) := by
  unfold f86_87_b1n f86_87_b1
  repeat' (first | exact Le.refl _ | apply f87_le | apply Le.cond | apply Le.ite | apply Le.iter | apply Le.bind | (intro y; cases y <;> dsimp only) | intro y)
def f86_87n (N : Nat) (v1 : List UInt8) : Option Int :=
  (itN N (fun s => f86_87_b1n N v1 s) (0 : Int)).bind fun y => match y with | .ret v6 => some v6 | .go v3 => some v3
theorem f86_87_le (N : Nat) (v1 : List UInt8) : Le (f86_87n N v1) (f86_87 v1) := by
  unfold f86_87n f86_87
  repeat' (first | exact Le.refl _ | apply f86_87_b1_le | apply Le.cond | apply Le.ite | apply Le.iter | apply Le.bind | (intro y; cases y <;> dsimp only) | intro y)
def f88_j1n (N : Nat) (v3 : Int) (v5 : List Int) : Option (((List Int) × Int) ⊕ Out (List UInt8) (List Int)) :=
  some (.inl (v5, w64 (v3 + (1 : Int))))
theorem f88_j1_le (N : Nat) (v3 : Int) (v5 : List Int) : Le (f88_j1n N v3 v5) (f88_j1 v3 v5) := by
  unfold f88_j1n f88_j1
  repeat' (first | exact Le.refl _ | apply Le.cond | apply Le.ite | apply Le.iter | apply Le.bind | (intro y; cases y <;> dsimp only) | intro y)
def f88_b2n (N : Nat) (v1 : List UInt8) (v2 : List Int) (v3 : Int) : Option (((List Int) × Int) ⊕ Out (List UInt8) (List Int)) :=
  cond (decide (v3 < ((v1.map (fun b => (b.toNat : Int))).length : Int))) (if (0 : Int) ≤ v3 ∧ v3 < (v2.length : Int) then (cond (decide (v2.getD v3.toNat default ≥ (65 : Int))) (some (decide (v2.getD v3.toNat default ≤ (90 : Int)))) (some false)).bind fun v6 => cond v6 (if (0 : Int) ≤ v3 ∧ v3 < (v2.length : Int) then f88_j1n N v3 (v2.set v3.toNat (IntKind.wrap .u8 ((IntKind.wrap .u8 ((v2.getD v3.toNat default) - (65 : Int))) + (97 : Int)))) else none) (f88_j1n N v3 v2) else none) (some (.inr (.go v2)))
theorem f88_b2_le (N : Nat) (v1 : List UInt8) (v2 : List Int) (v3 : Int) : Le (f88_b2n N v1 v2 v3) (f88_b2 v1 v2 v3) := by
  unfold f88_b2n f88_b2
  repeat' (first | exact Le.refl _ | apply f88_j1_le | apply Le.cond | apply Le.ite | apply Le.iter | apply Le.bind | (intro y; cases y <;> dsimp only) | intro y)
def f88n (N : Nat) (v1 : List UInt8) : Option (List UInt8) :=
  if (v1.length : Int) ≤ 9223372036854775807 then (itN N (fun s => f88_b2n N v1 s.1 s.2) (v1.map (fun b => (b.toNat : Int)), (0 : Int))).bind fun y => match y with | .ret v7 => some v7 | .go v4 => some (v4.map (fun n => UInt8.ofNat n.toNat)) else none
theorem f88_le (N : Nat) (v1 : List UInt8) : Le (f88n N v1) (f88 v1) := by
  unfold f88n f88
  repeat' (first | exact Le.refl _ | apply f88_b2_le | apply Le.cond | apply Le.ite | apply Le.iter | apply Le.bind | (intro y; cases y <;> dsimp only) | intro y)
def f77n (N : Nat) (v1 : List UInt8) : Option Bool :=
  (cond (!(v1 == ([] : List UInt8))) (some (decide ((v1.length : Int) ≤ (12 : Int)))) (some false)).bind fun v2 => (cond v2 (if (0 : Int) < (v1.length : Int) then (f85n N (((v1.getD 0 0).toNat : Nat) : Int)).bind fun v4 => some v4 else none) (some false)).bind fun v3 => (cond v3 ((f86_87n N v1).bind fun v6 => some (v6 == (v1.length : Int))) (some false)).bind fun v5 => (cond v5 ((f88n N v1).bind fun v8 => some (v1 == v8)) (some false)).bind fun v7 => some v7
theorem f77_le (N : Nat) (v1 : List UInt8) : Le (f77n N v1) (f77 v1) := by
  unfold f77n f77
  repeat' (first | exact Le.refl _ | apply f85_le | apply f86_87_le | apply f88_le | apply Le.cond | apply Le.ite | apply Le.iter | apply Le.bind | (intro y; cases y <;> dsimp only) | intro y)
def f78n (N : Nat) (v1 : List UInt8) : Option Bool :=
  (cond (v1 == ([] : List UInt8)) (some true) ((f77n N v1).bind fun v3 => some v3)).bind fun v2 => some v2
theorem f78_le (N : Nat) (v1 : List UInt8) : Le (f78n N v1) (f78 v1) := by
  unfold f78n f78
  repeat' (first | exact Le.refl _ | apply f77_le | apply Le.cond | apply Le.ite | apply Le.iter | apply Le.bind | (intro y; cases y <;> dsimp only) | intro y)
def f66_b1n (N : Nat) (v1 : T62) (v7 : Int) : Option (Int ⊕ Out Bool Unit) :=
  cond (decide (v7 < (v1.f3.length : Int))) (if (0 : Int) ≤ v7 ∧ v7 < (v1.f3.length : Int) then (f77n N ((v1.f3.getD v7.toNat default).f0)).bind fun v8 => (cond (!v8) (some true) ((f78n N ((v1.f3.getD v7.toNat default).f1)).bind fun v10 => some (!v10))).bind fun v9 => (cond v9 (some true) (some (decide ((v1.f3.getD v7.toNat default).f2 < (0 : Int))))).bind fun v11 => (cond v11 (some true) (some (decide ((v1.f3.getD v7.toNat default).f2 > (100 : Int))))).bind fun v12 => cond v12 (some (.inr (.ret false))) (some (.inl (w64 (v7 + (1 : Int))))) else none) (some (.inr (.go ())))
theorem f66_b1_le (N : Nat) (v1 : T62) (v7 : Int) : Le (f66_b1n N v1 v7) (f66_b1 v1 v7) := by
  unfold f66_b1n f66_b1
  repeat' (first | exact Le.refl _ | apply f77_le | apply f78_le | apply Le.cond | apply Le.ite | apply Le.iter | apply Le.bind | (intro y; cases y <;> dsimp only) | intro y)
def f66_b2n (N : Nat) (v1 : T62) (v14 : Int) : Option (Int ⊕ Out Bool Unit) :=
  cond (decide (v14 < (v1.f4.length : Int))) (if (0 : Int) ≤ v14 ∧ v14 < (v1.f4.length : Int) then (f77n N ((v1.f4.getD v14.toNat default).f0)).bind fun v15 => (cond (!v15) (some true) ((f78n N ((v1.f4.getD v14.toNat default).f1)).bind fun v17 => some (!v17))).bind fun v16 => cond v16 (some (.inr (.ret false))) (some (.inl (w64 (v14 + (1 : Int))))) else none) (some (.inr (.go ())))
theorem f66_b2_le (N : Nat) (v1 : T62) (v14 : Int) : Le (f66_b2n N v1 v14) (f66_b2 v1 v14) := by
  unfold f66_b2n f66_b2
  repeat' (first | exact Le.refl _ | apply f77_le | apply f78_le | apply Le.cond | apply Le.ite | apply Le.iter | apply Le.bind | (intro y; cases y <;> dsimp only) | intro y)
def f66n (N : Nat) (v1 : T62) : Option Bool :=
  (f77n N v1.f0).bind fun v2 => (cond (!v2) (some true) ((f78n N v1.f1).bind fun v4 => some (!v4))).bind fun v3 => (cond v3 (some true) ((f78n N v1.f5).bind fun v6 => some (!v6))).bind fun v5 => cond v5 (some false) ((itN N (fun s => f66_b1n N v1 s) (0 : Int)).bind fun y => match y with | .ret v13 => some v13 | .go _ => (itN N (fun s => f66_b2n N v1 s) (0 : Int)).bind fun y => match y with | .ret v18 => some v18 | .go _ => some true)
theorem f66_le (N : Nat) (v1 : T62) : Le (f66n N v1) (f66 v1) := by
  unfold f66n f66
  repeat' (first | exact Le.refl _ | apply f77_le | apply f78_le | apply f66_b1_le | apply f66_b2_le | apply Le.cond | apply Le.ite | apply Le.iter | apply Le.bind | (intro y; cases y <;> dsimp only) | intro y)
def f74n (N : Nat) (v1 : T62) (v2 : List UInt8) : Option Bool :=
  some (v1.f0 == v2)
theorem f74_le (N : Nat) (v1 : T62) (v2 : List UInt8) : Le (f74n N v1 v2) (f74 v1 v2) := by
  unfold f74n f74
  repeat' (first | exact Le.refl _ | apply Le.cond | apply Le.ite | apply Le.iter | apply Le.bind | (intro y; cases y <;> dsimp only) | intro y)
def f73_74_b1n (N : Nat) (v1 : List T62) (v2 : List UInt8) (v3 : Int) : Option (Int ⊕ Out Int Unit) :=
  cond (decide (v3 < (v1.length : Int))) (if (0 : Int) ≤ v3 ∧ v3 < (v1.length : Int) then (f74n N (v1.getD v3.toNat default) v2).bind fun v4 => cond v4 (some (.inr (.ret v3))) (some (.inl (w64 (v3 + (1 : Int))))) else none) (some (.inr (.go ())))
theorem f73_74_b1_le (N : Nat) (v1 : List T62) (v2 : List UInt8) (v3 : Int) : Le (f73_74_b1n N v1 v2 v3) (f73_74_b1 v1 v2 v3) := by
  unfold f73_74_b1n f73_74_b1
  repeat' (first | exact Le.refl _ | apply f74_le | apply Le.cond | apply Le.ite | apply Le.iter | apply Le.bind | (intro y; cases y <;> dsimp only) | intro y)
def f73_74n (N : Nat) (v1 : List T62) (v2 : List UInt8) : Option Int :=
  (itN N (fun s => f73_74_b1n N v1 v2 s) (0 : Int)).bind fun y => match y with | .ret v5 => some v5 | .go _ => some (-1 : Int)
theorem f73_74_le (N : Nat) (v1 : List T62) (v2 : List UInt8) : Le (f73_74n N v1 v2) (f73_74 v1 v2) := by
  unfold f73_74n f73_74
  repeat' (first | exact Le.refl _ | apply f73_74_b1_le | apply Le.cond | apply Le.ite | apply Le.iter | apply Le.bind | (intro y; cases y <;> dsimp only) | intro y)
def f45n (N : Nat) (v1 : List T62) (v2 : List UInt8) : Option Int :=
  (f73_74n N v1 v2).bind fun v3 => some v3
theorem f45_le (N : Nat) (v1 : List T62) (v2 : List UInt8) : Le (f45n N v1 v2) (f45 v1 v2) := by
  unfold f45n f45
  repeat' (first | exact Le.refl _ | apply f73_74_le | apply Le.cond | apply Le.ite | apply Le.iter | apply Le.bind | (intro y; cases y <;> dsimp only) | intro y)
def f56_b1n (N : Nat) (v1 : List T62) (v3 : Int) (v4 : List Int) : Option ((Int × (List Int)) ⊕ Out (List Int) (List Int)) :=
  cond (decide (v3 ≥ (0 : Int))) (if (v4.length + [v3].length) * 8 ≤ 140737488355328 then if (0 : Int) ≤ v3 ∧ v3 < (v1.length : Int) then cond (((v1.getD v3.toNat default).f1) == ([] : List UInt8)) (some (.inr (.go (v4 ++ [v3])))) (if (0 : Int) ≤ v3 ∧ v3 < (v1.length : Int) then (f45n N v1 ((v1.getD v3.toNat default).f1)).bind fun v6 => some (.inl (v6, v4 ++ [v3])) else none) else none else none) (some (.inr (.go v4)))
theorem f56_b1_le (N : Nat) (v1 : List T62) (v3 : Int) (v4 : List Int) : Le (f56_b1n N v1 v3 v4) (f56_b1 v1 v3 v4) := by
  unfold f56_b1n f56_b1
  repeat' (first | exact Le.refl _ | apply f45_le | apply Le.cond | apply Le.ite | apply Le.iter | apply Le.bind | (intro y; cases y <;> dsimp only) | intro y)
def f56n (N : Nat) (v1 : List T62) (v2 : Int) : Option (List Int) :=
  (itN N (fun s => f56_b1n N v1 s.1 s.2) (v2, [])).bind fun y => match y with | .ret v7 => some v7 | .go v5 => some v5
theorem f56_le (N : Nat) (v1 : List T62) (v2 : Int) : Le (f56n N v1 v2) (f56 v1 v2) := by
  unfold f56n f56
  repeat' (first | exact Le.refl _ | apply f56_b1_le | apply Le.cond | apply Le.ite | apply Le.iter | apply Le.bind | (intro y; cases y <;> dsimp only) | intro y)
def f53n (N : Nat) (v1 : List T62) (v2 : Int) : Option (List T35) :=
  (f56n N v1 v2).bind fun v3 => if (∀ k ∈ v3, 0 ≤ k ∧ k < (v1.length : Int)) ∧ (∀ t ∈ v1, t.f3.length ≤ 1000) ∧ v3.length ≤ 1000000 then some (v3.reverse.flatMap fun k => (v1.getD k.toNat default).f3) else none
theorem f53_le (N : Nat) (v1 : List T62) (v2 : Int) : Le (f53n N v1 v2) (f53 v1 v2) := by
  unfold f53n f53
  repeat' (first | exact Le.refl _ | apply f56_le | apply Le.cond | apply Le.ite | apply Le.iter | apply Le.bind | (intro y; cases y <;> dsimp only) | intro y)
def f94_b1n (N : Nat) (v1 : List (List UInt8)) (v2 : List UInt8) (v3 : Int) : Option (Int ⊕ Out Int Unit) :=
  cond (decide (v3 < (v1.length : Int))) (if (0 : Int) ≤ v3 ∧ v3 < (v1.length : Int) then cond (v2 == (v1.getD v3.toNat default)) (some (.inr (.ret v3))) (some (.inl (w64 (v3 + (1 : Int))))) else none) (some (.inr (.go ())))
theorem f94_b1_le (N : Nat) (v1 : List (List UInt8)) (v2 : List UInt8) (v3 : Int) : Le (f94_b1n N v1 v2 v3) (f94_b1 v1 v2 v3) := by
  unfold f94_b1n f94_b1
  repeat' (first | exact Le.refl _ | apply Le.cond | apply Le.ite | apply Le.iter | apply Le.bind | (intro y; cases y <;> dsimp only) | intro y)
def f94n (N : Nat) (v1 : List (List UInt8)) (v2 : List UInt8) : Option Int :=
  (itN N (fun s => f94_b1n N v1 v2 s) (0 : Int)).bind fun y => match y with | .ret v4 => some v4 | .go _ => some (-1 : Int)
theorem f94_le (N : Nat) (v1 : List (List UInt8)) (v2 : List UInt8) : Le (f94n N v1 v2) (f94 v1 v2) := by
  unfold f94n f94
  repeat' (first | exact Le.refl _ | apply f94_b1_le | apply Le.cond | apply Le.ite | apply Le.iter | apply Le.bind | (intro y; cases y <;> dsimp only) | intro y)
def f89n (N : Nat) (v1 : List (List UInt8)) (v2 : List UInt8) : Option Bool :=
  (f94n N v1 v2).bind fun v3 => some (decide (v3 ≥ (0 : Int)))
theorem f89_le (N : Nat) (v1 : List (List UInt8)) (v2 : List UInt8) : Le (f89n N v1 v2) (f89 v1 v2) := by
  unfold f89n f89
  repeat' (first | exact Le.refl _ | apply f94_le | apply Le.cond | apply Le.ite | apply Le.iter | apply Le.bind | (intro y; cases y <;> dsimp only) | intro y)
def f79_b1n (N : Nat) (v1 : List (List UInt8)) (v2 : Int) : Option (Int ⊕ Out Bool Unit) :=
  cond (decide (v2 < (v1.length : Int))) (if (0 : Int) ≤ v2 ∧ v2 < (v1.length : Int) then if (0 : Int) ≤ v2 ∧ v2 ≤ (v1.length : Int) then (f89n N ((v1.take v2.toNat).drop 0) (v1.getD v2.toNat default)).bind fun v3 => cond v3 (some (.inr (.ret true))) (some (.inl (w64 (v2 + (1 : Int))))) else none else none) (some (.inr (.go ())))
theorem f79_b1_le (N : Nat) (v1 : List (List UInt8)) (v2 : Int) : Le (f79_b1n N v1 v2) (f79_b1 v1 v2) := by
  unfold f79_b1n f79_b1
  repeat' (first | exact Le.refl _ | apply f89_le | apply Le.cond | apply Le.ite | apply Le.iter | apply Le.bind | (intro y; cases y <;> dsimp only) | intro y)
def f79n (N : Nat) (v1 : List (List UInt8)) : Option Bool :=
  (itN N (fun s => f79_b1n N v1 s) (0 : Int)).bind fun y => match y with | .ret v4 => some v4 | .go _ => some false
theorem f79_le (N : Nat) (v1 : List (List UInt8)) : Le (f79n N v1) (f79 v1) := by
  unfold f79n f79
  repeat' (first | exact Le.refl _ | apply f79_b1_le | apply Le.cond | apply Le.ite | apply Le.iter | apply Le.bind | (intro y; cases y <;> dsimp only) | intro y)
def f67_b1n (N : Nat) (v1 : List T62) (v2 : Int) (v4 : List (List UInt8)) (v5 : Int) : Option (((List (List UInt8)) × Int) ⊕ Out Bool (List (List UInt8))) :=
  cond (decide (v5 < (((v1.getD v2.toNat default).f3).length : Int))) (if (0 : Int) ≤ v5 ∧ v5 < (((v1.getD v2.toNat default).f3).length : Int) then if (v4.length + [(((v1.getD v2.toNat default).f3).getD v5.toNat default).f0].length) * 16 ≤ 140737488355328 then some (.inl (v4 ++ [(((v1.getD v2.toNat default).f3).getD v5.toNat default).f0], w64 (v5 + (1 : Int)))) else none else none) (some (.inr (.go v4)))
theorem f67_b1_le (N : Nat) (v1 : List T62) (v2 : Int) (v4 : List (List UInt8)) (v5 : Int) : Le (f67_b1n N v1 v2 v4 v5) (f67_b1 v1 v2 v4 v5) := by
  unfold f67_b1n f67_b1
  repeat' (first | exact Le.refl _ | apply Le.cond | apply Le.ite | apply Le.iter | apply Le.bind | (intro y; cases y <;> dsimp only) | intro y)
def f67_b2n (N : Nat) (v1 : List T62) (v2 : Int) (v8 : List (List UInt8)) (v9 : Int) : Option (((List (List UInt8)) × Int) ⊕ Out Bool (List (List UInt8))) :=
  cond (decide (v9 < (((v1.getD v2.toNat default).f4).length : Int))) (if (0 : Int) ≤ v9 ∧ v9 < (((v1.getD v2.toNat default).f4).length : Int) then if (v8.length + [(((v1.getD v2.toNat default).f4).getD v9.toNat default).f0].length) * 16 ≤ 140737488355328 then some (.inl (v8 ++ [(((v1.getD v2.toNat default).f4).getD v9.toNat default).f0], w64 (v9 + (1 : Int)))) else none else none) (some (.inr (.go v8)))
theorem f67_b2_le (N : Nat) (v1 : List T62) (v2 : Int) (v8 : List (List UInt8)) (v9 : Int) : Le (f67_b2n N v1 v2 v8 v9) (f67_b2 v1 v2 v8 v9) := by
  unfold f67_b2n f67_b2
  repeat' (first | exact Le.refl _ | apply Le.cond | apply Le.ite | apply Le.iter | apply Le.bind | (intro y; cases y <;> dsimp only) | intro y)
def f67_j3n (N : Nat) (v1 : List T62) (v2 : Int) (v3 : List (List UInt8)) : Option Bool :=
  (itN N (fun s => f67_b1n N v1 v2 s.1 s.2) (v3, (0 : Int))).bind fun y => match y with | .ret v7 => some v7 | .go v6 => (itN N (fun s => f67_b2n N v1 v2 s.1 s.2) ([], (0 : Int))).bind fun y => match y with | .ret v11 => some v11 | .go v10 => (if (0 : Int) ≤ v2 ∧ v2 ≤ (v1.length : Int) then (f45n N ((v1.take v2.toNat).drop 0) ((v1.getD v2.toNat default).f0)).bind fun v13 => cond (decide (v13 ≥ (0 : Int))) (some true) ((f79n N v6).bind fun v14 => cond v14 (some true) ((f79n N v10).bind fun v15 => some v15)) else none).bind fun v12 => some v12
theorem f67_j3_le (N : Nat) (v1 : List T62) (v2 : Int) (v3 : List (List UInt8)) : Le (f67_j3n N v1 v2 v3) (f67_j3 v1 v2 v3) := by
  unfold f67_j3n f67_j3
  repeat' (first | exact Le.refl _ | apply f67_b1_le | apply f67_b2_le | apply f45_le | apply f79_le | apply Le.cond | apply Le.ite | apply Le.iter | apply Le.bind | (intro y; cases y <;> dsimp only) | intro y)
def f67_b4n (N : Nat) (v17 : (List T35)) (v18 : List (List UInt8)) (v19 : Int) : Option (((List (List UInt8)) × Int) ⊕ Out Bool (List (List UInt8))) :=
  cond (decide (v19 < (v17.length : Int))) (if (0 : Int) ≤ v19 ∧ v19 < (v17.length : Int) then if (v18.length + [(v17.getD v19.toNat default).f0].length) * 16 ≤ 140737488355328 then some (.inl (v18 ++ [(v17.getD v19.toNat default).f0], w64 (v19 + (1 : Int)))) else none else none) (some (.inr (.go v18)))
theorem f67_b4_le (N : Nat) (v17 : (List T35)) (v18 : List (List UInt8)) (v19 : Int) : Le (f67_b4n N v17 v18 v19) (f67_b4 v17 v18 v19) := by
  unfold f67_b4n f67_b4
  repeat' (first | exact Le.refl _ | apply Le.cond | apply Le.ite | apply Le.iter | apply Le.bind | (intro y; cases y <;> dsimp only) | intro y)
def f67n (N : Nat) (v1 : List T62) (v2 : Int) : Option Bool :=
  if (0 : Int) ≤ v2 ∧ v2 < (v1.length : Int) then if (0 : Int) ≤ v2 ∧ v2 ≤ (v1.length : Int) then (f45n N ((v1.take v2.toNat).drop 0) ((v1.getD v2.toNat default).f1)).bind fun v16 => cond (decide (v16 ≥ (0 : Int))) ((f53n N v1 v16).bind fun v17 => (itN N (fun s => f67_b4n N v17 s.1 s.2) ([], (0 : Int))).bind fun y => match y with | .ret v21 => some v21 | .go v20 => f67_j3n N v1 v2 v20) (f67_j3n N v1 v2 []) else none else none
theorem f67_le (N : Nat) (v1 : List T62) (v2 : Int) : Le (f67n N v1 v2) (f67 v1 v2) := by
  unfold f67n f67
  repeat' (first | exact Le.refl _ | apply f45_le | apply f53_le | apply f67_b4_le | apply f67_j3_le | apply Le.cond | apply Le.ite | apply Le.iter | apply Le.bind | (intro y; cases y <;> dsimp only) | intro y)
def f81n (N : Nat) (v1 : T35) (v2 : List T62) (v3 : Int) : Option Bool :=
  (cond (!(v1.f1 == ([] : List UInt8))) (if (0 : Int) ≤ v3 ∧ v3 ≤ (v2.length : Int) then (f45n N ((v2.take v3.toNat).drop 0) v1.f1).bind fun v5 => some (decide (v5 < (0 : Int))) else none) (some false)).bind fun v4 => some v4
theorem f81_le (N : Nat) (v1 : T35) (v2 : List T62) (v3 : Int) : Le (f81n N v1 v2 v3) (f81 v1 v2 v3) := by
  unfold f81n f81
  repeat' (first | exact Le.refl _ | apply f45_le | apply Le.cond | apply Le.ite | apply Le.iter | apply Le.bind | (intro y; cases y <;> dsimp only) | intro y)
def f90_81_b1n (N : Nat) (v1 : List T35) (v2 : List T62) (v3 : Int) (v4 : Int) : Option (Int ⊕ Out Int Unit) :=
  cond (decide (v4 < (v1.length : Int))) (if (0 : Int) ≤ v4 ∧ v4 < (v1.length : Int) then (f81n N (v1.getD v4.toNat default) v2 v3).bind fun v5 => cond v5 (some (.inr (.ret v4))) (some (.inl (w64 (v4 + (1 : Int))))) else none) (some (.inr (.go ())))
theorem f90_81_b1_le (N : Nat) (v1 : List T35) (v2 : List T62) (v3 : Int) (v4 : Int) : Le (f90_81_b1n N v1 v2 v3 v4) (f90_81_b1 v1 v2 v3 v4) := by
  unfold f90_81_b1n f90_81_b1
  repeat' (first | exact Le.refl _ | apply f81_le | apply Le.cond | apply Le.ite | apply Le.iter | apply Le.bind | (intro y; cases y <;> dsimp only) | intro y)
def f90_81n (N : Nat) (v1 : List T35) (v2 : List T62) (v3 : Int) : Option Int :=
  (itN N (fun s => f90_81_b1n N v1 v2 v3 s) (0 : Int)).bind fun y => match y with | .ret v6 => some v6 | .go _ => some (-1 : Int)
theorem f90_81_le (N : Nat) (v1 : List T35) (v2 : List T62) (v3 : Int) : Le (f90_81n N v1 v2 v3) (f90_81 v1 v2 v3) := by
  unfold f90_81n f90_81
  repeat' (first | exact Le.refl _ | apply f90_81_b1_le | apply Le.cond | apply Le.ite | apply Le.iter | apply Le.bind | (intro y; cases y <;> dsimp only) | intro y)
def f80_81n (N : Nat) (v1 : List T35) (v2 : List T62) (v3 : Int) : Option Bool :=
  (f90_81n N v1 v2 v3).bind fun v4 => some (decide (v4 ≥ (0 : Int)))
theorem f80_81_le (N : Nat) (v1 : List T35) (v2 : List T62) (v3 : Int) : Le (f80_81n N v1 v2 v3) (f80_81 v1 v2 v3) := by
  unfold f80_81n f80_81
  repeat' (first | exact Le.refl _ | apply f90_81_le | apply Le.cond | apply Le.ite | apply Le.iter | apply Le.bind | (intro y; cases y <;> dsimp only) | intro y)
def f68n (N : Nat) (v1 : List T62) (v2 : Int) : Option Bool :=
  if (0 : Int) ≤ v2 ∧ v2 < (v1.length : Int) then (cond (!(((v1.getD v2.toNat default).f1) == ([] : List UInt8))) (if (0 : Int) ≤ v2 ∧ v2 ≤ (v1.length : Int) then (f45n N ((v1.take v2.toNat).drop 0) ((v1.getD v2.toNat default).f1)).bind fun v4 => cond (decide (v4 < (0 : Int))) (some true) ((f80_81n N ((v1.getD v2.toNat default).f3) v1 v2).bind fun v5 => some v5) else none) ((f80_81n N ((v1.getD v2.toNat default).f3) v1 v2).bind fun v6 => some v6)).bind fun v3 => some v3 else none
theorem f68_le (N : Nat) (v1 : List T62) (v2 : Int) : Le (f68n N v1 v2) (f68 v1 v2) := by
  unfold f68n f68
  repeat' (first | exact Le.refl _ | apply f45_le | apply f80_81_le | apply Le.cond | apply Le.ite | apply Le.iter | apply Le.bind | (intro y; cases y <;> dsimp only) | intro y)
def f82n (N : Nat) (v1 : T35) (v2 : List T62) : Option Bool :=
  (cond (!(v1.f1 == ([] : List UInt8))) ((f45n N v2 v1.f1).bind fun v4 => if (0 : Int) ≤ v4 ∧ v4 < (v2.length : Int) then some ((v2.getD v4.toNat default).f2) else none) (some false)).bind fun v3 => some v3
theorem f82_le (N : Nat) (v1 : T35) (v2 : List T62) : Le (f82n N v1 v2) (f82 v1 v2) := by
  unfold f82n f82
  repeat' (first | exact Le.refl _ | apply f45_le | apply Le.cond | apply Le.ite | apply Le.iter | apply Le.bind | (intro y; cases y <;> dsimp only) | intro y)
def f90_82_b1n (N : Nat) (v1 : List T35) (v2 : List T62) (v3 : Int) : Option (Int ⊕ Out Int Unit) :=
  cond (decide (v3 < (v1.length : Int))) (if (0 : Int) ≤ v3 ∧ v3 < (v1.length : Int) then (f82n N (v1.getD v3.toNat default) v2).bind fun v4 => cond v4 (some (.inr (.ret v3))) (some (.inl (w64 (v3 + (1 : Int))))) else none) (some (.inr (.go ())))
theorem f90_82_b1_le (N : Nat) (v1 : List T35) (v2 : List T62) (v3 : Int) : Le (f90_82_b1n N v1 v2 v3) (f90_82_b1 v1 v2 v3) := by
  unfold f90_82_b1n f90_82_b1
  repeat' (first | exact Le.refl _ | apply f82_le | apply Le.cond | apply Le.ite | apply Le.iter | apply Le.bind | (intro y; cases y <;> dsimp only) | intro y)
def f90_82n (N : Nat) (v1 : List T35) (v2 : List T62) : Option Int :=
  (itN N (fun s => f90_82_b1n N v1 v2 s) (0 : Int)).bind fun y => match y with | .ret v5 => some v5 | .go _ => some (-1 : Int)
theorem f90_82_le (N : Nat) (v1 : List T35) (v2 : List T62) : Le (f90_82n N v1 v2) (f90_82 v1 v2) := by
  unfold f90_82n f90_82
  repeat' (first | exact Le.refl _ | apply f90_82_b1_le | apply Le.cond | apply Le.ite | apply Le.iter | apply Le.bind | (intro y; cases y <;> dsimp only) | intro y)
def f80_82n (N : Nat) (v1 : List T35) (v2 : List T62) : Option Bool :=
  (f90_82n N v1 v2).bind fun v3 => some (decide (v3 ≥ (0 : Int)))
theorem f80_82_le (N : Nat) (v1 : List T35) (v2 : List T62) : Le (f80_82n N v1 v2) (f80_82 v1 v2) := by
  unfold f80_82n f80_82
  repeat' (first | exact Le.refl _ | apply f90_82_le | apply Le.cond | apply Le.ite | apply Le.iter | apply Le.bind | (intro y; cases y <;> dsimp only) | intro y)
def f62_b1n (N : Nat) (v1 : List T62) (v3 : List UInt8) (v4 : (List Int)) (v5 : Int) (v6 : Int) : Option (Int ⊕ Out ((List UInt8) × Bool) Unit) :=
  cond (decide (v6 < (((v1.getD (Int.toNat (v4.getD v5.toNat default)) default).f4).length : Int))) (if (0 : Int) ≤ v6 ∧ v6 < (((v1.getD (Int.toNat (v4.getD v5.toNat default)) default).f4).length : Int) then cond (((((v1.getD (Int.toNat (v4.getD v5.toNat default)) default).f4).getD v6.toNat default).f0) == v3) (some (.inr (.ret ((((v1.getD (Int.toNat (v4.getD v5.toNat default)) default).f4).getD v6.toNat default).f1, true)))) (some (.inl (w64 (v6 + (1 : Int))))) else none) (some (.inr (.go ())))
theorem f62_b1_le (N : Nat) (v1 : List T62) (v3 : List UInt8) (v4 : (List Int)) (v5 : Int) (v6 : Int) : Le (f62_b1n N v1 v3 v4 v5 v6) (f62_b1 v1 v3 v4 v5 v6) := by
  unfold f62_b1n f62_b1
  repeat' (first | exact Le.refl _ | apply Le.cond | apply Le.ite | apply Le.iter | apply Le.bind | (intro y; cases y <;> dsimp only) | intro y)
def f62_b2n (N : Nat) (v1 : List T62) (v3 : List UInt8) (v4 : (List Int)) (v5 : Int) : Option (Int ⊕ Out ((List UInt8) × Bool) Unit) :=
  cond (decide (v5 < (v4.length : Int))) (if (0 : Int) ≤ v5 ∧ v5 < (v4.length : Int) then if (0 : Int) ≤ v4.getD v5.toNat default ∧ v4.getD v5.toNat default < (v1.length : Int) then (itN N (fun s => f62_b1n N v1 v3 v4 v5 s) (0 : Int)).bind fun y => match y with | .ret v7 => some (.inr (.ret (v7.1, v7.2))) | .go _ => some (.inl (w64 (v5 + (1 : Int)))) else none else none) (some (.inr (.go ())))
theorem f62_b2_le (N : Nat) (v1 : List T62) (v3 : List UInt8) (v4 : (List Int)) (v5 : Int) : Le (f62_b2n N v1 v3 v4 v5) (f62_b2 v1 v3 v4 v5) := by
  unfold f62_b2n f62_b2
  repeat' (first | exact Le.refl _ | apply f62_b1_le | apply Le.cond | apply Le.ite | apply Le.iter | apply Le.bind | (intro y; cases y <;> dsimp only) | intro y)
def f62n (N : Nat) (v1 : List T62) (v2 : Int) (v3 : List UInt8) : Option ((List UInt8) × Bool) :=
  (f56n N v1 v2).bind fun v4 => (itN N (fun s => f62_b2n N v1 v3 v4 s) (0 : Int)).bind fun y => match y with | .ret v8 => some (v8.1, v8.2) | .go _ => some (([] : List UInt8), false)
theorem f62_le (N : Nat) (v1 : List T62) (v2 : Int) (v3 : List UInt8) : Le (f62n N v1 v2 v3) (f62 v1 v2 v3) := by
  unfold f62n f62
  repeat' (first | exact Le.refl _ | apply f56_le | apply f62_b2_le | apply Le.cond | apply Le.ite | apply Le.iter | apply Le.bind | (intro y; cases y <;> dsimp only) | intro y)
def f69_j1n (N : Nat) (v4 : Int) : Option (Int ⊕ Out Bool Unit) :=
  some (.inl (w64 (v4 + (1 : Int))))
theorem f69_j1_le (N : Nat) (v4 : Int) : Le (f69_j1n N v4) (f69_j1 v4) := by
  unfold f69_j1n f69_j1
  repeat' (first | exact Le.refl _ | apply Le.cond | apply Le.ite | apply Le.iter | apply Le.bind | (intro y; cases y <;> dsimp only) | intro y)
def f69_b2n (N : Nat) (v1 : List T62) (v2 : Int) (v4 : Int) : Option (Int ⊕ Out Bool Unit) :=
  cond (decide (v4 < (((v1.getD v2.toNat default).f4).length : Int))) (if (0 : Int) ≤ v4 ∧ v4 < (((v1.getD v2.toNat default).f4).length : Int) then (cond (!(((((v1.getD v2.toNat default).f4).getD v4.toNat default).f1) == ([] : List UInt8))) (some true) (some (((v1.getD v2.toNat default).f1) == ([] : List UInt8)))).bind fun v5 => cond v5 (f69_j1n N v4 ) ((f45n N v1 ((v1.getD v2.toNat default).f1)).bind fun v6 => (f62n N v1 v6 ((((v1.getD v2.toNat default).f4).getD v4.toNat default).f0)).bind fun v7 => (cond v7.2 (some (!(v7.1 == ([] : List UInt8)))) (some false)).bind fun v8 => cond v8 (some (.inr (.ret true))) (f69_j1n N v4 )) else none) (some (.inr (.go ())))
theorem f69_b2_le (N : Nat) (v1 : List T62) (v2 : Int) (v4 : Int) : Le (f69_b2n N v1 v2 v4) (f69_b2 v1 v2 v4) := by
  unfold f69_b2n f69_b2
  repeat' (first | exact Le.refl _ | apply f69_j1_le | apply f45_le | apply f62_le | apply Le.cond | apply Le.ite | apply Le.iter | apply Le.bind | (intro y; cases y <;> dsimp only) | intro y)
def f69_b3n (N : Nat) (v1 : List T62) (v2 : Int) (v10 : (List Int)) (v11 : Int) (v12 : Int) : Option (Int ⊕ Out Bool Unit) :=
  cond (decide (v12 < (((v1.getD (Int.toNat (v10.getD v11.toNat default)) default).f4).length : Int))) (if (0 : Int) ≤ v12 ∧ v12 < (((v1.getD (Int.toNat (v10.getD v11.toNat default)) default).f4).length : Int) then (f62n N v1 v2 ((((v1.getD (Int.toNat (v10.getD v11.toNat default)) default).f4).getD v12.toNat default).f0)).bind fun v13 => cond (v13.1 == ([] : List UInt8)) (some (.inr (.ret true))) (some (.inl (w64 (v12 + (1 : Int))))) else none) (some (.inr (.go ())))
theorem f69_b3_le (N : Nat) (v1 : List T62) (v2 : Int) (v10 : (List Int)) (v11 : Int) (v12 : Int) : Le (f69_b3n N v1 v2 v10 v11 v12) (f69_b3 v1 v2 v10 v11 v12) := by
  unfold f69_b3n f69_b3
  repeat' (first | exact Le.refl _ | apply f62_le | apply Le.cond | apply Le.ite | apply Le.iter | apply Le.bind | (intro y; cases y <;> dsimp only) | intro y)
def f69_b4n (N : Nat) (v1 : List T62) (v2 : Int) (v10 : (List Int)) (v11 : Int) : Option (Int ⊕ Out Bool Unit) :=
  cond (decide (v11 < (v10.length : Int))) (if (0 : Int) ≤ v11 ∧ v11 < (v10.length : Int) then if (0 : Int) ≤ v10.getD v11.toNat default ∧ v10.getD v11.toNat default < (v1.length : Int) then (itN N (fun s => f69_b3n N v1 v2 v10 v11 s) (0 : Int)).bind fun y => match y with | .ret v14 => some (.inr (.ret v14)) | .go _ => some (.inl (w64 (v11 + (1 : Int)))) else none else none) (some (.inr (.go ())))
theorem f69_b4_le (N : Nat) (v1 : List T62) (v2 : Int) (v10 : (List Int)) (v11 : Int) : Le (f69_b4n N v1 v2 v10 v11) (f69_b4 v1 v2 v10 v11) := by
  unfold f69_b4n f69_b4
  repeat' (first | exact Le.refl _ | apply f69_b3_le | apply Le.cond | apply Le.ite | apply Le.iter | apply Le.bind | (intro y; cases y <;> dsimp only) | intro y)
def f69n (N : Nat) (v1 : List T62) (v2 : Int) : Option Bool :=
  if (0 : Int) ≤ v2 ∧ v2 < (v1.length : Int) then (f80_82n N ((v1.getD v2.toNat default).f3) v1).bind fun v3 => cond v3 (some true) ((itN N (fun s => f69_b2n N v1 v2 s) (0 : Int)).bind fun y => match y with | .ret v9 => some v9 | .go _ => cond ((v1.getD v2.toNat default).f2) (some false) ((f56n N v1 v2).bind fun v10 => (itN N (fun s => f69_b4n N v1 v2 v10 s) (0 : Int)).bind fun y => match y with | .ret v15 => some v15 | .go _ => some false)) else none
theorem f69_le (N : Nat) (v1 : List T62) (v2 : Int) : Le (f69n N v1 v2) (f69 v1 v2) := by
  unfold f69n f69
  repeat' (first | exact Le.refl _ | apply f80_82_le | apply f69_b2_le | apply f56_le | apply f69_b4_le | apply Le.cond | apply Le.ite | apply Le.iter | apply Le.bind | (intro y; cases y <;> dsimp only) | intro y)
def f46n (N : Nat) (v1 : T35) : Option Int :=
  some (if (1 : Int) > v1.f2 then (1 : Int) else v1.f2)
theorem f46_le (N : Nat) (v1 : T35) : Le (f46n N v1) (f46 v1) := by
  unfold f46n f46
  repeat' (first | exact Le.refl _ | apply Le.cond | apply Le.ite | apply Le.iter | apply Le.bind | (intro y; cases y <;> dsimp only) | intro y)
def f70_j1n (N : Nat) (v36 : Int) (v39 : Int) (v40 : Int) : Option ((Int × Int × Int) ⊕ Out ((List Int) × (List Int)) (Int × Int)) :=
  some (.inl (v39, v40, w64 (v36 + (1 : Int))))
theorem f70_j1_le (N : Nat) (v36 : Int) (v39 : Int) (v40 : Int) : Le (f70_j1n N v36 v39 v40) (f70_j1 v36 v39 v40) := by
  unfold f70_j1n f70_j1
  repeat' (first | exact Le.refl _ | apply Le.cond | apply Le.ite | apply Le.iter | apply Le.bind | (intro y; cases y <;> dsimp only) | intro y)
def f70_b2n (N : Nat) (v1 : List T62) (v27 : List Int) (v28 : List Int) (v29 : Int) (v34 : Int) (v35 : Int) (v36 : Int) : Option ((Int × Int × Int) ⊕ Out ((List Int) × (List Int)) (Int × Int)) :=
  cond (decide (v36 < (((v1.getD v29.toNat default).f3).length : Int))) (if (0 : Int) ≤ v36 ∧ v36 < (((v1.getD v29.toNat default).f3).length : Int) then cond (((((v1.getD v29.toNat default).f3).getD v36.toNat default).f1) == ([] : List UInt8)) ((f46n N (((v1.getD v29.toNat default).f3).getD v36.toNat default)).bind fun v41 => (f46n N (((v1.getD v29.toNat default).f3).getD v36.toNat default)).bind fun v42 => f70_j1n N v36 (w64 (v34 + v41)) (w64 (v35 + v42))) (if (0 : Int) ≤ v29 ∧ v29 ≤ (v1.length : Int) then (f45n N ((v1.take v29.toNat).drop 0) ((((v1.getD v29.toNat default).f3).getD v36.toNat default).f1)).bind fun v43 => if (0 : Int) ≤ v43 ∧ v43 < (v27.length : Int) ∧ (0 : Int) ≤ v43 ∧ v43 < (v28.length : Int) then (f46n N (((v1.getD v29.toNat default).f3).getD v36.toNat default)).bind fun v44 => (f46n N (((v1.getD v29.toNat default).f3).getD v36.toNat default)).bind fun v45 => f70_j1n N v36 (w64 (v34 + (w64 (v44 * (v27.getD v43.toNat default))))) (w64 (v35 + (w64 (v45 * (w64 ((1 : Int) + (v28.getD v43.toNat default))))))) else none else none) else none) (some (.inr (.go (v34, v35))))
theorem f70_b2_le (N : Nat) (v1 : List T62) (v27 : List Int) (v28 : List Int) (v29 : Int) (v34 : Int) (v35 : Int) (v36 : Int) : Le (f70_b2n N v1 v27 v28 v29 v34 v35 v36) (f70_b2 v1 v27 v28 v29 v34 v35 v36) := by
  unfold f70_b2n f70_b2
  repeat' (first | exact Le.refl _ | apply f46_le | apply f70_j1_le | apply f45_le | apply Le.cond | apply Le.ite | apply Le.iter | apply Le.bind | (intro y; cases y <;> dsimp only) | intro y)
def f70_j3n (N : Nat) (v1 : List T62) (v27 : List Int) (v28 : List Int) (v29 : Int) (v32 : Int) (v33 : Int) : Option (((List Int) × (List Int) × Int) ⊕ Out ((List Int) × (List Int)) ((List Int) × (List Int))) :=
  (itN N (fun s => f70_b2n N v1 v27 v28 v29 s.1 s.2.1 s.2.2) (v32, v33, (0 : Int))).bind fun y => match y with | .ret v46 => some (.inr (.ret (v46.1, v46.2))) | .go (v37, v38) => if (v27.length + [v37].length) * 8 ≤ 140737488355328 then if (v28.length + [v38].length) * 8 ≤ 140737488355328 then some (.inl (v27 ++ [v37], v28 ++ [v38], w64 (v29 + (1 : Int)))) else none else none
theorem f70_j3_le (N : Nat) (v1 : List T62) (v27 : List Int) (v28 : List Int) (v29 : Int) (v32 : Int) (v33 : Int) : Le (f70_j3n N v1 v27 v28 v29 v32 v33) (f70_j3 v1 v27 v28 v29 v32 v33) := by
  unfold f70_j3n f70_j3
  repeat' (first | exact Le.refl _ | apply f70_b2_le | apply Le.cond | apply Le.ite | apply Le.iter | apply Le.bind | (intro y; cases y <;> dsimp only) | intro y)
def f70_b4n (N : Nat) (v1 : List T62) (v27 : List Int) (v28 : List Int) (v29 : Int) : Option (((List Int) × (List Int) × Int) ⊕ Out ((List Int) × (List Int)) ((List Int) × (List Int))) :=
  cond (decide (v29 < (v1.length : Int))) (if (0 : Int) ≤ v29 ∧ v29 < (v1.length : Int) then cond (!(((v1.getD v29.toNat default).f1) == ([] : List UInt8))) (if (0 : Int) ≤ v29 ∧ v29 ≤ (v1.length : Int) then (f45n N ((v1.take v29.toNat).drop 0) ((v1.getD v29.toNat default).f1)).bind fun v47 => if (0 : Int) ≤ v47 ∧ v47 < (v27.length : Int) ∧ (0 : Int) ≤ v47 ∧ v47 < (v28.length : Int) then f70_j3n N v1 v27 v28 v29 (v27.getD v47.toNat default) (w64 ((1 : Int) + (v28.getD v47.toNat default))) else none else none) (f70_j3n N v1 v27 v28 v29 (0 : Int) (0 : Int)) else none) (some (.inr (.go (v27, v28))))
theorem f70_b4_le (N : Nat) (v1 : List T62) (v27 : List Int) (v28 : List Int) (v29 : Int) : Le (f70_b4n N v1 v27 v28 v29) (f70_b4 v1 v27 v28 v29) := by
  unfold f70_b4n f70_b4
  repeat' (first | exact Le.refl _ | apply f45_le | apply f70_j3_le | apply Le.cond | apply Le.ite | apply Le.iter | apply Le.bind | (intro y; cases y <;> dsimp only) | intro y)
def f70n (N : Nat) (v1 : List T62) : Option ((List Int) × (List Int)) :=
  (itN N (fun s => f70_b4n N v1 s.1 s.2.1 s.2.2) ([], [], (0 : Int))).bind fun y => match y with | .ret v48 => some (v48.1, v48.2) | .go (v30, v31) => some (v30, v31)
theorem f70_le (N : Nat) (v1 : List T62) : Le (f70n N v1) (f70 v1) := by
  unfold f70n f70
  repeat' (first | exact Le.refl _ | apply f70_b4_le | apply Le.cond | apply Le.ite | apply Le.iter | apply Le.bind | (intro y; cases y <;> dsimp only) | intro y)
def f37n (N : Nat) (v1 : List T62) (v2 : Int) : Option Int :=
  if (0 : Int) ≤ v2 ∧ v2 < (v1.length : Int) then (f66n N (v1.getD v2.toNat default)).bind fun v3 => cond (!v3) (some (2 : Int)) ((f67n N v1 v2).bind fun v4 => cond v4 (some (8 : Int)) ((f68n N v1 v2).bind fun v5 => cond v5 (some (5 : Int)) ((f69n N v1 v2).bind fun v6 => cond v6 (some (70 : Int)) ((f70n N v1).bind fun v7 => (cond (decide (v2 ≥ (30 : Int))) (some true) (if (0 : Int) ≤ v2 ∧ v2 < (v1.length : Int) then some (decide ((((v1.getD v2.toNat default).f3).length : Int) > (20 : Int))) else none)).bind fun v8 => (cond v8 (some true) (if (0 : Int) ≤ v2 ∧ v2 < (v7.1.length : Int) then some (decide (v7.1.getD v2.toNat default > (100000 : Int))) else none)).bind fun v9 => (cond v9 (some true) (if (0 : Int) ≤ v2 ∧ v2 < (v7.2.length : Int) then some (decide (v7.2.getD v2.toNat default > (100000 : Int))) else none)).bind fun v10 => cond v10 (some (4 : Int)) (some (0 : Int)))))) else none
theorem f37_le (N : Nat) (v1 : List T62) (v2 : Int) : Le (f37n N v1 v2) (f37 v1 v2) := by
  unfold f37n f37
  repeat' (first | exact Le.refl _ | apply f66_le | apply f67_le | apply f68_le | apply f69_le | apply f70_le | apply Le.cond | apply Le.ite | apply Le.iter | apply Le.bind | (intro y; cases y <;> dsimp only) | intro y)
def f14_b1n (N : Nat) (v1 : List T62) (v2 : Int) : Option (Int ⊕ Out ((List UInt8) × Int) Unit) :=
  cond (decide (v2 < (v1.length : Int))) (if (0 : Int) ≤ v2 ∧ v2 < (v1.length : Int) then if (0 : Int) ≤ w64 (v2 + (1 : Int)) ∧ w64 (v2 + (1 : Int)) ≤ (v1.length : Int) then (f37n N ((v1.take (Int.toNat (w64 (v2 + (1 : Int))))).drop 0) v2).bind fun v3 => cond (v3 != (0 : Int)) (some (.inr (.ret ((v1.getD v2.toNat default).f0, v3)))) (some (.inl (w64 (v2 + (1 : Int))))) else none else none) (some (.inr (.go ())))
theorem f14_b1_le (N : Nat) (v1 : List T62) (v2 : Int) : Le (f14_b1n N v1 v2) (f14_b1 v1 v2) := by
  unfold f14_b1n f14_b1
  repeat' (first | exact Le.refl _ | apply f37_le | apply Le.cond | apply Le.ite | apply Le.iter | apply Le.bind | (intro y; cases y <;> dsimp only) | intro y)
def f14n (N : Nat) (v1 : List T62) : Option ((List UInt8) × Int) :=
  (itN N (fun s => f14_b1n N v1 s) (0 : Int)).bind fun y => match y with | .ret v4 => some (v4.1, v4.2) | .go _ => some (([] : List UInt8), (0 : Int))
theorem f14_le (N : Nat) (v1 : List T62) : Le (f14n N v1) (f14 v1) := by
  unfold f14n f14
  repeat' (first | exact Le.refl _ | apply f14_b1_le | apply Le.cond | apply Le.ite | apply Le.iter | apply Le.bind | (intro y; cases y <;> dsimp only) | intro y)
def f43n (N : Nat) (v1 : List T62) (v2 : List UInt8) : Option (Int × Int) :=
  (f14n N v1).bind fun v3 => cond (v3.2 != (0 : Int)) (some ((0 : Int), (2 : Int))) ((f45n N v1 v2).bind fun v4 => cond (decide (v4 < (0 : Int))) (some ((0 : Int), (5 : Int))) (some (v4, (0 : Int))))
theorem f43_le (N : Nat) (v1 : List T62) (v2 : List UInt8) : Le (f43n N v1 v2) (f43 v1 v2) := by
  unfold f43n f43
  repeat' (first | exact Le.refl _ | apply f14_le | apply f45_le | apply Le.cond | apply Le.ite | apply Le.iter | apply Le.bind | (intro y; cases y <;> dsimp only) | intro y)
def f54n (N : Nat) (v1 : List T62) (v2 : Int) : Option Int :=
  if (0 : Int) ≤ w64 (v2 + (1 : Int)) ∧ w64 (v2 + (1 : Int)) ≤ (v1.length : Int) then (f70n N ((v1.take (Int.toNat (w64 (v2 + (1 : Int))))).drop 0)).bind fun v3 => if (0 : Int) ≤ v2 ∧ v2 < (v3.1.length : Int) then some (v3.1.getD v2.toNat default) else none else none
theorem f54_le (N : Nat) (v1 : List T62) (v2 : Int) : Le (f54n N v1 v2) (f54 v1 v2) := by
  unfold f54n f54
  repeat' (first | exact Le.refl _ | apply f70_le | apply Le.cond | apply Le.ite | apply Le.iter | apply Le.bind | (intro y; cases y <;> dsimp only) | intro y)
def f19n (N : Nat) (v1 : List T62) (v2 : List UInt8) : Option (Int × Int) :=
  (f43n N v1 v2).bind fun v3 => cond (v3.2 != (0 : Int)) (some ((0 : Int), v3.2)) ((f54n N v1 v3.1).bind fun v4 => some (v4, (0 : Int)))
theorem f19_le (N : Nat) (v1 : List T62) (v2 : List UInt8) : Le (f19n N v1 v2) (f19 v1 v2) := by
  unfold f19n f19
  repeat' (first | exact Le.refl _ | apply f43_le | apply f54_le | apply Le.cond | apply Le.ite | apply Le.iter | apply Le.bind | (intro y; cases y <;> dsimp only) | intro y)
def f47n (N : Nat) (v1 : List T62) (v2 : T35) : Option Int :=
  cond (v2.f1 == ([] : List UInt8)) (some (1 : Int)) ((f45n N v1 v2.f1).bind fun v3 => (f54n N v1 v3).bind fun v4 => some v4)
theorem f47_le (N : Nat) (v1 : List T62) (v2 : T35) : Le (f47n N v1 v2) (f47 v1 v2) := by
  unfold f47n f47
  repeat' (first | exact Le.refl _ | apply f45_le | apply f54_le | apply Le.cond | apply Le.ite | apply Le.iter | apply Le.bind | (intro y; cases y <;> dsimp only) | intro y)
def f44_b1n (N : Nat) (v1 : List T62) (v3 : List UInt8) (v4 : (List T35)) (v5 : Int) (v6 : Int) : Option ((Int × Int) ⊕ Out (Int × T35 × Bool) Unit) :=
  cond (decide (v6 < (v4.length : Int))) (if (0 : Int) ≤ v6 ∧ v6 < (v4.length : Int) then cond (((v4.getD v6.toNat default).f0) == v3) (some (.inr (.ret (v5, v4.getD v6.toNat default, true)))) ((f46n N (v4.getD v6.toNat default)).bind fun v7 => (f47n N v1 (v4.getD v6.toNat default)).bind fun v8 => some (.inl (w64 (v5 + (w64 (v7 * v8))), w64 (v6 + (1 : Int))))) else none) (some (.inr (.go ())))
theorem f44_b1_le (N : Nat) (v1 : List T62) (v3 : List UInt8) (v4 : (List T35)) (v5 : Int) (v6 : Int) : Le (f44_b1n N v1 v3 v4 v5 v6) (f44_b1 v1 v3 v4 v5 v6) := by
  unfold f44_b1n f44_b1
  repeat' (first | exact Le.refl _ | apply f46_le | apply f47_le | apply Le.cond | apply Le.ite | apply Le.iter | apply Le.bind | (intro y; cases y <;> dsimp only) | intro y)
def f44n (N : Nat) (v1 : List T62) (v2 : Int) (v3 : List UInt8) : Option (Int × T35 × Bool) :=
  (f53n N v1 v2).bind fun v4 => (itN N (fun s => f44_b1n N v1 v3 v4 s.1 s.2) ((0 : Int), (0 : Int))).bind fun y => match y with | .ret v9 => some (v9.1, v9.2.1, v9.2.2) | .go _ => some ((0 : Int), T35.mk ([] : List UInt8) ([] : List UInt8) (0 : Int), false)
theorem f44_le (N : Nat) (v1 : List T62) (v2 : Int) (v3 : List UInt8) : Le (f44n N v1 v2 v3) (f44 v1 v2 v3) := by
  unfold f44n f44
  repeat' (first | exact Le.refl _ | apply f53_le | apply f44_b1_le | apply Le.cond | apply Le.ite | apply Le.iter | apply Le.bind | (intro y; cases y <;> dsimp only) | intro y)
def f16_b1n (N : Nat) (v1 : List T62) (v3 : List T37) (v5 : Int) (v6 : List UInt8) (v7 : Int) : Option ((Int × (List UInt8) × Int) ⊕ Out (Int × (List UInt8) × Int) (Int × (List UInt8))) :=
  cond (decide (v7 < (v3.length : Int))) (if (0 : Int) ≤ v7 ∧ v7 < (v3.length : Int) then cond (v6 == ([] : List UInt8)) (some (.inr (.ret ((0 : Int), ([] : List UInt8), (5 : Int))))) ((f45n N v1 v6).bind fun v10 => (f44n N v1 v10 ((v3.getD v7.toNat default).f0)).bind fun v11 => cond (!v11.2.2) (some (.inr (.ret ((0 : Int), ([] : List UInt8), (5 : Int))))) ((cond (decide ((v3.getD v7.toNat default).f1 < (0 : Int))) (some true) ((f46n N v11.2.1).bind fun v13 => some (decide ((v3.getD v7.toNat default).f1 ≥ v13)))).bind fun v12 => cond v12 (some (.inr (.ret ((0 : Int), ([] : List UInt8), (2 : Int))))) ((f47n N v1 v11.2.1).bind fun v14 => some (.inl (w64 (v5 + (w64 (v11.1 + (w64 (((v3.getD v7.toNat default).f1) * v14))))), v11.2.1.f1, w64 (v7 + (1 : Int))))))) else none) (some (.inr (.go (v5, v6))))
theorem f16_b1_le (N : Nat) (v1 : List T62) (v3 : List T37) (v5 : Int) (v6 : List UInt8) (v7 : Int) : Le (f16_b1n N v1 v3 v5 v6 v7) (f16_b1 v1 v3 v5 v6 v7) := by
  unfold f16_b1n f16_b1
  repeat' (first | exact Le.refl _ | apply f45_le | apply f44_le | apply f46_le | apply f47_le | apply Le.cond | apply Le.ite | apply Le.iter | apply Le.bind | (intro y; cases y <;> dsimp only) | intro y)
def f16n (N : Nat) (v1 : List T62) (v2 : List UInt8) (v3 : List T37) : Option (Int × (List UInt8) × Int) :=
  (f43n N v1 v2).bind fun v4 => cond (v4.2 != (0 : Int)) (some ((0 : Int), ([] : List UInt8), v4.2)) ((itN N (fun s => f16_b1n N v1 v3 s.1 s.2.1 s.2.2) ((0 : Int), v2, (0 : Int))).bind fun y => match y with | .ret v15 => some (v15.1, v15.2.1, v15.2.2) | .go (v8, v9) => some (v8, v9, (0 : Int)))
theorem f16_le (N : Nat) (v1 : List T62) (v2 : List UInt8) (v3 : List T37) : Le (f16n N v1 v2 v3) (f16 v1 v2 v3) := by
  unfold f16n f16
  repeat' (first | exact Le.refl _ | apply f43_le | apply f16_b1_le | apply Le.cond | apply Le.ite | apply Le.iter | apply Le.bind | (intro y; cases y <;> dsimp only) | intro y)
def f13n (N : Nat)  : Option Bool :=
  (f19n N ([T62.mk ([97] : List UInt8) ([] : List UInt8) false ([T35.mk ([120] : List UInt8) ([] : List UInt8) (0 : Int)]) ([] : List T94) ([] : List UInt8), T62.mk ([98] : List UInt8) ([97] : List UInt8) false ([T35.mk ([121] : List UInt8) ([97] : List UInt8) (2 : Int)]) ([] : List T94) ([] : List UInt8)]) ([98] : List UInt8)).bind fun v1 => (f16n N ([T62.mk ([97] : List UInt8) ([] : List UInt8) false ([T35.mk ([120] : List UInt8) ([] : List UInt8) (0 : Int)]) ([] : List T94) ([] : List UInt8), T62.mk ([98] : List UInt8) ([97] : List UInt8) false ([T35.mk ([121] : List UInt8) ([97] : List UInt8) (2 : Int)]) ([] : List T94) ([] : List UInt8)]) ([98] : List UInt8) ([T37.mk ([120] : List UInt8) (0 : Int)])).bind fun v2 => (cond (v1.1 == (3 : Int)) (some (v1.2 == (0 : Int))) (some false)).bind fun v3 => (cond v3 (some (v2.1 == (0 : Int))) (some false)).bind fun v4 => (cond v4 (some (v2.2.2 == (0 : Int))) (some false)).bind fun v5 => some v5
theorem f13_le (N : Nat)  : Le (f13n N ) (f13 ) := by
  unfold f13n f13
  repeat' (first | exact Le.refl _ | apply f19_le | apply f16_le | apply Le.cond | apply Le.ite | apply Le.iter | apply Le.bind | (intro y; cases y <;> dsimp only) | intro y)
end Go.Sx.der
