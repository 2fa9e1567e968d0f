/- The functions with so many rounds a loop; no condition. -/
import Derived.Test.YtlfaghcnnlifmaaGreatGx6
import Derived.Test.YtlfaghcnnlifmaaGreatSxD
namespace Go.Sx.top
open Go Go.Sx Go.Proofs
set_option linter.unusedVariables false

def f59n (N:Nat) :Option (List (List UInt8)) :=
 some ([([97,98,115]:List UInt8),([97,108,108]:List UInt8),([97,110,121]:List UInt8),([99,111,117,110,116]:List UInt8),([99,115,104,105,102,116]:List UInt8),([100,98,108,101]:List UInt8),([105,110,116]:List UInt8),([109,97,116,109,117,108]:List UInt8),([109,97,120]:List UInt8),([109,97,120,108,111,99]:List UInt8),([109,97,120,118,97,108]:List UInt8),([109,101,114,103,101]:List UInt8),([109,105,110]:List UInt8),([109,105,110,108,111,99]:List UInt8),([109,105,110,118,97,108]:List UInt8),([109,111,100]:List UInt8),([112,97,99,107]:List UInt8),([112,114,111,100,117,99,116]:List UInt8),([114,101,97,108]:List UInt8),([114,101,115,104,97,112,101]:List UInt8),([115,104,97,112,101]:List UInt8),([115,105,122,101]:List UInt8),([115,112,114,101,97,100]:List UInt8),([115,113,114,116]:List UInt8),([115,117,109]:List UInt8),([116,114,97,110,115,112,111,115,101]:List UInt8)])
theorem f59_le (N:Nat) :Le (f59n N ) (f59 ):=by
 unfold f59n f59
 repeat' (first | exact Le.refl _ | apply Le.cond | apply Le.ite | apply Le.iter | apply Le.bind | (intro y; cases y <;> dsimp only) | intro y)
def f90_b1n (N:Nat) (v1:List (List UInt8)) (v2:List UInt8) (v3:Int):Option (Int ⊕ Out Int Unit) :=
 cond (decide (v3 < (v1.length:Int))) (if (0:Int) ≤ v3 ∧ v3 < (v1.length:Int) then cond (v2 == (v1.getD v3.toNat default)) (some (.inr (.ret v3))) (some (.inl (w64 (v3 + (1:Int))))) else none) (some (.inr (.go ())))
theorem f90_b1_le (N:Nat) (v1:List (List UInt8)) (v2:List UInt8) (v3:Int):Le (f90_b1n N v1 v2 v3) (f90_b1 v1 v2 v3):=by
 unfold f90_b1n f90_b1
 repeat' (first | exact Le.refl _ | apply Le.cond | apply Le.ite | apply Le.iter | apply Le.bind | (intro y; cases y <;> dsimp only) | intro y)
def f90n (N:Nat) (v1:List (List UInt8)) (v2:List UInt8):Option Int :=
 (itN N (fun s=>f90_b1n N v1 v2 s) (0:Int)).bind fun y=>match y with | .ret v4=>some v4 | .go _=>some (-1:Int)
theorem f90_le (N:Nat) (v1:List (List UInt8)) (v2:List UInt8):Le (f90n N v1 v2) (f90 v1 v2):=by
 unfold f90n f90
 repeat' (first | exact Le.refl _ | apply f90_b1_le | apply Le.cond | apply Le.ite | apply Le.iter | apply Le.bind | (intro y; cases y <;> dsimp only) | intro y)
def f58n (N:Nat) (v1:List (List UInt8)) (v2:List UInt8):Option Bool :=
 (f90n N v1 v2).bind fun v3=>some (decide (v3 ≥ (0:Int)))
theorem f58_le (N:Nat) (v1:List (List UInt8)) (v2:List UInt8):Le (f58n N v1 v2) (f58 v1 v2):=by
 unfold f58n f58
 repeat' (first | exact Le.refl _ | apply f90_le | apply Le.cond | apply Le.ite | apply Le.iter | apply Le.bind | (intro y; cases y <;> dsimp only) | intro y)
def f35_j1n (N:Nat) (v1:List UInt8) (v2:Bool):Option (Int × Int) :=
 cond v2 (some ((2:Int),(2:Int))) (cond (v1 == ([109,101,114,103,101]:List UInt8)) (some ((3:Int),(3:Int))) ((f59n N ).bind fun v3=>(f58n N v3 v1).bind fun v4=>cond v4 (some ((1:Int),(1:Int))) (some ((0:Int),(0:Int)))))
theorem f35_j1_le (N:Nat) (v1:List UInt8) (v2:Bool):Le (f35_j1n N v1 v2) (f35_j1 v1 v2):=by
 unfold f35_j1n f35_j1
 repeat' (first | exact Le.refl _ | apply f59_le | apply f58_le | apply Le.cond | apply Le.ite | apply Le.iter | apply Le.bind | (intro y; cases y <;> dsimp only) | intro y)
def f35n (N:Nat) (v1:List UInt8):Option (Int × Int) :=
 cond (v1 == ([109,97,120]:List UInt8)) (f35_j1n N v1 (v1 == ([109,97,120]:List UInt8))) (cond (v1 == ([109,105,110]:List UInt8)) (f35_j1n N v1 (v1 == ([109,105,110]:List UInt8))) (cond (v1 == ([109,111,100]:List UInt8)) (f35_j1n N v1 (v1 == ([109,111,100]:List UInt8))) (cond (v1 == ([99,115,104,105,102,116]:List UInt8)) (f35_j1n N v1 (v1 == ([99,115,104,105,102,116]:List UInt8))) (cond (v1 == ([109,97,116,109,117,108]:List UInt8)) (f35_j1n N v1 (v1 == ([109,97,116,109,117,108]:List UInt8))) (cond (v1 == ([112,97,99,107]:List UInt8)) (f35_j1n N v1 (v1 == ([112,97,99,107]:List UInt8))) (cond (v1 == ([114,101,115,104,97,112,101]:List UInt8)) (f35_j1n N v1 (v1 == ([114,101,115,104,97,112,101]:List UInt8))) (f35_j1n N v1 (v1 == ([115,112,114,101,97,100]:List UInt8)))))))))
theorem f35_le (N:Nat) (v1:List UInt8):Le (f35n N v1) (f35 v1):=by
 unfold f35n f35
 repeat' (first | exact Le.refl _ | apply f35_j1_le | apply Le.cond | apply Le.ite | apply Le.iter | apply Le.bind | (intro y; cases y <;> dsimp only) | intro y)
def f143n (N:Nat) (v1:Int):Option Bool :=
 (cond (decide (v1 < (0:Int))) (some true) (some (decide (v1 > (4000:Int))))).bind fun v2=>some v2
theorem f143_le (N:Nat) (v1:Int):Le (f143n N v1) (f143 v1):=by
 unfold f143n f143
 repeat' (first | exact Le.refl _ | apply Le.cond | apply Le.ite | apply Le.iter | apply Le.bind | (intro y; cases y <;> dsimp only) | intro y)
def f87_143_b1n (N:Nat) (v1:List Int) (v2:Int):Option (Int ⊕ Out Int Unit) :=
 cond (decide (v2 < (v1.length:Int))) (if (0:Int) ≤ v2 ∧ v2 < (v1.length:Int) then (f143n N (v1.getD v2.toNat default)).bind fun v3=>cond v3 (some (.inr (.ret v2))) (some (.inl (w64 (v2 + (1:Int))))) else none) (some (.inr (.go ())))
theorem f87_143_b1_le (N:Nat) (v1:List Int) (v2:Int):Le (f87_143_b1n N v1 v2) (f87_143_b1 v1 v2):=by
 unfold f87_143_b1n f87_143_b1
 repeat' (first | exact Le.refl _ | apply f143_le | apply Le.cond | apply Le.ite | apply Le.iter | apply Le.bind | (intro y; cases y <;> dsimp only) | intro y)
def f87_143n (N:Nat) (v1:List Int):Option Int :=
 (itN N (fun s=>f87_143_b1n N v1 s) (0:Int)).bind fun y=>match y with | .ret v4=>some v4 | .go _=>some (-1:Int)
theorem f87_143_le (N:Nat) (v1:List Int):Le (f87_143n N v1) (f87_143 v1):=by
 unfold f87_143n f87_143
 repeat' (first | exact Le.refl _ | apply f87_143_b1_le | apply Le.cond | apply Le.ite | apply Le.iter | apply Le.bind | (intro y; cases y <;> dsimp only) | intro y)
def f49_143n (N:Nat) (v1:List Int):Option Bool :=
 (f87_143n N v1).bind fun v2=>some (decide (v2 ≥ (0:Int)))
theorem f49_143_le (N:Nat) (v1:List Int):Le (f49_143n N v1) (f49_143 v1):=by
 unfold f49_143n f49_143
 repeat' (first | exact Le.refl _ | apply f87_143_le | apply Le.cond | apply Le.ite | apply Le.iter | apply Le.bind | (intro y; cases y <;> dsimp only) | intro y)
def f116_b1n (N:Nat) (v1:List Int) (v4:Int) (v5:Int):Option ((Int × Int) ⊕ Out Int Int) :=
 cond (decide (v5 < (v1.length:Int))) (if (0:Int) ≤ v5 ∧ v5 < (v1.length:Int) then some (.inl (w64 (v4 * (v1.getD v5.toNat default)),w64 (v5 + (1:Int)))) else none) (some (.inr (.go v4)))
theorem f116_b1_le (N:Nat) (v1:List Int) (v4:Int) (v5:Int):Le (f116_b1n N v1 v4 v5) (f116_b1 v1 v4 v5):=by
 unfold f116_b1n f116_b1
 repeat' (first | exact Le.refl _ | apply Le.cond | apply Le.ite | apply Le.iter | apply Le.bind | (intro y; cases y <;> dsimp only) | intro y)
def f116n (N:Nat) (v1:List Int):Option Int :=
 (cond (decide ((v1.length:Int) > (3:Int))) (some true) ((f49_143n N v1).bind fun v3=>some v3)).bind fun v2=>cond v2 (some (-1:Int)) ((itN N (fun s=>f116_b1n N v1 s.1 s.2) ((1:Int),(0:Int))).bind fun y=>match y with | .ret v7=>some v7 | .go v6=>cond (decide (v6 > (4000:Int))) (some (-1:Int)) (some v6))
theorem f116_le (N:Nat) (v1:List Int):Le (f116n N v1) (f116 v1):=by
 unfold f116n f116
 repeat' (first | exact Le.refl _ | apply f49_143_le | apply f116_b1_le | apply Le.cond | apply Le.ite | apply Le.iter | apply Le.bind | (intro y; cases y <;> dsimp only) | intro y)
def f20n (N:Nat) (v1:List Int):Option (List Int) :=
 if (([]:List Int).length + v1.length) * 8 ≤ 140737488355328 then some (([]:List Int) ++ v1) else none
theorem f20_le (N:Nat) (v1:List Int):Le (f20n N v1) (f20 v1):=by
 unfold f20n f20
 repeat' (first | exact Le.refl _ | apply Le.cond | apply Le.ite | apply Le.iter | apply Le.bind | (intro y; cases y <;> dsimp only) | intro y)
def f91_b1n (N:Nat) (v1:List Int) (v4:Int) (v5:Int) (v6:List Int):Option ((Int × Int × (List Int)) ⊕ Out (T148 × Int) (List Int)) :=
 cond (decide (v5 < (v1.length:Int))) (if (0:Int) ≤ v5 ∧ v5 < (v1.length:Int) then if (v6.length + [v4].length) * 8 ≤ 140737488355328 then some (.inl (w64 (v4 * (v1.getD v5.toNat default)),w64 (v5 + (1:Int)),v6 ++ [v4])) else none else none) (some (.inr (.go v6)))
theorem f91_b1_le (N:Nat) (v1:List Int) (v4:Int) (v5:Int) (v6:List Int):Le (f91_b1n N v1 v4 v5 v6) (f91_b1 v1 v4 v5 v6):=by
 unfold f91_b1n f91_b1
 repeat' (first | exact Le.refl _ | apply Le.cond | apply Le.ite | apply Le.iter | apply Le.bind | (intro y; cases y <;> dsimp only) | intro y)
def f91n (N:Nat) (v1:List Int):Option (T148 × Int) :=
 (f116n N v1).bind fun v2=>cond (decide (v2 < (0:Int))) (some (T148.mk (0:Int) ([]:List Int) ([]:List Int),(2:Int))) ((f20n N v1).bind fun v3=>(itN N (fun s=>f91_b1n N v1 s.1 s.2.1 s.2.2) ((1:Int),(0:Int),[])).bind fun y=>match y with | .ret v8=>some (v8.1,v8.2) | .go v7=>some (T148.mk (0:Int) v3 v7,(0:Int)))
theorem f91_le (N:Nat) (v1:List Int):Le (f91n N v1) (f91 v1):=by
 unfold f91n f91
 repeat' (first | exact Le.refl _ | apply f116_le | apply f20_le | apply f91_b1_le | apply Le.cond | apply Le.ite | apply Le.iter | apply Le.bind | (intro y; cases y <;> dsimp only) | intro y)
def f145n (N:Nat) (v1:Int):Option Bool :=
 (cond (decide (v1 ≥ (-2147483648:Int))) (some (decide (v1 ≤ (2147483648:Int)))) (some false)).bind fun v2=>some v2
theorem f145_le (N:Nat) (v1:Int):Le (f145n N v1) (f145 v1):=by
 unfold f145n f145
 repeat' (first | exact Le.refl _ | apply Le.cond | apply Le.ite | apply Le.iter | apply Le.bind | (intro y; cases y <;> dsimp only) | intro y)
def f144n (N:Nat) (v1:Int):Option Bool :=
 (f145n N v1).bind fun v2=>some (!v2)
theorem f144_le (N:Nat) (v1:Int):Le (f144n N v1) (f144 v1):=by
 unfold f144n f144
 repeat' (first | exact Le.refl _ | apply f145_le | apply Le.cond | apply Le.ite | apply Le.iter | apply Le.bind | (intro y; cases y <;> dsimp only) | intro y)
def f87_144_b1n (N:Nat) (v1:List Int) (v2:Int):Option (Int ⊕ Out Int Unit) :=
 cond (decide (v2 < (v1.length:Int))) (if (0:Int) ≤ v2 ∧ v2 < (v1.length:Int) then (f144n N (v1.getD v2.toNat default)).bind fun v3=>cond v3 (some (.inr (.ret v2))) (some (.inl (w64 (v2 + (1:Int))))) else none) (some (.inr (.go ())))
theorem f87_144_b1_le (N:Nat) (v1:List Int) (v2:Int):Le (f87_144_b1n N v1 v2) (f87_144_b1 v1 v2):=by
 unfold f87_144_b1n f87_144_b1
 repeat' (first | exact Le.refl _ | apply f144_le | apply Le.cond | apply Le.ite | apply Le.iter | apply Le.bind | (intro y; cases y <;> dsimp only) | intro y)
def f87_144n (N:Nat) (v1:List Int):Option Int :=
 (itN N (fun s=>f87_144_b1n N v1 s) (0:Int)).bind fun y=>match y with | .ret v4=>some v4 | .go _=>some (-1:Int)
theorem f87_144_le (N:Nat) (v1:List Int):Le (f87_144n N v1) (f87_144 v1):=by
 unfold f87_144n f87_144
 repeat' (first | exact Le.refl _ | apply f87_144_b1_le | apply Le.cond | apply Le.ite | apply Le.iter | apply Le.bind | (intro y; cases y <;> dsimp only) | intro y)
def f49_144n (N:Nat) (v1:List Int):Option Bool :=
 (f87_144n N v1).bind fun v2=>some (decide (v2 ≥ (0:Int)))
theorem f49_144_le (N:Nat) (v1:List Int):Le (f49_144n N v1) (f49_144 v1):=by
 unfold f49_144n f49_144
 repeat' (first | exact Le.refl _ | apply f87_144_le | apply Le.cond | apply Le.ite | apply Le.iter | apply Le.bind | (intro y; cases y <;> dsimp only) | intro y)
def f146_b1n (N:Nat) (v1:T148) (v2:Int) (v3:Int) (v4:Int):Option ((Int × Int × Int) ⊕ Out (Int × Int) (Int × Int)) :=
 cond (decide (v4 < (v1.f2.length:Int))) (if (0:Int) ≤ v4 ∧ v4 < (v1.f2.length:Int) then if (0:Int) ≤ v4 ∧ v4 < (v1.f1.length:Int) then some (.inl (w64 (v2 + (if (0:Int) < w64 ((v1.f2.getD v4.toNat default) * (w64 ((v1.f1.getD v4.toNat default) - (1:Int)))) then (0:Int) else w64 ((v1.f2.getD v4.toNat default) * (w64 ((v1.f1.getD v4.toNat default) - (1:Int)))))),w64 (v3 + (if (0:Int) > w64 ((v1.f2.getD v4.toNat default) * (w64 ((v1.f1.getD v4.toNat default) - (1:Int)))) then (0:Int) else w64 ((v1.f2.getD v4.toNat default) * (w64 ((v1.f1.getD v4.toNat default) - (1:Int)))))),w64 (v4 + (1:Int)))) else none else none) (some (.inr (.go (v2,v3))))
theorem f146_b1_le (N:Nat) (v1:T148) (v2:Int) (v3:Int) (v4:Int):Le (f146_b1n N v1 v2 v3 v4) (f146_b1 v1 v2 v3 v4):=by
 unfold f146_b1n f146_b1
 repeat' (first | exact Le.refl _ | apply Le.cond | apply Le.ite | apply Le.iter | apply Le.bind | (intro y; cases y <;> dsimp only) | intro y)
def f146n (N:Nat) (v1:T148):Option (Int × Int) :=
 (itN N (fun s=>f146_b1n N v1 s.1 s.2.1 s.2.2) (v1.f0,v1.f0,(0:Int))).bind fun y=>match y with | .ret v7=>some (v7.1,v7.2) | .go (v5,v6)=>some (v5,v6)
theorem f146_le (N:Nat) (v1:T148):Le (f146n N v1) (f146 v1):=by
 unfold f146n f146
 repeat' (first | exact Le.refl _ | apply f146_b1_le | apply Le.cond | apply Le.ite | apply Le.iter | apply Le.bind | (intro y; cases y <;> dsimp only) | intro y)
def f117n (N:Nat) (v1:T148):Option Bool :=
 (f116n N v1.f1).bind fun v2=>(cond (decide (v2 < (0:Int))) (some true) (some ((v1.f2.length:Int) != (v1.f1.length:Int)))).bind fun v3=>(cond v3 (some true) (some (decide (v1.f0 < (0:Int))))).bind fun v4=>(cond v4 (some true) ((f49_144n N v1.f2).bind fun v6=>some v6)).bind fun v5=>cond v5 (some false) (cond (v2 == (0:Int)) (some true) (cond (decide (v1.f0 > (2147483648:Int))) (some false) ((f146n N v1).bind fun v7=>(cond (decide (v7.1 ≥ (0:Int))) (some (decide (v7.2 ≤ (2147483648:Int)))) (some false)).bind fun v8=>some v8)))
theorem f117_le (N:Nat) (v1:T148):Le (f117n N v1) (f117 v1):=by
 unfold f117n f117
 repeat' (first | exact Le.refl _ | apply f116_le | apply f49_144_le | apply f146_le | apply Le.cond | apply Le.ite | apply Le.iter | apply Le.bind | (intro y; cases y <;> dsimp only) | intro y)
def f92n (N:Nat) (v1:T148):Option (Int × Int) :=
 (f117n N v1).bind fun v2=>cond (!v2) (some ((0:Int),(2:Int))) ((f116n N v1.f1).bind fun v3=>some (v3,(0:Int)))
theorem f92_le (N:Nat) (v1:T148):Le (f92n N v1) (f92 v1):=by
 unfold f92n f92
 repeat' (first | exact Le.refl _ | apply f117_le | apply f116_le | apply Le.cond | apply Le.ite | apply Le.iter | apply Le.bind | (intro y; cases y <;> dsimp only) | intro y)
def f61n (N:Nat) (v1:List Int):Option Int :=
 (f91n N v1).bind fun v2=>cond (v2.2 != (0:Int)) (some (-1:Int)) ((f92n N v2.1).bind fun v3=>some v3.1)
theorem f61_le (N:Nat) (v1:List Int):Le (f61n N v1) (f61 v1):=by
 unfold f61n f61
 repeat' (first | exact Le.refl _ | apply f91_le | apply f92_le | apply Le.cond | apply Le.ite | apply Le.iter | apply Le.bind | (intro y; cases y <;> dsimp only) | intro y)
def f94n (N:Nat) (v1:Int):Option Int :=
 cond (v1 == (3:Int)) (some (4:Int)) (cond (v1 == (4:Int)) (some (8:Int)) (some (0:Int)))
theorem f94_le (N:Nat) (v1:Int):Le (f94n N v1) (f94 v1):=by
 unfold f94n f94
 repeat' (first | exact Le.refl _ | apply Le.cond | apply Le.ite | apply Le.iter | apply Le.bind | (intro y; cases y <;> dsimp only) | intro y)
def f63_j1n (N:Nat) (v5:Bool):Option Bool :=
 cond v5 none (some false)
theorem f63_j1_le (N:Nat) (v5:Bool):Le (f63_j1n N v5) (f63_j1 v5):=by
 unfold f63_j1n f63_j1
 repeat' (first | exact Le.refl _ | apply Le.cond | apply Le.ite | apply Le.iter | apply Le.bind | (intro y; cases y <;> dsimp only) | intro y)
def f63n (N:Nat) (v1:Int) (v2:Int):Option Bool :=
 cond (v1 == (1:Int)) ((cond (decide (v2 ≥ (-2147483647:Int))) (some (decide (v2 ≤ (2147483647:Int)))) (some false)).bind fun v3=>some v3) (cond (v1 == (2:Int)) ((cond (v2 == (0:Int)) (some true) (some (v2 == (1:Int)))).bind fun v4=>some v4) (cond (v1 == (3:Int)) (f63_j1n N (v1 == (3:Int))) (f63_j1n N (v1 == (4:Int)))))
theorem f63_le (N:Nat) (v1:Int) (v2:Int):Le (f63n N v1 v2) (f63 v1 v2):=by
 unfold f63n f63
 repeat' (first | exact Le.refl _ | apply f63_j1_le | apply Le.cond | apply Le.ite | apply Le.iter | apply Le.bind | (intro y; cases y <;> dsimp only) | intro y)
def f62n (N:Nat) (v1:Int) (v2:T59):Option Bool :=
 (f63n N v2.f0 v1).bind fun v3=>some (!v3)
theorem f62_le (N:Nat) (v1:Int) (v2:T59):Le (f62n N v1 v2) (f62 v1 v2):=by
 unfold f62n f62
 repeat' (first | exact Le.refl _ | apply f63_le | apply Le.cond | apply Le.ite | apply Le.iter | apply Le.bind | (intro y; cases y <;> dsimp only) | intro y)
def f87_62_b1n (N:Nat) (v1:List Int) (v2:T59) (v3:Int):Option (Int ⊕ Out Int Unit) :=
 cond (decide (v3 < (v1.length:Int))) (if (0:Int) ≤ v3 ∧ v3 < (v1.length:Int) then (f62n N (v1.getD v3.toNat default) v2).bind fun v4=>cond v4 (some (.inr (.ret v3))) (some (.inl (w64 (v3 + (1:Int))))) else none) (some (.inr (.go ())))
theorem f87_62_b1_le (N:Nat) (v1:List Int) (v2:T59) (v3:Int):Le (f87_62_b1n N v1 v2 v3) (f87_62_b1 v1 v2 v3):=by
 unfold f87_62_b1n f87_62_b1
 repeat' (first | exact Le.refl _ | apply f62_le | apply Le.cond | apply Le.ite | apply Le.iter | apply Le.bind | (intro y; cases y <;> dsimp only) | intro y)
def f87_62n (N:Nat) (v1:List Int) (v2:T59):Option Int :=
 (itN N (fun s=>f87_62_b1n N v1 v2 s) (0:Int)).bind fun y=>match y with | .ret v5=>some v5 | .go _=>some (-1:Int)
theorem f87_62_le (N:Nat) (v1:List Int) (v2:T59):Le (f87_62n N v1 v2) (f87_62 v1 v2):=by
 unfold f87_62n f87_62
 repeat' (first | exact Le.refl _ | apply f87_62_b1_le | apply Le.cond | apply Le.ite | apply Le.iter | apply Le.bind | (intro y; cases y <;> dsimp only) | intro y)
def f49_62n (N:Nat) (v1:List Int) (v2:T59):Option Bool :=
 (f87_62n N v1 v2).bind fun v3=>some (decide (v3 ≥ (0:Int)))
theorem f49_62_le (N:Nat) (v1:List Int) (v2:T59):Le (f49_62n N v1 v2) (f49_62 v1 v2):=by
 unfold f49_62n f49_62
 repeat' (first | exact Le.refl _ | apply f87_62_le | apply Le.cond | apply Le.ite | apply Le.iter | apply Le.bind | (intro y; cases y <;> dsimp only) | intro y)
def f38n (N:Nat) (v1:T59):Option Bool :=
 (cond (decide (v1.f0 ≥ (1:Int))) (cond (decide (v1.f0 ≤ (4:Int))) ((f61n N v1.f1).bind fun v3=>cond (v3 == (v1.f2.length:Int)) ((f49_62n N v1.f2 v1).bind fun v4=>some (!v4)) (some false)) (some false)) (some false)).bind fun v2=>some v2
theorem f38_le (N:Nat) (v1:T59):Le (f38n N v1) (f38 v1):=by
 unfold f38n f38
 repeat' (first | exact Le.refl _ | apply f61_le | apply f49_62_le | apply Le.cond | apply Le.ite | apply Le.iter | apply Le.bind | (intro y; cases y <;> dsimp only) | intro y)
def f37n (N:Nat) (v1:T59):Option Bool :=
 (f38n N v1).bind fun v2=>some (!v2)
theorem f37_le (N:Nat) (v1:T59):Le (f37n N v1) (f37 v1):=by
 unfold f37n f37
 repeat' (first | exact Le.refl _ | apply f38_le | apply Le.cond | apply Le.ite | apply Le.iter | apply Le.bind | (intro y; cases y <;> dsimp only) | intro y)
def f60_37_b1n (N:Nat) (v1:List T59) (v2:Int):Option (Int ⊕ Out Int Unit) :=
 cond (decide (v2 < (v1.length:Int))) (if (0:Int) ≤ v2 ∧ v2 < (v1.length:Int) then (f37n N (v1.getD v2.toNat default)).bind fun v3=>cond v3 (some (.inr (.ret v2))) (some (.inl (w64 (v2 + (1:Int))))) else none) (some (.inr (.go ())))
theorem f60_37_b1_le (N:Nat) (v1:List T59) (v2:Int):Le (f60_37_b1n N v1 v2) (f60_37_b1 v1 v2):=by
 unfold f60_37_b1n f60_37_b1
 repeat' (first | exact Le.refl _ | apply f37_le | apply Le.cond | apply Le.ite | apply Le.iter | apply Le.bind | (intro y; cases y <;> dsimp only) | intro y)
def f60_37n (N:Nat) (v1:List T59):Option Int :=
 (itN N (fun s=>f60_37_b1n N v1 s) (0:Int)).bind fun y=>match y with | .ret v4=>some v4 | .go _=>some (-1:Int)
theorem f60_37_le (N:Nat) (v1:List T59):Le (f60_37n N v1) (f60_37 v1):=by
 unfold f60_37n f60_37
 repeat' (first | exact Le.refl _ | apply f60_37_b1_le | apply Le.cond | apply Le.ite | apply Le.iter | apply Le.bind | (intro y; cases y <;> dsimp only) | intro y)
def f36_37n (N:Nat) (v1:List T59):Option Bool :=
 (f60_37n N v1).bind fun v2=>some (decide (v2 ≥ (0:Int)))
theorem f36_37_le (N:Nat) (v1:List T59):Le (f36_37n N v1) (f36_37 v1):=by
 unfold f36_37n f36_37
 repeat' (first | exact Le.refl _ | apply f60_37_le | apply Le.cond | apply Le.ite | apply Le.iter | apply Le.bind | (intro y; cases y <;> dsimp only) | intro y)
def f70n (N:Nat) (v1:Int):Option Bool :=
 (cond (v1 == (1:Int)) (some true) ((f94n N v1).bind fun v3=>some (decide (v3 > (0:Int))))).bind fun v2=>some v2
theorem f70_le (N:Nat) (v1:Int):Le (f70n N v1) (f70 v1):=by
 unfold f70n f70
 repeat' (first | exact Le.refl _ | apply f94_le | apply Le.cond | apply Le.ite | apply Le.iter | apply Le.bind | (intro y; cases y <;> dsimp only) | intro y)
def f95n (N:Nat) (v1:List UInt8) (v2:Int) (v3:Int):Option Int :=
 (cond (v3 == (0:Int)) ((cond (v1 == ([43]:List UInt8)) (some true) (some (v1 == ([45]:List UInt8)))).bind fun v5=>some v5) (some false)).bind fun v4=>(cond v4 ((f70n N v2).bind fun v7=>some v7) (some false)).bind fun v6=>cond v6 (some v2) ((cond (v3 == (0:Int)) (some (v1 == ([46,110,111,116,46]:List UInt8))) (some false)).bind fun v8=>(cond v8 (some (v2 == (2:Int))) (some false)).bind fun v9=>cond v9 (some v2) (cond (v3 == (0:Int)) (some (0:Int)) ((f58n N ([([43]:List UInt8),([45]:List UInt8),([42]:List UInt8),([47]:List UInt8)]) v1).bind fun v10=>(cond v10 ((f70n N v2).bind fun v12=>some v12) (some false)).bind fun v11=>(cond v11 ((f70n N v3).bind fun v14=>some v14) (some false)).bind fun v13=>cond v13 (some (if v3 > v2 then v3 else v2)) ((f58n N ([([61,61]:List UInt8),([47,61]:List UInt8),([60]:List UInt8),([60,61]:List UInt8),([62]:List UInt8),([62,61]:List UInt8)]) v1).bind fun v15=>(cond v15 ((f70n N v2).bind fun v17=>some v17) (some false)).bind fun v16=>(cond v16 ((f70n N v3).bind fun v19=>some v19) (some false)).bind fun v18=>cond v18 (some (2:Int)) ((f58n N ([([61,61]:List UInt8),([47,61]:List UInt8),([46,97,110,100,46]:List UInt8),([46,111,114,46]:List UInt8)]) v1).bind fun v20=>(cond v20 (some (v2 == (2:Int))) (some false)).bind fun v21=>(cond v21 (some (v3 == (2:Int))) (some false)).bind fun v22=>cond v22 (some (2:Int)) (some (0:Int)))))))
theorem f95_le (N:Nat) (v1:List UInt8) (v2:Int) (v3:Int):Le (f95n N v1 v2 v3) (f95 v1 v2 v3):=by
 unfold f95n f95
 repeat' (first | exact Le.refl _ | apply f70_le | apply f58_le | apply Le.cond | apply Le.ite | apply Le.iter | apply Le.bind | (intro y; cases y <;> dsimp only) | intro y)
def f97n (N:Nat) (v1:Int) (v2:T128):Option (T128 × Int) :=
 cond (v1 == v2.f0) (some (v2,(0:Int))) ((f70n N v1).bind fun v3=>(cond (!v3) (some true) ((f70n N v2.f0).bind fun v5=>some (!v5))).bind fun v4=>cond v4 (some (T128.mk (0:Int) (0:Int),(70:Int))) (cond (v2.f0 == (1:Int)) none (cond (v1 == (1:Int)) none none)))
theorem f97_le (N:Nat) (v1:Int) (v2:T128):Le (f97n N v1 v2) (f97 v1 v2):=by
 unfold f97n f97
 repeat' (first | exact Le.refl _ | apply f70_le | apply Le.cond | apply Le.ite | apply Le.iter | apply Le.bind | (intro y; cases y <;> dsimp only) | intro y)
def f101n (N:Nat) (v1:Int) (v2:Int):Option T128 :=
 (f97n N v1 (T128.mk (1:Int) v2)).bind fun v3=>some v3.1
theorem f101_le (N:Nat) (v1:Int) (v2:Int):Le (f101n N v1 v2) (f101 v1 v2):=by
 unfold f101n f101
 repeat' (first | exact Le.refl _ | apply f97_le | apply Le.cond | apply Le.ite | apply Le.iter | apply Le.bind | (intro y; cases y <;> dsimp only) | intro y)
def f71n (N:Nat) (v1:T59):Option Bool :=
 some ((v1.f1.length:Int) == (0:Int))
theorem f71_le (N:Nat) (v1:T59):Le (f71n N v1) (f71 v1):=by
 unfold f71n f71
 repeat' (first | exact Le.refl _ | apply Le.cond | apply Le.ite | apply Le.iter | apply Le.bind | (intro y; cases y <;> dsimp only) | intro y)
def f68_j1n (N:Nat) (v1:T59) (v3:Int):Option T128 :=
 if (0:Int) ≤ v3 ∧ v3 < (v1.f2.length:Int) then some (T128.mk v1.f0 (v1.f2.getD v3.toNat default)) else none
theorem f68_j1_le (N:Nat) (v1:T59) (v3:Int):Le (f68_j1n N v1 v3) (f68_j1 v1 v3):=by
 unfold f68_j1n f68_j1
 repeat' (first | exact Le.refl _ | apply Le.cond | apply Le.ite | apply Le.iter | apply Le.bind | (intro y; cases y <;> dsimp only) | intro y)
def f68n (N:Nat) (v1:T59) (v2:Int):Option T128 :=
 (f71n N v1).bind fun v4=>cond v4 (f68_j1n N v1 (0:Int)) (f68_j1n N v1 v2)
theorem f68_le (N:Nat) (v1:T59) (v2:Int):Le (f68n N v1 v2) (f68 v1 v2):=by
 unfold f68n f68
 repeat' (first | exact Le.refl _ | apply f71_le | apply f68_j1_le | apply Le.cond | apply Le.ite | apply Le.iter | apply Le.bind | (intro y; cases y <;> dsimp only) | intro y)
def f75n (N:Nat) (v1:Bool):Option T128 :=
 cond v1 (some (T128.mk (2:Int) (1:Int))) (some (T128.mk (2:Int) (0:Int)))
theorem f75_le (N:Nat) (v1:Bool):Le (f75n N v1) (f75 v1):=by
 unfold f75n f75
 repeat' (first | exact Le.refl _ | apply Le.cond | apply Le.ite | apply Le.iter | apply Le.bind | (intro y; cases y <;> dsimp only) | intro y)
def f160n (N:Nat) (v1:Int):Option (T128 × Int) :=
 (f63n N (1:Int) v1).bind fun v2=>cond (!v2) (some (T128.mk (0:Int) (0:Int),(10:Int))) (some (T128.mk (1:Int) v1,(0:Int)))
theorem f160_le (N:Nat) (v1:Int):Le (f160n N v1) (f160 v1):=by
 unfold f160n f160
 repeat' (first | exact Le.refl _ | apply f63_le | apply Le.cond | apply Le.ite | apply Le.iter | apply Le.bind | (intro y; cases y <;> dsimp only) | intro y)
def f132n (N:Nat) (v1:List UInt8) (v2:T128) (v3:T128):Option (T128 × Int) :=
 (f97n N (if v3.f0 > v2.f0 then v3.f0 else v2.f0) v2).bind fun v4=>(f97n N (if v3.f0 > v2.f0 then v3.f0 else v2.f0) v3).bind fun v5=>cond ((if v3.f0 > v2.f0 then v3.f0 else v2.f0) == (1:Int)) (cond (v1 == ([43]:List UInt8)) ((f160n N (w64 (v4.1.f1 + v5.1.f1))).bind fun v6=>some (v6.1,v6.2)) (cond (v1 == ([45]:List UInt8)) ((f160n N (w64 (v4.1.f1 - v5.1.f1))).bind fun v7=>some (v7.1,v7.2)) (cond (v1 == ([42]:List UInt8)) ((f160n N (w64 (v4.1.f1 * v5.1.f1))).bind fun v8=>some (v8.1,v8.2)) (cond (v5.1.f1 == (0:Int)) (some (T128.mk (0:Int) (0:Int),(90:Int))) (if v5.1.f1 ≠ (0:Int) then (f160n N (w64 (Int.tdiv v4.1.f1 v5.1.f1))).bind fun v9=>some (v9.1,v9.2) else none))))) none
theorem f132_le (N:Nat) (v1:List UInt8) (v2:T128) (v3:T128):Le (f132n N v1 v2 v3) (f132 v1 v2 v3):=by
 unfold f132n f132
 repeat' (first | exact Le.refl _ | apply f97_le | apply f160_le | apply Le.cond | apply Le.ite | apply Le.iter | apply Le.bind | (intro y; cases y <;> dsimp only) | intro y)
def f100n (N:Nat) (v1:T128) (v2:T128):Option Int :=
 (f97n N (if v2.f0 > v1.f0 then v2.f0 else v1.f0) v1).bind fun v3=>(f97n N (if v2.f0 > v1.f0 then v2.f0 else v1.f0) v2).bind fun v4=>cond ((if v2.f0 > v1.f0 then v2.f0 else v1.f0) == (1:Int)) (some (if (1:Int) < (if (-1:Int) > w64 (v3.1.f1 - v4.1.f1) then (-1:Int) else w64 (v3.1.f1 - v4.1.f1)) then (1:Int) else (if (-1:Int) > w64 (v3.1.f1 - v4.1.f1) then (-1:Int) else w64 (v3.1.f1 - v4.1.f1)))) none
theorem f100_le (N:Nat) (v1:T128) (v2:T128):Le (f100n N v1 v2) (f100 v1 v2):=by
 unfold f100n f100
 repeat' (first | exact Le.refl _ | apply f97_le | apply Le.cond | apply Le.ite | apply Le.iter | apply Le.bind | (intro y; cases y <;> dsimp only) | intro y)
def f133n (N:Nat) (v1:List UInt8) (v2:Int):Option Bool :=
 cond (v1 == ([61,61]:List UInt8)) (some (v2 == (0:Int))) (cond (v1 == ([47,61]:List UInt8)) (some (v2 != (0:Int))) (cond (v1 == ([60]:List UInt8)) (some (v2 == (-1:Int))) (cond (v1 == ([60,61]:List UInt8)) ((cond (v2 == (-1:Int)) (some true) (some (v2 == (0:Int)))).bind fun v3=>some v3) (cond (v1 == ([62]:List UInt8)) (some (v2 == (1:Int))) ((cond (v2 == (0:Int)) (some true) (some (v2 == (1:Int)))).bind fun v4=>some v4)))))
theorem f133_le (N:Nat) (v1:List UInt8) (v2:Int):Le (f133n N v1 v2) (f133 v1 v2):=by
 unfold f133n f133
 repeat' (first | exact Le.refl _ | apply Le.cond | apply Le.ite | apply Le.iter | apply Le.bind | (intro y; cases y <;> dsimp only) | intro y)
def f102_j1n (N:Nat) (v1:List UInt8) (v2:T128) (v3:T128) (v8:Bool):Option (T128 × Int) :=
 cond v8 ((f132n N v1 v2 v3).bind fun v9=>some (v9.1,v9.2)) (cond (v2.f0 == (2:Int)) ((f75n N ((v2.f1 == v3.f1) == (v1 == ([61,61]:List UInt8)))).bind fun v10=>some (v10,(0:Int))) ((f100n N v2 v3).bind fun v11=>(f133n N v1 v11).bind fun v12=>(f75n N v12).bind fun v13=>some (v13,(0:Int))))
theorem f102_j1_le (N:Nat) (v1:List UInt8) (v2:T128) (v3:T128) (v8:Bool):Le (f102_j1n N v1 v2 v3 v8) (f102_j1 v1 v2 v3 v8):=by
 unfold f102_j1n f102_j1
 repeat' (first | exact Le.refl _ | apply f132_le | apply f75_le | apply f100_le | apply f133_le | apply Le.cond | apply Le.ite | apply Le.iter | apply Le.bind | (intro y; cases y <;> dsimp only) | intro y)
def f102n (N:Nat) (v1:List UInt8) (v2:T128) (v3:T128):Option (T128 × Int) :=
 cond (v1 == ([46,97,110,100,46]:List UInt8)) ((cond (v2.f1 == (1:Int)) (some (v3.f1 == (1:Int))) (some false)).bind fun v4=>(f75n N v4).bind fun v5=>some (v5,(0:Int))) (cond (v1 == ([46,111,114,46]:List UInt8)) ((cond (v2.f1 == (1:Int)) (some true) (some (v3.f1 == (1:Int)))).bind fun v6=>(f75n N v6).bind fun v7=>some (v7,(0:Int))) (cond (v1 == ([43]:List UInt8)) (f102_j1n N v1 v2 v3 (v1 == ([43]:List UInt8))) (cond (v1 == ([45]:List UInt8)) (f102_j1n N v1 v2 v3 (v1 == ([45]:List UInt8))) (cond (v1 == ([42]:List UInt8)) (f102_j1n N v1 v2 v3 (v1 == ([42]:List UInt8))) (f102_j1n N v1 v2 v3 (v1 == ([47]:List UInt8)))))))
theorem f102_le (N:Nat) (v1:List UInt8) (v2:T128) (v3:T128):Le (f102n N v1 v2 v3) (f102 v1 v2 v3):=by
 unfold f102n f102
 repeat' (first | exact Le.refl _ | apply f75_le | apply f102_j1_le | apply Le.cond | apply Le.ite | apply Le.iter | apply Le.bind | (intro y; cases y <;> dsimp only) | intro y)
def f105_j1n (N:Nat) (v8:Int) (v16:Int) (v17:Int) (v18:Int):Option ((Int × Int × Int) ⊕ Out (T128 × Int) (Int × Int)) :=
 cond (v16 != (0:Int)) (some (.inr (.ret (T128.mk (0:Int) (0:Int),v16)))) (some (.inl (w64 (v8 + (1:Int)),v17,v18)))
theorem f105_j1_le (N:Nat) (v8:Int) (v16:Int) (v17:Int) (v18:Int):Le (f105_j1n N v8 v16 v17 v18) (f105_j1 v8 v16 v17 v18):=by
 unfold f105_j1n f105_j1
 repeat' (first | exact Le.refl _ | apply Le.cond | apply Le.ite | apply Le.iter | apply Le.bind | (intro y; cases y <;> dsimp only) | intro y)
def f105_b2n (N:Nat) (v1:Int) (v2:Int) (v4:Int) (v5:T59) (v6:T59) (v8:Int) (v9:Int) (v10:Int):Option ((Int × Int × Int) ⊕ Out (T128 × Int) (Int × Int)) :=
 cond (decide (v8 < v4)) ((f68n N v5 (w64 ((Int.tmod v1 v2) + (w64 (v8 * v2))))).bind fun v13=>(f68n N v6 (w64 (v8 + (w64 ((w64 (Int.tdiv v1 v2)) * v4))))).bind fun v14=>(f102n N ([42]:List UInt8) v13 v14).bind fun v15=>cond (v15.2 == (0:Int)) ((f102n N ([43]:List UInt8) (T128.mk v9 v10) v15.1).bind fun v19=>f105_j1n N v8 v19.2 v19.1.f0 v19.1.f1) (f105_j1n N v8 v15.2 v9 v10)) (some (.inr (.go (v9,v10))))
theorem f105_b2_le (N:Nat) (v1:Int) (v2:Int) (v4:Int) (v5:T59) (v6:T59) (v8:Int) (v9:Int) (v10:Int):Le (f105_b2n N v1 v2 v4 v5 v6 v8 v9 v10) (f105_b2 v1 v2 v4 v5 v6 v8 v9 v10):=by
 unfold f105_b2n f105_b2
 repeat' (first | exact Le.refl _ | apply f68_le | apply f102_le | apply f105_j1_le | apply Le.cond | apply Le.ite | apply Le.iter | apply Le.bind | (intro y; cases y <;> dsimp only) | intro y)
def f105n (N:Nat) (v1:Int) (v2:Int) (v3:Int) (v4:Int) (v5:T59) (v6:T59):Option (T128 × Int) :=
 if v2 ≠ (0:Int) ∧ v2 ≠ (0:Int) then (f101n N v3 (0:Int)).bind fun v7=>(itN N (fun s=>f105_b2n N v1 v2 v4 v5 v6 s.1 s.2.1 s.2.2) ((0:Int),v7.f0,v7.f1)).bind fun y=>match y with | .ret v20=>some (v20.1,v20.2) | .go (v11,v12)=>some (T128.mk v11 v12,(0:Int)) else none
theorem f105_le (N:Nat) (v1:Int) (v2:Int) (v3:Int) (v4:Int) (v5:T59) (v6:T59):Le (f105n N v1 v2 v3 v4 v5 v6) (f105 v1 v2 v3 v4 v5 v6):=by
 unfold f105n f105
 repeat' (first | exact Le.refl _ | apply f101_le | apply f105_b2_le | apply Le.cond | apply Le.ite | apply Le.iter | apply Le.bind | (intro y; cases y <;> dsimp only) | intro y)
def f66_105_b1n (N:Nat) (v3:Int) (v4:Int) (v5:Int) (v6:T59) (v7:T59) (v8:Int) (v9:Int) (v10:List Int):Option ((Int × (List Int)) ⊕ Out (T59 × Int) (List Int)) :=
 cond (decide (v9 < v8)) ((f105n N v9 v3 v4 v5 v6 v7).bind fun v12=>cond (v12.2 != (0:Int)) (some (.inr (.ret (T59.mk (0:Int) ([]:List Int) ([]:List Int),v12.2)))) (if (v10.length + [v12.1.f1].length) * 8 ≤ 140737488355328 then some (.inl (w64 (v9 + (1:Int)),v10 ++ [v12.1.f1])) else none)) (some (.inr (.go v10)))
theorem f66_105_b1_le (N:Nat) (v3:Int) (v4:Int) (v5:Int) (v6:T59) (v7:T59) (v8:Int) (v9:Int) (v10:List Int):Le (f66_105_b1n N v3 v4 v5 v6 v7 v8 v9 v10) (f66_105_b1 v3 v4 v5 v6 v7 v8 v9 v10):=by
 unfold f66_105_b1n f66_105_b1
 repeat' (first | exact Le.refl _ | apply f105_le | apply Le.cond | apply Le.ite | apply Le.iter | apply Le.bind | (intro y; cases y <;> dsimp only) | intro y)
def f66_105n (N:Nat) (v1:Int) (v2:List Int) (v3:Int) (v4:Int) (v5:Int) (v6:T59) (v7:T59):Option (T59 × Int) :=
 (f61n N v2).bind fun v8=>(itN N (fun s=>f66_105_b1n N v3 v4 v5 v6 v7 v8 s.1 s.2) ((0:Int),[])).bind fun y=>match y with | .ret v13=>some (v13.1,v13.2) | .go v11=>some (T59.mk v1 v2 v11,(0:Int))
theorem f66_105_le (N:Nat) (v1:Int) (v2:List Int) (v3:Int) (v4:Int) (v5:Int) (v6:T59) (v7:T59):Le (f66_105n N v1 v2 v3 v4 v5 v6 v7) (f66_105 v1 v2 v3 v4 v5 v6 v7):=by
 unfold f66_105n f66_105
 repeat' (first | exact Le.refl _ | apply f61_le | apply f66_105_b1_le | apply Le.cond | apply Le.ite | apply Le.iter | apply Le.bind | (intro y; cases y <;> dsimp only) | intro y)
def f78_j1n (N:Nat) (v1:T59) (v2:T59) (v3:Int) (v9:Int) (v10:List Int):Option (T59 × Int) :=
 (f61n N v10).bind fun v11=>cond (decide (v11 < (0:Int))) (some (T59.mk (0:Int) ([]:List Int) ([]:List Int),(30:Int))) ((f66_105n N v3 v10 v9 v3 (v2.f1.getD 0 default) v1 v2).bind fun v12=>some (v12.1,v12.2))
theorem f78_j1_le (N:Nat) (v1:T59) (v2:T59) (v3:Int) (v9:Int) (v10:List Int):Le (f78_j1n N v1 v2 v3 v9 v10) (f78_j1 v1 v2 v3 v9 v10):=by
 unfold f78_j1n f78_j1
 repeat' (first | exact Le.refl _ | apply f61_le | apply f66_105_le | apply Le.cond | apply Le.ite | apply Le.iter | apply Le.bind | (intro y; cases y <;> dsimp only) | intro y)
def f78_j2n (N:Nat) (v1:T59) (v2:T59) (v3:Int) (v8:List Int) (v9:Int):Option (T59 × Int) :=
 cond ((v2.f1.length:Int) == (2:Int)) (if (1:Int) < (v2.f1.length:Int) then if (v8.length + [v2.f1.getD 1 default].length) * 8 ≤ 140737488355328 then f78_j1n N v1 v2 v3 v9 (v8 ++ [v2.f1.getD 1 default]) else none else none) (f78_j1n N v1 v2 v3 v9 v8)
theorem f78_j2_le (N:Nat) (v1:T59) (v2:T59) (v3:Int) (v8:List Int) (v9:Int):Le (f78_j2n N v1 v2 v3 v8 v9) (f78_j2 v1 v2 v3 v8 v9):=by
 unfold f78_j2n f78_j2
 repeat' (first | exact Le.refl _ | apply f78_j1_le | apply Le.cond | apply Le.ite | apply Le.iter | apply Le.bind | (intro y; cases y <;> dsimp only) | intro y)
def f78n (N:Nat) (v1:T59) (v2:T59):Option (T59 × Int) :=
 (f95n N ([42]:List UInt8) v1.f0 v2.f0).bind fun v3=>cond (v3 == (0:Int)) (some (T59.mk (0:Int) ([]:List Int) ([]:List Int),(70:Int))) ((cond (decide ((v1.f1.length:Int) < (1:Int))) (some true) (some (decide ((v1.f1.length:Int) > (2:Int))))).bind fun v4=>(cond v4 (some true) (some (decide ((v2.f1.length:Int) < (1:Int))))).bind fun v5=>(cond v5 (some true) (some (decide ((v2.f1.length:Int) > (2:Int))))).bind fun v6=>(cond v6 (some true) (some (decide (w64 ((v1.f1.length:Int) + (v2.f1.length:Int)) < (3:Int))))).bind fun v7=>cond v7 (some (T59.mk (0:Int) ([]:List Int) ([]:List Int),(71:Int))) (if (0:Int) ≤ w64 ((v1.f1.length:Int) - (1:Int)) ∧ w64 ((v1.f1.length:Int) - (1:Int)) < (v1.f1.length:Int) ∧ (0:Int) < (v2.f1.length:Int) then cond (v1.f1.getD (Int.toNat (w64 ((v1.f1.length:Int) - (1:Int)))) default != v2.f1.getD 0 default) (some (T59.mk (0:Int) ([]:List Int) ([]:List Int),(30:Int))) (if (0:Int) < (v2.f1.length:Int) then cond ((v1.f1.length:Int) == (2:Int)) (if (0:Int) < (v1.f1.length:Int) then if (0 + [v1.f1.getD 0 default].length) * 8 ≤ 140737488355328 then f78_j2n N v1 v2 v3 [v1.f1.getD 0 default] (v1.f1.getD 0 default) else none else none) (f78_j2n N v1 v2 v3 [] (1:Int)) else none) else none))
theorem f78_le (N:Nat) (v1:T59) (v2:T59):Le (f78n N v1 v2) (f78 v1 v2):=by
 unfold f78n f78
 repeat' (first | exact Le.refl _ | apply f95_le | apply f78_j2_le | apply Le.cond | apply Le.ite | apply Le.iter | apply Le.bind | (intro y; cases y <;> dsimp only) | intro y)
def f42_b1n (N:Nat) (v2:List T59) (v3:Int) (v6:Int) (v7:List Int):Option ((Int × (List Int)) ⊕ Out (T59 × Int) (List Int)) :=
 cond (decide (v6 < ((v2.getD 0 default).f1).getD 1 default)) (if (0:Int) < (((v2.getD 0 default).f1).length:Int) ∧ (0:Int) ≤ w64 (v3 + (w64 (v6 * (((v2.getD 0 default).f1).getD 0 default)))) ∧ w64 (v3 + (w64 (v6 * (((v2.getD 0 default).f1).getD 0 default)))) < (((v2.getD 0 default).f2).length:Int) then if (v7.length + [((v2.getD 0 default).f2).getD (Int.toNat (w64 (v3 + (w64 (v6 * (((v2.getD 0 default).f1).getD 0 default)))))) default].length) * 8 ≤ 140737488355328 then some (.inl (w64 (v6 + (1:Int)),v7 ++ [((v2.getD 0 default).f2).getD (Int.toNat (w64 (v3 + (w64 (v6 * (((v2.getD 0 default).f1).getD 0 default)))))) default])) else none else none) (some (.inr (.go v7)))
theorem f42_b1_le (N:Nat) (v2:List T59) (v3:Int) (v6:Int) (v7:List Int):Le (f42_b1n N v2 v3 v6 v7) (f42_b1 v2 v3 v6 v7):=by
 unfold f42_b1n f42_b1
 repeat' (first | exact Le.refl _ | apply Le.cond | apply Le.ite | apply Le.iter | apply Le.bind | (intro y; cases y <;> dsimp only) | intro y)
def f42_b2n (N:Nat) (v2:List T59) (v3:Int) (v4:List Int):Option ((Int × (List Int)) ⊕ Out (T59 × Int) (List Int)) :=
 cond (decide (v3 < ((v2.getD 0 default).f1).getD 0 default)) (if (1:Int) < (((v2.getD 0 default).f1).length:Int) then (itN N (fun s=>f42_b1n N v2 v3 s.1 s.2) ((0:Int),v4)).bind fun y=>match y with | .ret v9=>some (.inr (.ret (v9.1,v9.2))) | .go v8=>some (.inl (w64 (v3 + (1:Int)),v8)) else none) (some (.inr (.go v4)))
theorem f42_b2_le (N:Nat) (v2:List T59) (v3:Int) (v4:List Int):Le (f42_b2n N v2 v3 v4) (f42_b2 v2 v3 v4):=by
 unfold f42_b2n f42_b2
 repeat' (first | exact Le.refl _ | apply f42_b1_le | apply Le.cond | apply Le.ite | apply Le.iter | apply Le.bind | (intro y; cases y <;> dsimp only) | intro y)
def f42n (N:Nat) (v1:List UInt8) (v2:List T59):Option (T59 × Int) :=
 if (0:Int) < (v2.length:Int) then cond (v1 == ([114,101,115,104,97,112,101]:List UInt8)) none (cond (v1 == ([116,114,97,110,115,112,111,115,101]:List UInt8)) (cond ((((v2.getD 0 default).f1).length:Int) != (2:Int)) (some (T59.mk (0:Int) ([]:List Int) ([]:List Int),(71:Int))) (if (1:Int) < (((v2.getD 0 default).f1).length:Int) ∧ (0:Int) < (((v2.getD 0 default).f1).length:Int) then if (0:Int) < (((v2.getD 0 default).f1).length:Int) then (itN N (fun s=>f42_b2n N v2 s.1 s.2) ((0:Int),[])).bind fun y=>match y with | .ret v10=>some (v10.1,v10.2) | .go v5=>some (T59.mk ((v2.getD 0 default).f0) [((v2.getD 0 default).f1).getD 1 default,((v2.getD 0 default).f1).getD 0 default] v5,(0:Int)) else none else none)) (cond (v1 == ([109,97,116,109,117,108]:List UInt8)) (if (1:Int) < (v2.length:Int) then (f78n N (v2.getD 0 default) (v2.getD 1 default)).bind fun v11=>some (v11.1,v11.2) else none) (cond (v1 == ([99,115,104,105,102,116]:List UInt8)) none (cond (v1 == ([115,112,114,101,97,100]:List UInt8)) none none)))) else none
theorem f42_le (N:Nat) (v1:List UInt8) (v2:List T59):Le (f42n N v1 v2) (f42 v1 v2):=by
 unfold f42n f42
 repeat' (first | exact Le.refl _ | apply f42_b2_le | apply f78_le | apply Le.cond | apply Le.ite | apply Le.iter | apply Le.bind | (intro y; cases y <;> dsimp only) | intro y)
def f17_j1n (N:Nat) (v1:List UInt8) (v2:List T59) (v10:Bool):Option (T59 × Int) :=
 cond v10 none ((f42n N v1 v2).bind fun v11=>some (v11.1,v11.2))
theorem f17_j1_le (N:Nat) (v1:List UInt8) (v2:List T59) (v10:Bool):Le (f17_j1n N v1 v2 v10) (f17_j1 v1 v2 v10):=by
 unfold f17_j1n f17_j1
 repeat' (first | exact Le.refl _ | apply f42_le | apply Le.cond | apply Le.ite | apply Le.iter | apply Le.bind | (intro y; cases y <;> dsimp only) | intro y)
def f17_j2n (N:Nat) (v1:List UInt8) (v2:List T59) (v9:Bool):Option (T59 × Int) :=
 cond v9 none (cond (v1 == ([109,97,120,108,111,99]:List UInt8)) (f17_j1n N v1 v2 (v1 == ([109,97,120,108,111,99]:List UInt8))) (f17_j1n N v1 v2 (v1 == ([109,105,110,108,111,99]:List UInt8))))
theorem f17_j2_le (N:Nat) (v1:List UInt8) (v2:List T59) (v9:Bool):Le (f17_j2n N v1 v2 v9) (f17_j2 v1 v2 v9):=by
 unfold f17_j2n f17_j2
 repeat' (first | exact Le.refl _ | apply f17_j1_le | apply Le.cond | apply Le.ite | apply Le.iter | apply Le.bind | (intro y; cases y <;> dsimp only) | intro y)
def f17_j3n (N:Nat) (v1:List UInt8) (v2:List T59) (v8:Bool):Option (T59 × Int) :=
 cond v8 none (cond (v1 == ([115,117,109]:List UInt8)) (f17_j2n N v1 v2 (v1 == ([115,117,109]:List UInt8))) (cond (v1 == ([112,114,111,100,117,99,116]:List UInt8)) (f17_j2n N v1 v2 (v1 == ([112,114,111,100,117,99,116]:List UInt8))) (cond (v1 == ([109,97,120,118,97,108]:List UInt8)) (f17_j2n N v1 v2 (v1 == ([109,97,120,118,97,108]:List UInt8))) (cond (v1 == ([109,105,110,118,97,108]:List UInt8)) (f17_j2n N v1 v2 (v1 == ([109,105,110,118,97,108]:List UInt8))) (cond (v1 == ([97,108,108]:List UInt8)) (f17_j2n N v1 v2 (v1 == ([97,108,108]:List UInt8))) (cond (v1 == ([97,110,121]:List UInt8)) (f17_j2n N v1 v2 (v1 == ([97,110,121]:List UInt8))) (cond (v1 == ([99,111,117,110,116]:List UInt8)) (f17_j2n N v1 v2 (v1 == ([99,111,117,110,116]:List UInt8))) (cond (v1 == ([115,105,122,101]:List UInt8)) (f17_j2n N v1 v2 (v1 == ([115,105,122,101]:List UInt8))) (f17_j2n N v1 v2 (v1 == ([115,104,97,112,101]:List UInt8)))))))))))
theorem f17_j3_le (N:Nat) (v1:List UInt8) (v2:List T59) (v8:Bool):Le (f17_j3n N v1 v2 v8) (f17_j3 v1 v2 v8):=by
 unfold f17_j3n f17_j3
 repeat' (first | exact Le.refl _ | apply f17_j2_le | apply Le.cond | apply Le.ite | apply Le.iter | apply Le.bind | (intro y; cases y <;> dsimp only) | intro y)
def f17n (N:Nat) (v1:List UInt8) (v2:List T59):Option (T59 × Int) :=
 (f35n N v1).bind fun v3=>(cond (v3.2 == (0:Int)) (some true) (some (decide ((v2.length:Int) < v3.1)))).bind fun v4=>(cond v4 (some true) (some (decide ((v2.length:Int) > v3.2)))).bind fun v5=>(cond v5 (some true) ((f36_37n N v2).bind fun v7=>some v7)).bind fun v6=>cond v6 (some (T59.mk (0:Int) ([]:List Int) ([]:List Int),(2:Int))) (cond (v1 == ([97,98,115]:List UInt8)) (f17_j3n N v1 v2 (v1 == ([97,98,115]:List UInt8))) (cond (v1 == ([105,110,116]:List UInt8)) (f17_j3n N v1 v2 (v1 == ([105,110,116]:List UInt8))) (cond (v1 == ([114,101,97,108]:List UInt8)) (f17_j3n N v1 v2 (v1 == ([114,101,97,108]:List UInt8))) (cond (v1 == ([100,98,108,101]:List UInt8)) (f17_j3n N v1 v2 (v1 == ([100,98,108,101]:List UInt8))) (cond (v1 == ([109,111,100]:List UInt8)) (f17_j3n N v1 v2 (v1 == ([109,111,100]:List UInt8))) (cond (v1 == ([109,105,110]:List UInt8)) (f17_j3n N v1 v2 (v1 == ([109,105,110]:List UInt8))) (cond (v1 == ([109,97,120]:List UInt8)) (f17_j3n N v1 v2 (v1 == ([109,97,120]:List UInt8))) (cond (v1 == ([109,101,114,103,101]:List UInt8)) (f17_j3n N v1 v2 (v1 == ([109,101,114,103,101]:List UInt8))) (f17_j3n N v1 v2 (v1 == ([115,113,114,116]:List UInt8)))))))))))
theorem f17_le (N:Nat) (v1:List UInt8) (v2:List T59):Le (f17n N v1 v2) (f17 v1 v2):=by
 unfold f17n f17
 repeat' (first | exact Le.refl _ | apply f35_le | apply f36_37_le | apply f17_j3_le | apply Le.cond | apply Le.ite | apply Le.iter | apply Le.bind | (intro y; cases y <;> dsimp only) | intro y)
def f5n (N:Nat) :Option Bool :=
 (f17n N ([109,97,116,109,117,108]:List UInt8) ([T59.mk (1:Int) [(2:Int),(2:Int)] [(1:Int),(2:Int),(3:Int),(4:Int)],T59.mk (1:Int) [(2:Int)] [(5:Int),(6:Int)]])).bind fun v1=>(cond (v1.2 == (0:Int)) (some ((v1.1.f2.length:Int) == (2:Int))) (some false)).bind fun v2=>(cond v2 (if (0:Int) < (v1.1.f2.length:Int) then some (v1.1.f2.getD 0 default == (23:Int)) else none) (some false)).bind fun v3=>(cond v3 (if (1:Int) < (v1.1.f2.length:Int) then some (v1.1.f2.getD 1 default == (34:Int)) else none) (some false)).bind fun v4=>some v4
theorem f5_le (N:Nat) :Le (f5n N ) (f5 ):=by
 unfold f5n f5
 repeat' (first | exact Le.refl _ | apply f17_le | apply Le.cond | apply Le.ite | apply Le.iter | apply Le.bind | (intro y; cases y <;> dsimp only) | intro y)
end Go.Sx.top
