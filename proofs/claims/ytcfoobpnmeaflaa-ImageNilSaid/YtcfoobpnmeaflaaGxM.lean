/- The functions with so many rounds a loop; no condition. -/
import Derived.Test.YtcfoobpnmeaflaaGx4
import Derived.Test.YtcfoobpnmeaflaaSxD
namespace Go.Sx.img
open Go Go.Sx Go.Proofs
set_option linter.unusedVariables false

def f39n (N:Nat) (v1:T50):Option Bool :=
 some ((v1.f0.length:Int) == (0:Int))
theorem f39_le (N:Nat) (v1:T50):Le (f39n N v1) (f39 v1):=by
 unfold f39n f39
 repeat' (first | exact Le.refl _ | apply Le.cond | apply Le.ite | apply Le.iter | apply Le.bind | (intro y; cases y <;> dsimp only) | intro y)
def f42n (N:Nat) (v1:T50) (v2:Int):Option Bool :=
 (cond (decide (v2 > (0:Int))) (some (decide (v2 < (v1.f0.length:Int)))) (some false)).bind fun v3=>some v3
theorem f42_le (N:Nat) (v1:T50) (v2:Int):Le (f42n N v1 v2) (f42 v1 v2):=by
 unfold f42n f42
 repeat' (first | exact Le.refl _ | apply Le.cond | apply Le.ite | apply Le.iter | apply Le.bind | (intro y; cases y <;> dsimp only) | intro y)
def f80n (N:Nat) (v1:T50) (v2:Int):Option T54 :=
 if (0:Int) ≤ v2 ∧ v2 < (v1.f0.length:Int) then cond (((v1.f0.getD v2.toNat default).f2) == ([119,97,105,116,115]:List UInt8)) (if (0:Int) ≤ w64 (((v1.f0.getD v2.toNat default).f1) - (1:Int)) ∧ w64 (((v1.f0.getD v2.toNat default).f1) - (1:Int)) < (((v1.f0.getD v2.toNat default).f0).length:Int) then some (((v1.f0.getD v2.toNat default).f0).getD (Int.toNat (w64 (((v1.f0.getD v2.toNat default).f1) - (1:Int)))) default) else none) (if (0:Int) ≤ (v1.f0.getD v2.toNat default).f1 ∧ (v1.f0.getD v2.toNat default).f1 < (((v1.f0.getD v2.toNat default).f0).length:Int) then some (((v1.f0.getD v2.toNat default).f0).getD (Int.toNat ((v1.f0.getD v2.toNat default).f1)) default) else none) else none
theorem f80_le (N:Nat) (v1:T50) (v2:Int):Le (f80n N v1 v2) (f80 v1 v2):=by
 unfold f80n f80
 repeat' (first | exact Le.refl _ | apply Le.cond | apply Le.ite | apply Le.iter | apply Le.bind | (intro y; cases y <;> dsimp only) | intro y)
def f78n (N:Nat) (v1:T50) (v2:Int):Option Bool :=
 if (0:Int) ≤ v2 ∧ v2 < (v1.f0.length:Int) then (cond (((v1.f0.getD v2.toNat default).f2) == ([102,97,105,108,101,100]:List UInt8)) (some true) (if (0:Int) ≤ v2 ∧ v2 < (v1.f0.length:Int) then some (((v1.f0.getD v2.toNat default).f2) == ([101,114,114,111,114]:List UInt8)) else none)).bind fun v3=>some v3 else none
theorem f78_le (N:Nat) (v1:T50) (v2:Int):Le (f78n N v1 v2) (f78 v1 v2):=by
 unfold f78n f78
 repeat' (first | exact Le.refl _ | apply Le.cond | apply Le.ite | apply Le.iter | apply Le.bind | (intro y; cases y <;> dsimp only) | intro y)
def f45_j1n (N:Nat) (v2:Int) (v4:Int):Option Int :=
 cond (v4 == v2) (some (0:Int)) (some v4)
theorem f45_j1_le (N:Nat) (v2:Int) (v4:Int):Le (f45_j1n N v2 v4) (f45_j1 v2 v4):=by
 unfold f45_j1n f45_j1
 repeat' (first | exact Le.refl _ | apply Le.cond | apply Le.ite | apply Le.iter | apply Le.bind | (intro y; cases y <;> dsimp only) | intro y)
def f45n (N:Nat) (v1:T50) (v2:Int):Option Int :=
 (f80n N v1 v2).bind fun v3=>cond (v3.f0 == ([119,97,105,116]:List UInt8)) (if (0:Int) < (v3.f1.length:Int) ∧ (0:Int) ≤ v2 ∧ v2 < (v1.f0.length:Int) ∧ (0:Int) ≤ v3.f1.getD 0 default ∧ v3.f1.getD 0 default < (4:Int) ∧ (1:Int) < (v3.f1.length:Int) then cond (decide ((arrL 4 ((v1.f0.getD v2.toNat default).f5)).getD (Int.toNat (v3.f1.getD 0 default)) 0 < v3.f1.getD 1 default)) (some (-1:Int)) (f45_j1n N v2 (0:Int)) else none) (cond (v3.f0 == ([108,111,99,107]:List UInt8)) (if (0:Int) < (v3.f1.length:Int) then (f78n N v1 (v3.f1.getD 0 default)).bind fun v5=>cond (!v5) (if (0:Int) < (v3.f1.length:Int) ∧ (1:Int) < (v3.f1.length:Int) ∧ (0:Int) ≤ v3.f1.getD 0 default ∧ v3.f1.getD 0 default < (v1.f0.length:Int) ∧ (0:Int) ≤ v3.f1.getD 1 default ∧ v3.f1.getD 1 default < (4:Int) then f45_j1n N v2 ((arrL 4 ((v1.f0.getD (Int.toNat (v3.f1.getD 0 default)) default).f6)).getD (Int.toNat (v3.f1.getD 1 default)) 0) else none) (f45_j1n N v2 (0:Int)) else none) (cond (v3.f0 == ([99,114,105,116,105,99,97,108]:List UInt8)) (f45_j1n N v2 v1.f1) (f45_j1n N v2 (0:Int))))
theorem f45_le (N:Nat) (v1:T50) (v2:Int):Le (f45n N v1 v2) (f45 v1 v2):=by
 unfold f45n f45
 repeat' (first | exact Le.refl _ | apply f80_le | apply f45_j1_le | apply f78_le | apply Le.cond | apply Le.ite | apply Le.iter | apply Le.bind | (intro y; cases y <;> dsimp only) | intro y)
def f74n (N:Nat) (v1:List UInt8):Option ((List UInt8) × Bool) :=
 some (sval tbl74 v1,shas tbl74 v1)
theorem f74_le (N:Nat) (v1:List UInt8):Le (f74n N v1) (f74 v1):=by
 unfold f74n f74
 repeat' (first | exact Le.refl _ | apply Le.cond | apply Le.ite | apply Le.iter | apply Le.bind | (intro y; cases y <;> dsimp only) | intro y)
def f93n (N:Nat) (v1:T54):Option Bool :=
 (f74n N v1.f0).bind fun v2=>(cond (!(v2.1 == ([]:List UInt8))) (if (0:Int) < (v2.1.length:Int) then some ((((v2.1.getD 0 0).toNat:Nat):Int) == (105:Int)) else none) (some false)).bind fun v3=>some v3
theorem f93_le (N:Nat) (v1:T54):Le (f93n N v1) (f93 v1):=by
 unfold f93n f93
 repeat' (first | exact Le.refl _ | apply f74_le | apply Le.cond | apply Le.ite | apply Le.iter | apply Le.bind | (intro y; cases y <;> dsimp only) | intro y)
def f37n (N:Nat) (v1:Int) (v2:Int) (v3:Int):Option Bool :=
 (cond (decide (v1 ≥ v2)) (some (decide (v1 ≤ v3))) (some false)).bind fun v4=>some v4
theorem f37_le (N:Nat) (v1:Int) (v2:Int) (v3:Int):Le (f37n N v1 v2 v3) (f37 v1 v2 v3):=by
 unfold f37n f37
 repeat' (first | exact Le.refl _ | apply Le.cond | apply Le.ite | apply Le.iter | apply Le.bind | (intro y; cases y <;> dsimp only) | intro y)
def f94on (N:Nat) (v1:Int) (v2:T54) (v3:T50):Option Bool :=
 none
theorem f94o_le (N:Nat) (v1:Int) (v2:T54) (v3:T50):Le (f94on N v1 v2 v3) (f94o v1 v2 v3):=by
 unfold f94on f94o
 repeat' (first | exact Le.refl _ | apply Le.cond | apply Le.ite | apply Le.iter | apply Le.bind | (intro y; cases y <;> dsimp only) | intro y)
def f77o_j1n (N:Nat) (v3:T50) (v7:List T60):Option (Bool × T50) :=
 some (true,T50.mk v7 v3.f1 v3.f2)
theorem f77o_j1_le (N:Nat) (v3:T50) (v7:List T60):Le (f77o_j1n N v3 v7) (f77o_j1 v3 v7):=by
 unfold f77o_j1n f77o_j1
 repeat' (first | exact Le.refl _ | apply Le.cond | apply Le.ite | apply Le.iter | apply Le.bind | (intro y; cases y <;> dsimp only) | intro y)
def f77o_b2n (N:Nat) (v2:T54):Option (Unit ⊕ Out (Bool × T50) Unit) :=
 cond (decide ((0:Int) < (v2.f1.length:Int))) (if (0:Int) < (v2.f1.length:Int) then none else none) (some (.inr (.go ())))
theorem f77o_b2_le (N:Nat) (v2:T54):Le (f77o_b2n N v2) (f77o_b2 v2):=by
 unfold f77o_b2n f77o_b2
 repeat' (first | exact Le.refl _ | apply Le.cond | apply Le.ite | apply Le.iter | apply Le.bind | (intro y; cases y <;> dsimp only) | intro y)
def f77on (N:Nat) (v1:Int) (v2:T54) (v3:T50):Option (Bool × T50) :=
 if (0:Int) ≤ v1 ∧ v1 < (v3.f0.length:Int) then (f93n N v2).bind fun v4=>(cond v4 (if (0:Int) < (v2.f1.length:Int) then (f78n N v3 (v2.f1.getD 0 default)).bind fun v6=>some v6 else none) (some false)).bind fun v5=>cond v5 none (cond (v2.f0 == ([112,117,116]:List UInt8)) (if (0:Int) < (v2.f1.length:Int) ∧ (1:Int) < (v2.f1.length:Int) ∧ (2:Int) < (v2.f1.length:Int) then if (0:Int) ≤ v2.f1.getD 0 default ∧ v2.f1.getD 0 default < (v3.f0.length:Int) ∧ (0:Int) ≤ v2.f1.getD 1 default ∧ v2.f1.getD 1 default < (10:Int) then f77o_j1n N v3 (v3.f0.set (Int.toNat (v2.f1.getD 0 default)) (T60.mk (v3.f0.getD (Int.toNat (v2.f1.getD 0 default)) default).f0 (v3.f0.getD (Int.toNat (v2.f1.getD 0 default)) default).f1 (v3.f0.getD (Int.toNat (v2.f1.getD 0 default)) default).f2 (setN 10 (v3.f0.getD (Int.toNat (v2.f1.getD 0 default)) default).f3 (Int.toNat (v2.f1.getD 1 default)) (v2.f1.getD 2 default)) (v3.f0.getD (Int.toNat (v2.f1.getD 0 default)) default).f4 (v3.f0.getD (Int.toNat (v2.f1.getD 0 default)) default).f5 (v3.f0.getD (Int.toNat (v2.f1.getD 0 default)) default).f6 (v3.f0.getD (Int.toNat (v2.f1.getD 0 default)) default).f7 (v3.f0.getD (Int.toNat (v2.f1.getD 0 default)) default).f8)) else none else none) (cond (v2.f0 == ([97,100,100]:List UInt8)) (if (0:Int) < (v2.f1.length:Int) ∧ (1:Int) < (v2.f1.length:Int) ∧ (2:Int) < (v2.f1.length:Int) ∧ (0:Int) ≤ v2.f1.getD 2 default ∧ v2.f1.getD 2 default < (4:Int) then if (0:Int) ≤ v2.f1.getD 0 default ∧ v2.f1.getD 0 default < (v3.f0.length:Int) ∧ (0:Int) ≤ v2.f1.getD 1 default ∧ v2.f1.getD 1 default < (10:Int) then (f37n N (w64 (((arrL 10 ((v3.f0.getD (Int.toNat (v2.f1.getD 0 default)) default).f3)).getD (Int.toNat (v2.f1.getD 1 default)) 0) + ((arrL 4 ((v3.f0.getD v1.toNat default).f4)).getD (Int.toNat (v2.f1.getD 2 default)) 0))) (-2147483648:Int) (2147483648:Int)).bind fun v8=>cond (!v8) (some (false,T50.mk v3.f0 v3.f1 v3.f2)) (if (0:Int) < (v2.f1.length:Int) ∧ (1:Int) < (v2.f1.length:Int) then if (0:Int) ≤ v2.f1.getD 0 default ∧ v2.f1.getD 0 default < (v3.f0.length:Int) ∧ (0:Int) ≤ v2.f1.getD 1 default ∧ v2.f1.getD 1 default < (10:Int) then f77o_j1n N v3 (v3.f0.set (Int.toNat (v2.f1.getD 0 default)) (T60.mk (v3.f0.getD (Int.toNat (v2.f1.getD 0 default)) default).f0 (v3.f0.getD (Int.toNat (v2.f1.getD 0 default)) default).f1 (v3.f0.getD (Int.toNat (v2.f1.getD 0 default)) default).f2 (setN 10 (v3.f0.getD (Int.toNat (v2.f1.getD 0 default)) default).f3 (Int.toNat (v2.f1.getD 1 default)) (w64 (((arrL 10 ((v3.f0.getD (Int.toNat (v2.f1.getD 0 default)) default).f3)).getD (Int.toNat (v2.f1.getD 1 default)) 0) + ((arrL 4 ((v3.f0.getD v1.toNat default).f4)).getD (Int.toNat (v2.f1.getD 2 default)) 0)))) (v3.f0.getD (Int.toNat (v2.f1.getD 0 default)) default).f4 (v3.f0.getD (Int.toNat (v2.f1.getD 0 default)) default).f5 (v3.f0.getD (Int.toNat (v2.f1.getD 0 default)) default).f6 (v3.f0.getD (Int.toNat (v2.f1.getD 0 default)) default).f7 (v3.f0.getD (Int.toNat (v2.f1.getD 0 default)) default).f8)) else none else none) else none else none) (cond (v2.f0 == ([103,101,116]:List UInt8)) (if (2:Int) < (v2.f1.length:Int) ∧ (0:Int) < (v2.f1.length:Int) ∧ (1:Int) < (v2.f1.length:Int) then if (0:Int) ≤ v2.f1.getD 0 default ∧ v2.f1.getD 0 default < (v3.f0.length:Int) ∧ (0:Int) ≤ v2.f1.getD 1 default ∧ v2.f1.getD 1 default < (10:Int) then if (0:Int) ≤ v2.f1.getD 2 default ∧ v2.f1.getD 2 default < (4:Int) then f77o_j1n N v3 (v3.f0.set v1.toNat (T60.mk (v3.f0.getD v1.toNat default).f0 (v3.f0.getD v1.toNat default).f1 (v3.f0.getD v1.toNat default).f2 (v3.f0.getD v1.toNat default).f3 (setN 4 (v3.f0.getD v1.toNat default).f4 (Int.toNat (v2.f1.getD 2 default)) ((arrL 10 ((v3.f0.getD (Int.toNat (v2.f1.getD 0 default)) default).f3)).getD (Int.toNat (v2.f1.getD 1 default)) 0)) (v3.f0.getD v1.toNat default).f5 (v3.f0.getD v1.toNat default).f6 (v3.f0.getD v1.toNat default).f7 (v3.f0.getD v1.toNat default).f8)) else none else none else none) (cond (v2.f0 == ([115,116,111,114,101]:List UInt8)) (if (0:Int) < (v2.f1.length:Int) ∧ (1:Int) < (v2.f1.length:Int) ∧ (2:Int) < (v2.f1.length:Int) ∧ (0:Int) ≤ v2.f1.getD 2 default ∧ v2.f1.getD 2 default < (4:Int) then if (0:Int) ≤ v2.f1.getD 0 default ∧ v2.f1.getD 0 default < (v3.f0.length:Int) then if (0:Int) ≤ v2.f1.getD 1 default ∧ v2.f1.getD 1 default < (10:Int) then f77o_j1n N v3 (v3.f0.set (Int.toNat (v2.f1.getD 0 default)) (T60.mk (v3.f0.getD (Int.toNat (v2.f1.getD 0 default)) default).f0 (v3.f0.getD (Int.toNat (v2.f1.getD 0 default)) default).f1 (v3.f0.getD (Int.toNat (v2.f1.getD 0 default)) default).f2 (setN 10 (v3.f0.getD (Int.toNat (v2.f1.getD 0 default)) default).f3 (Int.toNat (v2.f1.getD 1 default)) ((arrL 4 ((v3.f0.getD v1.toNat default).f4)).getD (Int.toNat (v2.f1.getD 2 default)) 0)) (v3.f0.getD (Int.toNat (v2.f1.getD 0 default)) default).f4 (v3.f0.getD (Int.toNat (v2.f1.getD 0 default)) default).f5 (v3.f0.getD (Int.toNat (v2.f1.getD 0 default)) default).f6 (v3.f0.getD (Int.toNat (v2.f1.getD 0 default)) default).f7 (v3.f0.getD (Int.toNat (v2.f1.getD 0 default)) default).f8)) else none else none else none) (cond (v2.f0 == ([115,101,116]:List UInt8)) (if (0:Int) < (v2.f1.length:Int) ∧ (1:Int) < (v2.f1.length:Int) ∧ (0:Int) ≤ v2.f1.getD 0 default ∧ v2.f1.getD 0 default < (4:Int) then f77o_j1n N v3 (v3.f0.set v1.toNat (T60.mk (v3.f0.getD v1.toNat default).f0 (v3.f0.getD v1.toNat default).f1 (v3.f0.getD v1.toNat default).f2 (v3.f0.getD v1.toNat default).f3 (setN 4 (v3.f0.getD v1.toNat default).f4 (Int.toNat (v2.f1.getD 0 default)) (v2.f1.getD 1 default)) (v3.f0.getD v1.toNat default).f5 (v3.f0.getD v1.toNat default).f6 (v3.f0.getD v1.toNat default).f7 (v3.f0.getD v1.toNat default).f8)) else none) (cond (v2.f0 == ([97,108,108]:List UInt8)) (f77o_j1n N v3 (v3.f0.set v1.toNat (T60.mk ((v3.f0.getD v1.toNat default).f0) ((v3.f0.getD v1.toNat default).f1) ([119,97,105,116,115]:List UInt8) ((v3.f0.getD v1.toNat default).f3) ((v3.f0.getD v1.toNat default).f4) ((v3.f0.getD v1.toNat default).f5) ((v3.f0.getD v1.toNat default).f6) ((v3.f0.getD v1.toNat default).f7) ((v3.f0.getD v1.toNat default).f8)))) (cond (v2.f0 == ([119,105,116,104]:List UInt8)) ((itN N (fun _=>f77o_b2n N v2) ()).bind fun y=>match y with | .ret v9=>some v9 | .go _=>f77o_j1n N v3 (v3.f0.set v1.toNat (T60.mk ((v3.f0.getD v1.toNat default).f0) ((v3.f0.getD v1.toNat default).f1) ([119,97,105,116,115]:List UInt8) ((v3.f0.getD v1.toNat default).f3) ((v3.f0.getD v1.toNat default).f4) ((v3.f0.getD v1.toNat default).f5) ((v3.f0.getD v1.toNat default).f6) ((v3.f0.getD v1.toNat default).f7) ((v3.f0.getD v1.toNat default).f8)))) (cond (v2.f0 == ([112,111,115,116]:List UInt8)) (if (0:Int) < (v2.f1.length:Int) ∧ (1:Int) < (v2.f1.length:Int) then if (0:Int) ≤ v2.f1.getD 0 default ∧ v2.f1.getD 0 default < (v3.f0.length:Int) ∧ (0:Int) ≤ v2.f1.getD 1 default ∧ v2.f1.getD 1 default < (4:Int) ∧ (0:Int) ≤ v2.f1.getD 0 default ∧ v2.f1.getD 0 default < (v3.f0.length:Int) then if (0:Int) ≤ v2.f1.getD 1 default ∧ v2.f1.getD 1 default < (4:Int) then f77o_j1n N v3 (v3.f0.set (Int.toNat (v2.f1.getD 0 default)) (T60.mk (v3.f0.getD (Int.toNat (v2.f1.getD 0 default)) default).f0 (v3.f0.getD (Int.toNat (v2.f1.getD 0 default)) default).f1 (v3.f0.getD (Int.toNat (v2.f1.getD 0 default)) default).f2 (v3.f0.getD (Int.toNat (v2.f1.getD 0 default)) default).f3 (v3.f0.getD (Int.toNat (v2.f1.getD 0 default)) default).f4 (setN 4 (v3.f0.getD (Int.toNat (v2.f1.getD 0 default)) default).f5 (Int.toNat (v2.f1.getD 1 default)) (w64 (((arrL 4 ((v3.f0.getD (Int.toNat (v2.f1.getD 0 default)) default).f5)).getD (Int.toNat (v2.f1.getD 1 default)) 0) + (1:Int)))) (v3.f0.getD (Int.toNat (v2.f1.getD 0 default)) default).f6 (v3.f0.getD (Int.toNat (v2.f1.getD 0 default)) default).f7 (v3.f0.getD (Int.toNat (v2.f1.getD 0 default)) default).f8)) else none else none else none) (cond (v2.f0 == ([119,97,105,116]:List UInt8)) (if (0:Int) < (v2.f1.length:Int) ∧ (0:Int) ≤ v2.f1.getD 0 default ∧ v2.f1.getD 0 default < (4:Int) ∧ (1:Int) < (v2.f1.length:Int) then if (0:Int) ≤ v2.f1.getD 0 default ∧ v2.f1.getD 0 default < (4:Int) then f77o_j1n N v3 (v3.f0.set v1.toNat (T60.mk (v3.f0.getD v1.toNat default).f0 (v3.f0.getD v1.toNat default).f1 (v3.f0.getD v1.toNat default).f2 (v3.f0.getD v1.toNat default).f3 (v3.f0.getD v1.toNat default).f4 (setN 4 (v3.f0.getD v1.toNat default).f5 (Int.toNat (v2.f1.getD 0 default)) (w64 (((arrL 4 ((v3.f0.getD v1.toNat default).f5)).getD (Int.toNat (v2.f1.getD 0 default)) 0) - (v2.f1.getD 1 default)))) (v3.f0.getD v1.toNat default).f6 (v3.f0.getD v1.toNat default).f7 (v3.f0.getD v1.toNat default).f8)) else none else none) (cond (v2.f0 == ([102,97,105,108]:List UInt8)) (f77o_j1n N v3 (v3.f0.set v1.toNat (T60.mk ((v3.f0.getD v1.toNat default).f0) ((v3.f0.getD v1.toNat default).f1) ([102,97,105,108,101,100]:List UInt8) ((v3.f0.getD v1.toNat default).f3) ((v3.f0.getD v1.toNat default).f4) ((v3.f0.getD v1.toNat default).f5) ((v3.f0.getD v1.toNat default).f6) ((v3.f0.getD v1.toNat default).f7) ((v3.f0.getD v1.toNat default).f8)))) (cond (v2.f0 == ([115,116,111,112]:List UInt8)) (f77o_j1n N v3 (v3.f0.set v1.toNat (T60.mk ((v3.f0.getD v1.toNat default).f0) ((v3.f0.getD v1.toNat default).f1) ([101,110,100,101,100]:List UInt8) ((v3.f0.getD v1.toNat default).f3) ((v3.f0.getD v1.toNat default).f4) ((v3.f0.getD v1.toNat default).f5) ((v3.f0.getD v1.toNat default).f6) ((v3.f0.getD v1.toNat default).f7) ((v3.f0.getD v1.toNat default).f8)))) ((f94on N v1 v2 (T50.mk v3.f0 v3.f1 v3.f2)).bind fun v10=>some (v10,T50.mk v3.f0 v3.f1 v3.f2))))))))))))) else none
theorem f77o_le (N:Nat) (v1:Int) (v2:T54) (v3:T50):Le (f77on N v1 v2 v3) (f77o v1 v2 v3):=by
 unfold f77on f77o
 repeat' (first | exact Le.refl _ | apply f93_le | apply f78_le | apply f77o_j1_le | apply f37_le | apply f77o_b2_le | apply f94o_le | apply Le.cond | apply Le.ite | apply Le.iter | apply Le.bind | (intro y; cases y <;> dsimp only) | intro y)
def f79o_b1n (N:Nat) :Option (Unit ⊕ Out T50 Unit) :=
 cond (decide ((0:Int) < (4:Int))) none (some (.inr (.go ())))
theorem f79o_b1_le (N:Nat) :Le (f79o_b1n N ) (f79o_b1 ):=by
 unfold f79o_b1n f79o_b1
 repeat' (first | exact Le.refl _ | apply Le.cond | apply Le.ite | apply Le.iter | apply Le.bind | (intro y; cases y <;> dsimp only) | intro y)
def f79o_b2n (N:Nat) (v2:T50) (v3:Int):Option (Int ⊕ Out T50 Unit) :=
 cond (decide (v3 < (v2.f0.length:Int))) (if (0:Int) ≤ v3 ∧ v3 < (v2.f0.length:Int) then (itN N (fun _=>f79o_b1n N) ()).bind fun y=>match y with | .ret v4=>some (.inr (.ret v4)) | .go _=>some (.inl (w64 (v3 + (1:Int)))) else none) (some (.inr (.go ())))
theorem f79o_b2_le (N:Nat) (v2:T50) (v3:Int):Le (f79o_b2n N v2 v3) (f79o_b2 v2 v3):=by
 unfold f79o_b2n f79o_b2
 repeat' (first | exact Le.refl _ | apply f79o_b1_le | apply Le.cond | apply Le.ite | apply Le.iter | apply Le.bind | (intro y; cases y <;> dsimp only) | intro y)
def f79on (N:Nat) (v1:Int) (v2:T50):Option T50 :=
 (itN N (fun s=>f79o_b2n N v2 s) (0:Int)).bind fun y=>match y with | .ret v5=>some v5 | .go _=>cond (v2.f1 == v1) (some (T50.mk v2.f0 (0:Int) v2.f2)) (some (T50.mk v2.f0 v2.f1 v2.f2))
theorem f79o_le (N:Nat) (v1:Int) (v2:T50):Le (f79on N v1 v2) (f79o v1 v2):=by
 unfold f79on f79o
 repeat' (first | exact Le.refl _ | apply f79o_b2_le | apply Le.cond | apply Le.ite | apply Le.iter | apply Le.bind | (intro y; cases y <;> dsimp only) | intro y)
def f46n (N:Nat) (v1:T50) (v2:Int):Option Bool :=
 if (0:Int) ≤ v2 ∧ v2 < (v1.f0.length:Int) then (cond (((v1.f0.getD v2.toNat default).f2) == ([101,110,100,101,100]:List UInt8)) (some true) (some (((v1.f0.getD v2.toNat default).f2) == ([102,97,105,108,101,100]:List UInt8)))).bind fun v3=>(cond v3 (some true) (some (((v1.f0.getD v2.toNat default).f2) == ([101,114,114,111,114]:List UInt8)))).bind fun v4=>some v4 else none
theorem f46_le (N:Nat) (v1:T50) (v2:Int):Le (f46n N v1 v2) (f46 v1 v2):=by
 unfold f46n f46
 repeat' (first | exact Le.refl _ | apply Le.cond | apply Le.ite | apply Le.iter | apply Le.bind | (intro y; cases y <;> dsimp only) | intro y)
def f92_b1n (N:Nat) (v1:List Int) (v2:Int) (v3:Int):Option (Int ⊕ Out Int Unit) :=
 cond (decide (v3 < (v1.length:Int))) (if (0:Int) ≤ v3 ∧ v3 < (v1.length:Int) then cond (v2 == v1.getD v3.toNat default) (some (.inr (.ret v3))) (some (.inl (w64 (v3 + (1:Int))))) else none) (some (.inr (.go ())))
theorem f92_b1_le (N:Nat) (v1:List Int) (v2:Int) (v3:Int):Le (f92_b1n N v1 v2 v3) (f92_b1 v1 v2 v3):=by
 unfold f92_b1n f92_b1
 repeat' (first | exact Le.refl _ | apply Le.cond | apply Le.ite | apply Le.iter | apply Le.bind | (intro y; cases y <;> dsimp only) | intro y)
def f92n (N:Nat) (v1:List Int) (v2:Int):Option Int :=
 (itN N (fun s=>f92_b1n N v1 v2 s) (0:Int)).bind fun y=>match y with | .ret v4=>some v4 | .go _=>some (-1:Int)
theorem f92_le (N:Nat) (v1:List Int) (v2:Int):Le (f92n N v1 v2) (f92 v1 v2):=by
 unfold f92n f92
 repeat' (first | exact Le.refl _ | apply f92_b1_le | apply Le.cond | apply Le.ite | apply Le.iter | apply Le.bind | (intro y; cases y <;> dsimp only) | intro y)
def f73n (N:Nat) (v1:List Int) (v2:Int):Option Bool :=
 (f92n N v1 v2).bind fun v3=>some (decide (v3 ≥ (0:Int)))
theorem f73_le (N:Nat) (v1:List Int) (v2:Int):Le (f73n N v1 v2) (f73 v1 v2):=by
 unfold f73n f73
 repeat' (first | exact Le.refl _ | apply f92_le | apply Le.cond | apply Le.ite | apply Le.iter | apply Le.bind | (intro y; cases y <;> dsimp only) | intro y)
def f44_j1n (N:Nat) (v5:Int) (v7:List Int):Option (((List Int) × Int) ⊕ Out (List Int) (List Int)) :=
 some (.inl (v7,w64 (v5 + (1:Int))))
theorem f44_j1_le (N:Nat) (v5:Int) (v7:List Int):Le (f44_j1n N v5 v7) (f44_j1 v5 v7):=by
 unfold f44_j1n f44_j1
 repeat' (first | exact Le.refl _ | apply Le.cond | apply Le.ite | apply Le.iter | apply Le.bind | (intro y; cases y <;> dsimp only) | intro y)
def f44_b2n (N:Nat) (v1:T50) (v2:Int) (v3:T54) (v4:List Int) (v5:Int):Option (((List Int) × Int) ⊕ Out (List Int) (List Int)) :=
 cond (decide (v5 < (v1.f0.length:Int))) ((f46n N v1 v5).bind fun v8=>(cond v8 (some true) (some (v5 == v2))).bind fun v9=>cond v9 (f44_j1n N v5 v4) (cond (v3.f0 == ([97,108,108]:List UInt8)) (if (0:Int) ≤ v5 ∧ v5 < (v1.f0.length:Int) then (cond (!(((v1.f0.getD v5.toNat default).f2) == ([119,97,105,116,115]:List UInt8))) (some true) ((f80n N v1 v5).bind fun v11=>some (!(v11.f0 == ([97,108,108]:List UInt8))))).bind fun v10=>cond v10 (if (v4.length + [v5].length) * 8 ≤ 140737488355328 then f44_j1n N v5 (v4 ++ [v5]) else none) (f44_j1n N v5 v4) else none) none)) (some (.inr (.go v4)))
theorem f44_b2_le (N:Nat) (v1:T50) (v2:Int) (v3:T54) (v4:List Int) (v5:Int):Le (f44_b2n N v1 v2 v3 v4 v5) (f44_b2 v1 v2 v3 v4 v5):=by
 unfold f44_b2n f44_b2
 repeat' (first | exact Le.refl _ | apply f46_le | apply f44_j1_le | apply f80_le | apply Le.cond | apply Le.ite | apply Le.iter | apply Le.bind | (intro y; cases y <;> dsimp only) | intro y)
def f44n (N:Nat) (v1:T50) (v2:Int):Option (List Int) :=
 (f80n N v1 v2).bind fun v3=>(itN N (fun s=>f44_b2n N v1 v2 v3 s.1 s.2) ([],(1:Int))).bind fun y=>match y with | .ret v12=>some v12 | .go v6=>some v6
theorem f44_le (N:Nat) (v1:T50) (v2:Int):Le (f44n N v1 v2) (f44 v1 v2):=by
 unfold f44n f44
 repeat' (first | exact Le.refl _ | apply f80_le | apply f44_b2_le | apply Le.cond | apply Le.ite | apply Le.iter | apply Le.bind | (intro y; cases y <;> dsimp only) | intro y)
def f70o_b1n (N:Nat) (v3:T54):Option (Unit ⊕ Out T50 Unit) :=
 cond (decide ((0:Int) < (v3.f1.length:Int))) (if (0:Int) < (v3.f1.length:Int) then none else none) (some (.inr (.go ())))
theorem f70o_b1_le (N:Nat) (v3:T54):Le (f70o_b1n N v3) (f70o_b1 v3):=by
 unfold f70o_b1n f70o_b1
 repeat' (first | exact Le.refl _ | apply Le.cond | apply Le.ite | apply Le.iter | apply Le.bind | (intro y; cases y <;> dsimp only) | intro y)
def f70on (N:Nat) (v1:Int) (v2:T50):Option T50 :=
 if (0:Int) ≤ v1 ∧ v1 < (v2.f0.length:Int) then (f80n N v2 v1).bind fun v3=>(itN N (fun _=>f70o_b1n N v3) ()).bind fun y=>match y with | .ret v4=>some v4 | .go _=>some (T50.mk (v2.f0.set v1.toNat (T60.mk ((v2.f0.getD v1.toNat default).f0) ((v2.f0.getD v1.toNat default).f1) ([114,117,110,115]:List UInt8) ((v2.f0.getD v1.toNat default).f3) ((v2.f0.getD v1.toNat default).f4) ((v2.f0.getD v1.toNat default).f5) ((v2.f0.getD v1.toNat default).f6) ((v2.f0.getD v1.toNat default).f7) ((v2.f0.getD v1.toNat default).f8))) v2.f1 v2.f2) else none
theorem f70o_le (N:Nat) (v1:Int) (v2:T50):Le (f70on N v1 v2) (f70o v1 v2):=by
 unfold f70on f70o
 repeat' (first | exact Le.refl _ | apply f80_le | apply f70o_b1_le | apply Le.cond | apply Le.ite | apply Le.iter | apply Le.bind | (intro y; cases y <;> dsimp only) | intro y)
def f32o_j1n (N:Nat) (v10:Int) (v14:Bool) (v15:List T60):Option ((Bool × Int × (List T60)) ⊕ Out T50 (Bool × (List T60))) :=
 some (.inl (v14,w64 (v10 + (1:Int)),v15))
theorem f32o_j1_le (N:Nat) (v10:Int) (v14:Bool) (v15:List T60):Le (f32o_j1n N v10 v14 v15) (f32o_j1 v10 v14 v15):=by
 unfold f32o_j1n f32o_j1
 repeat' (first | exact Le.refl _ | apply Le.cond | apply Le.ite | apply Le.iter | apply Le.bind | (intro y; cases y <;> dsimp only) | intro y)
def f32o_b2n (N:Nat) (v9:Bool) (v10:Int) (v11:List T60):Option ((Bool × Int × (List T60)) ⊕ Out T50 (Bool × (List T60))) :=
 cond (decide (v10 < (v11.length:Int))) (if (0:Int) ≤ v10 ∧ v10 < (v11.length:Int) then (cond (((v11.getD v10.toNat default).f2) == ([114,117,110,115]:List UInt8)) (some ((v11.getD v10.toNat default).f1 == (((v11.getD v10.toNat default).f0).length:Int))) (some false)).bind fun v16=>cond v16 (f32o_j1n N v10 true (v11.set v10.toNat (T60.mk ((v11.getD v10.toNat default).f0) ((v11.getD v10.toNat default).f1) ([101,110,100,101,100]:List UInt8) ((v11.getD v10.toNat default).f3) ((v11.getD v10.toNat default).f4) ((v11.getD v10.toNat default).f5) ((v11.getD v10.toNat default).f6) ((v11.getD v10.toNat default).f7) ((v11.getD v10.toNat default).f8)))) (f32o_j1n N v10 v9 v11) else none) (some (.inr (.go (v9,v11))))
theorem f32o_b2_le (N:Nat) (v9:Bool) (v10:Int) (v11:List T60):Le (f32o_b2n N v9 v10 v11) (f32o_b2 v9 v10 v11):=by
 unfold f32o_b2n f32o_b2
 repeat' (first | exact Le.refl _ | apply f32o_j1_le | apply Le.cond | apply Le.ite | apply Le.iter | apply Le.bind | (intro y; cases y <;> dsimp only) | intro y)
def f32o_j3n (N:Nat) (v19:Int) (v21:List Int):Option (((List Int) × Int) ⊕ Out T50 (List Int)) :=
 some (.inl (v21,w64 (v19 + (1:Int))))
theorem f32o_j3_le (N:Nat) (v19:Int) (v21:List Int):Le (f32o_j3n N v19 v21) (f32o_j3 v19 v21):=by
 unfold f32o_j3n f32o_j3
 repeat' (first | exact Le.refl _ | apply Le.cond | apply Le.ite | apply Le.iter | apply Le.bind | (intro y; cases y <;> dsimp only) | intro y)
def f32o_b4n (N:Nat) (v4:Int) (v5:List T43) (v13:List T60) (v18:List Int) (v19:Int):Option (((List Int) × Int) ⊕ Out T50 (List Int)) :=
 cond (decide (v19 < (v13.length:Int))) (if (0:Int) ≤ v19 ∧ v19 < (v13.length:Int) then (cond (((v13.getD v19.toNat default).f2) == ([119,97,105,116,115]:List UInt8)) ((f44n N (T50.mk v13 v4 v5) v19).bind fun v23=>some ((v23.length:Int) == (0:Int))) (some false)).bind fun v22=>cond v22 (if (v18.length + [v19].length) * 8 ≤ 140737488355328 then f32o_j3n N v19 (v18 ++ [v19]) else none) (f32o_j3n N v19 v18) else none) (some (.inr (.go v18)))
theorem f32o_b4_le (N:Nat) (v4:Int) (v5:List T43) (v13:List T60) (v18:List Int) (v19:Int):Le (f32o_b4n N v4 v5 v13 v18 v19) (f32o_b4 v4 v5 v13 v18 v19):=by
 unfold f32o_b4n f32o_b4
 repeat' (first | exact Le.refl _ | apply f44_le | apply f32o_j3_le | apply Le.cond | apply Le.ite | apply Le.iter | apply Le.bind | (intro y; cases y <;> dsimp only) | intro y)
def f32o_b5n (N:Nat) (v20:List Int) (v25:Bool) (v26:Int) (v27:List T60) (v28:Int) (v29:List T43):Option ((Bool × Int × (List T60) × Int × (List T43)) ⊕ Out T50 (Bool × (List T60) × Int × (List T43))) :=
 cond (decide (v26 < (v20.length:Int))) (if (0:Int) ≤ v26 ∧ v26 < (v20.length:Int) then (f70on N (v20.getD v26.toNat default) (T50.mk v27 v28 v29)).bind fun v34=>some (.inl (true,w64 (v26 + (1:Int)),v34.f0,v34.f1,v34.f2)) else none) (some (.inr (.go (v25,v27,v28,v29))))
theorem f32o_b5_le (N:Nat) (v20:List Int) (v25:Bool) (v26:Int) (v27:List T60) (v28:Int) (v29:List T43):Le (f32o_b5n N v20 v25 v26 v27 v28 v29) (f32o_b5 v20 v25 v26 v27 v28 v29):=by
 unfold f32o_b5n f32o_b5
 repeat' (first | exact Le.refl _ | apply f70o_le | apply Le.cond | apply Le.ite | apply Le.iter | apply Le.bind | (intro y; cases y <;> dsimp only) | intro y)
def f32o_b6n (N:Nat) (v2:Bool) (v3:List T60) (v4:Int) (v5:List T43):Option ((Bool × (List T60) × Int × (List T43)) ⊕ Out T50 ((List T60) × Int × (List T43))) :=
 cond v2 ((itN N (fun s=>f32o_b2n N s.1 s.2.1 s.2.2) (false,(1:Int),v3)).bind fun y=>match y with | .ret v17=>some (.inr (.ret v17)) | .go (v12,v13)=>(itN N (fun s=>f32o_b4n N v4 v5 v13 s.1 s.2) ([],(1:Int))).bind fun y=>match y with | .ret v24=>some (.inr (.ret v24)) | .go v20=>(itN N (fun s=>f32o_b5n N v20 s.1 s.2.1 s.2.2.1 s.2.2.2.1 s.2.2.2.2) (v12,(0:Int),v13,v4,v5)).bind fun y=>match y with | .ret v35=>some (.inr (.ret v35)) | .go (v30,v31,v32,v33)=>some (.inl (v30,v31,v32,v33))) (some (.inr (.go (v3,v4,v5))))
theorem f32o_b6_le (N:Nat) (v2:Bool) (v3:List T60) (v4:Int) (v5:List T43):Le (f32o_b6n N v2 v3 v4 v5) (f32o_b6 v2 v3 v4 v5):=by
 unfold f32o_b6n f32o_b6
 repeat' (first | exact Le.refl _ | apply f32o_b2_le | apply f32o_b4_le | apply f32o_b5_le | apply Le.cond | apply Le.ite | apply Le.iter | apply Le.bind | (intro y; cases y <;> dsimp only) | intro y)
def f32on (N:Nat) (v1:T50):Option T50 :=
 (itN N (fun s=>f32o_b6n N s.1 s.2.1 s.2.2.1 s.2.2.2) (true,v1.f0,v1.f1,v1.f2)).bind fun y=>match y with | .ret v36=>some v36 | .go (v6,v7,v8)=>some (T50.mk v6 v7 v8)
theorem f32o_le (N:Nat) (v1:T50):Le (f32on N v1) (f32o v1):=by
 unfold f32on f32o
 repeat' (first | exact Le.refl _ | apply f32o_b6_le | apply Le.cond | apply Le.ite | apply Le.iter | apply Le.bind | (intro y; cases y <;> dsimp only) | intro y)
def f43o_j1n (N:Nat) (v6:List T60) (v7:Int) (v8:List T43):Option (Bool × T50) :=
 (f32on N (T50.mk v6 v7 v8)).bind fun v9=>some (true,T50.mk v9.f0 v9.f1 v9.f2)
theorem f43o_j1_le (N:Nat) (v6:List T60) (v7:Int) (v8:List T43):Le (f43o_j1n N v6 v7 v8) (f43o_j1 v6 v7 v8):=by
 unfold f43o_j1n f43o_j1
 repeat' (first | exact Le.refl _ | apply f32o_le | apply Le.cond | apply Le.ite | apply Le.iter | apply Le.bind | (intro y; cases y <;> dsimp only) | intro y)
def f43on (N:Nat) (v1:Int) (v2:T50):Option (Bool × T50) :=
 if (0:Int) ≤ v1 ∧ v1 < (v2.f0.length:Int) then (cond (!(((v2.f0.getD v1.toNat default).f2) == ([114,117,110,115]:List UInt8))) (some true) ((f45n N v2 v1).bind fun v4=>some (v4 != (0:Int)))).bind fun v3=>cond v3 (some (false,T50.mk v2.f0 v2.f1 v2.f2)) (if (0:Int) ≤ (v2.f0.getD v1.toNat default).f1 ∧ (v2.f0.getD v1.toNat default).f1 < (((v2.f0.getD v1.toNat default).f0).length:Int) then if (v2.f2.length + [T43.mk v1 ((v2.f0.getD v1.toNat default).f1)].length) * 16 ≤ 140737488355328 then if ((((v2.f0.set v1.toNat (T60.mk ((v2.f0.getD v1.toNat default).f0) (w64 (((v2.f0.getD v1.toNat default).f1) + (1:Int))) ((v2.f0.getD v1.toNat default).f2) ((v2.f0.getD v1.toNat default).f3) ((v2.f0.getD v1.toNat default).f4) ((v2.f0.getD v1.toNat default).f5) ((v2.f0.getD v1.toNat default).f6) ((v2.f0.getD v1.toNat default).f7) ((v2.f0.getD v1.toNat default).f8))).getD v1.toNat default).f7).length + [(0:Int)].length) * 8 ≤ 140737488355328 then (f77on N v1 (((v2.f0.getD v1.toNat default).f0).getD (Int.toNat ((v2.f0.getD v1.toNat default).f1)) default) (T50.mk ((v2.f0.set v1.toNat (T60.mk ((v2.f0.getD v1.toNat default).f0) (w64 (((v2.f0.getD v1.toNat default).f1) + (1:Int))) ((v2.f0.getD v1.toNat default).f2) ((v2.f0.getD v1.toNat default).f3) ((v2.f0.getD v1.toNat default).f4) ((v2.f0.getD v1.toNat default).f5) ((v2.f0.getD v1.toNat default).f6) ((v2.f0.getD v1.toNat default).f7) ((v2.f0.getD v1.toNat default).f8))).set v1.toNat (T60.mk (((v2.f0.set v1.toNat (T60.mk ((v2.f0.getD v1.toNat default).f0) (w64 (((v2.f0.getD v1.toNat default).f1) + (1:Int))) ((v2.f0.getD v1.toNat default).f2) ((v2.f0.getD v1.toNat default).f3) ((v2.f0.getD v1.toNat default).f4) ((v2.f0.getD v1.toNat default).f5) ((v2.f0.getD v1.toNat default).f6) ((v2.f0.getD v1.toNat default).f7) ((v2.f0.getD v1.toNat default).f8))).getD v1.toNat default).f0) (((v2.f0.set v1.toNat (T60.mk ((v2.f0.getD v1.toNat default).f0) (w64 (((v2.f0.getD v1.toNat default).f1) + (1:Int))) ((v2.f0.getD v1.toNat default).f2) ((v2.f0.getD v1.toNat default).f3) ((v2.f0.getD v1.toNat default).f4) ((v2.f0.getD v1.toNat default).f5) ((v2.f0.getD v1.toNat default).f6) ((v2.f0.getD v1.toNat default).f7) ((v2.f0.getD v1.toNat default).f8))).getD v1.toNat default).f1) (((v2.f0.set v1.toNat (T60.mk ((v2.f0.getD v1.toNat default).f0) (w64 (((v2.f0.getD v1.toNat default).f1) + (1:Int))) ((v2.f0.getD v1.toNat default).f2) ((v2.f0.getD v1.toNat default).f3) ((v2.f0.getD v1.toNat default).f4) ((v2.f0.getD v1.toNat default).f5) ((v2.f0.getD v1.toNat default).f6) ((v2.f0.getD v1.toNat default).f7) ((v2.f0.getD v1.toNat default).f8))).getD v1.toNat default).f2) (((v2.f0.set v1.toNat (T60.mk ((v2.f0.getD v1.toNat default).f0) (w64 (((v2.f0.getD v1.toNat default).f1) + (1:Int))) ((v2.f0.getD v1.toNat default).f2) ((v2.f0.getD v1.toNat default).f3) ((v2.f0.getD v1.toNat default).f4) ((v2.f0.getD v1.toNat default).f5) ((v2.f0.getD v1.toNat default).f6) ((v2.f0.getD v1.toNat default).f7) ((v2.f0.getD v1.toNat default).f8))).getD v1.toNat default).f3) (((v2.f0.set v1.toNat (T60.mk ((v2.f0.getD v1.toNat default).f0) (w64 (((v2.f0.getD v1.toNat default).f1) + (1:Int))) ((v2.f0.getD v1.toNat default).f2) ((v2.f0.getD v1.toNat default).f3) ((v2.f0.getD v1.toNat default).f4) ((v2.f0.getD v1.toNat default).f5) ((v2.f0.getD v1.toNat default).f6) ((v2.f0.getD v1.toNat default).f7) ((v2.f0.getD v1.toNat default).f8))).getD v1.toNat default).f4) (((v2.f0.set v1.toNat (T60.mk ((v2.f0.getD v1.toNat default).f0) (w64 (((v2.f0.getD v1.toNat default).f1) + (1:Int))) ((v2.f0.getD v1.toNat default).f2) ((v2.f0.getD v1.toNat default).f3) ((v2.f0.getD v1.toNat default).f4) ((v2.f0.getD v1.toNat default).f5) ((v2.f0.getD v1.toNat default).f6) ((v2.f0.getD v1.toNat default).f7) ((v2.f0.getD v1.toNat default).f8))).getD v1.toNat default).f5) (((v2.f0.set v1.toNat (T60.mk ((v2.f0.getD v1.toNat default).f0) (w64 (((v2.f0.getD v1.toNat default).f1) + (1:Int))) ((v2.f0.getD v1.toNat default).f2) ((v2.f0.getD v1.toNat default).f3) ((v2.f0.getD v1.toNat default).f4) ((v2.f0.getD v1.toNat default).f5) ((v2.f0.getD v1.toNat default).f6) ((v2.f0.getD v1.toNat default).f7) ((v2.f0.getD v1.toNat default).f8))).getD v1.toNat default).f6) ((((v2.f0.set v1.toNat (T60.mk ((v2.f0.getD v1.toNat default).f0) (w64 (((v2.f0.getD v1.toNat default).f1) + (1:Int))) ((v2.f0.getD v1.toNat default).f2) ((v2.f0.getD v1.toNat default).f3) ((v2.f0.getD v1.toNat default).f4) ((v2.f0.getD v1.toNat default).f5) ((v2.f0.getD v1.toNat default).f6) ((v2.f0.getD v1.toNat default).f7) ((v2.f0.getD v1.toNat default).f8))).getD v1.toNat default).f7) ++ [(0:Int)]) (((v2.f0.set v1.toNat (T60.mk ((v2.f0.getD v1.toNat default).f0) (w64 (((v2.f0.getD v1.toNat default).f1) + (1:Int))) ((v2.f0.getD v1.toNat default).f2) ((v2.f0.getD v1.toNat default).f3) ((v2.f0.getD v1.toNat default).f4) ((v2.f0.getD v1.toNat default).f5) ((v2.f0.getD v1.toNat default).f6) ((v2.f0.getD v1.toNat default).f7) ((v2.f0.getD v1.toNat default).f8))).getD v1.toNat default).f8))) v2.f1 (v2.f2 ++ [T43.mk v1 ((v2.f0.getD v1.toNat default).f1)]))).bind fun v5=>cond (!v5.1) none ((f78n N v5.2 v1).bind fun v10=>cond v10 ((f79on N v1 (T50.mk v5.2.f0 v5.2.f1 v5.2.f2)).bind fun v11=>f43o_j1n N v11.f0 v11.f1 v11.f2) (f43o_j1n N v5.2.f0 v5.2.f1 v5.2.f2)) else none else none else none) else none
theorem f43o_le (N:Nat) (v1:Int) (v2:T50):Le (f43on N v1 v2) (f43o v1 v2):=by
 unfold f43on f43o
 repeat' (first | exact Le.refl _ | apply f45_le | apply f77o_le | apply f78_le | apply f79o_le | apply f43o_j1_le | apply Le.cond | apply Le.ite | apply Le.iter | apply Le.bind | (intro y; cases y <;> dsimp only) | intro y)
def f18n (N:Nat) (v1:T50) (v2:Int):Option (List UInt8) :=
 (f39n N v1).bind fun v3=>(cond v3 (some true) ((f42n N v1 v2).bind fun v5=>some (!v5))).bind fun v4=>cond v4 (some ([]:List UInt8)) (if (0:Int) ≤ v2 ∧ v2 < (v1.f0.length:Int) then some ((v1.f0.getD v2.toNat default).f2) else none)
theorem f18_le (N:Nat) (v1:T50) (v2:Int):Le (f18n N v1 v2) (f18 v1 v2):=by
 unfold f18n f18
 repeat' (first | exact Le.refl _ | apply f39_le | apply f42_le | apply Le.cond | apply Le.ite | apply Le.iter | apply Le.bind | (intro y; cases y <;> dsimp only) | intro y)
def f29n (N:Nat) (v1:List UInt8) (v2:List Int):Option T54 :=
 some (T54.mk v1 v2 ([]:List UInt8))
theorem f29_le (N:Nat) (v1:List UInt8) (v2:List Int):Le (f29n N v1 v2) (f29 v1 v2):=by
 unfold f29n f29
 repeat' (first | exact Le.refl _ | apply Le.cond | apply Le.ite | apply Le.iter | apply Le.bind | (intro y; cases y <;> dsimp only) | intro y)
def f36_b1n (N:Nat) (v1:T54) (v2:Int) (v3:Int) (v4:Int):Option (Int ⊕ Out Bool Unit) :=
 cond (decide (v4 < (v1.f1.length:Int))) (if (0:Int) ≤ v4 ∧ v4 < (v1.f1.length:Int) then (f37n N (v1.f1.getD v4.toNat default) (1:Int) v3).bind fun v5=>(cond (!v5) (some true) (some (v1.f1.getD v4.toNat default == v2))).bind fun v6=>(cond v6 (some true) (if (0:Int) ≤ v4 ∧ v4 ≤ (v1.f1.length:Int) then (f73n N ((v1.f1.take v4.toNat).drop 0) (v1.f1.getD v4.toNat default)).bind fun v8=>some v8 else none)).bind fun v7=>cond v7 (some (.inr (.ret false))) (some (.inl (w64 (v4 + (1:Int))))) else none) (some (.inr (.go ())))
theorem f36_b1_le (N:Nat) (v1:T54) (v2:Int) (v3:Int) (v4:Int):Le (f36_b1n N v1 v2 v3 v4) (f36_b1 v1 v2 v3 v4):=by
 unfold f36_b1n f36_b1
 repeat' (first | exact Le.refl _ | apply f37_le | apply f73_le | apply Le.cond | apply Le.ite | apply Le.iter | apply Le.bind | (intro y; cases y <;> dsimp only) | intro y)
def f36_j2n (N:Nat) (v13:Int) (v14:Bool):Option ((Bool × Int) ⊕ Out Bool Unit) :=
 cond (!v14) (some (.inr (.ret false))) (some (.inl (v14,w64 (v13 + (1:Int)))))
theorem f36_j2_le (N:Nat) (v13:Int) (v14:Bool):Le (f36_j2n N v13 v14) (f36_j2 v13 v14):=by
 unfold f36_j2n f36_j2
 repeat' (first | exact Le.refl _ | apply Le.cond | apply Le.ite | apply Le.iter | apply Le.bind | (intro y; cases y <;> dsimp only) | intro y)
def f36_b3n (N:Nat) (v1:T54) (v3:Int) (v10:(List UInt8) × Bool) (v12:Bool) (v13:Int):Option ((Bool × Int) ⊕ Out Bool Unit) :=
 cond (decide (v13 < (v1.f1.length:Int))) (if (0:Int) ≤ v13 ∧ v13 < (v1.f1.length:Int) then if (0:Int) ≤ v13 ∧ v13 < (v10.1.length:Int) then cond ((((v10.1.getD v13.toNat 0).toNat:Nat):Int) == (105:Int)) ((f37n N (v1.f1.getD v13.toNat default) (1:Int) v3).bind fun v15=>f36_j2n N v13 v15) (cond ((((v10.1.getD v13.toNat 0).toNat:Nat):Int) == (99:Int)) ((f37n N (v1.f1.getD v13.toNat default) (0:Int) (9:Int)).bind fun v16=>f36_j2n N v13 v16) (cond ((((v10.1.getD v13.toNat 0).toNat:Nat):Int) == (114:Int)) ((f37n N (v1.f1.getD v13.toNat default) (0:Int) (3:Int)).bind fun v17=>f36_j2n N v13 v17) (cond ((((v10.1.getD v13.toNat 0).toNat:Nat):Int) == (118:Int)) ((f37n N (v1.f1.getD v13.toNat default) (-1000000:Int) (1000000:Int)).bind fun v18=>f36_j2n N v13 v18) (cond ((((v10.1.getD v13.toNat 0).toNat:Nat):Int) == (119:Int)) ((f37n N (v1.f1.getD v13.toNat default) (1:Int) (9:Int)).bind fun v19=>f36_j2n N v13 v19) (f36_j2n N v13 v12))))) else none else none) (some (.inr (.go ())))
theorem f36_b3_le (N:Nat) (v1:T54) (v3:Int) (v10:(List UInt8) × Bool) (v12:Bool) (v13:Int):Le (f36_b3n N v1 v3 v10 v12 v13) (f36_b3 v1 v3 v10 v12 v13):=by
 unfold f36_b3n f36_b3
 repeat' (first | exact Le.refl _ | apply f37_le | apply f36_j2_le | apply Le.cond | apply Le.ite | apply Le.iter | apply Le.bind | (intro y; cases y <;> dsimp only) | intro y)
def f36n (N:Nat) (v1:T54) (v2:Int) (v3:Int):Option Bool :=
 cond (v1.f0 == ([119,105,116,104]:List UInt8)) ((itN N (fun s=>f36_b1n N v1 v2 v3 s) (0:Int)).bind fun y=>match y with | .ret v9=>some v9 | .go _=>some (decide ((v1.f1.length:Int) > (0:Int)))) ((f74n N v1.f0).bind fun v10=>(cond (!v10.2) (some true) (some ((v10.1.length:Int) != (v1.f1.length:Int)))).bind fun v11=>cond v11 (some false) ((itN N (fun s=>f36_b3n N v1 v3 v10 s.1 s.2) (v10.2,(0:Int))).bind fun y=>match y with | .ret v20=>some v20 | .go _=>some true))
theorem f36_le (N:Nat) (v1:T54) (v2:Int) (v3:Int):Le (f36n N v1 v2 v3) (f36 v1 v2 v3):=by
 unfold f36n f36
 repeat' (first | exact Le.refl _ | apply f36_b1_le | apply f74_le | apply f36_b3_le | apply Le.cond | apply Le.ite | apply Le.iter | apply Le.bind | (intro y; cases y <;> dsimp only) | intro y)
def f35n (N:Nat) (v1:T54) (v2:Int) (v3:List (List T54)):Option Bool :=
 (f36n N v1 (w64 (v2 + (1:Int))) (v3.length:Int)).bind fun v4=>some (!v4)
theorem f35_le (N:Nat) (v1:T54) (v2:Int) (v3:List (List T54)):Le (f35n N v1 v2 v3) (f35 v1 v2 v3):=by
 unfold f35n f35
 repeat' (first | exact Le.refl _ | apply f36_le | apply Le.cond | apply Le.ite | apply Le.iter | apply Le.bind | (intro y; cases y <;> dsimp only) | intro y)
def f72_35_b1n (N:Nat) (v1:List T54) (v2:Int) (v3:List (List T54)) (v4:Int):Option (Int ⊕ Out Int Unit) :=
 cond (decide (v4 < (v1.length:Int))) (if (0:Int) ≤ v4 ∧ v4 < (v1.length:Int) then (f35n N (v1.getD v4.toNat default) v2 v3).bind fun v5=>cond v5 (some (.inr (.ret v4))) (some (.inl (w64 (v4 + (1:Int))))) else none) (some (.inr (.go ())))
theorem f72_35_b1_le (N:Nat) (v1:List T54) (v2:Int) (v3:List (List T54)) (v4:Int):Le (f72_35_b1n N v1 v2 v3 v4) (f72_35_b1 v1 v2 v3 v4):=by
 unfold f72_35_b1n f72_35_b1
 repeat' (first | exact Le.refl _ | apply f35_le | apply Le.cond | apply Le.ite | apply Le.iter | apply Le.bind | (intro y; cases y <;> dsimp only) | intro y)
def f72_35n (N:Nat) (v1:List T54) (v2:Int) (v3:List (List T54)):Option Int :=
 (itN N (fun s=>f72_35_b1n N v1 v2 v3 s) (0:Int)).bind fun y=>match y with | .ret v6=>some v6 | .go _=>some (-1:Int)
theorem f72_35_le (N:Nat) (v1:List T54) (v2:Int) (v3:List (List T54)):Le (f72_35n N v1 v2 v3) (f72_35 v1 v2 v3):=by
 unfold f72_35n f72_35
 repeat' (first | exact Le.refl _ | apply f72_35_b1_le | apply Le.cond | apply Le.ite | apply Le.iter | apply Le.bind | (intro y; cases y <;> dsimp only) | intro y)
def f34_35n (N:Nat) (v1:List T54) (v2:Int) (v3:List (List T54)):Option Bool :=
 (f72_35n N v1 v2 v3).bind fun v4=>some (decide (v4 ≥ (0:Int)))
theorem f34_35_le (N:Nat) (v1:List T54) (v2:Int) (v3:List (List T54)):Le (f34_35n N v1 v2 v3) (f34_35 v1 v2 v3):=by
 unfold f34_35n f34_35
 repeat' (first | exact Le.refl _ | apply f72_35_le | apply Le.cond | apply Le.ite | apply Le.iter | apply Le.bind | (intro y; cases y <;> dsimp only) | intro y)
def f14_b1n (N:Nat) (v1:List (List T54)) (v2:Int):Option (Int ⊕ Out Bool Unit) :=
 cond (decide (v2 < (v1.length:Int))) (if (0:Int) ≤ v2 ∧ v2 < (v1.length:Int) then (cond (decide (((v1.getD v2.toNat default).length:Int) > (60:Int))) (some true) ((f34_35n N (v1.getD v2.toNat default) v2 v1).bind fun v4=>some v4)).bind fun v3=>cond v3 (some (.inr (.ret false))) (some (.inl (w64 (v2 + (1:Int))))) else none) (some (.inr (.go ())))
theorem f14_b1_le (N:Nat) (v1:List (List T54)) (v2:Int):Le (f14_b1n N v1 v2) (f14_b1 v1 v2):=by
 unfold f14_b1n f14_b1
 repeat' (first | exact Le.refl _ | apply f34_35_le | apply Le.cond | apply Le.ite | apply Le.iter | apply Le.bind | (intro y; cases y <;> dsimp only) | intro y)
def f14n (N:Nat) (v1:List (List T54)):Option Bool :=
 (itN N (fun s=>f14_b1n N v1 s) (0:Int)).bind fun y=>match y with | .ret v5=>some v5 | .go _=>(f37n N (v1.length:Int) (1:Int) (8:Int)).bind fun v6=>some v6
theorem f14_le (N:Nat) (v1:List (List T54)):Le (f14n N v1) (f14 v1):=by
 unfold f14n f14
 repeat' (first | exact Le.refl _ | apply f14_b1_le | apply f37_le | apply Le.cond | apply Le.ite | apply Le.iter | apply Le.bind | (intro y; cases y <;> dsimp only) | intro y)
def f31n (N:Nat) (v1:List Int):Option (List Int) :=
 if (([]:List Int).length + v1.length) * 8 ≤ 140737488355328 then some (([]:List Int) ++ v1) else none
theorem f31_le (N:Nat) (v1:List Int):Le (f31n N v1) (f31 v1):=by
 unfold f31n f31
 repeat' (first | exact Le.refl _ | apply Le.cond | apply Le.ite | apply Le.iter | apply Le.bind | (intro y; cases y <;> dsimp only) | intro y)
def f12_b1n (N:Nat) (v1:List (List T54)) (v3:Int) (v6:Int) (v7:List T54):Option ((Int × (List T54)) ⊕ Out ((Option T50) × Int) (List T54)) :=
 cond (decide (v6 < ((v1.getD v3.toNat default).length:Int))) (if (0:Int) ≤ v6 ∧ v6 < ((v1.getD v3.toNat default).length:Int) then (f31n N (((v1.getD v3.toNat default).getD v6.toNat default).f1)).bind fun v9=>if (v7.length + [T54.mk (((v1.getD v3.toNat default).getD v6.toNat default).f0) v9 (((v1.getD v3.toNat default).getD v6.toNat default).f2)].length) * 56 ≤ 140737488355328 then some (.inl (w64 (v6 + (1:Int)),v7 ++ [T54.mk (((v1.getD v3.toNat default).getD v6.toNat default).f0) v9 (((v1.getD v3.toNat default).getD v6.toNat default).f2)])) else none else none) (some (.inr (.go v7)))
theorem f12_b1_le (N:Nat) (v1:List (List T54)) (v3:Int) (v6:Int) (v7:List T54):Le (f12_b1n N v1 v3 v6 v7) (f12_b1 v1 v3 v6 v7):=by
 unfold f12_b1n f12_b1
 repeat' (first | exact Le.refl _ | apply f31_le | apply Le.cond | apply Le.ite | apply Le.iter | apply Le.bind | (intro y; cases y <;> dsimp only) | intro y)
def f12_b2n (N:Nat) (v1:List (List T54)) (v3:Int) (v4:List T60):Option ((Int × (List T60)) ⊕ Out ((Option T50) × Int) (List T60)) :=
 cond (decide (v3 < (v1.length:Int))) (if (0:Int) ≤ v3 ∧ v3 < (v1.length:Int) then (itN N (fun s=>f12_b1n N v1 v3 s.1 s.2) ((0:Int),[])).bind fun y=>match y with | .ret v10=>some (.inr (.ret v10)) | .go v8=>if (v4.length + 1) * 256 ≤ 140737488355328 then some (.inl (w64 (v3 + (1:Int)),v4 ++ [T60.mk v8 (0:Int) ([114,117,110,115]:List UInt8) ([]:List Int) ([]:List Int) ([]:List Int) ([]:List Int) ([]:List Int) (some ([]:List (Int × Int)))])) else none else none) (some (.inr (.go v4)))
theorem f12_b2_le (N:Nat) (v1:List (List T54)) (v3:Int) (v4:List T60):Le (f12_b2n N v1 v3 v4) (f12_b2 v1 v3 v4):=by
 unfold f12_b2n f12_b2
 repeat' (first | exact Le.refl _ | apply f12_b1_le | apply Le.cond | apply Le.ite | apply Le.iter | apply Le.bind | (intro y; cases y <;> dsimp only) | intro y)
def f12n (N:Nat) (v1:List (List T54)):Option ((Option T50) × Int) :=
 (f14n N v1).bind fun v2=>cond (!v2) (some (none,(2:Int))) (if (256:Int) * (1:Int) ≤ 281474976710656 ∧ (1:Int) ≤ 9223372036854775807 then (itN N (fun s=>f12_b2n N v1 s.1 s.2) ((0:Int),List.replicate 1 (T60.mk ([]:List T54) (0:Int) ([]:List UInt8) ([]:List Int) ([]:List Int) ([]:List Int) ([]:List Int) ([]:List Int) none))).bind fun y=>match y with | .ret v11=>some v11 | .go v5=>(f32on N (T50.mk v5 (0:Int) ([]:List T43))).bind fun v12=>some (some (T50.mk v12.f0 v12.f1 v12.f2),(0:Int)) else none)
theorem f12_le (N:Nat) (v1:List (List T54)):Le (f12n N v1) (f12 v1):=by
 unfold f12n f12
 repeat' (first | exact Le.refl _ | apply f14_le | apply f12_b2_le | apply f32o_le | apply Le.cond | apply Le.ite | apply Le.iter | apply Le.bind | (intro y; cases y <;> dsimp only) | intro y)
def f41n (N:Nat) (v1:Int) (v2:T50):Option Bool :=
 (f42n N v2 v1).bind fun v3=>some (!v3)
theorem f41_le (N:Nat) (v1:Int) (v2:T50):Le (f41n N v1 v2) (f41 v1 v2):=by
 unfold f41n f41
 repeat' (first | exact Le.refl _ | apply f42_le | apply Le.cond | apply Le.ite | apply Le.iter | apply Le.bind | (intro y; cases y <;> dsimp only) | intro y)
def f76_41_b1n (N:Nat) (v1:List Int) (v2:T50) (v3:Int):Option (Int ⊕ Out Int Unit) :=
 cond (decide (v3 < (v1.length:Int))) (if (0:Int) ≤ v3 ∧ v3 < (v1.length:Int) then (f41n N (v1.getD v3.toNat default) v2).bind fun v4=>cond v4 (some (.inr (.ret v3))) (some (.inl (w64 (v3 + (1:Int))))) else none) (some (.inr (.go ())))
theorem f76_41_b1_le (N:Nat) (v1:List Int) (v2:T50) (v3:Int):Le (f76_41_b1n N v1 v2 v3) (f76_41_b1 v1 v2 v3):=by
 unfold f76_41_b1n f76_41_b1
 repeat' (first | exact Le.refl _ | apply f41_le | apply Le.cond | apply Le.ite | apply Le.iter | apply Le.bind | (intro y; cases y <;> dsimp only) | intro y)
def f76_41n (N:Nat) (v1:List Int) (v2:T50):Option Int :=
 (itN N (fun s=>f76_41_b1n N v1 v2 s) (0:Int)).bind fun y=>match y with | .ret v5=>some v5 | .go _=>some (-1:Int)
theorem f76_41_le (N:Nat) (v1:List Int) (v2:T50):Le (f76_41n N v1 v2) (f76_41 v1 v2):=by
 unfold f76_41n f76_41
 repeat' (first | exact Le.refl _ | apply f76_41_b1_le | apply Le.cond | apply Le.ite | apply Le.iter | apply Le.bind | (intro y; cases y <;> dsimp only) | intro y)
def f40_41n (N:Nat) (v1:List Int) (v2:T50):Option Bool :=
 (f76_41n N v1 v2).bind fun v3=>some (decide (v3 ≥ (0:Int)))
theorem f40_41_le (N:Nat) (v1:List Int) (v2:T50):Le (f40_41n N v1 v2) (f40_41 v1 v2):=by
 unfold f40_41n f40_41
 repeat' (first | exact Le.refl _ | apply f76_41_le | apply Le.cond | apply Le.ite | apply Le.iter | apply Le.bind | (intro y; cases y <;> dsimp only) | intro y)
def f16o_b1n (N:Nat) (v1:List Int) (v5:Int) (v6:List T60) (v7:Int) (v8:List T43):Option ((Int × (List T60) × Int × (List T43)) ⊕ Out (Int × T50) ((List T60) × Int × (List T43))) :=
 cond (decide (v5 < (v1.length:Int))) (if (0:Int) ≤ v5 ∧ v5 < (v1.length:Int) then (f43on N (v1.getD v5.toNat default) (T50.mk v6 v7 v8)).bind fun v12=>some (.inl (w64 (v5 + (1:Int)),v12.2.f0,v12.2.f1,v12.2.f2)) else none) (some (.inr (.go (v6,v7,v8))))
theorem f16o_b1_le (N:Nat) (v1:List Int) (v5:Int) (v6:List T60) (v7:Int) (v8:List T43):Le (f16o_b1n N v1 v5 v6 v7 v8) (f16o_b1 v1 v5 v6 v7 v8):=by
 unfold f16o_b1n f16o_b1
 repeat' (first | exact Le.refl _ | apply f43o_le | apply Le.cond | apply Le.ite | apply Le.iter | apply Le.bind | (intro y; cases y <;> dsimp only) | intro y)
def f16o_j2n (N:Nat) (v22:Int) (v30:Bool) (v31:List T60) (v32:Int) (v33:List T43):Option ((Bool × Int × (List T60) × Int × (List T43)) ⊕ Out (Int × T50) (Bool × (List T60) × Int × (List T43))) :=
 some (.inl (v30,w64 (v22 + (1:Int)),v31,v32,v33))
theorem f16o_j2_le (N:Nat) (v22:Int) (v30:Bool) (v31:List T60) (v32:Int) (v33:List T43):Le (f16o_j2n N v22 v30 v31 v32 v33) (f16o_j2 v22 v30 v31 v32 v33):=by
 unfold f16o_j2n f16o_j2
 repeat' (first | exact Le.refl _ | apply Le.cond | apply Le.ite | apply Le.iter | apply Le.bind | (intro y; cases y <;> dsimp only) | intro y)
def f16o_b3n (N:Nat) (v21:Bool) (v22:Int) (v23:List T60) (v24:Int) (v25:List T43):Option ((Bool × Int × (List T60) × Int × (List T43)) ⊕ Out (Int × T50) (Bool × (List T60) × Int × (List T43))) :=
 cond (decide (v22 < (v23.length:Int))) ((f43on N v22 (T50.mk v23 v24 v25)).bind fun v34=>cond v34.1 (f16o_j2n N v22 true v34.2.f0 v34.2.f1 v34.2.f2) (f16o_j2n N v22 v21 v34.2.f0 v34.2.f1 v34.2.f2)) (some (.inr (.go (v21,v23,v24,v25))))
theorem f16o_b3_le (N:Nat) (v21:Bool) (v22:Int) (v23:List T60) (v24:Int) (v25:List T43):Le (f16o_b3n N v21 v22 v23 v24 v25) (f16o_b3 v21 v22 v23 v24 v25):=by
 unfold f16o_b3n f16o_b3
 repeat' (first | exact Le.refl _ | apply f43o_le | apply f16o_j2_le | apply Le.cond | apply Le.ite | apply Le.iter | apply Le.bind | (intro y; cases y <;> dsimp only) | intro y)
def f16o_b4n (N:Nat) (v14:Bool) (v15:List T60) (v16:Int) (v17:List T43):Option ((Bool × (List T60) × Int × (List T43)) ⊕ Out (Int × T50) ((List T60) × Int × (List T43))) :=
 cond v14 ((itN N (fun s=>f16o_b3n N s.1 s.2.1 s.2.2.1 s.2.2.2.1 s.2.2.2.2) (false,(1:Int),v15,v16,v17)).bind fun y=>match y with | .ret v35=>some (.inr (.ret v35)) | .go (v26,v27,v28,v29)=>some (.inl (v26,v27,v28,v29))) (some (.inr (.go (v15,v16,v17))))
theorem f16o_b4_le (N:Nat) (v14:Bool) (v15:List T60) (v16:Int) (v17:List T43):Le (f16o_b4n N v14 v15 v16 v17) (f16o_b4 v14 v15 v16 v17):=by
 unfold f16o_b4n f16o_b4
 repeat' (first | exact Le.refl _ | apply f16o_b3_le | apply Le.cond | apply Le.ite | apply Le.iter | apply Le.bind | (intro y; cases y <;> dsimp only) | intro y)
def f16on (N:Nat) (v1:List Int) (v2:T50):Option (Int × T50) :=
 (f39n N v2).bind fun v3=>cond v3 (some ((7:Int),T50.mk v2.f0 v2.f1 v2.f2)) ((f40_41n N v1 v2).bind fun v4=>cond v4 (some ((2:Int),T50.mk v2.f0 v2.f1 v2.f2)) ((itN N (fun s=>f16o_b1n N v1 s.1 s.2.1 s.2.2.1 s.2.2.2) ((0:Int),v2.f0,v2.f1,v2.f2)).bind fun y=>match y with | .ret v13=>some v13 | .go (v9,v10,v11)=>(itN N (fun s=>f16o_b4n N s.1 s.2.1 s.2.2.1 s.2.2.2) (true,v9,v10,v11)).bind fun y=>match y with | .ret v36=>some v36 | .go (v18,v19,v20)=>some ((0:Int),T50.mk v18 v19 v20)))
theorem f16o_le (N:Nat) (v1:List Int) (v2:T50):Le (f16on N v1 v2) (f16o v1 v2):=by
 unfold f16on f16o
 repeat' (first | exact Le.refl _ | apply f39_le | apply f40_41_le | apply f16o_b1_le | apply f16o_b4_le | apply Le.cond | apply Le.ite | apply Le.iter | apply Le.bind | (intro y; cases y <;> dsimp only) | intro y)
def f69n (N:Nat) (v1:T60):Option (List Int) :=
 some (arrL 4 v1.f4)
theorem f69_le (N:Nat) (v1:T60):Le (f69n N v1) (f69 v1):=by
 unfold f69n f69
 repeat' (first | exact Le.refl _ | apply Le.cond | apply Le.ite | apply Le.iter | apply Le.bind | (intro y; cases y <;> dsimp only) | intro y)
def f67_69n (N:Nat) (v1:T50) (v2:Int):Option ((List Int) × Int) :=
 (f39n N v1).bind fun v3=>cond v3 (some (([]:List Int),(7:Int))) ((f42n N v1 v2).bind fun v4=>cond (!v4) (some (([]:List Int),(2:Int))) (if (0:Int) ≤ v2 ∧ v2 < (v1.f0.length:Int) then (f69n N (v1.f0.getD v2.toNat default)).bind fun v5=>(f31n N v5).bind fun v6=>some (v6,(0:Int)) else none))
theorem f67_69_le (N:Nat) (v1:T50) (v2:Int):Le (f67_69n N v1 v2) (f67_69 v1 v2):=by
 unfold f67_69n f67_69
 repeat' (first | exact Le.refl _ | apply f39_le | apply f42_le | apply f69_le | apply f31_le | apply Le.cond | apply Le.ite | apply Le.iter | apply Le.bind | (intro y; cases y <;> dsimp only) | intro y)
def f30n (N:Nat) (v1:T50) (v2:Int):Option ((List Int) × Int) :=
 (f67_69n N v1 v2).bind fun v3=>some (v3.1,v3.2)
theorem f30_le (N:Nat) (v1:T50) (v2:Int):Le (f30n N v1 v2) (f30 v1 v2):=by
 unfold f30n f30
 repeat' (first | exact Le.refl _ | apply f67_69_le | apply Le.cond | apply Le.ite | apply Le.iter | apply Le.bind | (intro y; cases y <;> dsimp only) | intro y)
def f11n (N:Nat) :Option Bool :=
 (f29n N ([112,117,116]:List UInt8) [(2:Int),(0:Int),(7:Int)]).bind fun v1=>(f29n N ([97,108,108]:List UInt8) ([]:List Int)).bind fun v2=>(f29n N ([103,101,116]:List UInt8) [(1:Int),(0:Int),(0:Int)]).bind fun v3=>(f29n N ([112,117,116]:List UInt8) [(1:Int),(0:Int),(5:Int)]).bind fun v4=>(f29n N ([97,108,108]:List UInt8) ([]:List Int)).bind fun v5=>(f29n N ([103,101,116]:List UInt8) [(2:Int),(0:Int),(0:Int)]).bind fun v6=>(f12n N ([[v1,v2,v3],[v4,v5,v6]])).bind fun v7=>match v7 with | (none,v9)=>(cond (v9 != (0:Int)) (some true) (some true)).bind fun v10=>(cond v10 (some true) none).bind fun v11=>cond v11 (some false) none | (some v8,v9)=>(cond (v9 != (0:Int)) (some true) (some false)).bind fun v12=>(cond v12 (some (true,v8.f0,v8.f1,v8.f2)) ((f16on N [(2:Int)] (T50.mk v8.f0 v8.f1 v8.f2)).bind fun v17=>some ((v17.1 != (0:Int)),v17.2.f0,v17.2.f1,v17.2.f2))).bind fun (v13,v14,v15,v16)=>cond v13 (some false) ((f30n N (T50.mk v14 v15 v16) (1:Int)).bind fun v18=>(f30n N (T50.mk v14 v15 v16) (2:Int)).bind fun v19=>(cond ((v18.1.length:Int) == (4:Int)) (if (0:Int) < (v18.1.length:Int) then some (v18.1.getD 0 default == (5:Int)) else none) (some false)).bind fun v20=>(cond v20 (some ((v19.1.length:Int) == (4:Int))) (some false)).bind fun v21=>(cond v21 (if (0:Int) < (v19.1.length:Int) then some (v19.1.getD 0 default == (7:Int)) else none) (some false)).bind fun v22=>(cond v22 ((f18n N (T50.mk v14 v15 v16) (1:Int)).bind fun v24=>some (v24 == ([101,110,100,101,100]:List UInt8))) (some false)).bind fun v23=>some v23)
theorem f11_le (N:Nat) :Le (f11n N ) (f11 ):=by
 unfold f11n f11
 repeat' (first | exact Le.refl _ | apply f29_le | apply f12_le | apply f16o_le | apply f30_le | apply f18_le | apply Le.cond | apply Le.ite | apply Le.iter | apply Le.bind | (rintro (⟨_ | _,_⟩:Option _ × _) <;> dsimp only) | (intro y; cases y <;> dsimp only) | intro y)
end Go.Sx.img
