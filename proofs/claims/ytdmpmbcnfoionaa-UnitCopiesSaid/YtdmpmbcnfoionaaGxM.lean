/- The functions with so many rounds a loop; no condition. -/
import Derived.Test.YtdmpmbcnfoionaaGx7
import Derived.Test.YtdmpmbcnfoionaaSxD
namespace Go.Sx.unit
open Go Go.Sx Go.Proofs
set_option linter.unusedVariables false

def f43n (N:Nat) (v1:List Int) (v2:Int):Option Int :=
 some (idxB v1 v2)
theorem f43_le (N:Nat) (v1:List Int) (v2:Int):Le (f43n N v1 v2) (f43 v1 v2):=by
 unfold f43n f43
 repeat' (first | exact Le.refl _ | apply Le.cond | apply Le.ite | apply Le.iter | apply Le.bind | (intro y; cases y <;> dsimp only) | intro y)
def f60n (N:Nat) (v1:List Int):Option Int :=
 if (0:Int) < (v1.length:Int) ∧ (1:Int) < (v1.length:Int) ∧ (2:Int) < (v1.length:Int) ∧ (3:Int) < (v1.length:Int) then some (w64 ((BitVec.ofInt (IntKind.bits .i64) (w64 ((BitVec.ofInt (IntKind.bits .i64) (w64 ((BitVec.ofInt (IntKind.bits .i64) (w64 ((w64 (v1.getD 0 default)) * (2:Int) ^ (min (Int.toNat (24:Int)) (IntKind.bits .i64)))) ||| BitVec.ofInt (IntKind.bits .i64) (w64 ((w64 (v1.getD 1 default)) * (2:Int) ^ (min (Int.toNat (16:Int)) (IntKind.bits .i64))))).toNat:Int)) ||| BitVec.ofInt (IntKind.bits .i64) (w64 ((w64 (v1.getD 2 default)) * (2:Int) ^ (min (Int.toNat (8:Int)) (IntKind.bits .i64))))).toNat:Int)) ||| BitVec.ofInt (IntKind.bits .i64) (w64 (v1.getD 3 default))).toNat:Int)) else none
theorem f60_le (N:Nat) (v1:List Int):Le (f60n N v1) (f60 v1):=by
 unfold f60n f60
 repeat' (first | exact Le.refl _ | apply Le.cond | apply Le.ite | apply Le.iter | apply Le.bind | (intro y; cases y <;> dsimp only) | intro y)
def f36n (N:Nat) (v1:List UInt8) (v2:List Int):Option ((List Int) × Int × Bool) :=
 cond ((v2.length:Int) == (0:Int)) (some (([]:List Int),(0:Int),false)) (cond (v1 == ([108,105,110,101,115]:List UInt8)) ((f43n N v2 (10:Int)).bind fun v3=>cond (decide (v3 ≥ (0:Int))) (if (0:Int) ≤ v3 ∧ v3 ≤ (v2.length:Int) then some ((v2.take v3.toNat).drop 0,w64 (v3 + (1:Int)),true) else none) (some (v2,(v2.length:Int),true))) (cond (decide ((v2.length:Int) < (8:Int))) (some (([]:List Int),(0:Int),false)) ((f60n N v2).bind fun v4=>(cond (decide (v4 > (1000:Int))) (some true) (some (decide ((v2.length:Int) < w64 (v4 + (8:Int)))))).bind fun v5=>(cond v5 (some true) (if (0:Int) ≤ w64 ((4:Int) + v4) ∧ w64 ((4:Int) + v4) ≤ (v2.length:Int) then (f60n N ((v2.take (Int.toNat (v2.length:Int))).drop (Int.toNat (w64 ((4:Int) + v4))))).bind fun v7=>some (v7 != v4) else none)).bind fun v6=>cond v6 (some (([]:List Int),(0:Int),false)) (if (4:Int) ≤ w64 ((4:Int) + v4) ∧ w64 ((4:Int) + v4) ≤ (v2.length:Int) then some ((v2.take (Int.toNat (w64 ((4:Int) + v4)))).drop 4,w64 (v4 + (8:Int)),true) else none))))
theorem f36_le (N:Nat) (v1:List UInt8) (v2:List Int):Le (f36n N v1 v2) (f36 v1 v2):=by
 unfold f36n f36
 repeat' (first | exact Le.refl _ | apply f43_le | apply f60_le | apply Le.cond | apply Le.ite | apply Le.iter | apply Le.bind | (intro y; cases y <;> dsimp only) | intro y)
def f35_b1n (N:Nat) (v1:List UInt8) (v2:List Int) (v3:List Int) (v4:Int):Option (((List Int) × Int) ⊕ Out ((List Int) × Bool) (List Int)) :=
 cond (decide (v4 < (v2.length:Int))) (if (0:Int) ≤ v4 ∧ v4 ≤ (v2.length:Int) then (f36n N v1 ((v2.take (Int.toNat (v2.length:Int))).drop v4.toNat)).bind fun v6=>cond (!v6.2.2) (some (.inr (.ret (([]:List Int),false)))) (if (v3.length + [v4].length) * 8 ≤ 140737488355328 then some (.inl (v3 ++ [v4],w64 (v4 + v6.2.1))) else none) else none) (some (.inr (.go v3)))
theorem f35_b1_le (N:Nat) (v1:List UInt8) (v2:List Int) (v3:List Int) (v4:Int):Le (f35_b1n N v1 v2 v3 v4) (f35_b1 v1 v2 v3 v4):=by
 unfold f35_b1n f35_b1
 repeat' (first | exact Le.refl _ | apply f36_le | apply Le.cond | apply Le.ite | apply Le.iter | apply Le.bind | (intro y; cases y <;> dsimp only) | intro y)
def f35n (N:Nat) (v1:List UInt8) (v2:List Int):Option ((List Int) × Bool) :=
 (itN N (fun s=>f35_b1n N v1 v2 s.1 s.2) ([],(0:Int))).bind fun y=>match y with | .ret v7=>some (v7.1,v7.2) | .go v5=>some (v5,true)
theorem f35_le (N:Nat) (v1:List UInt8) (v2:List Int):Le (f35n N v1 v2) (f35 v1 v2):=by
 unfold f35n f35
 repeat' (first | exact Le.refl _ | apply f35_b1_le | apply Le.cond | apply Le.ite | apply Le.iter | apply Le.bind | (intro y; cases y <;> dsimp only) | intro y)
def f37n (N:Nat) (v1:List Int):Option (List Int) :=
 if (([]:List Int).length + v1.length) * 1 ≤ 140737488355328 then some (([]:List Int) ++ v1) else none
theorem f37_le (N:Nat) (v1:List Int):Le (f37n N v1) (f37 v1):=by
 unfold f37n f37
 repeat' (first | exact Le.refl _ | apply Le.cond | apply Le.ite | apply Le.iter | apply Le.bind | (intro y; cases y <;> dsimp only) | intro y)
def f16_j1n (N:Nat) (v1:List UInt8) (v2:Int) (v3:List Int):Option ((Option T64) × Int) :=
 (f37n N v3).bind fun v4=>some (some (T64.mk v1 v2 v4 (0:Int) false),(0:Int))
theorem f16_j1_le (N:Nat) (v1:List UInt8) (v2:Int) (v3:List Int):Le (f16_j1n N v1 v2 v3) (f16_j1 v1 v2 v3):=by
 unfold f16_j1n f16_j1
 repeat' (first | exact Le.refl _ | apply f37_le | apply Le.cond | apply Le.ite | apply Le.iter | apply Le.bind | (intro y; cases y <;> dsimp only) | intro y)
def f16_j2n (N:Nat) (v1:List UInt8) (v2:Int) (v3:List Int):Option ((Option T64) × Int) :=
 cond (decide ((v3.length:Int) > (20000:Int))) (some (none,(4:Int))) (cond (v1 == ([114,101,99,111,114,100,115]:List UInt8)) ((f35n N v1 v3).bind fun v5=>cond (!v5.2) (some (none,(3:Int))) (f16_j1n N v1 v2 v3 )) (f16_j1n N v1 v2 v3 ))
theorem f16_j2_le (N:Nat) (v1:List UInt8) (v2:Int) (v3:List Int):Le (f16_j2n N v1 v2 v3) (f16_j2 v1 v2 v3):=by
 unfold f16_j2n f16_j2
 repeat' (first | exact Le.refl _ | apply f35_le | apply f16_j1_le | apply Le.cond | apply Le.ite | apply Le.iter | apply Le.bind | (intro y; cases y <;> dsimp only) | intro y)
def f16_j3n (N:Nat) (v1:List UInt8) (v2:Int) (v3:List Int) (v6:Bool):Option ((Option T64) × Int) :=
 cond v6 (cond (v2 != (0:Int)) (some (none,(2:Int))) (f16_j2n N v1 v2 v3 )) (cond (v1 == ([100,105,114,101,99,116]:List UInt8)) ((cond (decide (v2 < (1:Int))) (some true) (some (decide (v2 > (1000:Int))))).bind fun v7=>cond v7 (some (none,(2:Int))) (f16_j2n N v1 v2 v3 )) (some (none,(2:Int))))
theorem f16_j3_le (N:Nat) (v1:List UInt8) (v2:Int) (v3:List Int) (v6:Bool):Le (f16_j3n N v1 v2 v3 v6) (f16_j3 v1 v2 v3 v6):=by
 unfold f16_j3n f16_j3
 repeat' (first | exact Le.refl _ | apply f16_j2_le | apply Le.cond | apply Le.ite | apply Le.iter | apply Le.bind | (intro y; cases y <;> dsimp only) | intro y)
def f16n (N:Nat) (v1:List UInt8) (v2:Int) (v3:List Int):Option ((Option T64) × Int) :=
 cond (v1 == ([108,105,110,101,115]:List UInt8)) (f16_j3n N v1 v2 v3 (v1 == ([108,105,110,101,115]:List UInt8))) (cond (v1 == ([114,101,99,111,114,100,115]:List UInt8)) (f16_j3n N v1 v2 v3 (v1 == ([114,101,99,111,114,100,115]:List UInt8))) (f16_j3n N v1 v2 v3 (v1 == ([115,116,114,101,97,109]:List UInt8))))
theorem f16_le (N:Nat) (v1:List UInt8) (v2:Int) (v3:List Int):Le (f16n N v1 v2 v3) (f16 v1 v2 v3):=by
 unfold f16n f16
 repeat' (first | exact Le.refl _ | apply f16_j3_le | apply Le.cond | apply Le.ite | apply Le.iter | apply Le.bind | (intro y; cases y <;> dsimp only) | intro y)
def f41n (N:Nat) (v1:T64):Option Bool :=
 some (v1.f0 == ([]:List UInt8))
theorem f41_le (N:Nat) (v1:T64):Le (f41n N v1) (f41 v1):=by
 unfold f41n f41
 repeat' (first | exact Le.refl _ | apply Le.cond | apply Le.ite | apply Le.iter | apply Le.bind | (intro y; cases y <;> dsimp only) | intro y)
def f42n (N:Nat) (v1:T64):Option Bool :=
 (cond (v1.f0 == ([108,105,110,101,115]:List UInt8)) (some true) (some (v1.f0 == ([114,101,99,111,114,100,115]:List UInt8)))).bind fun v2=>some v2
theorem f42_le (N:Nat) (v1:T64):Le (f42n N v1) (f42 v1):=by
 unfold f42n f42
 repeat' (first | exact Le.refl _ | apply Le.cond | apply Le.ite | apply Le.iter | apply Le.bind | (intro y; cases y <;> dsimp only) | intro y)
def f22on (N:Nat) (v1:T64):Option ((List Int) × Int × T64) :=
 (f41n N v1).bind fun v2=>cond v2 (some (([]:List Int),(7:Int),v1)) ((f42n N v1).bind fun v3=>(cond (!v3) (some true) (some v1.f4)).bind fun v4=>cond v4 (some (([]:List Int),(110:Int),v1)) (if (0:Int) ≤ v1.f3 ∧ v1.f3 ≤ (v1.f2.length:Int) then (f36n N v1.f0 ((v1.f2.take (Int.toNat (v1.f2.length:Int))).drop (Int.toNat v1.f3))).bind fun v5=>cond (!v5.2.2) (some (([]:List Int),(6:Int),T64.mk v1.f0 v1.f1 v1.f2 v1.f3 true)) ((f37n N v5.1).bind fun v6=>some (v6,(0:Int),T64.mk v1.f0 v1.f1 v1.f2 (w64 (v1.f3 + v5.2.1)) v1.f4)) else none))
theorem f22o_le (N:Nat) (v1:T64):Le (f22on N v1) (f22o v1):=by
 unfold f22on f22o
 repeat' (first | exact Le.refl _ | apply f41_le | apply f42_le | apply f36_le | apply f37_le | apply Le.cond | apply Le.ite | apply Le.iter | apply Le.bind | (intro y; cases y <;> dsimp only) | intro y)
def f64_e_j1n (N:Nat) (v2:List Int):Option (List Int) :=
 some v2
theorem f64_e_j1_le (N:Nat) (v2:List Int):Le (f64_e_j1n N v2) (f64_e_j1 v2):=by
 unfold f64_e_j1n f64_e_j1
 repeat' (first | exact Le.refl _ | apply Le.cond | apply Le.ite | apply Le.iter | apply Le.bind | (intro y; cases y <;> dsimp only) | intro y)
def f64_en (N:Nat) (v1:Int):Option (List Int) :=
 cond (decide (v1 < (0:Int))) none (cond (decide (w64 (v1 - (w64 ((0:Int) - (0:Int)))) > (0:Int))) (if (0:Int) ≤ w64 (v1 - (w64 ((0:Int) - (0:Int)))) ∧ (Int.toNat (w64 (v1 - (w64 ((0:Int) - (0:Int)))))) * 1 ≤ 140737488355328 then f64_e_j1n N ((List.replicate (Int.toNat (w64 (v1 - (w64 ((0:Int) - (0:Int)))))) (0:Int)).take 0) else none) (f64_e_j1n N []))
theorem f64_e_le (N:Nat) (v1:Int):Le (f64_en N v1) (f64_e v1):=by
 unfold f64_en f64_e
 repeat' (first | exact Le.refl _ | apply f64_e_j1_le | apply Le.cond | apply Le.ite | apply Le.iter | apply Le.bind | (intro y; cases y <;> dsimp only) | intro y)
def f61_b1n (N:Nat) (v1:List (List Int)) (v2:Int) (v3:Int):Option ((Int × Int) ⊕ Out (List Int) Int) :=
 cond (decide (v3 < (v1.length:Int))) (if (0:Int) ≤ v3 ∧ v3 < (v1.length:Int) then cond (decide (w64 (v2 + ((v1.getD v3.toNat default).length:Int)) < (0:Int))) none (some (.inl (w64 (v2 + ((v1.getD v3.toNat default).length:Int)),w64 (v3 + (1:Int))))) else none) (some (.inr (.go v2)))
theorem f61_b1_le (N:Nat) (v1:List (List Int)) (v2:Int) (v3:Int):Le (f61_b1n N v1 v2 v3) (f61_b1 v1 v2 v3):=by
 unfold f61_b1n f61_b1
 repeat' (first | exact Le.refl _ | apply Le.cond | apply Le.ite | apply Le.iter | apply Le.bind | (intro y; cases y <;> dsimp only) | intro y)
def f61_b2n (N:Nat) (v1:List (List Int)) (v7:List Int) (v8:Int):Option (((List Int) × Int) ⊕ Out (List Int) (List Int)) :=
 cond (decide (v8 < (v1.length:Int))) (if (0:Int) ≤ v8 ∧ v8 < (v1.length:Int) then if (v7.length + (v1.getD v8.toNat default).length) * 1 ≤ 140737488355328 then some (.inl (v7 ++ (v1.getD v8.toNat default),w64 (v8 + (1:Int)))) else none else none) (some (.inr (.go v7)))
theorem f61_b2_le (N:Nat) (v1:List (List Int)) (v7:List Int) (v8:Int):Le (f61_b2n N v1 v7 v8) (f61_b2 v1 v7 v8):=by
 unfold f61_b2n f61_b2
 repeat' (first | exact Le.refl _ | apply Le.cond | apply Le.ite | apply Le.iter | apply Le.bind | (intro y; cases y <;> dsimp only) | intro y)
def f61n (N:Nat) (v1:List (List Int)):Option (List Int) :=
 (itN N (fun s=>f61_b1n N v1 s.1 s.2) ((0:Int),(0:Int))).bind fun y=>match y with | .ret v5=>some v5 | .go v4=>(f64_en N v4).bind fun v6=>(itN N (fun s=>f61_b2n N v1 s.1 s.2) (v6,(0:Int))).bind fun y=>match y with | .ret v10=>some v10 | .go v9=>some v9
theorem f61_le (N:Nat) (v1:List (List Int)):Le (f61n N v1) (f61 v1):=by
 unfold f61n f61
 repeat' (first | exact Le.refl _ | apply f61_b1_le | apply f64_e_le | apply f61_b2_le | apply Le.cond | apply Le.ite | apply Le.iter | apply Le.bind | (intro y; cases y <;> dsimp only) | intro y)
def f39n (N:Nat) (v1:List Int):Option (List Int) :=
 (f61n N ([[IntKind.wrap .u8 (Int.fdiv (v1.length:Int) ((2:Int) ^ (min (Int.toNat (24:Int)) (IntKind.bits .i64)))),IntKind.wrap .u8 (Int.fdiv (v1.length:Int) ((2:Int) ^ (min (Int.toNat (16:Int)) (IntKind.bits .i64)))),IntKind.wrap .u8 (Int.fdiv (v1.length:Int) ((2:Int) ^ (min (Int.toNat (8:Int)) (IntKind.bits .i64)))),IntKind.wrap .u8 (v1.length:Int)],v1,[IntKind.wrap .u8 (Int.fdiv (v1.length:Int) ((2:Int) ^ (min (Int.toNat (24:Int)) (IntKind.bits .i64)))),IntKind.wrap .u8 (Int.fdiv (v1.length:Int) ((2:Int) ^ (min (Int.toNat (16:Int)) (IntKind.bits .i64)))),IntKind.wrap .u8 (Int.fdiv (v1.length:Int) ((2:Int) ^ (min (Int.toNat (8:Int)) (IntKind.bits .i64)))),IntKind.wrap .u8 (v1.length:Int)]])).bind fun v2=>some v2
theorem f39_le (N:Nat) (v1:List Int):Le (f39n N v1) (f39 v1):=by
 unfold f39n f39
 repeat' (first | exact Le.refl _ | apply f61_le | apply Le.cond | apply Le.ite | apply Le.iter | apply Le.bind | (intro y; cases y <;> dsimp only) | intro y)
def f17o_j1n (N:Nat) (v2:T64) (v9:List Int):Option (Int × T64) :=
 cond (decide ((v9.length:Int) > (20000:Int))) (some ((4:Int),v2)) (some ((0:Int),T64.mk v2.f0 v2.f1 v9 (v9.length:Int) v2.f4))
theorem f17o_j1_le (N:Nat) (v2:T64) (v9:List Int):Le (f17o_j1n N v2 v9) (f17o_j1 v2 v9):=by
 unfold f17o_j1n f17o_j1
 repeat' (first | exact Le.refl _ | apply Le.cond | apply Le.ite | apply Le.iter | apply Le.bind | (intro y; cases y <;> dsimp only) | intro y)
def f17o_j2n (N:Nat) (v1:List Int) (v2:T64) (v10:List Int):Option (Int × T64) :=
 if (v10.length + v1.length) * 1 ≤ 140737488355328 then if ((v10 ++ v1).length + [(10:Int)].length) * 1 ≤ 140737488355328 then f17o_j1n N v2 ((v10 ++ v1) ++ [(10:Int)]) else none else none
theorem f17o_j2_le (N:Nat) (v1:List Int) (v2:T64) (v10:List Int):Le (f17o_j2n N v1 v2 v10) (f17o_j2 v1 v2 v10):=by
 unfold f17o_j2n f17o_j2
 repeat' (first | exact Le.refl _ | apply f17o_j1_le | apply Le.cond | apply Le.ite | apply Le.iter | apply Le.bind | (intro y; cases y <;> dsimp only) | intro y)
def f17on (N:Nat) (v1:List Int) (v2:T64):Option (Int × T64) :=
 (f41n N v2).bind fun v3=>cond v3 (some ((7:Int),v2)) ((f42n N v2).bind fun v4=>cond (!v4) (some ((110:Int),v2)) ((cond (decide ((v1.length:Int) > (1000:Int))) (some true) ((cond (v2.f0 == ([108,105,110,101,115]:List UInt8)) ((f43n N v1 (10:Int)).bind fun v7=>some (decide (v7 ≥ (0:Int)))) (some false)).bind fun v6=>some v6)).bind fun v5=>cond v5 (some ((2:Int),v2)) (cond v2.f4 (some ((110:Int),v2)) (if (0:Int) ≤ v2.f3 ∧ v2.f3 ≤ (v2.f2.length:Int) then (f37n N ((v2.f2.take (Int.toNat v2.f3)).drop 0)).bind fun v8=>cond (v2.f0 == ([108,105,110,101,115]:List UInt8)) ((cond (decide ((v8.length:Int) > (0:Int))) (if (0:Int) ≤ w64 ((v8.length:Int) - (1:Int)) ∧ w64 ((v8.length:Int) - (1:Int)) < (v8.length:Int) then some (v8.getD (Int.toNat (w64 ((v8.length:Int) - (1:Int)))) default != (10:Int)) else none) (some false)).bind fun v11=>cond v11 (if (v8.length + [(10:Int)].length) * 1 ≤ 140737488355328 then f17o_j2n N v1 v2 (v8 ++ [(10:Int)]) else none) (f17o_j2n N v1 v2 v8)) ((f39n N v1).bind fun v12=>if (v8.length + v12.length) * 1 ≤ 140737488355328 then f17o_j1n N v2 (v8 ++ v12) else none) else none))))
theorem f17o_le (N:Nat) (v1:List Int) (v2:T64):Le (f17on N v1 v2) (f17o v1 v2):=by
 unfold f17on f17o
 repeat' (first | exact Le.refl _ | apply f41_le | apply f42_le | apply f43_le | apply f37_le | apply f17o_j2_le | apply f39_le | apply f17o_j1_le | apply Le.cond | apply Le.ite | apply Le.iter | apply Le.bind | (intro y; cases y <;> dsimp only) | intro y)
def f21on (N:Nat) (v1:T64):Option (List Int) :=
 (f41n N v1).bind fun v2=>cond v2 (some ([]:List Int)) ((f37n N v1.f2).bind fun v3=>some v3)
theorem f21o_le (N:Nat) (v1:T64):Le (f21on N v1) (f21o v1):=by
 unfold f21on f21o
 repeat' (first | exact Le.refl _ | apply f41_le | apply f37_le | apply Le.cond | apply Le.ite | apply Le.iter | apply Le.bind | (intro y; cases y <;> dsimp only) | intro y)
def f9n (N:Nat) :Option Bool :=
 (f16n N ([108,105,110,101,115]:List UInt8) (0:Int) [(97:Int),(10:Int),(98:Int)]).bind fun v1=>match v1 with | (none,v3)=>(cond (v3 != (0:Int)) (some true) (some true)).bind fun v4=>cond v4 (some false) none | (some v2,v3)=>(cond (v3 != (0:Int)) (some true) (some false)).bind fun v5=>cond v5 (some false) ((f22on N v2).bind fun v6=>(f17on N [(120:Int)] v6.2.2).bind fun v7=>(cond (v6.2.1 == (0:Int)) (some ((v6.1.map (fun n=>UInt8.ofNat n.toNat)) == ([97]:List UInt8))) (some false)).bind fun v8=>(cond v8 (some (v7.1 == (0:Int))) (some false)).bind fun v9=>(cond v9 ((f21on N v7.2).bind fun v11=>some ((v11.map (fun n=>UInt8.ofNat n.toNat)) == ([97,10,120,10]:List UInt8))) (some false)).bind fun v10=>some v10)
theorem f9_le (N:Nat) :Le (f9n N ) (f9 ):=by
 unfold f9n f9
 repeat' (first | exact Le.refl _ | apply f16_le | apply f22o_le | apply f17o_le | apply f21o_le | apply Le.cond | apply Le.ite | apply Le.iter | apply Le.bind | (rintro (⟨_ | _,_⟩:Option _ × _) <;> dsimp only) | (intro y; cases y <;> dsimp only) | intro y)
end Go.Sx.unit
