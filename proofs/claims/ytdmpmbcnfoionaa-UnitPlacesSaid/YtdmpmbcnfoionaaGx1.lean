/- Printed by program (wip/gen): plain functions and their walks; no condition. -/
import Derived.Test.YtdmpmbcnfoionaaGx0
namespace Go.Sx.unit
open Go Go.Sx Go.Proofs

noncomputable def f24o_j1 (v3 : T64) (v10 : (List Int) × Int) (v11 : List Int) : Option (Int × T64) :=
 some (v10.2, T64.mk v3.f0 v3.f1 v11 v3.f3 v3.f4)

noncomputable def f24o_j2 (v2 : List Int) (v3 : T64) (v12 : Int) (v13 : List Int) : Option (Int × T64) :=
 some ((0 : Int), T64.mk v3.f0 v3.f1 v13 (w64 (v12 + (v2.length : Int))) v3.f4)

noncomputable def f24o (v1 : Int) (v2 : List Int) (v3 : T64) : Option (Int × T64) :=
 (f41 v3).bind fun v4 => cond v4 (some ((7 : Int), v3)) ((f42 v3).bind fun v5 => cond v5 (some ((110 : Int), v3)) ((cond (v3.f0 == ([100, 105, 114, 101, 99, 116] : List UInt8)) ((cond (decide (v1 < (1 : Int))) (some true) (some (decide ((v2.length : Int) > v3.f1)))).bind fun v7 => some v7) (some false)).bind fun v6 => (cond v6 (some true) (some (decide (v1 < (0 : Int))))).bind fun v8 => cond v8 (some ((2 : Int), v3)) (cond (v3.f0 == ([100, 105, 114, 101, 99, 116] : List UInt8)) (cond (decide (v1 > (20000 : Int))) (some ((4 : Int), v3)) ((f37 v2).bind fun v9 => if (0 : Int) ≤ w64 (v3.f1 - (v2.length : Int)) ∧ (v9.length + (Int.toNat (w64 (v3.f1 - (v2.length : Int))))) * 1 ≤ 140737488355328 then (f44o (w64 ((w64 (v1 - (1 : Int))) * v3.f1)) (v9 ++ List.replicate (Int.toNat (w64 (v3.f1 - (v2.length : Int)))) (0 : Int)) v3).bind fun v10 => cond (v10.2 == (0 : Int)) (f24o_j1 v3 v10 v10.1) (f24o_j1 v3 v10 v3.f2) else none)) ((f45 v3 v1).bind fun v12 => cond (decide (v12 > (20000 : Int))) (some ((4 : Int), v3)) (cond (decide ((v2.length : Int) > (0 : Int))) ((f44o v12 v2 v3).bind fun v14 => cond (v14.2 != (0 : Int)) (some (v14.2, v3)) (f24o_j2 v2 v3 v12 v14.1)) (f24o_j2 v2 v3 v12 v3.f2))))))

theorem f24o_ok (v1 : Int) (v2 : List Int) (v3 : T64) {r : Int × T64} (h : f24o v1 v2 v3 = some r) : ACall Try.prog 24 [.pc 0 0, .tv (.int .i64 v1), .tv (fzL 1 (cInt .u8) v2)] [.cells 65 [.str v3.f0, .int .i64 v3.f1, fzL 1 (cInt .u8) v3.f2, .int .i64 v3.f3, .bool v3.f4]] (.tv (.int .i64 r.1)) [.cells 65 [.str r.2.f0, .int .i64 r.2.f1, fzL 1 (cInt .u8) r.2.f2, .int .i64 r.2.f3, .bool r.2.f4]] := by
 refine ACall.of1 (FF 106 1) Try.func24 rfl Try.ntmps24 Try.results24 (Nat.le_of_ble_eq_true rfl) rfl rfl ?_
 refine AWp.seq ?_
 refine AWp.start [0] [] [] [0, 1, 2] 1 ⟨[(0, .pc 0 0), (1, tI v1), (2, q0 v2)], [.cells 65 [.str v3.f0, .int .i64 v3.f1, k0 v3.f2, .int .i64 v3.f3, .bool v3.f4]]⟩ rfl ?_ (Nat.le_of_ble_eq_true rfl) trivial ?_
 ·kernel_rfl
 refine AOps.nil ?_
 refine AWp.seq ?_
 refine AWp.block ?_
 refine AWp.seq ?_
 refine AWp.start [0] [1, 2] [] [0, 1, 2, 13] 1 ⟨[(0, .pc 0 0), (1, tI v1), (2, q0 v2), (13, .pc 0 0)], [.cells 65 [.str v3.f0, .int .i64 v3.f1, k0 v3.f2, .int .i64 v3.f3, .bool v3.f4]]⟩ rfl ?_ (Nat.le_of_ble_eq_true rfl) trivial ?_
 ·kernel_rfl
 obtain ⟨v4, hv4, h⟩ := of_bind h
 refine AOps.cons (AOne.callR (F := (FF 106 1)) _ rfl rfl rfl _ rfl rfl _ _ rfl Try.call41 [] [.rp [.str v3.f0, .int .i64 v3.f1, k0 v3.f2, .int .i64 v3.f3, .bool v3.f4]] rfl trivial (f41_ok v3 hv4) (ind_of rfl) rfl) ?_
 refine AOps.go [2] [] [] [0, 1, 2, 12] 1 ⟨[(0, .pc 0 0), (1, tI v1), (2, q0 v2), (12, tB v4)], [.cells 65 [.str v3.f0, .int .i64 v3.f1, k0 v3.f2, .int .i64 v3.f3, .bool v3.f4]]⟩ ?_ (Nat.le_of_ble_eq_true rfl) trivial ?_
 ·kernel_rfl
 refine AOps.nil ?_
 refine AWp.cond rfl (fun hb => ?_) fun hb => ?_
 ·replace h := of_true h hb
  refine AWp.keepTo [] 1 ⟨[], [.cells 65 [.str v3.f0, .int .i64 v3.f1, k0 v3.f2, .int .i64 v3.f3, .bool v3.f4]]⟩ ?_ (Nat.le_of_ble_eq_true rfl) ?_
  ·kernel_rfl
  refine AWp.seq ?_
  refine AWp.start [0] [] [] [6] 1 ⟨[(6, tI (7 : Int))], [.cells 65 [.str v3.f0, .int .i64 v3.f1, k0 v3.f2, .int .i64 v3.f3, .bool v3.f4]]⟩ rfl ?_ (Nat.le_of_ble_eq_true rfl) trivial ?_
  ·kernel_rfl
  refine AOps.nil ?_
  refine AWp.ret ?_
  cases h
  exact ⟨.inr rfl, rfl⟩
 ·replace h := of_false h hb
  refine AWp.keepTo [0, 1, 2] 1 ⟨[(0, .pc 0 0), (1, tI v1), (2, q0 v2)], [.cells 65 [.str v3.f0, .int .i64 v3.f1, k0 v3.f2, .int .i64 v3.f3, .bool v3.f4]]⟩ ?_ (Nat.le_of_ble_eq_true rfl) ?_
  ·kernel_rfl
  refine AWp.seq ?_
  refine AWp.start [0] [1, 2] [] [0, 1, 2, 16] 1 ⟨[(0, .pc 0 0), (1, tI v1), (2, q0 v2), (16, .pc 0 0)], [.cells 65 [.str v3.f0, .int .i64 v3.f1, k0 v3.f2, .int .i64 v3.f3, .bool v3.f4]]⟩ rfl ?_ (Nat.le_of_ble_eq_true rfl) trivial ?_
  ·kernel_rfl
  obtain ⟨v5, hv5, h⟩ := of_bind h
  refine AOps.cons (AOne.callR (F := (FF 106 1)) _ rfl rfl rfl _ rfl rfl _ _ rfl Try.call42 [] [.rp [.str v3.f0, .int .i64 v3.f1, k0 v3.f2, .int .i64 v3.f3, .bool v3.f4]] rfl trivial (f42_ok v3 hv5) (ind_of rfl) rfl) ?_
  refine AOps.go [2] [] [] [0, 1, 2, 15] 1 ⟨[(0, .pc 0 0), (1, tI v1), (2, q0 v2), (15, tB v5)], [.cells 65 [.str v3.f0, .int .i64 v3.f1, k0 v3.f2, .int .i64 v3.f3, .bool v3.f4]]⟩ ?_ (Nat.le_of_ble_eq_true rfl) trivial ?_
  ·kernel_rfl
  refine AOps.nil ?_
  refine AWp.cond rfl (fun hb => ?_) fun hb => ?_
  ·replace h := of_true h hb
   refine AWp.keepTo [] 1 ⟨[], [.cells 65 [.str v3.f0, .int .i64 v3.f1, k0 v3.f2, .int .i64 v3.f3, .bool v3.f4]]⟩ ?_ (Nat.le_of_ble_eq_true rfl) ?_
   ·kernel_rfl
   refine AWp.seq ?_
   refine AWp.start [0] [] [] [6] 1 ⟨[(6, tI (110 : Int))], [.cells 65 [.str v3.f0, .int .i64 v3.f1, k0 v3.f2, .int .i64 v3.f3, .bool v3.f4]]⟩ rfl ?_ (Nat.le_of_ble_eq_true rfl) trivial ?_
   ·kernel_rfl
   refine AOps.nil ?_
   refine AWp.ret ?_
   cases h
   exact ⟨.inr rfl, rfl⟩
  ·replace h := of_false h hb
   refine AWp.keepTo [0, 1, 2] 1 ⟨[(0, .pc 0 0), (1, tI v1), (2, q0 v2)], [.cells 65 [.str v3.f0, .int .i64 v3.f1, k0 v3.f2, .int .i64 v3.f3, .bool v3.f4]]⟩ ?_ (Nat.le_of_ble_eq_true rfl) ?_
   ·kernel_rfl
   refine AWp.seq ?_
   refine AWp.start [0, 1, 2, 3, 4, 5] [6, 7, 8, 9, 10, 11, 12, 13, 14, 15, 16, 17, 18, 19, 20, 21, 22] [] [0, 1, 2, 24] 1 ⟨[(0, .pc 0 0), (1, tI v1), (2, q0 v2), (24, tB (v3.f0 == ([100, 105, 114, 101, 99, 116] : List UInt8)))], [.cells 65 [.str v3.f0, .int .i64 v3.f1, k0 v3.f2, .int .i64 v3.f3, .bool v3.f4]]⟩ rfl ?_ (Nat.le_of_ble_eq_true rfl) trivial ?_
   ·kernel_rfl
   obtain ⟨v6, hc6, h⟩ := of_bind h
   refine AOps.cut [6, 7, 8, 9, 10, 11, 12, 13, 14, 15, 16, 17] [18, 19, 20, 21, 22] (fun σ => σ = ⟨[(0, .pc 0 0), (1, tI v1), (2, q0 v2), (36, tB v6)], [.cells 65 [.str v3.f0, .int .i64 v3.f1, k0 v3.f2, .int .i64 v3.f3, .bool v3.f4]]⟩) ?_ fun σ' hJ => ?_
   ·refine AOps.split (fun b => ⟨[(0, .pc 0 0), (1, tI v1), (2, q0 v2), (24, tB b)], [.cells 65 [.str v3.f0, .int .i64 v3.f1, k0 v3.f2, .int .i64 v3.f3, .bool v3.f4]]⟩) _ (fun hb => ?_) fun hb => ?_
    ·replace hc6 := of_true hc6 hb
     refine AOps.go [6, 7, 8] [9, 10, 11, 12, 13, 14, 15, 16, 17] [] [0, 1, 2, 24, 27] 1 ⟨[(0, .pc 0 0), (1, tI v1), (2, q0 v2), (24, tB true), (27, tB (decide (v1 < (1 : Int))))], [.cells 65 [.str v3.f0, .int .i64 v3.f1, k0 v3.f2, .int .i64 v3.f3, .bool v3.f4]]⟩ ?_ (Nat.le_of_ble_eq_true rfl) trivial ?_
     ·kernel_rfl
     obtain ⟨v7, hc9, hc6⟩ := of_bind hc6
     refine AOps.cut [9, 10, 11, 12, 13, 14, 15, 16] [17] (fun σ => σ = ⟨[(0, .pc 0 0), (1, tI v1), (2, q0 v2), (24, tB true), (35, tB v7)], [.cells 65 [.str v3.f0, .int .i64 v3.f1, k0 v3.f2, .int .i64 v3.f3, .bool v3.f4]]⟩) ?_ fun σ' hJ => ?_
     ·refine AOps.split (fun b => ⟨[(0, .pc 0 0), (1, tI v1), (2, q0 v2), (24, tB true), (27, tB b)], [.cells 65 [.str v3.f0, .int .i64 v3.f1, k0 v3.f2, .int .i64 v3.f3, .bool v3.f4]]⟩) _ (fun hb => ?_) fun hb => ?_
      ·replace hc9 := of_true hc9 hb
       refine AOps.go [9, 10, 11, 12, 13, 14, 15, 16] [] [] [0, 1, 2, 24, 35] 1 ⟨[(0, .pc 0 0), (1, tI v1), (2, q0 v2), (24, tB true), (35, tB true)], [.cells 65 [.str v3.f0, .int .i64 v3.f1, k0 v3.f2, .int .i64 v3.f3, .bool v3.f4]]⟩ ?_ (Nat.le_of_ble_eq_true rfl) trivial ?_
       ·kernel_rfl
       cases hc9
       exact AOps.nil rfl
      ·replace hc9 := of_false hc9 hb
       refine AOps.go [9, 10, 11, 12, 13, 14, 15, 16] [] [] [0, 1, 2, 24, 35] 1 ⟨[(0, .pc 0 0), (1, tI v1), (2, q0 v2), (24, tB true), (35, tB (decide ((v2.length : Int) > v3.f1)))], [.cells 65 [.str v3.f0, .int .i64 v3.f1, k0 v3.f2, .int .i64 v3.f3, .bool v3.f4]]⟩ ?_ (Nat.le_of_ble_eq_true rfl) trivial ?_
       ·kernel_rfl
       cases hc9
       exact AOps.nil rfl
     subst hJ
     refine AOps.go [17] [] [] [0, 1, 2, 36] 1 ⟨[(0, .pc 0 0), (1, tI v1), (2, q0 v2), (36, tB v7)], [.cells 65 [.str v3.f0, .int .i64 v3.f1, k0 v3.f2, .int .i64 v3.f3, .bool v3.f4]]⟩ ?_ (Nat.le_of_ble_eq_true rfl) trivial ?_
     ·kernel_rfl
     cases hc6
     exact AOps.nil rfl
    ·replace hc6 := of_false hc6 hb
     refine AOps.go [6, 7, 8, 9, 10, 11, 12, 13, 14, 15, 16, 17] [] [] [0, 1, 2, 36] 1 ⟨[(0, .pc 0 0), (1, tI v1), (2, q0 v2), (36, tB false)], [.cells 65 [.str v3.f0, .int .i64 v3.f1, k0 v3.f2, .int .i64 v3.f3, .bool v3.f4]]⟩ ?_ (Nat.le_of_ble_eq_true rfl) trivial ?_
     ·kernel_rfl
     cases hc6
     exact AOps.nil rfl
   subst hJ
   refine AOps.go [18] [19, 20, 21, 22] [] [0, 1, 2, 37] 1 ⟨[(0, .pc 0 0), (1, tI v1), (2, q0 v2), (37, tB v6)], [.cells 65 [.str v3.f0, .int .i64 v3.f1, k0 v3.f2, .int .i64 v3.f3, .bool v3.f4]]⟩ ?_ (Nat.le_of_ble_eq_true rfl) trivial ?_
   ·kernel_rfl
   obtain ⟨v8, hc19, h⟩ := of_bind h
   refine AOps.cut [19, 20, 21] [22] (fun σ => σ = ⟨[(0, .pc 0 0), (1, tI v1), (2, q0 v2), (40, tB v8)], [.cells 65 [.str v3.f0, .int .i64 v3.f1, k0 v3.f2, .int .i64 v3.f3, .bool v3.f4]]⟩) ?_ fun σ' hJ => ?_
   ·refine AOps.split (fun b => ⟨[(0, .pc 0 0), (1, tI v1), (2, q0 v2), (37, tB b)], [.cells 65 [.str v3.f0, .int .i64 v3.f1, k0 v3.f2, .int .i64 v3.f3, .bool v3.f4]]⟩) _ (fun hb => ?_) fun hb => ?_
    ·replace hc19 := of_true hc19 hb
     refine AOps.go [19, 20, 21] [] [] [0, 1, 2, 40] 1 ⟨[(0, .pc 0 0), (1, tI v1), (2, q0 v2), (40, tB true)], [.cells 65 [.str v3.f0, .int .i64 v3.f1, k0 v3.f2, .int .i64 v3.f3, .bool v3.f4]]⟩ ?_ (Nat.le_of_ble_eq_true rfl) trivial ?_
     ·kernel_rfl
     cases hc19
     exact AOps.nil rfl
    ·replace hc19 := of_false hc19 hb
     refine AOps.go [19, 20, 21] [] [] [0, 1, 2, 40] 1 ⟨[(0, .pc 0 0), (1, tI v1), (2, q0 v2), (40, tB (decide (v1 < (0 : Int))))], [.cells 65 [.str v3.f0, .int .i64 v3.f1, k0 v3.f2, .int .i64 v3.f3, .bool v3.f4]]⟩ ?_ (Nat.le_of_ble_eq_true rfl) trivial ?_
     ·kernel_rfl
     cases hc19
     exact AOps.nil rfl
   subst hJ
   refine AOps.go [22] [] [] [0, 1, 2, 18] 1 ⟨[(0, .pc 0 0), (1, tI v1), (2, q0 v2), (18, tB v8)], [.cells 65 [.str v3.f0, .int .i64 v3.f1, k0 v3.f2, .int .i64 v3.f3, .bool v3.f4]]⟩ ?_ (Nat.le_of_ble_eq_true rfl) trivial ?_
   ·kernel_rfl
   refine AOps.nil ?_
   refine AWp.cond rfl (fun hb => ?_) fun hb => ?_
   ·replace h := of_true h hb
    refine AWp.keepTo [] 1 ⟨[], [.cells 65 [.str v3.f0, .int .i64 v3.f1, k0 v3.f2, .int .i64 v3.f3, .bool v3.f4]]⟩ ?_ (Nat.le_of_ble_eq_true rfl) ?_
    ·kernel_rfl
    refine AWp.seq ?_
    refine AWp.start [0] [] [] [6] 1 ⟨[(6, tI (2 : Int))], [.cells 65 [.str v3.f0, .int .i64 v3.f1, k0 v3.f2, .int .i64 v3.f3, .bool v3.f4]]⟩ rfl ?_ (Nat.le_of_ble_eq_true rfl) trivial ?_
    ·kernel_rfl
    refine AOps.nil ?_
    refine AWp.ret ?_
    cases h
    exact ⟨.inr rfl, rfl⟩
   ·replace h := of_false h hb
    refine AWp.keepTo [0, 1, 2] 1 ⟨[(0, .pc 0 0), (1, tI v1), (2, q0 v2)], [.cells 65 [.str v3.f0, .int .i64 v3.f1, k0 v3.f2, .int .i64 v3.f3, .bool v3.f4]]⟩ ?_ (Nat.le_of_ble_eq_true rfl) ?_
    ·kernel_rfl
    refine AWp.skip ?_
    refine AWp.seq ?_
    refine AWp.seq ?_
    refine AWp.start [0, 1, 2, 3, 4] [] [] [0, 1, 2, 45] 1 ⟨[(0, .pc 0 0), (1, tI v1), (2, q0 v2), (45, tB (v3.f0 == ([100, 105, 114, 101, 99, 116] : List UInt8)))], [.cells 65 [.str v3.f0, .int .i64 v3.f1, k0 v3.f2, .int .i64 v3.f3, .bool v3.f4]]⟩ rfl ?_ (Nat.le_of_ble_eq_true rfl) trivial ?_
    ·kernel_rfl
    refine AOps.nil ?_
    refine AWp.cond rfl (fun hb => ?_) fun hb => ?_
    ·replace h := of_true h hb
     refine AWp.keepTo [0, 1, 2] 1 ⟨[(0, .pc 0 0), (1, tI v1), (2, q0 v2)], [.cells 65 [.str v3.f0, .int .i64 v3.f1, k0 v3.f2, .int .i64 v3.f3, .bool v3.f4]]⟩ ?_ (Nat.le_of_ble_eq_true rfl) ?_
     ·kernel_rfl
     refine AWp.seq ?_
     refine AWp.seq ?_
     refine AWp.start [0, 1] [] [] [0, 1, 2, 47] 1 ⟨[(0, .pc 0 0), (1, tI v1), (2, q0 v2), (47, tB (decide (v1 > (20000 : Int))))], [.cells 65 [.str v3.f0, .int .i64 v3.f1, k0 v3.f2, .int .i64 v3.f3, .bool v3.f4]]⟩ rfl ?_ (Nat.le_of_ble_eq_true rfl) trivial ?_
     ·kernel_rfl
     refine AOps.nil ?_
     refine AWp.cond rfl (fun hb => ?_) fun hb => ?_
     ·replace h := of_true h hb
      refine AWp.keepTo [] 1 ⟨[], [.cells 65 [.str v3.f0, .int .i64 v3.f1, k0 v3.f2, .int .i64 v3.f3, .bool v3.f4]]⟩ ?_ (Nat.le_of_ble_eq_true rfl) ?_
      ·kernel_rfl
      refine AWp.seq ?_
      refine AWp.start [0] [] [] [6] 1 ⟨[(6, tI (4 : Int))], [.cells 65 [.str v3.f0, .int .i64 v3.f1, k0 v3.f2, .int .i64 v3.f3, .bool v3.f4]]⟩ rfl ?_ (Nat.le_of_ble_eq_true rfl) trivial ?_
      ·kernel_rfl
      refine AOps.nil ?_
      refine AWp.ret ?_
      cases h
      exact ⟨.inr rfl, rfl⟩
     ·replace h := of_false h hb
      refine AWp.keepTo [0, 1, 2] 1 ⟨[(0, .pc 0 0), (1, tI v1), (2, q0 v2)], [.cells 65 [.str v3.f0, .int .i64 v3.f1, k0 v3.f2, .int .i64 v3.f3, .bool v3.f4]]⟩ ?_ (Nat.le_of_ble_eq_true rfl) ?_
      ·kernel_rfl
      refine AWp.skip ?_
      refine AWp.seq ?_
      refine AWp.draw FFm _ (n := 24) rfl (ls := #[n1, n1, n1, n1, n1, n1, n1, n1, n1, n1, n1, n1, n1, n1, n1, n1, n1, n1, n1, n1, n1, n1, n1, n1]) rfl ?_ (fun _ h => h)
      refine AAny.go (by kernel_rfl) [0, 1, 2, 3, 4, 5, 8, 10, 11, 12, 14, 15] (fuel' := 12) rfl [] #[y1, y1, y1, y1, y1, y1, n1, n1, y1, n1, y1, y1, y1, n1, y1, y1, n1, n1, n1, n1, n1, n1, n1, n1] [0, 49, 51, 54, 57, 61, 64] 1 ⟨[(0, .pc 0 0), (49, .pc 0 0), (51, tI (w64 (v1 - (1 : Int)))), (54, .pc 0 1), (57, q0 v2), (61, .pc 0 1), (64, tI (v2.length : Int))], [.cells 65 [.str v3.f0, .int .i64 v3.f1, k0 v3.f2, .int .i64 v3.f3, .bool v3.f4]]⟩ ?_ (Nat.le_of_ble_eq_true rfl) trivial ?_
      ·kernel_rfl
      obtain ⟨v9, hv9, h⟩ := of_bind h
      obtain ⟨hd4, h⟩ := of_guard h
      refine AAny.share 6 #[y1, y1, y1, y1, y1, y1, y1, y1, y1, y1, y1, y1, y1, y1, y1, y1, y1, y1, n1, n1, n1, n1, n1, n1] ⟨[(0, .pc 0 0), (49, .pc 0 0), (56, tI (w64 ((w64 (v1 - (1 : Int))) * v3.f1))), (66, q0 (v9 ++ List.replicate (Int.toNat (w64 (v3.f1 - (v2.length : Int)))) (0 : Int)))], [.cells 65 [.str v3.f0, .int .i64 v3.f1, k0 v3.f2, .int .i64 v3.f3, .bool v3.f4]]⟩ ?_ fun n8_ => ?_
      ·obtain ⟨v10, hv10, h⟩ := of_bind h
       refine AAny.serial (i := 18) (fuel := 5) (by kernel_rfl) (AOne.callO (F := (FF 106 1)) _ rfl rfl rfl 67 rfl rfl 44 [] rfl Try.call44 [0] (by decide) [.pc 0 0, tI (w64 ((w64 (v1 - (1 : Int))) * v3.f1)), q0 (v9 ++ List.replicate (Int.toNat (w64 (v3.f1 - (v2.length : Int)))) (0 : Int))] (by kernel_rfl) [.cells 65 [.str v3.f0, .int .i64 v3.f1, k0 v3.f2, .int .i64 v3.f3, .bool v3.f4]] (by kernel_rfl) (f44o_ok (w64 ((w64 (v1 - (1 : Int))) * v3.f1)) (v9 ++ List.replicate (Int.toNat (w64 (v3.f1 - (v2.length : Int)))) (0 : Int)) v3 hv10) (by kernel_rfl) (by kernel_rfl) _ rfl) ?_
       refine AAny.keepTo [0, 67] 1 ⟨[(0, .pc 0 0), (67, .tup [q0 v10.1, tI v10.2])], [.cells 65 [.str v3.f0, .int .i64 v3.f1, k0 v3.f2, .int .i64 v3.f3, .bool v3.f4]]⟩ #[y1, y1, y1, y1, y1, y1, y1, y1, y1, y1, y1, y1, y1, y1, y1, y1, y1, y1, y1, n1, n1, n1, n1, n1] ?_ rfl (Nat.le_of_ble_eq_true rfl) ?_
       ·kernel_rfl
       refine AAny.go (by kernel_rfl) [19, 20, 21, 22, 23] (fuel' := 0) rfl [] #[y1, y1, y1, y1, y1, y1, y1, y1, y1, y1, y1, y1, y1, y1, y1, y1, y1, y1, y1, y1, y1, y1, y1, y1] [0, 7, 8] 1 ⟨[(0, .pc 0 0), (7, q0 v10.1), (8, tI v10.2)], [.cells 65 [.str v3.f0, .int .i64 v3.f1, k0 v3.f2, .int .i64 v3.f3, .bool v3.f4]]⟩ ?_ (Nat.le_of_ble_eq_true rfl) trivial ?_
       ·kernel_rfl
       refine AAny.keepTo [0, 7, 8] 1 ⟨[(0, .pc 0 0), (7, q0 v10.1), (8, tI v10.2)], [.cells 65 [.str v3.f0, .int .i64 v3.f1, k0 v3.f2, .int .i64 v3.f3, .bool v3.f4]]⟩ _ ?_ rfl (Nat.le_of_ble_eq_true rfl) (AAny.done (by kernel_rfl) ?_)
       ·kernel_rfl
       refine AWp.join (V := (List Int)) (fun w => ⟨[(8, tI v10.2)], [.cells 65 [.str v3.f0, .int .i64 v3.f1, k0 w, .int .i64 v3.f3, .bool v3.f4]]⟩) (fun w => f24o_j1 v3 v10 w = some r) ?_ ?_
       ·refine AWp.seq ?_
        refine AWp.start [0, 1] [] [] [0, 7, 8, 71] 1 ⟨[(0, .pc 0 0), (7, q0 v10.1), (8, tI v10.2), (71, tB (v10.2 == (0 : Int)))], [.cells 65 [.str v3.f0, .int .i64 v3.f1, k0 v3.f2, .int .i64 v3.f3, .bool v3.f4]]⟩ rfl ?_ (Nat.le_of_ble_eq_true rfl) trivial ?_
        ·kernel_rfl
        refine AOps.nil ?_
        refine AWp.cond rfl (fun hb => ?_) fun hb => ?_
        ·replace h := of_true h hb
         refine AWp.keepTo [0, 7, 8] 1 ⟨[(0, .pc 0 0), (7, q0 v10.1), (8, tI v10.2)], [.cells 65 [.str v3.f0, .int .i64 v3.f1, k0 v3.f2, .int .i64 v3.f3, .bool v3.f4]]⟩ ?_ (Nat.le_of_ble_eq_true rfl) ?_
         ·kernel_rfl
         refine AWp.start [0, 1, 2, 3, 4] [] [] [8] 1 ⟨[(8, tI v10.2)], [.cells 65 [.str v3.f0, .int .i64 v3.f1, k0 v10.1, .int .i64 v3.f3, .bool v3.f4]]⟩ rfl ?_ (Nat.le_of_ble_eq_true rfl) trivial ?_
         ·kernel_rfl
         refine AOps.nil ?_
         exact ⟨v10.1, h, rfl⟩
        ·replace h := of_false h hb
         refine AWp.keepTo [8] 1 ⟨[(8, tI v10.2)], [.cells 65 [.str v3.f0, .int .i64 v3.f1, k0 v3.f2, .int .i64 v3.f3, .bool v3.f4]]⟩ ?_ (Nat.le_of_ble_eq_true rfl) ?_
         ·kernel_rfl
         refine AWp.skip ?_
         exact ⟨v3.f2, h, rfl⟩
       ·rintro v11 h
        refine AWp.seq ?_
        refine AWp.start [0, 1] [] [] [6] 1 ⟨[(6, tI v10.2)], [.cells 65 [.str v3.f0, .int .i64 v3.f1, k0 v11, .int .i64 v3.f3, .bool v3.f4]]⟩ rfl ?_ (Nat.le_of_ble_eq_true rfl) trivial ?_
        ·kernel_rfl
        refine AOps.nil ?_
        refine AWp.ret ?_
        cases h
        exact ⟨.inr rfl, rfl⟩
      refine AAny.share 7 #[y1, y1, y1, y1, y1, y1, y1, y1, y1, y1, y1, y1, y1, y1, y1, y1, y1, n1, n1, n1, n1, n1, n1, n1] ⟨[(0, .pc 0 0), (49, .pc 0 0), (56, tI (w64 ((w64 (v1 - (1 : Int))) * v3.f1))), (58, q1 v9), (65, tI (w64 (v3.f1 - (v2.length : Int))))], [.cells 65 [.str v3.f0, .int .i64 v3.f1, k0 v3.f2, .int .i64 v3.f3, .bool v3.f4]]⟩ ?_ fun n6_ => ?_
      ·refine AAny.each [17] (by kernel_rfl) rfl ?_
       refine AEach.one (i := 17) (AOne.zero (F := (FF 106 1)) [(0 : Int) ≤ w64 (v3.f1 - (v2.length : Int)), (v9.length + (Int.toNat (w64 (v3.f1 - (v2.length : Int))))) * 1 ≤ 140737488355328, PlainTo v9.length (fun i => (cInt .u8) (v9.getD i default))] _ rfl rfl rfl rfl ⟨hd4.1, hd4.2, (fun _ _ => rfl)⟩) ?_ ?_
       ·refine AAny.keepTo [0, 49, 56, 66] 1 ⟨[(0, .pc 0 0), (49, .pc 0 0), (56, tI (w64 ((w64 (v1 - (1 : Int))) * v3.f1))), (66, .tv (.own 1 5 (v9.length + (Int.toNat (w64 (v3.f1 - (v2.length : Int))))) (appF v9.length (fun i => (cInt .u8) (v9.getD i default)) (zerosF [.int .u8 (0 : Int)]))))], [.cells 65 [.str v3.f0, .int .i64 v3.f1, k0 v3.f2, .int .i64 v3.f3, .bool v3.f4]]⟩ #[y1, y1, y1, y1, y1, y1, y1, y1, y1, y1, y1, y1, y1, y1, y1, y1, y1, y1, n1, n1, n1, n1, n1, n1] ?_ rfl (Nat.le_of_ble_eq_true rfl) ?_
        ·kernel_rfl
        refine AAny.extL 66 (cInt .u8) (v9 ++ List.replicate (Int.toNat (w64 (v3.f1 - (v2.length : Int)))) (0 : Int)) rfl (by simp) (appz_at (cInt .u8) v9 _ [.int .u8 (0 : Int)] (0 : Int) rfl) ?_
        refine AAny.freezeL 66 (cInt .u8) (v9 ++ List.replicate (Int.toNat (w64 (v3.f1 - (v2.length : Int)))) (0 : Int)) rfl (fun _ => rfl) ?_
        refine AAny.keepTo [0, 49, 56, 66] 1 ⟨[(0, .pc 0 0), (49, .pc 0 0), (56, tI (w64 ((w64 (v1 - (1 : Int))) * v3.f1))), (66, q0 (v9 ++ List.replicate (Int.toNat (w64 (v3.f1 - (v2.length : Int)))) (0 : Int)))], [.cells 65 [.str v3.f0, .int .i64 v3.f1, k0 v3.f2, .int .i64 v3.f3, .bool v3.f4]]⟩ #[y1, y1, y1, y1, y1, y1, y1, y1, y1, y1, y1, y1, y1, y1, y1, y1, y1, y1, n1, n1, n1, n1, n1, n1] ?_ rfl (Nat.le_of_ble_eq_true rfl) ?_
        ·kernel_rfl
        exact n8_
       exact AEach.nil
      refine AAny.share 8 #[y1, y1, y1, y1, y1, y1, n1, n1, y1, y1, y1, y1, y1, y1, y1, y1, y1, y1, n1, n1, n1, n1, n1, n1] ⟨[(0, .pc 0 0), (49, .pc 0 0), (51, tI (w64 (v1 - (1 : Int)))), (54, .pc 0 1), (66, q0 (v9 ++ List.replicate (Int.toNat (w64 (v3.f1 - (v2.length : Int)))) (0 : Int)))], [.cells 65 [.str v3.f0, .int .i64 v3.f1, k0 v3.f2, .int .i64 v3.f3, .bool v3.f4]]⟩ ?_ fun n7_ => ?_
      ·refine AAny.each [6] (by kernel_rfl) rfl ?_
       refine AEach.step (i := 6) [] #[y1, y1, y1, y1, y1, y1, y1, n1, y1, y1, y1, y1, y1, y1, y1, y1, y1, y1, n1, n1, n1, n1, n1, n1] rfl [0, 49, 51, 55, 66] 1 ⟨[(0, .pc 0 0), (49, .pc 0 0), (51, tI (w64 (v1 - (1 : Int)))), (55, tI v3.f1), (66, q0 (v9 ++ List.replicate (Int.toNat (w64 (v3.f1 - (v2.length : Int)))) (0 : Int)))], [.cells 65 [.str v3.f0, .int .i64 v3.f1, k0 v3.f2, .int .i64 v3.f3, .bool v3.f4]]⟩ ?_ (Nat.le_of_ble_eq_true rfl) trivial ?_ ?_
       ·kernel_rfl
       ·refine AAny.go (by kernel_rfl) [7] (fuel' := 6) rfl [] #[y1, y1, y1, y1, y1, y1, y1, y1, y1, y1, y1, y1, y1, y1, y1, y1, y1, y1, n1, n1, n1, n1, n1, n1] [0, 49, 56, 66] 1 ⟨[(0, .pc 0 0), (49, .pc 0 0), (56, tI (w64 ((w64 (v1 - (1 : Int))) * v3.f1))), (66, q0 (v9 ++ List.replicate (Int.toNat (w64 (v3.f1 - (v2.length : Int)))) (0 : Int)))], [.cells 65 [.str v3.f0, .int .i64 v3.f1, k0 v3.f2, .int .i64 v3.f3, .bool v3.f4]]⟩ ?_ (Nat.le_of_ble_eq_true rfl) trivial ?_
        ·kernel_rfl
        exact n8_
       exact AEach.nil
      refine AAny.share 8 #[y1, y1, y1, y1, y1, y1, y1, y1, y1, n1, y1, y1, y1, y1, y1, y1, y1, n1, n1, n1, n1, n1, n1, n1] ⟨[(0, .pc 0 0), (49, .pc 0 0), (56, tI (w64 ((w64 (v1 - (1 : Int))) * v3.f1))), (57, q0 v2), (65, tI (w64 (v3.f1 - (v2.length : Int))))], [.cells 65 [.str v3.f0, .int .i64 v3.f1, k0 v3.f2, .int .i64 v3.f3, .bool v3.f4]]⟩ ?_ fun n4_ => ?_
      ·refine AAny.each [9] (by kernel_rfl) rfl ?_
       refine AEach.one (i := 9) (AOne.callP (F := (FF 106 1)) _ rfl rfl rfl _ rfl rfl _ _ rfl Try.call37 [q0 v2] rfl rfl (f37_ok v2 hv9) rfl) ?_ ?_
       ·refine AAny.keepTo [0, 49, 56, 58, 65] 1 ⟨[(0, .pc 0 0), (49, .pc 0 0), (56, tI (w64 ((w64 (v1 - (1 : Int))) * v3.f1))), (58, q1 v9), (65, tI (w64 (v3.f1 - (v2.length : Int))))], [.cells 65 [.str v3.f0, .int .i64 v3.f1, k0 v3.f2, .int .i64 v3.f3, .bool v3.f4]]⟩ #[y1, y1, y1, y1, y1, y1, y1, y1, y1, y1, y1, y1, y1, y1, y1, y1, y1, n1, n1, n1, n1, n1, n1, n1] ?_ rfl (Nat.le_of_ble_eq_true rfl) ?_
        ·kernel_rfl
        exact n6_
       exact AEach.nil
      refine AAny.share 9 #[y1, y1, y1, y1, y1, y1, n1, n1, y1, y1, y1, y1, y1, y1, y1, y1, y1, n1, n1, n1, n1, n1, n1, n1] ⟨[(0, .pc 0 0), (49, .pc 0 0), (51, tI (w64 (v1 - (1 : Int)))), (54, .pc 0 1), (58, q1 v9), (65, tI (w64 (v3.f1 - (v2.length : Int))))], [.cells 65 [.str v3.f0, .int .i64 v3.f1, k0 v3.f2, .int .i64 v3.f3, .bool v3.f4]]⟩ ?_ fun n5_ => ?_
      ·refine AAny.each [6, 17] (by kernel_rfl) rfl ?_
       refine AEach.step (i := 6) [] #[y1, y1, y1, y1, y1, y1, y1, n1, y1, y1, y1, y1, y1, y1, y1, y1, y1, n1, n1, n1, n1, n1, n1, n1] rfl [0, 49, 51, 55, 58, 65] 1 ⟨[(0, .pc 0 0), (49, .pc 0 0), (51, tI (w64 (v1 - (1 : Int)))), (55, tI v3.f1), (58, q1 v9), (65, tI (w64 (v3.f1 - (v2.length : Int))))], [.cells 65 [.str v3.f0, .int .i64 v3.f1, k0 v3.f2, .int .i64 v3.f3, .bool v3.f4]]⟩ ?_ (Nat.le_of_ble_eq_true rfl) trivial ?_ ?_
       ·kernel_rfl
       ·refine AAny.go (by kernel_rfl) [7] (fuel' := 7) rfl [] #[y1, y1, y1, y1, y1, y1, y1, y1, y1, y1, y1, y1, y1, y1, y1, y1, y1, n1, n1, n1, n1, n1, n1, n1] [0, 49, 56, 58, 65] 1 ⟨[(0, .pc 0 0), (49, .pc 0 0), (56, tI (w64 ((w64 (v1 - (1 : Int))) * v3.f1))), (58, q1 v9), (65, tI (w64 (v3.f1 - (v2.length : Int))))], [.cells 65 [.str v3.f0, .int .i64 v3.f1, k0 v3.f2, .int .i64 v3.f3, .bool v3.f4]]⟩ ?_ (Nat.le_of_ble_eq_true rfl) trivial ?_
        ·kernel_rfl
        exact n6_
       refine AEach.one (i := 17) (AOne.zero (F := (FF 106 1)) [(0 : Int) ≤ w64 (v3.f1 - (v2.length : Int)), (v9.length + (Int.toNat (w64 (v3.f1 - (v2.length : Int))))) * 1 ≤ 140737488355328, PlainTo v9.length (fun i => (cInt .u8) (v9.getD i default))] _ rfl rfl rfl rfl ⟨hd4.1, hd4.2, (fun _ _ => rfl)⟩) ?_ ?_
       ·refine AAny.keepTo [0, 49, 51, 54, 66] 1 ⟨[(0, .pc 0 0), (49, .pc 0 0), (51, tI (w64 (v1 - (1 : Int)))), (54, .pc 0 1), (66, .tv (.own 1 5 (v9.length + (Int.toNat (w64 (v3.f1 - (v2.length : Int))))) (appF v9.length (fun i => (cInt .u8) (v9.getD i default)) (zerosF [.int .u8 (0 : Int)]))))], [.cells 65 [.str v3.f0, .int .i64 v3.f1, k0 v3.f2, .int .i64 v3.f3, .bool v3.f4]]⟩ #[y1, y1, y1, y1, y1, y1, n1, n1, y1, y1, y1, y1, y1, y1, y1, y1, y1, y1, n1, n1, n1, n1, n1, n1] ?_ rfl (Nat.le_of_ble_eq_true rfl) ?_
        ·kernel_rfl
        refine AAny.extL 66 (cInt .u8) (v9 ++ List.replicate (Int.toNat (w64 (v3.f1 - (v2.length : Int)))) (0 : Int)) rfl (by simp) (appz_at (cInt .u8) v9 _ [.int .u8 (0 : Int)] (0 : Int) rfl) ?_
        refine AAny.freezeL 66 (cInt .u8) (v9 ++ List.replicate (Int.toNat (w64 (v3.f1 - (v2.length : Int)))) (0 : Int)) rfl (fun _ => rfl) ?_
        refine AAny.keepTo [0, 49, 51, 54, 66] 1 ⟨[(0, .pc 0 0), (49, .pc 0 0), (51, tI (w64 (v1 - (1 : Int)))), (54, .pc 0 1), (66, q0 (v9 ++ List.replicate (Int.toNat (w64 (v3.f1 - (v2.length : Int)))) (0 : Int)))], [.cells 65 [.str v3.f0, .int .i64 v3.f1, k0 v3.f2, .int .i64 v3.f3, .bool v3.f4]]⟩ #[y1, y1, y1, y1, y1, y1, n1, n1, y1, y1, y1, y1, y1, y1, y1, y1, y1, y1, n1, n1, n1, n1, n1, n1] ?_ rfl (Nat.le_of_ble_eq_true rfl) ?_
        ·kernel_rfl
        exact n7_
       exact AEach.nil
      refine AAny.share 9 #[y1, y1, y1, y1, y1, y1, y1, y1, y1, y1, y1, y1, y1, n1, y1, y1, n1, n1, n1, n1, n1, n1, n1, n1] ⟨[(0, .pc 0 0), (49, .pc 0 0), (56, tI (w64 ((w64 (v1 - (1 : Int))) * v3.f1))), (58, q1 v9), (61, .pc 0 1), (64, tI (v2.length : Int))], [.cells 65 [.str v3.f0, .int .i64 v3.f1, k0 v3.f2, .int .i64 v3.f3, .bool v3.f4]]⟩ ?_ fun n9_ => ?_
      ·refine AAny.each [13] (by kernel_rfl) rfl ?_
       refine AEach.step (i := 13) [] #[y1, y1, y1, y1, y1, y1, y1, y1, y1, y1, y1, y1, y1, y1, y1, y1, n1, n1, n1, n1, n1, n1, n1, n1] rfl [0, 49, 56, 58, 62, 64] 1 ⟨[(0, .pc 0 0), (49, .pc 0 0), (56, tI (w64 ((w64 (v1 - (1 : Int))) * v3.f1))), (58, q1 v9), (62, tI v3.f1), (64, tI (v2.length : Int))], [.cells 65 [.str v3.f0, .int .i64 v3.f1, k0 v3.f2, .int .i64 v3.f3, .bool v3.f4]]⟩ ?_ (Nat.le_of_ble_eq_true rfl) trivial ?_ ?_
       ·kernel_rfl
       ·refine AAny.go (by kernel_rfl) [16] (fuel' := 7) rfl [] #[y1, y1, y1, y1, y1, y1, y1, y1, y1, y1, y1, y1, y1, y1, y1, y1, y1, n1, n1, n1, n1, n1, n1, n1] [0, 49, 56, 58, 65] 1 ⟨[(0, .pc 0 0), (49, .pc 0 0), (56, tI (w64 ((w64 (v1 - (1 : Int))) * v3.f1))), (58, q1 v9), (65, tI (w64 (v3.f1 - (v2.length : Int))))], [.cells 65 [.str v3.f0, .int .i64 v3.f1, k0 v3.f2, .int .i64 v3.f3, .bool v3.f4]]⟩ ?_ (Nat.le_of_ble_eq_true rfl) trivial ?_
        ·kernel_rfl
        exact n6_
       exact AEach.nil
      refine AAny.share 10 #[y1, y1, y1, y1, y1, y1, n1, n1, y1, n1, y1, y1, y1, y1, y1, y1, y1, n1, n1, n1, n1, n1, n1, n1] ⟨[(0, .pc 0 0), (49, .pc 0 0), (51, tI (w64 (v1 - (1 : Int)))), (54, .pc 0 1), (57, q0 v2), (65, tI (w64 (v3.f1 - (v2.length : Int))))], [.cells 65 [.str v3.f0, .int .i64 v3.f1, k0 v3.f2, .int .i64 v3.f3, .bool v3.f4]]⟩ ?_ fun n3_ => ?_
      ·refine AAny.each [6, 9] (by kernel_rfl) rfl ?_
       refine AEach.step (i := 6) [] #[y1, y1, y1, y1, y1, y1, y1, n1, y1, n1, y1, y1, y1, y1, y1, y1, y1, n1, n1, n1, n1, n1, n1, n1] rfl [0, 49, 51, 55, 57, 65] 1 ⟨[(0, .pc 0 0), (49, .pc 0 0), (51, tI (w64 (v1 - (1 : Int)))), (55, tI v3.f1), (57, q0 v2), (65, tI (w64 (v3.f1 - (v2.length : Int))))], [.cells 65 [.str v3.f0, .int .i64 v3.f1, k0 v3.f2, .int .i64 v3.f3, .bool v3.f4]]⟩ ?_ (Nat.le_of_ble_eq_true rfl) trivial ?_ ?_
       ·kernel_rfl
       ·refine AAny.go (by kernel_rfl) [7] (fuel' := 8) rfl [] #[y1, y1, y1, y1, y1, y1, y1, y1, y1, n1, y1, y1, y1, y1, y1, y1, y1, n1, n1, n1, n1, n1, n1, n1] [0, 49, 56, 57, 65] 1 ⟨[(0, .pc 0 0), (49, .pc 0 0), (56, tI (w64 ((w64 (v1 - (1 : Int))) * v3.f1))), (57, q0 v2), (65, tI (w64 (v3.f1 - (v2.length : Int))))], [.cells 65 [.str v3.f0, .int .i64 v3.f1, k0 v3.f2, .int .i64 v3.f3, .bool v3.f4]]⟩ ?_ (Nat.le_of_ble_eq_true rfl) trivial ?_
        ·kernel_rfl
        exact n4_
       refine AEach.one (i := 9) (AOne.callP (F := (FF 106 1)) _ rfl rfl rfl _ rfl rfl _ _ rfl Try.call37 [q0 v2] rfl rfl (f37_ok v2 hv9) rfl) ?_ ?_
       ·refine AAny.keepTo [0, 49, 51, 54, 58, 65] 1 ⟨[(0, .pc 0 0), (49, .pc 0 0), (51, tI (w64 (v1 - (1 : Int)))), (54, .pc 0 1), (58, q1 v9), (65, tI (w64 (v3.f1 - (v2.length : Int))))], [.cells 65 [.str v3.f0, .int .i64 v3.f1, k0 v3.f2, .int .i64 v3.f3, .bool v3.f4]]⟩ #[y1, y1, y1, y1, y1, y1, n1, n1, y1, y1, y1, y1, y1, y1, y1, y1, y1, n1, n1, n1, n1, n1, n1, n1] ?_ rfl (Nat.le_of_ble_eq_true rfl) ?_
        ·kernel_rfl
        exact n5_
       exact AEach.nil
      refine AAny.share 10 #[y1, y1, y1, y1, y1, y1, y1, y1, y1, n1, y1, y1, y1, n1, y1, y1, n1, n1, n1, n1, n1, n1, n1, n1] ⟨[(0, .pc 0 0), (49, .pc 0 0), (56, tI (w64 ((w64 (v1 - (1 : Int))) * v3.f1))), (57, q0 v2), (61, .pc 0 1), (64, tI (v2.length : Int))], [.cells 65 [.str v3.f0, .int .i64 v3.f1, k0 v3.f2, .int .i64 v3.f3, .bool v3.f4]]⟩ ?_ fun n1_ => ?_
      ·refine AAny.each [9, 13] (by kernel_rfl) rfl ?_
       refine AEach.one (i := 9) (AOne.callP (F := (FF 106 1)) _ rfl rfl rfl _ rfl rfl _ _ rfl Try.call37 [q0 v2] rfl rfl (f37_ok v2 hv9) rfl) ?_ ?_
       ·refine AAny.keepTo [0, 49, 56, 58, 61, 64] 1 ⟨[(0, .pc 0 0), (49, .pc 0 0), (56, tI (w64 ((w64 (v1 - (1 : Int))) * v3.f1))), (58, q1 v9), (61, .pc 0 1), (64, tI (v2.length : Int))], [.cells 65 [.str v3.f0, .int .i64 v3.f1, k0 v3.f2, .int .i64 v3.f3, .bool v3.f4]]⟩ #[y1, y1, y1, y1, y1, y1, y1, y1, y1, y1, y1, y1, y1, n1, y1, y1, n1, n1, n1, n1, n1, n1, n1, n1] ?_ rfl (Nat.le_of_ble_eq_true rfl) ?_
        ·kernel_rfl
        exact n9_
       refine AEach.step (i := 13) [] #[y1, y1, y1, y1, y1, y1, y1, y1, y1, n1, y1, y1, y1, y1, y1, y1, n1, n1, n1, n1, n1, n1, n1, n1] rfl [0, 49, 56, 57, 62, 64] 1 ⟨[(0, .pc 0 0), (49, .pc 0 0), (56, tI (w64 ((w64 (v1 - (1 : Int))) * v3.f1))), (57, q0 v2), (62, tI v3.f1), (64, tI (v2.length : Int))], [.cells 65 [.str v3.f0, .int .i64 v3.f1, k0 v3.f2, .int .i64 v3.f3, .bool v3.f4]]⟩ ?_ (Nat.le_of_ble_eq_true rfl) trivial ?_ ?_
       ·kernel_rfl
       ·refine AAny.go (by kernel_rfl) [16] (fuel' := 8) rfl [] #[y1, y1, y1, y1, y1, y1, y1, y1, y1, n1, y1, y1, y1, y1, y1, y1, y1, n1, n1, n1, n1, n1, n1, n1] [0, 49, 56, 57, 65] 1 ⟨[(0, .pc 0 0), (49, .pc 0 0), (56, tI (w64 ((w64 (v1 - (1 : Int))) * v3.f1))), (57, q0 v2), (65, tI (w64 (v3.f1 - (v2.length : Int))))], [.cells 65 [.str v3.f0, .int .i64 v3.f1, k0 v3.f2, .int .i64 v3.f3, .bool v3.f4]]⟩ ?_ (Nat.le_of_ble_eq_true rfl) trivial ?_
        ·kernel_rfl
        exact n4_
       exact AEach.nil
      refine AAny.share 11 #[y1, y1, y1, y1, y1, y1, n1, n1, y1, y1, y1, y1, y1, n1, y1, y1, n1, n1, n1, n1, n1, n1, n1, n1] ⟨[(0, .pc 0 0), (49, .pc 0 0), (51, tI (w64 (v1 - (1 : Int)))), (54, .pc 0 1), (58, q1 v9), (61, .pc 0 1), (64, tI (v2.length : Int))], [.cells 65 [.str v3.f0, .int .i64 v3.f1, k0 v3.f2, .int .i64 v3.f3, .bool v3.f4]]⟩ ?_ fun n2_ => ?_
      ·refine AAny.each [6, 13] (by kernel_rfl) rfl ?_
       refine AEach.step (i := 6) [] #[y1, y1, y1, y1, y1, y1, y1, n1, y1, y1, y1, y1, y1, n1, y1, y1, n1, n1, n1, n1, n1, n1, n1, n1] rfl [0, 49, 51, 55, 58, 61, 64] 1 ⟨[(0, .pc 0 0), (49, .pc 0 0), (51, tI (w64 (v1 - (1 : Int)))), (55, tI v3.f1), (58, q1 v9), (61, .pc 0 1), (64, tI (v2.length : Int))], [.cells 65 [.str v3.f0, .int .i64 v3.f1, k0 v3.f2, .int .i64 v3.f3, .bool v3.f4]]⟩ ?_ (Nat.le_of_ble_eq_true rfl) trivial ?_ ?_
       ·kernel_rfl
       ·refine AAny.go (by kernel_rfl) [7] (fuel' := 9) rfl [] #[y1, y1, y1, y1, y1, y1, y1, y1, y1, y1, y1, y1, y1, n1, y1, y1, n1, n1, n1, n1, n1, n1, n1, n1] [0, 49, 56, 58, 61, 64] 1 ⟨[(0, .pc 0 0), (49, .pc 0 0), (56, tI (w64 ((w64 (v1 - (1 : Int))) * v3.f1))), (58, q1 v9), (61, .pc 0 1), (64, tI (v2.length : Int))], [.cells 65 [.str v3.f0, .int .i64 v3.f1, k0 v3.f2, .int .i64 v3.f3, .bool v3.f4]]⟩ ?_ (Nat.le_of_ble_eq_true rfl) trivial ?_
        ·kernel_rfl
        exact n9_
       refine AEach.step (i := 13) [] #[y1, y1, y1, y1, y1, y1, n1, n1, y1, y1, y1, y1, y1, y1, y1, y1, n1, n1, n1, n1, n1, n1, n1, n1] rfl [0, 49, 51, 54, 58, 62, 64] 1 ⟨[(0, .pc 0 0), (49, .pc 0 0), (51, tI (w64 (v1 - (1 : Int)))), (54, .pc 0 1), (58, q1 v9), (62, tI v3.f1), (64, tI (v2.length : Int))], [.cells 65 [.str v3.f0, .int .i64 v3.f1, k0 v3.f2, .int .i64 v3.f3, .bool v3.f4]]⟩ ?_ (Nat.le_of_ble_eq_true rfl) trivial ?_ ?_
       ·kernel_rfl
       ·refine AAny.go (by kernel_rfl) [16] (fuel' := 9) rfl [] #[y1, y1, y1, y1, y1, y1, n1, n1, y1, y1, y1, y1, y1, y1, y1, y1, y1, n1, n1, n1, n1, n1, n1, n1] [0, 49, 51, 54, 58, 65] 1 ⟨[(0, .pc 0 0), (49, .pc 0 0), (51, tI (w64 (v1 - (1 : Int)))), (54, .pc 0 1), (58, q1 v9), (65, tI (w64 (v3.f1 - (v2.length : Int))))], [.cells 65 [.str v3.f0, .int .i64 v3.f1, k0 v3.f2, .int .i64 v3.f3, .bool v3.f4]]⟩ ?_ (Nat.le_of_ble_eq_true rfl) trivial ?_
        ·kernel_rfl
        exact n5_
       exact AEach.nil
      refine AAny.each [6, 9, 13] (by kernel_rfl) rfl ?_
      refine AEach.step (i := 6) [] #[y1, y1, y1, y1, y1, y1, y1, n1, y1, n1, y1, y1, y1, n1, y1, y1, n1, n1, n1, n1, n1, n1, n1, n1] rfl [0, 49, 51, 55, 57, 61, 64] 1 ⟨[(0, .pc 0 0), (49, .pc 0 0), (51, tI (w64 (v1 - (1 : Int)))), (55, tI v3.f1), (57, q0 v2), (61, .pc 0 1), (64, tI (v2.length : Int))], [.cells 65 [.str v3.f0, .int .i64 v3.f1, k0 v3.f2, .int .i64 v3.f3, .bool v3.f4]]⟩ ?_ (Nat.le_of_ble_eq_true rfl) trivial ?_ ?_
      ·kernel_rfl
      ·refine AAny.go (by kernel_rfl) [7] (fuel' := 10) rfl [] #[y1, y1, y1, y1, y1, y1, y1, y1, y1, n1, y1, y1, y1, n1, y1, y1, n1, n1, n1, n1, n1, n1, n1, n1] [0, 49, 56, 57, 61, 64] 1 ⟨[(0, .pc 0 0), (49, .pc 0 0), (56, tI (w64 ((w64 (v1 - (1 : Int))) * v3.f1))), (57, q0 v2), (61, .pc 0 1), (64, tI (v2.length : Int))], [.cells 65 [.str v3.f0, .int .i64 v3.f1, k0 v3.f2, .int .i64 v3.f3, .bool v3.f4]]⟩ ?_ (Nat.le_of_ble_eq_true rfl) trivial ?_
       ·kernel_rfl
       exact n1_
      refine AEach.one (i := 9) (AOne.callP (F := (FF 106 1)) _ rfl rfl rfl _ rfl rfl _ _ rfl Try.call37 [q0 v2] rfl rfl (f37_ok v2 hv9) rfl) ?_ ?_
      ·refine AAny.keepTo [0, 49, 51, 54, 58, 61, 64] 1 ⟨[(0, .pc 0 0), (49, .pc 0 0), (51, tI (w64 (v1 - (1 : Int)))), (54, .pc 0 1), (58, q1 v9), (61, .pc 0 1), (64, tI (v2.length : Int))], [.cells 65 [.str v3.f0, .int .i64 v3.f1, k0 v3.f2, .int .i64 v3.f3, .bool v3.f4]]⟩ #[y1, y1, y1, y1, y1, y1, n1, n1, y1, y1, y1, y1, y1, n1, y1, y1, n1, n1, n1, n1, n1, n1, n1, n1] ?_ rfl (Nat.le_of_ble_eq_true rfl) ?_
       ·kernel_rfl
       exact n2_
      refine AEach.step (i := 13) [] #[y1, y1, y1, y1, y1, y1, n1, n1, y1, n1, y1, y1, y1, y1, y1, y1, n1, n1, n1, n1, n1, n1, n1, n1] rfl [0, 49, 51, 54, 57, 62, 64] 1 ⟨[(0, .pc 0 0), (49, .pc 0 0), (51, tI (w64 (v1 - (1 : Int)))), (54, .pc 0 1), (57, q0 v2), (62, tI v3.f1), (64, tI (v2.length : Int))], [.cells 65 [.str v3.f0, .int .i64 v3.f1, k0 v3.f2, .int .i64 v3.f3, .bool v3.f4]]⟩ ?_ (Nat.le_of_ble_eq_true rfl) trivial ?_ ?_
      ·kernel_rfl
      ·refine AAny.go (by kernel_rfl) [16] (fuel' := 10) rfl [] #[y1, y1, y1, y1, y1, y1, n1, n1, y1, n1, y1, y1, y1, y1, y1, y1, y1, n1, n1, n1, n1, n1, n1, n1] [0, 49, 51, 54, 57, 65] 1 ⟨[(0, .pc 0 0), (49, .pc 0 0), (51, tI (w64 (v1 - (1 : Int)))), (54, .pc 0 1), (57, q0 v2), (65, tI (w64 (v3.f1 - (v2.length : Int))))], [.cells 65 [.str v3.f0, .int .i64 v3.f1, k0 v3.f2, .int .i64 v3.f3, .bool v3.f4]]⟩ ?_ (Nat.le_of_ble_eq_true rfl) trivial ?_
       ·kernel_rfl
       exact n3_
      exact AEach.nil
    ·replace h := of_false h hb
     refine AWp.keepTo [0, 1, 2] 1 ⟨[(0, .pc 0 0), (1, tI v1), (2, q0 v2)], [.cells 65 [.str v3.f0, .int .i64 v3.f1, k0 v3.f2, .int .i64 v3.f3, .bool v3.f4]]⟩ ?_ (Nat.le_of_ble_eq_true rfl) ?_
     ·kernel_rfl
     refine AWp.skip ?_
     refine AWp.seq ?_
     refine AWp.start [0, 1] [2, 3] [] [0, 2, 77, 78] 1 ⟨[(0, .pc 0 0), (2, q0 v2), (77, .pc 0 0), (78, tI v1)], [.cells 65 [.str v3.f0, .int .i64 v3.f1, k0 v3.f2, .int .i64 v3.f3, .bool v3.f4]]⟩ rfl ?_ (Nat.le_of_ble_eq_true rfl) trivial ?_
     ·kernel_rfl
     obtain ⟨v12, hv12, h⟩ := of_bind h
     refine AOps.cons (AOne.callR (F := (FF 106 1)) _ rfl rfl rfl _ rfl rfl _ _ rfl Try.call45 [] [.rp [.str v3.f0, .int .i64 v3.f1, k0 v3.f2, .int .i64 v3.f3, .bool v3.f4], tI v1] rfl trivial (f45_ok v3 v1 hv12) (ind_of rfl) rfl) ?_
     refine AOps.go [3] [] [] [0, 2, 9] 1 ⟨[(0, .pc 0 0), (2, q0 v2), (9, tI v12)], [.cells 65 [.str v3.f0, .int .i64 v3.f1, k0 v3.f2, .int .i64 v3.f3, .bool v3.f4]]⟩ ?_ (Nat.le_of_ble_eq_true rfl) trivial ?_
     ·kernel_rfl
     refine AOps.nil ?_
     refine AWp.seq ?_
     refine AWp.seq ?_
     refine AWp.start [0, 1] [] [] [0, 2, 9, 81] 1 ⟨[(0, .pc 0 0), (2, q0 v2), (9, tI v12), (81, tB (decide (v12 > (20000 : Int))))], [.cells 65 [.str v3.f0, .int .i64 v3.f1, k0 v3.f2, .int .i64 v3.f3, .bool v3.f4]]⟩ rfl ?_ (Nat.le_of_ble_eq_true rfl) trivial ?_
     ·kernel_rfl
     refine AOps.nil ?_
     refine AWp.cond rfl (fun hb => ?_) fun hb => ?_
     ·replace h := of_true h hb
      refine AWp.keepTo [] 1 ⟨[], [.cells 65 [.str v3.f0, .int .i64 v3.f1, k0 v3.f2, .int .i64 v3.f3, .bool v3.f4]]⟩ ?_ (Nat.le_of_ble_eq_true rfl) ?_
      ·kernel_rfl
      refine AWp.seq ?_
      refine AWp.start [0] [] [] [6] 1 ⟨[(6, tI (4 : Int))], [.cells 65 [.str v3.f0, .int .i64 v3.f1, k0 v3.f2, .int .i64 v3.f3, .bool v3.f4]]⟩ rfl ?_ (Nat.le_of_ble_eq_true rfl) trivial ?_
      ·kernel_rfl
      refine AOps.nil ?_
      refine AWp.ret ?_
      cases h
      exact ⟨.inr rfl, rfl⟩
     ·replace h := of_false h hb
      refine AWp.keepTo [0, 2, 9] 1 ⟨[(0, .pc 0 0), (2, q0 v2), (9, tI v12)], [.cells 65 [.str v3.f0, .int .i64 v3.f1, k0 v3.f2, .int .i64 v3.f3, .bool v3.f4]]⟩ ?_ (Nat.le_of_ble_eq_true rfl) ?_
      ·kernel_rfl
      refine AWp.skip ?_
      refine AWp.join (V := (List Int)) (fun w => ⟨[(0, .pc 0 0), (2, q0 v2), (9, tI v12)], [.cells 65 [.str v3.f0, .int .i64 v3.f1, k0 w, .int .i64 v3.f3, .bool v3.f4]]⟩) (fun w => f24o_j2 v2 v3 v12 w = some r) ?_ ?_
      ·refine AWp.seq ?_
       refine AWp.start [0, 1, 2] [] [] [0, 2, 9, 84] 1 ⟨[(0, .pc 0 0), (2, q0 v2), (9, tI v12), (84, tB (decide ((v2.length : Int) > (0 : Int))))], [.cells 65 [.str v3.f0, .int .i64 v3.f1, k0 v3.f2, .int .i64 v3.f3, .bool v3.f4]]⟩ rfl ?_ (Nat.le_of_ble_eq_true rfl) trivial ?_
       ·kernel_rfl
       refine AOps.nil ?_
       refine AWp.cond rfl (fun hb => ?_) fun hb => ?_
       ·replace h := of_true h hb
        refine AWp.keepTo [0, 2, 9] 1 ⟨[(0, .pc 0 0), (2, q0 v2), (9, tI v12)], [.cells 65 [.str v3.f0, .int .i64 v3.f1, k0 v3.f2, .int .i64 v3.f3, .bool v3.f4]]⟩ ?_ (Nat.le_of_ble_eq_true rfl) ?_
        ·kernel_rfl
        refine AWp.seq ?_
        refine AWp.start [0, 1, 2] [3, 4, 5, 6, 7, 8] [] [0, 2, 9, 86, 87, 88] 1 ⟨[(0, .pc 0 0), (2, q0 v2), (9, tI v12), (86, .pc 0 0), (87, tI v12), (88, q0 v2)], [.cells 65 [.str v3.f0, .int .i64 v3.f1, k0 v3.f2, .int .i64 v3.f3, .bool v3.f4]]⟩ rfl ?_ (Nat.le_of_ble_eq_true rfl) trivial ?_
        ·kernel_rfl
        obtain ⟨v14, hv14, h⟩ := of_bind h
        refine AOps.cons (AOne.callO (F := (FF 106 1)) _ rfl rfl rfl 89 rfl rfl 44 [] rfl Try.call44 [0] (by decide) [.pc 0 0, tI v12, q0 v2] (by kernel_rfl) [.cells 65 [.str v3.f0, .int .i64 v3.f1, k0 v3.f2, .int .i64 v3.f3, .bool v3.f4]] (by kernel_rfl) (f44o_ok v12 v2 v3 hv14) (by kernel_rfl) (by kernel_rfl) _ rfl) ?_
        refine AOps.go [4, 5, 6, 7, 8] [] [] [0, 2, 9, 10, 11] 1 ⟨[(0, .pc 0 0), (2, q0 v2), (9, tI v12), (10, q0 v14.1), (11, tI v14.2)], [.cells 65 [.str v3.f0, .int .i64 v3.f1, k0 v3.f2, .int .i64 v3.f3, .bool v3.f4]]⟩ ?_ (Nat.le_of_ble_eq_true rfl) trivial ?_
        ·kernel_rfl
        refine AOps.nil ?_
        refine AWp.seq ?_
        refine AWp.seq ?_
        refine AWp.start [0, 1] [] [] [0, 2, 9, 10, 11, 93] 1 ⟨[(0, .pc 0 0), (2, q0 v2), (9, tI v12), (10, q0 v14.1), (11, tI v14.2), (93, tB (v14.2 != (0 : Int)))], [.cells 65 [.str v3.f0, .int .i64 v3.f1, k0 v3.f2, .int .i64 v3.f3, .bool v3.f4]]⟩ rfl ?_ (Nat.le_of_ble_eq_true rfl) trivial ?_
        ·kernel_rfl
        refine AOps.nil ?_
        refine AWp.cond rfl (fun hb => ?_) fun hb => ?_
        ·replace h := of_true h hb
         refine AWp.keepTo [11] 1 ⟨[(11, tI v14.2)], [.cells 65 [.str v3.f0, .int .i64 v3.f1, k0 v3.f2, .int .i64 v3.f3, .bool v3.f4]]⟩ ?_ (Nat.le_of_ble_eq_true rfl) ?_
         ·kernel_rfl
         refine AWp.seq ?_
         refine AWp.start [0, 1] [] [] [6] 1 ⟨[(6, tI v14.2)], [.cells 65 [.str v3.f0, .int .i64 v3.f1, k0 v3.f2, .int .i64 v3.f3, .bool v3.f4]]⟩ rfl ?_ (Nat.le_of_ble_eq_true rfl) trivial ?_
         ·kernel_rfl
         refine AOps.nil ?_
         refine AWp.ret ?_
         cases h
         exact ⟨.inr rfl, rfl⟩
        ·replace h := of_false h hb
         refine AWp.keepTo [0, 2, 9, 10] 1 ⟨[(0, .pc 0 0), (2, q0 v2), (9, tI v12), (10, q0 v14.1)], [.cells 65 [.str v3.f0, .int .i64 v3.f1, k0 v3.f2, .int .i64 v3.f3, .bool v3.f4]]⟩ ?_ (Nat.le_of_ble_eq_true rfl) ?_
         ·kernel_rfl
         refine AWp.skip ?_
         refine AWp.start [0, 1, 2, 3, 4] [] [] [0, 2, 9] 1 ⟨[(0, .pc 0 0), (2, q0 v2), (9, tI v12)], [.cells 65 [.str v3.f0, .int .i64 v3.f1, k0 v14.1, .int .i64 v3.f3, .bool v3.f4]]⟩ rfl ?_ (Nat.le_of_ble_eq_true rfl) trivial ?_
         ·kernel_rfl
         refine AOps.nil ?_
         exact ⟨v14.1, h, rfl⟩
       ·replace h := of_false h hb
        refine AWp.keepTo [0, 2, 9] 1 ⟨[(0, .pc 0 0), (2, q0 v2), (9, tI v12)], [.cells 65 [.str v3.f0, .int .i64 v3.f1, k0 v3.f2, .int .i64 v3.f3, .bool v3.f4]]⟩ ?_ (Nat.le_of_ble_eq_true rfl) ?_
        ·kernel_rfl
        refine AWp.skip ?_
        exact ⟨v3.f2, h, rfl⟩
      ·rintro v13 h
       refine AWp.seq ?_
       refine AWp.start [0, 1, 2, 3, 4, 5, 6, 7] [] [] [] 1 ⟨[], [.cells 65 [.str v3.f0, .int .i64 v3.f1, k0 v13, .int .i64 (w64 (v12 + (v2.length : Int))), .bool v3.f4]]⟩ rfl ?_ (Nat.le_of_ble_eq_true rfl) trivial ?_
       ·kernel_rfl
       refine AOps.nil ?_
       refine AWp.seq ?_
       refine AWp.start [0] [] [] [6] 1 ⟨[(6, tI (0 : Int))], [.cells 65 [.str v3.f0, .int .i64 v3.f1, k0 v13, .int .i64 (w64 (v12 + (v2.length : Int))), .bool v3.f4]]⟩ rfl ?_ (Nat.le_of_ble_eq_true rfl) trivial ?_
       ·kernel_rfl
       refine AOps.nil ?_
       refine AWp.ret ?_
       cases h
       exact ⟨.inr rfl, rfl⟩

noncomputable def f19 (v1 : T64) : Option Int :=
 (f41 v1).bind fun v2 => (cond v2 (some true) (some (v1.f0 == ([100, 105, 114, 101, 99, 116] : List UInt8)))).bind fun v3 => cond v3 (some (0 : Int)) (cond (v1.f0 == ([115, 116, 114, 101, 97, 109] : List UInt8)) (some (w64 (v1.f3 + (1 : Int)))) (if (0 : Int) ≤ v1.f3 ∧ v1.f3 ≤ (v1.f2.length : Int) then (f35 v1.f0 ((v1.f2.take (Int.toNat v1.f3)).drop 0)).bind fun v4 => some (v4.1.length : Int) else none))

theorem f19_ok (v1 : T64) {r : Int} (h : f19 v1 = some r) : ACall Try.prog 19 [.rp [.str v1.f0, .int .i64 v1.f1, fzL 1 (cInt .u8) v1.f2, .int .i64 v1.f3, .bool v1.f4]] [] (.tv (.int .i64 r)) [] := by
 refine ACall.of1 (FF 45 0) Try.func19 rfl Try.ntmps19 Try.results19 (Nat.le_of_ble_eq_true rfl) rfl rfl ?_
 refine AWp.seq ?_
 refine AWp.start [0] [] [] [0] 0 ⟨[(0, .rp [.str v1.f0, .int .i64 v1.f1, k0 v1.f2, .int .i64 v1.f3, .bool v1.f4])], []⟩ rfl ?_ z0 trivial ?_
 ·kernel_rfl
 refine AOps.nil ?_
 refine AWp.seq ?_
 refine AWp.block ?_
 refine AWp.seq ?_
 refine AWp.start [0] [1, 2, 3, 4, 5, 6, 7, 8, 9] [] [0, 6] 0 ⟨[(0, .rp [.str v1.f0, .int .i64 v1.f1, k0 v1.f2, .int .i64 v1.f3, .bool v1.f4]), (6, .rp [.str v1.f0, .int .i64 v1.f1, k0 v1.f2, .int .i64 v1.f3, .bool v1.f4])], []⟩ rfl ?_ z0 trivial ?_
 ·kernel_rfl
 obtain ⟨v2, hv2, h⟩ := of_bind h
 refine AOps.cons (AOne.callP (F := (FF 45 0)) _ rfl rfl rfl _ rfl rfl _ _ rfl Try.call41 [.rp [.str v1.f0, .int .i64 v1.f1, k0 v1.f2, .int .i64 v1.f3, .bool v1.f4]] rfl rfl (f41_ok v1 hv2) rfl) ?_
 refine AOps.go [2] [3, 4, 5, 6, 7, 8, 9] [] [0, 8] 0 ⟨[(0, .rp [.str v1.f0, .int .i64 v1.f1, k0 v1.f2, .int .i64 v1.f3, .bool v1.f4]), (8, tB v2)], []⟩ ?_ z0 trivial ?_
 ·kernel_rfl
 obtain ⟨v3, hc3, h⟩ := of_bind h
 refine AOps.cut [3, 4, 5, 6, 7, 8] [9] (fun σ => σ = ⟨[(0, .rp [.str v1.f0, .int .i64 v1.f1, k0 v1.f2, .int .i64 v1.f3, .bool v1.f4]), (14, tB v3)], []⟩) ?_ fun σ' hJ => ?_
 ·refine AOps.split (fun b => ⟨[(0, .rp [.str v1.f0, .int .i64 v1.f1, k0 v1.f2, .int .i64 v1.f3, .bool v1.f4]), (8, tB b)], []⟩) _ (fun hb => ?_) fun hb => ?_
  ·replace hc3 := of_true hc3 hb
   refine AOps.go [3, 4, 5, 6, 7, 8] [] [] [0, 14] 0 ⟨[(0, .rp [.str v1.f0, .int .i64 v1.f1, k0 v1.f2, .int .i64 v1.f3, .bool v1.f4]), (14, tB true)], []⟩ ?_ z0 trivial ?_
   ·kernel_rfl
   cases hc3
   exact AOps.nil rfl
  ·replace hc3 := of_false hc3 hb
   refine AOps.go [3, 4, 5, 6, 7, 8] [] [] [0, 14] 0 ⟨[(0, .rp [.str v1.f0, .int .i64 v1.f1, k0 v1.f2, .int .i64 v1.f3, .bool v1.f4]), (14, tB (v1.f0 == ([100, 105, 114, 101, 99, 116] : List UInt8)))], []⟩ ?_ z0 trivial ?_
   ·kernel_rfl
   cases hc3
   exact AOps.nil rfl
 subst hJ
 refine AOps.go [9] [] [] [0, 5] 0 ⟨[(0, .rp [.str v1.f0, .int .i64 v1.f1, k0 v1.f2, .int .i64 v1.f3, .bool v1.f4]), (5, tB v3)], []⟩ ?_ z0 trivial ?_
 ·kernel_rfl
 refine AOps.nil ?_
 refine AWp.cond rfl (fun hb => ?_) fun hb => ?_
 ·replace h := of_true h hb
  refine AWp.keepTo [] 0 ⟨[], []⟩ ?_ z0 ?_
  ·kernel_rfl
  refine AWp.seq ?_
  refine AWp.start [0] [] [] [2] 0 ⟨[(2, tI (0 : Int))], []⟩ rfl ?_ z0 trivial ?_
  ·kernel_rfl
  refine AOps.nil ?_
  refine AWp.ret ?_
  cases h
  exact ⟨.inr rfl, rfl⟩
 ·replace h := of_false h hb
  refine AWp.keepTo [0] 0 ⟨[(0, .rp [.str v1.f0, .int .i64 v1.f1, k0 v1.f2, .int .i64 v1.f3, .bool v1.f4])], []⟩ ?_ z0 ?_
  ·kernel_rfl
  refine AWp.seq ?_
  refine AWp.start [0, 1, 2, 3, 4, 5] [] [] [0, 15] 0 ⟨[(0, .rp [.str v1.f0, .int .i64 v1.f1, k0 v1.f2, .int .i64 v1.f3, .bool v1.f4]), (15, tB (v1.f0 == ([115, 116, 114, 101, 97, 109] : List UInt8)))], []⟩ rfl ?_ z0 trivial ?_
  ·kernel_rfl
  refine AOps.nil ?_
  refine AWp.cond rfl (fun hb => ?_) fun hb => ?_
  ·replace h := of_true h hb
   refine AWp.keepTo [0] 0 ⟨[(0, .rp [.str v1.f0, .int .i64 v1.f1, k0 v1.f2, .int .i64 v1.f3, .bool v1.f4])], []⟩ ?_ z0 ?_
   ·kernel_rfl
   refine AWp.seq ?_
   refine AWp.start [0, 1, 2, 3, 4, 5] [] [] [2] 0 ⟨[(2, tI (w64 (v1.f3 + (1 : Int))))], []⟩ rfl ?_ z0 trivial ?_
   ·kernel_rfl
   refine AOps.nil ?_
   refine AWp.ret ?_
   cases h
   exact ⟨.inr rfl, rfl⟩
  ·replace h := of_false h hb
   refine AWp.keepTo [0] 0 ⟨[(0, .rp [.str v1.f0, .int .i64 v1.f1, k0 v1.f2, .int .i64 v1.f3, .bool v1.f4])], []⟩ ?_ z0 ?_
   ·kernel_rfl
   refine AWp.skip ?_
   refine AWp.seq ?_
   refine AWp.draw FFm _ (n := 19) rfl (ls := #[n1, n1, n1, n1, n1, n1, n1, n1, n1, n1, n1, n1, n1, n1, n1, n1, n1, n1, n1]) rfl ?_ (fun _ h => h)
   obtain ⟨hg, h⟩ := of_guard h
   refine AAny.go (by kernel_rfl) [0, 1, 2, 3, 4, 5, 6, 7, 8, 9, 10, 11, 12] (fuel' := 6) rfl [(0 : Int) ≤ (0 : Int), (0 : Int) ≤ v1.f3, v1.f3 ≤ (v1.f2.length : Int)] #[y1, y1, y1, y1, y1, y1, y1, y1, y1, y1, y1, y1, y1, n1, n1, n1, n1, n1, n1] [30, 39] 0 ⟨[(30, tS v1.f0), (39, .tv (.fz 1 ((Int.toNat v1.f3) - 0) (fun i => (cInt .u8) (v1.f2.getD (0 + i) default))))], []⟩ ?_ z0 ⟨(by decide : (0 : Int) ≤ (0 : Int)), hg.1, hg.2⟩ ?_
   ·kernel_rfl
   have hb : (Int.toNat v1.f3) ≤ v1.f2.length := by have hh : v1.f3 ≤ (v1.f2.length : Int) := hg.2; omega
   refine AAny.extFzL (s := 39) rfl (sub_len v1.f2 0 (Int.toNat v1.f3) hb) (sub_at (cInt .u8) v1.f2 0 (Int.toNat v1.f3) hb) ?_
   obtain ⟨v4, hv4, h⟩ := of_bind h
   refine AAny.serial (i := 13) (fuel := 5) (by kernel_rfl) (AOne.callP (F := (FF 45 0)) _ rfl rfl rfl _ rfl rfl _ _ rfl Try.call35 [tS v1.f0, q0 ((v1.f2.take (Int.toNat v1.f3)).drop 0)] rfl rfl (f35_ok v1.f0 ((v1.f2.take (Int.toNat v1.f3)).drop 0) hv4) rfl) ?_
   refine AAny.keepTo [40] 0 ⟨[(40, .tup [.tv (fzL 1 (cInt .i64) v4.1), tB v4.2])], []⟩ #[y1, y1, y1, y1, y1, y1, y1, y1, y1, y1, y1, y1, y1, y1, n1, n1, n1, n1, n1] ?_ rfl z0 ?_
   ·kernel_rfl
   refine AAny.go (by kernel_rfl) [14, 15, 16, 17, 18] (fuel' := 0) rfl [] #[y1, y1, y1, y1, y1, y1, y1, y1, y1, y1, y1, y1, y1, y1, y1, y1, y1, y1, y1] [3] 0 ⟨[(3, .tv (fzL 1 (cInt .i64) v4.1))], []⟩ ?_ z0 trivial ?_
   ·kernel_rfl
   refine AAny.keepTo [3] 0 ⟨[(3, .tv (fzL 1 (cInt .i64) v4.1))], []⟩ _ ?_ rfl z0 (AAny.done (by kernel_rfl) ?_)
   ·kernel_rfl
   refine AWp.seq ?_
   refine AWp.start [0, 1, 2] [] [] [2] 0 ⟨[(2, tI (v4.1.length : Int))], []⟩ rfl ?_ z0 trivial ?_
   ·kernel_rfl
   refine AOps.nil ?_
   refine AWp.ret ?_
   cases h
   exact ⟨.inr rfl, rfl⟩

noncomputable def f25o (v1 : Int) (v2 : Int) (v3 : T64) : Option ((List Int) × Int × T64) :=
 (f41 v3).bind fun v4 => cond v4 (some (([] : List Int), (7 : Int), v3)) ((f42 v3).bind fun v5 => cond v5 (some (([] : List Int), (110 : Int), v3)) ((cond (v3.f0 == ([100, 105, 114, 101, 99, 116] : List UInt8)) (some (decide (v1 < (1 : Int)))) (some false)).bind fun v6 => (cond v6 (some true) (some (decide (v1 < (0 : Int))))).bind fun v7 => (cond v7 (some true) ((cond (v3.f0 == ([115, 116, 114, 101, 97, 109] : List UInt8)) ((cond (decide (v2 < (0 : Int))) (some true) (some (decide (v2 > (20000 : Int))))).bind fun v10 => some v10) (some false)).bind fun v9 => some v9)).bind fun v8 => cond v8 (some (([] : List Int), (2 : Int), v3)) (cond (v3.f0 == ([100, 105, 114, 101, 99, 116] : List UInt8)) (if v3.f1 ≠ (0 : Int) then cond (decide (v1 > w64 (Int.tdiv (v3.f2.length : Int) v3.f1))) (some (([] : List Int), (5 : Int), v3)) (if (0 : Int) ≤ w64 ((w64 (v1 - (1 : Int))) * v3.f1) ∧ w64 ((w64 (v1 - (1 : Int))) * v3.f1) ≤ w64 (v1 * v3.f1) ∧ w64 (v1 * v3.f1) ≤ (v3.f2.length : Int) then (f37 ((v3.f2.take (Int.toNat (w64 (v1 * v3.f1)))).drop (Int.toNat (w64 ((w64 (v1 - (1 : Int))) * v3.f1))))).bind fun v11 => some (v11, (0 : Int), v3) else none) else none) ((f45 v3 v1).bind fun v12 => (cond (decide (v12 > (v3.f2.length : Int))) (some true) (some (decide (v2 > w64 ((v3.f2.length : Int) - v12))))).bind fun v13 => cond v13 (some (([] : List Int), (6 : Int), v3)) (if (0 : Int) ≤ v12 ∧ v12 ≤ w64 (v12 + v2) ∧ w64 (v12 + v2) ≤ (v3.f2.length : Int) then (f37 ((v3.f2.take (Int.toNat (w64 (v12 + v2)))).drop v12.toNat)).bind fun v14 => some (v14, (0 : Int), T64.mk v3.f0 v3.f1 v3.f2 (w64 (v12 + v2)) v3.f4) else none)))))

theorem f25o_ok (v1 : Int) (v2 : Int) (v3 : T64) {r : (List Int) × Int × T64} (h : f25o v1 v2 v3 = some r) : ACall Try.prog 25 [.pc 0 0, .tv (.int .i64 v1), .tv (.int .i64 v2)] [.cells 65 [.str v3.f0, .int .i64 v3.f1, fzL 1 (cInt .u8) v3.f2, .int .i64 v3.f3, .bool v3.f4]] (.tup [.tv (fzL 1 (cInt .u8) r.1), .tv (.int .i64 r.2.1)]) [.cells 65 [.str r.2.2.f0, .int .i64 r.2.2.f1, fzL 1 (cInt .u8) r.2.2.f2, .int .i64 r.2.2.f3, .bool r.2.2.f4]] := by
 refine ACall.ofN (FF 117 1) (rs := [6, 7]) (env := [(6, q0 r.1), (7, tI r.2.1)]) Try.func25 rfl Try.ntmps25 Try.results25 (by decide) (by decide) rfl (Nat.le_of_ble_eq_true rfl) rfl (get_ofN _ _ _ rfl) (ok_ofN _ rfl) ?_
 refine AWp.seq ?_
 refine AWp.start [0, 1] [] [] [0, 1, 2] 1 ⟨[(0, .pc 0 0), (1, tI v1), (2, tI v2)], [.cells 65 [.str v3.f0, .int .i64 v3.f1, k0 v3.f2, .int .i64 v3.f3, .bool v3.f4]]⟩ rfl ?_ (Nat.le_of_ble_eq_true rfl) trivial ?_
 ·kernel_rfl
 refine AOps.nil ?_
 refine AWp.seq ?_
 refine AWp.block ?_
 refine AWp.seq ?_
 refine AWp.start [0] [1, 2] [] [0, 1, 2, 10] 1 ⟨[(0, .pc 0 0), (1, tI v1), (2, tI v2), (10, .pc 0 0)], [.cells 65 [.str v3.f0, .int .i64 v3.f1, k0 v3.f2, .int .i64 v3.f3, .bool v3.f4]]⟩ rfl ?_ (Nat.le_of_ble_eq_true rfl) trivial ?_
 ·kernel_rfl
 obtain ⟨v4, hv4, h⟩ := of_bind h
 refine AOps.cons (AOne.callR (F := (FF 117 1)) _ rfl rfl rfl _ rfl rfl _ _ rfl Try.call41 [] [.rp [.str v3.f0, .int .i64 v3.f1, k0 v3.f2, .int .i64 v3.f3, .bool v3.f4]] rfl trivial (f41_ok v3 hv4) (ind_of rfl) rfl) ?_
 refine AOps.go [2] [] [] [0, 1, 2, 9] 1 ⟨[(0, .pc 0 0), (1, tI v1), (2, tI v2), (9, tB v4)], [.cells 65 [.str v3.f0, .int .i64 v3.f1, k0 v3.f2, .int .i64 v3.f3, .bool v3.f4]]⟩ ?_ (Nat.le_of_ble_eq_true rfl) trivial ?_
 ·kernel_rfl
 refine AOps.nil ?_
 refine AWp.cond rfl (fun hb => ?_) fun hb => ?_
 ·replace h := of_true h hb
  refine AWp.keepTo [] 1 ⟨[], [.cells 65 [.str v3.f0, .int .i64 v3.f1, k0 v3.f2, .int .i64 v3.f3, .bool v3.f4]]⟩ ?_ (Nat.le_of_ble_eq_true rfl) ?_
  ·kernel_rfl
  refine AWp.seq ?_
  refine AWp.start [0, 1] [] [] [6, 7] 1 ⟨[(6, .tv (.sc (.slice none 0 0))), (7, tI (7 : Int))], [.cells 65 [.str v3.f0, .int .i64 v3.f1, k0 v3.f2, .int .i64 v3.f3, .bool v3.f4]]⟩ rfl ?_ (Nat.le_of_ble_eq_true rfl) trivial ?_
  ·kernel_rfl
  refine AOps.nil ?_
  refine AWp.nilFz 6 1 (fun i => (cInt .u8) (([] : List Int).getD i default)) rfl ?_
  refine AWp.keepTo [6, 7] 1 ⟨[(6, q0 ([] : List Int)), (7, tI (7 : Int))], [.cells 65 [.str v3.f0, .int .i64 v3.f1, k0 v3.f2, .int .i64 v3.f3, .bool v3.f4]]⟩ ?_ (Nat.le_of_ble_eq_true rfl) ?_
  ·kernel_rfl
  refine AWp.ret ?_
  cases h
  exact ⟨.inr rfl, rfl⟩
 ·replace h := of_false h hb
  refine AWp.keepTo [0, 1, 2] 1 ⟨[(0, .pc 0 0), (1, tI v1), (2, tI v2)], [.cells 65 [.str v3.f0, .int .i64 v3.f1, k0 v3.f2, .int .i64 v3.f3, .bool v3.f4]]⟩ ?_ (Nat.le_of_ble_eq_true rfl) ?_
  ·kernel_rfl
  refine AWp.seq ?_
  refine AWp.start [0] [1, 2] [] [0, 1, 2, 13] 1 ⟨[(0, .pc 0 0), (1, tI v1), (2, tI v2), (13, .pc 0 0)], [.cells 65 [.str v3.f0, .int .i64 v3.f1, k0 v3.f2, .int .i64 v3.f3, .bool v3.f4]]⟩ rfl ?_ (Nat.le_of_ble_eq_true rfl) trivial ?_
  ·kernel_rfl
  obtain ⟨v5, hv5, h⟩ := of_bind h
  refine AOps.cons (AOne.callR (F := (FF 117 1)) _ rfl rfl rfl _ rfl rfl _ _ rfl Try.call42 [] [.rp [.str v3.f0, .int .i64 v3.f1, k0 v3.f2, .int .i64 v3.f3, .bool v3.f4]] rfl trivial (f42_ok v3 hv5) (ind_of rfl) rfl) ?_
  refine AOps.go [2] [] [] [0, 1, 2, 12] 1 ⟨[(0, .pc 0 0), (1, tI v1), (2, tI v2), (12, tB v5)], [.cells 65 [.str v3.f0, .int .i64 v3.f1, k0 v3.f2, .int .i64 v3.f3, .bool v3.f4]]⟩ ?_ (Nat.le_of_ble_eq_true rfl) trivial ?_
  ·kernel_rfl
  refine AOps.nil ?_
  refine AWp.cond rfl (fun hb => ?_) fun hb => ?_
  ·replace h := of_true h hb
   refine AWp.keepTo [] 1 ⟨[], [.cells 65 [.str v3.f0, .int .i64 v3.f1, k0 v3.f2, .int .i64 v3.f3, .bool v3.f4]]⟩ ?_ (Nat.le_of_ble_eq_true rfl) ?_
   ·kernel_rfl
   refine AWp.seq ?_
   refine AWp.start [0, 1] [] [] [6, 7] 1 ⟨[(6, .tv (.sc (.slice none 0 0))), (7, tI (110 : Int))], [.cells 65 [.str v3.f0, .int .i64 v3.f1, k0 v3.f2, .int .i64 v3.f3, .bool v3.f4]]⟩ rfl ?_ (Nat.le_of_ble_eq_true rfl) trivial ?_
   ·kernel_rfl
   refine AOps.nil ?_
   refine AWp.nilFz 6 1 (fun i => (cInt .u8) (([] : List Int).getD i default)) rfl ?_
   refine AWp.keepTo [6, 7] 1 ⟨[(6, q0 ([] : List Int)), (7, tI (110 : Int))], [.cells 65 [.str v3.f0, .int .i64 v3.f1, k0 v3.f2, .int .i64 v3.f3, .bool v3.f4]]⟩ ?_ (Nat.le_of_ble_eq_true rfl) ?_
   ·kernel_rfl
   refine AWp.ret ?_
   cases h
   exact ⟨.inr rfl, rfl⟩
  ·replace h := of_false h hb
   refine AWp.keepTo [0, 1, 2] 1 ⟨[(0, .pc 0 0), (1, tI v1), (2, tI v2)], [.cells 65 [.str v3.f0, .int .i64 v3.f1, k0 v3.f2, .int .i64 v3.f3, .bool v3.f4]]⟩ ?_ (Nat.le_of_ble_eq_true rfl) ?_
   ·kernel_rfl
   refine AWp.seq ?_
   refine AWp.start [0, 1, 2, 3, 4, 5] [6, 7, 8, 9, 10, 11, 12, 13, 14, 15, 16, 17, 18, 19, 20, 21, 22, 23, 24, 25, 26, 27, 28] [] [0, 1, 2, 21] 1 ⟨[(0, .pc 0 0), (1, tI v1), (2, tI v2), (21, tB (v3.f0 == ([100, 105, 114, 101, 99, 116] : List UInt8)))], [.cells 65 [.str v3.f0, .int .i64 v3.f1, k0 v3.f2, .int .i64 v3.f3, .bool v3.f4]]⟩ rfl ?_ (Nat.le_of_ble_eq_true rfl) trivial ?_
   ·kernel_rfl
   obtain ⟨v6, hc6, h⟩ := of_bind h
   refine AOps.cut [6, 7, 8] [9, 10, 11, 12, 13, 14, 15, 16, 17, 18, 19, 20, 21, 22, 23, 24, 25, 26, 27, 28] (fun σ => σ = ⟨[(0, .pc 0 0), (1, tI v1), (2, tI v2), (24, tB v6)], [.cells 65 [.str v3.f0, .int .i64 v3.f1, k0 v3.f2, .int .i64 v3.f3, .bool v3.f4]]⟩) ?_ fun σ' hJ => ?_
   ·refine AOps.split (fun b => ⟨[(0, .pc 0 0), (1, tI v1), (2, tI v2), (21, tB b)], [.cells 65 [.str v3.f0, .int .i64 v3.f1, k0 v3.f2, .int .i64 v3.f3, .bool v3.f4]]⟩) _ (fun hb => ?_) fun hb => ?_
    ·replace hc6 := of_true hc6 hb
     refine AOps.go [6, 7, 8] [] [] [0, 1, 2, 24] 1 ⟨[(0, .pc 0 0), (1, tI v1), (2, tI v2), (24, tB (decide (v1 < (1 : Int))))], [.cells 65 [.str v3.f0, .int .i64 v3.f1, k0 v3.f2, .int .i64 v3.f3, .bool v3.f4]]⟩ ?_ (Nat.le_of_ble_eq_true rfl) trivial ?_
     ·kernel_rfl
     cases hc6
     exact AOps.nil rfl
    ·replace hc6 := of_false hc6 hb
     refine AOps.go [6, 7, 8] [] [] [0, 1, 2, 24] 1 ⟨[(0, .pc 0 0), (1, tI v1), (2, tI v2), (24, tB false)], [.cells 65 [.str v3.f0, .int .i64 v3.f1, k0 v3.f2, .int .i64 v3.f3, .bool v3.f4]]⟩ ?_ (Nat.le_of_ble_eq_true rfl) trivial ?_
     ·kernel_rfl
     cases hc6
     exact AOps.nil rfl
   subst hJ
   refine AOps.go [9] [10, 11, 12, 13, 14, 15, 16, 17, 18, 19, 20, 21, 22, 23, 24, 25, 26, 27, 28] [] [0, 1, 2, 25] 1 ⟨[(0, .pc 0 0), (1, tI v1), (2, tI v2), (25, tB v6)], [.cells 65 [.str v3.f0, .int .i64 v3.f1, k0 v3.f2, .int .i64 v3.f3, .bool v3.f4]]⟩ ?_ (Nat.le_of_ble_eq_true rfl) trivial ?_
   ·kernel_rfl
   obtain ⟨v7, hc10, h⟩ := of_bind h
   refine AOps.cut [10, 11, 12] [13, 14, 15, 16, 17, 18, 19, 20, 21, 22, 23, 24, 25, 26, 27, 28] (fun σ => σ = ⟨[(0, .pc 0 0), (1, tI v1), (2, tI v2), (28, tB v7)], [.cells 65 [.str v3.f0, .int .i64 v3.f1, k0 v3.f2, .int .i64 v3.f3, .bool v3.f4]]⟩) ?_ fun σ' hJ => ?_
   ·refine AOps.split (fun b => ⟨[(0, .pc 0 0), (1, tI v1), (2, tI v2), (25, tB b)], [.cells 65 [.str v3.f0, .int .i64 v3.f1, k0 v3.f2, .int .i64 v3.f3, .bool v3.f4]]⟩) _ (fun hb => ?_) fun hb => ?_
    ·replace hc10 := of_true hc10 hb
     refine AOps.go [10, 11, 12] [] [] [0, 1, 2, 28] 1 ⟨[(0, .pc 0 0), (1, tI v1), (2, tI v2), (28, tB true)], [.cells 65 [.str v3.f0, .int .i64 v3.f1, k0 v3.f2, .int .i64 v3.f3, .bool v3.f4]]⟩ ?_ (Nat.le_of_ble_eq_true rfl) trivial ?_
     ·kernel_rfl
     cases hc10
     exact AOps.nil rfl
    ·replace hc10 := of_false hc10 hb
     refine AOps.go [10, 11, 12] [] [] [0, 1, 2, 28] 1 ⟨[(0, .pc 0 0), (1, tI v1), (2, tI v2), (28, tB (decide (v1 < (0 : Int))))], [.cells 65 [.str v3.f0, .int .i64 v3.f1, k0 v3.f2, .int .i64 v3.f3, .bool v3.f4]]⟩ ?_ (Nat.le_of_ble_eq_true rfl) trivial ?_
     ·kernel_rfl
     cases hc10
     exact AOps.nil rfl
   subst hJ
   refine AOps.go [13] [14, 15, 16, 17, 18, 19, 20, 21, 22, 23, 24, 25, 26, 27, 28] [] [0, 1, 2, 29] 1 ⟨[(0, .pc 0 0), (1, tI v1), (2, tI v2), (29, tB v7)], [.cells 65 [.str v3.f0, .int .i64 v3.f1, k0 v3.f2, .int .i64 v3.f3, .bool v3.f4]]⟩ ?_ (Nat.le_of_ble_eq_true rfl) trivial ?_
   ·kernel_rfl
   obtain ⟨v8, hc14, h⟩ := of_bind h
   refine AOps.cut [14, 15, 16, 17, 18, 19, 20, 21, 22, 23, 24, 25, 26, 27] [28] (fun σ => σ = ⟨[(0, .pc 0 0), (1, tI v1), (2, tI v2), (43, tB v8)], [.cells 65 [.str v3.f0, .int .i64 v3.f1, k0 v3.f2, .int .i64 v3.f3, .bool v3.f4]]⟩) ?_ fun σ' hJ => ?_
   ·refine AOps.split (fun b => ⟨[(0, .pc 0 0), (1, tI v1), (2, tI v2), (29, tB b)], [.cells 65 [.str v3.f0, .int .i64 v3.f1, k0 v3.f2, .int .i64 v3.f3, .bool v3.f4]]⟩) _ (fun hb => ?_) fun hb => ?_
    ·replace hc14 := of_true hc14 hb
     refine AOps.go [14, 15, 16, 17, 18, 19, 20, 21, 22, 23, 24, 25, 26, 27] [] [] [0, 1, 2, 43] 1 ⟨[(0, .pc 0 0), (1, tI v1), (2, tI v2), (43, tB true)], [.cells 65 [.str v3.f0, .int .i64 v3.f1, k0 v3.f2, .int .i64 v3.f3, .bool v3.f4]]⟩ ?_ (Nat.le_of_ble_eq_true rfl) trivial ?_
     ·kernel_rfl
     cases hc14
     exact AOps.nil rfl
    ·replace hc14 := of_false hc14 hb
     refine AOps.go [14, 15, 16, 17, 18, 19] [20, 21, 22, 23, 24, 25, 26, 27] [] [0, 1, 2, 29, 35] 1 ⟨[(0, .pc 0 0), (1, tI v1), (2, tI v2), (29, tB false), (35, tB (v3.f0 == ([115, 116, 114, 101, 97, 109] : List UInt8)))], [.cells 65 [.str v3.f0, .int .i64 v3.f1, k0 v3.f2, .int .i64 v3.f3, .bool v3.f4]]⟩ ?_ (Nat.le_of_ble_eq_true rfl) trivial ?_
     ·kernel_rfl
     obtain ⟨v9, hc20, hc14⟩ := of_bind hc14
     refine AOps.cut [20, 21, 22, 23, 24, 25, 26] [27] (fun σ => σ = ⟨[(0, .pc 0 0), (1, tI v1), (2, tI v2), (29, tB false), (42, tB v9)], [.cells 65 [.str v3.f0, .int .i64 v3.f1, k0 v3.f2, .int .i64 v3.f3, .bool v3.f4]]⟩) ?_ fun σ' hJ => ?_
     ·refine AOps.split (fun b => ⟨[(0, .pc 0 0), (1, tI v1), (2, tI v2), (29, tB false), (35, tB b)], [.cells 65 [.str v3.f0, .int .i64 v3.f1, k0 v3.f2, .int .i64 v3.f3, .bool v3.f4]]⟩) _ (fun hb => ?_) fun hb => ?_
      ·replace hc20 := of_true hc20 hb
       refine AOps.go [20, 21, 22] [23, 24, 25, 26] [] [0, 1, 2, 29, 35, 38] 1 ⟨[(0, .pc 0 0), (1, tI v1), (2, tI v2), (29, tB false), (35, tB true), (38, tB (decide (v2 < (0 : Int))))], [.cells 65 [.str v3.f0, .int .i64 v3.f1, k0 v3.f2, .int .i64 v3.f3, .bool v3.f4]]⟩ ?_ (Nat.le_of_ble_eq_true rfl) trivial ?_
       ·kernel_rfl
       obtain ⟨v10, hc23, hc20⟩ := of_bind hc20
       refine AOps.cut [23, 24, 25] [26] (fun σ => σ = ⟨[(0, .pc 0 0), (1, tI v1), (2, tI v2), (29, tB false), (35, tB true), (41, tB v10)], [.cells 65 [.str v3.f0, .int .i64 v3.f1, k0 v3.f2, .int .i64 v3.f3, .bool v3.f4]]⟩) ?_ fun σ' hJ => ?_
       ·refine AOps.split (fun b => ⟨[(0, .pc 0 0), (1, tI v1), (2, tI v2), (29, tB false), (35, tB true), (38, tB b)], [.cells 65 [.str v3.f0, .int .i64 v3.f1, k0 v3.f2, .int .i64 v3.f3, .bool v3.f4]]⟩) _ (fun hb => ?_) fun hb => ?_
        ·replace hc23 := of_true hc23 hb
         refine AOps.go [23, 24, 25] [] [] [0, 1, 2, 29, 35, 41] 1 ⟨[(0, .pc 0 0), (1, tI v1), (2, tI v2), (29, tB false), (35, tB true), (41, tB true)], [.cells 65 [.str v3.f0, .int .i64 v3.f1, k0 v3.f2, .int .i64 v3.f3, .bool v3.f4]]⟩ ?_ (Nat.le_of_ble_eq_true rfl) trivial ?_
         ·kernel_rfl
         cases hc23
         exact AOps.nil rfl
        ·replace hc23 := of_false hc23 hb
         refine AOps.go [23, 24, 25] [] [] [0, 1, 2, 29, 35, 41] 1 ⟨[(0, .pc 0 0), (1, tI v1), (2, tI v2), (29, tB false), (35, tB true), (41, tB (decide (v2 > (20000 : Int))))], [.cells 65 [.str v3.f0, .int .i64 v3.f1, k0 v3.f2, .int .i64 v3.f3, .bool v3.f4]]⟩ ?_ (Nat.le_of_ble_eq_true rfl) trivial ?_
         ·kernel_rfl
         cases hc23
         exact AOps.nil rfl
       subst hJ
       refine AOps.go [26] [] [] [0, 1, 2, 29, 42] 1 ⟨[(0, .pc 0 0), (1, tI v1), (2, tI v2), (29, tB false), (42, tB v10)], [.cells 65 [.str v3.f0, .int .i64 v3.f1, k0 v3.f2, .int .i64 v3.f3, .bool v3.f4]]⟩ ?_ (Nat.le_of_ble_eq_true rfl) trivial ?_
       ·kernel_rfl
       cases hc20
       exact AOps.nil rfl
      ·replace hc20 := of_false hc20 hb
       refine AOps.go [20, 21, 22, 23, 24, 25, 26] [] [] [0, 1, 2, 29, 42] 1 ⟨[(0, .pc 0 0), (1, tI v1), (2, tI v2), (29, tB false), (42, tB false)], [.cells 65 [.str v3.f0, .int .i64 v3.f1, k0 v3.f2, .int .i64 v3.f3, .bool v3.f4]]⟩ ?_ (Nat.le_of_ble_eq_true rfl) trivial ?_
       ·kernel_rfl
       cases hc20
       exact AOps.nil rfl
     subst hJ
     refine AOps.go [27] [] [] [0, 1, 2, 43] 1 ⟨[(0, .pc 0 0), (1, tI v1), (2, tI v2), (43, tB v9)], [.cells 65 [.str v3.f0, .int .i64 v3.f1, k0 v3.f2, .int .i64 v3.f3, .bool v3.f4]]⟩ ?_ (Nat.le_of_ble_eq_true rfl) trivial ?_
     ·kernel_rfl
     cases hc14
     exact AOps.nil rfl
   subst hJ
   refine AOps.go [28] [] [] [0, 1, 2, 15] 1 ⟨[(0, .pc 0 0), (1, tI v1), (2, tI v2), (15, tB v8)], [.cells 65 [.str v3.f0, .int .i64 v3.f1, k0 v3.f2, .int .i64 v3.f3, .bool v3.f4]]⟩ ?_ (Nat.le_of_ble_eq_true rfl) trivial ?_
   ·kernel_rfl
   refine AOps.nil ?_
   refine AWp.cond rfl (fun hb => ?_) fun hb => ?_
   ·replace h := of_true h hb
    refine AWp.keepTo [] 1 ⟨[], [.cells 65 [.str v3.f0, .int .i64 v3.f1, k0 v3.f2, .int .i64 v3.f3, .bool v3.f4]]⟩ ?_ (Nat.le_of_ble_eq_true rfl) ?_
    ·kernel_rfl
    refine AWp.seq ?_
    refine AWp.start [0, 1] [] [] [6, 7] 1 ⟨[(6, .tv (.sc (.slice none 0 0))), (7, tI (2 : Int))], [.cells 65 [.str v3.f0, .int .i64 v3.f1, k0 v3.f2, .int .i64 v3.f3, .bool v3.f4]]⟩ rfl ?_ (Nat.le_of_ble_eq_true rfl) trivial ?_
    ·kernel_rfl
    refine AOps.nil ?_
    refine AWp.nilFz 6 1 (fun i => (cInt .u8) (([] : List Int).getD i default)) rfl ?_
    refine AWp.keepTo [6, 7] 1 ⟨[(6, q0 ([] : List Int)), (7, tI (2 : Int))], [.cells 65 [.str v3.f0, .int .i64 v3.f1, k0 v3.f2, .int .i64 v3.f3, .bool v3.f4]]⟩ ?_ (Nat.le_of_ble_eq_true rfl) ?_
    ·kernel_rfl
    refine AWp.ret ?_
    cases h
    exact ⟨.inr rfl, rfl⟩
   ·replace h := of_false h hb
    refine AWp.keepTo [0, 1, 2] 1 ⟨[(0, .pc 0 0), (1, tI v1), (2, tI v2)], [.cells 65 [.str v3.f0, .int .i64 v3.f1, k0 v3.f2, .int .i64 v3.f3, .bool v3.f4]]⟩ ?_ (Nat.le_of_ble_eq_true rfl) ?_
    ·kernel_rfl
    refine AWp.skip ?_
    refine AWp.seq ?_
    refine AWp.seq ?_
    refine AWp.start [0, 1, 2, 3, 4] [] [] [0, 1, 2, 48] 1 ⟨[(0, .pc 0 0), (1, tI v1), (2, tI v2), (48, tB (v3.f0 == ([100, 105, 114, 101, 99, 116] : List UInt8)))], [.cells 65 [.str v3.f0, .int .i64 v3.f1, k0 v3.f2, .int .i64 v3.f3, .bool v3.f4]]⟩ rfl ?_ (Nat.le_of_ble_eq_true rfl) trivial ?_
    ·kernel_rfl
    refine AOps.nil ?_
    refine AWp.cond rfl (fun hb => ?_) fun hb => ?_
    ·replace h := of_true h hb
     refine AWp.keepTo [0, 1] 1 ⟨[(0, .pc 0 0), (1, tI v1)], [.cells 65 [.str v3.f0, .int .i64 v3.f1, k0 v3.f2, .int .i64 v3.f3, .bool v3.f4]]⟩ ?_ (Nat.le_of_ble_eq_true rfl) ?_
     ·kernel_rfl
     refine AWp.seq ?_
     refine AWp.seq ?_
     refine AWp.draw FFm _ (n := 12) rfl (ls := #[n1, n1, n1, n1, n1, n1, n1, n1, n1, n1, n1, n1]) rfl ?_ (fun _ h => h)
     refine AAny.go (by kernel_rfl) [0, 1, 2, 3, 6, 7, 8] (fuel' := 5) rfl [] #[y1, y1, y1, y1, n1, n1, y1, y1, y1, n1, n1, n1] [0, 1, 49, 52, 57] 1 ⟨[(0, .pc 0 0), (1, tI v1), (49, tI v1), (52, .pc 0 2), (57, .pc 0 1)], [.cells 65 [.str v3.f0, .int .i64 v3.f1, k0 v3.f2, .int .i64 v3.f3, .bool v3.f4]]⟩ ?_ (Nat.le_of_ble_eq_true rfl) trivial ?_
     ·kernel_rfl
     refine AAny.goR (by kernel_rfl) (i := 4) (fuel' := 4) [5, 10, 11] rfl (by kernel_rfl) (by kernel_rfl) [] #[y1, y1, y1, y1, y1, n1, y1, y1, y1, n1, n1, n1] rfl [0, 1, 49, 53, 57] 1 ⟨[(0, .pc 0 0), (1, tI v1), (49, tI v1), (53, q0 v3.f2), (57, .pc 0 1)], [.cells 65 [.str v3.f0, .int .i64 v3.f1, k0 v3.f2, .int .i64 v3.f3, .bool v3.f4]]⟩ ?_ (Nat.le_of_ble_eq_true rfl) trivial ?_
     ·kernel_rfl
     refine AAny.go (by kernel_rfl) [5] (fuel' := 3) rfl [] #[y1, y1, y1, y1, y1, y1, y1, y1, y1, n1, n1, n1] [0, 1, 49, 54, 57] 1 ⟨[(0, .pc 0 0), (1, tI v1), (49, tI v1), (54, tI (v3.f2.length : Int)), (57, .pc 0 1)], [.cells 65 [.str v3.f0, .int .i64 v3.f1, k0 v3.f2, .int .i64 v3.f3, .bool v3.f4]]⟩ ?_ (Nat.le_of_ble_eq_true rfl) trivial ?_
     ·kernel_rfl
     refine AAny.step (i := 9) (fuel' := 2) rfl (by kernel_rfl) [] #[y1, y1, y1, y1, y1, y1, y1, y1, y1, y1, n1, n1] rfl [0, 1, 49, 54, 58] 1 ⟨[(0, .pc 0 0), (1, tI v1), (49, tI v1), (54, tI (v3.f2.length : Int)), (58, tI v3.f1)], [.cells 65 [.str v3.f0, .int .i64 v3.f1, k0 v3.f2, .int .i64 v3.f3, .bool v3.f4]]⟩ ?_ (Nat.le_of_ble_eq_true rfl) trivial ?_
     ·kernel_rfl
     obtain ⟨hg, h⟩ := of_guard h
     refine AAny.go (by kernel_rfl) [10, 11] (fuel' := 0) rfl [v3.f1 ≠ (0 : Int)] #[y1, y1, y1, y1, y1, y1, y1, y1, y1, y1, y1, y1] [0, 1, 60] 1 ⟨[(0, .pc 0 0), (1, tI v1), (60, tB (decide (v1 > w64 (Int.tdiv (v3.f2.length : Int) v3.f1))))], [.cells 65 [.str v3.f0, .int .i64 v3.f1, k0 v3.f2, .int .i64 v3.f3, .bool v3.f4]]⟩ ?_ (Nat.le_of_ble_eq_true rfl) hg ?_
     ·kernel_rfl
     refine AAny.keepTo [0, 1, 60] 1 ⟨[(0, .pc 0 0), (1, tI v1), (60, tB (decide (v1 > w64 (Int.tdiv (v3.f2.length : Int) v3.f1))))], [.cells 65 [.str v3.f0, .int .i64 v3.f1, k0 v3.f2, .int .i64 v3.f3, .bool v3.f4]]⟩ _ ?_ rfl (Nat.le_of_ble_eq_true rfl) (AAny.done (by kernel_rfl) ?_)
     ·kernel_rfl
     refine AWp.cond rfl (fun hb => ?_) fun hb => ?_
     ·replace h := of_true h hb
      refine AWp.keepTo [] 1 ⟨[], [.cells 65 [.str v3.f0, .int .i64 v3.f1, k0 v3.f2, .int .i64 v3.f3, .bool v3.f4]]⟩ ?_ (Nat.le_of_ble_eq_true rfl) ?_
      ·kernel_rfl
      refine AWp.seq ?_
      refine AWp.start [0, 1] [] [] [6, 7] 1 ⟨[(6, .tv (.sc (.slice none 0 0))), (7, tI (5 : Int))], [.cells 65 [.str v3.f0, .int .i64 v3.f1, k0 v3.f2, .int .i64 v3.f3, .bool v3.f4]]⟩ rfl ?_ (Nat.le_of_ble_eq_true rfl) trivial ?_
      ·kernel_rfl
      refine AOps.nil ?_
      refine AWp.nilFz 6 1 (fun i => (cInt .u8) (([] : List Int).getD i default)) rfl ?_
      refine AWp.keepTo [6, 7] 1 ⟨[(6, q0 ([] : List Int)), (7, tI (5 : Int))], [.cells 65 [.str v3.f0, .int .i64 v3.f1, k0 v3.f2, .int .i64 v3.f3, .bool v3.f4]]⟩ ?_ (Nat.le_of_ble_eq_true rfl) ?_
      ·kernel_rfl
      refine AWp.ret ?_
      cases h
      exact ⟨.inr rfl, rfl⟩
     ·replace h := of_false h hb
      refine AWp.keepTo [0, 1] 1 ⟨[(0, .pc 0 0), (1, tI v1)], [.cells 65 [.str v3.f0, .int .i64 v3.f1, k0 v3.f2, .int .i64 v3.f3, .bool v3.f4]]⟩ ?_ (Nat.le_of_ble_eq_true rfl) ?_
      ·kernel_rfl
      refine AWp.skip ?_
      refine AWp.seq ?_
      refine AWp.draw FFm _ (n := 21) rfl (ls := #[n1, n1, n1, n1, n1, n1, n1, n1, n1, n1, n1, n1, n1, n1, n1, n1, n1, n1, n1, n1, n1]) rfl ?_ (fun _ h => h)
      refine AAny.go (by kernel_rfl) [0, 1, 2, 4, 5, 6, 7, 8, 11, 12, 13, 14] (fuel' := 9) rfl [] #[y1, y1, y1, n1, y1, y1, y1, y1, y1, n1, n1, y1, y1, y1, y1, n1, n1, n1, n1, n1, n1] [63, 66, 69, 72, 75] 1 ⟨[(63, .pc 0 2), (66, tI (w64 (v1 - (1 : Int)))), (69, .pc 0 1), (72, tI v1), (75, .pc 0 1)], [.cells 65 [.str v3.f0, .int .i64 v3.f1, k0 v3.f2, .int .i64 v3.f3, .bool v3.f4]]⟩ ?_ (Nat.le_of_ble_eq_true rfl) trivial ?_
      ·kernel_rfl
      obtain ⟨hd4, h⟩ := of_guard h
      refine AAny.share 3 #[y1, y1, y1, y1, y1, y1, y1, y1, y1, y1, y1, y1, y1, y1, y1, y1, y1, y1, n1, n1, n1] ⟨[(78, q0 ((v3.f2.take (Int.toNat (w64 (v1 * v3.f1)))).drop (Int.toNat (w64 ((w64 (v1 - (1 : Int))) * v3.f1)))))], [.cells 65 [.str v3.f0, .int .i64 v3.f1, k0 v3.f2, .int .i64 v3.f3, .bool v3.f4]]⟩ ?_ fun n6_ => ?_
      ·obtain ⟨v11, hv11, h⟩ := of_bind h
       refine AAny.serial (i := 18) (fuel := 2) (by kernel_rfl) (AOne.callP (F := (FF 117 1)) _ rfl rfl rfl _ rfl rfl _ _ rfl Try.call37 [q0 ((v3.f2.take (Int.toNat (w64 (v1 * v3.f1)))).drop (Int.toNat (w64 ((w64 (v1 - (1 : Int))) * v3.f1))))] rfl rfl (f37_ok ((v3.f2.take (Int.toNat (w64 (v1 * v3.f1)))).drop (Int.toNat (w64 ((w64 (v1 - (1 : Int))) * v3.f1)))) hv11) rfl) ?_
       refine AAny.keepTo [79] 1 ⟨[(79, q1 v11)], [.cells 65 [.str v3.f0, .int .i64 v3.f1, k0 v3.f2, .int .i64 v3.f3, .bool v3.f4]]⟩ #[y1, y1, y1, y1, y1, y1, y1, y1, y1, y1, y1, y1, y1, y1, y1, y1, y1, y1, y1, n1, n1] ?_ rfl (Nat.le_of_ble_eq_true rfl) ?_
       ·kernel_rfl
       refine AAny.step (i := 19) (fuel' := 1) rfl (by kernel_rfl) [] #[y1, y1, y1, y1, y1, y1, y1, y1, y1, y1, y1, y1, y1, y1, y1, y1, y1, y1, y1, y1, n1] rfl [6] 1 ⟨[(6, q1 v11)], [.cells 65 [.str v3.f0, .int .i64 v3.f1, k0 v3.f2, .int .i64 v3.f3, .bool v3.f4]]⟩ ?_ (Nat.le_of_ble_eq_true rfl) trivial ?_
       ·kernel_rfl
       refine AAny.go (by kernel_rfl) [20] (fuel' := 0) rfl [] #[y1, y1, y1, y1, y1, y1, y1, y1, y1, y1, y1, y1, y1, y1, y1, y1, y1, y1, y1, y1, y1] [6, 7] 1 ⟨[(6, q1 v11), (7, tI (0 : Int))], [.cells 65 [.str v3.f0, .int .i64 v3.f1, k0 v3.f2, .int .i64 v3.f3, .bool v3.f4]]⟩ ?_ (Nat.le_of_ble_eq_true rfl) trivial ?_
       ·kernel_rfl
       refine AAny.keepTo [6, 7] 1 ⟨[(6, q1 v11), (7, tI (0 : Int))], [.cells 65 [.str v3.f0, .int .i64 v3.f1, k0 v3.f2, .int .i64 v3.f3, .bool v3.f4]]⟩ _ ?_ rfl (Nat.le_of_ble_eq_true rfl) (AAny.done (by kernel_rfl) ?_)
       ·kernel_rfl
       refine AWp.freezeL 6 (cInt .u8) v11 rfl (fun _ => rfl) ?_
       refine AWp.keepTo [6, 7] 1 ⟨[(6, q0 v11), (7, tI (0 : Int))], [.cells 65 [.str v3.f0, .int .i64 v3.f1, k0 v3.f2, .int .i64 v3.f3, .bool v3.f4]]⟩ ?_ (Nat.le_of_ble_eq_true rfl) ?_
       ·kernel_rfl
       refine AWp.ret ?_
       cases h
       exact ⟨.inr rfl, rfl⟩
      refine AAny.share 5 #[y1, y1, y1, n1, y1, y1, y1, y1, y1, y1, y1, y1, y1, y1, y1, y1, y1, n1, n1, n1, n1] ⟨[(63, .pc 0 2), (71, tI (w64 ((w64 (v1 - (1 : Int))) * v3.f1))), (77, tI (w64 (v1 * v3.f1)))], [.cells 65 [.str v3.f0, .int .i64 v3.f1, k0 v3.f2, .int .i64 v3.f3, .bool v3.f4]]⟩ ?_ fun n5_ => ?_
      ·refine AAny.each [3] (by kernel_rfl) rfl ?_
       refine AEach.step (i := 3) [] #[y1, y1, y1, y1, y1, y1, y1, y1, y1, y1, y1, y1, y1, y1, y1, y1, y1, n1, n1, n1, n1] rfl [64, 71, 77] 1 ⟨[(64, q0 v3.f2), (71, tI (w64 ((w64 (v1 - (1 : Int))) * v3.f1))), (77, tI (w64 (v1 * v3.f1)))], [.cells 65 [.str v3.f0, .int .i64 v3.f1, k0 v3.f2, .int .i64 v3.f3, .bool v3.f4]]⟩ ?_ (Nat.le_of_ble_eq_true rfl) trivial ?_ ?_
       ·kernel_rfl
       ·refine AAny.go (by kernel_rfl) [17] (fuel' := 3) rfl [(0 : Int) ≤ w64 ((w64 (v1 - (1 : Int))) * v3.f1), w64 ((w64 (v1 - (1 : Int))) * v3.f1) ≤ w64 (v1 * v3.f1), w64 (v1 * v3.f1) ≤ (v3.f2.length : Int)] #[y1, y1, y1, y1, y1, y1, y1, y1, y1, y1, y1, y1, y1, y1, y1, y1, y1, y1, n1, n1, n1] [78] 1 ⟨[(78, .tv (.fz 1 ((Int.toNat (w64 (v1 * v3.f1))) - (Int.toNat (w64 ((w64 (v1 - (1 : Int))) * v3.f1)))) (fun i => (cInt .u8) (v3.f2.getD ((Int.toNat (w64 ((w64 (v1 - (1 : Int))) * v3.f1))) + i) default))))], [.cells 65 [.str v3.f0, .int .i64 v3.f1, k0 v3.f2, .int .i64 v3.f3, .bool v3.f4]]⟩ ?_ (Nat.le_of_ble_eq_true rfl) ⟨hd4.1, hd4.2.1, hd4.2.2⟩ ?_
        ·kernel_rfl
        have hb : (Int.toNat (w64 (v1 * v3.f1))) ≤ v3.f2.length := by have hh : w64 (v1 * v3.f1) ≤ (v3.f2.length : Int) := hd4.2.2; omega
        refine AAny.extFzL (s := 78) rfl (sub_len v3.f2 (Int.toNat (w64 ((w64 (v1 - (1 : Int))) * v3.f1))) (Int.toNat (w64 (v1 * v3.f1))) hb) (sub_at (cInt .u8) v3.f2 (Int.toNat (w64 ((w64 (v1 - (1 : Int))) * v3.f1))) (Int.toNat (w64 (v1 * v3.f1))) hb) ?_
        refine AAny.keepTo [78] 1 ⟨[(78, q0 ((v3.f2.take (Int.toNat (w64 (v1 * v3.f1)))).drop (Int.toNat (w64 ((w64 (v1 - (1 : Int))) * v3.f1)))))], [.cells 65 [.str v3.f0, .int .i64 v3.f1, k0 v3.f2, .int .i64 v3.f3, .bool v3.f4]]⟩ #[y1, y1, y1, y1, y1, y1, y1, y1, y1, y1, y1, y1, y1, y1, y1, y1, y1, y1, n1, n1, n1] ?_ rfl (Nat.le_of_ble_eq_true rfl) ?_
        ·kernel_rfl
        exact n6_
       exact AEach.nil
      refine AAny.share 6 #[y1, y1, y1, y1, y1, y1, y1, y1, y1, n1, n1, y1, y1, y1, y1, y1, y1, n1, n1, n1, n1] ⟨[(64, q0 v3.f2), (66, tI (w64 (v1 - (1 : Int)))), (69, .pc 0 1), (77, tI (w64 (v1 * v3.f1)))], [.cells 65 [.str v3.f0, .int .i64 v3.f1, k0 v3.f2, .int .i64 v3.f3, .bool v3.f4]]⟩ ?_ fun n4_ => ?_
      ·refine AAny.each [9] (by kernel_rfl) rfl ?_
       refine AEach.step (i := 9) [] #[y1, y1, y1, y1, y1, y1, y1, y1, y1, y1, n1, y1, y1, y1, y1, y1, y1, n1, n1, n1, n1] rfl [64, 66, 70, 77] 1 ⟨[(64, q0 v3.f2), (66, tI (w64 (v1 - (1 : Int)))), (70, tI v3.f1), (77, tI (w64 (v1 * v3.f1)))], [.cells 65 [.str v3.f0, .int .i64 v3.f1, k0 v3.f2, .int .i64 v3.f3, .bool v3.f4]]⟩ ?_ (Nat.le_of_ble_eq_true rfl) trivial ?_ ?_
       ·kernel_rfl
       ·refine AAny.go (by kernel_rfl) [10, 17] (fuel' := 3) rfl [(0 : Int) ≤ w64 ((w64 (v1 - (1 : Int))) * v3.f1), w64 ((w64 (v1 - (1 : Int))) * v3.f1) ≤ w64 (v1 * v3.f1), w64 (v1 * v3.f1) ≤ (v3.f2.length : Int)] #[y1, y1, y1, y1, y1, y1, y1, y1, y1, y1, y1, y1, y1, y1, y1, y1, y1, y1, n1, n1, n1] [78] 1 ⟨[(78, .tv (.fz 1 ((Int.toNat (w64 (v1 * v3.f1))) - (Int.toNat (w64 ((w64 (v1 - (1 : Int))) * v3.f1)))) (fun i => (cInt .u8) (v3.f2.getD ((Int.toNat (w64 ((w64 (v1 - (1 : Int))) * v3.f1))) + i) default))))], [.cells 65 [.str v3.f0, .int .i64 v3.f1, k0 v3.f2, .int .i64 v3.f3, .bool v3.f4]]⟩ ?_ (Nat.le_of_ble_eq_true rfl) ⟨hd4.1, hd4.2.1, hd4.2.2⟩ ?_
        ·kernel_rfl
        have hb : (Int.toNat (w64 (v1 * v3.f1))) ≤ v3.f2.length := by have hh : w64 (v1 * v3.f1) ≤ (v3.f2.length : Int) := hd4.2.2; omega
        refine AAny.extFzL (s := 78) rfl (sub_len v3.f2 (Int.toNat (w64 ((w64 (v1 - (1 : Int))) * v3.f1))) (Int.toNat (w64 (v1 * v3.f1))) hb) (sub_at (cInt .u8) v3.f2 (Int.toNat (w64 ((w64 (v1 - (1 : Int))) * v3.f1))) (Int.toNat (w64 (v1 * v3.f1))) hb) ?_
        refine AAny.keepTo [78] 1 ⟨[(78, q0 ((v3.f2.take (Int.toNat (w64 (v1 * v3.f1)))).drop (Int.toNat (w64 ((w64 (v1 - (1 : Int))) * v3.f1)))))], [.cells 65 [.str v3.f0, .int .i64 v3.f1, k0 v3.f2, .int .i64 v3.f3, .bool v3.f4]]⟩ #[y1, y1, y1, y1, y1, y1, y1, y1, y1, y1, y1, y1, y1, y1, y1, y1, y1, y1, n1, n1, n1] ?_ rfl (Nat.le_of_ble_eq_true rfl) ?_
        ·kernel_rfl
        exact n6_
       exact AEach.nil
      refine AAny.share 6 #[y1, y1, y1, y1, y1, y1, y1, y1, y1, y1, y1, y1, y1, y1, y1, n1, n1, n1, n1, n1, n1] ⟨[(64, q0 v3.f2), (71, tI (w64 ((w64 (v1 - (1 : Int))) * v3.f1))), (72, tI v1), (75, .pc 0 1)], [.cells 65 [.str v3.f0, .int .i64 v3.f1, k0 v3.f2, .int .i64 v3.f3, .bool v3.f4]]⟩ ?_ fun n7_ => ?_
      ·refine AAny.each [15] (by kernel_rfl) rfl ?_
       refine AEach.step (i := 15) [] #[y1, y1, y1, y1, y1, y1, y1, y1, y1, y1, y1, y1, y1, y1, y1, y1, n1, n1, n1, n1, n1] rfl [64, 71, 72, 76] 1 ⟨[(64, q0 v3.f2), (71, tI (w64 ((w64 (v1 - (1 : Int))) * v3.f1))), (72, tI v1), (76, tI v3.f1)], [.cells 65 [.str v3.f0, .int .i64 v3.f1, k0 v3.f2, .int .i64 v3.f3, .bool v3.f4]]⟩ ?_ (Nat.le_of_ble_eq_true rfl) trivial ?_ ?_
       ·kernel_rfl
       ·refine AAny.go (by kernel_rfl) [16, 17] (fuel' := 3) rfl [(0 : Int) ≤ w64 ((w64 (v1 - (1 : Int))) * v3.f1), w64 ((w64 (v1 - (1 : Int))) * v3.f1) ≤ w64 (v1 * v3.f1), w64 (v1 * v3.f1) ≤ (v3.f2.length : Int)] #[y1, y1, y1, y1, y1, y1, y1, y1, y1, y1, y1, y1, y1, y1, y1, y1, y1, y1, n1, n1, n1] [78] 1 ⟨[(78, .tv (.fz 1 ((Int.toNat (w64 (v1 * v3.f1))) - (Int.toNat (w64 ((w64 (v1 - (1 : Int))) * v3.f1)))) (fun i => (cInt .u8) (v3.f2.getD ((Int.toNat (w64 ((w64 (v1 - (1 : Int))) * v3.f1))) + i) default))))], [.cells 65 [.str v3.f0, .int .i64 v3.f1, k0 v3.f2, .int .i64 v3.f3, .bool v3.f4]]⟩ ?_ (Nat.le_of_ble_eq_true rfl) ⟨hd4.1, hd4.2.1, hd4.2.2⟩ ?_
        ·kernel_rfl
        have hb : (Int.toNat (w64 (v1 * v3.f1))) ≤ v3.f2.length := by have hh : w64 (v1 * v3.f1) ≤ (v3.f2.length : Int) := hd4.2.2; omega
        refine AAny.extFzL (s := 78) rfl (sub_len v3.f2 (Int.toNat (w64 ((w64 (v1 - (1 : Int))) * v3.f1))) (Int.toNat (w64 (v1 * v3.f1))) hb) (sub_at (cInt .u8) v3.f2 (Int.toNat (w64 ((w64 (v1 - (1 : Int))) * v3.f1))) (Int.toNat (w64 (v1 * v3.f1))) hb) ?_
        refine AAny.keepTo [78] 1 ⟨[(78, q0 ((v3.f2.take (Int.toNat (w64 (v1 * v3.f1)))).drop (Int.toNat (w64 ((w64 (v1 - (1 : Int))) * v3.f1)))))], [.cells 65 [.str v3.f0, .int .i64 v3.f1, k0 v3.f2, .int .i64 v3.f3, .bool v3.f4]]⟩ #[y1, y1, y1, y1, y1, y1, y1, y1, y1, y1, y1, y1, y1, y1, y1, y1, y1, y1, n1, n1, n1] ?_ rfl (Nat.le_of_ble_eq_true rfl) ?_
        ·kernel_rfl
        exact n6_
       exact AEach.nil
      refine AAny.share 7 #[y1, y1, y1, n1, y1, y1, y1, y1, y1, n1, n1, y1, y1, y1, y1, y1, y1, n1, n1, n1, n1] ⟨[(63, .pc 0 2), (66, tI (w64 (v1 - (1 : Int)))), (69, .pc 0 1), (77, tI (w64 (v1 * v3.f1)))], [.cells 65 [.str v3.f0, .int .i64 v3.f1, k0 v3.f2, .int .i64 v3.f3, .bool v3.f4]]⟩ ?_ fun n3_ => ?_
      ·refine AAny.each [3, 9] (by kernel_rfl) rfl ?_
       refine AEach.step (i := 3) [] #[y1, y1, y1, y1, y1, y1, y1, y1, y1, n1, n1, y1, y1, y1, y1, y1, y1, n1, n1, n1, n1] rfl [64, 66, 69, 77] 1 ⟨[(64, q0 v3.f2), (66, tI (w64 (v1 - (1 : Int)))), (69, .pc 0 1), (77, tI (w64 (v1 * v3.f1)))], [.cells 65 [.str v3.f0, .int .i64 v3.f1, k0 v3.f2, .int .i64 v3.f3, .bool v3.f4]]⟩ ?_ (Nat.le_of_ble_eq_true rfl) trivial ?_ ?_
       ·kernel_rfl
       ·exact n4_
       refine AEach.step (i := 9) [] #[y1, y1, y1, n1, y1, y1, y1, y1, y1, y1, n1, y1, y1, y1, y1, y1, y1, n1, n1, n1, n1] rfl [63, 66, 70, 77] 1 ⟨[(63, .pc 0 2), (66, tI (w64 (v1 - (1 : Int)))), (70, tI v3.f1), (77, tI (w64 (v1 * v3.f1)))], [.cells 65 [.str v3.f0, .int .i64 v3.f1, k0 v3.f2, .int .i64 v3.f3, .bool v3.f4]]⟩ ?_ (Nat.le_of_ble_eq_true rfl) trivial ?_ ?_
       ·kernel_rfl
       ·refine AAny.go (by kernel_rfl) [10] (fuel' := 5) rfl [] #[y1, y1, y1, n1, y1, y1, y1, y1, y1, y1, y1, y1, y1, y1, y1, y1, y1, n1, n1, n1, n1] [63, 71, 77] 1 ⟨[(63, .pc 0 2), (71, tI (w64 ((w64 (v1 - (1 : Int))) * v3.f1))), (77, tI (w64 (v1 * v3.f1)))], [.cells 65 [.str v3.f0, .int .i64 v3.f1, k0 v3.f2, .int .i64 v3.f3, .bool v3.f4]]⟩ ?_ (Nat.le_of_ble_eq_true rfl) trivial ?_
        ·kernel_rfl
        exact n5_
       exact AEach.nil
      refine AAny.share 7 #[y1, y1, y1, n1, y1, y1, y1, y1, y1, y1, y1, y1, y1, y1, y1, n1, n1, n1, n1, n1, n1] ⟨[(63, .pc 0 2), (71, tI (w64 ((w64 (v1 - (1 : Int))) * v3.f1))), (72, tI v1), (75, .pc 0 1)], [.cells 65 [.str v3.f0, .int .i64 v3.f1, k0 v3.f2, .int .i64 v3.f3, .bool v3.f4]]⟩ ?_ fun n2_ => ?_
      ·refine AAny.each [3, 15] (by kernel_rfl) rfl ?_
       refine AEach.step (i := 3) [] #[y1, y1, y1, y1, y1, y1, y1, y1, y1, y1, y1, y1, y1, y1, y1, n1, n1, n1, n1, n1, n1] rfl [64, 71, 72, 75] 1 ⟨[(64, q0 v3.f2), (71, tI (w64 ((w64 (v1 - (1 : Int))) * v3.f1))), (72, tI v1), (75, .pc 0 1)], [.cells 65 [.str v3.f0, .int .i64 v3.f1, k0 v3.f2, .int .i64 v3.f3, .bool v3.f4]]⟩ ?_ (Nat.le_of_ble_eq_true rfl) trivial ?_ ?_
       ·kernel_rfl
       ·exact n7_
       refine AEach.step (i := 15) [] #[y1, y1, y1, n1, y1, y1, y1, y1, y1, y1, y1, y1, y1, y1, y1, y1, n1, n1, n1, n1, n1] rfl [63, 71, 72, 76] 1 ⟨[(63, .pc 0 2), (71, tI (w64 ((w64 (v1 - (1 : Int))) * v3.f1))), (72, tI v1), (76, tI v3.f1)], [.cells 65 [.str v3.f0, .int .i64 v3.f1, k0 v3.f2, .int .i64 v3.f3, .bool v3.f4]]⟩ ?_ (Nat.le_of_ble_eq_true rfl) trivial ?_ ?_
       ·kernel_rfl
       ·refine AAny.go (by kernel_rfl) [16] (fuel' := 5) rfl [] #[y1, y1, y1, n1, y1, y1, y1, y1, y1, y1, y1, y1, y1, y1, y1, y1, y1, n1, n1, n1, n1] [63, 71, 77] 1 ⟨[(63, .pc 0 2), (71, tI (w64 ((w64 (v1 - (1 : Int))) * v3.f1))), (77, tI (w64 (v1 * v3.f1)))], [.cells 65 [.str v3.f0, .int .i64 v3.f1, k0 v3.f2, .int .i64 v3.f3, .bool v3.f4]]⟩ ?_ (Nat.le_of_ble_eq_true rfl) trivial ?_
        ·kernel_rfl
        exact n5_
       exact AEach.nil
      refine AAny.share 8 #[y1, y1, y1, y1, y1, y1, y1, y1, y1, n1, n1, y1, y1, y1, y1, n1, n1, n1, n1, n1, n1] ⟨[(64, q0 v3.f2), (66, tI (w64 (v1 - (1 : Int)))), (69, .pc 0 1), (72, tI v1), (75, .pc 0 1)], [.cells 65 [.str v3.f0, .int .i64 v3.f1, k0 v3.f2, .int .i64 v3.f3, .bool v3.f4]]⟩ ?_ fun n1_ => ?_
      ·refine AAny.each [9, 15] (by kernel_rfl) rfl ?_
       refine AEach.step (i := 9) [] #[y1, y1, y1, y1, y1, y1, y1, y1, y1, y1, n1, y1, y1, y1, y1, n1, n1, n1, n1, n1, n1] rfl [64, 66, 70, 72, 75] 1 ⟨[(64, q0 v3.f2), (66, tI (w64 (v1 - (1 : Int)))), (70, tI v3.f1), (72, tI v1), (75, .pc 0 1)], [.cells 65 [.str v3.f0, .int .i64 v3.f1, k0 v3.f2, .int .i64 v3.f3, .bool v3.f4]]⟩ ?_ (Nat.le_of_ble_eq_true rfl) trivial ?_ ?_
       ·kernel_rfl
       ·refine AAny.go (by kernel_rfl) [10] (fuel' := 6) rfl [] #[y1, y1, y1, y1, y1, y1, y1, y1, y1, y1, y1, y1, y1, y1, y1, n1, n1, n1, n1, n1, n1] [64, 71, 72, 75] 1 ⟨[(64, q0 v3.f2), (71, tI (w64 ((w64 (v1 - (1 : Int))) * v3.f1))), (72, tI v1), (75, .pc 0 1)], [.cells 65 [.str v3.f0, .int .i64 v3.f1, k0 v3.f2, .int .i64 v3.f3, .bool v3.f4]]⟩ ?_ (Nat.le_of_ble_eq_true rfl) trivial ?_
        ·kernel_rfl
        exact n7_
       refine AEach.step (i := 15) [] #[y1, y1, y1, y1, y1, y1, y1, y1, y1, n1, n1, y1, y1, y1, y1, y1, n1, n1, n1, n1, n1] rfl [64, 66, 69, 72, 76] 1 ⟨[(64, q0 v3.f2), (66, tI (w64 (v1 - (1 : Int)))), (69, .pc 0 1), (72, tI v1), (76, tI v3.f1)], [.cells 65 [.str v3.f0, .int .i64 v3.f1, k0 v3.f2, .int .i64 v3.f3, .bool v3.f4]]⟩ ?_ (Nat.le_of_ble_eq_true rfl) trivial ?_ ?_
       ·kernel_rfl
       ·refine AAny.go (by kernel_rfl) [16] (fuel' := 6) rfl [] #[y1, y1, y1, y1, y1, y1, y1, y1, y1, n1, n1, y1, y1, y1, y1, y1, y1, n1, n1, n1, n1] [64, 66, 69, 77] 1 ⟨[(64, q0 v3.f2), (66, tI (w64 (v1 - (1 : Int)))), (69, .pc 0 1), (77, tI (w64 (v1 * v3.f1)))], [.cells 65 [.str v3.f0, .int .i64 v3.f1, k0 v3.f2, .int .i64 v3.f3, .bool v3.f4]]⟩ ?_ (Nat.le_of_ble_eq_true rfl) trivial ?_
        ·kernel_rfl
        exact n4_
       exact AEach.nil
      refine AAny.each [3, 9, 15] (by kernel_rfl) rfl ?_
      refine AEach.step (i := 3) [] #[y1, y1, y1, y1, y1, y1, y1, y1, y1, n1, n1, y1, y1, y1, y1, n1, n1, n1, n1, n1, n1] rfl [64, 66, 69, 72, 75] 1 ⟨[(64, q0 v3.f2), (66, tI (w64 (v1 - (1 : Int)))), (69, .pc 0 1), (72, tI v1), (75, .pc 0 1)], [.cells 65 [.str v3.f0, .int .i64 v3.f1, k0 v3.f2, .int .i64 v3.f3, .bool v3.f4]]⟩ ?_ (Nat.le_of_ble_eq_true rfl) trivial ?_ ?_
      ·kernel_rfl
      ·exact n1_
      refine AEach.step (i := 9) [] #[y1, y1, y1, n1, y1, y1, y1, y1, y1, y1, n1, y1, y1, y1, y1, n1, n1, n1, n1, n1, n1] rfl [63, 66, 70, 72, 75] 1 ⟨[(63, .pc 0 2), (66, tI (w64 (v1 - (1 : Int)))), (70, tI v3.f1), (72, tI v1), (75, .pc 0 1)], [.cells 65 [.str v3.f0, .int .i64 v3.f1, k0 v3.f2, .int .i64 v3.f3, .bool v3.f4]]⟩ ?_ (Nat.le_of_ble_eq_true rfl) trivial ?_ ?_
      ·kernel_rfl
      ·refine AAny.go (by kernel_rfl) [10] (fuel' := 7) rfl [] #[y1, y1, y1, n1, y1, y1, y1, y1, y1, y1, y1, y1, y1, y1, y1, n1, n1, n1, n1, n1, n1] [63, 71, 72, 75] 1 ⟨[(63, .pc 0 2), (71, tI (w64 ((w64 (v1 - (1 : Int))) * v3.f1))), (72, tI v1), (75, .pc 0 1)], [.cells 65 [.str v3.f0, .int .i64 v3.f1, k0 v3.f2, .int .i64 v3.f3, .bool v3.f4]]⟩ ?_ (Nat.le_of_ble_eq_true rfl) trivial ?_
       ·kernel_rfl
       exact n2_
      refine AEach.step (i := 15) [] #[y1, y1, y1, n1, y1, y1, y1, y1, y1, n1, n1, y1, y1, y1, y1, y1, n1, n1, n1, n1, n1] rfl [63, 66, 69, 72, 76] 1 ⟨[(63, .pc 0 2), (66, tI (w64 (v1 - (1 : Int)))), (69, .pc 0 1), (72, tI v1), (76, tI v3.f1)], [.cells 65 [.str v3.f0, .int .i64 v3.f1, k0 v3.f2, .int .i64 v3.f3, .bool v3.f4]]⟩ ?_ (Nat.le_of_ble_eq_true rfl) trivial ?_ ?_
      ·kernel_rfl
      ·refine AAny.go (by kernel_rfl) [16] (fuel' := 7) rfl [] #[y1, y1, y1, n1, y1, y1, y1, y1, y1, n1, n1, y1, y1, y1, y1, y1, y1, n1, n1, n1, n1] [63, 66, 69, 77] 1 ⟨[(63, .pc 0 2), (66, tI (w64 (v1 - (1 : Int)))), (69, .pc 0 1), (77, tI (w64 (v1 * v3.f1)))], [.cells 65 [.str v3.f0, .int .i64 v3.f1, k0 v3.f2, .int .i64 v3.f3, .bool v3.f4]]⟩ ?_ (Nat.le_of_ble_eq_true rfl) trivial ?_
       ·kernel_rfl
       exact n3_
      exact AEach.nil
    ·replace h := of_false h hb
     refine AWp.keepTo [0, 1, 2] 1 ⟨[(0, .pc 0 0), (1, tI v1), (2, tI v2)], [.cells 65 [.str v3.f0, .int .i64 v3.f1, k0 v3.f2, .int .i64 v3.f3, .bool v3.f4]]⟩ ?_ (Nat.le_of_ble_eq_true rfl) ?_
     ·kernel_rfl
     refine AWp.skip ?_
     refine AWp.seq ?_
     refine AWp.start [0, 1] [2, 3] [] [0, 2, 80, 81] 1 ⟨[(0, .pc 0 0), (2, tI v2), (80, .pc 0 0), (81, tI v1)], [.cells 65 [.str v3.f0, .int .i64 v3.f1, k0 v3.f2, .int .i64 v3.f3, .bool v3.f4]]⟩ rfl ?_ (Nat.le_of_ble_eq_true rfl) trivial ?_
     ·kernel_rfl
     obtain ⟨v12, hv12, h⟩ := of_bind h
     refine AOps.cons (AOne.callR (F := (FF 117 1)) _ rfl rfl rfl _ rfl rfl _ _ rfl Try.call45 [] [.rp [.str v3.f0, .int .i64 v3.f1, k0 v3.f2, .int .i64 v3.f3, .bool v3.f4], tI v1] rfl trivial (f45_ok v3 v1 hv12) (ind_of rfl) rfl) ?_
     refine AOps.go [3] [] [] [0, 2, 8] 1 ⟨[(0, .pc 0 0), (2, tI v2), (8, tI v12)], [.cells 65 [.str v3.f0, .int .i64 v3.f1, k0 v3.f2, .int .i64 v3.f3, .bool v3.f4]]⟩ ?_ (Nat.le_of_ble_eq_true rfl) trivial ?_
     ·kernel_rfl
     refine AOps.nil ?_
     refine AWp.seq ?_
     refine AWp.seq ?_
     refine AWp.start [0, 1, 2, 3, 4, 5, 6, 7] [8, 9, 10, 11, 12, 13, 14, 15, 16, 17] [] [0, 2, 8, 90] 1 ⟨[(0, .pc 0 0), (2, tI v2), (8, tI v12), (90, tB (decide (v12 > (v3.f2.length : Int))))], [.cells 65 [.str v3.f0, .int .i64 v3.f1, k0 v3.f2, .int .i64 v3.f3, .bool v3.f4]]⟩ rfl ?_ (Nat.le_of_ble_eq_true rfl) trivial ?_
     ·kernel_rfl
     obtain ⟨v13, hc8, h⟩ := of_bind h
     refine AOps.cut [8, 9, 10, 11, 12, 13, 14, 15, 16, 17] [] (fun σ => σ = ⟨[(0, .pc 0 0), (2, tI v2), (8, tI v12), (100, tB v13)], [.cells 65 [.str v3.f0, .int .i64 v3.f1, k0 v3.f2, .int .i64 v3.f3, .bool v3.f4]]⟩) ?_ fun σ' hJ => ?_
     ·refine AOps.split (fun b => ⟨[(0, .pc 0 0), (2, tI v2), (8, tI v12), (90, tB b)], [.cells 65 [.str v3.f0, .int .i64 v3.f1, k0 v3.f2, .int .i64 v3.f3, .bool v3.f4]]⟩) _ (fun hb => ?_) fun hb => ?_
      ·replace hc8 := of_true hc8 hb
       refine AOps.go [8, 9, 10, 11, 12, 13, 14, 15, 16, 17] [] [] [0, 2, 8, 100] 1 ⟨[(0, .pc 0 0), (2, tI v2), (8, tI v12), (100, tB true)], [.cells 65 [.str v3.f0, .int .i64 v3.f1, k0 v3.f2, .int .i64 v3.f3, .bool v3.f4]]⟩ ?_ (Nat.le_of_ble_eq_true rfl) trivial ?_
       ·kernel_rfl
       cases hc8
       exact AOps.nil rfl
      ·replace hc8 := of_false hc8 hb
       refine AOps.go [8, 9, 10, 11, 12, 13, 14, 15, 16, 17] [] [] [0, 2, 8, 100] 1 ⟨[(0, .pc 0 0), (2, tI v2), (8, tI v12), (100, tB (decide (v2 > w64 ((v3.f2.length : Int) - v12))))], [.cells 65 [.str v3.f0, .int .i64 v3.f1, k0 v3.f2, .int .i64 v3.f3, .bool v3.f4]]⟩ ?_ (Nat.le_of_ble_eq_true rfl) trivial ?_
       ·kernel_rfl
       cases hc8
       exact AOps.nil rfl
     subst hJ
     refine AOps.nil ?_
     refine AWp.cond rfl (fun hb => ?_) fun hb => ?_
     ·replace h := of_true h hb
      refine AWp.keepTo [] 1 ⟨[], [.cells 65 [.str v3.f0, .int .i64 v3.f1, k0 v3.f2, .int .i64 v3.f3, .bool v3.f4]]⟩ ?_ (Nat.le_of_ble_eq_true rfl) ?_
      ·kernel_rfl
      refine AWp.seq ?_
      refine AWp.start [0, 1] [] [] [6, 7] 1 ⟨[(6, .tv (.sc (.slice none 0 0))), (7, tI (6 : Int))], [.cells 65 [.str v3.f0, .int .i64 v3.f1, k0 v3.f2, .int .i64 v3.f3, .bool v3.f4]]⟩ rfl ?_ (Nat.le_of_ble_eq_true rfl) trivial ?_
      ·kernel_rfl
      refine AOps.nil ?_
      refine AWp.nilFz 6 1 (fun i => (cInt .u8) (([] : List Int).getD i default)) rfl ?_
      refine AWp.keepTo [6, 7] 1 ⟨[(6, q0 ([] : List Int)), (7, tI (6 : Int))], [.cells 65 [.str v3.f0, .int .i64 v3.f1, k0 v3.f2, .int .i64 v3.f3, .bool v3.f4]]⟩ ?_ (Nat.le_of_ble_eq_true rfl) ?_
      ·kernel_rfl
      refine AWp.ret ?_
      cases h
      exact ⟨.inr rfl, rfl⟩
     ·replace h := of_false h hb
      refine AWp.keepTo [0, 2, 8] 1 ⟨[(0, .pc 0 0), (2, tI v2), (8, tI v12)], [.cells 65 [.str v3.f0, .int .i64 v3.f1, k0 v3.f2, .int .i64 v3.f3, .bool v3.f4]]⟩ ?_ (Nat.le_of_ble_eq_true rfl) ?_
      ·kernel_rfl
      refine AWp.skip ?_
      refine AWp.seq ?_
      refine AWp.start [0, 1, 2, 3, 4, 5, 6] [] [] [0, 2, 8] 1 ⟨[(0, .pc 0 0), (2, tI v2), (8, tI v12)], [.cells 65 [.str v3.f0, .int .i64 v3.f1, k0 v3.f2, .int .i64 (w64 (v12 + v2)), .bool v3.f4]]⟩ rfl ?_ (Nat.le_of_ble_eq_true rfl) trivial ?_
      ·kernel_rfl
      refine AOps.nil ?_
      refine AWp.seq ?_
      obtain ⟨hg, h⟩ := of_guard h
      refine AWp.start [0, 1, 2, 3, 4, 5, 6, 7, 8] [9, 10, 11] [(0 : Int) ≤ v12, v12 ≤ w64 (v12 + v2), w64 (v12 + v2) ≤ (v3.f2.length : Int)] [115] 1 ⟨[(115, .tv (.fz 1 ((Int.toNat (w64 (v12 + v2))) - v12.toNat) (fun i => (cInt .u8) (v3.f2.getD (v12.toNat + i) default))))], [.cells 65 [.str v3.f0, .int .i64 v3.f1, k0 v3.f2, .int .i64 (w64 (v12 + v2)), .bool v3.f4]]⟩ rfl ?_ (Nat.le_of_ble_eq_true rfl) ⟨hg.1, hg.2.1, hg.2.2⟩ ?_
      ·kernel_rfl
      have hb : (Int.toNat (w64 (v12 + v2))) ≤ v3.f2.length := by have hh : w64 (v12 + v2) ≤ (v3.f2.length : Int) := hg.2.2; omega
      refine AOps.extFzL (s := 115) rfl (sub_len v3.f2 v12.toNat (Int.toNat (w64 (v12 + v2))) hb) (sub_at (cInt .u8) v3.f2 v12.toNat (Int.toNat (w64 (v12 + v2))) hb) ?_
      obtain ⟨v14, hv14, h⟩ := of_bind h
      refine AOps.cons (AOne.callP (F := (FF 117 1)) _ rfl rfl rfl _ rfl rfl _ _ rfl Try.call37 [q0 ((v3.f2.take (Int.toNat (w64 (v12 + v2)))).drop v12.toNat)] rfl rfl (f37_ok ((v3.f2.take (Int.toNat (w64 (v12 + v2)))).drop v12.toNat) hv14) rfl) ?_
      refine AOps.go [10, 11] [] [] [6, 7] 1 ⟨[(6, q1 v14), (7, tI (0 : Int))], [.cells 65 [.str v3.f0, .int .i64 v3.f1, k0 v3.f2, .int .i64 (w64 (v12 + v2)), .bool v3.f4]]⟩ ?_ (Nat.le_of_ble_eq_true rfl) trivial ?_
      ·kernel_rfl
      refine AOps.nil ?_
      refine AWp.freezeL 6 (cInt .u8) v14 rfl (fun _ => rfl) ?_
      refine AWp.keepTo [6, 7] 1 ⟨[(6, q0 v14), (7, tI (0 : Int))], [.cells 65 [.str v3.f0, .int .i64 v3.f1, k0 v3.f2, .int .i64 (w64 (v12 + v2)), .bool v3.f4]]⟩ ?_ (Nat.le_of_ble_eq_true rfl) ?_
      ·kernel_rfl
      refine AWp.ret ?_
      cases h
      exact ⟨.inr rfl, rfl⟩

end Go.Sx.unit
