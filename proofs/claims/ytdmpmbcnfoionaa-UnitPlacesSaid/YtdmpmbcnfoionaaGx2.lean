/- Printed by program (wip/gen): plain functions and their walks; no condition. -/
import Derived.Test.YtdmpmbcnfoionaaGx1
namespace Go.Sx.unit
open Go Go.Sx Go.Proofs

noncomputable def f5_j1 (v32 : Int) : Option (Int ⊕ Out Bool Unit) :=
 some (.inl (w64 (v32 + (1 : Int))))

noncomputable def f5_j2 (v29 : (List Int)) (v32 : Int) (v34 : Int) : Option (Int ⊕ Out Bool Unit) :=
 if (0 : Int) ≤ v32 ∧ v32 < (v29.length : Int) then cond (v29.getD v32.toNat default != v34) (some (.inr (.ret false))) (f5_j1 v32 ) else none

noncomputable def f5_b3 (v21 : (List Int)) (v29 : (List Int)) (v30 : Int) (v31 : Int) (v32 : Int) : Option (Int ⊕ Out Bool Unit) :=
 cond (decide (v32 < (v29.length : Int))) ((cond (decide (v32 ≥ v30)) (some (decide (v32 < v31))) (some false)).bind fun v33 => cond v33 (f5_j1 v32 ) (cond (decide (v32 < (v21.length : Int))) (if (0 : Int) ≤ v32 ∧ v32 < (v21.length : Int) then f5_j2 v29 v32 (v21.getD v32.toNat default) else none) (f5_j2 v29 v32 (0 : Int)))) (some (.inr (.go ())))

noncomputable def f5_j4 (v1 : T32) (v3 : T46) (v21 : (List Int)) (v23 : Int × T64) (v29 : (List Int)) (v30 : Int) (v31 : Int) : Option Bool :=
 (iter (fun s => f5_b3 v21 v29 v30 v31 s) (0 : Int)).bind fun y => match y with | .ret v35 => some v35 | .go _ => cond (decide ((v29.length : Int) < (v21.length : Int))) (some false) (cond (v1.f0 == ([100, 105, 114, 101, 99, 116] : List UInt8)) ((f25o v3.f1 (0 : Int) v23.2).bind fun v36 => (cond (v36.2.1 == (0 : Int)) (cond ((v36.1.length : Int) == v1.f1) (if (v3.f3.length : Int) ≤ (v36.1.length : Int) then cond ((((v36.1.take (Int.toNat (v3.f3.length : Int))).drop 0).map (fun n => UInt8.ofNat n.toNat)) == (v3.f3.map (fun n => UInt8.ofNat n.toNat))) ((f9 ).bind fun v38 => some v38) (some false) else none) (some false)) (some false)).bind fun v37 => some v37) ((f25o (w64 (v30 + (1 : Int))) (v3.f3.length : Int) v23.2).bind fun v39 => cond ((v3.f3.length : Int) == (0 : Int)) ((f9 ).bind fun v40 => some v40) ((cond (v39.2.1 == (0 : Int)) (some ((v39.1.map (fun n => UInt8.ofNat n.toNat)) == (v3.f3.map (fun n => UInt8.ofNat n.toNat)))) (some false)).bind fun v41 => (cond v41 ((f19 v39.2.2).bind fun v43 => some (v43 == w64 (v31 + (1 : Int)))) (some false)).bind fun v42 => (cond v42 ((f9 ).bind fun v45 => some v45) (some false)).bind fun v44 => some v44)))

noncomputable def f5_j5 (v1 : T32) (v3 : T46) (v21 : (List Int)) (v23 : Int × T64) (v27 : Int) (v28 : Int) : Option Bool :=
 (f21o v23.2).bind fun v29 => cond (v3.f1 == (0 : Int)) ((f19 v23.2).bind fun v46 => (f19 v23.2).bind fun v47 => f5_j4 v1 v3 v21 v23 v29 (w64 ((w64 (v46 - (1 : Int))) - (v3.f3.length : Int))) (w64 (v47 - (1 : Int)))) (f5_j4 v1 v3 v21 v23 v29 v27 v28)

noncomputable def f5_j6 (v1 : T32) (v3 : T46) (v14 : List UInt8) (v15 : Int) (v16 : List Int) (v17 : Int) (v18 : Bool) (v21 : (List Int)) (v22 : Int) : Option Bool :=
 (f24o v3.f1 v3.f3 (T64.mk v14 v15 v16 v17 v18)).bind fun v23 => cond (v23.1 != (0 : Int)) (((f21o v23.2).bind fun v25 => cond ((v25.map (fun n => UInt8.ofNat n.toNat)) == (v21.map (fun n => UInt8.ofNat n.toNat))) ((f9 ).bind fun v26 => some v26) (some false)).bind fun v24 => some v24) (cond (v1.f0 == ([100, 105, 114, 101, 99, 116] : List UInt8)) (f5_j5 v1 v3 v21 v23 (w64 ((w64 (v3.f1 - (1 : Int))) * v1.f1)) (w64 (v3.f1 * v1.f1))) (f5_j5 v1 v3 v21 v23 (w64 (v3.f1 - (1 : Int))) (w64 ((w64 (v3.f1 - (1 : Int))) + (v3.f3.length : Int)))))

noncomputable def f5 (v1 : T32) (v2 : T46) (v3 : T46) : Option Bool :=
 (f15 v1 [v2, v3]).bind fun v4 => (cond v4 (some true) ((cond (!(v1.f0 == ([100, 105, 114, 101, 99, 116] : List UInt8))) (some (!(v1.f0 == ([115, 116, 114, 101, 97, 109] : List UInt8)))) (some false)).bind fun v6 => some v6)).bind fun v5 => cond v5 ((f9 ).bind fun v7 => some v7) ((f16 v1.f0 v1.f1 v1.f2).bind fun v8 => match v8 with | (none, v10) => (cond (v10 != (0 : Int)) (some true) none).bind fun v11 => cond v11 ((f9 ).bind fun v12 => some v12) none | (some v9, v10) => (cond (v10 != (0 : Int)) (some (true, v9.f0, v9.f1, v9.f2, v9.f3, v9.f4)) ((f24o v2.f1 v2.f3 v9).bind fun v19 => some ((v19.1 != (0 : Int)), v19.2.f0, v19.2.f1, v19.2.f2, v19.2.f3, v19.2.f4))).bind fun (v13, v14, v15, v16, v17, v18) => cond v13 ((f9 ).bind fun v20 => some v20) ((f21o (T64.mk v14 v15 v16 v17 v18)).bind fun v21 => cond (v1.f0 == ([115, 116, 114, 101, 97, 109] : List UInt8)) (f5_j6 v1 v3 v14 v15 v16 v17 v18 v21 (if (1 : Int) > v2.f1 then (1 : Int) else v2.f1)) (f5_j6 v1 v3 v14 v15 v16 v17 v18 v21 v2.f1)))

theorem f5_ok (v1 : T32) (v2 : T46) (v3 : T46) {r : Bool} (h : f5 v1 v2 v3 = some r) : ACall Try.prog 5 [.agg [.str v1.f0, .int .i64 v1.f1, fzL 1 (cInt .u8) v1.f2], .agg [.int .i64 v2.f0, .int .i64 v2.f1, .int .i64 v2.f2, fzL 1 (cInt .u8) v2.f3], .agg [.int .i64 v3.f0, .int .i64 v3.f1, .int .i64 v3.f2, fzL 1 (cInt .u8) v3.f3]] [] (.tv (.bool r)) [] := by
 refine ACall.of1 (FF 223 0) Try.func5 rfl Try.ntmps5 Try.results5 (Nat.le_of_ble_eq_true rfl) rfl rfl ?_
 refine AWp.seq ?_
 refine AWp.start [0, 1, 2, 3] [] [] [3, 4, 5] 3 ⟨[(3, .pc 0 0), (4, .pc 1 0), (5, .pc 2 0)], [.cells 33 [.str v1.f0, .int .i64 v1.f1, k0 v1.f2], .cells 47 [.int .i64 v2.f0, .int .i64 v2.f1, .int .i64 v2.f2, k0 v2.f3], .cells 47 [.int .i64 v3.f0, .int .i64 v3.f1, .int .i64 v3.f2, k0 v3.f3]]⟩ rfl ?_ z0 trivial ?_
 ·kernel_rfl
 refine AOps.nil ?_
 refine AWp.seq ?_
 refine AWp.seq ?_
 refine AWp.pin 0 rfl rfl ?_
 refine AWp.pin 2 rfl rfl ?_
 refine AWp.keepTo [3, 4, 5] 2 ⟨[(3, .rp [.str v1.f0, .int .i64 v1.f1, k0 v1.f2]), (4, .pc 1 0), (5, .rp [.int .i64 v3.f0, .int .i64 v3.f1, .int .i64 v3.f2, k0 v3.f3])], [.dead, .cells 47 [.int .i64 v2.f0, .int .i64 v2.f1, .int .i64 v2.f2, k0 v2.f3]]⟩ ?_ z0 ?_
 ·kernel_rfl
 refine AWp.start [0, 1, 2, 3] [4, 5, 6, 7, 8, 9, 10, 11, 12, 13, 14] [] [3, 4, 5, 19, 22] 2 ⟨[(3, .rp [.str v1.f0, .int .i64 v1.f1, k0 v1.f2]), (4, .pc 1 0), (5, .rp [.int .i64 v3.f0, .int .i64 v3.f1, .int .i64 v3.f2, k0 v3.f3]), (19, .agg [.str v1.f0, .int .i64 v1.f1, k0 v1.f2]), (22, .tv (.own 4 47 2 (newRowF [.int .i64 v2.f0, .int .i64 v2.f1, .int .i64 v2.f2, k0 v2.f3, .int .i64 v3.f0, .int .i64 v3.f1, .int .i64 v3.f2, k0 v3.f3] 4)))], [.dead, .cells 47 [.int .i64 v2.f0, .int .i64 v2.f1, .int .i64 v2.f2, k0 v2.f3]]⟩ rfl ?_ z0 trivial ?_
 ·kernel_rfl
 refine AOps.extL 22 c46 [v2, v3] rfl rfl (row_at c46 4 (fun _ => rfl) [v2, v3] _ rfl) ?_
 refine AOps.freezeL 22 c46 [v2, v3] rfl (fun _ => rfl) ?_
 obtain ⟨v4, hv4, h⟩ := of_bind h
 refine AOps.cons (AOne.callP (F := (FF 223 0)) _ rfl rfl rfl _ rfl rfl _ _ rfl Try.call15 [.agg [.str v1.f0, .int .i64 v1.f1, k0 v1.f2], .tv (fzL 4 c46 [v2, v3])] rfl rfl (f15_ok v1 [v2, v3] hv4) rfl) ?_
 refine AOps.go [5] [6, 7, 8, 9, 10, 11, 12, 13, 14] [] [3, 4, 5, 24] 2 ⟨[(3, .rp [.str v1.f0, .int .i64 v1.f1, k0 v1.f2]), (4, .pc 1 0), (5, .rp [.int .i64 v3.f0, .int .i64 v3.f1, .int .i64 v3.f2, k0 v3.f3]), (24, tB v4)], [.dead, .cells 47 [.int .i64 v2.f0, .int .i64 v2.f1, .int .i64 v2.f2, k0 v2.f3]]⟩ ?_ z0 trivial ?_
 ·kernel_rfl
 obtain ⟨v5, hc6, h⟩ := of_bind h
 refine AOps.cut [6, 7, 8, 9, 10, 11, 12, 13, 14] [] (fun σ => σ = ⟨[(3, .rp [.str v1.f0, .int .i64 v1.f1, k0 v1.f2]), (4, .pc 1 0), (5, .rp [.int .i64 v3.f0, .int .i64 v3.f1, .int .i64 v3.f2, k0 v3.f3]), (33, tB v5)], [.dead, .cells 47 [.int .i64 v2.f0, .int .i64 v2.f1, .int .i64 v2.f2, k0 v2.f3]]⟩) ?_ fun σ' hJ => ?_
 ·refine AOps.split (fun b => ⟨[(3, .rp [.str v1.f0, .int .i64 v1.f1, k0 v1.f2]), (4, .pc 1 0), (5, .rp [.int .i64 v3.f0, .int .i64 v3.f1, .int .i64 v3.f2, k0 v3.f3]), (24, tB b)], [.dead, .cells 47 [.int .i64 v2.f0, .int .i64 v2.f1, .int .i64 v2.f2, k0 v2.f3]]⟩) _ (fun hb => ?_) fun hb => ?_
  ·replace hc6 := of_true hc6 hb
   refine AOps.go [6, 7, 8, 9, 10, 11, 12, 13, 14] [] [] [3, 4, 5, 33] 2 ⟨[(3, .rp [.str v1.f0, .int .i64 v1.f1, k0 v1.f2]), (4, .pc 1 0), (5, .rp [.int .i64 v3.f0, .int .i64 v3.f1, .int .i64 v3.f2, k0 v3.f3]), (33, tB true)], [.dead, .cells 47 [.int .i64 v2.f0, .int .i64 v2.f1, .int .i64 v2.f2, k0 v2.f3]]⟩ ?_ z0 trivial ?_
   ·kernel_rfl
   cases hc6
   exact AOps.nil rfl
  ·replace hc6 := of_false hc6 hb
   refine AOps.go [6, 7, 8, 9] [10, 11, 12, 13, 14] [] [3, 4, 5, 24, 28] 2 ⟨[(3, .rp [.str v1.f0, .int .i64 v1.f1, k0 v1.f2]), (4, .pc 1 0), (5, .rp [.int .i64 v3.f0, .int .i64 v3.f1, .int .i64 v3.f2, k0 v3.f3]), (24, tB false), (28, tB (!(v1.f0 == ([100, 105, 114, 101, 99, 116] : List UInt8))))], [.dead, .cells 47 [.int .i64 v2.f0, .int .i64 v2.f1, .int .i64 v2.f2, k0 v2.f3]]⟩ ?_ z0 trivial ?_
   ·kernel_rfl
   obtain ⟨v6, hc10, hc6⟩ := of_bind hc6
   refine AOps.cut [10, 11, 12, 13] [14] (fun σ => σ = ⟨[(3, .rp [.str v1.f0, .int .i64 v1.f1, k0 v1.f2]), (4, .pc 1 0), (5, .rp [.int .i64 v3.f0, .int .i64 v3.f1, .int .i64 v3.f2, k0 v3.f3]), (24, tB false), (32, tB v6)], [.dead, .cells 47 [.int .i64 v2.f0, .int .i64 v2.f1, .int .i64 v2.f2, k0 v2.f3]]⟩) ?_ fun σ' hJ => ?_
   ·refine AOps.split (fun b => ⟨[(3, .rp [.str v1.f0, .int .i64 v1.f1, k0 v1.f2]), (4, .pc 1 0), (5, .rp [.int .i64 v3.f0, .int .i64 v3.f1, .int .i64 v3.f2, k0 v3.f3]), (24, tB false), (28, tB b)], [.dead, .cells 47 [.int .i64 v2.f0, .int .i64 v2.f1, .int .i64 v2.f2, k0 v2.f3]]⟩) _ (fun hb => ?_) fun hb => ?_
    ·replace hc10 := of_true hc10 hb
     refine AOps.go [10, 11, 12, 13] [] [] [3, 4, 5, 24, 32] 2 ⟨[(3, .rp [.str v1.f0, .int .i64 v1.f1, k0 v1.f2]), (4, .pc 1 0), (5, .rp [.int .i64 v3.f0, .int .i64 v3.f1, .int .i64 v3.f2, k0 v3.f3]), (24, tB false), (32, tB (!(v1.f0 == ([115, 116, 114, 101, 97, 109] : List UInt8))))], [.dead, .cells 47 [.int .i64 v2.f0, .int .i64 v2.f1, .int .i64 v2.f2, k0 v2.f3]]⟩ ?_ z0 trivial ?_
     ·kernel_rfl
     cases hc10
     exact AOps.nil rfl
    ·replace hc10 := of_false hc10 hb
     refine AOps.go [10, 11, 12, 13] [] [] [3, 4, 5, 24, 32] 2 ⟨[(3, .rp [.str v1.f0, .int .i64 v1.f1, k0 v1.f2]), (4, .pc 1 0), (5, .rp [.int .i64 v3.f0, .int .i64 v3.f1, .int .i64 v3.f2, k0 v3.f3]), (24, tB false), (32, tB false)], [.dead, .cells 47 [.int .i64 v2.f0, .int .i64 v2.f1, .int .i64 v2.f2, k0 v2.f3]]⟩ ?_ z0 trivial ?_
     ·kernel_rfl
     cases hc10
     exact AOps.nil rfl
   subst hJ
   refine AOps.go [14] [] [] [3, 4, 5, 33] 2 ⟨[(3, .rp [.str v1.f0, .int .i64 v1.f1, k0 v1.f2]), (4, .pc 1 0), (5, .rp [.int .i64 v3.f0, .int .i64 v3.f1, .int .i64 v3.f2, k0 v3.f3]), (33, tB v6)], [.dead, .cells 47 [.int .i64 v2.f0, .int .i64 v2.f1, .int .i64 v2.f2, k0 v2.f3]]⟩ ?_ z0 trivial ?_
   ·kernel_rfl
   cases hc6
   exact AOps.nil rfl
 subst hJ
 refine AOps.nil ?_
 refine AWp.cond rfl (fun hb => ?_) fun hb => ?_
 ·replace h := of_true h hb
  refine AWp.keepTo [] 0 ⟨[], []⟩ ?_ z0 ?_
  ·kernel_rfl
  refine AWp.seq ?_
  refine AWp.start [] [0, 1] [] [] 0 ⟨[], []⟩ rfl ?_ z0 trivial ?_
  ·kernel_rfl
  obtain ⟨v7, hv7, h⟩ := of_bind h
  refine AOps.cons (AOne.callP (F := (FF 223 0)) _ rfl rfl rfl _ rfl rfl _ _ rfl Try.call9 [] rfl rfl (f9_ok  hv7) rfl) ?_
  refine AOps.go [1] [] [] [6] 0 ⟨[(6, tB v7)], []⟩ ?_ z0 trivial ?_
  ·kernel_rfl
  refine AOps.nil ?_
  refine AWp.ret ?_
  cases h
  exact ⟨.inr rfl, rfl⟩
 ·replace h := of_false h hb
  refine AWp.keepTo [3, 4, 5] 2 ⟨[(3, .rp [.str v1.f0, .int .i64 v1.f1, k0 v1.f2]), (4, .pc 1 0), (5, .rp [.int .i64 v3.f0, .int .i64 v3.f1, .int .i64 v3.f2, k0 v3.f3])], [.dead, .cells 47 [.int .i64 v2.f0, .int .i64 v2.f1, .int .i64 v2.f2, k0 v2.f3]]⟩ ?_ z0 ?_
  ·kernel_rfl
  refine AWp.skip ?_
  refine AWp.seq ?_
  refine AWp.start [0, 1, 2, 3, 4, 5] [6, 7, 8, 9, 10, 11] [] [3, 4, 5, 37, 39, 41] 2 ⟨[(3, .rp [.str v1.f0, .int .i64 v1.f1, k0 v1.f2]), (4, .pc 1 0), (5, .rp [.int .i64 v3.f0, .int .i64 v3.f1, .int .i64 v3.f2, k0 v3.f3]), (37, tS v1.f0), (39, tI v1.f1), (41, q0 v1.f2)], [.dead, .cells 47 [.int .i64 v2.f0, .int .i64 v2.f1, .int .i64 v2.f2, k0 v2.f3]]⟩ rfl ?_ z0 trivial ?_
  ·kernel_rfl
  obtain ⟨v8, hv8, h⟩ := of_bind h
  rcases v8 with ⟨(_ | v9), v10⟩
  ·replace h : ((cond (v10 != (0 : Int)) (some true) none).bind fun v11 => cond v11 ((f9 ).bind fun v12 => some v12) none) = some r := h
   refine AOps.cons (AOne.callO (F := (FF 223 0)) _ rfl rfl rfl 42 rfl rfl 16 [] rfl Try.call16 [] (by decide) [tS v1.f0, tI v1.f1, q0 v1.f2] (by kernel_rfl) [] (by kernel_rfl) (f16_ok v1.f0 v1.f1 v1.f2 hv8) (by kernel_rfl) (by kernel_rfl) _ rfl) ?_
   refine AOps.go [7, 8, 9, 10, 11] [] [] [3, 4, 5, 7, 8] 2 ⟨[(3, .rp [.str v1.f0, .int .i64 v1.f1, k0 v1.f2]), (4, .pc 1 0), (5, .rp [.int .i64 v3.f0, .int .i64 v3.f1, .int .i64 v3.f2, k0 v3.f3]), (7, .tv (.sc (.pointer none))), (8, tI v10)], [.dead, .cells 47 [.int .i64 v2.f0, .int .i64 v2.f1, .int .i64 v2.f2, k0 v2.f3]]⟩ ?_ z0 trivial ?_
   ·kernel_rfl
   refine AOps.nil ?_
   refine AWp.seq ?_
   refine AWp.seq ?_
   refine AWp.start [0, 1, 2] [3, 4, 5, 6, 7, 8, 9, 10] [] [3, 4, 5, 7, 47] 2 ⟨[(3, .rp [.str v1.f0, .int .i64 v1.f1, k0 v1.f2]), (4, .pc 1 0), (5, .rp [.int .i64 v3.f0, .int .i64 v3.f1, .int .i64 v3.f2, k0 v3.f3]), (7, .tv (.sc (.pointer none))), (47, tB (v10 != (0 : Int)))], [.dead, .cells 47 [.int .i64 v2.f0, .int .i64 v2.f1, .int .i64 v2.f2, k0 v2.f3]]⟩ rfl ?_ z0 trivial ?_
   ·kernel_rfl
   obtain ⟨v11, hc3, h⟩ := of_bind h
   refine AOps.cut [3, 4, 5, 6, 7, 8, 9, 10] [] (fun σ => σ = ⟨[(3, .rp [.str v1.f0, .int .i64 v1.f1, k0 v1.f2]), (4, .pc 1 0), (5, .rp [.int .i64 v3.f0, .int .i64 v3.f1, .int .i64 v3.f2, k0 v3.f3]), (7, .tv (.sc (.pointer none))), (55, tB v11)], [.dead, .cells 47 [.int .i64 v2.f0, .int .i64 v2.f1, .int .i64 v2.f2, k0 v2.f3]]⟩) ?_ fun σ' hJ => ?_
   ·refine AOps.split (fun b => ⟨[(3, .rp [.str v1.f0, .int .i64 v1.f1, k0 v1.f2]), (4, .pc 1 0), (5, .rp [.int .i64 v3.f0, .int .i64 v3.f1, .int .i64 v3.f2, k0 v3.f3]), (7, .tv (.sc (.pointer none))), (47, tB b)], [.dead, .cells 47 [.int .i64 v2.f0, .int .i64 v2.f1, .int .i64 v2.f2, k0 v2.f3]]⟩) _ (fun hb => ?_) fun hb => ?_
    ·replace hc3 := of_true hc3 hb
     refine AOps.go [3, 4, 5, 6, 7, 8, 9, 10] [] [] [3, 4, 5, 7, 55] 2 ⟨[(3, .rp [.str v1.f0, .int .i64 v1.f1, k0 v1.f2]), (4, .pc 1 0), (5, .rp [.int .i64 v3.f0, .int .i64 v3.f1, .int .i64 v3.f2, k0 v3.f3]), (7, .tv (.sc (.pointer none))), (55, tB true)], [.dead, .cells 47 [.int .i64 v2.f0, .int .i64 v2.f1, .int .i64 v2.f2, k0 v2.f3]]⟩ ?_ z0 trivial ?_
     ·kernel_rfl
     cases hc3
     exact AOps.nil rfl
    ·replace hc3 := of_false hc3 hb
     cases hc3
   subst hJ
   refine AOps.nil ?_
   refine AWp.cond rfl (fun hb => ?_) fun hb => ?_
   ·replace h := of_true h hb
    refine AWp.keepTo [] 0 ⟨[], []⟩ ?_ z0 ?_
    ·kernel_rfl
    refine AWp.seq ?_
    refine AWp.start [] [0, 1] [] [] 0 ⟨[], []⟩ rfl ?_ z0 trivial ?_
    ·kernel_rfl
    obtain ⟨v12, hv12, h⟩ := of_bind h
    refine AOps.cons (AOne.callP (F := (FF 223 0)) _ rfl rfl rfl _ rfl rfl _ _ rfl Try.call9 [] rfl rfl (f9_ok  hv12) rfl) ?_
    refine AOps.go [1] [] [] [6] 0 ⟨[(6, tB v12)], []⟩ ?_ z0 trivial ?_
    ·kernel_rfl
    refine AOps.nil ?_
    refine AWp.ret ?_
    cases h
    exact ⟨.inr rfl, rfl⟩
   ·replace h := of_false h hb
    refine AWp.keepTo [3, 4, 5, 7] 2 ⟨[(3, .rp [.str v1.f0, .int .i64 v1.f1, k0 v1.f2]), (4, .pc 1 0), (5, .rp [.int .i64 v3.f0, .int .i64 v3.f1, .int .i64 v3.f2, k0 v3.f3]), (7, .tv (.sc (.pointer none)))], [.dead, .cells 47 [.int .i64 v2.f0, .int .i64 v2.f1, .int .i64 v2.f2, k0 v2.f3]]⟩ ?_ z0 ?_
    ·kernel_rfl
    refine AWp.skip ?_
    refine AWp.seq ?_
    cases h
  ·replace h : ((cond (v10 != (0 : Int)) (some (true, v9.f0, v9.f1, v9.f2, v9.f3, v9.f4)) ((f24o v2.f1 v2.f3 v9).bind fun v19 => some ((v19.1 != (0 : Int)), v19.2.f0, v19.2.f1, v19.2.f2, v19.2.f3, v19.2.f4))).bind fun (v13, v14, v15, v16, v17, v18) => cond v13 ((f9 ).bind fun v20 => some v20) ((f21o (T64.mk v14 v15 v16 v17 v18)).bind fun v21 => cond (v1.f0 == ([115, 116, 114, 101, 97, 109] : List UInt8)) (f5_j6 v1 v3 v14 v15 v16 v17 v18 v21 (if (1 : Int) > v2.f1 then (1 : Int) else v2.f1)) (f5_j6 v1 v3 v14 v15 v16 v17 v18 v21 v2.f1))) = some r := h
   refine AOps.cons (AOne.callO (F := (FF 223 0)) _ rfl rfl rfl 42 rfl rfl 16 [] rfl Try.call16 [] (by decide) [tS v1.f0, tI v1.f1, q0 v1.f2] (by kernel_rfl) [] (by kernel_rfl) (f16_ok v1.f0 v1.f1 v1.f2 hv8) (by kernel_rfl) (by kernel_rfl) _ rfl) ?_
   refine AOps.go [7, 8, 9, 10, 11] [] [] [3, 4, 5, 7, 8] 3 ⟨[(3, .rp [.str v1.f0, .int .i64 v1.f1, k0 v1.f2]), (4, .pc 1 0), (5, .rp [.int .i64 v3.f0, .int .i64 v3.f1, .int .i64 v3.f2, k0 v3.f3]), (7, .pc 2 0), (8, tI v10)], [.dead, .cells 47 [.int .i64 v2.f0, .int .i64 v2.f1, .int .i64 v2.f2, k0 v2.f3], .cells 65 [.str v9.f0, .int .i64 v9.f1, k0 v9.f2, .int .i64 v9.f3, .bool v9.f4]]⟩ ?_ z0 trivial ?_
   ·kernel_rfl
   refine AOps.nil ?_
   refine AWp.seq ?_
   refine AWp.seq ?_
   refine AWp.start [0, 1, 2] [3, 4, 5, 6, 7, 8, 9, 10] [] [3, 4, 5, 7, 47] 3 ⟨[(3, .rp [.str v1.f0, .int .i64 v1.f1, k0 v1.f2]), (4, .pc 1 0), (5, .rp [.int .i64 v3.f0, .int .i64 v3.f1, .int .i64 v3.f2, k0 v3.f3]), (7, .pc 2 0), (47, tB (v10 != (0 : Int)))], [.dead, .cells 47 [.int .i64 v2.f0, .int .i64 v2.f1, .int .i64 v2.f2, k0 v2.f3], .cells 65 [.str v9.f0, .int .i64 v9.f1, k0 v9.f2, .int .i64 v9.f3, .bool v9.f4]]⟩ rfl ?_ z0 trivial ?_
   ·kernel_rfl
   obtain ⟨⟨v13, v14, v15, v16, v17, v18⟩, hc3, h⟩ := of_bind h
   refine AOps.cut [3, 4, 5, 6, 7, 8, 9, 10] [] (fun σ => σ = ⟨[(3, .rp [.str v1.f0, .int .i64 v1.f1, k0 v1.f2]), (4, .pc 1 0), (5, .rp [.int .i64 v3.f0, .int .i64 v3.f1, .int .i64 v3.f2, k0 v3.f3]), (7, .pc 2 0), (55, tB v13)], [.dead, .cells 47 [.int .i64 v2.f0, .int .i64 v2.f1, .int .i64 v2.f2, k0 v2.f3], .cells 65 [.str v14, .int .i64 v15, k0 v16, .int .i64 v17, .bool v18]]⟩) ?_ fun σ' hJ => ?_
   ·refine AOps.split (fun b => ⟨[(3, .rp [.str v1.f0, .int .i64 v1.f1, k0 v1.f2]), (4, .pc 1 0), (5, .rp [.int .i64 v3.f0, .int .i64 v3.f1, .int .i64 v3.f2, k0 v3.f3]), (7, .pc 2 0), (47, tB b)], [.dead, .cells 47 [.int .i64 v2.f0, .int .i64 v2.f1, .int .i64 v2.f2, k0 v2.f3], .cells 65 [.str v9.f0, .int .i64 v9.f1, k0 v9.f2, .int .i64 v9.f3, .bool v9.f4]]⟩) _ (fun hb => ?_) fun hb => ?_
    ·replace hc3 := of_true hc3 hb
     refine AOps.go [3, 4, 5, 6, 7, 8, 9, 10] [] [] [3, 4, 5, 7, 55] 3 ⟨[(3, .rp [.str v1.f0, .int .i64 v1.f1, k0 v1.f2]), (4, .pc 1 0), (5, .rp [.int .i64 v3.f0, .int .i64 v3.f1, .int .i64 v3.f2, k0 v3.f3]), (7, .pc 2 0), (55, tB true)], [.dead, .cells 47 [.int .i64 v2.f0, .int .i64 v2.f1, .int .i64 v2.f2, k0 v2.f3], .cells 65 [.str v9.f0, .int .i64 v9.f1, k0 v9.f2, .int .i64 v9.f3, .bool v9.f4]]⟩ ?_ z0 trivial ?_
     ·kernel_rfl
     cases hc3
     exact AOps.nil rfl
    ·replace hc3 := of_false hc3 hb
     refine AOps.go [3, 4, 5, 6, 7] [8, 9, 10] [] [3, 4, 5, 7, 47, 48, 50, 52] 3 ⟨[(3, .rp [.str v1.f0, .int .i64 v1.f1, k0 v1.f2]), (4, .pc 1 0), (5, .rp [.int .i64 v3.f0, .int .i64 v3.f1, .int .i64 v3.f2, k0 v3.f3]), (7, .pc 2 0), (47, tB false), (48, .pc 2 0), (50, tI v2.f1), (52, q0 v2.f3)], [.dead, .cells 47 [.int .i64 v2.f0, .int .i64 v2.f1, .int .i64 v2.f2, k0 v2.f3], .cells 65 [.str v9.f0, .int .i64 v9.f1, k0 v9.f2, .int .i64 v9.f3, .bool v9.f4]]⟩ ?_ z0 trivial ?_
     ·kernel_rfl
     obtain ⟨v19, hv19, hc3⟩ := of_bind hc3
     refine AOps.cons (AOne.callO (F := (FF 223 0)) _ rfl rfl rfl 53 rfl rfl 24 [] rfl Try.call24 [2] (by decide) [.pc 0 0, tI v2.f1, q0 v2.f3] (by kernel_rfl) [.cells 65 [.str v9.f0, .int .i64 v9.f1, k0 v9.f2, .int .i64 v9.f3, .bool v9.f4]] (by kernel_rfl) (f24o_ok v2.f1 v2.f3 v9 hv19) (by kernel_rfl) (by kernel_rfl) _ rfl) ?_
     refine AOps.go [9, 10] [] [] [3, 4, 5, 7, 55] 3 ⟨[(3, .rp [.str v1.f0, .int .i64 v1.f1, k0 v1.f2]), (4, .pc 1 0), (5, .rp [.int .i64 v3.f0, .int .i64 v3.f1, .int .i64 v3.f2, k0 v3.f3]), (7, .pc 2 0), (55, tB (v19.1 != (0 : Int)))], [.dead, .cells 47 [.int .i64 v2.f0, .int .i64 v2.f1, .int .i64 v2.f2, k0 v2.f3], .cells 65 [.str v19.2.f0, .int .i64 v19.2.f1, k0 v19.2.f2, .int .i64 v19.2.f3, .bool v19.2.f4]]⟩ ?_ z0 trivial ?_
     ·kernel_rfl
     cases hc3
     exact AOps.nil rfl
   subst hJ
   refine AOps.nil ?_
   refine AWp.cond rfl (fun hb => ?_) fun hb => ?_
   ·replace h := of_true h hb
    refine AWp.keepTo [] 0 ⟨[], []⟩ ?_ z0 ?_
    ·kernel_rfl
    refine AWp.seq ?_
    refine AWp.start [] [0, 1] [] [] 0 ⟨[], []⟩ rfl ?_ z0 trivial ?_
    ·kernel_rfl
    obtain ⟨v20, hv20, h⟩ := of_bind h
    refine AOps.cons (AOne.callP (F := (FF 223 0)) _ rfl rfl rfl _ rfl rfl _ _ rfl Try.call9 [] rfl rfl (f9_ok  hv20) rfl) ?_
    refine AOps.go [1] [] [] [6] 0 ⟨[(6, tB v20)], []⟩ ?_ z0 trivial ?_
    ·kernel_rfl
    refine AOps.nil ?_
    refine AWp.ret ?_
    cases h
    exact ⟨.inr rfl, rfl⟩
   ·replace h := of_false h hb
    refine AWp.keepTo [3, 4, 5, 7] 3 ⟨[(3, .rp [.str v1.f0, .int .i64 v1.f1, k0 v1.f2]), (4, .pc 1 0), (5, .rp [.int .i64 v3.f0, .int .i64 v3.f1, .int .i64 v3.f2, k0 v3.f3]), (7, .pc 2 0)], [.dead, .cells 47 [.int .i64 v2.f0, .int .i64 v2.f1, .int .i64 v2.f2, k0 v2.f3], .cells 65 [.str v14, .int .i64 v15, k0 v16, .int .i64 v17, .bool v18]]⟩ ?_ z0 ?_
    ·kernel_rfl
    refine AWp.skip ?_
    refine AWp.seq ?_
    refine AWp.start [0] [1, 2] [] [3, 4, 5, 7, 57] 3 ⟨[(3, .rp [.str v1.f0, .int .i64 v1.f1, k0 v1.f2]), (4, .pc 1 0), (5, .rp [.int .i64 v3.f0, .int .i64 v3.f1, .int .i64 v3.f2, k0 v3.f3]), (7, .pc 2 0), (57, .pc 2 0)], [.dead, .cells 47 [.int .i64 v2.f0, .int .i64 v2.f1, .int .i64 v2.f2, k0 v2.f3], .cells 65 [.str v14, .int .i64 v15, k0 v16, .int .i64 v17, .bool v18]]⟩ rfl ?_ z0 trivial ?_
    ·kernel_rfl
    obtain ⟨v21, hv21, h⟩ := of_bind h
    refine AOps.cons (AOne.callO (F := (FF 223 0)) _ rfl rfl rfl 58 rfl rfl 21 [] rfl Try.call21 [2] (by decide) [.pc 0 0] (by kernel_rfl) [.cells 65 [.str v14, .int .i64 v15, k0 v16, .int .i64 v17, .bool v18]] (by kernel_rfl) (f21o_ok (T64.mk v14 v15 v16 v17 v18) hv21) (by kernel_rfl) (by kernel_rfl) _ rfl) ?_
    refine AOps.go [2] [] [] [3, 4, 5, 7, 9] 3 ⟨[(3, .rp [.str v1.f0, .int .i64 v1.f1, k0 v1.f2]), (4, .pc 1 0), (5, .rp [.int .i64 v3.f0, .int .i64 v3.f1, .int .i64 v3.f2, k0 v3.f3]), (7, .pc 2 0), (9, q1 v21)], [.dead, .cells 47 [.int .i64 v2.f0, .int .i64 v2.f1, .int .i64 v2.f2, k0 v2.f3], .cells 65 [.str v14, .int .i64 v15, k0 v16, .int .i64 v17, .bool v18]]⟩ ?_ z0 trivial ?_
    ·kernel_rfl
    refine AOps.nil ?_
    refine AWp.join (V := Int) (fun w => ⟨[(3, .rp [.str v1.f0, .int .i64 v1.f1, k0 v1.f2]), (5, .rp [.int .i64 v3.f0, .int .i64 v3.f1, .int .i64 v3.f2, k0 v3.f3]), (7, .pc 2 0), (9, q1 v21)], [.dead, .cells 47 [.int .i64 v2.f0, .int .i64 w, .int .i64 v2.f2, k0 v2.f3], .cells 65 [.str v14, .int .i64 v15, k0 v16, .int .i64 v17, .bool v18]]⟩) (fun w => f5_j6 v1 v3 v14 v15 v16 v17 v18 v21 w = some r) ?_ ?_
    ·refine AWp.seq ?_
     refine AWp.start [0, 1, 2] [] [] [3, 4, 5, 7, 9, 61] 3 ⟨[(3, .rp [.str v1.f0, .int .i64 v1.f1, k0 v1.f2]), (4, .pc 1 0), (5, .rp [.int .i64 v3.f0, .int .i64 v3.f1, .int .i64 v3.f2, k0 v3.f3]), (7, .pc 2 0), (9, q1 v21), (61, tB (v1.f0 == ([115, 116, 114, 101, 97, 109] : List UInt8)))], [.dead, .cells 47 [.int .i64 v2.f0, .int .i64 v2.f1, .int .i64 v2.f2, k0 v2.f3], .cells 65 [.str v14, .int .i64 v15, k0 v16, .int .i64 v17, .bool v18]]⟩ rfl ?_ z0 trivial ?_
     ·kernel_rfl
     refine AOps.nil ?_
     refine AWp.cond rfl (fun hb => ?_) fun hb => ?_
     ·replace h := of_true h hb
      refine AWp.keepTo [3, 4, 5, 7, 9] 3 ⟨[(3, .rp [.str v1.f0, .int .i64 v1.f1, k0 v1.f2]), (4, .pc 1 0), (5, .rp [.int .i64 v3.f0, .int .i64 v3.f1, .int .i64 v3.f2, k0 v3.f3]), (7, .pc 2 0), (9, q1 v21)], [.dead, .cells 47 [.int .i64 v2.f0, .int .i64 v2.f1, .int .i64 v2.f2, k0 v2.f3], .cells 65 [.str v14, .int .i64 v15, k0 v16, .int .i64 v17, .bool v18]]⟩ ?_ z0 ?_
      ·kernel_rfl
      refine AWp.start [0, 1, 2, 3, 4] [] [] [3, 5, 7, 9] 3 ⟨[(3, .rp [.str v1.f0, .int .i64 v1.f1, k0 v1.f2]), (5, .rp [.int .i64 v3.f0, .int .i64 v3.f1, .int .i64 v3.f2, k0 v3.f3]), (7, .pc 2 0), (9, q1 v21)], [.dead, .cells 47 [.int .i64 v2.f0, .int .i64 (if (1 : Int) > v2.f1 then (1 : Int) else v2.f1), .int .i64 v2.f2, k0 v2.f3], .cells 65 [.str v14, .int .i64 v15, k0 v16, .int .i64 v17, .bool v18]]⟩ rfl ?_ z0 trivial ?_
      ·kernel_rfl
      refine AOps.nil ?_
      exact ⟨(if (1 : Int) > v2.f1 then (1 : Int) else v2.f1), h, rfl⟩
     ·replace h := of_false h hb
      refine AWp.keepTo [3, 5, 7, 9] 3 ⟨[(3, .rp [.str v1.f0, .int .i64 v1.f1, k0 v1.f2]), (5, .rp [.int .i64 v3.f0, .int .i64 v3.f1, .int .i64 v3.f2, k0 v3.f3]), (7, .pc 2 0), (9, q1 v21)], [.dead, .cells 47 [.int .i64 v2.f0, .int .i64 v2.f1, .int .i64 v2.f2, k0 v2.f3], .cells 65 [.str v14, .int .i64 v15, k0 v16, .int .i64 v17, .bool v18]]⟩ ?_ z0 ?_
      ·kernel_rfl
      refine AWp.skip ?_
      exact ⟨v2.f1, h, rfl⟩
    ·rintro v22 h
     refine AWp.seq ?_
     refine AWp.seq ?_
     refine AWp.pin 1 rfl rfl ?_
     refine AWp.keepTo [3, 5, 7, 9] 3 ⟨[(3, .rp [.str v1.f0, .int .i64 v1.f1, k0 v1.f2]), (5, .rp [.int .i64 v3.f0, .int .i64 v3.f1, .int .i64 v3.f2, k0 v3.f3]), (7, .pc 2 0), (9, q1 v21)], [.dead, .dead, .cells 65 [.str v14, .int .i64 v15, k0 v16, .int .i64 v17, .bool v18]]⟩ ?_ z0 ?_
     ·kernel_rfl
     refine AWp.start [0, 1, 2, 3, 4] [5, 6] [] [3, 5, 7, 9, 66, 68, 70] 3 ⟨[(3, .rp [.str v1.f0, .int .i64 v1.f1, k0 v1.f2]), (5, .rp [.int .i64 v3.f0, .int .i64 v3.f1, .int .i64 v3.f2, k0 v3.f3]), (7, .pc 2 0), (9, q1 v21), (66, .pc 2 0), (68, tI v3.f1), (70, q0 v3.f3)], [.dead, .dead, .cells 65 [.str v14, .int .i64 v15, k0 v16, .int .i64 v17, .bool v18]]⟩ rfl ?_ z0 trivial ?_
     ·kernel_rfl
     obtain ⟨v23, hv23, h⟩ := of_bind h
     refine AOps.cons (AOne.callO (F := (FF 223 0)) _ rfl rfl rfl 71 rfl rfl 24 [] rfl Try.call24 [2] (by decide) [.pc 0 0, tI v3.f1, q0 v3.f3] (by kernel_rfl) [.cells 65 [.str v14, .int .i64 v15, k0 v16, .int .i64 v17, .bool v18]] (by kernel_rfl) (f24o_ok v3.f1 v3.f3 (T64.mk v14 v15 v16 v17 v18) hv23) (by kernel_rfl) (by kernel_rfl) _ rfl) ?_
     refine AOps.go [6] [] [] [3, 5, 7, 9, 72] 3 ⟨[(3, .rp [.str v1.f0, .int .i64 v1.f1, k0 v1.f2]), (5, .rp [.int .i64 v3.f0, .int .i64 v3.f1, .int .i64 v3.f2, k0 v3.f3]), (7, .pc 2 0), (9, q1 v21), (72, tB (v23.1 != (0 : Int)))], [.dead, .dead, .cells 65 [.str v23.2.f0, .int .i64 v23.2.f1, k0 v23.2.f2, .int .i64 v23.2.f3, .bool v23.2.f4]]⟩ ?_ z0 trivial ?_
     ·kernel_rfl
     refine AOps.nil ?_
     refine AWp.cond rfl (fun hb => ?_) fun hb => ?_
     ·replace h := of_true h hb
      refine AWp.keepTo [7, 9] 3 ⟨[(7, .pc 2 0), (9, q1 v21)], [.dead, .dead, .cells 65 [.str v23.2.f0, .int .i64 v23.2.f1, k0 v23.2.f2, .int .i64 v23.2.f3, .bool v23.2.f4]]⟩ ?_ z0 ?_
      ·kernel_rfl
      refine AWp.seq ?_
      obtain ⟨v24, hd, h⟩ := of_bind h
      refine AWp.draw FFm (fun σ => σ = ⟨[(6, tB v24)], []⟩) (n := 10) rfl (ls := #[n1, n1, n1, n1, n1, n1, n1, n1, n1, n1]) rfl ?_ ?_
      ·refine AAny.go (by kernel_rfl) [0, 3] (fuel' := 8) rfl [] #[y1, n1, n1, y1, n1, n1, n1, n1, n1, n1] [9, 73, 76] 3 ⟨[(9, q1 v21), (73, .pc 2 0), (76, .al (.slot 9 0, []))], [.dead, .dead, .cells 65 [.str v23.2.f0, .int .i64 v23.2.f1, k0 v23.2.f2, .int .i64 v23.2.f3, .bool v23.2.f4]]⟩ ?_ z0 trivial ?_
       ·kernel_rfl
       obtain ⟨v25, hv25, hd⟩ := of_bind hd
       refine AAny.share 3 #[y1, y1, y1, y1, y1, y1, y1, n1, n1, n1] ⟨[(79, tB ((v25.map (fun n => UInt8.ofNat n.toNat)) == (v21.map (fun n => UInt8.ofNat n.toNat))))], []⟩ ?_ fun n4_ => ?_
       ·refine AAny.split (fun b => ⟨[(79, tB b)], []⟩) _ (fun hb => ?_) fun hb => ?_
        ·replace hd := of_true hd hb
         obtain ⟨v26, hv26, hd⟩ := of_bind hd
         refine AAny.serial (i := 7) (fuel := 2) (by kernel_rfl) (AOne.callP (F := (FF 223 0)) _ rfl rfl rfl _ rfl rfl _ _ rfl Try.call9 [] rfl rfl (f9_ok  hv26) rfl) ?_
         refine AAny.keepTo [79, 80] 0 ⟨[(79, tB true), (80, tB v26)], []⟩ #[y1, y1, y1, y1, y1, y1, y1, y1, n1, n1] ?_ rfl z0 ?_
         ·kernel_rfl
         refine AAny.go (by kernel_rfl) [8, 9] (fuel' := 0) rfl [] #[y1, y1, y1, y1, y1, y1, y1, y1, y1, y1] [6] 0 ⟨[(6, tB v26)], []⟩ ?_ z0 trivial ?_
         ·kernel_rfl
         refine AAny.keepTo [6] 0 ⟨[(6, tB v26)], []⟩ _ ?_ rfl z0 (AAny.done (by kernel_rfl) ?_)
         ·kernel_rfl
         cases hd
         exact rfl
        ·replace hd := of_false hd hb
         refine AAny.go (by kernel_rfl) [7, 8, 9] (fuel' := 0) rfl [] #[y1, y1, y1, y1, y1, y1, y1, y1, y1, y1] [6] 0 ⟨[(6, tB false)], []⟩ ?_ z0 trivial ?_
         ·kernel_rfl
         refine AAny.keepTo [6] 0 ⟨[(6, tB false)], []⟩ _ ?_ rfl z0 (AAny.done (by kernel_rfl) ?_)
         ·kernel_rfl
         cases hd
         exact rfl
       refine AAny.share 6 #[y1, y1, n1, y1, y1, n1, n1, n1, n1, n1] ⟨[(74, q1 v25), (77, tS (v21.map (fun n => UInt8.ofNat n.toNat)))], []⟩ ?_ fun n3_ => ?_
       ·refine AAny.each [2] (by kernel_rfl) rfl ?_
        refine AEach.one (i := 2) (AOne.str (F := (FF 223 0)) _ rfl rfl rfl _ rfl rfl rfl rfl rfl (n := v25.length) (f := (fun i => (cInt .u8) (v25.getD i default))) rfl v25 rfl (fun _ _ => rfl)) ?_ ?_
        ·refine AAny.keepTo [75, 77] 0 ⟨[(75, tS (v25.map (fun n => UInt8.ofNat n.toNat))), (77, tS (v21.map (fun n => UInt8.ofNat n.toNat)))], []⟩ #[y1, y1, y1, y1, y1, n1, n1, n1, n1, n1] ?_ rfl z0 ?_
         ·kernel_rfl
         refine AAny.go (by kernel_rfl) [5, 6] (fuel' := 3) rfl [] #[y1, y1, y1, y1, y1, y1, y1, n1, n1, n1] [79] 0 ⟨[(79, tB ((v25.map (fun n => UInt8.ofNat n.toNat)) == (v21.map (fun n => UInt8.ofNat n.toNat))))], []⟩ ?_ z0 trivial ?_
         ·kernel_rfl
         exact n4_
        exact AEach.nil
       refine AAny.share 6 #[y1, y1, y1, y1, n1, n1, n1, n1, n1, n1] ⟨[(9, q1 v21), (75, tS (v25.map (fun n => UInt8.ofNat n.toNat))), (76, .al (.slot 9 0, []))], []⟩ ?_ fun n5_ => ?_
       ·refine AAny.each [4] (by kernel_rfl) rfl ?_
        refine AEach.one (i := 4) (AOne.str (F := (FF 223 0)) _ rfl rfl rfl _ rfl rfl rfl rfl rfl (n := v21.length) (f := (fun i => (cInt .u8) (v21.getD i default))) rfl v21 rfl (fun _ _ => rfl)) ?_ ?_
        ·refine AAny.keepTo [75, 77] 0 ⟨[(75, tS (v25.map (fun n => UInt8.ofNat n.toNat))), (77, tS (v21.map (fun n => UInt8.ofNat n.toNat)))], []⟩ #[y1, y1, y1, y1, y1, n1, n1, n1, n1, n1] ?_ rfl z0 ?_
         ·kernel_rfl
         refine AAny.go (by kernel_rfl) [5, 6] (fuel' := 3) rfl [] #[y1, y1, y1, y1, y1, y1, y1, n1, n1, n1] [79] 0 ⟨[(79, tB ((v25.map (fun n => UInt8.ofNat n.toNat)) == (v21.map (fun n => UInt8.ofNat n.toNat))))], []⟩ ?_ z0 trivial ?_
         ·kernel_rfl
         exact n4_
        exact AEach.nil
       refine AAny.share 7 #[y1, n1, n1, y1, y1, n1, n1, n1, n1, n1] ⟨[(73, .pc 2 0), (77, tS (v21.map (fun n => UInt8.ofNat n.toNat)))], [.dead, .dead, .cells 65 [.str v23.2.f0, .int .i64 v23.2.f1, k0 v23.2.f2, .int .i64 v23.2.f3, .bool v23.2.f4]]⟩ ?_ fun n2_ => ?_
       ·refine AAny.each [1] (by kernel_rfl) rfl ?_
        refine AEach.one (i := 1) (AOne.callO (F := (FF 223 0)) _ rfl rfl rfl 74 rfl rfl 21 [] rfl Try.call21 [2] (by decide) [.pc 0 0] (by kernel_rfl) [.cells 65 [.str v23.2.f0, .int .i64 v23.2.f1, k0 v23.2.f2, .int .i64 v23.2.f3, .bool v23.2.f4]] (by kernel_rfl) (f21o_ok v23.2 hv25) (by kernel_rfl) (by kernel_rfl) _ rfl) ?_ ?_
        ·refine AAny.keepTo [74, 77] 0 ⟨[(74, q1 v25), (77, tS (v21.map (fun n => UInt8.ofNat n.toNat)))], []⟩ #[y1, y1, n1, y1, y1, n1, n1, n1, n1, n1] ?_ rfl z0 ?_
         ·kernel_rfl
         exact n3_
        exact AEach.nil
       refine AAny.share 7 #[y1, y1, n1, y1, n1, n1, n1, n1, n1, n1] ⟨[(9, q1 v21), (74, q1 v25), (76, .al (.slot 9 0, []))], []⟩ ?_ fun n1_ => ?_
       ·refine AAny.each [2, 4] (by kernel_rfl) rfl ?_
        refine AEach.one (i := 2) (AOne.str (F := (FF 223 0)) _ rfl rfl rfl _ rfl rfl rfl rfl rfl (n := v25.length) (f := (fun i => (cInt .u8) (v25.getD i default))) rfl v25 rfl (fun _ _ => rfl)) ?_ ?_
        ·refine AAny.keepTo [9, 75, 76] 0 ⟨[(9, q1 v21), (75, tS (v25.map (fun n => UInt8.ofNat n.toNat))), (76, .al (.slot 9 0, []))], []⟩ #[y1, y1, y1, y1, n1, n1, n1, n1, n1, n1] ?_ rfl z0 ?_
         ·kernel_rfl
         exact n5_
        refine AEach.one (i := 4) (AOne.str (F := (FF 223 0)) _ rfl rfl rfl _ rfl rfl rfl rfl rfl (n := v21.length) (f := (fun i => (cInt .u8) (v21.getD i default))) rfl v21 rfl (fun _ _ => rfl)) ?_ ?_
        ·refine AAny.keepTo [74, 77] 0 ⟨[(74, q1 v25), (77, tS (v21.map (fun n => UInt8.ofNat n.toNat)))], []⟩ #[y1, y1, n1, y1, y1, n1, n1, n1, n1, n1] ?_ rfl z0 ?_
         ·kernel_rfl
         exact n3_
        exact AEach.nil
       refine AAny.each [1, 4] (by kernel_rfl) rfl ?_
       refine AEach.one (i := 1) (AOne.callO (F := (FF 223 0)) _ rfl rfl rfl 74 rfl rfl 21 [] rfl Try.call21 [2] (by decide) [.pc 0 0] (by kernel_rfl) [.cells 65 [.str v23.2.f0, .int .i64 v23.2.f1, k0 v23.2.f2, .int .i64 v23.2.f3, .bool v23.2.f4]] (by kernel_rfl) (f21o_ok v23.2 hv25) (by kernel_rfl) (by kernel_rfl) _ rfl) ?_ ?_
       ·refine AAny.keepTo [9, 74, 76] 0 ⟨[(9, q1 v21), (74, q1 v25), (76, .al (.slot 9 0, []))], []⟩ #[y1, y1, n1, y1, n1, n1, n1, n1, n1, n1] ?_ rfl z0 ?_
        ·kernel_rfl
        exact n1_
       refine AEach.one (i := 4) (AOne.str (F := (FF 223 0)) _ rfl rfl rfl _ rfl rfl rfl rfl rfl (n := v21.length) (f := (fun i => (cInt .u8) (v21.getD i default))) rfl v21 rfl (fun _ _ => rfl)) ?_ ?_
       ·refine AAny.keepTo [73, 77] 3 ⟨[(73, .pc 2 0), (77, tS (v21.map (fun n => UInt8.ofNat n.toNat)))], [.dead, .dead, .cells 65 [.str v23.2.f0, .int .i64 v23.2.f1, k0 v23.2.f2, .int .i64 v23.2.f3, .bool v23.2.f4]]⟩ #[y1, n1, n1, y1, y1, n1, n1, n1, n1, n1] ?_ rfl z0 ?_
        ·kernel_rfl
        exact n2_
       exact AEach.nil
      rintro σ' rfl
      refine AWp.ret ?_
      cases h
      exact ⟨.inr rfl, rfl⟩
     ·replace h := of_false h hb
      refine AWp.keepTo [3, 5, 7, 9] 3 ⟨[(3, .rp [.str v1.f0, .int .i64 v1.f1, k0 v1.f2]), (5, .rp [.int .i64 v3.f0, .int .i64 v3.f1, .int .i64 v3.f2, k0 v3.f3]), (7, .pc 2 0), (9, q1 v21)], [.dead, .dead, .cells 65 [.str v23.2.f0, .int .i64 v23.2.f1, k0 v23.2.f2, .int .i64 v23.2.f3, .bool v23.2.f4]]⟩ ?_ z0 ?_
      ·kernel_rfl
      refine AWp.skip ?_
      refine AWp.seq ?_
      refine AWp.draw FFm _ (n := 12) rfl (ls := #[n1, n1, n1, n1, n1, n1, n1, n1, n1, n1, n1, n1]) rfl ?_ (fun _ h => h)
      refine AAny.go (by kernel_rfl) [0, 1, 2, 3, 4, 5, 6, 7, 8, 9, 10, 11] (fuel' := 0) rfl [] #[y1, y1, y1, y1, y1, y1, y1, y1, y1, y1, y1, y1] [3, 5, 7, 9, 10, 11] 3 ⟨[(3, .rp [.str v1.f0, .int .i64 v1.f1, k0 v1.f2]), (5, .rp [.int .i64 v3.f0, .int .i64 v3.f1, .int .i64 v3.f2, k0 v3.f3]), (7, .pc 2 0), (9, q1 v21), (10, tI (w64 (v3.f1 - (1 : Int)))), (11, tI (w64 ((w64 (v3.f1 - (1 : Int))) + (v3.f3.length : Int))))], [.dead, .dead, .cells 65 [.str v23.2.f0, .int .i64 v23.2.f1, k0 v23.2.f2, .int .i64 v23.2.f3, .bool v23.2.f4]]⟩ ?_ z0 trivial ?_
      ·kernel_rfl
      refine AAny.keepTo [3, 5, 7, 9, 10, 11] 3 ⟨[(3, .rp [.str v1.f0, .int .i64 v1.f1, k0 v1.f2]), (5, .rp [.int .i64 v3.f0, .int .i64 v3.f1, .int .i64 v3.f2, k0 v3.f3]), (7, .pc 2 0), (9, q1 v21), (10, tI (w64 (v3.f1 - (1 : Int)))), (11, tI (w64 ((w64 (v3.f1 - (1 : Int))) + (v3.f3.length : Int))))], [.dead, .dead, .cells 65 [.str v23.2.f0, .int .i64 v23.2.f1, k0 v23.2.f2, .int .i64 v23.2.f3, .bool v23.2.f4]]⟩ _ ?_ rfl z0 (AAny.done (by kernel_rfl) ?_)
      ·kernel_rfl
      refine AWp.join (V := Int × Int) (fun w => ⟨[(3, .rp [.str v1.f0, .int .i64 v1.f1, k0 v1.f2]), (5, .rp [.int .i64 v3.f0, .int .i64 v3.f1, .int .i64 v3.f2, k0 v3.f3]), (7, .pc 2 0), (9, q1 v21), (10, tI w.1), (11, tI w.2)], [.dead, .dead, .cells 65 [.str v23.2.f0, .int .i64 v23.2.f1, k0 v23.2.f2, .int .i64 v23.2.f3, .bool v23.2.f4]]⟩) (fun w => f5_j5 v1 v3 v21 v23 w.1 w.2 = some r) ?_ ?_
      ·refine AWp.seq ?_
       refine AWp.start [0, 1, 2] [] [] [3, 5, 7, 9, 10, 11, 94] 3 ⟨[(3, .rp [.str v1.f0, .int .i64 v1.f1, k0 v1.f2]), (5, .rp [.int .i64 v3.f0, .int .i64 v3.f1, .int .i64 v3.f2, k0 v3.f3]), (7, .pc 2 0), (9, q1 v21), (10, tI (w64 (v3.f1 - (1 : Int)))), (11, tI (w64 ((w64 (v3.f1 - (1 : Int))) + (v3.f3.length : Int)))), (94, tB (v1.f0 == ([100, 105, 114, 101, 99, 116] : List UInt8)))], [.dead, .dead, .cells 65 [.str v23.2.f0, .int .i64 v23.2.f1, k0 v23.2.f2, .int .i64 v23.2.f3, .bool v23.2.f4]]⟩ rfl ?_ z0 trivial ?_
       ·kernel_rfl
       refine AOps.nil ?_
       refine AWp.cond rfl (fun hb => ?_) fun hb => ?_
       ·replace h := of_true h hb
        refine AWp.keepTo [3, 5, 7, 9] 3 ⟨[(3, .rp [.str v1.f0, .int .i64 v1.f1, k0 v1.f2]), (5, .rp [.int .i64 v3.f0, .int .i64 v3.f1, .int .i64 v3.f2, k0 v3.f3]), (7, .pc 2 0), (9, q1 v21)], [.dead, .dead, .cells 65 [.str v23.2.f0, .int .i64 v23.2.f1, k0 v23.2.f2, .int .i64 v23.2.f3, .bool v23.2.f4]]⟩ ?_ z0 ?_
        ·kernel_rfl
        refine AWp.draw FFm _ (n := 13) rfl (ls := #[n1, n1, n1, n1, n1, n1, n1, n1, n1, n1, n1, n1, n1]) rfl ?_ (fun _ h => h)
        refine AAny.go (by kernel_rfl) [0, 1, 2, 3, 4, 5, 6, 7, 8, 9, 10, 11, 12] (fuel' := 0) rfl [] #[y1, y1, y1, y1, y1, y1, y1, y1, y1, y1, y1, y1, y1] [3, 5, 7, 9, 10, 11] 3 ⟨[(3, .rp [.str v1.f0, .int .i64 v1.f1, k0 v1.f2]), (5, .rp [.int .i64 v3.f0, .int .i64 v3.f1, .int .i64 v3.f2, k0 v3.f3]), (7, .pc 2 0), (9, q1 v21), (10, tI (w64 ((w64 (v3.f1 - (1 : Int))) * v1.f1))), (11, tI (w64 (v3.f1 * v1.f1)))], [.dead, .dead, .cells 65 [.str v23.2.f0, .int .i64 v23.2.f1, k0 v23.2.f2, .int .i64 v23.2.f3, .bool v23.2.f4]]⟩ ?_ z0 trivial ?_
        ·kernel_rfl
        refine AAny.keepTo [3, 5, 7, 9, 10, 11] 3 ⟨[(3, .rp [.str v1.f0, .int .i64 v1.f1, k0 v1.f2]), (5, .rp [.int .i64 v3.f0, .int .i64 v3.f1, .int .i64 v3.f2, k0 v3.f3]), (7, .pc 2 0), (9, q1 v21), (10, tI (w64 ((w64 (v3.f1 - (1 : Int))) * v1.f1))), (11, tI (w64 (v3.f1 * v1.f1)))], [.dead, .dead, .cells 65 [.str v23.2.f0, .int .i64 v23.2.f1, k0 v23.2.f2, .int .i64 v23.2.f3, .bool v23.2.f4]]⟩ _ ?_ rfl z0 (AAny.done (by kernel_rfl) ?_)
        ·kernel_rfl
        exact ⟨(w64 ((w64 (v3.f1 - (1 : Int))) * v1.f1), w64 (v3.f1 * v1.f1)), h, rfl⟩
       ·replace h := of_false h hb
        refine AWp.keepTo [3, 5, 7, 9, 10, 11] 3 ⟨[(3, .rp [.str v1.f0, .int .i64 v1.f1, k0 v1.f2]), (5, .rp [.int .i64 v3.f0, .int .i64 v3.f1, .int .i64 v3.f2, k0 v3.f3]), (7, .pc 2 0), (9, q1 v21), (10, tI (w64 (v3.f1 - (1 : Int)))), (11, tI (w64 ((w64 (v3.f1 - (1 : Int))) + (v3.f3.length : Int))))], [.dead, .dead, .cells 65 [.str v23.2.f0, .int .i64 v23.2.f1, k0 v23.2.f2, .int .i64 v23.2.f3, .bool v23.2.f4]]⟩ ?_ z0 ?_
        ·kernel_rfl
        refine AWp.skip ?_
        exact ⟨(w64 (v3.f1 - (1 : Int)), w64 ((w64 (v3.f1 - (1 : Int))) + (v3.f3.length : Int))), h, rfl⟩
      ·rintro ⟨v27, v28⟩ h
       refine AWp.seq ?_
       refine AWp.start [0] [1, 2] [] [3, 5, 7, 9, 10, 11, 106] 3 ⟨[(3, .rp [.str v1.f0, .int .i64 v1.f1, k0 v1.f2]), (5, .rp [.int .i64 v3.f0, .int .i64 v3.f1, .int .i64 v3.f2, k0 v3.f3]), (7, .pc 2 0), (9, q1 v21), (10, tI v27), (11, tI v28), (106, .pc 2 0)], [.dead, .dead, .cells 65 [.str v23.2.f0, .int .i64 v23.2.f1, k0 v23.2.f2, .int .i64 v23.2.f3, .bool v23.2.f4]]⟩ rfl ?_ z0 trivial ?_
       ·kernel_rfl
       obtain ⟨v29, hv29, h⟩ := of_bind h
       refine AOps.cons (AOne.callO (F := (FF 223 0)) _ rfl rfl rfl 107 rfl rfl 21 [] rfl Try.call21 [2] (by decide) [.pc 0 0] (by kernel_rfl) [.cells 65 [.str v23.2.f0, .int .i64 v23.2.f1, k0 v23.2.f2, .int .i64 v23.2.f3, .bool v23.2.f4]] (by kernel_rfl) (f21o_ok v23.2 hv29) (by kernel_rfl) (by kernel_rfl) _ rfl) ?_
       refine AOps.go [2] [] [] [3, 5, 7, 9, 10, 11, 12] 3 ⟨[(3, .rp [.str v1.f0, .int .i64 v1.f1, k0 v1.f2]), (5, .rp [.int .i64 v3.f0, .int .i64 v3.f1, .int .i64 v3.f2, k0 v3.f3]), (7, .pc 2 0), (9, q1 v21), (10, tI v27), (11, tI v28), (12, q1 v29)], [.dead, .dead, .cells 65 [.str v23.2.f0, .int .i64 v23.2.f1, k0 v23.2.f2, .int .i64 v23.2.f3, .bool v23.2.f4]]⟩ ?_ z0 trivial ?_
       ·kernel_rfl
       refine AOps.nil ?_
       refine AWp.join (V := Int × Int) (fun w => ⟨[(3, .rp [.str v1.f0, .int .i64 v1.f1, k0 v1.f2]), (5, .rp [.int .i64 v3.f0, .int .i64 v3.f1, .int .i64 v3.f2, k0 v3.f3]), (7, .pc 2 0), (9, q1 v21), (10, tI w.1), (11, tI w.2), (12, q1 v29)], [.dead, .dead, .cells 65 [.str v23.2.f0, .int .i64 v23.2.f1, k0 v23.2.f2, .int .i64 v23.2.f3, .bool v23.2.f4]]⟩) (fun w => f5_j4 v1 v3 v21 v23 v29 w.1 w.2 = some r) ?_ ?_
       ·refine AWp.seq ?_
        refine AWp.start [0, 1, 2] [] [] [3, 5, 7, 9, 10, 11, 12, 110] 3 ⟨[(3, .rp [.str v1.f0, .int .i64 v1.f1, k0 v1.f2]), (5, .rp [.int .i64 v3.f0, .int .i64 v3.f1, .int .i64 v3.f2, k0 v3.f3]), (7, .pc 2 0), (9, q1 v21), (10, tI v27), (11, tI v28), (12, q1 v29), (110, tB (v3.f1 == (0 : Int)))], [.dead, .dead, .cells 65 [.str v23.2.f0, .int .i64 v23.2.f1, k0 v23.2.f2, .int .i64 v23.2.f3, .bool v23.2.f4]]⟩ rfl ?_ z0 trivial ?_
        ·kernel_rfl
        refine AOps.nil ?_
        refine AWp.cond rfl (fun hb => ?_) fun hb => ?_
        ·replace h := of_true h hb
         refine AWp.keepTo [3, 5, 7, 9, 12] 3 ⟨[(3, .rp [.str v1.f0, .int .i64 v1.f1, k0 v1.f2]), (5, .rp [.int .i64 v3.f0, .int .i64 v3.f1, .int .i64 v3.f2, k0 v3.f3]), (7, .pc 2 0), (9, q1 v21), (12, q1 v29)], [.dead, .dead, .cells 65 [.str v23.2.f0, .int .i64 v23.2.f1, k0 v23.2.f2, .int .i64 v23.2.f3, .bool v23.2.f4]]⟩ ?_ z0 ?_
         ·kernel_rfl
         refine AWp.draw FFm _ (n := 12) rfl (ls := #[n1, n1, n1, n1, n1, n1, n1, n1, n1, n1, n1, n1]) rfl ?_ (fun _ h => h)
         refine AAny.go (by kernel_rfl) [0, 3, 4, 5, 7] (fuel' := 7) rfl [] #[y1, n1, n1, y1, y1, y1, n1, y1, n1, n1, n1, n1] [3, 5, 7, 9, 12, 111, 116, 118] 3 ⟨[(3, .rp [.str v1.f0, .int .i64 v1.f1, k0 v1.f2]), (5, .rp [.int .i64 v3.f0, .int .i64 v3.f1, .int .i64 v3.f2, k0 v3.f3]), (7, .pc 2 0), (9, q1 v21), (12, q1 v29), (111, .pc 2 0), (116, tI (v3.f3.length : Int)), (118, .pc 2 0)], [.dead, .dead, .cells 65 [.str v23.2.f0, .int .i64 v23.2.f1, k0 v23.2.f2, .int .i64 v23.2.f3, .bool v23.2.f4]]⟩ ?_ z0 trivial ?_
         ·kernel_rfl
         obtain ⟨v46, hv46, h⟩ := of_bind h
         refine AAny.serial (i := 1) (fuel := 6) (by kernel_rfl) (AOne.callR (F := (FF 223 0)) _ rfl rfl rfl _ rfl rfl _ _ rfl Try.call19 [] [.rp [.str v23.2.f0, .int .i64 v23.2.f1, k0 v23.2.f2, .int .i64 v23.2.f3, .bool v23.2.f4]] rfl trivial (f19_ok v23.2 hv46) (ind_of rfl) rfl) ?_
         refine AAny.keepTo [3, 5, 7, 9, 12, 112, 116, 118] 3 ⟨[(3, .rp [.str v1.f0, .int .i64 v1.f1, k0 v1.f2]), (5, .rp [.int .i64 v3.f0, .int .i64 v3.f1, .int .i64 v3.f2, k0 v3.f3]), (7, .pc 2 0), (9, q1 v21), (12, q1 v29), (112, tI v46), (116, tI (v3.f3.length : Int)), (118, .pc 2 0)], [.dead, .dead, .cells 65 [.str v23.2.f0, .int .i64 v23.2.f1, k0 v23.2.f2, .int .i64 v23.2.f3, .bool v23.2.f4]]⟩ #[y1, y1, n1, y1, y1, y1, n1, y1, n1, n1, n1, n1] ?_ rfl z0 ?_
         ·kernel_rfl
         refine AAny.go (by kernel_rfl) [2, 6] (fuel' := 4) rfl [] #[y1, y1, y1, y1, y1, y1, y1, y1, n1, n1, n1, n1] [3, 5, 7, 9, 12, 117, 118] 3 ⟨[(3, .rp [.str v1.f0, .int .i64 v1.f1, k0 v1.f2]), (5, .rp [.int .i64 v3.f0, .int .i64 v3.f1, .int .i64 v3.f2, k0 v3.f3]), (7, .pc 2 0), (9, q1 v21), (12, q1 v29), (117, tI (w64 ((w64 (v46 - (1 : Int))) - (v3.f3.length : Int)))), (118, .pc 2 0)], [.dead, .dead, .cells 65 [.str v23.2.f0, .int .i64 v23.2.f1, k0 v23.2.f2, .int .i64 v23.2.f3, .bool v23.2.f4]]⟩ ?_ z0 trivial ?_
         ·kernel_rfl
         obtain ⟨v47, hv47, h⟩ := of_bind h
         refine AAny.serial (i := 8) (fuel := 3) (by kernel_rfl) (AOne.callR (F := (FF 223 0)) _ rfl rfl rfl _ rfl rfl _ _ rfl Try.call19 [] [.rp [.str v23.2.f0, .int .i64 v23.2.f1, k0 v23.2.f2, .int .i64 v23.2.f3, .bool v23.2.f4]] rfl trivial (f19_ok v23.2 hv47) (ind_of rfl) rfl) ?_
         refine AAny.keepTo [3, 5, 7, 9, 12, 117, 119] 3 ⟨[(3, .rp [.str v1.f0, .int .i64 v1.f1, k0 v1.f2]), (5, .rp [.int .i64 v3.f0, .int .i64 v3.f1, .int .i64 v3.f2, k0 v3.f3]), (7, .pc 2 0), (9, q1 v21), (12, q1 v29), (117, tI (w64 ((w64 (v46 - (1 : Int))) - (v3.f3.length : Int)))), (119, tI v47)], [.dead, .dead, .cells 65 [.str v23.2.f0, .int .i64 v23.2.f1, k0 v23.2.f2, .int .i64 v23.2.f3, .bool v23.2.f4]]⟩ #[y1, y1, y1, y1, y1, y1, y1, y1, y1, n1, n1, n1] ?_ rfl z0 ?_
         ·kernel_rfl
         refine AAny.go (by kernel_rfl) [9, 10, 11] (fuel' := 0) rfl [] #[y1, y1, y1, y1, y1, y1, y1, y1, y1, y1, y1, y1] [3, 5, 7, 9, 10, 11, 12] 3 ⟨[(3, .rp [.str v1.f0, .int .i64 v1.f1, k0 v1.f2]), (5, .rp [.int .i64 v3.f0, .int .i64 v3.f1, .int .i64 v3.f2, k0 v3.f3]), (7, .pc 2 0), (9, q1 v21), (10, tI (w64 ((w64 (v46 - (1 : Int))) - (v3.f3.length : Int)))), (11, tI (w64 (v47 - (1 : Int)))), (12, q1 v29)], [.dead, .dead, .cells 65 [.str v23.2.f0, .int .i64 v23.2.f1, k0 v23.2.f2, .int .i64 v23.2.f3, .bool v23.2.f4]]⟩ ?_ z0 trivial ?_
         ·kernel_rfl
         refine AAny.keepTo [3, 5, 7, 9, 10, 11, 12] 3 ⟨[(3, .rp [.str v1.f0, .int .i64 v1.f1, k0 v1.f2]), (5, .rp [.int .i64 v3.f0, .int .i64 v3.f1, .int .i64 v3.f2, k0 v3.f3]), (7, .pc 2 0), (9, q1 v21), (10, tI (w64 ((w64 (v46 - (1 : Int))) - (v3.f3.length : Int)))), (11, tI (w64 (v47 - (1 : Int)))), (12, q1 v29)], [.dead, .dead, .cells 65 [.str v23.2.f0, .int .i64 v23.2.f1, k0 v23.2.f2, .int .i64 v23.2.f3, .bool v23.2.f4]]⟩ _ ?_ rfl z0 (AAny.done (by kernel_rfl) ?_)
         ·kernel_rfl
         exact ⟨(w64 ((w64 (v46 - (1 : Int))) - (v3.f3.length : Int)), w64 (v47 - (1 : Int))), h, rfl⟩
        ·replace h := of_false h hb
         refine AWp.keepTo [3, 5, 7, 9, 10, 11, 12] 3 ⟨[(3, .rp [.str v1.f0, .int .i64 v1.f1, k0 v1.f2]), (5, .rp [.int .i64 v3.f0, .int .i64 v3.f1, .int .i64 v3.f2, k0 v3.f3]), (7, .pc 2 0), (9, q1 v21), (10, tI v27), (11, tI v28), (12, q1 v29)], [.dead, .dead, .cells 65 [.str v23.2.f0, .int .i64 v23.2.f1, k0 v23.2.f2, .int .i64 v23.2.f3, .bool v23.2.f4]]⟩ ?_ z0 ?_
         ·kernel_rfl
         refine AWp.skip ?_
         exact ⟨(v27, v28), h, rfl⟩
       ·rintro ⟨v30, v31⟩ h
        refine AWp.seq ?_
        refine AWp.seq ?_
        refine AWp.start [0] [] [] [3, 5, 7, 9, 10, 11, 12, 13] 3 ⟨[(3, .rp [.str v1.f0, .int .i64 v1.f1, k0 v1.f2]), (5, .rp [.int .i64 v3.f0, .int .i64 v3.f1, .int .i64 v3.f2, k0 v3.f3]), (7, .pc 2 0), (9, q1 v21), (10, tI v30), (11, tI v31), (12, q1 v29), (13, tI (0 : Int))], [.dead, .dead, .cells 65 [.str v23.2.f0, .int .i64 v23.2.f1, k0 v23.2.f2, .int .i64 v23.2.f3, .bool v23.2.f4]]⟩ rfl ?_ z0 trivial ?_
        ·kernel_rfl
        refine AOps.nil ?_
        refine AWp.block ?_
        obtain ⟨y, hy, h⟩ := of_bind h
        refine AWp.mono (AWp.loop (S := Int) (Y := Out Bool Unit) (fun s => ⟨[(3, .rp [.str v1.f0, .int .i64 v1.f1, k0 v1.f2]), (5, .rp [.int .i64 v3.f0, .int .i64 v3.f1, .int .i64 v3.f2, k0 v3.f3]), (7, .pc 2 0), (9, q1 v21), (10, tI v30), (11, tI v31), (12, q1 v29), (13, tI s)], [.dead, .dead, .cells 65 [.str v23.2.f0, .int .i64 v23.2.f1, k0 v23.2.f2, .int .i64 v23.2.f3, .bool v23.2.f4]]⟩) (fun s => f5_b3 v21 v29 v30 v31 s) (fun y e σ => match y with | .ret r => e = .ret ∧ σ = ⟨[(6, tB r)], []⟩ | .go v => e = .exit 0 ∧ σ = ⟨[(3, .rp [.str v1.f0, .int .i64 v1.f1, k0 v1.f2]), (5, .rp [.int .i64 v3.f0, .int .i64 v3.f1, .int .i64 v3.f2, k0 v3.f3]), (7, .pc 2 0), (9, q1 v21), (10, tI v30), (11, tI v31), (12, q1 v29)], [.dead, .dead, .cells 65 [.str v23.2.f0, .int .i64 v23.2.f1, k0 v23.2.f2, .int .i64 v23.2.f3, .bool v23.2.f4]]⟩) ?_ hy) ?_
        ·rintro v32 o h
         refine AWp.seq ?_
         refine AWp.seq ?_
         refine AWp.start [0, 1, 2, 3] [] [] [3, 5, 7, 9, 10, 11, 12, 13, 124] 3 ⟨[(3, .rp [.str v1.f0, .int .i64 v1.f1, k0 v1.f2]), (5, .rp [.int .i64 v3.f0, .int .i64 v3.f1, .int .i64 v3.f2, k0 v3.f3]), (7, .pc 2 0), (9, q1 v21), (10, tI v30), (11, tI v31), (12, q1 v29), (13, tI v32), (124, tB (decide (v32 < (v29.length : Int))))], [.dead, .dead, .cells 65 [.str v23.2.f0, .int .i64 v23.2.f1, k0 v23.2.f2, .int .i64 v23.2.f3, .bool v23.2.f4]]⟩ rfl ?_ z0 trivial ?_
         ·kernel_rfl
         refine AOps.nil ?_
         refine AWp.cond rfl (fun hb => ?_) fun hb => ?_
         ·replace h := of_true h hb
          refine AWp.keepTo [3, 5, 7, 9, 10, 11, 12, 13] 3 ⟨[(3, .rp [.str v1.f0, .int .i64 v1.f1, k0 v1.f2]), (5, .rp [.int .i64 v3.f0, .int .i64 v3.f1, .int .i64 v3.f2, k0 v3.f3]), (7, .pc 2 0), (9, q1 v21), (10, tI v30), (11, tI v31), (12, q1 v29), (13, tI v32)], [.dead, .dead, .cells 65 [.str v23.2.f0, .int .i64 v23.2.f1, k0 v23.2.f2, .int .i64 v23.2.f3, .bool v23.2.f4]]⟩ ?_ z0 ?_
          ·kernel_rfl
          refine AWp.skip ?_
          refine AWp.join (V := Unit) (fun w => ⟨[(3, .rp [.str v1.f0, .int .i64 v1.f1, k0 v1.f2]), (5, .rp [.int .i64 v3.f0, .int .i64 v3.f1, .int .i64 v3.f2, k0 v3.f3]), (7, .pc 2 0), (9, q1 v21), (10, tI v30), (11, tI v31), (12, q1 v29), (13, tI v32)], [.dead, .dead, .cells 65 [.str v23.2.f0, .int .i64 v23.2.f1, k0 v23.2.f2, .int .i64 v23.2.f3, .bool v23.2.f4]]⟩) (fun w => f5_j1 v32 = some o) ?_ ?_
          ·refine AWp.block ?_
           refine AWp.seq ?_
           refine AWp.seq ?_
           refine AWp.start [0, 1, 2, 3] [4, 5, 6, 7] [] [3, 5, 7, 9, 10, 11, 12, 13, 130] 3 ⟨[(3, .rp [.str v1.f0, .int .i64 v1.f1, k0 v1.f2]), (5, .rp [.int .i64 v3.f0, .int .i64 v3.f1, .int .i64 v3.f2, k0 v3.f3]), (7, .pc 2 0), (9, q1 v21), (10, tI v30), (11, tI v31), (12, q1 v29), (13, tI v32), (130, tB (decide (v32 ≥ v30)))], [.dead, .dead, .cells 65 [.str v23.2.f0, .int .i64 v23.2.f1, k0 v23.2.f2, .int .i64 v23.2.f3, .bool v23.2.f4]]⟩ rfl ?_ z0 trivial ?_
           ·kernel_rfl
           obtain ⟨v33, hc4, h⟩ := of_bind h
           refine AOps.cut [4, 5, 6, 7] [] (fun σ => σ = ⟨[(3, .rp [.str v1.f0, .int .i64 v1.f1, k0 v1.f2]), (5, .rp [.int .i64 v3.f0, .int .i64 v3.f1, .int .i64 v3.f2, k0 v3.f3]), (7, .pc 2 0), (9, q1 v21), (10, tI v30), (11, tI v31), (12, q1 v29), (13, tI v32), (134, tB v33)], [.dead, .dead, .cells 65 [.str v23.2.f0, .int .i64 v23.2.f1, k0 v23.2.f2, .int .i64 v23.2.f3, .bool v23.2.f4]]⟩) ?_ fun σ' hJ => ?_
           ·refine AOps.split (fun b => ⟨[(3, .rp [.str v1.f0, .int .i64 v1.f1, k0 v1.f2]), (5, .rp [.int .i64 v3.f0, .int .i64 v3.f1, .int .i64 v3.f2, k0 v3.f3]), (7, .pc 2 0), (9, q1 v21), (10, tI v30), (11, tI v31), (12, q1 v29), (13, tI v32), (130, tB b)], [.dead, .dead, .cells 65 [.str v23.2.f0, .int .i64 v23.2.f1, k0 v23.2.f2, .int .i64 v23.2.f3, .bool v23.2.f4]]⟩) _ (fun hb => ?_) fun hb => ?_
            ·replace hc4 := of_true hc4 hb
             refine AOps.go [4, 5, 6, 7] [] [] [3, 5, 7, 9, 10, 11, 12, 13, 134] 3 ⟨[(3, .rp [.str v1.f0, .int .i64 v1.f1, k0 v1.f2]), (5, .rp [.int .i64 v3.f0, .int .i64 v3.f1, .int .i64 v3.f2, k0 v3.f3]), (7, .pc 2 0), (9, q1 v21), (10, tI v30), (11, tI v31), (12, q1 v29), (13, tI v32), (134, tB (decide (v32 < v31)))], [.dead, .dead, .cells 65 [.str v23.2.f0, .int .i64 v23.2.f1, k0 v23.2.f2, .int .i64 v23.2.f3, .bool v23.2.f4]]⟩ ?_ z0 trivial ?_
             ·kernel_rfl
             cases hc4
             exact AOps.nil rfl
            ·replace hc4 := of_false hc4 hb
             refine AOps.go [4, 5, 6, 7] [] [] [3, 5, 7, 9, 10, 11, 12, 13, 134] 3 ⟨[(3, .rp [.str v1.f0, .int .i64 v1.f1, k0 v1.f2]), (5, .rp [.int .i64 v3.f0, .int .i64 v3.f1, .int .i64 v3.f2, k0 v3.f3]), (7, .pc 2 0), (9, q1 v21), (10, tI v30), (11, tI v31), (12, q1 v29), (13, tI v32), (134, tB false)], [.dead, .dead, .cells 65 [.str v23.2.f0, .int .i64 v23.2.f1, k0 v23.2.f2, .int .i64 v23.2.f3, .bool v23.2.f4]]⟩ ?_ z0 trivial ?_
             ·kernel_rfl
             cases hc4
             exact AOps.nil rfl
           subst hJ
           refine AOps.nil ?_
           refine AWp.cond rfl (fun hb => ?_) fun hb => ?_
           ·replace h := of_true h hb
            refine AWp.keepTo [3, 5, 7, 9, 10, 11, 12, 13] 3 ⟨[(3, .rp [.str v1.f0, .int .i64 v1.f1, k0 v1.f2]), (5, .rp [.int .i64 v3.f0, .int .i64 v3.f1, .int .i64 v3.f2, k0 v3.f3]), (7, .pc 2 0), (9, q1 v21), (10, tI v30), (11, tI v31), (12, q1 v29), (13, tI v32)], [.dead, .dead, .cells 65 [.str v23.2.f0, .int .i64 v23.2.f1, k0 v23.2.f2, .int .i64 v23.2.f3, .bool v23.2.f4]]⟩ ?_ z0 ?_
            ·kernel_rfl
            refine AWp.exit ?_
            exact ⟨(), h, rfl⟩
           ·replace h := of_false h hb
            refine AWp.keepTo [3, 5, 7, 9, 10, 11, 12, 13] 3 ⟨[(3, .rp [.str v1.f0, .int .i64 v1.f1, k0 v1.f2]), (5, .rp [.int .i64 v3.f0, .int .i64 v3.f1, .int .i64 v3.f2, k0 v3.f3]), (7, .pc 2 0), (9, q1 v21), (10, tI v30), (11, tI v31), (12, q1 v29), (13, tI v32)], [.dead, .dead, .cells 65 [.str v23.2.f0, .int .i64 v23.2.f1, k0 v23.2.f2, .int .i64 v23.2.f3, .bool v23.2.f4]]⟩ ?_ z0 ?_
            ·kernel_rfl
            refine AWp.skip ?_
            refine AWp.seq ?_
            refine AWp.start [0] [] [] [3, 5, 7, 9, 10, 11, 12, 13, 14] 3 ⟨[(3, .rp [.str v1.f0, .int .i64 v1.f1, k0 v1.f2]), (5, .rp [.int .i64 v3.f0, .int .i64 v3.f1, .int .i64 v3.f2, k0 v3.f3]), (7, .pc 2 0), (9, q1 v21), (10, tI v30), (11, tI v31), (12, q1 v29), (13, tI v32), (14, .tv (.int .u8 (0 : Int)))], [.dead, .dead, .cells 65 [.str v23.2.f0, .int .i64 v23.2.f1, k0 v23.2.f2, .int .i64 v23.2.f3, .bool v23.2.f4]]⟩ rfl ?_ z0 trivial ?_
            ·kernel_rfl
            refine AOps.nil ?_
            refine AWp.join (V := Int) (fun w => ⟨[(3, .rp [.str v1.f0, .int .i64 v1.f1, k0 v1.f2]), (5, .rp [.int .i64 v3.f0, .int .i64 v3.f1, .int .i64 v3.f2, k0 v3.f3]), (7, .pc 2 0), (9, q1 v21), (10, tI v30), (11, tI v31), (12, q1 v29), (13, tI v32), (14, .tv (.int .u8 w))], [.dead, .dead, .cells 65 [.str v23.2.f0, .int .i64 v23.2.f1, k0 v23.2.f2, .int .i64 v23.2.f3, .bool v23.2.f4]]⟩) (fun w => f5_j2 v29 v32 w = some o) ?_ ?_
            ·refine AWp.seq ?_
             refine AWp.start [0, 1, 2, 3] [] [] [3, 5, 7, 9, 10, 11, 12, 13, 14, 138] 3 ⟨[(3, .rp [.str v1.f0, .int .i64 v1.f1, k0 v1.f2]), (5, .rp [.int .i64 v3.f0, .int .i64 v3.f1, .int .i64 v3.f2, k0 v3.f3]), (7, .pc 2 0), (9, q1 v21), (10, tI v30), (11, tI v31), (12, q1 v29), (13, tI v32), (14, .tv (.int .u8 (0 : Int))), (138, tB (decide (v32 < (v21.length : Int))))], [.dead, .dead, .cells 65 [.str v23.2.f0, .int .i64 v23.2.f1, k0 v23.2.f2, .int .i64 v23.2.f3, .bool v23.2.f4]]⟩ rfl ?_ z0 trivial ?_
             ·kernel_rfl
             refine AOps.nil ?_
             refine AWp.cond rfl (fun hb => ?_) fun hb => ?_
             ·replace h := of_true h hb
              refine AWp.keepTo [3, 5, 7, 9, 10, 11, 12, 13] 3 ⟨[(3, .rp [.str v1.f0, .int .i64 v1.f1, k0 v1.f2]), (5, .rp [.int .i64 v3.f0, .int .i64 v3.f1, .int .i64 v3.f2, k0 v3.f3]), (7, .pc 2 0), (9, q1 v21), (10, tI v30), (11, tI v31), (12, q1 v29), (13, tI v32)], [.dead, .dead, .cells 65 [.str v23.2.f0, .int .i64 v23.2.f1, k0 v23.2.f2, .int .i64 v23.2.f3, .bool v23.2.f4]]⟩ ?_ z0 ?_
              ·kernel_rfl
              obtain ⟨hg, h⟩ := of_guard h
              refine AWp.start [0, 1, 2, 3, 4] [] [(0 : Int) ≤ v32, v32 < (v21.length : Int)] [3, 5, 7, 9, 10, 11, 12, 13, 14] 3 ⟨[(3, .rp [.str v1.f0, .int .i64 v1.f1, k0 v1.f2]), (5, .rp [.int .i64 v3.f0, .int .i64 v3.f1, .int .i64 v3.f2, k0 v3.f3]), (7, .pc 2 0), (9, q1 v21), (10, tI v30), (11, tI v31), (12, q1 v29), (13, tI v32), (14, .tv (.int .u8 (gD v21 v32)))], [.dead, .dead, .cells 65 [.str v23.2.f0, .int .i64 v23.2.f1, k0 v23.2.f2, .int .i64 v23.2.f3, .bool v23.2.f4]]⟩ rfl ?_ z0 ⟨hg.1, hg.2⟩ ?_
              ·kernel_rfl
              refine AOps.nil ?_
              exact ⟨gD v21 v32, h, rfl⟩
             ·replace h := of_false h hb
              refine AWp.keepTo [3, 5, 7, 9, 10, 11, 12, 13, 14] 3 ⟨[(3, .rp [.str v1.f0, .int .i64 v1.f1, k0 v1.f2]), (5, .rp [.int .i64 v3.f0, .int .i64 v3.f1, .int .i64 v3.f2, k0 v3.f3]), (7, .pc 2 0), (9, q1 v21), (10, tI v30), (11, tI v31), (12, q1 v29), (13, tI v32), (14, .tv (.int .u8 (0 : Int)))], [.dead, .dead, .cells 65 [.str v23.2.f0, .int .i64 v23.2.f1, k0 v23.2.f2, .int .i64 v23.2.f3, .bool v23.2.f4]]⟩ ?_ z0 ?_
              ·kernel_rfl
              refine AWp.skip ?_
              exact ⟨(0 : Int), h, rfl⟩
            ·rintro v34 h
             refine AWp.seq ?_
             obtain ⟨hg, h⟩ := of_guard h
             refine AWp.start [0, 1, 2, 3, 4, 5] [] [(0 : Int) ≤ v32, v32 < (v29.length : Int)] [3, 5, 7, 9, 10, 11, 12, 13, 148] 3 ⟨[(3, .rp [.str v1.f0, .int .i64 v1.f1, k0 v1.f2]), (5, .rp [.int .i64 v3.f0, .int .i64 v3.f1, .int .i64 v3.f2, k0 v3.f3]), (7, .pc 2 0), (9, q1 v21), (10, tI v30), (11, tI v31), (12, q1 v29), (13, tI v32), (148, tB (gD v29 v32 != v34))], [.dead, .dead, .cells 65 [.str v23.2.f0, .int .i64 v23.2.f1, k0 v23.2.f2, .int .i64 v23.2.f3, .bool v23.2.f4]]⟩ rfl ?_ z0 ⟨hg.1, hg.2⟩ ?_
             ·kernel_rfl
             refine AOps.nil ?_
             refine AWp.cond rfl (fun hb => ?_) fun hb => ?_
             ·replace h := of_true h hb
              refine AWp.keepTo [] 0 ⟨[], []⟩ ?_ z0 ?_
              ·kernel_rfl
              refine AWp.seq ?_
              refine AWp.start [0] [] [] [6] 0 ⟨[(6, tB false)], []⟩ rfl ?_ z0 trivial ?_
              ·kernel_rfl
              refine AOps.nil ?_
              refine AWp.ret ?_
              cases h
              exact Or.inr ⟨_, rfl, by simp, rfl, rfl⟩
             ·replace h := of_false h hb
              refine AWp.keepTo [3, 5, 7, 9, 10, 11, 12, 13] 3 ⟨[(3, .rp [.str v1.f0, .int .i64 v1.f1, k0 v1.f2]), (5, .rp [.int .i64 v3.f0, .int .i64 v3.f1, .int .i64 v3.f2, k0 v3.f3]), (7, .pc 2 0), (9, q1 v21), (10, tI v30), (11, tI v31), (12, q1 v29), (13, tI v32)], [.dead, .dead, .cells 65 [.str v23.2.f0, .int .i64 v23.2.f1, k0 v23.2.f2, .int .i64 v23.2.f3, .bool v23.2.f4]]⟩ ?_ z0 ?_
              ·kernel_rfl
              refine AWp.skip ?_
              exact ⟨(), h, rfl⟩
          ·rintro ⟨⟩ h
           refine AWp.start [0, 1, 2] [] [] [3, 5, 7, 9, 10, 11, 12, 13] 3 ⟨[(3, .rp [.str v1.f0, .int .i64 v1.f1, k0 v1.f2]), (5, .rp [.int .i64 v3.f0, .int .i64 v3.f1, .int .i64 v3.f2, k0 v3.f3]), (7, .pc 2 0), (9, q1 v21), (10, tI v30), (11, tI v31), (12, q1 v29), (13, tI (w64 (v32 + (1 : Int))))], [.dead, .dead, .cells 65 [.str v23.2.f0, .int .i64 v23.2.f1, k0 v23.2.f2, .int .i64 v23.2.f3, .bool v23.2.f4]]⟩ rfl ?_ z0 trivial ?_
           ·kernel_rfl
           refine AOps.nil ?_
           cases h
           exact Or.inl ⟨_, rfl, rfl, rfl⟩
         ·replace h := of_false h hb
          refine AWp.keepTo [3, 5, 7, 9, 10, 11, 12] 3 ⟨[(3, .rp [.str v1.f0, .int .i64 v1.f1, k0 v1.f2]), (5, .rp [.int .i64 v3.f0, .int .i64 v3.f1, .int .i64 v3.f2, k0 v3.f3]), (7, .pc 2 0), (9, q1 v21), (10, tI v30), (11, tI v31), (12, q1 v29)], [.dead, .dead, .cells 65 [.str v23.2.f0, .int .i64 v23.2.f1, k0 v23.2.f2, .int .i64 v23.2.f3, .bool v23.2.f4]]⟩ ?_ z0 ?_
          ·kernel_rfl
          refine AWp.exit ?_
          cases h
          exact Or.inr ⟨_, rfl, by simp, rfl, rfl⟩
        ·intro e σ hp
         rcases y with v35 | _
         ·obtain ⟨rfl, rfl⟩ := hp
          cases h
          exact ⟨.inr rfl, rfl⟩
         ·obtain ⟨rfl, rfl⟩ := hp
          refine AWp.seq ?_
          refine AWp.seq ?_
          refine AWp.start [0, 1, 2, 3, 4] [] [] [3, 5, 7, 10, 11, 153] 3 ⟨[(3, .rp [.str v1.f0, .int .i64 v1.f1, k0 v1.f2]), (5, .rp [.int .i64 v3.f0, .int .i64 v3.f1, .int .i64 v3.f2, k0 v3.f3]), (7, .pc 2 0), (10, tI v30), (11, tI v31), (153, tB (decide ((v29.length : Int) < (v21.length : Int))))], [.dead, .dead, .cells 65 [.str v23.2.f0, .int .i64 v23.2.f1, k0 v23.2.f2, .int .i64 v23.2.f3, .bool v23.2.f4]]⟩ rfl ?_ z0 trivial ?_
          ·kernel_rfl
          refine AOps.nil ?_
          refine AWp.cond rfl (fun hb => ?_) fun hb => ?_
          ·replace h := of_true h hb
           refine AWp.keepTo [] 0 ⟨[], []⟩ ?_ z0 ?_
           ·kernel_rfl
           refine AWp.seq ?_
           refine AWp.start [0] [] [] [6] 0 ⟨[(6, tB false)], []⟩ rfl ?_ z0 trivial ?_
           ·kernel_rfl
           refine AOps.nil ?_
           refine AWp.ret ?_
           cases h
           exact ⟨.inr rfl, rfl⟩
          ·replace h := of_false h hb
           refine AWp.keepTo [3, 5, 7, 10, 11] 3 ⟨[(3, .rp [.str v1.f0, .int .i64 v1.f1, k0 v1.f2]), (5, .rp [.int .i64 v3.f0, .int .i64 v3.f1, .int .i64 v3.f2, k0 v3.f3]), (7, .pc 2 0), (10, tI v30), (11, tI v31)], [.dead, .dead, .cells 65 [.str v23.2.f0, .int .i64 v23.2.f1, k0 v23.2.f2, .int .i64 v23.2.f3, .bool v23.2.f4]]⟩ ?_ z0 ?_
           ·kernel_rfl
           refine AWp.skip ?_
           refine AWp.seq ?_
           refine AWp.seq ?_
           refine AWp.start [0, 1, 2] [] [] [3, 5, 7, 10, 11, 156] 3 ⟨[(3, .rp [.str v1.f0, .int .i64 v1.f1, k0 v1.f2]), (5, .rp [.int .i64 v3.f0, .int .i64 v3.f1, .int .i64 v3.f2, k0 v3.f3]), (7, .pc 2 0), (10, tI v30), (11, tI v31), (156, tB (v1.f0 == ([100, 105, 114, 101, 99, 116] : List UInt8)))], [.dead, .dead, .cells 65 [.str v23.2.f0, .int .i64 v23.2.f1, k0 v23.2.f2, .int .i64 v23.2.f3, .bool v23.2.f4]]⟩ rfl ?_ z0 trivial ?_
           ·kernel_rfl
           refine AOps.nil ?_
           refine AWp.cond rfl (fun hb => ?_) fun hb => ?_
           ·replace h := of_true h hb
            refine AWp.keepTo [3, 5, 7] 3 ⟨[(3, .rp [.str v1.f0, .int .i64 v1.f1, k0 v1.f2]), (5, .rp [.int .i64 v3.f0, .int .i64 v3.f1, .int .i64 v3.f2, k0 v3.f3]), (7, .pc 2 0)], [.dead, .dead, .cells 65 [.str v23.2.f0, .int .i64 v23.2.f1, k0 v23.2.f2, .int .i64 v23.2.f3, .bool v23.2.f4]]⟩ ?_ z0 ?_
            ·kernel_rfl
            refine AWp.seq ?_
            refine AWp.start [0, 1, 2] [3, 4, 5, 6, 7, 8] [] [3, 5, 158, 160] 3 ⟨[(3, .rp [.str v1.f0, .int .i64 v1.f1, k0 v1.f2]), (5, .rp [.int .i64 v3.f0, .int .i64 v3.f1, .int .i64 v3.f2, k0 v3.f3]), (158, .pc 2 0), (160, tI v3.f1)], [.dead, .dead, .cells 65 [.str v23.2.f0, .int .i64 v23.2.f1, k0 v23.2.f2, .int .i64 v23.2.f3, .bool v23.2.f4]]⟩ rfl ?_ z0 trivial ?_
            ·kernel_rfl
            obtain ⟨v36, hv36, h⟩ := of_bind h
            refine AOps.cons (AOne.callO (F := (FF 223 0)) _ rfl rfl rfl 161 rfl rfl 25 [] rfl Try.call25 [2] (by decide) [.pc 0 0, tI v3.f1, tI (0 : Int)] (by kernel_rfl) [.cells 65 [.str v23.2.f0, .int .i64 v23.2.f1, k0 v23.2.f2, .int .i64 v23.2.f3, .bool v23.2.f4]] (by kernel_rfl) (f25o_ok v3.f1 (0 : Int) v23.2 hv36) (by kernel_rfl) (by kernel_rfl) _ rfl) ?_
            refine AOps.go [4, 5, 6, 7, 8] [] [] [3, 5, 15, 16] 0 ⟨[(3, .rp [.str v1.f0, .int .i64 v1.f1, k0 v1.f2]), (5, .rp [.int .i64 v3.f0, .int .i64 v3.f1, .int .i64 v3.f2, k0 v3.f3]), (15, q0 v36.1), (16, tI v36.2.1)], []⟩ ?_ z0 trivial ?_
            ·kernel_rfl
            refine AOps.nil ?_
            refine AWp.seq ?_
            obtain ⟨v37, hd, h⟩ := of_bind h
            refine AWp.draw FFm (fun σ => σ = ⟨[(6, tB v37)], []⟩) (n := 25) rfl (ls := #[n1, n1, n1, n1, n1, n1, n1, n1, n1, n1, n1, n1, n1, n1, n1, n1, n1, n1, n1, n1, n1, n1, n1, n1, n1]) rfl ?_ ?_
            ·refine AAny.go (by kernel_rfl) [0, 1, 2] (fuel' := 22) rfl [] #[y1, y1, y1, n1, n1, n1, n1, n1, n1, n1, n1, n1, n1, n1, n1, n1, n1, n1, n1, n1, n1, n1, n1, n1, n1] [3, 5, 15, 166] 0 ⟨[(3, .rp [.str v1.f0, .int .i64 v1.f1, k0 v1.f2]), (5, .rp [.int .i64 v3.f0, .int .i64 v3.f1, .int .i64 v3.f2, k0 v3.f3]), (15, q0 v36.1), (166, tB (v36.2.1 == (0 : Int)))], []⟩ ?_ z0 trivial ?_
             ·kernel_rfl
             refine AAny.split (fun b => ⟨[(3, .rp [.str v1.f0, .int .i64 v1.f1, k0 v1.f2]), (5, .rp [.int .i64 v3.f0, .int .i64 v3.f1, .int .i64 v3.f2, k0 v3.f3]), (15, q0 v36.1), (166, tB b)], []⟩) _ (fun hb => ?_) fun hb => ?_
             ·replace hd := of_true hd hb
              refine AAny.go (by kernel_rfl) [3, 4, 5, 6, 7, 8, 9] (fuel' := 15) rfl [] #[y1, y1, y1, y1, y1, y1, y1, y1, y1, y1, n1, n1, n1, n1, n1, n1, n1, n1, n1, n1, n1, n1, n1, n1, n1] [5, 15, 173] 0 ⟨[(5, .rp [.int .i64 v3.f0, .int .i64 v3.f1, .int .i64 v3.f2, k0 v3.f3]), (15, q0 v36.1), (173, tB ((v36.1.length : Int) == v1.f1))], []⟩ ?_ z0 trivial ?_
              ·kernel_rfl
              refine AAny.split (fun b => ⟨[(5, .rp [.int .i64 v3.f0, .int .i64 v3.f1, .int .i64 v3.f2, k0 v3.f3]), (15, q0 v36.1), (173, tB b)], []⟩) _ (fun hb => ?_) fun hb => ?_
              ·replace hd := of_true hd hb
               obtain ⟨hg, hd⟩ := of_guard hd
               refine AAny.go (by kernel_rfl) [10, 11, 12, 13, 14] (fuel' := 10) rfl [(0 : Int) ≤ (0 : Int), (0 : Int) ≤ (v3.f3.length : Int), (v3.f3.length : Int) ≤ (v36.1.length : Int)] #[y1, y1, y1, y1, y1, y1, y1, y1, y1, y1, y1, y1, y1, y1, y1, n1, n1, n1, n1, n1, n1, n1, n1, n1, n1] [5, 173, 178] 0 ⟨[(5, .rp [.int .i64 v3.f0, .int .i64 v3.f1, .int .i64 v3.f2, k0 v3.f3]), (173, tB true), (178, .tv (.fz 1 ((Int.toNat (v3.f3.length : Int)) - 0) (fun i => (cInt .u8) (v36.1.getD (0 + i) default))))], []⟩ ?_ z0 ⟨(by decide : (0 : Int) ≤ (0 : Int)), (Int.natCast_nonneg (v3.f3.length)), hg⟩ ?_
               ·kernel_rfl
               have hb : (Int.toNat (v3.f3.length : Int)) ≤ v36.1.length := by have hh : (v3.f3.length : Int) ≤ (v36.1.length : Int) := hg; omega
               refine AAny.extFzL (s := 178) rfl (sub_len v36.1 0 (Int.toNat (v3.f3.length : Int)) hb) (sub_at (cInt .u8) v36.1 0 (Int.toNat (v3.f3.length : Int)) hb) ?_
               refine AAny.takeStr (F := (FF 223 0)) (i := 15) (fuel' := 9) (by kernel_rfl) rfl (by kernel_rfl) (by kernel_rfl) #[y1, y1, y1, y1, y1, y1, y1, y1, y1, y1, y1, y1, y1, y1, y1, y1, n1, n1, n1, n1, n1, n1, n1, n1, n1] rfl _ rfl rfl rfl _ rfl rfl rfl rfl rfl (n := ((v36.1.take (Int.toNat (v3.f3.length : Int))).drop 0).length) (f := (fun i => (cInt .u8) (((v36.1.take (Int.toNat (v3.f3.length : Int))).drop 0).getD i default))) rfl ((v36.1.take (Int.toNat (v3.f3.length : Int))).drop 0) rfl (fun _ _ => rfl) ?_
               refine AAny.keepTo [5, 173, 179] 0 ⟨[(5, .rp [.int .i64 v3.f0, .int .i64 v3.f1, .int .i64 v3.f2, k0 v3.f3]), (173, tB true), (179, tS (((v36.1.take (Int.toNat (v3.f3.length : Int))).drop 0).map (fun n => UInt8.ofNat n.toNat)))], []⟩ #[y1, y1, y1, y1, y1, y1, y1, y1, y1, y1, y1, y1, y1, y1, y1, y1, n1, n1, n1, n1, n1, n1, n1, n1, n1] ?_ rfl z0 ?_
               ·kernel_rfl
               refine AAny.go (by kernel_rfl) [16, 17] (fuel' := 7) rfl [] #[y1, y1, y1, y1, y1, y1, y1, y1, y1, y1, y1, y1, y1, y1, y1, y1, y1, y1, n1, n1, n1, n1, n1, n1, n1] [173, 179, 181] 0 ⟨[(173, tB true), (179, tS (((v36.1.take (Int.toNat (v3.f3.length : Int))).drop 0).map (fun n => UInt8.ofNat n.toNat))), (181, q0 v3.f3)], []⟩ ?_ z0 trivial ?_
               ·kernel_rfl
               refine AAny.takeStr (F := (FF 223 0)) (i := 18) (fuel' := 6) (by kernel_rfl) rfl (by kernel_rfl) (by kernel_rfl) #[y1, y1, y1, y1, y1, y1, y1, y1, y1, y1, y1, y1, y1, y1, y1, y1, y1, y1, y1, n1, n1, n1, n1, n1, n1] rfl _ rfl rfl rfl _ rfl rfl rfl rfl rfl (n := v3.f3.length) (f := (fun i => (cInt .u8) (v3.f3.getD i default))) rfl v3.f3 rfl (fun _ _ => rfl) ?_
               refine AAny.keepTo [173, 179, 182] 0 ⟨[(173, tB true), (179, tS (((v36.1.take (Int.toNat (v3.f3.length : Int))).drop 0).map (fun n => UInt8.ofNat n.toNat))), (182, tS (v3.f3.map (fun n => UInt8.ofNat n.toNat)))], []⟩ #[y1, y1, y1, y1, y1, y1, y1, y1, y1, y1, y1, y1, y1, y1, y1, y1, y1, y1, y1, n1, n1, n1, n1, n1, n1] ?_ rfl z0 ?_
               ·kernel_rfl
               refine AAny.go (by kernel_rfl) [19, 20, 21] (fuel' := 3) rfl [] #[y1, y1, y1, y1, y1, y1, y1, y1, y1, y1, y1, y1, y1, y1, y1, y1, y1, y1, y1, y1, y1, y1, n1, n1, n1] [185] 0 ⟨[(185, tB ((((v36.1.take (Int.toNat (v3.f3.length : Int))).drop 0).map (fun n => UInt8.ofNat n.toNat)) == (v3.f3.map (fun n => UInt8.ofNat n.toNat))))], []⟩ ?_ z0 trivial ?_
               ·kernel_rfl
               refine AAny.split (fun b => ⟨[(185, tB b)], []⟩) _ (fun hb => ?_) fun hb => ?_
               ·replace hd := of_true hd hb
                obtain ⟨v38, hv38, hd⟩ := of_bind hd
                refine AAny.serial (i := 22) (fuel := 2) (by kernel_rfl) (AOne.callP (F := (FF 223 0)) _ rfl rfl rfl _ rfl rfl _ _ rfl Try.call9 [] rfl rfl (f9_ok  hv38) rfl) ?_
                refine AAny.keepTo [185, 186] 0 ⟨[(185, tB true), (186, tB v38)], []⟩ #[y1, y1, y1, y1, y1, y1, y1, y1, y1, y1, y1, y1, y1, y1, y1, y1, y1, y1, y1, y1, y1, y1, y1, n1, n1] ?_ rfl z0 ?_
                ·kernel_rfl
                refine AAny.go (by kernel_rfl) [23, 24] (fuel' := 0) rfl [] #[y1, y1, y1, y1, y1, y1, y1, y1, y1, y1, y1, y1, y1, y1, y1, y1, y1, y1, y1, y1, y1, y1, y1, y1, y1] [6] 0 ⟨[(6, tB v38)], []⟩ ?_ z0 trivial ?_
                ·kernel_rfl
                refine AAny.keepTo [6] 0 ⟨[(6, tB v38)], []⟩ _ ?_ rfl z0 (AAny.done (by kernel_rfl) ?_)
                ·kernel_rfl
                cases hd
                exact rfl
               ·replace hd := of_false hd hb
                refine AAny.go (by kernel_rfl) [22, 23, 24] (fuel' := 0) rfl [] #[y1, y1, y1, y1, y1, y1, y1, y1, y1, y1, y1, y1, y1, y1, y1, y1, y1, y1, y1, y1, y1, y1, y1, y1, y1] [6] 0 ⟨[(6, tB false)], []⟩ ?_ z0 trivial ?_
                ·kernel_rfl
                refine AAny.keepTo [6] 0 ⟨[(6, tB false)], []⟩ _ ?_ rfl z0 (AAny.done (by kernel_rfl) ?_)
                ·kernel_rfl
                cases hd
                exact rfl
              ·replace hd := of_false hd hb
               refine AAny.go (by kernel_rfl) [10, 11, 12, 13, 14, 15, 16, 17, 18, 19, 20, 21, 22, 23, 24] (fuel' := 0) rfl [] #[y1, y1, y1, y1, y1, y1, y1, y1, y1, y1, y1, y1, y1, y1, y1, y1, y1, y1, y1, y1, y1, y1, y1, y1, y1] [6] 0 ⟨[(6, tB false)], []⟩ ?_ z0 trivial ?_
               ·kernel_rfl
               refine AAny.keepTo [6] 0 ⟨[(6, tB false)], []⟩ _ ?_ rfl z0 (AAny.done (by kernel_rfl) ?_)
               ·kernel_rfl
               cases hd
               exact rfl
             ·replace hd := of_false hd hb
              refine AAny.go (by kernel_rfl) [3, 4, 5, 6, 7, 8, 9, 10, 11, 12, 13, 14, 15, 16, 17, 18, 19, 20, 21, 22, 23, 24] (fuel' := 0) rfl [] #[y1, y1, y1, y1, y1, y1, y1, y1, y1, y1, y1, y1, y1, y1, y1, y1, y1, y1, y1, y1, y1, y1, y1, y1, y1] [6] 0 ⟨[(6, tB false)], []⟩ ?_ z0 trivial ?_
              ·kernel_rfl
              refine AAny.keepTo [6] 0 ⟨[(6, tB false)], []⟩ _ ?_ rfl z0 (AAny.done (by kernel_rfl) ?_)
              ·kernel_rfl
              cases hd
              exact rfl
            rintro σ' rfl
            refine AWp.ret ?_
            cases h
            exact ⟨.inr rfl, rfl⟩
           ·replace h := of_false h hb
            refine AWp.keepTo [5, 7, 10, 11] 3 ⟨[(5, .rp [.int .i64 v3.f0, .int .i64 v3.f1, .int .i64 v3.f2, k0 v3.f3]), (7, .pc 2 0), (10, tI v30), (11, tI v31)], [.dead, .dead, .cells 65 [.str v23.2.f0, .int .i64 v23.2.f1, k0 v23.2.f2, .int .i64 v23.2.f3, .bool v23.2.f4]]⟩ ?_ z0 ?_
            ·kernel_rfl
            refine AWp.skip ?_
            refine AWp.seq ?_
            refine AWp.start [0, 1, 2, 3, 4, 5] [6, 7, 8, 9, 10, 11] [] [5, 7, 11, 189, 191, 194] 3 ⟨[(5, .rp [.int .i64 v3.f0, .int .i64 v3.f1, .int .i64 v3.f2, k0 v3.f3]), (7, .pc 2 0), (11, tI v31), (189, .pc 2 0), (191, tI (w64 (v30 + (1 : Int)))), (194, tI (v3.f3.length : Int))], [.dead, .dead, .cells 65 [.str v23.2.f0, .int .i64 v23.2.f1, k0 v23.2.f2, .int .i64 v23.2.f3, .bool v23.2.f4]]⟩ rfl ?_ z0 trivial ?_
            ·kernel_rfl
            obtain ⟨v39, hv39, h⟩ := of_bind h
            refine AOps.cons (AOne.callO (F := (FF 223 0)) _ rfl rfl rfl 195 rfl rfl 25 [] rfl Try.call25 [2] (by decide) [.pc 0 0, tI (w64 (v30 + (1 : Int))), tI (v3.f3.length : Int)] (by kernel_rfl) [.cells 65 [.str v23.2.f0, .int .i64 v23.2.f1, k0 v23.2.f2, .int .i64 v23.2.f3, .bool v23.2.f4]] (by kernel_rfl) (f25o_ok (w64 (v30 + (1 : Int))) (v3.f3.length : Int) v23.2 hv39) (by kernel_rfl) (by kernel_rfl) _ rfl) ?_
            refine AOps.go [7, 8, 9, 10, 11] [] [] [5, 7, 11, 17, 18] 3 ⟨[(5, .rp [.int .i64 v3.f0, .int .i64 v3.f1, .int .i64 v3.f2, k0 v3.f3]), (7, .pc 2 0), (11, tI v31), (17, q0 v39.1), (18, tI v39.2.1)], [.dead, .dead, .cells 65 [.str v39.2.2.f0, .int .i64 v39.2.2.f1, k0 v39.2.2.f2, .int .i64 v39.2.2.f3, .bool v39.2.2.f4]]⟩ ?_ z0 trivial ?_
            ·kernel_rfl
            refine AOps.nil ?_
            refine AWp.seq ?_
            refine AWp.seq ?_
            refine AWp.start [0, 1, 2, 3] [] [] [5, 7, 11, 17, 18, 201] 3 ⟨[(5, .rp [.int .i64 v3.f0, .int .i64 v3.f1, .int .i64 v3.f2, k0 v3.f3]), (7, .pc 2 0), (11, tI v31), (17, q0 v39.1), (18, tI v39.2.1), (201, tB ((v3.f3.length : Int) == (0 : Int)))], [.dead, .dead, .cells 65 [.str v39.2.2.f0, .int .i64 v39.2.2.f1, k0 v39.2.2.f2, .int .i64 v39.2.2.f3, .bool v39.2.2.f4]]⟩ rfl ?_ z0 trivial ?_
            ·kernel_rfl
            refine AOps.nil ?_
            refine AWp.cond rfl (fun hb => ?_) fun hb => ?_
            ·replace h := of_true h hb
             refine AWp.keepTo [] 0 ⟨[], []⟩ ?_ z0 ?_
             ·kernel_rfl
             refine AWp.seq ?_
             refine AWp.start [] [0, 1] [] [] 0 ⟨[], []⟩ rfl ?_ z0 trivial ?_
             ·kernel_rfl
             obtain ⟨v40, hv40, h⟩ := of_bind h
             refine AOps.cons (AOne.callP (F := (FF 223 0)) _ rfl rfl rfl _ rfl rfl _ _ rfl Try.call9 [] rfl rfl (f9_ok  hv40) rfl) ?_
             refine AOps.go [1] [] [] [6] 0 ⟨[(6, tB v40)], []⟩ ?_ z0 trivial ?_
             ·kernel_rfl
             refine AOps.nil ?_
             refine AWp.ret ?_
             cases h
             exact ⟨.inr rfl, rfl⟩
            ·replace h := of_false h hb
             refine AWp.keepTo [5, 7, 11, 17, 18] 3 ⟨[(5, .rp [.int .i64 v3.f0, .int .i64 v3.f1, .int .i64 v3.f2, k0 v3.f3]), (7, .pc 2 0), (11, tI v31), (17, q0 v39.1), (18, tI v39.2.1)], [.dead, .dead, .cells 65 [.str v39.2.2.f0, .int .i64 v39.2.2.f1, k0 v39.2.2.f2, .int .i64 v39.2.2.f3, .bool v39.2.2.f4]]⟩ ?_ z0 ?_
             ·kernel_rfl
             refine AWp.skip ?_
             refine AWp.seq ?_
             refine AWp.start [0, 1, 2] [3, 4, 5, 6, 7, 8, 9, 10, 11, 12, 13, 14, 15, 16, 17, 18, 19, 20] [] [5, 7, 11, 17, 205] 3 ⟨[(5, .rp [.int .i64 v3.f0, .int .i64 v3.f1, .int .i64 v3.f2, k0 v3.f3]), (7, .pc 2 0), (11, tI v31), (17, q0 v39.1), (205, tB (v39.2.1 == (0 : Int)))], [.dead, .dead, .cells 65 [.str v39.2.2.f0, .int .i64 v39.2.2.f1, k0 v39.2.2.f2, .int .i64 v39.2.2.f3, .bool v39.2.2.f4]]⟩ rfl ?_ z0 trivial ?_
             ·kernel_rfl
             obtain ⟨v41, hc3, h⟩ := of_bind h
             refine AOps.cut [3, 4, 5, 6, 7, 8, 9] [10, 11, 12, 13, 14, 15, 16, 17, 18, 19, 20] (fun σ => σ = ⟨[(7, .pc 2 0), (11, tI v31), (212, tB v41)], [.dead, .dead, .cells 65 [.str v39.2.2.f0, .int .i64 v39.2.2.f1, k0 v39.2.2.f2, .int .i64 v39.2.2.f3, .bool v39.2.2.f4]]⟩) ?_ fun σ' hJ => ?_
             ·refine AOps.split (fun b => ⟨[(5, .rp [.int .i64 v3.f0, .int .i64 v3.f1, .int .i64 v3.f2, k0 v3.f3]), (7, .pc 2 0), (11, tI v31), (17, q0 v39.1), (205, tB b)], [.dead, .dead, .cells 65 [.str v39.2.2.f0, .int .i64 v39.2.2.f1, k0 v39.2.2.f2, .int .i64 v39.2.2.f3, .bool v39.2.2.f4]]⟩) _ (fun hb => ?_) fun hb => ?_
              ·replace hc3 := of_true hc3 hb
               refine AOps.go [3] [4, 5, 6, 7, 8, 9] [] [5, 7, 11, 205, 206] 3 ⟨[(5, .rp [.int .i64 v3.f0, .int .i64 v3.f1, .int .i64 v3.f2, k0 v3.f3]), (7, .pc 2 0), (11, tI v31), (205, tB true), (206, q0 v39.1)], [.dead, .dead, .cells 65 [.str v39.2.2.f0, .int .i64 v39.2.2.f1, k0 v39.2.2.f2, .int .i64 v39.2.2.f3, .bool v39.2.2.f4]]⟩ ?_ z0 trivial ?_
               ·kernel_rfl
               refine AOps.cons (AOne.str (F := (FF 223 0)) _ rfl rfl rfl _ rfl rfl rfl rfl rfl (n := v39.1.length) (f := (fun i => (cInt .u8) (v39.1.getD i default))) rfl v39.1 rfl (fun _ _ => rfl)) ?_
               refine AOps.go [5, 6] [7, 8, 9] [] [7, 11, 205, 207, 209] 3 ⟨[(7, .pc 2 0), (11, tI v31), (205, tB true), (207, tS (v39.1.map (fun n => UInt8.ofNat n.toNat))), (209, q0 v3.f3)], [.dead, .dead, .cells 65 [.str v39.2.2.f0, .int .i64 v39.2.2.f1, k0 v39.2.2.f2, .int .i64 v39.2.2.f3, .bool v39.2.2.f4]]⟩ ?_ z0 trivial ?_
               ·kernel_rfl
               refine AOps.cons (AOne.str (F := (FF 223 0)) _ rfl rfl rfl _ rfl rfl rfl rfl rfl (n := v3.f3.length) (f := (fun i => (cInt .u8) (v3.f3.getD i default))) rfl v3.f3 rfl (fun _ _ => rfl)) ?_
               refine AOps.go [8, 9] [] [] [7, 11, 212] 3 ⟨[(7, .pc 2 0), (11, tI v31), (212, tB ((v39.1.map (fun n => UInt8.ofNat n.toNat)) == (v3.f3.map (fun n => UInt8.ofNat n.toNat))))], [.dead, .dead, .cells 65 [.str v39.2.2.f0, .int .i64 v39.2.2.f1, k0 v39.2.2.f2, .int .i64 v39.2.2.f3, .bool v39.2.2.f4]]⟩ ?_ z0 trivial ?_
               ·kernel_rfl
               cases hc3
               exact AOps.nil rfl
              ·replace hc3 := of_false hc3 hb
               refine AOps.go [3, 4, 5, 6, 7, 8, 9] [] [] [7, 11, 212] 3 ⟨[(7, .pc 2 0), (11, tI v31), (212, tB false)], [.dead, .dead, .cells 65 [.str v39.2.2.f0, .int .i64 v39.2.2.f1, k0 v39.2.2.f2, .int .i64 v39.2.2.f3, .bool v39.2.2.f4]]⟩ ?_ z0 trivial ?_
               ·kernel_rfl
               cases hc3
               exact AOps.nil rfl
             subst hJ
             refine AOps.go [10] [11, 12, 13, 14, 15, 16, 17, 18, 19, 20] [] [7, 11, 213] 3 ⟨[(7, .pc 2 0), (11, tI v31), (213, tB v41)], [.dead, .dead, .cells 65 [.str v39.2.2.f0, .int .i64 v39.2.2.f1, k0 v39.2.2.f2, .int .i64 v39.2.2.f3, .bool v39.2.2.f4]]⟩ ?_ z0 trivial ?_
             ·kernel_rfl
             obtain ⟨v42, hc11, h⟩ := of_bind h
             refine AOps.cut [11, 12, 13, 14, 15, 16] [17, 18, 19, 20] (fun σ => σ = ⟨[(219, tB v42)], []⟩) ?_ fun σ' hJ => ?_
             ·refine AOps.split (fun b => ⟨[(7, .pc 2 0), (11, tI v31), (213, tB b)], [.dead, .dead, .cells 65 [.str v39.2.2.f0, .int .i64 v39.2.2.f1, k0 v39.2.2.f2, .int .i64 v39.2.2.f3, .bool v39.2.2.f4]]⟩) _ (fun hb => ?_) fun hb => ?_
              ·replace hc11 := of_true hc11 hb
               refine AOps.go [11] [12, 13, 14, 15, 16] [] [11, 213, 214] 3 ⟨[(11, tI v31), (213, tB true), (214, .pc 2 0)], [.dead, .dead, .cells 65 [.str v39.2.2.f0, .int .i64 v39.2.2.f1, k0 v39.2.2.f2, .int .i64 v39.2.2.f3, .bool v39.2.2.f4]]⟩ ?_ z0 trivial ?_
               ·kernel_rfl
               obtain ⟨v43, hv43, hc11⟩ := of_bind hc11
               refine AOps.cons (AOne.callR (F := (FF 223 0)) _ rfl rfl rfl _ rfl rfl _ _ rfl Try.call19 [] [.rp [.str v39.2.2.f0, .int .i64 v39.2.2.f1, k0 v39.2.2.f2, .int .i64 v39.2.2.f3, .bool v39.2.2.f4]] rfl trivial (f19_ok v39.2.2 hv43) (ind_of rfl) rfl) ?_
               refine AOps.go [13, 14, 15, 16] [] [] [219] 0 ⟨[(219, tB (v43 == w64 (v31 + (1 : Int))))], []⟩ ?_ z0 trivial ?_
               ·kernel_rfl
               cases hc11
               exact AOps.nil rfl
              ·replace hc11 := of_false hc11 hb
               refine AOps.go [11, 12, 13, 14, 15, 16] [] [] [219] 0 ⟨[(219, tB false)], []⟩ ?_ z0 trivial ?_
               ·kernel_rfl
               cases hc11
               exact AOps.nil rfl
             subst hJ
             refine AOps.go [17] [18, 19, 20] [] [220] 0 ⟨[(220, tB v42)], []⟩ ?_ z0 trivial ?_
             ·kernel_rfl
             obtain ⟨v44, hc18, h⟩ := of_bind h
             refine AOps.cut [18, 19] [20] (fun σ => σ = ⟨[(222, tB v44)], []⟩) ?_ fun σ' hJ => ?_
             ·refine AOps.split (fun b => ⟨[(220, tB b)], []⟩) _ (fun hb => ?_) fun hb => ?_
              ·replace hc18 := of_true hc18 hb
               obtain ⟨v45, hv45, hc18⟩ := of_bind hc18
               refine AOps.cons (AOne.callP (F := (FF 223 0)) _ rfl rfl rfl _ rfl rfl _ _ rfl Try.call9 [] rfl rfl (f9_ok  hv45) rfl) ?_
               refine AOps.go [19] [] [] [222] 0 ⟨[(222, tB v45)], []⟩ ?_ z0 trivial ?_
               ·kernel_rfl
               cases hc18
               exact AOps.nil rfl
              ·replace hc18 := of_false hc18 hb
               refine AOps.go [18, 19] [] [] [222] 0 ⟨[(222, tB false)], []⟩ ?_ z0 trivial ?_
               ·kernel_rfl
               cases hc18
               exact AOps.nil rfl
             subst hJ
             refine AOps.go [20] [] [] [6] 0 ⟨[(6, tB v44)], []⟩ ?_ z0 trivial ?_
             ·kernel_rfl
             refine AOps.nil ?_
             refine AWp.ret ?_
             cases h
             exact ⟨.inr rfl, rfl⟩

end Go.Sx.unit
