/- Printed by program (wip/gen): plain functions and their walks; no condition. -/
import Derived.Test.YtgabiokgockopaaGx2
namespace Go.Sx.sto
open Go Go.Sx Go.Proofs

noncomputable def f4_b1 (v1 : List T36) (v2 : List (List T34)) (v6 : (List Int) × (List Int) × (List Int) × Int) (v9 : Int) (v10 : Int) : Option (Int ⊕ Out Bool Unit) :=
 if (0 : Int) ≤ v9 ∧ v9 < (v2.length : Int) then cond (decide (v10 < ((v2.getD v9.toNat default).length : Int))) (if (0 : Int) ≤ v9 ∧ v9 < (v2.length : Int) ∧ (0 : Int) < ((v2.getD v9.toNat default).length : Int) ∧ (0 : Int) ≤ v9 ∧ v9 < (v2.length : Int) ∧ (0 : Int) ≤ v10 ∧ v10 < ((v2.getD v9.toNat default).length : Int) then (f14 v1 (((v2.getD v9.toNat default).getD 0 default).f0)).bind fun v11 => (f14 v1 (((v2.getD v9.toNat default).getD v10.toNat default).f0)).bind fun v12 => (cond (decide (v11 < (0 : Int))) (some true) (cond (decide (v12 < (0 : Int))) (some true) (if (0 : Int) ≤ v11 ∧ v11 < (v6.1.length : Int) ∧ (0 : Int) ≤ v12 ∧ v12 < (v6.1.length : Int) then cond (v6.1.getD v11.toNat default != v6.1.getD v12.toNat default) (some true) (if (0 : Int) ≤ v11 ∧ v11 < (v6.2.1.length : Int) ∧ (0 : Int) ≤ v9 ∧ v9 < (v2.length : Int) ∧ (0 : Int) < ((v2.getD v9.toNat default).length : Int) ∧ (0 : Int) ≤ v11 ∧ v11 < (v1.length : Int) ∧ (0 : Int) ≤ v12 ∧ v12 < (v6.2.1.length : Int) ∧ (0 : Int) ≤ v9 ∧ v9 < (v2.length : Int) ∧ (0 : Int) ≤ v10 ∧ v10 < ((v2.getD v9.toNat default).length : Int) ∧ (0 : Int) ≤ v12 ∧ v12 < (v1.length : Int) then some (w64 ((v6.2.1.getD v11.toNat default) + (w64 ((((v2.getD v9.toNat default).getD 0 default).f1) * ((v1.getD v11.toNat default).f1)))) != w64 ((v6.2.1.getD v12.toNat default) + (w64 ((((v2.getD v9.toNat default).getD v10.toNat default).f1) * ((v1.getD v12.toNat default).f1))))) else none) else none))).bind fun v13 => cond v13 (some (.inr (.ret false))) (some (.inl (w64 (v10 + (1 : Int))))) else none) (some (.inr (.go ()))) else none

noncomputable def f4_b2 (v1 : List T36) (v2 : List (List T34)) (v6 : (List Int) × (List Int) × (List Int) × Int) (v9 : Int) : Option (Int ⊕ Out Bool Unit) :=
 cond (decide (v9 < (v2.length : Int))) ((iter (fun s => f4_b1 v1 v2 v6 v9 s) (1 : Int)).bind fun y => match y with | .ret v14 => some (.inr (.ret v14)) | .go _ => some (.inl (w64 (v9 + (1 : Int))))) (some (.inr (.go ())))

noncomputable def f4_b3 (v1 : List T36) (v3 : List (List (List UInt8))) (v6 : (List Int) × (List Int) × (List Int) × Int) (v16 : Int) (v17 : Int) (v18 : Int) : Option ((Int × Int) ⊕ Out Bool Unit) :=
 if (0 : Int) ≤ v16 ∧ v16 < (v3.length : Int) then cond (decide (v18 < ((v3.getD v16.toNat default).length : Int))) (if (0 : Int) ≤ v16 ∧ v16 < (v3.length : Int) ∧ (0 : Int) ≤ v18 ∧ v18 < ((v3.getD v16.toNat default).length : Int) then (f14 v1 ((v3.getD v16.toNat default).getD v18.toNat default)).bind fun v19 => (cond (decide (v19 < (0 : Int))) (some true) (if (0 : Int) ≤ v16 ∧ v16 < (v3.length : Int) ∧ (0 : Int) < ((v3.getD v16.toNat default).length : Int) then (f14 v1 ((v3.getD v16.toNat default).getD 0 default)).bind fun v21 => cond (decide (v21 < (0 : Int))) (some true) (if (0 : Int) ≤ v19 ∧ v19 < (v6.2.1.length : Int) then cond (v6.2.1.getD v19.toNat default != v17) (some true) (if (0 : Int) ≤ v19 ∧ v19 < (v6.1.length : Int) ∧ (0 : Int) ≤ v16 ∧ v16 < (v3.length : Int) ∧ (0 : Int) < ((v3.getD v16.toNat default).length : Int) then (f14 v1 ((v3.getD v16.toNat default).getD 0 default)).bind fun v22 => if (0 : Int) ≤ v22 ∧ v22 < (v6.1.length : Int) then some (v6.1.getD v19.toNat default != v6.1.getD v22.toNat default) else none else none) else none) else none)).bind fun v20 => cond v20 (some (.inr (.ret false))) (if (0 : Int) ≤ v19 ∧ v19 < (v1.length : Int) ∧ (0 : Int) ≤ v19 ∧ v19 < (v1.length : Int) then some (.inl (w64 (v17 + (w64 (((v1.getD v19.toNat default).f1) * ((v1.getD v19.toNat default).f2)))), w64 (v18 + (1 : Int)))) else none) else none) (some (.inr (.go ()))) else none

noncomputable def f4_b4 (v1 : List T36) (v3 : List (List (List UInt8))) (v6 : (List Int) × (List Int) × (List Int) × Int) (v16 : Int) : Option (Int ⊕ Out Bool Unit) :=
 cond (decide (v16 < (v3.length : Int))) ((iter (fun s => f4_b3 v1 v3 v6 v16 s.1 s.2) ((0 : Int), (0 : Int))).bind fun y => match y with | .ret v23 => some (.inr (.ret v23)) | .go _ => some (.inl (w64 (v16 + (1 : Int))))) (some (.inr (.go ())))

noncomputable def f4 (v1 : List T36) (v2 : List (List T34)) (v3 : List (List (List UInt8))) : Option Bool :=
 (f9 v1 v2 v3).bind fun v4 => cond v4 ((f10 ).bind fun v5 => some v5) ((f11 v1 v2 v3).bind fun v6 => cond (v6.2.2.2 != (0 : Int)) ((f10 ).bind fun v7 => some v7) ((cond ((v6.1.length : Int) != (v1.length : Int)) (some true) (some ((v6.2.1.length : Int) != (v1.length : Int)))).bind fun v8 => cond v8 (some false) ((iter (fun s => f4_b2 v1 v2 v6 s) (0 : Int)).bind fun y => match y with | .ret v15 => some v15 | .go _ => (iter (fun s => f4_b4 v1 v3 v6 s) (0 : Int)).bind fun y => match y with | .ret v24 => some v24 | .go _ => (f15 v1 v6.1 v6.2.1 v6.2.2.1).bind fun v25 => (cond v25 ((f10 ).bind fun v27 => some v27) (some false)).bind fun v26 => some v26)))

theorem f4_ok (v1 : List T36) (v2 : List (List T34)) (v3 : List (List (List UInt8))) {r : Bool} (h : f4 v1 v2 v3 = some r) : ACall Try.prog 4 [.tv (fzL 3 c36 v1), .tv (fzL 1 (cSl 2 c34) v2), .tv (fzL 1 (cSl 1 cStr) v3)] [] (.tv (.bool r)) [] := by
 refine ACall.of1 (FF 223 0) Try.func4 rfl Try.ntmps4 Try.results4 (Nat.le_of_ble_eq_true rfl) rfl rfl ?_
 refine AWp.seq ?_
 refine AWp.start [0] [] [] [0, 1, 2] 0 ⟨[(0, q0 v1), (1, .tv (fzL 1 (cSl 2 c34) v2)), (2, .tv (fzL 1 (cSl 1 cStr) v3))], []⟩ rfl ?_ z0 trivial ?_
 ·kernel_rfl
 refine AOps.nil ?_
 refine AWp.seq ?_
 refine AWp.seq ?_
 refine AWp.start [0, 1, 2] [3] [] [0, 1, 2, 19, 20, 21] 0 ⟨[(0, q0 v1), (1, .tv (fzL 1 (cSl 2 c34) v2)), (2, .tv (fzL 1 (cSl 1 cStr) v3)), (19, q0 v1), (20, .tv (fzL 1 (cSl 2 c34) v2)), (21, .tv (fzL 1 (cSl 1 cStr) v3))], []⟩ rfl ?_ z0 trivial ?_
 ·kernel_rfl
 obtain ⟨v4, hv4, h⟩ := of_bind h
 refine AOps.cons (AOne.callP (F := (FF 223 0)) _ rfl rfl rfl _ rfl rfl _ _ rfl Try.call9 [q0 v1, .tv (fzL 1 (cSl 2 c34) v2), .tv (fzL 1 (cSl 1 cStr) v3)] rfl rfl (f9_ok v1 v2 v3 hv4) rfl) ?_
 refine AOps.keepTo [0, 1, 2, 22] 0 ⟨[(0, q0 v1), (1, .tv (fzL 1 (cSl 2 c34) v2)), (2, .tv (fzL 1 (cSl 1 cStr) v3)), (22, tB v4)], []⟩ ?_ z0 ?_
 ·kernel_rfl
 refine AOps.nil ?_
 refine AWp.cond rfl (fun hb => ?_) fun hb => ?_
 ·replace h := of_true h hb
  refine AWp.keepTo [] 0 ⟨[], []⟩ ?_ z0 ?_
  ·kernel_rfl
  refine AWp.seq ?_
  refine AWp.start [] [0, 1] [] [] 0 ⟨[], []⟩ rfl ?_ z0 trivial ?_
  ·kernel_rfl
  obtain ⟨v5, hv5, h⟩ := of_bind h
  refine AOps.cons (AOne.callP (F := (FF 223 0)) _ rfl rfl rfl _ rfl rfl _ _ rfl Try.call10 [] rfl rfl (f10_ok  hv5) rfl) ?_
  refine AOps.go [1] [] [] [6] 0 ⟨[(6, tB v5)], []⟩ ?_ z0 trivial ?_
  ·kernel_rfl
  refine AOps.nil ?_
  refine AWp.ret ?_
  cases h
  exact ⟨.inr rfl, rfl⟩
 ·replace h := of_false h hb
  refine AWp.keepTo [0, 1, 2] 0 ⟨[(0, q0 v1), (1, .tv (fzL 1 (cSl 2 c34) v2)), (2, .tv (fzL 1 (cSl 1 cStr) v3))], []⟩ ?_ z0 ?_
  ·kernel_rfl
  refine AWp.skip ?_
  refine AWp.seq ?_
  refine AWp.start [0, 1, 2] [3, 4, 5, 6, 7, 8, 9, 10, 11, 12] [] [0, 1, 2, 25, 26, 27] 0 ⟨[(0, q0 v1), (1, .tv (fzL 1 (cSl 2 c34) v2)), (2, .tv (fzL 1 (cSl 1 cStr) v3)), (25, q0 v1), (26, .tv (fzL 1 (cSl 2 c34) v2)), (27, .tv (fzL 1 (cSl 1 cStr) v3))], []⟩ rfl ?_ z0 trivial ?_
  ·kernel_rfl
  obtain ⟨v6, hv6, h⟩ := of_bind h
  refine AOps.cons (AOne.callP (F := (FF 223 0)) _ rfl rfl rfl _ rfl rfl _ _ rfl Try.call11 [q0 v1, .tv (fzL 1 (cSl 2 c34) v2), .tv (fzL 1 (cSl 1 cStr) v3)] rfl rfl (f11_ok v1 v2 v3 hv6) rfl) ?_
  refine AOps.go [4, 5, 6, 7, 8, 9, 10, 11, 12] [] [] [0, 1, 2, 7, 8, 9, 10] 0 ⟨[(0, q0 v1), (1, .tv (fzL 1 (cSl 2 c34) v2)), (2, .tv (fzL 1 (cSl 1 cStr) v3)), (7, q1 v6.1), (8, q1 v6.2.1), (9, q1 v6.2.2.1), (10, tI v6.2.2.2)], []⟩ ?_ z0 trivial ?_
  ·kernel_rfl
  refine AOps.nil ?_
  refine AWp.seq ?_
  refine AWp.seq ?_
  refine AWp.start [0, 1] [] [] [0, 1, 2, 7, 8, 9, 34] 0 ⟨[(0, q0 v1), (1, .tv (fzL 1 (cSl 2 c34) v2)), (2, .tv (fzL 1 (cSl 1 cStr) v3)), (7, q1 v6.1), (8, q1 v6.2.1), (9, q1 v6.2.2.1), (34, tB (v6.2.2.2 != (0 : Int)))], []⟩ rfl ?_ z0 trivial ?_
  ·kernel_rfl
  refine AOps.nil ?_
  refine AWp.cond rfl (fun hb => ?_) fun hb => ?_
  ·replace h := of_true h hb
   refine AWp.keepTo [] 0 ⟨[], []⟩ ?_ z0 ?_
   ·kernel_rfl
   refine AWp.seq ?_
   refine AWp.start [] [0, 1] [] [] 0 ⟨[], []⟩ rfl ?_ z0 trivial ?_
   ·kernel_rfl
   obtain ⟨v7, hv7, h⟩ := of_bind h
   refine AOps.cons (AOne.callP (F := (FF 223 0)) _ rfl rfl rfl _ rfl rfl _ _ rfl Try.call10 [] rfl rfl (f10_ok  hv7) rfl) ?_
   refine AOps.go [1] [] [] [6] 0 ⟨[(6, tB v7)], []⟩ ?_ z0 trivial ?_
   ·kernel_rfl
   refine AOps.nil ?_
   refine AWp.ret ?_
   cases h
   exact ⟨.inr rfl, rfl⟩
  ·replace h := of_false h hb
   refine AWp.keepTo [0, 1, 2, 7, 8, 9] 0 ⟨[(0, q0 v1), (1, .tv (fzL 1 (cSl 2 c34) v2)), (2, .tv (fzL 1 (cSl 1 cStr) v3)), (7, q1 v6.1), (8, q1 v6.2.1), (9, q1 v6.2.2.1)], []⟩ ?_ z0 ?_
   ·kernel_rfl
   refine AWp.skip ?_
   refine AWp.seq ?_
   refine AWp.seq ?_
   refine AWp.start [0, 1, 2, 3, 4, 5] [6, 7, 8, 9, 10, 11] [] [0, 1, 2, 7, 8, 9, 41] 0 ⟨[(0, q0 v1), (1, .tv (fzL 1 (cSl 2 c34) v2)), (2, .tv (fzL 1 (cSl 1 cStr) v3)), (7, q1 v6.1), (8, q1 v6.2.1), (9, q1 v6.2.2.1), (41, tB ((v6.1.length : Int) != (v1.length : Int)))], []⟩ rfl ?_ z0 trivial ?_
   ·kernel_rfl
   obtain ⟨v8, hc6, h⟩ := of_bind h
   refine AOps.cut [6, 7, 8, 9, 10, 11] [] (fun σ => σ = ⟨[(0, q0 v1), (1, .tv (fzL 1 (cSl 2 c34) v2)), (2, .tv (fzL 1 (cSl 1 cStr) v3)), (7, q1 v6.1), (8, q1 v6.2.1), (9, q1 v6.2.2.1), (47, tB v8)], []⟩) ?_ fun σ' hJ => ?_
   ·refine AOps.split (fun b => ⟨[(0, q0 v1), (1, .tv (fzL 1 (cSl 2 c34) v2)), (2, .tv (fzL 1 (cSl 1 cStr) v3)), (7, q1 v6.1), (8, q1 v6.2.1), (9, q1 v6.2.2.1), (41, tB b)], []⟩) _ (fun hb => ?_) fun hb => ?_
    ·replace hc6 := of_true hc6 hb
     refine AOps.go [6, 7, 8, 9, 10, 11] [] [] [0, 1, 2, 7, 8, 9, 47] 0 ⟨[(0, q0 v1), (1, .tv (fzL 1 (cSl 2 c34) v2)), (2, .tv (fzL 1 (cSl 1 cStr) v3)), (7, q1 v6.1), (8, q1 v6.2.1), (9, q1 v6.2.2.1), (47, tB true)], []⟩ ?_ z0 trivial ?_
     ·kernel_rfl
     cases hc6
     exact AOps.nil rfl
    ·replace hc6 := of_false hc6 hb
     refine AOps.go [6, 7, 8, 9, 10, 11] [] [] [0, 1, 2, 7, 8, 9, 47] 0 ⟨[(0, q0 v1), (1, .tv (fzL 1 (cSl 2 c34) v2)), (2, .tv (fzL 1 (cSl 1 cStr) v3)), (7, q1 v6.1), (8, q1 v6.2.1), (9, q1 v6.2.2.1), (47, tB ((v6.2.1.length : Int) != (v1.length : Int)))], []⟩ ?_ z0 trivial ?_
     ·kernel_rfl
     cases hc6
     exact AOps.nil rfl
   subst hJ
   refine AOps.nil ?_
   refine AWp.cond rfl (fun hb => ?_) fun hb => ?_
   ·replace h := of_true h hb
    refine AWp.keepTo [] 0 ⟨[], []⟩ ?_ z0 ?_
    ·kernel_rfl
    refine AWp.seq ?_
    refine AWp.start [0] [] [] [6] 0 ⟨[(6, tB false)], []⟩ rfl ?_ z0 trivial ?_
    ·kernel_rfl
    refine AOps.nil ?_
    refine AWp.ret ?_
    cases h
    exact ⟨.inr rfl, rfl⟩
   ·replace h := of_false h hb
    refine AWp.keepTo [0, 1, 2, 7, 8, 9] 0 ⟨[(0, q0 v1), (1, .tv (fzL 1 (cSl 2 c34) v2)), (2, .tv (fzL 1 (cSl 1 cStr) v3)), (7, q1 v6.1), (8, q1 v6.2.1), (9, q1 v6.2.2.1)], []⟩ ?_ z0 ?_
    ·kernel_rfl
    refine AWp.skip ?_
    refine AWp.seq ?_
    refine AWp.seq ?_
    refine AWp.start [0] [] [] [0, 1, 2, 7, 8, 9, 11] 0 ⟨[(0, q0 v1), (1, .tv (fzL 1 (cSl 2 c34) v2)), (2, .tv (fzL 1 (cSl 1 cStr) v3)), (7, q1 v6.1), (8, q1 v6.2.1), (9, q1 v6.2.2.1), (11, tI (0 : Int))], []⟩ rfl ?_ z0 trivial ?_
    ·kernel_rfl
    refine AOps.nil ?_
    refine AWp.block ?_
    obtain ⟨y, hy, h⟩ := of_bind h
    refine AWp.mono (AWp.loop (S := Int) (Y := Out Bool Unit) (fun s => ⟨[(0, q0 v1), (1, .tv (fzL 1 (cSl 2 c34) v2)), (2, .tv (fzL 1 (cSl 1 cStr) v3)), (7, q1 v6.1), (8, q1 v6.2.1), (9, q1 v6.2.2.1), (11, tI s)], []⟩) (fun s => f4_b2 v1 v2 v6 s) (fun y e σ => match y with | .ret r => e = .ret ∧ σ = ⟨[(6, tB r)], []⟩ | .go v => e = .exit 0 ∧ σ = ⟨[(0, q0 v1), (2, .tv (fzL 1 (cSl 1 cStr) v3)), (7, q1 v6.1), (8, q1 v6.2.1), (9, q1 v6.2.2.1)], []⟩) ?_ hy) ?_
    ·rintro v9 o h
     refine AWp.seq ?_
     refine AWp.seq ?_
     refine AWp.start [0, 1, 2, 3] [] [] [0, 1, 2, 7, 8, 9, 11, 51] 0 ⟨[(0, q0 v1), (1, .tv (fzL 1 (cSl 2 c34) v2)), (2, .tv (fzL 1 (cSl 1 cStr) v3)), (7, q1 v6.1), (8, q1 v6.2.1), (9, q1 v6.2.2.1), (11, tI v9), (51, tB (decide (v9 < (v2.length : Int))))], []⟩ rfl ?_ z0 trivial ?_
     ·kernel_rfl
     refine AOps.nil ?_
     refine AWp.cond rfl (fun hb => ?_) fun hb => ?_
     ·replace h := of_true h hb
      refine AWp.keepTo [0, 1, 2, 7, 8, 9, 11] 0 ⟨[(0, q0 v1), (1, .tv (fzL 1 (cSl 2 c34) v2)), (2, .tv (fzL 1 (cSl 1 cStr) v3)), (7, q1 v6.1), (8, q1 v6.2.1), (9, q1 v6.2.2.1), (11, tI v9)], []⟩ ?_ z0 ?_
      ·kernel_rfl
      refine AWp.skip ?_
      refine AWp.seq ?_
      refine AWp.block ?_
      refine AWp.seq ?_
      refine AWp.start [0] [] [] [0, 1, 2, 7, 8, 9, 11, 12] 0 ⟨[(0, q0 v1), (1, .tv (fzL 1 (cSl 2 c34) v2)), (2, .tv (fzL 1 (cSl 1 cStr) v3)), (7, q1 v6.1), (8, q1 v6.2.1), (9, q1 v6.2.2.1), (11, tI v9), (12, tI (1 : Int))], []⟩ rfl ?_ z0 trivial ?_
      ·kernel_rfl
      refine AOps.nil ?_
      refine AWp.block ?_
      obtain ⟨y, hy, h⟩ := of_bind h
      refine AWp.mono (AWp.loop (S := Int) (Y := Out Bool Unit) (fun s => ⟨[(0, q0 v1), (1, .tv (fzL 1 (cSl 2 c34) v2)), (2, .tv (fzL 1 (cSl 1 cStr) v3)), (7, q1 v6.1), (8, q1 v6.2.1), (9, q1 v6.2.2.1), (11, tI v9), (12, tI s)], []⟩) (fun s => f4_b1 v1 v2 v6 v9 s) (fun y e σ => match y with | .ret r => e = .ret ∧ σ = ⟨[(6, tB r)], []⟩ | .go v => e = .exit 2 ∧ σ = ⟨[(0, q0 v1), (1, .tv (fzL 1 (cSl 2 c34) v2)), (2, .tv (fzL 1 (cSl 1 cStr) v3)), (7, q1 v6.1), (8, q1 v6.2.1), (9, q1 v6.2.2.1), (11, tI v9)], []⟩) ?_ hy) ?_
      ·rintro v10 o h
       refine AWp.seq ?_
       refine AWp.seq ?_
       obtain ⟨hg, h⟩ := of_guard h
       refine AWp.start [0, 1, 2, 3, 4, 5, 6] [] [(0 : Int) ≤ v9, v9 < (v2.length : Int)] [0, 1, 2, 7, 8, 9, 11, 12, 60] 0 ⟨[(0, q0 v1), (1, .tv (fzL 1 (cSl 2 c34) v2)), (2, .tv (fzL 1 (cSl 1 cStr) v3)), (7, q1 v6.1), (8, q1 v6.2.1), (9, q1 v6.2.2.1), (11, tI v9), (12, tI v10), (60, tB (decide (v10 < ((gD v2 v9).length : Int))))], []⟩ rfl ?_ z0 ⟨hg.1, hg.2⟩ ?_
       ·kernel_rfl
       refine AOps.nil ?_
       refine AWp.cond rfl (fun hb => ?_) fun hb => ?_
       ·replace h := of_true h hb
        refine AWp.keepTo [0, 1, 2, 7, 8, 9, 11, 12] 0 ⟨[(0, q0 v1), (1, .tv (fzL 1 (cSl 2 c34) v2)), (2, .tv (fzL 1 (cSl 1 cStr) v3)), (7, q1 v6.1), (8, q1 v6.2.1), (9, q1 v6.2.2.1), (11, tI v9), (12, tI v10)], []⟩ ?_ z0 ?_
        ·kernel_rfl
        refine AWp.skip ?_
        refine AWp.seq ?_
        refine AWp.block ?_
        refine AWp.seq ?_
        refine AWp.draw FFm _ (n := 21) rfl (ls := #[n1, n1, n1, n1, n1, n1, n1, n1, n1, n1, n1, n1, n1, n1, n1, n1, n1, n1, n1, n1, n1]) rfl ?_ (fun _ h => h)
        obtain ⟨hg, h⟩ := of_guard h
        refine AAny.go (by kernel_rfl) [0, 1, 2, 3, 4, 5, 6, 7, 9, 10, 11, 12, 13, 14, 15, 16, 17] (fuel' := 4) rfl [(0 : Int) ≤ v9, v9 < (v2.length : Int), (0 : Int) ≤ (0 : Int), (0 : Int) < ((gD v2 v9).length : Int), (0 : Int) ≤ v9, v9 < (v2.length : Int), (0 : Int) ≤ v10, v10 < ((gD v2 v9).length : Int)] #[y1, y1, y1, y1, y1, y1, y1, y1, n1, y1, y1, y1, y1, y1, y1, y1, y1, y1, n1, n1, n1] [0, 1, 2, 7, 8, 9, 11, 12, 63, 70, 72, 80] 0 ⟨[(0, q0 v1), (1, .tv (fzL 1 (cSl 2 c34) v2)), (2, .tv (fzL 1 (cSl 1 cStr) v3)), (7, q1 v6.1), (8, q1 v6.2.1), (9, q1 v6.2.2.1), (11, tI v9), (12, tI v10), (63, q0 v1), (70, tS (((gD v2 v9).getD 0 default).f0)), (72, q0 v1), (80, tS ((gD (gD v2 v9) v10).f0))], []⟩ ?_ z0 ⟨hg.1, hg.2.1, (by decide : (0 : Int) ≤ (0 : Int)), hg.2.2.1, hg.2.2.2.1, hg.2.2.2.2.1, hg.2.2.2.2.2.1, hg.2.2.2.2.2.2⟩ ?_
        ·kernel_rfl
        obtain ⟨v11, hv11, h⟩ := of_bind h
        refine AAny.serial (i := 8) (fuel := 3) (by kernel_rfl) (AOne.callP (F := (FF 223 0)) _ rfl rfl rfl _ rfl rfl _ _ rfl Try.call14 [q0 v1, tS (((gD v2 v9).getD 0 default).f0)] rfl rfl (f14_ok v1 (((gD v2 v9).getD 0 default).f0) hv11) rfl) ?_
        refine AAny.keepTo [0, 1, 2, 7, 8, 9, 11, 12, 71, 72, 80] 0 ⟨[(0, q0 v1), (1, .tv (fzL 1 (cSl 2 c34) v2)), (2, .tv (fzL 1 (cSl 1 cStr) v3)), (7, q1 v6.1), (8, q1 v6.2.1), (9, q1 v6.2.2.1), (11, tI v9), (12, tI v10), (71, tI v11), (72, q0 v1), (80, tS ((gD (gD v2 v9) v10).f0))], []⟩ #[y1, y1, y1, y1, y1, y1, y1, y1, y1, y1, y1, y1, y1, y1, y1, y1, y1, y1, n1, n1, n1] ?_ rfl z0 ?_
        ·kernel_rfl
        obtain ⟨v12, hv12, h⟩ := of_bind h
        refine AAny.serial (i := 18) (fuel := 2) (by kernel_rfl) (AOne.callP (F := (FF 223 0)) _ rfl rfl rfl _ rfl rfl _ _ rfl Try.call14 [q0 v1, tS ((gD (gD v2 v9) v10).f0)] rfl rfl (f14_ok v1 ((gD (gD v2 v9) v10).f0) hv12) rfl) ?_
        refine AAny.keepTo [0, 1, 2, 7, 8, 9, 11, 12, 71, 81] 0 ⟨[(0, q0 v1), (1, .tv (fzL 1 (cSl 2 c34) v2)), (2, .tv (fzL 1 (cSl 1 cStr) v3)), (7, q1 v6.1), (8, q1 v6.2.1), (9, q1 v6.2.2.1), (11, tI v9), (12, tI v10), (71, tI v11), (81, tI v12)], []⟩ #[y1, y1, y1, y1, y1, y1, y1, y1, y1, y1, y1, y1, y1, y1, y1, y1, y1, y1, y1, n1, n1] ?_ rfl z0 ?_
        ·kernel_rfl
        refine AAny.go (by kernel_rfl) [19, 20] (fuel' := 0) rfl [] #[y1, y1, y1, y1, y1, y1, y1, y1, y1, y1, y1, y1, y1, y1, y1, y1, y1, y1, y1, y1, y1] [0, 1, 2, 7, 8, 9, 11, 12, 13, 14] 0 ⟨[(0, q0 v1), (1, .tv (fzL 1 (cSl 2 c34) v2)), (2, .tv (fzL 1 (cSl 1 cStr) v3)), (7, q1 v6.1), (8, q1 v6.2.1), (9, q1 v6.2.2.1), (11, tI v9), (12, tI v10), (13, tI v11), (14, tI v12)], []⟩ ?_ z0 trivial ?_
        ·kernel_rfl
        refine AAny.keepTo [0, 1, 2, 7, 8, 9, 11, 12, 13, 14] 0 ⟨[(0, q0 v1), (1, .tv (fzL 1 (cSl 2 c34) v2)), (2, .tv (fzL 1 (cSl 1 cStr) v3)), (7, q1 v6.1), (8, q1 v6.2.1), (9, q1 v6.2.2.1), (11, tI v9), (12, tI v10), (13, tI v11), (14, tI v12)], []⟩ _ ?_ rfl z0 (AAny.done (by kernel_rfl) ?_)
        ·kernel_rfl
        refine AWp.seq ?_
        obtain ⟨v13, hd, h⟩ := of_bind h
        refine AWp.draw FFm (fun σ => σ = ⟨[(0, q0 v1), (1, .tv (fzL 1 (cSl 2 c34) v2)), (2, .tv (fzL 1 (cSl 1 cStr) v3)), (7, q1 v6.1), (8, q1 v6.2.1), (9, q1 v6.2.2.1), (11, tI v9), (12, tI v10), (138, tB v13)], []⟩) (n := 57) rfl (ls := #[n1, n1, n1, n1, n1, n1, n1, n1, n1, n1, n1, n1, n1, n1, n1, n1, n1, n1, n1, n1, n1, n1, n1, n1, n1, n1, n1, n1, n1, n1, n1, n1, n1, n1, n1, n1, n1, n1, n1, n1, n1, n1, n1, n1, n1, n1, n1, n1, n1, n1, n1, n1, n1, n1, n1, n1, n1]) rfl ?_ ?_
        ·refine AAny.go (by kernel_rfl) [0, 1, 2] (fuel' := 54) rfl [] #[y1, y1, y1, n1, n1, n1, n1, n1, n1, n1, n1, n1, n1, n1, n1, n1, n1, n1, n1, n1, n1, n1, n1, n1, n1, n1, n1, n1, n1, n1, n1, n1, n1, n1, n1, n1, n1, n1, n1, n1, n1, n1, n1, n1, n1, n1, n1, n1, n1, n1, n1, n1, n1, n1, n1, n1, n1] [0, 1, 2, 7, 8, 9, 11, 12, 13, 14, 84] 0 ⟨[(0, q0 v1), (1, .tv (fzL 1 (cSl 2 c34) v2)), (2, .tv (fzL 1 (cSl 1 cStr) v3)), (7, q1 v6.1), (8, q1 v6.2.1), (9, q1 v6.2.2.1), (11, tI v9), (12, tI v10), (13, tI v11), (14, tI v12), (84, tB (decide (v11 < (0 : Int))))], []⟩ ?_ z0 trivial ?_
         ·kernel_rfl
         refine AAny.split (fun b => ⟨[(0, q0 v1), (1, .tv (fzL 1 (cSl 2 c34) v2)), (2, .tv (fzL 1 (cSl 1 cStr) v3)), (7, q1 v6.1), (8, q1 v6.2.1), (9, q1 v6.2.2.1), (11, tI v9), (12, tI v10), (13, tI v11), (14, tI v12), (84, tB b)], []⟩) _ (fun hb => ?_) fun hb => ?_
         ·replace hd := of_true hd hb
          refine AAny.go (by kernel_rfl) [3, 4, 5, 6, 7, 8, 9, 10, 11, 12, 13, 14, 15, 16, 17, 18, 19, 20, 21, 22, 23, 24, 25, 26, 27, 28, 29, 30, 31, 32, 33, 34, 35, 36, 37, 38, 39, 40, 41, 42, 43, 44, 45, 46, 47, 48, 49, 50, 51, 52, 53, 54, 55, 56] (fuel' := 0) rfl [] #[y1, y1, y1, y1, y1, y1, y1, y1, y1, y1, y1, y1, y1, y1, y1, y1, y1, y1, y1, y1, y1, y1, y1, y1, y1, y1, y1, y1, y1, y1, y1, y1, y1, y1, y1, y1, y1, y1, y1, y1, y1, y1, y1, y1, y1, y1, y1, y1, y1, y1, y1, y1, y1, y1, y1, y1, y1] [0, 1, 2, 7, 8, 9, 11, 12, 138] 0 ⟨[(0, q0 v1), (1, .tv (fzL 1 (cSl 2 c34) v2)), (2, .tv (fzL 1 (cSl 1 cStr) v3)), (7, q1 v6.1), (8, q1 v6.2.1), (9, q1 v6.2.2.1), (11, tI v9), (12, tI v10), (138, tB true)], []⟩ ?_ z0 trivial ?_
          ·kernel_rfl
          refine AAny.keepTo [0, 1, 2, 7, 8, 9, 11, 12, 138] 0 ⟨[(0, q0 v1), (1, .tv (fzL 1 (cSl 2 c34) v2)), (2, .tv (fzL 1 (cSl 1 cStr) v3)), (7, q1 v6.1), (8, q1 v6.2.1), (9, q1 v6.2.2.1), (11, tI v9), (12, tI v10), (138, tB true)], []⟩ _ ?_ rfl z0 (AAny.done (by kernel_rfl) ?_)
          ·kernel_rfl
          cases hd
          exact rfl
         ·replace hd := of_false hd hb
          refine AAny.go (by kernel_rfl) [3, 4, 5, 6] (fuel' := 50) rfl [] #[y1, y1, y1, y1, y1, y1, y1, n1, n1, n1, n1, n1, n1, n1, n1, n1, n1, n1, n1, n1, n1, n1, n1, n1, n1, n1, n1, n1, n1, n1, n1, n1, n1, n1, n1, n1, n1, n1, n1, n1, n1, n1, n1, n1, n1, n1, n1, n1, n1, n1, n1, n1, n1, n1, n1, n1, n1] [0, 1, 2, 7, 8, 9, 11, 12, 13, 14, 88] 0 ⟨[(0, q0 v1), (1, .tv (fzL 1 (cSl 2 c34) v2)), (2, .tv (fzL 1 (cSl 1 cStr) v3)), (7, q1 v6.1), (8, q1 v6.2.1), (9, q1 v6.2.2.1), (11, tI v9), (12, tI v10), (13, tI v11), (14, tI v12), (88, tB (decide (v12 < (0 : Int))))], []⟩ ?_ z0 trivial ?_
          ·kernel_rfl
          refine AAny.split (fun b => ⟨[(0, q0 v1), (1, .tv (fzL 1 (cSl 2 c34) v2)), (2, .tv (fzL 1 (cSl 1 cStr) v3)), (7, q1 v6.1), (8, q1 v6.2.1), (9, q1 v6.2.2.1), (11, tI v9), (12, tI v10), (13, tI v11), (14, tI v12), (88, tB b)], []⟩) _ (fun hb => ?_) fun hb => ?_
          ·replace hd := of_true hd hb
           refine AAny.go (by kernel_rfl) [7, 8, 9, 10, 11, 12, 13, 14, 15, 16, 17, 18, 19, 20, 21, 22, 23, 24, 25, 26, 27, 28, 29, 30, 31, 32, 33, 34, 35, 36, 37, 38, 39, 40, 41, 42, 43, 44, 45, 46, 47, 48, 49, 50, 51, 52, 53, 54, 55, 56] (fuel' := 0) rfl [] #[y1, y1, y1, y1, y1, y1, y1, y1, y1, y1, y1, y1, y1, y1, y1, y1, y1, y1, y1, y1, y1, y1, y1, y1, y1, y1, y1, y1, y1, y1, y1, y1, y1, y1, y1, y1, y1, y1, y1, y1, y1, y1, y1, y1, y1, y1, y1, y1, y1, y1, y1, y1, y1, y1, y1, y1, y1] [0, 1, 2, 7, 8, 9, 11, 12, 138] 0 ⟨[(0, q0 v1), (1, .tv (fzL 1 (cSl 2 c34) v2)), (2, .tv (fzL 1 (cSl 1 cStr) v3)), (7, q1 v6.1), (8, q1 v6.2.1), (9, q1 v6.2.2.1), (11, tI v9), (12, tI v10), (138, tB true)], []⟩ ?_ z0 trivial ?_
           ·kernel_rfl
           refine AAny.keepTo [0, 1, 2, 7, 8, 9, 11, 12, 138] 0 ⟨[(0, q0 v1), (1, .tv (fzL 1 (cSl 2 c34) v2)), (2, .tv (fzL 1 (cSl 1 cStr) v3)), (7, q1 v6.1), (8, q1 v6.2.1), (9, q1 v6.2.2.1), (11, tI v9), (12, tI v10), (138, tB true)], []⟩ _ ?_ rfl z0 (AAny.done (by kernel_rfl) ?_)
           ·kernel_rfl
           cases hd
           exact rfl
          ·replace hd := of_false hd hb
           obtain ⟨hg, hd⟩ := of_guard hd
           refine AAny.go (by kernel_rfl) [7, 8, 9, 10, 11, 12, 13, 14, 15, 16, 17] (fuel' := 39) rfl [(0 : Int) ≤ v11, v11 < (v6.1.length : Int), (0 : Int) ≤ v12, v12 < (v6.1.length : Int)] #[y1, y1, y1, y1, y1, y1, y1, y1, y1, y1, y1, y1, y1, y1, y1, y1, y1, y1, n1, n1, n1, n1, n1, n1, n1, n1, n1, n1, n1, n1, n1, n1, n1, n1, n1, n1, n1, n1, n1, n1, n1, n1, n1, n1, n1, n1, n1, n1, n1, n1, n1, n1, n1, n1, n1, n1, n1] [0, 1, 2, 7, 8, 9, 11, 12, 13, 14, 99] 0 ⟨[(0, q0 v1), (1, .tv (fzL 1 (cSl 2 c34) v2)), (2, .tv (fzL 1 (cSl 1 cStr) v3)), (7, q1 v6.1), (8, q1 v6.2.1), (9, q1 v6.2.2.1), (11, tI v9), (12, tI v10), (13, tI v11), (14, tI v12), (99, tB (gD v6.1 v11 != gD v6.1 v12))], []⟩ ?_ z0 ⟨hg.1, hg.2.1, hg.2.2.1, hg.2.2.2⟩ ?_
           ·kernel_rfl
           refine AAny.split (fun b => ⟨[(0, q0 v1), (1, .tv (fzL 1 (cSl 2 c34) v2)), (2, .tv (fzL 1 (cSl 1 cStr) v3)), (7, q1 v6.1), (8, q1 v6.2.1), (9, q1 v6.2.2.1), (11, tI v9), (12, tI v10), (13, tI v11), (14, tI v12), (99, tB b)], []⟩) _ (fun hb => ?_) fun hb => ?_
           ·replace hd := of_true hd hb
            refine AAny.go (by kernel_rfl) [18, 19, 20, 21, 22, 23, 24, 25, 26, 27, 28, 29, 30, 31, 32, 33, 34, 35, 36, 37, 38, 39, 40, 41, 42, 43, 44, 45, 46, 47, 48, 49, 50, 51, 52, 53, 54, 55, 56] (fuel' := 0) rfl [] #[y1, y1, y1, y1, y1, y1, y1, y1, y1, y1, y1, y1, y1, y1, y1, y1, y1, y1, y1, y1, y1, y1, y1, y1, y1, y1, y1, y1, y1, y1, y1, y1, y1, y1, y1, y1, y1, y1, y1, y1, y1, y1, y1, y1, y1, y1, y1, y1, y1, y1, y1, y1, y1, y1, y1, y1, y1] [0, 1, 2, 7, 8, 9, 11, 12, 138] 0 ⟨[(0, q0 v1), (1, .tv (fzL 1 (cSl 2 c34) v2)), (2, .tv (fzL 1 (cSl 1 cStr) v3)), (7, q1 v6.1), (8, q1 v6.2.1), (9, q1 v6.2.2.1), (11, tI v9), (12, tI v10), (138, tB true)], []⟩ ?_ z0 trivial ?_
            ·kernel_rfl
            refine AAny.keepTo [0, 1, 2, 7, 8, 9, 11, 12, 138] 0 ⟨[(0, q0 v1), (1, .tv (fzL 1 (cSl 2 c34) v2)), (2, .tv (fzL 1 (cSl 1 cStr) v3)), (7, q1 v6.1), (8, q1 v6.2.1), (9, q1 v6.2.2.1), (11, tI v9), (12, tI v10), (138, tB true)], []⟩ _ ?_ rfl z0 (AAny.done (by kernel_rfl) ?_)
            ·kernel_rfl
            cases hd
            exact rfl
           ·replace hd := of_false hd hb
            obtain ⟨hg, hd⟩ := of_guard hd
            refine AAny.go (by kernel_rfl) [18, 19, 20, 21, 22, 23, 24, 25, 26, 27, 28, 29, 30, 31, 32, 33, 34, 35, 36, 37, 38, 39, 40, 41, 42, 43, 44, 45, 46, 47, 48, 49, 50, 51, 52, 53, 54, 55, 56] (fuel' := 0) rfl [(0 : Int) ≤ v11, v11 < (v6.2.1.length : Int), (0 : Int) ≤ v9, v9 < (v2.length : Int), (0 : Int) ≤ (0 : Int), (0 : Int) < ((gD v2 v9).length : Int), (0 : Int) ≤ v11, v11 < (v1.length : Int), (0 : Int) ≤ v12, v12 < (v6.2.1.length : Int), (0 : Int) ≤ v9, v9 < (v2.length : Int), (0 : Int) ≤ v10, v10 < ((gD v2 v9).length : Int), (0 : Int) ≤ v12, v12 < (v1.length : Int)] #[y1, y1, y1, y1, y1, y1, y1, y1, y1, y1, y1, y1, y1, y1, y1, y1, y1, y1, y1, y1, y1, y1, y1, y1, y1, y1, y1, y1, y1, y1, y1, y1, y1, y1, y1, y1, y1, y1, y1, y1, y1, y1, y1, y1, y1, y1, y1, y1, y1, y1, y1, y1, y1, y1, y1, y1, y1] [0, 1, 2, 7, 8, 9, 11, 12, 138] 0 ⟨[(0, q0 v1), (1, .tv (fzL 1 (cSl 2 c34) v2)), (2, .tv (fzL 1 (cSl 1 cStr) v3)), (7, q1 v6.1), (8, q1 v6.2.1), (9, q1 v6.2.2.1), (11, tI v9), (12, tI v10), (138, tB (w64 ((gD v6.2.1 v11) + (w64 ((((gD v2 v9).getD 0 default).f1) * ((gD v1 v11).f1)))) != w64 ((gD v6.2.1 v12) + (w64 (((gD (gD v2 v9) v10).f1) * ((gD v1 v12).f1))))))], []⟩ ?_ z0 ⟨hg.1, hg.2.1, hg.2.2.1, hg.2.2.2.1, (by decide : (0 : Int) ≤ (0 : Int)), hg.2.2.2.2.1, hg.2.2.2.2.2.1, hg.2.2.2.2.2.2.1, hg.2.2.2.2.2.2.2.1, hg.2.2.2.2.2.2.2.2.1, hg.2.2.2.2.2.2.2.2.2.1, hg.2.2.2.2.2.2.2.2.2.2.1, hg.2.2.2.2.2.2.2.2.2.2.2.1, hg.2.2.2.2.2.2.2.2.2.2.2.2.1, hg.2.2.2.2.2.2.2.2.2.2.2.2.2.1, hg.2.2.2.2.2.2.2.2.2.2.2.2.2.2⟩ ?_
            ·kernel_rfl
            refine AAny.keepTo [0, 1, 2, 7, 8, 9, 11, 12, 138] 0 ⟨[(0, q0 v1), (1, .tv (fzL 1 (cSl 2 c34) v2)), (2, .tv (fzL 1 (cSl 1 cStr) v3)), (7, q1 v6.1), (8, q1 v6.2.1), (9, q1 v6.2.2.1), (11, tI v9), (12, tI v10), (138, tB (w64 ((gD v6.2.1 v11) + (w64 ((((gD v2 v9).getD 0 default).f1) * ((gD v1 v11).f1)))) != w64 ((gD v6.2.1 v12) + (w64 (((gD (gD v2 v9) v10).f1) * ((gD v1 v12).f1))))))], []⟩ _ ?_ rfl z0 (AAny.done (by kernel_rfl) ?_)
            ·kernel_rfl
            cases hd
            exact rfl
        rintro σ' rfl
        refine AWp.cond rfl (fun hb => ?_) fun hb => ?_
        ·replace h := of_true h hb
         refine AWp.keepTo [] 0 ⟨[], []⟩ ?_ z0 ?_
         ·kernel_rfl
         refine AWp.seq ?_
         refine AWp.start [0] [] [] [6] 0 ⟨[(6, tB false)], []⟩ rfl ?_ z0 trivial ?_
         ·kernel_rfl
         refine AOps.nil ?_
         refine AWp.ret ?_
         cases h
         exact Or.inr ⟨_, rfl, by simp, rfl, rfl⟩
        ·replace h := of_false h hb
         refine AWp.keepTo [0, 1, 2, 7, 8, 9, 11, 12] 0 ⟨[(0, q0 v1), (1, .tv (fzL 1 (cSl 2 c34) v2)), (2, .tv (fzL 1 (cSl 1 cStr) v3)), (7, q1 v6.1), (8, q1 v6.2.1), (9, q1 v6.2.2.1), (11, tI v9), (12, tI v10)], []⟩ ?_ z0 ?_
         ·kernel_rfl
         refine AWp.skip ?_
         refine AWp.start [0, 1, 2] [] [] [0, 1, 2, 7, 8, 9, 11, 12] 0 ⟨[(0, q0 v1), (1, .tv (fzL 1 (cSl 2 c34) v2)), (2, .tv (fzL 1 (cSl 1 cStr) v3)), (7, q1 v6.1), (8, q1 v6.2.1), (9, q1 v6.2.2.1), (11, tI v9), (12, tI (w64 (v10 + (1 : Int))))], []⟩ rfl ?_ z0 trivial ?_
         ·kernel_rfl
         refine AOps.nil ?_
         cases h
         exact Or.inl ⟨_, rfl, rfl, rfl⟩
       ·replace h := of_false h hb
        refine AWp.keepTo [0, 1, 2, 7, 8, 9, 11] 0 ⟨[(0, q0 v1), (1, .tv (fzL 1 (cSl 2 c34) v2)), (2, .tv (fzL 1 (cSl 1 cStr) v3)), (7, q1 v6.1), (8, q1 v6.2.1), (9, q1 v6.2.2.1), (11, tI v9)], []⟩ ?_ z0 ?_
        ·kernel_rfl
        refine AWp.exit ?_
        cases h
        exact Or.inr ⟨_, rfl, by simp, rfl, rfl⟩
      ·intro e σ hp
       rcases y with v14 | _
       ·obtain ⟨rfl, rfl⟩ := hp
        cases h
        exact Or.inr ⟨_, rfl, by simp, rfl, rfl⟩
       ·obtain ⟨rfl, rfl⟩ := hp
        refine AWp.start [0, 1, 2] [] [] [0, 1, 2, 7, 8, 9, 11] 0 ⟨[(0, q0 v1), (1, .tv (fzL 1 (cSl 2 c34) v2)), (2, .tv (fzL 1 (cSl 1 cStr) v3)), (7, q1 v6.1), (8, q1 v6.2.1), (9, q1 v6.2.2.1), (11, tI (w64 (v9 + (1 : Int))))], []⟩ rfl ?_ z0 trivial ?_
        ·kernel_rfl
        refine AOps.nil ?_
        cases h
        exact Or.inl ⟨_, rfl, rfl, rfl⟩
     ·replace h := of_false h hb
      refine AWp.keepTo [0, 2, 7, 8, 9] 0 ⟨[(0, q0 v1), (2, .tv (fzL 1 (cSl 1 cStr) v3)), (7, q1 v6.1), (8, q1 v6.2.1), (9, q1 v6.2.2.1)], []⟩ ?_ z0 ?_
      ·kernel_rfl
      refine AWp.exit ?_
      cases h
      exact Or.inr ⟨_, rfl, by simp, rfl, rfl⟩
    ·intro e σ hp
     rcases y with v15 | _
     ·obtain ⟨rfl, rfl⟩ := hp
      cases h
      exact ⟨.inr rfl, rfl⟩
     ·obtain ⟨rfl, rfl⟩ := hp
      refine AWp.seq ?_
      refine AWp.seq ?_
      refine AWp.start [0] [] [] [0, 2, 7, 8, 9, 15] 0 ⟨[(0, q0 v1), (2, .tv (fzL 1 (cSl 1 cStr) v3)), (7, q1 v6.1), (8, q1 v6.2.1), (9, q1 v6.2.2.1), (15, tI (0 : Int))], []⟩ rfl ?_ z0 trivial ?_
      ·kernel_rfl
      refine AOps.nil ?_
      refine AWp.block ?_
      obtain ⟨y, hy, h⟩ := of_bind h
      refine AWp.mono (AWp.loop (S := Int) (Y := Out Bool Unit) (fun s => ⟨[(0, q0 v1), (2, .tv (fzL 1 (cSl 1 cStr) v3)), (7, q1 v6.1), (8, q1 v6.2.1), (9, q1 v6.2.2.1), (15, tI s)], []⟩) (fun s => f4_b4 v1 v3 v6 s) (fun y e σ => match y with | .ret r => e = .ret ∧ σ = ⟨[(6, tB r)], []⟩ | .go v => e = .exit 4 ∧ σ = ⟨[(0, q0 v1), (7, q1 v6.1), (8, q1 v6.2.1), (9, q1 v6.2.2.1)], []⟩) ?_ hy) ?_
      ·rintro v16 o h
       refine AWp.seq ?_
       refine AWp.seq ?_
       refine AWp.start [0, 1, 2, 3] [] [] [0, 2, 7, 8, 9, 15, 142] 0 ⟨[(0, q0 v1), (2, .tv (fzL 1 (cSl 1 cStr) v3)), (7, q1 v6.1), (8, q1 v6.2.1), (9, q1 v6.2.2.1), (15, tI v16), (142, tB (decide (v16 < (v3.length : Int))))], []⟩ rfl ?_ z0 trivial ?_
       ·kernel_rfl
       refine AOps.nil ?_
       refine AWp.cond rfl (fun hb => ?_) fun hb => ?_
       ·replace h := of_true h hb
        refine AWp.keepTo [0, 2, 7, 8, 9, 15] 0 ⟨[(0, q0 v1), (2, .tv (fzL 1 (cSl 1 cStr) v3)), (7, q1 v6.1), (8, q1 v6.2.1), (9, q1 v6.2.2.1), (15, tI v16)], []⟩ ?_ z0 ?_
        ·kernel_rfl
        refine AWp.skip ?_
        refine AWp.seq ?_
        refine AWp.block ?_
        refine AWp.seq ?_
        refine AWp.start [0] [] [] [0, 2, 7, 8, 9, 15, 16] 0 ⟨[(0, q0 v1), (2, .tv (fzL 1 (cSl 1 cStr) v3)), (7, q1 v6.1), (8, q1 v6.2.1), (9, q1 v6.2.2.1), (15, tI v16), (16, tI (0 : Int))], []⟩ rfl ?_ z0 trivial ?_
        ·kernel_rfl
        refine AOps.nil ?_
        refine AWp.seq ?_
        refine AWp.start [0] [] [] [0, 2, 7, 8, 9, 15, 16, 17] 0 ⟨[(0, q0 v1), (2, .tv (fzL 1 (cSl 1 cStr) v3)), (7, q1 v6.1), (8, q1 v6.2.1), (9, q1 v6.2.2.1), (15, tI v16), (16, tI (0 : Int)), (17, tI (0 : Int))], []⟩ rfl ?_ z0 trivial ?_
        ·kernel_rfl
        refine AOps.nil ?_
        refine AWp.block ?_
        obtain ⟨y, hy, h⟩ := of_bind h
        refine AWp.mono (AWp.loop (S := Int × Int) (Y := Out Bool Unit) (fun s => ⟨[(0, q0 v1), (2, .tv (fzL 1 (cSl 1 cStr) v3)), (7, q1 v6.1), (8, q1 v6.2.1), (9, q1 v6.2.2.1), (15, tI v16), (16, tI s.1), (17, tI s.2)], []⟩) (fun s => f4_b3 v1 v3 v6 v16 s.1 s.2) (fun y e σ => match y with | .ret r => e = .ret ∧ σ = ⟨[(6, tB r)], []⟩ | .go v => e = .exit 6 ∧ σ = ⟨[(0, q0 v1), (2, .tv (fzL 1 (cSl 1 cStr) v3)), (7, q1 v6.1), (8, q1 v6.2.1), (9, q1 v6.2.2.1), (15, tI v16)], []⟩) ?_ hy) ?_
        ·rintro ⟨v17, v18⟩ o h
         refine AWp.seq ?_
         refine AWp.seq ?_
         obtain ⟨hg, h⟩ := of_guard h
         refine AWp.start [0, 1, 2, 3, 4, 5, 6] [] [(0 : Int) ≤ v16, v16 < (v3.length : Int)] [0, 2, 7, 8, 9, 15, 16, 17, 151] 0 ⟨[(0, q0 v1), (2, .tv (fzL 1 (cSl 1 cStr) v3)), (7, q1 v6.1), (8, q1 v6.2.1), (9, q1 v6.2.2.1), (15, tI v16), (16, tI v17), (17, tI v18), (151, tB (decide (v18 < ((gD v3 v16).length : Int))))], []⟩ rfl ?_ z0 ⟨hg.1, hg.2⟩ ?_
         ·kernel_rfl
         refine AOps.nil ?_
         refine AWp.cond rfl (fun hb => ?_) fun hb => ?_
         ·replace h := of_true h hb
          refine AWp.keepTo [0, 2, 7, 8, 9, 15, 16, 17] 0 ⟨[(0, q0 v1), (2, .tv (fzL 1 (cSl 1 cStr) v3)), (7, q1 v6.1), (8, q1 v6.2.1), (9, q1 v6.2.2.1), (15, tI v16), (16, tI v17), (17, tI v18)], []⟩ ?_ z0 ?_
          ·kernel_rfl
          refine AWp.skip ?_
          refine AWp.seq ?_
          refine AWp.block ?_
          refine AWp.seq ?_
          obtain ⟨hg, h⟩ := of_guard h
          refine AWp.start [0, 1, 2, 3, 4, 5, 6, 7] [8, 9] [(0 : Int) ≤ v16, v16 < (v3.length : Int), (0 : Int) ≤ v18, v18 < ((gD v3 v16).length : Int)] [0, 2, 7, 8, 9, 15, 16, 17, 154, 161] 0 ⟨[(0, q0 v1), (2, .tv (fzL 1 (cSl 1 cStr) v3)), (7, q1 v6.1), (8, q1 v6.2.1), (9, q1 v6.2.2.1), (15, tI v16), (16, tI v17), (17, tI v18), (154, q0 v1), (161, tS (gD (gD v3 v16) v18))], []⟩ rfl ?_ z0 ⟨hg.1, hg.2.1, hg.2.2.1, hg.2.2.2⟩ ?_
          ·kernel_rfl
          obtain ⟨v19, hv19, h⟩ := of_bind h
          refine AOps.cons (AOne.callP (F := (FF 223 0)) _ rfl rfl rfl _ rfl rfl _ _ rfl Try.call14 [q0 v1, tS (gD (gD v3 v16) v18)] rfl rfl (f14_ok v1 (gD (gD v3 v16) v18) hv19) rfl) ?_
          refine AOps.go [9] [] [] [0, 2, 7, 8, 9, 15, 16, 17, 18] 0 ⟨[(0, q0 v1), (2, .tv (fzL 1 (cSl 1 cStr) v3)), (7, q1 v6.1), (8, q1 v6.2.1), (9, q1 v6.2.2.1), (15, tI v16), (16, tI v17), (17, tI v18), (18, tI v19)], []⟩ ?_ z0 trivial ?_
          ·kernel_rfl
          refine AOps.nil ?_
          refine AWp.seq ?_
          refine AWp.seq ?_
          obtain ⟨v20, hd, h⟩ := of_bind h
          refine AWp.draw FFm (fun σ => σ = ⟨[(0, q0 v1), (2, .tv (fzL 1 (cSl 1 cStr) v3)), (7, q1 v6.1), (8, q1 v6.2.1), (9, q1 v6.2.2.1), (15, tI v16), (16, tI v17), (17, tI v18), (18, tI v19), (201, tB v20)], []⟩) (n := 39) rfl (ls := #[n1, n1, n1, n1, n1, n1, n1, n1, n1, n1, n1, n1, n1, n1, n1, n1, n1, n1, n1, n1, n1, n1, n1, n1, n1, n1, n1, n1, n1, n1, n1, n1, n1, n1, n1, n1, n1, n1, n1]) rfl ?_ ?_
          ·refine AAny.go (by kernel_rfl) [0, 1, 2] (fuel' := 36) rfl [] #[y1, y1, y1, n1, n1, n1, n1, n1, n1, n1, n1, n1, n1, n1, n1, n1, n1, n1, n1, n1, n1, n1, n1, n1, n1, n1, n1, n1, n1, n1, n1, n1, n1, n1, n1, n1, n1, n1, n1] [0, 2, 7, 8, 9, 15, 16, 17, 18, 165] 0 ⟨[(0, q0 v1), (2, .tv (fzL 1 (cSl 1 cStr) v3)), (7, q1 v6.1), (8, q1 v6.2.1), (9, q1 v6.2.2.1), (15, tI v16), (16, tI v17), (17, tI v18), (18, tI v19), (165, tB (decide (v19 < (0 : Int))))], []⟩ ?_ z0 trivial ?_
           ·kernel_rfl
           refine AAny.split (fun b => ⟨[(0, q0 v1), (2, .tv (fzL 1 (cSl 1 cStr) v3)), (7, q1 v6.1), (8, q1 v6.2.1), (9, q1 v6.2.2.1), (15, tI v16), (16, tI v17), (17, tI v18), (18, tI v19), (165, tB b)], []⟩) _ (fun hb => ?_) fun hb => ?_
           ·replace hd := of_true hd hb
            refine AAny.go (by kernel_rfl) [3, 4, 5, 6, 7, 8, 9, 10, 11, 12, 13, 14, 15, 16, 17, 18, 19, 20, 21, 22, 23, 24, 25, 26, 27, 28, 29, 30, 31, 32, 33, 34, 35, 36, 37, 38] (fuel' := 0) rfl [] #[y1, y1, y1, y1, y1, y1, y1, y1, y1, y1, y1, y1, y1, y1, y1, y1, y1, y1, y1, y1, y1, y1, y1, y1, y1, y1, y1, y1, y1, y1, y1, y1, y1, y1, y1, y1, y1, y1, y1] [0, 2, 7, 8, 9, 15, 16, 17, 18, 201] 0 ⟨[(0, q0 v1), (2, .tv (fzL 1 (cSl 1 cStr) v3)), (7, q1 v6.1), (8, q1 v6.2.1), (9, q1 v6.2.2.1), (15, tI v16), (16, tI v17), (17, tI v18), (18, tI v19), (201, tB true)], []⟩ ?_ z0 trivial ?_
            ·kernel_rfl
            refine AAny.keepTo [0, 2, 7, 8, 9, 15, 16, 17, 18, 201] 0 ⟨[(0, q0 v1), (2, .tv (fzL 1 (cSl 1 cStr) v3)), (7, q1 v6.1), (8, q1 v6.2.1), (9, q1 v6.2.2.1), (15, tI v16), (16, tI v17), (17, tI v18), (18, tI v19), (201, tB true)], []⟩ _ ?_ rfl z0 (AAny.done (by kernel_rfl) ?_)
            ·kernel_rfl
            cases hd
            exact rfl
           ·replace hd := of_false hd hb
            obtain ⟨hg, hd⟩ := of_guard hd
            refine AAny.go (by kernel_rfl) [3, 4, 5, 6, 7, 8, 9] (fuel' := 29) rfl [(0 : Int) ≤ v16, v16 < (v3.length : Int), (0 : Int) ≤ (0 : Int), (0 : Int) < ((gD v3 v16).length : Int)] #[y1, y1, y1, y1, y1, y1, y1, y1, y1, y1, n1, n1, n1, n1, n1, n1, n1, n1, n1, n1, n1, n1, n1, n1, n1, n1, n1, n1, n1, n1, n1, n1, n1, n1, n1, n1, n1, n1, n1] [0, 2, 7, 8, 9, 15, 16, 17, 18, 165, 166, 172] 0 ⟨[(0, q0 v1), (2, .tv (fzL 1 (cSl 1 cStr) v3)), (7, q1 v6.1), (8, q1 v6.2.1), (9, q1 v6.2.2.1), (15, tI v16), (16, tI v17), (17, tI v18), (18, tI v19), (165, tB false), (166, q0 v1), (172, tS ((gD v3 v16).getD 0 default))], []⟩ ?_ z0 ⟨hg.1, hg.2.1, (by decide : (0 : Int) ≤ (0 : Int)), hg.2.2⟩ ?_
            ·kernel_rfl
            obtain ⟨v21, hv21, hd⟩ := of_bind hd
            refine AAny.serial (i := 10) (fuel := 28) (by kernel_rfl) (AOne.callP (F := (FF 223 0)) _ rfl rfl rfl _ rfl rfl _ _ rfl Try.call14 [q0 v1, tS ((gD v3 v16).getD 0 default)] rfl rfl (f14_ok v1 ((gD v3 v16).getD 0 default) hv21) rfl) ?_
            refine AAny.keepTo [0, 2, 7, 8, 9, 15, 16, 17, 18, 165, 173] 0 ⟨[(0, q0 v1), (2, .tv (fzL 1 (cSl 1 cStr) v3)), (7, q1 v6.1), (8, q1 v6.2.1), (9, q1 v6.2.2.1), (15, tI v16), (16, tI v17), (17, tI v18), (18, tI v19), (165, tB false), (173, tI v21)], []⟩ #[y1, y1, y1, y1, y1, y1, y1, y1, y1, y1, y1, n1, n1, n1, n1, n1, n1, n1, n1, n1, n1, n1, n1, n1, n1, n1, n1, n1, n1, n1, n1, n1, n1, n1, n1, n1, n1, n1, n1] ?_ rfl z0 ?_
            ·kernel_rfl
            refine AAny.go (by kernel_rfl) [11, 12, 13] (fuel' := 25) rfl [] #[y1, y1, y1, y1, y1, y1, y1, y1, y1, y1, y1, y1, y1, y1, n1, n1, n1, n1, n1, n1, n1, n1, n1, n1, n1, n1, n1, n1, n1, n1, n1, n1, n1, n1, n1, n1, n1, n1, n1] [0, 2, 7, 8, 9, 15, 16, 17, 18, 176] 0 ⟨[(0, q0 v1), (2, .tv (fzL 1 (cSl 1 cStr) v3)), (7, q1 v6.1), (8, q1 v6.2.1), (9, q1 v6.2.2.1), (15, tI v16), (16, tI v17), (17, tI v18), (18, tI v19), (176, tB (decide (v21 < (0 : Int))))], []⟩ ?_ z0 trivial ?_
            ·kernel_rfl
            refine AAny.split (fun b => ⟨[(0, q0 v1), (2, .tv (fzL 1 (cSl 1 cStr) v3)), (7, q1 v6.1), (8, q1 v6.2.1), (9, q1 v6.2.2.1), (15, tI v16), (16, tI v17), (17, tI v18), (18, tI v19), (176, tB b)], []⟩) _ (fun hb => ?_) fun hb => ?_
            ·replace hd := of_true hd hb
             refine AAny.go (by kernel_rfl) [14, 15, 16, 17, 18, 19, 20, 21, 22, 23, 24, 25, 26, 27, 28, 29, 30, 31, 32, 33, 34, 35, 36, 37, 38] (fuel' := 0) rfl [] #[y1, y1, y1, y1, y1, y1, y1, y1, y1, y1, y1, y1, y1, y1, y1, y1, y1, y1, y1, y1, y1, y1, y1, y1, y1, y1, y1, y1, y1, y1, y1, y1, y1, y1, y1, y1, y1, y1, y1] [0, 2, 7, 8, 9, 15, 16, 17, 18, 201] 0 ⟨[(0, q0 v1), (2, .tv (fzL 1 (cSl 1 cStr) v3)), (7, q1 v6.1), (8, q1 v6.2.1), (9, q1 v6.2.2.1), (15, tI v16), (16, tI v17), (17, tI v18), (18, tI v19), (201, tB true)], []⟩ ?_ z0 trivial ?_
             ·kernel_rfl
             refine AAny.keepTo [0, 2, 7, 8, 9, 15, 16, 17, 18, 201] 0 ⟨[(0, q0 v1), (2, .tv (fzL 1 (cSl 1 cStr) v3)), (7, q1 v6.1), (8, q1 v6.2.1), (9, q1 v6.2.2.1), (15, tI v16), (16, tI v17), (17, tI v18), (18, tI v19), (201, tB true)], []⟩ _ ?_ rfl z0 (AAny.done (by kernel_rfl) ?_)
             ·kernel_rfl
             cases hd
             exact rfl
            ·replace hd := of_false hd hb
             obtain ⟨hg, hd⟩ := of_guard hd
             refine AAny.go (by kernel_rfl) [14, 15, 16, 17, 18, 19, 20, 21] (fuel' := 17) rfl [(0 : Int) ≤ v19, v19 < (v6.2.1.length : Int)] #[y1, y1, y1, y1, y1, y1, y1, y1, y1, y1, y1, y1, y1, y1, y1, y1, y1, y1, y1, y1, y1, y1, n1, n1, n1, n1, n1, n1, n1, n1, n1, n1, n1, n1, n1, n1, n1, n1, n1] [0, 2, 7, 8, 9, 15, 16, 17, 18, 184] 0 ⟨[(0, q0 v1), (2, .tv (fzL 1 (cSl 1 cStr) v3)), (7, q1 v6.1), (8, q1 v6.2.1), (9, q1 v6.2.2.1), (15, tI v16), (16, tI v17), (17, tI v18), (18, tI v19), (184, tB (gD v6.2.1 v19 != v17))], []⟩ ?_ z0 ⟨hg.1, hg.2⟩ ?_
             ·kernel_rfl
             refine AAny.split (fun b => ⟨[(0, q0 v1), (2, .tv (fzL 1 (cSl 1 cStr) v3)), (7, q1 v6.1), (8, q1 v6.2.1), (9, q1 v6.2.2.1), (15, tI v16), (16, tI v17), (17, tI v18), (18, tI v19), (184, tB b)], []⟩) _ (fun hb => ?_) fun hb => ?_
             ·replace hd := of_true hd hb
              refine AAny.go (by kernel_rfl) [22, 23, 24, 25, 26, 27, 28, 29, 30, 31, 32, 33, 34, 35, 36, 37, 38] (fuel' := 0) rfl [] #[y1, y1, y1, y1, y1, y1, y1, y1, y1, y1, y1, y1, y1, y1, y1, y1, y1, y1, y1, y1, y1, y1, y1, y1, y1, y1, y1, y1, y1, y1, y1, y1, y1, y1, y1, y1, y1, y1, y1] [0, 2, 7, 8, 9, 15, 16, 17, 18, 201] 0 ⟨[(0, q0 v1), (2, .tv (fzL 1 (cSl 1 cStr) v3)), (7, q1 v6.1), (8, q1 v6.2.1), (9, q1 v6.2.2.1), (15, tI v16), (16, tI v17), (17, tI v18), (18, tI v19), (201, tB true)], []⟩ ?_ z0 trivial ?_
              ·kernel_rfl
              refine AAny.keepTo [0, 2, 7, 8, 9, 15, 16, 17, 18, 201] 0 ⟨[(0, q0 v1), (2, .tv (fzL 1 (cSl 1 cStr) v3)), (7, q1 v6.1), (8, q1 v6.2.1), (9, q1 v6.2.2.1), (15, tI v16), (16, tI v17), (17, tI v18), (18, tI v19), (201, tB true)], []⟩ _ ?_ rfl z0 (AAny.done (by kernel_rfl) ?_)
              ·kernel_rfl
              cases hd
              exact rfl
             ·replace hd := of_false hd hb
              obtain ⟨hg, hd⟩ := of_guard hd
              refine AAny.go (by kernel_rfl) [22, 23, 24, 25, 26, 27, 28, 29, 30, 31, 32, 33] (fuel' := 5) rfl [(0 : Int) ≤ v19, v19 < (v6.1.length : Int), (0 : Int) ≤ v16, v16 < (v3.length : Int), (0 : Int) ≤ (0 : Int), (0 : Int) < ((gD v3 v16).length : Int)] #[y1, y1, y1, y1, y1, y1, y1, y1, y1, y1, y1, y1, y1, y1, y1, y1, y1, y1, y1, y1, y1, y1, y1, y1, y1, y1, y1, y1, y1, y1, y1, y1, y1, y1, n1, n1, n1, n1, n1] [0, 2, 7, 8, 9, 15, 16, 17, 18, 184, 188, 189, 190, 196] 0 ⟨[(0, q0 v1), (2, .tv (fzL 1 (cSl 1 cStr) v3)), (7, q1 v6.1), (8, q1 v6.2.1), (9, q1 v6.2.2.1), (15, tI v16), (16, tI v17), (17, tI v18), (18, tI v19), (184, tB false), (188, tI (gD v6.1 v19)), (189, q1 v6.1), (190, q0 v1), (196, tS ((gD v3 v16).getD 0 default))], []⟩ ?_ z0 ⟨hg.1, hg.2.1, hg.2.2.1, hg.2.2.2.1, (by decide : (0 : Int) ≤ (0 : Int)), hg.2.2.2.2⟩ ?_
              ·kernel_rfl
              obtain ⟨v22, hv22, hd⟩ := of_bind hd
              refine AAny.serial (i := 34) (fuel := 4) (by kernel_rfl) (AOne.callP (F := (FF 223 0)) _ rfl rfl rfl _ rfl rfl _ _ rfl Try.call14 [q0 v1, tS ((gD v3 v16).getD 0 default)] rfl rfl (f14_ok v1 ((gD v3 v16).getD 0 default) hv22) rfl) ?_
              refine AAny.keepTo [0, 2, 7, 8, 9, 15, 16, 17, 18, 184, 188, 189, 197] 0 ⟨[(0, q0 v1), (2, .tv (fzL 1 (cSl 1 cStr) v3)), (7, q1 v6.1), (8, q1 v6.2.1), (9, q1 v6.2.2.1), (15, tI v16), (16, tI v17), (17, tI v18), (18, tI v19), (184, tB false), (188, tI (gD v6.1 v19)), (189, q1 v6.1), (197, tI v22)], []⟩ #[y1, y1, y1, y1, y1, y1, y1, y1, y1, y1, y1, y1, y1, y1, y1, y1, y1, y1, y1, y1, y1, y1, y1, y1, y1, y1, y1, y1, y1, y1, y1, y1, y1, y1, y1, n1, n1, n1, n1] ?_ rfl z0 ?_
              ·kernel_rfl
              obtain ⟨hg, hd⟩ := of_guard hd
              refine AAny.go (by kernel_rfl) [35, 36, 37, 38] (fuel' := 0) rfl [(0 : Int) ≤ v22, v22 < (v6.1.length : Int)] #[y1, y1, y1, y1, y1, y1, y1, y1, y1, y1, y1, y1, y1, y1, y1, y1, y1, y1, y1, y1, y1, y1, y1, y1, y1, y1, y1, y1, y1, y1, y1, y1, y1, y1, y1, y1, y1, y1, y1] [0, 2, 7, 8, 9, 15, 16, 17, 18, 201] 0 ⟨[(0, q0 v1), (2, .tv (fzL 1 (cSl 1 cStr) v3)), (7, q1 v6.1), (8, q1 v6.2.1), (9, q1 v6.2.2.1), (15, tI v16), (16, tI v17), (17, tI v18), (18, tI v19), (201, tB (gD v6.1 v19 != gD v6.1 v22))], []⟩ ?_ z0 ⟨hg.1, hg.2⟩ ?_
              ·kernel_rfl
              refine AAny.keepTo [0, 2, 7, 8, 9, 15, 16, 17, 18, 201] 0 ⟨[(0, q0 v1), (2, .tv (fzL 1 (cSl 1 cStr) v3)), (7, q1 v6.1), (8, q1 v6.2.1), (9, q1 v6.2.2.1), (15, tI v16), (16, tI v17), (17, tI v18), (18, tI v19), (201, tB (gD v6.1 v19 != gD v6.1 v22))], []⟩ _ ?_ rfl z0 (AAny.done (by kernel_rfl) ?_)
              ·kernel_rfl
              cases hd
              exact rfl
          rintro σ' rfl
          refine AWp.cond rfl (fun hb => ?_) fun hb => ?_
          ·replace h := of_true h hb
           refine AWp.keepTo [] 0 ⟨[], []⟩ ?_ z0 ?_
           ·kernel_rfl
           refine AWp.seq ?_
           refine AWp.start [0] [] [] [6] 0 ⟨[(6, tB false)], []⟩ rfl ?_ z0 trivial ?_
           ·kernel_rfl
           refine AOps.nil ?_
           refine AWp.ret ?_
           cases h
           exact Or.inr ⟨_, rfl, by simp, rfl, rfl⟩
          ·replace h := of_false h hb
           refine AWp.keepTo [0, 2, 7, 8, 9, 15, 16, 17, 18] 0 ⟨[(0, q0 v1), (2, .tv (fzL 1 (cSl 1 cStr) v3)), (7, q1 v6.1), (8, q1 v6.2.1), (9, q1 v6.2.2.1), (15, tI v16), (16, tI v17), (17, tI v18), (18, tI v19)], []⟩ ?_ z0 ?_
           ·kernel_rfl
           refine AWp.skip ?_
           refine AWp.draw FFm _ (n := 14) rfl (ls := #[n1, n1, n1, n1, n1, n1, n1, n1, n1, n1, n1, n1, n1, n1]) rfl ?_ (fun _ h => h)
           obtain ⟨hg, h⟩ := of_guard h
           refine AAny.go (by kernel_rfl) [0, 1, 2, 3, 4, 5, 6, 7, 8, 9, 10, 11, 12, 13] (fuel' := 0) rfl [(0 : Int) ≤ v19, v19 < (v1.length : Int), (0 : Int) ≤ v19, v19 < (v1.length : Int)] #[y1, y1, y1, y1, y1, y1, y1, y1, y1, y1, y1, y1, y1, y1] [0, 2, 7, 8, 9, 15, 16, 17] 0 ⟨[(0, q0 v1), (2, .tv (fzL 1 (cSl 1 cStr) v3)), (7, q1 v6.1), (8, q1 v6.2.1), (9, q1 v6.2.2.1), (15, tI v16), (16, tI (w64 (v17 + (w64 (((gD v1 v19).f1) * ((gD v1 v19).f2)))))), (17, tI v18)], []⟩ ?_ z0 ⟨hg.1, hg.2.1, hg.2.2.1, hg.2.2.2⟩ ?_
           ·kernel_rfl
           refine AAny.keepTo [0, 2, 7, 8, 9, 15, 16, 17] 0 ⟨[(0, q0 v1), (2, .tv (fzL 1 (cSl 1 cStr) v3)), (7, q1 v6.1), (8, q1 v6.2.1), (9, q1 v6.2.2.1), (15, tI v16), (16, tI (w64 (v17 + (w64 (((gD v1 v19).f1) * ((gD v1 v19).f2)))))), (17, tI v18)], []⟩ _ ?_ rfl z0 (AAny.done (by kernel_rfl) ?_)
           ·kernel_rfl
           refine AWp.start [0, 1, 2] [] [] [0, 2, 7, 8, 9, 15, 16, 17] 0 ⟨[(0, q0 v1), (2, .tv (fzL 1 (cSl 1 cStr) v3)), (7, q1 v6.1), (8, q1 v6.2.1), (9, q1 v6.2.2.1), (15, tI v16), (16, tI (w64 (v17 + (w64 (((gD v1 v19).f1) * ((gD v1 v19).f2)))))), (17, tI (w64 (v18 + (1 : Int))))], []⟩ rfl ?_ z0 trivial ?_
           ·kernel_rfl
           refine AOps.nil ?_
           cases h
           exact Or.inl ⟨_, rfl, rfl, rfl⟩
         ·replace h := of_false h hb
          refine AWp.keepTo [0, 2, 7, 8, 9, 15] 0 ⟨[(0, q0 v1), (2, .tv (fzL 1 (cSl 1 cStr) v3)), (7, q1 v6.1), (8, q1 v6.2.1), (9, q1 v6.2.2.1), (15, tI v16)], []⟩ ?_ z0 ?_
          ·kernel_rfl
          refine AWp.exit ?_
          cases h
          exact Or.inr ⟨_, rfl, by simp, rfl, rfl⟩
        ·intro e σ hp
         rcases y with v23 | _
         ·obtain ⟨rfl, rfl⟩ := hp
          cases h
          exact Or.inr ⟨_, rfl, by simp, rfl, rfl⟩
         ·obtain ⟨rfl, rfl⟩ := hp
          refine AWp.start [0, 1, 2] [] [] [0, 2, 7, 8, 9, 15] 0 ⟨[(0, q0 v1), (2, .tv (fzL 1 (cSl 1 cStr) v3)), (7, q1 v6.1), (8, q1 v6.2.1), (9, q1 v6.2.2.1), (15, tI (w64 (v16 + (1 : Int))))], []⟩ rfl ?_ z0 trivial ?_
          ·kernel_rfl
          refine AOps.nil ?_
          cases h
          exact Or.inl ⟨_, rfl, rfl, rfl⟩
       ·replace h := of_false h hb
        refine AWp.keepTo [0, 7, 8, 9] 0 ⟨[(0, q0 v1), (7, q1 v6.1), (8, q1 v6.2.1), (9, q1 v6.2.2.1)], []⟩ ?_ z0 ?_
        ·kernel_rfl
        refine AWp.exit ?_
        cases h
        exact Or.inr ⟨_, rfl, by simp, rfl, rfl⟩
      ·intro e σ hp
       rcases y with v24 | _
       ·obtain ⟨rfl, rfl⟩ := hp
        cases h
        exact ⟨.inr rfl, rfl⟩
       ·obtain ⟨rfl, rfl⟩ := hp
        refine AWp.seq ?_
        refine AWp.start [0, 1, 2, 3] [4, 5, 6, 7, 8] [] [215, 216, 217, 218] 0 ⟨[(215, q0 v1), (216, q1 v6.1), (217, q1 v6.2.1), (218, q1 v6.2.2.1)], []⟩ rfl ?_ z0 trivial ?_
        ·kernel_rfl
        obtain ⟨v25, hv25, h⟩ := of_bind h
        refine AOps.cons (AOne.callP (F := (FF 223 0)) _ rfl rfl rfl _ rfl rfl _ _ rfl Try.call15 [q0 v1, q1 v6.1, q1 v6.2.1, q1 v6.2.2.1] rfl rfl (f15_ok v1 v6.1 v6.2.1 v6.2.2.1 hv25) rfl) ?_
        refine AOps.go [5] [6, 7, 8] [] [220] 0 ⟨[(220, tB v25)], []⟩ ?_ z0 trivial ?_
        ·kernel_rfl
        obtain ⟨v26, hc6, h⟩ := of_bind h
        refine AOps.cut [6, 7] [8] (fun σ => σ = ⟨[(222, tB v26)], []⟩) ?_ fun σ' hJ => ?_
        ·refine AOps.split (fun b => ⟨[(220, tB b)], []⟩) _ (fun hb => ?_) fun hb => ?_
         ·replace hc6 := of_true hc6 hb
          obtain ⟨v27, hv27, hc6⟩ := of_bind hc6
          refine AOps.cons (AOne.callP (F := (FF 223 0)) _ rfl rfl rfl _ rfl rfl _ _ rfl Try.call10 [] rfl rfl (f10_ok  hv27) rfl) ?_
          refine AOps.go [7] [] [] [222] 0 ⟨[(222, tB v27)], []⟩ ?_ z0 trivial ?_
          ·kernel_rfl
          cases hc6
          exact AOps.nil rfl
         ·replace hc6 := of_false hc6 hb
          refine AOps.go [6, 7] [] [] [222] 0 ⟨[(222, tB false)], []⟩ ?_ z0 trivial ?_
          ·kernel_rfl
          cases hc6
          exact AOps.nil rfl
        subst hJ
        refine AOps.go [8] [] [] [6] 0 ⟨[(6, tB v26)], []⟩ ?_ z0 trivial ?_
        ·kernel_rfl
        refine AOps.nil ?_
        refine AWp.ret ?_
        cases h
        exact ⟨.inr rfl, rfl⟩

end Go.Sx.sto
