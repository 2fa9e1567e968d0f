/- Printed by program (wip/gen): plain functions and their walks; no condition. -/
import Derived.Test.YtplfiblnmnpllaaGx5
namespace Go.Sx.der
open Go Go.Sx Go.Proofs

noncomputable def f17_b1 (v1 : List T62) (v3 : List T37) (v5 : T68) (v8 : Int) (v12 : (List T35)) (v13 : Int) (v14 : Int) : Option ((Int × Int) ⊕ Out (Int × (List UInt8) × Int) (Int × Int)) :=
 (cond (decide (v14 < (v12.length : Int))) (if (0 : Int) ≤ v14 ∧ v14 < (v12.length : Int) ∧ (0 : Int) ≤ v8 ∧ v8 < (v3.length : Int) then some (!(((v12.getD v14.toNat default).f0) == ((v3.getD v8.toNat default).f0))) else none) (some false)).bind fun v17 => cond v17 (if (0 : Int) ≤ v14 ∧ v14 < (v12.length : Int) then (f51 v5 v1 (v12.getD v14.toNat default)).bind fun v18 => some (.inl (w64 (v13 + v18), w64 (v14 + (1 : Int)))) else none) (some (.inr (.go (v13, v14))))

noncomputable def f17_b2 (v1 : List T62) (v3 : List T37) (v5 : T68) (v6 : Int) (v7 : List UInt8) (v8 : Int) : Option ((Int × (List UInt8) × Int) ⊕ Out (Int × (List UInt8) × Int) (Int × (List UInt8))) :=
 cond (decide (v8 < (v3.length : Int))) (cond (v7 == ([] : List UInt8)) (some (.inr (.ret ((0 : Int), ([] : List UInt8), (5 : Int))))) ((f49 v1 (v1.length : Int) v7).bind fun v11 => (f50 v1 v11).bind fun v12 => (iter (fun s => f17_b1 v1 v3 v5 v8 v12 s.1 s.2) (v6, (0 : Int))).bind fun y => match y with | .ret v19 => some (.inr (.ret (v19.1, v19.2.1, v19.2.2))) | .go (v15, v16) => cond (v16 == (v12.length : Int)) (some (.inr (.ret ((0 : Int), ([] : List UInt8), (5 : Int))))) ((if (0 : Int) ≤ v8 ∧ v8 < (v3.length : Int) then cond (decide ((v3.getD v8.toNat default).f1 < (0 : Int))) (some true) (if (0 : Int) ≤ v8 ∧ v8 < (v3.length : Int) ∧ (0 : Int) ≤ v16 ∧ v16 < (v12.length : Int) then some (decide ((v3.getD v8.toNat default).f1 ≥ (if (1 : Int) > (v12.getD v16.toNat default).f2 then (1 : Int) else (v12.getD v16.toNat default).f2))) else none) else none).bind fun v20 => cond v20 (some (.inr (.ret ((0 : Int), ([] : List UInt8), (2 : Int))))) (if (0 : Int) ≤ v8 ∧ v8 < (v3.length : Int) ∧ (0 : Int) ≤ v16 ∧ v16 < (v12.length : Int) then (f52 v5 v1 (v12.getD v16.toNat default)).bind fun v21 => if (0 : Int) ≤ v16 ∧ v16 < (v12.length : Int) then some (.inl (w64 (v15 + (w64 (((v3.getD v8.toNat default).f1) * v21))), (v12.getD v16.toNat default).f1, w64 (v8 + (1 : Int)))) else none else none)))) (some (.inr (.go (v6, v7))))

noncomputable def f17 (v1 : List T62) (v2 : List UInt8) (v3 : List T37) : Option (Int × (List UInt8) × Int) :=
 (f48 v1 v2).bind fun v4 => cond (v4.2 != (0 : Int)) (some ((0 : Int), ([] : List UInt8), v4.2)) ((f42 v1 (v1.length : Int)).bind fun v5 => (iter (fun s => f17_b2 v1 v3 v5 s.1 s.2.1 s.2.2) ((0 : Int), v2, (0 : Int))).bind fun y => match y with | .ret v22 => some (v22.1, v22.2.1, v22.2.2) | .go (v9, v10) => some (v9, v10, (0 : Int)))

theorem f17_ok (v1 : List T62) (v2 : List UInt8) (v3 : List T37) {r : Int × (List UInt8) × Int} (h : f17 v1 v2 v3 = some r) : ACall Try.prog 17 [.tv (fzL 6 c62 v1), .tv (.str v2), .tv (fzL 2 c37 v3)] [] (.tup [.tv (.int .i64 r.1), .tv (.str r.2.1), .tv (.int .i64 r.2.2)]) [] := by
 refine ACall.ofN (FF 121 0) (rs := [6, 7, 8]) (env := [(6, tI r.1), (7, tS r.2.1), (8, tI r.2.2)]) Try.func17 rfl Try.ntmps17 Try.results17 (by decide) (by decide) rfl (Nat.le_of_ble_eq_true rfl) rfl (get_ofN _ _ _ rfl) (ok_ofN _ rfl) ?_
 refine AWp.seq ?_
 refine AWp.start [0, 1, 2] [] [] [0, 1, 2] 0 ⟨[(0, q0 v1), (1, tS v2), (2, q4 v3)], []⟩ rfl ?_ z0 trivial ?_
 · kernel_rfl
 refine AOps.nil ?_
 refine AWp.seq ?_
 refine AWp.start [0, 1] [2, 3, 4, 5, 6, 7] [] [0, 1, 2, 18, 19] 0 ⟨[(0, q0 v1), (1, tS v2), (2, q4 v3), (18, q0 v1), (19, tS v2)], []⟩ rfl ?_ z0 trivial ?_
 · kernel_rfl
 obtain ⟨v4, hv4, h⟩ := of_bind h
 refine AOps.cons (AOne.callP (F := (FF 121 0)) _ rfl rfl rfl _ rfl rfl _ _ rfl Try.call48 [q0 v1, tS v2] rfl rfl (f48_ok v1 v2 hv4) rfl) ?_
 refine AOps.go [3, 4, 5, 6, 7] [] [] [0, 1, 2, 10] 0 ⟨[(0, q0 v1), (1, tS v2), (2, q4 v3), (10, tI v4.2)], []⟩ ?_ z0 trivial ?_
 · kernel_rfl
 refine AOps.nil ?_
 refine AWp.seq ?_
 refine AWp.seq ?_
 refine AWp.start [0, 1] [] [] [0, 1, 2, 10, 24] 0 ⟨[(0, q0 v1), (1, tS v2), (2, q4 v3), (10, tI v4.2), (24, tB (v4.2 != (0 : Int)))], []⟩ rfl ?_ z0 trivial ?_
 · kernel_rfl
 refine AOps.nil ?_
 refine AWp.cond rfl (fun hb => ?_) fun hb => ?_
 · replace h := of_true h hb
   refine AWp.keepTo [10] 0 ⟨[(10, tI v4.2)], []⟩ ?_ z0 ?_
   · kernel_rfl
   refine AWp.seq ?_
   refine AWp.start [0, 1, 2, 3] [] [] [6, 7, 8] 0 ⟨[(6, tI (0 : Int)), (7, tS ([] : List UInt8)), (8, tI v4.2)], []⟩ rfl ?_ z0 trivial ?_
   · kernel_rfl
   refine AOps.nil ?_
   refine AWp.ret ?_
   cases h
   exact ⟨.inr rfl, rfl⟩
 · replace h := of_false h hb
   refine AWp.keepTo [0, 1, 2] 0 ⟨[(0, q0 v1), (1, tS v2), (2, q4 v3)], []⟩ ?_ z0 ?_
   · kernel_rfl
   refine AWp.skip ?_
   refine AWp.seq ?_
   refine AWp.start [0, 1, 2] [3, 4, 5] [] [0, 1, 2, 26, 28] 0 ⟨[(0, q0 v1), (1, tS v2), (2, q4 v3), (26, q0 v1), (28, tI (v1.length : Int))], []⟩ rfl ?_ z0 trivial ?_
   · kernel_rfl
   obtain ⟨v5, hv5, h⟩ := of_bind h
   refine AOps.cons (AOne.callP (F := (FF 121 0)) _ rfl rfl rfl _ rfl rfl _ _ rfl Try.call42 [q0 v1, tI (v1.length : Int)] rfl rfl (f42_ok v1 (v1.length : Int) hv5) rfl) ?_
   refine AOps.go [4, 5] [] [] [0, 1, 2, 11] 1 ⟨[(0, q0 v1), (1, tS v2), (2, q4 v3), (11, .pc 0 0)], [.cells 69 [fzL 1 (cInt .i64) v5.f0, fzL 1 (cInt .i64) v5.f1]]⟩ ?_ z0 trivial ?_
   · kernel_rfl
   refine AOps.nil ?_
   refine AWp.seq ?_
   refine AWp.pin 0 rfl rfl ?_
   refine AWp.keepTo [0, 1, 2, 11] 0 ⟨[(0, q0 v1), (1, tS v2), (2, q4 v3), (11, .rp [fzL 1 (cInt .i64) v5.f0, fzL 1 (cInt .i64) v5.f1])], []⟩ ?_ z0 ?_
   · kernel_rfl
   refine AWp.start [0, 1, 2] [] [] [0, 2, 11, 12, 13] 0 ⟨[(0, q0 v1), (2, q4 v3), (11, .rp [fzL 1 (cInt .i64) v5.f0, fzL 1 (cInt .i64) v5.f1]), (12, tI (0 : Int)), (13, tS v2)], []⟩ rfl ?_ z0 trivial ?_
   · kernel_rfl
   refine AOps.nil ?_
   refine AWp.seq ?_
   refine AWp.seq ?_
   refine AWp.start [0] [] [] [0, 2, 11, 12, 13, 14] 0 ⟨[(0, q0 v1), (2, q4 v3), (11, .rp [fzL 1 (cInt .i64) v5.f0, fzL 1 (cInt .i64) v5.f1]), (12, tI (0 : Int)), (13, tS v2), (14, tI (0 : Int))], []⟩ rfl ?_ z0 trivial ?_
   · kernel_rfl
   refine AOps.nil ?_
   refine AWp.block ?_
   obtain ⟨y, hy, h⟩ := of_bind h
   refine AWp.mono (AWp.loop (S := Int × (List UInt8) × Int) (Y := Out (Int × (List UInt8) × Int) (Int × (List UInt8))) (fun s => ⟨[(0, q0 v1), (2, q4 v3), (11, .rp [fzL 1 (cInt .i64) v5.f0, fzL 1 (cInt .i64) v5.f1]), (12, tI s.1), (13, tS s.2.1), (14, tI s.2.2)], []⟩) (fun s => f17_b2 v1 v3 v5 s.1 s.2.1 s.2.2) (fun y e σ => match y with | .ret r => e = .ret ∧ σ = ⟨[(6, tI r.1), (7, tS r.2.1), (8, tI r.2.2)], []⟩ | .go v => e = .exit 0 ∧ σ = ⟨[(12, tI v.1), (13, tS v.2)], []⟩) ?_ hy) ?_
   · rintro ⟨v6, v7, v8⟩ o h
     refine AWp.seq ?_
     refine AWp.seq ?_
     refine AWp.start [0, 1, 2, 3] [] [] [0, 2, 11, 12, 13, 14, 34] 0 ⟨[(0, q0 v1), (2, q4 v3), (11, .rp [fzL 1 (cInt .i64) v5.f0, fzL 1 (cInt .i64) v5.f1]), (12, tI v6), (13, tS v7), (14, tI v8), (34, tB (decide (v8 < (v3.length : Int))))], []⟩ rfl ?_ z0 trivial ?_
     · kernel_rfl
     refine AOps.nil ?_
     refine AWp.cond rfl (fun hb => ?_) fun hb => ?_
     · replace h := of_true h hb
       refine AWp.keepTo [0, 2, 11, 12, 13, 14] 0 ⟨[(0, q0 v1), (2, q4 v3), (11, .rp [fzL 1 (cInt .i64) v5.f0, fzL 1 (cInt .i64) v5.f1]), (12, tI v6), (13, tS v7), (14, tI v8)], []⟩ ?_ z0 ?_
       · kernel_rfl
       refine AWp.skip ?_
       refine AWp.seq ?_
       refine AWp.block ?_
       refine AWp.seq ?_
       refine AWp.seq ?_
       refine AWp.start [0, 1] [] [] [0, 2, 11, 12, 13, 14, 38] 0 ⟨[(0, q0 v1), (2, q4 v3), (11, .rp [fzL 1 (cInt .i64) v5.f0, fzL 1 (cInt .i64) v5.f1]), (12, tI v6), (13, tS v7), (14, tI v8), (38, tB (v7 == ([] : List UInt8)))], []⟩ rfl ?_ z0 trivial ?_
       · kernel_rfl
       refine AOps.nil ?_
       refine AWp.cond rfl (fun hb => ?_) fun hb => ?_
       · replace h := of_true h hb
         refine AWp.keepTo [] 0 ⟨[], []⟩ ?_ z0 ?_
         · kernel_rfl
         refine AWp.seq ?_
         refine AWp.start [0, 1, 2] [] [] [6, 7, 8] 0 ⟨[(6, tI (0 : Int)), (7, tS ([] : List UInt8)), (8, tI (5 : Int))], []⟩ rfl ?_ z0 trivial ?_
         · kernel_rfl
         refine AOps.nil ?_
         refine AWp.ret ?_
         cases h
         exact Or.inr ⟨_, rfl, by simp, rfl, rfl⟩
       · replace h := of_false h hb
         refine AWp.keepTo [0, 2, 11, 12, 13, 14] 0 ⟨[(0, q0 v1), (2, q4 v3), (11, .rp [fzL 1 (cInt .i64) v5.f0, fzL 1 (cInt .i64) v5.f1]), (12, tI v6), (13, tS v7), (14, tI v8)], []⟩ ?_ z0 ?_
         · kernel_rfl
         refine AWp.skip ?_
         refine AWp.seq ?_
         refine AWp.start [0, 1, 2, 3] [4, 5] [] [0, 2, 11, 12, 14, 39, 41, 42] 0 ⟨[(0, q0 v1), (2, q4 v3), (11, .rp [fzL 1 (cInt .i64) v5.f0, fzL 1 (cInt .i64) v5.f1]), (12, tI v6), (14, tI v8), (39, q0 v1), (41, tI (v1.length : Int)), (42, tS v7)], []⟩ rfl ?_ z0 trivial ?_
         · kernel_rfl
         obtain ⟨v11, hv11, h⟩ := of_bind h
         refine AOps.cons (AOne.callP (F := (FF 121 0)) _ rfl rfl rfl _ rfl rfl _ _ rfl Try.call49 [q0 v1, tI (v1.length : Int), tS v7] rfl rfl (f49_ok v1 (v1.length : Int) v7 hv11) rfl) ?_
         refine AOps.go [5] [] [] [0, 2, 9, 11, 12, 14] 0 ⟨[(0, q0 v1), (2, q4 v3), (9, tI v11), (11, .rp [fzL 1 (cInt .i64) v5.f0, fzL 1 (cInt .i64) v5.f1]), (12, tI v6), (14, tI v8)], []⟩ ?_ z0 trivial ?_
         · kernel_rfl
         refine AOps.nil ?_
         refine AWp.seq ?_
         refine AWp.start [0, 1] [2, 3] [] [0, 2, 11, 12, 14, 44, 45] 0 ⟨[(0, q0 v1), (2, q4 v3), (11, .rp [fzL 1 (cInt .i64) v5.f0, fzL 1 (cInt .i64) v5.f1]), (12, tI v6), (14, tI v8), (44, q0 v1), (45, tI v11)], []⟩ rfl ?_ z0 trivial ?_
         · kernel_rfl
         obtain ⟨v12, hv12, h⟩ := of_bind h
         refine AOps.cons (AOne.callP (F := (FF 121 0)) _ rfl rfl rfl _ rfl rfl _ _ rfl Try.call50 [q0 v1, tI v11] rfl rfl (f50_ok v1 v11 hv12) rfl) ?_
         refine AOps.go [3] [] [] [0, 2, 11, 12, 14, 15] 0 ⟨[(0, q0 v1), (2, q4 v3), (11, .rp [fzL 1 (cInt .i64) v5.f0, fzL 1 (cInt .i64) v5.f1]), (12, tI v6), (14, tI v8), (15, q7 v12)], []⟩ ?_ z0 trivial ?_
         · kernel_rfl
         refine AOps.nil ?_
         refine AWp.seq ?_
         refine AWp.start [0] [] [] [0, 2, 11, 12, 14, 15, 16] 0 ⟨[(0, q0 v1), (2, q4 v3), (11, .rp [fzL 1 (cInt .i64) v5.f0, fzL 1 (cInt .i64) v5.f1]), (12, tI v6), (14, tI v8), (15, q7 v12), (16, tI (0 : Int))], []⟩ rfl ?_ z0 trivial ?_
         · kernel_rfl
         refine AOps.nil ?_
         refine AWp.seq ?_
         refine AWp.block ?_
         obtain ⟨y, hy, h⟩ := of_bind h
         refine AWp.mono (AWp.loop (S := Int × Int) (Y := Out (Int × (List UInt8) × Int) (Int × Int)) (fun s => ⟨[(0, q0 v1), (2, q4 v3), (11, .rp [fzL 1 (cInt .i64) v5.f0, fzL 1 (cInt .i64) v5.f1]), (12, tI s.1), (14, tI v8), (15, q7 v12), (16, tI s.2)], []⟩) (fun s => f17_b1 v1 v3 v5 v8 v12 s.1 s.2) (fun y e σ => match y with | .ret r => e = .ret ∧ σ = ⟨[(6, tI r.1), (7, tS r.2.1), (8, tI r.2.2)], []⟩ | .go v => e = .exit 2 ∧ σ = ⟨[(0, q0 v1), (2, q4 v3), (11, .rp [fzL 1 (cInt .i64) v5.f0, fzL 1 (cInt .i64) v5.f1]), (12, tI v.1), (14, tI v8), (15, q7 v12), (16, tI v.2)], []⟩) ?_ hy) ?_
         · rintro ⟨v13, v14⟩ o h
           refine AWp.seq ?_
           refine AWp.seq ?_
           obtain ⟨v17, hd, h⟩ := of_bind h
           refine AWp.draw FFm (fun σ => σ = ⟨[(0, q0 v1), (2, q4 v3), (11, .rp [fzL 1 (cInt .i64) v5.f0, fzL 1 (cInt .i64) v5.f1]), (12, tI v13), (14, tI v8), (15, q7 v12), (16, tI v14), (63, tB v17)], []⟩) (n := 17) rfl (ls := #[false, false, false, false, false, false, false, false, false, false, false, false, false, false, false, false, false]) rfl ?_ ?_
           · refine AAny.go (by kernel_rfl) [0, 1, 2, 3, 4] (fuel' := 12) rfl [] #[true, true, true, true, true, false, false, false, false, false, false, false, false, false, false, false, false] [0, 2, 11, 12, 14, 15, 16, 51] 0 ⟨[(0, q0 v1), (2, q4 v3), (11, .rp [fzL 1 (cInt .i64) v5.f0, fzL 1 (cInt .i64) v5.f1]), (12, tI v13), (14, tI v8), (15, q7 v12), (16, tI v14), (51, tB (decide (v14 < (v12.length : Int))))], []⟩ ?_ z0 trivial ?_
             · kernel_rfl
             refine AAny.split (fun b => ⟨[(0, q0 v1), (2, q4 v3), (11, .rp [fzL 1 (cInt .i64) v5.f0, fzL 1 (cInt .i64) v5.f1]), (12, tI v13), (14, tI v8), (15, q7 v12), (16, tI v14), (51, tB b)], []⟩) _ (fun hb => ?_) fun hb => ?_
             · replace hd := of_true hd hb
               obtain ⟨hg, hd⟩ := of_guard hd
               refine AAny.go (by kernel_rfl) [5, 6, 7, 8, 10, 11, 12, 13, 14] (fuel' := 3) rfl [(0 : Int) ≤ v14, v14 < (v12.length : Int), (0 : Int) ≤ v8, v8 < (v3.length : Int)] #[true, true, true, true, true, true, true, true, true, false, true, true, true, true, true, false, false] [0, 2, 11, 12, 14, 15, 16, 51, 55, 61] 0 ⟨[(0, q0 v1), (2, q4 v3), (11, .rp [fzL 1 (cInt .i64) v5.f0, fzL 1 (cInt .i64) v5.f1]), (12, tI v13), (14, tI v8), (15, q7 v12), (16, tI v14), (51, tB true), (55, .pe (.slot 15 0, []) v14.toNat 0 3), (61, tS ((gD v3 v8).f0))], []⟩ ?_ z0 ⟨hg.1, hg.2.1, hg.2.2.1, hg.2.2.2⟩ ?_
               · kernel_rfl
               refine AAny.step (i := 9) (fuel' := 2) rfl (by kernel_rfl) [] #[true, true, true, true, true, true, true, true, true, true, true, true, true, true, true, false, false] rfl [0, 2, 11, 12, 14, 15, 16, 51, 56, 61] 0 ⟨[(0, q0 v1), (2, q4 v3), (11, .rp [fzL 1 (cInt .i64) v5.f0, fzL 1 (cInt .i64) v5.f1]), (12, tI v13), (14, tI v8), (15, q7 v12), (16, tI v14), (51, tB true), (56, tS ((gD v12 v14).f0)), (61, tS ((gD v3 v8).f0))], []⟩ ?_ z0 trivial ?_
               · kernel_rfl
               refine AAny.go (by kernel_rfl) [15, 16] (fuel' := 0) rfl [] #[true, true, true, true, true, true, true, true, true, true, true, true, true, true, true, true, true] [0, 2, 11, 12, 14, 15, 16, 63] 0 ⟨[(0, q0 v1), (2, q4 v3), (11, .rp [fzL 1 (cInt .i64) v5.f0, fzL 1 (cInt .i64) v5.f1]), (12, tI v13), (14, tI v8), (15, q7 v12), (16, tI v14), (63, tB (!(((gD v12 v14).f0) == ((gD v3 v8).f0))))], []⟩ ?_ z0 trivial ?_
               · kernel_rfl
               refine AAny.keepTo [0, 2, 11, 12, 14, 15, 16, 63] 0 ⟨[(0, q0 v1), (2, q4 v3), (11, .rp [fzL 1 (cInt .i64) v5.f0, fzL 1 (cInt .i64) v5.f1]), (12, tI v13), (14, tI v8), (15, q7 v12), (16, tI v14), (63, tB (!(((gD v12 v14).f0) == ((gD v3 v8).f0))))], []⟩ _ ?_ rfl z0 (AAny.done (by kernel_rfl) ?_)
               · kernel_rfl
               cases hd
               exact rfl
             · replace hd := of_false hd hb
               refine AAny.go (by kernel_rfl) [5, 6, 7, 8, 9, 10, 11, 12, 13, 14, 15, 16] (fuel' := 0) rfl [] #[true, true, true, true, true, true, true, true, true, true, true, true, true, true, true, true, true] [0, 2, 11, 12, 14, 15, 16, 63] 0 ⟨[(0, q0 v1), (2, q4 v3), (11, .rp [fzL 1 (cInt .i64) v5.f0, fzL 1 (cInt .i64) v5.f1]), (12, tI v13), (14, tI v8), (15, q7 v12), (16, tI v14), (63, tB false)], []⟩ ?_ z0 trivial ?_
               · kernel_rfl
               refine AAny.keepTo [0, 2, 11, 12, 14, 15, 16, 63] 0 ⟨[(0, q0 v1), (2, q4 v3), (11, .rp [fzL 1 (cInt .i64) v5.f0, fzL 1 (cInt .i64) v5.f1]), (12, tI v13), (14, tI v8), (15, q7 v12), (16, tI v14), (63, tB false)], []⟩ _ ?_ rfl z0 (AAny.done (by kernel_rfl) ?_)
               · kernel_rfl
               cases hd
               exact rfl
           rintro σ' rfl
           refine AWp.cond rfl (fun hb => ?_) fun hb => ?_
           · replace h := of_true h hb
             refine AWp.keepTo [0, 2, 11, 12, 14, 15, 16] 0 ⟨[(0, q0 v1), (2, q4 v3), (11, .rp [fzL 1 (cInt .i64) v5.f0, fzL 1 (cInt .i64) v5.f1]), (12, tI v13), (14, tI v8), (15, q7 v12), (16, tI v14)], []⟩ ?_ z0 ?_
             · kernel_rfl
             refine AWp.skip ?_
             refine AWp.block ?_
             refine AWp.seq ?_
             refine AWp.draw FFm _ (n := 10) rfl (ls := #[false, false, false, false, false, false, false, false, false, false]) rfl ?_ (fun _ h => h)
             obtain ⟨hg, h⟩ := of_guard h
             refine AAny.go (by kernel_rfl) [0, 1, 2, 3, 4, 5] (fuel' := 4) rfl [(0 : Int) ≤ v14, v14 < (v12.length : Int)] #[true, true, true, true, true, true, false, false, false, false] [0, 2, 11, 12, 14, 15, 16, 64, 65, 66, 69] 0 ⟨[(0, q0 v1), (2, q4 v3), (11, .rp [fzL 1 (cInt .i64) v5.f0, fzL 1 (cInt .i64) v5.f1]), (12, tI v13), (14, tI v8), (15, q7 v12), (16, tI v14), (64, tI v13), (65, .agg [fzL 1 (cInt .i64) v5.f0, fzL 1 (cInt .i64) v5.f1]), (66, q0 v1), (69, .pe (.slot 15 0, []) v14.toNat 0 3)], []⟩ ?_ z0 ⟨hg.1, hg.2⟩ ?_
             · kernel_rfl
             refine AAny.step (i := 6) (fuel' := 3) rfl (by kernel_rfl) [] #[true, true, true, true, true, true, true, false, false, false] rfl [0, 2, 11, 12, 14, 15, 16, 64, 65, 66, 70] 0 ⟨[(0, q0 v1), (2, q4 v3), (11, .rp [fzL 1 (cInt .i64) v5.f0, fzL 1 (cInt .i64) v5.f1]), (12, tI v13), (14, tI v8), (15, q7 v12), (16, tI v14), (64, tI v13), (65, .agg [fzL 1 (cInt .i64) v5.f0, fzL 1 (cInt .i64) v5.f1]), (66, q0 v1), (70, .agg (c35 (gD v12 v14)))], []⟩ ?_ z0 trivial ?_
             · kernel_rfl
             obtain ⟨v18, hv18, h⟩ := of_bind h
             refine AAny.serial (i := 7) (fuel := 2) (by kernel_rfl) (AOne.callP (F := (FF 121 0)) _ rfl rfl rfl _ rfl rfl _ _ rfl Try.call51 [.agg [fzL 1 (cInt .i64) v5.f0, fzL 1 (cInt .i64) v5.f1], q0 v1, .agg (c35 (gD v12 v14))] rfl rfl (f51_ok v5 v1 (gD v12 v14) hv18) rfl) ?_
             refine AAny.keepTo [0, 2, 11, 12, 14, 15, 16, 64, 71] 0 ⟨[(0, q0 v1), (2, q4 v3), (11, .rp [fzL 1 (cInt .i64) v5.f0, fzL 1 (cInt .i64) v5.f1]), (12, tI v13), (14, tI v8), (15, q7 v12), (16, tI v14), (64, tI v13), (71, tI v18)], []⟩ #[true, true, true, true, true, true, true, true, false, false] ?_ rfl z0 ?_
             · kernel_rfl
             refine AAny.go (by kernel_rfl) [8, 9] (fuel' := 0) rfl [] #[true, true, true, true, true, true, true, true, true, true] [0, 2, 11, 12, 14, 15, 16] 0 ⟨[(0, q0 v1), (2, q4 v3), (11, .rp [fzL 1 (cInt .i64) v5.f0, fzL 1 (cInt .i64) v5.f1]), (12, tI (w64 (v13 + v18))), (14, tI v8), (15, q7 v12), (16, tI v14)], []⟩ ?_ z0 trivial ?_
             · kernel_rfl
             refine AAny.keepTo [0, 2, 11, 12, 14, 15, 16] 0 ⟨[(0, q0 v1), (2, q4 v3), (11, .rp [fzL 1 (cInt .i64) v5.f0, fzL 1 (cInt .i64) v5.f1]), (12, tI (w64 (v13 + v18))), (14, tI v8), (15, q7 v12), (16, tI v14)], []⟩ _ ?_ rfl z0 (AAny.done (by kernel_rfl) ?_)
             · kernel_rfl
             refine AWp.start [0, 1, 2] [] [] [0, 2, 11, 12, 14, 15, 16] 0 ⟨[(0, q0 v1), (2, q4 v3), (11, .rp [fzL 1 (cInt .i64) v5.f0, fzL 1 (cInt .i64) v5.f1]), (12, tI (w64 (v13 + v18))), (14, tI v8), (15, q7 v12), (16, tI (w64 (v14 + (1 : Int))))], []⟩ rfl ?_ z0 trivial ?_
             · kernel_rfl
             refine AOps.nil ?_
             cases h
             exact Or.inl ⟨_, rfl, rfl, rfl⟩
           · replace h := of_false h hb
             refine AWp.keepTo [0, 2, 11, 12, 14, 15, 16] 0 ⟨[(0, q0 v1), (2, q4 v3), (11, .rp [fzL 1 (cInt .i64) v5.f0, fzL 1 (cInt .i64) v5.f1]), (12, tI v13), (14, tI v8), (15, q7 v12), (16, tI v14)], []⟩ ?_ z0 ?_
             · kernel_rfl
             refine AWp.exit ?_
             cases h
             exact Or.inr ⟨_, rfl, by simp, rfl, rfl⟩
         · intro e σ hp
           rcases y with v19 | ⟨v15, v16⟩
           · obtain ⟨rfl, rfl⟩ := hp
             cases h
             exact Or.inr ⟨_, rfl, by simp, rfl, rfl⟩
           · obtain ⟨rfl, rfl⟩ := hp
             refine AWp.seq ?_
             refine AWp.seq ?_
             refine AWp.start [0, 1, 2, 3] [] [] [0, 2, 11, 12, 14, 15, 16, 78] 0 ⟨[(0, q0 v1), (2, q4 v3), (11, .rp [fzL 1 (cInt .i64) v5.f0, fzL 1 (cInt .i64) v5.f1]), (12, tI v15), (14, tI v8), (15, q7 v12), (16, tI v16), (78, tB (v16 == (v12.length : Int)))], []⟩ rfl ?_ z0 trivial ?_
             · kernel_rfl
             refine AOps.nil ?_
             refine AWp.cond rfl (fun hb => ?_) fun hb => ?_
             · replace h := of_true h hb
               refine AWp.keepTo [] 0 ⟨[], []⟩ ?_ z0 ?_
               · kernel_rfl
               refine AWp.seq ?_
               refine AWp.start [0, 1, 2] [] [] [6, 7, 8] 0 ⟨[(6, tI (0 : Int)), (7, tS ([] : List UInt8)), (8, tI (5 : Int))], []⟩ rfl ?_ z0 trivial ?_
               · kernel_rfl
               refine AOps.nil ?_
               refine AWp.ret ?_
               cases h
               exact Or.inr ⟨_, rfl, by simp, rfl, rfl⟩
             · replace h := of_false h hb
               refine AWp.keepTo [0, 2, 11, 12, 14, 15, 16] 0 ⟨[(0, q0 v1), (2, q4 v3), (11, .rp [fzL 1 (cInt .i64) v5.f0, fzL 1 (cInt .i64) v5.f1]), (12, tI v15), (14, tI v8), (15, q7 v12), (16, tI v16)], []⟩ ?_ z0 ?_
               · kernel_rfl
               refine AWp.skip ?_
               refine AWp.seq ?_
               refine AWp.seq ?_
               obtain ⟨v20, hd, h⟩ := of_bind h
               refine AWp.draw FFm (fun σ => σ = ⟨[(0, q0 v1), (2, q4 v3), (11, .rp [fzL 1 (cInt .i64) v5.f0, fzL 1 (cInt .i64) v5.f1]), (12, tI v15), (14, tI v8), (15, q7 v12), (16, tI v16), (98, tB v20)], []⟩) (n := 20) rfl (ls := #[false, false, false, false, false, false, false, false, false, false, false, false, false, false, false, false, false, false, false, false]) rfl ?_ ?_
               · obtain ⟨hg, hd⟩ := of_guard hd
                 refine AAny.go (by kernel_rfl) [0, 1, 2, 3, 4, 5, 6] (fuel' := 13) rfl [(0 : Int) ≤ v8, v8 < (v3.length : Int)] #[true, true, true, true, true, true, true, false, false, false, false, false, false, false, false, false, false, false, false, false] [0, 2, 11, 12, 14, 15, 16, 85] 0 ⟨[(0, q0 v1), (2, q4 v3), (11, .rp [fzL 1 (cInt .i64) v5.f0, fzL 1 (cInt .i64) v5.f1]), (12, tI v15), (14, tI v8), (15, q7 v12), (16, tI v16), (85, tB (decide ((gD v3 v8).f1 < (0 : Int))))], []⟩ ?_ z0 ⟨hg.1, hg.2⟩ ?_
                 · kernel_rfl
                 refine AAny.split (fun b => ⟨[(0, q0 v1), (2, q4 v3), (11, .rp [fzL 1 (cInt .i64) v5.f0, fzL 1 (cInt .i64) v5.f1]), (12, tI v15), (14, tI v8), (15, q7 v12), (16, tI v16), (85, tB b)], []⟩) _ (fun hb => ?_) fun hb => ?_
                 · replace hd := of_true hd hb
                   refine AAny.go (by kernel_rfl) [7, 8, 9, 10, 11, 12, 13, 14, 15, 16, 17, 18, 19] (fuel' := 0) rfl [] #[true, true, true, true, true, true, true, true, true, true, true, true, true, true, true, true, true, true, true, true] [0, 2, 11, 12, 14, 15, 16, 98] 0 ⟨[(0, q0 v1), (2, q4 v3), (11, .rp [fzL 1 (cInt .i64) v5.f0, fzL 1 (cInt .i64) v5.f1]), (12, tI v15), (14, tI v8), (15, q7 v12), (16, tI v16), (98, tB true)], []⟩ ?_ z0 trivial ?_
                   · kernel_rfl
                   refine AAny.keepTo [0, 2, 11, 12, 14, 15, 16, 98] 0 ⟨[(0, q0 v1), (2, q4 v3), (11, .rp [fzL 1 (cInt .i64) v5.f0, fzL 1 (cInt .i64) v5.f1]), (12, tI v15), (14, tI v8), (15, q7 v12), (16, tI v16), (98, tB true)], []⟩ _ ?_ rfl z0 (AAny.done (by kernel_rfl) ?_)
                   · kernel_rfl
                   cases hd
                   exact rfl
                 · replace hd := of_false hd hb
                   obtain ⟨hg, hd⟩ := of_guard hd
                   refine AAny.go (by kernel_rfl) [7, 8, 9, 10, 11, 12, 13, 14, 15] (fuel' := 4) rfl [(0 : Int) ≤ v8, v8 < (v3.length : Int), (0 : Int) ≤ v16, v16 < (v12.length : Int)] #[true, true, true, true, true, true, true, true, true, true, true, true, true, true, true, true, false, false, false, false] [0, 2, 11, 12, 14, 15, 16, 85, 90, 94] 0 ⟨[(0, q0 v1), (2, q4 v3), (11, .rp [fzL 1 (cInt .i64) v5.f0, fzL 1 (cInt .i64) v5.f1]), (12, tI v15), (14, tI v8), (15, q7 v12), (16, tI v16), (85, tB false), (90, tI ((gD v3 v8).f1)), (94, .pe (.slot 15 0, []) v16.toNat 2 3)], []⟩ ?_ z0 ⟨hg.1, hg.2.1, hg.2.2.1, hg.2.2.2⟩ ?_
                   · kernel_rfl
                   refine AAny.step (i := 16) (fuel' := 3) rfl (by kernel_rfl) [] #[true, true, true, true, true, true, true, true, true, true, true, true, true, true, true, true, true, false, false, false] rfl [0, 2, 11, 12, 14, 15, 16, 85, 90, 95] 0 ⟨[(0, q0 v1), (2, q4 v3), (11, .rp [fzL 1 (cInt .i64) v5.f0, fzL 1 (cInt .i64) v5.f1]), (12, tI v15), (14, tI v8), (15, q7 v12), (16, tI v16), (85, tB false), (90, tI ((gD v3 v8).f1)), (95, tI ((gD v12 v16).f2))], []⟩ ?_ z0 trivial ?_
                   · kernel_rfl
                   refine AAny.go (by kernel_rfl) [17, 18, 19] (fuel' := 0) rfl [] #[true, true, true, true, true, true, true, true, true, true, true, true, true, true, true, true, true, true, true, true] [0, 2, 11, 12, 14, 15, 16, 98] 0 ⟨[(0, q0 v1), (2, q4 v3), (11, .rp [fzL 1 (cInt .i64) v5.f0, fzL 1 (cInt .i64) v5.f1]), (12, tI v15), (14, tI v8), (15, q7 v12), (16, tI v16), (98, tB (decide ((gD v3 v8).f1 ≥ (if (1 : Int) > (gD v12 v16).f2 then (1 : Int) else (gD v12 v16).f2))))], []⟩ ?_ z0 trivial ?_
                   · kernel_rfl
                   refine AAny.keepTo [0, 2, 11, 12, 14, 15, 16, 98] 0 ⟨[(0, q0 v1), (2, q4 v3), (11, .rp [fzL 1 (cInt .i64) v5.f0, fzL 1 (cInt .i64) v5.f1]), (12, tI v15), (14, tI v8), (15, q7 v12), (16, tI v16), (98, tB (decide ((gD v3 v8).f1 ≥ (if (1 : Int) > (gD v12 v16).f2 then (1 : Int) else (gD v12 v16).f2))))], []⟩ _ ?_ rfl z0 (AAny.done (by kernel_rfl) ?_)
                   · kernel_rfl
                   cases hd
                   exact rfl
               rintro σ' rfl
               refine AWp.cond rfl (fun hb => ?_) fun hb => ?_
               · replace h := of_true h hb
                 refine AWp.keepTo [] 0 ⟨[], []⟩ ?_ z0 ?_
                 · kernel_rfl
                 refine AWp.seq ?_
                 refine AWp.start [0, 1, 2] [] [] [6, 7, 8] 0 ⟨[(6, tI (0 : Int)), (7, tS ([] : List UInt8)), (8, tI (2 : Int))], []⟩ rfl ?_ z0 trivial ?_
                 · kernel_rfl
                 refine AOps.nil ?_
                 refine AWp.ret ?_
                 cases h
                 exact Or.inr ⟨_, rfl, by simp, rfl, rfl⟩
               · replace h := of_false h hb
                 refine AWp.keepTo [0, 2, 11, 12, 14, 15, 16] 0 ⟨[(0, q0 v1), (2, q4 v3), (11, .rp [fzL 1 (cInt .i64) v5.f0, fzL 1 (cInt .i64) v5.f1]), (12, tI v15), (14, tI v8), (15, q7 v12), (16, tI v16)], []⟩ ?_ z0 ?_
                 · kernel_rfl
                 refine AWp.skip ?_
                 refine AWp.seq ?_
                 refine AWp.draw FFm _ (n := 16) rfl (ls := #[false, false, false, false, false, false, false, false, false, false, false, false, false, false, false, false]) rfl ?_ (fun _ h => h)
                 obtain ⟨hg, h⟩ := of_guard h
                 refine AAny.go (by kernel_rfl) [0, 1, 2, 3, 4, 5, 6, 7, 8, 9, 10] (fuel' := 5) rfl [(0 : Int) ≤ v8, v8 < (v3.length : Int), (0 : Int) ≤ v16, v16 < (v12.length : Int)] #[true, true, true, true, true, true, true, true, true, true, true, false, false, false, false, false] [0, 2, 11, 12, 14, 15, 16, 99, 104, 105, 106, 109] 0 ⟨[(0, q0 v1), (2, q4 v3), (11, .rp [fzL 1 (cInt .i64) v5.f0, fzL 1 (cInt .i64) v5.f1]), (12, tI v15), (14, tI v8), (15, q7 v12), (16, tI v16), (99, tI v15), (104, tI ((gD v3 v8).f1)), (105, .agg [fzL 1 (cInt .i64) v5.f0, fzL 1 (cInt .i64) v5.f1]), (106, q0 v1), (109, .pe (.slot 15 0, []) v16.toNat 0 3)], []⟩ ?_ z0 ⟨hg.1, hg.2.1, hg.2.2.1, hg.2.2.2⟩ ?_
                 · kernel_rfl
                 refine AAny.step (i := 11) (fuel' := 4) rfl (by kernel_rfl) [] #[true, true, true, true, true, true, true, true, true, true, true, true, false, false, false, false] rfl [0, 2, 11, 12, 14, 15, 16, 99, 104, 105, 106, 110] 0 ⟨[(0, q0 v1), (2, q4 v3), (11, .rp [fzL 1 (cInt .i64) v5.f0, fzL 1 (cInt .i64) v5.f1]), (12, tI v15), (14, tI v8), (15, q7 v12), (16, tI v16), (99, tI v15), (104, tI ((gD v3 v8).f1)), (105, .agg [fzL 1 (cInt .i64) v5.f0, fzL 1 (cInt .i64) v5.f1]), (106, q0 v1), (110, .agg (c35 (gD v12 v16)))], []⟩ ?_ z0 trivial ?_
                 · kernel_rfl
                 obtain ⟨v21, hv21, h⟩ := of_bind h
                 refine AAny.serial (i := 12) (fuel := 3) (by kernel_rfl) (AOne.callP (F := (FF 121 0)) _ rfl rfl rfl _ rfl rfl _ _ rfl Try.call52 [.agg [fzL 1 (cInt .i64) v5.f0, fzL 1 (cInt .i64) v5.f1], q0 v1, .agg (c35 (gD v12 v16))] rfl rfl (f52_ok v5 v1 (gD v12 v16) hv21) rfl) ?_
                 refine AAny.keepTo [0, 2, 11, 12, 14, 15, 16, 99, 104, 111] 0 ⟨[(0, q0 v1), (2, q4 v3), (11, .rp [fzL 1 (cInt .i64) v5.f0, fzL 1 (cInt .i64) v5.f1]), (12, tI v15), (14, tI v8), (15, q7 v12), (16, tI v16), (99, tI v15), (104, tI ((gD v3 v8).f1)), (111, tI v21)], []⟩ #[true, true, true, true, true, true, true, true, true, true, true, true, true, false, false, false] ?_ rfl z0 ?_
                 · kernel_rfl
                 refine AAny.go (by kernel_rfl) [13, 14, 15] (fuel' := 0) rfl [] #[true, true, true, true, true, true, true, true, true, true, true, true, true, true, true, true] [0, 2, 11, 12, 14, 15, 16] 0 ⟨[(0, q0 v1), (2, q4 v3), (11, .rp [fzL 1 (cInt .i64) v5.f0, fzL 1 (cInt .i64) v5.f1]), (12, tI (w64 (v15 + (w64 (((gD v3 v8).f1) * v21))))), (14, tI v8), (15, q7 v12), (16, tI v16)], []⟩ ?_ z0 trivial ?_
                 · kernel_rfl
                 refine AAny.keepTo [0, 2, 11, 12, 14, 15, 16] 0 ⟨[(0, q0 v1), (2, q4 v3), (11, .rp [fzL 1 (cInt .i64) v5.f0, fzL 1 (cInt .i64) v5.f1]), (12, tI (w64 (v15 + (w64 (((gD v3 v8).f1) * v21))))), (14, tI v8), (15, q7 v12), (16, tI v16)], []⟩ _ ?_ rfl z0 (AAny.done (by kernel_rfl) ?_)
                 · kernel_rfl
                 obtain ⟨hg, h⟩ := of_guard h
                 refine AWp.start [0, 1, 2, 3, 4, 5] [] [(0 : Int) ≤ v16, v16 < (v12.length : Int)] [0, 2, 11, 12, 13, 14] 0 ⟨[(0, q0 v1), (2, q4 v3), (11, .rp [fzL 1 (cInt .i64) v5.f0, fzL 1 (cInt .i64) v5.f1]), (12, tI (w64 (v15 + (w64 (((gD v3 v8).f1) * v21))))), (13, tS ((gD v12 v16).f1)), (14, tI v8)], []⟩ rfl ?_ z0 ⟨hg.1, hg.2⟩ ?_
                 · kernel_rfl
                 refine AOps.nil ?_
                 refine AWp.start [0, 1, 2] [] [] [0, 2, 11, 12, 13, 14] 0 ⟨[(0, q0 v1), (2, q4 v3), (11, .rp [fzL 1 (cInt .i64) v5.f0, fzL 1 (cInt .i64) v5.f1]), (12, tI (w64 (v15 + (w64 (((gD v3 v8).f1) * v21))))), (13, tS ((gD v12 v16).f1)), (14, tI (w64 (v8 + (1 : Int))))], []⟩ rfl ?_ z0 trivial ?_
                 · kernel_rfl
                 refine AOps.nil ?_
                 cases h
                 exact Or.inl ⟨_, rfl, rfl, rfl⟩
     · replace h := of_false h hb
       refine AWp.keepTo [12, 13] 0 ⟨[(12, tI v6), (13, tS v7)], []⟩ ?_ z0 ?_
       · kernel_rfl
       refine AWp.exit ?_
       cases h
       exact Or.inr ⟨_, rfl, by simp, rfl, rfl⟩
   · intro e σ hp
     rcases y with v22 | ⟨v9, v10⟩
     · obtain ⟨rfl, rfl⟩ := hp
       cases h
       exact ⟨.inr rfl, rfl⟩
     · obtain ⟨rfl, rfl⟩ := hp
       refine AWp.seq ?_
       refine AWp.start [0, 1, 2, 3, 4] [] [] [6, 7, 8] 0 ⟨[(6, tI v9), (7, tS v10), (8, tI (0 : Int))], []⟩ rfl ?_ z0 trivial ?_
       · kernel_rfl
       refine AOps.nil ?_
       refine AWp.ret ?_
       cases h
       exact ⟨.inr rfl, rfl⟩

noncomputable def f4 (v1 : List T62) (v2 : List UInt8) (v3 : List T37) : Option Bool :=
 (f12 v1).bind fun v4 => (cond v4 (some true) (some (decide ((v3.length : Int) > (100 : Int))))).bind fun v5 => cond v5 ((f13 ).bind fun v6 => some v6) ((f16 v1 v2 v3).bind fun v7 => (f17 v1 v2 v3).bind fun v8 => (cond (v7.1 == v8.1) (some (v7.2.1 == v8.2.1)) (some false)).bind fun v9 => (cond v9 (some (v7.2.2 == v8.2.2)) (some false)).bind fun v10 => (cond v10 ((f13 ).bind fun v12 => some v12) (some false)).bind fun v11 => some v11)

theorem f4_ok (v1 : List T62) (v2 : List UInt8) (v3 : List T37) {r : Bool} (h : f4 v1 v2 v3 = some r) : ACall Try.prog 4 [.tv (fzL 6 c62 v1), .tv (.str v2), .tv (fzL 2 c37 v3)] [] (.tv (.bool r)) [] := by
 refine ACall.of1 (FF 53 0) Try.func4 rfl Try.ntmps4 Try.results4 (Nat.le_of_ble_eq_true rfl) rfl rfl ?_
 refine AWp.seq ?_
 refine AWp.start [0] [] [] [0, 1, 2] 0 ⟨[(0, q0 v1), (1, tS v2), (2, q4 v3)], []⟩ rfl ?_ z0 trivial ?_
 · kernel_rfl
 refine AOps.nil ?_
 refine AWp.seq ?_
 refine AWp.seq ?_
 refine AWp.start [0] [1, 2, 3, 4, 5, 6] [] [0, 1, 2, 13] 0 ⟨[(0, q0 v1), (1, tS v2), (2, q4 v3), (13, q0 v1)], []⟩ rfl ?_ z0 trivial ?_
 · kernel_rfl
 obtain ⟨v4, hv4, h⟩ := of_bind h
 refine AOps.cons (AOne.callP (F := (FF 53 0)) _ rfl rfl rfl _ rfl rfl _ _ rfl Try.call12 [q0 v1] rfl rfl (f12_ok v1 hv4) rfl) ?_
 refine AOps.go [2] [3, 4, 5, 6] [] [0, 1, 2, 15] 0 ⟨[(0, q0 v1), (1, tS v2), (2, q4 v3), (15, tB v4)], []⟩ ?_ z0 trivial ?_
 · kernel_rfl
 obtain ⟨v5, hc3, h⟩ := of_bind h
 refine AOps.cut [3, 4, 5, 6] [] (fun σ => σ = ⟨[(0, q0 v1), (1, tS v2), (2, q4 v3), (19, tB v5)], []⟩) ?_ fun σ' hJ => ?_
 · refine AOps.split (fun b => ⟨[(0, q0 v1), (1, tS v2), (2, q4 v3), (15, tB b)], []⟩) _ (fun hb => ?_) fun hb => ?_
   · replace hc3 := of_true hc3 hb
     refine AOps.go [3, 4, 5, 6] [] [] [0, 1, 2, 19] 0 ⟨[(0, q0 v1), (1, tS v2), (2, q4 v3), (19, tB true)], []⟩ ?_ z0 trivial ?_
     · kernel_rfl
     cases hc3
     exact AOps.nil rfl
   · replace hc3 := of_false hc3 hb
     refine AOps.go [3, 4, 5, 6] [] [] [0, 1, 2, 19] 0 ⟨[(0, q0 v1), (1, tS v2), (2, q4 v3), (19, tB (decide ((v3.length : Int) > (100 : Int))))], []⟩ ?_ z0 trivial ?_
     · kernel_rfl
     cases hc3
     exact AOps.nil rfl
 subst hJ
 refine AOps.nil ?_
 refine AWp.cond rfl (fun hb => ?_) fun hb => ?_
 · replace h := of_true h hb
   refine AWp.keepTo [] 0 ⟨[], []⟩ ?_ z0 ?_
   · kernel_rfl
   refine AWp.seq ?_
   refine AWp.start [] [0, 1] [] [] 0 ⟨[], []⟩ rfl ?_ z0 trivial ?_
   · kernel_rfl
   obtain ⟨v6, hv6, h⟩ := of_bind h
   refine AOps.cons (AOne.callP (F := (FF 53 0)) _ rfl rfl rfl _ rfl rfl _ _ rfl Try.call13 [] rfl rfl (f13_ok  hv6) rfl) ?_
   refine AOps.go [1] [] [] [6] 0 ⟨[(6, tB v6)], []⟩ ?_ z0 trivial ?_
   · kernel_rfl
   refine AOps.nil ?_
   refine AWp.ret ?_
   cases h
   exact ⟨.inr rfl, rfl⟩
 · replace h := of_false h hb
   refine AWp.keepTo [0, 1, 2] 0 ⟨[(0, q0 v1), (1, tS v2), (2, q4 v3)], []⟩ ?_ z0 ?_
   · kernel_rfl
   refine AWp.skip ?_
   refine AWp.seq ?_
   refine AWp.start [0, 1, 2] [3, 4, 5, 6, 7, 8, 9, 10] [] [0, 1, 2, 22, 23, 24] 0 ⟨[(0, q0 v1), (1, tS v2), (2, q4 v3), (22, q0 v1), (23, tS v2), (24, q4 v3)], []⟩ rfl ?_ z0 trivial ?_
   · kernel_rfl
   obtain ⟨v7, hv7, h⟩ := of_bind h
   refine AOps.cons (AOne.callP (F := (FF 53 0)) _ rfl rfl rfl _ rfl rfl _ _ rfl Try.call16 [q0 v1, tS v2, q4 v3] rfl rfl (f16_ok v1 v2 v3 hv7) rfl) ?_
   refine AOps.go [4, 5, 6, 7, 8, 9, 10] [] [] [0, 1, 2, 7, 8, 9] 0 ⟨[(0, q0 v1), (1, tS v2), (2, q4 v3), (7, tI v7.1), (8, tS v7.2.1), (9, tI v7.2.2)], []⟩ ?_ z0 trivial ?_
   · kernel_rfl
   refine AOps.nil ?_
   refine AWp.seq ?_
   refine AWp.start [0, 1, 2] [3, 4, 5, 6, 7, 8, 9, 10] [] [7, 8, 9, 30, 31, 32] 0 ⟨[(7, tI v7.1), (8, tS v7.2.1), (9, tI v7.2.2), (30, q0 v1), (31, tS v2), (32, q4 v3)], []⟩ rfl ?_ z0 trivial ?_
   · kernel_rfl
   obtain ⟨v8, hv8, h⟩ := of_bind h
   refine AOps.cons (AOne.callP (F := (FF 53 0)) _ rfl rfl rfl _ rfl rfl _ _ rfl Try.call17 [q0 v1, tS v2, q4 v3] rfl rfl (f17_ok v1 v2 v3 hv8) rfl) ?_
   refine AOps.go [4, 5, 6, 7, 8, 9, 10] [] [] [7, 8, 9, 10, 11, 12] 0 ⟨[(7, tI v7.1), (8, tS v7.2.1), (9, tI v7.2.2), (10, tI v8.1), (11, tS v8.2.1), (12, tI v8.2.2)], []⟩ ?_ z0 trivial ?_
   · kernel_rfl
   refine AOps.nil ?_
   refine AWp.seq ?_
   refine AWp.start [0, 1, 2, 3] [4, 5, 6, 7, 8, 9, 10, 11, 12, 13, 14, 15, 16] [] [8, 9, 11, 12, 40] 0 ⟨[(8, tS v7.2.1), (9, tI v7.2.2), (11, tS v8.2.1), (12, tI v8.2.2), (40, tB (v7.1 == v8.1))], []⟩ rfl ?_ z0 trivial ?_
   · kernel_rfl
   obtain ⟨v9, hc4, h⟩ := of_bind h
   refine AOps.cut [4, 5, 6, 7] [8, 9, 10, 11, 12, 13, 14, 15, 16] (fun σ => σ = ⟨[(9, tI v7.2.2), (12, tI v8.2.2), (44, tB v9)], []⟩) ?_ fun σ' hJ => ?_
   · refine AOps.split (fun b => ⟨[(8, tS v7.2.1), (9, tI v7.2.2), (11, tS v8.2.1), (12, tI v8.2.2), (40, tB b)], []⟩) _ (fun hb => ?_) fun hb => ?_
     · replace hc4 := of_true hc4 hb
       refine AOps.go [4, 5, 6, 7] [] [] [9, 12, 44] 0 ⟨[(9, tI v7.2.2), (12, tI v8.2.2), (44, tB (v7.2.1 == v8.2.1))], []⟩ ?_ z0 trivial ?_
       · kernel_rfl
       cases hc4
       exact AOps.nil rfl
     · replace hc4 := of_false hc4 hb
       refine AOps.go [4, 5, 6, 7] [] [] [9, 12, 44] 0 ⟨[(9, tI v7.2.2), (12, tI v8.2.2), (44, tB false)], []⟩ ?_ z0 trivial ?_
       · kernel_rfl
       cases hc4
       exact AOps.nil rfl
   subst hJ
   refine AOps.go [8] [9, 10, 11, 12, 13, 14, 15, 16] [] [9, 12, 45] 0 ⟨[(9, tI v7.2.2), (12, tI v8.2.2), (45, tB v9)], []⟩ ?_ z0 trivial ?_
   · kernel_rfl
   obtain ⟨v10, hc9, h⟩ := of_bind h
   refine AOps.cut [9, 10, 11, 12] [13, 14, 15, 16] (fun σ => σ = ⟨[(49, tB v10)], []⟩) ?_ fun σ' hJ => ?_
   · refine AOps.split (fun b => ⟨[(9, tI v7.2.2), (12, tI v8.2.2), (45, tB b)], []⟩) _ (fun hb => ?_) fun hb => ?_
     · replace hc9 := of_true hc9 hb
       refine AOps.go [9, 10, 11, 12] [] [] [49] 0 ⟨[(49, tB (v7.2.2 == v8.2.2))], []⟩ ?_ z0 trivial ?_
       · kernel_rfl
       cases hc9
       exact AOps.nil rfl
     · replace hc9 := of_false hc9 hb
       refine AOps.go [9, 10, 11, 12] [] [] [49] 0 ⟨[(49, tB false)], []⟩ ?_ z0 trivial ?_
       · kernel_rfl
       cases hc9
       exact AOps.nil rfl
   subst hJ
   refine AOps.go [13] [14, 15, 16] [] [50] 0 ⟨[(50, tB v10)], []⟩ ?_ z0 trivial ?_
   · kernel_rfl
   obtain ⟨v11, hc14, h⟩ := of_bind h
   refine AOps.cut [14, 15] [16] (fun σ => σ = ⟨[(52, tB v11)], []⟩) ?_ fun σ' hJ => ?_
   · refine AOps.split (fun b => ⟨[(50, tB b)], []⟩) _ (fun hb => ?_) fun hb => ?_
     · replace hc14 := of_true hc14 hb
       obtain ⟨v12, hv12, hc14⟩ := of_bind hc14
       refine AOps.cons (AOne.callP (F := (FF 53 0)) _ rfl rfl rfl _ rfl rfl _ _ rfl Try.call13 [] rfl rfl (f13_ok  hv12) rfl) ?_
       refine AOps.go [15] [] [] [52] 0 ⟨[(52, tB v12)], []⟩ ?_ z0 trivial ?_
       · kernel_rfl
       cases hc14
       exact AOps.nil rfl
     · replace hc14 := of_false hc14 hb
       refine AOps.go [14, 15] [] [] [52] 0 ⟨[(52, tB false)], []⟩ ?_ z0 trivial ?_
       · kernel_rfl
       cases hc14
       exact AOps.nil rfl
   subst hJ
   refine AOps.go [16] [] [] [6] 0 ⟨[(6, tB v11)], []⟩ ?_ z0 trivial ?_
   · kernel_rfl
   refine AOps.nil ?_
   refine AWp.ret ?_
   cases h
   exact ⟨.inr rfl, rfl⟩

end Go.Sx.der
