/- Printed by program (wip/gen): plain functions and their walks; no condition. -/
import Derived.Test.YtplfiblnmnpllaaGx5
namespace Go.Sx.der
open Go Go.Sx Go.Proofs

noncomputable def f29_b1 (v1 : List T62) (v3 : List T81) (v5 : Int) : Option (Int ⊕ Out (Int × Int) Unit) :=
 cond (decide (v5 < (v3.length : Int))) (if (0 : Int) ≤ v5 ∧ v5 < (v3.length : Int) then (cond (!(((v3.getD v5.toNat default).f1) == ([] : List UInt8))) (if (0 : Int) ≤ v5 ∧ v5 < (v3.length : Int) then (f49 v1 (v1.length : Int) ((v3.getD v5.toNat default).f1)).bind fun v7 => some (decide (v7 < (0 : Int))) else none) (some false)).bind fun v6 => cond v6 (some (.inr (.ret ((0 : Int), (5 : Int))))) (some (.inl (w64 (v5 + (1 : Int))))) else none) (some (.inr (.go ())))

noncomputable def f29_j2 (v12 : Int) (v15 : Int) (v16 : Int) (v17 : Int) : Option ((Int × Int × Int × Int) ⊕ Out (Int × Int) (Int × Int)) :=
 some (.inl (v15, v16, v17, w64 (v12 + (1 : Int))))

noncomputable def f29_j3 (v9 : Int) (v10 : Int) (v12 : Int) (v18 : Int) : Option ((Int × Int × Int × Int) ⊕ Out (Int × Int) (Int × Int)) :=
 f29_j2 v12 v9 v10 v18

noncomputable def f29_b4 (v1 : List T62) (v2 : List UInt8) (v3 : List T81) (v4 : Int × Int) (v9 : Int) (v10 : Int) (v11 : Int) (v12 : Int) : Option ((Int × Int × Int × Int) ⊕ Out (Int × Int) (Int × Int)) :=
 cond (decide (v12 < (v3.length : Int))) (if (0 : Int) ≤ v12 ∧ v12 < (v3.length : Int) then cond (((v3.getD v12.toNat default).f1) == ([] : List UInt8)) (cond (decide (v11 < (0 : Int))) (f29_j3 v9 v10 v12 v12) (f29_j3 v9 v10 v12 v11)) ((cond (!((v3.getD v12.toNat default).f0)) (some (((v3.getD v12.toNat default).f1) == v2)) (some false)).bind fun v19 => cond v19 (some (.inr (.ret (v12, (0 : Int))))) ((f49 v1 (v1.length : Int) ((v3.getD v12.toNat default).f1)).bind fun v20 => (f58 v1 v20).bind fun v21 => (cond ((v3.getD v12.toNat default).f0) ((f58 v1 v4.1).bind fun v23 => (f57 v23 v20).bind fun v24 => some v24) (some false)).bind fun v22 => (cond v22 (some (decide ((v21.length : Int) > v10))) (some false)).bind fun v25 => cond v25 (f29_j2 v12 v12 (v21.length : Int) v11) (f29_j2 v12 v9 v10 v11))) else none) (some (.inr (.go (v9, v11))))

noncomputable def f29_j5 (v27 : Int) : Option (Int × Int) :=
 some (v27, (0 : Int))

noncomputable def f29 (v1 : List T62) (v2 : List UInt8) (v3 : List T81) : Option (Int × Int) :=
 (f48 v1 v2).bind fun v4 => cond (v4.2 != (0 : Int)) (some ((0 : Int), v4.2)) ((iter (fun s => f29_b1 v1 v3 s) (0 : Int)).bind fun y => match y with | .ret v8 => some (v8.1, v8.2) | .go _ => if (0 : Int) ≤ v4.1 ∧ v4.1 < (v1.length : Int) then cond ((v1.getD (Int.toNat v4.1) default).f2) (some ((0 : Int), (70 : Int))) ((iter (fun s => f29_b4 v1 v2 v3 v4 s.1 s.2.1 s.2.2.1 s.2.2.2) ((-1 : Int), (0 : Int), (-1 : Int), (0 : Int))).bind fun y => match y with | .ret v26 => some (v26.1, v26.2) | .go (v13, v14) => cond (decide (v13 < (0 : Int))) (f29_j5 v14) (f29_j5 v13)) else none)

theorem f29_ok (v1 : List T62) (v2 : List UInt8) (v3 : List T81) {r : Int × Int} (h : f29 v1 v2 v3 = some r) : ACall Try.prog 29 [.tv (fzL 6 c62 v1), .tv (.str v2), .tv (fzL 2 c81 v3)] [] (.tup [.tv (.int .i64 r.1), .tv (.int .i64 r.2)]) [] := by
 refine ACall.ofN (FF 112 0) (rs := [6, 7]) (env := [(6, tI r.1), (7, tI r.2)]) Try.func29 rfl Try.ntmps29 Try.results29 (by decide) (by decide) rfl (Nat.le_of_ble_eq_true rfl) rfl (get_ofN _ _ _ rfl) (ok_ofN _ rfl) ?_
 refine AWp.seq ?_
 refine AWp.start [0, 1] [] [] [0, 1, 2] 0 ⟨[(0, q0 v1), (1, tS v2), (2, q3 v3)], []⟩ rfl ?_ z0 trivial ?_
 · kernel_rfl
 refine AOps.nil ?_
 refine AWp.seq ?_
 refine AWp.start [0, 1] [2, 3, 4, 5, 6, 7] [] [0, 1, 2, 19, 20] 0 ⟨[(0, q0 v1), (1, tS v2), (2, q3 v3), (19, q0 v1), (20, tS v2)], []⟩ rfl ?_ z0 trivial ?_
 · kernel_rfl
 obtain ⟨v4, hv4, h⟩ := of_bind h
 refine AOps.cons (AOne.callP (F := (FF 112 0)) _ rfl rfl rfl _ rfl rfl _ _ rfl Try.call48 [q0 v1, tS v2] rfl rfl (f48_ok v1 v2 hv4) rfl) ?_
 refine AOps.go [3, 4, 5, 6, 7] [] [] [0, 1, 2, 8, 9] 0 ⟨[(0, q0 v1), (1, tS v2), (2, q3 v3), (8, tI v4.1), (9, tI v4.2)], []⟩ ?_ z0 trivial ?_
 · kernel_rfl
 refine AOps.nil ?_
 refine AWp.seq ?_
 refine AWp.seq ?_
 refine AWp.start [0, 1] [] [] [0, 1, 2, 8, 9, 25] 0 ⟨[(0, q0 v1), (1, tS v2), (2, q3 v3), (8, tI v4.1), (9, tI v4.2), (25, tB (v4.2 != (0 : Int)))], []⟩ rfl ?_ z0 trivial ?_
 · kernel_rfl
 refine AOps.nil ?_
 refine AWp.cond rfl (fun hb => ?_) fun hb => ?_
 · replace h := of_true h hb
   refine AWp.keepTo [9] 0 ⟨[(9, tI v4.2)], []⟩ ?_ z0 ?_
   · kernel_rfl
   refine AWp.seq ?_
   refine AWp.start [0, 1, 2] [] [] [6, 7] 0 ⟨[(6, tI (0 : Int)), (7, tI v4.2)], []⟩ rfl ?_ z0 trivial ?_
   · kernel_rfl
   refine AOps.nil ?_
   refine AWp.ret ?_
   cases h
   exact ⟨.inr rfl, rfl⟩
 · replace h := of_false h hb
   refine AWp.keepTo [0, 1, 2, 8] 0 ⟨[(0, q0 v1), (1, tS v2), (2, q3 v3), (8, tI v4.1)], []⟩ ?_ z0 ?_
   · kernel_rfl
   refine AWp.skip ?_
   refine AWp.seq ?_
   refine AWp.seq ?_
   refine AWp.start [0] [] [] [0, 1, 2, 8, 10] 0 ⟨[(0, q0 v1), (1, tS v2), (2, q3 v3), (8, tI v4.1), (10, tI (0 : Int))], []⟩ rfl ?_ z0 trivial ?_
   · kernel_rfl
   refine AOps.nil ?_
   refine AWp.block ?_
   obtain ⟨y, hy, h⟩ := of_bind h
   refine AWp.mono (AWp.loop (S := Int) (Y := Out (Int × Int) Unit) (fun s => ⟨[(0, q0 v1), (1, tS v2), (2, q3 v3), (8, tI v4.1), (10, tI s)], []⟩) (fun s => f29_b1 v1 v3 s) (fun y e σ => match y with | .ret r => e = .ret ∧ σ = ⟨[(6, tI r.1), (7, tI r.2)], []⟩ | .go v => e = .exit 0 ∧ σ = ⟨[(0, q0 v1), (1, tS v2), (2, q3 v3), (8, tI v4.1)], []⟩) ?_ hy) ?_
   · rintro v5 o h
     refine AWp.seq ?_
     refine AWp.seq ?_
     refine AWp.start [0, 1, 2, 3] [] [] [0, 1, 2, 8, 10, 30] 0 ⟨[(0, q0 v1), (1, tS v2), (2, q3 v3), (8, tI v4.1), (10, tI v5), (30, tB (decide (v5 < (v3.length : Int))))], []⟩ rfl ?_ z0 trivial ?_
     · kernel_rfl
     refine AOps.nil ?_
     refine AWp.cond rfl (fun hb => ?_) fun hb => ?_
     · replace h := of_true h hb
       refine AWp.keepTo [0, 1, 2, 8, 10] 0 ⟨[(0, q0 v1), (1, tS v2), (2, q3 v3), (8, tI v4.1), (10, tI v5)], []⟩ ?_ z0 ?_
       · kernel_rfl
       refine AWp.skip ?_
       refine AWp.seq ?_
       refine AWp.block ?_
       refine AWp.seq ?_
       obtain ⟨hg, h⟩ := of_guard h
       refine AWp.start [0, 1, 2, 3, 4, 5, 6] [7, 8, 9, 10, 11, 12, 13, 14, 15, 16, 17] [(0 : Int) ≤ v5, v5 < (v3.length : Int)] [0, 1, 2, 8, 10, 39] 0 ⟨[(0, q0 v1), (1, tS v2), (2, q3 v3), (8, tI v4.1), (10, tI v5), (39, tB (!(((gD v3 v5).f1) == ([] : List UInt8))))], []⟩ rfl ?_ z0 ⟨hg.1, hg.2⟩ ?_
       · kernel_rfl
       obtain ⟨v6, hc7, h⟩ := of_bind h
       refine AOps.cut [7, 8, 9, 10, 11, 12, 13, 14, 15, 16, 17] [] (fun σ => σ = ⟨[(0, q0 v1), (1, tS v2), (2, q3 v3), (8, tI v4.1), (10, tI v5), (50, tB v6)], []⟩) ?_ fun σ' hJ => ?_
       · refine AOps.split (fun b => ⟨[(0, q0 v1), (1, tS v2), (2, q3 v3), (8, tI v4.1), (10, tI v5), (39, tB b)], []⟩) _ (fun hb => ?_) fun hb => ?_
         · replace hc7 := of_true hc7 hb
           obtain ⟨hg, hc7⟩ := of_guard hc7
           refine AOps.go [7, 8, 9, 10, 11, 12, 13, 14] [15, 16, 17] [(0 : Int) ≤ v5, v5 < (v3.length : Int)] [0, 1, 2, 8, 10, 39, 40, 42, 47] 0 ⟨[(0, q0 v1), (1, tS v2), (2, q3 v3), (8, tI v4.1), (10, tI v5), (39, tB true), (40, q0 v1), (42, tI (v1.length : Int)), (47, tS ((gD v3 v5).f1))], []⟩ ?_ z0 ⟨hg.1, hg.2⟩ ?_
           · kernel_rfl
           obtain ⟨v7, hv7, hc7⟩ := of_bind hc7
           refine AOps.cons (AOne.callP (F := (FF 112 0)) _ rfl rfl rfl _ rfl rfl _ _ rfl Try.call49 [q0 v1, tI (v1.length : Int), tS ((gD v3 v5).f1)] rfl rfl (f49_ok v1 (v1.length : Int) ((gD v3 v5).f1) hv7) rfl) ?_
           refine AOps.go [16, 17] [] [] [0, 1, 2, 8, 10, 50] 0 ⟨[(0, q0 v1), (1, tS v2), (2, q3 v3), (8, tI v4.1), (10, tI v5), (50, tB (decide (v7 < (0 : Int))))], []⟩ ?_ z0 trivial ?_
           · kernel_rfl
           cases hc7
           exact AOps.nil rfl
         · replace hc7 := of_false hc7 hb
           refine AOps.go [7, 8, 9, 10, 11, 12, 13, 14, 15, 16, 17] [] [] [0, 1, 2, 8, 10, 50] 0 ⟨[(0, q0 v1), (1, tS v2), (2, q3 v3), (8, tI v4.1), (10, tI v5), (50, tB false)], []⟩ ?_ z0 trivial ?_
           · kernel_rfl
           cases hc7
           exact AOps.nil rfl
       subst hJ
       refine AOps.nil ?_
       refine AWp.cond rfl (fun hb => ?_) fun hb => ?_
       · replace h := of_true h hb
         refine AWp.keepTo [] 0 ⟨[], []⟩ ?_ z0 ?_
         · kernel_rfl
         refine AWp.seq ?_
         refine AWp.start [0, 1] [] [] [6, 7] 0 ⟨[(6, tI (0 : Int)), (7, tI (5 : Int))], []⟩ rfl ?_ z0 trivial ?_
         · kernel_rfl
         refine AOps.nil ?_
         refine AWp.ret ?_
         cases h
         exact Or.inr ⟨_, rfl, by simp, rfl, rfl⟩
       · replace h := of_false h hb
         refine AWp.keepTo [0, 1, 2, 8, 10] 0 ⟨[(0, q0 v1), (1, tS v2), (2, q3 v3), (8, tI v4.1), (10, tI v5)], []⟩ ?_ z0 ?_
         · kernel_rfl
         refine AWp.skip ?_
         refine AWp.start [0, 1, 2] [] [] [0, 1, 2, 8, 10] 0 ⟨[(0, q0 v1), (1, tS v2), (2, q3 v3), (8, tI v4.1), (10, tI (w64 (v5 + (1 : Int))))], []⟩ rfl ?_ z0 trivial ?_
         · kernel_rfl
         refine AOps.nil ?_
         cases h
         exact Or.inl ⟨_, rfl, rfl, rfl⟩
     · replace h := of_false h hb
       refine AWp.keepTo [0, 1, 2, 8] 0 ⟨[(0, q0 v1), (1, tS v2), (2, q3 v3), (8, tI v4.1)], []⟩ ?_ z0 ?_
       · kernel_rfl
       refine AWp.exit ?_
       cases h
       exact Or.inr ⟨_, rfl, by simp, rfl, rfl⟩
   · intro e σ hp
     rcases y with v8 | _
     · obtain ⟨rfl, rfl⟩ := hp
       cases h
       exact ⟨.inr rfl, rfl⟩
     · obtain ⟨rfl, rfl⟩ := hp
       refine AWp.seq ?_
       refine AWp.seq ?_
       obtain ⟨hg, h⟩ := of_guard h
       refine AWp.start [0, 1, 2, 3, 4] [] [(0 : Int) ≤ v4.1, v4.1 < (v1.length : Int)] [0, 1, 2, 8, 55] 0 ⟨[(0, q0 v1), (1, tS v2), (2, q3 v3), (8, tI v4.1), (55, tB ((v1.getD (Int.toNat v4.1) default).f2))], []⟩ rfl ?_ z0 ⟨hg.1, hg.2⟩ ?_
       · kernel_rfl
       refine AOps.nil ?_
       refine AWp.cond rfl (fun hb => ?_) fun hb => ?_
       · replace h := of_true h hb
         refine AWp.keepTo [] 0 ⟨[], []⟩ ?_ z0 ?_
         · kernel_rfl
         refine AWp.seq ?_
         refine AWp.start [0, 1] [] [] [6, 7] 0 ⟨[(6, tI (0 : Int)), (7, tI (70 : Int))], []⟩ rfl ?_ z0 trivial ?_
         · kernel_rfl
         refine AOps.nil ?_
         refine AWp.ret ?_
         cases h
         exact ⟨.inr rfl, rfl⟩
       · replace h := of_false h hb
         refine AWp.keepTo [0, 1, 2, 8] 0 ⟨[(0, q0 v1), (1, tS v2), (2, q3 v3), (8, tI v4.1)], []⟩ ?_ z0 ?_
         · kernel_rfl
         refine AWp.skip ?_
         refine AWp.seq ?_
         refine AWp.start [0, 1, 2] [] [] [0, 1, 2, 8, 11, 12, 13] 0 ⟨[(0, q0 v1), (1, tS v2), (2, q3 v3), (8, tI v4.1), (11, tI (-1 : Int)), (12, tI (0 : Int)), (13, tI (-1 : Int))], []⟩ rfl ?_ z0 trivial ?_
         · kernel_rfl
         refine AOps.nil ?_
         refine AWp.seq ?_
         refine AWp.seq ?_
         refine AWp.start [0] [] [] [0, 1, 2, 8, 11, 12, 13, 14] 0 ⟨[(0, q0 v1), (1, tS v2), (2, q3 v3), (8, tI v4.1), (11, tI (-1 : Int)), (12, tI (0 : Int)), (13, tI (-1 : Int)), (14, tI (0 : Int))], []⟩ rfl ?_ z0 trivial ?_
         · kernel_rfl
         refine AOps.nil ?_
         refine AWp.block ?_
         obtain ⟨y, hy, h⟩ := of_bind h
         refine AWp.mono (AWp.loop (S := Int × Int × Int × Int) (Y := Out (Int × Int) (Int × Int)) (fun s => ⟨[(0, q0 v1), (1, tS v2), (2, q3 v3), (8, tI v4.1), (11, tI s.1), (12, tI s.2.1), (13, tI s.2.2.1), (14, tI s.2.2.2)], []⟩) (fun s => f29_b4 v1 v2 v3 v4 s.1 s.2.1 s.2.2.1 s.2.2.2) (fun y e σ => match y with | .ret r => e = .ret ∧ σ = ⟨[(6, tI r.1), (7, tI r.2)], []⟩ | .go v => e = .exit 2 ∧ σ = ⟨[(11, tI v.1), (13, tI v.2)], []⟩) ?_ hy) ?_
         · rintro ⟨v9, v10, v11, v12⟩ o h
           refine AWp.seq ?_
           refine AWp.seq ?_
           refine AWp.start [0, 1, 2, 3] [] [] [0, 1, 2, 8, 11, 12, 13, 14, 59] 0 ⟨[(0, q0 v1), (1, tS v2), (2, q3 v3), (8, tI v4.1), (11, tI v9), (12, tI v10), (13, tI v11), (14, tI v12), (59, tB (decide (v12 < (v3.length : Int))))], []⟩ rfl ?_ z0 trivial ?_
           · kernel_rfl
           refine AOps.nil ?_
           refine AWp.cond rfl (fun hb => ?_) fun hb => ?_
           · replace h := of_true h hb
             refine AWp.keepTo [0, 1, 2, 8, 11, 12, 13, 14] 0 ⟨[(0, q0 v1), (1, tS v2), (2, q3 v3), (8, tI v4.1), (11, tI v9), (12, tI v10), (13, tI v11), (14, tI v12)], []⟩ ?_ z0 ?_
             · kernel_rfl
             refine AWp.skip ?_
             refine AWp.join (V := Int × Int × Int) (fun w => ⟨[(0, q0 v1), (1, tS v2), (2, q3 v3), (8, tI v4.1), (11, tI w.1), (12, tI w.2.1), (13, tI w.2.2), (14, tI v12)], []⟩) (fun w => f29_j2 v12 w.1 w.2.1 w.2.2 = some o) ?_ ?_
             · refine AWp.block ?_
               refine AWp.seq ?_
               obtain ⟨hg, h⟩ := of_guard h
               refine AWp.start [0, 1, 2, 3, 4, 5] [] [(0 : Int) ≤ v12, v12 < (v3.length : Int)] [0, 1, 2, 8, 11, 12, 13, 14, 15] 1 ⟨[(0, q0 v1), (1, tS v2), (2, q3 v3), (8, tI v4.1), (11, tI v9), (12, tI v10), (13, tI v11), (14, tI v12), (15, .pc 0 0)], [.cells 82 (c81 (gD v3 v12))]⟩ rfl ?_ z0 ⟨hg.1, hg.2⟩ ?_
               · kernel_rfl
               refine AOps.nil ?_
               refine AWp.seq ?_
               refine AWp.seq ?_
               refine AWp.pin 0 rfl rfl ?_
               refine AWp.keepTo [0, 1, 2, 8, 11, 12, 13, 14, 15] 0 ⟨[(0, q0 v1), (1, tS v2), (2, q3 v3), (8, tI v4.1), (11, tI v9), (12, tI v10), (13, tI v11), (14, tI v12), (15, .rp (c81 (gD v3 v12)))], []⟩ ?_ z0 ?_
               · kernel_rfl
               refine AWp.start [0, 1, 2] [] [] [0, 1, 2, 8, 11, 12, 13, 14, 15, 68] 0 ⟨[(0, q0 v1), (1, tS v2), (2, q3 v3), (8, tI v4.1), (11, tI v9), (12, tI v10), (13, tI v11), (14, tI v12), (15, .rp (c81 (gD v3 v12))), (68, tB (((gD v3 v12).f1) == ([] : List UInt8)))], []⟩ rfl ?_ z0 trivial ?_
               · kernel_rfl
               refine AOps.nil ?_
               refine AWp.cond rfl (fun hb => ?_) fun hb => ?_
               · replace h := of_true h hb
                 refine AWp.keepTo [0, 1, 2, 8, 11, 12, 13, 14] 0 ⟨[(0, q0 v1), (1, tS v2), (2, q3 v3), (8, tI v4.1), (11, tI v9), (12, tI v10), (13, tI v11), (14, tI v12)], []⟩ ?_ z0 ?_
                 · kernel_rfl
                 refine AWp.join (V := Int) (fun w => ⟨[(0, q0 v1), (1, tS v2), (2, q3 v3), (8, tI v4.1), (11, tI v9), (12, tI v10), (13, tI w), (14, tI v12)], []⟩) (fun w => f29_j3 v9 v10 v12 w = some o) ?_ ?_
                 · refine AWp.seq ?_
                   refine AWp.start [0, 1] [] [] [0, 1, 2, 8, 11, 12, 13, 14, 70] 0 ⟨[(0, q0 v1), (1, tS v2), (2, q3 v3), (8, tI v4.1), (11, tI v9), (12, tI v10), (13, tI v11), (14, tI v12), (70, tB (decide (v11 < (0 : Int))))], []⟩ rfl ?_ z0 trivial ?_
                   · kernel_rfl
                   refine AOps.nil ?_
                   refine AWp.cond rfl (fun hb => ?_) fun hb => ?_
                   · replace h := of_true h hb
                     refine AWp.keepTo [0, 1, 2, 8, 11, 12, 14] 0 ⟨[(0, q0 v1), (1, tS v2), (2, q3 v3), (8, tI v4.1), (11, tI v9), (12, tI v10), (14, tI v12)], []⟩ ?_ z0 ?_
                     · kernel_rfl
                     refine AWp.start [0, 1] [] [] [0, 1, 2, 8, 11, 12, 13, 14] 0 ⟨[(0, q0 v1), (1, tS v2), (2, q3 v3), (8, tI v4.1), (11, tI v9), (12, tI v10), (13, tI v12), (14, tI v12)], []⟩ rfl ?_ z0 trivial ?_
                     · kernel_rfl
                     refine AOps.nil ?_
                     exact ⟨v12, h, rfl⟩
                   · replace h := of_false h hb
                     refine AWp.keepTo [0, 1, 2, 8, 11, 12, 13, 14] 0 ⟨[(0, q0 v1), (1, tS v2), (2, q3 v3), (8, tI v4.1), (11, tI v9), (12, tI v10), (13, tI v11), (14, tI v12)], []⟩ ?_ z0 ?_
                     · kernel_rfl
                     refine AWp.skip ?_
                     exact ⟨v11, h, rfl⟩
                 · rintro v18 h
                   refine AWp.exit ?_
                   exact ⟨(v9, v10, v18), h, rfl⟩
               · replace h := of_false h hb
                 refine AWp.keepTo [0, 1, 2, 8, 11, 12, 13, 14, 15] 0 ⟨[(0, q0 v1), (1, tS v2), (2, q3 v3), (8, tI v4.1), (11, tI v9), (12, tI v10), (13, tI v11), (14, tI v12), (15, .rp (c81 (gD v3 v12)))], []⟩ ?_ z0 ?_
                 · kernel_rfl
                 refine AWp.skip ?_
                 refine AWp.seq ?_
                 refine AWp.seq ?_
                 refine AWp.start [0, 1, 2, 3] [4, 5, 6, 7, 8] [] [0, 1, 2, 8, 11, 12, 13, 14, 15, 75] 0 ⟨[(0, q0 v1), (1, tS v2), (2, q3 v3), (8, tI v4.1), (11, tI v9), (12, tI v10), (13, tI v11), (14, tI v12), (15, .rp (c81 (gD v3 v12))), (75, tB (!((gD v3 v12).f0)))], []⟩ rfl ?_ z0 trivial ?_
                 · kernel_rfl
                 obtain ⟨v19, hc4, h⟩ := of_bind h
                 refine AOps.cut [4, 5, 6, 7, 8] [] (fun σ => σ = ⟨[(0, q0 v1), (1, tS v2), (2, q3 v3), (8, tI v4.1), (11, tI v9), (12, tI v10), (13, tI v11), (14, tI v12), (15, .rp (c81 (gD v3 v12))), (80, tB v19)], []⟩) ?_ fun σ' hJ => ?_
                 · refine AOps.split (fun b => ⟨[(0, q0 v1), (1, tS v2), (2, q3 v3), (8, tI v4.1), (11, tI v9), (12, tI v10), (13, tI v11), (14, tI v12), (15, .rp (c81 (gD v3 v12))), (75, tB b)], []⟩) _ (fun hb => ?_) fun hb => ?_
                   · replace hc4 := of_true hc4 hb
                     refine AOps.go [4, 5, 6, 7, 8] [] [] [0, 1, 2, 8, 11, 12, 13, 14, 15, 80] 0 ⟨[(0, q0 v1), (1, tS v2), (2, q3 v3), (8, tI v4.1), (11, tI v9), (12, tI v10), (13, tI v11), (14, tI v12), (15, .rp (c81 (gD v3 v12))), (80, tB (((gD v3 v12).f1) == v2))], []⟩ ?_ z0 trivial ?_
                     · kernel_rfl
                     cases hc4
                     exact AOps.nil rfl
                   · replace hc4 := of_false hc4 hb
                     refine AOps.go [4, 5, 6, 7, 8] [] [] [0, 1, 2, 8, 11, 12, 13, 14, 15, 80] 0 ⟨[(0, q0 v1), (1, tS v2), (2, q3 v3), (8, tI v4.1), (11, tI v9), (12, tI v10), (13, tI v11), (14, tI v12), (15, .rp (c81 (gD v3 v12))), (80, tB false)], []⟩ ?_ z0 trivial ?_
                     · kernel_rfl
                     cases hc4
                     exact AOps.nil rfl
                 subst hJ
                 refine AOps.nil ?_
                 refine AWp.cond rfl (fun hb => ?_) fun hb => ?_
                 · replace h := of_true h hb
                   refine AWp.keepTo [14] 0 ⟨[(14, tI v12)], []⟩ ?_ z0 ?_
                   · kernel_rfl
                   refine AWp.seq ?_
                   refine AWp.start [0, 1, 2] [] [] [6, 7] 0 ⟨[(6, tI v12), (7, tI (0 : Int))], []⟩ rfl ?_ z0 trivial ?_
                   · kernel_rfl
                   refine AOps.nil ?_
                   refine AWp.ret ?_
                   cases h
                   exact Or.inr ⟨_, rfl, by simp, rfl, rfl⟩
                 · replace h := of_false h hb
                   refine AWp.keepTo [0, 1, 2, 8, 11, 12, 13, 14, 15] 0 ⟨[(0, q0 v1), (1, tS v2), (2, q3 v3), (8, tI v4.1), (11, tI v9), (12, tI v10), (13, tI v11), (14, tI v12), (15, .rp (c81 (gD v3 v12)))], []⟩ ?_ z0 ?_
                   · kernel_rfl
                   refine AWp.skip ?_
                   refine AWp.seq ?_
                   refine AWp.start [0, 1, 2, 3, 4] [5, 6] [] [0, 1, 2, 8, 11, 12, 13, 14, 15, 82, 84, 86] 0 ⟨[(0, q0 v1), (1, tS v2), (2, q3 v3), (8, tI v4.1), (11, tI v9), (12, tI v10), (13, tI v11), (14, tI v12), (15, .rp (c81 (gD v3 v12))), (82, q0 v1), (84, tI (v1.length : Int)), (86, tS ((gD v3 v12).f1))], []⟩ rfl ?_ z0 trivial ?_
                   · kernel_rfl
                   obtain ⟨v20, hv20, h⟩ := of_bind h
                   refine AOps.cons (AOne.callP (F := (FF 112 0)) _ rfl rfl rfl _ rfl rfl _ _ rfl Try.call49 [q0 v1, tI (v1.length : Int), tS ((gD v3 v12).f1)] rfl rfl (f49_ok v1 (v1.length : Int) ((gD v3 v12).f1) hv20) rfl) ?_
                   refine AOps.go [6] [] [] [0, 1, 2, 8, 11, 12, 13, 14, 15, 16] 0 ⟨[(0, q0 v1), (1, tS v2), (2, q3 v3), (8, tI v4.1), (11, tI v9), (12, tI v10), (13, tI v11), (14, tI v12), (15, .rp (c81 (gD v3 v12))), (16, tI v20)], []⟩ ?_ z0 trivial ?_
                   · kernel_rfl
                   refine AOps.nil ?_
                   refine AWp.seq ?_
                   refine AWp.start [0, 1] [2, 3, 4] [] [0, 1, 2, 8, 11, 12, 13, 14, 15, 16, 88, 89] 0 ⟨[(0, q0 v1), (1, tS v2), (2, q3 v3), (8, tI v4.1), (11, tI v9), (12, tI v10), (13, tI v11), (14, tI v12), (15, .rp (c81 (gD v3 v12))), (16, tI v20), (88, q0 v1), (89, tI v20)], []⟩ rfl ?_ z0 trivial ?_
                   · kernel_rfl
                   obtain ⟨v21, hv21, h⟩ := of_bind h
                   refine AOps.cons (AOne.callP (F := (FF 112 0)) _ rfl rfl rfl _ rfl rfl _ _ rfl Try.call58 [q0 v1, tI v20] rfl rfl (f58_ok v1 v20 hv21) rfl) ?_
                   refine AOps.go [3, 4] [] [] [0, 1, 2, 8, 11, 12, 13, 14, 15, 16, 17] 0 ⟨[(0, q0 v1), (1, tS v2), (2, q3 v3), (8, tI v4.1), (11, tI v9), (12, tI v10), (13, tI v11), (14, tI v12), (15, .rp (c81 (gD v3 v12))), (16, tI v20), (17, tI (v21.length : Int))], []⟩ ?_ z0 trivial ?_
                   · kernel_rfl
                   refine AOps.nil ?_
                   refine AWp.seq ?_
                   refine AWp.start [0, 1, 2] [3, 4, 5, 6, 7, 8, 9, 10, 11, 12, 13] [] [0, 1, 2, 8, 11, 12, 13, 14, 16, 17, 94] 0 ⟨[(0, q0 v1), (1, tS v2), (2, q3 v3), (8, tI v4.1), (11, tI v9), (12, tI v10), (13, tI v11), (14, tI v12), (16, tI v20), (17, tI (v21.length : Int)), (94, tB ((gD v3 v12).f0))], []⟩ rfl ?_ z0 trivial ?_
                   · kernel_rfl
                   obtain ⟨v22, hc3, h⟩ := of_bind h
                   refine AOps.cut [3, 4, 5, 6, 7, 8] [9, 10, 11, 12, 13] (fun σ => σ = ⟨[(0, q0 v1), (1, tS v2), (2, q3 v3), (8, tI v4.1), (11, tI v9), (12, tI v10), (13, tI v11), (14, tI v12), (17, tI (v21.length : Int)), (100, tB v22)], []⟩) ?_ fun σ' hJ => ?_
                   · refine AOps.split (fun b => ⟨[(0, q0 v1), (1, tS v2), (2, q3 v3), (8, tI v4.1), (11, tI v9), (12, tI v10), (13, tI v11), (14, tI v12), (16, tI v20), (17, tI (v21.length : Int)), (94, tB b)], []⟩) _ (fun hb => ?_) fun hb => ?_
                     · replace hc3 := of_true hc3 hb
                       refine AOps.go [3, 4] [5, 6, 7, 8] [] [0, 1, 2, 8, 11, 12, 13, 14, 16, 17, 94, 95, 96] 0 ⟨[(0, q0 v1), (1, tS v2), (2, q3 v3), (8, tI v4.1), (11, tI v9), (12, tI v10), (13, tI v11), (14, tI v12), (16, tI v20), (17, tI (v21.length : Int)), (94, tB true), (95, q0 v1), (96, tI v4.1)], []⟩ ?_ z0 trivial ?_
                       · kernel_rfl
                       obtain ⟨v23, hv23, hc3⟩ := of_bind hc3
                       refine AOps.cons (AOne.callP (F := (FF 112 0)) _ rfl rfl rfl _ rfl rfl _ _ rfl Try.call58 [q0 v1, tI v4.1] rfl rfl (f58_ok v1 v4.1 hv23) rfl) ?_
                       refine AOps.freezeL 97 (cInt .i64) v23 rfl (fun _ => rfl) ?_
                       refine AOps.go [6] [7, 8] [] [0, 1, 2, 8, 11, 12, 13, 14, 17, 94, 97, 98] 0 ⟨[(0, q0 v1), (1, tS v2), (2, q3 v3), (8, tI v4.1), (11, tI v9), (12, tI v10), (13, tI v11), (14, tI v12), (17, tI (v21.length : Int)), (94, tB true), (97, q4 v23), (98, tI v20)], []⟩ ?_ z0 trivial ?_
                       · kernel_rfl
                       obtain ⟨v24, hv24, hc3⟩ := of_bind hc3
                       refine AOps.cons (AOne.callP (F := (FF 112 0)) _ rfl rfl rfl _ rfl rfl _ _ rfl Try.call57 [q4 v23, tI v20] rfl rfl (f57_ok v23 v20 hv24) rfl) ?_
                       refine AOps.go [8] [] [] [0, 1, 2, 8, 11, 12, 13, 14, 17, 100] 0 ⟨[(0, q0 v1), (1, tS v2), (2, q3 v3), (8, tI v4.1), (11, tI v9), (12, tI v10), (13, tI v11), (14, tI v12), (17, tI (v21.length : Int)), (100, tB v24)], []⟩ ?_ z0 trivial ?_
                       · kernel_rfl
                       cases hc3
                       exact AOps.nil rfl
                     · replace hc3 := of_false hc3 hb
                       refine AOps.go [3, 4, 5, 6, 7, 8] [] [] [0, 1, 2, 8, 11, 12, 13, 14, 17, 100] 0 ⟨[(0, q0 v1), (1, tS v2), (2, q3 v3), (8, tI v4.1), (11, tI v9), (12, tI v10), (13, tI v11), (14, tI v12), (17, tI (v21.length : Int)), (100, tB false)], []⟩ ?_ z0 trivial ?_
                       · kernel_rfl
                       cases hc3
                       exact AOps.nil rfl
                   subst hJ
                   refine AOps.go [9] [10, 11, 12, 13] [] [0, 1, 2, 8, 11, 12, 13, 14, 17, 101] 0 ⟨[(0, q0 v1), (1, tS v2), (2, q3 v3), (8, tI v4.1), (11, tI v9), (12, tI v10), (13, tI v11), (14, tI v12), (17, tI (v21.length : Int)), (101, tB v22)], []⟩ ?_ z0 trivial ?_
                   · kernel_rfl
                   obtain ⟨v25, hc10, h⟩ := of_bind h
                   refine AOps.cut [10, 11, 12, 13] [] (fun σ => σ = ⟨[(0, q0 v1), (1, tS v2), (2, q3 v3), (8, tI v4.1), (11, tI v9), (12, tI v10), (13, tI v11), (14, tI v12), (17, tI (v21.length : Int)), (105, tB v25)], []⟩) ?_ fun σ' hJ => ?_
                   · refine AOps.split (fun b => ⟨[(0, q0 v1), (1, tS v2), (2, q3 v3), (8, tI v4.1), (11, tI v9), (12, tI v10), (13, tI v11), (14, tI v12), (17, tI (v21.length : Int)), (101, tB b)], []⟩) _ (fun hb => ?_) fun hb => ?_
                     · replace hc10 := of_true hc10 hb
                       refine AOps.go [10, 11, 12, 13] [] [] [0, 1, 2, 8, 11, 12, 13, 14, 17, 105] 0 ⟨[(0, q0 v1), (1, tS v2), (2, q3 v3), (8, tI v4.1), (11, tI v9), (12, tI v10), (13, tI v11), (14, tI v12), (17, tI (v21.length : Int)), (105, tB (decide ((v21.length : Int) > v10)))], []⟩ ?_ z0 trivial ?_
                       · kernel_rfl
                       cases hc10
                       exact AOps.nil rfl
                     · replace hc10 := of_false hc10 hb
                       refine AOps.go [10, 11, 12, 13] [] [] [0, 1, 2, 8, 11, 12, 13, 14, 17, 105] 0 ⟨[(0, q0 v1), (1, tS v2), (2, q3 v3), (8, tI v4.1), (11, tI v9), (12, tI v10), (13, tI v11), (14, tI v12), (17, tI (v21.length : Int)), (105, tB false)], []⟩ ?_ z0 trivial ?_
                       · kernel_rfl
                       cases hc10
                       exact AOps.nil rfl
                   subst hJ
                   refine AOps.nil ?_
                   refine AWp.cond rfl (fun hb => ?_) fun hb => ?_
                   · replace h := of_true h hb
                     refine AWp.keepTo [0, 1, 2, 8, 13, 14, 17] 0 ⟨[(0, q0 v1), (1, tS v2), (2, q3 v3), (8, tI v4.1), (13, tI v11), (14, tI v12), (17, tI (v21.length : Int))], []⟩ ?_ z0 ?_
                     · kernel_rfl
                     refine AWp.start [0, 1, 2, 3] [] [] [0, 1, 2, 8, 11, 12, 13, 14] 0 ⟨[(0, q0 v1), (1, tS v2), (2, q3 v3), (8, tI v4.1), (11, tI v12), (12, tI (v21.length : Int)), (13, tI v11), (14, tI v12)], []⟩ rfl ?_ z0 trivial ?_
                     · kernel_rfl
                     refine AOps.nil ?_
                     exact ⟨(v12, (v21.length : Int), v11), h, rfl⟩
                   · replace h := of_false h hb
                     refine AWp.keepTo [0, 1, 2, 8, 11, 12, 13, 14] 0 ⟨[(0, q0 v1), (1, tS v2), (2, q3 v3), (8, tI v4.1), (11, tI v9), (12, tI v10), (13, tI v11), (14, tI v12)], []⟩ ?_ z0 ?_
                     · kernel_rfl
                     refine AWp.skip ?_
                     exact ⟨(v9, v10, v11), h, rfl⟩
             · rintro ⟨v15, v16, v17⟩ h
               refine AWp.start [0, 1, 2] [] [] [0, 1, 2, 8, 11, 12, 13, 14] 0 ⟨[(0, q0 v1), (1, tS v2), (2, q3 v3), (8, tI v4.1), (11, tI v15), (12, tI v16), (13, tI v17), (14, tI (w64 (v12 + (1 : Int))))], []⟩ rfl ?_ z0 trivial ?_
               · kernel_rfl
               refine AOps.nil ?_
               cases h
               exact Or.inl ⟨_, rfl, rfl, rfl⟩
           · replace h := of_false h hb
             refine AWp.keepTo [11, 13] 0 ⟨[(11, tI v9), (13, tI v11)], []⟩ ?_ z0 ?_
             · kernel_rfl
             refine AWp.exit ?_
             cases h
             exact Or.inr ⟨_, rfl, by simp, rfl, rfl⟩
         · intro e σ hp
           rcases y with v26 | ⟨v13, v14⟩
           · obtain ⟨rfl, rfl⟩ := hp
             cases h
             exact ⟨.inr rfl, rfl⟩
           · obtain ⟨rfl, rfl⟩ := hp
             refine AWp.join (V := Int) (fun w => ⟨[(11, tI w)], []⟩) (fun w => f29_j5  w = some r) ?_ ?_
             · refine AWp.seq ?_
               refine AWp.start [0, 1] [] [] [11, 13, 109] 0 ⟨[(11, tI v13), (13, tI v14), (109, tB (decide (v13 < (0 : Int))))], []⟩ rfl ?_ z0 trivial ?_
               · kernel_rfl
               refine AOps.nil ?_
               refine AWp.cond rfl (fun hb => ?_) fun hb => ?_
               · replace h := of_true h hb
                 refine AWp.keepTo [13] 0 ⟨[(13, tI v14)], []⟩ ?_ z0 ?_
                 · kernel_rfl
                 refine AWp.start [0, 1] [] [] [11] 0 ⟨[(11, tI v14)], []⟩ rfl ?_ z0 trivial ?_
                 · kernel_rfl
                 refine AOps.nil ?_
                 exact ⟨v14, h, rfl⟩
               · replace h := of_false h hb
                 refine AWp.keepTo [11] 0 ⟨[(11, tI v13)], []⟩ ?_ z0 ?_
                 · kernel_rfl
                 refine AWp.skip ?_
                 exact ⟨v13, h, rfl⟩
             · rintro v27 h
               refine AWp.seq ?_
               refine AWp.start [0, 1, 2] [] [] [6, 7] 0 ⟨[(6, tI v27), (7, tI (0 : Int))], []⟩ rfl ?_ z0 trivial ?_
               · kernel_rfl
               refine AOps.nil ?_
               refine AWp.ret ?_
               cases h
               exact ⟨.inr rfl, rfl⟩

noncomputable def f8 (v1 : List T62) (v2 : List UInt8) (v3 : List T81) : Option Bool :=
 (f12 v1).bind fun v4 => (cond v4 (some true) (some (decide ((v3.length : Int) > (100 : Int))))).bind fun v5 => cond v5 ((f13 ).bind fun v6 => some v6) ((f28 v1 v2 v3).bind fun v7 => (f29 v1 v2 v3).bind fun v8 => (cond (v7.1 == v8.1) (some (v7.2 == v8.2)) (some false)).bind fun v9 => (cond v9 ((f13 ).bind fun v11 => some v11) (some false)).bind fun v10 => some v10)

theorem f8_ok (v1 : List T62) (v2 : List UInt8) (v3 : List T81) {r : Bool} (h : f8 v1 v2 v3 = some r) : ACall Try.prog 8 [.tv (fzL 6 c62 v1), .tv (.str v2), .tv (fzL 2 c81 v3)] [] (.tv (.bool r)) [] := by
 refine ACall.of1 (FF 44 0) Try.func8 rfl Try.ntmps8 Try.results8 (Nat.le_of_ble_eq_true rfl) rfl rfl ?_
 refine AWp.seq ?_
 refine AWp.start [0] [] [] [0, 1, 2] 0 ⟨[(0, q0 v1), (1, tS v2), (2, q3 v3)], []⟩ rfl ?_ z0 trivial ?_
 · kernel_rfl
 refine AOps.nil ?_
 refine AWp.seq ?_
 refine AWp.seq ?_
 refine AWp.start [0] [1, 2, 3, 4, 5, 6] [] [0, 1, 2, 11] 0 ⟨[(0, q0 v1), (1, tS v2), (2, q3 v3), (11, q0 v1)], []⟩ rfl ?_ z0 trivial ?_
 · kernel_rfl
 obtain ⟨v4, hv4, h⟩ := of_bind h
 refine AOps.cons (AOne.callP (F := (FF 44 0)) _ rfl rfl rfl _ rfl rfl _ _ rfl Try.call12 [q0 v1] rfl rfl (f12_ok v1 hv4) rfl) ?_
 refine AOps.go [2] [3, 4, 5, 6] [] [0, 1, 2, 13] 0 ⟨[(0, q0 v1), (1, tS v2), (2, q3 v3), (13, tB v4)], []⟩ ?_ z0 trivial ?_
 · kernel_rfl
 obtain ⟨v5, hc3, h⟩ := of_bind h
 refine AOps.cut [3, 4, 5, 6] [] (fun σ => σ = ⟨[(0, q0 v1), (1, tS v2), (2, q3 v3), (17, tB v5)], []⟩) ?_ fun σ' hJ => ?_
 · refine AOps.split (fun b => ⟨[(0, q0 v1), (1, tS v2), (2, q3 v3), (13, tB b)], []⟩) _ (fun hb => ?_) fun hb => ?_
   · replace hc3 := of_true hc3 hb
     refine AOps.go [3, 4, 5, 6] [] [] [0, 1, 2, 17] 0 ⟨[(0, q0 v1), (1, tS v2), (2, q3 v3), (17, tB true)], []⟩ ?_ z0 trivial ?_
     · kernel_rfl
     cases hc3
     exact AOps.nil rfl
   · replace hc3 := of_false hc3 hb
     refine AOps.go [3, 4, 5, 6] [] [] [0, 1, 2, 17] 0 ⟨[(0, q0 v1), (1, tS v2), (2, q3 v3), (17, tB (decide ((v3.length : Int) > (100 : Int))))], []⟩ ?_ z0 trivial ?_
     · kernel_rfl
     cases hc3
     exact AOps.nil rfl
 subst hJ
 refine AOps.nil ?_
 refine AWp.cond rfl (fun hb => ?_) fun hb => ?_
 · replace h := of_true h hb
   refine AWp.keepTo [] 0 ⟨[], []⟩ ?_ z0 ?_
   · kernel_rfl
   refine AWp.seq ?_
   refine AWp.start [] [0, 1] [] [] 0 ⟨[], []⟩ rfl ?_ z0 trivial ?_
   · kernel_rfl
   obtain ⟨v6, hv6, h⟩ := of_bind h
   refine AOps.cons (AOne.callP (F := (FF 44 0)) _ rfl rfl rfl _ rfl rfl _ _ rfl Try.call13 [] rfl rfl (f13_ok  hv6) rfl) ?_
   refine AOps.go [1] [] [] [6] 0 ⟨[(6, tB v6)], []⟩ ?_ z0 trivial ?_
   · kernel_rfl
   refine AOps.nil ?_
   refine AWp.ret ?_
   cases h
   exact ⟨.inr rfl, rfl⟩
 · replace h := of_false h hb
   refine AWp.keepTo [0, 1, 2] 0 ⟨[(0, q0 v1), (1, tS v2), (2, q3 v3)], []⟩ ?_ z0 ?_
   · kernel_rfl
   refine AWp.skip ?_
   refine AWp.seq ?_
   refine AWp.start [0, 1, 2] [3, 4, 5, 6, 7, 8] [] [0, 1, 2, 20, 21, 22] 0 ⟨[(0, q0 v1), (1, tS v2), (2, q3 v3), (20, q0 v1), (21, tS v2), (22, q3 v3)], []⟩ rfl ?_ z0 trivial ?_
   · kernel_rfl
   obtain ⟨v7, hv7, h⟩ := of_bind h
   refine AOps.cons (AOne.callP (F := (FF 44 0)) _ rfl rfl rfl _ rfl rfl _ _ rfl Try.call28 [q0 v1, tS v2, q3 v3] rfl rfl (f28_ok v1 v2 v3 hv7) rfl) ?_
   refine AOps.go [4, 5, 6, 7, 8] [] [] [0, 1, 2, 7, 8] 0 ⟨[(0, q0 v1), (1, tS v2), (2, q3 v3), (7, tI v7.1), (8, tI v7.2)], []⟩ ?_ z0 trivial ?_
   · kernel_rfl
   refine AOps.nil ?_
   refine AWp.seq ?_
   refine AWp.start [0, 1, 2] [3, 4, 5, 6, 7, 8] [] [7, 8, 27, 28, 29] 0 ⟨[(7, tI v7.1), (8, tI v7.2), (27, q0 v1), (28, tS v2), (29, q3 v3)], []⟩ rfl ?_ z0 trivial ?_
   · kernel_rfl
   obtain ⟨v8, hv8, h⟩ := of_bind h
   refine AOps.cons (AOne.callP (F := (FF 44 0)) _ rfl rfl rfl _ rfl rfl _ _ rfl Try.call29 [q0 v1, tS v2, q3 v3] rfl rfl (f29_ok v1 v2 v3 hv8) rfl) ?_
   refine AOps.go [4, 5, 6, 7, 8] [] [] [7, 8, 9, 10] 0 ⟨[(7, tI v7.1), (8, tI v7.2), (9, tI v8.1), (10, tI v8.2)], []⟩ ?_ z0 trivial ?_
   · kernel_rfl
   refine AOps.nil ?_
   refine AWp.seq ?_
   refine AWp.start [0, 1, 2, 3] [4, 5, 6, 7, 8, 9, 10, 11] [] [8, 10, 36] 0 ⟨[(8, tI v7.2), (10, tI v8.2), (36, tB (v7.1 == v8.1))], []⟩ rfl ?_ z0 trivial ?_
   · kernel_rfl
   obtain ⟨v9, hc4, h⟩ := of_bind h
   refine AOps.cut [4, 5, 6, 7] [8, 9, 10, 11] (fun σ => σ = ⟨[(40, tB v9)], []⟩) ?_ fun σ' hJ => ?_
   · refine AOps.split (fun b => ⟨[(8, tI v7.2), (10, tI v8.2), (36, tB b)], []⟩) _ (fun hb => ?_) fun hb => ?_
     · replace hc4 := of_true hc4 hb
       refine AOps.go [4, 5, 6, 7] [] [] [40] 0 ⟨[(40, tB (v7.2 == v8.2))], []⟩ ?_ z0 trivial ?_
       · kernel_rfl
       cases hc4
       exact AOps.nil rfl
     · replace hc4 := of_false hc4 hb
       refine AOps.go [4, 5, 6, 7] [] [] [40] 0 ⟨[(40, tB false)], []⟩ ?_ z0 trivial ?_
       · kernel_rfl
       cases hc4
       exact AOps.nil rfl
   subst hJ
   refine AOps.go [8] [9, 10, 11] [] [41] 0 ⟨[(41, tB v9)], []⟩ ?_ z0 trivial ?_
   · kernel_rfl
   obtain ⟨v10, hc9, h⟩ := of_bind h
   refine AOps.cut [9, 10] [11] (fun σ => σ = ⟨[(43, tB v10)], []⟩) ?_ fun σ' hJ => ?_
   · refine AOps.split (fun b => ⟨[(41, tB b)], []⟩) _ (fun hb => ?_) fun hb => ?_
     · replace hc9 := of_true hc9 hb
       obtain ⟨v11, hv11, hc9⟩ := of_bind hc9
       refine AOps.cons (AOne.callP (F := (FF 44 0)) _ rfl rfl rfl _ rfl rfl _ _ rfl Try.call13 [] rfl rfl (f13_ok  hv11) rfl) ?_
       refine AOps.go [10] [] [] [43] 0 ⟨[(43, tB v11)], []⟩ ?_ z0 trivial ?_
       · kernel_rfl
       cases hc9
       exact AOps.nil rfl
     · replace hc9 := of_false hc9 hb
       refine AOps.go [9, 10] [] [] [43] 0 ⟨[(43, tB false)], []⟩ ?_ z0 trivial ?_
       · kernel_rfl
       cases hc9
       exact AOps.nil rfl
   subst hJ
   refine AOps.go [11] [] [] [6] 0 ⟨[(6, tB v10)], []⟩ ?_ z0 trivial ?_
   · kernel_rfl
   refine AOps.nil ?_
   refine AWp.ret ?_
   cases h
   exact ⟨.inr rfl, rfl⟩

end Go.Sx.der
