/- Printed by program (wip/gen): plain functions and their walks; no condition. -/
import Derived.Test.YtplfiblnmnpllaaGx3
namespace Go.Sx.der
open Go Go.Sx Go.Proofs

noncomputable def f58_b1 (v1 : List T62) (v3 : Int) (v4 : List Int) : Option ((Int × (List Int)) ⊕ Out (List Int) (List Int)) :=
 cond (decide (v3 ≥ (0 : Int))) (if (v4.length + [v3].length) * 8 ≤ 140737488355328 then if (0 : Int) ≤ v3 ∧ v3 < (v1.length : Int) then cond (((v1.getD v3.toNat default).f1) == ([] : List UInt8)) (some (.inr (.go (v4 ++ [v3])))) (if (0 : Int) ≤ v3 ∧ v3 < (v1.length : Int) then (f49 v1 v3 ((v1.getD v3.toNat default).f1)).bind fun v6 => some (.inl (v6, v4 ++ [v3])) else none) else none else none) (some (.inr (.go v4)))

noncomputable def f58 (v1 : List T62) (v2 : Int) : Option (List Int) :=
 (iter (fun s => f58_b1 v1 s.1 s.2) (v2, [])).bind fun y => match y with | .ret v7 => some v7 | .go v5 => some v5

theorem f58_ok (v1 : List T62) (v2 : Int) {r : (List Int)} (h : f58 v1 v2 = some r) : ACall Try.prog 58 [.tv (fzL 6 c62 v1), .tv (.int .i64 v2)] [] (.tv (ownL 1 3 (cInt .i64) r)) [] := by
 refine ACall.of1 (FF 27 0) Try.func58 rfl Try.ntmps58 Try.results58 (Nat.le_of_ble_eq_true rfl) rfl rfl ?_
 refine AWp.seq ?_
 refine AWp.start [0] [] [] [0, 1] 0 ⟨[(0, q0 v1), (1, tI v2)], []⟩ rfl ?_ z0 trivial ?_
 · kernel_rfl
 refine AOps.nil ?_
 refine AWp.seq ?_
 refine AWp.start [0] [] [] [0, 1, 5] 0 ⟨[(0, q0 v1), (1, tI v2), (5, .tv (.sc (.slice none 0 0)))], []⟩ rfl ?_ z0 trivial ?_
 · kernel_rfl
 refine AOps.nil ?_
 refine AWp.seq ?_
 refine AWp.block ?_
 refine AWp.nilOwn 5 1 3 (fun i => (cInt .i64) (([] : List Int).getD i default)) rfl ?_
 refine AWp.keepTo [0, 1, 5] 0 ⟨[(0, q0 v1), (1, tI v2), (5, q1 ([] : List Int))], []⟩ ?_ z0 ?_
 · kernel_rfl
 obtain ⟨y, hy, h⟩ := of_bind h
 refine AWp.mono (AWp.loop (S := Int × (List Int)) (Y := Out (List Int) (List Int)) (fun s => ⟨[(0, q0 v1), (1, tI s.1), (5, q1 s.2)], []⟩) (fun s => f58_b1 v1 s.1 s.2) (fun y e σ => match y with | .ret r => e = .ret ∧ σ = ⟨[(4, q1 r)], []⟩ | .go v => e = .exit 0 ∧ σ = ⟨[(5, q1 v)], []⟩) ?_ hy) ?_
 · rintro ⟨v3, v4⟩ o h
   refine AWp.seq ?_
   refine AWp.seq ?_
   refine AWp.start [0, 1] [] [] [0, 1, 5, 7] 0 ⟨[(0, q0 v1), (1, tI v3), (5, q1 v4), (7, tB (decide (v3 ≥ (0 : Int))))], []⟩ rfl ?_ z0 trivial ?_
   · kernel_rfl
   refine AOps.nil ?_
   refine AWp.cond rfl (fun hb => ?_) fun hb => ?_
   · replace h := of_true h hb
     refine AWp.keepTo [0, 1, 5] 0 ⟨[(0, q0 v1), (1, tI v3), (5, q1 v4)], []⟩ ?_ z0 ?_
     · kernel_rfl
     refine AWp.skip ?_
     refine AWp.block ?_
     refine AWp.seq ?_
     refine AWp.start [0, 1, 2] [3, 4] [] [0, 1, 5, 8, 10] 0 ⟨[(0, q0 v1), (1, tI v3), (5, q1 v4), (8, .al (.slot 5 0, [])), (10, .tv (.own 1 3 1 (newRowF [.int .i64 v3] 1)))], []⟩ rfl ?_ z0 trivial ?_
     · kernel_rfl
     refine AOps.extL 10 (cInt .i64) [v3] rfl rfl (row_at (cInt .i64) 1 (fun _ => rfl) [v3] _ rfl) ?_
     obtain ⟨hg, h⟩ := of_guard h
     refine AOps.go [3] [4] [(v4.length + [v3].length) * 8 ≤ 140737488355328, PlainTo v4.length (fun i => (cInt .i64) (v4.getD i default)), PlainTo ([v3].length) (fun i => (cInt .i64) ([v3].getD i default))] [0, 1, 11] 0 ⟨[(0, q0 v1), (1, tI v3), (11, .tv (.own 1 3 (v4.length + [v3].length) (appF v4.length (fun i => (cInt .i64) (v4.getD i default)) (fun i => (cInt .i64) ([v3].getD i default)))))], []⟩ ?_ z0 ⟨hg, (fun _ _ => rfl), (fun _ _ => rfl)⟩ ?_
     · kernel_rfl
     refine AOps.extL 11 (cInt .i64) (v4 ++ [v3]) rfl List.length_append.symm (app_at (cInt .i64) v4 [v3]) ?_
     refine AOps.go [4] [] [] [0, 1, 5] 0 ⟨[(0, q0 v1), (1, tI v3), (5, q1 (v4 ++ [v3]))], []⟩ ?_ z0 trivial ?_
     · kernel_rfl
     refine AOps.nil ?_
     refine AWp.seq ?_
     refine AWp.seq ?_
     obtain ⟨hg, h⟩ := of_guard h
     refine AWp.start [0, 1, 2, 3, 4, 5] [] [(0 : Int) ≤ v3, v3 < (v1.length : Int)] [0, 1, 5, 17] 0 ⟨[(0, q0 v1), (1, tI v3), (5, q1 (v4 ++ [v3])), (17, tB (((gD v1 v3).f1) == ([] : List UInt8)))], []⟩ rfl ?_ z0 ⟨hg.1, hg.2⟩ ?_
     · kernel_rfl
     refine AOps.nil ?_
     refine AWp.cond rfl (fun hb => ?_) fun hb => ?_
     · replace h := of_true h hb
       refine AWp.keepTo [5] 0 ⟨[(5, q1 (v4 ++ [v3]))], []⟩ ?_ z0 ?_
       · kernel_rfl
       refine AWp.exit ?_
       cases h
       exact Or.inr ⟨_, rfl, by simp, rfl, rfl⟩
     · replace h := of_false h hb
       refine AWp.keepTo [0, 1, 5] 0 ⟨[(0, q0 v1), (1, tI v3), (5, q1 (v4 ++ [v3]))], []⟩ ?_ z0 ?_
       · kernel_rfl
       refine AWp.skip ?_
       obtain ⟨hg, h⟩ := of_guard h
       refine AWp.start [0, 1, 2, 3, 4, 5, 6] [7, 8] [(0 : Int) ≤ v3, v3 < (v1.length : Int)] [0, 5, 18, 19, 24] 0 ⟨[(0, q0 v1), (5, q1 (v4 ++ [v3])), (18, q0 v1), (19, tI v3), (24, tS ((gD v1 v3).f1))], []⟩ rfl ?_ z0 ⟨hg.1, hg.2⟩ ?_
       · kernel_rfl
       obtain ⟨v6, hv6, h⟩ := of_bind h
       refine AOps.cons (AOne.callP (F := (FF 27 0)) _ rfl rfl rfl _ rfl rfl _ _ rfl Try.call49 [q0 v1, tI v3, tS ((gD v1 v3).f1)] rfl rfl (f49_ok v1 v3 ((gD v1 v3).f1) hv6) rfl) ?_
       refine AOps.go [8] [] [] [0, 1, 5] 0 ⟨[(0, q0 v1), (1, tI v6), (5, q1 (v4 ++ [v3]))], []⟩ ?_ z0 trivial ?_
       · kernel_rfl
       refine AOps.nil ?_
       cases h
       exact Or.inl ⟨_, rfl, rfl, rfl⟩
   · replace h := of_false h hb
     refine AWp.keepTo [5] 0 ⟨[(5, q1 v4)], []⟩ ?_ z0 ?_
     · kernel_rfl
     refine AWp.exit ?_
     cases h
     exact Or.inr ⟨_, rfl, by simp, rfl, rfl⟩
 · intro e σ hp
   rcases y with v7 | v5
   · obtain ⟨rfl, rfl⟩ := hp
     cases h
     exact ⟨.inr rfl, rfl⟩
   · obtain ⟨rfl, rfl⟩ := hp
     refine AWp.seq ?_
     refine AWp.start [0, 1] [] [] [4, 5] 0 ⟨[(4, .al (.slot 5 0, [])), (5, q1 v5)], []⟩ rfl ?_ z0 trivial ?_
     · kernel_rfl
     refine AOps.nil ?_
     refine AWp.claim 4 (.slot 5 0) (k2 v5) rfl rfl rfl rfl ?_
     refine AWp.keepTo [4] 0 ⟨[(4, q1 v5)], []⟩ ?_ z0 ?_
     · kernel_rfl
     refine AWp.ret ?_
     cases h
     exact ⟨.inr rfl, rfl⟩

noncomputable def f39_b1 (v1 : List T62) (v5 : (List Int)) (v7 : Int) (v10 : List (List UInt8)) (v11 : Int) : Option (((List (List UInt8)) × Int) ⊕ Out Bool (List (List UInt8))) :=
 if (0 : Int) ≤ v7 ∧ v7 < (v5.length : Int) ∧ (0 : Int) ≤ v5.getD v7.toNat default ∧ v5.getD v7.toNat default < (v1.length : Int) then cond (decide (v11 < (((v1.getD (Int.toNat (v5.getD v7.toNat default)) default).f3).length : Int))) (if (0 : Int) ≤ v7 ∧ v7 < (v5.length : Int) ∧ (0 : Int) ≤ v5.getD v7.toNat default ∧ v5.getD v7.toNat default < (v1.length : Int) ∧ (0 : Int) ≤ v11 ∧ v11 < (((v1.getD (Int.toNat (v5.getD v7.toNat default)) default).f3).length : Int) then if (v10.length + [(((v1.getD (Int.toNat (v5.getD v7.toNat default)) default).f3).getD v11.toNat default).f0].length) * 16 ≤ 140737488355328 then some (.inl (v10 ++ [(((v1.getD (Int.toNat (v5.getD v7.toNat default)) default).f3).getD v11.toNat default).f0], w64 (v11 + (1 : Int)))) else none else none) (some (.inr (.go v10))) else none

noncomputable def f39_b2 (v1 : List T62) (v2 : Int) (v5 : (List Int)) (v6 : List (List UInt8)) (v7 : Int) : Option (((List (List UInt8)) × Int) ⊕ Out Bool (List (List UInt8))) :=
 (cond (!(((v1.getD v2.toNat default).f1) == ([] : List UInt8))) (some (decide (v7 < (v5.length : Int)))) (some false)).bind fun v9 => cond v9 ((iter (fun s => f39_b1 v1 v5 v7 s.1 s.2) (v6, (0 : Int))).bind fun y => match y with | .ret v13 => some (.inr (.ret v13)) | .go v12 => some (.inl (v12, w64 (v7 + (1 : Int))))) (some (.inr (.go v6)))

noncomputable def f39_b3 (v1 : List T62) (v2 : Int) (v15 : List (List UInt8)) (v16 : Int) (v17 : Int) : Option (Int ⊕ Out Bool Unit) :=
 cond (decide (v17 < (v15.length : Int))) (if (0 : Int) ≤ v17 ∧ v17 < (v15.length : Int) ∧ (0 : Int) ≤ v16 ∧ v16 < (((v1.getD v2.toNat default).f3).length : Int) then cond ((v15.getD v17.toNat default) == ((((v1.getD v2.toNat default).f3).getD v16.toNat default).f0)) (some (.inr (.ret true))) (some (.inl (w64 (v17 + (1 : Int))))) else none) (some (.inr (.go ())))

noncomputable def f39_b4 (v1 : List T62) (v2 : Int) (v15 : List (List UInt8)) (v16 : Int) : Option (((List (List UInt8)) × Int) ⊕ Out Bool Unit) :=
 cond (decide (v16 < (((v1.getD v2.toNat default).f3).length : Int))) ((iter (fun s => f39_b3 v1 v2 v15 v16 s) (0 : Int)).bind fun y => match y with | .ret v18 => some (.inr (.ret v18)) | .go _ => if (0 : Int) ≤ v16 ∧ v16 < (((v1.getD v2.toNat default).f3).length : Int) then if (v15.length + [(((v1.getD v2.toNat default).f3).getD v16.toNat default).f0].length) * 16 ≤ 140737488355328 then some (.inl (v15 ++ [(((v1.getD v2.toNat default).f3).getD v16.toNat default).f0], w64 (v16 + (1 : Int)))) else none else none) (some (.inr (.go ())))

noncomputable def f39_b5 (v1 : List T62) (v2 : Int) (v20 : Int) (v21 : Int) : Option (Int ⊕ Out Bool Unit) :=
 cond (decide (v21 < v20)) (if (0 : Int) ≤ v21 ∧ v21 < (((v1.getD v2.toNat default).f4).length : Int) ∧ (0 : Int) ≤ v20 ∧ v20 < (((v1.getD v2.toNat default).f4).length : Int) then cond (((((v1.getD v2.toNat default).f4).getD v21.toNat default).f0) == ((((v1.getD v2.toNat default).f4).getD v20.toNat default).f0)) (some (.inr (.ret true))) (some (.inl (w64 (v21 + (1 : Int))))) else none) (some (.inr (.go ())))

noncomputable def f39_b6 (v1 : List T62) (v2 : Int) (v20 : Int) : Option (Int ⊕ Out Bool Unit) :=
 cond (decide (v20 < (((v1.getD v2.toNat default).f4).length : Int))) ((iter (fun s => f39_b5 v1 v2 v20 s) (0 : Int)).bind fun y => match y with | .ret v22 => some (.inr (.ret v22)) | .go _ => some (.inl (w64 (v20 + (1 : Int))))) (some (.inr (.go ())))

noncomputable def f39 (v1 : List T62) (v2 : Int) : Option Bool :=
 if (0 : Int) ≤ v2 ∧ v2 < (v1.length : Int) then (f49 v1 v2 ((v1.getD v2.toNat default).f0)).bind fun v3 => cond (decide (v3 ≥ (0 : Int))) (some true) ((f49 v1 v2 ((v1.getD v2.toNat default).f1)).bind fun v4 => (f58 v1 v4).bind fun v5 => (iter (fun s => f39_b2 v1 v2 v5 s.1 s.2) ([], (0 : Int))).bind fun y => match y with | .ret v14 => some v14 | .go v8 => (iter (fun s => f39_b4 v1 v2 s.1 s.2) (v8, (0 : Int))).bind fun y => match y with | .ret v19 => some v19 | .go _ => (iter (fun s => f39_b6 v1 v2 s) (0 : Int)).bind fun y => match y with | .ret v23 => some v23 | .go _ => some false) else none

theorem f39_ok (v1 : List T62) (v2 : Int) {r : Bool} (h : f39 v1 v2 = some r) : ACall Try.prog 39 [.tv (fzL 6 c62 v1), .tv (.int .i64 v2)] [] (.tv (.bool r)) [] := by
 refine ACall.of1 (FF 128 0) Try.func39 rfl Try.ntmps39 Try.results39 (Nat.le_of_ble_eq_true rfl) rfl rfl ?_
 refine AWp.seq ?_
 refine AWp.start [0] [] [] [0, 1] 0 ⟨[(0, q0 v1), (1, tI v2)], []⟩ rfl ?_ z0 trivial ?_
 · kernel_rfl
 refine AOps.nil ?_
 refine AWp.seq ?_
 obtain ⟨hg, h⟩ := of_guard h
 refine AWp.start [0, 1, 2, 3, 4, 5] [] [(0 : Int) ≤ v2, v2 < (v1.length : Int)] [0, 1, 5] 1 ⟨[(0, q0 v1), (1, tI v2), (5, .pc 0 0)], [.cells 63 (c62 (gD v1 v2))]⟩ rfl ?_ z0 ⟨hg.1, hg.2⟩ ?_
 · kernel_rfl
 refine AOps.nil ?_
 refine AWp.seq ?_
 refine AWp.seq ?_
 refine AWp.pin 0 rfl rfl ?_
 refine AWp.keepTo [0, 1, 5] 0 ⟨[(0, q0 v1), (1, tI v2), (5, .rp (c62 (gD v1 v2)))], []⟩ ?_ z0 ?_
 · kernel_rfl
 refine AWp.start [0, 1, 2, 3] [4, 5] [] [0, 1, 5, 18, 19, 21] 0 ⟨[(0, q0 v1), (1, tI v2), (5, .rp (c62 (gD v1 v2))), (18, q0 v1), (19, tI v2), (21, tS ((gD v1 v2).f0))], []⟩ rfl ?_ z0 trivial ?_
 · kernel_rfl
 obtain ⟨v3, hv3, h⟩ := of_bind h
 refine AOps.cons (AOne.callP (F := (FF 128 0)) _ rfl rfl rfl _ rfl rfl _ _ rfl Try.call49 [q0 v1, tI v2, tS ((gD v1 v2).f0)] rfl rfl (f49_ok v1 v2 ((gD v1 v2).f0) hv3) rfl) ?_
 refine AOps.go [5] [] [] [0, 1, 5, 23] 0 ⟨[(0, q0 v1), (1, tI v2), (5, .rp (c62 (gD v1 v2))), (23, tB (decide (v3 ≥ (0 : Int))))], []⟩ ?_ z0 trivial ?_
 · kernel_rfl
 refine AOps.nil ?_
 refine AWp.cond rfl (fun hb => ?_) fun hb => ?_
 · replace h := of_true h hb
   refine AWp.keepTo [] 0 ⟨[], []⟩ ?_ z0 ?_
   · kernel_rfl
   refine AWp.seq ?_
   refine AWp.start [0] [] [] [4] 0 ⟨[(4, tB true)], []⟩ rfl ?_ z0 trivial ?_
   · kernel_rfl
   refine AOps.nil ?_
   refine AWp.ret ?_
   cases h
   exact ⟨.inr rfl, rfl⟩
 · replace h := of_false h hb
   refine AWp.keepTo [0, 1, 5] 0 ⟨[(0, q0 v1), (1, tI v2), (5, .rp (c62 (gD v1 v2)))], []⟩ ?_ z0 ?_
   · kernel_rfl
   refine AWp.skip ?_
   refine AWp.seq ?_
   refine AWp.start [0] [] [] [0, 1, 5, 6] 0 ⟨[(0, q0 v1), (1, tI v2), (5, .rp (c62 (gD v1 v2))), (6, .tv (.sc (.slice none 0 0)))], []⟩ rfl ?_ z0 trivial ?_
   · kernel_rfl
   refine AOps.nil ?_
   refine AWp.seq ?_
   refine AWp.start [0, 1, 2, 3, 4] [5, 6, 7] [] [0, 5, 6, 24, 25, 26, 28] 0 ⟨[(0, q0 v1), (5, .rp (c62 (gD v1 v2))), (6, .tv (.sc (.slice none 0 0))), (24, q0 v1), (25, q0 v1), (26, tI v2), (28, tS ((gD v1 v2).f1))], []⟩ rfl ?_ z0 trivial ?_
   · kernel_rfl
   obtain ⟨v4, hv4, h⟩ := of_bind h
   refine AOps.cons (AOne.callP (F := (FF 128 0)) _ rfl rfl rfl _ rfl rfl _ _ rfl Try.call49 [q0 v1, tI v2, tS ((gD v1 v2).f1)] rfl rfl (f49_ok v1 v2 ((gD v1 v2).f1) hv4) rfl) ?_
   obtain ⟨v5, hv5, h⟩ := of_bind h
   refine AOps.cons (AOne.callP (F := (FF 128 0)) _ rfl rfl rfl _ rfl rfl _ _ rfl Try.call58 [q0 v1, tI v4] rfl rfl (f58_ok v1 v4 hv5) rfl) ?_
   refine AOps.go [7] [] [] [0, 5, 6, 7] 0 ⟨[(0, q0 v1), (5, .rp (c62 (gD v1 v2))), (6, .tv (.sc (.slice none 0 0))), (7, q1 v5)], []⟩ ?_ z0 trivial ?_
   · kernel_rfl
   refine AOps.nil ?_
   refine AWp.seq ?_
   refine AWp.seq ?_
   refine AWp.start [0] [] [] [0, 5, 6, 7, 8] 0 ⟨[(0, q0 v1), (5, .rp (c62 (gD v1 v2))), (6, .tv (.sc (.slice none 0 0))), (7, q1 v5), (8, tI (0 : Int))], []⟩ rfl ?_ z0 trivial ?_
   · kernel_rfl
   refine AOps.nil ?_
   refine AWp.block ?_
   refine AWp.nilOwn 6 1 9 (fun i => cStr (([] : List (List UInt8)).getD i default)) rfl ?_
   refine AWp.keepTo [0, 5, 6, 7, 8] 0 ⟨[(0, q0 v1), (5, .rp (c62 (gD v1 v2))), (6, q5 ([] : List (List UInt8))), (7, q1 v5), (8, tI (0 : Int))], []⟩ ?_ z0 ?_
   · kernel_rfl
   obtain ⟨y, hy, h⟩ := of_bind h
   refine AWp.mono (AWp.loop (S := (List (List UInt8)) × Int) (Y := Out Bool (List (List UInt8))) (fun s => ⟨[(0, q0 v1), (5, .rp (c62 (gD v1 v2))), (6, q5 s.1), (7, q1 v5), (8, tI s.2)], []⟩) (fun s => f39_b2 v1 v2 v5 s.1 s.2) (fun y e σ => match y with | .ret r => e = .ret ∧ σ = ⟨[(4, tB r)], []⟩ | .go v => e = .exit 0 ∧ σ = ⟨[(5, .rp (c62 (gD v1 v2))), (6, q5 v)], []⟩) ?_ hy) ?_
   · rintro ⟨v6, v7⟩ o h
     refine AWp.seq ?_
     refine AWp.seq ?_
     refine AWp.start [0, 1, 2, 3] [4, 5, 6, 7, 8] [] [0, 5, 6, 7, 8, 34] 0 ⟨[(0, q0 v1), (5, .rp (c62 (gD v1 v2))), (6, q5 v6), (7, q1 v5), (8, tI v7), (34, tB (!(((gD v1 v2).f1) == ([] : List UInt8))))], []⟩ rfl ?_ z0 trivial ?_
     · kernel_rfl
     obtain ⟨v9, hc4, h⟩ := of_bind h
     refine AOps.cut [4, 5, 6, 7, 8] [] (fun σ => σ = ⟨[(0, q0 v1), (5, .rp (c62 (gD v1 v2))), (6, q5 v6), (7, q1 v5), (8, tI v7), (39, tB v9)], []⟩) ?_ fun σ' hJ => ?_
     · refine AOps.split (fun b => ⟨[(0, q0 v1), (5, .rp (c62 (gD v1 v2))), (6, q5 v6), (7, q1 v5), (8, tI v7), (34, tB b)], []⟩) _ (fun hb => ?_) fun hb => ?_
       · replace hc4 := of_true hc4 hb
         refine AOps.go [4, 5, 6, 7, 8] [] [] [0, 5, 6, 7, 8, 39] 0 ⟨[(0, q0 v1), (5, .rp (c62 (gD v1 v2))), (6, q5 v6), (7, q1 v5), (8, tI v7), (39, tB (decide (v7 < (v5.length : Int))))], []⟩ ?_ z0 trivial ?_
         · kernel_rfl
         cases hc4
         exact AOps.nil rfl
       · replace hc4 := of_false hc4 hb
         refine AOps.go [4, 5, 6, 7, 8] [] [] [0, 5, 6, 7, 8, 39] 0 ⟨[(0, q0 v1), (5, .rp (c62 (gD v1 v2))), (6, q5 v6), (7, q1 v5), (8, tI v7), (39, tB false)], []⟩ ?_ z0 trivial ?_
         · kernel_rfl
         cases hc4
         exact AOps.nil rfl
     subst hJ
     refine AOps.nil ?_
     refine AWp.cond rfl (fun hb => ?_) fun hb => ?_
     · replace h := of_true h hb
       refine AWp.keepTo [0, 5, 6, 7, 8] 0 ⟨[(0, q0 v1), (5, .rp (c62 (gD v1 v2))), (6, q5 v6), (7, q1 v5), (8, tI v7)], []⟩ ?_ z0 ?_
       · kernel_rfl
       refine AWp.skip ?_
       refine AWp.seq ?_
       refine AWp.block ?_
       refine AWp.seq ?_
       refine AWp.start [0] [] [] [0, 5, 6, 7, 8, 9] 0 ⟨[(0, q0 v1), (5, .rp (c62 (gD v1 v2))), (6, q5 v6), (7, q1 v5), (8, tI v7), (9, tI (0 : Int))], []⟩ rfl ?_ z0 trivial ?_
       · kernel_rfl
       refine AOps.nil ?_
       refine AWp.block ?_
       obtain ⟨y, hy, h⟩ := of_bind h
       refine AWp.mono (AWp.loop (S := (List (List UInt8)) × Int) (Y := Out Bool (List (List UInt8))) (fun s => ⟨[(0, q0 v1), (5, .rp (c62 (gD v1 v2))), (6, q5 s.1), (7, q1 v5), (8, tI v7), (9, tI s.2)], []⟩) (fun s => f39_b1 v1 v5 v7 s.1 s.2) (fun y e σ => match y with | .ret r => e = .ret ∧ σ = ⟨[(4, tB r)], []⟩ | .go v => e = .exit 2 ∧ σ = ⟨[(0, q0 v1), (5, .rp (c62 (gD v1 v2))), (6, q5 v), (7, q1 v5), (8, tI v7)], []⟩) ?_ hy) ?_
       · rintro ⟨v10, v11⟩ o h
         refine AWp.seq ?_
         refine AWp.seq ?_
         obtain ⟨hg, h⟩ := of_guard h
         refine AWp.start [0, 1, 2, 3, 4, 5, 6, 7, 8, 9, 10] [] [(0 : Int) ≤ v7, v7 < (v5.length : Int), (0 : Int) ≤ gD v5 v7, gD v5 v7 < (v1.length : Int)] [0, 5, 6, 7, 8, 9, 52] 0 ⟨[(0, q0 v1), (5, .rp (c62 (gD v1 v2))), (6, q5 v10), (7, q1 v5), (8, tI v7), (9, tI v11), (52, tB (decide (v11 < (((v1.getD (Int.toNat (gD v5 v7)) default).f3).length : Int))))], []⟩ rfl ?_ z0 ⟨hg.1, hg.2.1, hg.2.2.1, hg.2.2.2⟩ ?_
         · kernel_rfl
         refine AOps.nil ?_
         refine AWp.cond rfl (fun hb => ?_) fun hb => ?_
         · replace h := of_true h hb
           refine AWp.keepTo [0, 5, 6, 7, 8, 9] 0 ⟨[(0, q0 v1), (5, .rp (c62 (gD v1 v2))), (6, q5 v10), (7, q1 v5), (8, tI v7), (9, tI v11)], []⟩ ?_ z0 ?_
           · kernel_rfl
           refine AWp.skip ?_
           refine AWp.seq ?_
           refine AWp.block ?_
           obtain ⟨hg, h⟩ := of_guard h
           refine AWp.start [0, 1, 2, 3, 4, 5, 6, 7, 8, 9, 10, 11, 12, 13] [14, 15] [(0 : Int) ≤ v7, v7 < (v5.length : Int), (0 : Int) ≤ gD v5 v7, gD v5 v7 < (v1.length : Int), (0 : Int) ≤ v11, v11 < (((v1.getD (Int.toNat (gD v5 v7)) default).f3).length : Int)] [0, 5, 6, 7, 8, 9, 55, 68] 0 ⟨[(0, q0 v1), (5, .rp (c62 (gD v1 v2))), (6, q5 v10), (7, q1 v5), (8, tI v7), (9, tI v11), (55, .al (.slot 6 0, [])), (68, .tv (.own 1 9 1 (newRowF [.str ((gD ((v1.getD (Int.toNat (gD v5 v7)) default).f3) v11).f0)] 1)))], []⟩ rfl ?_ z0 ⟨hg.1, hg.2.1, hg.2.2.1, hg.2.2.2.1, hg.2.2.2.2.1, hg.2.2.2.2.2⟩ ?_
           · kernel_rfl
           refine AOps.extL 68 cStr [(gD ((v1.getD (Int.toNat (gD v5 v7)) default).f3) v11).f0] rfl rfl (row_at cStr 1 (fun _ => rfl) [(gD ((v1.getD (Int.toNat (gD v5 v7)) default).f3) v11).f0] _ rfl) ?_
           obtain ⟨hg, h⟩ := of_guard h
           refine AOps.go [14] [15] [(v10.length + [(gD ((v1.getD (Int.toNat (gD v5 v7)) default).f3) v11).f0].length) * 16 ≤ 140737488355328, PlainTo v10.length (fun i => cStr (v10.getD i default)), PlainTo ([(gD ((v1.getD (Int.toNat (gD v5 v7)) default).f3) v11).f0].length) (fun i => cStr ([(gD ((v1.getD (Int.toNat (gD v5 v7)) default).f3) v11).f0].getD i default))] [0, 5, 7, 8, 9, 69] 0 ⟨[(0, q0 v1), (5, .rp (c62 (gD v1 v2))), (7, q1 v5), (8, tI v7), (9, tI v11), (69, .tv (.own 1 9 (v10.length + [(gD ((v1.getD (Int.toNat (gD v5 v7)) default).f3) v11).f0].length) (appF v10.length (fun i => cStr (v10.getD i default)) (fun i => cStr ([(gD ((v1.getD (Int.toNat (gD v5 v7)) default).f3) v11).f0].getD i default)))))], []⟩ ?_ z0 ⟨hg, (fun _ _ => rfl), (fun _ _ => rfl)⟩ ?_
           · kernel_rfl
           refine AOps.extL 69 cStr (v10 ++ [(gD ((v1.getD (Int.toNat (gD v5 v7)) default).f3) v11).f0]) rfl List.length_append.symm (app_at cStr v10 [(gD ((v1.getD (Int.toNat (gD v5 v7)) default).f3) v11).f0]) ?_
           refine AOps.go [15] [] [] [0, 5, 6, 7, 8, 9] 0 ⟨[(0, q0 v1), (5, .rp (c62 (gD v1 v2))), (6, q5 (v10 ++ [(gD ((v1.getD (Int.toNat (gD v5 v7)) default).f3) v11).f0])), (7, q1 v5), (8, tI v7), (9, tI v11)], []⟩ ?_ z0 trivial ?_
           · kernel_rfl
           refine AOps.nil ?_
           refine AWp.start [0, 1, 2] [] [] [0, 5, 6, 7, 8, 9] 0 ⟨[(0, q0 v1), (5, .rp (c62 (gD v1 v2))), (6, q5 (v10 ++ [(gD ((v1.getD (Int.toNat (gD v5 v7)) default).f3) v11).f0])), (7, q1 v5), (8, tI v7), (9, tI (w64 (v11 + (1 : Int))))], []⟩ rfl ?_ z0 trivial ?_
           · kernel_rfl
           refine AOps.nil ?_
           cases h
           exact Or.inl ⟨_, rfl, rfl, rfl⟩
         · replace h := of_false h hb
           refine AWp.keepTo [0, 5, 6, 7, 8] 0 ⟨[(0, q0 v1), (5, .rp (c62 (gD v1 v2))), (6, q5 v10), (7, q1 v5), (8, tI v7)], []⟩ ?_ z0 ?_
           · kernel_rfl
           refine AWp.exit ?_
           cases h
           exact Or.inr ⟨_, rfl, by simp, rfl, rfl⟩
       · intro e σ hp
         rcases y with v13 | v12
         · obtain ⟨rfl, rfl⟩ := hp
           cases h
           exact Or.inr ⟨_, rfl, by simp, rfl, rfl⟩
         · obtain ⟨rfl, rfl⟩ := hp
           refine AWp.start [0, 1, 2] [] [] [0, 5, 6, 7, 8] 0 ⟨[(0, q0 v1), (5, .rp (c62 (gD v1 v2))), (6, q5 v12), (7, q1 v5), (8, tI (w64 (v7 + (1 : Int))))], []⟩ rfl ?_ z0 trivial ?_
           · kernel_rfl
           refine AOps.nil ?_
           cases h
           exact Or.inl ⟨_, rfl, rfl, rfl⟩
     · replace h := of_false h hb
       refine AWp.keepTo [5, 6] 0 ⟨[(5, .rp (c62 (gD v1 v2))), (6, q5 v6)], []⟩ ?_ z0 ?_
       · kernel_rfl
       refine AWp.exit ?_
       cases h
       exact Or.inr ⟨_, rfl, by simp, rfl, rfl⟩
   · intro e σ hp
     rcases y with v14 | v8
     · obtain ⟨rfl, rfl⟩ := hp
       cases h
       exact ⟨.inr rfl, rfl⟩
     · obtain ⟨rfl, rfl⟩ := hp
       refine AWp.seq ?_
       refine AWp.seq ?_
       refine AWp.start [0] [] [] [5, 6, 10] 0 ⟨[(5, .rp (c62 (gD v1 v2))), (6, q5 v8), (10, tI (0 : Int))], []⟩ rfl ?_ z0 trivial ?_
       · kernel_rfl
       refine AOps.nil ?_
       refine AWp.block ?_
       obtain ⟨y, hy, h⟩ := of_bind h
       refine AWp.mono (AWp.loop (S := (List (List UInt8)) × Int) (Y := Out Bool Unit) (fun s => ⟨[(5, .rp (c62 (gD v1 v2))), (6, q5 s.1), (10, tI s.2)], []⟩) (fun s => f39_b4 v1 v2 s.1 s.2) (fun y e σ => match y with | .ret r => e = .ret ∧ σ = ⟨[(4, tB r)], []⟩ | .go v => e = .exit 4 ∧ σ = ⟨[(5, .rp (c62 (gD v1 v2)))], []⟩) ?_ hy) ?_
       · rintro ⟨v15, v16⟩ o h
         refine AWp.seq ?_
         refine AWp.seq ?_
         refine AWp.start [0, 1, 2, 3, 4] [] [] [5, 6, 10, 74] 0 ⟨[(5, .rp (c62 (gD v1 v2))), (6, q5 v15), (10, tI v16), (74, tB (decide (v16 < (((gD v1 v2).f3).length : Int))))], []⟩ rfl ?_ z0 trivial ?_
         · kernel_rfl
         refine AOps.nil ?_
         refine AWp.cond rfl (fun hb => ?_) fun hb => ?_
         · replace h := of_true h hb
           refine AWp.keepTo [5, 6, 10] 0 ⟨[(5, .rp (c62 (gD v1 v2))), (6, q5 v15), (10, tI v16)], []⟩ ?_ z0 ?_
           · kernel_rfl
           refine AWp.skip ?_
           refine AWp.seq ?_
           refine AWp.block ?_
           refine AWp.seq ?_
           refine AWp.seq ?_
           refine AWp.start [0] [] [] [5, 6, 10, 11] 0 ⟨[(5, .rp (c62 (gD v1 v2))), (6, q5 v15), (10, tI v16), (11, tI (0 : Int))], []⟩ rfl ?_ z0 trivial ?_
           · kernel_rfl
           refine AOps.nil ?_
           refine AWp.block ?_
           obtain ⟨y, hy, h⟩ := of_bind h
           refine AWp.mono (AWp.loop (S := Int) (Y := Out Bool Unit) (fun s => ⟨[(5, .rp (c62 (gD v1 v2))), (6, q5 v15), (10, tI v16), (11, tI s)], []⟩) (fun s => f39_b3 v1 v2 v15 v16 s) (fun y e σ => match y with | .ret r => e = .ret ∧ σ = ⟨[(4, tB r)], []⟩ | .go v => e = .exit 6 ∧ σ = ⟨[(5, .rp (c62 (gD v1 v2))), (6, q5 v15), (10, tI v16)], []⟩) ?_ hy) ?_
           · rintro v17 o h
             refine AWp.seq ?_
             refine AWp.seq ?_
             refine AWp.start [0, 1, 2, 3] [] [] [5, 6, 10, 11, 80] 0 ⟨[(5, .rp (c62 (gD v1 v2))), (6, q5 v15), (10, tI v16), (11, tI v17), (80, tB (decide (v17 < (v15.length : Int))))], []⟩ rfl ?_ z0 trivial ?_
             · kernel_rfl
             refine AOps.nil ?_
             refine AWp.cond rfl (fun hb => ?_) fun hb => ?_
             · replace h := of_true h hb
               refine AWp.keepTo [5, 6, 10, 11] 0 ⟨[(5, .rp (c62 (gD v1 v2))), (6, q5 v15), (10, tI v16), (11, tI v17)], []⟩ ?_ z0 ?_
               · kernel_rfl
               refine AWp.skip ?_
               refine AWp.seq ?_
               refine AWp.block ?_
               refine AWp.seq ?_
               refine AWp.draw FFm _ (n := 11) rfl (ls := #[n1, n1, n1, n1, n1, n1, n1, n1, n1, n1, n1]) rfl ?_ (fun _ h => h)
               obtain ⟨hg, h⟩ := of_guard h
               refine AAny.go (by kernel_rfl) [0, 1, 2, 4, 5, 6, 7, 8, 9] (fuel' := 2) rfl [(0 : Int) ≤ v17, v17 < (v15.length : Int), (0 : Int) ≤ v16, v16 < (((gD v1 v2).f3).length : Int)] #[y1, y1, y1, n1, y1, y1, y1, y1, y1, y1, n1] [5, 6, 10, 11, 85, 92] 0 ⟨[(5, .rp (c62 (gD v1 v2))), (6, q5 v15), (10, tI v16), (11, tI v17), (85, .pe (.slot 6 0, []) v17.toNat 0 1), (92, tS ((gD ((gD v1 v2).f3) v16).f0))], []⟩ ?_ z0 ⟨hg.1, hg.2.1, hg.2.2.1, hg.2.2.2⟩ ?_
               · kernel_rfl
               refine AAny.step (i := 3) (fuel' := 1) rfl (by kernel_rfl) [] #[y1, y1, y1, y1, y1, y1, y1, y1, y1, y1, n1] rfl [5, 6, 10, 11, 86, 92] 0 ⟨[(5, .rp (c62 (gD v1 v2))), (6, q5 v15), (10, tI v16), (11, tI v17), (86, tS (gD v15 v17)), (92, tS ((gD ((gD v1 v2).f3) v16).f0))], []⟩ ?_ z0 trivial ?_
               · kernel_rfl
               refine AAny.go (by kernel_rfl) [10] (fuel' := 0) rfl [] #[y1, y1, y1, y1, y1, y1, y1, y1, y1, y1, y1] [5, 6, 10, 11, 93] 0 ⟨[(5, .rp (c62 (gD v1 v2))), (6, q5 v15), (10, tI v16), (11, tI v17), (93, tB ((gD v15 v17) == ((gD ((gD v1 v2).f3) v16).f0)))], []⟩ ?_ z0 trivial ?_
               · kernel_rfl
               refine AAny.keepTo [5, 6, 10, 11, 93] 0 ⟨[(5, .rp (c62 (gD v1 v2))), (6, q5 v15), (10, tI v16), (11, tI v17), (93, tB ((gD v15 v17) == ((gD ((gD v1 v2).f3) v16).f0)))], []⟩ _ ?_ rfl z0 (AAny.done (by kernel_rfl) ?_)
               · kernel_rfl
               refine AWp.cond rfl (fun hb => ?_) fun hb => ?_
               · replace h := of_true h hb
                 refine AWp.keepTo [] 0 ⟨[], []⟩ ?_ z0 ?_
                 · kernel_rfl
                 refine AWp.seq ?_
                 refine AWp.start [0] [] [] [4] 0 ⟨[(4, tB true)], []⟩ rfl ?_ z0 trivial ?_
                 · kernel_rfl
                 refine AOps.nil ?_
                 refine AWp.ret ?_
                 cases h
                 exact Or.inr ⟨_, rfl, by simp, rfl, rfl⟩
               · replace h := of_false h hb
                 refine AWp.keepTo [5, 6, 10, 11] 0 ⟨[(5, .rp (c62 (gD v1 v2))), (6, q5 v15), (10, tI v16), (11, tI v17)], []⟩ ?_ z0 ?_
                 · kernel_rfl
                 refine AWp.skip ?_
                 refine AWp.start [0, 1, 2] [] [] [5, 6, 10, 11] 0 ⟨[(5, .rp (c62 (gD v1 v2))), (6, q5 v15), (10, tI v16), (11, tI (w64 (v17 + (1 : Int))))], []⟩ rfl ?_ z0 trivial ?_
                 · kernel_rfl
                 refine AOps.nil ?_
                 cases h
                 exact Or.inl ⟨_, rfl, rfl, rfl⟩
             · replace h := of_false h hb
               refine AWp.keepTo [5, 6, 10] 0 ⟨[(5, .rp (c62 (gD v1 v2))), (6, q5 v15), (10, tI v16)], []⟩ ?_ z0 ?_
               · kernel_rfl
               refine AWp.exit ?_
               cases h
               exact Or.inr ⟨_, rfl, by simp, rfl, rfl⟩
           · intro e σ hp
             rcases y with v18 | _
             · obtain ⟨rfl, rfl⟩ := hp
               cases h
               exact Or.inr ⟨_, rfl, by simp, rfl, rfl⟩
             · obtain ⟨rfl, rfl⟩ := hp
               obtain ⟨hg, h⟩ := of_guard h
               refine AWp.start [0, 1, 2, 3, 4, 5, 6, 7] [8, 9] [(0 : Int) ≤ v16, v16 < (((gD v1 v2).f3).length : Int)] [5, 6, 10, 94, 101] 0 ⟨[(5, .rp (c62 (gD v1 v2))), (6, q5 v15), (10, tI v16), (94, .al (.slot 6 0, [])), (101, .tv (.own 1 9 1 (newRowF [.str ((gD ((gD v1 v2).f3) v16).f0)] 1)))], []⟩ rfl ?_ z0 ⟨hg.1, hg.2⟩ ?_
               · kernel_rfl
               refine AOps.extL 101 cStr [(gD ((gD v1 v2).f3) v16).f0] rfl rfl (row_at cStr 1 (fun _ => rfl) [(gD ((gD v1 v2).f3) v16).f0] _ rfl) ?_
               obtain ⟨hg, h⟩ := of_guard h
               refine AOps.go [8] [9] [(v15.length + [(gD ((gD v1 v2).f3) v16).f0].length) * 16 ≤ 140737488355328, PlainTo v15.length (fun i => cStr (v15.getD i default)), PlainTo ([(gD ((gD v1 v2).f3) v16).f0].length) (fun i => cStr ([(gD ((gD v1 v2).f3) v16).f0].getD i default))] [5, 10, 102] 0 ⟨[(5, .rp (c62 (gD v1 v2))), (10, tI v16), (102, .tv (.own 1 9 (v15.length + [(gD ((gD v1 v2).f3) v16).f0].length) (appF v15.length (fun i => cStr (v15.getD i default)) (fun i => cStr ([(gD ((gD v1 v2).f3) v16).f0].getD i default)))))], []⟩ ?_ z0 ⟨hg, (fun _ _ => rfl), (fun _ _ => rfl)⟩ ?_
               · kernel_rfl
               refine AOps.extL 102 cStr (v15 ++ [(gD ((gD v1 v2).f3) v16).f0]) rfl List.length_append.symm (app_at cStr v15 [(gD ((gD v1 v2).f3) v16).f0]) ?_
               refine AOps.go [9] [] [] [5, 6, 10] 0 ⟨[(5, .rp (c62 (gD v1 v2))), (6, q5 (v15 ++ [(gD ((gD v1 v2).f3) v16).f0])), (10, tI v16)], []⟩ ?_ z0 trivial ?_
               · kernel_rfl
               refine AOps.nil ?_
               refine AWp.start [0, 1, 2] [] [] [5, 6, 10] 0 ⟨[(5, .rp (c62 (gD v1 v2))), (6, q5 (v15 ++ [(gD ((gD v1 v2).f3) v16).f0])), (10, tI (w64 (v16 + (1 : Int))))], []⟩ rfl ?_ z0 trivial ?_
               · kernel_rfl
               refine AOps.nil ?_
               cases h
               exact Or.inl ⟨_, rfl, rfl, rfl⟩
         · replace h := of_false h hb
           refine AWp.keepTo [5] 0 ⟨[(5, .rp (c62 (gD v1 v2)))], []⟩ ?_ z0 ?_
           · kernel_rfl
           refine AWp.exit ?_
           cases h
           exact Or.inr ⟨_, rfl, by simp, rfl, rfl⟩
       · intro e σ hp
         rcases y with v19 | _
         · obtain ⟨rfl, rfl⟩ := hp
           cases h
           exact ⟨.inr rfl, rfl⟩
         · obtain ⟨rfl, rfl⟩ := hp
           refine AWp.seq ?_
           refine AWp.seq ?_
           refine AWp.start [0] [] [] [5, 12] 0 ⟨[(5, .rp (c62 (gD v1 v2))), (12, tI (0 : Int))], []⟩ rfl ?_ z0 trivial ?_
           · kernel_rfl
           refine AOps.nil ?_
           refine AWp.block ?_
           obtain ⟨y, hy, h⟩ := of_bind h
           refine AWp.mono (AWp.loop (S := Int) (Y := Out Bool Unit) (fun s => ⟨[(5, .rp (c62 (gD v1 v2))), (12, tI s)], []⟩) (fun s => f39_b6 v1 v2 s) (fun y e σ => match y with | .ret r => e = .ret ∧ σ = ⟨[(4, tB r)], []⟩ | .go v => e = .exit 8 ∧ σ = ⟨[], []⟩) ?_ hy) ?_
           · rintro v20 o h
             refine AWp.seq ?_
             refine AWp.seq ?_
             refine AWp.start [0, 1, 2, 3, 4] [] [] [5, 12, 107] 0 ⟨[(5, .rp (c62 (gD v1 v2))), (12, tI v20), (107, tB (decide (v20 < (((gD v1 v2).f4).length : Int))))], []⟩ rfl ?_ z0 trivial ?_
             · kernel_rfl
             refine AOps.nil ?_
             refine AWp.cond rfl (fun hb => ?_) fun hb => ?_
             · replace h := of_true h hb
               refine AWp.keepTo [5, 12] 0 ⟨[(5, .rp (c62 (gD v1 v2))), (12, tI v20)], []⟩ ?_ z0 ?_
               · kernel_rfl
               refine AWp.skip ?_
               refine AWp.seq ?_
               refine AWp.block ?_
               refine AWp.seq ?_
               refine AWp.start [0] [] [] [5, 12, 13] 0 ⟨[(5, .rp (c62 (gD v1 v2))), (12, tI v20), (13, tI (0 : Int))], []⟩ rfl ?_ z0 trivial ?_
               · kernel_rfl
               refine AOps.nil ?_
               refine AWp.block ?_
               obtain ⟨y, hy, h⟩ := of_bind h
               refine AWp.mono (AWp.loop (S := Int) (Y := Out Bool Unit) (fun s => ⟨[(5, .rp (c62 (gD v1 v2))), (12, tI v20), (13, tI s)], []⟩) (fun s => f39_b5 v1 v2 v20 s) (fun y e σ => match y with | .ret r => e = .ret ∧ σ = ⟨[(4, tB r)], []⟩ | .go v => e = .exit 10 ∧ σ = ⟨[(5, .rp (c62 (gD v1 v2))), (12, tI v20)], []⟩) ?_ hy) ?_
               · rintro v21 o h
                 refine AWp.seq ?_
                 refine AWp.seq ?_
                 refine AWp.start [0, 1, 2] [] [] [5, 12, 13, 112] 0 ⟨[(5, .rp (c62 (gD v1 v2))), (12, tI v20), (13, tI v21), (112, tB (decide (v21 < v20)))], []⟩ rfl ?_ z0 trivial ?_
                 · kernel_rfl
                 refine AOps.nil ?_
                 refine AWp.cond rfl (fun hb => ?_) fun hb => ?_
                 · replace h := of_true h hb
                   refine AWp.keepTo [5, 12, 13] 0 ⟨[(5, .rp (c62 (gD v1 v2))), (12, tI v20), (13, tI v21)], []⟩ ?_ z0 ?_
                   · kernel_rfl
                   refine AWp.skip ?_
                   refine AWp.seq ?_
                   refine AWp.block ?_
                   refine AWp.seq ?_
                   refine AWp.draw FFm _ (n := 13) rfl (ls := #[n1, n1, n1, n1, n1, n1, n1, n1, n1, n1, n1, n1, n1]) rfl ?_ (fun _ h => h)
                   obtain ⟨hg, h⟩ := of_guard h
                   refine AAny.go (by kernel_rfl) [0, 1, 2, 3, 4, 5, 6, 7, 8, 9, 10, 11, 12] (fuel' := 0) rfl [(0 : Int) ≤ v21, v21 < (((gD v1 v2).f4).length : Int), (0 : Int) ≤ v20, v20 < (((gD v1 v2).f4).length : Int)] #[y1, y1, y1, y1, y1, y1, y1, y1, y1, y1, y1, y1, y1] [5, 12, 13, 127] 0 ⟨[(5, .rp (c62 (gD v1 v2))), (12, tI v20), (13, tI v21), (127, tB (((gD ((gD v1 v2).f4) v21).f0) == ((gD ((gD v1 v2).f4) v20).f0)))], []⟩ ?_ z0 ⟨hg.1, hg.2.1, hg.2.2.1, hg.2.2.2⟩ ?_
                   · kernel_rfl
                   refine AAny.keepTo [5, 12, 13, 127] 0 ⟨[(5, .rp (c62 (gD v1 v2))), (12, tI v20), (13, tI v21), (127, tB (((gD ((gD v1 v2).f4) v21).f0) == ((gD ((gD v1 v2).f4) v20).f0)))], []⟩ _ ?_ rfl z0 (AAny.done (by kernel_rfl) ?_)
                   · kernel_rfl
                   refine AWp.cond rfl (fun hb => ?_) fun hb => ?_
                   · replace h := of_true h hb
                     refine AWp.keepTo [] 0 ⟨[], []⟩ ?_ z0 ?_
                     · kernel_rfl
                     refine AWp.seq ?_
                     refine AWp.start [0] [] [] [4] 0 ⟨[(4, tB true)], []⟩ rfl ?_ z0 trivial ?_
                     · kernel_rfl
                     refine AOps.nil ?_
                     refine AWp.ret ?_
                     cases h
                     exact Or.inr ⟨_, rfl, by simp, rfl, rfl⟩
                   · replace h := of_false h hb
                     refine AWp.keepTo [5, 12, 13] 0 ⟨[(5, .rp (c62 (gD v1 v2))), (12, tI v20), (13, tI v21)], []⟩ ?_ z0 ?_
                     · kernel_rfl
                     refine AWp.skip ?_
                     refine AWp.start [0, 1, 2] [] [] [5, 12, 13] 0 ⟨[(5, .rp (c62 (gD v1 v2))), (12, tI v20), (13, tI (w64 (v21 + (1 : Int))))], []⟩ rfl ?_ z0 trivial ?_
                     · kernel_rfl
                     refine AOps.nil ?_
                     cases h
                     exact Or.inl ⟨_, rfl, rfl, rfl⟩
                 · replace h := of_false h hb
                   refine AWp.keepTo [5, 12] 0 ⟨[(5, .rp (c62 (gD v1 v2))), (12, tI v20)], []⟩ ?_ z0 ?_
                   · kernel_rfl
                   refine AWp.exit ?_
                   cases h
                   exact Or.inr ⟨_, rfl, by simp, rfl, rfl⟩
               · intro e σ hp
                 rcases y with v22 | _
                 · obtain ⟨rfl, rfl⟩ := hp
                   cases h
                   exact Or.inr ⟨_, rfl, by simp, rfl, rfl⟩
                 · obtain ⟨rfl, rfl⟩ := hp
                   refine AWp.start [0, 1, 2] [] [] [5, 12] 0 ⟨[(5, .rp (c62 (gD v1 v2))), (12, tI (w64 (v20 + (1 : Int))))], []⟩ rfl ?_ z0 trivial ?_
                   · kernel_rfl
                   refine AOps.nil ?_
                   cases h
                   exact Or.inl ⟨_, rfl, rfl, rfl⟩
             · replace h := of_false h hb
               refine AWp.keepTo [] 0 ⟨[], []⟩ ?_ z0 ?_
               · kernel_rfl
               refine AWp.exit ?_
               cases h
               exact Or.inr ⟨_, rfl, by simp, rfl, rfl⟩
           · intro e σ hp
             rcases y with v23 | _
             · obtain ⟨rfl, rfl⟩ := hp
               cases h
               exact ⟨.inr rfl, rfl⟩
             · obtain ⟨rfl, rfl⟩ := hp
               refine AWp.seq ?_
               refine AWp.start [0] [] [] [4] 0 ⟨[(4, tB false)], []⟩ rfl ?_ z0 trivial ?_
               · kernel_rfl
               refine AOps.nil ?_
               refine AWp.ret ?_
               cases h
               exact ⟨.inr rfl, rfl⟩

noncomputable def f40_b1 (v1 : List T62) (v2 : Int) (v5 : Int) : Option (Int ⊕ Out Bool Unit) :=
 cond (decide (v5 < (((v1.getD v2.toNat default).f3).length : Int))) (if (0 : Int) ≤ v5 ∧ v5 < (((v1.getD v2.toNat default).f3).length : Int) then (cond (!(((((v1.getD v2.toNat default).f3).getD v5.toNat default).f1) == ([] : List UInt8))) (if (0 : Int) ≤ v5 ∧ v5 < (((v1.getD v2.toNat default).f3).length : Int) then (f49 v1 v2 ((((v1.getD v2.toNat default).f3).getD v5.toNat default).f1)).bind fun v7 => some (decide (v7 < (0 : Int))) else none) (some false)).bind fun v6 => cond v6 (some (.inr (.ret true))) (some (.inl (w64 (v5 + (1 : Int))))) else none) (some (.inr (.go ())))

noncomputable def f40 (v1 : List T62) (v2 : Int) : Option Bool :=
 if (0 : Int) ≤ v2 ∧ v2 < (v1.length : Int) then (cond (!(((v1.getD v2.toNat default).f1) == ([] : List UInt8))) ((f49 v1 v2 ((v1.getD v2.toNat default).f1)).bind fun v4 => some (decide (v4 < (0 : Int)))) (some false)).bind fun v3 => cond v3 (some true) ((iter (fun s => f40_b1 v1 v2 s) (0 : Int)).bind fun y => match y with | .ret v8 => some v8 | .go _ => some false) else none

theorem f40_ok (v1 : List T62) (v2 : Int) {r : Bool} (h : f40 v1 v2 = some r) : ACall Try.prog 40 [.tv (fzL 6 c62 v1), .tv (.int .i64 v2)] [] (.tv (.bool r)) [] := by
 refine ACall.of1 (FF 48 0) Try.func40 rfl Try.ntmps40 Try.results40 (Nat.le_of_ble_eq_true rfl) rfl rfl ?_
 refine AWp.seq ?_
 refine AWp.start [0] [] [] [0, 1] 0 ⟨[(0, q0 v1), (1, tI v2)], []⟩ rfl ?_ z0 trivial ?_
 · kernel_rfl
 refine AOps.nil ?_
 refine AWp.seq ?_
 obtain ⟨hg, h⟩ := of_guard h
 refine AWp.start [0, 1, 2, 3, 4, 5] [] [(0 : Int) ≤ v2, v2 < (v1.length : Int)] [0, 1, 5] 1 ⟨[(0, q0 v1), (1, tI v2), (5, .pc 0 0)], [.cells 63 (c62 (gD v1 v2))]⟩ rfl ?_ z0 ⟨hg.1, hg.2⟩ ?_
 · kernel_rfl
 refine AOps.nil ?_
 refine AWp.seq ?_
 refine AWp.seq ?_
 refine AWp.pin 0 rfl rfl ?_
 refine AWp.keepTo [0, 1, 5] 0 ⟨[(0, q0 v1), (1, tI v2), (5, .rp (c62 (gD v1 v2)))], []⟩ ?_ z0 ?_
 · kernel_rfl
 refine AWp.start [0, 1, 2, 3] [4, 5, 6, 7, 8, 9, 10] [] [0, 1, 5, 14] 0 ⟨[(0, q0 v1), (1, tI v2), (5, .rp (c62 (gD v1 v2))), (14, tB (!(((gD v1 v2).f1) == ([] : List UInt8))))], []⟩ rfl ?_ z0 trivial ?_
 · kernel_rfl
 obtain ⟨v3, hc4, h⟩ := of_bind h
 refine AOps.cut [4, 5, 6, 7, 8, 9, 10] [] (fun σ => σ = ⟨[(0, q0 v1), (1, tI v2), (5, .rp (c62 (gD v1 v2))), (21, tB v3)], []⟩) ?_ fun σ' hJ => ?_
 · refine AOps.split (fun b => ⟨[(0, q0 v1), (1, tI v2), (5, .rp (c62 (gD v1 v2))), (14, tB b)], []⟩) _ (fun hb => ?_) fun hb => ?_
   · replace hc4 := of_true hc4 hb
     refine AOps.go [4, 5, 6, 7] [8, 9, 10] [] [0, 1, 5, 14, 15, 16, 18] 0 ⟨[(0, q0 v1), (1, tI v2), (5, .rp (c62 (gD v1 v2))), (14, tB true), (15, q0 v1), (16, tI v2), (18, tS ((gD v1 v2).f1))], []⟩ ?_ z0 trivial ?_
     · kernel_rfl
     obtain ⟨v4, hv4, hc4⟩ := of_bind hc4
     refine AOps.cons (AOne.callP (F := (FF 48 0)) _ rfl rfl rfl _ rfl rfl _ _ rfl Try.call49 [q0 v1, tI v2, tS ((gD v1 v2).f1)] rfl rfl (f49_ok v1 v2 ((gD v1 v2).f1) hv4) rfl) ?_
     refine AOps.go [9, 10] [] [] [0, 1, 5, 21] 0 ⟨[(0, q0 v1), (1, tI v2), (5, .rp (c62 (gD v1 v2))), (21, tB (decide (v4 < (0 : Int))))], []⟩ ?_ z0 trivial ?_
     · kernel_rfl
     cases hc4
     exact AOps.nil rfl
   · replace hc4 := of_false hc4 hb
     refine AOps.go [4, 5, 6, 7, 8, 9, 10] [] [] [0, 1, 5, 21] 0 ⟨[(0, q0 v1), (1, tI v2), (5, .rp (c62 (gD v1 v2))), (21, tB false)], []⟩ ?_ z0 trivial ?_
     · kernel_rfl
     cases hc4
     exact AOps.nil rfl
 subst hJ
 refine AOps.nil ?_
 refine AWp.cond rfl (fun hb => ?_) fun hb => ?_
 · replace h := of_true h hb
   refine AWp.keepTo [] 0 ⟨[], []⟩ ?_ z0 ?_
   · kernel_rfl
   refine AWp.seq ?_
   refine AWp.start [0] [] [] [4] 0 ⟨[(4, tB true)], []⟩ rfl ?_ z0 trivial ?_
   · kernel_rfl
   refine AOps.nil ?_
   refine AWp.ret ?_
   cases h
   exact ⟨.inr rfl, rfl⟩
 · replace h := of_false h hb
   refine AWp.keepTo [0, 1, 5] 0 ⟨[(0, q0 v1), (1, tI v2), (5, .rp (c62 (gD v1 v2)))], []⟩ ?_ z0 ?_
   · kernel_rfl
   refine AWp.skip ?_
   refine AWp.seq ?_
   refine AWp.seq ?_
   refine AWp.start [0] [] [] [0, 1, 5, 6] 0 ⟨[(0, q0 v1), (1, tI v2), (5, .rp (c62 (gD v1 v2))), (6, tI (0 : Int))], []⟩ rfl ?_ z0 trivial ?_
   · kernel_rfl
   refine AOps.nil ?_
   refine AWp.block ?_
   obtain ⟨y, hy, h⟩ := of_bind h
   refine AWp.mono (AWp.loop (S := Int) (Y := Out Bool Unit) (fun s => ⟨[(0, q0 v1), (1, tI v2), (5, .rp (c62 (gD v1 v2))), (6, tI s)], []⟩) (fun s => f40_b1 v1 v2 s) (fun y e σ => match y with | .ret r => e = .ret ∧ σ = ⟨[(4, tB r)], []⟩ | .go v => e = .exit 0 ∧ σ = ⟨[], []⟩) ?_ hy) ?_
   · rintro v5 o h
     refine AWp.seq ?_
     refine AWp.seq ?_
     refine AWp.start [0, 1, 2, 3, 4] [] [] [0, 1, 5, 6, 26] 0 ⟨[(0, q0 v1), (1, tI v2), (5, .rp (c62 (gD v1 v2))), (6, tI v5), (26, tB (decide (v5 < (((gD v1 v2).f3).length : Int))))], []⟩ rfl ?_ z0 trivial ?_
     · kernel_rfl
     refine AOps.nil ?_
     refine AWp.cond rfl (fun hb => ?_) fun hb => ?_
     · replace h := of_true h hb
       refine AWp.keepTo [0, 1, 5, 6] 0 ⟨[(0, q0 v1), (1, tI v2), (5, .rp (c62 (gD v1 v2))), (6, tI v5)], []⟩ ?_ z0 ?_
       · kernel_rfl
       refine AWp.skip ?_
       refine AWp.seq ?_
       refine AWp.block ?_
       refine AWp.seq ?_
       obtain ⟨hg, h⟩ := of_guard h
       refine AWp.start [0, 1, 2, 3, 4, 5, 6, 7] [8, 9, 10, 11, 12, 13, 14, 15, 16, 17, 18] [(0 : Int) ≤ v5, v5 < (((gD v1 v2).f3).length : Int)] [0, 1, 5, 6, 36] 0 ⟨[(0, q0 v1), (1, tI v2), (5, .rp (c62 (gD v1 v2))), (6, tI v5), (36, tB (!(((gD ((gD v1 v2).f3) v5).f1) == ([] : List UInt8))))], []⟩ rfl ?_ z0 ⟨hg.1, hg.2⟩ ?_
       · kernel_rfl
       obtain ⟨v6, hc8, h⟩ := of_bind h
       refine AOps.cut [8, 9, 10, 11, 12, 13, 14, 15, 16, 17, 18] [] (fun σ => σ = ⟨[(0, q0 v1), (1, tI v2), (5, .rp (c62 (gD v1 v2))), (6, tI v5), (47, tB v6)], []⟩) ?_ fun σ' hJ => ?_
       · refine AOps.split (fun b => ⟨[(0, q0 v1), (1, tI v2), (5, .rp (c62 (gD v1 v2))), (6, tI v5), (36, tB b)], []⟩) _ (fun hb => ?_) fun hb => ?_
         · replace hc8 := of_true hc8 hb
           obtain ⟨hg, hc8⟩ := of_guard hc8
           refine AOps.go [8, 9, 10, 11, 12, 13, 14, 15] [16, 17, 18] [(0 : Int) ≤ v5, v5 < (((gD v1 v2).f3).length : Int)] [0, 1, 5, 6, 36, 37, 38, 44] 0 ⟨[(0, q0 v1), (1, tI v2), (5, .rp (c62 (gD v1 v2))), (6, tI v5), (36, tB true), (37, q0 v1), (38, tI v2), (44, tS ((gD ((gD v1 v2).f3) v5).f1))], []⟩ ?_ z0 ⟨hg.1, hg.2⟩ ?_
           · kernel_rfl
           obtain ⟨v7, hv7, hc8⟩ := of_bind hc8
           refine AOps.cons (AOne.callP (F := (FF 48 0)) _ rfl rfl rfl _ rfl rfl _ _ rfl Try.call49 [q0 v1, tI v2, tS ((gD ((gD v1 v2).f3) v5).f1)] rfl rfl (f49_ok v1 v2 ((gD ((gD v1 v2).f3) v5).f1) hv7) rfl) ?_
           refine AOps.go [17, 18] [] [] [0, 1, 5, 6, 47] 0 ⟨[(0, q0 v1), (1, tI v2), (5, .rp (c62 (gD v1 v2))), (6, tI v5), (47, tB (decide (v7 < (0 : Int))))], []⟩ ?_ z0 trivial ?_
           · kernel_rfl
           cases hc8
           exact AOps.nil rfl
         · replace hc8 := of_false hc8 hb
           refine AOps.go [8, 9, 10, 11, 12, 13, 14, 15, 16, 17, 18] [] [] [0, 1, 5, 6, 47] 0 ⟨[(0, q0 v1), (1, tI v2), (5, .rp (c62 (gD v1 v2))), (6, tI v5), (47, tB false)], []⟩ ?_ z0 trivial ?_
           · kernel_rfl
           cases hc8
           exact AOps.nil rfl
       subst hJ
       refine AOps.nil ?_
       refine AWp.cond rfl (fun hb => ?_) fun hb => ?_
       · replace h := of_true h hb
         refine AWp.keepTo [] 0 ⟨[], []⟩ ?_ z0 ?_
         · kernel_rfl
         refine AWp.seq ?_
         refine AWp.start [0] [] [] [4] 0 ⟨[(4, tB true)], []⟩ rfl ?_ z0 trivial ?_
         · kernel_rfl
         refine AOps.nil ?_
         refine AWp.ret ?_
         cases h
         exact Or.inr ⟨_, rfl, by simp, rfl, rfl⟩
       · replace h := of_false h hb
         refine AWp.keepTo [0, 1, 5, 6] 0 ⟨[(0, q0 v1), (1, tI v2), (5, .rp (c62 (gD v1 v2))), (6, tI v5)], []⟩ ?_ z0 ?_
         · kernel_rfl
         refine AWp.skip ?_
         refine AWp.start [0, 1, 2] [] [] [0, 1, 5, 6] 0 ⟨[(0, q0 v1), (1, tI v2), (5, .rp (c62 (gD v1 v2))), (6, tI (w64 (v5 + (1 : Int))))], []⟩ rfl ?_ z0 trivial ?_
         · kernel_rfl
         refine AOps.nil ?_
         cases h
         exact Or.inl ⟨_, rfl, rfl, rfl⟩
     · replace h := of_false h hb
       refine AWp.keepTo [] 0 ⟨[], []⟩ ?_ z0 ?_
       · kernel_rfl
       refine AWp.exit ?_
       cases h
       exact Or.inr ⟨_, rfl, by simp, rfl, rfl⟩
   · intro e σ hp
     rcases y with v8 | _
     · obtain ⟨rfl, rfl⟩ := hp
       cases h
       exact ⟨.inr rfl, rfl⟩
     · obtain ⟨rfl, rfl⟩ := hp
       refine AWp.seq ?_
       refine AWp.start [0] [] [] [4] 0 ⟨[(4, tB false)], []⟩ rfl ?_ z0 trivial ?_
       · kernel_rfl
       refine AOps.nil ?_
       refine AWp.ret ?_
       cases h
       exact ⟨.inr rfl, rfl⟩

noncomputable def f63_b1 (v1 : List T62) (v2 : List Int) (v3 : List UInt8) (v4 : Int) (v5 : Int) : Option (Int ⊕ Out ((List UInt8) × Bool) Unit) :=
 cond (decide (v5 < (((v1.getD (Int.toNat (v2.getD v4.toNat default)) default).f4).length : Int))) (if (0 : Int) ≤ v5 ∧ v5 < (((v1.getD (Int.toNat (v2.getD v4.toNat default)) default).f4).length : Int) then cond (((((v1.getD (Int.toNat (v2.getD v4.toNat default)) default).f4).getD v5.toNat default).f0) == v3) (if (0 : Int) ≤ v5 ∧ v5 < (((v1.getD (Int.toNat (v2.getD v4.toNat default)) default).f4).length : Int) then some (.inr (.ret ((((v1.getD (Int.toNat (v2.getD v4.toNat default)) default).f4).getD v5.toNat default).f1, true))) else none) (some (.inl (w64 (v5 + (1 : Int))))) else none) (some (.inr (.go ())))

noncomputable def f63_b2 (v1 : List T62) (v2 : List Int) (v3 : List UInt8) (v4 : Int) : Option (Int ⊕ Out ((List UInt8) × Bool) Unit) :=
 cond (decide (v4 < (v2.length : Int))) (if (0 : Int) ≤ v4 ∧ v4 < (v2.length : Int) ∧ (0 : Int) ≤ v2.getD v4.toNat default ∧ v2.getD v4.toNat default < (v1.length : Int) then (iter (fun s => f63_b1 v1 v2 v3 v4 s) (0 : Int)).bind fun y => match y with | .ret v6 => some (.inr (.ret (v6.1, v6.2))) | .go _ => some (.inl (w64 (v4 + (1 : Int)))) else none) (some (.inr (.go ())))

noncomputable def f63 (v1 : List T62) (v2 : List Int) (v3 : List UInt8) : Option ((List UInt8) × Bool) :=
 (iter (fun s => f63_b2 v1 v2 v3 s) (0 : Int)).bind fun y => match y with | .ret v7 => some (v7.1, v7.2) | .go _ => some (([] : List UInt8), false)

theorem f63_ok (v1 : List T62) (v2 : List Int) (v3 : List UInt8) {r : (List UInt8) × Bool} (h : f63 v1 v2 v3 = some r) : ACall Try.prog 63 [.tv (fzL 6 c62 v1), .tv (fzL 1 (cInt .i64) v2), .tv (.str v3)] [] (.tup [.tv (.str r.1), .tv (.bool r.2)]) [] := by
 refine ACall.ofN (FF 45 0) (rs := [6, 7]) (env := [(6, tS r.1), (7, tB r.2)]) Try.func63 rfl Try.ntmps63 Try.results63 (by decide) (by decide) rfl (Nat.le_of_ble_eq_true rfl) rfl (get_ofN _ _ _ rfl) (ok_ofN _ rfl) ?_
 refine AWp.seq ?_
 refine AWp.start [0, 1] [] [] [0, 1, 2] 0 ⟨[(0, q0 v1), (1, q3 v2), (2, tS v3)], []⟩ rfl ?_ z0 trivial ?_
 · kernel_rfl
 refine AOps.nil ?_
 refine AWp.seq ?_
 refine AWp.seq ?_
 refine AWp.start [0] [] [] [0, 1, 2, 8] 0 ⟨[(0, q0 v1), (1, q3 v2), (2, tS v3), (8, tI (0 : Int))], []⟩ rfl ?_ z0 trivial ?_
 · kernel_rfl
 refine AOps.nil ?_
 refine AWp.block ?_
 obtain ⟨y, hy, h⟩ := of_bind h
 refine AWp.mono (AWp.loop (S := Int) (Y := Out ((List UInt8) × Bool) Unit) (fun s => ⟨[(0, q0 v1), (1, q3 v2), (2, tS v3), (8, tI s)], []⟩) (fun s => f63_b2 v1 v2 v3 s) (fun y e σ => match y with | .ret r => e = .ret ∧ σ = ⟨[(6, tS r.1), (7, tB r.2)], []⟩ | .go v => e = .exit 0 ∧ σ = ⟨[], []⟩) ?_ hy) ?_
 · rintro v4 o h
   refine AWp.seq ?_
   refine AWp.seq ?_
   refine AWp.start [0, 1, 2, 3] [] [] [0, 1, 2, 8, 14] 0 ⟨[(0, q0 v1), (1, q3 v2), (2, tS v3), (8, tI v4), (14, tB (decide (v4 < (v2.length : Int))))], []⟩ rfl ?_ z0 trivial ?_
   · kernel_rfl
   refine AOps.nil ?_
   refine AWp.cond rfl (fun hb => ?_) fun hb => ?_
   · replace h := of_true h hb
     refine AWp.keepTo [0, 1, 2, 8] 0 ⟨[(0, q0 v1), (1, q3 v2), (2, tS v3), (8, tI v4)], []⟩ ?_ z0 ?_
     · kernel_rfl
     refine AWp.skip ?_
     refine AWp.seq ?_
     refine AWp.block ?_
     refine AWp.seq ?_
     obtain ⟨hg, h⟩ := of_guard h
     refine AWp.start [0, 1, 2, 3, 4, 5, 6, 7, 8] [] [(0 : Int) ≤ v4, v4 < (v2.length : Int), (0 : Int) ≤ gD v2 v4, gD v2 v4 < (v1.length : Int)] [0, 1, 2, 8, 9] 1 ⟨[(0, q0 v1), (1, q3 v2), (2, tS v3), (8, tI v4), (9, .pc 0 0)], [.cells 63 (c62 (v1.getD (Int.toNat (gD v2 v4)) default))]⟩ rfl ?_ z0 ⟨hg.1, hg.2.1, hg.2.2.1, hg.2.2.2⟩ ?_
     · kernel_rfl
     refine AOps.nil ?_
     refine AWp.seq ?_
     refine AWp.pin 0 rfl rfl ?_
     refine AWp.keepTo [0, 1, 2, 8, 9] 0 ⟨[(0, q0 v1), (1, q3 v2), (2, tS v3), (8, tI v4), (9, .rp (c62 (v1.getD (Int.toNat (gD v2 v4)) default)))], []⟩ ?_ z0 ?_
     · kernel_rfl
     refine AWp.start [0] [] [] [0, 1, 2, 8, 9, 10] 0 ⟨[(0, q0 v1), (1, q3 v2), (2, tS v3), (8, tI v4), (9, .rp (c62 (v1.getD (Int.toNat (gD v2 v4)) default))), (10, tI (0 : Int))], []⟩ rfl ?_ z0 trivial ?_
     · kernel_rfl
     refine AOps.nil ?_
     refine AWp.block ?_
     obtain ⟨y, hy, h⟩ := of_bind h
     refine AWp.mono (AWp.loop (S := Int) (Y := Out ((List UInt8) × Bool) Unit) (fun s => ⟨[(0, q0 v1), (1, q3 v2), (2, tS v3), (8, tI v4), (9, .rp (c62 (v1.getD (Int.toNat (gD v2 v4)) default))), (10, tI s)], []⟩) (fun s => f63_b1 v1 v2 v3 v4 s) (fun y e σ => match y with | .ret r => e = .ret ∧ σ = ⟨[(6, tS r.1), (7, tB r.2)], []⟩ | .go v => e = .exit 2 ∧ σ = ⟨[(0, q0 v1), (1, q3 v2), (2, tS v3), (8, tI v4)], []⟩) ?_ hy) ?_
     · rintro v5 o h
       refine AWp.seq ?_
       refine AWp.seq ?_
       refine AWp.start [0, 1, 2, 3, 4] [] [] [0, 1, 2, 8, 9, 10, 28] 0 ⟨[(0, q0 v1), (1, q3 v2), (2, tS v3), (8, tI v4), (9, .rp (c62 (v1.getD (Int.toNat (gD v2 v4)) default))), (10, tI v5), (28, tB (decide (v5 < (((v1.getD (Int.toNat (gD v2 v4)) default).f4).length : Int))))], []⟩ rfl ?_ z0 trivial ?_
       · kernel_rfl
       refine AOps.nil ?_
       refine AWp.cond rfl (fun hb => ?_) fun hb => ?_
       · replace h := of_true h hb
         refine AWp.keepTo [0, 1, 2, 8, 9, 10] 0 ⟨[(0, q0 v1), (1, q3 v2), (2, tS v3), (8, tI v4), (9, .rp (c62 (v1.getD (Int.toNat (gD v2 v4)) default))), (10, tI v5)], []⟩ ?_ z0 ?_
         · kernel_rfl
         refine AWp.skip ?_
         refine AWp.seq ?_
         refine AWp.block ?_
         refine AWp.seq ?_
         obtain ⟨hg, h⟩ := of_guard h
         refine AWp.start [0, 1, 2, 3, 4, 5, 6, 7] [] [(0 : Int) ≤ v5, v5 < (((v1.getD (Int.toNat (gD v2 v4)) default).f4).length : Int)] [0, 1, 2, 8, 9, 10, 38] 0 ⟨[(0, q0 v1), (1, q3 v2), (2, tS v3), (8, tI v4), (9, .rp (c62 (v1.getD (Int.toNat (gD v2 v4)) default))), (10, tI v5), (38, tB (((gD ((v1.getD (Int.toNat (gD v2 v4)) default).f4) v5).f0) == v3))], []⟩ rfl ?_ z0 ⟨hg.1, hg.2⟩ ?_
         · kernel_rfl
         refine AOps.nil ?_
         refine AWp.cond rfl (fun hb => ?_) fun hb => ?_
         · replace h := of_true h hb
           refine AWp.keepTo [9, 10] 0 ⟨[(9, .rp (c62 (v1.getD (Int.toNat (gD v2 v4)) default))), (10, tI v5)], []⟩ ?_ z0 ?_
           · kernel_rfl
           refine AWp.seq ?_
           obtain ⟨hg, h⟩ := of_guard h
           refine AWp.start [0, 1, 2, 3, 4, 5, 6, 7] [] [(0 : Int) ≤ v5, v5 < (((v1.getD (Int.toNat (gD v2 v4)) default).f4).length : Int)] [6, 7] 0 ⟨[(6, tS ((gD ((v1.getD (Int.toNat (gD v2 v4)) default).f4) v5).f1)), (7, tB true)], []⟩ rfl ?_ z0 ⟨hg.1, hg.2⟩ ?_
           · kernel_rfl
           refine AOps.nil ?_
           refine AWp.ret ?_
           cases h
           exact Or.inr ⟨_, rfl, by simp, rfl, rfl⟩
         · replace h := of_false h hb
           refine AWp.keepTo [0, 1, 2, 8, 9, 10] 0 ⟨[(0, q0 v1), (1, q3 v2), (2, tS v3), (8, tI v4), (9, .rp (c62 (v1.getD (Int.toNat (gD v2 v4)) default))), (10, tI v5)], []⟩ ?_ z0 ?_
           · kernel_rfl
           refine AWp.skip ?_
           refine AWp.start [0, 1, 2] [] [] [0, 1, 2, 8, 9, 10] 0 ⟨[(0, q0 v1), (1, q3 v2), (2, tS v3), (8, tI v4), (9, .rp (c62 (v1.getD (Int.toNat (gD v2 v4)) default))), (10, tI (w64 (v5 + (1 : Int))))], []⟩ rfl ?_ z0 trivial ?_
           · kernel_rfl
           refine AOps.nil ?_
           cases h
           exact Or.inl ⟨_, rfl, rfl, rfl⟩
       · replace h := of_false h hb
         refine AWp.keepTo [0, 1, 2, 8] 0 ⟨[(0, q0 v1), (1, q3 v2), (2, tS v3), (8, tI v4)], []⟩ ?_ z0 ?_
         · kernel_rfl
         refine AWp.exit ?_
         cases h
         exact Or.inr ⟨_, rfl, by simp, rfl, rfl⟩
     · intro e σ hp
       rcases y with v6 | _
       · obtain ⟨rfl, rfl⟩ := hp
         cases h
         exact Or.inr ⟨_, rfl, by simp, rfl, rfl⟩
       · obtain ⟨rfl, rfl⟩ := hp
         refine AWp.start [0, 1, 2] [] [] [0, 1, 2, 8] 0 ⟨[(0, q0 v1), (1, q3 v2), (2, tS v3), (8, tI (w64 (v4 + (1 : Int))))], []⟩ rfl ?_ z0 trivial ?_
         · kernel_rfl
         refine AOps.nil ?_
         cases h
         exact Or.inl ⟨_, rfl, rfl, rfl⟩
   · replace h := of_false h hb
     refine AWp.keepTo [] 0 ⟨[], []⟩ ?_ z0 ?_
     · kernel_rfl
     refine AWp.exit ?_
     cases h
     exact Or.inr ⟨_, rfl, by simp, rfl, rfl⟩
 · intro e σ hp
   rcases y with v7 | _
   · obtain ⟨rfl, rfl⟩ := hp
     cases h
     exact ⟨.inr rfl, rfl⟩
   · obtain ⟨rfl, rfl⟩ := hp
     refine AWp.seq ?_
     refine AWp.start [0, 1] [] [] [6, 7] 0 ⟨[(6, tS ([] : List UInt8)), (7, tB false)], []⟩ rfl ?_ z0 trivial ?_
     · kernel_rfl
     refine AOps.nil ?_
     refine AWp.ret ?_
     cases h
     exact ⟨.inr rfl, rfl⟩

noncomputable def f41_b1 (v1 : List T62) (v2 : Int) (v3 : Int) : Option (Int ⊕ Out Bool Unit) :=
 cond (decide (v3 < (((v1.getD v2.toNat default).f3).length : Int))) (if (0 : Int) ≤ v3 ∧ v3 < (((v1.getD v2.toNat default).f3).length : Int) then (cond (!(((((v1.getD v2.toNat default).f3).getD v3.toNat default).f1) == ([] : List UInt8))) (if (0 : Int) ≤ v3 ∧ v3 < (((v1.getD v2.toNat default).f3).length : Int) then (f49 v1 v2 ((((v1.getD v2.toNat default).f3).getD v3.toNat default).f1)).bind fun v5 => if (0 : Int) ≤ v5 ∧ v5 < (v1.length : Int) then some ((v1.getD v5.toNat default).f2) else none else none) (some false)).bind fun v4 => cond v4 (some (.inr (.ret false))) (some (.inl (w64 (v3 + (1 : Int))))) else none) (some (.inr (.go ())))

noncomputable def f41_j2 (v8 : List Int) (v9 : Int) : Option (((List Int) × Int) ⊕ Out Bool (List Int)) :=
 some (.inl (v8, w64 (v9 + (1 : Int))))

noncomputable def f41_b3 (v1 : List T62) (v2 : Int) (v8 : List Int) (v9 : Int) : Option (((List Int) × Int) ⊕ Out Bool (List Int)) :=
 cond (decide (v9 < (((v1.getD v2.toNat default).f4).length : Int))) (if (0 : Int) ≤ v9 ∧ v9 < (((v1.getD v2.toNat default).f4).length : Int) then cond (!(((((v1.getD v2.toNat default).f4).getD v9.toNat default).f1) == ([] : List UInt8))) (f41_j2 v8 v9 ) (if (1 : Int) ≤ (v8.length : Int) then if (0 : Int) ≤ v9 ∧ v9 < (((v1.getD v2.toNat default).f4).length : Int) then (f63 v1 ((v8.take (Int.toNat (v8.length : Int))).drop 1) ((((v1.getD v2.toNat default).f4).getD v9.toNat default).f0)).bind fun v11 => (cond (!((v1.getD v2.toNat default).f2)) (some true) ((cond v11.2 (some (!(v11.1 == ([] : List UInt8)))) (some false)).bind fun v13 => some v13)).bind fun v12 => cond v12 (some (.inr (.ret false))) (f41_j2 v8 v9 ) else none else none) else none) (some (.inr (.go v8)))

noncomputable def f41_b4 (v1 : List T62) (v10 : List Int) (v15 : Int) (v17 : Int) : Option (Int ⊕ Out Bool Unit) :=
 if (0 : Int) ≤ v15 ∧ v15 < (v10.length : Int) ∧ (0 : Int) ≤ v10.getD v15.toNat default ∧ v10.getD v15.toNat default < (v1.length : Int) then cond (decide (v17 < (((v1.getD (Int.toNat (v10.getD v15.toNat default)) default).f4).length : Int))) (if (0 : Int) ≤ v15 ∧ v15 < (v10.length : Int) ∧ (0 : Int) ≤ v10.getD v15.toNat default ∧ v10.getD v15.toNat default < (v1.length : Int) ∧ (0 : Int) ≤ v17 ∧ v17 < (((v1.getD (Int.toNat (v10.getD v15.toNat default)) default).f4).length : Int) then (f63 v1 v10 ((((v1.getD (Int.toNat (v10.getD v15.toNat default)) default).f4).getD v17.toNat default).f0)).bind fun v18 => cond (v18.1 == ([] : List UInt8)) (some (.inr (.ret false))) (some (.inl (w64 (v17 + (1 : Int))))) else none) (some (.inr (.go ()))) else none

noncomputable def f41_b5 (v1 : List T62) (v2 : Int) (v10 : List Int) (v15 : Int) : Option (Int ⊕ Out Bool Unit) :=
 (cond (decide (v15 < (v10.length : Int))) (some (!((v1.getD v2.toNat default).f2))) (some false)).bind fun v16 => cond v16 ((iter (fun s => f41_b4 v1 v10 v15 s) (0 : Int)).bind fun y => match y with | .ret v19 => some (.inr (.ret v19)) | .go _ => some (.inl (w64 (v15 + (1 : Int))))) (some (.inr (.go ())))

noncomputable def f41 (v1 : List T62) (v2 : Int) : Option Bool :=
 if (0 : Int) ≤ v2 ∧ v2 < (v1.length : Int) then (iter (fun s => f41_b1 v1 v2 s) (0 : Int)).bind fun y => match y with | .ret v6 => some v6 | .go _ => (f58 v1 v2).bind fun v7 => (iter (fun s => f41_b3 v1 v2 s.1 s.2) (v7, (0 : Int))).bind fun y => match y with | .ret v14 => some v14 | .go v10 => (iter (fun s => f41_b5 v1 v2 v10 s) (0 : Int)).bind fun y => match y with | .ret v20 => some v20 | .go _ => some true else none

theorem f41_ok (v1 : List T62) (v2 : Int) {r : Bool} (h : f41 v1 v2 = some r) : ACall Try.prog 41 [.tv (fzL 6 c62 v1), .tv (.int .i64 v2)] [] (.tv (.bool r)) [] := by
 refine ACall.of1 (FF 132 0) Try.func41 rfl Try.ntmps41 Try.results41 (Nat.le_of_ble_eq_true rfl) rfl rfl ?_
 refine AWp.seq ?_
 refine AWp.start [0] [] [] [0, 1] 0 ⟨[(0, q0 v1), (1, tI v2)], []⟩ rfl ?_ z0 trivial ?_
 · kernel_rfl
 refine AOps.nil ?_
 refine AWp.seq ?_
 obtain ⟨hg, h⟩ := of_guard h
 refine AWp.start [0, 1, 2, 3, 4, 5] [] [(0 : Int) ≤ v2, v2 < (v1.length : Int)] [0, 1, 5] 1 ⟨[(0, q0 v1), (1, tI v2), (5, .pc 0 0)], [.cells 63 (c62 (gD v1 v2))]⟩ rfl ?_ z0 ⟨hg.1, hg.2⟩ ?_
 · kernel_rfl
 refine AOps.nil ?_
 refine AWp.seq ?_
 refine AWp.seq ?_
 refine AWp.pin 0 rfl rfl ?_
 refine AWp.keepTo [0, 1, 5] 0 ⟨[(0, q0 v1), (1, tI v2), (5, .rp (c62 (gD v1 v2)))], []⟩ ?_ z0 ?_
 · kernel_rfl
 refine AWp.start [0] [] [] [0, 1, 5, 6] 0 ⟨[(0, q0 v1), (1, tI v2), (5, .rp (c62 (gD v1 v2))), (6, tI (0 : Int))], []⟩ rfl ?_ z0 trivial ?_
 · kernel_rfl
 refine AOps.nil ?_
 refine AWp.block ?_
 obtain ⟨y, hy, h⟩ := of_bind h
 refine AWp.mono (AWp.loop (S := Int) (Y := Out Bool Unit) (fun s => ⟨[(0, q0 v1), (1, tI v2), (5, .rp (c62 (gD v1 v2))), (6, tI s)], []⟩) (fun s => f41_b1 v1 v2 s) (fun y e σ => match y with | .ret r => e = .ret ∧ σ = ⟨[(4, tB r)], []⟩ | .go v => e = .exit 0 ∧ σ = ⟨[(0, q0 v1), (1, tI v2), (5, .rp (c62 (gD v1 v2)))], []⟩) ?_ hy) ?_
 · rintro v3 o h
   refine AWp.seq ?_
   refine AWp.seq ?_
   refine AWp.start [0, 1, 2, 3, 4] [] [] [0, 1, 5, 6, 23] 0 ⟨[(0, q0 v1), (1, tI v2), (5, .rp (c62 (gD v1 v2))), (6, tI v3), (23, tB (decide (v3 < (((gD v1 v2).f3).length : Int))))], []⟩ rfl ?_ z0 trivial ?_
   · kernel_rfl
   refine AOps.nil ?_
   refine AWp.cond rfl (fun hb => ?_) fun hb => ?_
   · replace h := of_true h hb
     refine AWp.keepTo [0, 1, 5, 6] 0 ⟨[(0, q0 v1), (1, tI v2), (5, .rp (c62 (gD v1 v2))), (6, tI v3)], []⟩ ?_ z0 ?_
     · kernel_rfl
     refine AWp.skip ?_
     refine AWp.seq ?_
     refine AWp.block ?_
     refine AWp.seq ?_
     obtain ⟨hg, h⟩ := of_guard h
     refine AWp.start [0, 1, 2, 3, 4, 5, 6, 7] [8, 9, 10, 11, 12, 13, 14, 15, 16, 17, 18, 19, 20, 21] [(0 : Int) ≤ v3, v3 < (((gD v1 v2).f3).length : Int)] [0, 1, 5, 6, 33] 0 ⟨[(0, q0 v1), (1, tI v2), (5, .rp (c62 (gD v1 v2))), (6, tI v3), (33, tB (!(((gD ((gD v1 v2).f3) v3).f1) == ([] : List UInt8))))], []⟩ rfl ?_ z0 ⟨hg.1, hg.2⟩ ?_
     · kernel_rfl
     obtain ⟨v4, hc8, h⟩ := of_bind h
     refine AOps.cut [8, 9, 10, 11, 12, 13, 14, 15, 16, 17, 18, 19, 20, 21] [] (fun σ => σ = ⟨[(0, q0 v1), (1, tI v2), (5, .rp (c62 (gD v1 v2))), (6, tI v3), (47, tB v4)], []⟩) ?_ fun σ' hJ => ?_
     · refine AOps.split (fun b => ⟨[(0, q0 v1), (1, tI v2), (5, .rp (c62 (gD v1 v2))), (6, tI v3), (33, tB b)], []⟩) _ (fun hb => ?_) fun hb => ?_
       · replace hc8 := of_true hc8 hb
         obtain ⟨hg, hc8⟩ := of_guard hc8
         refine AOps.go [8, 9, 10, 11, 12, 13, 14, 15, 16] [17, 18, 19, 20, 21] [(0 : Int) ≤ v3, v3 < (((gD v1 v2).f3).length : Int)] [0, 1, 5, 6, 33, 34, 35, 36, 42] 0 ⟨[(0, q0 v1), (1, tI v2), (5, .rp (c62 (gD v1 v2))), (6, tI v3), (33, tB true), (34, q0 v1), (35, q0 v1), (36, tI v2), (42, tS ((gD ((gD v1 v2).f3) v3).f1))], []⟩ ?_ z0 ⟨hg.1, hg.2⟩ ?_
         · kernel_rfl
         obtain ⟨v5, hv5, hc8⟩ := of_bind hc8
         refine AOps.cons (AOne.callP (F := (FF 132 0)) _ rfl rfl rfl _ rfl rfl _ _ rfl Try.call49 [q0 v1, tI v2, tS ((gD ((gD v1 v2).f3) v3).f1)] rfl rfl (f49_ok v1 v2 ((gD ((gD v1 v2).f3) v3).f1) hv5) rfl) ?_
         obtain ⟨hg, hc8⟩ := of_guard hc8
         refine AOps.go [18, 19, 20, 21] [] [(0 : Int) ≤ v5, v5 < (v1.length : Int)] [0, 1, 5, 6, 47] 0 ⟨[(0, q0 v1), (1, tI v2), (5, .rp (c62 (gD v1 v2))), (6, tI v3), (47, tB ((gD v1 v5).f2))], []⟩ ?_ z0 ⟨hg.1, hg.2⟩ ?_
         · kernel_rfl
         cases hc8
         exact AOps.nil rfl
       · replace hc8 := of_false hc8 hb
         refine AOps.go [8, 9, 10, 11, 12, 13, 14, 15, 16, 17, 18, 19, 20, 21] [] [] [0, 1, 5, 6, 47] 0 ⟨[(0, q0 v1), (1, tI v2), (5, .rp (c62 (gD v1 v2))), (6, tI v3), (47, tB false)], []⟩ ?_ z0 trivial ?_
         · kernel_rfl
         cases hc8
         exact AOps.nil rfl
     subst hJ
     refine AOps.nil ?_
     refine AWp.cond rfl (fun hb => ?_) fun hb => ?_
     · replace h := of_true h hb
       refine AWp.keepTo [] 0 ⟨[], []⟩ ?_ z0 ?_
       · kernel_rfl
       refine AWp.seq ?_
       refine AWp.start [0] [] [] [4] 0 ⟨[(4, tB false)], []⟩ rfl ?_ z0 trivial ?_
       · kernel_rfl
       refine AOps.nil ?_
       refine AWp.ret ?_
       cases h
       exact Or.inr ⟨_, rfl, by simp, rfl, rfl⟩
     · replace h := of_false h hb
       refine AWp.keepTo [0, 1, 5, 6] 0 ⟨[(0, q0 v1), (1, tI v2), (5, .rp (c62 (gD v1 v2))), (6, tI v3)], []⟩ ?_ z0 ?_
       · kernel_rfl
       refine AWp.skip ?_
       refine AWp.start [0, 1, 2] [] [] [0, 1, 5, 6] 0 ⟨[(0, q0 v1), (1, tI v2), (5, .rp (c62 (gD v1 v2))), (6, tI (w64 (v3 + (1 : Int))))], []⟩ rfl ?_ z0 trivial ?_
       · kernel_rfl
       refine AOps.nil ?_
       cases h
       exact Or.inl ⟨_, rfl, rfl, rfl⟩
   · replace h := of_false h hb
     refine AWp.keepTo [0, 1, 5] 0 ⟨[(0, q0 v1), (1, tI v2), (5, .rp (c62 (gD v1 v2)))], []⟩ ?_ z0 ?_
     · kernel_rfl
     refine AWp.exit ?_
     cases h
     exact Or.inr ⟨_, rfl, by simp, rfl, rfl⟩
 · intro e σ hp
   rcases y with v6 | _
   · obtain ⟨rfl, rfl⟩ := hp
     cases h
     exact ⟨.inr rfl, rfl⟩
   · obtain ⟨rfl, rfl⟩ := hp
     refine AWp.seq ?_
     refine AWp.start [0, 1] [2, 3] [] [0, 5, 48, 49] 0 ⟨[(0, q0 v1), (5, .rp (c62 (gD v1 v2))), (48, q0 v1), (49, tI v2)], []⟩ rfl ?_ z0 trivial ?_
     · kernel_rfl
     obtain ⟨v7, hv7, h⟩ := of_bind h
     refine AOps.cons (AOne.callP (F := (FF 132 0)) _ rfl rfl rfl _ rfl rfl _ _ rfl Try.call58 [q0 v1, tI v2] rfl rfl (f58_ok v1 v2 hv7) rfl) ?_
     refine AOps.go [3] [] [] [0, 5, 7] 0 ⟨[(0, q0 v1), (5, .rp (c62 (gD v1 v2))), (7, q1 v7)], []⟩ ?_ z0 trivial ?_
     · kernel_rfl
     refine AOps.nil ?_
     refine AWp.seq ?_
     refine AWp.seq ?_
     refine AWp.start [0] [] [] [0, 5, 7, 8] 0 ⟨[(0, q0 v1), (5, .rp (c62 (gD v1 v2))), (7, q1 v7), (8, tI (0 : Int))], []⟩ rfl ?_ z0 trivial ?_
     · kernel_rfl
     refine AOps.nil ?_
     refine AWp.block ?_
     refine AWp.freezeL 7 (cInt .i64) v7 rfl (fun _ => rfl) ?_
     refine AWp.keepTo [0, 5, 7, 8] 0 ⟨[(0, q0 v1), (5, .rp (c62 (gD v1 v2))), (7, q3 v7), (8, tI (0 : Int))], []⟩ ?_ z0 ?_
     · kernel_rfl
     obtain ⟨y, hy, h⟩ := of_bind h
     refine AWp.mono (AWp.loop (S := (List Int) × Int) (Y := Out Bool (List Int)) (fun s => ⟨[(0, q0 v1), (5, .rp (c62 (gD v1 v2))), (7, q3 s.1), (8, tI s.2)], []⟩) (fun s => f41_b3 v1 v2 s.1 s.2) (fun y e σ => match y with | .ret r => e = .ret ∧ σ = ⟨[(4, tB r)], []⟩ | .go v => e = .exit 2 ∧ σ = ⟨[(0, q0 v1), (5, .rp (c62 (gD v1 v2))), (7, q3 v)], []⟩) ?_ hy) ?_
     · rintro ⟨v8, v9⟩ o h
       refine AWp.seq ?_
       refine AWp.seq ?_
       refine AWp.start [0, 1, 2, 3, 4] [] [] [0, 5, 7, 8, 55] 0 ⟨[(0, q0 v1), (5, .rp (c62 (gD v1 v2))), (7, q3 v8), (8, tI v9), (55, tB (decide (v9 < (((gD v1 v2).f4).length : Int))))], []⟩ rfl ?_ z0 trivial ?_
       · kernel_rfl
       refine AOps.nil ?_
       refine AWp.cond rfl (fun hb => ?_) fun hb => ?_
       · replace h := of_true h hb
         refine AWp.keepTo [0, 5, 7, 8] 0 ⟨[(0, q0 v1), (5, .rp (c62 (gD v1 v2))), (7, q3 v8), (8, tI v9)], []⟩ ?_ z0 ?_
         · kernel_rfl
         refine AWp.skip ?_
         refine AWp.join (V := Unit) (fun w => ⟨[(0, q0 v1), (5, .rp (c62 (gD v1 v2))), (7, q3 v8), (8, tI v9)], []⟩) (fun w => f41_j2 v8 v9 = some o) ?_ ?_
         · refine AWp.block ?_
           refine AWp.seq ?_
           refine AWp.seq ?_
           obtain ⟨hg, h⟩ := of_guard h
           refine AWp.start [0, 1, 2, 3, 4, 5, 6] [] [(0 : Int) ≤ v9, v9 < (((gD v1 v2).f4).length : Int)] [0, 5, 7, 8, 64] 0 ⟨[(0, q0 v1), (5, .rp (c62 (gD v1 v2))), (7, q3 v8), (8, tI v9), (64, tB (!(((gD ((gD v1 v2).f4) v9).f1) == ([] : List UInt8))))], []⟩ rfl ?_ z0 ⟨hg.1, hg.2⟩ ?_
           · kernel_rfl
           refine AOps.nil ?_
           refine AWp.cond rfl (fun hb => ?_) fun hb => ?_
           · replace h := of_true h hb
             refine AWp.keepTo [0, 5, 7, 8] 0 ⟨[(0, q0 v1), (5, .rp (c62 (gD v1 v2))), (7, q3 v8), (8, tI v9)], []⟩ ?_ z0 ?_
             · kernel_rfl
             refine AWp.exit ?_
             exact ⟨(), h, rfl⟩
           · replace h := of_false h hb
             refine AWp.keepTo [0, 5, 7, 8] 0 ⟨[(0, q0 v1), (5, .rp (c62 (gD v1 v2))), (7, q3 v8), (8, tI v9)], []⟩ ?_ z0 ?_
             · kernel_rfl
             refine AWp.skip ?_
             refine AWp.seq ?_
             refine AWp.draw FFm _ (n := 15) rfl (ls := #[n1, n1, n1, n1, n1, n1, n1, n1, n1, n1, n1, n1, n1, n1, n1]) rfl ?_ (fun _ h => h)
             obtain ⟨hg, h⟩ := of_guard h
             refine AAny.go (by kernel_rfl) [0, 1, 2] (fuel' := 12) rfl [(0 : Int) ≤ (1 : Int), (1 : Int) ≤ (v8.length : Int), (v8.length : Int) ≤ (v8.length : Int)] #[y1, y1, y1, n1, n1, n1, n1, n1, n1, n1, n1, n1, n1, n1, n1] [0, 5, 7, 8, 66, 68] 0 ⟨[(0, q0 v1), (5, .rp (c62 (gD v1 v2))), (7, q3 v8), (8, tI v9), (66, q0 v1), (68, .tv (.fz 1 ((Int.toNat (v8.length : Int)) - 1) (fun i => (cInt .i64) (v8.getD (1 + i) default))))], []⟩ ?_ z0 ⟨(by decide : (0 : Int) ≤ (1 : Int)), hg, (Int.le_refl (v8.length : Int))⟩ ?_
             · kernel_rfl
             have hb : (Int.toNat (v8.length : Int)) ≤ v8.length := by have hh : (v8.length : Int) ≤ (v8.length : Int) := (Int.le_refl (v8.length : Int)); omega
             refine AAny.extFzL (s := 68) rfl (sub_len v8 1 (Int.toNat (v8.length : Int)) hb) (sub_at (cInt .i64) v8 1 (Int.toNat (v8.length : Int)) hb) ?_
             obtain ⟨hg, h⟩ := of_guard h
             refine AAny.go (by kernel_rfl) [3, 4, 5, 6, 7, 8] (fuel' := 6) rfl [(0 : Int) ≤ v9, v9 < (((gD v1 v2).f4).length : Int)] #[y1, y1, y1, y1, y1, y1, y1, y1, y1, n1, n1, n1, n1, n1, n1] [0, 5, 7, 8, 66, 68, 74] 0 ⟨[(0, q0 v1), (5, .rp (c62 (gD v1 v2))), (7, q3 v8), (8, tI v9), (66, q0 v1), (68, q3 ((v8.take (Int.toNat (v8.length : Int))).drop 1)), (74, tS ((gD ((gD v1 v2).f4) v9).f0))], []⟩ ?_ z0 ⟨hg.1, hg.2⟩ ?_
             · kernel_rfl
             obtain ⟨v11, hv11, h⟩ := of_bind h
             refine AAny.serial (i := 9) (fuel := 5) (by kernel_rfl) (AOne.callP (F := (FF 132 0)) _ rfl rfl rfl _ rfl rfl _ _ rfl Try.call63 [q0 v1, q3 ((v8.take (Int.toNat (v8.length : Int))).drop 1), tS ((gD ((gD v1 v2).f4) v9).f0)] rfl rfl (f63_ok v1 ((v8.take (Int.toNat (v8.length : Int))).drop 1) ((gD ((gD v1 v2).f4) v9).f0) hv11) rfl) ?_
             refine AAny.keepTo [0, 5, 7, 8, 75] 0 ⟨[(0, q0 v1), (5, .rp (c62 (gD v1 v2))), (7, q3 v8), (8, tI v9), (75, .tup [tS v11.1, tB v11.2])], []⟩ #[y1, y1, y1, y1, y1, y1, y1, y1, y1, y1, n1, n1, n1, n1, n1] ?_ rfl z0 ?_
             · kernel_rfl
             refine AAny.go (by kernel_rfl) [10, 11, 12, 13, 14] (fuel' := 0) rfl [] #[y1, y1, y1, y1, y1, y1, y1, y1, y1, y1, y1, y1, y1, y1, y1] [0, 5, 7, 8, 9, 10] 0 ⟨[(0, q0 v1), (5, .rp (c62 (gD v1 v2))), (7, q3 v8), (8, tI v9), (9, tS v11.1), (10, tB v11.2)], []⟩ ?_ z0 trivial ?_
             · kernel_rfl
             refine AAny.keepTo [0, 5, 7, 8, 9, 10] 0 ⟨[(0, q0 v1), (5, .rp (c62 (gD v1 v2))), (7, q3 v8), (8, tI v9), (9, tS v11.1), (10, tB v11.2)], []⟩ _ ?_ rfl z0 (AAny.done (by kernel_rfl) ?_)
             · kernel_rfl
             refine AWp.seq ?_
             refine AWp.start [0, 1, 2, 3] [4, 5, 6, 7, 8, 9] [] [0, 5, 7, 8, 9, 10, 81] 0 ⟨[(0, q0 v1), (5, .rp (c62 (gD v1 v2))), (7, q3 v8), (8, tI v9), (9, tS v11.1), (10, tB v11.2), (81, tB (!((gD v1 v2).f2)))], []⟩ rfl ?_ z0 trivial ?_
             · kernel_rfl
             obtain ⟨v12, hc4, h⟩ := of_bind h
             refine AOps.cut [4, 5, 6, 7, 8, 9] [] (fun σ => σ = ⟨[(0, q0 v1), (5, .rp (c62 (gD v1 v2))), (7, q3 v8), (8, tI v9), (87, tB v12)], []⟩) ?_ fun σ' hJ => ?_
             · refine AOps.split (fun b => ⟨[(0, q0 v1), (5, .rp (c62 (gD v1 v2))), (7, q3 v8), (8, tI v9), (9, tS v11.1), (10, tB v11.2), (81, tB b)], []⟩) _ (fun hb => ?_) fun hb => ?_
               · replace hc4 := of_true hc4 hb
                 refine AOps.go [4, 5, 6, 7, 8, 9] [] [] [0, 5, 7, 8, 87] 0 ⟨[(0, q0 v1), (5, .rp (c62 (gD v1 v2))), (7, q3 v8), (8, tI v9), (87, tB true)], []⟩ ?_ z0 trivial ?_
                 · kernel_rfl
                 cases hc4
                 exact AOps.nil rfl
               · replace hc4 := of_false hc4 hb
                 refine AOps.go [4, 5] [6, 7, 8, 9] [] [0, 5, 7, 8, 9, 81, 83] 0 ⟨[(0, q0 v1), (5, .rp (c62 (gD v1 v2))), (7, q3 v8), (8, tI v9), (9, tS v11.1), (81, tB false), (83, tB v11.2)], []⟩ ?_ z0 trivial ?_
                 · kernel_rfl
                 obtain ⟨v13, hc6, hc4⟩ := of_bind hc4
                 refine AOps.cut [6, 7, 8] [9] (fun σ => σ = ⟨[(0, q0 v1), (5, .rp (c62 (gD v1 v2))), (7, q3 v8), (8, tI v9), (81, tB false), (86, tB v13)], []⟩) ?_ fun σ' hJ => ?_
                 · refine AOps.split (fun b => ⟨[(0, q0 v1), (5, .rp (c62 (gD v1 v2))), (7, q3 v8), (8, tI v9), (9, tS v11.1), (81, tB false), (83, tB b)], []⟩) _ (fun hb => ?_) fun hb => ?_
                   · replace hc6 := of_true hc6 hb
                     refine AOps.go [6, 7, 8] [] [] [0, 5, 7, 8, 81, 86] 0 ⟨[(0, q0 v1), (5, .rp (c62 (gD v1 v2))), (7, q3 v8), (8, tI v9), (81, tB false), (86, tB (!(v11.1 == ([] : List UInt8))))], []⟩ ?_ z0 trivial ?_
                     · kernel_rfl
                     cases hc6
                     exact AOps.nil rfl
                   · replace hc6 := of_false hc6 hb
                     refine AOps.go [6, 7, 8] [] [] [0, 5, 7, 8, 81, 86] 0 ⟨[(0, q0 v1), (5, .rp (c62 (gD v1 v2))), (7, q3 v8), (8, tI v9), (81, tB false), (86, tB false)], []⟩ ?_ z0 trivial ?_
                     · kernel_rfl
                     cases hc6
                     exact AOps.nil rfl
                 subst hJ
                 refine AOps.go [9] [] [] [0, 5, 7, 8, 87] 0 ⟨[(0, q0 v1), (5, .rp (c62 (gD v1 v2))), (7, q3 v8), (8, tI v9), (87, tB v13)], []⟩ ?_ z0 trivial ?_
                 · kernel_rfl
                 cases hc4
                 exact AOps.nil rfl
             subst hJ
             refine AOps.nil ?_
             refine AWp.cond rfl (fun hb => ?_) fun hb => ?_
             · replace h := of_true h hb
               refine AWp.keepTo [] 0 ⟨[], []⟩ ?_ z0 ?_
               · kernel_rfl
               refine AWp.seq ?_
               refine AWp.start [0] [] [] [4] 0 ⟨[(4, tB false)], []⟩ rfl ?_ z0 trivial ?_
               · kernel_rfl
               refine AOps.nil ?_
               refine AWp.ret ?_
               cases h
               exact Or.inr ⟨_, rfl, by simp, rfl, rfl⟩
             · replace h := of_false h hb
               refine AWp.keepTo [0, 5, 7, 8] 0 ⟨[(0, q0 v1), (5, .rp (c62 (gD v1 v2))), (7, q3 v8), (8, tI v9)], []⟩ ?_ z0 ?_
               · kernel_rfl
               refine AWp.skip ?_
               exact ⟨(), h, rfl⟩
         · rintro ⟨⟩ h
           refine AWp.start [0, 1, 2] [] [] [0, 5, 7, 8] 0 ⟨[(0, q0 v1), (5, .rp (c62 (gD v1 v2))), (7, q3 v8), (8, tI (w64 (v9 + (1 : Int))))], []⟩ rfl ?_ z0 trivial ?_
           · kernel_rfl
           refine AOps.nil ?_
           cases h
           exact Or.inl ⟨_, rfl, rfl, rfl⟩
       · replace h := of_false h hb
         refine AWp.keepTo [0, 5, 7] 0 ⟨[(0, q0 v1), (5, .rp (c62 (gD v1 v2))), (7, q3 v8)], []⟩ ?_ z0 ?_
         · kernel_rfl
         refine AWp.exit ?_
         cases h
         exact Or.inr ⟨_, rfl, by simp, rfl, rfl⟩
     · intro e σ hp
       rcases y with v14 | v10
       · obtain ⟨rfl, rfl⟩ := hp
         cases h
         exact ⟨.inr rfl, rfl⟩
       · obtain ⟨rfl, rfl⟩ := hp
         refine AWp.seq ?_
         refine AWp.seq ?_
         refine AWp.start [0] [] [] [0, 5, 7, 11] 0 ⟨[(0, q0 v1), (5, .rp (c62 (gD v1 v2))), (7, q3 v10), (11, tI (0 : Int))], []⟩ rfl ?_ z0 trivial ?_
         · kernel_rfl
         refine AOps.nil ?_
         refine AWp.block ?_
         obtain ⟨y, hy, h⟩ := of_bind h
         refine AWp.mono (AWp.loop (S := Int) (Y := Out Bool Unit) (fun s => ⟨[(0, q0 v1), (5, .rp (c62 (gD v1 v2))), (7, q3 v10), (11, tI s)], []⟩) (fun s => f41_b5 v1 v2 v10 s) (fun y e σ => match y with | .ret r => e = .ret ∧ σ = ⟨[(4, tB r)], []⟩ | .go v => e = .exit 4 ∧ σ = ⟨[], []⟩) ?_ hy) ?_
         · rintro v15 o h
           refine AWp.seq ?_
           refine AWp.seq ?_
           refine AWp.start [0, 1, 2, 3, 4] [5, 6, 7, 8] [] [0, 5, 7, 11, 92] 0 ⟨[(0, q0 v1), (5, .rp (c62 (gD v1 v2))), (7, q3 v10), (11, tI v15), (92, tB (decide (v15 < (v10.length : Int))))], []⟩ rfl ?_ z0 trivial ?_
           · kernel_rfl
           obtain ⟨v16, hc5, h⟩ := of_bind h
           refine AOps.cut [5, 6, 7, 8] [] (fun σ => σ = ⟨[(0, q0 v1), (5, .rp (c62 (gD v1 v2))), (7, q3 v10), (11, tI v15), (96, tB v16)], []⟩) ?_ fun σ' hJ => ?_
           · refine AOps.split (fun b => ⟨[(0, q0 v1), (5, .rp (c62 (gD v1 v2))), (7, q3 v10), (11, tI v15), (92, tB b)], []⟩) _ (fun hb => ?_) fun hb => ?_
             · replace hc5 := of_true hc5 hb
               refine AOps.go [5, 6, 7, 8] [] [] [0, 5, 7, 11, 96] 0 ⟨[(0, q0 v1), (5, .rp (c62 (gD v1 v2))), (7, q3 v10), (11, tI v15), (96, tB (!((gD v1 v2).f2)))], []⟩ ?_ z0 trivial ?_
               · kernel_rfl
               cases hc5
               exact AOps.nil rfl
             · replace hc5 := of_false hc5 hb
               refine AOps.go [5, 6, 7, 8] [] [] [0, 5, 7, 11, 96] 0 ⟨[(0, q0 v1), (5, .rp (c62 (gD v1 v2))), (7, q3 v10), (11, tI v15), (96, tB false)], []⟩ ?_ z0 trivial ?_
               · kernel_rfl
               cases hc5
               exact AOps.nil rfl
           subst hJ
           refine AOps.nil ?_
           refine AWp.cond rfl (fun hb => ?_) fun hb => ?_
           · replace h := of_true h hb
             refine AWp.keepTo [0, 5, 7, 11] 0 ⟨[(0, q0 v1), (5, .rp (c62 (gD v1 v2))), (7, q3 v10), (11, tI v15)], []⟩ ?_ z0 ?_
             · kernel_rfl
             refine AWp.skip ?_
             refine AWp.seq ?_
             refine AWp.block ?_
             refine AWp.seq ?_
             refine AWp.start [0] [] [] [0, 5, 7, 11, 12] 0 ⟨[(0, q0 v1), (5, .rp (c62 (gD v1 v2))), (7, q3 v10), (11, tI v15), (12, tI (0 : Int))], []⟩ rfl ?_ z0 trivial ?_
             · kernel_rfl
             refine AOps.nil ?_
             refine AWp.block ?_
             obtain ⟨y, hy, h⟩ := of_bind h
             refine AWp.mono (AWp.loop (S := Int) (Y := Out Bool Unit) (fun s => ⟨[(0, q0 v1), (5, .rp (c62 (gD v1 v2))), (7, q3 v10), (11, tI v15), (12, tI s)], []⟩) (fun s => f41_b4 v1 v10 v15 s) (fun y e σ => match y with | .ret r => e = .ret ∧ σ = ⟨[(4, tB r)], []⟩ | .go v => e = .exit 6 ∧ σ = ⟨[(0, q0 v1), (5, .rp (c62 (gD v1 v2))), (7, q3 v10), (11, tI v15)], []⟩) ?_ hy) ?_
             · rintro v17 o h
               refine AWp.seq ?_
               refine AWp.seq ?_
               obtain ⟨hg, h⟩ := of_guard h
               refine AWp.start [0, 1, 2, 3, 4, 5, 6, 7, 8, 9, 10] [] [(0 : Int) ≤ v15, v15 < (v10.length : Int), (0 : Int) ≤ gD v10 v15, gD v10 v15 < (v1.length : Int)] [0, 5, 7, 11, 12, 109] 0 ⟨[(0, q0 v1), (5, .rp (c62 (gD v1 v2))), (7, q3 v10), (11, tI v15), (12, tI v17), (109, tB (decide (v17 < (((v1.getD (Int.toNat (gD v10 v15)) default).f4).length : Int))))], []⟩ rfl ?_ z0 ⟨hg.1, hg.2.1, hg.2.2.1, hg.2.2.2⟩ ?_
               · kernel_rfl
               refine AOps.nil ?_
               refine AWp.cond rfl (fun hb => ?_) fun hb => ?_
               · replace h := of_true h hb
                 refine AWp.keepTo [0, 5, 7, 11, 12] 0 ⟨[(0, q0 v1), (5, .rp (c62 (gD v1 v2))), (7, q3 v10), (11, tI v15), (12, tI v17)], []⟩ ?_ z0 ?_
                 · kernel_rfl
                 refine AWp.skip ?_
                 refine AWp.seq ?_
                 refine AWp.block ?_
                 refine AWp.seq ?_
                 obtain ⟨hg, h⟩ := of_guard h
                 refine AWp.start [0, 1, 2, 3, 4, 5, 6, 7, 8, 9, 10, 11, 12, 13] [14, 15, 16, 17, 18, 19] [(0 : Int) ≤ v15, v15 < (v10.length : Int), (0 : Int) ≤ gD v10 v15, gD v10 v15 < (v1.length : Int), (0 : Int) ≤ v17, v17 < (((v1.getD (Int.toNat (gD v10 v15)) default).f4).length : Int)] [0, 5, 7, 11, 12, 113, 114, 126] 0 ⟨[(0, q0 v1), (5, .rp (c62 (gD v1 v2))), (7, q3 v10), (11, tI v15), (12, tI v17), (113, q0 v1), (114, q3 v10), (126, tS ((gD ((v1.getD (Int.toNat (gD v10 v15)) default).f4) v17).f0))], []⟩ rfl ?_ z0 ⟨hg.1, hg.2.1, hg.2.2.1, hg.2.2.2.1, hg.2.2.2.2.1, hg.2.2.2.2.2⟩ ?_
                 · kernel_rfl
                 obtain ⟨v18, hv18, h⟩ := of_bind h
                 refine AOps.cons (AOne.callP (F := (FF 132 0)) _ rfl rfl rfl _ rfl rfl _ _ rfl Try.call63 [q0 v1, q3 v10, tS ((gD ((v1.getD (Int.toNat (gD v10 v15)) default).f4) v17).f0)] rfl rfl (f63_ok v1 v10 ((gD ((v1.getD (Int.toNat (gD v10 v15)) default).f4) v17).f0) hv18) rfl) ?_
                 refine AOps.go [15, 16, 17, 18, 19] [] [] [0, 5, 7, 11, 12, 13] 0 ⟨[(0, q0 v1), (5, .rp (c62 (gD v1 v2))), (7, q3 v10), (11, tI v15), (12, tI v17), (13, tS v18.1)], []⟩ ?_ z0 trivial ?_
                 · kernel_rfl
                 refine AOps.nil ?_
                 refine AWp.seq ?_
                 refine AWp.start [0, 1] [] [] [0, 5, 7, 11, 12, 131] 0 ⟨[(0, q0 v1), (5, .rp (c62 (gD v1 v2))), (7, q3 v10), (11, tI v15), (12, tI v17), (131, tB (v18.1 == ([] : List UInt8)))], []⟩ rfl ?_ z0 trivial ?_
                 · kernel_rfl
                 refine AOps.nil ?_
                 refine AWp.cond rfl (fun hb => ?_) fun hb => ?_
                 · replace h := of_true h hb
                   refine AWp.keepTo [] 0 ⟨[], []⟩ ?_ z0 ?_
                   · kernel_rfl
                   refine AWp.seq ?_
                   refine AWp.start [0] [] [] [4] 0 ⟨[(4, tB false)], []⟩ rfl ?_ z0 trivial ?_
                   · kernel_rfl
                   refine AOps.nil ?_
                   refine AWp.ret ?_
                   cases h
                   exact Or.inr ⟨_, rfl, by simp, rfl, rfl⟩
                 · replace h := of_false h hb
                   refine AWp.keepTo [0, 5, 7, 11, 12] 0 ⟨[(0, q0 v1), (5, .rp (c62 (gD v1 v2))), (7, q3 v10), (11, tI v15), (12, tI v17)], []⟩ ?_ z0 ?_
                   · kernel_rfl
                   refine AWp.skip ?_
                   refine AWp.start [0, 1, 2] [] [] [0, 5, 7, 11, 12] 0 ⟨[(0, q0 v1), (5, .rp (c62 (gD v1 v2))), (7, q3 v10), (11, tI v15), (12, tI (w64 (v17 + (1 : Int))))], []⟩ rfl ?_ z0 trivial ?_
                   · kernel_rfl
                   refine AOps.nil ?_
                   cases h
                   exact Or.inl ⟨_, rfl, rfl, rfl⟩
               · replace h := of_false h hb
                 refine AWp.keepTo [0, 5, 7, 11] 0 ⟨[(0, q0 v1), (5, .rp (c62 (gD v1 v2))), (7, q3 v10), (11, tI v15)], []⟩ ?_ z0 ?_
                 · kernel_rfl
                 refine AWp.exit ?_
                 cases h
                 exact Or.inr ⟨_, rfl, by simp, rfl, rfl⟩
             · intro e σ hp
               rcases y with v19 | _
               · obtain ⟨rfl, rfl⟩ := hp
                 cases h
                 exact Or.inr ⟨_, rfl, by simp, rfl, rfl⟩
               · obtain ⟨rfl, rfl⟩ := hp
                 refine AWp.start [0, 1, 2] [] [] [0, 5, 7, 11] 0 ⟨[(0, q0 v1), (5, .rp (c62 (gD v1 v2))), (7, q3 v10), (11, tI (w64 (v15 + (1 : Int))))], []⟩ rfl ?_ z0 trivial ?_
                 · kernel_rfl
                 refine AOps.nil ?_
                 cases h
                 exact Or.inl ⟨_, rfl, rfl, rfl⟩
           · replace h := of_false h hb
             refine AWp.keepTo [] 0 ⟨[], []⟩ ?_ z0 ?_
             · kernel_rfl
             refine AWp.exit ?_
             cases h
             exact Or.inr ⟨_, rfl, by simp, rfl, rfl⟩
         · intro e σ hp
           rcases y with v20 | _
           · obtain ⟨rfl, rfl⟩ := hp
             cases h
             exact ⟨.inr rfl, rfl⟩
           · obtain ⟨rfl, rfl⟩ := hp
             refine AWp.seq ?_
             refine AWp.start [0] [] [] [4] 0 ⟨[(4, tB true)], []⟩ rfl ?_ z0 trivial ?_
             · kernel_rfl
             refine AOps.nil ?_
             refine AWp.ret ?_
             cases h
             exact ⟨.inr rfl, rfl⟩

noncomputable def f72 (v1 : Int) : Option Int :=
 some (if (100001 : Int) < v1 then (100001 : Int) else v1)

theorem f72_ok (v1 : Int) {r : Int} (h : f72 v1 = some r) : ACall Try.prog 72 [.tv (.int .i64 v1)] [] (.tv (.int .i64 r)) [] := by
 refine ACall.of1 (FF 5 0) Try.func72 rfl Try.ntmps72 Try.results72 (Nat.le_of_ble_eq_true rfl) rfl rfl ?_
 refine AWp.seq ?_
 refine AWp.start [0] [] [] [0] 0 ⟨[(0, tI v1)], []⟩ rfl ?_ z0 trivial ?_
 · kernel_rfl
 refine AOps.nil ?_
 refine AWp.seq ?_
 refine AWp.start [0, 1, 2] [] [] [2] 0 ⟨[(2, tI (if (100001 : Int) < v1 then (100001 : Int) else v1))], []⟩ rfl ?_ z0 trivial ?_
 · kernel_rfl
 refine AOps.nil ?_
 refine AWp.ret ?_
 cases h
 exact ⟨.inr rfl, rfl⟩

end Go.Sx.der
