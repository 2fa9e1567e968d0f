/- Printed by program (wip/gen): plain functions and their walks; no condition. -/
import Derived.Test.YtplfiblnmnpllaaGx5
namespace Go.Sx.der
open Go Go.Sx Go.Proofs

noncomputable def f65_j1 (rc : T68 → (List T62) → Int → Int → (List T37) → Option (List T37)) (v1 : T68) (v2 : List T62) (v3 : Int) (v11 : Int) (v14 : Int) (v15 : Int) (v18 : List T37) : Option (((List T37) × Int × Int) ⊕ Out (List T37) ((List T37) × Int)) :=
 (f52 v1 v2 (((v2.getD v3.toNat default).f3).getD v11.toNat default)).bind fun v19 => some (.inl (v18, w64 (v14 + v19), w64 (v15 + (1 : Int))))

noncomputable def f65_b2 (rc : T68 → (List T62) → Int → Int → (List T37) → Option (List T37)) (v1 : T68) (v2 : List T62) (v3 : Int) (v11 : Int) (v13 : List T37) (v14 : Int) (v15 : Int) : Option (((List T37) × Int × Int) ⊕ Out (List T37) ((List T37) × Int)) :=
 cond (decide (v15 < (if (1 : Int) > (((v2.getD v3.toNat default).f3).getD v11.toNat default).f2 then (1 : Int) else (((v2.getD v3.toNat default).f3).getD v11.toNat default).f2))) (cond (!(((((v2.getD v3.toNat default).f3).getD v11.toNat default).f1) == ([] : List UInt8))) ((f49 v2 v3 ((((v2.getD v3.toNat default).f3).getD v11.toNat default).f1)).bind fun v20 => (rc v1 v2 v20 v14 v13).bind fun v21 => f65_j1 rc v1 v2 v3 v11 v14 v15 v21) (f65_j1 rc v1 v2 v3 v11 v14 v15 v13)) (some (.inr (.go (v13, v14))))

noncomputable def f65_b3 (rc : T68 → (List T62) → Int → Int → (List T37) → Option (List T37)) (v1 : T68) (v2 : List T62) (v3 : Int) (v9 : List T37) (v10 : Int) (v11 : Int) : Option (((List T37) × Int × Int) ⊕ Out (List T37) (List T37)) :=
 if (0 : Int) ≤ v3 ∧ v3 < (v2.length : Int) then cond (decide (v11 < (((v2.getD v3.toNat default).f3).length : Int))) (if (0 : Int) ≤ v3 ∧ v3 < (v2.length : Int) ∧ (0 : Int) ≤ v11 ∧ v11 < (((v2.getD v3.toNat default).f3).length : Int) then (iter (fun s => f65_b2 rc v1 v2 v3 v11 s.1 s.2.1 s.2.2) (v9, v10, (0 : Int))).bind fun y => match y with | .ret v22 => some (.inr (.ret v22)) | .go (v16, v17) => some (.inl (v16, v17, w64 (v11 + (1 : Int)))) else none) (some (.inr (.go v9))) else none

noncomputable def f65_j4 (rc : T68 → (List T62) → Int → Int → (List T37) → Option (List T37)) (v24 : List T37) : Option (List T37) :=
 some v24

noncomputable def f65_j5 (rc : T68 → (List T62) → Int → Int → (List T37) → Option (List T37)) (v1 : T68) (v2 : List T62) (v3 : Int) (v4 : Int) (v6 : List T37) (v7 : Int) (v8 : Int) : Option (List T37) :=
 (iter (fun s => f65_b3 rc v1 v2 v3 s.1 s.2.1 s.2.2) (v6, v8, (0 : Int))).bind fun y => match y with | .ret v23 => some v23 | .go v12 => if (0 : Int) ≤ v3 ∧ v3 < (v2.length : Int) then cond (!(((v2.getD v3.toNat default).f1) == ([] : List UInt8))) ((rc v1 v2 v7 v4 v12).bind fun v25 => f65_j4 rc v25) (f65_j4 rc v12) else none

noncomputable def f65_j6 (rc : T68 → (List T62) → Int → Int → (List T37) → Option (List T37)) (v1 : T68) (v2 : List T62) (v3 : Int) (v4 : Int) (v6 : List T37) : Option (List T37) :=
 if (0 : Int) ≤ v3 ∧ v3 < (v2.length : Int) then (f49 v2 v3 ((v2.getD v3.toNat default).f1)).bind fun v7 => if (0 : Int) ≤ v3 ∧ v3 < (v2.length : Int) then cond (!(((v2.getD v3.toNat default).f1) == ([] : List UInt8))) (if (0 : Int) ≤ v7 ∧ v7 < (v1.f0.length : Int) then f65_j5 rc v1 v2 v3 v4 v6 v7 (w64 (v4 + (v1.f0.getD v7.toNat default))) else none) (f65_j5 rc v1 v2 v3 v4 v6 v7 v4) else none else none

noncomputable def f65F (rc : T68 → (List T62) → Int → Int → (List T37) → Option (List T37)) (v1 : T68) (v2 : List T62) (v3 : Int) (v4 : Int) (v5 : List T37) : Option (List T37) :=
 if (0 : Int) ≤ v3 ∧ v3 < (v2.length : Int) then cond (!(((v2.getD v3.toNat default).f5) == ([] : List UInt8))) (if (0 : Int) ≤ v3 ∧ v3 < (v2.length : Int) then if (v5.length + [T37.mk ((v2.getD v3.toNat default).f5) v4].length) * 24 ≤ 140737488355328 then f65_j6 rc v1 v2 v3 v4 (v5 ++ [T37.mk ((v2.getD v3.toNat default).f5) v4]) else none else none) (f65_j6 rc v1 v2 v3 v4 v5) else none

theorem f65F_ok (rc : T68 → (List T62) → Int → Int → (List T37) → Option (List T37)) (rc_ok : ∀ (v1 : T68) (v2 : List T62) (v3 : Int) (v4 : Int) (v5 : List T37) {r : (List T37)}, rc v1 v2 v3 v4 v5 = some r → ACall Try.prog 65 [.agg [fzL 1 (cInt .i64) v1.f0, fzL 1 (cInt .i64) v1.f1], .tv (fzL 6 c62 v2), .tv (.int .i64 v3), .tv (.int .i64 v4), .tv (ownL 2 38 c37 v5)] [] (.tv (ownL 2 38 c37 r)) []) (v1 : T68) (v2 : List T62) (v3 : Int) (v4 : Int) (v5 : List T37) {r : (List T37)} (h : f65F rc v1 v2 v3 v4 v5 = some r) : ACall Try.prog 65 [.agg [fzL 1 (cInt .i64) v1.f0, fzL 1 (cInt .i64) v1.f1], .tv (fzL 6 c62 v2), .tv (.int .i64 v3), .tv (.int .i64 v4), .tv (ownL 2 38 c37 v5)] [] (.tv (ownL 2 38 c37 r)) [] := by
 refine ACall.of1 (FF 111 0) Try.func65 rfl Try.ntmps65 Try.results65 (Nat.le_of_ble_eq_true rfl) rfl rfl ?_
 refine AWp.seq ?_
 refine AWp.start [0, 1] [] [] [1, 2, 3, 4, 5] 1 ⟨[(1, q0 v2), (2, tI v3), (3, tI v4), (4, q4 v5), (5, .pc 0 0)], [.cells 69 [k4 v1.f0, k4 v1.f1]]⟩ rfl ?_ z0 trivial ?_
 · kernel_rfl
 refine AOps.nil ?_
 refine AWp.join (V := (List T37)) (fun w => ⟨[(1, q0 v2), (2, tI v3), (3, tI v4), (4, q4 w), (5, .rp [k4 v1.f0, k4 v1.f1])], []⟩) (fun w => f65_j6 rc v1 v2 v3 v4 w = some r) ?_ ?_
 · refine AWp.seq ?_
   refine AWp.pin 0 rfl rfl ?_
   refine AWp.keepTo [1, 2, 3, 4, 5] 0 ⟨[(1, q0 v2), (2, tI v3), (3, tI v4), (4, q4 v5), (5, .rp [k4 v1.f0, k4 v1.f1])], []⟩ ?_ z0 ?_
   · kernel_rfl
   obtain ⟨hg, h⟩ := of_guard h
   refine AWp.start [0, 1, 2, 3, 4, 5] [] [(0 : Int) ≤ v3, v3 < (v2.length : Int)] [1, 2, 3, 4, 5, 21] 0 ⟨[(1, q0 v2), (2, tI v3), (3, tI v4), (4, q4 v5), (5, .rp [k4 v1.f0, k4 v1.f1]), (21, tB (!(((gD v2 v3).f5) == ([] : List UInt8))))], []⟩ rfl ?_ z0 ⟨hg.1, hg.2⟩ ?_
   · kernel_rfl
   refine AOps.nil ?_
   refine AWp.cond rfl (fun hb => ?_) fun hb => ?_
   · replace h := of_true h hb
     refine AWp.keepTo [1, 2, 3, 4, 5] 0 ⟨[(1, q0 v2), (2, tI v3), (3, tI v4), (4, q4 v5), (5, .rp [k4 v1.f0, k4 v1.f1])], []⟩ ?_ z0 ?_
     · kernel_rfl
     obtain ⟨hg, h⟩ := of_guard h
     refine AWp.start [0, 1, 2, 3, 4, 5, 6, 7, 8] [9, 10] [(0 : Int) ≤ v3, v3 < (v2.length : Int)] [1, 2, 3, 4, 5, 22, 30] 0 ⟨[(1, q0 v2), (2, tI v3), (3, tI v4), (4, q4 v5), (5, .rp [k4 v1.f0, k4 v1.f1]), (22, .al (.slot 4 0, [])), (30, .tv (.own 2 38 1 (newRowF [.str ((gD v2 v3).f5), .int .i64 v4] 2)))], []⟩ rfl ?_ z0 ⟨hg.1, hg.2⟩ ?_
     · kernel_rfl
     refine AOps.extL 30 c37 [T37.mk ((gD v2 v3).f5) v4] rfl rfl (row_at c37 2 (fun _ => rfl) [T37.mk ((gD v2 v3).f5) v4] _ rfl) ?_
     obtain ⟨hg, h⟩ := of_guard h
     refine AOps.go [9] [10] [(v5.length + [T37.mk ((gD v2 v3).f5) v4].length) * 24 ≤ 140737488355328, PlainTo v5.length (fun i => c37 (v5.getD i default)), PlainTo ([T37.mk ((gD v2 v3).f5) v4].length) (fun i => c37 ([T37.mk ((gD v2 v3).f5) v4].getD i default))] [1, 2, 3, 5, 31] 0 ⟨[(1, q0 v2), (2, tI v3), (3, tI v4), (5, .rp [k4 v1.f0, k4 v1.f1]), (31, .tv (.own 2 38 (v5.length + [T37.mk ((gD v2 v3).f5) v4].length) (appF v5.length (fun i => c37 (v5.getD i default)) (fun i => c37 ([T37.mk ((gD v2 v3).f5) v4].getD i default)))))], []⟩ ?_ z0 ⟨hg, (fun _ _ => rfl), (fun _ _ => rfl)⟩ ?_
     · kernel_rfl
     refine AOps.extL 31 c37 (v5 ++ [T37.mk ((gD v2 v3).f5) v4]) rfl List.length_append.symm (app_at c37 v5 [T37.mk ((gD v2 v3).f5) v4]) ?_
     refine AOps.go [10] [] [] [1, 2, 3, 4, 5] 0 ⟨[(1, q0 v2), (2, tI v3), (3, tI v4), (4, q4 (v5 ++ [T37.mk ((gD v2 v3).f5) v4])), (5, .rp [k4 v1.f0, k4 v1.f1])], []⟩ ?_ z0 trivial ?_
     · kernel_rfl
     refine AOps.nil ?_
     exact ⟨v5 ++ [T37.mk ((gD v2 v3).f5) v4], h, rfl⟩
   · replace h := of_false h hb
     refine AWp.keepTo [1, 2, 3, 4, 5] 0 ⟨[(1, q0 v2), (2, tI v3), (3, tI v4), (4, q4 v5), (5, .rp [k4 v1.f0, k4 v1.f1])], []⟩ ?_ z0 ?_
     · kernel_rfl
     refine AWp.skip ?_
     exact ⟨v5, h, rfl⟩
 · rintro v6 h
   refine AWp.seq ?_
   obtain ⟨hg, h⟩ := of_guard h
   refine AWp.start [0, 1, 2, 3, 4, 5, 6] [7, 8] [(0 : Int) ≤ v3, v3 < (v2.length : Int)] [1, 2, 3, 4, 5, 32, 33, 38] 0 ⟨[(1, q0 v2), (2, tI v3), (3, tI v4), (4, q4 v6), (5, .rp [k4 v1.f0, k4 v1.f1]), (32, q0 v2), (33, tI v3), (38, tS ((gD v2 v3).f1))], []⟩ rfl ?_ z0 ⟨hg.1, hg.2⟩ ?_
   · kernel_rfl
   obtain ⟨v7, hv7, h⟩ := of_bind h
   refine AOps.cons (AOne.callP (F := (FF 111 0)) _ rfl rfl rfl _ rfl rfl _ _ rfl Try.call49 [q0 v2, tI v3, tS ((gD v2 v3).f1)] rfl rfl (f49_ok v2 v3 ((gD v2 v3).f1) hv7) rfl) ?_
   refine AOps.go [8] [] [] [1, 2, 3, 4, 5, 11] 0 ⟨[(1, q0 v2), (2, tI v3), (3, tI v4), (4, q4 v6), (5, .rp [k4 v1.f0, k4 v1.f1]), (11, tI v7)], []⟩ ?_ z0 trivial ?_
   · kernel_rfl
   refine AOps.nil ?_
   refine AWp.seq ?_
   refine AWp.start [0, 1] [] [] [1, 2, 3, 4, 5, 11, 12] 0 ⟨[(1, q0 v2), (2, tI v3), (3, tI v4), (4, q4 v6), (5, .rp [k4 v1.f0, k4 v1.f1]), (11, tI v7), (12, tI v4)], []⟩ rfl ?_ z0 trivial ?_
   · kernel_rfl
   refine AOps.nil ?_
   refine AWp.join (V := Int) (fun w => ⟨[(1, q0 v2), (2, tI v3), (3, tI v4), (4, q4 v6), (5, .rp [k4 v1.f0, k4 v1.f1]), (11, tI v7), (12, tI w)], []⟩) (fun w => f65_j5 rc v1 v2 v3 v4 v6 v7 w = some r) ?_ ?_
   · refine AWp.seq ?_
     obtain ⟨hg, h⟩ := of_guard h
     refine AWp.start [0, 1, 2, 3, 4, 5] [] [(0 : Int) ≤ v3, v3 < (v2.length : Int)] [1, 2, 3, 4, 5, 11, 12, 46] 0 ⟨[(1, q0 v2), (2, tI v3), (3, tI v4), (4, q4 v6), (5, .rp [k4 v1.f0, k4 v1.f1]), (11, tI v7), (12, tI v4), (46, tB (!(((gD v2 v3).f1) == ([] : List UInt8))))], []⟩ rfl ?_ z0 ⟨hg.1, hg.2⟩ ?_
     · kernel_rfl
     refine AOps.nil ?_
     refine AWp.cond rfl (fun hb => ?_) fun hb => ?_
     · replace h := of_true h hb
       refine AWp.keepTo [1, 2, 3, 4, 5, 11, 12] 0 ⟨[(1, q0 v2), (2, tI v3), (3, tI v4), (4, q4 v6), (5, .rp [k4 v1.f0, k4 v1.f1]), (11, tI v7), (12, tI v4)], []⟩ ?_ z0 ?_
       · kernel_rfl
       obtain ⟨hg, h⟩ := of_guard h
       refine AWp.start [0, 1, 2, 3, 4, 5, 6, 7] [] [(0 : Int) ≤ v7, v7 < (v1.f0.length : Int)] [1, 2, 3, 4, 5, 11, 12] 0 ⟨[(1, q0 v2), (2, tI v3), (3, tI v4), (4, q4 v6), (5, .rp [k4 v1.f0, k4 v1.f1]), (11, tI v7), (12, tI (w64 (v4 + (gD v1.f0 v7))))], []⟩ rfl ?_ z0 ⟨hg.1, hg.2⟩ ?_
       · kernel_rfl
       refine AOps.nil ?_
       exact ⟨w64 (v4 + (gD v1.f0 v7)), h, rfl⟩
     · replace h := of_false h hb
       refine AWp.keepTo [1, 2, 3, 4, 5, 11, 12] 0 ⟨[(1, q0 v2), (2, tI v3), (3, tI v4), (4, q4 v6), (5, .rp [k4 v1.f0, k4 v1.f1]), (11, tI v7), (12, tI v4)], []⟩ ?_ z0 ?_
       · kernel_rfl
       refine AWp.skip ?_
       exact ⟨v4, h, rfl⟩
   · rintro v8 h
     refine AWp.seq ?_
     refine AWp.seq ?_
     refine AWp.start [0] [] [] [1, 2, 3, 4, 5, 11, 12, 13] 0 ⟨[(1, q0 v2), (2, tI v3), (3, tI v4), (4, q4 v6), (5, .rp [k4 v1.f0, k4 v1.f1]), (11, tI v7), (12, tI v8), (13, tI (0 : Int))], []⟩ rfl ?_ z0 trivial ?_
     · kernel_rfl
     refine AOps.nil ?_
     refine AWp.block ?_
     obtain ⟨y, hy, h⟩ := of_bind h
     refine AWp.mono (AWp.loop (S := (List T37) × Int × Int) (Y := Out (List T37) (List T37)) (fun s => ⟨[(1, q0 v2), (2, tI v3), (3, tI v4), (4, q4 s.1), (5, .rp [k4 v1.f0, k4 v1.f1]), (11, tI v7), (12, tI s.2.1), (13, tI s.2.2)], []⟩) (fun s => f65_b3 rc v1 v2 v3 s.1 s.2.1 s.2.2) (fun y e σ => match y with | .ret r => e = .ret ∧ σ = ⟨[(10, q4 r)], []⟩ | .go v => e = .exit 0 ∧ σ = ⟨[(1, q0 v2), (2, tI v3), (3, tI v4), (4, q4 v), (5, .rp [k4 v1.f0, k4 v1.f1]), (11, tI v7)], []⟩) ?_ hy) ?_
     · rintro ⟨v9, v10, v11⟩ o h
       refine AWp.seq ?_
       refine AWp.seq ?_
       obtain ⟨hg, h⟩ := of_guard h
       refine AWp.start [0, 1, 2, 3, 4, 5, 6, 7] [] [(0 : Int) ≤ v3, v3 < (v2.length : Int)] [1, 2, 3, 4, 5, 11, 12, 13, 61] 0 ⟨[(1, q0 v2), (2, tI v3), (3, tI v4), (4, q4 v9), (5, .rp [k4 v1.f0, k4 v1.f1]), (11, tI v7), (12, tI v10), (13, tI v11), (61, tB (decide (v11 < (((gD v2 v3).f3).length : Int))))], []⟩ rfl ?_ z0 ⟨hg.1, hg.2⟩ ?_
       · kernel_rfl
       refine AOps.nil ?_
       refine AWp.cond rfl (fun hb => ?_) fun hb => ?_
       · replace h := of_true h hb
         refine AWp.keepTo [1, 2, 3, 4, 5, 11, 12, 13] 0 ⟨[(1, q0 v2), (2, tI v3), (3, tI v4), (4, q4 v9), (5, .rp [k4 v1.f0, k4 v1.f1]), (11, tI v7), (12, tI v10), (13, tI v11)], []⟩ ?_ z0 ?_
         · kernel_rfl
         refine AWp.skip ?_
         refine AWp.seq ?_
         refine AWp.block ?_
         refine AWp.seq ?_
         obtain ⟨hg, h⟩ := of_guard h
         refine AWp.start [0, 1, 2, 3, 4, 5, 6, 7, 8, 9] [] [(0 : Int) ≤ v3, v3 < (v2.length : Int), (0 : Int) ≤ v11, v11 < (((gD v2 v3).f3).length : Int)] [1, 2, 3, 4, 5, 11, 12, 13, 14] 1 ⟨[(1, q0 v2), (2, tI v3), (3, tI v4), (4, q4 v9), (5, .rp [k4 v1.f0, k4 v1.f1]), (11, tI v7), (12, tI v10), (13, tI v11), (14, .pc 0 0)], [.cells 36 (c35 (gD ((gD v2 v3).f3) v11))]⟩ rfl ?_ z0 ⟨hg.1, hg.2.1, hg.2.2.1, hg.2.2.2⟩ ?_
         · kernel_rfl
         refine AOps.nil ?_
         refine AWp.seq ?_
         refine AWp.pin 0 rfl rfl ?_
         refine AWp.keepTo [1, 2, 3, 4, 5, 11, 12, 13, 14] 0 ⟨[(1, q0 v2), (2, tI v3), (3, tI v4), (4, q4 v9), (5, .rp [k4 v1.f0, k4 v1.f1]), (11, tI v7), (12, tI v10), (13, tI v11), (14, .rp (c35 (gD ((gD v2 v3).f3) v11)))], []⟩ ?_ z0 ?_
         · kernel_rfl
         refine AWp.start [0] [] [] [1, 2, 3, 4, 5, 11, 12, 13, 14, 15] 0 ⟨[(1, q0 v2), (2, tI v3), (3, tI v4), (4, q4 v9), (5, .rp [k4 v1.f0, k4 v1.f1]), (11, tI v7), (12, tI v10), (13, tI v11), (14, .rp (c35 (gD ((gD v2 v3).f3) v11))), (15, tI (0 : Int))], []⟩ rfl ?_ z0 trivial ?_
         · kernel_rfl
         refine AOps.nil ?_
         refine AWp.block ?_
         obtain ⟨y, hy, h⟩ := of_bind h
         refine AWp.mono (AWp.loop (S := (List T37) × Int × Int) (Y := Out (List T37) ((List T37) × Int)) (fun s => ⟨[(1, q0 v2), (2, tI v3), (3, tI v4), (4, q4 s.1), (5, .rp [k4 v1.f0, k4 v1.f1]), (11, tI v7), (12, tI s.2.1), (13, tI v11), (14, .rp (c35 (gD ((gD v2 v3).f3) v11))), (15, tI s.2.2)], []⟩) (fun s => f65_b2 rc v1 v2 v3 v11 s.1 s.2.1 s.2.2) (fun y e σ => match y with | .ret r => e = .ret ∧ σ = ⟨[(10, q4 r)], []⟩ | .go v => e = .exit 2 ∧ σ = ⟨[(1, q0 v2), (2, tI v3), (3, tI v4), (4, q4 v.1), (5, .rp [k4 v1.f0, k4 v1.f1]), (11, tI v7), (12, tI v.2), (13, tI v11)], []⟩) ?_ hy) ?_
         · rintro ⟨v13, v14, v15⟩ o h
           refine AWp.seq ?_
           refine AWp.seq ?_
           refine AWp.start [0, 1, 2, 3, 4] [] [] [1, 2, 3, 4, 5, 11, 12, 13, 14, 15, 76] 0 ⟨[(1, q0 v2), (2, tI v3), (3, tI v4), (4, q4 v13), (5, .rp [k4 v1.f0, k4 v1.f1]), (11, tI v7), (12, tI v14), (13, tI v11), (14, .rp (c35 (gD ((gD v2 v3).f3) v11))), (15, tI v15), (76, tB (decide (v15 < (if (1 : Int) > (gD ((gD v2 v3).f3) v11).f2 then (1 : Int) else (gD ((gD v2 v3).f3) v11).f2))))], []⟩ rfl ?_ z0 trivial ?_
           · kernel_rfl
           refine AOps.nil ?_
           refine AWp.cond rfl (fun hb => ?_) fun hb => ?_
           · replace h := of_true h hb
             refine AWp.keepTo [1, 2, 3, 4, 5, 11, 12, 13, 14, 15] 0 ⟨[(1, q0 v2), (2, tI v3), (3, tI v4), (4, q4 v13), (5, .rp [k4 v1.f0, k4 v1.f1]), (11, tI v7), (12, tI v14), (13, tI v11), (14, .rp (c35 (gD ((gD v2 v3).f3) v11))), (15, tI v15)], []⟩ ?_ z0 ?_
             · kernel_rfl
             refine AWp.skip ?_
             refine AWp.seq ?_
             refine AWp.block ?_
             refine AWp.join (V := (List T37)) (fun w => ⟨[(1, q0 v2), (2, tI v3), (3, tI v4), (4, q4 w), (5, .rp [k4 v1.f0, k4 v1.f1]), (11, tI v7), (12, tI v14), (13, tI v11), (14, .rp (c35 (gD ((gD v2 v3).f3) v11))), (15, tI v15)], []⟩) (fun w => f65_j1 rc v1 v2 v3 v11 v14 v15 w = some o) ?_ ?_
             · refine AWp.seq ?_
               refine AWp.start [0, 1, 2] [] [] [1, 2, 3, 4, 5, 11, 12, 13, 14, 15, 81] 0 ⟨[(1, q0 v2), (2, tI v3), (3, tI v4), (4, q4 v13), (5, .rp [k4 v1.f0, k4 v1.f1]), (11, tI v7), (12, tI v14), (13, tI v11), (14, .rp (c35 (gD ((gD v2 v3).f3) v11))), (15, tI v15), (81, tB (!(((gD ((gD v2 v3).f3) v11).f1) == ([] : List UInt8))))], []⟩ rfl ?_ z0 trivial ?_
               · kernel_rfl
               refine AOps.nil ?_
               refine AWp.cond rfl (fun hb => ?_) fun hb => ?_
               · replace h := of_true h hb
                 refine AWp.keepTo [1, 2, 3, 4, 5, 11, 12, 13, 14, 15] 0 ⟨[(1, q0 v2), (2, tI v3), (3, tI v4), (4, q4 v13), (5, .rp [k4 v1.f0, k4 v1.f1]), (11, tI v7), (12, tI v14), (13, tI v11), (14, .rp (c35 (gD ((gD v2 v3).f3) v11))), (15, tI v15)], []⟩ ?_ z0 ?_
                 · kernel_rfl
                 refine AWp.draw FFm _ (n := 11) rfl (ls := #[n1, n1, n1, n1, n1, n1, n1, n1, n1, n1, n1]) rfl ?_ (fun _ h => h)
                 refine AAny.go (by kernel_rfl) [0, 1, 2, 3, 4, 5, 7, 8] (fuel' := 3) rfl [] #[y1, y1, y1, y1, y1, y1, n1, y1, y1, n1, n1] [1, 2, 3, 4, 5, 11, 12, 13, 14, 15, 82, 83, 84, 85, 87, 89, 90] 0 ⟨[(1, q0 v2), (2, tI v3), (3, tI v4), (4, q4 v13), (5, .rp [k4 v1.f0, k4 v1.f1]), (11, tI v7), (12, tI v14), (13, tI v11), (14, .rp (c35 (gD ((gD v2 v3).f3) v11))), (15, tI v15), (82, .agg [k4 v1.f0, k4 v1.f1]), (83, q0 v2), (84, q0 v2), (85, tI v3), (87, tS ((gD ((gD v2 v3).f3) v11).f1)), (89, tI v14), (90, .al (.slot 4 0, []))], []⟩ ?_ z0 trivial ?_
                 · kernel_rfl
                 obtain ⟨v20, hv20, h⟩ := of_bind h
                 refine AAny.serial (i := 6) (fuel := 2) (by kernel_rfl) (AOne.callP (F := (FF 111 0)) _ rfl rfl rfl _ rfl rfl _ _ rfl Try.call49 [q0 v2, tI v3, tS ((gD ((gD v2 v3).f3) v11).f1)] rfl rfl (f49_ok v2 v3 ((gD ((gD v2 v3).f3) v11).f1) hv20) rfl) ?_
                 refine AAny.keepTo [1, 2, 3, 4, 5, 11, 12, 13, 14, 15, 82, 83, 88, 89, 90] 0 ⟨[(1, q0 v2), (2, tI v3), (3, tI v4), (4, q4 v13), (5, .rp [k4 v1.f0, k4 v1.f1]), (11, tI v7), (12, tI v14), (13, tI v11), (14, .rp (c35 (gD ((gD v2 v3).f3) v11))), (15, tI v15), (82, .agg [k4 v1.f0, k4 v1.f1]), (83, q0 v2), (88, tI v20), (89, tI v14), (90, .al (.slot 4 0, []))], []⟩ #[y1, y1, y1, y1, y1, y1, y1, y1, y1, n1, n1] ?_ rfl z0 ?_
                 · kernel_rfl
                 obtain ⟨v21, hv21, h⟩ := of_bind h
                 refine AAny.claim 90 (.slot 4 0) (k5 v13) rfl rfl rfl rfl ?_
                 refine AAny.serial (i := 9) (fuel := 1) (by kernel_rfl) (AOne.callG (F := (FF 111 0)) _ rfl rfl rfl 91 rfl rfl 65 [] rfl Try.call65 90 4 (k5 v13) rfl rfl [.agg [k4 v1.f0, k4 v1.f1], q0 v2, tI v20, tI v14, q4 v13] rfl (by kernel_rfl) [1, 2, 3, 5, 11, 12, 13, 14, 15, 82, 83, 88, 89] 0 rfl z0 (rc_ok v1 v2 v20 v14 v13 hv21) rfl) ?_
                 refine AAny.keepTo [1, 2, 3, 5, 11, 12, 13, 14, 15, 91] 0 ⟨[(1, q0 v2), (2, tI v3), (3, tI v4), (5, .rp [k4 v1.f0, k4 v1.f1]), (11, tI v7), (12, tI v14), (13, tI v11), (14, .rp (c35 (gD ((gD v2 v3).f3) v11))), (15, tI v15), (91, q4 v21)], []⟩ #[y1, y1, y1, y1, y1, y1, y1, y1, y1, y1, n1] ?_ rfl z0 ?_
                 · kernel_rfl
                 refine AAny.step (i := 10) (fuel' := 0) rfl (by kernel_rfl) [] #[y1, y1, y1, y1, y1, y1, y1, y1, y1, y1, y1] rfl [1, 2, 3, 4, 5, 11, 12, 13, 14, 15] 0 ⟨[(1, q0 v2), (2, tI v3), (3, tI v4), (4, q4 v21), (5, .rp [k4 v1.f0, k4 v1.f1]), (11, tI v7), (12, tI v14), (13, tI v11), (14, .rp (c35 (gD ((gD v2 v3).f3) v11))), (15, tI v15)], []⟩ ?_ z0 trivial ?_
                 · kernel_rfl
                 refine AAny.keepTo [1, 2, 3, 4, 5, 11, 12, 13, 14, 15] 0 ⟨[(1, q0 v2), (2, tI v3), (3, tI v4), (4, q4 v21), (5, .rp [k4 v1.f0, k4 v1.f1]), (11, tI v7), (12, tI v14), (13, tI v11), (14, .rp (c35 (gD ((gD v2 v3).f3) v11))), (15, tI v15)], []⟩ _ ?_ rfl z0 (AAny.done (by kernel_rfl) ?_)
                 · kernel_rfl
                 exact ⟨v21, h, rfl⟩
               · replace h := of_false h hb
                 refine AWp.keepTo [1, 2, 3, 4, 5, 11, 12, 13, 14, 15] 0 ⟨[(1, q0 v2), (2, tI v3), (3, tI v4), (4, q4 v13), (5, .rp [k4 v1.f0, k4 v1.f1]), (11, tI v7), (12, tI v14), (13, tI v11), (14, .rp (c35 (gD ((gD v2 v3).f3) v11))), (15, tI v15)], []⟩ ?_ z0 ?_
                 · kernel_rfl
                 refine AWp.skip ?_
                 exact ⟨v13, h, rfl⟩
             · rintro v18 h
               refine AWp.start [0, 1, 2, 3] [4, 5, 6] [] [1, 2, 3, 4, 5, 11, 13, 14, 15, 92, 93, 94, 95] 0 ⟨[(1, q0 v2), (2, tI v3), (3, tI v4), (4, q4 v18), (5, .rp [k4 v1.f0, k4 v1.f1]), (11, tI v7), (13, tI v11), (14, .rp (c35 (gD ((gD v2 v3).f3) v11))), (15, tI v15), (92, tI v14), (93, .agg [k4 v1.f0, k4 v1.f1]), (94, q0 v2), (95, .agg (c35 (gD ((gD v2 v3).f3) v11)))], []⟩ rfl ?_ z0 trivial ?_
               · kernel_rfl
               obtain ⟨v19, hv19, h⟩ := of_bind h
               refine AOps.cons (AOne.callP (F := (FF 111 0)) _ rfl rfl rfl _ rfl rfl _ _ rfl Try.call52 [.agg [k4 v1.f0, k4 v1.f1], q0 v2, .agg (c35 (gD ((gD v2 v3).f3) v11))] rfl rfl (f52_ok v1 v2 (gD ((gD v2 v3).f3) v11) hv19) rfl) ?_
               refine AOps.go [5, 6] [] [] [1, 2, 3, 4, 5, 11, 12, 13, 14, 15] 0 ⟨[(1, q0 v2), (2, tI v3), (3, tI v4), (4, q4 v18), (5, .rp [k4 v1.f0, k4 v1.f1]), (11, tI v7), (12, tI (w64 (v14 + v19))), (13, tI v11), (14, .rp (c35 (gD ((gD v2 v3).f3) v11))), (15, tI v15)], []⟩ ?_ z0 trivial ?_
               · kernel_rfl
               refine AOps.nil ?_
               refine AWp.start [0, 1, 2] [] [] [1, 2, 3, 4, 5, 11, 12, 13, 14, 15] 0 ⟨[(1, q0 v2), (2, tI v3), (3, tI v4), (4, q4 v18), (5, .rp [k4 v1.f0, k4 v1.f1]), (11, tI v7), (12, tI (w64 (v14 + v19))), (13, tI v11), (14, .rp (c35 (gD ((gD v2 v3).f3) v11))), (15, tI (w64 (v15 + (1 : Int))))], []⟩ rfl ?_ z0 trivial ?_
               · kernel_rfl
               refine AOps.nil ?_
               cases h
               exact Or.inl ⟨_, rfl, rfl, rfl⟩
           · replace h := of_false h hb
             refine AWp.keepTo [1, 2, 3, 4, 5, 11, 12, 13] 0 ⟨[(1, q0 v2), (2, tI v3), (3, tI v4), (4, q4 v13), (5, .rp [k4 v1.f0, k4 v1.f1]), (11, tI v7), (12, tI v14), (13, tI v11)], []⟩ ?_ z0 ?_
             · kernel_rfl
             refine AWp.exit ?_
             cases h
             exact Or.inr ⟨_, rfl, by simp, rfl, rfl⟩
         · intro e σ hp
           rcases y with v22 | ⟨v16, v17⟩
           · obtain ⟨rfl, rfl⟩ := hp
             cases h
             exact Or.inr ⟨_, rfl, by simp, rfl, rfl⟩
           · obtain ⟨rfl, rfl⟩ := hp
             refine AWp.start [0, 1, 2] [] [] [1, 2, 3, 4, 5, 11, 12, 13] 0 ⟨[(1, q0 v2), (2, tI v3), (3, tI v4), (4, q4 v16), (5, .rp [k4 v1.f0, k4 v1.f1]), (11, tI v7), (12, tI v17), (13, tI (w64 (v11 + (1 : Int))))], []⟩ rfl ?_ z0 trivial ?_
             · kernel_rfl
             refine AOps.nil ?_
             cases h
             exact Or.inl ⟨_, rfl, rfl, rfl⟩
       · replace h := of_false h hb
         refine AWp.keepTo [1, 2, 3, 4, 5, 11] 0 ⟨[(1, q0 v2), (2, tI v3), (3, tI v4), (4, q4 v9), (5, .rp [k4 v1.f0, k4 v1.f1]), (11, tI v7)], []⟩ ?_ z0 ?_
         · kernel_rfl
         refine AWp.exit ?_
         cases h
         exact Or.inr ⟨_, rfl, by simp, rfl, rfl⟩
     · intro e σ hp
       rcases y with v23 | v12
       · obtain ⟨rfl, rfl⟩ := hp
         cases h
         exact ⟨.inr rfl, rfl⟩
       · obtain ⟨rfl, rfl⟩ := hp
         refine AWp.join (V := (List T37)) (fun w => ⟨[(4, q4 w)], []⟩) (fun w => f65_j4 rc  w = some r) ?_ ?_
         · refine AWp.seq ?_
           obtain ⟨hg, h⟩ := of_guard h
           refine AWp.start [0, 1, 2, 3, 4, 5] [] [(0 : Int) ≤ v3, v3 < (v2.length : Int)] [1, 3, 4, 5, 11, 103] 0 ⟨[(1, q0 v2), (3, tI v4), (4, q4 v12), (5, .rp [k4 v1.f0, k4 v1.f1]), (11, tI v7), (103, tB (!(((gD v2 v3).f1) == ([] : List UInt8))))], []⟩ rfl ?_ z0 ⟨hg.1, hg.2⟩ ?_
           · kernel_rfl
           refine AOps.nil ?_
           refine AWp.cond rfl (fun hb => ?_) fun hb => ?_
           · replace h := of_true h hb
             refine AWp.keepTo [1, 3, 4, 5, 11] 0 ⟨[(1, q0 v2), (3, tI v4), (4, q4 v12), (5, .rp [k4 v1.f0, k4 v1.f1]), (11, tI v7)], []⟩ ?_ z0 ?_
             · kernel_rfl
             refine AWp.start [0, 1, 2, 3, 4] [5, 6] [] [4, 104, 105, 106, 107, 108] 0 ⟨[(4, q4 v12), (104, .agg [k4 v1.f0, k4 v1.f1]), (105, q0 v2), (106, tI v7), (107, tI v4), (108, .al (.slot 4 0, []))], []⟩ rfl ?_ z0 trivial ?_
             · kernel_rfl
             obtain ⟨v25, hv25, h⟩ := of_bind h
             refine AOps.claim 108 (.slot 4 0) (k5 v12) rfl rfl rfl rfl ?_
             refine AOps.cons (AOne.callG (F := (FF 111 0)) _ rfl rfl rfl 109 rfl rfl 65 [] rfl Try.call65 108 4 (k5 v12) rfl rfl [.agg [k4 v1.f0, k4 v1.f1], q0 v2, tI v7, tI v4, q4 v12] rfl (by kernel_rfl) [] 0 rfl z0 (rc_ok v1 v2 v7 v4 v12 hv25) rfl) ?_
             refine AOps.go [6] [] [] [4] 0 ⟨[(4, q4 v25)], []⟩ ?_ z0 trivial ?_
             · kernel_rfl
             refine AOps.nil ?_
             exact ⟨v25, h, rfl⟩
           · replace h := of_false h hb
             refine AWp.keepTo [4] 0 ⟨[(4, q4 v12)], []⟩ ?_ z0 ?_
             · kernel_rfl
             refine AWp.skip ?_
             exact ⟨v12, h, rfl⟩
         · rintro v24 h
           refine AWp.seq ?_
           refine AWp.start [0, 1] [] [] [4, 10] 0 ⟨[(4, q4 v24), (10, .al (.slot 4 0, []))], []⟩ rfl ?_ z0 trivial ?_
           · kernel_rfl
           refine AOps.nil ?_
           refine AWp.claim 10 (.slot 4 0) (k5 v24) rfl rfl rfl rfl ?_
           refine AWp.keepTo [10] 0 ⟨[(10, q4 v24)], []⟩ ?_ z0 ?_
           · kernel_rfl
           refine AWp.ret ?_
           cases h
           exact ⟨.inr rfl, rfl⟩

noncomputable def f65R : Nat → T68 → (List T62) → Int → Int → (List T37) → Option (List T37)
 | 0 => fun _ _ _ _ _ => none
 | n + 1 => f65F (f65R n)

theorem f65R_ok : ∀ (n : Nat) (v1 : T68) (v2 : List T62) (v3 : Int) (v4 : Int) (v5 : List T37) {r : (List T37)}, f65R n v1 v2 v3 v4 v5 = some r → ACall Try.prog 65 [.agg [fzL 1 (cInt .i64) v1.f0, fzL 1 (cInt .i64) v1.f1], .tv (fzL 6 c62 v2), .tv (.int .i64 v3), .tv (.int .i64 v4), .tv (ownL 2 38 c37 v5)] [] (.tv (ownL 2 38 c37 r)) []
 | 0, _, _, _, _, _, _, h => by cases h
 | n + 1, v1, v2, v3, v4, v5, _, h => f65F_ok (f65R n) (f65R_ok n) v1 v2 v3 v4 v5 h

noncomputable def f65 (v1 : T68) (v2 : List T62) (v3 : Int) (v4 : Int) (v5 : List T37) : Option (List T37) := f65R 100 v1 v2 v3 v4 v5

theorem f65_ok (v1 : T68) (v2 : List T62) (v3 : Int) (v4 : Int) (v5 : List T37) {r : (List T37)} (h : f65 v1 v2 v3 v4 v5 = some r) : ACall Try.prog 65 [.agg [fzL 1 (cInt .i64) v1.f0, fzL 1 (cInt .i64) v1.f1], .tv (fzL 6 c62 v2), .tv (.int .i64 v3), .tv (.int .i64 v4), .tv (ownL 2 38 c37 v5)] [] (.tv (ownL 2 38 c37 r)) [] := f65R_ok 100 v1 v2 v3 v4 v5 h

noncomputable def f35 (v1 : List T62) (v2 : List UInt8) : Option ((List T37) × Int) :=
 (f48 v1 v2).bind fun v3 => cond (v3.2 != (0 : Int)) (some (([] : List T37), v3.2)) ((f42 v1 (v1.length : Int)).bind fun v4 => (f65 v4 v1 v3.1 (0 : Int) ([] : List T37)).bind fun v5 => some (v5, (0 : Int)))

theorem f35_ok (v1 : List T62) (v2 : List UInt8) {r : (List T37) × Int} (h : f35 v1 v2 = some r) : ACall Try.prog 35 [.tv (fzL 6 c62 v1), .tv (.str v2)] [] (.tup [.tv (fzL 2 c37 r.1), .tv (.int .i64 r.2)]) [] := by
 refine ACall.ofN (FF 24 0) (rs := [4, 5]) (env := [(4, q6 r.1), (5, tI r.2)]) Try.func35 rfl Try.ntmps35 Try.results35 (by decide) (by decide) rfl (Nat.le_of_ble_eq_true rfl) rfl (get_ofN _ _ _ rfl) (ok_ofN _ rfl) ?_
 refine AWp.seq ?_
 refine AWp.start [0, 1] [] [] [0, 1] 0 ⟨[(0, q0 v1), (1, tS v2)], []⟩ rfl ?_ z0 trivial ?_
 · kernel_rfl
 refine AOps.nil ?_
 refine AWp.seq ?_
 refine AWp.start [0, 1] [2, 3, 4, 5, 6, 7] [] [0, 9, 10] 0 ⟨[(0, q0 v1), (9, q0 v1), (10, tS v2)], []⟩ rfl ?_ z0 trivial ?_
 · kernel_rfl
 obtain ⟨v3, hv3, h⟩ := of_bind h
 refine AOps.cons (AOne.callP (F := (FF 24 0)) _ rfl rfl rfl _ rfl rfl _ _ rfl Try.call48 [q0 v1, tS v2] rfl rfl (f48_ok v1 v2 hv3) rfl) ?_
 refine AOps.go [3, 4, 5, 6, 7] [] [] [0, 6, 7] 0 ⟨[(0, q0 v1), (6, tI v3.1), (7, tI v3.2)], []⟩ ?_ z0 trivial ?_
 · kernel_rfl
 refine AOps.nil ?_
 refine AWp.seq ?_
 refine AWp.seq ?_
 refine AWp.start [0, 1] [] [] [0, 6, 7, 15] 0 ⟨[(0, q0 v1), (6, tI v3.1), (7, tI v3.2), (15, tB (v3.2 != (0 : Int)))], []⟩ rfl ?_ z0 trivial ?_
 · kernel_rfl
 refine AOps.nil ?_
 refine AWp.cond rfl (fun hb => ?_) fun hb => ?_
 · replace h := of_true h hb
   refine AWp.keepTo [7] 0 ⟨[(7, tI v3.2)], []⟩ ?_ z0 ?_
   · kernel_rfl
   refine AWp.seq ?_
   refine AWp.start [0, 1, 2] [] [] [4, 5] 0 ⟨[(4, .tv (.sc (.slice none 0 0))), (5, tI v3.2)], []⟩ rfl ?_ z0 trivial ?_
   · kernel_rfl
   refine AOps.nil ?_
   refine AWp.nilFz 4 2 (fun i => c37 (([] : List T37).getD i default)) rfl ?_
   refine AWp.keepTo [4, 5] 0 ⟨[(4, q6 ([] : List T37)), (5, tI v3.2)], []⟩ ?_ z0 ?_
   · kernel_rfl
   refine AWp.ret ?_
   cases h
   exact ⟨.inr rfl, rfl⟩
 · replace h := of_false h hb
   refine AWp.keepTo [0, 6] 0 ⟨[(0, q0 v1), (6, tI v3.1)], []⟩ ?_ z0 ?_
   · kernel_rfl
   refine AWp.skip ?_
   refine AWp.seq ?_
   refine AWp.start [0, 1, 2] [3, 4, 5, 6, 7, 8] [] [0, 6, 17, 19] 0 ⟨[(0, q0 v1), (6, tI v3.1), (17, q0 v1), (19, tI (v1.length : Int))], []⟩ rfl ?_ z0 trivial ?_
   · kernel_rfl
   obtain ⟨v4, hv4, h⟩ := of_bind h
   refine AOps.cons (AOne.callP (F := (FF 24 0)) _ rfl rfl rfl _ rfl rfl _ _ rfl Try.call42 [q0 v1, tI (v1.length : Int)] rfl rfl (f42_ok v1 (v1.length : Int) hv4) rfl) ?_
   refine AOps.go [4, 5] [6, 7, 8] [] [20, 21, 22] 0 ⟨[(20, .agg [k4 v4.f0, k4 v4.f1]), (21, q0 v1), (22, tI v3.1)], []⟩ ?_ z0 trivial ?_
   · kernel_rfl
   obtain ⟨v5, hv5, h⟩ := of_bind h
   refine AOps.cons (AOne.callP (F := (FF 24 0)) _ rfl rfl rfl _ rfl rfl _ _ rfl Try.call65 [.agg [k4 v4.f0, k4 v4.f1], q0 v1, tI v3.1, tI (0 : Int), .tv (.sc (.slice none 0 0))] rfl rfl (ACall.ownNil (.keep rfl (.keep rfl (.keep rfl (.keep rfl (.nil .done))))) (f65_ok v4 v1 v3.1 (0 : Int) ([] : List T37) hv5)) rfl) ?_
   refine AOps.go [7, 8] [] [] [4, 5] 0 ⟨[(4, q4 v5), (5, tI (0 : Int))], []⟩ ?_ z0 trivial ?_
   · kernel_rfl
   refine AOps.nil ?_
   refine AWp.freezeL 4 c37 v5 rfl (fun _ => rfl) ?_
   refine AWp.keepTo [4, 5] 0 ⟨[(4, q6 v5), (5, tI (0 : Int))], []⟩ ?_ z0 ?_
   · kernel_rfl
   refine AWp.ret ?_
   cases h
   exact ⟨.inr rfl, rfl⟩

noncomputable def f36_b1 (v1 : List T37) (v2 : List T37) (v3 : Int) : Option (Int ⊕ Out Bool Unit) :=
 cond (decide (v3 < (v1.length : Int))) (if (0 : Int) ≤ v3 ∧ v3 < (v1.length : Int) ∧ (0 : Int) ≤ v3 ∧ v3 < (v2.length : Int) then cond (!((((v1.getD v3.toNat default).f0) == ((v2.getD v3.toNat default).f0)) && (((v1.getD v3.toNat default).f1) == ((v2.getD v3.toNat default).f1)))) (some (.inr (.ret false))) (some (.inl (w64 (v3 + (1 : Int))))) else none) (some (.inr (.go ())))

noncomputable def f36 (v1 : List T37) (v2 : List T37) : Option Bool :=
 cond ((v1.length : Int) != (v2.length : Int)) (some false) ((iter (fun s => f36_b1 v1 v2 s) (0 : Int)).bind fun y => match y with | .ret v4 => some v4 | .go _ => some true)

theorem f36_ok (v1 : List T37) (v2 : List T37) {r : Bool} (h : f36 v1 v2 = some r) : ACall Try.prog 36 [.tv (fzL 2 c37 v1), .tv (fzL 2 c37 v2)] [] (.tv (.bool r)) [] := by
 refine ACall.of1 (FF 26 0) Try.func36 rfl Try.ntmps36 Try.results36 (Nat.le_of_ble_eq_true rfl) rfl rfl ?_
 refine AWp.seq ?_
 refine AWp.start [0] [] [] [0, 1] 0 ⟨[(0, q6 v1), (1, q6 v2)], []⟩ rfl ?_ z0 trivial ?_
 · kernel_rfl
 refine AOps.nil ?_
 refine AWp.seq ?_
 refine AWp.seq ?_
 refine AWp.start [0, 1, 2, 3, 4] [] [] [0, 1, 10] 0 ⟨[(0, q6 v1), (1, q6 v2), (10, tB ((v1.length : Int) != (v2.length : Int)))], []⟩ rfl ?_ z0 trivial ?_
 · kernel_rfl
 refine AOps.nil ?_
 refine AWp.cond rfl (fun hb => ?_) fun hb => ?_
 · replace h := of_true h hb
   refine AWp.keepTo [] 0 ⟨[], []⟩ ?_ z0 ?_
   · kernel_rfl
   refine AWp.seq ?_
   refine AWp.start [0] [] [] [4] 0 ⟨[(4, tB false)], []⟩ rfl ?_ z0 trivial ?_
   · kernel_rfl
   refine AOps.nil ?_
   refine AWp.ret ?_
   cases h
   exact ⟨.inr rfl, rfl⟩
 · replace h := of_false h hb
   refine AWp.keepTo [0, 1] 0 ⟨[(0, q6 v1), (1, q6 v2)], []⟩ ?_ z0 ?_
   · kernel_rfl
   refine AWp.skip ?_
   refine AWp.seq ?_
   refine AWp.seq ?_
   refine AWp.start [0] [] [] [0, 1, 5] 0 ⟨[(0, q6 v1), (1, q6 v2), (5, tI (0 : Int))], []⟩ rfl ?_ z0 trivial ?_
   · kernel_rfl
   refine AOps.nil ?_
   refine AWp.block ?_
   obtain ⟨y, hy, h⟩ := of_bind h
   refine AWp.mono (AWp.loop (S := Int) (Y := Out Bool Unit) (fun s => ⟨[(0, q6 v1), (1, q6 v2), (5, tI s)], []⟩) (fun s => f36_b1 v1 v2 s) (fun y e σ => match y with | .ret r => e = .ret ∧ σ = ⟨[(4, tB r)], []⟩ | .go v => e = .exit 0 ∧ σ = ⟨[], []⟩) ?_ hy) ?_
   · rintro v3 o h
     refine AWp.seq ?_
     refine AWp.seq ?_
     refine AWp.start [0, 1, 2, 3] [] [] [0, 1, 5, 14] 0 ⟨[(0, q6 v1), (1, q6 v2), (5, tI v3), (14, tB (decide (v3 < (v1.length : Int))))], []⟩ rfl ?_ z0 trivial ?_
     · kernel_rfl
     refine AOps.nil ?_
     refine AWp.cond rfl (fun hb => ?_) fun hb => ?_
     · replace h := of_true h hb
       refine AWp.keepTo [0, 1, 5] 0 ⟨[(0, q6 v1), (1, q6 v2), (5, tI v3)], []⟩ ?_ z0 ?_
       · kernel_rfl
       refine AWp.skip ?_
       refine AWp.seq ?_
       refine AWp.block ?_
       refine AWp.seq ?_
       refine AWp.draw FFm _ (n := 9) rfl (ls := #[n1, n1, n1, n1, n1, n1, n1, n1, n1]) rfl ?_ (fun _ h => h)
       obtain ⟨hg, h⟩ := of_guard h
       refine AAny.go (by kernel_rfl) [0, 1, 2, 3, 4, 5, 6, 7, 8] (fuel' := 0) rfl [(0 : Int) ≤ v3, v3 < (v1.length : Int), (0 : Int) ≤ v3, v3 < (v2.length : Int)] #[y1, y1, y1, y1, y1, y1, y1, y1, y1] [0, 1, 5, 25] 0 ⟨[(0, q6 v1), (1, q6 v2), (5, tI v3), (25, tB (!((((gD v1 v3).f0) == ((gD v2 v3).f0)) && (((gD v1 v3).f1) == ((gD v2 v3).f1)))))], []⟩ ?_ z0 ⟨hg.1, hg.2.1, hg.2.2.1, hg.2.2.2⟩ ?_
       · kernel_rfl
       refine AAny.keepTo [0, 1, 5, 25] 0 ⟨[(0, q6 v1), (1, q6 v2), (5, tI v3), (25, tB (!((((gD v1 v3).f0) == ((gD v2 v3).f0)) && (((gD v1 v3).f1) == ((gD v2 v3).f1)))))], []⟩ _ ?_ rfl z0 (AAny.done (by kernel_rfl) ?_)
       · kernel_rfl
       refine AWp.cond rfl (fun hb => ?_) fun hb => ?_
       · replace h := of_true h hb
         refine AWp.keepTo [] 0 ⟨[], []⟩ ?_ z0 ?_
         · kernel_rfl
         refine AWp.seq ?_
         refine AWp.start [0] [] [] [4] 0 ⟨[(4, tB false)], []⟩ rfl ?_ z0 trivial ?_
         · kernel_rfl
         refine AOps.nil ?_
         refine AWp.ret ?_
         cases h
         exact Or.inr ⟨_, rfl, by simp, rfl, rfl⟩
       · replace h := of_false h hb
         refine AWp.keepTo [0, 1, 5] 0 ⟨[(0, q6 v1), (1, q6 v2), (5, tI v3)], []⟩ ?_ z0 ?_
         · kernel_rfl
         refine AWp.skip ?_
         refine AWp.start [0, 1, 2] [] [] [0, 1, 5] 0 ⟨[(0, q6 v1), (1, q6 v2), (5, tI (w64 (v3 + (1 : Int))))], []⟩ rfl ?_ z0 trivial ?_
         · kernel_rfl
         refine AOps.nil ?_
         cases h
         exact Or.inl ⟨_, rfl, rfl, rfl⟩
     · replace h := of_false h hb
       refine AWp.keepTo [] 0 ⟨[], []⟩ ?_ z0 ?_
       · kernel_rfl
       refine AWp.exit ?_
       cases h
       exact Or.inr ⟨_, rfl, by simp, rfl, rfl⟩
   · intro e σ hp
     rcases y with v4 | _
     · obtain ⟨rfl, rfl⟩ := hp
       cases h
       exact ⟨.inr rfl, rfl⟩
     · obtain ⟨rfl, rfl⟩ := hp
       refine AWp.seq ?_
       refine AWp.start [0] [] [] [4] 0 ⟨[(4, tB true)], []⟩ rfl ?_ z0 trivial ?_
       · kernel_rfl
       refine AOps.nil ?_
       refine AWp.ret ?_
       cases h
       exact ⟨.inr rfl, rfl⟩

noncomputable def f10 (v1 : List T62) (v2 : List UInt8) : Option Bool :=
 (f12 v1).bind fun v3 => cond v3 ((f13 ).bind fun v4 => some v4) ((f34 v1 v2).bind fun v5 => (f35 v1 v2).bind fun v6 => (f36 v5.1 v6.1).bind fun v7 => (cond v7 (some (v5.2 == v6.2)) (some false)).bind fun v8 => (cond v8 ((f13 ).bind fun v10 => some v10) (some false)).bind fun v9 => some v9)

theorem f10_ok (v1 : List T62) (v2 : List UInt8) {r : Bool} (h : f10 v1 v2 = some r) : ACall Try.prog 10 [.tv (fzL 6 c62 v1), .tv (.str v2)] [] (.tv (.bool r)) [] := by
 refine ACall.of1 (FF 35 0) Try.func10 rfl Try.ntmps10 Try.results10 (Nat.le_of_ble_eq_true rfl) rfl rfl ?_
 refine AWp.seq ?_
 refine AWp.start [0] [] [] [0, 1] 0 ⟨[(0, q0 v1), (1, tS v2)], []⟩ rfl ?_ z0 trivial ?_
 · kernel_rfl
 refine AOps.nil ?_
 refine AWp.seq ?_
 refine AWp.seq ?_
 refine AWp.start [0] [1] [] [0, 1, 9] 0 ⟨[(0, q0 v1), (1, tS v2), (9, q0 v1)], []⟩ rfl ?_ z0 trivial ?_
 · kernel_rfl
 obtain ⟨v3, hv3, h⟩ := of_bind h
 refine AOps.cons (AOne.callP (F := (FF 35 0)) _ rfl rfl rfl _ rfl rfl _ _ rfl Try.call12 [q0 v1] rfl rfl (f12_ok v1 hv3) rfl) ?_
 refine AOps.keepTo [0, 1, 10] 0 ⟨[(0, q0 v1), (1, tS v2), (10, tB v3)], []⟩ ?_ z0 ?_
 · kernel_rfl
 refine AOps.nil ?_
 refine AWp.cond rfl (fun hb => ?_) fun hb => ?_
 · replace h := of_true h hb
   refine AWp.keepTo [] 0 ⟨[], []⟩ ?_ z0 ?_
   · kernel_rfl
   refine AWp.seq ?_
   refine AWp.start [] [0, 1] [] [] 0 ⟨[], []⟩ rfl ?_ z0 trivial ?_
   · kernel_rfl
   obtain ⟨v4, hv4, h⟩ := of_bind h
   refine AOps.cons (AOne.callP (F := (FF 35 0)) _ rfl rfl rfl _ rfl rfl _ _ rfl Try.call13 [] rfl rfl (f13_ok  hv4) rfl) ?_
   refine AOps.go [1] [] [] [4] 0 ⟨[(4, tB v4)], []⟩ ?_ z0 trivial ?_
   · kernel_rfl
   refine AOps.nil ?_
   refine AWp.ret ?_
   cases h
   exact ⟨.inr rfl, rfl⟩
 · replace h := of_false h hb
   refine AWp.keepTo [0, 1] 0 ⟨[(0, q0 v1), (1, tS v2)], []⟩ ?_ z0 ?_
   · kernel_rfl
   refine AWp.skip ?_
   refine AWp.seq ?_
   refine AWp.start [0, 1] [2, 3, 4, 5, 6, 7] [] [0, 1, 13, 14] 0 ⟨[(0, q0 v1), (1, tS v2), (13, q0 v1), (14, tS v2)], []⟩ rfl ?_ z0 trivial ?_
   · kernel_rfl
   obtain ⟨v5, hv5, h⟩ := of_bind h
   refine AOps.cons (AOne.callP (F := (FF 35 0)) _ rfl rfl rfl _ rfl rfl _ _ rfl Try.call34 [q0 v1, tS v2] rfl rfl (f34_ok v1 v2 hv5) rfl) ?_
   refine AOps.go [3, 4, 5, 6, 7] [] [] [0, 1, 5, 6] 0 ⟨[(0, q0 v1), (1, tS v2), (5, q6 v5.1), (6, tI v5.2)], []⟩ ?_ z0 trivial ?_
   · kernel_rfl
   refine AOps.nil ?_
   refine AWp.seq ?_
   refine AWp.start [0, 1] [2, 3, 4, 5, 6, 7] [] [5, 6, 19, 20] 0 ⟨[(5, q6 v5.1), (6, tI v5.2), (19, q0 v1), (20, tS v2)], []⟩ rfl ?_ z0 trivial ?_
   · kernel_rfl
   obtain ⟨v6, hv6, h⟩ := of_bind h
   refine AOps.cons (AOne.callP (F := (FF 35 0)) _ rfl rfl rfl _ rfl rfl _ _ rfl Try.call35 [q0 v1, tS v2] rfl rfl (f35_ok v1 v2 hv6) rfl) ?_
   refine AOps.go [3, 4, 5, 6, 7] [] [] [5, 6, 7, 8] 0 ⟨[(5, q6 v5.1), (6, tI v5.2), (7, q6 v6.1), (8, tI v6.2)], []⟩ ?_ z0 trivial ?_
   · kernel_rfl
   refine AOps.nil ?_
   refine AWp.seq ?_
   refine AWp.start [0, 1] [2, 3, 4, 5, 6, 7, 8, 9, 10, 11] [] [6, 8, 24, 25] 0 ⟨[(6, tI v5.2), (8, tI v6.2), (24, q6 v5.1), (25, q6 v6.1)], []⟩ rfl ?_ z0 trivial ?_
   · kernel_rfl
   obtain ⟨v7, hv7, h⟩ := of_bind h
   refine AOps.cons (AOne.callP (F := (FF 35 0)) _ rfl rfl rfl _ rfl rfl _ _ rfl Try.call36 [q6 v5.1, q6 v6.1] rfl rfl (f36_ok v5.1 v6.1 hv7) rfl) ?_
   refine AOps.go [3] [4, 5, 6, 7, 8, 9, 10, 11] [] [6, 8, 27] 0 ⟨[(6, tI v5.2), (8, tI v6.2), (27, tB v7)], []⟩ ?_ z0 trivial ?_
   · kernel_rfl
   obtain ⟨v8, hc4, h⟩ := of_bind h
   refine AOps.cut [4, 5, 6, 7] [8, 9, 10, 11] (fun σ => σ = ⟨[(31, tB v8)], []⟩) ?_ fun σ' hJ => ?_
   · refine AOps.split (fun b => ⟨[(6, tI v5.2), (8, tI v6.2), (27, tB b)], []⟩) _ (fun hb => ?_) fun hb => ?_
     · replace hc4 := of_true hc4 hb
       refine AOps.go [4, 5, 6, 7] [] [] [31] 0 ⟨[(31, tB (v5.2 == v6.2))], []⟩ ?_ z0 trivial ?_
       · kernel_rfl
       cases hc4
       exact AOps.nil rfl
     · replace hc4 := of_false hc4 hb
       refine AOps.go [4, 5, 6, 7] [] [] [31] 0 ⟨[(31, tB false)], []⟩ ?_ z0 trivial ?_
       · kernel_rfl
       cases hc4
       exact AOps.nil rfl
   subst hJ
   refine AOps.go [8] [9, 10, 11] [] [32] 0 ⟨[(32, tB v8)], []⟩ ?_ z0 trivial ?_
   · kernel_rfl
   obtain ⟨v9, hc9, h⟩ := of_bind h
   refine AOps.cut [9, 10] [11] (fun σ => σ = ⟨[(34, tB v9)], []⟩) ?_ fun σ' hJ => ?_
   · refine AOps.split (fun b => ⟨[(32, tB b)], []⟩) _ (fun hb => ?_) fun hb => ?_
     · replace hc9 := of_true hc9 hb
       obtain ⟨v10, hv10, hc9⟩ := of_bind hc9
       refine AOps.cons (AOne.callP (F := (FF 35 0)) _ rfl rfl rfl _ rfl rfl _ _ rfl Try.call13 [] rfl rfl (f13_ok  hv10) rfl) ?_
       refine AOps.go [10] [] [] [34] 0 ⟨[(34, tB v10)], []⟩ ?_ z0 trivial ?_
       · kernel_rfl
       cases hc9
       exact AOps.nil rfl
     · replace hc9 := of_false hc9 hb
       refine AOps.go [9, 10] [] [] [34] 0 ⟨[(34, tB false)], []⟩ ?_ z0 trivial ?_
       · kernel_rfl
       cases hc9
       exact AOps.nil rfl
   subst hJ
   refine AOps.go [11] [] [] [4] 0 ⟨[(4, tB v9)], []⟩ ?_ z0 trivial ?_
   · kernel_rfl
   refine AOps.nil ?_
   refine AWp.ret ?_
   cases h
   exact ⟨.inr rfl, rfl⟩

end Go.Sx.der
