/- Printed by program (wip/gen): plain functions and their walks; no condition. -/
import Derived.Test.YtplfiblnmnpllaaGx4
namespace Go.Sx.der
open Go Go.Sx Go.Proofs

noncomputable def f42_j1 (v1 : List T62) (v16 : Int) (v23 : Int) (v24 : Int) (v25 : Int) (v28 : Int) (v29 : Int) : Option ((Int × Int × Int) ⊕ Out T68 (Int × Int)) :=
 (f72 (w64 (v23 + (w64 ((if (1 : Int) > (((v1.getD v16.toNat default).f3).getD v25.toNat default).f2 then (1 : Int) else (((v1.getD v16.toNat default).f3).getD v25.toNat default).f2) * v28))))).bind fun v30 => (f72 (w64 ((1 : Int) + v29))).bind fun v31 => (f72 (w64 (v24 + (w64 ((if (1 : Int) > (((v1.getD v16.toNat default).f3).getD v25.toNat default).f2 then (1 : Int) else (((v1.getD v16.toNat default).f3).getD v25.toNat default).f2) * v31))))).bind fun v32 => some (.inl (v30, v32, w64 (v25 + (1 : Int))))

noncomputable def f42_b2 (v1 : List T62) (v16 : Int) (v17 : List Int) (v18 : List Int) (v23 : Int) (v24 : Int) (v25 : Int) : Option ((Int × Int × Int) ⊕ Out T68 (Int × Int)) :=
 if (0 : Int) ≤ v16 ∧ v16 < (v1.length : Int) then cond (decide (v25 < (((v1.getD v16.toNat default).f3).length : Int))) (if (0 : Int) ≤ v16 ∧ v16 < (v1.length : Int) ∧ (0 : Int) ≤ v25 ∧ v25 < (((v1.getD v16.toNat default).f3).length : Int) then cond (!(((((v1.getD v16.toNat default).f3).getD v25.toNat default).f1) == ([] : List UInt8))) ((f49 v1 v16 ((((v1.getD v16.toNat default).f3).getD v25.toNat default).f1)).bind fun v33 => if (0 : Int) ≤ v33 ∧ v33 < (v17.length : Int) then if (0 : Int) ≤ v33 ∧ v33 < (v18.length : Int) then f42_j1 v1 v16 v23 v24 v25 (v17.getD v33.toNat default) (v18.getD v33.toNat default) else none else none) (f42_j1 v1 v16 v23 v24 v25 (1 : Int) (0 : Int)) else none) (some (.inr (.go (v23, v24)))) else none

noncomputable def f42_j3 (v1 : List T62) (v16 : Int) (v17 : List Int) (v18 : List Int) (v21 : Int) (v22 : Int) : Option ((Int × (List Int) × (List Int)) ⊕ Out T68 ((List Int) × (List Int))) :=
 (iter (fun s => f42_b2 v1 v16 v17 v18 s.1 s.2.1 s.2.2) (v21, v22, (0 : Int))).bind fun y => match y with | .ret v34 => some (.inr (.ret v34)) | .go (v26, v27) => if (v17.length + [v26].length) * 8 ≤ 140737488355328 then if (v18.length + [v27].length) * 8 ≤ 140737488355328 then some (.inl (w64 (v16 + (1 : Int)), v17 ++ [v26], v18 ++ [v27])) else none else none

noncomputable def f42_b4 (v1 : List T62) (v2 : Int) (v16 : Int) (v17 : List Int) (v18 : List Int) : Option ((Int × (List Int) × (List Int)) ⊕ Out T68 ((List Int) × (List Int))) :=
 cond (decide (v16 < v2)) (if (0 : Int) ≤ v16 ∧ v16 < (v1.length : Int) then cond (!(((v1.getD v16.toNat default).f1) == ([] : List UInt8))) (if (0 : Int) ≤ v16 ∧ v16 < (v1.length : Int) then (f49 v1 v16 ((v1.getD v16.toNat default).f1)).bind fun v35 => if (0 : Int) ≤ v35 ∧ v35 < (v18.length : Int) then if (0 : Int) ≤ v35 ∧ v35 < (v17.length : Int) then (f72 (w64 ((1 : Int) + (v18.getD v35.toNat default)))).bind fun v36 => f42_j3 v1 v16 v17 v18 (v17.getD v35.toNat default) v36 else none else none else none) (f42_j3 v1 v16 v17 v18 (0 : Int) (0 : Int)) else none) (some (.inr (.go (v17, v18))))

noncomputable def f42 (v1 : List T62) (v2 : Int) : Option T68 :=
 (iter (fun s => f42_b4 v1 v2 s.1 s.2.1 s.2.2) ((0 : Int), [], [])).bind fun y => match y with | .ret v37 => some v37 | .go (v19, v20) => some (T68.mk v19 v20)

theorem f42_ok (v1 : List T62) (v2 : Int) {r : T68} (h : f42 v1 v2 = some r) : ACall Try.prog 42 [.tv (fzL 6 c62 v1), .tv (.int .i64 v2)] [] (.agg [fzL 1 (cInt .i64) r.f0, fzL 1 (cInt .i64) r.f1]) [] := by
 refine ACall.of1c (r := 4) (t := 69) (cells0 := [k4 r.f0, k4 r.f1]) (FF 113 0) Try.func42 rfl Try.ntmps42 (by kernel_rfl) (Nat.le_of_ble_eq_true rfl) rfl rfl rfl (by kernel_rfl) rfl [4] 0 z0 rfl ?_
 refine AWp.seq ?_
 refine AWp.start [0] [] [] [0, 1, 4] 1 ⟨[(0, q0 v1), (1, tI v2), (4, .pc 0 0)], [.cells 69 [nS, nS]]⟩ rfl ?_ z0 trivial ?_
 · kernel_rfl
 refine AOps.nil ?_
 refine AWp.seq ?_
 refine AWp.start [0] [] [] [0, 1, 4, 5] 2 ⟨[(0, q0 v1), (1, tI v2), (4, .pc 0 0), (5, .pc 1 0)], [.cells 69 [nS, nS], .cells 69 [nS, nS]]⟩ rfl ?_ z0 trivial ?_
 · kernel_rfl
 refine AOps.nil ?_
 refine AWp.seq ?_
 refine AWp.seq ?_
 refine AWp.start [0] [] [] [0, 1, 4, 5, 6] 2 ⟨[(0, q0 v1), (1, tI v2), (4, .pc 0 0), (5, .pc 1 0), (6, tI (0 : Int))], [.cells 69 [nS, nS], .cells 69 [nS, nS]]⟩ rfl ?_ z0 trivial ?_
 · kernel_rfl
 refine AOps.nil ?_
 refine AWp.block ?_
 refine AWp.retell 1 0 rfl (.nilOwn 1 3 (fun i => (cInt .i64) (([] : List Int).getD i default))) ?_
 refine AWp.retell 1 1 rfl (.nilOwn 1 3 (fun i => (cInt .i64) (([] : List Int).getD i default))) ?_
 refine AWp.keepTo [0, 1, 4, 5, 6] 2 ⟨[(0, q0 v1), (1, tI v2), (4, .pc 0 0), (5, .pc 1 0), (6, tI (0 : Int))], [.cells 69 [nS, nS], .cells 69 [k2 ([] : List Int), k2 ([] : List Int)]]⟩ ?_ z0 ?_
 · kernel_rfl
 obtain ⟨y, hy, h⟩ := of_bind h
 refine AWp.mono (AWp.loop (S := Int × (List Int) × (List Int)) (Y := Out T68 ((List Int) × (List Int))) (fun s => ⟨[(0, q0 v1), (1, tI v2), (4, .pc 0 0), (5, .pc 1 0), (6, tI s.1)], [.cells 69 [nS, nS], .cells 69 [k2 s.2.1, k2 s.2.2]]⟩) (fun s => f42_b4 v1 v2 s.1 s.2.1 s.2.2) (fun y e σ => match y with | .ret r => e = .ret ∧ σ = ⟨[(4, .rp [k4 r.f0, k4 r.f1])], []⟩ | .go v => e = .exit 0 ∧ σ = ⟨[(4, .pc 0 0), (5, .pc 1 0)], [.cells 69 [nS, nS], .cells 69 [k2 v.1, k2 v.2]]⟩) ?_ hy) ?_
 · rintro ⟨v16, v17, v18⟩ o h
   refine AWp.seq ?_
   refine AWp.seq ?_
   refine AWp.start [0, 1, 2] [] [] [0, 1, 4, 5, 6, 18] 2 ⟨[(0, q0 v1), (1, tI v2), (4, .pc 0 0), (5, .pc 1 0), (6, tI v16), (18, tB (decide (v16 < v2)))], [.cells 69 [nS, nS], .cells 69 [k2 v17, k2 v18]]⟩ rfl ?_ z0 trivial ?_
   · kernel_rfl
   refine AOps.nil ?_
   refine AWp.cond rfl (fun hb => ?_) fun hb => ?_
   · replace h := of_true h hb
     refine AWp.keepTo [0, 1, 4, 5, 6] 2 ⟨[(0, q0 v1), (1, tI v2), (4, .pc 0 0), (5, .pc 1 0), (6, tI v16)], [.cells 69 [nS, nS], .cells 69 [k2 v17, k2 v18]]⟩ ?_ z0 ?_
     · kernel_rfl
     refine AWp.skip ?_
     refine AWp.seq ?_
     refine AWp.block ?_
     refine AWp.seq ?_
     refine AWp.start [0, 1] [] [] [0, 1, 4, 5, 6, 7, 8] 2 ⟨[(0, q0 v1), (1, tI v2), (4, .pc 0 0), (5, .pc 1 0), (6, tI v16), (7, tI (0 : Int)), (8, tI (0 : Int))], [.cells 69 [nS, nS], .cells 69 [k2 v17, k2 v18]]⟩ rfl ?_ z0 trivial ?_
     · kernel_rfl
     refine AOps.nil ?_
     refine AWp.join (V := Int × Int) (fun w => ⟨[(0, q0 v1), (1, tI v2), (4, .pc 0 0), (5, .pc 1 0), (6, tI v16), (7, tI w.1), (8, tI w.2)], [.cells 69 [nS, nS], .cells 69 [k2 v17, k2 v18]]⟩) (fun w => f42_j3 v1 v16 v17 v18 w.1 w.2 = some o) ?_ ?_
     · refine AWp.seq ?_
       obtain ⟨hg, h⟩ := of_guard h
       refine AWp.start [0, 1, 2, 3, 4, 5] [] [(0 : Int) ≤ v16, v16 < (v1.length : Int)] [0, 1, 4, 5, 6, 7, 8, 26] 2 ⟨[(0, q0 v1), (1, tI v2), (4, .pc 0 0), (5, .pc 1 0), (6, tI v16), (7, tI (0 : Int)), (8, tI (0 : Int)), (26, tB (!(((gD v1 v16).f1) == ([] : List UInt8))))], [.cells 69 [nS, nS], .cells 69 [k2 v17, k2 v18]]⟩ rfl ?_ z0 ⟨hg.1, hg.2⟩ ?_
       · kernel_rfl
       refine AOps.nil ?_
       refine AWp.cond rfl (fun hb => ?_) fun hb => ?_
       · replace h := of_true h hb
         refine AWp.keepTo [0, 1, 4, 5, 6] 2 ⟨[(0, q0 v1), (1, tI v2), (4, .pc 0 0), (5, .pc 1 0), (6, tI v16)], [.cells 69 [nS, nS], .cells 69 [k2 v17, k2 v18]]⟩ ?_ z0 ?_
         · kernel_rfl
         refine AWp.seq ?_
         obtain ⟨hg, h⟩ := of_guard h
         refine AWp.start [0, 1, 2, 3, 4, 5, 6] [7, 8] [(0 : Int) ≤ v16, v16 < (v1.length : Int)] [0, 1, 4, 5, 6, 27, 28, 33] 2 ⟨[(0, q0 v1), (1, tI v2), (4, .pc 0 0), (5, .pc 1 0), (6, tI v16), (27, q0 v1), (28, tI v16), (33, tS ((gD v1 v16).f1))], [.cells 69 [nS, nS], .cells 69 [k2 v17, k2 v18]]⟩ rfl ?_ z0 ⟨hg.1, hg.2⟩ ?_
         · kernel_rfl
         obtain ⟨v35, hv35, h⟩ := of_bind h
         refine AOps.cons (AOne.callP (F := (FF 113 0)) _ rfl rfl rfl _ rfl rfl _ _ rfl Try.call49 [q0 v1, tI v16, tS ((gD v1 v16).f1)] rfl rfl (f49_ok v1 v16 ((gD v1 v16).f1) hv35) rfl) ?_
         refine AOps.go [8] [] [] [0, 1, 4, 5, 6, 9] 2 ⟨[(0, q0 v1), (1, tI v2), (4, .pc 0 0), (5, .pc 1 0), (6, tI v16), (9, tI v35)], [.cells 69 [nS, nS], .cells 69 [k2 v17, k2 v18]]⟩ ?_ z0 trivial ?_
         · kernel_rfl
         refine AOps.nil ?_
         refine AWp.draw FFm _ (n := 14) rfl (ls := #[n1, n1, n1, n1, n1, n1, n1, n1, n1, n1, n1, n1, n1, n1]) rfl ?_ (fun _ h => h)
         refine AAny.go (by kernel_rfl) [0, 2, 5, 7] (fuel' := 10) rfl [] #[y1, n1, y1, n1, n1, y1, n1, y1, n1, n1, n1, n1, n1, n1] [0, 1, 4, 5, 6, 35, 37, 40, 42] 2 ⟨[(0, q0 v1), (1, tI v2), (4, .pc 0 0), (5, .pc 1 0), (6, tI v16), (35, .pc 1 0), (37, tI v35), (40, .pc 1 1), (42, tI v35)], [.cells 69 [nS, nS], .cells 69 [k2 v17, k2 v18]]⟩ ?_ z0 trivial ?_
         · kernel_rfl
         refine AAny.goR (by kernel_rfl) (i := 6) (fuel' := 9) [8, 9, 10, 11, 12, 13] rfl (by kernel_rfl) (by kernel_rfl) [] #[y1, n1, y1, n1, n1, y1, y1, y1, n1, n1, n1, n1, n1, n1] rfl [0, 1, 4, 5, 6, 35, 37, 41, 42] 2 ⟨[(0, q0 v1), (1, tI v2), (4, .pc 0 0), (5, .pc 1 0), (6, tI v16), (35, .pc 1 0), (37, tI v35), (41, .al (.cell 1 1, [])), (42, tI v35)], [.cells 69 [nS, nS], .cells 69 [k2 v17, k2 v18]]⟩ ?_ z0 trivial ?_
         · kernel_rfl
         obtain ⟨hg, h⟩ := of_guard h
         refine AAny.go (by kernel_rfl) [8] (fuel' := 8) rfl [(0 : Int) ≤ v35, v35 < (v18.length : Int)] #[y1, n1, y1, n1, n1, y1, y1, y1, y1, n1, n1, n1, n1, n1] [0, 1, 4, 5, 6, 35, 37, 43] 2 ⟨[(0, q0 v1), (1, tI v2), (4, .pc 0 0), (5, .pc 1 0), (6, tI v16), (35, .pc 1 0), (37, tI v35), (43, .pe (.cell 1 1, []) v35.toNat 0 1)], [.cells 69 [nS, nS], .cells 69 [k2 v17, k2 v18]]⟩ ?_ z0 ⟨hg.1, hg.2⟩ ?_
         · kernel_rfl
         refine AAny.goR (by kernel_rfl) (i := 9) (fuel' := 7) [10, 11, 12, 13] rfl (by kernel_rfl) (by kernel_rfl) [] #[y1, n1, y1, n1, n1, y1, y1, y1, y1, y1, n1, n1, n1, n1] rfl [0, 1, 4, 5, 6, 35, 37, 44] 2 ⟨[(0, q0 v1), (1, tI v2), (4, .pc 0 0), (5, .pc 1 0), (6, tI v16), (35, .pc 1 0), (37, tI v35), (44, tI (gD v18 v35))], [.cells 69 [nS, nS], .cells 69 [k2 v17, k2 v18]]⟩ ?_ z0 trivial ?_
         · kernel_rfl
         refine AAny.go (by kernel_rfl) [10] (fuel' := 6) rfl [] #[y1, n1, y1, n1, n1, y1, y1, y1, y1, y1, y1, n1, n1, n1] [0, 1, 4, 5, 6, 35, 37, 45] 2 ⟨[(0, q0 v1), (1, tI v2), (4, .pc 0 0), (5, .pc 1 0), (6, tI v16), (35, .pc 1 0), (37, tI v35), (45, tI (w64 ((1 : Int) + (gD v18 v35))))], [.cells 69 [nS, nS], .cells 69 [k2 v17, k2 v18]]⟩ ?_ z0 trivial ?_
         · kernel_rfl
         obtain ⟨hd20, h⟩ := of_guard h
         obtain ⟨v36, hv36, h⟩ := of_bind h
         refine AAny.share 0 #[y1, y1, y1, y1, y1, y1, y1, y1, y1, y1, y1, y1, y1, y1] ⟨[(0, q0 v1), (1, tI v2), (4, .pc 0 0), (5, .pc 1 0), (6, tI v16), (7, tI (gD v17 v35)), (8, tI v36)], [.cells 69 [nS, nS], .cells 69 [k2 v17, k2 v18]]⟩ ?_ fun n4_ => ?_
         · refine AAny.keepTo [0, 1, 4, 5, 6, 7, 8] 2 ⟨[(0, q0 v1), (1, tI v2), (4, .pc 0 0), (5, .pc 1 0), (6, tI v16), (7, tI (gD v17 v35)), (8, tI v36)], [.cells 69 [nS, nS], .cells 69 [k2 v17, k2 v18]]⟩ _ ?_ rfl z0 (AAny.done (by kernel_rfl) ?_)
           · kernel_rfl
           exact ⟨(gD v17 v35, v36), h, rfl⟩
         refine AAny.share 3 #[y1, y1, y1, y1, n1, y1, y1, y1, y1, y1, y1, y1, n1, n1] ⟨[(0, q0 v1), (1, tI v2), (4, .pc 0 0), (5, .pc 1 0), (6, tI v16), (38, .pe (.cell 1 0, []) v35.toNat 0 1), (46, tI v36)], [.cells 69 [nS, nS], .cells 69 [k2 v17, k2 v18]]⟩ ?_ fun n3_ => ?_
         · refine AAny.each [4] (by kernel_rfl) rfl ?_
           refine AEach.step (i := 4) [] #[y1, y1, y1, y1, y1, y1, y1, y1, y1, y1, y1, y1, n1, n1] rfl [0, 1, 4, 5, 6, 39, 46] 2 ⟨[(0, q0 v1), (1, tI v2), (4, .pc 0 0), (5, .pc 1 0), (6, tI v16), (39, tI (gD v17 v35)), (46, tI v36)], [.cells 69 [nS, nS], .cells 69 [k2 v17, k2 v18]]⟩ ?_ z0 trivial ?_ ?_
           · kernel_rfl
           · refine AAny.go (by kernel_rfl) [12, 13] (fuel' := 0) rfl [] #[y1, y1, y1, y1, y1, y1, y1, y1, y1, y1, y1, y1, y1, y1] [0, 1, 4, 5, 6, 7, 8] 2 ⟨[(0, q0 v1), (1, tI v2), (4, .pc 0 0), (5, .pc 1 0), (6, tI v16), (7, tI (gD v17 v35)), (8, tI v36)], [.cells 69 [nS, nS], .cells 69 [k2 v17, k2 v18]]⟩ ?_ z0 trivial ?_
             · kernel_rfl
             exact n4_
           exact AEach.nil
         refine AAny.share 3 #[y1, y1, y1, y1, y1, y1, y1, y1, y1, y1, y1, n1, n1, n1] ⟨[(0, q0 v1), (1, tI v2), (4, .pc 0 0), (5, .pc 1 0), (6, tI v16), (39, tI (gD v17 v35)), (45, tI (w64 ((1 : Int) + (gD v18 v35))))], [.cells 69 [nS, nS], .cells 69 [k2 v17, k2 v18]]⟩ ?_ fun n5_ => ?_
         · refine AAny.each [11] (by kernel_rfl) rfl ?_
           refine AEach.one (i := 11) (AOne.callP (F := (FF 113 0)) _ rfl rfl rfl _ rfl rfl _ _ rfl Try.call72 [tI (w64 ((1 : Int) + (gD v18 v35)))] rfl rfl (f72_ok (w64 ((1 : Int) + (gD v18 v35))) hv36) rfl) ?_ ?_
           · refine AAny.keepTo [0, 1, 4, 5, 6, 39, 46] 2 ⟨[(0, q0 v1), (1, tI v2), (4, .pc 0 0), (5, .pc 1 0), (6, tI v16), (39, tI (gD v17 v35)), (46, tI v36)], [.cells 69 [nS, nS], .cells 69 [k2 v17, k2 v18]]⟩ #[y1, y1, y1, y1, y1, y1, y1, y1, y1, y1, y1, y1, n1, n1] ?_ rfl z0 ?_
             · kernel_rfl
             refine AAny.go (by kernel_rfl) [12, 13] (fuel' := 0) rfl [] #[y1, y1, y1, y1, y1, y1, y1, y1, y1, y1, y1, y1, y1, y1] [0, 1, 4, 5, 6, 7, 8] 2 ⟨[(0, q0 v1), (1, tI v2), (4, .pc 0 0), (5, .pc 1 0), (6, tI v16), (7, tI (gD v17 v35)), (8, tI v36)], [.cells 69 [nS, nS], .cells 69 [k2 v17, k2 v18]]⟩ ?_ z0 trivial ?_
             · kernel_rfl
             exact n4_
           exact AEach.nil
         refine AAny.share 4 #[y1, y1, y1, y1, n1, y1, y1, y1, y1, y1, y1, n1, n1, n1] ⟨[(0, q0 v1), (1, tI v2), (4, .pc 0 0), (5, .pc 1 0), (6, tI v16), (38, .pe (.cell 1 0, []) v35.toNat 0 1), (45, tI (w64 ((1 : Int) + (gD v18 v35))))], [.cells 69 [nS, nS], .cells 69 [k2 v17, k2 v18]]⟩ ?_ fun n1_ => ?_
         · refine AAny.each [4, 11] (by kernel_rfl) rfl ?_
           refine AEach.step (i := 4) [] #[y1, y1, y1, y1, y1, y1, y1, y1, y1, y1, y1, n1, n1, n1] rfl [0, 1, 4, 5, 6, 39, 45] 2 ⟨[(0, q0 v1), (1, tI v2), (4, .pc 0 0), (5, .pc 1 0), (6, tI v16), (39, tI (gD v17 v35)), (45, tI (w64 ((1 : Int) + (gD v18 v35))))], [.cells 69 [nS, nS], .cells 69 [k2 v17, k2 v18]]⟩ ?_ z0 trivial ?_ ?_
           · kernel_rfl
           · exact n5_
           refine AEach.one (i := 11) (AOne.callP (F := (FF 113 0)) _ rfl rfl rfl _ rfl rfl _ _ rfl Try.call72 [tI (w64 ((1 : Int) + (gD v18 v35)))] rfl rfl (f72_ok (w64 ((1 : Int) + (gD v18 v35))) hv36) rfl) ?_ ?_
           · refine AAny.keepTo [0, 1, 4, 5, 6, 38, 46] 2 ⟨[(0, q0 v1), (1, tI v2), (4, .pc 0 0), (5, .pc 1 0), (6, tI v16), (38, .pe (.cell 1 0, []) v35.toNat 0 1), (46, tI v36)], [.cells 69 [nS, nS], .cells 69 [k2 v17, k2 v18]]⟩ #[y1, y1, y1, y1, n1, y1, y1, y1, y1, y1, y1, y1, n1, n1] ?_ rfl z0 ?_
             · kernel_rfl
             exact n3_
           exact AEach.nil
         refine AAny.share 5 #[y1, n1, y1, n1, n1, y1, y1, y1, y1, y1, y1, y1, n1, n1] ⟨[(0, q0 v1), (1, tI v2), (4, .pc 0 0), (5, .pc 1 0), (6, tI v16), (35, .pc 1 0), (37, tI v35), (46, tI v36)], [.cells 69 [nS, nS], .cells 69 [k2 v17, k2 v18]]⟩ ?_ fun n2_ => ?_
         · refine AAny.each [1] (by kernel_rfl) rfl ?_
           refine AEach.step (i := 1) [] #[y1, y1, y1, n1, n1, y1, y1, y1, y1, y1, y1, y1, n1, n1] rfl [0, 1, 4, 5, 6, 36, 37, 46] 2 ⟨[(0, q0 v1), (1, tI v2), (4, .pc 0 0), (5, .pc 1 0), (6, tI v16), (36, .al (.cell 1 0, [])), (37, tI v35), (46, tI v36)], [.cells 69 [nS, nS], .cells 69 [k2 v17, k2 v18]]⟩ ?_ z0 trivial ?_ ?_
           · kernel_rfl
           · refine AAny.go (by kernel_rfl) [3] (fuel' := 3) rfl [(0 : Int) ≤ v35, v35 < (v17.length : Int)] #[y1, y1, y1, y1, n1, y1, y1, y1, y1, y1, y1, y1, n1, n1] [0, 1, 4, 5, 6, 38, 46] 2 ⟨[(0, q0 v1), (1, tI v2), (4, .pc 0 0), (5, .pc 1 0), (6, tI v16), (38, .pe (.cell 1 0, []) v35.toNat 0 1), (46, tI v36)], [.cells 69 [nS, nS], .cells 69 [k2 v17, k2 v18]]⟩ ?_ z0 ⟨hd20.1, hd20.2⟩ ?_
             · kernel_rfl
             exact n3_
           exact AEach.nil
         refine AAny.each [1, 11] (by kernel_rfl) rfl ?_
         refine AEach.step (i := 1) [] #[y1, y1, y1, n1, n1, y1, y1, y1, y1, y1, y1, n1, n1, n1] rfl [0, 1, 4, 5, 6, 36, 37, 45] 2 ⟨[(0, q0 v1), (1, tI v2), (4, .pc 0 0), (5, .pc 1 0), (6, tI v16), (36, .al (.cell 1 0, [])), (37, tI v35), (45, tI (w64 ((1 : Int) + (gD v18 v35))))], [.cells 69 [nS, nS], .cells 69 [k2 v17, k2 v18]]⟩ ?_ z0 trivial ?_ ?_
         · kernel_rfl
         · refine AAny.go (by kernel_rfl) [3] (fuel' := 4) rfl [(0 : Int) ≤ v35, v35 < (v17.length : Int)] #[y1, y1, y1, y1, n1, y1, y1, y1, y1, y1, y1, n1, n1, n1] [0, 1, 4, 5, 6, 38, 45] 2 ⟨[(0, q0 v1), (1, tI v2), (4, .pc 0 0), (5, .pc 1 0), (6, tI v16), (38, .pe (.cell 1 0, []) v35.toNat 0 1), (45, tI (w64 ((1 : Int) + (gD v18 v35))))], [.cells 69 [nS, nS], .cells 69 [k2 v17, k2 v18]]⟩ ?_ z0 ⟨hd20.1, hd20.2⟩ ?_
           · kernel_rfl
           exact n1_
         refine AEach.one (i := 11) (AOne.callP (F := (FF 113 0)) _ rfl rfl rfl _ rfl rfl _ _ rfl Try.call72 [tI (w64 ((1 : Int) + (gD v18 v35)))] rfl rfl (f72_ok (w64 ((1 : Int) + (gD v18 v35))) hv36) rfl) ?_ ?_
         · refine AAny.keepTo [0, 1, 4, 5, 6, 35, 37, 46] 2 ⟨[(0, q0 v1), (1, tI v2), (4, .pc 0 0), (5, .pc 1 0), (6, tI v16), (35, .pc 1 0), (37, tI v35), (46, tI v36)], [.cells 69 [nS, nS], .cells 69 [k2 v17, k2 v18]]⟩ #[y1, n1, y1, n1, n1, y1, y1, y1, y1, y1, y1, y1, n1, n1] ?_ rfl z0 ?_
           · kernel_rfl
           exact n2_
         exact AEach.nil
       · replace h := of_false h hb
         refine AWp.keepTo [0, 1, 4, 5, 6, 7, 8] 2 ⟨[(0, q0 v1), (1, tI v2), (4, .pc 0 0), (5, .pc 1 0), (6, tI v16), (7, tI (0 : Int)), (8, tI (0 : Int))], [.cells 69 [nS, nS], .cells 69 [k2 v17, k2 v18]]⟩ ?_ z0 ?_
         · kernel_rfl
         refine AWp.skip ?_
         exact ⟨((0 : Int), (0 : Int)), h, rfl⟩
     · rintro ⟨v21, v22⟩ h
       refine AWp.seq ?_
       refine AWp.seq ?_
       refine AWp.start [0] [] [] [0, 1, 4, 5, 6, 7, 8, 10] 2 ⟨[(0, q0 v1), (1, tI v2), (4, .pc 0 0), (5, .pc 1 0), (6, tI v16), (7, tI v21), (8, tI v22), (10, tI (0 : Int))], [.cells 69 [nS, nS], .cells 69 [k2 v17, k2 v18]]⟩ rfl ?_ z0 trivial ?_
       · kernel_rfl
       refine AOps.nil ?_
       refine AWp.block ?_
       obtain ⟨y, hy, h⟩ := of_bind h
       refine AWp.mono (AWp.loop (S := Int × Int × Int) (Y := Out T68 (Int × Int)) (fun s => ⟨[(0, q0 v1), (1, tI v2), (4, .pc 0 0), (5, .pc 1 0), (6, tI v16), (7, tI s.1), (8, tI s.2.1), (10, tI s.2.2)], [.cells 69 [nS, nS], .cells 69 [k2 v17, k2 v18]]⟩) (fun s => f42_b2 v1 v16 v17 v18 s.1 s.2.1 s.2.2) (fun y e σ => match y with | .ret r => e = .ret ∧ σ = ⟨[(4, .rp [k4 r.f0, k4 r.f1])], []⟩ | .go v => e = .exit 2 ∧ σ = ⟨[(0, q0 v1), (1, tI v2), (4, .pc 0 0), (5, .pc 1 0), (6, tI v16), (7, tI v.1), (8, tI v.2)], [.cells 69 [nS, nS], .cells 69 [k2 v17, k2 v18]]⟩) ?_ hy) ?_
       · rintro ⟨v23, v24, v25⟩ o h
         refine AWp.seq ?_
         refine AWp.seq ?_
         obtain ⟨hg, h⟩ := of_guard h
         refine AWp.start [0, 1, 2, 3, 4, 5, 6, 7] [] [(0 : Int) ≤ v16, v16 < (v1.length : Int)] [0, 1, 4, 5, 6, 7, 8, 10, 54] 2 ⟨[(0, q0 v1), (1, tI v2), (4, .pc 0 0), (5, .pc 1 0), (6, tI v16), (7, tI v23), (8, tI v24), (10, tI v25), (54, tB (decide (v25 < (((gD v1 v16).f3).length : Int))))], [.cells 69 [nS, nS], .cells 69 [k2 v17, k2 v18]]⟩ rfl ?_ z0 ⟨hg.1, hg.2⟩ ?_
         · kernel_rfl
         refine AOps.nil ?_
         refine AWp.cond rfl (fun hb => ?_) fun hb => ?_
         · replace h := of_true h hb
           refine AWp.keepTo [0, 1, 4, 5, 6, 7, 8, 10] 2 ⟨[(0, q0 v1), (1, tI v2), (4, .pc 0 0), (5, .pc 1 0), (6, tI v16), (7, tI v23), (8, tI v24), (10, tI v25)], [.cells 69 [nS, nS], .cells 69 [k2 v17, k2 v18]]⟩ ?_ z0 ?_
           · kernel_rfl
           refine AWp.skip ?_
           refine AWp.seq ?_
           refine AWp.block ?_
           refine AWp.seq ?_
           obtain ⟨hg, h⟩ := of_guard h
           refine AWp.start [0, 1, 2, 3, 4, 5, 6, 7, 8, 9] [] [(0 : Int) ≤ v16, v16 < (v1.length : Int), (0 : Int) ≤ v25, v25 < (((gD v1 v16).f3).length : Int)] [0, 1, 4, 5, 6, 7, 8, 10, 11] 3 ⟨[(0, q0 v1), (1, tI v2), (4, .pc 0 0), (5, .pc 1 0), (6, tI v16), (7, tI v23), (8, tI v24), (10, tI v25), (11, .pc 2 0)], [.cells 69 [nS, nS], .cells 69 [k2 v17, k2 v18], .cells 36 (c35 (gD ((gD v1 v16).f3) v25))]⟩ rfl ?_ z0 ⟨hg.1, hg.2.1, hg.2.2.1, hg.2.2.2⟩ ?_
           · kernel_rfl
           refine AOps.nil ?_
           refine AWp.seq ?_
           refine AWp.pin 2 rfl rfl ?_
           refine AWp.keepTo [0, 1, 4, 5, 6, 7, 8, 10, 11] 2 ⟨[(0, q0 v1), (1, tI v2), (4, .pc 0 0), (5, .pc 1 0), (6, tI v16), (7, tI v23), (8, tI v24), (10, tI v25), (11, .rp (c35 (gD ((gD v1 v16).f3) v25)))], [.cells 69 [nS, nS], .cells 69 [k2 v17, k2 v18]]⟩ ?_ z0 ?_
           · kernel_rfl
           refine AWp.start [0, 1, 2, 3] [] [] [0, 1, 4, 5, 6, 7, 8, 10, 11, 12] 2 ⟨[(0, q0 v1), (1, tI v2), (4, .pc 0 0), (5, .pc 1 0), (6, tI v16), (7, tI v23), (8, tI v24), (10, tI v25), (11, .rp (c35 (gD ((gD v1 v16).f3) v25))), (12, tI (if (1 : Int) > (gD ((gD v1 v16).f3) v25).f2 then (1 : Int) else (gD ((gD v1 v16).f3) v25).f2))], [.cells 69 [nS, nS], .cells 69 [k2 v17, k2 v18]]⟩ rfl ?_ z0 trivial ?_
           · kernel_rfl
           refine AOps.nil ?_
           refine AWp.seq ?_
           refine AWp.start [0, 1] [] [] [0, 1, 4, 5, 6, 7, 8, 10, 11, 12, 13, 14] 2 ⟨[(0, q0 v1), (1, tI v2), (4, .pc 0 0), (5, .pc 1 0), (6, tI v16), (7, tI v23), (8, tI v24), (10, tI v25), (11, .rp (c35 (gD ((gD v1 v16).f3) v25))), (12, tI (if (1 : Int) > (gD ((gD v1 v16).f3) v25).f2 then (1 : Int) else (gD ((gD v1 v16).f3) v25).f2)), (13, tI (1 : Int)), (14, tI (0 : Int))], [.cells 69 [nS, nS], .cells 69 [k2 v17, k2 v18]]⟩ rfl ?_ z0 trivial ?_
           · kernel_rfl
           refine AOps.nil ?_
           refine AWp.join (V := Int × Int) (fun w => ⟨[(0, q0 v1), (1, tI v2), (4, .pc 0 0), (5, .pc 1 0), (6, tI v16), (7, tI v23), (8, tI v24), (10, tI v25), (12, tI (if (1 : Int) > (gD ((gD v1 v16).f3) v25).f2 then (1 : Int) else (gD ((gD v1 v16).f3) v25).f2)), (13, tI w.1), (14, tI w.2)], [.cells 69 [nS, nS], .cells 69 [k2 v17, k2 v18]]⟩) (fun w => f42_j1 v1 v16 v23 v24 v25 w.1 w.2 = some o) ?_ ?_
           · refine AWp.seq ?_
             refine AWp.start [0, 1, 2] [] [] [0, 1, 4, 5, 6, 7, 8, 10, 11, 12, 13, 14, 70] 2 ⟨[(0, q0 v1), (1, tI v2), (4, .pc 0 0), (5, .pc 1 0), (6, tI v16), (7, tI v23), (8, tI v24), (10, tI v25), (11, .rp (c35 (gD ((gD v1 v16).f3) v25))), (12, tI (if (1 : Int) > (gD ((gD v1 v16).f3) v25).f2 then (1 : Int) else (gD ((gD v1 v16).f3) v25).f2)), (13, tI (1 : Int)), (14, tI (0 : Int)), (70, tB (!(((gD ((gD v1 v16).f3) v25).f1) == ([] : List UInt8))))], [.cells 69 [nS, nS], .cells 69 [k2 v17, k2 v18]]⟩ rfl ?_ z0 trivial ?_
             · kernel_rfl
             refine AOps.nil ?_
             refine AWp.cond rfl (fun hb => ?_) fun hb => ?_
             · replace h := of_true h hb
               refine AWp.keepTo [0, 1, 4, 5, 6, 7, 8, 10, 11, 12] 2 ⟨[(0, q0 v1), (1, tI v2), (4, .pc 0 0), (5, .pc 1 0), (6, tI v16), (7, tI v23), (8, tI v24), (10, tI v25), (11, .rp (c35 (gD ((gD v1 v16).f3) v25))), (12, tI (if (1 : Int) > (gD ((gD v1 v16).f3) v25).f2 then (1 : Int) else (gD ((gD v1 v16).f3) v25).f2))], [.cells 69 [nS, nS], .cells 69 [k2 v17, k2 v18]]⟩ ?_ z0 ?_
               · kernel_rfl
               refine AWp.seq ?_
               refine AWp.start [0, 1, 2, 3] [4, 5] [] [0, 1, 4, 5, 6, 7, 8, 10, 12, 71, 72, 74] 2 ⟨[(0, q0 v1), (1, tI v2), (4, .pc 0 0), (5, .pc 1 0), (6, tI v16), (7, tI v23), (8, tI v24), (10, tI v25), (12, tI (if (1 : Int) > (gD ((gD v1 v16).f3) v25).f2 then (1 : Int) else (gD ((gD v1 v16).f3) v25).f2)), (71, q0 v1), (72, tI v16), (74, tS ((gD ((gD v1 v16).f3) v25).f1))], [.cells 69 [nS, nS], .cells 69 [k2 v17, k2 v18]]⟩ rfl ?_ z0 trivial ?_
               · kernel_rfl
               obtain ⟨v33, hv33, h⟩ := of_bind h
               refine AOps.cons (AOne.callP (F := (FF 113 0)) _ rfl rfl rfl _ rfl rfl _ _ rfl Try.call49 [q0 v1, tI v16, tS ((gD ((gD v1 v16).f3) v25).f1)] rfl rfl (f49_ok v1 v16 ((gD ((gD v1 v16).f3) v25).f1) hv33) rfl) ?_
               refine AOps.go [5] [] [] [0, 1, 4, 5, 6, 7, 8, 10, 12, 15] 2 ⟨[(0, q0 v1), (1, tI v2), (4, .pc 0 0), (5, .pc 1 0), (6, tI v16), (7, tI v23), (8, tI v24), (10, tI v25), (12, tI (if (1 : Int) > (gD ((gD v1 v16).f3) v25).f2 then (1 : Int) else (gD ((gD v1 v16).f3) v25).f2)), (15, tI v33)], [.cells 69 [nS, nS], .cells 69 [k2 v17, k2 v18]]⟩ ?_ z0 trivial ?_
               · kernel_rfl
               refine AOps.nil ?_
               refine AWp.draw FFm _ (n := 12) rfl (ls := #[n1, n1, n1, n1, n1, n1, n1, n1, n1, n1, n1, n1]) rfl ?_ (fun _ h => h)
               refine AAny.go (by kernel_rfl) [0, 2, 5, 7] (fuel' := 8) rfl [] #[y1, n1, y1, n1, n1, y1, n1, y1, n1, n1, n1, n1] [0, 1, 4, 5, 6, 7, 8, 10, 12, 76, 78, 81, 83] 2 ⟨[(0, q0 v1), (1, tI v2), (4, .pc 0 0), (5, .pc 1 0), (6, tI v16), (7, tI v23), (8, tI v24), (10, tI v25), (12, tI (if (1 : Int) > (gD ((gD v1 v16).f3) v25).f2 then (1 : Int) else (gD ((gD v1 v16).f3) v25).f2)), (76, .pc 1 0), (78, tI v33), (81, .pc 1 1), (83, tI v33)], [.cells 69 [nS, nS], .cells 69 [k2 v17, k2 v18]]⟩ ?_ z0 trivial ?_
               · kernel_rfl
               refine AAny.goR (by kernel_rfl) (i := 1) (fuel' := 7) [3, 4, 10, 11] rfl (by kernel_rfl) (by kernel_rfl) [] #[y1, y1, y1, n1, n1, y1, n1, y1, n1, n1, n1, n1] rfl [0, 1, 4, 5, 6, 7, 8, 10, 12, 77, 78, 81, 83] 2 ⟨[(0, q0 v1), (1, tI v2), (4, .pc 0 0), (5, .pc 1 0), (6, tI v16), (7, tI v23), (8, tI v24), (10, tI v25), (12, tI (if (1 : Int) > (gD ((gD v1 v16).f3) v25).f2 then (1 : Int) else (gD ((gD v1 v16).f3) v25).f2)), (77, .al (.cell 1 0, [])), (78, tI v33), (81, .pc 1 1), (83, tI v33)], [.cells 69 [nS, nS], .cells 69 [k2 v17, k2 v18]]⟩ ?_ z0 trivial ?_
               · kernel_rfl
               obtain ⟨hg, h⟩ := of_guard h
               refine AAny.go (by kernel_rfl) [3] (fuel' := 6) rfl [(0 : Int) ≤ v33, v33 < (v17.length : Int)] #[y1, y1, y1, y1, n1, y1, n1, y1, n1, n1, n1, n1] [0, 1, 4, 5, 6, 7, 8, 10, 12, 79, 81, 83] 2 ⟨[(0, q0 v1), (1, tI v2), (4, .pc 0 0), (5, .pc 1 0), (6, tI v16), (7, tI v23), (8, tI v24), (10, tI v25), (12, tI (if (1 : Int) > (gD ((gD v1 v16).f3) v25).f2 then (1 : Int) else (gD ((gD v1 v16).f3) v25).f2)), (79, .pe (.cell 1 0, []) v33.toNat 0 1), (81, .pc 1 1), (83, tI v33)], [.cells 69 [nS, nS], .cells 69 [k2 v17, k2 v18]]⟩ ?_ z0 ⟨hg.1, hg.2⟩ ?_
               · kernel_rfl
               refine AAny.goR (by kernel_rfl) (i := 4) (fuel' := 5) [10, 11] rfl (by kernel_rfl) (by kernel_rfl) [] #[y1, y1, y1, y1, y1, y1, n1, y1, n1, n1, n1, n1] rfl [0, 1, 4, 5, 6, 7, 8, 10, 12, 80, 81, 83] 2 ⟨[(0, q0 v1), (1, tI v2), (4, .pc 0 0), (5, .pc 1 0), (6, tI v16), (7, tI v23), (8, tI v24), (10, tI v25), (12, tI (if (1 : Int) > (gD ((gD v1 v16).f3) v25).f2 then (1 : Int) else (gD ((gD v1 v16).f3) v25).f2)), (80, tI (gD v17 v33)), (81, .pc 1 1), (83, tI v33)], [.cells 69 [nS, nS], .cells 69 [k2 v17, k2 v18]]⟩ ?_ z0 trivial ?_
               · kernel_rfl
               refine AAny.go (by kernel_rfl) [10] (fuel' := 4) rfl [] #[y1, y1, y1, y1, y1, y1, n1, y1, n1, n1, y1, n1] [0, 1, 4, 5, 6, 7, 8, 10, 12, 13, 81, 83] 2 ⟨[(0, q0 v1), (1, tI v2), (4, .pc 0 0), (5, .pc 1 0), (6, tI v16), (7, tI v23), (8, tI v24), (10, tI v25), (12, tI (if (1 : Int) > (gD ((gD v1 v16).f3) v25).f2 then (1 : Int) else (gD ((gD v1 v16).f3) v25).f2)), (13, tI (gD v17 v33)), (81, .pc 1 1), (83, tI v33)], [.cells 69 [nS, nS], .cells 69 [k2 v17, k2 v18]]⟩ ?_ z0 trivial ?_
               · kernel_rfl
               refine AAny.step (i := 6) (fuel' := 3) rfl (by kernel_rfl) [] #[y1, y1, y1, y1, y1, y1, y1, y1, n1, n1, y1, n1] rfl [0, 1, 4, 5, 6, 7, 8, 10, 12, 13, 82, 83] 2 ⟨[(0, q0 v1), (1, tI v2), (4, .pc 0 0), (5, .pc 1 0), (6, tI v16), (7, tI v23), (8, tI v24), (10, tI v25), (12, tI (if (1 : Int) > (gD ((gD v1 v16).f3) v25).f2 then (1 : Int) else (gD ((gD v1 v16).f3) v25).f2)), (13, tI (gD v17 v33)), (82, .al (.cell 1 1, [])), (83, tI v33)], [.cells 69 [nS, nS], .cells 69 [k2 v17, k2 v18]]⟩ ?_ z0 trivial ?_
               · kernel_rfl
               obtain ⟨hg, h⟩ := of_guard h
               refine AAny.go (by kernel_rfl) [8] (fuel' := 2) rfl [(0 : Int) ≤ v33, v33 < (v18.length : Int)] #[y1, y1, y1, y1, y1, y1, y1, y1, y1, n1, y1, n1] [0, 1, 4, 5, 6, 7, 8, 10, 12, 13, 84] 2 ⟨[(0, q0 v1), (1, tI v2), (4, .pc 0 0), (5, .pc 1 0), (6, tI v16), (7, tI v23), (8, tI v24), (10, tI v25), (12, tI (if (1 : Int) > (gD ((gD v1 v16).f3) v25).f2 then (1 : Int) else (gD ((gD v1 v16).f3) v25).f2)), (13, tI (gD v17 v33)), (84, .pe (.cell 1 1, []) v33.toNat 0 1)], [.cells 69 [nS, nS], .cells 69 [k2 v17, k2 v18]]⟩ ?_ z0 ⟨hg.1, hg.2⟩ ?_
               · kernel_rfl
               refine AAny.step (i := 9) (fuel' := 1) rfl (by kernel_rfl) [] #[y1, y1, y1, y1, y1, y1, y1, y1, y1, y1, y1, n1] rfl [0, 1, 4, 5, 6, 7, 8, 10, 12, 13, 85] 2 ⟨[(0, q0 v1), (1, tI v2), (4, .pc 0 0), (5, .pc 1 0), (6, tI v16), (7, tI v23), (8, tI v24), (10, tI v25), (12, tI (if (1 : Int) > (gD ((gD v1 v16).f3) v25).f2 then (1 : Int) else (gD ((gD v1 v16).f3) v25).f2)), (13, tI (gD v17 v33)), (85, tI (gD v18 v33))], [.cells 69 [nS, nS], .cells 69 [k2 v17, k2 v18]]⟩ ?_ z0 trivial ?_
               · kernel_rfl
               refine AAny.go (by kernel_rfl) [11] (fuel' := 0) rfl [] #[y1, y1, y1, y1, y1, y1, y1, y1, y1, y1, y1, y1] [0, 1, 4, 5, 6, 7, 8, 10, 12, 13, 14] 2 ⟨[(0, q0 v1), (1, tI v2), (4, .pc 0 0), (5, .pc 1 0), (6, tI v16), (7, tI v23), (8, tI v24), (10, tI v25), (12, tI (if (1 : Int) > (gD ((gD v1 v16).f3) v25).f2 then (1 : Int) else (gD ((gD v1 v16).f3) v25).f2)), (13, tI (gD v17 v33)), (14, tI (gD v18 v33))], [.cells 69 [nS, nS], .cells 69 [k2 v17, k2 v18]]⟩ ?_ z0 trivial ?_
               · kernel_rfl
               refine AAny.keepTo [0, 1, 4, 5, 6, 7, 8, 10, 12, 13, 14] 2 ⟨[(0, q0 v1), (1, tI v2), (4, .pc 0 0), (5, .pc 1 0), (6, tI v16), (7, tI v23), (8, tI v24), (10, tI v25), (12, tI (if (1 : Int) > (gD ((gD v1 v16).f3) v25).f2 then (1 : Int) else (gD ((gD v1 v16).f3) v25).f2)), (13, tI (gD v17 v33)), (14, tI (gD v18 v33))], [.cells 69 [nS, nS], .cells 69 [k2 v17, k2 v18]]⟩ _ ?_ rfl z0 (AAny.done (by kernel_rfl) ?_)
               · kernel_rfl
               exact ⟨(gD v17 v33, gD v18 v33), h, rfl⟩
             · replace h := of_false h hb
               refine AWp.keepTo [0, 1, 4, 5, 6, 7, 8, 10, 12, 13, 14] 2 ⟨[(0, q0 v1), (1, tI v2), (4, .pc 0 0), (5, .pc 1 0), (6, tI v16), (7, tI v23), (8, tI v24), (10, tI v25), (12, tI (if (1 : Int) > (gD ((gD v1 v16).f3) v25).f2 then (1 : Int) else (gD ((gD v1 v16).f3) v25).f2)), (13, tI (1 : Int)), (14, tI (0 : Int))], [.cells 69 [nS, nS], .cells 69 [k2 v17, k2 v18]]⟩ ?_ z0 ?_
               · kernel_rfl
               refine AWp.skip ?_
               exact ⟨((1 : Int), (0 : Int)), h, rfl⟩
           · rintro ⟨v28, v29⟩ h
             refine AWp.seq ?_
             refine AWp.start [0, 1, 2, 3, 4] [5, 6] [] [0, 1, 4, 5, 6, 8, 10, 12, 14, 90] 2 ⟨[(0, q0 v1), (1, tI v2), (4, .pc 0 0), (5, .pc 1 0), (6, tI v16), (8, tI v24), (10, tI v25), (12, tI (if (1 : Int) > (gD ((gD v1 v16).f3) v25).f2 then (1 : Int) else (gD ((gD v1 v16).f3) v25).f2)), (14, tI v29), (90, tI (w64 (v23 + (w64 ((if (1 : Int) > (gD ((gD v1 v16).f3) v25).f2 then (1 : Int) else (gD ((gD v1 v16).f3) v25).f2) * v28)))))], [.cells 69 [nS, nS], .cells 69 [k2 v17, k2 v18]]⟩ rfl ?_ z0 trivial ?_
             · kernel_rfl
             obtain ⟨v30, hv30, h⟩ := of_bind h
             refine AOps.cons (AOne.callP (F := (FF 113 0)) _ rfl rfl rfl _ rfl rfl _ _ rfl Try.call72 [tI (w64 (v23 + (w64 ((if (1 : Int) > (gD ((gD v1 v16).f3) v25).f2 then (1 : Int) else (gD ((gD v1 v16).f3) v25).f2) * v28))))] rfl rfl (f72_ok (w64 (v23 + (w64 ((if (1 : Int) > (gD ((gD v1 v16).f3) v25).f2 then (1 : Int) else (gD ((gD v1 v16).f3) v25).f2) * v28)))) hv30) rfl) ?_
             refine AOps.go [6] [] [] [0, 1, 4, 5, 6, 7, 8, 10, 12, 14] 2 ⟨[(0, q0 v1), (1, tI v2), (4, .pc 0 0), (5, .pc 1 0), (6, tI v16), (7, tI v30), (8, tI v24), (10, tI v25), (12, tI (if (1 : Int) > (gD ((gD v1 v16).f3) v25).f2 then (1 : Int) else (gD ((gD v1 v16).f3) v25).f2)), (14, tI v29)], [.cells 69 [nS, nS], .cells 69 [k2 v17, k2 v18]]⟩ ?_ z0 trivial ?_
             · kernel_rfl
             refine AOps.nil ?_
             refine AWp.start [0, 1, 2, 3] [4, 5, 6, 7, 8] [] [0, 1, 4, 5, 6, 7, 10, 92, 93, 95] 2 ⟨[(0, q0 v1), (1, tI v2), (4, .pc 0 0), (5, .pc 1 0), (6, tI v16), (7, tI v30), (10, tI v25), (92, tI v24), (93, tI (if (1 : Int) > (gD ((gD v1 v16).f3) v25).f2 then (1 : Int) else (gD ((gD v1 v16).f3) v25).f2)), (95, tI (w64 ((1 : Int) + v29)))], [.cells 69 [nS, nS], .cells 69 [k2 v17, k2 v18]]⟩ rfl ?_ z0 trivial ?_
             · kernel_rfl
             obtain ⟨v31, hv31, h⟩ := of_bind h
             refine AOps.cons (AOne.callP (F := (FF 113 0)) _ rfl rfl rfl _ rfl rfl _ _ rfl Try.call72 [tI (w64 ((1 : Int) + v29))] rfl rfl (f72_ok (w64 ((1 : Int) + v29)) hv31) rfl) ?_
             refine AOps.go [5, 6] [7, 8] [] [0, 1, 4, 5, 6, 7, 10, 98] 2 ⟨[(0, q0 v1), (1, tI v2), (4, .pc 0 0), (5, .pc 1 0), (6, tI v16), (7, tI v30), (10, tI v25), (98, tI (w64 (v24 + (w64 ((if (1 : Int) > (gD ((gD v1 v16).f3) v25).f2 then (1 : Int) else (gD ((gD v1 v16).f3) v25).f2) * v31)))))], [.cells 69 [nS, nS], .cells 69 [k2 v17, k2 v18]]⟩ ?_ z0 trivial ?_
             · kernel_rfl
             obtain ⟨v32, hv32, h⟩ := of_bind h
             refine AOps.cons (AOne.callP (F := (FF 113 0)) _ rfl rfl rfl _ rfl rfl _ _ rfl Try.call72 [tI (w64 (v24 + (w64 ((if (1 : Int) > (gD ((gD v1 v16).f3) v25).f2 then (1 : Int) else (gD ((gD v1 v16).f3) v25).f2) * v31))))] rfl rfl (f72_ok (w64 (v24 + (w64 ((if (1 : Int) > (gD ((gD v1 v16).f3) v25).f2 then (1 : Int) else (gD ((gD v1 v16).f3) v25).f2) * v31)))) hv32) rfl) ?_
             refine AOps.go [8] [] [] [0, 1, 4, 5, 6, 7, 8, 10] 2 ⟨[(0, q0 v1), (1, tI v2), (4, .pc 0 0), (5, .pc 1 0), (6, tI v16), (7, tI v30), (8, tI v32), (10, tI v25)], [.cells 69 [nS, nS], .cells 69 [k2 v17, k2 v18]]⟩ ?_ z0 trivial ?_
             · kernel_rfl
             refine AOps.nil ?_
             refine AWp.start [0, 1, 2] [] [] [0, 1, 4, 5, 6, 7, 8, 10] 2 ⟨[(0, q0 v1), (1, tI v2), (4, .pc 0 0), (5, .pc 1 0), (6, tI v16), (7, tI v30), (8, tI v32), (10, tI (w64 (v25 + (1 : Int))))], [.cells 69 [nS, nS], .cells 69 [k2 v17, k2 v18]]⟩ rfl ?_ z0 trivial ?_
             · kernel_rfl
             refine AOps.nil ?_
             cases h
             exact Or.inl ⟨_, rfl, rfl, rfl⟩
         · replace h := of_false h hb
           refine AWp.keepTo [0, 1, 4, 5, 6, 7, 8] 2 ⟨[(0, q0 v1), (1, tI v2), (4, .pc 0 0), (5, .pc 1 0), (6, tI v16), (7, tI v23), (8, tI v24)], [.cells 69 [nS, nS], .cells 69 [k2 v17, k2 v18]]⟩ ?_ z0 ?_
           · kernel_rfl
           refine AWp.exit ?_
           cases h
           exact Or.inr ⟨_, rfl, by simp, rfl, rfl⟩
       · intro e σ hp
         rcases y with v34 | ⟨v26, v27⟩
         · obtain ⟨rfl, rfl⟩ := hp
           cases h
           exact Or.inr ⟨_, rfl, by simp, rfl, rfl⟩
         · obtain ⟨rfl, rfl⟩ := hp
           refine AWp.draw FFm _ (n := 14) rfl (ls := #[n1, n1, n1, n1, n1, n1, n1, n1, n1, n1, n1, n1, n1, n1]) rfl ?_ (fun _ h => h)
           refine AAny.go (by kernel_rfl) [0, 2, 5, 7] (fuel' := 10) rfl [] #[y1, n1, y1, n1, n1, y1, n1, y1, n1, n1, n1, n1, n1, n1] [0, 1, 4, 5, 6, 100, 102, 105, 107] 2 ⟨[(0, q0 v1), (1, tI v2), (4, .pc 0 0), (5, .pc 1 0), (6, tI v16), (100, .pc 1 0), (102, tI v26), (105, .pc 1 1), (107, tI v27)], [.cells 69 [nS, nS], .cells 69 [k2 v17, k2 v18]]⟩ ?_ z0 trivial ?_
           · kernel_rfl
           obtain ⟨hd17, h⟩ := of_guard h
           obtain ⟨hd18, h⟩ := of_guard h
           refine AAny.share 3 #[y1, y1, y1, y1, y1, y1, y1, y1, y1, y1, y1, n1, n1, n1] ⟨[(0, q0 v1), (1, tI v2), (4, .pc 0 0), (5, .pc 1 0), (6, tI v16), (104, q1 (v17 ++ [v26])), (109, q1 (v18 ++ [v27])), (110, .pc 1 0)], [.cells 69 [nS, nS], .cells 69 [.hole, .hole]]⟩ ?_ fun n12_ => ?_
           · refine AAny.serial (i := 11) (fuel := 2) (by kernel_rfl) (AOne.own (F := (FF 113 0)) _ rfl rfl rfl rfl) ?_
             refine AAny.keepTo [0, 1, 4, 5, 6, 109] 2 ⟨[(0, q0 v1), (1, tI v2), (4, .pc 0 0), (5, .pc 1 0), (6, tI v16), (109, q1 (v18 ++ [v27]))], [.cells 69 [nS, nS], .cells 69 [k2 (v17 ++ [v26]), .hole]]⟩ #[y1, y1, y1, y1, y1, y1, y1, y1, y1, y1, y1, y1, n1, n1] ?_ rfl z0 ?_
             · kernel_rfl
             refine AAny.go (by kernel_rfl) [12] (fuel' := 1) rfl [] #[y1, y1, y1, y1, y1, y1, y1, y1, y1, y1, y1, y1, y1, n1] [0, 1, 4, 5, 6, 109, 111] 2 ⟨[(0, q0 v1), (1, tI v2), (4, .pc 0 0), (5, .pc 1 0), (6, tI v16), (109, q1 (v18 ++ [v27])), (111, .pc 1 1)], [.cells 69 [nS, nS], .cells 69 [k2 (v17 ++ [v26]), .hole]]⟩ ?_ z0 trivial ?_
             · kernel_rfl
             refine AAny.serial (i := 13) (fuel := 0) (by kernel_rfl) (AOne.own (F := (FF 113 0)) _ rfl rfl rfl rfl) ?_
             refine AAny.keepTo [0, 1, 4, 5, 6] 2 ⟨[(0, q0 v1), (1, tI v2), (4, .pc 0 0), (5, .pc 1 0), (6, tI v16)], [.cells 69 [nS, nS], .cells 69 [k2 (v17 ++ [v26]), k2 (v18 ++ [v27])]]⟩ #[y1, y1, y1, y1, y1, y1, y1, y1, y1, y1, y1, y1, y1, y1] ?_ rfl z0 ?_
             · kernel_rfl
             refine AAny.keepTo [0, 1, 4, 5, 6] 2 ⟨[(0, q0 v1), (1, tI v2), (4, .pc 0 0), (5, .pc 1 0), (6, tI v16)], [.cells 69 [nS, nS], .cells 69 [k2 (v17 ++ [v26]), k2 (v18 ++ [v27])]]⟩ _ ?_ rfl z0 (AAny.done (by kernel_rfl) ?_)
             · kernel_rfl
             refine AWp.start [0, 1, 2] [] [] [0, 1, 4, 5, 6] 2 ⟨[(0, q0 v1), (1, tI v2), (4, .pc 0 0), (5, .pc 1 0), (6, tI (w64 (v16 + (1 : Int))))], [.cells 69 [nS, nS], .cells 69 [k2 (v17 ++ [v26]), k2 (v18 ++ [v27])]]⟩ rfl ?_ z0 trivial ?_
             · kernel_rfl
             refine AOps.nil ?_
             cases h
             exact Or.inl ⟨_, rfl, rfl, rfl⟩
           refine AAny.share 4 #[y1, y1, y1, y1, y1, y1, y1, y1, y1, n1, y1, n1, n1, n1] ⟨[(0, q0 v1), (1, tI v2), (4, .pc 0 0), (5, .pc 1 0), (6, tI v16), (104, q1 (v17 ++ [v26])), (106, .al (.cell 1 1, [])), (108, q1 [v27]), (110, .pc 1 0)], [.cells 69 [nS, nS], .cells 69 [.hole, k2 v18]]⟩ ?_ fun n11_ => ?_
           · refine AAny.each [9] (by kernel_rfl) rfl ?_
             refine AEach.step (i := 9) [(v18.length + [v27].length) * 8 ≤ 140737488355328, PlainTo v18.length (fun i => (cInt .i64) (v18.getD i default)), PlainTo ([v27].length) (fun i => (cInt .i64) ([v27].getD i default))] #[y1, y1, y1, y1, y1, y1, y1, y1, y1, y1, y1, n1, n1, n1] rfl [0, 1, 4, 5, 6, 104, 109, 110] 2 ⟨[(0, q0 v1), (1, tI v2), (4, .pc 0 0), (5, .pc 1 0), (6, tI v16), (104, q1 (v17 ++ [v26])), (109, .tv (.own 1 3 (v18.length + [v27].length) (appF v18.length (fun i => (cInt .i64) (v18.getD i default)) (fun i => (cInt .i64) ([v27].getD i default))))), (110, .pc 1 0)], [.cells 69 [nS, nS], .cells 69 [.hole, .hole]]⟩ ?_ z0 ⟨hd18, (fun _ _ => rfl), (fun _ _ => rfl)⟩ ?_ ?_
             · kernel_rfl
             · refine AAny.extL 109 (cInt .i64) (v18 ++ [v27]) rfl List.length_append.symm (app_at (cInt .i64) v18 [v27]) ?_
               refine AAny.keepTo [0, 1, 4, 5, 6, 104, 109, 110] 2 ⟨[(0, q0 v1), (1, tI v2), (4, .pc 0 0), (5, .pc 1 0), (6, tI v16), (104, q1 (v17 ++ [v26])), (109, q1 (v18 ++ [v27])), (110, .pc 1 0)], [.cells 69 [nS, nS], .cells 69 [.hole, .hole]]⟩ #[y1, y1, y1, y1, y1, y1, y1, y1, y1, y1, y1, n1, n1, n1] ?_ rfl z0 ?_
               · kernel_rfl
               exact n12_
             exact AEach.nil
           refine AAny.share 5 #[y1, y1, y1, y1, y1, y1, y1, y1, n1, n1, y1, n1, n1, n1] ⟨[(0, q0 v1), (1, tI v2), (4, .pc 0 0), (5, .pc 1 0), (6, tI v16), (104, q1 (v17 ++ [v26])), (106, .al (.cell 1 1, [])), (107, tI v27), (110, .pc 1 0)], [.cells 69 [nS, nS], .cells 69 [.hole, k2 v18]]⟩ ?_ fun n18_ => ?_
           · refine AAny.each [8] (by kernel_rfl) rfl ?_
             refine AEach.step (i := 8) [] #[y1, y1, y1, y1, y1, y1, y1, y1, y1, n1, y1, n1, n1, n1] rfl [0, 1, 4, 5, 6, 104, 106, 108, 110] 2 ⟨[(0, q0 v1), (1, tI v2), (4, .pc 0 0), (5, .pc 1 0), (6, tI v16), (104, q1 (v17 ++ [v26])), (106, .al (.cell 1 1, [])), (108, .tv (.own 1 3 1 (newRowF [.int .i64 v27] 1))), (110, .pc 1 0)], [.cells 69 [nS, nS], .cells 69 [.hole, k2 v18]]⟩ ?_ z0 trivial ?_ ?_
             · kernel_rfl
             · refine AAny.extL 108 (cInt .i64) [v27] rfl rfl (row_at (cInt .i64) 1 (fun _ => rfl) [v27] _ rfl) ?_
               refine AAny.keepTo [0, 1, 4, 5, 6, 104, 106, 108, 110] 2 ⟨[(0, q0 v1), (1, tI v2), (4, .pc 0 0), (5, .pc 1 0), (6, tI v16), (104, q1 (v17 ++ [v26])), (106, .al (.cell 1 1, [])), (108, q1 [v27]), (110, .pc 1 0)], [.cells 69 [nS, nS], .cells 69 [.hole, k2 v18]]⟩ #[y1, y1, y1, y1, y1, y1, y1, y1, y1, n1, y1, n1, n1, n1] ?_ rfl z0 ?_
               · kernel_rfl
               exact n11_
             exact AEach.nil
           refine AAny.share 6 #[y1, y1, y1, y1, n1, y1, y1, y1, y1, n1, n1, n1, n1, n1] ⟨[(0, q0 v1), (1, tI v2), (4, .pc 0 0), (5, .pc 1 0), (6, tI v16), (101, .al (.cell 1 0, [])), (103, q1 [v26]), (106, .al (.cell 1 1, [])), (108, q1 [v27])], [.cells 69 [nS, nS], .cells 69 [k2 v17, k2 v18]]⟩ ?_ fun n10_ => ?_
           · refine AAny.each [4] (by kernel_rfl) rfl ?_
             refine AEach.step (i := 4) [(v17.length + [v26].length) * 8 ≤ 140737488355328, PlainTo v17.length (fun i => (cInt .i64) (v17.getD i default)), PlainTo ([v26].length) (fun i => (cInt .i64) ([v26].getD i default))] #[y1, y1, y1, y1, y1, y1, y1, y1, y1, n1, n1, n1, n1, n1] rfl [0, 1, 4, 5, 6, 104, 106, 108] 2 ⟨[(0, q0 v1), (1, tI v2), (4, .pc 0 0), (5, .pc 1 0), (6, tI v16), (104, .tv (.own 1 3 (v17.length + [v26].length) (appF v17.length (fun i => (cInt .i64) (v17.getD i default)) (fun i => (cInt .i64) ([v26].getD i default))))), (106, .al (.cell 1 1, [])), (108, q1 [v27])], [.cells 69 [nS, nS], .cells 69 [.hole, k2 v18]]⟩ ?_ z0 ⟨hd17, (fun _ _ => rfl), (fun _ _ => rfl)⟩ ?_ ?_
             · kernel_rfl
             · refine AAny.extL 104 (cInt .i64) (v17 ++ [v26]) rfl List.length_append.symm (app_at (cInt .i64) v17 [v26]) ?_
               refine AAny.go (by kernel_rfl) [10] (fuel' := 4) rfl [] #[y1, y1, y1, y1, y1, y1, y1, y1, y1, n1, y1, n1, n1, n1] [0, 1, 4, 5, 6, 104, 106, 108, 110] 2 ⟨[(0, q0 v1), (1, tI v2), (4, .pc 0 0), (5, .pc 1 0), (6, tI v16), (104, q1 (v17 ++ [v26])), (106, .al (.cell 1 1, [])), (108, q1 [v27]), (110, .pc 1 0)], [.cells 69 [nS, nS], .cells 69 [.hole, k2 v18]]⟩ ?_ z0 trivial ?_
               · kernel_rfl
               exact n11_
             exact AEach.nil
           refine AAny.share 6 #[y1, y1, y1, y1, y1, y1, n1, y1, y1, n1, n1, n1, n1, n1] ⟨[(0, q0 v1), (1, tI v2), (4, .pc 0 0), (5, .pc 1 0), (6, tI v16), (104, q1 (v17 ++ [v26])), (105, .pc 1 1), (108, q1 [v27])], [.cells 69 [nS, nS], .cells 69 [.hole, k2 v18]]⟩ ?_ fun n14_ => ?_
           · refine AAny.each [6] (by kernel_rfl) rfl ?_
             refine AEach.step (i := 6) [] #[y1, y1, y1, y1, y1, y1, y1, y1, y1, n1, n1, n1, n1, n1] rfl [0, 1, 4, 5, 6, 104, 106, 108] 2 ⟨[(0, q0 v1), (1, tI v2), (4, .pc 0 0), (5, .pc 1 0), (6, tI v16), (104, q1 (v17 ++ [v26])), (106, .al (.cell 1 1, [])), (108, q1 [v27])], [.cells 69 [nS, nS], .cells 69 [.hole, k2 v18]]⟩ ?_ z0 trivial ?_ ?_
             · kernel_rfl
             · refine AAny.go (by kernel_rfl) [10] (fuel' := 4) rfl [] #[y1, y1, y1, y1, y1, y1, y1, y1, y1, n1, y1, n1, n1, n1] [0, 1, 4, 5, 6, 104, 106, 108, 110] 2 ⟨[(0, q0 v1), (1, tI v2), (4, .pc 0 0), (5, .pc 1 0), (6, tI v16), (104, q1 (v17 ++ [v26])), (106, .al (.cell 1 1, [])), (108, q1 [v27]), (110, .pc 1 0)], [.cells 69 [nS, nS], .cells 69 [.hole, k2 v18]]⟩ ?_ z0 trivial ?_
               · kernel_rfl
               exact n11_
             exact AEach.nil
           refine AAny.share 7 #[y1, n1, y1, y1, n1, y1, y1, y1, y1, n1, n1, n1, n1, n1] ⟨[(0, q0 v1), (1, tI v2), (4, .pc 0 0), (5, .pc 1 0), (6, tI v16), (100, .pc 1 0), (103, q1 [v26]), (106, .al (.cell 1 1, [])), (108, q1 [v27])], [.cells 69 [nS, nS], .cells 69 [k2 v17, k2 v18]]⟩ ?_ fun n9_ => ?_
           · refine AAny.each [1] (by kernel_rfl) rfl ?_
             refine AEach.step (i := 1) [] #[y1, y1, y1, y1, n1, y1, y1, y1, y1, n1, n1, n1, n1, n1] rfl [0, 1, 4, 5, 6, 101, 103, 106, 108] 2 ⟨[(0, q0 v1), (1, tI v2), (4, .pc 0 0), (5, .pc 1 0), (6, tI v16), (101, .al (.cell 1 0, [])), (103, q1 [v26]), (106, .al (.cell 1 1, [])), (108, q1 [v27])], [.cells 69 [nS, nS], .cells 69 [k2 v17, k2 v18]]⟩ ?_ z0 trivial ?_ ?_
             · kernel_rfl
             · exact n10_
             exact AEach.nil
           refine AAny.share 7 #[y1, y1, y1, n1, n1, y1, y1, y1, y1, n1, n1, n1, n1, n1] ⟨[(0, q0 v1), (1, tI v2), (4, .pc 0 0), (5, .pc 1 0), (6, tI v16), (101, .al (.cell 1 0, [])), (102, tI v26), (106, .al (.cell 1 1, [])), (108, q1 [v27])], [.cells 69 [nS, nS], .cells 69 [k2 v17, k2 v18]]⟩ ?_ fun n8_ => ?_
           · refine AAny.each [3] (by kernel_rfl) rfl ?_
             refine AEach.step (i := 3) [] #[y1, y1, y1, y1, n1, y1, y1, y1, y1, n1, n1, n1, n1, n1] rfl [0, 1, 4, 5, 6, 101, 103, 106, 108] 2 ⟨[(0, q0 v1), (1, tI v2), (4, .pc 0 0), (5, .pc 1 0), (6, tI v16), (101, .al (.cell 1 0, [])), (103, .tv (.own 1 3 1 (newRowF [.int .i64 v26] 1))), (106, .al (.cell 1 1, [])), (108, q1 [v27])], [.cells 69 [nS, nS], .cells 69 [k2 v17, k2 v18]]⟩ ?_ z0 trivial ?_ ?_
             · kernel_rfl
             · refine AAny.extL 103 (cInt .i64) [v26] rfl rfl (row_at (cInt .i64) 1 (fun _ => rfl) [v26] _ rfl) ?_
               refine AAny.keepTo [0, 1, 4, 5, 6, 101, 103, 106, 108] 2 ⟨[(0, q0 v1), (1, tI v2), (4, .pc 0 0), (5, .pc 1 0), (6, tI v16), (101, .al (.cell 1 0, [])), (103, q1 [v26]), (106, .al (.cell 1 1, [])), (108, q1 [v27])], [.cells 69 [nS, nS], .cells 69 [k2 v17, k2 v18]]⟩ #[y1, y1, y1, y1, n1, y1, y1, y1, y1, n1, n1, n1, n1, n1] ?_ rfl z0 ?_
               · kernel_rfl
               exact n10_
             exact AEach.nil
           refine AAny.share 7 #[y1, y1, y1, y1, n1, y1, n1, y1, y1, n1, n1, n1, n1, n1] ⟨[(0, q0 v1), (1, tI v2), (4, .pc 0 0), (5, .pc 1 0), (6, tI v16), (101, .al (.cell 1 0, [])), (103, q1 [v26]), (105, .pc 1 1), (108, q1 [v27])], [.cells 69 [nS, nS], .cells 69 [k2 v17, k2 v18]]⟩ ?_ fun n13_ => ?_
           · refine AAny.each [4, 6] (by kernel_rfl) rfl ?_
             refine AEach.step (i := 4) [(v17.length + [v26].length) * 8 ≤ 140737488355328, PlainTo v17.length (fun i => (cInt .i64) (v17.getD i default)), PlainTo ([v26].length) (fun i => (cInt .i64) ([v26].getD i default))] #[y1, y1, y1, y1, y1, y1, n1, y1, y1, n1, n1, n1, n1, n1] rfl [0, 1, 4, 5, 6, 104, 105, 108] 2 ⟨[(0, q0 v1), (1, tI v2), (4, .pc 0 0), (5, .pc 1 0), (6, tI v16), (104, .tv (.own 1 3 (v17.length + [v26].length) (appF v17.length (fun i => (cInt .i64) (v17.getD i default)) (fun i => (cInt .i64) ([v26].getD i default))))), (105, .pc 1 1), (108, q1 [v27])], [.cells 69 [nS, nS], .cells 69 [.hole, k2 v18]]⟩ ?_ z0 ⟨hd17, (fun _ _ => rfl), (fun _ _ => rfl)⟩ ?_ ?_
             · kernel_rfl
             · refine AAny.extL 104 (cInt .i64) (v17 ++ [v26]) rfl List.length_append.symm (app_at (cInt .i64) v17 [v26]) ?_
               refine AAny.keepTo [0, 1, 4, 5, 6, 104, 105, 108] 2 ⟨[(0, q0 v1), (1, tI v2), (4, .pc 0 0), (5, .pc 1 0), (6, tI v16), (104, q1 (v17 ++ [v26])), (105, .pc 1 1), (108, q1 [v27])], [.cells 69 [nS, nS], .cells 69 [.hole, k2 v18]]⟩ #[y1, y1, y1, y1, y1, y1, n1, y1, y1, n1, n1, n1, n1, n1] ?_ rfl z0 ?_
               · kernel_rfl
               exact n14_
             refine AEach.step (i := 6) [] #[y1, y1, y1, y1, n1, y1, y1, y1, y1, n1, n1, n1, n1, n1] rfl [0, 1, 4, 5, 6, 101, 103, 106, 108] 2 ⟨[(0, q0 v1), (1, tI v2), (4, .pc 0 0), (5, .pc 1 0), (6, tI v16), (101, .al (.cell 1 0, [])), (103, q1 [v26]), (106, .al (.cell 1 1, [])), (108, q1 [v27])], [.cells 69 [nS, nS], .cells 69 [k2 v17, k2 v18]]⟩ ?_ z0 trivial ?_ ?_
             · kernel_rfl
             · exact n10_
             exact AEach.nil
           refine AAny.share 7 #[y1, y1, y1, y1, n1, y1, y1, y1, n1, n1, n1, n1, n1, n1] ⟨[(0, q0 v1), (1, tI v2), (4, .pc 0 0), (5, .pc 1 0), (6, tI v16), (101, .al (.cell 1 0, [])), (103, q1 [v26]), (106, .al (.cell 1 1, [])), (107, tI v27)], [.cells 69 [nS, nS], .cells 69 [k2 v17, k2 v18]]⟩ ?_ fun n17_ => ?_
           · refine AAny.each [4, 8] (by kernel_rfl) rfl ?_
             refine AEach.step (i := 4) [(v17.length + [v26].length) * 8 ≤ 140737488355328, PlainTo v17.length (fun i => (cInt .i64) (v17.getD i default)), PlainTo ([v26].length) (fun i => (cInt .i64) ([v26].getD i default))] #[y1, y1, y1, y1, y1, y1, y1, y1, n1, n1, n1, n1, n1, n1] rfl [0, 1, 4, 5, 6, 104, 106, 107] 2 ⟨[(0, q0 v1), (1, tI v2), (4, .pc 0 0), (5, .pc 1 0), (6, tI v16), (104, .tv (.own 1 3 (v17.length + [v26].length) (appF v17.length (fun i => (cInt .i64) (v17.getD i default)) (fun i => (cInt .i64) ([v26].getD i default))))), (106, .al (.cell 1 1, [])), (107, tI v27)], [.cells 69 [nS, nS], .cells 69 [.hole, k2 v18]]⟩ ?_ z0 ⟨hd17, (fun _ _ => rfl), (fun _ _ => rfl)⟩ ?_ ?_
             · kernel_rfl
             · refine AAny.extL 104 (cInt .i64) (v17 ++ [v26]) rfl List.length_append.symm (app_at (cInt .i64) v17 [v26]) ?_
               refine AAny.go (by kernel_rfl) [10] (fuel' := 5) rfl [] #[y1, y1, y1, y1, y1, y1, y1, y1, n1, n1, y1, n1, n1, n1] [0, 1, 4, 5, 6, 104, 106, 107, 110] 2 ⟨[(0, q0 v1), (1, tI v2), (4, .pc 0 0), (5, .pc 1 0), (6, tI v16), (104, q1 (v17 ++ [v26])), (106, .al (.cell 1 1, [])), (107, tI v27), (110, .pc 1 0)], [.cells 69 [nS, nS], .cells 69 [.hole, k2 v18]]⟩ ?_ z0 trivial ?_
               · kernel_rfl
               exact n18_
             refine AEach.step (i := 8) [] #[y1, y1, y1, y1, n1, y1, y1, y1, y1, n1, n1, n1, n1, n1] rfl [0, 1, 4, 5, 6, 101, 103, 106, 108] 2 ⟨[(0, q0 v1), (1, tI v2), (4, .pc 0 0), (5, .pc 1 0), (6, tI v16), (101, .al (.cell 1 0, [])), (103, q1 [v26]), (106, .al (.cell 1 1, [])), (108, .tv (.own 1 3 1 (newRowF [.int .i64 v27] 1)))], [.cells 69 [nS, nS], .cells 69 [k2 v17, k2 v18]]⟩ ?_ z0 trivial ?_ ?_
             · kernel_rfl
             · refine AAny.extL 108 (cInt .i64) [v27] rfl rfl (row_at (cInt .i64) 1 (fun _ => rfl) [v27] _ rfl) ?_
               refine AAny.keepTo [0, 1, 4, 5, 6, 101, 103, 106, 108] 2 ⟨[(0, q0 v1), (1, tI v2), (4, .pc 0 0), (5, .pc 1 0), (6, tI v16), (101, .al (.cell 1 0, [])), (103, q1 [v26]), (106, .al (.cell 1 1, [])), (108, q1 [v27])], [.cells 69 [nS, nS], .cells 69 [k2 v17, k2 v18]]⟩ #[y1, y1, y1, y1, n1, y1, y1, y1, y1, n1, n1, n1, n1, n1] ?_ rfl z0 ?_
               · kernel_rfl
               exact n10_
             exact AEach.nil
           refine AAny.share 7 #[y1, y1, y1, y1, y1, y1, n1, y1, n1, n1, n1, n1, n1, n1] ⟨[(0, q0 v1), (1, tI v2), (4, .pc 0 0), (5, .pc 1 0), (6, tI v16), (104, q1 (v17 ++ [v26])), (105, .pc 1 1), (107, tI v27)], [.cells 69 [nS, nS], .cells 69 [.hole, k2 v18]]⟩ ?_ fun n20_ => ?_
           · refine AAny.each [6, 8] (by kernel_rfl) rfl ?_
             refine AEach.step (i := 6) [] #[y1, y1, y1, y1, y1, y1, y1, y1, n1, n1, n1, n1, n1, n1] rfl [0, 1, 4, 5, 6, 104, 106, 107] 2 ⟨[(0, q0 v1), (1, tI v2), (4, .pc 0 0), (5, .pc 1 0), (6, tI v16), (104, q1 (v17 ++ [v26])), (106, .al (.cell 1 1, [])), (107, tI v27)], [.cells 69 [nS, nS], .cells 69 [.hole, k2 v18]]⟩ ?_ z0 trivial ?_ ?_
             · kernel_rfl
             · refine AAny.go (by kernel_rfl) [10] (fuel' := 5) rfl [] #[y1, y1, y1, y1, y1, y1, y1, y1, n1, n1, y1, n1, n1, n1] [0, 1, 4, 5, 6, 104, 106, 107, 110] 2 ⟨[(0, q0 v1), (1, tI v2), (4, .pc 0 0), (5, .pc 1 0), (6, tI v16), (104, q1 (v17 ++ [v26])), (106, .al (.cell 1 1, [])), (107, tI v27), (110, .pc 1 0)], [.cells 69 [nS, nS], .cells 69 [.hole, k2 v18]]⟩ ?_ z0 trivial ?_
               · kernel_rfl
               exact n18_
             refine AEach.step (i := 8) [] #[y1, y1, y1, y1, y1, y1, n1, y1, y1, n1, n1, n1, n1, n1] rfl [0, 1, 4, 5, 6, 104, 105, 108] 2 ⟨[(0, q0 v1), (1, tI v2), (4, .pc 0 0), (5, .pc 1 0), (6, tI v16), (104, q1 (v17 ++ [v26])), (105, .pc 1 1), (108, .tv (.own 1 3 1 (newRowF [.int .i64 v27] 1)))], [.cells 69 [nS, nS], .cells 69 [.hole, k2 v18]]⟩ ?_ z0 trivial ?_ ?_
             · kernel_rfl
             · refine AAny.extL 108 (cInt .i64) [v27] rfl rfl (row_at (cInt .i64) 1 (fun _ => rfl) [v27] _ rfl) ?_
               refine AAny.keepTo [0, 1, 4, 5, 6, 104, 105, 108] 2 ⟨[(0, q0 v1), (1, tI v2), (4, .pc 0 0), (5, .pc 1 0), (6, tI v16), (104, q1 (v17 ++ [v26])), (105, .pc 1 1), (108, q1 [v27])], [.cells 69 [nS, nS], .cells 69 [.hole, k2 v18]]⟩ #[y1, y1, y1, y1, y1, y1, n1, y1, y1, n1, n1, n1, n1, n1] ?_ rfl z0 ?_
               · kernel_rfl
               exact n14_
             exact AEach.nil
           refine AAny.share 8 #[y1, n1, y1, n1, n1, y1, y1, y1, y1, n1, n1, n1, n1, n1] ⟨[(0, q0 v1), (1, tI v2), (4, .pc 0 0), (5, .pc 1 0), (6, tI v16), (100, .pc 1 0), (102, tI v26), (106, .al (.cell 1 1, [])), (108, q1 [v27])], [.cells 69 [nS, nS], .cells 69 [k2 v17, k2 v18]]⟩ ?_ fun n7_ => ?_
           · refine AAny.each [1, 3] (by kernel_rfl) rfl ?_
             refine AEach.step (i := 1) [] #[y1, y1, y1, n1, n1, y1, y1, y1, y1, n1, n1, n1, n1, n1] rfl [0, 1, 4, 5, 6, 101, 102, 106, 108] 2 ⟨[(0, q0 v1), (1, tI v2), (4, .pc 0 0), (5, .pc 1 0), (6, tI v16), (101, .al (.cell 1 0, [])), (102, tI v26), (106, .al (.cell 1 1, [])), (108, q1 [v27])], [.cells 69 [nS, nS], .cells 69 [k2 v17, k2 v18]]⟩ ?_ z0 trivial ?_ ?_
             · kernel_rfl
             · exact n8_
             refine AEach.step (i := 3) [] #[y1, n1, y1, y1, n1, y1, y1, y1, y1, n1, n1, n1, n1, n1] rfl [0, 1, 4, 5, 6, 100, 103, 106, 108] 2 ⟨[(0, q0 v1), (1, tI v2), (4, .pc 0 0), (5, .pc 1 0), (6, tI v16), (100, .pc 1 0), (103, .tv (.own 1 3 1 (newRowF [.int .i64 v26] 1))), (106, .al (.cell 1 1, [])), (108, q1 [v27])], [.cells 69 [nS, nS], .cells 69 [k2 v17, k2 v18]]⟩ ?_ z0 trivial ?_ ?_
             · kernel_rfl
             · refine AAny.extL 103 (cInt .i64) [v26] rfl rfl (row_at (cInt .i64) 1 (fun _ => rfl) [v26] _ rfl) ?_
               refine AAny.keepTo [0, 1, 4, 5, 6, 100, 103, 106, 108] 2 ⟨[(0, q0 v1), (1, tI v2), (4, .pc 0 0), (5, .pc 1 0), (6, tI v16), (100, .pc 1 0), (103, q1 [v26]), (106, .al (.cell 1 1, [])), (108, q1 [v27])], [.cells 69 [nS, nS], .cells 69 [k2 v17, k2 v18]]⟩ #[y1, n1, y1, y1, n1, y1, y1, y1, y1, n1, n1, n1, n1, n1] ?_ rfl z0 ?_
               · kernel_rfl
               exact n9_
             exact AEach.nil
           refine AAny.share 8 #[y1, n1, y1, y1, n1, y1, n1, y1, y1, n1, n1, n1, n1, n1] ⟨[(0, q0 v1), (1, tI v2), (4, .pc 0 0), (5, .pc 1 0), (6, tI v16), (100, .pc 1 0), (103, q1 [v26]), (105, .pc 1 1), (108, q1 [v27])], [.cells 69 [nS, nS], .cells 69 [k2 v17, k2 v18]]⟩ ?_ fun n6_ => ?_
           · refine AAny.each [1, 6] (by kernel_rfl) rfl ?_
             refine AEach.step (i := 1) [] #[y1, y1, y1, y1, n1, y1, n1, y1, y1, n1, n1, n1, n1, n1] rfl [0, 1, 4, 5, 6, 101, 103, 105, 108] 2 ⟨[(0, q0 v1), (1, tI v2), (4, .pc 0 0), (5, .pc 1 0), (6, tI v16), (101, .al (.cell 1 0, [])), (103, q1 [v26]), (105, .pc 1 1), (108, q1 [v27])], [.cells 69 [nS, nS], .cells 69 [k2 v17, k2 v18]]⟩ ?_ z0 trivial ?_ ?_
             · kernel_rfl
             · exact n13_
             refine AEach.step (i := 6) [] #[y1, n1, y1, y1, n1, y1, y1, y1, y1, n1, n1, n1, n1, n1] rfl [0, 1, 4, 5, 6, 100, 103, 106, 108] 2 ⟨[(0, q0 v1), (1, tI v2), (4, .pc 0 0), (5, .pc 1 0), (6, tI v16), (100, .pc 1 0), (103, q1 [v26]), (106, .al (.cell 1 1, [])), (108, q1 [v27])], [.cells 69 [nS, nS], .cells 69 [k2 v17, k2 v18]]⟩ ?_ z0 trivial ?_ ?_
             · kernel_rfl
             · exact n9_
             exact AEach.nil
           refine AAny.share 8 #[y1, y1, y1, n1, n1, y1, n1, y1, y1, n1, n1, n1, n1, n1] ⟨[(0, q0 v1), (1, tI v2), (4, .pc 0 0), (5, .pc 1 0), (6, tI v16), (101, .al (.cell 1 0, [])), (102, tI v26), (105, .pc 1 1), (108, q1 [v27])], [.cells 69 [nS, nS], .cells 69 [k2 v17, k2 v18]]⟩ ?_ fun n5_ => ?_
           · refine AAny.each [3, 6] (by kernel_rfl) rfl ?_
             refine AEach.step (i := 3) [] #[y1, y1, y1, y1, n1, y1, n1, y1, y1, n1, n1, n1, n1, n1] rfl [0, 1, 4, 5, 6, 101, 103, 105, 108] 2 ⟨[(0, q0 v1), (1, tI v2), (4, .pc 0 0), (5, .pc 1 0), (6, tI v16), (101, .al (.cell 1 0, [])), (103, .tv (.own 1 3 1 (newRowF [.int .i64 v26] 1))), (105, .pc 1 1), (108, q1 [v27])], [.cells 69 [nS, nS], .cells 69 [k2 v17, k2 v18]]⟩ ?_ z0 trivial ?_ ?_
             · kernel_rfl
             · refine AAny.extL 103 (cInt .i64) [v26] rfl rfl (row_at (cInt .i64) 1 (fun _ => rfl) [v26] _ rfl) ?_
               refine AAny.keepTo [0, 1, 4, 5, 6, 101, 103, 105, 108] 2 ⟨[(0, q0 v1), (1, tI v2), (4, .pc 0 0), (5, .pc 1 0), (6, tI v16), (101, .al (.cell 1 0, [])), (103, q1 [v26]), (105, .pc 1 1), (108, q1 [v27])], [.cells 69 [nS, nS], .cells 69 [k2 v17, k2 v18]]⟩ #[y1, y1, y1, y1, n1, y1, n1, y1, y1, n1, n1, n1, n1, n1] ?_ rfl z0 ?_
               · kernel_rfl
               exact n13_
             refine AEach.step (i := 6) [] #[y1, y1, y1, n1, n1, y1, y1, y1, y1, n1, n1, n1, n1, n1] rfl [0, 1, 4, 5, 6, 101, 102, 106, 108] 2 ⟨[(0, q0 v1), (1, tI v2), (4, .pc 0 0), (5, .pc 1 0), (6, tI v16), (101, .al (.cell 1 0, [])), (102, tI v26), (106, .al (.cell 1 1, [])), (108, q1 [v27])], [.cells 69 [nS, nS], .cells 69 [k2 v17, k2 v18]]⟩ ?_ z0 trivial ?_ ?_
             · kernel_rfl
             · exact n8_
             exact AEach.nil
           refine AAny.share 8 #[y1, n1, y1, y1, n1, y1, y1, y1, n1, n1, n1, n1, n1, n1] ⟨[(0, q0 v1), (1, tI v2), (4, .pc 0 0), (5, .pc 1 0), (6, tI v16), (100, .pc 1 0), (103, q1 [v26]), (106, .al (.cell 1 1, [])), (107, tI v27)], [.cells 69 [nS, nS], .cells 69 [k2 v17, k2 v18]]⟩ ?_ fun n16_ => ?_
           · refine AAny.each [1, 8] (by kernel_rfl) rfl ?_
             refine AEach.step (i := 1) [] #[y1, y1, y1, y1, n1, y1, y1, y1, n1, n1, n1, n1, n1, n1] rfl [0, 1, 4, 5, 6, 101, 103, 106, 107] 2 ⟨[(0, q0 v1), (1, tI v2), (4, .pc 0 0), (5, .pc 1 0), (6, tI v16), (101, .al (.cell 1 0, [])), (103, q1 [v26]), (106, .al (.cell 1 1, [])), (107, tI v27)], [.cells 69 [nS, nS], .cells 69 [k2 v17, k2 v18]]⟩ ?_ z0 trivial ?_ ?_
             · kernel_rfl
             · exact n17_
             refine AEach.step (i := 8) [] #[y1, n1, y1, y1, n1, y1, y1, y1, y1, n1, n1, n1, n1, n1] rfl [0, 1, 4, 5, 6, 100, 103, 106, 108] 2 ⟨[(0, q0 v1), (1, tI v2), (4, .pc 0 0), (5, .pc 1 0), (6, tI v16), (100, .pc 1 0), (103, q1 [v26]), (106, .al (.cell 1 1, [])), (108, .tv (.own 1 3 1 (newRowF [.int .i64 v27] 1)))], [.cells 69 [nS, nS], .cells 69 [k2 v17, k2 v18]]⟩ ?_ z0 trivial ?_ ?_
             · kernel_rfl
             · refine AAny.extL 108 (cInt .i64) [v27] rfl rfl (row_at (cInt .i64) 1 (fun _ => rfl) [v27] _ rfl) ?_
               refine AAny.keepTo [0, 1, 4, 5, 6, 100, 103, 106, 108] 2 ⟨[(0, q0 v1), (1, tI v2), (4, .pc 0 0), (5, .pc 1 0), (6, tI v16), (100, .pc 1 0), (103, q1 [v26]), (106, .al (.cell 1 1, [])), (108, q1 [v27])], [.cells 69 [nS, nS], .cells 69 [k2 v17, k2 v18]]⟩ #[y1, n1, y1, y1, n1, y1, y1, y1, y1, n1, n1, n1, n1, n1] ?_ rfl z0 ?_
               · kernel_rfl
               exact n9_
             exact AEach.nil
           refine AAny.share 8 #[y1, y1, y1, n1, n1, y1, y1, y1, n1, n1, n1, n1, n1, n1] ⟨[(0, q0 v1), (1, tI v2), (4, .pc 0 0), (5, .pc 1 0), (6, tI v16), (101, .al (.cell 1 0, [])), (102, tI v26), (106, .al (.cell 1 1, [])), (107, tI v27)], [.cells 69 [nS, nS], .cells 69 [k2 v17, k2 v18]]⟩ ?_ fun n15_ => ?_
           · refine AAny.each [3, 8] (by kernel_rfl) rfl ?_
             refine AEach.step (i := 3) [] #[y1, y1, y1, y1, n1, y1, y1, y1, n1, n1, n1, n1, n1, n1] rfl [0, 1, 4, 5, 6, 101, 103, 106, 107] 2 ⟨[(0, q0 v1), (1, tI v2), (4, .pc 0 0), (5, .pc 1 0), (6, tI v16), (101, .al (.cell 1 0, [])), (103, .tv (.own 1 3 1 (newRowF [.int .i64 v26] 1))), (106, .al (.cell 1 1, [])), (107, tI v27)], [.cells 69 [nS, nS], .cells 69 [k2 v17, k2 v18]]⟩ ?_ z0 trivial ?_ ?_
             · kernel_rfl
             · refine AAny.extL 103 (cInt .i64) [v26] rfl rfl (row_at (cInt .i64) 1 (fun _ => rfl) [v26] _ rfl) ?_
               refine AAny.keepTo [0, 1, 4, 5, 6, 101, 103, 106, 107] 2 ⟨[(0, q0 v1), (1, tI v2), (4, .pc 0 0), (5, .pc 1 0), (6, tI v16), (101, .al (.cell 1 0, [])), (103, q1 [v26]), (106, .al (.cell 1 1, [])), (107, tI v27)], [.cells 69 [nS, nS], .cells 69 [k2 v17, k2 v18]]⟩ #[y1, y1, y1, y1, n1, y1, y1, y1, n1, n1, n1, n1, n1, n1] ?_ rfl z0 ?_
               · kernel_rfl
               exact n17_
             refine AEach.step (i := 8) [] #[y1, y1, y1, n1, n1, y1, y1, y1, y1, n1, n1, n1, n1, n1] rfl [0, 1, 4, 5, 6, 101, 102, 106, 108] 2 ⟨[(0, q0 v1), (1, tI v2), (4, .pc 0 0), (5, .pc 1 0), (6, tI v16), (101, .al (.cell 1 0, [])), (102, tI v26), (106, .al (.cell 1 1, [])), (108, .tv (.own 1 3 1 (newRowF [.int .i64 v27] 1)))], [.cells 69 [nS, nS], .cells 69 [k2 v17, k2 v18]]⟩ ?_ z0 trivial ?_ ?_
             · kernel_rfl
             · refine AAny.extL 108 (cInt .i64) [v27] rfl rfl (row_at (cInt .i64) 1 (fun _ => rfl) [v27] _ rfl) ?_
               refine AAny.keepTo [0, 1, 4, 5, 6, 101, 102, 106, 108] 2 ⟨[(0, q0 v1), (1, tI v2), (4, .pc 0 0), (5, .pc 1 0), (6, tI v16), (101, .al (.cell 1 0, [])), (102, tI v26), (106, .al (.cell 1 1, [])), (108, q1 [v27])], [.cells 69 [nS, nS], .cells 69 [k2 v17, k2 v18]]⟩ #[y1, y1, y1, n1, n1, y1, y1, y1, y1, n1, n1, n1, n1, n1] ?_ rfl z0 ?_
               · kernel_rfl
               exact n8_
             exact AEach.nil
           refine AAny.share 8 #[y1, y1, y1, y1, n1, y1, n1, y1, n1, n1, n1, n1, n1, n1] ⟨[(0, q0 v1), (1, tI v2), (4, .pc 0 0), (5, .pc 1 0), (6, tI v16), (101, .al (.cell 1 0, [])), (103, q1 [v26]), (105, .pc 1 1), (107, tI v27)], [.cells 69 [nS, nS], .cells 69 [k2 v17, k2 v18]]⟩ ?_ fun n19_ => ?_
           · refine AAny.each [4, 6, 8] (by kernel_rfl) rfl ?_
             refine AEach.step (i := 4) [(v17.length + [v26].length) * 8 ≤ 140737488355328, PlainTo v17.length (fun i => (cInt .i64) (v17.getD i default)), PlainTo ([v26].length) (fun i => (cInt .i64) ([v26].getD i default))] #[y1, y1, y1, y1, y1, y1, n1, y1, n1, n1, n1, n1, n1, n1] rfl [0, 1, 4, 5, 6, 104, 105, 107] 2 ⟨[(0, q0 v1), (1, tI v2), (4, .pc 0 0), (5, .pc 1 0), (6, tI v16), (104, .tv (.own 1 3 (v17.length + [v26].length) (appF v17.length (fun i => (cInt .i64) (v17.getD i default)) (fun i => (cInt .i64) ([v26].getD i default))))), (105, .pc 1 1), (107, tI v27)], [.cells 69 [nS, nS], .cells 69 [.hole, k2 v18]]⟩ ?_ z0 ⟨hd17, (fun _ _ => rfl), (fun _ _ => rfl)⟩ ?_ ?_
             · kernel_rfl
             · refine AAny.extL 104 (cInt .i64) (v17 ++ [v26]) rfl List.length_append.symm (app_at (cInt .i64) v17 [v26]) ?_
               refine AAny.keepTo [0, 1, 4, 5, 6, 104, 105, 107] 2 ⟨[(0, q0 v1), (1, tI v2), (4, .pc 0 0), (5, .pc 1 0), (6, tI v16), (104, q1 (v17 ++ [v26])), (105, .pc 1 1), (107, tI v27)], [.cells 69 [nS, nS], .cells 69 [.hole, k2 v18]]⟩ #[y1, y1, y1, y1, y1, y1, n1, y1, n1, n1, n1, n1, n1, n1] ?_ rfl z0 ?_
               · kernel_rfl
               exact n20_
             refine AEach.step (i := 6) [] #[y1, y1, y1, y1, n1, y1, y1, y1, n1, n1, n1, n1, n1, n1] rfl [0, 1, 4, 5, 6, 101, 103, 106, 107] 2 ⟨[(0, q0 v1), (1, tI v2), (4, .pc 0 0), (5, .pc 1 0), (6, tI v16), (101, .al (.cell 1 0, [])), (103, q1 [v26]), (106, .al (.cell 1 1, [])), (107, tI v27)], [.cells 69 [nS, nS], .cells 69 [k2 v17, k2 v18]]⟩ ?_ z0 trivial ?_ ?_
             · kernel_rfl
             · exact n17_
             refine AEach.step (i := 8) [] #[y1, y1, y1, y1, n1, y1, n1, y1, y1, n1, n1, n1, n1, n1] rfl [0, 1, 4, 5, 6, 101, 103, 105, 108] 2 ⟨[(0, q0 v1), (1, tI v2), (4, .pc 0 0), (5, .pc 1 0), (6, tI v16), (101, .al (.cell 1 0, [])), (103, q1 [v26]), (105, .pc 1 1), (108, .tv (.own 1 3 1 (newRowF [.int .i64 v27] 1)))], [.cells 69 [nS, nS], .cells 69 [k2 v17, k2 v18]]⟩ ?_ z0 trivial ?_ ?_
             · kernel_rfl
             · refine AAny.extL 108 (cInt .i64) [v27] rfl rfl (row_at (cInt .i64) 1 (fun _ => rfl) [v27] _ rfl) ?_
               refine AAny.keepTo [0, 1, 4, 5, 6, 101, 103, 105, 108] 2 ⟨[(0, q0 v1), (1, tI v2), (4, .pc 0 0), (5, .pc 1 0), (6, tI v16), (101, .al (.cell 1 0, [])), (103, q1 [v26]), (105, .pc 1 1), (108, q1 [v27])], [.cells 69 [nS, nS], .cells 69 [k2 v17, k2 v18]]⟩ #[y1, y1, y1, y1, n1, y1, n1, y1, y1, n1, n1, n1, n1, n1] ?_ rfl z0 ?_
               · kernel_rfl
               exact n13_
             exact AEach.nil
           refine AAny.share 9 #[y1, n1, y1, n1, n1, y1, n1, y1, y1, n1, n1, n1, n1, n1] ⟨[(0, q0 v1), (1, tI v2), (4, .pc 0 0), (5, .pc 1 0), (6, tI v16), (100, .pc 1 0), (102, tI v26), (105, .pc 1 1), (108, q1 [v27])], [.cells 69 [nS, nS], .cells 69 [k2 v17, k2 v18]]⟩ ?_ fun n4_ => ?_
           · refine AAny.each [1, 3, 6] (by kernel_rfl) rfl ?_
             refine AEach.step (i := 1) [] #[y1, y1, y1, n1, n1, y1, n1, y1, y1, n1, n1, n1, n1, n1] rfl [0, 1, 4, 5, 6, 101, 102, 105, 108] 2 ⟨[(0, q0 v1), (1, tI v2), (4, .pc 0 0), (5, .pc 1 0), (6, tI v16), (101, .al (.cell 1 0, [])), (102, tI v26), (105, .pc 1 1), (108, q1 [v27])], [.cells 69 [nS, nS], .cells 69 [k2 v17, k2 v18]]⟩ ?_ z0 trivial ?_ ?_
             · kernel_rfl
             · exact n5_
             refine AEach.step (i := 3) [] #[y1, n1, y1, y1, n1, y1, n1, y1, y1, n1, n1, n1, n1, n1] rfl [0, 1, 4, 5, 6, 100, 103, 105, 108] 2 ⟨[(0, q0 v1), (1, tI v2), (4, .pc 0 0), (5, .pc 1 0), (6, tI v16), (100, .pc 1 0), (103, .tv (.own 1 3 1 (newRowF [.int .i64 v26] 1))), (105, .pc 1 1), (108, q1 [v27])], [.cells 69 [nS, nS], .cells 69 [k2 v17, k2 v18]]⟩ ?_ z0 trivial ?_ ?_
             · kernel_rfl
             · refine AAny.extL 103 (cInt .i64) [v26] rfl rfl (row_at (cInt .i64) 1 (fun _ => rfl) [v26] _ rfl) ?_
               refine AAny.keepTo [0, 1, 4, 5, 6, 100, 103, 105, 108] 2 ⟨[(0, q0 v1), (1, tI v2), (4, .pc 0 0), (5, .pc 1 0), (6, tI v16), (100, .pc 1 0), (103, q1 [v26]), (105, .pc 1 1), (108, q1 [v27])], [.cells 69 [nS, nS], .cells 69 [k2 v17, k2 v18]]⟩ #[y1, n1, y1, y1, n1, y1, n1, y1, y1, n1, n1, n1, n1, n1] ?_ rfl z0 ?_
               · kernel_rfl
               exact n6_
             refine AEach.step (i := 6) [] #[y1, n1, y1, n1, n1, y1, y1, y1, y1, n1, n1, n1, n1, n1] rfl [0, 1, 4, 5, 6, 100, 102, 106, 108] 2 ⟨[(0, q0 v1), (1, tI v2), (4, .pc 0 0), (5, .pc 1 0), (6, tI v16), (100, .pc 1 0), (102, tI v26), (106, .al (.cell 1 1, [])), (108, q1 [v27])], [.cells 69 [nS, nS], .cells 69 [k2 v17, k2 v18]]⟩ ?_ z0 trivial ?_ ?_
             · kernel_rfl
             · exact n7_
             exact AEach.nil
           refine AAny.share 9 #[y1, n1, y1, n1, n1, y1, y1, y1, n1, n1, n1, n1, n1, n1] ⟨[(0, q0 v1), (1, tI v2), (4, .pc 0 0), (5, .pc 1 0), (6, tI v16), (100, .pc 1 0), (102, tI v26), (106, .al (.cell 1 1, [])), (107, tI v27)], [.cells 69 [nS, nS], .cells 69 [k2 v17, k2 v18]]⟩ ?_ fun n3_ => ?_
           · refine AAny.each [1, 3, 8] (by kernel_rfl) rfl ?_
             refine AEach.step (i := 1) [] #[y1, y1, y1, n1, n1, y1, y1, y1, n1, n1, n1, n1, n1, n1] rfl [0, 1, 4, 5, 6, 101, 102, 106, 107] 2 ⟨[(0, q0 v1), (1, tI v2), (4, .pc 0 0), (5, .pc 1 0), (6, tI v16), (101, .al (.cell 1 0, [])), (102, tI v26), (106, .al (.cell 1 1, [])), (107, tI v27)], [.cells 69 [nS, nS], .cells 69 [k2 v17, k2 v18]]⟩ ?_ z0 trivial ?_ ?_
             · kernel_rfl
             · exact n15_
             refine AEach.step (i := 3) [] #[y1, n1, y1, y1, n1, y1, y1, y1, n1, n1, n1, n1, n1, n1] rfl [0, 1, 4, 5, 6, 100, 103, 106, 107] 2 ⟨[(0, q0 v1), (1, tI v2), (4, .pc 0 0), (5, .pc 1 0), (6, tI v16), (100, .pc 1 0), (103, .tv (.own 1 3 1 (newRowF [.int .i64 v26] 1))), (106, .al (.cell 1 1, [])), (107, tI v27)], [.cells 69 [nS, nS], .cells 69 [k2 v17, k2 v18]]⟩ ?_ z0 trivial ?_ ?_
             · kernel_rfl
             · refine AAny.extL 103 (cInt .i64) [v26] rfl rfl (row_at (cInt .i64) 1 (fun _ => rfl) [v26] _ rfl) ?_
               refine AAny.keepTo [0, 1, 4, 5, 6, 100, 103, 106, 107] 2 ⟨[(0, q0 v1), (1, tI v2), (4, .pc 0 0), (5, .pc 1 0), (6, tI v16), (100, .pc 1 0), (103, q1 [v26]), (106, .al (.cell 1 1, [])), (107, tI v27)], [.cells 69 [nS, nS], .cells 69 [k2 v17, k2 v18]]⟩ #[y1, n1, y1, y1, n1, y1, y1, y1, n1, n1, n1, n1, n1, n1] ?_ rfl z0 ?_
               · kernel_rfl
               exact n16_
             refine AEach.step (i := 8) [] #[y1, n1, y1, n1, n1, y1, y1, y1, y1, n1, n1, n1, n1, n1] rfl [0, 1, 4, 5, 6, 100, 102, 106, 108] 2 ⟨[(0, q0 v1), (1, tI v2), (4, .pc 0 0), (5, .pc 1 0), (6, tI v16), (100, .pc 1 0), (102, tI v26), (106, .al (.cell 1 1, [])), (108, .tv (.own 1 3 1 (newRowF [.int .i64 v27] 1)))], [.cells 69 [nS, nS], .cells 69 [k2 v17, k2 v18]]⟩ ?_ z0 trivial ?_ ?_
             · kernel_rfl
             · refine AAny.extL 108 (cInt .i64) [v27] rfl rfl (row_at (cInt .i64) 1 (fun _ => rfl) [v27] _ rfl) ?_
               refine AAny.keepTo [0, 1, 4, 5, 6, 100, 102, 106, 108] 2 ⟨[(0, q0 v1), (1, tI v2), (4, .pc 0 0), (5, .pc 1 0), (6, tI v16), (100, .pc 1 0), (102, tI v26), (106, .al (.cell 1 1, [])), (108, q1 [v27])], [.cells 69 [nS, nS], .cells 69 [k2 v17, k2 v18]]⟩ #[y1, n1, y1, n1, n1, y1, y1, y1, y1, n1, n1, n1, n1, n1] ?_ rfl z0 ?_
               · kernel_rfl
               exact n7_
             exact AEach.nil
           refine AAny.share 9 #[y1, n1, y1, y1, n1, y1, n1, y1, n1, n1, n1, n1, n1, n1] ⟨[(0, q0 v1), (1, tI v2), (4, .pc 0 0), (5, .pc 1 0), (6, tI v16), (100, .pc 1 0), (103, q1 [v26]), (105, .pc 1 1), (107, tI v27)], [.cells 69 [nS, nS], .cells 69 [k2 v17, k2 v18]]⟩ ?_ fun n2_ => ?_
           · refine AAny.each [1, 6, 8] (by kernel_rfl) rfl ?_
             refine AEach.step (i := 1) [] #[y1, y1, y1, y1, n1, y1, n1, y1, n1, n1, n1, n1, n1, n1] rfl [0, 1, 4, 5, 6, 101, 103, 105, 107] 2 ⟨[(0, q0 v1), (1, tI v2), (4, .pc 0 0), (5, .pc 1 0), (6, tI v16), (101, .al (.cell 1 0, [])), (103, q1 [v26]), (105, .pc 1 1), (107, tI v27)], [.cells 69 [nS, nS], .cells 69 [k2 v17, k2 v18]]⟩ ?_ z0 trivial ?_ ?_
             · kernel_rfl
             · exact n19_
             refine AEach.step (i := 6) [] #[y1, n1, y1, y1, n1, y1, y1, y1, n1, n1, n1, n1, n1, n1] rfl [0, 1, 4, 5, 6, 100, 103, 106, 107] 2 ⟨[(0, q0 v1), (1, tI v2), (4, .pc 0 0), (5, .pc 1 0), (6, tI v16), (100, .pc 1 0), (103, q1 [v26]), (106, .al (.cell 1 1, [])), (107, tI v27)], [.cells 69 [nS, nS], .cells 69 [k2 v17, k2 v18]]⟩ ?_ z0 trivial ?_ ?_
             · kernel_rfl
             · exact n16_
             refine AEach.step (i := 8) [] #[y1, n1, y1, y1, n1, y1, n1, y1, y1, n1, n1, n1, n1, n1] rfl [0, 1, 4, 5, 6, 100, 103, 105, 108] 2 ⟨[(0, q0 v1), (1, tI v2), (4, .pc 0 0), (5, .pc 1 0), (6, tI v16), (100, .pc 1 0), (103, q1 [v26]), (105, .pc 1 1), (108, .tv (.own 1 3 1 (newRowF [.int .i64 v27] 1)))], [.cells 69 [nS, nS], .cells 69 [k2 v17, k2 v18]]⟩ ?_ z0 trivial ?_ ?_
             · kernel_rfl
             · refine AAny.extL 108 (cInt .i64) [v27] rfl rfl (row_at (cInt .i64) 1 (fun _ => rfl) [v27] _ rfl) ?_
               refine AAny.keepTo [0, 1, 4, 5, 6, 100, 103, 105, 108] 2 ⟨[(0, q0 v1), (1, tI v2), (4, .pc 0 0), (5, .pc 1 0), (6, tI v16), (100, .pc 1 0), (103, q1 [v26]), (105, .pc 1 1), (108, q1 [v27])], [.cells 69 [nS, nS], .cells 69 [k2 v17, k2 v18]]⟩ #[y1, n1, y1, y1, n1, y1, n1, y1, y1, n1, n1, n1, n1, n1] ?_ rfl z0 ?_
               · kernel_rfl
               exact n6_
             exact AEach.nil
           refine AAny.share 9 #[y1, y1, y1, n1, n1, y1, n1, y1, n1, n1, n1, n1, n1, n1] ⟨[(0, q0 v1), (1, tI v2), (4, .pc 0 0), (5, .pc 1 0), (6, tI v16), (101, .al (.cell 1 0, [])), (102, tI v26), (105, .pc 1 1), (107, tI v27)], [.cells 69 [nS, nS], .cells 69 [k2 v17, k2 v18]]⟩ ?_ fun n1_ => ?_
           · refine AAny.each [3, 6, 8] (by kernel_rfl) rfl ?_
             refine AEach.step (i := 3) [] #[y1, y1, y1, y1, n1, y1, n1, y1, n1, n1, n1, n1, n1, n1] rfl [0, 1, 4, 5, 6, 101, 103, 105, 107] 2 ⟨[(0, q0 v1), (1, tI v2), (4, .pc 0 0), (5, .pc 1 0), (6, tI v16), (101, .al (.cell 1 0, [])), (103, .tv (.own 1 3 1 (newRowF [.int .i64 v26] 1))), (105, .pc 1 1), (107, tI v27)], [.cells 69 [nS, nS], .cells 69 [k2 v17, k2 v18]]⟩ ?_ z0 trivial ?_ ?_
             · kernel_rfl
             · refine AAny.extL 103 (cInt .i64) [v26] rfl rfl (row_at (cInt .i64) 1 (fun _ => rfl) [v26] _ rfl) ?_
               refine AAny.keepTo [0, 1, 4, 5, 6, 101, 103, 105, 107] 2 ⟨[(0, q0 v1), (1, tI v2), (4, .pc 0 0), (5, .pc 1 0), (6, tI v16), (101, .al (.cell 1 0, [])), (103, q1 [v26]), (105, .pc 1 1), (107, tI v27)], [.cells 69 [nS, nS], .cells 69 [k2 v17, k2 v18]]⟩ #[y1, y1, y1, y1, n1, y1, n1, y1, n1, n1, n1, n1, n1, n1] ?_ rfl z0 ?_
               · kernel_rfl
               exact n19_
             refine AEach.step (i := 6) [] #[y1, y1, y1, n1, n1, y1, y1, y1, n1, n1, n1, n1, n1, n1] rfl [0, 1, 4, 5, 6, 101, 102, 106, 107] 2 ⟨[(0, q0 v1), (1, tI v2), (4, .pc 0 0), (5, .pc 1 0), (6, tI v16), (101, .al (.cell 1 0, [])), (102, tI v26), (106, .al (.cell 1 1, [])), (107, tI v27)], [.cells 69 [nS, nS], .cells 69 [k2 v17, k2 v18]]⟩ ?_ z0 trivial ?_ ?_
             · kernel_rfl
             · exact n15_
             refine AEach.step (i := 8) [] #[y1, y1, y1, n1, n1, y1, n1, y1, y1, n1, n1, n1, n1, n1] rfl [0, 1, 4, 5, 6, 101, 102, 105, 108] 2 ⟨[(0, q0 v1), (1, tI v2), (4, .pc 0 0), (5, .pc 1 0), (6, tI v16), (101, .al (.cell 1 0, [])), (102, tI v26), (105, .pc 1 1), (108, .tv (.own 1 3 1 (newRowF [.int .i64 v27] 1)))], [.cells 69 [nS, nS], .cells 69 [k2 v17, k2 v18]]⟩ ?_ z0 trivial ?_ ?_
             · kernel_rfl
             · refine AAny.extL 108 (cInt .i64) [v27] rfl rfl (row_at (cInt .i64) 1 (fun _ => rfl) [v27] _ rfl) ?_
               refine AAny.keepTo [0, 1, 4, 5, 6, 101, 102, 105, 108] 2 ⟨[(0, q0 v1), (1, tI v2), (4, .pc 0 0), (5, .pc 1 0), (6, tI v16), (101, .al (.cell 1 0, [])), (102, tI v26), (105, .pc 1 1), (108, q1 [v27])], [.cells 69 [nS, nS], .cells 69 [k2 v17, k2 v18]]⟩ #[y1, y1, y1, n1, n1, y1, n1, y1, y1, n1, n1, n1, n1, n1] ?_ rfl z0 ?_
               · kernel_rfl
               exact n5_
             exact AEach.nil
           refine AAny.each [1, 3, 6, 8] (by kernel_rfl) rfl ?_
           refine AEach.step (i := 1) [] #[y1, y1, y1, n1, n1, y1, n1, y1, n1, n1, n1, n1, n1, n1] rfl [0, 1, 4, 5, 6, 101, 102, 105, 107] 2 ⟨[(0, q0 v1), (1, tI v2), (4, .pc 0 0), (5, .pc 1 0), (6, tI v16), (101, .al (.cell 1 0, [])), (102, tI v26), (105, .pc 1 1), (107, tI v27)], [.cells 69 [nS, nS], .cells 69 [k2 v17, k2 v18]]⟩ ?_ z0 trivial ?_ ?_
           · kernel_rfl
           · exact n1_
           refine AEach.step (i := 3) [] #[y1, n1, y1, y1, n1, y1, n1, y1, n1, n1, n1, n1, n1, n1] rfl [0, 1, 4, 5, 6, 100, 103, 105, 107] 2 ⟨[(0, q0 v1), (1, tI v2), (4, .pc 0 0), (5, .pc 1 0), (6, tI v16), (100, .pc 1 0), (103, .tv (.own 1 3 1 (newRowF [.int .i64 v26] 1))), (105, .pc 1 1), (107, tI v27)], [.cells 69 [nS, nS], .cells 69 [k2 v17, k2 v18]]⟩ ?_ z0 trivial ?_ ?_
           · kernel_rfl
           · refine AAny.extL 103 (cInt .i64) [v26] rfl rfl (row_at (cInt .i64) 1 (fun _ => rfl) [v26] _ rfl) ?_
             refine AAny.keepTo [0, 1, 4, 5, 6, 100, 103, 105, 107] 2 ⟨[(0, q0 v1), (1, tI v2), (4, .pc 0 0), (5, .pc 1 0), (6, tI v16), (100, .pc 1 0), (103, q1 [v26]), (105, .pc 1 1), (107, tI v27)], [.cells 69 [nS, nS], .cells 69 [k2 v17, k2 v18]]⟩ #[y1, n1, y1, y1, n1, y1, n1, y1, n1, n1, n1, n1, n1, n1] ?_ rfl z0 ?_
             · kernel_rfl
             exact n2_
           refine AEach.step (i := 6) [] #[y1, n1, y1, n1, n1, y1, y1, y1, n1, n1, n1, n1, n1, n1] rfl [0, 1, 4, 5, 6, 100, 102, 106, 107] 2 ⟨[(0, q0 v1), (1, tI v2), (4, .pc 0 0), (5, .pc 1 0), (6, tI v16), (100, .pc 1 0), (102, tI v26), (106, .al (.cell 1 1, [])), (107, tI v27)], [.cells 69 [nS, nS], .cells 69 [k2 v17, k2 v18]]⟩ ?_ z0 trivial ?_ ?_
           · kernel_rfl
           · exact n3_
           refine AEach.step (i := 8) [] #[y1, n1, y1, n1, n1, y1, n1, y1, y1, n1, n1, n1, n1, n1] rfl [0, 1, 4, 5, 6, 100, 102, 105, 108] 2 ⟨[(0, q0 v1), (1, tI v2), (4, .pc 0 0), (5, .pc 1 0), (6, tI v16), (100, .pc 1 0), (102, tI v26), (105, .pc 1 1), (108, .tv (.own 1 3 1 (newRowF [.int .i64 v27] 1)))], [.cells 69 [nS, nS], .cells 69 [k2 v17, k2 v18]]⟩ ?_ z0 trivial ?_ ?_
           · kernel_rfl
           · refine AAny.extL 108 (cInt .i64) [v27] rfl rfl (row_at (cInt .i64) 1 (fun _ => rfl) [v27] _ rfl) ?_
             refine AAny.keepTo [0, 1, 4, 5, 6, 100, 102, 105, 108] 2 ⟨[(0, q0 v1), (1, tI v2), (4, .pc 0 0), (5, .pc 1 0), (6, tI v16), (100, .pc 1 0), (102, tI v26), (105, .pc 1 1), (108, q1 [v27])], [.cells 69 [nS, nS], .cells 69 [k2 v17, k2 v18]]⟩ #[y1, n1, y1, n1, n1, y1, n1, y1, y1, n1, n1, n1, n1, n1] ?_ rfl z0 ?_
             · kernel_rfl
             exact n4_
           exact AEach.nil
   · replace h := of_false h hb
     refine AWp.keepTo [4, 5] 2 ⟨[(4, .pc 0 0), (5, .pc 1 0)], [.cells 69 [nS, nS], .cells 69 [k2 v17, k2 v18]]⟩ ?_ z0 ?_
     · kernel_rfl
     refine AWp.exit ?_
     cases h
     exact Or.inr ⟨_, rfl, by simp, rfl, rfl⟩
 · intro e σ hp
   rcases y with v37 | ⟨v19, v20⟩
   · obtain ⟨rfl, rfl⟩ := hp
     cases h
     exact ⟨.inr rfl, rfl⟩
   · obtain ⟨rfl, rfl⟩ := hp
     refine AWp.seq ?_
     refine AWp.freezeC 1 0 (cInt .i64) v19 rfl (fun _ => rfl) ?_
     refine AWp.freezeC 1 1 (cInt .i64) v20 rfl (fun _ => rfl) ?_
     refine AWp.pin 1 rfl rfl ?_
     refine AWp.keepTo [4, 5] 1 ⟨[(4, .pc 0 0), (5, .rp [k4 v19, k4 v20])], [.cells 69 [nS, nS]]⟩ ?_ z0 ?_
     · kernel_rfl
     refine AWp.start [0, 1] [] [] [4] 1 ⟨[(4, .pc 0 0)], [.cells 69 [k4 v19, k4 v20]]⟩ rfl ?_ z0 trivial ?_
     · kernel_rfl
     refine AOps.nil ?_
     refine AWp.pin 0 rfl rfl ?_
     refine AWp.keepTo [4] 0 ⟨[(4, .rp [k4 v19, k4 v20])], []⟩ ?_ z0 ?_
     · kernel_rfl
     refine AWp.ret ?_
     cases h
     exact ⟨.inr rfl, rfl⟩

noncomputable def f15_j1 (v1 : List T62) (v2 : Int) (v3 : Int) : Option (Int ⊕ Out ((List UInt8) × Int) Unit) :=
 cond (v3 != (0 : Int)) (if (0 : Int) ≤ v2 ∧ v2 < (v1.length : Int) then some (.inr (.ret ((v1.getD v2.toNat default).f0, v3))) else none) (some (.inl (w64 (v2 + (1 : Int)))))

noncomputable def f15_b2 (v1 : List T62) (v2 : Int) : Option (Int ⊕ Out ((List UInt8) × Int) Unit) :=
 cond (decide (v2 < (v1.length : Int))) (if (0 : Int) ≤ v2 ∧ v2 < (v1.length : Int) then (f38 (v1.getD v2.toNat default)).bind fun v4 => cond (!v4) (f15_j1 v1 v2 (2 : Int)) ((f39 v1 v2).bind fun v5 => cond v5 (f15_j1 v1 v2 (8 : Int)) ((f40 v1 v2).bind fun v6 => cond v6 (f15_j1 v1 v2 (5 : Int)) ((f41 v1 v2).bind fun v7 => cond (!v7) (f15_j1 v1 v2 (70 : Int)) ((f42 v1 (w64 (v2 + (1 : Int)))).bind fun v8 => (cond (decide (v2 ≥ (30 : Int))) (some true) (if (0 : Int) ≤ v2 ∧ v2 < (v1.length : Int) then some (decide ((((v1.getD v2.toNat default).f3).length : Int) > (20 : Int))) else none)).bind fun v9 => (cond v9 (some true) (if (0 : Int) ≤ v2 ∧ v2 < (v8.f0.length : Int) then some (decide (v8.f0.getD v2.toNat default > (100000 : Int))) else none)).bind fun v10 => (cond v10 (some true) (if (0 : Int) ≤ v2 ∧ v2 < (v8.f1.length : Int) then some (decide (v8.f1.getD v2.toNat default > (100000 : Int))) else none)).bind fun v11 => cond v11 (f15_j1 v1 v2 (4 : Int)) (f15_j1 v1 v2 (0 : Int)))))) else none) (some (.inr (.go ())))

noncomputable def f15 (v1 : List T62) : Option ((List UInt8) × Int) :=
 (iter (fun s => f15_b2 v1 s) (0 : Int)).bind fun y => match y with | .ret v12 => some (v12.1, v12.2) | .go _ => some (([] : List UInt8), (0 : Int))

theorem f15_ok (v1 : List T62) {r : (List UInt8) × Int} (h : f15 v1 = some r) : ACall Try.prog 15 [.tv (fzL 6 c62 v1)] [] (.tup [.tv (.str r.1), .tv (.int .i64 r.2)]) [] := by
 refine ACall.ofN (FF 72 0) (rs := [2, 3]) (env := [(2, tS r.1), (3, tI r.2)]) Try.func15 rfl Try.ntmps15 Try.results15 (by decide) (by decide) rfl (Nat.le_of_ble_eq_true rfl) rfl (get_ofN _ _ _ rfl) (ok_ofN _ rfl) ?_
 refine AWp.seq ?_
 refine AWp.start [0, 1] [] [] [0] 0 ⟨[(0, q0 v1)], []⟩ rfl ?_ z0 trivial ?_
 · kernel_rfl
 refine AOps.nil ?_
 refine AWp.seq ?_
 refine AWp.seq ?_
 refine AWp.start [0] [] [] [0, 4] 0 ⟨[(0, q0 v1), (4, tI (0 : Int))], []⟩ rfl ?_ z0 trivial ?_
 · kernel_rfl
 refine AOps.nil ?_
 refine AWp.block ?_
 obtain ⟨y, hy, h⟩ := of_bind h
 refine AWp.mono (AWp.loop (S := Int) (Y := Out ((List UInt8) × Int) Unit) (fun s => ⟨[(0, q0 v1), (4, tI s)], []⟩) (fun s => f15_b2 v1 s) (fun y e σ => match y with | .ret r => e = .ret ∧ σ = ⟨[(2, tS r.1), (3, tI r.2)], []⟩ | .go v => e = .exit 0 ∧ σ = ⟨[], []⟩) ?_ hy) ?_
 · rintro v2 o h
   refine AWp.seq ?_
   refine AWp.seq ?_
   refine AWp.start [0, 1, 2, 3] [] [] [0, 4, 10] 0 ⟨[(0, q0 v1), (4, tI v2), (10, tB (decide (v2 < (v1.length : Int))))], []⟩ rfl ?_ z0 trivial ?_
   · kernel_rfl
   refine AOps.nil ?_
   refine AWp.cond rfl (fun hb => ?_) fun hb => ?_
   · replace h := of_true h hb
     refine AWp.keepTo [0, 4] 0 ⟨[(0, q0 v1), (4, tI v2)], []⟩ ?_ z0 ?_
     · kernel_rfl
     refine AWp.skip ?_
     refine AWp.seq ?_
     refine AWp.block ?_
     refine AWp.seq ?_
     refine AWp.start [0] [] [] [0, 4, 5] 0 ⟨[(0, q0 v1), (4, tI v2), (5, tI (0 : Int))], []⟩ rfl ?_ z0 trivial ?_
     · kernel_rfl
     refine AOps.nil ?_
     refine AWp.join (V := Int) (fun w => ⟨[(0, q0 v1), (4, tI v2), (5, tI w)], []⟩) (fun w => f15_j1 v1 v2 w = some o) ?_ ?_
     · refine AWp.block ?_
       refine AWp.seq ?_
       obtain ⟨hg, h⟩ := of_guard h
       refine AWp.start [0, 1, 2, 3] [4, 5, 6] [(0 : Int) ≤ v2, v2 < (v1.length : Int)] [0, 4, 5, 48] 0 ⟨[(0, q0 v1), (4, tI v2), (5, tI (0 : Int)), (48, .agg (c62 (gD v1 v2)))], []⟩ rfl ?_ z0 ⟨hg.1, hg.2⟩ ?_
       · kernel_rfl
       obtain ⟨v4, hv4, h⟩ := of_bind h
       refine AOps.cons (AOne.callP (F := (FF 72 0)) _ rfl rfl rfl _ rfl rfl _ _ rfl Try.call38 [.agg (c62 (gD v1 v2))] rfl rfl (f38_ok (gD v1 v2) hv4) rfl) ?_
       refine AOps.go [5, 6] [] [] [0, 4, 5, 44] 0 ⟨[(0, q0 v1), (4, tI v2), (5, tI (0 : Int)), (44, tB (!v4))], []⟩ ?_ z0 trivial ?_
       · kernel_rfl
       refine AOps.nil ?_
       refine AWp.cond rfl (fun hb => ?_) fun hb => ?_
       · replace h := of_true h hb
         refine AWp.keepTo [0, 4] 0 ⟨[(0, q0 v1), (4, tI v2)], []⟩ ?_ z0 ?_
         · kernel_rfl
         refine AWp.start [0] [] [] [0, 4, 5] 0 ⟨[(0, q0 v1), (4, tI v2), (5, tI (2 : Int))], []⟩ rfl ?_ z0 trivial ?_
         · kernel_rfl
         refine AOps.nil ?_
         exact ⟨(2 : Int), h, rfl⟩
       · replace h := of_false h hb
         refine AWp.keepTo [0, 4, 5] 0 ⟨[(0, q0 v1), (4, tI v2), (5, tI (0 : Int))], []⟩ ?_ z0 ?_
         · kernel_rfl
         refine AWp.seq ?_
         refine AWp.start [0, 1] [2, 3] [] [0, 4, 5, 52, 53] 0 ⟨[(0, q0 v1), (4, tI v2), (5, tI (0 : Int)), (52, q0 v1), (53, tI v2)], []⟩ rfl ?_ z0 trivial ?_
         · kernel_rfl
         obtain ⟨v5, hv5, h⟩ := of_bind h
         refine AOps.cons (AOne.callP (F := (FF 72 0)) _ rfl rfl rfl _ rfl rfl _ _ rfl Try.call39 [q0 v1, tI v2] rfl rfl (f39_ok v1 v2 hv5) rfl) ?_
         refine AOps.go [3] [] [] [0, 4, 5, 51] 0 ⟨[(0, q0 v1), (4, tI v2), (5, tI (0 : Int)), (51, tB v5)], []⟩ ?_ z0 trivial ?_
         · kernel_rfl
         refine AOps.nil ?_
         refine AWp.cond rfl (fun hb => ?_) fun hb => ?_
         · replace h := of_true h hb
           refine AWp.keepTo [0, 4] 0 ⟨[(0, q0 v1), (4, tI v2)], []⟩ ?_ z0 ?_
           · kernel_rfl
           refine AWp.start [0] [] [] [0, 4, 5] 0 ⟨[(0, q0 v1), (4, tI v2), (5, tI (8 : Int))], []⟩ rfl ?_ z0 trivial ?_
           · kernel_rfl
           refine AOps.nil ?_
           exact ⟨(8 : Int), h, rfl⟩
         · replace h := of_false h hb
           refine AWp.keepTo [0, 4, 5] 0 ⟨[(0, q0 v1), (4, tI v2), (5, tI (0 : Int))], []⟩ ?_ z0 ?_
           · kernel_rfl
           refine AWp.seq ?_
           refine AWp.start [0, 1] [2, 3] [] [0, 4, 5, 56, 57] 0 ⟨[(0, q0 v1), (4, tI v2), (5, tI (0 : Int)), (56, q0 v1), (57, tI v2)], []⟩ rfl ?_ z0 trivial ?_
           · kernel_rfl
           obtain ⟨v6, hv6, h⟩ := of_bind h
           refine AOps.cons (AOne.callP (F := (FF 72 0)) _ rfl rfl rfl _ rfl rfl _ _ rfl Try.call40 [q0 v1, tI v2] rfl rfl (f40_ok v1 v2 hv6) rfl) ?_
           refine AOps.go [3] [] [] [0, 4, 5, 55] 0 ⟨[(0, q0 v1), (4, tI v2), (5, tI (0 : Int)), (55, tB v6)], []⟩ ?_ z0 trivial ?_
           · kernel_rfl
           refine AOps.nil ?_
           refine AWp.cond rfl (fun hb => ?_) fun hb => ?_
           · replace h := of_true h hb
             refine AWp.keepTo [0, 4] 0 ⟨[(0, q0 v1), (4, tI v2)], []⟩ ?_ z0 ?_
             · kernel_rfl
             refine AWp.start [0] [] [] [0, 4, 5] 0 ⟨[(0, q0 v1), (4, tI v2), (5, tI (5 : Int))], []⟩ rfl ?_ z0 trivial ?_
             · kernel_rfl
             refine AOps.nil ?_
             exact ⟨(5 : Int), h, rfl⟩
           · replace h := of_false h hb
             refine AWp.keepTo [0, 4, 5] 0 ⟨[(0, q0 v1), (4, tI v2), (5, tI (0 : Int))], []⟩ ?_ z0 ?_
             · kernel_rfl
             refine AWp.seq ?_
             refine AWp.start [0, 1] [2, 3, 4] [] [0, 4, 5, 60, 61] 0 ⟨[(0, q0 v1), (4, tI v2), (5, tI (0 : Int)), (60, q0 v1), (61, tI v2)], []⟩ rfl ?_ z0 trivial ?_
             · kernel_rfl
             obtain ⟨v7, hv7, h⟩ := of_bind h
             refine AOps.cons (AOne.callP (F := (FF 72 0)) _ rfl rfl rfl _ rfl rfl _ _ rfl Try.call41 [q0 v1, tI v2] rfl rfl (f41_ok v1 v2 hv7) rfl) ?_
             refine AOps.go [3, 4] [] [] [0, 4, 5, 59] 0 ⟨[(0, q0 v1), (4, tI v2), (5, tI (0 : Int)), (59, tB (!v7))], []⟩ ?_ z0 trivial ?_
             · kernel_rfl
             refine AOps.nil ?_
             refine AWp.cond rfl (fun hb => ?_) fun hb => ?_
             · replace h := of_true h hb
               refine AWp.keepTo [0, 4] 0 ⟨[(0, q0 v1), (4, tI v2)], []⟩ ?_ z0 ?_
               · kernel_rfl
               refine AWp.start [0] [] [] [0, 4, 5] 0 ⟨[(0, q0 v1), (4, tI v2), (5, tI (70 : Int))], []⟩ rfl ?_ z0 trivial ?_
               · kernel_rfl
               refine AOps.nil ?_
               exact ⟨(70 : Int), h, rfl⟩
             · replace h := of_false h hb
               refine AWp.keepTo [0, 4, 5] 0 ⟨[(0, q0 v1), (4, tI v2), (5, tI (0 : Int))], []⟩ ?_ z0 ?_
               · kernel_rfl
               refine AWp.seq ?_
               refine AWp.start [0, 1, 2] [3, 4, 5] [] [0, 4, 5, 13, 15] 0 ⟨[(0, q0 v1), (4, tI v2), (5, tI (0 : Int)), (13, q0 v1), (15, tI (w64 (v2 + (1 : Int))))], []⟩ rfl ?_ z0 trivial ?_
               · kernel_rfl
               obtain ⟨v8, hv8, h⟩ := of_bind h
               refine AOps.cons (AOne.callP (F := (FF 72 0)) _ rfl rfl rfl _ rfl rfl _ _ rfl Try.call42 [q0 v1, tI (w64 (v2 + (1 : Int)))] rfl rfl (f42_ok v1 (w64 (v2 + (1 : Int))) hv8) rfl) ?_
               refine AOps.go [4, 5] [] [] [0, 4, 5, 6] 1 ⟨[(0, q0 v1), (4, tI v2), (5, tI (0 : Int)), (6, .pc 0 0)], [.cells 69 [k4 v8.f0, k4 v8.f1]]⟩ ?_ z0 trivial ?_
               · kernel_rfl
               refine AOps.nil ?_
               refine AWp.seq ?_
               refine AWp.pin 0 rfl rfl ?_
               refine AWp.keepTo [0, 4, 5, 6] 0 ⟨[(0, q0 v1), (4, tI v2), (5, tI (0 : Int)), (6, .rp [k4 v8.f0, k4 v8.f1])], []⟩ ?_ z0 ?_
               · kernel_rfl
               refine AWp.start [0, 1, 2] [3, 4, 5, 6, 7, 8, 9, 10, 11, 12, 13, 14, 15, 16, 17, 18, 19, 20, 21, 22, 23, 24, 25, 26] [] [0, 4, 5, 6, 19] 0 ⟨[(0, q0 v1), (4, tI v2), (5, tI (0 : Int)), (6, .rp [k4 v8.f0, k4 v8.f1]), (19, tB (decide (v2 ≥ (30 : Int))))], []⟩ rfl ?_ z0 trivial ?_
               · kernel_rfl
               obtain ⟨v9, hc3, h⟩ := of_bind h
               refine AOps.cut [3, 4, 5, 6, 7, 8, 9, 10] [11, 12, 13, 14, 15, 16, 17, 18, 19, 20, 21, 22, 23, 24, 25, 26] (fun σ => σ = ⟨[(0, q0 v1), (4, tI v2), (5, tI (0 : Int)), (6, .rp [k4 v8.f0, k4 v8.f1]), (27, tB v9)], []⟩) ?_ fun σ' hJ => ?_
               · refine AOps.split (fun b => ⟨[(0, q0 v1), (4, tI v2), (5, tI (0 : Int)), (6, .rp [k4 v8.f0, k4 v8.f1]), (19, tB b)], []⟩) _ (fun hb => ?_) fun hb => ?_
                 · replace hc3 := of_true hc3 hb
                   refine AOps.go [3, 4, 5, 6, 7, 8, 9, 10] [] [] [0, 4, 5, 6, 27] 0 ⟨[(0, q0 v1), (4, tI v2), (5, tI (0 : Int)), (6, .rp [k4 v8.f0, k4 v8.f1]), (27, tB true)], []⟩ ?_ z0 trivial ?_
                   · kernel_rfl
                   cases hc3
                   exact AOps.nil rfl
                 · replace hc3 := of_false hc3 hb
                   obtain ⟨hg, hc3⟩ := of_guard hc3
                   refine AOps.go [3, 4, 5, 6, 7, 8, 9, 10] [] [(0 : Int) ≤ v2, v2 < (v1.length : Int)] [0, 4, 5, 6, 27] 0 ⟨[(0, q0 v1), (4, tI v2), (5, tI (0 : Int)), (6, .rp [k4 v8.f0, k4 v8.f1]), (27, tB (decide ((((gD v1 v2).f3).length : Int) > (20 : Int))))], []⟩ ?_ z0 ⟨hg.1, hg.2⟩ ?_
                   · kernel_rfl
                   cases hc3
                   exact AOps.nil rfl
               subst hJ
               refine AOps.go [11] [12, 13, 14, 15, 16, 17, 18, 19, 20, 21, 22, 23, 24, 25, 26] [] [0, 4, 5, 6, 28] 0 ⟨[(0, q0 v1), (4, tI v2), (5, tI (0 : Int)), (6, .rp [k4 v8.f0, k4 v8.f1]), (28, tB v9)], []⟩ ?_ z0 trivial ?_
               · kernel_rfl
               obtain ⟨v10, hc12, h⟩ := of_bind h
               refine AOps.cut [12, 13, 14, 15, 16, 17, 18] [19, 20, 21, 22, 23, 24, 25, 26] (fun σ => σ = ⟨[(0, q0 v1), (4, tI v2), (5, tI (0 : Int)), (6, .rp [k4 v8.f0, k4 v8.f1]), (35, tB v10)], []⟩) ?_ fun σ' hJ => ?_
               · refine AOps.split (fun b => ⟨[(0, q0 v1), (4, tI v2), (5, tI (0 : Int)), (6, .rp [k4 v8.f0, k4 v8.f1]), (28, tB b)], []⟩) _ (fun hb => ?_) fun hb => ?_
                 · replace hc12 := of_true hc12 hb
                   refine AOps.go [12, 13, 14, 15, 16, 17, 18] [] [] [0, 4, 5, 6, 35] 0 ⟨[(0, q0 v1), (4, tI v2), (5, tI (0 : Int)), (6, .rp [k4 v8.f0, k4 v8.f1]), (35, tB true)], []⟩ ?_ z0 trivial ?_
                   · kernel_rfl
                   cases hc12
                   exact AOps.nil rfl
                 · replace hc12 := of_false hc12 hb
                   obtain ⟨hg, hc12⟩ := of_guard hc12
                   refine AOps.go [12, 13, 14, 15, 16, 17, 18] [] [(0 : Int) ≤ v2, v2 < (v8.f0.length : Int)] [0, 4, 5, 6, 35] 0 ⟨[(0, q0 v1), (4, tI v2), (5, tI (0 : Int)), (6, .rp [k4 v8.f0, k4 v8.f1]), (35, tB (decide (gD v8.f0 v2 > (100000 : Int))))], []⟩ ?_ z0 ⟨hg.1, hg.2⟩ ?_
                   · kernel_rfl
                   cases hc12
                   exact AOps.nil rfl
               subst hJ
               refine AOps.go [19] [20, 21, 22, 23, 24, 25, 26] [] [0, 4, 5, 6, 36] 0 ⟨[(0, q0 v1), (4, tI v2), (5, tI (0 : Int)), (6, .rp [k4 v8.f0, k4 v8.f1]), (36, tB v10)], []⟩ ?_ z0 trivial ?_
               · kernel_rfl
               obtain ⟨v11, hc20, h⟩ := of_bind h
               refine AOps.cut [20, 21, 22, 23, 24, 25, 26] [] (fun σ => σ = ⟨[(0, q0 v1), (4, tI v2), (5, tI (0 : Int)), (43, tB v11)], []⟩) ?_ fun σ' hJ => ?_
               · refine AOps.split (fun b => ⟨[(0, q0 v1), (4, tI v2), (5, tI (0 : Int)), (6, .rp [k4 v8.f0, k4 v8.f1]), (36, tB b)], []⟩) _ (fun hb => ?_) fun hb => ?_
                 · replace hc20 := of_true hc20 hb
                   refine AOps.go [20, 21, 22, 23, 24, 25, 26] [] [] [0, 4, 5, 43] 0 ⟨[(0, q0 v1), (4, tI v2), (5, tI (0 : Int)), (43, tB true)], []⟩ ?_ z0 trivial ?_
                   · kernel_rfl
                   cases hc20
                   exact AOps.nil rfl
                 · replace hc20 := of_false hc20 hb
                   obtain ⟨hg, hc20⟩ := of_guard hc20
                   refine AOps.go [20, 21, 22, 23, 24, 25, 26] [] [(0 : Int) ≤ v2, v2 < (v8.f1.length : Int)] [0, 4, 5, 43] 0 ⟨[(0, q0 v1), (4, tI v2), (5, tI (0 : Int)), (43, tB (decide (gD v8.f1 v2 > (100000 : Int))))], []⟩ ?_ z0 ⟨hg.1, hg.2⟩ ?_
                   · kernel_rfl
                   cases hc20
                   exact AOps.nil rfl
               subst hJ
               refine AOps.nil ?_
               refine AWp.cond rfl (fun hb => ?_) fun hb => ?_
               · replace h := of_true h hb
                 refine AWp.keepTo [0, 4] 0 ⟨[(0, q0 v1), (4, tI v2)], []⟩ ?_ z0 ?_
                 · kernel_rfl
                 refine AWp.start [0] [] [] [0, 4, 5] 0 ⟨[(0, q0 v1), (4, tI v2), (5, tI (4 : Int))], []⟩ rfl ?_ z0 trivial ?_
                 · kernel_rfl
                 refine AOps.nil ?_
                 exact ⟨(4 : Int), h, rfl⟩
               · replace h := of_false h hb
                 refine AWp.keepTo [0, 4, 5] 0 ⟨[(0, q0 v1), (4, tI v2), (5, tI (0 : Int))], []⟩ ?_ z0 ?_
                 · kernel_rfl
                 refine AWp.skip ?_
                 exact ⟨(0 : Int), h, rfl⟩
     · rintro v3 h
       refine AWp.seq ?_
       refine AWp.start [0, 1] [] [] [0, 4, 5, 65] 0 ⟨[(0, q0 v1), (4, tI v2), (5, tI v3), (65, tB (v3 != (0 : Int)))], []⟩ rfl ?_ z0 trivial ?_
       · kernel_rfl
       refine AOps.nil ?_
       refine AWp.cond rfl (fun hb => ?_) fun hb => ?_
       · replace h := of_true h hb
         refine AWp.keepTo [0, 4, 5] 0 ⟨[(0, q0 v1), (4, tI v2), (5, tI v3)], []⟩ ?_ z0 ?_
         · kernel_rfl
         refine AWp.seq ?_
         obtain ⟨hg, h⟩ := of_guard h
         refine AWp.start [0, 1, 2, 3, 4, 5, 6, 7] [] [(0 : Int) ≤ v2, v2 < (v1.length : Int)] [2, 3] 0 ⟨[(2, tS ((gD v1 v2).f0)), (3, tI v3)], []⟩ rfl ?_ z0 ⟨hg.1, hg.2⟩ ?_
         · kernel_rfl
         refine AOps.nil ?_
         refine AWp.ret ?_
         cases h
         exact Or.inr ⟨_, rfl, by simp, rfl, rfl⟩
       · replace h := of_false h hb
         refine AWp.keepTo [0, 4] 0 ⟨[(0, q0 v1), (4, tI v2)], []⟩ ?_ z0 ?_
         · kernel_rfl
         refine AWp.skip ?_
         refine AWp.start [0, 1, 2] [] [] [0, 4] 0 ⟨[(0, q0 v1), (4, tI (w64 (v2 + (1 : Int))))], []⟩ rfl ?_ z0 trivial ?_
         · kernel_rfl
         refine AOps.nil ?_
         cases h
         exact Or.inl ⟨_, rfl, rfl, rfl⟩
   · replace h := of_false h hb
     refine AWp.keepTo [] 0 ⟨[], []⟩ ?_ z0 ?_
     · kernel_rfl
     refine AWp.exit ?_
     cases h
     exact Or.inr ⟨_, rfl, by simp, rfl, rfl⟩
 · intro e σ hp
   rcases y with v12 | _
   · obtain ⟨rfl, rfl⟩ := hp
     cases h
     exact ⟨.inr rfl, rfl⟩
   · obtain ⟨rfl, rfl⟩ := hp
     refine AWp.seq ?_
     refine AWp.start [0, 1] [] [] [2, 3] 0 ⟨[(2, tS ([] : List UInt8)), (3, tI (0 : Int))], []⟩ rfl ?_ z0 trivial ?_
     · kernel_rfl
     refine AOps.nil ?_
     refine AWp.ret ?_
     cases h
     exact ⟨.inr rfl, rfl⟩

noncomputable def f48 (v1 : List T62) (v2 : List UInt8) : Option (Int × Int) :=
 (f15 v1).bind fun v3 => cond (v3.2 != (0 : Int)) (some ((0 : Int), (2 : Int))) ((f49 v1 (v1.length : Int) v2).bind fun v4 => cond (decide (v4 < (0 : Int))) (some ((0 : Int), (5 : Int))) (some (v4, (0 : Int))))

theorem f48_ok (v1 : List T62) (v2 : List UInt8) {r : Int × Int} (h : f48 v1 v2 = some r) : ACall Try.prog 48 [.tv (fzL 6 c62 v1), .tv (.str v2)] [] (.tup [.tv (.int .i64 r.1), .tv (.int .i64 r.2)]) [] := by
 refine ACall.ofN (FF 24 0) (rs := [4, 5]) (env := [(4, tI r.1), (5, tI r.2)]) Try.func48 rfl Try.ntmps48 Try.results48 (by decide) (by decide) rfl (Nat.le_of_ble_eq_true rfl) rfl (get_ofN _ _ _ rfl) (ok_ofN _ rfl) ?_
 refine AWp.seq ?_
 refine AWp.start [0, 1] [] [] [0, 1] 0 ⟨[(0, q0 v1), (1, tS v2)], []⟩ rfl ?_ z0 trivial ?_
 · kernel_rfl
 refine AOps.nil ?_
 refine AWp.seq ?_
 refine AWp.seq ?_
 refine AWp.start [0] [1, 2, 3, 4, 5, 6] [] [0, 1, 10] 0 ⟨[(0, q0 v1), (1, tS v2), (10, q0 v1)], []⟩ rfl ?_ z0 trivial ?_
 · kernel_rfl
 obtain ⟨v3, hv3, h⟩ := of_bind h
 refine AOps.cons (AOne.callP (F := (FF 24 0)) _ rfl rfl rfl _ rfl rfl _ _ rfl Try.call15 [q0 v1] rfl rfl (f15_ok v1 hv3) rfl) ?_
 refine AOps.go [2, 3, 4, 5, 6] [] [] [0, 1, 7] 0 ⟨[(0, q0 v1), (1, tS v2), (7, tI v3.2)], []⟩ ?_ z0 trivial ?_
 · kernel_rfl
 refine AOps.nil ?_
 refine AWp.seq ?_
 refine AWp.start [0, 1] [] [] [0, 1, 15] 0 ⟨[(0, q0 v1), (1, tS v2), (15, tB (v3.2 != (0 : Int)))], []⟩ rfl ?_ z0 trivial ?_
 · kernel_rfl
 refine AOps.nil ?_
 refine AWp.cond rfl (fun hb => ?_) fun hb => ?_
 · replace h := of_true h hb
   refine AWp.keepTo [] 0 ⟨[], []⟩ ?_ z0 ?_
   · kernel_rfl
   refine AWp.seq ?_
   refine AWp.start [0, 1] [] [] [4, 5] 0 ⟨[(4, tI (0 : Int)), (5, tI (2 : Int))], []⟩ rfl ?_ z0 trivial ?_
   · kernel_rfl
   refine AOps.nil ?_
   refine AWp.ret ?_
   cases h
   exact ⟨.inr rfl, rfl⟩
 · replace h := of_false h hb
   refine AWp.keepTo [0, 1] 0 ⟨[(0, q0 v1), (1, tS v2)], []⟩ ?_ z0 ?_
   · kernel_rfl
   refine AWp.skip ?_
   refine AWp.seq ?_
   refine AWp.start [0, 1, 2, 3] [4, 5] [] [16, 18, 19] 0 ⟨[(16, q0 v1), (18, tI (v1.length : Int)), (19, tS v2)], []⟩ rfl ?_ z0 trivial ?_
   · kernel_rfl
   obtain ⟨v4, hv4, h⟩ := of_bind h
   refine AOps.cons (AOne.callP (F := (FF 24 0)) _ rfl rfl rfl _ rfl rfl _ _ rfl Try.call49 [q0 v1, tI (v1.length : Int), tS v2] rfl rfl (f49_ok v1 (v1.length : Int) v2 hv4) rfl) ?_
   refine AOps.go [5] [] [] [8] 0 ⟨[(8, tI v4)], []⟩ ?_ z0 trivial ?_
   · kernel_rfl
   refine AOps.nil ?_
   refine AWp.seq ?_
   refine AWp.seq ?_
   refine AWp.start [0, 1] [] [] [8, 22] 0 ⟨[(8, tI v4), (22, tB (decide (v4 < (0 : Int))))], []⟩ rfl ?_ z0 trivial ?_
   · kernel_rfl
   refine AOps.nil ?_
   refine AWp.cond rfl (fun hb => ?_) fun hb => ?_
   · replace h := of_true h hb
     refine AWp.keepTo [] 0 ⟨[], []⟩ ?_ z0 ?_
     · kernel_rfl
     refine AWp.seq ?_
     refine AWp.start [0, 1] [] [] [4, 5] 0 ⟨[(4, tI (0 : Int)), (5, tI (5 : Int))], []⟩ rfl ?_ z0 trivial ?_
     · kernel_rfl
     refine AOps.nil ?_
     refine AWp.ret ?_
     cases h
     exact ⟨.inr rfl, rfl⟩
   · replace h := of_false h hb
     refine AWp.keepTo [8] 0 ⟨[(8, tI v4)], []⟩ ?_ z0 ?_
     · kernel_rfl
     refine AWp.skip ?_
     refine AWp.seq ?_
     refine AWp.start [0, 1, 2] [] [] [4, 5] 0 ⟨[(4, tI v4), (5, tI (0 : Int))], []⟩ rfl ?_ z0 trivial ?_
     · kernel_rfl
     refine AOps.nil ?_
     refine AWp.ret ?_
     cases h
     exact ⟨.inr rfl, rfl⟩

noncomputable def f52 (v1 : T68) (v2 : List T62) (v3 : T35) : Option Int :=
 cond (v3.f1 == ([] : List UInt8)) (some (1 : Int)) ((f49 v2 (v2.length : Int) v3.f1).bind fun v4 => if (0 : Int) ≤ v4 ∧ v4 < (v1.f0.length : Int) then some (v1.f0.getD v4.toNat default) else none)

theorem f52_ok (v1 : T68) (v2 : List T62) (v3 : T35) {r : Int} (h : f52 v1 v2 v3 = some r) : ACall Try.prog 52 [.agg [fzL 1 (cInt .i64) v1.f0, fzL 1 (cInt .i64) v1.f1], .tv (fzL 6 c62 v2), .agg [.str v3.f0, .str v3.f1, .int .i64 v3.f2]] [] (.tv (.int .i64 r)) [] := by
 refine ACall.of1 (FF 20 0) Try.func52 rfl Try.ntmps52 Try.results52 (Nat.le_of_ble_eq_true rfl) rfl rfl ?_
 refine AWp.seq ?_
 refine AWp.start [0, 1, 2] [] [] [1, 3, 5] 2 ⟨[(1, q0 v2), (3, .pc 0 0), (5, .pc 1 0)], [.cells 69 [k4 v1.f0, k4 v1.f1], .cells 36 [.str v3.f0, .str v3.f1, .int .i64 v3.f2]]⟩ rfl ?_ z0 trivial ?_
 · kernel_rfl
 refine AOps.nil ?_
 refine AWp.seq ?_
 refine AWp.seq ?_
 refine AWp.pin 0 rfl rfl ?_
 refine AWp.pin 1 rfl rfl ?_
 refine AWp.keepTo [1, 3, 5] 0 ⟨[(1, q0 v2), (3, .rp [k4 v1.f0, k4 v1.f1]), (5, .rp [.str v3.f0, .str v3.f1, .int .i64 v3.f2])], []⟩ ?_ z0 ?_
 · kernel_rfl
 refine AWp.start [0, 1, 2] [] [] [1, 3, 5, 9] 0 ⟨[(1, q0 v2), (3, .rp [k4 v1.f0, k4 v1.f1]), (5, .rp [.str v3.f0, .str v3.f1, .int .i64 v3.f2]), (9, tB (v3.f1 == ([] : List UInt8)))], []⟩ rfl ?_ z0 trivial ?_
 · kernel_rfl
 refine AOps.nil ?_
 refine AWp.cond rfl (fun hb => ?_) fun hb => ?_
 · replace h := of_true h hb
   refine AWp.keepTo [] 0 ⟨[], []⟩ ?_ z0 ?_
   · kernel_rfl
   refine AWp.seq ?_
   refine AWp.start [0] [] [] [6] 0 ⟨[(6, tI (1 : Int))], []⟩ rfl ?_ z0 trivial ?_
   · kernel_rfl
   refine AOps.nil ?_
   refine AWp.ret ?_
   cases h
   exact ⟨.inr rfl, rfl⟩
 · replace h := of_false h hb
   refine AWp.keepTo [1, 3, 5] 0 ⟨[(1, q0 v2), (3, .rp [k4 v1.f0, k4 v1.f1]), (5, .rp [.str v3.f0, .str v3.f1, .int .i64 v3.f2])], []⟩ ?_ z0 ?_
   · kernel_rfl
   refine AWp.skip ?_
   refine AWp.seq ?_
   refine AWp.draw FFm _ (n := 11) rfl (ls := #[n1, n1, n1, n1, n1, n1, n1, n1, n1, n1, n1]) rfl ?_ (fun _ h => h)
   refine AAny.go (by kernel_rfl) [0, 1, 2, 3, 4, 5, 6] (fuel' := 4) rfl [] #[y1, y1, y1, y1, y1, y1, y1, n1, n1, n1, n1] [11, 12, 14, 16] 0 ⟨[(11, q3 v1.f0), (12, q0 v2), (14, tI (v2.length : Int)), (16, tS v3.f1)], []⟩ ?_ z0 trivial ?_
   · kernel_rfl
   obtain ⟨v4, hv4, h⟩ := of_bind h
   refine AAny.serial (i := 7) (fuel := 3) (by kernel_rfl) (AOne.callP (F := (FF 20 0)) _ rfl rfl rfl _ rfl rfl _ _ rfl Try.call49 [q0 v2, tI (v2.length : Int), tS v3.f1] rfl rfl (f49_ok v2 (v2.length : Int) v3.f1 hv4) rfl) ?_
   refine AAny.keepTo [11, 17] 0 ⟨[(11, q3 v1.f0), (17, tI v4)], []⟩ #[y1, y1, y1, y1, y1, y1, y1, y1, n1, n1, n1] ?_ rfl z0 ?_
   · kernel_rfl
   obtain ⟨hg, h⟩ := of_guard h
   refine AAny.go (by kernel_rfl) [8, 9, 10] (fuel' := 0) rfl [(0 : Int) ≤ v4, v4 < (v1.f0.length : Int)] #[y1, y1, y1, y1, y1, y1, y1, y1, y1, y1, y1] [6] 0 ⟨[(6, tI (gD v1.f0 v4))], []⟩ ?_ z0 ⟨hg.1, hg.2⟩ ?_
   · kernel_rfl
   refine AAny.keepTo [6] 0 ⟨[(6, tI (gD v1.f0 v4))], []⟩ _ ?_ rfl z0 (AAny.done (by kernel_rfl) ?_)
   · kernel_rfl
   refine AWp.ret ?_
   cases h
   exact ⟨.inr rfl, rfl⟩

end Go.Sx.der
