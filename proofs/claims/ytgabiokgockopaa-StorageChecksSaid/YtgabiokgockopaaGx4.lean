/- Printed by program (wip/gen): plain functions and their walks; no condition. -/
import Derived.Test.YtgabiokgockopaaGx3
namespace Go.Sx.sto
open Go Go.Sx Go.Proofs

noncomputable def f39_b1 (v1 : List T36) (v4 : Int) (v5 : List Int) (v6 : List Int) : Option ((Int × (List Int) × (List Int)) ⊕ Out ((Option T84) × (List UInt8) × Bool) ((List Int) × (List Int))) :=
 cond (decide (v4 < (v1.length : Int))) (if (v5.length + [v4].length) * 8 ≤ 140737488355328 then if (v6.length + [(0 : Int)].length) * 8 ≤ 140737488355328 then some (.inl (w64 (v4 + (1 : Int)), v5 ++ [v4], v6 ++ [(0 : Int)])) else none else none) (some (.inr (.go (v5, v6))))

noncomputable def f39_b2 (v1 : List T36) (v3 : List (List (List UInt8))) (v10 : Int) (v15 : Int) (v16 : List Int) (v17 : List Int) : Option ((Int × (List Int) × (List Int)) ⊕ Out ((Option T84) × (List UInt8) × Bool) ((List Int) × (List Int))) :=
 if (0 : Int) ≤ v10 ∧ v10 < (v3.length : Int) then cond (decide (v15 < ((v3.getD v10.toNat default).length : Int))) (if (0 : Int) ≤ v10 ∧ v10 < (v3.length : Int) ∧ (0 : Int) ≤ w64 (v15 - (1 : Int)) ∧ w64 (v15 - (1 : Int)) < ((v3.getD v10.toNat default).length : Int) ∧ (0 : Int) ≤ v10 ∧ v10 < (v3.length : Int) ∧ (0 : Int) ≤ v15 ∧ v15 < ((v3.getD v10.toNat default).length : Int) then (f33 v1 ((v3.getD v10.toNat default).getD (Int.toNat (w64 (v15 - (1 : Int)))) default)).bind fun v20 => (f33 v1 ((v3.getD v10.toNat default).getD v15.toNat default)).bind fun v21 => if (0 : Int) ≤ v20 ∧ v20 < (v1.length : Int) ∧ (0 : Int) ≤ v20 ∧ v20 < (v1.length : Int) then (f50o v20 v21 (w64 (((v1.getD v20.toNat default).f1) * ((v1.getD v20.toNat default).f2))) (T84.mk v16 v17)).bind fun v22 => cond (!v22.1) (if (0 : Int) ≤ v10 ∧ v10 < (v3.length : Int) ∧ (0 : Int) ≤ v15 ∧ v15 < ((v3.getD v10.toNat default).length : Int) then some (.inr (.ret (none, (v3.getD v10.toNat default).getD v15.toNat default, false))) else none) (some (.inl (w64 (v15 + (1 : Int)), v22.2.f0, v22.2.f1))) else none else none) (some (.inr (.go (v16, v17)))) else none

noncomputable def f39_b3 (v1 : List T36) (v3 : List (List (List UInt8))) (v10 : Int) (v11 : List Int) (v12 : List Int) : Option ((Int × (List Int) × (List Int)) ⊕ Out ((Option T84) × (List UInt8) × Bool) ((List Int) × (List Int))) :=
 cond (decide (v10 < (v3.length : Int))) ((iter (fun s => f39_b2 v1 v3 v10 s.1 s.2.1 s.2.2) ((1 : Int), v11, v12)).bind fun y => match y with | .ret v23 => some (.inr (.ret v23)) | .go (v18, v19) => some (.inl (w64 (v10 + (1 : Int)), v18, v19))) (some (.inr (.go (v11, v12))))

noncomputable def f39_b4 (v1 : List T36) (v2 : List (List T34)) (v25 : Int) (v30 : Int) (v31 : List Int) (v32 : List Int) : Option ((Int × (List Int) × (List Int)) ⊕ Out ((Option T84) × (List UInt8) × Bool) ((List Int) × (List Int))) :=
 if (0 : Int) ≤ v25 ∧ v25 < (v2.length : Int) then cond (decide (v30 < ((v2.getD v25.toNat default).length : Int))) (if (0 : Int) ≤ v25 ∧ v25 < (v2.length : Int) ∧ (0 : Int) < ((v2.getD v25.toNat default).length : Int) ∧ (0 : Int) ≤ v25 ∧ v25 < (v2.length : Int) ∧ (0 : Int) ≤ v30 ∧ v30 < ((v2.getD v25.toNat default).length : Int) then (f33 v1 (((v2.getD v25.toNat default).getD 0 default).f0)).bind fun v35 => (f33 v1 (((v2.getD v25.toNat default).getD v30.toNat default).f0)).bind fun v36 => if (0 : Int) ≤ v35 ∧ v35 < (v1.length : Int) ∧ (0 : Int) ≤ v36 ∧ v36 < (v1.length : Int) then (f50o v35 v36 (w64 ((w64 ((((v2.getD v25.toNat default).getD 0 default).f1) * ((v1.getD v35.toNat default).f1))) - (w64 ((((v2.getD v25.toNat default).getD v30.toNat default).f1) * ((v1.getD v36.toNat default).f1))))) (T84.mk v31 v32)).bind fun v37 => cond (!v37.1) (some (.inr (.ret (none, ((v2.getD v25.toNat default).getD v30.toNat default).f0, false)))) (some (.inl (w64 (v30 + (1 : Int)), v37.2.f0, v37.2.f1))) else none else none) (some (.inr (.go (v31, v32)))) else none

noncomputable def f39_b5 (v1 : List T36) (v2 : List (List T34)) (v25 : Int) (v26 : List Int) (v27 : List Int) : Option ((Int × (List Int) × (List Int)) ⊕ Out ((Option T84) × (List UInt8) × Bool) ((List Int) × (List Int))) :=
 cond (decide (v25 < (v2.length : Int))) ((iter (fun s => f39_b4 v1 v2 v25 s.1 s.2.1 s.2.2) ((1 : Int), v26, v27)).bind fun y => match y with | .ret v38 => some (.inr (.ret v38)) | .go (v33, v34) => some (.inl (w64 (v25 + (1 : Int)), v33, v34))) (some (.inr (.go (v26, v27))))

noncomputable def f39_b6 (v1 : List T36) (v3 : List (List (List UInt8))) (v28 : List Int) (v40 : Int) (v41 : Int) : Option (Int ⊕ Out ((Option T84) × (List UInt8) × Bool) Unit) :=
 (cond (decide (v41 < v40)) (if (0 : Int) ≤ v40 ∧ v40 < (v3.length : Int) then some (decide (((v3.getD v40.toNat default).length : Int) > (0 : Int))) else none) (some false)).bind fun v42 => cond v42 ((if (0 : Int) ≤ v41 ∧ v41 < (v3.length : Int) then cond (decide (((v3.getD v41.toNat default).length : Int) > (0 : Int))) (if (0 : Int) ≤ v40 ∧ v40 < (v3.length : Int) ∧ (0 : Int) < ((v3.getD v40.toNat default).length : Int) ∧ (0 : Int) ≤ v41 ∧ v41 < (v3.length : Int) ∧ (0 : Int) < ((v3.getD v41.toNat default).length : Int) then (f33 v1 ((v3.getD v40.toNat default).getD 0 default)).bind fun v44 => if (0 : Int) ≤ v44 ∧ v44 < (v28.length : Int) then (f33 v1 ((v3.getD v41.toNat default).getD 0 default)).bind fun v45 => if (0 : Int) ≤ v45 ∧ v45 < (v28.length : Int) then some (v28.getD v44.toNat default == v28.getD v45.toNat default) else none else none else none) (some false) else none).bind fun v43 => cond v43 (if (0 : Int) ≤ v40 ∧ v40 < (v3.length : Int) ∧ (0 : Int) < ((v3.getD v40.toNat default).length : Int) then some (.inr (.ret (none, (v3.getD v40.toNat default).getD 0 default, false))) else none) (some (.inl (w64 (v41 + (1 : Int)))))) (some (.inr (.go ())))

noncomputable def f39_b7 (v1 : List T36) (v3 : List (List (List UInt8))) (v28 : List Int) (v40 : Int) : Option (Int ⊕ Out ((Option T84) × (List UInt8) × Bool) Unit) :=
 cond (decide (v40 < (v3.length : Int))) ((iter (fun s => f39_b6 v1 v3 v28 v40 s) (0 : Int)).bind fun y => match y with | .ret v46 => some (.inr (.ret v46)) | .go _ => some (.inl (w64 (v40 + (1 : Int))))) (some (.inr (.go ())))

noncomputable def f39 (v1 : List T36) (v2 : List (List T34)) (v3 : List (List (List UInt8))) : Option ((Option T84) × (List UInt8) × Bool) :=
 (iter (fun s => f39_b1 v1 s.1 s.2.1 s.2.2) ((0 : Int), [], [])).bind fun y => match y with | .ret v9 => some v9 | .go (v7, v8) => (iter (fun s => f39_b3 v1 v3 s.1 s.2.1 s.2.2) ((0 : Int), v7, v8)).bind fun y => match y with | .ret v24 => some v24 | .go (v13, v14) => (iter (fun s => f39_b5 v1 v2 s.1 s.2.1 s.2.2) ((0 : Int), v13, v14)).bind fun y => match y with | .ret v39 => some v39 | .go (v28, v29) => (iter (fun s => f39_b7 v1 v3 v28 s) (0 : Int)).bind fun y => match y with | .ret v47 => some v47 | .go _ => some (some (T84.mk v28 v29), ([] : List UInt8), true)

theorem f39_ok (v1 : List T36) (v2 : List (List T34)) (v3 : List (List (List UInt8))) {r : (Option T84) × (List UInt8) × Bool} (h : f39 v1 v2 v3 = some r) : ACall Try.prog 39 [.tv (fzL 3 c36 v1), .tv (fzL 1 (cSl 2 c34) v2), .tv (fzL 1 (cSl 1 cStr) v3)] [] (.tup [(match r.1 with | none => .tv (.sc (.pointer none)) | some _ => .pc 0 0), .tv (.str r.2.1), .tv (.bool r.2.2)]) ([] ++ (match r.1 with | none => [] | some u => [.cells 85 [ownL 1 3 (cInt .i64) u.f0, ownL 1 3 (cInt .i64) u.f1]])) := by
 refine ACall.ofN (FF 230 0) (rs := [6, 7, 8]) (env := [(6, (match r.1 with | none => .tv (.sc (.pointer none)) | some _ => .pc 0 0)), (7, tS r.2.1), (8, tB r.2.2)]) Try.func39 rfl Try.ntmps39 Try.results39 (by decide) (by decide) rfl (Nat.le_of_ble_eq_true rfl) rfl (get_ofN _ _ _ rfl) (ok_ofN _ (by obtain ⟨r, r2⟩ := r; cases r <;> rfl)) ?_
 refine AWp.seq ?_
 refine AWp.start [0, 1, 2] [] [] [0, 1, 2] 0 ⟨[(0, q0 v1), (1, .tv (fzL 1 (cSl 2 c34) v2)), (2, .tv (fzL 1 (cSl 1 cStr) v3))], []⟩ rfl ?_ z0 trivial ?_
 ·kernel_rfl
 refine AOps.nil ?_
 refine AWp.seq ?_
 refine AWp.start [0, 1, 2] [] [] [0, 1, 2, 9] 1 ⟨[(0, q0 v1), (1, .tv (fzL 1 (cSl 2 c34) v2)), (2, .tv (fzL 1 (cSl 1 cStr) v3)), (9, .pc 0 0)], [.cells 85 [nS, nS]]⟩ rfl ?_ z0 trivial ?_
 ·kernel_rfl
 refine AOps.nil ?_
 refine AWp.seq ?_
 refine AWp.seq ?_
 refine AWp.start [0] [] [] [0, 1, 2, 9, 10] 1 ⟨[(0, q0 v1), (1, .tv (fzL 1 (cSl 2 c34) v2)), (2, .tv (fzL 1 (cSl 1 cStr) v3)), (9, .pc 0 0), (10, tI (0 : Int))], [.cells 85 [nS, nS]]⟩ rfl ?_ z0 trivial ?_
 ·kernel_rfl
 refine AOps.nil ?_
 refine AWp.block ?_
 refine AWp.retell 0 0 rfl (.nilOwn 1 3 (fun i => (cInt .i64) (([] : List Int).getD i default))) ?_
 refine AWp.retell 0 1 rfl (.nilOwn 1 3 (fun i => (cInt .i64) (([] : List Int).getD i default))) ?_
 refine AWp.keepTo [0, 1, 2, 9, 10] 1 ⟨[(0, q0 v1), (1, .tv (fzL 1 (cSl 2 c34) v2)), (2, .tv (fzL 1 (cSl 1 cStr) v3)), (9, .pc 0 0), (10, tI (0 : Int))], [.cells 85 [k0 ([] : List Int), k0 ([] : List Int)]]⟩ ?_ z0 ?_
 ·kernel_rfl
 obtain ⟨y, hy, h⟩ := of_bind h
 refine AWp.mono (AWp.loop (S := Int × (List Int) × (List Int)) (Y := Out ((Option T84) × (List UInt8) × Bool) ((List Int) × (List Int))) (fun s => ⟨[(0, q0 v1), (1, .tv (fzL 1 (cSl 2 c34) v2)), (2, .tv (fzL 1 (cSl 1 cStr) v3)), (9, .pc 0 0), (10, tI s.1)], [.cells 85 [k0 s.2.1, k0 s.2.2]]⟩) (fun s => f39_b1 v1 s.1 s.2.1 s.2.2) (fun y e σ => match y with | .ret r => e = .ret ∧ σ = ⟨[(6, (match r.1 with | none => .tv (.sc (.pointer none)) | some _ => .pc 0 0)), (7, tS r.2.1), (8, tB r.2.2)], ([] ++ (match r.1 with | none => [] | some u => [.cells 85 [k0 u.f0, k0 u.f1]]))⟩ | .go v => e = .exit 0 ∧ σ = ⟨[(0, q0 v1), (1, .tv (fzL 1 (cSl 2 c34) v2)), (2, .tv (fzL 1 (cSl 1 cStr) v3)), (9, .pc 0 0)], [.cells 85 [k0 v.1, k0 v.2]]⟩) ?_ hy) ?_
 ·rintro ⟨v4, v5, v6⟩ o h
  refine AWp.seq ?_
  refine AWp.seq ?_
  refine AWp.start [0, 1, 2, 3] [] [] [0, 1, 2, 9, 10, 28] 1 ⟨[(0, q0 v1), (1, .tv (fzL 1 (cSl 2 c34) v2)), (2, .tv (fzL 1 (cSl 1 cStr) v3)), (9, .pc 0 0), (10, tI v4), (28, tB (decide (v4 < (v1.length : Int))))], [.cells 85 [k0 v5, k0 v6]]⟩ rfl ?_ z0 trivial ?_
  ·kernel_rfl
  refine AOps.nil ?_
  refine AWp.cond rfl (fun hb => ?_) fun hb => ?_
  ·replace h := of_true h hb
   refine AWp.keepTo [0, 1, 2, 9, 10] 1 ⟨[(0, q0 v1), (1, .tv (fzL 1 (cSl 2 c34) v2)), (2, .tv (fzL 1 (cSl 1 cStr) v3)), (9, .pc 0 0), (10, tI v4)], [.cells 85 [k0 v5, k0 v6]]⟩ ?_ z0 ?_
   ·kernel_rfl
   refine AWp.skip ?_
   refine AWp.seq ?_
   refine AWp.block ?_
   refine AWp.draw FFm _ (n := 21) rfl (ls := #[n1, n1, n1, n1, n1, n1, n1, n1, n1, n1, n1, n1, n1, n1, n1, n1, n1, n1, n1, n1, n1]) rfl ?_ (fun _ h => h)
   refine AAny.go (by kernel_rfl) [0, 1, 2, 3, 4, 6, 9, 10, 11] (fuel' := 12) rfl [] #[y1, y1, y1, y1, y1, n1, y1, n1, n1, y1, y1, y1, n1, n1, n1, n1, n1, n1, n1, n1, n1] [0, 1, 2, 9, 10, 31, 32, 35, 37, 42] 1 ⟨[(0, q0 v1), (1, .tv (fzL 1 (cSl 2 c34) v2)), (2, .tv (fzL 1 (cSl 1 cStr) v3)), (9, .pc 0 0), (10, tI v4), (31, .pc 0 0), (32, .pc 0 0), (35, .pc 0 0), (37, tI v4), (42, .pc 0 1)], [.cells 85 [k0 v5, k0 v6]]⟩ ?_ z0 trivial ?_
   ·kernel_rfl
   obtain ⟨hd48, h⟩ := of_guard h
   refine AAny.share 7 #[y1, y1, y1, y1, y1, y1, y1, y1, y1, y1, y1, y1, y1, y1, n1, n1, n1, n1, n1, n1, n1] ⟨[(0, q0 v1), (1, .tv (fzL 1 (cSl 2 c34) v2)), (2, .tv (fzL 1 (cSl 1 cStr) v3)), (9, .pc 0 0), (10, tI v4), (31, .pc 0 0), (32, .pc 0 0), (39, q1 (v5 ++ [v4])), (43, .al (.cell 0 1, [])), (44, q1 [(0 : Int)])], [.cells 85 [.hole, k0 v6]]⟩ ?_ fun n11_ => ?_
   ·obtain ⟨hg, h⟩ := of_guard h
    refine AAny.step (i := 14) (fuel' := 6) rfl (by kernel_rfl) [(v6.length + [(0 : Int)].length) * 8 ≤ 140737488355328, PlainTo v6.length (fun i => (cInt .i64) (v6.getD i default)), PlainTo ([(0 : Int)].length) (fun i => (cInt .i64) ([(0 : Int)].getD i default))] #[y1, y1, y1, y1, y1, y1, y1, y1, y1, y1, y1, y1, y1, y1, y1, n1, n1, n1, n1, n1, n1] rfl [0, 1, 2, 9, 10, 31, 32, 39, 45] 1 ⟨[(0, q0 v1), (1, .tv (fzL 1 (cSl 2 c34) v2)), (2, .tv (fzL 1 (cSl 1 cStr) v3)), (9, .pc 0 0), (10, tI v4), (31, .pc 0 0), (32, .pc 0 0), (39, q1 (v5 ++ [v4])), (45, .tv (.own 1 3 (v6.length + [(0 : Int)].length) (appF v6.length (fun i => (cInt .i64) (v6.getD i default)) (fun i => (cInt .i64) ([(0 : Int)].getD i default)))))], [.cells 85 [.hole, .hole]]⟩ ?_ z0 ⟨hg, (fun _ _ => rfl), (fun _ _ => rfl)⟩ ?_
    ·kernel_rfl
    refine AAny.extL 45 (cInt .i64) (v6 ++ [(0 : Int)]) rfl List.length_append.symm (app_at (cInt .i64) v6 [(0 : Int)]) ?_
    refine AAny.go (by kernel_rfl) [15, 16] (fuel' := 4) rfl [] #[y1, y1, y1, y1, y1, y1, y1, y1, y1, y1, y1, y1, y1, y1, y1, y1, y1, n1, n1, n1, n1] [0, 1, 2, 9, 10, 32, 39, 45, 47] 1 ⟨[(0, q0 v1), (1, .tv (fzL 1 (cSl 2 c34) v2)), (2, .tv (fzL 1 (cSl 1 cStr) v3)), (9, .pc 0 0), (10, tI v4), (32, .pc 0 0), (39, q1 (v5 ++ [v4])), (45, q1 (v6 ++ [(0 : Int)])), (47, .pc 0 0)], [.cells 85 [.hole, .hole]]⟩ ?_ z0 trivial ?_
    ·kernel_rfl
    refine AAny.serial (i := 17) (fuel := 3) (by kernel_rfl) (AOne.own (F := (FF 230 0)) _ rfl rfl rfl rfl) ?_
    refine AAny.keepTo [0, 1, 2, 9, 10, 32, 45] 1 ⟨[(0, q0 v1), (1, .tv (fzL 1 (cSl 2 c34) v2)), (2, .tv (fzL 1 (cSl 1 cStr) v3)), (9, .pc 0 0), (10, tI v4), (32, .pc 0 0), (45, q1 (v6 ++ [(0 : Int)]))], [.cells 85 [k0 (v5 ++ [v4]), .hole]]⟩ #[y1, y1, y1, y1, y1, y1, y1, y1, y1, y1, y1, y1, y1, y1, y1, y1, y1, y1, n1, n1, n1] ?_ rfl z0 ?_
    ·kernel_rfl
    refine AAny.go (by kernel_rfl) [18, 19] (fuel' := 1) rfl [] #[y1, y1, y1, y1, y1, y1, y1, y1, y1, y1, y1, y1, y1, y1, y1, y1, y1, y1, y1, y1, n1] [0, 1, 2, 9, 10, 45, 49] 1 ⟨[(0, q0 v1), (1, .tv (fzL 1 (cSl 2 c34) v2)), (2, .tv (fzL 1 (cSl 1 cStr) v3)), (9, .pc 0 0), (10, tI v4), (45, q1 (v6 ++ [(0 : Int)])), (49, .pc 0 1)], [.cells 85 [k0 (v5 ++ [v4]), .hole]]⟩ ?_ z0 trivial ?_
    ·kernel_rfl
    refine AAny.serial (i := 20) (fuel := 0) (by kernel_rfl) (AOne.own (F := (FF 230 0)) _ rfl rfl rfl rfl) ?_
    refine AAny.keepTo [0, 1, 2, 9, 10] 1 ⟨[(0, q0 v1), (1, .tv (fzL 1 (cSl 2 c34) v2)), (2, .tv (fzL 1 (cSl 1 cStr) v3)), (9, .pc 0 0), (10, tI v4)], [.cells 85 [k0 (v5 ++ [v4]), k0 (v6 ++ [(0 : Int)])]]⟩ #[y1, y1, y1, y1, y1, y1, y1, y1, y1, y1, y1, y1, y1, y1, y1, y1, y1, y1, y1, y1, y1] ?_ rfl z0 ?_
    ·kernel_rfl
    refine AAny.keepTo [0, 1, 2, 9, 10] 1 ⟨[(0, q0 v1), (1, .tv (fzL 1 (cSl 2 c34) v2)), (2, .tv (fzL 1 (cSl 1 cStr) v3)), (9, .pc 0 0), (10, tI v4)], [.cells 85 [k0 (v5 ++ [v4]), k0 (v6 ++ [(0 : Int)])]]⟩ _ ?_ rfl z0 (AAny.done (by kernel_rfl) ?_)
    ·kernel_rfl
    refine AWp.start [0, 1, 2] [] [] [0, 1, 2, 9, 10] 1 ⟨[(0, q0 v1), (1, .tv (fzL 1 (cSl 2 c34) v2)), (2, .tv (fzL 1 (cSl 1 cStr) v3)), (9, .pc 0 0), (10, tI (w64 (v4 + (1 : Int))))], [.cells 85 [k0 (v5 ++ [v4]), k0 (v6 ++ [(0 : Int)])]]⟩ rfl ?_ z0 trivial ?_
    ·kernel_rfl
    refine AOps.nil ?_
    cases h
    exact Or.inl ⟨_, rfl, rfl, rfl⟩
   refine AAny.share 8 #[y1, y1, y1, y1, y1, y1, y1, y1, n1, y1, y1, y1, y1, y1, n1, n1, n1, n1, n1, n1, n1] ⟨[(0, q0 v1), (1, .tv (fzL 1 (cSl 2 c34) v2)), (2, .tv (fzL 1 (cSl 1 cStr) v3)), (9, .pc 0 0), (10, tI v4), (31, .pc 0 0), (32, .pc 0 0), (36, .al (.cell 0 0, [])), (38, q1 [v4]), (43, .al (.cell 0 1, [])), (44, q1 [(0 : Int)])], [.cells 85 [k0 v5, k0 v6]]⟩ ?_ fun n10_ => ?_
   ·refine AAny.each [8] (by kernel_rfl) rfl ?_
    refine AEach.step (i := 8) [(v5.length + [v4].length) * 8 ≤ 140737488355328, PlainTo v5.length (fun i => (cInt .i64) (v5.getD i default)), PlainTo ([v4].length) (fun i => (cInt .i64) ([v4].getD i default))] #[y1, y1, y1, y1, y1, y1, y1, y1, y1, y1, y1, y1, y1, y1, n1, n1, n1, n1, n1, n1, n1] rfl [0, 1, 2, 9, 10, 31, 32, 39, 43, 44] 1 ⟨[(0, q0 v1), (1, .tv (fzL 1 (cSl 2 c34) v2)), (2, .tv (fzL 1 (cSl 1 cStr) v3)), (9, .pc 0 0), (10, tI v4), (31, .pc 0 0), (32, .pc 0 0), (39, .tv (.own 1 3 (v5.length + [v4].length) (appF v5.length (fun i => (cInt .i64) (v5.getD i default)) (fun i => (cInt .i64) ([v4].getD i default))))), (43, .al (.cell 0 1, [])), (44, q1 [(0 : Int)])], [.cells 85 [.hole, k0 v6]]⟩ ?_ z0 ⟨hd48, (fun _ _ => rfl), (fun _ _ => rfl)⟩ ?_ ?_
    ·kernel_rfl
    ·refine AAny.extL 39 (cInt .i64) (v5 ++ [v4]) rfl List.length_append.symm (app_at (cInt .i64) v5 [v4]) ?_
     refine AAny.keepTo [0, 1, 2, 9, 10, 31, 32, 39, 43, 44] 1 ⟨[(0, q0 v1), (1, .tv (fzL 1 (cSl 2 c34) v2)), (2, .tv (fzL 1 (cSl 1 cStr) v3)), (9, .pc 0 0), (10, tI v4), (31, .pc 0 0), (32, .pc 0 0), (39, q1 (v5 ++ [v4])), (43, .al (.cell 0 1, [])), (44, q1 [(0 : Int)])], [.cells 85 [.hole, k0 v6]]⟩ #[y1, y1, y1, y1, y1, y1, y1, y1, y1, y1, y1, y1, y1, y1, n1, n1, n1, n1, n1, n1, n1] ?_ rfl z0 ?_
     ·kernel_rfl
     exact n11_
    exact AEach.nil
   refine AAny.share 8 #[y1, y1, y1, y1, y1, y1, y1, y1, y1, y1, y1, y1, n1, y1, n1, n1, n1, n1, n1, n1, n1] ⟨[(0, q0 v1), (1, .tv (fzL 1 (cSl 2 c34) v2)), (2, .tv (fzL 1 (cSl 1 cStr) v3)), (9, .pc 0 0), (10, tI v4), (31, .pc 0 0), (32, .pc 0 0), (39, q1 (v5 ++ [v4])), (42, .pc 0 1), (44, q1 [(0 : Int)])], [.cells 85 [.hole, k0 v6]]⟩ ?_ fun n13_ => ?_
   ·refine AAny.each [12] (by kernel_rfl) rfl ?_
    refine AEach.step (i := 12) [] #[y1, y1, y1, y1, y1, y1, y1, y1, y1, y1, y1, y1, y1, y1, n1, n1, n1, n1, n1, n1, n1] rfl [0, 1, 2, 9, 10, 31, 32, 39, 43, 44] 1 ⟨[(0, q0 v1), (1, .tv (fzL 1 (cSl 2 c34) v2)), (2, .tv (fzL 1 (cSl 1 cStr) v3)), (9, .pc 0 0), (10, tI v4), (31, .pc 0 0), (32, .pc 0 0), (39, q1 (v5 ++ [v4])), (43, .al (.cell 0 1, [])), (44, q1 [(0 : Int)])], [.cells 85 [.hole, k0 v6]]⟩ ?_ z0 trivial ?_ ?_
    ·kernel_rfl
    ·exact n11_
    exact AEach.nil
   refine AAny.share 8 #[y1, y1, y1, y1, y1, y1, y1, y1, y1, y1, y1, y1, y1, n1, n1, n1, n1, n1, n1, n1, n1] ⟨[(0, q0 v1), (1, .tv (fzL 1 (cSl 2 c34) v2)), (2, .tv (fzL 1 (cSl 1 cStr) v3)), (9, .pc 0 0), (10, tI v4), (31, .pc 0 0), (32, .pc 0 0), (39, q1 (v5 ++ [v4])), (43, .al (.cell 0 1, []))], [.cells 85 [.hole, k0 v6]]⟩ ?_ fun n17_ => ?_
   ·refine AAny.each [13] (by kernel_rfl) rfl ?_
    refine AEach.step (i := 13) [] #[y1, y1, y1, y1, y1, y1, y1, y1, y1, y1, y1, y1, y1, y1, n1, n1, n1, n1, n1, n1, n1] rfl [0, 1, 2, 9, 10, 31, 32, 39, 43, 44] 1 ⟨[(0, q0 v1), (1, .tv (fzL 1 (cSl 2 c34) v2)), (2, .tv (fzL 1 (cSl 1 cStr) v3)), (9, .pc 0 0), (10, tI v4), (31, .pc 0 0), (32, .pc 0 0), (39, q1 (v5 ++ [v4])), (43, .al (.cell 0 1, [])), (44, .tv (.own 1 3 1 (newRowF [.int .i64 (0 : Int)] 1)))], [.cells 85 [.hole, k0 v6]]⟩ ?_ z0 trivial ?_ ?_
    ·kernel_rfl
    ·refine AAny.extL 44 (cInt .i64) [(0 : Int)] rfl rfl (row_at (cInt .i64) 1 (fun _ => rfl) [(0 : Int)] _ rfl) ?_
     refine AAny.keepTo [0, 1, 2, 9, 10, 31, 32, 39, 43, 44] 1 ⟨[(0, q0 v1), (1, .tv (fzL 1 (cSl 2 c34) v2)), (2, .tv (fzL 1 (cSl 1 cStr) v3)), (9, .pc 0 0), (10, tI v4), (31, .pc 0 0), (32, .pc 0 0), (39, q1 (v5 ++ [v4])), (43, .al (.cell 0 1, [])), (44, q1 [(0 : Int)])], [.cells 85 [.hole, k0 v6]]⟩ #[y1, y1, y1, y1, y1, y1, y1, y1, y1, y1, y1, y1, y1, y1, n1, n1, n1, n1, n1, n1, n1] ?_ rfl z0 ?_
     ·kernel_rfl
     exact n11_
    exact AEach.nil
   refine AAny.share 9 #[y1, y1, y1, y1, y1, n1, y1, y1, n1, y1, y1, y1, y1, y1, n1, n1, n1, n1, n1, n1, n1] ⟨[(0, q0 v1), (1, .tv (fzL 1 (cSl 2 c34) v2)), (2, .tv (fzL 1 (cSl 1 cStr) v3)), (9, .pc 0 0), (10, tI v4), (31, .pc 0 0), (32, .pc 0 0), (35, .pc 0 0), (38, q1 [v4]), (43, .al (.cell 0 1, [])), (44, q1 [(0 : Int)])], [.cells 85 [k0 v5, k0 v6]]⟩ ?_ fun n9_ => ?_
   ·refine AAny.each [5] (by kernel_rfl) rfl ?_
    refine AEach.step (i := 5) [] #[y1, y1, y1, y1, y1, y1, y1, y1, n1, y1, y1, y1, y1, y1, n1, n1, n1, n1, n1, n1, n1] rfl [0, 1, 2, 9, 10, 31, 32, 36, 38, 43, 44] 1 ⟨[(0, q0 v1), (1, .tv (fzL 1 (cSl 2 c34) v2)), (2, .tv (fzL 1 (cSl 1 cStr) v3)), (9, .pc 0 0), (10, tI v4), (31, .pc 0 0), (32, .pc 0 0), (36, .al (.cell 0 0, [])), (38, q1 [v4]), (43, .al (.cell 0 1, [])), (44, q1 [(0 : Int)])], [.cells 85 [k0 v5, k0 v6]]⟩ ?_ z0 trivial ?_ ?_
    ·kernel_rfl
    ·exact n10_
    exact AEach.nil
   refine AAny.share 9 #[y1, y1, y1, y1, y1, y1, y1, n1, n1, y1, y1, y1, y1, y1, n1, n1, n1, n1, n1, n1, n1] ⟨[(0, q0 v1), (1, .tv (fzL 1 (cSl 2 c34) v2)), (2, .tv (fzL 1 (cSl 1 cStr) v3)), (9, .pc 0 0), (10, tI v4), (31, .pc 0 0), (32, .pc 0 0), (36, .al (.cell 0 0, [])), (37, tI v4), (43, .al (.cell 0 1, [])), (44, q1 [(0 : Int)])], [.cells 85 [k0 v5, k0 v6]]⟩ ?_ fun n8_ => ?_
   ·refine AAny.each [7] (by kernel_rfl) rfl ?_
    refine AEach.step (i := 7) [] #[y1, y1, y1, y1, y1, y1, y1, y1, n1, y1, y1, y1, y1, y1, n1, n1, n1, n1, n1, n1, n1] rfl [0, 1, 2, 9, 10, 31, 32, 36, 38, 43, 44] 1 ⟨[(0, q0 v1), (1, .tv (fzL 1 (cSl 2 c34) v2)), (2, .tv (fzL 1 (cSl 1 cStr) v3)), (9, .pc 0 0), (10, tI v4), (31, .pc 0 0), (32, .pc 0 0), (36, .al (.cell 0 0, [])), (38, .tv (.own 1 3 1 (newRowF [.int .i64 v4] 1))), (43, .al (.cell 0 1, [])), (44, q1 [(0 : Int)])], [.cells 85 [k0 v5, k0 v6]]⟩ ?_ z0 trivial ?_ ?_
    ·kernel_rfl
    ·refine AAny.extL 38 (cInt .i64) [v4] rfl rfl (row_at (cInt .i64) 1 (fun _ => rfl) [v4] _ rfl) ?_
     refine AAny.keepTo [0, 1, 2, 9, 10, 31, 32, 36, 38, 43, 44] 1 ⟨[(0, q0 v1), (1, .tv (fzL 1 (cSl 2 c34) v2)), (2, .tv (fzL 1 (cSl 1 cStr) v3)), (9, .pc 0 0), (10, tI v4), (31, .pc 0 0), (32, .pc 0 0), (36, .al (.cell 0 0, [])), (38, q1 [v4]), (43, .al (.cell 0 1, [])), (44, q1 [(0 : Int)])], [.cells 85 [k0 v5, k0 v6]]⟩ #[y1, y1, y1, y1, y1, y1, y1, y1, n1, y1, y1, y1, y1, y1, n1, n1, n1, n1, n1, n1, n1] ?_ rfl z0 ?_
     ·kernel_rfl
     exact n10_
    exact AEach.nil
   refine AAny.share 9 #[y1, y1, y1, y1, y1, y1, y1, y1, n1, y1, y1, y1, n1, y1, n1, n1, n1, n1, n1, n1, n1] ⟨[(0, q0 v1), (1, .tv (fzL 1 (cSl 2 c34) v2)), (2, .tv (fzL 1 (cSl 1 cStr) v3)), (9, .pc 0 0), (10, tI v4), (31, .pc 0 0), (32, .pc 0 0), (36, .al (.cell 0 0, [])), (38, q1 [v4]), (42, .pc 0 1), (44, q1 [(0 : Int)])], [.cells 85 [k0 v5, k0 v6]]⟩ ?_ fun n12_ => ?_
   ·refine AAny.each [8, 12] (by kernel_rfl) rfl ?_
    refine AEach.step (i := 8) [(v5.length + [v4].length) * 8 ≤ 140737488355328, PlainTo v5.length (fun i => (cInt .i64) (v5.getD i default)), PlainTo ([v4].length) (fun i => (cInt .i64) ([v4].getD i default))] #[y1, y1, y1, y1, y1, y1, y1, y1, y1, y1, y1, y1, n1, y1, n1, n1, n1, n1, n1, n1, n1] rfl [0, 1, 2, 9, 10, 31, 32, 39, 42, 44] 1 ⟨[(0, q0 v1), (1, .tv (fzL 1 (cSl 2 c34) v2)), (2, .tv (fzL 1 (cSl 1 cStr) v3)), (9, .pc 0 0), (10, tI v4), (31, .pc 0 0), (32, .pc 0 0), (39, .tv (.own 1 3 (v5.length + [v4].length) (appF v5.length (fun i => (cInt .i64) (v5.getD i default)) (fun i => (cInt .i64) ([v4].getD i default))))), (42, .pc 0 1), (44, q1 [(0 : Int)])], [.cells 85 [.hole, k0 v6]]⟩ ?_ z0 ⟨hd48, (fun _ _ => rfl), (fun _ _ => rfl)⟩ ?_ ?_
    ·kernel_rfl
    ·refine AAny.extL 39 (cInt .i64) (v5 ++ [v4]) rfl List.length_append.symm (app_at (cInt .i64) v5 [v4]) ?_
     refine AAny.keepTo [0, 1, 2, 9, 10, 31, 32, 39, 42, 44] 1 ⟨[(0, q0 v1), (1, .tv (fzL 1 (cSl 2 c34) v2)), (2, .tv (fzL 1 (cSl 1 cStr) v3)), (9, .pc 0 0), (10, tI v4), (31, .pc 0 0), (32, .pc 0 0), (39, q1 (v5 ++ [v4])), (42, .pc 0 1), (44, q1 [(0 : Int)])], [.cells 85 [.hole, k0 v6]]⟩ #[y1, y1, y1, y1, y1, y1, y1, y1, y1, y1, y1, y1, n1, y1, n1, n1, n1, n1, n1, n1, n1] ?_ rfl z0 ?_
     ·kernel_rfl
     exact n13_
    refine AEach.step (i := 12) [] #[y1, y1, y1, y1, y1, y1, y1, y1, n1, y1, y1, y1, y1, y1, n1, n1, n1, n1, n1, n1, n1] rfl [0, 1, 2, 9, 10, 31, 32, 36, 38, 43, 44] 1 ⟨[(0, q0 v1), (1, .tv (fzL 1 (cSl 2 c34) v2)), (2, .tv (fzL 1 (cSl 1 cStr) v3)), (9, .pc 0 0), (10, tI v4), (31, .pc 0 0), (32, .pc 0 0), (36, .al (.cell 0 0, [])), (38, q1 [v4]), (43, .al (.cell 0 1, [])), (44, q1 [(0 : Int)])], [.cells 85 [k0 v5, k0 v6]]⟩ ?_ z0 trivial ?_ ?_
    ·kernel_rfl
    ·exact n10_
    exact AEach.nil
   refine AAny.share 9 #[y1, y1, y1, y1, y1, y1, y1, y1, n1, y1, y1, y1, y1, n1, n1, n1, n1, n1, n1, n1, n1] ⟨[(0, q0 v1), (1, .tv (fzL 1 (cSl 2 c34) v2)), (2, .tv (fzL 1 (cSl 1 cStr) v3)), (9, .pc 0 0), (10, tI v4), (31, .pc 0 0), (32, .pc 0 0), (36, .al (.cell 0 0, [])), (38, q1 [v4]), (43, .al (.cell 0 1, []))], [.cells 85 [k0 v5, k0 v6]]⟩ ?_ fun n16_ => ?_
   ·refine AAny.each [8, 13] (by kernel_rfl) rfl ?_
    refine AEach.step (i := 8) [(v5.length + [v4].length) * 8 ≤ 140737488355328, PlainTo v5.length (fun i => (cInt .i64) (v5.getD i default)), PlainTo ([v4].length) (fun i => (cInt .i64) ([v4].getD i default))] #[y1, y1, y1, y1, y1, y1, y1, y1, y1, y1, y1, y1, y1, n1, n1, n1, n1, n1, n1, n1, n1] rfl [0, 1, 2, 9, 10, 31, 32, 39, 43] 1 ⟨[(0, q0 v1), (1, .tv (fzL 1 (cSl 2 c34) v2)), (2, .tv (fzL 1 (cSl 1 cStr) v3)), (9, .pc 0 0), (10, tI v4), (31, .pc 0 0), (32, .pc 0 0), (39, .tv (.own 1 3 (v5.length + [v4].length) (appF v5.length (fun i => (cInt .i64) (v5.getD i default)) (fun i => (cInt .i64) ([v4].getD i default))))), (43, .al (.cell 0 1, []))], [.cells 85 [.hole, k0 v6]]⟩ ?_ z0 ⟨hd48, (fun _ _ => rfl), (fun _ _ => rfl)⟩ ?_ ?_
    ·kernel_rfl
    ·refine AAny.extL 39 (cInt .i64) (v5 ++ [v4]) rfl List.length_append.symm (app_at (cInt .i64) v5 [v4]) ?_
     refine AAny.keepTo [0, 1, 2, 9, 10, 31, 32, 39, 43] 1 ⟨[(0, q0 v1), (1, .tv (fzL 1 (cSl 2 c34) v2)), (2, .tv (fzL 1 (cSl 1 cStr) v3)), (9, .pc 0 0), (10, tI v4), (31, .pc 0 0), (32, .pc 0 0), (39, q1 (v5 ++ [v4])), (43, .al (.cell 0 1, []))], [.cells 85 [.hole, k0 v6]]⟩ #[y1, y1, y1, y1, y1, y1, y1, y1, y1, y1, y1, y1, y1, n1, n1, n1, n1, n1, n1, n1, n1] ?_ rfl z0 ?_
     ·kernel_rfl
     exact n17_
    refine AEach.step (i := 13) [] #[y1, y1, y1, y1, y1, y1, y1, y1, n1, y1, y1, y1, y1, y1, n1, n1, n1, n1, n1, n1, n1] rfl [0, 1, 2, 9, 10, 31, 32, 36, 38, 43, 44] 1 ⟨[(0, q0 v1), (1, .tv (fzL 1 (cSl 2 c34) v2)), (2, .tv (fzL 1 (cSl 1 cStr) v3)), (9, .pc 0 0), (10, tI v4), (31, .pc 0 0), (32, .pc 0 0), (36, .al (.cell 0 0, [])), (38, q1 [v4]), (43, .al (.cell 0 1, [])), (44, .tv (.own 1 3 1 (newRowF [.int .i64 (0 : Int)] 1)))], [.cells 85 [k0 v5, k0 v6]]⟩ ?_ z0 trivial ?_ ?_
    ·kernel_rfl
    ·refine AAny.extL 44 (cInt .i64) [(0 : Int)] rfl rfl (row_at (cInt .i64) 1 (fun _ => rfl) [(0 : Int)] _ rfl) ?_
     refine AAny.keepTo [0, 1, 2, 9, 10, 31, 32, 36, 38, 43, 44] 1 ⟨[(0, q0 v1), (1, .tv (fzL 1 (cSl 2 c34) v2)), (2, .tv (fzL 1 (cSl 1 cStr) v3)), (9, .pc 0 0), (10, tI v4), (31, .pc 0 0), (32, .pc 0 0), (36, .al (.cell 0 0, [])), (38, q1 [v4]), (43, .al (.cell 0 1, [])), (44, q1 [(0 : Int)])], [.cells 85 [k0 v5, k0 v6]]⟩ #[y1, y1, y1, y1, y1, y1, y1, y1, n1, y1, y1, y1, y1, y1, n1, n1, n1, n1, n1, n1, n1] ?_ rfl z0 ?_
     ·kernel_rfl
     exact n10_
    exact AEach.nil
   refine AAny.share 9 #[y1, y1, y1, y1, y1, y1, y1, y1, y1, y1, y1, y1, n1, n1, n1, n1, n1, n1, n1, n1, n1] ⟨[(0, q0 v1), (1, .tv (fzL 1 (cSl 2 c34) v2)), (2, .tv (fzL 1 (cSl 1 cStr) v3)), (9, .pc 0 0), (10, tI v4), (31, .pc 0 0), (32, .pc 0 0), (39, q1 (v5 ++ [v4])), (42, .pc 0 1)], [.cells 85 [.hole, k0 v6]]⟩ ?_ fun n19_ => ?_
   ·refine AAny.each [12, 13] (by kernel_rfl) rfl ?_
    refine AEach.step (i := 12) [] #[y1, y1, y1, y1, y1, y1, y1, y1, y1, y1, y1, y1, y1, n1, n1, n1, n1, n1, n1, n1, n1] rfl [0, 1, 2, 9, 10, 31, 32, 39, 43] 1 ⟨[(0, q0 v1), (1, .tv (fzL 1 (cSl 2 c34) v2)), (2, .tv (fzL 1 (cSl 1 cStr) v3)), (9, .pc 0 0), (10, tI v4), (31, .pc 0 0), (32, .pc 0 0), (39, q1 (v5 ++ [v4])), (43, .al (.cell 0 1, []))], [.cells 85 [.hole, k0 v6]]⟩ ?_ z0 trivial ?_ ?_
    ·kernel_rfl
    ·exact n17_
    refine AEach.step (i := 13) [] #[y1, y1, y1, y1, y1, y1, y1, y1, y1, y1, y1, y1, n1, y1, n1, n1, n1, n1, n1, n1, n1] rfl [0, 1, 2, 9, 10, 31, 32, 39, 42, 44] 1 ⟨[(0, q0 v1), (1, .tv (fzL 1 (cSl 2 c34) v2)), (2, .tv (fzL 1 (cSl 1 cStr) v3)), (9, .pc 0 0), (10, tI v4), (31, .pc 0 0), (32, .pc 0 0), (39, q1 (v5 ++ [v4])), (42, .pc 0 1), (44, .tv (.own 1 3 1 (newRowF [.int .i64 (0 : Int)] 1)))], [.cells 85 [.hole, k0 v6]]⟩ ?_ z0 trivial ?_ ?_
    ·kernel_rfl
    ·refine AAny.extL 44 (cInt .i64) [(0 : Int)] rfl rfl (row_at (cInt .i64) 1 (fun _ => rfl) [(0 : Int)] _ rfl) ?_
     refine AAny.keepTo [0, 1, 2, 9, 10, 31, 32, 39, 42, 44] 1 ⟨[(0, q0 v1), (1, .tv (fzL 1 (cSl 2 c34) v2)), (2, .tv (fzL 1 (cSl 1 cStr) v3)), (9, .pc 0 0), (10, tI v4), (31, .pc 0 0), (32, .pc 0 0), (39, q1 (v5 ++ [v4])), (42, .pc 0 1), (44, q1 [(0 : Int)])], [.cells 85 [.hole, k0 v6]]⟩ #[y1, y1, y1, y1, y1, y1, y1, y1, y1, y1, y1, y1, n1, y1, n1, n1, n1, n1, n1, n1, n1] ?_ rfl z0 ?_
     ·kernel_rfl
     exact n13_
    exact AEach.nil
   refine AAny.share 10 #[y1, y1, y1, y1, y1, n1, y1, n1, n1, y1, y1, y1, y1, y1, n1, n1, n1, n1, n1, n1, n1] ⟨[(0, q0 v1), (1, .tv (fzL 1 (cSl 2 c34) v2)), (2, .tv (fzL 1 (cSl 1 cStr) v3)), (9, .pc 0 0), (10, tI v4), (31, .pc 0 0), (32, .pc 0 0), (35, .pc 0 0), (37, tI v4), (43, .al (.cell 0 1, [])), (44, q1 [(0 : Int)])], [.cells 85 [k0 v5, k0 v6]]⟩ ?_ fun n7_ => ?_
   ·refine AAny.each [5, 7] (by kernel_rfl) rfl ?_
    refine AEach.step (i := 5) [] #[y1, y1, y1, y1, y1, y1, y1, n1, n1, y1, y1, y1, y1, y1, n1, n1, n1, n1, n1, n1, n1] rfl [0, 1, 2, 9, 10, 31, 32, 36, 37, 43, 44] 1 ⟨[(0, q0 v1), (1, .tv (fzL 1 (cSl 2 c34) v2)), (2, .tv (fzL 1 (cSl 1 cStr) v3)), (9, .pc 0 0), (10, tI v4), (31, .pc 0 0), (32, .pc 0 0), (36, .al (.cell 0 0, [])), (37, tI v4), (43, .al (.cell 0 1, [])), (44, q1 [(0 : Int)])], [.cells 85 [k0 v5, k0 v6]]⟩ ?_ z0 trivial ?_ ?_
    ·kernel_rfl
    ·exact n8_
    refine AEach.step (i := 7) [] #[y1, y1, y1, y1, y1, n1, y1, y1, n1, y1, y1, y1, y1, y1, n1, n1, n1, n1, n1, n1, n1] rfl [0, 1, 2, 9, 10, 31, 32, 35, 38, 43, 44] 1 ⟨[(0, q0 v1), (1, .tv (fzL 1 (cSl 2 c34) v2)), (2, .tv (fzL 1 (cSl 1 cStr) v3)), (9, .pc 0 0), (10, tI v4), (31, .pc 0 0), (32, .pc 0 0), (35, .pc 0 0), (38, .tv (.own 1 3 1 (newRowF [.int .i64 v4] 1))), (43, .al (.cell 0 1, [])), (44, q1 [(0 : Int)])], [.cells 85 [k0 v5, k0 v6]]⟩ ?_ z0 trivial ?_ ?_
    ·kernel_rfl
    ·refine AAny.extL 38 (cInt .i64) [v4] rfl rfl (row_at (cInt .i64) 1 (fun _ => rfl) [v4] _ rfl) ?_
     refine AAny.keepTo [0, 1, 2, 9, 10, 31, 32, 35, 38, 43, 44] 1 ⟨[(0, q0 v1), (1, .tv (fzL 1 (cSl 2 c34) v2)), (2, .tv (fzL 1 (cSl 1 cStr) v3)), (9, .pc 0 0), (10, tI v4), (31, .pc 0 0), (32, .pc 0 0), (35, .pc 0 0), (38, q1 [v4]), (43, .al (.cell 0 1, [])), (44, q1 [(0 : Int)])], [.cells 85 [k0 v5, k0 v6]]⟩ #[y1, y1, y1, y1, y1, n1, y1, y1, n1, y1, y1, y1, y1, y1, n1, n1, n1, n1, n1, n1, n1] ?_ rfl z0 ?_
     ·kernel_rfl
     exact n9_
    exact AEach.nil
   refine AAny.share 10 #[y1, y1, y1, y1, y1, n1, y1, y1, n1, y1, y1, y1, n1, y1, n1, n1, n1, n1, n1, n1, n1] ⟨[(0, q0 v1), (1, .tv (fzL 1 (cSl 2 c34) v2)), (2, .tv (fzL 1 (cSl 1 cStr) v3)), (9, .pc 0 0), (10, tI v4), (31, .pc 0 0), (32, .pc 0 0), (35, .pc 0 0), (38, q1 [v4]), (42, .pc 0 1), (44, q1 [(0 : Int)])], [.cells 85 [k0 v5, k0 v6]]⟩ ?_ fun n6_ => ?_
   ·refine AAny.each [5, 12] (by kernel_rfl) rfl ?_
    refine AEach.step (i := 5) [] #[y1, y1, y1, y1, y1, y1, y1, y1, n1, y1, y1, y1, n1, y1, n1, n1, n1, n1, n1, n1, n1] rfl [0, 1, 2, 9, 10, 31, 32, 36, 38, 42, 44] 1 ⟨[(0, q0 v1), (1, .tv (fzL 1 (cSl 2 c34) v2)), (2, .tv (fzL 1 (cSl 1 cStr) v3)), (9, .pc 0 0), (10, tI v4), (31, .pc 0 0), (32, .pc 0 0), (36, .al (.cell 0 0, [])), (38, q1 [v4]), (42, .pc 0 1), (44, q1 [(0 : Int)])], [.cells 85 [k0 v5, k0 v6]]⟩ ?_ z0 trivial ?_ ?_
    ·kernel_rfl
    ·exact n12_
    refine AEach.step (i := 12) [] #[y1, y1, y1, y1, y1, n1, y1, y1, n1, y1, y1, y1, y1, y1, n1, n1, n1, n1, n1, n1, n1] rfl [0, 1, 2, 9, 10, 31, 32, 35, 38, 43, 44] 1 ⟨[(0, q0 v1), (1, .tv (fzL 1 (cSl 2 c34) v2)), (2, .tv (fzL 1 (cSl 1 cStr) v3)), (9, .pc 0 0), (10, tI v4), (31, .pc 0 0), (32, .pc 0 0), (35, .pc 0 0), (38, q1 [v4]), (43, .al (.cell 0 1, [])), (44, q1 [(0 : Int)])], [.cells 85 [k0 v5, k0 v6]]⟩ ?_ z0 trivial ?_ ?_
    ·kernel_rfl
    ·exact n9_
    exact AEach.nil
   refine AAny.share 10 #[y1, y1, y1, y1, y1, y1, y1, n1, n1, y1, y1, y1, n1, y1, n1, n1, n1, n1, n1, n1, n1] ⟨[(0, q0 v1), (1, .tv (fzL 1 (cSl 2 c34) v2)), (2, .tv (fzL 1 (cSl 1 cStr) v3)), (9, .pc 0 0), (10, tI v4), (31, .pc 0 0), (32, .pc 0 0), (36, .al (.cell 0 0, [])), (37, tI v4), (42, .pc 0 1), (44, q1 [(0 : Int)])], [.cells 85 [k0 v5, k0 v6]]⟩ ?_ fun n5_ => ?_
   ·refine AAny.each [7, 12] (by kernel_rfl) rfl ?_
    refine AEach.step (i := 7) [] #[y1, y1, y1, y1, y1, y1, y1, y1, n1, y1, y1, y1, n1, y1, n1, n1, n1, n1, n1, n1, n1] rfl [0, 1, 2, 9, 10, 31, 32, 36, 38, 42, 44] 1 ⟨[(0, q0 v1), (1, .tv (fzL 1 (cSl 2 c34) v2)), (2, .tv (fzL 1 (cSl 1 cStr) v3)), (9, .pc 0 0), (10, tI v4), (31, .pc 0 0), (32, .pc 0 0), (36, .al (.cell 0 0, [])), (38, .tv (.own 1 3 1 (newRowF [.int .i64 v4] 1))), (42, .pc 0 1), (44, q1 [(0 : Int)])], [.cells 85 [k0 v5, k0 v6]]⟩ ?_ z0 trivial ?_ ?_
    ·kernel_rfl
    ·refine AAny.extL 38 (cInt .i64) [v4] rfl rfl (row_at (cInt .i64) 1 (fun _ => rfl) [v4] _ rfl) ?_
     refine AAny.keepTo [0, 1, 2, 9, 10, 31, 32, 36, 38, 42, 44] 1 ⟨[(0, q0 v1), (1, .tv (fzL 1 (cSl 2 c34) v2)), (2, .tv (fzL 1 (cSl 1 cStr) v3)), (9, .pc 0 0), (10, tI v4), (31, .pc 0 0), (32, .pc 0 0), (36, .al (.cell 0 0, [])), (38, q1 [v4]), (42, .pc 0 1), (44, q1 [(0 : Int)])], [.cells 85 [k0 v5, k0 v6]]⟩ #[y1, y1, y1, y1, y1, y1, y1, y1, n1, y1, y1, y1, n1, y1, n1, n1, n1, n1, n1, n1, n1] ?_ rfl z0 ?_
     ·kernel_rfl
     exact n12_
    refine AEach.step (i := 12) [] #[y1, y1, y1, y1, y1, y1, y1, n1, n1, y1, y1, y1, y1, y1, n1, n1, n1, n1, n1, n1, n1] rfl [0, 1, 2, 9, 10, 31, 32, 36, 37, 43, 44] 1 ⟨[(0, q0 v1), (1, .tv (fzL 1 (cSl 2 c34) v2)), (2, .tv (fzL 1 (cSl 1 cStr) v3)), (9, .pc 0 0), (10, tI v4), (31, .pc 0 0), (32, .pc 0 0), (36, .al (.cell 0 0, [])), (37, tI v4), (43, .al (.cell 0 1, [])), (44, q1 [(0 : Int)])], [.cells 85 [k0 v5, k0 v6]]⟩ ?_ z0 trivial ?_ ?_
    ·kernel_rfl
    ·exact n8_
    exact AEach.nil
   refine AAny.share 10 #[y1, y1, y1, y1, y1, n1, y1, y1, n1, y1, y1, y1, y1, n1, n1, n1, n1, n1, n1, n1, n1] ⟨[(0, q0 v1), (1, .tv (fzL 1 (cSl 2 c34) v2)), (2, .tv (fzL 1 (cSl 1 cStr) v3)), (9, .pc 0 0), (10, tI v4), (31, .pc 0 0), (32, .pc 0 0), (35, .pc 0 0), (38, q1 [v4]), (43, .al (.cell 0 1, []))], [.cells 85 [k0 v5, k0 v6]]⟩ ?_ fun n15_ => ?_
   ·refine AAny.each [5, 13] (by kernel_rfl) rfl ?_
    refine AEach.step (i := 5) [] #[y1, y1, y1, y1, y1, y1, y1, y1, n1, y1, y1, y1, y1, n1, n1, n1, n1, n1, n1, n1, n1] rfl [0, 1, 2, 9, 10, 31, 32, 36, 38, 43] 1 ⟨[(0, q0 v1), (1, .tv (fzL 1 (cSl 2 c34) v2)), (2, .tv (fzL 1 (cSl 1 cStr) v3)), (9, .pc 0 0), (10, tI v4), (31, .pc 0 0), (32, .pc 0 0), (36, .al (.cell 0 0, [])), (38, q1 [v4]), (43, .al (.cell 0 1, []))], [.cells 85 [k0 v5, k0 v6]]⟩ ?_ z0 trivial ?_ ?_
    ·kernel_rfl
    ·exact n16_
    refine AEach.step (i := 13) [] #[y1, y1, y1, y1, y1, n1, y1, y1, n1, y1, y1, y1, y1, y1, n1, n1, n1, n1, n1, n1, n1] rfl [0, 1, 2, 9, 10, 31, 32, 35, 38, 43, 44] 1 ⟨[(0, q0 v1), (1, .tv (fzL 1 (cSl 2 c34) v2)), (2, .tv (fzL 1 (cSl 1 cStr) v3)), (9, .pc 0 0), (10, tI v4), (31, .pc 0 0), (32, .pc 0 0), (35, .pc 0 0), (38, q1 [v4]), (43, .al (.cell 0 1, [])), (44, .tv (.own 1 3 1 (newRowF [.int .i64 (0 : Int)] 1)))], [.cells 85 [k0 v5, k0 v6]]⟩ ?_ z0 trivial ?_ ?_
    ·kernel_rfl
    ·refine AAny.extL 44 (cInt .i64) [(0 : Int)] rfl rfl (row_at (cInt .i64) 1 (fun _ => rfl) [(0 : Int)] _ rfl) ?_
     refine AAny.keepTo [0, 1, 2, 9, 10, 31, 32, 35, 38, 43, 44] 1 ⟨[(0, q0 v1), (1, .tv (fzL 1 (cSl 2 c34) v2)), (2, .tv (fzL 1 (cSl 1 cStr) v3)), (9, .pc 0 0), (10, tI v4), (31, .pc 0 0), (32, .pc 0 0), (35, .pc 0 0), (38, q1 [v4]), (43, .al (.cell 0 1, [])), (44, q1 [(0 : Int)])], [.cells 85 [k0 v5, k0 v6]]⟩ #[y1, y1, y1, y1, y1, n1, y1, y1, n1, y1, y1, y1, y1, y1, n1, n1, n1, n1, n1, n1, n1] ?_ rfl z0 ?_
     ·kernel_rfl
     exact n9_
    exact AEach.nil
   refine AAny.share 10 #[y1, y1, y1, y1, y1, y1, y1, n1, n1, y1, y1, y1, y1, n1, n1, n1, n1, n1, n1, n1, n1] ⟨[(0, q0 v1), (1, .tv (fzL 1 (cSl 2 c34) v2)), (2, .tv (fzL 1 (cSl 1 cStr) v3)), (9, .pc 0 0), (10, tI v4), (31, .pc 0 0), (32, .pc 0 0), (36, .al (.cell 0 0, [])), (37, tI v4), (43, .al (.cell 0 1, []))], [.cells 85 [k0 v5, k0 v6]]⟩ ?_ fun n14_ => ?_
   ·refine AAny.each [7, 13] (by kernel_rfl) rfl ?_
    refine AEach.step (i := 7) [] #[y1, y1, y1, y1, y1, y1, y1, y1, n1, y1, y1, y1, y1, n1, n1, n1, n1, n1, n1, n1, n1] rfl [0, 1, 2, 9, 10, 31, 32, 36, 38, 43] 1 ⟨[(0, q0 v1), (1, .tv (fzL 1 (cSl 2 c34) v2)), (2, .tv (fzL 1 (cSl 1 cStr) v3)), (9, .pc 0 0), (10, tI v4), (31, .pc 0 0), (32, .pc 0 0), (36, .al (.cell 0 0, [])), (38, .tv (.own 1 3 1 (newRowF [.int .i64 v4] 1))), (43, .al (.cell 0 1, []))], [.cells 85 [k0 v5, k0 v6]]⟩ ?_ z0 trivial ?_ ?_
    ·kernel_rfl
    ·refine AAny.extL 38 (cInt .i64) [v4] rfl rfl (row_at (cInt .i64) 1 (fun _ => rfl) [v4] _ rfl) ?_
     refine AAny.keepTo [0, 1, 2, 9, 10, 31, 32, 36, 38, 43] 1 ⟨[(0, q0 v1), (1, .tv (fzL 1 (cSl 2 c34) v2)), (2, .tv (fzL 1 (cSl 1 cStr) v3)), (9, .pc 0 0), (10, tI v4), (31, .pc 0 0), (32, .pc 0 0), (36, .al (.cell 0 0, [])), (38, q1 [v4]), (43, .al (.cell 0 1, []))], [.cells 85 [k0 v5, k0 v6]]⟩ #[y1, y1, y1, y1, y1, y1, y1, y1, n1, y1, y1, y1, y1, n1, n1, n1, n1, n1, n1, n1, n1] ?_ rfl z0 ?_
     ·kernel_rfl
     exact n16_
    refine AEach.step (i := 13) [] #[y1, y1, y1, y1, y1, y1, y1, n1, n1, y1, y1, y1, y1, y1, n1, n1, n1, n1, n1, n1, n1] rfl [0, 1, 2, 9, 10, 31, 32, 36, 37, 43, 44] 1 ⟨[(0, q0 v1), (1, .tv (fzL 1 (cSl 2 c34) v2)), (2, .tv (fzL 1 (cSl 1 cStr) v3)), (9, .pc 0 0), (10, tI v4), (31, .pc 0 0), (32, .pc 0 0), (36, .al (.cell 0 0, [])), (37, tI v4), (43, .al (.cell 0 1, [])), (44, .tv (.own 1 3 1 (newRowF [.int .i64 (0 : Int)] 1)))], [.cells 85 [k0 v5, k0 v6]]⟩ ?_ z0 trivial ?_ ?_
    ·kernel_rfl
    ·refine AAny.extL 44 (cInt .i64) [(0 : Int)] rfl rfl (row_at (cInt .i64) 1 (fun _ => rfl) [(0 : Int)] _ rfl) ?_
     refine AAny.keepTo [0, 1, 2, 9, 10, 31, 32, 36, 37, 43, 44] 1 ⟨[(0, q0 v1), (1, .tv (fzL 1 (cSl 2 c34) v2)), (2, .tv (fzL 1 (cSl 1 cStr) v3)), (9, .pc 0 0), (10, tI v4), (31, .pc 0 0), (32, .pc 0 0), (36, .al (.cell 0 0, [])), (37, tI v4), (43, .al (.cell 0 1, [])), (44, q1 [(0 : Int)])], [.cells 85 [k0 v5, k0 v6]]⟩ #[y1, y1, y1, y1, y1, y1, y1, n1, n1, y1, y1, y1, y1, y1, n1, n1, n1, n1, n1, n1, n1] ?_ rfl z0 ?_
     ·kernel_rfl
     exact n8_
    exact AEach.nil
   refine AAny.share 10 #[y1, y1, y1, y1, y1, y1, y1, y1, n1, y1, y1, y1, n1, n1, n1, n1, n1, n1, n1, n1, n1] ⟨[(0, q0 v1), (1, .tv (fzL 1 (cSl 2 c34) v2)), (2, .tv (fzL 1 (cSl 1 cStr) v3)), (9, .pc 0 0), (10, tI v4), (31, .pc 0 0), (32, .pc 0 0), (36, .al (.cell 0 0, [])), (38, q1 [v4]), (42, .pc 0 1)], [.cells 85 [k0 v5, k0 v6]]⟩ ?_ fun n18_ => ?_
   ·refine AAny.each [8, 12, 13] (by kernel_rfl) rfl ?_
    refine AEach.step (i := 8) [(v5.length + [v4].length) * 8 ≤ 140737488355328, PlainTo v5.length (fun i => (cInt .i64) (v5.getD i default)), PlainTo ([v4].length) (fun i => (cInt .i64) ([v4].getD i default))] #[y1, y1, y1, y1, y1, y1, y1, y1, y1, y1, y1, y1, n1, n1, n1, n1, n1, n1, n1, n1, n1] rfl [0, 1, 2, 9, 10, 31, 32, 39, 42] 1 ⟨[(0, q0 v1), (1, .tv (fzL 1 (cSl 2 c34) v2)), (2, .tv (fzL 1 (cSl 1 cStr) v3)), (9, .pc 0 0), (10, tI v4), (31, .pc 0 0), (32, .pc 0 0), (39, .tv (.own 1 3 (v5.length + [v4].length) (appF v5.length (fun i => (cInt .i64) (v5.getD i default)) (fun i => (cInt .i64) ([v4].getD i default))))), (42, .pc 0 1)], [.cells 85 [.hole, k0 v6]]⟩ ?_ z0 ⟨hd48, (fun _ _ => rfl), (fun _ _ => rfl)⟩ ?_ ?_
    ·kernel_rfl
    ·refine AAny.extL 39 (cInt .i64) (v5 ++ [v4]) rfl List.length_append.symm (app_at (cInt .i64) v5 [v4]) ?_
     refine AAny.keepTo [0, 1, 2, 9, 10, 31, 32, 39, 42] 1 ⟨[(0, q0 v1), (1, .tv (fzL 1 (cSl 2 c34) v2)), (2, .tv (fzL 1 (cSl 1 cStr) v3)), (9, .pc 0 0), (10, tI v4), (31, .pc 0 0), (32, .pc 0 0), (39, q1 (v5 ++ [v4])), (42, .pc 0 1)], [.cells 85 [.hole, k0 v6]]⟩ #[y1, y1, y1, y1, y1, y1, y1, y1, y1, y1, y1, y1, n1, n1, n1, n1, n1, n1, n1, n1, n1] ?_ rfl z0 ?_
     ·kernel_rfl
     exact n19_
    refine AEach.step (i := 12) [] #[y1, y1, y1, y1, y1, y1, y1, y1, n1, y1, y1, y1, y1, n1, n1, n1, n1, n1, n1, n1, n1] rfl [0, 1, 2, 9, 10, 31, 32, 36, 38, 43] 1 ⟨[(0, q0 v1), (1, .tv (fzL 1 (cSl 2 c34) v2)), (2, .tv (fzL 1 (cSl 1 cStr) v3)), (9, .pc 0 0), (10, tI v4), (31, .pc 0 0), (32, .pc 0 0), (36, .al (.cell 0 0, [])), (38, q1 [v4]), (43, .al (.cell 0 1, []))], [.cells 85 [k0 v5, k0 v6]]⟩ ?_ z0 trivial ?_ ?_
    ·kernel_rfl
    ·exact n16_
    refine AEach.step (i := 13) [] #[y1, y1, y1, y1, y1, y1, y1, y1, n1, y1, y1, y1, n1, y1, n1, n1, n1, n1, n1, n1, n1] rfl [0, 1, 2, 9, 10, 31, 32, 36, 38, 42, 44] 1 ⟨[(0, q0 v1), (1, .tv (fzL 1 (cSl 2 c34) v2)), (2, .tv (fzL 1 (cSl 1 cStr) v3)), (9, .pc 0 0), (10, tI v4), (31, .pc 0 0), (32, .pc 0 0), (36, .al (.cell 0 0, [])), (38, q1 [v4]), (42, .pc 0 1), (44, .tv (.own 1 3 1 (newRowF [.int .i64 (0 : Int)] 1)))], [.cells 85 [k0 v5, k0 v6]]⟩ ?_ z0 trivial ?_ ?_
    ·kernel_rfl
    ·refine AAny.extL 44 (cInt .i64) [(0 : Int)] rfl rfl (row_at (cInt .i64) 1 (fun _ => rfl) [(0 : Int)] _ rfl) ?_
     refine AAny.keepTo [0, 1, 2, 9, 10, 31, 32, 36, 38, 42, 44] 1 ⟨[(0, q0 v1), (1, .tv (fzL 1 (cSl 2 c34) v2)), (2, .tv (fzL 1 (cSl 1 cStr) v3)), (9, .pc 0 0), (10, tI v4), (31, .pc 0 0), (32, .pc 0 0), (36, .al (.cell 0 0, [])), (38, q1 [v4]), (42, .pc 0 1), (44, q1 [(0 : Int)])], [.cells 85 [k0 v5, k0 v6]]⟩ #[y1, y1, y1, y1, y1, y1, y1, y1, n1, y1, y1, y1, n1, y1, n1, n1, n1, n1, n1, n1, n1] ?_ rfl z0 ?_
     ·kernel_rfl
     exact n12_
    exact AEach.nil
   refine AAny.share 11 #[y1, y1, y1, y1, y1, n1, y1, n1, n1, y1, y1, y1, n1, y1, n1, n1, n1, n1, n1, n1, n1] ⟨[(0, q0 v1), (1, .tv (fzL 1 (cSl 2 c34) v2)), (2, .tv (fzL 1 (cSl 1 cStr) v3)), (9, .pc 0 0), (10, tI v4), (31, .pc 0 0), (32, .pc 0 0), (35, .pc 0 0), (37, tI v4), (42, .pc 0 1), (44, q1 [(0 : Int)])], [.cells 85 [k0 v5, k0 v6]]⟩ ?_ fun n4_ => ?_
   ·refine AAny.each [5, 7, 12] (by kernel_rfl) rfl ?_
    refine AEach.step (i := 5) [] #[y1, y1, y1, y1, y1, y1, y1, n1, n1, y1, y1, y1, n1, y1, n1, n1, n1, n1, n1, n1, n1] rfl [0, 1, 2, 9, 10, 31, 32, 36, 37, 42, 44] 1 ⟨[(0, q0 v1), (1, .tv (fzL 1 (cSl 2 c34) v2)), (2, .tv (fzL 1 (cSl 1 cStr) v3)), (9, .pc 0 0), (10, tI v4), (31, .pc 0 0), (32, .pc 0 0), (36, .al (.cell 0 0, [])), (37, tI v4), (42, .pc 0 1), (44, q1 [(0 : Int)])], [.cells 85 [k0 v5, k0 v6]]⟩ ?_ z0 trivial ?_ ?_
    ·kernel_rfl
    ·exact n5_
    refine AEach.step (i := 7) [] #[y1, y1, y1, y1, y1, n1, y1, y1, n1, y1, y1, y1, n1, y1, n1, n1, n1, n1, n1, n1, n1] rfl [0, 1, 2, 9, 10, 31, 32, 35, 38, 42, 44] 1 ⟨[(0, q0 v1), (1, .tv (fzL 1 (cSl 2 c34) v2)), (2, .tv (fzL 1 (cSl 1 cStr) v3)), (9, .pc 0 0), (10, tI v4), (31, .pc 0 0), (32, .pc 0 0), (35, .pc 0 0), (38, .tv (.own 1 3 1 (newRowF [.int .i64 v4] 1))), (42, .pc 0 1), (44, q1 [(0 : Int)])], [.cells 85 [k0 v5, k0 v6]]⟩ ?_ z0 trivial ?_ ?_
    ·kernel_rfl
    ·refine AAny.extL 38 (cInt .i64) [v4] rfl rfl (row_at (cInt .i64) 1 (fun _ => rfl) [v4] _ rfl) ?_
     refine AAny.keepTo [0, 1, 2, 9, 10, 31, 32, 35, 38, 42, 44] 1 ⟨[(0, q0 v1), (1, .tv (fzL 1 (cSl 2 c34) v2)), (2, .tv (fzL 1 (cSl 1 cStr) v3)), (9, .pc 0 0), (10, tI v4), (31, .pc 0 0), (32, .pc 0 0), (35, .pc 0 0), (38, q1 [v4]), (42, .pc 0 1), (44, q1 [(0 : Int)])], [.cells 85 [k0 v5, k0 v6]]⟩ #[y1, y1, y1, y1, y1, n1, y1, y1, n1, y1, y1, y1, n1, y1, n1, n1, n1, n1, n1, n1, n1] ?_ rfl z0 ?_
     ·kernel_rfl
     exact n6_
    refine AEach.step (i := 12) [] #[y1, y1, y1, y1, y1, n1, y1, n1, n1, y1, y1, y1, y1, y1, n1, n1, n1, n1, n1, n1, n1] rfl [0, 1, 2, 9, 10, 31, 32, 35, 37, 43, 44] 1 ⟨[(0, q0 v1), (1, .tv (fzL 1 (cSl 2 c34) v2)), (2, .tv (fzL 1 (cSl 1 cStr) v3)), (9, .pc 0 0), (10, tI v4), (31, .pc 0 0), (32, .pc 0 0), (35, .pc 0 0), (37, tI v4), (43, .al (.cell 0 1, [])), (44, q1 [(0 : Int)])], [.cells 85 [k0 v5, k0 v6]]⟩ ?_ z0 trivial ?_ ?_
    ·kernel_rfl
    ·exact n7_
    exact AEach.nil
   refine AAny.share 11 #[y1, y1, y1, y1, y1, n1, y1, n1, n1, y1, y1, y1, y1, n1, n1, n1, n1, n1, n1, n1, n1] ⟨[(0, q0 v1), (1, .tv (fzL 1 (cSl 2 c34) v2)), (2, .tv (fzL 1 (cSl 1 cStr) v3)), (9, .pc 0 0), (10, tI v4), (31, .pc 0 0), (32, .pc 0 0), (35, .pc 0 0), (37, tI v4), (43, .al (.cell 0 1, []))], [.cells 85 [k0 v5, k0 v6]]⟩ ?_ fun n3_ => ?_
   ·refine AAny.each [5, 7, 13] (by kernel_rfl) rfl ?_
    refine AEach.step (i := 5) [] #[y1, y1, y1, y1, y1, y1, y1, n1, n1, y1, y1, y1, y1, n1, n1, n1, n1, n1, n1, n1, n1] rfl [0, 1, 2, 9, 10, 31, 32, 36, 37, 43] 1 ⟨[(0, q0 v1), (1, .tv (fzL 1 (cSl 2 c34) v2)), (2, .tv (fzL 1 (cSl 1 cStr) v3)), (9, .pc 0 0), (10, tI v4), (31, .pc 0 0), (32, .pc 0 0), (36, .al (.cell 0 0, [])), (37, tI v4), (43, .al (.cell 0 1, []))], [.cells 85 [k0 v5, k0 v6]]⟩ ?_ z0 trivial ?_ ?_
    ·kernel_rfl
    ·exact n14_
    refine AEach.step (i := 7) [] #[y1, y1, y1, y1, y1, n1, y1, y1, n1, y1, y1, y1, y1, n1, n1, n1, n1, n1, n1, n1, n1] rfl [0, 1, 2, 9, 10, 31, 32, 35, 38, 43] 1 ⟨[(0, q0 v1), (1, .tv (fzL 1 (cSl 2 c34) v2)), (2, .tv (fzL 1 (cSl 1 cStr) v3)), (9, .pc 0 0), (10, tI v4), (31, .pc 0 0), (32, .pc 0 0), (35, .pc 0 0), (38, .tv (.own 1 3 1 (newRowF [.int .i64 v4] 1))), (43, .al (.cell 0 1, []))], [.cells 85 [k0 v5, k0 v6]]⟩ ?_ z0 trivial ?_ ?_
    ·kernel_rfl
    ·refine AAny.extL 38 (cInt .i64) [v4] rfl rfl (row_at (cInt .i64) 1 (fun _ => rfl) [v4] _ rfl) ?_
     refine AAny.keepTo [0, 1, 2, 9, 10, 31, 32, 35, 38, 43] 1 ⟨[(0, q0 v1), (1, .tv (fzL 1 (cSl 2 c34) v2)), (2, .tv (fzL 1 (cSl 1 cStr) v3)), (9, .pc 0 0), (10, tI v4), (31, .pc 0 0), (32, .pc 0 0), (35, .pc 0 0), (38, q1 [v4]), (43, .al (.cell 0 1, []))], [.cells 85 [k0 v5, k0 v6]]⟩ #[y1, y1, y1, y1, y1, n1, y1, y1, n1, y1, y1, y1, y1, n1, n1, n1, n1, n1, n1, n1, n1] ?_ rfl z0 ?_
     ·kernel_rfl
     exact n15_
    refine AEach.step (i := 13) [] #[y1, y1, y1, y1, y1, n1, y1, n1, n1, y1, y1, y1, y1, y1, n1, n1, n1, n1, n1, n1, n1] rfl [0, 1, 2, 9, 10, 31, 32, 35, 37, 43, 44] 1 ⟨[(0, q0 v1), (1, .tv (fzL 1 (cSl 2 c34) v2)), (2, .tv (fzL 1 (cSl 1 cStr) v3)), (9, .pc 0 0), (10, tI v4), (31, .pc 0 0), (32, .pc 0 0), (35, .pc 0 0), (37, tI v4), (43, .al (.cell 0 1, [])), (44, .tv (.own 1 3 1 (newRowF [.int .i64 (0 : Int)] 1)))], [.cells 85 [k0 v5, k0 v6]]⟩ ?_ z0 trivial ?_ ?_
    ·kernel_rfl
    ·refine AAny.extL 44 (cInt .i64) [(0 : Int)] rfl rfl (row_at (cInt .i64) 1 (fun _ => rfl) [(0 : Int)] _ rfl) ?_
     refine AAny.keepTo [0, 1, 2, 9, 10, 31, 32, 35, 37, 43, 44] 1 ⟨[(0, q0 v1), (1, .tv (fzL 1 (cSl 2 c34) v2)), (2, .tv (fzL 1 (cSl 1 cStr) v3)), (9, .pc 0 0), (10, tI v4), (31, .pc 0 0), (32, .pc 0 0), (35, .pc 0 0), (37, tI v4), (43, .al (.cell 0 1, [])), (44, q1 [(0 : Int)])], [.cells 85 [k0 v5, k0 v6]]⟩ #[y1, y1, y1, y1, y1, n1, y1, n1, n1, y1, y1, y1, y1, y1, n1, n1, n1, n1, n1, n1, n1] ?_ rfl z0 ?_
     ·kernel_rfl
     exact n7_
    exact AEach.nil
   refine AAny.share 11 #[y1, y1, y1, y1, y1, n1, y1, y1, n1, y1, y1, y1, n1, n1, n1, n1, n1, n1, n1, n1, n1] ⟨[(0, q0 v1), (1, .tv (fzL 1 (cSl 2 c34) v2)), (2, .tv (fzL 1 (cSl 1 cStr) v3)), (9, .pc 0 0), (10, tI v4), (31, .pc 0 0), (32, .pc 0 0), (35, .pc 0 0), (38, q1 [v4]), (42, .pc 0 1)], [.cells 85 [k0 v5, k0 v6]]⟩ ?_ fun n2_ => ?_
   ·refine AAny.each [5, 12, 13] (by kernel_rfl) rfl ?_
    refine AEach.step (i := 5) [] #[y1, y1, y1, y1, y1, y1, y1, y1, n1, y1, y1, y1, n1, n1, n1, n1, n1, n1, n1, n1, n1] rfl [0, 1, 2, 9, 10, 31, 32, 36, 38, 42] 1 ⟨[(0, q0 v1), (1, .tv (fzL 1 (cSl 2 c34) v2)), (2, .tv (fzL 1 (cSl 1 cStr) v3)), (9, .pc 0 0), (10, tI v4), (31, .pc 0 0), (32, .pc 0 0), (36, .al (.cell 0 0, [])), (38, q1 [v4]), (42, .pc 0 1)], [.cells 85 [k0 v5, k0 v6]]⟩ ?_ z0 trivial ?_ ?_
    ·kernel_rfl
    ·exact n18_
    refine AEach.step (i := 12) [] #[y1, y1, y1, y1, y1, n1, y1, y1, n1, y1, y1, y1, y1, n1, n1, n1, n1, n1, n1, n1, n1] rfl [0, 1, 2, 9, 10, 31, 32, 35, 38, 43] 1 ⟨[(0, q0 v1), (1, .tv (fzL 1 (cSl 2 c34) v2)), (2, .tv (fzL 1 (cSl 1 cStr) v3)), (9, .pc 0 0), (10, tI v4), (31, .pc 0 0), (32, .pc 0 0), (35, .pc 0 0), (38, q1 [v4]), (43, .al (.cell 0 1, []))], [.cells 85 [k0 v5, k0 v6]]⟩ ?_ z0 trivial ?_ ?_
    ·kernel_rfl
    ·exact n15_
    refine AEach.step (i := 13) [] #[y1, y1, y1, y1, y1, n1, y1, y1, n1, y1, y1, y1, n1, y1, n1, n1, n1, n1, n1, n1, n1] rfl [0, 1, 2, 9, 10, 31, 32, 35, 38, 42, 44] 1 ⟨[(0, q0 v1), (1, .tv (fzL 1 (cSl 2 c34) v2)), (2, .tv (fzL 1 (cSl 1 cStr) v3)), (9, .pc 0 0), (10, tI v4), (31, .pc 0 0), (32, .pc 0 0), (35, .pc 0 0), (38, q1 [v4]), (42, .pc 0 1), (44, .tv (.own 1 3 1 (newRowF [.int .i64 (0 : Int)] 1)))], [.cells 85 [k0 v5, k0 v6]]⟩ ?_ z0 trivial ?_ ?_
    ·kernel_rfl
    ·refine AAny.extL 44 (cInt .i64) [(0 : Int)] rfl rfl (row_at (cInt .i64) 1 (fun _ => rfl) [(0 : Int)] _ rfl) ?_
     refine AAny.keepTo [0, 1, 2, 9, 10, 31, 32, 35, 38, 42, 44] 1 ⟨[(0, q0 v1), (1, .tv (fzL 1 (cSl 2 c34) v2)), (2, .tv (fzL 1 (cSl 1 cStr) v3)), (9, .pc 0 0), (10, tI v4), (31, .pc 0 0), (32, .pc 0 0), (35, .pc 0 0), (38, q1 [v4]), (42, .pc 0 1), (44, q1 [(0 : Int)])], [.cells 85 [k0 v5, k0 v6]]⟩ #[y1, y1, y1, y1, y1, n1, y1, y1, n1, y1, y1, y1, n1, y1, n1, n1, n1, n1, n1, n1, n1] ?_ rfl z0 ?_
     ·kernel_rfl
     exact n6_
    exact AEach.nil
   refine AAny.share 11 #[y1, y1, y1, y1, y1, y1, y1, n1, n1, y1, y1, y1, n1, n1, n1, n1, n1, n1, n1, n1, n1] ⟨[(0, q0 v1), (1, .tv (fzL 1 (cSl 2 c34) v2)), (2, .tv (fzL 1 (cSl 1 cStr) v3)), (9, .pc 0 0), (10, tI v4), (31, .pc 0 0), (32, .pc 0 0), (36, .al (.cell 0 0, [])), (37, tI v4), (42, .pc 0 1)], [.cells 85 [k0 v5, k0 v6]]⟩ ?_ fun n1_ => ?_
   ·refine AAny.each [7, 12, 13] (by kernel_rfl) rfl ?_
    refine AEach.step (i := 7) [] #[y1, y1, y1, y1, y1, y1, y1, y1, n1, y1, y1, y1, n1, n1, n1, n1, n1, n1, n1, n1, n1] rfl [0, 1, 2, 9, 10, 31, 32, 36, 38, 42] 1 ⟨[(0, q0 v1), (1, .tv (fzL 1 (cSl 2 c34) v2)), (2, .tv (fzL 1 (cSl 1 cStr) v3)), (9, .pc 0 0), (10, tI v4), (31, .pc 0 0), (32, .pc 0 0), (36, .al (.cell 0 0, [])), (38, .tv (.own 1 3 1 (newRowF [.int .i64 v4] 1))), (42, .pc 0 1)], [.cells 85 [k0 v5, k0 v6]]⟩ ?_ z0 trivial ?_ ?_
    ·kernel_rfl
    ·refine AAny.extL 38 (cInt .i64) [v4] rfl rfl (row_at (cInt .i64) 1 (fun _ => rfl) [v4] _ rfl) ?_
     refine AAny.keepTo [0, 1, 2, 9, 10, 31, 32, 36, 38, 42] 1 ⟨[(0, q0 v1), (1, .tv (fzL 1 (cSl 2 c34) v2)), (2, .tv (fzL 1 (cSl 1 cStr) v3)), (9, .pc 0 0), (10, tI v4), (31, .pc 0 0), (32, .pc 0 0), (36, .al (.cell 0 0, [])), (38, q1 [v4]), (42, .pc 0 1)], [.cells 85 [k0 v5, k0 v6]]⟩ #[y1, y1, y1, y1, y1, y1, y1, y1, n1, y1, y1, y1, n1, n1, n1, n1, n1, n1, n1, n1, n1] ?_ rfl z0 ?_
     ·kernel_rfl
     exact n18_
    refine AEach.step (i := 12) [] #[y1, y1, y1, y1, y1, y1, y1, n1, n1, y1, y1, y1, y1, n1, n1, n1, n1, n1, n1, n1, n1] rfl [0, 1, 2, 9, 10, 31, 32, 36, 37, 43] 1 ⟨[(0, q0 v1), (1, .tv (fzL 1 (cSl 2 c34) v2)), (2, .tv (fzL 1 (cSl 1 cStr) v3)), (9, .pc 0 0), (10, tI v4), (31, .pc 0 0), (32, .pc 0 0), (36, .al (.cell 0 0, [])), (37, tI v4), (43, .al (.cell 0 1, []))], [.cells 85 [k0 v5, k0 v6]]⟩ ?_ z0 trivial ?_ ?_
    ·kernel_rfl
    ·exact n14_
    refine AEach.step (i := 13) [] #[y1, y1, y1, y1, y1, y1, y1, n1, n1, y1, y1, y1, n1, y1, n1, n1, n1, n1, n1, n1, n1] rfl [0, 1, 2, 9, 10, 31, 32, 36, 37, 42, 44] 1 ⟨[(0, q0 v1), (1, .tv (fzL 1 (cSl 2 c34) v2)), (2, .tv (fzL 1 (cSl 1 cStr) v3)), (9, .pc 0 0), (10, tI v4), (31, .pc 0 0), (32, .pc 0 0), (36, .al (.cell 0 0, [])), (37, tI v4), (42, .pc 0 1), (44, .tv (.own 1 3 1 (newRowF [.int .i64 (0 : Int)] 1)))], [.cells 85 [k0 v5, k0 v6]]⟩ ?_ z0 trivial ?_ ?_
    ·kernel_rfl
    ·refine AAny.extL 44 (cInt .i64) [(0 : Int)] rfl rfl (row_at (cInt .i64) 1 (fun _ => rfl) [(0 : Int)] _ rfl) ?_
     refine AAny.keepTo [0, 1, 2, 9, 10, 31, 32, 36, 37, 42, 44] 1 ⟨[(0, q0 v1), (1, .tv (fzL 1 (cSl 2 c34) v2)), (2, .tv (fzL 1 (cSl 1 cStr) v3)), (9, .pc 0 0), (10, tI v4), (31, .pc 0 0), (32, .pc 0 0), (36, .al (.cell 0 0, [])), (37, tI v4), (42, .pc 0 1), (44, q1 [(0 : Int)])], [.cells 85 [k0 v5, k0 v6]]⟩ #[y1, y1, y1, y1, y1, y1, y1, n1, n1, y1, y1, y1, n1, y1, n1, n1, n1, n1, n1, n1, n1] ?_ rfl z0 ?_
     ·kernel_rfl
     exact n5_
    exact AEach.nil
   refine AAny.each [5, 7, 12, 13] (by kernel_rfl) rfl ?_
   refine AEach.step (i := 5) [] #[y1, y1, y1, y1, y1, y1, y1, n1, n1, y1, y1, y1, n1, n1, n1, n1, n1, n1, n1, n1, n1] rfl [0, 1, 2, 9, 10, 31, 32, 36, 37, 42] 1 ⟨[(0, q0 v1), (1, .tv (fzL 1 (cSl 2 c34) v2)), (2, .tv (fzL 1 (cSl 1 cStr) v3)), (9, .pc 0 0), (10, tI v4), (31, .pc 0 0), (32, .pc 0 0), (36, .al (.cell 0 0, [])), (37, tI v4), (42, .pc 0 1)], [.cells 85 [k0 v5, k0 v6]]⟩ ?_ z0 trivial ?_ ?_
   ·kernel_rfl
   ·exact n1_
   refine AEach.step (i := 7) [] #[y1, y1, y1, y1, y1, n1, y1, y1, n1, y1, y1, y1, n1, n1, n1, n1, n1, n1, n1, n1, n1] rfl [0, 1, 2, 9, 10, 31, 32, 35, 38, 42] 1 ⟨[(0, q0 v1), (1, .tv (fzL 1 (cSl 2 c34) v2)), (2, .tv (fzL 1 (cSl 1 cStr) v3)), (9, .pc 0 0), (10, tI v4), (31, .pc 0 0), (32, .pc 0 0), (35, .pc 0 0), (38, .tv (.own 1 3 1 (newRowF [.int .i64 v4] 1))), (42, .pc 0 1)], [.cells 85 [k0 v5, k0 v6]]⟩ ?_ z0 trivial ?_ ?_
   ·kernel_rfl
   ·refine AAny.extL 38 (cInt .i64) [v4] rfl rfl (row_at (cInt .i64) 1 (fun _ => rfl) [v4] _ rfl) ?_
    refine AAny.keepTo [0, 1, 2, 9, 10, 31, 32, 35, 38, 42] 1 ⟨[(0, q0 v1), (1, .tv (fzL 1 (cSl 2 c34) v2)), (2, .tv (fzL 1 (cSl 1 cStr) v3)), (9, .pc 0 0), (10, tI v4), (31, .pc 0 0), (32, .pc 0 0), (35, .pc 0 0), (38, q1 [v4]), (42, .pc 0 1)], [.cells 85 [k0 v5, k0 v6]]⟩ #[y1, y1, y1, y1, y1, n1, y1, y1, n1, y1, y1, y1, n1, n1, n1, n1, n1, n1, n1, n1, n1] ?_ rfl z0 ?_
    ·kernel_rfl
    exact n2_
   refine AEach.step (i := 12) [] #[y1, y1, y1, y1, y1, n1, y1, n1, n1, y1, y1, y1, y1, n1, n1, n1, n1, n1, n1, n1, n1] rfl [0, 1, 2, 9, 10, 31, 32, 35, 37, 43] 1 ⟨[(0, q0 v1), (1, .tv (fzL 1 (cSl 2 c34) v2)), (2, .tv (fzL 1 (cSl 1 cStr) v3)), (9, .pc 0 0), (10, tI v4), (31, .pc 0 0), (32, .pc 0 0), (35, .pc 0 0), (37, tI v4), (43, .al (.cell 0 1, []))], [.cells 85 [k0 v5, k0 v6]]⟩ ?_ z0 trivial ?_ ?_
   ·kernel_rfl
   ·exact n3_
   refine AEach.step (i := 13) [] #[y1, y1, y1, y1, y1, n1, y1, n1, n1, y1, y1, y1, n1, y1, n1, n1, n1, n1, n1, n1, n1] rfl [0, 1, 2, 9, 10, 31, 32, 35, 37, 42, 44] 1 ⟨[(0, q0 v1), (1, .tv (fzL 1 (cSl 2 c34) v2)), (2, .tv (fzL 1 (cSl 1 cStr) v3)), (9, .pc 0 0), (10, tI v4), (31, .pc 0 0), (32, .pc 0 0), (35, .pc 0 0), (37, tI v4), (42, .pc 0 1), (44, .tv (.own 1 3 1 (newRowF [.int .i64 (0 : Int)] 1)))], [.cells 85 [k0 v5, k0 v6]]⟩ ?_ z0 trivial ?_ ?_
   ·kernel_rfl
   ·refine AAny.extL 44 (cInt .i64) [(0 : Int)] rfl rfl (row_at (cInt .i64) 1 (fun _ => rfl) [(0 : Int)] _ rfl) ?_
    refine AAny.keepTo [0, 1, 2, 9, 10, 31, 32, 35, 37, 42, 44] 1 ⟨[(0, q0 v1), (1, .tv (fzL 1 (cSl 2 c34) v2)), (2, .tv (fzL 1 (cSl 1 cStr) v3)), (9, .pc 0 0), (10, tI v4), (31, .pc 0 0), (32, .pc 0 0), (35, .pc 0 0), (37, tI v4), (42, .pc 0 1), (44, q1 [(0 : Int)])], [.cells 85 [k0 v5, k0 v6]]⟩ #[y1, y1, y1, y1, y1, n1, y1, n1, n1, y1, y1, y1, n1, y1, n1, n1, n1, n1, n1, n1, n1] ?_ rfl z0 ?_
    ·kernel_rfl
    exact n4_
   exact AEach.nil
  ·replace h := of_false h hb
   refine AWp.keepTo [0, 1, 2, 9] 1 ⟨[(0, q0 v1), (1, .tv (fzL 1 (cSl 2 c34) v2)), (2, .tv (fzL 1 (cSl 1 cStr) v3)), (9, .pc 0 0)], [.cells 85 [k0 v5, k0 v6]]⟩ ?_ z0 ?_
   ·kernel_rfl
   refine AWp.exit ?_
   cases h
   exact Or.inr ⟨_, rfl, by simp, rfl, rfl⟩
 ·intro e σ hp
  rcases y with v9 | ⟨v7, v8⟩
  ·obtain ⟨rfl, rfl⟩ := hp
   cases h
   exact ⟨.inr rfl, rfl⟩
  ·obtain ⟨rfl, rfl⟩ := hp
   refine AWp.seq ?_
   refine AWp.seq ?_
   refine AWp.start [0] [] [] [0, 1, 2, 9, 11] 1 ⟨[(0, q0 v1), (1, .tv (fzL 1 (cSl 2 c34) v2)), (2, .tv (fzL 1 (cSl 1 cStr) v3)), (9, .pc 0 0), (11, tI (0 : Int))], [.cells 85 [k0 v7, k0 v8]]⟩ rfl ?_ z0 trivial ?_
   ·kernel_rfl
   refine AOps.nil ?_
   refine AWp.block ?_
   obtain ⟨y, hy, h⟩ := of_bind h
   refine AWp.mono (AWp.loop (S := Int × (List Int) × (List Int)) (Y := Out ((Option T84) × (List UInt8) × Bool) ((List Int) × (List Int))) (fun s => ⟨[(0, q0 v1), (1, .tv (fzL 1 (cSl 2 c34) v2)), (2, .tv (fzL 1 (cSl 1 cStr) v3)), (9, .pc 0 0), (11, tI s.1)], [.cells 85 [k0 s.2.1, k0 s.2.2]]⟩) (fun s => f39_b3 v1 v3 s.1 s.2.1 s.2.2) (fun y e σ => match y with | .ret r => e = .ret ∧ σ = ⟨[(6, (match r.1 with | none => .tv (.sc (.pointer none)) | some _ => .pc 0 0)), (7, tS r.2.1), (8, tB r.2.2)], ([] ++ (match r.1 with | none => [] | some u => [.cells 85 [k0 u.f0, k0 u.f1]]))⟩ | .go v => e = .exit 2 ∧ σ = ⟨[(0, q0 v1), (1, .tv (fzL 1 (cSl 2 c34) v2)), (2, .tv (fzL 1 (cSl 1 cStr) v3)), (9, .pc 0 0)], [.cells 85 [k0 v.1, k0 v.2]]⟩) ?_ hy) ?_
   ·rintro ⟨v10, v11, v12⟩ o h
    refine AWp.seq ?_
    refine AWp.seq ?_
    refine AWp.start [0, 1, 2, 3] [] [] [0, 1, 2, 9, 11, 53] 1 ⟨[(0, q0 v1), (1, .tv (fzL 1 (cSl 2 c34) v2)), (2, .tv (fzL 1 (cSl 1 cStr) v3)), (9, .pc 0 0), (11, tI v10), (53, tB (decide (v10 < (v3.length : Int))))], [.cells 85 [k0 v11, k0 v12]]⟩ rfl ?_ z0 trivial ?_
    ·kernel_rfl
    refine AOps.nil ?_
    refine AWp.cond rfl (fun hb => ?_) fun hb => ?_
    ·replace h := of_true h hb
     refine AWp.keepTo [0, 1, 2, 9, 11] 1 ⟨[(0, q0 v1), (1, .tv (fzL 1 (cSl 2 c34) v2)), (2, .tv (fzL 1 (cSl 1 cStr) v3)), (9, .pc 0 0), (11, tI v10)], [.cells 85 [k0 v11, k0 v12]]⟩ ?_ z0 ?_
     ·kernel_rfl
     refine AWp.skip ?_
     refine AWp.seq ?_
     refine AWp.block ?_
     refine AWp.seq ?_
     refine AWp.start [0] [] [] [0, 1, 2, 9, 11, 12] 1 ⟨[(0, q0 v1), (1, .tv (fzL 1 (cSl 2 c34) v2)), (2, .tv (fzL 1 (cSl 1 cStr) v3)), (9, .pc 0 0), (11, tI v10), (12, tI (1 : Int))], [.cells 85 [k0 v11, k0 v12]]⟩ rfl ?_ z0 trivial ?_
     ·kernel_rfl
     refine AOps.nil ?_
     refine AWp.block ?_
     obtain ⟨y, hy, h⟩ := of_bind h
     refine AWp.mono (AWp.loop (S := Int × (List Int) × (List Int)) (Y := Out ((Option T84) × (List UInt8) × Bool) ((List Int) × (List Int))) (fun s => ⟨[(0, q0 v1), (1, .tv (fzL 1 (cSl 2 c34) v2)), (2, .tv (fzL 1 (cSl 1 cStr) v3)), (9, .pc 0 0), (11, tI v10), (12, tI s.1)], [.cells 85 [k0 s.2.1, k0 s.2.2]]⟩) (fun s => f39_b2 v1 v3 v10 s.1 s.2.1 s.2.2) (fun y e σ => match y with | .ret r => e = .ret ∧ σ = ⟨[(6, (match r.1 with | none => .tv (.sc (.pointer none)) | some _ => .pc 0 0)), (7, tS r.2.1), (8, tB r.2.2)], ([] ++ (match r.1 with | none => [] | some u => [.cells 85 [k0 u.f0, k0 u.f1]]))⟩ | .go v => e = .exit 4 ∧ σ = ⟨[(0, q0 v1), (1, .tv (fzL 1 (cSl 2 c34) v2)), (2, .tv (fzL 1 (cSl 1 cStr) v3)), (9, .pc 0 0), (11, tI v10)], [.cells 85 [k0 v.1, k0 v.2]]⟩) ?_ hy) ?_
     ·rintro ⟨v15, v16, v17⟩ o h
      refine AWp.seq ?_
      refine AWp.seq ?_
      obtain ⟨hg, h⟩ := of_guard h
      refine AWp.start [0, 1, 2, 3, 4, 5, 6] [] [(0 : Int) ≤ v10, v10 < (v3.length : Int)] [0, 1, 2, 9, 11, 12, 62] 1 ⟨[(0, q0 v1), (1, .tv (fzL 1 (cSl 2 c34) v2)), (2, .tv (fzL 1 (cSl 1 cStr) v3)), (9, .pc 0 0), (11, tI v10), (12, tI v15), (62, tB (decide (v15 < ((gD v3 v10).length : Int))))], [.cells 85 [k0 v16, k0 v17]]⟩ rfl ?_ z0 ⟨hg.1, hg.2⟩ ?_
      ·kernel_rfl
      refine AOps.nil ?_
      refine AWp.cond rfl (fun hb => ?_) fun hb => ?_
      ·replace h := of_true h hb
       refine AWp.keepTo [0, 1, 2, 9, 11, 12] 1 ⟨[(0, q0 v1), (1, .tv (fzL 1 (cSl 2 c34) v2)), (2, .tv (fzL 1 (cSl 1 cStr) v3)), (9, .pc 0 0), (11, tI v10), (12, tI v15)], [.cells 85 [k0 v16, k0 v17]]⟩ ?_ z0 ?_
       ·kernel_rfl
       refine AWp.skip ?_
       refine AWp.seq ?_
       refine AWp.block ?_
       refine AWp.seq ?_
       refine AWp.draw FFm _ (n := 21) rfl (ls := #[n1, n1, n1, n1, n1, n1, n1, n1, n1, n1, n1, n1, n1, n1, n1, n1, n1, n1, n1, n1, n1]) rfl ?_ (fun _ h => h)
       obtain ⟨hg, h⟩ := of_guard h
       refine AAny.go (by kernel_rfl) [0, 1, 2, 3, 4, 5, 6, 7, 8, 10, 11, 12, 13, 14, 15, 16, 17] (fuel' := 4) rfl [(0 : Int) ≤ v10, v10 < (v3.length : Int), (0 : Int) ≤ w64 (v15 - (1 : Int)), w64 (v15 - (1 : Int)) < ((gD v3 v10).length : Int), (0 : Int) ≤ v10, v10 < (v3.length : Int), (0 : Int) ≤ v15, v15 < ((gD v3 v10).length : Int)] #[y1, y1, y1, y1, y1, y1, y1, y1, y1, n1, y1, y1, y1, y1, y1, y1, y1, y1, n1, n1, n1] [0, 1, 2, 9, 11, 12, 65, 73, 75, 82] 1 ⟨[(0, q0 v1), (1, .tv (fzL 1 (cSl 2 c34) v2)), (2, .tv (fzL 1 (cSl 1 cStr) v3)), (9, .pc 0 0), (11, tI v10), (12, tI v15), (65, q0 v1), (73, tS ((gD v3 v10).getD (Int.toNat (w64 (v15 - (1 : Int)))) default)), (75, q0 v1), (82, tS (gD (gD v3 v10) v15))], [.cells 85 [k0 v16, k0 v17]]⟩ ?_ z0 ⟨hg.1, hg.2.1, hg.2.2.1, hg.2.2.2.1, hg.2.2.2.2.1, hg.2.2.2.2.2.1, hg.2.2.2.2.2.2.1, hg.2.2.2.2.2.2.2⟩ ?_
       ·kernel_rfl
       obtain ⟨v20, hv20, h⟩ := of_bind h
       refine AAny.serial (i := 9) (fuel := 3) (by kernel_rfl) (AOne.callP (F := (FF 230 0)) _ rfl rfl rfl _ rfl rfl _ _ rfl Try.call33 [q0 v1, tS ((gD v3 v10).getD (Int.toNat (w64 (v15 - (1 : Int)))) default)] rfl rfl (f33_ok v1 ((gD v3 v10).getD (Int.toNat (w64 (v15 - (1 : Int)))) default) hv20) rfl) ?_
       refine AAny.keepTo [0, 1, 2, 9, 11, 12, 74, 75, 82] 1 ⟨[(0, q0 v1), (1, .tv (fzL 1 (cSl 2 c34) v2)), (2, .tv (fzL 1 (cSl 1 cStr) v3)), (9, .pc 0 0), (11, tI v10), (12, tI v15), (74, tI v20), (75, q0 v1), (82, tS (gD (gD v3 v10) v15))], [.cells 85 [k0 v16, k0 v17]]⟩ #[y1, y1, y1, y1, y1, y1, y1, y1, y1, y1, y1, y1, y1, y1, y1, y1, y1, y1, n1, n1, n1] ?_ rfl z0 ?_
       ·kernel_rfl
       obtain ⟨v21, hv21, h⟩ := of_bind h
       refine AAny.serial (i := 18) (fuel := 2) (by kernel_rfl) (AOne.callP (F := (FF 230 0)) _ rfl rfl rfl _ rfl rfl _ _ rfl Try.call33 [q0 v1, tS (gD (gD v3 v10) v15)] rfl rfl (f33_ok v1 (gD (gD v3 v10) v15) hv21) rfl) ?_
       refine AAny.keepTo [0, 1, 2, 9, 11, 12, 74, 83] 1 ⟨[(0, q0 v1), (1, .tv (fzL 1 (cSl 2 c34) v2)), (2, .tv (fzL 1 (cSl 1 cStr) v3)), (9, .pc 0 0), (11, tI v10), (12, tI v15), (74, tI v20), (83, tI v21)], [.cells 85 [k0 v16, k0 v17]]⟩ #[y1, y1, y1, y1, y1, y1, y1, y1, y1, y1, y1, y1, y1, y1, y1, y1, y1, y1, y1, n1, n1] ?_ rfl z0 ?_
       ·kernel_rfl
       refine AAny.go (by kernel_rfl) [19, 20] (fuel' := 0) rfl [] #[y1, y1, y1, y1, y1, y1, y1, y1, y1, y1, y1, y1, y1, y1, y1, y1, y1, y1, y1, y1, y1] [0, 1, 2, 9, 11, 12, 13, 14] 1 ⟨[(0, q0 v1), (1, .tv (fzL 1 (cSl 2 c34) v2)), (2, .tv (fzL 1 (cSl 1 cStr) v3)), (9, .pc 0 0), (11, tI v10), (12, tI v15), (13, tI v20), (14, tI v21)], [.cells 85 [k0 v16, k0 v17]]⟩ ?_ z0 trivial ?_
       ·kernel_rfl
       refine AAny.keepTo [0, 1, 2, 9, 11, 12, 13, 14] 1 ⟨[(0, q0 v1), (1, .tv (fzL 1 (cSl 2 c34) v2)), (2, .tv (fzL 1 (cSl 1 cStr) v3)), (9, .pc 0 0), (11, tI v10), (12, tI v15), (13, tI v20), (14, tI v21)], [.cells 85 [k0 v16, k0 v17]]⟩ _ ?_ rfl z0 (AAny.done (by kernel_rfl) ?_)
       ·kernel_rfl
       refine AWp.seq ?_
       refine AWp.draw FFm _ (n := 16) rfl (ls := #[n1, n1, n1, n1, n1, n1, n1, n1, n1, n1, n1, n1, n1, n1, n1, n1]) rfl ?_ (fun _ h => h)
       obtain ⟨hg, h⟩ := of_guard h
       refine AAny.go (by kernel_rfl) [0, 1, 2, 3, 4, 5, 6, 7, 8, 9, 10, 11, 12, 13] (fuel' := 2) rfl [(0 : Int) ≤ v20, v20 < (v1.length : Int), (0 : Int) ≤ v20, v20 < (v1.length : Int)] #[y1, y1, y1, y1, y1, y1, y1, y1, y1, y1, y1, y1, y1, y1, n1, n1] [0, 1, 2, 9, 11, 12, 84, 85, 86, 97] 1 ⟨[(0, q0 v1), (1, .tv (fzL 1 (cSl 2 c34) v2)), (2, .tv (fzL 1 (cSl 1 cStr) v3)), (9, .pc 0 0), (11, tI v10), (12, tI v15), (84, .pc 0 0), (85, tI v20), (86, tI v21), (97, tI (w64 (((gD v1 v20).f1) * ((gD v1 v20).f2))))], [.cells 85 [k0 v16, k0 v17]]⟩ ?_ z0 ⟨hg.1, hg.2.1, hg.2.2.1, hg.2.2.2⟩ ?_
       ·kernel_rfl
       obtain ⟨v22, hv22, h⟩ := of_bind h
       refine AAny.serial (i := 14) (fuel := 1) (by kernel_rfl) (AOne.callO (F := (FF 230 0)) _ rfl rfl rfl 98 rfl rfl 50 [] rfl Try.call50 [0] (by decide) [.pc 0 0, tI v20, tI v21, tI (w64 (((gD v1 v20).f1) * ((gD v1 v20).f2)))] (by kernel_rfl) [.cells 85 [k0 v16, k0 v17]] (by kernel_rfl) (f50o_ok v20 v21 (w64 (((gD v1 v20).f1) * ((gD v1 v20).f2))) (T84.mk v16 v17) hv22) (by kernel_rfl) (by kernel_rfl) _ rfl) ?_
       refine AAny.keepTo [0, 1, 2, 9, 11, 12, 98] 1 ⟨[(0, q0 v1), (1, .tv (fzL 1 (cSl 2 c34) v2)), (2, .tv (fzL 1 (cSl 1 cStr) v3)), (9, .pc 0 0), (11, tI v10), (12, tI v15), (98, tB v22.1)], [.cells 85 [k0 v22.2.f0, k0 v22.2.f1]]⟩ #[y1, y1, y1, y1, y1, y1, y1, y1, y1, y1, y1, y1, y1, y1, y1, n1] ?_ rfl z0 ?_
       ·kernel_rfl
       refine AAny.go (by kernel_rfl) [15] (fuel' := 0) rfl [] #[y1, y1, y1, y1, y1, y1, y1, y1, y1, y1, y1, y1, y1, y1, y1, y1] [0, 1, 2, 9, 11, 12, 99] 1 ⟨[(0, q0 v1), (1, .tv (fzL 1 (cSl 2 c34) v2)), (2, .tv (fzL 1 (cSl 1 cStr) v3)), (9, .pc 0 0), (11, tI v10), (12, tI v15), (99, tB (!v22.1))], [.cells 85 [k0 v22.2.f0, k0 v22.2.f1]]⟩ ?_ z0 trivial ?_
       ·kernel_rfl
       refine AAny.keepTo [0, 1, 2, 9, 11, 12, 99] 1 ⟨[(0, q0 v1), (1, .tv (fzL 1 (cSl 2 c34) v2)), (2, .tv (fzL 1 (cSl 1 cStr) v3)), (9, .pc 0 0), (11, tI v10), (12, tI v15), (99, tB (!v22.1))], [.cells 85 [k0 v22.2.f0, k0 v22.2.f1]]⟩ _ ?_ rfl z0 (AAny.done (by kernel_rfl) ?_)
       ·kernel_rfl
       refine AWp.cond rfl (fun hb => ?_) fun hb => ?_
       ·replace h := of_true h hb
        refine AWp.keepTo [2, 11, 12] 0 ⟨[(2, .tv (fzL 1 (cSl 1 cStr) v3)), (11, tI v10), (12, tI v15)], []⟩ ?_ z0 ?_
        ·kernel_rfl
        refine AWp.seq ?_
        refine AWp.draw FFm _ (n := 10) rfl (ls := #[n1, n1, n1, n1, n1, n1, n1, n1, n1, n1]) rfl ?_ (fun _ h => h)
        obtain ⟨hg, h⟩ := of_guard h
        refine AAny.go (by kernel_rfl) [0, 1, 2, 3, 4, 5, 6, 7, 8, 9] (fuel' := 0) rfl [(0 : Int) ≤ v10, v10 < (v3.length : Int), (0 : Int) ≤ v15, v15 < ((gD v3 v10).length : Int)] #[y1, y1, y1, y1, y1, y1, y1, y1, y1, y1] [6, 7, 8] 0 ⟨[(6, .tv (.sc (.pointer none))), (7, tS (gD (gD v3 v10) v15)), (8, tB false)], []⟩ ?_ z0 ⟨hg.1, hg.2.1, hg.2.2.1, hg.2.2.2⟩ ?_
        ·kernel_rfl
        refine AAny.keepTo [6, 7, 8] 0 ⟨[(6, .tv (.sc (.pointer none))), (7, tS (gD (gD v3 v10) v15)), (8, tB false)], []⟩ _ ?_ rfl z0 (AAny.done (by kernel_rfl) ?_)
        ·kernel_rfl
        refine AWp.ret ?_
        cases h
        exact Or.inr ⟨_, rfl, by simp, rfl, rfl⟩
       ·replace h := of_false h hb
        refine AWp.keepTo [0, 1, 2, 9, 11, 12] 1 ⟨[(0, q0 v1), (1, .tv (fzL 1 (cSl 2 c34) v2)), (2, .tv (fzL 1 (cSl 1 cStr) v3)), (9, .pc 0 0), (11, tI v10), (12, tI v15)], [.cells 85 [k0 v22.2.f0, k0 v22.2.f1]]⟩ ?_ z0 ?_
        ·kernel_rfl
        refine AWp.skip ?_
        refine AWp.start [0, 1, 2] [] [] [0, 1, 2, 9, 11, 12] 1 ⟨[(0, q0 v1), (1, .tv (fzL 1 (cSl 2 c34) v2)), (2, .tv (fzL 1 (cSl 1 cStr) v3)), (9, .pc 0 0), (11, tI v10), (12, tI (w64 (v15 + (1 : Int))))], [.cells 85 [k0 v22.2.f0, k0 v22.2.f1]]⟩ rfl ?_ z0 trivial ?_
        ·kernel_rfl
        refine AOps.nil ?_
        cases h
        exact Or.inl ⟨_, rfl, rfl, rfl⟩
      ·replace h := of_false h hb
       refine AWp.keepTo [0, 1, 2, 9, 11] 1 ⟨[(0, q0 v1), (1, .tv (fzL 1 (cSl 2 c34) v2)), (2, .tv (fzL 1 (cSl 1 cStr) v3)), (9, .pc 0 0), (11, tI v10)], [.cells 85 [k0 v16, k0 v17]]⟩ ?_ z0 ?_
       ·kernel_rfl
       refine AWp.exit ?_
       cases h
       exact Or.inr ⟨_, rfl, by simp, rfl, rfl⟩
     ·intro e σ hp
      rcases y with v23 | ⟨v18, v19⟩
      ·obtain ⟨rfl, rfl⟩ := hp
       cases h
       exact Or.inr ⟨_, rfl, by simp, rfl, rfl⟩
      ·obtain ⟨rfl, rfl⟩ := hp
       refine AWp.start [0, 1, 2] [] [] [0, 1, 2, 9, 11] 1 ⟨[(0, q0 v1), (1, .tv (fzL 1 (cSl 2 c34) v2)), (2, .tv (fzL 1 (cSl 1 cStr) v3)), (9, .pc 0 0), (11, tI (w64 (v10 + (1 : Int))))], [.cells 85 [k0 v18, k0 v19]]⟩ rfl ?_ z0 trivial ?_
       ·kernel_rfl
       refine AOps.nil ?_
       cases h
       exact Or.inl ⟨_, rfl, rfl, rfl⟩
    ·replace h := of_false h hb
     refine AWp.keepTo [0, 1, 2, 9] 1 ⟨[(0, q0 v1), (1, .tv (fzL 1 (cSl 2 c34) v2)), (2, .tv (fzL 1 (cSl 1 cStr) v3)), (9, .pc 0 0)], [.cells 85 [k0 v11, k0 v12]]⟩ ?_ z0 ?_
     ·kernel_rfl
     refine AWp.exit ?_
     cases h
     exact Or.inr ⟨_, rfl, by simp, rfl, rfl⟩
   ·intro e σ hp
    rcases y with v24 | ⟨v13, v14⟩
    ·obtain ⟨rfl, rfl⟩ := hp
     cases h
     exact ⟨.inr rfl, rfl⟩
    ·obtain ⟨rfl, rfl⟩ := hp
     refine AWp.seq ?_
     refine AWp.seq ?_
     refine AWp.start [0] [] [] [0, 1, 2, 9, 15] 1 ⟨[(0, q0 v1), (1, .tv (fzL 1 (cSl 2 c34) v2)), (2, .tv (fzL 1 (cSl 1 cStr) v3)), (9, .pc 0 0), (15, tI (0 : Int))], [.cells 85 [k0 v13, k0 v14]]⟩ rfl ?_ z0 trivial ?_
     ·kernel_rfl
     refine AOps.nil ?_
     refine AWp.block ?_
     obtain ⟨y, hy, h⟩ := of_bind h
     refine AWp.mono (AWp.loop (S := Int × (List Int) × (List Int)) (Y := Out ((Option T84) × (List UInt8) × Bool) ((List Int) × (List Int))) (fun s => ⟨[(0, q0 v1), (1, .tv (fzL 1 (cSl 2 c34) v2)), (2, .tv (fzL 1 (cSl 1 cStr) v3)), (9, .pc 0 0), (15, tI s.1)], [.cells 85 [k0 s.2.1, k0 s.2.2]]⟩) (fun s => f39_b5 v1 v2 s.1 s.2.1 s.2.2) (fun y e σ => match y with | .ret r => e = .ret ∧ σ = ⟨[(6, (match r.1 with | none => .tv (.sc (.pointer none)) | some _ => .pc 0 0)), (7, tS r.2.1), (8, tB r.2.2)], ([] ++ (match r.1 with | none => [] | some u => [.cells 85 [k0 u.f0, k0 u.f1]]))⟩ | .go v => e = .exit 6 ∧ σ = ⟨[(0, q0 v1), (2, .tv (fzL 1 (cSl 1 cStr) v3)), (9, .pc 0 0)], [.cells 85 [k0 v.1, k0 v.2]]⟩) ?_ hy) ?_
     ·rintro ⟨v25, v26, v27⟩ o h
      refine AWp.seq ?_
      refine AWp.seq ?_
      refine AWp.start [0, 1, 2, 3] [] [] [0, 1, 2, 9, 15, 110] 1 ⟨[(0, q0 v1), (1, .tv (fzL 1 (cSl 2 c34) v2)), (2, .tv (fzL 1 (cSl 1 cStr) v3)), (9, .pc 0 0), (15, tI v25), (110, tB (decide (v25 < (v2.length : Int))))], [.cells 85 [k0 v26, k0 v27]]⟩ rfl ?_ z0 trivial ?_
      ·kernel_rfl
      refine AOps.nil ?_
      refine AWp.cond rfl (fun hb => ?_) fun hb => ?_
      ·replace h := of_true h hb
       refine AWp.keepTo [0, 1, 2, 9, 15] 1 ⟨[(0, q0 v1), (1, .tv (fzL 1 (cSl 2 c34) v2)), (2, .tv (fzL 1 (cSl 1 cStr) v3)), (9, .pc 0 0), (15, tI v25)], [.cells 85 [k0 v26, k0 v27]]⟩ ?_ z0 ?_
       ·kernel_rfl
       refine AWp.skip ?_
       refine AWp.seq ?_
       refine AWp.block ?_
       refine AWp.seq ?_
       refine AWp.start [0] [] [] [0, 1, 2, 9, 15, 16] 1 ⟨[(0, q0 v1), (1, .tv (fzL 1 (cSl 2 c34) v2)), (2, .tv (fzL 1 (cSl 1 cStr) v3)), (9, .pc 0 0), (15, tI v25), (16, tI (1 : Int))], [.cells 85 [k0 v26, k0 v27]]⟩ rfl ?_ z0 trivial ?_
       ·kernel_rfl
       refine AOps.nil ?_
       refine AWp.block ?_
       obtain ⟨y, hy, h⟩ := of_bind h
       refine AWp.mono (AWp.loop (S := Int × (List Int) × (List Int)) (Y := Out ((Option T84) × (List UInt8) × Bool) ((List Int) × (List Int))) (fun s => ⟨[(0, q0 v1), (1, .tv (fzL 1 (cSl 2 c34) v2)), (2, .tv (fzL 1 (cSl 1 cStr) v3)), (9, .pc 0 0), (15, tI v25), (16, tI s.1)], [.cells 85 [k0 s.2.1, k0 s.2.2]]⟩) (fun s => f39_b4 v1 v2 v25 s.1 s.2.1 s.2.2) (fun y e σ => match y with | .ret r => e = .ret ∧ σ = ⟨[(6, (match r.1 with | none => .tv (.sc (.pointer none)) | some _ => .pc 0 0)), (7, tS r.2.1), (8, tB r.2.2)], ([] ++ (match r.1 with | none => [] | some u => [.cells 85 [k0 u.f0, k0 u.f1]]))⟩ | .go v => e = .exit 8 ∧ σ = ⟨[(0, q0 v1), (1, .tv (fzL 1 (cSl 2 c34) v2)), (2, .tv (fzL 1 (cSl 1 cStr) v3)), (9, .pc 0 0), (15, tI v25)], [.cells 85 [k0 v.1, k0 v.2]]⟩) ?_ hy) ?_
       ·rintro ⟨v30, v31, v32⟩ o h
        refine AWp.seq ?_
        refine AWp.seq ?_
        obtain ⟨hg, h⟩ := of_guard h
        refine AWp.start [0, 1, 2, 3, 4, 5, 6] [] [(0 : Int) ≤ v25, v25 < (v2.length : Int)] [0, 1, 2, 9, 15, 16, 119] 1 ⟨[(0, q0 v1), (1, .tv (fzL 1 (cSl 2 c34) v2)), (2, .tv (fzL 1 (cSl 1 cStr) v3)), (9, .pc 0 0), (15, tI v25), (16, tI v30), (119, tB (decide (v30 < ((gD v2 v25).length : Int))))], [.cells 85 [k0 v31, k0 v32]]⟩ rfl ?_ z0 ⟨hg.1, hg.2⟩ ?_
        ·kernel_rfl
        refine AOps.nil ?_
        refine AWp.cond rfl (fun hb => ?_) fun hb => ?_
        ·replace h := of_true h hb
         refine AWp.keepTo [0, 1, 2, 9, 15, 16] 1 ⟨[(0, q0 v1), (1, .tv (fzL 1 (cSl 2 c34) v2)), (2, .tv (fzL 1 (cSl 1 cStr) v3)), (9, .pc 0 0), (15, tI v25), (16, tI v30)], [.cells 85 [k0 v31, k0 v32]]⟩ ?_ z0 ?_
         ·kernel_rfl
         refine AWp.skip ?_
         refine AWp.seq ?_
         refine AWp.block ?_
         refine AWp.seq ?_
         refine AWp.draw FFm _ (n := 17) rfl (ls := #[n1, n1, n1, n1, n1, n1, n1, n1, n1, n1, n1, n1, n1, n1, n1, n1, n1]) rfl ?_ (fun _ h => h)
         obtain ⟨hg, h⟩ := of_guard h
         refine AAny.go (by kernel_rfl) [0, 1, 2, 3, 4, 5, 6, 7, 8, 9, 10, 11, 12] (fuel' := 4) rfl [(0 : Int) ≤ v25, v25 < (v2.length : Int), (0 : Int) ≤ (0 : Int), (0 : Int) < ((gD v2 v25).length : Int), (0 : Int) ≤ v25, v25 < (v2.length : Int), (0 : Int) ≤ v30, v30 < ((gD v2 v25).length : Int)] #[y1, y1, y1, y1, y1, y1, y1, y1, y1, y1, y1, y1, y1, n1, n1, n1, n1] [0, 1, 2, 9, 15, 16, 127, 134] 1 ⟨[(0, q0 v1), (1, .tv (fzL 1 (cSl 2 c34) v2)), (2, .tv (fzL 1 (cSl 1 cStr) v3)), (9, .pc 0 0), (15, tI v25), (16, tI v30), (127, .agg (c34 ((gD v2 v25).getD 0 default))), (134, .agg (c34 (gD (gD v2 v25) v30)))], [.cells 85 [k0 v31, k0 v32]]⟩ ?_ z0 ⟨hg.1, hg.2.1, (by decide : (0 : Int) ≤ (0 : Int)), hg.2.2.1, hg.2.2.2.1, hg.2.2.2.2.1, hg.2.2.2.2.2.1, hg.2.2.2.2.2.2⟩ ?_
         ·kernel_rfl
         refine AAny.share 2 #[y1, y1, y1, y1, y1, y1, y1, y1, y1, y1, y1, y1, y1, y1, y1, n1, n1] ⟨[(0, q0 v1), (1, .tv (fzL 1 (cSl 2 c34) v2)), (2, .tv (fzL 1 (cSl 1 cStr) v3)), (9, .pc 0 0), (15, tI v25), (16, tI v30), (17, .pc 1 0), (18, .pc 2 0), (127, .agg (c34 ((gD v2 v25).getD 0 default))), (134, .agg (c34 (gD (gD v2 v25) v30)))], [.cells 85 [k0 v31, k0 v32], .cells 35 [.str ([] : List UInt8), .int .i64 (0 : Int)], .cells 35 [.str ([] : List UInt8), .int .i64 (0 : Int)]]⟩ ?_ fun n3_ => ?_
         ·refine AAny.step (i := 15) (fuel' := 1) rfl (by kernel_rfl) [] #[y1, y1, y1, y1, y1, y1, y1, y1, y1, y1, y1, y1, y1, y1, y1, y1, n1] rfl [0, 1, 2, 9, 15, 16, 17, 18, 134] 3 ⟨[(0, q0 v1), (1, .tv (fzL 1 (cSl 2 c34) v2)), (2, .tv (fzL 1 (cSl 1 cStr) v3)), (9, .pc 0 0), (15, tI v25), (16, tI v30), (17, .pc 1 0), (18, .pc 2 0), (134, .agg (c34 (gD (gD v2 v25) v30)))], [.cells 85 [k0 v31, k0 v32], .cells 35 (c34 ((gD v2 v25).getD 0 default)), .cells 35 [.str ([] : List UInt8), .int .i64 (0 : Int)]]⟩ ?_ z0 trivial ?_
          ·kernel_rfl
          refine AAny.step (i := 16) (fuel' := 0) rfl (by kernel_rfl) [] #[y1, y1, y1, y1, y1, y1, y1, y1, y1, y1, y1, y1, y1, y1, y1, y1, y1] rfl [0, 1, 2, 9, 15, 16, 17, 18] 3 ⟨[(0, q0 v1), (1, .tv (fzL 1 (cSl 2 c34) v2)), (2, .tv (fzL 1 (cSl 1 cStr) v3)), (9, .pc 0 0), (15, tI v25), (16, tI v30), (17, .pc 1 0), (18, .pc 2 0)], [.cells 85 [k0 v31, k0 v32], .cells 35 (c34 ((gD v2 v25).getD 0 default)), .cells 35 (c34 (gD (gD v2 v25) v30))]⟩ ?_ z0 trivial ?_
          ·kernel_rfl
          refine AAny.keepTo [0, 1, 2, 9, 15, 16, 17, 18] 3 ⟨[(0, q0 v1), (1, .tv (fzL 1 (cSl 2 c34) v2)), (2, .tv (fzL 1 (cSl 1 cStr) v3)), (9, .pc 0 0), (15, tI v25), (16, tI v30), (17, .pc 1 0), (18, .pc 2 0)], [.cells 85 [k0 v31, k0 v32], .cells 35 (c34 ((gD v2 v25).getD 0 default)), .cells 35 (c34 (gD (gD v2 v25) v30))]⟩ _ ?_ rfl z0 (AAny.done (by kernel_rfl) ?_)
          ·kernel_rfl
          refine AWp.seq ?_
          refine AWp.pin 1 rfl rfl ?_
          refine AWp.pin 2 rfl rfl ?_
          refine AWp.keepTo [0, 1, 2, 9, 15, 16, 17, 18] 1 ⟨[(0, q0 v1), (1, .tv (fzL 1 (cSl 2 c34) v2)), (2, .tv (fzL 1 (cSl 1 cStr) v3)), (9, .pc 0 0), (15, tI v25), (16, tI v30), (17, .rp (c34 ((gD v2 v25).getD 0 default))), (18, .rp (c34 (gD (gD v2 v25) v30)))], [.cells 85 [k0 v31, k0 v32]]⟩ ?_ z0 ?_
          ·kernel_rfl
          refine AWp.draw FFm _ (n := 10) rfl (ls := #[n1, n1, n1, n1, n1, n1, n1, n1, n1, n1]) rfl ?_ (fun _ h => h)
          refine AAny.go (by kernel_rfl) [0, 1, 2, 4, 5, 6] (fuel' := 4) rfl [] #[y1, y1, y1, n1, y1, y1, y1, n1, n1, n1] [0, 1, 2, 9, 15, 16, 17, 18, 135, 137, 139, 141] 1 ⟨[(0, q0 v1), (1, .tv (fzL 1 (cSl 2 c34) v2)), (2, .tv (fzL 1 (cSl 1 cStr) v3)), (9, .pc 0 0), (15, tI v25), (16, tI v30), (17, .rp (c34 ((gD v2 v25).getD 0 default))), (18, .rp (c34 (gD (gD v2 v25) v30))), (135, q0 v1), (137, tS (((gD v2 v25).getD 0 default).f0)), (139, q0 v1), (141, tS ((gD (gD v2 v25) v30).f0))], [.cells 85 [k0 v31, k0 v32]]⟩ ?_ z0 trivial ?_
          ·kernel_rfl
          obtain ⟨v35, hv35, h⟩ := of_bind h
          refine AAny.serial (i := 3) (fuel := 3) (by kernel_rfl) (AOne.callP (F := (FF 230 0)) _ rfl rfl rfl _ rfl rfl _ _ rfl Try.call33 [q0 v1, tS (((gD v2 v25).getD 0 default).f0)] rfl rfl (f33_ok v1 (((gD v2 v25).getD 0 default).f0) hv35) rfl) ?_
          refine AAny.keepTo [0, 1, 2, 9, 15, 16, 17, 18, 138, 139, 141] 1 ⟨[(0, q0 v1), (1, .tv (fzL 1 (cSl 2 c34) v2)), (2, .tv (fzL 1 (cSl 1 cStr) v3)), (9, .pc 0 0), (15, tI v25), (16, tI v30), (17, .rp (c34 ((gD v2 v25).getD 0 default))), (18, .rp (c34 (gD (gD v2 v25) v30))), (138, tI v35), (139, q0 v1), (141, tS ((gD (gD v2 v25) v30).f0))], [.cells 85 [k0 v31, k0 v32]]⟩ #[y1, y1, y1, y1, y1, y1, y1, n1, n1, n1] ?_ rfl z0 ?_
          ·kernel_rfl
          obtain ⟨v36, hv36, h⟩ := of_bind h
          refine AAny.serial (i := 7) (fuel := 2) (by kernel_rfl) (AOne.callP (F := (FF 230 0)) _ rfl rfl rfl _ rfl rfl _ _ rfl Try.call33 [q0 v1, tS ((gD (gD v2 v25) v30).f0)] rfl rfl (f33_ok v1 ((gD (gD v2 v25) v30).f0) hv36) rfl) ?_
          refine AAny.keepTo [0, 1, 2, 9, 15, 16, 17, 18, 138, 142] 1 ⟨[(0, q0 v1), (1, .tv (fzL 1 (cSl 2 c34) v2)), (2, .tv (fzL 1 (cSl 1 cStr) v3)), (9, .pc 0 0), (15, tI v25), (16, tI v30), (17, .rp (c34 ((gD v2 v25).getD 0 default))), (18, .rp (c34 (gD (gD v2 v25) v30))), (138, tI v35), (142, tI v36)], [.cells 85 [k0 v31, k0 v32]]⟩ #[y1, y1, y1, y1, y1, y1, y1, y1, n1, n1] ?_ rfl z0 ?_
          ·kernel_rfl
          refine AAny.go (by kernel_rfl) [8, 9] (fuel' := 0) rfl [] #[y1, y1, y1, y1, y1, y1, y1, y1, y1, y1] [0, 1, 2, 9, 15, 16, 17, 18, 19, 20] 1 ⟨[(0, q0 v1), (1, .tv (fzL 1 (cSl 2 c34) v2)), (2, .tv (fzL 1 (cSl 1 cStr) v3)), (9, .pc 0 0), (15, tI v25), (16, tI v30), (17, .rp (c34 ((gD v2 v25).getD 0 default))), (18, .rp (c34 (gD (gD v2 v25) v30))), (19, tI v35), (20, tI v36)], [.cells 85 [k0 v31, k0 v32]]⟩ ?_ z0 trivial ?_
          ·kernel_rfl
          refine AAny.keepTo [0, 1, 2, 9, 15, 16, 17, 18, 19, 20] 1 ⟨[(0, q0 v1), (1, .tv (fzL 1 (cSl 2 c34) v2)), (2, .tv (fzL 1 (cSl 1 cStr) v3)), (9, .pc 0 0), (15, tI v25), (16, tI v30), (17, .rp (c34 ((gD v2 v25).getD 0 default))), (18, .rp (c34 (gD (gD v2 v25) v30))), (19, tI v35), (20, tI v36)], [.cells 85 [k0 v31, k0 v32]]⟩ _ ?_ rfl z0 (AAny.done (by kernel_rfl) ?_)
          ·kernel_rfl
          refine AWp.seq ?_
          refine AWp.draw FFm _ (n := 22) rfl (ls := #[n1, n1, n1, n1, n1, n1, n1, n1, n1, n1, n1, n1, n1, n1, n1, n1, n1, n1, n1, n1, n1, n1]) rfl ?_ (fun _ h => h)
          obtain ⟨hg, h⟩ := of_guard h
          refine AAny.go (by kernel_rfl) [0, 1, 2, 3, 4, 5, 6, 7, 8, 9, 10, 11, 12, 13, 14, 15, 16, 17, 18, 19] (fuel' := 2) rfl [(0 : Int) ≤ v35, v35 < (v1.length : Int), (0 : Int) ≤ v36, v36 < (v1.length : Int)] #[y1, y1, y1, y1, y1, y1, y1, y1, y1, y1, y1, y1, y1, y1, y1, y1, y1, y1, y1, y1, n1, n1] [0, 1, 2, 9, 15, 16, 18, 143, 144, 145, 162] 1 ⟨[(0, q0 v1), (1, .tv (fzL 1 (cSl 2 c34) v2)), (2, .tv (fzL 1 (cSl 1 cStr) v3)), (9, .pc 0 0), (15, tI v25), (16, tI v30), (18, .rp (c34 (gD (gD v2 v25) v30))), (143, .pc 0 0), (144, tI v35), (145, tI v36), (162, tI (w64 ((w64 ((((gD v2 v25).getD 0 default).f1) * ((gD v1 v35).f1))) - (w64 (((gD (gD v2 v25) v30).f1) * ((gD v1 v36).f1))))))], [.cells 85 [k0 v31, k0 v32]]⟩ ?_ z0 ⟨hg.1, hg.2.1, hg.2.2.1, hg.2.2.2⟩ ?_
          ·kernel_rfl
          obtain ⟨v37, hv37, h⟩ := of_bind h
          refine AAny.serial (i := 20) (fuel := 1) (by kernel_rfl) (AOne.callO (F := (FF 230 0)) _ rfl rfl rfl 163 rfl rfl 50 [] rfl Try.call50 [0] (by decide) [.pc 0 0, tI v35, tI v36, tI (w64 ((w64 ((((gD v2 v25).getD 0 default).f1) * ((gD v1 v35).f1))) - (w64 (((gD (gD v2 v25) v30).f1) * ((gD v1 v36).f1)))))] (by kernel_rfl) [.cells 85 [k0 v31, k0 v32]] (by kernel_rfl) (f50o_ok v35 v36 (w64 ((w64 ((((gD v2 v25).getD 0 default).f1) * ((gD v1 v35).f1))) - (w64 (((gD (gD v2 v25) v30).f1) * ((gD v1 v36).f1))))) (T84.mk v31 v32) hv37) (by kernel_rfl) (by kernel_rfl) _ rfl) ?_
          refine AAny.keepTo [0, 1, 2, 9, 15, 16, 18, 163] 1 ⟨[(0, q0 v1), (1, .tv (fzL 1 (cSl 2 c34) v2)), (2, .tv (fzL 1 (cSl 1 cStr) v3)), (9, .pc 0 0), (15, tI v25), (16, tI v30), (18, .rp (c34 (gD (gD v2 v25) v30))), (163, tB v37.1)], [.cells 85 [k0 v37.2.f0, k0 v37.2.f1]]⟩ #[y1, y1, y1, y1, y1, y1, y1, y1, y1, y1, y1, y1, y1, y1, y1, y1, y1, y1, y1, y1, y1, n1] ?_ rfl z0 ?_
          ·kernel_rfl
          refine AAny.go (by kernel_rfl) [21] (fuel' := 0) rfl [] #[y1, y1, y1, y1, y1, y1, y1, y1, y1, y1, y1, y1, y1, y1, y1, y1, y1, y1, y1, y1, y1, y1] [0, 1, 2, 9, 15, 16, 18, 164] 1 ⟨[(0, q0 v1), (1, .tv (fzL 1 (cSl 2 c34) v2)), (2, .tv (fzL 1 (cSl 1 cStr) v3)), (9, .pc 0 0), (15, tI v25), (16, tI v30), (18, .rp (c34 (gD (gD v2 v25) v30))), (164, tB (!v37.1))], [.cells 85 [k0 v37.2.f0, k0 v37.2.f1]]⟩ ?_ z0 trivial ?_
          ·kernel_rfl
          refine AAny.keepTo [0, 1, 2, 9, 15, 16, 18, 164] 1 ⟨[(0, q0 v1), (1, .tv (fzL 1 (cSl 2 c34) v2)), (2, .tv (fzL 1 (cSl 1 cStr) v3)), (9, .pc 0 0), (15, tI v25), (16, tI v30), (18, .rp (c34 (gD (gD v2 v25) v30))), (164, tB (!v37.1))], [.cells 85 [k0 v37.2.f0, k0 v37.2.f1]]⟩ _ ?_ rfl z0 (AAny.done (by kernel_rfl) ?_)
          ·kernel_rfl
          refine AWp.cond rfl (fun hb => ?_) fun hb => ?_
          ·replace h := of_true h hb
           refine AWp.keepTo [18] 0 ⟨[(18, .rp (c34 (gD (gD v2 v25) v30)))], []⟩ ?_ z0 ?_
           ·kernel_rfl
           refine AWp.seq ?_
           refine AWp.draw FFm _ (n := 5) rfl (ls := #[n1, n1, n1, n1, n1]) rfl ?_ (fun _ h => h)
           refine AAny.go (by kernel_rfl) [0, 1, 2, 3, 4] (fuel' := 0) rfl [] #[y1, y1, y1, y1, y1] [6, 7, 8] 0 ⟨[(6, .tv (.sc (.pointer none))), (7, tS ((gD (gD v2 v25) v30).f0)), (8, tB false)], []⟩ ?_ z0 trivial ?_
           ·kernel_rfl
           refine AAny.keepTo [6, 7, 8] 0 ⟨[(6, .tv (.sc (.pointer none))), (7, tS ((gD (gD v2 v25) v30).f0)), (8, tB false)], []⟩ _ ?_ rfl z0 (AAny.done (by kernel_rfl) ?_)
           ·kernel_rfl
           refine AWp.ret ?_
           cases h
           exact Or.inr ⟨_, rfl, by simp, rfl, rfl⟩
          ·replace h := of_false h hb
           refine AWp.keepTo [0, 1, 2, 9, 15, 16] 1 ⟨[(0, q0 v1), (1, .tv (fzL 1 (cSl 2 c34) v2)), (2, .tv (fzL 1 (cSl 1 cStr) v3)), (9, .pc 0 0), (15, tI v25), (16, tI v30)], [.cells 85 [k0 v37.2.f0, k0 v37.2.f1]]⟩ ?_ z0 ?_
           ·kernel_rfl
           refine AWp.skip ?_
           refine AWp.start [0, 1, 2] [] [] [0, 1, 2, 9, 15, 16] 1 ⟨[(0, q0 v1), (1, .tv (fzL 1 (cSl 2 c34) v2)), (2, .tv (fzL 1 (cSl 1 cStr) v3)), (9, .pc 0 0), (15, tI v25), (16, tI (w64 (v30 + (1 : Int))))], [.cells 85 [k0 v37.2.f0, k0 v37.2.f1]]⟩ rfl ?_ z0 trivial ?_
           ·kernel_rfl
           refine AOps.nil ?_
           cases h
           exact Or.inl ⟨_, rfl, rfl, rfl⟩
         refine AAny.share 3 #[y1, y1, y1, y1, y1, y1, y1, y1, y1, y1, y1, y1, y1, n1, y1, n1, n1] ⟨[(0, q0 v1), (1, .tv (fzL 1 (cSl 2 c34) v2)), (2, .tv (fzL 1 (cSl 1 cStr) v3)), (9, .pc 0 0), (15, tI v25), (16, tI v30), (18, .pc 2 0), (127, .agg (c34 ((gD v2 v25).getD 0 default))), (134, .agg (c34 (gD (gD v2 v25) v30)))], [.cells 85 [k0 v31, k0 v32], .dead, .cells 35 [.str ([] : List UInt8), .int .i64 (0 : Int)]]⟩ ?_ fun n2_ => ?_
         ·refine AAny.each [13] (by kernel_rfl) rfl ?_
          refine AEach.one (i := 13) (AOne.allocAt (F := (FF 230 0)) _ rfl rfl rfl 17 rfl rfl rfl 1 rfl z0 rfl) ?_ ?_
          ·refine AAny.keepTo [0, 1, 2, 9, 15, 16, 17, 18, 127, 134] 3 ⟨[(0, q0 v1), (1, .tv (fzL 1 (cSl 2 c34) v2)), (2, .tv (fzL 1 (cSl 1 cStr) v3)), (9, .pc 0 0), (15, tI v25), (16, tI v30), (17, .pc 1 0), (18, .pc 2 0), (127, .agg (c34 ((gD v2 v25).getD 0 default))), (134, .agg (c34 (gD (gD v2 v25) v30)))], [.cells 85 [k0 v31, k0 v32], .cells 35 [.str ([] : List UInt8), .int .i64 (0 : Int)], .cells 35 [.str ([] : List UInt8), .int .i64 (0 : Int)]]⟩ #[y1, y1, y1, y1, y1, y1, y1, y1, y1, y1, y1, y1, y1, y1, y1, n1, n1] ?_ rfl z0 ?_
           ·kernel_rfl
           exact n3_
          exact AEach.nil
         refine AAny.share 3 #[y1, y1, y1, y1, y1, y1, y1, y1, y1, y1, y1, y1, y1, y1, n1, n1, n1] ⟨[(0, q0 v1), (1, .tv (fzL 1 (cSl 2 c34) v2)), (2, .tv (fzL 1 (cSl 1 cStr) v3)), (9, .pc 0 0), (15, tI v25), (16, tI v30), (17, .pc 1 0), (127, .agg (c34 ((gD v2 v25).getD 0 default))), (134, .agg (c34 (gD (gD v2 v25) v30)))], [.cells 85 [k0 v31, k0 v32], .cells 35 [.str ([] : List UInt8), .int .i64 (0 : Int)]]⟩ ?_ fun n1_ => ?_
         ·refine AAny.each [14] (by kernel_rfl) rfl ?_
          refine AEach.one (i := 14) (AOne.allocPad (F := (FF 230 0)) _ rfl rfl rfl 18 rfl rfl rfl 0) ?_ ?_
          ·refine AAny.keepTo [0, 1, 2, 9, 15, 16, 17, 18, 127, 134] 3 ⟨[(0, q0 v1), (1, .tv (fzL 1 (cSl 2 c34) v2)), (2, .tv (fzL 1 (cSl 1 cStr) v3)), (9, .pc 0 0), (15, tI v25), (16, tI v30), (17, .pc 1 0), (18, .pc 2 0), (127, .agg (c34 ((gD v2 v25).getD 0 default))), (134, .agg (c34 (gD (gD v2 v25) v30)))], [.cells 85 [k0 v31, k0 v32], .cells 35 [.str ([] : List UInt8), .int .i64 (0 : Int)], .cells 35 [.str ([] : List UInt8), .int .i64 (0 : Int)]]⟩ #[y1, y1, y1, y1, y1, y1, y1, y1, y1, y1, y1, y1, y1, y1, y1, n1, n1] ?_ rfl z0 ?_
           ·kernel_rfl
           exact n3_
          exact AEach.nil
         refine AAny.each [13, 14] (by kernel_rfl) rfl ?_
         refine AEach.one (i := 13) (AOne.allocPad (F := (FF 230 0)) _ rfl rfl rfl 17 rfl rfl rfl 0) ?_ ?_
         ·refine AAny.keepTo [0, 1, 2, 9, 15, 16, 17, 127, 134] 2 ⟨[(0, q0 v1), (1, .tv (fzL 1 (cSl 2 c34) v2)), (2, .tv (fzL 1 (cSl 1 cStr) v3)), (9, .pc 0 0), (15, tI v25), (16, tI v30), (17, .pc 1 0), (127, .agg (c34 ((gD v2 v25).getD 0 default))), (134, .agg (c34 (gD (gD v2 v25) v30)))], [.cells 85 [k0 v31, k0 v32], .cells 35 [.str ([] : List UInt8), .int .i64 (0 : Int)]]⟩ #[y1, y1, y1, y1, y1, y1, y1, y1, y1, y1, y1, y1, y1, y1, n1, n1, n1] ?_ rfl z0 ?_
          ·kernel_rfl
          exact n1_
         refine AEach.one (i := 14) (AOne.allocPad (F := (FF 230 0)) _ rfl rfl rfl 18 rfl rfl rfl 1) ?_ ?_
         ·refine AAny.keepTo [0, 1, 2, 9, 15, 16, 18, 127, 134] 3 ⟨[(0, q0 v1), (1, .tv (fzL 1 (cSl 2 c34) v2)), (2, .tv (fzL 1 (cSl 1 cStr) v3)), (9, .pc 0 0), (15, tI v25), (16, tI v30), (18, .pc 2 0), (127, .agg (c34 ((gD v2 v25).getD 0 default))), (134, .agg (c34 (gD (gD v2 v25) v30)))], [.cells 85 [k0 v31, k0 v32], .dead, .cells 35 [.str ([] : List UInt8), .int .i64 (0 : Int)]]⟩ #[y1, y1, y1, y1, y1, y1, y1, y1, y1, y1, y1, y1, y1, n1, y1, n1, n1] ?_ rfl z0 ?_
          ·kernel_rfl
          exact n2_
         exact AEach.nil
        ·replace h := of_false h hb
         refine AWp.keepTo [0, 1, 2, 9, 15] 1 ⟨[(0, q0 v1), (1, .tv (fzL 1 (cSl 2 c34) v2)), (2, .tv (fzL 1 (cSl 1 cStr) v3)), (9, .pc 0 0), (15, tI v25)], [.cells 85 [k0 v31, k0 v32]]⟩ ?_ z0 ?_
         ·kernel_rfl
         refine AWp.exit ?_
         cases h
         exact Or.inr ⟨_, rfl, by simp, rfl, rfl⟩
       ·intro e σ hp
        rcases y with v38 | ⟨v33, v34⟩
        ·obtain ⟨rfl, rfl⟩ := hp
         cases h
         exact Or.inr ⟨_, rfl, by simp, rfl, rfl⟩
        ·obtain ⟨rfl, rfl⟩ := hp
         refine AWp.start [0, 1, 2] [] [] [0, 1, 2, 9, 15] 1 ⟨[(0, q0 v1), (1, .tv (fzL 1 (cSl 2 c34) v2)), (2, .tv (fzL 1 (cSl 1 cStr) v3)), (9, .pc 0 0), (15, tI (w64 (v25 + (1 : Int))))], [.cells 85 [k0 v33, k0 v34]]⟩ rfl ?_ z0 trivial ?_
         ·kernel_rfl
         refine AOps.nil ?_
         cases h
         exact Or.inl ⟨_, rfl, rfl, rfl⟩
      ·replace h := of_false h hb
       refine AWp.keepTo [0, 2, 9] 1 ⟨[(0, q0 v1), (2, .tv (fzL 1 (cSl 1 cStr) v3)), (9, .pc 0 0)], [.cells 85 [k0 v26, k0 v27]]⟩ ?_ z0 ?_
       ·kernel_rfl
       refine AWp.exit ?_
       cases h
       exact Or.inr ⟨_, rfl, by simp, rfl, rfl⟩
     ·intro e σ hp
      rcases y with v39 | ⟨v28, v29⟩
      ·obtain ⟨rfl, rfl⟩ := hp
       cases h
       exact ⟨.inr rfl, rfl⟩
      ·obtain ⟨rfl, rfl⟩ := hp
       refine AWp.seq ?_
       refine AWp.seq ?_
       refine AWp.start [0] [] [] [0, 2, 9, 21] 1 ⟨[(0, q0 v1), (2, .tv (fzL 1 (cSl 1 cStr) v3)), (9, .pc 0 0), (21, tI (0 : Int))], [.cells 85 [k0 v28, k0 v29]]⟩ rfl ?_ z0 trivial ?_
       ·kernel_rfl
       refine AOps.nil ?_
       refine AWp.block ?_
       obtain ⟨y, hy, h⟩ := of_bind h
       refine AWp.mono (AWp.loop (S := Int) (Y := Out ((Option T84) × (List UInt8) × Bool) Unit) (fun s => ⟨[(0, q0 v1), (2, .tv (fzL 1 (cSl 1 cStr) v3)), (9, .pc 0 0), (21, tI s)], [.cells 85 [k0 v28, k0 v29]]⟩) (fun s => f39_b7 v1 v3 v28 s) (fun y e σ => match y with | .ret r => e = .ret ∧ σ = ⟨[(6, (match r.1 with | none => .tv (.sc (.pointer none)) | some _ => .pc 0 0)), (7, tS r.2.1), (8, tB r.2.2)], ([] ++ (match r.1 with | none => [] | some u => [.cells 85 [k0 u.f0, k0 u.f1]]))⟩ | .go v => e = .exit 10 ∧ σ = ⟨[(9, .pc 0 0)], [.cells 85 [k0 v28, k0 v29]]⟩) ?_ hy) ?_
       ·rintro v40 o h
        refine AWp.seq ?_
        refine AWp.seq ?_
        refine AWp.start [0, 1, 2, 3] [] [] [0, 2, 9, 21, 170] 1 ⟨[(0, q0 v1), (2, .tv (fzL 1 (cSl 1 cStr) v3)), (9, .pc 0 0), (21, tI v40), (170, tB (decide (v40 < (v3.length : Int))))], [.cells 85 [k0 v28, k0 v29]]⟩ rfl ?_ z0 trivial ?_
        ·kernel_rfl
        refine AOps.nil ?_
        refine AWp.cond rfl (fun hb => ?_) fun hb => ?_
        ·replace h := of_true h hb
         refine AWp.keepTo [0, 2, 9, 21] 1 ⟨[(0, q0 v1), (2, .tv (fzL 1 (cSl 1 cStr) v3)), (9, .pc 0 0), (21, tI v40)], [.cells 85 [k0 v28, k0 v29]]⟩ ?_ z0 ?_
         ·kernel_rfl
         refine AWp.skip ?_
         refine AWp.seq ?_
         refine AWp.block ?_
         refine AWp.seq ?_
         refine AWp.start [0] [] [] [0, 2, 9, 21, 22] 1 ⟨[(0, q0 v1), (2, .tv (fzL 1 (cSl 1 cStr) v3)), (9, .pc 0 0), (21, tI v40), (22, tI (0 : Int))], [.cells 85 [k0 v28, k0 v29]]⟩ rfl ?_ z0 trivial ?_
         ·kernel_rfl
         refine AOps.nil ?_
         refine AWp.block ?_
         obtain ⟨y, hy, h⟩ := of_bind h
         refine AWp.mono (AWp.loop (S := Int) (Y := Out ((Option T84) × (List UInt8) × Bool) Unit) (fun s => ⟨[(0, q0 v1), (2, .tv (fzL 1 (cSl 1 cStr) v3)), (9, .pc 0 0), (21, tI v40), (22, tI s)], [.cells 85 [k0 v28, k0 v29]]⟩) (fun s => f39_b6 v1 v3 v28 v40 s) (fun y e σ => match y with | .ret r => e = .ret ∧ σ = ⟨[(6, (match r.1 with | none => .tv (.sc (.pointer none)) | some _ => .pc 0 0)), (7, tS r.2.1), (8, tB r.2.2)], ([] ++ (match r.1 with | none => [] | some u => [.cells 85 [k0 u.f0, k0 u.f1]]))⟩ | .go v => e = .exit 12 ∧ σ = ⟨[(0, q0 v1), (2, .tv (fzL 1 (cSl 1 cStr) v3)), (9, .pc 0 0), (21, tI v40)], [.cells 85 [k0 v28, k0 v29]]⟩) ?_ hy) ?_
         ·rintro v41 o h
          refine AWp.seq ?_
          refine AWp.seq ?_
          refine AWp.start [0, 1, 2, 3] [4, 5, 6, 7, 8, 9, 10] [] [0, 2, 9, 21, 22, 176] 1 ⟨[(0, q0 v1), (2, .tv (fzL 1 (cSl 1 cStr) v3)), (9, .pc 0 0), (21, tI v40), (22, tI v41), (176, tB (decide (v41 < v40)))], [.cells 85 [k0 v28, k0 v29]]⟩ rfl ?_ z0 trivial ?_
          ·kernel_rfl
          obtain ⟨v42, hc4, h⟩ := of_bind h
          refine AOps.cut [4, 5, 6, 7, 8, 9, 10] [] (fun σ => σ = ⟨[(0, q0 v1), (2, .tv (fzL 1 (cSl 1 cStr) v3)), (9, .pc 0 0), (21, tI v40), (22, tI v41), (183, tB v42)], [.cells 85 [k0 v28, k0 v29]]⟩) ?_ fun σ' hJ => ?_
          ·refine AOps.split (fun b => ⟨[(0, q0 v1), (2, .tv (fzL 1 (cSl 1 cStr) v3)), (9, .pc 0 0), (21, tI v40), (22, tI v41), (176, tB b)], [.cells 85 [k0 v28, k0 v29]]⟩) _ (fun hb => ?_) fun hb => ?_
           ·replace hc4 := of_true hc4 hb
            obtain ⟨hg, hc4⟩ := of_guard hc4
            refine AOps.go [4, 5, 6, 7, 8, 9, 10] [] [(0 : Int) ≤ v40, v40 < (v3.length : Int)] [0, 2, 9, 21, 22, 183] 1 ⟨[(0, q0 v1), (2, .tv (fzL 1 (cSl 1 cStr) v3)), (9, .pc 0 0), (21, tI v40), (22, tI v41), (183, tB (decide (((gD v3 v40).length : Int) > (0 : Int))))], [.cells 85 [k0 v28, k0 v29]]⟩ ?_ z0 ⟨hg.1, hg.2⟩ ?_
            ·kernel_rfl
            cases hc4
            exact AOps.nil rfl
           ·replace hc4 := of_false hc4 hb
            refine AOps.go [4, 5, 6, 7, 8, 9, 10] [] [] [0, 2, 9, 21, 22, 183] 1 ⟨[(0, q0 v1), (2, .tv (fzL 1 (cSl 1 cStr) v3)), (9, .pc 0 0), (21, tI v40), (22, tI v41), (183, tB false)], [.cells 85 [k0 v28, k0 v29]]⟩ ?_ z0 trivial ?_
            ·kernel_rfl
            cases hc4
            exact AOps.nil rfl
          subst hJ
          refine AOps.nil ?_
          refine AWp.cond rfl (fun hb => ?_) fun hb => ?_
          ·replace h := of_true h hb
           refine AWp.keepTo [0, 2, 9, 21, 22] 1 ⟨[(0, q0 v1), (2, .tv (fzL 1 (cSl 1 cStr) v3)), (9, .pc 0 0), (21, tI v40), (22, tI v41)], [.cells 85 [k0 v28, k0 v29]]⟩ ?_ z0 ?_
           ·kernel_rfl
           refine AWp.skip ?_
           refine AWp.seq ?_
           refine AWp.block ?_
           refine AWp.seq ?_
           obtain ⟨v43, hd, h⟩ := of_bind h
           refine AWp.draw FFm (fun σ => σ = ⟨[(0, q0 v1), (2, .tv (fzL 1 (cSl 1 cStr) v3)), (9, .pc 0 0), (21, tI v40), (22, tI v41), (222, tB v43)], [.cells 85 [k0 v28, k0 v29]]⟩) (n := 37) rfl (ls := #[n1, n1, n1, n1, n1, n1, n1, n1, n1, n1, n1, n1, n1, n1, n1, n1, n1, n1, n1, n1, n1, n1, n1, n1, n1, n1, n1, n1, n1, n1, n1, n1, n1, n1, n1, n1, n1]) rfl ?_ ?_
           ·obtain ⟨hg, hd⟩ := of_guard hd
            refine AAny.go (by kernel_rfl) [0, 1, 2, 3, 4, 5, 6] (fuel' := 30) rfl [(0 : Int) ≤ v41, v41 < (v3.length : Int)] #[y1, y1, y1, y1, y1, y1, y1, n1, n1, n1, n1, n1, n1, n1, n1, n1, n1, n1, n1, n1, n1, n1, n1, n1, n1, n1, n1, n1, n1, n1, n1, n1, n1, n1, n1, n1, n1] [0, 2, 9, 21, 22, 192] 1 ⟨[(0, q0 v1), (2, .tv (fzL 1 (cSl 1 cStr) v3)), (9, .pc 0 0), (21, tI v40), (22, tI v41), (192, tB (decide (((gD v3 v41).length : Int) > (0 : Int))))], [.cells 85 [k0 v28, k0 v29]]⟩ ?_ z0 ⟨hg.1, hg.2⟩ ?_
            ·kernel_rfl
            refine AAny.split (fun b => ⟨[(0, q0 v1), (2, .tv (fzL 1 (cSl 1 cStr) v3)), (9, .pc 0 0), (21, tI v40), (22, tI v41), (192, tB b)], [.cells 85 [k0 v28, k0 v29]]⟩) _ (fun hb => ?_) fun hb => ?_
            ·replace hd := of_true hd hb
             obtain ⟨hg, hd⟩ := of_guard hd
             refine AAny.go (by kernel_rfl) [7, 8, 9, 11, 12, 13, 14, 15, 16, 17, 21, 22, 23, 25, 26, 27, 28, 29, 30, 31] (fuel' := 10) rfl [(0 : Int) ≤ v40, v40 < (v3.length : Int), (0 : Int) ≤ (0 : Int), (0 : Int) < ((gD v3 v40).length : Int), (0 : Int) ≤ v41, v41 < (v3.length : Int), (0 : Int) ≤ (0 : Int), (0 : Int) < ((gD v3 v41).length : Int)] #[y1, y1, y1, y1, y1, y1, y1, y1, y1, y1, n1, y1, y1, y1, y1, y1, y1, y1, n1, n1, n1, y1, y1, y1, n1, y1, y1, y1, y1, y1, y1, y1, n1, n1, n1, n1, n1] [0, 2, 9, 21, 22, 192, 195, 197, 203, 209, 211, 217] 1 ⟨[(0, q0 v1), (2, .tv (fzL 1 (cSl 1 cStr) v3)), (9, .pc 0 0), (21, tI v40), (22, tI v41), (192, tB true), (195, .pc 0 0), (197, q0 v1), (203, tS ((gD v3 v40).getD 0 default)), (209, .pc 0 0), (211, q0 v1), (217, tS ((gD v3 v41).getD 0 default))], [.cells 85 [k0 v28, k0 v29]]⟩ ?_ z0 ⟨hg.1, hg.2.1, (by decide : (0 : Int) ≤ (0 : Int)), hg.2.2.1, hg.2.2.2.1, hg.2.2.2.2.1, (by decide : (0 : Int) ≤ (0 : Int)), hg.2.2.2.2.2⟩ ?_
             ·kernel_rfl
             obtain ⟨v44, hv44, hd⟩ := of_bind hd
             obtain ⟨hd83, hd⟩ := of_guard hd
             obtain ⟨v45, hv45, hd⟩ := of_bind hd
             obtain ⟨hd84, hd⟩ := of_guard hd
             refine AAny.share 0 #[y1, y1, y1, y1, y1, y1, y1, y1, y1, y1, y1, y1, y1, y1, y1, y1, y1, y1, y1, y1, y1, y1, y1, y1, y1, y1, y1, y1, y1, y1, y1, y1, y1, y1, y1, y1, y1] ⟨[(0, q0 v1), (2, .tv (fzL 1 (cSl 1 cStr) v3)), (9, .pc 0 0), (21, tI v40), (22, tI v41), (222, tB (gD v28 v44 == gD v28 v45))], [.cells 85 [k0 v28, k0 v29]]⟩ ?_ fun n11_ => ?_
             ·refine AAny.keepTo [0, 2, 9, 21, 22, 222] 1 ⟨[(0, q0 v1), (2, .tv (fzL 1 (cSl 1 cStr) v3)), (9, .pc 0 0), (21, tI v40), (22, tI v41), (222, tB (gD v28 v44 == gD v28 v45))], [.cells 85 [k0 v28, k0 v29]]⟩ _ ?_ rfl z0 (AAny.done (by kernel_rfl) ?_)
              ·kernel_rfl
              cases hd
              exact rfl
             refine AAny.share 3 #[y1, y1, y1, y1, y1, y1, y1, y1, y1, y1, y1, y1, y1, y1, y1, y1, y1, y1, y1, y1, n1, y1, y1, y1, y1, y1, y1, y1, y1, y1, y1, y1, y1, y1, y1, n1, n1] ⟨[(0, q0 v1), (2, .tv (fzL 1 (cSl 1 cStr) v3)), (9, .pc 0 0), (21, tI v40), (22, tI v41), (192, tB true), (205, .pe (.cell 0 0, []) v44.toNat 0 1), (220, tI (gD v28 v45))], [.cells 85 [k0 v28, k0 v29]]⟩ ?_ fun n10_ => ?_
             ·refine AAny.each [20] (by kernel_rfl) rfl ?_
              refine AEach.step (i := 20) [] #[y1, y1, y1, y1, y1, y1, y1, y1, y1, y1, y1, y1, y1, y1, y1, y1, y1, y1, y1, y1, y1, y1, y1, y1, y1, y1, y1, y1, y1, y1, y1, y1, y1, y1, y1, n1, n1] rfl [0, 2, 9, 21, 22, 192, 206, 220] 1 ⟨[(0, q0 v1), (2, .tv (fzL 1 (cSl 1 cStr) v3)), (9, .pc 0 0), (21, tI v40), (22, tI v41), (192, tB true), (206, tI (gD v28 v44)), (220, tI (gD v28 v45))], [.cells 85 [k0 v28, k0 v29]]⟩ ?_ z0 trivial ?_ ?_
              ·kernel_rfl
              ·refine AAny.go (by kernel_rfl) [35, 36] (fuel' := 0) rfl [] #[y1, y1, y1, y1, y1, y1, y1, y1, y1, y1, y1, y1, y1, y1, y1, y1, y1, y1, y1, y1, y1, y1, y1, y1, y1, y1, y1, y1, y1, y1, y1, y1, y1, y1, y1, y1, y1] [0, 2, 9, 21, 22, 222] 1 ⟨[(0, q0 v1), (2, .tv (fzL 1 (cSl 1 cStr) v3)), (9, .pc 0 0), (21, tI v40), (22, tI v41), (222, tB (gD v28 v44 == gD v28 v45))], [.cells 85 [k0 v28, k0 v29]]⟩ ?_ z0 trivial ?_
               ·kernel_rfl
               exact n11_
              exact AEach.nil
             refine AAny.share 3 #[y1, y1, y1, y1, y1, y1, y1, y1, y1, y1, y1, y1, y1, y1, y1, y1, y1, y1, y1, y1, y1, y1, y1, y1, y1, y1, y1, y1, y1, y1, y1, y1, y1, y1, n1, n1, n1] ⟨[(0, q0 v1), (2, .tv (fzL 1 (cSl 1 cStr) v3)), (9, .pc 0 0), (21, tI v40), (22, tI v41), (192, tB true), (206, tI (gD v28 v44)), (219, .pe (.cell 0 0, []) v45.toNat 0 1)], [.cells 85 [k0 v28, k0 v29]]⟩ ?_ fun n12_ => ?_
             ·refine AAny.each [34] (by kernel_rfl) rfl ?_
              refine AEach.step (i := 34) [] #[y1, y1, y1, y1, y1, y1, y1, y1, y1, y1, y1, y1, y1, y1, y1, y1, y1, y1, y1, y1, y1, y1, y1, y1, y1, y1, y1, y1, y1, y1, y1, y1, y1, y1, y1, n1, n1] rfl [0, 2, 9, 21, 22, 192, 206, 220] 1 ⟨[(0, q0 v1), (2, .tv (fzL 1 (cSl 1 cStr) v3)), (9, .pc 0 0), (21, tI v40), (22, tI v41), (192, tB true), (206, tI (gD v28 v44)), (220, tI (gD v28 v45))], [.cells 85 [k0 v28, k0 v29]]⟩ ?_ z0 trivial ?_ ?_
              ·kernel_rfl
              ·refine AAny.go (by kernel_rfl) [35, 36] (fuel' := 0) rfl [] #[y1, y1, y1, y1, y1, y1, y1, y1, y1, y1, y1, y1, y1, y1, y1, y1, y1, y1, y1, y1, y1, y1, y1, y1, y1, y1, y1, y1, y1, y1, y1, y1, y1, y1, y1, y1, y1] [0, 2, 9, 21, 22, 222] 1 ⟨[(0, q0 v1), (2, .tv (fzL 1 (cSl 1 cStr) v3)), (9, .pc 0 0), (21, tI v40), (22, tI v41), (222, tB (gD v28 v44 == gD v28 v45))], [.cells 85 [k0 v28, k0 v29]]⟩ ?_ z0 trivial ?_
               ·kernel_rfl
               exact n11_
              exact AEach.nil
             refine AAny.share 4 #[y1, y1, y1, y1, y1, y1, y1, y1, y1, y1, y1, y1, y1, y1, y1, y1, y1, y1, y1, y1, n1, y1, y1, y1, y1, y1, y1, y1, y1, y1, y1, y1, y1, y1, n1, n1, n1] ⟨[(0, q0 v1), (2, .tv (fzL 1 (cSl 1 cStr) v3)), (9, .pc 0 0), (21, tI v40), (22, tI v41), (192, tB true), (205, .pe (.cell 0 0, []) v44.toNat 0 1), (219, .pe (.cell 0 0, []) v45.toNat 0 1)], [.cells 85 [k0 v28, k0 v29]]⟩ ?_ fun n8_ => ?_
             ·refine AAny.each [20, 34] (by kernel_rfl) rfl ?_
              refine AEach.step (i := 20) [] #[y1, y1, y1, y1, y1, y1, y1, y1, y1, y1, y1, y1, y1, y1, y1, y1, y1, y1, y1, y1, y1, y1, y1, y1, y1, y1, y1, y1, y1, y1, y1, y1, y1, y1, n1, n1, n1] rfl [0, 2, 9, 21, 22, 192, 206, 219] 1 ⟨[(0, q0 v1), (2, .tv (fzL 1 (cSl 1 cStr) v3)), (9, .pc 0 0), (21, tI v40), (22, tI v41), (192, tB true), (206, tI (gD v28 v44)), (219, .pe (.cell 0 0, []) v45.toNat 0 1)], [.cells 85 [k0 v28, k0 v29]]⟩ ?_ z0 trivial ?_ ?_
              ·kernel_rfl
              ·exact n12_
              refine AEach.step (i := 34) [] #[y1, y1, y1, y1, y1, y1, y1, y1, y1, y1, y1, y1, y1, y1, y1, y1, y1, y1, y1, y1, n1, y1, y1, y1, y1, y1, y1, y1, y1, y1, y1, y1, y1, y1, y1, n1, n1] rfl [0, 2, 9, 21, 22, 192, 205, 220] 1 ⟨[(0, q0 v1), (2, .tv (fzL 1 (cSl 1 cStr) v3)), (9, .pc 0 0), (21, tI v40), (22, tI v41), (192, tB true), (205, .pe (.cell 0 0, []) v44.toNat 0 1), (220, tI (gD v28 v45))], [.cells 85 [k0 v28, k0 v29]]⟩ ?_ z0 trivial ?_ ?_
              ·kernel_rfl
              ·exact n10_
              exact AEach.nil
             refine AAny.share 5 #[y1, y1, y1, y1, y1, y1, y1, y1, y1, y1, n1, y1, y1, y1, y1, y1, y1, y1, y1, n1, n1, y1, y1, y1, y1, y1, y1, y1, y1, y1, y1, y1, y1, y1, y1, n1, n1] ⟨[(0, q0 v1), (2, .tv (fzL 1 (cSl 1 cStr) v3)), (9, .pc 0 0), (21, tI v40), (22, tI v41), (192, tB true), (195, .pc 0 0), (204, tI v44), (220, tI (gD v28 v45))], [.cells 85 [k0 v28, k0 v29]]⟩ ?_ fun n9_ => ?_
             ·refine AAny.each [10] (by kernel_rfl) rfl ?_
              refine AEach.step (i := 10) [] #[y1, y1, y1, y1, y1, y1, y1, y1, y1, y1, y1, y1, y1, y1, y1, y1, y1, y1, y1, n1, n1, y1, y1, y1, y1, y1, y1, y1, y1, y1, y1, y1, y1, y1, y1, n1, n1] rfl [0, 2, 9, 21, 22, 192, 196, 204, 220] 1 ⟨[(0, q0 v1), (2, .tv (fzL 1 (cSl 1 cStr) v3)), (9, .pc 0 0), (21, tI v40), (22, tI v41), (192, tB true), (196, .al (.cell 0 0, [])), (204, tI v44), (220, tI (gD v28 v45))], [.cells 85 [k0 v28, k0 v29]]⟩ ?_ z0 trivial ?_ ?_
              ·kernel_rfl
              ·refine AAny.go (by kernel_rfl) [19] (fuel' := 3) rfl [(0 : Int) ≤ v44, v44 < (v28.length : Int)] #[y1, y1, y1, y1, y1, y1, y1, y1, y1, y1, y1, y1, y1, y1, y1, y1, y1, y1, y1, y1, n1, y1, y1, y1, y1, y1, y1, y1, y1, y1, y1, y1, y1, y1, y1, n1, n1] [0, 2, 9, 21, 22, 192, 205, 220] 1 ⟨[(0, q0 v1), (2, .tv (fzL 1 (cSl 1 cStr) v3)), (9, .pc 0 0), (21, tI v40), (22, tI v41), (192, tB true), (205, .pe (.cell 0 0, []) v44.toNat 0 1), (220, tI (gD v28 v45))], [.cells 85 [k0 v28, k0 v29]]⟩ ?_ z0 ⟨hd83.1, hd83.2⟩ ?_
               ·kernel_rfl
               exact n10_
              exact AEach.nil
             refine AAny.share 5 #[y1, y1, y1, y1, y1, y1, y1, y1, y1, y1, y1, y1, y1, y1, y1, y1, y1, y1, y1, y1, y1, y1, y1, y1, y1, y1, y1, y1, y1, y1, y1, y1, n1, n1, n1, n1, n1] ⟨[(0, q0 v1), (2, .tv (fzL 1 (cSl 1 cStr) v3)), (9, .pc 0 0), (21, tI v40), (22, tI v41), (192, tB true), (206, tI (gD v28 v44)), (210, .al (.cell 0 0, [])), (211, q0 v1), (217, tS ((gD v3 v41).getD 0 default))], [.cells 85 [k0 v28, k0 v29]]⟩ ?_ fun n13_ => ?_
             ·refine AAny.each [32] (by kernel_rfl) rfl ?_
              refine AEach.one (i := 32) (AOne.callP (F := (FF 230 0)) _ rfl rfl rfl _ rfl rfl _ _ rfl Try.call33 [q0 v1, tS ((gD v3 v41).getD 0 default)] rfl rfl (f33_ok v1 ((gD v3 v41).getD 0 default) hv45) rfl) ?_ ?_
              ·refine AAny.keepTo [0, 2, 9, 21, 22, 192, 206, 210, 218] 1 ⟨[(0, q0 v1), (2, .tv (fzL 1 (cSl 1 cStr) v3)), (9, .pc 0 0), (21, tI v40), (22, tI v41), (192, tB true), (206, tI (gD v28 v44)), (210, .al (.cell 0 0, [])), (218, tI v45)], [.cells 85 [k0 v28, k0 v29]]⟩ #[y1, y1, y1, y1, y1, y1, y1, y1, y1, y1, y1, y1, y1, y1, y1, y1, y1, y1, y1, y1, y1, y1, y1, y1, y1, y1, y1, y1, y1, y1, y1, y1, y1, n1, n1, n1, n1] ?_ rfl z0 ?_
               ·kernel_rfl
               refine AAny.go (by kernel_rfl) [33] (fuel' := 3) rfl [(0 : Int) ≤ v45, v45 < (v28.length : Int)] #[y1, y1, y1, y1, y1, y1, y1, y1, y1, y1, y1, y1, y1, y1, y1, y1, y1, y1, y1, y1, y1, y1, y1, y1, y1, y1, y1, y1, y1, y1, y1, y1, y1, y1, n1, n1, n1] [0, 2, 9, 21, 22, 192, 206, 219] 1 ⟨[(0, q0 v1), (2, .tv (fzL 1 (cSl 1 cStr) v3)), (9, .pc 0 0), (21, tI v40), (22, tI v41), (192, tB true), (206, tI (gD v28 v44)), (219, .pe (.cell 0 0, []) v45.toNat 0 1)], [.cells 85 [k0 v28, k0 v29]]⟩ ?_ z0 ⟨hd84.1, hd84.2⟩ ?_
               ·kernel_rfl
               exact n12_
              exact AEach.nil
             refine AAny.share 5 #[y1, y1, y1, y1, y1, y1, y1, y1, y1, y1, y1, y1, y1, y1, y1, y1, y1, y1, y1, y1, y1, y1, y1, y1, n1, y1, y1, y1, y1, y1, y1, y1, y1, n1, n1, n1, n1] ⟨[(0, q0 v1), (2, .tv (fzL 1 (cSl 1 cStr) v3)), (9, .pc 0 0), (21, tI v40), (22, tI v41), (192, tB true), (206, tI (gD v28 v44)), (209, .pc 0 0), (218, tI v45)], [.cells 85 [k0 v28, k0 v29]]⟩ ?_ fun n17_ => ?_
             ·refine AAny.each [24] (by kernel_rfl) rfl ?_
              refine AEach.step (i := 24) [] #[y1, y1, y1, y1, y1, y1, y1, y1, y1, y1, y1, y1, y1, y1, y1, y1, y1, y1, y1, y1, y1, y1, y1, y1, y1, y1, y1, y1, y1, y1, y1, y1, y1, n1, n1, n1, n1] rfl [0, 2, 9, 21, 22, 192, 206, 210, 218] 1 ⟨[(0, q0 v1), (2, .tv (fzL 1 (cSl 1 cStr) v3)), (9, .pc 0 0), (21, tI v40), (22, tI v41), (192, tB true), (206, tI (gD v28 v44)), (210, .al (.cell 0 0, [])), (218, tI v45)], [.cells 85 [k0 v28, k0 v29]]⟩ ?_ z0 trivial ?_ ?_
              ·kernel_rfl
              ·refine AAny.go (by kernel_rfl) [33] (fuel' := 3) rfl [(0 : Int) ≤ v45, v45 < (v28.length : Int)] #[y1, y1, y1, y1, y1, y1, y1, y1, y1, y1, y1, y1, y1, y1, y1, y1, y1, y1, y1, y1, y1, y1, y1, y1, y1, y1, y1, y1, y1, y1, y1, y1, y1, y1, n1, n1, n1] [0, 2, 9, 21, 22, 192, 206, 219] 1 ⟨[(0, q0 v1), (2, .tv (fzL 1 (cSl 1 cStr) v3)), (9, .pc 0 0), (21, tI v40), (22, tI v41), (192, tB true), (206, tI (gD v28 v44)), (219, .pe (.cell 0 0, []) v45.toNat 0 1)], [.cells 85 [k0 v28, k0 v29]]⟩ ?_ z0 ⟨hd84.1, hd84.2⟩ ?_
               ·kernel_rfl
               exact n12_
              exact AEach.nil
             refine AAny.share 6 #[y1, y1, y1, y1, y1, y1, y1, y1, y1, y1, n1, y1, y1, y1, y1, y1, y1, y1, y1, n1, n1, y1, y1, y1, y1, y1, y1, y1, y1, y1, y1, y1, y1, y1, n1, n1, n1] ⟨[(0, q0 v1), (2, .tv (fzL 1 (cSl 1 cStr) v3)), (9, .pc 0 0), (21, tI v40), (22, tI v41), (192, tB true), (195, .pc 0 0), (204, tI v44), (219, .pe (.cell 0 0, []) v45.toNat 0 1)], [.cells 85 [k0 v28, k0 v29]]⟩ ?_ fun n7_ => ?_
             ·refine AAny.each [10, 34] (by kernel_rfl) rfl ?_
              refine AEach.step (i := 10) [] #[y1, y1, y1, y1, y1, y1, y1, y1, y1, y1, y1, y1, y1, y1, y1, y1, y1, y1, y1, n1, n1, y1, y1, y1, y1, y1, y1, y1, y1, y1, y1, y1, y1, y1, n1, n1, n1] rfl [0, 2, 9, 21, 22, 192, 196, 204, 219] 1 ⟨[(0, q0 v1), (2, .tv (fzL 1 (cSl 1 cStr) v3)), (9, .pc 0 0), (21, tI v40), (22, tI v41), (192, tB true), (196, .al (.cell 0 0, [])), (204, tI v44), (219, .pe (.cell 0 0, []) v45.toNat 0 1)], [.cells 85 [k0 v28, k0 v29]]⟩ ?_ z0 trivial ?_ ?_
              ·kernel_rfl
              ·refine AAny.go (by kernel_rfl) [19] (fuel' := 4) rfl [(0 : Int) ≤ v44, v44 < (v28.length : Int)] #[y1, y1, y1, y1, y1, y1, y1, y1, y1, y1, y1, y1, y1, y1, y1, y1, y1, y1, y1, y1, n1, y1, y1, y1, y1, y1, y1, y1, y1, y1, y1, y1, y1, y1, n1, n1, n1] [0, 2, 9, 21, 22, 192, 205, 219] 1 ⟨[(0, q0 v1), (2, .tv (fzL 1 (cSl 1 cStr) v3)), (9, .pc 0 0), (21, tI v40), (22, tI v41), (192, tB true), (205, .pe (.cell 0 0, []) v44.toNat 0 1), (219, .pe (.cell 0 0, []) v45.toNat 0 1)], [.cells 85 [k0 v28, k0 v29]]⟩ ?_ z0 ⟨hd83.1, hd83.2⟩ ?_
               ·kernel_rfl
               exact n8_
              refine AEach.step (i := 34) [] #[y1, y1, y1, y1, y1, y1, y1, y1, y1, y1, n1, y1, y1, y1, y1, y1, y1, y1, y1, n1, n1, y1, y1, y1, y1, y1, y1, y1, y1, y1, y1, y1, y1, y1, y1, n1, n1] rfl [0, 2, 9, 21, 22, 192, 195, 204, 220] 1 ⟨[(0, q0 v1), (2, .tv (fzL 1 (cSl 1 cStr) v3)), (9, .pc 0 0), (21, tI v40), (22, tI v41), (192, tB true), (195, .pc 0 0), (204, tI v44), (220, tI (gD v28 v45))], [.cells 85 [k0 v28, k0 v29]]⟩ ?_ z0 trivial ?_ ?_
              ·kernel_rfl
              ·exact n9_
              exact AEach.nil
             refine AAny.share 6 #[y1, y1, y1, y1, y1, y1, y1, y1, y1, y1, y1, y1, y1, y1, y1, y1, y1, y1, y1, y1, n1, y1, y1, y1, y1, y1, y1, y1, y1, y1, y1, y1, n1, n1, n1, n1, n1] ⟨[(0, q0 v1), (2, .tv (fzL 1 (cSl 1 cStr) v3)), (9, .pc 0 0), (21, tI v40), (22, tI v41), (192, tB true), (205, .pe (.cell 0 0, []) v44.toNat 0 1), (210, .al (.cell 0 0, [])), (211, q0 v1), (217, tS ((gD v3 v41).getD 0 default))], [.cells 85 [k0 v28, k0 v29]]⟩ ?_ fun n6_ => ?_
             ·refine AAny.each [20, 32] (by kernel_rfl) rfl ?_
              refine AEach.step (i := 20) [] #[y1, y1, y1, y1, y1, y1, y1, y1, y1, y1, y1, y1, y1, y1, y1, y1, y1, y1, y1, y1, y1, y1, y1, y1, y1, y1, y1, y1, y1, y1, y1, y1, n1, n1, n1, n1, n1] rfl [0, 2, 9, 21, 22, 192, 206, 210, 211, 217] 1 ⟨[(0, q0 v1), (2, .tv (fzL 1 (cSl 1 cStr) v3)), (9, .pc 0 0), (21, tI v40), (22, tI v41), (192, tB true), (206, tI (gD v28 v44)), (210, .al (.cell 0 0, [])), (211, q0 v1), (217, tS ((gD v3 v41).getD 0 default))], [.cells 85 [k0 v28, k0 v29]]⟩ ?_ z0 trivial ?_ ?_
              ·kernel_rfl
              ·exact n13_
              refine AEach.one (i := 32) (AOne.callP (F := (FF 230 0)) _ rfl rfl rfl _ rfl rfl _ _ rfl Try.call33 [q0 v1, tS ((gD v3 v41).getD 0 default)] rfl rfl (f33_ok v1 ((gD v3 v41).getD 0 default) hv45) rfl) ?_ ?_
              ·refine AAny.keepTo [0, 2, 9, 21, 22, 192, 205, 210, 218] 1 ⟨[(0, q0 v1), (2, .tv (fzL 1 (cSl 1 cStr) v3)), (9, .pc 0 0), (21, tI v40), (22, tI v41), (192, tB true), (205, .pe (.cell 0 0, []) v44.toNat 0 1), (210, .al (.cell 0 0, [])), (218, tI v45)], [.cells 85 [k0 v28, k0 v29]]⟩ #[y1, y1, y1, y1, y1, y1, y1, y1, y1, y1, y1, y1, y1, y1, y1, y1, y1, y1, y1, y1, n1, y1, y1, y1, y1, y1, y1, y1, y1, y1, y1, y1, y1, n1, n1, n1, n1] ?_ rfl z0 ?_
               ·kernel_rfl
               refine AAny.go (by kernel_rfl) [33] (fuel' := 4) rfl [(0 : Int) ≤ v45, v45 < (v28.length : Int)] #[y1, y1, y1, y1, y1, y1, y1, y1, y1, y1, y1, y1, y1, y1, y1, y1, y1, y1, y1, y1, n1, y1, y1, y1, y1, y1, y1, y1, y1, y1, y1, y1, y1, y1, n1, n1, n1] [0, 2, 9, 21, 22, 192, 205, 219] 1 ⟨[(0, q0 v1), (2, .tv (fzL 1 (cSl 1 cStr) v3)), (9, .pc 0 0), (21, tI v40), (22, tI v41), (192, tB true), (205, .pe (.cell 0 0, []) v44.toNat 0 1), (219, .pe (.cell 0 0, []) v45.toNat 0 1)], [.cells 85 [k0 v28, k0 v29]]⟩ ?_ z0 ⟨hd84.1, hd84.2⟩ ?_
               ·kernel_rfl
               exact n8_
              exact AEach.nil
             refine AAny.share 6 #[y1, y1, y1, y1, y1, y1, y1, y1, y1, y1, y1, y1, y1, y1, y1, y1, y1, y1, y1, y1, n1, y1, y1, y1, n1, y1, y1, y1, y1, y1, y1, y1, y1, n1, n1, n1, n1] ⟨[(0, q0 v1), (2, .tv (fzL 1 (cSl 1 cStr) v3)), (9, .pc 0 0), (21, tI v40), (22, tI v41), (192, tB true), (205, .pe (.cell 0 0, []) v44.toNat 0 1), (209, .pc 0 0), (218, tI v45)], [.cells 85 [k0 v28, k0 v29]]⟩ ?_ fun n16_ => ?_
             ·refine AAny.each [20, 24] (by kernel_rfl) rfl ?_
              refine AEach.step (i := 20) [] #[y1, y1, y1, y1, y1, y1, y1, y1, y1, y1, y1, y1, y1, y1, y1, y1, y1, y1, y1, y1, y1, y1, y1, y1, n1, y1, y1, y1, y1, y1, y1, y1, y1, n1, n1, n1, n1] rfl [0, 2, 9, 21, 22, 192, 206, 209, 218] 1 ⟨[(0, q0 v1), (2, .tv (fzL 1 (cSl 1 cStr) v3)), (9, .pc 0 0), (21, tI v40), (22, tI v41), (192, tB true), (206, tI (gD v28 v44)), (209, .pc 0 0), (218, tI v45)], [.cells 85 [k0 v28, k0 v29]]⟩ ?_ z0 trivial ?_ ?_
              ·kernel_rfl
              ·exact n17_
              refine AEach.step (i := 24) [] #[y1, y1, y1, y1, y1, y1, y1, y1, y1, y1, y1, y1, y1, y1, y1, y1, y1, y1, y1, y1, n1, y1, y1, y1, y1, y1, y1, y1, y1, y1, y1, y1, y1, n1, n1, n1, n1] rfl [0, 2, 9, 21, 22, 192, 205, 210, 218] 1 ⟨[(0, q0 v1), (2, .tv (fzL 1 (cSl 1 cStr) v3)), (9, .pc 0 0), (21, tI v40), (22, tI v41), (192, tB true), (205, .pe (.cell 0 0, []) v44.toNat 0 1), (210, .al (.cell 0 0, [])), (218, tI v45)], [.cells 85 [k0 v28, k0 v29]]⟩ ?_ z0 trivial ?_ ?_
              ·kernel_rfl
              ·refine AAny.go (by kernel_rfl) [33] (fuel' := 4) rfl [(0 : Int) ≤ v45, v45 < (v28.length : Int)] #[y1, y1, y1, y1, y1, y1, y1, y1, y1, y1, y1, y1, y1, y1, y1, y1, y1, y1, y1, y1, n1, y1, y1, y1, y1, y1, y1, y1, y1, y1, y1, y1, y1, y1, n1, n1, n1] [0, 2, 9, 21, 22, 192, 205, 219] 1 ⟨[(0, q0 v1), (2, .tv (fzL 1 (cSl 1 cStr) v3)), (9, .pc 0 0), (21, tI v40), (22, tI v41), (192, tB true), (205, .pe (.cell 0 0, []) v44.toNat 0 1), (219, .pe (.cell 0 0, []) v45.toNat 0 1)], [.cells 85 [k0 v28, k0 v29]]⟩ ?_ z0 ⟨hd84.1, hd84.2⟩ ?_
               ·kernel_rfl
               exact n8_
              exact AEach.nil
             refine AAny.share 6 #[y1, y1, y1, y1, y1, y1, y1, y1, y1, y1, y1, y1, y1, y1, y1, y1, y1, y1, y1, y1, y1, y1, y1, y1, n1, y1, y1, y1, y1, y1, y1, y1, n1, n1, n1, n1, n1] ⟨[(0, q0 v1), (2, .tv (fzL 1 (cSl 1 cStr) v3)), (9, .pc 0 0), (21, tI v40), (22, tI v41), (192, tB true), (206, tI (gD v28 v44)), (209, .pc 0 0), (211, q0 v1), (217, tS ((gD v3 v41).getD 0 default))], [.cells 85 [k0 v28, k0 v29]]⟩ ?_ fun n18_ => ?_
             ·refine AAny.each [24, 32] (by kernel_rfl) rfl ?_
              refine AEach.step (i := 24) [] #[y1, y1, y1, y1, y1, y1, y1, y1, y1, y1, y1, y1, y1, y1, y1, y1, y1, y1, y1, y1, y1, y1, y1, y1, y1, y1, y1, y1, y1, y1, y1, y1, n1, n1, n1, n1, n1] rfl [0, 2, 9, 21, 22, 192, 206, 210, 211, 217] 1 ⟨[(0, q0 v1), (2, .tv (fzL 1 (cSl 1 cStr) v3)), (9, .pc 0 0), (21, tI v40), (22, tI v41), (192, tB true), (206, tI (gD v28 v44)), (210, .al (.cell 0 0, [])), (211, q0 v1), (217, tS ((gD v3 v41).getD 0 default))], [.cells 85 [k0 v28, k0 v29]]⟩ ?_ z0 trivial ?_ ?_
              ·kernel_rfl
              ·exact n13_
              refine AEach.one (i := 32) (AOne.callP (F := (FF 230 0)) _ rfl rfl rfl _ rfl rfl _ _ rfl Try.call33 [q0 v1, tS ((gD v3 v41).getD 0 default)] rfl rfl (f33_ok v1 ((gD v3 v41).getD 0 default) hv45) rfl) ?_ ?_
              ·refine AAny.keepTo [0, 2, 9, 21, 22, 192, 206, 209, 218] 1 ⟨[(0, q0 v1), (2, .tv (fzL 1 (cSl 1 cStr) v3)), (9, .pc 0 0), (21, tI v40), (22, tI v41), (192, tB true), (206, tI (gD v28 v44)), (209, .pc 0 0), (218, tI v45)], [.cells 85 [k0 v28, k0 v29]]⟩ #[y1, y1, y1, y1, y1, y1, y1, y1, y1, y1, y1, y1, y1, y1, y1, y1, y1, y1, y1, y1, y1, y1, y1, y1, n1, y1, y1, y1, y1, y1, y1, y1, y1, n1, n1, n1, n1] ?_ rfl z0 ?_
               ·kernel_rfl
               exact n17_
              exact AEach.nil
             refine AAny.share 7 #[y1, y1, y1, y1, y1, y1, y1, y1, y1, y1, y1, y1, y1, y1, y1, y1, y1, y1, y1, y1, n1, y1, y1, y1, n1, y1, y1, y1, y1, y1, y1, y1, n1, n1, n1, n1, n1] ⟨[(0, q0 v1), (2, .tv (fzL 1 (cSl 1 cStr) v3)), (9, .pc 0 0), (21, tI v40), (22, tI v41), (192, tB true), (205, .pe (.cell 0 0, []) v44.toNat 0 1), (209, .pc 0 0), (211, q0 v1), (217, tS ((gD v3 v41).getD 0 default))], [.cells 85 [k0 v28, k0 v29]]⟩ ?_ fun n14_ => ?_
             ·refine AAny.each [20, 24, 32] (by kernel_rfl) rfl ?_
              refine AEach.step (i := 20) [] #[y1, y1, y1, y1, y1, y1, y1, y1, y1, y1, y1, y1, y1, y1, y1, y1, y1, y1, y1, y1, y1, y1, y1, y1, n1, y1, y1, y1, y1, y1, y1, y1, n1, n1, n1, n1, n1] rfl [0, 2, 9, 21, 22, 192, 206, 209, 211, 217] 1 ⟨[(0, q0 v1), (2, .tv (fzL 1 (cSl 1 cStr) v3)), (9, .pc 0 0), (21, tI v40), (22, tI v41), (192, tB true), (206, tI (gD v28 v44)), (209, .pc 0 0), (211, q0 v1), (217, tS ((gD v3 v41).getD 0 default))], [.cells 85 [k0 v28, k0 v29]]⟩ ?_ z0 trivial ?_ ?_
              ·kernel_rfl
              ·exact n18_
              refine AEach.step (i := 24) [] #[y1, y1, y1, y1, y1, y1, y1, y1, y1, y1, y1, y1, y1, y1, y1, y1, y1, y1, y1, y1, n1, y1, y1, y1, y1, y1, y1, y1, y1, y1, y1, y1, n1, n1, n1, n1, n1] rfl [0, 2, 9, 21, 22, 192, 205, 210, 211, 217] 1 ⟨[(0, q0 v1), (2, .tv (fzL 1 (cSl 1 cStr) v3)), (9, .pc 0 0), (21, tI v40), (22, tI v41), (192, tB true), (205, .pe (.cell 0 0, []) v44.toNat 0 1), (210, .al (.cell 0 0, [])), (211, q0 v1), (217, tS ((gD v3 v41).getD 0 default))], [.cells 85 [k0 v28, k0 v29]]⟩ ?_ z0 trivial ?_ ?_
              ·kernel_rfl
              ·exact n6_
              refine AEach.one (i := 32) (AOne.callP (F := (FF 230 0)) _ rfl rfl rfl _ rfl rfl _ _ rfl Try.call33 [q0 v1, tS ((gD v3 v41).getD 0 default)] rfl rfl (f33_ok v1 ((gD v3 v41).getD 0 default) hv45) rfl) ?_ ?_
              ·refine AAny.keepTo [0, 2, 9, 21, 22, 192, 205, 209, 218] 1 ⟨[(0, q0 v1), (2, .tv (fzL 1 (cSl 1 cStr) v3)), (9, .pc 0 0), (21, tI v40), (22, tI v41), (192, tB true), (205, .pe (.cell 0 0, []) v44.toNat 0 1), (209, .pc 0 0), (218, tI v45)], [.cells 85 [k0 v28, k0 v29]]⟩ #[y1, y1, y1, y1, y1, y1, y1, y1, y1, y1, y1, y1, y1, y1, y1, y1, y1, y1, y1, y1, n1, y1, y1, y1, n1, y1, y1, y1, y1, y1, y1, y1, y1, n1, n1, n1, n1] ?_ rfl z0 ?_
               ·kernel_rfl
               exact n16_
              exact AEach.nil
             refine AAny.share 8 #[y1, y1, y1, y1, y1, y1, y1, y1, y1, y1, n1, y1, y1, y1, y1, y1, y1, y1, y1, n1, n1, y1, y1, y1, y1, y1, y1, y1, y1, y1, y1, y1, n1, n1, n1, n1, n1] ⟨[(0, q0 v1), (2, .tv (fzL 1 (cSl 1 cStr) v3)), (9, .pc 0 0), (21, tI v40), (22, tI v41), (192, tB true), (195, .pc 0 0), (204, tI v44), (210, .al (.cell 0 0, [])), (211, q0 v1), (217, tS ((gD v3 v41).getD 0 default))], [.cells 85 [k0 v28, k0 v29]]⟩ ?_ fun n5_ => ?_
             ·refine AAny.each [10, 32] (by kernel_rfl) rfl ?_
              refine AEach.step (i := 10) [] #[y1, y1, y1, y1, y1, y1, y1, y1, y1, y1, y1, y1, y1, y1, y1, y1, y1, y1, y1, n1, n1, y1, y1, y1, y1, y1, y1, y1, y1, y1, y1, y1, n1, n1, n1, n1, n1] rfl [0, 2, 9, 21, 22, 192, 196, 204, 210, 211, 217] 1 ⟨[(0, q0 v1), (2, .tv (fzL 1 (cSl 1 cStr) v3)), (9, .pc 0 0), (21, tI v40), (22, tI v41), (192, tB true), (196, .al (.cell 0 0, [])), (204, tI v44), (210, .al (.cell 0 0, [])), (211, q0 v1), (217, tS ((gD v3 v41).getD 0 default))], [.cells 85 [k0 v28, k0 v29]]⟩ ?_ z0 trivial ?_ ?_
              ·kernel_rfl
              ·refine AAny.go (by kernel_rfl) [19] (fuel' := 6) rfl [(0 : Int) ≤ v44, v44 < (v28.length : Int)] #[y1, y1, y1, y1, y1, y1, y1, y1, y1, y1, y1, y1, y1, y1, y1, y1, y1, y1, y1, y1, n1, y1, y1, y1, y1, y1, y1, y1, y1, y1, y1, y1, n1, n1, n1, n1, n1] [0, 2, 9, 21, 22, 192, 205, 210, 211, 217] 1 ⟨[(0, q0 v1), (2, .tv (fzL 1 (cSl 1 cStr) v3)), (9, .pc 0 0), (21, tI v40), (22, tI v41), (192, tB true), (205, .pe (.cell 0 0, []) v44.toNat 0 1), (210, .al (.cell 0 0, [])), (211, q0 v1), (217, tS ((gD v3 v41).getD 0 default))], [.cells 85 [k0 v28, k0 v29]]⟩ ?_ z0 ⟨hd83.1, hd83.2⟩ ?_
               ·kernel_rfl
               exact n6_
              refine AEach.one (i := 32) (AOne.callP (F := (FF 230 0)) _ rfl rfl rfl _ rfl rfl _ _ rfl Try.call33 [q0 v1, tS ((gD v3 v41).getD 0 default)] rfl rfl (f33_ok v1 ((gD v3 v41).getD 0 default) hv45) rfl) ?_ ?_
              ·refine AAny.keepTo [0, 2, 9, 21, 22, 192, 195, 204, 210, 218] 1 ⟨[(0, q0 v1), (2, .tv (fzL 1 (cSl 1 cStr) v3)), (9, .pc 0 0), (21, tI v40), (22, tI v41), (192, tB true), (195, .pc 0 0), (204, tI v44), (210, .al (.cell 0 0, [])), (218, tI v45)], [.cells 85 [k0 v28, k0 v29]]⟩ #[y1, y1, y1, y1, y1, y1, y1, y1, y1, y1, n1, y1, y1, y1, y1, y1, y1, y1, y1, n1, n1, y1, y1, y1, y1, y1, y1, y1, y1, y1, y1, y1, y1, n1, n1, n1, n1] ?_ rfl z0 ?_
               ·kernel_rfl
               refine AAny.go (by kernel_rfl) [33] (fuel' := 6) rfl [(0 : Int) ≤ v45, v45 < (v28.length : Int)] #[y1, y1, y1, y1, y1, y1, y1, y1, y1, y1, n1, y1, y1, y1, y1, y1, y1, y1, y1, n1, n1, y1, y1, y1, y1, y1, y1, y1, y1, y1, y1, y1, y1, y1, n1, n1, n1] [0, 2, 9, 21, 22, 192, 195, 204, 219] 1 ⟨[(0, q0 v1), (2, .tv (fzL 1 (cSl 1 cStr) v3)), (9, .pc 0 0), (21, tI v40), (22, tI v41), (192, tB true), (195, .pc 0 0), (204, tI v44), (219, .pe (.cell 0 0, []) v45.toNat 0 1)], [.cells 85 [k0 v28, k0 v29]]⟩ ?_ z0 ⟨hd84.1, hd84.2⟩ ?_
               ·kernel_rfl
               exact n7_
              exact AEach.nil
             refine AAny.share 8 #[y1, y1, y1, y1, y1, y1, y1, y1, y1, y1, y1, y1, y1, y1, y1, y1, y1, y1, n1, n1, n1, y1, y1, y1, y1, y1, y1, y1, y1, y1, y1, y1, n1, n1, n1, n1, n1] ⟨[(0, q0 v1), (2, .tv (fzL 1 (cSl 1 cStr) v3)), (9, .pc 0 0), (21, tI v40), (22, tI v41), (192, tB true), (196, .al (.cell 0 0, [])), (197, q0 v1), (203, tS ((gD v3 v40).getD 0 default)), (210, .al (.cell 0 0, [])), (211, q0 v1), (217, tS ((gD v3 v41).getD 0 default))], [.cells 85 [k0 v28, k0 v29]]⟩ ?_ fun n4_ => ?_
             ·refine AAny.each [18] (by kernel_rfl) rfl ?_
              refine AEach.one (i := 18) (AOne.callP (F := (FF 230 0)) _ rfl rfl rfl _ rfl rfl _ _ rfl Try.call33 [q0 v1, tS ((gD v3 v40).getD 0 default)] rfl rfl (f33_ok v1 ((gD v3 v40).getD 0 default) hv44) rfl) ?_ ?_
              ·refine AAny.keepTo [0, 2, 9, 21, 22, 192, 196, 204, 210, 211, 217] 1 ⟨[(0, q0 v1), (2, .tv (fzL 1 (cSl 1 cStr) v3)), (9, .pc 0 0), (21, tI v40), (22, tI v41), (192, tB true), (196, .al (.cell 0 0, [])), (204, tI v44), (210, .al (.cell 0 0, [])), (211, q0 v1), (217, tS ((gD v3 v41).getD 0 default))], [.cells 85 [k0 v28, k0 v29]]⟩ #[y1, y1, y1, y1, y1, y1, y1, y1, y1, y1, y1, y1, y1, y1, y1, y1, y1, y1, y1, n1, n1, y1, y1, y1, y1, y1, y1, y1, y1, y1, y1, y1, n1, n1, n1, n1, n1] ?_ rfl z0 ?_
               ·kernel_rfl
               refine AAny.go (by kernel_rfl) [19] (fuel' := 6) rfl [(0 : Int) ≤ v44, v44 < (v28.length : Int)] #[y1, y1, y1, y1, y1, y1, y1, y1, y1, y1, y1, y1, y1, y1, y1, y1, y1, y1, y1, y1, n1, y1, y1, y1, y1, y1, y1, y1, y1, y1, y1, y1, n1, n1, n1, n1, n1] [0, 2, 9, 21, 22, 192, 205, 210, 211, 217] 1 ⟨[(0, q0 v1), (2, .tv (fzL 1 (cSl 1 cStr) v3)), (9, .pc 0 0), (21, tI v40), (22, tI v41), (192, tB true), (205, .pe (.cell 0 0, []) v44.toNat 0 1), (210, .al (.cell 0 0, [])), (211, q0 v1), (217, tS ((gD v3 v41).getD 0 default))], [.cells 85 [k0 v28, k0 v29]]⟩ ?_ z0 ⟨hd83.1, hd83.2⟩ ?_
               ·kernel_rfl
               exact n6_
              exact AEach.nil
             refine AAny.share 8 #[y1, y1, y1, y1, y1, y1, y1, y1, y1, y1, n1, y1, y1, y1, y1, y1, y1, y1, y1, n1, n1, y1, y1, y1, n1, y1, y1, y1, y1, y1, y1, y1, y1, n1, n1, n1, n1] ⟨[(0, q0 v1), (2, .tv (fzL 1 (cSl 1 cStr) v3)), (9, .pc 0 0), (21, tI v40), (22, tI v41), (192, tB true), (195, .pc 0 0), (204, tI v44), (209, .pc 0 0), (218, tI v45)], [.cells 85 [k0 v28, k0 v29]]⟩ ?_ fun n15_ => ?_
             ·refine AAny.each [10, 24] (by kernel_rfl) rfl ?_
              refine AEach.step (i := 10) [] #[y1, y1, y1, y1, y1, y1, y1, y1, y1, y1, y1, y1, y1, y1, y1, y1, y1, y1, y1, n1, n1, y1, y1, y1, n1, y1, y1, y1, y1, y1, y1, y1, y1, n1, n1, n1, n1] rfl [0, 2, 9, 21, 22, 192, 196, 204, 209, 218] 1 ⟨[(0, q0 v1), (2, .tv (fzL 1 (cSl 1 cStr) v3)), (9, .pc 0 0), (21, tI v40), (22, tI v41), (192, tB true), (196, .al (.cell 0 0, [])), (204, tI v44), (209, .pc 0 0), (218, tI v45)], [.cells 85 [k0 v28, k0 v29]]⟩ ?_ z0 trivial ?_ ?_
              ·kernel_rfl
              ·refine AAny.go (by kernel_rfl) [19] (fuel' := 6) rfl [(0 : Int) ≤ v44, v44 < (v28.length : Int)] #[y1, y1, y1, y1, y1, y1, y1, y1, y1, y1, y1, y1, y1, y1, y1, y1, y1, y1, y1, y1, n1, y1, y1, y1, n1, y1, y1, y1, y1, y1, y1, y1, y1, n1, n1, n1, n1] [0, 2, 9, 21, 22, 192, 205, 209, 218] 1 ⟨[(0, q0 v1), (2, .tv (fzL 1 (cSl 1 cStr) v3)), (9, .pc 0 0), (21, tI v40), (22, tI v41), (192, tB true), (205, .pe (.cell 0 0, []) v44.toNat 0 1), (209, .pc 0 0), (218, tI v45)], [.cells 85 [k0 v28, k0 v29]]⟩ ?_ z0 ⟨hd83.1, hd83.2⟩ ?_
               ·kernel_rfl
               exact n16_
              refine AEach.step (i := 24) [] #[y1, y1, y1, y1, y1, y1, y1, y1, y1, y1, n1, y1, y1, y1, y1, y1, y1, y1, y1, n1, n1, y1, y1, y1, y1, y1, y1, y1, y1, y1, y1, y1, y1, n1, n1, n1, n1] rfl [0, 2, 9, 21, 22, 192, 195, 204, 210, 218] 1 ⟨[(0, q0 v1), (2, .tv (fzL 1 (cSl 1 cStr) v3)), (9, .pc 0 0), (21, tI v40), (22, tI v41), (192, tB true), (195, .pc 0 0), (204, tI v44), (210, .al (.cell 0 0, [])), (218, tI v45)], [.cells 85 [k0 v28, k0 v29]]⟩ ?_ z0 trivial ?_ ?_
              ·kernel_rfl
              ·refine AAny.go (by kernel_rfl) [33] (fuel' := 6) rfl [(0 : Int) ≤ v45, v45 < (v28.length : Int)] #[y1, y1, y1, y1, y1, y1, y1, y1, y1, y1, n1, y1, y1, y1, y1, y1, y1, y1, y1, n1, n1, y1, y1, y1, y1, y1, y1, y1, y1, y1, y1, y1, y1, y1, n1, n1, n1] [0, 2, 9, 21, 22, 192, 195, 204, 219] 1 ⟨[(0, q0 v1), (2, .tv (fzL 1 (cSl 1 cStr) v3)), (9, .pc 0 0), (21, tI v40), (22, tI v41), (192, tB true), (195, .pc 0 0), (204, tI v44), (219, .pe (.cell 0 0, []) v45.toNat 0 1)], [.cells 85 [k0 v28, k0 v29]]⟩ ?_ z0 ⟨hd84.1, hd84.2⟩ ?_
               ·kernel_rfl
               exact n7_
              exact AEach.nil
             refine AAny.share 9 #[y1, y1, y1, y1, y1, y1, y1, y1, y1, y1, n1, y1, y1, y1, y1, y1, y1, y1, n1, n1, n1, y1, y1, y1, y1, y1, y1, y1, y1, y1, y1, y1, n1, n1, n1, n1, n1] ⟨[(0, q0 v1), (2, .tv (fzL 1 (cSl 1 cStr) v3)), (9, .pc 0 0), (21, tI v40), (22, tI v41), (192, tB true), (195, .pc 0 0), (197, q0 v1), (203, tS ((gD v3 v40).getD 0 default)), (210, .al (.cell 0 0, [])), (211, q0 v1), (217, tS ((gD v3 v41).getD 0 default))], [.cells 85 [k0 v28, k0 v29]]⟩ ?_ fun n3_ => ?_
             ·refine AAny.each [10, 18] (by kernel_rfl) rfl ?_
              refine AEach.step (i := 10) [] #[y1, y1, y1, y1, y1, y1, y1, y1, y1, y1, y1, y1, y1, y1, y1, y1, y1, y1, n1, n1, n1, y1, y1, y1, y1, y1, y1, y1, y1, y1, y1, y1, n1, n1, n1, n1, n1] rfl [0, 2, 9, 21, 22, 192, 196, 197, 203, 210, 211, 217] 1 ⟨[(0, q0 v1), (2, .tv (fzL 1 (cSl 1 cStr) v3)), (9, .pc 0 0), (21, tI v40), (22, tI v41), (192, tB true), (196, .al (.cell 0 0, [])), (197, q0 v1), (203, tS ((gD v3 v40).getD 0 default)), (210, .al (.cell 0 0, [])), (211, q0 v1), (217, tS ((gD v3 v41).getD 0 default))], [.cells 85 [k0 v28, k0 v29]]⟩ ?_ z0 trivial ?_ ?_
              ·kernel_rfl
              ·exact n4_
              refine AEach.one (i := 18) (AOne.callP (F := (FF 230 0)) _ rfl rfl rfl _ rfl rfl _ _ rfl Try.call33 [q0 v1, tS ((gD v3 v40).getD 0 default)] rfl rfl (f33_ok v1 ((gD v3 v40).getD 0 default) hv44) rfl) ?_ ?_
              ·refine AAny.keepTo [0, 2, 9, 21, 22, 192, 195, 204, 210, 211, 217] 1 ⟨[(0, q0 v1), (2, .tv (fzL 1 (cSl 1 cStr) v3)), (9, .pc 0 0), (21, tI v40), (22, tI v41), (192, tB true), (195, .pc 0 0), (204, tI v44), (210, .al (.cell 0 0, [])), (211, q0 v1), (217, tS ((gD v3 v41).getD 0 default))], [.cells 85 [k0 v28, k0 v29]]⟩ #[y1, y1, y1, y1, y1, y1, y1, y1, y1, y1, n1, y1, y1, y1, y1, y1, y1, y1, y1, n1, n1, y1, y1, y1, y1, y1, y1, y1, y1, y1, y1, y1, n1, n1, n1, n1, n1] ?_ rfl z0 ?_
               ·kernel_rfl
               exact n5_
              exact AEach.nil
             refine AAny.share 9 #[y1, y1, y1, y1, y1, y1, y1, y1, y1, y1, n1, y1, y1, y1, y1, y1, y1, y1, y1, n1, n1, y1, y1, y1, n1, y1, y1, y1, y1, y1, y1, y1, n1, n1, n1, n1, n1] ⟨[(0, q0 v1), (2, .tv (fzL 1 (cSl 1 cStr) v3)), (9, .pc 0 0), (21, tI v40), (22, tI v41), (192, tB true), (195, .pc 0 0), (204, tI v44), (209, .pc 0 0), (211, q0 v1), (217, tS ((gD v3 v41).getD 0 default))], [.cells 85 [k0 v28, k0 v29]]⟩ ?_ fun n2_ => ?_
             ·refine AAny.each [10, 24, 32] (by kernel_rfl) rfl ?_
              refine AEach.step (i := 10) [] #[y1, y1, y1, y1, y1, y1, y1, y1, y1, y1, y1, y1, y1, y1, y1, y1, y1, y1, y1, n1, n1, y1, y1, y1, n1, y1, y1, y1, y1, y1, y1, y1, n1, n1, n1, n1, n1] rfl [0, 2, 9, 21, 22, 192, 196, 204, 209, 211, 217] 1 ⟨[(0, q0 v1), (2, .tv (fzL 1 (cSl 1 cStr) v3)), (9, .pc 0 0), (21, tI v40), (22, tI v41), (192, tB true), (196, .al (.cell 0 0, [])), (204, tI v44), (209, .pc 0 0), (211, q0 v1), (217, tS ((gD v3 v41).getD 0 default))], [.cells 85 [k0 v28, k0 v29]]⟩ ?_ z0 trivial ?_ ?_
              ·kernel_rfl
              ·refine AAny.go (by kernel_rfl) [19] (fuel' := 7) rfl [(0 : Int) ≤ v44, v44 < (v28.length : Int)] #[y1, y1, y1, y1, y1, y1, y1, y1, y1, y1, y1, y1, y1, y1, y1, y1, y1, y1, y1, y1, n1, y1, y1, y1, n1, y1, y1, y1, y1, y1, y1, y1, n1, n1, n1, n1, n1] [0, 2, 9, 21, 22, 192, 205, 209, 211, 217] 1 ⟨[(0, q0 v1), (2, .tv (fzL 1 (cSl 1 cStr) v3)), (9, .pc 0 0), (21, tI v40), (22, tI v41), (192, tB true), (205, .pe (.cell 0 0, []) v44.toNat 0 1), (209, .pc 0 0), (211, q0 v1), (217, tS ((gD v3 v41).getD 0 default))], [.cells 85 [k0 v28, k0 v29]]⟩ ?_ z0 ⟨hd83.1, hd83.2⟩ ?_
               ·kernel_rfl
               exact n14_
              refine AEach.step (i := 24) [] #[y1, y1, y1, y1, y1, y1, y1, y1, y1, y1, n1, y1, y1, y1, y1, y1, y1, y1, y1, n1, n1, y1, y1, y1, y1, y1, y1, y1, y1, y1, y1, y1, n1, n1, n1, n1, n1] rfl [0, 2, 9, 21, 22, 192, 195, 204, 210, 211, 217] 1 ⟨[(0, q0 v1), (2, .tv (fzL 1 (cSl 1 cStr) v3)), (9, .pc 0 0), (21, tI v40), (22, tI v41), (192, tB true), (195, .pc 0 0), (204, tI v44), (210, .al (.cell 0 0, [])), (211, q0 v1), (217, tS ((gD v3 v41).getD 0 default))], [.cells 85 [k0 v28, k0 v29]]⟩ ?_ z0 trivial ?_ ?_
              ·kernel_rfl
              ·exact n5_
              refine AEach.one (i := 32) (AOne.callP (F := (FF 230 0)) _ rfl rfl rfl _ rfl rfl _ _ rfl Try.call33 [q0 v1, tS ((gD v3 v41).getD 0 default)] rfl rfl (f33_ok v1 ((gD v3 v41).getD 0 default) hv45) rfl) ?_ ?_
              ·refine AAny.keepTo [0, 2, 9, 21, 22, 192, 195, 204, 209, 218] 1 ⟨[(0, q0 v1), (2, .tv (fzL 1 (cSl 1 cStr) v3)), (9, .pc 0 0), (21, tI v40), (22, tI v41), (192, tB true), (195, .pc 0 0), (204, tI v44), (209, .pc 0 0), (218, tI v45)], [.cells 85 [k0 v28, k0 v29]]⟩ #[y1, y1, y1, y1, y1, y1, y1, y1, y1, y1, n1, y1, y1, y1, y1, y1, y1, y1, y1, n1, n1, y1, y1, y1, n1, y1, y1, y1, y1, y1, y1, y1, y1, n1, n1, n1, n1] ?_ rfl z0 ?_
               ·kernel_rfl
               exact n15_
              exact AEach.nil
             refine AAny.share 9 #[y1, y1, y1, y1, y1, y1, y1, y1, y1, y1, y1, y1, y1, y1, y1, y1, y1, y1, n1, n1, n1, y1, y1, y1, n1, y1, y1, y1, y1, y1, y1, y1, n1, n1, n1, n1, n1] ⟨[(0, q0 v1), (2, .tv (fzL 1 (cSl 1 cStr) v3)), (9, .pc 0 0), (21, tI v40), (22, tI v41), (192, tB true), (196, .al (.cell 0 0, [])), (197, q0 v1), (203, tS ((gD v3 v40).getD 0 default)), (209, .pc 0 0), (211, q0 v1), (217, tS ((gD v3 v41).getD 0 default))], [.cells 85 [k0 v28, k0 v29]]⟩ ?_ fun n1_ => ?_
             ·refine AAny.each [18, 24] (by kernel_rfl) rfl ?_
              refine AEach.one (i := 18) (AOne.callP (F := (FF 230 0)) _ rfl rfl rfl _ rfl rfl _ _ rfl Try.call33 [q0 v1, tS ((gD v3 v40).getD 0 default)] rfl rfl (f33_ok v1 ((gD v3 v40).getD 0 default) hv44) rfl) ?_ ?_
              ·refine AAny.keepTo [0, 2, 9, 21, 22, 192, 196, 204, 209, 211, 217] 1 ⟨[(0, q0 v1), (2, .tv (fzL 1 (cSl 1 cStr) v3)), (9, .pc 0 0), (21, tI v40), (22, tI v41), (192, tB true), (196, .al (.cell 0 0, [])), (204, tI v44), (209, .pc 0 0), (211, q0 v1), (217, tS ((gD v3 v41).getD 0 default))], [.cells 85 [k0 v28, k0 v29]]⟩ #[y1, y1, y1, y1, y1, y1, y1, y1, y1, y1, y1, y1, y1, y1, y1, y1, y1, y1, y1, n1, n1, y1, y1, y1, n1, y1, y1, y1, y1, y1, y1, y1, n1, n1, n1, n1, n1] ?_ rfl z0 ?_
               ·kernel_rfl
               refine AAny.go (by kernel_rfl) [19] (fuel' := 7) rfl [(0 : Int) ≤ v44, v44 < (v28.length : Int)] #[y1, y1, y1, y1, y1, y1, y1, y1, y1, y1, y1, y1, y1, y1, y1, y1, y1, y1, y1, y1, n1, y1, y1, y1, n1, y1, y1, y1, y1, y1, y1, y1, n1, n1, n1, n1, n1] [0, 2, 9, 21, 22, 192, 205, 209, 211, 217] 1 ⟨[(0, q0 v1), (2, .tv (fzL 1 (cSl 1 cStr) v3)), (9, .pc 0 0), (21, tI v40), (22, tI v41), (192, tB true), (205, .pe (.cell 0 0, []) v44.toNat 0 1), (209, .pc 0 0), (211, q0 v1), (217, tS ((gD v3 v41).getD 0 default))], [.cells 85 [k0 v28, k0 v29]]⟩ ?_ z0 ⟨hd83.1, hd83.2⟩ ?_
               ·kernel_rfl
               exact n14_
              refine AEach.step (i := 24) [] #[y1, y1, y1, y1, y1, y1, y1, y1, y1, y1, y1, y1, y1, y1, y1, y1, y1, y1, n1, n1, n1, y1, y1, y1, y1, y1, y1, y1, y1, y1, y1, y1, n1, n1, n1, n1, n1] rfl [0, 2, 9, 21, 22, 192, 196, 197, 203, 210, 211, 217] 1 ⟨[(0, q0 v1), (2, .tv (fzL 1 (cSl 1 cStr) v3)), (9, .pc 0 0), (21, tI v40), (22, tI v41), (192, tB true), (196, .al (.cell 0 0, [])), (197, q0 v1), (203, tS ((gD v3 v40).getD 0 default)), (210, .al (.cell 0 0, [])), (211, q0 v1), (217, tS ((gD v3 v41).getD 0 default))], [.cells 85 [k0 v28, k0 v29]]⟩ ?_ z0 trivial ?_ ?_
              ·kernel_rfl
              ·exact n4_
              exact AEach.nil
             refine AAny.each [10, 18, 24] (by kernel_rfl) rfl ?_
             refine AEach.step (i := 10) [] #[y1, y1, y1, y1, y1, y1, y1, y1, y1, y1, y1, y1, y1, y1, y1, y1, y1, y1, n1, n1, n1, y1, y1, y1, n1, y1, y1, y1, y1, y1, y1, y1, n1, n1, n1, n1, n1] rfl [0, 2, 9, 21, 22, 192, 196, 197, 203, 209, 211, 217] 1 ⟨[(0, q0 v1), (2, .tv (fzL 1 (cSl 1 cStr) v3)), (9, .pc 0 0), (21, tI v40), (22, tI v41), (192, tB true), (196, .al (.cell 0 0, [])), (197, q0 v1), (203, tS ((gD v3 v40).getD 0 default)), (209, .pc 0 0), (211, q0 v1), (217, tS ((gD v3 v41).getD 0 default))], [.cells 85 [k0 v28, k0 v29]]⟩ ?_ z0 trivial ?_ ?_
             ·kernel_rfl
             ·exact n1_
             refine AEach.one (i := 18) (AOne.callP (F := (FF 230 0)) _ rfl rfl rfl _ rfl rfl _ _ rfl Try.call33 [q0 v1, tS ((gD v3 v40).getD 0 default)] rfl rfl (f33_ok v1 ((gD v3 v40).getD 0 default) hv44) rfl) ?_ ?_
             ·refine AAny.keepTo [0, 2, 9, 21, 22, 192, 195, 204, 209, 211, 217] 1 ⟨[(0, q0 v1), (2, .tv (fzL 1 (cSl 1 cStr) v3)), (9, .pc 0 0), (21, tI v40), (22, tI v41), (192, tB true), (195, .pc 0 0), (204, tI v44), (209, .pc 0 0), (211, q0 v1), (217, tS ((gD v3 v41).getD 0 default))], [.cells 85 [k0 v28, k0 v29]]⟩ #[y1, y1, y1, y1, y1, y1, y1, y1, y1, y1, n1, y1, y1, y1, y1, y1, y1, y1, y1, n1, n1, y1, y1, y1, n1, y1, y1, y1, y1, y1, y1, y1, n1, n1, n1, n1, n1] ?_ rfl z0 ?_
              ·kernel_rfl
              exact n2_
             refine AEach.step (i := 24) [] #[y1, y1, y1, y1, y1, y1, y1, y1, y1, y1, n1, y1, y1, y1, y1, y1, y1, y1, n1, n1, n1, y1, y1, y1, y1, y1, y1, y1, y1, y1, y1, y1, n1, n1, n1, n1, n1] rfl [0, 2, 9, 21, 22, 192, 195, 197, 203, 210, 211, 217] 1 ⟨[(0, q0 v1), (2, .tv (fzL 1 (cSl 1 cStr) v3)), (9, .pc 0 0), (21, tI v40), (22, tI v41), (192, tB true), (195, .pc 0 0), (197, q0 v1), (203, tS ((gD v3 v40).getD 0 default)), (210, .al (.cell 0 0, [])), (211, q0 v1), (217, tS ((gD v3 v41).getD 0 default))], [.cells 85 [k0 v28, k0 v29]]⟩ ?_ z0 trivial ?_ ?_
             ·kernel_rfl
             ·exact n3_
             exact AEach.nil
            ·replace hd := of_false hd hb
             refine AAny.go (by kernel_rfl) [7, 8, 9, 10, 11, 12, 13, 14, 15, 16, 17, 18, 19, 20, 21, 22, 23, 24, 25, 26, 27, 28, 29, 30, 31, 32, 33, 34, 35, 36] (fuel' := 0) rfl [] #[y1, y1, y1, y1, y1, y1, y1, y1, y1, y1, y1, y1, y1, y1, y1, y1, y1, y1, y1, y1, y1, y1, y1, y1, y1, y1, y1, y1, y1, y1, y1, y1, y1, y1, y1, y1, y1] [0, 2, 9, 21, 22, 222] 1 ⟨[(0, q0 v1), (2, .tv (fzL 1 (cSl 1 cStr) v3)), (9, .pc 0 0), (21, tI v40), (22, tI v41), (222, tB false)], [.cells 85 [k0 v28, k0 v29]]⟩ ?_ z0 trivial ?_
             ·kernel_rfl
             refine AAny.keepTo [0, 2, 9, 21, 22, 222] 1 ⟨[(0, q0 v1), (2, .tv (fzL 1 (cSl 1 cStr) v3)), (9, .pc 0 0), (21, tI v40), (22, tI v41), (222, tB false)], [.cells 85 [k0 v28, k0 v29]]⟩ _ ?_ rfl z0 (AAny.done (by kernel_rfl) ?_)
             ·kernel_rfl
             cases hd
             exact rfl
           rintro σ' rfl
           refine AWp.cond rfl (fun hb => ?_) fun hb => ?_
           ·replace h := of_true h hb
            refine AWp.keepTo [2, 21] 0 ⟨[(2, .tv (fzL 1 (cSl 1 cStr) v3)), (21, tI v40)], []⟩ ?_ z0 ?_
            ·kernel_rfl
            refine AWp.seq ?_
            refine AWp.draw FFm _ (n := 9) rfl (ls := #[n1, n1, n1, n1, n1, n1, n1, n1, n1]) rfl ?_ (fun _ h => h)
            obtain ⟨hg, h⟩ := of_guard h
            refine AAny.go (by kernel_rfl) [0, 1, 2, 3, 4, 5, 6, 7, 8] (fuel' := 0) rfl [(0 : Int) ≤ v40, v40 < (v3.length : Int), (0 : Int) ≤ (0 : Int), (0 : Int) < ((gD v3 v40).length : Int)] #[y1, y1, y1, y1, y1, y1, y1, y1, y1] [6, 7, 8] 0 ⟨[(6, .tv (.sc (.pointer none))), (7, tS ((gD v3 v40).getD 0 default)), (8, tB false)], []⟩ ?_ z0 ⟨hg.1, hg.2.1, (by decide : (0 : Int) ≤ (0 : Int)), hg.2.2⟩ ?_
            ·kernel_rfl
            refine AAny.keepTo [6, 7, 8] 0 ⟨[(6, .tv (.sc (.pointer none))), (7, tS ((gD v3 v40).getD 0 default)), (8, tB false)], []⟩ _ ?_ rfl z0 (AAny.done (by kernel_rfl) ?_)
            ·kernel_rfl
            refine AWp.ret ?_
            cases h
            exact Or.inr ⟨_, rfl, by simp, rfl, rfl⟩
           ·replace h := of_false h hb
            refine AWp.keepTo [0, 2, 9, 21, 22] 1 ⟨[(0, q0 v1), (2, .tv (fzL 1 (cSl 1 cStr) v3)), (9, .pc 0 0), (21, tI v40), (22, tI v41)], [.cells 85 [k0 v28, k0 v29]]⟩ ?_ z0 ?_
            ·kernel_rfl
            refine AWp.skip ?_
            refine AWp.start [0, 1, 2] [] [] [0, 2, 9, 21, 22] 1 ⟨[(0, q0 v1), (2, .tv (fzL 1 (cSl 1 cStr) v3)), (9, .pc 0 0), (21, tI v40), (22, tI (w64 (v41 + (1 : Int))))], [.cells 85 [k0 v28, k0 v29]]⟩ rfl ?_ z0 trivial ?_
            ·kernel_rfl
            refine AOps.nil ?_
            cases h
            exact Or.inl ⟨_, rfl, rfl, rfl⟩
          ·replace h := of_false h hb
           refine AWp.keepTo [0, 2, 9, 21] 1 ⟨[(0, q0 v1), (2, .tv (fzL 1 (cSl 1 cStr) v3)), (9, .pc 0 0), (21, tI v40)], [.cells 85 [k0 v28, k0 v29]]⟩ ?_ z0 ?_
           ·kernel_rfl
           refine AWp.exit ?_
           cases h
           exact Or.inr ⟨_, rfl, by simp, rfl, rfl⟩
         ·intro e σ hp
          rcases y with v46 | _
          ·obtain ⟨rfl, rfl⟩ := hp
           cases h
           exact Or.inr ⟨_, rfl, by simp, rfl, rfl⟩
          ·obtain ⟨rfl, rfl⟩ := hp
           refine AWp.start [0, 1, 2] [] [] [0, 2, 9, 21] 1 ⟨[(0, q0 v1), (2, .tv (fzL 1 (cSl 1 cStr) v3)), (9, .pc 0 0), (21, tI (w64 (v40 + (1 : Int))))], [.cells 85 [k0 v28, k0 v29]]⟩ rfl ?_ z0 trivial ?_
           ·kernel_rfl
           refine AOps.nil ?_
           cases h
           exact Or.inl ⟨_, rfl, rfl, rfl⟩
        ·replace h := of_false h hb
         refine AWp.keepTo [9] 1 ⟨[(9, .pc 0 0)], [.cells 85 [k0 v28, k0 v29]]⟩ ?_ z0 ?_
         ·kernel_rfl
         refine AWp.exit ?_
         cases h
         exact Or.inr ⟨_, rfl, by simp, rfl, rfl⟩
       ·intro e σ hp
        rcases y with v47 | _
        ·obtain ⟨rfl, rfl⟩ := hp
         cases h
         exact ⟨.inr rfl, rfl⟩
        ·obtain ⟨rfl, rfl⟩ := hp
         refine AWp.seq ?_
         refine AWp.start [0, 1, 2, 3] [] [] [6, 7, 8] 1 ⟨[(6, .pc 0 0), (7, tS ([] : List UInt8)), (8, tB true)], [.cells 85 [k0 v28, k0 v29]]⟩ rfl ?_ z0 trivial ?_
         ·kernel_rfl
         refine AOps.nil ?_
         refine AWp.ret ?_
         cases h
         exact ⟨.inr rfl, rfl⟩

end Go.Sx.sto
