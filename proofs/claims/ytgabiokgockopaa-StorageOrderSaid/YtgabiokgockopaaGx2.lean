/- Printed by program (wip/gen): plain functions and their walks; no condition. -/
import Derived.Test.YtgabiokgockopaaGx1
namespace Go.Sx.sto
open Go Go.Sx Go.Proofs

noncomputable def f11_j1 (v1 : List T36) (v5 : T57) (v8 : List Int) (v11 : Int) (v14 : List Int) (v15 : List (Int × Int)) (v16 : Int) : Option (((List Int) × (List Int) × (List (Int × Int)) × Int) ⊕ Out ((List Int) × (List Int) × (List Int) × Int) ((List Int) × (List Int))) :=
 if (v8.length + [v16].length) * 8 ≤ 140737488355328 then if (0 : Int) ≤ v16 ∧ v16 < (v14.length : Int) ∧ (0 : Int) ≤ v11 ∧ v11 < (v1.length : Int) then if (0 : Int) ≤ v11 ∧ v11 < (v5.f2.length : Int) then (f25 (v1.getD v11.toNat default)).bind fun v17 => if (0 : Int) ≤ v16 ∧ v16 < (v14.length : Int) then some (.inl (v8 ++ [v16], v14.set v16.toNat (if w64 ((v5.f2.getD v11.toNat default) + v17) > v14.getD v16.toNat default then w64 ((v5.f2.getD v11.toNat default) + v17) else v14.getD v16.toNat default), v15, w64 (v11 + (1 : Int)))) else none else none else none else none

noncomputable def f11_b2 (v1 : List T36) (v5 : T57) (v8 : List Int) (v9 : List Int) (v10 : List (Int × Int)) (v11 : Int) : Option (((List Int) × (List Int) × (List (Int × Int)) × Int) ⊕ Out ((List Int) × (List Int) × (List Int) × Int) ((List Int) × (List Int))) :=
 cond (decide (v11 < (v5.f1.length : Int))) (if (0 : Int) ≤ v11 ∧ v11 < (v5.f1.length : Int) then cond (!(mhas v10 (v5.f1.getD v11.toNat default))) (if (v9.length + [(0 : Int)].length) * 8 ≤ 140737488355328 then f11_j1 v1 v5 v8 v11 (v9 ++ [(0 : Int)]) (mset v10 (v5.f1.getD v11.toNat default) (v9.length : Int)) (v9.length : Int) else none) (f11_j1 v1 v5 v8 v11 v9 v10 (mget v10 (v5.f1.getD v11.toNat default))) else none) (some (.inr (.go (v8, v9))))

noncomputable def f11 (v1 : List T36) (v2 : List (List T34)) (v3 : List (List (List UInt8))) : Option ((List Int) × (List Int) × (List Int) × Int) :=
 (f24 v1 v2 v3).bind fun v4 => match v4 with | (none, v6, v7) => cond (v7 != (0 : Int)) (some (([] : List Int), ([] : List Int), ([] : List Int), v7)) none | (some v5, v6, v7) => cond (v7 != (0 : Int)) (some (([] : List Int), ([] : List Int), ([] : List Int), v7)) ((iter (fun s => f11_b2 v1 v5 s.1 s.2.1 s.2.2.1 s.2.2.2) ([], [], ([] : List (Int × Int)), (0 : Int))).bind fun y => match y with | .ret v18 => some (v18.1, v18.2.1, v18.2.2.1, v18.2.2.2) | .go (v12, v13) => (f26 v5.f2).bind fun v19 => some (v12, v19, v13, (0 : Int)))

theorem f11_ok (v1 : List T36) (v2 : List (List T34)) (v3 : List (List (List UInt8))) {r : (List Int) × (List Int) × (List Int) × Int} (h : f11 v1 v2 v3 = some r) : ACall Try.prog 11 [.tv (fzL 3 c36 v1), .tv (fzL 1 (cSl 2 c34) v2), .tv (fzL 1 (cSl 1 cStr) v3)] [] (.tup [.tv (fzL 1 (cInt .i64) r.1), .tv (fzL 1 (cInt .i64) r.2.1), .tv (fzL 1 (cInt .i64) r.2.2.1), .tv (.int .i64 r.2.2.2)]) [] := by
 refine ACall.ofN (FF 89 0) (rs := [6, 7, 8, 9]) (env := [(6, q1 r.1), (7, q1 r.2.1), (8, q1 r.2.2.1), (9, tI r.2.2.2)]) Try.func11 rfl Try.ntmps11 Try.results11 (by decide) (by decide) rfl (Nat.le_of_ble_eq_true rfl) rfl (get_ofN _ _ _ rfl) (ok_ofN _ rfl) ?_
 refine AWp.seq ?_
 refine AWp.start [0, 1, 2, 3] [] [] [0, 1, 2, 6, 8] 0 ⟨[(0, q0 v1), (1, .tv (fzL 1 (cSl 2 c34) v2)), (2, .tv (fzL 1 (cSl 1 cStr) v3)), (6, .tv (.sc (.slice none 0 0))), (8, .tv (.sc (.slice none 0 0)))], []⟩ rfl ?_ z0 trivial ?_
 ·kernel_rfl
 refine AOps.nil ?_
 refine AWp.seq ?_
 refine AWp.start [0, 1, 2] [3, 4, 5, 6, 7, 8, 9, 10] [] [0, 6, 8, 19, 20, 21] 0 ⟨[(0, q0 v1), (6, .tv (.sc (.slice none 0 0))), (8, .tv (.sc (.slice none 0 0))), (19, q0 v1), (20, .tv (fzL 1 (cSl 2 c34) v2)), (21, .tv (fzL 1 (cSl 1 cStr) v3))], []⟩ rfl ?_ z0 trivial ?_
 ·kernel_rfl
 obtain ⟨v4, hv4, h⟩ := of_bind h
 rcases v4 with ⟨(_ | v5), v6, v7⟩
 ·replace h : (cond (v7 != (0 : Int)) (some (([] : List Int), ([] : List Int), ([] : List Int), v7)) none) = some r := h
  refine AOps.cons (AOne.callO (F := (FF 89 0)) _ rfl rfl rfl 22 rfl rfl 24 [] rfl Try.call24 [] (by decide) [q0 v1, .tv (fzL 1 (cSl 2 c34) v2), .tv (fzL 1 (cSl 1 cStr) v3)] (by kernel_rfl) [] (by kernel_rfl) (f24_ok v1 v2 v3 hv4) (by kernel_rfl) (by kernel_rfl) _ rfl) ?_
  refine AOps.go [4, 5, 6, 7, 8, 9, 10] [] [] [0, 6, 8, 10, 12] 0 ⟨[(0, q0 v1), (6, .tv (.sc (.slice none 0 0))), (8, .tv (.sc (.slice none 0 0))), (10, .tv (.sc (.pointer none))), (12, tI v7)], []⟩ ?_ z0 trivial ?_
  ·kernel_rfl
  refine AOps.nil ?_
  refine AWp.seq ?_
  refine AWp.seq ?_
  refine AWp.start [0, 1] [] [] [0, 6, 8, 10, 12, 27] 0 ⟨[(0, q0 v1), (6, .tv (.sc (.slice none 0 0))), (8, .tv (.sc (.slice none 0 0))), (10, .tv (.sc (.pointer none))), (12, tI v7), (27, tB (v7 != (0 : Int)))], []⟩ rfl ?_ z0 trivial ?_
  ·kernel_rfl
  refine AOps.nil ?_
  refine AWp.cond rfl (fun hb => ?_) fun hb => ?_
  ·replace h := of_true h hb
   refine AWp.keepTo [12] 0 ⟨[(12, tI v7)], []⟩ ?_ z0 ?_
   ·kernel_rfl
   refine AWp.seq ?_
   refine AWp.start [0, 1, 2, 3, 4] [] [] [6, 7, 8, 9] 0 ⟨[(6, .tv (.sc (.slice none 0 0))), (7, .tv (.sc (.slice none 0 0))), (8, .tv (.sc (.slice none 0 0))), (9, tI v7)], []⟩ rfl ?_ z0 trivial ?_
   ·kernel_rfl
   refine AOps.nil ?_
   refine AWp.nilFz 6 1 (fun i => (cInt .i64) (([] : List Int).getD i default)) rfl ?_
   refine AWp.nilFz 7 1 (fun i => (cInt .i64) (([] : List Int).getD i default)) rfl ?_
   refine AWp.nilFz 8 1 (fun i => (cInt .i64) (([] : List Int).getD i default)) rfl ?_
   refine AWp.keepTo [6, 7, 8, 9] 0 ⟨[(6, q1 ([] : List Int)), (7, q1 ([] : List Int)), (8, q1 ([] : List Int)), (9, tI v7)], []⟩ ?_ z0 ?_
   ·kernel_rfl
   refine AWp.ret ?_
   cases h
   exact ⟨.inr rfl, rfl⟩
  ·replace h := of_false h hb
   refine AWp.keepTo [0, 6, 8, 10] 0 ⟨[(0, q0 v1), (6, .tv (.sc (.slice none 0 0))), (8, .tv (.sc (.slice none 0 0))), (10, .tv (.sc (.pointer none)))], []⟩ ?_ z0 ?_
   ·kernel_rfl
   refine AWp.skip ?_
   refine AWp.seq ?_
   refine AWp.start [0, 1] [] [] [0, 6, 8, 10, 13] 0 ⟨[(0, q0 v1), (6, .tv (.sc (.slice none 0 0))), (8, .tv (.sc (.slice none 0 0))), (10, .tv (.sc (.pointer none))), (13, .tv (.mp .i64 (some .i64) ([] : List (Int × Int))))], []⟩ rfl ?_ z0 trivial ?_
   ·kernel_rfl
   refine AOps.nil ?_
   refine AWp.seq ?_
   refine AWp.seq ?_
   cases h
 ·replace h : (cond (v7 != (0 : Int)) (some (([] : List Int), ([] : List Int), ([] : List Int), v7)) ((iter (fun s => f11_b2 v1 v5 s.1 s.2.1 s.2.2.1 s.2.2.2) ([], [], ([] : List (Int × Int)), (0 : Int))).bind fun y => match y with | .ret v18 => some (v18.1, v18.2.1, v18.2.2.1, v18.2.2.2) | .go (v12, v13) => (f26 v5.f2).bind fun v19 => some (v12, v19, v13, (0 : Int)))) = some r := h
  refine AOps.cons (AOne.callO (F := (FF 89 0)) _ rfl rfl rfl 22 rfl rfl 24 [] rfl Try.call24 [] (by decide) [q0 v1, .tv (fzL 1 (cSl 2 c34) v2), .tv (fzL 1 (cSl 1 cStr) v3)] (by kernel_rfl) [] (by kernel_rfl) (f24_ok v1 v2 v3 hv4) (by kernel_rfl) (by kernel_rfl) _ rfl) ?_
  refine AOps.go [4, 5, 6, 7, 8, 9, 10] [] [] [0, 6, 8, 10, 12] 1 ⟨[(0, q0 v1), (6, .tv (.sc (.slice none 0 0))), (8, .tv (.sc (.slice none 0 0))), (10, .pc 0 0), (12, tI v7)], [.cells 58 [k1 v5.f0, k0 v5.f1, k0 v5.f2]]⟩ ?_ z0 trivial ?_
  ·kernel_rfl
  refine AOps.nil ?_
  refine AWp.seq ?_
  refine AWp.seq ?_
  refine AWp.start [0, 1] [] [] [0, 6, 8, 10, 12, 27] 1 ⟨[(0, q0 v1), (6, .tv (.sc (.slice none 0 0))), (8, .tv (.sc (.slice none 0 0))), (10, .pc 0 0), (12, tI v7), (27, tB (v7 != (0 : Int)))], [.cells 58 [k1 v5.f0, k0 v5.f1, k0 v5.f2]]⟩ rfl ?_ z0 trivial ?_
  ·kernel_rfl
  refine AOps.nil ?_
  refine AWp.cond rfl (fun hb => ?_) fun hb => ?_
  ·replace h := of_true h hb
   refine AWp.keepTo [12] 0 ⟨[(12, tI v7)], []⟩ ?_ z0 ?_
   ·kernel_rfl
   refine AWp.seq ?_
   refine AWp.start [0, 1, 2, 3, 4] [] [] [6, 7, 8, 9] 0 ⟨[(6, .tv (.sc (.slice none 0 0))), (7, .tv (.sc (.slice none 0 0))), (8, .tv (.sc (.slice none 0 0))), (9, tI v7)], []⟩ rfl ?_ z0 trivial ?_
   ·kernel_rfl
   refine AOps.nil ?_
   refine AWp.nilFz 6 1 (fun i => (cInt .i64) (([] : List Int).getD i default)) rfl ?_
   refine AWp.nilFz 7 1 (fun i => (cInt .i64) (([] : List Int).getD i default)) rfl ?_
   refine AWp.nilFz 8 1 (fun i => (cInt .i64) (([] : List Int).getD i default)) rfl ?_
   refine AWp.keepTo [6, 7, 8, 9] 0 ⟨[(6, q1 ([] : List Int)), (7, q1 ([] : List Int)), (8, q1 ([] : List Int)), (9, tI v7)], []⟩ ?_ z0 ?_
   ·kernel_rfl
   refine AWp.ret ?_
   cases h
   exact ⟨.inr rfl, rfl⟩
  ·replace h := of_false h hb
   refine AWp.keepTo [0, 6, 8, 10] 1 ⟨[(0, q0 v1), (6, .tv (.sc (.slice none 0 0))), (8, .tv (.sc (.slice none 0 0))), (10, .pc 0 0)], [.cells 58 [k1 v5.f0, k0 v5.f1, k0 v5.f2]]⟩ ?_ z0 ?_
   ·kernel_rfl
   refine AWp.skip ?_
   refine AWp.seq ?_
   refine AWp.start [0, 1] [] [] [0, 6, 8, 10, 13] 1 ⟨[(0, q0 v1), (6, .tv (.sc (.slice none 0 0))), (8, .tv (.sc (.slice none 0 0))), (10, .pc 0 0), (13, .tv (.mp .i64 (some .i64) ([] : List (Int × Int))))], [.cells 58 [k1 v5.f0, k0 v5.f1, k0 v5.f2]]⟩ rfl ?_ z0 trivial ?_
   ·kernel_rfl
   refine AOps.nil ?_
   refine AWp.seq ?_
   refine AWp.seq ?_
   refine AWp.start [0, 1, 2, 3, 4, 5] [] [] [0, 6, 8, 10, 13, 33, 34, 35] 1 ⟨[(0, q0 v1), (6, .tv (.sc (.slice none 0 0))), (8, .tv (.sc (.slice none 0 0))), (10, .pc 0 0), (13, .tv (.mp .i64 (some .i64) ([] : List (Int × Int)))), (33, .al (.cell 0 1, [])), (34, tI (v5.f1.length : Int)), (35, tI (0 : Int))], [.cells 58 [k1 v5.f0, k0 v5.f1, k0 v5.f2]]⟩ rfl ?_ z0 trivial ?_
   ·kernel_rfl
   refine AOps.nil ?_
   refine AWp.block ?_
   refine AWp.nilOwn 6 1 3 (fun i => (cInt .i64) (([] : List Int).getD i default)) rfl ?_
   refine AWp.nilOwn 8 1 3 (fun i => (cInt .i64) (([] : List Int).getD i default)) rfl ?_
   refine AWp.keepTo [0, 6, 8, 10, 13, 33, 34, 35] 1 ⟨[(0, q0 v1), (6, q2 ([] : List Int)), (8, q2 ([] : List Int)), (10, .pc 0 0), (13, .tv (.mp .i64 (some .i64) ([] : List (Int × Int)))), (33, .al (.cell 0 1, [])), (34, tI (v5.f1.length : Int)), (35, tI (0 : Int))], [.cells 58 [k1 v5.f0, k0 v5.f1, k0 v5.f2]]⟩ ?_ z0 ?_
   ·kernel_rfl
   obtain ⟨y, hy, h⟩ := of_bind h
   refine AWp.mono (AWp.loop (S := (List Int) × (List Int) × (List (Int × Int)) × Int) (Y := Out ((List Int) × (List Int) × (List Int) × Int) ((List Int) × (List Int))) (fun s => ⟨[(0, q0 v1), (6, q2 s.1), (8, q2 s.2.1), (10, .pc 0 0), (13, .tv (.mp .i64 (some .i64) s.2.2.1)), (33, .al (.cell 0 1, [])), (34, tI (v5.f1.length : Int)), (35, tI s.2.2.2)], [.cells 58 [k1 v5.f0, k0 v5.f1, k0 v5.f2]]⟩) (fun s => f11_b2 v1 v5 s.1 s.2.1 s.2.2.1 s.2.2.2) (fun y e σ => match y with | .ret r => e = .ret ∧ σ = ⟨[(6, q1 r.1), (7, q1 r.2.1), (8, q1 r.2.2.1), (9, tI r.2.2.2)], []⟩ | .go v => e = .exit 0 ∧ σ = ⟨[(6, q2 v.1), (8, q2 v.2), (10, .pc 0 0)], [.cells 58 [k1 v5.f0, k0 v5.f1, k0 v5.f2]]⟩) ?_ hy) ?_
   ·rintro ⟨v8, v9, v10, v11⟩ o h
    refine AWp.seq ?_
    refine AWp.start [0] [] [] [0, 6, 8, 10, 13, 33, 34, 35, 36] 1 ⟨[(0, q0 v1), (6, q2 v8), (8, q2 v9), (10, .pc 0 0), (13, .tv (.mp .i64 (some .i64) v10)), (33, .al (.cell 0 1, [])), (34, tI (v5.f1.length : Int)), (35, tI v11), (36, tB (decide (v11 < (v5.f1.length : Int))))], [.cells 58 [k1 v5.f0, k0 v5.f1, k0 v5.f2]]⟩ rfl ?_ z0 trivial ?_
    ·kernel_rfl
    refine AOps.nil ?_
    refine AWp.seq ?_
    refine AWp.cond rfl (fun hb => ?_) fun hb => ?_
    ·replace h := of_true h hb
     refine AWp.keepTo [0, 6, 8, 10, 13, 33, 34, 35] 1 ⟨[(0, q0 v1), (6, q2 v8), (8, q2 v9), (10, .pc 0 0), (13, .tv (.mp .i64 (some .i64) v10)), (33, .al (.cell 0 1, [])), (34, tI (v5.f1.length : Int)), (35, tI v11)], [.cells 58 [k1 v5.f0, k0 v5.f1, k0 v5.f2]]⟩ ?_ z0 ?_
     ·kernel_rfl
     refine AWp.skip ?_
     refine AWp.seq ?_
     refine AWp.block ?_
     refine AWp.seq ?_
     obtain ⟨hg, h⟩ := of_guard h
     refine AWp.start [0, 1, 2, 3, 4] [] [(0 : Int) ≤ v11, v11 < (v5.f1.length : Int)] [0, 6, 8, 10, 13, 14, 15, 33, 34, 35] 1 ⟨[(0, q0 v1), (6, q2 v8), (8, q2 v9), (10, .pc 0 0), (13, .tv (.mp .i64 (some .i64) v10)), (14, tI v11), (15, tI (gD v5.f1 v11)), (33, .al (.cell 0 1, [])), (34, tI (v5.f1.length : Int)), (35, tI v11)], [.cells 58 [k1 v5.f0, k0 v5.f1, k0 v5.f2]]⟩ rfl ?_ z0 ⟨hg.1, hg.2⟩ ?_
     ·kernel_rfl
     refine AOps.nil ?_
     refine AWp.seq ?_
     refine AWp.start [0, 1, 2, 3, 4, 5, 6, 7] [] [] [0, 6, 8, 10, 13, 14, 15, 16, 17, 33, 34, 35] 1 ⟨[(0, q0 v1), (6, q2 v8), (8, q2 v9), (10, .pc 0 0), (13, .tv (.mp .i64 (some .i64) v10)), (14, tI v11), (15, tI (gD v5.f1 v11)), (16, tI (mget v10 (gD v5.f1 v11))), (17, tB (mhas v10 (gD v5.f1 v11))), (33, .al (.cell 0 1, [])), (34, tI (v5.f1.length : Int)), (35, tI v11)], [.cells 58 [k1 v5.f0, k0 v5.f1, k0 v5.f2]]⟩ rfl ?_ z0 trivial ?_
     ·kernel_rfl
     refine AOps.nil ?_
     refine AWp.join (V := (List Int) × (List (Int × Int)) × Int) (fun w => ⟨[(0, q0 v1), (6, q2 v8), (8, q2 w.1), (10, .pc 0 0), (13, .tv (.mp .i64 (some .i64) w.2.1)), (14, tI v11), (16, tI w.2.2), (33, .al (.cell 0 1, [])), (34, tI (v5.f1.length : Int)), (35, tI v11)], [.cells 58 [k1 v5.f0, k0 v5.f1, k0 v5.f2]]⟩) (fun w => f11_j1 v1 v5 v8 v11 w.1 w.2.1 w.2.2 = some o) ?_ ?_
     ·refine AWp.seq ?_
      refine AWp.start [0, 1] [] [] [0, 6, 8, 10, 13, 14, 15, 16, 33, 34, 35, 47] 1 ⟨[(0, q0 v1), (6, q2 v8), (8, q2 v9), (10, .pc 0 0), (13, .tv (.mp .i64 (some .i64) v10)), (14, tI v11), (15, tI (gD v5.f1 v11)), (16, tI (mget v10 (gD v5.f1 v11))), (33, .al (.cell 0 1, [])), (34, tI (v5.f1.length : Int)), (35, tI v11), (47, tB (!(mhas v10 (gD v5.f1 v11))))], [.cells 58 [k1 v5.f0, k0 v5.f1, k0 v5.f2]]⟩ rfl ?_ z0 trivial ?_
      ·kernel_rfl
      refine AOps.nil ?_
      refine AWp.cond rfl (fun hb => ?_) fun hb => ?_
      ·replace h := of_true h hb
       refine AWp.keepTo [0, 6, 8, 10, 13, 14, 15, 33, 34, 35] 1 ⟨[(0, q0 v1), (6, q2 v8), (8, q2 v9), (10, .pc 0 0), (13, .tv (.mp .i64 (some .i64) v10)), (14, tI v11), (15, tI (gD v5.f1 v11)), (33, .al (.cell 0 1, [])), (34, tI (v5.f1.length : Int)), (35, tI v11)], [.cells 58 [k1 v5.f0, k0 v5.f1, k0 v5.f2]]⟩ ?_ z0 ?_
       ·kernel_rfl
       refine AWp.seq ?_
       refine AWp.start [0, 1, 2] [] [] [0, 6, 8, 10, 13, 14, 15, 16, 33, 34, 35] 1 ⟨[(0, q0 v1), (6, q2 v8), (8, q2 v9), (10, .pc 0 0), (13, .tv (.mp .i64 (some .i64) v10)), (14, tI v11), (15, tI (gD v5.f1 v11)), (16, tI (v9.length : Int)), (33, .al (.cell 0 1, [])), (34, tI (v5.f1.length : Int)), (35, tI v11)], [.cells 58 [k1 v5.f0, k0 v5.f1, k0 v5.f2]]⟩ rfl ?_ z0 trivial ?_
       ·kernel_rfl
       refine AOps.nil ?_
       refine AWp.seq ?_
       refine AWp.start [0, 1, 2, 3] [] [] [0, 6, 8, 10, 13, 14, 16, 33, 34, 35] 1 ⟨[(0, q0 v1), (6, q2 v8), (8, q2 v9), (10, .pc 0 0), (13, .tv (.mp .i64 (some .i64) (mset v10 (gD v5.f1 v11) (v9.length : Int)))), (14, tI v11), (16, tI (v9.length : Int)), (33, .al (.cell 0 1, [])), (34, tI (v5.f1.length : Int)), (35, tI v11)], [.cells 58 [k1 v5.f0, k0 v5.f1, k0 v5.f2]]⟩ rfl ?_ z0 trivial ?_
       ·kernel_rfl
       refine AOps.nil ?_
       refine AWp.start [0, 1] [2, 3] [] [0, 6, 8, 10, 13, 14, 16, 33, 34, 35, 53, 54] 1 ⟨[(0, q0 v1), (6, q2 v8), (8, q2 v9), (10, .pc 0 0), (13, .tv (.mp .i64 (some .i64) (mset v10 (gD v5.f1 v11) (v9.length : Int)))), (14, tI v11), (16, tI (v9.length : Int)), (33, .al (.cell 0 1, [])), (34, tI (v5.f1.length : Int)), (35, tI v11), (53, .al (.slot 8 0, [])), (54, .tv (.own 1 3 1 (newRowF [.int .i64 (0 : Int)] 1)))], [.cells 58 [k1 v5.f0, k0 v5.f1, k0 v5.f2]]⟩ rfl ?_ z0 trivial ?_
       ·kernel_rfl
       refine AOps.extL 54 (cInt .i64) [(0 : Int)] rfl rfl (row_at (cInt .i64) 1 (fun _ => rfl) [(0 : Int)] _ rfl) ?_
       obtain ⟨hg, h⟩ := of_guard h
       refine AOps.go [2] [3] [(v9.length + [(0 : Int)].length) * 8 ≤ 140737488355328, PlainTo v9.length (fun i => (cInt .i64) (v9.getD i default)), PlainTo ([(0 : Int)].length) (fun i => (cInt .i64) ([(0 : Int)].getD i default))] [0, 6, 10, 13, 14, 16, 33, 34, 35, 55] 1 ⟨[(0, q0 v1), (6, q2 v8), (10, .pc 0 0), (13, .tv (.mp .i64 (some .i64) (mset v10 (gD v5.f1 v11) (v9.length : Int)))), (14, tI v11), (16, tI (v9.length : Int)), (33, .al (.cell 0 1, [])), (34, tI (v5.f1.length : Int)), (35, tI v11), (55, .tv (.own 1 3 (v9.length + [(0 : Int)].length) (appF v9.length (fun i => (cInt .i64) (v9.getD i default)) (fun i => (cInt .i64) ([(0 : Int)].getD i default)))))], [.cells 58 [k1 v5.f0, k0 v5.f1, k0 v5.f2]]⟩ ?_ z0 ⟨hg, (fun _ _ => rfl), (fun _ _ => rfl)⟩ ?_
       ·kernel_rfl
       refine AOps.extL 55 (cInt .i64) (v9 ++ [(0 : Int)]) rfl List.length_append.symm (app_at (cInt .i64) v9 [(0 : Int)]) ?_
       refine AOps.go [3] [] [] [0, 6, 8, 10, 13, 14, 16, 33, 34, 35] 1 ⟨[(0, q0 v1), (6, q2 v8), (8, q2 (v9 ++ [(0 : Int)])), (10, .pc 0 0), (13, .tv (.mp .i64 (some .i64) (mset v10 (gD v5.f1 v11) (v9.length : Int)))), (14, tI v11), (16, tI (v9.length : Int)), (33, .al (.cell 0 1, [])), (34, tI (v5.f1.length : Int)), (35, tI v11)], [.cells 58 [k1 v5.f0, k0 v5.f1, k0 v5.f2]]⟩ ?_ z0 trivial ?_
       ·kernel_rfl
       refine AOps.nil ?_
       exact ⟨(v9 ++ [(0 : Int)], mset v10 (gD v5.f1 v11) (v9.length : Int), (v9.length : Int)), h, rfl⟩
      ·replace h := of_false h hb
       refine AWp.keepTo [0, 6, 8, 10, 13, 14, 16, 33, 34, 35] 1 ⟨[(0, q0 v1), (6, q2 v8), (8, q2 v9), (10, .pc 0 0), (13, .tv (.mp .i64 (some .i64) v10)), (14, tI v11), (16, tI (mget v10 (gD v5.f1 v11))), (33, .al (.cell 0 1, [])), (34, tI (v5.f1.length : Int)), (35, tI v11)], [.cells 58 [k1 v5.f0, k0 v5.f1, k0 v5.f2]]⟩ ?_ z0 ?_
       ·kernel_rfl
       refine AWp.skip ?_
       exact ⟨(v9, v10, mget v10 (gD v5.f1 v11)), h, rfl⟩
     ·rintro ⟨v14, v15, v16⟩ h
      refine AWp.seq ?_
      refine AWp.start [0, 1, 2] [3, 4] [] [0, 6, 8, 10, 13, 14, 16, 33, 34, 35, 56, 58] 1 ⟨[(0, q0 v1), (6, q2 v8), (8, q2 v14), (10, .pc 0 0), (13, .tv (.mp .i64 (some .i64) v15)), (14, tI v11), (16, tI v16), (33, .al (.cell 0 1, [])), (34, tI (v5.f1.length : Int)), (35, tI v11), (56, .al (.slot 6 0, [])), (58, .tv (.own 1 3 1 (newRowF [.int .i64 v16] 1)))], [.cells 58 [k1 v5.f0, k0 v5.f1, k0 v5.f2]]⟩ rfl ?_ z0 trivial ?_
      ·kernel_rfl
      refine AOps.extL 58 (cInt .i64) [v16] rfl rfl (row_at (cInt .i64) 1 (fun _ => rfl) [v16] _ rfl) ?_
      obtain ⟨hg, h⟩ := of_guard h
      refine AOps.go [3] [4] [(v8.length + [v16].length) * 8 ≤ 140737488355328, PlainTo v8.length (fun i => (cInt .i64) (v8.getD i default)), PlainTo ([v16].length) (fun i => (cInt .i64) ([v16].getD i default))] [0, 8, 10, 13, 14, 16, 33, 34, 35, 59] 1 ⟨[(0, q0 v1), (8, q2 v14), (10, .pc 0 0), (13, .tv (.mp .i64 (some .i64) v15)), (14, tI v11), (16, tI v16), (33, .al (.cell 0 1, [])), (34, tI (v5.f1.length : Int)), (35, tI v11), (59, .tv (.own 1 3 (v8.length + [v16].length) (appF v8.length (fun i => (cInt .i64) (v8.getD i default)) (fun i => (cInt .i64) ([v16].getD i default)))))], [.cells 58 [k1 v5.f0, k0 v5.f1, k0 v5.f2]]⟩ ?_ z0 ⟨hg, (fun _ _ => rfl), (fun _ _ => rfl)⟩ ?_
      ·kernel_rfl
      refine AOps.extL 59 (cInt .i64) (v8 ++ [v16]) rfl List.length_append.symm (app_at (cInt .i64) v8 [v16]) ?_
      refine AOps.go [4] [] [] [0, 6, 8, 10, 13, 14, 16, 33, 34, 35] 1 ⟨[(0, q0 v1), (6, q2 (v8 ++ [v16])), (8, q2 v14), (10, .pc 0 0), (13, .tv (.mp .i64 (some .i64) v15)), (14, tI v11), (16, tI v16), (33, .al (.cell 0 1, [])), (34, tI (v5.f1.length : Int)), (35, tI v11)], [.cells 58 [k1 v5.f0, k0 v5.f1, k0 v5.f2]]⟩ ?_ z0 trivial ?_
      ·kernel_rfl
      refine AOps.nil ?_
      refine AWp.draw FFm _ (n := 22) rfl (ls := #[n1, n1, n1, n1, n1, n1, n1, n1, n1, n1, n1, n1, n1, n1, n1, n1, n1, n1, n1, n1, n1, n1]) rfl ?_ (fun _ h => h)
      obtain ⟨hg, h⟩ := of_guard h
      refine AAny.go (by kernel_rfl) [0, 1, 2, 3, 4, 6, 7, 8, 10, 13, 14, 15, 16] (fuel' := 9) rfl [(0 : Int) ≤ v16, v16 < (v14.length : Int), (0 : Int) ≤ v11, v11 < (v1.length : Int)] #[y1, y1, y1, y1, y1, n1, y1, y1, y1, n1, y1, n1, n1, y1, y1, y1, y1, n1, n1, n1, n1, n1] [0, 6, 8, 10, 13, 33, 34, 35, 60, 61, 64, 68, 70, 76] 1 ⟨[(0, q0 v1), (6, q2 (v8 ++ [v16])), (8, q2 v14), (10, .pc 0 0), (13, .tv (.mp .i64 (some .i64) v15)), (33, .al (.cell 0 1, [])), (34, tI (v5.f1.length : Int)), (35, tI v11), (60, .al (.slot 8 0, [])), (61, tI v16), (64, .pe (.slot 8 0, []) v16.toNat 0 1), (68, .pc 0 2), (70, tI v11), (76, .agg (c36 (gD v1 v11)))], [.cells 58 [k1 v5.f0, k0 v5.f1, k0 v5.f2]]⟩ ?_ z0 ⟨hg.1, hg.2.1, hg.2.2.1, hg.2.2.2⟩ ?_
      ·kernel_rfl
      obtain ⟨hd11, h⟩ := of_guard h
      obtain ⟨v17, hv17, h⟩ := of_bind h
      obtain ⟨hd12, h⟩ := of_guard h
      refine AAny.share 1 #[y1, y1, y1, y1, y1, y1, y1, y1, y1, y1, y1, y1, y1, y1, y1, y1, y1, y1, y1, y1, y1, n1] ⟨[(0, q0 v1), (6, q2 (v8 ++ [v16])), (8, q2 v14), (10, .pc 0 0), (13, .tv (.mp .i64 (some .i64) v15)), (33, .al (.cell 0 1, [])), (34, tI (v5.f1.length : Int)), (35, tI v11), (79, tI (if w64 ((gD v5.f2 v11) + v17) > gD v14 v16 then w64 ((gD v5.f2 v11) + v17) else gD v14 v16)), (80, .pe (.slot 8 0, []) v16.toNat 0 1)], [.cells 58 [k1 v5.f0, k0 v5.f1, k0 v5.f2]]⟩ ?_ fun n8_ => ?_
      ·refine AAny.step (i := 21) (fuel' := 0) rfl (by kernel_rfl) [PlainTo v14.length (fun i => (cInt .i64) (v14.getD i default))] #[y1, y1, y1, y1, y1, y1, y1, y1, y1, y1, y1, y1, y1, y1, y1, y1, y1, y1, y1, y1, y1, y1] rfl [0, 6, 8, 10, 13, 33, 34, 35] 1 ⟨[(0, q0 v1), (6, q2 (v8 ++ [v16])), (8, .tv (.own 1 3 v14.length (setElem (fun i => (cInt .i64) (v14.getD i default)) v16.toNat (putAt ((cInt .i64) (gD v14 v16)) 0 [.int .i64 (if w64 ((gD v5.f2 v11) + v17) > gD v14 v16 then w64 ((gD v5.f2 v11) + v17) else gD v14 v16)])))), (10, .pc 0 0), (13, .tv (.mp .i64 (some .i64) v15)), (33, .al (.cell 0 1, [])), (34, tI (v5.f1.length : Int)), (35, tI v11)], [.cells 58 [k1 v5.f0, k0 v5.f1, k0 v5.f2]]⟩ ?_ z0 (fun _ _ => rfl) ?_
       ·kernel_rfl
       refine AAny.extL 8 (cInt .i64) (v14.set v16.toNat (if w64 ((gD v5.f2 v11) + v17) > gD v14 v16 then w64 ((gD v5.f2 v11) + v17) else gD v14 v16)) rfl (by simp) (set_at (cInt .i64) v14 v16.toNat 0 [.int .i64 (if w64 ((gD v5.f2 v11) + v17) > gD v14 v16 then w64 ((gD v5.f2 v11) + v17) else gD v14 v16)] (if w64 ((gD v5.f2 v11) + v17) > gD v14 v16 then w64 ((gD v5.f2 v11) + v17) else gD v14 v16) rfl) ?_
       refine AAny.keepTo [0, 6, 8, 10, 13, 33, 34, 35] 1 ⟨[(0, q0 v1), (6, q2 (v8 ++ [v16])), (8, q2 (v14.set v16.toNat (if w64 ((gD v5.f2 v11) + v17) > gD v14 v16 then w64 ((gD v5.f2 v11) + v17) else gD v14 v16))), (10, .pc 0 0), (13, .tv (.mp .i64 (some .i64) v15)), (33, .al (.cell 0 1, [])), (34, tI (v5.f1.length : Int)), (35, tI v11)], [.cells 58 [k1 v5.f0, k0 v5.f1, k0 v5.f2]]⟩ _ ?_ rfl z0 (AAny.done (by kernel_rfl) ?_)
       ·kernel_rfl
       refine AWp.start [0, 1] [] [] [0, 6, 8, 10, 13, 33, 34, 35] 1 ⟨[(0, q0 v1), (6, q2 (v8 ++ [v16])), (8, q2 (v14.set v16.toNat (if w64 ((gD v5.f2 v11) + v17) > gD v14 v16 then w64 ((gD v5.f2 v11) + v17) else gD v14 v16))), (10, .pc 0 0), (13, .tv (.mp .i64 (some .i64) v15)), (33, .al (.cell 0 1, [])), (34, tI (v5.f1.length : Int)), (35, tI (w64 (v11 + (1 : Int))))], [.cells 58 [k1 v5.f0, k0 v5.f1, k0 v5.f2]]⟩ rfl ?_ z0 trivial ?_
       ·kernel_rfl
       refine AOps.nil ?_
       cases h
       exact Or.inl ⟨_, rfl, rfl, rfl⟩
      refine AAny.share 4 #[y1, y1, y1, y1, y1, n1, y1, y1, y1, y1, y1, y1, y1, y1, y1, y1, y1, y1, y1, n1, n1, n1] ⟨[(0, q0 v1), (6, q2 (v8 ++ [v16])), (8, q2 v14), (10, .pc 0 0), (13, .tv (.mp .i64 (some .i64) v15)), (33, .al (.cell 0 1, [])), (34, tI (v5.f1.length : Int)), (35, tI v11), (60, .al (.slot 8 0, [])), (61, tI v16), (64, .pe (.slot 8 0, []) v16.toNat 0 1), (78, tI (w64 ((gD v5.f2 v11) + v17)))], [.cells 58 [k1 v5.f0, k0 v5.f1, k0 v5.f2]]⟩ ?_ fun n7_ => ?_
      ·refine AAny.each [5] (by kernel_rfl) rfl ?_
       refine AEach.step (i := 5) [] #[y1, y1, y1, y1, y1, y1, y1, y1, y1, y1, y1, y1, y1, y1, y1, y1, y1, y1, y1, n1, n1, n1] rfl [0, 6, 8, 10, 13, 33, 34, 35, 60, 61, 65, 78] 1 ⟨[(0, q0 v1), (6, q2 (v8 ++ [v16])), (8, q2 v14), (10, .pc 0 0), (13, .tv (.mp .i64 (some .i64) v15)), (33, .al (.cell 0 1, [])), (34, tI (v5.f1.length : Int)), (35, tI v11), (60, .al (.slot 8 0, [])), (61, tI v16), (65, tI (gD v14 v16)), (78, tI (w64 ((gD v5.f2 v11) + v17)))], [.cells 58 [k1 v5.f0, k0 v5.f1, k0 v5.f2]]⟩ ?_ z0 trivial ?_ ?_
       ·kernel_rfl
       ·refine AAny.go (by kernel_rfl) [19, 20] (fuel' := 1) rfl [(0 : Int) ≤ v16, v16 < (v14.length : Int)] #[y1, y1, y1, y1, y1, y1, y1, y1, y1, y1, y1, y1, y1, y1, y1, y1, y1, y1, y1, y1, y1, n1] [0, 6, 8, 10, 13, 33, 34, 35, 79, 80] 1 ⟨[(0, q0 v1), (6, q2 (v8 ++ [v16])), (8, q2 v14), (10, .pc 0 0), (13, .tv (.mp .i64 (some .i64) v15)), (33, .al (.cell 0 1, [])), (34, tI (v5.f1.length : Int)), (35, tI v11), (79, tI (if w64 ((gD v5.f2 v11) + v17) > gD v14 v16 then w64 ((gD v5.f2 v11) + v17) else gD v14 v16)), (80, .pe (.slot 8 0, []) v16.toNat 0 1)], [.cells 58 [k1 v5.f0, k0 v5.f1, k0 v5.f2]]⟩ ?_ z0 ⟨hd12.1, hd12.2⟩ ?_
        ·kernel_rfl
        exact n8_
       exact AEach.nil
      refine AAny.share 5 #[y1, y1, y1, y1, y1, y1, y1, y1, y1, y1, y1, y1, n1, y1, y1, y1, y1, y1, n1, n1, n1, n1] ⟨[(0, q0 v1), (6, q2 (v8 ++ [v16])), (8, q2 v14), (10, .pc 0 0), (13, .tv (.mp .i64 (some .i64) v15)), (33, .al (.cell 0 1, [])), (34, tI (v5.f1.length : Int)), (35, tI v11), (60, .al (.slot 8 0, [])), (61, tI v16), (65, tI (gD v14 v16)), (71, .pe (.cell 0 2, []) v11.toNat 0 1), (77, tI v17)], [.cells 58 [k1 v5.f0, k0 v5.f1, k0 v5.f2]]⟩ ?_ fun n6_ => ?_
      ·refine AAny.each [12] (by kernel_rfl) rfl ?_
       refine AEach.step (i := 12) [] #[y1, y1, y1, y1, y1, y1, y1, y1, y1, y1, y1, y1, y1, y1, y1, y1, y1, y1, n1, n1, n1, n1] rfl [0, 6, 8, 10, 13, 33, 34, 35, 60, 61, 65, 72, 77] 1 ⟨[(0, q0 v1), (6, q2 (v8 ++ [v16])), (8, q2 v14), (10, .pc 0 0), (13, .tv (.mp .i64 (some .i64) v15)), (33, .al (.cell 0 1, [])), (34, tI (v5.f1.length : Int)), (35, tI v11), (60, .al (.slot 8 0, [])), (61, tI v16), (65, tI (gD v14 v16)), (72, tI (gD v5.f2 v11)), (77, tI v17)], [.cells 58 [k1 v5.f0, k0 v5.f1, k0 v5.f2]]⟩ ?_ z0 trivial ?_ ?_
       ·kernel_rfl
       ·refine AAny.go (by kernel_rfl) [18, 19, 20] (fuel' := 1) rfl [(0 : Int) ≤ v16, v16 < (v14.length : Int)] #[y1, y1, y1, y1, y1, y1, y1, y1, y1, y1, y1, y1, y1, y1, y1, y1, y1, y1, y1, y1, y1, n1] [0, 6, 8, 10, 13, 33, 34, 35, 79, 80] 1 ⟨[(0, q0 v1), (6, q2 (v8 ++ [v16])), (8, q2 v14), (10, .pc 0 0), (13, .tv (.mp .i64 (some .i64) v15)), (33, .al (.cell 0 1, [])), (34, tI (v5.f1.length : Int)), (35, tI v11), (79, tI (if w64 ((gD v5.f2 v11) + v17) > gD v14 v16 then w64 ((gD v5.f2 v11) + v17) else gD v14 v16)), (80, .pe (.slot 8 0, []) v16.toNat 0 1)], [.cells 58 [k1 v5.f0, k0 v5.f1, k0 v5.f2]]⟩ ?_ z0 ⟨hd12.1, hd12.2⟩ ?_
        ·kernel_rfl
        exact n8_
       exact AEach.nil
      refine AAny.share 5 #[y1, y1, y1, y1, y1, y1, y1, y1, y1, y1, y1, y1, y1, y1, y1, y1, y1, n1, n1, n1, n1, n1] ⟨[(0, q0 v1), (6, q2 (v8 ++ [v16])), (8, q2 v14), (10, .pc 0 0), (13, .tv (.mp .i64 (some .i64) v15)), (33, .al (.cell 0 1, [])), (34, tI (v5.f1.length : Int)), (35, tI v11), (60, .al (.slot 8 0, [])), (61, tI v16), (65, tI (gD v14 v16)), (72, tI (gD v5.f2 v11)), (76, .agg (c36 (gD v1 v11)))], [.cells 58 [k1 v5.f0, k0 v5.f1, k0 v5.f2]]⟩ ?_ fun n11_ => ?_
      ·refine AAny.each [17] (by kernel_rfl) rfl ?_
       refine AEach.one (i := 17) (AOne.callP (F := (FF 89 0)) _ rfl rfl rfl _ rfl rfl _ _ rfl Try.call25 [.agg (c36 (gD v1 v11))] rfl rfl (f25_ok (gD v1 v11) hv17) rfl) ?_ ?_
       ·refine AAny.keepTo [0, 6, 8, 10, 13, 33, 34, 35, 60, 61, 65, 72, 77] 1 ⟨[(0, q0 v1), (6, q2 (v8 ++ [v16])), (8, q2 v14), (10, .pc 0 0), (13, .tv (.mp .i64 (some .i64) v15)), (33, .al (.cell 0 1, [])), (34, tI (v5.f1.length : Int)), (35, tI v11), (60, .al (.slot 8 0, [])), (61, tI v16), (65, tI (gD v14 v16)), (72, tI (gD v5.f2 v11)), (77, tI v17)], [.cells 58 [k1 v5.f0, k0 v5.f1, k0 v5.f2]]⟩ #[y1, y1, y1, y1, y1, y1, y1, y1, y1, y1, y1, y1, y1, y1, y1, y1, y1, y1, n1, n1, n1, n1] ?_ rfl z0 ?_
        ·kernel_rfl
        refine AAny.go (by kernel_rfl) [18, 19, 20] (fuel' := 1) rfl [(0 : Int) ≤ v16, v16 < (v14.length : Int)] #[y1, y1, y1, y1, y1, y1, y1, y1, y1, y1, y1, y1, y1, y1, y1, y1, y1, y1, y1, y1, y1, n1] [0, 6, 8, 10, 13, 33, 34, 35, 79, 80] 1 ⟨[(0, q0 v1), (6, q2 (v8 ++ [v16])), (8, q2 v14), (10, .pc 0 0), (13, .tv (.mp .i64 (some .i64) v15)), (33, .al (.cell 0 1, [])), (34, tI (v5.f1.length : Int)), (35, tI v11), (79, tI (if w64 ((gD v5.f2 v11) + v17) > gD v14 v16 then w64 ((gD v5.f2 v11) + v17) else gD v14 v16)), (80, .pe (.slot 8 0, []) v16.toNat 0 1)], [.cells 58 [k1 v5.f0, k0 v5.f1, k0 v5.f2]]⟩ ?_ z0 ⟨hd12.1, hd12.2⟩ ?_
        ·kernel_rfl
        exact n8_
       exact AEach.nil
      refine AAny.share 6 #[y1, y1, y1, y1, y1, n1, y1, y1, y1, y1, y1, y1, n1, y1, y1, y1, y1, y1, n1, n1, n1, n1] ⟨[(0, q0 v1), (6, q2 (v8 ++ [v16])), (8, q2 v14), (10, .pc 0 0), (13, .tv (.mp .i64 (some .i64) v15)), (33, .al (.cell 0 1, [])), (34, tI (v5.f1.length : Int)), (35, tI v11), (60, .al (.slot 8 0, [])), (61, tI v16), (64, .pe (.slot 8 0, []) v16.toNat 0 1), (71, .pe (.cell 0 2, []) v11.toNat 0 1), (77, tI v17)], [.cells 58 [k1 v5.f0, k0 v5.f1, k0 v5.f2]]⟩ ?_ fun n5_ => ?_
      ·refine AAny.each [5, 12] (by kernel_rfl) rfl ?_
       refine AEach.step (i := 5) [] #[y1, y1, y1, y1, y1, y1, y1, y1, y1, y1, y1, y1, n1, y1, y1, y1, y1, y1, n1, n1, n1, n1] rfl [0, 6, 8, 10, 13, 33, 34, 35, 60, 61, 65, 71, 77] 1 ⟨[(0, q0 v1), (6, q2 (v8 ++ [v16])), (8, q2 v14), (10, .pc 0 0), (13, .tv (.mp .i64 (some .i64) v15)), (33, .al (.cell 0 1, [])), (34, tI (v5.f1.length : Int)), (35, tI v11), (60, .al (.slot 8 0, [])), (61, tI v16), (65, tI (gD v14 v16)), (71, .pe (.cell 0 2, []) v11.toNat 0 1), (77, tI v17)], [.cells 58 [k1 v5.f0, k0 v5.f1, k0 v5.f2]]⟩ ?_ z0 trivial ?_ ?_
       ·kernel_rfl
       ·exact n6_
       refine AEach.step (i := 12) [] #[y1, y1, y1, y1, y1, n1, y1, y1, y1, y1, y1, y1, y1, y1, y1, y1, y1, y1, n1, n1, n1, n1] rfl [0, 6, 8, 10, 13, 33, 34, 35, 60, 61, 64, 72, 77] 1 ⟨[(0, q0 v1), (6, q2 (v8 ++ [v16])), (8, q2 v14), (10, .pc 0 0), (13, .tv (.mp .i64 (some .i64) v15)), (33, .al (.cell 0 1, [])), (34, tI (v5.f1.length : Int)), (35, tI v11), (60, .al (.slot 8 0, [])), (61, tI v16), (64, .pe (.slot 8 0, []) v16.toNat 0 1), (72, tI (gD v5.f2 v11)), (77, tI v17)], [.cells 58 [k1 v5.f0, k0 v5.f1, k0 v5.f2]]⟩ ?_ z0 trivial ?_ ?_
       ·kernel_rfl
       ·refine AAny.go (by kernel_rfl) [18] (fuel' := 4) rfl [] #[y1, y1, y1, y1, y1, n1, y1, y1, y1, y1, y1, y1, y1, y1, y1, y1, y1, y1, y1, n1, n1, n1] [0, 6, 8, 10, 13, 33, 34, 35, 60, 61, 64, 78] 1 ⟨[(0, q0 v1), (6, q2 (v8 ++ [v16])), (8, q2 v14), (10, .pc 0 0), (13, .tv (.mp .i64 (some .i64) v15)), (33, .al (.cell 0 1, [])), (34, tI (v5.f1.length : Int)), (35, tI v11), (60, .al (.slot 8 0, [])), (61, tI v16), (64, .pe (.slot 8 0, []) v16.toNat 0 1), (78, tI (w64 ((gD v5.f2 v11) + v17)))], [.cells 58 [k1 v5.f0, k0 v5.f1, k0 v5.f2]]⟩ ?_ z0 trivial ?_
        ·kernel_rfl
        exact n7_
       exact AEach.nil
      refine AAny.share 6 #[y1, y1, y1, y1, y1, n1, y1, y1, y1, y1, y1, y1, y1, y1, y1, y1, y1, n1, n1, n1, n1, n1] ⟨[(0, q0 v1), (6, q2 (v8 ++ [v16])), (8, q2 v14), (10, .pc 0 0), (13, .tv (.mp .i64 (some .i64) v15)), (33, .al (.cell 0 1, [])), (34, tI (v5.f1.length : Int)), (35, tI v11), (60, .al (.slot 8 0, [])), (61, tI v16), (64, .pe (.slot 8 0, []) v16.toNat 0 1), (72, tI (gD v5.f2 v11)), (76, .agg (c36 (gD v1 v11)))], [.cells 58 [k1 v5.f0, k0 v5.f1, k0 v5.f2]]⟩ ?_ fun n10_ => ?_
      ·refine AAny.each [5, 17] (by kernel_rfl) rfl ?_
       refine AEach.step (i := 5) [] #[y1, y1, y1, y1, y1, y1, y1, y1, y1, y1, y1, y1, y1, y1, y1, y1, y1, n1, n1, n1, n1, n1] rfl [0, 6, 8, 10, 13, 33, 34, 35, 60, 61, 65, 72, 76] 1 ⟨[(0, q0 v1), (6, q2 (v8 ++ [v16])), (8, q2 v14), (10, .pc 0 0), (13, .tv (.mp .i64 (some .i64) v15)), (33, .al (.cell 0 1, [])), (34, tI (v5.f1.length : Int)), (35, tI v11), (60, .al (.slot 8 0, [])), (61, tI v16), (65, tI (gD v14 v16)), (72, tI (gD v5.f2 v11)), (76, .agg (c36 (gD v1 v11)))], [.cells 58 [k1 v5.f0, k0 v5.f1, k0 v5.f2]]⟩ ?_ z0 trivial ?_ ?_
       ·kernel_rfl
       ·exact n11_
       refine AEach.one (i := 17) (AOne.callP (F := (FF 89 0)) _ rfl rfl rfl _ rfl rfl _ _ rfl Try.call25 [.agg (c36 (gD v1 v11))] rfl rfl (f25_ok (gD v1 v11) hv17) rfl) ?_ ?_
       ·refine AAny.keepTo [0, 6, 8, 10, 13, 33, 34, 35, 60, 61, 64, 72, 77] 1 ⟨[(0, q0 v1), (6, q2 (v8 ++ [v16])), (8, q2 v14), (10, .pc 0 0), (13, .tv (.mp .i64 (some .i64) v15)), (33, .al (.cell 0 1, [])), (34, tI (v5.f1.length : Int)), (35, tI v11), (60, .al (.slot 8 0, [])), (61, tI v16), (64, .pe (.slot 8 0, []) v16.toNat 0 1), (72, tI (gD v5.f2 v11)), (77, tI v17)], [.cells 58 [k1 v5.f0, k0 v5.f1, k0 v5.f2]]⟩ #[y1, y1, y1, y1, y1, n1, y1, y1, y1, y1, y1, y1, y1, y1, y1, y1, y1, y1, n1, n1, n1, n1] ?_ rfl z0 ?_
        ·kernel_rfl
        refine AAny.go (by kernel_rfl) [18] (fuel' := 4) rfl [] #[y1, y1, y1, y1, y1, n1, y1, y1, y1, y1, y1, y1, y1, y1, y1, y1, y1, y1, y1, n1, n1, n1] [0, 6, 8, 10, 13, 33, 34, 35, 60, 61, 64, 78] 1 ⟨[(0, q0 v1), (6, q2 (v8 ++ [v16])), (8, q2 v14), (10, .pc 0 0), (13, .tv (.mp .i64 (some .i64) v15)), (33, .al (.cell 0 1, [])), (34, tI (v5.f1.length : Int)), (35, tI v11), (60, .al (.slot 8 0, [])), (61, tI v16), (64, .pe (.slot 8 0, []) v16.toNat 0 1), (78, tI (w64 ((gD v5.f2 v11) + v17)))], [.cells 58 [k1 v5.f0, k0 v5.f1, k0 v5.f2]]⟩ ?_ z0 trivial ?_
        ·kernel_rfl
        exact n7_
       exact AEach.nil
      refine AAny.share 6 #[y1, y1, y1, y1, y1, y1, y1, y1, y1, y1, y1, y1, n1, y1, y1, y1, y1, n1, n1, n1, n1, n1] ⟨[(0, q0 v1), (6, q2 (v8 ++ [v16])), (8, q2 v14), (10, .pc 0 0), (13, .tv (.mp .i64 (some .i64) v15)), (33, .al (.cell 0 1, [])), (34, tI (v5.f1.length : Int)), (35, tI v11), (60, .al (.slot 8 0, [])), (61, tI v16), (65, tI (gD v14 v16)), (71, .pe (.cell 0 2, []) v11.toNat 0 1), (76, .agg (c36 (gD v1 v11)))], [.cells 58 [k1 v5.f0, k0 v5.f1, k0 v5.f2]]⟩ ?_ fun n9_ => ?_
      ·refine AAny.each [12, 17] (by kernel_rfl) rfl ?_
       refine AEach.step (i := 12) [] #[y1, y1, y1, y1, y1, y1, y1, y1, y1, y1, y1, y1, y1, y1, y1, y1, y1, n1, n1, n1, n1, n1] rfl [0, 6, 8, 10, 13, 33, 34, 35, 60, 61, 65, 72, 76] 1 ⟨[(0, q0 v1), (6, q2 (v8 ++ [v16])), (8, q2 v14), (10, .pc 0 0), (13, .tv (.mp .i64 (some .i64) v15)), (33, .al (.cell 0 1, [])), (34, tI (v5.f1.length : Int)), (35, tI v11), (60, .al (.slot 8 0, [])), (61, tI v16), (65, tI (gD v14 v16)), (72, tI (gD v5.f2 v11)), (76, .agg (c36 (gD v1 v11)))], [.cells 58 [k1 v5.f0, k0 v5.f1, k0 v5.f2]]⟩ ?_ z0 trivial ?_ ?_
       ·kernel_rfl
       ·exact n11_
       refine AEach.one (i := 17) (AOne.callP (F := (FF 89 0)) _ rfl rfl rfl _ rfl rfl _ _ rfl Try.call25 [.agg (c36 (gD v1 v11))] rfl rfl (f25_ok (gD v1 v11) hv17) rfl) ?_ ?_
       ·refine AAny.keepTo [0, 6, 8, 10, 13, 33, 34, 35, 60, 61, 65, 71, 77] 1 ⟨[(0, q0 v1), (6, q2 (v8 ++ [v16])), (8, q2 v14), (10, .pc 0 0), (13, .tv (.mp .i64 (some .i64) v15)), (33, .al (.cell 0 1, [])), (34, tI (v5.f1.length : Int)), (35, tI v11), (60, .al (.slot 8 0, [])), (61, tI v16), (65, tI (gD v14 v16)), (71, .pe (.cell 0 2, []) v11.toNat 0 1), (77, tI v17)], [.cells 58 [k1 v5.f0, k0 v5.f1, k0 v5.f2]]⟩ #[y1, y1, y1, y1, y1, y1, y1, y1, y1, y1, y1, y1, n1, y1, y1, y1, y1, y1, n1, n1, n1, n1] ?_ rfl z0 ?_
        ·kernel_rfl
        exact n6_
       exact AEach.nil
      refine AAny.share 7 #[y1, y1, y1, y1, y1, y1, y1, y1, y1, n1, y1, n1, n1, y1, y1, y1, y1, y1, n1, n1, n1, n1] ⟨[(0, q0 v1), (6, q2 (v8 ++ [v16])), (8, q2 v14), (10, .pc 0 0), (13, .tv (.mp .i64 (some .i64) v15)), (33, .al (.cell 0 1, [])), (34, tI (v5.f1.length : Int)), (35, tI v11), (60, .al (.slot 8 0, [])), (61, tI v16), (65, tI (gD v14 v16)), (68, .pc 0 2), (70, tI v11), (77, tI v17)], [.cells 58 [k1 v5.f0, k0 v5.f1, k0 v5.f2]]⟩ ?_ fun n4_ => ?_
      ·refine AAny.each [9] (by kernel_rfl) rfl ?_
       refine AEach.step (i := 9) [] #[y1, y1, y1, y1, y1, y1, y1, y1, y1, y1, y1, n1, n1, y1, y1, y1, y1, y1, n1, n1, n1, n1] rfl [0, 6, 8, 10, 13, 33, 34, 35, 60, 61, 65, 69, 70, 77] 1 ⟨[(0, q0 v1), (6, q2 (v8 ++ [v16])), (8, q2 v14), (10, .pc 0 0), (13, .tv (.mp .i64 (some .i64) v15)), (33, .al (.cell 0 1, [])), (34, tI (v5.f1.length : Int)), (35, tI v11), (60, .al (.slot 8 0, [])), (61, tI v16), (65, tI (gD v14 v16)), (69, .al (.cell 0 2, [])), (70, tI v11), (77, tI v17)], [.cells 58 [k1 v5.f0, k0 v5.f1, k0 v5.f2]]⟩ ?_ z0 trivial ?_ ?_
       ·kernel_rfl
       ·refine AAny.go (by kernel_rfl) [11] (fuel' := 5) rfl [(0 : Int) ≤ v11, v11 < (v5.f2.length : Int)] #[y1, y1, y1, y1, y1, y1, y1, y1, y1, y1, y1, y1, n1, y1, y1, y1, y1, y1, n1, n1, n1, n1] [0, 6, 8, 10, 13, 33, 34, 35, 60, 61, 65, 71, 77] 1 ⟨[(0, q0 v1), (6, q2 (v8 ++ [v16])), (8, q2 v14), (10, .pc 0 0), (13, .tv (.mp .i64 (some .i64) v15)), (33, .al (.cell 0 1, [])), (34, tI (v5.f1.length : Int)), (35, tI v11), (60, .al (.slot 8 0, [])), (61, tI v16), (65, tI (gD v14 v16)), (71, .pe (.cell 0 2, []) v11.toNat 0 1), (77, tI v17)], [.cells 58 [k1 v5.f0, k0 v5.f1, k0 v5.f2]]⟩ ?_ z0 ⟨hd11.1, hd11.2⟩ ?_
        ·kernel_rfl
        exact n6_
       exact AEach.nil
      refine AAny.share 7 #[y1, y1, y1, y1, y1, n1, y1, y1, y1, y1, y1, y1, n1, y1, y1, y1, y1, n1, n1, n1, n1, n1] ⟨[(0, q0 v1), (6, q2 (v8 ++ [v16])), (8, q2 v14), (10, .pc 0 0), (13, .tv (.mp .i64 (some .i64) v15)), (33, .al (.cell 0 1, [])), (34, tI (v5.f1.length : Int)), (35, tI v11), (60, .al (.slot 8 0, [])), (61, tI v16), (64, .pe (.slot 8 0, []) v16.toNat 0 1), (71, .pe (.cell 0 2, []) v11.toNat 0 1), (76, .agg (c36 (gD v1 v11)))], [.cells 58 [k1 v5.f0, k0 v5.f1, k0 v5.f2]]⟩ ?_ fun n2_ => ?_
      ·refine AAny.each [5, 12, 17] (by kernel_rfl) rfl ?_
       refine AEach.step (i := 5) [] #[y1, y1, y1, y1, y1, y1, y1, y1, y1, y1, y1, y1, n1, y1, y1, y1, y1, n1, n1, n1, n1, n1] rfl [0, 6, 8, 10, 13, 33, 34, 35, 60, 61, 65, 71, 76] 1 ⟨[(0, q0 v1), (6, q2 (v8 ++ [v16])), (8, q2 v14), (10, .pc 0 0), (13, .tv (.mp .i64 (some .i64) v15)), (33, .al (.cell 0 1, [])), (34, tI (v5.f1.length : Int)), (35, tI v11), (60, .al (.slot 8 0, [])), (61, tI v16), (65, tI (gD v14 v16)), (71, .pe (.cell 0 2, []) v11.toNat 0 1), (76, .agg (c36 (gD v1 v11)))], [.cells 58 [k1 v5.f0, k0 v5.f1, k0 v5.f2]]⟩ ?_ z0 trivial ?_ ?_
       ·kernel_rfl
       ·exact n9_
       refine AEach.step (i := 12) [] #[y1, y1, y1, y1, y1, n1, y1, y1, y1, y1, y1, y1, y1, y1, y1, y1, y1, n1, n1, n1, n1, n1] rfl [0, 6, 8, 10, 13, 33, 34, 35, 60, 61, 64, 72, 76] 1 ⟨[(0, q0 v1), (6, q2 (v8 ++ [v16])), (8, q2 v14), (10, .pc 0 0), (13, .tv (.mp .i64 (some .i64) v15)), (33, .al (.cell 0 1, [])), (34, tI (v5.f1.length : Int)), (35, tI v11), (60, .al (.slot 8 0, [])), (61, tI v16), (64, .pe (.slot 8 0, []) v16.toNat 0 1), (72, tI (gD v5.f2 v11)), (76, .agg (c36 (gD v1 v11)))], [.cells 58 [k1 v5.f0, k0 v5.f1, k0 v5.f2]]⟩ ?_ z0 trivial ?_ ?_
       ·kernel_rfl
       ·exact n10_
       refine AEach.one (i := 17) (AOne.callP (F := (FF 89 0)) _ rfl rfl rfl _ rfl rfl _ _ rfl Try.call25 [.agg (c36 (gD v1 v11))] rfl rfl (f25_ok (gD v1 v11) hv17) rfl) ?_ ?_
       ·refine AAny.keepTo [0, 6, 8, 10, 13, 33, 34, 35, 60, 61, 64, 71, 77] 1 ⟨[(0, q0 v1), (6, q2 (v8 ++ [v16])), (8, q2 v14), (10, .pc 0 0), (13, .tv (.mp .i64 (some .i64) v15)), (33, .al (.cell 0 1, [])), (34, tI (v5.f1.length : Int)), (35, tI v11), (60, .al (.slot 8 0, [])), (61, tI v16), (64, .pe (.slot 8 0, []) v16.toNat 0 1), (71, .pe (.cell 0 2, []) v11.toNat 0 1), (77, tI v17)], [.cells 58 [k1 v5.f0, k0 v5.f1, k0 v5.f2]]⟩ #[y1, y1, y1, y1, y1, n1, y1, y1, y1, y1, y1, y1, n1, y1, y1, y1, y1, y1, n1, n1, n1, n1] ?_ rfl z0 ?_
        ·kernel_rfl
        exact n5_
       exact AEach.nil
      refine AAny.share 8 #[y1, y1, y1, y1, y1, n1, y1, y1, y1, n1, y1, n1, n1, y1, y1, y1, y1, y1, n1, n1, n1, n1] ⟨[(0, q0 v1), (6, q2 (v8 ++ [v16])), (8, q2 v14), (10, .pc 0 0), (13, .tv (.mp .i64 (some .i64) v15)), (33, .al (.cell 0 1, [])), (34, tI (v5.f1.length : Int)), (35, tI v11), (60, .al (.slot 8 0, [])), (61, tI v16), (64, .pe (.slot 8 0, []) v16.toNat 0 1), (68, .pc 0 2), (70, tI v11), (77, tI v17)], [.cells 58 [k1 v5.f0, k0 v5.f1, k0 v5.f2]]⟩ ?_ fun n3_ => ?_
      ·refine AAny.each [5, 9] (by kernel_rfl) rfl ?_
       refine AEach.step (i := 5) [] #[y1, y1, y1, y1, y1, y1, y1, y1, y1, n1, y1, n1, n1, y1, y1, y1, y1, y1, n1, n1, n1, n1] rfl [0, 6, 8, 10, 13, 33, 34, 35, 60, 61, 65, 68, 70, 77] 1 ⟨[(0, q0 v1), (6, q2 (v8 ++ [v16])), (8, q2 v14), (10, .pc 0 0), (13, .tv (.mp .i64 (some .i64) v15)), (33, .al (.cell 0 1, [])), (34, tI (v5.f1.length : Int)), (35, tI v11), (60, .al (.slot 8 0, [])), (61, tI v16), (65, tI (gD v14 v16)), (68, .pc 0 2), (70, tI v11), (77, tI v17)], [.cells 58 [k1 v5.f0, k0 v5.f1, k0 v5.f2]]⟩ ?_ z0 trivial ?_ ?_
       ·kernel_rfl
       ·exact n4_
       refine AEach.step (i := 9) [] #[y1, y1, y1, y1, y1, n1, y1, y1, y1, y1, y1, n1, n1, y1, y1, y1, y1, y1, n1, n1, n1, n1] rfl [0, 6, 8, 10, 13, 33, 34, 35, 60, 61, 64, 69, 70, 77] 1 ⟨[(0, q0 v1), (6, q2 (v8 ++ [v16])), (8, q2 v14), (10, .pc 0 0), (13, .tv (.mp .i64 (some .i64) v15)), (33, .al (.cell 0 1, [])), (34, tI (v5.f1.length : Int)), (35, tI v11), (60, .al (.slot 8 0, [])), (61, tI v16), (64, .pe (.slot 8 0, []) v16.toNat 0 1), (69, .al (.cell 0 2, [])), (70, tI v11), (77, tI v17)], [.cells 58 [k1 v5.f0, k0 v5.f1, k0 v5.f2]]⟩ ?_ z0 trivial ?_ ?_
       ·kernel_rfl
       ·refine AAny.go (by kernel_rfl) [11] (fuel' := 6) rfl [(0 : Int) ≤ v11, v11 < (v5.f2.length : Int)] #[y1, y1, y1, y1, y1, n1, y1, y1, y1, y1, y1, y1, n1, y1, y1, y1, y1, y1, n1, n1, n1, n1] [0, 6, 8, 10, 13, 33, 34, 35, 60, 61, 64, 71, 77] 1 ⟨[(0, q0 v1), (6, q2 (v8 ++ [v16])), (8, q2 v14), (10, .pc 0 0), (13, .tv (.mp .i64 (some .i64) v15)), (33, .al (.cell 0 1, [])), (34, tI (v5.f1.length : Int)), (35, tI v11), (60, .al (.slot 8 0, [])), (61, tI v16), (64, .pe (.slot 8 0, []) v16.toNat 0 1), (71, .pe (.cell 0 2, []) v11.toNat 0 1), (77, tI v17)], [.cells 58 [k1 v5.f0, k0 v5.f1, k0 v5.f2]]⟩ ?_ z0 ⟨hd11.1, hd11.2⟩ ?_
        ·kernel_rfl
        exact n5_
       exact AEach.nil
      refine AAny.share 8 #[y1, y1, y1, y1, y1, y1, y1, y1, y1, n1, y1, n1, n1, y1, y1, y1, y1, n1, n1, n1, n1, n1] ⟨[(0, q0 v1), (6, q2 (v8 ++ [v16])), (8, q2 v14), (10, .pc 0 0), (13, .tv (.mp .i64 (some .i64) v15)), (33, .al (.cell 0 1, [])), (34, tI (v5.f1.length : Int)), (35, tI v11), (60, .al (.slot 8 0, [])), (61, tI v16), (65, tI (gD v14 v16)), (68, .pc 0 2), (70, tI v11), (76, .agg (c36 (gD v1 v11)))], [.cells 58 [k1 v5.f0, k0 v5.f1, k0 v5.f2]]⟩ ?_ fun n1_ => ?_
      ·refine AAny.each [9, 17] (by kernel_rfl) rfl ?_
       refine AEach.step (i := 9) [] #[y1, y1, y1, y1, y1, y1, y1, y1, y1, y1, y1, n1, n1, y1, y1, y1, y1, n1, n1, n1, n1, n1] rfl [0, 6, 8, 10, 13, 33, 34, 35, 60, 61, 65, 69, 70, 76] 1 ⟨[(0, q0 v1), (6, q2 (v8 ++ [v16])), (8, q2 v14), (10, .pc 0 0), (13, .tv (.mp .i64 (some .i64) v15)), (33, .al (.cell 0 1, [])), (34, tI (v5.f1.length : Int)), (35, tI v11), (60, .al (.slot 8 0, [])), (61, tI v16), (65, tI (gD v14 v16)), (69, .al (.cell 0 2, [])), (70, tI v11), (76, .agg (c36 (gD v1 v11)))], [.cells 58 [k1 v5.f0, k0 v5.f1, k0 v5.f2]]⟩ ?_ z0 trivial ?_ ?_
       ·kernel_rfl
       ·refine AAny.go (by kernel_rfl) [11] (fuel' := 6) rfl [(0 : Int) ≤ v11, v11 < (v5.f2.length : Int)] #[y1, y1, y1, y1, y1, y1, y1, y1, y1, y1, y1, y1, n1, y1, y1, y1, y1, n1, n1, n1, n1, n1] [0, 6, 8, 10, 13, 33, 34, 35, 60, 61, 65, 71, 76] 1 ⟨[(0, q0 v1), (6, q2 (v8 ++ [v16])), (8, q2 v14), (10, .pc 0 0), (13, .tv (.mp .i64 (some .i64) v15)), (33, .al (.cell 0 1, [])), (34, tI (v5.f1.length : Int)), (35, tI v11), (60, .al (.slot 8 0, [])), (61, tI v16), (65, tI (gD v14 v16)), (71, .pe (.cell 0 2, []) v11.toNat 0 1), (76, .agg (c36 (gD v1 v11)))], [.cells 58 [k1 v5.f0, k0 v5.f1, k0 v5.f2]]⟩ ?_ z0 ⟨hd11.1, hd11.2⟩ ?_
        ·kernel_rfl
        exact n9_
       refine AEach.one (i := 17) (AOne.callP (F := (FF 89 0)) _ rfl rfl rfl _ rfl rfl _ _ rfl Try.call25 [.agg (c36 (gD v1 v11))] rfl rfl (f25_ok (gD v1 v11) hv17) rfl) ?_ ?_
       ·refine AAny.keepTo [0, 6, 8, 10, 13, 33, 34, 35, 60, 61, 65, 68, 70, 77] 1 ⟨[(0, q0 v1), (6, q2 (v8 ++ [v16])), (8, q2 v14), (10, .pc 0 0), (13, .tv (.mp .i64 (some .i64) v15)), (33, .al (.cell 0 1, [])), (34, tI (v5.f1.length : Int)), (35, tI v11), (60, .al (.slot 8 0, [])), (61, tI v16), (65, tI (gD v14 v16)), (68, .pc 0 2), (70, tI v11), (77, tI v17)], [.cells 58 [k1 v5.f0, k0 v5.f1, k0 v5.f2]]⟩ #[y1, y1, y1, y1, y1, y1, y1, y1, y1, n1, y1, n1, n1, y1, y1, y1, y1, y1, n1, n1, n1, n1] ?_ rfl z0 ?_
        ·kernel_rfl
        exact n4_
       exact AEach.nil
      refine AAny.each [5, 9, 17] (by kernel_rfl) rfl ?_
      refine AEach.step (i := 5) [] #[y1, y1, y1, y1, y1, y1, y1, y1, y1, n1, y1, n1, n1, y1, y1, y1, y1, n1, n1, n1, n1, n1] rfl [0, 6, 8, 10, 13, 33, 34, 35, 60, 61, 65, 68, 70, 76] 1 ⟨[(0, q0 v1), (6, q2 (v8 ++ [v16])), (8, q2 v14), (10, .pc 0 0), (13, .tv (.mp .i64 (some .i64) v15)), (33, .al (.cell 0 1, [])), (34, tI (v5.f1.length : Int)), (35, tI v11), (60, .al (.slot 8 0, [])), (61, tI v16), (65, tI (gD v14 v16)), (68, .pc 0 2), (70, tI v11), (76, .agg (c36 (gD v1 v11)))], [.cells 58 [k1 v5.f0, k0 v5.f1, k0 v5.f2]]⟩ ?_ z0 trivial ?_ ?_
      ·kernel_rfl
      ·exact n1_
      refine AEach.step (i := 9) [] #[y1, y1, y1, y1, y1, n1, y1, y1, y1, y1, y1, n1, n1, y1, y1, y1, y1, n1, n1, n1, n1, n1] rfl [0, 6, 8, 10, 13, 33, 34, 35, 60, 61, 64, 69, 70, 76] 1 ⟨[(0, q0 v1), (6, q2 (v8 ++ [v16])), (8, q2 v14), (10, .pc 0 0), (13, .tv (.mp .i64 (some .i64) v15)), (33, .al (.cell 0 1, [])), (34, tI (v5.f1.length : Int)), (35, tI v11), (60, .al (.slot 8 0, [])), (61, tI v16), (64, .pe (.slot 8 0, []) v16.toNat 0 1), (69, .al (.cell 0 2, [])), (70, tI v11), (76, .agg (c36 (gD v1 v11)))], [.cells 58 [k1 v5.f0, k0 v5.f1, k0 v5.f2]]⟩ ?_ z0 trivial ?_ ?_
      ·kernel_rfl
      ·refine AAny.go (by kernel_rfl) [11] (fuel' := 7) rfl [(0 : Int) ≤ v11, v11 < (v5.f2.length : Int)] #[y1, y1, y1, y1, y1, n1, y1, y1, y1, y1, y1, y1, n1, y1, y1, y1, y1, n1, n1, n1, n1, n1] [0, 6, 8, 10, 13, 33, 34, 35, 60, 61, 64, 71, 76] 1 ⟨[(0, q0 v1), (6, q2 (v8 ++ [v16])), (8, q2 v14), (10, .pc 0 0), (13, .tv (.mp .i64 (some .i64) v15)), (33, .al (.cell 0 1, [])), (34, tI (v5.f1.length : Int)), (35, tI v11), (60, .al (.slot 8 0, [])), (61, tI v16), (64, .pe (.slot 8 0, []) v16.toNat 0 1), (71, .pe (.cell 0 2, []) v11.toNat 0 1), (76, .agg (c36 (gD v1 v11)))], [.cells 58 [k1 v5.f0, k0 v5.f1, k0 v5.f2]]⟩ ?_ z0 ⟨hd11.1, hd11.2⟩ ?_
       ·kernel_rfl
       exact n2_
      refine AEach.one (i := 17) (AOne.callP (F := (FF 89 0)) _ rfl rfl rfl _ rfl rfl _ _ rfl Try.call25 [.agg (c36 (gD v1 v11))] rfl rfl (f25_ok (gD v1 v11) hv17) rfl) ?_ ?_
      ·refine AAny.keepTo [0, 6, 8, 10, 13, 33, 34, 35, 60, 61, 64, 68, 70, 77] 1 ⟨[(0, q0 v1), (6, q2 (v8 ++ [v16])), (8, q2 v14), (10, .pc 0 0), (13, .tv (.mp .i64 (some .i64) v15)), (33, .al (.cell 0 1, [])), (34, tI (v5.f1.length : Int)), (35, tI v11), (60, .al (.slot 8 0, [])), (61, tI v16), (64, .pe (.slot 8 0, []) v16.toNat 0 1), (68, .pc 0 2), (70, tI v11), (77, tI v17)], [.cells 58 [k1 v5.f0, k0 v5.f1, k0 v5.f2]]⟩ #[y1, y1, y1, y1, y1, n1, y1, y1, y1, n1, y1, n1, n1, y1, y1, y1, y1, y1, n1, n1, n1, n1] ?_ rfl z0 ?_
       ·kernel_rfl
       exact n3_
      exact AEach.nil
    ·replace h := of_false h hb
     refine AWp.keepTo [6, 8, 10] 1 ⟨[(6, q2 v8), (8, q2 v9), (10, .pc 0 0)], [.cells 58 [k1 v5.f0, k0 v5.f1, k0 v5.f2]]⟩ ?_ z0 ?_
     ·kernel_rfl
     refine AWp.exit ?_
     cases h
     exact Or.inr ⟨_, rfl, by simp, rfl, rfl⟩
   ·intro e σ hp
    rcases y with v18 | ⟨v12, v13⟩
    ·obtain ⟨rfl, rfl⟩ := hp
     cases h
     exact ⟨.inr rfl, rfl⟩
    ·obtain ⟨rfl, rfl⟩ := hp
     refine AWp.seq ?_
     refine AWp.freezeL 6 (cInt .i64) v12 rfl (fun _ => rfl) ?_
     refine AWp.freezeL 8 (cInt .i64) v13 rfl (fun _ => rfl) ?_
     refine AWp.start [0, 1, 2, 3, 4] [5, 6, 7, 8, 9, 10] [] [8, 82, 86] 1 ⟨[(8, q1 v13), (82, q1 v12), (86, .al (.cell 0 2, []))], [.cells 58 [k1 v5.f0, k0 v5.f1, k0 v5.f2]]⟩ rfl ?_ z0 trivial ?_
     ·kernel_rfl
     refine AOps.claim 86 (.cell 0 2) (k0 v5.f2) rfl rfl rfl rfl ?_
     refine AOps.freezeL 86 (cInt .i64) v5.f2 rfl (fun _ => rfl) ?_
     obtain ⟨v19, hv19, h⟩ := of_bind h
     refine AOps.cons (AOne.callP (F := (FF 89 0)) _ rfl rfl rfl _ rfl rfl _ _ rfl Try.call26 [q1 v5.f2] rfl rfl (f26_ok v5.f2 hv19) rfl) ?_
     refine AOps.go [6, 7, 8, 9, 10] [] [] [6, 7, 8, 9] 0 ⟨[(6, q1 v12), (7, q2 v19), (8, q1 v13), (9, tI (0 : Int))], []⟩ ?_ z0 trivial ?_
     ·kernel_rfl
     refine AOps.nil ?_
     refine AWp.freezeL 7 (cInt .i64) v19 rfl (fun _ => rfl) ?_
     refine AWp.keepTo [6, 7, 8, 9] 0 ⟨[(6, q1 v12), (7, q1 v19), (8, q1 v13), (9, tI (0 : Int))], []⟩ ?_ z0 ?_
     ·kernel_rfl
     refine AWp.ret ?_
     cases h
     exact ⟨.inr rfl, rfl⟩

noncomputable def f10  : Option Bool :=
 (f11 ([T36.mk ([97] : List UInt8) (4 : Int) (3 : Int), T36.mk ([98] : List UInt8) (2 : Int) (4 : Int)]) ([[T34.mk ([97] : List UInt8) (1 : Int), T34.mk ([98] : List UInt8) (0 : Int)]]) ([] : List (List (List UInt8)))).bind fun v1 => (cond (v1.2.2.2 == (0 : Int)) (some ((v1.1.length : Int) == (2 : Int))) (some false)).bind fun v2 => (cond v2 (some ((v1.2.1.length : Int) == (2 : Int))) (some false)).bind fun v3 => (cond v3 (some ((v1.2.2.1.length : Int) == (1 : Int))) (some false)).bind fun v4 => (cond v4 (if (0 : Int) < (v1.2.1.length : Int) then some (v1.2.1.getD 0 default == (0 : Int)) else none) (some false)).bind fun v5 => (cond v5 (if (1 : Int) < (v1.2.1.length : Int) then some (v1.2.1.getD 1 default == (4 : Int)) else none) (some false)).bind fun v6 => (cond v6 (if (0 : Int) < (v1.2.2.1.length : Int) then some (v1.2.2.1.getD 0 default == (12 : Int)) else none) (some false)).bind fun v7 => some v7

theorem f10_ok  {r : Bool} (h : f10  = some r) : ACall Try.prog 10 [] [] (.tv (.bool r)) [] := by
 refine ACall.of1 (FF 55 0) Try.func10 rfl Try.ntmps10 Try.results10 (Nat.le_of_ble_eq_true rfl) rfl rfl ?_
 refine AWp.seq ?_
 refine AWp.start [0] [] [] [] 0 ⟨[], []⟩ rfl ?_ z0 trivial ?_
 ·kernel_rfl
 refine AOps.nil ?_
 refine AWp.seq ?_
 refine AWp.start [0, 1, 2] [3] [] [8] 0 ⟨[(8, .tv (.own 3 37 2 (newRowF [.str ([97] : List UInt8), .int .i64 (4 : Int), .int .i64 (3 : Int), .str ([98] : List UInt8), .int .i64 (2 : Int), .int .i64 (4 : Int)] 3)))], []⟩ rfl ?_ z0 trivial ?_
 ·kernel_rfl
 refine AOps.extL 8 c36 ([T36.mk ([97] : List UInt8) (4 : Int) (3 : Int), T36.mk ([98] : List UInt8) (2 : Int) (4 : Int)]) rfl rfl (row_at c36 3 (fun _ => rfl) [T36.mk ([97] : List UInt8) (4 : Int) (3 : Int), T36.mk ([98] : List UInt8) (2 : Int) (4 : Int)] _ rfl) ?_
 refine AOps.go [3] [] [] [1] 0 ⟨[(1, .tv (ownL 3 37 c36 ([T36.mk ([97] : List UInt8) (4 : Int) (3 : Int), T36.mk ([98] : List UInt8) (2 : Int) (4 : Int)])))], []⟩ ?_ z0 trivial ?_
 ·kernel_rfl
 refine AOps.nil ?_
 refine AWp.seq ?_
 refine AWp.freezeL 1 c36 ([T36.mk ([97] : List UInt8) (4 : Int) (3 : Int), T36.mk ([98] : List UInt8) (2 : Int) (4 : Int)]) rfl (fun _ => rfl) ?_
 refine AWp.start [0, 1, 2, 3] [4, 5, 6, 7, 8, 9, 10, 11, 12, 13, 14] [] [10, 13] 0 ⟨[(10, q0 ([T36.mk ([97] : List UInt8) (4 : Int) (3 : Int), T36.mk ([98] : List UInt8) (2 : Int) (4 : Int)])), (13, .tv (.own 2 35 2 (newRowF [.str ([97] : List UInt8), .int .i64 (1 : Int), .str ([98] : List UInt8), .int .i64 (0 : Int)] 2)))], []⟩ rfl ?_ z0 trivial ?_
 ·kernel_rfl
 refine AOps.extL 13 c34 ([T34.mk ([97] : List UInt8) (1 : Int), T34.mk ([98] : List UInt8) (0 : Int)]) rfl rfl (row_at c34 2 (fun _ => rfl) [T34.mk ([97] : List UInt8) (1 : Int), T34.mk ([98] : List UInt8) (0 : Int)] _ rfl) ?_
 refine AOps.freezeL 13 c34 ([T34.mk ([97] : List UInt8) (1 : Int), T34.mk ([98] : List UInt8) (0 : Int)]) rfl (fun _ => rfl) ?_
 refine AOps.go [4] [5, 6, 7, 8, 9, 10, 11, 12, 13, 14] [] [10, 14] 0 ⟨[(10, q0 ([T36.mk ([97] : List UInt8) (4 : Int) (3 : Int), T36.mk ([98] : List UInt8) (2 : Int) (4 : Int)])), (14, .tv (.own 1 32 1 (newRowF [fzL 2 c34 ([T34.mk ([97] : List UInt8) (1 : Int), T34.mk ([98] : List UInt8) (0 : Int)])] 1)))], []⟩ ?_ z0 trivial ?_
 ·kernel_rfl
 refine AOps.extL 14 (cSl 2 c34) ([[T34.mk ([97] : List UInt8) (1 : Int), T34.mk ([98] : List UInt8) (0 : Int)]]) rfl rfl (row_at (cSl 2 c34) 1 (fun _ => rfl) [[T34.mk ([97] : List UInt8) (1 : Int), T34.mk ([98] : List UInt8) (0 : Int)]] _ rfl) ?_
 refine AOps.freezeL 14 (cSl 2 c34) ([[T34.mk ([97] : List UInt8) (1 : Int), T34.mk ([98] : List UInt8) (0 : Int)]]) rfl (fun _ => rfl) ?_
 obtain ⟨v1, hv1, h⟩ := of_bind h
 refine AOps.cons (AOne.callP (F := (FF 55 0)) _ rfl rfl rfl _ rfl rfl _ _ rfl Try.call11 [q0 ([T36.mk ([97] : List UInt8) (4 : Int) (3 : Int), T36.mk ([98] : List UInt8) (2 : Int) (4 : Int)]), .tv (fzL 1 (cSl 2 c34) ([[T34.mk ([97] : List UInt8) (1 : Int), T34.mk ([98] : List UInt8) (0 : Int)]])), .tv (.sc (.slice none 0 0))] rfl rfl (ACall.nils (.keep rfl (.keep rfl (.nil .done))) (f11_ok ([T36.mk ([97] : List UInt8) (4 : Int) (3 : Int), T36.mk ([98] : List UInt8) (2 : Int) (4 : Int)]) ([[T34.mk ([97] : List UInt8) (1 : Int), T34.mk ([98] : List UInt8) (0 : Int)]]) ([] : List (List (List UInt8))) hv1)) rfl) ?_
 refine AOps.go [6, 7, 8, 9, 10, 11, 12, 13, 14] [] [] [2, 3, 4, 5] 0 ⟨[(2, q1 v1.1), (3, q1 v1.2.1), (4, q1 v1.2.2.1), (5, tI v1.2.2.2)], []⟩ ?_ z0 trivial ?_
 ·kernel_rfl
 refine AOps.nil ?_
 refine AWp.seq ?_
 refine AWp.start [0, 1, 2] [3, 4, 5, 6, 7, 8, 9, 10, 11, 12, 13, 14, 15, 16, 17, 18, 19, 20, 21, 22, 23, 24, 25, 26, 27, 28, 29, 30, 31, 32, 33, 34, 35] [] [2, 3, 4, 22] 0 ⟨[(2, q1 v1.1), (3, q1 v1.2.1), (4, q1 v1.2.2.1), (22, tB (v1.2.2.2 == (0 : Int)))], []⟩ rfl ?_ z0 trivial ?_
 ·kernel_rfl
 obtain ⟨v2, hc3, h⟩ := of_bind h
 refine AOps.cut [3, 4, 5, 6] [7, 8, 9, 10, 11, 12, 13, 14, 15, 16, 17, 18, 19, 20, 21, 22, 23, 24, 25, 26, 27, 28, 29, 30, 31, 32, 33, 34, 35] (fun σ => σ = ⟨[(3, q1 v1.2.1), (4, q1 v1.2.2.1), (26, tB v2)], []⟩) ?_ fun σ' hJ => ?_
 ·refine AOps.split (fun b => ⟨[(2, q1 v1.1), (3, q1 v1.2.1), (4, q1 v1.2.2.1), (22, tB b)], []⟩) _ (fun hb => ?_) fun hb => ?_
  ·replace hc3 := of_true hc3 hb
   refine AOps.go [3, 4, 5, 6] [] [] [3, 4, 26] 0 ⟨[(3, q1 v1.2.1), (4, q1 v1.2.2.1), (26, tB ((v1.1.length : Int) == (2 : Int)))], []⟩ ?_ z0 trivial ?_
   ·kernel_rfl
   cases hc3
   exact AOps.nil rfl
  ·replace hc3 := of_false hc3 hb
   refine AOps.go [3, 4, 5, 6] [] [] [3, 4, 26] 0 ⟨[(3, q1 v1.2.1), (4, q1 v1.2.2.1), (26, tB false)], []⟩ ?_ z0 trivial ?_
   ·kernel_rfl
   cases hc3
   exact AOps.nil rfl
 subst hJ
 refine AOps.go [7] [8, 9, 10, 11, 12, 13, 14, 15, 16, 17, 18, 19, 20, 21, 22, 23, 24, 25, 26, 27, 28, 29, 30, 31, 32, 33, 34, 35] [] [3, 4, 27] 0 ⟨[(3, q1 v1.2.1), (4, q1 v1.2.2.1), (27, tB v2)], []⟩ ?_ z0 trivial ?_
 ·kernel_rfl
 obtain ⟨v3, hc8, h⟩ := of_bind h
 refine AOps.cut [8, 9, 10, 11] [12, 13, 14, 15, 16, 17, 18, 19, 20, 21, 22, 23, 24, 25, 26, 27, 28, 29, 30, 31, 32, 33, 34, 35] (fun σ => σ = ⟨[(3, q1 v1.2.1), (4, q1 v1.2.2.1), (31, tB v3)], []⟩) ?_ fun σ' hJ => ?_
 ·refine AOps.split (fun b => ⟨[(3, q1 v1.2.1), (4, q1 v1.2.2.1), (27, tB b)], []⟩) _ (fun hb => ?_) fun hb => ?_
  ·replace hc8 := of_true hc8 hb
   refine AOps.go [8, 9, 10, 11] [] [] [3, 4, 31] 0 ⟨[(3, q1 v1.2.1), (4, q1 v1.2.2.1), (31, tB ((v1.2.1.length : Int) == (2 : Int)))], []⟩ ?_ z0 trivial ?_
   ·kernel_rfl
   cases hc8
   exact AOps.nil rfl
  ·replace hc8 := of_false hc8 hb
   refine AOps.go [8, 9, 10, 11] [] [] [3, 4, 31] 0 ⟨[(3, q1 v1.2.1), (4, q1 v1.2.2.1), (31, tB false)], []⟩ ?_ z0 trivial ?_
   ·kernel_rfl
   cases hc8
   exact AOps.nil rfl
 subst hJ
 refine AOps.go [12] [13, 14, 15, 16, 17, 18, 19, 20, 21, 22, 23, 24, 25, 26, 27, 28, 29, 30, 31, 32, 33, 34, 35] [] [3, 4, 32] 0 ⟨[(3, q1 v1.2.1), (4, q1 v1.2.2.1), (32, tB v3)], []⟩ ?_ z0 trivial ?_
 ·kernel_rfl
 obtain ⟨v4, hc13, h⟩ := of_bind h
 refine AOps.cut [13, 14, 15, 16] [17, 18, 19, 20, 21, 22, 23, 24, 25, 26, 27, 28, 29, 30, 31, 32, 33, 34, 35] (fun σ => σ = ⟨[(3, q1 v1.2.1), (4, q1 v1.2.2.1), (36, tB v4)], []⟩) ?_ fun σ' hJ => ?_
 ·refine AOps.split (fun b => ⟨[(3, q1 v1.2.1), (4, q1 v1.2.2.1), (32, tB b)], []⟩) _ (fun hb => ?_) fun hb => ?_
  ·replace hc13 := of_true hc13 hb
   refine AOps.go [13, 14, 15, 16] [] [] [3, 4, 36] 0 ⟨[(3, q1 v1.2.1), (4, q1 v1.2.2.1), (36, tB ((v1.2.2.1.length : Int) == (1 : Int)))], []⟩ ?_ z0 trivial ?_
   ·kernel_rfl
   cases hc13
   exact AOps.nil rfl
  ·replace hc13 := of_false hc13 hb
   refine AOps.go [13, 14, 15, 16] [] [] [3, 4, 36] 0 ⟨[(3, q1 v1.2.1), (4, q1 v1.2.2.1), (36, tB false)], []⟩ ?_ z0 trivial ?_
   ·kernel_rfl
   cases hc13
   exact AOps.nil rfl
 subst hJ
 refine AOps.go [17] [18, 19, 20, 21, 22, 23, 24, 25, 26, 27, 28, 29, 30, 31, 32, 33, 34, 35] [] [3, 4, 37] 0 ⟨[(3, q1 v1.2.1), (4, q1 v1.2.2.1), (37, tB v4)], []⟩ ?_ z0 trivial ?_
 ·kernel_rfl
 obtain ⟨v5, hc18, h⟩ := of_bind h
 refine AOps.cut [18, 19, 20, 21, 22] [23, 24, 25, 26, 27, 28, 29, 30, 31, 32, 33, 34, 35] (fun σ => σ = ⟨[(3, q1 v1.2.1), (4, q1 v1.2.2.1), (42, tB v5)], []⟩) ?_ fun σ' hJ => ?_
 ·refine AOps.split (fun b => ⟨[(3, q1 v1.2.1), (4, q1 v1.2.2.1), (37, tB b)], []⟩) _ (fun hb => ?_) fun hb => ?_
  ·replace hc18 := of_true hc18 hb
   obtain ⟨hg, hc18⟩ := of_guard hc18
   refine AOps.go [18, 19, 20, 21, 22] [] [(0 : Int) ≤ (0 : Int), (0 : Int) < (v1.2.1.length : Int)] [3, 4, 42] 0 ⟨[(3, q1 v1.2.1), (4, q1 v1.2.2.1), (42, tB (v1.2.1.getD 0 default == (0 : Int)))], []⟩ ?_ z0 ⟨(by decide : (0 : Int) ≤ (0 : Int)), hg⟩ ?_
   ·kernel_rfl
   cases hc18
   exact AOps.nil rfl
  ·replace hc18 := of_false hc18 hb
   refine AOps.go [18, 19, 20, 21, 22] [] [] [3, 4, 42] 0 ⟨[(3, q1 v1.2.1), (4, q1 v1.2.2.1), (42, tB false)], []⟩ ?_ z0 trivial ?_
   ·kernel_rfl
   cases hc18
   exact AOps.nil rfl
 subst hJ
 refine AOps.go [23] [24, 25, 26, 27, 28, 29, 30, 31, 32, 33, 34, 35] [] [3, 4, 43] 0 ⟨[(3, q1 v1.2.1), (4, q1 v1.2.2.1), (43, tB v5)], []⟩ ?_ z0 trivial ?_
 ·kernel_rfl
 obtain ⟨v6, hc24, h⟩ := of_bind h
 refine AOps.cut [24, 25, 26, 27, 28] [29, 30, 31, 32, 33, 34, 35] (fun σ => σ = ⟨[(4, q1 v1.2.2.1), (48, tB v6)], []⟩) ?_ fun σ' hJ => ?_
 ·refine AOps.split (fun b => ⟨[(3, q1 v1.2.1), (4, q1 v1.2.2.1), (43, tB b)], []⟩) _ (fun hb => ?_) fun hb => ?_
  ·replace hc24 := of_true hc24 hb
   obtain ⟨hg, hc24⟩ := of_guard hc24
   refine AOps.go [24, 25, 26, 27, 28] [] [(0 : Int) ≤ (1 : Int), (1 : Int) < (v1.2.1.length : Int)] [4, 48] 0 ⟨[(4, q1 v1.2.2.1), (48, tB (v1.2.1.getD 1 default == (4 : Int)))], []⟩ ?_ z0 ⟨(by decide : (0 : Int) ≤ (1 : Int)), hg⟩ ?_
   ·kernel_rfl
   cases hc24
   exact AOps.nil rfl
  ·replace hc24 := of_false hc24 hb
   refine AOps.go [24, 25, 26, 27, 28] [] [] [4, 48] 0 ⟨[(4, q1 v1.2.2.1), (48, tB false)], []⟩ ?_ z0 trivial ?_
   ·kernel_rfl
   cases hc24
   exact AOps.nil rfl
 subst hJ
 refine AOps.go [29] [30, 31, 32, 33, 34, 35] [] [4, 49] 0 ⟨[(4, q1 v1.2.2.1), (49, tB v6)], []⟩ ?_ z0 trivial ?_
 ·kernel_rfl
 obtain ⟨v7, hc30, h⟩ := of_bind h
 refine AOps.cut [30, 31, 32, 33, 34] [35] (fun σ => σ = ⟨[(54, tB v7)], []⟩) ?_ fun σ' hJ => ?_
 ·refine AOps.split (fun b => ⟨[(4, q1 v1.2.2.1), (49, tB b)], []⟩) _ (fun hb => ?_) fun hb => ?_
  ·replace hc30 := of_true hc30 hb
   obtain ⟨hg, hc30⟩ := of_guard hc30
   refine AOps.go [30, 31, 32, 33, 34] [] [(0 : Int) ≤ (0 : Int), (0 : Int) < (v1.2.2.1.length : Int)] [54] 0 ⟨[(54, tB (v1.2.2.1.getD 0 default == (12 : Int)))], []⟩ ?_ z0 ⟨(by decide : (0 : Int) ≤ (0 : Int)), hg⟩ ?_
   ·kernel_rfl
   cases hc30
   exact AOps.nil rfl
  ·replace hc30 := of_false hc30 hb
   refine AOps.go [30, 31, 32, 33, 34] [] [] [54] 0 ⟨[(54, tB false)], []⟩ ?_ z0 trivial ?_
   ·kernel_rfl
   cases hc30
   exact AOps.nil rfl
 subst hJ
 refine AOps.go [35] [] [] [0] 0 ⟨[(0, tB v7)], []⟩ ?_ z0 trivial ?_
 ·kernel_rfl
 refine AOps.nil ?_
 refine AWp.ret ?_
 cases h
 exact ⟨.inr rfl, rfl⟩

noncomputable def f13_b1 (v1 : List Int) (v2 : List Int) (v3 : Int) : Option (Int ⊕ Out Bool Unit) :=
 cond (decide (v3 < (v1.length : Int))) (if (0 : Int) ≤ v3 ∧ v3 < (v1.length : Int) ∧ (0 : Int) ≤ v3 ∧ v3 < (v2.length : Int) then cond (v1.getD v3.toNat default != v2.getD v3.toNat default) (some (.inr (.ret false))) (some (.inl (w64 (v3 + (1 : Int))))) else none) (some (.inr (.go ())))

noncomputable def f13 (v1 : List Int) (v2 : List Int) : Option Bool :=
 cond ((v1.length : Int) != (v2.length : Int)) (some false) ((iter (fun s => f13_b1 v1 v2 s) (0 : Int)).bind fun y => match y with | .ret v4 => some v4 | .go _ => some true)

theorem f13_ok (v1 : List Int) (v2 : List Int) {r : Bool} (h : f13 v1 v2 = some r) : ACall Try.prog 13 [.tv (fzL 1 (cInt .i64) v1), .tv (fzL 1 (cInt .i64) v2)] [] (.tv (.bool r)) [] := by
 refine ACall.of1 (FF 26 0) Try.func13 rfl Try.ntmps13 Try.results13 (Nat.le_of_ble_eq_true rfl) rfl rfl ?_
 refine AWp.seq ?_
 refine AWp.start [0] [] [] [0, 1] 0 ⟨[(0, q1 v1), (1, q1 v2)], []⟩ rfl ?_ z0 trivial ?_
 ·kernel_rfl
 refine AOps.nil ?_
 refine AWp.seq ?_
 refine AWp.seq ?_
 refine AWp.start [0, 1, 2, 3, 4] [] [] [0, 1, 10] 0 ⟨[(0, q1 v1), (1, q1 v2), (10, tB ((v1.length : Int) != (v2.length : Int)))], []⟩ rfl ?_ z0 trivial ?_
 ·kernel_rfl
 refine AOps.nil ?_
 refine AWp.cond rfl (fun hb => ?_) fun hb => ?_
 ·replace h := of_true h hb
  refine AWp.keepTo [] 0 ⟨[], []⟩ ?_ z0 ?_
  ·kernel_rfl
  refine AWp.seq ?_
  refine AWp.start [0] [] [] [4] 0 ⟨[(4, tB false)], []⟩ rfl ?_ z0 trivial ?_
  ·kernel_rfl
  refine AOps.nil ?_
  refine AWp.ret ?_
  cases h
  exact ⟨.inr rfl, rfl⟩
 ·replace h := of_false h hb
  refine AWp.keepTo [0, 1] 0 ⟨[(0, q1 v1), (1, q1 v2)], []⟩ ?_ z0 ?_
  ·kernel_rfl
  refine AWp.skip ?_
  refine AWp.seq ?_
  refine AWp.seq ?_
  refine AWp.start [0] [] [] [0, 1, 5] 0 ⟨[(0, q1 v1), (1, q1 v2), (5, tI (0 : Int))], []⟩ rfl ?_ z0 trivial ?_
  ·kernel_rfl
  refine AOps.nil ?_
  refine AWp.block ?_
  obtain ⟨y, hy, h⟩ := of_bind h
  refine AWp.mono (AWp.loop (S := Int) (Y := Out Bool Unit) (fun s => ⟨[(0, q1 v1), (1, q1 v2), (5, tI s)], []⟩) (fun s => f13_b1 v1 v2 s) (fun y e σ => match y with | .ret r => e = .ret ∧ σ = ⟨[(4, tB r)], []⟩ | .go v => e = .exit 0 ∧ σ = ⟨[], []⟩) ?_ hy) ?_
  ·rintro v3 o h
   refine AWp.seq ?_
   refine AWp.seq ?_
   refine AWp.start [0, 1, 2, 3] [] [] [0, 1, 5, 14] 0 ⟨[(0, q1 v1), (1, q1 v2), (5, tI v3), (14, tB (decide (v3 < (v1.length : Int))))], []⟩ rfl ?_ z0 trivial ?_
   ·kernel_rfl
   refine AOps.nil ?_
   refine AWp.cond rfl (fun hb => ?_) fun hb => ?_
   ·replace h := of_true h hb
    refine AWp.keepTo [0, 1, 5] 0 ⟨[(0, q1 v1), (1, q1 v2), (5, tI v3)], []⟩ ?_ z0 ?_
    ·kernel_rfl
    refine AWp.skip ?_
    refine AWp.seq ?_
    refine AWp.block ?_
    refine AWp.seq ?_
    refine AWp.draw FFm _ (n := 9) rfl (ls := #[n1, n1, n1, n1, n1, n1, n1, n1, n1]) rfl ?_ (fun _ h => h)
    obtain ⟨hg, h⟩ := of_guard h
    refine AAny.go (by kernel_rfl) [0, 1, 2, 3, 4, 5, 6, 7, 8] (fuel' := 0) rfl [(0 : Int) ≤ v3, v3 < (v1.length : Int), (0 : Int) ≤ v3, v3 < (v2.length : Int)] #[y1, y1, y1, y1, y1, y1, y1, y1, y1] [0, 1, 5, 25] 0 ⟨[(0, q1 v1), (1, q1 v2), (5, tI v3), (25, tB (gD v1 v3 != gD v2 v3))], []⟩ ?_ z0 ⟨hg.1, hg.2.1, hg.2.2.1, hg.2.2.2⟩ ?_
    ·kernel_rfl
    refine AAny.keepTo [0, 1, 5, 25] 0 ⟨[(0, q1 v1), (1, q1 v2), (5, tI v3), (25, tB (gD v1 v3 != gD v2 v3))], []⟩ _ ?_ rfl z0 (AAny.done (by kernel_rfl) ?_)
    ·kernel_rfl
    refine AWp.cond rfl (fun hb => ?_) fun hb => ?_
    ·replace h := of_true h hb
     refine AWp.keepTo [] 0 ⟨[], []⟩ ?_ z0 ?_
     ·kernel_rfl
     refine AWp.seq ?_
     refine AWp.start [0] [] [] [4] 0 ⟨[(4, tB false)], []⟩ rfl ?_ z0 trivial ?_
     ·kernel_rfl
     refine AOps.nil ?_
     refine AWp.ret ?_
     cases h
     exact Or.inr ⟨_, rfl, by simp, rfl, rfl⟩
    ·replace h := of_false h hb
     refine AWp.keepTo [0, 1, 5] 0 ⟨[(0, q1 v1), (1, q1 v2), (5, tI v3)], []⟩ ?_ z0 ?_
     ·kernel_rfl
     refine AWp.skip ?_
     refine AWp.start [0, 1, 2] [] [] [0, 1, 5] 0 ⟨[(0, q1 v1), (1, q1 v2), (5, tI (w64 (v3 + (1 : Int))))], []⟩ rfl ?_ z0 trivial ?_
     ·kernel_rfl
     refine AOps.nil ?_
     cases h
     exact Or.inl ⟨_, rfl, rfl, rfl⟩
   ·replace h := of_false h hb
    refine AWp.keepTo [] 0 ⟨[], []⟩ ?_ z0 ?_
    ·kernel_rfl
    refine AWp.exit ?_
    cases h
    exact Or.inr ⟨_, rfl, by simp, rfl, rfl⟩
  ·intro e σ hp
   rcases y with v4 | _
   ·obtain ⟨rfl, rfl⟩ := hp
    cases h
    exact ⟨.inr rfl, rfl⟩
   ·obtain ⟨rfl, rfl⟩ := hp
    refine AWp.seq ?_
    refine AWp.start [0] [] [] [4] 0 ⟨[(4, tB true)], []⟩ rfl ?_ z0 trivial ?_
    ·kernel_rfl
    refine AOps.nil ?_
    refine AWp.ret ?_
    cases h
    exact ⟨.inr rfl, rfl⟩

noncomputable def f5_b1 (v2 : List (List T34)) (v7 : Int) (v9 : List T34) (v10 : Int) : Option (((List T34) × Int) ⊕ Out Bool (List T34)) :=
 cond (decide (v10 ≥ (0 : Int))) (if (0 : Int) ≤ v7 ∧ v7 < (v2.length : Int) ∧ (0 : Int) ≤ v10 ∧ v10 < ((v2.getD v7.toNat default).length : Int) then if (v9.length + [(v2.getD v7.toNat default).getD v10.toNat default].length) * 24 ≤ 140737488355328 then some (.inl (v9 ++ [(v2.getD v7.toNat default).getD v10.toNat default], w64 (v10 - (1 : Int)))) else none else none) (some (.inr (.go v9)))

noncomputable def f5_b2 (v2 : List (List T34)) (v6 : List (List T34)) (v7 : Int) : Option (((List (List T34)) × Int) ⊕ Out Bool (List (List T34))) :=
 cond (decide (v7 ≥ (0 : Int))) (if (0 : Int) ≤ v7 ∧ v7 < (v2.length : Int) then (iter (fun s => f5_b1 v2 v7 s.1 s.2) ([], w64 (((v2.getD v7.toNat default).length : Int) - (1 : Int)))).bind fun y => match y with | .ret v12 => some (.inr (.ret v12)) | .go v11 => if (v6.length + [v11].length) * 24 ≤ 140737488355328 then some (.inl (v6 ++ [v11], w64 (v7 - (1 : Int)))) else none else none) (some (.inr (.go v6)))

noncomputable def f5 (v1 : List T36) (v2 : List (List T34)) (v3 : List (List (List UInt8))) : Option Bool :=
 (f9 v1 v2 v3).bind fun v4 => cond v4 ((f10 ).bind fun v5 => some v5) ((iter (fun s => f5_b2 v2 s.1 s.2) ([], w64 ((v2.length : Int) - (1 : Int)))).bind fun y => match y with | .ret v13 => some v13 | .go v8 => (f11 v1 v2 v3).bind fun v14 => (f11 v1 v8 v3).bind fun v15 => (cond (v14.2.2.2 == v15.2.2.2) ((f13 v14.1 v15.1).bind fun v17 => some v17) (some false)).bind fun v16 => (cond v16 ((f13 v14.2.1 v15.2.1).bind fun v19 => some v19) (some false)).bind fun v18 => (cond v18 ((f13 v14.2.2.1 v15.2.2.1).bind fun v21 => some v21) (some false)).bind fun v20 => (cond v20 ((f10 ).bind fun v23 => some v23) (some false)).bind fun v22 => some v22)

theorem f5_ok (v1 : List T36) (v2 : List (List T34)) (v3 : List (List (List UInt8))) {r : Bool} (h : f5 v1 v2 v3 = some r) : ACall Try.prog 5 [.tv (fzL 3 c36 v1), .tv (fzL 1 (cSl 2 c34) v2), .tv (fzL 1 (cSl 1 cStr) v3)] [] (.tv (.bool r)) [] := by
 refine ACall.of1 (FF 94 0) Try.func5 rfl Try.ntmps5 Try.results5 (Nat.le_of_ble_eq_true rfl) rfl rfl ?_
 refine AWp.seq ?_
 refine AWp.start [0] [] [] [0, 1, 2] 0 ⟨[(0, q0 v1), (1, .tv (fzL 1 (cSl 2 c34) v2)), (2, .tv (fzL 1 (cSl 1 cStr) v3))], []⟩ rfl ?_ z0 trivial ?_
 ·kernel_rfl
 refine AOps.nil ?_
 refine AWp.seq ?_
 refine AWp.seq ?_
 refine AWp.start [0, 1, 2] [3] [] [0, 1, 2, 19, 20, 21] 0 ⟨[(0, q0 v1), (1, .tv (fzL 1 (cSl 2 c34) v2)), (2, .tv (fzL 1 (cSl 1 cStr) v3)), (19, q0 v1), (20, .tv (fzL 1 (cSl 2 c34) v2)), (21, .tv (fzL 1 (cSl 1 cStr) v3))], []⟩ rfl ?_ z0 trivial ?_
 ·kernel_rfl
 obtain ⟨v4, hv4, h⟩ := of_bind h
 refine AOps.cons (AOne.callP (F := (FF 94 0)) _ rfl rfl rfl _ rfl rfl _ _ rfl Try.call9 [q0 v1, .tv (fzL 1 (cSl 2 c34) v2), .tv (fzL 1 (cSl 1 cStr) v3)] rfl rfl (f9_ok v1 v2 v3 hv4) rfl) ?_
 refine AOps.keepTo [0, 1, 2, 22] 0 ⟨[(0, q0 v1), (1, .tv (fzL 1 (cSl 2 c34) v2)), (2, .tv (fzL 1 (cSl 1 cStr) v3)), (22, tB v4)], []⟩ ?_ z0 ?_
 ·kernel_rfl
 refine AOps.nil ?_
 refine AWp.cond rfl (fun hb => ?_) fun hb => ?_
 ·replace h := of_true h hb
  refine AWp.keepTo [] 0 ⟨[], []⟩ ?_ z0 ?_
  ·kernel_rfl
  refine AWp.seq ?_
  refine AWp.start [] [0, 1] [] [] 0 ⟨[], []⟩ rfl ?_ z0 trivial ?_
  ·kernel_rfl
  obtain ⟨v5, hv5, h⟩ := of_bind h
  refine AOps.cons (AOne.callP (F := (FF 94 0)) _ rfl rfl rfl _ rfl rfl _ _ rfl Try.call10 [] rfl rfl (f10_ok  hv5) rfl) ?_
  refine AOps.go [1] [] [] [6] 0 ⟨[(6, tB v5)], []⟩ ?_ z0 trivial ?_
  ·kernel_rfl
  refine AOps.nil ?_
  refine AWp.ret ?_
  cases h
  exact ⟨.inr rfl, rfl⟩
 ·replace h := of_false h hb
  refine AWp.keepTo [0, 1, 2] 0 ⟨[(0, q0 v1), (1, .tv (fzL 1 (cSl 2 c34) v2)), (2, .tv (fzL 1 (cSl 1 cStr) v3))], []⟩ ?_ z0 ?_
  ·kernel_rfl
  refine AWp.skip ?_
  refine AWp.seq ?_
  refine AWp.start [0] [] [] [0, 1, 2, 7] 0 ⟨[(0, q0 v1), (1, .tv (fzL 1 (cSl 2 c34) v2)), (2, .tv (fzL 1 (cSl 1 cStr) v3)), (7, .tv (.sc (.slice none 0 0)))], []⟩ rfl ?_ z0 trivial ?_
  ·kernel_rfl
  refine AOps.nil ?_
  refine AWp.seq ?_
  refine AWp.seq ?_
  refine AWp.start [0, 1, 2, 3] [] [] [0, 1, 2, 7, 8] 0 ⟨[(0, q0 v1), (1, .tv (fzL 1 (cSl 2 c34) v2)), (2, .tv (fzL 1 (cSl 1 cStr) v3)), (7, .tv (.sc (.slice none 0 0))), (8, tI (w64 ((v2.length : Int) - (1 : Int))))], []⟩ rfl ?_ z0 trivial ?_
  ·kernel_rfl
  refine AOps.nil ?_
  refine AWp.block ?_
  refine AWp.nilOwn 7 1 32 (fun i => (cSl 2 c34) (([] : List (List T34)).getD i default)) rfl ?_
  refine AWp.keepTo [0, 1, 2, 7, 8] 0 ⟨[(0, q0 v1), (1, .tv (fzL 1 (cSl 2 c34) v2)), (2, .tv (fzL 1 (cSl 1 cStr) v3)), (7, .tv (ownL 1 32 (cSl 2 c34) ([] : List (List T34)))), (8, tI (w64 ((v2.length : Int) - (1 : Int))))], []⟩ ?_ z0 ?_
  ·kernel_rfl
  obtain ⟨y, hy, h⟩ := of_bind h
  refine AWp.mono (AWp.loop (S := (List (List T34)) × Int) (Y := Out Bool (List (List T34))) (fun s => ⟨[(0, q0 v1), (1, .tv (fzL 1 (cSl 2 c34) v2)), (2, .tv (fzL 1 (cSl 1 cStr) v3)), (7, .tv (ownL 1 32 (cSl 2 c34) s.1)), (8, tI s.2)], []⟩) (fun s => f5_b2 v2 s.1 s.2) (fun y e σ => match y with | .ret r => e = .ret ∧ σ = ⟨[(6, tB r)], []⟩ | .go v => e = .exit 0 ∧ σ = ⟨[(0, q0 v1), (1, .tv (fzL 1 (cSl 2 c34) v2)), (2, .tv (fzL 1 (cSl 1 cStr) v3)), (7, .tv (ownL 1 32 (cSl 2 c34) v))], []⟩) ?_ hy) ?_
  ·rintro ⟨v6, v7⟩ o h
   refine AWp.seq ?_
   refine AWp.seq ?_
   refine AWp.start [0, 1] [] [] [0, 1, 2, 7, 8, 28] 0 ⟨[(0, q0 v1), (1, .tv (fzL 1 (cSl 2 c34) v2)), (2, .tv (fzL 1 (cSl 1 cStr) v3)), (7, .tv (ownL 1 32 (cSl 2 c34) v6)), (8, tI v7), (28, tB (decide (v7 ≥ (0 : Int))))], []⟩ rfl ?_ z0 trivial ?_
   ·kernel_rfl
   refine AOps.nil ?_
   refine AWp.cond rfl (fun hb => ?_) fun hb => ?_
   ·replace h := of_true h hb
    refine AWp.keepTo [0, 1, 2, 7, 8] 0 ⟨[(0, q0 v1), (1, .tv (fzL 1 (cSl 2 c34) v2)), (2, .tv (fzL 1 (cSl 1 cStr) v3)), (7, .tv (ownL 1 32 (cSl 2 c34) v6)), (8, tI v7)], []⟩ ?_ z0 ?_
    ·kernel_rfl
    refine AWp.skip ?_
    refine AWp.seq ?_
    refine AWp.block ?_
    refine AWp.seq ?_
    refine AWp.start [0] [] [] [0, 1, 2, 7, 8, 9] 0 ⟨[(0, q0 v1), (1, .tv (fzL 1 (cSl 2 c34) v2)), (2, .tv (fzL 1 (cSl 1 cStr) v3)), (7, .tv (ownL 1 32 (cSl 2 c34) v6)), (8, tI v7), (9, .tv (.sc (.slice none 0 0)))], []⟩ rfl ?_ z0 trivial ?_
    ·kernel_rfl
    refine AOps.nil ?_
    refine AWp.seq ?_
    refine AWp.seq ?_
    obtain ⟨hg, h⟩ := of_guard h
    refine AWp.start [0, 1, 2, 3, 4, 5, 6] [] [(0 : Int) ≤ v7, v7 < (v2.length : Int)] [0, 1, 2, 7, 8, 9, 10] 0 ⟨[(0, q0 v1), (1, .tv (fzL 1 (cSl 2 c34) v2)), (2, .tv (fzL 1 (cSl 1 cStr) v3)), (7, .tv (ownL 1 32 (cSl 2 c34) v6)), (8, tI v7), (9, .tv (.sc (.slice none 0 0))), (10, tI (w64 (((gD v2 v7).length : Int) - (1 : Int))))], []⟩ rfl ?_ z0 ⟨hg.1, hg.2⟩ ?_
    ·kernel_rfl
    refine AOps.nil ?_
    refine AWp.block ?_
    refine AWp.nilOwn 9 2 35 (fun i => c34 (([] : List T34).getD i default)) rfl ?_
    refine AWp.keepTo [0, 1, 2, 7, 8, 9, 10] 0 ⟨[(0, q0 v1), (1, .tv (fzL 1 (cSl 2 c34) v2)), (2, .tv (fzL 1 (cSl 1 cStr) v3)), (7, .tv (ownL 1 32 (cSl 2 c34) v6)), (8, tI v7), (9, .tv (ownL 2 35 c34 ([] : List T34))), (10, tI (w64 (((gD v2 v7).length : Int) - (1 : Int))))], []⟩ ?_ z0 ?_
    ·kernel_rfl
    obtain ⟨y, hy, h⟩ := of_bind h
    refine AWp.mono (AWp.loop (S := (List T34) × Int) (Y := Out Bool (List T34)) (fun s => ⟨[(0, q0 v1), (1, .tv (fzL 1 (cSl 2 c34) v2)), (2, .tv (fzL 1 (cSl 1 cStr) v3)), (7, .tv (ownL 1 32 (cSl 2 c34) v6)), (8, tI v7), (9, .tv (ownL 2 35 c34 s.1)), (10, tI s.2)], []⟩) (fun s => f5_b1 v2 v7 s.1 s.2) (fun y e σ => match y with | .ret r => e = .ret ∧ σ = ⟨[(6, tB r)], []⟩ | .go v => e = .exit 2 ∧ σ = ⟨[(0, q0 v1), (1, .tv (fzL 1 (cSl 2 c34) v2)), (2, .tv (fzL 1 (cSl 1 cStr) v3)), (7, .tv (ownL 1 32 (cSl 2 c34) v6)), (8, tI v7), (9, .tv (ownL 2 35 c34 v))], []⟩) ?_ hy) ?_
    ·rintro ⟨v9, v10⟩ o h
     refine AWp.seq ?_
     refine AWp.seq ?_
     refine AWp.start [0, 1] [] [] [0, 1, 2, 7, 8, 9, 10, 38] 0 ⟨[(0, q0 v1), (1, .tv (fzL 1 (cSl 2 c34) v2)), (2, .tv (fzL 1 (cSl 1 cStr) v3)), (7, .tv (ownL 1 32 (cSl 2 c34) v6)), (8, tI v7), (9, .tv (ownL 2 35 c34 v9)), (10, tI v10), (38, tB (decide (v10 ≥ (0 : Int))))], []⟩ rfl ?_ z0 trivial ?_
     ·kernel_rfl
     refine AOps.nil ?_
     refine AWp.cond rfl (fun hb => ?_) fun hb => ?_
     ·replace h := of_true h hb
      refine AWp.keepTo [0, 1, 2, 7, 8, 9, 10] 0 ⟨[(0, q0 v1), (1, .tv (fzL 1 (cSl 2 c34) v2)), (2, .tv (fzL 1 (cSl 1 cStr) v3)), (7, .tv (ownL 1 32 (cSl 2 c34) v6)), (8, tI v7), (9, .tv (ownL 2 35 c34 v9)), (10, tI v10)], []⟩ ?_ z0 ?_
      ·kernel_rfl
      refine AWp.skip ?_
      refine AWp.seq ?_
      refine AWp.block ?_
      obtain ⟨hg, h⟩ := of_guard h
      refine AWp.start [0, 1, 2, 3, 4, 5, 6, 7, 8] [9, 10] [(0 : Int) ≤ v7, v7 < (v2.length : Int), (0 : Int) ≤ v10, v10 < ((gD v2 v7).length : Int)] [0, 1, 2, 7, 8, 9, 10, 41, 49] 0 ⟨[(0, q0 v1), (1, .tv (fzL 1 (cSl 2 c34) v2)), (2, .tv (fzL 1 (cSl 1 cStr) v3)), (7, .tv (ownL 1 32 (cSl 2 c34) v6)), (8, tI v7), (9, .tv (ownL 2 35 c34 v9)), (10, tI v10), (41, .al (.slot 9 0, [])), (49, .tv (.own 2 35 1 (newRowF (c34 (gD (gD v2 v7) v10)) 2)))], []⟩ rfl ?_ z0 ⟨hg.1, hg.2.1, hg.2.2.1, hg.2.2.2⟩ ?_
      ·kernel_rfl
      refine AOps.extL 49 c34 [gD (gD v2 v7) v10] rfl rfl (row_at c34 2 (fun _ => rfl) [gD (gD v2 v7) v10] _ rfl) ?_
      obtain ⟨hg, h⟩ := of_guard h
      refine AOps.go [9] [10] [(v9.length + [gD (gD v2 v7) v10].length) * 24 ≤ 140737488355328, PlainTo v9.length (fun i => c34 (v9.getD i default)), PlainTo ([gD (gD v2 v7) v10].length) (fun i => c34 ([gD (gD v2 v7) v10].getD i default))] [0, 1, 2, 7, 8, 10, 50] 0 ⟨[(0, q0 v1), (1, .tv (fzL 1 (cSl 2 c34) v2)), (2, .tv (fzL 1 (cSl 1 cStr) v3)), (7, .tv (ownL 1 32 (cSl 2 c34) v6)), (8, tI v7), (10, tI v10), (50, .tv (.own 2 35 (v9.length + [gD (gD v2 v7) v10].length) (appF v9.length (fun i => c34 (v9.getD i default)) (fun i => c34 ([gD (gD v2 v7) v10].getD i default)))))], []⟩ ?_ z0 ⟨hg, (fun _ _ => rfl), (fun _ _ => rfl)⟩ ?_
      ·kernel_rfl
      refine AOps.extL 50 c34 (v9 ++ [gD (gD v2 v7) v10]) rfl List.length_append.symm (app_at c34 v9 [gD (gD v2 v7) v10]) ?_
      refine AOps.go [10] [] [] [0, 1, 2, 7, 8, 9, 10] 0 ⟨[(0, q0 v1), (1, .tv (fzL 1 (cSl 2 c34) v2)), (2, .tv (fzL 1 (cSl 1 cStr) v3)), (7, .tv (ownL 1 32 (cSl 2 c34) v6)), (8, tI v7), (9, .tv (ownL 2 35 c34 (v9 ++ [gD (gD v2 v7) v10]))), (10, tI v10)], []⟩ ?_ z0 trivial ?_
      ·kernel_rfl
      refine AOps.nil ?_
      refine AWp.start [0, 1, 2] [] [] [0, 1, 2, 7, 8, 9, 10] 0 ⟨[(0, q0 v1), (1, .tv (fzL 1 (cSl 2 c34) v2)), (2, .tv (fzL 1 (cSl 1 cStr) v3)), (7, .tv (ownL 1 32 (cSl 2 c34) v6)), (8, tI v7), (9, .tv (ownL 2 35 c34 (v9 ++ [gD (gD v2 v7) v10]))), (10, tI (w64 (v10 - (1 : Int))))], []⟩ rfl ?_ z0 trivial ?_
      ·kernel_rfl
      refine AOps.nil ?_
      cases h
      exact Or.inl ⟨_, rfl, rfl, rfl⟩
     ·replace h := of_false h hb
      refine AWp.keepTo [0, 1, 2, 7, 8, 9] 0 ⟨[(0, q0 v1), (1, .tv (fzL 1 (cSl 2 c34) v2)), (2, .tv (fzL 1 (cSl 1 cStr) v3)), (7, .tv (ownL 1 32 (cSl 2 c34) v6)), (8, tI v7), (9, .tv (ownL 2 35 c34 v9))], []⟩ ?_ z0 ?_
      ·kernel_rfl
      refine AWp.exit ?_
      cases h
      exact Or.inr ⟨_, rfl, by simp, rfl, rfl⟩
    ·intro e σ hp
     rcases y with v12 | v11
     ·obtain ⟨rfl, rfl⟩ := hp
      cases h
      exact Or.inr ⟨_, rfl, by simp, rfl, rfl⟩
     ·obtain ⟨rfl, rfl⟩ := hp
      refine AWp.freezeL 9 c34 v11 rfl (fun _ => rfl) ?_
      refine AWp.start [0, 1, 2] [3, 4] [] [0, 1, 2, 7, 8, 51, 53] 0 ⟨[(0, q0 v1), (1, .tv (fzL 1 (cSl 2 c34) v2)), (2, .tv (fzL 1 (cSl 1 cStr) v3)), (7, .tv (ownL 1 32 (cSl 2 c34) v6)), (8, tI v7), (51, .al (.slot 7 0, [])), (53, .tv (.own 1 32 1 (newRowF [fzL 2 c34 v11] 1)))], []⟩ rfl ?_ z0 trivial ?_
      ·kernel_rfl
      refine AOps.extL 53 (cSl 2 c34) [v11] rfl rfl (row_at (cSl 2 c34) 1 (fun _ => rfl) [v11] _ rfl) ?_
      obtain ⟨hg, h⟩ := of_guard h
      refine AOps.go [3] [4] [(v6.length + [v11].length) * 24 ≤ 140737488355328, PlainTo v6.length (fun i => (cSl 2 c34) (v6.getD i default)), PlainTo ([v11].length) (fun i => (cSl 2 c34) ([v11].getD i default))] [0, 1, 2, 8, 54] 0 ⟨[(0, q0 v1), (1, .tv (fzL 1 (cSl 2 c34) v2)), (2, .tv (fzL 1 (cSl 1 cStr) v3)), (8, tI v7), (54, .tv (.own 1 32 (v6.length + [v11].length) (appF v6.length (fun i => (cSl 2 c34) (v6.getD i default)) (fun i => (cSl 2 c34) ([v11].getD i default)))))], []⟩ ?_ z0 ⟨hg, (fun _ _ => rfl), (fun _ _ => rfl)⟩ ?_
      ·kernel_rfl
      refine AOps.extL 54 (cSl 2 c34) (v6 ++ [v11]) rfl List.length_append.symm (app_at (cSl 2 c34) v6 [v11]) ?_
      refine AOps.go [4] [] [] [0, 1, 2, 7, 8] 0 ⟨[(0, q0 v1), (1, .tv (fzL 1 (cSl 2 c34) v2)), (2, .tv (fzL 1 (cSl 1 cStr) v3)), (7, .tv (ownL 1 32 (cSl 2 c34) (v6 ++ [v11]))), (8, tI v7)], []⟩ ?_ z0 trivial ?_
      ·kernel_rfl
      refine AOps.nil ?_
      refine AWp.start [0, 1, 2] [] [] [0, 1, 2, 7, 8] 0 ⟨[(0, q0 v1), (1, .tv (fzL 1 (cSl 2 c34) v2)), (2, .tv (fzL 1 (cSl 1 cStr) v3)), (7, .tv (ownL 1 32 (cSl 2 c34) (v6 ++ [v11]))), (8, tI (w64 (v7 - (1 : Int))))], []⟩ rfl ?_ z0 trivial ?_
      ·kernel_rfl
      refine AOps.nil ?_
      cases h
      exact Or.inl ⟨_, rfl, rfl, rfl⟩
   ·replace h := of_false h hb
    refine AWp.keepTo [0, 1, 2, 7] 0 ⟨[(0, q0 v1), (1, .tv (fzL 1 (cSl 2 c34) v2)), (2, .tv (fzL 1 (cSl 1 cStr) v3)), (7, .tv (ownL 1 32 (cSl 2 c34) v6))], []⟩ ?_ z0 ?_
    ·kernel_rfl
    refine AWp.exit ?_
    cases h
    exact Or.inr ⟨_, rfl, by simp, rfl, rfl⟩
  ·intro e σ hp
   rcases y with v13 | v8
   ·obtain ⟨rfl, rfl⟩ := hp
    cases h
    exact ⟨.inr rfl, rfl⟩
   ·obtain ⟨rfl, rfl⟩ := hp
    refine AWp.seq ?_
    refine AWp.start [0, 1, 2] [3, 4, 5, 6, 7, 8, 9, 10, 11, 12] [] [0, 2, 7, 56, 57, 58] 0 ⟨[(0, q0 v1), (2, .tv (fzL 1 (cSl 1 cStr) v3)), (7, .tv (ownL 1 32 (cSl 2 c34) v8)), (56, q0 v1), (57, .tv (fzL 1 (cSl 2 c34) v2)), (58, .tv (fzL 1 (cSl 1 cStr) v3))], []⟩ rfl ?_ z0 trivial ?_
    ·kernel_rfl
    obtain ⟨v14, hv14, h⟩ := of_bind h
    refine AOps.cons (AOne.callP (F := (FF 94 0)) _ rfl rfl rfl _ rfl rfl _ _ rfl Try.call11 [q0 v1, .tv (fzL 1 (cSl 2 c34) v2), .tv (fzL 1 (cSl 1 cStr) v3)] rfl rfl (f11_ok v1 v2 v3 hv14) rfl) ?_
    refine AOps.go [4, 5, 6, 7, 8, 9, 10, 11, 12] [] [] [0, 2, 7, 11, 12, 13, 14] 0 ⟨[(0, q0 v1), (2, .tv (fzL 1 (cSl 1 cStr) v3)), (7, .tv (ownL 1 32 (cSl 2 c34) v8)), (11, q1 v14.1), (12, q1 v14.2.1), (13, q1 v14.2.2.1), (14, tI v14.2.2.2)], []⟩ ?_ z0 trivial ?_
    ·kernel_rfl
    refine AOps.nil ?_
    refine AWp.seq ?_
    refine AWp.freezeL 7 (cSl 2 c34) v8 rfl (fun _ => rfl) ?_
    refine AWp.start [0, 1, 2] [3, 4, 5, 6, 7, 8, 9, 10, 11, 12] [] [11, 12, 13, 14, 65, 66, 67] 0 ⟨[(11, q1 v14.1), (12, q1 v14.2.1), (13, q1 v14.2.2.1), (14, tI v14.2.2.2), (65, q0 v1), (66, .tv (fzL 1 (cSl 2 c34) v8)), (67, .tv (fzL 1 (cSl 1 cStr) v3))], []⟩ rfl ?_ z0 trivial ?_
    ·kernel_rfl
    obtain ⟨v15, hv15, h⟩ := of_bind h
    refine AOps.cons (AOne.callP (F := (FF 94 0)) _ rfl rfl rfl _ rfl rfl _ _ rfl Try.call11 [q0 v1, .tv (fzL 1 (cSl 2 c34) v8), .tv (fzL 1 (cSl 1 cStr) v3)] rfl rfl (f11_ok v1 v8 v3 hv15) rfl) ?_
    refine AOps.go [4, 5, 6, 7, 8, 9, 10, 11, 12] [] [] [11, 12, 13, 14, 15, 16, 17, 18] 0 ⟨[(11, q1 v14.1), (12, q1 v14.2.1), (13, q1 v14.2.2.1), (14, tI v14.2.2.2), (15, q1 v15.1), (16, q1 v15.2.1), (17, q1 v15.2.2.1), (18, tI v15.2.2.2)], []⟩ ?_ z0 trivial ?_
    ·kernel_rfl
    refine AOps.nil ?_
    refine AWp.seq ?_
    refine AWp.start [0, 1, 2, 3] [4, 5, 6, 7, 8, 9, 10, 11, 12, 13, 14, 15, 16, 17, 18, 19, 20, 21] [] [11, 12, 13, 15, 16, 17, 76] 0 ⟨[(11, q1 v14.1), (12, q1 v14.2.1), (13, q1 v14.2.2.1), (15, q1 v15.1), (16, q1 v15.2.1), (17, q1 v15.2.2.1), (76, tB (v14.2.2.2 == v15.2.2.2))], []⟩ rfl ?_ z0 trivial ?_
    ·kernel_rfl
    obtain ⟨v16, hc4, h⟩ := of_bind h
    refine AOps.cut [4, 5, 6, 7] [8, 9, 10, 11, 12, 13, 14, 15, 16, 17, 18, 19, 20, 21] (fun σ => σ = ⟨[(12, q1 v14.2.1), (13, q1 v14.2.2.1), (16, q1 v15.2.1), (17, q1 v15.2.2.1), (80, tB v16)], []⟩) ?_ fun σ' hJ => ?_
    ·refine AOps.split (fun b => ⟨[(11, q1 v14.1), (12, q1 v14.2.1), (13, q1 v14.2.2.1), (15, q1 v15.1), (16, q1 v15.2.1), (17, q1 v15.2.2.1), (76, tB b)], []⟩) _ (fun hb => ?_) fun hb => ?_
     ·replace hc4 := of_true hc4 hb
      refine AOps.go [4, 5] [6, 7] [] [12, 13, 16, 17, 76, 77, 78] 0 ⟨[(12, q1 v14.2.1), (13, q1 v14.2.2.1), (16, q1 v15.2.1), (17, q1 v15.2.2.1), (76, tB true), (77, q1 v14.1), (78, q1 v15.1)], []⟩ ?_ z0 trivial ?_
      ·kernel_rfl
      obtain ⟨v17, hv17, hc4⟩ := of_bind hc4
      refine AOps.cons (AOne.callP (F := (FF 94 0)) _ rfl rfl rfl _ rfl rfl _ _ rfl Try.call13 [q1 v14.1, q1 v15.1] rfl rfl (f13_ok v14.1 v15.1 hv17) rfl) ?_
      refine AOps.go [7] [] [] [12, 13, 16, 17, 80] 0 ⟨[(12, q1 v14.2.1), (13, q1 v14.2.2.1), (16, q1 v15.2.1), (17, q1 v15.2.2.1), (80, tB v17)], []⟩ ?_ z0 trivial ?_
      ·kernel_rfl
      cases hc4
      exact AOps.nil rfl
     ·replace hc4 := of_false hc4 hb
      refine AOps.go [4, 5, 6, 7] [] [] [12, 13, 16, 17, 80] 0 ⟨[(12, q1 v14.2.1), (13, q1 v14.2.2.1), (16, q1 v15.2.1), (17, q1 v15.2.2.1), (80, tB false)], []⟩ ?_ z0 trivial ?_
      ·kernel_rfl
      cases hc4
      exact AOps.nil rfl
    subst hJ
    refine AOps.go [8] [9, 10, 11, 12, 13, 14, 15, 16, 17, 18, 19, 20, 21] [] [12, 13, 16, 17, 81] 0 ⟨[(12, q1 v14.2.1), (13, q1 v14.2.2.1), (16, q1 v15.2.1), (17, q1 v15.2.2.1), (81, tB v16)], []⟩ ?_ z0 trivial ?_
    ·kernel_rfl
    obtain ⟨v18, hc9, h⟩ := of_bind h
    refine AOps.cut [9, 10, 11, 12] [13, 14, 15, 16, 17, 18, 19, 20, 21] (fun σ => σ = ⟨[(13, q1 v14.2.2.1), (17, q1 v15.2.2.1), (85, tB v18)], []⟩) ?_ fun σ' hJ => ?_
    ·refine AOps.split (fun b => ⟨[(12, q1 v14.2.1), (13, q1 v14.2.2.1), (16, q1 v15.2.1), (17, q1 v15.2.2.1), (81, tB b)], []⟩) _ (fun hb => ?_) fun hb => ?_
     ·replace hc9 := of_true hc9 hb
      refine AOps.go [9, 10] [11, 12] [] [13, 17, 81, 82, 83] 0 ⟨[(13, q1 v14.2.2.1), (17, q1 v15.2.2.1), (81, tB true), (82, q1 v14.2.1), (83, q1 v15.2.1)], []⟩ ?_ z0 trivial ?_
      ·kernel_rfl
      obtain ⟨v19, hv19, hc9⟩ := of_bind hc9
      refine AOps.cons (AOne.callP (F := (FF 94 0)) _ rfl rfl rfl _ rfl rfl _ _ rfl Try.call13 [q1 v14.2.1, q1 v15.2.1] rfl rfl (f13_ok v14.2.1 v15.2.1 hv19) rfl) ?_
      refine AOps.go [12] [] [] [13, 17, 85] 0 ⟨[(13, q1 v14.2.2.1), (17, q1 v15.2.2.1), (85, tB v19)], []⟩ ?_ z0 trivial ?_
      ·kernel_rfl
      cases hc9
      exact AOps.nil rfl
     ·replace hc9 := of_false hc9 hb
      refine AOps.go [9, 10, 11, 12] [] [] [13, 17, 85] 0 ⟨[(13, q1 v14.2.2.1), (17, q1 v15.2.2.1), (85, tB false)], []⟩ ?_ z0 trivial ?_
      ·kernel_rfl
      cases hc9
      exact AOps.nil rfl
    subst hJ
    refine AOps.go [13] [14, 15, 16, 17, 18, 19, 20, 21] [] [13, 17, 86] 0 ⟨[(13, q1 v14.2.2.1), (17, q1 v15.2.2.1), (86, tB v18)], []⟩ ?_ z0 trivial ?_
    ·kernel_rfl
    obtain ⟨v20, hc14, h⟩ := of_bind h
    refine AOps.cut [14, 15, 16, 17] [18, 19, 20, 21] (fun σ => σ = ⟨[(90, tB v20)], []⟩) ?_ fun σ' hJ => ?_
    ·refine AOps.split (fun b => ⟨[(13, q1 v14.2.2.1), (17, q1 v15.2.2.1), (86, tB b)], []⟩) _ (fun hb => ?_) fun hb => ?_
     ·replace hc14 := of_true hc14 hb
      refine AOps.go [14, 15] [16, 17] [] [86, 87, 88] 0 ⟨[(86, tB true), (87, q1 v14.2.2.1), (88, q1 v15.2.2.1)], []⟩ ?_ z0 trivial ?_
      ·kernel_rfl
      obtain ⟨v21, hv21, hc14⟩ := of_bind hc14
      refine AOps.cons (AOne.callP (F := (FF 94 0)) _ rfl rfl rfl _ rfl rfl _ _ rfl Try.call13 [q1 v14.2.2.1, q1 v15.2.2.1] rfl rfl (f13_ok v14.2.2.1 v15.2.2.1 hv21) rfl) ?_
      refine AOps.go [17] [] [] [90] 0 ⟨[(90, tB v21)], []⟩ ?_ z0 trivial ?_
      ·kernel_rfl
      cases hc14
      exact AOps.nil rfl
     ·replace hc14 := of_false hc14 hb
      refine AOps.go [14, 15, 16, 17] [] [] [90] 0 ⟨[(90, tB false)], []⟩ ?_ z0 trivial ?_
      ·kernel_rfl
      cases hc14
      exact AOps.nil rfl
    subst hJ
    refine AOps.go [18] [19, 20, 21] [] [91] 0 ⟨[(91, tB v20)], []⟩ ?_ z0 trivial ?_
    ·kernel_rfl
    obtain ⟨v22, hc19, h⟩ := of_bind h
    refine AOps.cut [19, 20] [21] (fun σ => σ = ⟨[(93, tB v22)], []⟩) ?_ fun σ' hJ => ?_
    ·refine AOps.split (fun b => ⟨[(91, tB b)], []⟩) _ (fun hb => ?_) fun hb => ?_
     ·replace hc19 := of_true hc19 hb
      obtain ⟨v23, hv23, hc19⟩ := of_bind hc19
      refine AOps.cons (AOne.callP (F := (FF 94 0)) _ rfl rfl rfl _ rfl rfl _ _ rfl Try.call10 [] rfl rfl (f10_ok  hv23) rfl) ?_
      refine AOps.go [20] [] [] [93] 0 ⟨[(93, tB v23)], []⟩ ?_ z0 trivial ?_
      ·kernel_rfl
      cases hc19
      exact AOps.nil rfl
     ·replace hc19 := of_false hc19 hb
      refine AOps.go [19, 20] [] [] [93] 0 ⟨[(93, tB false)], []⟩ ?_ z0 trivial ?_
      ·kernel_rfl
      cases hc19
      exact AOps.nil rfl
    subst hJ
    refine AOps.go [21] [] [] [6] 0 ⟨[(6, tB v22)], []⟩ ?_ z0 trivial ?_
    ·kernel_rfl
    refine AOps.nil ?_
    refine AWp.ret ?_
    cases h
    exact ⟨.inr rfl, rfl⟩

end Go.Sx.sto
