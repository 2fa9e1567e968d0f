/- Printed by program (wip/gen): plain functions and their walks; no condition. -/
import Derived.Test.YtgabiokgockopaaGx1
namespace Go.Sx.sto
open Go Go.Sx Go.Proofs

noncomputable def f11_j1 (v1 : List T36) (v5 : T57) (v8 : List Int) (v11 : Int) (v14 : List Int) (v15 : List (Int × Int)) (v16 : Int) : Option (((List Int) × (List Int) × (List (Int × Int)) × Int) ⊕ Out ((List Int) × (List Int) × (List Int) × Int) ((List Int) × (List Int))) :=
 if (v8.length + [v16].length) * 8 ≤ 140737488355328 then if (0 : Int) ≤ v16 ∧ v16 < (v14.length : Int) ∧ (0 : Int) ≤ v11 ∧ v11 < (v1.length : Int) then if (0 : Int) ≤ v11 ∧ v11 < (v5.f2.length : Int) then (f25 (v1.getD v11.toNat default)).bind fun v17 => if (0 : Int) ≤ v16 ∧ v16 < (v14.length : Int) then some (.inl (v8 ++ [v16], v14.set v16.toNat (if w64 ((v5.f2.getD v11.toNat default) + v17) > v14.getD v16.toNat default then w64 ((v5.f2.getD v11.toNat default) + v17) else v14.getD v16.toNat default), v15, w64 (v11 + (1 : Int)))) else none else none else none else none

noncomputable def f11_b2 (v1 : List T36) (v5 : T57) (v8 : List Int) (v9 : List Int) (v10 : List (Int × Int)) (v11 : Int) : Option (((List Int) × (List Int) × (List (Int × Int)) × Int) ⊕ Out ((List Int) × (List Int) × (List Int) × Int) ((List Int) × (List Int))) :=
 cond (decide (v11 < (v5.f1.length : Int))) (if (0 : Int) ≤ v11 ∧ v11 < (v5.f1.length : Int) then cond (!(mhas v10 (v5.f1.getD v11.toNat default))) (if (v9.length + [(0 : Int)].length) * 8 ≤ 140737488355328 then f11_j1 v1 v5 v8 v11 (v9 ++ [(0 : Int)]) (mset v10 (v5.f1.getD v11.toNat default) (v9.length : Int)) (v9.length : Int) else none) (f11_j1 v1 v5 v8 v11 v9 v10 (mget v10 (v5.f1.getD v11.toNat default))) else none) (some (.inr (.go (v8, v9))))

noncomputable def f11 (v1 : List T36) (v2 : List (List T34)) (v3 : List (List (List UInt8))) : Option ((List Int) × (List Int) × (List Int) × Int) :=
 (f24 v1 v2 v3).bind fun v4 => match v4 with | (none, v6, v7) => cond (v7 != (0 : Int)) (some (([] : List Int), ([] : List Int), ([] : List Int), v7)) none | (some v5, v6, v7) => cond (v7 != (0 : Int)) (some (([] : List Int), ([] : List Int), ([] : List Int), v7)) ((iter (fun s => f11_b2 v1 v5 s.1 s.2.1 s.2.2.1 s.2.2.2) ([], [], ([] : List (Int × Int)), (0 : Int))).bind fun y => match y with | .ret v18 => some (v18.1, v18.2.1, v18.2.2.1, v18.2.2.2) | .go (v12, v13) => (f26 v5.f2).bind fun v19 => some (v12, v19, v13, (0 : Int)))

theorem f11_ok (v1 : List T36) (v2 : List (List T34)) (v3 : List (List (List UInt8))) {r : (List Int) × (List Int) × (List Int) × Int} (h : f11 v1 v2 v3 = some r) : ACall Try.prog 11 [.tv (fzL 3 c36 v1), .tv (fzL 1 (cSl 2 c34) v2), .tv (fzL 1 (cSl 1 cStr) v3)] [] (.tup [.tv (fzL 1 (cInt .i64) r.1), .tv (fzL 1 (cInt .i64) r.2.1), .tv (fzL 1 (cInt .i64) r.2.2.1), .tv (.int .i64 r.2.2.2)]) [] := by
 refine ACall.ofN (FF 89 0) (rs := [6, 7, 8, 9]) (env := [(6, q2 r.1), (7, q2 r.2.1), (8, q2 r.2.2.1), (9, tI r.2.2.2)]) Try.func11 rfl Try.ntmps11 Try.results11 (by decide) (by decide) rfl (Nat.le_of_ble_eq_true rfl) rfl (get_ofN _ _ _ rfl) (ok_ofN _ rfl) ?_
 refine AWp.seq ?_
 refine AWp.start [0, 1, 2, 3] [] [] [0, 1, 2, 6, 8] 0 ⟨[(0, q0 v1), (1, .tv (fzL 1 (cSl 2 c34) v2)), (2, .tv (fzL 1 (cSl 1 cStr) v3)), (6, .tv (.sc (.slice none 0 0))), (8, .tv (.sc (.slice none 0 0)))], []⟩ rfl ?_ z0 trivial ?_
 ·kernel_rfl
 refine AOps.nil ?_
 refine AWp.seq ?_
 refine AWp.start [0, 1, 2] [3, 4, 5, 6, 7, 8, 9, 10] [] [0, 6, 8, 19, 20, 21] 0 ⟨[(0, q0 v1), (6, .tv (.sc (.slice none 0 0))), (8, .tv (.sc (.slice none 0 0))), (19, q0 v1), (20, .tv (fzL 1 (cSl 2 c34) v2)), (21, .tv (fzL 1 (cSl 1 cStr) v3))], []⟩ rfl ?_ z0 trivial ?_
 ·kernel_rfl
 obtain ⟨v4, hv4, h⟩ := of_bind h
 rcases v4 with ⟨(_ | v5), v6, v7⟩
 ·replace h : (cond (v7 != (0 : Int)) (some (([] : List Int), ([] : List Int), ([] : List Int), v7)) none) = some r := h
  refine AOps.cons (AOne.callO (F := (FF 89 0)) _ rfl rfl rfl 22 rfl rfl 24 [] rfl Try.call24 [] (by decide) [q0 v1, .tv (fzL 1 (cSl 2 c34) v2), .tv (fzL 1 (cSl 1 cStr) v3)] (by kernel_rfl) [] (by kernel_rfl) (f24_ok v1 v2 v3 hv4) (by kernel_rfl) (by kernel_rfl) _ rfl) ?_
  refine AOps.go [4, 5, 6, 7, 8, 9, 10] [] [] [0, 6, 8, 10, 12] 0 ⟨[(0, q0 v1), (6, .tv (.sc (.slice none 0 0))), (8, .tv (.sc (.slice none 0 0))), (10, .tv (.sc (.pointer none))), (12, tI v7)], []⟩ ?_ z0 trivial ?_
  ·kernel_rfl
  refine AOps.nil ?_
  refine AWp.seq ?_
  refine AWp.seq ?_
  refine AWp.start [0, 1] [] [] [0, 6, 8, 10, 12, 27] 0 ⟨[(0, q0 v1), (6, .tv (.sc (.slice none 0 0))), (8, .tv (.sc (.slice none 0 0))), (10, .tv (.sc (.pointer none))), (12, tI v7), (27, tB (v7 != (0 : Int)))], []⟩ rfl ?_ z0 trivial ?_
  ·kernel_rfl
  refine AOps.nil ?_
  refine AWp.cond rfl (fun hb => ?_) fun hb => ?_
  ·replace h := of_true h hb
   refine AWp.keepTo [12] 0 ⟨[(12, tI v7)], []⟩ ?_ z0 ?_
   ·kernel_rfl
   refine AWp.seq ?_
   refine AWp.start [0, 1, 2, 3, 4] [] [] [6, 7, 8, 9] 0 ⟨[(6, .tv (.sc (.slice none 0 0))), (7, .tv (.sc (.slice none 0 0))), (8, .tv (.sc (.slice none 0 0))), (9, tI v7)], []⟩ rfl ?_ z0 trivial ?_
   ·kernel_rfl
   refine AOps.nil ?_
   refine AWp.nilFz 6 1 (fun i => (cInt .i64) (([] : List Int).getD i default)) rfl ?_
   refine AWp.nilFz 7 1 (fun i => (cInt .i64) (([] : List Int).getD i default)) rfl ?_
   refine AWp.nilFz 8 1 (fun i => (cInt .i64) (([] : List Int).getD i default)) rfl ?_
   refine AWp.keepTo [6, 7, 8, 9] 0 ⟨[(6, q2 ([] : List Int)), (7, q2 ([] : List Int)), (8, q2 ([] : List Int)), (9, tI v7)], []⟩ ?_ z0 ?_
   ·kernel_rfl
   refine AWp.ret ?_
   cases h
   exact ⟨.inr rfl, rfl⟩
  ·replace h := of_false h hb
   refine AWp.keepTo [0, 6, 8, 10] 0 ⟨[(0, q0 v1), (6, .tv (.sc (.slice none 0 0))), (8, .tv (.sc (.slice none 0 0))), (10, .tv (.sc (.pointer none)))], []⟩ ?_ z0 ?_
   ·kernel_rfl
   refine AWp.skip ?_
   refine AWp.seq ?_
   refine AWp.start [0, 1] [] [] [0, 6, 8, 10, 13] 0 ⟨[(0, q0 v1), (6, .tv (.sc (.slice none 0 0))), (8, .tv (.sc (.slice none 0 0))), (10, .tv (.sc (.pointer none))), (13, .tv (.mp .i64 (some .i64) ([] : List (Int × Int))))], []⟩ rfl ?_ z0 trivial ?_
   ·kernel_rfl
   refine AOps.nil ?_
   refine AWp.seq ?_
   refine AWp.seq ?_
   cases h
 ·replace h : (cond (v7 != (0 : Int)) (some (([] : List Int), ([] : List Int), ([] : List Int), v7)) ((iter (fun s => f11_b2 v1 v5 s.1 s.2.1 s.2.2.1 s.2.2.2) ([], [], ([] : List (Int × Int)), (0 : Int))).bind fun y => match y with | .ret v18 => some (v18.1, v18.2.1, v18.2.2.1, v18.2.2.2) | .go (v12, v13) => (f26 v5.f2).bind fun v19 => some (v12, v19, v13, (0 : Int)))) = some r := h
  refine AOps.cons (AOne.callO (F := (FF 89 0)) _ rfl rfl rfl 22 rfl rfl 24 [] rfl Try.call24 [] (by decide) [q0 v1, .tv (fzL 1 (cSl 2 c34) v2), .tv (fzL 1 (cSl 1 cStr) v3)] (by kernel_rfl) [] (by kernel_rfl) (f24_ok v1 v2 v3 hv4) (by kernel_rfl) (by kernel_rfl) _ rfl) ?_
  refine AOps.go [4, 5, 6, 7, 8, 9, 10] [] [] [0, 6, 8, 10, 12] 1 ⟨[(0, q0 v1), (6, .tv (.sc (.slice none 0 0))), (8, .tv (.sc (.slice none 0 0))), (10, .pc 0 0), (12, tI v7)], [.cells 58 [k1 v5.f0, k0 v5.f1, k0 v5.f2]]⟩ ?_ z0 trivial ?_
  ·kernel_rfl
  refine AOps.nil ?_
  refine AWp.seq ?_
  refine AWp.seq ?_
  refine AWp.start [0, 1] [] [] [0, 6, 8, 10, 12, 27] 1 ⟨[(0, q0 v1), (6, .tv (.sc (.slice none 0 0))), (8, .tv (.sc (.slice none 0 0))), (10, .pc 0 0), (12, tI v7), (27, tB (v7 != (0 : Int)))], [.cells 58 [k1 v5.f0, k0 v5.f1, k0 v5.f2]]⟩ rfl ?_ z0 trivial ?_
  ·kernel_rfl
  refine AOps.nil ?_
  refine AWp.cond rfl (fun hb => ?_) fun hb => ?_
  ·replace h := of_true h hb
   refine AWp.keepTo [12] 0 ⟨[(12, tI v7)], []⟩ ?_ z0 ?_
   ·kernel_rfl
   refine AWp.seq ?_
   refine AWp.start [0, 1, 2, 3, 4] [] [] [6, 7, 8, 9] 0 ⟨[(6, .tv (.sc (.slice none 0 0))), (7, .tv (.sc (.slice none 0 0))), (8, .tv (.sc (.slice none 0 0))), (9, tI v7)], []⟩ rfl ?_ z0 trivial ?_
   ·kernel_rfl
   refine AOps.nil ?_
   refine AWp.nilFz 6 1 (fun i => (cInt .i64) (([] : List Int).getD i default)) rfl ?_
   refine AWp.nilFz 7 1 (fun i => (cInt .i64) (([] : List Int).getD i default)) rfl ?_
   refine AWp.nilFz 8 1 (fun i => (cInt .i64) (([] : List Int).getD i default)) rfl ?_
   refine AWp.keepTo [6, 7, 8, 9] 0 ⟨[(6, q2 ([] : List Int)), (7, q2 ([] : List Int)), (8, q2 ([] : List Int)), (9, tI v7)], []⟩ ?_ z0 ?_
   ·kernel_rfl
   refine AWp.ret ?_
   cases h
   exact ⟨.inr rfl, rfl⟩
  ·replace h := of_false h hb
   refine AWp.keepTo [0, 6, 8, 10] 1 ⟨[(0, q0 v1), (6, .tv (.sc (.slice none 0 0))), (8, .tv (.sc (.slice none 0 0))), (10, .pc 0 0)], [.cells 58 [k1 v5.f0, k0 v5.f1, k0 v5.f2]]⟩ ?_ z0 ?_
   ·kernel_rfl
   refine AWp.skip ?_
   refine AWp.seq ?_
   refine AWp.start [0, 1] [] [] [0, 6, 8, 10, 13] 1 ⟨[(0, q0 v1), (6, .tv (.sc (.slice none 0 0))), (8, .tv (.sc (.slice none 0 0))), (10, .pc 0 0), (13, .tv (.mp .i64 (some .i64) ([] : List (Int × Int))))], [.cells 58 [k1 v5.f0, k0 v5.f1, k0 v5.f2]]⟩ rfl ?_ z0 trivial ?_
   ·kernel_rfl
   refine AOps.nil ?_
   refine AWp.seq ?_
   refine AWp.seq ?_
   refine AWp.start [0, 1, 2, 3, 4, 5] [] [] [0, 6, 8, 10, 13, 33, 34, 35] 1 ⟨[(0, q0 v1), (6, .tv (.sc (.slice none 0 0))), (8, .tv (.sc (.slice none 0 0))), (10, .pc 0 0), (13, .tv (.mp .i64 (some .i64) ([] : List (Int × Int)))), (33, .al (.cell 0 1, [])), (34, tI (v5.f1.length : Int)), (35, tI (0 : Int))], [.cells 58 [k1 v5.f0, k0 v5.f1, k0 v5.f2]]⟩ rfl ?_ z0 trivial ?_
   ·kernel_rfl
   refine AOps.nil ?_
   refine AWp.block ?_
   refine AWp.nilOwn 6 1 3 (fun i => (cInt .i64) (([] : List Int).getD i default)) rfl ?_
   refine AWp.nilOwn 8 1 3 (fun i => (cInt .i64) (([] : List Int).getD i default)) rfl ?_
   refine AWp.keepTo [0, 6, 8, 10, 13, 33, 34, 35] 1 ⟨[(0, q0 v1), (6, q1 ([] : List Int)), (8, q1 ([] : List Int)), (10, .pc 0 0), (13, .tv (.mp .i64 (some .i64) ([] : List (Int × Int)))), (33, .al (.cell 0 1, [])), (34, tI (v5.f1.length : Int)), (35, tI (0 : Int))], [.cells 58 [k1 v5.f0, k0 v5.f1, k0 v5.f2]]⟩ ?_ z0 ?_
   ·kernel_rfl
   obtain ⟨y, hy, h⟩ := of_bind h
   refine AWp.mono (AWp.loop (S := (List Int) × (List Int) × (List (Int × Int)) × Int) (Y := Out ((List Int) × (List Int) × (List Int) × Int) ((List Int) × (List Int))) (fun s => ⟨[(0, q0 v1), (6, q1 s.1), (8, q1 s.2.1), (10, .pc 0 0), (13, .tv (.mp .i64 (some .i64) s.2.2.1)), (33, .al (.cell 0 1, [])), (34, tI (v5.f1.length : Int)), (35, tI s.2.2.2)], [.cells 58 [k1 v5.f0, k0 v5.f1, k0 v5.f2]]⟩) (fun s => f11_b2 v1 v5 s.1 s.2.1 s.2.2.1 s.2.2.2) (fun y e σ => match y with | .ret r => e = .ret ∧ σ = ⟨[(6, q2 r.1), (7, q2 r.2.1), (8, q2 r.2.2.1), (9, tI r.2.2.2)], []⟩ | .go v => e = .exit 0 ∧ σ = ⟨[(6, q1 v.1), (8, q1 v.2), (10, .pc 0 0)], [.cells 58 [k1 v5.f0, k0 v5.f1, k0 v5.f2]]⟩) ?_ hy) ?_
   ·rintro ⟨v8, v9, v10, v11⟩ o h
    refine AWp.seq ?_
    refine AWp.start [0] [] [] [0, 6, 8, 10, 13, 33, 34, 35, 36] 1 ⟨[(0, q0 v1), (6, q1 v8), (8, q1 v9), (10, .pc 0 0), (13, .tv (.mp .i64 (some .i64) v10)), (33, .al (.cell 0 1, [])), (34, tI (v5.f1.length : Int)), (35, tI v11), (36, tB (decide (v11 < (v5.f1.length : Int))))], [.cells 58 [k1 v5.f0, k0 v5.f1, k0 v5.f2]]⟩ rfl ?_ z0 trivial ?_
    ·kernel_rfl
    refine AOps.nil ?_
    refine AWp.seq ?_
    refine AWp.cond rfl (fun hb => ?_) fun hb => ?_
    ·replace h := of_true h hb
     refine AWp.keepTo [0, 6, 8, 10, 13, 33, 34, 35] 1 ⟨[(0, q0 v1), (6, q1 v8), (8, q1 v9), (10, .pc 0 0), (13, .tv (.mp .i64 (some .i64) v10)), (33, .al (.cell 0 1, [])), (34, tI (v5.f1.length : Int)), (35, tI v11)], [.cells 58 [k1 v5.f0, k0 v5.f1, k0 v5.f2]]⟩ ?_ z0 ?_
     ·kernel_rfl
     refine AWp.skip ?_
     refine AWp.seq ?_
     refine AWp.block ?_
     refine AWp.seq ?_
     obtain ⟨hg, h⟩ := of_guard h
     refine AWp.start [0, 1, 2, 3, 4] [] [(0 : Int) ≤ v11, v11 < (v5.f1.length : Int)] [0, 6, 8, 10, 13, 14, 15, 33, 34, 35] 1 ⟨[(0, q0 v1), (6, q1 v8), (8, q1 v9), (10, .pc 0 0), (13, .tv (.mp .i64 (some .i64) v10)), (14, tI v11), (15, tI (gD v5.f1 v11)), (33, .al (.cell 0 1, [])), (34, tI (v5.f1.length : Int)), (35, tI v11)], [.cells 58 [k1 v5.f0, k0 v5.f1, k0 v5.f2]]⟩ rfl ?_ z0 ⟨hg.1, hg.2⟩ ?_
     ·kernel_rfl
     refine AOps.nil ?_
     refine AWp.seq ?_
     refine AWp.start [0, 1, 2, 3, 4, 5, 6, 7] [] [] [0, 6, 8, 10, 13, 14, 15, 16, 17, 33, 34, 35] 1 ⟨[(0, q0 v1), (6, q1 v8), (8, q1 v9), (10, .pc 0 0), (13, .tv (.mp .i64 (some .i64) v10)), (14, tI v11), (15, tI (gD v5.f1 v11)), (16, tI (mget v10 (gD v5.f1 v11))), (17, tB (mhas v10 (gD v5.f1 v11))), (33, .al (.cell 0 1, [])), (34, tI (v5.f1.length : Int)), (35, tI v11)], [.cells 58 [k1 v5.f0, k0 v5.f1, k0 v5.f2]]⟩ rfl ?_ z0 trivial ?_
     ·kernel_rfl
     refine AOps.nil ?_
     refine AWp.join (V := (List Int) × (List (Int × Int)) × Int) (fun w => ⟨[(0, q0 v1), (6, q1 v8), (8, q1 w.1), (10, .pc 0 0), (13, .tv (.mp .i64 (some .i64) w.2.1)), (14, tI v11), (16, tI w.2.2), (33, .al (.cell 0 1, [])), (34, tI (v5.f1.length : Int)), (35, tI v11)], [.cells 58 [k1 v5.f0, k0 v5.f1, k0 v5.f2]]⟩) (fun w => f11_j1 v1 v5 v8 v11 w.1 w.2.1 w.2.2 = some o) ?_ ?_
     ·refine AWp.seq ?_
      refine AWp.start [0, 1] [] [] [0, 6, 8, 10, 13, 14, 15, 16, 33, 34, 35, 47] 1 ⟨[(0, q0 v1), (6, q1 v8), (8, q1 v9), (10, .pc 0 0), (13, .tv (.mp .i64 (some .i64) v10)), (14, tI v11), (15, tI (gD v5.f1 v11)), (16, tI (mget v10 (gD v5.f1 v11))), (33, .al (.cell 0 1, [])), (34, tI (v5.f1.length : Int)), (35, tI v11), (47, tB (!(mhas v10 (gD v5.f1 v11))))], [.cells 58 [k1 v5.f0, k0 v5.f1, k0 v5.f2]]⟩ rfl ?_ z0 trivial ?_
      ·kernel_rfl
      refine AOps.nil ?_
      refine AWp.cond rfl (fun hb => ?_) fun hb => ?_
      ·replace h := of_true h hb
       refine AWp.keepTo [0, 6, 8, 10, 13, 14, 15, 33, 34, 35] 1 ⟨[(0, q0 v1), (6, q1 v8), (8, q1 v9), (10, .pc 0 0), (13, .tv (.mp .i64 (some .i64) v10)), (14, tI v11), (15, tI (gD v5.f1 v11)), (33, .al (.cell 0 1, [])), (34, tI (v5.f1.length : Int)), (35, tI v11)], [.cells 58 [k1 v5.f0, k0 v5.f1, k0 v5.f2]]⟩ ?_ z0 ?_
       ·kernel_rfl
       refine AWp.seq ?_
       refine AWp.start [0, 1, 2] [] [] [0, 6, 8, 10, 13, 14, 15, 16, 33, 34, 35] 1 ⟨[(0, q0 v1), (6, q1 v8), (8, q1 v9), (10, .pc 0 0), (13, .tv (.mp .i64 (some .i64) v10)), (14, tI v11), (15, tI (gD v5.f1 v11)), (16, tI (v9.length : Int)), (33, .al (.cell 0 1, [])), (34, tI (v5.f1.length : Int)), (35, tI v11)], [.cells 58 [k1 v5.f0, k0 v5.f1, k0 v5.f2]]⟩ rfl ?_ z0 trivial ?_
       ·kernel_rfl
       refine AOps.nil ?_
       refine AWp.seq ?_
       refine AWp.start [0, 1, 2, 3] [] [] [0, 6, 8, 10, 13, 14, 16, 33, 34, 35] 1 ⟨[(0, q0 v1), (6, q1 v8), (8, q1 v9), (10, .pc 0 0), (13, .tv (.mp .i64 (some .i64) (mset v10 (gD v5.f1 v11) (v9.length : Int)))), (14, tI v11), (16, tI (v9.length : Int)), (33, .al (.cell 0 1, [])), (34, tI (v5.f1.length : Int)), (35, tI v11)], [.cells 58 [k1 v5.f0, k0 v5.f1, k0 v5.f2]]⟩ rfl ?_ z0 trivial ?_
       ·kernel_rfl
       refine AOps.nil ?_
       refine AWp.start [0, 1] [2, 3] [] [0, 6, 8, 10, 13, 14, 16, 33, 34, 35, 53, 54] 1 ⟨[(0, q0 v1), (6, q1 v8), (8, q1 v9), (10, .pc 0 0), (13, .tv (.mp .i64 (some .i64) (mset v10 (gD v5.f1 v11) (v9.length : Int)))), (14, tI v11), (16, tI (v9.length : Int)), (33, .al (.cell 0 1, [])), (34, tI (v5.f1.length : Int)), (35, tI v11), (53, .al (.slot 8 0, [])), (54, .tv (.own 1 3 1 (newRowF [.int .i64 (0 : Int)] 1)))], [.cells 58 [k1 v5.f0, k0 v5.f1, k0 v5.f2]]⟩ rfl ?_ z0 trivial ?_
       ·kernel_rfl
       refine AOps.extL 54 (cInt .i64) [(0 : Int)] rfl rfl (row_at (cInt .i64) 1 (fun _ => rfl) [(0 : Int)] _ rfl) ?_
       obtain ⟨hg, h⟩ := of_guard h
       refine AOps.go [2] [3] [(v9.length + [(0 : Int)].length) * 8 ≤ 140737488355328, PlainTo v9.length (fun i => (cInt .i64) (v9.getD i default)), PlainTo ([(0 : Int)].length) (fun i => (cInt .i64) ([(0 : Int)].getD i default))] [0, 6, 10, 13, 14, 16, 33, 34, 35, 55] 1 ⟨[(0, q0 v1), (6, q1 v8), (10, .pc 0 0), (13, .tv (.mp .i64 (some .i64) (mset v10 (gD v5.f1 v11) (v9.length : Int)))), (14, tI v11), (16, tI (v9.length : Int)), (33, .al (.cell 0 1, [])), (34, tI (v5.f1.length : Int)), (35, tI v11), (55, .tv (.own 1 3 (v9.length + [(0 : Int)].length) (appF v9.length (fun i => (cInt .i64) (v9.getD i default)) (fun i => (cInt .i64) ([(0 : Int)].getD i default)))))], [.cells 58 [k1 v5.f0, k0 v5.f1, k0 v5.f2]]⟩ ?_ z0 ⟨hg, (fun _ _ => rfl), (fun _ _ => rfl)⟩ ?_
       ·kernel_rfl
       refine AOps.extL 55 (cInt .i64) (v9 ++ [(0 : Int)]) rfl List.length_append.symm (app_at (cInt .i64) v9 [(0 : Int)]) ?_
       refine AOps.go [3] [] [] [0, 6, 8, 10, 13, 14, 16, 33, 34, 35] 1 ⟨[(0, q0 v1), (6, q1 v8), (8, q1 (v9 ++ [(0 : Int)])), (10, .pc 0 0), (13, .tv (.mp .i64 (some .i64) (mset v10 (gD v5.f1 v11) (v9.length : Int)))), (14, tI v11), (16, tI (v9.length : Int)), (33, .al (.cell 0 1, [])), (34, tI (v5.f1.length : Int)), (35, tI v11)], [.cells 58 [k1 v5.f0, k0 v5.f1, k0 v5.f2]]⟩ ?_ z0 trivial ?_
       ·kernel_rfl
       refine AOps.nil ?_
       exact ⟨(v9 ++ [(0 : Int)], mset v10 (gD v5.f1 v11) (v9.length : Int), (v9.length : Int)), h, rfl⟩
      ·replace h := of_false h hb
       refine AWp.keepTo [0, 6, 8, 10, 13, 14, 16, 33, 34, 35] 1 ⟨[(0, q0 v1), (6, q1 v8), (8, q1 v9), (10, .pc 0 0), (13, .tv (.mp .i64 (some .i64) v10)), (14, tI v11), (16, tI (mget v10 (gD v5.f1 v11))), (33, .al (.cell 0 1, [])), (34, tI (v5.f1.length : Int)), (35, tI v11)], [.cells 58 [k1 v5.f0, k0 v5.f1, k0 v5.f2]]⟩ ?_ z0 ?_
       ·kernel_rfl
       refine AWp.skip ?_
       exact ⟨(v9, v10, mget v10 (gD v5.f1 v11)), h, rfl⟩
     ·rintro ⟨v14, v15, v16⟩ h
      refine AWp.seq ?_
      refine AWp.start [0, 1, 2] [3, 4] [] [0, 6, 8, 10, 13, 14, 16, 33, 34, 35, 56, 58] 1 ⟨[(0, q0 v1), (6, q1 v8), (8, q1 v14), (10, .pc 0 0), (13, .tv (.mp .i64 (some .i64) v15)), (14, tI v11), (16, tI v16), (33, .al (.cell 0 1, [])), (34, tI (v5.f1.length : Int)), (35, tI v11), (56, .al (.slot 6 0, [])), (58, .tv (.own 1 3 1 (newRowF [.int .i64 v16] 1)))], [.cells 58 [k1 v5.f0, k0 v5.f1, k0 v5.f2]]⟩ rfl ?_ z0 trivial ?_
      ·kernel_rfl
      refine AOps.extL 58 (cInt .i64) [v16] rfl rfl (row_at (cInt .i64) 1 (fun _ => rfl) [v16] _ rfl) ?_
      obtain ⟨hg, h⟩ := of_guard h
      refine AOps.go [3] [4] [(v8.length + [v16].length) * 8 ≤ 140737488355328, PlainTo v8.length (fun i => (cInt .i64) (v8.getD i default)), PlainTo ([v16].length) (fun i => (cInt .i64) ([v16].getD i default))] [0, 8, 10, 13, 14, 16, 33, 34, 35, 59] 1 ⟨[(0, q0 v1), (8, q1 v14), (10, .pc 0 0), (13, .tv (.mp .i64 (some .i64) v15)), (14, tI v11), (16, tI v16), (33, .al (.cell 0 1, [])), (34, tI (v5.f1.length : Int)), (35, tI v11), (59, .tv (.own 1 3 (v8.length + [v16].length) (appF v8.length (fun i => (cInt .i64) (v8.getD i default)) (fun i => (cInt .i64) ([v16].getD i default)))))], [.cells 58 [k1 v5.f0, k0 v5.f1, k0 v5.f2]]⟩ ?_ z0 ⟨hg, (fun _ _ => rfl), (fun _ _ => rfl)⟩ ?_
      ·kernel_rfl
      refine AOps.extL 59 (cInt .i64) (v8 ++ [v16]) rfl List.length_append.symm (app_at (cInt .i64) v8 [v16]) ?_
      refine AOps.go [4] [] [] [0, 6, 8, 10, 13, 14, 16, 33, 34, 35] 1 ⟨[(0, q0 v1), (6, q1 (v8 ++ [v16])), (8, q1 v14), (10, .pc 0 0), (13, .tv (.mp .i64 (some .i64) v15)), (14, tI v11), (16, tI v16), (33, .al (.cell 0 1, [])), (34, tI (v5.f1.length : Int)), (35, tI v11)], [.cells 58 [k1 v5.f0, k0 v5.f1, k0 v5.f2]]⟩ ?_ z0 trivial ?_
      ·kernel_rfl
      refine AOps.nil ?_
      refine AWp.draw FFm _ (n := 22) rfl (ls := #[n1, n1, n1, n1, n1, n1, n1, n1, n1, n1, n1, n1, n1, n1, n1, n1, n1, n1, n1, n1, n1, n1]) rfl ?_ (fun _ h => h)
      obtain ⟨hg, h⟩ := of_guard h
      refine AAny.go (by kernel_rfl) [0, 1, 2, 3, 4, 6, 7, 8, 10, 13, 14, 15, 16] (fuel' := 9) rfl [(0 : Int) ≤ v16, v16 < (v14.length : Int), (0 : Int) ≤ v11, v11 < (v1.length : Int)] #[y1, y1, y1, y1, y1, n1, y1, y1, y1, n1, y1, n1, n1, y1, y1, y1, y1, n1, n1, n1, n1, n1] [0, 6, 8, 10, 13, 33, 34, 35, 60, 61, 64, 68, 70, 76] 1 ⟨[(0, q0 v1), (6, q1 (v8 ++ [v16])), (8, q1 v14), (10, .pc 0 0), (13, .tv (.mp .i64 (some .i64) v15)), (33, .al (.cell 0 1, [])), (34, tI (v5.f1.length : Int)), (35, tI v11), (60, .al (.slot 8 0, [])), (61, tI v16), (64, .pe (.slot 8 0, []) v16.toNat 0 1), (68, .pc 0 2), (70, tI v11), (76, .agg (c36 (gD v1 v11)))], [.cells 58 [k1 v5.f0, k0 v5.f1, k0 v5.f2]]⟩ ?_ z0 ⟨hg.1, hg.2.1, hg.2.2.1, hg.2.2.2⟩ ?_
      ·kernel_rfl
      obtain ⟨hd11, h⟩ := of_guard h
      obtain ⟨v17, hv17, h⟩ := of_bind h
      obtain ⟨hd12, h⟩ := of_guard h
      refine AAny.share 1 #[y1, y1, y1, y1, y1, y1, y1, y1, y1, y1, y1, y1, y1, y1, y1, y1, y1, y1, y1, y1, y1, n1] ⟨[(0, q0 v1), (6, q1 (v8 ++ [v16])), (8, q1 v14), (10, .pc 0 0), (13, .tv (.mp .i64 (some .i64) v15)), (33, .al (.cell 0 1, [])), (34, tI (v5.f1.length : Int)), (35, tI v11), (79, tI (if w64 ((gD v5.f2 v11) + v17) > gD v14 v16 then w64 ((gD v5.f2 v11) + v17) else gD v14 v16)), (80, .pe (.slot 8 0, []) v16.toNat 0 1)], [.cells 58 [k1 v5.f0, k0 v5.f1, k0 v5.f2]]⟩ ?_ fun n8_ => ?_
      ·refine AAny.step (i := 21) (fuel' := 0) rfl (by kernel_rfl) [PlainTo v14.length (fun i => (cInt .i64) (v14.getD i default))] #[y1, y1, y1, y1, y1, y1, y1, y1, y1, y1, y1, y1, y1, y1, y1, y1, y1, y1, y1, y1, y1, y1] rfl [0, 6, 8, 10, 13, 33, 34, 35] 1 ⟨[(0, q0 v1), (6, q1 (v8 ++ [v16])), (8, .tv (.own 1 3 v14.length (setElem (fun i => (cInt .i64) (v14.getD i default)) v16.toNat (putAt ((cInt .i64) (gD v14 v16)) 0 [.int .i64 (if w64 ((gD v5.f2 v11) + v17) > gD v14 v16 then w64 ((gD v5.f2 v11) + v17) else gD v14 v16)])))), (10, .pc 0 0), (13, .tv (.mp .i64 (some .i64) v15)), (33, .al (.cell 0 1, [])), (34, tI (v5.f1.length : Int)), (35, tI v11)], [.cells 58 [k1 v5.f0, k0 v5.f1, k0 v5.f2]]⟩ ?_ z0 (fun _ _ => rfl) ?_
       ·kernel_rfl
       refine AAny.extL 8 (cInt .i64) (v14.set v16.toNat (if w64 ((gD v5.f2 v11) + v17) > gD v14 v16 then w64 ((gD v5.f2 v11) + v17) else gD v14 v16)) rfl (by simp) (set_at (cInt .i64) v14 v16.toNat 0 [.int .i64 (if w64 ((gD v5.f2 v11) + v17) > gD v14 v16 then w64 ((gD v5.f2 v11) + v17) else gD v14 v16)] (if w64 ((gD v5.f2 v11) + v17) > gD v14 v16 then w64 ((gD v5.f2 v11) + v17) else gD v14 v16) rfl) ?_
       refine AAny.keepTo [0, 6, 8, 10, 13, 33, 34, 35] 1 ⟨[(0, q0 v1), (6, q1 (v8 ++ [v16])), (8, q1 (v14.set v16.toNat (if w64 ((gD v5.f2 v11) + v17) > gD v14 v16 then w64 ((gD v5.f2 v11) + v17) else gD v14 v16))), (10, .pc 0 0), (13, .tv (.mp .i64 (some .i64) v15)), (33, .al (.cell 0 1, [])), (34, tI (v5.f1.length : Int)), (35, tI v11)], [.cells 58 [k1 v5.f0, k0 v5.f1, k0 v5.f2]]⟩ _ ?_ rfl z0 (AAny.done (by kernel_rfl) ?_)
       ·kernel_rfl
       refine AWp.start [0, 1] [] [] [0, 6, 8, 10, 13, 33, 34, 35] 1 ⟨[(0, q0 v1), (6, q1 (v8 ++ [v16])), (8, q1 (v14.set v16.toNat (if w64 ((gD v5.f2 v11) + v17) > gD v14 v16 then w64 ((gD v5.f2 v11) + v17) else gD v14 v16))), (10, .pc 0 0), (13, .tv (.mp .i64 (some .i64) v15)), (33, .al (.cell 0 1, [])), (34, tI (v5.f1.length : Int)), (35, tI (w64 (v11 + (1 : Int))))], [.cells 58 [k1 v5.f0, k0 v5.f1, k0 v5.f2]]⟩ rfl ?_ z0 trivial ?_
       ·kernel_rfl
       refine AOps.nil ?_
       cases h
       exact Or.inl ⟨_, rfl, rfl, rfl⟩
      refine AAny.share 4 #[y1, y1, y1, y1, y1, n1, y1, y1, y1, y1, y1, y1, y1, y1, y1, y1, y1, y1, y1, n1, n1, n1] ⟨[(0, q0 v1), (6, q1 (v8 ++ [v16])), (8, q1 v14), (10, .pc 0 0), (13, .tv (.mp .i64 (some .i64) v15)), (33, .al (.cell 0 1, [])), (34, tI (v5.f1.length : Int)), (35, tI v11), (60, .al (.slot 8 0, [])), (61, tI v16), (64, .pe (.slot 8 0, []) v16.toNat 0 1), (78, tI (w64 ((gD v5.f2 v11) + v17)))], [.cells 58 [k1 v5.f0, k0 v5.f1, k0 v5.f2]]⟩ ?_ fun n7_ => ?_
      ·refine AAny.each [5] (by kernel_rfl) rfl ?_
       refine AEach.step (i := 5) [] #[y1, y1, y1, y1, y1, y1, y1, y1, y1, y1, y1, y1, y1, y1, y1, y1, y1, y1, y1, n1, n1, n1] rfl [0, 6, 8, 10, 13, 33, 34, 35, 60, 61, 65, 78] 1 ⟨[(0, q0 v1), (6, q1 (v8 ++ [v16])), (8, q1 v14), (10, .pc 0 0), (13, .tv (.mp .i64 (some .i64) v15)), (33, .al (.cell 0 1, [])), (34, tI (v5.f1.length : Int)), (35, tI v11), (60, .al (.slot 8 0, [])), (61, tI v16), (65, tI (gD v14 v16)), (78, tI (w64 ((gD v5.f2 v11) + v17)))], [.cells 58 [k1 v5.f0, k0 v5.f1, k0 v5.f2]]⟩ ?_ z0 trivial ?_ ?_
       ·kernel_rfl
       ·refine AAny.go (by kernel_rfl) [19, 20] (fuel' := 1) rfl [(0 : Int) ≤ v16, v16 < (v14.length : Int)] #[y1, y1, y1, y1, y1, y1, y1, y1, y1, y1, y1, y1, y1, y1, y1, y1, y1, y1, y1, y1, y1, n1] [0, 6, 8, 10, 13, 33, 34, 35, 79, 80] 1 ⟨[(0, q0 v1), (6, q1 (v8 ++ [v16])), (8, q1 v14), (10, .pc 0 0), (13, .tv (.mp .i64 (some .i64) v15)), (33, .al (.cell 0 1, [])), (34, tI (v5.f1.length : Int)), (35, tI v11), (79, tI (if w64 ((gD v5.f2 v11) + v17) > gD v14 v16 then w64 ((gD v5.f2 v11) + v17) else gD v14 v16)), (80, .pe (.slot 8 0, []) v16.toNat 0 1)], [.cells 58 [k1 v5.f0, k0 v5.f1, k0 v5.f2]]⟩ ?_ z0 ⟨hd12.1, hd12.2⟩ ?_
        ·kernel_rfl
        exact n8_
       exact AEach.nil
      refine AAny.share 5 #[y1, y1, y1, y1, y1, y1, y1, y1, y1, y1, y1, y1, n1, y1, y1, y1, y1, y1, n1, n1, n1, n1] ⟨[(0, q0 v1), (6, q1 (v8 ++ [v16])), (8, q1 v14), (10, .pc 0 0), (13, .tv (.mp .i64 (some .i64) v15)), (33, .al (.cell 0 1, [])), (34, tI (v5.f1.length : Int)), (35, tI v11), (60, .al (.slot 8 0, [])), (61, tI v16), (65, tI (gD v14 v16)), (71, .pe (.cell 0 2, []) v11.toNat 0 1), (77, tI v17)], [.cells 58 [k1 v5.f0, k0 v5.f1, k0 v5.f2]]⟩ ?_ fun n6_ => ?_
      ·refine AAny.each [12] (by kernel_rfl) rfl ?_
       refine AEach.step (i := 12) [] #[y1, y1, y1, y1, y1, y1, y1, y1, y1, y1, y1, y1, y1, y1, y1, y1, y1, y1, n1, n1, n1, n1] rfl [0, 6, 8, 10, 13, 33, 34, 35, 60, 61, 65, 72, 77] 1 ⟨[(0, q0 v1), (6, q1 (v8 ++ [v16])), (8, q1 v14), (10, .pc 0 0), (13, .tv (.mp .i64 (some .i64) v15)), (33, .al (.cell 0 1, [])), (34, tI (v5.f1.length : Int)), (35, tI v11), (60, .al (.slot 8 0, [])), (61, tI v16), (65, tI (gD v14 v16)), (72, tI (gD v5.f2 v11)), (77, tI v17)], [.cells 58 [k1 v5.f0, k0 v5.f1, k0 v5.f2]]⟩ ?_ z0 trivial ?_ ?_
       ·kernel_rfl
       ·refine AAny.go (by kernel_rfl) [18, 19, 20] (fuel' := 1) rfl [(0 : Int) ≤ v16, v16 < (v14.length : Int)] #[y1, y1, y1, y1, y1, y1, y1, y1, y1, y1, y1, y1, y1, y1, y1, y1, y1, y1, y1, y1, y1, n1] [0, 6, 8, 10, 13, 33, 34, 35, 79, 80] 1 ⟨[(0, q0 v1), (6, q1 (v8 ++ [v16])), (8, q1 v14), (10, .pc 0 0), (13, .tv (.mp .i64 (some .i64) v15)), (33, .al (.cell 0 1, [])), (34, tI (v5.f1.length : Int)), (35, tI v11), (79, tI (if w64 ((gD v5.f2 v11) + v17) > gD v14 v16 then w64 ((gD v5.f2 v11) + v17) else gD v14 v16)), (80, .pe (.slot 8 0, []) v16.toNat 0 1)], [.cells 58 [k1 v5.f0, k0 v5.f1, k0 v5.f2]]⟩ ?_ z0 ⟨hd12.1, hd12.2⟩ ?_
        ·kernel_rfl
        exact n8_
       exact AEach.nil
      refine AAny.share 5 #[y1, y1, y1, y1, y1, y1, y1, y1, y1, y1, y1, y1, y1, y1, y1, y1, y1, n1, n1, n1, n1, n1] ⟨[(0, q0 v1), (6, q1 (v8 ++ [v16])), (8, q1 v14), (10, .pc 0 0), (13, .tv (.mp .i64 (some .i64) v15)), (33, .al (.cell 0 1, [])), (34, tI (v5.f1.length : Int)), (35, tI v11), (60, .al (.slot 8 0, [])), (61, tI v16), (65, tI (gD v14 v16)), (72, tI (gD v5.f2 v11)), (76, .agg (c36 (gD v1 v11)))], [.cells 58 [k1 v5.f0, k0 v5.f1, k0 v5.f2]]⟩ ?_ fun n11_ => ?_
      ·refine AAny.each [17] (by kernel_rfl) rfl ?_
       refine AEach.one (i := 17) (AOne.callP (F := (FF 89 0)) _ rfl rfl rfl _ rfl rfl _ _ rfl Try.call25 [.agg (c36 (gD v1 v11))] rfl rfl (f25_ok (gD v1 v11) hv17) rfl) ?_ ?_
       ·refine AAny.keepTo [0, 6, 8, 10, 13, 33, 34, 35, 60, 61, 65, 72, 77] 1 ⟨[(0, q0 v1), (6, q1 (v8 ++ [v16])), (8, q1 v14), (10, .pc 0 0), (13, .tv (.mp .i64 (some .i64) v15)), (33, .al (.cell 0 1, [])), (34, tI (v5.f1.length : Int)), (35, tI v11), (60, .al (.slot 8 0, [])), (61, tI v16), (65, tI (gD v14 v16)), (72, tI (gD v5.f2 v11)), (77, tI v17)], [.cells 58 [k1 v5.f0, k0 v5.f1, k0 v5.f2]]⟩ #[y1, y1, y1, y1, y1, y1, y1, y1, y1, y1, y1, y1, y1, y1, y1, y1, y1, y1, n1, n1, n1, n1] ?_ rfl z0 ?_
        ·kernel_rfl
        refine AAny.go (by kernel_rfl) [18, 19, 20] (fuel' := 1) rfl [(0 : Int) ≤ v16, v16 < (v14.length : Int)] #[y1, y1, y1, y1, y1, y1, y1, y1, y1, y1, y1, y1, y1, y1, y1, y1, y1, y1, y1, y1, y1, n1] [0, 6, 8, 10, 13, 33, 34, 35, 79, 80] 1 ⟨[(0, q0 v1), (6, q1 (v8 ++ [v16])), (8, q1 v14), (10, .pc 0 0), (13, .tv (.mp .i64 (some .i64) v15)), (33, .al (.cell 0 1, [])), (34, tI (v5.f1.length : Int)), (35, tI v11), (79, tI (if w64 ((gD v5.f2 v11) + v17) > gD v14 v16 then w64 ((gD v5.f2 v11) + v17) else gD v14 v16)), (80, .pe (.slot 8 0, []) v16.toNat 0 1)], [.cells 58 [k1 v5.f0, k0 v5.f1, k0 v5.f2]]⟩ ?_ z0 ⟨hd12.1, hd12.2⟩ ?_
        ·kernel_rfl
        exact n8_
       exact AEach.nil
      refine AAny.share 6 #[y1, y1, y1, y1, y1, n1, y1, y1, y1, y1, y1, y1, n1, y1, y1, y1, y1, y1, n1, n1, n1, n1] ⟨[(0, q0 v1), (6, q1 (v8 ++ [v16])), (8, q1 v14), (10, .pc 0 0), (13, .tv (.mp .i64 (some .i64) v15)), (33, .al (.cell 0 1, [])), (34, tI (v5.f1.length : Int)), (35, tI v11), (60, .al (.slot 8 0, [])), (61, tI v16), (64, .pe (.slot 8 0, []) v16.toNat 0 1), (71, .pe (.cell 0 2, []) v11.toNat 0 1), (77, tI v17)], [.cells 58 [k1 v5.f0, k0 v5.f1, k0 v5.f2]]⟩ ?_ fun n5_ => ?_
      ·refine AAny.each [5, 12] (by kernel_rfl) rfl ?_
       refine AEach.step (i := 5) [] #[y1, y1, y1, y1, y1, y1, y1, y1, y1, y1, y1, y1, n1, y1, y1, y1, y1, y1, n1, n1, n1, n1] rfl [0, 6, 8, 10, 13, 33, 34, 35, 60, 61, 65, 71, 77] 1 ⟨[(0, q0 v1), (6, q1 (v8 ++ [v16])), (8, q1 v14), (10, .pc 0 0), (13, .tv (.mp .i64 (some .i64) v15)), (33, .al (.cell 0 1, [])), (34, tI (v5.f1.length : Int)), (35, tI v11), (60, .al (.slot 8 0, [])), (61, tI v16), (65, tI (gD v14 v16)), (71, .pe (.cell 0 2, []) v11.toNat 0 1), (77, tI v17)], [.cells 58 [k1 v5.f0, k0 v5.f1, k0 v5.f2]]⟩ ?_ z0 trivial ?_ ?_
       ·kernel_rfl
       ·exact n6_
       refine AEach.step (i := 12) [] #[y1, y1, y1, y1, y1, n1, y1, y1, y1, y1, y1, y1, y1, y1, y1, y1, y1, y1, n1, n1, n1, n1] rfl [0, 6, 8, 10, 13, 33, 34, 35, 60, 61, 64, 72, 77] 1 ⟨[(0, q0 v1), (6, q1 (v8 ++ [v16])), (8, q1 v14), (10, .pc 0 0), (13, .tv (.mp .i64 (some .i64) v15)), (33, .al (.cell 0 1, [])), (34, tI (v5.f1.length : Int)), (35, tI v11), (60, .al (.slot 8 0, [])), (61, tI v16), (64, .pe (.slot 8 0, []) v16.toNat 0 1), (72, tI (gD v5.f2 v11)), (77, tI v17)], [.cells 58 [k1 v5.f0, k0 v5.f1, k0 v5.f2]]⟩ ?_ z0 trivial ?_ ?_
       ·kernel_rfl
       ·refine AAny.go (by kernel_rfl) [18] (fuel' := 4) rfl [] #[y1, y1, y1, y1, y1, n1, y1, y1, y1, y1, y1, y1, y1, y1, y1, y1, y1, y1, y1, n1, n1, n1] [0, 6, 8, 10, 13, 33, 34, 35, 60, 61, 64, 78] 1 ⟨[(0, q0 v1), (6, q1 (v8 ++ [v16])), (8, q1 v14), (10, .pc 0 0), (13, .tv (.mp .i64 (some .i64) v15)), (33, .al (.cell 0 1, [])), (34, tI (v5.f1.length : Int)), (35, tI v11), (60, .al (.slot 8 0, [])), (61, tI v16), (64, .pe (.slot 8 0, []) v16.toNat 0 1), (78, tI (w64 ((gD v5.f2 v11) + v17)))], [.cells 58 [k1 v5.f0, k0 v5.f1, k0 v5.f2]]⟩ ?_ z0 trivial ?_
        ·kernel_rfl
        exact n7_
       exact AEach.nil
      refine AAny.share 6 #[y1, y1, y1, y1, y1, n1, y1, y1, y1, y1, y1, y1, y1, y1, y1, y1, y1, n1, n1, n1, n1, n1] ⟨[(0, q0 v1), (6, q1 (v8 ++ [v16])), (8, q1 v14), (10, .pc 0 0), (13, .tv (.mp .i64 (some .i64) v15)), (33, .al (.cell 0 1, [])), (34, tI (v5.f1.length : Int)), (35, tI v11), (60, .al (.slot 8 0, [])), (61, tI v16), (64, .pe (.slot 8 0, []) v16.toNat 0 1), (72, tI (gD v5.f2 v11)), (76, .agg (c36 (gD v1 v11)))], [.cells 58 [k1 v5.f0, k0 v5.f1, k0 v5.f2]]⟩ ?_ fun n10_ => ?_
      ·refine AAny.each [5, 17] (by kernel_rfl) rfl ?_
       refine AEach.step (i := 5) [] #[y1, y1, y1, y1, y1, y1, y1, y1, y1, y1, y1, y1, y1, y1, y1, y1, y1, n1, n1, n1, n1, n1] rfl [0, 6, 8, 10, 13, 33, 34, 35, 60, 61, 65, 72, 76] 1 ⟨[(0, q0 v1), (6, q1 (v8 ++ [v16])), (8, q1 v14), (10, .pc 0 0), (13, .tv (.mp .i64 (some .i64) v15)), (33, .al (.cell 0 1, [])), (34, tI (v5.f1.length : Int)), (35, tI v11), (60, .al (.slot 8 0, [])), (61, tI v16), (65, tI (gD v14 v16)), (72, tI (gD v5.f2 v11)), (76, .agg (c36 (gD v1 v11)))], [.cells 58 [k1 v5.f0, k0 v5.f1, k0 v5.f2]]⟩ ?_ z0 trivial ?_ ?_
       ·kernel_rfl
       ·exact n11_
       refine AEach.one (i := 17) (AOne.callP (F := (FF 89 0)) _ rfl rfl rfl _ rfl rfl _ _ rfl Try.call25 [.agg (c36 (gD v1 v11))] rfl rfl (f25_ok (gD v1 v11) hv17) rfl) ?_ ?_
       ·refine AAny.keepTo [0, 6, 8, 10, 13, 33, 34, 35, 60, 61, 64, 72, 77] 1 ⟨[(0, q0 v1), (6, q1 (v8 ++ [v16])), (8, q1 v14), (10, .pc 0 0), (13, .tv (.mp .i64 (some .i64) v15)), (33, .al (.cell 0 1, [])), (34, tI (v5.f1.length : Int)), (35, tI v11), (60, .al (.slot 8 0, [])), (61, tI v16), (64, .pe (.slot 8 0, []) v16.toNat 0 1), (72, tI (gD v5.f2 v11)), (77, tI v17)], [.cells 58 [k1 v5.f0, k0 v5.f1, k0 v5.f2]]⟩ #[y1, y1, y1, y1, y1, n1, y1, y1, y1, y1, y1, y1, y1, y1, y1, y1, y1, y1, n1, n1, n1, n1] ?_ rfl z0 ?_
        ·kernel_rfl
        refine AAny.go (by kernel_rfl) [18] (fuel' := 4) rfl [] #[y1, y1, y1, y1, y1, n1, y1, y1, y1, y1, y1, y1, y1, y1, y1, y1, y1, y1, y1, n1, n1, n1] [0, 6, 8, 10, 13, 33, 34, 35, 60, 61, 64, 78] 1 ⟨[(0, q0 v1), (6, q1 (v8 ++ [v16])), (8, q1 v14), (10, .pc 0 0), (13, .tv (.mp .i64 (some .i64) v15)), (33, .al (.cell 0 1, [])), (34, tI (v5.f1.length : Int)), (35, tI v11), (60, .al (.slot 8 0, [])), (61, tI v16), (64, .pe (.slot 8 0, []) v16.toNat 0 1), (78, tI (w64 ((gD v5.f2 v11) + v17)))], [.cells 58 [k1 v5.f0, k0 v5.f1, k0 v5.f2]]⟩ ?_ z0 trivial ?_
        ·kernel_rfl
        exact n7_
       exact AEach.nil
      refine AAny.share 6 #[y1, y1, y1, y1, y1, y1, y1, y1, y1, y1, y1, y1, n1, y1, y1, y1, y1, n1, n1, n1, n1, n1] ⟨[(0, q0 v1), (6, q1 (v8 ++ [v16])), (8, q1 v14), (10, .pc 0 0), (13, .tv (.mp .i64 (some .i64) v15)), (33, .al (.cell 0 1, [])), (34, tI (v5.f1.length : Int)), (35, tI v11), (60, .al (.slot 8 0, [])), (61, tI v16), (65, tI (gD v14 v16)), (71, .pe (.cell 0 2, []) v11.toNat 0 1), (76, .agg (c36 (gD v1 v11)))], [.cells 58 [k1 v5.f0, k0 v5.f1, k0 v5.f2]]⟩ ?_ fun n9_ => ?_
      ·refine AAny.each [12, 17] (by kernel_rfl) rfl ?_
       refine AEach.step (i := 12) [] #[y1, y1, y1, y1, y1, y1, y1, y1, y1, y1, y1, y1, y1, y1, y1, y1, y1, n1, n1, n1, n1, n1] rfl [0, 6, 8, 10, 13, 33, 34, 35, 60, 61, 65, 72, 76] 1 ⟨[(0, q0 v1), (6, q1 (v8 ++ [v16])), (8, q1 v14), (10, .pc 0 0), (13, .tv (.mp .i64 (some .i64) v15)), (33, .al (.cell 0 1, [])), (34, tI (v5.f1.length : Int)), (35, tI v11), (60, .al (.slot 8 0, [])), (61, tI v16), (65, tI (gD v14 v16)), (72, tI (gD v5.f2 v11)), (76, .agg (c36 (gD v1 v11)))], [.cells 58 [k1 v5.f0, k0 v5.f1, k0 v5.f2]]⟩ ?_ z0 trivial ?_ ?_
       ·kernel_rfl
       ·exact n11_
       refine AEach.one (i := 17) (AOne.callP (F := (FF 89 0)) _ rfl rfl rfl _ rfl rfl _ _ rfl Try.call25 [.agg (c36 (gD v1 v11))] rfl rfl (f25_ok (gD v1 v11) hv17) rfl) ?_ ?_
       ·refine AAny.keepTo [0, 6, 8, 10, 13, 33, 34, 35, 60, 61, 65, 71, 77] 1 ⟨[(0, q0 v1), (6, q1 (v8 ++ [v16])), (8, q1 v14), (10, .pc 0 0), (13, .tv (.mp .i64 (some .i64) v15)), (33, .al (.cell 0 1, [])), (34, tI (v5.f1.length : Int)), (35, tI v11), (60, .al (.slot 8 0, [])), (61, tI v16), (65, tI (gD v14 v16)), (71, .pe (.cell 0 2, []) v11.toNat 0 1), (77, tI v17)], [.cells 58 [k1 v5.f0, k0 v5.f1, k0 v5.f2]]⟩ #[y1, y1, y1, y1, y1, y1, y1, y1, y1, y1, y1, y1, n1, y1, y1, y1, y1, y1, n1, n1, n1, n1] ?_ rfl z0 ?_
        ·kernel_rfl
        exact n6_
       exact AEach.nil
      refine AAny.share 7 #[y1, y1, y1, y1, y1, y1, y1, y1, y1, n1, y1, n1, n1, y1, y1, y1, y1, y1, n1, n1, n1, n1] ⟨[(0, q0 v1), (6, q1 (v8 ++ [v16])), (8, q1 v14), (10, .pc 0 0), (13, .tv (.mp .i64 (some .i64) v15)), (33, .al (.cell 0 1, [])), (34, tI (v5.f1.length : Int)), (35, tI v11), (60, .al (.slot 8 0, [])), (61, tI v16), (65, tI (gD v14 v16)), (68, .pc 0 2), (70, tI v11), (77, tI v17)], [.cells 58 [k1 v5.f0, k0 v5.f1, k0 v5.f2]]⟩ ?_ fun n4_ => ?_
      ·refine AAny.each [9] (by kernel_rfl) rfl ?_
       refine AEach.step (i := 9) [] #[y1, y1, y1, y1, y1, y1, y1, y1, y1, y1, y1, n1, n1, y1, y1, y1, y1, y1, n1, n1, n1, n1] rfl [0, 6, 8, 10, 13, 33, 34, 35, 60, 61, 65, 69, 70, 77] 1 ⟨[(0, q0 v1), (6, q1 (v8 ++ [v16])), (8, q1 v14), (10, .pc 0 0), (13, .tv (.mp .i64 (some .i64) v15)), (33, .al (.cell 0 1, [])), (34, tI (v5.f1.length : Int)), (35, tI v11), (60, .al (.slot 8 0, [])), (61, tI v16), (65, tI (gD v14 v16)), (69, .al (.cell 0 2, [])), (70, tI v11), (77, tI v17)], [.cells 58 [k1 v5.f0, k0 v5.f1, k0 v5.f2]]⟩ ?_ z0 trivial ?_ ?_
       ·kernel_rfl
       ·refine AAny.go (by kernel_rfl) [11] (fuel' := 5) rfl [(0 : Int) ≤ v11, v11 < (v5.f2.length : Int)] #[y1, y1, y1, y1, y1, y1, y1, y1, y1, y1, y1, y1, n1, y1, y1, y1, y1, y1, n1, n1, n1, n1] [0, 6, 8, 10, 13, 33, 34, 35, 60, 61, 65, 71, 77] 1 ⟨[(0, q0 v1), (6, q1 (v8 ++ [v16])), (8, q1 v14), (10, .pc 0 0), (13, .tv (.mp .i64 (some .i64) v15)), (33, .al (.cell 0 1, [])), (34, tI (v5.f1.length : Int)), (35, tI v11), (60, .al (.slot 8 0, [])), (61, tI v16), (65, tI (gD v14 v16)), (71, .pe (.cell 0 2, []) v11.toNat 0 1), (77, tI v17)], [.cells 58 [k1 v5.f0, k0 v5.f1, k0 v5.f2]]⟩ ?_ z0 ⟨hd11.1, hd11.2⟩ ?_
        ·kernel_rfl
        exact n6_
       exact AEach.nil
      refine AAny.share 7 #[y1, y1, y1, y1, y1, n1, y1, y1, y1, y1, y1, y1, n1, y1, y1, y1, y1, n1, n1, n1, n1, n1] ⟨[(0, q0 v1), (6, q1 (v8 ++ [v16])), (8, q1 v14), (10, .pc 0 0), (13, .tv (.mp .i64 (some .i64) v15)), (33, .al (.cell 0 1, [])), (34, tI (v5.f1.length : Int)), (35, tI v11), (60, .al (.slot 8 0, [])), (61, tI v16), (64, .pe (.slot 8 0, []) v16.toNat 0 1), (71, .pe (.cell 0 2, []) v11.toNat 0 1), (76, .agg (c36 (gD v1 v11)))], [.cells 58 [k1 v5.f0, k0 v5.f1, k0 v5.f2]]⟩ ?_ fun n2_ => ?_
      ·refine AAny.each [5, 12, 17] (by kernel_rfl) rfl ?_
       refine AEach.step (i := 5) [] #[y1, y1, y1, y1, y1, y1, y1, y1, y1, y1, y1, y1, n1, y1, y1, y1, y1, n1, n1, n1, n1, n1] rfl [0, 6, 8, 10, 13, 33, 34, 35, 60, 61, 65, 71, 76] 1 ⟨[(0, q0 v1), (6, q1 (v8 ++ [v16])), (8, q1 v14), (10, .pc 0 0), (13, .tv (.mp .i64 (some .i64) v15)), (33, .al (.cell 0 1, [])), (34, tI (v5.f1.length : Int)), (35, tI v11), (60, .al (.slot 8 0, [])), (61, tI v16), (65, tI (gD v14 v16)), (71, .pe (.cell 0 2, []) v11.toNat 0 1), (76, .agg (c36 (gD v1 v11)))], [.cells 58 [k1 v5.f0, k0 v5.f1, k0 v5.f2]]⟩ ?_ z0 trivial ?_ ?_
       ·kernel_rfl
       ·exact n9_
       refine AEach.step (i := 12) [] #[y1, y1, y1, y1, y1, n1, y1, y1, y1, y1, y1, y1, y1, y1, y1, y1, y1, n1, n1, n1, n1, n1] rfl [0, 6, 8, 10, 13, 33, 34, 35, 60, 61, 64, 72, 76] 1 ⟨[(0, q0 v1), (6, q1 (v8 ++ [v16])), (8, q1 v14), (10, .pc 0 0), (13, .tv (.mp .i64 (some .i64) v15)), (33, .al (.cell 0 1, [])), (34, tI (v5.f1.length : Int)), (35, tI v11), (60, .al (.slot 8 0, [])), (61, tI v16), (64, .pe (.slot 8 0, []) v16.toNat 0 1), (72, tI (gD v5.f2 v11)), (76, .agg (c36 (gD v1 v11)))], [.cells 58 [k1 v5.f0, k0 v5.f1, k0 v5.f2]]⟩ ?_ z0 trivial ?_ ?_
       ·kernel_rfl
       ·exact n10_
       refine AEach.one (i := 17) (AOne.callP (F := (FF 89 0)) _ rfl rfl rfl _ rfl rfl _ _ rfl Try.call25 [.agg (c36 (gD v1 v11))] rfl rfl (f25_ok (gD v1 v11) hv17) rfl) ?_ ?_
       ·refine AAny.keepTo [0, 6, 8, 10, 13, 33, 34, 35, 60, 61, 64, 71, 77] 1 ⟨[(0, q0 v1), (6, q1 (v8 ++ [v16])), (8, q1 v14), (10, .pc 0 0), (13, .tv (.mp .i64 (some .i64) v15)), (33, .al (.cell 0 1, [])), (34, tI (v5.f1.length : Int)), (35, tI v11), (60, .al (.slot 8 0, [])), (61, tI v16), (64, .pe (.slot 8 0, []) v16.toNat 0 1), (71, .pe (.cell 0 2, []) v11.toNat 0 1), (77, tI v17)], [.cells 58 [k1 v5.f0, k0 v5.f1, k0 v5.f2]]⟩ #[y1, y1, y1, y1, y1, n1, y1, y1, y1, y1, y1, y1, n1, y1, y1, y1, y1, y1, n1, n1, n1, n1] ?_ rfl z0 ?_
        ·kernel_rfl
        exact n5_
       exact AEach.nil
      refine AAny.share 8 #[y1, y1, y1, y1, y1, n1, y1, y1, y1, n1, y1, n1, n1, y1, y1, y1, y1, y1, n1, n1, n1, n1] ⟨[(0, q0 v1), (6, q1 (v8 ++ [v16])), (8, q1 v14), (10, .pc 0 0), (13, .tv (.mp .i64 (some .i64) v15)), (33, .al (.cell 0 1, [])), (34, tI (v5.f1.length : Int)), (35, tI v11), (60, .al (.slot 8 0, [])), (61, tI v16), (64, .pe (.slot 8 0, []) v16.toNat 0 1), (68, .pc 0 2), (70, tI v11), (77, tI v17)], [.cells 58 [k1 v5.f0, k0 v5.f1, k0 v5.f2]]⟩ ?_ fun n3_ => ?_
      ·refine AAny.each [5, 9] (by kernel_rfl) rfl ?_
       refine AEach.step (i := 5) [] #[y1, y1, y1, y1, y1, y1, y1, y1, y1, n1, y1, n1, n1, y1, y1, y1, y1, y1, n1, n1, n1, n1] rfl [0, 6, 8, 10, 13, 33, 34, 35, 60, 61, 65, 68, 70, 77] 1 ⟨[(0, q0 v1), (6, q1 (v8 ++ [v16])), (8, q1 v14), (10, .pc 0 0), (13, .tv (.mp .i64 (some .i64) v15)), (33, .al (.cell 0 1, [])), (34, tI (v5.f1.length : Int)), (35, tI v11), (60, .al (.slot 8 0, [])), (61, tI v16), (65, tI (gD v14 v16)), (68, .pc 0 2), (70, tI v11), (77, tI v17)], [.cells 58 [k1 v5.f0, k0 v5.f1, k0 v5.f2]]⟩ ?_ z0 trivial ?_ ?_
       ·kernel_rfl
       ·exact n4_
       refine AEach.step (i := 9) [] #[y1, y1, y1, y1, y1, n1, y1, y1, y1, y1, y1, n1, n1, y1, y1, y1, y1, y1, n1, n1, n1, n1] rfl [0, 6, 8, 10, 13, 33, 34, 35, 60, 61, 64, 69, 70, 77] 1 ⟨[(0, q0 v1), (6, q1 (v8 ++ [v16])), (8, q1 v14), (10, .pc 0 0), (13, .tv (.mp .i64 (some .i64) v15)), (33, .al (.cell 0 1, [])), (34, tI (v5.f1.length : Int)), (35, tI v11), (60, .al (.slot 8 0, [])), (61, tI v16), (64, .pe (.slot 8 0, []) v16.toNat 0 1), (69, .al (.cell 0 2, [])), (70, tI v11), (77, tI v17)], [.cells 58 [k1 v5.f0, k0 v5.f1, k0 v5.f2]]⟩ ?_ z0 trivial ?_ ?_
       ·kernel_rfl
       ·refine AAny.go (by kernel_rfl) [11] (fuel' := 6) rfl [(0 : Int) ≤ v11, v11 < (v5.f2.length : Int)] #[y1, y1, y1, y1, y1, n1, y1, y1, y1, y1, y1, y1, n1, y1, y1, y1, y1, y1, n1, n1, n1, n1] [0, 6, 8, 10, 13, 33, 34, 35, 60, 61, 64, 71, 77] 1 ⟨[(0, q0 v1), (6, q1 (v8 ++ [v16])), (8, q1 v14), (10, .pc 0 0), (13, .tv (.mp .i64 (some .i64) v15)), (33, .al (.cell 0 1, [])), (34, tI (v5.f1.length : Int)), (35, tI v11), (60, .al (.slot 8 0, [])), (61, tI v16), (64, .pe (.slot 8 0, []) v16.toNat 0 1), (71, .pe (.cell 0 2, []) v11.toNat 0 1), (77, tI v17)], [.cells 58 [k1 v5.f0, k0 v5.f1, k0 v5.f2]]⟩ ?_ z0 ⟨hd11.1, hd11.2⟩ ?_
        ·kernel_rfl
        exact n5_
       exact AEach.nil
      refine AAny.share 8 #[y1, y1, y1, y1, y1, y1, y1, y1, y1, n1, y1, n1, n1, y1, y1, y1, y1, n1, n1, n1, n1, n1] ⟨[(0, q0 v1), (6, q1 (v8 ++ [v16])), (8, q1 v14), (10, .pc 0 0), (13, .tv (.mp .i64 (some .i64) v15)), (33, .al (.cell 0 1, [])), (34, tI (v5.f1.length : Int)), (35, tI v11), (60, .al (.slot 8 0, [])), (61, tI v16), (65, tI (gD v14 v16)), (68, .pc 0 2), (70, tI v11), (76, .agg (c36 (gD v1 v11)))], [.cells 58 [k1 v5.f0, k0 v5.f1, k0 v5.f2]]⟩ ?_ fun n1_ => ?_
      ·refine AAny.each [9, 17] (by kernel_rfl) rfl ?_
       refine AEach.step (i := 9) [] #[y1, y1, y1, y1, y1, y1, y1, y1, y1, y1, y1, n1, n1, y1, y1, y1, y1, n1, n1, n1, n1, n1] rfl [0, 6, 8, 10, 13, 33, 34, 35, 60, 61, 65, 69, 70, 76] 1 ⟨[(0, q0 v1), (6, q1 (v8 ++ [v16])), (8, q1 v14), (10, .pc 0 0), (13, .tv (.mp .i64 (some .i64) v15)), (33, .al (.cell 0 1, [])), (34, tI (v5.f1.length : Int)), (35, tI v11), (60, .al (.slot 8 0, [])), (61, tI v16), (65, tI (gD v14 v16)), (69, .al (.cell 0 2, [])), (70, tI v11), (76, .agg (c36 (gD v1 v11)))], [.cells 58 [k1 v5.f0, k0 v5.f1, k0 v5.f2]]⟩ ?_ z0 trivial ?_ ?_
       ·kernel_rfl
       ·refine AAny.go (by kernel_rfl) [11] (fuel' := 6) rfl [(0 : Int) ≤ v11, v11 < (v5.f2.length : Int)] #[y1, y1, y1, y1, y1, y1, y1, y1, y1, y1, y1, y1, n1, y1, y1, y1, y1, n1, n1, n1, n1, n1] [0, 6, 8, 10, 13, 33, 34, 35, 60, 61, 65, 71, 76] 1 ⟨[(0, q0 v1), (6, q1 (v8 ++ [v16])), (8, q1 v14), (10, .pc 0 0), (13, .tv (.mp .i64 (some .i64) v15)), (33, .al (.cell 0 1, [])), (34, tI (v5.f1.length : Int)), (35, tI v11), (60, .al (.slot 8 0, [])), (61, tI v16), (65, tI (gD v14 v16)), (71, .pe (.cell 0 2, []) v11.toNat 0 1), (76, .agg (c36 (gD v1 v11)))], [.cells 58 [k1 v5.f0, k0 v5.f1, k0 v5.f2]]⟩ ?_ z0 ⟨hd11.1, hd11.2⟩ ?_
        ·kernel_rfl
        exact n9_
       refine AEach.one (i := 17) (AOne.callP (F := (FF 89 0)) _ rfl rfl rfl _ rfl rfl _ _ rfl Try.call25 [.agg (c36 (gD v1 v11))] rfl rfl (f25_ok (gD v1 v11) hv17) rfl) ?_ ?_
       ·refine AAny.keepTo [0, 6, 8, 10, 13, 33, 34, 35, 60, 61, 65, 68, 70, 77] 1 ⟨[(0, q0 v1), (6, q1 (v8 ++ [v16])), (8, q1 v14), (10, .pc 0 0), (13, .tv (.mp .i64 (some .i64) v15)), (33, .al (.cell 0 1, [])), (34, tI (v5.f1.length : Int)), (35, tI v11), (60, .al (.slot 8 0, [])), (61, tI v16), (65, tI (gD v14 v16)), (68, .pc 0 2), (70, tI v11), (77, tI v17)], [.cells 58 [k1 v5.f0, k0 v5.f1, k0 v5.f2]]⟩ #[y1, y1, y1, y1, y1, y1, y1, y1, y1, n1, y1, n1, n1, y1, y1, y1, y1, y1, n1, n1, n1, n1] ?_ rfl z0 ?_
        ·kernel_rfl
        exact n4_
       exact AEach.nil
      refine AAny.each [5, 9, 17] (by kernel_rfl) rfl ?_
      refine AEach.step (i := 5) [] #[y1, y1, y1, y1, y1, y1, y1, y1, y1, n1, y1, n1, n1, y1, y1, y1, y1, n1, n1, n1, n1, n1] rfl [0, 6, 8, 10, 13, 33, 34, 35, 60, 61, 65, 68, 70, 76] 1 ⟨[(0, q0 v1), (6, q1 (v8 ++ [v16])), (8, q1 v14), (10, .pc 0 0), (13, .tv (.mp .i64 (some .i64) v15)), (33, .al (.cell 0 1, [])), (34, tI (v5.f1.length : Int)), (35, tI v11), (60, .al (.slot 8 0, [])), (61, tI v16), (65, tI (gD v14 v16)), (68, .pc 0 2), (70, tI v11), (76, .agg (c36 (gD v1 v11)))], [.cells 58 [k1 v5.f0, k0 v5.f1, k0 v5.f2]]⟩ ?_ z0 trivial ?_ ?_
      ·kernel_rfl
      ·exact n1_
      refine AEach.step (i := 9) [] #[y1, y1, y1, y1, y1, n1, y1, y1, y1, y1, y1, n1, n1, y1, y1, y1, y1, n1, n1, n1, n1, n1] rfl [0, 6, 8, 10, 13, 33, 34, 35, 60, 61, 64, 69, 70, 76] 1 ⟨[(0, q0 v1), (6, q1 (v8 ++ [v16])), (8, q1 v14), (10, .pc 0 0), (13, .tv (.mp .i64 (some .i64) v15)), (33, .al (.cell 0 1, [])), (34, tI (v5.f1.length : Int)), (35, tI v11), (60, .al (.slot 8 0, [])), (61, tI v16), (64, .pe (.slot 8 0, []) v16.toNat 0 1), (69, .al (.cell 0 2, [])), (70, tI v11), (76, .agg (c36 (gD v1 v11)))], [.cells 58 [k1 v5.f0, k0 v5.f1, k0 v5.f2]]⟩ ?_ z0 trivial ?_ ?_
      ·kernel_rfl
      ·refine AAny.go (by kernel_rfl) [11] (fuel' := 7) rfl [(0 : Int) ≤ v11, v11 < (v5.f2.length : Int)] #[y1, y1, y1, y1, y1, n1, y1, y1, y1, y1, y1, y1, n1, y1, y1, y1, y1, n1, n1, n1, n1, n1] [0, 6, 8, 10, 13, 33, 34, 35, 60, 61, 64, 71, 76] 1 ⟨[(0, q0 v1), (6, q1 (v8 ++ [v16])), (8, q1 v14), (10, .pc 0 0), (13, .tv (.mp .i64 (some .i64) v15)), (33, .al (.cell 0 1, [])), (34, tI (v5.f1.length : Int)), (35, tI v11), (60, .al (.slot 8 0, [])), (61, tI v16), (64, .pe (.slot 8 0, []) v16.toNat 0 1), (71, .pe (.cell 0 2, []) v11.toNat 0 1), (76, .agg (c36 (gD v1 v11)))], [.cells 58 [k1 v5.f0, k0 v5.f1, k0 v5.f2]]⟩ ?_ z0 ⟨hd11.1, hd11.2⟩ ?_
       ·kernel_rfl
       exact n2_
      refine AEach.one (i := 17) (AOne.callP (F := (FF 89 0)) _ rfl rfl rfl _ rfl rfl _ _ rfl Try.call25 [.agg (c36 (gD v1 v11))] rfl rfl (f25_ok (gD v1 v11) hv17) rfl) ?_ ?_
      ·refine AAny.keepTo [0, 6, 8, 10, 13, 33, 34, 35, 60, 61, 64, 68, 70, 77] 1 ⟨[(0, q0 v1), (6, q1 (v8 ++ [v16])), (8, q1 v14), (10, .pc 0 0), (13, .tv (.mp .i64 (some .i64) v15)), (33, .al (.cell 0 1, [])), (34, tI (v5.f1.length : Int)), (35, tI v11), (60, .al (.slot 8 0, [])), (61, tI v16), (64, .pe (.slot 8 0, []) v16.toNat 0 1), (68, .pc 0 2), (70, tI v11), (77, tI v17)], [.cells 58 [k1 v5.f0, k0 v5.f1, k0 v5.f2]]⟩ #[y1, y1, y1, y1, y1, n1, y1, y1, y1, n1, y1, n1, n1, y1, y1, y1, y1, y1, n1, n1, n1, n1] ?_ rfl z0 ?_
       ·kernel_rfl
       exact n3_
      exact AEach.nil
    ·replace h := of_false h hb
     refine AWp.keepTo [6, 8, 10] 1 ⟨[(6, q1 v8), (8, q1 v9), (10, .pc 0 0)], [.cells 58 [k1 v5.f0, k0 v5.f1, k0 v5.f2]]⟩ ?_ z0 ?_
     ·kernel_rfl
     refine AWp.exit ?_
     cases h
     exact Or.inr ⟨_, rfl, by simp, rfl, rfl⟩
   ·intro e σ hp
    rcases y with v18 | ⟨v12, v13⟩
    ·obtain ⟨rfl, rfl⟩ := hp
     cases h
     exact ⟨.inr rfl, rfl⟩
    ·obtain ⟨rfl, rfl⟩ := hp
     refine AWp.seq ?_
     refine AWp.freezeL 6 (cInt .i64) v12 rfl (fun _ => rfl) ?_
     refine AWp.freezeL 8 (cInt .i64) v13 rfl (fun _ => rfl) ?_
     refine AWp.start [0, 1, 2, 3, 4] [5, 6, 7, 8, 9, 10] [] [8, 82, 86] 1 ⟨[(8, q2 v13), (82, q2 v12), (86, .al (.cell 0 2, []))], [.cells 58 [k1 v5.f0, k0 v5.f1, k0 v5.f2]]⟩ rfl ?_ z0 trivial ?_
     ·kernel_rfl
     refine AOps.claim 86 (.cell 0 2) (k0 v5.f2) rfl rfl rfl rfl ?_
     refine AOps.freezeL 86 (cInt .i64) v5.f2 rfl (fun _ => rfl) ?_
     obtain ⟨v19, hv19, h⟩ := of_bind h
     refine AOps.cons (AOne.callP (F := (FF 89 0)) _ rfl rfl rfl _ rfl rfl _ _ rfl Try.call26 [q2 v5.f2] rfl rfl (f26_ok v5.f2 hv19) rfl) ?_
     refine AOps.go [6, 7, 8, 9, 10] [] [] [6, 7, 8, 9] 0 ⟨[(6, q2 v12), (7, q1 v19), (8, q2 v13), (9, tI (0 : Int))], []⟩ ?_ z0 trivial ?_
     ·kernel_rfl
     refine AOps.nil ?_
     refine AWp.freezeL 7 (cInt .i64) v19 rfl (fun _ => rfl) ?_
     refine AWp.keepTo [6, 7, 8, 9] 0 ⟨[(6, q2 v12), (7, q2 v19), (8, q2 v13), (9, tI (0 : Int))], []⟩ ?_ z0 ?_
     ·kernel_rfl
     refine AWp.ret ?_
     cases h
     exact ⟨.inr rfl, rfl⟩

noncomputable def f10  : Option Bool :=
 (f11 ([T36.mk ([97] : List UInt8) (4 : Int) (3 : Int), T36.mk ([98] : List UInt8) (2 : Int) (4 : Int)]) ([[T34.mk ([97] : List UInt8) (1 : Int), T34.mk ([98] : List UInt8) (0 : Int)]]) ([] : List (List (List UInt8)))).bind fun v1 => (cond (v1.2.2.2 == (0 : Int)) (some ((v1.1.length : Int) == (2 : Int))) (some false)).bind fun v2 => (cond v2 (some ((v1.2.1.length : Int) == (2 : Int))) (some false)).bind fun v3 => (cond v3 (some ((v1.2.2.1.length : Int) == (1 : Int))) (some false)).bind fun v4 => (cond v4 (if (0 : Int) < (v1.2.1.length : Int) then some (v1.2.1.getD 0 default == (0 : Int)) else none) (some false)).bind fun v5 => (cond v5 (if (1 : Int) < (v1.2.1.length : Int) then some (v1.2.1.getD 1 default == (4 : Int)) else none) (some false)).bind fun v6 => (cond v6 (if (0 : Int) < (v1.2.2.1.length : Int) then some (v1.2.2.1.getD 0 default == (12 : Int)) else none) (some false)).bind fun v7 => some v7

theorem f10_ok  {r : Bool} (h : f10  = some r) : ACall Try.prog 10 [] [] (.tv (.bool r)) [] := by
 refine ACall.of1 (FF 55 0) Try.func10 rfl Try.ntmps10 Try.results10 (Nat.le_of_ble_eq_true rfl) rfl rfl ?_
 refine AWp.seq ?_
 refine AWp.start [0] [] [] [] 0 ⟨[], []⟩ rfl ?_ z0 trivial ?_
 ·kernel_rfl
 refine AOps.nil ?_
 refine AWp.seq ?_
 refine AWp.start [0, 1, 2] [3] [] [8] 0 ⟨[(8, .tv (.own 3 37 2 (newRowF [.str ([97] : List UInt8), .int .i64 (4 : Int), .int .i64 (3 : Int), .str ([98] : List UInt8), .int .i64 (2 : Int), .int .i64 (4 : Int)] 3)))], []⟩ rfl ?_ z0 trivial ?_
 ·kernel_rfl
 refine AOps.extL 8 c36 ([T36.mk ([97] : List UInt8) (4 : Int) (3 : Int), T36.mk ([98] : List UInt8) (2 : Int) (4 : Int)]) rfl rfl (row_at c36 3 (fun _ => rfl) [T36.mk ([97] : List UInt8) (4 : Int) (3 : Int), T36.mk ([98] : List UInt8) (2 : Int) (4 : Int)] _ rfl) ?_
 refine AOps.go [3] [] [] [1] 0 ⟨[(1, .tv (ownL 3 37 c36 ([T36.mk ([97] : List UInt8) (4 : Int) (3 : Int), T36.mk ([98] : List UInt8) (2 : Int) (4 : Int)])))], []⟩ ?_ z0 trivial ?_
 ·kernel_rfl
 refine AOps.nil ?_
 refine AWp.seq ?_
 refine AWp.freezeL 1 c36 ([T36.mk ([97] : List UInt8) (4 : Int) (3 : Int), T36.mk ([98] : List UInt8) (2 : Int) (4 : Int)]) rfl (fun _ => rfl) ?_
 refine AWp.start [0, 1, 2, 3] [4, 5, 6, 7, 8, 9, 10, 11, 12, 13, 14] [] [10, 13] 0 ⟨[(10, q0 ([T36.mk ([97] : List UInt8) (4 : Int) (3 : Int), T36.mk ([98] : List UInt8) (2 : Int) (4 : Int)])), (13, .tv (.own 2 35 2 (newRowF [.str ([97] : List UInt8), .int .i64 (1 : Int), .str ([98] : List UInt8), .int .i64 (0 : Int)] 2)))], []⟩ rfl ?_ z0 trivial ?_
 ·kernel_rfl
 refine AOps.extL 13 c34 ([T34.mk ([97] : List UInt8) (1 : Int), T34.mk ([98] : List UInt8) (0 : Int)]) rfl rfl (row_at c34 2 (fun _ => rfl) [T34.mk ([97] : List UInt8) (1 : Int), T34.mk ([98] : List UInt8) (0 : Int)] _ rfl) ?_
 refine AOps.freezeL 13 c34 ([T34.mk ([97] : List UInt8) (1 : Int), T34.mk ([98] : List UInt8) (0 : Int)]) rfl (fun _ => rfl) ?_
 refine AOps.go [4] [5, 6, 7, 8, 9, 10, 11, 12, 13, 14] [] [10, 14] 0 ⟨[(10, q0 ([T36.mk ([97] : List UInt8) (4 : Int) (3 : Int), T36.mk ([98] : List UInt8) (2 : Int) (4 : Int)])), (14, .tv (.own 1 32 1 (newRowF [fzL 2 c34 ([T34.mk ([97] : List UInt8) (1 : Int), T34.mk ([98] : List UInt8) (0 : Int)])] 1)))], []⟩ ?_ z0 trivial ?_
 ·kernel_rfl
 refine AOps.extL 14 (cSl 2 c34) ([[T34.mk ([97] : List UInt8) (1 : Int), T34.mk ([98] : List UInt8) (0 : Int)]]) rfl rfl (row_at (cSl 2 c34) 1 (fun _ => rfl) [[T34.mk ([97] : List UInt8) (1 : Int), T34.mk ([98] : List UInt8) (0 : Int)]] _ rfl) ?_
 refine AOps.freezeL 14 (cSl 2 c34) ([[T34.mk ([97] : List UInt8) (1 : Int), T34.mk ([98] : List UInt8) (0 : Int)]]) rfl (fun _ => rfl) ?_
 obtain ⟨v1, hv1, h⟩ := of_bind h
 refine AOps.cons (AOne.callP (F := (FF 55 0)) _ rfl rfl rfl _ rfl rfl _ _ rfl Try.call11 [q0 ([T36.mk ([97] : List UInt8) (4 : Int) (3 : Int), T36.mk ([98] : List UInt8) (2 : Int) (4 : Int)]), .tv (fzL 1 (cSl 2 c34) ([[T34.mk ([97] : List UInt8) (1 : Int), T34.mk ([98] : List UInt8) (0 : Int)]])), .tv (.sc (.slice none 0 0))] rfl rfl (ACall.nils (.keep rfl (.keep rfl (.nil .done))) (f11_ok ([T36.mk ([97] : List UInt8) (4 : Int) (3 : Int), T36.mk ([98] : List UInt8) (2 : Int) (4 : Int)]) ([[T34.mk ([97] : List UInt8) (1 : Int), T34.mk ([98] : List UInt8) (0 : Int)]]) ([] : List (List (List UInt8))) hv1)) rfl) ?_
 refine AOps.go [6, 7, 8, 9, 10, 11, 12, 13, 14] [] [] [2, 3, 4, 5] 0 ⟨[(2, q2 v1.1), (3, q2 v1.2.1), (4, q2 v1.2.2.1), (5, tI v1.2.2.2)], []⟩ ?_ z0 trivial ?_
 ·kernel_rfl
 refine AOps.nil ?_
 refine AWp.seq ?_
 refine AWp.start [0, 1, 2] [3, 4, 5, 6, 7, 8, 9, 10, 11, 12, 13, 14, 15, 16, 17, 18, 19, 20, 21, 22, 23, 24, 25, 26, 27, 28, 29, 30, 31, 32, 33, 34, 35] [] [2, 3, 4, 22] 0 ⟨[(2, q2 v1.1), (3, q2 v1.2.1), (4, q2 v1.2.2.1), (22, tB (v1.2.2.2 == (0 : Int)))], []⟩ rfl ?_ z0 trivial ?_
 ·kernel_rfl
 obtain ⟨v2, hc3, h⟩ := of_bind h
 refine AOps.cut [3, 4, 5, 6] [7, 8, 9, 10, 11, 12, 13, 14, 15, 16, 17, 18, 19, 20, 21, 22, 23, 24, 25, 26, 27, 28, 29, 30, 31, 32, 33, 34, 35] (fun σ => σ = ⟨[(3, q2 v1.2.1), (4, q2 v1.2.2.1), (26, tB v2)], []⟩) ?_ fun σ' hJ => ?_
 ·refine AOps.split (fun b => ⟨[(2, q2 v1.1), (3, q2 v1.2.1), (4, q2 v1.2.2.1), (22, tB b)], []⟩) _ (fun hb => ?_) fun hb => ?_
  ·replace hc3 := of_true hc3 hb
   refine AOps.go [3, 4, 5, 6] [] [] [3, 4, 26] 0 ⟨[(3, q2 v1.2.1), (4, q2 v1.2.2.1), (26, tB ((v1.1.length : Int) == (2 : Int)))], []⟩ ?_ z0 trivial ?_
   ·kernel_rfl
   cases hc3
   exact AOps.nil rfl
  ·replace hc3 := of_false hc3 hb
   refine AOps.go [3, 4, 5, 6] [] [] [3, 4, 26] 0 ⟨[(3, q2 v1.2.1), (4, q2 v1.2.2.1), (26, tB false)], []⟩ ?_ z0 trivial ?_
   ·kernel_rfl
   cases hc3
   exact AOps.nil rfl
 subst hJ
 refine AOps.go [7] [8, 9, 10, 11, 12, 13, 14, 15, 16, 17, 18, 19, 20, 21, 22, 23, 24, 25, 26, 27, 28, 29, 30, 31, 32, 33, 34, 35] [] [3, 4, 27] 0 ⟨[(3, q2 v1.2.1), (4, q2 v1.2.2.1), (27, tB v2)], []⟩ ?_ z0 trivial ?_
 ·kernel_rfl
 obtain ⟨v3, hc8, h⟩ := of_bind h
 refine AOps.cut [8, 9, 10, 11] [12, 13, 14, 15, 16, 17, 18, 19, 20, 21, 22, 23, 24, 25, 26, 27, 28, 29, 30, 31, 32, 33, 34, 35] (fun σ => σ = ⟨[(3, q2 v1.2.1), (4, q2 v1.2.2.1), (31, tB v3)], []⟩) ?_ fun σ' hJ => ?_
 ·refine AOps.split (fun b => ⟨[(3, q2 v1.2.1), (4, q2 v1.2.2.1), (27, tB b)], []⟩) _ (fun hb => ?_) fun hb => ?_
  ·replace hc8 := of_true hc8 hb
   refine AOps.go [8, 9, 10, 11] [] [] [3, 4, 31] 0 ⟨[(3, q2 v1.2.1), (4, q2 v1.2.2.1), (31, tB ((v1.2.1.length : Int) == (2 : Int)))], []⟩ ?_ z0 trivial ?_
   ·kernel_rfl
   cases hc8
   exact AOps.nil rfl
  ·replace hc8 := of_false hc8 hb
   refine AOps.go [8, 9, 10, 11] [] [] [3, 4, 31] 0 ⟨[(3, q2 v1.2.1), (4, q2 v1.2.2.1), (31, tB false)], []⟩ ?_ z0 trivial ?_
   ·kernel_rfl
   cases hc8
   exact AOps.nil rfl
 subst hJ
 refine AOps.go [12] [13, 14, 15, 16, 17, 18, 19, 20, 21, 22, 23, 24, 25, 26, 27, 28, 29, 30, 31, 32, 33, 34, 35] [] [3, 4, 32] 0 ⟨[(3, q2 v1.2.1), (4, q2 v1.2.2.1), (32, tB v3)], []⟩ ?_ z0 trivial ?_
 ·kernel_rfl
 obtain ⟨v4, hc13, h⟩ := of_bind h
 refine AOps.cut [13, 14, 15, 16] [17, 18, 19, 20, 21, 22, 23, 24, 25, 26, 27, 28, 29, 30, 31, 32, 33, 34, 35] (fun σ => σ = ⟨[(3, q2 v1.2.1), (4, q2 v1.2.2.1), (36, tB v4)], []⟩) ?_ fun σ' hJ => ?_
 ·refine AOps.split (fun b => ⟨[(3, q2 v1.2.1), (4, q2 v1.2.2.1), (32, tB b)], []⟩) _ (fun hb => ?_) fun hb => ?_
  ·replace hc13 := of_true hc13 hb
   refine AOps.go [13, 14, 15, 16] [] [] [3, 4, 36] 0 ⟨[(3, q2 v1.2.1), (4, q2 v1.2.2.1), (36, tB ((v1.2.2.1.length : Int) == (1 : Int)))], []⟩ ?_ z0 trivial ?_
   ·kernel_rfl
   cases hc13
   exact AOps.nil rfl
  ·replace hc13 := of_false hc13 hb
   refine AOps.go [13, 14, 15, 16] [] [] [3, 4, 36] 0 ⟨[(3, q2 v1.2.1), (4, q2 v1.2.2.1), (36, tB false)], []⟩ ?_ z0 trivial ?_
   ·kernel_rfl
   cases hc13
   exact AOps.nil rfl
 subst hJ
 refine AOps.go [17] [18, 19, 20, 21, 22, 23, 24, 25, 26, 27, 28, 29, 30, 31, 32, 33, 34, 35] [] [3, 4, 37] 0 ⟨[(3, q2 v1.2.1), (4, q2 v1.2.2.1), (37, tB v4)], []⟩ ?_ z0 trivial ?_
 ·kernel_rfl
 obtain ⟨v5, hc18, h⟩ := of_bind h
 refine AOps.cut [18, 19, 20, 21, 22] [23, 24, 25, 26, 27, 28, 29, 30, 31, 32, 33, 34, 35] (fun σ => σ = ⟨[(3, q2 v1.2.1), (4, q2 v1.2.2.1), (42, tB v5)], []⟩) ?_ fun σ' hJ => ?_
 ·refine AOps.split (fun b => ⟨[(3, q2 v1.2.1), (4, q2 v1.2.2.1), (37, tB b)], []⟩) _ (fun hb => ?_) fun hb => ?_
  ·replace hc18 := of_true hc18 hb
   obtain ⟨hg, hc18⟩ := of_guard hc18
   refine AOps.go [18, 19, 20, 21, 22] [] [(0 : Int) ≤ (0 : Int), (0 : Int) < (v1.2.1.length : Int)] [3, 4, 42] 0 ⟨[(3, q2 v1.2.1), (4, q2 v1.2.2.1), (42, tB (v1.2.1.getD 0 default == (0 : Int)))], []⟩ ?_ z0 ⟨(by decide : (0 : Int) ≤ (0 : Int)), hg⟩ ?_
   ·kernel_rfl
   cases hc18
   exact AOps.nil rfl
  ·replace hc18 := of_false hc18 hb
   refine AOps.go [18, 19, 20, 21, 22] [] [] [3, 4, 42] 0 ⟨[(3, q2 v1.2.1), (4, q2 v1.2.2.1), (42, tB false)], []⟩ ?_ z0 trivial ?_
   ·kernel_rfl
   cases hc18
   exact AOps.nil rfl
 subst hJ
 refine AOps.go [23] [24, 25, 26, 27, 28, 29, 30, 31, 32, 33, 34, 35] [] [3, 4, 43] 0 ⟨[(3, q2 v1.2.1), (4, q2 v1.2.2.1), (43, tB v5)], []⟩ ?_ z0 trivial ?_
 ·kernel_rfl
 obtain ⟨v6, hc24, h⟩ := of_bind h
 refine AOps.cut [24, 25, 26, 27, 28] [29, 30, 31, 32, 33, 34, 35] (fun σ => σ = ⟨[(4, q2 v1.2.2.1), (48, tB v6)], []⟩) ?_ fun σ' hJ => ?_
 ·refine AOps.split (fun b => ⟨[(3, q2 v1.2.1), (4, q2 v1.2.2.1), (43, tB b)], []⟩) _ (fun hb => ?_) fun hb => ?_
  ·replace hc24 := of_true hc24 hb
   obtain ⟨hg, hc24⟩ := of_guard hc24
   refine AOps.go [24, 25, 26, 27, 28] [] [(0 : Int) ≤ (1 : Int), (1 : Int) < (v1.2.1.length : Int)] [4, 48] 0 ⟨[(4, q2 v1.2.2.1), (48, tB (v1.2.1.getD 1 default == (4 : Int)))], []⟩ ?_ z0 ⟨(by decide : (0 : Int) ≤ (1 : Int)), hg⟩ ?_
   ·kernel_rfl
   cases hc24
   exact AOps.nil rfl
  ·replace hc24 := of_false hc24 hb
   refine AOps.go [24, 25, 26, 27, 28] [] [] [4, 48] 0 ⟨[(4, q2 v1.2.2.1), (48, tB false)], []⟩ ?_ z0 trivial ?_
   ·kernel_rfl
   cases hc24
   exact AOps.nil rfl
 subst hJ
 refine AOps.go [29] [30, 31, 32, 33, 34, 35] [] [4, 49] 0 ⟨[(4, q2 v1.2.2.1), (49, tB v6)], []⟩ ?_ z0 trivial ?_
 ·kernel_rfl
 obtain ⟨v7, hc30, h⟩ := of_bind h
 refine AOps.cut [30, 31, 32, 33, 34] [35] (fun σ => σ = ⟨[(54, tB v7)], []⟩) ?_ fun σ' hJ => ?_
 ·refine AOps.split (fun b => ⟨[(4, q2 v1.2.2.1), (49, tB b)], []⟩) _ (fun hb => ?_) fun hb => ?_
  ·replace hc30 := of_true hc30 hb
   obtain ⟨hg, hc30⟩ := of_guard hc30
   refine AOps.go [30, 31, 32, 33, 34] [] [(0 : Int) ≤ (0 : Int), (0 : Int) < (v1.2.2.1.length : Int)] [54] 0 ⟨[(54, tB (v1.2.2.1.getD 0 default == (12 : Int)))], []⟩ ?_ z0 ⟨(by decide : (0 : Int) ≤ (0 : Int)), hg⟩ ?_
   ·kernel_rfl
   cases hc30
   exact AOps.nil rfl
  ·replace hc30 := of_false hc30 hb
   refine AOps.go [30, 31, 32, 33, 34] [] [] [54] 0 ⟨[(54, tB false)], []⟩ ?_ z0 trivial ?_
   ·kernel_rfl
   cases hc30
   exact AOps.nil rfl
 subst hJ
 refine AOps.go [35] [] [] [0] 0 ⟨[(0, tB v7)], []⟩ ?_ z0 trivial ?_
 ·kernel_rfl
 refine AOps.nil ?_
 refine AWp.ret ?_
 cases h
 exact ⟨.inr rfl, rfl⟩

noncomputable def f16_j1 (v7 : Int) (v8 : List UInt8) : Option ((List UInt8) × Int) :=
 some (v8, v7)

noncomputable def f16_j2 (v7 : Int) (v9 : List UInt8) : Option ((List UInt8) × Int) :=
 some (v9, v7)

noncomputable def f16 (v1 : List T36) (v2 : List (List T34)) (v3 : List (List (List UInt8))) : Option ((List UInt8) × Int) :=
 (f24 v1 v2 v3).bind fun v4 => match v4 with | (none, v6, v7) => cond (v7 == (2 : Int)) (f16_j1 v7 ([] : List UInt8)) (f16_j1 v7 v6) | (some v5, v6, v7) => cond (v7 == (2 : Int)) (f16_j2 v7 ([] : List UInt8)) (f16_j2 v7 v6)

theorem f16_ok (v1 : List T36) (v2 : List (List T34)) (v3 : List (List (List UInt8))) {r : (List UInt8) × Int} (h : f16 v1 v2 v3 = some r) : ACall Try.prog 16 [.tv (fzL 3 c36 v1), .tv (fzL 1 (cSl 2 c34) v2), .tv (fzL 1 (cSl 1 cStr) v3)] [] (.tup [.tv (.str r.1), .tv (.int .i64 r.2)]) [] := by
 refine ACall.ofN (FF 23 0) (rs := [6, 7]) (env := [(6, tS r.1), (7, tI r.2)]) Try.func16 rfl Try.ntmps16 Try.results16 (by decide) (by decide) rfl (Nat.le_of_ble_eq_true rfl) rfl (get_ofN _ _ _ rfl) (ok_ofN _ rfl) ?_
 refine AWp.seq ?_
 refine AWp.start [0, 1] [] [] [0, 1, 2] 0 ⟨[(0, q0 v1), (1, .tv (fzL 1 (cSl 2 c34) v2)), (2, .tv (fzL 1 (cSl 1 cStr) v3))], []⟩ rfl ?_ z0 trivial ?_
 ·kernel_rfl
 refine AOps.nil ?_
 refine AWp.seq ?_
 refine AWp.start [0, 1, 2] [3, 4, 5, 6, 7, 8, 9, 10] [] [12, 13, 14] 0 ⟨[(12, q0 v1), (13, .tv (fzL 1 (cSl 2 c34) v2)), (14, .tv (fzL 1 (cSl 1 cStr) v3))], []⟩ rfl ?_ z0 trivial ?_
 ·kernel_rfl
 obtain ⟨v4, hv4, h⟩ := of_bind h
 rcases v4 with ⟨(_ | v5), v6, v7⟩
 ·replace h : (cond (v7 == (2 : Int)) (f16_j1 v7 ([] : List UInt8)) (f16_j1 v7 v6)) = some r := h
  refine AOps.cons (AOne.callO (F := (FF 23 0)) _ rfl rfl rfl 15 rfl rfl 24 [] rfl Try.call24 [] (by decide) [q0 v1, .tv (fzL 1 (cSl 2 c34) v2), .tv (fzL 1 (cSl 1 cStr) v3)] (by kernel_rfl) [] (by kernel_rfl) (f24_ok v1 v2 v3 hv4) (by kernel_rfl) (by kernel_rfl) _ rfl) ?_
  refine AOps.go [4, 5, 6, 7, 8, 9, 10] [] [] [9, 10] 0 ⟨[(9, tS v6), (10, tI v7)], []⟩ ?_ z0 trivial ?_
  ·kernel_rfl
  refine AOps.nil ?_
  refine AWp.join (V := (List UInt8)) (fun w => ⟨[(9, tS w), (10, tI v7)], []⟩) (fun w => f16_j1 v7 w = some r) ?_ ?_
  ·refine AWp.seq ?_
   refine AWp.start [0, 1] [] [] [9, 10, 20] 0 ⟨[(9, tS v6), (10, tI v7), (20, tB (v7 == (2 : Int)))], []⟩ rfl ?_ z0 trivial ?_
   ·kernel_rfl
   refine AOps.nil ?_
   refine AWp.cond rfl (fun hb => ?_) fun hb => ?_
   ·replace h := of_true h hb
    refine AWp.keepTo [10] 0 ⟨[(10, tI v7)], []⟩ ?_ z0 ?_
    ·kernel_rfl
    refine AWp.start [0] [] [] [9, 10] 0 ⟨[(9, tS ([] : List UInt8)), (10, tI v7)], []⟩ rfl ?_ z0 trivial ?_
    ·kernel_rfl
    refine AOps.nil ?_
    exact ⟨([] : List UInt8), h, rfl⟩
   ·replace h := of_false h hb
    refine AWp.keepTo [9, 10] 0 ⟨[(9, tS v6), (10, tI v7)], []⟩ ?_ z0 ?_
    ·kernel_rfl
    refine AWp.skip ?_
    exact ⟨v6, h, rfl⟩
  ·rintro v8 h
   refine AWp.seq ?_
   refine AWp.start [0, 1, 2, 3] [] [] [6, 7] 0 ⟨[(6, tS v8), (7, tI v7)], []⟩ rfl ?_ z0 trivial ?_
   ·kernel_rfl
   refine AOps.nil ?_
   refine AWp.ret ?_
   cases h
   exact ⟨.inr rfl, rfl⟩
 ·replace h : (cond (v7 == (2 : Int)) (f16_j2 v7 ([] : List UInt8)) (f16_j2 v7 v6)) = some r := h
  refine AOps.cons (AOne.callO (F := (FF 23 0)) _ rfl rfl rfl 15 rfl rfl 24 [] rfl Try.call24 [] (by decide) [q0 v1, .tv (fzL 1 (cSl 2 c34) v2), .tv (fzL 1 (cSl 1 cStr) v3)] (by kernel_rfl) [] (by kernel_rfl) (f24_ok v1 v2 v3 hv4) (by kernel_rfl) (by kernel_rfl) _ rfl) ?_
  refine AOps.go [4, 5, 6, 7, 8, 9, 10] [] [] [9, 10] 0 ⟨[(9, tS v6), (10, tI v7)], []⟩ ?_ z0 trivial ?_
  ·kernel_rfl
  refine AOps.nil ?_
  refine AWp.join (V := (List UInt8)) (fun w => ⟨[(9, tS w), (10, tI v7)], []⟩) (fun w => f16_j2 v7 w = some r) ?_ ?_
  ·refine AWp.seq ?_
   refine AWp.start [0, 1] [] [] [9, 10, 20] 0 ⟨[(9, tS v6), (10, tI v7), (20, tB (v7 == (2 : Int)))], []⟩ rfl ?_ z0 trivial ?_
   ·kernel_rfl
   refine AOps.nil ?_
   refine AWp.cond rfl (fun hb => ?_) fun hb => ?_
   ·replace h := of_true h hb
    refine AWp.keepTo [10] 0 ⟨[(10, tI v7)], []⟩ ?_ z0 ?_
    ·kernel_rfl
    refine AWp.start [0] [] [] [9, 10] 0 ⟨[(9, tS ([] : List UInt8)), (10, tI v7)], []⟩ rfl ?_ z0 trivial ?_
    ·kernel_rfl
    refine AOps.nil ?_
    exact ⟨([] : List UInt8), h, rfl⟩
   ·replace h := of_false h hb
    refine AWp.keepTo [9, 10] 0 ⟨[(9, tS v6), (10, tI v7)], []⟩ ?_ z0 ?_
    ·kernel_rfl
    refine AWp.skip ?_
    exact ⟨v6, h, rfl⟩
  ·rintro v9 h
   refine AWp.seq ?_
   refine AWp.start [0, 1, 2, 3] [] [] [6, 7] 0 ⟨[(6, tS v9), (7, tI v7)], []⟩ rfl ?_ z0 trivial ?_
   ·kernel_rfl
   refine AOps.nil ?_
   refine AWp.ret ?_
   cases h
   exact ⟨.inr rfl, rfl⟩

noncomputable def f64 (v1 : Int) : Option Bool :=
 (cond (decide (v1 ≥ (97 : Int))) (some (decide (v1 ≤ (122 : Int)))) (some false)).bind fun v2 => (cond v2 (some true) ((cond (decide (v1 ≥ (65 : Int))) (some (decide (v1 ≤ (90 : Int)))) (some false)).bind fun v4 => some v4)).bind fun v3 => some v3

theorem f64_ok (v1 : Int) {r : Bool} (h : f64 v1 = some r) : ACall Try.prog 64 [.tv (.int .u8 v1)] [] (.tv (.bool r)) [] := by
 refine ACall.of1 (FF 17 0) Try.func64 rfl Try.ntmps64 Try.results64 (Nat.le_of_ble_eq_true rfl) rfl rfl ?_
 refine AWp.seq ?_
 refine AWp.start [0] [] [] [0] 0 ⟨[(0, .tv (.int .u8 v1))], []⟩ rfl ?_ z0 trivial ?_
 ·kernel_rfl
 refine AOps.nil ?_
 refine AWp.seq ?_
 refine AWp.start [0, 1, 2] [3, 4, 5, 6, 7, 8, 9, 10, 11, 12, 13, 14] [] [0, 5] 0 ⟨[(0, .tv (.int .u8 v1)), (5, tB (decide (v1 ≥ (97 : Int))))], []⟩ rfl ?_ z0 trivial ?_
 ·kernel_rfl
 obtain ⟨v2, hc3, h⟩ := of_bind h
 refine AOps.cut [3, 4, 5] [6, 7, 8, 9, 10, 11, 12, 13, 14] (fun σ => σ = ⟨[(0, .tv (.int .u8 v1)), (8, tB v2)], []⟩) ?_ fun σ' hJ => ?_
 ·refine AOps.split (fun b => ⟨[(0, .tv (.int .u8 v1)), (5, tB b)], []⟩) _ (fun hb => ?_) fun hb => ?_
  ·replace hc3 := of_true hc3 hb
   refine AOps.go [3, 4, 5] [] [] [0, 8] 0 ⟨[(0, .tv (.int .u8 v1)), (8, tB (decide (v1 ≤ (122 : Int))))], []⟩ ?_ z0 trivial ?_
   ·kernel_rfl
   cases hc3
   exact AOps.nil rfl
  ·replace hc3 := of_false hc3 hb
   refine AOps.go [3, 4, 5] [] [] [0, 8] 0 ⟨[(0, .tv (.int .u8 v1)), (8, tB false)], []⟩ ?_ z0 trivial ?_
   ·kernel_rfl
   cases hc3
   exact AOps.nil rfl
 subst hJ
 refine AOps.go [6] [7, 8, 9, 10, 11, 12, 13, 14] [] [0, 9] 0 ⟨[(0, .tv (.int .u8 v1)), (9, tB v2)], []⟩ ?_ z0 trivial ?_
 ·kernel_rfl
 obtain ⟨v3, hc7, h⟩ := of_bind h
 refine AOps.cut [7, 8, 9, 10, 11, 12, 13] [14] (fun σ => σ = ⟨[(16, tB v3)], []⟩) ?_ fun σ' hJ => ?_
 ·refine AOps.split (fun b => ⟨[(0, .tv (.int .u8 v1)), (9, tB b)], []⟩) _ (fun hb => ?_) fun hb => ?_
  ·replace hc7 := of_true hc7 hb
   refine AOps.go [7, 8, 9, 10, 11, 12, 13] [] [] [16] 0 ⟨[(16, tB true)], []⟩ ?_ z0 trivial ?_
   ·kernel_rfl
   cases hc7
   exact AOps.nil rfl
  ·replace hc7 := of_false hc7 hb
   refine AOps.go [7, 8, 9] [10, 11, 12, 13] [] [0, 9, 12] 0 ⟨[(0, .tv (.int .u8 v1)), (9, tB false), (12, tB (decide (v1 ≥ (65 : Int))))], []⟩ ?_ z0 trivial ?_
   ·kernel_rfl
   obtain ⟨v4, hc10, hc7⟩ := of_bind hc7
   refine AOps.cut [10, 11, 12] [13] (fun σ => σ = ⟨[(9, tB false), (15, tB v4)], []⟩) ?_ fun σ' hJ => ?_
   ·refine AOps.split (fun b => ⟨[(0, .tv (.int .u8 v1)), (9, tB false), (12, tB b)], []⟩) _ (fun hb => ?_) fun hb => ?_
    ·replace hc10 := of_true hc10 hb
     refine AOps.go [10, 11, 12] [] [] [9, 15] 0 ⟨[(9, tB false), (15, tB (decide (v1 ≤ (90 : Int))))], []⟩ ?_ z0 trivial ?_
     ·kernel_rfl
     cases hc10
     exact AOps.nil rfl
    ·replace hc10 := of_false hc10 hb
     refine AOps.go [10, 11, 12] [] [] [9, 15] 0 ⟨[(9, tB false), (15, tB false)], []⟩ ?_ z0 trivial ?_
     ·kernel_rfl
     cases hc10
     exact AOps.nil rfl
   subst hJ
   refine AOps.go [13] [] [] [16] 0 ⟨[(16, tB v4)], []⟩ ?_ z0 trivial ?_
   ·kernel_rfl
   cases hc7
   exact AOps.nil rfl
 subst hJ
 refine AOps.go [14] [] [] [2] 0 ⟨[(2, tB v3)], []⟩ ?_ z0 trivial ?_
 ·kernel_rfl
 refine AOps.nil ?_
 refine AWp.ret ?_
 cases h
 exact ⟨.inr rfl, rfl⟩

noncomputable def f65 (v1 : Int) : Option Bool :=
 (cond (decide (v1 ≥ (48 : Int))) (some (decide (v1 ≤ (57 : Int)))) (some false)).bind fun v2 => some v2

theorem f65_ok (v1 : Int) {r : Bool} (h : f65 v1 = some r) : ACall Try.prog 65 [.tv (.int .u8 v1)] [] (.tv (.bool r)) [] := by
 refine ACall.of1 (FF 9 0) Try.func65 rfl Try.ntmps65 Try.results65 (Nat.le_of_ble_eq_true rfl) rfl rfl ?_
 refine AWp.seq ?_
 refine AWp.start [0] [] [] [0] 0 ⟨[(0, .tv (.int .u8 v1))], []⟩ rfl ?_ z0 trivial ?_
 ·kernel_rfl
 refine AOps.nil ?_
 refine AWp.seq ?_
 refine AWp.start [0, 1, 2] [3, 4, 5, 6] [] [0, 5] 0 ⟨[(0, .tv (.int .u8 v1)), (5, tB (decide (v1 ≥ (48 : Int))))], []⟩ rfl ?_ z0 trivial ?_
 ·kernel_rfl
 obtain ⟨v2, hc3, h⟩ := of_bind h
 refine AOps.cut [3, 4, 5] [6] (fun σ => σ = ⟨[(8, tB v2)], []⟩) ?_ fun σ' hJ => ?_
 ·refine AOps.split (fun b => ⟨[(0, .tv (.int .u8 v1)), (5, tB b)], []⟩) _ (fun hb => ?_) fun hb => ?_
  ·replace hc3 := of_true hc3 hb
   refine AOps.go [3, 4, 5] [] [] [8] 0 ⟨[(8, tB (decide (v1 ≤ (57 : Int))))], []⟩ ?_ z0 trivial ?_
   ·kernel_rfl
   cases hc3
   exact AOps.nil rfl
  ·replace hc3 := of_false hc3 hb
   refine AOps.go [3, 4, 5] [] [] [8] 0 ⟨[(8, tB false)], []⟩ ?_ z0 trivial ?_
   ·kernel_rfl
   cases hc3
   exact AOps.nil rfl
 subst hJ
 refine AOps.go [6] [] [] [2] 0 ⟨[(2, tB v2)], []⟩ ?_ z0 trivial ?_
 ·kernel_rfl
 refine AOps.nil ?_
 refine AWp.ret ?_
 cases h
 exact ⟨.inr rfl, rfl⟩

noncomputable def f62 (v1 : Int) : Option Bool :=
 (f64 v1).bind fun v2 => (cond v2 (some true) ((f65 v1).bind fun v4 => some v4)).bind fun v3 => (cond v3 (some true) (some (v1 == (95 : Int)))).bind fun v5 => some v5

theorem f62_ok (v1 : Int) {r : Bool} (h : f62 v1 = some r) : ACall Try.prog 62 [.tv (.int .u8 v1)] [] (.tv (.bool r)) [] := by
 refine ACall.of1 (FF 13 0) Try.func62 rfl Try.ntmps62 Try.results62 (Nat.le_of_ble_eq_true rfl) rfl rfl ?_
 refine AWp.seq ?_
 refine AWp.start [0] [] [] [0] 0 ⟨[(0, .tv (.int .u8 v1))], []⟩ rfl ?_ z0 trivial ?_
 ·kernel_rfl
 refine AOps.nil ?_
 refine AWp.seq ?_
 refine AWp.start [0] [1, 2, 3, 4, 5, 6, 7, 8, 9, 10] [] [0, 3] 0 ⟨[(0, .tv (.int .u8 v1)), (3, .tv (.int .u8 v1))], []⟩ rfl ?_ z0 trivial ?_
 ·kernel_rfl
 obtain ⟨v2, hv2, h⟩ := of_bind h
 refine AOps.cons (AOne.callP (F := (FF 13 0)) _ rfl rfl rfl _ rfl rfl _ _ rfl Try.call64 [.tv (.int .u8 v1)] rfl rfl (f64_ok v1 hv2) rfl) ?_
 refine AOps.go [2] [3, 4, 5, 6, 7, 8, 9, 10] [] [0, 5] 0 ⟨[(0, .tv (.int .u8 v1)), (5, tB v2)], []⟩ ?_ z0 trivial ?_
 ·kernel_rfl
 obtain ⟨v3, hc3, h⟩ := of_bind h
 refine AOps.cut [3, 4, 5] [6, 7, 8, 9, 10] (fun σ => σ = ⟨[(0, .tv (.int .u8 v1)), (8, tB v3)], []⟩) ?_ fun σ' hJ => ?_
 ·refine AOps.split (fun b => ⟨[(0, .tv (.int .u8 v1)), (5, tB b)], []⟩) _ (fun hb => ?_) fun hb => ?_
  ·replace hc3 := of_true hc3 hb
   refine AOps.go [3, 4, 5] [] [] [0, 8] 0 ⟨[(0, .tv (.int .u8 v1)), (8, tB true)], []⟩ ?_ z0 trivial ?_
   ·kernel_rfl
   cases hc3
   exact AOps.nil rfl
  ·replace hc3 := of_false hc3 hb
   refine AOps.go [3] [4, 5] [] [0, 5, 6] 0 ⟨[(0, .tv (.int .u8 v1)), (5, tB false), (6, .tv (.int .u8 v1))], []⟩ ?_ z0 trivial ?_
   ·kernel_rfl
   obtain ⟨v4, hv4, hc3⟩ := of_bind hc3
   refine AOps.cons (AOne.callP (F := (FF 13 0)) _ rfl rfl rfl _ rfl rfl _ _ rfl Try.call65 [.tv (.int .u8 v1)] rfl rfl (f65_ok v1 hv4) rfl) ?_
   refine AOps.go [5] [] [] [0, 8] 0 ⟨[(0, .tv (.int .u8 v1)), (8, tB v4)], []⟩ ?_ z0 trivial ?_
   ·kernel_rfl
   cases hc3
   exact AOps.nil rfl
 subst hJ
 refine AOps.go [6] [7, 8, 9, 10] [] [0, 9] 0 ⟨[(0, .tv (.int .u8 v1)), (9, tB v3)], []⟩ ?_ z0 trivial ?_
 ·kernel_rfl
 obtain ⟨v5, hc7, h⟩ := of_bind h
 refine AOps.cut [7, 8, 9] [10] (fun σ => σ = ⟨[(12, tB v5)], []⟩) ?_ fun σ' hJ => ?_
 ·refine AOps.split (fun b => ⟨[(0, .tv (.int .u8 v1)), (9, tB b)], []⟩) _ (fun hb => ?_) fun hb => ?_
  ·replace hc7 := of_true hc7 hb
   refine AOps.go [7, 8, 9] [] [] [12] 0 ⟨[(12, tB true)], []⟩ ?_ z0 trivial ?_
   ·kernel_rfl
   cases hc7
   exact AOps.nil rfl
  ·replace hc7 := of_false hc7 hb
   refine AOps.go [7, 8, 9] [] [] [12] 0 ⟨[(12, tB (v1 == (95 : Int)))], []⟩ ?_ z0 trivial ?_
   ·kernel_rfl
   cases hc7
   exact AOps.nil rfl
 subst hJ
 refine AOps.go [10] [] [] [2] 0 ⟨[(2, tB v5)], []⟩ ?_ z0 trivial ?_
 ·kernel_rfl
 refine AOps.nil ?_
 refine AWp.ret ?_
 cases h
 exact ⟨.inr rfl, rfl⟩

noncomputable def f55_b1 (v1 : List UInt8) (v5 : Int) : Option (Int ⊕ Out Bool Unit) :=
 cond (decide (v5 < (v1.length : Int))) (if (0 : Int) ≤ v5 ∧ v5 < (v1.length : Int) then (f62 (((v1.getD v5.toNat 0).toNat : Nat) : Int)).bind fun v6 => (cond (!v6) (some true) (if (0 : Int) ≤ v5 ∧ v5 < (v1.length : Int) then (cond (decide ((((v1.getD v5.toNat 0).toNat : Nat) : Int) ≥ (65 : Int))) (if (0 : Int) ≤ v5 ∧ v5 < (v1.length : Int) then some (decide ((((v1.getD v5.toNat 0).toNat : Nat) : Int) ≤ (90 : Int))) else none) (some false)).bind fun v8 => some v8 else none)).bind fun v7 => cond v7 (some (.inr (.ret false))) (some (.inl (w64 (v5 + (1 : Int))))) else none) (some (.inr (.go ())))

noncomputable def f55 (v1 : List UInt8) : Option Bool :=
 (cond (v1 == ([] : List UInt8)) (some true) (some (decide ((v1.length : Int) > (12 : Int))))).bind fun v2 => (cond v2 (some true) (if (0 : Int) < (v1.length : Int) then some (decide ((((v1.getD 0 0).toNat : Nat) : Int) < (97 : Int))) else none)).bind fun v3 => (cond v3 (some true) (if (0 : Int) < (v1.length : Int) then some (decide ((((v1.getD 0 0).toNat : Nat) : Int) > (122 : Int))) else none)).bind fun v4 => cond v4 (some false) ((iter (fun s => f55_b1 v1 s) (0 : Int)).bind fun y => match y with | .ret v9 => some v9 | .go _ => some true)

theorem f55_ok (v1 : List UInt8) {r : Bool} (h : f55 v1 = some r) : ACall Try.prog 55 [.tv (.str v1)] [] (.tv (.bool r)) [] := by
 refine ACall.of1 (FF 44 0) Try.func55 rfl Try.ntmps55 Try.results55 (Nat.le_of_ble_eq_true rfl) rfl rfl ?_
 refine AWp.seq ?_
 refine AWp.start [0] [] [] [0] 0 ⟨[(0, tS v1)], []⟩ rfl ?_ z0 trivial ?_
 ·kernel_rfl
 refine AOps.nil ?_
 refine AWp.seq ?_
 refine AWp.seq ?_
 refine AWp.start [0, 1, 2] [3, 4, 5, 6, 7, 8, 9, 10, 11, 12, 13, 14, 15, 16] [] [0, 6] 0 ⟨[(0, tS v1), (6, tB (v1 == ([] : List UInt8)))], []⟩ rfl ?_ z0 trivial ?_
 ·kernel_rfl
 obtain ⟨v2, hc3, h⟩ := of_bind h
 refine AOps.cut [3, 4, 5, 6] [7, 8, 9, 10, 11, 12, 13, 14, 15, 16] (fun σ => σ = ⟨[(0, tS v1), (10, tB v2)], []⟩) ?_ fun σ' hJ => ?_
 ·refine AOps.split (fun b => ⟨[(0, tS v1), (6, tB b)], []⟩) _ (fun hb => ?_) fun hb => ?_
  ·replace hc3 := of_true hc3 hb
   refine AOps.go [3, 4, 5, 6] [] [] [0, 10] 0 ⟨[(0, tS v1), (10, tB true)], []⟩ ?_ z0 trivial ?_
   ·kernel_rfl
   cases hc3
   exact AOps.nil rfl
  ·replace hc3 := of_false hc3 hb
   refine AOps.go [3, 4, 5, 6] [] [] [0, 10] 0 ⟨[(0, tS v1), (10, tB (decide ((v1.length : Int) > (12 : Int))))], []⟩ ?_ z0 trivial ?_
   ·kernel_rfl
   cases hc3
   exact AOps.nil rfl
 subst hJ
 refine AOps.go [7] [8, 9, 10, 11, 12, 13, 14, 15, 16] [] [0, 11] 0 ⟨[(0, tS v1), (11, tB v2)], []⟩ ?_ z0 trivial ?_
 ·kernel_rfl
 obtain ⟨v3, hc8, h⟩ := of_bind h
 refine AOps.cut [8, 9, 10, 11] [12, 13, 14, 15, 16] (fun σ => σ = ⟨[(0, tS v1), (15, tB v3)], []⟩) ?_ fun σ' hJ => ?_
 ·refine AOps.split (fun b => ⟨[(0, tS v1), (11, tB b)], []⟩) _ (fun hb => ?_) fun hb => ?_
  ·replace hc8 := of_true hc8 hb
   refine AOps.go [8, 9, 10, 11] [] [] [0, 15] 0 ⟨[(0, tS v1), (15, tB true)], []⟩ ?_ z0 trivial ?_
   ·kernel_rfl
   cases hc8
   exact AOps.nil rfl
  ·replace hc8 := of_false hc8 hb
   obtain ⟨hg, hc8⟩ := of_guard hc8
   refine AOps.go [8, 9, 10, 11] [] [(0 : Int) ≤ (0 : Int), (0 : Int) < (v1.length : Int)] [0, 15] 0 ⟨[(0, tS v1), (15, tB (decide ((((v1.getD 0 0).toNat : Nat) : Int) < (97 : Int))))], []⟩ ?_ z0 ⟨(by decide : (0 : Int) ≤ (0 : Int)), hg⟩ ?_
   ·kernel_rfl
   cases hc8
   exact AOps.nil rfl
 subst hJ
 refine AOps.go [12] [13, 14, 15, 16] [] [0, 16] 0 ⟨[(0, tS v1), (16, tB v3)], []⟩ ?_ z0 trivial ?_
 ·kernel_rfl
 obtain ⟨v4, hc13, h⟩ := of_bind h
 refine AOps.cut [13, 14, 15, 16] [] (fun σ => σ = ⟨[(0, tS v1), (20, tB v4)], []⟩) ?_ fun σ' hJ => ?_
 ·refine AOps.split (fun b => ⟨[(0, tS v1), (16, tB b)], []⟩) _ (fun hb => ?_) fun hb => ?_
  ·replace hc13 := of_true hc13 hb
   refine AOps.go [13, 14, 15, 16] [] [] [0, 20] 0 ⟨[(0, tS v1), (20, tB true)], []⟩ ?_ z0 trivial ?_
   ·kernel_rfl
   cases hc13
   exact AOps.nil rfl
  ·replace hc13 := of_false hc13 hb
   obtain ⟨hg, hc13⟩ := of_guard hc13
   refine AOps.go [13, 14, 15, 16] [] [(0 : Int) ≤ (0 : Int), (0 : Int) < (v1.length : Int)] [0, 20] 0 ⟨[(0, tS v1), (20, tB (decide ((((v1.getD 0 0).toNat : Nat) : Int) > (122 : Int))))], []⟩ ?_ z0 ⟨(by decide : (0 : Int) ≤ (0 : Int)), hg⟩ ?_
   ·kernel_rfl
   cases hc13
   exact AOps.nil rfl
 subst hJ
 refine AOps.nil ?_
 refine AWp.cond rfl (fun hb => ?_) fun hb => ?_
 ·replace h := of_true h hb
  refine AWp.keepTo [] 0 ⟨[], []⟩ ?_ z0 ?_
  ·kernel_rfl
  refine AWp.seq ?_
  refine AWp.start [0] [] [] [2] 0 ⟨[(2, tB false)], []⟩ rfl ?_ z0 trivial ?_
  ·kernel_rfl
  refine AOps.nil ?_
  refine AWp.ret ?_
  cases h
  exact ⟨.inr rfl, rfl⟩
 ·replace h := of_false h hb
  refine AWp.keepTo [0] 0 ⟨[(0, tS v1)], []⟩ ?_ z0 ?_
  ·kernel_rfl
  refine AWp.skip ?_
  refine AWp.seq ?_
  refine AWp.seq ?_
  refine AWp.start [0] [] [] [0, 3] 0 ⟨[(0, tS v1), (3, tI (0 : Int))], []⟩ rfl ?_ z0 trivial ?_
  ·kernel_rfl
  refine AOps.nil ?_
  refine AWp.block ?_
  obtain ⟨y, hy, h⟩ := of_bind h
  refine AWp.mono (AWp.loop (S := Int) (Y := Out Bool Unit) (fun s => ⟨[(0, tS v1), (3, tI s)], []⟩) (fun s => f55_b1 v1 s) (fun y e σ => match y with | .ret r => e = .ret ∧ σ = ⟨[(2, tB r)], []⟩ | .go v => e = .exit 0 ∧ σ = ⟨[], []⟩) ?_ hy) ?_
  ·rintro v5 o h
   refine AWp.seq ?_
   refine AWp.seq ?_
   refine AWp.start [0, 1, 2, 3] [] [] [0, 3, 24] 0 ⟨[(0, tS v1), (3, tI v5), (24, tB (decide (v5 < (v1.length : Int))))], []⟩ rfl ?_ z0 trivial ?_
   ·kernel_rfl
   refine AOps.nil ?_
   refine AWp.cond rfl (fun hb => ?_) fun hb => ?_
   ·replace h := of_true h hb
    refine AWp.keepTo [0, 3] 0 ⟨[(0, tS v1), (3, tI v5)], []⟩ ?_ z0 ?_
    ·kernel_rfl
    refine AWp.skip ?_
    refine AWp.seq ?_
    refine AWp.block ?_
    refine AWp.seq ?_
    obtain ⟨hg, h⟩ := of_guard h
    refine AWp.start [0, 1, 2] [3, 4, 5, 6, 7, 8, 9, 10, 11, 12, 13, 14, 15, 16] [(0 : Int) ≤ v5, v5 < (v1.length : Int)] [0, 3, 29] 0 ⟨[(0, tS v1), (3, tI v5), (29, .tv (.int .u8 (((v1.getD v5.toNat 0).toNat : Nat) : Int)))], []⟩ rfl ?_ z0 ⟨hg.1, hg.2⟩ ?_
    ·kernel_rfl
    obtain ⟨v6, hv6, h⟩ := of_bind h
    refine AOps.cons (AOne.callP (F := (FF 44 0)) _ rfl rfl rfl _ rfl rfl _ _ rfl Try.call62 [.tv (.int .u8 (((v1.getD v5.toNat 0).toNat : Nat) : Int))] rfl rfl (f62_ok (((v1.getD v5.toNat 0).toNat : Nat) : Int) hv6) rfl) ?_
    refine AOps.go [4, 5] [6, 7, 8, 9, 10, 11, 12, 13, 14, 15, 16] [] [0, 3, 32] 0 ⟨[(0, tS v1), (3, tI v5), (32, tB (!v6))], []⟩ ?_ z0 trivial ?_
    ·kernel_rfl
    obtain ⟨v7, hc6, h⟩ := of_bind h
    refine AOps.cut [6, 7, 8, 9, 10, 11, 12, 13, 14, 15, 16] [] (fun σ => σ = ⟨[(0, tS v1), (3, tI v5), (43, tB v7)], []⟩) ?_ fun σ' hJ => ?_
    ·refine AOps.split (fun b => ⟨[(0, tS v1), (3, tI v5), (32, tB b)], []⟩) _ (fun hb => ?_) fun hb => ?_
     ·replace hc6 := of_true hc6 hb
      refine AOps.go [6, 7, 8, 9, 10, 11, 12, 13, 14, 15, 16] [] [] [0, 3, 43] 0 ⟨[(0, tS v1), (3, tI v5), (43, tB true)], []⟩ ?_ z0 trivial ?_
      ·kernel_rfl
      cases hc6
      exact AOps.nil rfl
     ·replace hc6 := of_false hc6 hb
      obtain ⟨hg, hc6⟩ := of_guard hc6
      refine AOps.go [6, 7, 8, 9, 10] [11, 12, 13, 14, 15, 16] [(0 : Int) ≤ v5, v5 < (v1.length : Int)] [0, 3, 32, 37] 0 ⟨[(0, tS v1), (3, tI v5), (32, tB false), (37, tB (decide ((((v1.getD v5.toNat 0).toNat : Nat) : Int) ≥ (65 : Int))))], []⟩ ?_ z0 ⟨hg.1, hg.2⟩ ?_
      ·kernel_rfl
      obtain ⟨v8, hc11, hc6⟩ := of_bind hc6
      refine AOps.cut [11, 12, 13, 14, 15] [16] (fun σ => σ = ⟨[(0, tS v1), (3, tI v5), (32, tB false), (42, tB v8)], []⟩) ?_ fun σ' hJ => ?_
      ·refine AOps.split (fun b => ⟨[(0, tS v1), (3, tI v5), (32, tB false), (37, tB b)], []⟩) _ (fun hb => ?_) fun hb => ?_
       ·replace hc11 := of_true hc11 hb
        obtain ⟨hg, hc11⟩ := of_guard hc11
        refine AOps.go [11, 12, 13, 14, 15] [] [(0 : Int) ≤ v5, v5 < (v1.length : Int)] [0, 3, 32, 42] 0 ⟨[(0, tS v1), (3, tI v5), (32, tB false), (42, tB (decide ((((v1.getD v5.toNat 0).toNat : Nat) : Int) ≤ (90 : Int))))], []⟩ ?_ z0 ⟨hg.1, hg.2⟩ ?_
        ·kernel_rfl
        cases hc11
        exact AOps.nil rfl
       ·replace hc11 := of_false hc11 hb
        refine AOps.go [11, 12, 13, 14, 15] [] [] [0, 3, 32, 42] 0 ⟨[(0, tS v1), (3, tI v5), (32, tB false), (42, tB false)], []⟩ ?_ z0 trivial ?_
        ·kernel_rfl
        cases hc11
        exact AOps.nil rfl
      subst hJ
      refine AOps.go [16] [] [] [0, 3, 43] 0 ⟨[(0, tS v1), (3, tI v5), (43, tB v8)], []⟩ ?_ z0 trivial ?_
      ·kernel_rfl
      cases hc6
      exact AOps.nil rfl
    subst hJ
    refine AOps.nil ?_
    refine AWp.cond rfl (fun hb => ?_) fun hb => ?_
    ·replace h := of_true h hb
     refine AWp.keepTo [] 0 ⟨[], []⟩ ?_ z0 ?_
     ·kernel_rfl
     refine AWp.seq ?_
     refine AWp.start [0] [] [] [2] 0 ⟨[(2, tB false)], []⟩ rfl ?_ z0 trivial ?_
     ·kernel_rfl
     refine AOps.nil ?_
     refine AWp.ret ?_
     cases h
     exact Or.inr ⟨_, rfl, by simp, rfl, rfl⟩
    ·replace h := of_false h hb
     refine AWp.keepTo [0, 3] 0 ⟨[(0, tS v1), (3, tI v5)], []⟩ ?_ z0 ?_
     ·kernel_rfl
     refine AWp.skip ?_
     refine AWp.start [0, 1, 2] [] [] [0, 3] 0 ⟨[(0, tS v1), (3, tI (w64 (v5 + (1 : Int))))], []⟩ rfl ?_ z0 trivial ?_
     ·kernel_rfl
     refine AOps.nil ?_
     cases h
     exact Or.inl ⟨_, rfl, rfl, rfl⟩
   ·replace h := of_false h hb
    refine AWp.keepTo [] 0 ⟨[], []⟩ ?_ z0 ?_
    ·kernel_rfl
    refine AWp.exit ?_
    cases h
    exact Or.inr ⟨_, rfl, by simp, rfl, rfl⟩
  ·intro e σ hp
   rcases y with v9 | _
   ·obtain ⟨rfl, rfl⟩ := hp
    cases h
    exact ⟨.inr rfl, rfl⟩
   ·obtain ⟨rfl, rfl⟩ := hp
    refine AWp.seq ?_
    refine AWp.start [0] [] [] [2] 0 ⟨[(2, tB true)], []⟩ rfl ?_ z0 trivial ?_
    ·kernel_rfl
    refine AOps.nil ?_
    refine AWp.ret ?_
    cases h
    exact ⟨.inr rfl, rfl⟩

noncomputable def f33_b1 (v1 : List T36) (v2 : List UInt8) (v3 : Int) : Option (Int ⊕ Out Int Unit) :=
 cond (decide (v3 < (v1.length : Int))) (if (0 : Int) ≤ v3 ∧ v3 < (v1.length : Int) then cond (((v1.getD v3.toNat default).f0) == v2) (some (.inr (.ret v3))) (some (.inl (w64 (v3 + (1 : Int))))) else none) (some (.inr (.go ())))

noncomputable def f33 (v1 : List T36) (v2 : List UInt8) : Option Int :=
 (iter (fun s => f33_b1 v1 v2 s) (0 : Int)).bind fun y => match y with | .ret v4 => some v4 | .go _ => some (-1 : Int)

theorem f33_ok (v1 : List T36) (v2 : List UInt8) {r : Int} (h : f33 v1 v2 = some r) : ACall Try.prog 33 [.tv (fzL 3 c36 v1), .tv (.str v2)] [] (.tv (.int .i64 r)) [] := by
 refine ACall.of1 (FF 20 0) Try.func33 rfl Try.ntmps33 Try.results33 (Nat.le_of_ble_eq_true rfl) rfl rfl ?_
 refine AWp.seq ?_
 refine AWp.start [0] [] [] [0, 1] 0 ⟨[(0, q0 v1), (1, tS v2)], []⟩ rfl ?_ z0 trivial ?_
 ·kernel_rfl
 refine AOps.nil ?_
 refine AWp.seq ?_
 refine AWp.seq ?_
 refine AWp.start [0] [] [] [0, 1, 5] 0 ⟨[(0, q0 v1), (1, tS v2), (5, tI (0 : Int))], []⟩ rfl ?_ z0 trivial ?_
 ·kernel_rfl
 refine AOps.nil ?_
 refine AWp.block ?_
 obtain ⟨y, hy, h⟩ := of_bind h
 refine AWp.mono (AWp.loop (S := Int) (Y := Out Int Unit) (fun s => ⟨[(0, q0 v1), (1, tS v2), (5, tI s)], []⟩) (fun s => f33_b1 v1 v2 s) (fun y e σ => match y with | .ret r => e = .ret ∧ σ = ⟨[(4, tI r)], []⟩ | .go v => e = .exit 0 ∧ σ = ⟨[], []⟩) ?_ hy) ?_
 ·rintro v3 o h
  refine AWp.seq ?_
  refine AWp.seq ?_
  refine AWp.start [0, 1, 2, 3] [] [] [0, 1, 5, 9] 0 ⟨[(0, q0 v1), (1, tS v2), (5, tI v3), (9, tB (decide (v3 < (v1.length : Int))))], []⟩ rfl ?_ z0 trivial ?_
  ·kernel_rfl
  refine AOps.nil ?_
  refine AWp.cond rfl (fun hb => ?_) fun hb => ?_
  ·replace h := of_true h hb
   refine AWp.keepTo [0, 1, 5] 0 ⟨[(0, q0 v1), (1, tS v2), (5, tI v3)], []⟩ ?_ z0 ?_
   ·kernel_rfl
   refine AWp.skip ?_
   refine AWp.seq ?_
   refine AWp.block ?_
   refine AWp.seq ?_
   obtain ⟨hg, h⟩ := of_guard h
   refine AWp.start [0, 1, 2, 3, 4, 5, 6] [] [(0 : Int) ≤ v3, v3 < (v1.length : Int)] [0, 1, 5, 18] 0 ⟨[(0, q0 v1), (1, tS v2), (5, tI v3), (18, tB (((gD v1 v3).f0) == v2))], []⟩ rfl ?_ z0 ⟨hg.1, hg.2⟩ ?_
   ·kernel_rfl
   refine AOps.nil ?_
   refine AWp.cond rfl (fun hb => ?_) fun hb => ?_
   ·replace h := of_true h hb
    refine AWp.keepTo [5] 0 ⟨[(5, tI v3)], []⟩ ?_ z0 ?_
    ·kernel_rfl
    refine AWp.seq ?_
    refine AWp.start [0, 1] [] [] [4] 0 ⟨[(4, tI v3)], []⟩ rfl ?_ z0 trivial ?_
    ·kernel_rfl
    refine AOps.nil ?_
    refine AWp.ret ?_
    cases h
    exact Or.inr ⟨_, rfl, by simp, rfl, rfl⟩
   ·replace h := of_false h hb
    refine AWp.keepTo [0, 1, 5] 0 ⟨[(0, q0 v1), (1, tS v2), (5, tI v3)], []⟩ ?_ z0 ?_
    ·kernel_rfl
    refine AWp.skip ?_
    refine AWp.start [0, 1, 2] [] [] [0, 1, 5] 0 ⟨[(0, q0 v1), (1, tS v2), (5, tI (w64 (v3 + (1 : Int))))], []⟩ rfl ?_ z0 trivial ?_
    ·kernel_rfl
    refine AOps.nil ?_
    cases h
    exact Or.inl ⟨_, rfl, rfl, rfl⟩
  ·replace h := of_false h hb
   refine AWp.keepTo [] 0 ⟨[], []⟩ ?_ z0 ?_
   ·kernel_rfl
   refine AWp.exit ?_
   cases h
   exact Or.inr ⟨_, rfl, by simp, rfl, rfl⟩
 ·intro e σ hp
  rcases y with v4 | _
  ·obtain ⟨rfl, rfl⟩ := hp
   cases h
   exact ⟨.inr rfl, rfl⟩
  ·obtain ⟨rfl, rfl⟩ := hp
   refine AWp.seq ?_
   refine AWp.start [0] [] [] [4] 0 ⟨[(4, tI (-1 : Int))], []⟩ rfl ?_ z0 trivial ?_
   ·kernel_rfl
   refine AOps.nil ?_
   refine AWp.ret ?_
   cases h
   exact ⟨.inr rfl, rfl⟩

noncomputable def f44_b1 (v1 : List T36) (v2 : Int) : Option (Int ⊕ Out Bool Unit) :=
 cond (decide (v2 < (v1.length : Int))) (if (0 : Int) ≤ v2 ∧ v2 < (v1.length : Int) then (f55 ((v1.getD v2.toNat default).f0)).bind fun v3 => (cond (!v3) (some true) ((f33 v1 ((v1.getD v2.toNat default).f0)).bind fun v5 => some (v5 != v2))).bind fun v4 => (cond v4 (some true) ((cond ((v1.getD v2.toNat default).f1 != (1 : Int)) (some ((v1.getD v2.toNat default).f1 != (2 : Int))) (some false)).bind fun v7 => (cond v7 (some ((v1.getD v2.toNat default).f1 != (4 : Int))) (some false)).bind fun v8 => some v8)).bind fun v6 => (cond v6 (some true) (some (decide ((v1.getD v2.toNat default).f2 < (1 : Int))))).bind fun v9 => (cond v9 (some true) (some (decide ((v1.getD v2.toNat default).f2 > (1000 : Int))))).bind fun v10 => cond v10 (some (.inr (.ret false))) (some (.inl (w64 (v2 + (1 : Int))))) else none) (some (.inr (.go ())))

noncomputable def f44 (v1 : List T36) : Option Bool :=
 (iter (fun s => f44_b1 v1 s) (0 : Int)).bind fun y => match y with | .ret v11 => some v11 | .go _ => some (decide ((v1.length : Int) ≤ (60 : Int)))

theorem f44_ok (v1 : List T36) {r : Bool} (h : f44 v1 = some r) : ACall Try.prog 44 [.tv (fzL 3 c36 v1)] [] (.tv (.bool r)) [] := by
 refine ACall.of1 (FF 55 0) Try.func44 rfl Try.ntmps44 Try.results44 (Nat.le_of_ble_eq_true rfl) rfl rfl ?_
 refine AWp.seq ?_
 refine AWp.start [0] [] [] [0] 0 ⟨[(0, q0 v1)], []⟩ rfl ?_ z0 trivial ?_
 ·kernel_rfl
 refine AOps.nil ?_
 refine AWp.seq ?_
 refine AWp.seq ?_
 refine AWp.start [0] [] [] [0, 3] 0 ⟨[(0, q0 v1), (3, tI (0 : Int))], []⟩ rfl ?_ z0 trivial ?_
 ·kernel_rfl
 refine AOps.nil ?_
 refine AWp.block ?_
 obtain ⟨y, hy, h⟩ := of_bind h
 refine AWp.mono (AWp.loop (S := Int) (Y := Out Bool Unit) (fun s => ⟨[(0, q0 v1), (3, tI s)], []⟩) (fun s => f44_b1 v1 s) (fun y e σ => match y with | .ret r => e = .ret ∧ σ = ⟨[(2, tB r)], []⟩ | .go v => e = .exit 0 ∧ σ = ⟨[(0, q0 v1)], []⟩) ?_ hy) ?_
 ·rintro v2 o h
  refine AWp.seq ?_
  refine AWp.seq ?_
  refine AWp.start [0, 1, 2, 3] [] [] [0, 3, 8] 0 ⟨[(0, q0 v1), (3, tI v2), (8, tB (decide (v2 < (v1.length : Int))))], []⟩ rfl ?_ z0 trivial ?_
  ·kernel_rfl
  refine AOps.nil ?_
  refine AWp.cond rfl (fun hb => ?_) fun hb => ?_
  ·replace h := of_true h hb
   refine AWp.keepTo [0, 3] 0 ⟨[(0, q0 v1), (3, tI v2)], []⟩ ?_ z0 ?_
   ·kernel_rfl
   refine AWp.skip ?_
   refine AWp.seq ?_
   refine AWp.block ?_
   refine AWp.seq ?_
   obtain ⟨hg, h⟩ := of_guard h
   refine AWp.start [0, 1, 2, 3, 4, 5] [] [(0 : Int) ≤ v2, v2 < (v1.length : Int)] [0, 3, 4] 1 ⟨[(0, q0 v1), (3, tI v2), (4, .pc 0 0)], [.cells 37 (c36 (gD v1 v2))]⟩ rfl ?_ z0 ⟨hg.1, hg.2⟩ ?_
   ·kernel_rfl
   refine AOps.nil ?_
   refine AWp.seq ?_
   refine AWp.pin 0 rfl rfl ?_
   refine AWp.keepTo [0, 3, 4] 0 ⟨[(0, q0 v1), (3, tI v2), (4, .rp (c36 (gD v1 v2)))], []⟩ ?_ z0 ?_
   ·kernel_rfl
   refine AWp.start [0, 1] [2, 3, 4, 5, 6, 7, 8, 9, 10, 11, 12, 13, 14, 15, 16, 17, 18, 19, 20, 21, 22, 23, 24, 25, 26, 27, 28, 29, 30, 31, 32, 33, 34, 35, 36] [] [0, 3, 4, 16] 0 ⟨[(0, q0 v1), (3, tI v2), (4, .rp (c36 (gD v1 v2))), (16, tS ((gD v1 v2).f0))], []⟩ rfl ?_ z0 trivial ?_
   ·kernel_rfl
   obtain ⟨v3, hv3, h⟩ := of_bind h
   refine AOps.cons (AOne.callP (F := (FF 55 0)) _ rfl rfl rfl _ rfl rfl _ _ rfl Try.call55 [tS ((gD v1 v2).f0)] rfl rfl (f55_ok ((gD v1 v2).f0) hv3) rfl) ?_
   refine AOps.go [3, 4] [5, 6, 7, 8, 9, 10, 11, 12, 13, 14, 15, 16, 17, 18, 19, 20, 21, 22, 23, 24, 25, 26, 27, 28, 29, 30, 31, 32, 33, 34, 35, 36] [] [0, 3, 4, 19] 0 ⟨[(0, q0 v1), (3, tI v2), (4, .rp (c36 (gD v1 v2))), (19, tB (!v3))], []⟩ ?_ z0 trivial ?_
   ·kernel_rfl
   obtain ⟨v4, hc5, h⟩ := of_bind h
   refine AOps.cut [5, 6, 7, 8, 9, 10, 11] [12, 13, 14, 15, 16, 17, 18, 19, 20, 21, 22, 23, 24, 25, 26, 27, 28, 29, 30, 31, 32, 33, 34, 35, 36] (fun σ => σ = ⟨[(0, q0 v1), (3, tI v2), (4, .rp (c36 (gD v1 v2))), (26, tB v4)], []⟩) ?_ fun σ' hJ => ?_
   ·refine AOps.split (fun b => ⟨[(0, q0 v1), (3, tI v2), (4, .rp (c36 (gD v1 v2))), (19, tB b)], []⟩) _ (fun hb => ?_) fun hb => ?_
    ·replace hc5 := of_true hc5 hb
     refine AOps.go [5, 6, 7, 8, 9, 10, 11] [] [] [0, 3, 4, 26] 0 ⟨[(0, q0 v1), (3, tI v2), (4, .rp (c36 (gD v1 v2))), (26, tB true)], []⟩ ?_ z0 trivial ?_
     ·kernel_rfl
     cases hc5
     exact AOps.nil rfl
    ·replace hc5 := of_false hc5 hb
     refine AOps.go [5, 6, 7] [8, 9, 10, 11] [] [0, 3, 4, 19, 20, 22] 0 ⟨[(0, q0 v1), (3, tI v2), (4, .rp (c36 (gD v1 v2))), (19, tB false), (20, q0 v1), (22, tS ((gD v1 v2).f0))], []⟩ ?_ z0 trivial ?_
     ·kernel_rfl
     obtain ⟨v5, hv5, hc5⟩ := of_bind hc5
     refine AOps.cons (AOne.callP (F := (FF 55 0)) _ rfl rfl rfl _ rfl rfl _ _ rfl Try.call33 [q0 v1, tS ((gD v1 v2).f0)] rfl rfl (f33_ok v1 ((gD v1 v2).f0) hv5) rfl) ?_
     refine AOps.go [9, 10, 11] [] [] [0, 3, 4, 26] 0 ⟨[(0, q0 v1), (3, tI v2), (4, .rp (c36 (gD v1 v2))), (26, tB (v5 != v2))], []⟩ ?_ z0 trivial ?_
     ·kernel_rfl
     cases hc5
     exact AOps.nil rfl
   subst hJ
   refine AOps.go [12] [13, 14, 15, 16, 17, 18, 19, 20, 21, 22, 23, 24, 25, 26, 27, 28, 29, 30, 31, 32, 33, 34, 35, 36] [] [0, 3, 4, 27] 0 ⟨[(0, q0 v1), (3, tI v2), (4, .rp (c36 (gD v1 v2))), (27, tB v4)], []⟩ ?_ z0 trivial ?_
   ·kernel_rfl
   obtain ⟨v6, hc13, h⟩ := of_bind h
   refine AOps.cut [13, 14, 15, 16, 17, 18, 19, 20, 21, 22, 23, 24, 25, 26] [27, 28, 29, 30, 31, 32, 33, 34, 35, 36] (fun σ => σ = ⟨[(0, q0 v1), (3, tI v2), (4, .rp (c36 (gD v1 v2))), (41, tB v6)], []⟩) ?_ fun σ' hJ => ?_
   ·refine AOps.split (fun b => ⟨[(0, q0 v1), (3, tI v2), (4, .rp (c36 (gD v1 v2))), (27, tB b)], []⟩) _ (fun hb => ?_) fun hb => ?_
    ·replace hc13 := of_true hc13 hb
     refine AOps.go [13, 14, 15, 16, 17, 18, 19, 20, 21, 22, 23, 24, 25, 26] [] [] [0, 3, 4, 41] 0 ⟨[(0, q0 v1), (3, tI v2), (4, .rp (c36 (gD v1 v2))), (41, tB true)], []⟩ ?_ z0 trivial ?_
     ·kernel_rfl
     cases hc13
     exact AOps.nil rfl
    ·replace hc13 := of_false hc13 hb
     refine AOps.go [13, 14, 15, 16] [17, 18, 19, 20, 21, 22, 23, 24, 25, 26] [] [0, 3, 4, 27, 31] 0 ⟨[(0, q0 v1), (3, tI v2), (4, .rp (c36 (gD v1 v2))), (27, tB false), (31, tB ((gD v1 v2).f1 != (1 : Int)))], []⟩ ?_ z0 trivial ?_
     ·kernel_rfl
     obtain ⟨v7, hc17, hc13⟩ := of_bind hc13
     refine AOps.cut [17, 18, 19, 20] [21, 22, 23, 24, 25, 26] (fun σ => σ = ⟨[(0, q0 v1), (3, tI v2), (4, .rp (c36 (gD v1 v2))), (27, tB false), (35, tB v7)], []⟩) ?_ fun σ' hJ => ?_
     ·refine AOps.split (fun b => ⟨[(0, q0 v1), (3, tI v2), (4, .rp (c36 (gD v1 v2))), (27, tB false), (31, tB b)], []⟩) _ (fun hb => ?_) fun hb => ?_
      ·replace hc17 := of_true hc17 hb
       refine AOps.go [17, 18, 19, 20] [] [] [0, 3, 4, 27, 35] 0 ⟨[(0, q0 v1), (3, tI v2), (4, .rp (c36 (gD v1 v2))), (27, tB false), (35, tB ((gD v1 v2).f1 != (2 : Int)))], []⟩ ?_ z0 trivial ?_
       ·kernel_rfl
       cases hc17
       exact AOps.nil rfl
      ·replace hc17 := of_false hc17 hb
       refine AOps.go [17, 18, 19, 20] [] [] [0, 3, 4, 27, 35] 0 ⟨[(0, q0 v1), (3, tI v2), (4, .rp (c36 (gD v1 v2))), (27, tB false), (35, tB false)], []⟩ ?_ z0 trivial ?_
       ·kernel_rfl
       cases hc17
       exact AOps.nil rfl
     subst hJ
     refine AOps.go [21] [22, 23, 24, 25, 26] [] [0, 3, 4, 27, 36] 0 ⟨[(0, q0 v1), (3, tI v2), (4, .rp (c36 (gD v1 v2))), (27, tB false), (36, tB v7)], []⟩ ?_ z0 trivial ?_
     ·kernel_rfl
     obtain ⟨v8, hc22, hc13⟩ := of_bind hc13
     refine AOps.cut [22, 23, 24, 25] [26] (fun σ => σ = ⟨[(0, q0 v1), (3, tI v2), (4, .rp (c36 (gD v1 v2))), (27, tB false), (40, tB v8)], []⟩) ?_ fun σ' hJ => ?_
     ·refine AOps.split (fun b => ⟨[(0, q0 v1), (3, tI v2), (4, .rp (c36 (gD v1 v2))), (27, tB false), (36, tB b)], []⟩) _ (fun hb => ?_) fun hb => ?_
      ·replace hc22 := of_true hc22 hb
       refine AOps.go [22, 23, 24, 25] [] [] [0, 3, 4, 27, 40] 0 ⟨[(0, q0 v1), (3, tI v2), (4, .rp (c36 (gD v1 v2))), (27, tB false), (40, tB ((gD v1 v2).f1 != (4 : Int)))], []⟩ ?_ z0 trivial ?_
       ·kernel_rfl
       cases hc22
       exact AOps.nil rfl
      ·replace hc22 := of_false hc22 hb
       refine AOps.go [22, 23, 24, 25] [] [] [0, 3, 4, 27, 40] 0 ⟨[(0, q0 v1), (3, tI v2), (4, .rp (c36 (gD v1 v2))), (27, tB false), (40, tB false)], []⟩ ?_ z0 trivial ?_
       ·kernel_rfl
       cases hc22
       exact AOps.nil rfl
     subst hJ
     refine AOps.go [26] [] [] [0, 3, 4, 41] 0 ⟨[(0, q0 v1), (3, tI v2), (4, .rp (c36 (gD v1 v2))), (41, tB v8)], []⟩ ?_ z0 trivial ?_
     ·kernel_rfl
     cases hc13
     exact AOps.nil rfl
   subst hJ
   refine AOps.go [27] [28, 29, 30, 31, 32, 33, 34, 35, 36] [] [0, 3, 4, 42] 0 ⟨[(0, q0 v1), (3, tI v2), (4, .rp (c36 (gD v1 v2))), (42, tB v6)], []⟩ ?_ z0 trivial ?_
   ·kernel_rfl
   obtain ⟨v9, hc28, h⟩ := of_bind h
   refine AOps.cut [28, 29, 30, 31] [32, 33, 34, 35, 36] (fun σ => σ = ⟨[(0, q0 v1), (3, tI v2), (4, .rp (c36 (gD v1 v2))), (46, tB v9)], []⟩) ?_ fun σ' hJ => ?_
   ·refine AOps.split (fun b => ⟨[(0, q0 v1), (3, tI v2), (4, .rp (c36 (gD v1 v2))), (42, tB b)], []⟩) _ (fun hb => ?_) fun hb => ?_
    ·replace hc28 := of_true hc28 hb
     refine AOps.go [28, 29, 30, 31] [] [] [0, 3, 4, 46] 0 ⟨[(0, q0 v1), (3, tI v2), (4, .rp (c36 (gD v1 v2))), (46, tB true)], []⟩ ?_ z0 trivial ?_
     ·kernel_rfl
     cases hc28
     exact AOps.nil rfl
    ·replace hc28 := of_false hc28 hb
     refine AOps.go [28, 29, 30, 31] [] [] [0, 3, 4, 46] 0 ⟨[(0, q0 v1), (3, tI v2), (4, .rp (c36 (gD v1 v2))), (46, tB (decide ((gD v1 v2).f2 < (1 : Int))))], []⟩ ?_ z0 trivial ?_
     ·kernel_rfl
     cases hc28
     exact AOps.nil rfl
   subst hJ
   refine AOps.go [32] [33, 34, 35, 36] [] [0, 3, 4, 47] 0 ⟨[(0, q0 v1), (3, tI v2), (4, .rp (c36 (gD v1 v2))), (47, tB v9)], []⟩ ?_ z0 trivial ?_
   ·kernel_rfl
   obtain ⟨v10, hc33, h⟩ := of_bind h
   refine AOps.cut [33, 34, 35, 36] [] (fun σ => σ = ⟨[(0, q0 v1), (3, tI v2), (51, tB v10)], []⟩) ?_ fun σ' hJ => ?_
   ·refine AOps.split (fun b => ⟨[(0, q0 v1), (3, tI v2), (4, .rp (c36 (gD v1 v2))), (47, tB b)], []⟩) _ (fun hb => ?_) fun hb => ?_
    ·replace hc33 := of_true hc33 hb
     refine AOps.go [33, 34, 35, 36] [] [] [0, 3, 51] 0 ⟨[(0, q0 v1), (3, tI v2), (51, tB true)], []⟩ ?_ z0 trivial ?_
     ·kernel_rfl
     cases hc33
     exact AOps.nil rfl
    ·replace hc33 := of_false hc33 hb
     refine AOps.go [33, 34, 35, 36] [] [] [0, 3, 51] 0 ⟨[(0, q0 v1), (3, tI v2), (51, tB (decide ((gD v1 v2).f2 > (1000 : Int))))], []⟩ ?_ z0 trivial ?_
     ·kernel_rfl
     cases hc33
     exact AOps.nil rfl
   subst hJ
   refine AOps.nil ?_
   refine AWp.cond rfl (fun hb => ?_) fun hb => ?_
   ·replace h := of_true h hb
    refine AWp.keepTo [] 0 ⟨[], []⟩ ?_ z0 ?_
    ·kernel_rfl
    refine AWp.seq ?_
    refine AWp.start [0] [] [] [2] 0 ⟨[(2, tB false)], []⟩ rfl ?_ z0 trivial ?_
    ·kernel_rfl
    refine AOps.nil ?_
    refine AWp.ret ?_
    cases h
    exact Or.inr ⟨_, rfl, by simp, rfl, rfl⟩
   ·replace h := of_false h hb
    refine AWp.keepTo [0, 3] 0 ⟨[(0, q0 v1), (3, tI v2)], []⟩ ?_ z0 ?_
    ·kernel_rfl
    refine AWp.skip ?_
    refine AWp.start [0, 1, 2] [] [] [0, 3] 0 ⟨[(0, q0 v1), (3, tI (w64 (v2 + (1 : Int))))], []⟩ rfl ?_ z0 trivial ?_
    ·kernel_rfl
    refine AOps.nil ?_
    cases h
    exact Or.inl ⟨_, rfl, rfl, rfl⟩
  ·replace h := of_false h hb
   refine AWp.keepTo [0] 0 ⟨[(0, q0 v1)], []⟩ ?_ z0 ?_
   ·kernel_rfl
   refine AWp.exit ?_
   cases h
   exact Or.inr ⟨_, rfl, by simp, rfl, rfl⟩
 ·intro e σ hp
  rcases y with v11 | _
  ·obtain ⟨rfl, rfl⟩ := hp
   cases h
   exact ⟨.inr rfl, rfl⟩
  ·obtain ⟨rfl, rfl⟩ := hp
   refine AWp.seq ?_
   refine AWp.start [0, 1, 2, 3] [] [] [2] 0 ⟨[(2, tB (decide ((v1.length : Int) ≤ (60 : Int))))], []⟩ rfl ?_ z0 trivial ?_
   ·kernel_rfl
   refine AOps.nil ?_
   refine AWp.ret ?_
   cases h
   exact ⟨.inr rfl, rfl⟩

noncomputable def f38_b1 (v2 : List (List T34)) (v7 : Int) : Option (Int ⊕ Out Bool Unit) :=
 cond (decide (v7 < (v2.length : Int))) (if (0 : Int) ≤ v7 ∧ v7 < (v2.length : Int) then cond (decide (((v2.getD v7.toNat default).length : Int) > (60 : Int))) (some (.inr (.ret false))) (some (.inl (w64 (v7 + (1 : Int))))) else none) (some (.inr (.go ())))

noncomputable def f38_b2 (v3 : List (List (List UInt8))) (v9 : Int) : Option (Int ⊕ Out Bool Unit) :=
 cond (decide (v9 < (v3.length : Int))) (if (0 : Int) ≤ v9 ∧ v9 < (v3.length : Int) then cond (decide (((v3.getD v9.toNat default).length : Int) > (60 : Int))) (some (.inr (.ret false))) (some (.inl (w64 (v9 + (1 : Int))))) else none) (some (.inr (.go ())))

noncomputable def f38 (v1 : List T36) (v2 : List (List T34)) (v3 : List (List (List UInt8))) : Option Bool :=
 (f44 v1).bind fun v4 => (cond (!v4) (some true) (some (decide ((v2.length : Int) > (60 : Int))))).bind fun v5 => (cond v5 (some true) (some (decide ((v3.length : Int) > (60 : Int))))).bind fun v6 => cond v6 (some false) ((iter (fun s => f38_b1 v2 s) (0 : Int)).bind fun y => match y with | .ret v8 => some v8 | .go _ => (iter (fun s => f38_b2 v3 s) (0 : Int)).bind fun y => match y with | .ret v10 => some v10 | .go _ => some true)

theorem f38_ok (v1 : List T36) (v2 : List (List T34)) (v3 : List (List (List UInt8))) {r : Bool} (h : f38 v1 v2 v3 = some r) : ACall Try.prog 38 [.tv (fzL 3 c36 v1), .tv (fzL 1 (cSl 2 c34) v2), .tv (fzL 1 (cSl 1 cStr) v3)] [] (.tv (.bool r)) [] := by
 refine ACall.of1 (FF 46 0) Try.func38 rfl Try.ntmps38 Try.results38 (Nat.le_of_ble_eq_true rfl) rfl rfl ?_
 refine AWp.seq ?_
 refine AWp.start [0] [] [] [0, 1, 2] 0 ⟨[(0, q0 v1), (1, .tv (fzL 1 (cSl 2 c34) v2)), (2, .tv (fzL 1 (cSl 1 cStr) v3))], []⟩ rfl ?_ z0 trivial ?_
 ·kernel_rfl
 refine AOps.nil ?_
 refine AWp.seq ?_
 refine AWp.seq ?_
 refine AWp.start [0] [1, 2, 3, 4, 5, 6, 7, 8, 9, 10, 11, 12] [] [1, 2, 9] 0 ⟨[(1, .tv (fzL 1 (cSl 2 c34) v2)), (2, .tv (fzL 1 (cSl 1 cStr) v3)), (9, q0 v1)], []⟩ rfl ?_ z0 trivial ?_
 ·kernel_rfl
 obtain ⟨v4, hv4, h⟩ := of_bind h
 refine AOps.cons (AOne.callP (F := (FF 46 0)) _ rfl rfl rfl _ rfl rfl _ _ rfl Try.call44 [q0 v1] rfl rfl (f44_ok v1 hv4) rfl) ?_
 refine AOps.go [2, 3] [4, 5, 6, 7, 8, 9, 10, 11, 12] [] [1, 2, 12] 0 ⟨[(1, .tv (fzL 1 (cSl 2 c34) v2)), (2, .tv (fzL 1 (cSl 1 cStr) v3)), (12, tB (!v4))], []⟩ ?_ z0 trivial ?_
 ·kernel_rfl
 obtain ⟨v5, hc4, h⟩ := of_bind h
 refine AOps.cut [4, 5, 6, 7] [8, 9, 10, 11, 12] (fun σ => σ = ⟨[(1, .tv (fzL 1 (cSl 2 c34) v2)), (2, .tv (fzL 1 (cSl 1 cStr) v3)), (16, tB v5)], []⟩) ?_ fun σ' hJ => ?_
 ·refine AOps.split (fun b => ⟨[(1, .tv (fzL 1 (cSl 2 c34) v2)), (2, .tv (fzL 1 (cSl 1 cStr) v3)), (12, tB b)], []⟩) _ (fun hb => ?_) fun hb => ?_
  ·replace hc4 := of_true hc4 hb
   refine AOps.go [4, 5, 6, 7] [] [] [1, 2, 16] 0 ⟨[(1, .tv (fzL 1 (cSl 2 c34) v2)), (2, .tv (fzL 1 (cSl 1 cStr) v3)), (16, tB true)], []⟩ ?_ z0 trivial ?_
   ·kernel_rfl
   cases hc4
   exact AOps.nil rfl
  ·replace hc4 := of_false hc4 hb
   refine AOps.go [4, 5, 6, 7] [] [] [1, 2, 16] 0 ⟨[(1, .tv (fzL 1 (cSl 2 c34) v2)), (2, .tv (fzL 1 (cSl 1 cStr) v3)), (16, tB (decide ((v2.length : Int) > (60 : Int))))], []⟩ ?_ z0 trivial ?_
   ·kernel_rfl
   cases hc4
   exact AOps.nil rfl
 subst hJ
 refine AOps.go [8] [9, 10, 11, 12] [] [1, 2, 17] 0 ⟨[(1, .tv (fzL 1 (cSl 2 c34) v2)), (2, .tv (fzL 1 (cSl 1 cStr) v3)), (17, tB v5)], []⟩ ?_ z0 trivial ?_
 ·kernel_rfl
 obtain ⟨v6, hc9, h⟩ := of_bind h
 refine AOps.cut [9, 10, 11, 12] [] (fun σ => σ = ⟨[(1, .tv (fzL 1 (cSl 2 c34) v2)), (2, .tv (fzL 1 (cSl 1 cStr) v3)), (21, tB v6)], []⟩) ?_ fun σ' hJ => ?_
 ·refine AOps.split (fun b => ⟨[(1, .tv (fzL 1 (cSl 2 c34) v2)), (2, .tv (fzL 1 (cSl 1 cStr) v3)), (17, tB b)], []⟩) _ (fun hb => ?_) fun hb => ?_
  ·replace hc9 := of_true hc9 hb
   refine AOps.go [9, 10, 11, 12] [] [] [1, 2, 21] 0 ⟨[(1, .tv (fzL 1 (cSl 2 c34) v2)), (2, .tv (fzL 1 (cSl 1 cStr) v3)), (21, tB true)], []⟩ ?_ z0 trivial ?_
   ·kernel_rfl
   cases hc9
   exact AOps.nil rfl
  ·replace hc9 := of_false hc9 hb
   refine AOps.go [9, 10, 11, 12] [] [] [1, 2, 21] 0 ⟨[(1, .tv (fzL 1 (cSl 2 c34) v2)), (2, .tv (fzL 1 (cSl 1 cStr) v3)), (21, tB (decide ((v3.length : Int) > (60 : Int))))], []⟩ ?_ z0 trivial ?_
   ·kernel_rfl
   cases hc9
   exact AOps.nil rfl
 subst hJ
 refine AOps.nil ?_
 refine AWp.cond rfl (fun hb => ?_) fun hb => ?_
 ·replace h := of_true h hb
  refine AWp.keepTo [] 0 ⟨[], []⟩ ?_ z0 ?_
  ·kernel_rfl
  refine AWp.seq ?_
  refine AWp.start [0] [] [] [6] 0 ⟨[(6, tB false)], []⟩ rfl ?_ z0 trivial ?_
  ·kernel_rfl
  refine AOps.nil ?_
  refine AWp.ret ?_
  cases h
  exact ⟨.inr rfl, rfl⟩
 ·replace h := of_false h hb
  refine AWp.keepTo [1, 2] 0 ⟨[(1, .tv (fzL 1 (cSl 2 c34) v2)), (2, .tv (fzL 1 (cSl 1 cStr) v3))], []⟩ ?_ z0 ?_
  ·kernel_rfl
  refine AWp.skip ?_
  refine AWp.seq ?_
  refine AWp.seq ?_
  refine AWp.start [0] [] [] [1, 2, 7] 0 ⟨[(1, .tv (fzL 1 (cSl 2 c34) v2)), (2, .tv (fzL 1 (cSl 1 cStr) v3)), (7, tI (0 : Int))], []⟩ rfl ?_ z0 trivial ?_
  ·kernel_rfl
  refine AOps.nil ?_
  refine AWp.block ?_
  obtain ⟨y, hy, h⟩ := of_bind h
  refine AWp.mono (AWp.loop (S := Int) (Y := Out Bool Unit) (fun s => ⟨[(1, .tv (fzL 1 (cSl 2 c34) v2)), (2, .tv (fzL 1 (cSl 1 cStr) v3)), (7, tI s)], []⟩) (fun s => f38_b1 v2 s) (fun y e σ => match y with | .ret r => e = .ret ∧ σ = ⟨[(6, tB r)], []⟩ | .go v => e = .exit 0 ∧ σ = ⟨[(2, .tv (fzL 1 (cSl 1 cStr) v3))], []⟩) ?_ hy) ?_
  ·rintro v7 o h
   refine AWp.seq ?_
   refine AWp.seq ?_
   refine AWp.start [0, 1, 2, 3] [] [] [1, 2, 7, 25] 0 ⟨[(1, .tv (fzL 1 (cSl 2 c34) v2)), (2, .tv (fzL 1 (cSl 1 cStr) v3)), (7, tI v7), (25, tB (decide (v7 < (v2.length : Int))))], []⟩ rfl ?_ z0 trivial ?_
   ·kernel_rfl
   refine AOps.nil ?_
   refine AWp.cond rfl (fun hb => ?_) fun hb => ?_
   ·replace h := of_true h hb
    refine AWp.keepTo [1, 2, 7] 0 ⟨[(1, .tv (fzL 1 (cSl 2 c34) v2)), (2, .tv (fzL 1 (cSl 1 cStr) v3)), (7, tI v7)], []⟩ ?_ z0 ?_
    ·kernel_rfl
    refine AWp.skip ?_
    refine AWp.seq ?_
    refine AWp.block ?_
    refine AWp.seq ?_
    obtain ⟨hg, h⟩ := of_guard h
    refine AWp.start [0, 1, 2, 3, 4, 5] [] [(0 : Int) ≤ v7, v7 < (v2.length : Int)] [1, 2, 7, 33] 0 ⟨[(1, .tv (fzL 1 (cSl 2 c34) v2)), (2, .tv (fzL 1 (cSl 1 cStr) v3)), (7, tI v7), (33, tB (decide (((gD v2 v7).length : Int) > (60 : Int))))], []⟩ rfl ?_ z0 ⟨hg.1, hg.2⟩ ?_
    ·kernel_rfl
    refine AOps.nil ?_
    refine AWp.cond rfl (fun hb => ?_) fun hb => ?_
    ·replace h := of_true h hb
     refine AWp.keepTo [] 0 ⟨[], []⟩ ?_ z0 ?_
     ·kernel_rfl
     refine AWp.seq ?_
     refine AWp.start [0] [] [] [6] 0 ⟨[(6, tB false)], []⟩ rfl ?_ z0 trivial ?_
     ·kernel_rfl
     refine AOps.nil ?_
     refine AWp.ret ?_
     cases h
     exact Or.inr ⟨_, rfl, by simp, rfl, rfl⟩
    ·replace h := of_false h hb
     refine AWp.keepTo [1, 2, 7] 0 ⟨[(1, .tv (fzL 1 (cSl 2 c34) v2)), (2, .tv (fzL 1 (cSl 1 cStr) v3)), (7, tI v7)], []⟩ ?_ z0 ?_
     ·kernel_rfl
     refine AWp.skip ?_
     refine AWp.start [0, 1, 2] [] [] [1, 2, 7] 0 ⟨[(1, .tv (fzL 1 (cSl 2 c34) v2)), (2, .tv (fzL 1 (cSl 1 cStr) v3)), (7, tI (w64 (v7 + (1 : Int))))], []⟩ rfl ?_ z0 trivial ?_
     ·kernel_rfl
     refine AOps.nil ?_
     cases h
     exact Or.inl ⟨_, rfl, rfl, rfl⟩
   ·replace h := of_false h hb
    refine AWp.keepTo [2] 0 ⟨[(2, .tv (fzL 1 (cSl 1 cStr) v3))], []⟩ ?_ z0 ?_
    ·kernel_rfl
    refine AWp.exit ?_
    cases h
    exact Or.inr ⟨_, rfl, by simp, rfl, rfl⟩
  ·intro e σ hp
   rcases y with v8 | _
   ·obtain ⟨rfl, rfl⟩ := hp
    cases h
    exact ⟨.inr rfl, rfl⟩
   ·obtain ⟨rfl, rfl⟩ := hp
    refine AWp.seq ?_
    refine AWp.seq ?_
    refine AWp.start [0] [] [] [2, 8] 0 ⟨[(2, .tv (fzL 1 (cSl 1 cStr) v3)), (8, tI (0 : Int))], []⟩ rfl ?_ z0 trivial ?_
    ·kernel_rfl
    refine AOps.nil ?_
    refine AWp.block ?_
    obtain ⟨y, hy, h⟩ := of_bind h
    refine AWp.mono (AWp.loop (S := Int) (Y := Out Bool Unit) (fun s => ⟨[(2, .tv (fzL 1 (cSl 1 cStr) v3)), (8, tI s)], []⟩) (fun s => f38_b2 v3 s) (fun y e σ => match y with | .ret r => e = .ret ∧ σ = ⟨[(6, tB r)], []⟩ | .go v => e = .exit 2 ∧ σ = ⟨[], []⟩) ?_ hy) ?_
    ·rintro v9 o h
     refine AWp.seq ?_
     refine AWp.seq ?_
     refine AWp.start [0, 1, 2, 3] [] [] [2, 8, 37] 0 ⟨[(2, .tv (fzL 1 (cSl 1 cStr) v3)), (8, tI v9), (37, tB (decide (v9 < (v3.length : Int))))], []⟩ rfl ?_ z0 trivial ?_
     ·kernel_rfl
     refine AOps.nil ?_
     refine AWp.cond rfl (fun hb => ?_) fun hb => ?_
     ·replace h := of_true h hb
      refine AWp.keepTo [2, 8] 0 ⟨[(2, .tv (fzL 1 (cSl 1 cStr) v3)), (8, tI v9)], []⟩ ?_ z0 ?_
      ·kernel_rfl
      refine AWp.skip ?_
      refine AWp.seq ?_
      refine AWp.block ?_
      refine AWp.seq ?_
      obtain ⟨hg, h⟩ := of_guard h
      refine AWp.start [0, 1, 2, 3, 4, 5] [] [(0 : Int) ≤ v9, v9 < (v3.length : Int)] [2, 8, 45] 0 ⟨[(2, .tv (fzL 1 (cSl 1 cStr) v3)), (8, tI v9), (45, tB (decide (((gD v3 v9).length : Int) > (60 : Int))))], []⟩ rfl ?_ z0 ⟨hg.1, hg.2⟩ ?_
      ·kernel_rfl
      refine AOps.nil ?_
      refine AWp.cond rfl (fun hb => ?_) fun hb => ?_
      ·replace h := of_true h hb
       refine AWp.keepTo [] 0 ⟨[], []⟩ ?_ z0 ?_
       ·kernel_rfl
       refine AWp.seq ?_
       refine AWp.start [0] [] [] [6] 0 ⟨[(6, tB false)], []⟩ rfl ?_ z0 trivial ?_
       ·kernel_rfl
       refine AOps.nil ?_
       refine AWp.ret ?_
       cases h
       exact Or.inr ⟨_, rfl, by simp, rfl, rfl⟩
      ·replace h := of_false h hb
       refine AWp.keepTo [2, 8] 0 ⟨[(2, .tv (fzL 1 (cSl 1 cStr) v3)), (8, tI v9)], []⟩ ?_ z0 ?_
       ·kernel_rfl
       refine AWp.skip ?_
       refine AWp.start [0, 1, 2] [] [] [2, 8] 0 ⟨[(2, .tv (fzL 1 (cSl 1 cStr) v3)), (8, tI (w64 (v9 + (1 : Int))))], []⟩ rfl ?_ z0 trivial ?_
       ·kernel_rfl
       refine AOps.nil ?_
       cases h
       exact Or.inl ⟨_, rfl, rfl, rfl⟩
     ·replace h := of_false h hb
      refine AWp.keepTo [] 0 ⟨[], []⟩ ?_ z0 ?_
      ·kernel_rfl
      refine AWp.exit ?_
      cases h
      exact Or.inr ⟨_, rfl, by simp, rfl, rfl⟩
    ·intro e σ hp
     rcases y with v10 | _
     ·obtain ⟨rfl, rfl⟩ := hp
      cases h
      exact ⟨.inr rfl, rfl⟩
     ·obtain ⟨rfl, rfl⟩ := hp
      refine AWp.seq ?_
      refine AWp.start [0] [] [] [6] 0 ⟨[(6, tB true)], []⟩ rfl ?_ z0 trivial ?_
      ·kernel_rfl
      refine AOps.nil ?_
      refine AWp.ret ?_
      cases h
      exact ⟨.inr rfl, rfl⟩

noncomputable def f32 (v1 : List T36) (v2 : T34) : Option Bool :=
 (f33 v1 v2.f0).bind fun v3 => (cond (decide (v3 ≥ (0 : Int))) (cond (decide (v2.f1 ≥ (0 : Int))) (if (0 : Int) ≤ v3 ∧ v3 < (v1.length : Int) then some (decide (v2.f1 < (v1.getD v3.toNat default).f2)) else none) (some false)) (some false)).bind fun v4 => some v4

theorem f32_ok (v1 : List T36) (v2 : T34) {r : Bool} (h : f32 v1 v2 = some r) : ACall Try.prog 32 [.tv (fzL 3 c36 v1), .agg [.str v2.f0, .int .i64 v2.f1]] [] (.tv (.bool r)) [] := by
 refine ACall.of1 (FF 27 0) Try.func32 rfl Try.ntmps32 Try.results32 (Nat.le_of_ble_eq_true rfl) rfl rfl ?_
 refine AWp.seq ?_
 refine AWp.start [0, 1] [] [] [0, 3] 1 ⟨[(0, q0 v1), (3, .pc 0 0)], [.cells 35 [.str v2.f0, .int .i64 v2.f1]]⟩ rfl ?_ z0 trivial ?_
 ·kernel_rfl
 refine AOps.nil ?_
 refine AWp.seq ?_
 refine AWp.pin 0 rfl rfl ?_
 refine AWp.keepTo [0, 3] 0 ⟨[(0, q0 v1), (3, .rp [.str v2.f0, .int .i64 v2.f1])], []⟩ ?_ z0 ?_
 ·kernel_rfl
 refine AWp.start [0, 1, 2] [3, 4] [] [0, 3, 6, 8] 0 ⟨[(0, q0 v1), (3, .rp [.str v2.f0, .int .i64 v2.f1]), (6, q0 v1), (8, tS v2.f0)], []⟩ rfl ?_ z0 trivial ?_
 ·kernel_rfl
 obtain ⟨v3, hv3, h⟩ := of_bind h
 refine AOps.cons (AOne.callP (F := (FF 27 0)) _ rfl rfl rfl _ rfl rfl _ _ rfl Try.call33 [q0 v1, tS v2.f0] rfl rfl (f33_ok v1 v2.f0 hv3) rfl) ?_
 refine AOps.go [4] [] [] [0, 3, 5] 0 ⟨[(0, q0 v1), (3, .rp [.str v2.f0, .int .i64 v2.f1]), (5, tI v3)], []⟩ ?_ z0 trivial ?_
 ·kernel_rfl
 refine AOps.nil ?_
 refine AWp.seq ?_
 obtain ⟨v4, hd, h⟩ := of_bind h
 refine AWp.draw FFm (fun σ => σ = ⟨[(4, tB v4)], []⟩) (n := 18) rfl (ls := #[n1, n1, n1, n1, n1, n1, n1, n1, n1, n1, n1, n1, n1, n1, n1, n1, n1, n1]) rfl ?_ ?_
 ·refine AAny.go (by kernel_rfl) [0, 1, 2] (fuel' := 15) rfl [] #[y1, y1, y1, n1, n1, n1, n1, n1, n1, n1, n1, n1, n1, n1, n1, n1, n1, n1] [0, 3, 5, 12] 0 ⟨[(0, q0 v1), (3, .rp [.str v2.f0, .int .i64 v2.f1]), (5, tI v3), (12, tB (decide (v3 ≥ (0 : Int))))], []⟩ ?_ z0 trivial ?_
  ·kernel_rfl
  refine AAny.split (fun b => ⟨[(0, q0 v1), (3, .rp [.str v2.f0, .int .i64 v2.f1]), (5, tI v3), (12, tB b)], []⟩) _ (fun hb => ?_) fun hb => ?_
  ·replace hd := of_true hd hb
   refine AAny.go (by kernel_rfl) [3, 4, 5, 6, 7] (fuel' := 10) rfl [] #[y1, y1, y1, y1, y1, y1, y1, y1, n1, n1, n1, n1, n1, n1, n1, n1, n1, n1] [0, 3, 5, 17] 0 ⟨[(0, q0 v1), (3, .rp [.str v2.f0, .int .i64 v2.f1]), (5, tI v3), (17, tB (decide (v2.f1 ≥ (0 : Int))))], []⟩ ?_ z0 trivial ?_
   ·kernel_rfl
   refine AAny.split (fun b => ⟨[(0, q0 v1), (3, .rp [.str v2.f0, .int .i64 v2.f1]), (5, tI v3), (17, tB b)], []⟩) _ (fun hb => ?_) fun hb => ?_
   ·replace hd := of_true hd hb
    obtain ⟨hg, hd⟩ := of_guard hd
    refine AAny.go (by kernel_rfl) [8, 9, 10, 11, 12, 13, 14, 15, 16, 17] (fuel' := 0) rfl [(0 : Int) ≤ v3, v3 < (v1.length : Int)] #[y1, y1, y1, y1, y1, y1, y1, y1, y1, y1, y1, y1, y1, y1, y1, y1, y1, y1] [4] 0 ⟨[(4, tB (decide (v2.f1 < (gD v1 v3).f2)))], []⟩ ?_ z0 ⟨hg.1, hg.2⟩ ?_
    ·kernel_rfl
    refine AAny.keepTo [4] 0 ⟨[(4, tB (decide (v2.f1 < (gD v1 v3).f2)))], []⟩ _ ?_ rfl z0 (AAny.done (by kernel_rfl) ?_)
    ·kernel_rfl
    cases hd
    exact rfl
   ·replace hd := of_false hd hb
    refine AAny.go (by kernel_rfl) [8, 9, 10, 11, 12, 13, 14, 15, 16, 17] (fuel' := 0) rfl [] #[y1, y1, y1, y1, y1, y1, y1, y1, y1, y1, y1, y1, y1, y1, y1, y1, y1, y1] [4] 0 ⟨[(4, tB false)], []⟩ ?_ z0 trivial ?_
    ·kernel_rfl
    refine AAny.keepTo [4] 0 ⟨[(4, tB false)], []⟩ _ ?_ rfl z0 (AAny.done (by kernel_rfl) ?_)
    ·kernel_rfl
    cases hd
    exact rfl
  ·replace hd := of_false hd hb
   refine AAny.go (by kernel_rfl) [3, 4, 5, 6, 7, 8, 9, 10, 11, 12, 13, 14, 15, 16, 17] (fuel' := 0) rfl [] #[y1, y1, y1, y1, y1, y1, y1, y1, y1, y1, y1, y1, y1, y1, y1, y1, y1, y1] [4] 0 ⟨[(4, tB false)], []⟩ ?_ z0 trivial ?_
   ·kernel_rfl
   refine AAny.keepTo [4] 0 ⟨[(4, tB false)], []⟩ _ ?_ rfl z0 (AAny.done (by kernel_rfl) ?_)
   ·kernel_rfl
   cases hd
   exact rfl
 rintro σ' rfl
 refine AWp.ret ?_
 cases h
 exact ⟨.inr rfl, rfl⟩

end Go.Sx.sto
