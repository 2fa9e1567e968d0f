/- Printed by program (wip/gen): plain functions and their walks; no condition. -/
import Derived.Test.YtgabiokgockopaaGx2
namespace Go.Sx.sto
open Go Go.Sx Go.Proofs

noncomputable def f50o_j1 (v5 : Int) (v10 : List Int) (v11 : List Int) : Option ((Int × (List Int) × (List Int)) ⊕ Out (Bool × T84) ((List Int) × (List Int))) :=
 some (.inl (w64 (v5 + (1 : Int)), v10, v11))

noncomputable def f50o_b2 (v1 : Int) (v2 : Int) (v3 : Int) (v4 : T84) (v5 : Int) (v6 : List Int) (v7 : List Int) : Option ((Int × (List Int) × (List Int)) ⊕ Out (Bool × T84) ((List Int) × (List Int))) :=
 cond (decide (v5 < (v6.length : Int))) (if (0 : Int) ≤ v5 ∧ v5 < (v6.length : Int) then cond (v6.getD v5.toNat default == v4.f0.getD v2.toNat default) (if (0 : Int) ≤ v1 ∧ v1 < (v6.length : Int) then if (0 : Int) ≤ v5 ∧ v5 < (v6.length : Int) then if (0 : Int) ≤ v5 ∧ v5 < (v7.length : Int) ∧ (0 : Int) ≤ v5 ∧ v5 < (v7.length : Int) then f50o_j1 v5 (v6.set v5.toNat (v6.getD v1.toNat default)) (v7.set v5.toNat (w64 ((v7.getD v5.toNat default) + (w64 ((w64 ((v4.f1.getD v1.toNat default) + v3)) - (v4.f1.getD v2.toNat default)))))) else none else none else none) (f50o_j1 v5 v6 v7) else none) (some (.inr (.go (v6, v7))))

noncomputable def f50o (v1 : Int) (v2 : Int) (v3 : Int) (v4 : T84) : Option (Bool × T84) :=
 if (0 : Int) ≤ v1 ∧ v1 < (v4.f0.length : Int) then if (0 : Int) ≤ v2 ∧ v2 < (v4.f0.length : Int) then cond (v4.f0.getD v1.toNat default == v4.f0.getD v2.toNat default) (if (0 : Int) ≤ v2 ∧ v2 < (v4.f1.length : Int) then if (0 : Int) ≤ v1 ∧ v1 < (v4.f1.length : Int) then some ((w64 ((v4.f1.getD v2.toNat default) - (v4.f1.getD v1.toNat default)) == v3), T84.mk v4.f0 v4.f1) else none else none) (if (0 : Int) ≤ v1 ∧ v1 < (v4.f1.length : Int) then if (0 : Int) ≤ v2 ∧ v2 < (v4.f1.length : Int) then if (0 : Int) ≤ v2 ∧ v2 < (v4.f0.length : Int) then (iter (fun s => f50o_b2 v1 v2 v3 v4 s.1 s.2.1 s.2.2) ((0 : Int), v4.f0, v4.f1)).bind fun y => match y with | .ret v12 => some v12 | .go (v8, v9) => some (true, T84.mk v8 v9) else none else none else none) else none else none

theorem f50o_ok (v1 : Int) (v2 : Int) (v3 : Int) (v4 : T84) {r : Bool × T84} (h : f50o v1 v2 v3 v4 = some r) : ACall Try.prog 50 [.pc 0 0, .tv (.int .i64 v1), .tv (.int .i64 v2), .tv (.int .i64 v3)] [.cells 85 [ownL 1 3 (cInt .i64) v4.f0, ownL 1 3 (cInt .i64) v4.f1]] (.tv (.bool r.1)) [.cells 85 [ownL 1 3 (cInt .i64) r.2.f0, ownL 1 3 (cInt .i64) r.2.f1]] := by
 refine ACall.of1 (FF 109 1) Try.func50 rfl Try.ntmps50 Try.results50 (Nat.le_of_ble_eq_true rfl) rfl rfl ?_
 refine AWp.seq ?_
 refine AWp.start [0] [] [] [0, 1, 2, 3] 1 ⟨[(0, .pc 0 0), (1, tI v1), (2, tI v2), (3, tI v3)], [.cells 85 [k0 v4.f0, k0 v4.f1]]⟩ rfl ?_ (Nat.le_of_ble_eq_true rfl) trivial ?_
 ·kernel_rfl
 refine AOps.nil ?_
 refine AWp.seq ?_
 refine AWp.seq ?_
 refine AWp.draw FFm _ (n := 15) rfl (ls := #[n1, n1, n1, n1, n1, n1, n1, n1, n1, n1, n1, n1, n1, n1, n1]) rfl ?_ (fun _ h => h)
 refine AAny.go (by kernel_rfl) [0, 1, 2, 4, 7, 8, 9, 11] (fuel' := 7) rfl [] #[y1, y1, y1, n1, y1, n1, n1, y1, y1, y1, n1, y1, n1, n1, n1] [0, 1, 2, 3, 14, 16, 21, 23] 1 ⟨[(0, .pc 0 0), (1, tI v1), (2, tI v2), (3, tI v3), (14, .pc 0 0), (16, tI v1), (21, .pc 0 0), (23, tI v2)], [.cells 85 [k0 v4.f0, k0 v4.f1]]⟩ ?_ (Nat.le_of_ble_eq_true rfl) trivial ?_
 ·kernel_rfl
 refine AAny.goR (by kernel_rfl) (i := 3) (fuel' := 6) [5, 6, 14] rfl (by kernel_rfl) (by kernel_rfl) [] #[y1, y1, y1, y1, y1, n1, n1, y1, y1, y1, n1, y1, n1, n1, n1] rfl [0, 1, 2, 3, 15, 16, 21, 23] 1 ⟨[(0, .pc 0 0), (1, tI v1), (2, tI v2), (3, tI v3), (15, .al (.cell 0 0, [])), (16, tI v1), (21, .pc 0 0), (23, tI v2)], [.cells 85 [k0 v4.f0, k0 v4.f1]]⟩ ?_ (Nat.le_of_ble_eq_true rfl) trivial ?_
 ·kernel_rfl
 obtain ⟨hg, h⟩ := of_guard h
 refine AAny.go (by kernel_rfl) [5] (fuel' := 5) rfl [(0 : Int) ≤ v1, v1 < (v4.f0.length : Int)] #[y1, y1, y1, y1, y1, y1, n1, y1, y1, y1, n1, y1, n1, n1, n1] [0, 1, 2, 3, 17, 21, 23] 1 ⟨[(0, .pc 0 0), (1, tI v1), (2, tI v2), (3, tI v3), (17, .pe (.cell 0 0, []) v1.toNat 0 1), (21, .pc 0 0), (23, tI v2)], [.cells 85 [k0 v4.f0, k0 v4.f1]]⟩ ?_ (Nat.le_of_ble_eq_true rfl) ⟨hg.1, hg.2⟩ ?_
 ·kernel_rfl
 refine AAny.goR (by kernel_rfl) (i := 6) (fuel' := 4) [14] rfl (by kernel_rfl) (by kernel_rfl) [] #[y1, y1, y1, y1, y1, y1, y1, y1, y1, y1, n1, y1, n1, n1, n1] rfl [0, 1, 2, 3, 18, 21, 23] 1 ⟨[(0, .pc 0 0), (1, tI v1), (2, tI v2), (3, tI v3), (18, tI (gD v4.f0 v1)), (21, .pc 0 0), (23, tI v2)], [.cells 85 [k0 v4.f0, k0 v4.f1]]⟩ ?_ (Nat.le_of_ble_eq_true rfl) trivial ?_
 ·kernel_rfl
 refine AAny.step (i := 10) (fuel' := 3) rfl (by kernel_rfl) [] #[y1, y1, y1, y1, y1, y1, y1, y1, y1, y1, y1, y1, n1, n1, n1] rfl [0, 1, 2, 3, 18, 22, 23] 1 ⟨[(0, .pc 0 0), (1, tI v1), (2, tI v2), (3, tI v3), (18, tI (gD v4.f0 v1)), (22, .al (.cell 0 0, [])), (23, tI v2)], [.cells 85 [k0 v4.f0, k0 v4.f1]]⟩ ?_ (Nat.le_of_ble_eq_true rfl) trivial ?_
 ·kernel_rfl
 obtain ⟨hg, h⟩ := of_guard h
 refine AAny.go (by kernel_rfl) [12] (fuel' := 2) rfl [(0 : Int) ≤ v2, v2 < (v4.f0.length : Int)] #[y1, y1, y1, y1, y1, y1, y1, y1, y1, y1, y1, y1, y1, n1, n1] [0, 1, 2, 3, 18, 24] 1 ⟨[(0, .pc 0 0), (1, tI v1), (2, tI v2), (3, tI v3), (18, tI (gD v4.f0 v1)), (24, .pe (.cell 0 0, []) v2.toNat 0 1)], [.cells 85 [k0 v4.f0, k0 v4.f1]]⟩ ?_ (Nat.le_of_ble_eq_true rfl) ⟨hg.1, hg.2⟩ ?_
 ·kernel_rfl
 refine AAny.step (i := 13) (fuel' := 1) rfl (by kernel_rfl) [] #[y1, y1, y1, y1, y1, y1, y1, y1, y1, y1, y1, y1, y1, y1, n1] rfl [0, 1, 2, 3, 18, 25] 1 ⟨[(0, .pc 0 0), (1, tI v1), (2, tI v2), (3, tI v3), (18, tI (gD v4.f0 v1)), (25, tI (gD v4.f0 v2))], [.cells 85 [k0 v4.f0, k0 v4.f1]]⟩ ?_ (Nat.le_of_ble_eq_true rfl) trivial ?_
 ·kernel_rfl
 refine AAny.go (by kernel_rfl) [14] (fuel' := 0) rfl [] #[y1, y1, y1, y1, y1, y1, y1, y1, y1, y1, y1, y1, y1, y1, y1] [0, 1, 2, 3, 26] 1 ⟨[(0, .pc 0 0), (1, tI v1), (2, tI v2), (3, tI v3), (26, tB (gD v4.f0 v1 == gD v4.f0 v2))], [.cells 85 [k0 v4.f0, k0 v4.f1]]⟩ ?_ (Nat.le_of_ble_eq_true rfl) trivial ?_
 ·kernel_rfl
 refine AAny.keepTo [0, 1, 2, 3, 26] 1 ⟨[(0, .pc 0 0), (1, tI v1), (2, tI v2), (3, tI v3), (26, tB (gD v4.f0 v1 == gD v4.f0 v2))], [.cells 85 [k0 v4.f0, k0 v4.f1]]⟩ _ ?_ rfl (Nat.le_of_ble_eq_true rfl) (AAny.done (by kernel_rfl) ?_)
 ·kernel_rfl
 refine AWp.cond rfl (fun hb => ?_) fun hb => ?_
 ·replace h := of_true h hb
  refine AWp.keepTo [0, 1, 2, 3] 1 ⟨[(0, .pc 0 0), (1, tI v1), (2, tI v2), (3, tI v3)], [.cells 85 [k0 v4.f0, k0 v4.f1]]⟩ ?_ (Nat.le_of_ble_eq_true rfl) ?_
  ·kernel_rfl
  refine AWp.seq ?_
  refine AWp.draw FFm _ (n := 18) rfl (ls := #[n1, n1, n1, n1, n1, n1, n1, n1, n1, n1, n1, n1, n1, n1, n1, n1, n1, n1]) rfl ?_ (fun _ h => h)
  refine AAny.go (by kernel_rfl) [0, 1, 2, 4, 7, 8, 9, 11, 15] (fuel' := 9) rfl [] #[y1, y1, y1, n1, y1, n1, n1, y1, y1, y1, n1, y1, n1, n1, n1, y1, n1, n1] [29, 31, 36, 38, 42] 1 ⟨[(29, .pc 0 1), (31, tI v2), (36, .pc 0 1), (38, tI v1), (42, tI v3)], [.cells 85 [k0 v4.f0, k0 v4.f1]]⟩ ?_ (Nat.le_of_ble_eq_true rfl) trivial ?_
  ·kernel_rfl
  refine AAny.goR (by kernel_rfl) (i := 3) (fuel' := 8) [5, 6, 14, 16, 17] rfl (by kernel_rfl) (by kernel_rfl) [] #[y1, y1, y1, y1, y1, n1, n1, y1, y1, y1, n1, y1, n1, n1, n1, y1, n1, n1] rfl [30, 31, 36, 38, 42] 1 ⟨[(30, .al (.cell 0 1, [])), (31, tI v2), (36, .pc 0 1), (38, tI v1), (42, tI v3)], [.cells 85 [k0 v4.f0, k0 v4.f1]]⟩ ?_ (Nat.le_of_ble_eq_true rfl) trivial ?_
  ·kernel_rfl
  obtain ⟨hg, h⟩ := of_guard h
  refine AAny.go (by kernel_rfl) [5] (fuel' := 7) rfl [(0 : Int) ≤ v2, v2 < (v4.f1.length : Int)] #[y1, y1, y1, y1, y1, y1, n1, y1, y1, y1, n1, y1, n1, n1, n1, y1, n1, n1] [32, 36, 38, 42] 1 ⟨[(32, .pe (.cell 0 1, []) v2.toNat 0 1), (36, .pc 0 1), (38, tI v1), (42, tI v3)], [.cells 85 [k0 v4.f0, k0 v4.f1]]⟩ ?_ (Nat.le_of_ble_eq_true rfl) ⟨hg.1, hg.2⟩ ?_
  ·kernel_rfl
  refine AAny.goR (by kernel_rfl) (i := 6) (fuel' := 6) [14, 16, 17] rfl (by kernel_rfl) (by kernel_rfl) [] #[y1, y1, y1, y1, y1, y1, y1, y1, y1, y1, n1, y1, n1, n1, n1, y1, n1, n1] rfl [33, 36, 38, 42] 1 ⟨[(33, tI (gD v4.f1 v2)), (36, .pc 0 1), (38, tI v1), (42, tI v3)], [.cells 85 [k0 v4.f0, k0 v4.f1]]⟩ ?_ (Nat.le_of_ble_eq_true rfl) trivial ?_
  ·kernel_rfl
  refine AAny.step (i := 10) (fuel' := 5) rfl (by kernel_rfl) [] #[y1, y1, y1, y1, y1, y1, y1, y1, y1, y1, y1, y1, n1, n1, n1, y1, n1, n1] rfl [33, 37, 38, 42] 1 ⟨[(33, tI (gD v4.f1 v2)), (37, .al (.cell 0 1, [])), (38, tI v1), (42, tI v3)], [.cells 85 [k0 v4.f0, k0 v4.f1]]⟩ ?_ (Nat.le_of_ble_eq_true rfl) trivial ?_
  ·kernel_rfl
  obtain ⟨hg, h⟩ := of_guard h
  refine AAny.go (by kernel_rfl) [12] (fuel' := 4) rfl [(0 : Int) ≤ v1, v1 < (v4.f1.length : Int)] #[y1, y1, y1, y1, y1, y1, y1, y1, y1, y1, y1, y1, y1, n1, n1, y1, n1, n1] [33, 39, 42] 1 ⟨[(33, tI (gD v4.f1 v2)), (39, .pe (.cell 0 1, []) v1.toNat 0 1), (42, tI v3)], [.cells 85 [k0 v4.f0, k0 v4.f1]]⟩ ?_ (Nat.le_of_ble_eq_true rfl) ⟨hg.1, hg.2⟩ ?_
  ·kernel_rfl
  refine AAny.step (i := 13) (fuel' := 3) rfl (by kernel_rfl) [] #[y1, y1, y1, y1, y1, y1, y1, y1, y1, y1, y1, y1, y1, y1, n1, y1, n1, n1] rfl [33, 40, 42] 1 ⟨[(33, tI (gD v4.f1 v2)), (40, tI (gD v4.f1 v1)), (42, tI v3)], [.cells 85 [k0 v4.f0, k0 v4.f1]]⟩ ?_ (Nat.le_of_ble_eq_true rfl) trivial ?_
  ·kernel_rfl
  refine AAny.go (by kernel_rfl) [14, 16, 17] (fuel' := 0) rfl [] #[y1, y1, y1, y1, y1, y1, y1, y1, y1, y1, y1, y1, y1, y1, y1, y1, y1, y1] [8] 1 ⟨[(8, tB (w64 ((gD v4.f1 v2) - (gD v4.f1 v1)) == v3))], [.cells 85 [k0 v4.f0, k0 v4.f1]]⟩ ?_ (Nat.le_of_ble_eq_true rfl) trivial ?_
  ·kernel_rfl
  refine AAny.keepTo [8] 1 ⟨[(8, tB (w64 ((gD v4.f1 v2) - (gD v4.f1 v1)) == v3))], [.cells 85 [k0 v4.f0, k0 v4.f1]]⟩ _ ?_ rfl (Nat.le_of_ble_eq_true rfl) (AAny.done (by kernel_rfl) ?_)
  ·kernel_rfl
  refine AWp.ret ?_
  cases h
  exact ⟨.inr rfl, rfl⟩
 ·replace h := of_false h hb
  refine AWp.keepTo [0, 1, 2, 3] 1 ⟨[(0, .pc 0 0), (1, tI v1), (2, tI v2), (3, tI v3)], [.cells 85 [k0 v4.f0, k0 v4.f1]]⟩ ?_ (Nat.le_of_ble_eq_true rfl) ?_
  ·kernel_rfl
  refine AWp.skip ?_
  refine AWp.seq ?_
  refine AWp.draw FFm _ (n := 26) rfl (ls := #[n1, n1, n1, n1, n1, n1, n1, n1, n1, n1, n1, n1, n1, n1, n1, n1, n1, n1, n1, n1, n1, n1, n1, n1, n1, n1]) rfl ?_ (fun _ h => h)
  refine AAny.go (by kernel_rfl) [0, 1, 2, 4, 7, 8, 9, 11, 14, 16, 17, 18, 20] (fuel' := 13) rfl [] #[y1, y1, y1, n1, y1, n1, n1, y1, y1, y1, n1, y1, n1, n1, y1, n1, y1, y1, y1, n1, y1, n1, n1, n1, n1, n1] [0, 1, 46, 48, 53, 55, 58, 62, 64] 1 ⟨[(0, .pc 0 0), (1, tI v1), (46, .pc 0 0), (48, tI v2), (53, .pc 0 1), (55, tI v1), (58, tI v3), (62, .pc 0 1), (64, tI v2)], [.cells 85 [k0 v4.f0, k0 v4.f1]]⟩ ?_ (Nat.le_of_ble_eq_true rfl) trivial ?_
  ·kernel_rfl
  refine AAny.goR (by kernel_rfl) (i := 10) (fuel' := 12) [12, 13, 15, 23, 25] rfl (by kernel_rfl) (by kernel_rfl) [] #[y1, y1, y1, n1, y1, n1, n1, y1, y1, y1, y1, y1, n1, n1, y1, n1, y1, y1, y1, n1, y1, n1, n1, n1, n1, n1] rfl [0, 1, 46, 48, 54, 55, 58, 62, 64] 1 ⟨[(0, .pc 0 0), (1, tI v1), (46, .pc 0 0), (48, tI v2), (54, .al (.cell 0 1, [])), (55, tI v1), (58, tI v3), (62, .pc 0 1), (64, tI v2)], [.cells 85 [k0 v4.f0, k0 v4.f1]]⟩ ?_ (Nat.le_of_ble_eq_true rfl) trivial ?_
  ·kernel_rfl
  obtain ⟨hg, h⟩ := of_guard h
  refine AAny.go (by kernel_rfl) [12] (fuel' := 11) rfl [(0 : Int) ≤ v1, v1 < (v4.f1.length : Int)] #[y1, y1, y1, n1, y1, n1, n1, y1, y1, y1, y1, y1, y1, n1, y1, n1, y1, y1, y1, n1, y1, n1, n1, n1, n1, n1] [0, 1, 46, 48, 56, 58, 62, 64] 1 ⟨[(0, .pc 0 0), (1, tI v1), (46, .pc 0 0), (48, tI v2), (56, .pe (.cell 0 1, []) v1.toNat 0 1), (58, tI v3), (62, .pc 0 1), (64, tI v2)], [.cells 85 [k0 v4.f0, k0 v4.f1]]⟩ ?_ (Nat.le_of_ble_eq_true rfl) ⟨hg.1, hg.2⟩ ?_
  ·kernel_rfl
  refine AAny.goR (by kernel_rfl) (i := 13) (fuel' := 10) [15, 23, 25] rfl (by kernel_rfl) (by kernel_rfl) [] #[y1, y1, y1, n1, y1, n1, n1, y1, y1, y1, y1, y1, y1, y1, y1, n1, y1, y1, y1, n1, y1, n1, n1, n1, n1, n1] rfl [0, 1, 46, 48, 57, 58, 62, 64] 1 ⟨[(0, .pc 0 0), (1, tI v1), (46, .pc 0 0), (48, tI v2), (57, tI (gD v4.f1 v1)), (58, tI v3), (62, .pc 0 1), (64, tI v2)], [.cells 85 [k0 v4.f0, k0 v4.f1]]⟩ ?_ (Nat.le_of_ble_eq_true rfl) trivial ?_
  ·kernel_rfl
  refine AAny.go (by kernel_rfl) [15] (fuel' := 9) rfl [] #[y1, y1, y1, n1, y1, n1, n1, y1, y1, y1, y1, y1, y1, y1, y1, y1, y1, y1, y1, n1, y1, n1, n1, n1, n1, n1] [0, 1, 46, 48, 59, 62, 64] 1 ⟨[(0, .pc 0 0), (1, tI v1), (46, .pc 0 0), (48, tI v2), (59, tI (w64 ((gD v4.f1 v1) + v3))), (62, .pc 0 1), (64, tI v2)], [.cells 85 [k0 v4.f0, k0 v4.f1]]⟩ ?_ (Nat.le_of_ble_eq_true rfl) trivial ?_
  ·kernel_rfl
  refine AAny.goR (by kernel_rfl) (i := 19) (fuel' := 8) [21, 22, 23, 25] rfl (by kernel_rfl) (by kernel_rfl) [] #[y1, y1, y1, n1, y1, n1, n1, y1, y1, y1, y1, y1, y1, y1, y1, y1, y1, y1, y1, y1, y1, n1, n1, n1, n1, n1] rfl [0, 1, 46, 48, 59, 63, 64] 1 ⟨[(0, .pc 0 0), (1, tI v1), (46, .pc 0 0), (48, tI v2), (59, tI (w64 ((gD v4.f1 v1) + v3))), (63, .al (.cell 0 1, [])), (64, tI v2)], [.cells 85 [k0 v4.f0, k0 v4.f1]]⟩ ?_ (Nat.le_of_ble_eq_true rfl) trivial ?_
  ·kernel_rfl
  obtain ⟨hg, h⟩ := of_guard h
  refine AAny.go (by kernel_rfl) [21] (fuel' := 7) rfl [(0 : Int) ≤ v2, v2 < (v4.f1.length : Int)] #[y1, y1, y1, n1, y1, n1, n1, y1, y1, y1, y1, y1, y1, y1, y1, y1, y1, y1, y1, y1, y1, y1, n1, n1, n1, n1] [0, 1, 46, 48, 59, 65] 1 ⟨[(0, .pc 0 0), (1, tI v1), (46, .pc 0 0), (48, tI v2), (59, tI (w64 ((gD v4.f1 v1) + v3))), (65, .pe (.cell 0 1, []) v2.toNat 0 1)], [.cells 85 [k0 v4.f0, k0 v4.f1]]⟩ ?_ (Nat.le_of_ble_eq_true rfl) ⟨hg.1, hg.2⟩ ?_
  ·kernel_rfl
  refine AAny.goR (by kernel_rfl) (i := 22) (fuel' := 6) [23, 25] rfl (by kernel_rfl) (by kernel_rfl) [] #[y1, y1, y1, n1, y1, n1, n1, y1, y1, y1, y1, y1, y1, y1, y1, y1, y1, y1, y1, y1, y1, y1, y1, n1, n1, n1] rfl [0, 1, 46, 48, 59, 66] 1 ⟨[(0, .pc 0 0), (1, tI v1), (46, .pc 0 0), (48, tI v2), (59, tI (w64 ((gD v4.f1 v1) + v3))), (66, tI (gD v4.f1 v2))], [.cells 85 [k0 v4.f0, k0 v4.f1]]⟩ ?_ (Nat.le_of_ble_eq_true rfl) trivial ?_
  ·kernel_rfl
  refine AAny.go (by kernel_rfl) [23] (fuel' := 5) rfl [] #[y1, y1, y1, n1, y1, n1, n1, y1, y1, y1, y1, y1, y1, y1, y1, y1, y1, y1, y1, y1, y1, y1, y1, y1, n1, n1] [0, 1, 46, 48, 67] 1 ⟨[(0, .pc 0 0), (1, tI v1), (46, .pc 0 0), (48, tI v2), (67, tI (w64 ((w64 ((gD v4.f1 v1) + v3)) - (gD v4.f1 v2))))], [.cells 85 [k0 v4.f0, k0 v4.f1]]⟩ ?_ (Nat.le_of_ble_eq_true rfl) trivial ?_
  ·kernel_rfl
  refine AAny.step (i := 3) (fuel' := 4) rfl (by kernel_rfl) [] #[y1, y1, y1, y1, y1, n1, n1, y1, y1, y1, y1, y1, y1, y1, y1, y1, y1, y1, y1, y1, y1, y1, y1, y1, n1, n1] rfl [0, 1, 47, 48, 67] 1 ⟨[(0, .pc 0 0), (1, tI v1), (47, .al (.cell 0 0, [])), (48, tI v2), (67, tI (w64 ((w64 ((gD v4.f1 v1) + v3)) - (gD v4.f1 v2))))], [.cells 85 [k0 v4.f0, k0 v4.f1]]⟩ ?_ (Nat.le_of_ble_eq_true rfl) trivial ?_
  ·kernel_rfl
  obtain ⟨hg, h⟩ := of_guard h
  refine AAny.go (by kernel_rfl) [5] (fuel' := 3) rfl [(0 : Int) ≤ v2, v2 < (v4.f0.length : Int)] #[y1, y1, y1, y1, y1, y1, n1, y1, y1, y1, y1, y1, y1, y1, y1, y1, y1, y1, y1, y1, y1, y1, y1, y1, n1, n1] [0, 1, 49, 67] 1 ⟨[(0, .pc 0 0), (1, tI v1), (49, .pe (.cell 0 0, []) v2.toNat 0 1), (67, tI (w64 ((w64 ((gD v4.f1 v1) + v3)) - (gD v4.f1 v2))))], [.cells 85 [k0 v4.f0, k0 v4.f1]]⟩ ?_ (Nat.le_of_ble_eq_true rfl) ⟨hg.1, hg.2⟩ ?_
  ·kernel_rfl
  refine AAny.step (i := 6) (fuel' := 2) rfl (by kernel_rfl) [] #[y1, y1, y1, y1, y1, y1, y1, y1, y1, y1, y1, y1, y1, y1, y1, y1, y1, y1, y1, y1, y1, y1, y1, y1, n1, n1] rfl [0, 1, 50, 67] 1 ⟨[(0, .pc 0 0), (1, tI v1), (50, tI (gD v4.f0 v2)), (67, tI (w64 ((w64 ((gD v4.f1 v1) + v3)) - (gD v4.f1 v2))))], [.cells 85 [k0 v4.f0, k0 v4.f1]]⟩ ?_ (Nat.le_of_ble_eq_true rfl) trivial ?_
  ·kernel_rfl
  refine AAny.go (by kernel_rfl) [24, 25] (fuel' := 0) rfl [] #[y1, y1, y1, y1, y1, y1, y1, y1, y1, y1, y1, y1, y1, y1, y1, y1, y1, y1, y1, y1, y1, y1, y1, y1, y1, y1] [0, 1, 9, 10] 1 ⟨[(0, .pc 0 0), (1, tI v1), (9, tI (gD v4.f0 v2)), (10, tI (w64 ((w64 ((gD v4.f1 v1) + v3)) - (gD v4.f1 v2))))], [.cells 85 [k0 v4.f0, k0 v4.f1]]⟩ ?_ (Nat.le_of_ble_eq_true rfl) trivial ?_
  ·kernel_rfl
  refine AAny.keepTo [0, 1, 9, 10] 1 ⟨[(0, .pc 0 0), (1, tI v1), (9, tI (gD v4.f0 v2)), (10, tI (w64 ((w64 ((gD v4.f1 v1) + v3)) - (gD v4.f1 v2))))], [.cells 85 [k0 v4.f0, k0 v4.f1]]⟩ _ ?_ rfl (Nat.le_of_ble_eq_true rfl) (AAny.done (by kernel_rfl) ?_)
  ·kernel_rfl
  refine AWp.seq ?_
  refine AWp.seq ?_
  refine AWp.start [0] [] [] [0, 1, 9, 10, 11] 1 ⟨[(0, .pc 0 0), (1, tI v1), (9, tI (gD v4.f0 v2)), (10, tI (w64 ((w64 ((gD v4.f1 v1) + v3)) - (gD v4.f1 v2)))), (11, tI (0 : Int))], [.cells 85 [k0 v4.f0, k0 v4.f1]]⟩ rfl ?_ (Nat.le_of_ble_eq_true rfl) trivial ?_
  ·kernel_rfl
  refine AOps.nil ?_
  refine AWp.block ?_
  obtain ⟨y, hy, h⟩ := of_bind h
  refine AWp.mono (AWp.loop (S := Int × (List Int) × (List Int)) (Y := Out (Bool × T84) ((List Int) × (List Int))) (fun s => ⟨[(0, .pc 0 0), (1, tI v1), (9, tI (gD v4.f0 v2)), (10, tI (w64 ((w64 ((gD v4.f1 v1) + v3)) - (gD v4.f1 v2)))), (11, tI s.1)], [.cells 85 [k0 s.2.1, k0 s.2.2]]⟩) (fun s => f50o_b2 v1 v2 v3 v4 s.1 s.2.1 s.2.2) (fun y e σ => match y with | .ret r => e = .ret ∧ σ = ⟨[(8, tB r.1)], [.cells 85 [k0 r.2.f0, k0 r.2.f1]]⟩ | .go v => e = .exit 0 ∧ σ = ⟨[], [.cells 85 [k0 v.1, k0 v.2]]⟩) ?_ hy) ?_
  ·rintro ⟨v5, v6, v7⟩ o h
   refine AWp.seq ?_
   refine AWp.seq ?_
   refine AWp.start [0, 1, 2, 3, 4, 5, 6] [] [] [0, 1, 9, 10, 11, 74] 1 ⟨[(0, .pc 0 0), (1, tI v1), (9, tI (gD v4.f0 v2)), (10, tI (w64 ((w64 ((gD v4.f1 v1) + v3)) - (gD v4.f1 v2)))), (11, tI v5), (74, tB (decide (v5 < (v6.length : Int))))], [.cells 85 [k0 v6, k0 v7]]⟩ rfl ?_ (Nat.le_of_ble_eq_true rfl) trivial ?_
   ·kernel_rfl
   refine AOps.nil ?_
   refine AWp.cond rfl (fun hb => ?_) fun hb => ?_
   ·replace h := of_true h hb
    refine AWp.keepTo [0, 1, 9, 10, 11] 1 ⟨[(0, .pc 0 0), (1, tI v1), (9, tI (gD v4.f0 v2)), (10, tI (w64 ((w64 ((gD v4.f1 v1) + v3)) - (gD v4.f1 v2)))), (11, tI v5)], [.cells 85 [k0 v6, k0 v7]]⟩ ?_ (Nat.le_of_ble_eq_true rfl) ?_
    ·kernel_rfl
    refine AWp.skip ?_
    refine AWp.join (V := (List Int) × (List Int)) (fun w => ⟨[(0, .pc 0 0), (1, tI v1), (9, tI (gD v4.f0 v2)), (10, tI (w64 ((w64 ((gD v4.f1 v1) + v3)) - (gD v4.f1 v2)))), (11, tI v5)], [.cells 85 [k0 w.1, k0 w.2]]⟩) (fun w => f50o_j1 v5 w.1 w.2 = some o) ?_ ?_
    ·refine AWp.block ?_
     refine AWp.seq ?_
     obtain ⟨hg, h⟩ := of_guard h
     refine AWp.start [0, 1, 2, 3, 4, 5, 6, 7, 8] [] [(0 : Int) ≤ v5, v5 < (v6.length : Int)] [0, 1, 9, 10, 11, 85] 1 ⟨[(0, .pc 0 0), (1, tI v1), (9, tI (gD v4.f0 v2)), (10, tI (w64 ((w64 ((gD v4.f1 v1) + v3)) - (gD v4.f1 v2)))), (11, tI v5), (85, tB (gD v6 v5 == gD v4.f0 v2))], [.cells 85 [k0 v6, k0 v7]]⟩ rfl ?_ (Nat.le_of_ble_eq_true rfl) ⟨hg.1, hg.2⟩ ?_
     ·kernel_rfl
     refine AOps.nil ?_
     refine AWp.cond rfl (fun hb => ?_) fun hb => ?_
     ·replace h := of_true h hb
      refine AWp.keepTo [0, 1, 9, 10, 11] 1 ⟨[(0, .pc 0 0), (1, tI v1), (9, tI (gD v4.f0 v2)), (10, tI (w64 ((w64 ((gD v4.f1 v1) + v3)) - (gD v4.f1 v2)))), (11, tI v5)], [.cells 85 [k0 v6, k0 v7]]⟩ ?_ (Nat.le_of_ble_eq_true rfl) ?_
      ·kernel_rfl
      refine AWp.seq ?_
      refine AWp.draw FFm _ (n := 14) rfl (ls := #[n1, n1, n1, n1, n1, n1, n1, n1, n1, n1, n1, n1, n1, n1]) rfl ?_ (fun _ h => h)
      refine AAny.go (by kernel_rfl) [0, 1, 2, 4, 5, 6, 7, 9] (fuel' := 6) rfl [] #[y1, y1, y1, n1, y1, y1, y1, y1, n1, y1, n1, n1, n1, n1] [0, 1, 9, 10, 11, 88, 90, 93, 95] 1 ⟨[(0, .pc 0 0), (1, tI v1), (9, tI (gD v4.f0 v2)), (10, tI (w64 ((w64 ((gD v4.f1 v1) + v3)) - (gD v4.f1 v2)))), (11, tI v5), (88, .pc 0 0), (90, tI v5), (93, .pc 0 0), (95, tI v1)], [.cells 85 [k0 v6, k0 v7]]⟩ ?_ (Nat.le_of_ble_eq_true rfl) trivial ?_
      ·kernel_rfl
      refine AAny.goR (by kernel_rfl) (i := 3) (fuel' := 5) [12, 13] rfl (by kernel_rfl) (by kernel_rfl) [] #[y1, y1, y1, y1, y1, y1, y1, y1, n1, y1, n1, n1, n1, n1] rfl [0, 1, 9, 10, 11, 89, 90, 93, 95] 1 ⟨[(0, .pc 0 0), (1, tI v1), (9, tI (gD v4.f0 v2)), (10, tI (w64 ((w64 ((gD v4.f1 v1) + v3)) - (gD v4.f1 v2)))), (11, tI v5), (89, .al (.cell 0 0, [])), (90, tI v5), (93, .pc 0 0), (95, tI v1)], [.cells 85 [k0 v6, k0 v7]]⟩ ?_ (Nat.le_of_ble_eq_true rfl) trivial ?_
      ·kernel_rfl
      refine AAny.step (i := 8) (fuel' := 4) rfl (by kernel_rfl) [] #[y1, y1, y1, y1, y1, y1, y1, y1, y1, y1, n1, n1, n1, n1] rfl [0, 1, 9, 10, 11, 89, 90, 94, 95] 1 ⟨[(0, .pc 0 0), (1, tI v1), (9, tI (gD v4.f0 v2)), (10, tI (w64 ((w64 ((gD v4.f1 v1) + v3)) - (gD v4.f1 v2)))), (11, tI v5), (89, .al (.cell 0 0, [])), (90, tI v5), (94, .al (.cell 0 0, [])), (95, tI v1)], [.cells 85 [k0 v6, k0 v7]]⟩ ?_ (Nat.le_of_ble_eq_true rfl) trivial ?_
      ·kernel_rfl
      obtain ⟨hg, h⟩ := of_guard h
      refine AAny.go (by kernel_rfl) [10] (fuel' := 3) rfl [(0 : Int) ≤ v1, v1 < (v6.length : Int)] #[y1, y1, y1, y1, y1, y1, y1, y1, y1, y1, y1, n1, n1, n1] [0, 1, 9, 10, 11, 89, 90, 96] 1 ⟨[(0, .pc 0 0), (1, tI v1), (9, tI (gD v4.f0 v2)), (10, tI (w64 ((w64 ((gD v4.f1 v1) + v3)) - (gD v4.f1 v2)))), (11, tI v5), (89, .al (.cell 0 0, [])), (90, tI v5), (96, .pe (.cell 0 0, []) v1.toNat 0 1)], [.cells 85 [k0 v6, k0 v7]]⟩ ?_ (Nat.le_of_ble_eq_true rfl) ⟨hg.1, hg.2⟩ ?_
      ·kernel_rfl
      refine AAny.step (i := 11) (fuel' := 2) rfl (by kernel_rfl) [] #[y1, y1, y1, y1, y1, y1, y1, y1, y1, y1, y1, y1, n1, n1] rfl [0, 1, 9, 10, 11, 89, 90, 97] 1 ⟨[(0, .pc 0 0), (1, tI v1), (9, tI (gD v4.f0 v2)), (10, tI (w64 ((w64 ((gD v4.f1 v1) + v3)) - (gD v4.f1 v2)))), (11, tI v5), (89, .al (.cell 0 0, [])), (90, tI v5), (97, tI (gD v6 v1))], [.cells 85 [k0 v6, k0 v7]]⟩ ?_ (Nat.le_of_ble_eq_true rfl) trivial ?_
      ·kernel_rfl
      obtain ⟨hg, h⟩ := of_guard h
      refine AAny.go (by kernel_rfl) [12] (fuel' := 1) rfl [(0 : Int) ≤ v5, v5 < (v6.length : Int)] #[y1, y1, y1, y1, y1, y1, y1, y1, y1, y1, y1, y1, y1, n1] [0, 1, 9, 10, 11, 97, 98] 1 ⟨[(0, .pc 0 0), (1, tI v1), (9, tI (gD v4.f0 v2)), (10, tI (w64 ((w64 ((gD v4.f1 v1) + v3)) - (gD v4.f1 v2)))), (11, tI v5), (97, tI (gD v6 v1)), (98, .pe (.cell 0 0, []) v5.toNat 0 1)], [.cells 85 [k0 v6, k0 v7]]⟩ ?_ (Nat.le_of_ble_eq_true rfl) ⟨hg.1, hg.2⟩ ?_
      ·kernel_rfl
      refine AAny.step (i := 13) (fuel' := 0) rfl (by kernel_rfl) [PlainTo v6.length (fun i => (cInt .i64) (v6.getD i default))] #[y1, y1, y1, y1, y1, y1, y1, y1, y1, y1, y1, y1, y1, y1] rfl [0, 1, 9, 10, 11] 1 ⟨[(0, .pc 0 0), (1, tI v1), (9, tI (gD v4.f0 v2)), (10, tI (w64 ((w64 ((gD v4.f1 v1) + v3)) - (gD v4.f1 v2)))), (11, tI v5)], [.cells 85 [.own 1 3 v6.length (setElem (fun i => (cInt .i64) (v6.getD i default)) v5.toNat (putAt ((cInt .i64) (gD v6 v5)) 0 [.int .i64 (gD v6 v1)])), k0 v7]]⟩ ?_ (Nat.le_of_ble_eq_true rfl) (fun _ _ => rfl) ?_
      ·kernel_rfl
      refine AAny.retell 0 0 (y' := k0 (v6.set v5.toNat (gD v6 v1))) rfl (.own (by simp) (set_at (cInt .i64) v6 v5.toNat 0 [.int .i64 (gD v6 v1)] (gD v6 v1) rfl)) ?_
      refine AAny.keepTo [0, 1, 9, 10, 11] 1 ⟨[(0, .pc 0 0), (1, tI v1), (9, tI (gD v4.f0 v2)), (10, tI (w64 ((w64 ((gD v4.f1 v1) + v3)) - (gD v4.f1 v2)))), (11, tI v5)], [.cells 85 [k0 (v6.set v5.toNat (gD v6 v1)), k0 v7]]⟩ _ ?_ rfl (Nat.le_of_ble_eq_true rfl) (AAny.done (by kernel_rfl) ?_)
      ·kernel_rfl
      obtain ⟨hg, h⟩ := of_guard h
      refine AWp.start [0, 1, 2, 3, 4, 5, 6, 7, 8, 9, 10] [] [(0 : Int) ≤ v5, v5 < (v7.length : Int), (0 : Int) ≤ v5, v5 < (v7.length : Int), PlainTo v7.length (fun i => (cInt .i64) (v7.getD i default))] [0, 1, 9, 10, 11] 1 ⟨[(0, .pc 0 0), (1, tI v1), (9, tI (gD v4.f0 v2)), (10, tI (w64 ((w64 ((gD v4.f1 v1) + v3)) - (gD v4.f1 v2)))), (11, tI v5)], [.cells 85 [k0 (v6.set v5.toNat (gD v6 v1)), .own 1 3 v7.length (setElem (fun i => (cInt .i64) (v7.getD i default)) v5.toNat (putAt ((cInt .i64) (gD v7 v5)) 0 [.int .i64 (w64 ((gD v7 v5) + (w64 ((w64 ((gD v4.f1 v1) + v3)) - (gD v4.f1 v2)))))]))]]⟩ rfl ?_ (Nat.le_of_ble_eq_true rfl) ⟨hg.1, hg.2.1, hg.2.2.1, hg.2.2.2, (fun _ _ => rfl)⟩ ?_
      ·kernel_rfl
      refine AOps.retell 0 1 (y' := k0 (v7.set v5.toNat (w64 ((gD v7 v5) + (w64 ((w64 ((gD v4.f1 v1) + v3)) - (gD v4.f1 v2))))))) rfl (.own (by simp) (set_at (cInt .i64) v7 v5.toNat 0 [.int .i64 (w64 ((gD v7 v5) + (w64 ((w64 ((gD v4.f1 v1) + v3)) - (gD v4.f1 v2)))))] (w64 ((gD v7 v5) + (w64 ((w64 ((gD v4.f1 v1) + v3)) - (gD v4.f1 v2))))) rfl)) ?_
      refine AOps.keepTo [0, 1, 9, 10, 11] 1 ⟨[(0, .pc 0 0), (1, tI v1), (9, tI (gD v4.f0 v2)), (10, tI (w64 ((w64 ((gD v4.f1 v1) + v3)) - (gD v4.f1 v2)))), (11, tI v5)], [.cells 85 [k0 (v6.set v5.toNat (gD v6 v1)), k0 (v7.set v5.toNat (w64 ((gD v7 v5) + (w64 ((w64 ((gD v4.f1 v1) + v3)) - (gD v4.f1 v2))))))]]⟩ ?_ (Nat.le_of_ble_eq_true rfl) ?_
      ·kernel_rfl
      refine AOps.nil ?_
      exact ⟨(v6.set v5.toNat (gD v6 v1), v7.set v5.toNat (w64 ((gD v7 v5) + (w64 ((w64 ((gD v4.f1 v1) + v3)) - (gD v4.f1 v2)))))), h, rfl⟩
     ·replace h := of_false h hb
      refine AWp.keepTo [0, 1, 9, 10, 11] 1 ⟨[(0, .pc 0 0), (1, tI v1), (9, tI (gD v4.f0 v2)), (10, tI (w64 ((w64 ((gD v4.f1 v1) + v3)) - (gD v4.f1 v2)))), (11, tI v5)], [.cells 85 [k0 v6, k0 v7]]⟩ ?_ (Nat.le_of_ble_eq_true rfl) ?_
      ·kernel_rfl
      refine AWp.skip ?_
      exact ⟨(v6, v7), h, rfl⟩
    ·rintro ⟨v10, v11⟩ h
     refine AWp.start [0, 1, 2] [] [] [0, 1, 9, 10, 11] 1 ⟨[(0, .pc 0 0), (1, tI v1), (9, tI (gD v4.f0 v2)), (10, tI (w64 ((w64 ((gD v4.f1 v1) + v3)) - (gD v4.f1 v2)))), (11, tI (w64 (v5 + (1 : Int))))], [.cells 85 [k0 v10, k0 v11]]⟩ rfl ?_ (Nat.le_of_ble_eq_true rfl) trivial ?_
     ·kernel_rfl
     refine AOps.nil ?_
     cases h
     exact Or.inl ⟨_, rfl, rfl, rfl⟩
   ·replace h := of_false h hb
    refine AWp.keepTo [] 1 ⟨[], [.cells 85 [k0 v6, k0 v7]]⟩ ?_ (Nat.le_of_ble_eq_true rfl) ?_
    ·kernel_rfl
    refine AWp.exit ?_
    cases h
    exact Or.inr ⟨_, rfl, by simp, rfl, rfl⟩
  ·intro e σ hp
   rcases y with v12 | ⟨v8, v9⟩
   ·obtain ⟨rfl, rfl⟩ := hp
    cases h
    exact ⟨.inr rfl, rfl⟩
   ·obtain ⟨rfl, rfl⟩ := hp
    refine AWp.seq ?_
    refine AWp.start [0] [] [] [8] 1 ⟨[(8, tB true)], [.cells 85 [k0 v8, k0 v9]]⟩ rfl ?_ (Nat.le_of_ble_eq_true rfl) trivial ?_
    ·kernel_rfl
    refine AOps.nil ?_
    refine AWp.ret ?_
    cases h
    exact ⟨.inr rfl, rfl⟩

end Go.Sx.sto
