/- Printed by program (wip/gen): plain functions and their walks; no condition. -/
import Derived.Test.YtgabiokgockopaaGx4
namespace Go.Sx.sto
open Go Go.Sx Go.Proofs

noncomputable def f40_z2_b1 (v1 : List T36) : Option (Unit ⊕ Out ((List Int) × (List Int) × (List Int) × (List UInt8) × Int) Unit) :=
 cond (decide ((0 : Int) < (v1.length : Int))) none (some (.inr (.go ())))

noncomputable def f40_z2_b2 (v1 : List T36) : Option (Unit ⊕ Out ((List Int) × (List Int) × (List Int) × (List UInt8) × Int) Unit) :=
 cond (decide ((0 : Int) < (v1.length : Int))) none (some (.inr (.go ())))

noncomputable def f40_z2 (v1 : List T36) (v2 : List (List (List UInt8))) : Option ((List Int) × (List Int) × (List Int) × (List UInt8) × Int) :=
 (iter (fun _ => f40_z2_b1 v1) ()).bind fun y => match y with | .ret v3 => some (v3.1, v3.2.1, v3.2.2.1, v3.2.2.2.1, v3.2.2.2.2) | .go _ => (iter (fun _ => f40_z2_b2 v1) ()).bind fun y => match y with | .ret v4 => some (v4.1, v4.2.1, v4.2.2.1, v4.2.2.2.1, v4.2.2.2.2) | .go _ => some (([] : List Int), ([] : List Int), ([] : List Int), ([] : List UInt8), (0 : Int))

theorem f40_z2_ok (v1 : List T36) (v2 : List (List (List UInt8))) {r : (List Int) × (List Int) × (List Int) × (List UInt8) × Int} (h : f40_z2 v1 v2 = some r) : ACall Try.prog 40 [.tv (fzL 3 c36 v1), .tv (fzL 1 (cSl 1 cStr) v2), .tv (.sc (.pointer none))] [] (.tup [.tv (fzL 1 (cInt .i64) r.1), .tv (fzL 1 (cInt .i64) r.2.1), .tv (fzL 1 (cInt .i64) r.2.2.1), .tv (.str r.2.2.2.1), .tv (.int .i64 r.2.2.2.2)]) [] := by
 refine ACall.ofN (FF 122 0) (rs := [6, 7, 8, 9, 10]) (env := [(6, q2 r.1), (7, q2 r.2.1), (8, q2 r.2.2.1), (9, tS r.2.2.2.1), (10, tI r.2.2.2.2)]) Try.func40 rfl Try.ntmps40 Try.results40 (by decide) (by decide) rfl (Nat.le_of_ble_eq_true rfl) rfl (get_ofN _ _ _ rfl) (ok_ofN _ rfl) ?_
 refine AWp.seq ?_
 refine AWp.start [0, 1, 2, 3, 4] [] [] [0, 1, 2, 6, 7, 8] 0 ⟨[(0, q0 v1), (1, .tv (fzL 1 (cSl 1 cStr) v2)), (2, .tv (.sc (.pointer none))), (6, .tv (.sc (.slice none 0 0))), (7, .tv (.sc (.slice none 0 0))), (8, .tv (.sc (.slice none 0 0)))], []⟩ rfl ?_ z0 trivial ?_
 ·kernel_rfl
 refine AOps.nil ?_
 refine AWp.seq ?_
 refine AWp.start [0] [] [] [0, 1, 2, 6, 7, 8, 11] 0 ⟨[(0, q0 v1), (1, .tv (fzL 1 (cSl 1 cStr) v2)), (2, .tv (.sc (.pointer none))), (6, .tv (.sc (.slice none 0 0))), (7, .tv (.sc (.slice none 0 0))), (8, .tv (.sc (.slice none 0 0))), (11, .tv (.sc (.slice none 0 0)))], []⟩ rfl ?_ z0 trivial ?_
 ·kernel_rfl
 refine AOps.nil ?_
 refine AWp.seq ?_
 refine AWp.seq ?_
 refine AWp.start [0] [] [] [0, 1, 2, 6, 7, 8, 11, 12] 0 ⟨[(0, q0 v1), (1, .tv (fzL 1 (cSl 1 cStr) v2)), (2, .tv (.sc (.pointer none))), (6, .tv (.sc (.slice none 0 0))), (7, .tv (.sc (.slice none 0 0))), (8, .tv (.sc (.slice none 0 0))), (11, .tv (.sc (.slice none 0 0))), (12, tI (0 : Int))], []⟩ rfl ?_ z0 trivial ?_
 ·kernel_rfl
 refine AOps.nil ?_
 refine AWp.block ?_
 obtain ⟨y, hy, h⟩ := of_bind h
 refine AWp.mono (AWp.loop (S := Unit) (Y := Out ((List Int) × (List Int) × (List Int) × (List UInt8) × Int) Unit) (fun _ => ⟨[(0, q0 v1), (1, .tv (fzL 1 (cSl 1 cStr) v2)), (2, .tv (.sc (.pointer none))), (6, .tv (.sc (.slice none 0 0))), (7, .tv (.sc (.slice none 0 0))), (8, .tv (.sc (.slice none 0 0))), (11, .tv (.sc (.slice none 0 0))), (12, tI (0 : Int))], []⟩) (fun _ => f40_z2_b1 v1) (fun y e σ => match y with | .ret r => e = .ret ∧ σ = ⟨[(6, q2 r.1), (7, q2 r.2.1), (8, q2 r.2.2.1), (9, tS r.2.2.2.1), (10, tI r.2.2.2.2)], []⟩ | .go v => e = .exit 0 ∧ σ = ⟨[(0, q0 v1), (1, .tv (fzL 1 (cSl 1 cStr) v2)), (2, .tv (.sc (.pointer none))), (6, .tv (.sc (.slice none 0 0))), (7, .tv (.sc (.slice none 0 0))), (8, .tv (.sc (.slice none 0 0)))], []⟩) ?_ hy) ?_
 ·rintro ⟨⟩ o h
  refine AWp.seq ?_
  refine AWp.seq ?_
  refine AWp.start [0, 1, 2, 3] [] [] [0, 1, 2, 6, 7, 8, 11, 12, 18] 0 ⟨[(0, q0 v1), (1, .tv (fzL 1 (cSl 1 cStr) v2)), (2, .tv (.sc (.pointer none))), (6, .tv (.sc (.slice none 0 0))), (7, .tv (.sc (.slice none 0 0))), (8, .tv (.sc (.slice none 0 0))), (11, .tv (.sc (.slice none 0 0))), (12, tI (0 : Int)), (18, tB (decide ((0 : Int) < (v1.length : Int))))], []⟩ rfl ?_ z0 trivial ?_
  ·kernel_rfl
  refine AOps.nil ?_
  refine AWp.cond rfl (fun hb => ?_) fun hb => ?_
  ·replace h := of_true h hb
   refine AWp.keepTo [0, 1, 2, 6, 7, 8, 11, 12] 0 ⟨[(0, q0 v1), (1, .tv (fzL 1 (cSl 1 cStr) v2)), (2, .tv (.sc (.pointer none))), (6, .tv (.sc (.slice none 0 0))), (7, .tv (.sc (.slice none 0 0))), (8, .tv (.sc (.slice none 0 0))), (11, .tv (.sc (.slice none 0 0))), (12, tI (0 : Int))], []⟩ ?_ z0 ?_
   ·kernel_rfl
   refine AWp.skip ?_
   refine AWp.seq ?_
   refine AWp.block ?_
   refine AWp.seq ?_
   cases h
  ·replace h := of_false h hb
   refine AWp.keepTo [0, 1, 2, 6, 7, 8] 0 ⟨[(0, q0 v1), (1, .tv (fzL 1 (cSl 1 cStr) v2)), (2, .tv (.sc (.pointer none))), (6, .tv (.sc (.slice none 0 0))), (7, .tv (.sc (.slice none 0 0))), (8, .tv (.sc (.slice none 0 0)))], []⟩ ?_ z0 ?_
   ·kernel_rfl
   refine AWp.exit ?_
   cases h
   exact Or.inr ⟨_, rfl, by simp, rfl, rfl⟩
 ·intro e σ hp
  rcases y with v3 | _
  ·obtain ⟨rfl, rfl⟩ := hp
   cases h
   exact ⟨.inr rfl, rfl⟩
  ·obtain ⟨rfl, rfl⟩ := hp
   refine AWp.seq ?_
   refine AWp.seq ?_
   refine AWp.start [0] [] [] [0, 1, 2, 6, 7, 8, 14] 0 ⟨[(0, q0 v1), (1, .tv (fzL 1 (cSl 1 cStr) v2)), (2, .tv (.sc (.pointer none))), (6, .tv (.sc (.slice none 0 0))), (7, .tv (.sc (.slice none 0 0))), (8, .tv (.sc (.slice none 0 0))), (14, tI (0 : Int))], []⟩ rfl ?_ z0 trivial ?_
   ·kernel_rfl
   refine AOps.nil ?_
   refine AWp.block ?_
   obtain ⟨y, hy, h⟩ := of_bind h
   refine AWp.mono (AWp.loop (S := Unit) (Y := Out ((List Int) × (List Int) × (List Int) × (List UInt8) × Int) Unit) (fun _ => ⟨[(0, q0 v1), (1, .tv (fzL 1 (cSl 1 cStr) v2)), (2, .tv (.sc (.pointer none))), (6, .tv (.sc (.slice none 0 0))), (7, .tv (.sc (.slice none 0 0))), (8, .tv (.sc (.slice none 0 0))), (14, tI (0 : Int))], []⟩) (fun _ => f40_z2_b2 v1) (fun y e σ => match y with | .ret r => e = .ret ∧ σ = ⟨[(6, q2 r.1), (7, q2 r.2.1), (8, q2 r.2.2.1), (9, tS r.2.2.2.1), (10, tI r.2.2.2.2)], []⟩ | .go v => e = .exit 2 ∧ σ = ⟨[(6, .tv (.sc (.slice none 0 0))), (7, .tv (.sc (.slice none 0 0))), (8, .tv (.sc (.slice none 0 0)))], []⟩) ?_ hy) ?_
   ·rintro ⟨⟩ o h
    refine AWp.seq ?_
    refine AWp.seq ?_
    refine AWp.start [0, 1, 2, 3] [] [] [0, 1, 2, 6, 7, 8, 14, 54] 0 ⟨[(0, q0 v1), (1, .tv (fzL 1 (cSl 1 cStr) v2)), (2, .tv (.sc (.pointer none))), (6, .tv (.sc (.slice none 0 0))), (7, .tv (.sc (.slice none 0 0))), (8, .tv (.sc (.slice none 0 0))), (14, tI (0 : Int)), (54, tB (decide ((0 : Int) < (v1.length : Int))))], []⟩ rfl ?_ z0 trivial ?_
    ·kernel_rfl
    refine AOps.nil ?_
    refine AWp.cond rfl (fun hb => ?_) fun hb => ?_
    ·replace h := of_true h hb
     refine AWp.keepTo [0, 1, 2, 6, 7, 8, 14] 0 ⟨[(0, q0 v1), (1, .tv (fzL 1 (cSl 1 cStr) v2)), (2, .tv (.sc (.pointer none))), (6, .tv (.sc (.slice none 0 0))), (7, .tv (.sc (.slice none 0 0))), (8, .tv (.sc (.slice none 0 0))), (14, tI (0 : Int))], []⟩ ?_ z0 ?_
     ·kernel_rfl
     refine AWp.skip ?_
     refine AWp.seq ?_
     refine AWp.block ?_
     refine AWp.seq ?_
     refine AWp.draw FFm _ (n := 23) rfl (ls := #[n1, n1, n1, n1, n1, n1, n1, n1, n1, n1, n1, n1, n1, n1, n1, n1, n1, n1, n1, n1, n1, n1, n1]) rfl ?_ (fun _ h => h)
     cases h
    ·replace h := of_false h hb
     refine AWp.keepTo [6, 7, 8] 0 ⟨[(6, .tv (.sc (.slice none 0 0))), (7, .tv (.sc (.slice none 0 0))), (8, .tv (.sc (.slice none 0 0)))], []⟩ ?_ z0 ?_
     ·kernel_rfl
     refine AWp.exit ?_
     cases h
     exact Or.inr ⟨_, rfl, by simp, rfl, rfl⟩
   ·intro e σ hp
    rcases y with v4 | _
    ·obtain ⟨rfl, rfl⟩ := hp
     cases h
     exact ⟨.inr rfl, rfl⟩
    ·obtain ⟨rfl, rfl⟩ := hp
     refine AWp.seq ?_
     refine AWp.start [0, 1, 2, 3, 4, 5, 6, 7] [] [] [6, 7, 8, 9, 10] 0 ⟨[(6, .tv (.sc (.slice none 0 0))), (7, .tv (.sc (.slice none 0 0))), (8, .tv (.sc (.slice none 0 0))), (9, tS ([] : List UInt8)), (10, tI (0 : Int))], []⟩ rfl ?_ z0 trivial ?_
     ·kernel_rfl
     refine AOps.nil ?_
     refine AWp.nilFz 6 1 (fun i => (cInt .i64) (([] : List Int).getD i default)) rfl ?_
     refine AWp.nilFz 7 1 (fun i => (cInt .i64) (([] : List Int).getD i default)) rfl ?_
     refine AWp.nilFz 8 1 (fun i => (cInt .i64) (([] : List Int).getD i default)) rfl ?_
     refine AWp.keepTo [6, 7, 8, 9, 10] 0 ⟨[(6, q2 ([] : List Int)), (7, q2 ([] : List Int)), (8, q2 ([] : List Int)), (9, tS ([] : List UInt8)), (10, tI (0 : Int))], []⟩ ?_ z0 ?_
     ·kernel_rfl
     refine AWp.ret ?_
     cases h
     exact ⟨.inr rfl, rfl⟩

noncomputable def f51_b1 (v1 : List Int) (v2 : Int) (v3 : Int) : Option (Int ⊕ Out Int Unit) :=
 cond (decide (v3 < (v1.length : Int))) (if (0 : Int) ≤ v3 ∧ v3 < (v1.length : Int) then cond (v1.getD v3.toNat default == v2) (some (.inr (.ret v3))) (some (.inl (w64 (v3 + (1 : Int))))) else none) (some (.inr (.go ())))

noncomputable def f51 (v1 : List Int) (v2 : Int) : Option Int :=
 (iter (fun s => f51_b1 v1 v2 s) (0 : Int)).bind fun y => match y with | .ret v4 => some v4 | .go _ => some (-1 : Int)

theorem f51_ok (v1 : List Int) (v2 : Int) {r : Int} (h : f51 v1 v2 = some r) : ACall Try.prog 51 [.tv (fzL 1 (cInt .i64) v1), .tv (.int .i64 v2)] [] (.tv (.int .i64 r)) [] := by
 refine ACall.of1 (FF 19 0) Try.func51 rfl Try.ntmps51 Try.results51 (Nat.le_of_ble_eq_true rfl) rfl rfl ?_
 refine AWp.seq ?_
 refine AWp.start [0] [] [] [0, 1] 0 ⟨[(0, q2 v1), (1, tI v2)], []⟩ rfl ?_ z0 trivial ?_
 ·kernel_rfl
 refine AOps.nil ?_
 refine AWp.seq ?_
 refine AWp.seq ?_
 refine AWp.start [0] [] [] [0, 1, 5] 0 ⟨[(0, q2 v1), (1, tI v2), (5, tI (0 : Int))], []⟩ rfl ?_ z0 trivial ?_
 ·kernel_rfl
 refine AOps.nil ?_
 refine AWp.block ?_
 obtain ⟨y, hy, h⟩ := of_bind h
 refine AWp.mono (AWp.loop (S := Int) (Y := Out Int Unit) (fun s => ⟨[(0, q2 v1), (1, tI v2), (5, tI s)], []⟩) (fun s => f51_b1 v1 v2 s) (fun y e σ => match y with | .ret r => e = .ret ∧ σ = ⟨[(4, tI r)], []⟩ | .go v => e = .exit 0 ∧ σ = ⟨[], []⟩) ?_ hy) ?_
 ·rintro v3 o h
  refine AWp.seq ?_
  refine AWp.seq ?_
  refine AWp.start [0, 1, 2, 3] [] [] [0, 1, 5, 9] 0 ⟨[(0, q2 v1), (1, tI v2), (5, tI v3), (9, tB (decide (v3 < (v1.length : Int))))], []⟩ rfl ?_ z0 trivial ?_
  ·kernel_rfl
  refine AOps.nil ?_
  refine AWp.cond rfl (fun hb => ?_) fun hb => ?_
  ·replace h := of_true h hb
   refine AWp.keepTo [0, 1, 5] 0 ⟨[(0, q2 v1), (1, tI v2), (5, tI v3)], []⟩ ?_ z0 ?_
   ·kernel_rfl
   refine AWp.skip ?_
   refine AWp.seq ?_
   refine AWp.block ?_
   refine AWp.seq ?_
   obtain ⟨hg, h⟩ := of_guard h
   refine AWp.start [0, 1, 2, 3, 4, 5] [] [(0 : Int) ≤ v3, v3 < (v1.length : Int)] [0, 1, 5, 17] 0 ⟨[(0, q2 v1), (1, tI v2), (5, tI v3), (17, tB (gD v1 v3 == v2))], []⟩ rfl ?_ z0 ⟨hg.1, hg.2⟩ ?_
   ·kernel_rfl
   refine AOps.nil ?_
   refine AWp.cond rfl (fun hb => ?_) fun hb => ?_
   ·replace h := of_true h hb
    refine AWp.keepTo [5] 0 ⟨[(5, tI v3)], []⟩ ?_ z0 ?_
    ·kernel_rfl
    refine AWp.seq ?_
    refine AWp.start [0, 1] [] [] [4] 0 ⟨[(4, tI v3)], []⟩ rfl ?_ z0 trivial ?_
    ·kernel_rfl
    refine AOps.nil ?_
    refine AWp.ret ?_
    cases h
    exact Or.inr ⟨_, rfl, by simp, rfl, rfl⟩
   ·replace h := of_false h hb
    refine AWp.keepTo [0, 1, 5] 0 ⟨[(0, q2 v1), (1, tI v2), (5, tI v3)], []⟩ ?_ z0 ?_
    ·kernel_rfl
    refine AWp.skip ?_
    refine AWp.start [0, 1, 2] [] [] [0, 1, 5] 0 ⟨[(0, q2 v1), (1, tI v2), (5, tI (w64 (v3 + (1 : Int))))], []⟩ rfl ?_ z0 trivial ?_
    ·kernel_rfl
    refine AOps.nil ?_
    cases h
    exact Or.inl ⟨_, rfl, rfl, rfl⟩
  ·replace h := of_false h hb
   refine AWp.keepTo [] 0 ⟨[], []⟩ ?_ z0 ?_
   ·kernel_rfl
   refine AWp.exit ?_
   cases h
   exact Or.inr ⟨_, rfl, by simp, rfl, rfl⟩
 ·intro e σ hp
  rcases y with v4 | _
  ·obtain ⟨rfl, rfl⟩ := hp
   cases h
   exact ⟨.inr rfl, rfl⟩
  ·obtain ⟨rfl, rfl⟩ := hp
   refine AWp.seq ?_
   refine AWp.start [0] [] [] [4] 0 ⟨[(4, tI (-1 : Int))], []⟩ rfl ?_ z0 trivial ?_
   ·kernel_rfl
   refine AOps.nil ?_
   refine AWp.ret ?_
   cases h
   exact ⟨.inr rfl, rfl⟩

noncomputable def f52_j1 (v5 : Int) : Option (Int ⊕ Out Int Unit) :=
 some (.inl (w64 (v5 + (1 : Int))))

noncomputable def f52_b2 (v1 : List T36) (v2 : List (List (List UInt8))) (v3 : T84) (v4 : Int) (v5 : Int) : Option (Int ⊕ Out Int Unit) :=
 cond (decide (v5 < (v2.length : Int))) (if (0 : Int) ≤ v5 ∧ v5 < (v2.length : Int) then cond (decide (((v2.getD v5.toNat default).length : Int) > (0 : Int))) (if (0 : Int) ≤ v5 ∧ v5 < (v2.length : Int) ∧ (0 : Int) < ((v2.getD v5.toNat default).length : Int) then (f33 v1 ((v2.getD v5.toNat default).getD 0 default)).bind fun v6 => if (0 : Int) ≤ v6 ∧ v6 < (v3.f0.length : Int) then cond (v3.f0.getD v6.toNat default == v4) (if (0 : Int) ≤ v6 ∧ v6 < (v3.f1.length : Int) then some (.inr (.ret (v3.f1.getD v6.toNat default))) else none) (f52_j1 v5 ) else none else none) (f52_j1 v5 ) else none) (some (.inr (.go ())))

noncomputable def f52_j3 (v9 : Int) (v11 : Int) : Option ((Int × Int) ⊕ Out Int Int) :=
 some (.inl (v11, w64 (v9 + (1 : Int))))

noncomputable def f52_b4 (v1 : List T36) (v3 : T84) (v4 : Int) (v8 : Int) (v9 : Int) : Option ((Int × Int) ⊕ Out Int Int) :=
 cond (decide (v9 < (v1.length : Int))) (if (0 : Int) ≤ v9 ∧ v9 < (v3.f0.length : Int) then cond (v3.f0.getD v9.toNat default == v4) (if (0 : Int) ≤ v9 ∧ v9 < (v3.f1.length : Int) then f52_j3 v9 (if v3.f1.getD v9.toNat default < v8 then v3.f1.getD v9.toNat default else v8) else none) (f52_j3 v9 v8) else none) (some (.inr (.go v8)))

noncomputable def f52 (v1 : List T36) (v2 : List (List (List UInt8))) (v3 : T84) (v4 : Int) : Option Int :=
 (iter (fun s => f52_b2 v1 v2 v3 v4 s) (0 : Int)).bind fun y => match y with | .ret v7 => some v7 | .go _ => (iter (fun s => f52_b4 v1 v3 v4 s.1 s.2) ((1099511627776 : Int), (0 : Int))).bind fun y => match y with | .ret v12 => some v12 | .go v10 => some v10

theorem f52_ok (v1 : List T36) (v2 : List (List (List UInt8))) (v3 : T84) (v4 : Int) {r : Int} (h : f52 v1 v2 v3 v4 = some r) : ACall Try.prog 52 [.tv (fzL 3 c36 v1), .tv (fzL 1 (cSl 1 cStr) v2), .rp [fzL 1 (cInt .i64) v3.f0, fzL 1 (cInt .i64) v3.f1], .tv (.int .i64 v4)] [] (.tv (.int .i64 r)) [] := by
 refine ACall.of1 (FF 74 0) Try.func52 rfl Try.ntmps52 Try.results52 (Nat.le_of_ble_eq_true rfl) rfl rfl ?_
 refine AWp.seq ?_
 refine AWp.start [0] [] [] [0, 1, 2, 3] 0 ⟨[(0, q0 v1), (1, .tv (fzL 1 (cSl 1 cStr) v2)), (2, .rp [k2 v3.f0, k2 v3.f1]), (3, tI v4)], []⟩ rfl ?_ z0 trivial ?_
 ·kernel_rfl
 refine AOps.nil ?_
 refine AWp.seq ?_
 refine AWp.seq ?_
 refine AWp.start [0] [] [] [0, 1, 2, 3, 9] 0 ⟨[(0, q0 v1), (1, .tv (fzL 1 (cSl 1 cStr) v2)), (2, .rp [k2 v3.f0, k2 v3.f1]), (3, tI v4), (9, tI (0 : Int))], []⟩ rfl ?_ z0 trivial ?_
 ·kernel_rfl
 refine AOps.nil ?_
 refine AWp.block ?_
 obtain ⟨y, hy, h⟩ := of_bind h
 refine AWp.mono (AWp.loop (S := Int) (Y := Out Int Unit) (fun s => ⟨[(0, q0 v1), (1, .tv (fzL 1 (cSl 1 cStr) v2)), (2, .rp [k2 v3.f0, k2 v3.f1]), (3, tI v4), (9, tI s)], []⟩) (fun s => f52_b2 v1 v2 v3 v4 s) (fun y e σ => match y with | .ret r => e = .ret ∧ σ = ⟨[(8, tI r)], []⟩ | .go v => e = .exit 0 ∧ σ = ⟨[(0, q0 v1), (2, .rp [k2 v3.f0, k2 v3.f1]), (3, tI v4)], []⟩) ?_ hy) ?_
 ·rintro v5 o h
  refine AWp.seq ?_
  refine AWp.seq ?_
  refine AWp.start [0, 1, 2, 3] [] [] [0, 1, 2, 3, 9, 16] 0 ⟨[(0, q0 v1), (1, .tv (fzL 1 (cSl 1 cStr) v2)), (2, .rp [k2 v3.f0, k2 v3.f1]), (3, tI v4), (9, tI v5), (16, tB (decide (v5 < (v2.length : Int))))], []⟩ rfl ?_ z0 trivial ?_
  ·kernel_rfl
  refine AOps.nil ?_
  refine AWp.cond rfl (fun hb => ?_) fun hb => ?_
  ·replace h := of_true h hb
   refine AWp.keepTo [0, 1, 2, 3, 9] 0 ⟨[(0, q0 v1), (1, .tv (fzL 1 (cSl 1 cStr) v2)), (2, .rp [k2 v3.f0, k2 v3.f1]), (3, tI v4), (9, tI v5)], []⟩ ?_ z0 ?_
   ·kernel_rfl
   refine AWp.skip ?_
   refine AWp.join (V := Unit) (fun w => ⟨[(0, q0 v1), (1, .tv (fzL 1 (cSl 1 cStr) v2)), (2, .rp [k2 v3.f0, k2 v3.f1]), (3, tI v4), (9, tI v5)], []⟩) (fun w => f52_j1 v5 = some o) ?_ ?_
   ·refine AWp.block ?_
    refine AWp.seq ?_
    obtain ⟨hg, h⟩ := of_guard h
    refine AWp.start [0, 1, 2, 3, 4, 5] [] [(0 : Int) ≤ v5, v5 < (v2.length : Int)] [0, 1, 2, 3, 9, 24] 0 ⟨[(0, q0 v1), (1, .tv (fzL 1 (cSl 1 cStr) v2)), (2, .rp [k2 v3.f0, k2 v3.f1]), (3, tI v4), (9, tI v5), (24, tB (decide (((gD v2 v5).length : Int) > (0 : Int))))], []⟩ rfl ?_ z0 ⟨hg.1, hg.2⟩ ?_
    ·kernel_rfl
    refine AOps.nil ?_
    refine AWp.cond rfl (fun hb => ?_) fun hb => ?_
    ·replace h := of_true h hb
     refine AWp.keepTo [0, 1, 2, 3, 9] 0 ⟨[(0, q0 v1), (1, .tv (fzL 1 (cSl 1 cStr) v2)), (2, .rp [k2 v3.f0, k2 v3.f1]), (3, tI v4), (9, tI v5)], []⟩ ?_ z0 ?_
     ·kernel_rfl
     refine AWp.seq ?_
     obtain ⟨hg, h⟩ := of_guard h
     refine AWp.start [0, 1, 2, 3, 4, 5, 6] [7, 8] [(0 : Int) ≤ v5, v5 < (v2.length : Int), (0 : Int) ≤ (0 : Int), (0 : Int) < ((gD v2 v5).length : Int)] [0, 1, 2, 3, 9, 25, 31] 0 ⟨[(0, q0 v1), (1, .tv (fzL 1 (cSl 1 cStr) v2)), (2, .rp [k2 v3.f0, k2 v3.f1]), (3, tI v4), (9, tI v5), (25, q0 v1), (31, tS ((gD v2 v5).getD 0 default))], []⟩ rfl ?_ z0 ⟨hg.1, hg.2.1, (by decide : (0 : Int) ≤ (0 : Int)), hg.2.2⟩ ?_
     ·kernel_rfl
     obtain ⟨v6, hv6, h⟩ := of_bind h
     refine AOps.cons (AOne.callP (F := (FF 74 0)) _ rfl rfl rfl _ rfl rfl _ _ rfl Try.call33 [q0 v1, tS ((gD v2 v5).getD 0 default)] rfl rfl (f33_ok v1 ((gD v2 v5).getD 0 default) hv6) rfl) ?_
     refine AOps.go [8] [] [] [0, 1, 2, 3, 9, 10] 0 ⟨[(0, q0 v1), (1, .tv (fzL 1 (cSl 1 cStr) v2)), (2, .rp [k2 v3.f0, k2 v3.f1]), (3, tI v4), (9, tI v5), (10, tI v6)], []⟩ ?_ z0 trivial ?_
     ·kernel_rfl
     refine AOps.nil ?_
     refine AWp.seq ?_
     obtain ⟨hg, h⟩ := of_guard h
     refine AWp.start [0, 1, 2, 3, 4, 5, 6, 7, 8] [] [(0 : Int) ≤ v6, v6 < (v3.f0.length : Int)] [0, 1, 2, 3, 9, 10, 41] 0 ⟨[(0, q0 v1), (1, .tv (fzL 1 (cSl 1 cStr) v2)), (2, .rp [k2 v3.f0, k2 v3.f1]), (3, tI v4), (9, tI v5), (10, tI v6), (41, tB (gD v3.f0 v6 == v4))], []⟩ rfl ?_ z0 ⟨hg.1, hg.2⟩ ?_
     ·kernel_rfl
     refine AOps.nil ?_
     refine AWp.cond rfl (fun hb => ?_) fun hb => ?_
     ·replace h := of_true h hb
      refine AWp.keepTo [2, 10] 0 ⟨[(2, .rp [k2 v3.f0, k2 v3.f1]), (10, tI v6)], []⟩ ?_ z0 ?_
      ·kernel_rfl
      refine AWp.seq ?_
      obtain ⟨hg, h⟩ := of_guard h
      refine AWp.start [0, 1, 2, 3, 4, 5, 6, 7] [] [(0 : Int) ≤ v6, v6 < (v3.f1.length : Int)] [8] 0 ⟨[(8, tI (gD v3.f1 v6))], []⟩ rfl ?_ z0 ⟨hg.1, hg.2⟩ ?_
      ·kernel_rfl
      refine AOps.nil ?_
      refine AWp.ret ?_
      cases h
      exact Or.inr ⟨_, rfl, by simp, rfl, rfl⟩
     ·replace h := of_false h hb
      refine AWp.keepTo [0, 1, 2, 3, 9] 0 ⟨[(0, q0 v1), (1, .tv (fzL 1 (cSl 1 cStr) v2)), (2, .rp [k2 v3.f0, k2 v3.f1]), (3, tI v4), (9, tI v5)], []⟩ ?_ z0 ?_
      ·kernel_rfl
      refine AWp.skip ?_
      exact ⟨(), h, rfl⟩
    ·replace h := of_false h hb
     refine AWp.keepTo [0, 1, 2, 3, 9] 0 ⟨[(0, q0 v1), (1, .tv (fzL 1 (cSl 1 cStr) v2)), (2, .rp [k2 v3.f0, k2 v3.f1]), (3, tI v4), (9, tI v5)], []⟩ ?_ z0 ?_
     ·kernel_rfl
     refine AWp.skip ?_
     exact ⟨(), h, rfl⟩
   ·rintro ⟨⟩ h
    refine AWp.start [0, 1, 2] [] [] [0, 1, 2, 3, 9] 0 ⟨[(0, q0 v1), (1, .tv (fzL 1 (cSl 1 cStr) v2)), (2, .rp [k2 v3.f0, k2 v3.f1]), (3, tI v4), (9, tI (w64 (v5 + (1 : Int))))], []⟩ rfl ?_ z0 trivial ?_
    ·kernel_rfl
    refine AOps.nil ?_
    cases h
    exact Or.inl ⟨_, rfl, rfl, rfl⟩
  ·replace h := of_false h hb
   refine AWp.keepTo [0, 2, 3] 0 ⟨[(0, q0 v1), (2, .rp [k2 v3.f0, k2 v3.f1]), (3, tI v4)], []⟩ ?_ z0 ?_
   ·kernel_rfl
   refine AWp.exit ?_
   cases h
   exact Or.inr ⟨_, rfl, by simp, rfl, rfl⟩
 ·intro e σ hp
  rcases y with v7 | _
  ·obtain ⟨rfl, rfl⟩ := hp
   cases h
   exact ⟨.inr rfl, rfl⟩
  ·obtain ⟨rfl, rfl⟩ := hp
   refine AWp.seq ?_
   refine AWp.start [0] [] [] [0, 2, 3, 11] 0 ⟨[(0, q0 v1), (2, .rp [k2 v3.f0, k2 v3.f1]), (3, tI v4), (11, tI (1099511627776 : Int))], []⟩ rfl ?_ z0 trivial ?_
   ·kernel_rfl
   refine AOps.nil ?_
   refine AWp.seq ?_
   refine AWp.seq ?_
   refine AWp.start [0] [] [] [0, 2, 3, 11, 12] 0 ⟨[(0, q0 v1), (2, .rp [k2 v3.f0, k2 v3.f1]), (3, tI v4), (11, tI (1099511627776 : Int)), (12, tI (0 : Int))], []⟩ rfl ?_ z0 trivial ?_
   ·kernel_rfl
   refine AOps.nil ?_
   refine AWp.block ?_
   obtain ⟨y, hy, h⟩ := of_bind h
   refine AWp.mono (AWp.loop (S := Int × Int) (Y := Out Int Int) (fun s => ⟨[(0, q0 v1), (2, .rp [k2 v3.f0, k2 v3.f1]), (3, tI v4), (11, tI s.1), (12, tI s.2)], []⟩) (fun s => f52_b4 v1 v3 v4 s.1 s.2) (fun y e σ => match y with | .ret r => e = .ret ∧ σ = ⟨[(8, tI r)], []⟩ | .go v => e = .exit 2 ∧ σ = ⟨[(11, tI v)], []⟩) ?_ hy) ?_
   ·rintro ⟨v8, v9⟩ o h
    refine AWp.seq ?_
    refine AWp.seq ?_
    refine AWp.start [0, 1, 2, 3] [] [] [0, 2, 3, 11, 12, 52] 0 ⟨[(0, q0 v1), (2, .rp [k2 v3.f0, k2 v3.f1]), (3, tI v4), (11, tI v8), (12, tI v9), (52, tB (decide (v9 < (v1.length : Int))))], []⟩ rfl ?_ z0 trivial ?_
    ·kernel_rfl
    refine AOps.nil ?_
    refine AWp.cond rfl (fun hb => ?_) fun hb => ?_
    ·replace h := of_true h hb
     refine AWp.keepTo [0, 2, 3, 11, 12] 0 ⟨[(0, q0 v1), (2, .rp [k2 v3.f0, k2 v3.f1]), (3, tI v4), (11, tI v8), (12, tI v9)], []⟩ ?_ z0 ?_
     ·kernel_rfl
     refine AWp.skip ?_
     refine AWp.join (V := Int) (fun w => ⟨[(0, q0 v1), (2, .rp [k2 v3.f0, k2 v3.f1]), (3, tI v4), (11, tI w), (12, tI v9)], []⟩) (fun w => f52_j3 v9 w = some o) ?_ ?_
     ·refine AWp.block ?_
      refine AWp.seq ?_
      obtain ⟨hg, h⟩ := of_guard h
      refine AWp.start [0, 1, 2, 3, 4, 5, 6, 7, 8] [] [(0 : Int) ≤ v9, v9 < (v3.f0.length : Int)] [0, 2, 3, 11, 12, 63] 0 ⟨[(0, q0 v1), (2, .rp [k2 v3.f0, k2 v3.f1]), (3, tI v4), (11, tI v8), (12, tI v9), (63, tB (gD v3.f0 v9 == v4))], []⟩ rfl ?_ z0 ⟨hg.1, hg.2⟩ ?_
      ·kernel_rfl
      refine AOps.nil ?_
      refine AWp.cond rfl (fun hb => ?_) fun hb => ?_
      ·replace h := of_true h hb
       refine AWp.keepTo [0, 2, 3, 11, 12] 0 ⟨[(0, q0 v1), (2, .rp [k2 v3.f0, k2 v3.f1]), (3, tI v4), (11, tI v8), (12, tI v9)], []⟩ ?_ z0 ?_
       ·kernel_rfl
       obtain ⟨hg, h⟩ := of_guard h
       refine AWp.start [0, 1, 2, 3, 4, 5, 6, 7, 8, 9] [] [(0 : Int) ≤ v9, v9 < (v3.f1.length : Int)] [0, 2, 3, 11, 12] 0 ⟨[(0, q0 v1), (2, .rp [k2 v3.f0, k2 v3.f1]), (3, tI v4), (11, tI (if gD v3.f1 v9 < v8 then gD v3.f1 v9 else v8)), (12, tI v9)], []⟩ rfl ?_ z0 ⟨hg.1, hg.2⟩ ?_
       ·kernel_rfl
       refine AOps.nil ?_
       exact ⟨(if gD v3.f1 v9 < v8 then gD v3.f1 v9 else v8), h, rfl⟩
      ·replace h := of_false h hb
       refine AWp.keepTo [0, 2, 3, 11, 12] 0 ⟨[(0, q0 v1), (2, .rp [k2 v3.f0, k2 v3.f1]), (3, tI v4), (11, tI v8), (12, tI v9)], []⟩ ?_ z0 ?_
       ·kernel_rfl
       refine AWp.skip ?_
       exact ⟨v8, h, rfl⟩
     ·rintro v11 h
      refine AWp.start [0, 1, 2] [] [] [0, 2, 3, 11, 12] 0 ⟨[(0, q0 v1), (2, .rp [k2 v3.f0, k2 v3.f1]), (3, tI v4), (11, tI v11), (12, tI (w64 (v9 + (1 : Int))))], []⟩ rfl ?_ z0 trivial ?_
      ·kernel_rfl
      refine AOps.nil ?_
      cases h
      exact Or.inl ⟨_, rfl, rfl, rfl⟩
    ·replace h := of_false h hb
     refine AWp.keepTo [11] 0 ⟨[(11, tI v8)], []⟩ ?_ z0 ?_
     ·kernel_rfl
     refine AWp.exit ?_
     cases h
     exact Or.inr ⟨_, rfl, by simp, rfl, rfl⟩
   ·intro e σ hp
    rcases y with v12 | v10
    ·obtain ⟨rfl, rfl⟩ := hp
     cases h
     exact ⟨.inr rfl, rfl⟩
    ·obtain ⟨rfl, rfl⟩ := hp
     refine AWp.seq ?_
     refine AWp.start [0, 1] [] [] [8] 0 ⟨[(8, tI v10)], []⟩ rfl ?_ z0 trivial ?_
     ·kernel_rfl
     refine AOps.nil ?_
     refine AWp.ret ?_
     cases h
     exact ⟨.inr rfl, rfl⟩

noncomputable def f40o_j1 (v4 : List Int) (v7 : Int) (v11 : List Int) (v12 : List Int) (v13 : Int) : Option (((List Int) × (List Int) × (List Int) × Int) ⊕ Out ((List Int) × (List Int) × (List Int) × (List UInt8) × Int) ((List Int) × (List Int))) :=
 if (v4.length + [v13].length) * 8 ≤ 140737488355328 then some (.inl (v4 ++ [v13], v11, v12, w64 (v7 + (1 : Int)))) else none

noncomputable def f40o_b2 (v1 : List T36) (v3 : T84) (v4 : List Int) (v5 : List Int) (v6 : List Int) (v7 : Int) : Option (((List Int) × (List Int) × (List Int) × Int) ⊕ Out ((List Int) × (List Int) × (List Int) × (List UInt8) × Int) ((List Int) × (List Int))) :=
 cond (decide (v7 < (v1.length : Int))) (if (0 : Int) ≤ v7 ∧ v7 < (v3.f0.length : Int) then (f51 v6 (v3.f0.getD v7.toNat default)).bind fun v10 => cond (decide (v10 < (0 : Int))) (if (0 : Int) ≤ v7 ∧ v7 < (v3.f0.length : Int) then if (v6.length + [v3.f0.getD v7.toNat default].length) * 8 ≤ 140737488355328 then if (v5.length + [(0 : Int)].length) * 8 ≤ 140737488355328 then f40o_j1 v4 v7 (v5 ++ [(0 : Int)]) (v6 ++ [v3.f0.getD v7.toNat default]) (v6.length : Int) else none else none else none) (f40o_j1 v4 v7 v5 v6 v10) else none) (some (.inr (.go (v4, v5))))

noncomputable def f40o_b3 (v1 : List T36) (v2 : List (List (List UInt8))) (v3 : T84) (v8 : List Int) (v15 : List Int) (v16 : List Int) (v17 : Int) : Option (((List Int) × (List Int) × Int) ⊕ Out ((List Int) × (List Int) × (List Int) × (List UInt8) × Int) ((List Int) × (List Int))) :=
 cond (decide (v17 < (v1.length : Int))) (if (0 : Int) ≤ v17 ∧ v17 < (v3.f0.length : Int) then if (0 : Int) ≤ v17 ∧ v17 < (v3.f1.length : Int) then (f52 v1 v2 v3 (v3.f0.getD v17.toNat default)).bind fun v20 => if (v15.length + [w64 ((v3.f1.getD v17.toNat default) - v20)].length) * 8 ≤ 140737488355328 then if (0 : Int) ≤ v17 ∧ v17 < (v8.length : Int) ∧ (0 : Int) ≤ v17 ∧ v17 < (v8.length : Int) ∧ (0 : Int) ≤ v17 ∧ v17 < ((v15 ++ [w64 ((v3.f1.getD v17.toNat default) - v20)]).length : Int) ∧ (0 : Int) ≤ v17 ∧ v17 < (v1.length : Int) ∧ (0 : Int) ≤ v17 ∧ v17 < (v1.length : Int) then if (0 : Int) ≤ v8.getD v17.toNat default ∧ v8.getD v17.toNat default < (v16.length : Int) then if (0 : Int) ≤ v8.getD v17.toNat default ∧ v8.getD v17.toNat default < (v16.length : Int) then if (0 : Int) ≤ v17 ∧ v17 < ((v15 ++ [w64 ((v3.f1.getD v17.toNat default) - v20)]).length : Int) then cond (decide ((v15 ++ [w64 ((v3.f1.getD v17.toNat default) - v20)]).getD v17.toNat default < (0 : Int))) (if (0 : Int) ≤ v17 ∧ v17 < (v1.length : Int) then some (.inr (.ret (([] : List Int), ([] : List Int), ([] : List Int), (v1.getD v17.toNat default).f0, (10 : Int)))) else none) (some (.inl (v15 ++ [w64 ((v3.f1.getD v17.toNat default) - v20)], v16.set (Int.toNat (v8.getD v17.toNat default)) (if w64 (((v15 ++ [w64 ((v3.f1.getD v17.toNat default) - v20)]).getD v17.toNat default) + (w64 (((v1.getD v17.toNat default).f1) * ((v1.getD v17.toNat default).f2)))) > v16.getD (Int.toNat (v8.getD v17.toNat default)) default then w64 (((v15 ++ [w64 ((v3.f1.getD v17.toNat default) - v20)]).getD v17.toNat default) + (w64 (((v1.getD v17.toNat default).f1) * ((v1.getD v17.toNat default).f2)))) else v16.getD (Int.toNat (v8.getD v17.toNat default)) default), w64 (v17 + (1 : Int))))) else none else none else none else none else none else none else none) (some (.inr (.go (v15, v16))))

noncomputable def f40o (v1 : List T36) (v2 : List (List (List UInt8))) (v3 : T84) : Option ((List Int) × (List Int) × (List Int) × (List UInt8) × Int) :=
 (iter (fun s => f40o_b2 v1 v3 s.1 s.2.1 s.2.2.1 s.2.2.2) ([], [], [], (0 : Int))).bind fun y => match y with | .ret v14 => some v14 | .go (v8, v9) => (iter (fun s => f40o_b3 v1 v2 v3 v8 s.1 s.2.1 s.2.2) ([], v9, (0 : Int))).bind fun y => match y with | .ret v21 => some v21 | .go (v18, v19) => some (v8, v18, v19, ([] : List UInt8), (0 : Int))

theorem f40o_ok (v1 : List T36) (v2 : List (List (List UInt8))) (v3 : T84) {r : (List Int) × (List Int) × (List Int) × (List UInt8) × Int} (h : f40o v1 v2 v3 = some r) : ACall Try.prog 40 [.tv (fzL 3 c36 v1), .tv (fzL 1 (cSl 1 cStr) v2), .pc 0 0] [.cells 85 [ownL 1 3 (cInt .i64) v3.f0, ownL 1 3 (cInt .i64) v3.f1]] (.tup [.tv (fzL 1 (cInt .i64) r.1), .tv (fzL 1 (cInt .i64) r.2.1), .tv (fzL 1 (cInt .i64) r.2.2.1), .tv (.str r.2.2.2.1), .tv (.int .i64 r.2.2.2.2)]) [.cells 85 [ownL 1 3 (cInt .i64) v3.f0, ownL 1 3 (cInt .i64) v3.f1]] := by
 refine ACall.ofN (FF 122 1) (rs := [6, 7, 8, 9, 10]) (env := [(6, q2 r.1), (7, q2 r.2.1), (8, q2 r.2.2.1), (9, tS r.2.2.2.1), (10, tI r.2.2.2.2)]) Try.func40 rfl Try.ntmps40 Try.results40 (by decide) (by decide) rfl (Nat.le_of_ble_eq_true rfl) rfl (get_ofN _ _ _ rfl) (ok_ofN _ rfl) ?_
 refine AWp.seq ?_
 refine AWp.start [0, 1, 2, 3, 4] [] [] [0, 1, 2, 6, 7, 8] 1 ⟨[(0, q0 v1), (1, .tv (fzL 1 (cSl 1 cStr) v2)), (2, .pc 0 0), (6, .tv (.sc (.slice none 0 0))), (7, .tv (.sc (.slice none 0 0))), (8, .tv (.sc (.slice none 0 0)))], [.cells 85 [k0 v3.f0, k0 v3.f1]]⟩ rfl ?_ (Nat.le_of_ble_eq_true rfl) trivial ?_
 ·kernel_rfl
 refine AOps.nil ?_
 refine AWp.seq ?_
 refine AWp.start [0] [] [] [0, 1, 2, 6, 7, 8, 11] 1 ⟨[(0, q0 v1), (1, .tv (fzL 1 (cSl 1 cStr) v2)), (2, .pc 0 0), (6, .tv (.sc (.slice none 0 0))), (7, .tv (.sc (.slice none 0 0))), (8, .tv (.sc (.slice none 0 0))), (11, .tv (.sc (.slice none 0 0)))], [.cells 85 [k0 v3.f0, k0 v3.f1]]⟩ rfl ?_ (Nat.le_of_ble_eq_true rfl) trivial ?_
 ·kernel_rfl
 refine AOps.nil ?_
 refine AWp.seq ?_
 refine AWp.seq ?_
 refine AWp.start [0] [] [] [0, 1, 2, 6, 7, 8, 11, 12] 1 ⟨[(0, q0 v1), (1, .tv (fzL 1 (cSl 1 cStr) v2)), (2, .pc 0 0), (6, .tv (.sc (.slice none 0 0))), (7, .tv (.sc (.slice none 0 0))), (8, .tv (.sc (.slice none 0 0))), (11, .tv (.sc (.slice none 0 0))), (12, tI (0 : Int))], [.cells 85 [k0 v3.f0, k0 v3.f1]]⟩ rfl ?_ (Nat.le_of_ble_eq_true rfl) trivial ?_
 ·kernel_rfl
 refine AOps.nil ?_
 refine AWp.block ?_
 refine AWp.nilOwn 6 1 3 (fun i => (cInt .i64) (([] : List Int).getD i default)) rfl ?_
 refine AWp.nilOwn 8 1 3 (fun i => (cInt .i64) (([] : List Int).getD i default)) rfl ?_
 refine AWp.nilOwn 11 1 3 (fun i => (cInt .i64) (([] : List Int).getD i default)) rfl ?_
 refine AWp.keepTo [0, 1, 2, 6, 7, 8, 11, 12] 1 ⟨[(0, q0 v1), (1, .tv (fzL 1 (cSl 1 cStr) v2)), (2, .pc 0 0), (6, q1 ([] : List Int)), (7, .tv (.sc (.slice none 0 0))), (8, q1 ([] : List Int)), (11, q1 ([] : List Int)), (12, tI (0 : Int))], [.cells 85 [k0 v3.f0, k0 v3.f1]]⟩ ?_ (Nat.le_of_ble_eq_true rfl) ?_
 ·kernel_rfl
 obtain ⟨y, hy, h⟩ := of_bind h
 refine AWp.mono (AWp.loop (S := (List Int) × (List Int) × (List Int) × Int) (Y := Out ((List Int) × (List Int) × (List Int) × (List UInt8) × Int) ((List Int) × (List Int))) (fun s => ⟨[(0, q0 v1), (1, .tv (fzL 1 (cSl 1 cStr) v2)), (2, .pc 0 0), (6, q1 s.1), (7, .tv (.sc (.slice none 0 0))), (8, q1 s.2.1), (11, q1 s.2.2.1), (12, tI s.2.2.2)], [.cells 85 [k0 v3.f0, k0 v3.f1]]⟩) (fun s => f40o_b2 v1 v3 s.1 s.2.1 s.2.2.1 s.2.2.2) (fun y e σ => match y with | .ret r => e = .ret ∧ σ = ⟨[(6, q2 r.1), (7, q2 r.2.1), (8, q2 r.2.2.1), (9, tS r.2.2.2.1), (10, tI r.2.2.2.2)], [.cells 85 [k0 v3.f0, k0 v3.f1]]⟩ | .go v => e = .exit 0 ∧ σ = ⟨[(0, q0 v1), (1, .tv (fzL 1 (cSl 1 cStr) v2)), (2, .pc 0 0), (6, q1 v.1), (7, .tv (.sc (.slice none 0 0))), (8, q1 v.2)], [.cells 85 [k0 v3.f0, k0 v3.f1]]⟩) ?_ hy) ?_
 ·rintro ⟨v4, v5, v6, v7⟩ o h
  refine AWp.seq ?_
  refine AWp.seq ?_
  refine AWp.start [0, 1, 2, 3] [] [] [0, 1, 2, 6, 7, 8, 11, 12, 18] 1 ⟨[(0, q0 v1), (1, .tv (fzL 1 (cSl 1 cStr) v2)), (2, .pc 0 0), (6, q1 v4), (7, .tv (.sc (.slice none 0 0))), (8, q1 v5), (11, q1 v6), (12, tI v7), (18, tB (decide (v7 < (v1.length : Int))))], [.cells 85 [k0 v3.f0, k0 v3.f1]]⟩ rfl ?_ (Nat.le_of_ble_eq_true rfl) trivial ?_
  ·kernel_rfl
  refine AOps.nil ?_
  refine AWp.cond rfl (fun hb => ?_) fun hb => ?_
  ·replace h := of_true h hb
   refine AWp.keepTo [0, 1, 2, 6, 7, 8, 11, 12] 1 ⟨[(0, q0 v1), (1, .tv (fzL 1 (cSl 1 cStr) v2)), (2, .pc 0 0), (6, q1 v4), (7, .tv (.sc (.slice none 0 0))), (8, q1 v5), (11, q1 v6), (12, tI v7)], [.cells 85 [k0 v3.f0, k0 v3.f1]]⟩ ?_ (Nat.le_of_ble_eq_true rfl) ?_
   ·kernel_rfl
   refine AWp.skip ?_
   refine AWp.seq ?_
   refine AWp.block ?_
   refine AWp.seq ?_
   obtain ⟨hg, h⟩ := of_guard h
   refine AWp.start [0, 1, 2, 3, 4, 5, 6, 7] [8, 9] [(0 : Int) ≤ v7, v7 < (v3.f0.length : Int)] [0, 1, 2, 6, 7, 8, 11, 12, 21, 28] 1 ⟨[(0, q0 v1), (1, .tv (fzL 1 (cSl 1 cStr) v2)), (2, .pc 0 0), (6, q1 v4), (7, .tv (.sc (.slice none 0 0))), (8, q1 v5), (11, q1 v6), (12, tI v7), (21, .al (.slot 11 0, [])), (28, tI (gD v3.f0 v7))], [.cells 85 [k0 v3.f0, k0 v3.f1]]⟩ rfl ?_ (Nat.le_of_ble_eq_true rfl) ⟨hg.1, hg.2⟩ ?_
   ·kernel_rfl
   obtain ⟨v10, hv10, h⟩ := of_bind h
   refine AOps.cons (AOne.callR (F := (FF 122 1)) _ rfl rfl rfl _ rfl rfl _ _ rfl Try.call51 [PlainTo v6.length (fun i => (cInt .i64) (v6.getD i default))] [q2 v6, tI (gD v3.f0 v7)] rfl (fun _ _ => rfl) (f51_ok v6 (gD v3.f0 v7) hv10) (ind_of rfl) rfl) ?_
   refine AOps.go [9] [] [] [0, 1, 2, 6, 7, 8, 11, 12, 13] 1 ⟨[(0, q0 v1), (1, .tv (fzL 1 (cSl 1 cStr) v2)), (2, .pc 0 0), (6, q1 v4), (7, .tv (.sc (.slice none 0 0))), (8, q1 v5), (11, q1 v6), (12, tI v7), (13, tI v10)], [.cells 85 [k0 v3.f0, k0 v3.f1]]⟩ ?_ (Nat.le_of_ble_eq_true rfl) trivial ?_
   ·kernel_rfl
   refine AOps.nil ?_
   refine AWp.join (V := (List Int) × (List Int) × Int) (fun w => ⟨[(0, q0 v1), (1, .tv (fzL 1 (cSl 1 cStr) v2)), (2, .pc 0 0), (6, q1 v4), (7, .tv (.sc (.slice none 0 0))), (8, q1 w.1), (11, q1 w.2.1), (12, tI v7), (13, tI w.2.2)], [.cells 85 [k0 v3.f0, k0 v3.f1]]⟩) (fun w => f40o_j1 v4 v7 w.1 w.2.1 w.2.2 = some o) ?_ ?_
   ·refine AWp.seq ?_
    refine AWp.start [0, 1] [] [] [0, 1, 2, 6, 7, 8, 11, 12, 13, 31] 1 ⟨[(0, q0 v1), (1, .tv (fzL 1 (cSl 1 cStr) v2)), (2, .pc 0 0), (6, q1 v4), (7, .tv (.sc (.slice none 0 0))), (8, q1 v5), (11, q1 v6), (12, tI v7), (13, tI v10), (31, tB (decide (v10 < (0 : Int))))], [.cells 85 [k0 v3.f0, k0 v3.f1]]⟩ rfl ?_ (Nat.le_of_ble_eq_true rfl) trivial ?_
    ·kernel_rfl
    refine AOps.nil ?_
    refine AWp.cond rfl (fun hb => ?_) fun hb => ?_
    ·replace h := of_true h hb
     refine AWp.keepTo [0, 1, 2, 6, 7, 8, 11, 12] 1 ⟨[(0, q0 v1), (1, .tv (fzL 1 (cSl 1 cStr) v2)), (2, .pc 0 0), (6, q1 v4), (7, .tv (.sc (.slice none 0 0))), (8, q1 v5), (11, q1 v6), (12, tI v7)], [.cells 85 [k0 v3.f0, k0 v3.f1]]⟩ ?_ (Nat.le_of_ble_eq_true rfl) ?_
     ·kernel_rfl
     refine AWp.seq ?_
     refine AWp.start [0, 1, 2] [] [] [0, 1, 2, 6, 7, 8, 11, 12, 13] 1 ⟨[(0, q0 v1), (1, .tv (fzL 1 (cSl 1 cStr) v2)), (2, .pc 0 0), (6, q1 v4), (7, .tv (.sc (.slice none 0 0))), (8, q1 v5), (11, q1 v6), (12, tI v7), (13, tI (v6.length : Int))], [.cells 85 [k0 v3.f0, k0 v3.f1]]⟩ rfl ?_ (Nat.le_of_ble_eq_true rfl) trivial ?_
     ·kernel_rfl
     refine AOps.nil ?_
     refine AWp.seq ?_
     obtain ⟨hg, h⟩ := of_guard h
     refine AWp.start [0, 1, 2, 3, 4, 5, 6, 7, 8] [9, 10] [(0 : Int) ≤ v7, v7 < (v3.f0.length : Int)] [0, 1, 2, 6, 7, 8, 11, 12, 13, 34, 42] 1 ⟨[(0, q0 v1), (1, .tv (fzL 1 (cSl 1 cStr) v2)), (2, .pc 0 0), (6, q1 v4), (7, .tv (.sc (.slice none 0 0))), (8, q1 v5), (11, q1 v6), (12, tI v7), (13, tI (v6.length : Int)), (34, .al (.slot 11 0, [])), (42, .tv (.own 1 3 1 (newRowF [.int .i64 (gD v3.f0 v7)] 1)))], [.cells 85 [k0 v3.f0, k0 v3.f1]]⟩ rfl ?_ (Nat.le_of_ble_eq_true rfl) ⟨hg.1, hg.2⟩ ?_
     ·kernel_rfl
     refine AOps.extL 42 (cInt .i64) [gD v3.f0 v7] rfl rfl (row_at (cInt .i64) 1 (fun _ => rfl) [gD v3.f0 v7] _ rfl) ?_
     obtain ⟨hg, h⟩ := of_guard h
     refine AOps.go [9] [10] [(v6.length + [gD v3.f0 v7].length) * 8 ≤ 140737488355328, PlainTo v6.length (fun i => (cInt .i64) (v6.getD i default)), PlainTo ([gD v3.f0 v7].length) (fun i => (cInt .i64) ([gD v3.f0 v7].getD i default))] [0, 1, 2, 6, 7, 8, 12, 13, 43] 1 ⟨[(0, q0 v1), (1, .tv (fzL 1 (cSl 1 cStr) v2)), (2, .pc 0 0), (6, q1 v4), (7, .tv (.sc (.slice none 0 0))), (8, q1 v5), (12, tI v7), (13, tI (v6.length : Int)), (43, .tv (.own 1 3 (v6.length + [gD v3.f0 v7].length) (appF v6.length (fun i => (cInt .i64) (v6.getD i default)) (fun i => (cInt .i64) ([gD v3.f0 v7].getD i default)))))], [.cells 85 [k0 v3.f0, k0 v3.f1]]⟩ ?_ (Nat.le_of_ble_eq_true rfl) ⟨hg, (fun _ _ => rfl), (fun _ _ => rfl)⟩ ?_
     ·kernel_rfl
     refine AOps.extL 43 (cInt .i64) (v6 ++ [gD v3.f0 v7]) rfl List.length_append.symm (app_at (cInt .i64) v6 [gD v3.f0 v7]) ?_
     refine AOps.go [10] [] [] [0, 1, 2, 6, 7, 8, 11, 12, 13] 1 ⟨[(0, q0 v1), (1, .tv (fzL 1 (cSl 1 cStr) v2)), (2, .pc 0 0), (6, q1 v4), (7, .tv (.sc (.slice none 0 0))), (8, q1 v5), (11, q1 (v6 ++ [gD v3.f0 v7])), (12, tI v7), (13, tI (v6.length : Int))], [.cells 85 [k0 v3.f0, k0 v3.f1]]⟩ ?_ (Nat.le_of_ble_eq_true rfl) trivial ?_
     ·kernel_rfl
     refine AOps.nil ?_
     refine AWp.start [0, 1] [2, 3] [] [0, 1, 2, 6, 7, 8, 11, 12, 13, 44, 45] 1 ⟨[(0, q0 v1), (1, .tv (fzL 1 (cSl 1 cStr) v2)), (2, .pc 0 0), (6, q1 v4), (7, .tv (.sc (.slice none 0 0))), (8, q1 v5), (11, q1 (v6 ++ [gD v3.f0 v7])), (12, tI v7), (13, tI (v6.length : Int)), (44, .al (.slot 8 0, [])), (45, .tv (.own 1 3 1 (newRowF [.int .i64 (0 : Int)] 1)))], [.cells 85 [k0 v3.f0, k0 v3.f1]]⟩ rfl ?_ (Nat.le_of_ble_eq_true rfl) trivial ?_
     ·kernel_rfl
     refine AOps.extL 45 (cInt .i64) [(0 : Int)] rfl rfl (row_at (cInt .i64) 1 (fun _ => rfl) [(0 : Int)] _ rfl) ?_
     obtain ⟨hg, h⟩ := of_guard h
     refine AOps.go [2] [3] [(v5.length + [(0 : Int)].length) * 8 ≤ 140737488355328, PlainTo v5.length (fun i => (cInt .i64) (v5.getD i default)), PlainTo ([(0 : Int)].length) (fun i => (cInt .i64) ([(0 : Int)].getD i default))] [0, 1, 2, 6, 7, 11, 12, 13, 46] 1 ⟨[(0, q0 v1), (1, .tv (fzL 1 (cSl 1 cStr) v2)), (2, .pc 0 0), (6, q1 v4), (7, .tv (.sc (.slice none 0 0))), (11, q1 (v6 ++ [gD v3.f0 v7])), (12, tI v7), (13, tI (v6.length : Int)), (46, .tv (.own 1 3 (v5.length + [(0 : Int)].length) (appF v5.length (fun i => (cInt .i64) (v5.getD i default)) (fun i => (cInt .i64) ([(0 : Int)].getD i default)))))], [.cells 85 [k0 v3.f0, k0 v3.f1]]⟩ ?_ (Nat.le_of_ble_eq_true rfl) ⟨hg, (fun _ _ => rfl), (fun _ _ => rfl)⟩ ?_
     ·kernel_rfl
     refine AOps.extL 46 (cInt .i64) (v5 ++ [(0 : Int)]) rfl List.length_append.symm (app_at (cInt .i64) v5 [(0 : Int)]) ?_
     refine AOps.go [3] [] [] [0, 1, 2, 6, 7, 8, 11, 12, 13] 1 ⟨[(0, q0 v1), (1, .tv (fzL 1 (cSl 1 cStr) v2)), (2, .pc 0 0), (6, q1 v4), (7, .tv (.sc (.slice none 0 0))), (8, q1 (v5 ++ [(0 : Int)])), (11, q1 (v6 ++ [gD v3.f0 v7])), (12, tI v7), (13, tI (v6.length : Int))], [.cells 85 [k0 v3.f0, k0 v3.f1]]⟩ ?_ (Nat.le_of_ble_eq_true rfl) trivial ?_
     ·kernel_rfl
     refine AOps.nil ?_
     exact ⟨(v5 ++ [(0 : Int)], v6 ++ [gD v3.f0 v7], (v6.length : Int)), h, rfl⟩
    ·replace h := of_false h hb
     refine AWp.keepTo [0, 1, 2, 6, 7, 8, 11, 12, 13] 1 ⟨[(0, q0 v1), (1, .tv (fzL 1 (cSl 1 cStr) v2)), (2, .pc 0 0), (6, q1 v4), (7, .tv (.sc (.slice none 0 0))), (8, q1 v5), (11, q1 v6), (12, tI v7), (13, tI v10)], [.cells 85 [k0 v3.f0, k0 v3.f1]]⟩ ?_ (Nat.le_of_ble_eq_true rfl) ?_
     ·kernel_rfl
     refine AWp.skip ?_
     exact ⟨(v5, v6, v10), h, rfl⟩
   ·rintro ⟨v11, v12, v13⟩ h
    refine AWp.start [0, 1, 2] [3, 4] [] [0, 1, 2, 6, 7, 8, 11, 12, 47, 49] 1 ⟨[(0, q0 v1), (1, .tv (fzL 1 (cSl 1 cStr) v2)), (2, .pc 0 0), (6, q1 v4), (7, .tv (.sc (.slice none 0 0))), (8, q1 v11), (11, q1 v12), (12, tI v7), (47, .al (.slot 6 0, [])), (49, .tv (.own 1 3 1 (newRowF [.int .i64 v13] 1)))], [.cells 85 [k0 v3.f0, k0 v3.f1]]⟩ rfl ?_ (Nat.le_of_ble_eq_true rfl) trivial ?_
    ·kernel_rfl
    refine AOps.extL 49 (cInt .i64) [v13] rfl rfl (row_at (cInt .i64) 1 (fun _ => rfl) [v13] _ rfl) ?_
    obtain ⟨hg, h⟩ := of_guard h
    refine AOps.go [3] [4] [(v4.length + [v13].length) * 8 ≤ 140737488355328, PlainTo v4.length (fun i => (cInt .i64) (v4.getD i default)), PlainTo ([v13].length) (fun i => (cInt .i64) ([v13].getD i default))] [0, 1, 2, 7, 8, 11, 12, 50] 1 ⟨[(0, q0 v1), (1, .tv (fzL 1 (cSl 1 cStr) v2)), (2, .pc 0 0), (7, .tv (.sc (.slice none 0 0))), (8, q1 v11), (11, q1 v12), (12, tI v7), (50, .tv (.own 1 3 (v4.length + [v13].length) (appF v4.length (fun i => (cInt .i64) (v4.getD i default)) (fun i => (cInt .i64) ([v13].getD i default)))))], [.cells 85 [k0 v3.f0, k0 v3.f1]]⟩ ?_ (Nat.le_of_ble_eq_true rfl) ⟨hg, (fun _ _ => rfl), (fun _ _ => rfl)⟩ ?_
    ·kernel_rfl
    refine AOps.extL 50 (cInt .i64) (v4 ++ [v13]) rfl List.length_append.symm (app_at (cInt .i64) v4 [v13]) ?_
    refine AOps.go [4] [] [] [0, 1, 2, 6, 7, 8, 11, 12] 1 ⟨[(0, q0 v1), (1, .tv (fzL 1 (cSl 1 cStr) v2)), (2, .pc 0 0), (6, q1 (v4 ++ [v13])), (7, .tv (.sc (.slice none 0 0))), (8, q1 v11), (11, q1 v12), (12, tI v7)], [.cells 85 [k0 v3.f0, k0 v3.f1]]⟩ ?_ (Nat.le_of_ble_eq_true rfl) trivial ?_
    ·kernel_rfl
    refine AOps.nil ?_
    refine AWp.start [0, 1, 2] [] [] [0, 1, 2, 6, 7, 8, 11, 12] 1 ⟨[(0, q0 v1), (1, .tv (fzL 1 (cSl 1 cStr) v2)), (2, .pc 0 0), (6, q1 (v4 ++ [v13])), (7, .tv (.sc (.slice none 0 0))), (8, q1 v11), (11, q1 v12), (12, tI (w64 (v7 + (1 : Int))))], [.cells 85 [k0 v3.f0, k0 v3.f1]]⟩ rfl ?_ (Nat.le_of_ble_eq_true rfl) trivial ?_
    ·kernel_rfl
    refine AOps.nil ?_
    cases h
    exact Or.inl ⟨_, rfl, rfl, rfl⟩
  ·replace h := of_false h hb
   refine AWp.keepTo [0, 1, 2, 6, 7, 8] 1 ⟨[(0, q0 v1), (1, .tv (fzL 1 (cSl 1 cStr) v2)), (2, .pc 0 0), (6, q1 v4), (7, .tv (.sc (.slice none 0 0))), (8, q1 v5)], [.cells 85 [k0 v3.f0, k0 v3.f1]]⟩ ?_ (Nat.le_of_ble_eq_true rfl) ?_
   ·kernel_rfl
   refine AWp.exit ?_
   cases h
   exact Or.inr ⟨_, rfl, by simp, rfl, rfl⟩
 ·intro e σ hp
  rcases y with v14 | ⟨v8, v9⟩
  ·obtain ⟨rfl, rfl⟩ := hp
   cases h
   exact ⟨.inr rfl, rfl⟩
  ·obtain ⟨rfl, rfl⟩ := hp
   refine AWp.seq ?_
   refine AWp.seq ?_
   refine AWp.start [0] [] [] [0, 1, 2, 6, 7, 8, 14] 1 ⟨[(0, q0 v1), (1, .tv (fzL 1 (cSl 1 cStr) v2)), (2, .pc 0 0), (6, q1 v8), (7, .tv (.sc (.slice none 0 0))), (8, q1 v9), (14, tI (0 : Int))], [.cells 85 [k0 v3.f0, k0 v3.f1]]⟩ rfl ?_ (Nat.le_of_ble_eq_true rfl) trivial ?_
   ·kernel_rfl
   refine AOps.nil ?_
   refine AWp.block ?_
   refine AWp.nilOwn 7 1 3 (fun i => (cInt .i64) (([] : List Int).getD i default)) rfl ?_
   refine AWp.keepTo [0, 1, 2, 6, 7, 8, 14] 1 ⟨[(0, q0 v1), (1, .tv (fzL 1 (cSl 1 cStr) v2)), (2, .pc 0 0), (6, q1 v8), (7, q1 ([] : List Int)), (8, q1 v9), (14, tI (0 : Int))], [.cells 85 [k0 v3.f0, k0 v3.f1]]⟩ ?_ (Nat.le_of_ble_eq_true rfl) ?_
   ·kernel_rfl
   obtain ⟨y, hy, h⟩ := of_bind h
   refine AWp.mono (AWp.loop (S := (List Int) × (List Int) × Int) (Y := Out ((List Int) × (List Int) × (List Int) × (List UInt8) × Int) ((List Int) × (List Int))) (fun s => ⟨[(0, q0 v1), (1, .tv (fzL 1 (cSl 1 cStr) v2)), (2, .pc 0 0), (6, q1 v8), (7, q1 s.1), (8, q1 s.2.1), (14, tI s.2.2)], [.cells 85 [k0 v3.f0, k0 v3.f1]]⟩) (fun s => f40o_b3 v1 v2 v3 v8 s.1 s.2.1 s.2.2) (fun y e σ => match y with | .ret r => e = .ret ∧ σ = ⟨[(6, q2 r.1), (7, q2 r.2.1), (8, q2 r.2.2.1), (9, tS r.2.2.2.1), (10, tI r.2.2.2.2)], [.cells 85 [k0 v3.f0, k0 v3.f1]]⟩ | .go v => e = .exit 2 ∧ σ = ⟨[(6, q1 v8), (7, q1 v.1), (8, q1 v.2)], [.cells 85 [k0 v3.f0, k0 v3.f1]]⟩) ?_ hy) ?_
   ·rintro ⟨v15, v16, v17⟩ o h
    refine AWp.seq ?_
    refine AWp.seq ?_
    refine AWp.start [0, 1, 2, 3] [] [] [0, 1, 2, 6, 7, 8, 14, 54] 1 ⟨[(0, q0 v1), (1, .tv (fzL 1 (cSl 1 cStr) v2)), (2, .pc 0 0), (6, q1 v8), (7, q1 v15), (8, q1 v16), (14, tI v17), (54, tB (decide (v17 < (v1.length : Int))))], [.cells 85 [k0 v3.f0, k0 v3.f1]]⟩ rfl ?_ (Nat.le_of_ble_eq_true rfl) trivial ?_
    ·kernel_rfl
    refine AOps.nil ?_
    refine AWp.cond rfl (fun hb => ?_) fun hb => ?_
    ·replace h := of_true h hb
     refine AWp.keepTo [0, 1, 2, 6, 7, 8, 14] 1 ⟨[(0, q0 v1), (1, .tv (fzL 1 (cSl 1 cStr) v2)), (2, .pc 0 0), (6, q1 v8), (7, q1 v15), (8, q1 v16), (14, tI v17)], [.cells 85 [k0 v3.f0, k0 v3.f1]]⟩ ?_ (Nat.le_of_ble_eq_true rfl) ?_
     ·kernel_rfl
     refine AWp.skip ?_
     refine AWp.seq ?_
     refine AWp.block ?_
     refine AWp.seq ?_
     refine AWp.draw FFm _ (n := 23) rfl (ls := #[n1, n1, n1, n1, n1, n1, n1, n1, n1, n1, n1, n1, n1, n1, n1, n1, n1, n1, n1, n1, n1, n1, n1]) rfl ?_ (fun _ h => h)
     refine AAny.go (by kernel_rfl) [0, 1, 2, 3, 5, 8, 9, 10, 11, 12, 13, 15] (fuel' := 11) rfl [] #[y1, y1, y1, y1, n1, y1, n1, n1, y1, y1, y1, y1, y1, y1, n1, y1, n1, n1, n1, n1, n1, n1, n1] [0, 1, 2, 6, 7, 8, 14, 57, 60, 62, 65, 66, 67, 70, 72] 1 ⟨[(0, q0 v1), (1, .tv (fzL 1 (cSl 1 cStr) v2)), (2, .pc 0 0), (6, q1 v8), (7, q1 v15), (8, q1 v16), (14, tI v17), (57, .al (.slot 7 0, [])), (60, .pc 0 1), (62, tI v17), (65, q0 v1), (66, .tv (fzL 1 (cSl 1 cStr) v2)), (67, .pc 0 0), (70, .pc 0 0), (72, tI v17)], [.cells 85 [k0 v3.f0, k0 v3.f1]]⟩ ?_ (Nat.le_of_ble_eq_true rfl) trivial ?_
     ·kernel_rfl
     refine AAny.goR (by kernel_rfl) (i := 14) (fuel' := 10) [16, 17, 18, 19, 20, 21, 22] rfl (by kernel_rfl) (by kernel_rfl) [] #[y1, y1, y1, y1, n1, y1, n1, n1, y1, y1, y1, y1, y1, y1, y1, y1, n1, n1, n1, n1, n1, n1, n1] rfl [0, 1, 2, 6, 7, 8, 14, 57, 60, 62, 65, 66, 67, 71, 72] 1 ⟨[(0, q0 v1), (1, .tv (fzL 1 (cSl 1 cStr) v2)), (2, .pc 0 0), (6, q1 v8), (7, q1 v15), (8, q1 v16), (14, tI v17), (57, .al (.slot 7 0, [])), (60, .pc 0 1), (62, tI v17), (65, q0 v1), (66, .tv (fzL 1 (cSl 1 cStr) v2)), (67, .pc 0 0), (71, .al (.cell 0 0, [])), (72, tI v17)], [.cells 85 [k0 v3.f0, k0 v3.f1]]⟩ ?_ (Nat.le_of_ble_eq_true rfl) trivial ?_
     ·kernel_rfl
     obtain ⟨hg, h⟩ := of_guard h
     refine AAny.go (by kernel_rfl) [16] (fuel' := 9) rfl [(0 : Int) ≤ v17, v17 < (v3.f0.length : Int)] #[y1, y1, y1, y1, n1, y1, n1, n1, y1, y1, y1, y1, y1, y1, y1, y1, y1, n1, n1, n1, n1, n1, n1] [0, 1, 2, 6, 7, 8, 14, 57, 60, 62, 65, 66, 67, 73] 1 ⟨[(0, q0 v1), (1, .tv (fzL 1 (cSl 1 cStr) v2)), (2, .pc 0 0), (6, q1 v8), (7, q1 v15), (8, q1 v16), (14, tI v17), (57, .al (.slot 7 0, [])), (60, .pc 0 1), (62, tI v17), (65, q0 v1), (66, .tv (fzL 1 (cSl 1 cStr) v2)), (67, .pc 0 0), (73, .pe (.cell 0 0, []) v17.toNat 0 1)], [.cells 85 [k0 v3.f0, k0 v3.f1]]⟩ ?_ (Nat.le_of_ble_eq_true rfl) ⟨hg.1, hg.2⟩ ?_
     ·kernel_rfl
     refine AAny.goR (by kernel_rfl) (i := 17) (fuel' := 8) [18, 19, 20, 21, 22] rfl (by kernel_rfl) (by kernel_rfl) [] #[y1, y1, y1, y1, n1, y1, n1, n1, y1, y1, y1, y1, y1, y1, y1, y1, y1, y1, n1, n1, n1, n1, n1] rfl [0, 1, 2, 6, 7, 8, 14, 57, 60, 62, 65, 66, 67, 74] 1 ⟨[(0, q0 v1), (1, .tv (fzL 1 (cSl 1 cStr) v2)), (2, .pc 0 0), (6, q1 v8), (7, q1 v15), (8, q1 v16), (14, tI v17), (57, .al (.slot 7 0, [])), (60, .pc 0 1), (62, tI v17), (65, q0 v1), (66, .tv (fzL 1 (cSl 1 cStr) v2)), (67, .pc 0 0), (74, tI (gD v3.f0 v17))], [.cells 85 [k0 v3.f0, k0 v3.f1]]⟩ ?_ (Nat.le_of_ble_eq_true rfl) trivial ?_
     ·kernel_rfl
     obtain ⟨hd6, h⟩ := of_guard h
     obtain ⟨v20, hv20, h⟩ := of_bind h
     refine AAny.share 3 #[y1, y1, y1, y1, y1, y1, y1, y1, y1, y1, y1, y1, y1, y1, y1, y1, y1, y1, y1, y1, n1, n1, n1] ⟨[(0, q0 v1), (1, .tv (fzL 1 (cSl 1 cStr) v2)), (2, .pc 0 0), (6, q1 v8), (7, q1 v15), (8, q1 v16), (14, tI v17), (57, .al (.slot 7 0, [])), (76, tI (w64 ((gD v3.f1 v17) - v20)))], [.cells 85 [k0 v3.f0, k0 v3.f1]]⟩ ?_ fun n4_ => ?_
     ·refine AAny.step (i := 20) (fuel' := 2) rfl (by kernel_rfl) [] #[y1, y1, y1, y1, y1, y1, y1, y1, y1, y1, y1, y1, y1, y1, y1, y1, y1, y1, y1, y1, y1, n1, n1] rfl [0, 1, 2, 6, 7, 8, 14, 57, 77] 1 ⟨[(0, q0 v1), (1, .tv (fzL 1 (cSl 1 cStr) v2)), (2, .pc 0 0), (6, q1 v8), (7, q1 v15), (8, q1 v16), (14, tI v17), (57, .al (.slot 7 0, [])), (77, .tv (.own 1 3 1 (newRowF [.int .i64 (w64 ((gD v3.f1 v17) - v20))] 1)))], [.cells 85 [k0 v3.f0, k0 v3.f1]]⟩ ?_ (Nat.le_of_ble_eq_true rfl) trivial ?_
      ·kernel_rfl
      refine AAny.extL 77 (cInt .i64) [w64 ((gD v3.f1 v17) - v20)] rfl rfl (row_at (cInt .i64) 1 (fun _ => rfl) [w64 ((gD v3.f1 v17) - v20)] _ rfl) ?_
      obtain ⟨hg, h⟩ := of_guard h
      refine AAny.step (i := 21) (fuel' := 1) rfl (by kernel_rfl) [(v15.length + [w64 ((gD v3.f1 v17) - v20)].length) * 8 ≤ 140737488355328, PlainTo v15.length (fun i => (cInt .i64) (v15.getD i default)), PlainTo ([w64 ((gD v3.f1 v17) - v20)].length) (fun i => (cInt .i64) ([w64 ((gD v3.f1 v17) - v20)].getD i default))] #[y1, y1, y1, y1, y1, y1, y1, y1, y1, y1, y1, y1, y1, y1, y1, y1, y1, y1, y1, y1, y1, y1, n1] rfl [0, 1, 2, 6, 8, 14, 78] 1 ⟨[(0, q0 v1), (1, .tv (fzL 1 (cSl 1 cStr) v2)), (2, .pc 0 0), (6, q1 v8), (8, q1 v16), (14, tI v17), (78, .tv (.own 1 3 (v15.length + [w64 ((gD v3.f1 v17) - v20)].length) (appF v15.length (fun i => (cInt .i64) (v15.getD i default)) (fun i => (cInt .i64) ([w64 ((gD v3.f1 v17) - v20)].getD i default)))))], [.cells 85 [k0 v3.f0, k0 v3.f1]]⟩ ?_ (Nat.le_of_ble_eq_true rfl) ⟨hg, (fun _ _ => rfl), (fun _ _ => rfl)⟩ ?_
      ·kernel_rfl
      refine AAny.extL 78 (cInt .i64) (v15 ++ [w64 ((gD v3.f1 v17) - v20)]) rfl List.length_append.symm (app_at (cInt .i64) v15 [w64 ((gD v3.f1 v17) - v20)]) ?_
      refine AAny.step (i := 22) (fuel' := 0) rfl (by kernel_rfl) [] #[y1, y1, y1, y1, y1, y1, y1, y1, y1, y1, y1, y1, y1, y1, y1, y1, y1, y1, y1, y1, y1, y1, y1] rfl [0, 1, 2, 6, 7, 8, 14] 1 ⟨[(0, q0 v1), (1, .tv (fzL 1 (cSl 1 cStr) v2)), (2, .pc 0 0), (6, q1 v8), (7, q1 (v15 ++ [w64 ((gD v3.f1 v17) - v20)])), (8, q1 v16), (14, tI v17)], [.cells 85 [k0 v3.f0, k0 v3.f1]]⟩ ?_ (Nat.le_of_ble_eq_true rfl) trivial ?_
      ·kernel_rfl
      refine AAny.keepTo [0, 1, 2, 6, 7, 8, 14] 1 ⟨[(0, q0 v1), (1, .tv (fzL 1 (cSl 1 cStr) v2)), (2, .pc 0 0), (6, q1 v8), (7, q1 (v15 ++ [w64 ((gD v3.f1 v17) - v20)])), (8, q1 v16), (14, tI v17)], [.cells 85 [k0 v3.f0, k0 v3.f1]]⟩ _ ?_ rfl (Nat.le_of_ble_eq_true rfl) (AAny.done (by kernel_rfl) ?_)
      ·kernel_rfl
      refine AWp.seq ?_
      refine AWp.draw FFm _ (n := 31) rfl (ls := #[n1, n1, n1, n1, n1, n1, n1, n1, n1, n1, n1, n1, n1, n1, n1, n1, n1, n1, n1, n1, n1, n1, n1, n1, n1, n1, n1, n1, n1, n1, n1]) rfl ?_ (fun _ h => h)
      obtain ⟨hg, h⟩ := of_guard h
      refine AAny.go (by kernel_rfl) [0, 1, 2, 3, 5, 6, 7, 8, 12, 13, 14, 16, 17, 18, 19, 20, 21, 22, 23, 24, 25, 26] (fuel' := 9) rfl [(0 : Int) ≤ v17, v17 < (v8.length : Int), (0 : Int) ≤ v17, v17 < (v8.length : Int), (0 : Int) ≤ v17, v17 < ((v15 ++ [w64 ((gD v3.f1 v17) - v20)]).length : Int), (0 : Int) ≤ v17, v17 < (v1.length : Int), (0 : Int) ≤ v17, v17 < (v1.length : Int)] #[y1, y1, y1, y1, n1, y1, y1, y1, y1, n1, n1, n1, y1, y1, y1, n1, y1, y1, y1, y1, y1, y1, y1, y1, y1, y1, y1, n1, n1, n1, n1] [0, 1, 2, 6, 7, 8, 14, 79, 82, 84, 87, 93, 105] 1 ⟨[(0, q0 v1), (1, .tv (fzL 1 (cSl 1 cStr) v2)), (2, .pc 0 0), (6, q1 v8), (7, q1 (v15 ++ [w64 ((gD v3.f1 v17) - v20)])), (8, q1 v16), (14, tI v17), (79, .al (.slot 8 0, [])), (82, .pe (.slot 6 0, []) v17.toNat 0 1), (84, .al (.slot 8 0, [])), (87, .pe (.slot 6 0, []) v17.toNat 0 1), (93, .pe (.slot 7 0, []) v17.toNat 0 1), (105, tI (w64 (((gD v1 v17).f1) * ((gD v1 v17).f2))))], [.cells 85 [k0 v3.f0, k0 v3.f1]]⟩ ?_ (Nat.le_of_ble_eq_true rfl) ⟨hg.1, hg.2.1, hg.2.2.1, hg.2.2.2.1, hg.2.2.2.2.1, hg.2.2.2.2.2.1, hg.2.2.2.2.2.2.1, hg.2.2.2.2.2.2.2.1, hg.2.2.2.2.2.2.2.2.1, hg.2.2.2.2.2.2.2.2.2⟩ ?_
      ·kernel_rfl
      refine AAny.goR (by kernel_rfl) (i := 15) (fuel' := 8) [27, 28, 29, 30] rfl (by kernel_rfl) (by kernel_rfl) [] #[y1, y1, y1, y1, n1, y1, y1, y1, y1, n1, n1, n1, y1, y1, y1, y1, y1, y1, y1, y1, y1, y1, y1, y1, y1, y1, y1, n1, n1, n1, n1] rfl [0, 1, 2, 6, 7, 8, 14, 79, 82, 84, 87, 94, 105] 1 ⟨[(0, q0 v1), (1, .tv (fzL 1 (cSl 1 cStr) v2)), (2, .pc 0 0), (6, q1 v8), (7, q1 (v15 ++ [w64 ((gD v3.f1 v17) - v20)])), (8, q1 v16), (14, tI v17), (79, .al (.slot 8 0, [])), (82, .pe (.slot 6 0, []) v17.toNat 0 1), (84, .al (.slot 8 0, [])), (87, .pe (.slot 6 0, []) v17.toNat 0 1), (94, tI (gD (v15 ++ [w64 ((gD v3.f1 v17) - v20)]) v17)), (105, tI (w64 (((gD v1 v17).f1) * ((gD v1 v17).f2))))], [.cells 85 [k0 v3.f0, k0 v3.f1]]⟩ ?_ (Nat.le_of_ble_eq_true rfl) trivial ?_
      ·kernel_rfl
      refine AAny.go (by kernel_rfl) [27] (fuel' := 7) rfl [] #[y1, y1, y1, y1, n1, y1, y1, y1, y1, n1, n1, n1, y1, y1, y1, y1, y1, y1, y1, y1, y1, y1, y1, y1, y1, y1, y1, y1, n1, n1, n1] [0, 1, 2, 6, 7, 8, 14, 79, 82, 84, 87, 106] 1 ⟨[(0, q0 v1), (1, .tv (fzL 1 (cSl 1 cStr) v2)), (2, .pc 0 0), (6, q1 v8), (7, q1 (v15 ++ [w64 ((gD v3.f1 v17) - v20)])), (8, q1 v16), (14, tI v17), (79, .al (.slot 8 0, [])), (82, .pe (.slot 6 0, []) v17.toNat 0 1), (84, .al (.slot 8 0, [])), (87, .pe (.slot 6 0, []) v17.toNat 0 1), (106, tI (w64 ((gD (v15 ++ [w64 ((gD v3.f1 v17) - v20)]) v17) + (w64 (((gD v1 v17).f1) * ((gD v1 v17).f2))))))], [.cells 85 [k0 v3.f0, k0 v3.f1]]⟩ ?_ (Nat.le_of_ble_eq_true rfl) trivial ?_
      ·kernel_rfl
      refine AAny.goR (by kernel_rfl) (i := 9) (fuel' := 6) [10, 11, 28, 29, 30] rfl (by kernel_rfl) (by kernel_rfl) [] #[y1, y1, y1, y1, n1, y1, y1, y1, y1, y1, n1, n1, y1, y1, y1, y1, y1, y1, y1, y1, y1, y1, y1, y1, y1, y1, y1, y1, n1, n1, n1] rfl [0, 1, 2, 6, 7, 8, 14, 79, 82, 84, 88, 106] 1 ⟨[(0, q0 v1), (1, .tv (fzL 1 (cSl 1 cStr) v2)), (2, .pc 0 0), (6, q1 v8), (7, q1 (v15 ++ [w64 ((gD v3.f1 v17) - v20)])), (8, q1 v16), (14, tI v17), (79, .al (.slot 8 0, [])), (82, .pe (.slot 6 0, []) v17.toNat 0 1), (84, .al (.slot 8 0, [])), (88, tI (gD v8 v17)), (106, tI (w64 ((gD (v15 ++ [w64 ((gD v3.f1 v17) - v20)]) v17) + (w64 (((gD v1 v17).f1) * ((gD v1 v17).f2))))))], [.cells 85 [k0 v3.f0, k0 v3.f1]]⟩ ?_ (Nat.le_of_ble_eq_true rfl) trivial ?_
      ·kernel_rfl
      obtain ⟨hg, h⟩ := of_guard h
      refine AAny.go (by kernel_rfl) [10] (fuel' := 5) rfl [(0 : Int) ≤ gD v8 v17, gD v8 v17 < (v16.length : Int)] #[y1, y1, y1, y1, n1, y1, y1, y1, y1, y1, y1, n1, y1, y1, y1, y1, y1, y1, y1, y1, y1, y1, y1, y1, y1, y1, y1, y1, n1, n1, n1] [0, 1, 2, 6, 7, 8, 14, 79, 82, 89, 106] 1 ⟨[(0, q0 v1), (1, .tv (fzL 1 (cSl 1 cStr) v2)), (2, .pc 0 0), (6, q1 v8), (7, q1 (v15 ++ [w64 ((gD v3.f1 v17) - v20)])), (8, q1 v16), (14, tI v17), (79, .al (.slot 8 0, [])), (82, .pe (.slot 6 0, []) v17.toNat 0 1), (89, .pe (.slot 8 0, []) (Int.toNat (gD v8 v17)) 0 1), (106, tI (w64 ((gD (v15 ++ [w64 ((gD v3.f1 v17) - v20)]) v17) + (w64 (((gD v1 v17).f1) * ((gD v1 v17).f2))))))], [.cells 85 [k0 v3.f0, k0 v3.f1]]⟩ ?_ (Nat.le_of_ble_eq_true rfl) ⟨hg.1, hg.2⟩ ?_
      ·kernel_rfl
      refine AAny.goR (by kernel_rfl) (i := 11) (fuel' := 4) [28, 29, 30] rfl (by kernel_rfl) (by kernel_rfl) [] #[y1, y1, y1, y1, n1, y1, y1, y1, y1, y1, y1, y1, y1, y1, y1, y1, y1, y1, y1, y1, y1, y1, y1, y1, y1, y1, y1, y1, n1, n1, n1] rfl [0, 1, 2, 6, 7, 8, 14, 79, 82, 90, 106] 1 ⟨[(0, q0 v1), (1, .tv (fzL 1 (cSl 1 cStr) v2)), (2, .pc 0 0), (6, q1 v8), (7, q1 (v15 ++ [w64 ((gD v3.f1 v17) - v20)])), (8, q1 v16), (14, tI v17), (79, .al (.slot 8 0, [])), (82, .pe (.slot 6 0, []) v17.toNat 0 1), (90, tI (v16.getD (Int.toNat (gD v8 v17)) default)), (106, tI (w64 ((gD (v15 ++ [w64 ((gD v3.f1 v17) - v20)]) v17) + (w64 (((gD v1 v17).f1) * ((gD v1 v17).f2))))))], [.cells 85 [k0 v3.f0, k0 v3.f1]]⟩ ?_ (Nat.le_of_ble_eq_true rfl) trivial ?_
      ·kernel_rfl
      refine AAny.go (by kernel_rfl) [28] (fuel' := 3) rfl [] #[y1, y1, y1, y1, n1, y1, y1, y1, y1, y1, y1, y1, y1, y1, y1, y1, y1, y1, y1, y1, y1, y1, y1, y1, y1, y1, y1, y1, y1, n1, n1] [0, 1, 2, 6, 7, 8, 14, 79, 82, 107] 1 ⟨[(0, q0 v1), (1, .tv (fzL 1 (cSl 1 cStr) v2)), (2, .pc 0 0), (6, q1 v8), (7, q1 (v15 ++ [w64 ((gD v3.f1 v17) - v20)])), (8, q1 v16), (14, tI v17), (79, .al (.slot 8 0, [])), (82, .pe (.slot 6 0, []) v17.toNat 0 1), (107, tI (if w64 ((gD (v15 ++ [w64 ((gD v3.f1 v17) - v20)]) v17) + (w64 (((gD v1 v17).f1) * ((gD v1 v17).f2)))) > v16.getD (Int.toNat (gD v8 v17)) default then w64 ((gD (v15 ++ [w64 ((gD v3.f1 v17) - v20)]) v17) + (w64 (((gD v1 v17).f1) * ((gD v1 v17).f2)))) else v16.getD (Int.toNat (gD v8 v17)) default))], [.cells 85 [k0 v3.f0, k0 v3.f1]]⟩ ?_ (Nat.le_of_ble_eq_true rfl) trivial ?_
      ·kernel_rfl
      refine AAny.step (i := 4) (fuel' := 2) rfl (by kernel_rfl) [] #[y1, y1, y1, y1, y1, y1, y1, y1, y1, y1, y1, y1, y1, y1, y1, y1, y1, y1, y1, y1, y1, y1, y1, y1, y1, y1, y1, y1, y1, n1, n1] rfl [0, 1, 2, 6, 7, 8, 14, 79, 83, 107] 1 ⟨[(0, q0 v1), (1, .tv (fzL 1 (cSl 1 cStr) v2)), (2, .pc 0 0), (6, q1 v8), (7, q1 (v15 ++ [w64 ((gD v3.f1 v17) - v20)])), (8, q1 v16), (14, tI v17), (79, .al (.slot 8 0, [])), (83, tI (gD v8 v17)), (107, tI (if w64 ((gD (v15 ++ [w64 ((gD v3.f1 v17) - v20)]) v17) + (w64 (((gD v1 v17).f1) * ((gD v1 v17).f2)))) > v16.getD (Int.toNat (gD v8 v17)) default then w64 ((gD (v15 ++ [w64 ((gD v3.f1 v17) - v20)]) v17) + (w64 (((gD v1 v17).f1) * ((gD v1 v17).f2)))) else v16.getD (Int.toNat (gD v8 v17)) default))], [.cells 85 [k0 v3.f0, k0 v3.f1]]⟩ ?_ (Nat.le_of_ble_eq_true rfl) trivial ?_
      ·kernel_rfl
      obtain ⟨hg, h⟩ := of_guard h
      refine AAny.go (by kernel_rfl) [29] (fuel' := 1) rfl [(0 : Int) ≤ gD v8 v17, gD v8 v17 < (v16.length : Int)] #[y1, y1, y1, y1, y1, y1, y1, y1, y1, y1, y1, y1, y1, y1, y1, y1, y1, y1, y1, y1, y1, y1, y1, y1, y1, y1, y1, y1, y1, y1, n1] [0, 1, 2, 6, 7, 8, 14, 107, 108] 1 ⟨[(0, q0 v1), (1, .tv (fzL 1 (cSl 1 cStr) v2)), (2, .pc 0 0), (6, q1 v8), (7, q1 (v15 ++ [w64 ((gD v3.f1 v17) - v20)])), (8, q1 v16), (14, tI v17), (107, tI (if w64 ((gD (v15 ++ [w64 ((gD v3.f1 v17) - v20)]) v17) + (w64 (((gD v1 v17).f1) * ((gD v1 v17).f2)))) > v16.getD (Int.toNat (gD v8 v17)) default then w64 ((gD (v15 ++ [w64 ((gD v3.f1 v17) - v20)]) v17) + (w64 (((gD v1 v17).f1) * ((gD v1 v17).f2)))) else v16.getD (Int.toNat (gD v8 v17)) default)), (108, .pe (.slot 8 0, []) (Int.toNat (gD v8 v17)) 0 1)], [.cells 85 [k0 v3.f0, k0 v3.f1]]⟩ ?_ (Nat.le_of_ble_eq_true rfl) ⟨hg.1, hg.2⟩ ?_
      ·kernel_rfl
      refine AAny.step (i := 30) (fuel' := 0) rfl (by kernel_rfl) [PlainTo v16.length (fun i => (cInt .i64) (v16.getD i default))] #[y1, y1, y1, y1, y1, y1, y1, y1, y1, y1, y1, y1, y1, y1, y1, y1, y1, y1, y1, y1, y1, y1, y1, y1, y1, y1, y1, y1, y1, y1, y1] rfl [0, 1, 2, 6, 7, 8, 14] 1 ⟨[(0, q0 v1), (1, .tv (fzL 1 (cSl 1 cStr) v2)), (2, .pc 0 0), (6, q1 v8), (7, q1 (v15 ++ [w64 ((gD v3.f1 v17) - v20)])), (8, .tv (.own 1 3 v16.length (setElem (fun i => (cInt .i64) (v16.getD i default)) (Int.toNat (gD v8 v17)) (putAt ((cInt .i64) (v16.getD (Int.toNat (gD v8 v17)) default)) 0 [.int .i64 (if w64 ((gD (v15 ++ [w64 ((gD v3.f1 v17) - v20)]) v17) + (w64 (((gD v1 v17).f1) * ((gD v1 v17).f2)))) > v16.getD (Int.toNat (gD v8 v17)) default then w64 ((gD (v15 ++ [w64 ((gD v3.f1 v17) - v20)]) v17) + (w64 (((gD v1 v17).f1) * ((gD v1 v17).f2)))) else v16.getD (Int.toNat (gD v8 v17)) default)])))), (14, tI v17)], [.cells 85 [k0 v3.f0, k0 v3.f1]]⟩ ?_ (Nat.le_of_ble_eq_true rfl) (fun _ _ => rfl) ?_
      ·kernel_rfl
      refine AAny.extL 8 (cInt .i64) (v16.set (Int.toNat (gD v8 v17)) (if w64 ((gD (v15 ++ [w64 ((gD v3.f1 v17) - v20)]) v17) + (w64 (((gD v1 v17).f1) * ((gD v1 v17).f2)))) > v16.getD (Int.toNat (gD v8 v17)) default then w64 ((gD (v15 ++ [w64 ((gD v3.f1 v17) - v20)]) v17) + (w64 (((gD v1 v17).f1) * ((gD v1 v17).f2)))) else v16.getD (Int.toNat (gD v8 v17)) default)) rfl (by simp) (set_at (cInt .i64) v16 (Int.toNat (gD v8 v17)) 0 [.int .i64 (if w64 ((gD (v15 ++ [w64 ((gD v3.f1 v17) - v20)]) v17) + (w64 (((gD v1 v17).f1) * ((gD v1 v17).f2)))) > v16.getD (Int.toNat (gD v8 v17)) default then w64 ((gD (v15 ++ [w64 ((gD v3.f1 v17) - v20)]) v17) + (w64 (((gD v1 v17).f1) * ((gD v1 v17).f2)))) else v16.getD (Int.toNat (gD v8 v17)) default)] (if w64 ((gD (v15 ++ [w64 ((gD v3.f1 v17) - v20)]) v17) + (w64 (((gD v1 v17).f1) * ((gD v1 v17).f2)))) > v16.getD (Int.toNat (gD v8 v17)) default then w64 ((gD (v15 ++ [w64 ((gD v3.f1 v17) - v20)]) v17) + (w64 (((gD v1 v17).f1) * ((gD v1 v17).f2)))) else v16.getD (Int.toNat (gD v8 v17)) default) rfl) ?_
      refine AAny.keepTo [0, 1, 2, 6, 7, 8, 14] 1 ⟨[(0, q0 v1), (1, .tv (fzL 1 (cSl 1 cStr) v2)), (2, .pc 0 0), (6, q1 v8), (7, q1 (v15 ++ [w64 ((gD v3.f1 v17) - v20)])), (8, q1 (v16.set (Int.toNat (gD v8 v17)) (if w64 ((gD (v15 ++ [w64 ((gD v3.f1 v17) - v20)]) v17) + (w64 (((gD v1 v17).f1) * ((gD v1 v17).f2)))) > v16.getD (Int.toNat (gD v8 v17)) default then w64 ((gD (v15 ++ [w64 ((gD v3.f1 v17) - v20)]) v17) + (w64 (((gD v1 v17).f1) * ((gD v1 v17).f2)))) else v16.getD (Int.toNat (gD v8 v17)) default))), (14, tI v17)], [.cells 85 [k0 v3.f0, k0 v3.f1]]⟩ _ ?_ rfl (Nat.le_of_ble_eq_true rfl) (AAny.done (by kernel_rfl) ?_)
      ·kernel_rfl
      refine AWp.seq ?_
      obtain ⟨hg, h⟩ := of_guard h
      refine AWp.start [0, 1, 2, 3, 4] [] [(0 : Int) ≤ v17, v17 < ((v15 ++ [w64 ((gD v3.f1 v17) - v20)]).length : Int)] [0, 1, 2, 6, 7, 8, 14, 113] 1 ⟨[(0, q0 v1), (1, .tv (fzL 1 (cSl 1 cStr) v2)), (2, .pc 0 0), (6, q1 v8), (7, q1 (v15 ++ [w64 ((gD v3.f1 v17) - v20)])), (8, q1 (v16.set (Int.toNat (gD v8 v17)) (if w64 ((gD (v15 ++ [w64 ((gD v3.f1 v17) - v20)]) v17) + (w64 (((gD v1 v17).f1) * ((gD v1 v17).f2)))) > v16.getD (Int.toNat (gD v8 v17)) default then w64 ((gD (v15 ++ [w64 ((gD v3.f1 v17) - v20)]) v17) + (w64 (((gD v1 v17).f1) * ((gD v1 v17).f2)))) else v16.getD (Int.toNat (gD v8 v17)) default))), (14, tI v17), (113, tB (decide (gD (v15 ++ [w64 ((gD v3.f1 v17) - v20)]) v17 < (0 : Int))))], [.cells 85 [k0 v3.f0, k0 v3.f1]]⟩ rfl ?_ (Nat.le_of_ble_eq_true rfl) ⟨hg.1, hg.2⟩ ?_
      ·kernel_rfl
      refine AOps.nil ?_
      refine AWp.cond rfl (fun hb => ?_) fun hb => ?_
      ·replace h := of_true h hb
       refine AWp.keepTo [0, 14] 1 ⟨[(0, q0 v1), (14, tI v17)], [.cells 85 [k0 v3.f0, k0 v3.f1]]⟩ ?_ (Nat.le_of_ble_eq_true rfl) ?_
       ·kernel_rfl
       refine AWp.seq ?_
       refine AWp.draw FFm _ (n := 10) rfl (ls := #[n1, n1, n1, n1, n1, n1, n1, n1, n1, n1]) rfl ?_ (fun _ h => h)
       obtain ⟨hg, h⟩ := of_guard h
       refine AAny.go (by kernel_rfl) [0, 1, 2, 3, 4, 5, 6, 7, 8, 9] (fuel' := 0) rfl [(0 : Int) ≤ v17, v17 < (v1.length : Int)] #[y1, y1, y1, y1, y1, y1, y1, y1, y1, y1] [6, 7, 8, 9, 10] 1 ⟨[(6, .tv (.sc (.slice none 0 0))), (7, .tv (.sc (.slice none 0 0))), (8, .tv (.sc (.slice none 0 0))), (9, tS ((gD v1 v17).f0)), (10, tI (10 : Int))], [.cells 85 [k0 v3.f0, k0 v3.f1]]⟩ ?_ (Nat.le_of_ble_eq_true rfl) ⟨hg.1, hg.2⟩ ?_
       ·kernel_rfl
       refine AAny.keepTo [6, 7, 8, 9, 10] 1 ⟨[(6, .tv (.sc (.slice none 0 0))), (7, .tv (.sc (.slice none 0 0))), (8, .tv (.sc (.slice none 0 0))), (9, tS ((gD v1 v17).f0)), (10, tI (10 : Int))], [.cells 85 [k0 v3.f0, k0 v3.f1]]⟩ _ ?_ rfl (Nat.le_of_ble_eq_true rfl) (AAny.done (by kernel_rfl) ?_)
       ·kernel_rfl
       refine AWp.nilFz 6 1 (fun i => (cInt .i64) (([] : List Int).getD i default)) rfl ?_
       refine AWp.nilFz 7 1 (fun i => (cInt .i64) (([] : List Int).getD i default)) rfl ?_
       refine AWp.nilFz 8 1 (fun i => (cInt .i64) (([] : List Int).getD i default)) rfl ?_
       refine AWp.keepTo [6, 7, 8, 9, 10] 1 ⟨[(6, q2 ([] : List Int)), (7, q2 ([] : List Int)), (8, q2 ([] : List Int)), (9, tS ((gD v1 v17).f0)), (10, tI (10 : Int))], [.cells 85 [k0 v3.f0, k0 v3.f1]]⟩ ?_ (Nat.le_of_ble_eq_true rfl) ?_
       ·kernel_rfl
       refine AWp.ret ?_
       cases h
       exact Or.inr ⟨_, rfl, by simp, rfl, rfl⟩
      ·replace h := of_false h hb
       refine AWp.keepTo [0, 1, 2, 6, 7, 8, 14] 1 ⟨[(0, q0 v1), (1, .tv (fzL 1 (cSl 1 cStr) v2)), (2, .pc 0 0), (6, q1 v8), (7, q1 (v15 ++ [w64 ((gD v3.f1 v17) - v20)])), (8, q1 (v16.set (Int.toNat (gD v8 v17)) (if w64 ((gD (v15 ++ [w64 ((gD v3.f1 v17) - v20)]) v17) + (w64 (((gD v1 v17).f1) * ((gD v1 v17).f2)))) > v16.getD (Int.toNat (gD v8 v17)) default then w64 ((gD (v15 ++ [w64 ((gD v3.f1 v17) - v20)]) v17) + (w64 (((gD v1 v17).f1) * ((gD v1 v17).f2)))) else v16.getD (Int.toNat (gD v8 v17)) default))), (14, tI v17)], [.cells 85 [k0 v3.f0, k0 v3.f1]]⟩ ?_ (Nat.le_of_ble_eq_true rfl) ?_
       ·kernel_rfl
       refine AWp.skip ?_
       refine AWp.start [0, 1, 2] [] [] [0, 1, 2, 6, 7, 8, 14] 1 ⟨[(0, q0 v1), (1, .tv (fzL 1 (cSl 1 cStr) v2)), (2, .pc 0 0), (6, q1 v8), (7, q1 (v15 ++ [w64 ((gD v3.f1 v17) - v20)])), (8, q1 (v16.set (Int.toNat (gD v8 v17)) (if w64 ((gD (v15 ++ [w64 ((gD v3.f1 v17) - v20)]) v17) + (w64 (((gD v1 v17).f1) * ((gD v1 v17).f2)))) > v16.getD (Int.toNat (gD v8 v17)) default then w64 ((gD (v15 ++ [w64 ((gD v3.f1 v17) - v20)]) v17) + (w64 (((gD v1 v17).f1) * ((gD v1 v17).f2)))) else v16.getD (Int.toNat (gD v8 v17)) default))), (14, tI (w64 (v17 + (1 : Int))))], [.cells 85 [k0 v3.f0, k0 v3.f1]]⟩ rfl ?_ (Nat.le_of_ble_eq_true rfl) trivial ?_
       ·kernel_rfl
       refine AOps.nil ?_
       cases h
       exact Or.inl ⟨_, rfl, rfl, rfl⟩
     refine AAny.share 5 #[y1, y1, y1, y1, y1, y1, y1, n1, y1, y1, y1, y1, y1, y1, y1, y1, y1, y1, y1, n1, n1, n1, n1] ⟨[(0, q0 v1), (1, .tv (fzL 1 (cSl 1 cStr) v2)), (2, .pc 0 0), (6, q1 v8), (7, q1 v15), (8, q1 v16), (14, tI v17), (57, .al (.slot 7 0, [])), (63, .pe (.cell 0 1, []) v17.toNat 0 1), (75, tI v20)], [.cells 85 [k0 v3.f0, k0 v3.f1]]⟩ ?_ fun n3_ => ?_
     ·refine AAny.each [7] (by kernel_rfl) rfl ?_
      refine AEach.step (i := 7) [] #[y1, y1, y1, y1, y1, y1, y1, y1, y1, y1, y1, y1, y1, y1, y1, y1, y1, y1, y1, n1, n1, n1, n1] rfl [0, 1, 2, 6, 7, 8, 14, 57, 64, 75] 1 ⟨[(0, q0 v1), (1, .tv (fzL 1 (cSl 1 cStr) v2)), (2, .pc 0 0), (6, q1 v8), (7, q1 v15), (8, q1 v16), (14, tI v17), (57, .al (.slot 7 0, [])), (64, tI (gD v3.f1 v17)), (75, tI v20)], [.cells 85 [k0 v3.f0, k0 v3.f1]]⟩ ?_ (Nat.le_of_ble_eq_true rfl) trivial ?_ ?_
      ·kernel_rfl
      ·refine AAny.go (by kernel_rfl) [19] (fuel' := 3) rfl [] #[y1, y1, y1, y1, y1, y1, y1, y1, y1, y1, y1, y1, y1, y1, y1, y1, y1, y1, y1, y1, n1, n1, n1] [0, 1, 2, 6, 7, 8, 14, 57, 76] 1 ⟨[(0, q0 v1), (1, .tv (fzL 1 (cSl 1 cStr) v2)), (2, .pc 0 0), (6, q1 v8), (7, q1 v15), (8, q1 v16), (14, tI v17), (57, .al (.slot 7 0, [])), (76, tI (w64 ((gD v3.f1 v17) - v20)))], [.cells 85 [k0 v3.f0, k0 v3.f1]]⟩ ?_ (Nat.le_of_ble_eq_true rfl) trivial ?_
       ·kernel_rfl
       exact n4_
      exact AEach.nil
     refine AAny.share 5 #[y1, y1, y1, y1, y1, y1, y1, y1, y1, y1, y1, y1, y1, y1, y1, y1, y1, y1, n1, n1, n1, n1, n1] ⟨[(0, q0 v1), (1, .tv (fzL 1 (cSl 1 cStr) v2)), (2, .pc 0 0), (6, q1 v8), (7, q1 v15), (8, q1 v16), (14, tI v17), (57, .al (.slot 7 0, [])), (64, tI (gD v3.f1 v17)), (65, q0 v1), (66, .tv (fzL 1 (cSl 1 cStr) v2)), (67, .pc 0 0), (74, tI (gD v3.f0 v17))], [.cells 85 [k0 v3.f0, k0 v3.f1]]⟩ ?_ fun n5_ => ?_
     ·refine AAny.each [18] (by kernel_rfl) rfl ?_
      refine AEach.one (i := 18) (AOne.callR (F := (FF 122 1)) _ rfl rfl rfl _ rfl rfl _ _ rfl Try.call52 [PlainTo v3.f0.length (fun i => (cInt .i64) (v3.f0.getD i default)), PlainTo v3.f1.length (fun i => (cInt .i64) (v3.f1.getD i default))] [q0 v1, .tv (fzL 1 (cSl 1 cStr) v2), .rp [k2 v3.f0, k2 v3.f1], tI (gD v3.f0 v17)] rfl ⟨(fun _ _ => rfl), (fun _ _ => rfl)⟩ (f52_ok v1 v2 v3 (gD v3.f0 v17) hv20) (ind_of rfl) rfl) ?_ ?_
      ·refine AAny.keepTo [0, 1, 2, 6, 7, 8, 14, 57, 64, 75] 1 ⟨[(0, q0 v1), (1, .tv (fzL 1 (cSl 1 cStr) v2)), (2, .pc 0 0), (6, q1 v8), (7, q1 v15), (8, q1 v16), (14, tI v17), (57, .al (.slot 7 0, [])), (64, tI (gD v3.f1 v17)), (75, tI v20)], [.cells 85 [k0 v3.f0, k0 v3.f1]]⟩ #[y1, y1, y1, y1, y1, y1, y1, y1, y1, y1, y1, y1, y1, y1, y1, y1, y1, y1, y1, n1, n1, n1, n1] ?_ rfl (Nat.le_of_ble_eq_true rfl) ?_
       ·kernel_rfl
       refine AAny.go (by kernel_rfl) [19] (fuel' := 3) rfl [] #[y1, y1, y1, y1, y1, y1, y1, y1, y1, y1, y1, y1, y1, y1, y1, y1, y1, y1, y1, y1, n1, n1, n1] [0, 1, 2, 6, 7, 8, 14, 57, 76] 1 ⟨[(0, q0 v1), (1, .tv (fzL 1 (cSl 1 cStr) v2)), (2, .pc 0 0), (6, q1 v8), (7, q1 v15), (8, q1 v16), (14, tI v17), (57, .al (.slot 7 0, [])), (76, tI (w64 ((gD v3.f1 v17) - v20)))], [.cells 85 [k0 v3.f0, k0 v3.f1]]⟩ ?_ (Nat.le_of_ble_eq_true rfl) trivial ?_
       ·kernel_rfl
       exact n4_
      exact AEach.nil
     refine AAny.share 6 #[y1, y1, y1, y1, y1, y1, y1, n1, y1, y1, y1, y1, y1, y1, y1, y1, y1, y1, n1, n1, n1, n1, n1] ⟨[(0, q0 v1), (1, .tv (fzL 1 (cSl 1 cStr) v2)), (2, .pc 0 0), (6, q1 v8), (7, q1 v15), (8, q1 v16), (14, tI v17), (57, .al (.slot 7 0, [])), (63, .pe (.cell 0 1, []) v17.toNat 0 1), (65, q0 v1), (66, .tv (fzL 1 (cSl 1 cStr) v2)), (67, .pc 0 0), (74, tI (gD v3.f0 v17))], [.cells 85 [k0 v3.f0, k0 v3.f1]]⟩ ?_ fun n1_ => ?_
     ·refine AAny.each [7, 18] (by kernel_rfl) rfl ?_
      refine AEach.step (i := 7) [] #[y1, y1, y1, y1, y1, y1, y1, y1, y1, y1, y1, y1, y1, y1, y1, y1, y1, y1, n1, n1, n1, n1, n1] rfl [0, 1, 2, 6, 7, 8, 14, 57, 64, 65, 66, 67, 74] 1 ⟨[(0, q0 v1), (1, .tv (fzL 1 (cSl 1 cStr) v2)), (2, .pc 0 0), (6, q1 v8), (7, q1 v15), (8, q1 v16), (14, tI v17), (57, .al (.slot 7 0, [])), (64, tI (gD v3.f1 v17)), (65, q0 v1), (66, .tv (fzL 1 (cSl 1 cStr) v2)), (67, .pc 0 0), (74, tI (gD v3.f0 v17))], [.cells 85 [k0 v3.f0, k0 v3.f1]]⟩ ?_ (Nat.le_of_ble_eq_true rfl) trivial ?_ ?_
      ·kernel_rfl
      ·exact n5_
      refine AEach.one (i := 18) (AOne.callR (F := (FF 122 1)) _ rfl rfl rfl _ rfl rfl _ _ rfl Try.call52 [PlainTo v3.f0.length (fun i => (cInt .i64) (v3.f0.getD i default)), PlainTo v3.f1.length (fun i => (cInt .i64) (v3.f1.getD i default))] [q0 v1, .tv (fzL 1 (cSl 1 cStr) v2), .rp [k2 v3.f0, k2 v3.f1], tI (gD v3.f0 v17)] rfl ⟨(fun _ _ => rfl), (fun _ _ => rfl)⟩ (f52_ok v1 v2 v3 (gD v3.f0 v17) hv20) (ind_of rfl) rfl) ?_ ?_
      ·refine AAny.keepTo [0, 1, 2, 6, 7, 8, 14, 57, 63, 75] 1 ⟨[(0, q0 v1), (1, .tv (fzL 1 (cSl 1 cStr) v2)), (2, .pc 0 0), (6, q1 v8), (7, q1 v15), (8, q1 v16), (14, tI v17), (57, .al (.slot 7 0, [])), (63, .pe (.cell 0 1, []) v17.toNat 0 1), (75, tI v20)], [.cells 85 [k0 v3.f0, k0 v3.f1]]⟩ #[y1, y1, y1, y1, y1, y1, y1, n1, y1, y1, y1, y1, y1, y1, y1, y1, y1, y1, y1, n1, n1, n1, n1] ?_ rfl (Nat.le_of_ble_eq_true rfl) ?_
       ·kernel_rfl
       exact n3_
      exact AEach.nil
     refine AAny.share 7 #[y1, y1, y1, y1, n1, y1, n1, n1, y1, y1, y1, y1, y1, y1, y1, y1, y1, y1, y1, n1, n1, n1, n1] ⟨[(0, q0 v1), (1, .tv (fzL 1 (cSl 1 cStr) v2)), (2, .pc 0 0), (6, q1 v8), (7, q1 v15), (8, q1 v16), (14, tI v17), (57, .al (.slot 7 0, [])), (60, .pc 0 1), (62, tI v17), (75, tI v20)], [.cells 85 [k0 v3.f0, k0 v3.f1]]⟩ ?_ fun n2_ => ?_
     ·refine AAny.each [4] (by kernel_rfl) rfl ?_
      refine AEach.step (i := 4) [] #[y1, y1, y1, y1, y1, y1, n1, n1, y1, y1, y1, y1, y1, y1, y1, y1, y1, y1, y1, n1, n1, n1, n1] rfl [0, 1, 2, 6, 7, 8, 14, 57, 61, 62, 75] 1 ⟨[(0, q0 v1), (1, .tv (fzL 1 (cSl 1 cStr) v2)), (2, .pc 0 0), (6, q1 v8), (7, q1 v15), (8, q1 v16), (14, tI v17), (57, .al (.slot 7 0, [])), (61, .al (.cell 0 1, [])), (62, tI v17), (75, tI v20)], [.cells 85 [k0 v3.f0, k0 v3.f1]]⟩ ?_ (Nat.le_of_ble_eq_true rfl) trivial ?_ ?_
      ·kernel_rfl
      ·refine AAny.go (by kernel_rfl) [6] (fuel' := 5) rfl [(0 : Int) ≤ v17, v17 < (v3.f1.length : Int)] #[y1, y1, y1, y1, y1, y1, y1, n1, y1, y1, y1, y1, y1, y1, y1, y1, y1, y1, y1, n1, n1, n1, n1] [0, 1, 2, 6, 7, 8, 14, 57, 63, 75] 1 ⟨[(0, q0 v1), (1, .tv (fzL 1 (cSl 1 cStr) v2)), (2, .pc 0 0), (6, q1 v8), (7, q1 v15), (8, q1 v16), (14, tI v17), (57, .al (.slot 7 0, [])), (63, .pe (.cell 0 1, []) v17.toNat 0 1), (75, tI v20)], [.cells 85 [k0 v3.f0, k0 v3.f1]]⟩ ?_ (Nat.le_of_ble_eq_true rfl) ⟨hd6.1, hd6.2⟩ ?_
       ·kernel_rfl
       exact n3_
      exact AEach.nil
     refine AAny.each [4, 18] (by kernel_rfl) rfl ?_
     refine AEach.step (i := 4) [] #[y1, y1, y1, y1, y1, y1, n1, n1, y1, y1, y1, y1, y1, y1, y1, y1, y1, y1, n1, n1, n1, n1, n1] rfl [0, 1, 2, 6, 7, 8, 14, 57, 61, 62, 65, 66, 67, 74] 1 ⟨[(0, q0 v1), (1, .tv (fzL 1 (cSl 1 cStr) v2)), (2, .pc 0 0), (6, q1 v8), (7, q1 v15), (8, q1 v16), (14, tI v17), (57, .al (.slot 7 0, [])), (61, .al (.cell 0 1, [])), (62, tI v17), (65, q0 v1), (66, .tv (fzL 1 (cSl 1 cStr) v2)), (67, .pc 0 0), (74, tI (gD v3.f0 v17))], [.cells 85 [k0 v3.f0, k0 v3.f1]]⟩ ?_ (Nat.le_of_ble_eq_true rfl) trivial ?_ ?_
     ·kernel_rfl
     ·refine AAny.go (by kernel_rfl) [6] (fuel' := 6) rfl [(0 : Int) ≤ v17, v17 < (v3.f1.length : Int)] #[y1, y1, y1, y1, y1, y1, y1, n1, y1, y1, y1, y1, y1, y1, y1, y1, y1, y1, n1, n1, n1, n1, n1] [0, 1, 2, 6, 7, 8, 14, 57, 63, 65, 66, 67, 74] 1 ⟨[(0, q0 v1), (1, .tv (fzL 1 (cSl 1 cStr) v2)), (2, .pc 0 0), (6, q1 v8), (7, q1 v15), (8, q1 v16), (14, tI v17), (57, .al (.slot 7 0, [])), (63, .pe (.cell 0 1, []) v17.toNat 0 1), (65, q0 v1), (66, .tv (fzL 1 (cSl 1 cStr) v2)), (67, .pc 0 0), (74, tI (gD v3.f0 v17))], [.cells 85 [k0 v3.f0, k0 v3.f1]]⟩ ?_ (Nat.le_of_ble_eq_true rfl) ⟨hd6.1, hd6.2⟩ ?_
      ·kernel_rfl
      exact n1_
     refine AEach.one (i := 18) (AOne.callR (F := (FF 122 1)) _ rfl rfl rfl _ rfl rfl _ _ rfl Try.call52 [PlainTo v3.f0.length (fun i => (cInt .i64) (v3.f0.getD i default)), PlainTo v3.f1.length (fun i => (cInt .i64) (v3.f1.getD i default))] [q0 v1, .tv (fzL 1 (cSl 1 cStr) v2), .rp [k2 v3.f0, k2 v3.f1], tI (gD v3.f0 v17)] rfl ⟨(fun _ _ => rfl), (fun _ _ => rfl)⟩ (f52_ok v1 v2 v3 (gD v3.f0 v17) hv20) (ind_of rfl) rfl) ?_ ?_
     ·refine AAny.keepTo [0, 1, 2, 6, 7, 8, 14, 57, 60, 62, 75] 1 ⟨[(0, q0 v1), (1, .tv (fzL 1 (cSl 1 cStr) v2)), (2, .pc 0 0), (6, q1 v8), (7, q1 v15), (8, q1 v16), (14, tI v17), (57, .al (.slot 7 0, [])), (60, .pc 0 1), (62, tI v17), (75, tI v20)], [.cells 85 [k0 v3.f0, k0 v3.f1]]⟩ #[y1, y1, y1, y1, n1, y1, n1, n1, y1, y1, y1, y1, y1, y1, y1, y1, y1, y1, y1, n1, n1, n1, n1] ?_ rfl (Nat.le_of_ble_eq_true rfl) ?_
      ·kernel_rfl
      exact n2_
     exact AEach.nil
    ·replace h := of_false h hb
     refine AWp.keepTo [6, 7, 8] 1 ⟨[(6, q1 v8), (7, q1 v15), (8, q1 v16)], [.cells 85 [k0 v3.f0, k0 v3.f1]]⟩ ?_ (Nat.le_of_ble_eq_true rfl) ?_
     ·kernel_rfl
     refine AWp.exit ?_
     cases h
     exact Or.inr ⟨_, rfl, by simp, rfl, rfl⟩
   ·intro e σ hp
    rcases y with v21 | ⟨v18, v19⟩
    ·obtain ⟨rfl, rfl⟩ := hp
     cases h
     exact ⟨.inr rfl, rfl⟩
    ·obtain ⟨rfl, rfl⟩ := hp
     refine AWp.seq ?_
     refine AWp.freezeL 6 (cInt .i64) v8 rfl (fun _ => rfl) ?_
     refine AWp.freezeL 7 (cInt .i64) v18 rfl (fun _ => rfl) ?_
     refine AWp.freezeL 8 (cInt .i64) v19 rfl (fun _ => rfl) ?_
     refine AWp.start [0, 1, 2, 3, 4, 5, 6, 7] [] [] [6, 7, 8, 9, 10] 1 ⟨[(6, q2 v8), (7, q2 v18), (8, q2 v19), (9, tS ([] : List UInt8)), (10, tI (0 : Int))], [.cells 85 [k0 v3.f0, k0 v3.f1]]⟩ rfl ?_ (Nat.le_of_ble_eq_true rfl) trivial ?_
     ·kernel_rfl
     refine AOps.nil ?_
     refine AWp.ret ?_
     cases h
     exact ⟨.inr rfl, rfl⟩

noncomputable def f27_b1 (v1 : List T36) (v2 : List (List T34)) (v5 : Int) (v6 : Int) : Option (Int ⊕ Out ((List Int) × (List Int) × (List Int) × (List UInt8) × Int) Unit) :=
 if (0 : Int) ≤ v5 ∧ v5 < (v2.length : Int) then cond (decide (v6 < ((v2.getD v5.toNat default).length : Int))) (if (0 : Int) ≤ v5 ∧ v5 < (v2.length : Int) ∧ (0 : Int) ≤ v6 ∧ v6 < ((v2.getD v5.toNat default).length : Int) then (f32 v1 ((v2.getD v5.toNat default).getD v6.toNat default)).bind fun v7 => cond (!v7) (if (0 : Int) ≤ v5 ∧ v5 < (v2.length : Int) ∧ (0 : Int) ≤ v6 ∧ v6 < ((v2.getD v5.toNat default).length : Int) then some (.inr (.ret (([] : List Int), ([] : List Int), ([] : List Int), ((v2.getD v5.toNat default).getD v6.toNat default).f0, (5 : Int)))) else none) (some (.inl (w64 (v6 + (1 : Int))))) else none) (some (.inr (.go ()))) else none

noncomputable def f27_b2 (v1 : List T36) (v2 : List (List T34)) (v5 : Int) : Option (Int ⊕ Out ((List Int) × (List Int) × (List Int) × (List UInt8) × Int) Unit) :=
 cond (decide (v5 < (v2.length : Int))) ((iter (fun s => f27_b1 v1 v2 v5 s) (0 : Int)).bind fun y => match y with | .ret v8 => some (.inr (.ret (v8.1, v8.2.1, v8.2.2.1, v8.2.2.2.1, v8.2.2.2.2))) | .go _ => some (.inl (w64 (v5 + (1 : Int))))) (some (.inr (.go ())))

noncomputable def f27_b3 (v1 : List T36) (v3 : List (List (List UInt8))) (v10 : Int) (v11 : Int) : Option (Int ⊕ Out ((List Int) × (List Int) × (List Int) × (List UInt8) × Int) Unit) :=
 if (0 : Int) ≤ v10 ∧ v10 < (v3.length : Int) then cond (decide (v11 < ((v3.getD v10.toNat default).length : Int))) (if (0 : Int) ≤ v10 ∧ v10 < (v3.length : Int) ∧ (0 : Int) ≤ v11 ∧ v11 < ((v3.getD v10.toNat default).length : Int) then (f33 v1 ((v3.getD v10.toNat default).getD v11.toNat default)).bind fun v12 => cond (decide (v12 < (0 : Int))) (if (0 : Int) ≤ v10 ∧ v10 < (v3.length : Int) ∧ (0 : Int) ≤ v11 ∧ v11 < ((v3.getD v10.toNat default).length : Int) then some (.inr (.ret (([] : List Int), ([] : List Int), ([] : List Int), (v3.getD v10.toNat default).getD v11.toNat default, (5 : Int)))) else none) (some (.inl (w64 (v11 + (1 : Int))))) else none) (some (.inr (.go ()))) else none

noncomputable def f27_b4 (v1 : List T36) (v3 : List (List (List UInt8))) (v10 : Int) : Option (Int ⊕ Out ((List Int) × (List Int) × (List Int) × (List UInt8) × Int) Unit) :=
 cond (decide (v10 < (v3.length : Int))) ((iter (fun s => f27_b3 v1 v3 v10 s) (0 : Int)).bind fun y => match y with | .ret v13 => some (.inr (.ret (v13.1, v13.2.1, v13.2.2.1, v13.2.2.2.1, v13.2.2.2.2))) | .go _ => some (.inl (w64 (v10 + (1 : Int))))) (some (.inr (.go ())))

noncomputable def f27_b5 (v1 : List T36) (v3 : List (List (List UInt8))) (v16 : Int) (v17 : List Bool) (v18 : Int) : Option (((List Bool) × Int) ⊕ Out ((List Int) × (List Int) × (List Int) × (List UInt8) × Int) (List Bool)) :=
 if (0 : Int) ≤ v16 ∧ v16 < (v3.length : Int) then cond (decide (v18 < ((v3.getD v16.toNat default).length : Int))) (if (0 : Int) ≤ v16 ∧ v16 < (v3.length : Int) ∧ (0 : Int) ≤ v18 ∧ v18 < ((v3.getD v16.toNat default).length : Int) then (f33 v1 ((v3.getD v16.toNat default).getD v18.toNat default)).bind fun v20 => if (0 : Int) ≤ v20 ∧ v20 < (v17.length : Int) then cond (v17.getD v20.toNat default) (if (0 : Int) ≤ v16 ∧ v16 < (v3.length : Int) ∧ (0 : Int) ≤ v18 ∧ v18 < ((v3.getD v16.toNat default).length : Int) then some (.inr (.ret (([] : List Int), ([] : List Int), ([] : List Int), (v3.getD v16.toNat default).getD v18.toNat default, (8 : Int)))) else none) (if (0 : Int) ≤ v20 ∧ v20 < (v17.length : Int) then some (.inl (v17.set v20.toNat true, w64 (v18 + (1 : Int)))) else none) else none else none) (some (.inr (.go v17))) else none

noncomputable def f27_b6 (v1 : List T36) (v3 : List (List (List UInt8))) (v15 : List Bool) (v16 : Int) : Option (((List Bool) × Int) ⊕ Out ((List Int) × (List Int) × (List Int) × (List UInt8) × Int) Unit) :=
 cond (decide (v16 < (v3.length : Int))) ((iter (fun s => f27_b5 v1 v3 v16 s.1 s.2) (v15, (0 : Int))).bind fun y => match y with | .ret v21 => some (.inr (.ret (v21.1, v21.2.1, v21.2.2.1, v21.2.2.2.1, v21.2.2.2.2))) | .go v19 => some (.inl (v19, w64 (v16 + (1 : Int))))) (some (.inr (.go ())))

noncomputable def f27 (v1 : List T36) (v2 : List (List T34)) (v3 : List (List (List UInt8))) : Option ((List Int) × (List Int) × (List Int) × (List UInt8) × Int) :=
 (f38 v1 v2 v3).bind fun v4 => cond (!v4) (some (([] : List Int), ([] : List Int), ([] : List Int), ([] : List UInt8), (2 : Int))) ((iter (fun s => f27_b2 v1 v2 s) (0 : Int)).bind fun y => match y with | .ret v9 => some (v9.1, v9.2.1, v9.2.2.1, v9.2.2.2.1, v9.2.2.2.2) | .go _ => if (1 : Int) * (v1.length : Int) ≤ 281474976710656 ∧ (v1.length : Int) ≤ 9223372036854775807 then (iter (fun s => f27_b4 v1 v3 s) (0 : Int)).bind fun y => match y with | .ret v14 => some (v14.1, v14.2.1, v14.2.2.1, v14.2.2.2.1, v14.2.2.2.2) | .go _ => (iter (fun s => f27_b6 v1 v3 s.1 s.2) (List.replicate (Int.toNat (v1.length : Int)) false, (0 : Int))).bind fun y => match y with | .ret v22 => some (v22.1, v22.2.1, v22.2.2.1, v22.2.2.2.1, v22.2.2.2.2) | .go _ => (f39 v1 v2 v3).bind fun v23 => match v23 with | (none, v25, v26) => cond (!v26) (some (([] : List Int), ([] : List Int), ([] : List Int), v25, (110 : Int))) ((f40_z2 v1 v3).bind fun v27 => some (v27.1, v27.2.1, v27.2.2.1, v27.2.2.2.1, v27.2.2.2.2)) | (some v24, v25, v26) => cond (!v26) (some (([] : List Int), ([] : List Int), ([] : List Int), v25, (110 : Int))) ((f40o v1 v3 (T84.mk v24.f0 v24.f1)).bind fun v28 => some (v28.1, v28.2.1, v28.2.2.1, v28.2.2.2.1, v28.2.2.2.2)) else none)

theorem f27_ok (v1 : List T36) (v2 : List (List T34)) (v3 : List (List (List UInt8))) {r : (List Int) × (List Int) × (List Int) × (List UInt8) × Int} (h : f27 v1 v2 v3 = some r) : ACall Try.prog 27 [.tv (fzL 3 c36 v1), .tv (fzL 1 (cSl 2 c34) v2), .tv (fzL 1 (cSl 1 cStr) v3)] [] (.tup [.tv (fzL 1 (cInt .i64) r.1), .tv (fzL 1 (cInt .i64) r.2.1), .tv (fzL 1 (cInt .i64) r.2.2.1), .tv (.str r.2.2.2.1), .tv (.int .i64 r.2.2.2.2)]) [] := by
 refine ACall.ofN (FF 152 0) (rs := [6, 7, 8, 9, 10]) (env := [(6, q2 r.1), (7, q2 r.2.1), (8, q2 r.2.2.1), (9, tS r.2.2.2.1), (10, tI r.2.2.2.2)]) Try.func27 rfl Try.ntmps27 Try.results27 (by decide) (by decide) rfl (Nat.le_of_ble_eq_true rfl) rfl (get_ofN _ _ _ rfl) (ok_ofN _ rfl) ?_
 refine AWp.seq ?_
 refine AWp.start [0, 1, 2, 3, 4] [] [] [0, 1, 2] 0 ⟨[(0, q0 v1), (1, .tv (fzL 1 (cSl 2 c34) v2)), (2, .tv (fzL 1 (cSl 1 cStr) v3))], []⟩ rfl ?_ z0 trivial ?_
 ·kernel_rfl
 refine AOps.nil ?_
 refine AWp.seq ?_
 refine AWp.seq ?_
 refine AWp.start [0, 1, 2] [3, 4] [] [0, 1, 2, 21, 22, 23] 0 ⟨[(0, q0 v1), (1, .tv (fzL 1 (cSl 2 c34) v2)), (2, .tv (fzL 1 (cSl 1 cStr) v3)), (21, q0 v1), (22, .tv (fzL 1 (cSl 2 c34) v2)), (23, .tv (fzL 1 (cSl 1 cStr) v3))], []⟩ rfl ?_ z0 trivial ?_
 ·kernel_rfl
 obtain ⟨v4, hv4, h⟩ := of_bind h
 refine AOps.cons (AOne.callP (F := (FF 152 0)) _ rfl rfl rfl _ rfl rfl _ _ rfl Try.call38 [q0 v1, .tv (fzL 1 (cSl 2 c34) v2), .tv (fzL 1 (cSl 1 cStr) v3)] rfl rfl (f38_ok v1 v2 v3 hv4) rfl) ?_
 refine AOps.go [4] [] [] [0, 1, 2, 25] 0 ⟨[(0, q0 v1), (1, .tv (fzL 1 (cSl 2 c34) v2)), (2, .tv (fzL 1 (cSl 1 cStr) v3)), (25, tB (!v4))], []⟩ ?_ z0 trivial ?_
 ·kernel_rfl
 refine AOps.nil ?_
 refine AWp.cond rfl (fun hb => ?_) fun hb => ?_
 ·replace h := of_true h hb
  refine AWp.keepTo [] 0 ⟨[], []⟩ ?_ z0 ?_
  ·kernel_rfl
  refine AWp.seq ?_
  refine AWp.start [0, 1, 2, 3, 4] [] [] [6, 7, 8, 9, 10] 0 ⟨[(6, .tv (.sc (.slice none 0 0))), (7, .tv (.sc (.slice none 0 0))), (8, .tv (.sc (.slice none 0 0))), (9, tS ([] : List UInt8)), (10, tI (2 : Int))], []⟩ rfl ?_ z0 trivial ?_
  ·kernel_rfl
  refine AOps.nil ?_
  refine AWp.nilFz 6 1 (fun i => (cInt .i64) (([] : List Int).getD i default)) rfl ?_
  refine AWp.nilFz 7 1 (fun i => (cInt .i64) (([] : List Int).getD i default)) rfl ?_
  refine AWp.nilFz 8 1 (fun i => (cInt .i64) (([] : List Int).getD i default)) rfl ?_
  refine AWp.keepTo [6, 7, 8, 9, 10] 0 ⟨[(6, q2 ([] : List Int)), (7, q2 ([] : List Int)), (8, q2 ([] : List Int)), (9, tS ([] : List UInt8)), (10, tI (2 : Int))], []⟩ ?_ z0 ?_
  ·kernel_rfl
  refine AWp.ret ?_
  cases h
  exact ⟨.inr rfl, rfl⟩
 ·replace h := of_false h hb
  refine AWp.keepTo [0, 1, 2] 0 ⟨[(0, q0 v1), (1, .tv (fzL 1 (cSl 2 c34) v2)), (2, .tv (fzL 1 (cSl 1 cStr) v3))], []⟩ ?_ z0 ?_
  ·kernel_rfl
  refine AWp.skip ?_
  refine AWp.seq ?_
  refine AWp.seq ?_
  refine AWp.start [0] [] [] [0, 1, 2, 11] 0 ⟨[(0, q0 v1), (1, .tv (fzL 1 (cSl 2 c34) v2)), (2, .tv (fzL 1 (cSl 1 cStr) v3)), (11, tI (0 : Int))], []⟩ rfl ?_ z0 trivial ?_
  ·kernel_rfl
  refine AOps.nil ?_
  refine AWp.block ?_
  obtain ⟨y, hy, h⟩ := of_bind h
  refine AWp.mono (AWp.loop (S := Int) (Y := Out ((List Int) × (List Int) × (List Int) × (List UInt8) × Int) Unit) (fun s => ⟨[(0, q0 v1), (1, .tv (fzL 1 (cSl 2 c34) v2)), (2, .tv (fzL 1 (cSl 1 cStr) v3)), (11, tI s)], []⟩) (fun s => f27_b2 v1 v2 s) (fun y e σ => match y with | .ret r => e = .ret ∧ σ = ⟨[(6, q2 r.1), (7, q2 r.2.1), (8, q2 r.2.2.1), (9, tS r.2.2.2.1), (10, tI r.2.2.2.2)], []⟩ | .go v => e = .exit 0 ∧ σ = ⟨[(0, q0 v1), (1, .tv (fzL 1 (cSl 2 c34) v2)), (2, .tv (fzL 1 (cSl 1 cStr) v3))], []⟩) ?_ hy) ?_
  ·rintro v5 o h
   refine AWp.seq ?_
   refine AWp.seq ?_
   refine AWp.start [0, 1, 2, 3] [] [] [0, 1, 2, 11, 29] 0 ⟨[(0, q0 v1), (1, .tv (fzL 1 (cSl 2 c34) v2)), (2, .tv (fzL 1 (cSl 1 cStr) v3)), (11, tI v5), (29, tB (decide (v5 < (v2.length : Int))))], []⟩ rfl ?_ z0 trivial ?_
   ·kernel_rfl
   refine AOps.nil ?_
   refine AWp.cond rfl (fun hb => ?_) fun hb => ?_
   ·replace h := of_true h hb
    refine AWp.keepTo [0, 1, 2, 11] 0 ⟨[(0, q0 v1), (1, .tv (fzL 1 (cSl 2 c34) v2)), (2, .tv (fzL 1 (cSl 1 cStr) v3)), (11, tI v5)], []⟩ ?_ z0 ?_
    ·kernel_rfl
    refine AWp.skip ?_
    refine AWp.seq ?_
    refine AWp.block ?_
    refine AWp.seq ?_
    refine AWp.start [0] [] [] [0, 1, 2, 11, 12] 0 ⟨[(0, q0 v1), (1, .tv (fzL 1 (cSl 2 c34) v2)), (2, .tv (fzL 1 (cSl 1 cStr) v3)), (11, tI v5), (12, tI (0 : Int))], []⟩ rfl ?_ z0 trivial ?_
    ·kernel_rfl
    refine AOps.nil ?_
    refine AWp.block ?_
    obtain ⟨y, hy, h⟩ := of_bind h
    refine AWp.mono (AWp.loop (S := Int) (Y := Out ((List Int) × (List Int) × (List Int) × (List UInt8) × Int) Unit) (fun s => ⟨[(0, q0 v1), (1, .tv (fzL 1 (cSl 2 c34) v2)), (2, .tv (fzL 1 (cSl 1 cStr) v3)), (11, tI v5), (12, tI s)], []⟩) (fun s => f27_b1 v1 v2 v5 s) (fun y e σ => match y with | .ret r => e = .ret ∧ σ = ⟨[(6, q2 r.1), (7, q2 r.2.1), (8, q2 r.2.2.1), (9, tS r.2.2.2.1), (10, tI r.2.2.2.2)], []⟩ | .go v => e = .exit 2 ∧ σ = ⟨[(0, q0 v1), (1, .tv (fzL 1 (cSl 2 c34) v2)), (2, .tv (fzL 1 (cSl 1 cStr) v3)), (11, tI v5)], []⟩) ?_ hy) ?_
    ·rintro v6 o h
     refine AWp.seq ?_
     refine AWp.seq ?_
     obtain ⟨hg, h⟩ := of_guard h
     refine AWp.start [0, 1, 2, 3, 4, 5, 6] [] [(0 : Int) ≤ v5, v5 < (v2.length : Int)] [0, 1, 2, 11, 12, 38] 0 ⟨[(0, q0 v1), (1, .tv (fzL 1 (cSl 2 c34) v2)), (2, .tv (fzL 1 (cSl 1 cStr) v3)), (11, tI v5), (12, tI v6), (38, tB (decide (v6 < ((gD v2 v5).length : Int))))], []⟩ rfl ?_ z0 ⟨hg.1, hg.2⟩ ?_
     ·kernel_rfl
     refine AOps.nil ?_
     refine AWp.cond rfl (fun hb => ?_) fun hb => ?_
     ·replace h := of_true h hb
      refine AWp.keepTo [0, 1, 2, 11, 12] 0 ⟨[(0, q0 v1), (1, .tv (fzL 1 (cSl 2 c34) v2)), (2, .tv (fzL 1 (cSl 1 cStr) v3)), (11, tI v5), (12, tI v6)], []⟩ ?_ z0 ?_
      ·kernel_rfl
      refine AWp.skip ?_
      refine AWp.seq ?_
      refine AWp.block ?_
      refine AWp.seq ?_
      obtain ⟨hg, h⟩ := of_guard h
      refine AWp.start [0, 1, 2, 3, 4, 5, 6, 7] [8, 9] [(0 : Int) ≤ v5, v5 < (v2.length : Int), (0 : Int) ≤ v6, v6 < ((gD v2 v5).length : Int)] [0, 1, 2, 11, 12, 41, 48] 0 ⟨[(0, q0 v1), (1, .tv (fzL 1 (cSl 2 c34) v2)), (2, .tv (fzL 1 (cSl 1 cStr) v3)), (11, tI v5), (12, tI v6), (41, q0 v1), (48, .agg (c34 (gD (gD v2 v5) v6)))], []⟩ rfl ?_ z0 ⟨hg.1, hg.2.1, hg.2.2.1, hg.2.2.2⟩ ?_
      ·kernel_rfl
      obtain ⟨v7, hv7, h⟩ := of_bind h
      refine AOps.cons (AOne.callP (F := (FF 152 0)) _ rfl rfl rfl _ rfl rfl _ _ rfl Try.call32 [q0 v1, .agg (c34 (gD (gD v2 v5) v6))] rfl rfl (f32_ok v1 (gD (gD v2 v5) v6) hv7) rfl) ?_
      refine AOps.go [9] [] [] [0, 1, 2, 11, 12, 50] 0 ⟨[(0, q0 v1), (1, .tv (fzL 1 (cSl 2 c34) v2)), (2, .tv (fzL 1 (cSl 1 cStr) v3)), (11, tI v5), (12, tI v6), (50, tB (!v7))], []⟩ ?_ z0 trivial ?_
      ·kernel_rfl
      refine AOps.nil ?_
      refine AWp.cond rfl (fun hb => ?_) fun hb => ?_
      ·replace h := of_true h hb
       refine AWp.keepTo [1, 11, 12] 0 ⟨[(1, .tv (fzL 1 (cSl 2 c34) v2)), (11, tI v5), (12, tI v6)], []⟩ ?_ z0 ?_
       ·kernel_rfl
       refine AWp.seq ?_
       refine AWp.draw FFm _ (n := 13) rfl (ls := #[n1, n1, n1, n1, n1, n1, n1, n1, n1, n1, n1, n1, n1]) rfl ?_ (fun _ h => h)
       obtain ⟨hg, h⟩ := of_guard h
       refine AAny.go (by kernel_rfl) [0, 1, 2, 3, 4, 5, 6, 7, 8, 9, 10, 11, 12] (fuel' := 0) rfl [(0 : Int) ≤ v5, v5 < (v2.length : Int), (0 : Int) ≤ v6, v6 < ((gD v2 v5).length : Int)] #[y1, y1, y1, y1, y1, y1, y1, y1, y1, y1, y1, y1, y1] [6, 7, 8, 9, 10] 0 ⟨[(6, .tv (.sc (.slice none 0 0))), (7, .tv (.sc (.slice none 0 0))), (8, .tv (.sc (.slice none 0 0))), (9, tS ((gD (gD v2 v5) v6).f0)), (10, tI (5 : Int))], []⟩ ?_ z0 ⟨hg.1, hg.2.1, hg.2.2.1, hg.2.2.2⟩ ?_
       ·kernel_rfl
       refine AAny.keepTo [6, 7, 8, 9, 10] 0 ⟨[(6, .tv (.sc (.slice none 0 0))), (7, .tv (.sc (.slice none 0 0))), (8, .tv (.sc (.slice none 0 0))), (9, tS ((gD (gD v2 v5) v6).f0)), (10, tI (5 : Int))], []⟩ _ ?_ rfl z0 (AAny.done (by kernel_rfl) ?_)
       ·kernel_rfl
       refine AWp.nilFz 6 1 (fun i => (cInt .i64) (([] : List Int).getD i default)) rfl ?_
       refine AWp.nilFz 7 1 (fun i => (cInt .i64) (([] : List Int).getD i default)) rfl ?_
       refine AWp.nilFz 8 1 (fun i => (cInt .i64) (([] : List Int).getD i default)) rfl ?_
       refine AWp.keepTo [6, 7, 8, 9, 10] 0 ⟨[(6, q2 ([] : List Int)), (7, q2 ([] : List Int)), (8, q2 ([] : List Int)), (9, tS ((gD (gD v2 v5) v6).f0)), (10, tI (5 : Int))], []⟩ ?_ z0 ?_
       ·kernel_rfl
       refine AWp.ret ?_
       cases h
       exact Or.inr ⟨_, rfl, by simp, rfl, rfl⟩
      ·replace h := of_false h hb
       refine AWp.keepTo [0, 1, 2, 11, 12] 0 ⟨[(0, q0 v1), (1, .tv (fzL 1 (cSl 2 c34) v2)), (2, .tv (fzL 1 (cSl 1 cStr) v3)), (11, tI v5), (12, tI v6)], []⟩ ?_ z0 ?_
       ·kernel_rfl
       refine AWp.skip ?_
       refine AWp.start [0, 1, 2] [] [] [0, 1, 2, 11, 12] 0 ⟨[(0, q0 v1), (1, .tv (fzL 1 (cSl 2 c34) v2)), (2, .tv (fzL 1 (cSl 1 cStr) v3)), (11, tI v5), (12, tI (w64 (v6 + (1 : Int))))], []⟩ rfl ?_ z0 trivial ?_
       ·kernel_rfl
       refine AOps.nil ?_
       cases h
       exact Or.inl ⟨_, rfl, rfl, rfl⟩
     ·replace h := of_false h hb
      refine AWp.keepTo [0, 1, 2, 11] 0 ⟨[(0, q0 v1), (1, .tv (fzL 1 (cSl 2 c34) v2)), (2, .tv (fzL 1 (cSl 1 cStr) v3)), (11, tI v5)], []⟩ ?_ z0 ?_
      ·kernel_rfl
      refine AWp.exit ?_
      cases h
      exact Or.inr ⟨_, rfl, by simp, rfl, rfl⟩
    ·intro e σ hp
     rcases y with v8 | _
     ·obtain ⟨rfl, rfl⟩ := hp
      cases h
      exact Or.inr ⟨_, rfl, by simp, rfl, rfl⟩
     ·obtain ⟨rfl, rfl⟩ := hp
      refine AWp.start [0, 1, 2] [] [] [0, 1, 2, 11] 0 ⟨[(0, q0 v1), (1, .tv (fzL 1 (cSl 2 c34) v2)), (2, .tv (fzL 1 (cSl 1 cStr) v3)), (11, tI (w64 (v5 + (1 : Int))))], []⟩ rfl ?_ z0 trivial ?_
      ·kernel_rfl
      refine AOps.nil ?_
      cases h
      exact Or.inl ⟨_, rfl, rfl, rfl⟩
   ·replace h := of_false h hb
    refine AWp.keepTo [0, 1, 2] 0 ⟨[(0, q0 v1), (1, .tv (fzL 1 (cSl 2 c34) v2)), (2, .tv (fzL 1 (cSl 1 cStr) v3))], []⟩ ?_ z0 ?_
    ·kernel_rfl
    refine AWp.exit ?_
    cases h
    exact Or.inr ⟨_, rfl, by simp, rfl, rfl⟩
  ·intro e σ hp
   rcases y with v9 | _
   ·obtain ⟨rfl, rfl⟩ := hp
    cases h
    exact ⟨.inr rfl, rfl⟩
   ·obtain ⟨rfl, rfl⟩ := hp
    refine AWp.seq ?_
    obtain ⟨hg, h⟩ := of_guard h
    refine AWp.start [0, 1, 2] [3] [(v1.length : Int) = (v1.length : Int), (0 : Int) ≤ (v1.length : Int), (1 : Int) * (v1.length : Int) ≤ 281474976710656, (v1.length : Int) ≤ 9223372036854775807] [0, 1, 2, 61] 0 ⟨[(0, q0 v1), (1, .tv (fzL 1 (cSl 2 c34) v2)), (2, .tv (fzL 1 (cSl 1 cStr) v3)), (61, .tv (.own 1 4 (Int.toNat (v1.length : Int)) (zerosF [.bool false])))], []⟩ rfl ?_ z0 ⟨rfl, (Int.natCast_nonneg (v1.length)), hg.1, hg.2⟩ ?_
    ·kernel_rfl
    refine AOps.extL 61 cBool (List.replicate (Int.toNat (v1.length : Int)) false) rfl (by simp) (zero_at cBool _ false rfl _) ?_
    refine AOps.go [3] [] [] [0, 1, 2, 13] 0 ⟨[(0, q0 v1), (1, .tv (fzL 1 (cSl 2 c34) v2)), (2, .tv (fzL 1 (cSl 1 cStr) v3)), (13, .tv (ownL 1 4 cBool (List.replicate (Int.toNat (v1.length : Int)) false)))], []⟩ ?_ z0 trivial ?_
    ·kernel_rfl
    refine AOps.nil ?_
    refine AWp.seq ?_
    refine AWp.seq ?_
    refine AWp.start [0] [] [] [0, 1, 2, 13, 14] 0 ⟨[(0, q0 v1), (1, .tv (fzL 1 (cSl 2 c34) v2)), (2, .tv (fzL 1 (cSl 1 cStr) v3)), (13, .tv (ownL 1 4 cBool (List.replicate (Int.toNat (v1.length : Int)) false))), (14, tI (0 : Int))], []⟩ rfl ?_ z0 trivial ?_
    ·kernel_rfl
    refine AOps.nil ?_
    refine AWp.block ?_
    obtain ⟨y, hy, h⟩ := of_bind h
    refine AWp.mono (AWp.loop (S := Int) (Y := Out ((List Int) × (List Int) × (List Int) × (List UInt8) × Int) Unit) (fun s => ⟨[(0, q0 v1), (1, .tv (fzL 1 (cSl 2 c34) v2)), (2, .tv (fzL 1 (cSl 1 cStr) v3)), (13, .tv (ownL 1 4 cBool (List.replicate (Int.toNat (v1.length : Int)) false))), (14, tI s)], []⟩) (fun s => f27_b4 v1 v3 s) (fun y e σ => match y with | .ret r => e = .ret ∧ σ = ⟨[(6, q2 r.1), (7, q2 r.2.1), (8, q2 r.2.2.1), (9, tS r.2.2.2.1), (10, tI r.2.2.2.2)], []⟩ | .go v => e = .exit 4 ∧ σ = ⟨[(0, q0 v1), (1, .tv (fzL 1 (cSl 2 c34) v2)), (2, .tv (fzL 1 (cSl 1 cStr) v3)), (13, .tv (ownL 1 4 cBool (List.replicate (Int.toNat (v1.length : Int)) false)))], []⟩) ?_ hy) ?_
    ·rintro v10 o h
     refine AWp.seq ?_
     refine AWp.seq ?_
     refine AWp.start [0, 1, 2, 3] [] [] [0, 1, 2, 13, 14, 65] 0 ⟨[(0, q0 v1), (1, .tv (fzL 1 (cSl 2 c34) v2)), (2, .tv (fzL 1 (cSl 1 cStr) v3)), (13, .tv (ownL 1 4 cBool (List.replicate (Int.toNat (v1.length : Int)) false))), (14, tI v10), (65, tB (decide (v10 < (v3.length : Int))))], []⟩ rfl ?_ z0 trivial ?_
     ·kernel_rfl
     refine AOps.nil ?_
     refine AWp.cond rfl (fun hb => ?_) fun hb => ?_
     ·replace h := of_true h hb
      refine AWp.keepTo [0, 1, 2, 13, 14] 0 ⟨[(0, q0 v1), (1, .tv (fzL 1 (cSl 2 c34) v2)), (2, .tv (fzL 1 (cSl 1 cStr) v3)), (13, .tv (ownL 1 4 cBool (List.replicate (Int.toNat (v1.length : Int)) false))), (14, tI v10)], []⟩ ?_ z0 ?_
      ·kernel_rfl
      refine AWp.skip ?_
      refine AWp.seq ?_
      refine AWp.block ?_
      refine AWp.seq ?_
      refine AWp.start [0] [] [] [0, 1, 2, 13, 14, 15] 0 ⟨[(0, q0 v1), (1, .tv (fzL 1 (cSl 2 c34) v2)), (2, .tv (fzL 1 (cSl 1 cStr) v3)), (13, .tv (ownL 1 4 cBool (List.replicate (Int.toNat (v1.length : Int)) false))), (14, tI v10), (15, tI (0 : Int))], []⟩ rfl ?_ z0 trivial ?_
      ·kernel_rfl
      refine AOps.nil ?_
      refine AWp.block ?_
      obtain ⟨y, hy, h⟩ := of_bind h
      refine AWp.mono (AWp.loop (S := Int) (Y := Out ((List Int) × (List Int) × (List Int) × (List UInt8) × Int) Unit) (fun s => ⟨[(0, q0 v1), (1, .tv (fzL 1 (cSl 2 c34) v2)), (2, .tv (fzL 1 (cSl 1 cStr) v3)), (13, .tv (ownL 1 4 cBool (List.replicate (Int.toNat (v1.length : Int)) false))), (14, tI v10), (15, tI s)], []⟩) (fun s => f27_b3 v1 v3 v10 s) (fun y e σ => match y with | .ret r => e = .ret ∧ σ = ⟨[(6, q2 r.1), (7, q2 r.2.1), (8, q2 r.2.2.1), (9, tS r.2.2.2.1), (10, tI r.2.2.2.2)], []⟩ | .go v => e = .exit 6 ∧ σ = ⟨[(0, q0 v1), (1, .tv (fzL 1 (cSl 2 c34) v2)), (2, .tv (fzL 1 (cSl 1 cStr) v3)), (13, .tv (ownL 1 4 cBool (List.replicate (Int.toNat (v1.length : Int)) false))), (14, tI v10)], []⟩) ?_ hy) ?_
      ·rintro v11 o h
       refine AWp.seq ?_
       refine AWp.seq ?_
       obtain ⟨hg, h⟩ := of_guard h
       refine AWp.start [0, 1, 2, 3, 4, 5, 6] [] [(0 : Int) ≤ v10, v10 < (v3.length : Int)] [0, 1, 2, 13, 14, 15, 74] 0 ⟨[(0, q0 v1), (1, .tv (fzL 1 (cSl 2 c34) v2)), (2, .tv (fzL 1 (cSl 1 cStr) v3)), (13, .tv (ownL 1 4 cBool (List.replicate (Int.toNat (v1.length : Int)) false))), (14, tI v10), (15, tI v11), (74, tB (decide (v11 < ((gD v3 v10).length : Int))))], []⟩ rfl ?_ z0 ⟨hg.1, hg.2⟩ ?_
       ·kernel_rfl
       refine AOps.nil ?_
       refine AWp.cond rfl (fun hb => ?_) fun hb => ?_
       ·replace h := of_true h hb
        refine AWp.keepTo [0, 1, 2, 13, 14, 15] 0 ⟨[(0, q0 v1), (1, .tv (fzL 1 (cSl 2 c34) v2)), (2, .tv (fzL 1 (cSl 1 cStr) v3)), (13, .tv (ownL 1 4 cBool (List.replicate (Int.toNat (v1.length : Int)) false))), (14, tI v10), (15, tI v11)], []⟩ ?_ z0 ?_
        ·kernel_rfl
        refine AWp.skip ?_
        refine AWp.seq ?_
        refine AWp.block ?_
        refine AWp.seq ?_
        obtain ⟨hg, h⟩ := of_guard h
        refine AWp.start [0, 1, 2, 3, 4, 5, 6, 7] [8, 9] [(0 : Int) ≤ v10, v10 < (v3.length : Int), (0 : Int) ≤ v11, v11 < ((gD v3 v10).length : Int)] [0, 1, 2, 13, 14, 15, 77, 84] 0 ⟨[(0, q0 v1), (1, .tv (fzL 1 (cSl 2 c34) v2)), (2, .tv (fzL 1 (cSl 1 cStr) v3)), (13, .tv (ownL 1 4 cBool (List.replicate (Int.toNat (v1.length : Int)) false))), (14, tI v10), (15, tI v11), (77, q0 v1), (84, tS (gD (gD v3 v10) v11))], []⟩ rfl ?_ z0 ⟨hg.1, hg.2.1, hg.2.2.1, hg.2.2.2⟩ ?_
        ·kernel_rfl
        obtain ⟨v12, hv12, h⟩ := of_bind h
        refine AOps.cons (AOne.callP (F := (FF 152 0)) _ rfl rfl rfl _ rfl rfl _ _ rfl Try.call33 [q0 v1, tS (gD (gD v3 v10) v11)] rfl rfl (f33_ok v1 (gD (gD v3 v10) v11) hv12) rfl) ?_
        refine AOps.go [9] [] [] [0, 1, 2, 13, 14, 15, 86] 0 ⟨[(0, q0 v1), (1, .tv (fzL 1 (cSl 2 c34) v2)), (2, .tv (fzL 1 (cSl 1 cStr) v3)), (13, .tv (ownL 1 4 cBool (List.replicate (Int.toNat (v1.length : Int)) false))), (14, tI v10), (15, tI v11), (86, tB (decide (v12 < (0 : Int))))], []⟩ ?_ z0 trivial ?_
        ·kernel_rfl
        refine AOps.nil ?_
        refine AWp.cond rfl (fun hb => ?_) fun hb => ?_
        ·replace h := of_true h hb
         refine AWp.keepTo [2, 14, 15] 0 ⟨[(2, .tv (fzL 1 (cSl 1 cStr) v3)), (14, tI v10), (15, tI v11)], []⟩ ?_ z0 ?_
         ·kernel_rfl
         refine AWp.seq ?_
         refine AWp.draw FFm _ (n := 12) rfl (ls := #[n1, n1, n1, n1, n1, n1, n1, n1, n1, n1, n1, n1]) rfl ?_ (fun _ h => h)
         obtain ⟨hg, h⟩ := of_guard h
         refine AAny.go (by kernel_rfl) [0, 1, 2, 3, 4, 5, 6, 7, 8, 9, 10, 11] (fuel' := 0) rfl [(0 : Int) ≤ v10, v10 < (v3.length : Int), (0 : Int) ≤ v11, v11 < ((gD v3 v10).length : Int)] #[y1, y1, y1, y1, y1, y1, y1, y1, y1, y1, y1, y1] [6, 7, 8, 9, 10] 0 ⟨[(6, .tv (.sc (.slice none 0 0))), (7, .tv (.sc (.slice none 0 0))), (8, .tv (.sc (.slice none 0 0))), (9, tS (gD (gD v3 v10) v11)), (10, tI (5 : Int))], []⟩ ?_ z0 ⟨hg.1, hg.2.1, hg.2.2.1, hg.2.2.2⟩ ?_
         ·kernel_rfl
         refine AAny.keepTo [6, 7, 8, 9, 10] 0 ⟨[(6, .tv (.sc (.slice none 0 0))), (7, .tv (.sc (.slice none 0 0))), (8, .tv (.sc (.slice none 0 0))), (9, tS (gD (gD v3 v10) v11)), (10, tI (5 : Int))], []⟩ _ ?_ rfl z0 (AAny.done (by kernel_rfl) ?_)
         ·kernel_rfl
         refine AWp.nilFz 6 1 (fun i => (cInt .i64) (([] : List Int).getD i default)) rfl ?_
         refine AWp.nilFz 7 1 (fun i => (cInt .i64) (([] : List Int).getD i default)) rfl ?_
         refine AWp.nilFz 8 1 (fun i => (cInt .i64) (([] : List Int).getD i default)) rfl ?_
         refine AWp.keepTo [6, 7, 8, 9, 10] 0 ⟨[(6, q2 ([] : List Int)), (7, q2 ([] : List Int)), (8, q2 ([] : List Int)), (9, tS (gD (gD v3 v10) v11)), (10, tI (5 : Int))], []⟩ ?_ z0 ?_
         ·kernel_rfl
         refine AWp.ret ?_
         cases h
         exact Or.inr ⟨_, rfl, by simp, rfl, rfl⟩
        ·replace h := of_false h hb
         refine AWp.keepTo [0, 1, 2, 13, 14, 15] 0 ⟨[(0, q0 v1), (1, .tv (fzL 1 (cSl 2 c34) v2)), (2, .tv (fzL 1 (cSl 1 cStr) v3)), (13, .tv (ownL 1 4 cBool (List.replicate (Int.toNat (v1.length : Int)) false))), (14, tI v10), (15, tI v11)], []⟩ ?_ z0 ?_
         ·kernel_rfl
         refine AWp.skip ?_
         refine AWp.start [0, 1, 2] [] [] [0, 1, 2, 13, 14, 15] 0 ⟨[(0, q0 v1), (1, .tv (fzL 1 (cSl 2 c34) v2)), (2, .tv (fzL 1 (cSl 1 cStr) v3)), (13, .tv (ownL 1 4 cBool (List.replicate (Int.toNat (v1.length : Int)) false))), (14, tI v10), (15, tI (w64 (v11 + (1 : Int))))], []⟩ rfl ?_ z0 trivial ?_
         ·kernel_rfl
         refine AOps.nil ?_
         cases h
         exact Or.inl ⟨_, rfl, rfl, rfl⟩
       ·replace h := of_false h hb
        refine AWp.keepTo [0, 1, 2, 13, 14] 0 ⟨[(0, q0 v1), (1, .tv (fzL 1 (cSl 2 c34) v2)), (2, .tv (fzL 1 (cSl 1 cStr) v3)), (13, .tv (ownL 1 4 cBool (List.replicate (Int.toNat (v1.length : Int)) false))), (14, tI v10)], []⟩ ?_ z0 ?_
        ·kernel_rfl
        refine AWp.exit ?_
        cases h
        exact Or.inr ⟨_, rfl, by simp, rfl, rfl⟩
      ·intro e σ hp
       rcases y with v13 | _
       ·obtain ⟨rfl, rfl⟩ := hp
        cases h
        exact Or.inr ⟨_, rfl, by simp, rfl, rfl⟩
       ·obtain ⟨rfl, rfl⟩ := hp
        refine AWp.start [0, 1, 2] [] [] [0, 1, 2, 13, 14] 0 ⟨[(0, q0 v1), (1, .tv (fzL 1 (cSl 2 c34) v2)), (2, .tv (fzL 1 (cSl 1 cStr) v3)), (13, .tv (ownL 1 4 cBool (List.replicate (Int.toNat (v1.length : Int)) false))), (14, tI (w64 (v10 + (1 : Int))))], []⟩ rfl ?_ z0 trivial ?_
        ·kernel_rfl
        refine AOps.nil ?_
        cases h
        exact Or.inl ⟨_, rfl, rfl, rfl⟩
     ·replace h := of_false h hb
      refine AWp.keepTo [0, 1, 2, 13] 0 ⟨[(0, q0 v1), (1, .tv (fzL 1 (cSl 2 c34) v2)), (2, .tv (fzL 1 (cSl 1 cStr) v3)), (13, .tv (ownL 1 4 cBool (List.replicate (Int.toNat (v1.length : Int)) false)))], []⟩ ?_ z0 ?_
      ·kernel_rfl
      refine AWp.exit ?_
      cases h
      exact Or.inr ⟨_, rfl, by simp, rfl, rfl⟩
    ·intro e σ hp
     rcases y with v14 | _
     ·obtain ⟨rfl, rfl⟩ := hp
      cases h
      exact ⟨.inr rfl, rfl⟩
     ·obtain ⟨rfl, rfl⟩ := hp
      refine AWp.seq ?_
      refine AWp.seq ?_
      refine AWp.start [0] [] [] [0, 1, 2, 13, 16] 0 ⟨[(0, q0 v1), (1, .tv (fzL 1 (cSl 2 c34) v2)), (2, .tv (fzL 1 (cSl 1 cStr) v3)), (13, .tv (ownL 1 4 cBool (List.replicate (Int.toNat (v1.length : Int)) false))), (16, tI (0 : Int))], []⟩ rfl ?_ z0 trivial ?_
      ·kernel_rfl
      refine AOps.nil ?_
      refine AWp.block ?_
      obtain ⟨y, hy, h⟩ := of_bind h
      refine AWp.mono (AWp.loop (S := (List Bool) × Int) (Y := Out ((List Int) × (List Int) × (List Int) × (List UInt8) × Int) Unit) (fun s => ⟨[(0, q0 v1), (1, .tv (fzL 1 (cSl 2 c34) v2)), (2, .tv (fzL 1 (cSl 1 cStr) v3)), (13, .tv (ownL 1 4 cBool s.1)), (16, tI s.2)], []⟩) (fun s => f27_b6 v1 v3 s.1 s.2) (fun y e σ => match y with | .ret r => e = .ret ∧ σ = ⟨[(6, q2 r.1), (7, q2 r.2.1), (8, q2 r.2.2.1), (9, tS r.2.2.2.1), (10, tI r.2.2.2.2)], []⟩ | .go v => e = .exit 8 ∧ σ = ⟨[(0, q0 v1), (1, .tv (fzL 1 (cSl 2 c34) v2)), (2, .tv (fzL 1 (cSl 1 cStr) v3))], []⟩) ?_ hy) ?_
      ·rintro ⟨v15, v16⟩ o h
       refine AWp.seq ?_
       refine AWp.seq ?_
       refine AWp.start [0, 1, 2, 3] [] [] [0, 1, 2, 13, 16, 97] 0 ⟨[(0, q0 v1), (1, .tv (fzL 1 (cSl 2 c34) v2)), (2, .tv (fzL 1 (cSl 1 cStr) v3)), (13, .tv (ownL 1 4 cBool v15)), (16, tI v16), (97, tB (decide (v16 < (v3.length : Int))))], []⟩ rfl ?_ z0 trivial ?_
       ·kernel_rfl
       refine AOps.nil ?_
       refine AWp.cond rfl (fun hb => ?_) fun hb => ?_
       ·replace h := of_true h hb
        refine AWp.keepTo [0, 1, 2, 13, 16] 0 ⟨[(0, q0 v1), (1, .tv (fzL 1 (cSl 2 c34) v2)), (2, .tv (fzL 1 (cSl 1 cStr) v3)), (13, .tv (ownL 1 4 cBool v15)), (16, tI v16)], []⟩ ?_ z0 ?_
        ·kernel_rfl
        refine AWp.skip ?_
        refine AWp.seq ?_
        refine AWp.block ?_
        refine AWp.seq ?_
        refine AWp.start [0] [] [] [0, 1, 2, 13, 16, 17] 0 ⟨[(0, q0 v1), (1, .tv (fzL 1 (cSl 2 c34) v2)), (2, .tv (fzL 1 (cSl 1 cStr) v3)), (13, .tv (ownL 1 4 cBool v15)), (16, tI v16), (17, tI (0 : Int))], []⟩ rfl ?_ z0 trivial ?_
        ·kernel_rfl
        refine AOps.nil ?_
        refine AWp.block ?_
        obtain ⟨y, hy, h⟩ := of_bind h
        refine AWp.mono (AWp.loop (S := (List Bool) × Int) (Y := Out ((List Int) × (List Int) × (List Int) × (List UInt8) × Int) (List Bool)) (fun s => ⟨[(0, q0 v1), (1, .tv (fzL 1 (cSl 2 c34) v2)), (2, .tv (fzL 1 (cSl 1 cStr) v3)), (13, .tv (ownL 1 4 cBool s.1)), (16, tI v16), (17, tI s.2)], []⟩) (fun s => f27_b5 v1 v3 v16 s.1 s.2) (fun y e σ => match y with | .ret r => e = .ret ∧ σ = ⟨[(6, q2 r.1), (7, q2 r.2.1), (8, q2 r.2.2.1), (9, tS r.2.2.2.1), (10, tI r.2.2.2.2)], []⟩ | .go v => e = .exit 10 ∧ σ = ⟨[(0, q0 v1), (1, .tv (fzL 1 (cSl 2 c34) v2)), (2, .tv (fzL 1 (cSl 1 cStr) v3)), (13, .tv (ownL 1 4 cBool v)), (16, tI v16)], []⟩) ?_ hy) ?_
        ·rintro ⟨v17, v18⟩ o h
         refine AWp.seq ?_
         refine AWp.seq ?_
         obtain ⟨hg, h⟩ := of_guard h
         refine AWp.start [0, 1, 2, 3, 4, 5, 6] [] [(0 : Int) ≤ v16, v16 < (v3.length : Int)] [0, 1, 2, 13, 16, 17, 106] 0 ⟨[(0, q0 v1), (1, .tv (fzL 1 (cSl 2 c34) v2)), (2, .tv (fzL 1 (cSl 1 cStr) v3)), (13, .tv (ownL 1 4 cBool v17)), (16, tI v16), (17, tI v18), (106, tB (decide (v18 < ((gD v3 v16).length : Int))))], []⟩ rfl ?_ z0 ⟨hg.1, hg.2⟩ ?_
         ·kernel_rfl
         refine AOps.nil ?_
         refine AWp.cond rfl (fun hb => ?_) fun hb => ?_
         ·replace h := of_true h hb
          refine AWp.keepTo [0, 1, 2, 13, 16, 17] 0 ⟨[(0, q0 v1), (1, .tv (fzL 1 (cSl 2 c34) v2)), (2, .tv (fzL 1 (cSl 1 cStr) v3)), (13, .tv (ownL 1 4 cBool v17)), (16, tI v16), (17, tI v18)], []⟩ ?_ z0 ?_
          ·kernel_rfl
          refine AWp.skip ?_
          refine AWp.seq ?_
          refine AWp.block ?_
          refine AWp.seq ?_
          obtain ⟨hg, h⟩ := of_guard h
          refine AWp.start [0, 1, 2, 3, 4, 5, 6, 7] [8, 9] [(0 : Int) ≤ v16, v16 < (v3.length : Int), (0 : Int) ≤ v18, v18 < ((gD v3 v16).length : Int)] [0, 1, 2, 13, 16, 17, 109, 116] 0 ⟨[(0, q0 v1), (1, .tv (fzL 1 (cSl 2 c34) v2)), (2, .tv (fzL 1 (cSl 1 cStr) v3)), (13, .tv (ownL 1 4 cBool v17)), (16, tI v16), (17, tI v18), (109, q0 v1), (116, tS (gD (gD v3 v16) v18))], []⟩ rfl ?_ z0 ⟨hg.1, hg.2.1, hg.2.2.1, hg.2.2.2⟩ ?_
          ·kernel_rfl
          obtain ⟨v20, hv20, h⟩ := of_bind h
          refine AOps.cons (AOne.callP (F := (FF 152 0)) _ rfl rfl rfl _ rfl rfl _ _ rfl Try.call33 [q0 v1, tS (gD (gD v3 v16) v18)] rfl rfl (f33_ok v1 (gD (gD v3 v16) v18) hv20) rfl) ?_
          refine AOps.go [9] [] [] [0, 1, 2, 13, 16, 17, 18] 0 ⟨[(0, q0 v1), (1, .tv (fzL 1 (cSl 2 c34) v2)), (2, .tv (fzL 1 (cSl 1 cStr) v3)), (13, .tv (ownL 1 4 cBool v17)), (16, tI v16), (17, tI v18), (18, tI v20)], []⟩ ?_ z0 trivial ?_
          ·kernel_rfl
          refine AOps.nil ?_
          refine AWp.seq ?_
          refine AWp.seq ?_
          obtain ⟨hg, h⟩ := of_guard h
          refine AWp.start [0, 1, 2, 3] [] [(0 : Int) ≤ v20, v20 < (v17.length : Int)] [0, 1, 2, 13, 16, 17, 18, 121] 0 ⟨[(0, q0 v1), (1, .tv (fzL 1 (cSl 2 c34) v2)), (2, .tv (fzL 1 (cSl 1 cStr) v3)), (13, .tv (ownL 1 4 cBool v17)), (16, tI v16), (17, tI v18), (18, tI v20), (121, tB (gD v17 v20))], []⟩ rfl ?_ z0 ⟨hg.1, hg.2⟩ ?_
          ·kernel_rfl
          refine AOps.nil ?_
          refine AWp.cond rfl (fun hb => ?_) fun hb => ?_
          ·replace h := of_true h hb
           refine AWp.keepTo [2, 16, 17] 0 ⟨[(2, .tv (fzL 1 (cSl 1 cStr) v3)), (16, tI v16), (17, tI v18)], []⟩ ?_ z0 ?_
           ·kernel_rfl
           refine AWp.seq ?_
           refine AWp.draw FFm _ (n := 12) rfl (ls := #[n1, n1, n1, n1, n1, n1, n1, n1, n1, n1, n1, n1]) rfl ?_ (fun _ h => h)
           obtain ⟨hg, h⟩ := of_guard h
           refine AAny.go (by kernel_rfl) [0, 1, 2, 3, 4, 5, 6, 7, 8, 9, 10, 11] (fuel' := 0) rfl [(0 : Int) ≤ v16, v16 < (v3.length : Int), (0 : Int) ≤ v18, v18 < ((gD v3 v16).length : Int)] #[y1, y1, y1, y1, y1, y1, y1, y1, y1, y1, y1, y1] [6, 7, 8, 9, 10] 0 ⟨[(6, .tv (.sc (.slice none 0 0))), (7, .tv (.sc (.slice none 0 0))), (8, .tv (.sc (.slice none 0 0))), (9, tS (gD (gD v3 v16) v18)), (10, tI (8 : Int))], []⟩ ?_ z0 ⟨hg.1, hg.2.1, hg.2.2.1, hg.2.2.2⟩ ?_
           ·kernel_rfl
           refine AAny.keepTo [6, 7, 8, 9, 10] 0 ⟨[(6, .tv (.sc (.slice none 0 0))), (7, .tv (.sc (.slice none 0 0))), (8, .tv (.sc (.slice none 0 0))), (9, tS (gD (gD v3 v16) v18)), (10, tI (8 : Int))], []⟩ _ ?_ rfl z0 (AAny.done (by kernel_rfl) ?_)
           ·kernel_rfl
           refine AWp.nilFz 6 1 (fun i => (cInt .i64) (([] : List Int).getD i default)) rfl ?_
           refine AWp.nilFz 7 1 (fun i => (cInt .i64) (([] : List Int).getD i default)) rfl ?_
           refine AWp.nilFz 8 1 (fun i => (cInt .i64) (([] : List Int).getD i default)) rfl ?_
           refine AWp.keepTo [6, 7, 8, 9, 10] 0 ⟨[(6, q2 ([] : List Int)), (7, q2 ([] : List Int)), (8, q2 ([] : List Int)), (9, tS (gD (gD v3 v16) v18)), (10, tI (8 : Int))], []⟩ ?_ z0 ?_
           ·kernel_rfl
           refine AWp.ret ?_
           cases h
           exact Or.inr ⟨_, rfl, by simp, rfl, rfl⟩
          ·replace h := of_false h hb
           refine AWp.keepTo [0, 1, 2, 13, 16, 17, 18] 0 ⟨[(0, q0 v1), (1, .tv (fzL 1 (cSl 2 c34) v2)), (2, .tv (fzL 1 (cSl 1 cStr) v3)), (13, .tv (ownL 1 4 cBool v17)), (16, tI v16), (17, tI v18), (18, tI v20)], []⟩ ?_ z0 ?_
           ·kernel_rfl
           refine AWp.skip ?_
           obtain ⟨hg, h⟩ := of_guard h
           refine AWp.start [0, 1, 2, 3] [] [(0 : Int) ≤ v20, v20 < (v17.length : Int), PlainTo v17.length (fun i => cBool (v17.getD i default))] [0, 1, 2, 13, 16, 17] 0 ⟨[(0, q0 v1), (1, .tv (fzL 1 (cSl 2 c34) v2)), (2, .tv (fzL 1 (cSl 1 cStr) v3)), (13, .tv (.own 1 4 v17.length (setElem (fun i => cBool (v17.getD i default)) v20.toNat (putAt (cBool (gD v17 v20)) 0 [.bool true])))), (16, tI v16), (17, tI v18)], []⟩ rfl ?_ z0 ⟨hg.1, hg.2, (fun _ _ => rfl)⟩ ?_
           ·kernel_rfl
           refine AOps.extL 13 cBool (v17.set v20.toNat true) rfl (by simp) (set_at cBool v17 v20.toNat 0 [.bool true] true rfl) ?_
           refine AOps.nil ?_
           refine AWp.start [0, 1, 2] [] [] [0, 1, 2, 13, 16, 17] 0 ⟨[(0, q0 v1), (1, .tv (fzL 1 (cSl 2 c34) v2)), (2, .tv (fzL 1 (cSl 1 cStr) v3)), (13, .tv (ownL 1 4 cBool (v17.set v20.toNat true))), (16, tI v16), (17, tI (w64 (v18 + (1 : Int))))], []⟩ rfl ?_ z0 trivial ?_
           ·kernel_rfl
           refine AOps.nil ?_
           cases h
           exact Or.inl ⟨_, rfl, rfl, rfl⟩
         ·replace h := of_false h hb
          refine AWp.keepTo [0, 1, 2, 13, 16] 0 ⟨[(0, q0 v1), (1, .tv (fzL 1 (cSl 2 c34) v2)), (2, .tv (fzL 1 (cSl 1 cStr) v3)), (13, .tv (ownL 1 4 cBool v17)), (16, tI v16)], []⟩ ?_ z0 ?_
          ·kernel_rfl
          refine AWp.exit ?_
          cases h
          exact Or.inr ⟨_, rfl, by simp, rfl, rfl⟩
        ·intro e σ hp
         rcases y with v21 | v19
         ·obtain ⟨rfl, rfl⟩ := hp
          cases h
          exact Or.inr ⟨_, rfl, by simp, rfl, rfl⟩
         ·obtain ⟨rfl, rfl⟩ := hp
          refine AWp.start [0, 1, 2] [] [] [0, 1, 2, 13, 16] 0 ⟨[(0, q0 v1), (1, .tv (fzL 1 (cSl 2 c34) v2)), (2, .tv (fzL 1 (cSl 1 cStr) v3)), (13, .tv (ownL 1 4 cBool v19)), (16, tI (w64 (v16 + (1 : Int))))], []⟩ rfl ?_ z0 trivial ?_
          ·kernel_rfl
          refine AOps.nil ?_
          cases h
          exact Or.inl ⟨_, rfl, rfl, rfl⟩
       ·replace h := of_false h hb
        refine AWp.keepTo [0, 1, 2] 0 ⟨[(0, q0 v1), (1, .tv (fzL 1 (cSl 2 c34) v2)), (2, .tv (fzL 1 (cSl 1 cStr) v3))], []⟩ ?_ z0 ?_
        ·kernel_rfl
        refine AWp.exit ?_
        cases h
        exact Or.inr ⟨_, rfl, by simp, rfl, rfl⟩
      ·intro e σ hp
       rcases y with v22 | _
       ·obtain ⟨rfl, rfl⟩ := hp
        cases h
        exact ⟨.inr rfl, rfl⟩
       ·obtain ⟨rfl, rfl⟩ := hp
        refine AWp.seq ?_
        refine AWp.start [0, 1, 2] [3, 4, 5, 6, 7, 8, 9, 10] [] [0, 2, 133, 134, 135] 0 ⟨[(0, q0 v1), (2, .tv (fzL 1 (cSl 1 cStr) v3)), (133, q0 v1), (134, .tv (fzL 1 (cSl 2 c34) v2)), (135, .tv (fzL 1 (cSl 1 cStr) v3))], []⟩ rfl ?_ z0 trivial ?_
        ·kernel_rfl
        obtain ⟨v23, hv23, h⟩ := of_bind h
        rcases v23 with ⟨(_ | v24), v25, v26⟩
        ·replace h : (cond (!v26) (some (([] : List Int), ([] : List Int), ([] : List Int), v25, (110 : Int))) ((f40_z2 v1 v3).bind fun v27 => some (v27.1, v27.2.1, v27.2.2.1, v27.2.2.2.1, v27.2.2.2.2))) = some r := h
         refine AOps.cons (AOne.callO (F := (FF 152 0)) _ rfl rfl rfl 136 rfl rfl 39 [] rfl Try.call39 [] (by decide) [q0 v1, .tv (fzL 1 (cSl 2 c34) v2), .tv (fzL 1 (cSl 1 cStr) v3)] (by kernel_rfl) [] (by kernel_rfl) (f39_ok v1 v2 v3 hv23) (by kernel_rfl) (by kernel_rfl) _ rfl) ?_
         refine AOps.go [4, 5, 6, 7, 8, 9, 10] [] [] [0, 2, 9, 19, 20] 0 ⟨[(0, q0 v1), (2, .tv (fzL 1 (cSl 1 cStr) v3)), (9, tS v25), (19, .tv (.sc (.pointer none))), (20, tB v26)], []⟩ ?_ z0 trivial ?_
         ·kernel_rfl
         refine AOps.nil ?_
         refine AWp.seq ?_
         refine AWp.seq ?_
         refine AWp.start [0, 1] [] [] [0, 2, 9, 19, 141] 0 ⟨[(0, q0 v1), (2, .tv (fzL 1 (cSl 1 cStr) v3)), (9, tS v25), (19, .tv (.sc (.pointer none))), (141, tB (!v26))], []⟩ rfl ?_ z0 trivial ?_
         ·kernel_rfl
         refine AOps.nil ?_
         refine AWp.cond rfl (fun hb => ?_) fun hb => ?_
         ·replace h := of_true h hb
          refine AWp.keepTo [9] 0 ⟨[(9, tS v25)], []⟩ ?_ z0 ?_
          ·kernel_rfl
          refine AWp.seq ?_
          refine AWp.start [0, 1, 2, 3, 4, 5] [] [] [6, 7, 8, 9, 10] 0 ⟨[(6, .tv (.sc (.slice none 0 0))), (7, .tv (.sc (.slice none 0 0))), (8, .tv (.sc (.slice none 0 0))), (9, tS v25), (10, tI (110 : Int))], []⟩ rfl ?_ z0 trivial ?_
          ·kernel_rfl
          refine AOps.nil ?_
          refine AWp.nilFz 6 1 (fun i => (cInt .i64) (([] : List Int).getD i default)) rfl ?_
          refine AWp.nilFz 7 1 (fun i => (cInt .i64) (([] : List Int).getD i default)) rfl ?_
          refine AWp.nilFz 8 1 (fun i => (cInt .i64) (([] : List Int).getD i default)) rfl ?_
          refine AWp.keepTo [6, 7, 8, 9, 10] 0 ⟨[(6, q2 ([] : List Int)), (7, q2 ([] : List Int)), (8, q2 ([] : List Int)), (9, tS v25), (10, tI (110 : Int))], []⟩ ?_ z0 ?_
          ·kernel_rfl
          refine AWp.ret ?_
          cases h
          exact ⟨.inr rfl, rfl⟩
         ·replace h := of_false h hb
          refine AWp.keepTo [0, 2, 19] 0 ⟨[(0, q0 v1), (2, .tv (fzL 1 (cSl 1 cStr) v3)), (19, .tv (.sc (.pointer none)))], []⟩ ?_ z0 ?_
          ·kernel_rfl
          refine AWp.skip ?_
          refine AWp.seq ?_
          refine AWp.start [0, 1, 2] [3, 4, 5, 6, 7, 8, 9, 10, 11, 12, 13] [] [143, 144, 145] 0 ⟨[(143, q0 v1), (144, .tv (fzL 1 (cSl 1 cStr) v3)), (145, .tv (.sc (.pointer none)))], []⟩ rfl ?_ z0 trivial ?_
          ·kernel_rfl
          obtain ⟨v27, hv27, h⟩ := of_bind h
          refine AOps.cons (AOne.callP (F := (FF 152 0)) _ rfl rfl rfl _ rfl rfl _ _ rfl Try.call40 [q0 v1, .tv (fzL 1 (cSl 1 cStr) v3), .tv (.sc (.pointer none))] rfl rfl (f40_z2_ok v1 v3 hv27) rfl) ?_
          refine AOps.go [4, 5, 6, 7, 8, 9, 10, 11, 12, 13] [] [] [6, 7, 8, 9, 10] 0 ⟨[(6, q2 v27.1), (7, q2 v27.2.1), (8, q2 v27.2.2.1), (9, tS v27.2.2.2.1), (10, tI v27.2.2.2.2)], []⟩ ?_ z0 trivial ?_
          ·kernel_rfl
          refine AOps.nil ?_
          refine AWp.ret ?_
          cases h
          exact ⟨.inr rfl, rfl⟩
        ·replace h : (cond (!v26) (some (([] : List Int), ([] : List Int), ([] : List Int), v25, (110 : Int))) ((f40o v1 v3 (T84.mk v24.f0 v24.f1)).bind fun v28 => some (v28.1, v28.2.1, v28.2.2.1, v28.2.2.2.1, v28.2.2.2.2))) = some r := h
         refine AOps.cons (AOne.callO (F := (FF 152 0)) _ rfl rfl rfl 136 rfl rfl 39 [] rfl Try.call39 [] (by decide) [q0 v1, .tv (fzL 1 (cSl 2 c34) v2), .tv (fzL 1 (cSl 1 cStr) v3)] (by kernel_rfl) [] (by kernel_rfl) (f39_ok v1 v2 v3 hv23) (by kernel_rfl) (by kernel_rfl) _ rfl) ?_
         refine AOps.go [4, 5, 6, 7, 8, 9, 10] [] [] [0, 2, 9, 19, 20] 1 ⟨[(0, q0 v1), (2, .tv (fzL 1 (cSl 1 cStr) v3)), (9, tS v25), (19, .pc 0 0), (20, tB v26)], [.cells 85 [k0 v24.f0, k0 v24.f1]]⟩ ?_ z0 trivial ?_
         ·kernel_rfl
         refine AOps.nil ?_
         refine AWp.seq ?_
         refine AWp.seq ?_
         refine AWp.start [0, 1] [] [] [0, 2, 9, 19, 141] 1 ⟨[(0, q0 v1), (2, .tv (fzL 1 (cSl 1 cStr) v3)), (9, tS v25), (19, .pc 0 0), (141, tB (!v26))], [.cells 85 [k0 v24.f0, k0 v24.f1]]⟩ rfl ?_ z0 trivial ?_
         ·kernel_rfl
         refine AOps.nil ?_
         refine AWp.cond rfl (fun hb => ?_) fun hb => ?_
         ·replace h := of_true h hb
          refine AWp.keepTo [9] 0 ⟨[(9, tS v25)], []⟩ ?_ z0 ?_
          ·kernel_rfl
          refine AWp.seq ?_
          refine AWp.start [0, 1, 2, 3, 4, 5] [] [] [6, 7, 8, 9, 10] 0 ⟨[(6, .tv (.sc (.slice none 0 0))), (7, .tv (.sc (.slice none 0 0))), (8, .tv (.sc (.slice none 0 0))), (9, tS v25), (10, tI (110 : Int))], []⟩ rfl ?_ z0 trivial ?_
          ·kernel_rfl
          refine AOps.nil ?_
          refine AWp.nilFz 6 1 (fun i => (cInt .i64) (([] : List Int).getD i default)) rfl ?_
          refine AWp.nilFz 7 1 (fun i => (cInt .i64) (([] : List Int).getD i default)) rfl ?_
          refine AWp.nilFz 8 1 (fun i => (cInt .i64) (([] : List Int).getD i default)) rfl ?_
          refine AWp.keepTo [6, 7, 8, 9, 10] 0 ⟨[(6, q2 ([] : List Int)), (7, q2 ([] : List Int)), (8, q2 ([] : List Int)), (9, tS v25), (10, tI (110 : Int))], []⟩ ?_ z0 ?_
          ·kernel_rfl
          refine AWp.ret ?_
          cases h
          exact ⟨.inr rfl, rfl⟩
         ·replace h := of_false h hb
          refine AWp.keepTo [0, 2, 19] 1 ⟨[(0, q0 v1), (2, .tv (fzL 1 (cSl 1 cStr) v3)), (19, .pc 0 0)], [.cells 85 [k0 v24.f0, k0 v24.f1]]⟩ ?_ z0 ?_
          ·kernel_rfl
          refine AWp.skip ?_
          refine AWp.seq ?_
          refine AWp.start [0, 1, 2] [3, 4, 5, 6, 7, 8, 9, 10, 11, 12, 13] [] [143, 144, 145] 1 ⟨[(143, q0 v1), (144, .tv (fzL 1 (cSl 1 cStr) v3)), (145, .pc 0 0)], [.cells 85 [k0 v24.f0, k0 v24.f1]]⟩ rfl ?_ z0 trivial ?_
          ·kernel_rfl
          obtain ⟨v28, hv28, h⟩ := of_bind h
          refine AOps.cons (AOne.callO (F := (FF 152 0)) _ rfl rfl rfl 146 rfl rfl 40 [] rfl Try.call40 [0] (by decide) [q0 v1, .tv (fzL 1 (cSl 1 cStr) v3), .pc 0 0] (by kernel_rfl) [.cells 85 [k0 v24.f0, k0 v24.f1]] (by kernel_rfl) (f40o_ok v1 v3 (T84.mk v24.f0 v24.f1) hv28) (by kernel_rfl) (by kernel_rfl) _ rfl) ?_
          refine AOps.go [4, 5, 6, 7, 8, 9, 10, 11, 12, 13] [] [] [6, 7, 8, 9, 10] 0 ⟨[(6, q2 v28.1), (7, q2 v28.2.1), (8, q2 v28.2.2.1), (9, tS v28.2.2.2.1), (10, tI v28.2.2.2.2)], []⟩ ?_ z0 trivial ?_
          ·kernel_rfl
          refine AOps.nil ?_
          refine AWp.ret ?_
          cases h
          exact ⟨.inr rfl, rfl⟩

noncomputable def f17 (v1 : List T36) (v2 : List (List T34)) (v3 : List (List (List UInt8))) : Option ((List UInt8) × Int) :=
 (f27 v1 v2 v3).bind fun v4 => some (v4.2.2.2.1, v4.2.2.2.2)

theorem f17_ok (v1 : List T36) (v2 : List (List T34)) (v3 : List (List (List UInt8))) {r : (List UInt8) × Int} (h : f17 v1 v2 v3 = some r) : ACall Try.prog 17 [.tv (fzL 3 c36 v1), .tv (fzL 1 (cSl 2 c34) v2), .tv (fzL 1 (cSl 1 cStr) v3)] [] (.tup [.tv (.str r.1), .tv (.int .i64 r.2)]) [] := by
 refine ACall.ofN (FF 25 0) (rs := [6, 7]) (env := [(6, tS r.1), (7, tI r.2)]) Try.func17 rfl Try.ntmps17 Try.results17 (by decide) (by decide) rfl (Nat.le_of_ble_eq_true rfl) rfl (get_ofN _ _ _ rfl) (ok_ofN _ rfl) ?_
 refine AWp.seq ?_
 refine AWp.start [0, 1] [] [] [0, 1, 2] 0 ⟨[(0, q0 v1), (1, .tv (fzL 1 (cSl 2 c34) v2)), (2, .tv (fzL 1 (cSl 1 cStr) v3))], []⟩ rfl ?_ z0 trivial ?_
 ·kernel_rfl
 refine AOps.nil ?_
 refine AWp.seq ?_
 refine AWp.start [0, 1, 2] [3, 4, 5, 6, 7, 8, 9, 10, 11, 12, 13, 14] [] [14, 15, 16] 0 ⟨[(14, q0 v1), (15, .tv (fzL 1 (cSl 2 c34) v2)), (16, .tv (fzL 1 (cSl 1 cStr) v3))], []⟩ rfl ?_ z0 trivial ?_
 ·kernel_rfl
 obtain ⟨v4, hv4, h⟩ := of_bind h
 refine AOps.cons (AOne.callP (F := (FF 25 0)) _ rfl rfl rfl _ rfl rfl _ _ rfl Try.call27 [q0 v1, .tv (fzL 1 (cSl 2 c34) v2), .tv (fzL 1 (cSl 1 cStr) v3)] rfl rfl (f27_ok v1 v2 v3 hv4) rfl) ?_
 refine AOps.go [4, 5, 6, 7, 8, 9, 10, 11, 12, 13, 14] [] [] [11, 12] 0 ⟨[(11, tS v4.2.2.2.1), (12, tI v4.2.2.2.2)], []⟩ ?_ z0 trivial ?_
 ·kernel_rfl
 refine AOps.nil ?_
 refine AWp.seq ?_
 refine AWp.start [0, 1, 2, 3] [] [] [6, 7] 0 ⟨[(6, tS v4.2.2.2.1), (7, tI v4.2.2.2.2)], []⟩ rfl ?_ z0 trivial ?_
 ·kernel_rfl
 refine AOps.nil ?_
 refine AWp.ret ?_
 cases h
 exact ⟨.inr rfl, rfl⟩

noncomputable def f6 (v1 : List T36) (v2 : List (List T34)) (v3 : List (List (List UInt8))) : Option Bool :=
 (f9 v1 v2 v3).bind fun v4 => cond v4 ((f10 ).bind fun v5 => some v5) ((f16 v1 v2 v3).bind fun v6 => (f17 v1 v2 v3).bind fun v7 => (cond (v6.2 == v7.2) ((cond (v6.1 == v7.1) (some true) (some (v6.2 == (2 : Int)))).bind fun v9 => some v9) (some false)).bind fun v8 => (cond v8 ((f10 ).bind fun v11 => some v11) (some false)).bind fun v10 => some v10)

theorem f6_ok (v1 : List T36) (v2 : List (List T34)) (v3 : List (List (List UInt8))) {r : Bool} (h : f6 v1 v2 v3 = some r) : ACall Try.prog 6 [.tv (fzL 3 c36 v1), .tv (fzL 1 (cSl 2 c34) v2), .tv (fzL 1 (cSl 1 cStr) v3)] [] (.tv (.bool r)) [] := by
 refine ACall.of1 (FF 45 0) Try.func6 rfl Try.ntmps6 Try.results6 (Nat.le_of_ble_eq_true rfl) rfl rfl ?_
 refine AWp.seq ?_
 refine AWp.start [0] [] [] [0, 1, 2] 0 ⟨[(0, q0 v1), (1, .tv (fzL 1 (cSl 2 c34) v2)), (2, .tv (fzL 1 (cSl 1 cStr) v3))], []⟩ rfl ?_ z0 trivial ?_
 ·kernel_rfl
 refine AOps.nil ?_
 refine AWp.seq ?_
 refine AWp.seq ?_
 refine AWp.start [0, 1, 2] [3] [] [0, 1, 2, 11, 12, 13] 0 ⟨[(0, q0 v1), (1, .tv (fzL 1 (cSl 2 c34) v2)), (2, .tv (fzL 1 (cSl 1 cStr) v3)), (11, q0 v1), (12, .tv (fzL 1 (cSl 2 c34) v2)), (13, .tv (fzL 1 (cSl 1 cStr) v3))], []⟩ rfl ?_ z0 trivial ?_
 ·kernel_rfl
 obtain ⟨v4, hv4, h⟩ := of_bind h
 refine AOps.cons (AOne.callP (F := (FF 45 0)) _ rfl rfl rfl _ rfl rfl _ _ rfl Try.call9 [q0 v1, .tv (fzL 1 (cSl 2 c34) v2), .tv (fzL 1 (cSl 1 cStr) v3)] rfl rfl (f9_ok v1 v2 v3 hv4) rfl) ?_
 refine AOps.keepTo [0, 1, 2, 14] 0 ⟨[(0, q0 v1), (1, .tv (fzL 1 (cSl 2 c34) v2)), (2, .tv (fzL 1 (cSl 1 cStr) v3)), (14, tB v4)], []⟩ ?_ z0 ?_
 ·kernel_rfl
 refine AOps.nil ?_
 refine AWp.cond rfl (fun hb => ?_) fun hb => ?_
 ·replace h := of_true h hb
  refine AWp.keepTo [] 0 ⟨[], []⟩ ?_ z0 ?_
  ·kernel_rfl
  refine AWp.seq ?_
  refine AWp.start [] [0, 1] [] [] 0 ⟨[], []⟩ rfl ?_ z0 trivial ?_
  ·kernel_rfl
  obtain ⟨v5, hv5, h⟩ := of_bind h
  refine AOps.cons (AOne.callP (F := (FF 45 0)) _ rfl rfl rfl _ rfl rfl _ _ rfl Try.call10 [] rfl rfl (f10_ok  hv5) rfl) ?_
  refine AOps.go [1] [] [] [6] 0 ⟨[(6, tB v5)], []⟩ ?_ z0 trivial ?_
  ·kernel_rfl
  refine AOps.nil ?_
  refine AWp.ret ?_
  cases h
  exact ⟨.inr rfl, rfl⟩
 ·replace h := of_false h hb
  refine AWp.keepTo [0, 1, 2] 0 ⟨[(0, q0 v1), (1, .tv (fzL 1 (cSl 2 c34) v2)), (2, .tv (fzL 1 (cSl 1 cStr) v3))], []⟩ ?_ z0 ?_
  ·kernel_rfl
  refine AWp.skip ?_
  refine AWp.seq ?_
  refine AWp.start [0, 1, 2] [3, 4, 5, 6, 7, 8] [] [0, 1, 2, 17, 18, 19] 0 ⟨[(0, q0 v1), (1, .tv (fzL 1 (cSl 2 c34) v2)), (2, .tv (fzL 1 (cSl 1 cStr) v3)), (17, q0 v1), (18, .tv (fzL 1 (cSl 2 c34) v2)), (19, .tv (fzL 1 (cSl 1 cStr) v3))], []⟩ rfl ?_ z0 trivial ?_
  ·kernel_rfl
  obtain ⟨v6, hv6, h⟩ := of_bind h
  refine AOps.cons (AOne.callP (F := (FF 45 0)) _ rfl rfl rfl _ rfl rfl _ _ rfl Try.call16 [q0 v1, .tv (fzL 1 (cSl 2 c34) v2), .tv (fzL 1 (cSl 1 cStr) v3)] rfl rfl (f16_ok v1 v2 v3 hv6) rfl) ?_
  refine AOps.go [4, 5, 6, 7, 8] [] [] [0, 1, 2, 7, 8] 0 ⟨[(0, q0 v1), (1, .tv (fzL 1 (cSl 2 c34) v2)), (2, .tv (fzL 1 (cSl 1 cStr) v3)), (7, tS v6.1), (8, tI v6.2)], []⟩ ?_ z0 trivial ?_
  ·kernel_rfl
  refine AOps.nil ?_
  refine AWp.seq ?_
  refine AWp.start [0, 1, 2] [3, 4, 5, 6, 7, 8] [] [7, 8, 24, 25, 26] 0 ⟨[(7, tS v6.1), (8, tI v6.2), (24, q0 v1), (25, .tv (fzL 1 (cSl 2 c34) v2)), (26, .tv (fzL 1 (cSl 1 cStr) v3))], []⟩ rfl ?_ z0 trivial ?_
  ·kernel_rfl
  obtain ⟨v7, hv7, h⟩ := of_bind h
  refine AOps.cons (AOne.callP (F := (FF 45 0)) _ rfl rfl rfl _ rfl rfl _ _ rfl Try.call17 [q0 v1, .tv (fzL 1 (cSl 2 c34) v2), .tv (fzL 1 (cSl 1 cStr) v3)] rfl rfl (f17_ok v1 v2 v3 hv7) rfl) ?_
  refine AOps.go [4, 5, 6, 7, 8] [] [] [7, 8, 9, 10] 0 ⟨[(7, tS v6.1), (8, tI v6.2), (9, tS v7.1), (10, tI v7.2)], []⟩ ?_ z0 trivial ?_
  ·kernel_rfl
  refine AOps.nil ?_
  refine AWp.seq ?_
  refine AWp.start [0, 1, 2, 3] [4, 5, 6, 7, 8, 9, 10, 11, 12, 13, 14, 15] [] [7, 8, 9, 33] 0 ⟨[(7, tS v6.1), (8, tI v6.2), (9, tS v7.1), (33, tB (v6.2 == v7.2))], []⟩ rfl ?_ z0 trivial ?_
  ·kernel_rfl
  obtain ⟨v8, hc4, h⟩ := of_bind h
  refine AOps.cut [4, 5, 6, 7, 8, 9, 10, 11] [12, 13, 14, 15] (fun σ => σ = ⟨[(41, tB v8)], []⟩) ?_ fun σ' hJ => ?_
  ·refine AOps.split (fun b => ⟨[(7, tS v6.1), (8, tI v6.2), (9, tS v7.1), (33, tB b)], []⟩) _ (fun hb => ?_) fun hb => ?_
   ·replace hc4 := of_true hc4 hb
    refine AOps.go [4, 5, 6, 7] [8, 9, 10, 11] [] [8, 33, 37] 0 ⟨[(8, tI v6.2), (33, tB true), (37, tB (v6.1 == v7.1))], []⟩ ?_ z0 trivial ?_
    ·kernel_rfl
    obtain ⟨v9, hc8, hc4⟩ := of_bind hc4
    refine AOps.cut [8, 9, 10] [11] (fun σ => σ = ⟨[(33, tB true), (40, tB v9)], []⟩) ?_ fun σ' hJ => ?_
    ·refine AOps.split (fun b => ⟨[(8, tI v6.2), (33, tB true), (37, tB b)], []⟩) _ (fun hb => ?_) fun hb => ?_
     ·replace hc8 := of_true hc8 hb
      refine AOps.go [8, 9, 10] [] [] [33, 40] 0 ⟨[(33, tB true), (40, tB true)], []⟩ ?_ z0 trivial ?_
      ·kernel_rfl
      cases hc8
      exact AOps.nil rfl
     ·replace hc8 := of_false hc8 hb
      refine AOps.go [8, 9, 10] [] [] [33, 40] 0 ⟨[(33, tB true), (40, tB (v6.2 == (2 : Int)))], []⟩ ?_ z0 trivial ?_
      ·kernel_rfl
      cases hc8
      exact AOps.nil rfl
    subst hJ
    refine AOps.go [11] [] [] [41] 0 ⟨[(41, tB v9)], []⟩ ?_ z0 trivial ?_
    ·kernel_rfl
    cases hc4
    exact AOps.nil rfl
   ·replace hc4 := of_false hc4 hb
    refine AOps.go [4, 5, 6, 7, 8, 9, 10, 11] [] [] [41] 0 ⟨[(41, tB false)], []⟩ ?_ z0 trivial ?_
    ·kernel_rfl
    cases hc4
    exact AOps.nil rfl
  subst hJ
  refine AOps.go [12] [13, 14, 15] [] [42] 0 ⟨[(42, tB v8)], []⟩ ?_ z0 trivial ?_
  ·kernel_rfl
  obtain ⟨v10, hc13, h⟩ := of_bind h
  refine AOps.cut [13, 14] [15] (fun σ => σ = ⟨[(44, tB v10)], []⟩) ?_ fun σ' hJ => ?_
  ·refine AOps.split (fun b => ⟨[(42, tB b)], []⟩) _ (fun hb => ?_) fun hb => ?_
   ·replace hc13 := of_true hc13 hb
    obtain ⟨v11, hv11, hc13⟩ := of_bind hc13
    refine AOps.cons (AOne.callP (F := (FF 45 0)) _ rfl rfl rfl _ rfl rfl _ _ rfl Try.call10 [] rfl rfl (f10_ok  hv11) rfl) ?_
    refine AOps.go [14] [] [] [44] 0 ⟨[(44, tB v11)], []⟩ ?_ z0 trivial ?_
    ·kernel_rfl
    cases hc13
    exact AOps.nil rfl
   ·replace hc13 := of_false hc13 hb
    refine AOps.go [13, 14] [] [] [44] 0 ⟨[(44, tB false)], []⟩ ?_ z0 trivial ?_
    ·kernel_rfl
    cases hc13
    exact AOps.nil rfl
  subst hJ
  refine AOps.go [15] [] [] [6] 0 ⟨[(6, tB v10)], []⟩ ?_ z0 trivial ?_
  ·kernel_rfl
  refine AOps.nil ?_
  refine AWp.ret ?_
  cases h
  exact ⟨.inr rfl, rfl⟩

end Go.Sx.sto
