/- Printed by program (wip/gen): plain functions and their walks; no condition. -/
import Derived.Test.YtgabiokgockopaaGx2
namespace Go.Sx.sto
open Go Go.Sx Go.Proofs

noncomputable def f29_b1 (v1 : List T36) (v2 : List Int) (v3 : List Int) (v7 : Int) : Option (Int ⊕ Out Bool Unit) :=
 cond (decide (v7 < (v1.length : Int))) (if (0 : Int) ≤ v7 ∧ v7 < (v2.length : Int) then (cond (decide (v2.getD v7.toNat default < (0 : Int))) (some true) (if (0 : Int) ≤ v7 ∧ v7 < (v3.length : Int) then some (decide (v3.getD v7.toNat default < (0 : Int))) else none)).bind fun v8 => cond v8 (some (.inr (.ret false))) (some (.inl (w64 (v7 + (1 : Int))))) else none) (some (.inr (.go ())))

noncomputable def f29 (v1 : List T36) (v2 : List Int) (v3 : List Int) : Option Bool :=
 (f44 v1).bind fun v4 => (cond (!v4) (some true) (some ((v2.length : Int) != (v1.length : Int)))).bind fun v5 => (cond v5 (some true) (some ((v3.length : Int) != (v1.length : Int)))).bind fun v6 => cond v6 (some false) ((iter (fun s => f29_b1 v1 v2 v3 s) (0 : Int)).bind fun y => match y with | .ret v9 => some v9 | .go _ => some true)

theorem f29_ok (v1 : List T36) (v2 : List Int) (v3 : List Int) {r : Bool} (h : f29 v1 v2 v3 = some r) : ACall Try.prog 29 [.tv (fzL 3 c36 v1), .tv (fzL 1 (cInt .i64) v2), .tv (fzL 1 (cInt .i64) v3)] [] (.tv (.bool r)) [] := by
 refine ACall.of1 (FF 43 0) Try.func29 rfl Try.ntmps29 Try.results29 (Nat.le_of_ble_eq_true rfl) rfl rfl ?_
 refine AWp.seq ?_
 refine AWp.start [0] [] [] [0, 1, 2] 0 ⟨[(0, q0 v1), (1, q1 v2), (2, q1 v3)], []⟩ rfl ?_ z0 trivial ?_
 · kernel_rfl
 refine AOps.nil ?_
 refine AWp.seq ?_
 refine AWp.seq ?_
 refine AWp.start [0] [1, 2, 3, 4, 5, 6, 7, 8, 9, 10, 11, 12, 13, 14, 15, 16] [] [0, 1, 2, 8] 0 ⟨[(0, q0 v1), (1, q1 v2), (2, q1 v3), (8, q0 v1)], []⟩ rfl ?_ z0 trivial ?_
 · kernel_rfl
 obtain ⟨v4, hv4, h⟩ := of_bind h
 refine AOps.cons (AOne.callP (F := (FF 43 0)) _ rfl rfl rfl _ rfl rfl _ _ rfl Try.call44 [q0 v1] rfl rfl (f44_ok v1 hv4) rfl) ?_
 refine AOps.go [2, 3] [4, 5, 6, 7, 8, 9, 10, 11, 12, 13, 14, 15, 16] [] [0, 1, 2, 11] 0 ⟨[(0, q0 v1), (1, q1 v2), (2, q1 v3), (11, tB (!v4))], []⟩ ?_ z0 trivial ?_
 · kernel_rfl
 obtain ⟨v5, hc4, h⟩ := of_bind h
 refine AOps.cut [4, 5, 6, 7, 8, 9] [10, 11, 12, 13, 14, 15, 16] (fun σ => σ = ⟨[(0, q0 v1), (1, q1 v2), (2, q1 v3), (17, tB v5)], []⟩) ?_ fun σ' hJ => ?_
 · refine AOps.split (fun b => ⟨[(0, q0 v1), (1, q1 v2), (2, q1 v3), (11, tB b)], []⟩) _ (fun hb => ?_) fun hb => ?_
   · replace hc4 := of_true hc4 hb
     refine AOps.go [4, 5, 6, 7, 8, 9] [] [] [0, 1, 2, 17] 0 ⟨[(0, q0 v1), (1, q1 v2), (2, q1 v3), (17, tB true)], []⟩ ?_ z0 trivial ?_
     · kernel_rfl
     cases hc4
     exact AOps.nil rfl
   · replace hc4 := of_false hc4 hb
     refine AOps.go [4, 5, 6, 7, 8, 9] [] [] [0, 1, 2, 17] 0 ⟨[(0, q0 v1), (1, q1 v2), (2, q1 v3), (17, tB ((v2.length : Int) != (v1.length : Int)))], []⟩ ?_ z0 trivial ?_
     · kernel_rfl
     cases hc4
     exact AOps.nil rfl
 subst hJ
 refine AOps.go [10] [11, 12, 13, 14, 15, 16] [] [0, 1, 2, 18] 0 ⟨[(0, q0 v1), (1, q1 v2), (2, q1 v3), (18, tB v5)], []⟩ ?_ z0 trivial ?_
 · kernel_rfl
 obtain ⟨v6, hc11, h⟩ := of_bind h
 refine AOps.cut [11, 12, 13, 14, 15, 16] [] (fun σ => σ = ⟨[(0, q0 v1), (1, q1 v2), (2, q1 v3), (24, tB v6)], []⟩) ?_ fun σ' hJ => ?_
 · refine AOps.split (fun b => ⟨[(0, q0 v1), (1, q1 v2), (2, q1 v3), (18, tB b)], []⟩) _ (fun hb => ?_) fun hb => ?_
   · replace hc11 := of_true hc11 hb
     refine AOps.go [11, 12, 13, 14, 15, 16] [] [] [0, 1, 2, 24] 0 ⟨[(0, q0 v1), (1, q1 v2), (2, q1 v3), (24, tB true)], []⟩ ?_ z0 trivial ?_
     · kernel_rfl
     cases hc11
     exact AOps.nil rfl
   · replace hc11 := of_false hc11 hb
     refine AOps.go [11, 12, 13, 14, 15, 16] [] [] [0, 1, 2, 24] 0 ⟨[(0, q0 v1), (1, q1 v2), (2, q1 v3), (24, tB ((v3.length : Int) != (v1.length : Int)))], []⟩ ?_ z0 trivial ?_
     · kernel_rfl
     cases hc11
     exact AOps.nil rfl
 subst hJ
 refine AOps.nil ?_
 refine AWp.cond rfl (fun hb => ?_) fun hb => ?_
 · replace h := of_true h hb
   refine AWp.keepTo [] 0 ⟨[], []⟩ ?_ z0 ?_
   · kernel_rfl
   refine AWp.seq ?_
   refine AWp.start [0] [] [] [6] 0 ⟨[(6, tB false)], []⟩ rfl ?_ z0 trivial ?_
   · kernel_rfl
   refine AOps.nil ?_
   refine AWp.ret ?_
   cases h
   exact ⟨.inr rfl, rfl⟩
 · replace h := of_false h hb
   refine AWp.keepTo [0, 1, 2] 0 ⟨[(0, q0 v1), (1, q1 v2), (2, q1 v3)], []⟩ ?_ z0 ?_
   · kernel_rfl
   refine AWp.skip ?_
   refine AWp.seq ?_
   refine AWp.seq ?_
   refine AWp.start [0] [] [] [0, 1, 2, 7] 0 ⟨[(0, q0 v1), (1, q1 v2), (2, q1 v3), (7, tI (0 : Int))], []⟩ rfl ?_ z0 trivial ?_
   · kernel_rfl
   refine AOps.nil ?_
   refine AWp.block ?_
   obtain ⟨y, hy, h⟩ := of_bind h
   refine AWp.mono (AWp.loop (S := Int) (Y := Out Bool Unit) (fun s => ⟨[(0, q0 v1), (1, q1 v2), (2, q1 v3), (7, tI s)], []⟩) (fun s => f29_b1 v1 v2 v3 s) (fun y e σ => match y with | .ret r => e = .ret ∧ σ = ⟨[(6, tB r)], []⟩ | .go v => e = .exit 0 ∧ σ = ⟨[], []⟩) ?_ hy) ?_
   · rintro v7 o h
     refine AWp.seq ?_
     refine AWp.seq ?_
     refine AWp.start [0, 1, 2, 3] [] [] [0, 1, 2, 7, 28] 0 ⟨[(0, q0 v1), (1, q1 v2), (2, q1 v3), (7, tI v7), (28, tB (decide (v7 < (v1.length : Int))))], []⟩ rfl ?_ z0 trivial ?_
     · kernel_rfl
     refine AOps.nil ?_
     refine AWp.cond rfl (fun hb => ?_) fun hb => ?_
     · replace h := of_true h hb
       refine AWp.keepTo [0, 1, 2, 7] 0 ⟨[(0, q0 v1), (1, q1 v2), (2, q1 v3), (7, tI v7)], []⟩ ?_ z0 ?_
       · kernel_rfl
       refine AWp.skip ?_
       refine AWp.seq ?_
       refine AWp.block ?_
       refine AWp.seq ?_
       obtain ⟨hg, h⟩ := of_guard h
       refine AWp.start [0, 1, 2, 3, 4, 5] [6, 7, 8, 9, 10, 11] [(0 : Int) ≤ v7, v7 < (v2.length : Int)] [0, 1, 2, 7, 36] 0 ⟨[(0, q0 v1), (1, q1 v2), (2, q1 v3), (7, tI v7), (36, tB (decide (gD v2 v7 < (0 : Int))))], []⟩ rfl ?_ z0 ⟨hg.1, hg.2⟩ ?_
       · kernel_rfl
       obtain ⟨v8, hc6, h⟩ := of_bind h
       refine AOps.cut [6, 7, 8, 9, 10, 11] [] (fun σ => σ = ⟨[(0, q0 v1), (1, q1 v2), (2, q1 v3), (7, tI v7), (42, tB v8)], []⟩) ?_ fun σ' hJ => ?_
       · refine AOps.split (fun b => ⟨[(0, q0 v1), (1, q1 v2), (2, q1 v3), (7, tI v7), (36, tB b)], []⟩) _ (fun hb => ?_) fun hb => ?_
         · replace hc6 := of_true hc6 hb
           refine AOps.go [6, 7, 8, 9, 10, 11] [] [] [0, 1, 2, 7, 42] 0 ⟨[(0, q0 v1), (1, q1 v2), (2, q1 v3), (7, tI v7), (42, tB true)], []⟩ ?_ z0 trivial ?_
           · kernel_rfl
           cases hc6
           exact AOps.nil rfl
         · replace hc6 := of_false hc6 hb
           obtain ⟨hg, hc6⟩ := of_guard hc6
           refine AOps.go [6, 7, 8, 9, 10, 11] [] [(0 : Int) ≤ v7, v7 < (v3.length : Int)] [0, 1, 2, 7, 42] 0 ⟨[(0, q0 v1), (1, q1 v2), (2, q1 v3), (7, tI v7), (42, tB (decide (gD v3 v7 < (0 : Int))))], []⟩ ?_ z0 ⟨hg.1, hg.2⟩ ?_
           · kernel_rfl
           cases hc6
           exact AOps.nil rfl
       subst hJ
       refine AOps.nil ?_
       refine AWp.cond rfl (fun hb => ?_) fun hb => ?_
       · replace h := of_true h hb
         refine AWp.keepTo [] 0 ⟨[], []⟩ ?_ z0 ?_
         · kernel_rfl
         refine AWp.seq ?_
         refine AWp.start [0] [] [] [6] 0 ⟨[(6, tB false)], []⟩ rfl ?_ z0 trivial ?_
         · kernel_rfl
         refine AOps.nil ?_
         refine AWp.ret ?_
         cases h
         exact Or.inr ⟨_, rfl, by simp, rfl, rfl⟩
       · replace h := of_false h hb
         refine AWp.keepTo [0, 1, 2, 7] 0 ⟨[(0, q0 v1), (1, q1 v2), (2, q1 v3), (7, tI v7)], []⟩ ?_ z0 ?_
         · kernel_rfl
         refine AWp.skip ?_
         refine AWp.start [0, 1, 2] [] [] [0, 1, 2, 7] 0 ⟨[(0, q0 v1), (1, q1 v2), (2, q1 v3), (7, tI (w64 (v7 + (1 : Int))))], []⟩ rfl ?_ z0 trivial ?_
         · kernel_rfl
         refine AOps.nil ?_
         cases h
         exact Or.inl ⟨_, rfl, rfl, rfl⟩
     · replace h := of_false h hb
       refine AWp.keepTo [] 0 ⟨[], []⟩ ?_ z0 ?_
       · kernel_rfl
       refine AWp.exit ?_
       cases h
       exact Or.inr ⟨_, rfl, by simp, rfl, rfl⟩
   · intro e σ hp
     rcases y with v9 | _
     · obtain ⟨rfl, rfl⟩ := hp
       cases h
       exact ⟨.inr rfl, rfl⟩
     · obtain ⟨rfl, rfl⟩ := hp
       refine AWp.seq ?_
       refine AWp.start [0] [] [] [6] 0 ⟨[(6, tB true)], []⟩ rfl ?_ z0 trivial ?_
       · kernel_rfl
       refine AOps.nil ?_
       refine AWp.ret ?_
       cases h
       exact ⟨.inr rfl, rfl⟩

noncomputable def f19_j1 (v8 : Int) (v10 : List T34) : Option (((List T34) × Int) ⊕ Out ((List T34) × Int) (List T34)) :=
 some (.inl (v10, w64 (v8 + (1 : Int))))

noncomputable def f19_b2 (v1 : List T36) (v2 : List Int) (v3 : List Int) (v4 : Int) (v5 : Int) (v7 : List T34) (v8 : Int) : Option (((List T34) × Int) ⊕ Out ((List T34) × Int) (List T34)) :=
 cond (decide (v8 < (v1.length : Int))) (if (0 : Int) ≤ v8 ∧ v8 < (v2.length : Int) then (cond (v2.getD v8.toNat default != v4) (some true) (if (0 : Int) ≤ v8 ∧ v8 < (v3.length : Int) then some (decide (v5 < v3.getD v8.toNat default)) else none)).bind fun v11 => cond v11 (f19_j1 v8 v7) (if (0 : Int) ≤ v8 ∧ v8 < (v3.length : Int) ∧ (0 : Int) ≤ v8 ∧ v8 < (v1.length : Int) ∧ (v1.getD v8.toNat default).f1 ≠ (0 : Int) then if (0 : Int) ≤ v8 ∧ v8 < (v1.length : Int) then cond (decide (w64 (Int.tdiv (w64 (v5 - (v3.getD v8.toNat default))) ((v1.getD v8.toNat default).f1)) < (v1.getD v8.toNat default).f2)) (if (0 : Int) ≤ v8 ∧ v8 < (v1.length : Int) then if (v7.length + [T34.mk ((v1.getD v8.toNat default).f0) (w64 (Int.tdiv (w64 (v5 - (v3.getD v8.toNat default))) ((v1.getD v8.toNat default).f1)))].length) * 24 ≤ 140737488355328 then f19_j1 v8 (v7 ++ [T34.mk ((v1.getD v8.toNat default).f0) (w64 (Int.tdiv (w64 (v5 - (v3.getD v8.toNat default))) ((v1.getD v8.toNat default).f1)))]) else none else none) (f19_j1 v8 v7) else none else none) else none) (some (.inr (.go v7)))

noncomputable def f19 (v1 : List T36) (v2 : List Int) (v3 : List Int) (v4 : Int) (v5 : Int) : Option ((List T34) × Int) :=
 (f29 v1 v2 v3).bind fun v6 => cond (!v6) (some (([] : List T34), (2 : Int))) ((iter (fun s => f19_b2 v1 v2 v3 v4 v5 s.1 s.2) ([], (0 : Int))).bind fun y => match y with | .ret v12 => some (v12.1, v12.2) | .go v9 => some (v9, (0 : Int)))

theorem f19_ok (v1 : List T36) (v2 : List Int) (v3 : List Int) (v4 : Int) (v5 : Int) {r : (List T34) × Int} (h : f19 v1 v2 v3 v4 v5 = some r) : ACall Try.prog 19 [.tv (fzL 3 c36 v1), .tv (fzL 1 (cInt .i64) v2), .tv (fzL 1 (cInt .i64) v3), .tv (.int .i64 v4), .tv (.int .i64 v5)] [] (.tup [.tv (fzL 2 c34 r.1), .tv (.int .i64 r.2)]) [] := by
 refine ACall.ofN (FF 70 0) (rs := [10, 11]) (env := [(10, q3 r.1), (11, tI r.2)]) Try.func19 rfl Try.ntmps19 Try.results19 (by decide) (by decide) rfl (Nat.le_of_ble_eq_true rfl) rfl (get_ofN _ _ _ rfl) (ok_ofN _ rfl) ?_
 refine AWp.seq ?_
 refine AWp.start [0, 1] [] [] [0, 1, 2, 3, 4] 0 ⟨[(0, q0 v1), (1, q1 v2), (2, q1 v3), (3, tI v4), (4, tI v5)], []⟩ rfl ?_ z0 trivial ?_
 · kernel_rfl
 refine AOps.nil ?_
 refine AWp.seq ?_
 refine AWp.seq ?_
 refine AWp.start [0, 1, 2] [3, 4] [] [0, 1, 2, 3, 4, 15, 16, 17] 0 ⟨[(0, q0 v1), (1, q1 v2), (2, q1 v3), (3, tI v4), (4, tI v5), (15, q0 v1), (16, q1 v2), (17, q1 v3)], []⟩ rfl ?_ z0 trivial ?_
 · kernel_rfl
 obtain ⟨v6, hv6, h⟩ := of_bind h
 refine AOps.cons (AOne.callP (F := (FF 70 0)) _ rfl rfl rfl _ rfl rfl _ _ rfl Try.call29 [q0 v1, q1 v2, q1 v3] rfl rfl (f29_ok v1 v2 v3 hv6) rfl) ?_
 refine AOps.go [4] [] [] [0, 1, 2, 3, 4, 19] 0 ⟨[(0, q0 v1), (1, q1 v2), (2, q1 v3), (3, tI v4), (4, tI v5), (19, tB (!v6))], []⟩ ?_ z0 trivial ?_
 · kernel_rfl
 refine AOps.nil ?_
 refine AWp.cond rfl (fun hb => ?_) fun hb => ?_
 · replace h := of_true h hb
   refine AWp.keepTo [] 0 ⟨[], []⟩ ?_ z0 ?_
   · kernel_rfl
   refine AWp.seq ?_
   refine AWp.start [0, 1] [] [] [10, 11] 0 ⟨[(10, .tv (.sc (.slice none 0 0))), (11, tI (2 : Int))], []⟩ rfl ?_ z0 trivial ?_
   · kernel_rfl
   refine AOps.nil ?_
   refine AWp.nilFz 10 2 (fun i => c34 (([] : List T34).getD i default)) rfl ?_
   refine AWp.keepTo [10, 11] 0 ⟨[(10, q3 ([] : List T34)), (11, tI (2 : Int))], []⟩ ?_ z0 ?_
   · kernel_rfl
   refine AWp.ret ?_
   cases h
   exact ⟨.inr rfl, rfl⟩
 · replace h := of_false h hb
   refine AWp.keepTo [0, 1, 2, 3, 4] 0 ⟨[(0, q0 v1), (1, q1 v2), (2, q1 v3), (3, tI v4), (4, tI v5)], []⟩ ?_ z0 ?_
   · kernel_rfl
   refine AWp.skip ?_
   refine AWp.seq ?_
   refine AWp.start [0] [] [] [0, 1, 2, 3, 4, 12] 0 ⟨[(0, q0 v1), (1, q1 v2), (2, q1 v3), (3, tI v4), (4, tI v5), (12, .tv (.sc (.slice none 0 0)))], []⟩ rfl ?_ z0 trivial ?_
   · kernel_rfl
   refine AOps.nil ?_
   refine AWp.seq ?_
   refine AWp.seq ?_
   refine AWp.start [0] [] [] [0, 1, 2, 3, 4, 12, 13] 0 ⟨[(0, q0 v1), (1, q1 v2), (2, q1 v3), (3, tI v4), (4, tI v5), (12, .tv (.sc (.slice none 0 0))), (13, tI (0 : Int))], []⟩ rfl ?_ z0 trivial ?_
   · kernel_rfl
   refine AOps.nil ?_
   refine AWp.block ?_
   refine AWp.nilOwn 12 2 35 (fun i => c34 (([] : List T34).getD i default)) rfl ?_
   refine AWp.keepTo [0, 1, 2, 3, 4, 12, 13] 0 ⟨[(0, q0 v1), (1, q1 v2), (2, q1 v3), (3, tI v4), (4, tI v5), (12, q5 ([] : List T34)), (13, tI (0 : Int))], []⟩ ?_ z0 ?_
   · kernel_rfl
   obtain ⟨y, hy, h⟩ := of_bind h
   refine AWp.mono (AWp.loop (S := (List T34) × Int) (Y := Out ((List T34) × Int) (List T34)) (fun s => ⟨[(0, q0 v1), (1, q1 v2), (2, q1 v3), (3, tI v4), (4, tI v5), (12, q5 s.1), (13, tI s.2)], []⟩) (fun s => f19_b2 v1 v2 v3 v4 v5 s.1 s.2) (fun y e σ => match y with | .ret r => e = .ret ∧ σ = ⟨[(10, q3 r.1), (11, tI r.2)], []⟩ | .go v => e = .exit 0 ∧ σ = ⟨[(12, q5 v)], []⟩) ?_ hy) ?_
   · rintro ⟨v7, v8⟩ o h
     refine AWp.seq ?_
     refine AWp.seq ?_
     refine AWp.start [0, 1, 2, 3] [] [] [0, 1, 2, 3, 4, 12, 13, 23] 0 ⟨[(0, q0 v1), (1, q1 v2), (2, q1 v3), (3, tI v4), (4, tI v5), (12, q5 v7), (13, tI v8), (23, tB (decide (v8 < (v1.length : Int))))], []⟩ rfl ?_ z0 trivial ?_
     · kernel_rfl
     refine AOps.nil ?_
     refine AWp.cond rfl (fun hb => ?_) fun hb => ?_
     · replace h := of_true h hb
       refine AWp.keepTo [0, 1, 2, 3, 4, 12, 13] 0 ⟨[(0, q0 v1), (1, q1 v2), (2, q1 v3), (3, tI v4), (4, tI v5), (12, q5 v7), (13, tI v8)], []⟩ ?_ z0 ?_
       · kernel_rfl
       refine AWp.skip ?_
       refine AWp.join (V := (List T34)) (fun w => ⟨[(0, q0 v1), (1, q1 v2), (2, q1 v3), (3, tI v4), (4, tI v5), (12, q5 w), (13, tI v8)], []⟩) (fun w => f19_j1 v8 w = some o) ?_ ?_
       · refine AWp.block ?_
         refine AWp.seq ?_
         refine AWp.seq ?_
         obtain ⟨hg, h⟩ := of_guard h
         refine AWp.start [0, 1, 2, 3, 4, 5, 6] [7, 8, 9, 10, 11, 12, 13] [(0 : Int) ≤ v8, v8 < (v2.length : Int)] [0, 1, 2, 3, 4, 12, 13, 32] 0 ⟨[(0, q0 v1), (1, q1 v2), (2, q1 v3), (3, tI v4), (4, tI v5), (12, q5 v7), (13, tI v8), (32, tB (gD v2 v8 != v4))], []⟩ rfl ?_ z0 ⟨hg.1, hg.2⟩ ?_
         · kernel_rfl
         obtain ⟨v11, hc7, h⟩ := of_bind h
         refine AOps.cut [7, 8, 9, 10, 11, 12, 13] [] (fun σ => σ = ⟨[(0, q0 v1), (1, q1 v2), (2, q1 v3), (3, tI v4), (4, tI v5), (12, q5 v7), (13, tI v8), (39, tB v11)], []⟩) ?_ fun σ' hJ => ?_
         · refine AOps.split (fun b => ⟨[(0, q0 v1), (1, q1 v2), (2, q1 v3), (3, tI v4), (4, tI v5), (12, q5 v7), (13, tI v8), (32, tB b)], []⟩) _ (fun hb => ?_) fun hb => ?_
           · replace hc7 := of_true hc7 hb
             refine AOps.go [7, 8, 9, 10, 11, 12, 13] [] [] [0, 1, 2, 3, 4, 12, 13, 39] 0 ⟨[(0, q0 v1), (1, q1 v2), (2, q1 v3), (3, tI v4), (4, tI v5), (12, q5 v7), (13, tI v8), (39, tB true)], []⟩ ?_ z0 trivial ?_
             · kernel_rfl
             cases hc7
             exact AOps.nil rfl
           · replace hc7 := of_false hc7 hb
             obtain ⟨hg, hc7⟩ := of_guard hc7
             refine AOps.go [7, 8, 9, 10, 11, 12, 13] [] [(0 : Int) ≤ v8, v8 < (v3.length : Int)] [0, 1, 2, 3, 4, 12, 13, 39] 0 ⟨[(0, q0 v1), (1, q1 v2), (2, q1 v3), (3, tI v4), (4, tI v5), (12, q5 v7), (13, tI v8), (39, tB (decide (v5 < gD v3 v8)))], []⟩ ?_ z0 ⟨hg.1, hg.2⟩ ?_
             · kernel_rfl
             cases hc7
             exact AOps.nil rfl
         subst hJ
         refine AOps.nil ?_
         refine AWp.cond rfl (fun hb => ?_) fun hb => ?_
         · replace h := of_true h hb
           refine AWp.keepTo [0, 1, 2, 3, 4, 12, 13] 0 ⟨[(0, q0 v1), (1, q1 v2), (2, q1 v3), (3, tI v4), (4, tI v5), (12, q5 v7), (13, tI v8)], []⟩ ?_ z0 ?_
           · kernel_rfl
           refine AWp.exit ?_
           exact ⟨v7, h, rfl⟩
         · replace h := of_false h hb
           refine AWp.keepTo [0, 1, 2, 3, 4, 12, 13] 0 ⟨[(0, q0 v1), (1, q1 v2), (2, q1 v3), (3, tI v4), (4, tI v5), (12, q5 v7), (13, tI v8)], []⟩ ?_ z0 ?_
           · kernel_rfl
           refine AWp.skip ?_
           refine AWp.seq ?_
           refine AWp.draw FFm _ (n := 13) rfl (ls := #[n1, n1, n1, n1, n1, n1, n1, n1, n1, n1, n1, n1, n1]) rfl ?_ (fun _ h => h)
           obtain ⟨hg, h⟩ := of_guard h
           refine AAny.go (by kernel_rfl) [0, 1, 2, 3, 4, 5, 6, 7, 8, 9, 10, 11, 12] (fuel' := 0) rfl [(0 : Int) ≤ v8, v8 < (v3.length : Int), (0 : Int) ≤ v8, v8 < (v1.length : Int), (gD v1 v8).f1 ≠ (0 : Int)] #[y1, y1, y1, y1, y1, y1, y1, y1, y1, y1, y1, y1, y1] [0, 1, 2, 3, 4, 12, 13, 14] 0 ⟨[(0, q0 v1), (1, q1 v2), (2, q1 v3), (3, tI v4), (4, tI v5), (12, q5 v7), (13, tI v8), (14, tI (w64 (Int.tdiv (w64 (v5 - (gD v3 v8))) ((gD v1 v8).f1))))], []⟩ ?_ z0 ⟨hg.1, hg.2.1, hg.2.2.1, hg.2.2.2.1, hg.2.2.2.2⟩ ?_
           · kernel_rfl
           refine AAny.keepTo [0, 1, 2, 3, 4, 12, 13, 14] 0 ⟨[(0, q0 v1), (1, q1 v2), (2, q1 v3), (3, tI v4), (4, tI v5), (12, q5 v7), (13, tI v8), (14, tI (w64 (Int.tdiv (w64 (v5 - (gD v3 v8))) ((gD v1 v8).f1))))], []⟩ _ ?_ rfl z0 (AAny.done (by kernel_rfl) ?_)
           · kernel_rfl
           refine AWp.seq ?_
           obtain ⟨hg, h⟩ := of_guard h
           refine AWp.start [0, 1, 2, 3, 4, 5, 6] [] [(0 : Int) ≤ v8, v8 < (v1.length : Int)] [0, 1, 2, 3, 4, 12, 13, 14, 58] 0 ⟨[(0, q0 v1), (1, q1 v2), (2, q1 v3), (3, tI v4), (4, tI v5), (12, q5 v7), (13, tI v8), (14, tI (w64 (Int.tdiv (w64 (v5 - (gD v3 v8))) ((gD v1 v8).f1)))), (58, tB (decide (w64 (Int.tdiv (w64 (v5 - (gD v3 v8))) ((gD v1 v8).f1)) < (gD v1 v8).f2)))], []⟩ rfl ?_ z0 ⟨hg.1, hg.2⟩ ?_
           · kernel_rfl
           refine AOps.nil ?_
           refine AWp.cond rfl (fun hb => ?_) fun hb => ?_
           · replace h := of_true h hb
             refine AWp.keepTo [0, 1, 2, 3, 4, 12, 13, 14] 0 ⟨[(0, q0 v1), (1, q1 v2), (2, q1 v3), (3, tI v4), (4, tI v5), (12, q5 v7), (13, tI v8), (14, tI (w64 (Int.tdiv (w64 (v5 - (gD v3 v8))) ((gD v1 v8).f1))))], []⟩ ?_ z0 ?_
             · kernel_rfl
             obtain ⟨hg, h⟩ := of_guard h
             refine AWp.start [0, 1, 2, 3, 4, 5, 6, 7, 8] [9, 10] [(0 : Int) ≤ v8, v8 < (v1.length : Int)] [0, 1, 2, 3, 4, 12, 13, 59, 67] 0 ⟨[(0, q0 v1), (1, q1 v2), (2, q1 v3), (3, tI v4), (4, tI v5), (12, q5 v7), (13, tI v8), (59, .al (.slot 12 0, [])), (67, .tv (.own 2 35 1 (newRowF [.str ((gD v1 v8).f0), .int .i64 (w64 (Int.tdiv (w64 (v5 - (gD v3 v8))) ((gD v1 v8).f1)))] 2)))], []⟩ rfl ?_ z0 ⟨hg.1, hg.2⟩ ?_
             · kernel_rfl
             refine AOps.extL 67 c34 [T34.mk ((gD v1 v8).f0) (w64 (Int.tdiv (w64 (v5 - (gD v3 v8))) ((gD v1 v8).f1)))] rfl rfl (row_at c34 2 (fun _ => rfl) [T34.mk ((gD v1 v8).f0) (w64 (Int.tdiv (w64 (v5 - (gD v3 v8))) ((gD v1 v8).f1)))] _ rfl) ?_
             obtain ⟨hg, h⟩ := of_guard h
             refine AOps.go [9] [10] [(v7.length + [T34.mk ((gD v1 v8).f0) (w64 (Int.tdiv (w64 (v5 - (gD v3 v8))) ((gD v1 v8).f1)))].length) * 24 ≤ 140737488355328, PlainTo v7.length (fun i => c34 (v7.getD i default)), PlainTo ([T34.mk ((gD v1 v8).f0) (w64 (Int.tdiv (w64 (v5 - (gD v3 v8))) ((gD v1 v8).f1)))].length) (fun i => c34 ([T34.mk ((gD v1 v8).f0) (w64 (Int.tdiv (w64 (v5 - (gD v3 v8))) ((gD v1 v8).f1)))].getD i default))] [0, 1, 2, 3, 4, 13, 68] 0 ⟨[(0, q0 v1), (1, q1 v2), (2, q1 v3), (3, tI v4), (4, tI v5), (13, tI v8), (68, .tv (.own 2 35 (v7.length + [T34.mk ((gD v1 v8).f0) (w64 (Int.tdiv (w64 (v5 - (gD v3 v8))) ((gD v1 v8).f1)))].length) (appF v7.length (fun i => c34 (v7.getD i default)) (fun i => c34 ([T34.mk ((gD v1 v8).f0) (w64 (Int.tdiv (w64 (v5 - (gD v3 v8))) ((gD v1 v8).f1)))].getD i default)))))], []⟩ ?_ z0 ⟨hg, (fun _ _ => rfl), (fun _ _ => rfl)⟩ ?_
             · kernel_rfl
             refine AOps.extL 68 c34 (v7 ++ [T34.mk ((gD v1 v8).f0) (w64 (Int.tdiv (w64 (v5 - (gD v3 v8))) ((gD v1 v8).f1)))]) rfl List.length_append.symm (app_at c34 v7 [T34.mk ((gD v1 v8).f0) (w64 (Int.tdiv (w64 (v5 - (gD v3 v8))) ((gD v1 v8).f1)))]) ?_
             refine AOps.go [10] [] [] [0, 1, 2, 3, 4, 12, 13] 0 ⟨[(0, q0 v1), (1, q1 v2), (2, q1 v3), (3, tI v4), (4, tI v5), (12, q5 (v7 ++ [T34.mk ((gD v1 v8).f0) (w64 (Int.tdiv (w64 (v5 - (gD v3 v8))) ((gD v1 v8).f1)))])), (13, tI v8)], []⟩ ?_ z0 trivial ?_
             · kernel_rfl
             refine AOps.nil ?_
             exact ⟨v7 ++ [T34.mk ((gD v1 v8).f0) (w64 (Int.tdiv (w64 (v5 - (gD v3 v8))) ((gD v1 v8).f1)))], h, rfl⟩
           · replace h := of_false h hb
             refine AWp.keepTo [0, 1, 2, 3, 4, 12, 13] 0 ⟨[(0, q0 v1), (1, q1 v2), (2, q1 v3), (3, tI v4), (4, tI v5), (12, q5 v7), (13, tI v8)], []⟩ ?_ z0 ?_
             · kernel_rfl
             refine AWp.skip ?_
             exact ⟨v7, h, rfl⟩
       · rintro v10 h
         refine AWp.start [0, 1, 2] [] [] [0, 1, 2, 3, 4, 12, 13] 0 ⟨[(0, q0 v1), (1, q1 v2), (2, q1 v3), (3, tI v4), (4, tI v5), (12, q5 v10), (13, tI (w64 (v8 + (1 : Int))))], []⟩ rfl ?_ z0 trivial ?_
         · kernel_rfl
         refine AOps.nil ?_
         cases h
         exact Or.inl ⟨_, rfl, rfl, rfl⟩
     · replace h := of_false h hb
       refine AWp.keepTo [12] 0 ⟨[(12, q5 v7)], []⟩ ?_ z0 ?_
       · kernel_rfl
       refine AWp.exit ?_
       cases h
       exact Or.inr ⟨_, rfl, by simp, rfl, rfl⟩
   · intro e σ hp
     rcases y with v12 | v9
     · obtain ⟨rfl, rfl⟩ := hp
       cases h
       exact ⟨.inr rfl, rfl⟩
     · obtain ⟨rfl, rfl⟩ := hp
       refine AWp.seq ?_
       refine AWp.freezeL 12 c34 v9 rfl (fun _ => rfl) ?_
       refine AWp.start [0, 1, 2] [] [] [10, 11] 0 ⟨[(10, q3 v9), (11, tI (0 : Int))], []⟩ rfl ?_ z0 trivial ?_
       · kernel_rfl
       refine AOps.nil ?_
       refine AWp.ret ?_
       cases h
       exact ⟨.inr rfl, rfl⟩

noncomputable def f7_b1 (v8 : (List T34) × Int) (v9 : (List T34) × Int) (v11 : Int) : Option (Int ⊕ Out Bool Unit) :=
 cond (decide (v11 < (v8.1.length : Int))) (if (0 : Int) ≤ v11 ∧ v11 < (v8.1.length : Int) ∧ (0 : Int) ≤ v11 ∧ v11 < (v9.1.length : Int) then cond (!((((v8.1.getD v11.toNat default).f0) == ((v9.1.getD v11.toNat default).f0)) && (((v8.1.getD v11.toNat default).f1) == ((v9.1.getD v11.toNat default).f1)))) (some (.inr (.ret false))) (some (.inl (w64 (v11 + (1 : Int))))) else none) (some (.inr (.go ())))

noncomputable def f7 (v1 : List T36) (v2 : T42) (v3 : T44) : Option Bool :=
 (f9 v1 ([] : List (List T34)) ([] : List (List (List UInt8)))).bind fun v4 => (cond v4 (some true) (some (decide ((v2.f0.length : Int) > (500 : Int))))).bind fun v5 => (cond v5 (some true) (some (decide ((v2.f1.length : Int) > (500 : Int))))).bind fun v6 => cond v6 ((f10 ).bind fun v7 => some v7) ((f18 v1 v2.f0 v2.f1 v3.f0 v3.f1).bind fun v8 => (f19 v1 v2.f0 v2.f1 v3.f0 v3.f1).bind fun v9 => (cond (v8.2 != v9.2) (some true) (some ((v8.1.length : Int) != (v9.1.length : Int)))).bind fun v10 => cond v10 (some false) ((iter (fun s => f7_b1 v8 v9 s) (0 : Int)).bind fun y => match y with | .ret v12 => some v12 | .go _ => (f10 ).bind fun v13 => some v13))

theorem f7_ok (v1 : List T36) (v2 : T42) (v3 : T44) {r : Bool} (h : f7 v1 v2 v3 = some r) : ACall Try.prog 7 [.tv (fzL 3 c36 v1), .agg [fzL 1 (cInt .i64) v2.f0, fzL 1 (cInt .i64) v2.f1, .str v2.f2.f0, .int .i64 v2.f2.f1, .str v2.f3.f0, .int .i64 v2.f3.f1], .agg [.int .i64 v3.f0, .int .i64 v3.f1]] [] (.tv (.bool r)) [] := by
 refine ACall.of1 (FF 79 0) Try.func7 rfl Try.ntmps7 Try.results7 (Nat.le_of_ble_eq_true rfl) rfl rfl ?_
 refine AWp.seq ?_
 refine AWp.start [0, 1, 2] [] [] [0, 4, 5] 2 ⟨[(0, q0 v1), (4, .pc 0 0), (5, .pc 1 0)], [.cells 43 [k2 v2.f0, k2 v2.f1, .str v2.f2.f0, .int .i64 v2.f2.f1, .str v2.f3.f0, .int .i64 v2.f3.f1], .cells 45 [.int .i64 v3.f0, .int .i64 v3.f1]]⟩ rfl ?_ z0 trivial ?_
 · kernel_rfl
 refine AOps.nil ?_
 refine AWp.seq ?_
 refine AWp.seq ?_
 refine AWp.pin 0 rfl rfl ?_
 refine AWp.pin 1 rfl rfl ?_
 refine AWp.keepTo [0, 4, 5] 0 ⟨[(0, q0 v1), (4, .rp [k2 v2.f0, k2 v2.f1, .str v2.f2.f0, .int .i64 v2.f2.f1, .str v2.f3.f0, .int .i64 v2.f3.f1]), (5, .rp [.int .i64 v3.f0, .int .i64 v3.f1])], []⟩ ?_ z0 ?_
 · kernel_rfl
 refine AWp.start [0] [1, 2, 3, 4, 5, 6, 7, 8, 9, 10, 11, 12, 13] [] [0, 4, 5, 12] 0 ⟨[(0, q0 v1), (4, .rp [k2 v2.f0, k2 v2.f1, .str v2.f2.f0, .int .i64 v2.f2.f1, .str v2.f3.f0, .int .i64 v2.f3.f1]), (5, .rp [.int .i64 v3.f0, .int .i64 v3.f1]), (12, q0 v1)], []⟩ rfl ?_ z0 trivial ?_
 · kernel_rfl
 obtain ⟨v4, hv4, h⟩ := of_bind h
 refine AOps.cons (AOne.callP (F := (FF 79 0)) _ rfl rfl rfl _ rfl rfl _ _ rfl Try.call9 [q0 v1, .tv (.sc (.slice none 0 0)), .tv (.sc (.slice none 0 0))] rfl rfl (ACall.nils (.keep rfl (.nil (.nil .done))) (f9_ok v1 ([] : List (List T34)) ([] : List (List (List UInt8))) hv4)) rfl) ?_
 refine AOps.go [2] [3, 4, 5, 6, 7, 8, 9, 10, 11, 12, 13] [] [0, 4, 5, 14] 0 ⟨[(0, q0 v1), (4, .rp [k2 v2.f0, k2 v2.f1, .str v2.f2.f0, .int .i64 v2.f2.f1, .str v2.f3.f0, .int .i64 v2.f3.f1]), (5, .rp [.int .i64 v3.f0, .int .i64 v3.f1]), (14, tB v4)], []⟩ ?_ z0 trivial ?_
 · kernel_rfl
 obtain ⟨v5, hc3, h⟩ := of_bind h
 refine AOps.cut [3, 4, 5, 6, 7] [8, 9, 10, 11, 12, 13] (fun σ => σ = ⟨[(0, q0 v1), (4, .rp [k2 v2.f0, k2 v2.f1, .str v2.f2.f0, .int .i64 v2.f2.f1, .str v2.f3.f0, .int .i64 v2.f3.f1]), (5, .rp [.int .i64 v3.f0, .int .i64 v3.f1]), (19, tB v5)], []⟩) ?_ fun σ' hJ => ?_
 · refine AOps.split (fun b => ⟨[(0, q0 v1), (4, .rp [k2 v2.f0, k2 v2.f1, .str v2.f2.f0, .int .i64 v2.f2.f1, .str v2.f3.f0, .int .i64 v2.f3.f1]), (5, .rp [.int .i64 v3.f0, .int .i64 v3.f1]), (14, tB b)], []⟩) _ (fun hb => ?_) fun hb => ?_
   · replace hc3 := of_true hc3 hb
     refine AOps.go [3, 4, 5, 6, 7] [] [] [0, 4, 5, 19] 0 ⟨[(0, q0 v1), (4, .rp [k2 v2.f0, k2 v2.f1, .str v2.f2.f0, .int .i64 v2.f2.f1, .str v2.f3.f0, .int .i64 v2.f3.f1]), (5, .rp [.int .i64 v3.f0, .int .i64 v3.f1]), (19, tB true)], []⟩ ?_ z0 trivial ?_
     · kernel_rfl
     cases hc3
     exact AOps.nil rfl
   · replace hc3 := of_false hc3 hb
     refine AOps.go [3, 4, 5, 6, 7] [] [] [0, 4, 5, 19] 0 ⟨[(0, q0 v1), (4, .rp [k2 v2.f0, k2 v2.f1, .str v2.f2.f0, .int .i64 v2.f2.f1, .str v2.f3.f0, .int .i64 v2.f3.f1]), (5, .rp [.int .i64 v3.f0, .int .i64 v3.f1]), (19, tB (decide ((v2.f0.length : Int) > (500 : Int))))], []⟩ ?_ z0 trivial ?_
     · kernel_rfl
     cases hc3
     exact AOps.nil rfl
 subst hJ
 refine AOps.go [8] [9, 10, 11, 12, 13] [] [0, 4, 5, 20] 0 ⟨[(0, q0 v1), (4, .rp [k2 v2.f0, k2 v2.f1, .str v2.f2.f0, .int .i64 v2.f2.f1, .str v2.f3.f0, .int .i64 v2.f3.f1]), (5, .rp [.int .i64 v3.f0, .int .i64 v3.f1]), (20, tB v5)], []⟩ ?_ z0 trivial ?_
 · kernel_rfl
 obtain ⟨v6, hc9, h⟩ := of_bind h
 refine AOps.cut [9, 10, 11, 12, 13] [] (fun σ => σ = ⟨[(0, q0 v1), (4, .rp [k2 v2.f0, k2 v2.f1, .str v2.f2.f0, .int .i64 v2.f2.f1, .str v2.f3.f0, .int .i64 v2.f3.f1]), (5, .rp [.int .i64 v3.f0, .int .i64 v3.f1]), (25, tB v6)], []⟩) ?_ fun σ' hJ => ?_
 · refine AOps.split (fun b => ⟨[(0, q0 v1), (4, .rp [k2 v2.f0, k2 v2.f1, .str v2.f2.f0, .int .i64 v2.f2.f1, .str v2.f3.f0, .int .i64 v2.f3.f1]), (5, .rp [.int .i64 v3.f0, .int .i64 v3.f1]), (20, tB b)], []⟩) _ (fun hb => ?_) fun hb => ?_
   · replace hc9 := of_true hc9 hb
     refine AOps.go [9, 10, 11, 12, 13] [] [] [0, 4, 5, 25] 0 ⟨[(0, q0 v1), (4, .rp [k2 v2.f0, k2 v2.f1, .str v2.f2.f0, .int .i64 v2.f2.f1, .str v2.f3.f0, .int .i64 v2.f3.f1]), (5, .rp [.int .i64 v3.f0, .int .i64 v3.f1]), (25, tB true)], []⟩ ?_ z0 trivial ?_
     · kernel_rfl
     cases hc9
     exact AOps.nil rfl
   · replace hc9 := of_false hc9 hb
     refine AOps.go [9, 10, 11, 12, 13] [] [] [0, 4, 5, 25] 0 ⟨[(0, q0 v1), (4, .rp [k2 v2.f0, k2 v2.f1, .str v2.f2.f0, .int .i64 v2.f2.f1, .str v2.f3.f0, .int .i64 v2.f3.f1]), (5, .rp [.int .i64 v3.f0, .int .i64 v3.f1]), (25, tB (decide ((v2.f1.length : Int) > (500 : Int))))], []⟩ ?_ z0 trivial ?_
     · kernel_rfl
     cases hc9
     exact AOps.nil rfl
 subst hJ
 refine AOps.nil ?_
 refine AWp.cond rfl (fun hb => ?_) fun hb => ?_
 · replace h := of_true h hb
   refine AWp.keepTo [] 0 ⟨[], []⟩ ?_ z0 ?_
   · kernel_rfl
   refine AWp.seq ?_
   refine AWp.start [] [0, 1] [] [] 0 ⟨[], []⟩ rfl ?_ z0 trivial ?_
   · kernel_rfl
   obtain ⟨v7, hv7, h⟩ := of_bind h
   refine AOps.cons (AOne.callP (F := (FF 79 0)) _ rfl rfl rfl _ rfl rfl _ _ rfl Try.call10 [] rfl rfl (f10_ok  hv7) rfl) ?_
   refine AOps.go [1] [] [] [6] 0 ⟨[(6, tB v7)], []⟩ ?_ z0 trivial ?_
   · kernel_rfl
   refine AOps.nil ?_
   refine AWp.ret ?_
   cases h
   exact ⟨.inr rfl, rfl⟩
 · replace h := of_false h hb
   refine AWp.keepTo [0, 4, 5] 0 ⟨[(0, q0 v1), (4, .rp [k2 v2.f0, k2 v2.f1, .str v2.f2.f0, .int .i64 v2.f2.f1, .str v2.f3.f0, .int .i64 v2.f3.f1]), (5, .rp [.int .i64 v3.f0, .int .i64 v3.f1])], []⟩ ?_ z0 ?_
   · kernel_rfl
   refine AWp.skip ?_
   refine AWp.seq ?_
   refine AWp.start [0, 1, 2, 3, 4, 5, 6, 7, 8] [9, 10, 11, 12, 13, 14] [] [0, 4, 5, 28, 30, 32, 34, 36] 0 ⟨[(0, q0 v1), (4, .rp [k2 v2.f0, k2 v2.f1, .str v2.f2.f0, .int .i64 v2.f2.f1, .str v2.f3.f0, .int .i64 v2.f3.f1]), (5, .rp [.int .i64 v3.f0, .int .i64 v3.f1]), (28, q0 v1), (30, q1 v2.f0), (32, q1 v2.f1), (34, tI v3.f0), (36, tI v3.f1)], []⟩ rfl ?_ z0 trivial ?_
   · kernel_rfl
   obtain ⟨v8, hv8, h⟩ := of_bind h
   refine AOps.cons (AOne.callP (F := (FF 79 0)) _ rfl rfl rfl _ rfl rfl _ _ rfl Try.call18 [q0 v1, q1 v2.f0, q1 v2.f1, tI v3.f0, tI v3.f1] rfl rfl (f18_ok v1 v2.f0 v2.f1 v3.f0 v3.f1 hv8) rfl) ?_
   refine AOps.go [10, 11, 12, 13, 14] [] [] [0, 4, 5, 7, 8] 0 ⟨[(0, q0 v1), (4, .rp [k2 v2.f0, k2 v2.f1, .str v2.f2.f0, .int .i64 v2.f2.f1, .str v2.f3.f0, .int .i64 v2.f3.f1]), (5, .rp [.int .i64 v3.f0, .int .i64 v3.f1]), (7, q3 v8.1), (8, tI v8.2)], []⟩ ?_ z0 trivial ?_
   · kernel_rfl
   refine AOps.nil ?_
   refine AWp.seq ?_
   refine AWp.start [0, 1, 2, 3, 4, 5, 6, 7, 8] [9, 10, 11, 12, 13, 14] [] [7, 8, 41, 43, 45, 47, 49] 0 ⟨[(7, q3 v8.1), (8, tI v8.2), (41, q0 v1), (43, q1 v2.f0), (45, q1 v2.f1), (47, tI v3.f0), (49, tI v3.f1)], []⟩ rfl ?_ z0 trivial ?_
   · kernel_rfl
   obtain ⟨v9, hv9, h⟩ := of_bind h
   refine AOps.cons (AOne.callP (F := (FF 79 0)) _ rfl rfl rfl _ rfl rfl _ _ rfl Try.call19 [q0 v1, q1 v2.f0, q1 v2.f1, tI v3.f0, tI v3.f1] rfl rfl (f19_ok v1 v2.f0 v2.f1 v3.f0 v3.f1 hv9) rfl) ?_
   refine AOps.go [10, 11, 12, 13, 14] [] [] [7, 8, 9, 10] 0 ⟨[(7, q3 v8.1), (8, tI v8.2), (9, q3 v9.1), (10, tI v9.2)], []⟩ ?_ z0 trivial ?_
   · kernel_rfl
   refine AOps.nil ?_
   refine AWp.seq ?_
   refine AWp.seq ?_
   refine AWp.start [0, 1, 2, 3] [4, 5, 6, 7, 8, 9] [] [7, 9, 56] 0 ⟨[(7, q3 v8.1), (9, q3 v9.1), (56, tB (v8.2 != v9.2))], []⟩ rfl ?_ z0 trivial ?_
   · kernel_rfl
   obtain ⟨v10, hc4, h⟩ := of_bind h
   refine AOps.cut [4, 5, 6, 7, 8, 9] [] (fun σ => σ = ⟨[(7, q3 v8.1), (9, q3 v9.1), (62, tB v10)], []⟩) ?_ fun σ' hJ => ?_
   · refine AOps.split (fun b => ⟨[(7, q3 v8.1), (9, q3 v9.1), (56, tB b)], []⟩) _ (fun hb => ?_) fun hb => ?_
     · replace hc4 := of_true hc4 hb
       refine AOps.go [4, 5, 6, 7, 8, 9] [] [] [7, 9, 62] 0 ⟨[(7, q3 v8.1), (9, q3 v9.1), (62, tB true)], []⟩ ?_ z0 trivial ?_
       · kernel_rfl
       cases hc4
       exact AOps.nil rfl
     · replace hc4 := of_false hc4 hb
       refine AOps.go [4, 5, 6, 7, 8, 9] [] [] [7, 9, 62] 0 ⟨[(7, q3 v8.1), (9, q3 v9.1), (62, tB ((v8.1.length : Int) != (v9.1.length : Int)))], []⟩ ?_ z0 trivial ?_
       · kernel_rfl
       cases hc4
       exact AOps.nil rfl
   subst hJ
   refine AOps.nil ?_
   refine AWp.cond rfl (fun hb => ?_) fun hb => ?_
   · replace h := of_true h hb
     refine AWp.keepTo [] 0 ⟨[], []⟩ ?_ z0 ?_
     · kernel_rfl
     refine AWp.seq ?_
     refine AWp.start [0] [] [] [6] 0 ⟨[(6, tB false)], []⟩ rfl ?_ z0 trivial ?_
     · kernel_rfl
     refine AOps.nil ?_
     refine AWp.ret ?_
     cases h
     exact ⟨.inr rfl, rfl⟩
   · replace h := of_false h hb
     refine AWp.keepTo [7, 9] 0 ⟨[(7, q3 v8.1), (9, q3 v9.1)], []⟩ ?_ z0 ?_
     · kernel_rfl
     refine AWp.skip ?_
     refine AWp.seq ?_
     refine AWp.seq ?_
     refine AWp.start [0] [] [] [7, 9, 11] 0 ⟨[(7, q3 v8.1), (9, q3 v9.1), (11, tI (0 : Int))], []⟩ rfl ?_ z0 trivial ?_
     · kernel_rfl
     refine AOps.nil ?_
     refine AWp.block ?_
     obtain ⟨y, hy, h⟩ := of_bind h
     refine AWp.mono (AWp.loop (S := Int) (Y := Out Bool Unit) (fun s => ⟨[(7, q3 v8.1), (9, q3 v9.1), (11, tI s)], []⟩) (fun s => f7_b1 v8 v9 s) (fun y e σ => match y with | .ret r => e = .ret ∧ σ = ⟨[(6, tB r)], []⟩ | .go v => e = .exit 0 ∧ σ = ⟨[], []⟩) ?_ hy) ?_
     · rintro v11 o h
       refine AWp.seq ?_
       refine AWp.seq ?_
       refine AWp.start [0, 1, 2, 3] [] [] [7, 9, 11, 66] 0 ⟨[(7, q3 v8.1), (9, q3 v9.1), (11, tI v11), (66, tB (decide (v11 < (v8.1.length : Int))))], []⟩ rfl ?_ z0 trivial ?_
       · kernel_rfl
       refine AOps.nil ?_
       refine AWp.cond rfl (fun hb => ?_) fun hb => ?_
       · replace h := of_true h hb
         refine AWp.keepTo [7, 9, 11] 0 ⟨[(7, q3 v8.1), (9, q3 v9.1), (11, tI v11)], []⟩ ?_ z0 ?_
         · kernel_rfl
         refine AWp.skip ?_
         refine AWp.seq ?_
         refine AWp.block ?_
         refine AWp.seq ?_
         refine AWp.draw FFm _ (n := 9) rfl (ls := #[n1, n1, n1, n1, n1, n1, n1, n1, n1]) rfl ?_ (fun _ h => h)
         obtain ⟨hg, h⟩ := of_guard h
         refine AAny.go (by kernel_rfl) [0, 1, 2, 3, 4, 5, 6, 7, 8] (fuel' := 0) rfl [(0 : Int) ≤ v11, v11 < (v8.1.length : Int), (0 : Int) ≤ v11, v11 < (v9.1.length : Int)] #[y1, y1, y1, y1, y1, y1, y1, y1, y1] [7, 9, 11, 77] 0 ⟨[(7, q3 v8.1), (9, q3 v9.1), (11, tI v11), (77, tB (!((((gD v8.1 v11).f0) == ((gD v9.1 v11).f0)) && (((gD v8.1 v11).f1) == ((gD v9.1 v11).f1)))))], []⟩ ?_ z0 ⟨hg.1, hg.2.1, hg.2.2.1, hg.2.2.2⟩ ?_
         · kernel_rfl
         refine AAny.keepTo [7, 9, 11, 77] 0 ⟨[(7, q3 v8.1), (9, q3 v9.1), (11, tI v11), (77, tB (!((((gD v8.1 v11).f0) == ((gD v9.1 v11).f0)) && (((gD v8.1 v11).f1) == ((gD v9.1 v11).f1)))))], []⟩ _ ?_ rfl z0 (AAny.done (by kernel_rfl) ?_)
         · kernel_rfl
         refine AWp.cond rfl (fun hb => ?_) fun hb => ?_
         · replace h := of_true h hb
           refine AWp.keepTo [] 0 ⟨[], []⟩ ?_ z0 ?_
           · kernel_rfl
           refine AWp.seq ?_
           refine AWp.start [0] [] [] [6] 0 ⟨[(6, tB false)], []⟩ rfl ?_ z0 trivial ?_
           · kernel_rfl
           refine AOps.nil ?_
           refine AWp.ret ?_
           cases h
           exact Or.inr ⟨_, rfl, by simp, rfl, rfl⟩
         · replace h := of_false h hb
           refine AWp.keepTo [7, 9, 11] 0 ⟨[(7, q3 v8.1), (9, q3 v9.1), (11, tI v11)], []⟩ ?_ z0 ?_
           · kernel_rfl
           refine AWp.skip ?_
           refine AWp.start [0, 1, 2] [] [] [7, 9, 11] 0 ⟨[(7, q3 v8.1), (9, q3 v9.1), (11, tI (w64 (v11 + (1 : Int))))], []⟩ rfl ?_ z0 trivial ?_
           · kernel_rfl
           refine AOps.nil ?_
           cases h
           exact Or.inl ⟨_, rfl, rfl, rfl⟩
       · replace h := of_false h hb
         refine AWp.keepTo [] 0 ⟨[], []⟩ ?_ z0 ?_
         · kernel_rfl
         refine AWp.exit ?_
         cases h
         exact Or.inr ⟨_, rfl, by simp, rfl, rfl⟩
     · intro e σ hp
       rcases y with v12 | _
       · obtain ⟨rfl, rfl⟩ := hp
         cases h
         exact ⟨.inr rfl, rfl⟩
       · obtain ⟨rfl, rfl⟩ := hp
         refine AWp.seq ?_
         refine AWp.start [] [0, 1] [] [] 0 ⟨[], []⟩ rfl ?_ z0 trivial ?_
         · kernel_rfl
         obtain ⟨v13, hv13, h⟩ := of_bind h
         refine AOps.cons (AOne.callP (F := (FF 79 0)) _ rfl rfl rfl _ rfl rfl _ _ rfl Try.call10 [] rfl rfl (f10_ok  hv13) rfl) ?_
         refine AOps.go [1] [] [] [6] 0 ⟨[(6, tB v13)], []⟩ ?_ z0 trivial ?_
         · kernel_rfl
         refine AOps.nil ?_
         refine AWp.ret ?_
         cases h
         exact ⟨.inr rfl, rfl⟩

end Go.Sx.sto
