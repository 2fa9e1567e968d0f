/- Printed by program (wip/gen): plain functions and their walks; no condition. -/
import Derived.Test.YtplfiblnmnpllaaGx5
namespace Go.Sx.der
open Go Go.Sx Go.Proofs

noncomputable def f25_b1 (v1 : List T62) (v4 : (List Int)) (v5 : List (List UInt8)) (v6 : Int) : Option (((List (List UInt8)) × Int) ⊕ Out ((List (List UInt8)) × Int) (List (List UInt8))) :=
 cond (decide (v6 < (v4.length : Int))) (if (0 : Int) ≤ v6 ∧ v6 < (v4.length : Int) ∧ (0 : Int) ≤ v4.getD v6.toNat default ∧ v4.getD v6.toNat default < (v1.length : Int) then if (v5.length + [(v1.getD (Int.toNat (v4.getD v6.toNat default)) default).f0].length) * 16 ≤ 140737488355328 then some (.inl (v5 ++ [(v1.getD (Int.toNat (v4.getD v6.toNat default)) default).f0], w64 (v6 + (1 : Int)))) else none else none) (some (.inr (.go v5)))

noncomputable def f25 (v1 : List T62) (v2 : List UInt8) : Option ((List (List UInt8)) × Int) :=
 (f48 v1 v2).bind fun v3 => cond (v3.2 != (0 : Int)) (some (([] : List (List UInt8)), v3.2)) ((f58 v1 v3.1).bind fun v4 => (iter (fun s => f25_b1 v1 v4 s.1 s.2) ([], (0 : Int))).bind fun y => match y with | .ret v8 => some (v8.1, v8.2) | .go v7 => some (v7, (0 : Int)))

theorem f25_ok (v1 : List T62) (v2 : List UInt8) {r : (List (List UInt8)) × Int} (h : f25 v1 v2 = some r) : ACall Try.prog 25 [.tv (fzL 6 c62 v1), .tv (.str v2)] [] (.tup [.tv (fzL 1 cStr r.1), .tv (.int .i64 r.2)]) [] := by
 refine ACall.ofN (FF 41 0) (rs := [4, 5]) (env := [(4, q5 r.1), (5, tI r.2)]) Try.func25 rfl Try.ntmps25 Try.results25 (by decide) (by decide) rfl (Nat.le_of_ble_eq_true rfl) rfl (get_ofN _ _ _ rfl) (ok_ofN _ rfl) ?_
 refine AWp.seq ?_
 refine AWp.start [0, 1] [] [] [0, 1] 0 ⟨[(0, q0 v1), (1, tS v2)], []⟩ rfl ?_ z0 trivial ?_
 · kernel_rfl
 refine AOps.nil ?_
 refine AWp.seq ?_
 refine AWp.start [0, 1] [2, 3, 4, 5, 6, 7] [] [0, 12, 13] 0 ⟨[(0, q0 v1), (12, q0 v1), (13, tS v2)], []⟩ rfl ?_ z0 trivial ?_
 · kernel_rfl
 obtain ⟨v3, hv3, h⟩ := of_bind h
 refine AOps.cons (AOne.callP (F := (FF 41 0)) _ rfl rfl rfl _ rfl rfl _ _ rfl Try.call48 [q0 v1, tS v2] rfl rfl (f48_ok v1 v2 hv3) rfl) ?_
 refine AOps.go [3, 4, 5, 6, 7] [] [] [0, 6, 7] 0 ⟨[(0, q0 v1), (6, tI v3.1), (7, tI v3.2)], []⟩ ?_ z0 trivial ?_
 · kernel_rfl
 refine AOps.nil ?_
 refine AWp.seq ?_
 refine AWp.seq ?_
 refine AWp.start [0, 1] [] [] [0, 6, 7, 18] 0 ⟨[(0, q0 v1), (6, tI v3.1), (7, tI v3.2), (18, tB (v3.2 != (0 : Int)))], []⟩ rfl ?_ z0 trivial ?_
 · kernel_rfl
 refine AOps.nil ?_
 refine AWp.cond rfl (fun hb => ?_) fun hb => ?_
 · replace h := of_true h hb
   refine AWp.keepTo [7] 0 ⟨[(7, tI v3.2)], []⟩ ?_ z0 ?_
   · kernel_rfl
   refine AWp.seq ?_
   refine AWp.start [0, 1, 2] [] [] [4, 5] 0 ⟨[(4, .tv (.sc (.slice none 0 0))), (5, tI v3.2)], []⟩ rfl ?_ z0 trivial ?_
   · kernel_rfl
   refine AOps.nil ?_
   refine AWp.nilFz 4 1 (fun i => cStr (([] : List (List UInt8)).getD i default)) rfl ?_
   refine AWp.keepTo [4, 5] 0 ⟨[(4, q5 ([] : List (List UInt8))), (5, tI v3.2)], []⟩ ?_ z0 ?_
   · kernel_rfl
   refine AWp.ret ?_
   cases h
   exact ⟨.inr rfl, rfl⟩
 · replace h := of_false h hb
   refine AWp.keepTo [0, 6] 0 ⟨[(0, q0 v1), (6, tI v3.1)], []⟩ ?_ z0 ?_
   · kernel_rfl
   refine AWp.skip ?_
   refine AWp.seq ?_
   refine AWp.start [0] [] [] [0, 6, 8] 0 ⟨[(0, q0 v1), (6, tI v3.1), (8, .tv (.sc (.slice none 0 0)))], []⟩ rfl ?_ z0 trivial ?_
   · kernel_rfl
   refine AOps.nil ?_
   refine AWp.seq ?_
   refine AWp.start [0, 1] [2, 3] [] [0, 8, 20, 21] 0 ⟨[(0, q0 v1), (8, .tv (.sc (.slice none 0 0))), (20, q0 v1), (21, tI v3.1)], []⟩ rfl ?_ z0 trivial ?_
   · kernel_rfl
   obtain ⟨v4, hv4, h⟩ := of_bind h
   refine AOps.cons (AOne.callP (F := (FF 41 0)) _ rfl rfl rfl _ rfl rfl _ _ rfl Try.call58 [q0 v1, tI v3.1] rfl rfl (f58_ok v1 v3.1 hv4) rfl) ?_
   refine AOps.go [3] [] [] [0, 8, 9] 0 ⟨[(0, q0 v1), (8, .tv (.sc (.slice none 0 0))), (9, q1 v4)], []⟩ ?_ z0 trivial ?_
   · kernel_rfl
   refine AOps.nil ?_
   refine AWp.seq ?_
   refine AWp.seq ?_
   refine AWp.start [0] [] [] [0, 8, 9, 10] 0 ⟨[(0, q0 v1), (8, .tv (.sc (.slice none 0 0))), (9, q1 v4), (10, tI (0 : Int))], []⟩ rfl ?_ z0 trivial ?_
   · kernel_rfl
   refine AOps.nil ?_
   refine AWp.block ?_
   refine AWp.nilOwn 8 1 9 (fun i => cStr (([] : List (List UInt8)).getD i default)) rfl ?_
   refine AWp.keepTo [0, 8, 9, 10] 0 ⟨[(0, q0 v1), (8, q4 ([] : List (List UInt8))), (9, q1 v4), (10, tI (0 : Int))], []⟩ ?_ z0 ?_
   · kernel_rfl
   obtain ⟨y, hy, h⟩ := of_bind h
   refine AWp.mono (AWp.loop (S := (List (List UInt8)) × Int) (Y := Out ((List (List UInt8)) × Int) (List (List UInt8))) (fun s => ⟨[(0, q0 v1), (8, q4 s.1), (9, q1 v4), (10, tI s.2)], []⟩) (fun s => f25_b1 v1 v4 s.1 s.2) (fun y e σ => match y with | .ret r => e = .ret ∧ σ = ⟨[(4, q5 r.1), (5, tI r.2)], []⟩ | .go v => e = .exit 0 ∧ σ = ⟨[(8, q4 v)], []⟩) ?_ hy) ?_
   · rintro ⟨v5, v6⟩ o h
     refine AWp.seq ?_
     refine AWp.seq ?_
     refine AWp.start [0, 1, 2, 3] [] [] [0, 8, 9, 10, 26] 0 ⟨[(0, q0 v1), (8, q4 v5), (9, q1 v4), (10, tI v6), (26, tB (decide (v6 < (v4.length : Int))))], []⟩ rfl ?_ z0 trivial ?_
     · kernel_rfl
     refine AOps.nil ?_
     refine AWp.cond rfl (fun hb => ?_) fun hb => ?_
     · replace h := of_true h hb
       refine AWp.keepTo [0, 8, 9, 10] 0 ⟨[(0, q0 v1), (8, q4 v5), (9, q1 v4), (10, tI v6)], []⟩ ?_ z0 ?_
       · kernel_rfl
       refine AWp.skip ?_
       refine AWp.seq ?_
       refine AWp.block ?_
       obtain ⟨hg, h⟩ := of_guard h
       refine AWp.start [0, 1, 2, 3, 4, 5, 6, 7, 8, 9] [10, 11] [(0 : Int) ≤ v6, v6 < (v4.length : Int), (0 : Int) ≤ gD v4 v6, gD v4 v6 < (v1.length : Int)] [0, 8, 9, 10, 29, 38] 0 ⟨[(0, q0 v1), (8, q4 v5), (9, q1 v4), (10, tI v6), (29, .al (.slot 8 0, [])), (38, .tv (.own 1 9 1 (newRowF [.str ((v1.getD (Int.toNat (gD v4 v6)) default).f0)] 1)))], []⟩ rfl ?_ z0 ⟨hg.1, hg.2.1, hg.2.2.1, hg.2.2.2⟩ ?_
       · kernel_rfl
       refine AOps.extL 38 cStr [(v1.getD (Int.toNat (gD v4 v6)) default).f0] rfl rfl (row_at cStr 1 (fun _ => rfl) [(v1.getD (Int.toNat (gD v4 v6)) default).f0] _ rfl) ?_
       obtain ⟨hg, h⟩ := of_guard h
       refine AOps.go [10] [11] [(v5.length + [(v1.getD (Int.toNat (gD v4 v6)) default).f0].length) * 16 ≤ 140737488355328, PlainTo v5.length (fun i => cStr (v5.getD i default)), PlainTo ([(v1.getD (Int.toNat (gD v4 v6)) default).f0].length) (fun i => cStr ([(v1.getD (Int.toNat (gD v4 v6)) default).f0].getD i default))] [0, 9, 10, 39] 0 ⟨[(0, q0 v1), (9, q1 v4), (10, tI v6), (39, .tv (.own 1 9 (v5.length + [(v1.getD (Int.toNat (gD v4 v6)) default).f0].length) (appF v5.length (fun i => cStr (v5.getD i default)) (fun i => cStr ([(v1.getD (Int.toNat (gD v4 v6)) default).f0].getD i default)))))], []⟩ ?_ z0 ⟨hg, (fun _ _ => rfl), (fun _ _ => rfl)⟩ ?_
       · kernel_rfl
       refine AOps.extL 39 cStr (v5 ++ [(v1.getD (Int.toNat (gD v4 v6)) default).f0]) rfl List.length_append.symm (app_at cStr v5 [(v1.getD (Int.toNat (gD v4 v6)) default).f0]) ?_
       refine AOps.go [11] [] [] [0, 8, 9, 10] 0 ⟨[(0, q0 v1), (8, q4 (v5 ++ [(v1.getD (Int.toNat (gD v4 v6)) default).f0])), (9, q1 v4), (10, tI v6)], []⟩ ?_ z0 trivial ?_
       · kernel_rfl
       refine AOps.nil ?_
       refine AWp.start [0, 1, 2] [] [] [0, 8, 9, 10] 0 ⟨[(0, q0 v1), (8, q4 (v5 ++ [(v1.getD (Int.toNat (gD v4 v6)) default).f0])), (9, q1 v4), (10, tI (w64 (v6 + (1 : Int))))], []⟩ rfl ?_ z0 trivial ?_
       · kernel_rfl
       refine AOps.nil ?_
       cases h
       exact Or.inl ⟨_, rfl, rfl, rfl⟩
     · replace h := of_false h hb
       refine AWp.keepTo [8] 0 ⟨[(8, q4 v5)], []⟩ ?_ z0 ?_
       · kernel_rfl
       refine AWp.exit ?_
       cases h
       exact Or.inr ⟨_, rfl, by simp, rfl, rfl⟩
   · intro e σ hp
     rcases y with v8 | v7
     · obtain ⟨rfl, rfl⟩ := hp
       cases h
       exact ⟨.inr rfl, rfl⟩
     · obtain ⟨rfl, rfl⟩ := hp
       refine AWp.seq ?_
       refine AWp.freezeL 8 cStr v7 rfl (fun _ => rfl) ?_
       refine AWp.start [0, 1, 2] [] [] [4, 5] 0 ⟨[(4, q5 v7), (5, tI (0 : Int))], []⟩ rfl ?_ z0 trivial ?_
       · kernel_rfl
       refine AOps.nil ?_
       refine AWp.ret ?_
       cases h
       exact ⟨.inr rfl, rfl⟩

noncomputable def f26_b1 (v1 : List T35) (v2 : List T35) (v3 : Int) : Option (Int ⊕ Out Bool Unit) :=
 cond (decide (v3 < (v1.length : Int))) (if (0 : Int) ≤ v3 ∧ v3 < (v1.length : Int) ∧ (0 : Int) ≤ v3 ∧ v3 < (v2.length : Int) then cond (!((((v1.getD v3.toNat default).f0) == ((v2.getD v3.toNat default).f0)) && ((((v1.getD v3.toNat default).f1) == ((v2.getD v3.toNat default).f1)) && (((v1.getD v3.toNat default).f2) == ((v2.getD v3.toNat default).f2))))) (some (.inr (.ret false))) (some (.inl (w64 (v3 + (1 : Int))))) else none) (some (.inr (.go ())))

noncomputable def f26 (v1 : List T35) (v2 : List T35) : Option Bool :=
 cond ((v1.length : Int) != (v2.length : Int)) (some false) ((iter (fun s => f26_b1 v1 v2 s) (0 : Int)).bind fun y => match y with | .ret v4 => some v4 | .go _ => some true)

theorem f26_ok (v1 : List T35) (v2 : List T35) {r : Bool} (h : f26 v1 v2 = some r) : ACall Try.prog 26 [.tv (fzL 3 c35 v1), .tv (fzL 3 c35 v2)] [] (.tv (.bool r)) [] := by
 refine ACall.of1 (FF 26 0) Try.func26 rfl Try.ntmps26 Try.results26 (Nat.le_of_ble_eq_true rfl) rfl rfl ?_
 refine AWp.seq ?_
 refine AWp.start [0] [] [] [0, 1] 0 ⟨[(0, q2 v1), (1, q2 v2)], []⟩ rfl ?_ z0 trivial ?_
 · kernel_rfl
 refine AOps.nil ?_
 refine AWp.seq ?_
 refine AWp.seq ?_
 refine AWp.start [0, 1, 2, 3, 4] [] [] [0, 1, 10] 0 ⟨[(0, q2 v1), (1, q2 v2), (10, tB ((v1.length : Int) != (v2.length : Int)))], []⟩ rfl ?_ z0 trivial ?_
 · kernel_rfl
 refine AOps.nil ?_
 refine AWp.cond rfl (fun hb => ?_) fun hb => ?_
 · replace h := of_true h hb
   refine AWp.keepTo [] 0 ⟨[], []⟩ ?_ z0 ?_
   · kernel_rfl
   refine AWp.seq ?_
   refine AWp.start [0] [] [] [4] 0 ⟨[(4, tB false)], []⟩ rfl ?_ z0 trivial ?_
   · kernel_rfl
   refine AOps.nil ?_
   refine AWp.ret ?_
   cases h
   exact ⟨.inr rfl, rfl⟩
 · replace h := of_false h hb
   refine AWp.keepTo [0, 1] 0 ⟨[(0, q2 v1), (1, q2 v2)], []⟩ ?_ z0 ?_
   · kernel_rfl
   refine AWp.skip ?_
   refine AWp.seq ?_
   refine AWp.seq ?_
   refine AWp.start [0] [] [] [0, 1, 5] 0 ⟨[(0, q2 v1), (1, q2 v2), (5, tI (0 : Int))], []⟩ rfl ?_ z0 trivial ?_
   · kernel_rfl
   refine AOps.nil ?_
   refine AWp.block ?_
   obtain ⟨y, hy, h⟩ := of_bind h
   refine AWp.mono (AWp.loop (S := Int) (Y := Out Bool Unit) (fun s => ⟨[(0, q2 v1), (1, q2 v2), (5, tI s)], []⟩) (fun s => f26_b1 v1 v2 s) (fun y e σ => match y with | .ret r => e = .ret ∧ σ = ⟨[(4, tB r)], []⟩ | .go v => e = .exit 0 ∧ σ = ⟨[], []⟩) ?_ hy) ?_
   · rintro v3 o h
     refine AWp.seq ?_
     refine AWp.seq ?_
     refine AWp.start [0, 1, 2, 3] [] [] [0, 1, 5, 14] 0 ⟨[(0, q2 v1), (1, q2 v2), (5, tI v3), (14, tB (decide (v3 < (v1.length : Int))))], []⟩ rfl ?_ z0 trivial ?_
     · kernel_rfl
     refine AOps.nil ?_
     refine AWp.cond rfl (fun hb => ?_) fun hb => ?_
     · replace h := of_true h hb
       refine AWp.keepTo [0, 1, 5] 0 ⟨[(0, q2 v1), (1, q2 v2), (5, tI v3)], []⟩ ?_ z0 ?_
       · kernel_rfl
       refine AWp.skip ?_
       refine AWp.seq ?_
       refine AWp.block ?_
       refine AWp.seq ?_
       refine AWp.draw FFm _ (n := 9) rfl (ls := #[false, false, false, false, false, false, false, false, false]) rfl ?_ (fun _ h => h)
       obtain ⟨hg, h⟩ := of_guard h
       refine AAny.go (by kernel_rfl) [0, 1, 2, 3, 4, 5, 6, 7, 8] (fuel' := 0) rfl [(0 : Int) ≤ v3, v3 < (v1.length : Int), (0 : Int) ≤ v3, v3 < (v2.length : Int)] #[true, true, true, true, true, true, true, true, true] [0, 1, 5, 25] 0 ⟨[(0, q2 v1), (1, q2 v2), (5, tI v3), (25, tB (!((((gD v1 v3).f0) == ((gD v2 v3).f0)) && ((((gD v1 v3).f1) == ((gD v2 v3).f1)) && (((gD v1 v3).f2) == ((gD v2 v3).f2))))))], []⟩ ?_ z0 ⟨hg.1, hg.2.1, hg.2.2.1, hg.2.2.2⟩ ?_
       · kernel_rfl
       refine AAny.keepTo [0, 1, 5, 25] 0 ⟨[(0, q2 v1), (1, q2 v2), (5, tI v3), (25, tB (!((((gD v1 v3).f0) == ((gD v2 v3).f0)) && ((((gD v1 v3).f1) == ((gD v2 v3).f1)) && (((gD v1 v3).f2) == ((gD v2 v3).f2))))))], []⟩ _ ?_ rfl z0 (AAny.done (by kernel_rfl) ?_)
       · kernel_rfl
       refine AWp.cond rfl (fun hb => ?_) fun hb => ?_
       · replace h := of_true h hb
         refine AWp.keepTo [] 0 ⟨[], []⟩ ?_ z0 ?_
         · kernel_rfl
         refine AWp.seq ?_
         refine AWp.start [0] [] [] [4] 0 ⟨[(4, tB false)], []⟩ rfl ?_ z0 trivial ?_
         · kernel_rfl
         refine AOps.nil ?_
         refine AWp.ret ?_
         cases h
         exact Or.inr ⟨_, rfl, by simp, rfl, rfl⟩
       · replace h := of_false h hb
         refine AWp.keepTo [0, 1, 5] 0 ⟨[(0, q2 v1), (1, q2 v2), (5, tI v3)], []⟩ ?_ z0 ?_
         · kernel_rfl
         refine AWp.skip ?_
         refine AWp.start [0, 1, 2] [] [] [0, 1, 5] 0 ⟨[(0, q2 v1), (1, q2 v2), (5, tI (w64 (v3 + (1 : Int))))], []⟩ rfl ?_ z0 trivial ?_
         · kernel_rfl
         refine AOps.nil ?_
         cases h
         exact Or.inl ⟨_, rfl, rfl, rfl⟩
     · replace h := of_false h hb
       refine AWp.keepTo [] 0 ⟨[], []⟩ ?_ z0 ?_
       · kernel_rfl
       refine AWp.exit ?_
       cases h
       exact Or.inr ⟨_, rfl, by simp, rfl, rfl⟩
   · intro e σ hp
     rcases y with v4 | _
     · obtain ⟨rfl, rfl⟩ := hp
       cases h
       exact ⟨.inr rfl, rfl⟩
     · obtain ⟨rfl, rfl⟩ := hp
       refine AWp.seq ?_
       refine AWp.start [0] [] [] [4] 0 ⟨[(4, tB true)], []⟩ rfl ?_ z0 trivial ?_
       · kernel_rfl
       refine AOps.nil ?_
       refine AWp.ret ?_
       cases h
       exact ⟨.inr rfl, rfl⟩

noncomputable def f27_b1 (v1 : List (List UInt8)) (v2 : List (List UInt8)) (v3 : Int) : Option (Int ⊕ Out Bool Unit) :=
 cond (decide (v3 < (v1.length : Int))) (if (0 : Int) ≤ v3 ∧ v3 < (v1.length : Int) ∧ (0 : Int) ≤ v3 ∧ v3 < (v2.length : Int) then cond (!((v1.getD v3.toNat default) == (v2.getD v3.toNat default))) (some (.inr (.ret false))) (some (.inl (w64 (v3 + (1 : Int))))) else none) (some (.inr (.go ())))

noncomputable def f27 (v1 : List (List UInt8)) (v2 : List (List UInt8)) : Option Bool :=
 cond ((v1.length : Int) != (v2.length : Int)) (some false) ((iter (fun s => f27_b1 v1 v2 s) (0 : Int)).bind fun y => match y with | .ret v4 => some v4 | .go _ => some true)

theorem f27_ok (v1 : List (List UInt8)) (v2 : List (List UInt8)) {r : Bool} (h : f27 v1 v2 = some r) : ACall Try.prog 27 [.tv (fzL 1 cStr v1), .tv (fzL 1 cStr v2)] [] (.tv (.bool r)) [] := by
 refine ACall.of1 (FF 26 0) Try.func27 rfl Try.ntmps27 Try.results27 (Nat.le_of_ble_eq_true rfl) rfl rfl ?_
 refine AWp.seq ?_
 refine AWp.start [0] [] [] [0, 1] 0 ⟨[(0, q5 v1), (1, q5 v2)], []⟩ rfl ?_ z0 trivial ?_
 · kernel_rfl
 refine AOps.nil ?_
 refine AWp.seq ?_
 refine AWp.seq ?_
 refine AWp.start [0, 1, 2, 3, 4] [] [] [0, 1, 10] 0 ⟨[(0, q5 v1), (1, q5 v2), (10, tB ((v1.length : Int) != (v2.length : Int)))], []⟩ rfl ?_ z0 trivial ?_
 · kernel_rfl
 refine AOps.nil ?_
 refine AWp.cond rfl (fun hb => ?_) fun hb => ?_
 · replace h := of_true h hb
   refine AWp.keepTo [] 0 ⟨[], []⟩ ?_ z0 ?_
   · kernel_rfl
   refine AWp.seq ?_
   refine AWp.start [0] [] [] [4] 0 ⟨[(4, tB false)], []⟩ rfl ?_ z0 trivial ?_
   · kernel_rfl
   refine AOps.nil ?_
   refine AWp.ret ?_
   cases h
   exact ⟨.inr rfl, rfl⟩
 · replace h := of_false h hb
   refine AWp.keepTo [0, 1] 0 ⟨[(0, q5 v1), (1, q5 v2)], []⟩ ?_ z0 ?_
   · kernel_rfl
   refine AWp.skip ?_
   refine AWp.seq ?_
   refine AWp.seq ?_
   refine AWp.start [0] [] [] [0, 1, 5] 0 ⟨[(0, q5 v1), (1, q5 v2), (5, tI (0 : Int))], []⟩ rfl ?_ z0 trivial ?_
   · kernel_rfl
   refine AOps.nil ?_
   refine AWp.block ?_
   obtain ⟨y, hy, h⟩ := of_bind h
   refine AWp.mono (AWp.loop (S := Int) (Y := Out Bool Unit) (fun s => ⟨[(0, q5 v1), (1, q5 v2), (5, tI s)], []⟩) (fun s => f27_b1 v1 v2 s) (fun y e σ => match y with | .ret r => e = .ret ∧ σ = ⟨[(4, tB r)], []⟩ | .go v => e = .exit 0 ∧ σ = ⟨[], []⟩) ?_ hy) ?_
   · rintro v3 o h
     refine AWp.seq ?_
     refine AWp.seq ?_
     refine AWp.start [0, 1, 2, 3] [] [] [0, 1, 5, 14] 0 ⟨[(0, q5 v1), (1, q5 v2), (5, tI v3), (14, tB (decide (v3 < (v1.length : Int))))], []⟩ rfl ?_ z0 trivial ?_
     · kernel_rfl
     refine AOps.nil ?_
     refine AWp.cond rfl (fun hb => ?_) fun hb => ?_
     · replace h := of_true h hb
       refine AWp.keepTo [0, 1, 5] 0 ⟨[(0, q5 v1), (1, q5 v2), (5, tI v3)], []⟩ ?_ z0 ?_
       · kernel_rfl
       refine AWp.skip ?_
       refine AWp.seq ?_
       refine AWp.block ?_
       refine AWp.seq ?_
       refine AWp.draw FFm _ (n := 9) rfl (ls := #[false, false, false, false, false, false, false, false, false]) rfl ?_ (fun _ h => h)
       obtain ⟨hg, h⟩ := of_guard h
       refine AAny.go (by kernel_rfl) [0, 1, 2, 3, 4, 5, 6, 7, 8] (fuel' := 0) rfl [(0 : Int) ≤ v3, v3 < (v1.length : Int), (0 : Int) ≤ v3, v3 < (v2.length : Int)] #[true, true, true, true, true, true, true, true, true] [0, 1, 5, 25] 0 ⟨[(0, q5 v1), (1, q5 v2), (5, tI v3), (25, tB (!((gD v1 v3) == (gD v2 v3))))], []⟩ ?_ z0 ⟨hg.1, hg.2.1, hg.2.2.1, hg.2.2.2⟩ ?_
       · kernel_rfl
       refine AAny.keepTo [0, 1, 5, 25] 0 ⟨[(0, q5 v1), (1, q5 v2), (5, tI v3), (25, tB (!((gD v1 v3) == (gD v2 v3))))], []⟩ _ ?_ rfl z0 (AAny.done (by kernel_rfl) ?_)
       · kernel_rfl
       refine AWp.cond rfl (fun hb => ?_) fun hb => ?_
       · replace h := of_true h hb
         refine AWp.keepTo [] 0 ⟨[], []⟩ ?_ z0 ?_
         · kernel_rfl
         refine AWp.seq ?_
         refine AWp.start [0] [] [] [4] 0 ⟨[(4, tB false)], []⟩ rfl ?_ z0 trivial ?_
         · kernel_rfl
         refine AOps.nil ?_
         refine AWp.ret ?_
         cases h
         exact Or.inr ⟨_, rfl, by simp, rfl, rfl⟩
       · replace h := of_false h hb
         refine AWp.keepTo [0, 1, 5] 0 ⟨[(0, q5 v1), (1, q5 v2), (5, tI v3)], []⟩ ?_ z0 ?_
         · kernel_rfl
         refine AWp.skip ?_
         refine AWp.start [0, 1, 2] [] [] [0, 1, 5] 0 ⟨[(0, q5 v1), (1, q5 v2), (5, tI (w64 (v3 + (1 : Int))))], []⟩ rfl ?_ z0 trivial ?_
         · kernel_rfl
         refine AOps.nil ?_
         cases h
         exact Or.inl ⟨_, rfl, rfl, rfl⟩
     · replace h := of_false h hb
       refine AWp.keepTo [] 0 ⟨[], []⟩ ?_ z0 ?_
       · kernel_rfl
       refine AWp.exit ?_
       cases h
       exact Or.inr ⟨_, rfl, by simp, rfl, rfl⟩
   · intro e σ hp
     rcases y with v4 | _
     · obtain ⟨rfl, rfl⟩ := hp
       cases h
       exact ⟨.inr rfl, rfl⟩
     · obtain ⟨rfl, rfl⟩ := hp
       refine AWp.seq ?_
       refine AWp.start [0] [] [] [4] 0 ⟨[(4, tB true)], []⟩ rfl ?_ z0 trivial ?_
       · kernel_rfl
       refine AOps.nil ?_
       refine AWp.ret ?_
       cases h
       exact ⟨.inr rfl, rfl⟩

noncomputable def f7 (v1 : List T62) (v2 : List UInt8) : Option Bool :=
 (f12 v1).bind fun v3 => cond v3 ((f13 ).bind fun v4 => some v4) ((f19 v1 v2).bind fun v5 => (f22 v1 v2).bind fun v6 => (f18 v1 v2).bind fun v7 => (f23 v1 v2).bind fun v8 => (f24 v1 v2).bind fun v9 => (f25 v1 v2).bind fun v10 => (cond (v5.1 == v6.1) (some (v5.2 == v6.2)) (some false)).bind fun v11 => (cond v11 ((f26 v7.1 v8.1).bind fun v13 => some v13) (some false)).bind fun v12 => (cond v12 (some (v7.2 == v8.2)) (some false)).bind fun v14 => (cond v14 ((f27 v9.1 v10.1).bind fun v16 => some v16) (some false)).bind fun v15 => (cond v15 (some (v9.2 == v10.2)) (some false)).bind fun v17 => (cond v17 ((f13 ).bind fun v19 => some v19) (some false)).bind fun v18 => some v18)

theorem f7_ok (v1 : List T62) (v2 : List UInt8) {r : Bool} (h : f7 v1 v2 = some r) : ACall Try.prog 7 [.tv (fzL 6 c62 v1), .tv (.str v2)] [] (.tv (.bool r)) [] := by
 refine ACall.of1 (FF 87 0) Try.func7 rfl Try.ntmps7 Try.results7 (Nat.le_of_ble_eq_true rfl) rfl rfl ?_
 refine AWp.seq ?_
 refine AWp.start [0] [] [] [0, 1] 0 ⟨[(0, q0 v1), (1, tS v2)], []⟩ rfl ?_ z0 trivial ?_
 · kernel_rfl
 refine AOps.nil ?_
 refine AWp.seq ?_
 refine AWp.seq ?_
 refine AWp.start [0] [1] [] [0, 1, 17] 0 ⟨[(0, q0 v1), (1, tS v2), (17, q0 v1)], []⟩ rfl ?_ z0 trivial ?_
 · kernel_rfl
 obtain ⟨v3, hv3, h⟩ := of_bind h
 refine AOps.cons (AOne.callP (F := (FF 87 0)) _ rfl rfl rfl _ rfl rfl _ _ rfl Try.call12 [q0 v1] rfl rfl (f12_ok v1 hv3) rfl) ?_
 refine AOps.keepTo [0, 1, 18] 0 ⟨[(0, q0 v1), (1, tS v2), (18, tB v3)], []⟩ ?_ z0 ?_
 · kernel_rfl
 refine AOps.nil ?_
 refine AWp.cond rfl (fun hb => ?_) fun hb => ?_
 · replace h := of_true h hb
   refine AWp.keepTo [] 0 ⟨[], []⟩ ?_ z0 ?_
   · kernel_rfl
   refine AWp.seq ?_
   refine AWp.start [] [0, 1] [] [] 0 ⟨[], []⟩ rfl ?_ z0 trivial ?_
   · kernel_rfl
   obtain ⟨v4, hv4, h⟩ := of_bind h
   refine AOps.cons (AOne.callP (F := (FF 87 0)) _ rfl rfl rfl _ rfl rfl _ _ rfl Try.call13 [] rfl rfl (f13_ok  hv4) rfl) ?_
   refine AOps.go [1] [] [] [4] 0 ⟨[(4, tB v4)], []⟩ ?_ z0 trivial ?_
   · kernel_rfl
   refine AOps.nil ?_
   refine AWp.ret ?_
   cases h
   exact ⟨.inr rfl, rfl⟩
 · replace h := of_false h hb
   refine AWp.keepTo [0, 1] 0 ⟨[(0, q0 v1), (1, tS v2)], []⟩ ?_ z0 ?_
   · kernel_rfl
   refine AWp.skip ?_
   refine AWp.seq ?_
   refine AWp.start [0, 1] [2, 3, 4, 5, 6, 7] [] [0, 1, 21, 22] 0 ⟨[(0, q0 v1), (1, tS v2), (21, q0 v1), (22, tS v2)], []⟩ rfl ?_ z0 trivial ?_
   · kernel_rfl
   obtain ⟨v5, hv5, h⟩ := of_bind h
   refine AOps.cons (AOne.callP (F := (FF 87 0)) _ rfl rfl rfl _ rfl rfl _ _ rfl Try.call19 [q0 v1, tS v2] rfl rfl (f19_ok v1 v2 hv5) rfl) ?_
   refine AOps.go [3, 4, 5, 6, 7] [] [] [0, 1, 5, 6] 0 ⟨[(0, q0 v1), (1, tS v2), (5, tI v5.1), (6, tI v5.2)], []⟩ ?_ z0 trivial ?_
   · kernel_rfl
   refine AOps.nil ?_
   refine AWp.seq ?_
   refine AWp.start [0, 1] [2, 3, 4, 5, 6, 7] [] [0, 1, 5, 6, 27, 28] 0 ⟨[(0, q0 v1), (1, tS v2), (5, tI v5.1), (6, tI v5.2), (27, q0 v1), (28, tS v2)], []⟩ rfl ?_ z0 trivial ?_
   · kernel_rfl
   obtain ⟨v6, hv6, h⟩ := of_bind h
   refine AOps.cons (AOne.callP (F := (FF 87 0)) _ rfl rfl rfl _ rfl rfl _ _ rfl Try.call22 [q0 v1, tS v2] rfl rfl (f22_ok v1 v2 hv6) rfl) ?_
   refine AOps.go [3, 4, 5, 6, 7] [] [] [0, 1, 5, 6, 7, 8] 0 ⟨[(0, q0 v1), (1, tS v2), (5, tI v5.1), (6, tI v5.2), (7, tI v6.1), (8, tI v6.2)], []⟩ ?_ z0 trivial ?_
   · kernel_rfl
   refine AOps.nil ?_
   refine AWp.seq ?_
   refine AWp.start [0, 1] [2, 3, 4, 5, 6, 7] [] [0, 1, 5, 6, 7, 8, 33, 34] 0 ⟨[(0, q0 v1), (1, tS v2), (5, tI v5.1), (6, tI v5.2), (7, tI v6.1), (8, tI v6.2), (33, q0 v1), (34, tS v2)], []⟩ rfl ?_ z0 trivial ?_
   · kernel_rfl
   obtain ⟨v7, hv7, h⟩ := of_bind h
   refine AOps.cons (AOne.callP (F := (FF 87 0)) _ rfl rfl rfl _ rfl rfl _ _ rfl Try.call18 [q0 v1, tS v2] rfl rfl (f18_ok v1 v2 hv7) rfl) ?_
   refine AOps.go [3, 4, 5, 6, 7] [] [] [0, 1, 5, 6, 7, 8, 9, 10] 0 ⟨[(0, q0 v1), (1, tS v2), (5, tI v5.1), (6, tI v5.2), (7, tI v6.1), (8, tI v6.2), (9, q2 v7.1), (10, tI v7.2)], []⟩ ?_ z0 trivial ?_
   · kernel_rfl
   refine AOps.nil ?_
   refine AWp.seq ?_
   refine AWp.start [0, 1] [2, 3, 4, 5, 6, 7] [] [0, 1, 5, 6, 7, 8, 9, 10, 39, 40] 0 ⟨[(0, q0 v1), (1, tS v2), (5, tI v5.1), (6, tI v5.2), (7, tI v6.1), (8, tI v6.2), (9, q2 v7.1), (10, tI v7.2), (39, q0 v1), (40, tS v2)], []⟩ rfl ?_ z0 trivial ?_
   · kernel_rfl
   obtain ⟨v8, hv8, h⟩ := of_bind h
   refine AOps.cons (AOne.callP (F := (FF 87 0)) _ rfl rfl rfl _ rfl rfl _ _ rfl Try.call23 [q0 v1, tS v2] rfl rfl (f23_ok v1 v2 hv8) rfl) ?_
   refine AOps.go [3, 4, 5, 6, 7] [] [] [0, 1, 5, 6, 7, 8, 9, 10, 11, 12] 0 ⟨[(0, q0 v1), (1, tS v2), (5, tI v5.1), (6, tI v5.2), (7, tI v6.1), (8, tI v6.2), (9, q2 v7.1), (10, tI v7.2), (11, q2 v8.1), (12, tI v8.2)], []⟩ ?_ z0 trivial ?_
   · kernel_rfl
   refine AOps.nil ?_
   refine AWp.seq ?_
   refine AWp.start [0, 1] [2, 3, 4, 5, 6, 7] [] [0, 1, 5, 6, 7, 8, 9, 10, 11, 12, 45, 46] 0 ⟨[(0, q0 v1), (1, tS v2), (5, tI v5.1), (6, tI v5.2), (7, tI v6.1), (8, tI v6.2), (9, q2 v7.1), (10, tI v7.2), (11, q2 v8.1), (12, tI v8.2), (45, q0 v1), (46, tS v2)], []⟩ rfl ?_ z0 trivial ?_
   · kernel_rfl
   obtain ⟨v9, hv9, h⟩ := of_bind h
   refine AOps.cons (AOne.callP (F := (FF 87 0)) _ rfl rfl rfl _ rfl rfl _ _ rfl Try.call24 [q0 v1, tS v2] rfl rfl (f24_ok v1 v2 hv9) rfl) ?_
   refine AOps.go [3, 4, 5, 6, 7] [] [] [0, 1, 5, 6, 7, 8, 9, 10, 11, 12, 13, 14] 0 ⟨[(0, q0 v1), (1, tS v2), (5, tI v5.1), (6, tI v5.2), (7, tI v6.1), (8, tI v6.2), (9, q2 v7.1), (10, tI v7.2), (11, q2 v8.1), (12, tI v8.2), (13, q5 v9.1), (14, tI v9.2)], []⟩ ?_ z0 trivial ?_
   · kernel_rfl
   refine AOps.nil ?_
   refine AWp.seq ?_
   refine AWp.start [0, 1] [2, 3, 4, 5, 6, 7] [] [5, 6, 7, 8, 9, 10, 11, 12, 13, 14, 51, 52] 0 ⟨[(5, tI v5.1), (6, tI v5.2), (7, tI v6.1), (8, tI v6.2), (9, q2 v7.1), (10, tI v7.2), (11, q2 v8.1), (12, tI v8.2), (13, q5 v9.1), (14, tI v9.2), (51, q0 v1), (52, tS v2)], []⟩ rfl ?_ z0 trivial ?_
   · kernel_rfl
   obtain ⟨v10, hv10, h⟩ := of_bind h
   refine AOps.cons (AOne.callP (F := (FF 87 0)) _ rfl rfl rfl _ rfl rfl _ _ rfl Try.call25 [q0 v1, tS v2] rfl rfl (f25_ok v1 v2 hv10) rfl) ?_
   refine AOps.go [3, 4, 5, 6, 7] [] [] [5, 6, 7, 8, 9, 10, 11, 12, 13, 14, 15, 16] 0 ⟨[(5, tI v5.1), (6, tI v5.2), (7, tI v6.1), (8, tI v6.2), (9, q2 v7.1), (10, tI v7.2), (11, q2 v8.1), (12, tI v8.2), (13, q5 v9.1), (14, tI v9.2), (15, q5 v10.1), (16, tI v10.2)], []⟩ ?_ z0 trivial ?_
   · kernel_rfl
   refine AOps.nil ?_
   refine AWp.seq ?_
   refine AWp.start [0, 1, 2, 3] [4, 5, 6, 7, 8, 9, 10, 11, 12, 13, 14, 15, 16, 17, 18, 19, 20, 21, 22, 23, 24, 25, 26, 27, 28, 29, 30, 31] [] [6, 8, 9, 10, 11, 12, 13, 14, 15, 16, 59] 0 ⟨[(6, tI v5.2), (8, tI v6.2), (9, q2 v7.1), (10, tI v7.2), (11, q2 v8.1), (12, tI v8.2), (13, q5 v9.1), (14, tI v9.2), (15, q5 v10.1), (16, tI v10.2), (59, tB (v5.1 == v6.1))], []⟩ rfl ?_ z0 trivial ?_
   · kernel_rfl
   obtain ⟨v11, hc4, h⟩ := of_bind h
   refine AOps.cut [4, 5, 6, 7] [8, 9, 10, 11, 12, 13, 14, 15, 16, 17, 18, 19, 20, 21, 22, 23, 24, 25, 26, 27, 28, 29, 30, 31] (fun σ => σ = ⟨[(9, q2 v7.1), (10, tI v7.2), (11, q2 v8.1), (12, tI v8.2), (13, q5 v9.1), (14, tI v9.2), (15, q5 v10.1), (16, tI v10.2), (63, tB v11)], []⟩) ?_ fun σ' hJ => ?_
   · refine AOps.split (fun b => ⟨[(6, tI v5.2), (8, tI v6.2), (9, q2 v7.1), (10, tI v7.2), (11, q2 v8.1), (12, tI v8.2), (13, q5 v9.1), (14, tI v9.2), (15, q5 v10.1), (16, tI v10.2), (59, tB b)], []⟩) _ (fun hb => ?_) fun hb => ?_
     · replace hc4 := of_true hc4 hb
       refine AOps.go [4, 5, 6, 7] [] [] [9, 10, 11, 12, 13, 14, 15, 16, 63] 0 ⟨[(9, q2 v7.1), (10, tI v7.2), (11, q2 v8.1), (12, tI v8.2), (13, q5 v9.1), (14, tI v9.2), (15, q5 v10.1), (16, tI v10.2), (63, tB (v5.2 == v6.2))], []⟩ ?_ z0 trivial ?_
       · kernel_rfl
       cases hc4
       exact AOps.nil rfl
     · replace hc4 := of_false hc4 hb
       refine AOps.go [4, 5, 6, 7] [] [] [9, 10, 11, 12, 13, 14, 15, 16, 63] 0 ⟨[(9, q2 v7.1), (10, tI v7.2), (11, q2 v8.1), (12, tI v8.2), (13, q5 v9.1), (14, tI v9.2), (15, q5 v10.1), (16, tI v10.2), (63, tB false)], []⟩ ?_ z0 trivial ?_
       · kernel_rfl
       cases hc4
       exact AOps.nil rfl
   subst hJ
   refine AOps.go [8] [9, 10, 11, 12, 13, 14, 15, 16, 17, 18, 19, 20, 21, 22, 23, 24, 25, 26, 27, 28, 29, 30, 31] [] [9, 10, 11, 12, 13, 14, 15, 16, 64] 0 ⟨[(9, q2 v7.1), (10, tI v7.2), (11, q2 v8.1), (12, tI v8.2), (13, q5 v9.1), (14, tI v9.2), (15, q5 v10.1), (16, tI v10.2), (64, tB v11)], []⟩ ?_ z0 trivial ?_
   · kernel_rfl
   obtain ⟨v12, hc9, h⟩ := of_bind h
   refine AOps.cut [9, 10, 11, 12] [13, 14, 15, 16, 17, 18, 19, 20, 21, 22, 23, 24, 25, 26, 27, 28, 29, 30, 31] (fun σ => σ = ⟨[(10, tI v7.2), (12, tI v8.2), (13, q5 v9.1), (14, tI v9.2), (15, q5 v10.1), (16, tI v10.2), (68, tB v12)], []⟩) ?_ fun σ' hJ => ?_
   · refine AOps.split (fun b => ⟨[(9, q2 v7.1), (10, tI v7.2), (11, q2 v8.1), (12, tI v8.2), (13, q5 v9.1), (14, tI v9.2), (15, q5 v10.1), (16, tI v10.2), (64, tB b)], []⟩) _ (fun hb => ?_) fun hb => ?_
     · replace hc9 := of_true hc9 hb
       refine AOps.go [9, 10] [11, 12] [] [10, 12, 13, 14, 15, 16, 64, 65, 66] 0 ⟨[(10, tI v7.2), (12, tI v8.2), (13, q5 v9.1), (14, tI v9.2), (15, q5 v10.1), (16, tI v10.2), (64, tB true), (65, q2 v7.1), (66, q2 v8.1)], []⟩ ?_ z0 trivial ?_
       · kernel_rfl
       obtain ⟨v13, hv13, hc9⟩ := of_bind hc9
       refine AOps.cons (AOne.callP (F := (FF 87 0)) _ rfl rfl rfl _ rfl rfl _ _ rfl Try.call26 [q2 v7.1, q2 v8.1] rfl rfl (f26_ok v7.1 v8.1 hv13) rfl) ?_
       refine AOps.go [12] [] [] [10, 12, 13, 14, 15, 16, 68] 0 ⟨[(10, tI v7.2), (12, tI v8.2), (13, q5 v9.1), (14, tI v9.2), (15, q5 v10.1), (16, tI v10.2), (68, tB v13)], []⟩ ?_ z0 trivial ?_
       · kernel_rfl
       cases hc9
       exact AOps.nil rfl
     · replace hc9 := of_false hc9 hb
       refine AOps.go [9, 10, 11, 12] [] [] [10, 12, 13, 14, 15, 16, 68] 0 ⟨[(10, tI v7.2), (12, tI v8.2), (13, q5 v9.1), (14, tI v9.2), (15, q5 v10.1), (16, tI v10.2), (68, tB false)], []⟩ ?_ z0 trivial ?_
       · kernel_rfl
       cases hc9
       exact AOps.nil rfl
   subst hJ
   refine AOps.go [13] [14, 15, 16, 17, 18, 19, 20, 21, 22, 23, 24, 25, 26, 27, 28, 29, 30, 31] [] [10, 12, 13, 14, 15, 16, 69] 0 ⟨[(10, tI v7.2), (12, tI v8.2), (13, q5 v9.1), (14, tI v9.2), (15, q5 v10.1), (16, tI v10.2), (69, tB v12)], []⟩ ?_ z0 trivial ?_
   · kernel_rfl
   obtain ⟨v14, hc14, h⟩ := of_bind h
   refine AOps.cut [14, 15, 16, 17] [18, 19, 20, 21, 22, 23, 24, 25, 26, 27, 28, 29, 30, 31] (fun σ => σ = ⟨[(13, q5 v9.1), (14, tI v9.2), (15, q5 v10.1), (16, tI v10.2), (73, tB v14)], []⟩) ?_ fun σ' hJ => ?_
   · refine AOps.split (fun b => ⟨[(10, tI v7.2), (12, tI v8.2), (13, q5 v9.1), (14, tI v9.2), (15, q5 v10.1), (16, tI v10.2), (69, tB b)], []⟩) _ (fun hb => ?_) fun hb => ?_
     · replace hc14 := of_true hc14 hb
       refine AOps.go [14, 15, 16, 17] [] [] [13, 14, 15, 16, 73] 0 ⟨[(13, q5 v9.1), (14, tI v9.2), (15, q5 v10.1), (16, tI v10.2), (73, tB (v7.2 == v8.2))], []⟩ ?_ z0 trivial ?_
       · kernel_rfl
       cases hc14
       exact AOps.nil rfl
     · replace hc14 := of_false hc14 hb
       refine AOps.go [14, 15, 16, 17] [] [] [13, 14, 15, 16, 73] 0 ⟨[(13, q5 v9.1), (14, tI v9.2), (15, q5 v10.1), (16, tI v10.2), (73, tB false)], []⟩ ?_ z0 trivial ?_
       · kernel_rfl
       cases hc14
       exact AOps.nil rfl
   subst hJ
   refine AOps.go [18] [19, 20, 21, 22, 23, 24, 25, 26, 27, 28, 29, 30, 31] [] [13, 14, 15, 16, 74] 0 ⟨[(13, q5 v9.1), (14, tI v9.2), (15, q5 v10.1), (16, tI v10.2), (74, tB v14)], []⟩ ?_ z0 trivial ?_
   · kernel_rfl
   obtain ⟨v15, hc19, h⟩ := of_bind h
   refine AOps.cut [19, 20, 21, 22] [23, 24, 25, 26, 27, 28, 29, 30, 31] (fun σ => σ = ⟨[(14, tI v9.2), (16, tI v10.2), (78, tB v15)], []⟩) ?_ fun σ' hJ => ?_
   · refine AOps.split (fun b => ⟨[(13, q5 v9.1), (14, tI v9.2), (15, q5 v10.1), (16, tI v10.2), (74, tB b)], []⟩) _ (fun hb => ?_) fun hb => ?_
     · replace hc19 := of_true hc19 hb
       refine AOps.go [19, 20] [21, 22] [] [14, 16, 74, 75, 76] 0 ⟨[(14, tI v9.2), (16, tI v10.2), (74, tB true), (75, q5 v9.1), (76, q5 v10.1)], []⟩ ?_ z0 trivial ?_
       · kernel_rfl
       obtain ⟨v16, hv16, hc19⟩ := of_bind hc19
       refine AOps.cons (AOne.callP (F := (FF 87 0)) _ rfl rfl rfl _ rfl rfl _ _ rfl Try.call27 [q5 v9.1, q5 v10.1] rfl rfl (f27_ok v9.1 v10.1 hv16) rfl) ?_
       refine AOps.go [22] [] [] [14, 16, 78] 0 ⟨[(14, tI v9.2), (16, tI v10.2), (78, tB v16)], []⟩ ?_ z0 trivial ?_
       · kernel_rfl
       cases hc19
       exact AOps.nil rfl
     · replace hc19 := of_false hc19 hb
       refine AOps.go [19, 20, 21, 22] [] [] [14, 16, 78] 0 ⟨[(14, tI v9.2), (16, tI v10.2), (78, tB false)], []⟩ ?_ z0 trivial ?_
       · kernel_rfl
       cases hc19
       exact AOps.nil rfl
   subst hJ
   refine AOps.go [23] [24, 25, 26, 27, 28, 29, 30, 31] [] [14, 16, 79] 0 ⟨[(14, tI v9.2), (16, tI v10.2), (79, tB v15)], []⟩ ?_ z0 trivial ?_
   · kernel_rfl
   obtain ⟨v17, hc24, h⟩ := of_bind h
   refine AOps.cut [24, 25, 26, 27] [28, 29, 30, 31] (fun σ => σ = ⟨[(83, tB v17)], []⟩) ?_ fun σ' hJ => ?_
   · refine AOps.split (fun b => ⟨[(14, tI v9.2), (16, tI v10.2), (79, tB b)], []⟩) _ (fun hb => ?_) fun hb => ?_
     · replace hc24 := of_true hc24 hb
       refine AOps.go [24, 25, 26, 27] [] [] [83] 0 ⟨[(83, tB (v9.2 == v10.2))], []⟩ ?_ z0 trivial ?_
       · kernel_rfl
       cases hc24
       exact AOps.nil rfl
     · replace hc24 := of_false hc24 hb
       refine AOps.go [24, 25, 26, 27] [] [] [83] 0 ⟨[(83, tB false)], []⟩ ?_ z0 trivial ?_
       · kernel_rfl
       cases hc24
       exact AOps.nil rfl
   subst hJ
   refine AOps.go [28] [29, 30, 31] [] [84] 0 ⟨[(84, tB v17)], []⟩ ?_ z0 trivial ?_
   · kernel_rfl
   obtain ⟨v18, hc29, h⟩ := of_bind h
   refine AOps.cut [29, 30] [31] (fun σ => σ = ⟨[(86, tB v18)], []⟩) ?_ fun σ' hJ => ?_
   · refine AOps.split (fun b => ⟨[(84, tB b)], []⟩) _ (fun hb => ?_) fun hb => ?_
     · replace hc29 := of_true hc29 hb
       obtain ⟨v19, hv19, hc29⟩ := of_bind hc29
       refine AOps.cons (AOne.callP (F := (FF 87 0)) _ rfl rfl rfl _ rfl rfl _ _ rfl Try.call13 [] rfl rfl (f13_ok  hv19) rfl) ?_
       refine AOps.go [30] [] [] [86] 0 ⟨[(86, tB v19)], []⟩ ?_ z0 trivial ?_
       · kernel_rfl
       cases hc29
       exact AOps.nil rfl
     · replace hc29 := of_false hc29 hb
       refine AOps.go [29, 30] [] [] [86] 0 ⟨[(86, tB false)], []⟩ ?_ z0 trivial ?_
       · kernel_rfl
       cases hc29
       exact AOps.nil rfl
   subst hJ
   refine AOps.go [31] [] [] [4] 0 ⟨[(4, tB v18)], []⟩ ?_ z0 trivial ?_
   · kernel_rfl
   refine AOps.nil ?_
   refine AWp.ret ?_
   cases h
   exact ⟨.inr rfl, rfl⟩

end Go.Sx.der
