/- Printed by program (wip/gen): plain functions and their walks; no condition. -/
import Derived.Test.YtdmpmbcnfoionaaGx2
namespace Go.Sx.unit
open Go Go.Sx Go.Proofs

abbrev hp7 (v1 : T78) : List AObj := [.cells 79 [.str v1.f0,.int .i64 v1.f1,fzL 1 (cSl 1 (cInt .u8)) v1.f2,.bool v1.f3,.int .i64 v1.f4,.bool v1.f5,k1 v1.f6]]

noncomputable def f50o_b1 (v1 : T78) (v2 : List Int) (v3 : Int) : Option (((List Int) × Int) ⊕ Out (List Int) (List Int)) :=
 cond (decide (v3 < (v1.f2.length : Int))) (if (0 : Int) ≤ v3 ∧ v3 < (v1.f2.length : Int) then (f40 ((v1.f2.getD v3.toNat default).length : Int)).bind fun v5 => if (v2.length + v5.length) * 1 ≤ 140737488355328 then if (0 : Int) ≤ v3 ∧ v3 < (v1.f2.length : Int) ∧ ((v2 ++ v5).length + (v1.f2.getD v3.toNat default).length) * 1 ≤ 140737488355328 then if (0 : Int) ≤ v3 ∧ v3 < (v1.f2.length : Int) then (f40 ((v1.f2.getD v3.toNat default).length : Int)).bind fun v6 => if (((v2 ++ v5) ++ (v1.f2.getD v3.toNat default)).length + v6.length) * 1 ≤ 140737488355328 then some (.inl (((v2 ++ v5) ++ (v1.f2.getD v3.toNat default)) ++ v6,w64 (v3 + (1 : Int)))) else none else none else none else none else none) (some (.inr (.go v2)))

noncomputable def f50o_j2 (v9 : Int) (v11 : List Int) : Option (((List Int) × Int) ⊕ Out (List Int) (List Int)) :=
 some (.inl (v11,w64 (v9 + (1 : Int))))

noncomputable def f50o_b3 (v1 : T78) (v8 : List Int) (v9 : Int) : Option (((List Int) × Int) ⊕ Out (List Int) (List Int)) :=
 cond (decide (v9 < (v1.f2.length : Int))) (if (0 : Int) ≤ v9 ∧ v9 < (v1.f2.length : Int) ∧ (v8.length + (v1.f2.getD v9.toNat default).length) * 1 ≤ 140737488355328 then (cond (decide (v9 < w64 ((v1.f2.length : Int) - (1 : Int)))) (some true) (some (!v1.f3))).bind fun v12 => cond v12 (if ((v8 ++ (v1.f2.getD v9.toNat default)).length + [(10 : Int)].length) * 1 ≤ 140737488355328 then f50o_j2 v9 ((v8 ++ (v1.f2.getD v9.toNat default)) ++ [(10 : Int)]) else none) (f50o_j2 v9 (v8 ++ (v1.f2.getD v9.toNat default))) else none) (some (.inr (.go v8)))

noncomputable def f50o (v1 : T78) : Option (List Int) :=
 cond (v1.f0 == ([114,101,99,111,114,100,115] : List UInt8)) ((iter (fun s => f50o_b1 v1 s.1 s.2) ([],(0 : Int))).bind fun y => match y with | .ret v7 => some v7 | .go v4 => some v4) (cond (v1.f0 == ([108,105,110,101,115] : List UInt8)) ((iter (fun s => f50o_b3 v1 s.1 s.2) ([],(0 : Int))).bind fun y => match y with | .ret v13 => some v13 | .go v10 => some v10) (if (([] : List Int).length + v1.f6.length) * 1 ≤ 140737488355328 then some (([] : List Int) ++ v1.f6) else none))

theorem f50o_ok (v1 : T78) {r : (List Int)} (h : f50o v1 = some r) : ACall Try.prog 50 [.pc 0 0] [.cells 79 [.str v1.f0,.int .i64 v1.f1,fzL 1 (cSl 1 (cInt .u8)) v1.f2,.bool v1.f3,.int .i64 v1.f4,.bool v1.f5,ownL 1 5 (cInt .u8) v1.f6]] (.tv (ownL 1 5 (cInt .u8) r)) [.cells 79 [.str v1.f0,.int .i64 v1.f1,fzL 1 (cSl 1 (cInt .u8)) v1.f2,.bool v1.f3,.int .i64 v1.f4,.bool v1.f5,ownL 1 5 (cInt .u8) v1.f6]] := by
 refine ACall.of1 (FF 99 1) Try.func50 rfl Try.ntmps50 Try.results50 (Nat.le_of_ble_eq_true rfl) rfl rfl ?_
 refine AWp.seq ?_
 refine AWp.start [0] [] [] [0] 1 ⟨[(0,.pc 0 0)],hp7 v1⟩ rfl ?_ (Nat.le_of_ble_eq_true rfl) trivial ?_
 ·kernel_rfl
 refine AOps.nil ?_
 refine AWp.seq ?_
 refine AWp.seq ?_
 refine AWp.start [0,1,2,3] [] [] [0,10] 1 ⟨[(0,.pc 0 0),(10,tS v1.f0)],hp7 v1⟩ rfl ?_ (Nat.le_of_ble_eq_true rfl) trivial ?_
 ·kernel_rfl
 refine AOps.nil ?_
 refine AWp.block ?_
 refine AWp.seq ?_
 refine AWp.start [0,1] [] [] [0,10,11] 1 ⟨[(0,.pc 0 0),(10,tS v1.f0),(11,tB (v1.f0 == ([114,101,99,111,114,100,115] : List UInt8)))],hp7 v1⟩ rfl ?_ (Nat.le_of_ble_eq_true rfl) trivial ?_
 ·kernel_rfl
 refine AOps.nil ?_
 refine AWp.cond rfl (fun hb => ?_) fun hb => ?_
 ·replace h := of_true h hb
  refine AWp.keepTo [0] 1 ⟨[(0,.pc 0 0)],hp7 v1⟩ ?_ (Nat.le_of_ble_eq_true rfl) ?_
  ·kernel_rfl
  refine AWp.seq ?_
  refine AWp.start [0] [] [] [0,3] 1 ⟨[(0,.pc 0 0),(3,.tv (.sc (.slice none 0 0)))],hp7 v1⟩ rfl ?_ (Nat.le_of_ble_eq_true rfl) trivial ?_
  ·kernel_rfl
  refine AOps.nil ?_
  refine AWp.seq ?_
  refine AWp.seq ?_
  refine AWp.start [0] [] [] [0,3,4] 1 ⟨[(0,.pc 0 0),(3,.tv (.sc (.slice none 0 0))),(4,tI (0 : Int))],hp7 v1⟩ rfl ?_ (Nat.le_of_ble_eq_true rfl) trivial ?_
  ·kernel_rfl
  refine AOps.nil ?_
  refine AWp.block ?_
  refine AWp.nilOwn 3 1 5 (fun i => (cInt .u8) (([] : List Int).getD i default)) rfl ?_
  refine AWp.keepTo [0,3,4] 1 ⟨[(0,.pc 0 0),(3,q1 ([] : List Int)),(4,tI (0 : Int))],hp7 v1⟩ ?_ (Nat.le_of_ble_eq_true rfl) ?_
  ·kernel_rfl
  obtain ⟨y,hy,h⟩ := of_bind h
  refine AWp.mono (AWp.loop (S := (List Int) × Int) (Y := Out (List Int) (List Int)) (fun s => ⟨[(0,.pc 0 0),(3,q1 s.1),(4,tI s.2)],hp7 v1⟩) (fun s => f50o_b1 v1 s.1 s.2) (fun y e σ => match y with | .ret r => e = .ret ∧ σ = ⟨[(2,q1 r)],hp7 v1⟩ | .go v => e = .exit 1 ∧ σ = ⟨[(3,q1 v)],hp7 v1⟩) ?_ hy) ?_
  ·rintro ⟨v2,v3⟩ o h
   refine AWp.seq ?_
   refine AWp.seq ?_
   refine AWp.start [0,1,2,3,4,5,6] [] [] [0,3,4,19] 1 ⟨[(0,.pc 0 0),(3,q1 v2),(4,tI v3),(19,tB (decide (v3 < (v1.f2.length : Int))))],hp7 v1⟩ rfl ?_ (Nat.le_of_ble_eq_true rfl) trivial ?_
   ·kernel_rfl
   refine AOps.nil ?_
   refine AWp.cond rfl (fun hb => ?_) fun hb => ?_
   ·replace h := of_true h hb
    refine AWp.keepTo [0,3,4] 1 ⟨[(0,.pc 0 0),(3,q1 v2),(4,tI v3)],hp7 v1⟩ ?_ (Nat.le_of_ble_eq_true rfl) ?_
    ·kernel_rfl
    refine AWp.skip ?_
    refine AWp.seq ?_
    refine AWp.block ?_
    refine AWp.seq ?_
    obtain ⟨hg,h⟩ := of_guard h
    refine AWp.start [0,1,2,3,4,5,6,7,8] [9,10,11] [(0 : Int) ≤ v3,v3 < (v1.f2.length : Int)] [0,3,4,22,30] 1 ⟨[(0,.pc 0 0),(3,q1 v2),(4,tI v3),(22,.al (.slot 3 0,[])),(30,tI ((gD v1.f2 v3).length : Int))],hp7 v1⟩ rfl ?_ (Nat.le_of_ble_eq_true rfl) ⟨hg.1,hg.2⟩ ?_
    ·kernel_rfl
    obtain ⟨v5,hv5,h⟩ := of_bind h
    refine AOps.cons (AOne.callP (F := (FF 99 1)) _ rfl rfl rfl _ rfl rfl _ _ rfl Try.call40 [tI ((gD v1.f2 v3).length : Int)] rfl rfl (f40_ok ((gD v1.f2 v3).length : Int) hv5) rfl) ?_
    obtain ⟨hg,h⟩ := of_guard h
    refine AOps.go [10] [11] [(v2.length + v5.length) * 1 ≤ 140737488355328,PlainTo v2.length (fun i => (cInt .u8) (v2.getD i default)),PlainTo v5.length (fun i => (cInt .u8) (v5.getD i default))] [0,4,32] 1 ⟨[(0,.pc 0 0),(4,tI v3),(32,.tv (.own 1 5 (v2.length + v5.length) (appF v2.length (fun i => (cInt .u8) (v2.getD i default)) (fun i => (cInt .u8) (v5.getD i default)))))],hp7 v1⟩ ?_ (Nat.le_of_ble_eq_true rfl) ⟨hg,(fun _ _ => rfl),(fun _ _ => rfl)⟩ ?_
    ·kernel_rfl
    refine AOps.extL 32 (cInt .u8) (v2 ++ v5) rfl List.length_append.symm (app_at (cInt .u8) v2 v5) ?_
    refine AOps.go [11] [] [] [0,3,4] 1 ⟨[(0,.pc 0 0),(3,q1 (v2 ++ v5)),(4,tI v3)],hp7 v1⟩ ?_ (Nat.le_of_ble_eq_true rfl) trivial ?_
    ·kernel_rfl
    refine AOps.nil ?_
    refine AWp.seq ?_
    obtain ⟨hg,h⟩ := of_guard h
    refine AWp.start [0,1,2,3,4,5,6,7,8] [9] [(0 : Int) ≤ v3,v3 < (v1.f2.length : Int),((v2 ++ v5).length + (gD v1.f2 v3).length) * 1 ≤ 140737488355328,PlainTo ((v2 ++ v5).length) (fun i => (cInt .u8) ((v2 ++ v5).getD i default)),PlainTo ((gD v1.f2 v3).length) (fun i => (cInt .u8) ((gD v1.f2 v3).getD i default))] [0,4,41] 1 ⟨[(0,.pc 0 0),(4,tI v3),(41,.tv (.own 1 5 ((v2 ++ v5).length + (gD v1.f2 v3).length) (appF ((v2 ++ v5).length) (fun i => (cInt .u8) ((v2 ++ v5).getD i default)) (fun i => (cInt .u8) ((gD v1.f2 v3).getD i default)))))],hp7 v1⟩ rfl ?_ (Nat.le_of_ble_eq_true rfl) ⟨hg.1,hg.2.1,hg.2.2,(fun _ _ => rfl),(fun _ _ => rfl)⟩ ?_
    ·kernel_rfl
    refine AOps.extL 41 (cInt .u8) ((v2 ++ v5) ++ (gD v1.f2 v3)) rfl List.length_append.symm (app_at (cInt .u8) (v2 ++ v5) (gD v1.f2 v3)) ?_
    refine AOps.go [9] [] [] [0,3,4] 1 ⟨[(0,.pc 0 0),(3,q1 ((v2 ++ v5) ++ (gD v1.f2 v3))),(4,tI v3)],hp7 v1⟩ ?_ (Nat.le_of_ble_eq_true rfl) trivial ?_
    ·kernel_rfl
    refine AOps.nil ?_
    obtain ⟨hg,h⟩ := of_guard h
    refine AWp.start [0,1,2,3,4,5,6,7,8] [9,10,11] [(0 : Int) ≤ v3,v3 < (v1.f2.length : Int)] [0,3,4,42,50] 1 ⟨[(0,.pc 0 0),(3,q1 ((v2 ++ v5) ++ (gD v1.f2 v3))),(4,tI v3),(42,.al (.slot 3 0,[])),(50,tI ((gD v1.f2 v3).length : Int))],hp7 v1⟩ rfl ?_ (Nat.le_of_ble_eq_true rfl) ⟨hg.1,hg.2⟩ ?_
    ·kernel_rfl
    obtain ⟨v6,hv6,h⟩ := of_bind h
    refine AOps.cons (AOne.callP (F := (FF 99 1)) _ rfl rfl rfl _ rfl rfl _ _ rfl Try.call40 [tI ((gD v1.f2 v3).length : Int)] rfl rfl (f40_ok ((gD v1.f2 v3).length : Int) hv6) rfl) ?_
    obtain ⟨hg,h⟩ := of_guard h
    refine AOps.go [10] [11] [(((v2 ++ v5) ++ (gD v1.f2 v3)).length + v6.length) * 1 ≤ 140737488355328,PlainTo (((v2 ++ v5) ++ (gD v1.f2 v3)).length) (fun i => (cInt .u8) (((v2 ++ v5) ++ (gD v1.f2 v3)).getD i default)),PlainTo v6.length (fun i => (cInt .u8) (v6.getD i default))] [0,4,52] 1 ⟨[(0,.pc 0 0),(4,tI v3),(52,.tv (.own 1 5 (((v2 ++ v5) ++ (gD v1.f2 v3)).length + v6.length) (appF (((v2 ++ v5) ++ (gD v1.f2 v3)).length) (fun i => (cInt .u8) (((v2 ++ v5) ++ (gD v1.f2 v3)).getD i default)) (fun i => (cInt .u8) (v6.getD i default)))))],hp7 v1⟩ ?_ (Nat.le_of_ble_eq_true rfl) ⟨hg,(fun _ _ => rfl),(fun _ _ => rfl)⟩ ?_
    ·kernel_rfl
    refine AOps.extL 52 (cInt .u8) (((v2 ++ v5) ++ (gD v1.f2 v3)) ++ v6) rfl List.length_append.symm (app_at (cInt .u8) ((v2 ++ v5) ++ (gD v1.f2 v3)) v6) ?_
    refine AOps.go [11] [] [] [0,3,4] 1 ⟨[(0,.pc 0 0),(3,q1 (((v2 ++ v5) ++ (gD v1.f2 v3)) ++ v6)),(4,tI v3)],hp7 v1⟩ ?_ (Nat.le_of_ble_eq_true rfl) trivial ?_
    ·kernel_rfl
    refine AOps.nil ?_
    refine AWp.start [0,1,2] [] [] [0,3,4] 1 ⟨[(0,.pc 0 0),(3,q1 (((v2 ++ v5) ++ (gD v1.f2 v3)) ++ v6)),(4,tI (w64 (v3 + (1 : Int))))],hp7 v1⟩ rfl ?_ (Nat.le_of_ble_eq_true rfl) trivial ?_
    ·kernel_rfl
    refine AOps.nil ?_
    cases h
    exact Or.inl ⟨_,rfl,rfl,rfl⟩
   ·replace h := of_false h hb
    refine AWp.keepTo [3] 1 ⟨[(3,q1 v2)],hp7 v1⟩ ?_ (Nat.le_of_ble_eq_true rfl) ?_
    ·kernel_rfl
    refine AWp.exit ?_
    cases h
    exact Or.inr ⟨_,rfl,by simp,rfl,rfl⟩
  ·intro e σ hp
   rcases y with v7 | v4
   ·obtain ⟨rfl,rfl⟩ := hp
    cases h
    exact ⟨.inr rfl,rfl⟩
   ·obtain ⟨rfl,rfl⟩ := hp
    refine AWp.seq ?_
    refine AWp.start [0,1] [] [] [2,3] 1 ⟨[(2,.al (.slot 3 0,[])),(3,q1 v4)],hp7 v1⟩ rfl ?_ (Nat.le_of_ble_eq_true rfl) trivial ?_
    ·kernel_rfl
    refine AOps.nil ?_
    refine AWp.claim 2 (.slot 3 0) (k1 v4) rfl rfl rfl rfl ?_
    refine AWp.keepTo [2] 1 ⟨[(2,q1 v4)],hp7 v1⟩ ?_ (Nat.le_of_ble_eq_true rfl) ?_
    ·kernel_rfl
    refine AWp.ret ?_
    cases h
    exact ⟨.inr rfl,rfl⟩
 ·replace h := of_false h hb
  refine AWp.keepTo [0,10] 1 ⟨[(0,.pc 0 0),(10,tS v1.f0)],hp7 v1⟩ ?_ (Nat.le_of_ble_eq_true rfl) ?_
  ·kernel_rfl
  refine AWp.seq ?_
  refine AWp.start [0,1] [] [] [0,54] 1 ⟨[(0,.pc 0 0),(54,tB (v1.f0 == ([108,105,110,101,115] : List UInt8)))],hp7 v1⟩ rfl ?_ (Nat.le_of_ble_eq_true rfl) trivial ?_
  ·kernel_rfl
  refine AOps.nil ?_
  refine AWp.cond rfl (fun hb => ?_) fun hb => ?_
  ·replace h := of_true h hb
   refine AWp.keepTo [0] 1 ⟨[(0,.pc 0 0)],hp7 v1⟩ ?_ (Nat.le_of_ble_eq_true rfl) ?_
   ·kernel_rfl
   refine AWp.seq ?_
   refine AWp.start [0] [] [] [0,5] 1 ⟨[(0,.pc 0 0),(5,.tv (.sc (.slice none 0 0)))],hp7 v1⟩ rfl ?_ (Nat.le_of_ble_eq_true rfl) trivial ?_
   ·kernel_rfl
   refine AOps.nil ?_
   refine AWp.seq ?_
   refine AWp.seq ?_
   refine AWp.start [0] [] [] [0,5,6] 1 ⟨[(0,.pc 0 0),(5,.tv (.sc (.slice none 0 0))),(6,tI (0 : Int))],hp7 v1⟩ rfl ?_ (Nat.le_of_ble_eq_true rfl) trivial ?_
   ·kernel_rfl
   refine AOps.nil ?_
   refine AWp.block ?_
   refine AWp.nilOwn 5 1 5 (fun i => (cInt .u8) (([] : List Int).getD i default)) rfl ?_
   refine AWp.keepTo [0,5,6] 1 ⟨[(0,.pc 0 0),(5,q1 ([] : List Int)),(6,tI (0 : Int))],hp7 v1⟩ ?_ (Nat.le_of_ble_eq_true rfl) ?_
   ·kernel_rfl
   obtain ⟨y,hy,h⟩ := of_bind h
   refine AWp.mono (AWp.loop (S := (List Int) × Int) (Y := Out (List Int) (List Int)) (fun s => ⟨[(0,.pc 0 0),(5,q1 s.1),(6,tI s.2)],hp7 v1⟩) (fun s => f50o_b3 v1 s.1 s.2) (fun y e σ => match y with | .ret r => e = .ret ∧ σ = ⟨[(2,q1 r)],hp7 v1⟩ | .go v => e = .exit 3 ∧ σ = ⟨[(5,q1 v)],hp7 v1⟩) ?_ hy) ?_
   ·rintro ⟨v8,v9⟩ o h
    refine AWp.seq ?_
    refine AWp.seq ?_
    refine AWp.start [0,1,2,3,4,5,6] [] [] [0,5,6,62] 1 ⟨[(0,.pc 0 0),(5,q1 v8),(6,tI v9),(62,tB (decide (v9 < (v1.f2.length : Int))))],hp7 v1⟩ rfl ?_ (Nat.le_of_ble_eq_true rfl) trivial ?_
    ·kernel_rfl
    refine AOps.nil ?_
    refine AWp.cond rfl (fun hb => ?_) fun hb => ?_
    ·replace h := of_true h hb
     refine AWp.keepTo [0,5,6] 1 ⟨[(0,.pc 0 0),(5,q1 v8),(6,tI v9)],hp7 v1⟩ ?_ (Nat.le_of_ble_eq_true rfl) ?_
     ·kernel_rfl
     refine AWp.skip ?_
     refine AWp.join (V := (List Int)) (fun w => ⟨[(0,.pc 0 0),(5,q1 w),(6,tI v9)],hp7 v1⟩) (fun w => f50o_j2 v9 w = some o) ?_ ?_
     ·refine AWp.block ?_
      refine AWp.seq ?_
      obtain ⟨hg,h⟩ := of_guard h
      refine AWp.start [0,1,2,3,4,5,6,7,8] [9] [(0 : Int) ≤ v9,v9 < (v1.f2.length : Int),(v8.length + (gD v1.f2 v9).length) * 1 ≤ 140737488355328,PlainTo v8.length (fun i => (cInt .u8) (v8.getD i default)),PlainTo ((gD v1.f2 v9).length) (fun i => (cInt .u8) ((gD v1.f2 v9).getD i default))] [0,6,73] 1 ⟨[(0,.pc 0 0),(6,tI v9),(73,.tv (.own 1 5 (v8.length + (gD v1.f2 v9).length) (appF v8.length (fun i => (cInt .u8) (v8.getD i default)) (fun i => (cInt .u8) ((gD v1.f2 v9).getD i default)))))],hp7 v1⟩ rfl ?_ (Nat.le_of_ble_eq_true rfl) ⟨hg.1,hg.2.1,hg.2.2,(fun _ _ => rfl),(fun _ _ => rfl)⟩ ?_
      ·kernel_rfl
      refine AOps.extL 73 (cInt .u8) (v8 ++ (gD v1.f2 v9)) rfl List.length_append.symm (app_at (cInt .u8) v8 (gD v1.f2 v9)) ?_
      refine AOps.go [9] [] [] [0,5,6] 1 ⟨[(0,.pc 0 0),(5,q1 (v8 ++ (gD v1.f2 v9))),(6,tI v9)],hp7 v1⟩ ?_ (Nat.le_of_ble_eq_true rfl) trivial ?_
      ·kernel_rfl
      refine AOps.nil ?_
      refine AWp.seq ?_
      refine AWp.start [0,1,2,3,4,5,6,7,8] [9,10,11,12,13,14] [] [0,5,6,82] 1 ⟨[(0,.pc 0 0),(5,q1 (v8 ++ (gD v1.f2 v9))),(6,tI v9),(82,tB (decide (v9 < w64 ((v1.f2.length : Int) - (1 : Int)))))],hp7 v1⟩ rfl ?_ (Nat.le_of_ble_eq_true rfl) trivial ?_
      ·kernel_rfl
      obtain ⟨v12,hc9,h⟩ := of_bind h
      refine AOps.cut [9,10,11,12,13,14] [] (fun σ => σ = ⟨[(0,.pc 0 0),(5,q1 (v8 ++ (gD v1.f2 v9))),(6,tI v9),(88,tB v12)],hp7 v1⟩) ?_ fun σ' hJ => ?_
      ·refine AOps.split (fun b => ⟨[(0,.pc 0 0),(5,q1 (v8 ++ (gD v1.f2 v9))),(6,tI v9),(82,tB b)],hp7 v1⟩) _ (fun hb => ?_) fun hb => ?_
       ·replace hc9 := of_true hc9 hb
        refine AOps.go [9,10,11,12,13,14] [] [] [0,5,6,88] 1 ⟨[(0,.pc 0 0),(5,q1 (v8 ++ (gD v1.f2 v9))),(6,tI v9),(88,tB true)],hp7 v1⟩ ?_ (Nat.le_of_ble_eq_true rfl) trivial ?_
        ·kernel_rfl
        cases hc9
        exact AOps.nil rfl
       ·replace hc9 := of_false hc9 hb
        refine AOps.go [9,10,11,12,13,14] [] [] [0,5,6,88] 1 ⟨[(0,.pc 0 0),(5,q1 (v8 ++ (gD v1.f2 v9))),(6,tI v9),(88,tB (!v1.f3))],hp7 v1⟩ ?_ (Nat.le_of_ble_eq_true rfl) trivial ?_
        ·kernel_rfl
        cases hc9
        exact AOps.nil rfl
      subst hJ
      refine AOps.nil ?_
      refine AWp.cond rfl (fun hb => ?_) fun hb => ?_
      ·replace h := of_true h hb
       refine AWp.keepTo [0,5,6] 1 ⟨[(0,.pc 0 0),(5,q1 (v8 ++ (gD v1.f2 v9))),(6,tI v9)],hp7 v1⟩ ?_ (Nat.le_of_ble_eq_true rfl) ?_
       ·kernel_rfl
       refine AWp.start [0,1] [2,3] [] [0,5,6,89,90] 1 ⟨[(0,.pc 0 0),(5,q1 (v8 ++ (gD v1.f2 v9))),(6,tI v9),(89,.al (.slot 5 0,[])),(90,.tv (.own 1 5 1 (newRowF [.int .u8 (10 : Int)] 1)))],hp7 v1⟩ rfl ?_ (Nat.le_of_ble_eq_true rfl) trivial ?_
       ·kernel_rfl
       refine AOps.extL 90 (cInt .u8) [(10 : Int)] rfl rfl (row_at (cInt .u8) 1 (fun _ => rfl) [(10 : Int)] _ rfl) ?_
       obtain ⟨hg,h⟩ := of_guard h
       refine AOps.go [2] [3] [((v8 ++ (gD v1.f2 v9)).length + [(10 : Int)].length) * 1 ≤ 140737488355328,PlainTo ((v8 ++ (gD v1.f2 v9)).length) (fun i => (cInt .u8) ((v8 ++ (gD v1.f2 v9)).getD i default)),PlainTo ([(10 : Int)].length) (fun i => (cInt .u8) ([(10 : Int)].getD i default))] [0,6,91] 1 ⟨[(0,.pc 0 0),(6,tI v9),(91,.tv (.own 1 5 ((v8 ++ (gD v1.f2 v9)).length + [(10 : Int)].length) (appF ((v8 ++ (gD v1.f2 v9)).length) (fun i => (cInt .u8) ((v8 ++ (gD v1.f2 v9)).getD i default)) (fun i => (cInt .u8) ([(10 : Int)].getD i default)))))],hp7 v1⟩ ?_ (Nat.le_of_ble_eq_true rfl) ⟨hg,(fun _ _ => rfl),(fun _ _ => rfl)⟩ ?_
       ·kernel_rfl
       refine AOps.extL 91 (cInt .u8) ((v8 ++ (gD v1.f2 v9)) ++ [(10 : Int)]) rfl List.length_append.symm (app_at (cInt .u8) (v8 ++ (gD v1.f2 v9)) [(10 : Int)]) ?_
       refine AOps.go [3] [] [] [0,5,6] 1 ⟨[(0,.pc 0 0),(5,q1 ((v8 ++ (gD v1.f2 v9)) ++ [(10 : Int)])),(6,tI v9)],hp7 v1⟩ ?_ (Nat.le_of_ble_eq_true rfl) trivial ?_
       ·kernel_rfl
       refine AOps.nil ?_
       exact ⟨(v8 ++ (gD v1.f2 v9)) ++ [(10 : Int)],h,rfl⟩
      ·replace h := of_false h hb
       refine AWp.keepTo [0,5,6] 1 ⟨[(0,.pc 0 0),(5,q1 (v8 ++ (gD v1.f2 v9))),(6,tI v9)],hp7 v1⟩ ?_ (Nat.le_of_ble_eq_true rfl) ?_
       ·kernel_rfl
       refine AWp.skip ?_
       exact ⟨v8 ++ (gD v1.f2 v9),h,rfl⟩
     ·rintro v11 h
      refine AWp.start [0,1,2] [] [] [0,5,6] 1 ⟨[(0,.pc 0 0),(5,q1 v11),(6,tI (w64 (v9 + (1 : Int))))],hp7 v1⟩ rfl ?_ (Nat.le_of_ble_eq_true rfl) trivial ?_
      ·kernel_rfl
      refine AOps.nil ?_
      cases h
      exact Or.inl ⟨_,rfl,rfl,rfl⟩
    ·replace h := of_false h hb
     refine AWp.keepTo [5] 1 ⟨[(5,q1 v8)],hp7 v1⟩ ?_ (Nat.le_of_ble_eq_true rfl) ?_
     ·kernel_rfl
     refine AWp.exit ?_
     cases h
     exact Or.inr ⟨_,rfl,by simp,rfl,rfl⟩
   ·intro e σ hp
    rcases y with v13 | v10
    ·obtain ⟨rfl,rfl⟩ := hp
     cases h
     exact ⟨.inr rfl,rfl⟩
    ·obtain ⟨rfl,rfl⟩ := hp
     refine AWp.seq ?_
     refine AWp.start [0,1] [] [] [2,5] 1 ⟨[(2,.al (.slot 5 0,[])),(5,q1 v10)],hp7 v1⟩ rfl ?_ (Nat.le_of_ble_eq_true rfl) trivial ?_
     ·kernel_rfl
     refine AOps.nil ?_
     refine AWp.claim 2 (.slot 5 0) (k1 v10) rfl rfl rfl rfl ?_
     refine AWp.keepTo [2] 1 ⟨[(2,q1 v10)],hp7 v1⟩ ?_ (Nat.le_of_ble_eq_true rfl) ?_
     ·kernel_rfl
     refine AWp.ret ?_
     cases h
     exact ⟨.inr rfl,rfl⟩
  ·replace h := of_false h hb
   refine AWp.keepTo [0] 1 ⟨[(0,.pc 0 0)],hp7 v1⟩ ?_ (Nat.le_of_ble_eq_true rfl) ?_
   ·kernel_rfl
   refine AWp.skip ?_
   refine AWp.seq ?_
   refine AWp.start [0] [1,2,3,4,5,6] [] [0,93] 1 ⟨[(0,.pc 0 0),(93,.tv (.own 1 5 0 (newRowF [] 1)))],hp7 v1⟩ rfl ?_ (Nat.le_of_ble_eq_true rfl) trivial ?_
   ·kernel_rfl
   refine AOps.extL 93 (cInt .u8) ([] : List Int) rfl rfl (row_at (cInt .u8) 1 (fun _ => rfl) ([] : List Int) _ rfl) ?_
   obtain ⟨hg,h⟩ := of_guard h
   refine AOps.go [1,2,3,4,5] [6] [(([] : List Int).length + v1.f6.length) * 1 ≤ 140737488355328,PlainTo (([] : List Int).length) (fun i => (cInt .u8) (([] : List Int).getD i default)),PlainTo v1.f6.length (fun i => (cInt .u8) (v1.f6.getD i default))] [98] 1 ⟨[(98,.tv (.own 1 5 (([] : List Int).length + v1.f6.length) (appF (([] : List Int).length) (fun i => (cInt .u8) (([] : List Int).getD i default)) (fun i => (cInt .u8) (v1.f6.getD i default)))))],hp7 v1⟩ ?_ (Nat.le_of_ble_eq_true rfl) ⟨hg,(fun _ _ => rfl),(fun _ _ => rfl)⟩ ?_
   ·kernel_rfl
   refine AOps.extL 98 (cInt .u8) (([] : List Int) ++ v1.f6) rfl List.length_append.symm (app_at (cInt .u8) ([] : List Int) v1.f6) ?_
   refine AOps.go [6] [] [] [2] 1 ⟨[(2,q1 (([] : List Int) ++ v1.f6))],hp7 v1⟩ ?_ (Nat.le_of_ble_eq_true rfl) trivial ?_
   ·kernel_rfl
   refine AOps.nil ?_
   refine AWp.ret ?_
   cases h
   exact ⟨.inr rfl,rfl⟩

end Go.Sx.unit
