/- Printed by program (wip/gen): plain functions and their walks; no condition. -/
import Derived.Test.YtdmpmbcnfoionaaGx5
namespace Go.Sx.unit
open Go Go.Sx Go.Proofs

noncomputable def f50_b1 (v1:T78) (v2:List Int) (v3:Int):Option (((List Int) × Int) ⊕ Out (List Int) (List Int)) :=
 cond (decide (v3 < (v1.f2.length:Int))) (if (0:Int) ≤ v3 ∧ v3 < (v1.f2.length:Int) then (f40 ((v1.f2.getD v3.toNat default).length:Int)).bind fun v5=>if (v2.length + v5.length) * 1 ≤ 140737488355328 then if (0:Int) ≤ v3 ∧ v3 < (v1.f2.length:Int) ∧ ((v2 ++ v5).length + (v1.f2.getD v3.toNat default).length) * 1 ≤ 140737488355328 then if (0:Int) ≤ v3 ∧ v3 < (v1.f2.length:Int) then (f40 ((v1.f2.getD v3.toNat default).length:Int)).bind fun v6=>if (((v2 ++ v5) ++ (v1.f2.getD v3.toNat default)).length + v6.length) * 1 ≤ 140737488355328 then some (.inl (((v2 ++ v5) ++ (v1.f2.getD v3.toNat default)) ++ v6,w64 (v3 + (1:Int)))) else none else none else none else none else none) (some (.inr (.go v2)))

noncomputable def f50_j2 (v9:Int) (v11:List Int):Option (((List Int) × Int) ⊕ Out (List Int) (List Int)) :=
 some (.inl (v11,w64 (v9 + (1:Int))))

noncomputable def f50_b3 (v1:T78) (v8:List Int) (v9:Int):Option (((List Int) × Int) ⊕ Out (List Int) (List Int)) :=
 cond (decide (v9 < (v1.f2.length:Int))) (if (0:Int) ≤ v9 ∧ v9 < (v1.f2.length:Int) ∧ (v8.length + (v1.f2.getD v9.toNat default).length) * 1 ≤ 140737488355328 then (cond (decide (v9 < w64 ((v1.f2.length:Int) - (1:Int)))) (some true) (some (!v1.f3))).bind fun v12=>cond v12 (if ((v8 ++ (v1.f2.getD v9.toNat default)).length + [(10:Int)].length) * 1 ≤ 140737488355328 then f50_j2 v9 ((v8 ++ (v1.f2.getD v9.toNat default)) ++ [(10:Int)]) else none) (f50_j2 v9 (v8 ++ (v1.f2.getD v9.toNat default))) else none) (some (.inr (.go v8)))

noncomputable def f50 (v1:T78):Option (List Int) :=
 cond (v1.f0 == ([114,101,99,111,114,100,115]:List UInt8)) ((iter (fun s=>f50_b1 v1 s.1 s.2) ([],(0:Int))).bind fun y=>match y with | .ret v7=>some v7 | .go v4=>some v4) (cond (v1.f0 == ([108,105,110,101,115]:List UInt8)) ((iter (fun s=>f50_b3 v1 s.1 s.2) ([],(0:Int))).bind fun y=>match y with | .ret v13=>some v13 | .go v10=>some v10) (if (([]:List Int).length + v1.f6.length) * 1 ≤ 140737488355328 then some (([]:List Int) ++ v1.f6) else none))

theorem f50_ok (v1:T78) {r:(List Int)} (h:f50 v1 = some r):ACall Try.prog 50 [.rp [.str v1.f0,.int .i64 v1.f1,fzL 1 (cSl 1 (cInt .u8)) v1.f2,.bool v1.f3,.int .i64 v1.f4,.bool v1.f5,fzL 1 (cInt .u8) v1.f6]] [] (.tv (ownL 1 5 (cInt .u8) r)) []:=by
 refine ACall.of1 (FF 99 0) Try.func50 rfl Try.ntmps50 Try.results50 (zz rfl) rfl rfl ?_
 refine AWp.seq ?_
 refine AWp.start [0] [] [] [0] 0 ⟨[(0,.rp (c78 v1))],[]⟩ rfl ?_ z0 trivial ?_
 ·kernel_rfl
 refine AOps.nil ?_
 refine AWp.seq ?_
 refine AWp.seq ?_
 refine AWp.start [0,1,2,3] [] [] [0,10] 0 ⟨[(0,.rp (c78 v1)),(10,tS v1.f0)],[]⟩ rfl ?_ z0 trivial ?_
 ·kernel_rfl
 refine AOps.nil ?_
 refine AWp.block ?_
 refine AWp.seq ?_
 refine AWp.start [0,1] [] [] [0,10,11] 0 ⟨[(0,.rp (c78 v1)),(10,tS v1.f0),(11,tB (v1.f0 == ([114,101,99,111,114,100,115]:List UInt8)))],[]⟩ rfl ?_ z0 trivial ?_
 ·kernel_rfl
 refine AOps.nil ?_
 refine AWp.cond rfl (fun hb=>?_) fun hb=>?_
 ·replace h:=of_true h hb
  refine AWp.keepTo [0] 0 ⟨[(0,.rp (c78 v1))],[]⟩ ?_ z0 ?_
  ·kernel_rfl
  refine AWp.seq ?_
  refine AWp.start [0] [] [] [0,3] 0 ⟨[(0,.rp (c78 v1)),(3,.tv (.sc (.slice none 0 0)))],[]⟩ rfl ?_ z0 trivial ?_
  ·kernel_rfl
  refine AOps.nil ?_
  refine AWp.seq ?_
  refine AWp.seq ?_
  refine AWp.start [0] [] [] [0,3,4] 0 ⟨[(0,.rp (c78 v1)),(3,.tv (.sc (.slice none 0 0))),(4,tI (0:Int))],[]⟩ rfl ?_ z0 trivial ?_
  ·kernel_rfl
  refine AOps.nil ?_
  refine AWp.block ?_
  refine AWp.nilOwn 3 1 5 (fun i=>(cInt .u8) (([]:List Int).getD i default)) rfl ?_
  refine AWp.keepTo [0,3,4] 0 ⟨[(0,.rp (c78 v1)),(3,q1 ([]:List Int)),(4,tI (0:Int))],[]⟩ ?_ z0 ?_
  ·kernel_rfl
  obtain ⟨y,hy,h⟩:=of_bind h
  refine AWp.mono (AWp.loop (S:=(List Int) × Int) (Y:=Out (List Int) (List Int)) (fun s=>⟨[(0,.rp (c78 v1)),(3,q1 s.1),(4,tI s.2)],[]⟩) (fun s=>f50_b1 v1 s.1 s.2) (fun y e σ=>match y with | .ret r=>e = .ret ∧ σ = ⟨[(2,q1 r)],[]⟩ | .go v=>e = .exit 1 ∧ σ = ⟨[(3,q1 v)],[]⟩) ?_ hy) ?_
  ·rintro ⟨v2,v3⟩ o h
   refine AWp.seq ?_
   refine AWp.seq ?_
   refine AWp.start [0,1,2,3,4,5,6] [] [] [0,3,4,19] 0 ⟨[(0,.rp (c78 v1)),(3,q1 v2),(4,tI v3),(19,tB (decide (v3 < (v1.f2.length:Int))))],[]⟩ rfl ?_ z0 trivial ?_
   ·kernel_rfl
   refine AOps.nil ?_
   refine AWp.cond rfl (fun hb=>?_) fun hb=>?_
   ·replace h:=of_true h hb
    refine AWp.keepTo [0,3,4] 0 ⟨[(0,.rp (c78 v1)),(3,q1 v2),(4,tI v3)],[]⟩ ?_ z0 ?_
    ·kernel_rfl
    refine AWp.skip ?_
    refine AWp.seq ?_
    refine AWp.block ?_
    refine AWp.seq ?_
    obtain ⟨hg,h⟩:=of_guard h
    refine AWp.start [0,1,2,3,4,5,6,7,8] [9,10,11] [(0:Int) ≤ v3,v3 < (v1.f2.length:Int)] [0,3,4,22,30] 0 ⟨[(0,.rp (c78 v1)),(3,q1 v2),(4,tI v3),(22,.al (.slot 3 0,[])),(30,tI ((gD v1.f2 v3).length:Int))],[]⟩ rfl ?_ z0 ⟨hg.1,hg.2⟩ ?_
    ·kernel_rfl
    obtain ⟨v5,hv5,h⟩:=of_bind h
    refine AOps.cons (AOne.callP (F:=(FF 99 0)) _ rfl rfl rfl _ rfl rfl _ _ rfl Try.call40 [tI ((gD v1.f2 v3).length:Int)] rfl rfl (f40_ok ((gD v1.f2 v3).length:Int) hv5) rfl) ?_
    obtain ⟨hg,h⟩:=of_guard h
    refine AOps.go [10] [11] [(v2.length + v5.length) * 1 ≤ 140737488355328,PlainTo v2.length (fun i=>(cInt .u8) (v2.getD i default)),PlainTo v5.length (fun i=>(cInt .u8) (v5.getD i default))] [0,4,32] 0 ⟨[(0,.rp (c78 v1)),(4,tI v3),(32,.tv (.own 1 5 (v2.length + v5.length) (appF v2.length (fun i=>(cInt .u8) (v2.getD i default)) (fun i=>(cInt .u8) (v5.getD i default)))))],[]⟩ ?_ z0 ⟨hg,(fun _ _=>rfl),(fun _ _=>rfl)⟩ ?_
    ·kernel_rfl
    refine AOps.extL 32 (cInt .u8) (v2 ++ v5) rfl List.length_append.symm (app_at (cInt .u8) v2 v5) ?_
    refine AOps.go [11] [] [] [0,3,4] 0 ⟨[(0,.rp (c78 v1)),(3,q1 (v2 ++ v5)),(4,tI v3)],[]⟩ ?_ z0 trivial ?_
    ·kernel_rfl
    refine AOps.nil ?_
    refine AWp.seq ?_
    obtain ⟨hg,h⟩:=of_guard h
    refine AWp.start [0,1,2,3,4,5,6,7,8] [9] [(0:Int) ≤ v3,v3 < (v1.f2.length:Int),((v2 ++ v5).length + (gD v1.f2 v3).length) * 1 ≤ 140737488355328,PlainTo ((v2 ++ v5).length) (fun i=>(cInt .u8) ((v2 ++ v5).getD i default)),PlainTo ((gD v1.f2 v3).length) (fun i=>(cInt .u8) ((gD v1.f2 v3).getD i default))] [0,4,41] 0 ⟨[(0,.rp (c78 v1)),(4,tI v3),(41,.tv (.own 1 5 ((v2 ++ v5).length + (gD v1.f2 v3).length) (appF ((v2 ++ v5).length) (fun i=>(cInt .u8) ((v2 ++ v5).getD i default)) (fun i=>(cInt .u8) ((gD v1.f2 v3).getD i default)))))],[]⟩ rfl ?_ z0 ⟨hg.1,hg.2.1,hg.2.2,(fun _ _=>rfl),(fun _ _=>rfl)⟩ ?_
    ·kernel_rfl
    refine AOps.extL 41 (cInt .u8) ((v2 ++ v5) ++ (gD v1.f2 v3)) rfl List.length_append.symm (app_at (cInt .u8) (v2 ++ v5) (gD v1.f2 v3)) ?_
    refine AOps.go [9] [] [] [0,3,4] 0 ⟨[(0,.rp (c78 v1)),(3,q1 ((v2 ++ v5) ++ (gD v1.f2 v3))),(4,tI v3)],[]⟩ ?_ z0 trivial ?_
    ·kernel_rfl
    refine AOps.nil ?_
    obtain ⟨hg,h⟩:=of_guard h
    refine AWp.start [0,1,2,3,4,5,6,7,8] [9,10,11] [(0:Int) ≤ v3,v3 < (v1.f2.length:Int)] [0,3,4,42,50] 0 ⟨[(0,.rp (c78 v1)),(3,q1 ((v2 ++ v5) ++ (gD v1.f2 v3))),(4,tI v3),(42,.al (.slot 3 0,[])),(50,tI ((gD v1.f2 v3).length:Int))],[]⟩ rfl ?_ z0 ⟨hg.1,hg.2⟩ ?_
    ·kernel_rfl
    obtain ⟨v6,hv6,h⟩:=of_bind h
    refine AOps.cons (AOne.callP (F:=(FF 99 0)) _ rfl rfl rfl _ rfl rfl _ _ rfl Try.call40 [tI ((gD v1.f2 v3).length:Int)] rfl rfl (f40_ok ((gD v1.f2 v3).length:Int) hv6) rfl) ?_
    obtain ⟨hg,h⟩:=of_guard h
    refine AOps.go [10] [11] [(((v2 ++ v5) ++ (gD v1.f2 v3)).length + v6.length) * 1 ≤ 140737488355328,PlainTo (((v2 ++ v5) ++ (gD v1.f2 v3)).length) (fun i=>(cInt .u8) (((v2 ++ v5) ++ (gD v1.f2 v3)).getD i default)),PlainTo v6.length (fun i=>(cInt .u8) (v6.getD i default))] [0,4,52] 0 ⟨[(0,.rp (c78 v1)),(4,tI v3),(52,.tv (.own 1 5 (((v2 ++ v5) ++ (gD v1.f2 v3)).length + v6.length) (appF (((v2 ++ v5) ++ (gD v1.f2 v3)).length) (fun i=>(cInt .u8) (((v2 ++ v5) ++ (gD v1.f2 v3)).getD i default)) (fun i=>(cInt .u8) (v6.getD i default)))))],[]⟩ ?_ z0 ⟨hg,(fun _ _=>rfl),(fun _ _=>rfl)⟩ ?_
    ·kernel_rfl
    refine AOps.extL 52 (cInt .u8) (((v2 ++ v5) ++ (gD v1.f2 v3)) ++ v6) rfl List.length_append.symm (app_at (cInt .u8) ((v2 ++ v5) ++ (gD v1.f2 v3)) v6) ?_
    refine AOps.go [11] [] [] [0,3,4] 0 ⟨[(0,.rp (c78 v1)),(3,q1 (((v2 ++ v5) ++ (gD v1.f2 v3)) ++ v6)),(4,tI v3)],[]⟩ ?_ z0 trivial ?_
    ·kernel_rfl
    refine AOps.nil ?_
    refine AWp.start [0,1,2] [] [] [0,3,4] 0 ⟨[(0,.rp (c78 v1)),(3,q1 (((v2 ++ v5) ++ (gD v1.f2 v3)) ++ v6)),(4,tI (w64 (v3 + (1:Int))))],[]⟩ rfl ?_ z0 trivial ?_
    ·kernel_rfl
    refine AOps.nil ?_
    cases h
    exact Or.inl ⟨_,rfl,rfl,rfl⟩
   ·replace h:=of_false h hb
    refine AWp.keepTo [3] 0 ⟨[(3,q1 v2)],[]⟩ ?_ z0 ?_
    ·kernel_rfl
    refine AWp.exit ?_
    cases h
    exact Or.inr ⟨_,rfl,by simp,rfl,rfl⟩
  ·intro e σ hp
   rcases y with v7 | v4
   ·obtain ⟨rfl,rfl⟩:=hp
    cases h
    exact ⟨.inr rfl,rfl⟩
   ·obtain ⟨rfl,rfl⟩:=hp
    refine AWp.seq ?_
    refine AWp.start [0,1] [] [] [2,3] 0 ⟨[(2,.al (.slot 3 0,[])),(3,q1 v4)],[]⟩ rfl ?_ z0 trivial ?_
    ·kernel_rfl
    refine AOps.nil ?_
    refine AWp.claim 2 (.slot 3 0) (k1 v4) rfl rfl rfl rfl ?_
    refine AWp.keepTo [2] 0 ⟨[(2,q1 v4)],[]⟩ ?_ z0 ?_
    ·kernel_rfl
    refine AWp.ret ?_
    cases h
    exact ⟨.inr rfl,rfl⟩
 ·replace h:=of_false h hb
  refine AWp.keepTo [0,10] 0 ⟨[(0,.rp (c78 v1)),(10,tS v1.f0)],[]⟩ ?_ z0 ?_
  ·kernel_rfl
  refine AWp.seq ?_
  refine AWp.start [0,1] [] [] [0,54] 0 ⟨[(0,.rp (c78 v1)),(54,tB (v1.f0 == ([108,105,110,101,115]:List UInt8)))],[]⟩ rfl ?_ z0 trivial ?_
  ·kernel_rfl
  refine AOps.nil ?_
  refine AWp.cond rfl (fun hb=>?_) fun hb=>?_
  ·replace h:=of_true h hb
   refine AWp.keepTo [0] 0 ⟨[(0,.rp (c78 v1))],[]⟩ ?_ z0 ?_
   ·kernel_rfl
   refine AWp.seq ?_
   refine AWp.start [0] [] [] [0,5] 0 ⟨[(0,.rp (c78 v1)),(5,.tv (.sc (.slice none 0 0)))],[]⟩ rfl ?_ z0 trivial ?_
   ·kernel_rfl
   refine AOps.nil ?_
   refine AWp.seq ?_
   refine AWp.seq ?_
   refine AWp.start [0] [] [] [0,5,6] 0 ⟨[(0,.rp (c78 v1)),(5,.tv (.sc (.slice none 0 0))),(6,tI (0:Int))],[]⟩ rfl ?_ z0 trivial ?_
   ·kernel_rfl
   refine AOps.nil ?_
   refine AWp.block ?_
   refine AWp.nilOwn 5 1 5 (fun i=>(cInt .u8) (([]:List Int).getD i default)) rfl ?_
   refine AWp.keepTo [0,5,6] 0 ⟨[(0,.rp (c78 v1)),(5,q1 ([]:List Int)),(6,tI (0:Int))],[]⟩ ?_ z0 ?_
   ·kernel_rfl
   obtain ⟨y,hy,h⟩:=of_bind h
   refine AWp.mono (AWp.loop (S:=(List Int) × Int) (Y:=Out (List Int) (List Int)) (fun s=>⟨[(0,.rp (c78 v1)),(5,q1 s.1),(6,tI s.2)],[]⟩) (fun s=>f50_b3 v1 s.1 s.2) (fun y e σ=>match y with | .ret r=>e = .ret ∧ σ = ⟨[(2,q1 r)],[]⟩ | .go v=>e = .exit 3 ∧ σ = ⟨[(5,q1 v)],[]⟩) ?_ hy) ?_
   ·rintro ⟨v8,v9⟩ o h
    refine AWp.seq ?_
    refine AWp.seq ?_
    refine AWp.start [0,1,2,3,4,5,6] [] [] [0,5,6,62] 0 ⟨[(0,.rp (c78 v1)),(5,q1 v8),(6,tI v9),(62,tB (decide (v9 < (v1.f2.length:Int))))],[]⟩ rfl ?_ z0 trivial ?_
    ·kernel_rfl
    refine AOps.nil ?_
    refine AWp.cond rfl (fun hb=>?_) fun hb=>?_
    ·replace h:=of_true h hb
     refine AWp.keepTo [0,5,6] 0 ⟨[(0,.rp (c78 v1)),(5,q1 v8),(6,tI v9)],[]⟩ ?_ z0 ?_
     ·kernel_rfl
     refine AWp.skip ?_
     refine AWp.join (V:=(List Int)) (fun w=>⟨[(0,.rp (c78 v1)),(5,q1 w),(6,tI v9)],[]⟩) (fun w=>f50_j2 v9 w = some o) ?_ ?_
     ·refine AWp.block ?_
      refine AWp.seq ?_
      obtain ⟨hg,h⟩:=of_guard h
      refine AWp.start [0,1,2,3,4,5,6,7,8] [9] [(0:Int) ≤ v9,v9 < (v1.f2.length:Int),(v8.length + (gD v1.f2 v9).length) * 1 ≤ 140737488355328,PlainTo v8.length (fun i=>(cInt .u8) (v8.getD i default)),PlainTo ((gD v1.f2 v9).length) (fun i=>(cInt .u8) ((gD v1.f2 v9).getD i default))] [0,6,73] 0 ⟨[(0,.rp (c78 v1)),(6,tI v9),(73,.tv (.own 1 5 (v8.length + (gD v1.f2 v9).length) (appF v8.length (fun i=>(cInt .u8) (v8.getD i default)) (fun i=>(cInt .u8) ((gD v1.f2 v9).getD i default)))))],[]⟩ rfl ?_ z0 ⟨hg.1,hg.2.1,hg.2.2,(fun _ _=>rfl),(fun _ _=>rfl)⟩ ?_
      ·kernel_rfl
      refine AOps.extL 73 (cInt .u8) (v8 ++ (gD v1.f2 v9)) rfl List.length_append.symm (app_at (cInt .u8) v8 (gD v1.f2 v9)) ?_
      refine AOps.go [9] [] [] [0,5,6] 0 ⟨[(0,.rp (c78 v1)),(5,q1 (v8 ++ (gD v1.f2 v9))),(6,tI v9)],[]⟩ ?_ z0 trivial ?_
      ·kernel_rfl
      refine AOps.nil ?_
      refine AWp.seq ?_
      refine AWp.start [0,1,2,3,4,5,6,7,8] [9,10,11,12,13,14] [] [0,5,6,82] 0 ⟨[(0,.rp (c78 v1)),(5,q1 (v8 ++ (gD v1.f2 v9))),(6,tI v9),(82,tB (decide (v9 < w64 ((v1.f2.length:Int) - (1:Int)))))],[]⟩ rfl ?_ z0 trivial ?_
      ·kernel_rfl
      obtain ⟨v12,hc9,h⟩:=of_bind h
      refine AOps.cut [9,10,11,12,13,14] [] (fun σ=>σ = ⟨[(0,.rp (c78 v1)),(5,q1 (v8 ++ (gD v1.f2 v9))),(6,tI v9),(88,tB v12)],[]⟩) ?_ fun σ' hJ=>?_
      ·refine AOps.split (fun b=>⟨[(0,.rp (c78 v1)),(5,q1 (v8 ++ (gD v1.f2 v9))),(6,tI v9),(82,tB b)],[]⟩) _ (fun hb=>?_) fun hb=>?_
       ·replace hc9:=of_true hc9 hb
        refine AOps.go [9,10,11,12,13,14] [] [] [0,5,6,88] 0 ⟨[(0,.rp (c78 v1)),(5,q1 (v8 ++ (gD v1.f2 v9))),(6,tI v9),(88,tB true)],[]⟩ ?_ z0 trivial ?_
        ·kernel_rfl
        cases hc9
        exact AOps.nil rfl
       ·replace hc9:=of_false hc9 hb
        refine AOps.go [9,10,11,12,13,14] [] [] [0,5,6,88] 0 ⟨[(0,.rp (c78 v1)),(5,q1 (v8 ++ (gD v1.f2 v9))),(6,tI v9),(88,tB (!v1.f3))],[]⟩ ?_ z0 trivial ?_
        ·kernel_rfl
        cases hc9
        exact AOps.nil rfl
      subst hJ
      refine AOps.nil ?_
      refine AWp.cond rfl (fun hb=>?_) fun hb=>?_
      ·replace h:=of_true h hb
       refine AWp.keepTo [0,5,6] 0 ⟨[(0,.rp (c78 v1)),(5,q1 (v8 ++ (gD v1.f2 v9))),(6,tI v9)],[]⟩ ?_ z0 ?_
       ·kernel_rfl
       refine AWp.start [0,1] [2,3] [] [0,5,6,89,90] 0 ⟨[(0,.rp (c78 v1)),(5,q1 (v8 ++ (gD v1.f2 v9))),(6,tI v9),(89,.al (.slot 5 0,[])),(90,.tv (.own 1 5 1 (newRowF [.int .u8 (10:Int)] 1)))],[]⟩ rfl ?_ z0 trivial ?_
       ·kernel_rfl
       refine AOps.extL 90 (cInt .u8) [(10:Int)] rfl rfl (row_at (cInt .u8) 1 (fun _=>rfl) [(10:Int)] _ rfl) ?_
       obtain ⟨hg,h⟩:=of_guard h
       refine AOps.go [2] [3] [((v8 ++ (gD v1.f2 v9)).length + [(10:Int)].length) * 1 ≤ 140737488355328,PlainTo ((v8 ++ (gD v1.f2 v9)).length) (fun i=>(cInt .u8) ((v8 ++ (gD v1.f2 v9)).getD i default)),PlainTo ([(10:Int)].length) (fun i=>(cInt .u8) ([(10:Int)].getD i default))] [0,6,91] 0 ⟨[(0,.rp (c78 v1)),(6,tI v9),(91,.tv (.own 1 5 ((v8 ++ (gD v1.f2 v9)).length + [(10:Int)].length) (appF ((v8 ++ (gD v1.f2 v9)).length) (fun i=>(cInt .u8) ((v8 ++ (gD v1.f2 v9)).getD i default)) (fun i=>(cInt .u8) ([(10:Int)].getD i default)))))],[]⟩ ?_ z0 ⟨hg,(fun _ _=>rfl),(fun _ _=>rfl)⟩ ?_
       ·kernel_rfl
       refine AOps.extL 91 (cInt .u8) ((v8 ++ (gD v1.f2 v9)) ++ [(10:Int)]) rfl List.length_append.symm (app_at (cInt .u8) (v8 ++ (gD v1.f2 v9)) [(10:Int)]) ?_
       refine AOps.go [3] [] [] [0,5,6] 0 ⟨[(0,.rp (c78 v1)),(5,q1 ((v8 ++ (gD v1.f2 v9)) ++ [(10:Int)])),(6,tI v9)],[]⟩ ?_ z0 trivial ?_
       ·kernel_rfl
       refine AOps.nil ?_
       exact ⟨(v8 ++ (gD v1.f2 v9)) ++ [(10:Int)],h,rfl⟩
      ·replace h:=of_false h hb
       refine AWp.keepTo [0,5,6] 0 ⟨[(0,.rp (c78 v1)),(5,q1 (v8 ++ (gD v1.f2 v9))),(6,tI v9)],[]⟩ ?_ z0 ?_
       ·kernel_rfl
       refine AWp.skip ?_
       exact ⟨v8 ++ (gD v1.f2 v9),h,rfl⟩
     ·rintro v11 h
      refine AWp.start [0,1,2] [] [] [0,5,6] 0 ⟨[(0,.rp (c78 v1)),(5,q1 v11),(6,tI (w64 (v9 + (1:Int))))],[]⟩ rfl ?_ z0 trivial ?_
      ·kernel_rfl
      refine AOps.nil ?_
      cases h
      exact Or.inl ⟨_,rfl,rfl,rfl⟩
    ·replace h:=of_false h hb
     refine AWp.keepTo [5] 0 ⟨[(5,q1 v8)],[]⟩ ?_ z0 ?_
     ·kernel_rfl
     refine AWp.exit ?_
     cases h
     exact Or.inr ⟨_,rfl,by simp,rfl,rfl⟩
   ·intro e σ hp
    rcases y with v13 | v10
    ·obtain ⟨rfl,rfl⟩:=hp
     cases h
     exact ⟨.inr rfl,rfl⟩
    ·obtain ⟨rfl,rfl⟩:=hp
     refine AWp.seq ?_
     refine AWp.start [0,1] [] [] [2,5] 0 ⟨[(2,.al (.slot 5 0,[])),(5,q1 v10)],[]⟩ rfl ?_ z0 trivial ?_
     ·kernel_rfl
     refine AOps.nil ?_
     refine AWp.claim 2 (.slot 5 0) (k1 v10) rfl rfl rfl rfl ?_
     refine AWp.keepTo [2] 0 ⟨[(2,q1 v10)],[]⟩ ?_ z0 ?_
     ·kernel_rfl
     refine AWp.ret ?_
     cases h
     exact ⟨.inr rfl,rfl⟩
  ·replace h:=of_false h hb
   refine AWp.keepTo [0] 0 ⟨[(0,.rp (c78 v1))],[]⟩ ?_ z0 ?_
   ·kernel_rfl
   refine AWp.skip ?_
   refine AWp.seq ?_
   refine AWp.start [0] [1,2,3,4,5,6] [] [0,93] 0 ⟨[(0,.rp (c78 v1)),(93,.tv (.own 1 5 0 (newRowF [] 1)))],[]⟩ rfl ?_ z0 trivial ?_
   ·kernel_rfl
   refine AOps.extL 93 (cInt .u8) ([]:List Int) rfl rfl (row_at (cInt .u8) 1 (fun _=>rfl) ([]:List Int) _ rfl) ?_
   obtain ⟨hg,h⟩:=of_guard h
   refine AOps.go [1,2,3,4,5] [6] [(([]:List Int).length + v1.f6.length) * 1 ≤ 140737488355328,PlainTo (([]:List Int).length) (fun i=>(cInt .u8) (([]:List Int).getD i default)),PlainTo v1.f6.length (fun i=>(cInt .u8) (v1.f6.getD i default))] [98] 0 ⟨[(98,.tv (.own 1 5 (([]:List Int).length + v1.f6.length) (appF (([]:List Int).length) (fun i=>(cInt .u8) (([]:List Int).getD i default)) (fun i=>(cInt .u8) (v1.f6.getD i default)))))],[]⟩ ?_ z0 ⟨hg,(fun _ _=>rfl),(fun _ _=>rfl)⟩ ?_
   ·kernel_rfl
   refine AOps.extL 98 (cInt .u8) (([]:List Int) ++ v1.f6) rfl List.length_append.symm (app_at (cInt .u8) ([]:List Int) v1.f6) ?_
   refine AOps.go [6] [] [] [2] 0 ⟨[(2,q1 (([]:List Int) ++ v1.f6))],[]⟩ ?_ z0 trivial ?_
   ·kernel_rfl
   refine AOps.nil ?_
   refine AWp.ret ?_
   cases h
   exact ⟨.inr rfl,rfl⟩

noncomputable def f33 (v1:T78) (v2:T78):Option Bool :=
 (cond (v1.f0 == v2.f0) (cond (v1.f1 == v2.f1) (cond (v1.f4 == v2.f4) (cond (v1.f5 == v2.f5) ((f50 v1).bind fun v4=>(f50 v2).bind fun v5=>some ((v4.map (fun n=>UInt8.ofNat n.toNat)) == (v5.map (fun n=>UInt8.ofNat n.toNat)))) (some false)) (some false)) (some false)) (some false)).bind fun v3=>some v3

theorem f33_ok (v1:T78) (v2:T78) {r:Bool} (h:f33 v1 v2 = some r):ACall Try.prog 33 [.rp [.str v1.f0,.int .i64 v1.f1,fzL 1 (cSl 1 (cInt .u8)) v1.f2,.bool v1.f3,.int .i64 v1.f4,.bool v1.f5,fzL 1 (cInt .u8) v1.f6],.rp [.str v2.f0,.int .i64 v2.f1,fzL 1 (cSl 1 (cInt .u8)) v2.f2,.bool v2.f3,.int .i64 v2.f4,.bool v2.f5,fzL 1 (cInt .u8) v2.f6]] [] (.tv (.bool r)) []:=by
 refine ACall.of1 (FF 56 0) Try.func33 rfl Try.ntmps33 Try.results33 (zz rfl) rfl rfl ?_
 refine AWp.seq ?_
 refine AWp.start [0] [] [] [0,1] 0 ⟨[(0,.rp (c78 v1)),(1,.rp (c78 v2))],[]⟩ rfl ?_ z0 trivial ?_
 ·kernel_rfl
 refine AOps.nil ?_
 refine AWp.seq ?_
 obtain ⟨v3,hd,h⟩:=of_bind h
 refine AWp.draw FFm (fun σ=>σ = ⟨[(4,tB v3)],[]⟩) (n:=52) rfl (ls:=#[n1,n1,n1,n1,n1,n1,n1,n1,n1,n1,n1,n1,n1,n1,n1,n1,n1,n1,n1,n1,n1,n1,n1,n1,n1,n1,n1,n1,n1,n1,n1,n1,n1,n1,n1,n1,n1,n1,n1,n1,n1,n1,n1,n1,n1,n1,n1,n1,n1,n1,n1,n1]) rfl ?_ ?_
 ·refine AAny.go (by kernel_rfl) [0,1,2,3,4,5,6,7,8,9] (fuel':=42) rfl [] #[y1,y1,y1,y1,y1,y1,y1,y1,y1,y1,n1,n1,n1,n1,n1,n1,n1,n1,n1,n1,n1,n1,n1,n1,n1,n1,n1,n1,n1,n1,n1,n1,n1,n1,n1,n1,n1,n1,n1,n1,n1,n1,n1,n1,n1,n1,n1,n1,n1,n1,n1,n1] [0,1,14] 0 ⟨[(0,.rp (c78 v1)),(1,.rp (c78 v2)),(14,tB (v1.f0 == v2.f0))],[]⟩ ?_ z0 trivial ?_
  ·kernel_rfl
  refine AAny.split (fun b=>⟨[(0,.rp (c78 v1)),(1,.rp (c78 v2)),(14,tB b)],[]⟩) _ (fun hb=>?_) fun hb=>?_
  ·replace hd:=of_true hd hb
   refine AAny.go (by kernel_rfl) [10,11,12,13,14,15,16,17,18,19,20] (fuel':=31) rfl [] #[y1,y1,y1,y1,y1,y1,y1,y1,y1,y1,y1,y1,y1,y1,y1,y1,y1,y1,y1,y1,y1,n1,n1,n1,n1,n1,n1,n1,n1,n1,n1,n1,n1,n1,n1,n1,n1,n1,n1,n1,n1,n1,n1,n1,n1,n1,n1,n1,n1,n1,n1,n1] [0,1,25] 0 ⟨[(0,.rp (c78 v1)),(1,.rp (c78 v2)),(25,tB (v1.f1 == v2.f1))],[]⟩ ?_ z0 trivial ?_
   ·kernel_rfl
   refine AAny.split (fun b=>⟨[(0,.rp (c78 v1)),(1,.rp (c78 v2)),(25,tB b)],[]⟩) _ (fun hb=>?_) fun hb=>?_
   ·replace hd:=of_true hd hb
    refine AAny.go (by kernel_rfl) [21,22,23,24,25,26,27,28,29,30,31] (fuel':=20) rfl [] #[y1,y1,y1,y1,y1,y1,y1,y1,y1,y1,y1,y1,y1,y1,y1,y1,y1,y1,y1,y1,y1,y1,y1,y1,y1,y1,y1,y1,y1,y1,y1,y1,n1,n1,n1,n1,n1,n1,n1,n1,n1,n1,n1,n1,n1,n1,n1,n1,n1,n1,n1,n1] [0,1,36] 0 ⟨[(0,.rp (c78 v1)),(1,.rp (c78 v2)),(36,tB (v1.f4 == v2.f4))],[]⟩ ?_ z0 trivial ?_
    ·kernel_rfl
    refine AAny.split (fun b=>⟨[(0,.rp (c78 v1)),(1,.rp (c78 v2)),(36,tB b)],[]⟩) _ (fun hb=>?_) fun hb=>?_
    ·replace hd:=of_true hd hb
     refine AAny.go (by kernel_rfl) [32,33,34,35,36,37,38,39,40,41,42] (fuel':=9) rfl [] #[y1,y1,y1,y1,y1,y1,y1,y1,y1,y1,y1,y1,y1,y1,y1,y1,y1,y1,y1,y1,y1,y1,y1,y1,y1,y1,y1,y1,y1,y1,y1,y1,y1,y1,y1,y1,y1,y1,y1,y1,y1,y1,y1,n1,n1,n1,n1,n1,n1,n1,n1,n1] [0,1,47] 0 ⟨[(0,.rp (c78 v1)),(1,.rp (c78 v2)),(47,tB (v1.f5 == v2.f5))],[]⟩ ?_ z0 trivial ?_
     ·kernel_rfl
     refine AAny.split (fun b=>⟨[(0,.rp (c78 v1)),(1,.rp (c78 v2)),(47,tB b)],[]⟩) _ (fun hb=>?_) fun hb=>?_
     ·replace hd:=of_true hd hb
      refine AAny.go (by kernel_rfl) [43,46] (fuel':=7) rfl [] #[y1,y1,y1,y1,y1,y1,y1,y1,y1,y1,y1,y1,y1,y1,y1,y1,y1,y1,y1,y1,y1,y1,y1,y1,y1,y1,y1,y1,y1,y1,y1,y1,y1,y1,y1,y1,y1,y1,y1,y1,y1,y1,y1,y1,n1,n1,y1,n1,n1,n1,n1,n1] [47,48,51] 0 ⟨[(47,tB true),(48,.rp (c78 v1)),(51,.rp (c78 v2))],[]⟩ ?_ z0 trivial ?_
      ·kernel_rfl
      obtain ⟨v4,hv4,hd⟩:=of_bind hd
      refine AAny.serial (i:=44) (fuel:=6) (by kernel_rfl) (AOne.callP (F:=(FF 56 0)) _ rfl rfl rfl _ rfl rfl _ _ rfl Try.call50 [.rp (c78 v1)] rfl rfl (f50_ok v1 hv4) rfl) ?_
      refine AAny.keepTo [47,49,51] 0 ⟨[(47,tB true),(49,q1 v4),(51,.rp (c78 v2))],[]⟩ #[y1,y1,y1,y1,y1,y1,y1,y1,y1,y1,y1,y1,y1,y1,y1,y1,y1,y1,y1,y1,y1,y1,y1,y1,y1,y1,y1,y1,y1,y1,y1,y1,y1,y1,y1,y1,y1,y1,y1,y1,y1,y1,y1,y1,y1,n1,y1,n1,n1,n1,n1,n1] ?_ rfl z0 ?_
      ·kernel_rfl
      obtain ⟨v5,hv5,hd⟩:=of_bind hd
      refine AAny.share 0 #[y1,y1,y1,y1,y1,y1,y1,y1,y1,y1,y1,y1,y1,y1,y1,y1,y1,y1,y1,y1,y1,y1,y1,y1,y1,y1,y1,y1,y1,y1,y1,y1,y1,y1,y1,y1,y1,y1,y1,y1,y1,y1,y1,y1,y1,y1,y1,y1,y1,y1,y1,y1] ⟨[(4,tB ((v4.map (fun n=>UInt8.ofNat n.toNat)) == (v5.map (fun n=>UInt8.ofNat n.toNat))))],[]⟩ ?_ fun n5_=>?_
      ·refine AAny.keepTo [4] 0 ⟨[(4,tB ((v4.map (fun n=>UInt8.ofNat n.toNat)) == (v5.map (fun n=>UInt8.ofNat n.toNat))))],[]⟩ _ ?_ rfl z0 (AAny.done (by kernel_rfl) ?_)
       ·kernel_rfl
       cases hd
       exact rfl
      refine AAny.share 4 #[y1,y1,y1,y1,y1,y1,y1,y1,y1,y1,y1,y1,y1,y1,y1,y1,y1,y1,y1,y1,y1,y1,y1,y1,y1,y1,y1,y1,y1,y1,y1,y1,y1,y1,y1,y1,y1,y1,y1,y1,y1,y1,y1,y1,y1,n1,y1,y1,y1,n1,n1,n1] ⟨[(47,tB true),(49,q1 v4),(53,tS (v5.map (fun n=>UInt8.ofNat n.toNat)))],[]⟩ ?_ fun n4_=>?_
      ·refine AAny.each [45] (by kernel_rfl) rfl ?_
       refine AEach.one (i:=45) (AOne.str (F:=(FF 56 0)) _ rfl rfl rfl _ rfl rfl rfl rfl rfl (n:=v4.length) (f:=(fun i=>(cInt .u8) (v4.getD i default))) rfl v4 rfl (fun _ _=>rfl)) ?_ ?_
       ·refine AAny.keepTo [47,50,53] 0 ⟨[(47,tB true),(50,tS (v4.map (fun n=>UInt8.ofNat n.toNat))),(53,tS (v5.map (fun n=>UInt8.ofNat n.toNat)))],[]⟩ #[y1,y1,y1,y1,y1,y1,y1,y1,y1,y1,y1,y1,y1,y1,y1,y1,y1,y1,y1,y1,y1,y1,y1,y1,y1,y1,y1,y1,y1,y1,y1,y1,y1,y1,y1,y1,y1,y1,y1,y1,y1,y1,y1,y1,y1,y1,y1,y1,y1,n1,n1,n1] ?_ rfl z0 ?_
        ·kernel_rfl
        refine AAny.go (by kernel_rfl) [49,50,51] (fuel':=0) rfl [] #[y1,y1,y1,y1,y1,y1,y1,y1,y1,y1,y1,y1,y1,y1,y1,y1,y1,y1,y1,y1,y1,y1,y1,y1,y1,y1,y1,y1,y1,y1,y1,y1,y1,y1,y1,y1,y1,y1,y1,y1,y1,y1,y1,y1,y1,y1,y1,y1,y1,y1,y1,y1] [4] 0 ⟨[(4,tB ((v4.map (fun n=>UInt8.ofNat n.toNat)) == (v5.map (fun n=>UInt8.ofNat n.toNat))))],[]⟩ ?_ z0 trivial ?_
        ·kernel_rfl
        exact n5_
       exact AEach.nil
      refine AAny.share 4 #[y1,y1,y1,y1,y1,y1,y1,y1,y1,y1,y1,y1,y1,y1,y1,y1,y1,y1,y1,y1,y1,y1,y1,y1,y1,y1,y1,y1,y1,y1,y1,y1,y1,y1,y1,y1,y1,y1,y1,y1,y1,y1,y1,y1,y1,y1,y1,y1,n1,n1,n1,n1] ⟨[(47,tB true),(50,tS (v4.map (fun n=>UInt8.ofNat n.toNat))),(52,q1 v5)],[]⟩ ?_ fun n3_=>?_
      ·refine AAny.each [48] (by kernel_rfl) rfl ?_
       refine AEach.one (i:=48) (AOne.str (F:=(FF 56 0)) _ rfl rfl rfl _ rfl rfl rfl rfl rfl (n:=v5.length) (f:=(fun i=>(cInt .u8) (v5.getD i default))) rfl v5 rfl (fun _ _=>rfl)) ?_ ?_
       ·refine AAny.keepTo [47,50,53] 0 ⟨[(47,tB true),(50,tS (v4.map (fun n=>UInt8.ofNat n.toNat))),(53,tS (v5.map (fun n=>UInt8.ofNat n.toNat)))],[]⟩ #[y1,y1,y1,y1,y1,y1,y1,y1,y1,y1,y1,y1,y1,y1,y1,y1,y1,y1,y1,y1,y1,y1,y1,y1,y1,y1,y1,y1,y1,y1,y1,y1,y1,y1,y1,y1,y1,y1,y1,y1,y1,y1,y1,y1,y1,y1,y1,y1,y1,n1,n1,n1] ?_ rfl z0 ?_
        ·kernel_rfl
        refine AAny.go (by kernel_rfl) [49,50,51] (fuel':=0) rfl [] #[y1,y1,y1,y1,y1,y1,y1,y1,y1,y1,y1,y1,y1,y1,y1,y1,y1,y1,y1,y1,y1,y1,y1,y1,y1,y1,y1,y1,y1,y1,y1,y1,y1,y1,y1,y1,y1,y1,y1,y1,y1,y1,y1,y1,y1,y1,y1,y1,y1,y1,y1,y1] [4] 0 ⟨[(4,tB ((v4.map (fun n=>UInt8.ofNat n.toNat)) == (v5.map (fun n=>UInt8.ofNat n.toNat))))],[]⟩ ?_ z0 trivial ?_
        ·kernel_rfl
        exact n5_
       exact AEach.nil
      refine AAny.share 5 #[y1,y1,y1,y1,y1,y1,y1,y1,y1,y1,y1,y1,y1,y1,y1,y1,y1,y1,y1,y1,y1,y1,y1,y1,y1,y1,y1,y1,y1,y1,y1,y1,y1,y1,y1,y1,y1,y1,y1,y1,y1,y1,y1,y1,y1,n1,y1,y1,n1,n1,n1,n1] ⟨[(47,tB true),(49,q1 v4),(52,q1 v5)],[]⟩ ?_ fun n2_=>?_
      ·refine AAny.each [45,48] (by kernel_rfl) rfl ?_
       refine AEach.one (i:=45) (AOne.str (F:=(FF 56 0)) _ rfl rfl rfl _ rfl rfl rfl rfl rfl (n:=v4.length) (f:=(fun i=>(cInt .u8) (v4.getD i default))) rfl v4 rfl (fun _ _=>rfl)) ?_ ?_
       ·refine AAny.keepTo [47,50,52] 0 ⟨[(47,tB true),(50,tS (v4.map (fun n=>UInt8.ofNat n.toNat))),(52,q1 v5)],[]⟩ #[y1,y1,y1,y1,y1,y1,y1,y1,y1,y1,y1,y1,y1,y1,y1,y1,y1,y1,y1,y1,y1,y1,y1,y1,y1,y1,y1,y1,y1,y1,y1,y1,y1,y1,y1,y1,y1,y1,y1,y1,y1,y1,y1,y1,y1,y1,y1,y1,n1,n1,n1,n1] ?_ rfl z0 ?_
        ·kernel_rfl
        exact n3_
       refine AEach.one (i:=48) (AOne.str (F:=(FF 56 0)) _ rfl rfl rfl _ rfl rfl rfl rfl rfl (n:=v5.length) (f:=(fun i=>(cInt .u8) (v5.getD i default))) rfl v5 rfl (fun _ _=>rfl)) ?_ ?_
       ·refine AAny.keepTo [47,49,53] 0 ⟨[(47,tB true),(49,q1 v4),(53,tS (v5.map (fun n=>UInt8.ofNat n.toNat)))],[]⟩ #[y1,y1,y1,y1,y1,y1,y1,y1,y1,y1,y1,y1,y1,y1,y1,y1,y1,y1,y1,y1,y1,y1,y1,y1,y1,y1,y1,y1,y1,y1,y1,y1,y1,y1,y1,y1,y1,y1,y1,y1,y1,y1,y1,y1,y1,n1,y1,y1,y1,n1,n1,n1] ?_ rfl z0 ?_
        ·kernel_rfl
        exact n4_
       exact AEach.nil
      refine AAny.share 5 #[y1,y1,y1,y1,y1,y1,y1,y1,y1,y1,y1,y1,y1,y1,y1,y1,y1,y1,y1,y1,y1,y1,y1,y1,y1,y1,y1,y1,y1,y1,y1,y1,y1,y1,y1,y1,y1,y1,y1,y1,y1,y1,y1,y1,y1,y1,y1,n1,n1,n1,n1,n1] ⟨[(47,tB true),(50,tS (v4.map (fun n=>UInt8.ofNat n.toNat))),(51,.rp (c78 v2))],[]⟩ ?_ fun n1_=>?_
      ·refine AAny.each [47] (by kernel_rfl) rfl ?_
       refine AEach.one (i:=47) (AOne.callP (F:=(FF 56 0)) _ rfl rfl rfl _ rfl rfl _ _ rfl Try.call50 [.rp (c78 v2)] rfl rfl (f50_ok v2 hv5) rfl) ?_ ?_
       ·refine AAny.keepTo [47,50,52] 0 ⟨[(47,tB true),(50,tS (v4.map (fun n=>UInt8.ofNat n.toNat))),(52,q1 v5)],[]⟩ #[y1,y1,y1,y1,y1,y1,y1,y1,y1,y1,y1,y1,y1,y1,y1,y1,y1,y1,y1,y1,y1,y1,y1,y1,y1,y1,y1,y1,y1,y1,y1,y1,y1,y1,y1,y1,y1,y1,y1,y1,y1,y1,y1,y1,y1,y1,y1,y1,n1,n1,n1,n1] ?_ rfl z0 ?_
        ·kernel_rfl
        exact n3_
       exact AEach.nil
      refine AAny.each [45,47] (by kernel_rfl) rfl ?_
      refine AEach.one (i:=45) (AOne.str (F:=(FF 56 0)) _ rfl rfl rfl _ rfl rfl rfl rfl rfl (n:=v4.length) (f:=(fun i=>(cInt .u8) (v4.getD i default))) rfl v4 rfl (fun _ _=>rfl)) ?_ ?_
      ·refine AAny.keepTo [47,50,51] 0 ⟨[(47,tB true),(50,tS (v4.map (fun n=>UInt8.ofNat n.toNat))),(51,.rp (c78 v2))],[]⟩ #[y1,y1,y1,y1,y1,y1,y1,y1,y1,y1,y1,y1,y1,y1,y1,y1,y1,y1,y1,y1,y1,y1,y1,y1,y1,y1,y1,y1,y1,y1,y1,y1,y1,y1,y1,y1,y1,y1,y1,y1,y1,y1,y1,y1,y1,y1,y1,n1,n1,n1,n1,n1] ?_ rfl z0 ?_
       ·kernel_rfl
       exact n1_
      refine AEach.one (i:=47) (AOne.callP (F:=(FF 56 0)) _ rfl rfl rfl _ rfl rfl _ _ rfl Try.call50 [.rp (c78 v2)] rfl rfl (f50_ok v2 hv5) rfl) ?_ ?_
      ·refine AAny.keepTo [47,49,52] 0 ⟨[(47,tB true),(49,q1 v4),(52,q1 v5)],[]⟩ #[y1,y1,y1,y1,y1,y1,y1,y1,y1,y1,y1,y1,y1,y1,y1,y1,y1,y1,y1,y1,y1,y1,y1,y1,y1,y1,y1,y1,y1,y1,y1,y1,y1,y1,y1,y1,y1,y1,y1,y1,y1,y1,y1,y1,y1,n1,y1,y1,n1,n1,n1,n1] ?_ rfl z0 ?_
       ·kernel_rfl
       exact n2_
      exact AEach.nil
     ·replace hd:=of_false hd hb
      refine AAny.go (by kernel_rfl) [43,44,45,46,47,48,49,50,51] (fuel':=0) rfl [] #[y1,y1,y1,y1,y1,y1,y1,y1,y1,y1,y1,y1,y1,y1,y1,y1,y1,y1,y1,y1,y1,y1,y1,y1,y1,y1,y1,y1,y1,y1,y1,y1,y1,y1,y1,y1,y1,y1,y1,y1,y1,y1,y1,y1,y1,y1,y1,y1,y1,y1,y1,y1] [4] 0 ⟨[(4,tB false)],[]⟩ ?_ z0 trivial ?_
      ·kernel_rfl
      refine AAny.keepTo [4] 0 ⟨[(4,tB false)],[]⟩ _ ?_ rfl z0 (AAny.done (by kernel_rfl) ?_)
      ·kernel_rfl
      cases hd
      exact rfl
    ·replace hd:=of_false hd hb
     refine AAny.go (by kernel_rfl) [32,33,34,35,36,37,38,39,40,41,42,43,44,45,46,47,48,49,50,51] (fuel':=0) rfl [] #[y1,y1,y1,y1,y1,y1,y1,y1,y1,y1,y1,y1,y1,y1,y1,y1,y1,y1,y1,y1,y1,y1,y1,y1,y1,y1,y1,y1,y1,y1,y1,y1,y1,y1,y1,y1,y1,y1,y1,y1,y1,y1,y1,y1,y1,y1,y1,y1,y1,y1,y1,y1] [4] 0 ⟨[(4,tB false)],[]⟩ ?_ z0 trivial ?_
     ·kernel_rfl
     refine AAny.keepTo [4] 0 ⟨[(4,tB false)],[]⟩ _ ?_ rfl z0 (AAny.done (by kernel_rfl) ?_)
     ·kernel_rfl
     cases hd
     exact rfl
   ·replace hd:=of_false hd hb
    refine AAny.go (by kernel_rfl) [21,22,23,24,25,26,27,28,29,30,31,32,33,34,35,36,37,38,39,40,41,42,43,44,45,46,47,48,49,50,51] (fuel':=0) rfl [] #[y1,y1,y1,y1,y1,y1,y1,y1,y1,y1,y1,y1,y1,y1,y1,y1,y1,y1,y1,y1,y1,y1,y1,y1,y1,y1,y1,y1,y1,y1,y1,y1,y1,y1,y1,y1,y1,y1,y1,y1,y1,y1,y1,y1,y1,y1,y1,y1,y1,y1,y1,y1] [4] 0 ⟨[(4,tB false)],[]⟩ ?_ z0 trivial ?_
    ·kernel_rfl
    refine AAny.keepTo [4] 0 ⟨[(4,tB false)],[]⟩ _ ?_ rfl z0 (AAny.done (by kernel_rfl) ?_)
    ·kernel_rfl
    cases hd
    exact rfl
  ·replace hd:=of_false hd hb
   refine AAny.go (by kernel_rfl) [10,11,12,13,14,15,16,17,18,19,20,21,22,23,24,25,26,27,28,29,30,31,32,33,34,35,36,37,38,39,40,41,42,43,44,45,46,47,48,49,50,51] (fuel':=0) rfl [] #[y1,y1,y1,y1,y1,y1,y1,y1,y1,y1,y1,y1,y1,y1,y1,y1,y1,y1,y1,y1,y1,y1,y1,y1,y1,y1,y1,y1,y1,y1,y1,y1,y1,y1,y1,y1,y1,y1,y1,y1,y1,y1,y1,y1,y1,y1,y1,y1,y1,y1,y1,y1] [4] 0 ⟨[(4,tB false)],[]⟩ ?_ z0 trivial ?_
   ·kernel_rfl
   refine AAny.keepTo [4] 0 ⟨[(4,tB false)],[]⟩ _ ?_ rfl z0 (AAny.done (by kernel_rfl) ?_)
   ·kernel_rfl
   cases hd
   exact rfl
 rintro σ' rfl
 refine AWp.ret ?_
 cases h
 exact ⟨.inr rfl,rfl⟩

noncomputable def f18 (v1:T64):Option (Int × Int) :=
 (f41 v1).bind fun v2=>cond v2 (some ((0:Int),(7:Int))) (cond (v1.f0 == ([100,105,114,101,99,116]:List UInt8)) (if v1.f1 ≠ (0:Int) then some (w64 (Int.tdiv (v1.f2.length:Int) v1.f1),(0:Int)) else none) (cond (v1.f0 == ([115,116,114,101,97,109]:List UInt8)) (some ((v1.f2.length:Int),(0:Int))) ((f35 v1.f0 v1.f2).bind fun v3=>some ((v3.1.length:Int),(0:Int)))))

theorem f18_ok (v1:T64) {r:Int × Int} (h:f18 v1 = some r):ACall Try.prog 18 [.rp [.str v1.f0,.int .i64 v1.f1,fzL 1 (cInt .u8) v1.f2,.int .i64 v1.f3,.bool v1.f4]] [] (.tup [.tv (.int .i64 r.1),.tv (.int .i64 r.2)]) []:=by
 refine ACall.ofN (FF 50 0) (rs:=[2,3]) (env:=[(2,tI r.1),(3,tI r.2)]) Try.func18 rfl Try.ntmps18 Try.results18 (by decide) (by decide) rfl (zz rfl) rfl (get_ofN _ _ _ rfl) (ok_ofN _ rfl) ?_
 refine AWp.seq ?_
 refine AWp.start [0,1] [] [] [0] 0 ⟨[(0,.rp (c64 v1))],[]⟩ rfl ?_ z0 trivial ?_
 ·kernel_rfl
 refine AOps.nil ?_
 refine AWp.seq ?_
 refine AWp.block ?_
 refine AWp.seq ?_
 refine AWp.start [0] [1,2] [] [0,7] 0 ⟨[(0,.rp (c64 v1)),(7,.rp (c64 v1))],[]⟩ rfl ?_ z0 trivial ?_
 ·kernel_rfl
 obtain ⟨v2,hv2,h⟩:=of_bind h
 refine AOps.cons (AOne.callP (F:=(FF 50 0)) _ rfl rfl rfl _ rfl rfl _ _ rfl Try.call41 [.rp (c64 v1)] rfl rfl (f41_ok v1 hv2) rfl) ?_
 refine AOps.go [2] [] [] [0,6] 0 ⟨[(0,.rp (c64 v1)),(6,tB v2)],[]⟩ ?_ z0 trivial ?_
 ·kernel_rfl
 refine AOps.nil ?_
 refine AWp.cond rfl (fun hb=>?_) fun hb=>?_
 ·replace h:=of_true h hb
  refine AWp.keepTo [] 0 ⟨[],[]⟩ ?_ z0 ?_
  ·kernel_rfl
  refine AWp.seq ?_
  refine AWp.start [0,1] [] [] [2,3] 0 ⟨[(2,tI (0:Int)),(3,tI (7:Int))],[]⟩ rfl ?_ z0 trivial ?_
  ·kernel_rfl
  refine AOps.nil ?_
  refine AWp.ret ?_
  cases h
  exact ⟨.inr rfl,rfl⟩
 ·replace h:=of_false h hb
  refine AWp.keepTo [0] 0 ⟨[(0,.rp (c64 v1))],[]⟩ ?_ z0 ?_
  ·kernel_rfl
  refine AWp.seq ?_
  refine AWp.start [0,1,2,3,4,5] [] [] [0,9] 0 ⟨[(0,.rp (c64 v1)),(9,tB (v1.f0 == ([100,105,114,101,99,116]:List UInt8)))],[]⟩ rfl ?_ z0 trivial ?_
  ·kernel_rfl
  refine AOps.nil ?_
  refine AWp.cond rfl (fun hb=>?_) fun hb=>?_
  ·replace h:=of_true h hb
   refine AWp.keepTo [0] 0 ⟨[(0,.rp (c64 v1))],[]⟩ ?_ z0 ?_
   ·kernel_rfl
   refine AWp.seq ?_
   refine AWp.draw FFm _ (n:=12) rfl (ls:=#[n1,n1,n1,n1,n1,n1,n1,n1,n1,n1,n1,n1]) rfl ?_ (fun _ h=>h)
   obtain ⟨hg,h⟩:=of_guard h
   refine AAny.go (by kernel_rfl) [0,1,2,3,4,5,6,7,8,9,10,11] (fuel':=0) rfl [v1.f1 ≠ (0:Int)] #[y1,y1,y1,y1,y1,y1,y1,y1,y1,y1,y1,y1] [2,3] 0 ⟨[(2,tI (w64 (Int.tdiv (v1.f2.length:Int) v1.f1))),(3,tI (0:Int))],[]⟩ ?_ z0 hg ?_
   ·kernel_rfl
   refine AAny.keepTo [2,3] 0 ⟨[(2,tI (w64 (Int.tdiv (v1.f2.length:Int) v1.f1))),(3,tI (0:Int))],[]⟩ _ ?_ rfl z0 (AAny.done (by kernel_rfl) ?_)
   ·kernel_rfl
   refine AWp.ret ?_
   cases h
   exact ⟨.inr rfl,rfl⟩
  ·replace h:=of_false h hb
   refine AWp.keepTo [0] 0 ⟨[(0,.rp (c64 v1))],[]⟩ ?_ z0 ?_
   ·kernel_rfl
   refine AWp.seq ?_
   refine AWp.start [0,1,2,3,4,5] [] [] [0,25] 0 ⟨[(0,.rp (c64 v1)),(25,tB (v1.f0 == ([115,116,114,101,97,109]:List UInt8)))],[]⟩ rfl ?_ z0 trivial ?_
   ·kernel_rfl
   refine AOps.nil ?_
   refine AWp.cond rfl (fun hb=>?_) fun hb=>?_
   ·replace h:=of_true h hb
    refine AWp.keepTo [0] 0 ⟨[(0,.rp (c64 v1))],[]⟩ ?_ z0 ?_
    ·kernel_rfl
    refine AWp.seq ?_
    refine AWp.start [0,1,2,3,4,5,6] [] [] [2,3] 0 ⟨[(2,tI (v1.f2.length:Int)),(3,tI (0:Int))],[]⟩ rfl ?_ z0 trivial ?_
    ·kernel_rfl
    refine AOps.nil ?_
    refine AWp.ret ?_
    cases h
    exact ⟨.inr rfl,rfl⟩
   ·replace h:=of_false h hb
    refine AWp.keepTo [0] 0 ⟨[(0,.rp (c64 v1))],[]⟩ ?_ z0 ?_
    ·kernel_rfl
    refine AWp.skip ?_
    refine AWp.seq ?_
    refine AWp.draw FFm _ (n:=14) rfl (ls:=#[n1,n1,n1,n1,n1,n1,n1,n1,n1,n1,n1,n1,n1,n1]) rfl ?_ (fun _ h=>h)
    refine AAny.go (by kernel_rfl) [0,1,2,3,4,5,6,7] (fuel':=6) rfl [] #[y1,y1,y1,y1,y1,y1,y1,y1,n1,n1,n1,n1,n1,n1] [40,44] 0 ⟨[(40,tS v1.f0),(44,q0 v1.f2)],[]⟩ ?_ z0 trivial ?_
    ·kernel_rfl
    obtain ⟨v3,hv3,h⟩:=of_bind h
    refine AAny.serial (i:=8) (fuel:=5) (by kernel_rfl) (AOne.callP (F:=(FF 50 0)) _ rfl rfl rfl _ rfl rfl _ _ rfl Try.call35 [tS v1.f0,q0 v1.f2] rfl rfl (f35_ok v1.f0 v1.f2 hv3) rfl) ?_
    refine AAny.keepTo [45] 0 ⟨[(45,.tup [.tv (fzL 1 (cInt .i64) v3.1),tB v3.2])],[]⟩ #[y1,y1,y1,y1,y1,y1,y1,y1,y1,n1,n1,n1,n1,n1] ?_ rfl z0 ?_
    ·kernel_rfl
    refine AAny.go (by kernel_rfl) [9,10,11,12,13] (fuel':=0) rfl [] #[y1,y1,y1,y1,y1,y1,y1,y1,y1,y1,y1,y1,y1,y1] [4] 0 ⟨[(4,.tv (fzL 1 (cInt .i64) v3.1))],[]⟩ ?_ z0 trivial ?_
    ·kernel_rfl
    refine AAny.keepTo [4] 0 ⟨[(4,.tv (fzL 1 (cInt .i64) v3.1))],[]⟩ _ ?_ rfl z0 (AAny.done (by kernel_rfl) ?_)
    ·kernel_rfl
    refine AWp.seq ?_
    refine AWp.start [0,1,2,3] [] [] [2,3] 0 ⟨[(2,tI (v3.1.length:Int)),(3,tI (0:Int))],[]⟩ rfl ?_ z0 trivial ?_
    ·kernel_rfl
    refine AOps.nil ?_
    refine AWp.ret ?_
    cases h
    exact ⟨.inr rfl,rfl⟩

noncomputable def f19 (v1:T64):Option Int :=
 (f41 v1).bind fun v2=>(cond v2 (some true) (some (v1.f0 == ([100,105,114,101,99,116]:List UInt8)))).bind fun v3=>cond v3 (some (0:Int)) (cond (v1.f0 == ([115,116,114,101,97,109]:List UInt8)) (some (w64 (v1.f3 + (1:Int)))) (if (0:Int) ≤ v1.f3 ∧ v1.f3 ≤ (v1.f2.length:Int) then (f35 v1.f0 ((v1.f2.take (Int.toNat v1.f3)).drop 0)).bind fun v4=>some (v4.1.length:Int) else none))

theorem f19_ok (v1:T64) {r:Int} (h:f19 v1 = some r):ACall Try.prog 19 [.rp [.str v1.f0,.int .i64 v1.f1,fzL 1 (cInt .u8) v1.f2,.int .i64 v1.f3,.bool v1.f4]] [] (.tv (.int .i64 r)) []:=by
 refine ACall.of1 (FF 45 0) Try.func19 rfl Try.ntmps19 Try.results19 (zz rfl) rfl rfl ?_
 refine AWp.seq ?_
 refine AWp.start [0] [] [] [0] 0 ⟨[(0,.rp (c64 v1))],[]⟩ rfl ?_ z0 trivial ?_
 ·kernel_rfl
 refine AOps.nil ?_
 refine AWp.seq ?_
 refine AWp.block ?_
 refine AWp.seq ?_
 refine AWp.start [0] [1,2,3,4,5,6,7,8,9] [] [0,6] 0 ⟨[(0,.rp (c64 v1)),(6,.rp (c64 v1))],[]⟩ rfl ?_ z0 trivial ?_
 ·kernel_rfl
 obtain ⟨v2,hv2,h⟩:=of_bind h
 refine AOps.cons (AOne.callP (F:=(FF 45 0)) _ rfl rfl rfl _ rfl rfl _ _ rfl Try.call41 [.rp (c64 v1)] rfl rfl (f41_ok v1 hv2) rfl) ?_
 refine AOps.go [2] [3,4,5,6,7,8,9] [] [0,8] 0 ⟨[(0,.rp (c64 v1)),(8,tB v2)],[]⟩ ?_ z0 trivial ?_
 ·kernel_rfl
 obtain ⟨v3,hc3,h⟩:=of_bind h
 refine AOps.cut [3,4,5,6,7,8] [9] (fun σ=>σ = ⟨[(0,.rp (c64 v1)),(14,tB v3)],[]⟩) ?_ fun σ' hJ=>?_
 ·refine AOps.split (fun b=>⟨[(0,.rp (c64 v1)),(8,tB b)],[]⟩) _ (fun hb=>?_) fun hb=>?_
  ·replace hc3:=of_true hc3 hb
   refine AOps.go [3,4,5,6,7,8] [] [] [0,14] 0 ⟨[(0,.rp (c64 v1)),(14,tB true)],[]⟩ ?_ z0 trivial ?_
   ·kernel_rfl
   cases hc3
   exact AOps.nil rfl
  ·replace hc3:=of_false hc3 hb
   refine AOps.go [3,4,5,6,7,8] [] [] [0,14] 0 ⟨[(0,.rp (c64 v1)),(14,tB (v1.f0 == ([100,105,114,101,99,116]:List UInt8)))],[]⟩ ?_ z0 trivial ?_
   ·kernel_rfl
   cases hc3
   exact AOps.nil rfl
 subst hJ
 refine AOps.go [9] [] [] [0,5] 0 ⟨[(0,.rp (c64 v1)),(5,tB v3)],[]⟩ ?_ z0 trivial ?_
 ·kernel_rfl
 refine AOps.nil ?_
 refine AWp.cond rfl (fun hb=>?_) fun hb=>?_
 ·replace h:=of_true h hb
  refine AWp.keepTo [] 0 ⟨[],[]⟩ ?_ z0 ?_
  ·kernel_rfl
  refine AWp.seq ?_
  refine AWp.start [0] [] [] [2] 0 ⟨[(2,tI (0:Int))],[]⟩ rfl ?_ z0 trivial ?_
  ·kernel_rfl
  refine AOps.nil ?_
  refine AWp.ret ?_
  cases h
  exact ⟨.inr rfl,rfl⟩
 ·replace h:=of_false h hb
  refine AWp.keepTo [0] 0 ⟨[(0,.rp (c64 v1))],[]⟩ ?_ z0 ?_
  ·kernel_rfl
  refine AWp.seq ?_
  refine AWp.start [0,1,2,3,4,5] [] [] [0,15] 0 ⟨[(0,.rp (c64 v1)),(15,tB (v1.f0 == ([115,116,114,101,97,109]:List UInt8)))],[]⟩ rfl ?_ z0 trivial ?_
  ·kernel_rfl
  refine AOps.nil ?_
  refine AWp.cond rfl (fun hb=>?_) fun hb=>?_
  ·replace h:=of_true h hb
   refine AWp.keepTo [0] 0 ⟨[(0,.rp (c64 v1))],[]⟩ ?_ z0 ?_
   ·kernel_rfl
   refine AWp.seq ?_
   refine AWp.start [0,1,2,3,4,5] [] [] [2] 0 ⟨[(2,tI (w64 (v1.f3 + (1:Int))))],[]⟩ rfl ?_ z0 trivial ?_
   ·kernel_rfl
   refine AOps.nil ?_
   refine AWp.ret ?_
   cases h
   exact ⟨.inr rfl,rfl⟩
  ·replace h:=of_false h hb
   refine AWp.keepTo [0] 0 ⟨[(0,.rp (c64 v1))],[]⟩ ?_ z0 ?_
   ·kernel_rfl
   refine AWp.skip ?_
   refine AWp.seq ?_
   refine AWp.draw FFm _ (n:=19) rfl (ls:=#[n1,n1,n1,n1,n1,n1,n1,n1,n1,n1,n1,n1,n1,n1,n1,n1,n1,n1,n1]) rfl ?_ (fun _ h=>h)
   obtain ⟨hg,h⟩:=of_guard h
   refine AAny.go (by kernel_rfl) [0,1,2,3,4,5,6,7,8,9,10,11,12] (fuel':=6) rfl [(0:Int) ≤ (0:Int),(0:Int) ≤ v1.f3,v1.f3 ≤ (v1.f2.length:Int)] #[y1,y1,y1,y1,y1,y1,y1,y1,y1,y1,y1,y1,y1,n1,n1,n1,n1,n1,n1] [30,39] 0 ⟨[(30,tS v1.f0),(39,.tv (.fz 1 ((Int.toNat v1.f3) - 0) (fun i=>(cInt .u8) (v1.f2.getD (0 + i) default))))],[]⟩ ?_ z0 ⟨(by decide:(0:Int) ≤ (0:Int)),hg.1,hg.2⟩ ?_
   ·kernel_rfl
   have hb:(Int.toNat v1.f3) ≤ v1.f2.length:=by have hh:v1.f3 ≤ (v1.f2.length:Int):=hg.2; omega
   refine AAny.extFzL (s:=39) rfl (sub_len v1.f2 0 (Int.toNat v1.f3) hb) (sub_at (cInt .u8) v1.f2 0 (Int.toNat v1.f3) hb) ?_
   obtain ⟨v4,hv4,h⟩:=of_bind h
   refine AAny.serial (i:=13) (fuel:=5) (by kernel_rfl) (AOne.callP (F:=(FF 45 0)) _ rfl rfl rfl _ rfl rfl _ _ rfl Try.call35 [tS v1.f0,q0 ((v1.f2.take (Int.toNat v1.f3)).drop 0)] rfl rfl (f35_ok v1.f0 ((v1.f2.take (Int.toNat v1.f3)).drop 0) hv4) rfl) ?_
   refine AAny.keepTo [40] 0 ⟨[(40,.tup [.tv (fzL 1 (cInt .i64) v4.1),tB v4.2])],[]⟩ #[y1,y1,y1,y1,y1,y1,y1,y1,y1,y1,y1,y1,y1,y1,n1,n1,n1,n1,n1] ?_ rfl z0 ?_
   ·kernel_rfl
   refine AAny.go (by kernel_rfl) [14,15,16,17,18] (fuel':=0) rfl [] #[y1,y1,y1,y1,y1,y1,y1,y1,y1,y1,y1,y1,y1,y1,y1,y1,y1,y1,y1] [3] 0 ⟨[(3,.tv (fzL 1 (cInt .i64) v4.1))],[]⟩ ?_ z0 trivial ?_
   ·kernel_rfl
   refine AAny.keepTo [3] 0 ⟨[(3,.tv (fzL 1 (cInt .i64) v4.1))],[]⟩ _ ?_ rfl z0 (AAny.done (by kernel_rfl) ?_)
   ·kernel_rfl
   refine AWp.seq ?_
   refine AWp.start [0,1,2] [] [] [2] 0 ⟨[(2,tI (v4.1.length:Int))],[]⟩ rfl ?_ z0 trivial ?_
   ·kernel_rfl
   refine AOps.nil ?_
   refine AWp.ret ?_
   cases h
   exact ⟨.inr rfl,rfl⟩

noncomputable def f48 (v1:T78):Option Int :=
 cond (v1.f0 == ([100,105,114,101,99,116]:List UInt8)) (some (0:Int)) (cond v1.f5 (some (v1.f2.length:Int)) (some v1.f4))

theorem f48_ok (v1:T78) {r:Int} (h:f48 v1 = some r):ACall Try.prog 48 [.rp [.str v1.f0,.int .i64 v1.f1,fzL 1 (cSl 1 (cInt .u8)) v1.f2,.bool v1.f3,.int .i64 v1.f4,.bool v1.f5,fzL 1 (cInt .u8) v1.f6]] [] (.tv (.int .i64 r)) []:=by
 refine ACall.of1 (FF 23 0) Try.func48 rfl Try.ntmps48 Try.results48 (zz rfl) rfl rfl ?_
 refine AWp.seq ?_
 refine AWp.start [0] [] [] [0] 0 ⟨[(0,.rp (c78 v1))],[]⟩ rfl ?_ z0 trivial ?_
 ·kernel_rfl
 refine AOps.nil ?_
 refine AWp.seq ?_
 refine AWp.block ?_
 refine AWp.seq ?_
 refine AWp.start [0,1,2,3,4,5] [] [] [0,3] 0 ⟨[(0,.rp (c78 v1)),(3,tB (v1.f0 == ([100,105,114,101,99,116]:List UInt8)))],[]⟩ rfl ?_ z0 trivial ?_
 ·kernel_rfl
 refine AOps.nil ?_
 refine AWp.cond rfl (fun hb=>?_) fun hb=>?_
 ·replace h:=of_true h hb
  refine AWp.keepTo [] 0 ⟨[],[]⟩ ?_ z0 ?_
  ·kernel_rfl
  refine AWp.seq ?_
  refine AWp.start [0] [] [] [2] 0 ⟨[(2,tI (0:Int))],[]⟩ rfl ?_ z0 trivial ?_
  ·kernel_rfl
  refine AOps.nil ?_
  refine AWp.ret ?_
  cases h
  exact ⟨.inr rfl,rfl⟩
 ·replace h:=of_false h hb
  refine AWp.keepTo [0] 0 ⟨[(0,.rp (c78 v1))],[]⟩ ?_ z0 ?_
  ·kernel_rfl
  refine AWp.seq ?_
  refine AWp.start [0,1,2,3,4] [] [] [0,9] 0 ⟨[(0,.rp (c78 v1)),(9,tB v1.f5)],[]⟩ rfl ?_ z0 trivial ?_
  ·kernel_rfl
  refine AOps.nil ?_
  refine AWp.cond rfl (fun hb=>?_) fun hb=>?_
  ·replace h:=of_true h hb
   refine AWp.keepTo [0] 0 ⟨[(0,.rp (c78 v1))],[]⟩ ?_ z0 ?_
   ·kernel_rfl
   refine AWp.seq ?_
   refine AWp.start [0,1,2,3,4,5] [] [] [2] 0 ⟨[(2,tI (v1.f2.length:Int))],[]⟩ rfl ?_ z0 trivial ?_
   ·kernel_rfl
   refine AOps.nil ?_
   refine AWp.ret ?_
   cases h
   exact ⟨.inr rfl,rfl⟩
  ·replace h:=of_false h hb
   refine AWp.keepTo [0] 0 ⟨[(0,.rp (c78 v1))],[]⟩ ?_ z0 ?_
   ·kernel_rfl
   refine AWp.skip ?_
   refine AWp.seq ?_
   refine AWp.start [0,1,2,3,4] [] [] [2] 0 ⟨[(2,tI v1.f4)],[]⟩ rfl ?_ z0 trivial ?_
   ·kernel_rfl
   refine AOps.nil ?_
   refine AWp.ret ?_
   cases h
   exact ⟨.inr rfl,rfl⟩

noncomputable def f49 (v1:T78):Option Int :=
 cond (v1.f0 == ([100,105,114,101,99,116]:List UInt8)) (if v1.f1 ≠ (0:Int) then some (w64 (Int.tdiv (v1.f6.length:Int) v1.f1)) else none) (cond (v1.f0 == ([115,116,114,101,97,109]:List UInt8)) (some (v1.f6.length:Int)) (some (v1.f2.length:Int)))

theorem f49_ok (v1:T78) {r:Int} (h:f49 v1 = some r):ACall Try.prog 49 [.rp [.str v1.f0,.int .i64 v1.f1,fzL 1 (cSl 1 (cInt .u8)) v1.f2,.bool v1.f3,.int .i64 v1.f4,.bool v1.f5,fzL 1 (cInt .u8) v1.f6]] [] (.tv (.int .i64 r)) []:=by
 refine ACall.of1 (FF 31 0) Try.func49 rfl Try.ntmps49 Try.results49 (zz rfl) rfl rfl ?_
 refine AWp.seq ?_
 refine AWp.start [0] [] [] [0] 0 ⟨[(0,.rp (c78 v1))],[]⟩ rfl ?_ z0 trivial ?_
 ·kernel_rfl
 refine AOps.nil ?_
 refine AWp.seq ?_
 refine AWp.seq ?_
 refine AWp.start [0,1,2,3] [] [] [0,6] 0 ⟨[(0,.rp (c78 v1)),(6,tS v1.f0)],[]⟩ rfl ?_ z0 trivial ?_
 ·kernel_rfl
 refine AOps.nil ?_
 refine AWp.block ?_
 refine AWp.seq ?_
 refine AWp.start [0,1] [] [] [0,6,7] 0 ⟨[(0,.rp (c78 v1)),(6,tS v1.f0),(7,tB (v1.f0 == ([100,105,114,101,99,116]:List UInt8)))],[]⟩ rfl ?_ z0 trivial ?_
 ·kernel_rfl
 refine AOps.nil ?_
 refine AWp.cond rfl (fun hb=>?_) fun hb=>?_
 ·replace h:=of_true h hb
  refine AWp.keepTo [0] 0 ⟨[(0,.rp (c78 v1))],[]⟩ ?_ z0 ?_
  ·kernel_rfl
  refine AWp.seq ?_
  refine AWp.draw FFm _ (n:=11) rfl (ls:=#[n1,n1,n1,n1,n1,n1,n1,n1,n1,n1,n1]) rfl ?_ (fun _ h=>h)
  obtain ⟨hg,h⟩:=of_guard h
  refine AAny.go (by kernel_rfl) [0,1,2,3,4,5,6,7,8,9,10] (fuel':=0) rfl [v1.f1 ≠ (0:Int)] #[y1,y1,y1,y1,y1,y1,y1,y1,y1,y1,y1] [2] 0 ⟨[(2,tI (w64 (Int.tdiv (v1.f6.length:Int) v1.f1)))],[]⟩ ?_ z0 hg ?_
  ·kernel_rfl
  refine AAny.keepTo [2] 0 ⟨[(2,tI (w64 (Int.tdiv (v1.f6.length:Int) v1.f1)))],[]⟩ _ ?_ rfl z0 (AAny.done (by kernel_rfl) ?_)
  ·kernel_rfl
  refine AWp.ret ?_
  cases h
  exact ⟨.inr rfl,rfl⟩
 ·replace h:=of_false h hb
  refine AWp.keepTo [0,6] 0 ⟨[(0,.rp (c78 v1)),(6,tS v1.f0)],[]⟩ ?_ z0 ?_
  ·kernel_rfl
  refine AWp.seq ?_
  refine AWp.start [0,1] [] [] [0,19] 0 ⟨[(0,.rp (c78 v1)),(19,tB (v1.f0 == ([115,116,114,101,97,109]:List UInt8)))],[]⟩ rfl ?_ z0 trivial ?_
  ·kernel_rfl
  refine AOps.nil ?_
  refine AWp.cond rfl (fun hb=>?_) fun hb=>?_
  ·replace h:=of_true h hb
   refine AWp.keepTo [0] 0 ⟨[(0,.rp (c78 v1))],[]⟩ ?_ z0 ?_
   ·kernel_rfl
   refine AWp.seq ?_
   refine AWp.start [0,1,2,3,4,5] [] [] [2] 0 ⟨[(2,tI (v1.f6.length:Int))],[]⟩ rfl ?_ z0 trivial ?_
   ·kernel_rfl
   refine AOps.nil ?_
   refine AWp.ret ?_
   cases h
   exact ⟨.inr rfl,rfl⟩
  ·replace h:=of_false h hb
   refine AWp.keepTo [0] 0 ⟨[(0,.rp (c78 v1))],[]⟩ ?_ z0 ?_
   ·kernel_rfl
   refine AWp.skip ?_
   refine AWp.seq ?_
   refine AWp.start [0,1,2,3,4,5] [] [] [2] 0 ⟨[(2,tI (v1.f2.length:Int))],[]⟩ rfl ?_ z0 trivial ?_
   ·kernel_rfl
   refine AOps.nil ?_
   refine AWp.ret ?_
   cases h
   exact ⟨.inr rfl,rfl⟩

noncomputable def f34 (v1:T64):Option (List UInt8) :=
 (f41 v1).bind fun v2=>cond v2 (some ([]:List UInt8)) (some v1.f0)

theorem f34_ok (v1:T64) {r:(List UInt8)} (h:f34 v1 = some r):ACall Try.prog 34 [.rp [.str v1.f0,.int .i64 v1.f1,fzL 1 (cInt .u8) v1.f2,.int .i64 v1.f3,.bool v1.f4]] [] (.tv (.str r)) []:=by
 refine ACall.of1 (FF 9 0) Try.func34 rfl Try.ntmps34 Try.results34 (zz rfl) rfl rfl ?_
 refine AWp.seq ?_
 refine AWp.start [0] [] [] [0] 0 ⟨[(0,.rp (c64 v1))],[]⟩ rfl ?_ z0 trivial ?_
 ·kernel_rfl
 refine AOps.nil ?_
 refine AWp.seq ?_
 refine AWp.seq ?_
 refine AWp.start [0] [1] [] [0,3] 0 ⟨[(0,.rp (c64 v1)),(3,.rp (c64 v1))],[]⟩ rfl ?_ z0 trivial ?_
 ·kernel_rfl
 obtain ⟨v2,hv2,h⟩:=of_bind h
 refine AOps.cons (AOne.callP (F:=(FF 9 0)) _ rfl rfl rfl _ rfl rfl _ _ rfl Try.call41 [.rp (c64 v1)] rfl rfl (f41_ok v1 hv2) rfl) ?_
 refine AOps.keepTo [0,4] 0 ⟨[(0,.rp (c64 v1)),(4,tB v2)],[]⟩ ?_ z0 ?_
 ·kernel_rfl
 refine AOps.nil ?_
 refine AWp.cond rfl (fun hb=>?_) fun hb=>?_
 ·replace h:=of_true h hb
  refine AWp.keepTo [] 0 ⟨[],[]⟩ ?_ z0 ?_
  ·kernel_rfl
  refine AWp.seq ?_
  refine AWp.start [0] [] [] [2] 0 ⟨[(2,tS ([]:List UInt8))],[]⟩ rfl ?_ z0 trivial ?_
  ·kernel_rfl
  refine AOps.nil ?_
  refine AWp.ret ?_
  cases h
  exact ⟨.inr rfl,rfl⟩
 ·replace h:=of_false h hb
  refine AWp.keepTo [0] 0 ⟨[(0,.rp (c64 v1))],[]⟩ ?_ z0 ?_
  ·kernel_rfl
  refine AWp.skip ?_
  refine AWp.seq ?_
  refine AWp.start [0,1,2,3,4] [] [] [2] 0 ⟨[(2,tS v1.f0)],[]⟩ rfl ?_ z0 trivial ?_
  ·kernel_rfl
  refine AOps.nil ?_
  refine AWp.ret ?_
  cases h
  exact ⟨.inr rfl,rfl⟩

noncomputable def f21 (v1:T64):Option (List Int) :=
 (f41 v1).bind fun v2=>cond v2 (some ([]:List Int)) ((f37 v1.f2).bind fun v3=>some v3)

theorem f21_ok (v1:T64) {r:(List Int)} (h:f21 v1 = some r):ACall Try.prog 21 [.rp [.str v1.f0,.int .i64 v1.f1,fzL 1 (cInt .u8) v1.f2,.int .i64 v1.f3,.bool v1.f4]] [] (.tv (ownL 1 5 (cInt .u8) r)) []:=by
 refine ACall.of1 (FF 10 0) Try.func21 rfl Try.ntmps21 Try.results21 (zz rfl) rfl rfl ?_
 refine AWp.seq ?_
 refine AWp.start [0] [] [] [0] 0 ⟨[(0,.rp (c64 v1))],[]⟩ rfl ?_ z0 trivial ?_
 ·kernel_rfl
 refine AOps.nil ?_
 refine AWp.seq ?_
 refine AWp.seq ?_
 refine AWp.start [0] [1] [] [0,3] 0 ⟨[(0,.rp (c64 v1)),(3,.rp (c64 v1))],[]⟩ rfl ?_ z0 trivial ?_
 ·kernel_rfl
 obtain ⟨v2,hv2,h⟩:=of_bind h
 refine AOps.cons (AOne.callP (F:=(FF 10 0)) _ rfl rfl rfl _ rfl rfl _ _ rfl Try.call41 [.rp (c64 v1)] rfl rfl (f41_ok v1 hv2) rfl) ?_
 refine AOps.keepTo [0,4] 0 ⟨[(0,.rp (c64 v1)),(4,tB v2)],[]⟩ ?_ z0 ?_
 ·kernel_rfl
 refine AOps.nil ?_
 refine AWp.cond rfl (fun hb=>?_) fun hb=>?_
 ·replace h:=of_true h hb
  refine AWp.keepTo [] 0 ⟨[],[]⟩ ?_ z0 ?_
  ·kernel_rfl
  refine AWp.seq ?_
  refine AWp.start [0] [] [] [2] 0 ⟨[(2,.tv (.sc (.slice none 0 0)))],[]⟩ rfl ?_ z0 trivial ?_
  ·kernel_rfl
  refine AOps.nil ?_
  refine AWp.nilOwn 2 1 5 (fun i=>(cInt .u8) (([]:List Int).getD i default)) rfl ?_
  refine AWp.keepTo [2] 0 ⟨[(2,q1 ([]:List Int))],[]⟩ ?_ z0 ?_
  ·kernel_rfl
  refine AWp.ret ?_
  cases h
  exact ⟨.inr rfl,rfl⟩
 ·replace h:=of_false h hb
  refine AWp.keepTo [0] 0 ⟨[(0,.rp (c64 v1))],[]⟩ ?_ z0 ?_
  ·kernel_rfl
  refine AWp.skip ?_
  refine AWp.seq ?_
  refine AWp.start [0,1,2,3] [4,5] [] [8] 0 ⟨[(8,q0 v1.f2)],[]⟩ rfl ?_ z0 trivial ?_
  ·kernel_rfl
  obtain ⟨v3,hv3,h⟩:=of_bind h
  refine AOps.cons (AOne.callP (F:=(FF 10 0)) _ rfl rfl rfl _ rfl rfl _ _ rfl Try.call37 [q0 v1.f2] rfl rfl (f37_ok v1.f2 hv3) rfl) ?_
  refine AOps.go [5] [] [] [2] 0 ⟨[(2,q1 v3)],[]⟩ ?_ z0 trivial ?_
  ·kernel_rfl
  refine AOps.nil ?_
  refine AWp.ret ?_
  cases h
  exact ⟨.inr rfl,rfl⟩

noncomputable def f27 (v1:T64) (v2:T78):Option Bool :=
 (f18 v1).bind fun v3=>((f19 v1).bind fun v5=>(f48 v2).bind fun v6=>cond (v5 == v6) ((f49 v2).bind fun v7=>cond (v3.1 == v7) (cond (v3.2 == (0:Int)) ((f34 v1).bind fun v8=>cond (v8 == v2.f0) ((f21 v1).bind fun v9=>(f50 v2).bind fun v10=>some ((v9.map (fun n=>UInt8.ofNat n.toNat)) == (v10.map (fun n=>UInt8.ofNat n.toNat)))) (some false)) (some false)) (some false)) (some false)).bind fun v4=>some v4

theorem f27_ok (v1:T64) (v2:T78) {r:Bool} (h:f27 v1 v2 = some r):ACall Try.prog 27 [.rp [.str v1.f0,.int .i64 v1.f1,fzL 1 (cInt .u8) v1.f2,.int .i64 v1.f3,.bool v1.f4],.rp [.str v2.f0,.int .i64 v2.f1,fzL 1 (cSl 1 (cInt .u8)) v2.f2,.bool v2.f3,.int .i64 v2.f4,.bool v2.f5,fzL 1 (cInt .u8) v2.f6]] [] (.tv (.bool r)) []:=by
 refine ACall.of1 (FF 45 0) Try.func27 rfl Try.ntmps27 Try.results27 (zz rfl) rfl rfl ?_
 refine AWp.seq ?_
 refine AWp.start [0] [] [] [0,1] 0 ⟨[(0,.rp (c64 v1)),(1,.rp (c78 v2))],[]⟩ rfl ?_ z0 trivial ?_
 ·kernel_rfl
 refine AOps.nil ?_
 refine AWp.seq ?_
 refine AWp.start [0] [1,2,3,4,5,6] [] [0,1,8] 0 ⟨[(0,.rp (c64 v1)),(1,.rp (c78 v2)),(8,.rp (c64 v1))],[]⟩ rfl ?_ z0 trivial ?_
 ·kernel_rfl
 obtain ⟨v3,hv3,h⟩:=of_bind h
 refine AOps.cons (AOne.callP (F:=(FF 45 0)) _ rfl rfl rfl _ rfl rfl _ _ rfl Try.call18 [.rp (c64 v1)] rfl rfl (f18_ok v1 hv3) rfl) ?_
 refine AOps.go [2,3,4,5,6] [] [] [0,1,5,6] 0 ⟨[(0,.rp (c64 v1)),(1,.rp (c78 v2)),(5,tI v3.1),(6,tI v3.2)],[]⟩ ?_ z0 trivial ?_
 ·kernel_rfl
 refine AOps.nil ?_
 refine AWp.seq ?_
 obtain ⟨v4,hd,h⟩:=of_bind h
 refine AWp.draw FFm (fun σ=>σ = ⟨[(4,tB v4)],[]⟩) (n:=34) rfl (ls:=#[n1,n1,n1,n1,n1,n1,n1,n1,n1,n1,n1,n1,n1,n1,n1,n1,n1,n1,n1,n1,n1,n1,n1,n1,n1,n1,n1,n1,n1,n1,n1,n1,n1,n1]) rfl ?_ ?_
 ·refine AAny.go (by kernel_rfl) [0,2] (fuel':=32) rfl [] #[y1,n1,y1,n1,n1,n1,n1,n1,n1,n1,n1,n1,n1,n1,n1,n1,n1,n1,n1,n1,n1,n1,n1,n1,n1,n1,n1,n1,n1,n1,n1,n1,n1,n1] [0,1,5,6,12,14] 0 ⟨[(0,.rp (c64 v1)),(1,.rp (c78 v2)),(5,tI v3.1),(6,tI v3.2),(12,.rp (c64 v1)),(14,.rp (c78 v2))],[]⟩ ?_ z0 trivial ?_
  ·kernel_rfl
  obtain ⟨v5,hv5,hd⟩:=of_bind hd
  refine AAny.serial (i:=1) (fuel:=31) (by kernel_rfl) (AOne.callP (F:=(FF 45 0)) _ rfl rfl rfl _ rfl rfl _ _ rfl Try.call19 [.rp (c64 v1)] rfl rfl (f19_ok v1 hv5) rfl) ?_
  refine AAny.keepTo [0,1,5,6,13,14] 0 ⟨[(0,.rp (c64 v1)),(1,.rp (c78 v2)),(5,tI v3.1),(6,tI v3.2),(13,tI v5),(14,.rp (c78 v2))],[]⟩ #[y1,y1,y1,n1,n1,n1,n1,n1,n1,n1,n1,n1,n1,n1,n1,n1,n1,n1,n1,n1,n1,n1,n1,n1,n1,n1,n1,n1,n1,n1,n1,n1,n1,n1] ?_ rfl z0 ?_
  ·kernel_rfl
  obtain ⟨v6,hv6,hd⟩:=of_bind hd
  refine AAny.serial (i:=3) (fuel:=30) (by kernel_rfl) (AOne.callP (F:=(FF 45 0)) _ rfl rfl rfl _ rfl rfl _ _ rfl Try.call48 [.rp (c78 v2)] rfl rfl (f48_ok v2 hv6) rfl) ?_
  refine AAny.keepTo [0,1,5,6,13,15] 0 ⟨[(0,.rp (c64 v1)),(1,.rp (c78 v2)),(5,tI v3.1),(6,tI v3.2),(13,tI v5),(15,tI v6)],[]⟩ #[y1,y1,y1,y1,n1,n1,n1,n1,n1,n1,n1,n1,n1,n1,n1,n1,n1,n1,n1,n1,n1,n1,n1,n1,n1,n1,n1,n1,n1,n1,n1,n1,n1,n1] ?_ rfl z0 ?_
  ·kernel_rfl
  refine AAny.go (by kernel_rfl) [4,5] (fuel':=28) rfl [] #[y1,y1,y1,y1,y1,y1,n1,n1,n1,n1,n1,n1,n1,n1,n1,n1,n1,n1,n1,n1,n1,n1,n1,n1,n1,n1,n1,n1,n1,n1,n1,n1,n1,n1] [0,1,5,6,17] 0 ⟨[(0,.rp (c64 v1)),(1,.rp (c78 v2)),(5,tI v3.1),(6,tI v3.2),(17,tB (v5 == v6))],[]⟩ ?_ z0 trivial ?_
  ·kernel_rfl
  refine AAny.split (fun b=>⟨[(0,.rp (c64 v1)),(1,.rp (c78 v2)),(5,tI v3.1),(6,tI v3.2),(17,tB b)],[]⟩) _ (fun hb=>?_) fun hb=>?_
  ·replace hd:=of_true hd hb
   refine AAny.go (by kernel_rfl) [6,7] (fuel':=26) rfl [] #[y1,y1,y1,y1,y1,y1,y1,y1,n1,n1,n1,n1,n1,n1,n1,n1,n1,n1,n1,n1,n1,n1,n1,n1,n1,n1,n1,n1,n1,n1,n1,n1,n1,n1] [0,1,6,17,18,19] 0 ⟨[(0,.rp (c64 v1)),(1,.rp (c78 v2)),(6,tI v3.2),(17,tB true),(18,tI v3.1),(19,.rp (c78 v2))],[]⟩ ?_ z0 trivial ?_
   ·kernel_rfl
   obtain ⟨v7,hv7,hd⟩:=of_bind hd
   refine AAny.serial (i:=8) (fuel:=25) (by kernel_rfl) (AOne.callP (F:=(FF 45 0)) _ rfl rfl rfl _ rfl rfl _ _ rfl Try.call49 [.rp (c78 v2)] rfl rfl (f49_ok v2 hv7) rfl) ?_
   refine AAny.keepTo [0,1,6,17,18,20] 0 ⟨[(0,.rp (c64 v1)),(1,.rp (c78 v2)),(6,tI v3.2),(17,tB true),(18,tI v3.1),(20,tI v7)],[]⟩ #[y1,y1,y1,y1,y1,y1,y1,y1,y1,n1,n1,n1,n1,n1,n1,n1,n1,n1,n1,n1,n1,n1,n1,n1,n1,n1,n1,n1,n1,n1,n1,n1,n1,n1] ?_ rfl z0 ?_
   ·kernel_rfl
   refine AAny.go (by kernel_rfl) [9,10,11] (fuel':=22) rfl [] #[y1,y1,y1,y1,y1,y1,y1,y1,y1,y1,y1,y1,n1,n1,n1,n1,n1,n1,n1,n1,n1,n1,n1,n1,n1,n1,n1,n1,n1,n1,n1,n1,n1,n1] [0,1,6,23] 0 ⟨[(0,.rp (c64 v1)),(1,.rp (c78 v2)),(6,tI v3.2),(23,tB (v3.1 == v7))],[]⟩ ?_ z0 trivial ?_
   ·kernel_rfl
   refine AAny.split (fun b=>⟨[(0,.rp (c64 v1)),(1,.rp (c78 v2)),(6,tI v3.2),(23,tB b)],[]⟩) _ (fun hb=>?_) fun hb=>?_
   ·replace hd:=of_true hd hb
    refine AAny.go (by kernel_rfl) [12,13,14,15] (fuel':=18) rfl [] #[y1,y1,y1,y1,y1,y1,y1,y1,y1,y1,y1,y1,y1,y1,y1,y1,n1,n1,n1,n1,n1,n1,n1,n1,n1,n1,n1,n1,n1,n1,n1,n1,n1,n1] [0,1,27] 0 ⟨[(0,.rp (c64 v1)),(1,.rp (c78 v2)),(27,tB (v3.2 == (0:Int)))],[]⟩ ?_ z0 trivial ?_
    ·kernel_rfl
    refine AAny.split (fun b=>⟨[(0,.rp (c64 v1)),(1,.rp (c78 v2)),(27,tB b)],[]⟩) _ (fun hb=>?_) fun hb=>?_
    ·replace hd:=of_true hd hb
     refine AAny.go (by kernel_rfl) [16,18,19,20,21] (fuel':=13) rfl [] #[y1,y1,y1,y1,y1,y1,y1,y1,y1,y1,y1,y1,y1,y1,y1,y1,y1,n1,y1,y1,y1,y1,n1,n1,n1,n1,n1,n1,n1,n1,n1,n1,n1,n1] [0,1,27,28,33] 0 ⟨[(0,.rp (c64 v1)),(1,.rp (c78 v2)),(27,tB true),(28,.rp (c64 v1)),(33,tS v2.f0)],[]⟩ ?_ z0 trivial ?_
     ·kernel_rfl
     obtain ⟨v8,hv8,hd⟩:=of_bind hd
     refine AAny.serial (i:=17) (fuel:=12) (by kernel_rfl) (AOne.callP (F:=(FF 45 0)) _ rfl rfl rfl _ rfl rfl _ _ rfl Try.call34 [.rp (c64 v1)] rfl rfl (f34_ok v1 hv8) rfl) ?_
     refine AAny.keepTo [0,1,27,29,33] 0 ⟨[(0,.rp (c64 v1)),(1,.rp (c78 v2)),(27,tB true),(29,tS v8),(33,tS v2.f0)],[]⟩ #[y1,y1,y1,y1,y1,y1,y1,y1,y1,y1,y1,y1,y1,y1,y1,y1,y1,y1,y1,y1,y1,y1,n1,n1,n1,n1,n1,n1,n1,n1,n1,n1,n1,n1] ?_ rfl z0 ?_
     ·kernel_rfl
     refine AAny.go (by kernel_rfl) [22,23,24] (fuel':=9) rfl [] #[y1,y1,y1,y1,y1,y1,y1,y1,y1,y1,y1,y1,y1,y1,y1,y1,y1,y1,y1,y1,y1,y1,y1,y1,y1,n1,n1,n1,n1,n1,n1,n1,n1,n1] [0,1,36] 0 ⟨[(0,.rp (c64 v1)),(1,.rp (c78 v2)),(36,tB (v8 == v2.f0))],[]⟩ ?_ z0 trivial ?_
     ·kernel_rfl
     refine AAny.split (fun b=>⟨[(0,.rp (c64 v1)),(1,.rp (c78 v2)),(36,tB b)],[]⟩) _ (fun hb=>?_) fun hb=>?_
     ·replace hd:=of_true hd hb
      refine AAny.go (by kernel_rfl) [25,28] (fuel':=7) rfl [] #[y1,y1,y1,y1,y1,y1,y1,y1,y1,y1,y1,y1,y1,y1,y1,y1,y1,y1,y1,y1,y1,y1,y1,y1,y1,y1,n1,n1,y1,n1,n1,n1,n1,n1] [36,37,40] 0 ⟨[(36,tB true),(37,.rp (c64 v1)),(40,.rp (c78 v2))],[]⟩ ?_ z0 trivial ?_
      ·kernel_rfl
      obtain ⟨v9,hv9,hd⟩:=of_bind hd
      refine AAny.serial (i:=26) (fuel:=6) (by kernel_rfl) (AOne.callP (F:=(FF 45 0)) _ rfl rfl rfl _ rfl rfl _ _ rfl Try.call21 [.rp (c64 v1)] rfl rfl (f21_ok v1 hv9) rfl) ?_
      refine AAny.keepTo [36,38,40] 0 ⟨[(36,tB true),(38,q1 v9),(40,.rp (c78 v2))],[]⟩ #[y1,y1,y1,y1,y1,y1,y1,y1,y1,y1,y1,y1,y1,y1,y1,y1,y1,y1,y1,y1,y1,y1,y1,y1,y1,y1,y1,n1,y1,n1,n1,n1,n1,n1] ?_ rfl z0 ?_
      ·kernel_rfl
      obtain ⟨v10,hv10,hd⟩:=of_bind hd
      refine AAny.share 0 #[y1,y1,y1,y1,y1,y1,y1,y1,y1,y1,y1,y1,y1,y1,y1,y1,y1,y1,y1,y1,y1,y1,y1,y1,y1,y1,y1,y1,y1,y1,y1,y1,y1,y1] ⟨[(4,tB ((v9.map (fun n=>UInt8.ofNat n.toNat)) == (v10.map (fun n=>UInt8.ofNat n.toNat))))],[]⟩ ?_ fun n5_=>?_
      ·refine AAny.keepTo [4] 0 ⟨[(4,tB ((v9.map (fun n=>UInt8.ofNat n.toNat)) == (v10.map (fun n=>UInt8.ofNat n.toNat))))],[]⟩ _ ?_ rfl z0 (AAny.done (by kernel_rfl) ?_)
       ·kernel_rfl
       cases hd
       exact rfl
      refine AAny.share 4 #[y1,y1,y1,y1,y1,y1,y1,y1,y1,y1,y1,y1,y1,y1,y1,y1,y1,y1,y1,y1,y1,y1,y1,y1,y1,y1,y1,n1,y1,y1,y1,n1,n1,n1] ⟨[(36,tB true),(38,q1 v9),(42,tS (v10.map (fun n=>UInt8.ofNat n.toNat)))],[]⟩ ?_ fun n4_=>?_
      ·refine AAny.each [27] (by kernel_rfl) rfl ?_
       refine AEach.one (i:=27) (AOne.str (F:=(FF 45 0)) _ rfl rfl rfl _ rfl rfl rfl rfl rfl (n:=v9.length) (f:=(fun i=>(cInt .u8) (v9.getD i default))) rfl v9 rfl (fun _ _=>rfl)) ?_ ?_
       ·refine AAny.keepTo [36,39,42] 0 ⟨[(36,tB true),(39,tS (v9.map (fun n=>UInt8.ofNat n.toNat))),(42,tS (v10.map (fun n=>UInt8.ofNat n.toNat)))],[]⟩ #[y1,y1,y1,y1,y1,y1,y1,y1,y1,y1,y1,y1,y1,y1,y1,y1,y1,y1,y1,y1,y1,y1,y1,y1,y1,y1,y1,y1,y1,y1,y1,n1,n1,n1] ?_ rfl z0 ?_
        ·kernel_rfl
        refine AAny.go (by kernel_rfl) [31,32,33] (fuel':=0) rfl [] #[y1,y1,y1,y1,y1,y1,y1,y1,y1,y1,y1,y1,y1,y1,y1,y1,y1,y1,y1,y1,y1,y1,y1,y1,y1,y1,y1,y1,y1,y1,y1,y1,y1,y1] [4] 0 ⟨[(4,tB ((v9.map (fun n=>UInt8.ofNat n.toNat)) == (v10.map (fun n=>UInt8.ofNat n.toNat))))],[]⟩ ?_ z0 trivial ?_
        ·kernel_rfl
        exact n5_
       exact AEach.nil
      refine AAny.share 4 #[y1,y1,y1,y1,y1,y1,y1,y1,y1,y1,y1,y1,y1,y1,y1,y1,y1,y1,y1,y1,y1,y1,y1,y1,y1,y1,y1,y1,y1,y1,n1,n1,n1,n1] ⟨[(36,tB true),(39,tS (v9.map (fun n=>UInt8.ofNat n.toNat))),(41,q1 v10)],[]⟩ ?_ fun n3_=>?_
      ·refine AAny.each [30] (by kernel_rfl) rfl ?_
       refine AEach.one (i:=30) (AOne.str (F:=(FF 45 0)) _ rfl rfl rfl _ rfl rfl rfl rfl rfl (n:=v10.length) (f:=(fun i=>(cInt .u8) (v10.getD i default))) rfl v10 rfl (fun _ _=>rfl)) ?_ ?_
       ·refine AAny.keepTo [36,39,42] 0 ⟨[(36,tB true),(39,tS (v9.map (fun n=>UInt8.ofNat n.toNat))),(42,tS (v10.map (fun n=>UInt8.ofNat n.toNat)))],[]⟩ #[y1,y1,y1,y1,y1,y1,y1,y1,y1,y1,y1,y1,y1,y1,y1,y1,y1,y1,y1,y1,y1,y1,y1,y1,y1,y1,y1,y1,y1,y1,y1,n1,n1,n1] ?_ rfl z0 ?_
        ·kernel_rfl
        refine AAny.go (by kernel_rfl) [31,32,33] (fuel':=0) rfl [] #[y1,y1,y1,y1,y1,y1,y1,y1,y1,y1,y1,y1,y1,y1,y1,y1,y1,y1,y1,y1,y1,y1,y1,y1,y1,y1,y1,y1,y1,y1,y1,y1,y1,y1] [4] 0 ⟨[(4,tB ((v9.map (fun n=>UInt8.ofNat n.toNat)) == (v10.map (fun n=>UInt8.ofNat n.toNat))))],[]⟩ ?_ z0 trivial ?_
        ·kernel_rfl
        exact n5_
       exact AEach.nil
      refine AAny.share 5 #[y1,y1,y1,y1,y1,y1,y1,y1,y1,y1,y1,y1,y1,y1,y1,y1,y1,y1,y1,y1,y1,y1,y1,y1,y1,y1,y1,n1,y1,y1,n1,n1,n1,n1] ⟨[(36,tB true),(38,q1 v9),(41,q1 v10)],[]⟩ ?_ fun n2_=>?_
      ·refine AAny.each [27,30] (by kernel_rfl) rfl ?_
       refine AEach.one (i:=27) (AOne.str (F:=(FF 45 0)) _ rfl rfl rfl _ rfl rfl rfl rfl rfl (n:=v9.length) (f:=(fun i=>(cInt .u8) (v9.getD i default))) rfl v9 rfl (fun _ _=>rfl)) ?_ ?_
       ·refine AAny.keepTo [36,39,41] 0 ⟨[(36,tB true),(39,tS (v9.map (fun n=>UInt8.ofNat n.toNat))),(41,q1 v10)],[]⟩ #[y1,y1,y1,y1,y1,y1,y1,y1,y1,y1,y1,y1,y1,y1,y1,y1,y1,y1,y1,y1,y1,y1,y1,y1,y1,y1,y1,y1,y1,y1,n1,n1,n1,n1] ?_ rfl z0 ?_
        ·kernel_rfl
        exact n3_
       refine AEach.one (i:=30) (AOne.str (F:=(FF 45 0)) _ rfl rfl rfl _ rfl rfl rfl rfl rfl (n:=v10.length) (f:=(fun i=>(cInt .u8) (v10.getD i default))) rfl v10 rfl (fun _ _=>rfl)) ?_ ?_
       ·refine AAny.keepTo [36,38,42] 0 ⟨[(36,tB true),(38,q1 v9),(42,tS (v10.map (fun n=>UInt8.ofNat n.toNat)))],[]⟩ #[y1,y1,y1,y1,y1,y1,y1,y1,y1,y1,y1,y1,y1,y1,y1,y1,y1,y1,y1,y1,y1,y1,y1,y1,y1,y1,y1,n1,y1,y1,y1,n1,n1,n1] ?_ rfl z0 ?_
        ·kernel_rfl
        exact n4_
       exact AEach.nil
      refine AAny.share 5 #[y1,y1,y1,y1,y1,y1,y1,y1,y1,y1,y1,y1,y1,y1,y1,y1,y1,y1,y1,y1,y1,y1,y1,y1,y1,y1,y1,y1,y1,n1,n1,n1,n1,n1] ⟨[(36,tB true),(39,tS (v9.map (fun n=>UInt8.ofNat n.toNat))),(40,.rp (c78 v2))],[]⟩ ?_ fun n1_=>?_
      ·refine AAny.each [29] (by kernel_rfl) rfl ?_
       refine AEach.one (i:=29) (AOne.callP (F:=(FF 45 0)) _ rfl rfl rfl _ rfl rfl _ _ rfl Try.call50 [.rp (c78 v2)] rfl rfl (f50_ok v2 hv10) rfl) ?_ ?_
       ·refine AAny.keepTo [36,39,41] 0 ⟨[(36,tB true),(39,tS (v9.map (fun n=>UInt8.ofNat n.toNat))),(41,q1 v10)],[]⟩ #[y1,y1,y1,y1,y1,y1,y1,y1,y1,y1,y1,y1,y1,y1,y1,y1,y1,y1,y1,y1,y1,y1,y1,y1,y1,y1,y1,y1,y1,y1,n1,n1,n1,n1] ?_ rfl z0 ?_
        ·kernel_rfl
        exact n3_
       exact AEach.nil
      refine AAny.each [27,29] (by kernel_rfl) rfl ?_
      refine AEach.one (i:=27) (AOne.str (F:=(FF 45 0)) _ rfl rfl rfl _ rfl rfl rfl rfl rfl (n:=v9.length) (f:=(fun i=>(cInt .u8) (v9.getD i default))) rfl v9 rfl (fun _ _=>rfl)) ?_ ?_
      ·refine AAny.keepTo [36,39,40] 0 ⟨[(36,tB true),(39,tS (v9.map (fun n=>UInt8.ofNat n.toNat))),(40,.rp (c78 v2))],[]⟩ #[y1,y1,y1,y1,y1,y1,y1,y1,y1,y1,y1,y1,y1,y1,y1,y1,y1,y1,y1,y1,y1,y1,y1,y1,y1,y1,y1,y1,y1,n1,n1,n1,n1,n1] ?_ rfl z0 ?_
       ·kernel_rfl
       exact n1_
      refine AEach.one (i:=29) (AOne.callP (F:=(FF 45 0)) _ rfl rfl rfl _ rfl rfl _ _ rfl Try.call50 [.rp (c78 v2)] rfl rfl (f50_ok v2 hv10) rfl) ?_ ?_
      ·refine AAny.keepTo [36,38,41] 0 ⟨[(36,tB true),(38,q1 v9),(41,q1 v10)],[]⟩ #[y1,y1,y1,y1,y1,y1,y1,y1,y1,y1,y1,y1,y1,y1,y1,y1,y1,y1,y1,y1,y1,y1,y1,y1,y1,y1,y1,n1,y1,y1,n1,n1,n1,n1] ?_ rfl z0 ?_
       ·kernel_rfl
       exact n2_
      exact AEach.nil
     ·replace hd:=of_false hd hb
      refine AAny.go (by kernel_rfl) [25,26,27,28,29,30,31,32,33] (fuel':=0) rfl [] #[y1,y1,y1,y1,y1,y1,y1,y1,y1,y1,y1,y1,y1,y1,y1,y1,y1,y1,y1,y1,y1,y1,y1,y1,y1,y1,y1,y1,y1,y1,y1,y1,y1,y1] [4] 0 ⟨[(4,tB false)],[]⟩ ?_ z0 trivial ?_
      ·kernel_rfl
      refine AAny.keepTo [4] 0 ⟨[(4,tB false)],[]⟩ _ ?_ rfl z0 (AAny.done (by kernel_rfl) ?_)
      ·kernel_rfl
      cases hd
      exact rfl
    ·replace hd:=of_false hd hb
     refine AAny.go (by kernel_rfl) [16,17,18,19,20,21,22,23,24,25,26,27,28,29,30,31,32,33] (fuel':=0) rfl [] #[y1,y1,y1,y1,y1,y1,y1,y1,y1,y1,y1,y1,y1,y1,y1,y1,y1,y1,y1,y1,y1,y1,y1,y1,y1,y1,y1,y1,y1,y1,y1,y1,y1,y1] [4] 0 ⟨[(4,tB false)],[]⟩ ?_ z0 trivial ?_
     ·kernel_rfl
     refine AAny.keepTo [4] 0 ⟨[(4,tB false)],[]⟩ _ ?_ rfl z0 (AAny.done (by kernel_rfl) ?_)
     ·kernel_rfl
     cases hd
     exact rfl
   ·replace hd:=of_false hd hb
    refine AAny.go (by kernel_rfl) [12,13,14,15,16,17,18,19,20,21,22,23,24,25,26,27,28,29,30,31,32,33] (fuel':=0) rfl [] #[y1,y1,y1,y1,y1,y1,y1,y1,y1,y1,y1,y1,y1,y1,y1,y1,y1,y1,y1,y1,y1,y1,y1,y1,y1,y1,y1,y1,y1,y1,y1,y1,y1,y1] [4] 0 ⟨[(4,tB false)],[]⟩ ?_ z0 trivial ?_
    ·kernel_rfl
    refine AAny.keepTo [4] 0 ⟨[(4,tB false)],[]⟩ _ ?_ rfl z0 (AAny.done (by kernel_rfl) ?_)
    ·kernel_rfl
    cases hd
    exact rfl
  ·replace hd:=of_false hd hb
   refine AAny.go (by kernel_rfl) [6,7,8,9,10,11,12,13,14,15,16,17,18,19,20,21,22,23,24,25,26,27,28,29,30,31,32,33] (fuel':=0) rfl [] #[y1,y1,y1,y1,y1,y1,y1,y1,y1,y1,y1,y1,y1,y1,y1,y1,y1,y1,y1,y1,y1,y1,y1,y1,y1,y1,y1,y1,y1,y1,y1,y1,y1,y1] [4] 0 ⟨[(4,tB false)],[]⟩ ?_ z0 trivial ?_
   ·kernel_rfl
   refine AAny.keepTo [4] 0 ⟨[(4,tB false)],[]⟩ _ ?_ rfl z0 (AAny.done (by kernel_rfl) ?_)
   ·kernel_rfl
   cases hd
   exact rfl
 rintro σ' rfl
 refine AWp.ret ?_
 cases h
 exact ⟨.inr rfl,rfl⟩

end Go.Sx.unit
