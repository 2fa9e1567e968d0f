/- Printed by program (wip/gen): plain functions and their walks; no condition. -/
import Derived.Test.YtlfaghcnnlifmaaGreatGx4
namespace Go.Sx.top
open Go Go.Sx Go.Proofs

noncomputable def f6_j1 (v1:List T25) (v5:T68) (v8:List Int) (v11:Int) (v14:List Int) (v15:List (Int × Int)) (v16:Int):Option (((List Int) × (List Int) × (List (Int × Int)) × Int) ⊕ Out ((List Int) × (List Int) × (List Int) × Int) ((List Int) × (List Int))) :=
 if (v8.length + [v16].length) * 8 ≤ 140737488355328 then if (0:Int) ≤ v16 ∧ v16 < (v14.length:Int) ∧ (0:Int) ≤ v11 ∧ v11 < (v1.length:Int) then if (0:Int) ≤ v11 ∧ v11 < (v5.f2.length:Int) then (f19 (v1.getD v11.toNat default)).bind fun v17=>if (0:Int) ≤ v16 ∧ v16 < (v14.length:Int) then some (.inl (v8 ++ [v16],v14.set v16.toNat (if w64 ((v5.f2.getD v11.toNat default) + v17) > v14.getD v16.toNat default then w64 ((v5.f2.getD v11.toNat default) + v17) else v14.getD v16.toNat default),v15,w64 (v11 + (1:Int)))) else none else none else none else none

noncomputable def f6_b2 (v1:List T25) (v5:T68) (v8:List Int) (v9:List Int) (v10:List (Int × Int)) (v11:Int):Option (((List Int) × (List Int) × (List (Int × Int)) × Int) ⊕ Out ((List Int) × (List Int) × (List Int) × Int) ((List Int) × (List Int))) :=
 cond (decide (v11 < (v5.f1.length:Int))) (if (0:Int) ≤ v11 ∧ v11 < (v5.f1.length:Int) then cond (!(mhas v10 (v5.f1.getD v11.toNat default))) (if (v9.length + [(0:Int)].length) * 8 ≤ 140737488355328 then f6_j1 v1 v5 v8 v11 (v9 ++ [(0:Int)]) (mset v10 (v5.f1.getD v11.toNat default) (v9.length:Int)) (v9.length:Int) else none) (f6_j1 v1 v5 v8 v11 v9 v10 (mget v10 (v5.f1.getD v11.toNat default))) else none) (some (.inr (.go (v8,v9))))

noncomputable def f6 (v1:List T25) (v2:List (List T37)) (v3:List (List (List UInt8))):Option ((List Int) × (List Int) × (List Int) × Int) :=
 (f18 v1 v2 v3).bind fun v4=>match v4 with | (none,v6,v7)=>cond (v7 != (0:Int)) (some (([]:List Int),([]:List Int),([]:List Int),v7)) none | (some v5,v6,v7)=>cond (v7 != (0:Int)) (some (([]:List Int),([]:List Int),([]:List Int),v7)) ((iter (fun s=>f6_b2 v1 v5 s.1 s.2.1 s.2.2.1 s.2.2.2) ([],[],([]:List (Int × Int)),(0:Int))).bind fun y=>match y with | .ret v18=>some (v18.1,v18.2.1,v18.2.2.1,v18.2.2.2) | .go (v12,v13)=>(f20 v5.f2).bind fun v19=>some (v12,v19,v13,(0:Int)))

theorem f6_ok (v1:List T25) (v2:List (List T37)) (v3:List (List (List UInt8))) {r:(List Int) × (List Int) × (List Int) × Int} (h:f6 v1 v2 v3 = some r):ACall Tryz.prog 6 [.tv (fzL 3 c25 v1),.tv (fzL 1 (cSl 2 c37) v2),.tv (fzL 1 (cSl 1 cStr) v3)] [] (.tup [.tv (fzL 1 (cInt .i64) r.1),.tv (fzL 1 (cInt .i64) r.2.1),.tv (fzL 1 (cInt .i64) r.2.2.1),.tv (.int .i64 r.2.2.2)]) []:=by
 refine ACall.ofN (FF 89 0) (rs:=[6,7,8,9]) (env:=[(6,q1 r.1),(7,q1 r.2.1),(8,q1 r.2.2.1),(9,tI r.2.2.2)]) Tryz.func6 rfl Tryz.ntmps6 Tryz.results6 (by decide) (by decide) rfl (zz rfl) rfl (get_ofN _ _ _ rfl) (ok_ofN _ rfl) ?_
 refine AWp.seq ?_
 refine AWp.start [0,1,2,3] [] [] [0,1,2,6,8] 0 ⟨[(0,q0 v1),(1,.tv (fzL 1 (cSl 2 c37) v2)),(2,.tv (fzL 1 (cSl 1 cStr) v3)),(6,.tv (.sc (.slice none 0 0))),(8,.tv (.sc (.slice none 0 0)))],[]⟩ rfl ?_ z0 trivial ?_
 ·kernel_rfl
 refine AOps.nil ?_
 refine AWp.seq ?_
 refine AWp.start [0,1,2] [3,4,5,6,7,8,9,10] [] [0,6,8,19,20,21] 0 ⟨[(0,q0 v1),(6,.tv (.sc (.slice none 0 0))),(8,.tv (.sc (.slice none 0 0))),(19,q0 v1),(20,.tv (fzL 1 (cSl 2 c37) v2)),(21,.tv (fzL 1 (cSl 1 cStr) v3))],[]⟩ rfl ?_ z0 trivial ?_
 ·kernel_rfl
 obtain ⟨v4,hv4,h⟩:=of_bind h
 rcases v4 with ⟨(_ | v5),v6,v7⟩
 ·replace h:(cond (v7 != (0:Int)) (some (([]:List Int),([]:List Int),([]:List Int),v7)) none) = some r:=h
  refine AOps.cons (AOne.callO (F:=(FF 89 0)) _ rfl rfl rfl 22 rfl rfl 18 [] rfl Tryz.call18 [] (by decide) [q0 v1,.tv (fzL 1 (cSl 2 c37) v2),.tv (fzL 1 (cSl 1 cStr) v3)] (by kernel_rfl) [] (by kernel_rfl) (f18_ok v1 v2 v3 hv4) (by kernel_rfl) (by kernel_rfl) _ rfl) ?_
  refine AOps.go [4,5,6,7,8,9,10] [] [] [0,6,8,10,12] 0 ⟨[(0,q0 v1),(6,.tv (.sc (.slice none 0 0))),(8,.tv (.sc (.slice none 0 0))),(10,.tv (.sc (.pointer none))),(12,tI v7)],[]⟩ ?_ z0 trivial ?_
  ·kernel_rfl
  refine AOps.nil ?_
  refine AWp.seq ?_
  refine AWp.seq ?_
  refine AWp.start [0,1] [] [] [0,6,8,10,12,27] 0 ⟨[(0,q0 v1),(6,.tv (.sc (.slice none 0 0))),(8,.tv (.sc (.slice none 0 0))),(10,.tv (.sc (.pointer none))),(12,tI v7),(27,tB (v7 != (0:Int)))],[]⟩ rfl ?_ z0 trivial ?_
  ·kernel_rfl
  refine AOps.nil ?_
  refine AWp.cond rfl (fun hb=>?_) fun hb=>?_
  ·replace h:=of_true h hb
   refine AWp.keepTo [12] 0 ⟨[(12,tI v7)],[]⟩ ?_ z0 ?_
   ·kernel_rfl
   refine AWp.seq ?_
   refine AWp.start [0,1,2,3,4] [] [] [6,7,8,9] 0 ⟨[(6,.tv (.sc (.slice none 0 0))),(7,.tv (.sc (.slice none 0 0))),(8,.tv (.sc (.slice none 0 0))),(9,tI v7)],[]⟩ rfl ?_ z0 trivial ?_
   ·kernel_rfl
   refine AOps.nil ?_
   refine AWp.nilFz 6 1 (fun i=>(cInt .i64) (([]:List Int).getD i default)) rfl ?_
   refine AWp.nilFz 7 1 (fun i=>(cInt .i64) (([]:List Int).getD i default)) rfl ?_
   refine AWp.nilFz 8 1 (fun i=>(cInt .i64) (([]:List Int).getD i default)) rfl ?_
   refine AWp.keepTo [6,7,8,9] 0 ⟨[(6,q1 ([]:List Int)),(7,q1 ([]:List Int)),(8,q1 ([]:List Int)),(9,tI v7)],[]⟩ ?_ z0 ?_
   ·kernel_rfl
   refine AWp.ret ?_
   cases h
   exact ⟨.inr rfl,rfl⟩
  ·replace h:=of_false h hb
   refine AWp.keepTo [0,6,8,10] 0 ⟨[(0,q0 v1),(6,.tv (.sc (.slice none 0 0))),(8,.tv (.sc (.slice none 0 0))),(10,.tv (.sc (.pointer none)))],[]⟩ ?_ z0 ?_
   ·kernel_rfl
   refine AWp.skip ?_
   refine AWp.seq ?_
   refine AWp.start [0,1] [] [] [0,6,8,10,13] 0 ⟨[(0,q0 v1),(6,.tv (.sc (.slice none 0 0))),(8,.tv (.sc (.slice none 0 0))),(10,.tv (.sc (.pointer none))),(13,.tv (.mp .i64 (some .i64) ([]:List (Int × Int))))],[]⟩ rfl ?_ z0 trivial ?_
   ·kernel_rfl
   refine AOps.nil ?_
   refine AWp.seq ?_
   refine AWp.seq ?_
   cases h
 ·replace h:(cond (v7 != (0:Int)) (some (([]:List Int),([]:List Int),([]:List Int),v7)) ((iter (fun s=>f6_b2 v1 v5 s.1 s.2.1 s.2.2.1 s.2.2.2) ([],[],([]:List (Int × Int)),(0:Int))).bind fun y=>match y with | .ret v18=>some (v18.1,v18.2.1,v18.2.2.1,v18.2.2.2) | .go (v12,v13)=>(f20 v5.f2).bind fun v19=>some (v12,v19,v13,(0:Int)))) = some r:=h
  refine AOps.cons (AOne.callO (F:=(FF 89 0)) _ rfl rfl rfl 22 rfl rfl 18 [] rfl Tryz.call18 [] (by decide) [q0 v1,.tv (fzL 1 (cSl 2 c37) v2),.tv (fzL 1 (cSl 1 cStr) v3)] (by kernel_rfl) [] (by kernel_rfl) (f18_ok v1 v2 v3 hv4) (by kernel_rfl) (by kernel_rfl) _ rfl) ?_
  refine AOps.go [4,5,6,7,8,9,10] [] [] [0,6,8,10,12] 1 ⟨[(0,q0 v1),(6,.tv (.sc (.slice none 0 0))),(8,.tv (.sc (.slice none 0 0))),(10,.pc 0 0),(12,tI v7)],[.cells 69 [k1 v5.f0,k2 v5.f1,k2 v5.f2]]⟩ ?_ z0 trivial ?_
  ·kernel_rfl
  refine AOps.nil ?_
  refine AWp.seq ?_
  refine AWp.seq ?_
  refine AWp.start [0,1] [] [] [0,6,8,10,12,27] 1 ⟨[(0,q0 v1),(6,.tv (.sc (.slice none 0 0))),(8,.tv (.sc (.slice none 0 0))),(10,.pc 0 0),(12,tI v7),(27,tB (v7 != (0:Int)))],[.cells 69 [k1 v5.f0,k2 v5.f1,k2 v5.f2]]⟩ rfl ?_ z0 trivial ?_
  ·kernel_rfl
  refine AOps.nil ?_
  refine AWp.cond rfl (fun hb=>?_) fun hb=>?_
  ·replace h:=of_true h hb
   refine AWp.keepTo [12] 0 ⟨[(12,tI v7)],[]⟩ ?_ z0 ?_
   ·kernel_rfl
   refine AWp.seq ?_
   refine AWp.start [0,1,2,3,4] [] [] [6,7,8,9] 0 ⟨[(6,.tv (.sc (.slice none 0 0))),(7,.tv (.sc (.slice none 0 0))),(8,.tv (.sc (.slice none 0 0))),(9,tI v7)],[]⟩ rfl ?_ z0 trivial ?_
   ·kernel_rfl
   refine AOps.nil ?_
   refine AWp.nilFz 6 1 (fun i=>(cInt .i64) (([]:List Int).getD i default)) rfl ?_
   refine AWp.nilFz 7 1 (fun i=>(cInt .i64) (([]:List Int).getD i default)) rfl ?_
   refine AWp.nilFz 8 1 (fun i=>(cInt .i64) (([]:List Int).getD i default)) rfl ?_
   refine AWp.keepTo [6,7,8,9] 0 ⟨[(6,q1 ([]:List Int)),(7,q1 ([]:List Int)),(8,q1 ([]:List Int)),(9,tI v7)],[]⟩ ?_ z0 ?_
   ·kernel_rfl
   refine AWp.ret ?_
   cases h
   exact ⟨.inr rfl,rfl⟩
  ·replace h:=of_false h hb
   refine AWp.keepTo [0,6,8,10] 1 ⟨[(0,q0 v1),(6,.tv (.sc (.slice none 0 0))),(8,.tv (.sc (.slice none 0 0))),(10,.pc 0 0)],[.cells 69 [k1 v5.f0,k2 v5.f1,k2 v5.f2]]⟩ ?_ z0 ?_
   ·kernel_rfl
   refine AWp.skip ?_
   refine AWp.seq ?_
   refine AWp.start [0,1] [] [] [0,6,8,10,13] 1 ⟨[(0,q0 v1),(6,.tv (.sc (.slice none 0 0))),(8,.tv (.sc (.slice none 0 0))),(10,.pc 0 0),(13,.tv (.mp .i64 (some .i64) ([]:List (Int × Int))))],[.cells 69 [k1 v5.f0,k2 v5.f1,k2 v5.f2]]⟩ rfl ?_ z0 trivial ?_
   ·kernel_rfl
   refine AOps.nil ?_
   refine AWp.seq ?_
   refine AWp.seq ?_
   refine AWp.start [0,1,2,3,4,5] [] [] [0,6,8,10,13,33,34,35] 1 ⟨[(0,q0 v1),(6,.tv (.sc (.slice none 0 0))),(8,.tv (.sc (.slice none 0 0))),(10,.pc 0 0),(13,.tv (.mp .i64 (some .i64) ([]:List (Int × Int)))),(33,.al (.cell 0 1,[])),(34,tI (v5.f1.length:Int)),(35,tI (0:Int))],[.cells 69 [k1 v5.f0,k2 v5.f1,k2 v5.f2]]⟩ rfl ?_ z0 trivial ?_
   ·kernel_rfl
   refine AOps.nil ?_
   refine AWp.block ?_
   refine AWp.nilOwn 6 1 3 (fun i=>(cInt .i64) (([]:List Int).getD i default)) rfl ?_
   refine AWp.nilOwn 8 1 3 (fun i=>(cInt .i64) (([]:List Int).getD i default)) rfl ?_
   refine AWp.keepTo [0,6,8,10,13,33,34,35] 1 ⟨[(0,q0 v1),(6,q2 ([]:List Int)),(8,q2 ([]:List Int)),(10,.pc 0 0),(13,.tv (.mp .i64 (some .i64) ([]:List (Int × Int)))),(33,.al (.cell 0 1,[])),(34,tI (v5.f1.length:Int)),(35,tI (0:Int))],[.cells 69 [k1 v5.f0,k2 v5.f1,k2 v5.f2]]⟩ ?_ z0 ?_
   ·kernel_rfl
   obtain ⟨y,hy,h⟩:=of_bind h
   refine AWp.mono (AWp.loop (S:=(List Int) × (List Int) × (List (Int × Int)) × Int) (Y:=Out ((List Int) × (List Int) × (List Int) × Int) ((List Int) × (List Int))) (fun s=>⟨[(0,q0 v1),(6,q2 s.1),(8,q2 s.2.1),(10,.pc 0 0),(13,.tv (.mp .i64 (some .i64) s.2.2.1)),(33,.al (.cell 0 1,[])),(34,tI (v5.f1.length:Int)),(35,tI s.2.2.2)],[.cells 69 [k1 v5.f0,k2 v5.f1,k2 v5.f2]]⟩) (fun s=>f6_b2 v1 v5 s.1 s.2.1 s.2.2.1 s.2.2.2) (fun y e σ=>match y with | .ret r=>e = .ret ∧ σ = ⟨[(6,q1 r.1),(7,q1 r.2.1),(8,q1 r.2.2.1),(9,tI r.2.2.2)],[]⟩ | .go v=>e = .exit 0 ∧ σ = ⟨[(6,q2 v.1),(8,q2 v.2),(10,.pc 0 0)],[.cells 69 [k1 v5.f0,k2 v5.f1,k2 v5.f2]]⟩) ?_ hy) ?_
   ·rintro ⟨v8,v9,v10,v11⟩ o h
    refine AWp.seq ?_
    refine AWp.start [0] [] [] [0,6,8,10,13,33,34,35,36] 1 ⟨[(0,q0 v1),(6,q2 v8),(8,q2 v9),(10,.pc 0 0),(13,.tv (.mp .i64 (some .i64) v10)),(33,.al (.cell 0 1,[])),(34,tI (v5.f1.length:Int)),(35,tI v11),(36,tB (decide (v11 < (v5.f1.length:Int))))],[.cells 69 [k1 v5.f0,k2 v5.f1,k2 v5.f2]]⟩ rfl ?_ z0 trivial ?_
    ·kernel_rfl
    refine AOps.nil ?_
    refine AWp.seq ?_
    refine AWp.cond rfl (fun hb=>?_) fun hb=>?_
    ·replace h:=of_true h hb
     refine AWp.keepTo [0,6,8,10,13,33,34,35] 1 ⟨[(0,q0 v1),(6,q2 v8),(8,q2 v9),(10,.pc 0 0),(13,.tv (.mp .i64 (some .i64) v10)),(33,.al (.cell 0 1,[])),(34,tI (v5.f1.length:Int)),(35,tI v11)],[.cells 69 [k1 v5.f0,k2 v5.f1,k2 v5.f2]]⟩ ?_ z0 ?_
     ·kernel_rfl
     refine AWp.skip ?_
     refine AWp.seq ?_
     refine AWp.block ?_
     refine AWp.seq ?_
     obtain ⟨hg,h⟩:=of_guard h
     refine AWp.start [0,1,2,3,4] [] [(0:Int) ≤ v11,v11 < (v5.f1.length:Int)] [0,6,8,10,13,14,15,33,34,35] 1 ⟨[(0,q0 v1),(6,q2 v8),(8,q2 v9),(10,.pc 0 0),(13,.tv (.mp .i64 (some .i64) v10)),(14,tI v11),(15,tI (gD v5.f1 v11)),(33,.al (.cell 0 1,[])),(34,tI (v5.f1.length:Int)),(35,tI v11)],[.cells 69 [k1 v5.f0,k2 v5.f1,k2 v5.f2]]⟩ rfl ?_ z0 ⟨hg.1,hg.2⟩ ?_
     ·kernel_rfl
     refine AOps.nil ?_
     refine AWp.seq ?_
     refine AWp.start [0,1,2,3,4,5,6,7] [] [] [0,6,8,10,13,14,15,16,17,33,34,35] 1 ⟨[(0,q0 v1),(6,q2 v8),(8,q2 v9),(10,.pc 0 0),(13,.tv (.mp .i64 (some .i64) v10)),(14,tI v11),(15,tI (gD v5.f1 v11)),(16,tI (mget v10 (gD v5.f1 v11))),(17,tB (mhas v10 (gD v5.f1 v11))),(33,.al (.cell 0 1,[])),(34,tI (v5.f1.length:Int)),(35,tI v11)],[.cells 69 [k1 v5.f0,k2 v5.f1,k2 v5.f2]]⟩ rfl ?_ z0 trivial ?_
     ·kernel_rfl
     refine AOps.nil ?_
     refine AWp.join (V:=(List Int) × (List (Int × Int)) × Int) (fun w=>⟨[(0,q0 v1),(6,q2 v8),(8,q2 w.1),(10,.pc 0 0),(13,.tv (.mp .i64 (some .i64) w.2.1)),(14,tI v11),(16,tI w.2.2),(33,.al (.cell 0 1,[])),(34,tI (v5.f1.length:Int)),(35,tI v11)],[.cells 69 [k1 v5.f0,k2 v5.f1,k2 v5.f2]]⟩) (fun w=>f6_j1 v1 v5 v8 v11 w.1 w.2.1 w.2.2 = some o) ?_ ?_
     ·refine AWp.seq ?_
      refine AWp.start [0,1] [] [] [0,6,8,10,13,14,15,16,33,34,35,47] 1 ⟨[(0,q0 v1),(6,q2 v8),(8,q2 v9),(10,.pc 0 0),(13,.tv (.mp .i64 (some .i64) v10)),(14,tI v11),(15,tI (gD v5.f1 v11)),(16,tI (mget v10 (gD v5.f1 v11))),(33,.al (.cell 0 1,[])),(34,tI (v5.f1.length:Int)),(35,tI v11),(47,tB (!(mhas v10 (gD v5.f1 v11))))],[.cells 69 [k1 v5.f0,k2 v5.f1,k2 v5.f2]]⟩ rfl ?_ z0 trivial ?_
      ·kernel_rfl
      refine AOps.nil ?_
      refine AWp.cond rfl (fun hb=>?_) fun hb=>?_
      ·replace h:=of_true h hb
       refine AWp.keepTo [0,6,8,10,13,14,15,33,34,35] 1 ⟨[(0,q0 v1),(6,q2 v8),(8,q2 v9),(10,.pc 0 0),(13,.tv (.mp .i64 (some .i64) v10)),(14,tI v11),(15,tI (gD v5.f1 v11)),(33,.al (.cell 0 1,[])),(34,tI (v5.f1.length:Int)),(35,tI v11)],[.cells 69 [k1 v5.f0,k2 v5.f1,k2 v5.f2]]⟩ ?_ z0 ?_
       ·kernel_rfl
       refine AWp.seq ?_
       refine AWp.start [0,1,2] [] [] [0,6,8,10,13,14,15,16,33,34,35] 1 ⟨[(0,q0 v1),(6,q2 v8),(8,q2 v9),(10,.pc 0 0),(13,.tv (.mp .i64 (some .i64) v10)),(14,tI v11),(15,tI (gD v5.f1 v11)),(16,tI (v9.length:Int)),(33,.al (.cell 0 1,[])),(34,tI (v5.f1.length:Int)),(35,tI v11)],[.cells 69 [k1 v5.f0,k2 v5.f1,k2 v5.f2]]⟩ rfl ?_ z0 trivial ?_
       ·kernel_rfl
       refine AOps.nil ?_
       refine AWp.seq ?_
       refine AWp.start [0,1,2,3] [] [] [0,6,8,10,13,14,16,33,34,35] 1 ⟨[(0,q0 v1),(6,q2 v8),(8,q2 v9),(10,.pc 0 0),(13,.tv (.mp .i64 (some .i64) (mset v10 (gD v5.f1 v11) (v9.length:Int)))),(14,tI v11),(16,tI (v9.length:Int)),(33,.al (.cell 0 1,[])),(34,tI (v5.f1.length:Int)),(35,tI v11)],[.cells 69 [k1 v5.f0,k2 v5.f1,k2 v5.f2]]⟩ rfl ?_ z0 trivial ?_
       ·kernel_rfl
       refine AOps.nil ?_
       refine AWp.start [0,1] [2,3] [] [0,6,8,10,13,14,16,33,34,35,53,54] 1 ⟨[(0,q0 v1),(6,q2 v8),(8,q2 v9),(10,.pc 0 0),(13,.tv (.mp .i64 (some .i64) (mset v10 (gD v5.f1 v11) (v9.length:Int)))),(14,tI v11),(16,tI (v9.length:Int)),(33,.al (.cell 0 1,[])),(34,tI (v5.f1.length:Int)),(35,tI v11),(53,.al (.slot 8 0,[])),(54,.tv (.own 1 3 1 (newRowF [.int .i64 (0:Int)] 1)))],[.cells 69 [k1 v5.f0,k2 v5.f1,k2 v5.f2]]⟩ rfl ?_ z0 trivial ?_
       ·kernel_rfl
       refine AOps.extL 54 (cInt .i64) [(0:Int)] rfl rfl (row_at (cInt .i64) 1 (fun _=>rfl) [(0:Int)] _ rfl) ?_
       obtain ⟨hg,h⟩:=of_guard h
       refine AOps.go [2] [3] [(v9.length + [(0:Int)].length) * 8 ≤ 140737488355328,PlainTo v9.length (fun i=>(cInt .i64) (v9.getD i default)),PlainTo ([(0:Int)].length) (fun i=>(cInt .i64) ([(0:Int)].getD i default))] [0,6,10,13,14,16,33,34,35,55] 1 ⟨[(0,q0 v1),(6,q2 v8),(10,.pc 0 0),(13,.tv (.mp .i64 (some .i64) (mset v10 (gD v5.f1 v11) (v9.length:Int)))),(14,tI v11),(16,tI (v9.length:Int)),(33,.al (.cell 0 1,[])),(34,tI (v5.f1.length:Int)),(35,tI v11),(55,.tv (.own 1 3 (v9.length + [(0:Int)].length) (appF v9.length (fun i=>(cInt .i64) (v9.getD i default)) (fun i=>(cInt .i64) ([(0:Int)].getD i default)))))],[.cells 69 [k1 v5.f0,k2 v5.f1,k2 v5.f2]]⟩ ?_ z0 ⟨hg,(fun _ _=>rfl),(fun _ _=>rfl)⟩ ?_
       ·kernel_rfl
       refine AOps.extL 55 (cInt .i64) (v9 ++ [(0:Int)]) rfl List.length_append.symm (app_at (cInt .i64) v9 [(0:Int)]) ?_
       refine AOps.go [3] [] [] [0,6,8,10,13,14,16,33,34,35] 1 ⟨[(0,q0 v1),(6,q2 v8),(8,q2 (v9 ++ [(0:Int)])),(10,.pc 0 0),(13,.tv (.mp .i64 (some .i64) (mset v10 (gD v5.f1 v11) (v9.length:Int)))),(14,tI v11),(16,tI (v9.length:Int)),(33,.al (.cell 0 1,[])),(34,tI (v5.f1.length:Int)),(35,tI v11)],[.cells 69 [k1 v5.f0,k2 v5.f1,k2 v5.f2]]⟩ ?_ z0 trivial ?_
       ·kernel_rfl
       refine AOps.nil ?_
       exact ⟨(v9 ++ [(0:Int)],mset v10 (gD v5.f1 v11) (v9.length:Int),(v9.length:Int)),h,rfl⟩
      ·replace h:=of_false h hb
       refine AWp.keepTo [0,6,8,10,13,14,16,33,34,35] 1 ⟨[(0,q0 v1),(6,q2 v8),(8,q2 v9),(10,.pc 0 0),(13,.tv (.mp .i64 (some .i64) v10)),(14,tI v11),(16,tI (mget v10 (gD v5.f1 v11))),(33,.al (.cell 0 1,[])),(34,tI (v5.f1.length:Int)),(35,tI v11)],[.cells 69 [k1 v5.f0,k2 v5.f1,k2 v5.f2]]⟩ ?_ z0 ?_
       ·kernel_rfl
       refine AWp.skip ?_
       exact ⟨(v9,v10,mget v10 (gD v5.f1 v11)),h,rfl⟩
     ·rintro ⟨v14,v15,v16⟩ h
      refine AWp.seq ?_
      refine AWp.start [0,1,2] [3,4] [] [0,6,8,10,13,14,16,33,34,35,56,58] 1 ⟨[(0,q0 v1),(6,q2 v8),(8,q2 v14),(10,.pc 0 0),(13,.tv (.mp .i64 (some .i64) v15)),(14,tI v11),(16,tI v16),(33,.al (.cell 0 1,[])),(34,tI (v5.f1.length:Int)),(35,tI v11),(56,.al (.slot 6 0,[])),(58,.tv (.own 1 3 1 (newRowF [.int .i64 v16] 1)))],[.cells 69 [k1 v5.f0,k2 v5.f1,k2 v5.f2]]⟩ rfl ?_ z0 trivial ?_
      ·kernel_rfl
      refine AOps.extL 58 (cInt .i64) [v16] rfl rfl (row_at (cInt .i64) 1 (fun _=>rfl) [v16] _ rfl) ?_
      obtain ⟨hg,h⟩:=of_guard h
      refine AOps.go [3] [4] [(v8.length + [v16].length) * 8 ≤ 140737488355328,PlainTo v8.length (fun i=>(cInt .i64) (v8.getD i default)),PlainTo ([v16].length) (fun i=>(cInt .i64) ([v16].getD i default))] [0,8,10,13,14,16,33,34,35,59] 1 ⟨[(0,q0 v1),(8,q2 v14),(10,.pc 0 0),(13,.tv (.mp .i64 (some .i64) v15)),(14,tI v11),(16,tI v16),(33,.al (.cell 0 1,[])),(34,tI (v5.f1.length:Int)),(35,tI v11),(59,.tv (.own 1 3 (v8.length + [v16].length) (appF v8.length (fun i=>(cInt .i64) (v8.getD i default)) (fun i=>(cInt .i64) ([v16].getD i default)))))],[.cells 69 [k1 v5.f0,k2 v5.f1,k2 v5.f2]]⟩ ?_ z0 ⟨hg,(fun _ _=>rfl),(fun _ _=>rfl)⟩ ?_
      ·kernel_rfl
      refine AOps.extL 59 (cInt .i64) (v8 ++ [v16]) rfl List.length_append.symm (app_at (cInt .i64) v8 [v16]) ?_
      refine AOps.go [4] [] [] [0,6,8,10,13,14,16,33,34,35] 1 ⟨[(0,q0 v1),(6,q2 (v8 ++ [v16])),(8,q2 v14),(10,.pc 0 0),(13,.tv (.mp .i64 (some .i64) v15)),(14,tI v11),(16,tI v16),(33,.al (.cell 0 1,[])),(34,tI (v5.f1.length:Int)),(35,tI v11)],[.cells 69 [k1 v5.f0,k2 v5.f1,k2 v5.f2]]⟩ ?_ z0 trivial ?_
      ·kernel_rfl
      refine AOps.nil ?_
      refine AWp.draw FFm _ (n:=22) rfl (ls:=#[n1,n1,n1,n1,n1,n1,n1,n1,n1,n1,n1,n1,n1,n1,n1,n1,n1,n1,n1,n1,n1,n1]) rfl ?_ (fun _ h=>h)
      obtain ⟨hg,h⟩:=of_guard h
      refine AAny.go (by kernel_rfl) [0,1,2,3,4,6,7,8,10,13,14,15,16] (fuel':=9) rfl [(0:Int) ≤ v16,v16 < (v14.length:Int),(0:Int) ≤ v11,v11 < (v1.length:Int)] #[y1,y1,y1,y1,y1,n1,y1,y1,y1,n1,y1,n1,n1,y1,y1,y1,y1,n1,n1,n1,n1,n1] [0,6,8,10,13,33,34,35,60,61,64,68,70,76] 1 ⟨[(0,q0 v1),(6,q2 (v8 ++ [v16])),(8,q2 v14),(10,.pc 0 0),(13,.tv (.mp .i64 (some .i64) v15)),(33,.al (.cell 0 1,[])),(34,tI (v5.f1.length:Int)),(35,tI v11),(60,.al (.slot 8 0,[])),(61,tI v16),(64,.pe (.slot 8 0,[]) v16.toNat 0 1),(68,.pc 0 2),(70,tI v11),(76,.agg (c25 (gD v1 v11)))],[.cells 69 [k1 v5.f0,k2 v5.f1,k2 v5.f2]]⟩ ?_ z0 ⟨hg.1,hg.2.1,hg.2.2.1,hg.2.2.2⟩ ?_
      ·kernel_rfl
      obtain ⟨hd11,h⟩:=of_guard h
      obtain ⟨v17,hv17,h⟩:=of_bind h
      obtain ⟨hd12,h⟩:=of_guard h
      refine AAny.share 1 #[y1,y1,y1,y1,y1,y1,y1,y1,y1,y1,y1,y1,y1,y1,y1,y1,y1,y1,y1,y1,y1,n1] ⟨[(0,q0 v1),(6,q2 (v8 ++ [v16])),(8,q2 v14),(10,.pc 0 0),(13,.tv (.mp .i64 (some .i64) v15)),(33,.al (.cell 0 1,[])),(34,tI (v5.f1.length:Int)),(35,tI v11),(79,tI (if w64 ((gD v5.f2 v11) + v17) > gD v14 v16 then w64 ((gD v5.f2 v11) + v17) else gD v14 v16)),(80,.pe (.slot 8 0,[]) v16.toNat 0 1)],[.cells 69 [k1 v5.f0,k2 v5.f1,k2 v5.f2]]⟩ ?_ fun n8_=>?_
      ·refine AAny.step (i:=21) (fuel':=0) rfl (by kernel_rfl) [PlainTo v14.length (fun i=>(cInt .i64) (v14.getD i default))] #[y1,y1,y1,y1,y1,y1,y1,y1,y1,y1,y1,y1,y1,y1,y1,y1,y1,y1,y1,y1,y1,y1] rfl [0,6,8,10,13,33,34,35] 1 ⟨[(0,q0 v1),(6,q2 (v8 ++ [v16])),(8,.tv (.own 1 3 v14.length (setElem (fun i=>(cInt .i64) (v14.getD i default)) v16.toNat (putAt ((cInt .i64) (gD v14 v16)) 0 [.int .i64 (if w64 ((gD v5.f2 v11) + v17) > gD v14 v16 then w64 ((gD v5.f2 v11) + v17) else gD v14 v16)])))),(10,.pc 0 0),(13,.tv (.mp .i64 (some .i64) v15)),(33,.al (.cell 0 1,[])),(34,tI (v5.f1.length:Int)),(35,tI v11)],[.cells 69 [k1 v5.f0,k2 v5.f1,k2 v5.f2]]⟩ ?_ z0 (fun _ _=>rfl) ?_
       ·kernel_rfl
       refine AAny.extL 8 (cInt .i64) (v14.set v16.toNat (if w64 ((gD v5.f2 v11) + v17) > gD v14 v16 then w64 ((gD v5.f2 v11) + v17) else gD v14 v16)) rfl (by simp) (set_at (cInt .i64) v14 v16.toNat 0 [.int .i64 (if w64 ((gD v5.f2 v11) + v17) > gD v14 v16 then w64 ((gD v5.f2 v11) + v17) else gD v14 v16)] (if w64 ((gD v5.f2 v11) + v17) > gD v14 v16 then w64 ((gD v5.f2 v11) + v17) else gD v14 v16) rfl) ?_
       refine AAny.keepTo [0,6,8,10,13,33,34,35] 1 ⟨[(0,q0 v1),(6,q2 (v8 ++ [v16])),(8,q2 (v14.set v16.toNat (if w64 ((gD v5.f2 v11) + v17) > gD v14 v16 then w64 ((gD v5.f2 v11) + v17) else gD v14 v16))),(10,.pc 0 0),(13,.tv (.mp .i64 (some .i64) v15)),(33,.al (.cell 0 1,[])),(34,tI (v5.f1.length:Int)),(35,tI v11)],[.cells 69 [k1 v5.f0,k2 v5.f1,k2 v5.f2]]⟩ _ ?_ rfl z0 (AAny.done (by kernel_rfl) ?_)
       ·kernel_rfl
       refine AWp.start [0,1] [] [] [0,6,8,10,13,33,34,35] 1 ⟨[(0,q0 v1),(6,q2 (v8 ++ [v16])),(8,q2 (v14.set v16.toNat (if w64 ((gD v5.f2 v11) + v17) > gD v14 v16 then w64 ((gD v5.f2 v11) + v17) else gD v14 v16))),(10,.pc 0 0),(13,.tv (.mp .i64 (some .i64) v15)),(33,.al (.cell 0 1,[])),(34,tI (v5.f1.length:Int)),(35,tI (w64 (v11 + (1:Int))))],[.cells 69 [k1 v5.f0,k2 v5.f1,k2 v5.f2]]⟩ rfl ?_ z0 trivial ?_
       ·kernel_rfl
       refine AOps.nil ?_
       cases h
       exact Or.inl ⟨_,rfl,rfl,rfl⟩
      refine AAny.share 4 #[y1,y1,y1,y1,y1,n1,y1,y1,y1,y1,y1,y1,y1,y1,y1,y1,y1,y1,y1,n1,n1,n1] ⟨[(0,q0 v1),(6,q2 (v8 ++ [v16])),(8,q2 v14),(10,.pc 0 0),(13,.tv (.mp .i64 (some .i64) v15)),(33,.al (.cell 0 1,[])),(34,tI (v5.f1.length:Int)),(35,tI v11),(60,.al (.slot 8 0,[])),(61,tI v16),(64,.pe (.slot 8 0,[]) v16.toNat 0 1),(78,tI (w64 ((gD v5.f2 v11) + v17)))],[.cells 69 [k1 v5.f0,k2 v5.f1,k2 v5.f2]]⟩ ?_ fun n7_=>?_
      ·refine AAny.each [5] (by kernel_rfl) rfl ?_
       refine AEach.step (i:=5) [] #[y1,y1,y1,y1,y1,y1,y1,y1,y1,y1,y1,y1,y1,y1,y1,y1,y1,y1,y1,n1,n1,n1] rfl [0,6,8,10,13,33,34,35,60,61,65,78] 1 ⟨[(0,q0 v1),(6,q2 (v8 ++ [v16])),(8,q2 v14),(10,.pc 0 0),(13,.tv (.mp .i64 (some .i64) v15)),(33,.al (.cell 0 1,[])),(34,tI (v5.f1.length:Int)),(35,tI v11),(60,.al (.slot 8 0,[])),(61,tI v16),(65,tI (gD v14 v16)),(78,tI (w64 ((gD v5.f2 v11) + v17)))],[.cells 69 [k1 v5.f0,k2 v5.f1,k2 v5.f2]]⟩ ?_ z0 trivial ?_ ?_
       ·kernel_rfl
       ·refine AAny.go (by kernel_rfl) [19,20] (fuel':=1) rfl [(0:Int) ≤ v16,v16 < (v14.length:Int)] #[y1,y1,y1,y1,y1,y1,y1,y1,y1,y1,y1,y1,y1,y1,y1,y1,y1,y1,y1,y1,y1,n1] [0,6,8,10,13,33,34,35,79,80] 1 ⟨[(0,q0 v1),(6,q2 (v8 ++ [v16])),(8,q2 v14),(10,.pc 0 0),(13,.tv (.mp .i64 (some .i64) v15)),(33,.al (.cell 0 1,[])),(34,tI (v5.f1.length:Int)),(35,tI v11),(79,tI (if w64 ((gD v5.f2 v11) + v17) > gD v14 v16 then w64 ((gD v5.f2 v11) + v17) else gD v14 v16)),(80,.pe (.slot 8 0,[]) v16.toNat 0 1)],[.cells 69 [k1 v5.f0,k2 v5.f1,k2 v5.f2]]⟩ ?_ z0 ⟨hd12.1,hd12.2⟩ ?_
        ·kernel_rfl
        exact n8_
       exact AEach.nil
      refine AAny.share 5 #[y1,y1,y1,y1,y1,y1,y1,y1,y1,y1,y1,y1,n1,y1,y1,y1,y1,y1,n1,n1,n1,n1] ⟨[(0,q0 v1),(6,q2 (v8 ++ [v16])),(8,q2 v14),(10,.pc 0 0),(13,.tv (.mp .i64 (some .i64) v15)),(33,.al (.cell 0 1,[])),(34,tI (v5.f1.length:Int)),(35,tI v11),(60,.al (.slot 8 0,[])),(61,tI v16),(65,tI (gD v14 v16)),(71,.pe (.cell 0 2,[]) v11.toNat 0 1),(77,tI v17)],[.cells 69 [k1 v5.f0,k2 v5.f1,k2 v5.f2]]⟩ ?_ fun n6_=>?_
      ·refine AAny.each [12] (by kernel_rfl) rfl ?_
       refine AEach.step (i:=12) [] #[y1,y1,y1,y1,y1,y1,y1,y1,y1,y1,y1,y1,y1,y1,y1,y1,y1,y1,n1,n1,n1,n1] rfl [0,6,8,10,13,33,34,35,60,61,65,72,77] 1 ⟨[(0,q0 v1),(6,q2 (v8 ++ [v16])),(8,q2 v14),(10,.pc 0 0),(13,.tv (.mp .i64 (some .i64) v15)),(33,.al (.cell 0 1,[])),(34,tI (v5.f1.length:Int)),(35,tI v11),(60,.al (.slot 8 0,[])),(61,tI v16),(65,tI (gD v14 v16)),(72,tI (gD v5.f2 v11)),(77,tI v17)],[.cells 69 [k1 v5.f0,k2 v5.f1,k2 v5.f2]]⟩ ?_ z0 trivial ?_ ?_
       ·kernel_rfl
       ·refine AAny.go (by kernel_rfl) [18,19,20] (fuel':=1) rfl [(0:Int) ≤ v16,v16 < (v14.length:Int)] #[y1,y1,y1,y1,y1,y1,y1,y1,y1,y1,y1,y1,y1,y1,y1,y1,y1,y1,y1,y1,y1,n1] [0,6,8,10,13,33,34,35,79,80] 1 ⟨[(0,q0 v1),(6,q2 (v8 ++ [v16])),(8,q2 v14),(10,.pc 0 0),(13,.tv (.mp .i64 (some .i64) v15)),(33,.al (.cell 0 1,[])),(34,tI (v5.f1.length:Int)),(35,tI v11),(79,tI (if w64 ((gD v5.f2 v11) + v17) > gD v14 v16 then w64 ((gD v5.f2 v11) + v17) else gD v14 v16)),(80,.pe (.slot 8 0,[]) v16.toNat 0 1)],[.cells 69 [k1 v5.f0,k2 v5.f1,k2 v5.f2]]⟩ ?_ z0 ⟨hd12.1,hd12.2⟩ ?_
        ·kernel_rfl
        exact n8_
       exact AEach.nil
      refine AAny.share 5 #[y1,y1,y1,y1,y1,y1,y1,y1,y1,y1,y1,y1,y1,y1,y1,y1,y1,n1,n1,n1,n1,n1] ⟨[(0,q0 v1),(6,q2 (v8 ++ [v16])),(8,q2 v14),(10,.pc 0 0),(13,.tv (.mp .i64 (some .i64) v15)),(33,.al (.cell 0 1,[])),(34,tI (v5.f1.length:Int)),(35,tI v11),(60,.al (.slot 8 0,[])),(61,tI v16),(65,tI (gD v14 v16)),(72,tI (gD v5.f2 v11)),(76,.agg (c25 (gD v1 v11)))],[.cells 69 [k1 v5.f0,k2 v5.f1,k2 v5.f2]]⟩ ?_ fun n11_=>?_
      ·refine AAny.each [17] (by kernel_rfl) rfl ?_
       refine AEach.one (i:=17) (AOne.callP (F:=(FF 89 0)) _ rfl rfl rfl _ rfl rfl _ _ rfl Tryz.call19 [.agg (c25 (gD v1 v11))] rfl rfl (f19_ok (gD v1 v11) hv17) rfl) ?_ ?_
       ·refine AAny.keepTo [0,6,8,10,13,33,34,35,60,61,65,72,77] 1 ⟨[(0,q0 v1),(6,q2 (v8 ++ [v16])),(8,q2 v14),(10,.pc 0 0),(13,.tv (.mp .i64 (some .i64) v15)),(33,.al (.cell 0 1,[])),(34,tI (v5.f1.length:Int)),(35,tI v11),(60,.al (.slot 8 0,[])),(61,tI v16),(65,tI (gD v14 v16)),(72,tI (gD v5.f2 v11)),(77,tI v17)],[.cells 69 [k1 v5.f0,k2 v5.f1,k2 v5.f2]]⟩ #[y1,y1,y1,y1,y1,y1,y1,y1,y1,y1,y1,y1,y1,y1,y1,y1,y1,y1,n1,n1,n1,n1] ?_ rfl z0 ?_
        ·kernel_rfl
        refine AAny.go (by kernel_rfl) [18,19,20] (fuel':=1) rfl [(0:Int) ≤ v16,v16 < (v14.length:Int)] #[y1,y1,y1,y1,y1,y1,y1,y1,y1,y1,y1,y1,y1,y1,y1,y1,y1,y1,y1,y1,y1,n1] [0,6,8,10,13,33,34,35,79,80] 1 ⟨[(0,q0 v1),(6,q2 (v8 ++ [v16])),(8,q2 v14),(10,.pc 0 0),(13,.tv (.mp .i64 (some .i64) v15)),(33,.al (.cell 0 1,[])),(34,tI (v5.f1.length:Int)),(35,tI v11),(79,tI (if w64 ((gD v5.f2 v11) + v17) > gD v14 v16 then w64 ((gD v5.f2 v11) + v17) else gD v14 v16)),(80,.pe (.slot 8 0,[]) v16.toNat 0 1)],[.cells 69 [k1 v5.f0,k2 v5.f1,k2 v5.f2]]⟩ ?_ z0 ⟨hd12.1,hd12.2⟩ ?_
        ·kernel_rfl
        exact n8_
       exact AEach.nil
      refine AAny.share 6 #[y1,y1,y1,y1,y1,n1,y1,y1,y1,y1,y1,y1,n1,y1,y1,y1,y1,y1,n1,n1,n1,n1] ⟨[(0,q0 v1),(6,q2 (v8 ++ [v16])),(8,q2 v14),(10,.pc 0 0),(13,.tv (.mp .i64 (some .i64) v15)),(33,.al (.cell 0 1,[])),(34,tI (v5.f1.length:Int)),(35,tI v11),(60,.al (.slot 8 0,[])),(61,tI v16),(64,.pe (.slot 8 0,[]) v16.toNat 0 1),(71,.pe (.cell 0 2,[]) v11.toNat 0 1),(77,tI v17)],[.cells 69 [k1 v5.f0,k2 v5.f1,k2 v5.f2]]⟩ ?_ fun n5_=>?_
      ·refine AAny.each [5,12] (by kernel_rfl) rfl ?_
       refine AEach.step (i:=5) [] #[y1,y1,y1,y1,y1,y1,y1,y1,y1,y1,y1,y1,n1,y1,y1,y1,y1,y1,n1,n1,n1,n1] rfl [0,6,8,10,13,33,34,35,60,61,65,71,77] 1 ⟨[(0,q0 v1),(6,q2 (v8 ++ [v16])),(8,q2 v14),(10,.pc 0 0),(13,.tv (.mp .i64 (some .i64) v15)),(33,.al (.cell 0 1,[])),(34,tI (v5.f1.length:Int)),(35,tI v11),(60,.al (.slot 8 0,[])),(61,tI v16),(65,tI (gD v14 v16)),(71,.pe (.cell 0 2,[]) v11.toNat 0 1),(77,tI v17)],[.cells 69 [k1 v5.f0,k2 v5.f1,k2 v5.f2]]⟩ ?_ z0 trivial ?_ ?_
       ·kernel_rfl
       ·exact n6_
       refine AEach.step (i:=12) [] #[y1,y1,y1,y1,y1,n1,y1,y1,y1,y1,y1,y1,y1,y1,y1,y1,y1,y1,n1,n1,n1,n1] rfl [0,6,8,10,13,33,34,35,60,61,64,72,77] 1 ⟨[(0,q0 v1),(6,q2 (v8 ++ [v16])),(8,q2 v14),(10,.pc 0 0),(13,.tv (.mp .i64 (some .i64) v15)),(33,.al (.cell 0 1,[])),(34,tI (v5.f1.length:Int)),(35,tI v11),(60,.al (.slot 8 0,[])),(61,tI v16),(64,.pe (.slot 8 0,[]) v16.toNat 0 1),(72,tI (gD v5.f2 v11)),(77,tI v17)],[.cells 69 [k1 v5.f0,k2 v5.f1,k2 v5.f2]]⟩ ?_ z0 trivial ?_ ?_
       ·kernel_rfl
       ·refine AAny.go (by kernel_rfl) [18] (fuel':=4) rfl [] #[y1,y1,y1,y1,y1,n1,y1,y1,y1,y1,y1,y1,y1,y1,y1,y1,y1,y1,y1,n1,n1,n1] [0,6,8,10,13,33,34,35,60,61,64,78] 1 ⟨[(0,q0 v1),(6,q2 (v8 ++ [v16])),(8,q2 v14),(10,.pc 0 0),(13,.tv (.mp .i64 (some .i64) v15)),(33,.al (.cell 0 1,[])),(34,tI (v5.f1.length:Int)),(35,tI v11),(60,.al (.slot 8 0,[])),(61,tI v16),(64,.pe (.slot 8 0,[]) v16.toNat 0 1),(78,tI (w64 ((gD v5.f2 v11) + v17)))],[.cells 69 [k1 v5.f0,k2 v5.f1,k2 v5.f2]]⟩ ?_ z0 trivial ?_
        ·kernel_rfl
        exact n7_
       exact AEach.nil
      refine AAny.share 6 #[y1,y1,y1,y1,y1,n1,y1,y1,y1,y1,y1,y1,y1,y1,y1,y1,y1,n1,n1,n1,n1,n1] ⟨[(0,q0 v1),(6,q2 (v8 ++ [v16])),(8,q2 v14),(10,.pc 0 0),(13,.tv (.mp .i64 (some .i64) v15)),(33,.al (.cell 0 1,[])),(34,tI (v5.f1.length:Int)),(35,tI v11),(60,.al (.slot 8 0,[])),(61,tI v16),(64,.pe (.slot 8 0,[]) v16.toNat 0 1),(72,tI (gD v5.f2 v11)),(76,.agg (c25 (gD v1 v11)))],[.cells 69 [k1 v5.f0,k2 v5.f1,k2 v5.f2]]⟩ ?_ fun n10_=>?_
      ·refine AAny.each [5,17] (by kernel_rfl) rfl ?_
       refine AEach.step (i:=5) [] #[y1,y1,y1,y1,y1,y1,y1,y1,y1,y1,y1,y1,y1,y1,y1,y1,y1,n1,n1,n1,n1,n1] rfl [0,6,8,10,13,33,34,35,60,61,65,72,76] 1 ⟨[(0,q0 v1),(6,q2 (v8 ++ [v16])),(8,q2 v14),(10,.pc 0 0),(13,.tv (.mp .i64 (some .i64) v15)),(33,.al (.cell 0 1,[])),(34,tI (v5.f1.length:Int)),(35,tI v11),(60,.al (.slot 8 0,[])),(61,tI v16),(65,tI (gD v14 v16)),(72,tI (gD v5.f2 v11)),(76,.agg (c25 (gD v1 v11)))],[.cells 69 [k1 v5.f0,k2 v5.f1,k2 v5.f2]]⟩ ?_ z0 trivial ?_ ?_
       ·kernel_rfl
       ·exact n11_
       refine AEach.one (i:=17) (AOne.callP (F:=(FF 89 0)) _ rfl rfl rfl _ rfl rfl _ _ rfl Tryz.call19 [.agg (c25 (gD v1 v11))] rfl rfl (f19_ok (gD v1 v11) hv17) rfl) ?_ ?_
       ·refine AAny.keepTo [0,6,8,10,13,33,34,35,60,61,64,72,77] 1 ⟨[(0,q0 v1),(6,q2 (v8 ++ [v16])),(8,q2 v14),(10,.pc 0 0),(13,.tv (.mp .i64 (some .i64) v15)),(33,.al (.cell 0 1,[])),(34,tI (v5.f1.length:Int)),(35,tI v11),(60,.al (.slot 8 0,[])),(61,tI v16),(64,.pe (.slot 8 0,[]) v16.toNat 0 1),(72,tI (gD v5.f2 v11)),(77,tI v17)],[.cells 69 [k1 v5.f0,k2 v5.f1,k2 v5.f2]]⟩ #[y1,y1,y1,y1,y1,n1,y1,y1,y1,y1,y1,y1,y1,y1,y1,y1,y1,y1,n1,n1,n1,n1] ?_ rfl z0 ?_
        ·kernel_rfl
        refine AAny.go (by kernel_rfl) [18] (fuel':=4) rfl [] #[y1,y1,y1,y1,y1,n1,y1,y1,y1,y1,y1,y1,y1,y1,y1,y1,y1,y1,y1,n1,n1,n1] [0,6,8,10,13,33,34,35,60,61,64,78] 1 ⟨[(0,q0 v1),(6,q2 (v8 ++ [v16])),(8,q2 v14),(10,.pc 0 0),(13,.tv (.mp .i64 (some .i64) v15)),(33,.al (.cell 0 1,[])),(34,tI (v5.f1.length:Int)),(35,tI v11),(60,.al (.slot 8 0,[])),(61,tI v16),(64,.pe (.slot 8 0,[]) v16.toNat 0 1),(78,tI (w64 ((gD v5.f2 v11) + v17)))],[.cells 69 [k1 v5.f0,k2 v5.f1,k2 v5.f2]]⟩ ?_ z0 trivial ?_
        ·kernel_rfl
        exact n7_
       exact AEach.nil
      refine AAny.share 6 #[y1,y1,y1,y1,y1,y1,y1,y1,y1,y1,y1,y1,n1,y1,y1,y1,y1,n1,n1,n1,n1,n1] ⟨[(0,q0 v1),(6,q2 (v8 ++ [v16])),(8,q2 v14),(10,.pc 0 0),(13,.tv (.mp .i64 (some .i64) v15)),(33,.al (.cell 0 1,[])),(34,tI (v5.f1.length:Int)),(35,tI v11),(60,.al (.slot 8 0,[])),(61,tI v16),(65,tI (gD v14 v16)),(71,.pe (.cell 0 2,[]) v11.toNat 0 1),(76,.agg (c25 (gD v1 v11)))],[.cells 69 [k1 v5.f0,k2 v5.f1,k2 v5.f2]]⟩ ?_ fun n9_=>?_
      ·refine AAny.each [12,17] (by kernel_rfl) rfl ?_
       refine AEach.step (i:=12) [] #[y1,y1,y1,y1,y1,y1,y1,y1,y1,y1,y1,y1,y1,y1,y1,y1,y1,n1,n1,n1,n1,n1] rfl [0,6,8,10,13,33,34,35,60,61,65,72,76] 1 ⟨[(0,q0 v1),(6,q2 (v8 ++ [v16])),(8,q2 v14),(10,.pc 0 0),(13,.tv (.mp .i64 (some .i64) v15)),(33,.al (.cell 0 1,[])),(34,tI (v5.f1.length:Int)),(35,tI v11),(60,.al (.slot 8 0,[])),(61,tI v16),(65,tI (gD v14 v16)),(72,tI (gD v5.f2 v11)),(76,.agg (c25 (gD v1 v11)))],[.cells 69 [k1 v5.f0,k2 v5.f1,k2 v5.f2]]⟩ ?_ z0 trivial ?_ ?_
       ·kernel_rfl
       ·exact n11_
       refine AEach.one (i:=17) (AOne.callP (F:=(FF 89 0)) _ rfl rfl rfl _ rfl rfl _ _ rfl Tryz.call19 [.agg (c25 (gD v1 v11))] rfl rfl (f19_ok (gD v1 v11) hv17) rfl) ?_ ?_
       ·refine AAny.keepTo [0,6,8,10,13,33,34,35,60,61,65,71,77] 1 ⟨[(0,q0 v1),(6,q2 (v8 ++ [v16])),(8,q2 v14),(10,.pc 0 0),(13,.tv (.mp .i64 (some .i64) v15)),(33,.al (.cell 0 1,[])),(34,tI (v5.f1.length:Int)),(35,tI v11),(60,.al (.slot 8 0,[])),(61,tI v16),(65,tI (gD v14 v16)),(71,.pe (.cell 0 2,[]) v11.toNat 0 1),(77,tI v17)],[.cells 69 [k1 v5.f0,k2 v5.f1,k2 v5.f2]]⟩ #[y1,y1,y1,y1,y1,y1,y1,y1,y1,y1,y1,y1,n1,y1,y1,y1,y1,y1,n1,n1,n1,n1] ?_ rfl z0 ?_
        ·kernel_rfl
        exact n6_
       exact AEach.nil
      refine AAny.share 7 #[y1,y1,y1,y1,y1,y1,y1,y1,y1,n1,y1,n1,n1,y1,y1,y1,y1,y1,n1,n1,n1,n1] ⟨[(0,q0 v1),(6,q2 (v8 ++ [v16])),(8,q2 v14),(10,.pc 0 0),(13,.tv (.mp .i64 (some .i64) v15)),(33,.al (.cell 0 1,[])),(34,tI (v5.f1.length:Int)),(35,tI v11),(60,.al (.slot 8 0,[])),(61,tI v16),(65,tI (gD v14 v16)),(68,.pc 0 2),(70,tI v11),(77,tI v17)],[.cells 69 [k1 v5.f0,k2 v5.f1,k2 v5.f2]]⟩ ?_ fun n4_=>?_
      ·refine AAny.each [9] (by kernel_rfl) rfl ?_
       refine AEach.step (i:=9) [] #[y1,y1,y1,y1,y1,y1,y1,y1,y1,y1,y1,n1,n1,y1,y1,y1,y1,y1,n1,n1,n1,n1] rfl [0,6,8,10,13,33,34,35,60,61,65,69,70,77] 1 ⟨[(0,q0 v1),(6,q2 (v8 ++ [v16])),(8,q2 v14),(10,.pc 0 0),(13,.tv (.mp .i64 (some .i64) v15)),(33,.al (.cell 0 1,[])),(34,tI (v5.f1.length:Int)),(35,tI v11),(60,.al (.slot 8 0,[])),(61,tI v16),(65,tI (gD v14 v16)),(69,.al (.cell 0 2,[])),(70,tI v11),(77,tI v17)],[.cells 69 [k1 v5.f0,k2 v5.f1,k2 v5.f2]]⟩ ?_ z0 trivial ?_ ?_
       ·kernel_rfl
       ·refine AAny.go (by kernel_rfl) [11] (fuel':=5) rfl [(0:Int) ≤ v11,v11 < (v5.f2.length:Int)] #[y1,y1,y1,y1,y1,y1,y1,y1,y1,y1,y1,y1,n1,y1,y1,y1,y1,y1,n1,n1,n1,n1] [0,6,8,10,13,33,34,35,60,61,65,71,77] 1 ⟨[(0,q0 v1),(6,q2 (v8 ++ [v16])),(8,q2 v14),(10,.pc 0 0),(13,.tv (.mp .i64 (some .i64) v15)),(33,.al (.cell 0 1,[])),(34,tI (v5.f1.length:Int)),(35,tI v11),(60,.al (.slot 8 0,[])),(61,tI v16),(65,tI (gD v14 v16)),(71,.pe (.cell 0 2,[]) v11.toNat 0 1),(77,tI v17)],[.cells 69 [k1 v5.f0,k2 v5.f1,k2 v5.f2]]⟩ ?_ z0 ⟨hd11.1,hd11.2⟩ ?_
        ·kernel_rfl
        exact n6_
       exact AEach.nil
      refine AAny.share 7 #[y1,y1,y1,y1,y1,n1,y1,y1,y1,y1,y1,y1,n1,y1,y1,y1,y1,n1,n1,n1,n1,n1] ⟨[(0,q0 v1),(6,q2 (v8 ++ [v16])),(8,q2 v14),(10,.pc 0 0),(13,.tv (.mp .i64 (some .i64) v15)),(33,.al (.cell 0 1,[])),(34,tI (v5.f1.length:Int)),(35,tI v11),(60,.al (.slot 8 0,[])),(61,tI v16),(64,.pe (.slot 8 0,[]) v16.toNat 0 1),(71,.pe (.cell 0 2,[]) v11.toNat 0 1),(76,.agg (c25 (gD v1 v11)))],[.cells 69 [k1 v5.f0,k2 v5.f1,k2 v5.f2]]⟩ ?_ fun n2_=>?_
      ·refine AAny.each [5,12,17] (by kernel_rfl) rfl ?_
       refine AEach.step (i:=5) [] #[y1,y1,y1,y1,y1,y1,y1,y1,y1,y1,y1,y1,n1,y1,y1,y1,y1,n1,n1,n1,n1,n1] rfl [0,6,8,10,13,33,34,35,60,61,65,71,76] 1 ⟨[(0,q0 v1),(6,q2 (v8 ++ [v16])),(8,q2 v14),(10,.pc 0 0),(13,.tv (.mp .i64 (some .i64) v15)),(33,.al (.cell 0 1,[])),(34,tI (v5.f1.length:Int)),(35,tI v11),(60,.al (.slot 8 0,[])),(61,tI v16),(65,tI (gD v14 v16)),(71,.pe (.cell 0 2,[]) v11.toNat 0 1),(76,.agg (c25 (gD v1 v11)))],[.cells 69 [k1 v5.f0,k2 v5.f1,k2 v5.f2]]⟩ ?_ z0 trivial ?_ ?_
       ·kernel_rfl
       ·exact n9_
       refine AEach.step (i:=12) [] #[y1,y1,y1,y1,y1,n1,y1,y1,y1,y1,y1,y1,y1,y1,y1,y1,y1,n1,n1,n1,n1,n1] rfl [0,6,8,10,13,33,34,35,60,61,64,72,76] 1 ⟨[(0,q0 v1),(6,q2 (v8 ++ [v16])),(8,q2 v14),(10,.pc 0 0),(13,.tv (.mp .i64 (some .i64) v15)),(33,.al (.cell 0 1,[])),(34,tI (v5.f1.length:Int)),(35,tI v11),(60,.al (.slot 8 0,[])),(61,tI v16),(64,.pe (.slot 8 0,[]) v16.toNat 0 1),(72,tI (gD v5.f2 v11)),(76,.agg (c25 (gD v1 v11)))],[.cells 69 [k1 v5.f0,k2 v5.f1,k2 v5.f2]]⟩ ?_ z0 trivial ?_ ?_
       ·kernel_rfl
       ·exact n10_
       refine AEach.one (i:=17) (AOne.callP (F:=(FF 89 0)) _ rfl rfl rfl _ rfl rfl _ _ rfl Tryz.call19 [.agg (c25 (gD v1 v11))] rfl rfl (f19_ok (gD v1 v11) hv17) rfl) ?_ ?_
       ·refine AAny.keepTo [0,6,8,10,13,33,34,35,60,61,64,71,77] 1 ⟨[(0,q0 v1),(6,q2 (v8 ++ [v16])),(8,q2 v14),(10,.pc 0 0),(13,.tv (.mp .i64 (some .i64) v15)),(33,.al (.cell 0 1,[])),(34,tI (v5.f1.length:Int)),(35,tI v11),(60,.al (.slot 8 0,[])),(61,tI v16),(64,.pe (.slot 8 0,[]) v16.toNat 0 1),(71,.pe (.cell 0 2,[]) v11.toNat 0 1),(77,tI v17)],[.cells 69 [k1 v5.f0,k2 v5.f1,k2 v5.f2]]⟩ #[y1,y1,y1,y1,y1,n1,y1,y1,y1,y1,y1,y1,n1,y1,y1,y1,y1,y1,n1,n1,n1,n1] ?_ rfl z0 ?_
        ·kernel_rfl
        exact n5_
       exact AEach.nil
      refine AAny.share 8 #[y1,y1,y1,y1,y1,n1,y1,y1,y1,n1,y1,n1,n1,y1,y1,y1,y1,y1,n1,n1,n1,n1] ⟨[(0,q0 v1),(6,q2 (v8 ++ [v16])),(8,q2 v14),(10,.pc 0 0),(13,.tv (.mp .i64 (some .i64) v15)),(33,.al (.cell 0 1,[])),(34,tI (v5.f1.length:Int)),(35,tI v11),(60,.al (.slot 8 0,[])),(61,tI v16),(64,.pe (.slot 8 0,[]) v16.toNat 0 1),(68,.pc 0 2),(70,tI v11),(77,tI v17)],[.cells 69 [k1 v5.f0,k2 v5.f1,k2 v5.f2]]⟩ ?_ fun n3_=>?_
      ·refine AAny.each [5,9] (by kernel_rfl) rfl ?_
       refine AEach.step (i:=5) [] #[y1,y1,y1,y1,y1,y1,y1,y1,y1,n1,y1,n1,n1,y1,y1,y1,y1,y1,n1,n1,n1,n1] rfl [0,6,8,10,13,33,34,35,60,61,65,68,70,77] 1 ⟨[(0,q0 v1),(6,q2 (v8 ++ [v16])),(8,q2 v14),(10,.pc 0 0),(13,.tv (.mp .i64 (some .i64) v15)),(33,.al (.cell 0 1,[])),(34,tI (v5.f1.length:Int)),(35,tI v11),(60,.al (.slot 8 0,[])),(61,tI v16),(65,tI (gD v14 v16)),(68,.pc 0 2),(70,tI v11),(77,tI v17)],[.cells 69 [k1 v5.f0,k2 v5.f1,k2 v5.f2]]⟩ ?_ z0 trivial ?_ ?_
       ·kernel_rfl
       ·exact n4_
       refine AEach.step (i:=9) [] #[y1,y1,y1,y1,y1,n1,y1,y1,y1,y1,y1,n1,n1,y1,y1,y1,y1,y1,n1,n1,n1,n1] rfl [0,6,8,10,13,33,34,35,60,61,64,69,70,77] 1 ⟨[(0,q0 v1),(6,q2 (v8 ++ [v16])),(8,q2 v14),(10,.pc 0 0),(13,.tv (.mp .i64 (some .i64) v15)),(33,.al (.cell 0 1,[])),(34,tI (v5.f1.length:Int)),(35,tI v11),(60,.al (.slot 8 0,[])),(61,tI v16),(64,.pe (.slot 8 0,[]) v16.toNat 0 1),(69,.al (.cell 0 2,[])),(70,tI v11),(77,tI v17)],[.cells 69 [k1 v5.f0,k2 v5.f1,k2 v5.f2]]⟩ ?_ z0 trivial ?_ ?_
       ·kernel_rfl
       ·refine AAny.go (by kernel_rfl) [11] (fuel':=6) rfl [(0:Int) ≤ v11,v11 < (v5.f2.length:Int)] #[y1,y1,y1,y1,y1,n1,y1,y1,y1,y1,y1,y1,n1,y1,y1,y1,y1,y1,n1,n1,n1,n1] [0,6,8,10,13,33,34,35,60,61,64,71,77] 1 ⟨[(0,q0 v1),(6,q2 (v8 ++ [v16])),(8,q2 v14),(10,.pc 0 0),(13,.tv (.mp .i64 (some .i64) v15)),(33,.al (.cell 0 1,[])),(34,tI (v5.f1.length:Int)),(35,tI v11),(60,.al (.slot 8 0,[])),(61,tI v16),(64,.pe (.slot 8 0,[]) v16.toNat 0 1),(71,.pe (.cell 0 2,[]) v11.toNat 0 1),(77,tI v17)],[.cells 69 [k1 v5.f0,k2 v5.f1,k2 v5.f2]]⟩ ?_ z0 ⟨hd11.1,hd11.2⟩ ?_
        ·kernel_rfl
        exact n5_
       exact AEach.nil
      refine AAny.share 8 #[y1,y1,y1,y1,y1,y1,y1,y1,y1,n1,y1,n1,n1,y1,y1,y1,y1,n1,n1,n1,n1,n1] ⟨[(0,q0 v1),(6,q2 (v8 ++ [v16])),(8,q2 v14),(10,.pc 0 0),(13,.tv (.mp .i64 (some .i64) v15)),(33,.al (.cell 0 1,[])),(34,tI (v5.f1.length:Int)),(35,tI v11),(60,.al (.slot 8 0,[])),(61,tI v16),(65,tI (gD v14 v16)),(68,.pc 0 2),(70,tI v11),(76,.agg (c25 (gD v1 v11)))],[.cells 69 [k1 v5.f0,k2 v5.f1,k2 v5.f2]]⟩ ?_ fun n1_=>?_
      ·refine AAny.each [9,17] (by kernel_rfl) rfl ?_
       refine AEach.step (i:=9) [] #[y1,y1,y1,y1,y1,y1,y1,y1,y1,y1,y1,n1,n1,y1,y1,y1,y1,n1,n1,n1,n1,n1] rfl [0,6,8,10,13,33,34,35,60,61,65,69,70,76] 1 ⟨[(0,q0 v1),(6,q2 (v8 ++ [v16])),(8,q2 v14),(10,.pc 0 0),(13,.tv (.mp .i64 (some .i64) v15)),(33,.al (.cell 0 1,[])),(34,tI (v5.f1.length:Int)),(35,tI v11),(60,.al (.slot 8 0,[])),(61,tI v16),(65,tI (gD v14 v16)),(69,.al (.cell 0 2,[])),(70,tI v11),(76,.agg (c25 (gD v1 v11)))],[.cells 69 [k1 v5.f0,k2 v5.f1,k2 v5.f2]]⟩ ?_ z0 trivial ?_ ?_
       ·kernel_rfl
       ·refine AAny.go (by kernel_rfl) [11] (fuel':=6) rfl [(0:Int) ≤ v11,v11 < (v5.f2.length:Int)] #[y1,y1,y1,y1,y1,y1,y1,y1,y1,y1,y1,y1,n1,y1,y1,y1,y1,n1,n1,n1,n1,n1] [0,6,8,10,13,33,34,35,60,61,65,71,76] 1 ⟨[(0,q0 v1),(6,q2 (v8 ++ [v16])),(8,q2 v14),(10,.pc 0 0),(13,.tv (.mp .i64 (some .i64) v15)),(33,.al (.cell 0 1,[])),(34,tI (v5.f1.length:Int)),(35,tI v11),(60,.al (.slot 8 0,[])),(61,tI v16),(65,tI (gD v14 v16)),(71,.pe (.cell 0 2,[]) v11.toNat 0 1),(76,.agg (c25 (gD v1 v11)))],[.cells 69 [k1 v5.f0,k2 v5.f1,k2 v5.f2]]⟩ ?_ z0 ⟨hd11.1,hd11.2⟩ ?_
        ·kernel_rfl
        exact n9_
       refine AEach.one (i:=17) (AOne.callP (F:=(FF 89 0)) _ rfl rfl rfl _ rfl rfl _ _ rfl Tryz.call19 [.agg (c25 (gD v1 v11))] rfl rfl (f19_ok (gD v1 v11) hv17) rfl) ?_ ?_
       ·refine AAny.keepTo [0,6,8,10,13,33,34,35,60,61,65,68,70,77] 1 ⟨[(0,q0 v1),(6,q2 (v8 ++ [v16])),(8,q2 v14),(10,.pc 0 0),(13,.tv (.mp .i64 (some .i64) v15)),(33,.al (.cell 0 1,[])),(34,tI (v5.f1.length:Int)),(35,tI v11),(60,.al (.slot 8 0,[])),(61,tI v16),(65,tI (gD v14 v16)),(68,.pc 0 2),(70,tI v11),(77,tI v17)],[.cells 69 [k1 v5.f0,k2 v5.f1,k2 v5.f2]]⟩ #[y1,y1,y1,y1,y1,y1,y1,y1,y1,n1,y1,n1,n1,y1,y1,y1,y1,y1,n1,n1,n1,n1] ?_ rfl z0 ?_
        ·kernel_rfl
        exact n4_
       exact AEach.nil
      refine AAny.each [5,9,17] (by kernel_rfl) rfl ?_
      refine AEach.step (i:=5) [] #[y1,y1,y1,y1,y1,y1,y1,y1,y1,n1,y1,n1,n1,y1,y1,y1,y1,n1,n1,n1,n1,n1] rfl [0,6,8,10,13,33,34,35,60,61,65,68,70,76] 1 ⟨[(0,q0 v1),(6,q2 (v8 ++ [v16])),(8,q2 v14),(10,.pc 0 0),(13,.tv (.mp .i64 (some .i64) v15)),(33,.al (.cell 0 1,[])),(34,tI (v5.f1.length:Int)),(35,tI v11),(60,.al (.slot 8 0,[])),(61,tI v16),(65,tI (gD v14 v16)),(68,.pc 0 2),(70,tI v11),(76,.agg (c25 (gD v1 v11)))],[.cells 69 [k1 v5.f0,k2 v5.f1,k2 v5.f2]]⟩ ?_ z0 trivial ?_ ?_
      ·kernel_rfl
      ·exact n1_
      refine AEach.step (i:=9) [] #[y1,y1,y1,y1,y1,n1,y1,y1,y1,y1,y1,n1,n1,y1,y1,y1,y1,n1,n1,n1,n1,n1] rfl [0,6,8,10,13,33,34,35,60,61,64,69,70,76] 1 ⟨[(0,q0 v1),(6,q2 (v8 ++ [v16])),(8,q2 v14),(10,.pc 0 0),(13,.tv (.mp .i64 (some .i64) v15)),(33,.al (.cell 0 1,[])),(34,tI (v5.f1.length:Int)),(35,tI v11),(60,.al (.slot 8 0,[])),(61,tI v16),(64,.pe (.slot 8 0,[]) v16.toNat 0 1),(69,.al (.cell 0 2,[])),(70,tI v11),(76,.agg (c25 (gD v1 v11)))],[.cells 69 [k1 v5.f0,k2 v5.f1,k2 v5.f2]]⟩ ?_ z0 trivial ?_ ?_
      ·kernel_rfl
      ·refine AAny.go (by kernel_rfl) [11] (fuel':=7) rfl [(0:Int) ≤ v11,v11 < (v5.f2.length:Int)] #[y1,y1,y1,y1,y1,n1,y1,y1,y1,y1,y1,y1,n1,y1,y1,y1,y1,n1,n1,n1,n1,n1] [0,6,8,10,13,33,34,35,60,61,64,71,76] 1 ⟨[(0,q0 v1),(6,q2 (v8 ++ [v16])),(8,q2 v14),(10,.pc 0 0),(13,.tv (.mp .i64 (some .i64) v15)),(33,.al (.cell 0 1,[])),(34,tI (v5.f1.length:Int)),(35,tI v11),(60,.al (.slot 8 0,[])),(61,tI v16),(64,.pe (.slot 8 0,[]) v16.toNat 0 1),(71,.pe (.cell 0 2,[]) v11.toNat 0 1),(76,.agg (c25 (gD v1 v11)))],[.cells 69 [k1 v5.f0,k2 v5.f1,k2 v5.f2]]⟩ ?_ z0 ⟨hd11.1,hd11.2⟩ ?_
       ·kernel_rfl
       exact n2_
      refine AEach.one (i:=17) (AOne.callP (F:=(FF 89 0)) _ rfl rfl rfl _ rfl rfl _ _ rfl Tryz.call19 [.agg (c25 (gD v1 v11))] rfl rfl (f19_ok (gD v1 v11) hv17) rfl) ?_ ?_
      ·refine AAny.keepTo [0,6,8,10,13,33,34,35,60,61,64,68,70,77] 1 ⟨[(0,q0 v1),(6,q2 (v8 ++ [v16])),(8,q2 v14),(10,.pc 0 0),(13,.tv (.mp .i64 (some .i64) v15)),(33,.al (.cell 0 1,[])),(34,tI (v5.f1.length:Int)),(35,tI v11),(60,.al (.slot 8 0,[])),(61,tI v16),(64,.pe (.slot 8 0,[]) v16.toNat 0 1),(68,.pc 0 2),(70,tI v11),(77,tI v17)],[.cells 69 [k1 v5.f0,k2 v5.f1,k2 v5.f2]]⟩ #[y1,y1,y1,y1,y1,n1,y1,y1,y1,n1,y1,n1,n1,y1,y1,y1,y1,y1,n1,n1,n1,n1] ?_ rfl z0 ?_
       ·kernel_rfl
       exact n3_
      exact AEach.nil
    ·replace h:=of_false h hb
     refine AWp.keepTo [6,8,10] 1 ⟨[(6,q2 v8),(8,q2 v9),(10,.pc 0 0)],[.cells 69 [k1 v5.f0,k2 v5.f1,k2 v5.f2]]⟩ ?_ z0 ?_
     ·kernel_rfl
     refine AWp.exit ?_
     cases h
     exact Or.inr ⟨_,rfl,by simp,rfl,rfl⟩
   ·intro e σ hp
    rcases y with v18 | ⟨v12,v13⟩
    ·obtain ⟨rfl,rfl⟩:=hp
     cases h
     exact ⟨.inr rfl,rfl⟩
    ·obtain ⟨rfl,rfl⟩:=hp
     refine AWp.seq ?_
     refine AWp.freezeL 6 (cInt .i64) v12 rfl (fun _=>rfl) ?_
     refine AWp.freezeL 8 (cInt .i64) v13 rfl (fun _=>rfl) ?_
     refine AWp.start [0,1,2,3,4] [5,6,7,8,9,10] [] [8,82,86] 1 ⟨[(8,q1 v13),(82,q1 v12),(86,.al (.cell 0 2,[]))],[.cells 69 [k1 v5.f0,k2 v5.f1,k2 v5.f2]]⟩ rfl ?_ z0 trivial ?_
     ·kernel_rfl
     refine AOps.claim 86 (.cell 0 2) (k2 v5.f2) rfl rfl rfl rfl ?_
     refine AOps.freezeL 86 (cInt .i64) v5.f2 rfl (fun _=>rfl) ?_
     obtain ⟨v19,hv19,h⟩:=of_bind h
     refine AOps.cons (AOne.callP (F:=(FF 89 0)) _ rfl rfl rfl _ rfl rfl _ _ rfl Tryz.call20 [q1 v5.f2] rfl rfl (f20_ok v5.f2 hv19) rfl) ?_
     refine AOps.go [6,7,8,9,10] [] [] [6,7,8,9] 0 ⟨[(6,q1 v12),(7,q2 v19),(8,q1 v13),(9,tI (0:Int))],[]⟩ ?_ z0 trivial ?_
     ·kernel_rfl
     refine AOps.nil ?_
     refine AWp.freezeL 7 (cInt .i64) v19 rfl (fun _=>rfl) ?_
     refine AWp.keepTo [6,7,8,9] 0 ⟨[(6,q1 v12),(7,q1 v19),(8,q1 v13),(9,tI (0:Int))],[]⟩ ?_ z0 ?_
     ·kernel_rfl
     refine AWp.ret ?_
     cases h
     exact ⟨.inr rfl,rfl⟩

noncomputable def f47 (v1:Int):Option Bool :=
 some (decide (v1 < (0:Int)))

theorem f47_ok (v1:Int) {r:Bool} (h:f47 v1 = some r):ACall Tryz.prog 47 [.tv (.int .i64 v1)] [] (.tv (.bool r)) []:=by
 refine ACall.of1 (FF 5 0) Tryz.func47 rfl Tryz.ntmps47 Tryz.results47 (zz rfl) rfl rfl ?_
 refine AWp.seq ?_
 refine AWp.start [0] [] [] [0] 0 ⟨[(0,tI v1)],[]⟩ rfl ?_ z0 trivial ?_
 ·kernel_rfl
 refine AOps.nil ?_
 refine AWp.seq ?_
 refine AWp.start [0,1,2] [] [] [2] 0 ⟨[(2,tB (decide (v1 < (0:Int))))],[]⟩ rfl ?_ z0 trivial ?_
 ·kernel_rfl
 refine AOps.nil ?_
 refine AWp.ret ?_
 cases h
 exact ⟨.inr rfl,rfl⟩

noncomputable def f87_47_b1 (v1:List Int) (v2:Int):Option (Int ⊕ Out Int Unit) :=
 cond (decide (v2 < (v1.length:Int))) (if (0:Int) ≤ v2 ∧ v2 < (v1.length:Int) then (f47 (v1.getD v2.toNat default)).bind fun v3=>cond v3 (some (.inr (.ret v2))) (some (.inl (w64 (v2 + (1:Int))))) else none) (some (.inr (.go ())))

noncomputable def f87_47 (v1:List Int):Option Int :=
 (iter (fun s=>f87_47_b1 v1 s) (0:Int)).bind fun y=>match y with | .ret v4=>some v4 | .go _=>some (-1:Int)

theorem f87_47_ok (v1:List Int) {r:Int} (h:f87_47 v1 = some r):ACall Tryz.prog 87 [.tv (fzL 1 (cInt .i64) v1),.fn 47 []] [] (.tv (.int .i64 r)) []:=by
 refine ACall.of1 (FF 19 0) Tryz.func87 rfl Tryz.ntmps87 Tryz.results87 (zz rfl) rfl rfl ?_
 refine AWp.seq ?_
 refine AWp.start [0] [] [] [0,1] 0 ⟨[(0,q1 v1),(1,.fn 47 [])],[]⟩ rfl ?_ z0 trivial ?_
 ·kernel_rfl
 refine AOps.nil ?_
 refine AWp.seq ?_
 refine AWp.seq ?_
 refine AWp.start [0,1,2] [] [] [0,1,7,8] 0 ⟨[(0,q1 v1),(1,.fn 47 []),(7,tI (v1.length:Int)),(8,tI (0:Int))],[]⟩ rfl ?_ z0 trivial ?_
 ·kernel_rfl
 refine AOps.nil ?_
 refine AWp.block ?_
 obtain ⟨y,hy,h⟩:=of_bind h
 refine AWp.mono (AWp.loop (S:=Int) (Y:=Out Int Unit) (fun s=>⟨[(0,q1 v1),(1,.fn 47 []),(7,tI (v1.length:Int)),(8,tI s)],[]⟩) (fun s=>f87_47_b1 v1 s) (fun y e σ=>match y with | .ret r=>e = .ret ∧ σ = ⟨[(4,tI r)],[]⟩ | .go v=>e = .exit 0 ∧ σ = ⟨[],[]⟩) ?_ hy) ?_
 ·rintro v2 o h
  refine AWp.seq ?_
  refine AWp.start [0] [] [] [0,1,7,8,9] 0 ⟨[(0,q1 v1),(1,.fn 47 []),(7,tI (v1.length:Int)),(8,tI v2),(9,tB (decide (v2 < (v1.length:Int))))],[]⟩ rfl ?_ z0 trivial ?_
  ·kernel_rfl
  refine AOps.nil ?_
  refine AWp.seq ?_
  refine AWp.cond rfl (fun hb=>?_) fun hb=>?_
  ·replace h:=of_true h hb
   refine AWp.keepTo [0,1,7,8] 0 ⟨[(0,q1 v1),(1,.fn 47 []),(7,tI (v1.length:Int)),(8,tI v2)],[]⟩ ?_ z0 ?_
   ·kernel_rfl
   refine AWp.skip ?_
   refine AWp.seq ?_
   refine AWp.block ?_
   refine AWp.seq ?_
   refine AWp.start [0,1] [] [] [0,1,5,7,8] 0 ⟨[(0,q1 v1),(1,.fn 47 []),(5,tI v2),(7,tI (v1.length:Int)),(8,tI v2)],[]⟩ rfl ?_ z0 trivial ?_
   ·kernel_rfl
   refine AOps.nil ?_
   refine AWp.seq ?_
   obtain ⟨hg,h⟩:=of_guard h
   refine AWp.start [0,1,2,3,4] [5] [(0:Int) ≤ v2,v2 < (v1.length:Int)] [0,1,5,7,8,11,15] 0 ⟨[(0,q1 v1),(1,.fn 47 []),(5,tI v2),(7,tI (v1.length:Int)),(8,tI v2),(11,.fn 47 []),(15,tI (gD v1 v2))],[]⟩ rfl ?_ z0 ⟨hg.1,hg.2⟩ ?_
   ·kernel_rfl
   obtain ⟨v3,hv3,h⟩:=of_bind h
   refine AOps.cons (AOne.callP (F:=(FF 19 0)) _ rfl rfl rfl _ rfl rfl _ _ rfl Tryz.call47 [tI (gD v1 v2)] rfl rfl (f47_ok (gD v1 v2) hv3) rfl) ?_
   refine AOps.keepTo [0,1,5,7,8,16] 0 ⟨[(0,q1 v1),(1,.fn 47 []),(5,tI v2),(7,tI (v1.length:Int)),(8,tI v2),(16,tB v3)],[]⟩ ?_ z0 ?_
   ·kernel_rfl
   refine AOps.nil ?_
   refine AWp.cond rfl (fun hb=>?_) fun hb=>?_
   ·replace h:=of_true h hb
    refine AWp.keepTo [5] 0 ⟨[(5,tI v2)],[]⟩ ?_ z0 ?_
    ·kernel_rfl
    refine AWp.seq ?_
    refine AWp.start [0,1] [] [] [4] 0 ⟨[(4,tI v2)],[]⟩ rfl ?_ z0 trivial ?_
    ·kernel_rfl
    refine AOps.nil ?_
    refine AWp.ret ?_
    cases h
    exact Or.inr ⟨_,rfl,by simp,rfl,rfl⟩
   ·replace h:=of_false h hb
    refine AWp.keepTo [0,1,7,8] 0 ⟨[(0,q1 v1),(1,.fn 47 []),(7,tI (v1.length:Int)),(8,tI v2)],[]⟩ ?_ z0 ?_
    ·kernel_rfl
    refine AWp.skip ?_
    refine AWp.start [0,1] [] [] [0,1,7,8] 0 ⟨[(0,q1 v1),(1,.fn 47 []),(7,tI (v1.length:Int)),(8,tI (w64 (v2 + (1:Int))))],[]⟩ rfl ?_ z0 trivial ?_
    ·kernel_rfl
    refine AOps.nil ?_
    cases h
    exact Or.inl ⟨_,rfl,rfl,rfl⟩
  ·replace h:=of_false h hb
   refine AWp.keepTo [] 0 ⟨[],[]⟩ ?_ z0 ?_
   ·kernel_rfl
   refine AWp.exit ?_
   cases h
   exact Or.inr ⟨_,rfl,by simp,rfl,rfl⟩
 ·intro e σ hp
  rcases y with v4 | _
  ·obtain ⟨rfl,rfl⟩:=hp
   cases h
   exact ⟨.inr rfl,rfl⟩
  ·obtain ⟨rfl,rfl⟩:=hp
   refine AWp.seq ?_
   refine AWp.start [0] [] [] [4] 0 ⟨[(4,tI (-1:Int))],[]⟩ rfl ?_ z0 trivial ?_
   ·kernel_rfl
   refine AOps.nil ?_
   refine AWp.ret ?_
   cases h
   exact ⟨.inr rfl,rfl⟩

noncomputable def f49_47 (v1:List Int):Option Bool :=
 (f87_47 v1).bind fun v2=>some (decide (v2 ≥ (0:Int)))

theorem f49_47_ok (v1:List Int) {r:Bool} (h:f49_47 v1 = some r):ACall Tryz.prog 49 [.tv (fzL 1 (cInt .i64) v1),.fn 47 []] [] (.tv (.bool r)) []:=by
 refine ACall.of1 (FF 9 0) Tryz.func49 rfl Tryz.ntmps49 Tryz.results49 (zz rfl) rfl rfl ?_
 refine AWp.seq ?_
 refine AWp.start [0] [] [] [0,1] 0 ⟨[(0,q1 v1),(1,.fn 47 [])],[]⟩ rfl ?_ z0 trivial ?_
 ·kernel_rfl
 refine AOps.nil ?_
 refine AWp.seq ?_
 refine AWp.start [0,1] [2,3,4] [] [5,6] 0 ⟨[(5,q1 v1),(6,.fn 47 [])],[]⟩ rfl ?_ z0 trivial ?_
 ·kernel_rfl
 obtain ⟨v2,hv2,h⟩:=of_bind h
 refine AOps.cons (AOne.callP (F:=(FF 9 0)) _ rfl rfl rfl _ rfl rfl _ _ rfl Tryz.call87 [q1 v1,.fn 47 []] rfl rfl (f87_47_ok v1 hv2) rfl) ?_
 refine AOps.go [3,4] [] [] [4] 0 ⟨[(4,tB (decide (v2 ≥ (0:Int))))],[]⟩ ?_ z0 trivial ?_
 ·kernel_rfl
 refine AOps.nil ?_
 refine AWp.ret ?_
 cases h
 exact ⟨.inr rfl,rfl⟩

noncomputable def f21 (v1:List T25) (v2:List Int) (v3:List Int):Option Bool :=
 (f48 v1).bind fun v4=>(cond v4 (some ((v2.length:Int) == (v1.length:Int))) (some false)).bind fun v5=>(cond v5 (some ((v3.length:Int) == (v1.length:Int))) (some false)).bind fun v6=>(cond v6 ((f49_47 v2).bind fun v8=>some (!v8)) (some false)).bind fun v7=>(cond v7 ((f49_47 v3).bind fun v10=>some (!v10)) (some false)).bind fun v9=>some v9

theorem f21_ok (v1:List T25) (v2:List Int) (v3:List Int) {r:Bool} (h:f21 v1 v2 v3 = some r):ACall Tryz.prog 21 [.tv (fzL 3 c25 v1),.tv (fzL 1 (cInt .i64) v2),.tv (fzL 1 (cInt .i64) v3)] [] (.tv (.bool r)) []:=by
 refine ACall.of1 (FF 36 0) Tryz.func21 rfl Tryz.ntmps21 Tryz.results21 (zz rfl) rfl rfl ?_
 refine AWp.seq ?_
 refine AWp.start [0] [] [] [0,1,2] 0 ⟨[(0,q0 v1),(1,q1 v2),(2,q1 v3)],[]⟩ rfl ?_ z0 trivial ?_
 ·kernel_rfl
 refine AOps.nil ?_
 refine AWp.seq ?_
 refine AWp.start [0] [] [] [0,1,2,7] 0 ⟨[(0,q0 v1),(1,q1 v2),(2,q1 v3),(7,.fn 47 [])],[]⟩ rfl ?_ z0 trivial ?_
 ·kernel_rfl
 refine AOps.nil ?_
 refine AWp.seq ?_
 refine AWp.start [0] [1,2,3,4,5,6,7,8,9,10,11,12,13,14,15,16,17,18,19,20,21,22,23,24,25,26,27,28] [] [0,1,2,7,8] 0 ⟨[(0,q0 v1),(1,q1 v2),(2,q1 v3),(7,.fn 47 []),(8,q0 v1)],[]⟩ rfl ?_ z0 trivial ?_
 ·kernel_rfl
 obtain ⟨v4,hv4,h⟩:=of_bind h
 refine AOps.cons (AOne.callP (F:=(FF 36 0)) _ rfl rfl rfl _ rfl rfl _ _ rfl Tryz.call48 [q0 v1] rfl rfl (f48_ok v1 hv4) rfl) ?_
 refine AOps.go [2] [3,4,5,6,7,8,9,10,11,12,13,14,15,16,17,18,19,20,21,22,23,24,25,26,27,28] [] [0,1,2,7,10] 0 ⟨[(0,q0 v1),(1,q1 v2),(2,q1 v3),(7,.fn 47 []),(10,tB v4)],[]⟩ ?_ z0 trivial ?_
 ·kernel_rfl
 obtain ⟨v5,hc3,h⟩:=of_bind h
 refine AOps.cut [3,4,5,6,7,8] [9,10,11,12,13,14,15,16,17,18,19,20,21,22,23,24,25,26,27,28] (fun σ=>σ = ⟨[(0,q0 v1),(1,q1 v2),(2,q1 v3),(7,.fn 47 []),(16,tB v5)],[]⟩) ?_ fun σ' hJ=>?_
 ·refine AOps.split (fun b=>⟨[(0,q0 v1),(1,q1 v2),(2,q1 v3),(7,.fn 47 []),(10,tB b)],[]⟩) _ (fun hb=>?_) fun hb=>?_
  ·replace hc3:=of_true hc3 hb
   refine AOps.go [3,4,5,6,7,8] [] [] [0,1,2,7,16] 0 ⟨[(0,q0 v1),(1,q1 v2),(2,q1 v3),(7,.fn 47 []),(16,tB ((v2.length:Int) == (v1.length:Int)))],[]⟩ ?_ z0 trivial ?_
   ·kernel_rfl
   cases hc3
   exact AOps.nil rfl
  ·replace hc3:=of_false hc3 hb
   refine AOps.go [3,4,5,6,7,8] [] [] [0,1,2,7,16] 0 ⟨[(0,q0 v1),(1,q1 v2),(2,q1 v3),(7,.fn 47 []),(16,tB false)],[]⟩ ?_ z0 trivial ?_
   ·kernel_rfl
   cases hc3
   exact AOps.nil rfl
 subst hJ
 refine AOps.go [9] [10,11,12,13,14,15,16,17,18,19,20,21,22,23,24,25,26,27,28] [] [0,1,2,7,17] 0 ⟨[(0,q0 v1),(1,q1 v2),(2,q1 v3),(7,.fn 47 []),(17,tB v5)],[]⟩ ?_ z0 trivial ?_
 ·kernel_rfl
 obtain ⟨v6,hc10,h⟩:=of_bind h
 refine AOps.cut [10,11,12,13,14,15] [16,17,18,19,20,21,22,23,24,25,26,27,28] (fun σ=>σ = ⟨[(1,q1 v2),(2,q1 v3),(7,.fn 47 []),(23,tB v6)],[]⟩) ?_ fun σ' hJ=>?_
 ·refine AOps.split (fun b=>⟨[(0,q0 v1),(1,q1 v2),(2,q1 v3),(7,.fn 47 []),(17,tB b)],[]⟩) _ (fun hb=>?_) fun hb=>?_
  ·replace hc10:=of_true hc10 hb
   refine AOps.go [10,11,12,13,14,15] [] [] [1,2,7,23] 0 ⟨[(1,q1 v2),(2,q1 v3),(7,.fn 47 []),(23,tB ((v3.length:Int) == (v1.length:Int)))],[]⟩ ?_ z0 trivial ?_
   ·kernel_rfl
   cases hc10
   exact AOps.nil rfl
  ·replace hc10:=of_false hc10 hb
   refine AOps.go [10,11,12,13,14,15] [] [] [1,2,7,23] 0 ⟨[(1,q1 v2),(2,q1 v3),(7,.fn 47 []),(23,tB false)],[]⟩ ?_ z0 trivial ?_
   ·kernel_rfl
   cases hc10
   exact AOps.nil rfl
 subst hJ
 refine AOps.go [16] [17,18,19,20,21,22,23,24,25,26,27,28] [] [1,2,7,24] 0 ⟨[(1,q1 v2),(2,q1 v3),(7,.fn 47 []),(24,tB v6)],[]⟩ ?_ z0 trivial ?_
 ·kernel_rfl
 obtain ⟨v7,hc17,h⟩:=of_bind h
 refine AOps.cut [17,18,19,20,21] [22,23,24,25,26,27,28] (fun σ=>σ = ⟨[(2,q1 v3),(7,.fn 47 []),(29,tB v7)],[]⟩) ?_ fun σ' hJ=>?_
 ·refine AOps.split (fun b=>⟨[(1,q1 v2),(2,q1 v3),(7,.fn 47 []),(24,tB b)],[]⟩) _ (fun hb=>?_) fun hb=>?_
  ·replace hc17:=of_true hc17 hb
   refine AOps.go [17,18] [19,20,21] [] [2,7,24,25,26] 0 ⟨[(2,q1 v3),(7,.fn 47 []),(24,tB true),(25,q1 v2),(26,.fn 47 [])],[]⟩ ?_ z0 trivial ?_
   ·kernel_rfl
   obtain ⟨v8,hv8,hc17⟩:=of_bind hc17
   refine AOps.cons (AOne.callP (F:=(FF 36 0)) _ rfl rfl rfl _ rfl rfl _ _ rfl Tryz.call49 [q1 v2,.fn 47 []] rfl rfl (f49_47_ok v2 hv8) rfl) ?_
   refine AOps.go [20,21] [] [] [2,7,29] 0 ⟨[(2,q1 v3),(7,.fn 47 []),(29,tB (!v8))],[]⟩ ?_ z0 trivial ?_
   ·kernel_rfl
   cases hc17
   exact AOps.nil rfl
  ·replace hc17:=of_false hc17 hb
   refine AOps.go [17,18,19,20,21] [] [] [2,7,29] 0 ⟨[(2,q1 v3),(7,.fn 47 []),(29,tB false)],[]⟩ ?_ z0 trivial ?_
   ·kernel_rfl
   cases hc17
   exact AOps.nil rfl
 subst hJ
 refine AOps.go [22] [23,24,25,26,27,28] [] [2,7,30] 0 ⟨[(2,q1 v3),(7,.fn 47 []),(30,tB v7)],[]⟩ ?_ z0 trivial ?_
 ·kernel_rfl
 obtain ⟨v9,hc23,h⟩:=of_bind h
 refine AOps.cut [23,24,25,26,27] [28] (fun σ=>σ = ⟨[(35,tB v9)],[]⟩) ?_ fun σ' hJ=>?_
 ·refine AOps.split (fun b=>⟨[(2,q1 v3),(7,.fn 47 []),(30,tB b)],[]⟩) _ (fun hb=>?_) fun hb=>?_
  ·replace hc23:=of_true hc23 hb
   refine AOps.go [23,24] [25,26,27] [] [30,31,32] 0 ⟨[(30,tB true),(31,q1 v3),(32,.fn 47 [])],[]⟩ ?_ z0 trivial ?_
   ·kernel_rfl
   obtain ⟨v10,hv10,hc23⟩:=of_bind hc23
   refine AOps.cons (AOne.callP (F:=(FF 36 0)) _ rfl rfl rfl _ rfl rfl _ _ rfl Tryz.call49 [q1 v3,.fn 47 []] rfl rfl (f49_47_ok v3 hv10) rfl) ?_
   refine AOps.go [26,27] [] [] [35] 0 ⟨[(35,tB (!v10))],[]⟩ ?_ z0 trivial ?_
   ·kernel_rfl
   cases hc23
   exact AOps.nil rfl
  ·replace hc23:=of_false hc23 hb
   refine AOps.go [23,24,25,26,27] [] [] [35] 0 ⟨[(35,tB false)],[]⟩ ?_ z0 trivial ?_
   ·kernel_rfl
   cases hc23
   exact AOps.nil rfl
 subst hJ
 refine AOps.go [28] [] [] [6] 0 ⟨[(6,tB v9)],[]⟩ ?_ z0 trivial ?_
 ·kernel_rfl
 refine AOps.nil ?_
 refine AWp.ret ?_
 cases h
 exact ⟨.inr rfl,rfl⟩

noncomputable def f7_j1 (v8:Int) (v10:List T37):Option (((List T37) × Int) ⊕ Out ((List T37) × Int) (List T37)) :=
 some (.inl (v10,w64 (v8 + (1:Int))))

noncomputable def f7_b2 (v1:List T25) (v2:List Int) (v3:List Int) (v4:Int) (v5:Int) (v7:List T37) (v8:Int):Option (((List T37) × Int) ⊕ Out ((List T37) × Int) (List T37)) :=
 cond (decide (v8 < (v1.length:Int))) (if (0:Int) ≤ v8 ∧ v8 < (v1.length:Int) then if (0:Int) ≤ v8 ∧ v8 < (v3.length:Int) then if (0:Int) ≤ v8 ∧ v8 < (v2.length:Int) then (cond (v2.getD v8.toNat default == v4) (if (0:Int) ≤ v8 ∧ v8 < (v3.length:Int) then some (decide (v5 ≥ v3.getD v8.toNat default)) else none) (some false)).bind fun v11=>(cond v11 ((f19 (v1.getD v8.toNat default)).bind fun v13=>some (decide (w64 (v5 - (v3.getD v8.toNat default)) < v13))) (some false)).bind fun v12=>cond v12 (if (v1.getD v8.toNat default).f1 ≠ (0:Int) then if (v7.length + [T37.mk ((v1.getD v8.toNat default).f0) (w64 (Int.tdiv (w64 (v5 - (v3.getD v8.toNat default))) ((v1.getD v8.toNat default).f1)))].length) * 24 ≤ 140737488355328 then f7_j1 v8 (v7 ++ [T37.mk ((v1.getD v8.toNat default).f0) (w64 (Int.tdiv (w64 (v5 - (v3.getD v8.toNat default))) ((v1.getD v8.toNat default).f1)))]) else none else none) (f7_j1 v8 v7) else none else none else none) (some (.inr (.go v7)))

noncomputable def f7 (v1:List T25) (v2:List Int) (v3:List Int) (v4:Int) (v5:Int):Option ((List T37) × Int) :=
 (f21 v1 v2 v3).bind fun v6=>cond (!v6) (some (([]:List T37),(2:Int))) ((iter (fun s=>f7_b2 v1 v2 v3 v4 v5 s.1 s.2) ([],(0:Int))).bind fun y=>match y with | .ret v14=>some (v14.1,v14.2) | .go v9=>some (v9,(0:Int)))

theorem f7_ok (v1:List T25) (v2:List Int) (v3:List Int) (v4:Int) (v5:Int) {r:(List T37) × Int} (h:f7 v1 v2 v3 v4 v5 = some r):ACall Tryz.prog 7 [.tv (fzL 3 c25 v1),.tv (fzL 1 (cInt .i64) v2),.tv (fzL 1 (cInt .i64) v3),.tv (.int .i64 v4),.tv (.int .i64 v5)] [] (.tup [.tv (fzL 2 c37 r.1),.tv (.int .i64 r.2)]) []:=by
 refine ACall.ofN (FF 66 0) (rs:=[10,11]) (env:=[(10,q5 r.1),(11,tI r.2)]) Tryz.func7 rfl Tryz.ntmps7 Tryz.results7 (by decide) (by decide) rfl (zz rfl) rfl (get_ofN _ _ _ rfl) (ok_ofN _ rfl) ?_
 refine AWp.seq ?_
 refine AWp.start [0,1] [] [] [0,1,2,3,4] 0 ⟨[(0,q0 v1),(1,q1 v2),(2,q1 v3),(3,tI v4),(4,tI v5)],[]⟩ rfl ?_ z0 trivial ?_
 ·kernel_rfl
 refine AOps.nil ?_
 refine AWp.seq ?_
 refine AWp.seq ?_
 refine AWp.start [0,1,2] [3,4] [] [0,1,2,3,4,16,17,18] 0 ⟨[(0,q0 v1),(1,q1 v2),(2,q1 v3),(3,tI v4),(4,tI v5),(16,q0 v1),(17,q1 v2),(18,q1 v3)],[]⟩ rfl ?_ z0 trivial ?_
 ·kernel_rfl
 obtain ⟨v6,hv6,h⟩:=of_bind h
 refine AOps.cons (AOne.callP (F:=(FF 66 0)) _ rfl rfl rfl _ rfl rfl _ _ rfl Tryz.call21 [q0 v1,q1 v2,q1 v3] rfl rfl (f21_ok v1 v2 v3 hv6) rfl) ?_
 refine AOps.go [4] [] [] [0,1,2,3,4,20] 0 ⟨[(0,q0 v1),(1,q1 v2),(2,q1 v3),(3,tI v4),(4,tI v5),(20,tB (!v6))],[]⟩ ?_ z0 trivial ?_
 ·kernel_rfl
 refine AOps.nil ?_
 refine AWp.cond rfl (fun hb=>?_) fun hb=>?_
 ·replace h:=of_true h hb
  refine AWp.keepTo [] 0 ⟨[],[]⟩ ?_ z0 ?_
  ·kernel_rfl
  refine AWp.seq ?_
  refine AWp.start [0,1] [] [] [10,11] 0 ⟨[(10,.tv (.sc (.slice none 0 0))),(11,tI (2:Int))],[]⟩ rfl ?_ z0 trivial ?_
  ·kernel_rfl
  refine AOps.nil ?_
  refine AWp.nilFz 10 2 (fun i=>c37 (([]:List T37).getD i default)) rfl ?_
  refine AWp.keepTo [10,11] 0 ⟨[(10,q5 ([]:List T37)),(11,tI (2:Int))],[]⟩ ?_ z0 ?_
  ·kernel_rfl
  refine AWp.ret ?_
  cases h
  exact ⟨.inr rfl,rfl⟩
 ·replace h:=of_false h hb
  refine AWp.keepTo [0,1,2,3,4] 0 ⟨[(0,q0 v1),(1,q1 v2),(2,q1 v3),(3,tI v4),(4,tI v5)],[]⟩ ?_ z0 ?_
  ·kernel_rfl
  refine AWp.skip ?_
  refine AWp.seq ?_
  refine AWp.start [0] [] [] [0,1,2,3,4,12] 0 ⟨[(0,q0 v1),(1,q1 v2),(2,q1 v3),(3,tI v4),(4,tI v5),(12,.tv (.sc (.slice none 0 0)))],[]⟩ rfl ?_ z0 trivial ?_
  ·kernel_rfl
  refine AOps.nil ?_
  refine AWp.seq ?_
  refine AWp.seq ?_
  refine AWp.start [0,1,2] [] [] [1,2,3,4,12,21,22,23] 0 ⟨[(1,q1 v2),(2,q1 v3),(3,tI v4),(4,tI v5),(12,.tv (.sc (.slice none 0 0))),(21,q0 v1),(22,tI (v1.length:Int)),(23,tI (0:Int))],[]⟩ rfl ?_ z0 trivial ?_
  ·kernel_rfl
  refine AOps.nil ?_
  refine AWp.block ?_
  refine AWp.nilOwn 12 2 38 (fun i=>c37 (([]:List T37).getD i default)) rfl ?_
  refine AWp.keepTo [1,2,3,4,12,21,22,23] 0 ⟨[(1,q1 v2),(2,q1 v3),(3,tI v4),(4,tI v5),(12,.tv (ownL 2 38 c37 ([]:List T37))),(21,q0 v1),(22,tI (v1.length:Int)),(23,tI (0:Int))],[]⟩ ?_ z0 ?_
  ·kernel_rfl
  obtain ⟨y,hy,h⟩:=of_bind h
  refine AWp.mono (AWp.loop (S:=(List T37) × Int) (Y:=Out ((List T37) × Int) (List T37)) (fun s=>⟨[(1,q1 v2),(2,q1 v3),(3,tI v4),(4,tI v5),(12,.tv (ownL 2 38 c37 s.1)),(21,q0 v1),(22,tI (v1.length:Int)),(23,tI s.2)],[]⟩) (fun s=>f7_b2 v1 v2 v3 v4 v5 s.1 s.2) (fun y e σ=>match y with | .ret r=>e = .ret ∧ σ = ⟨[(10,q5 r.1),(11,tI r.2)],[]⟩ | .go v=>e = .exit 0 ∧ σ = ⟨[(12,.tv (ownL 2 38 c37 v))],[]⟩) ?_ hy) ?_
  ·rintro ⟨v7,v8⟩ o h
   refine AWp.seq ?_
   refine AWp.start [0] [] [] [1,2,3,4,12,21,22,23,24] 0 ⟨[(1,q1 v2),(2,q1 v3),(3,tI v4),(4,tI v5),(12,.tv (ownL 2 38 c37 v7)),(21,q0 v1),(22,tI (v1.length:Int)),(23,tI v8),(24,tB (decide (v8 < (v1.length:Int))))],[]⟩ rfl ?_ z0 trivial ?_
   ·kernel_rfl
   refine AOps.nil ?_
   refine AWp.seq ?_
   refine AWp.cond rfl (fun hb=>?_) fun hb=>?_
   ·replace h:=of_true h hb
    refine AWp.keepTo [1,2,3,4,12,21,22,23] 0 ⟨[(1,q1 v2),(2,q1 v3),(3,tI v4),(4,tI v5),(12,.tv (ownL 2 38 c37 v7)),(21,q0 v1),(22,tI (v1.length:Int)),(23,tI v8)],[]⟩ ?_ z0 ?_
    ·kernel_rfl
    refine AWp.skip ?_
    refine AWp.join (V:=(List T37)) (fun w=>⟨[(1,q1 v2),(2,q1 v3),(3,tI v4),(4,tI v5),(12,.tv (ownL 2 38 c37 w)),(21,q0 v1),(22,tI (v1.length:Int)),(23,tI v8)],[]⟩) (fun w=>f7_j1 v8 w = some o) ?_ ?_
    ·refine AWp.block ?_
     refine AWp.seq ?_
     obtain ⟨hg,h⟩:=of_guard h
     refine AWp.start [0,1,2,3,4,5] [] [(0:Int) ≤ v8,v8 < (v1.length:Int)] [1,2,3,4,12,13,14,21,22,23] 1 ⟨[(1,q1 v2),(2,q1 v3),(3,tI v4),(4,tI v5),(12,.tv (ownL 2 38 c37 v7)),(13,tI v8),(14,.pc 0 0),(21,q0 v1),(22,tI (v1.length:Int)),(23,tI v8)],[.cells 26 (c25 (gD v1 v8))]⟩ rfl ?_ z0 ⟨hg.1,hg.2⟩ ?_
     ·kernel_rfl
     refine AOps.nil ?_
     refine AWp.seq ?_
     refine AWp.pin 0 rfl rfl ?_
     refine AWp.keepTo [1,2,3,4,12,13,14,21,22,23] 0 ⟨[(1,q1 v2),(2,q1 v3),(3,tI v4),(4,tI v5),(12,.tv (ownL 2 38 c37 v7)),(13,tI v8),(14,.rp (c25 (gD v1 v8))),(21,q0 v1),(22,tI (v1.length:Int)),(23,tI v8)],[]⟩ ?_ z0 ?_
     ·kernel_rfl
     obtain ⟨hg,h⟩:=of_guard h
     refine AWp.start [0,1,2,3,4,5,6] [] [(0:Int) ≤ v8,v8 < (v3.length:Int)] [1,2,3,4,12,13,14,15,21,22,23] 0 ⟨[(1,q1 v2),(2,q1 v3),(3,tI v4),(4,tI v5),(12,.tv (ownL 2 38 c37 v7)),(13,tI v8),(14,.rp (c25 (gD v1 v8))),(15,tI (w64 (v5 - (gD v3 v8)))),(21,q0 v1),(22,tI (v1.length:Int)),(23,tI v8)],[]⟩ rfl ?_ z0 ⟨hg.1,hg.2⟩ ?_
     ·kernel_rfl
     refine AOps.nil ?_
     refine AWp.seq ?_
     obtain ⟨hg,h⟩:=of_guard h
     refine AWp.start [0,1,2,3,4,5,6] [7,8,9,10,11,12,13,14,15,16,17,18,19] [(0:Int) ≤ v8,v8 < (v2.length:Int)] [1,2,3,4,12,13,14,15,21,22,23,40] 0 ⟨[(1,q1 v2),(2,q1 v3),(3,tI v4),(4,tI v5),(12,.tv (ownL 2 38 c37 v7)),(13,tI v8),(14,.rp (c25 (gD v1 v8))),(15,tI (w64 (v5 - (gD v3 v8)))),(21,q0 v1),(22,tI (v1.length:Int)),(23,tI v8),(40,tB (gD v2 v8 == v4))],[]⟩ rfl ?_ z0 ⟨hg.1,hg.2⟩ ?_
     ·kernel_rfl
     obtain ⟨v11,hc7,h⟩:=of_bind h
     refine AOps.cut [7,8,9,10,11,12,13] [14,15,16,17,18,19] (fun σ=>σ = ⟨[(1,q1 v2),(2,q1 v3),(3,tI v4),(4,tI v5),(12,.tv (ownL 2 38 c37 v7)),(14,.rp (c25 (gD v1 v8))),(15,tI (w64 (v5 - (gD v3 v8)))),(21,q0 v1),(22,tI (v1.length:Int)),(23,tI v8),(47,tB v11)],[]⟩) ?_ fun σ' hJ=>?_
     ·refine AOps.split (fun b=>⟨[(1,q1 v2),(2,q1 v3),(3,tI v4),(4,tI v5),(12,.tv (ownL 2 38 c37 v7)),(13,tI v8),(14,.rp (c25 (gD v1 v8))),(15,tI (w64 (v5 - (gD v3 v8)))),(21,q0 v1),(22,tI (v1.length:Int)),(23,tI v8),(40,tB b)],[]⟩) _ (fun hb=>?_) fun hb=>?_
      ·replace hc7:=of_true hc7 hb
       obtain ⟨hg,hc7⟩:=of_guard hc7
       refine AOps.go [7,8,9,10,11,12,13] [] [(0:Int) ≤ v8,v8 < (v3.length:Int)] [1,2,3,4,12,14,15,21,22,23,47] 0 ⟨[(1,q1 v2),(2,q1 v3),(3,tI v4),(4,tI v5),(12,.tv (ownL 2 38 c37 v7)),(14,.rp (c25 (gD v1 v8))),(15,tI (w64 (v5 - (gD v3 v8)))),(21,q0 v1),(22,tI (v1.length:Int)),(23,tI v8),(47,tB (decide (v5 ≥ gD v3 v8)))],[]⟩ ?_ z0 ⟨hg.1,hg.2⟩ ?_
       ·kernel_rfl
       cases hc7
       exact AOps.nil rfl
      ·replace hc7:=of_false hc7 hb
       refine AOps.go [7,8,9,10,11,12,13] [] [] [1,2,3,4,12,14,15,21,22,23,47] 0 ⟨[(1,q1 v2),(2,q1 v3),(3,tI v4),(4,tI v5),(12,.tv (ownL 2 38 c37 v7)),(14,.rp (c25 (gD v1 v8))),(15,tI (w64 (v5 - (gD v3 v8)))),(21,q0 v1),(22,tI (v1.length:Int)),(23,tI v8),(47,tB false)],[]⟩ ?_ z0 trivial ?_
       ·kernel_rfl
       cases hc7
       exact AOps.nil rfl
     subst hJ
     refine AOps.go [14] [15,16,17,18,19] [] [1,2,3,4,12,14,15,21,22,23,48] 0 ⟨[(1,q1 v2),(2,q1 v3),(3,tI v4),(4,tI v5),(12,.tv (ownL 2 38 c37 v7)),(14,.rp (c25 (gD v1 v8))),(15,tI (w64 (v5 - (gD v3 v8)))),(21,q0 v1),(22,tI (v1.length:Int)),(23,tI v8),(48,tB v11)],[]⟩ ?_ z0 trivial ?_
     ·kernel_rfl
     obtain ⟨v12,hc15,h⟩:=of_bind h
     refine AOps.cut [15,16,17,18,19] [] (fun σ=>σ = ⟨[(1,q1 v2),(2,q1 v3),(3,tI v4),(4,tI v5),(12,.tv (ownL 2 38 c37 v7)),(14,.rp (c25 (gD v1 v8))),(15,tI (w64 (v5 - (gD v3 v8)))),(21,q0 v1),(22,tI (v1.length:Int)),(23,tI v8),(53,tB v12)],[]⟩) ?_ fun σ' hJ=>?_
     ·refine AOps.split (fun b=>⟨[(1,q1 v2),(2,q1 v3),(3,tI v4),(4,tI v5),(12,.tv (ownL 2 38 c37 v7)),(14,.rp (c25 (gD v1 v8))),(15,tI (w64 (v5 - (gD v3 v8)))),(21,q0 v1),(22,tI (v1.length:Int)),(23,tI v8),(48,tB b)],[]⟩) _ (fun hb=>?_) fun hb=>?_
      ·replace hc15:=of_true hc15 hb
       refine AOps.go [15,16] [17,18,19] [] [1,2,3,4,12,14,15,21,22,23,48,49,50] 0 ⟨[(1,q1 v2),(2,q1 v3),(3,tI v4),(4,tI v5),(12,.tv (ownL 2 38 c37 v7)),(14,.rp (c25 (gD v1 v8))),(15,tI (w64 (v5 - (gD v3 v8)))),(21,q0 v1),(22,tI (v1.length:Int)),(23,tI v8),(48,tB true),(49,tI (w64 (v5 - (gD v3 v8)))),(50,.agg (c25 (gD v1 v8)))],[]⟩ ?_ z0 trivial ?_
       ·kernel_rfl
       obtain ⟨v13,hv13,hc15⟩:=of_bind hc15
       refine AOps.cons (AOne.callP (F:=(FF 66 0)) _ rfl rfl rfl _ rfl rfl _ _ rfl Tryz.call19 [.agg (c25 (gD v1 v8))] rfl rfl (f19_ok (gD v1 v8) hv13) rfl) ?_
       refine AOps.go [18,19] [] [] [1,2,3,4,12,14,15,21,22,23,53] 0 ⟨[(1,q1 v2),(2,q1 v3),(3,tI v4),(4,tI v5),(12,.tv (ownL 2 38 c37 v7)),(14,.rp (c25 (gD v1 v8))),(15,tI (w64 (v5 - (gD v3 v8)))),(21,q0 v1),(22,tI (v1.length:Int)),(23,tI v8),(53,tB (decide (w64 (v5 - (gD v3 v8)) < v13)))],[]⟩ ?_ z0 trivial ?_
       ·kernel_rfl
       cases hc15
       exact AOps.nil rfl
      ·replace hc15:=of_false hc15 hb
       refine AOps.go [15,16,17,18,19] [] [] [1,2,3,4,12,14,15,21,22,23,53] 0 ⟨[(1,q1 v2),(2,q1 v3),(3,tI v4),(4,tI v5),(12,.tv (ownL 2 38 c37 v7)),(14,.rp (c25 (gD v1 v8))),(15,tI (w64 (v5 - (gD v3 v8)))),(21,q0 v1),(22,tI (v1.length:Int)),(23,tI v8),(53,tB false)],[]⟩ ?_ z0 trivial ?_
       ·kernel_rfl
       cases hc15
       exact AOps.nil rfl
     subst hJ
     refine AOps.nil ?_
     refine AWp.cond rfl (fun hb=>?_) fun hb=>?_
     ·replace h:=of_true h hb
      refine AWp.keepTo [1,2,3,4,12,14,15,21,22,23] 0 ⟨[(1,q1 v2),(2,q1 v3),(3,tI v4),(4,tI v5),(12,.tv (ownL 2 38 c37 v7)),(14,.rp (c25 (gD v1 v8))),(15,tI (w64 (v5 - (gD v3 v8)))),(21,q0 v1),(22,tI (v1.length:Int)),(23,tI v8)],[]⟩ ?_ z0 ?_
      ·kernel_rfl
      refine AWp.draw FFm _ (n:=11) rfl (ls:=#[n1,n1,n1,n1,n1,n1,n1,n1,n1,n1,n1]) rfl ?_ (fun _ h=>h)
      obtain ⟨hg,h⟩:=of_guard h
      refine AAny.go (by kernel_rfl) [0,1,2,3,4,5,6,7] (fuel':=3) rfl [(gD v1 v8).f1 ≠ (0:Int)] #[y1,y1,y1,y1,y1,y1,y1,y1,n1,n1,n1] [1,2,3,4,12,21,22,23,54,61] 0 ⟨[(1,q1 v2),(2,q1 v3),(3,tI v4),(4,tI v5),(12,.tv (ownL 2 38 c37 v7)),(21,q0 v1),(22,tI (v1.length:Int)),(23,tI v8),(54,.al (.slot 12 0,[])),(61,.agg [.str ((gD v1 v8).f0),.int .i64 (w64 (Int.tdiv (w64 (v5 - (gD v3 v8))) ((gD v1 v8).f1)))])],[]⟩ ?_ z0 hg ?_
      ·kernel_rfl
      refine AAny.step (i:=8) (fuel':=2) rfl (by kernel_rfl) [] #[y1,y1,y1,y1,y1,y1,y1,y1,y1,n1,n1] rfl [1,2,3,4,12,21,22,23,54,62] 0 ⟨[(1,q1 v2),(2,q1 v3),(3,tI v4),(4,tI v5),(12,.tv (ownL 2 38 c37 v7)),(21,q0 v1),(22,tI (v1.length:Int)),(23,tI v8),(54,.al (.slot 12 0,[])),(62,.tv (.own 2 38 1 (newRowF [.str ((gD v1 v8).f0),.int .i64 (w64 (Int.tdiv (w64 (v5 - (gD v3 v8))) ((gD v1 v8).f1)))] 2)))],[]⟩ ?_ z0 trivial ?_
      ·kernel_rfl
      refine AAny.extL 62 c37 [T37.mk ((gD v1 v8).f0) (w64 (Int.tdiv (w64 (v5 - (gD v3 v8))) ((gD v1 v8).f1)))] rfl rfl (row_at c37 2 (fun _=>rfl) [T37.mk ((gD v1 v8).f0) (w64 (Int.tdiv (w64 (v5 - (gD v3 v8))) ((gD v1 v8).f1)))] _ rfl) ?_
      obtain ⟨hg,h⟩:=of_guard h
      refine AAny.step (i:=9) (fuel':=1) rfl (by kernel_rfl) [(v7.length + [T37.mk ((gD v1 v8).f0) (w64 (Int.tdiv (w64 (v5 - (gD v3 v8))) ((gD v1 v8).f1)))].length) * 24 ≤ 140737488355328,PlainTo v7.length (fun i=>c37 (v7.getD i default)),PlainTo ([T37.mk ((gD v1 v8).f0) (w64 (Int.tdiv (w64 (v5 - (gD v3 v8))) ((gD v1 v8).f1)))].length) (fun i=>c37 ([T37.mk ((gD v1 v8).f0) (w64 (Int.tdiv (w64 (v5 - (gD v3 v8))) ((gD v1 v8).f1)))].getD i default))] #[y1,y1,y1,y1,y1,y1,y1,y1,y1,y1,n1] rfl [1,2,3,4,21,22,23,63] 0 ⟨[(1,q1 v2),(2,q1 v3),(3,tI v4),(4,tI v5),(21,q0 v1),(22,tI (v1.length:Int)),(23,tI v8),(63,.tv (.own 2 38 (v7.length + [T37.mk ((gD v1 v8).f0) (w64 (Int.tdiv (w64 (v5 - (gD v3 v8))) ((gD v1 v8).f1)))].length) (appF v7.length (fun i=>c37 (v7.getD i default)) (fun i=>c37 ([T37.mk ((gD v1 v8).f0) (w64 (Int.tdiv (w64 (v5 - (gD v3 v8))) ((gD v1 v8).f1)))].getD i default)))))],[]⟩ ?_ z0 ⟨hg,(fun _ _=>rfl),(fun _ _=>rfl)⟩ ?_
      ·kernel_rfl
      refine AAny.extL 63 c37 (v7 ++ [T37.mk ((gD v1 v8).f0) (w64 (Int.tdiv (w64 (v5 - (gD v3 v8))) ((gD v1 v8).f1)))]) rfl List.length_append.symm (app_at c37 v7 [T37.mk ((gD v1 v8).f0) (w64 (Int.tdiv (w64 (v5 - (gD v3 v8))) ((gD v1 v8).f1)))]) ?_
      refine AAny.step (i:=10) (fuel':=0) rfl (by kernel_rfl) [] #[y1,y1,y1,y1,y1,y1,y1,y1,y1,y1,y1] rfl [1,2,3,4,12,21,22,23] 0 ⟨[(1,q1 v2),(2,q1 v3),(3,tI v4),(4,tI v5),(12,.tv (ownL 2 38 c37 (v7 ++ [T37.mk ((gD v1 v8).f0) (w64 (Int.tdiv (w64 (v5 - (gD v3 v8))) ((gD v1 v8).f1)))]))),(21,q0 v1),(22,tI (v1.length:Int)),(23,tI v8)],[]⟩ ?_ z0 trivial ?_
      ·kernel_rfl
      refine AAny.keepTo [1,2,3,4,12,21,22,23] 0 ⟨[(1,q1 v2),(2,q1 v3),(3,tI v4),(4,tI v5),(12,.tv (ownL 2 38 c37 (v7 ++ [T37.mk ((gD v1 v8).f0) (w64 (Int.tdiv (w64 (v5 - (gD v3 v8))) ((gD v1 v8).f1)))]))),(21,q0 v1),(22,tI (v1.length:Int)),(23,tI v8)],[]⟩ _ ?_ rfl z0 (AAny.done (by kernel_rfl) ?_)
      ·kernel_rfl
      exact ⟨v7 ++ [T37.mk ((gD v1 v8).f0) (w64 (Int.tdiv (w64 (v5 - (gD v3 v8))) ((gD v1 v8).f1)))],h,rfl⟩
     ·replace h:=of_false h hb
      refine AWp.keepTo [1,2,3,4,12,21,22,23] 0 ⟨[(1,q1 v2),(2,q1 v3),(3,tI v4),(4,tI v5),(12,.tv (ownL 2 38 c37 v7)),(21,q0 v1),(22,tI (v1.length:Int)),(23,tI v8)],[]⟩ ?_ z0 ?_
      ·kernel_rfl
      refine AWp.skip ?_
      exact ⟨v7,h,rfl⟩
    ·rintro v10 h
     refine AWp.start [0,1] [] [] [1,2,3,4,12,21,22,23] 0 ⟨[(1,q1 v2),(2,q1 v3),(3,tI v4),(4,tI v5),(12,.tv (ownL 2 38 c37 v10)),(21,q0 v1),(22,tI (v1.length:Int)),(23,tI (w64 (v8 + (1:Int))))],[]⟩ rfl ?_ z0 trivial ?_
     ·kernel_rfl
     refine AOps.nil ?_
     cases h
     exact Or.inl ⟨_,rfl,rfl,rfl⟩
   ·replace h:=of_false h hb
    refine AWp.keepTo [12] 0 ⟨[(12,.tv (ownL 2 38 c37 v7))],[]⟩ ?_ z0 ?_
    ·kernel_rfl
    refine AWp.exit ?_
    cases h
    exact Or.inr ⟨_,rfl,by simp,rfl,rfl⟩
  ·intro e σ hp
   rcases y with v14 | v9
   ·obtain ⟨rfl,rfl⟩:=hp
    cases h
    exact ⟨.inr rfl,rfl⟩
   ·obtain ⟨rfl,rfl⟩:=hp
    refine AWp.seq ?_
    refine AWp.freezeL 12 c37 v9 rfl (fun _=>rfl) ?_
    refine AWp.start [0,1,2] [] [] [10,11] 0 ⟨[(10,q5 v9),(11,tI (0:Int))],[]⟩ rfl ?_ z0 trivial ?_
    ·kernel_rfl
    refine AOps.nil ?_
    refine AWp.ret ?_
    cases h
    exact ⟨.inr rfl,rfl⟩

noncomputable def f23 (v1:List T25) (v2:List Int) (v3:List Int) (v4:T37):Option (Int × Int × Int) :=
 (f44 v1 v4.f0).bind fun v5=>if (0:Int) ≤ v5 ∧ v5 < (v3.length:Int) ∧ (0:Int) ≤ v5 ∧ v5 < (v1.length:Int) then if (0:Int) ≤ v5 ∧ v5 < (v2.length:Int) ∧ (0:Int) ≤ v5 ∧ v5 < (v1.length:Int) then some (v2.getD v5.toNat default,IntKind.wrap .u64 ((IntKind.wrap .u64 (v3.getD v5.toNat default)) + (IntKind.wrap .u64 (w64 (v4.f1 * ((v1.getD v5.toNat default).f1))))),IntKind.wrap .u64 ((IntKind.wrap .u64 ((IntKind.wrap .u64 (v3.getD v5.toNat default)) + (IntKind.wrap .u64 (w64 (v4.f1 * ((v1.getD v5.toNat default).f1)))))) + (IntKind.wrap .u64 ((v1.getD v5.toNat default).f1)))) else none else none

theorem f23_ok (v1:List T25) (v2:List Int) (v3:List Int) (v4:T37) {r:Int × Int × Int} (h:f23 v1 v2 v3 v4 = some r):ACall Tryz.prog 23 [.tv (fzL 3 c25 v1),.tv (fzL 1 (cInt .i64) v2),.tv (fzL 1 (cInt .i64) v3),.agg [.str v4.f0,.int .i64 v4.f1]] [] (.tup [.tv (.int .i64 r.1),.tv (.int .u64 r.2.1),.tv (.int .u64 r.2.2)]) []:=by
 refine ACall.ofN (FF 44 0) (rs:=[8,9,10]) (env:=[(8,tI r.1),(9,.tv (.int .u64 r.2.1)),(10,.tv (.int .u64 r.2.2))]) Tryz.func23 rfl Tryz.ntmps23 Tryz.results23 (by decide) (by decide) rfl (zz rfl) rfl (get_ofN _ _ _ rfl) (ok_ofN _ rfl) ?_
 refine AWp.seq ?_
 refine AWp.start [0,1,2,3] [] [] [0,1,2,7] 1 ⟨[(0,q0 v1),(1,q1 v2),(2,q1 v3),(7,.pc 0 0)],[.cells 38 (c37 v4)]⟩ rfl ?_ z0 trivial ?_
 ·kernel_rfl
 refine AOps.nil ?_
 refine AWp.seq ?_
 refine AWp.pin 0 rfl rfl ?_
 refine AWp.keepTo [0,1,2,7] 0 ⟨[(0,q0 v1),(1,q1 v2),(2,q1 v3),(7,.rp (c37 v4))],[]⟩ ?_ z0 ?_
 ·kernel_rfl
 refine AWp.start [0,1,2] [3,4] [] [0,1,2,7,12,14] 0 ⟨[(0,q0 v1),(1,q1 v2),(2,q1 v3),(7,.rp (c37 v4)),(12,q0 v1),(14,tS v4.f0)],[]⟩ rfl ?_ z0 trivial ?_
 ·kernel_rfl
 obtain ⟨v5,hv5,h⟩:=of_bind h
 refine AOps.cons (AOne.callP (F:=(FF 44 0)) _ rfl rfl rfl _ rfl rfl _ _ rfl Tryz.call44 [q0 v1,tS v4.f0] rfl rfl (f44_ok v1 v4.f0 hv5) rfl) ?_
 refine AOps.go [4] [] [] [0,1,2,7,11] 0 ⟨[(0,q0 v1),(1,q1 v2),(2,q1 v3),(7,.rp (c37 v4)),(11,tI v5)],[]⟩ ?_ z0 trivial ?_
 ·kernel_rfl
 refine AOps.nil ?_
 refine AWp.seq ?_
 refine AWp.draw FFm _ (n:=16) rfl (ls:=#[n1,n1,n1,n1,n1,n1,n1,n1,n1,n1,n1,n1,n1,n1,n1,n1]) rfl ?_ (fun _ h=>h)
 obtain ⟨hg,h⟩:=of_guard h
 refine AAny.go (by kernel_rfl) [0,1,2,3,4,5,6,7,8,9,10,11,12,13,14,15] (fuel':=0) rfl [(0:Int) ≤ v5,v5 < (v3.length:Int),(0:Int) ≤ v5,v5 < (v1.length:Int)] #[y1,y1,y1,y1,y1,y1,y1,y1,y1,y1,y1,y1,y1,y1,y1,y1] [0,1,9,11] 0 ⟨[(0,q0 v1),(1,q1 v2),(9,.tv (.int .u64 (IntKind.wrap .u64 ((IntKind.wrap .u64 (gD v3 v5)) + (IntKind.wrap .u64 (w64 (v4.f1 * ((gD v1 v5).f1)))))))),(11,tI v5)],[]⟩ ?_ z0 ⟨hg.1,hg.2.1,hg.2.2.1,hg.2.2.2⟩ ?_
 ·kernel_rfl
 refine AAny.keepTo [0,1,9,11] 0 ⟨[(0,q0 v1),(1,q1 v2),(9,.tv (.int .u64 (IntKind.wrap .u64 ((IntKind.wrap .u64 (gD v3 v5)) + (IntKind.wrap .u64 (w64 (v4.f1 * ((gD v1 v5).f1)))))))),(11,tI v5)],[]⟩ _ ?_ rfl z0 (AAny.done (by kernel_rfl) ?_)
 ·kernel_rfl
 refine AWp.seq ?_
 refine AWp.draw FFm _ (n:=16) rfl (ls:=#[n1,n1,n1,n1,n1,n1,n1,n1,n1,n1,n1,n1,n1,n1,n1,n1]) rfl ?_ (fun _ h=>h)
 obtain ⟨hg,h⟩:=of_guard h
 refine AAny.go (by kernel_rfl) [0,1,2,3,4,5,6,7,8,9,10,11,12,13,14,15] (fuel':=0) rfl [(0:Int) ≤ v5,v5 < (v2.length:Int),(0:Int) ≤ v5,v5 < (v1.length:Int)] #[y1,y1,y1,y1,y1,y1,y1,y1,y1,y1,y1,y1,y1,y1,y1,y1] [8,9,10] 0 ⟨[(8,tI (gD v2 v5)),(9,.tv (.int .u64 (IntKind.wrap .u64 ((IntKind.wrap .u64 (gD v3 v5)) + (IntKind.wrap .u64 (w64 (v4.f1 * ((gD v1 v5).f1)))))))),(10,.tv (.int .u64 (IntKind.wrap .u64 ((IntKind.wrap .u64 ((IntKind.wrap .u64 (gD v3 v5)) + (IntKind.wrap .u64 (w64 (v4.f1 * ((gD v1 v5).f1)))))) + (IntKind.wrap .u64 ((gD v1 v5).f1))))))],[]⟩ ?_ z0 ⟨hg.1,hg.2.1,hg.2.2.1,hg.2.2.2⟩ ?_
 ·kernel_rfl
 refine AAny.keepTo [8,9,10] 0 ⟨[(8,tI (gD v2 v5)),(9,.tv (.int .u64 (IntKind.wrap .u64 ((IntKind.wrap .u64 (gD v3 v5)) + (IntKind.wrap .u64 (w64 (v4.f1 * ((gD v1 v5).f1)))))))),(10,.tv (.int .u64 (IntKind.wrap .u64 ((IntKind.wrap .u64 ((IntKind.wrap .u64 (gD v3 v5)) + (IntKind.wrap .u64 (w64 (v4.f1 * ((gD v1 v5).f1)))))) + (IntKind.wrap .u64 ((gD v1 v5).f1))))))],[]⟩ _ ?_ rfl z0 (AAny.done (by kernel_rfl) ?_)
 ·kernel_rfl
 refine AWp.ret ?_
 cases h
 exact ⟨.inr rfl,rfl⟩

noncomputable def f8 (v1:List T25) (v2:List Int) (v3:List Int) (v4:T37) (v5:T37):Option (Bool × Int) :=
 (f21 v1 v2 v3).bind fun v6=>cond (!v6) (some (false,(2:Int))) ((f22 v1 v4).bind fun v7=>(cond (!v7) (some true) ((f22 v1 v5).bind fun v9=>some (!v9))).bind fun v8=>cond v8 (some (false,(5:Int))) ((f23 v1 v2 v3 v4).bind fun v10=>(f23 v1 v2 v3 v5).bind fun v11=>(cond (v10.1 == v11.1) (some (decide ((if v11.2.1 > v10.2.1 then v11.2.1 else v10.2.1) < (if v11.2.2 < v10.2.2 then v11.2.2 else v10.2.2)))) (some false)).bind fun v12=>some (v12,(0:Int))))

theorem f8_ok (v1:List T25) (v2:List Int) (v3:List Int) (v4:T37) (v5:T37) {r:Bool × Int} (h:f8 v1 v2 v3 v4 v5 = some r):ACall Tryz.prog 8 [.tv (fzL 3 c25 v1),.tv (fzL 1 (cInt .i64) v2),.tv (fzL 1 (cInt .i64) v3),.agg [.str v4.f0,.int .i64 v4.f1],.agg [.str v5.f0,.int .i64 v5.f1]] [] (.tup [.tv (.bool r.1),.tv (.int .i64 r.2)]) []:=by
 refine ACall.ofN (FF 65 0) (rs:=[10,11]) (env:=[(10,tB r.1),(11,tI r.2)]) Tryz.func8 rfl Tryz.ntmps8 Tryz.results8 (by decide) (by decide) rfl (zz rfl) rfl (get_ofN _ _ _ rfl) (ok_ofN _ rfl) ?_
 refine AWp.seq ?_
 refine AWp.start [0,1,2,3] [] [] [0,1,2,8,9] 2 ⟨[(0,q0 v1),(1,q1 v2),(2,q1 v3),(8,.pc 0 0),(9,.pc 1 0)],[.cells 38 (c37 v4),.cells 38 (c37 v5)]⟩ rfl ?_ z0 trivial ?_
 ·kernel_rfl
 refine AOps.nil ?_
 refine AWp.seq ?_
 refine AWp.pin 0 rfl rfl ?_
 refine AWp.pin 1 rfl rfl ?_
 refine AWp.keepTo [0,1,2,8,9] 0 ⟨[(0,q0 v1),(1,q1 v2),(2,q1 v3),(8,.rp (c37 v4)),(9,.rp (c37 v5))],[]⟩ ?_ z0 ?_
 ·kernel_rfl
 refine AWp.block ?_
 refine AWp.seq ?_
 refine AWp.start [0,1,2] [3,4,5] [] [0,1,2,8,9,19,20,21] 0 ⟨[(0,q0 v1),(1,q1 v2),(2,q1 v3),(8,.rp (c37 v4)),(9,.rp (c37 v5)),(19,q0 v1),(20,q1 v2),(21,q1 v3)],[]⟩ rfl ?_ z0 trivial ?_
 ·kernel_rfl
 obtain ⟨v6,hv6,h⟩:=of_bind h
 refine AOps.cons (AOne.callP (F:=(FF 65 0)) _ rfl rfl rfl _ rfl rfl _ _ rfl Tryz.call21 [q0 v1,q1 v2,q1 v3] rfl rfl (f21_ok v1 v2 v3 hv6) rfl) ?_
 refine AOps.go [4,5] [] [] [0,1,2,8,9,18] 0 ⟨[(0,q0 v1),(1,q1 v2),(2,q1 v3),(8,.rp (c37 v4)),(9,.rp (c37 v5)),(18,tB (!v6))],[]⟩ ?_ z0 trivial ?_
 ·kernel_rfl
 refine AOps.nil ?_
 refine AWp.cond rfl (fun hb=>?_) fun hb=>?_
 ·replace h:=of_true h hb
  refine AWp.keepTo [] 0 ⟨[],[]⟩ ?_ z0 ?_
  ·kernel_rfl
  refine AWp.seq ?_
  refine AWp.start [0,1] [] [] [10,11] 0 ⟨[(10,tB false),(11,tI (2:Int))],[]⟩ rfl ?_ z0 trivial ?_
  ·kernel_rfl
  refine AOps.nil ?_
  refine AWp.ret ?_
  cases h
  exact ⟨.inr rfl,rfl⟩
 ·replace h:=of_false h hb
  refine AWp.keepTo [0,1,2,8,9] 0 ⟨[(0,q0 v1),(1,q1 v2),(2,q1 v3),(8,.rp (c37 v4)),(9,.rp (c37 v5))],[]⟩ ?_ z0 ?_
  ·kernel_rfl
  refine AWp.seq ?_
  refine AWp.start [0,1] [2,3,4,5,6,7,8,9,10] [] [0,1,2,8,9,25,26] 0 ⟨[(0,q0 v1),(1,q1 v2),(2,q1 v3),(8,.rp (c37 v4)),(9,.rp (c37 v5)),(25,q0 v1),(26,.agg (c37 v4))],[]⟩ rfl ?_ z0 trivial ?_
  ·kernel_rfl
  obtain ⟨v7,hv7,h⟩:=of_bind h
  refine AOps.cons (AOne.callP (F:=(FF 65 0)) _ rfl rfl rfl _ rfl rfl _ _ rfl Tryz.call22 [q0 v1,.agg (c37 v4)] rfl rfl (f22_ok v1 v4 hv7) rfl) ?_
  refine AOps.go [3,4] [5,6,7,8,9,10] [] [0,1,2,8,9,29] 0 ⟨[(0,q0 v1),(1,q1 v2),(2,q1 v3),(8,.rp (c37 v4)),(9,.rp (c37 v5)),(29,tB (!v7))],[]⟩ ?_ z0 trivial ?_
  ·kernel_rfl
  obtain ⟨v8,hc5,h⟩:=of_bind h
  refine AOps.cut [5,6,7,8,9] [10] (fun σ=>σ = ⟨[(0,q0 v1),(1,q1 v2),(2,q1 v3),(8,.rp (c37 v4)),(9,.rp (c37 v5)),(34,tB v8)],[]⟩) ?_ fun σ' hJ=>?_
  ·refine AOps.split (fun b=>⟨[(0,q0 v1),(1,q1 v2),(2,q1 v3),(8,.rp (c37 v4)),(9,.rp (c37 v5)),(29,tB b)],[]⟩) _ (fun hb=>?_) fun hb=>?_
   ·replace hc5:=of_true hc5 hb
    refine AOps.go [5,6,7,8,9] [] [] [0,1,2,8,9,34] 0 ⟨[(0,q0 v1),(1,q1 v2),(2,q1 v3),(8,.rp (c37 v4)),(9,.rp (c37 v5)),(34,tB true)],[]⟩ ?_ z0 trivial ?_
    ·kernel_rfl
    cases hc5
    exact AOps.nil rfl
   ·replace hc5:=of_false hc5 hb
    refine AOps.go [5,6] [7,8,9] [] [0,1,2,8,9,29,30,31] 0 ⟨[(0,q0 v1),(1,q1 v2),(2,q1 v3),(8,.rp (c37 v4)),(9,.rp (c37 v5)),(29,tB false),(30,q0 v1),(31,.agg (c37 v5))],[]⟩ ?_ z0 trivial ?_
    ·kernel_rfl
    obtain ⟨v9,hv9,hc5⟩:=of_bind hc5
    refine AOps.cons (AOne.callP (F:=(FF 65 0)) _ rfl rfl rfl _ rfl rfl _ _ rfl Tryz.call22 [q0 v1,.agg (c37 v5)] rfl rfl (f22_ok v1 v5 hv9) rfl) ?_
    refine AOps.go [8,9] [] [] [0,1,2,8,9,34] 0 ⟨[(0,q0 v1),(1,q1 v2),(2,q1 v3),(8,.rp (c37 v4)),(9,.rp (c37 v5)),(34,tB (!v9))],[]⟩ ?_ z0 trivial ?_
    ·kernel_rfl
    cases hc5
    exact AOps.nil rfl
  subst hJ
  refine AOps.go [10] [] [] [0,1,2,8,9,24] 0 ⟨[(0,q0 v1),(1,q1 v2),(2,q1 v3),(8,.rp (c37 v4)),(9,.rp (c37 v5)),(24,tB v8)],[]⟩ ?_ z0 trivial ?_
  ·kernel_rfl
  refine AOps.nil ?_
  refine AWp.cond rfl (fun hb=>?_) fun hb=>?_
  ·replace h:=of_true h hb
   refine AWp.keepTo [] 0 ⟨[],[]⟩ ?_ z0 ?_
   ·kernel_rfl
   refine AWp.seq ?_
   refine AWp.start [0,1] [] [] [10,11] 0 ⟨[(10,tB false),(11,tI (5:Int))],[]⟩ rfl ?_ z0 trivial ?_
   ·kernel_rfl
   refine AOps.nil ?_
   refine AWp.ret ?_
   cases h
   exact ⟨.inr rfl,rfl⟩
  ·replace h:=of_false h hb
   refine AWp.keepTo [0,1,2,8,9] 0 ⟨[(0,q0 v1),(1,q1 v2),(2,q1 v3),(8,.rp (c37 v4)),(9,.rp (c37 v5))],[]⟩ ?_ z0 ?_
   ·kernel_rfl
   refine AWp.skip ?_
   refine AWp.seq ?_
   refine AWp.start [0,1,2,3] [4,5,6,7,8,9,10,11] [] [0,1,2,9,36,37,38,39] 0 ⟨[(0,q0 v1),(1,q1 v2),(2,q1 v3),(9,.rp (c37 v5)),(36,q0 v1),(37,q1 v2),(38,q1 v3),(39,.agg (c37 v4))],[]⟩ rfl ?_ z0 trivial ?_
   ·kernel_rfl
   obtain ⟨v10,hv10,h⟩:=of_bind h
   refine AOps.cons (AOne.callP (F:=(FF 65 0)) _ rfl rfl rfl _ rfl rfl _ _ rfl Tryz.call23 [q0 v1,q1 v2,q1 v3,.agg (c37 v4)] rfl rfl (f23_ok v1 v2 v3 v4 hv10) rfl) ?_
   refine AOps.go [5,6,7,8,9,10,11] [] [] [0,1,2,9,12,13,14] 0 ⟨[(0,q0 v1),(1,q1 v2),(2,q1 v3),(9,.rp (c37 v5)),(12,tI v10.1),(13,.tv (.int .u64 v10.2.1)),(14,.tv (.int .u64 v10.2.2))],[]⟩ ?_ z0 trivial ?_
   ·kernel_rfl
   refine AOps.nil ?_
   refine AWp.seq ?_
   refine AWp.start [0,1,2,3] [4,5,6,7,8,9,10,11] [] [12,13,14,45,46,47,48] 0 ⟨[(12,tI v10.1),(13,.tv (.int .u64 v10.2.1)),(14,.tv (.int .u64 v10.2.2)),(45,q0 v1),(46,q1 v2),(47,q1 v3),(48,.agg (c37 v5))],[]⟩ rfl ?_ z0 trivial ?_
   ·kernel_rfl
   obtain ⟨v11,hv11,h⟩:=of_bind h
   refine AOps.cons (AOne.callP (F:=(FF 65 0)) _ rfl rfl rfl _ rfl rfl _ _ rfl Tryz.call23 [q0 v1,q1 v2,q1 v3,.agg (c37 v5)] rfl rfl (f23_ok v1 v2 v3 v5 hv11) rfl) ?_
   refine AOps.go [5,6,7,8,9,10,11] [] [] [12,13,14,15,16,17] 0 ⟨[(12,tI v10.1),(13,.tv (.int .u64 v10.2.1)),(14,.tv (.int .u64 v10.2.2)),(15,tI v11.1),(16,.tv (.int .u64 v11.2.1)),(17,.tv (.int .u64 v11.2.2))],[]⟩ ?_ z0 trivial ?_
   ·kernel_rfl
   refine AOps.nil ?_
   refine AWp.seq ?_
   refine AWp.start [0,1,2,3] [4,5,6,7,8,9,10,11,12,13] [] [13,14,16,17,56] 0 ⟨[(13,.tv (.int .u64 v10.2.1)),(14,.tv (.int .u64 v10.2.2)),(16,.tv (.int .u64 v11.2.1)),(17,.tv (.int .u64 v11.2.2)),(56,tB (v10.1 == v11.1))],[]⟩ rfl ?_ z0 trivial ?_
   ·kernel_rfl
   obtain ⟨v12,hc4,h⟩:=of_bind h
   refine AOps.cut [4,5,6,7,8,9,10,11] [12,13] (fun σ=>σ = ⟨[(64,tB v12)],[]⟩) ?_ fun σ' hJ=>?_
   ·refine AOps.split (fun b=>⟨[(13,.tv (.int .u64 v10.2.1)),(14,.tv (.int .u64 v10.2.2)),(16,.tv (.int .u64 v11.2.1)),(17,.tv (.int .u64 v11.2.2)),(56,tB b)],[]⟩) _ (fun hb=>?_) fun hb=>?_
    ·replace hc4:=of_true hc4 hb
     refine AOps.go [4,5,6,7,8,9,10,11] [] [] [64] 0 ⟨[(64,tB (decide ((if v11.2.1 > v10.2.1 then v11.2.1 else v10.2.1) < (if v11.2.2 < v10.2.2 then v11.2.2 else v10.2.2))))],[]⟩ ?_ z0 trivial ?_
     ·kernel_rfl
     cases hc4
     exact AOps.nil rfl
    ·replace hc4:=of_false hc4 hb
     refine AOps.go [4,5,6,7,8,9,10,11] [] [] [64] 0 ⟨[(64,tB false)],[]⟩ ?_ z0 trivial ?_
     ·kernel_rfl
     cases hc4
     exact AOps.nil rfl
   subst hJ
   refine AOps.go [12,13] [] [] [10,11] 0 ⟨[(10,tB v12),(11,tI (0:Int))],[]⟩ ?_ z0 trivial ?_
   ·kernel_rfl
   refine AOps.nil ?_
   refine AWp.ret ?_
   cases h
   exact ⟨.inr rfl,rfl⟩

end Go.Sx.top
