/- Printed by program (wip/gen): plain functions and their walks; no condition. -/
import Derived.Test.YtlfaghcnnlifmaaGreatGx4
namespace Go.Sx.top
open Go Go.Sx Go.Proofs

noncomputable def f51_j1 (v36:Int) (v39:Int) (v40:Int):Option ((Int × Int × Int) ⊕ Out ((List Int) × (List Int)) (Int × Int)) :=
 some (.inl (v39,v40,w64 (v36 + (1:Int))))

noncomputable def f51_b2 (v1:List T80) (v27:List Int) (v28:List Int) (v29:Int) (v34:Int) (v35:Int) (v36:Int):Option ((Int × Int × Int) ⊕ Out ((List Int) × (List Int)) (Int × Int)) :=
 cond (decide (v36 < (((v1.getD v29.toNat default).f3).length:Int))) (if (0:Int) ≤ v36 ∧ v36 < (((v1.getD v29.toNat default).f3).length:Int) then cond (((((v1.getD v29.toNat default).f3).getD v36.toNat default).f1) == ([]:List UInt8)) ((f57 (((v1.getD v29.toNat default).f3).getD v36.toNat default)).bind fun v41=>(f57 (((v1.getD v29.toNat default).f3).getD v36.toNat default)).bind fun v42=>f51_j1 v36 (w64 (v34 + v41)) (w64 (v35 + v42))) (if (0:Int) ≤ v29 ∧ v29 ≤ (v1.length:Int) then (f29 ((v1.take v29.toNat).drop 0) ((((v1.getD v29.toNat default).f3).getD v36.toNat default).f1)).bind fun v43=>if (0:Int) ≤ v43 ∧ v43 < (v27.length:Int) ∧ (0:Int) ≤ v43 ∧ v43 < (v28.length:Int) then (f57 (((v1.getD v29.toNat default).f3).getD v36.toNat default)).bind fun v44=>(f57 (((v1.getD v29.toNat default).f3).getD v36.toNat default)).bind fun v45=>f51_j1 v36 (w64 (v34 + (w64 (v44 * (v27.getD v43.toNat default))))) (w64 (v35 + (w64 (v45 * (w64 ((1:Int) + (v28.getD v43.toNat default))))))) else none else none) else none) (some (.inr (.go (v34,v35))))

noncomputable def f51_j3 (v1:List T80) (v27:List Int) (v28:List Int) (v29:Int) (v32:Int) (v33:Int):Option (((List Int) × (List Int) × Int) ⊕ Out ((List Int) × (List Int)) ((List Int) × (List Int))) :=
 (iter (fun s=>f51_b2 v1 v27 v28 v29 s.1 s.2.1 s.2.2) (v32,v33,(0:Int))).bind fun y=>match y with | .ret v46=>some (.inr (.ret (v46.1,v46.2))) | .go (v37,v38)=>if (v27.length + [v37].length) * 8 ≤ 140737488355328 then if (v28.length + [v38].length) * 8 ≤ 140737488355328 then some (.inl (v27 ++ [v37],v28 ++ [v38],w64 (v29 + (1:Int)))) else none else none

noncomputable def f51_b4 (v1:List T80) (v27:List Int) (v28:List Int) (v29:Int):Option (((List Int) × (List Int) × Int) ⊕ Out ((List Int) × (List Int)) ((List Int) × (List Int))) :=
 cond (decide (v29 < (v1.length:Int))) (if (0:Int) ≤ v29 ∧ v29 < (v1.length:Int) then cond (!(((v1.getD v29.toNat default).f1) == ([]:List UInt8))) (if (0:Int) ≤ v29 ∧ v29 ≤ (v1.length:Int) then (f29 ((v1.take v29.toNat).drop 0) ((v1.getD v29.toNat default).f1)).bind fun v47=>if (0:Int) ≤ v47 ∧ v47 < (v27.length:Int) ∧ (0:Int) ≤ v47 ∧ v47 < (v28.length:Int) then f51_j3 v1 v27 v28 v29 (v27.getD v47.toNat default) (w64 ((1:Int) + (v28.getD v47.toNat default))) else none else none) (f51_j3 v1 v27 v28 v29 (0:Int) (0:Int)) else none) (some (.inr (.go (v27,v28))))

noncomputable def f51 (v1:List T80):Option ((List Int) × (List Int)) :=
 (iter (fun s=>f51_b4 v1 s.1 s.2.1 s.2.2) ([],[],(0:Int))).bind fun y=>match y with | .ret v48=>some (v48.1,v48.2) | .go (v30,v31)=>some (v30,v31)

theorem f51_ok (v1:List T80) {r:(List Int) × (List Int)} (h:f51 v1 = some r):ACall Tryz.prog 51 [.tv (fzL 6 c80 v1)] [] (.tup [.tv (fzL 1 (cInt .i64) r.1),.tv (fzL 1 (cInt .i64) r.2)]) []:=by
 refine ACall.ofN (FF 92 0) (rs:=[2,3]) (env:=[(2,q3 r.1),(3,q3 r.2)]) Tryz.func51 rfl Tryz.ntmps51 Tryz.results51 (by decide) (by decide) rfl (zz rfl) rfl (get_ofN _ _ _ rfl) (ok_ofN _ rfl) ?_
 refine AWp.seq ?_
 refine AWp.start [0,1] [] [] [0,2,3] 0 ⟨[(0,q0 v1),(2,.tv (.sc (.slice none 0 0))),(3,.tv (.sc (.slice none 0 0)))],[]⟩ rfl ?_ z0 trivial ?_
 ·kernel_rfl
 refine AOps.nil ?_
 refine AWp.seq ?_
 refine AWp.seq ?_
 refine AWp.start [0,1,2] [] [] [0,2,3,12,13,14] 0 ⟨[(0,q0 v1),(2,.tv (.sc (.slice none 0 0))),(3,.tv (.sc (.slice none 0 0))),(12,q0 v1),(13,tI (v1.length:Int)),(14,tI (0:Int))],[]⟩ rfl ?_ z0 trivial ?_
 ·kernel_rfl
 refine AOps.nil ?_
 refine AWp.block ?_
 refine AWp.nilOwn 2 1 3 (fun i=>(cInt .i64) (([]:List Int).getD i default)) rfl ?_
 refine AWp.nilOwn 3 1 3 (fun i=>(cInt .i64) (([]:List Int).getD i default)) rfl ?_
 refine AWp.keepTo [0,2,3,12,13,14] 0 ⟨[(0,q0 v1),(2,q2 ([]:List Int)),(3,q2 ([]:List Int)),(12,q0 v1),(13,tI (v1.length:Int)),(14,tI (0:Int))],[]⟩ ?_ z0 ?_
 ·kernel_rfl
 obtain ⟨y,hy,h⟩:=of_bind h
 refine AWp.mono (AWp.loop (S:=(List Int) × (List Int) × Int) (Y:=Out ((List Int) × (List Int)) ((List Int) × (List Int))) (fun s=>⟨[(0,q0 v1),(2,q2 s.1),(3,q2 s.2.1),(12,q0 v1),(13,tI (v1.length:Int)),(14,tI s.2.2)],[]⟩) (fun s=>f51_b4 v1 s.1 s.2.1 s.2.2) (fun y e σ=>match y with | .ret r=>e = .ret ∧ σ = ⟨[(2,q3 r.1),(3,q3 r.2)],[]⟩ | .go v=>e = .exit 0 ∧ σ = ⟨[(2,q2 v.1),(3,q2 v.2)],[]⟩) ?_ hy) ?_
 ·rintro ⟨v27,v28,v29⟩ o h
  refine AWp.seq ?_
  refine AWp.start [0] [] [] [0,2,3,12,13,14,15] 0 ⟨[(0,q0 v1),(2,q2 v27),(3,q2 v28),(12,q0 v1),(13,tI (v1.length:Int)),(14,tI v29),(15,tB (decide (v29 < (v1.length:Int))))],[]⟩ rfl ?_ z0 trivial ?_
  ·kernel_rfl
  refine AOps.nil ?_
  refine AWp.seq ?_
  refine AWp.cond rfl (fun hb=>?_) fun hb=>?_
  ·replace h:=of_true h hb
   refine AWp.keepTo [0,2,3,12,13,14] 0 ⟨[(0,q0 v1),(2,q2 v27),(3,q2 v28),(12,q0 v1),(13,tI (v1.length:Int)),(14,tI v29)],[]⟩ ?_ z0 ?_
   ·kernel_rfl
   refine AWp.skip ?_
   refine AWp.seq ?_
   refine AWp.block ?_
   refine AWp.seq ?_
   obtain ⟨hg,h⟩:=of_guard h
   refine AWp.start [0,1,2,3,4,5] [] [(0:Int) ≤ v29,v29 < (v1.length:Int)] [0,2,3,4,5,12,13,14] 1 ⟨[(0,q0 v1),(2,q2 v27),(3,q2 v28),(4,tI v29),(5,.pc 0 0),(12,q0 v1),(13,tI (v1.length:Int)),(14,tI v29)],[.cells 81 (c80 (gD v1 v29))]⟩ rfl ?_ z0 ⟨hg.1,hg.2⟩ ?_
   ·kernel_rfl
   refine AOps.nil ?_
   refine AWp.seq ?_
   refine AWp.pin 0 rfl rfl ?_
   refine AWp.keepTo [0,2,3,4,5,12,13,14] 0 ⟨[(0,q0 v1),(2,q2 v27),(3,q2 v28),(4,tI v29),(5,.rp (c80 (gD v1 v29))),(12,q0 v1),(13,tI (v1.length:Int)),(14,tI v29)],[]⟩ ?_ z0 ?_
   ·kernel_rfl
   refine AWp.start [0,1] [] [] [0,2,3,4,5,6,7,12,13,14] 0 ⟨[(0,q0 v1),(2,q2 v27),(3,q2 v28),(4,tI v29),(5,.rp (c80 (gD v1 v29))),(6,tI (0:Int)),(7,tI (0:Int)),(12,q0 v1),(13,tI (v1.length:Int)),(14,tI v29)],[]⟩ rfl ?_ z0 trivial ?_
   ·kernel_rfl
   refine AOps.nil ?_
   refine AWp.join (V:=Int × Int) (fun w=>⟨[(0,q0 v1),(2,q2 v27),(3,q2 v28),(4,tI v29),(5,.rp (c80 (gD v1 v29))),(6,tI w.1),(7,tI w.2),(12,q0 v1),(13,tI (v1.length:Int)),(14,tI v29)],[]⟩) (fun w=>f51_j3 v1 v27 v28 v29 w.1 w.2 = some o) ?_ ?_
   ·refine AWp.seq ?_
    refine AWp.start [0,1,2] [] [] [0,2,3,4,5,6,7,12,13,14,21] 0 ⟨[(0,q0 v1),(2,q2 v27),(3,q2 v28),(4,tI v29),(5,.rp (c80 (gD v1 v29))),(6,tI (0:Int)),(7,tI (0:Int)),(12,q0 v1),(13,tI (v1.length:Int)),(14,tI v29),(21,tB (!(((gD v1 v29).f1) == ([]:List UInt8))))],[]⟩ rfl ?_ z0 trivial ?_
    ·kernel_rfl
    refine AOps.nil ?_
    refine AWp.cond rfl (fun hb=>?_) fun hb=>?_
    ·replace h:=of_true h hb
     refine AWp.keepTo [0,2,3,4,5,12,13,14] 0 ⟨[(0,q0 v1),(2,q2 v27),(3,q2 v28),(4,tI v29),(5,.rp (c80 (gD v1 v29))),(12,q0 v1),(13,tI (v1.length:Int)),(14,tI v29)],[]⟩ ?_ z0 ?_
     ·kernel_rfl
     refine AWp.seq ?_
     refine AWp.draw FFm _ (n:=7) rfl (ls:=#[n1,n1,n1,n1,n1,n1,n1]) rfl ?_ (fun _ h=>h)
     obtain ⟨hg,h⟩:=of_guard h
     refine AAny.go (by kernel_rfl) [0,1,2] (fuel':=4) rfl [(0:Int) ≤ (0:Int),(0:Int) ≤ v29,v29 ≤ (v1.length:Int)] #[y1,y1,y1,n1,n1,n1,n1] [0,2,3,4,5,12,13,14,24] 0 ⟨[(0,q0 v1),(2,q2 v27),(3,q2 v28),(4,tI v29),(5,.rp (c80 (gD v1 v29))),(12,q0 v1),(13,tI (v1.length:Int)),(14,tI v29),(24,.tv (.fz 6 (v29.toNat - 0) (fun i=>c80 (v1.getD (0 + i) default))))],[]⟩ ?_ z0 ⟨(by decide:(0:Int) ≤ (0:Int)),hg.1,hg.2⟩ ?_
     ·kernel_rfl
     have hb:v29.toNat ≤ v1.length:=by have hh:v29 ≤ (v1.length:Int):=hg.2; omega
     refine AAny.extFzL (s:=24) rfl (sub_len v1 0 v29.toNat hb) (sub_at c80 v1 0 v29.toNat hb) ?_
     refine AAny.go (by kernel_rfl) [3,4] (fuel':=2) rfl [] #[y1,y1,y1,y1,y1,n1,n1] [0,2,3,4,5,12,13,14,24,26] 0 ⟨[(0,q0 v1),(2,q2 v27),(3,q2 v28),(4,tI v29),(5,.rp (c80 (gD v1 v29))),(12,q0 v1),(13,tI (v1.length:Int)),(14,tI v29),(24,q0 ((v1.take v29.toNat).drop 0)),(26,tS ((gD v1 v29).f1))],[]⟩ ?_ z0 trivial ?_
     ·kernel_rfl
     obtain ⟨v47,hv47,h⟩:=of_bind h
     refine AAny.serial (i:=5) (fuel:=1) (by kernel_rfl) (AOne.callP (F:=(FF 92 0)) _ rfl rfl rfl _ rfl rfl _ _ rfl Tryz.call29 [q0 ((v1.take v29.toNat).drop 0),tS ((gD v1 v29).f1)] rfl rfl (f29_ok ((v1.take v29.toNat).drop 0) ((gD v1 v29).f1) hv47) rfl) ?_
     refine AAny.keepTo [0,2,3,4,5,12,13,14,27] 0 ⟨[(0,q0 v1),(2,q2 v27),(3,q2 v28),(4,tI v29),(5,.rp (c80 (gD v1 v29))),(12,q0 v1),(13,tI (v1.length:Int)),(14,tI v29),(27,tI v47)],[]⟩ #[y1,y1,y1,y1,y1,y1,n1] ?_ rfl z0 ?_
     ·kernel_rfl
     refine AAny.go (by kernel_rfl) [6] (fuel':=0) rfl [] #[y1,y1,y1,y1,y1,y1,y1] [0,2,3,4,5,8,12,13,14] 0 ⟨[(0,q0 v1),(2,q2 v27),(3,q2 v28),(4,tI v29),(5,.rp (c80 (gD v1 v29))),(8,tI v47),(12,q0 v1),(13,tI (v1.length:Int)),(14,tI v29)],[]⟩ ?_ z0 trivial ?_
     ·kernel_rfl
     refine AAny.keepTo [0,2,3,4,5,8,12,13,14] 0 ⟨[(0,q0 v1),(2,q2 v27),(3,q2 v28),(4,tI v29),(5,.rp (c80 (gD v1 v29))),(8,tI v47),(12,q0 v1),(13,tI (v1.length:Int)),(14,tI v29)],[]⟩ _ ?_ rfl z0 (AAny.done (by kernel_rfl) ?_)
     ·kernel_rfl
     refine AWp.draw FFm _ (n:=11) rfl (ls:=#[n1,n1,n1,n1,n1,n1,n1,n1,n1,n1,n1]) rfl ?_ (fun _ h=>h)
     obtain ⟨hg,h⟩:=of_guard h
     refine AAny.go (by kernel_rfl) [0,1,2,4,5,6] (fuel':=5) rfl [(0:Int) ≤ v47,v47 < (v27.length:Int),(0:Int) ≤ v47,v47 < (v28.length:Int)] #[y1,y1,y1,n1,y1,y1,y1,n1,n1,n1,n1] [0,2,3,4,5,12,13,14,30,34] 0 ⟨[(0,q0 v1),(2,q2 v27),(3,q2 v28),(4,tI v29),(5,.rp (c80 (gD v1 v29))),(12,q0 v1),(13,tI (v1.length:Int)),(14,tI v29),(30,.pe (.slot 2 0,[]) v47.toNat 0 1),(34,.pe (.slot 3 0,[]) v47.toNat 0 1)],[]⟩ ?_ z0 ⟨hg.1,hg.2.1,hg.2.2.1,hg.2.2.2⟩ ?_
     ·kernel_rfl
     refine AAny.goR (by kernel_rfl) (i:=7) (fuel':=4) [8,10] rfl (by kernel_rfl) (by kernel_rfl) [] #[y1,y1,y1,n1,y1,y1,y1,y1,n1,n1,n1] rfl [0,2,3,4,5,12,13,14,30,35] 0 ⟨[(0,q0 v1),(2,q2 v27),(3,q2 v28),(4,tI v29),(5,.rp (c80 (gD v1 v29))),(12,q0 v1),(13,tI (v1.length:Int)),(14,tI v29),(30,.pe (.slot 2 0,[]) v47.toNat 0 1),(35,tI (gD v28 v47))],[]⟩ ?_ z0 trivial ?_
     ·kernel_rfl
     refine AAny.go (by kernel_rfl) [8] (fuel':=3) rfl [] #[y1,y1,y1,n1,y1,y1,y1,y1,y1,n1,n1] [0,2,3,4,5,12,13,14,30,36] 0 ⟨[(0,q0 v1),(2,q2 v27),(3,q2 v28),(4,tI v29),(5,.rp (c80 (gD v1 v29))),(12,q0 v1),(13,tI (v1.length:Int)),(14,tI v29),(30,.pe (.slot 2 0,[]) v47.toNat 0 1),(36,tI (w64 ((1:Int) + (gD v28 v47))))],[]⟩ ?_ z0 trivial ?_
     ·kernel_rfl
     refine AAny.step (i:=3) (fuel':=2) rfl (by kernel_rfl) [] #[y1,y1,y1,y1,y1,y1,y1,y1,y1,n1,n1] rfl [0,2,3,4,5,12,13,14,31,36] 0 ⟨[(0,q0 v1),(2,q2 v27),(3,q2 v28),(4,tI v29),(5,.rp (c80 (gD v1 v29))),(12,q0 v1),(13,tI (v1.length:Int)),(14,tI v29),(31,tI (gD v27 v47)),(36,tI (w64 ((1:Int) + (gD v28 v47))))],[]⟩ ?_ z0 trivial ?_
     ·kernel_rfl
     refine AAny.go (by kernel_rfl) [9,10] (fuel':=0) rfl [] #[y1,y1,y1,y1,y1,y1,y1,y1,y1,y1,y1] [0,2,3,4,5,6,7,12,13,14] 0 ⟨[(0,q0 v1),(2,q2 v27),(3,q2 v28),(4,tI v29),(5,.rp (c80 (gD v1 v29))),(6,tI (gD v27 v47)),(7,tI (w64 ((1:Int) + (gD v28 v47)))),(12,q0 v1),(13,tI (v1.length:Int)),(14,tI v29)],[]⟩ ?_ z0 trivial ?_
     ·kernel_rfl
     refine AAny.keepTo [0,2,3,4,5,6,7,12,13,14] 0 ⟨[(0,q0 v1),(2,q2 v27),(3,q2 v28),(4,tI v29),(5,.rp (c80 (gD v1 v29))),(6,tI (gD v27 v47)),(7,tI (w64 ((1:Int) + (gD v28 v47)))),(12,q0 v1),(13,tI (v1.length:Int)),(14,tI v29)],[]⟩ _ ?_ rfl z0 (AAny.done (by kernel_rfl) ?_)
     ·kernel_rfl
     exact ⟨(gD v27 v47,w64 ((1:Int) + (gD v28 v47))),h,rfl⟩
    ·replace h:=of_false h hb
     refine AWp.keepTo [0,2,3,4,5,6,7,12,13,14] 0 ⟨[(0,q0 v1),(2,q2 v27),(3,q2 v28),(4,tI v29),(5,.rp (c80 (gD v1 v29))),(6,tI (0:Int)),(7,tI (0:Int)),(12,q0 v1),(13,tI (v1.length:Int)),(14,tI v29)],[]⟩ ?_ z0 ?_
     ·kernel_rfl
     refine AWp.skip ?_
     exact ⟨((0:Int),(0:Int)),h,rfl⟩
   ·rintro ⟨v32,v33⟩ h
    refine AWp.seq ?_
    refine AWp.seq ?_
    refine AWp.start [0,1,2,3] [] [] [0,2,3,4,6,7,12,13,14,38,39,40] 0 ⟨[(0,q0 v1),(2,q2 v27),(3,q2 v28),(4,tI v29),(6,tI v32),(7,tI v33),(12,q0 v1),(13,tI (v1.length:Int)),(14,tI v29),(38,q1 ((gD v1 v29).f3)),(39,tI (((gD v1 v29).f3).length:Int)),(40,tI (0:Int))],[]⟩ rfl ?_ z0 trivial ?_
    ·kernel_rfl
    refine AOps.nil ?_
    refine AWp.block ?_
    obtain ⟨y,hy,h⟩:=of_bind h
    refine AWp.mono (AWp.loop (S:=Int × Int × Int) (Y:=Out ((List Int) × (List Int)) (Int × Int)) (fun s=>⟨[(0,q0 v1),(2,q2 v27),(3,q2 v28),(4,tI v29),(6,tI s.1),(7,tI s.2.1),(12,q0 v1),(13,tI (v1.length:Int)),(14,tI v29),(38,q1 ((gD v1 v29).f3)),(39,tI (((gD v1 v29).f3).length:Int)),(40,tI s.2.2)],[]⟩) (fun s=>f51_b2 v1 v27 v28 v29 s.1 s.2.1 s.2.2) (fun y e σ=>match y with | .ret r=>e = .ret ∧ σ = ⟨[(2,q3 r.1),(3,q3 r.2)],[]⟩ | .go v=>e = .exit 2 ∧ σ = ⟨[(0,q0 v1),(2,q2 v27),(3,q2 v28),(6,tI v.1),(7,tI v.2),(12,q0 v1),(13,tI (v1.length:Int)),(14,tI v29)],[]⟩) ?_ hy) ?_
    ·rintro ⟨v34,v35,v36⟩ o h
     refine AWp.seq ?_
     refine AWp.start [0] [] [] [0,2,3,4,6,7,12,13,14,38,39,40,41] 0 ⟨[(0,q0 v1),(2,q2 v27),(3,q2 v28),(4,tI v29),(6,tI v34),(7,tI v35),(12,q0 v1),(13,tI (v1.length:Int)),(14,tI v29),(38,q1 ((gD v1 v29).f3)),(39,tI (((gD v1 v29).f3).length:Int)),(40,tI v36),(41,tB (decide (v36 < (((gD v1 v29).f3).length:Int))))],[]⟩ rfl ?_ z0 trivial ?_
     ·kernel_rfl
     refine AOps.nil ?_
     refine AWp.seq ?_
     refine AWp.cond rfl (fun hb=>?_) fun hb=>?_
     ·replace h:=of_true h hb
      refine AWp.keepTo [0,2,3,4,6,7,12,13,14,38,39,40] 0 ⟨[(0,q0 v1),(2,q2 v27),(3,q2 v28),(4,tI v29),(6,tI v34),(7,tI v35),(12,q0 v1),(13,tI (v1.length:Int)),(14,tI v29),(38,q1 ((gD v1 v29).f3)),(39,tI (((gD v1 v29).f3).length:Int)),(40,tI v36)],[]⟩ ?_ z0 ?_
      ·kernel_rfl
      refine AWp.skip ?_
      refine AWp.join (V:=Int × Int) (fun w=>⟨[(0,q0 v1),(2,q2 v27),(3,q2 v28),(4,tI v29),(6,tI w.1),(7,tI w.2),(12,q0 v1),(13,tI (v1.length:Int)),(14,tI v29),(38,q1 ((gD v1 v29).f3)),(39,tI (((gD v1 v29).f3).length:Int)),(40,tI v36)],[]⟩) (fun w=>f51_j1 v36 w.1 w.2 = some o) ?_ ?_
      ·refine AWp.block ?_
       refine AWp.seq ?_
       obtain ⟨hg,h⟩:=of_guard h
       refine AWp.start [0,1,2,3] [] [(0:Int) ≤ v36,v36 < (((gD v1 v29).f3).length:Int)] [0,2,3,4,6,7,10,12,13,14,38,39,40] 1 ⟨[(0,q0 v1),(2,q2 v27),(3,q2 v28),(4,tI v29),(6,tI v34),(7,tI v35),(10,.pc 0 0),(12,q0 v1),(13,tI (v1.length:Int)),(14,tI v29),(38,q1 ((gD v1 v29).f3)),(39,tI (((gD v1 v29).f3).length:Int)),(40,tI v36)],[.cells 87 (c86 (gD ((gD v1 v29).f3) v36))]⟩ rfl ?_ z0 ⟨hg.1,hg.2⟩ ?_
       ·kernel_rfl
       refine AOps.nil ?_
       refine AWp.seq ?_
       refine AWp.seq ?_
       refine AWp.pin 0 rfl rfl ?_
       refine AWp.keepTo [0,2,3,4,6,7,10,12,13,14,38,39,40] 0 ⟨[(0,q0 v1),(2,q2 v27),(3,q2 v28),(4,tI v29),(6,tI v34),(7,tI v35),(10,.rp (c86 (gD ((gD v1 v29).f3) v36))),(12,q0 v1),(13,tI (v1.length:Int)),(14,tI v29),(38,q1 ((gD v1 v29).f3)),(39,tI (((gD v1 v29).f3).length:Int)),(40,tI v36)],[]⟩ ?_ z0 ?_
       ·kernel_rfl
       refine AWp.start [0,1,2] [] [] [0,2,3,4,6,7,10,12,13,14,38,39,40,46] 0 ⟨[(0,q0 v1),(2,q2 v27),(3,q2 v28),(4,tI v29),(6,tI v34),(7,tI v35),(10,.rp (c86 (gD ((gD v1 v29).f3) v36))),(12,q0 v1),(13,tI (v1.length:Int)),(14,tI v29),(38,q1 ((gD v1 v29).f3)),(39,tI (((gD v1 v29).f3).length:Int)),(40,tI v36),(46,tB (((gD ((gD v1 v29).f3) v36).f1) == ([]:List UInt8)))],[]⟩ rfl ?_ z0 trivial ?_
       ·kernel_rfl
       refine AOps.nil ?_
       refine AWp.cond rfl (fun hb=>?_) fun hb=>?_
       ·replace h:=of_true h hb
        refine AWp.keepTo [0,2,3,4,6,7,10,12,13,14,38,39,40] 0 ⟨[(0,q0 v1),(2,q2 v27),(3,q2 v28),(4,tI v29),(6,tI v34),(7,tI v35),(10,.rp (c86 (gD ((gD v1 v29).f3) v36))),(12,q0 v1),(13,tI (v1.length:Int)),(14,tI v29),(38,q1 ((gD v1 v29).f3)),(39,tI (((gD v1 v29).f3).length:Int)),(40,tI v36)],[]⟩ ?_ z0 ?_
        ·kernel_rfl
        refine AWp.seq ?_
        refine AWp.draw FFm _ (n:=10) rfl (ls:=#[n1,n1,n1,n1,n1,n1,n1,n1,n1,n1]) rfl ?_ (fun _ h=>h)
        refine AAny.go (by kernel_rfl) [0,1,4,5] (fuel':=6) rfl [] #[y1,y1,n1,n1,y1,y1,n1,n1,n1,n1] [0,2,3,4,6,7,12,13,14,38,39,40,47,48,51,52] 0 ⟨[(0,q0 v1),(2,q2 v27),(3,q2 v28),(4,tI v29),(6,tI v34),(7,tI v35),(12,q0 v1),(13,tI (v1.length:Int)),(14,tI v29),(38,q1 ((gD v1 v29).f3)),(39,tI (((gD v1 v29).f3).length:Int)),(40,tI v36),(47,tI v34),(48,.agg (c86 (gD ((gD v1 v29).f3) v36))),(51,tI v35),(52,.agg (c86 (gD ((gD v1 v29).f3) v36)))],[]⟩ ?_ z0 trivial ?_
        ·kernel_rfl
        obtain ⟨v41,hv41,h⟩:=of_bind h
        refine AAny.serial (i:=2) (fuel:=5) (by kernel_rfl) (AOne.callP (F:=(FF 92 0)) _ rfl rfl rfl _ rfl rfl _ _ rfl Tryz.call57 [.agg (c86 (gD ((gD v1 v29).f3) v36))] rfl rfl (f57_ok (gD ((gD v1 v29).f3) v36) hv41) rfl) ?_
        refine AAny.keepTo [0,2,3,4,6,7,12,13,14,38,39,40,47,49,51,52] 0 ⟨[(0,q0 v1),(2,q2 v27),(3,q2 v28),(4,tI v29),(6,tI v34),(7,tI v35),(12,q0 v1),(13,tI (v1.length:Int)),(14,tI v29),(38,q1 ((gD v1 v29).f3)),(39,tI (((gD v1 v29).f3).length:Int)),(40,tI v36),(47,tI v34),(49,tI v41),(51,tI v35),(52,.agg (c86 (gD ((gD v1 v29).f3) v36)))],[]⟩ #[y1,y1,y1,n1,y1,y1,n1,n1,n1,n1] ?_ rfl z0 ?_
        ·kernel_rfl
        refine AAny.go (by kernel_rfl) [3] (fuel':=4) rfl [] #[y1,y1,y1,y1,y1,y1,n1,n1,n1,n1] [0,2,3,4,6,7,12,13,14,38,39,40,50,51,52] 0 ⟨[(0,q0 v1),(2,q2 v27),(3,q2 v28),(4,tI v29),(6,tI v34),(7,tI v35),(12,q0 v1),(13,tI (v1.length:Int)),(14,tI v29),(38,q1 ((gD v1 v29).f3)),(39,tI (((gD v1 v29).f3).length:Int)),(40,tI v36),(50,tI (w64 (v34 + v41))),(51,tI v35),(52,.agg (c86 (gD ((gD v1 v29).f3) v36)))],[]⟩ ?_ z0 trivial ?_
        ·kernel_rfl
        obtain ⟨v42,hv42,h⟩:=of_bind h
        refine AAny.serial (i:=6) (fuel:=3) (by kernel_rfl) (AOne.callP (F:=(FF 92 0)) _ rfl rfl rfl _ rfl rfl _ _ rfl Tryz.call57 [.agg (c86 (gD ((gD v1 v29).f3) v36))] rfl rfl (f57_ok (gD ((gD v1 v29).f3) v36) hv42) rfl) ?_
        refine AAny.keepTo [0,2,3,4,6,7,12,13,14,38,39,40,50,51,53] 0 ⟨[(0,q0 v1),(2,q2 v27),(3,q2 v28),(4,tI v29),(6,tI v34),(7,tI v35),(12,q0 v1),(13,tI (v1.length:Int)),(14,tI v29),(38,q1 ((gD v1 v29).f3)),(39,tI (((gD v1 v29).f3).length:Int)),(40,tI v36),(50,tI (w64 (v34 + v41))),(51,tI v35),(53,tI v42)],[]⟩ #[y1,y1,y1,y1,y1,y1,y1,n1,n1,n1] ?_ rfl z0 ?_
        ·kernel_rfl
        refine AAny.go (by kernel_rfl) [7,8,9] (fuel':=0) rfl [] #[y1,y1,y1,y1,y1,y1,y1,y1,y1,y1] [0,2,3,4,6,7,12,13,14,38,39,40] 0 ⟨[(0,q0 v1),(2,q2 v27),(3,q2 v28),(4,tI v29),(6,tI (w64 (v34 + v41))),(7,tI (w64 (v35 + v42))),(12,q0 v1),(13,tI (v1.length:Int)),(14,tI v29),(38,q1 ((gD v1 v29).f3)),(39,tI (((gD v1 v29).f3).length:Int)),(40,tI v36)],[]⟩ ?_ z0 trivial ?_
        ·kernel_rfl
        refine AAny.keepTo [0,2,3,4,6,7,12,13,14,38,39,40] 0 ⟨[(0,q0 v1),(2,q2 v27),(3,q2 v28),(4,tI v29),(6,tI (w64 (v34 + v41))),(7,tI (w64 (v35 + v42))),(12,q0 v1),(13,tI (v1.length:Int)),(14,tI v29),(38,q1 ((gD v1 v29).f3)),(39,tI (((gD v1 v29).f3).length:Int)),(40,tI v36)],[]⟩ _ ?_ rfl z0 (AAny.done (by kernel_rfl) ?_)
        ·kernel_rfl
        refine AWp.exit ?_
        exact ⟨(w64 (v34 + v41),w64 (v35 + v42)),h,rfl⟩
       ·replace h:=of_false h hb
        refine AWp.keepTo [0,2,3,4,6,7,10,12,13,14,38,39,40] 0 ⟨[(0,q0 v1),(2,q2 v27),(3,q2 v28),(4,tI v29),(6,tI v34),(7,tI v35),(10,.rp (c86 (gD ((gD v1 v29).f3) v36))),(12,q0 v1),(13,tI (v1.length:Int)),(14,tI v29),(38,q1 ((gD v1 v29).f3)),(39,tI (((gD v1 v29).f3).length:Int)),(40,tI v36)],[]⟩ ?_ z0 ?_
        ·kernel_rfl
        refine AWp.skip ?_
        refine AWp.seq ?_
        refine AWp.draw FFm _ (n:=7) rfl (ls:=#[n1,n1,n1,n1,n1,n1,n1]) rfl ?_ (fun _ h=>h)
        obtain ⟨hg,h⟩:=of_guard h
        refine AAny.go (by kernel_rfl) [0,1,2] (fuel':=4) rfl [(0:Int) ≤ (0:Int),(0:Int) ≤ v29,v29 ≤ (v1.length:Int)] #[y1,y1,y1,n1,n1,n1,n1] [0,2,3,4,6,7,10,12,13,14,38,39,40,57] 0 ⟨[(0,q0 v1),(2,q2 v27),(3,q2 v28),(4,tI v29),(6,tI v34),(7,tI v35),(10,.rp (c86 (gD ((gD v1 v29).f3) v36))),(12,q0 v1),(13,tI (v1.length:Int)),(14,tI v29),(38,q1 ((gD v1 v29).f3)),(39,tI (((gD v1 v29).f3).length:Int)),(40,tI v36),(57,.tv (.fz 6 (v29.toNat - 0) (fun i=>c80 (v1.getD (0 + i) default))))],[]⟩ ?_ z0 ⟨(by decide:(0:Int) ≤ (0:Int)),hg.1,hg.2⟩ ?_
        ·kernel_rfl
        have hb:v29.toNat ≤ v1.length:=by have hh:v29 ≤ (v1.length:Int):=hg.2; omega
        refine AAny.extFzL (s:=57) rfl (sub_len v1 0 v29.toNat hb) (sub_at c80 v1 0 v29.toNat hb) ?_
        refine AAny.go (by kernel_rfl) [3,4] (fuel':=2) rfl [] #[y1,y1,y1,y1,y1,n1,n1] [0,2,3,4,6,7,10,12,13,14,38,39,40,57,59] 0 ⟨[(0,q0 v1),(2,q2 v27),(3,q2 v28),(4,tI v29),(6,tI v34),(7,tI v35),(10,.rp (c86 (gD ((gD v1 v29).f3) v36))),(12,q0 v1),(13,tI (v1.length:Int)),(14,tI v29),(38,q1 ((gD v1 v29).f3)),(39,tI (((gD v1 v29).f3).length:Int)),(40,tI v36),(57,q0 ((v1.take v29.toNat).drop 0)),(59,tS ((gD ((gD v1 v29).f3) v36).f1))],[]⟩ ?_ z0 trivial ?_
        ·kernel_rfl
        obtain ⟨v43,hv43,h⟩:=of_bind h
        refine AAny.serial (i:=5) (fuel:=1) (by kernel_rfl) (AOne.callP (F:=(FF 92 0)) _ rfl rfl rfl _ rfl rfl _ _ rfl Tryz.call29 [q0 ((v1.take v29.toNat).drop 0),tS ((gD ((gD v1 v29).f3) v36).f1)] rfl rfl (f29_ok ((v1.take v29.toNat).drop 0) ((gD ((gD v1 v29).f3) v36).f1) hv43) rfl) ?_
        refine AAny.keepTo [0,2,3,4,6,7,10,12,13,14,38,39,40,60] 0 ⟨[(0,q0 v1),(2,q2 v27),(3,q2 v28),(4,tI v29),(6,tI v34),(7,tI v35),(10,.rp (c86 (gD ((gD v1 v29).f3) v36))),(12,q0 v1),(13,tI (v1.length:Int)),(14,tI v29),(38,q1 ((gD v1 v29).f3)),(39,tI (((gD v1 v29).f3).length:Int)),(40,tI v36),(60,tI v43)],[]⟩ #[y1,y1,y1,y1,y1,y1,n1] ?_ rfl z0 ?_
        ·kernel_rfl
        refine AAny.go (by kernel_rfl) [6] (fuel':=0) rfl [] #[y1,y1,y1,y1,y1,y1,y1] [0,2,3,4,6,7,10,11,12,13,14,38,39,40] 0 ⟨[(0,q0 v1),(2,q2 v27),(3,q2 v28),(4,tI v29),(6,tI v34),(7,tI v35),(10,.rp (c86 (gD ((gD v1 v29).f3) v36))),(11,tI v43),(12,q0 v1),(13,tI (v1.length:Int)),(14,tI v29),(38,q1 ((gD v1 v29).f3)),(39,tI (((gD v1 v29).f3).length:Int)),(40,tI v36)],[]⟩ ?_ z0 trivial ?_
        ·kernel_rfl
        refine AAny.keepTo [0,2,3,4,6,7,10,11,12,13,14,38,39,40] 0 ⟨[(0,q0 v1),(2,q2 v27),(3,q2 v28),(4,tI v29),(6,tI v34),(7,tI v35),(10,.rp (c86 (gD ((gD v1 v29).f3) v36))),(11,tI v43),(12,q0 v1),(13,tI (v1.length:Int)),(14,tI v29),(38,q1 ((gD v1 v29).f3)),(39,tI (((gD v1 v29).f3).length:Int)),(40,tI v36)],[]⟩ _ ?_ rfl z0 (AAny.done (by kernel_rfl) ?_)
        ·kernel_rfl
        refine AWp.draw FFm _ (n:=21) rfl (ls:=#[n1,n1,n1,n1,n1,n1,n1,n1,n1,n1,n1,n1,n1,n1,n1,n1,n1,n1,n1,n1,n1]) rfl ?_ (fun _ h=>h)
        obtain ⟨hg,h⟩:=of_guard h
        refine AAny.go (by kernel_rfl) [0,1,3,4,5,9,10,12,13,14] (fuel':=11) rfl [(0:Int) ≤ v43,v43 < (v27.length:Int),(0:Int) ≤ v43,v43 < (v28.length:Int)] #[y1,y1,n1,y1,y1,y1,n1,n1,n1,y1,y1,n1,y1,y1,y1,n1,n1,n1,n1,n1,n1] [0,2,3,4,6,7,12,13,14,38,39,40,61,62,66,70,71,75] 0 ⟨[(0,q0 v1),(2,q2 v27),(3,q2 v28),(4,tI v29),(6,tI v34),(7,tI v35),(12,q0 v1),(13,tI (v1.length:Int)),(14,tI v29),(38,q1 ((gD v1 v29).f3)),(39,tI (((gD v1 v29).f3).length:Int)),(40,tI v36),(61,tI v34),(62,.agg (c86 (gD ((gD v1 v29).f3) v36))),(66,.pe (.slot 2 0,[]) v43.toNat 0 1),(70,tI v35),(71,.agg (c86 (gD ((gD v1 v29).f3) v36))),(75,.pe (.slot 3 0,[]) v43.toNat 0 1)],[]⟩ ?_ z0 ⟨hg.1,hg.2.1,hg.2.2.1,hg.2.2.2⟩ ?_
        ·kernel_rfl
        obtain ⟨v44,hv44,h⟩:=of_bind h
        obtain ⟨v45,hv45,h⟩:=of_bind h
        refine AAny.share 0 #[y1,y1,y1,y1,y1,y1,y1,y1,y1,y1,y1,y1,y1,y1,y1,y1,y1,y1,y1,y1,y1] ⟨[(0,q0 v1),(2,q2 v27),(3,q2 v28),(4,tI v29),(6,tI (w64 (v34 + (w64 (v44 * (gD v27 v43)))))),(7,tI (w64 (v35 + (w64 (v45 * (w64 ((1:Int) + (gD v28 v43)))))))),(12,q0 v1),(13,tI (v1.length:Int)),(14,tI v29),(38,q1 ((gD v1 v29).f3)),(39,tI (((gD v1 v29).f3).length:Int)),(40,tI v36)],[]⟩ ?_ fun n7_=>?_
        ·refine AAny.keepTo [0,2,3,4,6,7,12,13,14,38,39,40] 0 ⟨[(0,q0 v1),(2,q2 v27),(3,q2 v28),(4,tI v29),(6,tI (w64 (v34 + (w64 (v44 * (gD v27 v43)))))),(7,tI (w64 (v35 + (w64 (v45 * (w64 ((1:Int) + (gD v28 v43)))))))),(12,q0 v1),(13,tI (v1.length:Int)),(14,tI v29),(38,q1 ((gD v1 v29).f3)),(39,tI (((gD v1 v29).f3).length:Int)),(40,tI v36)],[]⟩ _ ?_ rfl z0 (AAny.done (by kernel_rfl) ?_)
         ·kernel_rfl
         exact ⟨(w64 (v34 + (w64 (v44 * (gD v27 v43)))),w64 (v35 + (w64 (v45 * (w64 ((1:Int) + (gD v28 v43))))))),h,rfl⟩
        refine AAny.share 5 #[y1,y1,y1,y1,y1,y1,y1,y1,y1,y1,y1,n1,y1,y1,y1,y1,y1,n1,n1,n1,n1] ⟨[(0,q0 v1),(2,q2 v27),(3,q2 v28),(4,tI v29),(6,tI v34),(7,tI v35),(12,q0 v1),(13,tI (v1.length:Int)),(14,tI v29),(38,q1 ((gD v1 v29).f3)),(39,tI (((gD v1 v29).f3).length:Int)),(40,tI v36),(69,tI (w64 (v34 + (w64 (v44 * (gD v27 v43)))))),(70,tI v35),(71,.agg (c86 (gD ((gD v1 v29).f3) v36))),(77,tI (w64 ((1:Int) + (gD v28 v43))))],[]⟩ ?_ fun n6_=>?_
        ·refine AAny.each [11] (by kernel_rfl) rfl ?_
         refine AEach.one (i:=11) (AOne.callP (F:=(FF 92 0)) _ rfl rfl rfl _ rfl rfl _ _ rfl Tryz.call57 [.agg (c86 (gD ((gD v1 v29).f3) v36))] rfl rfl (f57_ok (gD ((gD v1 v29).f3) v36) hv45) rfl) ?_ ?_
         ·refine AAny.keepTo [0,2,3,4,6,7,12,13,14,38,39,40,69,70,72,77] 0 ⟨[(0,q0 v1),(2,q2 v27),(3,q2 v28),(4,tI v29),(6,tI v34),(7,tI v35),(12,q0 v1),(13,tI (v1.length:Int)),(14,tI v29),(38,q1 ((gD v1 v29).f3)),(39,tI (((gD v1 v29).f3).length:Int)),(40,tI v36),(69,tI (w64 (v34 + (w64 (v44 * (gD v27 v43)))))),(70,tI v35),(72,tI v45),(77,tI (w64 ((1:Int) + (gD v28 v43))))],[]⟩ #[y1,y1,y1,y1,y1,y1,y1,y1,y1,y1,y1,y1,y1,y1,y1,y1,y1,n1,n1,n1,n1] ?_ rfl z0 ?_
          ·kernel_rfl
          refine AAny.go (by kernel_rfl) [17,18,19,20] (fuel':=0) rfl [] #[y1,y1,y1,y1,y1,y1,y1,y1,y1,y1,y1,y1,y1,y1,y1,y1,y1,y1,y1,y1,y1] [0,2,3,4,6,7,12,13,14,38,39,40] 0 ⟨[(0,q0 v1),(2,q2 v27),(3,q2 v28),(4,tI v29),(6,tI (w64 (v34 + (w64 (v44 * (gD v27 v43)))))),(7,tI (w64 (v35 + (w64 (v45 * (w64 ((1:Int) + (gD v28 v43)))))))),(12,q0 v1),(13,tI (v1.length:Int)),(14,tI v29),(38,q1 ((gD v1 v29).f3)),(39,tI (((gD v1 v29).f3).length:Int)),(40,tI v36)],[]⟩ ?_ z0 trivial ?_
          ·kernel_rfl
          exact n7_
         exact AEach.nil
        refine AAny.share 5 #[y1,y1,y1,y1,y1,y1,n1,n1,n1,y1,y1,y1,y1,y1,y1,y1,y1,y1,y1,n1,n1] ⟨[(0,q0 v1),(2,q2 v27),(3,q2 v28),(4,tI v29),(6,tI v34),(7,tI v35),(12,q0 v1),(13,tI (v1.length:Int)),(14,tI v29),(38,q1 ((gD v1 v29).f3)),(39,tI (((gD v1 v29).f3).length:Int)),(40,tI v36),(61,tI v34),(63,tI v44),(66,.pe (.slot 2 0,[]) v43.toNat 0 1),(79,tI (w64 (v35 + (w64 (v45 * (w64 ((1:Int) + (gD v28 v43))))))))],[]⟩ ?_ fun n8_=>?_
        ·refine AAny.each [6] (by kernel_rfl) rfl ?_
         refine AEach.step (i:=6) [] #[y1,y1,y1,y1,y1,y1,y1,n1,n1,y1,y1,y1,y1,y1,y1,y1,y1,y1,y1,n1,n1] rfl [0,2,3,4,6,7,12,13,14,38,39,40,61,63,67,79] 0 ⟨[(0,q0 v1),(2,q2 v27),(3,q2 v28),(4,tI v29),(6,tI v34),(7,tI v35),(12,q0 v1),(13,tI (v1.length:Int)),(14,tI v29),(38,q1 ((gD v1 v29).f3)),(39,tI (((gD v1 v29).f3).length:Int)),(40,tI v36),(61,tI v34),(63,tI v44),(67,tI (gD v27 v43)),(79,tI (w64 (v35 + (w64 (v45 * (w64 ((1:Int) + (gD v28 v43))))))))],[]⟩ ?_ z0 trivial ?_ ?_
         ·kernel_rfl
         ·refine AAny.go (by kernel_rfl) [7,8,19,20] (fuel':=0) rfl [] #[y1,y1,y1,y1,y1,y1,y1,y1,y1,y1,y1,y1,y1,y1,y1,y1,y1,y1,y1,y1,y1] [0,2,3,4,6,7,12,13,14,38,39,40] 0 ⟨[(0,q0 v1),(2,q2 v27),(3,q2 v28),(4,tI v29),(6,tI (w64 (v34 + (w64 (v44 * (gD v27 v43)))))),(7,tI (w64 (v35 + (w64 (v45 * (w64 ((1:Int) + (gD v28 v43)))))))),(12,q0 v1),(13,tI (v1.length:Int)),(14,tI v29),(38,q1 ((gD v1 v29).f3)),(39,tI (((gD v1 v29).f3).length:Int)),(40,tI v36)],[]⟩ ?_ z0 trivial ?_
          ·kernel_rfl
          exact n7_
         exact AEach.nil
        refine AAny.share 5 #[y1,y1,y1,y1,y1,y1,y1,y1,y1,y1,y1,y1,y1,y1,y1,n1,n1,n1,n1,y1,n1] ⟨[(0,q0 v1),(2,q2 v27),(3,q2 v28),(4,tI v29),(6,tI (w64 (v34 + (w64 (v44 * (gD v27 v43)))))),(7,tI v35),(12,q0 v1),(13,tI (v1.length:Int)),(14,tI v29),(38,q1 ((gD v1 v29).f3)),(39,tI (((gD v1 v29).f3).length:Int)),(40,tI v36),(70,tI v35),(72,tI v45),(75,.pe (.slot 3 0,[]) v43.toNat 0 1)],[]⟩ ?_ fun n10_=>?_
        ·refine AAny.each [15] (by kernel_rfl) rfl ?_
         refine AEach.step (i:=15) [] #[y1,y1,y1,y1,y1,y1,y1,y1,y1,y1,y1,y1,y1,y1,y1,y1,n1,n1,n1,y1,n1] rfl [0,2,3,4,6,7,12,13,14,38,39,40,70,72,76] 0 ⟨[(0,q0 v1),(2,q2 v27),(3,q2 v28),(4,tI v29),(6,tI (w64 (v34 + (w64 (v44 * (gD v27 v43)))))),(7,tI v35),(12,q0 v1),(13,tI (v1.length:Int)),(14,tI v29),(38,q1 ((gD v1 v29).f3)),(39,tI (((gD v1 v29).f3).length:Int)),(40,tI v36),(70,tI v35),(72,tI v45),(76,tI (gD v28 v43))],[]⟩ ?_ z0 trivial ?_ ?_
         ·kernel_rfl
         ·refine AAny.go (by kernel_rfl) [16,17,18,20] (fuel':=0) rfl [] #[y1,y1,y1,y1,y1,y1,y1,y1,y1,y1,y1,y1,y1,y1,y1,y1,y1,y1,y1,y1,y1] [0,2,3,4,6,7,12,13,14,38,39,40] 0 ⟨[(0,q0 v1),(2,q2 v27),(3,q2 v28),(4,tI v29),(6,tI (w64 (v34 + (w64 (v44 * (gD v27 v43)))))),(7,tI (w64 (v35 + (w64 (v45 * (w64 ((1:Int) + (gD v28 v43)))))))),(12,q0 v1),(13,tI (v1.length:Int)),(14,tI v29),(38,q1 ((gD v1 v29).f3)),(39,tI (((gD v1 v29).f3).length:Int)),(40,tI v36)],[]⟩ ?_ z0 trivial ?_
          ·kernel_rfl
          exact n7_
         exact AEach.nil
        refine AAny.share 7 #[y1,y1,y1,y1,y1,y1,y1,y1,y1,y1,y1,n1,y1,y1,y1,n1,n1,n1,n1,n1,n1] ⟨[(0,q0 v1),(2,q2 v27),(3,q2 v28),(4,tI v29),(6,tI v34),(7,tI v35),(12,q0 v1),(13,tI (v1.length:Int)),(14,tI v29),(38,q1 ((gD v1 v29).f3)),(39,tI (((gD v1 v29).f3).length:Int)),(40,tI v36),(69,tI (w64 (v34 + (w64 (v44 * (gD v27 v43)))))),(70,tI v35),(71,.agg (c86 (gD ((gD v1 v29).f3) v36))),(75,.pe (.slot 3 0,[]) v43.toNat 0 1)],[]⟩ ?_ fun n9_=>?_
        ·refine AAny.each [11,15] (by kernel_rfl) rfl ?_
         refine AEach.one (i:=11) (AOne.callP (F:=(FF 92 0)) _ rfl rfl rfl _ rfl rfl _ _ rfl Tryz.call57 [.agg (c86 (gD ((gD v1 v29).f3) v36))] rfl rfl (f57_ok (gD ((gD v1 v29).f3) v36) hv45) rfl) ?_ ?_
         ·refine AAny.keepTo [0,2,3,4,6,7,12,13,14,38,39,40,69,70,72,75] 0 ⟨[(0,q0 v1),(2,q2 v27),(3,q2 v28),(4,tI v29),(6,tI v34),(7,tI v35),(12,q0 v1),(13,tI (v1.length:Int)),(14,tI v29),(38,q1 ((gD v1 v29).f3)),(39,tI (((gD v1 v29).f3).length:Int)),(40,tI v36),(69,tI (w64 (v34 + (w64 (v44 * (gD v27 v43)))))),(70,tI v35),(72,tI v45),(75,.pe (.slot 3 0,[]) v43.toNat 0 1)],[]⟩ #[y1,y1,y1,y1,y1,y1,y1,y1,y1,y1,y1,y1,y1,y1,y1,n1,n1,n1,n1,n1,n1] ?_ rfl z0 ?_
          ·kernel_rfl
          refine AAny.go (by kernel_rfl) [19] (fuel':=5) rfl [] #[y1,y1,y1,y1,y1,y1,y1,y1,y1,y1,y1,y1,y1,y1,y1,n1,n1,n1,n1,y1,n1] [0,2,3,4,6,7,12,13,14,38,39,40,70,72,75] 0 ⟨[(0,q0 v1),(2,q2 v27),(3,q2 v28),(4,tI v29),(6,tI (w64 (v34 + (w64 (v44 * (gD v27 v43)))))),(7,tI v35),(12,q0 v1),(13,tI (v1.length:Int)),(14,tI v29),(38,q1 ((gD v1 v29).f3)),(39,tI (((gD v1 v29).f3).length:Int)),(40,tI v36),(70,tI v35),(72,tI v45),(75,.pe (.slot 3 0,[]) v43.toNat 0 1)],[]⟩ ?_ z0 trivial ?_
          ·kernel_rfl
          exact n10_
         refine AEach.step (i:=15) [] #[y1,y1,y1,y1,y1,y1,y1,y1,y1,y1,y1,n1,y1,y1,y1,y1,n1,n1,n1,n1,n1] rfl [0,2,3,4,6,7,12,13,14,38,39,40,69,70,71,76] 0 ⟨[(0,q0 v1),(2,q2 v27),(3,q2 v28),(4,tI v29),(6,tI v34),(7,tI v35),(12,q0 v1),(13,tI (v1.length:Int)),(14,tI v29),(38,q1 ((gD v1 v29).f3)),(39,tI (((gD v1 v29).f3).length:Int)),(40,tI v36),(69,tI (w64 (v34 + (w64 (v44 * (gD v27 v43)))))),(70,tI v35),(71,.agg (c86 (gD ((gD v1 v29).f3) v36))),(76,tI (gD v28 v43))],[]⟩ ?_ z0 trivial ?_ ?_
         ·kernel_rfl
         ·refine AAny.go (by kernel_rfl) [16] (fuel':=5) rfl [] #[y1,y1,y1,y1,y1,y1,y1,y1,y1,y1,y1,n1,y1,y1,y1,y1,y1,n1,n1,n1,n1] [0,2,3,4,6,7,12,13,14,38,39,40,69,70,71,77] 0 ⟨[(0,q0 v1),(2,q2 v27),(3,q2 v28),(4,tI v29),(6,tI v34),(7,tI v35),(12,q0 v1),(13,tI (v1.length:Int)),(14,tI v29),(38,q1 ((gD v1 v29).f3)),(39,tI (((gD v1 v29).f3).length:Int)),(40,tI v36),(69,tI (w64 (v34 + (w64 (v44 * (gD v27 v43)))))),(70,tI v35),(71,.agg (c86 (gD ((gD v1 v29).f3) v36))),(77,tI (w64 ((1:Int) + (gD v28 v43))))],[]⟩ ?_ z0 trivial ?_
          ·kernel_rfl
          exact n6_
         exact AEach.nil
        refine AAny.share 8 #[y1,y1,n1,y1,y1,y1,y1,n1,n1,y1,y1,n1,y1,y1,y1,y1,y1,n1,n1,n1,n1] ⟨[(0,q0 v1),(2,q2 v27),(3,q2 v28),(4,tI v29),(6,tI v34),(7,tI v35),(12,q0 v1),(13,tI (v1.length:Int)),(14,tI v29),(38,q1 ((gD v1 v29).f3)),(39,tI (((gD v1 v29).f3).length:Int)),(40,tI v36),(61,tI v34),(62,.agg (c86 (gD ((gD v1 v29).f3) v36))),(67,tI (gD v27 v43)),(70,tI v35),(71,.agg (c86 (gD ((gD v1 v29).f3) v36))),(77,tI (w64 ((1:Int) + (gD v28 v43))))],[]⟩ ?_ fun n5_=>?_
        ·refine AAny.each [2] (by kernel_rfl) rfl ?_
         refine AEach.one (i:=2) (AOne.callP (F:=(FF 92 0)) _ rfl rfl rfl _ rfl rfl _ _ rfl Tryz.call57 [.agg (c86 (gD ((gD v1 v29).f3) v36))] rfl rfl (f57_ok (gD ((gD v1 v29).f3) v36) hv44) rfl) ?_ ?_
         ·refine AAny.keepTo [0,2,3,4,6,7,12,13,14,38,39,40,61,63,67,70,71,77] 0 ⟨[(0,q0 v1),(2,q2 v27),(3,q2 v28),(4,tI v29),(6,tI v34),(7,tI v35),(12,q0 v1),(13,tI (v1.length:Int)),(14,tI v29),(38,q1 ((gD v1 v29).f3)),(39,tI (((gD v1 v29).f3).length:Int)),(40,tI v36),(61,tI v34),(63,tI v44),(67,tI (gD v27 v43)),(70,tI v35),(71,.agg (c86 (gD ((gD v1 v29).f3) v36))),(77,tI (w64 ((1:Int) + (gD v28 v43))))],[]⟩ #[y1,y1,y1,y1,y1,y1,y1,n1,n1,y1,y1,n1,y1,y1,y1,y1,y1,n1,n1,n1,n1] ?_ rfl z0 ?_
          ·kernel_rfl
          refine AAny.go (by kernel_rfl) [7,8] (fuel':=5) rfl [] #[y1,y1,y1,y1,y1,y1,y1,y1,y1,y1,y1,n1,y1,y1,y1,y1,y1,n1,n1,n1,n1] [0,2,3,4,6,7,12,13,14,38,39,40,69,70,71,77] 0 ⟨[(0,q0 v1),(2,q2 v27),(3,q2 v28),(4,tI v29),(6,tI v34),(7,tI v35),(12,q0 v1),(13,tI (v1.length:Int)),(14,tI v29),(38,q1 ((gD v1 v29).f3)),(39,tI (((gD v1 v29).f3).length:Int)),(40,tI v36),(69,tI (w64 (v34 + (w64 (v44 * (gD v27 v43)))))),(70,tI v35),(71,.agg (c86 (gD ((gD v1 v29).f3) v36))),(77,tI (w64 ((1:Int) + (gD v28 v43))))],[]⟩ ?_ z0 trivial ?_
          ·kernel_rfl
          exact n6_
         exact AEach.nil
        refine AAny.share 8 #[y1,y1,y1,y1,y1,y1,n1,n1,n1,y1,y1,n1,y1,y1,y1,y1,y1,n1,n1,n1,n1] ⟨[(0,q0 v1),(2,q2 v27),(3,q2 v28),(4,tI v29),(6,tI v34),(7,tI v35),(12,q0 v1),(13,tI (v1.length:Int)),(14,tI v29),(38,q1 ((gD v1 v29).f3)),(39,tI (((gD v1 v29).f3).length:Int)),(40,tI v36),(61,tI v34),(63,tI v44),(66,.pe (.slot 2 0,[]) v43.toNat 0 1),(70,tI v35),(71,.agg (c86 (gD ((gD v1 v29).f3) v36))),(77,tI (w64 ((1:Int) + (gD v28 v43))))],[]⟩ ?_ fun n4_=>?_
        ·refine AAny.each [6,11] (by kernel_rfl) rfl ?_
         refine AEach.step (i:=6) [] #[y1,y1,y1,y1,y1,y1,y1,n1,n1,y1,y1,n1,y1,y1,y1,y1,y1,n1,n1,n1,n1] rfl [0,2,3,4,6,7,12,13,14,38,39,40,61,63,67,70,71,77] 0 ⟨[(0,q0 v1),(2,q2 v27),(3,q2 v28),(4,tI v29),(6,tI v34),(7,tI v35),(12,q0 v1),(13,tI (v1.length:Int)),(14,tI v29),(38,q1 ((gD v1 v29).f3)),(39,tI (((gD v1 v29).f3).length:Int)),(40,tI v36),(61,tI v34),(63,tI v44),(67,tI (gD v27 v43)),(70,tI v35),(71,.agg (c86 (gD ((gD v1 v29).f3) v36))),(77,tI (w64 ((1:Int) + (gD v28 v43))))],[]⟩ ?_ z0 trivial ?_ ?_
         ·kernel_rfl
         ·refine AAny.go (by kernel_rfl) [7,8] (fuel':=5) rfl [] #[y1,y1,y1,y1,y1,y1,y1,y1,y1,y1,y1,n1,y1,y1,y1,y1,y1,n1,n1,n1,n1] [0,2,3,4,6,7,12,13,14,38,39,40,69,70,71,77] 0 ⟨[(0,q0 v1),(2,q2 v27),(3,q2 v28),(4,tI v29),(6,tI v34),(7,tI v35),(12,q0 v1),(13,tI (v1.length:Int)),(14,tI v29),(38,q1 ((gD v1 v29).f3)),(39,tI (((gD v1 v29).f3).length:Int)),(40,tI v36),(69,tI (w64 (v34 + (w64 (v44 * (gD v27 v43)))))),(70,tI v35),(71,.agg (c86 (gD ((gD v1 v29).f3) v36))),(77,tI (w64 ((1:Int) + (gD v28 v43))))],[]⟩ ?_ z0 trivial ?_
          ·kernel_rfl
          exact n6_
         refine AEach.one (i:=11) (AOne.callP (F:=(FF 92 0)) _ rfl rfl rfl _ rfl rfl _ _ rfl Tryz.call57 [.agg (c86 (gD ((gD v1 v29).f3) v36))] rfl rfl (f57_ok (gD ((gD v1 v29).f3) v36) hv45) rfl) ?_ ?_
         ·refine AAny.keepTo [0,2,3,4,6,7,12,13,14,38,39,40,61,63,66,70,72,77] 0 ⟨[(0,q0 v1),(2,q2 v27),(3,q2 v28),(4,tI v29),(6,tI v34),(7,tI v35),(12,q0 v1),(13,tI (v1.length:Int)),(14,tI v29),(38,q1 ((gD v1 v29).f3)),(39,tI (((gD v1 v29).f3).length:Int)),(40,tI v36),(61,tI v34),(63,tI v44),(66,.pe (.slot 2 0,[]) v43.toNat 0 1),(70,tI v35),(72,tI v45),(77,tI (w64 ((1:Int) + (gD v28 v43))))],[]⟩ #[y1,y1,y1,y1,y1,y1,n1,n1,n1,y1,y1,y1,y1,y1,y1,y1,y1,n1,n1,n1,n1] ?_ rfl z0 ?_
          ·kernel_rfl
          refine AAny.go (by kernel_rfl) [17,18] (fuel':=5) rfl [] #[y1,y1,y1,y1,y1,y1,n1,n1,n1,y1,y1,y1,y1,y1,y1,y1,y1,y1,y1,n1,n1] [0,2,3,4,6,7,12,13,14,38,39,40,61,63,66,79] 0 ⟨[(0,q0 v1),(2,q2 v27),(3,q2 v28),(4,tI v29),(6,tI v34),(7,tI v35),(12,q0 v1),(13,tI (v1.length:Int)),(14,tI v29),(38,q1 ((gD v1 v29).f3)),(39,tI (((gD v1 v29).f3).length:Int)),(40,tI v36),(61,tI v34),(63,tI v44),(66,.pe (.slot 2 0,[]) v43.toNat 0 1),(79,tI (w64 (v35 + (w64 (v45 * (w64 ((1:Int) + (gD v28 v43))))))))],[]⟩ ?_ z0 trivial ?_
          ·kernel_rfl
          exact n8_
         exact AEach.nil
        refine AAny.share 9 #[y1,y1,n1,y1,y1,y1,n1,n1,n1,y1,y1,n1,y1,y1,y1,y1,y1,n1,n1,n1,n1] ⟨[(0,q0 v1),(2,q2 v27),(3,q2 v28),(4,tI v29),(6,tI v34),(7,tI v35),(12,q0 v1),(13,tI (v1.length:Int)),(14,tI v29),(38,q1 ((gD v1 v29).f3)),(39,tI (((gD v1 v29).f3).length:Int)),(40,tI v36),(61,tI v34),(62,.agg (c86 (gD ((gD v1 v29).f3) v36))),(66,.pe (.slot 2 0,[]) v43.toNat 0 1),(70,tI v35),(71,.agg (c86 (gD ((gD v1 v29).f3) v36))),(77,tI (w64 ((1:Int) + (gD v28 v43))))],[]⟩ ?_ fun n3_=>?_
        ·refine AAny.each [2,6] (by kernel_rfl) rfl ?_
         refine AEach.one (i:=2) (AOne.callP (F:=(FF 92 0)) _ rfl rfl rfl _ rfl rfl _ _ rfl Tryz.call57 [.agg (c86 (gD ((gD v1 v29).f3) v36))] rfl rfl (f57_ok (gD ((gD v1 v29).f3) v36) hv44) rfl) ?_ ?_
         ·refine AAny.keepTo [0,2,3,4,6,7,12,13,14,38,39,40,61,63,66,70,71,77] 0 ⟨[(0,q0 v1),(2,q2 v27),(3,q2 v28),(4,tI v29),(6,tI v34),(7,tI v35),(12,q0 v1),(13,tI (v1.length:Int)),(14,tI v29),(38,q1 ((gD v1 v29).f3)),(39,tI (((gD v1 v29).f3).length:Int)),(40,tI v36),(61,tI v34),(63,tI v44),(66,.pe (.slot 2 0,[]) v43.toNat 0 1),(70,tI v35),(71,.agg (c86 (gD ((gD v1 v29).f3) v36))),(77,tI (w64 ((1:Int) + (gD v28 v43))))],[]⟩ #[y1,y1,y1,y1,y1,y1,n1,n1,n1,y1,y1,n1,y1,y1,y1,y1,y1,n1,n1,n1,n1] ?_ rfl z0 ?_
          ·kernel_rfl
          exact n4_
         refine AEach.step (i:=6) [] #[y1,y1,n1,y1,y1,y1,y1,n1,n1,y1,y1,n1,y1,y1,y1,y1,y1,n1,n1,n1,n1] rfl [0,2,3,4,6,7,12,13,14,38,39,40,61,62,67,70,71,77] 0 ⟨[(0,q0 v1),(2,q2 v27),(3,q2 v28),(4,tI v29),(6,tI v34),(7,tI v35),(12,q0 v1),(13,tI (v1.length:Int)),(14,tI v29),(38,q1 ((gD v1 v29).f3)),(39,tI (((gD v1 v29).f3).length:Int)),(40,tI v36),(61,tI v34),(62,.agg (c86 (gD ((gD v1 v29).f3) v36))),(67,tI (gD v27 v43)),(70,tI v35),(71,.agg (c86 (gD ((gD v1 v29).f3) v36))),(77,tI (w64 ((1:Int) + (gD v28 v43))))],[]⟩ ?_ z0 trivial ?_ ?_
         ·kernel_rfl
         ·exact n5_
         exact AEach.nil
        refine AAny.share 9 #[y1,y1,y1,y1,y1,y1,n1,n1,n1,y1,y1,y1,y1,y1,y1,n1,n1,n1,n1,n1,n1] ⟨[(0,q0 v1),(2,q2 v27),(3,q2 v28),(4,tI v29),(6,tI v34),(7,tI v35),(12,q0 v1),(13,tI (v1.length:Int)),(14,tI v29),(38,q1 ((gD v1 v29).f3)),(39,tI (((gD v1 v29).f3).length:Int)),(40,tI v36),(61,tI v34),(63,tI v44),(66,.pe (.slot 2 0,[]) v43.toNat 0 1),(70,tI v35),(72,tI v45),(75,.pe (.slot 3 0,[]) v43.toNat 0 1)],[]⟩ ?_ fun n11_=>?_
        ·refine AAny.each [6,15] (by kernel_rfl) rfl ?_
         refine AEach.step (i:=6) [] #[y1,y1,y1,y1,y1,y1,y1,n1,n1,y1,y1,y1,y1,y1,y1,n1,n1,n1,n1,n1,n1] rfl [0,2,3,4,6,7,12,13,14,38,39,40,61,63,67,70,72,75] 0 ⟨[(0,q0 v1),(2,q2 v27),(3,q2 v28),(4,tI v29),(6,tI v34),(7,tI v35),(12,q0 v1),(13,tI (v1.length:Int)),(14,tI v29),(38,q1 ((gD v1 v29).f3)),(39,tI (((gD v1 v29).f3).length:Int)),(40,tI v36),(61,tI v34),(63,tI v44),(67,tI (gD v27 v43)),(70,tI v35),(72,tI v45),(75,.pe (.slot 3 0,[]) v43.toNat 0 1)],[]⟩ ?_ z0 trivial ?_ ?_
         ·kernel_rfl
         ·refine AAny.go (by kernel_rfl) [7,8,19] (fuel':=5) rfl [] #[y1,y1,y1,y1,y1,y1,y1,y1,y1,y1,y1,y1,y1,y1,y1,n1,n1,n1,n1,y1,n1] [0,2,3,4,6,7,12,13,14,38,39,40,70,72,75] 0 ⟨[(0,q0 v1),(2,q2 v27),(3,q2 v28),(4,tI v29),(6,tI (w64 (v34 + (w64 (v44 * (gD v27 v43)))))),(7,tI v35),(12,q0 v1),(13,tI (v1.length:Int)),(14,tI v29),(38,q1 ((gD v1 v29).f3)),(39,tI (((gD v1 v29).f3).length:Int)),(40,tI v36),(70,tI v35),(72,tI v45),(75,.pe (.slot 3 0,[]) v43.toNat 0 1)],[]⟩ ?_ z0 trivial ?_
          ·kernel_rfl
          exact n10_
         refine AEach.step (i:=15) [] #[y1,y1,y1,y1,y1,y1,n1,n1,n1,y1,y1,y1,y1,y1,y1,y1,n1,n1,n1,n1,n1] rfl [0,2,3,4,6,7,12,13,14,38,39,40,61,63,66,70,72,76] 0 ⟨[(0,q0 v1),(2,q2 v27),(3,q2 v28),(4,tI v29),(6,tI v34),(7,tI v35),(12,q0 v1),(13,tI (v1.length:Int)),(14,tI v29),(38,q1 ((gD v1 v29).f3)),(39,tI (((gD v1 v29).f3).length:Int)),(40,tI v36),(61,tI v34),(63,tI v44),(66,.pe (.slot 2 0,[]) v43.toNat 0 1),(70,tI v35),(72,tI v45),(76,tI (gD v28 v43))],[]⟩ ?_ z0 trivial ?_ ?_
         ·kernel_rfl
         ·refine AAny.go (by kernel_rfl) [16,17,18] (fuel':=5) rfl [] #[y1,y1,y1,y1,y1,y1,n1,n1,n1,y1,y1,y1,y1,y1,y1,y1,y1,y1,y1,n1,n1] [0,2,3,4,6,7,12,13,14,38,39,40,61,63,66,79] 0 ⟨[(0,q0 v1),(2,q2 v27),(3,q2 v28),(4,tI v29),(6,tI v34),(7,tI v35),(12,q0 v1),(13,tI (v1.length:Int)),(14,tI v29),(38,q1 ((gD v1 v29).f3)),(39,tI (((gD v1 v29).f3).length:Int)),(40,tI v36),(61,tI v34),(63,tI v44),(66,.pe (.slot 2 0,[]) v43.toNat 0 1),(79,tI (w64 (v35 + (w64 (v45 * (w64 ((1:Int) + (gD v28 v43))))))))],[]⟩ ?_ z0 trivial ?_
          ·kernel_rfl
          exact n8_
         exact AEach.nil
        refine AAny.share 10 #[y1,y1,n1,y1,y1,y1,y1,n1,n1,y1,y1,n1,y1,y1,y1,n1,n1,n1,n1,n1,n1] ⟨[(0,q0 v1),(2,q2 v27),(3,q2 v28),(4,tI v29),(6,tI v34),(7,tI v35),(12,q0 v1),(13,tI (v1.length:Int)),(14,tI v29),(38,q1 ((gD v1 v29).f3)),(39,tI (((gD v1 v29).f3).length:Int)),(40,tI v36),(61,tI v34),(62,.agg (c86 (gD ((gD v1 v29).f3) v36))),(67,tI (gD v27 v43)),(70,tI v35),(71,.agg (c86 (gD ((gD v1 v29).f3) v36))),(75,.pe (.slot 3 0,[]) v43.toNat 0 1)],[]⟩ ?_ fun n2_=>?_
        ·refine AAny.each [2,15] (by kernel_rfl) rfl ?_
         refine AEach.one (i:=2) (AOne.callP (F:=(FF 92 0)) _ rfl rfl rfl _ rfl rfl _ _ rfl Tryz.call57 [.agg (c86 (gD ((gD v1 v29).f3) v36))] rfl rfl (f57_ok (gD ((gD v1 v29).f3) v36) hv44) rfl) ?_ ?_
         ·refine AAny.keepTo [0,2,3,4,6,7,12,13,14,38,39,40,61,63,67,70,71,75] 0 ⟨[(0,q0 v1),(2,q2 v27),(3,q2 v28),(4,tI v29),(6,tI v34),(7,tI v35),(12,q0 v1),(13,tI (v1.length:Int)),(14,tI v29),(38,q1 ((gD v1 v29).f3)),(39,tI (((gD v1 v29).f3).length:Int)),(40,tI v36),(61,tI v34),(63,tI v44),(67,tI (gD v27 v43)),(70,tI v35),(71,.agg (c86 (gD ((gD v1 v29).f3) v36))),(75,.pe (.slot 3 0,[]) v43.toNat 0 1)],[]⟩ #[y1,y1,y1,y1,y1,y1,y1,n1,n1,y1,y1,n1,y1,y1,y1,n1,n1,n1,n1,n1,n1] ?_ rfl z0 ?_
          ·kernel_rfl
          refine AAny.go (by kernel_rfl) [7,8] (fuel':=7) rfl [] #[y1,y1,y1,y1,y1,y1,y1,y1,y1,y1,y1,n1,y1,y1,y1,n1,n1,n1,n1,n1,n1] [0,2,3,4,6,7,12,13,14,38,39,40,69,70,71,75] 0 ⟨[(0,q0 v1),(2,q2 v27),(3,q2 v28),(4,tI v29),(6,tI v34),(7,tI v35),(12,q0 v1),(13,tI (v1.length:Int)),(14,tI v29),(38,q1 ((gD v1 v29).f3)),(39,tI (((gD v1 v29).f3).length:Int)),(40,tI v36),(69,tI (w64 (v34 + (w64 (v44 * (gD v27 v43)))))),(70,tI v35),(71,.agg (c86 (gD ((gD v1 v29).f3) v36))),(75,.pe (.slot 3 0,[]) v43.toNat 0 1)],[]⟩ ?_ z0 trivial ?_
          ·kernel_rfl
          exact n9_
         refine AEach.step (i:=15) [] #[y1,y1,n1,y1,y1,y1,y1,n1,n1,y1,y1,n1,y1,y1,y1,y1,n1,n1,n1,n1,n1] rfl [0,2,3,4,6,7,12,13,14,38,39,40,61,62,67,70,71,76] 0 ⟨[(0,q0 v1),(2,q2 v27),(3,q2 v28),(4,tI v29),(6,tI v34),(7,tI v35),(12,q0 v1),(13,tI (v1.length:Int)),(14,tI v29),(38,q1 ((gD v1 v29).f3)),(39,tI (((gD v1 v29).f3).length:Int)),(40,tI v36),(61,tI v34),(62,.agg (c86 (gD ((gD v1 v29).f3) v36))),(67,tI (gD v27 v43)),(70,tI v35),(71,.agg (c86 (gD ((gD v1 v29).f3) v36))),(76,tI (gD v28 v43))],[]⟩ ?_ z0 trivial ?_ ?_
         ·kernel_rfl
         ·refine AAny.go (by kernel_rfl) [16] (fuel':=8) rfl [] #[y1,y1,n1,y1,y1,y1,y1,n1,n1,y1,y1,n1,y1,y1,y1,y1,y1,n1,n1,n1,n1] [0,2,3,4,6,7,12,13,14,38,39,40,61,62,67,70,71,77] 0 ⟨[(0,q0 v1),(2,q2 v27),(3,q2 v28),(4,tI v29),(6,tI v34),(7,tI v35),(12,q0 v1),(13,tI (v1.length:Int)),(14,tI v29),(38,q1 ((gD v1 v29).f3)),(39,tI (((gD v1 v29).f3).length:Int)),(40,tI v36),(61,tI v34),(62,.agg (c86 (gD ((gD v1 v29).f3) v36))),(67,tI (gD v27 v43)),(70,tI v35),(71,.agg (c86 (gD ((gD v1 v29).f3) v36))),(77,tI (w64 ((1:Int) + (gD v28 v43))))],[]⟩ ?_ z0 trivial ?_
          ·kernel_rfl
          exact n5_
         exact AEach.nil
        refine AAny.share 10 #[y1,y1,y1,y1,y1,y1,n1,n1,n1,y1,y1,n1,y1,y1,y1,n1,n1,n1,n1,n1,n1] ⟨[(0,q0 v1),(2,q2 v27),(3,q2 v28),(4,tI v29),(6,tI v34),(7,tI v35),(12,q0 v1),(13,tI (v1.length:Int)),(14,tI v29),(38,q1 ((gD v1 v29).f3)),(39,tI (((gD v1 v29).f3).length:Int)),(40,tI v36),(61,tI v34),(63,tI v44),(66,.pe (.slot 2 0,[]) v43.toNat 0 1),(70,tI v35),(71,.agg (c86 (gD ((gD v1 v29).f3) v36))),(75,.pe (.slot 3 0,[]) v43.toNat 0 1)],[]⟩ ?_ fun n1_=>?_
        ·refine AAny.each [6,11,15] (by kernel_rfl) rfl ?_
         refine AEach.step (i:=6) [] #[y1,y1,y1,y1,y1,y1,y1,n1,n1,y1,y1,n1,y1,y1,y1,n1,n1,n1,n1,n1,n1] rfl [0,2,3,4,6,7,12,13,14,38,39,40,61,63,67,70,71,75] 0 ⟨[(0,q0 v1),(2,q2 v27),(3,q2 v28),(4,tI v29),(6,tI v34),(7,tI v35),(12,q0 v1),(13,tI (v1.length:Int)),(14,tI v29),(38,q1 ((gD v1 v29).f3)),(39,tI (((gD v1 v29).f3).length:Int)),(40,tI v36),(61,tI v34),(63,tI v44),(67,tI (gD v27 v43)),(70,tI v35),(71,.agg (c86 (gD ((gD v1 v29).f3) v36))),(75,.pe (.slot 3 0,[]) v43.toNat 0 1)],[]⟩ ?_ z0 trivial ?_ ?_
         ·kernel_rfl
         ·refine AAny.go (by kernel_rfl) [7,8] (fuel':=7) rfl [] #[y1,y1,y1,y1,y1,y1,y1,y1,y1,y1,y1,n1,y1,y1,y1,n1,n1,n1,n1,n1,n1] [0,2,3,4,6,7,12,13,14,38,39,40,69,70,71,75] 0 ⟨[(0,q0 v1),(2,q2 v27),(3,q2 v28),(4,tI v29),(6,tI v34),(7,tI v35),(12,q0 v1),(13,tI (v1.length:Int)),(14,tI v29),(38,q1 ((gD v1 v29).f3)),(39,tI (((gD v1 v29).f3).length:Int)),(40,tI v36),(69,tI (w64 (v34 + (w64 (v44 * (gD v27 v43)))))),(70,tI v35),(71,.agg (c86 (gD ((gD v1 v29).f3) v36))),(75,.pe (.slot 3 0,[]) v43.toNat 0 1)],[]⟩ ?_ z0 trivial ?_
          ·kernel_rfl
          exact n9_
         refine AEach.one (i:=11) (AOne.callP (F:=(FF 92 0)) _ rfl rfl rfl _ rfl rfl _ _ rfl Tryz.call57 [.agg (c86 (gD ((gD v1 v29).f3) v36))] rfl rfl (f57_ok (gD ((gD v1 v29).f3) v36) hv45) rfl) ?_ ?_
         ·refine AAny.keepTo [0,2,3,4,6,7,12,13,14,38,39,40,61,63,66,70,72,75] 0 ⟨[(0,q0 v1),(2,q2 v27),(3,q2 v28),(4,tI v29),(6,tI v34),(7,tI v35),(12,q0 v1),(13,tI (v1.length:Int)),(14,tI v29),(38,q1 ((gD v1 v29).f3)),(39,tI (((gD v1 v29).f3).length:Int)),(40,tI v36),(61,tI v34),(63,tI v44),(66,.pe (.slot 2 0,[]) v43.toNat 0 1),(70,tI v35),(72,tI v45),(75,.pe (.slot 3 0,[]) v43.toNat 0 1)],[]⟩ #[y1,y1,y1,y1,y1,y1,n1,n1,n1,y1,y1,y1,y1,y1,y1,n1,n1,n1,n1,n1,n1] ?_ rfl z0 ?_
          ·kernel_rfl
          exact n11_
         refine AEach.step (i:=15) [] #[y1,y1,y1,y1,y1,y1,n1,n1,n1,y1,y1,n1,y1,y1,y1,y1,n1,n1,n1,n1,n1] rfl [0,2,3,4,6,7,12,13,14,38,39,40,61,63,66,70,71,76] 0 ⟨[(0,q0 v1),(2,q2 v27),(3,q2 v28),(4,tI v29),(6,tI v34),(7,tI v35),(12,q0 v1),(13,tI (v1.length:Int)),(14,tI v29),(38,q1 ((gD v1 v29).f3)),(39,tI (((gD v1 v29).f3).length:Int)),(40,tI v36),(61,tI v34),(63,tI v44),(66,.pe (.slot 2 0,[]) v43.toNat 0 1),(70,tI v35),(71,.agg (c86 (gD ((gD v1 v29).f3) v36))),(76,tI (gD v28 v43))],[]⟩ ?_ z0 trivial ?_ ?_
         ·kernel_rfl
         ·refine AAny.go (by kernel_rfl) [16] (fuel':=8) rfl [] #[y1,y1,y1,y1,y1,y1,n1,n1,n1,y1,y1,n1,y1,y1,y1,y1,y1,n1,n1,n1,n1] [0,2,3,4,6,7,12,13,14,38,39,40,61,63,66,70,71,77] 0 ⟨[(0,q0 v1),(2,q2 v27),(3,q2 v28),(4,tI v29),(6,tI v34),(7,tI v35),(12,q0 v1),(13,tI (v1.length:Int)),(14,tI v29),(38,q1 ((gD v1 v29).f3)),(39,tI (((gD v1 v29).f3).length:Int)),(40,tI v36),(61,tI v34),(63,tI v44),(66,.pe (.slot 2 0,[]) v43.toNat 0 1),(70,tI v35),(71,.agg (c86 (gD ((gD v1 v29).f3) v36))),(77,tI (w64 ((1:Int) + (gD v28 v43))))],[]⟩ ?_ z0 trivial ?_
          ·kernel_rfl
          exact n4_
         exact AEach.nil
        refine AAny.each [2,6,15] (by kernel_rfl) rfl ?_
        refine AEach.one (i:=2) (AOne.callP (F:=(FF 92 0)) _ rfl rfl rfl _ rfl rfl _ _ rfl Tryz.call57 [.agg (c86 (gD ((gD v1 v29).f3) v36))] rfl rfl (f57_ok (gD ((gD v1 v29).f3) v36) hv44) rfl) ?_ ?_
        ·refine AAny.keepTo [0,2,3,4,6,7,12,13,14,38,39,40,61,63,66,70,71,75] 0 ⟨[(0,q0 v1),(2,q2 v27),(3,q2 v28),(4,tI v29),(6,tI v34),(7,tI v35),(12,q0 v1),(13,tI (v1.length:Int)),(14,tI v29),(38,q1 ((gD v1 v29).f3)),(39,tI (((gD v1 v29).f3).length:Int)),(40,tI v36),(61,tI v34),(63,tI v44),(66,.pe (.slot 2 0,[]) v43.toNat 0 1),(70,tI v35),(71,.agg (c86 (gD ((gD v1 v29).f3) v36))),(75,.pe (.slot 3 0,[]) v43.toNat 0 1)],[]⟩ #[y1,y1,y1,y1,y1,y1,n1,n1,n1,y1,y1,n1,y1,y1,y1,n1,n1,n1,n1,n1,n1] ?_ rfl z0 ?_
         ·kernel_rfl
         exact n1_
        refine AEach.step (i:=6) [] #[y1,y1,n1,y1,y1,y1,y1,n1,n1,y1,y1,n1,y1,y1,y1,n1,n1,n1,n1,n1,n1] rfl [0,2,3,4,6,7,12,13,14,38,39,40,61,62,67,70,71,75] 0 ⟨[(0,q0 v1),(2,q2 v27),(3,q2 v28),(4,tI v29),(6,tI v34),(7,tI v35),(12,q0 v1),(13,tI (v1.length:Int)),(14,tI v29),(38,q1 ((gD v1 v29).f3)),(39,tI (((gD v1 v29).f3).length:Int)),(40,tI v36),(61,tI v34),(62,.agg (c86 (gD ((gD v1 v29).f3) v36))),(67,tI (gD v27 v43)),(70,tI v35),(71,.agg (c86 (gD ((gD v1 v29).f3) v36))),(75,.pe (.slot 3 0,[]) v43.toNat 0 1)],[]⟩ ?_ z0 trivial ?_ ?_
        ·kernel_rfl
        ·exact n2_
        refine AEach.step (i:=15) [] #[y1,y1,n1,y1,y1,y1,n1,n1,n1,y1,y1,n1,y1,y1,y1,y1,n1,n1,n1,n1,n1] rfl [0,2,3,4,6,7,12,13,14,38,39,40,61,62,66,70,71,76] 0 ⟨[(0,q0 v1),(2,q2 v27),(3,q2 v28),(4,tI v29),(6,tI v34),(7,tI v35),(12,q0 v1),(13,tI (v1.length:Int)),(14,tI v29),(38,q1 ((gD v1 v29).f3)),(39,tI (((gD v1 v29).f3).length:Int)),(40,tI v36),(61,tI v34),(62,.agg (c86 (gD ((gD v1 v29).f3) v36))),(66,.pe (.slot 2 0,[]) v43.toNat 0 1),(70,tI v35),(71,.agg (c86 (gD ((gD v1 v29).f3) v36))),(76,tI (gD v28 v43))],[]⟩ ?_ z0 trivial ?_ ?_
        ·kernel_rfl
        ·refine AAny.go (by kernel_rfl) [16] (fuel':=9) rfl [] #[y1,y1,n1,y1,y1,y1,n1,n1,n1,y1,y1,n1,y1,y1,y1,y1,y1,n1,n1,n1,n1] [0,2,3,4,6,7,12,13,14,38,39,40,61,62,66,70,71,77] 0 ⟨[(0,q0 v1),(2,q2 v27),(3,q2 v28),(4,tI v29),(6,tI v34),(7,tI v35),(12,q0 v1),(13,tI (v1.length:Int)),(14,tI v29),(38,q1 ((gD v1 v29).f3)),(39,tI (((gD v1 v29).f3).length:Int)),(40,tI v36),(61,tI v34),(62,.agg (c86 (gD ((gD v1 v29).f3) v36))),(66,.pe (.slot 2 0,[]) v43.toNat 0 1),(70,tI v35),(71,.agg (c86 (gD ((gD v1 v29).f3) v36))),(77,tI (w64 ((1:Int) + (gD v28 v43))))],[]⟩ ?_ z0 trivial ?_
         ·kernel_rfl
         exact n3_
        exact AEach.nil
      ·rintro ⟨v39,v40⟩ h
       refine AWp.start [0,1] [] [] [0,2,3,4,6,7,12,13,14,38,39,40] 0 ⟨[(0,q0 v1),(2,q2 v27),(3,q2 v28),(4,tI v29),(6,tI v39),(7,tI v40),(12,q0 v1),(13,tI (v1.length:Int)),(14,tI v29),(38,q1 ((gD v1 v29).f3)),(39,tI (((gD v1 v29).f3).length:Int)),(40,tI (w64 (v36 + (1:Int))))],[]⟩ rfl ?_ z0 trivial ?_
       ·kernel_rfl
       refine AOps.nil ?_
       cases h
       exact Or.inl ⟨_,rfl,rfl,rfl⟩
     ·replace h:=of_false h hb
      refine AWp.keepTo [0,2,3,6,7,12,13,14] 0 ⟨[(0,q0 v1),(2,q2 v27),(3,q2 v28),(6,tI v34),(7,tI v35),(12,q0 v1),(13,tI (v1.length:Int)),(14,tI v29)],[]⟩ ?_ z0 ?_
      ·kernel_rfl
      refine AWp.exit ?_
      cases h
      exact Or.inr ⟨_,rfl,by simp,rfl,rfl⟩
    ·intro e σ hp
     rcases y with v46 | ⟨v37,v38⟩
     ·obtain ⟨rfl,rfl⟩:=hp
      cases h
      exact Or.inr ⟨_,rfl,by simp,rfl,rfl⟩
     ·obtain ⟨rfl,rfl⟩:=hp
      refine AWp.start [0,1,2] [3,4,5,6,7,8,9] [] [0,2,3,7,12,13,14,81,83] 0 ⟨[(0,q0 v1),(2,q2 v27),(3,q2 v28),(7,tI v38),(12,q0 v1),(13,tI (v1.length:Int)),(14,tI v29),(81,.al (.slot 2 0,[])),(83,.tv (.own 1 3 1 (newRowF [.int .i64 v37] 1)))],[]⟩ rfl ?_ z0 trivial ?_
      ·kernel_rfl
      refine AOps.extL 83 (cInt .i64) [v37] rfl rfl (row_at (cInt .i64) 1 (fun _=>rfl) [v37] _ rfl) ?_
      obtain ⟨hg,h⟩:=of_guard h
      refine AOps.go [3] [4,5,6,7,8,9] [(v27.length + [v37].length) * 8 ≤ 140737488355328,PlainTo v27.length (fun i=>(cInt .i64) (v27.getD i default)),PlainTo ([v37].length) (fun i=>(cInt .i64) ([v37].getD i default))] [0,3,7,12,13,14,84] 0 ⟨[(0,q0 v1),(3,q2 v28),(7,tI v38),(12,q0 v1),(13,tI (v1.length:Int)),(14,tI v29),(84,.tv (.own 1 3 (v27.length + [v37].length) (appF v27.length (fun i=>(cInt .i64) (v27.getD i default)) (fun i=>(cInt .i64) ([v37].getD i default)))))],[]⟩ ?_ z0 ⟨hg,(fun _ _=>rfl),(fun _ _=>rfl)⟩ ?_
      ·kernel_rfl
      refine AOps.extL 84 (cInt .i64) (v27 ++ [v37]) rfl List.length_append.symm (app_at (cInt .i64) v27 [v37]) ?_
      refine AOps.go [4,5,6] [7,8,9] [] [0,3,12,13,14,84,85,87] 0 ⟨[(0,q0 v1),(3,q2 v28),(12,q0 v1),(13,tI (v1.length:Int)),(14,tI v29),(84,q2 (v27 ++ [v37])),(85,.al (.slot 3 0,[])),(87,.tv (.own 1 3 1 (newRowF [.int .i64 v38] 1)))],[]⟩ ?_ z0 trivial ?_
      ·kernel_rfl
      refine AOps.extL 87 (cInt .i64) [v38] rfl rfl (row_at (cInt .i64) 1 (fun _=>rfl) [v38] _ rfl) ?_
      obtain ⟨hg,h⟩:=of_guard h
      refine AOps.go [7] [8,9] [(v28.length + [v38].length) * 8 ≤ 140737488355328,PlainTo v28.length (fun i=>(cInt .i64) (v28.getD i default)),PlainTo ([v38].length) (fun i=>(cInt .i64) ([v38].getD i default))] [0,12,13,14,84,88] 0 ⟨[(0,q0 v1),(12,q0 v1),(13,tI (v1.length:Int)),(14,tI v29),(84,q2 (v27 ++ [v37])),(88,.tv (.own 1 3 (v28.length + [v38].length) (appF v28.length (fun i=>(cInt .i64) (v28.getD i default)) (fun i=>(cInt .i64) ([v38].getD i default)))))],[]⟩ ?_ z0 ⟨hg,(fun _ _=>rfl),(fun _ _=>rfl)⟩ ?_
      ·kernel_rfl
      refine AOps.extL 88 (cInt .i64) (v28 ++ [v38]) rfl List.length_append.symm (app_at (cInt .i64) v28 [v38]) ?_
      refine AOps.go [8,9] [] [] [0,2,3,12,13,14] 0 ⟨[(0,q0 v1),(2,q2 (v27 ++ [v37])),(3,q2 (v28 ++ [v38])),(12,q0 v1),(13,tI (v1.length:Int)),(14,tI v29)],[]⟩ ?_ z0 trivial ?_
      ·kernel_rfl
      refine AOps.nil ?_
      refine AWp.start [0,1] [] [] [0,2,3,12,13,14] 0 ⟨[(0,q0 v1),(2,q2 (v27 ++ [v37])),(3,q2 (v28 ++ [v38])),(12,q0 v1),(13,tI (v1.length:Int)),(14,tI (w64 (v29 + (1:Int))))],[]⟩ rfl ?_ z0 trivial ?_
      ·kernel_rfl
      refine AOps.nil ?_
      cases h
      exact Or.inl ⟨_,rfl,rfl,rfl⟩
  ·replace h:=of_false h hb
   refine AWp.keepTo [2,3] 0 ⟨[(2,q2 v27),(3,q2 v28)],[]⟩ ?_ z0 ?_
   ·kernel_rfl
   refine AWp.exit ?_
   cases h
   exact Or.inr ⟨_,rfl,by simp,rfl,rfl⟩
 ·intro e σ hp
  rcases y with v48 | ⟨v30,v31⟩
  ·obtain ⟨rfl,rfl⟩:=hp
   cases h
   exact ⟨.inr rfl,rfl⟩
  ·obtain ⟨rfl,rfl⟩:=hp
   refine AWp.seq ?_
   refine AWp.freezeL 2 (cInt .i64) v30 rfl (fun _=>rfl) ?_
   refine AWp.freezeL 3 (cInt .i64) v31 rfl (fun _=>rfl) ?_
   refine AWp.start [0,1,2,3] [] [] [2,3] 0 ⟨[(2,q3 v30),(3,q3 v31)],[]⟩ rfl ?_ z0 trivial ?_
   ·kernel_rfl
   refine AOps.nil ?_
   refine AWp.ret ?_
   cases h
   exact ⟨.inr rfl,rfl⟩

noncomputable def f88 (v1:List T80) (v2:Int):Option Int :=
 if (0:Int) ≤ v2 ∧ v2 < (v1.length:Int) then (f112 (v1.getD v2.toNat default)).bind fun v3=>cond (!v3) (some (2:Int)) ((f113 v1 v2).bind fun v4=>cond v4 (some (8:Int)) ((f114 v1 v2).bind fun v5=>cond v5 (some (5:Int)) ((f115 v1 v2).bind fun v6=>cond v6 (some (70:Int)) ((f51 v1).bind fun v7=>(cond (decide (v2 ≥ (30:Int))) (some true) (if (0:Int) ≤ v2 ∧ v2 < (v1.length:Int) then some (decide ((((v1.getD v2.toNat default).f3).length:Int) > (20:Int))) else none)).bind fun v8=>(cond v8 (some true) (if (0:Int) ≤ v2 ∧ v2 < (v7.1.length:Int) then some (decide (v7.1.getD v2.toNat default > (100000:Int))) else none)).bind fun v9=>(cond v9 (some true) (if (0:Int) ≤ v2 ∧ v2 < (v7.2.length:Int) then some (decide (v7.2.getD v2.toNat default > (100000:Int))) else none)).bind fun v10=>cond v10 (some (4:Int)) (some (0:Int)))))) else none

theorem f88_ok (v1:List T80) (v2:Int) {r:Int} (h:f88 v1 v2 = some r):ACall Tryz.prog 88 [.tv (fzL 6 c80 v1),.tv (.int .i64 v2)] [] (.tv (.int .i64 r)) []:=by
 refine ACall.of1 (FF 56 0) Tryz.func88 rfl Tryz.ntmps88 Tryz.results88 (zz rfl) rfl rfl ?_
 refine AWp.seq ?_
 refine AWp.start [0] [] [] [0,1] 0 ⟨[(0,q0 v1),(1,tI v2)],[]⟩ rfl ?_ z0 trivial ?_
 ·kernel_rfl
 refine AOps.nil ?_
 refine AWp.seq ?_
 refine AWp.block ?_
 refine AWp.seq ?_
 obtain ⟨hg,h⟩:=of_guard h
 refine AWp.start [0,1,2,3] [4,5,6] [(0:Int) ≤ v2,v2 < (v1.length:Int)] [0,1,11] 0 ⟨[(0,q0 v1),(1,tI v2),(11,.agg (c80 (gD v1 v2)))],[]⟩ rfl ?_ z0 ⟨hg.1,hg.2⟩ ?_
 ·kernel_rfl
 obtain ⟨v3,hv3,h⟩:=of_bind h
 refine AOps.cons (AOne.callP (F:=(FF 56 0)) _ rfl rfl rfl _ rfl rfl _ _ rfl Tryz.call112 [.agg (c80 (gD v1 v2))] rfl rfl (f112_ok (gD v1 v2) hv3) rfl) ?_
 refine AOps.go [5,6] [] [] [0,1,7] 0 ⟨[(0,q0 v1),(1,tI v2),(7,tB (!v3))],[]⟩ ?_ z0 trivial ?_
 ·kernel_rfl
 refine AOps.nil ?_
 refine AWp.cond rfl (fun hb=>?_) fun hb=>?_
 ·replace h:=of_true h hb
  refine AWp.keepTo [] 0 ⟨[],[]⟩ ?_ z0 ?_
  ·kernel_rfl
  refine AWp.seq ?_
  refine AWp.start [0] [] [] [4] 0 ⟨[(4,tI (2:Int))],[]⟩ rfl ?_ z0 trivial ?_
  ·kernel_rfl
  refine AOps.nil ?_
  refine AWp.ret ?_
  cases h
  exact ⟨.inr rfl,rfl⟩
 ·replace h:=of_false h hb
  refine AWp.keepTo [0,1] 0 ⟨[(0,q0 v1),(1,tI v2)],[]⟩ ?_ z0 ?_
  ·kernel_rfl
  refine AWp.seq ?_
  refine AWp.start [0,1] [2,3] [] [0,1,15,16] 0 ⟨[(0,q0 v1),(1,tI v2),(15,q0 v1),(16,tI v2)],[]⟩ rfl ?_ z0 trivial ?_
  ·kernel_rfl
  obtain ⟨v4,hv4,h⟩:=of_bind h
  refine AOps.cons (AOne.callP (F:=(FF 56 0)) _ rfl rfl rfl _ rfl rfl _ _ rfl Tryz.call113 [q0 v1,tI v2] rfl rfl (f113_ok v1 v2 hv4) rfl) ?_
  refine AOps.go [3] [] [] [0,1,14] 0 ⟨[(0,q0 v1),(1,tI v2),(14,tB v4)],[]⟩ ?_ z0 trivial ?_
  ·kernel_rfl
  refine AOps.nil ?_
  refine AWp.cond rfl (fun hb=>?_) fun hb=>?_
  ·replace h:=of_true h hb
   refine AWp.keepTo [] 0 ⟨[],[]⟩ ?_ z0 ?_
   ·kernel_rfl
   refine AWp.seq ?_
   refine AWp.start [0] [] [] [4] 0 ⟨[(4,tI (8:Int))],[]⟩ rfl ?_ z0 trivial ?_
   ·kernel_rfl
   refine AOps.nil ?_
   refine AWp.ret ?_
   cases h
   exact ⟨.inr rfl,rfl⟩
  ·replace h:=of_false h hb
   refine AWp.keepTo [0,1] 0 ⟨[(0,q0 v1),(1,tI v2)],[]⟩ ?_ z0 ?_
   ·kernel_rfl
   refine AWp.seq ?_
   refine AWp.start [0,1] [2,3] [] [0,1,19,20] 0 ⟨[(0,q0 v1),(1,tI v2),(19,q0 v1),(20,tI v2)],[]⟩ rfl ?_ z0 trivial ?_
   ·kernel_rfl
   obtain ⟨v5,hv5,h⟩:=of_bind h
   refine AOps.cons (AOne.callP (F:=(FF 56 0)) _ rfl rfl rfl _ rfl rfl _ _ rfl Tryz.call114 [q0 v1,tI v2] rfl rfl (f114_ok v1 v2 hv5) rfl) ?_
   refine AOps.go [3] [] [] [0,1,18] 0 ⟨[(0,q0 v1),(1,tI v2),(18,tB v5)],[]⟩ ?_ z0 trivial ?_
   ·kernel_rfl
   refine AOps.nil ?_
   refine AWp.cond rfl (fun hb=>?_) fun hb=>?_
   ·replace h:=of_true h hb
    refine AWp.keepTo [] 0 ⟨[],[]⟩ ?_ z0 ?_
    ·kernel_rfl
    refine AWp.seq ?_
    refine AWp.start [0] [] [] [4] 0 ⟨[(4,tI (5:Int))],[]⟩ rfl ?_ z0 trivial ?_
    ·kernel_rfl
    refine AOps.nil ?_
    refine AWp.ret ?_
    cases h
    exact ⟨.inr rfl,rfl⟩
   ·replace h:=of_false h hb
    refine AWp.keepTo [0,1] 0 ⟨[(0,q0 v1),(1,tI v2)],[]⟩ ?_ z0 ?_
    ·kernel_rfl
    refine AWp.seq ?_
    refine AWp.start [0,1] [2,3] [] [0,1,23,24] 0 ⟨[(0,q0 v1),(1,tI v2),(23,q0 v1),(24,tI v2)],[]⟩ rfl ?_ z0 trivial ?_
    ·kernel_rfl
    obtain ⟨v6,hv6,h⟩:=of_bind h
    refine AOps.cons (AOne.callP (F:=(FF 56 0)) _ rfl rfl rfl _ rfl rfl _ _ rfl Tryz.call115 [q0 v1,tI v2] rfl rfl (f115_ok v1 v2 hv6) rfl) ?_
    refine AOps.go [3] [] [] [0,1,22] 0 ⟨[(0,q0 v1),(1,tI v2),(22,tB v6)],[]⟩ ?_ z0 trivial ?_
    ·kernel_rfl
    refine AOps.nil ?_
    refine AWp.cond rfl (fun hb=>?_) fun hb=>?_
    ·replace h:=of_true h hb
     refine AWp.keepTo [] 0 ⟨[],[]⟩ ?_ z0 ?_
     ·kernel_rfl
     refine AWp.seq ?_
     refine AWp.start [0] [] [] [4] 0 ⟨[(4,tI (70:Int))],[]⟩ rfl ?_ z0 trivial ?_
     ·kernel_rfl
     refine AOps.nil ?_
     refine AWp.ret ?_
     cases h
     exact ⟨.inr rfl,rfl⟩
    ·replace h:=of_false h hb
     refine AWp.keepTo [0,1] 0 ⟨[(0,q0 v1),(1,tI v2)],[]⟩ ?_ z0 ?_
     ·kernel_rfl
     refine AWp.skip ?_
     refine AWp.seq ?_
     refine AWp.start [0] [1,2,3,4,5,6] [] [0,1,27] 0 ⟨[(0,q0 v1),(1,tI v2),(27,q0 v1)],[]⟩ rfl ?_ z0 trivial ?_
     ·kernel_rfl
     obtain ⟨v7,hv7,h⟩:=of_bind h
     refine AOps.cons (AOne.callP (F:=(FF 56 0)) _ rfl rfl rfl _ rfl rfl _ _ rfl Tryz.call51 [q0 v1] rfl rfl (f51_ok v1 hv7) rfl) ?_
     refine AOps.go [2,3,4,5,6] [] [] [0,1,5,6] 0 ⟨[(0,q0 v1),(1,tI v2),(5,q3 v7.1),(6,q3 v7.2)],[]⟩ ?_ z0 trivial ?_
     ·kernel_rfl
     refine AOps.nil ?_
     refine AWp.seq ?_
     refine AWp.seq ?_
     refine AWp.start [0,1,2] [3,4,5,6,7,8,9,10,11,12,13,14,15,16,17,18,19,20,21,22,23,24] [] [0,1,5,6,33] 0 ⟨[(0,q0 v1),(1,tI v2),(5,q3 v7.1),(6,q3 v7.2),(33,tB (decide (v2 ≥ (30:Int))))],[]⟩ rfl ?_ z0 trivial ?_
     ·kernel_rfl
     obtain ⟨v8,hc3,h⟩:=of_bind h
     refine AOps.cut [3,4,5,6,7,8,9,10] [11,12,13,14,15,16,17,18,19,20,21,22,23,24] (fun σ=>σ = ⟨[(1,tI v2),(5,q3 v7.1),(6,q3 v7.2),(41,tB v8)],[]⟩) ?_ fun σ' hJ=>?_
     ·refine AOps.split (fun b=>⟨[(0,q0 v1),(1,tI v2),(5,q3 v7.1),(6,q3 v7.2),(33,tB b)],[]⟩) _ (fun hb=>?_) fun hb=>?_
      ·replace hc3:=of_true hc3 hb
       refine AOps.go [3,4,5,6,7,8,9,10] [] [] [1,5,6,41] 0 ⟨[(1,tI v2),(5,q3 v7.1),(6,q3 v7.2),(41,tB true)],[]⟩ ?_ z0 trivial ?_
       ·kernel_rfl
       cases hc3
       exact AOps.nil rfl
      ·replace hc3:=of_false hc3 hb
       obtain ⟨hg,hc3⟩:=of_guard hc3
       refine AOps.go [3,4,5,6,7,8,9,10] [] [(0:Int) ≤ v2,v2 < (v1.length:Int)] [1,5,6,41] 0 ⟨[(1,tI v2),(5,q3 v7.1),(6,q3 v7.2),(41,tB (decide ((((gD v1 v2).f3).length:Int) > (20:Int))))],[]⟩ ?_ z0 ⟨hg.1,hg.2⟩ ?_
       ·kernel_rfl
       cases hc3
       exact AOps.nil rfl
     subst hJ
     refine AOps.go [11] [12,13,14,15,16,17,18,19,20,21,22,23,24] [] [1,5,6,42] 0 ⟨[(1,tI v2),(5,q3 v7.1),(6,q3 v7.2),(42,tB v8)],[]⟩ ?_ z0 trivial ?_
     ·kernel_rfl
     obtain ⟨v9,hc12,h⟩:=of_bind h
     refine AOps.cut [12,13,14,15,16,17] [18,19,20,21,22,23,24] (fun σ=>σ = ⟨[(1,tI v2),(6,q3 v7.2),(48,tB v9)],[]⟩) ?_ fun σ' hJ=>?_
     ·refine AOps.split (fun b=>⟨[(1,tI v2),(5,q3 v7.1),(6,q3 v7.2),(42,tB b)],[]⟩) _ (fun hb=>?_) fun hb=>?_
      ·replace hc12:=of_true hc12 hb
       refine AOps.go [12,13,14,15,16,17] [] [] [1,6,48] 0 ⟨[(1,tI v2),(6,q3 v7.2),(48,tB true)],[]⟩ ?_ z0 trivial ?_
       ·kernel_rfl
       cases hc12
       exact AOps.nil rfl
      ·replace hc12:=of_false hc12 hb
       obtain ⟨hg,hc12⟩:=of_guard hc12
       refine AOps.go [12,13,14,15,16,17] [] [(0:Int) ≤ v2,v2 < (v7.1.length:Int)] [1,6,48] 0 ⟨[(1,tI v2),(6,q3 v7.2),(48,tB (decide (gD v7.1 v2 > (100000:Int))))],[]⟩ ?_ z0 ⟨hg.1,hg.2⟩ ?_
       ·kernel_rfl
       cases hc12
       exact AOps.nil rfl
     subst hJ
     refine AOps.go [18] [19,20,21,22,23,24] [] [1,6,49] 0 ⟨[(1,tI v2),(6,q3 v7.2),(49,tB v9)],[]⟩ ?_ z0 trivial ?_
     ·kernel_rfl
     obtain ⟨v10,hc19,h⟩:=of_bind h
     refine AOps.cut [19,20,21,22,23,24] [] (fun σ=>σ = ⟨[(55,tB v10)],[]⟩) ?_ fun σ' hJ=>?_
     ·refine AOps.split (fun b=>⟨[(1,tI v2),(6,q3 v7.2),(49,tB b)],[]⟩) _ (fun hb=>?_) fun hb=>?_
      ·replace hc19:=of_true hc19 hb
       refine AOps.go [19,20,21,22,23,24] [] [] [55] 0 ⟨[(55,tB true)],[]⟩ ?_ z0 trivial ?_
       ·kernel_rfl
       cases hc19
       exact AOps.nil rfl
      ·replace hc19:=of_false hc19 hb
       obtain ⟨hg,hc19⟩:=of_guard hc19
       refine AOps.go [19,20,21,22,23,24] [] [(0:Int) ≤ v2,v2 < (v7.2.length:Int)] [55] 0 ⟨[(55,tB (decide (gD v7.2 v2 > (100000:Int))))],[]⟩ ?_ z0 ⟨hg.1,hg.2⟩ ?_
       ·kernel_rfl
       cases hc19
       exact AOps.nil rfl
     subst hJ
     refine AOps.nil ?_
     refine AWp.cond rfl (fun hb=>?_) fun hb=>?_
     ·replace h:=of_true h hb
      refine AWp.keepTo [] 0 ⟨[],[]⟩ ?_ z0 ?_
      ·kernel_rfl
      refine AWp.seq ?_
      refine AWp.start [0] [] [] [4] 0 ⟨[(4,tI (4:Int))],[]⟩ rfl ?_ z0 trivial ?_
      ·kernel_rfl
      refine AOps.nil ?_
      refine AWp.ret ?_
      cases h
      exact ⟨.inr rfl,rfl⟩
     ·replace h:=of_false h hb
      refine AWp.keepTo [] 0 ⟨[],[]⟩ ?_ z0 ?_
      ·kernel_rfl
      refine AWp.skip ?_
      refine AWp.seq ?_
      refine AWp.start [0] [] [] [4] 0 ⟨[(4,tI (0:Int))],[]⟩ rfl ?_ z0 trivial ?_
      ·kernel_rfl
      refine AOps.nil ?_
      refine AWp.ret ?_
      cases h
      exact ⟨.inr rfl,rfl⟩

noncomputable def f50_b1 (v1:List T80) (v2:Int):Option (Int ⊕ Out ((List UInt8) × Int) Unit) :=
 cond (decide (v2 < (v1.length:Int))) (if (0:Int) ≤ v2 ∧ v2 < (v1.length:Int) then if (0:Int) ≤ w64 (v2 + (1:Int)) ∧ w64 (v2 + (1:Int)) ≤ (v1.length:Int) then (f88 ((v1.take (Int.toNat (w64 (v2 + (1:Int))))).drop 0) v2).bind fun v3=>cond (v3 != (0:Int)) (some (.inr (.ret ((v1.getD v2.toNat default).f0,v3)))) (some (.inl (w64 (v2 + (1:Int))))) else none else none) (some (.inr (.go ())))

noncomputable def f50 (v1:List T80):Option ((List UInt8) × Int) :=
 (iter (fun s=>f50_b1 v1 s) (0:Int)).bind fun y=>match y with | .ret v4=>some (v4.1,v4.2) | .go _=>some (([]:List UInt8),(0:Int))

theorem f50_ok (v1:List T80) {r:(List UInt8) × Int} (h:f50 v1 = some r):ACall Tryz.prog 50 [.tv (fzL 6 c80 v1)] [] (.tup [.tv (.str r.1),.tv (.int .i64 r.2)]) []:=by
 refine ACall.ofN (FF 26 0) (rs:=[2,3]) (env:=[(2,tS r.1),(3,tI r.2)]) Tryz.func50 rfl Tryz.ntmps50 Tryz.results50 (by decide) (by decide) rfl (zz rfl) rfl (get_ofN _ _ _ rfl) (ok_ofN _ rfl) ?_
 refine AWp.seq ?_
 refine AWp.start [0,1] [] [] [0] 0 ⟨[(0,q0 v1)],[]⟩ rfl ?_ z0 trivial ?_
 ·kernel_rfl
 refine AOps.nil ?_
 refine AWp.seq ?_
 refine AWp.seq ?_
 refine AWp.start [0,1,2] [] [] [0,7,8,9] 0 ⟨[(0,q0 v1),(7,q0 v1),(8,tI (v1.length:Int)),(9,tI (0:Int))],[]⟩ rfl ?_ z0 trivial ?_
 ·kernel_rfl
 refine AOps.nil ?_
 refine AWp.block ?_
 obtain ⟨y,hy,h⟩:=of_bind h
 refine AWp.mono (AWp.loop (S:=Int) (Y:=Out ((List UInt8) × Int) Unit) (fun s=>⟨[(0,q0 v1),(7,q0 v1),(8,tI (v1.length:Int)),(9,tI s)],[]⟩) (fun s=>f50_b1 v1 s) (fun y e σ=>match y with | .ret r=>e = .ret ∧ σ = ⟨[(2,tS r.1),(3,tI r.2)],[]⟩ | .go v=>e = .exit 0 ∧ σ = ⟨[],[]⟩) ?_ hy) ?_
 ·rintro v2 o h
  refine AWp.seq ?_
  refine AWp.start [0] [] [] [0,7,8,9,10] 0 ⟨[(0,q0 v1),(7,q0 v1),(8,tI (v1.length:Int)),(9,tI v2),(10,tB (decide (v2 < (v1.length:Int))))],[]⟩ rfl ?_ z0 trivial ?_
  ·kernel_rfl
  refine AOps.nil ?_
  refine AWp.seq ?_
  refine AWp.cond rfl (fun hb=>?_) fun hb=>?_
  ·replace h:=of_true h hb
   refine AWp.keepTo [0,7,8,9] 0 ⟨[(0,q0 v1),(7,q0 v1),(8,tI (v1.length:Int)),(9,tI v2)],[]⟩ ?_ z0 ?_
   ·kernel_rfl
   refine AWp.skip ?_
   refine AWp.seq ?_
   refine AWp.block ?_
   refine AWp.seq ?_
   obtain ⟨hg,h⟩:=of_guard h
   refine AWp.start [0,1,2,3,4,5] [] [(0:Int) ≤ v2,v2 < (v1.length:Int)] [0,4,5,7,8,9] 1 ⟨[(0,q0 v1),(4,tI v2),(5,.pc 0 0),(7,q0 v1),(8,tI (v1.length:Int)),(9,tI v2)],[.cells 81 (c80 (gD v1 v2))]⟩ rfl ?_ z0 ⟨hg.1,hg.2⟩ ?_
   ·kernel_rfl
   refine AOps.nil ?_
   refine AWp.seq ?_
   refine AWp.pin 0 rfl rfl ?_
   refine AWp.keepTo [0,4,5,7,8,9] 0 ⟨[(0,q0 v1),(4,tI v2),(5,.rp (c80 (gD v1 v2))),(7,q0 v1),(8,tI (v1.length:Int)),(9,tI v2)],[]⟩ ?_ z0 ?_
   ·kernel_rfl
   obtain ⟨hg,h⟩:=of_guard h
   refine AWp.start [0,1,2,3] [4,5,6] [(0:Int) ≤ (0:Int),(0:Int) ≤ w64 (v2 + (1:Int)),w64 (v2 + (1:Int)) ≤ (v1.length:Int)] [0,4,5,7,8,9,17] 0 ⟨[(0,q0 v1),(4,tI v2),(5,.rp (c80 (gD v1 v2))),(7,q0 v1),(8,tI (v1.length:Int)),(9,tI v2),(17,.tv (.fz 6 ((Int.toNat (w64 (v2 + (1:Int)))) - 0) (fun i=>c80 (v1.getD (0 + i) default))))],[]⟩ rfl ?_ z0 ⟨(by decide:(0:Int) ≤ (0:Int)),hg.1,hg.2⟩ ?_
   ·kernel_rfl
   have hb:(Int.toNat (w64 (v2 + (1:Int)))) ≤ v1.length:=by have hh:w64 (v2 + (1:Int)) ≤ (v1.length:Int):=hg.2; omega
   refine AOps.extFzL (s:=17) rfl (sub_len v1 0 (Int.toNat (w64 (v2 + (1:Int)))) hb) (sub_at c80 v1 0 (Int.toNat (w64 (v2 + (1:Int)))) hb) ?_
   refine AOps.go [4] [5,6] [] [0,5,7,8,9,17,18] 0 ⟨[(0,q0 v1),(5,.rp (c80 (gD v1 v2))),(7,q0 v1),(8,tI (v1.length:Int)),(9,tI v2),(17,q0 ((v1.take (Int.toNat (w64 (v2 + (1:Int))))).drop 0)),(18,tI v2)],[]⟩ ?_ z0 trivial ?_
   ·kernel_rfl
   obtain ⟨v3,hv3,h⟩:=of_bind h
   refine AOps.cons (AOne.callP (F:=(FF 26 0)) _ rfl rfl rfl _ rfl rfl _ _ rfl Tryz.call88 [q0 ((v1.take (Int.toNat (w64 (v2 + (1:Int))))).drop 0),tI v2] rfl rfl (f88_ok ((v1.take (Int.toNat (w64 (v2 + (1:Int))))).drop 0) v2 hv3) rfl) ?_
   refine AOps.go [6] [] [] [0,5,6,7,8,9] 0 ⟨[(0,q0 v1),(5,.rp (c80 (gD v1 v2))),(6,tI v3),(7,q0 v1),(8,tI (v1.length:Int)),(9,tI v2)],[]⟩ ?_ z0 trivial ?_
   ·kernel_rfl
   refine AOps.nil ?_
   refine AWp.seq ?_
   refine AWp.start [0,1] [] [] [0,5,6,7,8,9,21] 0 ⟨[(0,q0 v1),(5,.rp (c80 (gD v1 v2))),(6,tI v3),(7,q0 v1),(8,tI (v1.length:Int)),(9,tI v2),(21,tB (v3 != (0:Int)))],[]⟩ rfl ?_ z0 trivial ?_
   ·kernel_rfl
   refine AOps.nil ?_
   refine AWp.cond rfl (fun hb=>?_) fun hb=>?_
   ·replace h:=of_true h hb
    refine AWp.keepTo [5,6] 0 ⟨[(5,.rp (c80 (gD v1 v2))),(6,tI v3)],[]⟩ ?_ z0 ?_
    ·kernel_rfl
    refine AWp.seq ?_
    refine AWp.start [0,1,2,3,4] [] [] [2,3] 0 ⟨[(2,tS ((gD v1 v2).f0)),(3,tI v3)],[]⟩ rfl ?_ z0 trivial ?_
    ·kernel_rfl
    refine AOps.nil ?_
    refine AWp.ret ?_
    cases h
    exact Or.inr ⟨_,rfl,by simp,rfl,rfl⟩
   ·replace h:=of_false h hb
    refine AWp.keepTo [0,7,8,9] 0 ⟨[(0,q0 v1),(7,q0 v1),(8,tI (v1.length:Int)),(9,tI v2)],[]⟩ ?_ z0 ?_
    ·kernel_rfl
    refine AWp.skip ?_
    refine AWp.start [0,1] [] [] [0,7,8,9] 0 ⟨[(0,q0 v1),(7,q0 v1),(8,tI (v1.length:Int)),(9,tI (w64 (v2 + (1:Int))))],[]⟩ rfl ?_ z0 trivial ?_
    ·kernel_rfl
    refine AOps.nil ?_
    cases h
    exact Or.inl ⟨_,rfl,rfl,rfl⟩
  ·replace h:=of_false h hb
   refine AWp.keepTo [] 0 ⟨[],[]⟩ ?_ z0 ?_
   ·kernel_rfl
   refine AWp.exit ?_
   cases h
   exact Or.inr ⟨_,rfl,by simp,rfl,rfl⟩
 ·intro e σ hp
  rcases y with v4 | _
  ·obtain ⟨rfl,rfl⟩:=hp
   cases h
   exact ⟨.inr rfl,rfl⟩
  ·obtain ⟨rfl,rfl⟩:=hp
   refine AWp.seq ?_
   refine AWp.start [0,1] [] [] [2,3] 0 ⟨[(2,tS ([]:List UInt8)),(3,tI (0:Int))],[]⟩ rfl ?_ z0 trivial ?_
   ·kernel_rfl
   refine AOps.nil ?_
   refine AWp.ret ?_
   cases h
   exact ⟨.inr rfl,rfl⟩

noncomputable def f24 (v1:List T80) (v2:List UInt8):Option (Int × Int) :=
 (f50 v1).bind fun v3=>cond (v3.2 != (0:Int)) (some ((0:Int),(2:Int))) ((f29 v1 v2).bind fun v4=>cond (decide (v4 < (0:Int))) (some ((0:Int),(5:Int))) (some (v4,(0:Int))))

theorem f24_ok (v1:List T80) (v2:List UInt8) {r:Int × Int} (h:f24 v1 v2 = some r):ACall Tryz.prog 24 [.tv (fzL 6 c80 v1),.tv (.str v2)] [] (.tup [.tv (.int .i64 r.1),.tv (.int .i64 r.2)]) []:=by
 refine ACall.ofN (FF 22 0) (rs:=[4,5]) (env:=[(4,tI r.1),(5,tI r.2)]) Tryz.func24 rfl Tryz.ntmps24 Tryz.results24 (by decide) (by decide) rfl (zz rfl) rfl (get_ofN _ _ _ rfl) (ok_ofN _ rfl) ?_
 refine AWp.seq ?_
 refine AWp.start [0,1] [] [] [0,1] 0 ⟨[(0,q0 v1),(1,tS v2)],[]⟩ rfl ?_ z0 trivial ?_
 ·kernel_rfl
 refine AOps.nil ?_
 refine AWp.seq ?_
 refine AWp.seq ?_
 refine AWp.start [0] [1,2,3,4,5,6] [] [0,1,10] 0 ⟨[(0,q0 v1),(1,tS v2),(10,q0 v1)],[]⟩ rfl ?_ z0 trivial ?_
 ·kernel_rfl
 obtain ⟨v3,hv3,h⟩:=of_bind h
 refine AOps.cons (AOne.callP (F:=(FF 22 0)) _ rfl rfl rfl _ rfl rfl _ _ rfl Tryz.call50 [q0 v1] rfl rfl (f50_ok v1 hv3) rfl) ?_
 refine AOps.go [2,3,4,5,6] [] [] [0,1,7] 0 ⟨[(0,q0 v1),(1,tS v2),(7,tI v3.2)],[]⟩ ?_ z0 trivial ?_
 ·kernel_rfl
 refine AOps.nil ?_
 refine AWp.seq ?_
 refine AWp.start [0,1] [] [] [0,1,15] 0 ⟨[(0,q0 v1),(1,tS v2),(15,tB (v3.2 != (0:Int)))],[]⟩ rfl ?_ z0 trivial ?_
 ·kernel_rfl
 refine AOps.nil ?_
 refine AWp.cond rfl (fun hb=>?_) fun hb=>?_
 ·replace h:=of_true h hb
  refine AWp.keepTo [] 0 ⟨[],[]⟩ ?_ z0 ?_
  ·kernel_rfl
  refine AWp.seq ?_
  refine AWp.start [0,1] [] [] [4,5] 0 ⟨[(4,tI (0:Int)),(5,tI (2:Int))],[]⟩ rfl ?_ z0 trivial ?_
  ·kernel_rfl
  refine AOps.nil ?_
  refine AWp.ret ?_
  cases h
  exact ⟨.inr rfl,rfl⟩
 ·replace h:=of_false h hb
  refine AWp.keepTo [0,1] 0 ⟨[(0,q0 v1),(1,tS v2)],[]⟩ ?_ z0 ?_
  ·kernel_rfl
  refine AWp.skip ?_
  refine AWp.seq ?_
  refine AWp.start [0,1] [2,3] [] [16,17] 0 ⟨[(16,q0 v1),(17,tS v2)],[]⟩ rfl ?_ z0 trivial ?_
  ·kernel_rfl
  obtain ⟨v4,hv4,h⟩:=of_bind h
  refine AOps.cons (AOne.callP (F:=(FF 22 0)) _ rfl rfl rfl _ rfl rfl _ _ rfl Tryz.call29 [q0 v1,tS v2] rfl rfl (f29_ok v1 v2 hv4) rfl) ?_
  refine AOps.go [3] [] [] [8] 0 ⟨[(8,tI v4)],[]⟩ ?_ z0 trivial ?_
  ·kernel_rfl
  refine AOps.nil ?_
  refine AWp.seq ?_
  refine AWp.seq ?_
  refine AWp.start [0,1] [] [] [8,20] 0 ⟨[(8,tI v4),(20,tB (decide (v4 < (0:Int))))],[]⟩ rfl ?_ z0 trivial ?_
  ·kernel_rfl
  refine AOps.nil ?_
  refine AWp.cond rfl (fun hb=>?_) fun hb=>?_
  ·replace h:=of_true h hb
   refine AWp.keepTo [] 0 ⟨[],[]⟩ ?_ z0 ?_
   ·kernel_rfl
   refine AWp.seq ?_
   refine AWp.start [0,1] [] [] [4,5] 0 ⟨[(4,tI (0:Int)),(5,tI (5:Int))],[]⟩ rfl ?_ z0 trivial ?_
   ·kernel_rfl
   refine AOps.nil ?_
   refine AWp.ret ?_
   cases h
   exact ⟨.inr rfl,rfl⟩
  ·replace h:=of_false h hb
   refine AWp.keepTo [8] 0 ⟨[(8,tI v4)],[]⟩ ?_ z0 ?_
   ·kernel_rfl
   refine AWp.skip ?_
   refine AWp.seq ?_
   refine AWp.start [0,1,2] [] [] [4,5] 0 ⟨[(4,tI v4),(5,tI (0:Int))],[]⟩ rfl ?_ z0 trivial ?_
   ·kernel_rfl
   refine AOps.nil ?_
   refine AWp.ret ?_
   cases h
   exact ⟨.inr rfl,rfl⟩

noncomputable def f9_b1 (v1:List T80) (v4:(List Int)) (v5:List (List UInt8)) (v6:Int):Option (((List (List UInt8)) × Int) ⊕ Out ((List (List UInt8)) × Int) (List (List UInt8))) :=
 cond (decide (v6 < (v4.length:Int))) (if (0:Int) ≤ v6 ∧ v6 < (v4.length:Int) then if (0:Int) ≤ v4.getD v6.toNat default ∧ v4.getD v6.toNat default < (v1.length:Int) then if (v5.length + [(v1.getD (Int.toNat (v4.getD v6.toNat default)) default).f0].length) * 16 ≤ 140737488355328 then some (.inl (v5 ++ [(v1.getD (Int.toNat (v4.getD v6.toNat default)) default).f0],w64 (v6 + (1:Int)))) else none else none else none) (some (.inr (.go v5)))

noncomputable def f9 (v1:List T80) (v2:List UInt8):Option ((List (List UInt8)) × Int) :=
 (f24 v1 v2).bind fun v3=>cond (v3.2 != (0:Int)) (some (([]:List (List UInt8)),v3.2)) ((f25 v1 v3.1).bind fun v4=>(iter (fun s=>f9_b1 v1 v4 s.1 s.2) ([],(0:Int))).bind fun y=>match y with | .ret v8=>some (v8.1,v8.2) | .go v7=>some (v7,(0:Int)))

theorem f9_ok (v1:List T80) (v2:List UInt8) {r:(List (List UInt8)) × Int} (h:f9 v1 v2 = some r):ACall Tryz.prog 9 [.tv (fzL 6 c80 v1),.tv (.str v2)] [] (.tup [.tv (fzL 1 cStr r.1),.tv (.int .i64 r.2)]) []:=by
 refine ACall.ofN (FF 38 0) (rs:=[4,5]) (env:=[(4,q4 r.1),(5,tI r.2)]) Tryz.func9 rfl Tryz.ntmps9 Tryz.results9 (by decide) (by decide) rfl (zz rfl) rfl (get_ofN _ _ _ rfl) (ok_ofN _ rfl) ?_
 refine AWp.seq ?_
 refine AWp.start [0,1] [] [] [0,1] 0 ⟨[(0,q0 v1),(1,tS v2)],[]⟩ rfl ?_ z0 trivial ?_
 ·kernel_rfl
 refine AOps.nil ?_
 refine AWp.seq ?_
 refine AWp.start [0,1] [2,3,4,5,6,7] [] [0,12,13] 0 ⟨[(0,q0 v1),(12,q0 v1),(13,tS v2)],[]⟩ rfl ?_ z0 trivial ?_
 ·kernel_rfl
 obtain ⟨v3,hv3,h⟩:=of_bind h
 refine AOps.cons (AOne.callP (F:=(FF 38 0)) _ rfl rfl rfl _ rfl rfl _ _ rfl Tryz.call24 [q0 v1,tS v2] rfl rfl (f24_ok v1 v2 hv3) rfl) ?_
 refine AOps.go [3,4,5,6,7] [] [] [0,6,7] 0 ⟨[(0,q0 v1),(6,tI v3.1),(7,tI v3.2)],[]⟩ ?_ z0 trivial ?_
 ·kernel_rfl
 refine AOps.nil ?_
 refine AWp.seq ?_
 refine AWp.seq ?_
 refine AWp.start [0,1] [] [] [0,6,7,18] 0 ⟨[(0,q0 v1),(6,tI v3.1),(7,tI v3.2),(18,tB (v3.2 != (0:Int)))],[]⟩ rfl ?_ z0 trivial ?_
 ·kernel_rfl
 refine AOps.nil ?_
 refine AWp.cond rfl (fun hb=>?_) fun hb=>?_
 ·replace h:=of_true h hb
  refine AWp.keepTo [7] 0 ⟨[(7,tI v3.2)],[]⟩ ?_ z0 ?_
  ·kernel_rfl
  refine AWp.seq ?_
  refine AWp.start [0,1,2] [] [] [4,5] 0 ⟨[(4,.tv (.sc (.slice none 0 0))),(5,tI v3.2)],[]⟩ rfl ?_ z0 trivial ?_
  ·kernel_rfl
  refine AOps.nil ?_
  refine AWp.nilFz 4 1 (fun i=>cStr (([]:List (List UInt8)).getD i default)) rfl ?_
  refine AWp.keepTo [4,5] 0 ⟨[(4,q4 ([]:List (List UInt8))),(5,tI v3.2)],[]⟩ ?_ z0 ?_
  ·kernel_rfl
  refine AWp.ret ?_
  cases h
  exact ⟨.inr rfl,rfl⟩
 ·replace h:=of_false h hb
  refine AWp.keepTo [0,6] 0 ⟨[(0,q0 v1),(6,tI v3.1)],[]⟩ ?_ z0 ?_
  ·kernel_rfl
  refine AWp.skip ?_
  refine AWp.seq ?_
  refine AWp.start [0] [] [] [0,6,8] 0 ⟨[(0,q0 v1),(6,tI v3.1),(8,.tv (.sc (.slice none 0 0)))],[]⟩ rfl ?_ z0 trivial ?_
  ·kernel_rfl
  refine AOps.nil ?_
  refine AWp.seq ?_
  refine AWp.seq ?_
  refine AWp.start [0,1] [2,3,4] [] [0,8,20,21] 0 ⟨[(0,q0 v1),(8,.tv (.sc (.slice none 0 0))),(20,q0 v1),(21,tI v3.1)],[]⟩ rfl ?_ z0 trivial ?_
  ·kernel_rfl
  obtain ⟨v4,hv4,h⟩:=of_bind h
  refine AOps.cons (AOne.callP (F:=(FF 38 0)) _ rfl rfl rfl _ rfl rfl _ _ rfl Tryz.call25 [q0 v1,tI v3.1] rfl rfl (f25_ok v1 v3.1 hv4) rfl) ?_
  refine AOps.freezeL 22 (cInt .i64) v4 rfl (fun _=>rfl) ?_
  refine AOps.go [3,4] [] [] [0,8,22,23,24] 0 ⟨[(0,q0 v1),(8,.tv (.sc (.slice none 0 0))),(22,q3 v4),(23,tI (v4.length:Int)),(24,tI (0:Int))],[]⟩ ?_ z0 trivial ?_
  ·kernel_rfl
  refine AOps.nil ?_
  refine AWp.block ?_
  refine AWp.nilOwn 8 1 9 (fun i=>cStr (([]:List (List UInt8)).getD i default)) rfl ?_
  refine AWp.keepTo [0,8,22,23,24] 0 ⟨[(0,q0 v1),(8,q7 ([]:List (List UInt8))),(22,q3 v4),(23,tI (v4.length:Int)),(24,tI (0:Int))],[]⟩ ?_ z0 ?_
  ·kernel_rfl
  obtain ⟨y,hy,h⟩:=of_bind h
  refine AWp.mono (AWp.loop (S:=(List (List UInt8)) × Int) (Y:=Out ((List (List UInt8)) × Int) (List (List UInt8))) (fun s=>⟨[(0,q0 v1),(8,q7 s.1),(22,q3 v4),(23,tI (v4.length:Int)),(24,tI s.2)],[]⟩) (fun s=>f9_b1 v1 v4 s.1 s.2) (fun y e σ=>match y with | .ret r=>e = .ret ∧ σ = ⟨[(4,q4 r.1),(5,tI r.2)],[]⟩ | .go v=>e = .exit 0 ∧ σ = ⟨[(8,q7 v)],[]⟩) ?_ hy) ?_
  ·rintro ⟨v5,v6⟩ o h
   refine AWp.seq ?_
   refine AWp.start [0] [] [] [0,8,22,23,24,25] 0 ⟨[(0,q0 v1),(8,q7 v5),(22,q3 v4),(23,tI (v4.length:Int)),(24,tI v6),(25,tB (decide (v6 < (v4.length:Int))))],[]⟩ rfl ?_ z0 trivial ?_
   ·kernel_rfl
   refine AOps.nil ?_
   refine AWp.seq ?_
   refine AWp.cond rfl (fun hb=>?_) fun hb=>?_
   ·replace h:=of_true h hb
    refine AWp.keepTo [0,8,22,23,24] 0 ⟨[(0,q0 v1),(8,q7 v5),(22,q3 v4),(23,tI (v4.length:Int)),(24,tI v6)],[]⟩ ?_ z0 ?_
    ·kernel_rfl
    refine AWp.skip ?_
    refine AWp.seq ?_
    refine AWp.block ?_
    refine AWp.seq ?_
    obtain ⟨hg,h⟩:=of_guard h
    refine AWp.start [0,1,2] [] [(0:Int) ≤ v6,v6 < (v4.length:Int)] [0,8,10,22,23,24] 0 ⟨[(0,q0 v1),(8,q7 v5),(10,tI (gD v4 v6)),(22,q3 v4),(23,tI (v4.length:Int)),(24,tI v6)],[]⟩ rfl ?_ z0 ⟨hg.1,hg.2⟩ ?_
    ·kernel_rfl
    refine AOps.nil ?_
    obtain ⟨hg,h⟩:=of_guard h
    refine AWp.start [0,1,2,3,4,5,6] [7,8] [(0:Int) ≤ gD v4 v6,gD v4 v6 < (v1.length:Int)] [0,8,22,23,24,28,34] 0 ⟨[(0,q0 v1),(8,q7 v5),(22,q3 v4),(23,tI (v4.length:Int)),(24,tI v6),(28,.al (.slot 8 0,[])),(34,.tv (.own 1 9 1 (newRowF [.str ((v1.getD (Int.toNat (gD v4 v6)) default).f0)] 1)))],[]⟩ rfl ?_ z0 ⟨hg.1,hg.2⟩ ?_
    ·kernel_rfl
    refine AOps.extL 34 cStr [(v1.getD (Int.toNat (gD v4 v6)) default).f0] rfl rfl (row_at cStr 1 (fun _=>rfl) [(v1.getD (Int.toNat (gD v4 v6)) default).f0] _ rfl) ?_
    obtain ⟨hg,h⟩:=of_guard h
    refine AOps.go [7] [8] [(v5.length + [(v1.getD (Int.toNat (gD v4 v6)) default).f0].length) * 16 ≤ 140737488355328,PlainTo v5.length (fun i=>cStr (v5.getD i default)),PlainTo ([(v1.getD (Int.toNat (gD v4 v6)) default).f0].length) (fun i=>cStr ([(v1.getD (Int.toNat (gD v4 v6)) default).f0].getD i default))] [0,22,23,24,35] 0 ⟨[(0,q0 v1),(22,q3 v4),(23,tI (v4.length:Int)),(24,tI v6),(35,.tv (.own 1 9 (v5.length + [(v1.getD (Int.toNat (gD v4 v6)) default).f0].length) (appF v5.length (fun i=>cStr (v5.getD i default)) (fun i=>cStr ([(v1.getD (Int.toNat (gD v4 v6)) default).f0].getD i default)))))],[]⟩ ?_ z0 ⟨hg,(fun _ _=>rfl),(fun _ _=>rfl)⟩ ?_
    ·kernel_rfl
    refine AOps.extL 35 cStr (v5 ++ [(v1.getD (Int.toNat (gD v4 v6)) default).f0]) rfl List.length_append.symm (app_at cStr v5 [(v1.getD (Int.toNat (gD v4 v6)) default).f0]) ?_
    refine AOps.go [8] [] [] [0,8,22,23,24] 0 ⟨[(0,q0 v1),(8,q7 (v5 ++ [(v1.getD (Int.toNat (gD v4 v6)) default).f0])),(22,q3 v4),(23,tI (v4.length:Int)),(24,tI v6)],[]⟩ ?_ z0 trivial ?_
    ·kernel_rfl
    refine AOps.nil ?_
    refine AWp.start [0,1] [] [] [0,8,22,23,24] 0 ⟨[(0,q0 v1),(8,q7 (v5 ++ [(v1.getD (Int.toNat (gD v4 v6)) default).f0])),(22,q3 v4),(23,tI (v4.length:Int)),(24,tI (w64 (v6 + (1:Int))))],[]⟩ rfl ?_ z0 trivial ?_
    ·kernel_rfl
    refine AOps.nil ?_
    cases h
    exact Or.inl ⟨_,rfl,rfl,rfl⟩
   ·replace h:=of_false h hb
    refine AWp.keepTo [8] 0 ⟨[(8,q7 v5)],[]⟩ ?_ z0 ?_
    ·kernel_rfl
    refine AWp.exit ?_
    cases h
    exact Or.inr ⟨_,rfl,by simp,rfl,rfl⟩
  ·intro e σ hp
   rcases y with v8 | v7
   ·obtain ⟨rfl,rfl⟩:=hp
    cases h
    exact ⟨.inr rfl,rfl⟩
   ·obtain ⟨rfl,rfl⟩:=hp
    refine AWp.seq ?_
    refine AWp.freezeL 8 cStr v7 rfl (fun _=>rfl) ?_
    refine AWp.start [0,1,2] [] [] [4,5] 0 ⟨[(4,q4 v7),(5,tI (0:Int))],[]⟩ rfl ?_ z0 trivial ?_
    ·kernel_rfl
    refine AOps.nil ?_
    refine AWp.ret ?_
    cases h
    exact ⟨.inr rfl,rfl⟩

noncomputable def f10 (v1:List T80) (v2:List UInt8) (v3:List UInt8):Option ((List UInt8) × Int) :=
 (f24 v1 v2).bind fun v4=>cond (v4.2 != (0:Int)) (some (([]:List UInt8),v4.2)) ((f26 v1 v4.1 v3).bind fun v5=>cond (!v5.2) (some (([]:List UInt8),(5:Int))) (some (v5.1,(0:Int))))

theorem f10_ok (v1:List T80) (v2:List UInt8) (v3:List UInt8) {r:(List UInt8) × Int} (h:f10 v1 v2 v3 = some r):ACall Tryz.prog 10 [.tv (fzL 6 c80 v1),.tv (.str v2),.tv (.str v3)] [] (.tup [.tv (.str r.1),.tv (.int .i64 r.2)]) []:=by
 refine ACall.ofN (FF 31 0) (rs:=[6,7]) (env:=[(6,tS r.1),(7,tI r.2)]) Tryz.func10 rfl Tryz.ntmps10 Tryz.results10 (by decide) (by decide) rfl (zz rfl) rfl (get_ofN _ _ _ rfl) (ok_ofN _ rfl) ?_
 refine AWp.seq ?_
 refine AWp.start [0,1] [] [] [0,1,2] 0 ⟨[(0,q0 v1),(1,tS v2),(2,tS v3)],[]⟩ rfl ?_ z0 trivial ?_
 ·kernel_rfl
 refine AOps.nil ?_
 refine AWp.seq ?_
 refine AWp.start [0,1] [2,3,4,5,6,7] [] [0,2,13,14] 0 ⟨[(0,q0 v1),(2,tS v3),(13,q0 v1),(14,tS v2)],[]⟩ rfl ?_ z0 trivial ?_
 ·kernel_rfl
 obtain ⟨v4,hv4,h⟩:=of_bind h
 refine AOps.cons (AOne.callP (F:=(FF 31 0)) _ rfl rfl rfl _ rfl rfl _ _ rfl Tryz.call24 [q0 v1,tS v2] rfl rfl (f24_ok v1 v2 hv4) rfl) ?_
 refine AOps.go [3,4,5,6,7] [] [] [0,2,8,9] 0 ⟨[(0,q0 v1),(2,tS v3),(8,tI v4.1),(9,tI v4.2)],[]⟩ ?_ z0 trivial ?_
 ·kernel_rfl
 refine AOps.nil ?_
 refine AWp.seq ?_
 refine AWp.seq ?_
 refine AWp.start [0,1] [] [] [0,2,8,9,19] 0 ⟨[(0,q0 v1),(2,tS v3),(8,tI v4.1),(9,tI v4.2),(19,tB (v4.2 != (0:Int)))],[]⟩ rfl ?_ z0 trivial ?_
 ·kernel_rfl
 refine AOps.nil ?_
 refine AWp.cond rfl (fun hb=>?_) fun hb=>?_
 ·replace h:=of_true h hb
  refine AWp.keepTo [9] 0 ⟨[(9,tI v4.2)],[]⟩ ?_ z0 ?_
  ·kernel_rfl
  refine AWp.seq ?_
  refine AWp.start [0,1,2] [] [] [6,7] 0 ⟨[(6,tS ([]:List UInt8)),(7,tI v4.2)],[]⟩ rfl ?_ z0 trivial ?_
  ·kernel_rfl
  refine AOps.nil ?_
  refine AWp.ret ?_
  cases h
  exact ⟨.inr rfl,rfl⟩
 ·replace h:=of_false h hb
  refine AWp.keepTo [0,2,8] 0 ⟨[(0,q0 v1),(2,tS v3),(8,tI v4.1)],[]⟩ ?_ z0 ?_
  ·kernel_rfl
  refine AWp.skip ?_
  refine AWp.seq ?_
  refine AWp.start [0,1,2] [3,4,5,6,7,8] [] [22,23,24] 0 ⟨[(22,q0 v1),(23,tI v4.1),(24,tS v3)],[]⟩ rfl ?_ z0 trivial ?_
  ·kernel_rfl
  obtain ⟨v5,hv5,h⟩:=of_bind h
  refine AOps.cons (AOne.callP (F:=(FF 31 0)) _ rfl rfl rfl _ rfl rfl _ _ rfl Tryz.call26 [q0 v1,tI v4.1,tS v3] rfl rfl (f26_ok v1 v4.1 v3 hv5) rfl) ?_
  refine AOps.go [4,5,6,7,8] [] [] [10,11] 0 ⟨[(10,tS v5.1),(11,tB v5.2)],[]⟩ ?_ z0 trivial ?_
  ·kernel_rfl
  refine AOps.nil ?_
  refine AWp.seq ?_
  refine AWp.seq ?_
  refine AWp.start [0,1] [] [] [10,29] 0 ⟨[(10,tS v5.1),(29,tB (!v5.2))],[]⟩ rfl ?_ z0 trivial ?_
  ·kernel_rfl
  refine AOps.nil ?_
  refine AWp.cond rfl (fun hb=>?_) fun hb=>?_
  ·replace h:=of_true h hb
   refine AWp.keepTo [] 0 ⟨[],[]⟩ ?_ z0 ?_
   ·kernel_rfl
   refine AWp.seq ?_
   refine AWp.start [0,1] [] [] [6,7] 0 ⟨[(6,tS ([]:List UInt8)),(7,tI (5:Int))],[]⟩ rfl ?_ z0 trivial ?_
   ·kernel_rfl
   refine AOps.nil ?_
   refine AWp.ret ?_
   cases h
   exact ⟨.inr rfl,rfl⟩
  ·replace h:=of_false h hb
   refine AWp.keepTo [10] 0 ⟨[(10,tS v5.1)],[]⟩ ?_ z0 ?_
   ·kernel_rfl
   refine AWp.skip ?_
   refine AWp.seq ?_
   refine AWp.start [0,1,2] [] [] [6,7] 0 ⟨[(6,tS v5.1),(7,tI (0:Int))],[]⟩ rfl ?_ z0 trivial ?_
   ·kernel_rfl
   refine AOps.nil ?_
   refine AWp.ret ?_
   cases h
   exact ⟨.inr rfl,rfl⟩

noncomputable def f27 (v1:List T80) (v2:Int):Option Int :=
 if (0:Int) ≤ w64 (v2 + (1:Int)) ∧ w64 (v2 + (1:Int)) ≤ (v1.length:Int) then (f51 ((v1.take (Int.toNat (w64 (v2 + (1:Int))))).drop 0)).bind fun v3=>if (0:Int) ≤ v2 ∧ v2 < (v3.1.length:Int) then some (v3.1.getD v2.toNat default) else none else none

theorem f27_ok (v1:List T80) (v2:Int) {r:Int} (h:f27 v1 v2 = some r):ACall Tryz.prog 27 [.tv (fzL 6 c80 v1),.tv (.int .i64 v2)] [] (.tv (.int .i64 r)) []:=by
 refine ACall.of1 (FF 19 0) Tryz.func27 rfl Tryz.ntmps27 Tryz.results27 (zz rfl) rfl rfl ?_
 refine AWp.seq ?_
 refine AWp.start [0] [] [] [0,1] 0 ⟨[(0,q0 v1),(1,tI v2)],[]⟩ rfl ?_ z0 trivial ?_
 ·kernel_rfl
 refine AOps.nil ?_
 refine AWp.seq ?_
 obtain ⟨hg,h⟩:=of_guard h
 refine AWp.start [0,1,2,3] [4,5,6,7,8,9] [(0:Int) ≤ (0:Int),(0:Int) ≤ w64 (v2 + (1:Int)),w64 (v2 + (1:Int)) ≤ (v1.length:Int)] [1,11] 0 ⟨[(1,tI v2),(11,.tv (.fz 6 ((Int.toNat (w64 (v2 + (1:Int)))) - 0) (fun i=>c80 (v1.getD (0 + i) default))))],[]⟩ rfl ?_ z0 ⟨(by decide:(0:Int) ≤ (0:Int)),hg.1,hg.2⟩ ?_
 ·kernel_rfl
 have hb:(Int.toNat (w64 (v2 + (1:Int)))) ≤ v1.length:=by have hh:w64 (v2 + (1:Int)) ≤ (v1.length:Int):=hg.2; omega
 refine AOps.extFzL (s:=11) rfl (sub_len v1 0 (Int.toNat (w64 (v2 + (1:Int)))) hb) (sub_at c80 v1 0 (Int.toNat (w64 (v2 + (1:Int)))) hb) ?_
 obtain ⟨v3,hv3,h⟩:=of_bind h
 refine AOps.cons (AOne.callP (F:=(FF 19 0)) _ rfl rfl rfl _ rfl rfl _ _ rfl Tryz.call51 [q0 ((v1.take (Int.toNat (w64 (v2 + (1:Int))))).drop 0)] rfl rfl (f51_ok ((v1.take (Int.toNat (w64 (v2 + (1:Int))))).drop 0) hv3) rfl) ?_
 refine AOps.go [5,6,7,8,9] [] [] [1,5] 0 ⟨[(1,tI v2),(5,q3 v3.1)],[]⟩ ?_ z0 trivial ?_
 ·kernel_rfl
 refine AOps.nil ?_
 refine AWp.seq ?_
 obtain ⟨hg,h⟩:=of_guard h
 refine AWp.start [0,1,2,3,4] [] [(0:Int) ≤ v2,v2 < (v3.1.length:Int)] [4] 0 ⟨[(4,tI (gD v3.1 v2))],[]⟩ rfl ?_ z0 ⟨hg.1,hg.2⟩ ?_
 ·kernel_rfl
 refine AOps.nil ?_
 refine AWp.ret ?_
 cases h
 exact ⟨.inr rfl,rfl⟩

noncomputable def f11 (v1:List T80) (v2:List UInt8):Option (Int × Int) :=
 (f24 v1 v2).bind fun v3=>cond (v3.2 != (0:Int)) (some ((0:Int),v3.2)) ((f27 v1 v3.1).bind fun v4=>some (v4,(0:Int)))

theorem f11_ok (v1:List T80) (v2:List UInt8) {r:Int × Int} (h:f11 v1 v2 = some r):ACall Tryz.prog 11 [.tv (fzL 6 c80 v1),.tv (.str v2)] [] (.tup [.tv (.int .i64 r.1),.tv (.int .i64 r.2)]) []:=by
 refine ACall.ofN (FF 20 0) (rs:=[4,5]) (env:=[(4,tI r.1),(5,tI r.2)]) Tryz.func11 rfl Tryz.ntmps11 Tryz.results11 (by decide) (by decide) rfl (zz rfl) rfl (get_ofN _ _ _ rfl) (ok_ofN _ rfl) ?_
 refine AWp.seq ?_
 refine AWp.start [0,1] [] [] [0,1] 0 ⟨[(0,q0 v1),(1,tS v2)],[]⟩ rfl ?_ z0 trivial ?_
 ·kernel_rfl
 refine AOps.nil ?_
 refine AWp.seq ?_
 refine AWp.start [0,1] [2,3,4,5,6,7] [] [0,9,10] 0 ⟨[(0,q0 v1),(9,q0 v1),(10,tS v2)],[]⟩ rfl ?_ z0 trivial ?_
 ·kernel_rfl
 obtain ⟨v3,hv3,h⟩:=of_bind h
 refine AOps.cons (AOne.callP (F:=(FF 20 0)) _ rfl rfl rfl _ rfl rfl _ _ rfl Tryz.call24 [q0 v1,tS v2] rfl rfl (f24_ok v1 v2 hv3) rfl) ?_
 refine AOps.go [3,4,5,6,7] [] [] [0,6,7] 0 ⟨[(0,q0 v1),(6,tI v3.1),(7,tI v3.2)],[]⟩ ?_ z0 trivial ?_
 ·kernel_rfl
 refine AOps.nil ?_
 refine AWp.seq ?_
 refine AWp.seq ?_
 refine AWp.start [0,1] [] [] [0,6,7,15] 0 ⟨[(0,q0 v1),(6,tI v3.1),(7,tI v3.2),(15,tB (v3.2 != (0:Int)))],[]⟩ rfl ?_ z0 trivial ?_
 ·kernel_rfl
 refine AOps.nil ?_
 refine AWp.cond rfl (fun hb=>?_) fun hb=>?_
 ·replace h:=of_true h hb
  refine AWp.keepTo [7] 0 ⟨[(7,tI v3.2)],[]⟩ ?_ z0 ?_
  ·kernel_rfl
  refine AWp.seq ?_
  refine AWp.start [0,1,2] [] [] [4,5] 0 ⟨[(4,tI (0:Int)),(5,tI v3.2)],[]⟩ rfl ?_ z0 trivial ?_
  ·kernel_rfl
  refine AOps.nil ?_
  refine AWp.ret ?_
  cases h
  exact ⟨.inr rfl,rfl⟩
 ·replace h:=of_false h hb
  refine AWp.keepTo [0,6] 0 ⟨[(0,q0 v1),(6,tI v3.1)],[]⟩ ?_ z0 ?_
  ·kernel_rfl
  refine AWp.skip ?_
  refine AWp.seq ?_
  refine AWp.start [0,1] [2,3,4] [] [17,18] 0 ⟨[(17,q0 v1),(18,tI v3.1)],[]⟩ rfl ?_ z0 trivial ?_
  ·kernel_rfl
  obtain ⟨v4,hv4,h⟩:=of_bind h
  refine AOps.cons (AOne.callP (F:=(FF 20 0)) _ rfl rfl rfl _ rfl rfl _ _ rfl Tryz.call27 [q0 v1,tI v3.1] rfl rfl (f27_ok v1 v3.1 hv4) rfl) ?_
  refine AOps.go [3,4] [] [] [4,5] 0 ⟨[(4,tI v4),(5,tI (0:Int))],[]⟩ ?_ z0 trivial ?_
  ·kernel_rfl
  refine AOps.nil ?_
  refine AWp.ret ?_
  cases h
  exact ⟨.inr rfl,rfl⟩

noncomputable def f12 (v1:List T80) (v2:List UInt8):Option ((List T86) × Int) :=
 (f24 v1 v2).bind fun v3=>cond (v3.2 != (0:Int)) (some (([]:List T86),v3.2)) ((f28 v1 v3.1).bind fun v4=>some (v4,(0:Int)))

theorem f12_ok (v1:List T80) (v2:List UInt8) {r:(List T86) × Int} (h:f12 v1 v2 = some r):ACall Tryz.prog 12 [.tv (fzL 6 c80 v1),.tv (.str v2)] [] (.tup [.tv (fzL 3 c86 r.1),.tv (.int .i64 r.2)]) []:=by
 refine ACall.ofN (FF 20 0) (rs:=[4,5]) (env:=[(4,q1 r.1),(5,tI r.2)]) Tryz.func12 rfl Tryz.ntmps12 Tryz.results12 (by decide) (by decide) rfl (zz rfl) rfl (get_ofN _ _ _ rfl) (ok_ofN _ rfl) ?_
 refine AWp.seq ?_
 refine AWp.start [0,1] [] [] [0,1] 0 ⟨[(0,q0 v1),(1,tS v2)],[]⟩ rfl ?_ z0 trivial ?_
 ·kernel_rfl
 refine AOps.nil ?_
 refine AWp.seq ?_
 refine AWp.start [0,1] [2,3,4,5,6,7] [] [0,9,10] 0 ⟨[(0,q0 v1),(9,q0 v1),(10,tS v2)],[]⟩ rfl ?_ z0 trivial ?_
 ·kernel_rfl
 obtain ⟨v3,hv3,h⟩:=of_bind h
 refine AOps.cons (AOne.callP (F:=(FF 20 0)) _ rfl rfl rfl _ rfl rfl _ _ rfl Tryz.call24 [q0 v1,tS v2] rfl rfl (f24_ok v1 v2 hv3) rfl) ?_
 refine AOps.go [3,4,5,6,7] [] [] [0,6,7] 0 ⟨[(0,q0 v1),(6,tI v3.1),(7,tI v3.2)],[]⟩ ?_ z0 trivial ?_
 ·kernel_rfl
 refine AOps.nil ?_
 refine AWp.seq ?_
 refine AWp.seq ?_
 refine AWp.start [0,1] [] [] [0,6,7,15] 0 ⟨[(0,q0 v1),(6,tI v3.1),(7,tI v3.2),(15,tB (v3.2 != (0:Int)))],[]⟩ rfl ?_ z0 trivial ?_
 ·kernel_rfl
 refine AOps.nil ?_
 refine AWp.cond rfl (fun hb=>?_) fun hb=>?_
 ·replace h:=of_true h hb
  refine AWp.keepTo [7] 0 ⟨[(7,tI v3.2)],[]⟩ ?_ z0 ?_
  ·kernel_rfl
  refine AWp.seq ?_
  refine AWp.start [0,1,2] [] [] [4,5] 0 ⟨[(4,.tv (.sc (.slice none 0 0))),(5,tI v3.2)],[]⟩ rfl ?_ z0 trivial ?_
  ·kernel_rfl
  refine AOps.nil ?_
  refine AWp.nilFz 4 3 (fun i=>c86 (([]:List T86).getD i default)) rfl ?_
  refine AWp.keepTo [4,5] 0 ⟨[(4,q1 ([]:List T86)),(5,tI v3.2)],[]⟩ ?_ z0 ?_
  ·kernel_rfl
  refine AWp.ret ?_
  cases h
  exact ⟨.inr rfl,rfl⟩
 ·replace h:=of_false h hb
  refine AWp.keepTo [0,6] 0 ⟨[(0,q0 v1),(6,tI v3.1)],[]⟩ ?_ z0 ?_
  ·kernel_rfl
  refine AWp.skip ?_
  refine AWp.seq ?_
  refine AWp.start [0,1] [2,3,4] [] [17,18] 0 ⟨[(17,q0 v1),(18,tI v3.1)],[]⟩ rfl ?_ z0 trivial ?_
  ·kernel_rfl
  obtain ⟨v4,hv4,h⟩:=of_bind h
  refine AOps.cons (AOne.callP (F:=(FF 20 0)) _ rfl rfl rfl _ rfl rfl _ _ rfl Tryz.call28 [q0 v1,tI v3.1] rfl rfl (f28_ok v1 v3.1 hv4) rfl) ?_
  refine AOps.go [3,4] [] [] [4,5] 0 ⟨[(4,.tv (ownL 3 87 c86 v4)),(5,tI (0:Int))],[]⟩ ?_ z0 trivial ?_
  ·kernel_rfl
  refine AOps.nil ?_
  refine AWp.freezeL 4 c86 v4 rfl (fun _=>rfl) ?_
  refine AWp.keepTo [4,5] 0 ⟨[(4,q1 v4),(5,tI (0:Int))],[]⟩ ?_ z0 ?_
  ·kernel_rfl
  refine AWp.ret ?_
  cases h
  exact ⟨.inr rfl,rfl⟩

noncomputable def f13_b1 (v1:List T86) (v2:List T86) (v3:Int):Option (Int ⊕ Out Bool Unit) :=
 cond (decide (v3 < (v1.length:Int))) (if (0:Int) ≤ v3 ∧ v3 < (v1.length:Int) ∧ (0:Int) ≤ v3 ∧ v3 < (v2.length:Int) then cond (!((((v1.getD v3.toNat default).f0) == ((v2.getD v3.toNat default).f0)) && ((((v1.getD v3.toNat default).f1) == ((v2.getD v3.toNat default).f1)) && (((v1.getD v3.toNat default).f2) == ((v2.getD v3.toNat default).f2))))) (some (.inr (.ret false))) (some (.inl (w64 (v3 + (1:Int))))) else none) (some (.inr (.go ())))

noncomputable def f13 (v1:List T86) (v2:List T86):Option Bool :=
 cond ((v1.length:Int) != (v2.length:Int)) (some false) ((iter (fun s=>f13_b1 v1 v2 s) (0:Int)).bind fun y=>match y with | .ret v4=>some v4 | .go _=>some true)

theorem f13_ok (v1:List T86) (v2:List T86) {r:Bool} (h:f13 v1 v2 = some r):ACall Tryz.prog 13 [.tv (fzL 3 c86 v1),.tv (fzL 3 c86 v2)] [] (.tv (.bool r)) []:=by
 refine ACall.of1 (FF 26 0) Tryz.func13 rfl Tryz.ntmps13 Tryz.results13 (zz rfl) rfl rfl ?_
 refine AWp.seq ?_
 refine AWp.start [0] [] [] [0,1] 0 ⟨[(0,q1 v1),(1,q1 v2)],[]⟩ rfl ?_ z0 trivial ?_
 ·kernel_rfl
 refine AOps.nil ?_
 refine AWp.seq ?_
 refine AWp.seq ?_
 refine AWp.start [0,1,2,3,4] [] [] [0,1,10] 0 ⟨[(0,q1 v1),(1,q1 v2),(10,tB ((v1.length:Int) != (v2.length:Int)))],[]⟩ rfl ?_ z0 trivial ?_
 ·kernel_rfl
 refine AOps.nil ?_
 refine AWp.cond rfl (fun hb=>?_) fun hb=>?_
 ·replace h:=of_true h hb
  refine AWp.keepTo [] 0 ⟨[],[]⟩ ?_ z0 ?_
  ·kernel_rfl
  refine AWp.seq ?_
  refine AWp.start [0] [] [] [4] 0 ⟨[(4,tB false)],[]⟩ rfl ?_ z0 trivial ?_
  ·kernel_rfl
  refine AOps.nil ?_
  refine AWp.ret ?_
  cases h
  exact ⟨.inr rfl,rfl⟩
 ·replace h:=of_false h hb
  refine AWp.keepTo [0,1] 0 ⟨[(0,q1 v1),(1,q1 v2)],[]⟩ ?_ z0 ?_
  ·kernel_rfl
  refine AWp.skip ?_
  refine AWp.seq ?_
  refine AWp.seq ?_
  refine AWp.start [0] [] [] [0,1,5] 0 ⟨[(0,q1 v1),(1,q1 v2),(5,tI (0:Int))],[]⟩ rfl ?_ z0 trivial ?_
  ·kernel_rfl
  refine AOps.nil ?_
  refine AWp.block ?_
  obtain ⟨y,hy,h⟩:=of_bind h
  refine AWp.mono (AWp.loop (S:=Int) (Y:=Out Bool Unit) (fun s=>⟨[(0,q1 v1),(1,q1 v2),(5,tI s)],[]⟩) (fun s=>f13_b1 v1 v2 s) (fun y e σ=>match y with | .ret r=>e = .ret ∧ σ = ⟨[(4,tB r)],[]⟩ | .go v=>e = .exit 0 ∧ σ = ⟨[],[]⟩) ?_ hy) ?_
  ·rintro v3 o h
   refine AWp.seq ?_
   refine AWp.seq ?_
   refine AWp.start [0,1,2,3] [] [] [0,1,5,14] 0 ⟨[(0,q1 v1),(1,q1 v2),(5,tI v3),(14,tB (decide (v3 < (v1.length:Int))))],[]⟩ rfl ?_ z0 trivial ?_
   ·kernel_rfl
   refine AOps.nil ?_
   refine AWp.cond rfl (fun hb=>?_) fun hb=>?_
   ·replace h:=of_true h hb
    refine AWp.keepTo [0,1,5] 0 ⟨[(0,q1 v1),(1,q1 v2),(5,tI v3)],[]⟩ ?_ z0 ?_
    ·kernel_rfl
    refine AWp.skip ?_
    refine AWp.seq ?_
    refine AWp.block ?_
    refine AWp.seq ?_
    refine AWp.draw FFm _ (n:=9) rfl (ls:=#[n1,n1,n1,n1,n1,n1,n1,n1,n1]) rfl ?_ (fun _ h=>h)
    obtain ⟨hg,h⟩:=of_guard h
    refine AAny.go (by kernel_rfl) [0,1,2,3,4,5,6,7,8] (fuel':=0) rfl [(0:Int) ≤ v3,v3 < (v1.length:Int),(0:Int) ≤ v3,v3 < (v2.length:Int)] #[y1,y1,y1,y1,y1,y1,y1,y1,y1] [0,1,5,25] 0 ⟨[(0,q1 v1),(1,q1 v2),(5,tI v3),(25,tB (!((((gD v1 v3).f0) == ((gD v2 v3).f0)) && ((((gD v1 v3).f1) == ((gD v2 v3).f1)) && (((gD v1 v3).f2) == ((gD v2 v3).f2))))))],[]⟩ ?_ z0 ⟨hg.1,hg.2.1,hg.2.2.1,hg.2.2.2⟩ ?_
    ·kernel_rfl
    refine AAny.keepTo [0,1,5,25] 0 ⟨[(0,q1 v1),(1,q1 v2),(5,tI v3),(25,tB (!((((gD v1 v3).f0) == ((gD v2 v3).f0)) && ((((gD v1 v3).f1) == ((gD v2 v3).f1)) && (((gD v1 v3).f2) == ((gD v2 v3).f2))))))],[]⟩ _ ?_ rfl z0 (AAny.done (by kernel_rfl) ?_)
    ·kernel_rfl
    refine AWp.cond rfl (fun hb=>?_) fun hb=>?_
    ·replace h:=of_true h hb
     refine AWp.keepTo [] 0 ⟨[],[]⟩ ?_ z0 ?_
     ·kernel_rfl
     refine AWp.seq ?_
     refine AWp.start [0] [] [] [4] 0 ⟨[(4,tB false)],[]⟩ rfl ?_ z0 trivial ?_
     ·kernel_rfl
     refine AOps.nil ?_
     refine AWp.ret ?_
     cases h
     exact Or.inr ⟨_,rfl,by simp,rfl,rfl⟩
    ·replace h:=of_false h hb
     refine AWp.keepTo [0,1,5] 0 ⟨[(0,q1 v1),(1,q1 v2),(5,tI v3)],[]⟩ ?_ z0 ?_
     ·kernel_rfl
     refine AWp.skip ?_
     refine AWp.start [0,1,2] [] [] [0,1,5] 0 ⟨[(0,q1 v1),(1,q1 v2),(5,tI (w64 (v3 + (1:Int))))],[]⟩ rfl ?_ z0 trivial ?_
     ·kernel_rfl
     refine AOps.nil ?_
     cases h
     exact Or.inl ⟨_,rfl,rfl,rfl⟩
   ·replace h:=of_false h hb
    refine AWp.keepTo [] 0 ⟨[],[]⟩ ?_ z0 ?_
    ·kernel_rfl
    refine AWp.exit ?_
    cases h
    exact Or.inr ⟨_,rfl,by simp,rfl,rfl⟩
  ·intro e σ hp
   rcases y with v4 | _
   ·obtain ⟨rfl,rfl⟩:=hp
    cases h
    exact ⟨.inr rfl,rfl⟩
   ·obtain ⟨rfl,rfl⟩:=hp
    refine AWp.seq ?_
    refine AWp.start [0] [] [] [4] 0 ⟨[(4,tB true)],[]⟩ rfl ?_ z0 trivial ?_
    ·kernel_rfl
    refine AOps.nil ?_
    refine AWp.ret ?_
    cases h
    exact ⟨.inr rfl,rfl⟩

noncomputable def f55_b1 (v1:List Int) (v2:Int) (v3:Int):Option (Int ⊕ Out Int Unit) :=
 cond (decide (v3 < (v1.length:Int))) (if (0:Int) ≤ v3 ∧ v3 < (v1.length:Int) then cond (v2 == v1.getD v3.toNat default) (some (.inr (.ret v3))) (some (.inl (w64 (v3 + (1:Int))))) else none) (some (.inr (.go ())))

noncomputable def f55 (v1:List Int) (v2:Int):Option Int :=
 (iter (fun s=>f55_b1 v1 v2 s) (0:Int)).bind fun y=>match y with | .ret v4=>some v4 | .go _=>some (-1:Int)

theorem f55_ok (v1:List Int) (v2:Int) {r:Int} (h:f55 v1 v2 = some r):ACall Tryz.prog 55 [.tv (fzL 1 (cInt .i64) v1),.tv (.int .i64 v2)] [] (.tv (.int .i64 r)) []:=by
 refine ACall.of1 (FF 19 0) Tryz.func55 rfl Tryz.ntmps55 Tryz.results55 (zz rfl) rfl rfl ?_
 refine AWp.seq ?_
 refine AWp.start [0] [] [] [0,1] 0 ⟨[(0,q3 v1),(1,tI v2)],[]⟩ rfl ?_ z0 trivial ?_
 ·kernel_rfl
 refine AOps.nil ?_
 refine AWp.seq ?_
 refine AWp.seq ?_
 refine AWp.start [0,1,2] [] [] [0,1,7,8] 0 ⟨[(0,q3 v1),(1,tI v2),(7,tI (v1.length:Int)),(8,tI (0:Int))],[]⟩ rfl ?_ z0 trivial ?_
 ·kernel_rfl
 refine AOps.nil ?_
 refine AWp.block ?_
 obtain ⟨y,hy,h⟩:=of_bind h
 refine AWp.mono (AWp.loop (S:=Int) (Y:=Out Int Unit) (fun s=>⟨[(0,q3 v1),(1,tI v2),(7,tI (v1.length:Int)),(8,tI s)],[]⟩) (fun s=>f55_b1 v1 v2 s) (fun y e σ=>match y with | .ret r=>e = .ret ∧ σ = ⟨[(4,tI r)],[]⟩ | .go v=>e = .exit 0 ∧ σ = ⟨[],[]⟩) ?_ hy) ?_
 ·rintro v3 o h
  refine AWp.seq ?_
  refine AWp.start [0] [] [] [0,1,7,8,9] 0 ⟨[(0,q3 v1),(1,tI v2),(7,tI (v1.length:Int)),(8,tI v3),(9,tB (decide (v3 < (v1.length:Int))))],[]⟩ rfl ?_ z0 trivial ?_
  ·kernel_rfl
  refine AOps.nil ?_
  refine AWp.seq ?_
  refine AWp.cond rfl (fun hb=>?_) fun hb=>?_
  ·replace h:=of_true h hb
   refine AWp.keepTo [0,1,7,8] 0 ⟨[(0,q3 v1),(1,tI v2),(7,tI (v1.length:Int)),(8,tI v3)],[]⟩ ?_ z0 ?_
   ·kernel_rfl
   refine AWp.skip ?_
   refine AWp.seq ?_
   refine AWp.block ?_
   refine AWp.seq ?_
   refine AWp.start [0,1] [] [] [0,1,5,7,8] 0 ⟨[(0,q3 v1),(1,tI v2),(5,tI v3),(7,tI (v1.length:Int)),(8,tI v3)],[]⟩ rfl ?_ z0 trivial ?_
   ·kernel_rfl
   refine AOps.nil ?_
   refine AWp.seq ?_
   obtain ⟨hg,h⟩:=of_guard h
   refine AWp.start [0,1,2,3,4,5] [] [(0:Int) ≤ v3,v3 < (v1.length:Int)] [0,1,5,7,8,16] 0 ⟨[(0,q3 v1),(1,tI v2),(5,tI v3),(7,tI (v1.length:Int)),(8,tI v3),(16,tB (v2 == gD v1 v3))],[]⟩ rfl ?_ z0 ⟨hg.1,hg.2⟩ ?_
   ·kernel_rfl
   refine AOps.nil ?_
   refine AWp.cond rfl (fun hb=>?_) fun hb=>?_
   ·replace h:=of_true h hb
    refine AWp.keepTo [5] 0 ⟨[(5,tI v3)],[]⟩ ?_ z0 ?_
    ·kernel_rfl
    refine AWp.seq ?_
    refine AWp.start [0,1] [] [] [4] 0 ⟨[(4,tI v3)],[]⟩ rfl ?_ z0 trivial ?_
    ·kernel_rfl
    refine AOps.nil ?_
    refine AWp.ret ?_
    cases h
    exact Or.inr ⟨_,rfl,by simp,rfl,rfl⟩
   ·replace h:=of_false h hb
    refine AWp.keepTo [0,1,7,8] 0 ⟨[(0,q3 v1),(1,tI v2),(7,tI (v1.length:Int)),(8,tI v3)],[]⟩ ?_ z0 ?_
    ·kernel_rfl
    refine AWp.skip ?_
    refine AWp.start [0,1] [] [] [0,1,7,8] 0 ⟨[(0,q3 v1),(1,tI v2),(7,tI (v1.length:Int)),(8,tI (w64 (v3 + (1:Int))))],[]⟩ rfl ?_ z0 trivial ?_
    ·kernel_rfl
    refine AOps.nil ?_
    cases h
    exact Or.inl ⟨_,rfl,rfl,rfl⟩
  ·replace h:=of_false h hb
   refine AWp.keepTo [] 0 ⟨[],[]⟩ ?_ z0 ?_
   ·kernel_rfl
   refine AWp.exit ?_
   cases h
   exact Or.inr ⟨_,rfl,by simp,rfl,rfl⟩
 ·intro e σ hp
  rcases y with v4 | _
  ·obtain ⟨rfl,rfl⟩:=hp
   cases h
   exact ⟨.inr rfl,rfl⟩
  ·obtain ⟨rfl,rfl⟩:=hp
   refine AWp.seq ?_
   refine AWp.start [0] [] [] [4] 0 ⟨[(4,tI (-1:Int))],[]⟩ rfl ?_ z0 trivial ?_
   ·kernel_rfl
   refine AOps.nil ?_
   refine AWp.ret ?_
   cases h
   exact ⟨.inr rfl,rfl⟩

noncomputable def f30 (v1:List Int) (v2:Int):Option Bool :=
 (f55 v1 v2).bind fun v3=>some (decide (v3 ≥ (0:Int)))

theorem f30_ok (v1:List Int) (v2:Int) {r:Bool} (h:f30 v1 v2 = some r):ACall Tryz.prog 30 [.tv (fzL 1 (cInt .i64) v1),.tv (.int .i64 v2)] [] (.tv (.bool r)) []:=by
 refine ACall.of1 (FF 9 0) Tryz.func30 rfl Tryz.ntmps30 Tryz.results30 (zz rfl) rfl rfl ?_
 refine AWp.seq ?_
 refine AWp.start [0] [] [] [0,1] 0 ⟨[(0,q3 v1),(1,tI v2)],[]⟩ rfl ?_ z0 trivial ?_
 ·kernel_rfl
 refine AOps.nil ?_
 refine AWp.seq ?_
 refine AWp.start [0,1] [2,3,4] [] [5,6] 0 ⟨[(5,q3 v1),(6,tI v2)],[]⟩ rfl ?_ z0 trivial ?_
 ·kernel_rfl
 obtain ⟨v3,hv3,h⟩:=of_bind h
 refine AOps.cons (AOne.callP (F:=(FF 9 0)) _ rfl rfl rfl _ rfl rfl _ _ rfl Tryz.call55 [q3 v1,tI v2] rfl rfl (f55_ok v1 v2 hv3) rfl) ?_
 refine AOps.go [3,4] [] [] [4] 0 ⟨[(4,tB (decide (v3 ≥ (0:Int))))],[]⟩ ?_ z0 trivial ?_
 ·kernel_rfl
 refine AOps.nil ?_
 refine AWp.ret ?_
 cases h
 exact ⟨.inr rfl,rfl⟩

end Go.Sx.top
