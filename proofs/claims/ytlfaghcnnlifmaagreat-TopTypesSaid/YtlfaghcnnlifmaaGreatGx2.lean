/- Printed by program (wip/gen): plain functions and their walks; no condition. -/
import Derived.Test.YtlfaghcnnlifmaaGreatGx1
namespace Go.Sx.top
open Go Go.Sx Go.Proofs

abbrev hp14:List AObj:=[.dead,.dead,.cells 60 [.int .i64 (0:Int),nS,nS],.cells 3 [.int .i64 (1:Int)]]
abbrev hp15 (v1:T59):List AObj:=[.dead,.dead,.cells 60 [.int .i64 (0:Int),nS,nS],.cells 3 [.int .i64 (v1.f1.getD 0 default)]]
abbrev hp16:List AObj:=[.dead,.dead,.cells 60 [.int .i64 (0:Int),nS,nS],.cells 3 [.int .i64 (0:Int)],.cells 3 [.int .i64 (0:Int)]]

noncomputable def f78_j1 (v1:T59) (v2:T59) (v3:Int) (v9:Int) (v10:List Int):Option (T59 × Int) :=
 (f61 v10).bind fun v11=>cond (decide (v11 < (0:Int))) (some (T59.mk (0:Int) ([]:List Int) ([]:List Int),(30:Int))) ((f66_105 v3 v10 v9 v3 (v2.f1.getD 0 default) v1 v2).bind fun v12=>some (v12.1,v12.2))

noncomputable def f78_j2 (v1:T59) (v2:T59) (v3:Int) (v8:List Int) (v9:Int):Option (T59 × Int) :=
 cond ((v2.f1.length:Int) == (2:Int)) (if (1:Int) < (v2.f1.length:Int) then if (v8.length + [v2.f1.getD 1 default].length) * 8 ≤ 140737488355328 then f78_j1 v1 v2 v3 v9 (v8 ++ [v2.f1.getD 1 default]) else none else none) (f78_j1 v1 v2 v3 v9 v8)

noncomputable def f78 (v1:T59) (v2:T59):Option (T59 × Int) :=
 (f95 ([42]:List UInt8) v1.f0 v2.f0).bind fun v3=>cond (v3 == (0:Int)) (some (T59.mk (0:Int) ([]:List Int) ([]:List Int),(70:Int))) ((cond (decide ((v1.f1.length:Int) < (1:Int))) (some true) (some (decide ((v1.f1.length:Int) > (2:Int))))).bind fun v4=>(cond v4 (some true) (some (decide ((v2.f1.length:Int) < (1:Int))))).bind fun v5=>(cond v5 (some true) (some (decide ((v2.f1.length:Int) > (2:Int))))).bind fun v6=>(cond v6 (some true) (some (decide (w64 ((v1.f1.length:Int) + (v2.f1.length:Int)) < (3:Int))))).bind fun v7=>cond v7 (some (T59.mk (0:Int) ([]:List Int) ([]:List Int),(71:Int))) (if (0:Int) ≤ w64 ((v1.f1.length:Int) - (1:Int)) ∧ w64 ((v1.f1.length:Int) - (1:Int)) < (v1.f1.length:Int) ∧ (0:Int) < (v2.f1.length:Int) then cond (v1.f1.getD (Int.toNat (w64 ((v1.f1.length:Int) - (1:Int)))) default != v2.f1.getD 0 default) (some (T59.mk (0:Int) ([]:List Int) ([]:List Int),(30:Int))) (if (0:Int) < (v2.f1.length:Int) then cond ((v1.f1.length:Int) == (2:Int)) (if (0:Int) < (v1.f1.length:Int) then if (0 + [v1.f1.getD 0 default].length) * 8 ≤ 140737488355328 then f78_j2 v1 v2 v3 [v1.f1.getD 0 default] (v1.f1.getD 0 default) else none else none) (f78_j2 v1 v2 v3 [] (1:Int)) else none) else none))

theorem f78_ok (v1:T59) (v2:T59) {r:T59 × Int} (h:f78 v1 v2 = some r):ACall Tryz.prog 78 [.agg [.int .i64 v1.f0,fzL 1 (cInt .i64) v1.f1,fzL 1 (cInt .i64) v1.f2],.agg [.int .i64 v2.f0,fzL 1 (cInt .i64) v2.f1,fzL 1 (cInt .i64) v2.f2]] [] (.tup [.agg [.int .i64 r.1.f0,fzL 1 (cInt .i64) r.1.f1,fzL 1 (cInt .i64) r.1.f2],.tv (.int .i64 r.2)]) []:=by
 refine ACall.ofNc (FF 97 0) (rs:=[4,5]) (sv:=(.agg [.int .i64 r.1.f0,k0 r.1.f1,k0 r.1.f2])) (cells0:=[.int .i64 r.1.f0,k0 r.1.f1,k0 r.1.f2]) 4 60 (env0:=[(4,.rp [.int .i64 r.1.f0,k0 r.1.f1,k0 r.1.f2]),(5,tI r.2)]) (env:=[(4,.agg [.int .i64 r.1.f0,k0 r.1.f1,k0 r.1.f2]),(5,tI r.2)]) Tryz.func78 rfl Tryz.ntmps78 (by kernel_rfl) (by decide) (by decide) rfl (zz rfl) rfl rfl rfl (by kernel_rfl) rfl [4,5] 0 z0 rfl (get_ofN _ _ _ rfl) (ok_ofN _ rfl) ?_
 refine AWp.seq ?_
 refine AWp.start [0,1,2,3] [] [] [2,3,4] 3 ⟨[(2,.pc 0 0),(3,.pc 1 0),(4,.pc 2 0)],[.cells 60 [.int .i64 v1.f0,k0 v1.f1,k0 v1.f2],.cells 60 [.int .i64 v2.f0,k0 v2.f1,k0 v2.f2],.cells 60 [.int .i64 (0:Int),nS,nS]]⟩ rfl ?_ z0 trivial ?_
 ·kernel_rfl
 refine AOps.nil ?_
 refine AWp.seq ?_
 refine AWp.pin 0 rfl rfl ?_
 refine AWp.pin 1 rfl rfl ?_
 refine AWp.keepTo [2,3,4] 3 ⟨[(2,.rp [.int .i64 v1.f0,k0 v1.f1,k0 v1.f2]),(3,.rp [.int .i64 v2.f0,k0 v2.f1,k0 v2.f2]),(4,.pc 2 0)],[.dead,.dead,.cells 60 [.int .i64 (0:Int),nS,nS]]⟩ ?_ z0 ?_
 ·kernel_rfl
 refine AWp.start [0,1,2,3] [4,5,6] [] [2,3,4,14,16] 3 ⟨[(2,.rp [.int .i64 v1.f0,k0 v1.f1,k0 v1.f2]),(3,.rp [.int .i64 v2.f0,k0 v2.f1,k0 v2.f2]),(4,.pc 2 0),(14,tI v1.f0),(16,tI v2.f0)],[.dead,.dead,.cells 60 [.int .i64 (0:Int),nS,nS]]⟩ rfl ?_ z0 trivial ?_
 ·kernel_rfl
 obtain ⟨v3,hv3,h⟩:=of_bind h
 refine AOps.cons (AOne.callP (F:=(FF 97 0)) _ rfl rfl rfl _ rfl rfl _ _ rfl Tryz.call95 [tS ([42]:List UInt8),tI v1.f0,tI v2.f0] rfl rfl (f95_ok ([42]:List UInt8) v1.f0 v2.f0 hv3) rfl) ?_
 refine AOps.go [5,6] [] [] [2,3,4,6] 4 ⟨[(2,.rp [.int .i64 v1.f0,k0 v1.f1,k0 v1.f2]),(3,.rp [.int .i64 v2.f0,k0 v2.f1,k0 v2.f2]),(4,.pc 2 0),(6,.pc 3 0)],[.dead,.dead,.cells 60 [.int .i64 (0:Int),nS,nS],.cells 3 [.int .i64 v3]]⟩ ?_ z0 trivial ?_
 ·kernel_rfl
 refine AOps.nil ?_
 refine AWp.seq ?_
 refine AWp.pin 3 rfl rfl ?_
 refine AWp.keepTo [2,3,4,6] 3 ⟨[(2,.rp [.int .i64 v1.f0,k0 v1.f1,k0 v1.f2]),(3,.rp [.int .i64 v2.f0,k0 v2.f1,k0 v2.f2]),(4,.pc 2 0),(6,.rp [.int .i64 v3])],[.dead,.dead,.cells 60 [.int .i64 (0:Int),nS,nS]]⟩ ?_ z0 ?_
 ·kernel_rfl
 refine AWp.draw FFm _ (n:=8) rfl (ls:=#[n1,n1,n1,n1,n1,n1,n1,n1]) rfl ?_ (fun _ h=>h)
 refine AAny.go (by kernel_rfl) [0,1,2,3,4,5,6,7] (fuel':=0) rfl [] #[y1,y1,y1,y1,y1,y1,y1,y1] [2,3,4,6,7,8] 3 ⟨[(2,.rp [.int .i64 v1.f0,k0 v1.f1,k0 v1.f2]),(3,.rp [.int .i64 v2.f0,k0 v2.f1,k0 v2.f2]),(4,.pc 2 0),(6,.rp [.int .i64 v3]),(7,tI (v1.f1.length:Int)),(8,tI (v2.f1.length:Int))],[.dead,.dead,.cells 60 [.int .i64 (0:Int),nS,nS]]⟩ ?_ z0 trivial ?_
 ·kernel_rfl
 refine AAny.keepTo [2,3,4,6,7,8] 3 ⟨[(2,.rp [.int .i64 v1.f0,k0 v1.f1,k0 v1.f2]),(3,.rp [.int .i64 v2.f0,k0 v2.f1,k0 v2.f2]),(4,.pc 2 0),(6,.rp [.int .i64 v3]),(7,tI (v1.f1.length:Int)),(8,tI (v2.f1.length:Int))],[.dead,.dead,.cells 60 [.int .i64 (0:Int),nS,nS]]⟩ _ ?_ rfl z0 (AAny.done (by kernel_rfl) ?_)
 ·kernel_rfl
 refine AWp.seq ?_
 refine AWp.block ?_
 refine AWp.seq ?_
 refine AWp.start [0,1,2] [] [] [2,3,4,6,7,8,24] 3 ⟨[(2,.rp [.int .i64 v1.f0,k0 v1.f1,k0 v1.f2]),(3,.rp [.int .i64 v2.f0,k0 v2.f1,k0 v2.f2]),(4,.pc 2 0),(6,.rp [.int .i64 v3]),(7,tI (v1.f1.length:Int)),(8,tI (v2.f1.length:Int)),(24,tB (v3 == (0:Int)))],[.dead,.dead,.cells 60 [.int .i64 (0:Int),nS,nS]]⟩ rfl ?_ z0 trivial ?_
 ·kernel_rfl
 refine AOps.nil ?_
 refine AWp.cond rfl (fun hb=>?_) fun hb=>?_
 ·replace h:=of_true h hb
  refine AWp.keepTo [4] 3 ⟨[(4,.pc 2 0)],[.dead,.dead,.cells 60 [.int .i64 (0:Int),nS,nS]]⟩ ?_ z0 ?_
  ·kernel_rfl
  refine AWp.seq ?_
  refine AWp.start [0,1,2] [] [] [4,5] 3 ⟨[(4,.pc 2 0),(5,tI (70:Int))],[.dead,.dead,.cells 60 [.int .i64 (0:Int),nS,nS]]⟩ rfl ?_ z0 trivial ?_
  ·kernel_rfl
  refine AOps.nil ?_
  refine AWp.retell 2 1 rfl (.nilFz 1 (fun i=>(cInt .i64) (([]:List Int).getD i default))) ?_
  refine AWp.retell 2 2 rfl (.nilFz 1 (fun i=>(cInt .i64) (([]:List Int).getD i default))) ?_
  refine AWp.pin 2 rfl rfl ?_
  refine AWp.keepTo [4,5] 0 ⟨[(4,.rp [.int .i64 (0:Int),k0 ([]:List Int),k0 ([]:List Int)]),(5,tI (70:Int))],[]⟩ ?_ z0 ?_
  ·kernel_rfl
  refine AWp.ret ?_
  cases h
  exact ⟨.inr rfl,rfl⟩
 ·replace h:=of_false h hb
  refine AWp.keepTo [2,3,4,6,7,8] 3 ⟨[(2,.rp [.int .i64 v1.f0,k0 v1.f1,k0 v1.f2]),(3,.rp [.int .i64 v2.f0,k0 v2.f1,k0 v2.f2]),(4,.pc 2 0),(6,.rp [.int .i64 v3]),(7,tI (v1.f1.length:Int)),(8,tI (v2.f1.length:Int))],[.dead,.dead,.cells 60 [.int .i64 (0:Int),nS,nS]]⟩ ?_ z0 ?_
  ·kernel_rfl
  refine AWp.seq ?_
  refine AWp.start [0,1,2] [3,4,5,6,7,8,9,10,11,12,13,14,15,16,17,18,19,20] [] [2,3,4,6,7,8,31] 3 ⟨[(2,.rp [.int .i64 v1.f0,k0 v1.f1,k0 v1.f2]),(3,.rp [.int .i64 v2.f0,k0 v2.f1,k0 v2.f2]),(4,.pc 2 0),(6,.rp [.int .i64 v3]),(7,tI (v1.f1.length:Int)),(8,tI (v2.f1.length:Int)),(31,tB (decide ((v1.f1.length:Int) < (1:Int))))],[.dead,.dead,.cells 60 [.int .i64 (0:Int),nS,nS]]⟩ rfl ?_ z0 trivial ?_
  ·kernel_rfl
  obtain ⟨v4,hc3,h⟩:=of_bind h
  refine AOps.cut [3,4,5] [6,7,8,9,10,11,12,13,14,15,16,17,18,19,20] (fun σ=>σ = ⟨[(2,.rp [.int .i64 v1.f0,k0 v1.f1,k0 v1.f2]),(3,.rp [.int .i64 v2.f0,k0 v2.f1,k0 v2.f2]),(4,.pc 2 0),(6,.rp [.int .i64 v3]),(7,tI (v1.f1.length:Int)),(8,tI (v2.f1.length:Int)),(34,tB v4)],[.dead,.dead,.cells 60 [.int .i64 (0:Int),nS,nS]]⟩) ?_ fun σ' hJ=>?_
  ·refine AOps.split (fun b=>⟨[(2,.rp [.int .i64 v1.f0,k0 v1.f1,k0 v1.f2]),(3,.rp [.int .i64 v2.f0,k0 v2.f1,k0 v2.f2]),(4,.pc 2 0),(6,.rp [.int .i64 v3]),(7,tI (v1.f1.length:Int)),(8,tI (v2.f1.length:Int)),(31,tB b)],[.dead,.dead,.cells 60 [.int .i64 (0:Int),nS,nS]]⟩) _ (fun hb=>?_) fun hb=>?_
   ·replace hc3:=of_true hc3 hb
    refine AOps.go [3,4,5] [] [] [2,3,4,6,7,8,34] 3 ⟨[(2,.rp [.int .i64 v1.f0,k0 v1.f1,k0 v1.f2]),(3,.rp [.int .i64 v2.f0,k0 v2.f1,k0 v2.f2]),(4,.pc 2 0),(6,.rp [.int .i64 v3]),(7,tI (v1.f1.length:Int)),(8,tI (v2.f1.length:Int)),(34,tB true)],[.dead,.dead,.cells 60 [.int .i64 (0:Int),nS,nS]]⟩ ?_ z0 trivial ?_
    ·kernel_rfl
    cases hc3
    exact AOps.nil rfl
   ·replace hc3:=of_false hc3 hb
    refine AOps.go [3,4,5] [] [] [2,3,4,6,7,8,34] 3 ⟨[(2,.rp [.int .i64 v1.f0,k0 v1.f1,k0 v1.f2]),(3,.rp [.int .i64 v2.f0,k0 v2.f1,k0 v2.f2]),(4,.pc 2 0),(6,.rp [.int .i64 v3]),(7,tI (v1.f1.length:Int)),(8,tI (v2.f1.length:Int)),(34,tB (decide ((v1.f1.length:Int) > (2:Int))))],[.dead,.dead,.cells 60 [.int .i64 (0:Int),nS,nS]]⟩ ?_ z0 trivial ?_
    ·kernel_rfl
    cases hc3
    exact AOps.nil rfl
  subst hJ
  refine AOps.go [6] [7,8,9,10,11,12,13,14,15,16,17,18,19,20] [] [2,3,4,6,7,8,35] 3 ⟨[(2,.rp [.int .i64 v1.f0,k0 v1.f1,k0 v1.f2]),(3,.rp [.int .i64 v2.f0,k0 v2.f1,k0 v2.f2]),(4,.pc 2 0),(6,.rp [.int .i64 v3]),(7,tI (v1.f1.length:Int)),(8,tI (v2.f1.length:Int)),(35,tB v4)],[.dead,.dead,.cells 60 [.int .i64 (0:Int),nS,nS]]⟩ ?_ z0 trivial ?_
  ·kernel_rfl
  obtain ⟨v5,hc7,h⟩:=of_bind h
  refine AOps.cut [7,8,9] [10,11,12,13,14,15,16,17,18,19,20] (fun σ=>σ = ⟨[(2,.rp [.int .i64 v1.f0,k0 v1.f1,k0 v1.f2]),(3,.rp [.int .i64 v2.f0,k0 v2.f1,k0 v2.f2]),(4,.pc 2 0),(6,.rp [.int .i64 v3]),(7,tI (v1.f1.length:Int)),(8,tI (v2.f1.length:Int)),(38,tB v5)],[.dead,.dead,.cells 60 [.int .i64 (0:Int),nS,nS]]⟩) ?_ fun σ' hJ=>?_
  ·refine AOps.split (fun b=>⟨[(2,.rp [.int .i64 v1.f0,k0 v1.f1,k0 v1.f2]),(3,.rp [.int .i64 v2.f0,k0 v2.f1,k0 v2.f2]),(4,.pc 2 0),(6,.rp [.int .i64 v3]),(7,tI (v1.f1.length:Int)),(8,tI (v2.f1.length:Int)),(35,tB b)],[.dead,.dead,.cells 60 [.int .i64 (0:Int),nS,nS]]⟩) _ (fun hb=>?_) fun hb=>?_
   ·replace hc7:=of_true hc7 hb
    refine AOps.go [7,8,9] [] [] [2,3,4,6,7,8,38] 3 ⟨[(2,.rp [.int .i64 v1.f0,k0 v1.f1,k0 v1.f2]),(3,.rp [.int .i64 v2.f0,k0 v2.f1,k0 v2.f2]),(4,.pc 2 0),(6,.rp [.int .i64 v3]),(7,tI (v1.f1.length:Int)),(8,tI (v2.f1.length:Int)),(38,tB true)],[.dead,.dead,.cells 60 [.int .i64 (0:Int),nS,nS]]⟩ ?_ z0 trivial ?_
    ·kernel_rfl
    cases hc7
    exact AOps.nil rfl
   ·replace hc7:=of_false hc7 hb
    refine AOps.go [7,8,9] [] [] [2,3,4,6,7,8,38] 3 ⟨[(2,.rp [.int .i64 v1.f0,k0 v1.f1,k0 v1.f2]),(3,.rp [.int .i64 v2.f0,k0 v2.f1,k0 v2.f2]),(4,.pc 2 0),(6,.rp [.int .i64 v3]),(7,tI (v1.f1.length:Int)),(8,tI (v2.f1.length:Int)),(38,tB (decide ((v2.f1.length:Int) < (1:Int))))],[.dead,.dead,.cells 60 [.int .i64 (0:Int),nS,nS]]⟩ ?_ z0 trivial ?_
    ·kernel_rfl
    cases hc7
    exact AOps.nil rfl
  subst hJ
  refine AOps.go [10] [11,12,13,14,15,16,17,18,19,20] [] [2,3,4,6,7,8,39] 3 ⟨[(2,.rp [.int .i64 v1.f0,k0 v1.f1,k0 v1.f2]),(3,.rp [.int .i64 v2.f0,k0 v2.f1,k0 v2.f2]),(4,.pc 2 0),(6,.rp [.int .i64 v3]),(7,tI (v1.f1.length:Int)),(8,tI (v2.f1.length:Int)),(39,tB v5)],[.dead,.dead,.cells 60 [.int .i64 (0:Int),nS,nS]]⟩ ?_ z0 trivial ?_
  ·kernel_rfl
  obtain ⟨v6,hc11,h⟩:=of_bind h
  refine AOps.cut [11,12,13] [14,15,16,17,18,19,20] (fun σ=>σ = ⟨[(2,.rp [.int .i64 v1.f0,k0 v1.f1,k0 v1.f2]),(3,.rp [.int .i64 v2.f0,k0 v2.f1,k0 v2.f2]),(4,.pc 2 0),(6,.rp [.int .i64 v3]),(7,tI (v1.f1.length:Int)),(8,tI (v2.f1.length:Int)),(42,tB v6)],[.dead,.dead,.cells 60 [.int .i64 (0:Int),nS,nS]]⟩) ?_ fun σ' hJ=>?_
  ·refine AOps.split (fun b=>⟨[(2,.rp [.int .i64 v1.f0,k0 v1.f1,k0 v1.f2]),(3,.rp [.int .i64 v2.f0,k0 v2.f1,k0 v2.f2]),(4,.pc 2 0),(6,.rp [.int .i64 v3]),(7,tI (v1.f1.length:Int)),(8,tI (v2.f1.length:Int)),(39,tB b)],[.dead,.dead,.cells 60 [.int .i64 (0:Int),nS,nS]]⟩) _ (fun hb=>?_) fun hb=>?_
   ·replace hc11:=of_true hc11 hb
    refine AOps.go [11,12,13] [] [] [2,3,4,6,7,8,42] 3 ⟨[(2,.rp [.int .i64 v1.f0,k0 v1.f1,k0 v1.f2]),(3,.rp [.int .i64 v2.f0,k0 v2.f1,k0 v2.f2]),(4,.pc 2 0),(6,.rp [.int .i64 v3]),(7,tI (v1.f1.length:Int)),(8,tI (v2.f1.length:Int)),(42,tB true)],[.dead,.dead,.cells 60 [.int .i64 (0:Int),nS,nS]]⟩ ?_ z0 trivial ?_
    ·kernel_rfl
    cases hc11
    exact AOps.nil rfl
   ·replace hc11:=of_false hc11 hb
    refine AOps.go [11,12,13] [] [] [2,3,4,6,7,8,42] 3 ⟨[(2,.rp [.int .i64 v1.f0,k0 v1.f1,k0 v1.f2]),(3,.rp [.int .i64 v2.f0,k0 v2.f1,k0 v2.f2]),(4,.pc 2 0),(6,.rp [.int .i64 v3]),(7,tI (v1.f1.length:Int)),(8,tI (v2.f1.length:Int)),(42,tB (decide ((v2.f1.length:Int) > (2:Int))))],[.dead,.dead,.cells 60 [.int .i64 (0:Int),nS,nS]]⟩ ?_ z0 trivial ?_
    ·kernel_rfl
    cases hc11
    exact AOps.nil rfl
  subst hJ
  refine AOps.go [14] [15,16,17,18,19,20] [] [2,3,4,6,7,8,43] 3 ⟨[(2,.rp [.int .i64 v1.f0,k0 v1.f1,k0 v1.f2]),(3,.rp [.int .i64 v2.f0,k0 v2.f1,k0 v2.f2]),(4,.pc 2 0),(6,.rp [.int .i64 v3]),(7,tI (v1.f1.length:Int)),(8,tI (v2.f1.length:Int)),(43,tB v6)],[.dead,.dead,.cells 60 [.int .i64 (0:Int),nS,nS]]⟩ ?_ z0 trivial ?_
  ·kernel_rfl
  obtain ⟨v7,hc15,h⟩:=of_bind h
  refine AOps.cut [15,16,17,18,19] [20] (fun σ=>σ = ⟨[(2,.rp [.int .i64 v1.f0,k0 v1.f1,k0 v1.f2]),(3,.rp [.int .i64 v2.f0,k0 v2.f1,k0 v2.f2]),(4,.pc 2 0),(6,.rp [.int .i64 v3]),(7,tI (v1.f1.length:Int)),(8,tI (v2.f1.length:Int)),(48,tB v7)],[.dead,.dead,.cells 60 [.int .i64 (0:Int),nS,nS]]⟩) ?_ fun σ' hJ=>?_
  ·refine AOps.split (fun b=>⟨[(2,.rp [.int .i64 v1.f0,k0 v1.f1,k0 v1.f2]),(3,.rp [.int .i64 v2.f0,k0 v2.f1,k0 v2.f2]),(4,.pc 2 0),(6,.rp [.int .i64 v3]),(7,tI (v1.f1.length:Int)),(8,tI (v2.f1.length:Int)),(43,tB b)],[.dead,.dead,.cells 60 [.int .i64 (0:Int),nS,nS]]⟩) _ (fun hb=>?_) fun hb=>?_
   ·replace hc15:=of_true hc15 hb
    refine AOps.go [15,16,17,18,19] [] [] [2,3,4,6,7,8,48] 3 ⟨[(2,.rp [.int .i64 v1.f0,k0 v1.f1,k0 v1.f2]),(3,.rp [.int .i64 v2.f0,k0 v2.f1,k0 v2.f2]),(4,.pc 2 0),(6,.rp [.int .i64 v3]),(7,tI (v1.f1.length:Int)),(8,tI (v2.f1.length:Int)),(48,tB true)],[.dead,.dead,.cells 60 [.int .i64 (0:Int),nS,nS]]⟩ ?_ z0 trivial ?_
    ·kernel_rfl
    cases hc15
    exact AOps.nil rfl
   ·replace hc15:=of_false hc15 hb
    refine AOps.go [15,16,17,18,19] [] [] [2,3,4,6,7,8,48] 3 ⟨[(2,.rp [.int .i64 v1.f0,k0 v1.f1,k0 v1.f2]),(3,.rp [.int .i64 v2.f0,k0 v2.f1,k0 v2.f2]),(4,.pc 2 0),(6,.rp [.int .i64 v3]),(7,tI (v1.f1.length:Int)),(8,tI (v2.f1.length:Int)),(48,tB (decide (w64 ((v1.f1.length:Int) + (v2.f1.length:Int)) < (3:Int))))],[.dead,.dead,.cells 60 [.int .i64 (0:Int),nS,nS]]⟩ ?_ z0 trivial ?_
    ·kernel_rfl
    cases hc15
    exact AOps.nil rfl
  subst hJ
  refine AOps.go [20] [] [] [2,3,4,6,7,8,28] 3 ⟨[(2,.rp [.int .i64 v1.f0,k0 v1.f1,k0 v1.f2]),(3,.rp [.int .i64 v2.f0,k0 v2.f1,k0 v2.f2]),(4,.pc 2 0),(6,.rp [.int .i64 v3]),(7,tI (v1.f1.length:Int)),(8,tI (v2.f1.length:Int)),(28,tB v7)],[.dead,.dead,.cells 60 [.int .i64 (0:Int),nS,nS]]⟩ ?_ z0 trivial ?_
  ·kernel_rfl
  refine AOps.nil ?_
  refine AWp.cond rfl (fun hb=>?_) fun hb=>?_
  ·replace h:=of_true h hb
   refine AWp.keepTo [4] 3 ⟨[(4,.pc 2 0)],[.dead,.dead,.cells 60 [.int .i64 (0:Int),nS,nS]]⟩ ?_ z0 ?_
   ·kernel_rfl
   refine AWp.seq ?_
   refine AWp.start [0,1,2] [] [] [4,5] 3 ⟨[(4,.pc 2 0),(5,tI (71:Int))],[.dead,.dead,.cells 60 [.int .i64 (0:Int),nS,nS]]⟩ rfl ?_ z0 trivial ?_
   ·kernel_rfl
   refine AOps.nil ?_
   refine AWp.retell 2 1 rfl (.nilFz 1 (fun i=>(cInt .i64) (([]:List Int).getD i default))) ?_
   refine AWp.retell 2 2 rfl (.nilFz 1 (fun i=>(cInt .i64) (([]:List Int).getD i default))) ?_
   refine AWp.pin 2 rfl rfl ?_
   refine AWp.keepTo [4,5] 0 ⟨[(4,.rp [.int .i64 (0:Int),k0 ([]:List Int),k0 ([]:List Int)]),(5,tI (71:Int))],[]⟩ ?_ z0 ?_
   ·kernel_rfl
   refine AWp.ret ?_
   cases h
   exact ⟨.inr rfl,rfl⟩
  ·replace h:=of_false h hb
   refine AWp.keepTo [2,3,4,6,7,8] 3 ⟨[(2,.rp [.int .i64 v1.f0,k0 v1.f1,k0 v1.f2]),(3,.rp [.int .i64 v2.f0,k0 v2.f1,k0 v2.f2]),(4,.pc 2 0),(6,.rp [.int .i64 v3]),(7,tI (v1.f1.length:Int)),(8,tI (v2.f1.length:Int))],[.dead,.dead,.cells 60 [.int .i64 (0:Int),nS,nS]]⟩ ?_ z0 ?_
   ·kernel_rfl
   refine AWp.seq ?_
   refine AWp.draw FFm _ (n:=12) rfl (ls:=#[n1,n1,n1,n1,n1,n1,n1,n1,n1,n1,n1,n1]) rfl ?_ (fun _ h=>h)
   obtain ⟨hg,h⟩:=of_guard h
   refine AAny.go (by kernel_rfl) [0,1,2,3,4,5,6,7,8,9,10,11] (fuel':=0) rfl [(0:Int) ≤ w64 ((v1.f1.length:Int) - (1:Int)),w64 ((v1.f1.length:Int) - (1:Int)) < (v1.f1.length:Int),(0:Int) ≤ (0:Int),(0:Int) < (v2.f1.length:Int)] #[y1,y1,y1,y1,y1,y1,y1,y1,y1,y1,y1,y1] [2,3,4,6,7,8,50] 3 ⟨[(2,.rp [.int .i64 v1.f0,k0 v1.f1,k0 v1.f2]),(3,.rp [.int .i64 v2.f0,k0 v2.f1,k0 v2.f2]),(4,.pc 2 0),(6,.rp [.int .i64 v3]),(7,tI (v1.f1.length:Int)),(8,tI (v2.f1.length:Int)),(50,tB (v1.f1.getD (Int.toNat (w64 ((v1.f1.length:Int) - (1:Int)))) default != v2.f1.getD 0 default))],[.dead,.dead,.cells 60 [.int .i64 (0:Int),nS,nS]]⟩ ?_ z0 ⟨hg.1,hg.2.1,(by decide:(0:Int) ≤ (0:Int)),hg.2.2⟩ ?_
   ·kernel_rfl
   refine AAny.keepTo [2,3,4,6,7,8,50] 3 ⟨[(2,.rp [.int .i64 v1.f0,k0 v1.f1,k0 v1.f2]),(3,.rp [.int .i64 v2.f0,k0 v2.f1,k0 v2.f2]),(4,.pc 2 0),(6,.rp [.int .i64 v3]),(7,tI (v1.f1.length:Int)),(8,tI (v2.f1.length:Int)),(50,tB (v1.f1.getD (Int.toNat (w64 ((v1.f1.length:Int) - (1:Int)))) default != v2.f1.getD 0 default))],[.dead,.dead,.cells 60 [.int .i64 (0:Int),nS,nS]]⟩ _ ?_ rfl z0 (AAny.done (by kernel_rfl) ?_)
   ·kernel_rfl
   refine AWp.cond rfl (fun hb=>?_) fun hb=>?_
   ·replace h:=of_true h hb
    refine AWp.keepTo [4] 3 ⟨[(4,.pc 2 0)],[.dead,.dead,.cells 60 [.int .i64 (0:Int),nS,nS]]⟩ ?_ z0 ?_
    ·kernel_rfl
    refine AWp.seq ?_
    refine AWp.start [0,1,2] [] [] [4,5] 3 ⟨[(4,.pc 2 0),(5,tI (30:Int))],[.dead,.dead,.cells 60 [.int .i64 (0:Int),nS,nS]]⟩ rfl ?_ z0 trivial ?_
    ·kernel_rfl
    refine AOps.nil ?_
    refine AWp.retell 2 1 rfl (.nilFz 1 (fun i=>(cInt .i64) (([]:List Int).getD i default))) ?_
    refine AWp.retell 2 2 rfl (.nilFz 1 (fun i=>(cInt .i64) (([]:List Int).getD i default))) ?_
    refine AWp.pin 2 rfl rfl ?_
    refine AWp.keepTo [4,5] 0 ⟨[(4,.rp [.int .i64 (0:Int),k0 ([]:List Int),k0 ([]:List Int)]),(5,tI (30:Int))],[]⟩ ?_ z0 ?_
    ·kernel_rfl
    refine AWp.ret ?_
    cases h
    exact ⟨.inr rfl,rfl⟩
   ·replace h:=of_false h hb
    refine AWp.keepTo [2,3,4,6,7,8] 3 ⟨[(2,.rp [.int .i64 v1.f0,k0 v1.f1,k0 v1.f2]),(3,.rp [.int .i64 v2.f0,k0 v2.f1,k0 v2.f2]),(4,.pc 2 0),(6,.rp [.int .i64 v3]),(7,tI (v1.f1.length:Int)),(8,tI (v2.f1.length:Int))],[.dead,.dead,.cells 60 [.int .i64 (0:Int),nS,nS]]⟩ ?_ z0 ?_
    ·kernel_rfl
    refine AWp.skip ?_
    refine AWp.seq ?_
    refine AWp.draw FFm _ (n:=9) rfl (ls:=#[n1,n1,n1,n1,n1,n1,n1,n1,n1]) rfl ?_ (fun _ h=>h)
    obtain ⟨hg,h⟩:=of_guard h
    refine AAny.go (by kernel_rfl) [0,1,2,3] (fuel':=5) rfl [(0:Int) ≤ (0:Int),(0:Int) < (v2.f1.length:Int)] #[y1,y1,y1,y1,n1,n1,n1,n1,n1] [2,3,4,6,7,8,66] 3 ⟨[(2,.rp [.int .i64 v1.f0,k0 v1.f1,k0 v1.f2]),(3,.rp [.int .i64 v2.f0,k0 v2.f1,k0 v2.f2]),(4,.pc 2 0),(6,.rp [.int .i64 v3]),(7,tI (v1.f1.length:Int)),(8,tI (v2.f1.length:Int)),(66,tI (v2.f1.getD 0 default))],[.dead,.dead,.cells 60 [.int .i64 (0:Int),nS,nS]]⟩ ?_ z0 ⟨(by decide:(0:Int) ≤ (0:Int)),hg⟩ ?_
    ·kernel_rfl
    refine AAny.share 3 #[y1,y1,y1,y1,y1,y1,n1,n1,n1] ⟨[(2,.rp [.int .i64 v1.f0,k0 v1.f1,k0 v1.f2]),(3,.rp [.int .i64 v2.f0,k0 v2.f1,k0 v2.f2]),(4,.pc 2 0),(6,.rp [.int .i64 v3]),(7,tI (v1.f1.length:Int)),(8,tI (v2.f1.length:Int)),(9,.pc 3 0),(11,.pc 4 0),(66,tI (v2.f1.getD 0 default))],hp16⟩ ?_ fun n3_=>?_
    ·refine AAny.step (i:=6) (fuel':=2) rfl (by kernel_rfl) [] #[y1,y1,y1,y1,y1,y1,y1,n1,n1] rfl [2,3,4,6,7,8,9,11,66] 5 ⟨[(2,.rp [.int .i64 v1.f0,k0 v1.f1,k0 v1.f2]),(3,.rp [.int .i64 v2.f0,k0 v2.f1,k0 v2.f2]),(4,.pc 2 0),(6,.rp [.int .i64 v3]),(7,tI (v1.f1.length:Int)),(8,tI (v2.f1.length:Int)),(9,.pc 3 0),(11,.pc 4 0),(66,tI (v2.f1.getD 0 default))],[.dead,.dead,.cells 60 [.int .i64 (0:Int),nS,nS],.cells 3 [.int .i64 (1:Int)],.cells 3 [.int .i64 (0:Int)]]⟩ ?_ z0 trivial ?_
     ·kernel_rfl
     refine AAny.go (by kernel_rfl) [7] (fuel':=1) rfl [] #[y1,y1,y1,y1,y1,y1,y1,y1,n1] [2,3,4,6,7,8,9,11,66] 5 ⟨[(2,.rp [.int .i64 v1.f0,k0 v1.f1,k0 v1.f2]),(3,.rp [.int .i64 v2.f0,k0 v2.f1,k0 v2.f2]),(4,.pc 2 0),(6,.rp [.int .i64 v3]),(7,tI (v1.f1.length:Int)),(8,tI (v2.f1.length:Int)),(9,.pc 3 0),(11,.pc 4 0),(66,tI (v2.f1.getD 0 default))],[.dead,.dead,.cells 60 [.int .i64 (0:Int),nS,nS],.cells 3 [.int .i64 (1:Int)],.cells 3 [.int .i64 (0:Int)]]⟩ ?_ z0 trivial ?_
     ·kernel_rfl
     refine AAny.step (i:=8) (fuel':=0) rfl (by kernel_rfl) [] #[y1,y1,y1,y1,y1,y1,y1,y1,y1] rfl [2,3,4,6,7,8,9,11] 5 ⟨[(2,.rp [.int .i64 v1.f0,k0 v1.f1,k0 v1.f2]),(3,.rp [.int .i64 v2.f0,k0 v2.f1,k0 v2.f2]),(4,.pc 2 0),(6,.rp [.int .i64 v3]),(7,tI (v1.f1.length:Int)),(8,tI (v2.f1.length:Int)),(9,.pc 3 0),(11,.pc 4 0)],[.dead,.dead,.cells 60 [.int .i64 (0:Int),nS,nS],.cells 3 [.int .i64 (1:Int)],.cells 3 [.int .i64 (v2.f1.getD 0 default)]]⟩ ?_ z0 trivial ?_
     ·kernel_rfl
     refine AAny.keepTo [2,3,4,6,7,8,9,11] 5 ⟨[(2,.rp [.int .i64 v1.f0,k0 v1.f1,k0 v1.f2]),(3,.rp [.int .i64 v2.f0,k0 v2.f1,k0 v2.f2]),(4,.pc 2 0),(6,.rp [.int .i64 v3]),(7,tI (v1.f1.length:Int)),(8,tI (v2.f1.length:Int)),(9,.pc 3 0),(11,.pc 4 0)],[.dead,.dead,.cells 60 [.int .i64 (0:Int),nS,nS],.cells 3 [.int .i64 (1:Int)],.cells 3 [.int .i64 (v2.f1.getD 0 default)]]⟩ _ ?_ rfl z0 (AAny.done (by kernel_rfl) ?_)
     ·kernel_rfl
     refine AWp.seq ?_
     refine AWp.pin 4 rfl rfl ?_
     refine AWp.keepTo [2,3,4,6,7,8,9,11] 4 ⟨[(2,.rp [.int .i64 v1.f0,k0 v1.f1,k0 v1.f2]),(3,.rp [.int .i64 v2.f0,k0 v2.f1,k0 v2.f2]),(4,.pc 2 0),(6,.rp [.int .i64 v3]),(7,tI (v1.f1.length:Int)),(8,tI (v2.f1.length:Int)),(9,.pc 3 0),(11,.rp [.int .i64 (v2.f1.getD 0 default)])],hp14⟩ ?_ z0 ?_
     ·kernel_rfl
     refine AWp.start [0] [] [] [2,3,4,6,7,8,9,11,12] 4 ⟨[(2,.rp [.int .i64 v1.f0,k0 v1.f1,k0 v1.f2]),(3,.rp [.int .i64 v2.f0,k0 v2.f1,k0 v2.f2]),(4,.pc 2 0),(6,.rp [.int .i64 v3]),(7,tI (v1.f1.length:Int)),(8,tI (v2.f1.length:Int)),(9,.pc 3 0),(11,.rp [.int .i64 (v2.f1.getD 0 default)]),(12,.tv (.sc (.slice none 0 0)))],hp14⟩ rfl ?_ z0 trivial ?_
     ·kernel_rfl
     refine AOps.nil ?_
     refine AWp.join (V:=(List Int) × Int) (fun w=>⟨[(2,.rp [.int .i64 v1.f0,k0 v1.f1,k0 v1.f2]),(3,.rp [.int .i64 v2.f0,k0 v2.f1,k0 v2.f2]),(4,.pc 2 0),(6,.rp [.int .i64 v3]),(8,tI (v2.f1.length:Int)),(9,.pc 3 0),(11,.rp [.int .i64 (v2.f1.getD 0 default)]),(12,q2 w.1)],[.dead,.dead,.cells 60 [.int .i64 (0:Int),nS,nS],.cells 3 [.int .i64 w.2]]⟩) (fun w=>f78_j2 v1 v2 v3 w.1 w.2 = some r) ?_ ?_
     ·refine AWp.seq ?_
      refine AWp.start [0,1] [] [] [2,3,4,6,8,9,11,12,68] 4 ⟨[(2,.rp [.int .i64 v1.f0,k0 v1.f1,k0 v1.f2]),(3,.rp [.int .i64 v2.f0,k0 v2.f1,k0 v2.f2]),(4,.pc 2 0),(6,.rp [.int .i64 v3]),(8,tI (v2.f1.length:Int)),(9,.pc 3 0),(11,.rp [.int .i64 (v2.f1.getD 0 default)]),(12,.tv (.sc (.slice none 0 0))),(68,tB ((v1.f1.length:Int) == (2:Int)))],hp14⟩ rfl ?_ z0 trivial ?_
      ·kernel_rfl
      refine AOps.nil ?_
      refine AWp.cond rfl (fun hb=>?_) fun hb=>?_
      ·replace h:=of_true h hb
       refine AWp.keepTo [2,3,4,6,8,9,11,12] 4 ⟨[(2,.rp [.int .i64 v1.f0,k0 v1.f1,k0 v1.f2]),(3,.rp [.int .i64 v2.f0,k0 v2.f1,k0 v2.f2]),(4,.pc 2 0),(6,.rp [.int .i64 v3]),(8,tI (v2.f1.length:Int)),(9,.pc 3 0),(11,.rp [.int .i64 (v2.f1.getD 0 default)]),(12,.tv (.sc (.slice none 0 0)))],hp14⟩ ?_ z0 ?_
       ·kernel_rfl
       refine AWp.seq ?_
       obtain ⟨hg,h⟩:=of_guard h
       refine AWp.start [0,1,2,3,4] [] [(0:Int) ≤ (0:Int),(0:Int) < (v1.f1.length:Int)] [2,3,4,6,8,9,11,12] 4 ⟨[(2,.rp [.int .i64 v1.f0,k0 v1.f1,k0 v1.f2]),(3,.rp [.int .i64 v2.f0,k0 v2.f1,k0 v2.f2]),(4,.pc 2 0),(6,.rp [.int .i64 v3]),(8,tI (v2.f1.length:Int)),(9,.pc 3 0),(11,.rp [.int .i64 (v2.f1.getD 0 default)]),(12,.tv (.sc (.slice none 0 0)))],hp15 v1⟩ rfl ?_ z0 ⟨(by decide:(0:Int) ≤ (0:Int)),hg⟩ ?_
       ·kernel_rfl
       refine AOps.nil ?_
       refine AWp.start [0,1,2] [3,4] [] [2,3,4,6,8,9,11,73,75] 4 ⟨[(2,.rp [.int .i64 v1.f0,k0 v1.f1,k0 v1.f2]),(3,.rp [.int .i64 v2.f0,k0 v2.f1,k0 v2.f2]),(4,.pc 2 0),(6,.rp [.int .i64 v3]),(8,tI (v2.f1.length:Int)),(9,.pc 3 0),(11,.rp [.int .i64 (v2.f1.getD 0 default)]),(73,.tv (.sc (.slice none 0 0))),(75,.tv (.own 1 3 1 (newRowF [.int .i64 (v1.f1.getD 0 default)] 1)))],hp15 v1⟩ rfl ?_ z0 trivial ?_
       ·kernel_rfl
       refine AOps.extL 75 (cInt .i64) [v1.f1.getD 0 default] rfl rfl (row_at (cInt .i64) 1 (fun _=>rfl) [v1.f1.getD 0 default] _ rfl) ?_
       obtain ⟨hg,h⟩:=of_guard h
       refine AOps.go [3] [4] [(0 + [v1.f1.getD 0 default].length) * 8 ≤ 140737488355328,PlainTo 0 (fun _=>[]),PlainTo ([v1.f1.getD 0 default].length) (fun i=>(cInt .i64) ([v1.f1.getD 0 default].getD i default))] [2,3,4,6,8,9,11,76] 4 ⟨[(2,.rp [.int .i64 v1.f0,k0 v1.f1,k0 v1.f2]),(3,.rp [.int .i64 v2.f0,k0 v2.f1,k0 v2.f2]),(4,.pc 2 0),(6,.rp [.int .i64 v3]),(8,tI (v2.f1.length:Int)),(9,.pc 3 0),(11,.rp [.int .i64 (v2.f1.getD 0 default)]),(76,.tv (.own 1 3 (0 + [v1.f1.getD 0 default].length) (appF 0 (fun _=>[]) (fun i=>(cInt .i64) ([v1.f1.getD 0 default].getD i default)))))],hp15 v1⟩ ?_ z0 ⟨hg,(fun _ _=>rfl),(fun _ _=>rfl)⟩ ?_
       ·kernel_rfl
       refine AOps.extL 76 (cInt .i64) [v1.f1.getD 0 default] rfl (by simp) (app_nil (cInt .i64) [v1.f1.getD 0 default]) ?_
       refine AOps.go [4] [] [] [2,3,4,6,8,9,11,12] 4 ⟨[(2,.rp [.int .i64 v1.f0,k0 v1.f1,k0 v1.f2]),(3,.rp [.int .i64 v2.f0,k0 v2.f1,k0 v2.f2]),(4,.pc 2 0),(6,.rp [.int .i64 v3]),(8,tI (v2.f1.length:Int)),(9,.pc 3 0),(11,.rp [.int .i64 (v2.f1.getD 0 default)]),(12,q2 [v1.f1.getD 0 default])],hp15 v1⟩ ?_ z0 trivial ?_
       ·kernel_rfl
       refine AOps.nil ?_
       exact ⟨([v1.f1.getD 0 default],v1.f1.getD 0 default),h,rfl⟩
      ·replace h:=of_false h hb
       refine AWp.keepTo [2,3,4,6,8,9,11,12] 4 ⟨[(2,.rp [.int .i64 v1.f0,k0 v1.f1,k0 v1.f2]),(3,.rp [.int .i64 v2.f0,k0 v2.f1,k0 v2.f2]),(4,.pc 2 0),(6,.rp [.int .i64 v3]),(8,tI (v2.f1.length:Int)),(9,.pc 3 0),(11,.rp [.int .i64 (v2.f1.getD 0 default)]),(12,.tv (.sc (.slice none 0 0)))],hp14⟩ ?_ z0 ?_
       ·kernel_rfl
       refine AWp.nilOwn 12 1 3 (fun i=>(cInt .i64) (([]:List Int).getD i default)) rfl ?_
       refine AWp.keepTo [2,3,4,6,8,9,11,12] 4 ⟨[(2,.rp [.int .i64 v1.f0,k0 v1.f1,k0 v1.f2]),(3,.rp [.int .i64 v2.f0,k0 v2.f1,k0 v2.f2]),(4,.pc 2 0),(6,.rp [.int .i64 v3]),(8,tI (v2.f1.length:Int)),(9,.pc 3 0),(11,.rp [.int .i64 (v2.f1.getD 0 default)]),(12,q2 ([]:List Int))],hp14⟩ ?_ z0 ?_
       ·kernel_rfl
       refine AWp.skip ?_
       exact ⟨([],(1:Int)),h,rfl⟩
     ·rintro ⟨v8,v9⟩ h
      refine AWp.join (V:=(List Int)) (fun w=>⟨[(2,.rp [.int .i64 v1.f0,k0 v1.f1,k0 v1.f2]),(3,.rp [.int .i64 v2.f0,k0 v2.f1,k0 v2.f2]),(4,.pc 2 0),(6,.rp [.int .i64 v3]),(9,.rp [.int .i64 v9]),(11,.rp [.int .i64 (v2.f1.getD 0 default)]),(12,q2 w)],[.dead,.dead,.cells 60 [.int .i64 (0:Int),nS,nS]]⟩) (fun w=>f78_j1 v1 v2 v3 v9 w = some r) ?_ ?_
      ·refine AWp.seq ?_
       refine AWp.pin 3 rfl rfl ?_
       refine AWp.keepTo [2,3,4,6,8,9,11,12] 3 ⟨[(2,.rp [.int .i64 v1.f0,k0 v1.f1,k0 v1.f2]),(3,.rp [.int .i64 v2.f0,k0 v2.f1,k0 v2.f2]),(4,.pc 2 0),(6,.rp [.int .i64 v3]),(8,tI (v2.f1.length:Int)),(9,.rp [.int .i64 v9]),(11,.rp [.int .i64 (v2.f1.getD 0 default)]),(12,q2 v8)],[.dead,.dead,.cells 60 [.int .i64 (0:Int),nS,nS]]⟩ ?_ z0 ?_
       ·kernel_rfl
       refine AWp.start [0,1] [] [] [2,3,4,6,9,11,12,78] 3 ⟨[(2,.rp [.int .i64 v1.f0,k0 v1.f1,k0 v1.f2]),(3,.rp [.int .i64 v2.f0,k0 v2.f1,k0 v2.f2]),(4,.pc 2 0),(6,.rp [.int .i64 v3]),(9,.rp [.int .i64 v9]),(11,.rp [.int .i64 (v2.f1.getD 0 default)]),(12,q2 v8),(78,tB ((v2.f1.length:Int) == (2:Int)))],[.dead,.dead,.cells 60 [.int .i64 (0:Int),nS,nS]]⟩ rfl ?_ z0 trivial ?_
       ·kernel_rfl
       refine AOps.nil ?_
       refine AWp.cond rfl (fun hb=>?_) fun hb=>?_
       ·replace h:=of_true h hb
        refine AWp.keepTo [2,3,4,6,9,11,12] 3 ⟨[(2,.rp [.int .i64 v1.f0,k0 v1.f1,k0 v1.f2]),(3,.rp [.int .i64 v2.f0,k0 v2.f1,k0 v2.f2]),(4,.pc 2 0),(6,.rp [.int .i64 v3]),(9,.rp [.int .i64 v9]),(11,.rp [.int .i64 (v2.f1.getD 0 default)]),(12,q2 v8)],[.dead,.dead,.cells 60 [.int .i64 (0:Int),nS,nS]]⟩ ?_ z0 ?_
        ·kernel_rfl
        refine AWp.seq ?_
        obtain ⟨hg,h⟩:=of_guard h
        refine AWp.start [0,1,2,3,4] [] [(0:Int) ≤ (1:Int),(1:Int) < (v2.f1.length:Int)] [2,3,4,6,9,10,11,12] 3 ⟨[(2,.rp [.int .i64 v1.f0,k0 v1.f1,k0 v1.f2]),(3,.rp [.int .i64 v2.f0,k0 v2.f1,k0 v2.f2]),(4,.pc 2 0),(6,.rp [.int .i64 v3]),(9,.rp [.int .i64 v9]),(10,tI (v2.f1.getD 1 default)),(11,.rp [.int .i64 (v2.f1.getD 0 default)]),(12,q2 v8)],[.dead,.dead,.cells 60 [.int .i64 (0:Int),nS,nS]]⟩ rfl ?_ z0 ⟨(by decide:(0:Int) ≤ (1:Int)),hg⟩ ?_
        ·kernel_rfl
        refine AOps.nil ?_
        refine AWp.start [0,1,2] [3,4] [] [2,3,4,6,9,11,12,83,85] 3 ⟨[(2,.rp [.int .i64 v1.f0,k0 v1.f1,k0 v1.f2]),(3,.rp [.int .i64 v2.f0,k0 v2.f1,k0 v2.f2]),(4,.pc 2 0),(6,.rp [.int .i64 v3]),(9,.rp [.int .i64 v9]),(11,.rp [.int .i64 (v2.f1.getD 0 default)]),(12,q2 v8),(83,.al (.slot 12 0,[])),(85,.tv (.own 1 3 1 (newRowF [.int .i64 (v2.f1.getD 1 default)] 1)))],[.dead,.dead,.cells 60 [.int .i64 (0:Int),nS,nS]]⟩ rfl ?_ z0 trivial ?_
        ·kernel_rfl
        refine AOps.extL 85 (cInt .i64) [v2.f1.getD 1 default] rfl rfl (row_at (cInt .i64) 1 (fun _=>rfl) [v2.f1.getD 1 default] _ rfl) ?_
        obtain ⟨hg,h⟩:=of_guard h
        refine AOps.go [3] [4] [(v8.length + [v2.f1.getD 1 default].length) * 8 ≤ 140737488355328,PlainTo v8.length (fun i=>(cInt .i64) (v8.getD i default)),PlainTo ([v2.f1.getD 1 default].length) (fun i=>(cInt .i64) ([v2.f1.getD 1 default].getD i default))] [2,3,4,6,9,11,86] 3 ⟨[(2,.rp [.int .i64 v1.f0,k0 v1.f1,k0 v1.f2]),(3,.rp [.int .i64 v2.f0,k0 v2.f1,k0 v2.f2]),(4,.pc 2 0),(6,.rp [.int .i64 v3]),(9,.rp [.int .i64 v9]),(11,.rp [.int .i64 (v2.f1.getD 0 default)]),(86,.tv (.own 1 3 (v8.length + [v2.f1.getD 1 default].length) (appF v8.length (fun i=>(cInt .i64) (v8.getD i default)) (fun i=>(cInt .i64) ([v2.f1.getD 1 default].getD i default)))))],[.dead,.dead,.cells 60 [.int .i64 (0:Int),nS,nS]]⟩ ?_ z0 ⟨hg,(fun _ _=>rfl),(fun _ _=>rfl)⟩ ?_
        ·kernel_rfl
        refine AOps.extL 86 (cInt .i64) (v8 ++ [v2.f1.getD 1 default]) rfl List.length_append.symm (app_at (cInt .i64) v8 [v2.f1.getD 1 default]) ?_
        refine AOps.go [4] [] [] [2,3,4,6,9,11,12] 3 ⟨[(2,.rp [.int .i64 v1.f0,k0 v1.f1,k0 v1.f2]),(3,.rp [.int .i64 v2.f0,k0 v2.f1,k0 v2.f2]),(4,.pc 2 0),(6,.rp [.int .i64 v3]),(9,.rp [.int .i64 v9]),(11,.rp [.int .i64 (v2.f1.getD 0 default)]),(12,q2 (v8 ++ [v2.f1.getD 1 default]))],[.dead,.dead,.cells 60 [.int .i64 (0:Int),nS,nS]]⟩ ?_ z0 trivial ?_
        ·kernel_rfl
        refine AOps.nil ?_
        exact ⟨v8 ++ [v2.f1.getD 1 default],h,rfl⟩
       ·replace h:=of_false h hb
        refine AWp.keepTo [2,3,4,6,9,11,12] 3 ⟨[(2,.rp [.int .i64 v1.f0,k0 v1.f1,k0 v1.f2]),(3,.rp [.int .i64 v2.f0,k0 v2.f1,k0 v2.f2]),(4,.pc 2 0),(6,.rp [.int .i64 v3]),(9,.rp [.int .i64 v9]),(11,.rp [.int .i64 (v2.f1.getD 0 default)]),(12,q2 v8)],[.dead,.dead,.cells 60 [.int .i64 (0:Int),nS,nS]]⟩ ?_ z0 ?_
        ·kernel_rfl
        refine AWp.skip ?_
        exact ⟨v8,h,rfl⟩
      ·rintro v10 h
       refine AWp.seq ?_
       refine AWp.seq ?_
       refine AWp.start [0] [1,2] [] [2,3,4,6,9,11,12,87] 3 ⟨[(2,.rp [.int .i64 v1.f0,k0 v1.f1,k0 v1.f2]),(3,.rp [.int .i64 v2.f0,k0 v2.f1,k0 v2.f2]),(4,.pc 2 0),(6,.rp [.int .i64 v3]),(9,.rp [.int .i64 v9]),(11,.rp [.int .i64 (v2.f1.getD 0 default)]),(12,q2 v10),(87,.al (.slot 12 0,[]))],[.dead,.dead,.cells 60 [.int .i64 (0:Int),nS,nS]]⟩ rfl ?_ z0 trivial ?_
       ·kernel_rfl
       obtain ⟨v11,hv11,h⟩:=of_bind h
       refine AOps.cons (AOne.callR (F:=(FF 97 0)) _ rfl rfl rfl _ rfl rfl _ _ rfl Tryz.call61 [PlainTo v10.length (fun i=>(cInt .i64) (v10.getD i default))] [q3 v10] rfl (fun _ _=>rfl) (f61_ok v10 hv11) (ind_of rfl) rfl) ?_
       refine AOps.go [2] [] [] [2,3,4,6,9,11,12,89] 3 ⟨[(2,.rp [.int .i64 v1.f0,k0 v1.f1,k0 v1.f2]),(3,.rp [.int .i64 v2.f0,k0 v2.f1,k0 v2.f2]),(4,.pc 2 0),(6,.rp [.int .i64 v3]),(9,.rp [.int .i64 v9]),(11,.rp [.int .i64 (v2.f1.getD 0 default)]),(12,q2 v10),(89,tB (decide (v11 < (0:Int))))],[.dead,.dead,.cells 60 [.int .i64 (0:Int),nS,nS]]⟩ ?_ z0 trivial ?_
       ·kernel_rfl
       refine AOps.nil ?_
       refine AWp.cond rfl (fun hb=>?_) fun hb=>?_
       ·replace h:=of_true h hb
        refine AWp.keepTo [4] 3 ⟨[(4,.pc 2 0)],[.dead,.dead,.cells 60 [.int .i64 (0:Int),nS,nS]]⟩ ?_ z0 ?_
        ·kernel_rfl
        refine AWp.seq ?_
        refine AWp.start [0,1,2] [] [] [4,5] 3 ⟨[(4,.pc 2 0),(5,tI (30:Int))],[.dead,.dead,.cells 60 [.int .i64 (0:Int),nS,nS]]⟩ rfl ?_ z0 trivial ?_
        ·kernel_rfl
        refine AOps.nil ?_
        refine AWp.retell 2 1 rfl (.nilFz 1 (fun i=>(cInt .i64) (([]:List Int).getD i default))) ?_
        refine AWp.retell 2 2 rfl (.nilFz 1 (fun i=>(cInt .i64) (([]:List Int).getD i default))) ?_
        refine AWp.pin 2 rfl rfl ?_
        refine AWp.keepTo [4,5] 0 ⟨[(4,.rp [.int .i64 (0:Int),k0 ([]:List Int),k0 ([]:List Int)]),(5,tI (30:Int))],[]⟩ ?_ z0 ?_
        ·kernel_rfl
        refine AWp.ret ?_
        cases h
        exact ⟨.inr rfl,rfl⟩
       ·replace h:=of_false h hb
        refine AWp.keepTo [2,3,4,6,9,11,12] 3 ⟨[(2,.rp [.int .i64 v1.f0,k0 v1.f1,k0 v1.f2]),(3,.rp [.int .i64 v2.f0,k0 v2.f1,k0 v2.f2]),(4,.pc 2 0),(6,.rp [.int .i64 v3]),(9,.rp [.int .i64 v9]),(11,.rp [.int .i64 (v2.f1.getD 0 default)]),(12,q2 v10)],[.dead,.dead,.cells 60 [.int .i64 (0:Int),nS,nS]]⟩ ?_ z0 ?_
        ·kernel_rfl
        refine AWp.skip ?_
        refine AWp.seq ?_
        refine AWp.freezeL 12 (cInt .i64) v10 rfl (fun _=>rfl) ?_
        refine AWp.start [0,1,2] [3,4,5,6,7] [] [4,91,92,93] 3 ⟨[(4,.pc 2 0),(91,tI v3),(92,q3 v10),(93,.fn 105 [.rp [.int .i64 v9],.rp [.int .i64 v3],.rp [.int .i64 (v2.f1.getD 0 default)],.rp [.int .i64 v1.f0,k0 v1.f1,k0 v1.f2],.rp [.int .i64 v2.f0,k0 v2.f1,k0 v2.f2]])],[.dead,.dead,.cells 60 [.int .i64 (0:Int),nS,nS]]⟩ rfl ?_ z0 trivial ?_
        ·kernel_rfl
        obtain ⟨v12,hv12,h⟩:=of_bind h
        refine AOps.cons (AOne.callP (F:=(FF 97 0)) _ rfl rfl rfl _ rfl rfl _ _ rfl Tryz.call66 [tI v3,q3 v10,.fn 105 [.rp [.int .i64 v9],.rp [.int .i64 v3],.rp [.int .i64 (v2.f1.getD 0 default)],.rp [.int .i64 v1.f0,k0 v1.f1,k0 v1.f2],.rp [.int .i64 v2.f0,k0 v2.f1,k0 v2.f2]]] rfl rfl (f66_105_ok v3 v10 v9 v3 (v2.f1.getD 0 default) v1 v2 hv12) rfl) ?_
        refine AOps.go [4,5,6,7] [] [] [4,5] 3 ⟨[(4,.pc 2 0),(5,tI v12.2)],[.dead,.dead,.cells 60 [.int .i64 v12.1.f0,k0 v12.1.f1,k0 v12.1.f2]]⟩ ?_ z0 trivial ?_
        ·kernel_rfl
        refine AOps.nil ?_
        refine AWp.pin 2 rfl rfl ?_
        refine AWp.keepTo [4,5] 0 ⟨[(4,.rp [.int .i64 v12.1.f0,k0 v12.1.f1,k0 v12.1.f2]),(5,tI v12.2)],[]⟩ ?_ z0 ?_
        ·kernel_rfl
        refine AWp.ret ?_
        cases h
        exact ⟨.inr rfl,rfl⟩
    refine AAny.share 4 #[y1,y1,y1,y1,n1,y1,n1,n1,n1] ⟨[(2,.rp [.int .i64 v1.f0,k0 v1.f1,k0 v1.f2]),(3,.rp [.int .i64 v2.f0,k0 v2.f1,k0 v2.f2]),(4,.pc 2 0),(6,.rp [.int .i64 v3]),(7,tI (v1.f1.length:Int)),(8,tI (v2.f1.length:Int)),(11,.pc 4 0),(66,tI (v2.f1.getD 0 default))],[.dead,.dead,.cells 60 [.int .i64 (0:Int),nS,nS],.dead,.cells 3 [.int .i64 (0:Int)]]⟩ ?_ fun n2_=>?_
    ·refine AAny.each [4] (by kernel_rfl) rfl ?_
     refine AEach.one (i:=4) (AOne.allocAt (F:=(FF 97 0)) _ rfl rfl rfl 9 rfl rfl rfl 3 rfl z0 rfl) ?_ ?_
     ·refine AAny.keepTo [2,3,4,6,7,8,9,11,66] 5 ⟨[(2,.rp [.int .i64 v1.f0,k0 v1.f1,k0 v1.f2]),(3,.rp [.int .i64 v2.f0,k0 v2.f1,k0 v2.f2]),(4,.pc 2 0),(6,.rp [.int .i64 v3]),(7,tI (v1.f1.length:Int)),(8,tI (v2.f1.length:Int)),(9,.pc 3 0),(11,.pc 4 0),(66,tI (v2.f1.getD 0 default))],hp16⟩ #[y1,y1,y1,y1,y1,y1,n1,n1,n1] ?_ rfl z0 ?_
      ·kernel_rfl
      exact n3_
     exact AEach.nil
    refine AAny.share 4 #[y1,y1,y1,y1,y1,n1,n1,n1,n1] ⟨[(2,.rp [.int .i64 v1.f0,k0 v1.f1,k0 v1.f2]),(3,.rp [.int .i64 v2.f0,k0 v2.f1,k0 v2.f2]),(4,.pc 2 0),(6,.rp [.int .i64 v3]),(7,tI (v1.f1.length:Int)),(8,tI (v2.f1.length:Int)),(9,.pc 3 0),(66,tI (v2.f1.getD 0 default))],[.dead,.dead,.cells 60 [.int .i64 (0:Int),nS,nS],.cells 3 [.int .i64 (0:Int)]]⟩ ?_ fun n1_=>?_
    ·refine AAny.each [5] (by kernel_rfl) rfl ?_
     refine AEach.one (i:=5) (AOne.allocPad (F:=(FF 97 0)) _ rfl rfl rfl 11 rfl rfl rfl 0) ?_ ?_
     ·refine AAny.keepTo [2,3,4,6,7,8,9,11,66] 5 ⟨[(2,.rp [.int .i64 v1.f0,k0 v1.f1,k0 v1.f2]),(3,.rp [.int .i64 v2.f0,k0 v2.f1,k0 v2.f2]),(4,.pc 2 0),(6,.rp [.int .i64 v3]),(7,tI (v1.f1.length:Int)),(8,tI (v2.f1.length:Int)),(9,.pc 3 0),(11,.pc 4 0),(66,tI (v2.f1.getD 0 default))],hp16⟩ #[y1,y1,y1,y1,y1,y1,n1,n1,n1] ?_ rfl z0 ?_
      ·kernel_rfl
      exact n3_
     exact AEach.nil
    refine AAny.each [4,5] (by kernel_rfl) rfl ?_
    refine AEach.one (i:=4) (AOne.allocPad (F:=(FF 97 0)) _ rfl rfl rfl 9 rfl rfl rfl 0) ?_ ?_
    ·refine AAny.keepTo [2,3,4,6,7,8,9,66] 4 ⟨[(2,.rp [.int .i64 v1.f0,k0 v1.f1,k0 v1.f2]),(3,.rp [.int .i64 v2.f0,k0 v2.f1,k0 v2.f2]),(4,.pc 2 0),(6,.rp [.int .i64 v3]),(7,tI (v1.f1.length:Int)),(8,tI (v2.f1.length:Int)),(9,.pc 3 0),(66,tI (v2.f1.getD 0 default))],[.dead,.dead,.cells 60 [.int .i64 (0:Int),nS,nS],.cells 3 [.int .i64 (0:Int)]]⟩ #[y1,y1,y1,y1,y1,n1,n1,n1,n1] ?_ rfl z0 ?_
     ·kernel_rfl
     exact n1_
    refine AEach.one (i:=5) (AOne.allocPad (F:=(FF 97 0)) _ rfl rfl rfl 11 rfl rfl rfl 1) ?_ ?_
    ·refine AAny.keepTo [2,3,4,6,7,8,11,66] 5 ⟨[(2,.rp [.int .i64 v1.f0,k0 v1.f1,k0 v1.f2]),(3,.rp [.int .i64 v2.f0,k0 v2.f1,k0 v2.f2]),(4,.pc 2 0),(6,.rp [.int .i64 v3]),(7,tI (v1.f1.length:Int)),(8,tI (v2.f1.length:Int)),(11,.pc 4 0),(66,tI (v2.f1.getD 0 default))],[.dead,.dead,.cells 60 [.int .i64 (0:Int),nS,nS],.dead,.cells 3 [.int .i64 (0:Int)]]⟩ #[y1,y1,y1,y1,n1,y1,n1,n1,n1] ?_ rfl z0 ?_
     ·kernel_rfl
     exact n2_
    exact AEach.nil

abbrev hp17 (v2:List T59) (v7:List Int):List AObj:=[.cells 60 [.int .i64 (0:Int),nS,nS],.cells 60 [.int .i64 ((v2.getD 0 default).f0),k0 [((v2.getD 0 default).f1).getD 1 default,((v2.getD 0 default).f1).getD 0 default],k3 v7]]
abbrev hp18:List AObj:=[.cells 60 [.int .i64 (0:Int),nS,nS],.cells 60 [.int .i64 (0:Int),nS,nS]]
abbrev hp19 (v2:List T59) (v4:List Int):List AObj:=[.cells 60 [.int .i64 (0:Int),nS,nS],.cells 60 [.int .i64 ((v2.getD 0 default).f0),k0 [((v2.getD 0 default).f1).getD 1 default,((v2.getD 0 default).f1).getD 0 default],k3 v4]]
abbrev hp20 (v2:List T59):List AObj:=[.cells 60 [.int .i64 (0:Int),nS,nS],.cells 60 [.int .i64 ((v2.getD 0 default).f0),k0 [((v2.getD 0 default).f1).getD 1 default,((v2.getD 0 default).f1).getD 0 default],nS]]

noncomputable def f42_b1 (v2:List T59) (v3:Int) (v6:Int) (v7:List Int):Option ((Int × (List Int)) ⊕ Out (T59 × Int) (List Int)) :=
 cond (decide (v6 < ((v2.getD 0 default).f1).getD 1 default)) (if (0:Int) < (((v2.getD 0 default).f1).length:Int) ∧ (0:Int) ≤ w64 (v3 + (w64 (v6 * (((v2.getD 0 default).f1).getD 0 default)))) ∧ w64 (v3 + (w64 (v6 * (((v2.getD 0 default).f1).getD 0 default)))) < (((v2.getD 0 default).f2).length:Int) then if (v7.length + [((v2.getD 0 default).f2).getD (Int.toNat (w64 (v3 + (w64 (v6 * (((v2.getD 0 default).f1).getD 0 default)))))) default].length) * 8 ≤ 140737488355328 then some (.inl (w64 (v6 + (1:Int)),v7 ++ [((v2.getD 0 default).f2).getD (Int.toNat (w64 (v3 + (w64 (v6 * (((v2.getD 0 default).f1).getD 0 default)))))) default])) else none else none) (some (.inr (.go v7)))

noncomputable def f42_b2 (v2:List T59) (v3:Int) (v4:List Int):Option ((Int × (List Int)) ⊕ Out (T59 × Int) (List Int)) :=
 cond (decide (v3 < ((v2.getD 0 default).f1).getD 0 default)) (if (1:Int) < (((v2.getD 0 default).f1).length:Int) then (iter (fun s=>f42_b1 v2 v3 s.1 s.2) ((0:Int),v4)).bind fun y=>match y with | .ret v9=>some (.inr (.ret (v9.1,v9.2))) | .go v8=>some (.inl (w64 (v3 + (1:Int)),v8)) else none) (some (.inr (.go v4)))

noncomputable def f42 (v1:List UInt8) (v2:List T59):Option (T59 × Int) :=
 if (0:Int) < (v2.length:Int) then cond (v1 == ([114,101,115,104,97,112,101]:List UInt8)) none (cond (v1 == ([116,114,97,110,115,112,111,115,101]:List UInt8)) (cond ((((v2.getD 0 default).f1).length:Int) != (2:Int)) (some (T59.mk (0:Int) ([]:List Int) ([]:List Int),(71:Int))) (if (1:Int) < (((v2.getD 0 default).f1).length:Int) ∧ (0:Int) < (((v2.getD 0 default).f1).length:Int) then if (0:Int) < (((v2.getD 0 default).f1).length:Int) then (iter (fun s=>f42_b2 v2 s.1 s.2) ((0:Int),[])).bind fun y=>match y with | .ret v10=>some (v10.1,v10.2) | .go v5=>some (T59.mk ((v2.getD 0 default).f0) [((v2.getD 0 default).f1).getD 1 default,((v2.getD 0 default).f1).getD 0 default] v5,(0:Int)) else none else none)) (cond (v1 == ([109,97,116,109,117,108]:List UInt8)) (if (1:Int) < (v2.length:Int) then (f78 (v2.getD 0 default) (v2.getD 1 default)).bind fun v11=>some (v11.1,v11.2) else none) (cond (v1 == ([99,115,104,105,102,116]:List UInt8)) none (cond (v1 == ([115,112,114,101,97,100]:List UInt8)) none none)))) else none

theorem f42_ok (v1:List UInt8) (v2:List T59) {r:T59 × Int} (h:f42 v1 v2 = some r):ACall Tryz.prog 42 [.tv (.str v1),.tv (fzL 3 c59 v2)] [] (.tup [.agg [.int .i64 r.1.f0,fzL 1 (cInt .i64) r.1.f1,fzL 1 (cInt .i64) r.1.f2],.tv (.int .i64 r.2)]) []:=by
 refine ACall.ofNc (FF 110 0) (rs:=[4,5]) (sv:=(.agg [.int .i64 r.1.f0,k0 r.1.f1,k0 r.1.f2])) (cells0:=[.int .i64 r.1.f0,k0 r.1.f1,k0 r.1.f2]) 4 60 (env0:=[(4,.rp [.int .i64 r.1.f0,k0 r.1.f1,k0 r.1.f2]),(5,tI r.2)]) (env:=[(4,.agg [.int .i64 r.1.f0,k0 r.1.f1,k0 r.1.f2]),(5,tI r.2)]) Tryz.func42 rfl Tryz.ntmps42 (by kernel_rfl) (by decide) (by decide) rfl (zz rfl) rfl rfl rfl (by kernel_rfl) rfl [4,5] 0 z0 rfl (get_ofN _ _ _ rfl) (ok_ofN _ rfl) ?_
 refine AWp.seq ?_
 refine AWp.start [0,1] [] [] [0,1,4] 1 ⟨[(0,tS v1),(1,q5 v2),(4,.pc 0 0)],[.cells 60 [.int .i64 (0:Int),nS,nS]]⟩ rfl ?_ z0 trivial ?_
 ·kernel_rfl
 refine AOps.nil ?_
 refine AWp.seq ?_
 obtain ⟨hg,h⟩:=of_guard h
 refine AWp.start [0,1,2,3,4] [] [(0:Int) ≤ (0:Int),(0:Int) < (v2.length:Int)] [0,1,4,6] 2 ⟨[(0,tS v1),(1,q5 v2),(4,.pc 0 0),(6,.pc 1 0)],[.cells 60 [.int .i64 (0:Int),nS,nS],.cells 60 [.int .i64 ((v2.getD 0 default).f0),k0 ((v2.getD 0 default).f1),k0 ((v2.getD 0 default).f2)]]⟩ rfl ?_ z0 ⟨(by decide:(0:Int) ≤ (0:Int)),hg⟩ ?_
 ·kernel_rfl
 refine AOps.nil ?_
 refine AWp.seq ?_
 refine AWp.seq ?_
 refine AWp.pin 1 rfl rfl ?_
 refine AWp.keepTo [0,1,4,6] 1 ⟨[(0,tS v1),(1,q5 v2),(4,.pc 0 0),(6,.rp [.int .i64 ((v2.getD 0 default).f0),k0 ((v2.getD 0 default).f1),k0 ((v2.getD 0 default).f2)])],[.cells 60 [.int .i64 (0:Int),nS,nS]]⟩ ?_ z0 ?_
 ·kernel_rfl
 refine AWp.start [0] [] [] [1,4,6,13] 1 ⟨[(1,q5 v2),(4,.pc 0 0),(6,.rp [.int .i64 ((v2.getD 0 default).f0),k0 ((v2.getD 0 default).f1),k0 ((v2.getD 0 default).f2)]),(13,tS v1)],[.cells 60 [.int .i64 (0:Int),nS,nS]]⟩ rfl ?_ z0 trivial ?_
 ·kernel_rfl
 refine AOps.nil ?_
 refine AWp.block ?_
 refine AWp.seq ?_
 refine AWp.start [0,1] [] [] [1,4,6,13,14] 1 ⟨[(1,q5 v2),(4,.pc 0 0),(6,.rp [.int .i64 ((v2.getD 0 default).f0),k0 ((v2.getD 0 default).f1),k0 ((v2.getD 0 default).f2)]),(13,tS v1),(14,tB (v1 == ([114,101,115,104,97,112,101]:List UInt8)))],[.cells 60 [.int .i64 (0:Int),nS,nS]]⟩ rfl ?_ z0 trivial ?_
 ·kernel_rfl
 refine AOps.nil ?_
 refine AWp.cond rfl (fun hb=>?_) fun hb=>?_
 ·replace h:=of_true h hb
  refine AWp.keepTo [1,4,6] 1 ⟨[(1,q5 v2),(4,.pc 0 0),(6,.rp [.int .i64 ((v2.getD 0 default).f0),k0 ((v2.getD 0 default).f1),k0 ((v2.getD 0 default).f2)])],[.cells 60 [.int .i64 (0:Int),nS,nS]]⟩ ?_ z0 ?_
  ·kernel_rfl
  refine AWp.seq ?_
  cases h
 ·replace h:=of_false h hb
  refine AWp.keepTo [1,4,6,13] 1 ⟨[(1,q5 v2),(4,.pc 0 0),(6,.rp [.int .i64 ((v2.getD 0 default).f0),k0 ((v2.getD 0 default).f1),k0 ((v2.getD 0 default).f2)]),(13,tS v1)],[.cells 60 [.int .i64 (0:Int),nS,nS]]⟩ ?_ z0 ?_
  ·kernel_rfl
  refine AWp.seq ?_
  refine AWp.start [0,1] [] [] [1,4,6,13,23] 1 ⟨[(1,q5 v2),(4,.pc 0 0),(6,.rp [.int .i64 ((v2.getD 0 default).f0),k0 ((v2.getD 0 default).f1),k0 ((v2.getD 0 default).f2)]),(13,tS v1),(23,tB (v1 == ([116,114,97,110,115,112,111,115,101]:List UInt8)))],[.cells 60 [.int .i64 (0:Int),nS,nS]]⟩ rfl ?_ z0 trivial ?_
  ·kernel_rfl
  refine AOps.nil ?_
  refine AWp.cond rfl (fun hb=>?_) fun hb=>?_
  ·replace h:=of_true h hb
   refine AWp.keepTo [4,6] 1 ⟨[(4,.pc 0 0),(6,.rp [.int .i64 ((v2.getD 0 default).f0),k0 ((v2.getD 0 default).f1),k0 ((v2.getD 0 default).f2)])],[.cells 60 [.int .i64 (0:Int),nS,nS]]⟩ ?_ z0 ?_
   ·kernel_rfl
   refine AWp.seq ?_
   refine AWp.seq ?_
   refine AWp.start [0,1,2,3] [] [] [4,6,28] 1 ⟨[(4,.pc 0 0),(6,.rp [.int .i64 ((v2.getD 0 default).f0),k0 ((v2.getD 0 default).f1),k0 ((v2.getD 0 default).f2)]),(28,tB ((((v2.getD 0 default).f1).length:Int) != (2:Int)))],[.cells 60 [.int .i64 (0:Int),nS,nS]]⟩ rfl ?_ z0 trivial ?_
   ·kernel_rfl
   refine AOps.nil ?_
   refine AWp.cond rfl (fun hb=>?_) fun hb=>?_
   ·replace h:=of_true h hb
    refine AWp.keepTo [4] 1 ⟨[(4,.pc 0 0)],[.cells 60 [.int .i64 (0:Int),nS,nS]]⟩ ?_ z0 ?_
    ·kernel_rfl
    refine AWp.seq ?_
    refine AWp.start [0,1,2] [] [] [4,5] 1 ⟨[(4,.pc 0 0),(5,tI (71:Int))],[.cells 60 [.int .i64 (0:Int),nS,nS]]⟩ rfl ?_ z0 trivial ?_
    ·kernel_rfl
    refine AOps.nil ?_
    refine AWp.retell 0 1 rfl (.nilFz 1 (fun i=>(cInt .i64) (([]:List Int).getD i default))) ?_
    refine AWp.retell 0 2 rfl (.nilFz 1 (fun i=>(cInt .i64) (([]:List Int).getD i default))) ?_
    refine AWp.pin 0 rfl rfl ?_
    refine AWp.keepTo [4,5] 0 ⟨[(4,.rp [.int .i64 (0:Int),k0 ([]:List Int),k0 ([]:List Int)]),(5,tI (71:Int))],[]⟩ ?_ z0 ?_
    ·kernel_rfl
    refine AWp.ret ?_
    cases h
    exact ⟨.inr rfl,rfl⟩
   ·replace h:=of_false h hb
    refine AWp.keepTo [4,6] 1 ⟨[(4,.pc 0 0),(6,.rp [.int .i64 ((v2.getD 0 default).f0),k0 ((v2.getD 0 default).f1),k0 ((v2.getD 0 default).f2)])],[.cells 60 [.int .i64 (0:Int),nS,nS]]⟩ ?_ z0 ?_
    ·kernel_rfl
    refine AWp.skip ?_
    refine AWp.seq ?_
    refine AWp.draw FFm _ (n:=14) rfl (ls:=#[n1,n1,n1,n1,n1,n1,n1,n1,n1,n1,n1,n1,n1,n1]) rfl ?_ (fun _ h=>h)
    obtain ⟨hg,h⟩:=of_guard h
    refine AAny.go (by kernel_rfl) [0,1,2,3,4,5,6,7,8,9] (fuel':=4) rfl [(0:Int) ≤ (1:Int),(1:Int) < (((v2.getD 0 default).f1).length:Int),(0:Int) ≤ (0:Int),(0:Int) < (((v2.getD 0 default).f1).length:Int)] #[y1,y1,y1,y1,y1,y1,y1,y1,y1,y1,n1,n1,n1,n1] [4,6,31,35,39] 1 ⟨[(4,.pc 0 0),(6,.rp [.int .i64 ((v2.getD 0 default).f0),k0 ((v2.getD 0 default).f1),k0 ((v2.getD 0 default).f2)]),(31,tI ((v2.getD 0 default).f0)),(35,tI (((v2.getD 0 default).f1).getD 1 default)),(39,tI (((v2.getD 0 default).f1).getD 0 default))],[.cells 60 [.int .i64 (0:Int),nS,nS]]⟩ ?_ z0 ⟨(by decide:(0:Int) ≤ (1:Int)),hg.1,(by decide:(0:Int) ≤ (0:Int)),hg.2⟩ ?_
    ·kernel_rfl
    refine AAny.share 1 #[y1,y1,y1,y1,y1,y1,y1,y1,y1,y1,y1,y1,y1,n1] ⟨[(4,.pc 0 0),(6,.rp [.int .i64 ((v2.getD 0 default).f0),k0 ((v2.getD 0 default).f1),k0 ((v2.getD 0 default).f2)]),(7,.pc 1 0),(41,.agg [.int .i64 ((v2.getD 0 default).f0),k0 [((v2.getD 0 default).f1).getD 1 default,((v2.getD 0 default).f1).getD 0 default],nS])],hp18⟩ ?_ fun n3_=>?_
    ·refine AAny.step (i:=13) (fuel':=0) rfl (by kernel_rfl) [] #[y1,y1,y1,y1,y1,y1,y1,y1,y1,y1,y1,y1,y1,y1] rfl [4,6,7] 2 ⟨[(4,.pc 0 0),(6,.rp [.int .i64 ((v2.getD 0 default).f0),k0 ((v2.getD 0 default).f1),k0 ((v2.getD 0 default).f2)]),(7,.pc 1 0)],hp20 v2⟩ ?_ z0 trivial ?_
     ·kernel_rfl
     refine AAny.keepTo [4,6,7] 2 ⟨[(4,.pc 0 0),(6,.rp [.int .i64 ((v2.getD 0 default).f0),k0 ((v2.getD 0 default).f1),k0 ((v2.getD 0 default).f2)]),(7,.pc 1 0)],hp20 v2⟩ _ ?_ rfl z0 (AAny.done (by kernel_rfl) ?_)
     ·kernel_rfl
     refine AWp.seq ?_
     refine AWp.seq ?_
     obtain ⟨hg,h⟩:=of_guard h
     refine AWp.start [0,1,2,3,4] [] [(0:Int) ≤ (0:Int),(0:Int) < (((v2.getD 0 default).f1).length:Int)] [4,6,7,45,46] 2 ⟨[(4,.pc 0 0),(6,.rp [.int .i64 ((v2.getD 0 default).f0),k0 ((v2.getD 0 default).f1),k0 ((v2.getD 0 default).f2)]),(7,.pc 1 0),(45,tI (((v2.getD 0 default).f1).getD 0 default)),(46,tI (0:Int))],hp20 v2⟩ rfl ?_ z0 ⟨(by decide:(0:Int) ≤ (0:Int)),hg⟩ ?_
     ·kernel_rfl
     refine AOps.nil ?_
     refine AWp.block ?_
     refine AWp.retell 1 2 rfl (.nilOwn 1 3 (fun i=>(cInt .i64) (([]:List Int).getD i default))) ?_
     refine AWp.keepTo [4,6,7,45,46] 2 ⟨[(4,.pc 0 0),(6,.rp [.int .i64 ((v2.getD 0 default).f0),k0 ((v2.getD 0 default).f1),k0 ((v2.getD 0 default).f2)]),(7,.pc 1 0),(45,tI (((v2.getD 0 default).f1).getD 0 default)),(46,tI (0:Int))],[.cells 60 [.int .i64 (0:Int),nS,nS],.cells 60 [.int .i64 ((v2.getD 0 default).f0),k0 [((v2.getD 0 default).f1).getD 1 default,((v2.getD 0 default).f1).getD 0 default],k3 ([]:List Int)]]⟩ ?_ z0 ?_
     ·kernel_rfl
     obtain ⟨y,hy,h⟩:=of_bind h
     refine AWp.mono (AWp.loop (S:=Int × (List Int)) (Y:=Out (T59 × Int) (List Int)) (fun s=>⟨[(4,.pc 0 0),(6,.rp [.int .i64 ((v2.getD 0 default).f0),k0 ((v2.getD 0 default).f1),k0 ((v2.getD 0 default).f2)]),(7,.pc 1 0),(45,tI (((v2.getD 0 default).f1).getD 0 default)),(46,tI s.1)],[.cells 60 [.int .i64 (0:Int),nS,nS],.cells 60 [.int .i64 ((v2.getD 0 default).f0),k0 [((v2.getD 0 default).f1).getD 1 default,((v2.getD 0 default).f1).getD 0 default],k3 s.2]]⟩) (fun s=>f42_b2 v2 s.1 s.2) (fun y e σ=>match y with | .ret r=>e = .ret ∧ σ = ⟨[(4,.rp [.int .i64 r.1.f0,k0 r.1.f1,k0 r.1.f2]),(5,tI r.2)],[]⟩ | .go v=>e = .exit 1 ∧ σ = ⟨[(4,.pc 0 0),(7,.pc 1 0)],[.cells 60 [.int .i64 (0:Int),nS,nS],.cells 60 [.int .i64 ((v2.getD 0 default).f0),k0 [((v2.getD 0 default).f1).getD 1 default,((v2.getD 0 default).f1).getD 0 default],k3 v]]⟩) ?_ hy) ?_
     ·rintro ⟨v3,v4⟩ o h
      refine AWp.seq ?_
      refine AWp.start [0] [] [] [4,6,7,45,46,47] 2 ⟨[(4,.pc 0 0),(6,.rp [.int .i64 ((v2.getD 0 default).f0),k0 ((v2.getD 0 default).f1),k0 ((v2.getD 0 default).f2)]),(7,.pc 1 0),(45,tI (((v2.getD 0 default).f1).getD 0 default)),(46,tI v3),(47,tB (decide (v3 < ((v2.getD 0 default).f1).getD 0 default)))],hp19 v2 v4⟩ rfl ?_ z0 trivial ?_
      ·kernel_rfl
      refine AOps.nil ?_
      refine AWp.seq ?_
      refine AWp.cond rfl (fun hb=>?_) fun hb=>?_
      ·replace h:=of_true h hb
       refine AWp.keepTo [4,6,7,45,46] 2 ⟨[(4,.pc 0 0),(6,.rp [.int .i64 ((v2.getD 0 default).f0),k0 ((v2.getD 0 default).f1),k0 ((v2.getD 0 default).f2)]),(7,.pc 1 0),(45,tI (((v2.getD 0 default).f1).getD 0 default)),(46,tI v3)],hp19 v2 v4⟩ ?_ z0 ?_
       ·kernel_rfl
       refine AWp.skip ?_
       refine AWp.seq ?_
       refine AWp.block ?_
       refine AWp.seq ?_
       refine AWp.start [0,1] [] [] [4,6,7,8,45,46] 2 ⟨[(4,.pc 0 0),(6,.rp [.int .i64 ((v2.getD 0 default).f0),k0 ((v2.getD 0 default).f1),k0 ((v2.getD 0 default).f2)]),(7,.pc 1 0),(8,tI v3),(45,tI (((v2.getD 0 default).f1).getD 0 default)),(46,tI v3)],hp19 v2 v4⟩ rfl ?_ z0 trivial ?_
       ·kernel_rfl
       refine AOps.nil ?_
       refine AWp.seq ?_
       obtain ⟨hg,h⟩:=of_guard h
       refine AWp.start [0,1,2,3,4] [] [(0:Int) ≤ (1:Int),(1:Int) < (((v2.getD 0 default).f1).length:Int)] [4,6,7,8,45,46,52,53] 2 ⟨[(4,.pc 0 0),(6,.rp [.int .i64 ((v2.getD 0 default).f0),k0 ((v2.getD 0 default).f1),k0 ((v2.getD 0 default).f2)]),(7,.pc 1 0),(8,tI v3),(45,tI (((v2.getD 0 default).f1).getD 0 default)),(46,tI v3),(52,tI (((v2.getD 0 default).f1).getD 1 default)),(53,tI (0:Int))],hp19 v2 v4⟩ rfl ?_ z0 ⟨(by decide:(0:Int) ≤ (1:Int)),hg⟩ ?_
       ·kernel_rfl
       refine AOps.nil ?_
       refine AWp.block ?_
       obtain ⟨y,hy,h⟩:=of_bind h
       refine AWp.mono (AWp.loop (S:=Int × (List Int)) (Y:=Out (T59 × Int) (List Int)) (fun s=>⟨[(4,.pc 0 0),(6,.rp [.int .i64 ((v2.getD 0 default).f0),k0 ((v2.getD 0 default).f1),k0 ((v2.getD 0 default).f2)]),(7,.pc 1 0),(8,tI v3),(45,tI (((v2.getD 0 default).f1).getD 0 default)),(46,tI v3),(52,tI (((v2.getD 0 default).f1).getD 1 default)),(53,tI s.1)],[.cells 60 [.int .i64 (0:Int),nS,nS],.cells 60 [.int .i64 ((v2.getD 0 default).f0),k0 [((v2.getD 0 default).f1).getD 1 default,((v2.getD 0 default).f1).getD 0 default],k3 s.2]]⟩) (fun s=>f42_b1 v2 v3 s.1 s.2) (fun y e σ=>match y with | .ret r=>e = .ret ∧ σ = ⟨[(4,.rp [.int .i64 r.1.f0,k0 r.1.f1,k0 r.1.f2]),(5,tI r.2)],[]⟩ | .go v=>e = .exit 3 ∧ σ = ⟨[(4,.pc 0 0),(6,.rp [.int .i64 ((v2.getD 0 default).f0),k0 ((v2.getD 0 default).f1),k0 ((v2.getD 0 default).f2)]),(7,.pc 1 0),(45,tI (((v2.getD 0 default).f1).getD 0 default)),(46,tI v3)],[.cells 60 [.int .i64 (0:Int),nS,nS],.cells 60 [.int .i64 ((v2.getD 0 default).f0),k0 [((v2.getD 0 default).f1).getD 1 default,((v2.getD 0 default).f1).getD 0 default],k3 v]]⟩) ?_ hy) ?_
       ·rintro ⟨v6,v7⟩ o h
        refine AWp.seq ?_
        refine AWp.start [0] [] [] [4,6,7,8,45,46,52,53,54] 2 ⟨[(4,.pc 0 0),(6,.rp [.int .i64 ((v2.getD 0 default).f0),k0 ((v2.getD 0 default).f1),k0 ((v2.getD 0 default).f2)]),(7,.pc 1 0),(8,tI v3),(45,tI (((v2.getD 0 default).f1).getD 0 default)),(46,tI v3),(52,tI (((v2.getD 0 default).f1).getD 1 default)),(53,tI v6),(54,tB (decide (v6 < ((v2.getD 0 default).f1).getD 1 default)))],hp17 v2 v7⟩ rfl ?_ z0 trivial ?_
        ·kernel_rfl
        refine AOps.nil ?_
        refine AWp.seq ?_
        refine AWp.cond rfl (fun hb=>?_) fun hb=>?_
        ·replace h:=of_true h hb
         refine AWp.keepTo [4,6,7,8,45,46,52,53] 2 ⟨[(4,.pc 0 0),(6,.rp [.int .i64 ((v2.getD 0 default).f0),k0 ((v2.getD 0 default).f1),k0 ((v2.getD 0 default).f2)]),(7,.pc 1 0),(8,tI v3),(45,tI (((v2.getD 0 default).f1).getD 0 default)),(46,tI v3),(52,tI (((v2.getD 0 default).f1).getD 1 default)),(53,tI v6)],hp17 v2 v7⟩ ?_ z0 ?_
         ·kernel_rfl
         refine AWp.skip ?_
         refine AWp.seq ?_
         refine AWp.block ?_
         refine AWp.seq ?_
         refine AWp.start [0,1] [] [] [4,6,7,8,9,45,46,52,53] 2 ⟨[(4,.pc 0 0),(6,.rp [.int .i64 ((v2.getD 0 default).f0),k0 ((v2.getD 0 default).f1),k0 ((v2.getD 0 default).f2)]),(7,.pc 1 0),(8,tI v3),(9,tI v6),(45,tI (((v2.getD 0 default).f1).getD 0 default)),(46,tI v3),(52,tI (((v2.getD 0 default).f1).getD 1 default)),(53,tI v6)],hp17 v2 v7⟩ rfl ?_ z0 trivial ?_
         ·kernel_rfl
         refine AOps.nil ?_
         refine AWp.draw FFm _ (n:=18) rfl (ls:=#[n1,n1,n1,n1,n1,n1,n1,n1,n1,n1,n1,n1,n1,n1,n1,n1,n1,n1]) rfl ?_ (fun _ h=>h)
         obtain ⟨hg,h⟩:=of_guard h
         refine AAny.go (by kernel_rfl) [0,2,3,4,5,6,7,8,9,10,11,12,13] (fuel':=5) rfl [(0:Int) ≤ (0:Int),(0:Int) < (((v2.getD 0 default).f1).length:Int),(0:Int) ≤ w64 (v3 + (w64 (v6 * (((v2.getD 0 default).f1).getD 0 default)))),w64 (v3 + (w64 (v6 * (((v2.getD 0 default).f1).getD 0 default)))) < (((v2.getD 0 default).f2).length:Int)] #[y1,n1,y1,y1,y1,y1,y1,y1,y1,y1,y1,y1,y1,y1,n1,n1,n1,n1] [4,6,7,8,45,46,52,53,56,69] 2 ⟨[(4,.pc 0 0),(6,.rp [.int .i64 ((v2.getD 0 default).f0),k0 ((v2.getD 0 default).f1),k0 ((v2.getD 0 default).f2)]),(7,.pc 1 0),(8,tI v3),(45,tI (((v2.getD 0 default).f1).getD 0 default)),(46,tI v3),(52,tI (((v2.getD 0 default).f1).getD 1 default)),(53,tI v6),(56,.pc 1 2),(69,tI (((v2.getD 0 default).f2).getD (Int.toNat (w64 (v3 + (w64 (v6 * (((v2.getD 0 default).f1).getD 0 default)))))) default))],hp17 v2 v7⟩ ?_ z0 ⟨(by decide:(0:Int) ≤ (0:Int)),hg.1,hg.2.1,hg.2.2⟩ ?_
         ·kernel_rfl
         refine AAny.share 3 #[y1,y1,y1,y1,y1,y1,y1,y1,y1,y1,y1,y1,y1,y1,y1,n1,n1,n1] ⟨[(4,.pc 0 0),(6,.rp [.int .i64 ((v2.getD 0 default).f0),k0 ((v2.getD 0 default).f1),k0 ((v2.getD 0 default).f2)]),(7,.pc 1 0),(8,tI v3),(45,tI (((v2.getD 0 default).f1).getD 0 default)),(46,tI v3),(52,tI (((v2.getD 0 default).f1).getD 1 default)),(53,tI v6),(57,.al (.cell 1 2,[])),(70,q2 [((v2.getD 0 default).f2).getD (Int.toNat (w64 (v3 + (w64 (v6 * (((v2.getD 0 default).f1).getD 0 default)))))) default])],hp17 v2 v7⟩ ?_ fun n3_=>?_
         ·obtain ⟨hg,h⟩:=of_guard h
          refine AAny.step (i:=15) (fuel':=2) rfl (by kernel_rfl) [(v7.length + [((v2.getD 0 default).f2).getD (Int.toNat (w64 (v3 + (w64 (v6 * (((v2.getD 0 default).f1).getD 0 default)))))) default].length) * 8 ≤ 140737488355328,PlainTo v7.length (fun i=>(cInt .i64) (v7.getD i default)),PlainTo ([((v2.getD 0 default).f2).getD (Int.toNat (w64 (v3 + (w64 (v6 * (((v2.getD 0 default).f1).getD 0 default)))))) default].length) (fun i=>(cInt .i64) ([((v2.getD 0 default).f2).getD (Int.toNat (w64 (v3 + (w64 (v6 * (((v2.getD 0 default).f1).getD 0 default)))))) default].getD i default))] #[y1,y1,y1,y1,y1,y1,y1,y1,y1,y1,y1,y1,y1,y1,y1,y1,n1,n1] rfl [4,6,7,8,45,46,52,53,71] 2 ⟨[(4,.pc 0 0),(6,.rp [.int .i64 ((v2.getD 0 default).f0),k0 ((v2.getD 0 default).f1),k0 ((v2.getD 0 default).f2)]),(7,.pc 1 0),(8,tI v3),(45,tI (((v2.getD 0 default).f1).getD 0 default)),(46,tI v3),(52,tI (((v2.getD 0 default).f1).getD 1 default)),(53,tI v6),(71,.tv (.own 1 3 (v7.length + [((v2.getD 0 default).f2).getD (Int.toNat (w64 (v3 + (w64 (v6 * (((v2.getD 0 default).f1).getD 0 default)))))) default].length) (appF v7.length (fun i=>(cInt .i64) (v7.getD i default)) (fun i=>(cInt .i64) ([((v2.getD 0 default).f2).getD (Int.toNat (w64 (v3 + (w64 (v6 * (((v2.getD 0 default).f1).getD 0 default)))))) default].getD i default)))))],[.cells 60 [.int .i64 (0:Int),nS,nS],.cells 60 [.int .i64 ((v2.getD 0 default).f0),k0 [((v2.getD 0 default).f1).getD 1 default,((v2.getD 0 default).f1).getD 0 default],.hole]]⟩ ?_ z0 ⟨hg,(fun _ _=>rfl),(fun _ _=>rfl)⟩ ?_
          ·kernel_rfl
          refine AAny.extL 71 (cInt .i64) (v7 ++ [((v2.getD 0 default).f2).getD (Int.toNat (w64 (v3 + (w64 (v6 * (((v2.getD 0 default).f1).getD 0 default)))))) default]) rfl List.length_append.symm (app_at (cInt .i64) v7 [((v2.getD 0 default).f2).getD (Int.toNat (w64 (v3 + (w64 (v6 * (((v2.getD 0 default).f1).getD 0 default)))))) default]) ?_
          refine AAny.go (by kernel_rfl) [16] (fuel':=1) rfl [] #[y1,y1,y1,y1,y1,y1,y1,y1,y1,y1,y1,y1,y1,y1,y1,y1,y1,n1] [4,6,7,8,45,46,52,53,71,72] 2 ⟨[(4,.pc 0 0),(6,.rp [.int .i64 ((v2.getD 0 default).f0),k0 ((v2.getD 0 default).f1),k0 ((v2.getD 0 default).f2)]),(7,.pc 1 0),(8,tI v3),(45,tI (((v2.getD 0 default).f1).getD 0 default)),(46,tI v3),(52,tI (((v2.getD 0 default).f1).getD 1 default)),(53,tI v6),(71,q2 (v7 ++ [((v2.getD 0 default).f2).getD (Int.toNat (w64 (v3 + (w64 (v6 * (((v2.getD 0 default).f1).getD 0 default)))))) default])),(72,.pc 1 2)],[.cells 60 [.int .i64 (0:Int),nS,nS],.cells 60 [.int .i64 ((v2.getD 0 default).f0),k0 [((v2.getD 0 default).f1).getD 1 default,((v2.getD 0 default).f1).getD 0 default],.hole]]⟩ ?_ z0 trivial ?_
          ·kernel_rfl
          refine AAny.serial (i:=17) (fuel:=0) (by kernel_rfl) (AOne.own (F:=(FF 110 0)) _ rfl rfl rfl rfl) ?_
          refine AAny.keepTo [4,6,7,8,45,46,52,53] 2 ⟨[(4,.pc 0 0),(6,.rp [.int .i64 ((v2.getD 0 default).f0),k0 ((v2.getD 0 default).f1),k0 ((v2.getD 0 default).f2)]),(7,.pc 1 0),(8,tI v3),(45,tI (((v2.getD 0 default).f1).getD 0 default)),(46,tI v3),(52,tI (((v2.getD 0 default).f1).getD 1 default)),(53,tI v6)],[.cells 60 [.int .i64 (0:Int),nS,nS],.cells 60 [.int .i64 ((v2.getD 0 default).f0),k0 [((v2.getD 0 default).f1).getD 1 default,((v2.getD 0 default).f1).getD 0 default],k3 (v7 ++ [((v2.getD 0 default).f2).getD (Int.toNat (w64 (v3 + (w64 (v6 * (((v2.getD 0 default).f1).getD 0 default)))))) default])]]⟩ #[y1,y1,y1,y1,y1,y1,y1,y1,y1,y1,y1,y1,y1,y1,y1,y1,y1,y1] ?_ rfl z0 ?_
          ·kernel_rfl
          refine AAny.keepTo [4,6,7,8,45,46,52,53] 2 ⟨[(4,.pc 0 0),(6,.rp [.int .i64 ((v2.getD 0 default).f0),k0 ((v2.getD 0 default).f1),k0 ((v2.getD 0 default).f2)]),(7,.pc 1 0),(8,tI v3),(45,tI (((v2.getD 0 default).f1).getD 0 default)),(46,tI v3),(52,tI (((v2.getD 0 default).f1).getD 1 default)),(53,tI v6)],[.cells 60 [.int .i64 (0:Int),nS,nS],.cells 60 [.int .i64 ((v2.getD 0 default).f0),k0 [((v2.getD 0 default).f1).getD 1 default,((v2.getD 0 default).f1).getD 0 default],k3 (v7 ++ [((v2.getD 0 default).f2).getD (Int.toNat (w64 (v3 + (w64 (v6 * (((v2.getD 0 default).f1).getD 0 default)))))) default])]]⟩ _ ?_ rfl z0 (AAny.done (by kernel_rfl) ?_)
          ·kernel_rfl
          refine AWp.start [0,1] [] [] [4,6,7,8,45,46,52,53] 2 ⟨[(4,.pc 0 0),(6,.rp [.int .i64 ((v2.getD 0 default).f0),k0 ((v2.getD 0 default).f1),k0 ((v2.getD 0 default).f2)]),(7,.pc 1 0),(8,tI v3),(45,tI (((v2.getD 0 default).f1).getD 0 default)),(46,tI v3),(52,tI (((v2.getD 0 default).f1).getD 1 default)),(53,tI (w64 (v6 + (1:Int))))],[.cells 60 [.int .i64 (0:Int),nS,nS],.cells 60 [.int .i64 ((v2.getD 0 default).f0),k0 [((v2.getD 0 default).f1).getD 1 default,((v2.getD 0 default).f1).getD 0 default],k3 (v7 ++ [((v2.getD 0 default).f2).getD (Int.toNat (w64 (v3 + (w64 (v6 * (((v2.getD 0 default).f1).getD 0 default)))))) default])]]⟩ rfl ?_ z0 trivial ?_
          ·kernel_rfl
          refine AOps.nil ?_
          cases h
          exact Or.inl ⟨_,rfl,rfl,rfl⟩
         refine AAny.share 4 #[y1,n1,y1,y1,y1,y1,y1,y1,y1,y1,y1,y1,y1,y1,y1,n1,n1,n1] ⟨[(4,.pc 0 0),(6,.rp [.int .i64 ((v2.getD 0 default).f0),k0 ((v2.getD 0 default).f1),k0 ((v2.getD 0 default).f2)]),(7,.pc 1 0),(8,tI v3),(45,tI (((v2.getD 0 default).f1).getD 0 default)),(46,tI v3),(52,tI (((v2.getD 0 default).f1).getD 1 default)),(53,tI v6),(56,.pc 1 2),(70,q2 [((v2.getD 0 default).f2).getD (Int.toNat (w64 (v3 + (w64 (v6 * (((v2.getD 0 default).f1).getD 0 default)))))) default])],hp17 v2 v7⟩ ?_ fun n2_=>?_
         ·refine AAny.each [1] (by kernel_rfl) rfl ?_
          refine AEach.step (i:=1) [] #[y1,y1,y1,y1,y1,y1,y1,y1,y1,y1,y1,y1,y1,y1,y1,n1,n1,n1] rfl [4,6,7,8,45,46,52,53,57,70] 2 ⟨[(4,.pc 0 0),(6,.rp [.int .i64 ((v2.getD 0 default).f0),k0 ((v2.getD 0 default).f1),k0 ((v2.getD 0 default).f2)]),(7,.pc 1 0),(8,tI v3),(45,tI (((v2.getD 0 default).f1).getD 0 default)),(46,tI v3),(52,tI (((v2.getD 0 default).f1).getD 1 default)),(53,tI v6),(57,.al (.cell 1 2,[])),(70,q2 [((v2.getD 0 default).f2).getD (Int.toNat (w64 (v3 + (w64 (v6 * (((v2.getD 0 default).f1).getD 0 default)))))) default])],hp17 v2 v7⟩ ?_ z0 trivial ?_ ?_
          ·kernel_rfl
          ·exact n3_
          exact AEach.nil
         refine AAny.share 4 #[y1,y1,y1,y1,y1,y1,y1,y1,y1,y1,y1,y1,y1,y1,n1,n1,n1,n1] ⟨[(4,.pc 0 0),(6,.rp [.int .i64 ((v2.getD 0 default).f0),k0 ((v2.getD 0 default).f1),k0 ((v2.getD 0 default).f2)]),(7,.pc 1 0),(8,tI v3),(45,tI (((v2.getD 0 default).f1).getD 0 default)),(46,tI v3),(52,tI (((v2.getD 0 default).f1).getD 1 default)),(53,tI v6),(57,.al (.cell 1 2,[])),(69,tI (((v2.getD 0 default).f2).getD (Int.toNat (w64 (v3 + (w64 (v6 * (((v2.getD 0 default).f1).getD 0 default)))))) default))],hp17 v2 v7⟩ ?_ fun n1_=>?_
         ·refine AAny.each [14] (by kernel_rfl) rfl ?_
          refine AEach.step (i:=14) [] #[y1,y1,y1,y1,y1,y1,y1,y1,y1,y1,y1,y1,y1,y1,y1,n1,n1,n1] rfl [4,6,7,8,45,46,52,53,57,70] 2 ⟨[(4,.pc 0 0),(6,.rp [.int .i64 ((v2.getD 0 default).f0),k0 ((v2.getD 0 default).f1),k0 ((v2.getD 0 default).f2)]),(7,.pc 1 0),(8,tI v3),(45,tI (((v2.getD 0 default).f1).getD 0 default)),(46,tI v3),(52,tI (((v2.getD 0 default).f1).getD 1 default)),(53,tI v6),(57,.al (.cell 1 2,[])),(70,.tv (.own 1 3 1 (newRowF [.int .i64 (((v2.getD 0 default).f2).getD (Int.toNat (w64 (v3 + (w64 (v6 * (((v2.getD 0 default).f1).getD 0 default)))))) default)] 1)))],hp17 v2 v7⟩ ?_ z0 trivial ?_ ?_
          ·kernel_rfl
          ·refine AAny.extL 70 (cInt .i64) [((v2.getD 0 default).f2).getD (Int.toNat (w64 (v3 + (w64 (v6 * (((v2.getD 0 default).f1).getD 0 default)))))) default] rfl rfl (row_at (cInt .i64) 1 (fun _=>rfl) [((v2.getD 0 default).f2).getD (Int.toNat (w64 (v3 + (w64 (v6 * (((v2.getD 0 default).f1).getD 0 default)))))) default] _ rfl) ?_
           refine AAny.keepTo [4,6,7,8,45,46,52,53,57,70] 2 ⟨[(4,.pc 0 0),(6,.rp [.int .i64 ((v2.getD 0 default).f0),k0 ((v2.getD 0 default).f1),k0 ((v2.getD 0 default).f2)]),(7,.pc 1 0),(8,tI v3),(45,tI (((v2.getD 0 default).f1).getD 0 default)),(46,tI v3),(52,tI (((v2.getD 0 default).f1).getD 1 default)),(53,tI v6),(57,.al (.cell 1 2,[])),(70,q2 [((v2.getD 0 default).f2).getD (Int.toNat (w64 (v3 + (w64 (v6 * (((v2.getD 0 default).f1).getD 0 default)))))) default])],hp17 v2 v7⟩ #[y1,y1,y1,y1,y1,y1,y1,y1,y1,y1,y1,y1,y1,y1,y1,n1,n1,n1] ?_ rfl z0 ?_
           ·kernel_rfl
           exact n3_
          exact AEach.nil
         refine AAny.each [1,14] (by kernel_rfl) rfl ?_
         refine AEach.step (i:=1) [] #[y1,y1,y1,y1,y1,y1,y1,y1,y1,y1,y1,y1,y1,y1,n1,n1,n1,n1] rfl [4,6,7,8,45,46,52,53,57,69] 2 ⟨[(4,.pc 0 0),(6,.rp [.int .i64 ((v2.getD 0 default).f0),k0 ((v2.getD 0 default).f1),k0 ((v2.getD 0 default).f2)]),(7,.pc 1 0),(8,tI v3),(45,tI (((v2.getD 0 default).f1).getD 0 default)),(46,tI v3),(52,tI (((v2.getD 0 default).f1).getD 1 default)),(53,tI v6),(57,.al (.cell 1 2,[])),(69,tI (((v2.getD 0 default).f2).getD (Int.toNat (w64 (v3 + (w64 (v6 * (((v2.getD 0 default).f1).getD 0 default)))))) default))],hp17 v2 v7⟩ ?_ z0 trivial ?_ ?_
         ·kernel_rfl
         ·exact n1_
         refine AEach.step (i:=14) [] #[y1,n1,y1,y1,y1,y1,y1,y1,y1,y1,y1,y1,y1,y1,y1,n1,n1,n1] rfl [4,6,7,8,45,46,52,53,56,70] 2 ⟨[(4,.pc 0 0),(6,.rp [.int .i64 ((v2.getD 0 default).f0),k0 ((v2.getD 0 default).f1),k0 ((v2.getD 0 default).f2)]),(7,.pc 1 0),(8,tI v3),(45,tI (((v2.getD 0 default).f1).getD 0 default)),(46,tI v3),(52,tI (((v2.getD 0 default).f1).getD 1 default)),(53,tI v6),(56,.pc 1 2),(70,.tv (.own 1 3 1 (newRowF [.int .i64 (((v2.getD 0 default).f2).getD (Int.toNat (w64 (v3 + (w64 (v6 * (((v2.getD 0 default).f1).getD 0 default)))))) default)] 1)))],hp17 v2 v7⟩ ?_ z0 trivial ?_ ?_
         ·kernel_rfl
         ·refine AAny.extL 70 (cInt .i64) [((v2.getD 0 default).f2).getD (Int.toNat (w64 (v3 + (w64 (v6 * (((v2.getD 0 default).f1).getD 0 default)))))) default] rfl rfl (row_at (cInt .i64) 1 (fun _=>rfl) [((v2.getD 0 default).f2).getD (Int.toNat (w64 (v3 + (w64 (v6 * (((v2.getD 0 default).f1).getD 0 default)))))) default] _ rfl) ?_
          refine AAny.keepTo [4,6,7,8,45,46,52,53,56,70] 2 ⟨[(4,.pc 0 0),(6,.rp [.int .i64 ((v2.getD 0 default).f0),k0 ((v2.getD 0 default).f1),k0 ((v2.getD 0 default).f2)]),(7,.pc 1 0),(8,tI v3),(45,tI (((v2.getD 0 default).f1).getD 0 default)),(46,tI v3),(52,tI (((v2.getD 0 default).f1).getD 1 default)),(53,tI v6),(56,.pc 1 2),(70,q2 [((v2.getD 0 default).f2).getD (Int.toNat (w64 (v3 + (w64 (v6 * (((v2.getD 0 default).f1).getD 0 default)))))) default])],hp17 v2 v7⟩ #[y1,n1,y1,y1,y1,y1,y1,y1,y1,y1,y1,y1,y1,y1,y1,n1,n1,n1] ?_ rfl z0 ?_
          ·kernel_rfl
          exact n2_
         exact AEach.nil
        ·replace h:=of_false h hb
         refine AWp.keepTo [4,6,7,45,46] 2 ⟨[(4,.pc 0 0),(6,.rp [.int .i64 ((v2.getD 0 default).f0),k0 ((v2.getD 0 default).f1),k0 ((v2.getD 0 default).f2)]),(7,.pc 1 0),(45,tI (((v2.getD 0 default).f1).getD 0 default)),(46,tI v3)],hp17 v2 v7⟩ ?_ z0 ?_
         ·kernel_rfl
         refine AWp.exit ?_
         cases h
         exact Or.inr ⟨_,rfl,by simp,rfl,rfl⟩
       ·intro e σ hp
        rcases y with v9 | v8
        ·obtain ⟨rfl,rfl⟩:=hp
         cases h
         exact Or.inr ⟨_,rfl,by simp,rfl,rfl⟩
        ·obtain ⟨rfl,rfl⟩:=hp
         refine AWp.start [0,1] [] [] [4,6,7,45,46] 2 ⟨[(4,.pc 0 0),(6,.rp [.int .i64 ((v2.getD 0 default).f0),k0 ((v2.getD 0 default).f1),k0 ((v2.getD 0 default).f2)]),(7,.pc 1 0),(45,tI (((v2.getD 0 default).f1).getD 0 default)),(46,tI (w64 (v3 + (1:Int))))],[.cells 60 [.int .i64 (0:Int),nS,nS],.cells 60 [.int .i64 ((v2.getD 0 default).f0),k0 [((v2.getD 0 default).f1).getD 1 default,((v2.getD 0 default).f1).getD 0 default],k3 v8]]⟩ rfl ?_ z0 trivial ?_
         ·kernel_rfl
         refine AOps.nil ?_
         cases h
         exact Or.inl ⟨_,rfl,rfl,rfl⟩
      ·replace h:=of_false h hb
       refine AWp.keepTo [4,7] 2 ⟨[(4,.pc 0 0),(7,.pc 1 0)],hp19 v2 v4⟩ ?_ z0 ?_
       ·kernel_rfl
       refine AWp.exit ?_
       cases h
       exact Or.inr ⟨_,rfl,by simp,rfl,rfl⟩
     ·intro e σ hp
      rcases y with v10 | v5
      ·obtain ⟨rfl,rfl⟩:=hp
       cases h
       exact ⟨.inr rfl,rfl⟩
      ·obtain ⟨rfl,rfl⟩:=hp
       refine AWp.seq ?_
       refine AWp.freezeC 1 2 (cInt .i64) v5 rfl (fun _=>rfl) ?_
       refine AWp.pin 1 rfl rfl ?_
       refine AWp.keepTo [4,7] 1 ⟨[(4,.pc 0 0),(7,.rp [.int .i64 ((v2.getD 0 default).f0),k0 [((v2.getD 0 default).f1).getD 1 default,((v2.getD 0 default).f1).getD 0 default],k0 v5])],[.cells 60 [.int .i64 (0:Int),nS,nS]]⟩ ?_ z0 ?_
       ·kernel_rfl
       refine AWp.start [0,1,2] [] [] [4,5] 1 ⟨[(4,.pc 0 0),(5,tI (0:Int))],[.cells 60 [.int .i64 ((v2.getD 0 default).f0),k0 [((v2.getD 0 default).f1).getD 1 default,((v2.getD 0 default).f1).getD 0 default],k0 v5]]⟩ rfl ?_ z0 trivial ?_
       ·kernel_rfl
       refine AOps.nil ?_
       refine AWp.pin 0 rfl rfl ?_
       refine AWp.keepTo [4,5] 0 ⟨[(4,.rp [.int .i64 ((v2.getD 0 default).f0),k0 [((v2.getD 0 default).f1).getD 1 default,((v2.getD 0 default).f1).getD 0 default],k0 v5]),(5,tI (0:Int))],[]⟩ ?_ z0 ?_
       ·kernel_rfl
       refine AWp.ret ?_
       cases h
       exact ⟨.inr rfl,rfl⟩
    refine AAny.share 2 #[y1,y1,y1,y1,y1,y1,y1,y1,y1,y1,y1,y1,n1,n1] ⟨[(4,.pc 0 0),(6,.rp [.int .i64 ((v2.getD 0 default).f0),k0 ((v2.getD 0 default).f1),k0 ((v2.getD 0 default).f2)]),(41,.agg [.int .i64 ((v2.getD 0 default).f0),k0 [((v2.getD 0 default).f1).getD 1 default,((v2.getD 0 default).f1).getD 0 default],nS])],[.cells 60 [.int .i64 (0:Int),nS,nS]]⟩ ?_ fun n1_=>?_
    ·refine AAny.each [12] (by kernel_rfl) rfl ?_
     refine AEach.step (i:=12) [] #[y1,y1,y1,y1,y1,y1,y1,y1,y1,y1,y1,y1,y1,n1] rfl [4,6,7,41] 2 ⟨[(4,.pc 0 0),(6,.rp [.int .i64 ((v2.getD 0 default).f0),k0 ((v2.getD 0 default).f1),k0 ((v2.getD 0 default).f2)]),(7,.pc 1 0),(41,.agg [.int .i64 ((v2.getD 0 default).f0),k0 [((v2.getD 0 default).f1).getD 1 default,((v2.getD 0 default).f1).getD 0 default],nS])],hp18⟩ ?_ z0 trivial ?_ ?_
     ·kernel_rfl
     ·exact n3_
     exact AEach.nil
    refine AAny.share 3 #[y1,y1,y1,y1,y1,y1,y1,y1,y1,y1,n1,n1,y1,n1] ⟨[(4,.pc 0 0),(6,.rp [.int .i64 ((v2.getD 0 default).f0),k0 ((v2.getD 0 default).f1),k0 ((v2.getD 0 default).f2)]),(7,.pc 1 0),(31,tI ((v2.getD 0 default).f0)),(35,tI (((v2.getD 0 default).f1).getD 1 default)),(39,tI (((v2.getD 0 default).f1).getD 0 default))],hp18⟩ ?_ fun n2_=>?_
    ·refine AAny.each [10] (by kernel_rfl) rfl ?_
     refine AEach.step (i:=10) [] #[y1,y1,y1,y1,y1,y1,y1,y1,y1,y1,y1,n1,y1,n1] rfl [4,6,7,31,40] 2 ⟨[(4,.pc 0 0),(6,.rp [.int .i64 ((v2.getD 0 default).f0),k0 ((v2.getD 0 default).f1),k0 ((v2.getD 0 default).f2)]),(7,.pc 1 0),(31,tI ((v2.getD 0 default).f0)),(40,.tv (.own 1 3 2 (newRowF [.int .i64 (((v2.getD 0 default).f1).getD 1 default),.int .i64 (((v2.getD 0 default).f1).getD 0 default)] 1)))],hp18⟩ ?_ z0 trivial ?_ ?_
     ·kernel_rfl
     ·refine AAny.extL 40 (cInt .i64) [((v2.getD 0 default).f1).getD 1 default,((v2.getD 0 default).f1).getD 0 default] rfl rfl (row_at (cInt .i64) 1 (fun _=>rfl) [((v2.getD 0 default).f1).getD 1 default,((v2.getD 0 default).f1).getD 0 default] _ rfl) ?_
      refine AAny.freezeL 40 (cInt .i64) [((v2.getD 0 default).f1).getD 1 default,((v2.getD 0 default).f1).getD 0 default] rfl (fun _=>rfl) ?_
      refine AAny.go (by kernel_rfl) [11] (fuel':=1) rfl [] #[y1,y1,y1,y1,y1,y1,y1,y1,y1,y1,y1,y1,y1,n1] [4,6,7,41] 2 ⟨[(4,.pc 0 0),(6,.rp [.int .i64 ((v2.getD 0 default).f0),k0 ((v2.getD 0 default).f1),k0 ((v2.getD 0 default).f2)]),(7,.pc 1 0),(41,.agg [.int .i64 ((v2.getD 0 default).f0),k0 [((v2.getD 0 default).f1).getD 1 default,((v2.getD 0 default).f1).getD 0 default],nS])],hp18⟩ ?_ z0 trivial ?_
      ·kernel_rfl
      exact n3_
     exact AEach.nil
    refine AAny.each [10,12] (by kernel_rfl) rfl ?_
    refine AEach.step (i:=10) [] #[y1,y1,y1,y1,y1,y1,y1,y1,y1,y1,y1,n1,n1,n1] rfl [4,6,31,40] 1 ⟨[(4,.pc 0 0),(6,.rp [.int .i64 ((v2.getD 0 default).f0),k0 ((v2.getD 0 default).f1),k0 ((v2.getD 0 default).f2)]),(31,tI ((v2.getD 0 default).f0)),(40,.tv (.own 1 3 2 (newRowF [.int .i64 (((v2.getD 0 default).f1).getD 1 default),.int .i64 (((v2.getD 0 default).f1).getD 0 default)] 1)))],[.cells 60 [.int .i64 (0:Int),nS,nS]]⟩ ?_ z0 trivial ?_ ?_
    ·kernel_rfl
    ·refine AAny.extL 40 (cInt .i64) [((v2.getD 0 default).f1).getD 1 default,((v2.getD 0 default).f1).getD 0 default] rfl rfl (row_at (cInt .i64) 1 (fun _=>rfl) [((v2.getD 0 default).f1).getD 1 default,((v2.getD 0 default).f1).getD 0 default] _ rfl) ?_
     refine AAny.freezeL 40 (cInt .i64) [((v2.getD 0 default).f1).getD 1 default,((v2.getD 0 default).f1).getD 0 default] rfl (fun _=>rfl) ?_
     refine AAny.go (by kernel_rfl) [11] (fuel':=2) rfl [] #[y1,y1,y1,y1,y1,y1,y1,y1,y1,y1,y1,y1,n1,n1] [4,6,41] 1 ⟨[(4,.pc 0 0),(6,.rp [.int .i64 ((v2.getD 0 default).f0),k0 ((v2.getD 0 default).f1),k0 ((v2.getD 0 default).f2)]),(41,.agg [.int .i64 ((v2.getD 0 default).f0),k0 [((v2.getD 0 default).f1).getD 1 default,((v2.getD 0 default).f1).getD 0 default],nS])],[.cells 60 [.int .i64 (0:Int),nS,nS]]⟩ ?_ z0 trivial ?_
     ·kernel_rfl
     exact n1_
    refine AEach.step (i:=12) [] #[y1,y1,y1,y1,y1,y1,y1,y1,y1,y1,n1,n1,y1,n1] rfl [4,6,7,31,35,39] 2 ⟨[(4,.pc 0 0),(6,.rp [.int .i64 ((v2.getD 0 default).f0),k0 ((v2.getD 0 default).f1),k0 ((v2.getD 0 default).f2)]),(7,.pc 1 0),(31,tI ((v2.getD 0 default).f0)),(35,tI (((v2.getD 0 default).f1).getD 1 default)),(39,tI (((v2.getD 0 default).f1).getD 0 default))],hp18⟩ ?_ z0 trivial ?_ ?_
    ·kernel_rfl
    ·exact n2_
    exact AEach.nil
  ·replace h:=of_false h hb
   refine AWp.keepTo [1,4,6,13] 1 ⟨[(1,q5 v2),(4,.pc 0 0),(6,.rp [.int .i64 ((v2.getD 0 default).f0),k0 ((v2.getD 0 default).f1),k0 ((v2.getD 0 default).f2)]),(13,tS v1)],[.cells 60 [.int .i64 (0:Int),nS,nS]]⟩ ?_ z0 ?_
   ·kernel_rfl
   refine AWp.seq ?_
   refine AWp.start [0,1] [] [] [1,4,6,13,76] 1 ⟨[(1,q5 v2),(4,.pc 0 0),(6,.rp [.int .i64 ((v2.getD 0 default).f0),k0 ((v2.getD 0 default).f1),k0 ((v2.getD 0 default).f2)]),(13,tS v1),(76,tB (v1 == ([109,97,116,109,117,108]:List UInt8)))],[.cells 60 [.int .i64 (0:Int),nS,nS]]⟩ rfl ?_ z0 trivial ?_
   ·kernel_rfl
   refine AOps.nil ?_
   refine AWp.cond rfl (fun hb=>?_) fun hb=>?_
   ·replace h:=of_true h hb
    refine AWp.keepTo [1,4,6] 1 ⟨[(1,q5 v2),(4,.pc 0 0),(6,.rp [.int .i64 ((v2.getD 0 default).f0),k0 ((v2.getD 0 default).f1),k0 ((v2.getD 0 default).f2)])],[.cells 60 [.int .i64 (0:Int),nS,nS]]⟩ ?_ z0 ?_
    ·kernel_rfl
    refine AWp.seq ?_
    refine AWp.draw FFm _ (n:=9) rfl (ls:=#[n1,n1,n1,n1,n1,n1,n1,n1,n1]) rfl ?_ (fun _ h=>h)
    obtain ⟨hg,h⟩:=of_guard h
    refine AAny.go (by kernel_rfl) [0,1,2,3] (fuel':=5) rfl [(0:Int) ≤ (1:Int),(1:Int) < (v2.length:Int)] #[y1,y1,y1,y1,n1,n1,n1,n1,n1] [4,78,81] 1 ⟨[(4,.pc 0 0),(78,.agg [.int .i64 ((v2.getD 0 default).f0),k0 ((v2.getD 0 default).f1),k0 ((v2.getD 0 default).f2)]),(81,.agg [.int .i64 ((v2.getD 1 default).f0),k0 ((v2.getD 1 default).f1),k0 ((v2.getD 1 default).f2)])],[.cells 60 [.int .i64 (0:Int),nS,nS]]⟩ ?_ z0 ⟨(by decide:(0:Int) ≤ (1:Int)),hg⟩ ?_
    ·kernel_rfl
    obtain ⟨v11,hv11,h⟩:=of_bind h
    refine AAny.serial (i:=4) (fuel:=4) (by kernel_rfl) (AOne.callP (F:=(FF 110 0)) _ rfl rfl rfl _ rfl rfl _ _ rfl Tryz.call78 [.agg [.int .i64 ((v2.getD 0 default).f0),k0 ((v2.getD 0 default).f1),k0 ((v2.getD 0 default).f2)],.agg [.int .i64 ((v2.getD 1 default).f0),k0 ((v2.getD 1 default).f1),k0 ((v2.getD 1 default).f2)]] rfl rfl (f78_ok (v2.getD 0 default) (v2.getD 1 default) hv11) rfl) ?_
    refine AAny.keepTo [4,82] 1 ⟨[(4,.pc 0 0),(82,.tup [.agg [.int .i64 v11.1.f0,k0 v11.1.f1,k0 v11.1.f2],tI v11.2])],[.cells 60 [.int .i64 (0:Int),nS,nS]]⟩ #[y1,y1,y1,y1,y1,n1,n1,n1,n1] ?_ rfl z0 ?_
    ·kernel_rfl
    refine AAny.go (by kernel_rfl) [5,6] (fuel':=2) rfl [] #[y1,y1,y1,y1,y1,y1,y1,n1,n1] [4,83,84] 1 ⟨[(4,.pc 0 0),(83,.agg [.int .i64 v11.1.f0,k0 v11.1.f1,k0 v11.1.f2]),(84,tI v11.2)],[.cells 60 [.int .i64 (0:Int),nS,nS]]⟩ ?_ z0 trivial ?_
    ·kernel_rfl
    refine AAny.step (i:=7) (fuel':=1) rfl (by kernel_rfl) [] #[y1,y1,y1,y1,y1,y1,y1,y1,n1] rfl [4,84] 1 ⟨[(4,.pc 0 0),(84,tI v11.2)],[.cells 60 [.int .i64 v11.1.f0,k0 v11.1.f1,k0 v11.1.f2]]⟩ ?_ z0 trivial ?_
    ·kernel_rfl
    refine AAny.go (by kernel_rfl) [8] (fuel':=0) rfl [] #[y1,y1,y1,y1,y1,y1,y1,y1,y1] [4,5] 1 ⟨[(4,.pc 0 0),(5,tI v11.2)],[.cells 60 [.int .i64 v11.1.f0,k0 v11.1.f1,k0 v11.1.f2]]⟩ ?_ z0 trivial ?_
    ·kernel_rfl
    refine AAny.keepTo [4,5] 1 ⟨[(4,.pc 0 0),(5,tI v11.2)],[.cells 60 [.int .i64 v11.1.f0,k0 v11.1.f1,k0 v11.1.f2]]⟩ _ ?_ rfl z0 (AAny.done (by kernel_rfl) ?_)
    ·kernel_rfl
    refine AWp.pin 0 rfl rfl ?_
    refine AWp.keepTo [4,5] 0 ⟨[(4,.rp [.int .i64 v11.1.f0,k0 v11.1.f1,k0 v11.1.f2]),(5,tI v11.2)],[]⟩ ?_ z0 ?_
    ·kernel_rfl
    refine AWp.ret ?_
    cases h
    exact ⟨.inr rfl,rfl⟩
   ·replace h:=of_false h hb
    refine AWp.keepTo [1,4,6,13] 1 ⟨[(1,q5 v2),(4,.pc 0 0),(6,.rp [.int .i64 ((v2.getD 0 default).f0),k0 ((v2.getD 0 default).f1),k0 ((v2.getD 0 default).f2)]),(13,tS v1)],[.cells 60 [.int .i64 (0:Int),nS,nS]]⟩ ?_ z0 ?_
    ·kernel_rfl
    refine AWp.seq ?_
    refine AWp.start [0,1] [] [] [1,4,6,13,85] 1 ⟨[(1,q5 v2),(4,.pc 0 0),(6,.rp [.int .i64 ((v2.getD 0 default).f0),k0 ((v2.getD 0 default).f1),k0 ((v2.getD 0 default).f2)]),(13,tS v1),(85,tB (v1 == ([99,115,104,105,102,116]:List UInt8)))],[.cells 60 [.int .i64 (0:Int),nS,nS]]⟩ rfl ?_ z0 trivial ?_
    ·kernel_rfl
    refine AOps.nil ?_
    refine AWp.cond rfl (fun hb=>?_) fun hb=>?_
    ·replace h:=of_true h hb
     refine AWp.keepTo [1,4,6] 1 ⟨[(1,q5 v2),(4,.pc 0 0),(6,.rp [.int .i64 ((v2.getD 0 default).f0),k0 ((v2.getD 0 default).f1),k0 ((v2.getD 0 default).f2)])],[.cells 60 [.int .i64 (0:Int),nS,nS]]⟩ ?_ z0 ?_
     ·kernel_rfl
     refine AWp.seq ?_
     cases h
    ·replace h:=of_false h hb
     refine AWp.keepTo [1,4,6,13] 1 ⟨[(1,q5 v2),(4,.pc 0 0),(6,.rp [.int .i64 ((v2.getD 0 default).f0),k0 ((v2.getD 0 default).f1),k0 ((v2.getD 0 default).f2)]),(13,tS v1)],[.cells 60 [.int .i64 (0:Int),nS,nS]]⟩ ?_ z0 ?_
     ·kernel_rfl
     refine AWp.seq ?_
     refine AWp.start [0,1] [] [] [1,4,6,94] 1 ⟨[(1,q5 v2),(4,.pc 0 0),(6,.rp [.int .i64 ((v2.getD 0 default).f0),k0 ((v2.getD 0 default).f1),k0 ((v2.getD 0 default).f2)]),(94,tB (v1 == ([115,112,114,101,97,100]:List UInt8)))],[.cells 60 [.int .i64 (0:Int),nS,nS]]⟩ rfl ?_ z0 trivial ?_
     ·kernel_rfl
     refine AOps.nil ?_
     refine AWp.cond rfl (fun hb=>?_) fun hb=>?_
     ·replace h:=of_true h hb
      refine AWp.keepTo [1,4,6] 1 ⟨[(1,q5 v2),(4,.pc 0 0),(6,.rp [.int .i64 ((v2.getD 0 default).f0),k0 ((v2.getD 0 default).f1),k0 ((v2.getD 0 default).f2)])],[.cells 60 [.int .i64 (0:Int),nS,nS]]⟩ ?_ z0 ?_
      ·kernel_rfl
      refine AWp.seq ?_
      cases h
     ·replace h:=of_false h hb
      refine AWp.keepTo [1,4,6] 1 ⟨[(1,q5 v2),(4,.pc 0 0),(6,.rp [.int .i64 ((v2.getD 0 default).f0),k0 ((v2.getD 0 default).f1),k0 ((v2.getD 0 default).f2)])],[.cells 60 [.int .i64 (0:Int),nS,nS]]⟩ ?_ z0 ?_
      ·kernel_rfl
      refine AWp.skip ?_
      refine AWp.seq ?_
      cases h

noncomputable def f17_j1 (v1:List UInt8) (v2:List T59) (v10:Bool):Option (T59 × Int) :=
 cond v10 none ((f42 v1 v2).bind fun v11=>some (v11.1,v11.2))

noncomputable def f17_j2 (v1:List UInt8) (v2:List T59) (v9:Bool):Option (T59 × Int) :=
 cond v9 none (cond (v1 == ([109,97,120,108,111,99]:List UInt8)) (f17_j1 v1 v2 (v1 == ([109,97,120,108,111,99]:List UInt8))) (f17_j1 v1 v2 (v1 == ([109,105,110,108,111,99]:List UInt8))))

noncomputable def f17_j3 (v1:List UInt8) (v2:List T59) (v8:Bool):Option (T59 × Int) :=
 cond v8 none (cond (v1 == ([115,117,109]:List UInt8)) (f17_j2 v1 v2 (v1 == ([115,117,109]:List UInt8))) (cond (v1 == ([112,114,111,100,117,99,116]:List UInt8)) (f17_j2 v1 v2 (v1 == ([112,114,111,100,117,99,116]:List UInt8))) (cond (v1 == ([109,97,120,118,97,108]:List UInt8)) (f17_j2 v1 v2 (v1 == ([109,97,120,118,97,108]:List UInt8))) (cond (v1 == ([109,105,110,118,97,108]:List UInt8)) (f17_j2 v1 v2 (v1 == ([109,105,110,118,97,108]:List UInt8))) (cond (v1 == ([97,108,108]:List UInt8)) (f17_j2 v1 v2 (v1 == ([97,108,108]:List UInt8))) (cond (v1 == ([97,110,121]:List UInt8)) (f17_j2 v1 v2 (v1 == ([97,110,121]:List UInt8))) (cond (v1 == ([99,111,117,110,116]:List UInt8)) (f17_j2 v1 v2 (v1 == ([99,111,117,110,116]:List UInt8))) (cond (v1 == ([115,105,122,101]:List UInt8)) (f17_j2 v1 v2 (v1 == ([115,105,122,101]:List UInt8))) (f17_j2 v1 v2 (v1 == ([115,104,97,112,101]:List UInt8)))))))))))

noncomputable def f17 (v1:List UInt8) (v2:List T59):Option (T59 × Int) :=
 (f35 v1).bind fun v3=>(cond (v3.2 == (0:Int)) (some true) (some (decide ((v2.length:Int) < v3.1)))).bind fun v4=>(cond v4 (some true) (some (decide ((v2.length:Int) > v3.2)))).bind fun v5=>(cond v5 (some true) ((f36_37 v2).bind fun v7=>some v7)).bind fun v6=>cond v6 (some (T59.mk (0:Int) ([]:List Int) ([]:List Int),(2:Int))) (cond (v1 == ([97,98,115]:List UInt8)) (f17_j3 v1 v2 (v1 == ([97,98,115]:List UInt8))) (cond (v1 == ([105,110,116]:List UInt8)) (f17_j3 v1 v2 (v1 == ([105,110,116]:List UInt8))) (cond (v1 == ([114,101,97,108]:List UInt8)) (f17_j3 v1 v2 (v1 == ([114,101,97,108]:List UInt8))) (cond (v1 == ([100,98,108,101]:List UInt8)) (f17_j3 v1 v2 (v1 == ([100,98,108,101]:List UInt8))) (cond (v1 == ([109,111,100]:List UInt8)) (f17_j3 v1 v2 (v1 == ([109,111,100]:List UInt8))) (cond (v1 == ([109,105,110]:List UInt8)) (f17_j3 v1 v2 (v1 == ([109,105,110]:List UInt8))) (cond (v1 == ([109,97,120]:List UInt8)) (f17_j3 v1 v2 (v1 == ([109,97,120]:List UInt8))) (cond (v1 == ([109,101,114,103,101]:List UInt8)) (f17_j3 v1 v2 (v1 == ([109,101,114,103,101]:List UInt8))) (f17_j3 v1 v2 (v1 == ([115,113,114,116]:List UInt8)))))))))))

theorem f17_ok (v1:List UInt8) (v2:List T59) {r:T59 × Int} (h:f17 v1 v2 = some r):ACall Tryz.prog 17 [.tv (.str v1),.tv (fzL 3 c59 v2)] [] (.tup [.agg [.int .i64 r.1.f0,fzL 1 (cInt .i64) r.1.f1,fzL 1 (cInt .i64) r.1.f2],.tv (.int .i64 r.2)]) []:=by
 refine ACall.ofNc (FF 80 0) (rs:=[4,5]) (sv:=(.agg [.int .i64 r.1.f0,k0 r.1.f1,k0 r.1.f2])) (cells0:=[.int .i64 r.1.f0,k0 r.1.f1,k0 r.1.f2]) 4 60 (env0:=[(4,.rp [.int .i64 r.1.f0,k0 r.1.f1,k0 r.1.f2]),(5,tI r.2)]) (env:=[(4,.agg [.int .i64 r.1.f0,k0 r.1.f1,k0 r.1.f2]),(5,tI r.2)]) Tryz.func17 rfl Tryz.ntmps17 (by kernel_rfl) (by decide) (by decide) rfl (zz rfl) rfl rfl rfl (by kernel_rfl) rfl [4,5] 0 z0 rfl (get_ofN _ _ _ rfl) (ok_ofN _ rfl) ?_
 refine AWp.seq ?_
 refine AWp.start [0,1] [] [] [0,1,4] 1 ⟨[(0,tS v1),(1,q5 v2),(4,.pc 0 0)],[.cells 60 [.int .i64 (0:Int),nS,nS]]⟩ rfl ?_ z0 trivial ?_
 ·kernel_rfl
 refine AOps.nil ?_
 refine AWp.seq ?_
 refine AWp.start [0] [1,2,3,4,5,6] [] [0,1,4,9] 1 ⟨[(0,tS v1),(1,q5 v2),(4,.pc 0 0),(9,tS v1)],[.cells 60 [.int .i64 (0:Int),nS,nS]]⟩ rfl ?_ z0 trivial ?_
 ·kernel_rfl
 obtain ⟨v3,hv3,h⟩:=of_bind h
 refine AOps.cons (AOne.callP (F:=(FF 80 0)) _ rfl rfl rfl _ rfl rfl _ _ rfl Tryz.call35 [tS v1] rfl rfl (f35_ok v1 hv3) rfl) ?_
 refine AOps.go [2,3,4,5,6] [] [] [0,1,4,6,7] 1 ⟨[(0,tS v1),(1,q5 v2),(4,.pc 0 0),(6,tI v3.1),(7,tI v3.2)],[.cells 60 [.int .i64 (0:Int),nS,nS]]⟩ ?_ z0 trivial ?_
 ·kernel_rfl
 refine AOps.nil ?_
 refine AWp.seq ?_
 refine AWp.seq ?_
 refine AWp.start [0,1,2] [3,4,5,6,7,8,9,10,11,12,13,14,15,16,17] [] [0,1,4,6,7,15] 1 ⟨[(0,tS v1),(1,q5 v2),(4,.pc 0 0),(6,tI v3.1),(7,tI v3.2),(15,tB (v3.2 == (0:Int)))],[.cells 60 [.int .i64 (0:Int),nS,nS]]⟩ rfl ?_ z0 trivial ?_
 ·kernel_rfl
 obtain ⟨v4,hc3,h⟩:=of_bind h
 refine AOps.cut [3,4,5,6,7] [8,9,10,11,12,13,14,15,16,17] (fun σ=>σ = ⟨[(0,tS v1),(1,q5 v2),(4,.pc 0 0),(7,tI v3.2),(20,tB v4)],[.cells 60 [.int .i64 (0:Int),nS,nS]]⟩) ?_ fun σ' hJ=>?_
 ·refine AOps.split (fun b=>⟨[(0,tS v1),(1,q5 v2),(4,.pc 0 0),(6,tI v3.1),(7,tI v3.2),(15,tB b)],[.cells 60 [.int .i64 (0:Int),nS,nS]]⟩) _ (fun hb=>?_) fun hb=>?_
  ·replace hc3:=of_true hc3 hb
   refine AOps.go [3,4,5,6,7] [] [] [0,1,4,7,20] 1 ⟨[(0,tS v1),(1,q5 v2),(4,.pc 0 0),(7,tI v3.2),(20,tB true)],[.cells 60 [.int .i64 (0:Int),nS,nS]]⟩ ?_ z0 trivial ?_
   ·kernel_rfl
   cases hc3
   exact AOps.nil rfl
  ·replace hc3:=of_false hc3 hb
   refine AOps.go [3,4,5,6,7] [] [] [0,1,4,7,20] 1 ⟨[(0,tS v1),(1,q5 v2),(4,.pc 0 0),(7,tI v3.2),(20,tB (decide ((v2.length:Int) < v3.1)))],[.cells 60 [.int .i64 (0:Int),nS,nS]]⟩ ?_ z0 trivial ?_
   ·kernel_rfl
   cases hc3
   exact AOps.nil rfl
 subst hJ
 refine AOps.go [8] [9,10,11,12,13,14,15,16,17] [] [0,1,4,7,21] 1 ⟨[(0,tS v1),(1,q5 v2),(4,.pc 0 0),(7,tI v3.2),(21,tB v4)],[.cells 60 [.int .i64 (0:Int),nS,nS]]⟩ ?_ z0 trivial ?_
 ·kernel_rfl
 obtain ⟨v5,hc9,h⟩:=of_bind h
 refine AOps.cut [9,10,11,12,13] [14,15,16,17] (fun σ=>σ = ⟨[(0,tS v1),(1,q5 v2),(4,.pc 0 0),(26,tB v5)],[.cells 60 [.int .i64 (0:Int),nS,nS]]⟩) ?_ fun σ' hJ=>?_
 ·refine AOps.split (fun b=>⟨[(0,tS v1),(1,q5 v2),(4,.pc 0 0),(7,tI v3.2),(21,tB b)],[.cells 60 [.int .i64 (0:Int),nS,nS]]⟩) _ (fun hb=>?_) fun hb=>?_
  ·replace hc9:=of_true hc9 hb
   refine AOps.go [9,10,11,12,13] [] [] [0,1,4,26] 1 ⟨[(0,tS v1),(1,q5 v2),(4,.pc 0 0),(26,tB true)],[.cells 60 [.int .i64 (0:Int),nS,nS]]⟩ ?_ z0 trivial ?_
   ·kernel_rfl
   cases hc9
   exact AOps.nil rfl
  ·replace hc9:=of_false hc9 hb
   refine AOps.go [9,10,11,12,13] [] [] [0,1,4,26] 1 ⟨[(0,tS v1),(1,q5 v2),(4,.pc 0 0),(26,tB (decide ((v2.length:Int) > v3.2)))],[.cells 60 [.int .i64 (0:Int),nS,nS]]⟩ ?_ z0 trivial ?_
   ·kernel_rfl
   cases hc9
   exact AOps.nil rfl
 subst hJ
 refine AOps.go [14] [15,16,17] [] [0,1,4,27] 1 ⟨[(0,tS v1),(1,q5 v2),(4,.pc 0 0),(27,tB v5)],[.cells 60 [.int .i64 (0:Int),nS,nS]]⟩ ?_ z0 trivial ?_
 ·kernel_rfl
 obtain ⟨v6,hc15,h⟩:=of_bind h
 refine AOps.cut [15,16,17] [] (fun σ=>σ = ⟨[(0,tS v1),(1,q5 v2),(4,.pc 0 0),(30,tB v6)],[.cells 60 [.int .i64 (0:Int),nS,nS]]⟩) ?_ fun σ' hJ=>?_
 ·refine AOps.split (fun b=>⟨[(0,tS v1),(1,q5 v2),(4,.pc 0 0),(27,tB b)],[.cells 60 [.int .i64 (0:Int),nS,nS]]⟩) _ (fun hb=>?_) fun hb=>?_
  ·replace hc15:=of_true hc15 hb
   refine AOps.go [15,16,17] [] [] [0,1,4,30] 1 ⟨[(0,tS v1),(1,q5 v2),(4,.pc 0 0),(30,tB true)],[.cells 60 [.int .i64 (0:Int),nS,nS]]⟩ ?_ z0 trivial ?_
   ·kernel_rfl
   cases hc15
   exact AOps.nil rfl
  ·replace hc15:=of_false hc15 hb
   refine AOps.go [15] [16,17] [] [0,1,4,27,28] 1 ⟨[(0,tS v1),(1,q5 v2),(4,.pc 0 0),(27,tB false),(28,q5 v2)],[.cells 60 [.int .i64 (0:Int),nS,nS]]⟩ ?_ z0 trivial ?_
   ·kernel_rfl
   obtain ⟨v7,hv7,hc15⟩:=of_bind hc15
   refine AOps.cons (AOne.callP (F:=(FF 80 0)) _ rfl rfl rfl _ rfl rfl _ _ rfl Tryz.call36 [q5 v2,.fn 37 []] rfl rfl (f36_37_ok v2 hv7) rfl) ?_
   refine AOps.go [17] [] [] [0,1,4,30] 1 ⟨[(0,tS v1),(1,q5 v2),(4,.pc 0 0),(30,tB v7)],[.cells 60 [.int .i64 (0:Int),nS,nS]]⟩ ?_ z0 trivial ?_
   ·kernel_rfl
   cases hc15
   exact AOps.nil rfl
 subst hJ
 refine AOps.nil ?_
 refine AWp.cond rfl (fun hb=>?_) fun hb=>?_
 ·replace h:=of_true h hb
  refine AWp.keepTo [4] 1 ⟨[(4,.pc 0 0)],[.cells 60 [.int .i64 (0:Int),nS,nS]]⟩ ?_ z0 ?_
  ·kernel_rfl
  refine AWp.seq ?_
  refine AWp.start [0,1,2] [] [] [4,5] 1 ⟨[(4,.pc 0 0),(5,tI (2:Int))],[.cells 60 [.int .i64 (0:Int),nS,nS]]⟩ rfl ?_ z0 trivial ?_
  ·kernel_rfl
  refine AOps.nil ?_
  refine AWp.retell 0 1 rfl (.nilFz 1 (fun i=>(cInt .i64) (([]:List Int).getD i default))) ?_
  refine AWp.retell 0 2 rfl (.nilFz 1 (fun i=>(cInt .i64) (([]:List Int).getD i default))) ?_
  refine AWp.pin 0 rfl rfl ?_
  refine AWp.keepTo [4,5] 0 ⟨[(4,.rp [.int .i64 (0:Int),k0 ([]:List Int),k0 ([]:List Int)]),(5,tI (2:Int))],[]⟩ ?_ z0 ?_
  ·kernel_rfl
  refine AWp.ret ?_
  cases h
  exact ⟨.inr rfl,rfl⟩
 ·replace h:=of_false h hb
  refine AWp.keepTo [0,1,4] 1 ⟨[(0,tS v1),(1,q5 v2),(4,.pc 0 0)],[.cells 60 [.int .i64 (0:Int),nS,nS]]⟩ ?_ z0 ?_
  ·kernel_rfl
  refine AWp.skip ?_
  refine AWp.seq ?_
  refine AWp.seq ?_
  refine AWp.start [0] [] [] [0,1,4,32] 1 ⟨[(0,tS v1),(1,q5 v2),(4,.pc 0 0),(32,tS v1)],[.cells 60 [.int .i64 (0:Int),nS,nS]]⟩ rfl ?_ z0 trivial ?_
  ·kernel_rfl
  refine AOps.nil ?_
  refine AWp.block ?_
  refine AWp.join (V:=Bool) (fun w=>⟨[(0,tS v1),(1,q5 v2),(4,.pc 0 0),(32,tS v1),(33,tB w)],[.cells 60 [.int .i64 (0:Int),nS,nS]]⟩) (fun w=>f17_j3 v1 v2 w = some r) ?_ ?_
  ·refine AWp.seq ?_
   refine AWp.start [0,1] [] [] [0,1,4,32,33] 1 ⟨[(0,tS v1),(1,q5 v2),(4,.pc 0 0),(32,tS v1),(33,tB (v1 == ([97,98,115]:List UInt8)))],[.cells 60 [.int .i64 (0:Int),nS,nS]]⟩ rfl ?_ z0 trivial ?_
   ·kernel_rfl
   refine AOps.nil ?_
   refine AWp.cond rfl (fun hb=>?_) fun hb=>?_
   ·replace h:=of_true h hb
    refine AWp.skip ?_
    exact ⟨(v1 == ([97,98,115]:List UInt8)),h,rfl⟩
   ·replace h:=of_false h hb
    refine AWp.keepTo [0,1,4,32] 1 ⟨[(0,tS v1),(1,q5 v2),(4,.pc 0 0),(32,tS v1)],[.cells 60 [.int .i64 (0:Int),nS,nS]]⟩ ?_ z0 ?_
    ·kernel_rfl
    refine AWp.seq ?_
    refine AWp.start [0,1] [] [] [0,1,4,32,33] 1 ⟨[(0,tS v1),(1,q5 v2),(4,.pc 0 0),(32,tS v1),(33,tB (v1 == ([105,110,116]:List UInt8)))],[.cells 60 [.int .i64 (0:Int),nS,nS]]⟩ rfl ?_ z0 trivial ?_
    ·kernel_rfl
    refine AOps.nil ?_
    refine AWp.cond rfl (fun hb=>?_) fun hb=>?_
    ·replace h:=of_true h hb
     refine AWp.skip ?_
     exact ⟨(v1 == ([105,110,116]:List UInt8)),h,rfl⟩
    ·replace h:=of_false h hb
     refine AWp.keepTo [0,1,4,32] 1 ⟨[(0,tS v1),(1,q5 v2),(4,.pc 0 0),(32,tS v1)],[.cells 60 [.int .i64 (0:Int),nS,nS]]⟩ ?_ z0 ?_
     ·kernel_rfl
     refine AWp.seq ?_
     refine AWp.start [0,1] [] [] [0,1,4,32,33] 1 ⟨[(0,tS v1),(1,q5 v2),(4,.pc 0 0),(32,tS v1),(33,tB (v1 == ([114,101,97,108]:List UInt8)))],[.cells 60 [.int .i64 (0:Int),nS,nS]]⟩ rfl ?_ z0 trivial ?_
     ·kernel_rfl
     refine AOps.nil ?_
     refine AWp.cond rfl (fun hb=>?_) fun hb=>?_
     ·replace h:=of_true h hb
      refine AWp.skip ?_
      exact ⟨(v1 == ([114,101,97,108]:List UInt8)),h,rfl⟩
     ·replace h:=of_false h hb
      refine AWp.keepTo [0,1,4,32] 1 ⟨[(0,tS v1),(1,q5 v2),(4,.pc 0 0),(32,tS v1)],[.cells 60 [.int .i64 (0:Int),nS,nS]]⟩ ?_ z0 ?_
      ·kernel_rfl
      refine AWp.seq ?_
      refine AWp.start [0,1] [] [] [0,1,4,32,33] 1 ⟨[(0,tS v1),(1,q5 v2),(4,.pc 0 0),(32,tS v1),(33,tB (v1 == ([100,98,108,101]:List UInt8)))],[.cells 60 [.int .i64 (0:Int),nS,nS]]⟩ rfl ?_ z0 trivial ?_
      ·kernel_rfl
      refine AOps.nil ?_
      refine AWp.cond rfl (fun hb=>?_) fun hb=>?_
      ·replace h:=of_true h hb
       refine AWp.skip ?_
       exact ⟨(v1 == ([100,98,108,101]:List UInt8)),h,rfl⟩
      ·replace h:=of_false h hb
       refine AWp.keepTo [0,1,4,32] 1 ⟨[(0,tS v1),(1,q5 v2),(4,.pc 0 0),(32,tS v1)],[.cells 60 [.int .i64 (0:Int),nS,nS]]⟩ ?_ z0 ?_
       ·kernel_rfl
       refine AWp.seq ?_
       refine AWp.start [0,1] [] [] [0,1,4,32,33] 1 ⟨[(0,tS v1),(1,q5 v2),(4,.pc 0 0),(32,tS v1),(33,tB (v1 == ([109,111,100]:List UInt8)))],[.cells 60 [.int .i64 (0:Int),nS,nS]]⟩ rfl ?_ z0 trivial ?_
       ·kernel_rfl
       refine AOps.nil ?_
       refine AWp.cond rfl (fun hb=>?_) fun hb=>?_
       ·replace h:=of_true h hb
        refine AWp.skip ?_
        exact ⟨(v1 == ([109,111,100]:List UInt8)),h,rfl⟩
       ·replace h:=of_false h hb
        refine AWp.keepTo [0,1,4,32] 1 ⟨[(0,tS v1),(1,q5 v2),(4,.pc 0 0),(32,tS v1)],[.cells 60 [.int .i64 (0:Int),nS,nS]]⟩ ?_ z0 ?_
        ·kernel_rfl
        refine AWp.seq ?_
        refine AWp.start [0,1] [] [] [0,1,4,32,33] 1 ⟨[(0,tS v1),(1,q5 v2),(4,.pc 0 0),(32,tS v1),(33,tB (v1 == ([109,105,110]:List UInt8)))],[.cells 60 [.int .i64 (0:Int),nS,nS]]⟩ rfl ?_ z0 trivial ?_
        ·kernel_rfl
        refine AOps.nil ?_
        refine AWp.cond rfl (fun hb=>?_) fun hb=>?_
        ·replace h:=of_true h hb
         refine AWp.skip ?_
         exact ⟨(v1 == ([109,105,110]:List UInt8)),h,rfl⟩
        ·replace h:=of_false h hb
         refine AWp.keepTo [0,1,4,32] 1 ⟨[(0,tS v1),(1,q5 v2),(4,.pc 0 0),(32,tS v1)],[.cells 60 [.int .i64 (0:Int),nS,nS]]⟩ ?_ z0 ?_
         ·kernel_rfl
         refine AWp.seq ?_
         refine AWp.start [0,1] [] [] [0,1,4,32,33] 1 ⟨[(0,tS v1),(1,q5 v2),(4,.pc 0 0),(32,tS v1),(33,tB (v1 == ([109,97,120]:List UInt8)))],[.cells 60 [.int .i64 (0:Int),nS,nS]]⟩ rfl ?_ z0 trivial ?_
         ·kernel_rfl
         refine AOps.nil ?_
         refine AWp.cond rfl (fun hb=>?_) fun hb=>?_
         ·replace h:=of_true h hb
          refine AWp.skip ?_
          exact ⟨(v1 == ([109,97,120]:List UInt8)),h,rfl⟩
         ·replace h:=of_false h hb
          refine AWp.keepTo [0,1,4,32] 1 ⟨[(0,tS v1),(1,q5 v2),(4,.pc 0 0),(32,tS v1)],[.cells 60 [.int .i64 (0:Int),nS,nS]]⟩ ?_ z0 ?_
          ·kernel_rfl
          refine AWp.seq ?_
          refine AWp.start [0,1] [] [] [0,1,4,32,33] 1 ⟨[(0,tS v1),(1,q5 v2),(4,.pc 0 0),(32,tS v1),(33,tB (v1 == ([109,101,114,103,101]:List UInt8)))],[.cells 60 [.int .i64 (0:Int),nS,nS]]⟩ rfl ?_ z0 trivial ?_
          ·kernel_rfl
          refine AOps.nil ?_
          refine AWp.cond rfl (fun hb=>?_) fun hb=>?_
          ·replace h:=of_true h hb
           refine AWp.skip ?_
           exact ⟨(v1 == ([109,101,114,103,101]:List UInt8)),h,rfl⟩
          ·replace h:=of_false h hb
           refine AWp.keepTo [0,1,4,32] 1 ⟨[(0,tS v1),(1,q5 v2),(4,.pc 0 0),(32,tS v1)],[.cells 60 [.int .i64 (0:Int),nS,nS]]⟩ ?_ z0 ?_
           ·kernel_rfl
           refine AWp.start [0,1] [] [] [0,1,4,32,33] 1 ⟨[(0,tS v1),(1,q5 v2),(4,.pc 0 0),(32,tS v1),(33,tB (v1 == ([115,113,114,116]:List UInt8)))],[.cells 60 [.int .i64 (0:Int),nS,nS]]⟩ rfl ?_ z0 trivial ?_
           ·kernel_rfl
           refine AOps.nil ?_
           exact ⟨(v1 == ([115,113,114,116]:List UInt8)),h,rfl⟩
  ·rintro v8 h
   refine AWp.cond rfl (fun hb=>?_) fun hb=>?_
   ·replace h:=of_true h hb
    refine AWp.keepTo [0,1,4] 1 ⟨[(0,tS v1),(1,q5 v2),(4,.pc 0 0)],[.cells 60 [.int .i64 (0:Int),nS,nS]]⟩ ?_ z0 ?_
    ·kernel_rfl
    refine AWp.seq ?_
    cases h
   ·replace h:=of_false h hb
    refine AWp.keepTo [0,1,4,32] 1 ⟨[(0,tS v1),(1,q5 v2),(4,.pc 0 0),(32,tS v1)],[.cells 60 [.int .i64 (0:Int),nS,nS]]⟩ ?_ z0 ?_
    ·kernel_rfl
    refine AWp.join (V:=Bool) (fun w=>⟨[(0,tS v1),(1,q5 v2),(4,.pc 0 0),(32,tS v1),(48,tB w)],[.cells 60 [.int .i64 (0:Int),nS,nS]]⟩) (fun w=>f17_j2 v1 v2 w = some r) ?_ ?_
    ·refine AWp.seq ?_
     refine AWp.start [0,1] [] [] [0,1,4,32,48] 1 ⟨[(0,tS v1),(1,q5 v2),(4,.pc 0 0),(32,tS v1),(48,tB (v1 == ([115,117,109]:List UInt8)))],[.cells 60 [.int .i64 (0:Int),nS,nS]]⟩ rfl ?_ z0 trivial ?_
     ·kernel_rfl
     refine AOps.nil ?_
     refine AWp.cond rfl (fun hb=>?_) fun hb=>?_
     ·replace h:=of_true h hb
      refine AWp.skip ?_
      exact ⟨(v1 == ([115,117,109]:List UInt8)),h,rfl⟩
     ·replace h:=of_false h hb
      refine AWp.keepTo [0,1,4,32] 1 ⟨[(0,tS v1),(1,q5 v2),(4,.pc 0 0),(32,tS v1)],[.cells 60 [.int .i64 (0:Int),nS,nS]]⟩ ?_ z0 ?_
      ·kernel_rfl
      refine AWp.seq ?_
      refine AWp.start [0,1] [] [] [0,1,4,32,48] 1 ⟨[(0,tS v1),(1,q5 v2),(4,.pc 0 0),(32,tS v1),(48,tB (v1 == ([112,114,111,100,117,99,116]:List UInt8)))],[.cells 60 [.int .i64 (0:Int),nS,nS]]⟩ rfl ?_ z0 trivial ?_
      ·kernel_rfl
      refine AOps.nil ?_
      refine AWp.cond rfl (fun hb=>?_) fun hb=>?_
      ·replace h:=of_true h hb
       refine AWp.skip ?_
       exact ⟨(v1 == ([112,114,111,100,117,99,116]:List UInt8)),h,rfl⟩
      ·replace h:=of_false h hb
       refine AWp.keepTo [0,1,4,32] 1 ⟨[(0,tS v1),(1,q5 v2),(4,.pc 0 0),(32,tS v1)],[.cells 60 [.int .i64 (0:Int),nS,nS]]⟩ ?_ z0 ?_
       ·kernel_rfl
       refine AWp.seq ?_
       refine AWp.start [0,1] [] [] [0,1,4,32,48] 1 ⟨[(0,tS v1),(1,q5 v2),(4,.pc 0 0),(32,tS v1),(48,tB (v1 == ([109,97,120,118,97,108]:List UInt8)))],[.cells 60 [.int .i64 (0:Int),nS,nS]]⟩ rfl ?_ z0 trivial ?_
       ·kernel_rfl
       refine AOps.nil ?_
       refine AWp.cond rfl (fun hb=>?_) fun hb=>?_
       ·replace h:=of_true h hb
        refine AWp.skip ?_
        exact ⟨(v1 == ([109,97,120,118,97,108]:List UInt8)),h,rfl⟩
       ·replace h:=of_false h hb
        refine AWp.keepTo [0,1,4,32] 1 ⟨[(0,tS v1),(1,q5 v2),(4,.pc 0 0),(32,tS v1)],[.cells 60 [.int .i64 (0:Int),nS,nS]]⟩ ?_ z0 ?_
        ·kernel_rfl
        refine AWp.seq ?_
        refine AWp.start [0,1] [] [] [0,1,4,32,48] 1 ⟨[(0,tS v1),(1,q5 v2),(4,.pc 0 0),(32,tS v1),(48,tB (v1 == ([109,105,110,118,97,108]:List UInt8)))],[.cells 60 [.int .i64 (0:Int),nS,nS]]⟩ rfl ?_ z0 trivial ?_
        ·kernel_rfl
        refine AOps.nil ?_
        refine AWp.cond rfl (fun hb=>?_) fun hb=>?_
        ·replace h:=of_true h hb
         refine AWp.skip ?_
         exact ⟨(v1 == ([109,105,110,118,97,108]:List UInt8)),h,rfl⟩
        ·replace h:=of_false h hb
         refine AWp.keepTo [0,1,4,32] 1 ⟨[(0,tS v1),(1,q5 v2),(4,.pc 0 0),(32,tS v1)],[.cells 60 [.int .i64 (0:Int),nS,nS]]⟩ ?_ z0 ?_
         ·kernel_rfl
         refine AWp.seq ?_
         refine AWp.start [0,1] [] [] [0,1,4,32,48] 1 ⟨[(0,tS v1),(1,q5 v2),(4,.pc 0 0),(32,tS v1),(48,tB (v1 == ([97,108,108]:List UInt8)))],[.cells 60 [.int .i64 (0:Int),nS,nS]]⟩ rfl ?_ z0 trivial ?_
         ·kernel_rfl
         refine AOps.nil ?_
         refine AWp.cond rfl (fun hb=>?_) fun hb=>?_
         ·replace h:=of_true h hb
          refine AWp.skip ?_
          exact ⟨(v1 == ([97,108,108]:List UInt8)),h,rfl⟩
         ·replace h:=of_false h hb
          refine AWp.keepTo [0,1,4,32] 1 ⟨[(0,tS v1),(1,q5 v2),(4,.pc 0 0),(32,tS v1)],[.cells 60 [.int .i64 (0:Int),nS,nS]]⟩ ?_ z0 ?_
          ·kernel_rfl
          refine AWp.seq ?_
          refine AWp.start [0,1] [] [] [0,1,4,32,48] 1 ⟨[(0,tS v1),(1,q5 v2),(4,.pc 0 0),(32,tS v1),(48,tB (v1 == ([97,110,121]:List UInt8)))],[.cells 60 [.int .i64 (0:Int),nS,nS]]⟩ rfl ?_ z0 trivial ?_
          ·kernel_rfl
          refine AOps.nil ?_
          refine AWp.cond rfl (fun hb=>?_) fun hb=>?_
          ·replace h:=of_true h hb
           refine AWp.skip ?_
           exact ⟨(v1 == ([97,110,121]:List UInt8)),h,rfl⟩
          ·replace h:=of_false h hb
           refine AWp.keepTo [0,1,4,32] 1 ⟨[(0,tS v1),(1,q5 v2),(4,.pc 0 0),(32,tS v1)],[.cells 60 [.int .i64 (0:Int),nS,nS]]⟩ ?_ z0 ?_
           ·kernel_rfl
           refine AWp.seq ?_
           refine AWp.start [0,1] [] [] [0,1,4,32,48] 1 ⟨[(0,tS v1),(1,q5 v2),(4,.pc 0 0),(32,tS v1),(48,tB (v1 == ([99,111,117,110,116]:List UInt8)))],[.cells 60 [.int .i64 (0:Int),nS,nS]]⟩ rfl ?_ z0 trivial ?_
           ·kernel_rfl
           refine AOps.nil ?_
           refine AWp.cond rfl (fun hb=>?_) fun hb=>?_
           ·replace h:=of_true h hb
            refine AWp.skip ?_
            exact ⟨(v1 == ([99,111,117,110,116]:List UInt8)),h,rfl⟩
           ·replace h:=of_false h hb
            refine AWp.keepTo [0,1,4,32] 1 ⟨[(0,tS v1),(1,q5 v2),(4,.pc 0 0),(32,tS v1)],[.cells 60 [.int .i64 (0:Int),nS,nS]]⟩ ?_ z0 ?_
            ·kernel_rfl
            refine AWp.seq ?_
            refine AWp.start [0,1] [] [] [0,1,4,32,48] 1 ⟨[(0,tS v1),(1,q5 v2),(4,.pc 0 0),(32,tS v1),(48,tB (v1 == ([115,105,122,101]:List UInt8)))],[.cells 60 [.int .i64 (0:Int),nS,nS]]⟩ rfl ?_ z0 trivial ?_
            ·kernel_rfl
            refine AOps.nil ?_
            refine AWp.cond rfl (fun hb=>?_) fun hb=>?_
            ·replace h:=of_true h hb
             refine AWp.skip ?_
             exact ⟨(v1 == ([115,105,122,101]:List UInt8)),h,rfl⟩
            ·replace h:=of_false h hb
             refine AWp.keepTo [0,1,4,32] 1 ⟨[(0,tS v1),(1,q5 v2),(4,.pc 0 0),(32,tS v1)],[.cells 60 [.int .i64 (0:Int),nS,nS]]⟩ ?_ z0 ?_
             ·kernel_rfl
             refine AWp.start [0,1] [] [] [0,1,4,32,48] 1 ⟨[(0,tS v1),(1,q5 v2),(4,.pc 0 0),(32,tS v1),(48,tB (v1 == ([115,104,97,112,101]:List UInt8)))],[.cells 60 [.int .i64 (0:Int),nS,nS]]⟩ rfl ?_ z0 trivial ?_
             ·kernel_rfl
             refine AOps.nil ?_
             exact ⟨(v1 == ([115,104,97,112,101]:List UInt8)),h,rfl⟩
    ·rintro v9 h
     refine AWp.cond rfl (fun hb=>?_) fun hb=>?_
     ·replace h:=of_true h hb
      refine AWp.keepTo [0,1,4] 1 ⟨[(0,tS v1),(1,q5 v2),(4,.pc 0 0)],[.cells 60 [.int .i64 (0:Int),nS,nS]]⟩ ?_ z0 ?_
      ·kernel_rfl
      refine AWp.seq ?_
      cases h
     ·replace h:=of_false h hb
      refine AWp.keepTo [0,1,4,32] 1 ⟨[(0,tS v1),(1,q5 v2),(4,.pc 0 0),(32,tS v1)],[.cells 60 [.int .i64 (0:Int),nS,nS]]⟩ ?_ z0 ?_
      ·kernel_rfl
      refine AWp.join (V:=Bool) (fun w=>⟨[(0,tS v1),(1,q5 v2),(4,.pc 0 0),(65,tB w)],[.cells 60 [.int .i64 (0:Int),nS,nS]]⟩) (fun w=>f17_j1 v1 v2 w = some r) ?_ ?_
      ·refine AWp.seq ?_
       refine AWp.start [0,1] [] [] [0,1,4,32,65] 1 ⟨[(0,tS v1),(1,q5 v2),(4,.pc 0 0),(32,tS v1),(65,tB (v1 == ([109,97,120,108,111,99]:List UInt8)))],[.cells 60 [.int .i64 (0:Int),nS,nS]]⟩ rfl ?_ z0 trivial ?_
       ·kernel_rfl
       refine AOps.nil ?_
       refine AWp.cond rfl (fun hb=>?_) fun hb=>?_
       ·replace h:=of_true h hb
        refine AWp.keepTo [0,1,4,65] 1 ⟨[(0,tS v1),(1,q5 v2),(4,.pc 0 0),(65,tB (v1 == ([109,97,120,108,111,99]:List UInt8)))],[.cells 60 [.int .i64 (0:Int),nS,nS]]⟩ ?_ z0 ?_
        ·kernel_rfl
        refine AWp.skip ?_
        exact ⟨(v1 == ([109,97,120,108,111,99]:List UInt8)),h,rfl⟩
       ·replace h:=of_false h hb
        refine AWp.keepTo [0,1,4,32] 1 ⟨[(0,tS v1),(1,q5 v2),(4,.pc 0 0),(32,tS v1)],[.cells 60 [.int .i64 (0:Int),nS,nS]]⟩ ?_ z0 ?_
        ·kernel_rfl
        refine AWp.start [0,1] [] [] [0,1,4,65] 1 ⟨[(0,tS v1),(1,q5 v2),(4,.pc 0 0),(65,tB (v1 == ([109,105,110,108,111,99]:List UInt8)))],[.cells 60 [.int .i64 (0:Int),nS,nS]]⟩ rfl ?_ z0 trivial ?_
        ·kernel_rfl
        refine AOps.nil ?_
        exact ⟨(v1 == ([109,105,110,108,111,99]:List UInt8)),h,rfl⟩
      ·rintro v10 h
       refine AWp.cond rfl (fun hb=>?_) fun hb=>?_
       ·replace h:=of_true h hb
        refine AWp.keepTo [0,1,4] 1 ⟨[(0,tS v1),(1,q5 v2),(4,.pc 0 0)],[.cells 60 [.int .i64 (0:Int),nS,nS]]⟩ ?_ z0 ?_
        ·kernel_rfl
        refine AWp.seq ?_
        cases h
       ·replace h:=of_false h hb
        refine AWp.keepTo [0,1,4] 1 ⟨[(0,tS v1),(1,q5 v2),(4,.pc 0 0)],[.cells 60 [.int .i64 (0:Int),nS,nS]]⟩ ?_ z0 ?_
        ·kernel_rfl
        refine AWp.skip ?_
        refine AWp.seq ?_
        refine AWp.start [0,1] [2,3,4,5,6] [] [4,75,76] 1 ⟨[(4,.pc 0 0),(75,tS v1),(76,q5 v2)],[.cells 60 [.int .i64 (0:Int),nS,nS]]⟩ rfl ?_ z0 trivial ?_
        ·kernel_rfl
        obtain ⟨v11,hv11,h⟩:=of_bind h
        refine AOps.cons (AOne.callP (F:=(FF 80 0)) _ rfl rfl rfl _ rfl rfl _ _ rfl Tryz.call42 [tS v1,q5 v2] rfl rfl (f42_ok v1 v2 hv11) rfl) ?_
        refine AOps.go [3,4,5,6] [] [] [4,5] 1 ⟨[(4,.pc 0 0),(5,tI v11.2)],[.cells 60 [.int .i64 v11.1.f0,k0 v11.1.f1,k0 v11.1.f2]]⟩ ?_ z0 trivial ?_
        ·kernel_rfl
        refine AOps.nil ?_
        refine AWp.pin 0 rfl rfl ?_
        refine AWp.keepTo [4,5] 0 ⟨[(4,.rp [.int .i64 v11.1.f0,k0 v11.1.f1,k0 v11.1.f2]),(5,tI v11.2)],[]⟩ ?_ z0 ?_
        ·kernel_rfl
        refine AWp.ret ?_
        cases h
        exact ⟨.inr rfl,rfl⟩

noncomputable def f5 :Option Bool :=
 (f17 ([109,97,116,109,117,108]:List UInt8) ([T59.mk (1:Int) [(2:Int),(2:Int)] [(1:Int),(2:Int),(3:Int),(4:Int)],T59.mk (1:Int) [(2:Int)] [(5:Int),(6:Int)]])).bind fun v1=>(cond (v1.2 == (0:Int)) (some ((v1.1.f2.length:Int) == (2:Int))) (some false)).bind fun v2=>(cond v2 (if (0:Int) < (v1.1.f2.length:Int) then some (v1.1.f2.getD 0 default == (23:Int)) else none) (some false)).bind fun v3=>(cond v3 (if (1:Int) < (v1.1.f2.length:Int) then some (v1.1.f2.getD 1 default == (34:Int)) else none) (some false)).bind fun v4=>some v4

theorem f5_ok  {r:Bool} (h:f5  = some r):ACall Tryz.prog 5 [] [] (.tv (.bool r)) []:=by
 refine ACall.of1 (FF 40 0) Tryz.func5 rfl Tryz.ntmps5 Tryz.results5 (zz rfl) rfl rfl ?_
 refine AWp.seq ?_
 refine AWp.start [0] [] [] [] 0 ⟨[],[]⟩ rfl ?_ z0 trivial ?_
 ·kernel_rfl
 refine AOps.nil ?_
 refine AWp.seq ?_
 refine AWp.start [0] [1,2,3,4] [] [5] 0 ⟨[(5,.tv (.own 1 3 2 (newRowF [.int .i64 (2:Int),.int .i64 (2:Int)] 1)))],[]⟩ rfl ?_ z0 trivial ?_
 ·kernel_rfl
 refine AOps.extL 5 (cInt .i64) [(2:Int),(2:Int)] rfl rfl (row_at (cInt .i64) 1 (fun _=>rfl) [(2:Int),(2:Int)] _ rfl) ?_
 refine AOps.freezeL 5 (cInt .i64) [(2:Int),(2:Int)] rfl (fun _=>rfl) ?_
 refine AOps.go [1] [2,3,4] [] [5,6] 0 ⟨[(5,q3 [(2:Int),(2:Int)]),(6,.tv (.own 1 3 4 (newRowF [.int .i64 (1:Int),.int .i64 (2:Int),.int .i64 (3:Int),.int .i64 (4:Int)] 1)))],[]⟩ ?_ z0 trivial ?_
 ·kernel_rfl
 refine AOps.extL 6 (cInt .i64) [(1:Int),(2:Int),(3:Int),(4:Int)] rfl rfl (row_at (cInt .i64) 1 (fun _=>rfl) [(1:Int),(2:Int),(3:Int),(4:Int)] _ rfl) ?_
 refine AOps.freezeL 6 (cInt .i64) [(1:Int),(2:Int),(3:Int),(4:Int)] rfl (fun _=>rfl) ?_
 refine AOps.go [2,3,4] [] [] [1] 1 ⟨[(1,.pc 0 0)],[.cells 60 [.int .i64 (1:Int),k0 [(2:Int),(2:Int)],k0 [(1:Int),(2:Int),(3:Int),(4:Int)]]]⟩ ?_ z0 trivial ?_
 ·kernel_rfl
 refine AOps.nil ?_
 refine AWp.seq ?_
 refine AWp.pin 0 rfl rfl ?_
 refine AWp.keepTo [1] 0 ⟨[(1,.rp [.int .i64 (1:Int),k0 [(2:Int),(2:Int)],k0 [(1:Int),(2:Int),(3:Int),(4:Int)]])],[]⟩ ?_ z0 ?_
 ·kernel_rfl
 refine AWp.start [0] [1,2,3,4] [] [1,8] 0 ⟨[(1,.rp [.int .i64 (1:Int),k0 [(2:Int),(2:Int)],k0 [(1:Int),(2:Int),(3:Int),(4:Int)]]),(8,.tv (.own 1 3 1 (newRowF [.int .i64 (2:Int)] 1)))],[]⟩ rfl ?_ z0 trivial ?_
 ·kernel_rfl
 refine AOps.extL 8 (cInt .i64) [(2:Int)] rfl rfl (row_at (cInt .i64) 1 (fun _=>rfl) [(2:Int)] _ rfl) ?_
 refine AOps.freezeL 8 (cInt .i64) [(2:Int)] rfl (fun _=>rfl) ?_
 refine AOps.go [1] [2,3,4] [] [1,8,9] 0 ⟨[(1,.rp [.int .i64 (1:Int),k0 [(2:Int),(2:Int)],k0 [(1:Int),(2:Int),(3:Int),(4:Int)]]),(8,q3 [(2:Int)]),(9,.tv (.own 1 3 2 (newRowF [.int .i64 (5:Int),.int .i64 (6:Int)] 1)))],[]⟩ ?_ z0 trivial ?_
 ·kernel_rfl
 refine AOps.extL 9 (cInt .i64) [(5:Int),(6:Int)] rfl rfl (row_at (cInt .i64) 1 (fun _=>rfl) [(5:Int),(6:Int)] _ rfl) ?_
 refine AOps.freezeL 9 (cInt .i64) [(5:Int),(6:Int)] rfl (fun _=>rfl) ?_
 refine AOps.go [2,3,4] [] [] [1,2] 1 ⟨[(1,.rp [.int .i64 (1:Int),k0 [(2:Int),(2:Int)],k0 [(1:Int),(2:Int),(3:Int),(4:Int)]]),(2,.pc 0 0)],[.cells 60 [.int .i64 (1:Int),k0 [(2:Int)],k0 [(5:Int),(6:Int)]]]⟩ ?_ z0 trivial ?_
 ·kernel_rfl
 refine AOps.nil ?_
 refine AWp.seq ?_
 refine AWp.pin 0 rfl rfl ?_
 refine AWp.keepTo [1,2] 0 ⟨[(1,.rp [.int .i64 (1:Int),k0 [(2:Int),(2:Int)],k0 [(1:Int),(2:Int),(3:Int),(4:Int)]]),(2,.rp [.int .i64 (1:Int),k0 [(2:Int)],k0 [(5:Int),(6:Int)]])],[]⟩ ?_ z0 ?_
 ·kernel_rfl
 refine AWp.start [0,1,2] [3,4,5,6,7,8,9] [] [14] 0 ⟨[(14,.tv (.own 3 60 2 (newRowF [.int .i64 (1:Int),k0 [(2:Int),(2:Int)],k0 [(1:Int),(2:Int),(3:Int),(4:Int)],.int .i64 (1:Int),k0 [(2:Int)],k0 [(5:Int),(6:Int)]] 3)))],[]⟩ rfl ?_ z0 trivial ?_
 ·kernel_rfl
 refine AOps.extL 14 c59 ([T59.mk (1:Int) [(2:Int),(2:Int)] [(1:Int),(2:Int),(3:Int),(4:Int)],T59.mk (1:Int) [(2:Int)] [(5:Int),(6:Int)]]) rfl rfl (row_at c59 3 (fun _=>rfl) [T59.mk (1:Int) [(2:Int),(2:Int)] [(1:Int),(2:Int),(3:Int),(4:Int)],T59.mk (1:Int) [(2:Int)] [(5:Int),(6:Int)]] _ rfl) ?_
 refine AOps.freezeL 14 c59 ([T59.mk (1:Int) [(2:Int),(2:Int)] [(1:Int),(2:Int),(3:Int),(4:Int)],T59.mk (1:Int) [(2:Int)] [(5:Int),(6:Int)]]) rfl (fun _=>rfl) ?_
 obtain ⟨v1,hv1,h⟩:=of_bind h
 refine AOps.cons (AOne.callP (F:=(FF 40 0)) _ rfl rfl rfl _ rfl rfl _ _ rfl Tryz.call17 [tS ([109,97,116,109,117,108]:List UInt8),q5 ([T59.mk (1:Int) [(2:Int),(2:Int)] [(1:Int),(2:Int),(3:Int),(4:Int)],T59.mk (1:Int) [(2:Int)] [(5:Int),(6:Int)]])] rfl rfl (f17_ok ([109,97,116,109,117,108]:List UInt8) ([T59.mk (1:Int) [(2:Int),(2:Int)] [(1:Int),(2:Int),(3:Int),(4:Int)],T59.mk (1:Int) [(2:Int)] [(5:Int),(6:Int)]]) hv1) rfl) ?_
 refine AOps.go [4,5,6,7,8,9] [] [] [3,4] 1 ⟨[(3,.pc 0 0),(4,tI v1.2)],[.cells 60 [.int .i64 v1.1.f0,k0 v1.1.f1,k0 v1.1.f2]]⟩ ?_ z0 trivial ?_
 ·kernel_rfl
 refine AOps.nil ?_
 refine AWp.seq ?_
 refine AWp.pin 0 rfl rfl ?_
 refine AWp.keepTo [3,4] 0 ⟨[(3,.rp [.int .i64 v1.1.f0,k0 v1.1.f1,k0 v1.1.f2]),(4,tI v1.2)],[]⟩ ?_ z0 ?_
 ·kernel_rfl
 refine AWp.start [0,1,2] [3,4,5,6,7,8,9,10,11,12,13,14,15,16,17,18,19,20,21,22] [] [3,20] 0 ⟨[(3,.rp [.int .i64 v1.1.f0,k0 v1.1.f1,k0 v1.1.f2]),(20,tB (v1.2 == (0:Int)))],[]⟩ rfl ?_ z0 trivial ?_
 ·kernel_rfl
 obtain ⟨v2,hc3,h⟩:=of_bind h
 refine AOps.cut [3,4,5,6,7] [8,9,10,11,12,13,14,15,16,17,18,19,20,21,22] (fun σ=>σ = ⟨[(3,.rp [.int .i64 v1.1.f0,k0 v1.1.f1,k0 v1.1.f2]),(25,tB v2)],[]⟩) ?_ fun σ' hJ=>?_
 ·refine AOps.split (fun b=>⟨[(3,.rp [.int .i64 v1.1.f0,k0 v1.1.f1,k0 v1.1.f2]),(20,tB b)],[]⟩) _ (fun hb=>?_) fun hb=>?_
  ·replace hc3:=of_true hc3 hb
   refine AOps.go [3,4,5,6,7] [] [] [3,25] 0 ⟨[(3,.rp [.int .i64 v1.1.f0,k0 v1.1.f1,k0 v1.1.f2]),(25,tB ((v1.1.f2.length:Int) == (2:Int)))],[]⟩ ?_ z0 trivial ?_
   ·kernel_rfl
   cases hc3
   exact AOps.nil rfl
  ·replace hc3:=of_false hc3 hb
   refine AOps.go [3,4,5,6,7] [] [] [3,25] 0 ⟨[(3,.rp [.int .i64 v1.1.f0,k0 v1.1.f1,k0 v1.1.f2]),(25,tB false)],[]⟩ ?_ z0 trivial ?_
   ·kernel_rfl
   cases hc3
   exact AOps.nil rfl
 subst hJ
 refine AOps.go [8] [9,10,11,12,13,14,15,16,17,18,19,20,21,22] [] [3,26] 0 ⟨[(3,.rp [.int .i64 v1.1.f0,k0 v1.1.f1,k0 v1.1.f2]),(26,tB v2)],[]⟩ ?_ z0 trivial ?_
 ·kernel_rfl
 obtain ⟨v3,hc9,h⟩:=of_bind h
 refine AOps.cut [9,10,11,12,13,14] [15,16,17,18,19,20,21,22] (fun σ=>σ = ⟨[(3,.rp [.int .i64 v1.1.f0,k0 v1.1.f1,k0 v1.1.f2]),(32,tB v3)],[]⟩) ?_ fun σ' hJ=>?_
 ·refine AOps.split (fun b=>⟨[(3,.rp [.int .i64 v1.1.f0,k0 v1.1.f1,k0 v1.1.f2]),(26,tB b)],[]⟩) _ (fun hb=>?_) fun hb=>?_
  ·replace hc9:=of_true hc9 hb
   obtain ⟨hg,hc9⟩:=of_guard hc9
   refine AOps.go [9,10,11,12,13,14] [] [(0:Int) ≤ (0:Int),(0:Int) < (v1.1.f2.length:Int)] [3,32] 0 ⟨[(3,.rp [.int .i64 v1.1.f0,k0 v1.1.f1,k0 v1.1.f2]),(32,tB (v1.1.f2.getD 0 default == (23:Int)))],[]⟩ ?_ z0 ⟨(by decide:(0:Int) ≤ (0:Int)),hg⟩ ?_
   ·kernel_rfl
   cases hc9
   exact AOps.nil rfl
  ·replace hc9:=of_false hc9 hb
   refine AOps.go [9,10,11,12,13,14] [] [] [3,32] 0 ⟨[(3,.rp [.int .i64 v1.1.f0,k0 v1.1.f1,k0 v1.1.f2]),(32,tB false)],[]⟩ ?_ z0 trivial ?_
   ·kernel_rfl
   cases hc9
   exact AOps.nil rfl
 subst hJ
 refine AOps.go [15] [16,17,18,19,20,21,22] [] [3,33] 0 ⟨[(3,.rp [.int .i64 v1.1.f0,k0 v1.1.f1,k0 v1.1.f2]),(33,tB v3)],[]⟩ ?_ z0 trivial ?_
 ·kernel_rfl
 obtain ⟨v4,hc16,h⟩:=of_bind h
 refine AOps.cut [16,17,18,19,20,21] [22] (fun σ=>σ = ⟨[(39,tB v4)],[]⟩) ?_ fun σ' hJ=>?_
 ·refine AOps.split (fun b=>⟨[(3,.rp [.int .i64 v1.1.f0,k0 v1.1.f1,k0 v1.1.f2]),(33,tB b)],[]⟩) _ (fun hb=>?_) fun hb=>?_
  ·replace hc16:=of_true hc16 hb
   obtain ⟨hg,hc16⟩:=of_guard hc16
   refine AOps.go [16,17,18,19,20,21] [] [(0:Int) ≤ (1:Int),(1:Int) < (v1.1.f2.length:Int)] [39] 0 ⟨[(39,tB (v1.1.f2.getD 1 default == (34:Int)))],[]⟩ ?_ z0 ⟨(by decide:(0:Int) ≤ (1:Int)),hg⟩ ?_
   ·kernel_rfl
   cases hc16
   exact AOps.nil rfl
  ·replace hc16:=of_false hc16 hb
   refine AOps.go [16,17,18,19,20,21] [] [] [39] 0 ⟨[(39,tB false)],[]⟩ ?_ z0 trivial ?_
   ·kernel_rfl
   cases hc16
   exact AOps.nil rfl
 subst hJ
 refine AOps.go [22] [] [] [0] 0 ⟨[(0,tB v4)],[]⟩ ?_ z0 trivial ?_
 ·kernel_rfl
 refine AOps.nil ?_
 refine AWp.ret ?_
 cases h
 exact ⟨.inr rfl,rfl⟩

noncomputable def f108 (v1:Int):Option Bool :=
 (cond (decide (v1 ≥ (97:Int))) (some (decide (v1 ≤ (122:Int)))) (some false)).bind fun v2=>(cond v2 (some true) ((cond (decide (v1 ≥ (65:Int))) (some (decide (v1 ≤ (90:Int)))) (some false)).bind fun v4=>some v4)).bind fun v3=>some v3

theorem f108_ok (v1:Int) {r:Bool} (h:f108 v1 = some r):ACall Tryz.prog 108 [.tv (.int .u8 v1)] [] (.tv (.bool r)) []:=by
 refine ACall.of1 (FF 17 0) Tryz.func108 rfl Tryz.ntmps108 Tryz.results108 (zz rfl) rfl rfl ?_
 refine AWp.seq ?_
 refine AWp.start [0] [] [] [0] 0 ⟨[(0,.tv (.int .u8 v1))],[]⟩ rfl ?_ z0 trivial ?_
 ·kernel_rfl
 refine AOps.nil ?_
 refine AWp.seq ?_
 refine AWp.start [0,1,2] [3,4,5,6,7,8,9,10,11,12,13,14] [] [0,5] 0 ⟨[(0,.tv (.int .u8 v1)),(5,tB (decide (v1 ≥ (97:Int))))],[]⟩ rfl ?_ z0 trivial ?_
 ·kernel_rfl
 obtain ⟨v2,hc3,h⟩:=of_bind h
 refine AOps.cut [3,4,5] [6,7,8,9,10,11,12,13,14] (fun σ=>σ = ⟨[(0,.tv (.int .u8 v1)),(8,tB v2)],[]⟩) ?_ fun σ' hJ=>?_
 ·refine AOps.split (fun b=>⟨[(0,.tv (.int .u8 v1)),(5,tB b)],[]⟩) _ (fun hb=>?_) fun hb=>?_
  ·replace hc3:=of_true hc3 hb
   refine AOps.go [3,4,5] [] [] [0,8] 0 ⟨[(0,.tv (.int .u8 v1)),(8,tB (decide (v1 ≤ (122:Int))))],[]⟩ ?_ z0 trivial ?_
   ·kernel_rfl
   cases hc3
   exact AOps.nil rfl
  ·replace hc3:=of_false hc3 hb
   refine AOps.go [3,4,5] [] [] [0,8] 0 ⟨[(0,.tv (.int .u8 v1)),(8,tB false)],[]⟩ ?_ z0 trivial ?_
   ·kernel_rfl
   cases hc3
   exact AOps.nil rfl
 subst hJ
 refine AOps.go [6] [7,8,9,10,11,12,13,14] [] [0,9] 0 ⟨[(0,.tv (.int .u8 v1)),(9,tB v2)],[]⟩ ?_ z0 trivial ?_
 ·kernel_rfl
 obtain ⟨v3,hc7,h⟩:=of_bind h
 refine AOps.cut [7,8,9,10,11,12,13] [14] (fun σ=>σ = ⟨[(16,tB v3)],[]⟩) ?_ fun σ' hJ=>?_
 ·refine AOps.split (fun b=>⟨[(0,.tv (.int .u8 v1)),(9,tB b)],[]⟩) _ (fun hb=>?_) fun hb=>?_
  ·replace hc7:=of_true hc7 hb
   refine AOps.go [7,8,9,10,11,12,13] [] [] [16] 0 ⟨[(16,tB true)],[]⟩ ?_ z0 trivial ?_
   ·kernel_rfl
   cases hc7
   exact AOps.nil rfl
  ·replace hc7:=of_false hc7 hb
   refine AOps.go [7,8,9] [10,11,12,13] [] [0,9,12] 0 ⟨[(0,.tv (.int .u8 v1)),(9,tB false),(12,tB (decide (v1 ≥ (65:Int))))],[]⟩ ?_ z0 trivial ?_
   ·kernel_rfl
   obtain ⟨v4,hc10,hc7⟩:=of_bind hc7
   refine AOps.cut [10,11,12] [13] (fun σ=>σ = ⟨[(9,tB false),(15,tB v4)],[]⟩) ?_ fun σ' hJ=>?_
   ·refine AOps.split (fun b=>⟨[(0,.tv (.int .u8 v1)),(9,tB false),(12,tB b)],[]⟩) _ (fun hb=>?_) fun hb=>?_
    ·replace hc10:=of_true hc10 hb
     refine AOps.go [10,11,12] [] [] [9,15] 0 ⟨[(9,tB false),(15,tB (decide (v1 ≤ (90:Int))))],[]⟩ ?_ z0 trivial ?_
     ·kernel_rfl
     cases hc10
     exact AOps.nil rfl
    ·replace hc10:=of_false hc10 hb
     refine AOps.go [10,11,12] [] [] [9,15] 0 ⟨[(9,tB false),(15,tB false)],[]⟩ ?_ z0 trivial ?_
     ·kernel_rfl
     cases hc10
     exact AOps.nil rfl
   subst hJ
   refine AOps.go [13] [] [] [16] 0 ⟨[(16,tB v4)],[]⟩ ?_ z0 trivial ?_
   ·kernel_rfl
   cases hc7
   exact AOps.nil rfl
 subst hJ
 refine AOps.go [14] [] [] [2] 0 ⟨[(2,tB v3)],[]⟩ ?_ z0 trivial ?_
 ·kernel_rfl
 refine AOps.nil ?_
 refine AWp.ret ?_
 cases h
 exact ⟨.inr rfl,rfl⟩

noncomputable def f137 (v1:Int):Option Bool :=
 (cond (decide (v1 ≥ (48:Int))) (some (decide (v1 ≤ (57:Int)))) (some false)).bind fun v2=>some v2

theorem f137_ok (v1:Int) {r:Bool} (h:f137 v1 = some r):ACall Tryz.prog 137 [.tv (.int .u8 v1)] [] (.tv (.bool r)) []:=by
 refine ACall.of1 (FF 9 0) Tryz.func137 rfl Tryz.ntmps137 Tryz.results137 (zz rfl) rfl rfl ?_
 refine AWp.seq ?_
 refine AWp.start [0] [] [] [0] 0 ⟨[(0,.tv (.int .u8 v1))],[]⟩ rfl ?_ z0 trivial ?_
 ·kernel_rfl
 refine AOps.nil ?_
 refine AWp.seq ?_
 refine AWp.start [0,1,2] [3,4,5,6] [] [0,5] 0 ⟨[(0,.tv (.int .u8 v1)),(5,tB (decide (v1 ≥ (48:Int))))],[]⟩ rfl ?_ z0 trivial ?_
 ·kernel_rfl
 obtain ⟨v2,hc3,h⟩:=of_bind h
 refine AOps.cut [3,4,5] [6] (fun σ=>σ = ⟨[(8,tB v2)],[]⟩) ?_ fun σ' hJ=>?_
 ·refine AOps.split (fun b=>⟨[(0,.tv (.int .u8 v1)),(5,tB b)],[]⟩) _ (fun hb=>?_) fun hb=>?_
  ·replace hc3:=of_true hc3 hb
   refine AOps.go [3,4,5] [] [] [8] 0 ⟨[(8,tB (decide (v1 ≤ (57:Int))))],[]⟩ ?_ z0 trivial ?_
   ·kernel_rfl
   cases hc3
   exact AOps.nil rfl
  ·replace hc3:=of_false hc3 hb
   refine AOps.go [3,4,5] [] [] [8] 0 ⟨[(8,tB false)],[]⟩ ?_ z0 trivial ?_
   ·kernel_rfl
   cases hc3
   exact AOps.nil rfl
 subst hJ
 refine AOps.go [6] [] [] [2] 0 ⟨[(2,tB v2)],[]⟩ ?_ z0 trivial ?_
 ·kernel_rfl
 refine AOps.nil ?_
 refine AWp.ret ?_
 cases h
 exact ⟨.inr rfl,rfl⟩

noncomputable def f110 (v1:Int):Option Bool :=
 (f108 v1).bind fun v2=>(cond v2 (some true) ((f137 v1).bind fun v4=>some v4)).bind fun v3=>(cond v3 (some true) (some (v1 == (95:Int)))).bind fun v5=>some v5

theorem f110_ok (v1:Int) {r:Bool} (h:f110 v1 = some r):ACall Tryz.prog 110 [.tv (.int .u8 v1)] [] (.tv (.bool r)) []:=by
 refine ACall.of1 (FF 13 0) Tryz.func110 rfl Tryz.ntmps110 Tryz.results110 (zz rfl) rfl rfl ?_
 refine AWp.seq ?_
 refine AWp.start [0] [] [] [0] 0 ⟨[(0,.tv (.int .u8 v1))],[]⟩ rfl ?_ z0 trivial ?_
 ·kernel_rfl
 refine AOps.nil ?_
 refine AWp.seq ?_
 refine AWp.start [0] [1,2,3,4,5,6,7,8,9,10] [] [0,3] 0 ⟨[(0,.tv (.int .u8 v1)),(3,.tv (.int .u8 v1))],[]⟩ rfl ?_ z0 trivial ?_
 ·kernel_rfl
 obtain ⟨v2,hv2,h⟩:=of_bind h
 refine AOps.cons (AOne.callP (F:=(FF 13 0)) _ rfl rfl rfl _ rfl rfl _ _ rfl Tryz.call108 [.tv (.int .u8 v1)] rfl rfl (f108_ok v1 hv2) rfl) ?_
 refine AOps.go [2] [3,4,5,6,7,8,9,10] [] [0,5] 0 ⟨[(0,.tv (.int .u8 v1)),(5,tB v2)],[]⟩ ?_ z0 trivial ?_
 ·kernel_rfl
 obtain ⟨v3,hc3,h⟩:=of_bind h
 refine AOps.cut [3,4,5] [6,7,8,9,10] (fun σ=>σ = ⟨[(0,.tv (.int .u8 v1)),(8,tB v3)],[]⟩) ?_ fun σ' hJ=>?_
 ·refine AOps.split (fun b=>⟨[(0,.tv (.int .u8 v1)),(5,tB b)],[]⟩) _ (fun hb=>?_) fun hb=>?_
  ·replace hc3:=of_true hc3 hb
   refine AOps.go [3,4,5] [] [] [0,8] 0 ⟨[(0,.tv (.int .u8 v1)),(8,tB true)],[]⟩ ?_ z0 trivial ?_
   ·kernel_rfl
   cases hc3
   exact AOps.nil rfl
  ·replace hc3:=of_false hc3 hb
   refine AOps.go [3] [4,5] [] [0,5,6] 0 ⟨[(0,.tv (.int .u8 v1)),(5,tB false),(6,.tv (.int .u8 v1))],[]⟩ ?_ z0 trivial ?_
   ·kernel_rfl
   obtain ⟨v4,hv4,hc3⟩:=of_bind hc3
   refine AOps.cons (AOne.callP (F:=(FF 13 0)) _ rfl rfl rfl _ rfl rfl _ _ rfl Tryz.call137 [.tv (.int .u8 v1)] rfl rfl (f137_ok v1 hv4) rfl) ?_
   refine AOps.go [5] [] [] [0,8] 0 ⟨[(0,.tv (.int .u8 v1)),(8,tB v4)],[]⟩ ?_ z0 trivial ?_
   ·kernel_rfl
   cases hc3
   exact AOps.nil rfl
 subst hJ
 refine AOps.go [6] [7,8,9,10] [] [0,9] 0 ⟨[(0,.tv (.int .u8 v1)),(9,tB v3)],[]⟩ ?_ z0 trivial ?_
 ·kernel_rfl
 obtain ⟨v5,hc7,h⟩:=of_bind h
 refine AOps.cut [7,8,9] [10] (fun σ=>σ = ⟨[(12,tB v5)],[]⟩) ?_ fun σ' hJ=>?_
 ·refine AOps.split (fun b=>⟨[(0,.tv (.int .u8 v1)),(9,tB b)],[]⟩) _ (fun hb=>?_) fun hb=>?_
  ·replace hc7:=of_true hc7 hb
   refine AOps.go [7,8,9] [] [] [12] 0 ⟨[(12,tB true)],[]⟩ ?_ z0 trivial ?_
   ·kernel_rfl
   cases hc7
   exact AOps.nil rfl
  ·replace hc7:=of_false hc7 hb
   refine AOps.go [7,8,9] [] [] [12] 0 ⟨[(12,tB (v1 == (95:Int)))],[]⟩ ?_ z0 trivial ?_
   ·kernel_rfl
   cases hc7
   exact AOps.nil rfl
 subst hJ
 refine AOps.go [10] [] [] [2] 0 ⟨[(2,tB v5)],[]⟩ ?_ z0 trivial ?_
 ·kernel_rfl
 refine AOps.nil ?_
 refine AWp.ret ?_
 cases h
 exact ⟨.inr rfl,rfl⟩

end Go.Sx.top
