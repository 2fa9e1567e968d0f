/- Printed by program (wip/gen): plain functions and their walks; no condition. -/
import Derived.Test.YtlfaghcnnlifmaaGreatGx0
namespace Go.Sx.top
open Go Go.Sx Go.Proofs

abbrev hp4:List AObj:=[.dead,.cells 129 [.int .i64 (0:Int),.int .i64 (0:Int)]]

noncomputable def f68_j1 (v1:T59) (v3:Int):Option T128 :=
 if (0:Int) ≤ v3 ∧ v3 < (v1.f2.length:Int) then some (T128.mk v1.f0 (v1.f2.getD v3.toNat default)) else none

noncomputable def f68 (v1:T59) (v2:Int):Option T128 :=
 (f71 v1).bind fun v4=>cond v4 (f68_j1 v1 (0:Int)) (f68_j1 v1 v2)

theorem f68_ok (v1:T59) (v2:Int) {r:T128} (h:f68 v1 v2 = some r):ACall Tryz.prog 68 [.agg [.int .i64 v1.f0,fzL 1 (cInt .i64) v1.f1,fzL 1 (cInt .i64) v1.f2],.tv (.int .i64 v2)] [] (.agg [.int .i64 r.f0,.int .i64 r.f1]) []:=by
 refine ACall.of1c (r:=4) (t:=129) (cells0:=(c128 r)) (FF 15 0) Tryz.func68 rfl Tryz.ntmps68 (by kernel_rfl) (zz rfl) rfl rfl rfl (by kernel_rfl) rfl [4] 0 z0 rfl ?_
 refine AWp.seq ?_
 refine AWp.start [0,1] [] [] [1,2,4] 2 ⟨[(1,tI v2),(2,.pc 0 0),(4,.pc 1 0)],[.cells 60 [.int .i64 v1.f0,k0 v1.f1,k0 v1.f2],.cells 129 [.int .i64 (0:Int),.int .i64 (0:Int)]]⟩ rfl ?_ z0 trivial ?_
 ·kernel_rfl
 refine AOps.nil ?_
 refine AWp.join (V:=Int) (fun w=>⟨[(1,tI w),(2,.rp [.int .i64 v1.f0,k0 v1.f1,k0 v1.f2]),(4,.pc 1 0)],hp4⟩) (fun w=>f68_j1 v1 w = some r) ?_ ?_
 ·refine AWp.seq ?_
  refine AWp.pin 0 rfl rfl ?_
  refine AWp.keepTo [1,2,4] 2 ⟨[(1,tI v2),(2,.rp [.int .i64 v1.f0,k0 v1.f1,k0 v1.f2]),(4,.pc 1 0)],hp4⟩ ?_ z0 ?_
  ·kernel_rfl
  refine AWp.start [0] [1] [] [1,2,4,5] 2 ⟨[(1,tI v2),(2,.rp [.int .i64 v1.f0,k0 v1.f1,k0 v1.f2]),(4,.pc 1 0),(5,.agg [.int .i64 v1.f0,k0 v1.f1,k0 v1.f2])],hp4⟩ rfl ?_ z0 trivial ?_
  ·kernel_rfl
  obtain ⟨v4,hv4,h⟩:=of_bind h
  refine AOps.cons (AOne.callP (F:=(FF 15 0)) _ rfl rfl rfl _ rfl rfl _ _ rfl Tryz.call71 [.agg [.int .i64 v1.f0,k0 v1.f1,k0 v1.f2]] rfl rfl (f71_ok v1 hv4) rfl) ?_
  refine AOps.keepTo [1,2,4,6] 2 ⟨[(1,tI v2),(2,.rp [.int .i64 v1.f0,k0 v1.f1,k0 v1.f2]),(4,.pc 1 0),(6,tB v4)],hp4⟩ ?_ z0 ?_
  ·kernel_rfl
  refine AOps.nil ?_
  refine AWp.cond rfl (fun hb=>?_) fun hb=>?_
  ·replace h:=of_true h hb
   refine AWp.keepTo [2,4] 2 ⟨[(2,.rp [.int .i64 v1.f0,k0 v1.f1,k0 v1.f2]),(4,.pc 1 0)],hp4⟩ ?_ z0 ?_
   ·kernel_rfl
   refine AWp.start [0] [] [] [1,2,4] 2 ⟨[(1,tI (0:Int)),(2,.rp [.int .i64 v1.f0,k0 v1.f1,k0 v1.f2]),(4,.pc 1 0)],hp4⟩ rfl ?_ z0 trivial ?_
   ·kernel_rfl
   refine AOps.nil ?_
   exact ⟨(0:Int),h,rfl⟩
  ·replace h:=of_false h hb
   refine AWp.keepTo [1,2,4] 2 ⟨[(1,tI v2),(2,.rp [.int .i64 v1.f0,k0 v1.f1,k0 v1.f2]),(4,.pc 1 0)],hp4⟩ ?_ z0 ?_
   ·kernel_rfl
   refine AWp.skip ?_
   exact ⟨v2,h,rfl⟩
 ·rintro v3 h
  refine AWp.seq ?_
  refine AWp.draw FFm _ (n:=9) rfl (ls:=#[n1,n1,n1,n1,n1,n1,n1,n1,n1]) rfl ?_ (fun _ h=>h)
  obtain ⟨hg,h⟩:=of_guard h
  refine AAny.go (by kernel_rfl) [0,1,2,3,4,5,6,7] (fuel':=1) rfl [(0:Int) ≤ v3,v3 < (v1.f2.length:Int)] #[y1,y1,y1,y1,y1,y1,y1,y1,n1] [4,14] 2 ⟨[(4,.pc 1 0),(14,.agg [.int .i64 v1.f0,.int .i64 (gD v1.f2 v3)])],hp4⟩ ?_ z0 ⟨hg.1,hg.2⟩ ?_
  ·kernel_rfl
  refine AAny.step (i:=8) (fuel':=0) rfl (by kernel_rfl) [] #[y1,y1,y1,y1,y1,y1,y1,y1,y1] rfl [4] 2 ⟨[(4,.pc 1 0)],[.dead,.cells 129 [.int .i64 v1.f0,.int .i64 (gD v1.f2 v3)]]⟩ ?_ z0 trivial ?_
  ·kernel_rfl
  refine AAny.keepTo [4] 2 ⟨[(4,.pc 1 0)],[.dead,.cells 129 [.int .i64 v1.f0,.int .i64 (gD v1.f2 v3)]]⟩ _ ?_ rfl z0 (AAny.done (by kernel_rfl) ?_)
  ·kernel_rfl
  refine AWp.pin 1 rfl rfl ?_
  refine AWp.keepTo [4] 0 ⟨[(4,.rp [.int .i64 v1.f0,.int .i64 (gD v1.f2 v3)])],[]⟩ ?_ z0 ?_
  ·kernel_rfl
  refine AWp.ret ?_
  cases h
  exact ⟨.inr rfl,rfl⟩

noncomputable def f75 (v1:Bool):Option T128 :=
 cond v1 (some (T128.mk (2:Int) (1:Int))) (some (T128.mk (2:Int) (0:Int)))

theorem f75_ok (v1:Bool) {r:T128} (h:f75 v1 = some r):ACall Tryz.prog 75 [.tv (.bool v1)] [] (.agg [.int .i64 r.f0,.int .i64 r.f1]) []:=by
 refine ACall.of1c (r:=2) (t:=129) (cells0:=(c128 r)) (FF 6 0) Tryz.func75 rfl Tryz.ntmps75 (by kernel_rfl) (zz rfl) rfl rfl rfl (by kernel_rfl) rfl [2] 0 z0 rfl ?_
 refine AWp.seq ?_
 refine AWp.start [0] [] [] [0,2] 1 ⟨[(0,tB v1),(2,.pc 0 0)],[.cells 129 [.int .i64 (0:Int),.int .i64 (0:Int)]]⟩ rfl ?_ z0 trivial ?_
 ·kernel_rfl
 refine AOps.nil ?_
 refine AWp.seq ?_
 refine AWp.seq ?_
 refine AWp.start [0] [] [] [2,3] 1 ⟨[(2,.pc 0 0),(3,tB v1)],[.cells 129 [.int .i64 (0:Int),.int .i64 (0:Int)]]⟩ rfl ?_ z0 trivial ?_
 ·kernel_rfl
 refine AOps.nil ?_
 refine AWp.cond rfl (fun hb=>?_) fun hb=>?_
 ·replace h:=of_true h hb
  refine AWp.keepTo [2] 1 ⟨[(2,.pc 0 0)],[.cells 129 [.int .i64 (0:Int),.int .i64 (0:Int)]]⟩ ?_ z0 ?_
  ·kernel_rfl
  refine AWp.seq ?_
  refine AWp.start [0,1] [] [] [2] 1 ⟨[(2,.pc 0 0)],[.cells 129 [.int .i64 (2:Int),.int .i64 (1:Int)]]⟩ rfl ?_ z0 trivial ?_
  ·kernel_rfl
  refine AOps.nil ?_
  refine AWp.pin 0 rfl rfl ?_
  refine AWp.keepTo [2] 0 ⟨[(2,.rp [.int .i64 (2:Int),.int .i64 (1:Int)])],[]⟩ ?_ z0 ?_
  ·kernel_rfl
  refine AWp.ret ?_
  cases h
  exact ⟨.inr rfl,rfl⟩
 ·replace h:=of_false h hb
  refine AWp.keepTo [2] 1 ⟨[(2,.pc 0 0)],[.cells 129 [.int .i64 (0:Int),.int .i64 (0:Int)]]⟩ ?_ z0 ?_
  ·kernel_rfl
  refine AWp.skip ?_
  refine AWp.seq ?_
  refine AWp.start [0,1] [] [] [2] 1 ⟨[(2,.pc 0 0)],[.cells 129 [.int .i64 (2:Int),.int .i64 (0:Int)]]⟩ rfl ?_ z0 trivial ?_
  ·kernel_rfl
  refine AOps.nil ?_
  refine AWp.pin 0 rfl rfl ?_
  refine AWp.keepTo [2] 0 ⟨[(2,.rp [.int .i64 (2:Int),.int .i64 (0:Int)])],[]⟩ ?_ z0 ?_
  ·kernel_rfl
  refine AWp.ret ?_
  cases h
  exact ⟨.inr rfl,rfl⟩

noncomputable def f160 (v1:Int):Option (T128 × Int) :=
 (f63 (1:Int) v1).bind fun v2=>cond (!v2) (some (T128.mk (0:Int) (0:Int),(10:Int))) (some (T128.mk (1:Int) v1,(0:Int)))

theorem f160_ok (v1:Int) {r:T128 × Int} (h:f160 v1 = some r):ACall Tryz.prog 160 [.tv (.int .i64 v1)] [] (.tup [.agg [.int .i64 r.1.f0,.int .i64 r.1.f1],.tv (.int .i64 r.2)]) []:=by
 refine ACall.ofNc (FF 10 0) (rs:=[2,3]) (sv:=(.agg [.int .i64 r.1.f0,.int .i64 r.1.f1])) (cells0:=[.int .i64 r.1.f0,.int .i64 r.1.f1]) 2 129 (env0:=[(2,.rp [.int .i64 r.1.f0,.int .i64 r.1.f1]),(3,tI r.2)]) (env:=[(2,.agg [.int .i64 r.1.f0,.int .i64 r.1.f1]),(3,tI r.2)]) Tryz.func160 rfl Tryz.ntmps160 (by kernel_rfl) (by decide) (by decide) rfl (zz rfl) rfl rfl rfl (by kernel_rfl) rfl [2,3] 0 z0 rfl (get_ofN _ _ _ rfl) (ok_ofN _ rfl) ?_
 refine AWp.seq ?_
 refine AWp.start [0,1] [] [] [0,2] 1 ⟨[(0,tI v1),(2,.pc 0 0)],[.cells 129 [.int .i64 (0:Int),.int .i64 (0:Int)]]⟩ rfl ?_ z0 trivial ?_
 ·kernel_rfl
 refine AOps.nil ?_
 refine AWp.seq ?_
 refine AWp.seq ?_
 refine AWp.start [0] [1,2] [] [0,2,4] 1 ⟨[(0,tI v1),(2,.pc 0 0),(4,tI v1)],[.cells 129 [.int .i64 (0:Int),.int .i64 (0:Int)]]⟩ rfl ?_ z0 trivial ?_
 ·kernel_rfl
 obtain ⟨v2,hv2,h⟩:=of_bind h
 refine AOps.cons (AOne.callP (F:=(FF 10 0)) _ rfl rfl rfl _ rfl rfl _ _ rfl Tryz.call63 [tI (1:Int),tI v1] rfl rfl (f63_ok (1:Int) v1 hv2) rfl) ?_
 refine AOps.go [2] [] [] [0,2,6] 1 ⟨[(0,tI v1),(2,.pc 0 0),(6,tB (!v2))],[.cells 129 [.int .i64 (0:Int),.int .i64 (0:Int)]]⟩ ?_ z0 trivial ?_
 ·kernel_rfl
 refine AOps.nil ?_
 refine AWp.cond rfl (fun hb=>?_) fun hb=>?_
 ·replace h:=of_true h hb
  refine AWp.keepTo [2] 1 ⟨[(2,.pc 0 0)],[.cells 129 [.int .i64 (0:Int),.int .i64 (0:Int)]]⟩ ?_ z0 ?_
  ·kernel_rfl
  refine AWp.seq ?_
  refine AWp.start [0,1,2] [] [] [2,3] 1 ⟨[(2,.pc 0 0),(3,tI (10:Int))],[.cells 129 [.int .i64 (0:Int),.int .i64 (0:Int)]]⟩ rfl ?_ z0 trivial ?_
  ·kernel_rfl
  refine AOps.nil ?_
  refine AWp.pin 0 rfl rfl ?_
  refine AWp.keepTo [2,3] 0 ⟨[(2,.rp [.int .i64 (0:Int),.int .i64 (0:Int)]),(3,tI (10:Int))],[]⟩ ?_ z0 ?_
  ·kernel_rfl
  refine AWp.ret ?_
  cases h
  exact ⟨.inr rfl,rfl⟩
 ·replace h:=of_false h hb
  refine AWp.keepTo [0,2] 1 ⟨[(0,tI v1),(2,.pc 0 0)],[.cells 129 [.int .i64 (0:Int),.int .i64 (0:Int)]]⟩ ?_ z0 ?_
  ·kernel_rfl
  refine AWp.skip ?_
  refine AWp.seq ?_
  refine AWp.start [0,1,2,3] [] [] [2,3] 1 ⟨[(2,.pc 0 0),(3,tI (0:Int))],[.cells 129 [.int .i64 (1:Int),.int .i64 v1]]⟩ rfl ?_ z0 trivial ?_
  ·kernel_rfl
  refine AOps.nil ?_
  refine AWp.pin 0 rfl rfl ?_
  refine AWp.keepTo [2,3] 0 ⟨[(2,.rp [.int .i64 (1:Int),.int .i64 v1]),(3,tI (0:Int))],[]⟩ ?_ z0 ?_
  ·kernel_rfl
  refine AWp.ret ?_
  cases h
  exact ⟨.inr rfl,rfl⟩

abbrev hp5:List AObj:=[.dead,.dead,.cells 129 [.int .i64 (0:Int),.int .i64 (0:Int)]]
abbrev hp6 (v2:T128) (v3:T128):List AObj:=[.cells 129 (c128 v2),.cells 129 (c128 v3),.cells 129 [.int .i64 (0:Int),.int .i64 (0:Int)]]

noncomputable def f132 (v1:List UInt8) (v2:T128) (v3:T128):Option (T128 × Int) :=
 (f97 (if v3.f0 > v2.f0 then v3.f0 else v2.f0) v2).bind fun v4=>(f97 (if v3.f0 > v2.f0 then v3.f0 else v2.f0) v3).bind fun v5=>cond ((if v3.f0 > v2.f0 then v3.f0 else v2.f0) == (1:Int)) (cond (v1 == ([43]:List UInt8)) ((f160 (w64 (v4.1.f1 + v5.1.f1))).bind fun v6=>some (v6.1,v6.2)) (cond (v1 == ([45]:List UInt8)) ((f160 (w64 (v4.1.f1 - v5.1.f1))).bind fun v7=>some (v7.1,v7.2)) (cond (v1 == ([42]:List UInt8)) ((f160 (w64 (v4.1.f1 * v5.1.f1))).bind fun v8=>some (v8.1,v8.2)) (cond (v5.1.f1 == (0:Int)) (some (T128.mk (0:Int) (0:Int),(90:Int))) (if v5.1.f1 ≠ (0:Int) then (f160 (w64 (Int.tdiv v4.1.f1 v5.1.f1))).bind fun v9=>some (v9.1,v9.2) else none))))) none

theorem f132_ok (v1:List UInt8) (v2:T128) (v3:T128) {r:T128 × Int} (h:f132 v1 v2 v3 = some r):ACall Tryz.prog 132 [.tv (.str v1),.agg [.int .i64 v2.f0,.int .i64 v2.f1],.agg [.int .i64 v3.f0,.int .i64 v3.f1]] [] (.tup [.agg [.int .i64 r.1.f0,.int .i64 r.1.f1],.tv (.int .i64 r.2)]) []:=by
 refine ACall.ofNc (FF 94 0) (rs:=[6,7]) (sv:=(.agg [.int .i64 r.1.f0,.int .i64 r.1.f1])) (cells0:=[.int .i64 r.1.f0,.int .i64 r.1.f1]) 6 129 (env0:=[(6,.rp [.int .i64 r.1.f0,.int .i64 r.1.f1]),(7,tI r.2)]) (env:=[(6,.agg [.int .i64 r.1.f0,.int .i64 r.1.f1]),(7,tI r.2)]) Tryz.func132 rfl Tryz.ntmps132 (by kernel_rfl) (by decide) (by decide) rfl (zz rfl) rfl rfl rfl (by kernel_rfl) rfl [6,7] 0 z0 rfl (get_ofN _ _ _ rfl) (ok_ofN _ rfl) ?_
 refine AWp.seq ?_
 refine AWp.start [0,1,2,3] [] [] [0,4,5,6] 3 ⟨[(0,tS v1),(4,.pc 0 0),(5,.pc 1 0),(6,.pc 2 0)],hp6 v2 v3⟩ rfl ?_ z0 trivial ?_
 ·kernel_rfl
 refine AOps.nil ?_
 refine AWp.seq ?_
 refine AWp.start [0,1,2,3,4,5] [] [] [0,4,5,6,8] 3 ⟨[(0,tS v1),(4,.pc 0 0),(5,.pc 1 0),(6,.pc 2 0),(8,tI (if v3.f0 > v2.f0 then v3.f0 else v2.f0))],hp6 v2 v3⟩ rfl ?_ z0 trivial ?_
 ·kernel_rfl
 refine AOps.nil ?_
 refine AWp.seq ?_
 refine AWp.start [0,1] [2,3,4,5,6] [] [0,4,5,6,8,19,20] 3 ⟨[(0,tS v1),(4,.pc 0 0),(5,.pc 1 0),(6,.pc 2 0),(8,tI (if v3.f0 > v2.f0 then v3.f0 else v2.f0)),(19,tI (if v3.f0 > v2.f0 then v3.f0 else v2.f0)),(20,.agg (c128 v2))],hp6 v2 v3⟩ rfl ?_ z0 trivial ?_
 ·kernel_rfl
 obtain ⟨v4,hv4,h⟩:=of_bind h
 refine AOps.cons (AOne.callP (F:=(FF 94 0)) _ rfl rfl rfl _ rfl rfl _ _ rfl Tryz.call97 [tI (if v3.f0 > v2.f0 then v3.f0 else v2.f0),.agg (c128 v2)] rfl rfl (f97_ok (if v3.f0 > v2.f0 then v3.f0 else v2.f0) v2 hv4) rfl) ?_
 refine AOps.go [3,4,5,6] [] [] [0,4,5,6,8] 3 ⟨[(0,tS v1),(4,.pc 0 0),(5,.pc 1 0),(6,.pc 2 0),(8,tI (if v3.f0 > v2.f0 then v3.f0 else v2.f0))],[.cells 129 [.int .i64 v4.1.f0,.int .i64 v4.1.f1],.cells 129 (c128 v3),.cells 129 [.int .i64 (0:Int),.int .i64 (0:Int)]]⟩ ?_ z0 trivial ?_
 ·kernel_rfl
 refine AOps.nil ?_
 refine AWp.seq ?_
 refine AWp.pin 0 rfl rfl ?_
 refine AWp.keepTo [0,4,5,6,8] 3 ⟨[(0,tS v1),(4,.rp [.int .i64 v4.1.f0,.int .i64 v4.1.f1]),(5,.pc 1 0),(6,.pc 2 0),(8,tI (if v3.f0 > v2.f0 then v3.f0 else v2.f0))],[.dead,.cells 129 (c128 v3),.cells 129 [.int .i64 (0:Int),.int .i64 (0:Int)]]⟩ ?_ z0 ?_
 ·kernel_rfl
 refine AWp.start [0,1] [2,3,4,5,6] [] [0,4,5,6,8,25,26] 3 ⟨[(0,tS v1),(4,.rp [.int .i64 v4.1.f0,.int .i64 v4.1.f1]),(5,.pc 1 0),(6,.pc 2 0),(8,tI (if v3.f0 > v2.f0 then v3.f0 else v2.f0)),(25,tI (if v3.f0 > v2.f0 then v3.f0 else v2.f0)),(26,.agg (c128 v3))],[.dead,.cells 129 (c128 v3),.cells 129 [.int .i64 (0:Int),.int .i64 (0:Int)]]⟩ rfl ?_ z0 trivial ?_
 ·kernel_rfl
 obtain ⟨v5,hv5,h⟩:=of_bind h
 refine AOps.cons (AOne.callP (F:=(FF 94 0)) _ rfl rfl rfl _ rfl rfl _ _ rfl Tryz.call97 [tI (if v3.f0 > v2.f0 then v3.f0 else v2.f0),.agg (c128 v3)] rfl rfl (f97_ok (if v3.f0 > v2.f0 then v3.f0 else v2.f0) v3 hv5) rfl) ?_
 refine AOps.go [3,4,5,6] [] [] [0,4,5,6,8] 3 ⟨[(0,tS v1),(4,.rp [.int .i64 v4.1.f0,.int .i64 v4.1.f1]),(5,.pc 1 0),(6,.pc 2 0),(8,tI (if v3.f0 > v2.f0 then v3.f0 else v2.f0))],[.dead,.cells 129 [.int .i64 v5.1.f0,.int .i64 v5.1.f1],.cells 129 [.int .i64 (0:Int),.int .i64 (0:Int)]]⟩ ?_ z0 trivial ?_
 ·kernel_rfl
 refine AOps.nil ?_
 refine AWp.seq ?_
 refine AWp.seq ?_
 refine AWp.pin 1 rfl rfl ?_
 refine AWp.keepTo [0,4,5,6,8] 3 ⟨[(0,tS v1),(4,.rp [.int .i64 v4.1.f0,.int .i64 v4.1.f1]),(5,.rp [.int .i64 v5.1.f0,.int .i64 v5.1.f1]),(6,.pc 2 0),(8,tI (if v3.f0 > v2.f0 then v3.f0 else v2.f0))],hp5⟩ ?_ z0 ?_
 ·kernel_rfl
 refine AWp.start [0,1] [] [] [0,4,5,6,8,31] 3 ⟨[(0,tS v1),(4,.rp [.int .i64 v4.1.f0,.int .i64 v4.1.f1]),(5,.rp [.int .i64 v5.1.f0,.int .i64 v5.1.f1]),(6,.pc 2 0),(8,tI (if v3.f0 > v2.f0 then v3.f0 else v2.f0)),(31,tB ((if v3.f0 > v2.f0 then v3.f0 else v2.f0) == (1:Int)))],hp5⟩ rfl ?_ z0 trivial ?_
 ·kernel_rfl
 refine AOps.nil ?_
 refine AWp.cond rfl (fun hb=>?_) fun hb=>?_
 ·replace h:=of_true h hb
  refine AWp.keepTo [0,4,5,6] 3 ⟨[(0,tS v1),(4,.rp [.int .i64 v4.1.f0,.int .i64 v4.1.f1]),(5,.rp [.int .i64 v5.1.f0,.int .i64 v5.1.f1]),(6,.pc 2 0)],hp5⟩ ?_ z0 ?_
  ·kernel_rfl
  refine AWp.seq ?_
  refine AWp.seq ?_
  refine AWp.start [0] [] [] [4,5,6,32] 3 ⟨[(4,.rp [.int .i64 v4.1.f0,.int .i64 v4.1.f1]),(5,.rp [.int .i64 v5.1.f0,.int .i64 v5.1.f1]),(6,.pc 2 0),(32,tS v1)],hp5⟩ rfl ?_ z0 trivial ?_
  ·kernel_rfl
  refine AOps.nil ?_
  refine AWp.block ?_
  refine AWp.seq ?_
  refine AWp.start [0,1] [] [] [4,5,6,32,33] 3 ⟨[(4,.rp [.int .i64 v4.1.f0,.int .i64 v4.1.f1]),(5,.rp [.int .i64 v5.1.f0,.int .i64 v5.1.f1]),(6,.pc 2 0),(32,tS v1),(33,tB (v1 == ([43]:List UInt8)))],hp5⟩ rfl ?_ z0 trivial ?_
  ·kernel_rfl
  refine AOps.nil ?_
  refine AWp.cond rfl (fun hb=>?_) fun hb=>?_
  ·replace h:=of_true h hb
   refine AWp.keepTo [4,5,6] 3 ⟨[(4,.rp [.int .i64 v4.1.f0,.int .i64 v4.1.f1]),(5,.rp [.int .i64 v5.1.f0,.int .i64 v5.1.f1]),(6,.pc 2 0)],hp5⟩ ?_ z0 ?_
   ·kernel_rfl
   refine AWp.seq ?_
   refine AWp.start [0,1,2,3,4] [5,6,7,8,9] [] [6,39] 3 ⟨[(6,.pc 2 0),(39,tI (w64 (v4.1.f1 + v5.1.f1)))],hp5⟩ rfl ?_ z0 trivial ?_
   ·kernel_rfl
   obtain ⟨v6,hv6,h⟩:=of_bind h
   refine AOps.cons (AOne.callP (F:=(FF 94 0)) _ rfl rfl rfl _ rfl rfl _ _ rfl Tryz.call160 [tI (w64 (v4.1.f1 + v5.1.f1))] rfl rfl (f160_ok (w64 (v4.1.f1 + v5.1.f1)) hv6) rfl) ?_
   refine AOps.go [6,7,8,9] [] [] [6,7] 3 ⟨[(6,.pc 2 0),(7,tI v6.2)],[.dead,.dead,.cells 129 [.int .i64 v6.1.f0,.int .i64 v6.1.f1]]⟩ ?_ z0 trivial ?_
   ·kernel_rfl
   refine AOps.nil ?_
   refine AWp.pin 2 rfl rfl ?_
   refine AWp.keepTo [6,7] 0 ⟨[(6,.rp [.int .i64 v6.1.f0,.int .i64 v6.1.f1]),(7,tI v6.2)],[]⟩ ?_ z0 ?_
   ·kernel_rfl
   refine AWp.ret ?_
   cases h
   exact ⟨.inr rfl,rfl⟩
  ·replace h:=of_false h hb
   refine AWp.keepTo [4,5,6,32] 3 ⟨[(4,.rp [.int .i64 v4.1.f0,.int .i64 v4.1.f1]),(5,.rp [.int .i64 v5.1.f0,.int .i64 v5.1.f1]),(6,.pc 2 0),(32,tS v1)],hp5⟩ ?_ z0 ?_
   ·kernel_rfl
   refine AWp.seq ?_
   refine AWp.start [0,1] [] [] [4,5,6,32,43] 3 ⟨[(4,.rp [.int .i64 v4.1.f0,.int .i64 v4.1.f1]),(5,.rp [.int .i64 v5.1.f0,.int .i64 v5.1.f1]),(6,.pc 2 0),(32,tS v1),(43,tB (v1 == ([45]:List UInt8)))],hp5⟩ rfl ?_ z0 trivial ?_
   ·kernel_rfl
   refine AOps.nil ?_
   refine AWp.cond rfl (fun hb=>?_) fun hb=>?_
   ·replace h:=of_true h hb
    refine AWp.keepTo [4,5,6] 3 ⟨[(4,.rp [.int .i64 v4.1.f0,.int .i64 v4.1.f1]),(5,.rp [.int .i64 v5.1.f0,.int .i64 v5.1.f1]),(6,.pc 2 0)],hp5⟩ ?_ z0 ?_
    ·kernel_rfl
    refine AWp.seq ?_
    refine AWp.start [0,1,2,3,4] [5,6,7,8,9] [] [6,49] 3 ⟨[(6,.pc 2 0),(49,tI (w64 (v4.1.f1 - v5.1.f1)))],hp5⟩ rfl ?_ z0 trivial ?_
    ·kernel_rfl
    obtain ⟨v7,hv7,h⟩:=of_bind h
    refine AOps.cons (AOne.callP (F:=(FF 94 0)) _ rfl rfl rfl _ rfl rfl _ _ rfl Tryz.call160 [tI (w64 (v4.1.f1 - v5.1.f1))] rfl rfl (f160_ok (w64 (v4.1.f1 - v5.1.f1)) hv7) rfl) ?_
    refine AOps.go [6,7,8,9] [] [] [6,7] 3 ⟨[(6,.pc 2 0),(7,tI v7.2)],[.dead,.dead,.cells 129 [.int .i64 v7.1.f0,.int .i64 v7.1.f1]]⟩ ?_ z0 trivial ?_
    ·kernel_rfl
    refine AOps.nil ?_
    refine AWp.pin 2 rfl rfl ?_
    refine AWp.keepTo [6,7] 0 ⟨[(6,.rp [.int .i64 v7.1.f0,.int .i64 v7.1.f1]),(7,tI v7.2)],[]⟩ ?_ z0 ?_
    ·kernel_rfl
    refine AWp.ret ?_
    cases h
    exact ⟨.inr rfl,rfl⟩
   ·replace h:=of_false h hb
    refine AWp.keepTo [4,5,6,32] 3 ⟨[(4,.rp [.int .i64 v4.1.f0,.int .i64 v4.1.f1]),(5,.rp [.int .i64 v5.1.f0,.int .i64 v5.1.f1]),(6,.pc 2 0),(32,tS v1)],hp5⟩ ?_ z0 ?_
    ·kernel_rfl
    refine AWp.seq ?_
    refine AWp.start [0,1] [] [] [4,5,6,53] 3 ⟨[(4,.rp [.int .i64 v4.1.f0,.int .i64 v4.1.f1]),(5,.rp [.int .i64 v5.1.f0,.int .i64 v5.1.f1]),(6,.pc 2 0),(53,tB (v1 == ([42]:List UInt8)))],hp5⟩ rfl ?_ z0 trivial ?_
    ·kernel_rfl
    refine AOps.nil ?_
    refine AWp.cond rfl (fun hb=>?_) fun hb=>?_
    ·replace h:=of_true h hb
     refine AWp.keepTo [4,5,6] 3 ⟨[(4,.rp [.int .i64 v4.1.f0,.int .i64 v4.1.f1]),(5,.rp [.int .i64 v5.1.f0,.int .i64 v5.1.f1]),(6,.pc 2 0)],hp5⟩ ?_ z0 ?_
     ·kernel_rfl
     refine AWp.seq ?_
     refine AWp.start [0,1,2,3,4] [5,6,7,8,9] [] [6,59] 3 ⟨[(6,.pc 2 0),(59,tI (w64 (v4.1.f1 * v5.1.f1)))],hp5⟩ rfl ?_ z0 trivial ?_
     ·kernel_rfl
     obtain ⟨v8,hv8,h⟩:=of_bind h
     refine AOps.cons (AOne.callP (F:=(FF 94 0)) _ rfl rfl rfl _ rfl rfl _ _ rfl Tryz.call160 [tI (w64 (v4.1.f1 * v5.1.f1))] rfl rfl (f160_ok (w64 (v4.1.f1 * v5.1.f1)) hv8) rfl) ?_
     refine AOps.go [6,7,8,9] [] [] [6,7] 3 ⟨[(6,.pc 2 0),(7,tI v8.2)],[.dead,.dead,.cells 129 [.int .i64 v8.1.f0,.int .i64 v8.1.f1]]⟩ ?_ z0 trivial ?_
     ·kernel_rfl
     refine AOps.nil ?_
     refine AWp.pin 2 rfl rfl ?_
     refine AWp.keepTo [6,7] 0 ⟨[(6,.rp [.int .i64 v8.1.f0,.int .i64 v8.1.f1]),(7,tI v8.2)],[]⟩ ?_ z0 ?_
     ·kernel_rfl
     refine AWp.ret ?_
     cases h
     exact ⟨.inr rfl,rfl⟩
    ·replace h:=of_false h hb
     refine AWp.keepTo [4,5,6] 3 ⟨[(4,.rp [.int .i64 v4.1.f0,.int .i64 v4.1.f1]),(5,.rp [.int .i64 v5.1.f0,.int .i64 v5.1.f1]),(6,.pc 2 0)],hp5⟩ ?_ z0 ?_
     ·kernel_rfl
     refine AWp.skip ?_
     refine AWp.seq ?_
     refine AWp.seq ?_
     refine AWp.start [0,1,2] [] [] [4,5,6,65] 3 ⟨[(4,.rp [.int .i64 v4.1.f0,.int .i64 v4.1.f1]),(5,.rp [.int .i64 v5.1.f0,.int .i64 v5.1.f1]),(6,.pc 2 0),(65,tB (v5.1.f1 == (0:Int)))],hp5⟩ rfl ?_ z0 trivial ?_
     ·kernel_rfl
     refine AOps.nil ?_
     refine AWp.cond rfl (fun hb=>?_) fun hb=>?_
     ·replace h:=of_true h hb
      refine AWp.keepTo [6] 3 ⟨[(6,.pc 2 0)],hp5⟩ ?_ z0 ?_
      ·kernel_rfl
      refine AWp.seq ?_
      refine AWp.start [0,1,2] [] [] [6,7] 3 ⟨[(6,.pc 2 0),(7,tI (90:Int))],hp5⟩ rfl ?_ z0 trivial ?_
      ·kernel_rfl
      refine AOps.nil ?_
      refine AWp.pin 2 rfl rfl ?_
      refine AWp.keepTo [6,7] 0 ⟨[(6,.rp [.int .i64 (0:Int),.int .i64 (0:Int)]),(7,tI (90:Int))],[]⟩ ?_ z0 ?_
      ·kernel_rfl
      refine AWp.ret ?_
      cases h
      exact ⟨.inr rfl,rfl⟩
     ·replace h:=of_false h hb
      refine AWp.keepTo [4,5,6] 3 ⟨[(4,.rp [.int .i64 v4.1.f0,.int .i64 v4.1.f1]),(5,.rp [.int .i64 v5.1.f0,.int .i64 v5.1.f1]),(6,.pc 2 0)],hp5⟩ ?_ z0 ?_
      ·kernel_rfl
      refine AWp.skip ?_
      refine AWp.seq ?_
      obtain ⟨hg,h⟩:=of_guard h
      refine AWp.start [0,1,2,3,4] [5,6,7,8,9] [v5.1.f1 ≠ (0:Int)] [6,71] 3 ⟨[(6,.pc 2 0),(71,tI (w64 (Int.tdiv v4.1.f1 v5.1.f1)))],hp5⟩ rfl ?_ z0 hg ?_
      ·kernel_rfl
      obtain ⟨v9,hv9,h⟩:=of_bind h
      refine AOps.cons (AOne.callP (F:=(FF 94 0)) _ rfl rfl rfl _ rfl rfl _ _ rfl Tryz.call160 [tI (w64 (Int.tdiv v4.1.f1 v5.1.f1))] rfl rfl (f160_ok (w64 (Int.tdiv v4.1.f1 v5.1.f1)) hv9) rfl) ?_
      refine AOps.go [6,7,8,9] [] [] [6,7] 3 ⟨[(6,.pc 2 0),(7,tI v9.2)],[.dead,.dead,.cells 129 [.int .i64 v9.1.f0,.int .i64 v9.1.f1]]⟩ ?_ z0 trivial ?_
      ·kernel_rfl
      refine AOps.nil ?_
      refine AWp.pin 2 rfl rfl ?_
      refine AWp.keepTo [6,7] 0 ⟨[(6,.rp [.int .i64 v9.1.f0,.int .i64 v9.1.f1]),(7,tI v9.2)],[]⟩ ?_ z0 ?_
      ·kernel_rfl
      refine AWp.ret ?_
      cases h
      exact ⟨.inr rfl,rfl⟩
 ·replace h:=of_false h hb
  refine AWp.keepTo [0,4,5,6,8] 3 ⟨[(0,tS v1),(4,.rp [.int .i64 v4.1.f0,.int .i64 v4.1.f1]),(5,.rp [.int .i64 v5.1.f0,.int .i64 v5.1.f1]),(6,.pc 2 0),(8,tI (if v3.f0 > v2.f0 then v3.f0 else v2.f0))],hp5⟩ ?_ z0 ?_
  ·kernel_rfl
  refine AWp.skip ?_
  refine AWp.seq ?_
  cases h

noncomputable def f100 (v1:T128) (v2:T128):Option Int :=
 (f97 (if v2.f0 > v1.f0 then v2.f0 else v1.f0) v1).bind fun v3=>(f97 (if v2.f0 > v1.f0 then v2.f0 else v1.f0) v2).bind fun v4=>cond ((if v2.f0 > v1.f0 then v2.f0 else v1.f0) == (1:Int)) (some (if (1:Int) < (if (-1:Int) > w64 (v3.1.f1 - v4.1.f1) then (-1:Int) else w64 (v3.1.f1 - v4.1.f1)) then (1:Int) else (if (-1:Int) > w64 (v3.1.f1 - v4.1.f1) then (-1:Int) else w64 (v3.1.f1 - v4.1.f1)))) none

theorem f100_ok (v1:T128) (v2:T128) {r:Int} (h:f100 v1 v2 = some r):ACall Tryz.prog 100 [.agg [.int .i64 v1.f0,.int .i64 v1.f1],.agg [.int .i64 v2.f0,.int .i64 v2.f1]] [] (.tv (.int .i64 r)) []:=by
 refine ACall.of1 (FF 45 0) Tryz.func100 rfl Tryz.ntmps100 Tryz.results100 (zz rfl) rfl rfl ?_
 refine AWp.seq ?_
 refine AWp.start [0,1,2] [] [] [2,3] 2 ⟨[(2,.pc 0 0),(3,.pc 1 0)],[.cells 129 (c128 v1),.cells 129 (c128 v2)]⟩ rfl ?_ z0 trivial ?_
 ·kernel_rfl
 refine AOps.nil ?_
 refine AWp.seq ?_
 refine AWp.start [0,1,2,3,4,5] [] [] [2,3,5] 2 ⟨[(2,.pc 0 0),(3,.pc 1 0),(5,tI (if v2.f0 > v1.f0 then v2.f0 else v1.f0))],[.cells 129 (c128 v1),.cells 129 (c128 v2)]⟩ rfl ?_ z0 trivial ?_
 ·kernel_rfl
 refine AOps.nil ?_
 refine AWp.seq ?_
 refine AWp.start [0,1] [2,3,4,5,6] [] [2,3,5,14,15] 2 ⟨[(2,.pc 0 0),(3,.pc 1 0),(5,tI (if v2.f0 > v1.f0 then v2.f0 else v1.f0)),(14,tI (if v2.f0 > v1.f0 then v2.f0 else v1.f0)),(15,.agg (c128 v1))],[.cells 129 (c128 v1),.cells 129 (c128 v2)]⟩ rfl ?_ z0 trivial ?_
 ·kernel_rfl
 obtain ⟨v3,hv3,h⟩:=of_bind h
 refine AOps.cons (AOne.callP (F:=(FF 45 0)) _ rfl rfl rfl _ rfl rfl _ _ rfl Tryz.call97 [tI (if v2.f0 > v1.f0 then v2.f0 else v1.f0),.agg (c128 v1)] rfl rfl (f97_ok (if v2.f0 > v1.f0 then v2.f0 else v1.f0) v1 hv3) rfl) ?_
 refine AOps.go [3,4,5,6] [] [] [2,3,5] 2 ⟨[(2,.pc 0 0),(3,.pc 1 0),(5,tI (if v2.f0 > v1.f0 then v2.f0 else v1.f0))],[.cells 129 [.int .i64 v3.1.f0,.int .i64 v3.1.f1],.cells 129 (c128 v2)]⟩ ?_ z0 trivial ?_
 ·kernel_rfl
 refine AOps.nil ?_
 refine AWp.seq ?_
 refine AWp.pin 0 rfl rfl ?_
 refine AWp.keepTo [2,3,5] 2 ⟨[(2,.rp [.int .i64 v3.1.f0,.int .i64 v3.1.f1]),(3,.pc 1 0),(5,tI (if v2.f0 > v1.f0 then v2.f0 else v1.f0))],[.dead,.cells 129 (c128 v2)]⟩ ?_ z0 ?_
 ·kernel_rfl
 refine AWp.start [0,1] [2,3,4,5,6] [] [2,3,5,20,21] 2 ⟨[(2,.rp [.int .i64 v3.1.f0,.int .i64 v3.1.f1]),(3,.pc 1 0),(5,tI (if v2.f0 > v1.f0 then v2.f0 else v1.f0)),(20,tI (if v2.f0 > v1.f0 then v2.f0 else v1.f0)),(21,.agg (c128 v2))],[.dead,.cells 129 (c128 v2)]⟩ rfl ?_ z0 trivial ?_
 ·kernel_rfl
 obtain ⟨v4,hv4,h⟩:=of_bind h
 refine AOps.cons (AOne.callP (F:=(FF 45 0)) _ rfl rfl rfl _ rfl rfl _ _ rfl Tryz.call97 [tI (if v2.f0 > v1.f0 then v2.f0 else v1.f0),.agg (c128 v2)] rfl rfl (f97_ok (if v2.f0 > v1.f0 then v2.f0 else v1.f0) v2 hv4) rfl) ?_
 refine AOps.go [3,4,5,6] [] [] [2,3,5] 2 ⟨[(2,.rp [.int .i64 v3.1.f0,.int .i64 v3.1.f1]),(3,.pc 1 0),(5,tI (if v2.f0 > v1.f0 then v2.f0 else v1.f0))],[.dead,.cells 129 [.int .i64 v4.1.f0,.int .i64 v4.1.f1]]⟩ ?_ z0 trivial ?_
 ·kernel_rfl
 refine AOps.nil ?_
 refine AWp.seq ?_
 refine AWp.seq ?_
 refine AWp.pin 1 rfl rfl ?_
 refine AWp.keepTo [2,3,5] 0 ⟨[(2,.rp [.int .i64 v3.1.f0,.int .i64 v3.1.f1]),(3,.rp [.int .i64 v4.1.f0,.int .i64 v4.1.f1]),(5,tI (if v2.f0 > v1.f0 then v2.f0 else v1.f0))],[]⟩ ?_ z0 ?_
 ·kernel_rfl
 refine AWp.start [0,1] [] [] [2,3,5,26] 0 ⟨[(2,.rp [.int .i64 v3.1.f0,.int .i64 v3.1.f1]),(3,.rp [.int .i64 v4.1.f0,.int .i64 v4.1.f1]),(5,tI (if v2.f0 > v1.f0 then v2.f0 else v1.f0)),(26,tB ((if v2.f0 > v1.f0 then v2.f0 else v1.f0) == (1:Int)))],[]⟩ rfl ?_ z0 trivial ?_
 ·kernel_rfl
 refine AOps.nil ?_
 refine AWp.cond rfl (fun hb=>?_) fun hb=>?_
 ·replace h:=of_true h hb
  refine AWp.keepTo [2,3] 0 ⟨[(2,.rp [.int .i64 v3.1.f0,.int .i64 v3.1.f1]),(3,.rp [.int .i64 v4.1.f0,.int .i64 v4.1.f1])],[]⟩ ?_ z0 ?_
  ·kernel_rfl
  refine AWp.seq ?_
  refine AWp.start [0,1,2,3,4,5,6,7] [] [] [4] 0 ⟨[(4,tI (if (1:Int) < (if (-1:Int) > w64 (v3.1.f1 - v4.1.f1) then (-1:Int) else w64 (v3.1.f1 - v4.1.f1)) then (1:Int) else (if (-1:Int) > w64 (v3.1.f1 - v4.1.f1) then (-1:Int) else w64 (v3.1.f1 - v4.1.f1))))],[]⟩ rfl ?_ z0 trivial ?_
  ·kernel_rfl
  refine AOps.nil ?_
  refine AWp.ret ?_
  cases h
  exact ⟨.inr rfl,rfl⟩
 ·replace h:=of_false h hb
  refine AWp.keepTo [2,3,5] 0 ⟨[(2,.rp [.int .i64 v3.1.f0,.int .i64 v3.1.f1]),(3,.rp [.int .i64 v4.1.f0,.int .i64 v4.1.f1]),(5,tI (if v2.f0 > v1.f0 then v2.f0 else v1.f0))],[]⟩ ?_ z0 ?_
  ·kernel_rfl
  refine AWp.skip ?_
  refine AWp.seq ?_
  cases h

noncomputable def f133 (v1:List UInt8) (v2:Int):Option Bool :=
 cond (v1 == ([61,61]:List UInt8)) (some (v2 == (0:Int))) (cond (v1 == ([47,61]:List UInt8)) (some (v2 != (0:Int))) (cond (v1 == ([60]:List UInt8)) (some (v2 == (-1:Int))) (cond (v1 == ([60,61]:List UInt8)) ((cond (v2 == (-1:Int)) (some true) (some (v2 == (0:Int)))).bind fun v3=>some v3) (cond (v1 == ([62]:List UInt8)) (some (v2 == (1:Int))) ((cond (v2 == (0:Int)) (some true) (some (v2 == (1:Int)))).bind fun v4=>some v4)))))

theorem f133_ok (v1:List UInt8) (v2:Int) {r:Bool} (h:f133 v1 v2 = some r):ACall Tryz.prog 133 [.tv (.str v1),.tv (.int .i64 v2)] [] (.tv (.bool r)) []:=by
 refine ACall.of1 (FF 36 0) Tryz.func133 rfl Tryz.ntmps133 Tryz.results133 (zz rfl) rfl rfl ?_
 refine AWp.seq ?_
 refine AWp.start [0] [] [] [0,1] 0 ⟨[(0,tS v1),(1,tI v2)],[]⟩ rfl ?_ z0 trivial ?_
 ·kernel_rfl
 refine AOps.nil ?_
 refine AWp.seq ?_
 refine AWp.seq ?_
 refine AWp.start [0] [] [] [1,5] 0 ⟨[(1,tI v2),(5,tS v1)],[]⟩ rfl ?_ z0 trivial ?_
 ·kernel_rfl
 refine AOps.nil ?_
 refine AWp.block ?_
 refine AWp.seq ?_
 refine AWp.start [0,1] [] [] [1,5,6] 0 ⟨[(1,tI v2),(5,tS v1),(6,tB (v1 == ([61,61]:List UInt8)))],[]⟩ rfl ?_ z0 trivial ?_
 ·kernel_rfl
 refine AOps.nil ?_
 refine AWp.cond rfl (fun hb=>?_) fun hb=>?_
 ·replace h:=of_true h hb
  refine AWp.keepTo [1] 0 ⟨[(1,tI v2)],[]⟩ ?_ z0 ?_
  ·kernel_rfl
  refine AWp.seq ?_
  refine AWp.start [0,1,2] [] [] [4] 0 ⟨[(4,tB (v2 == (0:Int)))],[]⟩ rfl ?_ z0 trivial ?_
  ·kernel_rfl
  refine AOps.nil ?_
  refine AWp.ret ?_
  cases h
  exact ⟨.inr rfl,rfl⟩
 ·replace h:=of_false h hb
  refine AWp.keepTo [1,5] 0 ⟨[(1,tI v2),(5,tS v1)],[]⟩ ?_ z0 ?_
  ·kernel_rfl
  refine AWp.seq ?_
  refine AWp.start [0,1] [] [] [1,5,10] 0 ⟨[(1,tI v2),(5,tS v1),(10,tB (v1 == ([47,61]:List UInt8)))],[]⟩ rfl ?_ z0 trivial ?_
  ·kernel_rfl
  refine AOps.nil ?_
  refine AWp.cond rfl (fun hb=>?_) fun hb=>?_
  ·replace h:=of_true h hb
   refine AWp.keepTo [1] 0 ⟨[(1,tI v2)],[]⟩ ?_ z0 ?_
   ·kernel_rfl
   refine AWp.seq ?_
   refine AWp.start [0,1,2] [] [] [4] 0 ⟨[(4,tB (v2 != (0:Int)))],[]⟩ rfl ?_ z0 trivial ?_
   ·kernel_rfl
   refine AOps.nil ?_
   refine AWp.ret ?_
   cases h
   exact ⟨.inr rfl,rfl⟩
  ·replace h:=of_false h hb
   refine AWp.keepTo [1,5] 0 ⟨[(1,tI v2),(5,tS v1)],[]⟩ ?_ z0 ?_
   ·kernel_rfl
   refine AWp.seq ?_
   refine AWp.start [0,1] [] [] [1,5,14] 0 ⟨[(1,tI v2),(5,tS v1),(14,tB (v1 == ([60]:List UInt8)))],[]⟩ rfl ?_ z0 trivial ?_
   ·kernel_rfl
   refine AOps.nil ?_
   refine AWp.cond rfl (fun hb=>?_) fun hb=>?_
   ·replace h:=of_true h hb
    refine AWp.keepTo [1] 0 ⟨[(1,tI v2)],[]⟩ ?_ z0 ?_
    ·kernel_rfl
    refine AWp.seq ?_
    refine AWp.start [0,1,2] [] [] [4] 0 ⟨[(4,tB (v2 == (-1:Int)))],[]⟩ rfl ?_ z0 trivial ?_
    ·kernel_rfl
    refine AOps.nil ?_
    refine AWp.ret ?_
    cases h
    exact ⟨.inr rfl,rfl⟩
   ·replace h:=of_false h hb
    refine AWp.keepTo [1,5] 0 ⟨[(1,tI v2),(5,tS v1)],[]⟩ ?_ z0 ?_
    ·kernel_rfl
    refine AWp.seq ?_
    refine AWp.start [0,1] [] [] [1,5,18] 0 ⟨[(1,tI v2),(5,tS v1),(18,tB (v1 == ([60,61]:List UInt8)))],[]⟩ rfl ?_ z0 trivial ?_
    ·kernel_rfl
    refine AOps.nil ?_
    refine AWp.cond rfl (fun hb=>?_) fun hb=>?_
    ·replace h:=of_true h hb
     refine AWp.keepTo [1] 0 ⟨[(1,tI v2)],[]⟩ ?_ z0 ?_
     ·kernel_rfl
     refine AWp.seq ?_
     refine AWp.start [0,1,2] [3,4,5,6] [] [1,22] 0 ⟨[(1,tI v2),(22,tB (v2 == (-1:Int)))],[]⟩ rfl ?_ z0 trivial ?_
     ·kernel_rfl
     obtain ⟨v3,hc3,h⟩:=of_bind h
     refine AOps.cut [3,4,5] [6] (fun σ=>σ = ⟨[(25,tB v3)],[]⟩) ?_ fun σ' hJ=>?_
     ·refine AOps.split (fun b=>⟨[(1,tI v2),(22,tB b)],[]⟩) _ (fun hb=>?_) fun hb=>?_
      ·replace hc3:=of_true hc3 hb
       refine AOps.go [3,4,5] [] [] [25] 0 ⟨[(25,tB true)],[]⟩ ?_ z0 trivial ?_
       ·kernel_rfl
       cases hc3
       exact AOps.nil rfl
      ·replace hc3:=of_false hc3 hb
       refine AOps.go [3,4,5] [] [] [25] 0 ⟨[(25,tB (v2 == (0:Int)))],[]⟩ ?_ z0 trivial ?_
       ·kernel_rfl
       cases hc3
       exact AOps.nil rfl
     subst hJ
     refine AOps.go [6] [] [] [4] 0 ⟨[(4,tB v3)],[]⟩ ?_ z0 trivial ?_
     ·kernel_rfl
     refine AOps.nil ?_
     refine AWp.ret ?_
     cases h
     exact ⟨.inr rfl,rfl⟩
    ·replace h:=of_false h hb
     refine AWp.keepTo [1,5] 0 ⟨[(1,tI v2),(5,tS v1)],[]⟩ ?_ z0 ?_
     ·kernel_rfl
     refine AWp.seq ?_
     refine AWp.start [0,1] [] [] [1,26] 0 ⟨[(1,tI v2),(26,tB (v1 == ([62]:List UInt8)))],[]⟩ rfl ?_ z0 trivial ?_
     ·kernel_rfl
     refine AOps.nil ?_
     refine AWp.cond rfl (fun hb=>?_) fun hb=>?_
     ·replace h:=of_true h hb
      refine AWp.keepTo [1] 0 ⟨[(1,tI v2)],[]⟩ ?_ z0 ?_
      ·kernel_rfl
      refine AWp.seq ?_
      refine AWp.start [0,1,2] [] [] [4] 0 ⟨[(4,tB (v2 == (1:Int)))],[]⟩ rfl ?_ z0 trivial ?_
      ·kernel_rfl
      refine AOps.nil ?_
      refine AWp.ret ?_
      cases h
      exact ⟨.inr rfl,rfl⟩
     ·replace h:=of_false h hb
      refine AWp.keepTo [1] 0 ⟨[(1,tI v2)],[]⟩ ?_ z0 ?_
      ·kernel_rfl
      refine AWp.skip ?_
      refine AWp.seq ?_
      refine AWp.start [0,1,2] [3,4,5,6] [] [1,32] 0 ⟨[(1,tI v2),(32,tB (v2 == (0:Int)))],[]⟩ rfl ?_ z0 trivial ?_
      ·kernel_rfl
      obtain ⟨v4,hc3,h⟩:=of_bind h
      refine AOps.cut [3,4,5] [6] (fun σ=>σ = ⟨[(35,tB v4)],[]⟩) ?_ fun σ' hJ=>?_
      ·refine AOps.split (fun b=>⟨[(1,tI v2),(32,tB b)],[]⟩) _ (fun hb=>?_) fun hb=>?_
       ·replace hc3:=of_true hc3 hb
        refine AOps.go [3,4,5] [] [] [35] 0 ⟨[(35,tB true)],[]⟩ ?_ z0 trivial ?_
        ·kernel_rfl
        cases hc3
        exact AOps.nil rfl
       ·replace hc3:=of_false hc3 hb
        refine AOps.go [3,4,5] [] [] [35] 0 ⟨[(35,tB (v2 == (1:Int)))],[]⟩ ?_ z0 trivial ?_
        ·kernel_rfl
        cases hc3
        exact AOps.nil rfl
      subst hJ
      refine AOps.go [6] [] [] [4] 0 ⟨[(4,tB v4)],[]⟩ ?_ z0 trivial ?_
      ·kernel_rfl
      refine AOps.nil ?_
      refine AWp.ret ?_
      cases h
      exact ⟨.inr rfl,rfl⟩

abbrev hp7:List AObj:=[.dead,.dead,.cells 129 [.int .i64 (0:Int),.int .i64 (0:Int)]]

noncomputable def f102_j1 (v1:List UInt8) (v2:T128) (v3:T128) (v8:Bool):Option (T128 × Int) :=
 cond v8 ((f132 v1 v2 v3).bind fun v9=>some (v9.1,v9.2)) (cond (v2.f0 == (2:Int)) ((f75 ((v2.f1 == v3.f1) == (v1 == ([61,61]:List UInt8)))).bind fun v10=>some (v10,(0:Int))) ((f100 v2 v3).bind fun v11=>(f133 v1 v11).bind fun v12=>(f75 v12).bind fun v13=>some (v13,(0:Int))))

noncomputable def f102 (v1:List UInt8) (v2:T128) (v3:T128):Option (T128 × Int) :=
 cond (v1 == ([46,97,110,100,46]:List UInt8)) ((cond (v2.f1 == (1:Int)) (some (v3.f1 == (1:Int))) (some false)).bind fun v4=>(f75 v4).bind fun v5=>some (v5,(0:Int))) (cond (v1 == ([46,111,114,46]:List UInt8)) ((cond (v2.f1 == (1:Int)) (some true) (some (v3.f1 == (1:Int)))).bind fun v6=>(f75 v6).bind fun v7=>some (v7,(0:Int))) (cond (v1 == ([43]:List UInt8)) (f102_j1 v1 v2 v3 (v1 == ([43]:List UInt8))) (cond (v1 == ([45]:List UInt8)) (f102_j1 v1 v2 v3 (v1 == ([45]:List UInt8))) (cond (v1 == ([42]:List UInt8)) (f102_j1 v1 v2 v3 (v1 == ([42]:List UInt8))) (f102_j1 v1 v2 v3 (v1 == ([47]:List UInt8)))))))

theorem f102_ok (v1:List UInt8) (v2:T128) (v3:T128) {r:T128 × Int} (h:f102 v1 v2 v3 = some r):ACall Tryz.prog 102 [.tv (.str v1),.agg [.int .i64 v2.f0,.int .i64 v2.f1],.agg [.int .i64 v3.f0,.int .i64 v3.f1]] [] (.tup [.agg [.int .i64 r.1.f0,.int .i64 r.1.f1],.tv (.int .i64 r.2)]) []:=by
 refine ACall.ofNc (FF 60 0) (rs:=[6,7]) (sv:=(.agg [.int .i64 r.1.f0,.int .i64 r.1.f1])) (cells0:=[.int .i64 r.1.f0,.int .i64 r.1.f1]) 6 129 (env0:=[(6,.rp [.int .i64 r.1.f0,.int .i64 r.1.f1]),(7,tI r.2)]) (env:=[(6,.agg [.int .i64 r.1.f0,.int .i64 r.1.f1]),(7,tI r.2)]) Tryz.func102 rfl Tryz.ntmps102 (by kernel_rfl) (by decide) (by decide) rfl (zz rfl) rfl rfl rfl (by kernel_rfl) rfl [6,7] 0 z0 rfl (get_ofN _ _ _ rfl) (ok_ofN _ rfl) ?_
 refine AWp.seq ?_
 refine AWp.start [0,1,2,3] [] [] [0,4,5,6] 3 ⟨[(0,tS v1),(4,.pc 0 0),(5,.pc 1 0),(6,.pc 2 0)],[.cells 129 (c128 v2),.cells 129 (c128 v3),.cells 129 [.int .i64 (0:Int),.int .i64 (0:Int)]]⟩ rfl ?_ z0 trivial ?_
 ·kernel_rfl
 refine AOps.nil ?_
 refine AWp.seq ?_
 refine AWp.seq ?_
 refine AWp.pin 0 rfl rfl ?_
 refine AWp.pin 1 rfl rfl ?_
 refine AWp.keepTo [0,4,5,6] 3 ⟨[(0,tS v1),(4,.rp (c128 v2)),(5,.rp (c128 v3)),(6,.pc 2 0)],hp7⟩ ?_ z0 ?_
 ·kernel_rfl
 refine AWp.start [0] [] [] [0,4,5,6,8] 3 ⟨[(0,tS v1),(4,.rp (c128 v2)),(5,.rp (c128 v3)),(6,.pc 2 0),(8,tS v1)],hp7⟩ rfl ?_ z0 trivial ?_
 ·kernel_rfl
 refine AOps.nil ?_
 refine AWp.block ?_
 refine AWp.seq ?_
 refine AWp.start [0,1] [] [] [0,4,5,6,8,9] 3 ⟨[(0,tS v1),(4,.rp (c128 v2)),(5,.rp (c128 v3)),(6,.pc 2 0),(8,tS v1),(9,tB (v1 == ([46,97,110,100,46]:List UInt8)))],hp7⟩ rfl ?_ z0 trivial ?_
 ·kernel_rfl
 refine AOps.nil ?_
 refine AWp.cond rfl (fun hb=>?_) fun hb=>?_
 ·replace h:=of_true h hb
  refine AWp.keepTo [4,5,6] 3 ⟨[(4,.rp (c128 v2)),(5,.rp (c128 v3)),(6,.pc 2 0)],hp7⟩ ?_ z0 ?_
  ·kernel_rfl
  refine AWp.seq ?_
  refine AWp.start [0,1,2,3] [4,5,6,7,8,9,10] [] [5,6,14] 3 ⟨[(5,.rp (c128 v3)),(6,.pc 2 0),(14,tB (v2.f1 == (1:Int)))],hp7⟩ rfl ?_ z0 trivial ?_
  ·kernel_rfl
  obtain ⟨v4,hc4,h⟩:=of_bind h
  refine AOps.cut [4,5,6,7] [8,9,10] (fun σ=>σ = ⟨[(6,.pc 2 0),(18,tB v4)],hp7⟩) ?_ fun σ' hJ=>?_
  ·refine AOps.split (fun b=>⟨[(5,.rp (c128 v3)),(6,.pc 2 0),(14,tB b)],hp7⟩) _ (fun hb=>?_) fun hb=>?_
   ·replace hc4:=of_true hc4 hb
    refine AOps.go [4,5,6,7] [] [] [6,18] 3 ⟨[(6,.pc 2 0),(18,tB (v3.f1 == (1:Int)))],hp7⟩ ?_ z0 trivial ?_
    ·kernel_rfl
    cases hc4
    exact AOps.nil rfl
   ·replace hc4:=of_false hc4 hb
    refine AOps.go [4,5,6,7] [] [] [6,18] 3 ⟨[(6,.pc 2 0),(18,tB false)],hp7⟩ ?_ z0 trivial ?_
    ·kernel_rfl
    cases hc4
    exact AOps.nil rfl
  subst hJ
  obtain ⟨v5,hv5,h⟩:=of_bind h
  refine AOps.cons (AOne.callP (F:=(FF 60 0)) _ rfl rfl rfl _ rfl rfl _ _ rfl Tryz.call75 [tB v4] rfl rfl (f75_ok v4 hv5) rfl) ?_
  refine AOps.go [9,10] [] [] [6,7] 3 ⟨[(6,.pc 2 0),(7,tI (0:Int))],[.dead,.dead,.cells 129 (c128 v5)]⟩ ?_ z0 trivial ?_
  ·kernel_rfl
  refine AOps.nil ?_
  refine AWp.pin 2 rfl rfl ?_
  refine AWp.keepTo [6,7] 0 ⟨[(6,.rp (c128 v5)),(7,tI (0:Int))],[]⟩ ?_ z0 ?_
  ·kernel_rfl
  refine AWp.ret ?_
  cases h
  exact ⟨.inr rfl,rfl⟩
 ·replace h:=of_false h hb
  refine AWp.keepTo [0,4,5,6,8] 3 ⟨[(0,tS v1),(4,.rp (c128 v2)),(5,.rp (c128 v3)),(6,.pc 2 0),(8,tS v1)],hp7⟩ ?_ z0 ?_
  ·kernel_rfl
  refine AWp.seq ?_
  refine AWp.start [0,1] [] [] [0,4,5,6,8,20] 3 ⟨[(0,tS v1),(4,.rp (c128 v2)),(5,.rp (c128 v3)),(6,.pc 2 0),(8,tS v1),(20,tB (v1 == ([46,111,114,46]:List UInt8)))],hp7⟩ rfl ?_ z0 trivial ?_
  ·kernel_rfl
  refine AOps.nil ?_
  refine AWp.cond rfl (fun hb=>?_) fun hb=>?_
  ·replace h:=of_true h hb
   refine AWp.keepTo [4,5,6] 3 ⟨[(4,.rp (c128 v2)),(5,.rp (c128 v3)),(6,.pc 2 0)],hp7⟩ ?_ z0 ?_
   ·kernel_rfl
   refine AWp.seq ?_
   refine AWp.start [0,1,2,3] [4,5,6,7,8,9,10] [] [5,6,25] 3 ⟨[(5,.rp (c128 v3)),(6,.pc 2 0),(25,tB (v2.f1 == (1:Int)))],hp7⟩ rfl ?_ z0 trivial ?_
   ·kernel_rfl
   obtain ⟨v6,hc4,h⟩:=of_bind h
   refine AOps.cut [4,5,6,7] [8,9,10] (fun σ=>σ = ⟨[(6,.pc 2 0),(29,tB v6)],hp7⟩) ?_ fun σ' hJ=>?_
   ·refine AOps.split (fun b=>⟨[(5,.rp (c128 v3)),(6,.pc 2 0),(25,tB b)],hp7⟩) _ (fun hb=>?_) fun hb=>?_
    ·replace hc4:=of_true hc4 hb
     refine AOps.go [4,5,6,7] [] [] [6,29] 3 ⟨[(6,.pc 2 0),(29,tB true)],hp7⟩ ?_ z0 trivial ?_
     ·kernel_rfl
     cases hc4
     exact AOps.nil rfl
    ·replace hc4:=of_false hc4 hb
     refine AOps.go [4,5,6,7] [] [] [6,29] 3 ⟨[(6,.pc 2 0),(29,tB (v3.f1 == (1:Int)))],hp7⟩ ?_ z0 trivial ?_
     ·kernel_rfl
     cases hc4
     exact AOps.nil rfl
   subst hJ
   obtain ⟨v7,hv7,h⟩:=of_bind h
   refine AOps.cons (AOne.callP (F:=(FF 60 0)) _ rfl rfl rfl _ rfl rfl _ _ rfl Tryz.call75 [tB v6] rfl rfl (f75_ok v6 hv7) rfl) ?_
   refine AOps.go [9,10] [] [] [6,7] 3 ⟨[(6,.pc 2 0),(7,tI (0:Int))],[.dead,.dead,.cells 129 (c128 v7)]⟩ ?_ z0 trivial ?_
   ·kernel_rfl
   refine AOps.nil ?_
   refine AWp.pin 2 rfl rfl ?_
   refine AWp.keepTo [6,7] 0 ⟨[(6,.rp (c128 v7)),(7,tI (0:Int))],[]⟩ ?_ z0 ?_
   ·kernel_rfl
   refine AWp.ret ?_
   cases h
   exact ⟨.inr rfl,rfl⟩
  ·replace h:=of_false h hb
   refine AWp.keepTo [0,4,5,6,8] 3 ⟨[(0,tS v1),(4,.rp (c128 v2)),(5,.rp (c128 v3)),(6,.pc 2 0),(8,tS v1)],hp7⟩ ?_ z0 ?_
   ·kernel_rfl
   refine AWp.join (V:=Bool) (fun w=>⟨[(0,tS v1),(4,.rp (c128 v2)),(5,.rp (c128 v3)),(6,.pc 2 0),(31,tB w)],hp7⟩) (fun w=>f102_j1 v1 v2 v3 w = some r) ?_ ?_
   ·refine AWp.seq ?_
    refine AWp.start [0,1] [] [] [0,4,5,6,8,31] 3 ⟨[(0,tS v1),(4,.rp (c128 v2)),(5,.rp (c128 v3)),(6,.pc 2 0),(8,tS v1),(31,tB (v1 == ([43]:List UInt8)))],hp7⟩ rfl ?_ z0 trivial ?_
    ·kernel_rfl
    refine AOps.nil ?_
    refine AWp.cond rfl (fun hb=>?_) fun hb=>?_
    ·replace h:=of_true h hb
     refine AWp.keepTo [0,4,5,6,31] 3 ⟨[(0,tS v1),(4,.rp (c128 v2)),(5,.rp (c128 v3)),(6,.pc 2 0),(31,tB (v1 == ([43]:List UInt8)))],hp7⟩ ?_ z0 ?_
     ·kernel_rfl
     refine AWp.skip ?_
     exact ⟨(v1 == ([43]:List UInt8)),h,rfl⟩
    ·replace h:=of_false h hb
     refine AWp.keepTo [0,4,5,6,8] 3 ⟨[(0,tS v1),(4,.rp (c128 v2)),(5,.rp (c128 v3)),(6,.pc 2 0),(8,tS v1)],hp7⟩ ?_ z0 ?_
     ·kernel_rfl
     refine AWp.seq ?_
     refine AWp.start [0,1] [] [] [0,4,5,6,8,31] 3 ⟨[(0,tS v1),(4,.rp (c128 v2)),(5,.rp (c128 v3)),(6,.pc 2 0),(8,tS v1),(31,tB (v1 == ([45]:List UInt8)))],hp7⟩ rfl ?_ z0 trivial ?_
     ·kernel_rfl
     refine AOps.nil ?_
     refine AWp.cond rfl (fun hb=>?_) fun hb=>?_
     ·replace h:=of_true h hb
      refine AWp.keepTo [0,4,5,6,31] 3 ⟨[(0,tS v1),(4,.rp (c128 v2)),(5,.rp (c128 v3)),(6,.pc 2 0),(31,tB (v1 == ([45]:List UInt8)))],hp7⟩ ?_ z0 ?_
      ·kernel_rfl
      refine AWp.skip ?_
      exact ⟨(v1 == ([45]:List UInt8)),h,rfl⟩
     ·replace h:=of_false h hb
      refine AWp.keepTo [0,4,5,6,8] 3 ⟨[(0,tS v1),(4,.rp (c128 v2)),(5,.rp (c128 v3)),(6,.pc 2 0),(8,tS v1)],hp7⟩ ?_ z0 ?_
      ·kernel_rfl
      refine AWp.seq ?_
      refine AWp.start [0,1] [] [] [0,4,5,6,8,31] 3 ⟨[(0,tS v1),(4,.rp (c128 v2)),(5,.rp (c128 v3)),(6,.pc 2 0),(8,tS v1),(31,tB (v1 == ([42]:List UInt8)))],hp7⟩ rfl ?_ z0 trivial ?_
      ·kernel_rfl
      refine AOps.nil ?_
      refine AWp.cond rfl (fun hb=>?_) fun hb=>?_
      ·replace h:=of_true h hb
       refine AWp.keepTo [0,4,5,6,31] 3 ⟨[(0,tS v1),(4,.rp (c128 v2)),(5,.rp (c128 v3)),(6,.pc 2 0),(31,tB (v1 == ([42]:List UInt8)))],hp7⟩ ?_ z0 ?_
       ·kernel_rfl
       refine AWp.skip ?_
       exact ⟨(v1 == ([42]:List UInt8)),h,rfl⟩
      ·replace h:=of_false h hb
       refine AWp.keepTo [0,4,5,6,8] 3 ⟨[(0,tS v1),(4,.rp (c128 v2)),(5,.rp (c128 v3)),(6,.pc 2 0),(8,tS v1)],hp7⟩ ?_ z0 ?_
       ·kernel_rfl
       refine AWp.start [0,1] [] [] [0,4,5,6,31] 3 ⟨[(0,tS v1),(4,.rp (c128 v2)),(5,.rp (c128 v3)),(6,.pc 2 0),(31,tB (v1 == ([47]:List UInt8)))],hp7⟩ rfl ?_ z0 trivial ?_
       ·kernel_rfl
       refine AOps.nil ?_
       exact ⟨(v1 == ([47]:List UInt8)),h,rfl⟩
   ·rintro v8 h
    refine AWp.cond rfl (fun hb=>?_) fun hb=>?_
    ·replace h:=of_true h hb
     refine AWp.keepTo [0,4,5,6] 3 ⟨[(0,tS v1),(4,.rp (c128 v2)),(5,.rp (c128 v3)),(6,.pc 2 0)],hp7⟩ ?_ z0 ?_
     ·kernel_rfl
     refine AWp.seq ?_
     refine AWp.start [0,1,2] [3,4,5,6,7] [] [6,36,37,38] 3 ⟨[(6,.pc 2 0),(36,tS v1),(37,.agg (c128 v2)),(38,.agg (c128 v3))],hp7⟩ rfl ?_ z0 trivial ?_
     ·kernel_rfl
     obtain ⟨v9,hv9,h⟩:=of_bind h
     refine AOps.cons (AOne.callP (F:=(FF 60 0)) _ rfl rfl rfl _ rfl rfl _ _ rfl Tryz.call132 [tS v1,.agg (c128 v2),.agg (c128 v3)] rfl rfl (f132_ok v1 v2 v3 hv9) rfl) ?_
     refine AOps.go [4,5,6,7] [] [] [6,7] 3 ⟨[(6,.pc 2 0),(7,tI v9.2)],[.dead,.dead,.cells 129 [.int .i64 v9.1.f0,.int .i64 v9.1.f1]]⟩ ?_ z0 trivial ?_
     ·kernel_rfl
     refine AOps.nil ?_
     refine AWp.pin 2 rfl rfl ?_
     refine AWp.keepTo [6,7] 0 ⟨[(6,.rp [.int .i64 v9.1.f0,.int .i64 v9.1.f1]),(7,tI v9.2)],[]⟩ ?_ z0 ?_
     ·kernel_rfl
     refine AWp.ret ?_
     cases h
     exact ⟨.inr rfl,rfl⟩
    ·replace h:=of_false h hb
     refine AWp.keepTo [0,4,5,6] 3 ⟨[(0,tS v1),(4,.rp (c128 v2)),(5,.rp (c128 v3)),(6,.pc 2 0)],hp7⟩ ?_ z0 ?_
     ·kernel_rfl
     refine AWp.skip ?_
     refine AWp.seq ?_
     refine AWp.seq ?_
     refine AWp.start [0,1,2] [] [] [0,4,5,6,44] 3 ⟨[(0,tS v1),(4,.rp (c128 v2)),(5,.rp (c128 v3)),(6,.pc 2 0),(44,tB (v2.f0 == (2:Int)))],hp7⟩ rfl ?_ z0 trivial ?_
     ·kernel_rfl
     refine AOps.nil ?_
     refine AWp.cond rfl (fun hb=>?_) fun hb=>?_
     ·replace h:=of_true h hb
      refine AWp.keepTo [0,4,5,6] 3 ⟨[(0,tS v1),(4,.rp (c128 v2)),(5,.rp (c128 v3)),(6,.pc 2 0)],hp7⟩ ?_ z0 ?_
      ·kernel_rfl
      refine AWp.seq ?_
      refine AWp.start [0,1,2,3,4,5,6,7] [8,9,10] [] [6,52] 3 ⟨[(6,.pc 2 0),(52,tB ((v2.f1 == v3.f1) == (v1 == ([61,61]:List UInt8))))],hp7⟩ rfl ?_ z0 trivial ?_
      ·kernel_rfl
      obtain ⟨v10,hv10,h⟩:=of_bind h
      refine AOps.cons (AOne.callP (F:=(FF 60 0)) _ rfl rfl rfl _ rfl rfl _ _ rfl Tryz.call75 [tB ((v2.f1 == v3.f1) == (v1 == ([61,61]:List UInt8)))] rfl rfl (f75_ok ((v2.f1 == v3.f1) == (v1 == ([61,61]:List UInt8))) hv10) rfl) ?_
      refine AOps.go [9,10] [] [] [6,7] 3 ⟨[(6,.pc 2 0),(7,tI (0:Int))],[.dead,.dead,.cells 129 (c128 v10)]⟩ ?_ z0 trivial ?_
      ·kernel_rfl
      refine AOps.nil ?_
      refine AWp.pin 2 rfl rfl ?_
      refine AWp.keepTo [6,7] 0 ⟨[(6,.rp (c128 v10)),(7,tI (0:Int))],[]⟩ ?_ z0 ?_
      ·kernel_rfl
      refine AWp.ret ?_
      cases h
      exact ⟨.inr rfl,rfl⟩
     ·replace h:=of_false h hb
      refine AWp.keepTo [0,4,5,6] 3 ⟨[(0,tS v1),(4,.rp (c128 v2)),(5,.rp (c128 v3)),(6,.pc 2 0)],hp7⟩ ?_ z0 ?_
      ·kernel_rfl
      refine AWp.skip ?_
      refine AWp.seq ?_
      refine AWp.start [0,1,2] [3,4,5,6,7] [] [6,54,55,56] 3 ⟨[(6,.pc 2 0),(54,tS v1),(55,.agg (c128 v2)),(56,.agg (c128 v3))],hp7⟩ rfl ?_ z0 trivial ?_
      ·kernel_rfl
      obtain ⟨v11,hv11,h⟩:=of_bind h
      refine AOps.cons (AOne.callP (F:=(FF 60 0)) _ rfl rfl rfl _ rfl rfl _ _ rfl Tryz.call100 [.agg (c128 v2),.agg (c128 v3)] rfl rfl (f100_ok v2 v3 hv11) rfl) ?_
      obtain ⟨v12,hv12,h⟩:=of_bind h
      refine AOps.cons (AOne.callP (F:=(FF 60 0)) _ rfl rfl rfl _ rfl rfl _ _ rfl Tryz.call133 [tS v1,tI v11] rfl rfl (f133_ok v1 v11 hv12) rfl) ?_
      obtain ⟨v13,hv13,h⟩:=of_bind h
      refine AOps.cons (AOne.callP (F:=(FF 60 0)) _ rfl rfl rfl _ rfl rfl _ _ rfl Tryz.call75 [tB v12] rfl rfl (f75_ok v12 hv13) rfl) ?_
      refine AOps.go [6,7] [] [] [6,7] 3 ⟨[(6,.pc 2 0),(7,tI (0:Int))],[.dead,.dead,.cells 129 (c128 v13)]⟩ ?_ z0 trivial ?_
      ·kernel_rfl
      refine AOps.nil ?_
      refine AWp.pin 2 rfl rfl ?_
      refine AWp.keepTo [6,7] 0 ⟨[(6,.rp (c128 v13)),(7,tI (0:Int))],[]⟩ ?_ z0 ?_
      ·kernel_rfl
      refine AWp.ret ?_
      cases h
      exact ⟨.inr rfl,rfl⟩

abbrev hp8 (v9:Int) (v10:Int):List AObj:=[.cells 129 [.int .i64 (0:Int),.int .i64 (0:Int)],.cells 129 [.int .i64 v9,.int .i64 v10]]
abbrev hp9 (v9:Int) (v10:Int):List AObj:=[.cells 129 [.int .i64 (0:Int),.int .i64 (0:Int)],.cells 129 [.int .i64 v9,.int .i64 v10],.cells 129 [.int .i64 (0:Int),.int .i64 (0:Int)]]
abbrev hp10 (v9:Int) (v10:Int) (v15:T128 × Int):List AObj:=[.cells 129 [.int .i64 (0:Int),.int .i64 (0:Int)],.cells 129 [.int .i64 v9,.int .i64 v10],.cells 129 [.int .i64 v15.1.f0,.int .i64 v15.1.f1]]
abbrev hp11 (v17:Int) (v18:Int):List AObj:=[.cells 129 [.int .i64 (0:Int),.int .i64 (0:Int)],.cells 129 [.int .i64 v17,.int .i64 v18]]

noncomputable def f105_j1 (v8:Int) (v16:Int) (v17:Int) (v18:Int):Option ((Int × Int × Int) ⊕ Out (T128 × Int) (Int × Int)) :=
 cond (v16 != (0:Int)) (some (.inr (.ret (T128.mk (0:Int) (0:Int),v16)))) (some (.inl (w64 (v8 + (1:Int)),v17,v18)))

noncomputable def f105_b2 (v1:Int) (v2:Int) (v4:Int) (v5:T59) (v6:T59) (v8:Int) (v9:Int) (v10:Int):Option ((Int × Int × Int) ⊕ Out (T128 × Int) (Int × Int)) :=
 cond (decide (v8 < v4)) ((f68 v5 (w64 ((Int.tmod v1 v2) + (w64 (v8 * v2))))).bind fun v13=>(f68 v6 (w64 (v8 + (w64 ((w64 (Int.tdiv v1 v2)) * v4))))).bind fun v14=>(f102 ([42]:List UInt8) v13 v14).bind fun v15=>cond (v15.2 == (0:Int)) ((f102 ([43]:List UInt8) (T128.mk v9 v10) v15.1).bind fun v19=>f105_j1 v8 v19.2 v19.1.f0 v19.1.f1) (f105_j1 v8 v15.2 v9 v10)) (some (.inr (.go (v9,v10))))

noncomputable def f105 (v1:Int) (v2:Int) (v3:Int) (v4:Int) (v5:T59) (v6:T59):Option (T128 × Int) :=
 if v2 ≠ (0:Int) ∧ v2 ≠ (0:Int) then (f101 v3 (0:Int)).bind fun v7=>(iter (fun s=>f105_b2 v1 v2 v4 v5 v6 s.1 s.2.1 s.2.2) ((0:Int),v7.f0,v7.f1)).bind fun y=>match y with | .ret v20=>some (v20.1,v20.2) | .go (v11,v12)=>some (T128.mk v11 v12,(0:Int)) else none

theorem f105_ok (v1:Int) (v2:Int) (v3:Int) (v4:Int) (v5:T59) (v6:T59) {r:T128 × Int} (h:f105 v1 v2 v3 v4 v5 v6 = some r):ACall Tryz.prog 105 [.tv (.int .i64 v1),.rp [.int .i64 v2],.rp [.int .i64 v3],.rp [.int .i64 v4],.rp [.int .i64 v5.f0,fzL 1 (cInt .i64) v5.f1,fzL 1 (cInt .i64) v5.f2],.rp [.int .i64 v6.f0,fzL 1 (cInt .i64) v6.f1,fzL 1 (cInt .i64) v6.f2]] [] (.tup [.agg [.int .i64 r.1.f0,.int .i64 r.1.f1],.tv (.int .i64 r.2)]) []:=by
 refine ACall.ofNc (FF 59 0) (rs:=[7,8]) (sv:=(.agg [.int .i64 r.1.f0,.int .i64 r.1.f1])) (cells0:=[.int .i64 r.1.f0,.int .i64 r.1.f1]) 7 129 (env0:=[(7,.rp [.int .i64 r.1.f0,.int .i64 r.1.f1]),(8,tI r.2)]) (env:=[(7,.agg [.int .i64 r.1.f0,.int .i64 r.1.f1]),(8,tI r.2)]) Tryz.func105 rfl Tryz.ntmps105 (by kernel_rfl) (by decide) (by decide) rfl (zz rfl) rfl rfl rfl (by kernel_rfl) rfl [7,8] 0 z0 rfl (get_ofN _ _ _ rfl) (ok_ofN _ rfl) ?_
 refine AWp.seq ?_
 refine AWp.start [0,1] [] [] [0,1,2,3,4,5,7] 1 ⟨[(0,tI v1),(1,.rp [.int .i64 v2]),(2,.rp [.int .i64 v3]),(3,.rp [.int .i64 v4]),(4,.rp [.int .i64 v5.f0,k0 v5.f1,k0 v5.f2]),(5,.rp [.int .i64 v6.f0,k0 v6.f1,k0 v6.f2]),(7,.pc 0 0)],[.cells 129 [.int .i64 (0:Int),.int .i64 (0:Int)]]⟩ rfl ?_ z0 trivial ?_
 ·kernel_rfl
 refine AOps.nil ?_
 refine AWp.seq ?_
 refine AWp.draw FFm _ (n:=8) rfl (ls:=#[n1,n1,n1,n1,n1,n1,n1,n1]) rfl ?_ (fun _ h=>h)
 obtain ⟨hg,h⟩:=of_guard h
 refine AAny.go (by kernel_rfl) [0,1,2,3,4,5,6,7] (fuel':=0) rfl [v2 ≠ (0:Int),v2 ≠ (0:Int)] #[y1,y1,y1,y1,y1,y1,y1,y1] [1,2,3,4,5,7,9,10] 1 ⟨[(1,.rp [.int .i64 v2]),(2,.rp [.int .i64 v3]),(3,.rp [.int .i64 v4]),(4,.rp [.int .i64 v5.f0,k0 v5.f1,k0 v5.f2]),(5,.rp [.int .i64 v6.f0,k0 v6.f1,k0 v6.f2]),(7,.pc 0 0),(9,tI (Int.tmod v1 v2)),(10,tI (w64 (Int.tdiv v1 v2)))],[.cells 129 [.int .i64 (0:Int),.int .i64 (0:Int)]]⟩ ?_ z0 ⟨hg.1,hg.2⟩ ?_
 ·kernel_rfl
 refine AAny.keepTo [1,2,3,4,5,7,9,10] 1 ⟨[(1,.rp [.int .i64 v2]),(2,.rp [.int .i64 v3]),(3,.rp [.int .i64 v4]),(4,.rp [.int .i64 v5.f0,k0 v5.f1,k0 v5.f2]),(5,.rp [.int .i64 v6.f0,k0 v6.f1,k0 v6.f2]),(7,.pc 0 0),(9,tI (Int.tmod v1 v2)),(10,tI (w64 (Int.tdiv v1 v2)))],[.cells 129 [.int .i64 (0:Int),.int .i64 (0:Int)]]⟩ _ ?_ rfl z0 (AAny.done (by kernel_rfl) ?_)
 ·kernel_rfl
 refine AWp.seq ?_
 refine AWp.start [0] [1,2,3] [] [1,3,4,5,7,9,10,21] 1 ⟨[(1,.rp [.int .i64 v2]),(3,.rp [.int .i64 v4]),(4,.rp [.int .i64 v5.f0,k0 v5.f1,k0 v5.f2]),(5,.rp [.int .i64 v6.f0,k0 v6.f1,k0 v6.f2]),(7,.pc 0 0),(9,tI (Int.tmod v1 v2)),(10,tI (w64 (Int.tdiv v1 v2))),(21,tI v3)],[.cells 129 [.int .i64 (0:Int),.int .i64 (0:Int)]]⟩ rfl ?_ z0 trivial ?_
 ·kernel_rfl
 obtain ⟨v7,hv7,h⟩:=of_bind h
 refine AOps.cons (AOne.callP (F:=(FF 59 0)) _ rfl rfl rfl _ rfl rfl _ _ rfl Tryz.call101 [tI v3,tI (0:Int)] rfl rfl (f101_ok v3 (0:Int) hv7) rfl) ?_
 refine AOps.go [2,3] [] [] [1,3,4,5,7,9,10,11] 2 ⟨[(1,.rp [.int .i64 v2]),(3,.rp [.int .i64 v4]),(4,.rp [.int .i64 v5.f0,k0 v5.f1,k0 v5.f2]),(5,.rp [.int .i64 v6.f0,k0 v6.f1,k0 v6.f2]),(7,.pc 0 0),(9,tI (Int.tmod v1 v2)),(10,tI (w64 (Int.tdiv v1 v2))),(11,.pc 1 0)],[.cells 129 [.int .i64 (0:Int),.int .i64 (0:Int)],.cells 129 (c128 v7)]⟩ ?_ z0 trivial ?_
 ·kernel_rfl
 refine AOps.nil ?_
 refine AWp.seq ?_
 refine AWp.seq ?_
 refine AWp.start [0,1] [] [] [1,3,4,5,7,9,10,11,23,24] 2 ⟨[(1,.rp [.int .i64 v2]),(3,.rp [.int .i64 v4]),(4,.rp [.int .i64 v5.f0,k0 v5.f1,k0 v5.f2]),(5,.rp [.int .i64 v6.f0,k0 v6.f1,k0 v6.f2]),(7,.pc 0 0),(9,tI (Int.tmod v1 v2)),(10,tI (w64 (Int.tdiv v1 v2))),(11,.pc 1 0),(23,tI v4),(24,tI (0:Int))],[.cells 129 [.int .i64 (0:Int),.int .i64 (0:Int)],.cells 129 (c128 v7)]⟩ rfl ?_ z0 trivial ?_
 ·kernel_rfl
 refine AOps.nil ?_
 refine AWp.block ?_
 obtain ⟨y,hy,h⟩:=of_bind h
 refine AWp.mono (AWp.loop (S:=Int × Int × Int) (Y:=Out (T128 × Int) (Int × Int)) (fun s=>⟨[(1,.rp [.int .i64 v2]),(3,.rp [.int .i64 v4]),(4,.rp [.int .i64 v5.f0,k0 v5.f1,k0 v5.f2]),(5,.rp [.int .i64 v6.f0,k0 v6.f1,k0 v6.f2]),(7,.pc 0 0),(9,tI (Int.tmod v1 v2)),(10,tI (w64 (Int.tdiv v1 v2))),(11,.pc 1 0),(23,tI v4),(24,tI s.1)],[.cells 129 [.int .i64 (0:Int),.int .i64 (0:Int)],.cells 129 [.int .i64 s.2.1,.int .i64 s.2.2]]⟩) (fun s=>f105_b2 v1 v2 v4 v5 v6 s.1 s.2.1 s.2.2) (fun y e σ=>match y with | .ret r=>e = .ret ∧ σ = ⟨[(7,.rp [.int .i64 r.1.f0,.int .i64 r.1.f1]),(8,tI r.2)],[]⟩ | .go v=>e = .exit 0 ∧ σ = ⟨[(7,.pc 0 0),(11,.pc 1 0)],[.cells 129 [.int .i64 (0:Int),.int .i64 (0:Int)],.cells 129 [.int .i64 v.1,.int .i64 v.2]]⟩) ?_ hy) ?_
 ·rintro ⟨v8,v9,v10⟩ o h
  refine AWp.seq ?_
  refine AWp.start [0] [] [] [1,3,4,5,7,9,10,11,23,24,25] 2 ⟨[(1,.rp [.int .i64 v2]),(3,.rp [.int .i64 v4]),(4,.rp [.int .i64 v5.f0,k0 v5.f1,k0 v5.f2]),(5,.rp [.int .i64 v6.f0,k0 v6.f1,k0 v6.f2]),(7,.pc 0 0),(9,tI (Int.tmod v1 v2)),(10,tI (w64 (Int.tdiv v1 v2))),(11,.pc 1 0),(23,tI v4),(24,tI v8),(25,tB (decide (v8 < v4)))],hp8 v9 v10⟩ rfl ?_ z0 trivial ?_
  ·kernel_rfl
  refine AOps.nil ?_
  refine AWp.seq ?_
  refine AWp.cond rfl (fun hb=>?_) fun hb=>?_
  ·replace h:=of_true h hb
   refine AWp.keepTo [1,3,4,5,7,9,10,11,23,24] 2 ⟨[(1,.rp [.int .i64 v2]),(3,.rp [.int .i64 v4]),(4,.rp [.int .i64 v5.f0,k0 v5.f1,k0 v5.f2]),(5,.rp [.int .i64 v6.f0,k0 v6.f1,k0 v6.f2]),(7,.pc 0 0),(9,tI (Int.tmod v1 v2)),(10,tI (w64 (Int.tdiv v1 v2))),(11,.pc 1 0),(23,tI v4),(24,tI v8)],hp8 v9 v10⟩ ?_ z0 ?_
   ·kernel_rfl
   refine AWp.skip ?_
   refine AWp.seq ?_
   refine AWp.block ?_
   refine AWp.seq ?_
   refine AWp.start [0,1] [] [] [1,3,4,5,7,9,10,11,12,23,24] 2 ⟨[(1,.rp [.int .i64 v2]),(3,.rp [.int .i64 v4]),(4,.rp [.int .i64 v5.f0,k0 v5.f1,k0 v5.f2]),(5,.rp [.int .i64 v6.f0,k0 v6.f1,k0 v6.f2]),(7,.pc 0 0),(9,tI (Int.tmod v1 v2)),(10,tI (w64 (Int.tdiv v1 v2))),(11,.pc 1 0),(12,tI v8),(23,tI v4),(24,tI v8)],hp8 v9 v10⟩ rfl ?_ z0 trivial ?_
   ·kernel_rfl
   refine AOps.nil ?_
   refine AWp.seq ?_
   refine AWp.draw FFm _ (n:=21) rfl (ls:=#[n1,n1,n1,n1,n1,n1,n1,n1,n1,n1,n1,n1,n1,n1,n1,n1,n1,n1,n1,n1,n1]) rfl ?_ (fun _ h=>h)
   refine AAny.go (by kernel_rfl) [0,1,2,3,4,5,7,8,9,10,11,12] (fuel':=9) rfl [] #[y1,y1,y1,y1,y1,y1,n1,y1,y1,y1,y1,y1,y1,n1,n1,n1,n1,n1,n1,n1,n1] [1,3,4,5,7,9,10,11,23,24,28,33,35,40] 2 ⟨[(1,.rp [.int .i64 v2]),(3,.rp [.int .i64 v4]),(4,.rp [.int .i64 v5.f0,k0 v5.f1,k0 v5.f2]),(5,.rp [.int .i64 v6.f0,k0 v6.f1,k0 v6.f2]),(7,.pc 0 0),(9,tI (Int.tmod v1 v2)),(10,tI (w64 (Int.tdiv v1 v2))),(11,.pc 1 0),(23,tI v4),(24,tI v8),(28,.agg [.int .i64 v5.f0,k0 v5.f1,k0 v5.f2]),(33,tI (w64 ((Int.tmod v1 v2) + (w64 (v8 * v2))))),(35,.agg [.int .i64 v6.f0,k0 v6.f1,k0 v6.f2]),(40,tI (w64 (v8 + (w64 ((w64 (Int.tdiv v1 v2)) * v4)))))],hp8 v9 v10⟩ ?_ z0 trivial ?_
   ·kernel_rfl
   obtain ⟨v13,hv13,h⟩:=of_bind h
   obtain ⟨v14,hv14,h⟩:=of_bind h
   obtain ⟨v15,hv15,h⟩:=of_bind h
   refine AAny.share 0 #[y1,y1,y1,y1,y1,y1,y1,y1,y1,y1,y1,y1,y1,y1,y1,y1,y1,y1,y1,y1,y1] ⟨[(1,.rp [.int .i64 v2]),(3,.rp [.int .i64 v4]),(4,.rp [.int .i64 v5.f0,k0 v5.f1,k0 v5.f2]),(5,.rp [.int .i64 v6.f0,k0 v6.f1,k0 v6.f2]),(7,.pc 0 0),(9,tI (Int.tmod v1 v2)),(10,tI (w64 (Int.tdiv v1 v2))),(11,.pc 1 0),(13,.pc 2 0),(14,tI v15.2),(23,tI v4),(24,tI v8)],hp10 v9 v10 v15⟩ ?_ fun n6_=>?_
   ·refine AAny.keepTo [1,3,4,5,7,9,10,11,13,14,23,24] 3 ⟨[(1,.rp [.int .i64 v2]),(3,.rp [.int .i64 v4]),(4,.rp [.int .i64 v5.f0,k0 v5.f1,k0 v5.f2]),(5,.rp [.int .i64 v6.f0,k0 v6.f1,k0 v6.f2]),(7,.pc 0 0),(9,tI (Int.tmod v1 v2)),(10,tI (w64 (Int.tdiv v1 v2))),(11,.pc 1 0),(13,.pc 2 0),(14,tI v15.2),(23,tI v4),(24,tI v8)],hp10 v9 v10 v15⟩ _ ?_ rfl z0 (AAny.done (by kernel_rfl) ?_)
    ·kernel_rfl
    refine AWp.join (V:=Int × Int × Int) (fun w=>⟨[(1,.rp [.int .i64 v2]),(3,.rp [.int .i64 v4]),(4,.rp [.int .i64 v5.f0,k0 v5.f1,k0 v5.f2]),(5,.rp [.int .i64 v6.f0,k0 v6.f1,k0 v6.f2]),(7,.pc 0 0),(9,tI (Int.tmod v1 v2)),(10,tI (w64 (Int.tdiv v1 v2))),(11,.pc 1 0),(14,tI w.1),(23,tI v4),(24,tI v8)],[.cells 129 [.int .i64 (0:Int),.int .i64 (0:Int)],.cells 129 [.int .i64 w.2.1,.int .i64 w.2.2]]⟩) (fun w=>f105_j1 v8 w.1 w.2.1 w.2.2 = some o) ?_ ?_
    ·refine AWp.seq ?_
     refine AWp.pin 2 rfl rfl ?_
     refine AWp.keepTo [1,3,4,5,7,9,10,11,13,14,23,24] 2 ⟨[(1,.rp [.int .i64 v2]),(3,.rp [.int .i64 v4]),(4,.rp [.int .i64 v5.f0,k0 v5.f1,k0 v5.f2]),(5,.rp [.int .i64 v6.f0,k0 v6.f1,k0 v6.f2]),(7,.pc 0 0),(9,tI (Int.tmod v1 v2)),(10,tI (w64 (Int.tdiv v1 v2))),(11,.pc 1 0),(13,.rp [.int .i64 v15.1.f0,.int .i64 v15.1.f1]),(14,tI v15.2),(23,tI v4),(24,tI v8)],hp8 v9 v10⟩ ?_ z0 ?_
     ·kernel_rfl
     refine AWp.start [0,1] [] [] [1,3,4,5,7,9,10,11,13,14,23,24,46] 2 ⟨[(1,.rp [.int .i64 v2]),(3,.rp [.int .i64 v4]),(4,.rp [.int .i64 v5.f0,k0 v5.f1,k0 v5.f2]),(5,.rp [.int .i64 v6.f0,k0 v6.f1,k0 v6.f2]),(7,.pc 0 0),(9,tI (Int.tmod v1 v2)),(10,tI (w64 (Int.tdiv v1 v2))),(11,.pc 1 0),(13,.rp [.int .i64 v15.1.f0,.int .i64 v15.1.f1]),(14,tI v15.2),(23,tI v4),(24,tI v8),(46,tB (v15.2 == (0:Int)))],hp8 v9 v10⟩ rfl ?_ z0 trivial ?_
     ·kernel_rfl
     refine AOps.nil ?_
     refine AWp.cond rfl (fun hb=>?_) fun hb=>?_
     ·replace h:=of_true h hb
      refine AWp.keepTo [1,3,4,5,7,9,10,11,13,23,24] 2 ⟨[(1,.rp [.int .i64 v2]),(3,.rp [.int .i64 v4]),(4,.rp [.int .i64 v5.f0,k0 v5.f1,k0 v5.f2]),(5,.rp [.int .i64 v6.f0,k0 v6.f1,k0 v6.f2]),(7,.pc 0 0),(9,tI (Int.tmod v1 v2)),(10,tI (w64 (Int.tdiv v1 v2))),(11,.pc 1 0),(13,.rp [.int .i64 v15.1.f0,.int .i64 v15.1.f1]),(23,tI v4),(24,tI v8)],hp8 v9 v10⟩ ?_ z0 ?_
      ·kernel_rfl
      refine AWp.start [0,1] [2,3,4,5,6,7] [] [1,3,4,5,7,9,10,11,23,24,48,49] 2 ⟨[(1,.rp [.int .i64 v2]),(3,.rp [.int .i64 v4]),(4,.rp [.int .i64 v5.f0,k0 v5.f1,k0 v5.f2]),(5,.rp [.int .i64 v6.f0,k0 v6.f1,k0 v6.f2]),(7,.pc 0 0),(9,tI (Int.tmod v1 v2)),(10,tI (w64 (Int.tdiv v1 v2))),(11,.pc 1 0),(23,tI v4),(24,tI v8),(48,.agg [.int .i64 v9,.int .i64 v10]),(49,.agg [.int .i64 v15.1.f0,.int .i64 v15.1.f1])],hp8 v9 v10⟩ rfl ?_ z0 trivial ?_
      ·kernel_rfl
      obtain ⟨v19,hv19,h⟩:=of_bind h
      refine AOps.cons (AOne.callP (F:=(FF 59 0)) _ rfl rfl rfl _ rfl rfl _ _ rfl Tryz.call102 [tS ([43]:List UInt8),.agg [.int .i64 v9,.int .i64 v10],.agg [.int .i64 v15.1.f0,.int .i64 v15.1.f1]] rfl rfl (f102_ok ([43]:List UInt8) (T128.mk v9 v10) v15.1 hv19) rfl) ?_
      refine AOps.go [3,4,5,6,7] [] [] [1,3,4,5,7,9,10,11,14,23,24] 2 ⟨[(1,.rp [.int .i64 v2]),(3,.rp [.int .i64 v4]),(4,.rp [.int .i64 v5.f0,k0 v5.f1,k0 v5.f2]),(5,.rp [.int .i64 v6.f0,k0 v6.f1,k0 v6.f2]),(7,.pc 0 0),(9,tI (Int.tmod v1 v2)),(10,tI (w64 (Int.tdiv v1 v2))),(11,.pc 1 0),(14,tI v19.2),(23,tI v4),(24,tI v8)],[.cells 129 [.int .i64 (0:Int),.int .i64 (0:Int)],.cells 129 [.int .i64 v19.1.f0,.int .i64 v19.1.f1]]⟩ ?_ z0 trivial ?_
      ·kernel_rfl
      refine AOps.nil ?_
      exact ⟨(v19.2,v19.1.f0,v19.1.f1),h,rfl⟩
     ·replace h:=of_false h hb
      refine AWp.keepTo [1,3,4,5,7,9,10,11,14,23,24] 2 ⟨[(1,.rp [.int .i64 v2]),(3,.rp [.int .i64 v4]),(4,.rp [.int .i64 v5.f0,k0 v5.f1,k0 v5.f2]),(5,.rp [.int .i64 v6.f0,k0 v6.f1,k0 v6.f2]),(7,.pc 0 0),(9,tI (Int.tmod v1 v2)),(10,tI (w64 (Int.tdiv v1 v2))),(11,.pc 1 0),(14,tI v15.2),(23,tI v4),(24,tI v8)],hp8 v9 v10⟩ ?_ z0 ?_
      ·kernel_rfl
      refine AWp.skip ?_
      exact ⟨(v15.2,v9,v10),h,rfl⟩
    ·rintro ⟨v16,v17,v18⟩ h
     refine AWp.seq ?_
     refine AWp.start [0,1] [] [] [1,3,4,5,7,9,10,11,14,23,24,54] 2 ⟨[(1,.rp [.int .i64 v2]),(3,.rp [.int .i64 v4]),(4,.rp [.int .i64 v5.f0,k0 v5.f1,k0 v5.f2]),(5,.rp [.int .i64 v6.f0,k0 v6.f1,k0 v6.f2]),(7,.pc 0 0),(9,tI (Int.tmod v1 v2)),(10,tI (w64 (Int.tdiv v1 v2))),(11,.pc 1 0),(14,tI v16),(23,tI v4),(24,tI v8),(54,tB (v16 != (0:Int)))],hp11 v17 v18⟩ rfl ?_ z0 trivial ?_
     ·kernel_rfl
     refine AOps.nil ?_
     refine AWp.cond rfl (fun hb=>?_) fun hb=>?_
     ·replace h:=of_true h hb
      refine AWp.keepTo [7,14] 1 ⟨[(7,.pc 0 0),(14,tI v16)],[.cells 129 [.int .i64 (0:Int),.int .i64 (0:Int)]]⟩ ?_ z0 ?_
      ·kernel_rfl
      refine AWp.seq ?_
      refine AWp.start [0,1,2,3] [] [] [7,8] 1 ⟨[(7,.pc 0 0),(8,tI v16)],[.cells 129 [.int .i64 (0:Int),.int .i64 (0:Int)]]⟩ rfl ?_ z0 trivial ?_
      ·kernel_rfl
      refine AOps.nil ?_
      refine AWp.pin 0 rfl rfl ?_
      refine AWp.keepTo [7,8] 0 ⟨[(7,.rp [.int .i64 (0:Int),.int .i64 (0:Int)]),(8,tI v16)],[]⟩ ?_ z0 ?_
      ·kernel_rfl
      refine AWp.ret ?_
      cases h
      exact Or.inr ⟨_,rfl,by simp,rfl,rfl⟩
     ·replace h:=of_false h hb
      refine AWp.keepTo [1,3,4,5,7,9,10,11,23,24] 2 ⟨[(1,.rp [.int .i64 v2]),(3,.rp [.int .i64 v4]),(4,.rp [.int .i64 v5.f0,k0 v5.f1,k0 v5.f2]),(5,.rp [.int .i64 v6.f0,k0 v6.f1,k0 v6.f2]),(7,.pc 0 0),(9,tI (Int.tmod v1 v2)),(10,tI (w64 (Int.tdiv v1 v2))),(11,.pc 1 0),(23,tI v4),(24,tI v8)],hp11 v17 v18⟩ ?_ z0 ?_
      ·kernel_rfl
      refine AWp.skip ?_
      refine AWp.start [0,1] [] [] [1,3,4,5,7,9,10,11,23,24] 2 ⟨[(1,.rp [.int .i64 v2]),(3,.rp [.int .i64 v4]),(4,.rp [.int .i64 v5.f0,k0 v5.f1,k0 v5.f2]),(5,.rp [.int .i64 v6.f0,k0 v6.f1,k0 v6.f2]),(7,.pc 0 0),(9,tI (Int.tmod v1 v2)),(10,tI (w64 (Int.tdiv v1 v2))),(11,.pc 1 0),(23,tI v4),(24,tI (w64 (v8 + (1:Int))))],hp11 v17 v18⟩ rfl ?_ z0 trivial ?_
      ·kernel_rfl
      refine AOps.nil ?_
      cases h
      exact Or.inl ⟨_,rfl,rfl,rfl⟩
   refine AAny.share 2 #[y1,y1,y1,y1,y1,y1,y1,y1,y1,y1,y1,y1,y1,y1,y1,y1,y1,y1,y1,n1,n1] ⟨[(1,.rp [.int .i64 v2]),(3,.rp [.int .i64 v4]),(4,.rp [.int .i64 v5.f0,k0 v5.f1,k0 v5.f2]),(5,.rp [.int .i64 v6.f0,k0 v6.f1,k0 v6.f2]),(7,.pc 0 0),(9,tI (Int.tmod v1 v2)),(10,tI (w64 (Int.tdiv v1 v2))),(11,.pc 1 0),(13,.pc 2 0),(23,tI v4),(24,tI v8),(43,.agg [.int .i64 v15.1.f0,.int .i64 v15.1.f1]),(44,tI v15.2)],hp9 v9 v10⟩ ?_ fun n5_=>?_
   ·refine AAny.each [19] (by kernel_rfl) rfl ?_
    refine AEach.step (i:=19) [] #[y1,y1,y1,y1,y1,y1,y1,y1,y1,y1,y1,y1,y1,y1,y1,y1,y1,y1,y1,y1,n1] rfl [1,3,4,5,7,9,10,11,13,23,24,44] 3 ⟨[(1,.rp [.int .i64 v2]),(3,.rp [.int .i64 v4]),(4,.rp [.int .i64 v5.f0,k0 v5.f1,k0 v5.f2]),(5,.rp [.int .i64 v6.f0,k0 v6.f1,k0 v6.f2]),(7,.pc 0 0),(9,tI (Int.tmod v1 v2)),(10,tI (w64 (Int.tdiv v1 v2))),(11,.pc 1 0),(13,.pc 2 0),(23,tI v4),(24,tI v8),(44,tI v15.2)],hp10 v9 v10 v15⟩ ?_ z0 trivial ?_ ?_
    ·kernel_rfl
    ·refine AAny.go (by kernel_rfl) [20] (fuel':=0) rfl [] #[y1,y1,y1,y1,y1,y1,y1,y1,y1,y1,y1,y1,y1,y1,y1,y1,y1,y1,y1,y1,y1] [1,3,4,5,7,9,10,11,13,14,23,24] 3 ⟨[(1,.rp [.int .i64 v2]),(3,.rp [.int .i64 v4]),(4,.rp [.int .i64 v5.f0,k0 v5.f1,k0 v5.f2]),(5,.rp [.int .i64 v6.f0,k0 v6.f1,k0 v6.f2]),(7,.pc 0 0),(9,tI (Int.tmod v1 v2)),(10,tI (w64 (Int.tdiv v1 v2))),(11,.pc 1 0),(13,.pc 2 0),(14,tI v15.2),(23,tI v4),(24,tI v8)],hp10 v9 v10 v15⟩ ?_ z0 trivial ?_
     ·kernel_rfl
     exact n6_
    exact AEach.nil
   refine AAny.share 3 #[y1,y1,y1,y1,y1,y1,y1,y1,y1,y1,y1,y1,y1,y1,y1,y1,y1,y1,n1,n1,n1] ⟨[(1,.rp [.int .i64 v2]),(3,.rp [.int .i64 v4]),(4,.rp [.int .i64 v5.f0,k0 v5.f1,k0 v5.f2]),(5,.rp [.int .i64 v6.f0,k0 v6.f1,k0 v6.f2]),(7,.pc 0 0),(9,tI (Int.tmod v1 v2)),(10,tI (w64 (Int.tdiv v1 v2))),(11,.pc 1 0),(23,tI v4),(24,tI v8),(43,.agg [.int .i64 v15.1.f0,.int .i64 v15.1.f1]),(44,tI v15.2)],hp8 v9 v10⟩ ?_ fun n8_=>?_
   ·refine AAny.each [18] (by kernel_rfl) rfl ?_
    refine AEach.step (i:=18) [] #[y1,y1,y1,y1,y1,y1,y1,y1,y1,y1,y1,y1,y1,y1,y1,y1,y1,y1,y1,n1,n1] rfl [1,3,4,5,7,9,10,11,13,23,24,43,44] 3 ⟨[(1,.rp [.int .i64 v2]),(3,.rp [.int .i64 v4]),(4,.rp [.int .i64 v5.f0,k0 v5.f1,k0 v5.f2]),(5,.rp [.int .i64 v6.f0,k0 v6.f1,k0 v6.f2]),(7,.pc 0 0),(9,tI (Int.tmod v1 v2)),(10,tI (w64 (Int.tdiv v1 v2))),(11,.pc 1 0),(13,.pc 2 0),(23,tI v4),(24,tI v8),(43,.agg [.int .i64 v15.1.f0,.int .i64 v15.1.f1]),(44,tI v15.2)],hp9 v9 v10⟩ ?_ z0 trivial ?_ ?_
    ·kernel_rfl
    ·exact n5_
    exact AEach.nil
   refine AAny.share 6 #[y1,y1,y1,y1,y1,y1,y1,y1,y1,y1,y1,y1,y1,y1,n1,n1,n1,n1,y1,n1,n1] ⟨[(1,.rp [.int .i64 v2]),(3,.rp [.int .i64 v4]),(4,.rp [.int .i64 v5.f0,k0 v5.f1,k0 v5.f2]),(5,.rp [.int .i64 v6.f0,k0 v6.f1,k0 v6.f2]),(7,.pc 0 0),(9,tI (Int.tmod v1 v2)),(10,tI (w64 (Int.tdiv v1 v2))),(11,.pc 1 0),(13,.pc 2 0),(23,tI v4),(24,tI v8),(34,.agg (c128 v13)),(41,.agg (c128 v14))],hp9 v9 v10⟩ ?_ fun n4_=>?_
   ·refine AAny.each [14] (by kernel_rfl) rfl ?_
    refine AEach.one (i:=14) (AOne.callP (F:=(FF 59 0)) _ rfl rfl rfl _ rfl rfl _ _ rfl Tryz.call102 [tS ([42]:List UInt8),.agg (c128 v13),.agg (c128 v14)] rfl rfl (f102_ok ([42]:List UInt8) v13 v14 hv15) rfl) ?_ ?_
    ·refine AAny.keepTo [1,3,4,5,7,9,10,11,13,23,24,42] 3 ⟨[(1,.rp [.int .i64 v2]),(3,.rp [.int .i64 v4]),(4,.rp [.int .i64 v5.f0,k0 v5.f1,k0 v5.f2]),(5,.rp [.int .i64 v6.f0,k0 v6.f1,k0 v6.f2]),(7,.pc 0 0),(9,tI (Int.tmod v1 v2)),(10,tI (w64 (Int.tdiv v1 v2))),(11,.pc 1 0),(13,.pc 2 0),(23,tI v4),(24,tI v8),(42,.tup [.agg [.int .i64 v15.1.f0,.int .i64 v15.1.f1],tI v15.2])],hp9 v9 v10⟩ #[y1,y1,y1,y1,y1,y1,y1,y1,y1,y1,y1,y1,y1,y1,y1,n1,n1,n1,y1,n1,n1] ?_ rfl z0 ?_
     ·kernel_rfl
     refine AAny.go (by kernel_rfl) [15,16,17] (fuel':=2) rfl [] #[y1,y1,y1,y1,y1,y1,y1,y1,y1,y1,y1,y1,y1,y1,y1,y1,y1,y1,y1,n1,n1] [1,3,4,5,7,9,10,11,13,23,24,43,44] 3 ⟨[(1,.rp [.int .i64 v2]),(3,.rp [.int .i64 v4]),(4,.rp [.int .i64 v5.f0,k0 v5.f1,k0 v5.f2]),(5,.rp [.int .i64 v6.f0,k0 v6.f1,k0 v6.f2]),(7,.pc 0 0),(9,tI (Int.tmod v1 v2)),(10,tI (w64 (Int.tdiv v1 v2))),(11,.pc 1 0),(13,.pc 2 0),(23,tI v4),(24,tI v8),(43,.agg [.int .i64 v15.1.f0,.int .i64 v15.1.f1]),(44,tI v15.2)],hp9 v9 v10⟩ ?_ z0 trivial ?_
     ·kernel_rfl
     exact n5_
    exact AEach.nil
   refine AAny.share 7 #[y1,y1,y1,y1,y1,y1,y1,y1,y1,y1,y1,y1,y1,n1,n1,n1,n1,n1,y1,n1,n1] ⟨[(1,.rp [.int .i64 v2]),(3,.rp [.int .i64 v4]),(4,.rp [.int .i64 v5.f0,k0 v5.f1,k0 v5.f2]),(5,.rp [.int .i64 v6.f0,k0 v6.f1,k0 v6.f2]),(7,.pc 0 0),(9,tI (Int.tmod v1 v2)),(10,tI (w64 (Int.tdiv v1 v2))),(11,.pc 1 0),(13,.pc 2 0),(23,tI v4),(24,tI v8),(34,.agg (c128 v13)),(35,.agg [.int .i64 v6.f0,k0 v6.f1,k0 v6.f2]),(40,tI (w64 (v8 + (w64 ((w64 (Int.tdiv v1 v2)) * v4)))))],hp9 v9 v10⟩ ?_ fun n3_=>?_
   ·refine AAny.each [13] (by kernel_rfl) rfl ?_
    refine AEach.one (i:=13) (AOne.callP (F:=(FF 59 0)) _ rfl rfl rfl _ rfl rfl _ _ rfl Tryz.call68 [.agg [.int .i64 v6.f0,k0 v6.f1,k0 v6.f2],tI (w64 (v8 + (w64 ((w64 (Int.tdiv v1 v2)) * v4))))] rfl rfl (f68_ok v6 (w64 (v8 + (w64 ((w64 (Int.tdiv v1 v2)) * v4)))) hv14) rfl) ?_ ?_
    ·refine AAny.keepTo [1,3,4,5,7,9,10,11,13,23,24,34,41] 3 ⟨[(1,.rp [.int .i64 v2]),(3,.rp [.int .i64 v4]),(4,.rp [.int .i64 v5.f0,k0 v5.f1,k0 v5.f2]),(5,.rp [.int .i64 v6.f0,k0 v6.f1,k0 v6.f2]),(7,.pc 0 0),(9,tI (Int.tmod v1 v2)),(10,tI (w64 (Int.tdiv v1 v2))),(11,.pc 1 0),(13,.pc 2 0),(23,tI v4),(24,tI v8),(34,.agg (c128 v13)),(41,.agg (c128 v14))],hp9 v9 v10⟩ #[y1,y1,y1,y1,y1,y1,y1,y1,y1,y1,y1,y1,y1,y1,n1,n1,n1,n1,y1,n1,n1] ?_ rfl z0 ?_
     ·kernel_rfl
     exact n4_
    exact AEach.nil
   refine AAny.share 7 #[y1,y1,y1,y1,y1,y1,y1,y1,y1,y1,y1,y1,y1,y1,n1,n1,n1,n1,n1,n1,n1] ⟨[(1,.rp [.int .i64 v2]),(3,.rp [.int .i64 v4]),(4,.rp [.int .i64 v5.f0,k0 v5.f1,k0 v5.f2]),(5,.rp [.int .i64 v6.f0,k0 v6.f1,k0 v6.f2]),(7,.pc 0 0),(9,tI (Int.tmod v1 v2)),(10,tI (w64 (Int.tdiv v1 v2))),(11,.pc 1 0),(23,tI v4),(24,tI v8),(34,.agg (c128 v13)),(41,.agg (c128 v14))],hp8 v9 v10⟩ ?_ fun n7_=>?_
   ·refine AAny.each [14,18] (by kernel_rfl) rfl ?_
    refine AEach.one (i:=14) (AOne.callP (F:=(FF 59 0)) _ rfl rfl rfl _ rfl rfl _ _ rfl Tryz.call102 [tS ([42]:List UInt8),.agg (c128 v13),.agg (c128 v14)] rfl rfl (f102_ok ([42]:List UInt8) v13 v14 hv15) rfl) ?_ ?_
    ·refine AAny.keepTo [1,3,4,5,7,9,10,11,23,24,42] 2 ⟨[(1,.rp [.int .i64 v2]),(3,.rp [.int .i64 v4]),(4,.rp [.int .i64 v5.f0,k0 v5.f1,k0 v5.f2]),(5,.rp [.int .i64 v6.f0,k0 v6.f1,k0 v6.f2]),(7,.pc 0 0),(9,tI (Int.tmod v1 v2)),(10,tI (w64 (Int.tdiv v1 v2))),(11,.pc 1 0),(23,tI v4),(24,tI v8),(42,.tup [.agg [.int .i64 v15.1.f0,.int .i64 v15.1.f1],tI v15.2])],hp8 v9 v10⟩ #[y1,y1,y1,y1,y1,y1,y1,y1,y1,y1,y1,y1,y1,y1,y1,n1,n1,n1,n1,n1,n1] ?_ rfl z0 ?_
     ·kernel_rfl
     refine AAny.go (by kernel_rfl) [15,16,17] (fuel':=3) rfl [] #[y1,y1,y1,y1,y1,y1,y1,y1,y1,y1,y1,y1,y1,y1,y1,y1,y1,y1,n1,n1,n1] [1,3,4,5,7,9,10,11,23,24,43,44] 2 ⟨[(1,.rp [.int .i64 v2]),(3,.rp [.int .i64 v4]),(4,.rp [.int .i64 v5.f0,k0 v5.f1,k0 v5.f2]),(5,.rp [.int .i64 v6.f0,k0 v6.f1,k0 v6.f2]),(7,.pc 0 0),(9,tI (Int.tmod v1 v2)),(10,tI (w64 (Int.tdiv v1 v2))),(11,.pc 1 0),(23,tI v4),(24,tI v8),(43,.agg [.int .i64 v15.1.f0,.int .i64 v15.1.f1]),(44,tI v15.2)],hp8 v9 v10⟩ ?_ z0 trivial ?_
     ·kernel_rfl
     exact n8_
    refine AEach.step (i:=18) [] #[y1,y1,y1,y1,y1,y1,y1,y1,y1,y1,y1,y1,y1,y1,n1,n1,n1,n1,y1,n1,n1] rfl [1,3,4,5,7,9,10,11,13,23,24,34,41] 3 ⟨[(1,.rp [.int .i64 v2]),(3,.rp [.int .i64 v4]),(4,.rp [.int .i64 v5.f0,k0 v5.f1,k0 v5.f2]),(5,.rp [.int .i64 v6.f0,k0 v6.f1,k0 v6.f2]),(7,.pc 0 0),(9,tI (Int.tmod v1 v2)),(10,tI (w64 (Int.tdiv v1 v2))),(11,.pc 1 0),(13,.pc 2 0),(23,tI v4),(24,tI v8),(34,.agg (c128 v13)),(41,.agg (c128 v14))],hp9 v9 v10⟩ ?_ z0 trivial ?_ ?_
    ·kernel_rfl
    ·exact n4_
    exact AEach.nil
   refine AAny.share 8 #[y1,y1,y1,y1,y1,y1,n1,y1,y1,y1,y1,y1,y1,n1,n1,n1,n1,n1,y1,n1,n1] ⟨[(1,.rp [.int .i64 v2]),(3,.rp [.int .i64 v4]),(4,.rp [.int .i64 v5.f0,k0 v5.f1,k0 v5.f2]),(5,.rp [.int .i64 v6.f0,k0 v6.f1,k0 v6.f2]),(7,.pc 0 0),(9,tI (Int.tmod v1 v2)),(10,tI (w64 (Int.tdiv v1 v2))),(11,.pc 1 0),(13,.pc 2 0),(23,tI v4),(24,tI v8),(28,.agg [.int .i64 v5.f0,k0 v5.f1,k0 v5.f2]),(33,tI (w64 ((Int.tmod v1 v2) + (w64 (v8 * v2))))),(35,.agg [.int .i64 v6.f0,k0 v6.f1,k0 v6.f2]),(40,tI (w64 (v8 + (w64 ((w64 (Int.tdiv v1 v2)) * v4)))))],hp9 v9 v10⟩ ?_ fun n2_=>?_
   ·refine AAny.each [6] (by kernel_rfl) rfl ?_
    refine AEach.one (i:=6) (AOne.callP (F:=(FF 59 0)) _ rfl rfl rfl _ rfl rfl _ _ rfl Tryz.call68 [.agg [.int .i64 v5.f0,k0 v5.f1,k0 v5.f2],tI (w64 ((Int.tmod v1 v2) + (w64 (v8 * v2))))] rfl rfl (f68_ok v5 (w64 ((Int.tmod v1 v2) + (w64 (v8 * v2)))) hv13) rfl) ?_ ?_
    ·refine AAny.keepTo [1,3,4,5,7,9,10,11,13,23,24,34,35,40] 3 ⟨[(1,.rp [.int .i64 v2]),(3,.rp [.int .i64 v4]),(4,.rp [.int .i64 v5.f0,k0 v5.f1,k0 v5.f2]),(5,.rp [.int .i64 v6.f0,k0 v6.f1,k0 v6.f2]),(7,.pc 0 0),(9,tI (Int.tmod v1 v2)),(10,tI (w64 (Int.tdiv v1 v2))),(11,.pc 1 0),(13,.pc 2 0),(23,tI v4),(24,tI v8),(34,.agg (c128 v13)),(35,.agg [.int .i64 v6.f0,k0 v6.f1,k0 v6.f2]),(40,tI (w64 (v8 + (w64 ((w64 (Int.tdiv v1 v2)) * v4)))))],hp9 v9 v10⟩ #[y1,y1,y1,y1,y1,y1,y1,y1,y1,y1,y1,y1,y1,n1,n1,n1,n1,n1,y1,n1,n1] ?_ rfl z0 ?_
     ·kernel_rfl
     exact n3_
    exact AEach.nil
   refine AAny.share 8 #[y1,y1,y1,y1,y1,y1,y1,y1,y1,y1,y1,y1,y1,n1,n1,n1,n1,n1,n1,n1,n1] ⟨[(1,.rp [.int .i64 v2]),(3,.rp [.int .i64 v4]),(4,.rp [.int .i64 v5.f0,k0 v5.f1,k0 v5.f2]),(5,.rp [.int .i64 v6.f0,k0 v6.f1,k0 v6.f2]),(7,.pc 0 0),(9,tI (Int.tmod v1 v2)),(10,tI (w64 (Int.tdiv v1 v2))),(11,.pc 1 0),(23,tI v4),(24,tI v8),(34,.agg (c128 v13)),(35,.agg [.int .i64 v6.f0,k0 v6.f1,k0 v6.f2]),(40,tI (w64 (v8 + (w64 ((w64 (Int.tdiv v1 v2)) * v4)))))],hp8 v9 v10⟩ ?_ fun n1_=>?_
   ·refine AAny.each [13,18] (by kernel_rfl) rfl ?_
    refine AEach.one (i:=13) (AOne.callP (F:=(FF 59 0)) _ rfl rfl rfl _ rfl rfl _ _ rfl Tryz.call68 [.agg [.int .i64 v6.f0,k0 v6.f1,k0 v6.f2],tI (w64 (v8 + (w64 ((w64 (Int.tdiv v1 v2)) * v4))))] rfl rfl (f68_ok v6 (w64 (v8 + (w64 ((w64 (Int.tdiv v1 v2)) * v4)))) hv14) rfl) ?_ ?_
    ·refine AAny.keepTo [1,3,4,5,7,9,10,11,23,24,34,41] 2 ⟨[(1,.rp [.int .i64 v2]),(3,.rp [.int .i64 v4]),(4,.rp [.int .i64 v5.f0,k0 v5.f1,k0 v5.f2]),(5,.rp [.int .i64 v6.f0,k0 v6.f1,k0 v6.f2]),(7,.pc 0 0),(9,tI (Int.tmod v1 v2)),(10,tI (w64 (Int.tdiv v1 v2))),(11,.pc 1 0),(23,tI v4),(24,tI v8),(34,.agg (c128 v13)),(41,.agg (c128 v14))],hp8 v9 v10⟩ #[y1,y1,y1,y1,y1,y1,y1,y1,y1,y1,y1,y1,y1,y1,n1,n1,n1,n1,n1,n1,n1] ?_ rfl z0 ?_
     ·kernel_rfl
     exact n7_
    refine AEach.step (i:=18) [] #[y1,y1,y1,y1,y1,y1,y1,y1,y1,y1,y1,y1,y1,n1,n1,n1,n1,n1,y1,n1,n1] rfl [1,3,4,5,7,9,10,11,13,23,24,34,35,40] 3 ⟨[(1,.rp [.int .i64 v2]),(3,.rp [.int .i64 v4]),(4,.rp [.int .i64 v5.f0,k0 v5.f1,k0 v5.f2]),(5,.rp [.int .i64 v6.f0,k0 v6.f1,k0 v6.f2]),(7,.pc 0 0),(9,tI (Int.tmod v1 v2)),(10,tI (w64 (Int.tdiv v1 v2))),(11,.pc 1 0),(13,.pc 2 0),(23,tI v4),(24,tI v8),(34,.agg (c128 v13)),(35,.agg [.int .i64 v6.f0,k0 v6.f1,k0 v6.f2]),(40,tI (w64 (v8 + (w64 ((w64 (Int.tdiv v1 v2)) * v4)))))],hp9 v9 v10⟩ ?_ z0 trivial ?_ ?_
    ·kernel_rfl
    ·exact n3_
    exact AEach.nil
   refine AAny.each [6,18] (by kernel_rfl) rfl ?_
   refine AEach.one (i:=6) (AOne.callP (F:=(FF 59 0)) _ rfl rfl rfl _ rfl rfl _ _ rfl Tryz.call68 [.agg [.int .i64 v5.f0,k0 v5.f1,k0 v5.f2],tI (w64 ((Int.tmod v1 v2) + (w64 (v8 * v2))))] rfl rfl (f68_ok v5 (w64 ((Int.tmod v1 v2) + (w64 (v8 * v2)))) hv13) rfl) ?_ ?_
   ·refine AAny.keepTo [1,3,4,5,7,9,10,11,23,24,34,35,40] 2 ⟨[(1,.rp [.int .i64 v2]),(3,.rp [.int .i64 v4]),(4,.rp [.int .i64 v5.f0,k0 v5.f1,k0 v5.f2]),(5,.rp [.int .i64 v6.f0,k0 v6.f1,k0 v6.f2]),(7,.pc 0 0),(9,tI (Int.tmod v1 v2)),(10,tI (w64 (Int.tdiv v1 v2))),(11,.pc 1 0),(23,tI v4),(24,tI v8),(34,.agg (c128 v13)),(35,.agg [.int .i64 v6.f0,k0 v6.f1,k0 v6.f2]),(40,tI (w64 (v8 + (w64 ((w64 (Int.tdiv v1 v2)) * v4)))))],hp8 v9 v10⟩ #[y1,y1,y1,y1,y1,y1,y1,y1,y1,y1,y1,y1,y1,n1,n1,n1,n1,n1,n1,n1,n1] ?_ rfl z0 ?_
    ·kernel_rfl
    exact n1_
   refine AEach.step (i:=18) [] #[y1,y1,y1,y1,y1,y1,n1,y1,y1,y1,y1,y1,y1,n1,n1,n1,n1,n1,y1,n1,n1] rfl [1,3,4,5,7,9,10,11,13,23,24,28,33,35,40] 3 ⟨[(1,.rp [.int .i64 v2]),(3,.rp [.int .i64 v4]),(4,.rp [.int .i64 v5.f0,k0 v5.f1,k0 v5.f2]),(5,.rp [.int .i64 v6.f0,k0 v6.f1,k0 v6.f2]),(7,.pc 0 0),(9,tI (Int.tmod v1 v2)),(10,tI (w64 (Int.tdiv v1 v2))),(11,.pc 1 0),(13,.pc 2 0),(23,tI v4),(24,tI v8),(28,.agg [.int .i64 v5.f0,k0 v5.f1,k0 v5.f2]),(33,tI (w64 ((Int.tmod v1 v2) + (w64 (v8 * v2))))),(35,.agg [.int .i64 v6.f0,k0 v6.f1,k0 v6.f2]),(40,tI (w64 (v8 + (w64 ((w64 (Int.tdiv v1 v2)) * v4)))))],hp9 v9 v10⟩ ?_ z0 trivial ?_ ?_
   ·kernel_rfl
   ·exact n2_
   exact AEach.nil
  ·replace h:=of_false h hb
   refine AWp.keepTo [7,11] 2 ⟨[(7,.pc 0 0),(11,.pc 1 0)],hp8 v9 v10⟩ ?_ z0 ?_
   ·kernel_rfl
   refine AWp.exit ?_
   cases h
   exact Or.inr ⟨_,rfl,by simp,rfl,rfl⟩
 ·intro e σ hp
  rcases y with v20 | ⟨v11,v12⟩
  ·obtain ⟨rfl,rfl⟩:=hp
   cases h
   exact ⟨.inr rfl,rfl⟩
  ·obtain ⟨rfl,rfl⟩:=hp
   refine AWp.seq ?_
   refine AWp.pin 1 rfl rfl ?_
   refine AWp.keepTo [7,11] 1 ⟨[(7,.pc 0 0),(11,.rp [.int .i64 v11,.int .i64 v12])],[.cells 129 [.int .i64 (0:Int),.int .i64 (0:Int)]]⟩ ?_ z0 ?_
   ·kernel_rfl
   refine AWp.start [0,1,2] [] [] [7,8] 1 ⟨[(7,.pc 0 0),(8,tI (0:Int))],[.cells 129 [.int .i64 v11,.int .i64 v12]]⟩ rfl ?_ z0 trivial ?_
   ·kernel_rfl
   refine AOps.nil ?_
   refine AWp.pin 0 rfl rfl ?_
   refine AWp.keepTo [7,8] 0 ⟨[(7,.rp [.int .i64 v11,.int .i64 v12]),(8,tI (0:Int))],[]⟩ ?_ z0 ?_
   ·kernel_rfl
   refine AWp.ret ?_
   cases h
   exact ⟨.inr rfl,rfl⟩

abbrev hp12 (v1:Int) (v2:List Int) (v10:List Int):List AObj:=[.cells 60 [.int .i64 (0:Int),nS,nS],.cells 60 [.int .i64 v1,k0 v2,k3 v10]]
abbrev hp13 (v1:Int) (v2:List Int):List AObj:=[.cells 60 [.int .i64 (0:Int),nS,nS],.cells 60 [.int .i64 v1,k0 v2,nS]]

noncomputable def f66_105_b1 (v3:Int) (v4:Int) (v5:Int) (v6:T59) (v7:T59) (v8:Int) (v9:Int) (v10:List Int):Option ((Int × (List Int)) ⊕ Out (T59 × Int) (List Int)) :=
 cond (decide (v9 < v8)) ((f105 v9 v3 v4 v5 v6 v7).bind fun v12=>cond (v12.2 != (0:Int)) (some (.inr (.ret (T59.mk (0:Int) ([]:List Int) ([]:List Int),v12.2)))) (if (v10.length + [v12.1.f1].length) * 8 ≤ 140737488355328 then some (.inl (w64 (v9 + (1:Int)),v10 ++ [v12.1.f1])) else none)) (some (.inr (.go v10)))

noncomputable def f66_105 (v1:Int) (v2:List Int) (v3:Int) (v4:Int) (v5:Int) (v6:T59) (v7:T59):Option (T59 × Int) :=
 (f61 v2).bind fun v8=>(iter (fun s=>f66_105_b1 v3 v4 v5 v6 v7 v8 s.1 s.2) ((0:Int),[])).bind fun y=>match y with | .ret v13=>some (v13.1,v13.2) | .go v11=>some (T59.mk v1 v2 v11,(0:Int))

theorem f66_105_ok (v1:Int) (v2:List Int) (v3:Int) (v4:Int) (v5:Int) (v6:T59) (v7:T59) {r:T59 × Int} (h:f66_105 v1 v2 v3 v4 v5 v6 v7 = some r):ACall Tryz.prog 66 [.tv (.int .i64 v1),.tv (fzL 1 (cInt .i64) v2),.fn 105 [.rp [.int .i64 v3],.rp [.int .i64 v4],.rp [.int .i64 v5],.rp [.int .i64 v6.f0,fzL 1 (cInt .i64) v6.f1,fzL 1 (cInt .i64) v6.f2],.rp [.int .i64 v7.f0,fzL 1 (cInt .i64) v7.f1,fzL 1 (cInt .i64) v7.f2]]] [] (.tup [.agg [.int .i64 r.1.f0,fzL 1 (cInt .i64) r.1.f1,fzL 1 (cInt .i64) r.1.f2],.tv (.int .i64 r.2)]) []:=by
 refine ACall.ofNc (FF 39 0) (rs:=[6,7]) (sv:=(.agg [.int .i64 r.1.f0,k0 r.1.f1,k0 r.1.f2])) (cells0:=[.int .i64 r.1.f0,k0 r.1.f1,k0 r.1.f2]) 6 60 (env0:=[(6,.rp [.int .i64 r.1.f0,k0 r.1.f1,k0 r.1.f2]),(7,tI r.2)]) (env:=[(6,.agg [.int .i64 r.1.f0,k0 r.1.f1,k0 r.1.f2]),(7,tI r.2)]) Tryz.func66 rfl Tryz.ntmps66 (by kernel_rfl) (by decide) (by decide) rfl (zz rfl) rfl rfl rfl (by kernel_rfl) rfl [6,7] 0 z0 rfl (get_ofN _ _ _ rfl) (ok_ofN _ rfl) ?_
 refine AWp.seq ?_
 refine AWp.start [0,1] [] [] [0,1,2,6] 1 ⟨[(0,tI v1),(1,q3 v2),(2,.fn 105 [.rp [.int .i64 v3],.rp [.int .i64 v4],.rp [.int .i64 v5],.rp [.int .i64 v6.f0,k0 v6.f1,k0 v6.f2],.rp [.int .i64 v7.f0,k0 v7.f1,k0 v7.f2]]),(6,.pc 0 0)],[.cells 60 [.int .i64 (0:Int),nS,nS]]⟩ rfl ?_ z0 trivial ?_
 ·kernel_rfl
 refine AOps.nil ?_
 refine AWp.seq ?_
 refine AWp.start [0,1,2,3,4] [] [] [1,2,6,8] 2 ⟨[(1,q3 v2),(2,.fn 105 [.rp [.int .i64 v3],.rp [.int .i64 v4],.rp [.int .i64 v5],.rp [.int .i64 v6.f0,k0 v6.f1,k0 v6.f2],.rp [.int .i64 v7.f0,k0 v7.f1,k0 v7.f2]]),(6,.pc 0 0),(8,.pc 1 0)],hp13 v1 v2⟩ rfl ?_ z0 trivial ?_
 ·kernel_rfl
 refine AOps.nil ?_
 refine AWp.seq ?_
 refine AWp.seq ?_
 refine AWp.start [0] [1,2] [] [2,6,8,15] 2 ⟨[(2,.fn 105 [.rp [.int .i64 v3],.rp [.int .i64 v4],.rp [.int .i64 v5],.rp [.int .i64 v6.f0,k0 v6.f1,k0 v6.f2],.rp [.int .i64 v7.f0,k0 v7.f1,k0 v7.f2]]),(6,.pc 0 0),(8,.pc 1 0),(15,q3 v2)],hp13 v1 v2⟩ rfl ?_ z0 trivial ?_
 ·kernel_rfl
 obtain ⟨v8,hv8,h⟩:=of_bind h
 refine AOps.cons (AOne.callP (F:=(FF 39 0)) _ rfl rfl rfl _ rfl rfl _ _ rfl Tryz.call61 [q3 v2] rfl rfl (f61_ok v2 hv8) rfl) ?_
 refine AOps.go [2] [] [] [2,6,8,16,17] 2 ⟨[(2,.fn 105 [.rp [.int .i64 v3],.rp [.int .i64 v4],.rp [.int .i64 v5],.rp [.int .i64 v6.f0,k0 v6.f1,k0 v6.f2],.rp [.int .i64 v7.f0,k0 v7.f1,k0 v7.f2]]),(6,.pc 0 0),(8,.pc 1 0),(16,tI v8),(17,tI (0:Int))],hp13 v1 v2⟩ ?_ z0 trivial ?_
 ·kernel_rfl
 refine AOps.nil ?_
 refine AWp.block ?_
 refine AWp.retell 1 2 rfl (.nilOwn 1 3 (fun i=>(cInt .i64) (([]:List Int).getD i default))) ?_
 refine AWp.keepTo [2,6,8,16,17] 2 ⟨[(2,.fn 105 [.rp [.int .i64 v3],.rp [.int .i64 v4],.rp [.int .i64 v5],.rp [.int .i64 v6.f0,k0 v6.f1,k0 v6.f2],.rp [.int .i64 v7.f0,k0 v7.f1,k0 v7.f2]]),(6,.pc 0 0),(8,.pc 1 0),(16,tI v8),(17,tI (0:Int))],[.cells 60 [.int .i64 (0:Int),nS,nS],.cells 60 [.int .i64 v1,k0 v2,k3 ([]:List Int)]]⟩ ?_ z0 ?_
 ·kernel_rfl
 obtain ⟨y,hy,h⟩:=of_bind h
 refine AWp.mono (AWp.loop (S:=Int × (List Int)) (Y:=Out (T59 × Int) (List Int)) (fun s=>⟨[(2,.fn 105 [.rp [.int .i64 v3],.rp [.int .i64 v4],.rp [.int .i64 v5],.rp [.int .i64 v6.f0,k0 v6.f1,k0 v6.f2],.rp [.int .i64 v7.f0,k0 v7.f1,k0 v7.f2]]),(6,.pc 0 0),(8,.pc 1 0),(16,tI v8),(17,tI s.1)],[.cells 60 [.int .i64 (0:Int),nS,nS],.cells 60 [.int .i64 v1,k0 v2,k3 s.2]]⟩) (fun s=>f66_105_b1 v3 v4 v5 v6 v7 v8 s.1 s.2) (fun y e σ=>match y with | .ret r=>e = .ret ∧ σ = ⟨[(6,.rp [.int .i64 r.1.f0,k0 r.1.f1,k0 r.1.f2]),(7,tI r.2)],[]⟩ | .go v=>e = .exit 0 ∧ σ = ⟨[(6,.pc 0 0),(8,.pc 1 0)],[.cells 60 [.int .i64 (0:Int),nS,nS],.cells 60 [.int .i64 v1,k0 v2,k3 v]]⟩) ?_ hy) ?_
 ·rintro ⟨v9,v10⟩ o h
  refine AWp.seq ?_
  refine AWp.start [0] [] [] [2,6,8,16,17,18] 2 ⟨[(2,.fn 105 [.rp [.int .i64 v3],.rp [.int .i64 v4],.rp [.int .i64 v5],.rp [.int .i64 v6.f0,k0 v6.f1,k0 v6.f2],.rp [.int .i64 v7.f0,k0 v7.f1,k0 v7.f2]]),(6,.pc 0 0),(8,.pc 1 0),(16,tI v8),(17,tI v9),(18,tB (decide (v9 < v8)))],hp12 v1 v2 v10⟩ rfl ?_ z0 trivial ?_
  ·kernel_rfl
  refine AOps.nil ?_
  refine AWp.seq ?_
  refine AWp.cond rfl (fun hb=>?_) fun hb=>?_
  ·replace h:=of_true h hb
   refine AWp.keepTo [2,6,8,16,17] 2 ⟨[(2,.fn 105 [.rp [.int .i64 v3],.rp [.int .i64 v4],.rp [.int .i64 v5],.rp [.int .i64 v6.f0,k0 v6.f1,k0 v6.f2],.rp [.int .i64 v7.f0,k0 v7.f1,k0 v7.f2]]),(6,.pc 0 0),(8,.pc 1 0),(16,tI v8),(17,tI v9)],hp12 v1 v2 v10⟩ ?_ z0 ?_
   ·kernel_rfl
   refine AWp.skip ?_
   refine AWp.seq ?_
   refine AWp.block ?_
   refine AWp.seq ?_
   refine AWp.start [0,1] [] [] [2,6,8,9,16,17] 2 ⟨[(2,.fn 105 [.rp [.int .i64 v3],.rp [.int .i64 v4],.rp [.int .i64 v5],.rp [.int .i64 v6.f0,k0 v6.f1,k0 v6.f2],.rp [.int .i64 v7.f0,k0 v7.f1,k0 v7.f2]]),(6,.pc 0 0),(8,.pc 1 0),(9,tI v9),(16,tI v8),(17,tI v9)],hp12 v1 v2 v10⟩ rfl ?_ z0 trivial ?_
   ·kernel_rfl
   refine AOps.nil ?_
   refine AWp.seq ?_
   refine AWp.start [0,1] [2,3,4,5,6,7,8] [] [2,6,8,16,17,21,22] 2 ⟨[(2,.fn 105 [.rp [.int .i64 v3],.rp [.int .i64 v4],.rp [.int .i64 v5],.rp [.int .i64 v6.f0,k0 v6.f1,k0 v6.f2],.rp [.int .i64 v7.f0,k0 v7.f1,k0 v7.f2]]),(6,.pc 0 0),(8,.pc 1 0),(16,tI v8),(17,tI v9),(21,.fn 105 [.rp [.int .i64 v3],.rp [.int .i64 v4],.rp [.int .i64 v5],.rp [.int .i64 v6.f0,k0 v6.f1,k0 v6.f2],.rp [.int .i64 v7.f0,k0 v7.f1,k0 v7.f2]]),(22,tI v9)],hp12 v1 v2 v10⟩ rfl ?_ z0 trivial ?_
   ·kernel_rfl
   obtain ⟨v12,hv12,h⟩:=of_bind h
   refine AOps.cons (AOne.callP (F:=(FF 39 0)) _ rfl rfl rfl _ rfl rfl _ _ rfl Tryz.call105 [tI v9,.rp [.int .i64 v3],.rp [.int .i64 v4],.rp [.int .i64 v5],.rp [.int .i64 v6.f0,k0 v6.f1,k0 v6.f2],.rp [.int .i64 v7.f0,k0 v7.f1,k0 v7.f2]] rfl rfl (f105_ok v9 v3 v4 v5 v6 v7 hv12) rfl) ?_
   refine AOps.go [3,4,5,6,7,8] [] [] [2,6,8,10,11,16,17] 3 ⟨[(2,.fn 105 [.rp [.int .i64 v3],.rp [.int .i64 v4],.rp [.int .i64 v5],.rp [.int .i64 v6.f0,k0 v6.f1,k0 v6.f2],.rp [.int .i64 v7.f0,k0 v7.f1,k0 v7.f2]]),(6,.pc 0 0),(8,.pc 1 0),(10,.pc 2 0),(11,tI v12.2),(16,tI v8),(17,tI v9)],[.cells 60 [.int .i64 (0:Int),nS,nS],.cells 60 [.int .i64 v1,k0 v2,k3 v10],.cells 129 [.int .i64 v12.1.f0,.int .i64 v12.1.f1]]⟩ ?_ z0 trivial ?_
   ·kernel_rfl
   refine AOps.nil ?_
   refine AWp.seq ?_
   refine AWp.seq ?_
   refine AWp.pin 2 rfl rfl ?_
   refine AWp.keepTo [2,6,8,10,11,16,17] 2 ⟨[(2,.fn 105 [.rp [.int .i64 v3],.rp [.int .i64 v4],.rp [.int .i64 v5],.rp [.int .i64 v6.f0,k0 v6.f1,k0 v6.f2],.rp [.int .i64 v7.f0,k0 v7.f1,k0 v7.f2]]),(6,.pc 0 0),(8,.pc 1 0),(10,.rp [.int .i64 v12.1.f0,.int .i64 v12.1.f1]),(11,tI v12.2),(16,tI v8),(17,tI v9)],hp12 v1 v2 v10⟩ ?_ z0 ?_
   ·kernel_rfl
   refine AWp.start [0,1] [] [] [2,6,8,10,11,16,17,27] 2 ⟨[(2,.fn 105 [.rp [.int .i64 v3],.rp [.int .i64 v4],.rp [.int .i64 v5],.rp [.int .i64 v6.f0,k0 v6.f1,k0 v6.f2],.rp [.int .i64 v7.f0,k0 v7.f1,k0 v7.f2]]),(6,.pc 0 0),(8,.pc 1 0),(10,.rp [.int .i64 v12.1.f0,.int .i64 v12.1.f1]),(11,tI v12.2),(16,tI v8),(17,tI v9),(27,tB (v12.2 != (0:Int)))],hp12 v1 v2 v10⟩ rfl ?_ z0 trivial ?_
   ·kernel_rfl
   refine AOps.nil ?_
   refine AWp.cond rfl (fun hb=>?_) fun hb=>?_
   ·replace h:=of_true h hb
    refine AWp.keepTo [6,11] 1 ⟨[(6,.pc 0 0),(11,tI v12.2)],[.cells 60 [.int .i64 (0:Int),nS,nS]]⟩ ?_ z0 ?_
    ·kernel_rfl
    refine AWp.seq ?_
    refine AWp.start [0,1,2,3] [] [] [6,7] 1 ⟨[(6,.pc 0 0),(7,tI v12.2)],[.cells 60 [.int .i64 (0:Int),nS,nS]]⟩ rfl ?_ z0 trivial ?_
    ·kernel_rfl
    refine AOps.nil ?_
    refine AWp.retell 0 1 rfl (.nilFz 1 (fun i=>(cInt .i64) (([]:List Int).getD i default))) ?_
    refine AWp.retell 0 2 rfl (.nilFz 1 (fun i=>(cInt .i64) (([]:List Int).getD i default))) ?_
    refine AWp.pin 0 rfl rfl ?_
    refine AWp.keepTo [6,7] 0 ⟨[(6,.rp [.int .i64 (0:Int),k0 ([]:List Int),k0 ([]:List Int)]),(7,tI v12.2)],[]⟩ ?_ z0 ?_
    ·kernel_rfl
    refine AWp.ret ?_
    cases h
    exact Or.inr ⟨_,rfl,by simp,rfl,rfl⟩
   ·replace h:=of_false h hb
    refine AWp.keepTo [2,6,8,10,16,17] 2 ⟨[(2,.fn 105 [.rp [.int .i64 v3],.rp [.int .i64 v4],.rp [.int .i64 v5],.rp [.int .i64 v6.f0,k0 v6.f1,k0 v6.f2],.rp [.int .i64 v7.f0,k0 v7.f1,k0 v7.f2]]),(6,.pc 0 0),(8,.pc 1 0),(10,.rp [.int .i64 v12.1.f0,.int .i64 v12.1.f1]),(16,tI v8),(17,tI v9)],hp12 v1 v2 v10⟩ ?_ z0 ?_
    ·kernel_rfl
    refine AWp.skip ?_
    refine AWp.start [0,1,2,3,4] [5,6,7] [] [2,6,8,16,17,31,34] 2 ⟨[(2,.fn 105 [.rp [.int .i64 v3],.rp [.int .i64 v4],.rp [.int .i64 v5],.rp [.int .i64 v6.f0,k0 v6.f1,k0 v6.f2],.rp [.int .i64 v7.f0,k0 v7.f1,k0 v7.f2]]),(6,.pc 0 0),(8,.pc 1 0),(16,tI v8),(17,tI v9),(31,.al (.cell 1 2,[])),(34,.tv (.own 1 3 1 (newRowF [.int .i64 v12.1.f1] 1)))],hp12 v1 v2 v10⟩ rfl ?_ z0 trivial ?_
    ·kernel_rfl
    refine AOps.extL 34 (cInt .i64) [v12.1.f1] rfl rfl (row_at (cInt .i64) 1 (fun _=>rfl) [v12.1.f1] _ rfl) ?_
    obtain ⟨hg,h⟩:=of_guard h
    refine AOps.go [5] [6,7] [(v10.length + [v12.1.f1].length) * 8 ≤ 140737488355328,PlainTo v10.length (fun i=>(cInt .i64) (v10.getD i default)),PlainTo ([v12.1.f1].length) (fun i=>(cInt .i64) ([v12.1.f1].getD i default))] [2,6,8,16,17,35] 2 ⟨[(2,.fn 105 [.rp [.int .i64 v3],.rp [.int .i64 v4],.rp [.int .i64 v5],.rp [.int .i64 v6.f0,k0 v6.f1,k0 v6.f2],.rp [.int .i64 v7.f0,k0 v7.f1,k0 v7.f2]]),(6,.pc 0 0),(8,.pc 1 0),(16,tI v8),(17,tI v9),(35,.tv (.own 1 3 (v10.length + [v12.1.f1].length) (appF v10.length (fun i=>(cInt .i64) (v10.getD i default)) (fun i=>(cInt .i64) ([v12.1.f1].getD i default)))))],[.cells 60 [.int .i64 (0:Int),nS,nS],.cells 60 [.int .i64 v1,k0 v2,.hole]]⟩ ?_ z0 ⟨hg,(fun _ _=>rfl),(fun _ _=>rfl)⟩ ?_
    ·kernel_rfl
    refine AOps.extL 35 (cInt .i64) (v10 ++ [v12.1.f1]) rfl List.length_append.symm (app_at (cInt .i64) v10 [v12.1.f1]) ?_
    refine AOps.go [6] [7] [] [2,6,8,16,17,35,36] 2 ⟨[(2,.fn 105 [.rp [.int .i64 v3],.rp [.int .i64 v4],.rp [.int .i64 v5],.rp [.int .i64 v6.f0,k0 v6.f1,k0 v6.f2],.rp [.int .i64 v7.f0,k0 v7.f1,k0 v7.f2]]),(6,.pc 0 0),(8,.pc 1 0),(16,tI v8),(17,tI v9),(35,q2 (v10 ++ [v12.1.f1])),(36,.pc 1 2)],[.cells 60 [.int .i64 (0:Int),nS,nS],.cells 60 [.int .i64 v1,k0 v2,.hole]]⟩ ?_ z0 trivial ?_
    ·kernel_rfl
    refine AOps.cons (AOne.own (F:=(FF 39 0)) _ rfl rfl rfl rfl) ?_
    refine AOps.keepTo [2,6,8,16,17] 2 ⟨[(2,.fn 105 [.rp [.int .i64 v3],.rp [.int .i64 v4],.rp [.int .i64 v5],.rp [.int .i64 v6.f0,k0 v6.f1,k0 v6.f2],.rp [.int .i64 v7.f0,k0 v7.f1,k0 v7.f2]]),(6,.pc 0 0),(8,.pc 1 0),(16,tI v8),(17,tI v9)],[.cells 60 [.int .i64 (0:Int),nS,nS],.cells 60 [.int .i64 v1,k0 v2,k3 (v10 ++ [v12.1.f1])]]⟩ ?_ z0 ?_
    ·kernel_rfl
    refine AOps.nil ?_
    refine AWp.start [0,1] [] [] [2,6,8,16,17] 2 ⟨[(2,.fn 105 [.rp [.int .i64 v3],.rp [.int .i64 v4],.rp [.int .i64 v5],.rp [.int .i64 v6.f0,k0 v6.f1,k0 v6.f2],.rp [.int .i64 v7.f0,k0 v7.f1,k0 v7.f2]]),(6,.pc 0 0),(8,.pc 1 0),(16,tI v8),(17,tI (w64 (v9 + (1:Int))))],[.cells 60 [.int .i64 (0:Int),nS,nS],.cells 60 [.int .i64 v1,k0 v2,k3 (v10 ++ [v12.1.f1])]]⟩ rfl ?_ z0 trivial ?_
    ·kernel_rfl
    refine AOps.nil ?_
    cases h
    exact Or.inl ⟨_,rfl,rfl,rfl⟩
  ·replace h:=of_false h hb
   refine AWp.keepTo [6,8] 2 ⟨[(6,.pc 0 0),(8,.pc 1 0)],hp12 v1 v2 v10⟩ ?_ z0 ?_
   ·kernel_rfl
   refine AWp.exit ?_
   cases h
   exact Or.inr ⟨_,rfl,by simp,rfl,rfl⟩
 ·intro e σ hp
  rcases y with v13 | v11
  ·obtain ⟨rfl,rfl⟩:=hp
   cases h
   exact ⟨.inr rfl,rfl⟩
  ·obtain ⟨rfl,rfl⟩:=hp
   refine AWp.seq ?_
   refine AWp.freezeC 1 2 (cInt .i64) v11 rfl (fun _=>rfl) ?_
   refine AWp.pin 1 rfl rfl ?_
   refine AWp.keepTo [6,8] 1 ⟨[(6,.pc 0 0),(8,.rp [.int .i64 v1,k0 v2,k0 v11])],[.cells 60 [.int .i64 (0:Int),nS,nS]]⟩ ?_ z0 ?_
   ·kernel_rfl
   refine AWp.start [0,1,2] [] [] [6,7] 1 ⟨[(6,.pc 0 0),(7,tI (0:Int))],[.cells 60 [.int .i64 v1,k0 v2,k0 v11]]⟩ rfl ?_ z0 trivial ?_
   ·kernel_rfl
   refine AOps.nil ?_
   refine AWp.pin 0 rfl rfl ?_
   refine AWp.keepTo [6,7] 0 ⟨[(6,.rp [.int .i64 v1,k0 v2,k0 v11]),(7,tI (0:Int))],[]⟩ ?_ z0 ?_
   ·kernel_rfl
   refine AWp.ret ?_
   cases h
   exact ⟨.inr rfl,rfl⟩

end Go.Sx.top
