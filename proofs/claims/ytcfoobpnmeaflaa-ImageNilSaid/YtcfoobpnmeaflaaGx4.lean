/- Printed by program (wip/gen): plain functions and their walks; no condition. -/
import Derived.Test.YtcfoobpnmeaflaaGx3
namespace Go.Sx.img
open Go Go.Sx Go.Proofs

noncomputable def f11 :Option Bool :=
 (f29 ([112,117,116]:List UInt8) [(2:Int),(0:Int),(7:Int)]).bind fun v1=>(f29 ([97,108,108]:List UInt8) ([]:List Int)).bind fun v2=>(f29 ([103,101,116]:List UInt8) [(1:Int),(0:Int),(0:Int)]).bind fun v3=>(f29 ([112,117,116]:List UInt8) [(1:Int),(0:Int),(5:Int)]).bind fun v4=>(f29 ([97,108,108]:List UInt8) ([]:List Int)).bind fun v5=>(f29 ([103,101,116]:List UInt8) [(2:Int),(0:Int),(0:Int)]).bind fun v6=>(f12 ([[v1,v2,v3],[v4,v5,v6]])).bind fun v7=>match v7 with | (none,v9)=>(cond (v9 != (0:Int)) (some true) (some true)).bind fun v10=>(cond v10 (some true) none).bind fun v11=>cond v11 (some false) none | (some v8,v9)=>(cond (v9 != (0:Int)) (some true) (some false)).bind fun v12=>(cond v12 (some (true,v8.f0,v8.f1,v8.f2)) ((f16o [(2:Int)] (T50.mk v8.f0 v8.f1 v8.f2)).bind fun v17=>some ((v17.1 != (0:Int)),v17.2.f0,v17.2.f1,v17.2.f2))).bind fun (v13,v14,v15,v16)=>cond v13 (some false) ((f30 (T50.mk v14 v15 v16) (1:Int)).bind fun v18=>(f30 (T50.mk v14 v15 v16) (2:Int)).bind fun v19=>(cond ((v18.1.length:Int) == (4:Int)) (if (0:Int) < (v18.1.length:Int) then some (v18.1.getD 0 default == (5:Int)) else none) (some false)).bind fun v20=>(cond v20 (some ((v19.1.length:Int) == (4:Int))) (some false)).bind fun v21=>(cond v21 (if (0:Int) < (v19.1.length:Int) then some (v19.1.getD 0 default == (7:Int)) else none) (some false)).bind fun v22=>(cond v22 ((f18 (T50.mk v14 v15 v16) (1:Int)).bind fun v24=>some (v24 == ([101,110,100,101,100]:List UInt8))) (some false)).bind fun v23=>some v23)

theorem f11_ok  {r:Bool} (h:f11  = some r):ACall Try.prog 11 [] [] (.tv (.bool r)) []:=by
 refine ACall.of1 (FF 71 0) Try.func11 rfl Try.ntmps11 Try.results11 (zz rfl) rfl rfl ?_
 refine AWp.seq ?_
 refine AWp.start [0] [] [] [] 0 ⟨[],[]⟩ rfl ?_ z0 trivial ?_
 ·kernel_rfl
 refine AOps.nil ?_
 refine AWp.seq ?_
 refine AWp.start [0] [1,2,3,4,5,6,7,8,9,10,11,12,13,14,15,16,17,18] [] [8] 0 ⟨[(8,.tv (.own 1 3 3 (newRowF [.int .i64 (2:Int),.int .i64 (0:Int),.int .i64 (7:Int)] 1)))],[]⟩ rfl ?_ z0 trivial ?_
 ·kernel_rfl
 refine AOps.extL 8 (cInt .i64) [(2:Int),(0:Int),(7:Int)] rfl rfl (row_at (cInt .i64) 1 (fun _=>rfl) [(2:Int),(0:Int),(7:Int)] _ rfl) ?_
 refine AOps.freezeL 8 (cInt .i64) [(2:Int),(0:Int),(7:Int)] rfl (fun _=>rfl) ?_
 obtain ⟨v1,hv1,h⟩:=of_bind h
 refine AOps.cons (AOne.callP (F:=(FF 71 0)) _ rfl rfl rfl _ rfl rfl _ _ rfl Try.call29 [tS ([112,117,116]:List UInt8),q0 [(2:Int),(0:Int),(7:Int)]] rfl rfl (f29_ok ([112,117,116]:List UInt8) [(2:Int),(0:Int),(7:Int)] hv1) rfl) ?_
 obtain ⟨v2,hv2,h⟩:=of_bind h
 refine AOps.cons (AOne.callP (F:=(FF 71 0)) _ rfl rfl rfl _ rfl rfl _ _ rfl Try.call29 [tS ([97,108,108]:List UInt8),.tv (.sc (.slice none 0 0))] rfl rfl (ACall.nils (.keep rfl (.nil .done)) (f29_ok ([97,108,108]:List UInt8) ([]:List Int) hv2)) rfl) ?_
 refine AOps.go [3] [4,5,6,7,8,9,10,11,12,13,14,15,16,17,18] [] [9,10,11] 0 ⟨[(9,.agg (c54 v1)),(10,.agg (c54 v2)),(11,.tv (.own 1 3 3 (newRowF [.int .i64 (1:Int),.int .i64 (0:Int),.int .i64 (0:Int)] 1)))],[]⟩ ?_ z0 trivial ?_
 ·kernel_rfl
 refine AOps.extL 11 (cInt .i64) [(1:Int),(0:Int),(0:Int)] rfl rfl (row_at (cInt .i64) 1 (fun _=>rfl) [(1:Int),(0:Int),(0:Int)] _ rfl) ?_
 refine AOps.freezeL 11 (cInt .i64) [(1:Int),(0:Int),(0:Int)] rfl (fun _=>rfl) ?_
 obtain ⟨v3,hv3,h⟩:=of_bind h
 refine AOps.cons (AOne.callP (F:=(FF 71 0)) _ rfl rfl rfl _ rfl rfl _ _ rfl Try.call29 [tS ([103,101,116]:List UInt8),q0 [(1:Int),(0:Int),(0:Int)]] rfl rfl (f29_ok ([103,101,116]:List UInt8) [(1:Int),(0:Int),(0:Int)] hv3) rfl) ?_
 refine AOps.go [5] [6,7,8,9,10,11,12,13,14,15,16,17,18] [] [13] 0 ⟨[(13,.tv (.own 3 55 3 (newRowF [.str v1.f0,k2 v1.f1,.str v1.f2,.str v2.f0,k2 v2.f1,.str v2.f2,.str v3.f0,k2 v3.f1,.str v3.f2] 3)))],[]⟩ ?_ z0 trivial ?_
 ·kernel_rfl
 refine AOps.extL 13 c54 [v1,v2,v3] rfl rfl (row_at c54 3 (fun _=>rfl) [v1,v2,v3] _ rfl) ?_
 refine AOps.freezeL 13 c54 [v1,v2,v3] rfl (fun _=>rfl) ?_
 refine AOps.go [6] [7,8,9,10,11,12,13,14,15,16,17,18] [] [13,14] 0 ⟨[(13,q2 [v1,v2,v3]),(14,.tv (.own 1 3 3 (newRowF [.int .i64 (1:Int),.int .i64 (0:Int),.int .i64 (5:Int)] 1)))],[]⟩ ?_ z0 trivial ?_
 ·kernel_rfl
 refine AOps.extL 14 (cInt .i64) [(1:Int),(0:Int),(5:Int)] rfl rfl (row_at (cInt .i64) 1 (fun _=>rfl) [(1:Int),(0:Int),(5:Int)] _ rfl) ?_
 refine AOps.freezeL 14 (cInt .i64) [(1:Int),(0:Int),(5:Int)] rfl (fun _=>rfl) ?_
 obtain ⟨v4,hv4,h⟩:=of_bind h
 refine AOps.cons (AOne.callP (F:=(FF 71 0)) _ rfl rfl rfl _ rfl rfl _ _ rfl Try.call29 [tS ([112,117,116]:List UInt8),q0 [(1:Int),(0:Int),(5:Int)]] rfl rfl (f29_ok ([112,117,116]:List UInt8) [(1:Int),(0:Int),(5:Int)] hv4) rfl) ?_
 obtain ⟨v5,hv5,h⟩:=of_bind h
 refine AOps.cons (AOne.callP (F:=(FF 71 0)) _ rfl rfl rfl _ rfl rfl _ _ rfl Try.call29 [tS ([97,108,108]:List UInt8),.tv (.sc (.slice none 0 0))] rfl rfl (ACall.nils (.keep rfl (.nil .done)) (f29_ok ([97,108,108]:List UInt8) ([]:List Int) hv5)) rfl) ?_
 refine AOps.go [9] [10,11,12,13,14,15,16,17,18] [] [13,15,16,17] 0 ⟨[(13,q2 [v1,v2,v3]),(15,.agg (c54 v4)),(16,.agg (c54 v5)),(17,.tv (.own 1 3 3 (newRowF [.int .i64 (2:Int),.int .i64 (0:Int),.int .i64 (0:Int)] 1)))],[]⟩ ?_ z0 trivial ?_
 ·kernel_rfl
 refine AOps.extL 17 (cInt .i64) [(2:Int),(0:Int),(0:Int)] rfl rfl (row_at (cInt .i64) 1 (fun _=>rfl) [(2:Int),(0:Int),(0:Int)] _ rfl) ?_
 refine AOps.freezeL 17 (cInt .i64) [(2:Int),(0:Int),(0:Int)] rfl (fun _=>rfl) ?_
 obtain ⟨v6,hv6,h⟩:=of_bind h
 refine AOps.cons (AOne.callP (F:=(FF 71 0)) _ rfl rfl rfl _ rfl rfl _ _ rfl Try.call29 [tS ([103,101,116]:List UInt8),q0 [(2:Int),(0:Int),(0:Int)]] rfl rfl (f29_ok ([103,101,116]:List UInt8) [(2:Int),(0:Int),(0:Int)] hv6) rfl) ?_
 refine AOps.go [11] [12,13,14,15,16,17,18] [] [13,19] 0 ⟨[(13,q2 [v1,v2,v3]),(19,.tv (.own 3 55 3 (newRowF [.str v4.f0,k2 v4.f1,.str v4.f2,.str v5.f0,k2 v5.f1,.str v5.f2,.str v6.f0,k2 v6.f1,.str v6.f2] 3)))],[]⟩ ?_ z0 trivial ?_
 ·kernel_rfl
 refine AOps.extL 19 c54 [v4,v5,v6] rfl rfl (row_at c54 3 (fun _=>rfl) [v4,v5,v6] _ rfl) ?_
 refine AOps.freezeL 19 c54 [v4,v5,v6] rfl (fun _=>rfl) ?_
 refine AOps.go [12] [13,14,15,16,17,18] [] [20] 0 ⟨[(20,.tv (.own 1 53 2 (newRowF [k6 [v1,v2,v3],k6 [v4,v5,v6]] 1)))],[]⟩ ?_ z0 trivial ?_
 ·kernel_rfl
 refine AOps.extL 20 (cSl 3 c54) ([[v1,v2,v3],[v4,v5,v6]]) rfl rfl (row_at (cSl 3 c54) 1 (fun _=>rfl) [[v1,v2,v3],[v4,v5,v6]] _ rfl) ?_
 refine AOps.freezeL 20 (cSl 3 c54) ([[v1,v2,v3],[v4,v5,v6]]) rfl (fun _=>rfl) ?_
 obtain ⟨v7,hv7,h⟩:=of_bind h
 rcases v7 with ⟨(_ | v8),v9⟩
 ·replace h:((cond (v9 != (0:Int)) (some true) (some true)).bind fun v10=>(cond v10 (some true) none).bind fun v11=>cond v11 (some false) none) = some r:=h
  refine AOps.cons (AOne.callO (F:=(FF 71 0)) _ rfl rfl rfl 21 rfl rfl 12 [] rfl Try.call12 [] (by decide) [.tv (fzL 1 (cSl 3 c54) ([[v1,v2,v3],[v4,v5,v6]]))] (by kernel_rfl) [] (by kernel_rfl) (f12_ok ([[v1,v2,v3],[v4,v5,v6]]) hv7) (by kernel_rfl) (by kernel_rfl) _ rfl) ?_
  refine AOps.go [14,15,16,17,18] [] [] [1,2] 0 ⟨[(1,.tv (.sc (.pointer none))),(2,tI v9)],[]⟩ ?_ z0 trivial ?_
  ·kernel_rfl
  refine AOps.nil ?_
  refine AWp.seq ?_
  refine AWp.seq ?_
  refine AWp.start [0,1,2] [3,4,5,6,7,8,9,10,11] [] [1,26] 0 ⟨[(1,.tv (.sc (.pointer none))),(26,tB (v9 != (0:Int)))],[]⟩ rfl ?_ z0 trivial ?_
  ·kernel_rfl
  obtain ⟨v10,hc3,h⟩:=of_bind h
  refine AOps.cut [3,4,5] [6,7,8,9,10,11] (fun σ=>σ = ⟨[(1,.tv (.sc (.pointer none))),(29,tB v10)],[]⟩) ?_ fun σ' hJ=>?_
  ·refine AOps.split (fun b=>⟨[(1,.tv (.sc (.pointer none))),(26,tB b)],[]⟩) _ (fun hb=>?_) fun hb=>?_
   ·replace hc3:=of_true hc3 hb
    refine AOps.go [3,4,5] [] [] [1,29] 0 ⟨[(1,.tv (.sc (.pointer none))),(29,tB true)],[]⟩ ?_ z0 trivial ?_
    ·kernel_rfl
    cases hc3
    exact AOps.nil rfl
   ·replace hc3:=of_false hc3 hb
    refine AOps.go [3,4,5] [] [] [1,29] 0 ⟨[(1,.tv (.sc (.pointer none))),(29,tB true)],[]⟩ ?_ z0 trivial ?_
    ·kernel_rfl
    cases hc3
    exact AOps.nil rfl
  subst hJ
  refine AOps.go [6] [7,8,9,10,11] [] [1,30] 0 ⟨[(1,.tv (.sc (.pointer none))),(30,tB v10)],[]⟩ ?_ z0 trivial ?_
  ·kernel_rfl
  obtain ⟨v11,hc7,h⟩:=of_bind h
  refine AOps.cut [7,8,9,10,11] [] (fun σ=>σ = ⟨[(1,.tv (.sc (.pointer none))),(35,tB v11)],[]⟩) ?_ fun σ' hJ=>?_
  ·refine AOps.split (fun b=>⟨[(1,.tv (.sc (.pointer none))),(30,tB b)],[]⟩) _ (fun hb=>?_) fun hb=>?_
   ·replace hc7:=of_true hc7 hb
    refine AOps.go [7,8,9,10,11] [] [] [1,35] 0 ⟨[(1,.tv (.sc (.pointer none))),(35,tB true)],[]⟩ ?_ z0 trivial ?_
    ·kernel_rfl
    cases hc7
    exact AOps.nil rfl
   ·replace hc7:=of_false hc7 hb
    cases hc7
  subst hJ
  refine AOps.nil ?_
  refine AWp.cond rfl (fun hb=>?_) fun hb=>?_
  ·replace h:=of_true h hb
   refine AWp.keepTo [] 0 ⟨[],[]⟩ ?_ z0 ?_
   ·kernel_rfl
   refine AWp.seq ?_
   refine AWp.start [0] [] [] [0] 0 ⟨[(0,tB false)],[]⟩ rfl ?_ z0 trivial ?_
   ·kernel_rfl
   refine AOps.nil ?_
   refine AWp.ret ?_
   cases h
   exact ⟨.inr rfl,rfl⟩
  ·replace h:=of_false h hb
   refine AWp.keepTo [1] 0 ⟨[(1,.tv (.sc (.pointer none)))],[]⟩ ?_ z0 ?_
   ·kernel_rfl
   refine AWp.skip ?_
   refine AWp.seq ?_
   cases h
 ·replace h:((cond (v9 != (0:Int)) (some true) (some false)).bind fun v12=>(cond v12 (some (true,v8.f0,v8.f1,v8.f2)) ((f16o [(2:Int)] (T50.mk v8.f0 v8.f1 v8.f2)).bind fun v17=>some ((v17.1 != (0:Int)),v17.2.f0,v17.2.f1,v17.2.f2))).bind fun (v13,v14,v15,v16)=>cond v13 (some false) ((f30 (T50.mk v14 v15 v16) (1:Int)).bind fun v18=>(f30 (T50.mk v14 v15 v16) (2:Int)).bind fun v19=>(cond ((v18.1.length:Int) == (4:Int)) (if (0:Int) < (v18.1.length:Int) then some (v18.1.getD 0 default == (5:Int)) else none) (some false)).bind fun v20=>(cond v20 (some ((v19.1.length:Int) == (4:Int))) (some false)).bind fun v21=>(cond v21 (if (0:Int) < (v19.1.length:Int) then some (v19.1.getD 0 default == (7:Int)) else none) (some false)).bind fun v22=>(cond v22 ((f18 (T50.mk v14 v15 v16) (1:Int)).bind fun v24=>some (v24 == ([101,110,100,101,100]:List UInt8))) (some false)).bind fun v23=>some v23)) = some r:=h
  refine AOps.cons (AOne.callO (F:=(FF 71 0)) _ rfl rfl rfl 21 rfl rfl 12 [] rfl Try.call12 [] (by decide) [.tv (fzL 1 (cSl 3 c54) ([[v1,v2,v3],[v4,v5,v6]]))] (by kernel_rfl) [] (by kernel_rfl) (f12_ok ([[v1,v2,v3],[v4,v5,v6]]) hv7) (by kernel_rfl) (by kernel_rfl) _ rfl) ?_
  refine AOps.go [14,15,16,17,18] [] [] [1,2] 1 ⟨[(1,.pc 0 0),(2,tI v9)],[.cells 51 [k0 v8.f0,.int .i64 v8.f1,k1 v8.f2]]⟩ ?_ z0 trivial ?_
  ·kernel_rfl
  refine AOps.nil ?_
  refine AWp.seq ?_
  refine AWp.seq ?_
  refine AWp.start [0,1,2] [3,4,5,6,7,8,9,10,11] [] [1,26] 1 ⟨[(1,.pc 0 0),(26,tB (v9 != (0:Int)))],[.cells 51 [k0 v8.f0,.int .i64 v8.f1,k1 v8.f2]]⟩ rfl ?_ z0 trivial ?_
  ·kernel_rfl
  obtain ⟨v12,hc3,h⟩:=of_bind h
  refine AOps.cut [3,4,5] [6,7,8,9,10,11] (fun σ=>σ = ⟨[(1,.pc 0 0),(29,tB v12)],[.cells 51 [k0 v8.f0,.int .i64 v8.f1,k1 v8.f2]]⟩) ?_ fun σ' hJ=>?_
  ·refine AOps.split (fun b=>⟨[(1,.pc 0 0),(26,tB b)],[.cells 51 [k0 v8.f0,.int .i64 v8.f1,k1 v8.f2]]⟩) _ (fun hb=>?_) fun hb=>?_
   ·replace hc3:=of_true hc3 hb
    refine AOps.go [3,4,5] [] [] [1,29] 1 ⟨[(1,.pc 0 0),(29,tB true)],[.cells 51 [k0 v8.f0,.int .i64 v8.f1,k1 v8.f2]]⟩ ?_ z0 trivial ?_
    ·kernel_rfl
    cases hc3
    exact AOps.nil rfl
   ·replace hc3:=of_false hc3 hb
    refine AOps.go [3,4,5] [] [] [1,29] 1 ⟨[(1,.pc 0 0),(29,tB false)],[.cells 51 [k0 v8.f0,.int .i64 v8.f1,k1 v8.f2]]⟩ ?_ z0 trivial ?_
    ·kernel_rfl
    cases hc3
    exact AOps.nil rfl
  subst hJ
  refine AOps.go [6] [7,8,9,10,11] [] [1,30] 1 ⟨[(1,.pc 0 0),(30,tB v12)],[.cells 51 [k0 v8.f0,.int .i64 v8.f1,k1 v8.f2]]⟩ ?_ z0 trivial ?_
  ·kernel_rfl
  obtain ⟨⟨v13,v14,v15,v16⟩,hc7,h⟩:=of_bind h
  refine AOps.cut [7,8,9,10,11] [] (fun σ=>σ = ⟨[(1,.pc 0 0),(35,tB v13)],[.cells 51 [k0 v14,.int .i64 v15,k1 v16]]⟩) ?_ fun σ' hJ=>?_
  ·refine AOps.split (fun b=>⟨[(1,.pc 0 0),(30,tB b)],[.cells 51 [k0 v8.f0,.int .i64 v8.f1,k1 v8.f2]]⟩) _ (fun hb=>?_) fun hb=>?_
   ·replace hc7:=of_true hc7 hb
    refine AOps.go [7,8,9,10,11] [] [] [1,35] 1 ⟨[(1,.pc 0 0),(35,tB true)],[.cells 51 [k0 v8.f0,.int .i64 v8.f1,k1 v8.f2]]⟩ ?_ z0 trivial ?_
    ·kernel_rfl
    cases hc7
    exact AOps.nil rfl
   ·replace hc7:=of_false hc7 hb
    refine AOps.go [7,8] [9,10,11] [] [1,30,31,32] 1 ⟨[(1,.pc 0 0),(30,tB false),(31,.pc 0 0),(32,.tv (.own 1 3 1 (newRowF [.int .i64 (2:Int)] 1)))],[.cells 51 [k0 v8.f0,.int .i64 v8.f1,k1 v8.f2]]⟩ ?_ z0 trivial ?_
    ·kernel_rfl
    refine AOps.extL 32 (cInt .i64) [(2:Int)] rfl rfl (row_at (cInt .i64) 1 (fun _=>rfl) [(2:Int)] _ rfl) ?_
    refine AOps.freezeL 32 (cInt .i64) [(2:Int)] rfl (fun _=>rfl) ?_
    obtain ⟨v17,hv17,hc7⟩:=of_bind hc7
    refine AOps.cons (AOne.callO (F:=(FF 71 0)) _ rfl rfl rfl 33 rfl rfl 16 [] rfl Try.call16 [0] (by decide) [.pc 0 0,q0 [(2:Int)]] (by kernel_rfl) [.cells 51 [k0 v8.f0,.int .i64 v8.f1,k1 v8.f2]] (by kernel_rfl) (f16o_ok [(2:Int)] (T50.mk v8.f0 v8.f1 v8.f2) hv17) (by kernel_rfl) (by kernel_rfl) _ rfl) ?_
    refine AOps.go [10,11] [] [] [1,35] 1 ⟨[(1,.pc 0 0),(35,tB (v17.1 != (0:Int)))],[.cells 51 [k0 v17.2.f0,.int .i64 v17.2.f1,k1 v17.2.f2]]⟩ ?_ z0 trivial ?_
    ·kernel_rfl
    cases hc7
    exact AOps.nil rfl
  subst hJ
  refine AOps.nil ?_
  refine AWp.cond rfl (fun hb=>?_) fun hb=>?_
  ·replace h:=of_true h hb
   refine AWp.keepTo [] 0 ⟨[],[]⟩ ?_ z0 ?_
   ·kernel_rfl
   refine AWp.seq ?_
   refine AWp.start [0] [] [] [0] 0 ⟨[(0,tB false)],[]⟩ rfl ?_ z0 trivial ?_
   ·kernel_rfl
   refine AOps.nil ?_
   refine AWp.ret ?_
   cases h
   exact ⟨.inr rfl,rfl⟩
  ·replace h:=of_false h hb
   refine AWp.keepTo [1] 1 ⟨[(1,.pc 0 0)],[.cells 51 [k0 v14,.int .i64 v15,k1 v16]]⟩ ?_ z0 ?_
   ·kernel_rfl
   refine AWp.skip ?_
   refine AWp.seq ?_
   refine AWp.start [0] [1,2,3,4,5,6] [] [1,37] 1 ⟨[(1,.pc 0 0),(37,.pc 0 0)],[.cells 51 [k0 v14,.int .i64 v15,k1 v16]]⟩ rfl ?_ z0 trivial ?_
   ·kernel_rfl
   obtain ⟨v18,hv18,h⟩:=of_bind h
   refine AOps.cons (AOne.callV (F:=(FF 71 0)) _ rfl rfl rfl 38 rfl rfl 30 [] rfl Try.call30 [.pc 0 0,tI (1:Int)] [.rp [k4 v14,.int .i64 v15,k3 v16],tI (1:Int)] rfl (.cons (.pc rfl (.cons (.ownL seen60) (.keep rfl (.cons (.ownL (fun _=>.plain rfl)) .nil)))) (.cons (.old rfl) .nil)) (f30_ok (T50.mk v14 v15 v16) (1:Int) hv18) (ind_cons (ind_ownL (fun _=>rfl)) (ind_cons (Ind.scal rfl) ind_nil)) rfl) ?_
   refine AOps.freezeT 38 0 rfl rfl (fun _ _=>rfl) (fun q sv hq hne=>two_oth rfl hq hne) ?_
   refine AOps.go [2,3,4,5,6] [] [] [1,3] 1 ⟨[(1,.pc 0 0),(3,q0 v18.1)],[.cells 51 [k0 v14,.int .i64 v15,k1 v16]]⟩ ?_ z0 trivial ?_
   ·kernel_rfl
   refine AOps.nil ?_
   refine AWp.seq ?_
   refine AWp.start [0] [1,2,3,4,5,6] [] [1,3,42] 1 ⟨[(1,.pc 0 0),(3,q0 v18.1),(42,.pc 0 0)],[.cells 51 [k0 v14,.int .i64 v15,k1 v16]]⟩ rfl ?_ z0 trivial ?_
   ·kernel_rfl
   obtain ⟨v19,hv19,h⟩:=of_bind h
   refine AOps.cons (AOne.callV (F:=(FF 71 0)) _ rfl rfl rfl 43 rfl rfl 30 [] rfl Try.call30 [.pc 0 0,tI (2:Int)] [.rp [k4 v14,.int .i64 v15,k3 v16],tI (2:Int)] rfl (.cons (.pc rfl (.cons (.ownL seen60) (.keep rfl (.cons (.ownL (fun _=>.plain rfl)) .nil)))) (.cons (.old rfl) .nil)) (f30_ok (T50.mk v14 v15 v16) (2:Int) hv19) (ind_cons (ind_ownL (fun _=>rfl)) (ind_cons (Ind.scal rfl) ind_nil)) rfl) ?_
   refine AOps.freezeT 43 0 rfl rfl (fun _ _=>rfl) (fun q sv hq hne=>two_oth rfl hq hne) ?_
   refine AOps.go [2,3,4,5,6] [] [] [1,3,5] 1 ⟨[(1,.pc 0 0),(3,q0 v18.1),(5,q0 v19.1)],[.cells 51 [k0 v14,.int .i64 v15,k1 v16]]⟩ ?_ z0 trivial ?_
   ·kernel_rfl
   refine AOps.nil ?_
   refine AWp.seq ?_
   refine AWp.start [0,1,2,3] [4,5,6,7,8,9,10,11,12,13,14,15,16,17,18,19,20,21,22,23,24,25] [] [1,3,5,49] 1 ⟨[(1,.pc 0 0),(3,q0 v18.1),(5,q0 v19.1),(49,tB ((v18.1.length:Int) == (4:Int)))],[.cells 51 [k0 v14,.int .i64 v15,k1 v16]]⟩ rfl ?_ z0 trivial ?_
   ·kernel_rfl
   obtain ⟨v20,hc4,h⟩:=of_bind h
   refine AOps.cut [4,5,6,7,8] [9,10,11,12,13,14,15,16,17,18,19,20,21,22,23,24,25] (fun σ=>σ = ⟨[(1,.pc 0 0),(5,q0 v19.1),(54,tB v20)],[.cells 51 [k0 v14,.int .i64 v15,k1 v16]]⟩) ?_ fun σ' hJ=>?_
   ·refine AOps.split (fun b=>⟨[(1,.pc 0 0),(3,q0 v18.1),(5,q0 v19.1),(49,tB b)],[.cells 51 [k0 v14,.int .i64 v15,k1 v16]]⟩) _ (fun hb=>?_) fun hb=>?_
    ·replace hc4:=of_true hc4 hb
     obtain ⟨hg,hc4⟩:=of_guard hc4
     refine AOps.go [4,5,6,7,8] [] [(0:Int) ≤ (0:Int),(0:Int) < (v18.1.length:Int)] [1,5,54] 1 ⟨[(1,.pc 0 0),(5,q0 v19.1),(54,tB (v18.1.getD 0 default == (5:Int)))],[.cells 51 [k0 v14,.int .i64 v15,k1 v16]]⟩ ?_ z0 ⟨(by decide:(0:Int) ≤ (0:Int)),hg⟩ ?_
     ·kernel_rfl
     cases hc4
     exact AOps.nil rfl
    ·replace hc4:=of_false hc4 hb
     refine AOps.go [4,5,6,7,8] [] [] [1,5,54] 1 ⟨[(1,.pc 0 0),(5,q0 v19.1),(54,tB false)],[.cells 51 [k0 v14,.int .i64 v15,k1 v16]]⟩ ?_ z0 trivial ?_
     ·kernel_rfl
     cases hc4
     exact AOps.nil rfl
   subst hJ
   refine AOps.go [9] [10,11,12,13,14,15,16,17,18,19,20,21,22,23,24,25] [] [1,5,55] 1 ⟨[(1,.pc 0 0),(5,q0 v19.1),(55,tB v20)],[.cells 51 [k0 v14,.int .i64 v15,k1 v16]]⟩ ?_ z0 trivial ?_
   ·kernel_rfl
   obtain ⟨v21,hc10,h⟩:=of_bind h
   refine AOps.cut [10,11,12,13] [14,15,16,17,18,19,20,21,22,23,24,25] (fun σ=>σ = ⟨[(1,.pc 0 0),(5,q0 v19.1),(59,tB v21)],[.cells 51 [k0 v14,.int .i64 v15,k1 v16]]⟩) ?_ fun σ' hJ=>?_
   ·refine AOps.split (fun b=>⟨[(1,.pc 0 0),(5,q0 v19.1),(55,tB b)],[.cells 51 [k0 v14,.int .i64 v15,k1 v16]]⟩) _ (fun hb=>?_) fun hb=>?_
    ·replace hc10:=of_true hc10 hb
     refine AOps.go [10,11,12,13] [] [] [1,5,59] 1 ⟨[(1,.pc 0 0),(5,q0 v19.1),(59,tB ((v19.1.length:Int) == (4:Int)))],[.cells 51 [k0 v14,.int .i64 v15,k1 v16]]⟩ ?_ z0 trivial ?_
     ·kernel_rfl
     cases hc10
     exact AOps.nil rfl
    ·replace hc10:=of_false hc10 hb
     refine AOps.go [10,11,12,13] [] [] [1,5,59] 1 ⟨[(1,.pc 0 0),(5,q0 v19.1),(59,tB false)],[.cells 51 [k0 v14,.int .i64 v15,k1 v16]]⟩ ?_ z0 trivial ?_
     ·kernel_rfl
     cases hc10
     exact AOps.nil rfl
   subst hJ
   refine AOps.go [14] [15,16,17,18,19,20,21,22,23,24,25] [] [1,5,60] 1 ⟨[(1,.pc 0 0),(5,q0 v19.1),(60,tB v21)],[.cells 51 [k0 v14,.int .i64 v15,k1 v16]]⟩ ?_ z0 trivial ?_
   ·kernel_rfl
   obtain ⟨v22,hc15,h⟩:=of_bind h
   refine AOps.cut [15,16,17,18,19] [20,21,22,23,24,25] (fun σ=>σ = ⟨[(1,.pc 0 0),(65,tB v22)],[.cells 51 [k0 v14,.int .i64 v15,k1 v16]]⟩) ?_ fun σ' hJ=>?_
   ·refine AOps.split (fun b=>⟨[(1,.pc 0 0),(5,q0 v19.1),(60,tB b)],[.cells 51 [k0 v14,.int .i64 v15,k1 v16]]⟩) _ (fun hb=>?_) fun hb=>?_
    ·replace hc15:=of_true hc15 hb
     obtain ⟨hg,hc15⟩:=of_guard hc15
     refine AOps.go [15,16,17,18,19] [] [(0:Int) ≤ (0:Int),(0:Int) < (v19.1.length:Int)] [1,65] 1 ⟨[(1,.pc 0 0),(65,tB (v19.1.getD 0 default == (7:Int)))],[.cells 51 [k0 v14,.int .i64 v15,k1 v16]]⟩ ?_ z0 ⟨(by decide:(0:Int) ≤ (0:Int)),hg⟩ ?_
     ·kernel_rfl
     cases hc15
     exact AOps.nil rfl
    ·replace hc15:=of_false hc15 hb
     refine AOps.go [15,16,17,18,19] [] [] [1,65] 1 ⟨[(1,.pc 0 0),(65,tB false)],[.cells 51 [k0 v14,.int .i64 v15,k1 v16]]⟩ ?_ z0 trivial ?_
     ·kernel_rfl
     cases hc15
     exact AOps.nil rfl
   subst hJ
   refine AOps.go [20] [21,22,23,24,25] [] [1,66] 1 ⟨[(1,.pc 0 0),(66,tB v22)],[.cells 51 [k0 v14,.int .i64 v15,k1 v16]]⟩ ?_ z0 trivial ?_
   ·kernel_rfl
   obtain ⟨v23,hc21,h⟩:=of_bind h
   refine AOps.cut [21,22,23,24] [25] (fun σ=>σ = ⟨[(70,tB v23)],[]⟩) ?_ fun σ' hJ=>?_
   ·refine AOps.split (fun b=>⟨[(1,.pc 0 0),(66,tB b)],[.cells 51 [k0 v14,.int .i64 v15,k1 v16]]⟩) _ (fun hb=>?_) fun hb=>?_
    ·replace hc21:=of_true hc21 hb
     refine AOps.go [21] [22,23,24] [] [66,67] 1 ⟨[(66,tB true),(67,.pc 0 0)],[.cells 51 [k0 v14,.int .i64 v15,k1 v16]]⟩ ?_ z0 trivial ?_
     ·kernel_rfl
     obtain ⟨v24,hv24,hc21⟩:=of_bind hc21
     refine AOps.cons (AOne.callV (F:=(FF 71 0)) _ rfl rfl rfl 68 rfl rfl 18 [] rfl Try.call18 [.pc 0 0,tI (1:Int)] [.rp [k4 v14,.int .i64 v15,k3 v16],tI (1:Int)] rfl (.cons (.pc rfl (.cons (.ownL seen60) (.keep rfl (.cons (.ownL (fun _=>.plain rfl)) .nil)))) (.cons (.old rfl) .nil)) (f18_ok (T50.mk v14 v15 v16) (1:Int) hv24) (ind_of rfl) rfl) ?_
     refine AOps.go [23,24] [] [] [70] 0 ⟨[(70,tB (v24 == ([101,110,100,101,100]:List UInt8)))],[]⟩ ?_ z0 trivial ?_
     ·kernel_rfl
     cases hc21
     exact AOps.nil rfl
    ·replace hc21:=of_false hc21 hb
     refine AOps.go [21,22,23,24] [] [] [70] 0 ⟨[(70,tB false)],[]⟩ ?_ z0 trivial ?_
     ·kernel_rfl
     cases hc21
     exact AOps.nil rfl
   subst hJ
   refine AOps.go [25] [] [] [0] 0 ⟨[(0,tB v23)],[]⟩ ?_ z0 trivial ?_
   ·kernel_rfl
   refine AOps.nil ?_
   refine AWp.ret ?_
   cases h
   exact ⟨.inr rfl,rfl⟩

abbrev hp7 (v3:Bool × Int × T50):List AObj:=[.cells 51 [k0 v3.2.2.f0,.int .i64 v3.2.2.f1,k1 v3.2.2.f2]]

noncomputable def f9 (v1:Int):Option Bool :=
 (f22_z v1).bind fun v2=>(f22o v1 (T50.mk ([]:List T60) (0:Int) ([]:List T43))).bind fun v3=>(f28_z v1).bind fun v4=>(f17 v3.2.2 v1).bind fun v5=>(cond (v2.2 == (7:Int)) (some (v3.2.1 == (7:Int))) (some false)).bind fun v6=>(cond v6 (some (v4.2 == (7:Int))) (some false)).bind fun v7=>(cond v7 (some (v5.2 == (7:Int))) (some false)).bind fun v8=>(cond v8 ((f16_z [v1]).bind fun v10=>some (v10 == (7:Int))) (some false)).bind fun v9=>(cond v9 ((f18_z v1).bind fun v12=>some (v12 == ([]:List UInt8))) (some false)).bind fun v11=>(cond v11 ((f18 v3.2.2 v1).bind fun v14=>some (v14 == ([]:List UInt8))) (some false)).bind fun v13=>(cond v13 ((f19_z ).bind fun v16=>some (!v16)) (some false)).bind fun v15=>(cond v15 ((f24 v3.2.2).bind fun v18=>some ((v18.length:Int) == (0:Int))) (some false)).bind fun v17=>(cond v17 ((f27_z ).bind fun v20=>some true) (some false)).bind fun v19=>(cond v19 ((f25_z_z1 ).bind fun v22=>some v22) (some false)).bind fun v21=>(cond v21 ((f11 ).bind fun v24=>some v24) (some false)).bind fun v23=>some v23

theorem f9_ok (v1:Int) {r:Bool} (h:f9 v1 = some r):ACall Try.prog 9 [.tv (.int .i64 v1)] [] (.tv (.bool r)) []:=by
 refine ACall.of1 (FF 95 0) Try.func9 rfl Try.ntmps9 Try.results9 (zz rfl) rfl rfl ?_
 refine AWp.seq ?_
 refine AWp.start [0] [] [] [0] 0 ⟨[(0,tI v1)],[]⟩ rfl ?_ z0 trivial ?_
 ·kernel_rfl
 refine AOps.nil ?_
 refine AWp.seq ?_
 refine AWp.start [0] [] [] [0,3] 0 ⟨[(0,tI v1),(3,.tv (.sc (.pointer none)))],[]⟩ rfl ?_ z0 trivial ?_
 ·kernel_rfl
 refine AOps.nil ?_
 refine AWp.seq ?_
 refine AWp.start [0,1,2] [] [] [0,3,4] 1 ⟨[(0,tI v1),(3,.tv (.sc (.pointer none))),(4,.pc 0 0)],[.cells 51 [nS,.int .i64 (0:Int),nS]]⟩ rfl ?_ z0 trivial ?_
 ·kernel_rfl
 refine AOps.nil ?_
 refine AWp.seq ?_
 refine AWp.start [0,1] [2,3,4,5,6,7] [] [0,3,4,16,17] 1 ⟨[(0,tI v1),(3,.tv (.sc (.pointer none))),(4,.pc 0 0),(16,.tv (.sc (.pointer none))),(17,tI v1)],[.cells 51 [nS,.int .i64 (0:Int),nS]]⟩ rfl ?_ z0 trivial ?_
 ·kernel_rfl
 obtain ⟨v2,hv2,h⟩:=of_bind h
 refine AOps.cons (AOne.callP (F:=(FF 95 0)) _ rfl rfl rfl _ rfl rfl _ _ rfl Try.call22 [.tv (.sc (.pointer none)),tI v1] rfl rfl (f22_z_ok v1 hv2) rfl) ?_
 refine AOps.go [3,4,5,6,7] [] [] [0,3,4,6] 1 ⟨[(0,tI v1),(3,.tv (.sc (.pointer none))),(4,.pc 0 0),(6,tI v2.2)],[.cells 51 [nS,.int .i64 (0:Int),nS]]⟩ ?_ z0 trivial ?_
 ·kernel_rfl
 refine AOps.nil ?_
 refine AWp.seq ?_
 refine AWp.start [0,1] [2,3,4,5,6,7] [] [0,3,4,6,22,23] 1 ⟨[(0,tI v1),(3,.tv (.sc (.pointer none))),(4,.pc 0 0),(6,tI v2.2),(22,.pc 0 0),(23,tI v1)],[.cells 51 [nS,.int .i64 (0:Int),nS]]⟩ rfl ?_ z0 trivial ?_
 ·kernel_rfl
 refine AOps.retell 0 0 rfl (.nilOwn 27 61 (fun i=>o60 (([]:List T60).getD i default))) ?_
 refine AOps.retell 0 2 rfl (.nilOwn 2 44 (fun i=>c43 (([]:List T43).getD i default))) ?_
 obtain ⟨v3,hv3,h⟩:=of_bind h
 refine AOps.cons (AOne.callO (F:=(FF 95 0)) _ rfl rfl rfl 24 rfl rfl 22 [] rfl Try.call22 [0] (by decide) [.pc 0 0,tI v1] (by kernel_rfl) [.cells 51 [k0 ([]:List T60),.int .i64 (0:Int),k1 ([]:List T43)]] (by kernel_rfl) (f22o_ok v1 (T50.mk ([]:List T60) (0:Int) ([]:List T43)) hv3) (by kernel_rfl) (by kernel_rfl) _ rfl) ?_
 refine AOps.go [3,4,5,6,7] [] [] [0,3,4,6,8] 1 ⟨[(0,tI v1),(3,.tv (.sc (.pointer none))),(4,.pc 0 0),(6,tI v2.2),(8,tI v3.2.1)],hp7 v3⟩ ?_ z0 trivial ?_
 ·kernel_rfl
 refine AOps.nil ?_
 refine AWp.seq ?_
 refine AWp.start [0,1] [2,3,4,5,6,7] [] [0,3,4,6,8,28,29] 1 ⟨[(0,tI v1),(3,.tv (.sc (.pointer none))),(4,.pc 0 0),(6,tI v2.2),(8,tI v3.2.1),(28,.tv (.sc (.pointer none))),(29,tI v1)],hp7 v3⟩ rfl ?_ z0 trivial ?_
 ·kernel_rfl
 obtain ⟨v4,hv4,h⟩:=of_bind h
 refine AOps.cons (AOne.callP (F:=(FF 95 0)) _ rfl rfl rfl _ rfl rfl _ _ rfl Try.call28 [.tv (.sc (.pointer none)),tI v1] rfl rfl (f28_z_ok v1 hv4) rfl) ?_
 refine AOps.freezeT 30 0 rfl rfl (fun _ _=>rfl) (fun q sv hq hne=>two_oth rfl hq hne) ?_
 refine AOps.go [3,4,5,6,7] [] [] [0,3,4,6,8,10] 1 ⟨[(0,tI v1),(3,.tv (.sc (.pointer none))),(4,.pc 0 0),(6,tI v2.2),(8,tI v3.2.1),(10,tI v4.2)],hp7 v3⟩ ?_ z0 trivial ?_
 ·kernel_rfl
 refine AOps.nil ?_
 refine AWp.seq ?_
 refine AWp.start [0,1] [2,3,4,5,6,7] [] [0,3,4,6,8,10,34,35] 1 ⟨[(0,tI v1),(3,.tv (.sc (.pointer none))),(4,.pc 0 0),(6,tI v2.2),(8,tI v3.2.1),(10,tI v4.2),(34,.pc 0 0),(35,tI v1)],hp7 v3⟩ rfl ?_ z0 trivial ?_
 ·kernel_rfl
 obtain ⟨v5,hv5,h⟩:=of_bind h
 refine AOps.cons (AOne.callV (F:=(FF 95 0)) _ rfl rfl rfl 36 rfl rfl 17 [] rfl Try.call17 [.pc 0 0,tI v1] [.rp [k4 v3.2.2.f0,.int .i64 v3.2.2.f1,k3 v3.2.2.f2],tI v1] rfl (.cons (.pc rfl (.cons (.ownL seen60) (.keep rfl (.cons (.ownL (fun _=>.plain rfl)) .nil)))) (.cons (.old rfl) .nil)) (f17_ok v3.2.2 v1 hv5) (ind_cons (ind_ownL (fun _=>rfl)) (ind_cons (Ind.scal rfl) ind_nil)) rfl) ?_
 refine AOps.freezeT 36 0 rfl rfl (fun _ _=>rfl) (fun q sv hq hne=>two_oth rfl hq hne) ?_
 refine AOps.go [3,4,5,6,7] [] [] [0,3,4,6,8,10,12] 1 ⟨[(0,tI v1),(3,.tv (.sc (.pointer none))),(4,.pc 0 0),(6,tI v2.2),(8,tI v3.2.1),(10,tI v4.2),(12,tI v5.2)],hp7 v3⟩ ?_ z0 trivial ?_
 ·kernel_rfl
 refine AOps.nil ?_
 refine AWp.seq ?_
 refine AWp.start [0,1,2] [3,4,5,6,7,8,9,10,11,12,13,14,15,16,17,18,19,20,21,22,23,24,25,26,27,28,29,30,31,32,33,34,35,36,37,38,39,40,41,42,43,44,45,46,47,48,49,50,51,52,53,54,55,56] [] [0,3,4,8,10,12,41] 1 ⟨[(0,tI v1),(3,.tv (.sc (.pointer none))),(4,.pc 0 0),(8,tI v3.2.1),(10,tI v4.2),(12,tI v5.2),(41,tB (v2.2 == (7:Int)))],hp7 v3⟩ rfl ?_ z0 trivial ?_
 ·kernel_rfl
 obtain ⟨v6,hc3,h⟩:=of_bind h
 refine AOps.cut [3,4,5] [6,7,8,9,10,11,12,13,14,15,16,17,18,19,20,21,22,23,24,25,26,27,28,29,30,31,32,33,34,35,36,37,38,39,40,41,42,43,44,45,46,47,48,49,50,51,52,53,54,55,56] (fun σ=>σ = ⟨[(0,tI v1),(3,.tv (.sc (.pointer none))),(4,.pc 0 0),(10,tI v4.2),(12,tI v5.2),(44,tB v6)],hp7 v3⟩) ?_ fun σ' hJ=>?_
 ·refine AOps.split (fun b=>⟨[(0,tI v1),(3,.tv (.sc (.pointer none))),(4,.pc 0 0),(8,tI v3.2.1),(10,tI v4.2),(12,tI v5.2),(41,tB b)],hp7 v3⟩) _ (fun hb=>?_) fun hb=>?_
  ·replace hc3:=of_true hc3 hb
   refine AOps.go [3,4,5] [] [] [0,3,4,10,12,44] 1 ⟨[(0,tI v1),(3,.tv (.sc (.pointer none))),(4,.pc 0 0),(10,tI v4.2),(12,tI v5.2),(44,tB (v3.2.1 == (7:Int)))],hp7 v3⟩ ?_ z0 trivial ?_
   ·kernel_rfl
   cases hc3
   exact AOps.nil rfl
  ·replace hc3:=of_false hc3 hb
   refine AOps.go [3,4,5] [] [] [0,3,4,10,12,44] 1 ⟨[(0,tI v1),(3,.tv (.sc (.pointer none))),(4,.pc 0 0),(10,tI v4.2),(12,tI v5.2),(44,tB false)],hp7 v3⟩ ?_ z0 trivial ?_
   ·kernel_rfl
   cases hc3
   exact AOps.nil rfl
 subst hJ
 refine AOps.go [6] [7,8,9,10,11,12,13,14,15,16,17,18,19,20,21,22,23,24,25,26,27,28,29,30,31,32,33,34,35,36,37,38,39,40,41,42,43,44,45,46,47,48,49,50,51,52,53,54,55,56] [] [0,3,4,10,12,45] 1 ⟨[(0,tI v1),(3,.tv (.sc (.pointer none))),(4,.pc 0 0),(10,tI v4.2),(12,tI v5.2),(45,tB v6)],hp7 v3⟩ ?_ z0 trivial ?_
 ·kernel_rfl
 obtain ⟨v7,hc7,h⟩:=of_bind h
 refine AOps.cut [7,8,9] [10,11,12,13,14,15,16,17,18,19,20,21,22,23,24,25,26,27,28,29,30,31,32,33,34,35,36,37,38,39,40,41,42,43,44,45,46,47,48,49,50,51,52,53,54,55,56] (fun σ=>σ = ⟨[(0,tI v1),(3,.tv (.sc (.pointer none))),(4,.pc 0 0),(12,tI v5.2),(48,tB v7)],hp7 v3⟩) ?_ fun σ' hJ=>?_
 ·refine AOps.split (fun b=>⟨[(0,tI v1),(3,.tv (.sc (.pointer none))),(4,.pc 0 0),(10,tI v4.2),(12,tI v5.2),(45,tB b)],hp7 v3⟩) _ (fun hb=>?_) fun hb=>?_
  ·replace hc7:=of_true hc7 hb
   refine AOps.go [7,8,9] [] [] [0,3,4,12,48] 1 ⟨[(0,tI v1),(3,.tv (.sc (.pointer none))),(4,.pc 0 0),(12,tI v5.2),(48,tB (v4.2 == (7:Int)))],hp7 v3⟩ ?_ z0 trivial ?_
   ·kernel_rfl
   cases hc7
   exact AOps.nil rfl
  ·replace hc7:=of_false hc7 hb
   refine AOps.go [7,8,9] [] [] [0,3,4,12,48] 1 ⟨[(0,tI v1),(3,.tv (.sc (.pointer none))),(4,.pc 0 0),(12,tI v5.2),(48,tB false)],hp7 v3⟩ ?_ z0 trivial ?_
   ·kernel_rfl
   cases hc7
   exact AOps.nil rfl
 subst hJ
 refine AOps.go [10] [11,12,13,14,15,16,17,18,19,20,21,22,23,24,25,26,27,28,29,30,31,32,33,34,35,36,37,38,39,40,41,42,43,44,45,46,47,48,49,50,51,52,53,54,55,56] [] [0,3,4,12,49] 1 ⟨[(0,tI v1),(3,.tv (.sc (.pointer none))),(4,.pc 0 0),(12,tI v5.2),(49,tB v7)],hp7 v3⟩ ?_ z0 trivial ?_
 ·kernel_rfl
 obtain ⟨v8,hc11,h⟩:=of_bind h
 refine AOps.cut [11,12,13] [14,15,16,17,18,19,20,21,22,23,24,25,26,27,28,29,30,31,32,33,34,35,36,37,38,39,40,41,42,43,44,45,46,47,48,49,50,51,52,53,54,55,56] (fun σ=>σ = ⟨[(0,tI v1),(3,.tv (.sc (.pointer none))),(4,.pc 0 0),(52,tB v8)],hp7 v3⟩) ?_ fun σ' hJ=>?_
 ·refine AOps.split (fun b=>⟨[(0,tI v1),(3,.tv (.sc (.pointer none))),(4,.pc 0 0),(12,tI v5.2),(49,tB b)],hp7 v3⟩) _ (fun hb=>?_) fun hb=>?_
  ·replace hc11:=of_true hc11 hb
   refine AOps.go [11,12,13] [] [] [0,3,4,52] 1 ⟨[(0,tI v1),(3,.tv (.sc (.pointer none))),(4,.pc 0 0),(52,tB (v5.2 == (7:Int)))],hp7 v3⟩ ?_ z0 trivial ?_
   ·kernel_rfl
   cases hc11
   exact AOps.nil rfl
  ·replace hc11:=of_false hc11 hb
   refine AOps.go [11,12,13] [] [] [0,3,4,52] 1 ⟨[(0,tI v1),(3,.tv (.sc (.pointer none))),(4,.pc 0 0),(52,tB false)],hp7 v3⟩ ?_ z0 trivial ?_
   ·kernel_rfl
   cases hc11
   exact AOps.nil rfl
 subst hJ
 refine AOps.go [14] [15,16,17,18,19,20,21,22,23,24,25,26,27,28,29,30,31,32,33,34,35,36,37,38,39,40,41,42,43,44,45,46,47,48,49,50,51,52,53,54,55,56] [] [0,3,4,53] 1 ⟨[(0,tI v1),(3,.tv (.sc (.pointer none))),(4,.pc 0 0),(53,tB v8)],hp7 v3⟩ ?_ z0 trivial ?_
 ·kernel_rfl
 obtain ⟨v9,hc15,h⟩:=of_bind h
 refine AOps.cut [15,16,17,18,19,20] [21,22,23,24,25,26,27,28,29,30,31,32,33,34,35,36,37,38,39,40,41,42,43,44,45,46,47,48,49,50,51,52,53,54,55,56] (fun σ=>σ = ⟨[(0,tI v1),(3,.tv (.sc (.pointer none))),(4,.pc 0 0),(59,tB v9)],hp7 v3⟩) ?_ fun σ' hJ=>?_
 ·refine AOps.split (fun b=>⟨[(0,tI v1),(3,.tv (.sc (.pointer none))),(4,.pc 0 0),(53,tB b)],hp7 v3⟩) _ (fun hb=>?_) fun hb=>?_
  ·replace hc15:=of_true hc15 hb
   refine AOps.go [15,16,17] [18,19,20] [] [0,3,4,53,54,56] 1 ⟨[(0,tI v1),(3,.tv (.sc (.pointer none))),(4,.pc 0 0),(53,tB true),(54,.tv (.sc (.pointer none))),(56,.tv (.own 1 3 1 (newRowF [.int .i64 v1] 1)))],hp7 v3⟩ ?_ z0 trivial ?_
   ·kernel_rfl
   refine AOps.extL 56 (cInt .i64) [v1] rfl rfl (row_at (cInt .i64) 1 (fun _=>rfl) [v1] _ rfl) ?_
   refine AOps.freezeL 56 (cInt .i64) [v1] rfl (fun _=>rfl) ?_
   obtain ⟨v10,hv10,hc15⟩:=of_bind hc15
   refine AOps.cons (AOne.callP (F:=(FF 95 0)) _ rfl rfl rfl _ rfl rfl _ _ rfl Try.call16 [.tv (.sc (.pointer none)),q0 [v1]] rfl rfl (f16_z_ok [v1] hv10) rfl) ?_
   refine AOps.go [19,20] [] [] [0,3,4,59] 1 ⟨[(0,tI v1),(3,.tv (.sc (.pointer none))),(4,.pc 0 0),(59,tB (v10 == (7:Int)))],hp7 v3⟩ ?_ z0 trivial ?_
   ·kernel_rfl
   cases hc15
   exact AOps.nil rfl
  ·replace hc15:=of_false hc15 hb
   refine AOps.go [15,16,17,18,19,20] [] [] [0,3,4,59] 1 ⟨[(0,tI v1),(3,.tv (.sc (.pointer none))),(4,.pc 0 0),(59,tB false)],hp7 v3⟩ ?_ z0 trivial ?_
   ·kernel_rfl
   cases hc15
   exact AOps.nil rfl
 subst hJ
 refine AOps.go [21] [22,23,24,25,26,27,28,29,30,31,32,33,34,35,36,37,38,39,40,41,42,43,44,45,46,47,48,49,50,51,52,53,54,55,56] [] [0,3,4,60] 1 ⟨[(0,tI v1),(3,.tv (.sc (.pointer none))),(4,.pc 0 0),(60,tB v9)],hp7 v3⟩ ?_ z0 trivial ?_
 ·kernel_rfl
 obtain ⟨v11,hc22,h⟩:=of_bind h
 refine AOps.cut [22,23,24,25,26] [27,28,29,30,31,32,33,34,35,36,37,38,39,40,41,42,43,44,45,46,47,48,49,50,51,52,53,54,55,56] (fun σ=>σ = ⟨[(0,tI v1),(3,.tv (.sc (.pointer none))),(4,.pc 0 0),(65,tB v11)],hp7 v3⟩) ?_ fun σ' hJ=>?_
 ·refine AOps.split (fun b=>⟨[(0,tI v1),(3,.tv (.sc (.pointer none))),(4,.pc 0 0),(60,tB b)],hp7 v3⟩) _ (fun hb=>?_) fun hb=>?_
  ·replace hc22:=of_true hc22 hb
   refine AOps.go [22,23] [24,25,26] [] [0,3,4,60,61,62] 1 ⟨[(0,tI v1),(3,.tv (.sc (.pointer none))),(4,.pc 0 0),(60,tB true),(61,.tv (.sc (.pointer none))),(62,tI v1)],hp7 v3⟩ ?_ z0 trivial ?_
   ·kernel_rfl
   obtain ⟨v12,hv12,hc22⟩:=of_bind hc22
   refine AOps.cons (AOne.callP (F:=(FF 95 0)) _ rfl rfl rfl _ rfl rfl _ _ rfl Try.call18 [.tv (.sc (.pointer none)),tI v1] rfl rfl (f18_z_ok v1 hv12) rfl) ?_
   refine AOps.go [25,26] [] [] [0,3,4,65] 1 ⟨[(0,tI v1),(3,.tv (.sc (.pointer none))),(4,.pc 0 0),(65,tB (v12 == ([]:List UInt8)))],hp7 v3⟩ ?_ z0 trivial ?_
   ·kernel_rfl
   cases hc22
   exact AOps.nil rfl
  ·replace hc22:=of_false hc22 hb
   refine AOps.go [22,23,24,25,26] [] [] [0,3,4,65] 1 ⟨[(0,tI v1),(3,.tv (.sc (.pointer none))),(4,.pc 0 0),(65,tB false)],hp7 v3⟩ ?_ z0 trivial ?_
   ·kernel_rfl
   cases hc22
   exact AOps.nil rfl
 subst hJ
 refine AOps.go [27] [28,29,30,31,32,33,34,35,36,37,38,39,40,41,42,43,44,45,46,47,48,49,50,51,52,53,54,55,56] [] [0,3,4,66] 1 ⟨[(0,tI v1),(3,.tv (.sc (.pointer none))),(4,.pc 0 0),(66,tB v11)],hp7 v3⟩ ?_ z0 trivial ?_
 ·kernel_rfl
 obtain ⟨v13,hc28,h⟩:=of_bind h
 refine AOps.cut [28,29,30,31,32] [33,34,35,36,37,38,39,40,41,42,43,44,45,46,47,48,49,50,51,52,53,54,55,56] (fun σ=>σ = ⟨[(3,.tv (.sc (.pointer none))),(4,.pc 0 0),(71,tB v13)],hp7 v3⟩) ?_ fun σ' hJ=>?_
 ·refine AOps.split (fun b=>⟨[(0,tI v1),(3,.tv (.sc (.pointer none))),(4,.pc 0 0),(66,tB b)],hp7 v3⟩) _ (fun hb=>?_) fun hb=>?_
  ·replace hc28:=of_true hc28 hb
   refine AOps.go [28,29] [30,31,32] [] [3,4,66,67,68] 1 ⟨[(3,.tv (.sc (.pointer none))),(4,.pc 0 0),(66,tB true),(67,.pc 0 0),(68,tI v1)],hp7 v3⟩ ?_ z0 trivial ?_
   ·kernel_rfl
   obtain ⟨v14,hv14,hc28⟩:=of_bind hc28
   refine AOps.cons (AOne.callV (F:=(FF 95 0)) _ rfl rfl rfl 69 rfl rfl 18 [] rfl Try.call18 [.pc 0 0,tI v1] [.rp [k4 v3.2.2.f0,.int .i64 v3.2.2.f1,k3 v3.2.2.f2],tI v1] rfl (.cons (.pc rfl (.cons (.ownL seen60) (.keep rfl (.cons (.ownL (fun _=>.plain rfl)) .nil)))) (.cons (.old rfl) .nil)) (f18_ok v3.2.2 v1 hv14) (ind_of rfl) rfl) ?_
   refine AOps.go [31,32] [] [] [3,4,71] 1 ⟨[(3,.tv (.sc (.pointer none))),(4,.pc 0 0),(71,tB (v14 == ([]:List UInt8)))],hp7 v3⟩ ?_ z0 trivial ?_
   ·kernel_rfl
   cases hc28
   exact AOps.nil rfl
  ·replace hc28:=of_false hc28 hb
   refine AOps.go [28,29,30,31,32] [] [] [3,4,71] 1 ⟨[(3,.tv (.sc (.pointer none))),(4,.pc 0 0),(71,tB false)],hp7 v3⟩ ?_ z0 trivial ?_
   ·kernel_rfl
   cases hc28
   exact AOps.nil rfl
 subst hJ
 refine AOps.go [33] [34,35,36,37,38,39,40,41,42,43,44,45,46,47,48,49,50,51,52,53,54,55,56] [] [3,4,72] 1 ⟨[(3,.tv (.sc (.pointer none))),(4,.pc 0 0),(72,tB v13)],hp7 v3⟩ ?_ z0 trivial ?_
 ·kernel_rfl
 obtain ⟨v15,hc34,h⟩:=of_bind h
 refine AOps.cut [34,35,36,37] [38,39,40,41,42,43,44,45,46,47,48,49,50,51,52,53,54,55,56] (fun σ=>σ = ⟨[(3,.tv (.sc (.pointer none))),(4,.pc 0 0),(76,tB v15)],hp7 v3⟩) ?_ fun σ' hJ=>?_
 ·refine AOps.split (fun b=>⟨[(3,.tv (.sc (.pointer none))),(4,.pc 0 0),(72,tB b)],hp7 v3⟩) _ (fun hb=>?_) fun hb=>?_
  ·replace hc34:=of_true hc34 hb
   refine AOps.go [34] [35,36,37] [] [3,4,72,73] 1 ⟨[(3,.tv (.sc (.pointer none))),(4,.pc 0 0),(72,tB true),(73,.tv (.sc (.pointer none)))],hp7 v3⟩ ?_ z0 trivial ?_
   ·kernel_rfl
   obtain ⟨v16,hv16,hc34⟩:=of_bind hc34
   refine AOps.cons (AOne.callP (F:=(FF 95 0)) _ rfl rfl rfl _ rfl rfl _ _ rfl Try.call19 [.tv (.sc (.pointer none))] rfl rfl (f19_z_ok  hv16) rfl) ?_
   refine AOps.go [36,37] [] [] [3,4,76] 1 ⟨[(3,.tv (.sc (.pointer none))),(4,.pc 0 0),(76,tB (!v16))],hp7 v3⟩ ?_ z0 trivial ?_
   ·kernel_rfl
   cases hc34
   exact AOps.nil rfl
  ·replace hc34:=of_false hc34 hb
   refine AOps.go [34,35,36,37] [] [] [3,4,76] 1 ⟨[(3,.tv (.sc (.pointer none))),(4,.pc 0 0),(76,tB false)],hp7 v3⟩ ?_ z0 trivial ?_
   ·kernel_rfl
   cases hc34
   exact AOps.nil rfl
 subst hJ
 refine AOps.go [38] [39,40,41,42,43,44,45,46,47,48,49,50,51,52,53,54,55,56] [] [3,4,77] 1 ⟨[(3,.tv (.sc (.pointer none))),(4,.pc 0 0),(77,tB v15)],hp7 v3⟩ ?_ z0 trivial ?_
 ·kernel_rfl
 obtain ⟨v17,hc39,h⟩:=of_bind h
 refine AOps.cut [39,40,41,42,43] [44,45,46,47,48,49,50,51,52,53,54,55,56] (fun σ=>σ = ⟨[(3,.tv (.sc (.pointer none))),(82,tB v17)],[]⟩) ?_ fun σ' hJ=>?_
 ·refine AOps.split (fun b=>⟨[(3,.tv (.sc (.pointer none))),(4,.pc 0 0),(77,tB b)],hp7 v3⟩) _ (fun hb=>?_) fun hb=>?_
  ·replace hc39:=of_true hc39 hb
   refine AOps.go [39] [40,41,42,43] [] [3,77,78] 1 ⟨[(3,.tv (.sc (.pointer none))),(77,tB true),(78,.pc 0 0)],hp7 v3⟩ ?_ z0 trivial ?_
   ·kernel_rfl
   obtain ⟨v18,hv18,hc39⟩:=of_bind hc39
   refine AOps.cons (AOne.callV (F:=(FF 95 0)) _ rfl rfl rfl 79 rfl rfl 24 [] rfl Try.call24 [.pc 0 0] [.rp [k4 v3.2.2.f0,.int .i64 v3.2.2.f1,k3 v3.2.2.f2]] rfl (.cons (.pc rfl (.cons (.ownL seen60) (.keep rfl (.cons (.ownL (fun _=>.plain rfl)) .nil)))) .nil) (f24_ok v3.2.2 hv18) (ind_ownL (fun _=>rfl)) rfl) ?_
   refine AOps.go [41,42,43] [] [] [3,82] 0 ⟨[(3,.tv (.sc (.pointer none))),(82,tB ((v18.length:Int) == (0:Int)))],[]⟩ ?_ z0 trivial ?_
   ·kernel_rfl
   cases hc39
   exact AOps.nil rfl
  ·replace hc39:=of_false hc39 hb
   refine AOps.go [39,40,41,42,43] [] [] [3,82] 0 ⟨[(3,.tv (.sc (.pointer none))),(82,tB false)],[]⟩ ?_ z0 trivial ?_
   ·kernel_rfl
   cases hc39
   exact AOps.nil rfl
 subst hJ
 refine AOps.go [44] [45,46,47,48,49,50,51,52,53,54,55,56] [] [3,83] 0 ⟨[(3,.tv (.sc (.pointer none))),(83,tB v17)],[]⟩ ?_ z0 trivial ?_
 ·kernel_rfl
 obtain ⟨v19,hc45,h⟩:=of_bind h
 refine AOps.cut [45,46,47,48] [49,50,51,52,53,54,55,56] (fun σ=>σ = ⟨[(3,.tv (.sc (.pointer none))),(87,tB v19)],[]⟩) ?_ fun σ' hJ=>?_
 ·refine AOps.split (fun b=>⟨[(3,.tv (.sc (.pointer none))),(83,tB b)],[]⟩) _ (fun hb=>?_) fun hb=>?_
  ·replace hc45:=of_true hc45 hb
   refine AOps.go [45] [46,47,48] [] [3,83,84] 0 ⟨[(3,.tv (.sc (.pointer none))),(83,tB true),(84,.tv (.sc (.pointer none)))],[]⟩ ?_ z0 trivial ?_
   ·kernel_rfl
   obtain ⟨v20,hv20,hc45⟩:=of_bind hc45
   refine AOps.cons (AOne.callO (F:=(FF 95 0)) _ rfl rfl rfl 85 rfl rfl 27 [] rfl Try.call27 [] (by decide) [.tv (.sc (.pointer none))] (by kernel_rfl) [] (by kernel_rfl) (f27_z_ok  hv20) (by kernel_rfl) (by kernel_rfl) _ rfl) ?_
   refine AOps.go [47,48] [] [] [3,87] 0 ⟨[(3,.tv (.sc (.pointer none))),(87,tB true)],[]⟩ ?_ z0 trivial ?_
   ·kernel_rfl
   cases hc45
   exact AOps.nil rfl
  ·replace hc45:=of_false hc45 hb
   refine AOps.go [45,46,47,48] [] [] [3,87] 0 ⟨[(3,.tv (.sc (.pointer none))),(87,tB false)],[]⟩ ?_ z0 trivial ?_
   ·kernel_rfl
   cases hc45
   exact AOps.nil rfl
 subst hJ
 refine AOps.go [49] [50,51,52,53,54,55,56] [] [3,88] 0 ⟨[(3,.tv (.sc (.pointer none))),(88,tB v19)],[]⟩ ?_ z0 trivial ?_
 ·kernel_rfl
 obtain ⟨v21,hc50,h⟩:=of_bind h
 refine AOps.cut [50,51,52] [53,54,55,56] (fun σ=>σ = ⟨[(91,tB v21)],[]⟩) ?_ fun σ' hJ=>?_
 ·refine AOps.split (fun b=>⟨[(3,.tv (.sc (.pointer none))),(88,tB b)],[]⟩) _ (fun hb=>?_) fun hb=>?_
  ·replace hc50:=of_true hc50 hb
   refine AOps.go [50] [51,52] [] [88,89] 0 ⟨[(88,tB true),(89,.tv (.sc (.pointer none)))],[]⟩ ?_ z0 trivial ?_
   ·kernel_rfl
   obtain ⟨v22,hv22,hc50⟩:=of_bind hc50
   refine AOps.cons (AOne.callP (F:=(FF 95 0)) _ rfl rfl rfl _ rfl rfl _ _ rfl Try.call25 [.tv (.sc (.pointer none)),.tv (.sc (.pointer none))] rfl rfl (f25_z_z1_ok  hv22) rfl) ?_
   refine AOps.go [52] [] [] [91] 0 ⟨[(91,tB v22)],[]⟩ ?_ z0 trivial ?_
   ·kernel_rfl
   cases hc50
   exact AOps.nil rfl
  ·replace hc50:=of_false hc50 hb
   refine AOps.go [50,51,52] [] [] [91] 0 ⟨[(91,tB false)],[]⟩ ?_ z0 trivial ?_
   ·kernel_rfl
   cases hc50
   exact AOps.nil rfl
 subst hJ
 refine AOps.go [53] [54,55,56] [] [92] 0 ⟨[(92,tB v21)],[]⟩ ?_ z0 trivial ?_
 ·kernel_rfl
 obtain ⟨v23,hc54,h⟩:=of_bind h
 refine AOps.cut [54,55] [56] (fun σ=>σ = ⟨[(94,tB v23)],[]⟩) ?_ fun σ' hJ=>?_
 ·refine AOps.split (fun b=>⟨[(92,tB b)],[]⟩) _ (fun hb=>?_) fun hb=>?_
  ·replace hc54:=of_true hc54 hb
   obtain ⟨v24,hv24,hc54⟩:=of_bind hc54
   refine AOps.cons (AOne.callP (F:=(FF 95 0)) _ rfl rfl rfl _ rfl rfl _ _ rfl Try.call11 [] rfl rfl (f11_ok  hv24) rfl) ?_
   refine AOps.go [55] [] [] [94] 0 ⟨[(94,tB v24)],[]⟩ ?_ z0 trivial ?_
   ·kernel_rfl
   cases hc54
   exact AOps.nil rfl
  ·replace hc54:=of_false hc54 hb
   refine AOps.go [54,55] [] [] [94] 0 ⟨[(94,tB false)],[]⟩ ?_ z0 trivial ?_
   ·kernel_rfl
   cases hc54
   exact AOps.nil rfl
 subst hJ
 refine AOps.go [56] [] [] [2] 0 ⟨[(2,tB v23)],[]⟩ ?_ z0 trivial ?_
 ·kernel_rfl
 refine AOps.nil ?_
 refine AWp.ret ?_
 cases h
 exact ⟨.inr rfl,rfl⟩

end Go.Sx.img
