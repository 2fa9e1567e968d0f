/- Printed by program (wip/gen): plain functions and their walks; no condition. -/
import Derived.Test.YtdmpmbcnfoionaaGx1
namespace Go.Sx.unit
open Go Go.Sx Go.Proofs

noncomputable def f25o (v1:Int) (v2:Int) (v3:T64):Option ((List Int) × Int × T64) :=
 (f41 v3).bind fun v4=>cond v4 (some (([]:List Int),(7:Int),v3)) ((f42 v3).bind fun v5=>cond v5 (some (([]:List Int),(110:Int),v3)) ((cond (v3.f0 == ([100,105,114,101,99,116]:List UInt8)) (some (decide (v1 < (1:Int)))) (some false)).bind fun v6=>(cond v6 (some true) (some (decide (v1 < (0:Int))))).bind fun v7=>(cond v7 (some true) ((cond (v3.f0 == ([115,116,114,101,97,109]:List UInt8)) ((cond (decide (v2 < (0:Int))) (some true) (some (decide (v2 > (20000:Int))))).bind fun v10=>some v10) (some false)).bind fun v9=>some v9)).bind fun v8=>cond v8 (some (([]:List Int),(2:Int),v3)) (cond (v3.f0 == ([100,105,114,101,99,116]:List UInt8)) (if v3.f1 ≠ (0:Int) then cond (decide (v1 > w64 (Int.tdiv (v3.f2.length:Int) v3.f1))) (some (([]:List Int),(5:Int),v3)) (if (0:Int) ≤ w64 ((w64 (v1 - (1:Int))) * v3.f1) ∧ w64 ((w64 (v1 - (1:Int))) * v3.f1) ≤ w64 (v1 * v3.f1) ∧ w64 (v1 * v3.f1) ≤ (v3.f2.length:Int) then (f37 ((v3.f2.take (Int.toNat (w64 (v1 * v3.f1)))).drop (Int.toNat (w64 ((w64 (v1 - (1:Int))) * v3.f1))))).bind fun v11=>some (v11,(0:Int),v3) else none) else none) ((f45 v3 v1).bind fun v12=>(cond (decide (v12 > (v3.f2.length:Int))) (some true) (some (decide (v2 > w64 ((v3.f2.length:Int) - v12))))).bind fun v13=>cond v13 (some (([]:List Int),(6:Int),v3)) (if (0:Int) ≤ v12 ∧ v12 ≤ w64 (v12 + v2) ∧ w64 (v12 + v2) ≤ (v3.f2.length:Int) then (f37 ((v3.f2.take (Int.toNat (w64 (v12 + v2)))).drop v12.toNat)).bind fun v14=>some (v14,(0:Int),T64.mk v3.f0 v3.f1 v3.f2 (w64 (v12 + v2)) v3.f4) else none)))))

theorem f25o_ok (v1:Int) (v2:Int) (v3:T64) {r:(List Int) × Int × T64} (h:f25o v1 v2 v3 = some r):ACall Try.prog 25 [.pc 0 0,.tv (.int .i64 v1),.tv (.int .i64 v2)] [.cells 65 [.str v3.f0,.int .i64 v3.f1,fzL 1 (cInt .u8) v3.f2,.int .i64 v3.f3,.bool v3.f4]] (.tup [.tv (fzL 1 (cInt .u8) r.1),.tv (.int .i64 r.2.1)]) [.cells 65 [.str r.2.2.f0,.int .i64 r.2.2.f1,fzL 1 (cInt .u8) r.2.2.f2,.int .i64 r.2.2.f3,.bool r.2.2.f4]]:=by
 refine ACall.ofN (FF 117 1) (rs:=[6,7]) (env:=[(6,q0 r.1),(7,tI r.2.1)]) Try.func25 rfl Try.ntmps25 Try.results25 (by decide) (by decide) rfl (zz rfl) rfl (get_ofN _ _ _ rfl) (ok_ofN _ rfl) ?_
 refine AWp.seq ?_
 refine AWp.start [0,1] [] [] [0,1,2] 1 ⟨[(0,.pc 0 0),(1,tI v1),(2,tI v2)],[.cells 65 (c64 v3)]⟩ rfl ?_ (zz rfl) trivial ?_
 ·kernel_rfl
 refine AOps.nil ?_
 refine AWp.seq ?_
 refine AWp.block ?_
 refine AWp.seq ?_
 refine AWp.start [0] [1,2] [] [0,1,2,10] 1 ⟨[(0,.pc 0 0),(1,tI v1),(2,tI v2),(10,.pc 0 0)],[.cells 65 (c64 v3)]⟩ rfl ?_ (zz rfl) trivial ?_
 ·kernel_rfl
 obtain ⟨v4,hv4,h⟩:=of_bind h
 refine AOps.cons (AOne.callR (F:=(FF 117 1)) _ rfl rfl rfl _ rfl rfl _ _ rfl Try.call41 [] [.rp (c64 v3)] rfl trivial (f41_ok v3 hv4) (ind_of rfl) rfl) ?_
 refine AOps.go [2] [] [] [0,1,2,9] 1 ⟨[(0,.pc 0 0),(1,tI v1),(2,tI v2),(9,tB v4)],[.cells 65 (c64 v3)]⟩ ?_ (zz rfl) trivial ?_
 ·kernel_rfl
 refine AOps.nil ?_
 refine AWp.cond rfl (fun hb=>?_) fun hb=>?_
 ·replace h:=of_true h hb
  refine AWp.keepTo [] 1 ⟨[],[.cells 65 (c64 v3)]⟩ ?_ (zz rfl) ?_
  ·kernel_rfl
  refine AWp.seq ?_
  refine AWp.start [0,1] [] [] [6,7] 1 ⟨[(6,.tv (.sc (.slice none 0 0))),(7,tI (7:Int))],[.cells 65 (c64 v3)]⟩ rfl ?_ (zz rfl) trivial ?_
  ·kernel_rfl
  refine AOps.nil ?_
  refine AWp.nilFz 6 1 (fun i=>(cInt .u8) (([]:List Int).getD i default)) rfl ?_
  refine AWp.keepTo [6,7] 1 ⟨[(6,q0 ([]:List Int)),(7,tI (7:Int))],[.cells 65 (c64 v3)]⟩ ?_ (zz rfl) ?_
  ·kernel_rfl
  refine AWp.ret ?_
  cases h
  exact ⟨.inr rfl,rfl⟩
 ·replace h:=of_false h hb
  refine AWp.keepTo [0,1,2] 1 ⟨[(0,.pc 0 0),(1,tI v1),(2,tI v2)],[.cells 65 (c64 v3)]⟩ ?_ (zz rfl) ?_
  ·kernel_rfl
  refine AWp.seq ?_
  refine AWp.start [0] [1,2] [] [0,1,2,13] 1 ⟨[(0,.pc 0 0),(1,tI v1),(2,tI v2),(13,.pc 0 0)],[.cells 65 (c64 v3)]⟩ rfl ?_ (zz rfl) trivial ?_
  ·kernel_rfl
  obtain ⟨v5,hv5,h⟩:=of_bind h
  refine AOps.cons (AOne.callR (F:=(FF 117 1)) _ rfl rfl rfl _ rfl rfl _ _ rfl Try.call42 [] [.rp (c64 v3)] rfl trivial (f42_ok v3 hv5) (ind_of rfl) rfl) ?_
  refine AOps.go [2] [] [] [0,1,2,12] 1 ⟨[(0,.pc 0 0),(1,tI v1),(2,tI v2),(12,tB v5)],[.cells 65 (c64 v3)]⟩ ?_ (zz rfl) trivial ?_
  ·kernel_rfl
  refine AOps.nil ?_
  refine AWp.cond rfl (fun hb=>?_) fun hb=>?_
  ·replace h:=of_true h hb
   refine AWp.keepTo [] 1 ⟨[],[.cells 65 (c64 v3)]⟩ ?_ (zz rfl) ?_
   ·kernel_rfl
   refine AWp.seq ?_
   refine AWp.start [0,1] [] [] [6,7] 1 ⟨[(6,.tv (.sc (.slice none 0 0))),(7,tI (110:Int))],[.cells 65 (c64 v3)]⟩ rfl ?_ (zz rfl) trivial ?_
   ·kernel_rfl
   refine AOps.nil ?_
   refine AWp.nilFz 6 1 (fun i=>(cInt .u8) (([]:List Int).getD i default)) rfl ?_
   refine AWp.keepTo [6,7] 1 ⟨[(6,q0 ([]:List Int)),(7,tI (110:Int))],[.cells 65 (c64 v3)]⟩ ?_ (zz rfl) ?_
   ·kernel_rfl
   refine AWp.ret ?_
   cases h
   exact ⟨.inr rfl,rfl⟩
  ·replace h:=of_false h hb
   refine AWp.keepTo [0,1,2] 1 ⟨[(0,.pc 0 0),(1,tI v1),(2,tI v2)],[.cells 65 (c64 v3)]⟩ ?_ (zz rfl) ?_
   ·kernel_rfl
   refine AWp.seq ?_
   refine AWp.start [0,1,2,3,4,5] [6,7,8,9,10,11,12,13,14,15,16,17,18,19,20,21,22,23,24,25,26,27,28] [] [0,1,2,21] 1 ⟨[(0,.pc 0 0),(1,tI v1),(2,tI v2),(21,tB (v3.f0 == ([100,105,114,101,99,116]:List UInt8)))],[.cells 65 (c64 v3)]⟩ rfl ?_ (zz rfl) trivial ?_
   ·kernel_rfl
   obtain ⟨v6,hc6,h⟩:=of_bind h
   refine AOps.cut [6,7,8] [9,10,11,12,13,14,15,16,17,18,19,20,21,22,23,24,25,26,27,28] (fun σ=>σ = ⟨[(0,.pc 0 0),(1,tI v1),(2,tI v2),(24,tB v6)],[.cells 65 (c64 v3)]⟩) ?_ fun σ' hJ=>?_
   ·refine AOps.split (fun b=>⟨[(0,.pc 0 0),(1,tI v1),(2,tI v2),(21,tB b)],[.cells 65 (c64 v3)]⟩) _ (fun hb=>?_) fun hb=>?_
    ·replace hc6:=of_true hc6 hb
     refine AOps.go [6,7,8] [] [] [0,1,2,24] 1 ⟨[(0,.pc 0 0),(1,tI v1),(2,tI v2),(24,tB (decide (v1 < (1:Int))))],[.cells 65 (c64 v3)]⟩ ?_ (zz rfl) trivial ?_
     ·kernel_rfl
     cases hc6
     exact AOps.nil rfl
    ·replace hc6:=of_false hc6 hb
     refine AOps.go [6,7,8] [] [] [0,1,2,24] 1 ⟨[(0,.pc 0 0),(1,tI v1),(2,tI v2),(24,tB false)],[.cells 65 (c64 v3)]⟩ ?_ (zz rfl) trivial ?_
     ·kernel_rfl
     cases hc6
     exact AOps.nil rfl
   subst hJ
   refine AOps.go [9] [10,11,12,13,14,15,16,17,18,19,20,21,22,23,24,25,26,27,28] [] [0,1,2,25] 1 ⟨[(0,.pc 0 0),(1,tI v1),(2,tI v2),(25,tB v6)],[.cells 65 (c64 v3)]⟩ ?_ (zz rfl) trivial ?_
   ·kernel_rfl
   obtain ⟨v7,hc10,h⟩:=of_bind h
   refine AOps.cut [10,11,12] [13,14,15,16,17,18,19,20,21,22,23,24,25,26,27,28] (fun σ=>σ = ⟨[(0,.pc 0 0),(1,tI v1),(2,tI v2),(28,tB v7)],[.cells 65 (c64 v3)]⟩) ?_ fun σ' hJ=>?_
   ·refine AOps.split (fun b=>⟨[(0,.pc 0 0),(1,tI v1),(2,tI v2),(25,tB b)],[.cells 65 (c64 v3)]⟩) _ (fun hb=>?_) fun hb=>?_
    ·replace hc10:=of_true hc10 hb
     refine AOps.go [10,11,12] [] [] [0,1,2,28] 1 ⟨[(0,.pc 0 0),(1,tI v1),(2,tI v2),(28,tB true)],[.cells 65 (c64 v3)]⟩ ?_ (zz rfl) trivial ?_
     ·kernel_rfl
     cases hc10
     exact AOps.nil rfl
    ·replace hc10:=of_false hc10 hb
     refine AOps.go [10,11,12] [] [] [0,1,2,28] 1 ⟨[(0,.pc 0 0),(1,tI v1),(2,tI v2),(28,tB (decide (v1 < (0:Int))))],[.cells 65 (c64 v3)]⟩ ?_ (zz rfl) trivial ?_
     ·kernel_rfl
     cases hc10
     exact AOps.nil rfl
   subst hJ
   refine AOps.go [13] [14,15,16,17,18,19,20,21,22,23,24,25,26,27,28] [] [0,1,2,29] 1 ⟨[(0,.pc 0 0),(1,tI v1),(2,tI v2),(29,tB v7)],[.cells 65 (c64 v3)]⟩ ?_ (zz rfl) trivial ?_
   ·kernel_rfl
   obtain ⟨v8,hc14,h⟩:=of_bind h
   refine AOps.cut [14,15,16,17,18,19,20,21,22,23,24,25,26,27] [28] (fun σ=>σ = ⟨[(0,.pc 0 0),(1,tI v1),(2,tI v2),(43,tB v8)],[.cells 65 (c64 v3)]⟩) ?_ fun σ' hJ=>?_
   ·refine AOps.split (fun b=>⟨[(0,.pc 0 0),(1,tI v1),(2,tI v2),(29,tB b)],[.cells 65 (c64 v3)]⟩) _ (fun hb=>?_) fun hb=>?_
    ·replace hc14:=of_true hc14 hb
     refine AOps.go [14,15,16,17,18,19,20,21,22,23,24,25,26,27] [] [] [0,1,2,43] 1 ⟨[(0,.pc 0 0),(1,tI v1),(2,tI v2),(43,tB true)],[.cells 65 (c64 v3)]⟩ ?_ (zz rfl) trivial ?_
     ·kernel_rfl
     cases hc14
     exact AOps.nil rfl
    ·replace hc14:=of_false hc14 hb
     refine AOps.go [14,15,16,17,18,19] [20,21,22,23,24,25,26,27] [] [0,1,2,29,35] 1 ⟨[(0,.pc 0 0),(1,tI v1),(2,tI v2),(29,tB false),(35,tB (v3.f0 == ([115,116,114,101,97,109]:List UInt8)))],[.cells 65 (c64 v3)]⟩ ?_ (zz rfl) trivial ?_
     ·kernel_rfl
     obtain ⟨v9,hc20,hc14⟩:=of_bind hc14
     refine AOps.cut [20,21,22,23,24,25,26] [27] (fun σ=>σ = ⟨[(0,.pc 0 0),(1,tI v1),(2,tI v2),(29,tB false),(42,tB v9)],[.cells 65 (c64 v3)]⟩) ?_ fun σ' hJ=>?_
     ·refine AOps.split (fun b=>⟨[(0,.pc 0 0),(1,tI v1),(2,tI v2),(29,tB false),(35,tB b)],[.cells 65 (c64 v3)]⟩) _ (fun hb=>?_) fun hb=>?_
      ·replace hc20:=of_true hc20 hb
       refine AOps.go [20,21,22] [23,24,25,26] [] [0,1,2,29,35,38] 1 ⟨[(0,.pc 0 0),(1,tI v1),(2,tI v2),(29,tB false),(35,tB true),(38,tB (decide (v2 < (0:Int))))],[.cells 65 (c64 v3)]⟩ ?_ (zz rfl) trivial ?_
       ·kernel_rfl
       obtain ⟨v10,hc23,hc20⟩:=of_bind hc20
       refine AOps.cut [23,24,25] [26] (fun σ=>σ = ⟨[(0,.pc 0 0),(1,tI v1),(2,tI v2),(29,tB false),(35,tB true),(41,tB v10)],[.cells 65 (c64 v3)]⟩) ?_ fun σ' hJ=>?_
       ·refine AOps.split (fun b=>⟨[(0,.pc 0 0),(1,tI v1),(2,tI v2),(29,tB false),(35,tB true),(38,tB b)],[.cells 65 (c64 v3)]⟩) _ (fun hb=>?_) fun hb=>?_
        ·replace hc23:=of_true hc23 hb
         refine AOps.go [23,24,25] [] [] [0,1,2,29,35,41] 1 ⟨[(0,.pc 0 0),(1,tI v1),(2,tI v2),(29,tB false),(35,tB true),(41,tB true)],[.cells 65 (c64 v3)]⟩ ?_ (zz rfl) trivial ?_
         ·kernel_rfl
         cases hc23
         exact AOps.nil rfl
        ·replace hc23:=of_false hc23 hb
         refine AOps.go [23,24,25] [] [] [0,1,2,29,35,41] 1 ⟨[(0,.pc 0 0),(1,tI v1),(2,tI v2),(29,tB false),(35,tB true),(41,tB (decide (v2 > (20000:Int))))],[.cells 65 (c64 v3)]⟩ ?_ (zz rfl) trivial ?_
         ·kernel_rfl
         cases hc23
         exact AOps.nil rfl
       subst hJ
       refine AOps.go [26] [] [] [0,1,2,29,42] 1 ⟨[(0,.pc 0 0),(1,tI v1),(2,tI v2),(29,tB false),(42,tB v10)],[.cells 65 (c64 v3)]⟩ ?_ (zz rfl) trivial ?_
       ·kernel_rfl
       cases hc20
       exact AOps.nil rfl
      ·replace hc20:=of_false hc20 hb
       refine AOps.go [20,21,22,23,24,25,26] [] [] [0,1,2,29,42] 1 ⟨[(0,.pc 0 0),(1,tI v1),(2,tI v2),(29,tB false),(42,tB false)],[.cells 65 (c64 v3)]⟩ ?_ (zz rfl) trivial ?_
       ·kernel_rfl
       cases hc20
       exact AOps.nil rfl
     subst hJ
     refine AOps.go [27] [] [] [0,1,2,43] 1 ⟨[(0,.pc 0 0),(1,tI v1),(2,tI v2),(43,tB v9)],[.cells 65 (c64 v3)]⟩ ?_ (zz rfl) trivial ?_
     ·kernel_rfl
     cases hc14
     exact AOps.nil rfl
   subst hJ
   refine AOps.go [28] [] [] [0,1,2,15] 1 ⟨[(0,.pc 0 0),(1,tI v1),(2,tI v2),(15,tB v8)],[.cells 65 (c64 v3)]⟩ ?_ (zz rfl) trivial ?_
   ·kernel_rfl
   refine AOps.nil ?_
   refine AWp.cond rfl (fun hb=>?_) fun hb=>?_
   ·replace h:=of_true h hb
    refine AWp.keepTo [] 1 ⟨[],[.cells 65 (c64 v3)]⟩ ?_ (zz rfl) ?_
    ·kernel_rfl
    refine AWp.seq ?_
    refine AWp.start [0,1] [] [] [6,7] 1 ⟨[(6,.tv (.sc (.slice none 0 0))),(7,tI (2:Int))],[.cells 65 (c64 v3)]⟩ rfl ?_ (zz rfl) trivial ?_
    ·kernel_rfl
    refine AOps.nil ?_
    refine AWp.nilFz 6 1 (fun i=>(cInt .u8) (([]:List Int).getD i default)) rfl ?_
    refine AWp.keepTo [6,7] 1 ⟨[(6,q0 ([]:List Int)),(7,tI (2:Int))],[.cells 65 (c64 v3)]⟩ ?_ (zz rfl) ?_
    ·kernel_rfl
    refine AWp.ret ?_
    cases h
    exact ⟨.inr rfl,rfl⟩
   ·replace h:=of_false h hb
    refine AWp.keepTo [0,1,2] 1 ⟨[(0,.pc 0 0),(1,tI v1),(2,tI v2)],[.cells 65 (c64 v3)]⟩ ?_ (zz rfl) ?_
    ·kernel_rfl
    refine AWp.skip ?_
    refine AWp.seq ?_
    refine AWp.seq ?_
    refine AWp.start [0,1,2,3,4] [] [] [0,1,2,48] 1 ⟨[(0,.pc 0 0),(1,tI v1),(2,tI v2),(48,tB (v3.f0 == ([100,105,114,101,99,116]:List UInt8)))],[.cells 65 (c64 v3)]⟩ rfl ?_ (zz rfl) trivial ?_
    ·kernel_rfl
    refine AOps.nil ?_
    refine AWp.cond rfl (fun hb=>?_) fun hb=>?_
    ·replace h:=of_true h hb
     refine AWp.keepTo [0,1] 1 ⟨[(0,.pc 0 0),(1,tI v1)],[.cells 65 (c64 v3)]⟩ ?_ (zz rfl) ?_
     ·kernel_rfl
     refine AWp.seq ?_
     refine AWp.seq ?_
     refine AWp.draw FFm _ (n:=12) rfl (ls:=#[n1,n1,n1,n1,n1,n1,n1,n1,n1,n1,n1,n1]) rfl ?_ (fun _ h=>h)
     refine AAny.go (by kernel_rfl) [0,1,2,3,6,7,8] (fuel':=5) rfl [] #[y1,y1,y1,y1,n1,n1,y1,y1,y1,n1,n1,n1] [0,1,49,52,57] 1 ⟨[(0,.pc 0 0),(1,tI v1),(49,tI v1),(52,.pc 0 2),(57,.pc 0 1)],[.cells 65 (c64 v3)]⟩ ?_ (zz rfl) trivial ?_
     ·kernel_rfl
     refine AAny.goR (by kernel_rfl) (i:=4) (fuel':=4) [5,10,11] rfl (by kernel_rfl) (by kernel_rfl) [] #[y1,y1,y1,y1,y1,n1,y1,y1,y1,n1,n1,n1] rfl [0,1,49,53,57] 1 ⟨[(0,.pc 0 0),(1,tI v1),(49,tI v1),(53,q0 v3.f2),(57,.pc 0 1)],[.cells 65 (c64 v3)]⟩ ?_ (zz rfl) trivial ?_
     ·kernel_rfl
     refine AAny.go (by kernel_rfl) [5] (fuel':=3) rfl [] #[y1,y1,y1,y1,y1,y1,y1,y1,y1,n1,n1,n1] [0,1,49,54,57] 1 ⟨[(0,.pc 0 0),(1,tI v1),(49,tI v1),(54,tI (v3.f2.length:Int)),(57,.pc 0 1)],[.cells 65 (c64 v3)]⟩ ?_ (zz rfl) trivial ?_
     ·kernel_rfl
     refine AAny.step (i:=9) (fuel':=2) rfl (by kernel_rfl) [] #[y1,y1,y1,y1,y1,y1,y1,y1,y1,y1,n1,n1] rfl [0,1,49,54,58] 1 ⟨[(0,.pc 0 0),(1,tI v1),(49,tI v1),(54,tI (v3.f2.length:Int)),(58,tI v3.f1)],[.cells 65 (c64 v3)]⟩ ?_ (zz rfl) trivial ?_
     ·kernel_rfl
     obtain ⟨hg,h⟩:=of_guard h
     refine AAny.go (by kernel_rfl) [10,11] (fuel':=0) rfl [v3.f1 ≠ (0:Int)] #[y1,y1,y1,y1,y1,y1,y1,y1,y1,y1,y1,y1] [0,1,60] 1 ⟨[(0,.pc 0 0),(1,tI v1),(60,tB (decide (v1 > w64 (Int.tdiv (v3.f2.length:Int) v3.f1))))],[.cells 65 (c64 v3)]⟩ ?_ (zz rfl) hg ?_
     ·kernel_rfl
     refine AAny.keepTo [0,1,60] 1 ⟨[(0,.pc 0 0),(1,tI v1),(60,tB (decide (v1 > w64 (Int.tdiv (v3.f2.length:Int) v3.f1))))],[.cells 65 (c64 v3)]⟩ _ ?_ rfl (zz rfl) (AAny.done (by kernel_rfl) ?_)
     ·kernel_rfl
     refine AWp.cond rfl (fun hb=>?_) fun hb=>?_
     ·replace h:=of_true h hb
      refine AWp.keepTo [] 1 ⟨[],[.cells 65 (c64 v3)]⟩ ?_ (zz rfl) ?_
      ·kernel_rfl
      refine AWp.seq ?_
      refine AWp.start [0,1] [] [] [6,7] 1 ⟨[(6,.tv (.sc (.slice none 0 0))),(7,tI (5:Int))],[.cells 65 (c64 v3)]⟩ rfl ?_ (zz rfl) trivial ?_
      ·kernel_rfl
      refine AOps.nil ?_
      refine AWp.nilFz 6 1 (fun i=>(cInt .u8) (([]:List Int).getD i default)) rfl ?_
      refine AWp.keepTo [6,7] 1 ⟨[(6,q0 ([]:List Int)),(7,tI (5:Int))],[.cells 65 (c64 v3)]⟩ ?_ (zz rfl) ?_
      ·kernel_rfl
      refine AWp.ret ?_
      cases h
      exact ⟨.inr rfl,rfl⟩
     ·replace h:=of_false h hb
      refine AWp.keepTo [0,1] 1 ⟨[(0,.pc 0 0),(1,tI v1)],[.cells 65 (c64 v3)]⟩ ?_ (zz rfl) ?_
      ·kernel_rfl
      refine AWp.skip ?_
      refine AWp.seq ?_
      refine AWp.draw FFm _ (n:=21) rfl (ls:=#[n1,n1,n1,n1,n1,n1,n1,n1,n1,n1,n1,n1,n1,n1,n1,n1,n1,n1,n1,n1,n1]) rfl ?_ (fun _ h=>h)
      refine AAny.go (by kernel_rfl) [0,1,2,4,5,6,7,8,11,12,13,14] (fuel':=9) rfl [] #[y1,y1,y1,n1,y1,y1,y1,y1,y1,n1,n1,y1,y1,y1,y1,n1,n1,n1,n1,n1,n1] [63,66,69,72,75] 1 ⟨[(63,.pc 0 2),(66,tI (w64 (v1 - (1:Int)))),(69,.pc 0 1),(72,tI v1),(75,.pc 0 1)],[.cells 65 (c64 v3)]⟩ ?_ (zz rfl) trivial ?_
      ·kernel_rfl
      obtain ⟨hd4,h⟩:=of_guard h
      refine AAny.share 3 #[y1,y1,y1,y1,y1,y1,y1,y1,y1,y1,y1,y1,y1,y1,y1,y1,y1,y1,n1,n1,n1] ⟨[(78,q0 ((v3.f2.take (Int.toNat (w64 (v1 * v3.f1)))).drop (Int.toNat (w64 ((w64 (v1 - (1:Int))) * v3.f1)))))],[.cells 65 (c64 v3)]⟩ ?_ fun n6_=>?_
      ·obtain ⟨v11,hv11,h⟩:=of_bind h
       refine AAny.serial (i:=18) (fuel:=2) (by kernel_rfl) (AOne.callP (F:=(FF 117 1)) _ rfl rfl rfl _ rfl rfl _ _ rfl Try.call37 [q0 ((v3.f2.take (Int.toNat (w64 (v1 * v3.f1)))).drop (Int.toNat (w64 ((w64 (v1 - (1:Int))) * v3.f1))))] rfl rfl (f37_ok ((v3.f2.take (Int.toNat (w64 (v1 * v3.f1)))).drop (Int.toNat (w64 ((w64 (v1 - (1:Int))) * v3.f1)))) hv11) rfl) ?_
       refine AAny.keepTo [79] 1 ⟨[(79,q1 v11)],[.cells 65 (c64 v3)]⟩ #[y1,y1,y1,y1,y1,y1,y1,y1,y1,y1,y1,y1,y1,y1,y1,y1,y1,y1,y1,n1,n1] ?_ rfl (zz rfl) ?_
       ·kernel_rfl
       refine AAny.step (i:=19) (fuel':=1) rfl (by kernel_rfl) [] #[y1,y1,y1,y1,y1,y1,y1,y1,y1,y1,y1,y1,y1,y1,y1,y1,y1,y1,y1,y1,n1] rfl [6] 1 ⟨[(6,q1 v11)],[.cells 65 (c64 v3)]⟩ ?_ (zz rfl) trivial ?_
       ·kernel_rfl
       refine AAny.go (by kernel_rfl) [20] (fuel':=0) rfl [] #[y1,y1,y1,y1,y1,y1,y1,y1,y1,y1,y1,y1,y1,y1,y1,y1,y1,y1,y1,y1,y1] [6,7] 1 ⟨[(6,q1 v11),(7,tI (0:Int))],[.cells 65 (c64 v3)]⟩ ?_ (zz rfl) trivial ?_
       ·kernel_rfl
       refine AAny.keepTo [6,7] 1 ⟨[(6,q1 v11),(7,tI (0:Int))],[.cells 65 (c64 v3)]⟩ _ ?_ rfl (zz rfl) (AAny.done (by kernel_rfl) ?_)
       ·kernel_rfl
       refine AWp.freezeL 6 (cInt .u8) v11 rfl (fun _=>rfl) ?_
       refine AWp.keepTo [6,7] 1 ⟨[(6,q0 v11),(7,tI (0:Int))],[.cells 65 (c64 v3)]⟩ ?_ (zz rfl) ?_
       ·kernel_rfl
       refine AWp.ret ?_
       cases h
       exact ⟨.inr rfl,rfl⟩
      refine AAny.share 5 #[y1,y1,y1,n1,y1,y1,y1,y1,y1,y1,y1,y1,y1,y1,y1,y1,y1,n1,n1,n1,n1] ⟨[(63,.pc 0 2),(71,tI (w64 ((w64 (v1 - (1:Int))) * v3.f1))),(77,tI (w64 (v1 * v3.f1)))],[.cells 65 (c64 v3)]⟩ ?_ fun n5_=>?_
      ·refine AAny.each [3] (by kernel_rfl) rfl ?_
       refine AEach.step (i:=3) [] #[y1,y1,y1,y1,y1,y1,y1,y1,y1,y1,y1,y1,y1,y1,y1,y1,y1,n1,n1,n1,n1] rfl [64,71,77] 1 ⟨[(64,q0 v3.f2),(71,tI (w64 ((w64 (v1 - (1:Int))) * v3.f1))),(77,tI (w64 (v1 * v3.f1)))],[.cells 65 (c64 v3)]⟩ ?_ (zz rfl) trivial ?_ ?_
       ·kernel_rfl
       ·refine AAny.go (by kernel_rfl) [17] (fuel':=3) rfl [(0:Int) ≤ w64 ((w64 (v1 - (1:Int))) * v3.f1),w64 ((w64 (v1 - (1:Int))) * v3.f1) ≤ w64 (v1 * v3.f1),w64 (v1 * v3.f1) ≤ (v3.f2.length:Int)] #[y1,y1,y1,y1,y1,y1,y1,y1,y1,y1,y1,y1,y1,y1,y1,y1,y1,y1,n1,n1,n1] [78] 1 ⟨[(78,.tv (.fz 1 ((Int.toNat (w64 (v1 * v3.f1))) - (Int.toNat (w64 ((w64 (v1 - (1:Int))) * v3.f1)))) (fun i=>(cInt .u8) (v3.f2.getD ((Int.toNat (w64 ((w64 (v1 - (1:Int))) * v3.f1))) + i) default))))],[.cells 65 (c64 v3)]⟩ ?_ (zz rfl) ⟨hd4.1,hd4.2.1,hd4.2.2⟩ ?_
        ·kernel_rfl
        have hb:(Int.toNat (w64 (v1 * v3.f1))) ≤ v3.f2.length:=by have hh:w64 (v1 * v3.f1) ≤ (v3.f2.length:Int):=hd4.2.2; omega
        refine AAny.extFzL (s:=78) rfl (sub_len v3.f2 (Int.toNat (w64 ((w64 (v1 - (1:Int))) * v3.f1))) (Int.toNat (w64 (v1 * v3.f1))) hb) (sub_at (cInt .u8) v3.f2 (Int.toNat (w64 ((w64 (v1 - (1:Int))) * v3.f1))) (Int.toNat (w64 (v1 * v3.f1))) hb) ?_
        refine AAny.keepTo [78] 1 ⟨[(78,q0 ((v3.f2.take (Int.toNat (w64 (v1 * v3.f1)))).drop (Int.toNat (w64 ((w64 (v1 - (1:Int))) * v3.f1)))))],[.cells 65 (c64 v3)]⟩ #[y1,y1,y1,y1,y1,y1,y1,y1,y1,y1,y1,y1,y1,y1,y1,y1,y1,y1,n1,n1,n1] ?_ rfl (zz rfl) ?_
        ·kernel_rfl
        exact n6_
       exact AEach.nil
      refine AAny.share 6 #[y1,y1,y1,y1,y1,y1,y1,y1,y1,n1,n1,y1,y1,y1,y1,y1,y1,n1,n1,n1,n1] ⟨[(64,q0 v3.f2),(66,tI (w64 (v1 - (1:Int)))),(69,.pc 0 1),(77,tI (w64 (v1 * v3.f1)))],[.cells 65 (c64 v3)]⟩ ?_ fun n4_=>?_
      ·refine AAny.each [9] (by kernel_rfl) rfl ?_
       refine AEach.step (i:=9) [] #[y1,y1,y1,y1,y1,y1,y1,y1,y1,y1,n1,y1,y1,y1,y1,y1,y1,n1,n1,n1,n1] rfl [64,66,70,77] 1 ⟨[(64,q0 v3.f2),(66,tI (w64 (v1 - (1:Int)))),(70,tI v3.f1),(77,tI (w64 (v1 * v3.f1)))],[.cells 65 (c64 v3)]⟩ ?_ (zz rfl) trivial ?_ ?_
       ·kernel_rfl
       ·refine AAny.go (by kernel_rfl) [10,17] (fuel':=3) rfl [(0:Int) ≤ w64 ((w64 (v1 - (1:Int))) * v3.f1),w64 ((w64 (v1 - (1:Int))) * v3.f1) ≤ w64 (v1 * v3.f1),w64 (v1 * v3.f1) ≤ (v3.f2.length:Int)] #[y1,y1,y1,y1,y1,y1,y1,y1,y1,y1,y1,y1,y1,y1,y1,y1,y1,y1,n1,n1,n1] [78] 1 ⟨[(78,.tv (.fz 1 ((Int.toNat (w64 (v1 * v3.f1))) - (Int.toNat (w64 ((w64 (v1 - (1:Int))) * v3.f1)))) (fun i=>(cInt .u8) (v3.f2.getD ((Int.toNat (w64 ((w64 (v1 - (1:Int))) * v3.f1))) + i) default))))],[.cells 65 (c64 v3)]⟩ ?_ (zz rfl) ⟨hd4.1,hd4.2.1,hd4.2.2⟩ ?_
        ·kernel_rfl
        have hb:(Int.toNat (w64 (v1 * v3.f1))) ≤ v3.f2.length:=by have hh:w64 (v1 * v3.f1) ≤ (v3.f2.length:Int):=hd4.2.2; omega
        refine AAny.extFzL (s:=78) rfl (sub_len v3.f2 (Int.toNat (w64 ((w64 (v1 - (1:Int))) * v3.f1))) (Int.toNat (w64 (v1 * v3.f1))) hb) (sub_at (cInt .u8) v3.f2 (Int.toNat (w64 ((w64 (v1 - (1:Int))) * v3.f1))) (Int.toNat (w64 (v1 * v3.f1))) hb) ?_
        refine AAny.keepTo [78] 1 ⟨[(78,q0 ((v3.f2.take (Int.toNat (w64 (v1 * v3.f1)))).drop (Int.toNat (w64 ((w64 (v1 - (1:Int))) * v3.f1)))))],[.cells 65 (c64 v3)]⟩ #[y1,y1,y1,y1,y1,y1,y1,y1,y1,y1,y1,y1,y1,y1,y1,y1,y1,y1,n1,n1,n1] ?_ rfl (zz rfl) ?_
        ·kernel_rfl
        exact n6_
       exact AEach.nil
      refine AAny.share 6 #[y1,y1,y1,y1,y1,y1,y1,y1,y1,y1,y1,y1,y1,y1,y1,n1,n1,n1,n1,n1,n1] ⟨[(64,q0 v3.f2),(71,tI (w64 ((w64 (v1 - (1:Int))) * v3.f1))),(72,tI v1),(75,.pc 0 1)],[.cells 65 (c64 v3)]⟩ ?_ fun n7_=>?_
      ·refine AAny.each [15] (by kernel_rfl) rfl ?_
       refine AEach.step (i:=15) [] #[y1,y1,y1,y1,y1,y1,y1,y1,y1,y1,y1,y1,y1,y1,y1,y1,n1,n1,n1,n1,n1] rfl [64,71,72,76] 1 ⟨[(64,q0 v3.f2),(71,tI (w64 ((w64 (v1 - (1:Int))) * v3.f1))),(72,tI v1),(76,tI v3.f1)],[.cells 65 (c64 v3)]⟩ ?_ (zz rfl) trivial ?_ ?_
       ·kernel_rfl
       ·refine AAny.go (by kernel_rfl) [16,17] (fuel':=3) rfl [(0:Int) ≤ w64 ((w64 (v1 - (1:Int))) * v3.f1),w64 ((w64 (v1 - (1:Int))) * v3.f1) ≤ w64 (v1 * v3.f1),w64 (v1 * v3.f1) ≤ (v3.f2.length:Int)] #[y1,y1,y1,y1,y1,y1,y1,y1,y1,y1,y1,y1,y1,y1,y1,y1,y1,y1,n1,n1,n1] [78] 1 ⟨[(78,.tv (.fz 1 ((Int.toNat (w64 (v1 * v3.f1))) - (Int.toNat (w64 ((w64 (v1 - (1:Int))) * v3.f1)))) (fun i=>(cInt .u8) (v3.f2.getD ((Int.toNat (w64 ((w64 (v1 - (1:Int))) * v3.f1))) + i) default))))],[.cells 65 (c64 v3)]⟩ ?_ (zz rfl) ⟨hd4.1,hd4.2.1,hd4.2.2⟩ ?_
        ·kernel_rfl
        have hb:(Int.toNat (w64 (v1 * v3.f1))) ≤ v3.f2.length:=by have hh:w64 (v1 * v3.f1) ≤ (v3.f2.length:Int):=hd4.2.2; omega
        refine AAny.extFzL (s:=78) rfl (sub_len v3.f2 (Int.toNat (w64 ((w64 (v1 - (1:Int))) * v3.f1))) (Int.toNat (w64 (v1 * v3.f1))) hb) (sub_at (cInt .u8) v3.f2 (Int.toNat (w64 ((w64 (v1 - (1:Int))) * v3.f1))) (Int.toNat (w64 (v1 * v3.f1))) hb) ?_
        refine AAny.keepTo [78] 1 ⟨[(78,q0 ((v3.f2.take (Int.toNat (w64 (v1 * v3.f1)))).drop (Int.toNat (w64 ((w64 (v1 - (1:Int))) * v3.f1)))))],[.cells 65 (c64 v3)]⟩ #[y1,y1,y1,y1,y1,y1,y1,y1,y1,y1,y1,y1,y1,y1,y1,y1,y1,y1,n1,n1,n1] ?_ rfl (zz rfl) ?_
        ·kernel_rfl
        exact n6_
       exact AEach.nil
      refine AAny.share 7 #[y1,y1,y1,n1,y1,y1,y1,y1,y1,n1,n1,y1,y1,y1,y1,y1,y1,n1,n1,n1,n1] ⟨[(63,.pc 0 2),(66,tI (w64 (v1 - (1:Int)))),(69,.pc 0 1),(77,tI (w64 (v1 * v3.f1)))],[.cells 65 (c64 v3)]⟩ ?_ fun n3_=>?_
      ·refine AAny.each [3,9] (by kernel_rfl) rfl ?_
       refine AEach.step (i:=3) [] #[y1,y1,y1,y1,y1,y1,y1,y1,y1,n1,n1,y1,y1,y1,y1,y1,y1,n1,n1,n1,n1] rfl [64,66,69,77] 1 ⟨[(64,q0 v3.f2),(66,tI (w64 (v1 - (1:Int)))),(69,.pc 0 1),(77,tI (w64 (v1 * v3.f1)))],[.cells 65 (c64 v3)]⟩ ?_ (zz rfl) trivial ?_ ?_
       ·kernel_rfl
       ·exact n4_
       refine AEach.step (i:=9) [] #[y1,y1,y1,n1,y1,y1,y1,y1,y1,y1,n1,y1,y1,y1,y1,y1,y1,n1,n1,n1,n1] rfl [63,66,70,77] 1 ⟨[(63,.pc 0 2),(66,tI (w64 (v1 - (1:Int)))),(70,tI v3.f1),(77,tI (w64 (v1 * v3.f1)))],[.cells 65 (c64 v3)]⟩ ?_ (zz rfl) trivial ?_ ?_
       ·kernel_rfl
       ·refine AAny.go (by kernel_rfl) [10] (fuel':=5) rfl [] #[y1,y1,y1,n1,y1,y1,y1,y1,y1,y1,y1,y1,y1,y1,y1,y1,y1,n1,n1,n1,n1] [63,71,77] 1 ⟨[(63,.pc 0 2),(71,tI (w64 ((w64 (v1 - (1:Int))) * v3.f1))),(77,tI (w64 (v1 * v3.f1)))],[.cells 65 (c64 v3)]⟩ ?_ (zz rfl) trivial ?_
        ·kernel_rfl
        exact n5_
       exact AEach.nil
      refine AAny.share 7 #[y1,y1,y1,n1,y1,y1,y1,y1,y1,y1,y1,y1,y1,y1,y1,n1,n1,n1,n1,n1,n1] ⟨[(63,.pc 0 2),(71,tI (w64 ((w64 (v1 - (1:Int))) * v3.f1))),(72,tI v1),(75,.pc 0 1)],[.cells 65 (c64 v3)]⟩ ?_ fun n2_=>?_
      ·refine AAny.each [3,15] (by kernel_rfl) rfl ?_
       refine AEach.step (i:=3) [] #[y1,y1,y1,y1,y1,y1,y1,y1,y1,y1,y1,y1,y1,y1,y1,n1,n1,n1,n1,n1,n1] rfl [64,71,72,75] 1 ⟨[(64,q0 v3.f2),(71,tI (w64 ((w64 (v1 - (1:Int))) * v3.f1))),(72,tI v1),(75,.pc 0 1)],[.cells 65 (c64 v3)]⟩ ?_ (zz rfl) trivial ?_ ?_
       ·kernel_rfl
       ·exact n7_
       refine AEach.step (i:=15) [] #[y1,y1,y1,n1,y1,y1,y1,y1,y1,y1,y1,y1,y1,y1,y1,y1,n1,n1,n1,n1,n1] rfl [63,71,72,76] 1 ⟨[(63,.pc 0 2),(71,tI (w64 ((w64 (v1 - (1:Int))) * v3.f1))),(72,tI v1),(76,tI v3.f1)],[.cells 65 (c64 v3)]⟩ ?_ (zz rfl) trivial ?_ ?_
       ·kernel_rfl
       ·refine AAny.go (by kernel_rfl) [16] (fuel':=5) rfl [] #[y1,y1,y1,n1,y1,y1,y1,y1,y1,y1,y1,y1,y1,y1,y1,y1,y1,n1,n1,n1,n1] [63,71,77] 1 ⟨[(63,.pc 0 2),(71,tI (w64 ((w64 (v1 - (1:Int))) * v3.f1))),(77,tI (w64 (v1 * v3.f1)))],[.cells 65 (c64 v3)]⟩ ?_ (zz rfl) trivial ?_
        ·kernel_rfl
        exact n5_
       exact AEach.nil
      refine AAny.share 8 #[y1,y1,y1,y1,y1,y1,y1,y1,y1,n1,n1,y1,y1,y1,y1,n1,n1,n1,n1,n1,n1] ⟨[(64,q0 v3.f2),(66,tI (w64 (v1 - (1:Int)))),(69,.pc 0 1),(72,tI v1),(75,.pc 0 1)],[.cells 65 (c64 v3)]⟩ ?_ fun n1_=>?_
      ·refine AAny.each [9,15] (by kernel_rfl) rfl ?_
       refine AEach.step (i:=9) [] #[y1,y1,y1,y1,y1,y1,y1,y1,y1,y1,n1,y1,y1,y1,y1,n1,n1,n1,n1,n1,n1] rfl [64,66,70,72,75] 1 ⟨[(64,q0 v3.f2),(66,tI (w64 (v1 - (1:Int)))),(70,tI v3.f1),(72,tI v1),(75,.pc 0 1)],[.cells 65 (c64 v3)]⟩ ?_ (zz rfl) trivial ?_ ?_
       ·kernel_rfl
       ·refine AAny.go (by kernel_rfl) [10] (fuel':=6) rfl [] #[y1,y1,y1,y1,y1,y1,y1,y1,y1,y1,y1,y1,y1,y1,y1,n1,n1,n1,n1,n1,n1] [64,71,72,75] 1 ⟨[(64,q0 v3.f2),(71,tI (w64 ((w64 (v1 - (1:Int))) * v3.f1))),(72,tI v1),(75,.pc 0 1)],[.cells 65 (c64 v3)]⟩ ?_ (zz rfl) trivial ?_
        ·kernel_rfl
        exact n7_
       refine AEach.step (i:=15) [] #[y1,y1,y1,y1,y1,y1,y1,y1,y1,n1,n1,y1,y1,y1,y1,y1,n1,n1,n1,n1,n1] rfl [64,66,69,72,76] 1 ⟨[(64,q0 v3.f2),(66,tI (w64 (v1 - (1:Int)))),(69,.pc 0 1),(72,tI v1),(76,tI v3.f1)],[.cells 65 (c64 v3)]⟩ ?_ (zz rfl) trivial ?_ ?_
       ·kernel_rfl
       ·refine AAny.go (by kernel_rfl) [16] (fuel':=6) rfl [] #[y1,y1,y1,y1,y1,y1,y1,y1,y1,n1,n1,y1,y1,y1,y1,y1,y1,n1,n1,n1,n1] [64,66,69,77] 1 ⟨[(64,q0 v3.f2),(66,tI (w64 (v1 - (1:Int)))),(69,.pc 0 1),(77,tI (w64 (v1 * v3.f1)))],[.cells 65 (c64 v3)]⟩ ?_ (zz rfl) trivial ?_
        ·kernel_rfl
        exact n4_
       exact AEach.nil
      refine AAny.each [3,9,15] (by kernel_rfl) rfl ?_
      refine AEach.step (i:=3) [] #[y1,y1,y1,y1,y1,y1,y1,y1,y1,n1,n1,y1,y1,y1,y1,n1,n1,n1,n1,n1,n1] rfl [64,66,69,72,75] 1 ⟨[(64,q0 v3.f2),(66,tI (w64 (v1 - (1:Int)))),(69,.pc 0 1),(72,tI v1),(75,.pc 0 1)],[.cells 65 (c64 v3)]⟩ ?_ (zz rfl) trivial ?_ ?_
      ·kernel_rfl
      ·exact n1_
      refine AEach.step (i:=9) [] #[y1,y1,y1,n1,y1,y1,y1,y1,y1,y1,n1,y1,y1,y1,y1,n1,n1,n1,n1,n1,n1] rfl [63,66,70,72,75] 1 ⟨[(63,.pc 0 2),(66,tI (w64 (v1 - (1:Int)))),(70,tI v3.f1),(72,tI v1),(75,.pc 0 1)],[.cells 65 (c64 v3)]⟩ ?_ (zz rfl) trivial ?_ ?_
      ·kernel_rfl
      ·refine AAny.go (by kernel_rfl) [10] (fuel':=7) rfl [] #[y1,y1,y1,n1,y1,y1,y1,y1,y1,y1,y1,y1,y1,y1,y1,n1,n1,n1,n1,n1,n1] [63,71,72,75] 1 ⟨[(63,.pc 0 2),(71,tI (w64 ((w64 (v1 - (1:Int))) * v3.f1))),(72,tI v1),(75,.pc 0 1)],[.cells 65 (c64 v3)]⟩ ?_ (zz rfl) trivial ?_
       ·kernel_rfl
       exact n2_
      refine AEach.step (i:=15) [] #[y1,y1,y1,n1,y1,y1,y1,y1,y1,n1,n1,y1,y1,y1,y1,y1,n1,n1,n1,n1,n1] rfl [63,66,69,72,76] 1 ⟨[(63,.pc 0 2),(66,tI (w64 (v1 - (1:Int)))),(69,.pc 0 1),(72,tI v1),(76,tI v3.f1)],[.cells 65 (c64 v3)]⟩ ?_ (zz rfl) trivial ?_ ?_
      ·kernel_rfl
      ·refine AAny.go (by kernel_rfl) [16] (fuel':=7) rfl [] #[y1,y1,y1,n1,y1,y1,y1,y1,y1,n1,n1,y1,y1,y1,y1,y1,y1,n1,n1,n1,n1] [63,66,69,77] 1 ⟨[(63,.pc 0 2),(66,tI (w64 (v1 - (1:Int)))),(69,.pc 0 1),(77,tI (w64 (v1 * v3.f1)))],[.cells 65 (c64 v3)]⟩ ?_ (zz rfl) trivial ?_
       ·kernel_rfl
       exact n3_
      exact AEach.nil
    ·replace h:=of_false h hb
     refine AWp.keepTo [0,1,2] 1 ⟨[(0,.pc 0 0),(1,tI v1),(2,tI v2)],[.cells 65 (c64 v3)]⟩ ?_ (zz rfl) ?_
     ·kernel_rfl
     refine AWp.skip ?_
     refine AWp.seq ?_
     refine AWp.start [0,1] [2,3] [] [0,2,80,81] 1 ⟨[(0,.pc 0 0),(2,tI v2),(80,.pc 0 0),(81,tI v1)],[.cells 65 (c64 v3)]⟩ rfl ?_ (zz rfl) trivial ?_
     ·kernel_rfl
     obtain ⟨v12,hv12,h⟩:=of_bind h
     refine AOps.cons (AOne.callR (F:=(FF 117 1)) _ rfl rfl rfl _ rfl rfl _ _ rfl Try.call45 [] [.rp (c64 v3),tI v1] rfl trivial (f45_ok v3 v1 hv12) (ind_of rfl) rfl) ?_
     refine AOps.go [3] [] [] [0,2,8] 1 ⟨[(0,.pc 0 0),(2,tI v2),(8,tI v12)],[.cells 65 (c64 v3)]⟩ ?_ (zz rfl) trivial ?_
     ·kernel_rfl
     refine AOps.nil ?_
     refine AWp.seq ?_
     refine AWp.seq ?_
     refine AWp.start [0,1,2,3,4,5,6,7] [8,9,10,11,12,13,14,15,16,17] [] [0,2,8,90] 1 ⟨[(0,.pc 0 0),(2,tI v2),(8,tI v12),(90,tB (decide (v12 > (v3.f2.length:Int))))],[.cells 65 (c64 v3)]⟩ rfl ?_ (zz rfl) trivial ?_
     ·kernel_rfl
     obtain ⟨v13,hc8,h⟩:=of_bind h
     refine AOps.cut [8,9,10,11,12,13,14,15,16,17] [] (fun σ=>σ = ⟨[(0,.pc 0 0),(2,tI v2),(8,tI v12),(100,tB v13)],[.cells 65 (c64 v3)]⟩) ?_ fun σ' hJ=>?_
     ·refine AOps.split (fun b=>⟨[(0,.pc 0 0),(2,tI v2),(8,tI v12),(90,tB b)],[.cells 65 (c64 v3)]⟩) _ (fun hb=>?_) fun hb=>?_
      ·replace hc8:=of_true hc8 hb
       refine AOps.go [8,9,10,11,12,13,14,15,16,17] [] [] [0,2,8,100] 1 ⟨[(0,.pc 0 0),(2,tI v2),(8,tI v12),(100,tB true)],[.cells 65 (c64 v3)]⟩ ?_ (zz rfl) trivial ?_
       ·kernel_rfl
       cases hc8
       exact AOps.nil rfl
      ·replace hc8:=of_false hc8 hb
       refine AOps.go [8,9,10,11,12,13,14,15,16,17] [] [] [0,2,8,100] 1 ⟨[(0,.pc 0 0),(2,tI v2),(8,tI v12),(100,tB (decide (v2 > w64 ((v3.f2.length:Int) - v12))))],[.cells 65 (c64 v3)]⟩ ?_ (zz rfl) trivial ?_
       ·kernel_rfl
       cases hc8
       exact AOps.nil rfl
     subst hJ
     refine AOps.nil ?_
     refine AWp.cond rfl (fun hb=>?_) fun hb=>?_
     ·replace h:=of_true h hb
      refine AWp.keepTo [] 1 ⟨[],[.cells 65 (c64 v3)]⟩ ?_ (zz rfl) ?_
      ·kernel_rfl
      refine AWp.seq ?_
      refine AWp.start [0,1] [] [] [6,7] 1 ⟨[(6,.tv (.sc (.slice none 0 0))),(7,tI (6:Int))],[.cells 65 (c64 v3)]⟩ rfl ?_ (zz rfl) trivial ?_
      ·kernel_rfl
      refine AOps.nil ?_
      refine AWp.nilFz 6 1 (fun i=>(cInt .u8) (([]:List Int).getD i default)) rfl ?_
      refine AWp.keepTo [6,7] 1 ⟨[(6,q0 ([]:List Int)),(7,tI (6:Int))],[.cells 65 (c64 v3)]⟩ ?_ (zz rfl) ?_
      ·kernel_rfl
      refine AWp.ret ?_
      cases h
      exact ⟨.inr rfl,rfl⟩
     ·replace h:=of_false h hb
      refine AWp.keepTo [0,2,8] 1 ⟨[(0,.pc 0 0),(2,tI v2),(8,tI v12)],[.cells 65 (c64 v3)]⟩ ?_ (zz rfl) ?_
      ·kernel_rfl
      refine AWp.skip ?_
      refine AWp.seq ?_
      refine AWp.start [0,1,2,3,4,5,6] [] [] [0,2,8] 1 ⟨[(0,.pc 0 0),(2,tI v2),(8,tI v12)],[.cells 65 [.str v3.f0,.int .i64 v3.f1,k0 v3.f2,.int .i64 (w64 (v12 + v2)),.bool v3.f4]]⟩ rfl ?_ (zz rfl) trivial ?_
      ·kernel_rfl
      refine AOps.nil ?_
      refine AWp.seq ?_
      obtain ⟨hg,h⟩:=of_guard h
      refine AWp.start [0,1,2,3,4,5,6,7,8] [9,10,11] [(0:Int) ≤ v12,v12 ≤ w64 (v12 + v2),w64 (v12 + v2) ≤ (v3.f2.length:Int)] [115] 1 ⟨[(115,.tv (.fz 1 ((Int.toNat (w64 (v12 + v2))) - v12.toNat) (fun i=>(cInt .u8) (v3.f2.getD (v12.toNat + i) default))))],[.cells 65 [.str v3.f0,.int .i64 v3.f1,k0 v3.f2,.int .i64 (w64 (v12 + v2)),.bool v3.f4]]⟩ rfl ?_ (zz rfl) ⟨hg.1,hg.2.1,hg.2.2⟩ ?_
      ·kernel_rfl
      have hb:(Int.toNat (w64 (v12 + v2))) ≤ v3.f2.length:=by have hh:w64 (v12 + v2) ≤ (v3.f2.length:Int):=hg.2.2; omega
      refine AOps.extFzL (s:=115) rfl (sub_len v3.f2 v12.toNat (Int.toNat (w64 (v12 + v2))) hb) (sub_at (cInt .u8) v3.f2 v12.toNat (Int.toNat (w64 (v12 + v2))) hb) ?_
      obtain ⟨v14,hv14,h⟩:=of_bind h
      refine AOps.cons (AOne.callP (F:=(FF 117 1)) _ rfl rfl rfl _ rfl rfl _ _ rfl Try.call37 [q0 ((v3.f2.take (Int.toNat (w64 (v12 + v2)))).drop v12.toNat)] rfl rfl (f37_ok ((v3.f2.take (Int.toNat (w64 (v12 + v2)))).drop v12.toNat) hv14) rfl) ?_
      refine AOps.go [10,11] [] [] [6,7] 1 ⟨[(6,q1 v14),(7,tI (0:Int))],[.cells 65 [.str v3.f0,.int .i64 v3.f1,k0 v3.f2,.int .i64 (w64 (v12 + v2)),.bool v3.f4]]⟩ ?_ (zz rfl) trivial ?_
      ·kernel_rfl
      refine AOps.nil ?_
      refine AWp.freezeL 6 (cInt .u8) v14 rfl (fun _=>rfl) ?_
      refine AWp.keepTo [6,7] 1 ⟨[(6,q0 v14),(7,tI (0:Int))],[.cells 65 [.str v3.f0,.int .i64 v3.f1,k0 v3.f2,.int .i64 (w64 (v12 + v2)),.bool v3.f4]]⟩ ?_ (zz rfl) ?_
      ·kernel_rfl
      refine AWp.ret ?_
      cases h
      exact ⟨.inr rfl,rfl⟩

noncomputable def f20o (v1:T64):Option (Int × T64) :=
 (f41 v1).bind fun v2=>cond v2 (some ((7:Int),v1)) (some ((0:Int),T64.mk v1.f0 v1.f1 v1.f2 (0:Int) false))

theorem f20o_ok (v1:T64) {r:Int × T64} (h:f20o v1 = some r):ACall Try.prog 20 [.pc 0 0] [.cells 65 [.str v1.f0,.int .i64 v1.f1,fzL 1 (cInt .u8) v1.f2,.int .i64 v1.f3,.bool v1.f4]] (.tv (.int .i64 r.1)) [.cells 65 [.str r.2.f0,.int .i64 r.2.f1,fzL 1 (cInt .u8) r.2.f2,.int .i64 r.2.f3,.bool r.2.f4]]:=by
 refine ACall.of1 (FF 11 1) Try.func20 rfl Try.ntmps20 Try.results20 (zz rfl) rfl rfl ?_
 refine AWp.seq ?_
 refine AWp.start [0] [] [] [0] 1 ⟨[(0,.pc 0 0)],[.cells 65 (c64 v1)]⟩ rfl ?_ (zz rfl) trivial ?_
 ·kernel_rfl
 refine AOps.nil ?_
 refine AWp.seq ?_
 refine AWp.seq ?_
 refine AWp.start [0] [1] [] [0,3] 1 ⟨[(0,.pc 0 0),(3,.pc 0 0)],[.cells 65 (c64 v1)]⟩ rfl ?_ (zz rfl) trivial ?_
 ·kernel_rfl
 obtain ⟨v2,hv2,h⟩:=of_bind h
 refine AOps.cons (AOne.callR (F:=(FF 11 1)) _ rfl rfl rfl _ rfl rfl _ _ rfl Try.call41 [] [.rp (c64 v1)] rfl trivial (f41_ok v1 hv2) (ind_of rfl) rfl) ?_
 refine AOps.keepTo [0,4] 1 ⟨[(0,.pc 0 0),(4,tB v2)],[.cells 65 (c64 v1)]⟩ ?_ (zz rfl) ?_
 ·kernel_rfl
 refine AOps.nil ?_
 refine AWp.cond rfl (fun hb=>?_) fun hb=>?_
 ·replace h:=of_true h hb
  refine AWp.keepTo [] 1 ⟨[],[.cells 65 (c64 v1)]⟩ ?_ (zz rfl) ?_
  ·kernel_rfl
  refine AWp.seq ?_
  refine AWp.start [0] [] [] [2] 1 ⟨[(2,tI (7:Int))],[.cells 65 (c64 v1)]⟩ rfl ?_ (zz rfl) trivial ?_
  ·kernel_rfl
  refine AOps.nil ?_
  refine AWp.ret ?_
  cases h
  exact ⟨.inr rfl,rfl⟩
 ·replace h:=of_false h hb
  refine AWp.keepTo [0] 1 ⟨[(0,.pc 0 0)],[.cells 65 (c64 v1)]⟩ ?_ (zz rfl) ?_
  ·kernel_rfl
  refine AWp.skip ?_
  refine AWp.seq ?_
  refine AWp.start [0,1,2,3,4,5,6,7] [] [] [] 1 ⟨[],[.cells 65 [.str v1.f0,.int .i64 v1.f1,k0 v1.f2,.int .i64 (0:Int),.bool false]]⟩ rfl ?_ (zz rfl) trivial ?_
  ·kernel_rfl
  refine AOps.nil ?_
  refine AWp.seq ?_
  refine AWp.start [0] [] [] [2] 1 ⟨[(2,tI (0:Int))],[.cells 65 [.str v1.f0,.int .i64 v1.f1,k0 v1.f2,.int .i64 (0:Int),.bool false]]⟩ rfl ?_ (zz rfl) trivial ?_
  ·kernel_rfl
  refine AOps.nil ?_
  refine AWp.ret ?_
  cases h
  exact ⟨.inr rfl,rfl⟩

noncomputable def f23o_j1 (v1:T64) (v4:Int):Option (Int × T64) :=
 some ((0:Int),T64.mk v1.f0 v1.f1 v1.f2 v4 v1.f4)

noncomputable def f23o (v1:T64):Option (Int × T64) :=
 (f41 v1).bind fun v2=>cond v2 (some ((7:Int),v1)) ((f42 v1).bind fun v3=>cond (!v3) (some ((110:Int),v1)) (cond v1.f4 (some ((0:Int),T64.mk v1.f0 v1.f1 v1.f2 v1.f3 false)) (if (0:Int) ≤ v1.f3 ∧ v1.f3 ≤ (v1.f2.length:Int) then (f35 v1.f0 ((v1.f2.take (Int.toNat v1.f3)).drop 0)).bind fun v5=>cond (decide ((v5.1.length:Int) > (0:Int))) (if (0:Int) ≤ w64 ((v5.1.length:Int) - (1:Int)) ∧ w64 ((v5.1.length:Int) - (1:Int)) < (v5.1.length:Int) then f23o_j1 v1 (v5.1.getD (Int.toNat (w64 ((v5.1.length:Int) - (1:Int)))) default) else none) (f23o_j1 v1 v1.f3) else none)))

theorem f23o_ok (v1:T64) {r:Int × T64} (h:f23o v1 = some r):ACall Try.prog 23 [.pc 0 0] [.cells 65 [.str v1.f0,.int .i64 v1.f1,fzL 1 (cInt .u8) v1.f2,.int .i64 v1.f3,.bool v1.f4]] (.tv (.int .i64 r.1)) [.cells 65 [.str r.2.f0,.int .i64 r.2.f1,fzL 1 (cInt .u8) r.2.f2,.int .i64 r.2.f3,.bool r.2.f4]]:=by
 refine ACall.of1 (FF 49 1) Try.func23 rfl Try.ntmps23 Try.results23 (zz rfl) rfl rfl ?_
 refine AWp.seq ?_
 refine AWp.start [0] [] [] [0] 1 ⟨[(0,.pc 0 0)],[.cells 65 (c64 v1)]⟩ rfl ?_ (zz rfl) trivial ?_
 ·kernel_rfl
 refine AOps.nil ?_
 refine AWp.seq ?_
 refine AWp.block ?_
 refine AWp.seq ?_
 refine AWp.start [0] [1,2] [] [0,6] 1 ⟨[(0,.pc 0 0),(6,.pc 0 0)],[.cells 65 (c64 v1)]⟩ rfl ?_ (zz rfl) trivial ?_
 ·kernel_rfl
 obtain ⟨v2,hv2,h⟩:=of_bind h
 refine AOps.cons (AOne.callR (F:=(FF 49 1)) _ rfl rfl rfl _ rfl rfl _ _ rfl Try.call41 [] [.rp (c64 v1)] rfl trivial (f41_ok v1 hv2) (ind_of rfl) rfl) ?_
 refine AOps.go [2] [] [] [0,5] 1 ⟨[(0,.pc 0 0),(5,tB v2)],[.cells 65 (c64 v1)]⟩ ?_ (zz rfl) trivial ?_
 ·kernel_rfl
 refine AOps.nil ?_
 refine AWp.cond rfl (fun hb=>?_) fun hb=>?_
 ·replace h:=of_true h hb
  refine AWp.keepTo [] 1 ⟨[],[.cells 65 (c64 v1)]⟩ ?_ (zz rfl) ?_
  ·kernel_rfl
  refine AWp.seq ?_
  refine AWp.start [0] [] [] [2] 1 ⟨[(2,tI (7:Int))],[.cells 65 (c64 v1)]⟩ rfl ?_ (zz rfl) trivial ?_
  ·kernel_rfl
  refine AOps.nil ?_
  refine AWp.ret ?_
  cases h
  exact ⟨.inr rfl,rfl⟩
 ·replace h:=of_false h hb
  refine AWp.keepTo [0] 1 ⟨[(0,.pc 0 0)],[.cells 65 (c64 v1)]⟩ ?_ (zz rfl) ?_
  ·kernel_rfl
  refine AWp.seq ?_
  refine AWp.start [0] [1,2,3] [] [0,9] 1 ⟨[(0,.pc 0 0),(9,.pc 0 0)],[.cells 65 (c64 v1)]⟩ rfl ?_ (zz rfl) trivial ?_
  ·kernel_rfl
  obtain ⟨v3,hv3,h⟩:=of_bind h
  refine AOps.cons (AOne.callR (F:=(FF 49 1)) _ rfl rfl rfl _ rfl rfl _ _ rfl Try.call42 [] [.rp (c64 v1)] rfl trivial (f42_ok v1 hv3) (ind_of rfl) rfl) ?_
  refine AOps.go [2,3] [] [] [0,8] 1 ⟨[(0,.pc 0 0),(8,tB (!v3))],[.cells 65 (c64 v1)]⟩ ?_ (zz rfl) trivial ?_
  ·kernel_rfl
  refine AOps.nil ?_
  refine AWp.cond rfl (fun hb=>?_) fun hb=>?_
  ·replace h:=of_true h hb
   refine AWp.keepTo [] 1 ⟨[],[.cells 65 (c64 v1)]⟩ ?_ (zz rfl) ?_
   ·kernel_rfl
   refine AWp.seq ?_
   refine AWp.start [0] [] [] [2] 1 ⟨[(2,tI (110:Int))],[.cells 65 (c64 v1)]⟩ rfl ?_ (zz rfl) trivial ?_
   ·kernel_rfl
   refine AOps.nil ?_
   refine AWp.ret ?_
   cases h
   exact ⟨.inr rfl,rfl⟩
  ·replace h:=of_false h hb
   refine AWp.keepTo [0] 1 ⟨[(0,.pc 0 0)],[.cells 65 (c64 v1)]⟩ ?_ (zz rfl) ?_
   ·kernel_rfl
   refine AWp.seq ?_
   refine AWp.start [0,1,2,3,4] [] [] [0,12] 1 ⟨[(0,.pc 0 0),(12,tB v1.f4)],[.cells 65 (c64 v1)]⟩ rfl ?_ (zz rfl) trivial ?_
   ·kernel_rfl
   refine AOps.nil ?_
   refine AWp.cond rfl (fun hb=>?_) fun hb=>?_
   ·replace h:=of_true h hb
    refine AWp.keepTo [0] 1 ⟨[(0,.pc 0 0)],[.cells 65 (c64 v1)]⟩ ?_ (zz rfl) ?_
    ·kernel_rfl
    refine AWp.seq ?_
    refine AWp.start [0,1,2,3] [] [] [] 1 ⟨[],[.cells 65 [.str v1.f0,.int .i64 v1.f1,k0 v1.f2,.int .i64 v1.f3,.bool false]]⟩ rfl ?_ (zz rfl) trivial ?_
    ·kernel_rfl
    refine AOps.nil ?_
    refine AWp.seq ?_
    refine AWp.start [0] [] [] [2] 1 ⟨[(2,tI (0:Int))],[.cells 65 [.str v1.f0,.int .i64 v1.f1,k0 v1.f2,.int .i64 v1.f3,.bool false]]⟩ rfl ?_ (zz rfl) trivial ?_
    ·kernel_rfl
    refine AOps.nil ?_
    refine AWp.ret ?_
    cases h
    exact ⟨.inr rfl,rfl⟩
   ·replace h:=of_false h hb
    refine AWp.keepTo [0] 1 ⟨[(0,.pc 0 0)],[.cells 65 (c64 v1)]⟩ ?_ (zz rfl) ?_
    ·kernel_rfl
    refine AWp.skip ?_
    refine AWp.join (V:=Int) (fun w=>⟨[],[.cells 65 [.str v1.f0,.int .i64 v1.f1,k0 v1.f2,.int .i64 w,.bool v1.f4]]⟩) (fun w=>f23o_j1 v1 w = some r) ?_ ?_
    ·refine AWp.seq ?_
     refine AWp.draw FFm _ (n:=19) rfl (ls:=#[n1,n1,n1,n1,n1,n1,n1,n1,n1,n1,n1,n1,n1,n1,n1,n1,n1,n1,n1]) rfl ?_ (fun _ h=>h)
     refine AAny.go (by kernel_rfl) [0,1,2,4,5,6,8,9,10] (fuel':=10) rfl [] #[y1,y1,y1,n1,y1,y1,y1,n1,y1,y1,y1,n1,n1,n1,n1,n1,n1,n1,n1] [0,23,27,31] 1 ⟨[(0,.pc 0 0),(23,.pc 0 0),(27,.pc 0 2),(31,.pc 0 3)],[.cells 65 (c64 v1)]⟩ ?_ (zz rfl) trivial ?_
     ·kernel_rfl
     refine AAny.goR (by kernel_rfl) (i:=7) (fuel':=9) [12,13,14,15,16,17,18] rfl (by kernel_rfl) (by kernel_rfl) [] #[y1,y1,y1,n1,y1,y1,y1,y1,y1,y1,y1,n1,n1,n1,n1,n1,n1,n1,n1] rfl [0,23,28,31] 1 ⟨[(0,.pc 0 0),(23,.pc 0 0),(28,q0 v1.f2),(31,.pc 0 3)],[.cells 65 (c64 v1)]⟩ ?_ (zz rfl) trivial ?_
     ·kernel_rfl
     refine AAny.goR (by kernel_rfl) (i:=11) (fuel':=8) [12,13,14,15,16,17,18] rfl (by kernel_rfl) (by kernel_rfl) [] #[y1,y1,y1,n1,y1,y1,y1,y1,y1,y1,y1,y1,n1,n1,n1,n1,n1,n1,n1] rfl [0,23,28,32] 1 ⟨[(0,.pc 0 0),(23,.pc 0 0),(28,q0 v1.f2),(32,tI v1.f3)],[.cells 65 (c64 v1)]⟩ ?_ (zz rfl) trivial ?_
     ·kernel_rfl
     obtain ⟨hg,h⟩:=of_guard h
     refine AAny.go (by kernel_rfl) [12] (fuel':=7) rfl [(0:Int) ≤ (0:Int),(0:Int) ≤ v1.f3,v1.f3 ≤ (v1.f2.length:Int)] #[y1,y1,y1,n1,y1,y1,y1,y1,y1,y1,y1,y1,y1,n1,n1,n1,n1,n1,n1] [0,23,33] 1 ⟨[(0,.pc 0 0),(23,.pc 0 0),(33,.tv (.fz 1 ((Int.toNat v1.f3) - 0) (fun i=>(cInt .u8) (v1.f2.getD (0 + i) default))))],[.cells 65 (c64 v1)]⟩ ?_ (zz rfl) ⟨(by decide:(0:Int) ≤ (0:Int)),hg.1,hg.2⟩ ?_
     ·kernel_rfl
     have hb:(Int.toNat v1.f3) ≤ v1.f2.length:=by have hh:v1.f3 ≤ (v1.f2.length:Int):=hg.2; omega
     refine AAny.extFzL (s:=33) rfl (sub_len v1.f2 0 (Int.toNat v1.f3) hb) (sub_at (cInt .u8) v1.f2 0 (Int.toNat v1.f3) hb) ?_
     refine AAny.step (i:=3) (fuel':=6) rfl (by kernel_rfl) [] #[y1,y1,y1,y1,y1,y1,y1,y1,y1,y1,y1,y1,y1,n1,n1,n1,n1,n1,n1] rfl [0,24,33] 1 ⟨[(0,.pc 0 0),(24,tS v1.f0),(33,q0 ((v1.f2.take (Int.toNat v1.f3)).drop 0))],[.cells 65 (c64 v1)]⟩ ?_ (zz rfl) trivial ?_
     ·kernel_rfl
     obtain ⟨v5,hv5,h⟩:=of_bind h
     refine AAny.serial (i:=13) (fuel:=5) (by kernel_rfl) (AOne.callP (F:=(FF 49 1)) _ rfl rfl rfl _ rfl rfl _ _ rfl Try.call35 [tS v1.f0,q0 ((v1.f2.take (Int.toNat v1.f3)).drop 0)] rfl rfl (f35_ok v1.f0 ((v1.f2.take (Int.toNat v1.f3)).drop 0) hv5) rfl) ?_
     refine AAny.keepTo [0,34] 1 ⟨[(0,.pc 0 0),(34,.tup [.tv (fzL 1 (cInt .i64) v5.1),tB v5.2])],[.cells 65 (c64 v1)]⟩ #[y1,y1,y1,y1,y1,y1,y1,y1,y1,y1,y1,y1,y1,y1,n1,n1,n1,n1,n1] ?_ rfl (zz rfl) ?_
     ·kernel_rfl
     refine AAny.go (by kernel_rfl) [14,15,16,17,18] (fuel':=0) rfl [] #[y1,y1,y1,y1,y1,y1,y1,y1,y1,y1,y1,y1,y1,y1,y1,y1,y1,y1,y1] [0,3] 1 ⟨[(0,.pc 0 0),(3,.tv (fzL 1 (cInt .i64) v5.1))],[.cells 65 (c64 v1)]⟩ ?_ (zz rfl) trivial ?_
     ·kernel_rfl
     refine AAny.keepTo [0,3] 1 ⟨[(0,.pc 0 0),(3,.tv (fzL 1 (cInt .i64) v5.1))],[.cells 65 (c64 v1)]⟩ _ ?_ rfl (zz rfl) (AAny.done (by kernel_rfl) ?_)
     ·kernel_rfl
     refine AWp.seq ?_
     refine AWp.start [0,1,2] [] [] [0,3,39] 1 ⟨[(0,.pc 0 0),(3,.tv (fzL 1 (cInt .i64) v5.1)),(39,tB (decide ((v5.1.length:Int) > (0:Int))))],[.cells 65 (c64 v1)]⟩ rfl ?_ (zz rfl) trivial ?_
     ·kernel_rfl
     refine AOps.nil ?_
     refine AWp.cond rfl (fun hb=>?_) fun hb=>?_
     ·replace h:=of_true h hb
      refine AWp.keepTo [0,3] 1 ⟨[(0,.pc 0 0),(3,.tv (fzL 1 (cInt .i64) v5.1))],[.cells 65 (c64 v1)]⟩ ?_ (zz rfl) ?_
      ·kernel_rfl
      obtain ⟨hg,h⟩:=of_guard h
      refine AWp.start [0,1,2,3,4,5,6,7,8,9] [] [(0:Int) ≤ w64 ((v5.1.length:Int) - (1:Int)),w64 ((v5.1.length:Int) - (1:Int)) < (v5.1.length:Int)] [] 1 ⟨[],[.cells 65 [.str v1.f0,.int .i64 v1.f1,k0 v1.f2,.int .i64 (v5.1.getD (Int.toNat (w64 ((v5.1.length:Int) - (1:Int)))) default),.bool v1.f4]]⟩ rfl ?_ (zz rfl) ⟨hg.1,hg.2⟩ ?_
      ·kernel_rfl
      refine AOps.nil ?_
      exact ⟨v5.1.getD (Int.toNat (w64 ((v5.1.length:Int) - (1:Int)))) default,h,rfl⟩
     ·replace h:=of_false h hb
      refine AWp.keepTo [] 1 ⟨[],[.cells 65 (c64 v1)]⟩ ?_ (zz rfl) ?_
      ·kernel_rfl
      refine AWp.skip ?_
      exact ⟨v1.f3,h,rfl⟩
    ·rintro v4 h
     refine AWp.seq ?_
     refine AWp.start [0] [] [] [2] 1 ⟨[(2,tI (0:Int))],[.cells 65 [.str v1.f0,.int .i64 v1.f1,k0 v1.f2,.int .i64 v4,.bool v1.f4]]⟩ rfl ?_ (zz rfl) trivial ?_
     ·kernel_rfl
     refine AOps.nil ?_
     refine AWp.ret ?_
     cases h
     exact ⟨.inr rfl,rfl⟩

abbrev hp6 (v1:T64) (v5:(List Int)):List AObj:=[.cells 65 [.str v1.f0,.int .i64 v1.f1,k0 v5,.int .i64 v1.f3,.bool true]]

noncomputable def f51o (v1:T64):Option (Int × T64) :=
 (f41 v1).bind fun v2=>cond v2 (some ((7:Int),v1)) ((f42 v1).bind fun v3=>(cond (!v3) (some true) (some v1.f4)).bind fun v4=>cond v4 (some ((110:Int),v1)) (if (0:Int) ≤ v1.f3 ∧ v1.f3 ≤ (v1.f2.length:Int) then (f37 ((v1.f2.take (Int.toNat v1.f3)).drop 0)).bind fun v5=>some ((0:Int),T64.mk v1.f0 v1.f1 v5 v1.f3 true) else none))

theorem f51o_ok (v1:T64) {r:Int × T64} (h:f51o v1 = some r):ACall Try.prog 51 [.pc 0 0] [.cells 65 [.str v1.f0,.int .i64 v1.f1,fzL 1 (cInt .u8) v1.f2,.int .i64 v1.f3,.bool v1.f4]] (.tv (.int .i64 r.1)) [.cells 65 [.str r.2.f0,.int .i64 r.2.f1,fzL 1 (cInt .u8) r.2.f2,.int .i64 r.2.f3,.bool r.2.f4]]:=by
 refine ACall.of1 (FF 32 1) Try.func51 rfl Try.ntmps51 Try.results51 (zz rfl) rfl rfl ?_
 refine AWp.seq ?_
 refine AWp.start [0] [] [] [0] 1 ⟨[(0,.pc 0 0)],[.cells 65 (c64 v1)]⟩ rfl ?_ (zz rfl) trivial ?_
 ·kernel_rfl
 refine AOps.nil ?_
 refine AWp.seq ?_
 refine AWp.block ?_
 refine AWp.seq ?_
 refine AWp.start [0] [1,2] [] [0,4] 1 ⟨[(0,.pc 0 0),(4,.pc 0 0)],[.cells 65 (c64 v1)]⟩ rfl ?_ (zz rfl) trivial ?_
 ·kernel_rfl
 obtain ⟨v2,hv2,h⟩:=of_bind h
 refine AOps.cons (AOne.callR (F:=(FF 32 1)) _ rfl rfl rfl _ rfl rfl _ _ rfl Try.call41 [] [.rp (c64 v1)] rfl trivial (f41_ok v1 hv2) (ind_of rfl) rfl) ?_
 refine AOps.go [2] [] [] [0,3] 1 ⟨[(0,.pc 0 0),(3,tB v2)],[.cells 65 (c64 v1)]⟩ ?_ (zz rfl) trivial ?_
 ·kernel_rfl
 refine AOps.nil ?_
 refine AWp.cond rfl (fun hb=>?_) fun hb=>?_
 ·replace h:=of_true h hb
  refine AWp.keepTo [] 1 ⟨[],[.cells 65 (c64 v1)]⟩ ?_ (zz rfl) ?_
  ·kernel_rfl
  refine AWp.seq ?_
  refine AWp.start [0] [] [] [2] 1 ⟨[(2,tI (7:Int))],[.cells 65 (c64 v1)]⟩ rfl ?_ (zz rfl) trivial ?_
  ·kernel_rfl
  refine AOps.nil ?_
  refine AWp.ret ?_
  cases h
  exact ⟨.inr rfl,rfl⟩
 ·replace h:=of_false h hb
  refine AWp.keepTo [0] 1 ⟨[(0,.pc 0 0)],[.cells 65 (c64 v1)]⟩ ?_ (zz rfl) ?_
  ·kernel_rfl
  refine AWp.seq ?_
  refine AWp.start [0] [1,2,3,4,5,6,7,8,9] [] [0,7] 1 ⟨[(0,.pc 0 0),(7,.pc 0 0)],[.cells 65 (c64 v1)]⟩ rfl ?_ (zz rfl) trivial ?_
  ·kernel_rfl
  obtain ⟨v3,hv3,h⟩:=of_bind h
  refine AOps.cons (AOne.callR (F:=(FF 32 1)) _ rfl rfl rfl _ rfl rfl _ _ rfl Try.call42 [] [.rp (c64 v1)] rfl trivial (f42_ok v1 hv3) (ind_of rfl) rfl) ?_
  refine AOps.go [2,3] [4,5,6,7,8,9] [] [0,10] 1 ⟨[(0,.pc 0 0),(10,tB (!v3))],[.cells 65 (c64 v1)]⟩ ?_ (zz rfl) trivial ?_
  ·kernel_rfl
  obtain ⟨v4,hc4,h⟩:=of_bind h
  refine AOps.cut [4,5,6,7,8] [9] (fun σ=>σ = ⟨[(0,.pc 0 0),(15,tB v4)],[.cells 65 (c64 v1)]⟩) ?_ fun σ' hJ=>?_
  ·refine AOps.split (fun b=>⟨[(0,.pc 0 0),(10,tB b)],[.cells 65 (c64 v1)]⟩) _ (fun hb=>?_) fun hb=>?_
   ·replace hc4:=of_true hc4 hb
    refine AOps.go [4,5,6,7,8] [] [] [0,15] 1 ⟨[(0,.pc 0 0),(15,tB true)],[.cells 65 (c64 v1)]⟩ ?_ (zz rfl) trivial ?_
    ·kernel_rfl
    cases hc4
    exact AOps.nil rfl
   ·replace hc4:=of_false hc4 hb
    refine AOps.go [4,5,6,7,8] [] [] [0,15] 1 ⟨[(0,.pc 0 0),(15,tB v1.f4)],[.cells 65 (c64 v1)]⟩ ?_ (zz rfl) trivial ?_
    ·kernel_rfl
    cases hc4
    exact AOps.nil rfl
  subst hJ
  refine AOps.go [9] [] [] [0,6] 1 ⟨[(0,.pc 0 0),(6,tB v4)],[.cells 65 (c64 v1)]⟩ ?_ (zz rfl) trivial ?_
  ·kernel_rfl
  refine AOps.nil ?_
  refine AWp.cond rfl (fun hb=>?_) fun hb=>?_
  ·replace h:=of_true h hb
   refine AWp.keepTo [] 1 ⟨[],[.cells 65 (c64 v1)]⟩ ?_ (zz rfl) ?_
   ·kernel_rfl
   refine AWp.seq ?_
   refine AWp.start [0] [] [] [2] 1 ⟨[(2,tI (110:Int))],[.cells 65 (c64 v1)]⟩ rfl ?_ (zz rfl) trivial ?_
   ·kernel_rfl
   refine AOps.nil ?_
   refine AWp.ret ?_
   cases h
   exact ⟨.inr rfl,rfl⟩
  ·replace h:=of_false h hb
   refine AWp.keepTo [0] 1 ⟨[(0,.pc 0 0)],[.cells 65 (c64 v1)]⟩ ?_ (zz rfl) ?_
   ·kernel_rfl
   refine AWp.skip ?_
   refine AWp.seq ?_
   refine AWp.draw FFm _ (n:=18) rfl (ls:=#[n1,n1,n1,n1,n1,n1,n1,n1,n1,n1,n1,n1,n1,n1,n1,n1,n1,n1]) rfl ?_ (fun _ h=>h)
   refine AAny.go (by kernel_rfl) [0,1,2,3,4,6,7,8] (fuel':=10) rfl [] #[y1,y1,y1,y1,y1,n1,y1,y1,y1,n1,n1,n1,n1,n1,n1,n1,n1,n1] [16,17,20,24] 1 ⟨[(16,.pc 0 0),(17,.pc 0 0),(20,.pc 0 2),(24,.pc 0 3)],[.cells 65 (c64 v1)]⟩ ?_ (zz rfl) trivial ?_
   ·kernel_rfl
   refine AAny.goR (by kernel_rfl) (i:=5) (fuel':=9) [10,11,12,13,14,15,16,17] rfl (by kernel_rfl) (by kernel_rfl) [] #[y1,y1,y1,y1,y1,y1,y1,y1,y1,n1,n1,n1,n1,n1,n1,n1,n1,n1] rfl [16,17,21,24] 1 ⟨[(16,.pc 0 0),(17,.pc 0 0),(21,q0 v1.f2),(24,.pc 0 3)],[.cells 65 (c64 v1)]⟩ ?_ (zz rfl) trivial ?_
   ·kernel_rfl
   refine AAny.step (i:=9) (fuel':=8) rfl (by kernel_rfl) [] #[y1,y1,y1,y1,y1,y1,y1,y1,y1,y1,n1,n1,n1,n1,n1,n1,n1,n1] rfl [16,17,21,25] 1 ⟨[(16,.pc 0 0),(17,.pc 0 0),(21,q0 v1.f2),(25,tI v1.f3)],[.cells 65 (c64 v1)]⟩ ?_ (zz rfl) trivial ?_
   ·kernel_rfl
   obtain ⟨hg,h⟩:=of_guard h
   refine AAny.go (by kernel_rfl) [10] (fuel':=7) rfl [(0:Int) ≤ (0:Int),(0:Int) ≤ v1.f3,v1.f3 ≤ (v1.f2.length:Int)] #[y1,y1,y1,y1,y1,y1,y1,y1,y1,y1,y1,n1,n1,n1,n1,n1,n1,n1] [16,17,26] 1 ⟨[(16,.pc 0 0),(17,.pc 0 0),(26,.tv (.fz 1 ((Int.toNat v1.f3) - 0) (fun i=>(cInt .u8) (v1.f2.getD (0 + i) default))))],[.cells 65 (c64 v1)]⟩ ?_ (zz rfl) ⟨(by decide:(0:Int) ≤ (0:Int)),hg.1,hg.2⟩ ?_
   ·kernel_rfl
   have hb:(Int.toNat v1.f3) ≤ v1.f2.length:=by have hh:v1.f3 ≤ (v1.f2.length:Int):=hg.2; omega
   refine AAny.extFzL (s:=26) rfl (sub_len v1.f2 0 (Int.toNat v1.f3) hb) (sub_at (cInt .u8) v1.f2 0 (Int.toNat v1.f3) hb) ?_
   obtain ⟨v5,hv5,h⟩:=of_bind h
   refine AAny.serial (i:=11) (fuel:=6) (by kernel_rfl) (AOne.callP (F:=(FF 32 1)) _ rfl rfl rfl _ rfl rfl _ _ rfl Try.call37 [q0 ((v1.f2.take (Int.toNat v1.f3)).drop 0)] rfl rfl (f37_ok ((v1.f2.take (Int.toNat v1.f3)).drop 0) hv5) rfl) ?_
   refine AAny.freezeL 27 (cInt .u8) v5 rfl (fun _=>rfl) ?_
   refine AAny.keepTo [16,17,27] 1 ⟨[(16,.pc 0 0),(17,.pc 0 0),(27,q0 v5)],[.cells 65 (c64 v1)]⟩ #[y1,y1,y1,y1,y1,y1,y1,y1,y1,y1,y1,y1,n1,n1,n1,n1,n1,n1] ?_ rfl (zz rfl) ?_
   ·kernel_rfl
   refine AAny.go (by kernel_rfl) [12,13] (fuel':=4) rfl [] #[y1,y1,y1,y1,y1,y1,y1,y1,y1,y1,y1,y1,y1,y1,n1,n1,n1,n1] [17,27,29] 1 ⟨[(17,.pc 0 0),(27,q0 v5),(29,.pc 0 2)],[.cells 65 (c64 v1)]⟩ ?_ (zz rfl) trivial ?_
   ·kernel_rfl
   refine AAny.step (i:=14) (fuel':=3) rfl (by kernel_rfl) [] #[y1,y1,y1,y1,y1,y1,y1,y1,y1,y1,y1,y1,y1,y1,y1,n1,n1,n1] rfl [17] 1 ⟨[(17,.pc 0 0)],[.cells 65 [.str v1.f0,.int .i64 v1.f1,k0 v5,.int .i64 v1.f3,.bool v1.f4]]⟩ ?_ (zz rfl) trivial ?_
   ·kernel_rfl
   refine AAny.go (by kernel_rfl) [15,16] (fuel':=1) rfl [] #[y1,y1,y1,y1,y1,y1,y1,y1,y1,y1,y1,y1,y1,y1,y1,y1,y1,n1] [31] 1 ⟨[(31,.pc 0 4)],[.cells 65 [.str v1.f0,.int .i64 v1.f1,k0 v5,.int .i64 v1.f3,.bool v1.f4]]⟩ ?_ (zz rfl) trivial ?_
   ·kernel_rfl
   refine AAny.step (i:=17) (fuel':=0) rfl (by kernel_rfl) [] #[y1,y1,y1,y1,y1,y1,y1,y1,y1,y1,y1,y1,y1,y1,y1,y1,y1,y1] rfl [] 1 ⟨[],hp6 v1 v5⟩ ?_ (zz rfl) trivial ?_
   ·kernel_rfl
   refine AAny.keepTo [] 1 ⟨[],hp6 v1 v5⟩ _ ?_ rfl (zz rfl) (AAny.done (by kernel_rfl) ?_)
   ·kernel_rfl
   refine AWp.seq ?_
   refine AWp.start [0] [] [] [2] 1 ⟨[(2,tI (0:Int))],hp6 v1 v5⟩ rfl ?_ (zz rfl) trivial ?_
   ·kernel_rfl
   refine AOps.nil ?_
   refine AWp.ret ?_
   cases h
   exact ⟨.inr rfl,rfl⟩

noncomputable def f28o (v1:T46) (v2:T64):Option ((List Int) × Int × T64) :=
 cond (v1.f0 == (0:Int)) ((f17o v1.f3 v2).bind fun v3=>some (([]:List Int),v3.1,v3.2)) (cond (v1.f0 == (1:Int)) ((f22o v2).bind fun v4=>some (v4.1,v4.2.1,v4.2.2)) (cond (v1.f0 == (2:Int)) ((f24o v1.f1 v1.f3 v2).bind fun v5=>some (([]:List Int),v5.1,v5.2)) (cond (v1.f0 == (3:Int)) ((f25o v1.f1 v1.f2 v2).bind fun v6=>some (v6.1,v6.2.1,v6.2.2)) (cond (v1.f0 == (4:Int)) ((f20o v2).bind fun v7=>some (([]:List Int),v7.1,v7.2)) (cond (v1.f0 == (5:Int)) ((f23o v2).bind fun v8=>some (([]:List Int),v8.1,v8.2)) ((f51o v2).bind fun v9=>some (([]:List Int),v9.1,v9.2)))))))

theorem f28o_ok (v1:T46) (v2:T64) {r:(List Int) × Int × T64} (h:f28o v1 v2 = some r):ACall Try.prog 28 [.pc 0 0,.agg [.int .i64 v1.f0,.int .i64 v1.f1,.int .i64 v1.f2,fzL 1 (cInt .u8) v1.f3]] [.cells 65 [.str v2.f0,.int .i64 v2.f1,fzL 1 (cInt .u8) v2.f2,.int .i64 v2.f3,.bool v2.f4]] (.tup [.tv (fzL 1 (cInt .u8) r.1),.tv (.int .i64 r.2.1)]) [.cells 65 [.str r.2.2.f0,.int .i64 r.2.2.f1,fzL 1 (cInt .u8) r.2.2.f2,.int .i64 r.2.2.f3,.bool r.2.2.f4]]:=by
 refine ACall.ofN (FF 48 1) (rs:=[4,5]) (env:=[(4,q0 r.1),(5,tI r.2.1)]) Try.func28 rfl Try.ntmps28 Try.results28 (by decide) (by decide) rfl (zz rfl) rfl (get_ofN _ _ _ rfl) (ok_ofN _ rfl) ?_
 refine AWp.seq ?_
 refine AWp.start [0,1,2] [] [] [0,3] 2 ⟨[(0,.pc 0 0),(3,.pc 1 0)],[.cells 65 (c64 v2),.cells 47 (c46 v1)]⟩ rfl ?_ (zz rfl) trivial ?_
 ·kernel_rfl
 refine AOps.nil ?_
 refine AWp.seq ?_
 refine AWp.seq ?_
 refine AWp.pin 1 rfl rfl ?_
 refine AWp.keepTo [0,3] 1 ⟨[(0,.pc 0 0),(3,.rp (c46 v1))],[.cells 65 (c64 v2)]⟩ ?_ (zz rfl) ?_
 ·kernel_rfl
 refine AWp.start [0,1] [] [] [0,3,7] 1 ⟨[(0,.pc 0 0),(3,.rp (c46 v1)),(7,tI v1.f0)],[.cells 65 (c64 v2)]⟩ rfl ?_ (zz rfl) trivial ?_
 ·kernel_rfl
 refine AOps.nil ?_
 refine AWp.block ?_
 refine AWp.seq ?_
 refine AWp.start [0,1] [] [] [0,3,7,8] 1 ⟨[(0,.pc 0 0),(3,.rp (c46 v1)),(7,tI v1.f0),(8,tB (v1.f0 == (0:Int)))],[.cells 65 (c64 v2)]⟩ rfl ?_ (zz rfl) trivial ?_
 ·kernel_rfl
 refine AOps.nil ?_
 refine AWp.cond rfl (fun hb=>?_) fun hb=>?_
 ·replace h:=of_true h hb
  refine AWp.keepTo [0,3] 1 ⟨[(0,.pc 0 0),(3,.rp (c46 v1))],[.cells 65 (c64 v2)]⟩ ?_ (zz rfl) ?_
  ·kernel_rfl
  refine AWp.seq ?_
  refine AWp.start [0,1,2] [3,4,5] [] [10,12] 1 ⟨[(10,.pc 0 0),(12,q0 v1.f3)],[.cells 65 (c64 v2)]⟩ rfl ?_ (zz rfl) trivial ?_
  ·kernel_rfl
  obtain ⟨v3,hv3,h⟩:=of_bind h
  refine AOps.cons (AOne.callO (F:=(FF 48 1)) _ rfl rfl rfl 13 rfl rfl 17 [] rfl Try.call17 [0] (by decide) [.pc 0 0,q0 v1.f3] (by kernel_rfl) [.cells 65 (c64 v2)] (by kernel_rfl) (f17o_ok v1.f3 v2 hv3) (by kernel_rfl) (by kernel_rfl) _ rfl) ?_
  refine AOps.go [4,5] [] [] [4,5] 1 ⟨[(4,.tv (.sc (.slice none 0 0))),(5,tI v3.1)],[.cells 65 [.str v3.2.f0,.int .i64 v3.2.f1,k0 v3.2.f2,.int .i64 v3.2.f3,.bool v3.2.f4]]⟩ ?_ (zz rfl) trivial ?_
  ·kernel_rfl
  refine AOps.nil ?_
  refine AWp.nilFz 4 1 (fun i=>(cInt .u8) (([]:List Int).getD i default)) rfl ?_
  refine AWp.keepTo [4,5] 1 ⟨[(4,q0 ([]:List Int)),(5,tI v3.1)],[.cells 65 [.str v3.2.f0,.int .i64 v3.2.f1,k0 v3.2.f2,.int .i64 v3.2.f3,.bool v3.2.f4]]⟩ ?_ (zz rfl) ?_
  ·kernel_rfl
  refine AWp.ret ?_
  cases h
  exact ⟨.inr rfl,rfl⟩
 ·replace h:=of_false h hb
  refine AWp.keepTo [0,3,7] 1 ⟨[(0,.pc 0 0),(3,.rp (c46 v1)),(7,tI v1.f0)],[.cells 65 (c64 v2)]⟩ ?_ (zz rfl) ?_
  ·kernel_rfl
  refine AWp.seq ?_
  refine AWp.start [0,1] [] [] [0,3,7,14] 1 ⟨[(0,.pc 0 0),(3,.rp (c46 v1)),(7,tI v1.f0),(14,tB (v1.f0 == (1:Int)))],[.cells 65 (c64 v2)]⟩ rfl ?_ (zz rfl) trivial ?_
  ·kernel_rfl
  refine AOps.nil ?_
  refine AWp.cond rfl (fun hb=>?_) fun hb=>?_
  ·replace h:=of_true h hb
   refine AWp.keepTo [0] 1 ⟨[(0,.pc 0 0)],[.cells 65 (c64 v2)]⟩ ?_ (zz rfl) ?_
   ·kernel_rfl
   refine AWp.seq ?_
   refine AWp.start [0] [1,2,3,4,5] [] [16] 1 ⟨[(16,.pc 0 0)],[.cells 65 (c64 v2)]⟩ rfl ?_ (zz rfl) trivial ?_
   ·kernel_rfl
   obtain ⟨v4,hv4,h⟩:=of_bind h
   refine AOps.cons (AOne.callO (F:=(FF 48 1)) _ rfl rfl rfl 17 rfl rfl 22 [] rfl Try.call22 [0] (by decide) [.pc 0 0] (by kernel_rfl) [.cells 65 (c64 v2)] (by kernel_rfl) (f22o_ok v2 hv4) (by kernel_rfl) (by kernel_rfl) _ rfl) ?_
   refine AOps.go [2,3,4,5] [] [] [4,5] 1 ⟨[(4,q0 v4.1),(5,tI v4.2.1)],[.cells 65 [.str v4.2.2.f0,.int .i64 v4.2.2.f1,k0 v4.2.2.f2,.int .i64 v4.2.2.f3,.bool v4.2.2.f4]]⟩ ?_ (zz rfl) trivial ?_
   ·kernel_rfl
   refine AOps.nil ?_
   refine AWp.ret ?_
   cases h
   exact ⟨.inr rfl,rfl⟩
  ·replace h:=of_false h hb
   refine AWp.keepTo [0,3,7] 1 ⟨[(0,.pc 0 0),(3,.rp (c46 v1)),(7,tI v1.f0)],[.cells 65 (c64 v2)]⟩ ?_ (zz rfl) ?_
   ·kernel_rfl
   refine AWp.seq ?_
   refine AWp.start [0,1] [] [] [0,3,7,20] 1 ⟨[(0,.pc 0 0),(3,.rp (c46 v1)),(7,tI v1.f0),(20,tB (v1.f0 == (2:Int)))],[.cells 65 (c64 v2)]⟩ rfl ?_ (zz rfl) trivial ?_
   ·kernel_rfl
   refine AOps.nil ?_
   refine AWp.cond rfl (fun hb=>?_) fun hb=>?_
   ·replace h:=of_true h hb
    refine AWp.keepTo [0,3] 1 ⟨[(0,.pc 0 0),(3,.rp (c46 v1))],[.cells 65 (c64 v2)]⟩ ?_ (zz rfl) ?_
    ·kernel_rfl
    refine AWp.seq ?_
    refine AWp.start [0,1,2,3,4] [5,6,7] [] [22,24,26] 1 ⟨[(22,.pc 0 0),(24,tI v1.f1),(26,q0 v1.f3)],[.cells 65 (c64 v2)]⟩ rfl ?_ (zz rfl) trivial ?_
    ·kernel_rfl
    obtain ⟨v5,hv5,h⟩:=of_bind h
    refine AOps.cons (AOne.callO (F:=(FF 48 1)) _ rfl rfl rfl 27 rfl rfl 24 [] rfl Try.call24 [0] (by decide) [.pc 0 0,tI v1.f1,q0 v1.f3] (by kernel_rfl) [.cells 65 (c64 v2)] (by kernel_rfl) (f24o_ok v1.f1 v1.f3 v2 hv5) (by kernel_rfl) (by kernel_rfl) _ rfl) ?_
    refine AOps.go [6,7] [] [] [4,5] 1 ⟨[(4,.tv (.sc (.slice none 0 0))),(5,tI v5.1)],[.cells 65 [.str v5.2.f0,.int .i64 v5.2.f1,k0 v5.2.f2,.int .i64 v5.2.f3,.bool v5.2.f4]]⟩ ?_ (zz rfl) trivial ?_
    ·kernel_rfl
    refine AOps.nil ?_
    refine AWp.nilFz 4 1 (fun i=>(cInt .u8) (([]:List Int).getD i default)) rfl ?_
    refine AWp.keepTo [4,5] 1 ⟨[(4,q0 ([]:List Int)),(5,tI v5.1)],[.cells 65 [.str v5.2.f0,.int .i64 v5.2.f1,k0 v5.2.f2,.int .i64 v5.2.f3,.bool v5.2.f4]]⟩ ?_ (zz rfl) ?_
    ·kernel_rfl
    refine AWp.ret ?_
    cases h
    exact ⟨.inr rfl,rfl⟩
   ·replace h:=of_false h hb
    refine AWp.keepTo [0,3,7] 1 ⟨[(0,.pc 0 0),(3,.rp (c46 v1)),(7,tI v1.f0)],[.cells 65 (c64 v2)]⟩ ?_ (zz rfl) ?_
    ·kernel_rfl
    refine AWp.seq ?_
    refine AWp.start [0,1] [] [] [0,3,7,28] 1 ⟨[(0,.pc 0 0),(3,.rp (c46 v1)),(7,tI v1.f0),(28,tB (v1.f0 == (3:Int)))],[.cells 65 (c64 v2)]⟩ rfl ?_ (zz rfl) trivial ?_
    ·kernel_rfl
    refine AOps.nil ?_
    refine AWp.cond rfl (fun hb=>?_) fun hb=>?_
    ·replace h:=of_true h hb
     refine AWp.keepTo [0,3] 1 ⟨[(0,.pc 0 0),(3,.rp (c46 v1))],[.cells 65 (c64 v2)]⟩ ?_ (zz rfl) ?_
     ·kernel_rfl
     refine AWp.seq ?_
     refine AWp.start [0,1,2,3,4] [5,6,7,8,9] [] [30,32,34] 1 ⟨[(30,.pc 0 0),(32,tI v1.f1),(34,tI v1.f2)],[.cells 65 (c64 v2)]⟩ rfl ?_ (zz rfl) trivial ?_
     ·kernel_rfl
     obtain ⟨v6,hv6,h⟩:=of_bind h
     refine AOps.cons (AOne.callO (F:=(FF 48 1)) _ rfl rfl rfl 35 rfl rfl 25 [] rfl Try.call25 [0] (by decide) [.pc 0 0,tI v1.f1,tI v1.f2] (by kernel_rfl) [.cells 65 (c64 v2)] (by kernel_rfl) (f25o_ok v1.f1 v1.f2 v2 hv6) (by kernel_rfl) (by kernel_rfl) _ rfl) ?_
     refine AOps.go [6,7,8,9] [] [] [4,5] 1 ⟨[(4,q0 v6.1),(5,tI v6.2.1)],[.cells 65 [.str v6.2.2.f0,.int .i64 v6.2.2.f1,k0 v6.2.2.f2,.int .i64 v6.2.2.f3,.bool v6.2.2.f4]]⟩ ?_ (zz rfl) trivial ?_
     ·kernel_rfl
     refine AOps.nil ?_
     refine AWp.ret ?_
     cases h
     exact ⟨.inr rfl,rfl⟩
    ·replace h:=of_false h hb
     refine AWp.keepTo [0,7] 1 ⟨[(0,.pc 0 0),(7,tI v1.f0)],[.cells 65 (c64 v2)]⟩ ?_ (zz rfl) ?_
     ·kernel_rfl
     refine AWp.seq ?_
     refine AWp.start [0,1] [] [] [0,7,38] 1 ⟨[(0,.pc 0 0),(7,tI v1.f0),(38,tB (v1.f0 == (4:Int)))],[.cells 65 (c64 v2)]⟩ rfl ?_ (zz rfl) trivial ?_
     ·kernel_rfl
     refine AOps.nil ?_
     refine AWp.cond rfl (fun hb=>?_) fun hb=>?_
     ·replace h:=of_true h hb
      refine AWp.keepTo [0] 1 ⟨[(0,.pc 0 0)],[.cells 65 (c64 v2)]⟩ ?_ (zz rfl) ?_
      ·kernel_rfl
      refine AWp.seq ?_
      refine AWp.start [0] [1,2,3] [] [40] 1 ⟨[(40,.pc 0 0)],[.cells 65 (c64 v2)]⟩ rfl ?_ (zz rfl) trivial ?_
      ·kernel_rfl
      obtain ⟨v7,hv7,h⟩:=of_bind h
      refine AOps.cons (AOne.callO (F:=(FF 48 1)) _ rfl rfl rfl 41 rfl rfl 20 [] rfl Try.call20 [0] (by decide) [.pc 0 0] (by kernel_rfl) [.cells 65 (c64 v2)] (by kernel_rfl) (f20o_ok v2 hv7) (by kernel_rfl) (by kernel_rfl) _ rfl) ?_
      refine AOps.go [2,3] [] [] [4,5] 1 ⟨[(4,.tv (.sc (.slice none 0 0))),(5,tI v7.1)],[.cells 65 [.str v7.2.f0,.int .i64 v7.2.f1,k0 v7.2.f2,.int .i64 v7.2.f3,.bool v7.2.f4]]⟩ ?_ (zz rfl) trivial ?_
      ·kernel_rfl
      refine AOps.nil ?_
      refine AWp.nilFz 4 1 (fun i=>(cInt .u8) (([]:List Int).getD i default)) rfl ?_
      refine AWp.keepTo [4,5] 1 ⟨[(4,q0 ([]:List Int)),(5,tI v7.1)],[.cells 65 [.str v7.2.f0,.int .i64 v7.2.f1,k0 v7.2.f2,.int .i64 v7.2.f3,.bool v7.2.f4]]⟩ ?_ (zz rfl) ?_
      ·kernel_rfl
      refine AWp.ret ?_
      cases h
      exact ⟨.inr rfl,rfl⟩
     ·replace h:=of_false h hb
      refine AWp.keepTo [0,7] 1 ⟨[(0,.pc 0 0),(7,tI v1.f0)],[.cells 65 (c64 v2)]⟩ ?_ (zz rfl) ?_
      ·kernel_rfl
      refine AWp.seq ?_
      refine AWp.start [0,1] [] [] [0,42] 1 ⟨[(0,.pc 0 0),(42,tB (v1.f0 == (5:Int)))],[.cells 65 (c64 v2)]⟩ rfl ?_ (zz rfl) trivial ?_
      ·kernel_rfl
      refine AOps.nil ?_
      refine AWp.cond rfl (fun hb=>?_) fun hb=>?_
      ·replace h:=of_true h hb
       refine AWp.keepTo [0] 1 ⟨[(0,.pc 0 0)],[.cells 65 (c64 v2)]⟩ ?_ (zz rfl) ?_
       ·kernel_rfl
       refine AWp.seq ?_
       refine AWp.start [0] [1,2,3] [] [44] 1 ⟨[(44,.pc 0 0)],[.cells 65 (c64 v2)]⟩ rfl ?_ (zz rfl) trivial ?_
       ·kernel_rfl
       obtain ⟨v8,hv8,h⟩:=of_bind h
       refine AOps.cons (AOne.callO (F:=(FF 48 1)) _ rfl rfl rfl 45 rfl rfl 23 [] rfl Try.call23 [0] (by decide) [.pc 0 0] (by kernel_rfl) [.cells 65 (c64 v2)] (by kernel_rfl) (f23o_ok v2 hv8) (by kernel_rfl) (by kernel_rfl) _ rfl) ?_
       refine AOps.go [2,3] [] [] [4,5] 1 ⟨[(4,.tv (.sc (.slice none 0 0))),(5,tI v8.1)],[.cells 65 [.str v8.2.f0,.int .i64 v8.2.f1,k0 v8.2.f2,.int .i64 v8.2.f3,.bool v8.2.f4]]⟩ ?_ (zz rfl) trivial ?_
       ·kernel_rfl
       refine AOps.nil ?_
       refine AWp.nilFz 4 1 (fun i=>(cInt .u8) (([]:List Int).getD i default)) rfl ?_
       refine AWp.keepTo [4,5] 1 ⟨[(4,q0 ([]:List Int)),(5,tI v8.1)],[.cells 65 [.str v8.2.f0,.int .i64 v8.2.f1,k0 v8.2.f2,.int .i64 v8.2.f3,.bool v8.2.f4]]⟩ ?_ (zz rfl) ?_
       ·kernel_rfl
       refine AWp.ret ?_
       cases h
       exact ⟨.inr rfl,rfl⟩
      ·replace h:=of_false h hb
       refine AWp.keepTo [0] 1 ⟨[(0,.pc 0 0)],[.cells 65 (c64 v2)]⟩ ?_ (zz rfl) ?_
       ·kernel_rfl
       refine AWp.skip ?_
       refine AWp.seq ?_
       refine AWp.start [0] [1,2,3] [] [46] 1 ⟨[(46,.pc 0 0)],[.cells 65 (c64 v2)]⟩ rfl ?_ (zz rfl) trivial ?_
       ·kernel_rfl
       obtain ⟨v9,hv9,h⟩:=of_bind h
       refine AOps.cons (AOne.callO (F:=(FF 48 1)) _ rfl rfl rfl 47 rfl rfl 51 [] rfl Try.call51 [0] (by decide) [.pc 0 0] (by kernel_rfl) [.cells 65 (c64 v2)] (by kernel_rfl) (f51o_ok v2 hv9) (by kernel_rfl) (by kernel_rfl) _ rfl) ?_
       refine AOps.go [2,3] [] [] [4,5] 1 ⟨[(4,.tv (.sc (.slice none 0 0))),(5,tI v9.1)],[.cells 65 [.str v9.2.f0,.int .i64 v9.2.f1,k0 v9.2.f2,.int .i64 v9.2.f3,.bool v9.2.f4]]⟩ ?_ (zz rfl) trivial ?_
       ·kernel_rfl
       refine AOps.nil ?_
       refine AWp.nilFz 4 1 (fun i=>(cInt .u8) (([]:List Int).getD i default)) rfl ?_
       refine AWp.keepTo [4,5] 1 ⟨[(4,q0 ([]:List Int)),(5,tI v9.1)],[.cells 65 [.str v9.2.f0,.int .i64 v9.2.f1,k0 v9.2.f2,.int .i64 v9.2.f3,.bool v9.2.f4]]⟩ ?_ (zz rfl) ?_
       ·kernel_rfl
       refine AWp.ret ?_
       cases h
       exact ⟨.inr rfl,rfl⟩

noncomputable def f30o (v1:T64):Option (Option T64) :=
 (f41 v1).bind fun v2=>cond v2 (some none) ((f37 v1.f2).bind fun v3=>some (some (T64.mk v1.f0 v1.f1 v3 v1.f3 v1.f4)))

theorem f30o_ok (v1:T64) {r:(Option T64)} (h:f30o v1 = some r):ACall Try.prog 30 [.pc 0 0] [.cells 65 [.str v1.f0,.int .i64 v1.f1,fzL 1 (cInt .u8) v1.f2,.int .i64 v1.f3,.bool v1.f4]] ((match r with | none=>.tv (.sc (.pointer none)) | some _=>.pc 1 0)) ([.cells 65 [.str v1.f0,.int .i64 v1.f1,fzL 1 (cInt .u8) v1.f2,.int .i64 v1.f3,.bool v1.f4]] ++ (match r with | none=>[] | some u=>[.cells 65 [.str u.f0,.int .i64 u.f1,fzL 1 (cInt .u8) u.f2,.int .i64 u.f3,.bool u.f4]])):=by
 refine ACall.of1 (FF 15 1) Try.func30 rfl Try.ntmps30 Try.results30 (zz rfl) rfl (by rcases r with _ | r <;> rfl) ?_
 refine AWp.seq ?_
 refine AWp.start [0] [] [] [0] 1 ⟨[(0,.pc 0 0)],[.cells 65 (c64 v1)]⟩ rfl ?_ (zz rfl) trivial ?_
 ·kernel_rfl
 refine AOps.nil ?_
 refine AWp.seq ?_
 refine AWp.seq ?_
 refine AWp.start [0] [1] [] [0,4] 1 ⟨[(0,.pc 0 0),(4,.pc 0 0)],[.cells 65 (c64 v1)]⟩ rfl ?_ (zz rfl) trivial ?_
 ·kernel_rfl
 obtain ⟨v2,hv2,h⟩:=of_bind h
 refine AOps.cons (AOne.callR (F:=(FF 15 1)) _ rfl rfl rfl _ rfl rfl _ _ rfl Try.call41 [] [.rp (c64 v1)] rfl trivial (f41_ok v1 hv2) (ind_of rfl) rfl) ?_
 refine AOps.keepTo [0,5] 1 ⟨[(0,.pc 0 0),(5,tB v2)],[.cells 65 (c64 v1)]⟩ ?_ (zz rfl) ?_
 ·kernel_rfl
 refine AOps.nil ?_
 refine AWp.cond rfl (fun hb=>?_) fun hb=>?_
 ·replace h:=of_true h hb
  refine AWp.keepTo [] 1 ⟨[],[.cells 65 (c64 v1)]⟩ ?_ (zz rfl) ?_
  ·kernel_rfl
  refine AWp.seq ?_
  refine AWp.start [0] [] [] [2] 1 ⟨[(2,.tv (.sc (.pointer none)))],[.cells 65 (c64 v1)]⟩ rfl ?_ (zz rfl) trivial ?_
  ·kernel_rfl
  refine AOps.nil ?_
  refine AWp.ret ?_
  cases h
  exact ⟨.inr rfl,rfl⟩
 ·replace h:=of_false h hb
  refine AWp.keepTo [0] 1 ⟨[(0,.pc 0 0)],[.cells 65 (c64 v1)]⟩ ?_ (zz rfl) ?_
  ·kernel_rfl
  refine AWp.skip ?_
  refine AWp.seq ?_
  refine AWp.start [0,1,2,3,4] [] [] [0,3] 2 ⟨[(0,.pc 0 0),(3,.pc 1 0)],[.cells 65 (c64 v1),.cells 65 (c64 v1)]⟩ rfl ?_ (zz rfl) trivial ?_
  ·kernel_rfl
  refine AOps.nil ?_
  refine AWp.seq ?_
  refine AWp.start [0,1,2,3] [4,5,6] [] [3,12] 2 ⟨[(3,.pc 1 0),(12,q0 v1.f2)],[.cells 65 (c64 v1),.cells 65 (c64 v1)]⟩ rfl ?_ (zz rfl) trivial ?_
  ·kernel_rfl
  obtain ⟨v3,hv3,h⟩:=of_bind h
  refine AOps.cons (AOne.callP (F:=(FF 15 1)) _ rfl rfl rfl _ rfl rfl _ _ rfl Try.call37 [q0 v1.f2] rfl rfl (f37_ok v1.f2 hv3) rfl) ?_
  refine AOps.freezeL 13 (cInt .u8) v3 rfl (fun _=>rfl) ?_
  refine AOps.go [5,6] [] [] [3] 2 ⟨[(3,.pc 1 0)],[.cells 65 (c64 v1),.cells 65 [.str v1.f0,.int .i64 v1.f1,k0 v3,.int .i64 v1.f3,.bool v1.f4]]⟩ ?_ (zz rfl) trivial ?_
  ·kernel_rfl
  refine AOps.nil ?_
  refine AWp.seq ?_
  refine AWp.start [0] [] [] [2] 2 ⟨[(2,.pc 1 0)],[.cells 65 (c64 v1),.cells 65 [.str v1.f0,.int .i64 v1.f1,k0 v3,.int .i64 v1.f3,.bool v1.f4]]⟩ rfl ?_ (zz rfl) trivial ?_
  ·kernel_rfl
  refine AOps.nil ?_
  refine AWp.ret ?_
  cases h
  exact ⟨.inr rfl,rfl⟩

noncomputable def f40 (v1:Int):Option (List Int) :=
 some [IntKind.wrap .u8 (w64 (Int.tdiv v1 (16777216:Int))),IntKind.wrap .u8 (Int.tmod (w64 (Int.tdiv v1 (65536:Int))) (256:Int)),IntKind.wrap .u8 (Int.tmod (w64 (Int.tdiv v1 (256:Int))) (256:Int)),IntKind.wrap .u8 (Int.tmod v1 (256:Int))]

theorem f40_ok (v1:Int) {r:(List Int)} (h:f40 v1 = some r):ACall Try.prog 40 [.tv (.int .i64 v1)] [] (.tv (ownL 1 5 (cInt .u8) r)) []:=by
 refine ACall.of1 (FF 18 0) Try.func40 rfl Try.ntmps40 Try.results40 (zz rfl) rfl rfl ?_
 refine AWp.seq ?_
 refine AWp.start [0] [] [] [0] 0 ⟨[(0,tI v1)],[]⟩ rfl ?_ z0 trivial ?_
 ·kernel_rfl
 refine AOps.nil ?_
 refine AWp.seq ?_
 refine AWp.start [0,1,2,3,4,5,6,7,8,9,10,11,12,13,14] [15] [(16777216:Int) ≠ (0:Int),(65536:Int) ≠ (0:Int),(256:Int) ≠ (0:Int),(256:Int) ≠ (0:Int),(256:Int) ≠ (0:Int),(256:Int) ≠ (0:Int)] [17] 0 ⟨[(17,.tv (.own 1 5 4 (newRowF [.int .u8 (IntKind.wrap .u8 (w64 (Int.tdiv v1 (16777216:Int)))),.int .u8 (IntKind.wrap .u8 (Int.tmod (w64 (Int.tdiv v1 (65536:Int))) (256:Int))),.int .u8 (IntKind.wrap .u8 (Int.tmod (w64 (Int.tdiv v1 (256:Int))) (256:Int))),.int .u8 (IntKind.wrap .u8 (Int.tmod v1 (256:Int)))] 1)))],[]⟩ rfl ?_ z0 ⟨(by decide:(16777216:Int) ≠ (0:Int)),(by decide:(65536:Int) ≠ (0:Int)),(by decide:(256:Int) ≠ (0:Int)),(by decide:(256:Int) ≠ (0:Int)),(by decide:(256:Int) ≠ (0:Int)),(by decide:(256:Int) ≠ (0:Int))⟩ ?_
 ·kernel_rfl
 refine AOps.extL 17 (cInt .u8) [IntKind.wrap .u8 (w64 (Int.tdiv v1 (16777216:Int))),IntKind.wrap .u8 (Int.tmod (w64 (Int.tdiv v1 (65536:Int))) (256:Int)),IntKind.wrap .u8 (Int.tmod (w64 (Int.tdiv v1 (256:Int))) (256:Int)),IntKind.wrap .u8 (Int.tmod v1 (256:Int))] rfl rfl (row_at (cInt .u8) 1 (fun _=>rfl) [IntKind.wrap .u8 (w64 (Int.tdiv v1 (16777216:Int))),IntKind.wrap .u8 (Int.tmod (w64 (Int.tdiv v1 (65536:Int))) (256:Int)),IntKind.wrap .u8 (Int.tmod (w64 (Int.tdiv v1 (256:Int))) (256:Int)),IntKind.wrap .u8 (Int.tmod v1 (256:Int))] _ rfl) ?_
 refine AOps.go [15] [] [] [2] 0 ⟨[(2,q1 [IntKind.wrap .u8 (w64 (Int.tdiv v1 (16777216:Int))),IntKind.wrap .u8 (Int.tmod (w64 (Int.tdiv v1 (65536:Int))) (256:Int)),IntKind.wrap .u8 (Int.tmod (w64 (Int.tdiv v1 (256:Int))) (256:Int)),IntKind.wrap .u8 (Int.tmod v1 (256:Int))])],[]⟩ ?_ z0 trivial ?_
 ·kernel_rfl
 refine AOps.nil ?_
 refine AWp.ret ?_
 cases h
 exact ⟨.inr rfl,rfl⟩

abbrev hp7 (v1:T78):List AObj:=[.cells 79 [.str v1.f0,.int .i64 v1.f1,fzL 1 (cSl 1 (cInt .u8)) v1.f2,.bool v1.f3,.int .i64 v1.f4,.bool v1.f5,k1 v1.f6]]

noncomputable def f50o_b1 (v1:T78) (v2:List Int) (v3:Int):Option (((List Int) × Int) ⊕ Out (List Int) (List Int)) :=
 cond (decide (v3 < (v1.f2.length:Int))) (if (0:Int) ≤ v3 ∧ v3 < (v1.f2.length:Int) then (f40 ((v1.f2.getD v3.toNat default).length:Int)).bind fun v5=>if (v2.length + v5.length) * 1 ≤ 140737488355328 then if (0:Int) ≤ v3 ∧ v3 < (v1.f2.length:Int) ∧ ((v2 ++ v5).length + (v1.f2.getD v3.toNat default).length) * 1 ≤ 140737488355328 then if (0:Int) ≤ v3 ∧ v3 < (v1.f2.length:Int) then (f40 ((v1.f2.getD v3.toNat default).length:Int)).bind fun v6=>if (((v2 ++ v5) ++ (v1.f2.getD v3.toNat default)).length + v6.length) * 1 ≤ 140737488355328 then some (.inl (((v2 ++ v5) ++ (v1.f2.getD v3.toNat default)) ++ v6,w64 (v3 + (1:Int)))) else none else none else none else none else none) (some (.inr (.go v2)))

noncomputable def f50o_j2 (v9:Int) (v11:List Int):Option (((List Int) × Int) ⊕ Out (List Int) (List Int)) :=
 some (.inl (v11,w64 (v9 + (1:Int))))

noncomputable def f50o_b3 (v1:T78) (v8:List Int) (v9:Int):Option (((List Int) × Int) ⊕ Out (List Int) (List Int)) :=
 cond (decide (v9 < (v1.f2.length:Int))) (if (0:Int) ≤ v9 ∧ v9 < (v1.f2.length:Int) ∧ (v8.length + (v1.f2.getD v9.toNat default).length) * 1 ≤ 140737488355328 then (cond (decide (v9 < w64 ((v1.f2.length:Int) - (1:Int)))) (some true) (some (!v1.f3))).bind fun v12=>cond v12 (if ((v8 ++ (v1.f2.getD v9.toNat default)).length + [(10:Int)].length) * 1 ≤ 140737488355328 then f50o_j2 v9 ((v8 ++ (v1.f2.getD v9.toNat default)) ++ [(10:Int)]) else none) (f50o_j2 v9 (v8 ++ (v1.f2.getD v9.toNat default))) else none) (some (.inr (.go v8)))

noncomputable def f50o (v1:T78):Option (List Int) :=
 cond (v1.f0 == ([114,101,99,111,114,100,115]:List UInt8)) ((iter (fun s=>f50o_b1 v1 s.1 s.2) ([],(0:Int))).bind fun y=>match y with | .ret v7=>some v7 | .go v4=>some v4) (cond (v1.f0 == ([108,105,110,101,115]:List UInt8)) ((iter (fun s=>f50o_b3 v1 s.1 s.2) ([],(0:Int))).bind fun y=>match y with | .ret v13=>some v13 | .go v10=>some v10) (if (([]:List Int).length + v1.f6.length) * 1 ≤ 140737488355328 then some (([]:List Int) ++ v1.f6) else none))

theorem f50o_ok (v1:T78) {r:(List Int)} (h:f50o v1 = some r):ACall Try.prog 50 [.pc 0 0] [.cells 79 [.str v1.f0,.int .i64 v1.f1,fzL 1 (cSl 1 (cInt .u8)) v1.f2,.bool v1.f3,.int .i64 v1.f4,.bool v1.f5,ownL 1 5 (cInt .u8) v1.f6]] (.tv (ownL 1 5 (cInt .u8) r)) [.cells 79 [.str v1.f0,.int .i64 v1.f1,fzL 1 (cSl 1 (cInt .u8)) v1.f2,.bool v1.f3,.int .i64 v1.f4,.bool v1.f5,ownL 1 5 (cInt .u8) v1.f6]]:=by
 refine ACall.of1 (FF 99 1) Try.func50 rfl Try.ntmps50 Try.results50 (zz rfl) rfl rfl ?_
 refine AWp.seq ?_
 refine AWp.start [0] [] [] [0] 1 ⟨[(0,.pc 0 0)],hp7 v1⟩ rfl ?_ (zz rfl) trivial ?_
 ·kernel_rfl
 refine AOps.nil ?_
 refine AWp.seq ?_
 refine AWp.seq ?_
 refine AWp.start [0,1,2,3] [] [] [0,10] 1 ⟨[(0,.pc 0 0),(10,tS v1.f0)],hp7 v1⟩ rfl ?_ (zz rfl) trivial ?_
 ·kernel_rfl
 refine AOps.nil ?_
 refine AWp.block ?_
 refine AWp.seq ?_
 refine AWp.start [0,1] [] [] [0,10,11] 1 ⟨[(0,.pc 0 0),(10,tS v1.f0),(11,tB (v1.f0 == ([114,101,99,111,114,100,115]:List UInt8)))],hp7 v1⟩ rfl ?_ (zz rfl) trivial ?_
 ·kernel_rfl
 refine AOps.nil ?_
 refine AWp.cond rfl (fun hb=>?_) fun hb=>?_
 ·replace h:=of_true h hb
  refine AWp.keepTo [0] 1 ⟨[(0,.pc 0 0)],hp7 v1⟩ ?_ (zz rfl) ?_
  ·kernel_rfl
  refine AWp.seq ?_
  refine AWp.start [0] [] [] [0,3] 1 ⟨[(0,.pc 0 0),(3,.tv (.sc (.slice none 0 0)))],hp7 v1⟩ rfl ?_ (zz rfl) trivial ?_
  ·kernel_rfl
  refine AOps.nil ?_
  refine AWp.seq ?_
  refine AWp.seq ?_
  refine AWp.start [0] [] [] [0,3,4] 1 ⟨[(0,.pc 0 0),(3,.tv (.sc (.slice none 0 0))),(4,tI (0:Int))],hp7 v1⟩ rfl ?_ (zz rfl) trivial ?_
  ·kernel_rfl
  refine AOps.nil ?_
  refine AWp.block ?_
  refine AWp.nilOwn 3 1 5 (fun i=>(cInt .u8) (([]:List Int).getD i default)) rfl ?_
  refine AWp.keepTo [0,3,4] 1 ⟨[(0,.pc 0 0),(3,q1 ([]:List Int)),(4,tI (0:Int))],hp7 v1⟩ ?_ (zz rfl) ?_
  ·kernel_rfl
  obtain ⟨y,hy,h⟩:=of_bind h
  refine AWp.mono (AWp.loop (S:=(List Int) × Int) (Y:=Out (List Int) (List Int)) (fun s=>⟨[(0,.pc 0 0),(3,q1 s.1),(4,tI s.2)],hp7 v1⟩) (fun s=>f50o_b1 v1 s.1 s.2) (fun y e σ=>match y with | .ret r=>e = .ret ∧ σ = ⟨[(2,q1 r)],hp7 v1⟩ | .go v=>e = .exit 1 ∧ σ = ⟨[(3,q1 v)],hp7 v1⟩) ?_ hy) ?_
  ·rintro ⟨v2,v3⟩ o h
   refine AWp.seq ?_
   refine AWp.seq ?_
   refine AWp.start [0,1,2,3,4,5,6] [] [] [0,3,4,19] 1 ⟨[(0,.pc 0 0),(3,q1 v2),(4,tI v3),(19,tB (decide (v3 < (v1.f2.length:Int))))],hp7 v1⟩ rfl ?_ (zz rfl) trivial ?_
   ·kernel_rfl
   refine AOps.nil ?_
   refine AWp.cond rfl (fun hb=>?_) fun hb=>?_
   ·replace h:=of_true h hb
    refine AWp.keepTo [0,3,4] 1 ⟨[(0,.pc 0 0),(3,q1 v2),(4,tI v3)],hp7 v1⟩ ?_ (zz rfl) ?_
    ·kernel_rfl
    refine AWp.skip ?_
    refine AWp.seq ?_
    refine AWp.block ?_
    refine AWp.seq ?_
    obtain ⟨hg,h⟩:=of_guard h
    refine AWp.start [0,1,2,3,4,5,6,7,8] [9,10,11] [(0:Int) ≤ v3,v3 < (v1.f2.length:Int)] [0,3,4,22,30] 1 ⟨[(0,.pc 0 0),(3,q1 v2),(4,tI v3),(22,.al (.slot 3 0,[])),(30,tI ((gD v1.f2 v3).length:Int))],hp7 v1⟩ rfl ?_ (zz rfl) ⟨hg.1,hg.2⟩ ?_
    ·kernel_rfl
    obtain ⟨v5,hv5,h⟩:=of_bind h
    refine AOps.cons (AOne.callP (F:=(FF 99 1)) _ rfl rfl rfl _ rfl rfl _ _ rfl Try.call40 [tI ((gD v1.f2 v3).length:Int)] rfl rfl (f40_ok ((gD v1.f2 v3).length:Int) hv5) rfl) ?_
    obtain ⟨hg,h⟩:=of_guard h
    refine AOps.go [10] [11] [(v2.length + v5.length) * 1 ≤ 140737488355328,PlainTo v2.length (fun i=>(cInt .u8) (v2.getD i default)),PlainTo v5.length (fun i=>(cInt .u8) (v5.getD i default))] [0,4,32] 1 ⟨[(0,.pc 0 0),(4,tI v3),(32,.tv (.own 1 5 (v2.length + v5.length) (appF v2.length (fun i=>(cInt .u8) (v2.getD i default)) (fun i=>(cInt .u8) (v5.getD i default)))))],hp7 v1⟩ ?_ (zz rfl) ⟨hg,(fun _ _=>rfl),(fun _ _=>rfl)⟩ ?_
    ·kernel_rfl
    refine AOps.extL 32 (cInt .u8) (v2 ++ v5) rfl List.length_append.symm (app_at (cInt .u8) v2 v5) ?_
    refine AOps.go [11] [] [] [0,3,4] 1 ⟨[(0,.pc 0 0),(3,q1 (v2 ++ v5)),(4,tI v3)],hp7 v1⟩ ?_ (zz rfl) trivial ?_
    ·kernel_rfl
    refine AOps.nil ?_
    refine AWp.seq ?_
    obtain ⟨hg,h⟩:=of_guard h
    refine AWp.start [0,1,2,3,4,5,6,7,8] [9] [(0:Int) ≤ v3,v3 < (v1.f2.length:Int),((v2 ++ v5).length + (gD v1.f2 v3).length) * 1 ≤ 140737488355328,PlainTo ((v2 ++ v5).length) (fun i=>(cInt .u8) ((v2 ++ v5).getD i default)),PlainTo ((gD v1.f2 v3).length) (fun i=>(cInt .u8) ((gD v1.f2 v3).getD i default))] [0,4,41] 1 ⟨[(0,.pc 0 0),(4,tI v3),(41,.tv (.own 1 5 ((v2 ++ v5).length + (gD v1.f2 v3).length) (appF ((v2 ++ v5).length) (fun i=>(cInt .u8) ((v2 ++ v5).getD i default)) (fun i=>(cInt .u8) ((gD v1.f2 v3).getD i default)))))],hp7 v1⟩ rfl ?_ (zz rfl) ⟨hg.1,hg.2.1,hg.2.2,(fun _ _=>rfl),(fun _ _=>rfl)⟩ ?_
    ·kernel_rfl
    refine AOps.extL 41 (cInt .u8) ((v2 ++ v5) ++ (gD v1.f2 v3)) rfl List.length_append.symm (app_at (cInt .u8) (v2 ++ v5) (gD v1.f2 v3)) ?_
    refine AOps.go [9] [] [] [0,3,4] 1 ⟨[(0,.pc 0 0),(3,q1 ((v2 ++ v5) ++ (gD v1.f2 v3))),(4,tI v3)],hp7 v1⟩ ?_ (zz rfl) trivial ?_
    ·kernel_rfl
    refine AOps.nil ?_
    obtain ⟨hg,h⟩:=of_guard h
    refine AWp.start [0,1,2,3,4,5,6,7,8] [9,10,11] [(0:Int) ≤ v3,v3 < (v1.f2.length:Int)] [0,3,4,42,50] 1 ⟨[(0,.pc 0 0),(3,q1 ((v2 ++ v5) ++ (gD v1.f2 v3))),(4,tI v3),(42,.al (.slot 3 0,[])),(50,tI ((gD v1.f2 v3).length:Int))],hp7 v1⟩ rfl ?_ (zz rfl) ⟨hg.1,hg.2⟩ ?_
    ·kernel_rfl
    obtain ⟨v6,hv6,h⟩:=of_bind h
    refine AOps.cons (AOne.callP (F:=(FF 99 1)) _ rfl rfl rfl _ rfl rfl _ _ rfl Try.call40 [tI ((gD v1.f2 v3).length:Int)] rfl rfl (f40_ok ((gD v1.f2 v3).length:Int) hv6) rfl) ?_
    obtain ⟨hg,h⟩:=of_guard h
    refine AOps.go [10] [11] [(((v2 ++ v5) ++ (gD v1.f2 v3)).length + v6.length) * 1 ≤ 140737488355328,PlainTo (((v2 ++ v5) ++ (gD v1.f2 v3)).length) (fun i=>(cInt .u8) (((v2 ++ v5) ++ (gD v1.f2 v3)).getD i default)),PlainTo v6.length (fun i=>(cInt .u8) (v6.getD i default))] [0,4,52] 1 ⟨[(0,.pc 0 0),(4,tI v3),(52,.tv (.own 1 5 (((v2 ++ v5) ++ (gD v1.f2 v3)).length + v6.length) (appF (((v2 ++ v5) ++ (gD v1.f2 v3)).length) (fun i=>(cInt .u8) (((v2 ++ v5) ++ (gD v1.f2 v3)).getD i default)) (fun i=>(cInt .u8) (v6.getD i default)))))],hp7 v1⟩ ?_ (zz rfl) ⟨hg,(fun _ _=>rfl),(fun _ _=>rfl)⟩ ?_
    ·kernel_rfl
    refine AOps.extL 52 (cInt .u8) (((v2 ++ v5) ++ (gD v1.f2 v3)) ++ v6) rfl List.length_append.symm (app_at (cInt .u8) ((v2 ++ v5) ++ (gD v1.f2 v3)) v6) ?_
    refine AOps.go [11] [] [] [0,3,4] 1 ⟨[(0,.pc 0 0),(3,q1 (((v2 ++ v5) ++ (gD v1.f2 v3)) ++ v6)),(4,tI v3)],hp7 v1⟩ ?_ (zz rfl) trivial ?_
    ·kernel_rfl
    refine AOps.nil ?_
    refine AWp.start [0,1,2] [] [] [0,3,4] 1 ⟨[(0,.pc 0 0),(3,q1 (((v2 ++ v5) ++ (gD v1.f2 v3)) ++ v6)),(4,tI (w64 (v3 + (1:Int))))],hp7 v1⟩ rfl ?_ (zz rfl) trivial ?_
    ·kernel_rfl
    refine AOps.nil ?_
    cases h
    exact Or.inl ⟨_,rfl,rfl,rfl⟩
   ·replace h:=of_false h hb
    refine AWp.keepTo [3] 1 ⟨[(3,q1 v2)],hp7 v1⟩ ?_ (zz rfl) ?_
    ·kernel_rfl
    refine AWp.exit ?_
    cases h
    exact Or.inr ⟨_,rfl,by simp,rfl,rfl⟩
  ·intro e σ hp
   rcases y with v7 | v4
   ·obtain ⟨rfl,rfl⟩:=hp
    cases h
    exact ⟨.inr rfl,rfl⟩
   ·obtain ⟨rfl,rfl⟩:=hp
    refine AWp.seq ?_
    refine AWp.start [0,1] [] [] [2,3] 1 ⟨[(2,.al (.slot 3 0,[])),(3,q1 v4)],hp7 v1⟩ rfl ?_ (zz rfl) trivial ?_
    ·kernel_rfl
    refine AOps.nil ?_
    refine AWp.claim 2 (.slot 3 0) (k1 v4) rfl rfl rfl rfl ?_
    refine AWp.keepTo [2] 1 ⟨[(2,q1 v4)],hp7 v1⟩ ?_ (zz rfl) ?_
    ·kernel_rfl
    refine AWp.ret ?_
    cases h
    exact ⟨.inr rfl,rfl⟩
 ·replace h:=of_false h hb
  refine AWp.keepTo [0,10] 1 ⟨[(0,.pc 0 0),(10,tS v1.f0)],hp7 v1⟩ ?_ (zz rfl) ?_
  ·kernel_rfl
  refine AWp.seq ?_
  refine AWp.start [0,1] [] [] [0,54] 1 ⟨[(0,.pc 0 0),(54,tB (v1.f0 == ([108,105,110,101,115]:List UInt8)))],hp7 v1⟩ rfl ?_ (zz rfl) trivial ?_
  ·kernel_rfl
  refine AOps.nil ?_
  refine AWp.cond rfl (fun hb=>?_) fun hb=>?_
  ·replace h:=of_true h hb
   refine AWp.keepTo [0] 1 ⟨[(0,.pc 0 0)],hp7 v1⟩ ?_ (zz rfl) ?_
   ·kernel_rfl
   refine AWp.seq ?_
   refine AWp.start [0] [] [] [0,5] 1 ⟨[(0,.pc 0 0),(5,.tv (.sc (.slice none 0 0)))],hp7 v1⟩ rfl ?_ (zz rfl) trivial ?_
   ·kernel_rfl
   refine AOps.nil ?_
   refine AWp.seq ?_
   refine AWp.seq ?_
   refine AWp.start [0] [] [] [0,5,6] 1 ⟨[(0,.pc 0 0),(5,.tv (.sc (.slice none 0 0))),(6,tI (0:Int))],hp7 v1⟩ rfl ?_ (zz rfl) trivial ?_
   ·kernel_rfl
   refine AOps.nil ?_
   refine AWp.block ?_
   refine AWp.nilOwn 5 1 5 (fun i=>(cInt .u8) (([]:List Int).getD i default)) rfl ?_
   refine AWp.keepTo [0,5,6] 1 ⟨[(0,.pc 0 0),(5,q1 ([]:List Int)),(6,tI (0:Int))],hp7 v1⟩ ?_ (zz rfl) ?_
   ·kernel_rfl
   obtain ⟨y,hy,h⟩:=of_bind h
   refine AWp.mono (AWp.loop (S:=(List Int) × Int) (Y:=Out (List Int) (List Int)) (fun s=>⟨[(0,.pc 0 0),(5,q1 s.1),(6,tI s.2)],hp7 v1⟩) (fun s=>f50o_b3 v1 s.1 s.2) (fun y e σ=>match y with | .ret r=>e = .ret ∧ σ = ⟨[(2,q1 r)],hp7 v1⟩ | .go v=>e = .exit 3 ∧ σ = ⟨[(5,q1 v)],hp7 v1⟩) ?_ hy) ?_
   ·rintro ⟨v8,v9⟩ o h
    refine AWp.seq ?_
    refine AWp.seq ?_
    refine AWp.start [0,1,2,3,4,5,6] [] [] [0,5,6,62] 1 ⟨[(0,.pc 0 0),(5,q1 v8),(6,tI v9),(62,tB (decide (v9 < (v1.f2.length:Int))))],hp7 v1⟩ rfl ?_ (zz rfl) trivial ?_
    ·kernel_rfl
    refine AOps.nil ?_
    refine AWp.cond rfl (fun hb=>?_) fun hb=>?_
    ·replace h:=of_true h hb
     refine AWp.keepTo [0,5,6] 1 ⟨[(0,.pc 0 0),(5,q1 v8),(6,tI v9)],hp7 v1⟩ ?_ (zz rfl) ?_
     ·kernel_rfl
     refine AWp.skip ?_
     refine AWp.join (V:=(List Int)) (fun w=>⟨[(0,.pc 0 0),(5,q1 w),(6,tI v9)],hp7 v1⟩) (fun w=>f50o_j2 v9 w = some o) ?_ ?_
     ·refine AWp.block ?_
      refine AWp.seq ?_
      obtain ⟨hg,h⟩:=of_guard h
      refine AWp.start [0,1,2,3,4,5,6,7,8] [9] [(0:Int) ≤ v9,v9 < (v1.f2.length:Int),(v8.length + (gD v1.f2 v9).length) * 1 ≤ 140737488355328,PlainTo v8.length (fun i=>(cInt .u8) (v8.getD i default)),PlainTo ((gD v1.f2 v9).length) (fun i=>(cInt .u8) ((gD v1.f2 v9).getD i default))] [0,6,73] 1 ⟨[(0,.pc 0 0),(6,tI v9),(73,.tv (.own 1 5 (v8.length + (gD v1.f2 v9).length) (appF v8.length (fun i=>(cInt .u8) (v8.getD i default)) (fun i=>(cInt .u8) ((gD v1.f2 v9).getD i default)))))],hp7 v1⟩ rfl ?_ (zz rfl) ⟨hg.1,hg.2.1,hg.2.2,(fun _ _=>rfl),(fun _ _=>rfl)⟩ ?_
      ·kernel_rfl
      refine AOps.extL 73 (cInt .u8) (v8 ++ (gD v1.f2 v9)) rfl List.length_append.symm (app_at (cInt .u8) v8 (gD v1.f2 v9)) ?_
      refine AOps.go [9] [] [] [0,5,6] 1 ⟨[(0,.pc 0 0),(5,q1 (v8 ++ (gD v1.f2 v9))),(6,tI v9)],hp7 v1⟩ ?_ (zz rfl) trivial ?_
      ·kernel_rfl
      refine AOps.nil ?_
      refine AWp.seq ?_
      refine AWp.start [0,1,2,3,4,5,6,7,8] [9,10,11,12,13,14] [] [0,5,6,82] 1 ⟨[(0,.pc 0 0),(5,q1 (v8 ++ (gD v1.f2 v9))),(6,tI v9),(82,tB (decide (v9 < w64 ((v1.f2.length:Int) - (1:Int)))))],hp7 v1⟩ rfl ?_ (zz rfl) trivial ?_
      ·kernel_rfl
      obtain ⟨v12,hc9,h⟩:=of_bind h
      refine AOps.cut [9,10,11,12,13,14] [] (fun σ=>σ = ⟨[(0,.pc 0 0),(5,q1 (v8 ++ (gD v1.f2 v9))),(6,tI v9),(88,tB v12)],hp7 v1⟩) ?_ fun σ' hJ=>?_
      ·refine AOps.split (fun b=>⟨[(0,.pc 0 0),(5,q1 (v8 ++ (gD v1.f2 v9))),(6,tI v9),(82,tB b)],hp7 v1⟩) _ (fun hb=>?_) fun hb=>?_
       ·replace hc9:=of_true hc9 hb
        refine AOps.go [9,10,11,12,13,14] [] [] [0,5,6,88] 1 ⟨[(0,.pc 0 0),(5,q1 (v8 ++ (gD v1.f2 v9))),(6,tI v9),(88,tB true)],hp7 v1⟩ ?_ (zz rfl) trivial ?_
        ·kernel_rfl
        cases hc9
        exact AOps.nil rfl
       ·replace hc9:=of_false hc9 hb
        refine AOps.go [9,10,11,12,13,14] [] [] [0,5,6,88] 1 ⟨[(0,.pc 0 0),(5,q1 (v8 ++ (gD v1.f2 v9))),(6,tI v9),(88,tB (!v1.f3))],hp7 v1⟩ ?_ (zz rfl) trivial ?_
        ·kernel_rfl
        cases hc9
        exact AOps.nil rfl
      subst hJ
      refine AOps.nil ?_
      refine AWp.cond rfl (fun hb=>?_) fun hb=>?_
      ·replace h:=of_true h hb
       refine AWp.keepTo [0,5,6] 1 ⟨[(0,.pc 0 0),(5,q1 (v8 ++ (gD v1.f2 v9))),(6,tI v9)],hp7 v1⟩ ?_ (zz rfl) ?_
       ·kernel_rfl
       refine AWp.start [0,1] [2,3] [] [0,5,6,89,90] 1 ⟨[(0,.pc 0 0),(5,q1 (v8 ++ (gD v1.f2 v9))),(6,tI v9),(89,.al (.slot 5 0,[])),(90,.tv (.own 1 5 1 (newRowF [.int .u8 (10:Int)] 1)))],hp7 v1⟩ rfl ?_ (zz rfl) trivial ?_
       ·kernel_rfl
       refine AOps.extL 90 (cInt .u8) [(10:Int)] rfl rfl (row_at (cInt .u8) 1 (fun _=>rfl) [(10:Int)] _ rfl) ?_
       obtain ⟨hg,h⟩:=of_guard h
       refine AOps.go [2] [3] [((v8 ++ (gD v1.f2 v9)).length + [(10:Int)].length) * 1 ≤ 140737488355328,PlainTo ((v8 ++ (gD v1.f2 v9)).length) (fun i=>(cInt .u8) ((v8 ++ (gD v1.f2 v9)).getD i default)),PlainTo ([(10:Int)].length) (fun i=>(cInt .u8) ([(10:Int)].getD i default))] [0,6,91] 1 ⟨[(0,.pc 0 0),(6,tI v9),(91,.tv (.own 1 5 ((v8 ++ (gD v1.f2 v9)).length + [(10:Int)].length) (appF ((v8 ++ (gD v1.f2 v9)).length) (fun i=>(cInt .u8) ((v8 ++ (gD v1.f2 v9)).getD i default)) (fun i=>(cInt .u8) ([(10:Int)].getD i default)))))],hp7 v1⟩ ?_ (zz rfl) ⟨hg,(fun _ _=>rfl),(fun _ _=>rfl)⟩ ?_
       ·kernel_rfl
       refine AOps.extL 91 (cInt .u8) ((v8 ++ (gD v1.f2 v9)) ++ [(10:Int)]) rfl List.length_append.symm (app_at (cInt .u8) (v8 ++ (gD v1.f2 v9)) [(10:Int)]) ?_
       refine AOps.go [3] [] [] [0,5,6] 1 ⟨[(0,.pc 0 0),(5,q1 ((v8 ++ (gD v1.f2 v9)) ++ [(10:Int)])),(6,tI v9)],hp7 v1⟩ ?_ (zz rfl) trivial ?_
       ·kernel_rfl
       refine AOps.nil ?_
       exact ⟨(v8 ++ (gD v1.f2 v9)) ++ [(10:Int)],h,rfl⟩
      ·replace h:=of_false h hb
       refine AWp.keepTo [0,5,6] 1 ⟨[(0,.pc 0 0),(5,q1 (v8 ++ (gD v1.f2 v9))),(6,tI v9)],hp7 v1⟩ ?_ (zz rfl) ?_
       ·kernel_rfl
       refine AWp.skip ?_
       exact ⟨v8 ++ (gD v1.f2 v9),h,rfl⟩
     ·rintro v11 h
      refine AWp.start [0,1,2] [] [] [0,5,6] 1 ⟨[(0,.pc 0 0),(5,q1 v11),(6,tI (w64 (v9 + (1:Int))))],hp7 v1⟩ rfl ?_ (zz rfl) trivial ?_
      ·kernel_rfl
      refine AOps.nil ?_
      cases h
      exact Or.inl ⟨_,rfl,rfl,rfl⟩
    ·replace h:=of_false h hb
     refine AWp.keepTo [5] 1 ⟨[(5,q1 v8)],hp7 v1⟩ ?_ (zz rfl) ?_
     ·kernel_rfl
     refine AWp.exit ?_
     cases h
     exact Or.inr ⟨_,rfl,by simp,rfl,rfl⟩
   ·intro e σ hp
    rcases y with v13 | v10
    ·obtain ⟨rfl,rfl⟩:=hp
     cases h
     exact ⟨.inr rfl,rfl⟩
    ·obtain ⟨rfl,rfl⟩:=hp
     refine AWp.seq ?_
     refine AWp.start [0,1] [] [] [2,5] 1 ⟨[(2,.al (.slot 5 0,[])),(5,q1 v10)],hp7 v1⟩ rfl ?_ (zz rfl) trivial ?_
     ·kernel_rfl
     refine AOps.nil ?_
     refine AWp.claim 2 (.slot 5 0) (k1 v10) rfl rfl rfl rfl ?_
     refine AWp.keepTo [2] 1 ⟨[(2,q1 v10)],hp7 v1⟩ ?_ (zz rfl) ?_
     ·kernel_rfl
     refine AWp.ret ?_
     cases h
     exact ⟨.inr rfl,rfl⟩
  ·replace h:=of_false h hb
   refine AWp.keepTo [0] 1 ⟨[(0,.pc 0 0)],hp7 v1⟩ ?_ (zz rfl) ?_
   ·kernel_rfl
   refine AWp.skip ?_
   refine AWp.seq ?_
   refine AWp.start [0] [1,2,3,4,5,6] [] [0,93] 1 ⟨[(0,.pc 0 0),(93,.tv (.own 1 5 0 (newRowF [] 1)))],hp7 v1⟩ rfl ?_ (zz rfl) trivial ?_
   ·kernel_rfl
   refine AOps.extL 93 (cInt .u8) ([]:List Int) rfl rfl (row_at (cInt .u8) 1 (fun _=>rfl) ([]:List Int) _ rfl) ?_
   obtain ⟨hg,h⟩:=of_guard h
   refine AOps.go [1,2,3,4,5] [6] [(([]:List Int).length + v1.f6.length) * 1 ≤ 140737488355328,PlainTo (([]:List Int).length) (fun i=>(cInt .u8) (([]:List Int).getD i default)),PlainTo v1.f6.length (fun i=>(cInt .u8) (v1.f6.getD i default))] [98] 1 ⟨[(98,.tv (.own 1 5 (([]:List Int).length + v1.f6.length) (appF (([]:List Int).length) (fun i=>(cInt .u8) (([]:List Int).getD i default)) (fun i=>(cInt .u8) (v1.f6.getD i default)))))],hp7 v1⟩ ?_ (zz rfl) ⟨hg,(fun _ _=>rfl),(fun _ _=>rfl)⟩ ?_
   ·kernel_rfl
   refine AOps.extL 98 (cInt .u8) (([]:List Int) ++ v1.f6) rfl List.length_append.symm (app_at (cInt .u8) ([]:List Int) v1.f6) ?_
   refine AOps.go [6] [] [] [2] 1 ⟨[(2,q1 (([]:List Int) ++ v1.f6))],hp7 v1⟩ ?_ (zz rfl) trivial ?_
   ·kernel_rfl
   refine AOps.nil ?_
   refine AWp.ret ?_
   cases h
   exact ⟨.inr rfl,rfl⟩

end Go.Sx.unit
