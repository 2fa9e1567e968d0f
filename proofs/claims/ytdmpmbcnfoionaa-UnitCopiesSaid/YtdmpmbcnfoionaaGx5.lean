/- Printed by program (wip/gen): plain functions and their walks; no condition. -/
import Derived.Test.YtdmpmbcnfoionaaGx4
namespace Go.Sx.unit
open Go Go.Sx Go.Proofs

abbrev hp18 (v3:T78):List AObj:=[.cells 79 [.str v3.f0,.int .i64 v3.f1,fzL 1 (cSl 1 (cInt .u8)) v3.f2,.bool v3.f3,.int .i64 v3.f4,.bool v3.f5,k1 v3.f6]]

noncomputable def f55o_j1 (v2:Int) (v3:T78) (v7:Int):Option ((List Int) × Int × T78) :=
 (cond (decide (v7 > (20001:Int))) (some true) (some (decide (w64 ((w64 (v7 - (1:Int))) + v2) > (v3.f6.length:Int))))).bind fun v8=>cond v8 (some (([]:List Int),(6:Int),T78.mk v3.f0 v3.f1 v3.f2 v3.f3 v3.f4 v3.f5 v3.f6)) (if (0:Int) ≤ w64 (v7 - (1:Int)) ∧ w64 (v7 - (1:Int)) ≤ w64 ((w64 (v7 - (1:Int))) + v2) ∧ w64 ((w64 (v7 - (1:Int))) + v2) ≤ (v3.f6.length:Int) ∧ (([]:List Int).length + ((Int.toNat (w64 ((w64 (v7 - (1:Int))) + v2))) - (Int.toNat (w64 (v7 - (1:Int)))))) * 1 ≤ 140737488355328 then some (([]:List Int) ++ (v3.f6.take (Int.toNat (w64 ((w64 (v7 - (1:Int))) + v2)))).drop (Int.toNat (w64 (v7 - (1:Int)))),(0:Int),T78.mk v3.f0 v3.f1 v3.f2 v3.f3 (w64 (v7 + v2)) v3.f5 v3.f6) else none)

noncomputable def f55o (v1:Int) (v2:Int) (v3:T78):Option ((List Int) × Int × T78) :=
 cond (v3.f0 == ([100,105,114,101,99,116]:List UInt8)) (cond (decide (v1 < (1:Int))) (some (([]:List Int),(2:Int),T78.mk v3.f0 v3.f1 v3.f2 v3.f3 v3.f4 v3.f5 v3.f6)) ((cond (decide (v1 > (20000:Int))) (some true) (some (decide (w64 (v1 * v3.f1) > (v3.f6.length:Int))))).bind fun v4=>cond v4 (some (([]:List Int),(5:Int),T78.mk v3.f0 v3.f1 v3.f2 v3.f3 v3.f4 v3.f5 v3.f6)) (if (0:Int) ≤ w64 ((w64 (v1 - (1:Int))) * v3.f1) ∧ w64 ((w64 (v1 - (1:Int))) * v3.f1) ≤ w64 (v1 * v3.f1) ∧ w64 (v1 * v3.f1) ≤ (v3.f6.length:Int) then if (([]:List Int).length + ((Int.toNat (w64 (v1 * v3.f1))) - (Int.toNat (w64 ((w64 (v1 - (1:Int))) * v3.f1))))) * 1 ≤ 140737488355328 then some (([]:List Int) ++ ((v3.f6.take (Int.toNat (w64 (v1 * v3.f1)))).drop (Int.toNat (w64 ((w64 (v1 - (1:Int))) * v3.f1)))),(0:Int),T78.mk v3.f0 v3.f1 v3.f2 v3.f3 v3.f4 v3.f5 v3.f6) else none else none))) (cond (v3.f0 == ([115,116,114,101,97,109]:List UInt8)) ((cond (decide (v1 < (0:Int))) (some true) (some (decide (v2 < (0:Int))))).bind fun v5=>(cond v5 (some true) (some (decide (v2 > (20000:Int))))).bind fun v6=>cond v6 (some (([]:List Int),(2:Int),T78.mk v3.f0 v3.f1 v3.f2 v3.f3 v3.f4 v3.f5 v3.f6)) (cond (v1 == (0:Int)) (f55o_j1 v2 v3 v3.f4) (f55o_j1 v2 v3 v1))) (some (([]:List Int),(110:Int),T78.mk v3.f0 v3.f1 v3.f2 v3.f3 v3.f4 v3.f5 v3.f6)))

theorem f55o_ok (v1:Int) (v2:Int) (v3:T78) {r:(List Int) × Int × T78} (h:f55o v1 v2 v3 = some r):ACall Try.prog 55 [.pc 0 0,.tv (.int .i64 v1),.tv (.int .i64 v2)] [.cells 79 [.str v3.f0,.int .i64 v3.f1,fzL 1 (cSl 1 (cInt .u8)) v3.f2,.bool v3.f3,.int .i64 v3.f4,.bool v3.f5,ownL 1 5 (cInt .u8) v3.f6]] (.tup [.tv (fzL 1 (cInt .u8) r.1),.tv (.int .i64 r.2.1)]) [.cells 79 [.str r.2.2.f0,.int .i64 r.2.2.f1,fzL 1 (cSl 1 (cInt .u8)) r.2.2.f2,.bool r.2.2.f3,.int .i64 r.2.2.f4,.bool r.2.2.f5,ownL 1 5 (cInt .u8) r.2.2.f6]]:=by
 refine ACall.ofN (FF 105 1) (rs:=[6,7]) (env:=[(6,q0 r.1),(7,tI r.2.1)]) Try.func55 rfl Try.ntmps55 Try.results55 (by decide) (by decide) rfl (zz rfl) rfl (get_ofN _ _ _ rfl) (ok_ofN _ rfl) ?_
 refine AWp.seq ?_
 refine AWp.start [0,1] [] [] [0,1,2] 1 ⟨[(0,.pc 0 0),(1,tI v1),(2,tI v2)],hp18 v3⟩ rfl ?_ (zz rfl) trivial ?_
 ·kernel_rfl
 refine AOps.nil ?_
 refine AWp.seq ?_
 refine AWp.seq ?_
 refine AWp.start [0,1,2,3] [] [] [0,1,2,11] 1 ⟨[(0,.pc 0 0),(1,tI v1),(2,tI v2),(11,tS v3.f0)],hp18 v3⟩ rfl ?_ (zz rfl) trivial ?_
 ·kernel_rfl
 refine AOps.nil ?_
 refine AWp.block ?_
 refine AWp.seq ?_
 refine AWp.start [0,1] [] [] [0,1,2,11,12] 1 ⟨[(0,.pc 0 0),(1,tI v1),(2,tI v2),(11,tS v3.f0),(12,tB (v3.f0 == ([100,105,114,101,99,116]:List UInt8)))],hp18 v3⟩ rfl ?_ (zz rfl) trivial ?_
 ·kernel_rfl
 refine AOps.nil ?_
 refine AWp.cond rfl (fun hb=>?_) fun hb=>?_
 ·replace h:=of_true h hb
  refine AWp.keepTo [0,1] 1 ⟨[(0,.pc 0 0),(1,tI v1)],hp18 v3⟩ ?_ (zz rfl) ?_
  ·kernel_rfl
  refine AWp.seq ?_
  refine AWp.block ?_
  refine AWp.seq ?_
  refine AWp.start [0,1,2] [] [] [0,1,14] 1 ⟨[(0,.pc 0 0),(1,tI v1),(14,tB (decide (v1 < (1:Int))))],hp18 v3⟩ rfl ?_ (zz rfl) trivial ?_
  ·kernel_rfl
  refine AOps.nil ?_
  refine AWp.cond rfl (fun hb=>?_) fun hb=>?_
  ·replace h:=of_true h hb
   refine AWp.keepTo [] 1 ⟨[],hp18 v3⟩ ?_ (zz rfl) ?_
   ·kernel_rfl
   refine AWp.seq ?_
   refine AWp.start [0,1] [] [] [6,7] 1 ⟨[(6,.tv (.sc (.slice none 0 0))),(7,tI (2:Int))],hp18 v3⟩ rfl ?_ (zz rfl) trivial ?_
   ·kernel_rfl
   refine AOps.nil ?_
   refine AWp.nilFz 6 1 (fun i=>(cInt .u8) (([]:List Int).getD i default)) rfl ?_
   refine AWp.keepTo [6,7] 1 ⟨[(6,q0 ([]:List Int)),(7,tI (2:Int))],hp18 v3⟩ ?_ (zz rfl) ?_
   ·kernel_rfl
   refine AWp.ret ?_
   cases h
   exact ⟨.inr rfl,rfl⟩
  ·replace h:=of_false h hb
   refine AWp.keepTo [0,1] 1 ⟨[(0,.pc 0 0),(1,tI v1)],hp18 v3⟩ ?_ (zz rfl) ?_
   ·kernel_rfl
   refine AWp.seq ?_
   obtain ⟨v4,hd,h⟩:=of_bind h
   refine AWp.draw FFm (fun σ=>σ = ⟨[(0,.pc 0 0),(1,tI v1),(17,tB v4)],hp18 v3⟩) (n:=17) rfl (ls:=#[n1,n1,n1,n1,n1,n1,n1,n1,n1,n1,n1,n1,n1,n1,n1,n1,n1]) rfl ?_ ?_
   ·refine AAny.go (by kernel_rfl) [0,1,2] (fuel':=14) rfl [] #[y1,y1,y1,n1,n1,n1,n1,n1,n1,n1,n1,n1,n1,n1,n1,n1,n1] [0,1,20] 1 ⟨[(0,.pc 0 0),(1,tI v1),(20,tB (decide (v1 > (20000:Int))))],hp18 v3⟩ ?_ (zz rfl) trivial ?_
    ·kernel_rfl
    refine AAny.split (fun b=>⟨[(0,.pc 0 0),(1,tI v1),(20,tB b)],hp18 v3⟩) _ (fun hb=>?_) fun hb=>?_
    ·replace hd:=of_true hd hb
     refine AAny.go (by kernel_rfl) [3,4,5,6,7,8,9,10,11,12,13,14,15,16] (fuel':=0) rfl [] #[y1,y1,y1,y1,y1,y1,y1,y1,y1,y1,y1,y1,y1,y1,y1,y1,y1] [0,1,17] 1 ⟨[(0,.pc 0 0),(1,tI v1),(17,tB true)],hp18 v3⟩ ?_ (zz rfl) trivial ?_
     ·kernel_rfl
     refine AAny.keepTo [0,1,17] 1 ⟨[(0,.pc 0 0),(1,tI v1),(17,tB true)],hp18 v3⟩ _ ?_ rfl (zz rfl) (AAny.done (by kernel_rfl) ?_)
     ·kernel_rfl
     cases hd
     exact rfl
    ·replace hd:=of_false hd hb
     refine AAny.go (by kernel_rfl) [3,4,5,6,9,10,11] (fuel':=7) rfl [] #[y1,y1,y1,y1,y1,y1,y1,n1,n1,y1,y1,y1,n1,n1,n1,n1,n1] [0,1,20,21,24,29] 1 ⟨[(0,.pc 0 0),(1,tI v1),(20,tB false),(21,tI v1),(24,.pc 0 1),(29,.pc 0 6)],hp18 v3⟩ ?_ (zz rfl) trivial ?_
     ·kernel_rfl
     refine AAny.share 0 #[y1,y1,y1,y1,y1,y1,y1,y1,y1,y1,y1,y1,y1,y1,y1,y1,y1] ⟨[(0,.pc 0 0),(1,tI v1),(17,tB (decide (w64 (v1 * v3.f1) > (v3.f6.length:Int))))],hp18 v3⟩ ?_ fun n3_=>?_
     ·refine AAny.keepTo [0,1,17] 1 ⟨[(0,.pc 0 0),(1,tI v1),(17,tB (decide (w64 (v1 * v3.f1) > (v3.f6.length:Int))))],hp18 v3⟩ _ ?_ rfl (zz rfl) (AAny.done (by kernel_rfl) ?_)
      ·kernel_rfl
      cases hd
      exact rfl
     refine AAny.share 5 #[y1,y1,y1,y1,y1,y1,y1,n1,n1,y1,y1,y1,y1,y1,n1,n1,n1] ⟨[(0,.pc 0 0),(1,tI v1),(20,tB false),(21,tI v1),(24,.pc 0 1),(31,tI (v3.f6.length:Int))],hp18 v3⟩ ?_ fun n2_=>?_
     ·refine AAny.each [7] (by kernel_rfl) rfl ?_
      refine AEach.step (i:=7) [] #[y1,y1,y1,y1,y1,y1,y1,y1,n1,y1,y1,y1,y1,y1,n1,n1,n1] rfl [0,1,20,21,25,31] 1 ⟨[(0,.pc 0 0),(1,tI v1),(20,tB false),(21,tI v1),(25,tI v3.f1),(31,tI (v3.f6.length:Int))],hp18 v3⟩ ?_ (zz rfl) trivial ?_ ?_
      ·kernel_rfl
      ·refine AAny.go (by kernel_rfl) [8,14,15,16] (fuel':=0) rfl [] #[y1,y1,y1,y1,y1,y1,y1,y1,y1,y1,y1,y1,y1,y1,y1,y1,y1] [0,1,17] 1 ⟨[(0,.pc 0 0),(1,tI v1),(17,tB (decide (w64 (v1 * v3.f1) > (v3.f6.length:Int))))],hp18 v3⟩ ?_ (zz rfl) trivial ?_
       ·kernel_rfl
       exact n3_
      exact AEach.nil
     refine AAny.share 5 #[y1,y1,y1,y1,y1,y1,y1,y1,y1,y1,y1,y1,n1,n1,n1,n1,n1] ⟨[(0,.pc 0 0),(1,tI v1),(20,tB false),(26,tI (w64 (v1 * v3.f1))),(29,.pc 0 6)],hp18 v3⟩ ?_ fun n1_=>?_
     ·refine AAny.each [12] (by kernel_rfl) rfl ?_
      refine AEach.step (i:=12) [] #[y1,y1,y1,y1,y1,y1,y1,y1,y1,y1,y1,y1,y1,n1,n1,n1,n1] rfl [0,1,20,26,30] 1 ⟨[(0,.pc 0 0),(1,tI v1),(20,tB false),(26,tI (w64 (v1 * v3.f1))),(30,.al (.cell 0 6,[]))],hp18 v3⟩ ?_ (zz rfl) trivial ?_ ?_
      ·kernel_rfl
      ·refine AAny.go (by kernel_rfl) [13,14,15,16] (fuel':=0) rfl [] #[y1,y1,y1,y1,y1,y1,y1,y1,y1,y1,y1,y1,y1,y1,y1,y1,y1] [0,1,17] 1 ⟨[(0,.pc 0 0),(1,tI v1),(17,tB (decide (w64 (v1 * v3.f1) > (v3.f6.length:Int))))],hp18 v3⟩ ?_ (zz rfl) trivial ?_
       ·kernel_rfl
       exact n3_
      exact AEach.nil
     refine AAny.each [7,12] (by kernel_rfl) rfl ?_
     refine AEach.step (i:=7) [] #[y1,y1,y1,y1,y1,y1,y1,y1,n1,y1,y1,y1,n1,n1,n1,n1,n1] rfl [0,1,20,21,25,29] 1 ⟨[(0,.pc 0 0),(1,tI v1),(20,tB false),(21,tI v1),(25,tI v3.f1),(29,.pc 0 6)],hp18 v3⟩ ?_ (zz rfl) trivial ?_ ?_
     ·kernel_rfl
     ·refine AAny.go (by kernel_rfl) [8] (fuel':=5) rfl [] #[y1,y1,y1,y1,y1,y1,y1,y1,y1,y1,y1,y1,n1,n1,n1,n1,n1] [0,1,20,26,29] 1 ⟨[(0,.pc 0 0),(1,tI v1),(20,tB false),(26,tI (w64 (v1 * v3.f1))),(29,.pc 0 6)],hp18 v3⟩ ?_ (zz rfl) trivial ?_
      ·kernel_rfl
      exact n1_
     refine AEach.step (i:=12) [] #[y1,y1,y1,y1,y1,y1,y1,n1,n1,y1,y1,y1,y1,n1,n1,n1,n1] rfl [0,1,20,21,24,30] 1 ⟨[(0,.pc 0 0),(1,tI v1),(20,tB false),(21,tI v1),(24,.pc 0 1),(30,.al (.cell 0 6,[]))],hp18 v3⟩ ?_ (zz rfl) trivial ?_ ?_
     ·kernel_rfl
     ·refine AAny.go (by kernel_rfl) [13] (fuel':=5) rfl [] #[y1,y1,y1,y1,y1,y1,y1,n1,n1,y1,y1,y1,y1,y1,n1,n1,n1] [0,1,20,21,24,31] 1 ⟨[(0,.pc 0 0),(1,tI v1),(20,tB false),(21,tI v1),(24,.pc 0 1),(31,tI (v3.f6.length:Int))],hp18 v3⟩ ?_ (zz rfl) trivial ?_
      ·kernel_rfl
      exact n2_
     exact AEach.nil
   rintro σ' rfl
   refine AWp.cond rfl (fun hb=>?_) fun hb=>?_
   ·replace h:=of_true h hb
    refine AWp.keepTo [] 1 ⟨[],hp18 v3⟩ ?_ (zz rfl) ?_
    ·kernel_rfl
    refine AWp.seq ?_
    refine AWp.start [0,1] [] [] [6,7] 1 ⟨[(6,.tv (.sc (.slice none 0 0))),(7,tI (5:Int))],hp18 v3⟩ rfl ?_ (zz rfl) trivial ?_
    ·kernel_rfl
    refine AOps.nil ?_
    refine AWp.nilFz 6 1 (fun i=>(cInt .u8) (([]:List Int).getD i default)) rfl ?_
    refine AWp.keepTo [6,7] 1 ⟨[(6,q0 ([]:List Int)),(7,tI (5:Int))],hp18 v3⟩ ?_ (zz rfl) ?_
    ·kernel_rfl
    refine AWp.ret ?_
    cases h
    exact ⟨.inr rfl,rfl⟩
   ·replace h:=of_false h hb
    refine AWp.keepTo [0,1] 1 ⟨[(0,.pc 0 0),(1,tI v1)],hp18 v3⟩ ?_ (zz rfl) ?_
    ·kernel_rfl
    refine AWp.skip ?_
    refine AWp.seq ?_
    refine AWp.draw FFm _ (n:=22) rfl (ls:=#[n1,n1,n1,n1,n1,n1,n1,n1,n1,n1,n1,n1,n1,n1,n1,n1,n1,n1,n1,n1,n1,n1]) rfl ?_ (fun _ h=>h)
    refine AAny.go (by kernel_rfl) [1,2,3,5,6,7,8,9,12,13,14,15] (fuel':=10) rfl [] #[n1,y1,y1,y1,n1,y1,y1,y1,y1,y1,n1,n1,y1,y1,y1,y1,n1,n1,n1,n1,n1,n1] [37,40,43,46,49] 1 ⟨[(37,.pc 0 6),(40,tI (w64 (v1 - (1:Int)))),(43,.pc 0 1),(46,tI v1),(49,.pc 0 1)],hp18 v3⟩ ?_ (zz rfl) trivial ?_
    ·kernel_rfl
    obtain ⟨hd4,h⟩:=of_guard h
    refine AAny.share 3 #[y1,y1,y1,y1,y1,y1,y1,y1,y1,y1,y1,y1,y1,y1,y1,y1,y1,y1,y1,n1,n1,n1] ⟨[(34,q1 ([]:List Int)),(52,.cut (.cell 0 6,[]) (Int.toNat (w64 ((w64 (v1 - (1:Int))) * v3.f1))) ((Int.toNat (w64 (v1 * v3.f1))) - (Int.toNat (w64 ((w64 (v1 - (1:Int))) * v3.f1)))))],hp18 v3⟩ ?_ fun n10_=>?_
    ·obtain ⟨hg,h⟩:=of_guard h
     refine AAny.step (i:=19) (fuel':=2) rfl (by kernel_rfl) [(([]:List Int).length + ((Int.toNat (w64 (v1 * v3.f1))) - (Int.toNat (w64 ((w64 (v1 - (1:Int))) * v3.f1))))) * 1 ≤ 140737488355328,PlainTo (([]:List Int).length) (fun i=>(cInt .u8) (([]:List Int).getD i default)),PlainTo ((Int.toNat (w64 (v1 * v3.f1))) - (Int.toNat (w64 ((w64 (v1 - (1:Int))) * v3.f1)))) (fun i=>(cInt .u8) (v3.f6.getD ((Int.toNat (w64 ((w64 (v1 - (1:Int))) * v3.f1))) + i) default))] #[y1,y1,y1,y1,y1,y1,y1,y1,y1,y1,y1,y1,y1,y1,y1,y1,y1,y1,y1,y1,n1,n1] rfl [53] 1 ⟨[(53,.tv (.own 1 5 (([]:List Int).length + ((Int.toNat (w64 (v1 * v3.f1))) - (Int.toNat (w64 ((w64 (v1 - (1:Int))) * v3.f1))))) (appF (([]:List Int).length) (fun i=>(cInt .u8) (([]:List Int).getD i default)) (fun i=>(cInt .u8) (v3.f6.getD ((Int.toNat (w64 ((w64 (v1 - (1:Int))) * v3.f1))) + i) default)))))],hp18 v3⟩ ?_ (zz rfl) ⟨hg,(fun _ _=>rfl),(fun _ _=>rfl)⟩ ?_
     ·kernel_rfl
     refine AAny.extL 53 (cInt .u8) (([]:List Int) ++ ((v3.f6.take (Int.toNat (w64 (v1 * v3.f1)))).drop (Int.toNat (w64 ((w64 (v1 - (1:Int))) * v3.f1))))) rfl (cutApp_len v3.f6 ([]:List Int) (Int.toNat (w64 ((w64 (v1 - (1:Int))) * v3.f1))) (Int.toNat (w64 (v1 * v3.f1))) (by omega)) (cutApp_at (cInt .u8) v3.f6 ([]:List Int) (Int.toNat (w64 ((w64 (v1 - (1:Int))) * v3.f1))) (Int.toNat (w64 (v1 * v3.f1))) (by omega)) ?_
     refine AAny.step (i:=20) (fuel':=1) rfl (by kernel_rfl) [] #[y1,y1,y1,y1,y1,y1,y1,y1,y1,y1,y1,y1,y1,y1,y1,y1,y1,y1,y1,y1,y1,n1] rfl [6] 1 ⟨[(6,q1 (([]:List Int) ++ ((v3.f6.take (Int.toNat (w64 (v1 * v3.f1)))).drop (Int.toNat (w64 ((w64 (v1 - (1:Int))) * v3.f1))))))],hp18 v3⟩ ?_ (zz rfl) trivial ?_
     ·kernel_rfl
     refine AAny.go (by kernel_rfl) [21] (fuel':=0) rfl [] #[y1,y1,y1,y1,y1,y1,y1,y1,y1,y1,y1,y1,y1,y1,y1,y1,y1,y1,y1,y1,y1,y1] [6,7] 1 ⟨[(6,q1 (([]:List Int) ++ ((v3.f6.take (Int.toNat (w64 (v1 * v3.f1)))).drop (Int.toNat (w64 ((w64 (v1 - (1:Int))) * v3.f1)))))),(7,tI (0:Int))],hp18 v3⟩ ?_ (zz rfl) trivial ?_
     ·kernel_rfl
     refine AAny.keepTo [6,7] 1 ⟨[(6,q1 (([]:List Int) ++ ((v3.f6.take (Int.toNat (w64 (v1 * v3.f1)))).drop (Int.toNat (w64 ((w64 (v1 - (1:Int))) * v3.f1)))))),(7,tI (0:Int))],hp18 v3⟩ _ ?_ rfl (zz rfl) (AAny.done (by kernel_rfl) ?_)
     ·kernel_rfl
     refine AWp.freezeL 6 (cInt .u8) (([]:List Int) ++ ((v3.f6.take (Int.toNat (w64 (v1 * v3.f1)))).drop (Int.toNat (w64 ((w64 (v1 - (1:Int))) * v3.f1))))) rfl (fun _=>rfl) ?_
     refine AWp.keepTo [6,7] 1 ⟨[(6,q0 (([]:List Int) ++ ((v3.f6.take (Int.toNat (w64 (v1 * v3.f1)))).drop (Int.toNat (w64 ((w64 (v1 - (1:Int))) * v3.f1)))))),(7,tI (0:Int))],hp18 v3⟩ ?_ (zz rfl) ?_
     ·kernel_rfl
     refine AWp.ret ?_
     cases h
     exact ⟨.inr rfl,rfl⟩
    refine AAny.share 4 #[n1,y1,y1,y1,y1,y1,y1,y1,y1,y1,y1,y1,y1,y1,y1,y1,y1,y1,y1,n1,n1,n1] ⟨[(52,.cut (.cell 0 6,[]) (Int.toNat (w64 ((w64 (v1 - (1:Int))) * v3.f1))) ((Int.toNat (w64 (v1 * v3.f1))) - (Int.toNat (w64 ((w64 (v1 - (1:Int))) * v3.f1)))))],hp18 v3⟩ ?_ fun n9_=>?_
    ·refine AAny.each [0] (by kernel_rfl) rfl ?_
     refine AEach.step (i:=0) [] #[y1,y1,y1,y1,y1,y1,y1,y1,y1,y1,y1,y1,y1,y1,y1,y1,y1,y1,y1,n1,n1,n1] rfl [34,52] 1 ⟨[(34,.tv (.own 1 5 0 (newRowF [] 1))),(52,.cut (.cell 0 6,[]) (Int.toNat (w64 ((w64 (v1 - (1:Int))) * v3.f1))) ((Int.toNat (w64 (v1 * v3.f1))) - (Int.toNat (w64 ((w64 (v1 - (1:Int))) * v3.f1)))))],hp18 v3⟩ ?_ (zz rfl) trivial ?_ ?_
     ·kernel_rfl
     ·refine AAny.extL 34 (cInt .u8) ([]:List Int) rfl rfl (row_at (cInt .u8) 1 (fun _=>rfl) ([]:List Int) _ rfl) ?_
      refine AAny.keepTo [34,52] 1 ⟨[(34,q1 ([]:List Int)),(52,.cut (.cell 0 6,[]) (Int.toNat (w64 ((w64 (v1 - (1:Int))) * v3.f1))) ((Int.toNat (w64 (v1 * v3.f1))) - (Int.toNat (w64 ((w64 (v1 - (1:Int))) * v3.f1)))))],hp18 v3⟩ #[y1,y1,y1,y1,y1,y1,y1,y1,y1,y1,y1,y1,y1,y1,y1,y1,y1,y1,y1,n1,n1,n1] ?_ rfl (zz rfl) ?_
      ·kernel_rfl
      exact n10_
     exact AEach.nil
    refine AAny.share 5 #[y1,y1,y1,y1,n1,y1,y1,y1,y1,y1,y1,y1,y1,y1,y1,y1,y1,y1,n1,n1,n1,n1] ⟨[(34,q1 ([]:List Int)),(37,.pc 0 6),(45,tI (w64 ((w64 (v1 - (1:Int))) * v3.f1))),(51,tI (w64 (v1 * v3.f1)))],hp18 v3⟩ ?_ fun n8_=>?_
    ·refine AAny.each [4] (by kernel_rfl) rfl ?_
     refine AEach.step (i:=4) [] #[y1,y1,y1,y1,y1,y1,y1,y1,y1,y1,y1,y1,y1,y1,y1,y1,y1,y1,n1,n1,n1,n1] rfl [34,38,45,51] 1 ⟨[(34,q1 ([]:List Int)),(38,.al (.cell 0 6,[])),(45,tI (w64 ((w64 (v1 - (1:Int))) * v3.f1))),(51,tI (w64 (v1 * v3.f1)))],hp18 v3⟩ ?_ (zz rfl) trivial ?_ ?_
     ·kernel_rfl
     ·refine AAny.go (by kernel_rfl) [18] (fuel':=3) rfl [(0:Int) ≤ w64 ((w64 (v1 - (1:Int))) * v3.f1),w64 ((w64 (v1 - (1:Int))) * v3.f1) ≤ w64 (v1 * v3.f1),w64 (v1 * v3.f1) ≤ (v3.f6.length:Int)] #[y1,y1,y1,y1,y1,y1,y1,y1,y1,y1,y1,y1,y1,y1,y1,y1,y1,y1,y1,n1,n1,n1] [34,52] 1 ⟨[(34,q1 ([]:List Int)),(52,.cut (.cell 0 6,[]) (Int.toNat (w64 ((w64 (v1 - (1:Int))) * v3.f1))) ((Int.toNat (w64 (v1 * v3.f1))) - (Int.toNat (w64 ((w64 (v1 - (1:Int))) * v3.f1)))))],hp18 v3⟩ ?_ (zz rfl) ⟨hd4.1,hd4.2.1,hd4.2.2⟩ ?_
      ·kernel_rfl
      exact n10_
     exact AEach.nil
    refine AAny.share 6 #[n1,y1,y1,y1,n1,y1,y1,y1,y1,y1,y1,y1,y1,y1,y1,y1,y1,y1,n1,n1,n1,n1] ⟨[(37,.pc 0 6),(45,tI (w64 ((w64 (v1 - (1:Int))) * v3.f1))),(51,tI (w64 (v1 * v3.f1)))],hp18 v3⟩ ?_ fun n7_=>?_
    ·refine AAny.each [0,4] (by kernel_rfl) rfl ?_
     refine AEach.step (i:=0) [] #[y1,y1,y1,y1,n1,y1,y1,y1,y1,y1,y1,y1,y1,y1,y1,y1,y1,y1,n1,n1,n1,n1] rfl [34,37,45,51] 1 ⟨[(34,.tv (.own 1 5 0 (newRowF [] 1))),(37,.pc 0 6),(45,tI (w64 ((w64 (v1 - (1:Int))) * v3.f1))),(51,tI (w64 (v1 * v3.f1)))],hp18 v3⟩ ?_ (zz rfl) trivial ?_ ?_
     ·kernel_rfl
     ·refine AAny.extL 34 (cInt .u8) ([]:List Int) rfl rfl (row_at (cInt .u8) 1 (fun _=>rfl) ([]:List Int) _ rfl) ?_
      refine AAny.keepTo [34,37,45,51] 1 ⟨[(34,q1 ([]:List Int)),(37,.pc 0 6),(45,tI (w64 ((w64 (v1 - (1:Int))) * v3.f1))),(51,tI (w64 (v1 * v3.f1)))],hp18 v3⟩ #[y1,y1,y1,y1,n1,y1,y1,y1,y1,y1,y1,y1,y1,y1,y1,y1,y1,y1,n1,n1,n1,n1] ?_ rfl (zz rfl) ?_
      ·kernel_rfl
      exact n8_
     refine AEach.step (i:=4) [] #[n1,y1,y1,y1,y1,y1,y1,y1,y1,y1,y1,y1,y1,y1,y1,y1,y1,y1,n1,n1,n1,n1] rfl [38,45,51] 1 ⟨[(38,.al (.cell 0 6,[])),(45,tI (w64 ((w64 (v1 - (1:Int))) * v3.f1))),(51,tI (w64 (v1 * v3.f1)))],hp18 v3⟩ ?_ (zz rfl) trivial ?_ ?_
     ·kernel_rfl
     ·refine AAny.go (by kernel_rfl) [18] (fuel':=4) rfl [(0:Int) ≤ w64 ((w64 (v1 - (1:Int))) * v3.f1),w64 ((w64 (v1 - (1:Int))) * v3.f1) ≤ w64 (v1 * v3.f1),w64 (v1 * v3.f1) ≤ (v3.f6.length:Int)] #[n1,y1,y1,y1,y1,y1,y1,y1,y1,y1,y1,y1,y1,y1,y1,y1,y1,y1,y1,n1,n1,n1] [52] 1 ⟨[(52,.cut (.cell 0 6,[]) (Int.toNat (w64 ((w64 (v1 - (1:Int))) * v3.f1))) ((Int.toNat (w64 (v1 * v3.f1))) - (Int.toNat (w64 ((w64 (v1 - (1:Int))) * v3.f1)))))],hp18 v3⟩ ?_ (zz rfl) ⟨hd4.1,hd4.2.1,hd4.2.2⟩ ?_
      ·kernel_rfl
      exact n9_
     exact AEach.nil
    refine AAny.share 6 #[y1,y1,y1,y1,y1,y1,y1,y1,y1,y1,n1,n1,y1,y1,y1,y1,y1,y1,n1,n1,n1,n1] ⟨[(34,q1 ([]:List Int)),(38,.al (.cell 0 6,[])),(40,tI (w64 (v1 - (1:Int)))),(43,.pc 0 1),(51,tI (w64 (v1 * v3.f1)))],hp18 v3⟩ ?_ fun n11_=>?_
    ·refine AAny.each [10] (by kernel_rfl) rfl ?_
     refine AEach.step (i:=10) [] #[y1,y1,y1,y1,y1,y1,y1,y1,y1,y1,y1,n1,y1,y1,y1,y1,y1,y1,n1,n1,n1,n1] rfl [34,38,40,44,51] 1 ⟨[(34,q1 ([]:List Int)),(38,.al (.cell 0 6,[])),(40,tI (w64 (v1 - (1:Int)))),(44,tI v3.f1),(51,tI (w64 (v1 * v3.f1)))],hp18 v3⟩ ?_ (zz rfl) trivial ?_ ?_
     ·kernel_rfl
     ·refine AAny.go (by kernel_rfl) [11,18] (fuel':=3) rfl [(0:Int) ≤ w64 ((w64 (v1 - (1:Int))) * v3.f1),w64 ((w64 (v1 - (1:Int))) * v3.f1) ≤ w64 (v1 * v3.f1),w64 (v1 * v3.f1) ≤ (v3.f6.length:Int)] #[y1,y1,y1,y1,y1,y1,y1,y1,y1,y1,y1,y1,y1,y1,y1,y1,y1,y1,y1,n1,n1,n1] [34,52] 1 ⟨[(34,q1 ([]:List Int)),(52,.cut (.cell 0 6,[]) (Int.toNat (w64 ((w64 (v1 - (1:Int))) * v3.f1))) ((Int.toNat (w64 (v1 * v3.f1))) - (Int.toNat (w64 ((w64 (v1 - (1:Int))) * v3.f1)))))],hp18 v3⟩ ?_ (zz rfl) ⟨hd4.1,hd4.2.1,hd4.2.2⟩ ?_
      ·kernel_rfl
      exact n10_
     exact AEach.nil
    refine AAny.share 6 #[y1,y1,y1,y1,y1,y1,y1,y1,y1,y1,y1,y1,y1,y1,y1,y1,n1,n1,n1,n1,n1,n1] ⟨[(34,q1 ([]:List Int)),(38,.al (.cell 0 6,[])),(45,tI (w64 ((w64 (v1 - (1:Int))) * v3.f1))),(46,tI v1),(49,.pc 0 1)],hp18 v3⟩ ?_ fun n14_=>?_
    ·refine AAny.each [16] (by kernel_rfl) rfl ?_
     refine AEach.step (i:=16) [] #[y1,y1,y1,y1,y1,y1,y1,y1,y1,y1,y1,y1,y1,y1,y1,y1,y1,n1,n1,n1,n1,n1] rfl [34,38,45,46,50] 1 ⟨[(34,q1 ([]:List Int)),(38,.al (.cell 0 6,[])),(45,tI (w64 ((w64 (v1 - (1:Int))) * v3.f1))),(46,tI v1),(50,tI v3.f1)],hp18 v3⟩ ?_ (zz rfl) trivial ?_ ?_
     ·kernel_rfl
     ·refine AAny.go (by kernel_rfl) [17,18] (fuel':=3) rfl [(0:Int) ≤ w64 ((w64 (v1 - (1:Int))) * v3.f1),w64 ((w64 (v1 - (1:Int))) * v3.f1) ≤ w64 (v1 * v3.f1),w64 (v1 * v3.f1) ≤ (v3.f6.length:Int)] #[y1,y1,y1,y1,y1,y1,y1,y1,y1,y1,y1,y1,y1,y1,y1,y1,y1,y1,y1,n1,n1,n1] [34,52] 1 ⟨[(34,q1 ([]:List Int)),(52,.cut (.cell 0 6,[]) (Int.toNat (w64 ((w64 (v1 - (1:Int))) * v3.f1))) ((Int.toNat (w64 (v1 * v3.f1))) - (Int.toNat (w64 ((w64 (v1 - (1:Int))) * v3.f1)))))],hp18 v3⟩ ?_ (zz rfl) ⟨hd4.1,hd4.2.1,hd4.2.2⟩ ?_
      ·kernel_rfl
      exact n10_
     exact AEach.nil
    refine AAny.share 7 #[n1,y1,y1,y1,y1,y1,y1,y1,y1,y1,n1,n1,y1,y1,y1,y1,y1,y1,n1,n1,n1,n1] ⟨[(38,.al (.cell 0 6,[])),(40,tI (w64 (v1 - (1:Int)))),(43,.pc 0 1),(51,tI (w64 (v1 * v3.f1)))],hp18 v3⟩ ?_ fun n6_=>?_
    ·refine AAny.each [0,10] (by kernel_rfl) rfl ?_
     refine AEach.step (i:=0) [] #[y1,y1,y1,y1,y1,y1,y1,y1,y1,y1,n1,n1,y1,y1,y1,y1,y1,y1,n1,n1,n1,n1] rfl [34,38,40,43,51] 1 ⟨[(34,.tv (.own 1 5 0 (newRowF [] 1))),(38,.al (.cell 0 6,[])),(40,tI (w64 (v1 - (1:Int)))),(43,.pc 0 1),(51,tI (w64 (v1 * v3.f1)))],hp18 v3⟩ ?_ (zz rfl) trivial ?_ ?_
     ·kernel_rfl
     ·refine AAny.extL 34 (cInt .u8) ([]:List Int) rfl rfl (row_at (cInt .u8) 1 (fun _=>rfl) ([]:List Int) _ rfl) ?_
      refine AAny.keepTo [34,38,40,43,51] 1 ⟨[(34,q1 ([]:List Int)),(38,.al (.cell 0 6,[])),(40,tI (w64 (v1 - (1:Int)))),(43,.pc 0 1),(51,tI (w64 (v1 * v3.f1)))],hp18 v3⟩ #[y1,y1,y1,y1,y1,y1,y1,y1,y1,y1,n1,n1,y1,y1,y1,y1,y1,y1,n1,n1,n1,n1] ?_ rfl (zz rfl) ?_
      ·kernel_rfl
      exact n11_
     refine AEach.step (i:=10) [] #[n1,y1,y1,y1,y1,y1,y1,y1,y1,y1,y1,n1,y1,y1,y1,y1,y1,y1,n1,n1,n1,n1] rfl [38,40,44,51] 1 ⟨[(38,.al (.cell 0 6,[])),(40,tI (w64 (v1 - (1:Int)))),(44,tI v3.f1),(51,tI (w64 (v1 * v3.f1)))],hp18 v3⟩ ?_ (zz rfl) trivial ?_ ?_
     ·kernel_rfl
     ·refine AAny.go (by kernel_rfl) [11,18] (fuel':=4) rfl [(0:Int) ≤ w64 ((w64 (v1 - (1:Int))) * v3.f1),w64 ((w64 (v1 - (1:Int))) * v3.f1) ≤ w64 (v1 * v3.f1),w64 (v1 * v3.f1) ≤ (v3.f6.length:Int)] #[n1,y1,y1,y1,y1,y1,y1,y1,y1,y1,y1,y1,y1,y1,y1,y1,y1,y1,y1,n1,n1,n1] [52] 1 ⟨[(52,.cut (.cell 0 6,[]) (Int.toNat (w64 ((w64 (v1 - (1:Int))) * v3.f1))) ((Int.toNat (w64 (v1 * v3.f1))) - (Int.toNat (w64 ((w64 (v1 - (1:Int))) * v3.f1)))))],hp18 v3⟩ ?_ (zz rfl) ⟨hd4.1,hd4.2.1,hd4.2.2⟩ ?_
      ·kernel_rfl
      exact n9_
     exact AEach.nil
    refine AAny.share 7 #[y1,y1,y1,y1,n1,y1,y1,y1,y1,y1,n1,n1,y1,y1,y1,y1,y1,y1,n1,n1,n1,n1] ⟨[(34,q1 ([]:List Int)),(37,.pc 0 6),(40,tI (w64 (v1 - (1:Int)))),(43,.pc 0 1),(51,tI (w64 (v1 * v3.f1)))],hp18 v3⟩ ?_ fun n5_=>?_
    ·refine AAny.each [4,10] (by kernel_rfl) rfl ?_
     refine AEach.step (i:=4) [] #[y1,y1,y1,y1,y1,y1,y1,y1,y1,y1,n1,n1,y1,y1,y1,y1,y1,y1,n1,n1,n1,n1] rfl [34,38,40,43,51] 1 ⟨[(34,q1 ([]:List Int)),(38,.al (.cell 0 6,[])),(40,tI (w64 (v1 - (1:Int)))),(43,.pc 0 1),(51,tI (w64 (v1 * v3.f1)))],hp18 v3⟩ ?_ (zz rfl) trivial ?_ ?_
     ·kernel_rfl
     ·exact n11_
     refine AEach.step (i:=10) [] #[y1,y1,y1,y1,n1,y1,y1,y1,y1,y1,y1,n1,y1,y1,y1,y1,y1,y1,n1,n1,n1,n1] rfl [34,37,40,44,51] 1 ⟨[(34,q1 ([]:List Int)),(37,.pc 0 6),(40,tI (w64 (v1 - (1:Int)))),(44,tI v3.f1),(51,tI (w64 (v1 * v3.f1)))],hp18 v3⟩ ?_ (zz rfl) trivial ?_ ?_
     ·kernel_rfl
     ·refine AAny.go (by kernel_rfl) [11] (fuel':=5) rfl [] #[y1,y1,y1,y1,n1,y1,y1,y1,y1,y1,y1,y1,y1,y1,y1,y1,y1,y1,n1,n1,n1,n1] [34,37,45,51] 1 ⟨[(34,q1 ([]:List Int)),(37,.pc 0 6),(45,tI (w64 ((w64 (v1 - (1:Int))) * v3.f1))),(51,tI (w64 (v1 * v3.f1)))],hp18 v3⟩ ?_ (zz rfl) trivial ?_
      ·kernel_rfl
      exact n8_
     exact AEach.nil
    refine AAny.share 7 #[n1,y1,y1,y1,y1,y1,y1,y1,y1,y1,y1,y1,y1,y1,y1,y1,n1,n1,n1,n1,n1,n1] ⟨[(38,.al (.cell 0 6,[])),(45,tI (w64 ((w64 (v1 - (1:Int))) * v3.f1))),(46,tI v1),(49,.pc 0 1)],hp18 v3⟩ ?_ fun n13_=>?_
    ·refine AAny.each [0,16] (by kernel_rfl) rfl ?_
     refine AEach.step (i:=0) [] #[y1,y1,y1,y1,y1,y1,y1,y1,y1,y1,y1,y1,y1,y1,y1,y1,n1,n1,n1,n1,n1,n1] rfl [34,38,45,46,49] 1 ⟨[(34,.tv (.own 1 5 0 (newRowF [] 1))),(38,.al (.cell 0 6,[])),(45,tI (w64 ((w64 (v1 - (1:Int))) * v3.f1))),(46,tI v1),(49,.pc 0 1)],hp18 v3⟩ ?_ (zz rfl) trivial ?_ ?_
     ·kernel_rfl
     ·refine AAny.extL 34 (cInt .u8) ([]:List Int) rfl rfl (row_at (cInt .u8) 1 (fun _=>rfl) ([]:List Int) _ rfl) ?_
      refine AAny.keepTo [34,38,45,46,49] 1 ⟨[(34,q1 ([]:List Int)),(38,.al (.cell 0 6,[])),(45,tI (w64 ((w64 (v1 - (1:Int))) * v3.f1))),(46,tI v1),(49,.pc 0 1)],hp18 v3⟩ #[y1,y1,y1,y1,y1,y1,y1,y1,y1,y1,y1,y1,y1,y1,y1,y1,n1,n1,n1,n1,n1,n1] ?_ rfl (zz rfl) ?_
      ·kernel_rfl
      exact n14_
     refine AEach.step (i:=16) [] #[n1,y1,y1,y1,y1,y1,y1,y1,y1,y1,y1,y1,y1,y1,y1,y1,y1,n1,n1,n1,n1,n1] rfl [38,45,46,50] 1 ⟨[(38,.al (.cell 0 6,[])),(45,tI (w64 ((w64 (v1 - (1:Int))) * v3.f1))),(46,tI v1),(50,tI v3.f1)],hp18 v3⟩ ?_ (zz rfl) trivial ?_ ?_
     ·kernel_rfl
     ·refine AAny.go (by kernel_rfl) [17,18] (fuel':=4) rfl [(0:Int) ≤ w64 ((w64 (v1 - (1:Int))) * v3.f1),w64 ((w64 (v1 - (1:Int))) * v3.f1) ≤ w64 (v1 * v3.f1),w64 (v1 * v3.f1) ≤ (v3.f6.length:Int)] #[n1,y1,y1,y1,y1,y1,y1,y1,y1,y1,y1,y1,y1,y1,y1,y1,y1,y1,y1,n1,n1,n1] [52] 1 ⟨[(52,.cut (.cell 0 6,[]) (Int.toNat (w64 ((w64 (v1 - (1:Int))) * v3.f1))) ((Int.toNat (w64 (v1 * v3.f1))) - (Int.toNat (w64 ((w64 (v1 - (1:Int))) * v3.f1)))))],hp18 v3⟩ ?_ (zz rfl) ⟨hd4.1,hd4.2.1,hd4.2.2⟩ ?_
      ·kernel_rfl
      exact n9_
     exact AEach.nil
    refine AAny.share 7 #[y1,y1,y1,y1,n1,y1,y1,y1,y1,y1,y1,y1,y1,y1,y1,y1,n1,n1,n1,n1,n1,n1] ⟨[(34,q1 ([]:List Int)),(37,.pc 0 6),(45,tI (w64 ((w64 (v1 - (1:Int))) * v3.f1))),(46,tI v1),(49,.pc 0 1)],hp18 v3⟩ ?_ fun n12_=>?_
    ·refine AAny.each [4,16] (by kernel_rfl) rfl ?_
     refine AEach.step (i:=4) [] #[y1,y1,y1,y1,y1,y1,y1,y1,y1,y1,y1,y1,y1,y1,y1,y1,n1,n1,n1,n1,n1,n1] rfl [34,38,45,46,49] 1 ⟨[(34,q1 ([]:List Int)),(38,.al (.cell 0 6,[])),(45,tI (w64 ((w64 (v1 - (1:Int))) * v3.f1))),(46,tI v1),(49,.pc 0 1)],hp18 v3⟩ ?_ (zz rfl) trivial ?_ ?_
     ·kernel_rfl
     ·exact n14_
     refine AEach.step (i:=16) [] #[y1,y1,y1,y1,n1,y1,y1,y1,y1,y1,y1,y1,y1,y1,y1,y1,y1,n1,n1,n1,n1,n1] rfl [34,37,45,46,50] 1 ⟨[(34,q1 ([]:List Int)),(37,.pc 0 6),(45,tI (w64 ((w64 (v1 - (1:Int))) * v3.f1))),(46,tI v1),(50,tI v3.f1)],hp18 v3⟩ ?_ (zz rfl) trivial ?_ ?_
     ·kernel_rfl
     ·refine AAny.go (by kernel_rfl) [17] (fuel':=5) rfl [] #[y1,y1,y1,y1,n1,y1,y1,y1,y1,y1,y1,y1,y1,y1,y1,y1,y1,y1,n1,n1,n1,n1] [34,37,45,51] 1 ⟨[(34,q1 ([]:List Int)),(37,.pc 0 6),(45,tI (w64 ((w64 (v1 - (1:Int))) * v3.f1))),(51,tI (w64 (v1 * v3.f1)))],hp18 v3⟩ ?_ (zz rfl) trivial ?_
      ·kernel_rfl
      exact n8_
     exact AEach.nil
    refine AAny.share 8 #[n1,y1,y1,y1,n1,y1,y1,y1,y1,y1,n1,n1,y1,y1,y1,y1,y1,y1,n1,n1,n1,n1] ⟨[(37,.pc 0 6),(40,tI (w64 (v1 - (1:Int)))),(43,.pc 0 1),(51,tI (w64 (v1 * v3.f1)))],hp18 v3⟩ ?_ fun n4_=>?_
    ·refine AAny.each [0,4,10] (by kernel_rfl) rfl ?_
     refine AEach.step (i:=0) [] #[y1,y1,y1,y1,n1,y1,y1,y1,y1,y1,n1,n1,y1,y1,y1,y1,y1,y1,n1,n1,n1,n1] rfl [34,37,40,43,51] 1 ⟨[(34,.tv (.own 1 5 0 (newRowF [] 1))),(37,.pc 0 6),(40,tI (w64 (v1 - (1:Int)))),(43,.pc 0 1),(51,tI (w64 (v1 * v3.f1)))],hp18 v3⟩ ?_ (zz rfl) trivial ?_ ?_
     ·kernel_rfl
     ·refine AAny.extL 34 (cInt .u8) ([]:List Int) rfl rfl (row_at (cInt .u8) 1 (fun _=>rfl) ([]:List Int) _ rfl) ?_
      refine AAny.keepTo [34,37,40,43,51] 1 ⟨[(34,q1 ([]:List Int)),(37,.pc 0 6),(40,tI (w64 (v1 - (1:Int)))),(43,.pc 0 1),(51,tI (w64 (v1 * v3.f1)))],hp18 v3⟩ #[y1,y1,y1,y1,n1,y1,y1,y1,y1,y1,n1,n1,y1,y1,y1,y1,y1,y1,n1,n1,n1,n1] ?_ rfl (zz rfl) ?_
      ·kernel_rfl
      exact n5_
     refine AEach.step (i:=4) [] #[n1,y1,y1,y1,y1,y1,y1,y1,y1,y1,n1,n1,y1,y1,y1,y1,y1,y1,n1,n1,n1,n1] rfl [38,40,43,51] 1 ⟨[(38,.al (.cell 0 6,[])),(40,tI (w64 (v1 - (1:Int)))),(43,.pc 0 1),(51,tI (w64 (v1 * v3.f1)))],hp18 v3⟩ ?_ (zz rfl) trivial ?_ ?_
     ·kernel_rfl
     ·exact n6_
     refine AEach.step (i:=10) [] #[n1,y1,y1,y1,n1,y1,y1,y1,y1,y1,y1,n1,y1,y1,y1,y1,y1,y1,n1,n1,n1,n1] rfl [37,40,44,51] 1 ⟨[(37,.pc 0 6),(40,tI (w64 (v1 - (1:Int)))),(44,tI v3.f1),(51,tI (w64 (v1 * v3.f1)))],hp18 v3⟩ ?_ (zz rfl) trivial ?_ ?_
     ·kernel_rfl
     ·refine AAny.go (by kernel_rfl) [11] (fuel':=6) rfl [] #[n1,y1,y1,y1,n1,y1,y1,y1,y1,y1,y1,y1,y1,y1,y1,y1,y1,y1,n1,n1,n1,n1] [37,45,51] 1 ⟨[(37,.pc 0 6),(45,tI (w64 ((w64 (v1 - (1:Int))) * v3.f1))),(51,tI (w64 (v1 * v3.f1)))],hp18 v3⟩ ?_ (zz rfl) trivial ?_
      ·kernel_rfl
      exact n7_
     exact AEach.nil
    refine AAny.share 8 #[n1,y1,y1,y1,n1,y1,y1,y1,y1,y1,y1,y1,y1,y1,y1,y1,n1,n1,n1,n1,n1,n1] ⟨[(37,.pc 0 6),(45,tI (w64 ((w64 (v1 - (1:Int))) * v3.f1))),(46,tI v1),(49,.pc 0 1)],hp18 v3⟩ ?_ fun n3_=>?_
    ·refine AAny.each [0,4,16] (by kernel_rfl) rfl ?_
     refine AEach.step (i:=0) [] #[y1,y1,y1,y1,n1,y1,y1,y1,y1,y1,y1,y1,y1,y1,y1,y1,n1,n1,n1,n1,n1,n1] rfl [34,37,45,46,49] 1 ⟨[(34,.tv (.own 1 5 0 (newRowF [] 1))),(37,.pc 0 6),(45,tI (w64 ((w64 (v1 - (1:Int))) * v3.f1))),(46,tI v1),(49,.pc 0 1)],hp18 v3⟩ ?_ (zz rfl) trivial ?_ ?_
     ·kernel_rfl
     ·refine AAny.extL 34 (cInt .u8) ([]:List Int) rfl rfl (row_at (cInt .u8) 1 (fun _=>rfl) ([]:List Int) _ rfl) ?_
      refine AAny.keepTo [34,37,45,46,49] 1 ⟨[(34,q1 ([]:List Int)),(37,.pc 0 6),(45,tI (w64 ((w64 (v1 - (1:Int))) * v3.f1))),(46,tI v1),(49,.pc 0 1)],hp18 v3⟩ #[y1,y1,y1,y1,n1,y1,y1,y1,y1,y1,y1,y1,y1,y1,y1,y1,n1,n1,n1,n1,n1,n1] ?_ rfl (zz rfl) ?_
      ·kernel_rfl
      exact n12_
     refine AEach.step (i:=4) [] #[n1,y1,y1,y1,y1,y1,y1,y1,y1,y1,y1,y1,y1,y1,y1,y1,n1,n1,n1,n1,n1,n1] rfl [38,45,46,49] 1 ⟨[(38,.al (.cell 0 6,[])),(45,tI (w64 ((w64 (v1 - (1:Int))) * v3.f1))),(46,tI v1),(49,.pc 0 1)],hp18 v3⟩ ?_ (zz rfl) trivial ?_ ?_
     ·kernel_rfl
     ·exact n13_
     refine AEach.step (i:=16) [] #[n1,y1,y1,y1,n1,y1,y1,y1,y1,y1,y1,y1,y1,y1,y1,y1,y1,n1,n1,n1,n1,n1] rfl [37,45,46,50] 1 ⟨[(37,.pc 0 6),(45,tI (w64 ((w64 (v1 - (1:Int))) * v3.f1))),(46,tI v1),(50,tI v3.f1)],hp18 v3⟩ ?_ (zz rfl) trivial ?_ ?_
     ·kernel_rfl
     ·refine AAny.go (by kernel_rfl) [17] (fuel':=6) rfl [] #[n1,y1,y1,y1,n1,y1,y1,y1,y1,y1,y1,y1,y1,y1,y1,y1,y1,y1,n1,n1,n1,n1] [37,45,51] 1 ⟨[(37,.pc 0 6),(45,tI (w64 ((w64 (v1 - (1:Int))) * v3.f1))),(51,tI (w64 (v1 * v3.f1)))],hp18 v3⟩ ?_ (zz rfl) trivial ?_
      ·kernel_rfl
      exact n7_
     exact AEach.nil
    refine AAny.share 8 #[y1,y1,y1,y1,y1,y1,y1,y1,y1,y1,n1,n1,y1,y1,y1,y1,n1,n1,n1,n1,n1,n1] ⟨[(34,q1 ([]:List Int)),(38,.al (.cell 0 6,[])),(40,tI (w64 (v1 - (1:Int)))),(43,.pc 0 1),(46,tI v1),(49,.pc 0 1)],hp18 v3⟩ ?_ fun n15_=>?_
    ·refine AAny.each [10,16] (by kernel_rfl) rfl ?_
     refine AEach.step (i:=10) [] #[y1,y1,y1,y1,y1,y1,y1,y1,y1,y1,y1,n1,y1,y1,y1,y1,n1,n1,n1,n1,n1,n1] rfl [34,38,40,44,46,49] 1 ⟨[(34,q1 ([]:List Int)),(38,.al (.cell 0 6,[])),(40,tI (w64 (v1 - (1:Int)))),(44,tI v3.f1),(46,tI v1),(49,.pc 0 1)],hp18 v3⟩ ?_ (zz rfl) trivial ?_ ?_
     ·kernel_rfl
     ·refine AAny.go (by kernel_rfl) [11] (fuel':=6) rfl [] #[y1,y1,y1,y1,y1,y1,y1,y1,y1,y1,y1,y1,y1,y1,y1,y1,n1,n1,n1,n1,n1,n1] [34,38,45,46,49] 1 ⟨[(34,q1 ([]:List Int)),(38,.al (.cell 0 6,[])),(45,tI (w64 ((w64 (v1 - (1:Int))) * v3.f1))),(46,tI v1),(49,.pc 0 1)],hp18 v3⟩ ?_ (zz rfl) trivial ?_
      ·kernel_rfl
      exact n14_
     refine AEach.step (i:=16) [] #[y1,y1,y1,y1,y1,y1,y1,y1,y1,y1,n1,n1,y1,y1,y1,y1,y1,n1,n1,n1,n1,n1] rfl [34,38,40,43,46,50] 1 ⟨[(34,q1 ([]:List Int)),(38,.al (.cell 0 6,[])),(40,tI (w64 (v1 - (1:Int)))),(43,.pc 0 1),(46,tI v1),(50,tI v3.f1)],hp18 v3⟩ ?_ (zz rfl) trivial ?_ ?_
     ·kernel_rfl
     ·refine AAny.go (by kernel_rfl) [17] (fuel':=6) rfl [] #[y1,y1,y1,y1,y1,y1,y1,y1,y1,y1,n1,n1,y1,y1,y1,y1,y1,y1,n1,n1,n1,n1] [34,38,40,43,51] 1 ⟨[(34,q1 ([]:List Int)),(38,.al (.cell 0 6,[])),(40,tI (w64 (v1 - (1:Int)))),(43,.pc 0 1),(51,tI (w64 (v1 * v3.f1)))],hp18 v3⟩ ?_ (zz rfl) trivial ?_
      ·kernel_rfl
      exact n11_
     exact AEach.nil
    refine AAny.share 9 #[n1,y1,y1,y1,y1,y1,y1,y1,y1,y1,n1,n1,y1,y1,y1,y1,n1,n1,n1,n1,n1,n1] ⟨[(38,.al (.cell 0 6,[])),(40,tI (w64 (v1 - (1:Int)))),(43,.pc 0 1),(46,tI v1),(49,.pc 0 1)],hp18 v3⟩ ?_ fun n2_=>?_
    ·refine AAny.each [0,10,16] (by kernel_rfl) rfl ?_
     refine AEach.step (i:=0) [] #[y1,y1,y1,y1,y1,y1,y1,y1,y1,y1,n1,n1,y1,y1,y1,y1,n1,n1,n1,n1,n1,n1] rfl [34,38,40,43,46,49] 1 ⟨[(34,.tv (.own 1 5 0 (newRowF [] 1))),(38,.al (.cell 0 6,[])),(40,tI (w64 (v1 - (1:Int)))),(43,.pc 0 1),(46,tI v1),(49,.pc 0 1)],hp18 v3⟩ ?_ (zz rfl) trivial ?_ ?_
     ·kernel_rfl
     ·refine AAny.extL 34 (cInt .u8) ([]:List Int) rfl rfl (row_at (cInt .u8) 1 (fun _=>rfl) ([]:List Int) _ rfl) ?_
      refine AAny.keepTo [34,38,40,43,46,49] 1 ⟨[(34,q1 ([]:List Int)),(38,.al (.cell 0 6,[])),(40,tI (w64 (v1 - (1:Int)))),(43,.pc 0 1),(46,tI v1),(49,.pc 0 1)],hp18 v3⟩ #[y1,y1,y1,y1,y1,y1,y1,y1,y1,y1,n1,n1,y1,y1,y1,y1,n1,n1,n1,n1,n1,n1] ?_ rfl (zz rfl) ?_
      ·kernel_rfl
      exact n15_
     refine AEach.step (i:=10) [] #[n1,y1,y1,y1,y1,y1,y1,y1,y1,y1,y1,n1,y1,y1,y1,y1,n1,n1,n1,n1,n1,n1] rfl [38,40,44,46,49] 1 ⟨[(38,.al (.cell 0 6,[])),(40,tI (w64 (v1 - (1:Int)))),(44,tI v3.f1),(46,tI v1),(49,.pc 0 1)],hp18 v3⟩ ?_ (zz rfl) trivial ?_ ?_
     ·kernel_rfl
     ·refine AAny.go (by kernel_rfl) [11] (fuel':=7) rfl [] #[n1,y1,y1,y1,y1,y1,y1,y1,y1,y1,y1,y1,y1,y1,y1,y1,n1,n1,n1,n1,n1,n1] [38,45,46,49] 1 ⟨[(38,.al (.cell 0 6,[])),(45,tI (w64 ((w64 (v1 - (1:Int))) * v3.f1))),(46,tI v1),(49,.pc 0 1)],hp18 v3⟩ ?_ (zz rfl) trivial ?_
      ·kernel_rfl
      exact n13_
     refine AEach.step (i:=16) [] #[n1,y1,y1,y1,y1,y1,y1,y1,y1,y1,n1,n1,y1,y1,y1,y1,y1,n1,n1,n1,n1,n1] rfl [38,40,43,46,50] 1 ⟨[(38,.al (.cell 0 6,[])),(40,tI (w64 (v1 - (1:Int)))),(43,.pc 0 1),(46,tI v1),(50,tI v3.f1)],hp18 v3⟩ ?_ (zz rfl) trivial ?_ ?_
     ·kernel_rfl
     ·refine AAny.go (by kernel_rfl) [17] (fuel':=7) rfl [] #[n1,y1,y1,y1,y1,y1,y1,y1,y1,y1,n1,n1,y1,y1,y1,y1,y1,y1,n1,n1,n1,n1] [38,40,43,51] 1 ⟨[(38,.al (.cell 0 6,[])),(40,tI (w64 (v1 - (1:Int)))),(43,.pc 0 1),(51,tI (w64 (v1 * v3.f1)))],hp18 v3⟩ ?_ (zz rfl) trivial ?_
      ·kernel_rfl
      exact n6_
     exact AEach.nil
    refine AAny.share 9 #[y1,y1,y1,y1,n1,y1,y1,y1,y1,y1,n1,n1,y1,y1,y1,y1,n1,n1,n1,n1,n1,n1] ⟨[(34,q1 ([]:List Int)),(37,.pc 0 6),(40,tI (w64 (v1 - (1:Int)))),(43,.pc 0 1),(46,tI v1),(49,.pc 0 1)],hp18 v3⟩ ?_ fun n1_=>?_
    ·refine AAny.each [4,10,16] (by kernel_rfl) rfl ?_
     refine AEach.step (i:=4) [] #[y1,y1,y1,y1,y1,y1,y1,y1,y1,y1,n1,n1,y1,y1,y1,y1,n1,n1,n1,n1,n1,n1] rfl [34,38,40,43,46,49] 1 ⟨[(34,q1 ([]:List Int)),(38,.al (.cell 0 6,[])),(40,tI (w64 (v1 - (1:Int)))),(43,.pc 0 1),(46,tI v1),(49,.pc 0 1)],hp18 v3⟩ ?_ (zz rfl) trivial ?_ ?_
     ·kernel_rfl
     ·exact n15_
     refine AEach.step (i:=10) [] #[y1,y1,y1,y1,n1,y1,y1,y1,y1,y1,y1,n1,y1,y1,y1,y1,n1,n1,n1,n1,n1,n1] rfl [34,37,40,44,46,49] 1 ⟨[(34,q1 ([]:List Int)),(37,.pc 0 6),(40,tI (w64 (v1 - (1:Int)))),(44,tI v3.f1),(46,tI v1),(49,.pc 0 1)],hp18 v3⟩ ?_ (zz rfl) trivial ?_ ?_
     ·kernel_rfl
     ·refine AAny.go (by kernel_rfl) [11] (fuel':=7) rfl [] #[y1,y1,y1,y1,n1,y1,y1,y1,y1,y1,y1,y1,y1,y1,y1,y1,n1,n1,n1,n1,n1,n1] [34,37,45,46,49] 1 ⟨[(34,q1 ([]:List Int)),(37,.pc 0 6),(45,tI (w64 ((w64 (v1 - (1:Int))) * v3.f1))),(46,tI v1),(49,.pc 0 1)],hp18 v3⟩ ?_ (zz rfl) trivial ?_
      ·kernel_rfl
      exact n12_
     refine AEach.step (i:=16) [] #[y1,y1,y1,y1,n1,y1,y1,y1,y1,y1,n1,n1,y1,y1,y1,y1,y1,n1,n1,n1,n1,n1] rfl [34,37,40,43,46,50] 1 ⟨[(34,q1 ([]:List Int)),(37,.pc 0 6),(40,tI (w64 (v1 - (1:Int)))),(43,.pc 0 1),(46,tI v1),(50,tI v3.f1)],hp18 v3⟩ ?_ (zz rfl) trivial ?_ ?_
     ·kernel_rfl
     ·refine AAny.go (by kernel_rfl) [17] (fuel':=7) rfl [] #[y1,y1,y1,y1,n1,y1,y1,y1,y1,y1,n1,n1,y1,y1,y1,y1,y1,y1,n1,n1,n1,n1] [34,37,40,43,51] 1 ⟨[(34,q1 ([]:List Int)),(37,.pc 0 6),(40,tI (w64 (v1 - (1:Int)))),(43,.pc 0 1),(51,tI (w64 (v1 * v3.f1)))],hp18 v3⟩ ?_ (zz rfl) trivial ?_
      ·kernel_rfl
      exact n5_
     exact AEach.nil
    refine AAny.each [0,4,10,16] (by kernel_rfl) rfl ?_
    refine AEach.step (i:=0) [] #[y1,y1,y1,y1,n1,y1,y1,y1,y1,y1,n1,n1,y1,y1,y1,y1,n1,n1,n1,n1,n1,n1] rfl [34,37,40,43,46,49] 1 ⟨[(34,.tv (.own 1 5 0 (newRowF [] 1))),(37,.pc 0 6),(40,tI (w64 (v1 - (1:Int)))),(43,.pc 0 1),(46,tI v1),(49,.pc 0 1)],hp18 v3⟩ ?_ (zz rfl) trivial ?_ ?_
    ·kernel_rfl
    ·refine AAny.extL 34 (cInt .u8) ([]:List Int) rfl rfl (row_at (cInt .u8) 1 (fun _=>rfl) ([]:List Int) _ rfl) ?_
     refine AAny.keepTo [34,37,40,43,46,49] 1 ⟨[(34,q1 ([]:List Int)),(37,.pc 0 6),(40,tI (w64 (v1 - (1:Int)))),(43,.pc 0 1),(46,tI v1),(49,.pc 0 1)],hp18 v3⟩ #[y1,y1,y1,y1,n1,y1,y1,y1,y1,y1,n1,n1,y1,y1,y1,y1,n1,n1,n1,n1,n1,n1] ?_ rfl (zz rfl) ?_
     ·kernel_rfl
     exact n1_
    refine AEach.step (i:=4) [] #[n1,y1,y1,y1,y1,y1,y1,y1,y1,y1,n1,n1,y1,y1,y1,y1,n1,n1,n1,n1,n1,n1] rfl [38,40,43,46,49] 1 ⟨[(38,.al (.cell 0 6,[])),(40,tI (w64 (v1 - (1:Int)))),(43,.pc 0 1),(46,tI v1),(49,.pc 0 1)],hp18 v3⟩ ?_ (zz rfl) trivial ?_ ?_
    ·kernel_rfl
    ·exact n2_
    refine AEach.step (i:=10) [] #[n1,y1,y1,y1,n1,y1,y1,y1,y1,y1,y1,n1,y1,y1,y1,y1,n1,n1,n1,n1,n1,n1] rfl [37,40,44,46,49] 1 ⟨[(37,.pc 0 6),(40,tI (w64 (v1 - (1:Int)))),(44,tI v3.f1),(46,tI v1),(49,.pc 0 1)],hp18 v3⟩ ?_ (zz rfl) trivial ?_ ?_
    ·kernel_rfl
    ·refine AAny.go (by kernel_rfl) [11] (fuel':=8) rfl [] #[n1,y1,y1,y1,n1,y1,y1,y1,y1,y1,y1,y1,y1,y1,y1,y1,n1,n1,n1,n1,n1,n1] [37,45,46,49] 1 ⟨[(37,.pc 0 6),(45,tI (w64 ((w64 (v1 - (1:Int))) * v3.f1))),(46,tI v1),(49,.pc 0 1)],hp18 v3⟩ ?_ (zz rfl) trivial ?_
     ·kernel_rfl
     exact n3_
    refine AEach.step (i:=16) [] #[n1,y1,y1,y1,n1,y1,y1,y1,y1,y1,n1,n1,y1,y1,y1,y1,y1,n1,n1,n1,n1,n1] rfl [37,40,43,46,50] 1 ⟨[(37,.pc 0 6),(40,tI (w64 (v1 - (1:Int)))),(43,.pc 0 1),(46,tI v1),(50,tI v3.f1)],hp18 v3⟩ ?_ (zz rfl) trivial ?_ ?_
    ·kernel_rfl
    ·refine AAny.go (by kernel_rfl) [17] (fuel':=8) rfl [] #[n1,y1,y1,y1,n1,y1,y1,y1,y1,y1,n1,n1,y1,y1,y1,y1,y1,y1,n1,n1,n1,n1] [37,40,43,51] 1 ⟨[(37,.pc 0 6),(40,tI (w64 (v1 - (1:Int)))),(43,.pc 0 1),(51,tI (w64 (v1 * v3.f1)))],hp18 v3⟩ ?_ (zz rfl) trivial ?_
     ·kernel_rfl
     exact n4_
    exact AEach.nil
 ·replace h:=of_false h hb
  refine AWp.keepTo [0,1,2,11] 1 ⟨[(0,.pc 0 0),(1,tI v1),(2,tI v2),(11,tS v3.f0)],hp18 v3⟩ ?_ (zz rfl) ?_
  ·kernel_rfl
  refine AWp.seq ?_
  refine AWp.start [0,1] [] [] [0,1,2,54] 1 ⟨[(0,.pc 0 0),(1,tI v1),(2,tI v2),(54,tB (v3.f0 == ([115,116,114,101,97,109]:List UInt8)))],hp18 v3⟩ rfl ?_ (zz rfl) trivial ?_
  ·kernel_rfl
  refine AOps.nil ?_
  refine AWp.cond rfl (fun hb=>?_) fun hb=>?_
  ·replace h:=of_true h hb
   refine AWp.keepTo [0,1,2] 1 ⟨[(0,.pc 0 0),(1,tI v1),(2,tI v2)],hp18 v3⟩ ?_ (zz rfl) ?_
   ·kernel_rfl
   refine AWp.seq ?_
   refine AWp.seq ?_
   refine AWp.start [0,1,2] [3,4,5,6,7,8,9] [] [0,1,2,58] 1 ⟨[(0,.pc 0 0),(1,tI v1),(2,tI v2),(58,tB (decide (v1 < (0:Int))))],hp18 v3⟩ rfl ?_ (zz rfl) trivial ?_
   ·kernel_rfl
   obtain ⟨v5,hc3,h⟩:=of_bind h
   refine AOps.cut [3,4,5] [6,7,8,9] (fun σ=>σ = ⟨[(0,.pc 0 0),(1,tI v1),(2,tI v2),(61,tB v5)],hp18 v3⟩) ?_ fun σ' hJ=>?_
   ·refine AOps.split (fun b=>⟨[(0,.pc 0 0),(1,tI v1),(2,tI v2),(58,tB b)],hp18 v3⟩) _ (fun hb=>?_) fun hb=>?_
    ·replace hc3:=of_true hc3 hb
     refine AOps.go [3,4,5] [] [] [0,1,2,61] 1 ⟨[(0,.pc 0 0),(1,tI v1),(2,tI v2),(61,tB true)],hp18 v3⟩ ?_ (zz rfl) trivial ?_
     ·kernel_rfl
     cases hc3
     exact AOps.nil rfl
    ·replace hc3:=of_false hc3 hb
     refine AOps.go [3,4,5] [] [] [0,1,2,61] 1 ⟨[(0,.pc 0 0),(1,tI v1),(2,tI v2),(61,tB (decide (v2 < (0:Int))))],hp18 v3⟩ ?_ (zz rfl) trivial ?_
     ·kernel_rfl
     cases hc3
     exact AOps.nil rfl
   subst hJ
   refine AOps.go [6] [7,8,9] [] [0,1,2,62] 1 ⟨[(0,.pc 0 0),(1,tI v1),(2,tI v2),(62,tB v5)],hp18 v3⟩ ?_ (zz rfl) trivial ?_
   ·kernel_rfl
   obtain ⟨v6,hc7,h⟩:=of_bind h
   refine AOps.cut [7,8,9] [] (fun σ=>σ = ⟨[(0,.pc 0 0),(1,tI v1),(2,tI v2),(65,tB v6)],hp18 v3⟩) ?_ fun σ' hJ=>?_
   ·refine AOps.split (fun b=>⟨[(0,.pc 0 0),(1,tI v1),(2,tI v2),(62,tB b)],hp18 v3⟩) _ (fun hb=>?_) fun hb=>?_
    ·replace hc7:=of_true hc7 hb
     refine AOps.go [7,8,9] [] [] [0,1,2,65] 1 ⟨[(0,.pc 0 0),(1,tI v1),(2,tI v2),(65,tB true)],hp18 v3⟩ ?_ (zz rfl) trivial ?_
     ·kernel_rfl
     cases hc7
     exact AOps.nil rfl
    ·replace hc7:=of_false hc7 hb
     refine AOps.go [7,8,9] [] [] [0,1,2,65] 1 ⟨[(0,.pc 0 0),(1,tI v1),(2,tI v2),(65,tB (decide (v2 > (20000:Int))))],hp18 v3⟩ ?_ (zz rfl) trivial ?_
     ·kernel_rfl
     cases hc7
     exact AOps.nil rfl
   subst hJ
   refine AOps.nil ?_
   refine AWp.cond rfl (fun hb=>?_) fun hb=>?_
   ·replace h:=of_true h hb
    refine AWp.keepTo [] 1 ⟨[],hp18 v3⟩ ?_ (zz rfl) ?_
    ·kernel_rfl
    refine AWp.seq ?_
    refine AWp.start [0,1] [] [] [6,7] 1 ⟨[(6,.tv (.sc (.slice none 0 0))),(7,tI (2:Int))],hp18 v3⟩ rfl ?_ (zz rfl) trivial ?_
    ·kernel_rfl
    refine AOps.nil ?_
    refine AWp.nilFz 6 1 (fun i=>(cInt .u8) (([]:List Int).getD i default)) rfl ?_
    refine AWp.keepTo [6,7] 1 ⟨[(6,q0 ([]:List Int)),(7,tI (2:Int))],hp18 v3⟩ ?_ (zz rfl) ?_
    ·kernel_rfl
    refine AWp.ret ?_
    cases h
    exact ⟨.inr rfl,rfl⟩
   ·replace h:=of_false h hb
    refine AWp.keepTo [0,1,2] 1 ⟨[(0,.pc 0 0),(1,tI v1),(2,tI v2)],hp18 v3⟩ ?_ (zz rfl) ?_
    ·kernel_rfl
    refine AWp.skip ?_
    refine AWp.join (V:=Int) (fun w=>⟨[(0,.pc 0 0),(1,tI w),(2,tI v2)],hp18 v3⟩) (fun w=>f55o_j1 v2 v3 w = some r) ?_ ?_
    ·refine AWp.seq ?_
     refine AWp.start [0,1] [] [] [0,1,2,67] 1 ⟨[(0,.pc 0 0),(1,tI v1),(2,tI v2),(67,tB (v1 == (0:Int)))],hp18 v3⟩ rfl ?_ (zz rfl) trivial ?_
     ·kernel_rfl
     refine AOps.nil ?_
     refine AWp.cond rfl (fun hb=>?_) fun hb=>?_
     ·replace h:=of_true h hb
      refine AWp.keepTo [0,2] 1 ⟨[(0,.pc 0 0),(2,tI v2)],hp18 v3⟩ ?_ (zz rfl) ?_
      ·kernel_rfl
      refine AWp.start [0,1,2,3,4] [] [] [0,1,2] 1 ⟨[(0,.pc 0 0),(1,tI v3.f4),(2,tI v2)],hp18 v3⟩ rfl ?_ (zz rfl) trivial ?_
      ·kernel_rfl
      refine AOps.nil ?_
      exact ⟨v3.f4,h,rfl⟩
     ·replace h:=of_false h hb
      refine AWp.keepTo [0,1,2] 1 ⟨[(0,.pc 0 0),(1,tI v1),(2,tI v2)],hp18 v3⟩ ?_ (zz rfl) ?_
      ·kernel_rfl
      refine AWp.skip ?_
      exact ⟨v1,h,rfl⟩
    ·rintro v7 h
     refine AWp.seq ?_
     refine AWp.seq ?_
     refine AWp.start [0,1,2] [3,4,5,6,7,8,9,10,11,12,13] [] [0,1,2,74] 1 ⟨[(0,.pc 0 0),(1,tI v7),(2,tI v2),(74,tB (decide (v7 > (20001:Int))))],hp18 v3⟩ rfl ?_ (zz rfl) trivial ?_
     ·kernel_rfl
     obtain ⟨v8,hc3,h⟩:=of_bind h
     refine AOps.cut [3,4,5,6,7,8,9,10,11,12,13] [] (fun σ=>σ = ⟨[(0,.pc 0 0),(1,tI v7),(2,tI v2),(85,tB v8)],hp18 v3⟩) ?_ fun σ' hJ=>?_
     ·refine AOps.split (fun b=>⟨[(0,.pc 0 0),(1,tI v7),(2,tI v2),(74,tB b)],hp18 v3⟩) _ (fun hb=>?_) fun hb=>?_
      ·replace hc3:=of_true hc3 hb
       refine AOps.go [3,4,5,6,7,8,9,10,11,12,13] [] [] [0,1,2,85] 1 ⟨[(0,.pc 0 0),(1,tI v7),(2,tI v2),(85,tB true)],hp18 v3⟩ ?_ (zz rfl) trivial ?_
       ·kernel_rfl
       cases hc3
       exact AOps.nil rfl
      ·replace hc3:=of_false hc3 hb
       refine AOps.go [3,4,5,6,7,8,9,10,11,12,13] [] [] [0,1,2,85] 1 ⟨[(0,.pc 0 0),(1,tI v7),(2,tI v2),(85,tB (decide (w64 ((w64 (v7 - (1:Int))) + v2) > (v3.f6.length:Int))))],hp18 v3⟩ ?_ (zz rfl) trivial ?_
       ·kernel_rfl
       cases hc3
       exact AOps.nil rfl
     subst hJ
     refine AOps.nil ?_
     refine AWp.cond rfl (fun hb=>?_) fun hb=>?_
     ·replace h:=of_true h hb
      refine AWp.keepTo [] 1 ⟨[],hp18 v3⟩ ?_ (zz rfl) ?_
      ·kernel_rfl
      refine AWp.seq ?_
      refine AWp.start [0,1] [] [] [6,7] 1 ⟨[(6,.tv (.sc (.slice none 0 0))),(7,tI (6:Int))],hp18 v3⟩ rfl ?_ (zz rfl) trivial ?_
      ·kernel_rfl
      refine AOps.nil ?_
      refine AWp.nilFz 6 1 (fun i=>(cInt .u8) (([]:List Int).getD i default)) rfl ?_
      refine AWp.keepTo [6,7] 1 ⟨[(6,q0 ([]:List Int)),(7,tI (6:Int))],hp18 v3⟩ ?_ (zz rfl) ?_
      ·kernel_rfl
      refine AWp.ret ?_
      cases h
      exact ⟨.inr rfl,rfl⟩
     ·replace h:=of_false h hb
      refine AWp.keepTo [0,1,2] 1 ⟨[(0,.pc 0 0),(1,tI v7),(2,tI v2)],hp18 v3⟩ ?_ (zz rfl) ?_
      ·kernel_rfl
      refine AWp.skip ?_
      refine AWp.seq ?_
      refine AWp.start [0,1,2,3,4,5,6] [] [] [0,1,2] 1 ⟨[(0,.pc 0 0),(1,tI v7),(2,tI v2)],[.cells 79 [.str v3.f0,.int .i64 v3.f1,fzL 1 (cSl 1 (cInt .u8)) v3.f2,.bool v3.f3,.int .i64 (w64 (v7 + v2)),.bool v3.f5,k1 v3.f6]]⟩ rfl ?_ (zz rfl) trivial ?_
      ·kernel_rfl
      refine AOps.nil ?_
      refine AWp.seq ?_
      refine AWp.start [0] [1,2,3,4,5,6,7,8,9,10,11,12,13,14] [] [0,1,2,92] 1 ⟨[(0,.pc 0 0),(1,tI v7),(2,tI v2),(92,.tv (.own 1 5 0 (newRowF [] 1)))],[.cells 79 [.str v3.f0,.int .i64 v3.f1,fzL 1 (cSl 1 (cInt .u8)) v3.f2,.bool v3.f3,.int .i64 (w64 (v7 + v2)),.bool v3.f5,k1 v3.f6]]⟩ rfl ?_ (zz rfl) trivial ?_
      ·kernel_rfl
      refine AOps.extL 92 (cInt .u8) ([]:List Int) rfl rfl (row_at (cInt .u8) 1 (fun _=>rfl) ([]:List Int) _ rfl) ?_
      refine AOps.go [1,2,3,4,5,6,7,8,9,10] [11,12,13,14] [] [92,96,98,102] 1 ⟨[(92,q1 ([]:List Int)),(96,.al (.cell 0 6,[])),(98,tI (w64 (v7 - (1:Int)))),(102,tI (w64 ((w64 (v7 - (1:Int))) + v2)))],[.cells 79 [.str v3.f0,.int .i64 v3.f1,fzL 1 (cSl 1 (cInt .u8)) v3.f2,.bool v3.f3,.int .i64 (w64 (v7 + v2)),.bool v3.f5,k1 v3.f6]]⟩ ?_ (zz rfl) trivial ?_
      ·kernel_rfl
      obtain ⟨hg,h⟩:=of_guard h
      refine AOps.cutApp (F:=(FF 105 1)) (q:=w64 (v7 - (1:Int))) (q2:=w64 ((w64 (v7 - (1:Int))) + v2)) (n:=v3.f6.length) (f:=(fun i=>(cInt .u8) (v3.f6.getD i default))) (n':=([]:List Int).length) (f':=(fun i=>(cInt .u8) (([]:List Int).getD i default))) _ _ rfl rfl rfl rfl rfl rfl rfl rfl rfl rfl rfl rfl rfl (fun _ _=>rfl) rfl rfl rfl rfl rfl rfl rfl rfl (fun _ _=>rfl) hg.1 hg.2.1 hg.2.2.1 hg.2.2.2 ?_
      have HB:(Int.toNat (w64 ((w64 (v7 - (1:Int))) + v2))) ≤ v3.f6.length:=by have hh2:w64 ((w64 (v7 - (1:Int))) + v2) ≤ (v3.f6.length:Int):=hg.2.2.1; omega
      refine AOps.keepTo [104] 1 ⟨[(104,.tv (.own 1 5 (([]:List Int).length + ((Int.toNat (w64 ((w64 (v7 - (1:Int))) + v2))) - (Int.toNat (w64 (v7 - (1:Int)))))) (appF (([]:List Int).length) (fun i=>(cInt .u8) (([]:List Int).getD i default)) (fun i=>(cInt .u8) (v3.f6.getD ((Int.toNat (w64 (v7 - (1:Int)))) + i) default)))))],[.cells 79 [.str v3.f0,.int .i64 v3.f1,fzL 1 (cSl 1 (cInt .u8)) v3.f2,.bool v3.f3,.int .i64 (w64 (v7 + v2)),.bool v3.f5,k1 v3.f6]]⟩ ?_ (zz rfl) ?_
      ·kernel_rfl
      refine AOps.extL 104 (cInt .u8) (([]:List Int) ++ (v3.f6.take (Int.toNat (w64 ((w64 (v7 - (1:Int))) + v2)))).drop (Int.toNat (w64 (v7 - (1:Int))))) rfl (cutApp_len v3.f6 ([]:List Int) (Int.toNat (w64 (v7 - (1:Int)))) (Int.toNat (w64 ((w64 (v7 - (1:Int))) + v2))) HB) (cutApp_at (cInt .u8) v3.f6 ([]:List Int) (Int.toNat (w64 (v7 - (1:Int)))) (Int.toNat (w64 ((w64 (v7 - (1:Int))) + v2))) HB) ?_
      refine AOps.go [13,14] [] [] [6,7] 1 ⟨[(6,q1 (([]:List Int) ++ (v3.f6.take (Int.toNat (w64 ((w64 (v7 - (1:Int))) + v2)))).drop (Int.toNat (w64 (v7 - (1:Int)))))),(7,tI (0:Int))],[.cells 79 [.str v3.f0,.int .i64 v3.f1,fzL 1 (cSl 1 (cInt .u8)) v3.f2,.bool v3.f3,.int .i64 (w64 (v7 + v2)),.bool v3.f5,k1 v3.f6]]⟩ ?_ (zz rfl) trivial ?_
      ·kernel_rfl
      refine AOps.nil ?_
      refine AWp.freezeL 6 (cInt .u8) (([]:List Int) ++ (v3.f6.take (Int.toNat (w64 ((w64 (v7 - (1:Int))) + v2)))).drop (Int.toNat (w64 (v7 - (1:Int))))) rfl (fun _=>rfl) ?_
      refine AWp.keepTo [6,7] 1 ⟨[(6,q0 (([]:List Int) ++ (v3.f6.take (Int.toNat (w64 ((w64 (v7 - (1:Int))) + v2)))).drop (Int.toNat (w64 (v7 - (1:Int)))))),(7,tI (0:Int))],[.cells 79 [.str v3.f0,.int .i64 v3.f1,fzL 1 (cSl 1 (cInt .u8)) v3.f2,.bool v3.f3,.int .i64 (w64 (v7 + v2)),.bool v3.f5,k1 v3.f6]]⟩ ?_ (zz rfl) ?_
      ·kernel_rfl
      refine AWp.ret ?_
      cases h
      exact ⟨.inr rfl,rfl⟩
  ·replace h:=of_false h hb
   refine AWp.keepTo [] 1 ⟨[],hp18 v3⟩ ?_ (zz rfl) ?_
   ·kernel_rfl
   refine AWp.skip ?_
   refine AWp.seq ?_
   refine AWp.start [0,1] [] [] [6,7] 1 ⟨[(6,.tv (.sc (.slice none 0 0))),(7,tI (110:Int))],hp18 v3⟩ rfl ?_ (zz rfl) trivial ?_
   ·kernel_rfl
   refine AOps.nil ?_
   refine AWp.nilFz 6 1 (fun i=>(cInt .u8) (([]:List Int).getD i default)) rfl ?_
   refine AWp.keepTo [6,7] 1 ⟨[(6,q0 ([]:List Int)),(7,tI (110:Int))],hp18 v3⟩ ?_ (zz rfl) ?_
   ·kernel_rfl
   refine AWp.ret ?_
   cases h
   exact ⟨.inr rfl,rfl⟩

abbrev hp19 (v1:T78):List AObj:=[.cells 79 [.str v1.f0,.int .i64 v1.f1,fzL 1 (cSl 1 (cInt .u8)) v1.f2,.bool v1.f3,.int .i64 (0:Int),.bool false,k1 v1.f6]]

noncomputable def f56o_j1 (v1:T78) (v2:Int):Option (Int × T78) :=
 some ((0:Int),T78.mk v1.f0 v1.f1 v1.f2 v1.f3 v2 false v1.f6)

noncomputable def f56o (v1:T78):Option (Int × T78) :=
 cond (v1.f0 == ([115,116,114,101,97,109]:List UInt8)) (f56o_j1 v1 (1:Int)) (f56o_j1 v1 (0:Int))

theorem f56o_ok (v1:T78) {r:Int × T78} (h:f56o v1 = some r):ACall Try.prog 56 [.pc 0 0] [.cells 79 [.str v1.f0,.int .i64 v1.f1,fzL 1 (cSl 1 (cInt .u8)) v1.f2,.bool v1.f3,.int .i64 v1.f4,.bool v1.f5,ownL 1 5 (cInt .u8) v1.f6]] (.tv (.int .i64 r.1)) [.cells 79 [.str r.2.f0,.int .i64 r.2.f1,fzL 1 (cSl 1 (cInt .u8)) r.2.f2,.bool r.2.f3,.int .i64 r.2.f4,.bool r.2.f5,ownL 1 5 (cInt .u8) r.2.f6]]:=by
 refine ACall.of1 (FF 17 1) Try.func56 rfl Try.ntmps56 Try.results56 (zz rfl) rfl rfl ?_
 refine AWp.seq ?_
 refine AWp.start [0] [] [] [0] 1 ⟨[(0,.pc 0 0)],[.cells 79 [.str v1.f0,.int .i64 v1.f1,fzL 1 (cSl 1 (cInt .u8)) v1.f2,.bool v1.f3,.int .i64 v1.f4,.bool v1.f5,k1 v1.f6]]⟩ rfl ?_ (zz rfl) trivial ?_
 ·kernel_rfl
 refine AOps.nil ?_
 refine AWp.seq ?_
 refine AWp.start [0,1,2,3,4,5,6,7] [] [] [0] 1 ⟨[(0,.pc 0 0)],hp19 v1⟩ rfl ?_ (zz rfl) trivial ?_
 ·kernel_rfl
 refine AOps.nil ?_
 refine AWp.join (V:=Int) (fun w=>⟨[],[.cells 79 [.str v1.f0,.int .i64 v1.f1,fzL 1 (cSl 1 (cInt .u8)) v1.f2,.bool v1.f3,.int .i64 w,.bool false,k1 v1.f6]]⟩) (fun w=>f56o_j1 v1 w = some r) ?_ ?_
 ·refine AWp.seq ?_
  refine AWp.start [0,1,2,3,4] [] [] [0,13] 1 ⟨[(0,.pc 0 0),(13,tB (v1.f0 == ([115,116,114,101,97,109]:List UInt8)))],hp19 v1⟩ rfl ?_ (zz rfl) trivial ?_
  ·kernel_rfl
  refine AOps.nil ?_
  refine AWp.cond rfl (fun hb=>?_) fun hb=>?_
  ·replace h:=of_true h hb
   refine AWp.keepTo [0] 1 ⟨[(0,.pc 0 0)],hp19 v1⟩ ?_ (zz rfl) ?_
   ·kernel_rfl
   refine AWp.start [0,1,2,3] [] [] [] 1 ⟨[],[.cells 79 [.str v1.f0,.int .i64 v1.f1,fzL 1 (cSl 1 (cInt .u8)) v1.f2,.bool v1.f3,.int .i64 (1:Int),.bool false,k1 v1.f6]]⟩ rfl ?_ (zz rfl) trivial ?_
   ·kernel_rfl
   refine AOps.nil ?_
   exact ⟨(1:Int),h,rfl⟩
  ·replace h:=of_false h hb
   refine AWp.keepTo [] 1 ⟨[],hp19 v1⟩ ?_ (zz rfl) ?_
   ·kernel_rfl
   refine AWp.skip ?_
   exact ⟨(0:Int),h,rfl⟩
 ·rintro v2 h
  refine AWp.seq ?_
  refine AWp.start [0] [] [] [2] 1 ⟨[(2,tI (0:Int))],[.cells 79 [.str v1.f0,.int .i64 v1.f1,fzL 1 (cSl 1 (cInt .u8)) v1.f2,.bool v1.f3,.int .i64 v2,.bool false,k1 v1.f6]]⟩ rfl ?_ (zz rfl) trivial ?_
  ·kernel_rfl
  refine AOps.nil ?_
  refine AWp.ret ?_
  cases h
  exact ⟨.inr rfl,rfl⟩

abbrev hp20 (v1:T78):List AObj:=[.cells 79 [.str v1.f0,.int .i64 v1.f1,fzL 1 (cSl 1 (cInt .u8)) v1.f2,.bool v1.f3,.int .i64 v1.f4,.bool v1.f5,k1 v1.f6]]

noncomputable def f57o_j1 (v1:T78) (v2:Int) (v3:Bool):Option (Int × T78) :=
 some ((0:Int),T78.mk v1.f0 v1.f1 v1.f2 v1.f3 v2 v3 v1.f6)

noncomputable def f57o (v1:T78):Option (Int × T78) :=
 (f46 v1).bind fun v4=>cond (!v4) (some ((110:Int),T78.mk v1.f0 v1.f1 v1.f2 v1.f3 v1.f4 v1.f5 v1.f6)) (cond v1.f5 (f57o_j1 v1 v1.f4 false) (cond (decide (v1.f4 > (0:Int))) (f57o_j1 v1 (w64 (v1.f4 - (1:Int))) v1.f5) (f57o_j1 v1 v1.f4 v1.f5)))

theorem f57o_ok (v1:T78) {r:Int × T78} (h:f57o v1 = some r):ACall Try.prog 57 [.pc 0 0] [.cells 79 [.str v1.f0,.int .i64 v1.f1,fzL 1 (cSl 1 (cInt .u8)) v1.f2,.bool v1.f3,.int .i64 v1.f4,.bool v1.f5,ownL 1 5 (cInt .u8) v1.f6]] (.tv (.int .i64 r.1)) [.cells 79 [.str r.2.f0,.int .i64 r.2.f1,fzL 1 (cSl 1 (cInt .u8)) r.2.f2,.bool r.2.f3,.int .i64 r.2.f4,.bool r.2.f5,ownL 1 5 (cInt .u8) r.2.f6]]:=by
 refine ACall.of1 (FF 28 1) Try.func57 rfl Try.ntmps57 Try.results57 (zz rfl) rfl rfl ?_
 refine AWp.seq ?_
 refine AWp.start [0] [] [] [0] 1 ⟨[(0,.pc 0 0)],hp20 v1⟩ rfl ?_ (zz rfl) trivial ?_
 ·kernel_rfl
 refine AOps.nil ?_
 refine AWp.join (V:=Int × Bool) (fun w=>⟨[],[.cells 79 [.str v1.f0,.int .i64 v1.f1,fzL 1 (cSl 1 (cInt .u8)) v1.f2,.bool v1.f3,.int .i64 w.1,.bool w.2,k1 v1.f6]]⟩) (fun w=>f57o_j1 v1 w.1 w.2 = some r) ?_ ?_
 ·refine AWp.block ?_
  refine AWp.seq ?_
  refine AWp.start [0] [1,2,3] [] [0,4] 1 ⟨[(0,.pc 0 0),(4,.pc 0 0)],hp20 v1⟩ rfl ?_ (zz rfl) trivial ?_
  ·kernel_rfl
  obtain ⟨v4,hv4,h⟩:=of_bind h
  refine AOps.cons (AOne.callR (F:=(FF 28 1)) _ rfl rfl rfl _ rfl rfl _ _ rfl Try.call46 [PlainTo v1.f6.length (fun i=>(cInt .u8) (v1.f6.getD i default))] [.rp (c78 v1)] rfl (fun _ _=>rfl) (f46_ok v1 hv4) (ind_of rfl) rfl) ?_
  refine AOps.go [2,3] [] [] [0,3] 1 ⟨[(0,.pc 0 0),(3,tB (!v4))],hp20 v1⟩ ?_ (zz rfl) trivial ?_
  ·kernel_rfl
  refine AOps.nil ?_
  refine AWp.cond rfl (fun hb=>?_) fun hb=>?_
  ·replace h:=of_true h hb
   refine AWp.keepTo [] 1 ⟨[],hp20 v1⟩ ?_ (zz rfl) ?_
   ·kernel_rfl
   refine AWp.seq ?_
   refine AWp.start [0] [] [] [2] 1 ⟨[(2,tI (110:Int))],hp20 v1⟩ rfl ?_ (zz rfl) trivial ?_
   ·kernel_rfl
   refine AOps.nil ?_
   refine AWp.ret ?_
   cases h
   exact ⟨.inr rfl,rfl⟩
  ·replace h:=of_false h hb
   refine AWp.keepTo [0] 1 ⟨[(0,.pc 0 0)],hp20 v1⟩ ?_ (zz rfl) ?_
   ·kernel_rfl
   refine AWp.seq ?_
   refine AWp.start [0,1,2,3,4] [] [] [0,7] 1 ⟨[(0,.pc 0 0),(7,tB v1.f5)],hp20 v1⟩ rfl ?_ (zz rfl) trivial ?_
   ·kernel_rfl
   refine AOps.nil ?_
   refine AWp.cond rfl (fun hb=>?_) fun hb=>?_
   ·replace h:=of_true h hb
    refine AWp.keepTo [0] 1 ⟨[(0,.pc 0 0)],hp20 v1⟩ ?_ (zz rfl) ?_
    ·kernel_rfl
    refine AWp.start [0,1,2,3] [] [] [] 1 ⟨[],[.cells 79 [.str v1.f0,.int .i64 v1.f1,fzL 1 (cSl 1 (cInt .u8)) v1.f2,.bool v1.f3,.int .i64 v1.f4,.bool false,k1 v1.f6]]⟩ rfl ?_ (zz rfl) trivial ?_
    ·kernel_rfl
    refine AOps.nil ?_
    exact ⟨(v1.f4,false),h,rfl⟩
   ·replace h:=of_false h hb
    refine AWp.keepTo [0] 1 ⟨[(0,.pc 0 0)],hp20 v1⟩ ?_ (zz rfl) ?_
    ·kernel_rfl
    refine AWp.seq ?_
    refine AWp.start [0,1,2,3,4,5] [] [] [0,15] 1 ⟨[(0,.pc 0 0),(15,tB (decide (v1.f4 > (0:Int))))],hp20 v1⟩ rfl ?_ (zz rfl) trivial ?_
    ·kernel_rfl
    refine AOps.nil ?_
    refine AWp.cond rfl (fun hb=>?_) fun hb=>?_
    ·replace h:=of_true h hb
     refine AWp.keepTo [0] 1 ⟨[(0,.pc 0 0)],hp20 v1⟩ ?_ (zz rfl) ?_
     ·kernel_rfl
     refine AWp.start [0,1,2,3,4,5,6,7] [] [] [] 1 ⟨[],[.cells 79 [.str v1.f0,.int .i64 v1.f1,fzL 1 (cSl 1 (cInt .u8)) v1.f2,.bool v1.f3,.int .i64 (w64 (v1.f4 - (1:Int))),.bool v1.f5,k1 v1.f6]]⟩ rfl ?_ (zz rfl) trivial ?_
     ·kernel_rfl
     refine AOps.nil ?_
     exact ⟨(w64 (v1.f4 - (1:Int)),v1.f5),h,rfl⟩
    ·replace h:=of_false h hb
     refine AWp.keepTo [] 1 ⟨[],hp20 v1⟩ ?_ (zz rfl) ?_
     ·kernel_rfl
     refine AWp.skip ?_
     exact ⟨(v1.f4,v1.f5),h,rfl⟩
 ·rintro ⟨v2,v3⟩ h
  refine AWp.seq ?_
  refine AWp.start [0] [] [] [2] 1 ⟨[(2,tI (0:Int))],[.cells 79 [.str v1.f0,.int .i64 v1.f1,fzL 1 (cSl 1 (cInt .u8)) v1.f2,.bool v1.f3,.int .i64 v2,.bool v3,k1 v1.f6]]⟩ rfl ?_ (zz rfl) trivial ?_
  ·kernel_rfl
  refine AOps.nil ?_
  refine AWp.ret ?_
  cases h
  exact ⟨.inr rfl,rfl⟩

abbrev hp21 (v1:T78):List AObj:=[.cells 79 [.str v1.f0,.int .i64 v1.f1,fzL 1 (cSl 1 (cInt .u8)) v1.f2,.bool v1.f3,.int .i64 v1.f4,.bool v1.f5,k1 v1.f6]]

noncomputable def f58o_j1 (v1:T78) (v4:List (List Int)) (v5:Bool):Option (Int × T78) :=
 some ((0:Int),T78.mk v1.f0 v1.f1 v4 v5 v1.f4 true v1.f6)

noncomputable def f58o (v1:T78):Option (Int × T78) :=
 (f46 v1).bind fun v2=>(cond (!v2) (some true) (some v1.f5)).bind fun v3=>cond v3 (some ((110:Int),T78.mk v1.f0 v1.f1 v1.f2 v1.f3 v1.f4 v1.f5 v1.f6)) (cond (decide (v1.f4 < (v1.f2.length:Int))) (if (0:Int) ≤ v1.f4 ∧ v1.f4 ≤ (v1.f2.length:Int) then f58o_j1 v1 ((v1.f2.take (Int.toNat v1.f4)).drop 0) false else none) (f58o_j1 v1 v1.f2 v1.f3))

theorem f58o_ok (v1:T78) {r:Int × T78} (h:f58o v1 = some r):ACall Try.prog 58 [.pc 0 0] [.cells 79 [.str v1.f0,.int .i64 v1.f1,fzL 1 (cSl 1 (cInt .u8)) v1.f2,.bool v1.f3,.int .i64 v1.f4,.bool v1.f5,ownL 1 5 (cInt .u8) v1.f6]] (.tv (.int .i64 r.1)) [.cells 79 [.str r.2.f0,.int .i64 r.2.f1,fzL 1 (cSl 1 (cInt .u8)) r.2.f2,.bool r.2.f3,.int .i64 r.2.f4,.bool r.2.f5,ownL 1 5 (cInt .u8) r.2.f6]]:=by
 refine ACall.of1 (FF 40 1) Try.func58 rfl Try.ntmps58 Try.results58 (zz rfl) rfl rfl ?_
 refine AWp.seq ?_
 refine AWp.start [0] [] [] [0] 1 ⟨[(0,.pc 0 0)],hp21 v1⟩ rfl ?_ (zz rfl) trivial ?_
 ·kernel_rfl
 refine AOps.nil ?_
 refine AWp.seq ?_
 refine AWp.seq ?_
 refine AWp.start [0] [1,2,3,4,5,6,7,8] [] [0,3] 1 ⟨[(0,.pc 0 0),(3,.pc 0 0)],hp21 v1⟩ rfl ?_ (zz rfl) trivial ?_
 ·kernel_rfl
 obtain ⟨v2,hv2,h⟩:=of_bind h
 refine AOps.cons (AOne.callR (F:=(FF 40 1)) _ rfl rfl rfl _ rfl rfl _ _ rfl Try.call46 [PlainTo v1.f6.length (fun i=>(cInt .u8) (v1.f6.getD i default))] [.rp (c78 v1)] rfl (fun _ _=>rfl) (f46_ok v1 hv2) (ind_of rfl) rfl) ?_
 refine AOps.go [2,3] [4,5,6,7,8] [] [0,6] 1 ⟨[(0,.pc 0 0),(6,tB (!v2))],hp21 v1⟩ ?_ (zz rfl) trivial ?_
 ·kernel_rfl
 obtain ⟨v3,hc4,h⟩:=of_bind h
 refine AOps.cut [4,5,6,7,8] [] (fun σ=>σ = ⟨[(0,.pc 0 0),(11,tB v3)],hp21 v1⟩) ?_ fun σ' hJ=>?_
 ·refine AOps.split (fun b=>⟨[(0,.pc 0 0),(6,tB b)],hp21 v1⟩) _ (fun hb=>?_) fun hb=>?_
  ·replace hc4:=of_true hc4 hb
   refine AOps.go [4,5,6,7,8] [] [] [0,11] 1 ⟨[(0,.pc 0 0),(11,tB true)],hp21 v1⟩ ?_ (zz rfl) trivial ?_
   ·kernel_rfl
   cases hc4
   exact AOps.nil rfl
  ·replace hc4:=of_false hc4 hb
   refine AOps.go [4,5,6,7,8] [] [] [0,11] 1 ⟨[(0,.pc 0 0),(11,tB v1.f5)],hp21 v1⟩ ?_ (zz rfl) trivial ?_
   ·kernel_rfl
   cases hc4
   exact AOps.nil rfl
 subst hJ
 refine AOps.nil ?_
 refine AWp.cond rfl (fun hb=>?_) fun hb=>?_
 ·replace h:=of_true h hb
  refine AWp.keepTo [] 1 ⟨[],hp21 v1⟩ ?_ (zz rfl) ?_
  ·kernel_rfl
  refine AWp.seq ?_
  refine AWp.start [0] [] [] [2] 1 ⟨[(2,tI (110:Int))],hp21 v1⟩ rfl ?_ (zz rfl) trivial ?_
  ·kernel_rfl
  refine AOps.nil ?_
  refine AWp.ret ?_
  cases h
  exact ⟨.inr rfl,rfl⟩
 ·replace h:=of_false h hb
  refine AWp.keepTo [0] 1 ⟨[(0,.pc 0 0)],hp21 v1⟩ ?_ (zz rfl) ?_
  ·kernel_rfl
  refine AWp.skip ?_
  refine AWp.join (V:=(List (List Int)) × Bool) (fun w=>⟨[(0,.pc 0 0)],[.cells 79 [.str v1.f0,.int .i64 v1.f1,fzL 1 (cSl 1 (cInt .u8)) w.1,.bool w.2,.int .i64 v1.f4,.bool v1.f5,k1 v1.f6]]⟩) (fun w=>f58o_j1 v1 w.1 w.2 = some r) ?_ ?_
  ·refine AWp.seq ?_
   refine AWp.draw FFm _ (n:=10) rfl (ls:=#[n1,n1,n1,n1,n1,n1,n1,n1,n1,n1]) rfl ?_ (fun _ h=>h)
   refine AAny.go (by kernel_rfl) [0,1,2,4,5,6] (fuel':=4) rfl [] #[y1,y1,y1,n1,y1,y1,y1,n1,n1,n1] [0,14,18] 1 ⟨[(0,.pc 0 0),(14,.pc 0 4),(18,.pc 0 2)],hp21 v1⟩ ?_ (zz rfl) trivial ?_
   ·kernel_rfl
   refine AAny.goR (by kernel_rfl) (i:=7) (fuel':=3) [8,9] rfl (by kernel_rfl) (by kernel_rfl) [] #[y1,y1,y1,n1,y1,y1,y1,y1,n1,n1] rfl [0,14,19] 1 ⟨[(0,.pc 0 0),(14,.pc 0 4),(19,.tv (fzL 1 (cSl 1 (cInt .u8)) v1.f2))],hp21 v1⟩ ?_ (zz rfl) trivial ?_
   ·kernel_rfl
   refine AAny.go (by kernel_rfl) [8] (fuel':=2) rfl [] #[y1,y1,y1,n1,y1,y1,y1,y1,y1,n1] [0,14,20] 1 ⟨[(0,.pc 0 0),(14,.pc 0 4),(20,tI (v1.f2.length:Int))],hp21 v1⟩ ?_ (zz rfl) trivial ?_
   ·kernel_rfl
   refine AAny.step (i:=3) (fuel':=1) rfl (by kernel_rfl) [] #[y1,y1,y1,y1,y1,y1,y1,y1,y1,n1] rfl [0,15,20] 1 ⟨[(0,.pc 0 0),(15,tI v1.f4),(20,tI (v1.f2.length:Int))],hp21 v1⟩ ?_ (zz rfl) trivial ?_
   ·kernel_rfl
   refine AAny.go (by kernel_rfl) [9] (fuel':=0) rfl [] #[y1,y1,y1,y1,y1,y1,y1,y1,y1,y1] [0,21] 1 ⟨[(0,.pc 0 0),(21,tB (decide (v1.f4 < (v1.f2.length:Int))))],hp21 v1⟩ ?_ (zz rfl) trivial ?_
   ·kernel_rfl
   refine AAny.keepTo [0,21] 1 ⟨[(0,.pc 0 0),(21,tB (decide (v1.f4 < (v1.f2.length:Int))))],hp21 v1⟩ _ ?_ rfl (zz rfl) (AAny.done (by kernel_rfl) ?_)
   ·kernel_rfl
   refine AWp.cond rfl (fun hb=>?_) fun hb=>?_
   ·replace h:=of_true h hb
    refine AWp.keepTo [0] 1 ⟨[(0,.pc 0 0)],hp21 v1⟩ ?_ (zz rfl) ?_
    ·kernel_rfl
    refine AWp.draw FFm _ (n:=17) rfl (ls:=#[n1,n1,n1,n1,n1,n1,n1,n1,n1,n1,n1,n1,n1,n1,n1,n1,n1]) rfl ?_ (fun _ h=>h)
    refine AAny.go (by kernel_rfl) [0,1,2,3,4,6,7,8] (fuel':=9) rfl [] #[y1,y1,y1,y1,y1,n1,y1,y1,y1,n1,n1,n1,n1,n1,n1,n1,n1] [0,22,23,26,30] 1 ⟨[(0,.pc 0 0),(22,.pc 0 0),(23,.pc 0 0),(26,.pc 0 2),(30,.pc 0 4)],hp21 v1⟩ ?_ (zz rfl) trivial ?_
    ·kernel_rfl
    refine AAny.goR (by kernel_rfl) (i:=5) (fuel':=8) [10,11,12,13,14,15,16] rfl (by kernel_rfl) (by kernel_rfl) [] #[y1,y1,y1,y1,y1,y1,y1,y1,y1,n1,n1,n1,n1,n1,n1,n1,n1] rfl [0,22,23,27,30] 1 ⟨[(0,.pc 0 0),(22,.pc 0 0),(23,.pc 0 0),(27,.tv (fzL 1 (cSl 1 (cInt .u8)) v1.f2)),(30,.pc 0 4)],hp21 v1⟩ ?_ (zz rfl) trivial ?_
    ·kernel_rfl
    refine AAny.step (i:=9) (fuel':=7) rfl (by kernel_rfl) [] #[y1,y1,y1,y1,y1,y1,y1,y1,y1,y1,n1,n1,n1,n1,n1,n1,n1] rfl [0,22,23,27,31] 1 ⟨[(0,.pc 0 0),(22,.pc 0 0),(23,.pc 0 0),(27,.tv (fzL 1 (cSl 1 (cInt .u8)) v1.f2)),(31,tI v1.f4)],hp21 v1⟩ ?_ (zz rfl) trivial ?_
    ·kernel_rfl
    obtain ⟨hg,h⟩:=of_guard h
    refine AAny.go (by kernel_rfl) [10] (fuel':=6) rfl [(0:Int) ≤ (0:Int),(0:Int) ≤ v1.f4,v1.f4 ≤ (v1.f2.length:Int)] #[y1,y1,y1,y1,y1,y1,y1,y1,y1,y1,y1,n1,n1,n1,n1,n1,n1] [0,22,23,32] 1 ⟨[(0,.pc 0 0),(22,.pc 0 0),(23,.pc 0 0),(32,.tv (.fz 1 ((Int.toNat v1.f4) - 0) (fun i=>(cSl 1 (cInt .u8)) (v1.f2.getD (0 + i) default))))],hp21 v1⟩ ?_ (zz rfl) ⟨(by decide:(0:Int) ≤ (0:Int)),hg.1,hg.2⟩ ?_
    ·kernel_rfl
    have hb:(Int.toNat v1.f4) ≤ v1.f2.length:=by have hh:v1.f4 ≤ (v1.f2.length:Int):=hg.2; omega
    refine AAny.extFzL (s:=32) rfl (sub_len v1.f2 0 (Int.toNat v1.f4) hb) (sub_at (cSl 1 (cInt .u8)) v1.f2 0 (Int.toNat v1.f4) hb) ?_
    refine AAny.go (by kernel_rfl) [11,12] (fuel':=4) rfl [] #[y1,y1,y1,y1,y1,y1,y1,y1,y1,y1,y1,y1,y1,n1,n1,n1,n1] [0,23,32,34] 1 ⟨[(0,.pc 0 0),(23,.pc 0 0),(32,.tv (fzL 1 (cSl 1 (cInt .u8)) ((v1.f2.take (Int.toNat v1.f4)).drop 0))),(34,.pc 0 2)],hp21 v1⟩ ?_ (zz rfl) trivial ?_
    ·kernel_rfl
    refine AAny.step (i:=13) (fuel':=3) rfl (by kernel_rfl) [] #[y1,y1,y1,y1,y1,y1,y1,y1,y1,y1,y1,y1,y1,y1,n1,n1,n1] rfl [0,23] 1 ⟨[(0,.pc 0 0),(23,.pc 0 0)],[.cells 79 [.str v1.f0,.int .i64 v1.f1,fzL 1 (cSl 1 (cInt .u8)) ((v1.f2.take (Int.toNat v1.f4)).drop 0),.bool v1.f3,.int .i64 v1.f4,.bool v1.f5,k1 v1.f6]]⟩ ?_ (zz rfl) trivial ?_
    ·kernel_rfl
    refine AAny.go (by kernel_rfl) [14,15] (fuel':=1) rfl [] #[y1,y1,y1,y1,y1,y1,y1,y1,y1,y1,y1,y1,y1,y1,y1,y1,n1] [0,36] 1 ⟨[(0,.pc 0 0),(36,.pc 0 3)],[.cells 79 [.str v1.f0,.int .i64 v1.f1,fzL 1 (cSl 1 (cInt .u8)) ((v1.f2.take (Int.toNat v1.f4)).drop 0),.bool v1.f3,.int .i64 v1.f4,.bool v1.f5,k1 v1.f6]]⟩ ?_ (zz rfl) trivial ?_
    ·kernel_rfl
    refine AAny.step (i:=16) (fuel':=0) rfl (by kernel_rfl) [] #[y1,y1,y1,y1,y1,y1,y1,y1,y1,y1,y1,y1,y1,y1,y1,y1,y1] rfl [0] 1 ⟨[(0,.pc 0 0)],[.cells 79 [.str v1.f0,.int .i64 v1.f1,fzL 1 (cSl 1 (cInt .u8)) ((v1.f2.take (Int.toNat v1.f4)).drop 0),.bool false,.int .i64 v1.f4,.bool v1.f5,k1 v1.f6]]⟩ ?_ (zz rfl) trivial ?_
    ·kernel_rfl
    refine AAny.keepTo [0] 1 ⟨[(0,.pc 0 0)],[.cells 79 [.str v1.f0,.int .i64 v1.f1,fzL 1 (cSl 1 (cInt .u8)) ((v1.f2.take (Int.toNat v1.f4)).drop 0),.bool false,.int .i64 v1.f4,.bool v1.f5,k1 v1.f6]]⟩ _ ?_ rfl (zz rfl) (AAny.done (by kernel_rfl) ?_)
    ·kernel_rfl
    exact ⟨((v1.f2.take (Int.toNat v1.f4)).drop 0,false),h,rfl⟩
   ·replace h:=of_false h hb
    refine AWp.keepTo [0] 1 ⟨[(0,.pc 0 0)],hp21 v1⟩ ?_ (zz rfl) ?_
    ·kernel_rfl
    refine AWp.skip ?_
    exact ⟨(v1.f2,v1.f3),h,rfl⟩
  ·rintro ⟨v4,v5⟩ h
   refine AWp.seq ?_
   refine AWp.start [0,1,2,3] [] [] [] 1 ⟨[],[.cells 79 [.str v1.f0,.int .i64 v1.f1,fzL 1 (cSl 1 (cInt .u8)) v4,.bool v5,.int .i64 v1.f4,.bool true,k1 v1.f6]]⟩ rfl ?_ (zz rfl) trivial ?_
   ·kernel_rfl
   refine AOps.nil ?_
   refine AWp.seq ?_
   refine AWp.start [0] [] [] [2] 1 ⟨[(2,tI (0:Int))],[.cells 79 [.str v1.f0,.int .i64 v1.f1,fzL 1 (cSl 1 (cInt .u8)) v4,.bool v5,.int .i64 v1.f4,.bool true,k1 v1.f6]]⟩ rfl ?_ (zz rfl) trivial ?_
   ·kernel_rfl
   refine AOps.nil ?_
   refine AWp.ret ?_
   cases h
   exact ⟨.inr rfl,rfl⟩

abbrev hp22 (v2:T78):List AObj:=[.cells 79 [.str v2.f0,.int .i64 v2.f1,fzL 1 (cSl 1 (cInt .u8)) v2.f2,.bool v2.f3,.int .i64 v2.f4,.bool v2.f5,k1 v2.f6]]

noncomputable def f29o (v1:T46) (v2:T78):Option ((List Int) × Int × T78) :=
 cond (v1.f0 == (0:Int)) ((f52o v1.f3 (T78.mk v2.f0 v2.f1 v2.f2 v2.f3 v2.f4 v2.f5 v2.f6)).bind fun v3=>some (([]:List Int),v3.1,T78.mk v3.2.f0 v3.2.f1 v3.2.f2 v3.2.f3 v3.2.f4 v3.2.f5 v3.2.f6)) (cond (v1.f0 == (1:Int)) ((f53o (T78.mk v2.f0 v2.f1 v2.f2 v2.f3 v2.f4 v2.f5 v2.f6)).bind fun v4=>some (v4.1,v4.2.1,T78.mk v4.2.2.f0 v4.2.2.f1 v4.2.2.f2 v4.2.2.f3 v4.2.2.f4 v4.2.2.f5 v4.2.2.f6)) (cond (v1.f0 == (2:Int)) ((f54o v1.f1 v1.f3 (T78.mk v2.f0 v2.f1 v2.f2 v2.f3 v2.f4 v2.f5 v2.f6)).bind fun v5=>some (([]:List Int),v5.1,T78.mk v5.2.f0 v5.2.f1 v5.2.f2 v5.2.f3 v5.2.f4 v5.2.f5 v5.2.f6)) (cond (v1.f0 == (3:Int)) ((f55o v1.f1 v1.f2 (T78.mk v2.f0 v2.f1 v2.f2 v2.f3 v2.f4 v2.f5 v2.f6)).bind fun v6=>some (v6.1,v6.2.1,T78.mk v6.2.2.f0 v6.2.2.f1 v6.2.2.f2 v6.2.2.f3 v6.2.2.f4 v6.2.2.f5 v6.2.2.f6)) (cond (v1.f0 == (4:Int)) ((f56o (T78.mk v2.f0 v2.f1 v2.f2 v2.f3 v2.f4 v2.f5 v2.f6)).bind fun v7=>some (([]:List Int),v7.1,T78.mk v7.2.f0 v7.2.f1 v7.2.f2 v7.2.f3 v7.2.f4 v7.2.f5 v7.2.f6)) (cond (v1.f0 == (5:Int)) ((f57o (T78.mk v2.f0 v2.f1 v2.f2 v2.f3 v2.f4 v2.f5 v2.f6)).bind fun v8=>some (([]:List Int),v8.1,T78.mk v8.2.f0 v8.2.f1 v8.2.f2 v8.2.f3 v8.2.f4 v8.2.f5 v8.2.f6)) ((f58o (T78.mk v2.f0 v2.f1 v2.f2 v2.f3 v2.f4 v2.f5 v2.f6)).bind fun v9=>some (([]:List Int),v9.1,T78.mk v9.2.f0 v9.2.f1 v9.2.f2 v9.2.f3 v9.2.f4 v9.2.f5 v9.2.f6)))))))

theorem f29o_ok (v1:T46) (v2:T78) {r:(List Int) × Int × T78} (h:f29o v1 v2 = some r):ACall Try.prog 29 [.pc 0 0,.agg [.int .i64 v1.f0,.int .i64 v1.f1,.int .i64 v1.f2,fzL 1 (cInt .u8) v1.f3]] [.cells 79 [.str v2.f0,.int .i64 v2.f1,fzL 1 (cSl 1 (cInt .u8)) v2.f2,.bool v2.f3,.int .i64 v2.f4,.bool v2.f5,ownL 1 5 (cInt .u8) v2.f6]] (.tup [.tv (fzL 1 (cInt .u8) r.1),.tv (.int .i64 r.2.1)]) [.cells 79 [.str r.2.2.f0,.int .i64 r.2.2.f1,fzL 1 (cSl 1 (cInt .u8)) r.2.2.f2,.bool r.2.2.f3,.int .i64 r.2.2.f4,.bool r.2.2.f5,ownL 1 5 (cInt .u8) r.2.2.f6]]:=by
 refine ACall.ofN (FF 48 1) (rs:=[4,5]) (env:=[(4,q0 r.1),(5,tI r.2.1)]) Try.func29 rfl Try.ntmps29 Try.results29 (by decide) (by decide) rfl (zz rfl) rfl (get_ofN _ _ _ rfl) (ok_ofN _ rfl) ?_
 refine AWp.seq ?_
 refine AWp.start [0,1,2] [] [] [0,3] 2 ⟨[(0,.pc 0 0),(3,.pc 1 0)],[.cells 79 [.str v2.f0,.int .i64 v2.f1,fzL 1 (cSl 1 (cInt .u8)) v2.f2,.bool v2.f3,.int .i64 v2.f4,.bool v2.f5,k1 v2.f6],.cells 47 (c46 v1)]⟩ rfl ?_ (zz rfl) trivial ?_
 ·kernel_rfl
 refine AOps.nil ?_
 refine AWp.seq ?_
 refine AWp.seq ?_
 refine AWp.pin 1 rfl rfl ?_
 refine AWp.keepTo [0,3] 1 ⟨[(0,.pc 0 0),(3,.rp (c46 v1))],hp22 v2⟩ ?_ (zz rfl) ?_
 ·kernel_rfl
 refine AWp.start [0,1] [] [] [0,3,7] 1 ⟨[(0,.pc 0 0),(3,.rp (c46 v1)),(7,tI v1.f0)],hp22 v2⟩ rfl ?_ (zz rfl) trivial ?_
 ·kernel_rfl
 refine AOps.nil ?_
 refine AWp.block ?_
 refine AWp.seq ?_
 refine AWp.start [0,1] [] [] [0,3,7,8] 1 ⟨[(0,.pc 0 0),(3,.rp (c46 v1)),(7,tI v1.f0),(8,tB (v1.f0 == (0:Int)))],hp22 v2⟩ rfl ?_ (zz rfl) trivial ?_
 ·kernel_rfl
 refine AOps.nil ?_
 refine AWp.cond rfl (fun hb=>?_) fun hb=>?_
 ·replace h:=of_true h hb
  refine AWp.keepTo [0,3] 1 ⟨[(0,.pc 0 0),(3,.rp (c46 v1))],hp22 v2⟩ ?_ (zz rfl) ?_
  ·kernel_rfl
  refine AWp.seq ?_
  refine AWp.start [0,1,2] [3,4,5] [] [10,12] 1 ⟨[(10,.pc 0 0),(12,q0 v1.f3)],hp22 v2⟩ rfl ?_ (zz rfl) trivial ?_
  ·kernel_rfl
  obtain ⟨v3,hv3,h⟩:=of_bind h
  refine AOps.cons (AOne.callO (F:=(FF 48 1)) _ rfl rfl rfl 13 rfl rfl 52 [] rfl Try.call52 [0] (by decide) [.pc 0 0,q0 v1.f3] (by kernel_rfl) [.cells 79 [.str v2.f0,.int .i64 v2.f1,fzL 1 (cSl 1 (cInt .u8)) v2.f2,.bool v2.f3,.int .i64 v2.f4,.bool v2.f5,k1 v2.f6]] (by kernel_rfl) (f52o_ok v1.f3 (T78.mk v2.f0 v2.f1 v2.f2 v2.f3 v2.f4 v2.f5 v2.f6) hv3) (by kernel_rfl) (by kernel_rfl) _ rfl) ?_
  refine AOps.go [4,5] [] [] [4,5] 1 ⟨[(4,.tv (.sc (.slice none 0 0))),(5,tI v3.1)],[.cells 79 [.str v3.2.f0,.int .i64 v3.2.f1,fzL 1 (cSl 1 (cInt .u8)) v3.2.f2,.bool v3.2.f3,.int .i64 v3.2.f4,.bool v3.2.f5,k1 v3.2.f6]]⟩ ?_ (zz rfl) trivial ?_
  ·kernel_rfl
  refine AOps.nil ?_
  refine AWp.nilFz 4 1 (fun i=>(cInt .u8) (([]:List Int).getD i default)) rfl ?_
  refine AWp.keepTo [4,5] 1 ⟨[(4,q0 ([]:List Int)),(5,tI v3.1)],[.cells 79 [.str v3.2.f0,.int .i64 v3.2.f1,fzL 1 (cSl 1 (cInt .u8)) v3.2.f2,.bool v3.2.f3,.int .i64 v3.2.f4,.bool v3.2.f5,k1 v3.2.f6]]⟩ ?_ (zz rfl) ?_
  ·kernel_rfl
  refine AWp.ret ?_
  cases h
  exact ⟨.inr rfl,rfl⟩
 ·replace h:=of_false h hb
  refine AWp.keepTo [0,3,7] 1 ⟨[(0,.pc 0 0),(3,.rp (c46 v1)),(7,tI v1.f0)],hp22 v2⟩ ?_ (zz rfl) ?_
  ·kernel_rfl
  refine AWp.seq ?_
  refine AWp.start [0,1] [] [] [0,3,7,14] 1 ⟨[(0,.pc 0 0),(3,.rp (c46 v1)),(7,tI v1.f0),(14,tB (v1.f0 == (1:Int)))],hp22 v2⟩ rfl ?_ (zz rfl) trivial ?_
  ·kernel_rfl
  refine AOps.nil ?_
  refine AWp.cond rfl (fun hb=>?_) fun hb=>?_
  ·replace h:=of_true h hb
   refine AWp.keepTo [0] 1 ⟨[(0,.pc 0 0)],hp22 v2⟩ ?_ (zz rfl) ?_
   ·kernel_rfl
   refine AWp.seq ?_
   refine AWp.start [0] [1,2,3,4,5] [] [16] 1 ⟨[(16,.pc 0 0)],hp22 v2⟩ rfl ?_ (zz rfl) trivial ?_
   ·kernel_rfl
   obtain ⟨v4,hv4,h⟩:=of_bind h
   refine AOps.cons (AOne.callO (F:=(FF 48 1)) _ rfl rfl rfl 17 rfl rfl 53 [] rfl Try.call53 [0] (by decide) [.pc 0 0] (by kernel_rfl) [.cells 79 [.str v2.f0,.int .i64 v2.f1,fzL 1 (cSl 1 (cInt .u8)) v2.f2,.bool v2.f3,.int .i64 v2.f4,.bool v2.f5,k1 v2.f6]] (by kernel_rfl) (f53o_ok (T78.mk v2.f0 v2.f1 v2.f2 v2.f3 v2.f4 v2.f5 v2.f6) hv4) (by kernel_rfl) (by kernel_rfl) _ rfl) ?_
   refine AOps.go [2,3,4,5] [] [] [4,5] 1 ⟨[(4,q0 v4.1),(5,tI v4.2.1)],[.cells 79 [.str v4.2.2.f0,.int .i64 v4.2.2.f1,fzL 1 (cSl 1 (cInt .u8)) v4.2.2.f2,.bool v4.2.2.f3,.int .i64 v4.2.2.f4,.bool v4.2.2.f5,k1 v4.2.2.f6]]⟩ ?_ (zz rfl) trivial ?_
   ·kernel_rfl
   refine AOps.nil ?_
   refine AWp.ret ?_
   cases h
   exact ⟨.inr rfl,rfl⟩
  ·replace h:=of_false h hb
   refine AWp.keepTo [0,3,7] 1 ⟨[(0,.pc 0 0),(3,.rp (c46 v1)),(7,tI v1.f0)],hp22 v2⟩ ?_ (zz rfl) ?_
   ·kernel_rfl
   refine AWp.seq ?_
   refine AWp.start [0,1] [] [] [0,3,7,20] 1 ⟨[(0,.pc 0 0),(3,.rp (c46 v1)),(7,tI v1.f0),(20,tB (v1.f0 == (2:Int)))],hp22 v2⟩ rfl ?_ (zz rfl) trivial ?_
   ·kernel_rfl
   refine AOps.nil ?_
   refine AWp.cond rfl (fun hb=>?_) fun hb=>?_
   ·replace h:=of_true h hb
    refine AWp.keepTo [0,3] 1 ⟨[(0,.pc 0 0),(3,.rp (c46 v1))],hp22 v2⟩ ?_ (zz rfl) ?_
    ·kernel_rfl
    refine AWp.seq ?_
    refine AWp.start [0,1,2,3,4] [5,6,7] [] [22,24,26] 1 ⟨[(22,.pc 0 0),(24,tI v1.f1),(26,q0 v1.f3)],hp22 v2⟩ rfl ?_ (zz rfl) trivial ?_
    ·kernel_rfl
    obtain ⟨v5,hv5,h⟩:=of_bind h
    refine AOps.cons (AOne.callO (F:=(FF 48 1)) _ rfl rfl rfl 27 rfl rfl 54 [] rfl Try.call54 [0] (by decide) [.pc 0 0,tI v1.f1,q0 v1.f3] (by kernel_rfl) [.cells 79 [.str v2.f0,.int .i64 v2.f1,fzL 1 (cSl 1 (cInt .u8)) v2.f2,.bool v2.f3,.int .i64 v2.f4,.bool v2.f5,k1 v2.f6]] (by kernel_rfl) (f54o_ok v1.f1 v1.f3 (T78.mk v2.f0 v2.f1 v2.f2 v2.f3 v2.f4 v2.f5 v2.f6) hv5) (by kernel_rfl) (by kernel_rfl) _ rfl) ?_
    refine AOps.go [6,7] [] [] [4,5] 1 ⟨[(4,.tv (.sc (.slice none 0 0))),(5,tI v5.1)],[.cells 79 [.str v5.2.f0,.int .i64 v5.2.f1,fzL 1 (cSl 1 (cInt .u8)) v5.2.f2,.bool v5.2.f3,.int .i64 v5.2.f4,.bool v5.2.f5,k1 v5.2.f6]]⟩ ?_ (zz rfl) trivial ?_
    ·kernel_rfl
    refine AOps.nil ?_
    refine AWp.nilFz 4 1 (fun i=>(cInt .u8) (([]:List Int).getD i default)) rfl ?_
    refine AWp.keepTo [4,5] 1 ⟨[(4,q0 ([]:List Int)),(5,tI v5.1)],[.cells 79 [.str v5.2.f0,.int .i64 v5.2.f1,fzL 1 (cSl 1 (cInt .u8)) v5.2.f2,.bool v5.2.f3,.int .i64 v5.2.f4,.bool v5.2.f5,k1 v5.2.f6]]⟩ ?_ (zz rfl) ?_
    ·kernel_rfl
    refine AWp.ret ?_
    cases h
    exact ⟨.inr rfl,rfl⟩
   ·replace h:=of_false h hb
    refine AWp.keepTo [0,3,7] 1 ⟨[(0,.pc 0 0),(3,.rp (c46 v1)),(7,tI v1.f0)],hp22 v2⟩ ?_ (zz rfl) ?_
    ·kernel_rfl
    refine AWp.seq ?_
    refine AWp.start [0,1] [] [] [0,3,7,28] 1 ⟨[(0,.pc 0 0),(3,.rp (c46 v1)),(7,tI v1.f0),(28,tB (v1.f0 == (3:Int)))],hp22 v2⟩ rfl ?_ (zz rfl) trivial ?_
    ·kernel_rfl
    refine AOps.nil ?_
    refine AWp.cond rfl (fun hb=>?_) fun hb=>?_
    ·replace h:=of_true h hb
     refine AWp.keepTo [0,3] 1 ⟨[(0,.pc 0 0),(3,.rp (c46 v1))],hp22 v2⟩ ?_ (zz rfl) ?_
     ·kernel_rfl
     refine AWp.seq ?_
     refine AWp.start [0,1,2,3,4] [5,6,7,8,9] [] [30,32,34] 1 ⟨[(30,.pc 0 0),(32,tI v1.f1),(34,tI v1.f2)],hp22 v2⟩ rfl ?_ (zz rfl) trivial ?_
     ·kernel_rfl
     obtain ⟨v6,hv6,h⟩:=of_bind h
     refine AOps.cons (AOne.callO (F:=(FF 48 1)) _ rfl rfl rfl 35 rfl rfl 55 [] rfl Try.call55 [0] (by decide) [.pc 0 0,tI v1.f1,tI v1.f2] (by kernel_rfl) [.cells 79 [.str v2.f0,.int .i64 v2.f1,fzL 1 (cSl 1 (cInt .u8)) v2.f2,.bool v2.f3,.int .i64 v2.f4,.bool v2.f5,k1 v2.f6]] (by kernel_rfl) (f55o_ok v1.f1 v1.f2 (T78.mk v2.f0 v2.f1 v2.f2 v2.f3 v2.f4 v2.f5 v2.f6) hv6) (by kernel_rfl) (by kernel_rfl) _ rfl) ?_
     refine AOps.go [6,7,8,9] [] [] [4,5] 1 ⟨[(4,q0 v6.1),(5,tI v6.2.1)],[.cells 79 [.str v6.2.2.f0,.int .i64 v6.2.2.f1,fzL 1 (cSl 1 (cInt .u8)) v6.2.2.f2,.bool v6.2.2.f3,.int .i64 v6.2.2.f4,.bool v6.2.2.f5,k1 v6.2.2.f6]]⟩ ?_ (zz rfl) trivial ?_
     ·kernel_rfl
     refine AOps.nil ?_
     refine AWp.ret ?_
     cases h
     exact ⟨.inr rfl,rfl⟩
    ·replace h:=of_false h hb
     refine AWp.keepTo [0,7] 1 ⟨[(0,.pc 0 0),(7,tI v1.f0)],hp22 v2⟩ ?_ (zz rfl) ?_
     ·kernel_rfl
     refine AWp.seq ?_
     refine AWp.start [0,1] [] [] [0,7,38] 1 ⟨[(0,.pc 0 0),(7,tI v1.f0),(38,tB (v1.f0 == (4:Int)))],hp22 v2⟩ rfl ?_ (zz rfl) trivial ?_
     ·kernel_rfl
     refine AOps.nil ?_
     refine AWp.cond rfl (fun hb=>?_) fun hb=>?_
     ·replace h:=of_true h hb
      refine AWp.keepTo [0] 1 ⟨[(0,.pc 0 0)],hp22 v2⟩ ?_ (zz rfl) ?_
      ·kernel_rfl
      refine AWp.seq ?_
      refine AWp.start [0] [1,2,3] [] [40] 1 ⟨[(40,.pc 0 0)],hp22 v2⟩ rfl ?_ (zz rfl) trivial ?_
      ·kernel_rfl
      obtain ⟨v7,hv7,h⟩:=of_bind h
      refine AOps.cons (AOne.callO (F:=(FF 48 1)) _ rfl rfl rfl 41 rfl rfl 56 [] rfl Try.call56 [0] (by decide) [.pc 0 0] (by kernel_rfl) [.cells 79 [.str v2.f0,.int .i64 v2.f1,fzL 1 (cSl 1 (cInt .u8)) v2.f2,.bool v2.f3,.int .i64 v2.f4,.bool v2.f5,k1 v2.f6]] (by kernel_rfl) (f56o_ok (T78.mk v2.f0 v2.f1 v2.f2 v2.f3 v2.f4 v2.f5 v2.f6) hv7) (by kernel_rfl) (by kernel_rfl) _ rfl) ?_
      refine AOps.go [2,3] [] [] [4,5] 1 ⟨[(4,.tv (.sc (.slice none 0 0))),(5,tI v7.1)],[.cells 79 [.str v7.2.f0,.int .i64 v7.2.f1,fzL 1 (cSl 1 (cInt .u8)) v7.2.f2,.bool v7.2.f3,.int .i64 v7.2.f4,.bool v7.2.f5,k1 v7.2.f6]]⟩ ?_ (zz rfl) trivial ?_
      ·kernel_rfl
      refine AOps.nil ?_
      refine AWp.nilFz 4 1 (fun i=>(cInt .u8) (([]:List Int).getD i default)) rfl ?_
      refine AWp.keepTo [4,5] 1 ⟨[(4,q0 ([]:List Int)),(5,tI v7.1)],[.cells 79 [.str v7.2.f0,.int .i64 v7.2.f1,fzL 1 (cSl 1 (cInt .u8)) v7.2.f2,.bool v7.2.f3,.int .i64 v7.2.f4,.bool v7.2.f5,k1 v7.2.f6]]⟩ ?_ (zz rfl) ?_
      ·kernel_rfl
      refine AWp.ret ?_
      cases h
      exact ⟨.inr rfl,rfl⟩
     ·replace h:=of_false h hb
      refine AWp.keepTo [0,7] 1 ⟨[(0,.pc 0 0),(7,tI v1.f0)],hp22 v2⟩ ?_ (zz rfl) ?_
      ·kernel_rfl
      refine AWp.seq ?_
      refine AWp.start [0,1] [] [] [0,42] 1 ⟨[(0,.pc 0 0),(42,tB (v1.f0 == (5:Int)))],hp22 v2⟩ rfl ?_ (zz rfl) trivial ?_
      ·kernel_rfl
      refine AOps.nil ?_
      refine AWp.cond rfl (fun hb=>?_) fun hb=>?_
      ·replace h:=of_true h hb
       refine AWp.keepTo [0] 1 ⟨[(0,.pc 0 0)],hp22 v2⟩ ?_ (zz rfl) ?_
       ·kernel_rfl
       refine AWp.seq ?_
       refine AWp.start [0] [1,2,3] [] [44] 1 ⟨[(44,.pc 0 0)],hp22 v2⟩ rfl ?_ (zz rfl) trivial ?_
       ·kernel_rfl
       obtain ⟨v8,hv8,h⟩:=of_bind h
       refine AOps.cons (AOne.callO (F:=(FF 48 1)) _ rfl rfl rfl 45 rfl rfl 57 [] rfl Try.call57 [0] (by decide) [.pc 0 0] (by kernel_rfl) [.cells 79 [.str v2.f0,.int .i64 v2.f1,fzL 1 (cSl 1 (cInt .u8)) v2.f2,.bool v2.f3,.int .i64 v2.f4,.bool v2.f5,k1 v2.f6]] (by kernel_rfl) (f57o_ok (T78.mk v2.f0 v2.f1 v2.f2 v2.f3 v2.f4 v2.f5 v2.f6) hv8) (by kernel_rfl) (by kernel_rfl) _ rfl) ?_
       refine AOps.go [2,3] [] [] [4,5] 1 ⟨[(4,.tv (.sc (.slice none 0 0))),(5,tI v8.1)],[.cells 79 [.str v8.2.f0,.int .i64 v8.2.f1,fzL 1 (cSl 1 (cInt .u8)) v8.2.f2,.bool v8.2.f3,.int .i64 v8.2.f4,.bool v8.2.f5,k1 v8.2.f6]]⟩ ?_ (zz rfl) trivial ?_
       ·kernel_rfl
       refine AOps.nil ?_
       refine AWp.nilFz 4 1 (fun i=>(cInt .u8) (([]:List Int).getD i default)) rfl ?_
       refine AWp.keepTo [4,5] 1 ⟨[(4,q0 ([]:List Int)),(5,tI v8.1)],[.cells 79 [.str v8.2.f0,.int .i64 v8.2.f1,fzL 1 (cSl 1 (cInt .u8)) v8.2.f2,.bool v8.2.f3,.int .i64 v8.2.f4,.bool v8.2.f5,k1 v8.2.f6]]⟩ ?_ (zz rfl) ?_
       ·kernel_rfl
       refine AWp.ret ?_
       cases h
       exact ⟨.inr rfl,rfl⟩
      ·replace h:=of_false h hb
       refine AWp.keepTo [0] 1 ⟨[(0,.pc 0 0)],hp22 v2⟩ ?_ (zz rfl) ?_
       ·kernel_rfl
       refine AWp.skip ?_
       refine AWp.seq ?_
       refine AWp.start [0] [1,2,3] [] [46] 1 ⟨[(46,.pc 0 0)],hp22 v2⟩ rfl ?_ (zz rfl) trivial ?_
       ·kernel_rfl
       obtain ⟨v9,hv9,h⟩:=of_bind h
       refine AOps.cons (AOne.callO (F:=(FF 48 1)) _ rfl rfl rfl 47 rfl rfl 58 [] rfl Try.call58 [0] (by decide) [.pc 0 0] (by kernel_rfl) [.cells 79 [.str v2.f0,.int .i64 v2.f1,fzL 1 (cSl 1 (cInt .u8)) v2.f2,.bool v2.f3,.int .i64 v2.f4,.bool v2.f5,k1 v2.f6]] (by kernel_rfl) (f58o_ok (T78.mk v2.f0 v2.f1 v2.f2 v2.f3 v2.f4 v2.f5 v2.f6) hv9) (by kernel_rfl) (by kernel_rfl) _ rfl) ?_
       refine AOps.go [2,3] [] [] [4,5] 1 ⟨[(4,.tv (.sc (.slice none 0 0))),(5,tI v9.1)],[.cells 79 [.str v9.2.f0,.int .i64 v9.2.f1,fzL 1 (cSl 1 (cInt .u8)) v9.2.f2,.bool v9.2.f3,.int .i64 v9.2.f4,.bool v9.2.f5,k1 v9.2.f6]]⟩ ?_ (zz rfl) trivial ?_
       ·kernel_rfl
       refine AOps.nil ?_
       refine AWp.nilFz 4 1 (fun i=>(cInt .u8) (([]:List Int).getD i default)) rfl ?_
       refine AWp.keepTo [4,5] 1 ⟨[(4,q0 ([]:List Int)),(5,tI v9.1)],[.cells 79 [.str v9.2.f0,.int .i64 v9.2.f1,fzL 1 (cSl 1 (cInt .u8)) v9.2.f2,.bool v9.2.f3,.int .i64 v9.2.f4,.bool v9.2.f5,k1 v9.2.f6]]⟩ ?_ (zz rfl) ?_
       ·kernel_rfl
       refine AWp.ret ?_
       cases h
       exact ⟨.inr rfl,rfl⟩

abbrev hp23 (v1:T78):List AObj:=[.cells 79 [.str v1.f0,.int .i64 v1.f1,fzL 1 (cSl 1 (cInt .u8)) v1.f2,.bool v1.f3,.int .i64 v1.f4,.bool v1.f5,k1 v1.f6],.cells 79 [.str v1.f0,.int .i64 v1.f1,fzL 1 (cSl 1 (cInt .u8)) v1.f2,.bool v1.f3,.int .i64 v1.f4,.bool v1.f5,.hole]]
abbrev hp24 (v1:T78):List AObj:=[.cells 79 [.str v1.f0,.int .i64 v1.f1,fzL 1 (cSl 1 (cInt .u8)) v1.f2,.bool v1.f3,.int .i64 v1.f4,.bool v1.f5,k1 v1.f6],.cells 79 [.str v1.f0,.int .i64 v1.f1,fzL 1 (cSl 1 (cInt .u8)) (([]:List (List Int)) ++ v1.f2),.bool v1.f3,.int .i64 v1.f4,.bool v1.f5,.hole]]

noncomputable def f31o (v1:T78):Option (Option T78) :=
 if (([]:List (List Int)).length + v1.f2.length) * 24 ≤ 140737488355328 then if (([]:List Int).length + v1.f6.length) * 1 ≤ 140737488355328 then some (some (T78.mk v1.f0 v1.f1 (([]:List (List Int)) ++ v1.f2) v1.f3 v1.f4 v1.f5 (([]:List Int) ++ v1.f6))) else none else none

theorem f31o_ok (v1:T78) {r:(Option T78)} (h:f31o v1 = some r):ACall Try.prog 31 [.pc 0 0] [.cells 79 [.str v1.f0,.int .i64 v1.f1,fzL 1 (cSl 1 (cInt .u8)) v1.f2,.bool v1.f3,.int .i64 v1.f4,.bool v1.f5,ownL 1 5 (cInt .u8) v1.f6]] ((match r with | none=>.tv (.sc (.pointer none)) | some _=>.pc 1 0)) ([.cells 79 [.str v1.f0,.int .i64 v1.f1,fzL 1 (cSl 1 (cInt .u8)) v1.f2,.bool v1.f3,.int .i64 v1.f4,.bool v1.f5,ownL 1 5 (cInt .u8) v1.f6]] ++ (match r with | none=>[] | some u=>[.cells 79 [.str u.f0,.int .i64 u.f1,fzL 1 (cSl 1 (cInt .u8)) u.f2,.bool u.f3,.int .i64 u.f4,.bool u.f5,ownL 1 5 (cInt .u8) u.f6]])):=by
 refine ACall.of1 (FF 21 1) Try.func31 rfl Try.ntmps31 Try.results31 (zz rfl) rfl (by rcases r with _ | r <;> rfl) ?_
 refine AWp.seq ?_
 refine AWp.start [0] [] [] [0] 1 ⟨[(0,.pc 0 0)],[.cells 79 [.str v1.f0,.int .i64 v1.f1,fzL 1 (cSl 1 (cInt .u8)) v1.f2,.bool v1.f3,.int .i64 v1.f4,.bool v1.f5,k1 v1.f6]]⟩ rfl ?_ (zz rfl) trivial ?_
 ·kernel_rfl
 refine AOps.nil ?_
 refine AWp.seq ?_
 refine AWp.start [0,1] [2,3,4] [] [0,5] 1 ⟨[(0,.pc 0 0),(5,.pc 0 0)],[.cells 79 [.str v1.f0,.int .i64 v1.f1,fzL 1 (cSl 1 (cInt .u8)) v1.f2,.bool v1.f3,.int .i64 v1.f4,.bool v1.f5,k1 v1.f6]]⟩ rfl ?_ (zz rfl) trivial ?_
 ·kernel_rfl
 refine AOps.copyObj (F:=(FF 21 1)) (ob:=0) (cs:=[.str v1.f0,.int .i64 v1.f1,fzL 1 (cSl 1 (cInt .u8)) v1.f2,.bool v1.f3,.int .i64 v1.f4,.bool v1.f5,k1 v1.f6]) _ _ _ rfl rfl rfl rfl rfl rfl rfl rfl rfl rfl rfl rfl rfl rfl rfl rfl ?_
 refine AOps.keepTo [0,3] 2 ⟨[(0,.pc 0 0),(3,.pc 1 0)],hp23 v1⟩ ?_ (zz rfl) ?_
 ·kernel_rfl
 refine AOps.keepTo [0,3] 2 ⟨[(0,.pc 0 0),(3,.pc 1 0)],hp23 v1⟩ ?_ (zz rfl) ?_
 ·kernel_rfl
 refine AOps.nil ?_
 refine AWp.seq ?_
 refine AWp.start [0] [1,2,3,4,5,6,7] [] [0,3,7] 2 ⟨[(0,.pc 0 0),(3,.pc 1 0),(7,.tv (.own 1 22 0 (newRowF [] 1)))],hp23 v1⟩ rfl ?_ (zz rfl) trivial ?_
 ·kernel_rfl
 refine AOps.extL 7 (cSl 1 (cInt .u8)) ([]:List (List Int)) rfl rfl (row_at (cSl 1 (cInt .u8)) 1 (fun _=>rfl) ([]:List (List Int)) _ rfl) ?_
 obtain ⟨hg,h⟩:=of_guard h
 refine AOps.go [1,2,3,4,5] [6,7] [(([]:List (List Int)).length + v1.f2.length) * 24 ≤ 140737488355328,PlainTo (([]:List (List Int)).length) (fun i=>(cSl 1 (cInt .u8)) (([]:List (List Int)).getD i default)),PlainTo v1.f2.length (fun i=>(cSl 1 (cInt .u8)) (v1.f2.getD i default))] [0,3,12] 2 ⟨[(0,.pc 0 0),(3,.pc 1 0),(12,.tv (.own 1 22 (([]:List (List Int)).length + v1.f2.length) (appF (([]:List (List Int)).length) (fun i=>(cSl 1 (cInt .u8)) (([]:List (List Int)).getD i default)) (fun i=>(cSl 1 (cInt .u8)) (v1.f2.getD i default)))))],hp23 v1⟩ ?_ (zz rfl) ⟨hg,(fun _ _=>rfl),(fun _ _=>rfl)⟩ ?_
 ·kernel_rfl
 refine AOps.extL 12 (cSl 1 (cInt .u8)) (([]:List (List Int)) ++ v1.f2) rfl List.length_append.symm (app_at (cSl 1 (cInt .u8)) ([]:List (List Int)) v1.f2) ?_
 refine AOps.freezeL 12 (cSl 1 (cInt .u8)) (([]:List (List Int)) ++ v1.f2) rfl (fun _=>rfl) ?_
 refine AOps.go [6,7] [] [] [0,3] 2 ⟨[(0,.pc 0 0),(3,.pc 1 0)],hp24 v1⟩ ?_ (zz rfl) trivial ?_
 ·kernel_rfl
 refine AOps.nil ?_
 refine AWp.seq ?_
 refine AWp.start [0] [1,2,3,4,5,6,7] [] [0,3,14] 2 ⟨[(0,.pc 0 0),(3,.pc 1 0),(14,.tv (.own 1 5 0 (newRowF [] 1)))],hp24 v1⟩ rfl ?_ (zz rfl) trivial ?_
 ·kernel_rfl
 refine AOps.extL 14 (cInt .u8) ([]:List Int) rfl rfl (row_at (cInt .u8) 1 (fun _=>rfl) ([]:List Int) _ rfl) ?_
 obtain ⟨hg,h⟩:=of_guard h
 refine AOps.go [1,2,3,4,5] [6,7] [(([]:List Int).length + v1.f6.length) * 1 ≤ 140737488355328,PlainTo (([]:List Int).length) (fun i=>(cInt .u8) (([]:List Int).getD i default)),PlainTo v1.f6.length (fun i=>(cInt .u8) (v1.f6.getD i default))] [3,19] 2 ⟨[(3,.pc 1 0),(19,.tv (.own 1 5 (([]:List Int).length + v1.f6.length) (appF (([]:List Int).length) (fun i=>(cInt .u8) (([]:List Int).getD i default)) (fun i=>(cInt .u8) (v1.f6.getD i default)))))],hp24 v1⟩ ?_ (zz rfl) ⟨hg,(fun _ _=>rfl),(fun _ _=>rfl)⟩ ?_
 ·kernel_rfl
 refine AOps.extL 19 (cInt .u8) (([]:List Int) ++ v1.f6) rfl List.length_append.symm (app_at (cInt .u8) ([]:List Int) v1.f6) ?_
 refine AOps.go [6] [7] [] [3,19,20] 2 ⟨[(3,.pc 1 0),(19,q1 (([]:List Int) ++ v1.f6)),(20,.pc 1 6)],hp24 v1⟩ ?_ (zz rfl) trivial ?_
 ·kernel_rfl
 refine AOps.cons (AOne.own (F:=(FF 21 1)) _ rfl rfl rfl rfl) ?_
 refine AOps.keepTo [3] 2 ⟨[(3,.pc 1 0)],[.cells 79 [.str v1.f0,.int .i64 v1.f1,fzL 1 (cSl 1 (cInt .u8)) v1.f2,.bool v1.f3,.int .i64 v1.f4,.bool v1.f5,k1 v1.f6],.cells 79 [.str v1.f0,.int .i64 v1.f1,fzL 1 (cSl 1 (cInt .u8)) (([]:List (List Int)) ++ v1.f2),.bool v1.f3,.int .i64 v1.f4,.bool v1.f5,k1 (([]:List Int) ++ v1.f6)]]⟩ ?_ (zz rfl) ?_
 ·kernel_rfl
 refine AOps.nil ?_
 refine AWp.seq ?_
 refine AWp.start [0] [] [] [2] 2 ⟨[(2,.pc 1 0)],[.cells 79 [.str v1.f0,.int .i64 v1.f1,fzL 1 (cSl 1 (cInt .u8)) v1.f2,.bool v1.f3,.int .i64 v1.f4,.bool v1.f5,k1 v1.f6],.cells 79 [.str v1.f0,.int .i64 v1.f1,fzL 1 (cSl 1 (cInt .u8)) (([]:List (List Int)) ++ v1.f2),.bool v1.f3,.int .i64 v1.f4,.bool v1.f5,k1 (([]:List Int) ++ v1.f6)]]⟩ rfl ?_ (zz rfl) trivial ?_
 ·kernel_rfl
 refine AOps.nil ?_
 refine AWp.ret ?_
 cases h
 exact ⟨.inr rfl,rfl⟩

noncomputable def f41_z :Option Bool :=
 some true

theorem f41_z_ok  {r:Bool} (h:f41_z  = some r):ACall Try.prog 41 [.tv (.sc (.pointer none))] [] (.tv (.bool r)) []:=by
 refine ACall.of1 (FF 12 0) Try.func41 rfl Try.ntmps41 Try.results41 (zz rfl) rfl rfl ?_
 refine AWp.seq ?_
 refine AWp.start [0] [] [] [0] 0 ⟨[(0,.tv (.sc (.pointer none)))],[]⟩ rfl ?_ z0 trivial ?_
 ·kernel_rfl
 refine AOps.nil ?_
 refine AWp.seq ?_
 refine AWp.start [0,1,2,3,4,5,6,7,8,9] [] [] [2] 0 ⟨[(2,tB true)],[]⟩ rfl ?_ z0 trivial ?_
 ·kernel_rfl
 refine AOps.nil ?_
 refine AWp.ret ?_
 cases h
 exact ⟨.inr rfl,rfl⟩

noncomputable def f32_z1 (v1:T64):Option Bool :=
 (f41 v1).bind fun v2=>(cond v2 (some true) ((f41_z ).bind fun v4=>some v4)).bind fun v3=>cond v3 ((f41 v1).bind fun v5=>(cond v5 ((f41_z ).bind fun v7=>some v7) (some false)).bind fun v6=>some v6) none

theorem f32_z1_ok (v1:T64) {r:Bool} (h:f32_z1 v1 = some r):ACall Try.prog 32 [.rp [.str v1.f0,.int .i64 v1.f1,fzL 1 (cInt .u8) v1.f2,.int .i64 v1.f3,.bool v1.f4],.tv (.sc (.pointer none))] [] (.tv (.bool r)) []:=by
 refine ACall.of1 (FF 70 0) Try.func32 rfl Try.ntmps32 Try.results32 (zz rfl) rfl rfl ?_
 refine AWp.seq ?_
 refine AWp.start [0] [] [] [0,1] 0 ⟨[(0,.rp (c64 v1)),(1,.tv (.sc (.pointer none)))],[]⟩ rfl ?_ z0 trivial ?_
 ·kernel_rfl
 refine AOps.nil ?_
 refine AWp.seq ?_
 refine AWp.seq ?_
 refine AWp.start [0] [1,2,3,4,5] [] [0,1,5] 0 ⟨[(0,.rp (c64 v1)),(1,.tv (.sc (.pointer none))),(5,.rp (c64 v1))],[]⟩ rfl ?_ z0 trivial ?_
 ·kernel_rfl
 obtain ⟨v2,hv2,h⟩:=of_bind h
 refine AOps.cons (AOne.callP (F:=(FF 70 0)) _ rfl rfl rfl _ rfl rfl _ _ rfl Try.call41 [.rp (c64 v1)] rfl rfl (f41_ok v1 hv2) rfl) ?_
 refine AOps.go [2] [3,4,5] [] [0,1,7] 0 ⟨[(0,.rp (c64 v1)),(1,.tv (.sc (.pointer none))),(7,tB v2)],[]⟩ ?_ z0 trivial ?_
 ·kernel_rfl
 obtain ⟨v3,hc3,h⟩:=of_bind h
 refine AOps.cut [3,4,5] [] (fun σ=>σ = ⟨[(0,.rp (c64 v1)),(1,.tv (.sc (.pointer none))),(10,tB v3)],[]⟩) ?_ fun σ' hJ=>?_
 ·refine AOps.split (fun b=>⟨[(0,.rp (c64 v1)),(1,.tv (.sc (.pointer none))),(7,tB b)],[]⟩) _ (fun hb=>?_) fun hb=>?_
  ·replace hc3:=of_true hc3 hb
   refine AOps.go [3,4,5] [] [] [0,1,10] 0 ⟨[(0,.rp (c64 v1)),(1,.tv (.sc (.pointer none))),(10,tB true)],[]⟩ ?_ z0 trivial ?_
   ·kernel_rfl
   cases hc3
   exact AOps.nil rfl
  ·replace hc3:=of_false hc3 hb
   refine AOps.go [3] [4,5] [] [0,1,7,8] 0 ⟨[(0,.rp (c64 v1)),(1,.tv (.sc (.pointer none))),(7,tB false),(8,.tv (.sc (.pointer none)))],[]⟩ ?_ z0 trivial ?_
   ·kernel_rfl
   obtain ⟨v4,hv4,hc3⟩:=of_bind hc3
   refine AOps.cons (AOne.callP (F:=(FF 70 0)) _ rfl rfl rfl _ rfl rfl _ _ rfl Try.call41 [.tv (.sc (.pointer none))] rfl rfl (f41_z_ok  hv4) rfl) ?_
   refine AOps.go [5] [] [] [0,1,10] 0 ⟨[(0,.rp (c64 v1)),(1,.tv (.sc (.pointer none))),(10,tB v4)],[]⟩ ?_ z0 trivial ?_
   ·kernel_rfl
   cases hc3
   exact AOps.nil rfl
 subst hJ
 refine AOps.nil ?_
 refine AWp.cond rfl (fun hb=>?_) fun hb=>?_
 ·replace h:=of_true h hb
  refine AWp.keepTo [0,1] 0 ⟨[(0,.rp (c64 v1)),(1,.tv (.sc (.pointer none)))],[]⟩ ?_ z0 ?_
  ·kernel_rfl
  refine AWp.seq ?_
  refine AWp.start [0] [1,2,3,4,5,6] [] [1,11] 0 ⟨[(1,.tv (.sc (.pointer none))),(11,.rp (c64 v1))],[]⟩ rfl ?_ z0 trivial ?_
  ·kernel_rfl
  obtain ⟨v5,hv5,h⟩:=of_bind h
  refine AOps.cons (AOne.callP (F:=(FF 70 0)) _ rfl rfl rfl _ rfl rfl _ _ rfl Try.call41 [.rp (c64 v1)] rfl rfl (f41_ok v1 hv5) rfl) ?_
  refine AOps.go [2] [3,4,5,6] [] [1,13] 0 ⟨[(1,.tv (.sc (.pointer none))),(13,tB v5)],[]⟩ ?_ z0 trivial ?_
  ·kernel_rfl
  obtain ⟨v6,hc3,h⟩:=of_bind h
  refine AOps.cut [3,4,5] [6] (fun σ=>σ = ⟨[(16,tB v6)],[]⟩) ?_ fun σ' hJ=>?_
  ·refine AOps.split (fun b=>⟨[(1,.tv (.sc (.pointer none))),(13,tB b)],[]⟩) _ (fun hb=>?_) fun hb=>?_
   ·replace hc3:=of_true hc3 hb
    refine AOps.go [3] [4,5] [] [13,14] 0 ⟨[(13,tB true),(14,.tv (.sc (.pointer none)))],[]⟩ ?_ z0 trivial ?_
    ·kernel_rfl
    obtain ⟨v7,hv7,hc3⟩:=of_bind hc3
    refine AOps.cons (AOne.callP (F:=(FF 70 0)) _ rfl rfl rfl _ rfl rfl _ _ rfl Try.call41 [.tv (.sc (.pointer none))] rfl rfl (f41_z_ok  hv7) rfl) ?_
    refine AOps.go [5] [] [] [16] 0 ⟨[(16,tB v7)],[]⟩ ?_ z0 trivial ?_
    ·kernel_rfl
    cases hc3
    exact AOps.nil rfl
   ·replace hc3:=of_false hc3 hb
    refine AOps.go [3,4,5] [] [] [16] 0 ⟨[(16,tB false)],[]⟩ ?_ z0 trivial ?_
    ·kernel_rfl
    cases hc3
    exact AOps.nil rfl
  subst hJ
  refine AOps.go [6] [] [] [4] 0 ⟨[(4,tB v6)],[]⟩ ?_ z0 trivial ?_
  ·kernel_rfl
  refine AOps.nil ?_
  refine AWp.ret ?_
  cases h
  exact ⟨.inr rfl,rfl⟩
 ·replace h:=of_false h hb
  refine AWp.keepTo [0,1] 0 ⟨[(0,.rp (c64 v1)),(1,.tv (.sc (.pointer none)))],[]⟩ ?_ z0 ?_
  ·kernel_rfl
  refine AWp.skip ?_
  refine AWp.seq ?_
  refine AWp.draw FFm _ (n:=54) rfl (ls:=#[n1,n1,n1,n1,n1,n1,n1,n1,n1,n1,n1,n1,n1,n1,n1,n1,n1,n1,n1,n1,n1,n1,n1,n1,n1,n1,n1,n1,n1,n1,n1,n1,n1,n1,n1,n1,n1,n1,n1,n1,n1,n1,n1,n1,n1,n1,n1,n1,n1,n1,n1,n1,n1,n1]) rfl ?_ (fun _ h=>h)
  cases h

noncomputable def f59 (v1:List Int) (v2:List Int):Option Bool :=
 some ((v1.map (fun n=>UInt8.ofNat n.toNat)) == (v2.map (fun n=>UInt8.ofNat n.toNat)))

theorem f59_ok (v1:List Int) (v2:List Int) {r:Bool} (h:f59 v1 v2 = some r):ACall Try.prog 59 [.tv (fzL 1 (cInt .u8) v1),.tv (fzL 1 (cInt .u8) v2)] [] (.tv (.bool r)) []:=by
 refine ACall.of1 (FF 10 0) Try.func59 rfl Try.ntmps59 Try.results59 (zz rfl) rfl rfl ?_
 refine AWp.seq ?_
 refine AWp.start [0] [] [] [0,1] 0 ⟨[(0,q0 v1),(1,q0 v2)],[]⟩ rfl ?_ z0 trivial ?_
 ·kernel_rfl
 refine AOps.nil ?_
 refine AWp.seq ?_
 refine AWp.start [0] [1,2,3,4,5] [] [1,5] 0 ⟨[(1,q0 v2),(5,q0 v1)],[]⟩ rfl ?_ z0 trivial ?_
 ·kernel_rfl
 refine AOps.cons (AOne.str (F:=(FF 10 0)) _ rfl rfl rfl _ rfl rfl rfl rfl rfl (n:=v1.length) (f:=(fun i=>(cInt .u8) (v1.getD i default))) rfl v1 rfl (fun _ _=>rfl)) ?_
 refine AOps.go [2] [3,4,5] [] [6,7] 0 ⟨[(6,tS (v1.map (fun n=>UInt8.ofNat n.toNat))),(7,q0 v2)],[]⟩ ?_ z0 trivial ?_
 ·kernel_rfl
 refine AOps.cons (AOne.str (F:=(FF 10 0)) _ rfl rfl rfl _ rfl rfl rfl rfl rfl (n:=v2.length) (f:=(fun i=>(cInt .u8) (v2.getD i default))) rfl v2 rfl (fun _ _=>rfl)) ?_
 refine AOps.go [4,5] [] [] [4] 0 ⟨[(4,tB ((v1.map (fun n=>UInt8.ofNat n.toNat)) == (v2.map (fun n=>UInt8.ofNat n.toNat))))],[]⟩ ?_ z0 trivial ?_
 ·kernel_rfl
 refine AOps.nil ?_
 refine AWp.ret ?_
 cases h
 exact ⟨.inr rfl,rfl⟩

noncomputable def f32 (v1:T64) (v2:T64):Option Bool :=
 (f41 v1).bind fun v3=>(cond v3 (some true) ((f41 v2).bind fun v5=>some v5)).bind fun v4=>cond v4 ((f41 v1).bind fun v6=>(cond v6 ((f41 v2).bind fun v8=>some v8) (some false)).bind fun v7=>some v7) ((cond (v1.f0 == v2.f0) (cond (v1.f1 == v2.f1) ((f59 v1.f2 v2.f2).bind fun v10=>cond v10 (cond (v1.f3 == v2.f3) (some (v1.f4 == v2.f4)) (some false)) (some false)) (some false)) (some false)).bind fun v9=>some v9)

theorem f32_ok (v1:T64) (v2:T64) {r:Bool} (h:f32 v1 v2 = some r):ACall Try.prog 32 [.rp [.str v1.f0,.int .i64 v1.f1,fzL 1 (cInt .u8) v1.f2,.int .i64 v1.f3,.bool v1.f4],.rp [.str v2.f0,.int .i64 v2.f1,fzL 1 (cInt .u8) v2.f2,.int .i64 v2.f3,.bool v2.f4]] [] (.tv (.bool r)) []:=by
 refine ACall.of1 (FF 70 0) Try.func32 rfl Try.ntmps32 Try.results32 (zz rfl) rfl rfl ?_
 refine AWp.seq ?_
 refine AWp.start [0] [] [] [0,1] 0 ⟨[(0,.rp (c64 v1)),(1,.rp (c64 v2))],[]⟩ rfl ?_ z0 trivial ?_
 ·kernel_rfl
 refine AOps.nil ?_
 refine AWp.seq ?_
 refine AWp.seq ?_
 refine AWp.start [0] [1,2,3,4,5] [] [0,1,5] 0 ⟨[(0,.rp (c64 v1)),(1,.rp (c64 v2)),(5,.rp (c64 v1))],[]⟩ rfl ?_ z0 trivial ?_
 ·kernel_rfl
 obtain ⟨v3,hv3,h⟩:=of_bind h
 refine AOps.cons (AOne.callP (F:=(FF 70 0)) _ rfl rfl rfl _ rfl rfl _ _ rfl Try.call41 [.rp (c64 v1)] rfl rfl (f41_ok v1 hv3) rfl) ?_
 refine AOps.go [2] [3,4,5] [] [0,1,7] 0 ⟨[(0,.rp (c64 v1)),(1,.rp (c64 v2)),(7,tB v3)],[]⟩ ?_ z0 trivial ?_
 ·kernel_rfl
 obtain ⟨v4,hc3,h⟩:=of_bind h
 refine AOps.cut [3,4,5] [] (fun σ=>σ = ⟨[(0,.rp (c64 v1)),(1,.rp (c64 v2)),(10,tB v4)],[]⟩) ?_ fun σ' hJ=>?_
 ·refine AOps.split (fun b=>⟨[(0,.rp (c64 v1)),(1,.rp (c64 v2)),(7,tB b)],[]⟩) _ (fun hb=>?_) fun hb=>?_
  ·replace hc3:=of_true hc3 hb
   refine AOps.go [3,4,5] [] [] [0,1,10] 0 ⟨[(0,.rp (c64 v1)),(1,.rp (c64 v2)),(10,tB true)],[]⟩ ?_ z0 trivial ?_
   ·kernel_rfl
   cases hc3
   exact AOps.nil rfl
  ·replace hc3:=of_false hc3 hb
   refine AOps.go [3] [4,5] [] [0,1,7,8] 0 ⟨[(0,.rp (c64 v1)),(1,.rp (c64 v2)),(7,tB false),(8,.rp (c64 v2))],[]⟩ ?_ z0 trivial ?_
   ·kernel_rfl
   obtain ⟨v5,hv5,hc3⟩:=of_bind hc3
   refine AOps.cons (AOne.callP (F:=(FF 70 0)) _ rfl rfl rfl _ rfl rfl _ _ rfl Try.call41 [.rp (c64 v2)] rfl rfl (f41_ok v2 hv5) rfl) ?_
   refine AOps.go [5] [] [] [0,1,10] 0 ⟨[(0,.rp (c64 v1)),(1,.rp (c64 v2)),(10,tB v5)],[]⟩ ?_ z0 trivial ?_
   ·kernel_rfl
   cases hc3
   exact AOps.nil rfl
 subst hJ
 refine AOps.nil ?_
 refine AWp.cond rfl (fun hb=>?_) fun hb=>?_
 ·replace h:=of_true h hb
  refine AWp.keepTo [0,1] 0 ⟨[(0,.rp (c64 v1)),(1,.rp (c64 v2))],[]⟩ ?_ z0 ?_
  ·kernel_rfl
  refine AWp.seq ?_
  refine AWp.start [0] [1,2,3,4,5,6] [] [1,11] 0 ⟨[(1,.rp (c64 v2)),(11,.rp (c64 v1))],[]⟩ rfl ?_ z0 trivial ?_
  ·kernel_rfl
  obtain ⟨v6,hv6,h⟩:=of_bind h
  refine AOps.cons (AOne.callP (F:=(FF 70 0)) _ rfl rfl rfl _ rfl rfl _ _ rfl Try.call41 [.rp (c64 v1)] rfl rfl (f41_ok v1 hv6) rfl) ?_
  refine AOps.go [2] [3,4,5,6] [] [1,13] 0 ⟨[(1,.rp (c64 v2)),(13,tB v6)],[]⟩ ?_ z0 trivial ?_
  ·kernel_rfl
  obtain ⟨v7,hc3,h⟩:=of_bind h
  refine AOps.cut [3,4,5] [6] (fun σ=>σ = ⟨[(16,tB v7)],[]⟩) ?_ fun σ' hJ=>?_
  ·refine AOps.split (fun b=>⟨[(1,.rp (c64 v2)),(13,tB b)],[]⟩) _ (fun hb=>?_) fun hb=>?_
   ·replace hc3:=of_true hc3 hb
    refine AOps.go [3] [4,5] [] [13,14] 0 ⟨[(13,tB true),(14,.rp (c64 v2))],[]⟩ ?_ z0 trivial ?_
    ·kernel_rfl
    obtain ⟨v8,hv8,hc3⟩:=of_bind hc3
    refine AOps.cons (AOne.callP (F:=(FF 70 0)) _ rfl rfl rfl _ rfl rfl _ _ rfl Try.call41 [.rp (c64 v2)] rfl rfl (f41_ok v2 hv8) rfl) ?_
    refine AOps.go [5] [] [] [16] 0 ⟨[(16,tB v8)],[]⟩ ?_ z0 trivial ?_
    ·kernel_rfl
    cases hc3
    exact AOps.nil rfl
   ·replace hc3:=of_false hc3 hb
    refine AOps.go [3,4,5] [] [] [16] 0 ⟨[(16,tB false)],[]⟩ ?_ z0 trivial ?_
    ·kernel_rfl
    cases hc3
    exact AOps.nil rfl
  subst hJ
  refine AOps.go [6] [] [] [4] 0 ⟨[(4,tB v7)],[]⟩ ?_ z0 trivial ?_
  ·kernel_rfl
  refine AOps.nil ?_
  refine AWp.ret ?_
  cases h
  exact ⟨.inr rfl,rfl⟩
 ·replace h:=of_false h hb
  refine AWp.keepTo [0,1] 0 ⟨[(0,.rp (c64 v1)),(1,.rp (c64 v2))],[]⟩ ?_ z0 ?_
  ·kernel_rfl
  refine AWp.skip ?_
  refine AWp.seq ?_
  obtain ⟨v9,hd,h⟩:=of_bind h
  refine AWp.draw FFm (fun σ=>σ = ⟨[(4,tB v9)],[]⟩) (n:=54) rfl (ls:=#[n1,n1,n1,n1,n1,n1,n1,n1,n1,n1,n1,n1,n1,n1,n1,n1,n1,n1,n1,n1,n1,n1,n1,n1,n1,n1,n1,n1,n1,n1,n1,n1,n1,n1,n1,n1,n1,n1,n1,n1,n1,n1,n1,n1,n1,n1,n1,n1,n1,n1,n1,n1,n1,n1]) rfl ?_ ?_
  ·refine AAny.go (by kernel_rfl) [0,1,2,3,4,5,6,7,8,9] (fuel':=44) rfl [] #[y1,y1,y1,y1,y1,y1,y1,y1,y1,y1,n1,n1,n1,n1,n1,n1,n1,n1,n1,n1,n1,n1,n1,n1,n1,n1,n1,n1,n1,n1,n1,n1,n1,n1,n1,n1,n1,n1,n1,n1,n1,n1,n1,n1,n1,n1,n1,n1,n1,n1,n1,n1,n1,n1] [0,1,26] 0 ⟨[(0,.rp (c64 v1)),(1,.rp (c64 v2)),(26,tB (v1.f0 == v2.f0))],[]⟩ ?_ z0 trivial ?_
   ·kernel_rfl
   refine AAny.split (fun b=>⟨[(0,.rp (c64 v1)),(1,.rp (c64 v2)),(26,tB b)],[]⟩) _ (fun hb=>?_) fun hb=>?_
   ·replace hd:=of_true hd hb
    refine AAny.go (by kernel_rfl) [10,11,12,13,14,15,16,17,18,19,20] (fuel':=33) rfl [] #[y1,y1,y1,y1,y1,y1,y1,y1,y1,y1,y1,y1,y1,y1,y1,y1,y1,y1,y1,y1,y1,n1,n1,n1,n1,n1,n1,n1,n1,n1,n1,n1,n1,n1,n1,n1,n1,n1,n1,n1,n1,n1,n1,n1,n1,n1,n1,n1,n1,n1,n1,n1,n1,n1] [0,1,37] 0 ⟨[(0,.rp (c64 v1)),(1,.rp (c64 v2)),(37,tB (v1.f1 == v2.f1))],[]⟩ ?_ z0 trivial ?_
    ·kernel_rfl
    refine AAny.split (fun b=>⟨[(0,.rp (c64 v1)),(1,.rp (c64 v2)),(37,tB b)],[]⟩) _ (fun hb=>?_) fun hb=>?_
    ·replace hd:=of_true hd hb
     refine AAny.go (by kernel_rfl) [21,22,23,24,25,26,27,28] (fuel':=25) rfl [] #[y1,y1,y1,y1,y1,y1,y1,y1,y1,y1,y1,y1,y1,y1,y1,y1,y1,y1,y1,y1,y1,y1,y1,y1,y1,y1,y1,y1,y1,n1,n1,n1,n1,n1,n1,n1,n1,n1,n1,n1,n1,n1,n1,n1,n1,n1,n1,n1,n1,n1,n1,n1,n1,n1] [0,1,37,41,45] 0 ⟨[(0,.rp (c64 v1)),(1,.rp (c64 v2)),(37,tB true),(41,q0 v1.f2),(45,q0 v2.f2)],[]⟩ ?_ z0 trivial ?_
     ·kernel_rfl
     obtain ⟨v10,hv10,hd⟩:=of_bind hd
     refine AAny.serial (i:=29) (fuel:=24) (by kernel_rfl) (AOne.callP (F:=(FF 70 0)) _ rfl rfl rfl _ rfl rfl _ _ rfl Try.call59 [q0 v1.f2,q0 v2.f2] rfl rfl (f59_ok v1.f2 v2.f2 hv10) rfl) ?_
     refine AAny.keepTo [0,1,37,46] 0 ⟨[(0,.rp (c64 v1)),(1,.rp (c64 v2)),(37,tB true),(46,tB v10)],[]⟩ #[y1,y1,y1,y1,y1,y1,y1,y1,y1,y1,y1,y1,y1,y1,y1,y1,y1,y1,y1,y1,y1,y1,y1,y1,y1,y1,y1,y1,y1,y1,n1,n1,n1,n1,n1,n1,n1,n1,n1,n1,n1,n1,n1,n1,n1,n1,n1,n1,n1,n1,n1,n1,n1,n1] ?_ rfl z0 ?_
     ·kernel_rfl
     refine AAny.go (by kernel_rfl) [30,31] (fuel':=22) rfl [] #[y1,y1,y1,y1,y1,y1,y1,y1,y1,y1,y1,y1,y1,y1,y1,y1,y1,y1,y1,y1,y1,y1,y1,y1,y1,y1,y1,y1,y1,y1,y1,y1,n1,n1,n1,n1,n1,n1,n1,n1,n1,n1,n1,n1,n1,n1,n1,n1,n1,n1,n1,n1,n1,n1] [0,1,48] 0 ⟨[(0,.rp (c64 v1)),(1,.rp (c64 v2)),(48,tB v10)],[]⟩ ?_ z0 trivial ?_
     ·kernel_rfl
     refine AAny.split (fun b=>⟨[(0,.rp (c64 v1)),(1,.rp (c64 v2)),(48,tB b)],[]⟩) _ (fun hb=>?_) fun hb=>?_
     ·replace hd:=of_true hd hb
      refine AAny.go (by kernel_rfl) [32,33,34,35,36,37,38,39,40,41,42] (fuel':=11) rfl [] #[y1,y1,y1,y1,y1,y1,y1,y1,y1,y1,y1,y1,y1,y1,y1,y1,y1,y1,y1,y1,y1,y1,y1,y1,y1,y1,y1,y1,y1,y1,y1,y1,y1,y1,y1,y1,y1,y1,y1,y1,y1,y1,y1,n1,n1,n1,n1,n1,n1,n1,n1,n1,n1,n1] [0,1,59] 0 ⟨[(0,.rp (c64 v1)),(1,.rp (c64 v2)),(59,tB (v1.f3 == v2.f3))],[]⟩ ?_ z0 trivial ?_
      ·kernel_rfl
      refine AAny.split (fun b=>⟨[(0,.rp (c64 v1)),(1,.rp (c64 v2)),(59,tB b)],[]⟩) _ (fun hb=>?_) fun hb=>?_
      ·replace hd:=of_true hd hb
       refine AAny.go (by kernel_rfl) [43,44,45,46,47,48,49,50,51,52,53] (fuel':=0) rfl [] #[y1,y1,y1,y1,y1,y1,y1,y1,y1,y1,y1,y1,y1,y1,y1,y1,y1,y1,y1,y1,y1,y1,y1,y1,y1,y1,y1,y1,y1,y1,y1,y1,y1,y1,y1,y1,y1,y1,y1,y1,y1,y1,y1,y1,y1,y1,y1,y1,y1,y1,y1,y1,y1,y1] [4] 0 ⟨[(4,tB (v1.f4 == v2.f4))],[]⟩ ?_ z0 trivial ?_
       ·kernel_rfl
       refine AAny.keepTo [4] 0 ⟨[(4,tB (v1.f4 == v2.f4))],[]⟩ _ ?_ rfl z0 (AAny.done (by kernel_rfl) ?_)
       ·kernel_rfl
       cases hd
       exact rfl
      ·replace hd:=of_false hd hb
       refine AAny.go (by kernel_rfl) [43,44,45,46,47,48,49,50,51,52,53] (fuel':=0) rfl [] #[y1,y1,y1,y1,y1,y1,y1,y1,y1,y1,y1,y1,y1,y1,y1,y1,y1,y1,y1,y1,y1,y1,y1,y1,y1,y1,y1,y1,y1,y1,y1,y1,y1,y1,y1,y1,y1,y1,y1,y1,y1,y1,y1,y1,y1,y1,y1,y1,y1,y1,y1,y1,y1,y1] [4] 0 ⟨[(4,tB false)],[]⟩ ?_ z0 trivial ?_
       ·kernel_rfl
       refine AAny.keepTo [4] 0 ⟨[(4,tB false)],[]⟩ _ ?_ rfl z0 (AAny.done (by kernel_rfl) ?_)
       ·kernel_rfl
       cases hd
       exact rfl
     ·replace hd:=of_false hd hb
      refine AAny.go (by kernel_rfl) [32,33,34,35,36,37,38,39,40,41,42,43,44,45,46,47,48,49,50,51,52,53] (fuel':=0) rfl [] #[y1,y1,y1,y1,y1,y1,y1,y1,y1,y1,y1,y1,y1,y1,y1,y1,y1,y1,y1,y1,y1,y1,y1,y1,y1,y1,y1,y1,y1,y1,y1,y1,y1,y1,y1,y1,y1,y1,y1,y1,y1,y1,y1,y1,y1,y1,y1,y1,y1,y1,y1,y1,y1,y1] [4] 0 ⟨[(4,tB false)],[]⟩ ?_ z0 trivial ?_
      ·kernel_rfl
      refine AAny.keepTo [4] 0 ⟨[(4,tB false)],[]⟩ _ ?_ rfl z0 (AAny.done (by kernel_rfl) ?_)
      ·kernel_rfl
      cases hd
      exact rfl
    ·replace hd:=of_false hd hb
     refine AAny.go (by kernel_rfl) [21,22,23,24,25,26,27,28,29,30,31,32,33,34,35,36,37,38,39,40,41,42,43,44,45,46,47,48,49,50,51,52,53] (fuel':=0) rfl [] #[y1,y1,y1,y1,y1,y1,y1,y1,y1,y1,y1,y1,y1,y1,y1,y1,y1,y1,y1,y1,y1,y1,y1,y1,y1,y1,y1,y1,y1,y1,y1,y1,y1,y1,y1,y1,y1,y1,y1,y1,y1,y1,y1,y1,y1,y1,y1,y1,y1,y1,y1,y1,y1,y1] [4] 0 ⟨[(4,tB false)],[]⟩ ?_ z0 trivial ?_
     ·kernel_rfl
     refine AAny.keepTo [4] 0 ⟨[(4,tB false)],[]⟩ _ ?_ rfl z0 (AAny.done (by kernel_rfl) ?_)
     ·kernel_rfl
     cases hd
     exact rfl
   ·replace hd:=of_false hd hb
    refine AAny.go (by kernel_rfl) [10,11,12,13,14,15,16,17,18,19,20,21,22,23,24,25,26,27,28,29,30,31,32,33,34,35,36,37,38,39,40,41,42,43,44,45,46,47,48,49,50,51,52,53] (fuel':=0) rfl [] #[y1,y1,y1,y1,y1,y1,y1,y1,y1,y1,y1,y1,y1,y1,y1,y1,y1,y1,y1,y1,y1,y1,y1,y1,y1,y1,y1,y1,y1,y1,y1,y1,y1,y1,y1,y1,y1,y1,y1,y1,y1,y1,y1,y1,y1,y1,y1,y1,y1,y1,y1,y1,y1,y1] [4] 0 ⟨[(4,tB false)],[]⟩ ?_ z0 trivial ?_
    ·kernel_rfl
    refine AAny.keepTo [4] 0 ⟨[(4,tB false)],[]⟩ _ ?_ rfl z0 (AAny.done (by kernel_rfl) ?_)
    ·kernel_rfl
    cases hd
    exact rfl
  rintro σ' rfl
  refine AWp.ret ?_
  cases h
  exact ⟨.inr rfl,rfl⟩

end Go.Sx.unit
