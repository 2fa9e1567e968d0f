/- Printed by program (wip/gen): plain functions and their walks; no condition. -/
import Derived.Test.YtdmpmbcnfoionaaGx3
namespace Go.Sx.unit
open Go Go.Sx Go.Proofs

abbrev hp10 (v1:T78):List AObj:=[.cells 79 [.str v1.f0,.int .i64 v1.f1,fzL 1 (cSl 1 (cInt .u8)) v1.f2,.bool v1.f3,.int .i64 v1.f4,.bool v1.f5,k1 v1.f6]]
abbrev hp11 (v1:T78):List AObj:=[.cells 79 [.str v1.f0,.int .i64 v1.f1,fzL 1 (cSl 1 (cInt .u8)) v1.f2,.bool v1.f3,.int .i64 v1.f4,.bool true,k1 v1.f6]]

noncomputable def f53o (v1:T78):Option ((List Int) × Int × T78) :=
 (f46 v1).bind fun v2=>(cond (!v2) (some true) (some v1.f5)).bind fun v3=>cond v3 (some (([]:List Int),(110:Int),T78.mk v1.f0 v1.f1 v1.f2 v1.f3 v1.f4 v1.f5 v1.f6)) (cond (v1.f4 == (v1.f2.length:Int)) (some (([]:List Int),(6:Int),T78.mk v1.f0 v1.f1 v1.f2 v1.f3 v1.f4 true v1.f6)) (if (0:Int) ≤ w64 ((w64 (v1.f4 + (1:Int))) - (1:Int)) ∧ w64 ((w64 (v1.f4 + (1:Int))) - (1:Int)) < (v1.f2.length:Int) then if (([]:List Int).length + (v1.f2.getD (Int.toNat (w64 ((w64 (v1.f4 + (1:Int))) - (1:Int)))) default).length) * 1 ≤ 140737488355328 then some (([]:List Int) ++ (v1.f2.getD (Int.toNat (w64 ((w64 (v1.f4 + (1:Int))) - (1:Int)))) default),(0:Int),T78.mk v1.f0 v1.f1 v1.f2 v1.f3 (w64 (v1.f4 + (1:Int))) v1.f5 v1.f6) else none else none))

theorem f53o_ok (v1:T78) {r:(List Int) × Int × T78} (h:f53o v1 = some r):ACall Try.prog 53 [.pc 0 0] [.cells 79 [.str v1.f0,.int .i64 v1.f1,fzL 1 (cSl 1 (cInt .u8)) v1.f2,.bool v1.f3,.int .i64 v1.f4,.bool v1.f5,ownL 1 5 (cInt .u8) v1.f6]] (.tup [.tv (fzL 1 (cInt .u8) r.1),.tv (.int .i64 r.2.1)]) [.cells 79 [.str r.2.2.f0,.int .i64 r.2.2.f1,fzL 1 (cSl 1 (cInt .u8)) r.2.2.f2,.bool r.2.2.f3,.int .i64 r.2.2.f4,.bool r.2.2.f5,ownL 1 5 (cInt .u8) r.2.2.f6]]:=by
 refine ACall.ofN (FF 48 1) (rs:=[2,3]) (env:=[(2,q0 r.1),(3,tI r.2.1)]) Try.func53 rfl Try.ntmps53 Try.results53 (by decide) (by decide) rfl (zz rfl) rfl (get_ofN _ _ _ rfl) (ok_ofN _ rfl) ?_
 refine AWp.seq ?_
 refine AWp.start [0,1] [] [] [0] 1 ⟨[(0,.pc 0 0)],hp10 v1⟩ rfl ?_ (zz rfl) trivial ?_
 ·kernel_rfl
 refine AOps.nil ?_
 refine AWp.seq ?_
 refine AWp.block ?_
 refine AWp.seq ?_
 refine AWp.start [0] [1,2,3,4,5,6,7,8,9] [] [0,5] 1 ⟨[(0,.pc 0 0),(5,.pc 0 0)],hp10 v1⟩ rfl ?_ (zz rfl) trivial ?_
 ·kernel_rfl
 obtain ⟨v2,hv2,h⟩:=of_bind h
 refine AOps.cons (AOne.callR (F:=(FF 48 1)) _ rfl rfl rfl _ rfl rfl _ _ rfl Try.call46 [PlainTo v1.f6.length (fun i=>(cInt .u8) (v1.f6.getD i default))] [.rp (c78 v1)] rfl (fun _ _=>rfl) (f46_ok v1 hv2) (ind_of rfl) rfl) ?_
 refine AOps.go [2,3] [4,5,6,7,8,9] [] [0,8] 1 ⟨[(0,.pc 0 0),(8,tB (!v2))],hp10 v1⟩ ?_ (zz rfl) trivial ?_
 ·kernel_rfl
 obtain ⟨v3,hc4,h⟩:=of_bind h
 refine AOps.cut [4,5,6,7,8] [9] (fun σ=>σ = ⟨[(0,.pc 0 0),(13,tB v3)],hp10 v1⟩) ?_ fun σ' hJ=>?_
 ·refine AOps.split (fun b=>⟨[(0,.pc 0 0),(8,tB b)],hp10 v1⟩) _ (fun hb=>?_) fun hb=>?_
  ·replace hc4:=of_true hc4 hb
   refine AOps.go [4,5,6,7,8] [] [] [0,13] 1 ⟨[(0,.pc 0 0),(13,tB true)],hp10 v1⟩ ?_ (zz rfl) trivial ?_
   ·kernel_rfl
   cases hc4
   exact AOps.nil rfl
  ·replace hc4:=of_false hc4 hb
   refine AOps.go [4,5,6,7,8] [] [] [0,13] 1 ⟨[(0,.pc 0 0),(13,tB v1.f5)],hp10 v1⟩ ?_ (zz rfl) trivial ?_
   ·kernel_rfl
   cases hc4
   exact AOps.nil rfl
 subst hJ
 refine AOps.go [9] [] [] [0,4] 1 ⟨[(0,.pc 0 0),(4,tB v3)],hp10 v1⟩ ?_ (zz rfl) trivial ?_
 ·kernel_rfl
 refine AOps.nil ?_
 refine AWp.cond rfl (fun hb=>?_) fun hb=>?_
 ·replace h:=of_true h hb
  refine AWp.keepTo [] 1 ⟨[],hp10 v1⟩ ?_ (zz rfl) ?_
  ·kernel_rfl
  refine AWp.seq ?_
  refine AWp.start [0,1] [] [] [2,3] 1 ⟨[(2,.tv (.sc (.slice none 0 0))),(3,tI (110:Int))],hp10 v1⟩ rfl ?_ (zz rfl) trivial ?_
  ·kernel_rfl
  refine AOps.nil ?_
  refine AWp.nilFz 2 1 (fun i=>(cInt .u8) (([]:List Int).getD i default)) rfl ?_
  refine AWp.keepTo [2,3] 1 ⟨[(2,q0 ([]:List Int)),(3,tI (110:Int))],hp10 v1⟩ ?_ (zz rfl) ?_
  ·kernel_rfl
  refine AWp.ret ?_
  cases h
  exact ⟨.inr rfl,rfl⟩
 ·replace h:=of_false h hb
  refine AWp.keepTo [0] 1 ⟨[(0,.pc 0 0)],hp10 v1⟩ ?_ (zz rfl) ?_
  ·kernel_rfl
  refine AWp.seq ?_
  refine AWp.draw FFm _ (n:=11) rfl (ls:=#[n1,n1,n1,n1,n1,n1,n1,n1,n1,n1,n1]) rfl ?_ (fun _ h=>h)
  refine AAny.go (by kernel_rfl) [0,1,2,4,5,6] (fuel':=5) rfl [] #[y1,y1,y1,n1,y1,y1,y1,n1,n1,n1,n1] [0,17,21] 1 ⟨[(0,.pc 0 0),(17,.pc 0 4),(21,.pc 0 2)],hp10 v1⟩ ?_ (zz rfl) trivial ?_
  ·kernel_rfl
  refine AAny.goR (by kernel_rfl) (i:=7) (fuel':=4) [8,9,10] rfl (by kernel_rfl) (by kernel_rfl) [] #[y1,y1,y1,n1,y1,y1,y1,y1,n1,n1,n1] rfl [0,17,22] 1 ⟨[(0,.pc 0 0),(17,.pc 0 4),(22,.tv (fzL 1 (cSl 1 (cInt .u8)) v1.f2))],hp10 v1⟩ ?_ (zz rfl) trivial ?_
  ·kernel_rfl
  refine AAny.go (by kernel_rfl) [8] (fuel':=3) rfl [] #[y1,y1,y1,n1,y1,y1,y1,y1,y1,n1,n1] [0,17,23] 1 ⟨[(0,.pc 0 0),(17,.pc 0 4),(23,tI (v1.f2.length:Int))],hp10 v1⟩ ?_ (zz rfl) trivial ?_
  ·kernel_rfl
  refine AAny.step (i:=3) (fuel':=2) rfl (by kernel_rfl) [] #[y1,y1,y1,y1,y1,y1,y1,y1,y1,n1,n1] rfl [0,18,23] 1 ⟨[(0,.pc 0 0),(18,tI v1.f4),(23,tI (v1.f2.length:Int))],hp10 v1⟩ ?_ (zz rfl) trivial ?_
  ·kernel_rfl
  refine AAny.go (by kernel_rfl) [9,10] (fuel':=0) rfl [] #[y1,y1,y1,y1,y1,y1,y1,y1,y1,y1,y1] [0,14] 1 ⟨[(0,.pc 0 0),(14,tB (v1.f4 == (v1.f2.length:Int)))],hp10 v1⟩ ?_ (zz rfl) trivial ?_
  ·kernel_rfl
  refine AAny.keepTo [0,14] 1 ⟨[(0,.pc 0 0),(14,tB (v1.f4 == (v1.f2.length:Int)))],hp10 v1⟩ _ ?_ rfl (zz rfl) (AAny.done (by kernel_rfl) ?_)
  ·kernel_rfl
  refine AWp.cond rfl (fun hb=>?_) fun hb=>?_
  ·replace h:=of_true h hb
   refine AWp.keepTo [0] 1 ⟨[(0,.pc 0 0)],hp10 v1⟩ ?_ (zz rfl) ?_
   ·kernel_rfl
   refine AWp.seq ?_
   refine AWp.start [0,1,2,3] [] [] [] 1 ⟨[],hp11 v1⟩ rfl ?_ (zz rfl) trivial ?_
   ·kernel_rfl
   refine AOps.nil ?_
   refine AWp.seq ?_
   refine AWp.start [0,1] [] [] [2,3] 1 ⟨[(2,.tv (.sc (.slice none 0 0))),(3,tI (6:Int))],hp11 v1⟩ rfl ?_ (zz rfl) trivial ?_
   ·kernel_rfl
   refine AOps.nil ?_
   refine AWp.nilFz 2 1 (fun i=>(cInt .u8) (([]:List Int).getD i default)) rfl ?_
   refine AWp.keepTo [2,3] 1 ⟨[(2,q0 ([]:List Int)),(3,tI (6:Int))],hp11 v1⟩ ?_ (zz rfl) ?_
   ·kernel_rfl
   refine AWp.ret ?_
   cases h
   exact ⟨.inr rfl,rfl⟩
  ·replace h:=of_false h hb
   refine AWp.keepTo [0] 1 ⟨[(0,.pc 0 0)],hp10 v1⟩ ?_ (zz rfl) ?_
   ·kernel_rfl
   refine AWp.skip ?_
   refine AWp.seq ?_
   refine AWp.start [0,1,2,3,4,5,6,7] [] [] [0] 1 ⟨[(0,.pc 0 0)],[.cells 79 [.str v1.f0,.int .i64 v1.f1,fzL 1 (cSl 1 (cInt .u8)) v1.f2,.bool v1.f3,.int .i64 (w64 (v1.f4 + (1:Int))),.bool v1.f5,k1 v1.f6]]⟩ rfl ?_ (zz rfl) trivial ?_
   ·kernel_rfl
   refine AOps.nil ?_
   refine AWp.seq ?_
   refine AWp.draw FFm _ (n:=15) rfl (ls:=#[n1,n1,n1,n1,n1,n1,n1,n1,n1,n1,n1,n1,n1,n1,n1]) rfl ?_ (fun _ h=>h)
   refine AAny.go (by kernel_rfl) [1,2,3,5,6,7] (fuel':=9) rfl [] #[n1,y1,y1,y1,n1,y1,y1,y1,n1,n1,n1,n1,n1,n1,n1] [38,42] 1 ⟨[(38,.pc 0 2),(42,.pc 0 4)],[.cells 79 [.str v1.f0,.int .i64 v1.f1,fzL 1 (cSl 1 (cInt .u8)) v1.f2,.bool v1.f3,.int .i64 (w64 (v1.f4 + (1:Int))),.bool v1.f5,k1 v1.f6]]⟩ ?_ (zz rfl) trivial ?_
   ·kernel_rfl
   obtain ⟨hd2,h⟩:=of_guard h
   refine AAny.share 3 #[y1,y1,y1,y1,y1,y1,y1,y1,y1,y1,y1,y1,n1,n1,n1] ⟨[(35,q1 ([]:List Int)),(46,q0 (v1.f2.getD (Int.toNat (w64 ((w64 (v1.f4 + (1:Int))) - (1:Int)))) default))],[.cells 79 [.str v1.f0,.int .i64 v1.f1,fzL 1 (cSl 1 (cInt .u8)) v1.f2,.bool v1.f3,.int .i64 (w64 (v1.f4 + (1:Int))),.bool v1.f5,k1 v1.f6]]⟩ ?_ fun n6_=>?_
   ·obtain ⟨hg,h⟩:=of_guard h
    refine AAny.step (i:=12) (fuel':=2) rfl (by kernel_rfl) [(([]:List Int).length + (v1.f2.getD (Int.toNat (w64 ((w64 (v1.f4 + (1:Int))) - (1:Int)))) default).length) * 1 ≤ 140737488355328,PlainTo (([]:List Int).length) (fun i=>(cInt .u8) (([]:List Int).getD i default)),PlainTo ((v1.f2.getD (Int.toNat (w64 ((w64 (v1.f4 + (1:Int))) - (1:Int)))) default).length) (fun i=>(cInt .u8) ((v1.f2.getD (Int.toNat (w64 ((w64 (v1.f4 + (1:Int))) - (1:Int)))) default).getD i default))] #[y1,y1,y1,y1,y1,y1,y1,y1,y1,y1,y1,y1,y1,n1,n1] rfl [47] 1 ⟨[(47,.tv (.own 1 5 (([]:List Int).length + (v1.f2.getD (Int.toNat (w64 ((w64 (v1.f4 + (1:Int))) - (1:Int)))) default).length) (appF (([]:List Int).length) (fun i=>(cInt .u8) (([]:List Int).getD i default)) (fun i=>(cInt .u8) ((v1.f2.getD (Int.toNat (w64 ((w64 (v1.f4 + (1:Int))) - (1:Int)))) default).getD i default)))))],[.cells 79 [.str v1.f0,.int .i64 v1.f1,fzL 1 (cSl 1 (cInt .u8)) v1.f2,.bool v1.f3,.int .i64 (w64 (v1.f4 + (1:Int))),.bool v1.f5,k1 v1.f6]]⟩ ?_ (zz rfl) ⟨hg,(fun _ _=>rfl),(fun _ _=>rfl)⟩ ?_
    ·kernel_rfl
    refine AAny.extL 47 (cInt .u8) (([]:List Int) ++ (v1.f2.getD (Int.toNat (w64 ((w64 (v1.f4 + (1:Int))) - (1:Int)))) default)) rfl List.length_append.symm (app_at (cInt .u8) ([]:List Int) (v1.f2.getD (Int.toNat (w64 ((w64 (v1.f4 + (1:Int))) - (1:Int)))) default)) ?_
    refine AAny.step (i:=13) (fuel':=1) rfl (by kernel_rfl) [] #[y1,y1,y1,y1,y1,y1,y1,y1,y1,y1,y1,y1,y1,y1,n1] rfl [2] 1 ⟨[(2,q1 (([]:List Int) ++ (v1.f2.getD (Int.toNat (w64 ((w64 (v1.f4 + (1:Int))) - (1:Int)))) default)))],[.cells 79 [.str v1.f0,.int .i64 v1.f1,fzL 1 (cSl 1 (cInt .u8)) v1.f2,.bool v1.f3,.int .i64 (w64 (v1.f4 + (1:Int))),.bool v1.f5,k1 v1.f6]]⟩ ?_ (zz rfl) trivial ?_
    ·kernel_rfl
    refine AAny.go (by kernel_rfl) [14] (fuel':=0) rfl [] #[y1,y1,y1,y1,y1,y1,y1,y1,y1,y1,y1,y1,y1,y1,y1] [2,3] 1 ⟨[(2,q1 (([]:List Int) ++ (v1.f2.getD (Int.toNat (w64 ((w64 (v1.f4 + (1:Int))) - (1:Int)))) default))),(3,tI (0:Int))],[.cells 79 [.str v1.f0,.int .i64 v1.f1,fzL 1 (cSl 1 (cInt .u8)) v1.f2,.bool v1.f3,.int .i64 (w64 (v1.f4 + (1:Int))),.bool v1.f5,k1 v1.f6]]⟩ ?_ (zz rfl) trivial ?_
    ·kernel_rfl
    refine AAny.keepTo [2,3] 1 ⟨[(2,q1 (([]:List Int) ++ (v1.f2.getD (Int.toNat (w64 ((w64 (v1.f4 + (1:Int))) - (1:Int)))) default))),(3,tI (0:Int))],[.cells 79 [.str v1.f0,.int .i64 v1.f1,fzL 1 (cSl 1 (cInt .u8)) v1.f2,.bool v1.f3,.int .i64 (w64 (v1.f4 + (1:Int))),.bool v1.f5,k1 v1.f6]]⟩ _ ?_ rfl (zz rfl) (AAny.done (by kernel_rfl) ?_)
    ·kernel_rfl
    refine AWp.freezeL 2 (cInt .u8) (([]:List Int) ++ (v1.f2.getD (Int.toNat (w64 ((w64 (v1.f4 + (1:Int))) - (1:Int)))) default)) rfl (fun _=>rfl) ?_
    refine AWp.keepTo [2,3] 1 ⟨[(2,q0 (([]:List Int) ++ (v1.f2.getD (Int.toNat (w64 ((w64 (v1.f4 + (1:Int))) - (1:Int)))) default))),(3,tI (0:Int))],[.cells 79 [.str v1.f0,.int .i64 v1.f1,fzL 1 (cSl 1 (cInt .u8)) v1.f2,.bool v1.f3,.int .i64 (w64 (v1.f4 + (1:Int))),.bool v1.f5,k1 v1.f6]]⟩ ?_ (zz rfl) ?_
    ·kernel_rfl
    refine AWp.ret ?_
    cases h
    exact ⟨.inr rfl,rfl⟩
   refine AAny.share 4 #[n1,y1,y1,y1,y1,y1,y1,y1,y1,y1,y1,y1,n1,n1,n1] ⟨[(46,q0 (v1.f2.getD (Int.toNat (w64 ((w64 (v1.f4 + (1:Int))) - (1:Int)))) default))],[.cells 79 [.str v1.f0,.int .i64 v1.f1,fzL 1 (cSl 1 (cInt .u8)) v1.f2,.bool v1.f3,.int .i64 (w64 (v1.f4 + (1:Int))),.bool v1.f5,k1 v1.f6]]⟩ ?_ fun n5_=>?_
   ·refine AAny.each [0] (by kernel_rfl) rfl ?_
    refine AEach.step (i:=0) [] #[y1,y1,y1,y1,y1,y1,y1,y1,y1,y1,y1,y1,n1,n1,n1] rfl [35,46] 1 ⟨[(35,.tv (.own 1 5 0 (newRowF [] 1))),(46,q0 (v1.f2.getD (Int.toNat (w64 ((w64 (v1.f4 + (1:Int))) - (1:Int)))) default))],[.cells 79 [.str v1.f0,.int .i64 v1.f1,fzL 1 (cSl 1 (cInt .u8)) v1.f2,.bool v1.f3,.int .i64 (w64 (v1.f4 + (1:Int))),.bool v1.f5,k1 v1.f6]]⟩ ?_ (zz rfl) trivial ?_ ?_
    ·kernel_rfl
    ·refine AAny.extL 35 (cInt .u8) ([]:List Int) rfl rfl (row_at (cInt .u8) 1 (fun _=>rfl) ([]:List Int) _ rfl) ?_
     refine AAny.keepTo [35,46] 1 ⟨[(35,q1 ([]:List Int)),(46,q0 (v1.f2.getD (Int.toNat (w64 ((w64 (v1.f4 + (1:Int))) - (1:Int)))) default))],[.cells 79 [.str v1.f0,.int .i64 v1.f1,fzL 1 (cSl 1 (cInt .u8)) v1.f2,.bool v1.f3,.int .i64 (w64 (v1.f4 + (1:Int))),.bool v1.f5,k1 v1.f6]]⟩ #[y1,y1,y1,y1,y1,y1,y1,y1,y1,y1,y1,y1,n1,n1,n1] ?_ rfl (zz rfl) ?_
     ·kernel_rfl
     exact n6_
    exact AEach.nil
   refine AAny.share 6 #[y1,y1,y1,y1,n1,y1,y1,y1,y1,y1,n1,n1,n1,n1,n1] ⟨[(35,q1 ([]:List Int)),(38,.pc 0 2),(44,tI (w64 ((w64 (v1.f4 + (1:Int))) - (1:Int))))],[.cells 79 [.str v1.f0,.int .i64 v1.f1,fzL 1 (cSl 1 (cInt .u8)) v1.f2,.bool v1.f3,.int .i64 (w64 (v1.f4 + (1:Int))),.bool v1.f5,k1 v1.f6]]⟩ ?_ fun n4_=>?_
   ·refine AAny.each [4] (by kernel_rfl) rfl ?_
    refine AEach.step (i:=4) [] #[y1,y1,y1,y1,y1,y1,y1,y1,y1,y1,n1,n1,n1,n1,n1] rfl [35,39,44] 1 ⟨[(35,q1 ([]:List Int)),(39,.tv (fzL 1 (cSl 1 (cInt .u8)) v1.f2)),(44,tI (w64 ((w64 (v1.f4 + (1:Int))) - (1:Int))))],[.cells 79 [.str v1.f0,.int .i64 v1.f1,fzL 1 (cSl 1 (cInt .u8)) v1.f2,.bool v1.f3,.int .i64 (w64 (v1.f4 + (1:Int))),.bool v1.f5,k1 v1.f6]]⟩ ?_ (zz rfl) trivial ?_ ?_
    ·kernel_rfl
    ·refine AAny.go (by kernel_rfl) [10,11] (fuel':=3) rfl [(0:Int) ≤ w64 ((w64 (v1.f4 + (1:Int))) - (1:Int)),w64 ((w64 (v1.f4 + (1:Int))) - (1:Int)) < (v1.f2.length:Int)] #[y1,y1,y1,y1,y1,y1,y1,y1,y1,y1,y1,y1,n1,n1,n1] [35,46] 1 ⟨[(35,q1 ([]:List Int)),(46,q0 (v1.f2.getD (Int.toNat (w64 ((w64 (v1.f4 + (1:Int))) - (1:Int)))) default))],[.cells 79 [.str v1.f0,.int .i64 v1.f1,fzL 1 (cSl 1 (cInt .u8)) v1.f2,.bool v1.f3,.int .i64 (w64 (v1.f4 + (1:Int))),.bool v1.f5,k1 v1.f6]]⟩ ?_ (zz rfl) ⟨hd2.1,hd2.2⟩ ?_
     ·kernel_rfl
     exact n6_
    exact AEach.nil
   refine AAny.share 7 #[n1,y1,y1,y1,n1,y1,y1,y1,y1,y1,n1,n1,n1,n1,n1] ⟨[(38,.pc 0 2),(44,tI (w64 ((w64 (v1.f4 + (1:Int))) - (1:Int))))],[.cells 79 [.str v1.f0,.int .i64 v1.f1,fzL 1 (cSl 1 (cInt .u8)) v1.f2,.bool v1.f3,.int .i64 (w64 (v1.f4 + (1:Int))),.bool v1.f5,k1 v1.f6]]⟩ ?_ fun n3_=>?_
   ·refine AAny.each [0,4] (by kernel_rfl) rfl ?_
    refine AEach.step (i:=0) [] #[y1,y1,y1,y1,n1,y1,y1,y1,y1,y1,n1,n1,n1,n1,n1] rfl [35,38,44] 1 ⟨[(35,.tv (.own 1 5 0 (newRowF [] 1))),(38,.pc 0 2),(44,tI (w64 ((w64 (v1.f4 + (1:Int))) - (1:Int))))],[.cells 79 [.str v1.f0,.int .i64 v1.f1,fzL 1 (cSl 1 (cInt .u8)) v1.f2,.bool v1.f3,.int .i64 (w64 (v1.f4 + (1:Int))),.bool v1.f5,k1 v1.f6]]⟩ ?_ (zz rfl) trivial ?_ ?_
    ·kernel_rfl
    ·refine AAny.extL 35 (cInt .u8) ([]:List Int) rfl rfl (row_at (cInt .u8) 1 (fun _=>rfl) ([]:List Int) _ rfl) ?_
     refine AAny.keepTo [35,38,44] 1 ⟨[(35,q1 ([]:List Int)),(38,.pc 0 2),(44,tI (w64 ((w64 (v1.f4 + (1:Int))) - (1:Int))))],[.cells 79 [.str v1.f0,.int .i64 v1.f1,fzL 1 (cSl 1 (cInt .u8)) v1.f2,.bool v1.f3,.int .i64 (w64 (v1.f4 + (1:Int))),.bool v1.f5,k1 v1.f6]]⟩ #[y1,y1,y1,y1,n1,y1,y1,y1,y1,y1,n1,n1,n1,n1,n1] ?_ rfl (zz rfl) ?_
     ·kernel_rfl
     exact n4_
    refine AEach.step (i:=4) [] #[n1,y1,y1,y1,y1,y1,y1,y1,y1,y1,n1,n1,n1,n1,n1] rfl [39,44] 1 ⟨[(39,.tv (fzL 1 (cSl 1 (cInt .u8)) v1.f2)),(44,tI (w64 ((w64 (v1.f4 + (1:Int))) - (1:Int))))],[.cells 79 [.str v1.f0,.int .i64 v1.f1,fzL 1 (cSl 1 (cInt .u8)) v1.f2,.bool v1.f3,.int .i64 (w64 (v1.f4 + (1:Int))),.bool v1.f5,k1 v1.f6]]⟩ ?_ (zz rfl) trivial ?_ ?_
    ·kernel_rfl
    ·refine AAny.go (by kernel_rfl) [10,11] (fuel':=4) rfl [(0:Int) ≤ w64 ((w64 (v1.f4 + (1:Int))) - (1:Int)),w64 ((w64 (v1.f4 + (1:Int))) - (1:Int)) < (v1.f2.length:Int)] #[n1,y1,y1,y1,y1,y1,y1,y1,y1,y1,y1,y1,n1,n1,n1] [46] 1 ⟨[(46,q0 (v1.f2.getD (Int.toNat (w64 ((w64 (v1.f4 + (1:Int))) - (1:Int)))) default))],[.cells 79 [.str v1.f0,.int .i64 v1.f1,fzL 1 (cSl 1 (cInt .u8)) v1.f2,.bool v1.f3,.int .i64 (w64 (v1.f4 + (1:Int))),.bool v1.f5,k1 v1.f6]]⟩ ?_ (zz rfl) ⟨hd2.1,hd2.2⟩ ?_
     ·kernel_rfl
     exact n5_
    exact AEach.nil
   refine AAny.share 7 #[y1,y1,y1,y1,y1,y1,y1,y1,n1,n1,n1,n1,n1,n1,n1] ⟨[(35,q1 ([]:List Int)),(39,.tv (fzL 1 (cSl 1 (cInt .u8)) v1.f2)),(42,.pc 0 4)],[.cells 79 [.str v1.f0,.int .i64 v1.f1,fzL 1 (cSl 1 (cInt .u8)) v1.f2,.bool v1.f3,.int .i64 (w64 (v1.f4 + (1:Int))),.bool v1.f5,k1 v1.f6]]⟩ ?_ fun n7_=>?_
   ·refine AAny.each [8] (by kernel_rfl) rfl ?_
    refine AEach.step (i:=8) [] #[y1,y1,y1,y1,y1,y1,y1,y1,y1,n1,n1,n1,n1,n1,n1] rfl [35,39,43] 1 ⟨[(35,q1 ([]:List Int)),(39,.tv (fzL 1 (cSl 1 (cInt .u8)) v1.f2)),(43,tI (w64 (v1.f4 + (1:Int))))],[.cells 79 [.str v1.f0,.int .i64 v1.f1,fzL 1 (cSl 1 (cInt .u8)) v1.f2,.bool v1.f3,.int .i64 (w64 (v1.f4 + (1:Int))),.bool v1.f5,k1 v1.f6]]⟩ ?_ (zz rfl) trivial ?_ ?_
    ·kernel_rfl
    ·refine AAny.go (by kernel_rfl) [9,10,11] (fuel':=3) rfl [(0:Int) ≤ w64 ((w64 (v1.f4 + (1:Int))) - (1:Int)),w64 ((w64 (v1.f4 + (1:Int))) - (1:Int)) < (v1.f2.length:Int)] #[y1,y1,y1,y1,y1,y1,y1,y1,y1,y1,y1,y1,n1,n1,n1] [35,46] 1 ⟨[(35,q1 ([]:List Int)),(46,q0 (v1.f2.getD (Int.toNat (w64 ((w64 (v1.f4 + (1:Int))) - (1:Int)))) default))],[.cells 79 [.str v1.f0,.int .i64 v1.f1,fzL 1 (cSl 1 (cInt .u8)) v1.f2,.bool v1.f3,.int .i64 (w64 (v1.f4 + (1:Int))),.bool v1.f5,k1 v1.f6]]⟩ ?_ (zz rfl) ⟨hd2.1,hd2.2⟩ ?_
     ·kernel_rfl
     exact n6_
    exact AEach.nil
   refine AAny.share 8 #[n1,y1,y1,y1,y1,y1,y1,y1,n1,n1,n1,n1,n1,n1,n1] ⟨[(39,.tv (fzL 1 (cSl 1 (cInt .u8)) v1.f2)),(42,.pc 0 4)],[.cells 79 [.str v1.f0,.int .i64 v1.f1,fzL 1 (cSl 1 (cInt .u8)) v1.f2,.bool v1.f3,.int .i64 (w64 (v1.f4 + (1:Int))),.bool v1.f5,k1 v1.f6]]⟩ ?_ fun n2_=>?_
   ·refine AAny.each [0,8] (by kernel_rfl) rfl ?_
    refine AEach.step (i:=0) [] #[y1,y1,y1,y1,y1,y1,y1,y1,n1,n1,n1,n1,n1,n1,n1] rfl [35,39,42] 1 ⟨[(35,.tv (.own 1 5 0 (newRowF [] 1))),(39,.tv (fzL 1 (cSl 1 (cInt .u8)) v1.f2)),(42,.pc 0 4)],[.cells 79 [.str v1.f0,.int .i64 v1.f1,fzL 1 (cSl 1 (cInt .u8)) v1.f2,.bool v1.f3,.int .i64 (w64 (v1.f4 + (1:Int))),.bool v1.f5,k1 v1.f6]]⟩ ?_ (zz rfl) trivial ?_ ?_
    ·kernel_rfl
    ·refine AAny.extL 35 (cInt .u8) ([]:List Int) rfl rfl (row_at (cInt .u8) 1 (fun _=>rfl) ([]:List Int) _ rfl) ?_
     refine AAny.keepTo [35,39,42] 1 ⟨[(35,q1 ([]:List Int)),(39,.tv (fzL 1 (cSl 1 (cInt .u8)) v1.f2)),(42,.pc 0 4)],[.cells 79 [.str v1.f0,.int .i64 v1.f1,fzL 1 (cSl 1 (cInt .u8)) v1.f2,.bool v1.f3,.int .i64 (w64 (v1.f4 + (1:Int))),.bool v1.f5,k1 v1.f6]]⟩ #[y1,y1,y1,y1,y1,y1,y1,y1,n1,n1,n1,n1,n1,n1,n1] ?_ rfl (zz rfl) ?_
     ·kernel_rfl
     exact n7_
    refine AEach.step (i:=8) [] #[n1,y1,y1,y1,y1,y1,y1,y1,y1,n1,n1,n1,n1,n1,n1] rfl [39,43] 1 ⟨[(39,.tv (fzL 1 (cSl 1 (cInt .u8)) v1.f2)),(43,tI (w64 (v1.f4 + (1:Int))))],[.cells 79 [.str v1.f0,.int .i64 v1.f1,fzL 1 (cSl 1 (cInt .u8)) v1.f2,.bool v1.f3,.int .i64 (w64 (v1.f4 + (1:Int))),.bool v1.f5,k1 v1.f6]]⟩ ?_ (zz rfl) trivial ?_ ?_
    ·kernel_rfl
    ·refine AAny.go (by kernel_rfl) [9,10,11] (fuel':=4) rfl [(0:Int) ≤ w64 ((w64 (v1.f4 + (1:Int))) - (1:Int)),w64 ((w64 (v1.f4 + (1:Int))) - (1:Int)) < (v1.f2.length:Int)] #[n1,y1,y1,y1,y1,y1,y1,y1,y1,y1,y1,y1,n1,n1,n1] [46] 1 ⟨[(46,q0 (v1.f2.getD (Int.toNat (w64 ((w64 (v1.f4 + (1:Int))) - (1:Int)))) default))],[.cells 79 [.str v1.f0,.int .i64 v1.f1,fzL 1 (cSl 1 (cInt .u8)) v1.f2,.bool v1.f3,.int .i64 (w64 (v1.f4 + (1:Int))),.bool v1.f5,k1 v1.f6]]⟩ ?_ (zz rfl) ⟨hd2.1,hd2.2⟩ ?_
     ·kernel_rfl
     exact n5_
    exact AEach.nil
   refine AAny.share 8 #[y1,y1,y1,y1,n1,y1,y1,y1,n1,n1,n1,n1,n1,n1,n1] ⟨[(35,q1 ([]:List Int)),(38,.pc 0 2),(42,.pc 0 4)],[.cells 79 [.str v1.f0,.int .i64 v1.f1,fzL 1 (cSl 1 (cInt .u8)) v1.f2,.bool v1.f3,.int .i64 (w64 (v1.f4 + (1:Int))),.bool v1.f5,k1 v1.f6]]⟩ ?_ fun n1_=>?_
   ·refine AAny.each [4,8] (by kernel_rfl) rfl ?_
    refine AEach.step (i:=4) [] #[y1,y1,y1,y1,y1,y1,y1,y1,n1,n1,n1,n1,n1,n1,n1] rfl [35,39,42] 1 ⟨[(35,q1 ([]:List Int)),(39,.tv (fzL 1 (cSl 1 (cInt .u8)) v1.f2)),(42,.pc 0 4)],[.cells 79 [.str v1.f0,.int .i64 v1.f1,fzL 1 (cSl 1 (cInt .u8)) v1.f2,.bool v1.f3,.int .i64 (w64 (v1.f4 + (1:Int))),.bool v1.f5,k1 v1.f6]]⟩ ?_ (zz rfl) trivial ?_ ?_
    ·kernel_rfl
    ·exact n7_
    refine AEach.step (i:=8) [] #[y1,y1,y1,y1,n1,y1,y1,y1,y1,n1,n1,n1,n1,n1,n1] rfl [35,38,43] 1 ⟨[(35,q1 ([]:List Int)),(38,.pc 0 2),(43,tI (w64 (v1.f4 + (1:Int))))],[.cells 79 [.str v1.f0,.int .i64 v1.f1,fzL 1 (cSl 1 (cInt .u8)) v1.f2,.bool v1.f3,.int .i64 (w64 (v1.f4 + (1:Int))),.bool v1.f5,k1 v1.f6]]⟩ ?_ (zz rfl) trivial ?_ ?_
    ·kernel_rfl
    ·refine AAny.go (by kernel_rfl) [9] (fuel':=6) rfl [] #[y1,y1,y1,y1,n1,y1,y1,y1,y1,y1,n1,n1,n1,n1,n1] [35,38,44] 1 ⟨[(35,q1 ([]:List Int)),(38,.pc 0 2),(44,tI (w64 ((w64 (v1.f4 + (1:Int))) - (1:Int))))],[.cells 79 [.str v1.f0,.int .i64 v1.f1,fzL 1 (cSl 1 (cInt .u8)) v1.f2,.bool v1.f3,.int .i64 (w64 (v1.f4 + (1:Int))),.bool v1.f5,k1 v1.f6]]⟩ ?_ (zz rfl) trivial ?_
     ·kernel_rfl
     exact n4_
    exact AEach.nil
   refine AAny.each [0,4,8] (by kernel_rfl) rfl ?_
   refine AEach.step (i:=0) [] #[y1,y1,y1,y1,n1,y1,y1,y1,n1,n1,n1,n1,n1,n1,n1] rfl [35,38,42] 1 ⟨[(35,.tv (.own 1 5 0 (newRowF [] 1))),(38,.pc 0 2),(42,.pc 0 4)],[.cells 79 [.str v1.f0,.int .i64 v1.f1,fzL 1 (cSl 1 (cInt .u8)) v1.f2,.bool v1.f3,.int .i64 (w64 (v1.f4 + (1:Int))),.bool v1.f5,k1 v1.f6]]⟩ ?_ (zz rfl) trivial ?_ ?_
   ·kernel_rfl
   ·refine AAny.extL 35 (cInt .u8) ([]:List Int) rfl rfl (row_at (cInt .u8) 1 (fun _=>rfl) ([]:List Int) _ rfl) ?_
    refine AAny.keepTo [35,38,42] 1 ⟨[(35,q1 ([]:List Int)),(38,.pc 0 2),(42,.pc 0 4)],[.cells 79 [.str v1.f0,.int .i64 v1.f1,fzL 1 (cSl 1 (cInt .u8)) v1.f2,.bool v1.f3,.int .i64 (w64 (v1.f4 + (1:Int))),.bool v1.f5,k1 v1.f6]]⟩ #[y1,y1,y1,y1,n1,y1,y1,y1,n1,n1,n1,n1,n1,n1,n1] ?_ rfl (zz rfl) ?_
    ·kernel_rfl
    exact n1_
   refine AEach.step (i:=4) [] #[n1,y1,y1,y1,y1,y1,y1,y1,n1,n1,n1,n1,n1,n1,n1] rfl [39,42] 1 ⟨[(39,.tv (fzL 1 (cSl 1 (cInt .u8)) v1.f2)),(42,.pc 0 4)],[.cells 79 [.str v1.f0,.int .i64 v1.f1,fzL 1 (cSl 1 (cInt .u8)) v1.f2,.bool v1.f3,.int .i64 (w64 (v1.f4 + (1:Int))),.bool v1.f5,k1 v1.f6]]⟩ ?_ (zz rfl) trivial ?_ ?_
   ·kernel_rfl
   ·exact n2_
   refine AEach.step (i:=8) [] #[n1,y1,y1,y1,n1,y1,y1,y1,y1,n1,n1,n1,n1,n1,n1] rfl [38,43] 1 ⟨[(38,.pc 0 2),(43,tI (w64 (v1.f4 + (1:Int))))],[.cells 79 [.str v1.f0,.int .i64 v1.f1,fzL 1 (cSl 1 (cInt .u8)) v1.f2,.bool v1.f3,.int .i64 (w64 (v1.f4 + (1:Int))),.bool v1.f5,k1 v1.f6]]⟩ ?_ (zz rfl) trivial ?_ ?_
   ·kernel_rfl
   ·refine AAny.go (by kernel_rfl) [9] (fuel':=7) rfl [] #[n1,y1,y1,y1,n1,y1,y1,y1,y1,y1,n1,n1,n1,n1,n1] [38,44] 1 ⟨[(38,.pc 0 2),(44,tI (w64 ((w64 (v1.f4 + (1:Int))) - (1:Int))))],[.cells 79 [.str v1.f0,.int .i64 v1.f1,fzL 1 (cSl 1 (cInt .u8)) v1.f2,.bool v1.f3,.int .i64 (w64 (v1.f4 + (1:Int))),.bool v1.f5,k1 v1.f6]]⟩ ?_ (zz rfl) trivial ?_
    ·kernel_rfl
    exact n3_
   exact AEach.nil

abbrev hp12 (v3:T78) (v4:List Int):List AObj:=[.cells 79 [.str v3.f0,.int .i64 v3.f1,fzL 1 (cSl 1 (cInt .u8)) v3.f2,.bool v3.f3,.int .i64 v3.f4,.bool v3.f5,k1 v4]]
abbrev hp13 (v3:T78):List AObj:=[.cells 79 [.str v3.f0,.int .i64 v3.f1,fzL 1 (cSl 1 (cInt .u8)) v3.f2,.bool v3.f3,.int .i64 v3.f4,.bool v3.f5,k1 v3.f6]]
abbrev hp14 (v3:T78) (v5:List Int):List AObj:=[.cells 79 [.str v3.f0,.int .i64 v3.f1,fzL 1 (cSl 1 (cInt .u8)) v3.f2,.bool v3.f3,.int .i64 v3.f4,.bool v3.f5,k1 v5]]

noncomputable def f63o_b1 (v1:Int) (v2:List Int) (v4:List Int):Option ((List Int) ⊕ Out (Int × T78) (List Int)) :=
 (cond (decide ((v2.length:Int) > (0:Int))) (some (decide ((v4.length:Int) < w64 (v1 + (v2.length:Int))))) (some false)).bind fun v6=>cond v6 (if (v4.length + [(0:Int)].length) * 1 ≤ 140737488355328 then some (.inl (v4 ++ [(0:Int)])) else none) (some (.inr (.go v4)))

noncomputable def f63o (v1:Int) (v2:List Int) (v3:T78):Option (Int × T78) :=
 cond (decide (w64 (v1 + (v2.length:Int)) > (20000:Int))) (some ((4:Int),T78.mk v3.f0 v3.f1 v3.f2 v3.f3 v3.f4 v3.f5 v3.f6)) ((iter (fun s=>f63o_b1 v1 v2 s) v3.f6).bind fun y=>match y with | .ret v7=>some v7 | .go v5=>if (0:Int) ≤ (if (v5.length:Int) < v1 then (v5.length:Int) else v1) ∧ (if (v5.length:Int) < v1 then (v5.length:Int) else v1) + (v2.length:Int) ≤ (v5.length:Int) then some ((0:Int),T78.mk v3.f0 v3.f1 v3.f2 v3.f3 v3.f4 v3.f5 (putL v5 (Int.toNat (if (v5.length:Int) < v1 then (v5.length:Int) else v1)) v2)) else none)

theorem f63o_ok (v1:Int) (v2:List Int) (v3:T78) {r:Int × T78} (h:f63o v1 v2 v3 = some r):ACall Try.prog 63 [.pc 0 0,.tv (.int .i64 v1),.tv (fzL 1 (cInt .u8) v2)] [.cells 79 [.str v3.f0,.int .i64 v3.f1,fzL 1 (cSl 1 (cInt .u8)) v3.f2,.bool v3.f3,.int .i64 v3.f4,.bool v3.f5,ownL 1 5 (cInt .u8) v3.f6]] (.tv (.int .i64 r.1)) [.cells 79 [.str r.2.f0,.int .i64 r.2.f1,fzL 1 (cSl 1 (cInt .u8)) r.2.f2,.bool r.2.f3,.int .i64 r.2.f4,.bool r.2.f5,ownL 1 5 (cInt .u8) r.2.f6]]:=by
 refine ACall.of1 (FF 50 1) Try.func63 rfl Try.ntmps63 Try.results63 (zz rfl) rfl rfl ?_
 refine AWp.seq ?_
 refine AWp.start [0] [] [] [0,1,2] 1 ⟨[(0,.pc 0 0),(1,tI v1),(2,q0 v2)],hp13 v3⟩ rfl ?_ (zz rfl) trivial ?_
 ·kernel_rfl
 refine AOps.nil ?_
 refine AWp.seq ?_
 refine AWp.seq ?_
 refine AWp.start [0,1,2,3,4] [] [] [0,1,2,11] 1 ⟨[(0,.pc 0 0),(1,tI v1),(2,q0 v2),(11,tB (decide (w64 (v1 + (v2.length:Int)) > (20000:Int))))],hp13 v3⟩ rfl ?_ (zz rfl) trivial ?_
 ·kernel_rfl
 refine AOps.nil ?_
 refine AWp.cond rfl (fun hb=>?_) fun hb=>?_
 ·replace h:=of_true h hb
  refine AWp.keepTo [] 1 ⟨[],hp13 v3⟩ ?_ (zz rfl) ?_
  ·kernel_rfl
  refine AWp.seq ?_
  refine AWp.start [0] [] [] [6] 1 ⟨[(6,tI (4:Int))],hp13 v3⟩ rfl ?_ (zz rfl) trivial ?_
  ·kernel_rfl
  refine AOps.nil ?_
  refine AWp.ret ?_
  cases h
  exact ⟨.inr rfl,rfl⟩
 ·replace h:=of_false h hb
  refine AWp.keepTo [0,1,2] 1 ⟨[(0,.pc 0 0),(1,tI v1),(2,q0 v2)],hp13 v3⟩ ?_ (zz rfl) ?_
  ·kernel_rfl
  refine AWp.skip ?_
  refine AWp.seq ?_
  refine AWp.block ?_
  obtain ⟨y,hy,h⟩:=of_bind h
  refine AWp.mono (AWp.loop (S:=(List Int)) (Y:=Out (Int × T78) (List Int)) (fun s=>⟨[(0,.pc 0 0),(1,tI v1),(2,q0 v2)],[.cells 79 [.str v3.f0,.int .i64 v3.f1,fzL 1 (cSl 1 (cInt .u8)) v3.f2,.bool v3.f3,.int .i64 v3.f4,.bool v3.f5,k1 s]]⟩) (fun s=>f63o_b1 v1 v2 s) (fun y e σ=>match y with | .ret r=>e = .ret ∧ σ = ⟨[(6,tI r.1)],[.cells 79 [.str r.2.f0,.int .i64 r.2.f1,fzL 1 (cSl 1 (cInt .u8)) r.2.f2,.bool r.2.f3,.int .i64 r.2.f4,.bool r.2.f5,k1 r.2.f6]]⟩ | .go v=>e = .exit 0 ∧ σ = ⟨[(0,.pc 0 0),(1,tI v1),(2,q0 v2)],[.cells 79 [.str v3.f0,.int .i64 v3.f1,fzL 1 (cSl 1 (cInt .u8)) v3.f2,.bool v3.f3,.int .i64 v3.f4,.bool v3.f5,k1 v]]⟩) ?_ hy) ?_
  ·rintro v4 o h
   refine AWp.seq ?_
   refine AWp.seq ?_
   refine AWp.start [0,1,2,3] [4,5,6,7,8,9,10,11,12,13,14] [] [0,1,2,15] 1 ⟨[(0,.pc 0 0),(1,tI v1),(2,q0 v2),(15,tB (decide ((v2.length:Int) > (0:Int))))],hp12 v3 v4⟩ rfl ?_ (zz rfl) trivial ?_
   ·kernel_rfl
   obtain ⟨v6,hc4,h⟩:=of_bind h
   refine AOps.cut [4,5,6,7,8,9,10,11,12,13,14] [] (fun σ=>σ = ⟨[(0,.pc 0 0),(1,tI v1),(2,q0 v2),(26,tB v6)],hp12 v3 v4⟩) ?_ fun σ' hJ=>?_
   ·refine AOps.split (fun b=>⟨[(0,.pc 0 0),(1,tI v1),(2,q0 v2),(15,tB b)],hp12 v3 v4⟩) _ (fun hb=>?_) fun hb=>?_
    ·replace hc4:=of_true hc4 hb
     refine AOps.go [4,5,6,7,8,9,10,11,12,13,14] [] [] [0,1,2,26] 1 ⟨[(0,.pc 0 0),(1,tI v1),(2,q0 v2),(26,tB (decide ((v4.length:Int) < w64 (v1 + (v2.length:Int)))))],hp12 v3 v4⟩ ?_ (zz rfl) trivial ?_
     ·kernel_rfl
     cases hc4
     exact AOps.nil rfl
    ·replace hc4:=of_false hc4 hb
     refine AOps.go [4,5,6,7,8,9,10,11,12,13,14] [] [] [0,1,2,26] 1 ⟨[(0,.pc 0 0),(1,tI v1),(2,q0 v2),(26,tB false)],hp12 v3 v4⟩ ?_ (zz rfl) trivial ?_
     ·kernel_rfl
     cases hc4
     exact AOps.nil rfl
   subst hJ
   refine AOps.nil ?_
   refine AWp.cond rfl (fun hb=>?_) fun hb=>?_
   ·replace h:=of_true h hb
    refine AWp.keepTo [0,1,2] 1 ⟨[(0,.pc 0 0),(1,tI v1),(2,q0 v2)],hp12 v3 v4⟩ ?_ (zz rfl) ?_
    ·kernel_rfl
    refine AWp.skip ?_
    refine AWp.block ?_
    refine AWp.start [0,1,2,3,4,5] [6,7,8,9] [] [0,1,2,27,31,32] 1 ⟨[(0,.pc 0 0),(1,tI v1),(2,q0 v2),(27,.pc 0 0),(31,.al (.cell 0 6,[])),(32,.tv (.own 1 5 1 (newRowF [.int .u8 (0:Int)] 1)))],hp12 v3 v4⟩ rfl ?_ (zz rfl) trivial ?_
    ·kernel_rfl
    refine AOps.extL 32 (cInt .u8) [(0:Int)] rfl rfl (row_at (cInt .u8) 1 (fun _=>rfl) [(0:Int)] _ rfl) ?_
    obtain ⟨hg,h⟩:=of_guard h
    refine AOps.go [6] [7,8,9] [(v4.length + [(0:Int)].length) * 1 ≤ 140737488355328,PlainTo v4.length (fun i=>(cInt .u8) (v4.getD i default)),PlainTo ([(0:Int)].length) (fun i=>(cInt .u8) ([(0:Int)].getD i default))] [0,1,2,27,33] 1 ⟨[(0,.pc 0 0),(1,tI v1),(2,q0 v2),(27,.pc 0 0),(33,.tv (.own 1 5 (v4.length + [(0:Int)].length) (appF v4.length (fun i=>(cInt .u8) (v4.getD i default)) (fun i=>(cInt .u8) ([(0:Int)].getD i default)))))],[.cells 79 [.str v3.f0,.int .i64 v3.f1,fzL 1 (cSl 1 (cInt .u8)) v3.f2,.bool v3.f3,.int .i64 v3.f4,.bool v3.f5,.hole]]⟩ ?_ (zz rfl) ⟨hg,(fun _ _=>rfl),(fun _ _=>rfl)⟩ ?_
    ·kernel_rfl
    refine AOps.extL 33 (cInt .u8) (v4 ++ [(0:Int)]) rfl List.length_append.symm (app_at (cInt .u8) v4 [(0:Int)]) ?_
    refine AOps.go [7,8] [9] [] [0,1,2,33,35] 1 ⟨[(0,.pc 0 0),(1,tI v1),(2,q0 v2),(33,q1 (v4 ++ [(0:Int)])),(35,.pc 0 6)],[.cells 79 [.str v3.f0,.int .i64 v3.f1,fzL 1 (cSl 1 (cInt .u8)) v3.f2,.bool v3.f3,.int .i64 v3.f4,.bool v3.f5,.hole]]⟩ ?_ (zz rfl) trivial ?_
    ·kernel_rfl
    refine AOps.cons (AOne.own (F:=(FF 50 1)) _ rfl rfl rfl rfl) ?_
    refine AOps.keepTo [0,1,2] 1 ⟨[(0,.pc 0 0),(1,tI v1),(2,q0 v2)],[.cells 79 [.str v3.f0,.int .i64 v3.f1,fzL 1 (cSl 1 (cInt .u8)) v3.f2,.bool v3.f3,.int .i64 v3.f4,.bool v3.f5,k1 (v4 ++ [(0:Int)])]]⟩ ?_ (zz rfl) ?_
    ·kernel_rfl
    refine AOps.nil ?_
    cases h
    exact Or.inl ⟨_,rfl,rfl,rfl⟩
   ·replace h:=of_false h hb
    refine AWp.keepTo [0,1,2] 1 ⟨[(0,.pc 0 0),(1,tI v1),(2,q0 v2)],hp12 v3 v4⟩ ?_ (zz rfl) ?_
    ·kernel_rfl
    refine AWp.exit ?_
    cases h
    exact Or.inr ⟨_,rfl,by simp,rfl,rfl⟩
  ·intro e σ hp
   rcases y with v7 | v5
   ·obtain ⟨rfl,rfl⟩:=hp
    cases h
    exact ⟨.inr rfl,rfl⟩
   ·obtain ⟨rfl,rfl⟩:=hp
    refine AWp.seq ?_
    refine AWp.draw FFm _ (n:=14) rfl (ls:=#[n1,n1,n1,n1,n1,n1,n1,n1,n1,n1,n1,n1,n1,n1]) rfl ?_ (fun _ h=>h)
    refine AAny.go (by kernel_rfl) [0,1,2,4,5,6,7,12] (fuel':=6) rfl [] #[y1,y1,y1,n1,y1,y1,y1,y1,n1,n1,n1,n1,y1,n1] [38,40,43,48] 1 ⟨[(38,.pc 0 6),(40,tI v1),(43,.pc 0 6),(48,q0 v2)],hp14 v3 v5⟩ ?_ (zz rfl) trivial ?_
    ·kernel_rfl
    refine AAny.goR (by kernel_rfl) (i:=8) (fuel':=5) [9,10,11,13] rfl (by kernel_rfl) (by kernel_rfl) [] #[y1,y1,y1,n1,y1,y1,y1,y1,y1,n1,n1,n1,y1,n1] rfl [38,40,44,48] 1 ⟨[(38,.pc 0 6),(40,tI v1),(44,.al (.cell 0 6,[])),(48,q0 v2)],hp14 v3 v5⟩ ?_ (zz rfl) trivial ?_
    ·kernel_rfl
    refine AAny.go (by kernel_rfl) [9,10] (fuel':=3) rfl [] #[y1,y1,y1,n1,y1,y1,y1,y1,y1,y1,y1,n1,y1,n1] [38,46,48] 1 ⟨[(38,.pc 0 6),(46,tI (if (v5.length:Int) < v1 then (v5.length:Int) else v1)),(48,q0 v2)],hp14 v3 v5⟩ ?_ (zz rfl) trivial ?_
    ·kernel_rfl
    refine AAny.step (i:=3) (fuel':=2) rfl (by kernel_rfl) [] #[y1,y1,y1,y1,y1,y1,y1,y1,y1,y1,y1,n1,y1,n1] rfl [39,46,48] 1 ⟨[(39,.al (.cell 0 6,[])),(46,tI (if (v5.length:Int) < v1 then (v5.length:Int) else v1)),(48,q0 v2)],hp14 v3 v5⟩ ?_ (zz rfl) trivial ?_
    ·kernel_rfl
    obtain ⟨hg,h⟩:=of_guard h
    refine AAny.cutCopy (F:=(FF 50 1)) (fuel:=0) (i1:=11) (i3:=13) (q:=(if (v5.length:Int) < v1 then (v5.length:Int) else v1)) (n:=v5.length) (m:=v2.length) (f:=(fun i=>(cInt .u8) (v5.getD i default))) (fy:=(fun i=>(cInt .u8) (v2.getD i default))) _ _ (by kernel_rfl) (by kernel_rfl) rfl rfl rfl rfl rfl rfl rfl rfl rfl rfl rfl rfl rfl rfl (fun _ _=>rfl) rfl hg.1 rfl (fun _ _=>rfl) hg.2 ?_
    have HB:(Int.toNat (if (v5.length:Int) < v1 then (v5.length:Int) else v1)) + v2.length ≤ v5.length:=by have hh1:(0:Int) ≤ (if (v5.length:Int) < v1 then (v5.length:Int) else v1):=hg.1; have hh2:(if (v5.length:Int) < v1 then (v5.length:Int) else v1) + (v2.length:Int) ≤ (v5.length:Int):=hg.2; omega
    refine AAny.keepTo [] 1 ⟨[],[.cells 79 [.str v3.f0,.int .i64 v3.f1,fzL 1 (cSl 1 (cInt .u8)) v3.f2,.bool v3.f3,.int .i64 v3.f4,.bool v3.f5,.own 1 5 v5.length (copyF (fun i=>(cInt .u8) (v5.getD i default)) (Int.toNat (if (v5.length:Int) < v1 then (v5.length:Int) else v1)) v2.length (fun i=>(cInt .u8) (v2.getD i default)))]]⟩ #[y1,y1,y1,y1,y1,y1,y1,y1,y1,y1,y1,y1,y1,y1] ?_ rfl (zz rfl) ?_
    ·kernel_rfl
    refine AAny.retell 0 6 (y':=k1 (putL v5 (Int.toNat (if (v5.length:Int) < v1 then (v5.length:Int) else v1)) v2)) rfl (.own (putL_len v5 (Int.toNat (if (v5.length:Int) < v1 then (v5.length:Int) else v1)) v2 HB) (putL_at (cInt .u8) v5 (Int.toNat (if (v5.length:Int) < v1 then (v5.length:Int) else v1)) v2 HB)) ?_
    refine AAny.keepTo [] 1 ⟨[],[.cells 79 [.str v3.f0,.int .i64 v3.f1,fzL 1 (cSl 1 (cInt .u8)) v3.f2,.bool v3.f3,.int .i64 v3.f4,.bool v3.f5,k1 (putL v5 (Int.toNat (if (v5.length:Int) < v1 then (v5.length:Int) else v1)) v2)]]⟩ _ ?_ rfl (zz rfl) (AAny.done (by kernel_rfl) ?_)
    ·kernel_rfl
    refine AWp.seq ?_
    refine AWp.start [0] [] [] [6] 1 ⟨[(6,tI (0:Int))],[.cells 79 [.str v3.f0,.int .i64 v3.f1,fzL 1 (cSl 1 (cInt .u8)) v3.f2,.bool v3.f3,.int .i64 v3.f4,.bool v3.f5,k1 (putL v5 (Int.toNat (if (v5.length:Int) < v1 then (v5.length:Int) else v1)) v2)]]⟩ rfl ?_ (zz rfl) trivial ?_
    ·kernel_rfl
    refine AOps.nil ?_
    refine AWp.ret ?_
    cases h
    exact ⟨.inr rfl,rfl⟩

abbrev hp15 (v3:T78):List AObj:=[.cells 79 [.str v3.f0,.int .i64 v3.f1,fzL 1 (cSl 1 (cInt .u8)) v3.f2,.bool v3.f3,.int .i64 v3.f4,.bool v3.f5,k1 v3.f6]]
abbrev hp16 (v7:Int × T78):List AObj:=[.cells 79 [.str v7.2.f0,.int .i64 v7.2.f1,fzL 1 (cSl 1 (cInt .u8)) v7.2.f2,.bool v7.2.f3,.int .i64 v7.2.f4,.bool v7.2.f5,k1 v7.2.f6]]
abbrev hp17 (v5:Int × T78):List AObj:=[.cells 79 [.str v5.2.f0,.int .i64 v5.2.f1,fzL 1 (cSl 1 (cInt .u8)) v5.2.f2,.bool v5.2.f3,.int .i64 v5.2.f4,.bool v5.2.f5,k1 v5.2.f6]]

noncomputable def f54o_j1 (v7:Int × T78) (v8:Int):Option (Int × T78) :=
 some (v7.1,T78.mk v7.2.f0 v7.2.f1 v7.2.f2 v7.2.f3 v8 v7.2.f5 v7.2.f6)

noncomputable def f54o_j2 (v2:List Int) (v3:T78) (v6:Int):Option (Int × T78) :=
 cond (decide (v6 > (20001:Int))) (some ((4:Int),T78.mk v3.f0 v3.f1 v3.f2 v3.f3 v3.f4 v3.f5 v3.f6)) ((f63o (w64 (v6 - (1:Int))) v2 (T78.mk v3.f0 v3.f1 v3.f2 v3.f3 v3.f4 v3.f5 v3.f6)).bind fun v7=>cond (v7.1 == (0:Int)) (f54o_j1 v7 (w64 (v6 + (v2.length:Int)))) (f54o_j1 v7 v7.2.f4))

noncomputable def f54o (v1:Int) (v2:List Int) (v3:T78):Option (Int × T78) :=
 cond (v3.f0 == ([100,105,114,101,99,116]:List UInt8)) ((cond (decide (v1 < (1:Int))) (some true) (some (decide ((v2.length:Int) > v3.f1)))).bind fun v4=>cond v4 (some ((2:Int),T78.mk v3.f0 v3.f1 v3.f2 v3.f3 v3.f4 v3.f5 v3.f6)) (cond (decide (v1 > (20000:Int))) (some ((4:Int),T78.mk v3.f0 v3.f1 v3.f2 v3.f3 v3.f4 v3.f5 v3.f6)) (if (([]:List Int).length + v2.length) * 1 ≤ 140737488355328 then if (0:Int) ≤ w64 (v3.f1 - (v2.length:Int)) ∧ ((([]:List Int) ++ v2).length + (Int.toNat (w64 (v3.f1 - (v2.length:Int))))) * 1 ≤ 140737488355328 then (f63o (w64 ((w64 (v1 - (1:Int))) * v3.f1)) ((([]:List Int) ++ v2) ++ List.replicate (Int.toNat (w64 (v3.f1 - (v2.length:Int)))) (0:Int)) (T78.mk v3.f0 v3.f1 v3.f2 v3.f3 v3.f4 v3.f5 v3.f6)).bind fun v5=>some (v5.1,T78.mk v5.2.f0 v5.2.f1 v5.2.f2 v5.2.f3 v5.2.f4 v5.2.f5 v5.2.f6) else none else none))) (cond (v3.f0 == ([115,116,114,101,97,109]:List UInt8)) (cond (decide (v1 < (0:Int))) (some ((2:Int),T78.mk v3.f0 v3.f1 v3.f2 v3.f3 v3.f4 v3.f5 v3.f6)) (cond (v1 == (0:Int)) (f54o_j2 v2 v3 v3.f4) (f54o_j2 v2 v3 v1))) (some ((110:Int),T78.mk v3.f0 v3.f1 v3.f2 v3.f3 v3.f4 v3.f5 v3.f6)))

theorem f54o_ok (v1:Int) (v2:List Int) (v3:T78) {r:Int × T78} (h:f54o v1 v2 v3 = some r):ACall Try.prog 54 [.pc 0 0,.tv (.int .i64 v1),.tv (fzL 1 (cInt .u8) v2)] [.cells 79 [.str v3.f0,.int .i64 v3.f1,fzL 1 (cSl 1 (cInt .u8)) v3.f2,.bool v3.f3,.int .i64 v3.f4,.bool v3.f5,ownL 1 5 (cInt .u8) v3.f6]] (.tv (.int .i64 r.1)) [.cells 79 [.str r.2.f0,.int .i64 r.2.f1,fzL 1 (cSl 1 (cInt .u8)) r.2.f2,.bool r.2.f3,.int .i64 r.2.f4,.bool r.2.f5,ownL 1 5 (cInt .u8) r.2.f6]]:=by
 refine ACall.of1 (FF 74 1) Try.func54 rfl Try.ntmps54 Try.results54 (zz rfl) rfl rfl ?_
 refine AWp.seq ?_
 refine AWp.start [0] [] [] [0,1,2] 1 ⟨[(0,.pc 0 0),(1,tI v1),(2,q0 v2)],hp15 v3⟩ rfl ?_ (zz rfl) trivial ?_
 ·kernel_rfl
 refine AOps.nil ?_
 refine AWp.seq ?_
 refine AWp.seq ?_
 refine AWp.start [0,1,2,3] [] [] [0,1,2,11] 1 ⟨[(0,.pc 0 0),(1,tI v1),(2,q0 v2),(11,tS v3.f0)],hp15 v3⟩ rfl ?_ (zz rfl) trivial ?_
 ·kernel_rfl
 refine AOps.nil ?_
 refine AWp.block ?_
 refine AWp.seq ?_
 refine AWp.start [0,1] [] [] [0,1,2,11,12] 1 ⟨[(0,.pc 0 0),(1,tI v1),(2,q0 v2),(11,tS v3.f0),(12,tB (v3.f0 == ([100,105,114,101,99,116]:List UInt8)))],hp15 v3⟩ rfl ?_ (zz rfl) trivial ?_
 ·kernel_rfl
 refine AOps.nil ?_
 refine AWp.cond rfl (fun hb=>?_) fun hb=>?_
 ·replace h:=of_true h hb
  refine AWp.keepTo [0,1,2] 1 ⟨[(0,.pc 0 0),(1,tI v1),(2,q0 v2)],hp15 v3⟩ ?_ (zz rfl) ?_
  ·kernel_rfl
  refine AWp.seq ?_
  refine AWp.seq ?_
  refine AWp.start [0,1,2] [3,4,5,6,7,8,9,10] [] [0,1,2,16] 1 ⟨[(0,.pc 0 0),(1,tI v1),(2,q0 v2),(16,tB (decide (v1 < (1:Int))))],hp15 v3⟩ rfl ?_ (zz rfl) trivial ?_
  ·kernel_rfl
  obtain ⟨v4,hc3,h⟩:=of_bind h
  refine AOps.cut [3,4,5,6,7,8,9,10] [] (fun σ=>σ = ⟨[(0,.pc 0 0),(1,tI v1),(2,q0 v2),(24,tB v4)],hp15 v3⟩) ?_ fun σ' hJ=>?_
  ·refine AOps.split (fun b=>⟨[(0,.pc 0 0),(1,tI v1),(2,q0 v2),(16,tB b)],hp15 v3⟩) _ (fun hb=>?_) fun hb=>?_
   ·replace hc3:=of_true hc3 hb
    refine AOps.go [3,4,5,6,7,8,9,10] [] [] [0,1,2,24] 1 ⟨[(0,.pc 0 0),(1,tI v1),(2,q0 v2),(24,tB true)],hp15 v3⟩ ?_ (zz rfl) trivial ?_
    ·kernel_rfl
    cases hc3
    exact AOps.nil rfl
   ·replace hc3:=of_false hc3 hb
    refine AOps.go [3,4,5,6,7,8,9,10] [] [] [0,1,2,24] 1 ⟨[(0,.pc 0 0),(1,tI v1),(2,q0 v2),(24,tB (decide ((v2.length:Int) > v3.f1)))],hp15 v3⟩ ?_ (zz rfl) trivial ?_
    ·kernel_rfl
    cases hc3
    exact AOps.nil rfl
  subst hJ
  refine AOps.nil ?_
  refine AWp.cond rfl (fun hb=>?_) fun hb=>?_
  ·replace h:=of_true h hb
   refine AWp.keepTo [] 1 ⟨[],hp15 v3⟩ ?_ (zz rfl) ?_
   ·kernel_rfl
   refine AWp.seq ?_
   refine AWp.start [0] [] [] [6] 1 ⟨[(6,tI (2:Int))],hp15 v3⟩ rfl ?_ (zz rfl) trivial ?_
   ·kernel_rfl
   refine AOps.nil ?_
   refine AWp.ret ?_
   cases h
   exact ⟨.inr rfl,rfl⟩
  ·replace h:=of_false h hb
   refine AWp.keepTo [0,1,2] 1 ⟨[(0,.pc 0 0),(1,tI v1),(2,q0 v2)],hp15 v3⟩ ?_ (zz rfl) ?_
   ·kernel_rfl
   refine AWp.skip ?_
   refine AWp.seq ?_
   refine AWp.seq ?_
   refine AWp.start [0,1] [] [] [0,1,2,26] 1 ⟨[(0,.pc 0 0),(1,tI v1),(2,q0 v2),(26,tB (decide (v1 > (20000:Int))))],hp15 v3⟩ rfl ?_ (zz rfl) trivial ?_
   ·kernel_rfl
   refine AOps.nil ?_
   refine AWp.cond rfl (fun hb=>?_) fun hb=>?_
   ·replace h:=of_true h hb
    refine AWp.keepTo [] 1 ⟨[],hp15 v3⟩ ?_ (zz rfl) ?_
    ·kernel_rfl
    refine AWp.seq ?_
    refine AWp.start [0] [] [] [6] 1 ⟨[(6,tI (4:Int))],hp15 v3⟩ rfl ?_ (zz rfl) trivial ?_
    ·kernel_rfl
    refine AOps.nil ?_
    refine AWp.ret ?_
    cases h
    exact ⟨.inr rfl,rfl⟩
   ·replace h:=of_false h hb
    refine AWp.keepTo [0,1,2] 1 ⟨[(0,.pc 0 0),(1,tI v1),(2,q0 v2)],hp15 v3⟩ ?_ (zz rfl) ?_
    ·kernel_rfl
    refine AWp.skip ?_
    refine AWp.seq ?_
    refine AWp.draw FFm _ (n:=21) rfl (ls:=#[n1,n1,n1,n1,n1,n1,n1,n1,n1,n1,n1,n1,n1,n1,n1,n1,n1,n1,n1,n1,n1]) rfl ?_ (fun _ h=>h)
    refine AAny.go (by kernel_rfl) [0,1,2,3,4,5,9,11,12,13,15,16] (fuel':=9) rfl [] #[y1,y1,y1,y1,y1,y1,n1,n1,n1,y1,n1,y1,y1,y1,n1,y1,y1,n1,n1,n1,n1] [27,29,32,36,40,43] 1 ⟨[(27,.pc 0 0),(29,tI (w64 (v1 - (1:Int)))),(32,.pc 0 1),(36,q0 v2),(40,.pc 0 1),(43,tI (v2.length:Int))],hp15 v3⟩ ?_ (zz rfl) trivial ?_
    ·kernel_rfl
    obtain ⟨hd7,h⟩:=of_guard h
    obtain ⟨hd8,h⟩:=of_guard h
    refine AAny.share 2 #[y1,y1,y1,y1,y1,y1,y1,y1,y1,y1,y1,y1,y1,y1,y1,y1,y1,y1,y1,n1,n1] ⟨[(27,.pc 0 0),(34,tI (w64 ((w64 (v1 - (1:Int))) * v3.f1))),(45,q0 ((([]:List Int) ++ v2) ++ List.replicate (Int.toNat (w64 (v3.f1 - (v2.length:Int)))) (0:Int)))],hp15 v3⟩ ?_ fun n10_=>?_
    ·obtain ⟨v5,hv5,h⟩:=of_bind h
     refine AAny.serial (i:=19) (fuel:=1) (by kernel_rfl) (AOne.callO (F:=(FF 74 1)) _ rfl rfl rfl 46 rfl rfl 63 [] rfl Try.call63 [0] (by decide) [.pc 0 0,tI (w64 ((w64 (v1 - (1:Int))) * v3.f1)),q0 ((([]:List Int) ++ v2) ++ List.replicate (Int.toNat (w64 (v3.f1 - (v2.length:Int)))) (0:Int))] (by kernel_rfl) [.cells 79 [.str v3.f0,.int .i64 v3.f1,fzL 1 (cSl 1 (cInt .u8)) v3.f2,.bool v3.f3,.int .i64 v3.f4,.bool v3.f5,k1 v3.f6]] (by kernel_rfl) (f63o_ok (w64 ((w64 (v1 - (1:Int))) * v3.f1)) ((([]:List Int) ++ v2) ++ List.replicate (Int.toNat (w64 (v3.f1 - (v2.length:Int)))) (0:Int)) (T78.mk v3.f0 v3.f1 v3.f2 v3.f3 v3.f4 v3.f5 v3.f6) hv5) (by kernel_rfl) (by kernel_rfl) _ rfl) ?_
     refine AAny.keepTo [46] 1 ⟨[(46,tI v5.1)],hp17 v5⟩ #[y1,y1,y1,y1,y1,y1,y1,y1,y1,y1,y1,y1,y1,y1,y1,y1,y1,y1,y1,y1,n1] ?_ rfl (zz rfl) ?_
     ·kernel_rfl
     refine AAny.go (by kernel_rfl) [20] (fuel':=0) rfl [] #[y1,y1,y1,y1,y1,y1,y1,y1,y1,y1,y1,y1,y1,y1,y1,y1,y1,y1,y1,y1,y1] [6] 1 ⟨[(6,tI v5.1)],hp17 v5⟩ ?_ (zz rfl) trivial ?_
     ·kernel_rfl
     refine AAny.keepTo [6] 1 ⟨[(6,tI v5.1)],hp17 v5⟩ _ ?_ rfl (zz rfl) (AAny.done (by kernel_rfl) ?_)
     ·kernel_rfl
     refine AWp.ret ?_
     cases h
     exact ⟨.inr rfl,rfl⟩
    refine AAny.share 3 #[y1,y1,y1,y1,y1,y1,y1,y1,y1,y1,y1,y1,y1,y1,y1,y1,y1,y1,n1,n1,n1] ⟨[(27,.pc 0 0),(34,tI (w64 ((w64 (v1 - (1:Int))) * v3.f1))),(37,q1 (([]:List Int) ++ v2)),(44,tI (w64 (v3.f1 - (v2.length:Int))))],hp15 v3⟩ ?_ fun n8_=>?_
    ·refine AAny.each [18] (by kernel_rfl) rfl ?_
     refine AEach.one (i:=18) (AOne.zero (F:=(FF 74 1)) [(0:Int) ≤ w64 (v3.f1 - (v2.length:Int)),((([]:List Int) ++ v2).length + (Int.toNat (w64 (v3.f1 - (v2.length:Int))))) * 1 ≤ 140737488355328,PlainTo ((([]:List Int) ++ v2).length) (fun i=>(cInt .u8) ((([]:List Int) ++ v2).getD i default))] _ rfl rfl rfl rfl ⟨hd8.1,hd8.2,(fun _ _=>rfl)⟩) ?_ ?_
     ·refine AAny.keepTo [27,34,45] 1 ⟨[(27,.pc 0 0),(34,tI (w64 ((w64 (v1 - (1:Int))) * v3.f1))),(45,.tv (.own 1 5 ((([]:List Int) ++ v2).length + (Int.toNat (w64 (v3.f1 - (v2.length:Int))))) (appF ((([]:List Int) ++ v2).length) (fun i=>(cInt .u8) ((([]:List Int) ++ v2).getD i default)) (zerosF [.int .u8 (0:Int)]))))],hp15 v3⟩ #[y1,y1,y1,y1,y1,y1,y1,y1,y1,y1,y1,y1,y1,y1,y1,y1,y1,y1,y1,n1,n1] ?_ rfl (zz rfl) ?_
      ·kernel_rfl
      refine AAny.extL 45 (cInt .u8) ((([]:List Int) ++ v2) ++ List.replicate (Int.toNat (w64 (v3.f1 - (v2.length:Int)))) (0:Int)) rfl (by simp) (appz_at (cInt .u8) (([]:List Int) ++ v2) _ [.int .u8 (0:Int)] (0:Int) rfl) ?_
      refine AAny.freezeL 45 (cInt .u8) ((([]:List Int) ++ v2) ++ List.replicate (Int.toNat (w64 (v3.f1 - (v2.length:Int)))) (0:Int)) rfl (fun _=>rfl) ?_
      refine AAny.keepTo [27,34,45] 1 ⟨[(27,.pc 0 0),(34,tI (w64 ((w64 (v1 - (1:Int))) * v3.f1))),(45,q0 ((([]:List Int) ++ v2) ++ List.replicate (Int.toNat (w64 (v3.f1 - (v2.length:Int)))) (0:Int)))],hp15 v3⟩ #[y1,y1,y1,y1,y1,y1,y1,y1,y1,y1,y1,y1,y1,y1,y1,y1,y1,y1,y1,n1,n1] ?_ rfl (zz rfl) ?_
      ·kernel_rfl
      exact n10_
     exact AEach.nil
    refine AAny.share 4 #[y1,y1,y1,y1,y1,y1,n1,n1,y1,y1,y1,y1,y1,y1,y1,y1,y1,y1,y1,n1,n1] ⟨[(27,.pc 0 0),(29,tI (w64 (v1 - (1:Int)))),(32,.pc 0 1),(45,q0 ((([]:List Int) ++ v2) ++ List.replicate (Int.toNat (w64 (v3.f1 - (v2.length:Int)))) (0:Int)))],hp15 v3⟩ ?_ fun n9_=>?_
    ·refine AAny.each [6] (by kernel_rfl) rfl ?_
     refine AEach.step (i:=6) [] #[y1,y1,y1,y1,y1,y1,y1,n1,y1,y1,y1,y1,y1,y1,y1,y1,y1,y1,y1,n1,n1] rfl [27,29,33,45] 1 ⟨[(27,.pc 0 0),(29,tI (w64 (v1 - (1:Int)))),(33,tI v3.f1),(45,q0 ((([]:List Int) ++ v2) ++ List.replicate (Int.toNat (w64 (v3.f1 - (v2.length:Int)))) (0:Int)))],hp15 v3⟩ ?_ (zz rfl) trivial ?_ ?_
     ·kernel_rfl
     ·refine AAny.go (by kernel_rfl) [7] (fuel':=2) rfl [] #[y1,y1,y1,y1,y1,y1,y1,y1,y1,y1,y1,y1,y1,y1,y1,y1,y1,y1,y1,n1,n1] [27,34,45] 1 ⟨[(27,.pc 0 0),(34,tI (w64 ((w64 (v1 - (1:Int))) * v3.f1))),(45,q0 ((([]:List Int) ++ v2) ++ List.replicate (Int.toNat (w64 (v3.f1 - (v2.length:Int)))) (0:Int)))],hp15 v3⟩ ?_ (zz rfl) trivial ?_
      ·kernel_rfl
      exact n10_
     exact AEach.nil
    refine AAny.share 4 #[y1,y1,y1,y1,y1,y1,y1,y1,y1,y1,n1,y1,y1,y1,y1,y1,y1,y1,n1,n1,n1] ⟨[(27,.pc 0 0),(34,tI (w64 ((w64 (v1 - (1:Int))) * v3.f1))),(35,q1 ([]:List Int)),(36,q0 v2),(44,tI (w64 (v3.f1 - (v2.length:Int))))],hp15 v3⟩ ?_ fun n6_=>?_
    ·refine AAny.each [10] (by kernel_rfl) rfl ?_
     refine AEach.step (i:=10) [(([]:List Int).length + v2.length) * 1 ≤ 140737488355328,PlainTo (([]:List Int).length) (fun i=>(cInt .u8) (([]:List Int).getD i default)),PlainTo v2.length (fun i=>(cInt .u8) (v2.getD i default))] #[y1,y1,y1,y1,y1,y1,y1,y1,y1,y1,y1,y1,y1,y1,y1,y1,y1,y1,n1,n1,n1] rfl [27,34,37,44] 1 ⟨[(27,.pc 0 0),(34,tI (w64 ((w64 (v1 - (1:Int))) * v3.f1))),(37,.tv (.own 1 5 (([]:List Int).length + v2.length) (appF (([]:List Int).length) (fun i=>(cInt .u8) (([]:List Int).getD i default)) (fun i=>(cInt .u8) (v2.getD i default))))),(44,tI (w64 (v3.f1 - (v2.length:Int))))],hp15 v3⟩ ?_ (zz rfl) ⟨hd7,(fun _ _=>rfl),(fun _ _=>rfl)⟩ ?_ ?_
     ·kernel_rfl
     ·refine AAny.extL 37 (cInt .u8) (([]:List Int) ++ v2) rfl List.length_append.symm (app_at (cInt .u8) ([]:List Int) v2) ?_
      refine AAny.keepTo [27,34,37,44] 1 ⟨[(27,.pc 0 0),(34,tI (w64 ((w64 (v1 - (1:Int))) * v3.f1))),(37,q1 (([]:List Int) ++ v2)),(44,tI (w64 (v3.f1 - (v2.length:Int))))],hp15 v3⟩ #[y1,y1,y1,y1,y1,y1,y1,y1,y1,y1,y1,y1,y1,y1,y1,y1,y1,y1,n1,n1,n1] ?_ rfl (zz rfl) ?_
      ·kernel_rfl
      exact n8_
     exact AEach.nil
    refine AAny.share 5 #[y1,y1,y1,y1,y1,y1,n1,n1,y1,y1,y1,y1,y1,y1,y1,y1,y1,y1,n1,n1,n1] ⟨[(27,.pc 0 0),(29,tI (w64 (v1 - (1:Int)))),(32,.pc 0 1),(37,q1 (([]:List Int) ++ v2)),(44,tI (w64 (v3.f1 - (v2.length:Int))))],hp15 v3⟩ ?_ fun n7_=>?_
    ·refine AAny.each [6,18] (by kernel_rfl) rfl ?_
     refine AEach.step (i:=6) [] #[y1,y1,y1,y1,y1,y1,y1,n1,y1,y1,y1,y1,y1,y1,y1,y1,y1,y1,n1,n1,n1] rfl [27,29,33,37,44] 1 ⟨[(27,.pc 0 0),(29,tI (w64 (v1 - (1:Int)))),(33,tI v3.f1),(37,q1 (([]:List Int) ++ v2)),(44,tI (w64 (v3.f1 - (v2.length:Int))))],hp15 v3⟩ ?_ (zz rfl) trivial ?_ ?_
     ·kernel_rfl
     ·refine AAny.go (by kernel_rfl) [7] (fuel':=3) rfl [] #[y1,y1,y1,y1,y1,y1,y1,y1,y1,y1,y1,y1,y1,y1,y1,y1,y1,y1,n1,n1,n1] [27,34,37,44] 1 ⟨[(27,.pc 0 0),(34,tI (w64 ((w64 (v1 - (1:Int))) * v3.f1))),(37,q1 (([]:List Int) ++ v2)),(44,tI (w64 (v3.f1 - (v2.length:Int))))],hp15 v3⟩ ?_ (zz rfl) trivial ?_
      ·kernel_rfl
      exact n8_
     refine AEach.one (i:=18) (AOne.zero (F:=(FF 74 1)) [(0:Int) ≤ w64 (v3.f1 - (v2.length:Int)),((([]:List Int) ++ v2).length + (Int.toNat (w64 (v3.f1 - (v2.length:Int))))) * 1 ≤ 140737488355328,PlainTo ((([]:List Int) ++ v2).length) (fun i=>(cInt .u8) ((([]:List Int) ++ v2).getD i default))] _ rfl rfl rfl rfl ⟨hd8.1,hd8.2,(fun _ _=>rfl)⟩) ?_ ?_
     ·refine AAny.keepTo [27,29,32,45] 1 ⟨[(27,.pc 0 0),(29,tI (w64 (v1 - (1:Int)))),(32,.pc 0 1),(45,.tv (.own 1 5 ((([]:List Int) ++ v2).length + (Int.toNat (w64 (v3.f1 - (v2.length:Int))))) (appF ((([]:List Int) ++ v2).length) (fun i=>(cInt .u8) ((([]:List Int) ++ v2).getD i default)) (zerosF [.int .u8 (0:Int)]))))],hp15 v3⟩ #[y1,y1,y1,y1,y1,y1,n1,n1,y1,y1,y1,y1,y1,y1,y1,y1,y1,y1,y1,n1,n1] ?_ rfl (zz rfl) ?_
      ·kernel_rfl
      refine AAny.extL 45 (cInt .u8) ((([]:List Int) ++ v2) ++ List.replicate (Int.toNat (w64 (v3.f1 - (v2.length:Int)))) (0:Int)) rfl (by simp) (appz_at (cInt .u8) (([]:List Int) ++ v2) _ [.int .u8 (0:Int)] (0:Int) rfl) ?_
      refine AAny.freezeL 45 (cInt .u8) ((([]:List Int) ++ v2) ++ List.replicate (Int.toNat (w64 (v3.f1 - (v2.length:Int)))) (0:Int)) rfl (fun _=>rfl) ?_
      refine AAny.keepTo [27,29,32,45] 1 ⟨[(27,.pc 0 0),(29,tI (w64 (v1 - (1:Int)))),(32,.pc 0 1),(45,q0 ((([]:List Int) ++ v2) ++ List.replicate (Int.toNat (w64 (v3.f1 - (v2.length:Int)))) (0:Int)))],hp15 v3⟩ #[y1,y1,y1,y1,y1,y1,n1,n1,y1,y1,y1,y1,y1,y1,y1,y1,y1,y1,y1,n1,n1] ?_ rfl (zz rfl) ?_
      ·kernel_rfl
      exact n9_
     exact AEach.nil
    refine AAny.share 5 #[y1,y1,y1,y1,y1,y1,y1,y1,n1,y1,n1,y1,y1,y1,y1,y1,y1,y1,n1,n1,n1] ⟨[(27,.pc 0 0),(34,tI (w64 ((w64 (v1 - (1:Int))) * v3.f1))),(36,q0 v2),(44,tI (w64 (v3.f1 - (v2.length:Int))))],hp15 v3⟩ ?_ fun n4_=>?_
    ·refine AAny.each [8] (by kernel_rfl) rfl ?_
     refine AEach.step (i:=8) [] #[y1,y1,y1,y1,y1,y1,y1,y1,y1,y1,n1,y1,y1,y1,y1,y1,y1,y1,n1,n1,n1] rfl [27,34,35,36,44] 1 ⟨[(27,.pc 0 0),(34,tI (w64 ((w64 (v1 - (1:Int))) * v3.f1))),(35,.tv (.own 1 5 0 (newRowF [] 1))),(36,q0 v2),(44,tI (w64 (v3.f1 - (v2.length:Int))))],hp15 v3⟩ ?_ (zz rfl) trivial ?_ ?_
     ·kernel_rfl
     ·refine AAny.extL 35 (cInt .u8) ([]:List Int) rfl rfl (row_at (cInt .u8) 1 (fun _=>rfl) ([]:List Int) _ rfl) ?_
      refine AAny.keepTo [27,34,35,36,44] 1 ⟨[(27,.pc 0 0),(34,tI (w64 ((w64 (v1 - (1:Int))) * v3.f1))),(35,q1 ([]:List Int)),(36,q0 v2),(44,tI (w64 (v3.f1 - (v2.length:Int))))],hp15 v3⟩ #[y1,y1,y1,y1,y1,y1,y1,y1,y1,y1,n1,y1,y1,y1,y1,y1,y1,y1,n1,n1,n1] ?_ rfl (zz rfl) ?_
      ·kernel_rfl
      exact n6_
     exact AEach.nil
    refine AAny.share 5 #[y1,y1,y1,y1,y1,y1,y1,y1,y1,y1,y1,y1,y1,y1,n1,y1,y1,n1,n1,n1,n1] ⟨[(27,.pc 0 0),(34,tI (w64 ((w64 (v1 - (1:Int))) * v3.f1))),(37,q1 (([]:List Int) ++ v2)),(40,.pc 0 1),(43,tI (v2.length:Int))],hp15 v3⟩ ?_ fun n13_=>?_
    ·refine AAny.each [14] (by kernel_rfl) rfl ?_
     refine AEach.step (i:=14) [] #[y1,y1,y1,y1,y1,y1,y1,y1,y1,y1,y1,y1,y1,y1,y1,y1,y1,n1,n1,n1,n1] rfl [27,34,37,41,43] 1 ⟨[(27,.pc 0 0),(34,tI (w64 ((w64 (v1 - (1:Int))) * v3.f1))),(37,q1 (([]:List Int) ++ v2)),(41,tI v3.f1),(43,tI (v2.length:Int))],hp15 v3⟩ ?_ (zz rfl) trivial ?_ ?_
     ·kernel_rfl
     ·refine AAny.go (by kernel_rfl) [17] (fuel':=3) rfl [] #[y1,y1,y1,y1,y1,y1,y1,y1,y1,y1,y1,y1,y1,y1,y1,y1,y1,y1,n1,n1,n1] [27,34,37,44] 1 ⟨[(27,.pc 0 0),(34,tI (w64 ((w64 (v1 - (1:Int))) * v3.f1))),(37,q1 (([]:List Int) ++ v2)),(44,tI (w64 (v3.f1 - (v2.length:Int))))],hp15 v3⟩ ?_ (zz rfl) trivial ?_
      ·kernel_rfl
      exact n8_
     exact AEach.nil
    refine AAny.share 6 #[y1,y1,y1,y1,y1,y1,n1,n1,y1,y1,n1,y1,y1,y1,y1,y1,y1,y1,n1,n1,n1] ⟨[(27,.pc 0 0),(29,tI (w64 (v1 - (1:Int)))),(32,.pc 0 1),(35,q1 ([]:List Int)),(36,q0 v2),(44,tI (w64 (v3.f1 - (v2.length:Int))))],hp15 v3⟩ ?_ fun n5_=>?_
    ·refine AAny.each [6,10] (by kernel_rfl) rfl ?_
     refine AEach.step (i:=6) [] #[y1,y1,y1,y1,y1,y1,y1,n1,y1,y1,n1,y1,y1,y1,y1,y1,y1,y1,n1,n1,n1] rfl [27,29,33,35,36,44] 1 ⟨[(27,.pc 0 0),(29,tI (w64 (v1 - (1:Int)))),(33,tI v3.f1),(35,q1 ([]:List Int)),(36,q0 v2),(44,tI (w64 (v3.f1 - (v2.length:Int))))],hp15 v3⟩ ?_ (zz rfl) trivial ?_ ?_
     ·kernel_rfl
     ·refine AAny.go (by kernel_rfl) [7] (fuel':=4) rfl [] #[y1,y1,y1,y1,y1,y1,y1,y1,y1,y1,n1,y1,y1,y1,y1,y1,y1,y1,n1,n1,n1] [27,34,35,36,44] 1 ⟨[(27,.pc 0 0),(34,tI (w64 ((w64 (v1 - (1:Int))) * v3.f1))),(35,q1 ([]:List Int)),(36,q0 v2),(44,tI (w64 (v3.f1 - (v2.length:Int))))],hp15 v3⟩ ?_ (zz rfl) trivial ?_
      ·kernel_rfl
      exact n6_
     refine AEach.step (i:=10) [(([]:List Int).length + v2.length) * 1 ≤ 140737488355328,PlainTo (([]:List Int).length) (fun i=>(cInt .u8) (([]:List Int).getD i default)),PlainTo v2.length (fun i=>(cInt .u8) (v2.getD i default))] #[y1,y1,y1,y1,y1,y1,n1,n1,y1,y1,y1,y1,y1,y1,y1,y1,y1,y1,n1,n1,n1] rfl [27,29,32,37,44] 1 ⟨[(27,.pc 0 0),(29,tI (w64 (v1 - (1:Int)))),(32,.pc 0 1),(37,.tv (.own 1 5 (([]:List Int).length + v2.length) (appF (([]:List Int).length) (fun i=>(cInt .u8) (([]:List Int).getD i default)) (fun i=>(cInt .u8) (v2.getD i default))))),(44,tI (w64 (v3.f1 - (v2.length:Int))))],hp15 v3⟩ ?_ (zz rfl) ⟨hd7,(fun _ _=>rfl),(fun _ _=>rfl)⟩ ?_ ?_
     ·kernel_rfl
     ·refine AAny.extL 37 (cInt .u8) (([]:List Int) ++ v2) rfl List.length_append.symm (app_at (cInt .u8) ([]:List Int) v2) ?_
      refine AAny.keepTo [27,29,32,37,44] 1 ⟨[(27,.pc 0 0),(29,tI (w64 (v1 - (1:Int)))),(32,.pc 0 1),(37,q1 (([]:List Int) ++ v2)),(44,tI (w64 (v3.f1 - (v2.length:Int))))],hp15 v3⟩ #[y1,y1,y1,y1,y1,y1,n1,n1,y1,y1,y1,y1,y1,y1,y1,y1,y1,y1,n1,n1,n1] ?_ rfl (zz rfl) ?_
      ·kernel_rfl
      exact n7_
     exact AEach.nil
    refine AAny.share 6 #[y1,y1,y1,y1,y1,y1,y1,y1,y1,y1,n1,y1,y1,y1,n1,y1,y1,n1,n1,n1,n1] ⟨[(27,.pc 0 0),(34,tI (w64 ((w64 (v1 - (1:Int))) * v3.f1))),(35,q1 ([]:List Int)),(36,q0 v2),(40,.pc 0 1),(43,tI (v2.length:Int))],hp15 v3⟩ ?_ fun n11_=>?_
    ·refine AAny.each [10,14] (by kernel_rfl) rfl ?_
     refine AEach.step (i:=10) [(([]:List Int).length + v2.length) * 1 ≤ 140737488355328,PlainTo (([]:List Int).length) (fun i=>(cInt .u8) (([]:List Int).getD i default)),PlainTo v2.length (fun i=>(cInt .u8) (v2.getD i default))] #[y1,y1,y1,y1,y1,y1,y1,y1,y1,y1,y1,y1,y1,y1,n1,y1,y1,n1,n1,n1,n1] rfl [27,34,37,40,43] 1 ⟨[(27,.pc 0 0),(34,tI (w64 ((w64 (v1 - (1:Int))) * v3.f1))),(37,.tv (.own 1 5 (([]:List Int).length + v2.length) (appF (([]:List Int).length) (fun i=>(cInt .u8) (([]:List Int).getD i default)) (fun i=>(cInt .u8) (v2.getD i default))))),(40,.pc 0 1),(43,tI (v2.length:Int))],hp15 v3⟩ ?_ (zz rfl) ⟨hd7,(fun _ _=>rfl),(fun _ _=>rfl)⟩ ?_ ?_
     ·kernel_rfl
     ·refine AAny.extL 37 (cInt .u8) (([]:List Int) ++ v2) rfl List.length_append.symm (app_at (cInt .u8) ([]:List Int) v2) ?_
      refine AAny.keepTo [27,34,37,40,43] 1 ⟨[(27,.pc 0 0),(34,tI (w64 ((w64 (v1 - (1:Int))) * v3.f1))),(37,q1 (([]:List Int) ++ v2)),(40,.pc 0 1),(43,tI (v2.length:Int))],hp15 v3⟩ #[y1,y1,y1,y1,y1,y1,y1,y1,y1,y1,y1,y1,y1,y1,n1,y1,y1,n1,n1,n1,n1] ?_ rfl (zz rfl) ?_
      ·kernel_rfl
      exact n13_
     refine AEach.step (i:=14) [] #[y1,y1,y1,y1,y1,y1,y1,y1,y1,y1,n1,y1,y1,y1,y1,y1,y1,n1,n1,n1,n1] rfl [27,34,35,36,41,43] 1 ⟨[(27,.pc 0 0),(34,tI (w64 ((w64 (v1 - (1:Int))) * v3.f1))),(35,q1 ([]:List Int)),(36,q0 v2),(41,tI v3.f1),(43,tI (v2.length:Int))],hp15 v3⟩ ?_ (zz rfl) trivial ?_ ?_
     ·kernel_rfl
     ·refine AAny.go (by kernel_rfl) [17] (fuel':=4) rfl [] #[y1,y1,y1,y1,y1,y1,y1,y1,y1,y1,n1,y1,y1,y1,y1,y1,y1,y1,n1,n1,n1] [27,34,35,36,44] 1 ⟨[(27,.pc 0 0),(34,tI (w64 ((w64 (v1 - (1:Int))) * v3.f1))),(35,q1 ([]:List Int)),(36,q0 v2),(44,tI (w64 (v3.f1 - (v2.length:Int))))],hp15 v3⟩ ?_ (zz rfl) trivial ?_
      ·kernel_rfl
      exact n6_
     exact AEach.nil
    refine AAny.share 7 #[y1,y1,y1,y1,y1,y1,n1,n1,n1,y1,n1,y1,y1,y1,y1,y1,y1,y1,n1,n1,n1] ⟨[(27,.pc 0 0),(29,tI (w64 (v1 - (1:Int)))),(32,.pc 0 1),(36,q0 v2),(44,tI (w64 (v3.f1 - (v2.length:Int))))],hp15 v3⟩ ?_ fun n3_=>?_
    ·refine AAny.each [6,8] (by kernel_rfl) rfl ?_
     refine AEach.step (i:=6) [] #[y1,y1,y1,y1,y1,y1,y1,n1,n1,y1,n1,y1,y1,y1,y1,y1,y1,y1,n1,n1,n1] rfl [27,29,33,36,44] 1 ⟨[(27,.pc 0 0),(29,tI (w64 (v1 - (1:Int)))),(33,tI v3.f1),(36,q0 v2),(44,tI (w64 (v3.f1 - (v2.length:Int))))],hp15 v3⟩ ?_ (zz rfl) trivial ?_ ?_
     ·kernel_rfl
     ·refine AAny.go (by kernel_rfl) [7] (fuel':=5) rfl [] #[y1,y1,y1,y1,y1,y1,y1,y1,n1,y1,n1,y1,y1,y1,y1,y1,y1,y1,n1,n1,n1] [27,34,36,44] 1 ⟨[(27,.pc 0 0),(34,tI (w64 ((w64 (v1 - (1:Int))) * v3.f1))),(36,q0 v2),(44,tI (w64 (v3.f1 - (v2.length:Int))))],hp15 v3⟩ ?_ (zz rfl) trivial ?_
      ·kernel_rfl
      exact n4_
     refine AEach.step (i:=8) [] #[y1,y1,y1,y1,y1,y1,n1,n1,y1,y1,n1,y1,y1,y1,y1,y1,y1,y1,n1,n1,n1] rfl [27,29,32,35,36,44] 1 ⟨[(27,.pc 0 0),(29,tI (w64 (v1 - (1:Int)))),(32,.pc 0 1),(35,.tv (.own 1 5 0 (newRowF [] 1))),(36,q0 v2),(44,tI (w64 (v3.f1 - (v2.length:Int))))],hp15 v3⟩ ?_ (zz rfl) trivial ?_ ?_
     ·kernel_rfl
     ·refine AAny.extL 35 (cInt .u8) ([]:List Int) rfl rfl (row_at (cInt .u8) 1 (fun _=>rfl) ([]:List Int) _ rfl) ?_
      refine AAny.keepTo [27,29,32,35,36,44] 1 ⟨[(27,.pc 0 0),(29,tI (w64 (v1 - (1:Int)))),(32,.pc 0 1),(35,q1 ([]:List Int)),(36,q0 v2),(44,tI (w64 (v3.f1 - (v2.length:Int))))],hp15 v3⟩ #[y1,y1,y1,y1,y1,y1,n1,n1,y1,y1,n1,y1,y1,y1,y1,y1,y1,y1,n1,n1,n1] ?_ rfl (zz rfl) ?_
      ·kernel_rfl
      exact n5_
     exact AEach.nil
    refine AAny.share 7 #[y1,y1,y1,y1,y1,y1,n1,n1,y1,y1,y1,y1,y1,y1,n1,y1,y1,n1,n1,n1,n1] ⟨[(27,.pc 0 0),(29,tI (w64 (v1 - (1:Int)))),(32,.pc 0 1),(37,q1 (([]:List Int) ++ v2)),(40,.pc 0 1),(43,tI (v2.length:Int))],hp15 v3⟩ ?_ fun n12_=>?_
    ·refine AAny.each [6,14] (by kernel_rfl) rfl ?_
     refine AEach.step (i:=6) [] #[y1,y1,y1,y1,y1,y1,y1,n1,y1,y1,y1,y1,y1,y1,n1,y1,y1,n1,n1,n1,n1] rfl [27,29,33,37,40,43] 1 ⟨[(27,.pc 0 0),(29,tI (w64 (v1 - (1:Int)))),(33,tI v3.f1),(37,q1 (([]:List Int) ++ v2)),(40,.pc 0 1),(43,tI (v2.length:Int))],hp15 v3⟩ ?_ (zz rfl) trivial ?_ ?_
     ·kernel_rfl
     ·refine AAny.go (by kernel_rfl) [7] (fuel':=5) rfl [] #[y1,y1,y1,y1,y1,y1,y1,y1,y1,y1,y1,y1,y1,y1,n1,y1,y1,n1,n1,n1,n1] [27,34,37,40,43] 1 ⟨[(27,.pc 0 0),(34,tI (w64 ((w64 (v1 - (1:Int))) * v3.f1))),(37,q1 (([]:List Int) ++ v2)),(40,.pc 0 1),(43,tI (v2.length:Int))],hp15 v3⟩ ?_ (zz rfl) trivial ?_
      ·kernel_rfl
      exact n13_
     refine AEach.step (i:=14) [] #[y1,y1,y1,y1,y1,y1,n1,n1,y1,y1,y1,y1,y1,y1,y1,y1,y1,n1,n1,n1,n1] rfl [27,29,32,37,41,43] 1 ⟨[(27,.pc 0 0),(29,tI (w64 (v1 - (1:Int)))),(32,.pc 0 1),(37,q1 (([]:List Int) ++ v2)),(41,tI v3.f1),(43,tI (v2.length:Int))],hp15 v3⟩ ?_ (zz rfl) trivial ?_ ?_
     ·kernel_rfl
     ·refine AAny.go (by kernel_rfl) [17] (fuel':=5) rfl [] #[y1,y1,y1,y1,y1,y1,n1,n1,y1,y1,y1,y1,y1,y1,y1,y1,y1,y1,n1,n1,n1] [27,29,32,37,44] 1 ⟨[(27,.pc 0 0),(29,tI (w64 (v1 - (1:Int)))),(32,.pc 0 1),(37,q1 (([]:List Int) ++ v2)),(44,tI (w64 (v3.f1 - (v2.length:Int))))],hp15 v3⟩ ?_ (zz rfl) trivial ?_
      ·kernel_rfl
      exact n7_
     exact AEach.nil
    refine AAny.share 7 #[y1,y1,y1,y1,y1,y1,y1,y1,n1,y1,n1,y1,y1,y1,n1,y1,y1,n1,n1,n1,n1] ⟨[(27,.pc 0 0),(34,tI (w64 ((w64 (v1 - (1:Int))) * v3.f1))),(36,q0 v2),(40,.pc 0 1),(43,tI (v2.length:Int))],hp15 v3⟩ ?_ fun n1_=>?_
    ·refine AAny.each [8,14] (by kernel_rfl) rfl ?_
     refine AEach.step (i:=8) [] #[y1,y1,y1,y1,y1,y1,y1,y1,y1,y1,n1,y1,y1,y1,n1,y1,y1,n1,n1,n1,n1] rfl [27,34,35,36,40,43] 1 ⟨[(27,.pc 0 0),(34,tI (w64 ((w64 (v1 - (1:Int))) * v3.f1))),(35,.tv (.own 1 5 0 (newRowF [] 1))),(36,q0 v2),(40,.pc 0 1),(43,tI (v2.length:Int))],hp15 v3⟩ ?_ (zz rfl) trivial ?_ ?_
     ·kernel_rfl
     ·refine AAny.extL 35 (cInt .u8) ([]:List Int) rfl rfl (row_at (cInt .u8) 1 (fun _=>rfl) ([]:List Int) _ rfl) ?_
      refine AAny.keepTo [27,34,35,36,40,43] 1 ⟨[(27,.pc 0 0),(34,tI (w64 ((w64 (v1 - (1:Int))) * v3.f1))),(35,q1 ([]:List Int)),(36,q0 v2),(40,.pc 0 1),(43,tI (v2.length:Int))],hp15 v3⟩ #[y1,y1,y1,y1,y1,y1,y1,y1,y1,y1,n1,y1,y1,y1,n1,y1,y1,n1,n1,n1,n1] ?_ rfl (zz rfl) ?_
      ·kernel_rfl
      exact n11_
     refine AEach.step (i:=14) [] #[y1,y1,y1,y1,y1,y1,y1,y1,n1,y1,n1,y1,y1,y1,y1,y1,y1,n1,n1,n1,n1] rfl [27,34,36,41,43] 1 ⟨[(27,.pc 0 0),(34,tI (w64 ((w64 (v1 - (1:Int))) * v3.f1))),(36,q0 v2),(41,tI v3.f1),(43,tI (v2.length:Int))],hp15 v3⟩ ?_ (zz rfl) trivial ?_ ?_
     ·kernel_rfl
     ·refine AAny.go (by kernel_rfl) [17] (fuel':=5) rfl [] #[y1,y1,y1,y1,y1,y1,y1,y1,n1,y1,n1,y1,y1,y1,y1,y1,y1,y1,n1,n1,n1] [27,34,36,44] 1 ⟨[(27,.pc 0 0),(34,tI (w64 ((w64 (v1 - (1:Int))) * v3.f1))),(36,q0 v2),(44,tI (w64 (v3.f1 - (v2.length:Int))))],hp15 v3⟩ ?_ (zz rfl) trivial ?_
      ·kernel_rfl
      exact n4_
     exact AEach.nil
    refine AAny.share 8 #[y1,y1,y1,y1,y1,y1,n1,n1,y1,y1,n1,y1,y1,y1,n1,y1,y1,n1,n1,n1,n1] ⟨[(27,.pc 0 0),(29,tI (w64 (v1 - (1:Int)))),(32,.pc 0 1),(35,q1 ([]:List Int)),(36,q0 v2),(40,.pc 0 1),(43,tI (v2.length:Int))],hp15 v3⟩ ?_ fun n2_=>?_
    ·refine AAny.each [6,10,14] (by kernel_rfl) rfl ?_
     refine AEach.step (i:=6) [] #[y1,y1,y1,y1,y1,y1,y1,n1,y1,y1,n1,y1,y1,y1,n1,y1,y1,n1,n1,n1,n1] rfl [27,29,33,35,36,40,43] 1 ⟨[(27,.pc 0 0),(29,tI (w64 (v1 - (1:Int)))),(33,tI v3.f1),(35,q1 ([]:List Int)),(36,q0 v2),(40,.pc 0 1),(43,tI (v2.length:Int))],hp15 v3⟩ ?_ (zz rfl) trivial ?_ ?_
     ·kernel_rfl
     ·refine AAny.go (by kernel_rfl) [7] (fuel':=6) rfl [] #[y1,y1,y1,y1,y1,y1,y1,y1,y1,y1,n1,y1,y1,y1,n1,y1,y1,n1,n1,n1,n1] [27,34,35,36,40,43] 1 ⟨[(27,.pc 0 0),(34,tI (w64 ((w64 (v1 - (1:Int))) * v3.f1))),(35,q1 ([]:List Int)),(36,q0 v2),(40,.pc 0 1),(43,tI (v2.length:Int))],hp15 v3⟩ ?_ (zz rfl) trivial ?_
      ·kernel_rfl
      exact n11_
     refine AEach.step (i:=10) [(([]:List Int).length + v2.length) * 1 ≤ 140737488355328,PlainTo (([]:List Int).length) (fun i=>(cInt .u8) (([]:List Int).getD i default)),PlainTo v2.length (fun i=>(cInt .u8) (v2.getD i default))] #[y1,y1,y1,y1,y1,y1,n1,n1,y1,y1,y1,y1,y1,y1,n1,y1,y1,n1,n1,n1,n1] rfl [27,29,32,37,40,43] 1 ⟨[(27,.pc 0 0),(29,tI (w64 (v1 - (1:Int)))),(32,.pc 0 1),(37,.tv (.own 1 5 (([]:List Int).length + v2.length) (appF (([]:List Int).length) (fun i=>(cInt .u8) (([]:List Int).getD i default)) (fun i=>(cInt .u8) (v2.getD i default))))),(40,.pc 0 1),(43,tI (v2.length:Int))],hp15 v3⟩ ?_ (zz rfl) ⟨hd7,(fun _ _=>rfl),(fun _ _=>rfl)⟩ ?_ ?_
     ·kernel_rfl
     ·refine AAny.extL 37 (cInt .u8) (([]:List Int) ++ v2) rfl List.length_append.symm (app_at (cInt .u8) ([]:List Int) v2) ?_
      refine AAny.keepTo [27,29,32,37,40,43] 1 ⟨[(27,.pc 0 0),(29,tI (w64 (v1 - (1:Int)))),(32,.pc 0 1),(37,q1 (([]:List Int) ++ v2)),(40,.pc 0 1),(43,tI (v2.length:Int))],hp15 v3⟩ #[y1,y1,y1,y1,y1,y1,n1,n1,y1,y1,y1,y1,y1,y1,n1,y1,y1,n1,n1,n1,n1] ?_ rfl (zz rfl) ?_
      ·kernel_rfl
      exact n12_
     refine AEach.step (i:=14) [] #[y1,y1,y1,y1,y1,y1,n1,n1,y1,y1,n1,y1,y1,y1,y1,y1,y1,n1,n1,n1,n1] rfl [27,29,32,35,36,41,43] 1 ⟨[(27,.pc 0 0),(29,tI (w64 (v1 - (1:Int)))),(32,.pc 0 1),(35,q1 ([]:List Int)),(36,q0 v2),(41,tI v3.f1),(43,tI (v2.length:Int))],hp15 v3⟩ ?_ (zz rfl) trivial ?_ ?_
     ·kernel_rfl
     ·refine AAny.go (by kernel_rfl) [17] (fuel':=6) rfl [] #[y1,y1,y1,y1,y1,y1,n1,n1,y1,y1,n1,y1,y1,y1,y1,y1,y1,y1,n1,n1,n1] [27,29,32,35,36,44] 1 ⟨[(27,.pc 0 0),(29,tI (w64 (v1 - (1:Int)))),(32,.pc 0 1),(35,q1 ([]:List Int)),(36,q0 v2),(44,tI (w64 (v3.f1 - (v2.length:Int))))],hp15 v3⟩ ?_ (zz rfl) trivial ?_
      ·kernel_rfl
      exact n5_
     exact AEach.nil
    refine AAny.each [6,8,14] (by kernel_rfl) rfl ?_
    refine AEach.step (i:=6) [] #[y1,y1,y1,y1,y1,y1,y1,n1,n1,y1,n1,y1,y1,y1,n1,y1,y1,n1,n1,n1,n1] rfl [27,29,33,36,40,43] 1 ⟨[(27,.pc 0 0),(29,tI (w64 (v1 - (1:Int)))),(33,tI v3.f1),(36,q0 v2),(40,.pc 0 1),(43,tI (v2.length:Int))],hp15 v3⟩ ?_ (zz rfl) trivial ?_ ?_
    ·kernel_rfl
    ·refine AAny.go (by kernel_rfl) [7] (fuel':=7) rfl [] #[y1,y1,y1,y1,y1,y1,y1,y1,n1,y1,n1,y1,y1,y1,n1,y1,y1,n1,n1,n1,n1] [27,34,36,40,43] 1 ⟨[(27,.pc 0 0),(34,tI (w64 ((w64 (v1 - (1:Int))) * v3.f1))),(36,q0 v2),(40,.pc 0 1),(43,tI (v2.length:Int))],hp15 v3⟩ ?_ (zz rfl) trivial ?_
     ·kernel_rfl
     exact n1_
    refine AEach.step (i:=8) [] #[y1,y1,y1,y1,y1,y1,n1,n1,y1,y1,n1,y1,y1,y1,n1,y1,y1,n1,n1,n1,n1] rfl [27,29,32,35,36,40,43] 1 ⟨[(27,.pc 0 0),(29,tI (w64 (v1 - (1:Int)))),(32,.pc 0 1),(35,.tv (.own 1 5 0 (newRowF [] 1))),(36,q0 v2),(40,.pc 0 1),(43,tI (v2.length:Int))],hp15 v3⟩ ?_ (zz rfl) trivial ?_ ?_
    ·kernel_rfl
    ·refine AAny.extL 35 (cInt .u8) ([]:List Int) rfl rfl (row_at (cInt .u8) 1 (fun _=>rfl) ([]:List Int) _ rfl) ?_
     refine AAny.keepTo [27,29,32,35,36,40,43] 1 ⟨[(27,.pc 0 0),(29,tI (w64 (v1 - (1:Int)))),(32,.pc 0 1),(35,q1 ([]:List Int)),(36,q0 v2),(40,.pc 0 1),(43,tI (v2.length:Int))],hp15 v3⟩ #[y1,y1,y1,y1,y1,y1,n1,n1,y1,y1,n1,y1,y1,y1,n1,y1,y1,n1,n1,n1,n1] ?_ rfl (zz rfl) ?_
     ·kernel_rfl
     exact n2_
    refine AEach.step (i:=14) [] #[y1,y1,y1,y1,y1,y1,n1,n1,n1,y1,n1,y1,y1,y1,y1,y1,y1,n1,n1,n1,n1] rfl [27,29,32,36,41,43] 1 ⟨[(27,.pc 0 0),(29,tI (w64 (v1 - (1:Int)))),(32,.pc 0 1),(36,q0 v2),(41,tI v3.f1),(43,tI (v2.length:Int))],hp15 v3⟩ ?_ (zz rfl) trivial ?_ ?_
    ·kernel_rfl
    ·refine AAny.go (by kernel_rfl) [17] (fuel':=7) rfl [] #[y1,y1,y1,y1,y1,y1,n1,n1,n1,y1,n1,y1,y1,y1,y1,y1,y1,y1,n1,n1,n1] [27,29,32,36,44] 1 ⟨[(27,.pc 0 0),(29,tI (w64 (v1 - (1:Int)))),(32,.pc 0 1),(36,q0 v2),(44,tI (w64 (v3.f1 - (v2.length:Int))))],hp15 v3⟩ ?_ (zz rfl) trivial ?_
     ·kernel_rfl
     exact n3_
    exact AEach.nil
 ·replace h:=of_false h hb
  refine AWp.keepTo [0,1,2,11] 1 ⟨[(0,.pc 0 0),(1,tI v1),(2,q0 v2),(11,tS v3.f0)],hp15 v3⟩ ?_ (zz rfl) ?_
  ·kernel_rfl
  refine AWp.seq ?_
  refine AWp.start [0,1] [] [] [0,1,2,47] 1 ⟨[(0,.pc 0 0),(1,tI v1),(2,q0 v2),(47,tB (v3.f0 == ([115,116,114,101,97,109]:List UInt8)))],hp15 v3⟩ rfl ?_ (zz rfl) trivial ?_
  ·kernel_rfl
  refine AOps.nil ?_
  refine AWp.cond rfl (fun hb=>?_) fun hb=>?_
  ·replace h:=of_true h hb
   refine AWp.keepTo [0,1,2] 1 ⟨[(0,.pc 0 0),(1,tI v1),(2,q0 v2)],hp15 v3⟩ ?_ (zz rfl) ?_
   ·kernel_rfl
   refine AWp.seq ?_
   refine AWp.seq ?_
   refine AWp.start [0,1] [] [] [0,1,2,50] 1 ⟨[(0,.pc 0 0),(1,tI v1),(2,q0 v2),(50,tB (decide (v1 < (0:Int))))],hp15 v3⟩ rfl ?_ (zz rfl) trivial ?_
   ·kernel_rfl
   refine AOps.nil ?_
   refine AWp.cond rfl (fun hb=>?_) fun hb=>?_
   ·replace h:=of_true h hb
    refine AWp.keepTo [] 1 ⟨[],hp15 v3⟩ ?_ (zz rfl) ?_
    ·kernel_rfl
    refine AWp.seq ?_
    refine AWp.start [0] [] [] [6] 1 ⟨[(6,tI (2:Int))],hp15 v3⟩ rfl ?_ (zz rfl) trivial ?_
    ·kernel_rfl
    refine AOps.nil ?_
    refine AWp.ret ?_
    cases h
    exact ⟨.inr rfl,rfl⟩
   ·replace h:=of_false h hb
    refine AWp.keepTo [0,1,2] 1 ⟨[(0,.pc 0 0),(1,tI v1),(2,q0 v2)],hp15 v3⟩ ?_ (zz rfl) ?_
    ·kernel_rfl
    refine AWp.skip ?_
    refine AWp.join (V:=Int) (fun w=>⟨[(0,.pc 0 0),(1,tI w),(2,q0 v2)],hp15 v3⟩) (fun w=>f54o_j2 v2 v3 w = some r) ?_ ?_
    ·refine AWp.seq ?_
     refine AWp.start [0,1] [] [] [0,1,2,52] 1 ⟨[(0,.pc 0 0),(1,tI v1),(2,q0 v2),(52,tB (v1 == (0:Int)))],hp15 v3⟩ rfl ?_ (zz rfl) trivial ?_
     ·kernel_rfl
     refine AOps.nil ?_
     refine AWp.cond rfl (fun hb=>?_) fun hb=>?_
     ·replace h:=of_true h hb
      refine AWp.keepTo [0,2] 1 ⟨[(0,.pc 0 0),(2,q0 v2)],hp15 v3⟩ ?_ (zz rfl) ?_
      ·kernel_rfl
      refine AWp.start [0,1,2,3,4] [] [] [0,1,2] 1 ⟨[(0,.pc 0 0),(1,tI v3.f4),(2,q0 v2)],hp15 v3⟩ rfl ?_ (zz rfl) trivial ?_
      ·kernel_rfl
      refine AOps.nil ?_
      exact ⟨v3.f4,h,rfl⟩
     ·replace h:=of_false h hb
      refine AWp.keepTo [0,1,2] 1 ⟨[(0,.pc 0 0),(1,tI v1),(2,q0 v2)],hp15 v3⟩ ?_ (zz rfl) ?_
      ·kernel_rfl
      refine AWp.skip ?_
      exact ⟨v1,h,rfl⟩
    ·rintro v6 h
     refine AWp.seq ?_
     refine AWp.seq ?_
     refine AWp.start [0,1] [] [] [0,1,2,58] 1 ⟨[(0,.pc 0 0),(1,tI v6),(2,q0 v2),(58,tB (decide (v6 > (20001:Int))))],hp15 v3⟩ rfl ?_ (zz rfl) trivial ?_
     ·kernel_rfl
     refine AOps.nil ?_
     refine AWp.cond rfl (fun hb=>?_) fun hb=>?_
     ·replace h:=of_true h hb
      refine AWp.keepTo [] 1 ⟨[],hp15 v3⟩ ?_ (zz rfl) ?_
      ·kernel_rfl
      refine AWp.seq ?_
      refine AWp.start [0] [] [] [6] 1 ⟨[(6,tI (4:Int))],hp15 v3⟩ rfl ?_ (zz rfl) trivial ?_
      ·kernel_rfl
      refine AOps.nil ?_
      refine AWp.ret ?_
      cases h
      exact ⟨.inr rfl,rfl⟩
     ·replace h:=of_false h hb
      refine AWp.keepTo [0,1,2] 1 ⟨[(0,.pc 0 0),(1,tI v6),(2,q0 v2)],hp15 v3⟩ ?_ (zz rfl) ?_
      ·kernel_rfl
      refine AWp.skip ?_
      refine AWp.seq ?_
      refine AWp.start [0,1,2,3] [4,5] [] [0,1,2,59,61,62] 1 ⟨[(0,.pc 0 0),(1,tI v6),(2,q0 v2),(59,.pc 0 0),(61,tI (w64 (v6 - (1:Int)))),(62,q0 v2)],hp15 v3⟩ rfl ?_ (zz rfl) trivial ?_
      ·kernel_rfl
      obtain ⟨v7,hv7,h⟩:=of_bind h
      refine AOps.cons (AOne.callO (F:=(FF 74 1)) _ rfl rfl rfl 63 rfl rfl 63 [] rfl Try.call63 [0] (by decide) [.pc 0 0,tI (w64 (v6 - (1:Int))),q0 v2] (by kernel_rfl) [.cells 79 [.str v3.f0,.int .i64 v3.f1,fzL 1 (cSl 1 (cInt .u8)) v3.f2,.bool v3.f3,.int .i64 v3.f4,.bool v3.f5,k1 v3.f6]] (by kernel_rfl) (f63o_ok (w64 (v6 - (1:Int))) v2 (T78.mk v3.f0 v3.f1 v3.f2 v3.f3 v3.f4 v3.f5 v3.f6) hv7) (by kernel_rfl) (by kernel_rfl) _ rfl) ?_
      refine AOps.go [5] [] [] [0,1,2,7] 1 ⟨[(0,.pc 0 0),(1,tI v6),(2,q0 v2),(7,tI v7.1)],hp16 v7⟩ ?_ (zz rfl) trivial ?_
      ·kernel_rfl
      refine AOps.nil ?_
      refine AWp.join (V:=Int) (fun w=>⟨[(7,tI v7.1)],[.cells 79 [.str v7.2.f0,.int .i64 v7.2.f1,fzL 1 (cSl 1 (cInt .u8)) v7.2.f2,.bool v7.2.f3,.int .i64 w,.bool v7.2.f5,k1 v7.2.f6]]⟩) (fun w=>f54o_j1 v7 w = some r) ?_ ?_
      ·refine AWp.seq ?_
       refine AWp.start [0,1] [] [] [0,1,2,7,65] 1 ⟨[(0,.pc 0 0),(1,tI v6),(2,q0 v2),(7,tI v7.1),(65,tB (v7.1 == (0:Int)))],hp16 v7⟩ rfl ?_ (zz rfl) trivial ?_
       ·kernel_rfl
       refine AOps.nil ?_
       refine AWp.cond rfl (fun hb=>?_) fun hb=>?_
       ·replace h:=of_true h hb
        refine AWp.keepTo [0,1,2,7] 1 ⟨[(0,.pc 0 0),(1,tI v6),(2,q0 v2),(7,tI v7.1)],hp16 v7⟩ ?_ (zz rfl) ?_
        ·kernel_rfl
        refine AWp.start [0,1,2,3,4,5,6,7] [] [] [7] 1 ⟨[(7,tI v7.1)],[.cells 79 [.str v7.2.f0,.int .i64 v7.2.f1,fzL 1 (cSl 1 (cInt .u8)) v7.2.f2,.bool v7.2.f3,.int .i64 (w64 (v6 + (v2.length:Int))),.bool v7.2.f5,k1 v7.2.f6]]⟩ rfl ?_ (zz rfl) trivial ?_
        ·kernel_rfl
        refine AOps.nil ?_
        exact ⟨w64 (v6 + (v2.length:Int)),h,rfl⟩
       ·replace h:=of_false h hb
        refine AWp.keepTo [7] 1 ⟨[(7,tI v7.1)],hp16 v7⟩ ?_ (zz rfl) ?_
        ·kernel_rfl
        refine AWp.skip ?_
        exact ⟨v7.2.f4,h,rfl⟩
      ·rintro v8 h
       refine AWp.seq ?_
       refine AWp.start [0,1] [] [] [6] 1 ⟨[(6,tI v7.1)],[.cells 79 [.str v7.2.f0,.int .i64 v7.2.f1,fzL 1 (cSl 1 (cInt .u8)) v7.2.f2,.bool v7.2.f3,.int .i64 v8,.bool v7.2.f5,k1 v7.2.f6]]⟩ rfl ?_ (zz rfl) trivial ?_
       ·kernel_rfl
       refine AOps.nil ?_
       refine AWp.ret ?_
       cases h
       exact ⟨.inr rfl,rfl⟩
  ·replace h:=of_false h hb
   refine AWp.keepTo [] 1 ⟨[],hp15 v3⟩ ?_ (zz rfl) ?_
   ·kernel_rfl
   refine AWp.skip ?_
   refine AWp.seq ?_
   refine AWp.start [0] [] [] [6] 1 ⟨[(6,tI (110:Int))],hp15 v3⟩ rfl ?_ (zz rfl) trivial ?_
   ·kernel_rfl
   refine AOps.nil ?_
   refine AWp.ret ?_
   cases h
   exact ⟨.inr rfl,rfl⟩

end Go.Sx.unit
