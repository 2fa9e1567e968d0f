/- Printed by program (wip/gen): plain functions and their walks; no condition. -/
import Derived.Test.YtdmpmbcnfoionaaGx2
namespace Go.Sx.unit
open Go Go.Sx Go.Proofs

abbrev hp8 (v2:T78):List AObj:=[.cells 79 [.str v2.f0,.int .i64 v2.f1,fzL 1 (cSl 1 (cInt .u8)) v2.f2,.bool v2.f3,.int .i64 v2.f4,.bool v2.f5,k1 v2.f6]]
abbrev hp9 (v1:List Int) (v2:T78):List AObj:=[.cells 79 [.str v2.f0,.int .i64 v2.f1,fzL 1 (cSl 1 (cInt .u8)) v2.f2,.bool v2.f3,.int .i64 v2.f4,.bool v2.f5,k1 v2.f6],.cells 79 [.str v2.f0,.int .i64 (0:Int),fzL 1 (cSl 1 (cInt .u8)) ((([]:List (List Int)) ++ ((v2.f2.take (Int.toNat v2.f4)).drop 0)) ++ ([([]:List Int) ++ v1])),.bool false,.int .i64 (0:Int),.bool false,nS]]

noncomputable def f52o_b1 (v1:List Int) (v2:T78) (v4:Int):Option (Int ⊕ Out (Int × T78) Unit) :=
 cond (decide (v4 < (v1.length:Int))) ((cond (v2.f0 == ([108,105,110,101,115]:List UInt8)) (if (0:Int) ≤ v4 ∧ v4 < (v1.length:Int) then some (v1.getD v4.toNat default == (10:Int)) else none) (some false)).bind fun v5=>cond v5 (some (.inr (.ret ((2:Int),T78.mk v2.f0 v2.f1 v2.f2 v2.f3 v2.f4 v2.f5 v2.f6)))) (some (.inl (w64 (v4 + (1:Int)))))) (some (.inr (.go ())))

noncomputable def f52o (v1:List Int) (v2:T78):Option (Int × T78) :=
 (f46 v2).bind fun v3=>cond (!v3) (some ((110:Int),T78.mk v2.f0 v2.f1 v2.f2 v2.f3 v2.f4 v2.f5 v2.f6)) (cond (decide ((v1.length:Int) > (1000:Int))) (some ((2:Int),T78.mk v2.f0 v2.f1 v2.f2 v2.f3 v2.f4 v2.f5 v2.f6)) ((iter (fun s=>f52o_b1 v1 v2 s) (0:Int)).bind fun y=>match y with | .ret v6=>some v6 | .go _=>cond v2.f5 (some ((110:Int),T78.mk v2.f0 v2.f1 v2.f2 v2.f3 v2.f4 v2.f5 v2.f6)) (if (0:Int) ≤ v2.f4 ∧ v2.f4 ≤ (v2.f2.length:Int) then if (([]:List (List Int)).length + ((v2.f2.take (Int.toNat v2.f4)).drop 0).length) * 24 ≤ 140737488355328 then if (([]:List Int).length + v1.length) * 1 ≤ 140737488355328 then if ((([]:List (List Int)) ++ ((v2.f2.take (Int.toNat v2.f4)).drop 0)).length + ([([]:List Int) ++ v1]).length) * 24 ≤ 140737488355328 then (f50o (T78.mk v2.f0 (0:Int) ((([]:List (List Int)) ++ ((v2.f2.take (Int.toNat v2.f4)).drop 0)) ++ ([([]:List Int) ++ v1])) false (0:Int) false ([]:List Int))).bind fun v7=>cond (decide ((v7.length:Int) > (20000:Int))) (some ((4:Int),T78.mk v2.f0 v2.f1 v2.f2 v2.f3 v2.f4 v2.f5 v2.f6)) (some ((0:Int),T78.mk v2.f0 v2.f1 ((([]:List (List Int)) ++ ((v2.f2.take (Int.toNat v2.f4)).drop 0)) ++ ([([]:List Int) ++ v1])) false (w64 (v2.f4 + (1:Int))) v2.f5 v2.f6)) else none else none else none else none)))

theorem f52o_ok (v1:List Int) (v2:T78) {r:Int × T78} (h:f52o v1 v2 = some r):ACall Try.prog 52 [.pc 0 0,.tv (fzL 1 (cInt .u8) v1)] [.cells 79 [.str v2.f0,.int .i64 v2.f1,fzL 1 (cSl 1 (cInt .u8)) v2.f2,.bool v2.f3,.int .i64 v2.f4,.bool v2.f5,ownL 1 5 (cInt .u8) v2.f6]] (.tv (.int .i64 r.1)) [.cells 79 [.str r.2.f0,.int .i64 r.2.f1,fzL 1 (cSl 1 (cInt .u8)) r.2.f2,.bool r.2.f3,.int .i64 r.2.f4,.bool r.2.f5,ownL 1 5 (cInt .u8) r.2.f6]]:=by
 refine ACall.of1 (FF 78 1) Try.func52 rfl Try.ntmps52 Try.results52 (zz rfl) rfl rfl ?_
 refine AWp.seq ?_
 refine AWp.start [0] [] [] [0,1] 1 ⟨[(0,.pc 0 0),(1,q0 v1)],hp8 v2⟩ rfl ?_ (zz rfl) trivial ?_
 ·kernel_rfl
 refine AOps.nil ?_
 refine AWp.seq ?_
 refine AWp.seq ?_
 refine AWp.start [0] [1,2] [] [0,1,7] 1 ⟨[(0,.pc 0 0),(1,q0 v1),(7,.pc 0 0)],hp8 v2⟩ rfl ?_ (zz rfl) trivial ?_
 ·kernel_rfl
 obtain ⟨v3,hv3,h⟩:=of_bind h
 refine AOps.cons (AOne.callR (F:=(FF 78 1)) _ rfl rfl rfl _ rfl rfl _ _ rfl Try.call46 [PlainTo v2.f6.length (fun i=>(cInt .u8) (v2.f6.getD i default))] [.rp (c78 v2)] rfl (fun _ _=>rfl) (f46_ok v2 hv3) (ind_of rfl) rfl) ?_
 refine AOps.go [2] [] [] [0,1,9] 1 ⟨[(0,.pc 0 0),(1,q0 v1),(9,tB (!v3))],hp8 v2⟩ ?_ (zz rfl) trivial ?_
 ·kernel_rfl
 refine AOps.nil ?_
 refine AWp.cond rfl (fun hb=>?_) fun hb=>?_
 ·replace h:=of_true h hb
  refine AWp.keepTo [] 1 ⟨[],hp8 v2⟩ ?_ (zz rfl) ?_
  ·kernel_rfl
  refine AWp.seq ?_
  refine AWp.start [0] [] [] [4] 1 ⟨[(4,tI (110:Int))],hp8 v2⟩ rfl ?_ (zz rfl) trivial ?_
  ·kernel_rfl
  refine AOps.nil ?_
  refine AWp.ret ?_
  cases h
  exact ⟨.inr rfl,rfl⟩
 ·replace h:=of_false h hb
  refine AWp.keepTo [0,1] 1 ⟨[(0,.pc 0 0),(1,q0 v1)],hp8 v2⟩ ?_ (zz rfl) ?_
  ·kernel_rfl
  refine AWp.skip ?_
  refine AWp.seq ?_
  refine AWp.seq ?_
  refine AWp.start [0,1,2] [] [] [0,1,12] 1 ⟨[(0,.pc 0 0),(1,q0 v1),(12,tB (decide ((v1.length:Int) > (1000:Int))))],hp8 v2⟩ rfl ?_ (zz rfl) trivial ?_
  ·kernel_rfl
  refine AOps.nil ?_
  refine AWp.cond rfl (fun hb=>?_) fun hb=>?_
  ·replace h:=of_true h hb
   refine AWp.keepTo [] 1 ⟨[],hp8 v2⟩ ?_ (zz rfl) ?_
   ·kernel_rfl
   refine AWp.seq ?_
   refine AWp.start [0] [] [] [4] 1 ⟨[(4,tI (2:Int))],hp8 v2⟩ rfl ?_ (zz rfl) trivial ?_
   ·kernel_rfl
   refine AOps.nil ?_
   refine AWp.ret ?_
   cases h
   exact ⟨.inr rfl,rfl⟩
  ·replace h:=of_false h hb
   refine AWp.keepTo [0,1] 1 ⟨[(0,.pc 0 0),(1,q0 v1)],hp8 v2⟩ ?_ (zz rfl) ?_
   ·kernel_rfl
   refine AWp.skip ?_
   refine AWp.seq ?_
   refine AWp.seq ?_
   refine AWp.start [0] [] [] [0,1,5] 1 ⟨[(0,.pc 0 0),(1,q0 v1),(5,tI (0:Int))],hp8 v2⟩ rfl ?_ (zz rfl) trivial ?_
   ·kernel_rfl
   refine AOps.nil ?_
   refine AWp.block ?_
   obtain ⟨y,hy,h⟩:=of_bind h
   refine AWp.mono (AWp.loop (S:=Int) (Y:=Out (Int × T78) Unit) (fun s=>⟨[(0,.pc 0 0),(1,q0 v1),(5,tI s)],hp8 v2⟩) (fun s=>f52o_b1 v1 v2 s) (fun y e σ=>match y with | .ret r=>e = .ret ∧ σ = ⟨[(4,tI r.1)],[.cells 79 [.str r.2.f0,.int .i64 r.2.f1,fzL 1 (cSl 1 (cInt .u8)) r.2.f2,.bool r.2.f3,.int .i64 r.2.f4,.bool r.2.f5,k1 r.2.f6]]⟩ | .go v=>e = .exit 0 ∧ σ = ⟨[(0,.pc 0 0),(1,q0 v1)],hp8 v2⟩) ?_ hy) ?_
   ·rintro v4 o h
    refine AWp.seq ?_
    refine AWp.seq ?_
    refine AWp.start [0,1,2,3] [] [] [0,1,5,16] 1 ⟨[(0,.pc 0 0),(1,q0 v1),(5,tI v4),(16,tB (decide (v4 < (v1.length:Int))))],hp8 v2⟩ rfl ?_ (zz rfl) trivial ?_
    ·kernel_rfl
    refine AOps.nil ?_
    refine AWp.cond rfl (fun hb=>?_) fun hb=>?_
    ·replace h:=of_true h hb
     refine AWp.keepTo [0,1,5] 1 ⟨[(0,.pc 0 0),(1,q0 v1),(5,tI v4)],hp8 v2⟩ ?_ (zz rfl) ?_
     ·kernel_rfl
     refine AWp.skip ?_
     refine AWp.seq ?_
     refine AWp.block ?_
     refine AWp.seq ?_
     refine AWp.start [0,1,2,3,4,5] [6,7,8,9,10,11] [] [0,1,5,24] 1 ⟨[(0,.pc 0 0),(1,q0 v1),(5,tI v4),(24,tB (v2.f0 == ([108,105,110,101,115]:List UInt8)))],hp8 v2⟩ rfl ?_ (zz rfl) trivial ?_
     ·kernel_rfl
     obtain ⟨v5,hc6,h⟩:=of_bind h
     refine AOps.cut [6,7,8,9,10,11] [] (fun σ=>σ = ⟨[(0,.pc 0 0),(1,q0 v1),(5,tI v4),(30,tB v5)],hp8 v2⟩) ?_ fun σ' hJ=>?_
     ·refine AOps.split (fun b=>⟨[(0,.pc 0 0),(1,q0 v1),(5,tI v4),(24,tB b)],hp8 v2⟩) _ (fun hb=>?_) fun hb=>?_
      ·replace hc6:=of_true hc6 hb
       obtain ⟨hg,hc6⟩:=of_guard hc6
       refine AOps.go [6,7,8,9,10,11] [] [(0:Int) ≤ v4,v4 < (v1.length:Int)] [0,1,5,30] 1 ⟨[(0,.pc 0 0),(1,q0 v1),(5,tI v4),(30,tB (gD v1 v4 == (10:Int)))],hp8 v2⟩ ?_ (zz rfl) ⟨hg.1,hg.2⟩ ?_
       ·kernel_rfl
       cases hc6
       exact AOps.nil rfl
      ·replace hc6:=of_false hc6 hb
       refine AOps.go [6,7,8,9,10,11] [] [] [0,1,5,30] 1 ⟨[(0,.pc 0 0),(1,q0 v1),(5,tI v4),(30,tB false)],hp8 v2⟩ ?_ (zz rfl) trivial ?_
       ·kernel_rfl
       cases hc6
       exact AOps.nil rfl
     subst hJ
     refine AOps.nil ?_
     refine AWp.cond rfl (fun hb=>?_) fun hb=>?_
     ·replace h:=of_true h hb
      refine AWp.keepTo [] 1 ⟨[],hp8 v2⟩ ?_ (zz rfl) ?_
      ·kernel_rfl
      refine AWp.seq ?_
      refine AWp.start [0] [] [] [4] 1 ⟨[(4,tI (2:Int))],hp8 v2⟩ rfl ?_ (zz rfl) trivial ?_
      ·kernel_rfl
      refine AOps.nil ?_
      refine AWp.ret ?_
      cases h
      exact Or.inr ⟨_,rfl,by simp,rfl,rfl⟩
     ·replace h:=of_false h hb
      refine AWp.keepTo [0,1,5] 1 ⟨[(0,.pc 0 0),(1,q0 v1),(5,tI v4)],hp8 v2⟩ ?_ (zz rfl) ?_
      ·kernel_rfl
      refine AWp.skip ?_
      refine AWp.start [0,1,2] [] [] [0,1,5] 1 ⟨[(0,.pc 0 0),(1,q0 v1),(5,tI (w64 (v4 + (1:Int))))],hp8 v2⟩ rfl ?_ (zz rfl) trivial ?_
      ·kernel_rfl
      refine AOps.nil ?_
      cases h
      exact Or.inl ⟨_,rfl,rfl,rfl⟩
    ·replace h:=of_false h hb
     refine AWp.keepTo [0,1] 1 ⟨[(0,.pc 0 0),(1,q0 v1)],hp8 v2⟩ ?_ (zz rfl) ?_
     ·kernel_rfl
     refine AWp.exit ?_
     cases h
     exact Or.inr ⟨_,rfl,by simp,rfl,rfl⟩
   ·intro e σ hp
    rcases y with v6 | _
    ·obtain ⟨rfl,rfl⟩:=hp
     cases h
     exact ⟨.inr rfl,rfl⟩
    ·obtain ⟨rfl,rfl⟩:=hp
     refine AWp.seq ?_
     refine AWp.seq ?_
     refine AWp.start [0,1,2,3] [] [] [0,1,34] 1 ⟨[(0,.pc 0 0),(1,q0 v1),(34,tB v2.f5)],hp8 v2⟩ rfl ?_ (zz rfl) trivial ?_
     ·kernel_rfl
     refine AOps.nil ?_
     refine AWp.cond rfl (fun hb=>?_) fun hb=>?_
     ·replace h:=of_true h hb
      refine AWp.keepTo [] 1 ⟨[],hp8 v2⟩ ?_ (zz rfl) ?_
      ·kernel_rfl
      refine AWp.seq ?_
      refine AWp.start [0] [] [] [4] 1 ⟨[(4,tI (110:Int))],hp8 v2⟩ rfl ?_ (zz rfl) trivial ?_
      ·kernel_rfl
      refine AOps.nil ?_
      refine AWp.ret ?_
      cases h
      exact ⟨.inr rfl,rfl⟩
     ·replace h:=of_false h hb
      refine AWp.keepTo [0,1] 1 ⟨[(0,.pc 0 0),(1,q0 v1)],hp8 v2⟩ ?_ (zz rfl) ?_
      ·kernel_rfl
      refine AWp.skip ?_
      refine AWp.seq ?_
      refine AWp.draw FFm _ (n:=23) rfl (ls:=#[n1,n1,n1,n1,n1,n1,n1,n1,n1,n1,n1,n1,n1,n1,n1,n1,n1,n1,n1,n1,n1,n1,n1]) rfl ?_ (fun _ h=>h)
      refine AAny.go (by kernel_rfl) [0,1,2,5,6,7,9,10,11,16] (fuel':=13) rfl [] #[y1,y1,y1,n1,n1,y1,y1,y1,n1,y1,y1,y1,n1,n1,n1,n1,y1,n1,n1,n1,n1,n1,n1] [0,37,42,46,51] 1 ⟨[(0,.pc 0 0),(37,.pc 0 0),(42,.pc 0 2),(46,.pc 0 4),(51,q0 v1)],hp8 v2⟩ ?_ (zz rfl) trivial ?_
      ·kernel_rfl
      obtain ⟨hd13,h⟩:=of_guard h
      obtain ⟨hd14,h⟩:=of_guard h
      obtain ⟨hd15,h⟩:=of_guard h
      obtain ⟨hd16,h⟩:=of_guard h
      refine AAny.share 2 #[y1,y1,y1,y1,y1,y1,y1,y1,y1,y1,y1,y1,y1,y1,y1,y1,y1,y1,y1,y1,y1,n1,n1] ⟨[(0,.pc 0 0),(55,.agg [.str v2.f0,.int .i64 (0:Int),fzL 1 (cSl 1 (cInt .u8)) ((([]:List (List Int)) ++ ((v2.f2.take (Int.toNat v2.f4)).drop 0)) ++ ([([]:List Int) ++ v1])),.bool false,.int .i64 (0:Int),.bool false,nS])],hp8 v2⟩ ?_ fun n23_=>?_
      ·refine AAny.step (i:=21) (fuel':=1) rfl (by kernel_rfl) [] #[y1,y1,y1,y1,y1,y1,y1,y1,y1,y1,y1,y1,y1,y1,y1,y1,y1,y1,y1,y1,y1,y1,n1] rfl [0,56] 2 ⟨[(0,.pc 0 0),(56,.pc 1 0)],hp9 v1 v2⟩ ?_ (zz rfl) trivial ?_
       ·kernel_rfl
       refine AAny.go (by kernel_rfl) [22] (fuel':=0) rfl [] #[y1,y1,y1,y1,y1,y1,y1,y1,y1,y1,y1,y1,y1,y1,y1,y1,y1,y1,y1,y1,y1,y1,y1] [0,6] 2 ⟨[(0,.pc 0 0),(6,.pc 1 0)],hp9 v1 v2⟩ ?_ (zz rfl) trivial ?_
       ·kernel_rfl
       refine AAny.keepTo [0,6] 2 ⟨[(0,.pc 0 0),(6,.pc 1 0)],hp9 v1 v2⟩ _ ?_ rfl (zz rfl) (AAny.done (by kernel_rfl) ?_)
       ·kernel_rfl
       refine AWp.seq ?_
       refine AWp.seq ?_
       refine AWp.start [0] [1,2,3] [] [0,6,57] 2 ⟨[(0,.pc 0 0),(6,.pc 1 0),(57,.pc 1 0)],hp9 v1 v2⟩ rfl ?_ (zz rfl) trivial ?_
       ·kernel_rfl
       refine AOps.retell 1 6 rfl (.nilOwn 1 5 (fun i=>(cInt .u8) (([]:List Int).getD i default))) ?_
       obtain ⟨v7,hv7,h⟩:=of_bind h
       refine AOps.cons (AOne.callO (F:=(FF 78 1)) _ rfl rfl rfl 58 rfl rfl 50 [] rfl Try.call50 [1] (by decide) [.pc 0 0] (by kernel_rfl) [.cells 79 [.str v2.f0,.int .i64 (0:Int),fzL 1 (cSl 1 (cInt .u8)) ((([]:List (List Int)) ++ ((v2.f2.take (Int.toNat v2.f4)).drop 0)) ++ ([([]:List Int) ++ v1])),.bool false,.int .i64 (0:Int),.bool false,k1 ([]:List Int)]] (by kernel_rfl) (f50o_ok (T78.mk v2.f0 (0:Int) ((([]:List (List Int)) ++ ((v2.f2.take (Int.toNat v2.f4)).drop 0)) ++ ([([]:List Int) ++ v1])) false (0:Int) false ([]:List Int)) hv7) (by kernel_rfl) (by kernel_rfl) _ rfl) ?_
       refine AOps.go [2,3] [] [] [0,6,60] 2 ⟨[(0,.pc 0 0),(6,.pc 1 0),(60,tB (decide ((v7.length:Int) > (20000:Int))))],[.cells 79 [.str v2.f0,.int .i64 v2.f1,fzL 1 (cSl 1 (cInt .u8)) v2.f2,.bool v2.f3,.int .i64 v2.f4,.bool v2.f5,k1 v2.f6],.cells 79 [.str v2.f0,.int .i64 (0:Int),fzL 1 (cSl 1 (cInt .u8)) ((([]:List (List Int)) ++ ((v2.f2.take (Int.toNat v2.f4)).drop 0)) ++ ([([]:List Int) ++ v1])),.bool false,.int .i64 (0:Int),.bool false,k1 ([]:List Int)]]⟩ ?_ (zz rfl) trivial ?_
       ·kernel_rfl
       refine AOps.nil ?_
       refine AWp.cond rfl (fun hb=>?_) fun hb=>?_
       ·replace h:=of_true h hb
        refine AWp.keepTo [] 1 ⟨[],hp8 v2⟩ ?_ (zz rfl) ?_
        ·kernel_rfl
        refine AWp.seq ?_
        refine AWp.start [0] [] [] [4] 1 ⟨[(4,tI (4:Int))],hp8 v2⟩ rfl ?_ (zz rfl) trivial ?_
        ·kernel_rfl
        refine AOps.nil ?_
        refine AWp.ret ?_
        cases h
        exact ⟨.inr rfl,rfl⟩
       ·replace h:=of_false h hb
        refine AWp.keepTo [0,6] 2 ⟨[(0,.pc 0 0),(6,.pc 1 0)],[.cells 79 [.str v2.f0,.int .i64 v2.f1,fzL 1 (cSl 1 (cInt .u8)) v2.f2,.bool v2.f3,.int .i64 v2.f4,.bool v2.f5,k1 v2.f6],.cells 79 [.str v2.f0,.int .i64 (0:Int),fzL 1 (cSl 1 (cInt .u8)) ((([]:List (List Int)) ++ ((v2.f2.take (Int.toNat v2.f4)).drop 0)) ++ ([([]:List Int) ++ v1])),.bool false,.int .i64 (0:Int),.bool false,k1 ([]:List Int)]]⟩ ?_ (zz rfl) ?_
        ·kernel_rfl
        refine AWp.skip ?_
        refine AWp.seq ?_
        refine AWp.start [0,1,2,3,4,5,6,7,8,9,10,11] [] [] [0] 1 ⟨[(0,.pc 0 0)],[.cells 79 [.str v2.f0,.int .i64 v2.f1,fzL 1 (cSl 1 (cInt .u8)) ((([]:List (List Int)) ++ ((v2.f2.take (Int.toNat v2.f4)).drop 0)) ++ ([([]:List Int) ++ v1])),.bool false,.int .i64 v2.f4,.bool v2.f5,k1 v2.f6]]⟩ rfl ?_ (zz rfl) trivial ?_
        ·kernel_rfl
        refine AOps.nil ?_
        refine AWp.seq ?_
        refine AWp.start [0,1,2,3,4,5,6,7] [] [] [] 1 ⟨[],[.cells 79 [.str v2.f0,.int .i64 v2.f1,fzL 1 (cSl 1 (cInt .u8)) ((([]:List (List Int)) ++ ((v2.f2.take (Int.toNat v2.f4)).drop 0)) ++ ([([]:List Int) ++ v1])),.bool false,.int .i64 (w64 (v2.f4 + (1:Int))),.bool v2.f5,k1 v2.f6]]⟩ rfl ?_ (zz rfl) trivial ?_
        ·kernel_rfl
        refine AOps.nil ?_
        refine AWp.seq ?_
        refine AWp.start [0] [] [] [4] 1 ⟨[(4,tI (0:Int))],[.cells 79 [.str v2.f0,.int .i64 v2.f1,fzL 1 (cSl 1 (cInt .u8)) ((([]:List (List Int)) ++ ((v2.f2.take (Int.toNat v2.f4)).drop 0)) ++ ([([]:List Int) ++ v1])),.bool false,.int .i64 (w64 (v2.f4 + (1:Int))),.bool v2.f5,k1 v2.f6]]⟩ rfl ?_ (zz rfl) trivial ?_
        ·kernel_rfl
        refine AOps.nil ?_
        refine AWp.ret ?_
        cases h
        exact ⟨.inr rfl,rfl⟩
      refine AAny.share 4 #[y1,y1,y1,n1,y1,y1,y1,y1,y1,y1,y1,y1,y1,y1,y1,y1,y1,y1,y1,y1,n1,n1,n1] ⟨[(0,.pc 0 0),(37,.pc 0 0),(54,.tv (fzL 1 (cSl 1 (cInt .u8)) ((([]:List (List Int)) ++ ((v2.f2.take (Int.toNat v2.f4)).drop 0)) ++ ([([]:List Int) ++ v1]))))],hp8 v2⟩ ?_ fun n22_=>?_
      ·refine AAny.each [3] (by kernel_rfl) rfl ?_
       refine AEach.step (i:=3) [] #[y1,y1,y1,y1,y1,y1,y1,y1,y1,y1,y1,y1,y1,y1,y1,y1,y1,y1,y1,y1,n1,n1,n1] rfl [0,38,54] 1 ⟨[(0,.pc 0 0),(38,tS v2.f0),(54,.tv (fzL 1 (cSl 1 (cInt .u8)) ((([]:List (List Int)) ++ ((v2.f2.take (Int.toNat v2.f4)).drop 0)) ++ ([([]:List Int) ++ v1]))))],hp8 v2⟩ ?_ (zz rfl) trivial ?_ ?_
       ·kernel_rfl
       ·refine AAny.go (by kernel_rfl) [20] (fuel':=2) rfl [] #[y1,y1,y1,y1,y1,y1,y1,y1,y1,y1,y1,y1,y1,y1,y1,y1,y1,y1,y1,y1,y1,n1,n1] [0,55] 1 ⟨[(0,.pc 0 0),(55,.agg [.str v2.f0,.int .i64 (0:Int),fzL 1 (cSl 1 (cInt .u8)) ((([]:List (List Int)) ++ ((v2.f2.take (Int.toNat v2.f4)).drop 0)) ++ ([([]:List Int) ++ v1])),.bool false,.int .i64 (0:Int),.bool false,nS])],hp8 v2⟩ ?_ (zz rfl) trivial ?_
        ·kernel_rfl
        exact n23_
       exact AEach.nil
      refine AAny.share 4 #[y1,y1,y1,y1,y1,y1,y1,y1,y1,y1,y1,y1,y1,y1,y1,y1,y1,y1,y1,n1,n1,n1,n1] ⟨[(0,.pc 0 0),(38,tS v2.f0),(49,.tv (ownL 1 22 (cSl 1 (cInt .u8)) (([]:List (List Int)) ++ ((v2.f2.take (Int.toNat v2.f4)).drop 0)))),(53,.tv (ownL 1 22 (cSl 1 (cInt .u8)) ([([]:List Int) ++ v1])))],hp8 v2⟩ ?_ fun n21_=>?_
      ·refine AAny.each [19] (by kernel_rfl) rfl ?_
       refine AEach.step (i:=19) [((([]:List (List Int)) ++ ((v2.f2.take (Int.toNat v2.f4)).drop 0)).length + ([([]:List Int) ++ v1]).length) * 24 ≤ 140737488355328,PlainTo ((([]:List (List Int)) ++ ((v2.f2.take (Int.toNat v2.f4)).drop 0)).length) (fun i=>(cSl 1 (cInt .u8)) ((([]:List (List Int)) ++ ((v2.f2.take (Int.toNat v2.f4)).drop 0)).getD i default)),PlainTo (([([]:List Int) ++ v1]).length) (fun i=>(cSl 1 (cInt .u8)) (([([]:List Int) ++ v1]).getD i default))] #[y1,y1,y1,y1,y1,y1,y1,y1,y1,y1,y1,y1,y1,y1,y1,y1,y1,y1,y1,y1,n1,n1,n1] rfl [0,38,54] 1 ⟨[(0,.pc 0 0),(38,tS v2.f0),(54,.tv (.own 1 22 ((([]:List (List Int)) ++ ((v2.f2.take (Int.toNat v2.f4)).drop 0)).length + ([([]:List Int) ++ v1]).length) (appF ((([]:List (List Int)) ++ ((v2.f2.take (Int.toNat v2.f4)).drop 0)).length) (fun i=>(cSl 1 (cInt .u8)) ((([]:List (List Int)) ++ ((v2.f2.take (Int.toNat v2.f4)).drop 0)).getD i default)) (fun i=>(cSl 1 (cInt .u8)) (([([]:List Int) ++ v1]).getD i default)))))],hp8 v2⟩ ?_ (zz rfl) ⟨hd16,(fun _ _=>rfl),(fun _ _=>rfl)⟩ ?_ ?_
       ·kernel_rfl
       ·refine AAny.extL 54 (cSl 1 (cInt .u8)) ((([]:List (List Int)) ++ ((v2.f2.take (Int.toNat v2.f4)).drop 0)) ++ ([([]:List Int) ++ v1])) rfl List.length_append.symm (app_at (cSl 1 (cInt .u8)) (([]:List (List Int)) ++ ((v2.f2.take (Int.toNat v2.f4)).drop 0)) ([([]:List Int) ++ v1])) ?_
        refine AAny.freezeL 54 (cSl 1 (cInt .u8)) ((([]:List (List Int)) ++ ((v2.f2.take (Int.toNat v2.f4)).drop 0)) ++ ([([]:List Int) ++ v1])) rfl (fun _=>rfl) ?_
        refine AAny.go (by kernel_rfl) [20] (fuel':=2) rfl [] #[y1,y1,y1,y1,y1,y1,y1,y1,y1,y1,y1,y1,y1,y1,y1,y1,y1,y1,y1,y1,y1,n1,n1] [0,55] 1 ⟨[(0,.pc 0 0),(55,.agg [.str v2.f0,.int .i64 (0:Int),fzL 1 (cSl 1 (cInt .u8)) ((([]:List (List Int)) ++ ((v2.f2.take (Int.toNat v2.f4)).drop 0)) ++ ([([]:List Int) ++ v1])),.bool false,.int .i64 (0:Int),.bool false,nS])],hp8 v2⟩ ?_ (zz rfl) trivial ?_
        ·kernel_rfl
        exact n23_
       exact AEach.nil
      refine AAny.share 5 #[y1,y1,y1,n1,y1,y1,y1,y1,y1,y1,y1,y1,y1,y1,y1,y1,y1,y1,y1,n1,n1,n1,n1] ⟨[(0,.pc 0 0),(37,.pc 0 0),(49,.tv (ownL 1 22 (cSl 1 (cInt .u8)) (([]:List (List Int)) ++ ((v2.f2.take (Int.toNat v2.f4)).drop 0)))),(53,.tv (ownL 1 22 (cSl 1 (cInt .u8)) ([([]:List Int) ++ v1])))],hp8 v2⟩ ?_ fun n20_=>?_
      ·refine AAny.each [3,19] (by kernel_rfl) rfl ?_
       refine AEach.step (i:=3) [] #[y1,y1,y1,y1,y1,y1,y1,y1,y1,y1,y1,y1,y1,y1,y1,y1,y1,y1,y1,n1,n1,n1,n1] rfl [0,38,49,53] 1 ⟨[(0,.pc 0 0),(38,tS v2.f0),(49,.tv (ownL 1 22 (cSl 1 (cInt .u8)) (([]:List (List Int)) ++ ((v2.f2.take (Int.toNat v2.f4)).drop 0)))),(53,.tv (ownL 1 22 (cSl 1 (cInt .u8)) ([([]:List Int) ++ v1])))],hp8 v2⟩ ?_ (zz rfl) trivial ?_ ?_
       ·kernel_rfl
       ·exact n21_
       refine AEach.step (i:=19) [((([]:List (List Int)) ++ ((v2.f2.take (Int.toNat v2.f4)).drop 0)).length + ([([]:List Int) ++ v1]).length) * 24 ≤ 140737488355328,PlainTo ((([]:List (List Int)) ++ ((v2.f2.take (Int.toNat v2.f4)).drop 0)).length) (fun i=>(cSl 1 (cInt .u8)) ((([]:List (List Int)) ++ ((v2.f2.take (Int.toNat v2.f4)).drop 0)).getD i default)),PlainTo (([([]:List Int) ++ v1]).length) (fun i=>(cSl 1 (cInt .u8)) (([([]:List Int) ++ v1]).getD i default))] #[y1,y1,y1,n1,y1,y1,y1,y1,y1,y1,y1,y1,y1,y1,y1,y1,y1,y1,y1,y1,n1,n1,n1] rfl [0,37,54] 1 ⟨[(0,.pc 0 0),(37,.pc 0 0),(54,.tv (.own 1 22 ((([]:List (List Int)) ++ ((v2.f2.take (Int.toNat v2.f4)).drop 0)).length + ([([]:List Int) ++ v1]).length) (appF ((([]:List (List Int)) ++ ((v2.f2.take (Int.toNat v2.f4)).drop 0)).length) (fun i=>(cSl 1 (cInt .u8)) ((([]:List (List Int)) ++ ((v2.f2.take (Int.toNat v2.f4)).drop 0)).getD i default)) (fun i=>(cSl 1 (cInt .u8)) (([([]:List Int) ++ v1]).getD i default)))))],hp8 v2⟩ ?_ (zz rfl) ⟨hd16,(fun _ _=>rfl),(fun _ _=>rfl)⟩ ?_ ?_
       ·kernel_rfl
       ·refine AAny.extL 54 (cSl 1 (cInt .u8)) ((([]:List (List Int)) ++ ((v2.f2.take (Int.toNat v2.f4)).drop 0)) ++ ([([]:List Int) ++ v1])) rfl List.length_append.symm (app_at (cSl 1 (cInt .u8)) (([]:List (List Int)) ++ ((v2.f2.take (Int.toNat v2.f4)).drop 0)) ([([]:List Int) ++ v1])) ?_
        refine AAny.freezeL 54 (cSl 1 (cInt .u8)) ((([]:List (List Int)) ++ ((v2.f2.take (Int.toNat v2.f4)).drop 0)) ++ ([([]:List Int) ++ v1])) rfl (fun _=>rfl) ?_
        refine AAny.keepTo [0,37,54] 1 ⟨[(0,.pc 0 0),(37,.pc 0 0),(54,.tv (fzL 1 (cSl 1 (cInt .u8)) ((([]:List (List Int)) ++ ((v2.f2.take (Int.toNat v2.f4)).drop 0)) ++ ([([]:List Int) ++ v1]))))],hp8 v2⟩ #[y1,y1,y1,n1,y1,y1,y1,y1,y1,y1,y1,y1,y1,y1,y1,y1,y1,y1,y1,y1,n1,n1,n1] ?_ rfl (zz rfl) ?_
        ·kernel_rfl
        exact n22_
       exact AEach.nil
      refine AAny.share 5 #[y1,y1,y1,y1,y1,y1,y1,y1,y1,y1,y1,y1,y1,y1,y1,y1,y1,y1,n1,n1,n1,n1,n1] ⟨[(0,.pc 0 0),(38,tS v2.f0),(49,.tv (ownL 1 22 (cSl 1 (cInt .u8)) (([]:List (List Int)) ++ ((v2.f2.take (Int.toNat v2.f4)).drop 0)))),(52,q0 (([]:List Int) ++ v1))],hp8 v2⟩ ?_ fun n19_=>?_
      ·refine AAny.each [18] (by kernel_rfl) rfl ?_
       refine AEach.step (i:=18) [] #[y1,y1,y1,y1,y1,y1,y1,y1,y1,y1,y1,y1,y1,y1,y1,y1,y1,y1,y1,n1,n1,n1,n1] rfl [0,38,49,53] 1 ⟨[(0,.pc 0 0),(38,tS v2.f0),(49,.tv (ownL 1 22 (cSl 1 (cInt .u8)) (([]:List (List Int)) ++ ((v2.f2.take (Int.toNat v2.f4)).drop 0)))),(53,.tv (.own 1 22 1 (newRowF [k0 (([]:List Int) ++ v1)] 1)))],hp8 v2⟩ ?_ (zz rfl) trivial ?_ ?_
       ·kernel_rfl
       ·refine AAny.extL 53 (cSl 1 (cInt .u8)) ([([]:List Int) ++ v1]) rfl rfl (row_at (cSl 1 (cInt .u8)) 1 (fun _=>rfl) [([]:List Int) ++ v1] _ rfl) ?_
        refine AAny.keepTo [0,38,49,53] 1 ⟨[(0,.pc 0 0),(38,tS v2.f0),(49,.tv (ownL 1 22 (cSl 1 (cInt .u8)) (([]:List (List Int)) ++ ((v2.f2.take (Int.toNat v2.f4)).drop 0)))),(53,.tv (ownL 1 22 (cSl 1 (cInt .u8)) ([([]:List Int) ++ v1])))],hp8 v2⟩ #[y1,y1,y1,y1,y1,y1,y1,y1,y1,y1,y1,y1,y1,y1,y1,y1,y1,y1,y1,n1,n1,n1,n1] ?_ rfl (zz rfl) ?_
        ·kernel_rfl
        exact n21_
       exact AEach.nil
      refine AAny.share 6 #[y1,y1,y1,n1,y1,y1,y1,y1,y1,y1,y1,y1,y1,y1,y1,y1,y1,y1,n1,n1,n1,n1,n1] ⟨[(0,.pc 0 0),(37,.pc 0 0),(49,.tv (ownL 1 22 (cSl 1 (cInt .u8)) (([]:List (List Int)) ++ ((v2.f2.take (Int.toNat v2.f4)).drop 0)))),(52,q0 (([]:List Int) ++ v1))],hp8 v2⟩ ?_ fun n18_=>?_
      ·refine AAny.each [3,18] (by kernel_rfl) rfl ?_
       refine AEach.step (i:=3) [] #[y1,y1,y1,y1,y1,y1,y1,y1,y1,y1,y1,y1,y1,y1,y1,y1,y1,y1,n1,n1,n1,n1,n1] rfl [0,38,49,52] 1 ⟨[(0,.pc 0 0),(38,tS v2.f0),(49,.tv (ownL 1 22 (cSl 1 (cInt .u8)) (([]:List (List Int)) ++ ((v2.f2.take (Int.toNat v2.f4)).drop 0)))),(52,q0 (([]:List Int) ++ v1))],hp8 v2⟩ ?_ (zz rfl) trivial ?_ ?_
       ·kernel_rfl
       ·exact n19_
       refine AEach.step (i:=18) [] #[y1,y1,y1,n1,y1,y1,y1,y1,y1,y1,y1,y1,y1,y1,y1,y1,y1,y1,y1,n1,n1,n1,n1] rfl [0,37,49,53] 1 ⟨[(0,.pc 0 0),(37,.pc 0 0),(49,.tv (ownL 1 22 (cSl 1 (cInt .u8)) (([]:List (List Int)) ++ ((v2.f2.take (Int.toNat v2.f4)).drop 0)))),(53,.tv (.own 1 22 1 (newRowF [k0 (([]:List Int) ++ v1)] 1)))],hp8 v2⟩ ?_ (zz rfl) trivial ?_ ?_
       ·kernel_rfl
       ·refine AAny.extL 53 (cSl 1 (cInt .u8)) ([([]:List Int) ++ v1]) rfl rfl (row_at (cSl 1 (cInt .u8)) 1 (fun _=>rfl) [([]:List Int) ++ v1] _ rfl) ?_
        refine AAny.keepTo [0,37,49,53] 1 ⟨[(0,.pc 0 0),(37,.pc 0 0),(49,.tv (ownL 1 22 (cSl 1 (cInt .u8)) (([]:List (List Int)) ++ ((v2.f2.take (Int.toNat v2.f4)).drop 0)))),(53,.tv (ownL 1 22 (cSl 1 (cInt .u8)) ([([]:List Int) ++ v1])))],hp8 v2⟩ #[y1,y1,y1,n1,y1,y1,y1,y1,y1,y1,y1,y1,y1,y1,y1,y1,y1,y1,y1,n1,n1,n1,n1] ?_ rfl (zz rfl) ?_
        ·kernel_rfl
        exact n20_
       exact AEach.nil
      refine AAny.share 6 #[y1,y1,y1,y1,y1,y1,y1,y1,y1,y1,y1,y1,y1,y1,y1,y1,y1,n1,n1,n1,n1,n1,n1] ⟨[(0,.pc 0 0),(38,tS v2.f0),(49,.tv (ownL 1 22 (cSl 1 (cInt .u8)) (([]:List (List Int)) ++ ((v2.f2.take (Int.toNat v2.f4)).drop 0)))),(50,q1 ([]:List Int)),(51,q0 v1)],hp8 v2⟩ ?_ fun n17_=>?_
      ·refine AAny.each [17] (by kernel_rfl) rfl ?_
       refine AEach.step (i:=17) [(([]:List Int).length + v1.length) * 1 ≤ 140737488355328,PlainTo (([]:List Int).length) (fun i=>(cInt .u8) (([]:List Int).getD i default)),PlainTo v1.length (fun i=>(cInt .u8) (v1.getD i default))] #[y1,y1,y1,y1,y1,y1,y1,y1,y1,y1,y1,y1,y1,y1,y1,y1,y1,y1,n1,n1,n1,n1,n1] rfl [0,38,49,52] 1 ⟨[(0,.pc 0 0),(38,tS v2.f0),(49,.tv (ownL 1 22 (cSl 1 (cInt .u8)) (([]:List (List Int)) ++ ((v2.f2.take (Int.toNat v2.f4)).drop 0)))),(52,.tv (.own 1 5 (([]:List Int).length + v1.length) (appF (([]:List Int).length) (fun i=>(cInt .u8) (([]:List Int).getD i default)) (fun i=>(cInt .u8) (v1.getD i default)))))],hp8 v2⟩ ?_ (zz rfl) ⟨hd15,(fun _ _=>rfl),(fun _ _=>rfl)⟩ ?_ ?_
       ·kernel_rfl
       ·refine AAny.extL 52 (cInt .u8) (([]:List Int) ++ v1) rfl List.length_append.symm (app_at (cInt .u8) ([]:List Int) v1) ?_
        refine AAny.freezeL 52 (cInt .u8) (([]:List Int) ++ v1) rfl (fun _=>rfl) ?_
        refine AAny.keepTo [0,38,49,52] 1 ⟨[(0,.pc 0 0),(38,tS v2.f0),(49,.tv (ownL 1 22 (cSl 1 (cInt .u8)) (([]:List (List Int)) ++ ((v2.f2.take (Int.toNat v2.f4)).drop 0)))),(52,q0 (([]:List Int) ++ v1))],hp8 v2⟩ #[y1,y1,y1,y1,y1,y1,y1,y1,y1,y1,y1,y1,y1,y1,y1,y1,y1,y1,n1,n1,n1,n1,n1] ?_ rfl (zz rfl) ?_
        ·kernel_rfl
        exact n19_
       exact AEach.nil
      refine AAny.share 7 #[y1,y1,y1,n1,y1,y1,y1,y1,y1,y1,y1,y1,y1,y1,y1,y1,y1,n1,n1,n1,n1,n1,n1] ⟨[(0,.pc 0 0),(37,.pc 0 0),(49,.tv (ownL 1 22 (cSl 1 (cInt .u8)) (([]:List (List Int)) ++ ((v2.f2.take (Int.toNat v2.f4)).drop 0)))),(50,q1 ([]:List Int)),(51,q0 v1)],hp8 v2⟩ ?_ fun n16_=>?_
      ·refine AAny.each [3,17] (by kernel_rfl) rfl ?_
       refine AEach.step (i:=3) [] #[y1,y1,y1,y1,y1,y1,y1,y1,y1,y1,y1,y1,y1,y1,y1,y1,y1,n1,n1,n1,n1,n1,n1] rfl [0,38,49,50,51] 1 ⟨[(0,.pc 0 0),(38,tS v2.f0),(49,.tv (ownL 1 22 (cSl 1 (cInt .u8)) (([]:List (List Int)) ++ ((v2.f2.take (Int.toNat v2.f4)).drop 0)))),(50,q1 ([]:List Int)),(51,q0 v1)],hp8 v2⟩ ?_ (zz rfl) trivial ?_ ?_
       ·kernel_rfl
       ·exact n17_
       refine AEach.step (i:=17) [(([]:List Int).length + v1.length) * 1 ≤ 140737488355328,PlainTo (([]:List Int).length) (fun i=>(cInt .u8) (([]:List Int).getD i default)),PlainTo v1.length (fun i=>(cInt .u8) (v1.getD i default))] #[y1,y1,y1,n1,y1,y1,y1,y1,y1,y1,y1,y1,y1,y1,y1,y1,y1,y1,n1,n1,n1,n1,n1] rfl [0,37,49,52] 1 ⟨[(0,.pc 0 0),(37,.pc 0 0),(49,.tv (ownL 1 22 (cSl 1 (cInt .u8)) (([]:List (List Int)) ++ ((v2.f2.take (Int.toNat v2.f4)).drop 0)))),(52,.tv (.own 1 5 (([]:List Int).length + v1.length) (appF (([]:List Int).length) (fun i=>(cInt .u8) (([]:List Int).getD i default)) (fun i=>(cInt .u8) (v1.getD i default)))))],hp8 v2⟩ ?_ (zz rfl) ⟨hd15,(fun _ _=>rfl),(fun _ _=>rfl)⟩ ?_ ?_
       ·kernel_rfl
       ·refine AAny.extL 52 (cInt .u8) (([]:List Int) ++ v1) rfl List.length_append.symm (app_at (cInt .u8) ([]:List Int) v1) ?_
        refine AAny.freezeL 52 (cInt .u8) (([]:List Int) ++ v1) rfl (fun _=>rfl) ?_
        refine AAny.keepTo [0,37,49,52] 1 ⟨[(0,.pc 0 0),(37,.pc 0 0),(49,.tv (ownL 1 22 (cSl 1 (cInt .u8)) (([]:List (List Int)) ++ ((v2.f2.take (Int.toNat v2.f4)).drop 0)))),(52,q0 (([]:List Int) ++ v1))],hp8 v2⟩ #[y1,y1,y1,n1,y1,y1,y1,y1,y1,y1,y1,y1,y1,y1,y1,y1,y1,y1,n1,n1,n1,n1,n1] ?_ rfl (zz rfl) ?_
        ·kernel_rfl
        exact n18_
       exact AEach.nil
      refine AAny.share 7 #[y1,y1,y1,y1,y1,y1,y1,y1,y1,y1,y1,y1,y1,y1,n1,y1,y1,n1,n1,n1,n1,n1,n1] ⟨[(0,.pc 0 0),(38,tS v2.f0),(39,.tv (ownL 1 22 (cSl 1 (cInt .u8)) ([]:List (List Int)))),(48,.tv (fzL 1 (cSl 1 (cInt .u8)) ((v2.f2.take (Int.toNat v2.f4)).drop 0))),(50,q1 ([]:List Int)),(51,q0 v1)],hp8 v2⟩ ?_ fun n15_=>?_
      ·refine AAny.each [14] (by kernel_rfl) rfl ?_
       refine AEach.step (i:=14) [(([]:List (List Int)).length + ((v2.f2.take (Int.toNat v2.f4)).drop 0).length) * 24 ≤ 140737488355328,PlainTo (([]:List (List Int)).length) (fun i=>(cSl 1 (cInt .u8)) (([]:List (List Int)).getD i default)),PlainTo (((v2.f2.take (Int.toNat v2.f4)).drop 0).length) (fun i=>(cSl 1 (cInt .u8)) (((v2.f2.take (Int.toNat v2.f4)).drop 0).getD i default))] #[y1,y1,y1,y1,y1,y1,y1,y1,y1,y1,y1,y1,y1,y1,y1,y1,y1,n1,n1,n1,n1,n1,n1] rfl [0,38,49,50,51] 1 ⟨[(0,.pc 0 0),(38,tS v2.f0),(49,.tv (.own 1 22 (([]:List (List Int)).length + ((v2.f2.take (Int.toNat v2.f4)).drop 0).length) (appF (([]:List (List Int)).length) (fun i=>(cSl 1 (cInt .u8)) (([]:List (List Int)).getD i default)) (fun i=>(cSl 1 (cInt .u8)) (((v2.f2.take (Int.toNat v2.f4)).drop 0).getD i default))))),(50,q1 ([]:List Int)),(51,q0 v1)],hp8 v2⟩ ?_ (zz rfl) ⟨hd14,(fun _ _=>rfl),(fun _ _=>rfl)⟩ ?_ ?_
       ·kernel_rfl
       ·refine AAny.extL 49 (cSl 1 (cInt .u8)) (([]:List (List Int)) ++ ((v2.f2.take (Int.toNat v2.f4)).drop 0)) rfl List.length_append.symm (app_at (cSl 1 (cInt .u8)) ([]:List (List Int)) ((v2.f2.take (Int.toNat v2.f4)).drop 0)) ?_
        refine AAny.keepTo [0,38,49,50,51] 1 ⟨[(0,.pc 0 0),(38,tS v2.f0),(49,.tv (ownL 1 22 (cSl 1 (cInt .u8)) (([]:List (List Int)) ++ ((v2.f2.take (Int.toNat v2.f4)).drop 0)))),(50,q1 ([]:List Int)),(51,q0 v1)],hp8 v2⟩ #[y1,y1,y1,y1,y1,y1,y1,y1,y1,y1,y1,y1,y1,y1,y1,y1,y1,n1,n1,n1,n1,n1,n1] ?_ rfl (zz rfl) ?_
        ·kernel_rfl
        exact n17_
       exact AEach.nil
      refine AAny.share 7 #[y1,y1,y1,y1,y1,y1,y1,y1,y1,y1,y1,y1,y1,y1,y1,n1,y1,n1,n1,n1,n1,n1,n1] ⟨[(0,.pc 0 0),(38,tS v2.f0),(49,.tv (ownL 1 22 (cSl 1 (cInt .u8)) (([]:List (List Int)) ++ ((v2.f2.take (Int.toNat v2.f4)).drop 0)))),(51,q0 v1)],hp8 v2⟩ ?_ fun n36_=>?_
      ·refine AAny.each [15] (by kernel_rfl) rfl ?_
       refine AEach.step (i:=15) [] #[y1,y1,y1,y1,y1,y1,y1,y1,y1,y1,y1,y1,y1,y1,y1,y1,y1,n1,n1,n1,n1,n1,n1] rfl [0,38,49,50,51] 1 ⟨[(0,.pc 0 0),(38,tS v2.f0),(49,.tv (ownL 1 22 (cSl 1 (cInt .u8)) (([]:List (List Int)) ++ ((v2.f2.take (Int.toNat v2.f4)).drop 0)))),(50,.tv (.own 1 5 0 (newRowF [] 1))),(51,q0 v1)],hp8 v2⟩ ?_ (zz rfl) trivial ?_ ?_
       ·kernel_rfl
       ·refine AAny.extL 50 (cInt .u8) ([]:List Int) rfl rfl (row_at (cInt .u8) 1 (fun _=>rfl) ([]:List Int) _ rfl) ?_
        refine AAny.keepTo [0,38,49,50,51] 1 ⟨[(0,.pc 0 0),(38,tS v2.f0),(49,.tv (ownL 1 22 (cSl 1 (cInt .u8)) (([]:List (List Int)) ++ ((v2.f2.take (Int.toNat v2.f4)).drop 0)))),(50,q1 ([]:List Int)),(51,q0 v1)],hp8 v2⟩ #[y1,y1,y1,y1,y1,y1,y1,y1,y1,y1,y1,y1,y1,y1,y1,y1,y1,n1,n1,n1,n1,n1,n1] ?_ rfl (zz rfl) ?_
        ·kernel_rfl
        exact n17_
       exact AEach.nil
      refine AAny.share 8 #[y1,y1,y1,n1,y1,y1,y1,y1,y1,y1,y1,y1,y1,y1,n1,y1,y1,n1,n1,n1,n1,n1,n1] ⟨[(0,.pc 0 0),(37,.pc 0 0),(39,.tv (ownL 1 22 (cSl 1 (cInt .u8)) ([]:List (List Int)))),(48,.tv (fzL 1 (cSl 1 (cInt .u8)) ((v2.f2.take (Int.toNat v2.f4)).drop 0))),(50,q1 ([]:List Int)),(51,q0 v1)],hp8 v2⟩ ?_ fun n14_=>?_
      ·refine AAny.each [3,14] (by kernel_rfl) rfl ?_
       refine AEach.step (i:=3) [] #[y1,y1,y1,y1,y1,y1,y1,y1,y1,y1,y1,y1,y1,y1,n1,y1,y1,n1,n1,n1,n1,n1,n1] rfl [0,38,39,48,50,51] 1 ⟨[(0,.pc 0 0),(38,tS v2.f0),(39,.tv (ownL 1 22 (cSl 1 (cInt .u8)) ([]:List (List Int)))),(48,.tv (fzL 1 (cSl 1 (cInt .u8)) ((v2.f2.take (Int.toNat v2.f4)).drop 0))),(50,q1 ([]:List Int)),(51,q0 v1)],hp8 v2⟩ ?_ (zz rfl) trivial ?_ ?_
       ·kernel_rfl
       ·exact n15_
       refine AEach.step (i:=14) [(([]:List (List Int)).length + ((v2.f2.take (Int.toNat v2.f4)).drop 0).length) * 24 ≤ 140737488355328,PlainTo (([]:List (List Int)).length) (fun i=>(cSl 1 (cInt .u8)) (([]:List (List Int)).getD i default)),PlainTo (((v2.f2.take (Int.toNat v2.f4)).drop 0).length) (fun i=>(cSl 1 (cInt .u8)) (((v2.f2.take (Int.toNat v2.f4)).drop 0).getD i default))] #[y1,y1,y1,n1,y1,y1,y1,y1,y1,y1,y1,y1,y1,y1,y1,y1,y1,n1,n1,n1,n1,n1,n1] rfl [0,37,49,50,51] 1 ⟨[(0,.pc 0 0),(37,.pc 0 0),(49,.tv (.own 1 22 (([]:List (List Int)).length + ((v2.f2.take (Int.toNat v2.f4)).drop 0).length) (appF (([]:List (List Int)).length) (fun i=>(cSl 1 (cInt .u8)) (([]:List (List Int)).getD i default)) (fun i=>(cSl 1 (cInt .u8)) (((v2.f2.take (Int.toNat v2.f4)).drop 0).getD i default))))),(50,q1 ([]:List Int)),(51,q0 v1)],hp8 v2⟩ ?_ (zz rfl) ⟨hd14,(fun _ _=>rfl),(fun _ _=>rfl)⟩ ?_ ?_
       ·kernel_rfl
       ·refine AAny.extL 49 (cSl 1 (cInt .u8)) (([]:List (List Int)) ++ ((v2.f2.take (Int.toNat v2.f4)).drop 0)) rfl List.length_append.symm (app_at (cSl 1 (cInt .u8)) ([]:List (List Int)) ((v2.f2.take (Int.toNat v2.f4)).drop 0)) ?_
        refine AAny.keepTo [0,37,49,50,51] 1 ⟨[(0,.pc 0 0),(37,.pc 0 0),(49,.tv (ownL 1 22 (cSl 1 (cInt .u8)) (([]:List (List Int)) ++ ((v2.f2.take (Int.toNat v2.f4)).drop 0)))),(50,q1 ([]:List Int)),(51,q0 v1)],hp8 v2⟩ #[y1,y1,y1,n1,y1,y1,y1,y1,y1,y1,y1,y1,y1,y1,y1,y1,y1,n1,n1,n1,n1,n1,n1] ?_ rfl (zz rfl) ?_
        ·kernel_rfl
        exact n16_
       exact AEach.nil
      refine AAny.share 8 #[y1,y1,y1,y1,n1,y1,y1,y1,y1,y1,y1,y1,y1,y1,n1,y1,y1,n1,n1,n1,n1,n1,n1] ⟨[(0,.pc 0 0),(38,tS v2.f0),(48,.tv (fzL 1 (cSl 1 (cInt .u8)) ((v2.f2.take (Int.toNat v2.f4)).drop 0))),(50,q1 ([]:List Int)),(51,q0 v1)],hp8 v2⟩ ?_ fun n13_=>?_
      ·refine AAny.each [4] (by kernel_rfl) rfl ?_
       refine AEach.step (i:=4) [] #[y1,y1,y1,y1,y1,y1,y1,y1,y1,y1,y1,y1,y1,y1,n1,y1,y1,n1,n1,n1,n1,n1,n1] rfl [0,38,39,48,50,51] 1 ⟨[(0,.pc 0 0),(38,tS v2.f0),(39,.tv (.own 1 22 0 (newRowF [] 1))),(48,.tv (fzL 1 (cSl 1 (cInt .u8)) ((v2.f2.take (Int.toNat v2.f4)).drop 0))),(50,q1 ([]:List Int)),(51,q0 v1)],hp8 v2⟩ ?_ (zz rfl) trivial ?_ ?_
       ·kernel_rfl
       ·refine AAny.extL 39 (cSl 1 (cInt .u8)) ([]:List (List Int)) rfl rfl (row_at (cSl 1 (cInt .u8)) 1 (fun _=>rfl) ([]:List (List Int)) _ rfl) ?_
        refine AAny.keepTo [0,38,39,48,50,51] 1 ⟨[(0,.pc 0 0),(38,tS v2.f0),(39,.tv (ownL 1 22 (cSl 1 (cInt .u8)) ([]:List (List Int)))),(48,.tv (fzL 1 (cSl 1 (cInt .u8)) ((v2.f2.take (Int.toNat v2.f4)).drop 0))),(50,q1 ([]:List Int)),(51,q0 v1)],hp8 v2⟩ #[y1,y1,y1,y1,y1,y1,y1,y1,y1,y1,y1,y1,y1,y1,n1,y1,y1,n1,n1,n1,n1,n1,n1] ?_ rfl (zz rfl) ?_
        ·kernel_rfl
        exact n15_
       exact AEach.nil
      refine AAny.share 8 #[y1,y1,y1,n1,y1,y1,y1,y1,y1,y1,y1,y1,y1,y1,y1,n1,y1,n1,n1,n1,n1,n1,n1] ⟨[(0,.pc 0 0),(37,.pc 0 0),(49,.tv (ownL 1 22 (cSl 1 (cInt .u8)) (([]:List (List Int)) ++ ((v2.f2.take (Int.toNat v2.f4)).drop 0)))),(51,q0 v1)],hp8 v2⟩ ?_ fun n35_=>?_
      ·refine AAny.each [3,15] (by kernel_rfl) rfl ?_
       refine AEach.step (i:=3) [] #[y1,y1,y1,y1,y1,y1,y1,y1,y1,y1,y1,y1,y1,y1,y1,n1,y1,n1,n1,n1,n1,n1,n1] rfl [0,38,49,51] 1 ⟨[(0,.pc 0 0),(38,tS v2.f0),(49,.tv (ownL 1 22 (cSl 1 (cInt .u8)) (([]:List (List Int)) ++ ((v2.f2.take (Int.toNat v2.f4)).drop 0)))),(51,q0 v1)],hp8 v2⟩ ?_ (zz rfl) trivial ?_ ?_
       ·kernel_rfl
       ·exact n36_
       refine AEach.step (i:=15) [] #[y1,y1,y1,n1,y1,y1,y1,y1,y1,y1,y1,y1,y1,y1,y1,y1,y1,n1,n1,n1,n1,n1,n1] rfl [0,37,49,50,51] 1 ⟨[(0,.pc 0 0),(37,.pc 0 0),(49,.tv (ownL 1 22 (cSl 1 (cInt .u8)) (([]:List (List Int)) ++ ((v2.f2.take (Int.toNat v2.f4)).drop 0)))),(50,.tv (.own 1 5 0 (newRowF [] 1))),(51,q0 v1)],hp8 v2⟩ ?_ (zz rfl) trivial ?_ ?_
       ·kernel_rfl
       ·refine AAny.extL 50 (cInt .u8) ([]:List Int) rfl rfl (row_at (cInt .u8) 1 (fun _=>rfl) ([]:List Int) _ rfl) ?_
        refine AAny.keepTo [0,37,49,50,51] 1 ⟨[(0,.pc 0 0),(37,.pc 0 0),(49,.tv (ownL 1 22 (cSl 1 (cInt .u8)) (([]:List (List Int)) ++ ((v2.f2.take (Int.toNat v2.f4)).drop 0)))),(50,q1 ([]:List Int)),(51,q0 v1)],hp8 v2⟩ #[y1,y1,y1,n1,y1,y1,y1,y1,y1,y1,y1,y1,y1,y1,y1,y1,y1,n1,n1,n1,n1,n1,n1] ?_ rfl (zz rfl) ?_
        ·kernel_rfl
        exact n16_
       exact AEach.nil
      refine AAny.share 8 #[y1,y1,y1,y1,y1,y1,y1,y1,y1,y1,y1,y1,y1,y1,n1,n1,y1,n1,n1,n1,n1,n1,n1] ⟨[(0,.pc 0 0),(38,tS v2.f0),(39,.tv (ownL 1 22 (cSl 1 (cInt .u8)) ([]:List (List Int)))),(48,.tv (fzL 1 (cSl 1 (cInt .u8)) ((v2.f2.take (Int.toNat v2.f4)).drop 0))),(51,q0 v1)],hp8 v2⟩ ?_ fun n34_=>?_
      ·refine AAny.each [14,15] (by kernel_rfl) rfl ?_
       refine AEach.step (i:=14) [(([]:List (List Int)).length + ((v2.f2.take (Int.toNat v2.f4)).drop 0).length) * 24 ≤ 140737488355328,PlainTo (([]:List (List Int)).length) (fun i=>(cSl 1 (cInt .u8)) (([]:List (List Int)).getD i default)),PlainTo (((v2.f2.take (Int.toNat v2.f4)).drop 0).length) (fun i=>(cSl 1 (cInt .u8)) (((v2.f2.take (Int.toNat v2.f4)).drop 0).getD i default))] #[y1,y1,y1,y1,y1,y1,y1,y1,y1,y1,y1,y1,y1,y1,y1,n1,y1,n1,n1,n1,n1,n1,n1] rfl [0,38,49,51] 1 ⟨[(0,.pc 0 0),(38,tS v2.f0),(49,.tv (.own 1 22 (([]:List (List Int)).length + ((v2.f2.take (Int.toNat v2.f4)).drop 0).length) (appF (([]:List (List Int)).length) (fun i=>(cSl 1 (cInt .u8)) (([]:List (List Int)).getD i default)) (fun i=>(cSl 1 (cInt .u8)) (((v2.f2.take (Int.toNat v2.f4)).drop 0).getD i default))))),(51,q0 v1)],hp8 v2⟩ ?_ (zz rfl) ⟨hd14,(fun _ _=>rfl),(fun _ _=>rfl)⟩ ?_ ?_
       ·kernel_rfl
       ·refine AAny.extL 49 (cSl 1 (cInt .u8)) (([]:List (List Int)) ++ ((v2.f2.take (Int.toNat v2.f4)).drop 0)) rfl List.length_append.symm (app_at (cSl 1 (cInt .u8)) ([]:List (List Int)) ((v2.f2.take (Int.toNat v2.f4)).drop 0)) ?_
        refine AAny.keepTo [0,38,49,51] 1 ⟨[(0,.pc 0 0),(38,tS v2.f0),(49,.tv (ownL 1 22 (cSl 1 (cInt .u8)) (([]:List (List Int)) ++ ((v2.f2.take (Int.toNat v2.f4)).drop 0)))),(51,q0 v1)],hp8 v2⟩ #[y1,y1,y1,y1,y1,y1,y1,y1,y1,y1,y1,y1,y1,y1,y1,n1,y1,n1,n1,n1,n1,n1,n1] ?_ rfl (zz rfl) ?_
        ·kernel_rfl
        exact n36_
       refine AEach.step (i:=15) [] #[y1,y1,y1,y1,y1,y1,y1,y1,y1,y1,y1,y1,y1,y1,n1,y1,y1,n1,n1,n1,n1,n1,n1] rfl [0,38,39,48,50,51] 1 ⟨[(0,.pc 0 0),(38,tS v2.f0),(39,.tv (ownL 1 22 (cSl 1 (cInt .u8)) ([]:List (List Int)))),(48,.tv (fzL 1 (cSl 1 (cInt .u8)) ((v2.f2.take (Int.toNat v2.f4)).drop 0))),(50,.tv (.own 1 5 0 (newRowF [] 1))),(51,q0 v1)],hp8 v2⟩ ?_ (zz rfl) trivial ?_ ?_
       ·kernel_rfl
       ·refine AAny.extL 50 (cInt .u8) ([]:List Int) rfl rfl (row_at (cInt .u8) 1 (fun _=>rfl) ([]:List Int) _ rfl) ?_
        refine AAny.keepTo [0,38,39,48,50,51] 1 ⟨[(0,.pc 0 0),(38,tS v2.f0),(39,.tv (ownL 1 22 (cSl 1 (cInt .u8)) ([]:List (List Int)))),(48,.tv (fzL 1 (cSl 1 (cInt .u8)) ((v2.f2.take (Int.toNat v2.f4)).drop 0))),(50,q1 ([]:List Int)),(51,q0 v1)],hp8 v2⟩ #[y1,y1,y1,y1,y1,y1,y1,y1,y1,y1,y1,y1,y1,y1,n1,y1,y1,n1,n1,n1,n1,n1,n1] ?_ rfl (zz rfl) ?_
        ·kernel_rfl
        exact n15_
       exact AEach.nil
      refine AAny.share 9 #[y1,y1,y1,n1,n1,y1,y1,y1,y1,y1,y1,y1,y1,y1,n1,y1,y1,n1,n1,n1,n1,n1,n1] ⟨[(0,.pc 0 0),(37,.pc 0 0),(48,.tv (fzL 1 (cSl 1 (cInt .u8)) ((v2.f2.take (Int.toNat v2.f4)).drop 0))),(50,q1 ([]:List Int)),(51,q0 v1)],hp8 v2⟩ ?_ fun n12_=>?_
      ·refine AAny.each [3,4] (by kernel_rfl) rfl ?_
       refine AEach.step (i:=3) [] #[y1,y1,y1,y1,n1,y1,y1,y1,y1,y1,y1,y1,y1,y1,n1,y1,y1,n1,n1,n1,n1,n1,n1] rfl [0,38,48,50,51] 1 ⟨[(0,.pc 0 0),(38,tS v2.f0),(48,.tv (fzL 1 (cSl 1 (cInt .u8)) ((v2.f2.take (Int.toNat v2.f4)).drop 0))),(50,q1 ([]:List Int)),(51,q0 v1)],hp8 v2⟩ ?_ (zz rfl) trivial ?_ ?_
       ·kernel_rfl
       ·exact n13_
       refine AEach.step (i:=4) [] #[y1,y1,y1,n1,y1,y1,y1,y1,y1,y1,y1,y1,y1,y1,n1,y1,y1,n1,n1,n1,n1,n1,n1] rfl [0,37,39,48,50,51] 1 ⟨[(0,.pc 0 0),(37,.pc 0 0),(39,.tv (.own 1 22 0 (newRowF [] 1))),(48,.tv (fzL 1 (cSl 1 (cInt .u8)) ((v2.f2.take (Int.toNat v2.f4)).drop 0))),(50,q1 ([]:List Int)),(51,q0 v1)],hp8 v2⟩ ?_ (zz rfl) trivial ?_ ?_
       ·kernel_rfl
       ·refine AAny.extL 39 (cSl 1 (cInt .u8)) ([]:List (List Int)) rfl rfl (row_at (cSl 1 (cInt .u8)) 1 (fun _=>rfl) ([]:List (List Int)) _ rfl) ?_
        refine AAny.keepTo [0,37,39,48,50,51] 1 ⟨[(0,.pc 0 0),(37,.pc 0 0),(39,.tv (ownL 1 22 (cSl 1 (cInt .u8)) ([]:List (List Int)))),(48,.tv (fzL 1 (cSl 1 (cInt .u8)) ((v2.f2.take (Int.toNat v2.f4)).drop 0))),(50,q1 ([]:List Int)),(51,q0 v1)],hp8 v2⟩ #[y1,y1,y1,n1,y1,y1,y1,y1,y1,y1,y1,y1,y1,y1,n1,y1,y1,n1,n1,n1,n1,n1,n1] ?_ rfl (zz rfl) ?_
        ·kernel_rfl
        exact n14_
       exact AEach.nil
      refine AAny.share 9 #[y1,y1,y1,y1,y1,y1,y1,y1,n1,y1,y1,y1,y1,n1,n1,y1,y1,n1,n1,n1,n1,n1,n1] ⟨[(0,.pc 0 0),(38,tS v2.f0),(39,.tv (ownL 1 22 (cSl 1 (cInt .u8)) ([]:List (List Int)))),(42,.pc 0 2),(47,tI v2.f4),(50,q1 ([]:List Int)),(51,q0 v1)],hp8 v2⟩ ?_ fun n24_=>?_
      ·refine AAny.each [8] (by kernel_rfl) rfl ?_
       refine AEach.step (i:=8) [] #[y1,y1,y1,y1,y1,y1,y1,y1,y1,y1,y1,y1,y1,n1,n1,y1,y1,n1,n1,n1,n1,n1,n1] rfl [0,38,39,43,47,50,51] 1 ⟨[(0,.pc 0 0),(38,tS v2.f0),(39,.tv (ownL 1 22 (cSl 1 (cInt .u8)) ([]:List (List Int)))),(43,.tv (fzL 1 (cSl 1 (cInt .u8)) v2.f2)),(47,tI v2.f4),(50,q1 ([]:List Int)),(51,q0 v1)],hp8 v2⟩ ?_ (zz rfl) trivial ?_ ?_
       ·kernel_rfl
       ·refine AAny.go (by kernel_rfl) [13] (fuel':=7) rfl [(0:Int) ≤ (0:Int),(0:Int) ≤ v2.f4,v2.f4 ≤ (v2.f2.length:Int)] #[y1,y1,y1,y1,y1,y1,y1,y1,y1,y1,y1,y1,y1,y1,n1,y1,y1,n1,n1,n1,n1,n1,n1] [0,38,39,48,50,51] 1 ⟨[(0,.pc 0 0),(38,tS v2.f0),(39,.tv (ownL 1 22 (cSl 1 (cInt .u8)) ([]:List (List Int)))),(48,.tv (.fz 1 ((Int.toNat v2.f4) - 0) (fun i=>(cSl 1 (cInt .u8)) (v2.f2.getD (0 + i) default)))),(50,q1 ([]:List Int)),(51,q0 v1)],hp8 v2⟩ ?_ (zz rfl) ⟨(by decide:(0:Int) ≤ (0:Int)),hd13.1,hd13.2⟩ ?_
        ·kernel_rfl
        have hb:(Int.toNat v2.f4) ≤ v2.f2.length:=by have hh:v2.f4 ≤ (v2.f2.length:Int):=hd13.2; omega
        refine AAny.extFzL (s:=48) rfl (sub_len v2.f2 0 (Int.toNat v2.f4) hb) (sub_at (cSl 1 (cInt .u8)) v2.f2 0 (Int.toNat v2.f4) hb) ?_
        refine AAny.keepTo [0,38,39,48,50,51] 1 ⟨[(0,.pc 0 0),(38,tS v2.f0),(39,.tv (ownL 1 22 (cSl 1 (cInt .u8)) ([]:List (List Int)))),(48,.tv (fzL 1 (cSl 1 (cInt .u8)) ((v2.f2.take (Int.toNat v2.f4)).drop 0))),(50,q1 ([]:List Int)),(51,q0 v1)],hp8 v2⟩ #[y1,y1,y1,y1,y1,y1,y1,y1,y1,y1,y1,y1,y1,y1,n1,y1,y1,n1,n1,n1,n1,n1,n1] ?_ rfl (zz rfl) ?_
        ·kernel_rfl
        exact n15_
       exact AEach.nil
      refine AAny.share 9 #[y1,y1,y1,y1,y1,y1,y1,y1,y1,y1,y1,y1,n1,n1,n1,y1,y1,n1,n1,n1,n1,n1,n1] ⟨[(0,.pc 0 0),(38,tS v2.f0),(39,.tv (ownL 1 22 (cSl 1 (cInt .u8)) ([]:List (List Int)))),(43,.tv (fzL 1 (cSl 1 (cInt .u8)) v2.f2)),(46,.pc 0 4),(50,q1 ([]:List Int)),(51,q0 v1)],hp8 v2⟩ ?_ fun n27_=>?_
      ·refine AAny.each [12] (by kernel_rfl) rfl ?_
       refine AEach.step (i:=12) [] #[y1,y1,y1,y1,y1,y1,y1,y1,y1,y1,y1,y1,y1,n1,n1,y1,y1,n1,n1,n1,n1,n1,n1] rfl [0,38,39,43,47,50,51] 1 ⟨[(0,.pc 0 0),(38,tS v2.f0),(39,.tv (ownL 1 22 (cSl 1 (cInt .u8)) ([]:List (List Int)))),(43,.tv (fzL 1 (cSl 1 (cInt .u8)) v2.f2)),(47,tI v2.f4),(50,q1 ([]:List Int)),(51,q0 v1)],hp8 v2⟩ ?_ (zz rfl) trivial ?_ ?_
       ·kernel_rfl
       ·refine AAny.go (by kernel_rfl) [13] (fuel':=7) rfl [(0:Int) ≤ (0:Int),(0:Int) ≤ v2.f4,v2.f4 ≤ (v2.f2.length:Int)] #[y1,y1,y1,y1,y1,y1,y1,y1,y1,y1,y1,y1,y1,y1,n1,y1,y1,n1,n1,n1,n1,n1,n1] [0,38,39,48,50,51] 1 ⟨[(0,.pc 0 0),(38,tS v2.f0),(39,.tv (ownL 1 22 (cSl 1 (cInt .u8)) ([]:List (List Int)))),(48,.tv (.fz 1 ((Int.toNat v2.f4) - 0) (fun i=>(cSl 1 (cInt .u8)) (v2.f2.getD (0 + i) default)))),(50,q1 ([]:List Int)),(51,q0 v1)],hp8 v2⟩ ?_ (zz rfl) ⟨(by decide:(0:Int) ≤ (0:Int)),hd13.1,hd13.2⟩ ?_
        ·kernel_rfl
        have hb:(Int.toNat v2.f4) ≤ v2.f2.length:=by have hh:v2.f4 ≤ (v2.f2.length:Int):=hd13.2; omega
        refine AAny.extFzL (s:=48) rfl (sub_len v2.f2 0 (Int.toNat v2.f4) hb) (sub_at (cSl 1 (cInt .u8)) v2.f2 0 (Int.toNat v2.f4) hb) ?_
        refine AAny.keepTo [0,38,39,48,50,51] 1 ⟨[(0,.pc 0 0),(38,tS v2.f0),(39,.tv (ownL 1 22 (cSl 1 (cInt .u8)) ([]:List (List Int)))),(48,.tv (fzL 1 (cSl 1 (cInt .u8)) ((v2.f2.take (Int.toNat v2.f4)).drop 0))),(50,q1 ([]:List Int)),(51,q0 v1)],hp8 v2⟩ #[y1,y1,y1,y1,y1,y1,y1,y1,y1,y1,y1,y1,y1,y1,n1,y1,y1,n1,n1,n1,n1,n1,n1] ?_ rfl (zz rfl) ?_
        ·kernel_rfl
        exact n15_
       exact AEach.nil
      refine AAny.share 9 #[y1,y1,y1,n1,y1,y1,y1,y1,y1,y1,y1,y1,y1,y1,n1,n1,y1,n1,n1,n1,n1,n1,n1] ⟨[(0,.pc 0 0),(37,.pc 0 0),(39,.tv (ownL 1 22 (cSl 1 (cInt .u8)) ([]:List (List Int)))),(48,.tv (fzL 1 (cSl 1 (cInt .u8)) ((v2.f2.take (Int.toNat v2.f4)).drop 0))),(51,q0 v1)],hp8 v2⟩ ?_ fun n33_=>?_
      ·refine AAny.each [3,14,15] (by kernel_rfl) rfl ?_
       refine AEach.step (i:=3) [] #[y1,y1,y1,y1,y1,y1,y1,y1,y1,y1,y1,y1,y1,y1,n1,n1,y1,n1,n1,n1,n1,n1,n1] rfl [0,38,39,48,51] 1 ⟨[(0,.pc 0 0),(38,tS v2.f0),(39,.tv (ownL 1 22 (cSl 1 (cInt .u8)) ([]:List (List Int)))),(48,.tv (fzL 1 (cSl 1 (cInt .u8)) ((v2.f2.take (Int.toNat v2.f4)).drop 0))),(51,q0 v1)],hp8 v2⟩ ?_ (zz rfl) trivial ?_ ?_
       ·kernel_rfl
       ·exact n34_
       refine AEach.step (i:=14) [(([]:List (List Int)).length + ((v2.f2.take (Int.toNat v2.f4)).drop 0).length) * 24 ≤ 140737488355328,PlainTo (([]:List (List Int)).length) (fun i=>(cSl 1 (cInt .u8)) (([]:List (List Int)).getD i default)),PlainTo (((v2.f2.take (Int.toNat v2.f4)).drop 0).length) (fun i=>(cSl 1 (cInt .u8)) (((v2.f2.take (Int.toNat v2.f4)).drop 0).getD i default))] #[y1,y1,y1,n1,y1,y1,y1,y1,y1,y1,y1,y1,y1,y1,y1,n1,y1,n1,n1,n1,n1,n1,n1] rfl [0,37,49,51] 1 ⟨[(0,.pc 0 0),(37,.pc 0 0),(49,.tv (.own 1 22 (([]:List (List Int)).length + ((v2.f2.take (Int.toNat v2.f4)).drop 0).length) (appF (([]:List (List Int)).length) (fun i=>(cSl 1 (cInt .u8)) (([]:List (List Int)).getD i default)) (fun i=>(cSl 1 (cInt .u8)) (((v2.f2.take (Int.toNat v2.f4)).drop 0).getD i default))))),(51,q0 v1)],hp8 v2⟩ ?_ (zz rfl) ⟨hd14,(fun _ _=>rfl),(fun _ _=>rfl)⟩ ?_ ?_
       ·kernel_rfl
       ·refine AAny.extL 49 (cSl 1 (cInt .u8)) (([]:List (List Int)) ++ ((v2.f2.take (Int.toNat v2.f4)).drop 0)) rfl List.length_append.symm (app_at (cSl 1 (cInt .u8)) ([]:List (List Int)) ((v2.f2.take (Int.toNat v2.f4)).drop 0)) ?_
        refine AAny.keepTo [0,37,49,51] 1 ⟨[(0,.pc 0 0),(37,.pc 0 0),(49,.tv (ownL 1 22 (cSl 1 (cInt .u8)) (([]:List (List Int)) ++ ((v2.f2.take (Int.toNat v2.f4)).drop 0)))),(51,q0 v1)],hp8 v2⟩ #[y1,y1,y1,n1,y1,y1,y1,y1,y1,y1,y1,y1,y1,y1,y1,n1,y1,n1,n1,n1,n1,n1,n1] ?_ rfl (zz rfl) ?_
        ·kernel_rfl
        exact n35_
       refine AEach.step (i:=15) [] #[y1,y1,y1,n1,y1,y1,y1,y1,y1,y1,y1,y1,y1,y1,n1,y1,y1,n1,n1,n1,n1,n1,n1] rfl [0,37,39,48,50,51] 1 ⟨[(0,.pc 0 0),(37,.pc 0 0),(39,.tv (ownL 1 22 (cSl 1 (cInt .u8)) ([]:List (List Int)))),(48,.tv (fzL 1 (cSl 1 (cInt .u8)) ((v2.f2.take (Int.toNat v2.f4)).drop 0))),(50,.tv (.own 1 5 0 (newRowF [] 1))),(51,q0 v1)],hp8 v2⟩ ?_ (zz rfl) trivial ?_ ?_
       ·kernel_rfl
       ·refine AAny.extL 50 (cInt .u8) ([]:List Int) rfl rfl (row_at (cInt .u8) 1 (fun _=>rfl) ([]:List Int) _ rfl) ?_
        refine AAny.keepTo [0,37,39,48,50,51] 1 ⟨[(0,.pc 0 0),(37,.pc 0 0),(39,.tv (ownL 1 22 (cSl 1 (cInt .u8)) ([]:List (List Int)))),(48,.tv (fzL 1 (cSl 1 (cInt .u8)) ((v2.f2.take (Int.toNat v2.f4)).drop 0))),(50,q1 ([]:List Int)),(51,q0 v1)],hp8 v2⟩ #[y1,y1,y1,n1,y1,y1,y1,y1,y1,y1,y1,y1,y1,y1,n1,y1,y1,n1,n1,n1,n1,n1,n1] ?_ rfl (zz rfl) ?_
        ·kernel_rfl
        exact n14_
       exact AEach.nil
      refine AAny.share 9 #[y1,y1,y1,y1,n1,y1,y1,y1,y1,y1,y1,y1,y1,y1,n1,n1,y1,n1,n1,n1,n1,n1,n1] ⟨[(0,.pc 0 0),(38,tS v2.f0),(48,.tv (fzL 1 (cSl 1 (cInt .u8)) ((v2.f2.take (Int.toNat v2.f4)).drop 0))),(51,q0 v1)],hp8 v2⟩ ?_ fun n32_=>?_
      ·refine AAny.each [4,15] (by kernel_rfl) rfl ?_
       refine AEach.step (i:=4) [] #[y1,y1,y1,y1,y1,y1,y1,y1,y1,y1,y1,y1,y1,y1,n1,n1,y1,n1,n1,n1,n1,n1,n1] rfl [0,38,39,48,51] 1 ⟨[(0,.pc 0 0),(38,tS v2.f0),(39,.tv (.own 1 22 0 (newRowF [] 1))),(48,.tv (fzL 1 (cSl 1 (cInt .u8)) ((v2.f2.take (Int.toNat v2.f4)).drop 0))),(51,q0 v1)],hp8 v2⟩ ?_ (zz rfl) trivial ?_ ?_
       ·kernel_rfl
       ·refine AAny.extL 39 (cSl 1 (cInt .u8)) ([]:List (List Int)) rfl rfl (row_at (cSl 1 (cInt .u8)) 1 (fun _=>rfl) ([]:List (List Int)) _ rfl) ?_
        refine AAny.keepTo [0,38,39,48,51] 1 ⟨[(0,.pc 0 0),(38,tS v2.f0),(39,.tv (ownL 1 22 (cSl 1 (cInt .u8)) ([]:List (List Int)))),(48,.tv (fzL 1 (cSl 1 (cInt .u8)) ((v2.f2.take (Int.toNat v2.f4)).drop 0))),(51,q0 v1)],hp8 v2⟩ #[y1,y1,y1,y1,y1,y1,y1,y1,y1,y1,y1,y1,y1,y1,n1,n1,y1,n1,n1,n1,n1,n1,n1] ?_ rfl (zz rfl) ?_
        ·kernel_rfl
        exact n34_
       refine AEach.step (i:=15) [] #[y1,y1,y1,y1,n1,y1,y1,y1,y1,y1,y1,y1,y1,y1,n1,y1,y1,n1,n1,n1,n1,n1,n1] rfl [0,38,48,50,51] 1 ⟨[(0,.pc 0 0),(38,tS v2.f0),(48,.tv (fzL 1 (cSl 1 (cInt .u8)) ((v2.f2.take (Int.toNat v2.f4)).drop 0))),(50,.tv (.own 1 5 0 (newRowF [] 1))),(51,q0 v1)],hp8 v2⟩ ?_ (zz rfl) trivial ?_ ?_
       ·kernel_rfl
       ·refine AAny.extL 50 (cInt .u8) ([]:List Int) rfl rfl (row_at (cInt .u8) 1 (fun _=>rfl) ([]:List Int) _ rfl) ?_
        refine AAny.keepTo [0,38,48,50,51] 1 ⟨[(0,.pc 0 0),(38,tS v2.f0),(48,.tv (fzL 1 (cSl 1 (cInt .u8)) ((v2.f2.take (Int.toNat v2.f4)).drop 0))),(50,q1 ([]:List Int)),(51,q0 v1)],hp8 v2⟩ #[y1,y1,y1,y1,n1,y1,y1,y1,y1,y1,y1,y1,y1,y1,n1,y1,y1,n1,n1,n1,n1,n1,n1] ?_ rfl (zz rfl) ?_
        ·kernel_rfl
        exact n13_
       exact AEach.nil
      refine AAny.share 10 #[y1,y1,y1,n1,y1,y1,y1,y1,n1,y1,y1,y1,y1,n1,n1,y1,y1,n1,n1,n1,n1,n1,n1] ⟨[(0,.pc 0 0),(37,.pc 0 0),(39,.tv (ownL 1 22 (cSl 1 (cInt .u8)) ([]:List (List Int)))),(42,.pc 0 2),(47,tI v2.f4),(50,q1 ([]:List Int)),(51,q0 v1)],hp8 v2⟩ ?_ fun n11_=>?_
      ·refine AAny.each [3,8] (by kernel_rfl) rfl ?_
       refine AEach.step (i:=3) [] #[y1,y1,y1,y1,y1,y1,y1,y1,n1,y1,y1,y1,y1,n1,n1,y1,y1,n1,n1,n1,n1,n1,n1] rfl [0,38,39,42,47,50,51] 1 ⟨[(0,.pc 0 0),(38,tS v2.f0),(39,.tv (ownL 1 22 (cSl 1 (cInt .u8)) ([]:List (List Int)))),(42,.pc 0 2),(47,tI v2.f4),(50,q1 ([]:List Int)),(51,q0 v1)],hp8 v2⟩ ?_ (zz rfl) trivial ?_ ?_
       ·kernel_rfl
       ·exact n24_
       refine AEach.step (i:=8) [] #[y1,y1,y1,n1,y1,y1,y1,y1,y1,y1,y1,y1,y1,n1,n1,y1,y1,n1,n1,n1,n1,n1,n1] rfl [0,37,39,43,47,50,51] 1 ⟨[(0,.pc 0 0),(37,.pc 0 0),(39,.tv (ownL 1 22 (cSl 1 (cInt .u8)) ([]:List (List Int)))),(43,.tv (fzL 1 (cSl 1 (cInt .u8)) v2.f2)),(47,tI v2.f4),(50,q1 ([]:List Int)),(51,q0 v1)],hp8 v2⟩ ?_ (zz rfl) trivial ?_ ?_
       ·kernel_rfl
       ·refine AAny.go (by kernel_rfl) [13] (fuel':=8) rfl [(0:Int) ≤ (0:Int),(0:Int) ≤ v2.f4,v2.f4 ≤ (v2.f2.length:Int)] #[y1,y1,y1,n1,y1,y1,y1,y1,y1,y1,y1,y1,y1,y1,n1,y1,y1,n1,n1,n1,n1,n1,n1] [0,37,39,48,50,51] 1 ⟨[(0,.pc 0 0),(37,.pc 0 0),(39,.tv (ownL 1 22 (cSl 1 (cInt .u8)) ([]:List (List Int)))),(48,.tv (.fz 1 ((Int.toNat v2.f4) - 0) (fun i=>(cSl 1 (cInt .u8)) (v2.f2.getD (0 + i) default)))),(50,q1 ([]:List Int)),(51,q0 v1)],hp8 v2⟩ ?_ (zz rfl) ⟨(by decide:(0:Int) ≤ (0:Int)),hd13.1,hd13.2⟩ ?_
        ·kernel_rfl
        have hb:(Int.toNat v2.f4) ≤ v2.f2.length:=by have hh:v2.f4 ≤ (v2.f2.length:Int):=hd13.2; omega
        refine AAny.extFzL (s:=48) rfl (sub_len v2.f2 0 (Int.toNat v2.f4) hb) (sub_at (cSl 1 (cInt .u8)) v2.f2 0 (Int.toNat v2.f4) hb) ?_
        refine AAny.keepTo [0,37,39,48,50,51] 1 ⟨[(0,.pc 0 0),(37,.pc 0 0),(39,.tv (ownL 1 22 (cSl 1 (cInt .u8)) ([]:List (List Int)))),(48,.tv (fzL 1 (cSl 1 (cInt .u8)) ((v2.f2.take (Int.toNat v2.f4)).drop 0))),(50,q1 ([]:List Int)),(51,q0 v1)],hp8 v2⟩ #[y1,y1,y1,n1,y1,y1,y1,y1,y1,y1,y1,y1,y1,y1,n1,y1,y1,n1,n1,n1,n1,n1,n1] ?_ rfl (zz rfl) ?_
        ·kernel_rfl
        exact n14_
       exact AEach.nil
      refine AAny.share 10 #[y1,y1,y1,y1,n1,y1,y1,y1,n1,y1,y1,y1,y1,n1,n1,y1,y1,n1,n1,n1,n1,n1,n1] ⟨[(0,.pc 0 0),(38,tS v2.f0),(42,.pc 0 2),(47,tI v2.f4),(50,q1 ([]:List Int)),(51,q0 v1)],hp8 v2⟩ ?_ fun n10_=>?_
      ·refine AAny.each [4,8] (by kernel_rfl) rfl ?_
       refine AEach.step (i:=4) [] #[y1,y1,y1,y1,y1,y1,y1,y1,n1,y1,y1,y1,y1,n1,n1,y1,y1,n1,n1,n1,n1,n1,n1] rfl [0,38,39,42,47,50,51] 1 ⟨[(0,.pc 0 0),(38,tS v2.f0),(39,.tv (.own 1 22 0 (newRowF [] 1))),(42,.pc 0 2),(47,tI v2.f4),(50,q1 ([]:List Int)),(51,q0 v1)],hp8 v2⟩ ?_ (zz rfl) trivial ?_ ?_
       ·kernel_rfl
       ·refine AAny.extL 39 (cSl 1 (cInt .u8)) ([]:List (List Int)) rfl rfl (row_at (cSl 1 (cInt .u8)) 1 (fun _=>rfl) ([]:List (List Int)) _ rfl) ?_
        refine AAny.keepTo [0,38,39,42,47,50,51] 1 ⟨[(0,.pc 0 0),(38,tS v2.f0),(39,.tv (ownL 1 22 (cSl 1 (cInt .u8)) ([]:List (List Int)))),(42,.pc 0 2),(47,tI v2.f4),(50,q1 ([]:List Int)),(51,q0 v1)],hp8 v2⟩ #[y1,y1,y1,y1,y1,y1,y1,y1,n1,y1,y1,y1,y1,n1,n1,y1,y1,n1,n1,n1,n1,n1,n1] ?_ rfl (zz rfl) ?_
        ·kernel_rfl
        exact n24_
       refine AEach.step (i:=8) [] #[y1,y1,y1,y1,n1,y1,y1,y1,y1,y1,y1,y1,y1,n1,n1,y1,y1,n1,n1,n1,n1,n1,n1] rfl [0,38,43,47,50,51] 1 ⟨[(0,.pc 0 0),(38,tS v2.f0),(43,.tv (fzL 1 (cSl 1 (cInt .u8)) v2.f2)),(47,tI v2.f4),(50,q1 ([]:List Int)),(51,q0 v1)],hp8 v2⟩ ?_ (zz rfl) trivial ?_ ?_
       ·kernel_rfl
       ·refine AAny.go (by kernel_rfl) [13] (fuel':=8) rfl [(0:Int) ≤ (0:Int),(0:Int) ≤ v2.f4,v2.f4 ≤ (v2.f2.length:Int)] #[y1,y1,y1,y1,n1,y1,y1,y1,y1,y1,y1,y1,y1,y1,n1,y1,y1,n1,n1,n1,n1,n1,n1] [0,38,48,50,51] 1 ⟨[(0,.pc 0 0),(38,tS v2.f0),(48,.tv (.fz 1 ((Int.toNat v2.f4) - 0) (fun i=>(cSl 1 (cInt .u8)) (v2.f2.getD (0 + i) default)))),(50,q1 ([]:List Int)),(51,q0 v1)],hp8 v2⟩ ?_ (zz rfl) ⟨(by decide:(0:Int) ≤ (0:Int)),hd13.1,hd13.2⟩ ?_
        ·kernel_rfl
        have hb:(Int.toNat v2.f4) ≤ v2.f2.length:=by have hh:v2.f4 ≤ (v2.f2.length:Int):=hd13.2; omega
        refine AAny.extFzL (s:=48) rfl (sub_len v2.f2 0 (Int.toNat v2.f4) hb) (sub_at (cSl 1 (cInt .u8)) v2.f2 0 (Int.toNat v2.f4) hb) ?_
        refine AAny.keepTo [0,38,48,50,51] 1 ⟨[(0,.pc 0 0),(38,tS v2.f0),(48,.tv (fzL 1 (cSl 1 (cInt .u8)) ((v2.f2.take (Int.toNat v2.f4)).drop 0))),(50,q1 ([]:List Int)),(51,q0 v1)],hp8 v2⟩ #[y1,y1,y1,y1,n1,y1,y1,y1,y1,y1,y1,y1,y1,y1,n1,y1,y1,n1,n1,n1,n1,n1,n1] ?_ rfl (zz rfl) ?_
        ·kernel_rfl
        exact n13_
       exact AEach.nil
      refine AAny.share 10 #[y1,y1,y1,n1,y1,y1,y1,y1,y1,y1,y1,y1,n1,n1,n1,y1,y1,n1,n1,n1,n1,n1,n1] ⟨[(0,.pc 0 0),(37,.pc 0 0),(39,.tv (ownL 1 22 (cSl 1 (cInt .u8)) ([]:List (List Int)))),(43,.tv (fzL 1 (cSl 1 (cInt .u8)) v2.f2)),(46,.pc 0 4),(50,q1 ([]:List Int)),(51,q0 v1)],hp8 v2⟩ ?_ fun n26_=>?_
      ·refine AAny.each [3,12] (by kernel_rfl) rfl ?_
       refine AEach.step (i:=3) [] #[y1,y1,y1,y1,y1,y1,y1,y1,y1,y1,y1,y1,n1,n1,n1,y1,y1,n1,n1,n1,n1,n1,n1] rfl [0,38,39,43,46,50,51] 1 ⟨[(0,.pc 0 0),(38,tS v2.f0),(39,.tv (ownL 1 22 (cSl 1 (cInt .u8)) ([]:List (List Int)))),(43,.tv (fzL 1 (cSl 1 (cInt .u8)) v2.f2)),(46,.pc 0 4),(50,q1 ([]:List Int)),(51,q0 v1)],hp8 v2⟩ ?_ (zz rfl) trivial ?_ ?_
       ·kernel_rfl
       ·exact n27_
       refine AEach.step (i:=12) [] #[y1,y1,y1,n1,y1,y1,y1,y1,y1,y1,y1,y1,y1,n1,n1,y1,y1,n1,n1,n1,n1,n1,n1] rfl [0,37,39,43,47,50,51] 1 ⟨[(0,.pc 0 0),(37,.pc 0 0),(39,.tv (ownL 1 22 (cSl 1 (cInt .u8)) ([]:List (List Int)))),(43,.tv (fzL 1 (cSl 1 (cInt .u8)) v2.f2)),(47,tI v2.f4),(50,q1 ([]:List Int)),(51,q0 v1)],hp8 v2⟩ ?_ (zz rfl) trivial ?_ ?_
       ·kernel_rfl
       ·refine AAny.go (by kernel_rfl) [13] (fuel':=8) rfl [(0:Int) ≤ (0:Int),(0:Int) ≤ v2.f4,v2.f4 ≤ (v2.f2.length:Int)] #[y1,y1,y1,n1,y1,y1,y1,y1,y1,y1,y1,y1,y1,y1,n1,y1,y1,n1,n1,n1,n1,n1,n1] [0,37,39,48,50,51] 1 ⟨[(0,.pc 0 0),(37,.pc 0 0),(39,.tv (ownL 1 22 (cSl 1 (cInt .u8)) ([]:List (List Int)))),(48,.tv (.fz 1 ((Int.toNat v2.f4) - 0) (fun i=>(cSl 1 (cInt .u8)) (v2.f2.getD (0 + i) default)))),(50,q1 ([]:List Int)),(51,q0 v1)],hp8 v2⟩ ?_ (zz rfl) ⟨(by decide:(0:Int) ≤ (0:Int)),hd13.1,hd13.2⟩ ?_
        ·kernel_rfl
        have hb:(Int.toNat v2.f4) ≤ v2.f2.length:=by have hh:v2.f4 ≤ (v2.f2.length:Int):=hd13.2; omega
        refine AAny.extFzL (s:=48) rfl (sub_len v2.f2 0 (Int.toNat v2.f4) hb) (sub_at (cSl 1 (cInt .u8)) v2.f2 0 (Int.toNat v2.f4) hb) ?_
        refine AAny.keepTo [0,37,39,48,50,51] 1 ⟨[(0,.pc 0 0),(37,.pc 0 0),(39,.tv (ownL 1 22 (cSl 1 (cInt .u8)) ([]:List (List Int)))),(48,.tv (fzL 1 (cSl 1 (cInt .u8)) ((v2.f2.take (Int.toNat v2.f4)).drop 0))),(50,q1 ([]:List Int)),(51,q0 v1)],hp8 v2⟩ #[y1,y1,y1,n1,y1,y1,y1,y1,y1,y1,y1,y1,y1,y1,n1,y1,y1,n1,n1,n1,n1,n1,n1] ?_ rfl (zz rfl) ?_
        ·kernel_rfl
        exact n14_
       exact AEach.nil
      refine AAny.share 10 #[y1,y1,y1,y1,n1,y1,y1,y1,y1,y1,y1,y1,n1,n1,n1,y1,y1,n1,n1,n1,n1,n1,n1] ⟨[(0,.pc 0 0),(38,tS v2.f0),(43,.tv (fzL 1 (cSl 1 (cInt .u8)) v2.f2)),(46,.pc 0 4),(50,q1 ([]:List Int)),(51,q0 v1)],hp8 v2⟩ ?_ fun n25_=>?_
      ·refine AAny.each [4,12] (by kernel_rfl) rfl ?_
       refine AEach.step (i:=4) [] #[y1,y1,y1,y1,y1,y1,y1,y1,y1,y1,y1,y1,n1,n1,n1,y1,y1,n1,n1,n1,n1,n1,n1] rfl [0,38,39,43,46,50,51] 1 ⟨[(0,.pc 0 0),(38,tS v2.f0),(39,.tv (.own 1 22 0 (newRowF [] 1))),(43,.tv (fzL 1 (cSl 1 (cInt .u8)) v2.f2)),(46,.pc 0 4),(50,q1 ([]:List Int)),(51,q0 v1)],hp8 v2⟩ ?_ (zz rfl) trivial ?_ ?_
       ·kernel_rfl
       ·refine AAny.extL 39 (cSl 1 (cInt .u8)) ([]:List (List Int)) rfl rfl (row_at (cSl 1 (cInt .u8)) 1 (fun _=>rfl) ([]:List (List Int)) _ rfl) ?_
        refine AAny.keepTo [0,38,39,43,46,50,51] 1 ⟨[(0,.pc 0 0),(38,tS v2.f0),(39,.tv (ownL 1 22 (cSl 1 (cInt .u8)) ([]:List (List Int)))),(43,.tv (fzL 1 (cSl 1 (cInt .u8)) v2.f2)),(46,.pc 0 4),(50,q1 ([]:List Int)),(51,q0 v1)],hp8 v2⟩ #[y1,y1,y1,y1,y1,y1,y1,y1,y1,y1,y1,y1,n1,n1,n1,y1,y1,n1,n1,n1,n1,n1,n1] ?_ rfl (zz rfl) ?_
        ·kernel_rfl
        exact n27_
       refine AEach.step (i:=12) [] #[y1,y1,y1,y1,n1,y1,y1,y1,y1,y1,y1,y1,y1,n1,n1,y1,y1,n1,n1,n1,n1,n1,n1] rfl [0,38,43,47,50,51] 1 ⟨[(0,.pc 0 0),(38,tS v2.f0),(43,.tv (fzL 1 (cSl 1 (cInt .u8)) v2.f2)),(47,tI v2.f4),(50,q1 ([]:List Int)),(51,q0 v1)],hp8 v2⟩ ?_ (zz rfl) trivial ?_ ?_
       ·kernel_rfl
       ·refine AAny.go (by kernel_rfl) [13] (fuel':=8) rfl [(0:Int) ≤ (0:Int),(0:Int) ≤ v2.f4,v2.f4 ≤ (v2.f2.length:Int)] #[y1,y1,y1,y1,n1,y1,y1,y1,y1,y1,y1,y1,y1,y1,n1,y1,y1,n1,n1,n1,n1,n1,n1] [0,38,48,50,51] 1 ⟨[(0,.pc 0 0),(38,tS v2.f0),(48,.tv (.fz 1 ((Int.toNat v2.f4) - 0) (fun i=>(cSl 1 (cInt .u8)) (v2.f2.getD (0 + i) default)))),(50,q1 ([]:List Int)),(51,q0 v1)],hp8 v2⟩ ?_ (zz rfl) ⟨(by decide:(0:Int) ≤ (0:Int)),hd13.1,hd13.2⟩ ?_
        ·kernel_rfl
        have hb:(Int.toNat v2.f4) ≤ v2.f2.length:=by have hh:v2.f4 ≤ (v2.f2.length:Int):=hd13.2; omega
        refine AAny.extFzL (s:=48) rfl (sub_len v2.f2 0 (Int.toNat v2.f4) hb) (sub_at (cSl 1 (cInt .u8)) v2.f2 0 (Int.toNat v2.f4) hb) ?_
        refine AAny.keepTo [0,38,48,50,51] 1 ⟨[(0,.pc 0 0),(38,tS v2.f0),(48,.tv (fzL 1 (cSl 1 (cInt .u8)) ((v2.f2.take (Int.toNat v2.f4)).drop 0))),(50,q1 ([]:List Int)),(51,q0 v1)],hp8 v2⟩ #[y1,y1,y1,y1,n1,y1,y1,y1,y1,y1,y1,y1,y1,y1,n1,y1,y1,n1,n1,n1,n1,n1,n1] ?_ rfl (zz rfl) ?_
        ·kernel_rfl
        exact n13_
       exact AEach.nil
      refine AAny.share 10 #[y1,y1,y1,y1,y1,y1,y1,y1,n1,y1,y1,y1,n1,n1,n1,y1,y1,n1,n1,n1,n1,n1,n1] ⟨[(0,.pc 0 0),(38,tS v2.f0),(39,.tv (ownL 1 22 (cSl 1 (cInt .u8)) ([]:List (List Int)))),(42,.pc 0 2),(46,.pc 0 4),(50,q1 ([]:List Int)),(51,q0 v1)],hp8 v2⟩ ?_ fun n28_=>?_
      ·refine AAny.each [8,12] (by kernel_rfl) rfl ?_
       refine AEach.step (i:=8) [] #[y1,y1,y1,y1,y1,y1,y1,y1,y1,y1,y1,y1,n1,n1,n1,y1,y1,n1,n1,n1,n1,n1,n1] rfl [0,38,39,43,46,50,51] 1 ⟨[(0,.pc 0 0),(38,tS v2.f0),(39,.tv (ownL 1 22 (cSl 1 (cInt .u8)) ([]:List (List Int)))),(43,.tv (fzL 1 (cSl 1 (cInt .u8)) v2.f2)),(46,.pc 0 4),(50,q1 ([]:List Int)),(51,q0 v1)],hp8 v2⟩ ?_ (zz rfl) trivial ?_ ?_
       ·kernel_rfl
       ·exact n27_
       refine AEach.step (i:=12) [] #[y1,y1,y1,y1,y1,y1,y1,y1,n1,y1,y1,y1,y1,n1,n1,y1,y1,n1,n1,n1,n1,n1,n1] rfl [0,38,39,42,47,50,51] 1 ⟨[(0,.pc 0 0),(38,tS v2.f0),(39,.tv (ownL 1 22 (cSl 1 (cInt .u8)) ([]:List (List Int)))),(42,.pc 0 2),(47,tI v2.f4),(50,q1 ([]:List Int)),(51,q0 v1)],hp8 v2⟩ ?_ (zz rfl) trivial ?_ ?_
       ·kernel_rfl
       ·exact n24_
       exact AEach.nil
      refine AAny.share 10 #[y1,y1,y1,n1,n1,y1,y1,y1,y1,y1,y1,y1,y1,y1,n1,n1,y1,n1,n1,n1,n1,n1,n1] ⟨[(0,.pc 0 0),(37,.pc 0 0),(48,.tv (fzL 1 (cSl 1 (cInt .u8)) ((v2.f2.take (Int.toNat v2.f4)).drop 0))),(51,q0 v1)],hp8 v2⟩ ?_ fun n31_=>?_
      ·refine AAny.each [3,4,15] (by kernel_rfl) rfl ?_
       refine AEach.step (i:=3) [] #[y1,y1,y1,y1,n1,y1,y1,y1,y1,y1,y1,y1,y1,y1,n1,n1,y1,n1,n1,n1,n1,n1,n1] rfl [0,38,48,51] 1 ⟨[(0,.pc 0 0),(38,tS v2.f0),(48,.tv (fzL 1 (cSl 1 (cInt .u8)) ((v2.f2.take (Int.toNat v2.f4)).drop 0))),(51,q0 v1)],hp8 v2⟩ ?_ (zz rfl) trivial ?_ ?_
       ·kernel_rfl
       ·exact n32_
       refine AEach.step (i:=4) [] #[y1,y1,y1,n1,y1,y1,y1,y1,y1,y1,y1,y1,y1,y1,n1,n1,y1,n1,n1,n1,n1,n1,n1] rfl [0,37,39,48,51] 1 ⟨[(0,.pc 0 0),(37,.pc 0 0),(39,.tv (.own 1 22 0 (newRowF [] 1))),(48,.tv (fzL 1 (cSl 1 (cInt .u8)) ((v2.f2.take (Int.toNat v2.f4)).drop 0))),(51,q0 v1)],hp8 v2⟩ ?_ (zz rfl) trivial ?_ ?_
       ·kernel_rfl
       ·refine AAny.extL 39 (cSl 1 (cInt .u8)) ([]:List (List Int)) rfl rfl (row_at (cSl 1 (cInt .u8)) 1 (fun _=>rfl) ([]:List (List Int)) _ rfl) ?_
        refine AAny.keepTo [0,37,39,48,51] 1 ⟨[(0,.pc 0 0),(37,.pc 0 0),(39,.tv (ownL 1 22 (cSl 1 (cInt .u8)) ([]:List (List Int)))),(48,.tv (fzL 1 (cSl 1 (cInt .u8)) ((v2.f2.take (Int.toNat v2.f4)).drop 0))),(51,q0 v1)],hp8 v2⟩ #[y1,y1,y1,n1,y1,y1,y1,y1,y1,y1,y1,y1,y1,y1,n1,n1,y1,n1,n1,n1,n1,n1,n1] ?_ rfl (zz rfl) ?_
        ·kernel_rfl
        exact n33_
       refine AEach.step (i:=15) [] #[y1,y1,y1,n1,n1,y1,y1,y1,y1,y1,y1,y1,y1,y1,n1,y1,y1,n1,n1,n1,n1,n1,n1] rfl [0,37,48,50,51] 1 ⟨[(0,.pc 0 0),(37,.pc 0 0),(48,.tv (fzL 1 (cSl 1 (cInt .u8)) ((v2.f2.take (Int.toNat v2.f4)).drop 0))),(50,.tv (.own 1 5 0 (newRowF [] 1))),(51,q0 v1)],hp8 v2⟩ ?_ (zz rfl) trivial ?_ ?_
       ·kernel_rfl
       ·refine AAny.extL 50 (cInt .u8) ([]:List Int) rfl rfl (row_at (cInt .u8) 1 (fun _=>rfl) ([]:List Int) _ rfl) ?_
        refine AAny.keepTo [0,37,48,50,51] 1 ⟨[(0,.pc 0 0),(37,.pc 0 0),(48,.tv (fzL 1 (cSl 1 (cInt .u8)) ((v2.f2.take (Int.toNat v2.f4)).drop 0))),(50,q1 ([]:List Int)),(51,q0 v1)],hp8 v2⟩ #[y1,y1,y1,n1,n1,y1,y1,y1,y1,y1,y1,y1,y1,y1,n1,y1,y1,n1,n1,n1,n1,n1,n1] ?_ rfl (zz rfl) ?_
        ·kernel_rfl
        exact n12_
       exact AEach.nil
      refine AAny.share 10 #[y1,y1,y1,y1,y1,y1,y1,y1,n1,y1,y1,y1,y1,n1,n1,n1,y1,n1,n1,n1,n1,n1,n1] ⟨[(0,.pc 0 0),(38,tS v2.f0),(39,.tv (ownL 1 22 (cSl 1 (cInt .u8)) ([]:List (List Int)))),(42,.pc 0 2),(47,tI v2.f4),(51,q0 v1)],hp8 v2⟩ ?_ fun n37_=>?_
      ·refine AAny.each [8,15] (by kernel_rfl) rfl ?_
       refine AEach.step (i:=8) [] #[y1,y1,y1,y1,y1,y1,y1,y1,y1,y1,y1,y1,y1,n1,n1,n1,y1,n1,n1,n1,n1,n1,n1] rfl [0,38,39,43,47,51] 1 ⟨[(0,.pc 0 0),(38,tS v2.f0),(39,.tv (ownL 1 22 (cSl 1 (cInt .u8)) ([]:List (List Int)))),(43,.tv (fzL 1 (cSl 1 (cInt .u8)) v2.f2)),(47,tI v2.f4),(51,q0 v1)],hp8 v2⟩ ?_ (zz rfl) trivial ?_ ?_
       ·kernel_rfl
       ·refine AAny.go (by kernel_rfl) [13] (fuel':=8) rfl [(0:Int) ≤ (0:Int),(0:Int) ≤ v2.f4,v2.f4 ≤ (v2.f2.length:Int)] #[y1,y1,y1,y1,y1,y1,y1,y1,y1,y1,y1,y1,y1,y1,n1,n1,y1,n1,n1,n1,n1,n1,n1] [0,38,39,48,51] 1 ⟨[(0,.pc 0 0),(38,tS v2.f0),(39,.tv (ownL 1 22 (cSl 1 (cInt .u8)) ([]:List (List Int)))),(48,.tv (.fz 1 ((Int.toNat v2.f4) - 0) (fun i=>(cSl 1 (cInt .u8)) (v2.f2.getD (0 + i) default)))),(51,q0 v1)],hp8 v2⟩ ?_ (zz rfl) ⟨(by decide:(0:Int) ≤ (0:Int)),hd13.1,hd13.2⟩ ?_
        ·kernel_rfl
        have hb:(Int.toNat v2.f4) ≤ v2.f2.length:=by have hh:v2.f4 ≤ (v2.f2.length:Int):=hd13.2; omega
        refine AAny.extFzL (s:=48) rfl (sub_len v2.f2 0 (Int.toNat v2.f4) hb) (sub_at (cSl 1 (cInt .u8)) v2.f2 0 (Int.toNat v2.f4) hb) ?_
        refine AAny.keepTo [0,38,39,48,51] 1 ⟨[(0,.pc 0 0),(38,tS v2.f0),(39,.tv (ownL 1 22 (cSl 1 (cInt .u8)) ([]:List (List Int)))),(48,.tv (fzL 1 (cSl 1 (cInt .u8)) ((v2.f2.take (Int.toNat v2.f4)).drop 0))),(51,q0 v1)],hp8 v2⟩ #[y1,y1,y1,y1,y1,y1,y1,y1,y1,y1,y1,y1,y1,y1,n1,n1,y1,n1,n1,n1,n1,n1,n1] ?_ rfl (zz rfl) ?_
        ·kernel_rfl
        exact n34_
       refine AEach.step (i:=15) [] #[y1,y1,y1,y1,y1,y1,y1,y1,n1,y1,y1,y1,y1,n1,n1,y1,y1,n1,n1,n1,n1,n1,n1] rfl [0,38,39,42,47,50,51] 1 ⟨[(0,.pc 0 0),(38,tS v2.f0),(39,.tv (ownL 1 22 (cSl 1 (cInt .u8)) ([]:List (List Int)))),(42,.pc 0 2),(47,tI v2.f4),(50,.tv (.own 1 5 0 (newRowF [] 1))),(51,q0 v1)],hp8 v2⟩ ?_ (zz rfl) trivial ?_ ?_
       ·kernel_rfl
       ·refine AAny.extL 50 (cInt .u8) ([]:List Int) rfl rfl (row_at (cInt .u8) 1 (fun _=>rfl) ([]:List Int) _ rfl) ?_
        refine AAny.keepTo [0,38,39,42,47,50,51] 1 ⟨[(0,.pc 0 0),(38,tS v2.f0),(39,.tv (ownL 1 22 (cSl 1 (cInt .u8)) ([]:List (List Int)))),(42,.pc 0 2),(47,tI v2.f4),(50,q1 ([]:List Int)),(51,q0 v1)],hp8 v2⟩ #[y1,y1,y1,y1,y1,y1,y1,y1,n1,y1,y1,y1,y1,n1,n1,y1,y1,n1,n1,n1,n1,n1,n1] ?_ rfl (zz rfl) ?_
        ·kernel_rfl
        exact n24_
       exact AEach.nil
      refine AAny.share 10 #[y1,y1,y1,y1,y1,y1,y1,y1,y1,y1,y1,y1,n1,n1,n1,n1,y1,n1,n1,n1,n1,n1,n1] ⟨[(0,.pc 0 0),(38,tS v2.f0),(39,.tv (ownL 1 22 (cSl 1 (cInt .u8)) ([]:List (List Int)))),(43,.tv (fzL 1 (cSl 1 (cInt .u8)) v2.f2)),(46,.pc 0 4),(51,q0 v1)],hp8 v2⟩ ?_ fun n40_=>?_
      ·refine AAny.each [12,15] (by kernel_rfl) rfl ?_
       refine AEach.step (i:=12) [] #[y1,y1,y1,y1,y1,y1,y1,y1,y1,y1,y1,y1,y1,n1,n1,n1,y1,n1,n1,n1,n1,n1,n1] rfl [0,38,39,43,47,51] 1 ⟨[(0,.pc 0 0),(38,tS v2.f0),(39,.tv (ownL 1 22 (cSl 1 (cInt .u8)) ([]:List (List Int)))),(43,.tv (fzL 1 (cSl 1 (cInt .u8)) v2.f2)),(47,tI v2.f4),(51,q0 v1)],hp8 v2⟩ ?_ (zz rfl) trivial ?_ ?_
       ·kernel_rfl
       ·refine AAny.go (by kernel_rfl) [13] (fuel':=8) rfl [(0:Int) ≤ (0:Int),(0:Int) ≤ v2.f4,v2.f4 ≤ (v2.f2.length:Int)] #[y1,y1,y1,y1,y1,y1,y1,y1,y1,y1,y1,y1,y1,y1,n1,n1,y1,n1,n1,n1,n1,n1,n1] [0,38,39,48,51] 1 ⟨[(0,.pc 0 0),(38,tS v2.f0),(39,.tv (ownL 1 22 (cSl 1 (cInt .u8)) ([]:List (List Int)))),(48,.tv (.fz 1 ((Int.toNat v2.f4) - 0) (fun i=>(cSl 1 (cInt .u8)) (v2.f2.getD (0 + i) default)))),(51,q0 v1)],hp8 v2⟩ ?_ (zz rfl) ⟨(by decide:(0:Int) ≤ (0:Int)),hd13.1,hd13.2⟩ ?_
        ·kernel_rfl
        have hb:(Int.toNat v2.f4) ≤ v2.f2.length:=by have hh:v2.f4 ≤ (v2.f2.length:Int):=hd13.2; omega
        refine AAny.extFzL (s:=48) rfl (sub_len v2.f2 0 (Int.toNat v2.f4) hb) (sub_at (cSl 1 (cInt .u8)) v2.f2 0 (Int.toNat v2.f4) hb) ?_
        refine AAny.keepTo [0,38,39,48,51] 1 ⟨[(0,.pc 0 0),(38,tS v2.f0),(39,.tv (ownL 1 22 (cSl 1 (cInt .u8)) ([]:List (List Int)))),(48,.tv (fzL 1 (cSl 1 (cInt .u8)) ((v2.f2.take (Int.toNat v2.f4)).drop 0))),(51,q0 v1)],hp8 v2⟩ #[y1,y1,y1,y1,y1,y1,y1,y1,y1,y1,y1,y1,y1,y1,n1,n1,y1,n1,n1,n1,n1,n1,n1] ?_ rfl (zz rfl) ?_
        ·kernel_rfl
        exact n34_
       refine AEach.step (i:=15) [] #[y1,y1,y1,y1,y1,y1,y1,y1,y1,y1,y1,y1,n1,n1,n1,y1,y1,n1,n1,n1,n1,n1,n1] rfl [0,38,39,43,46,50,51] 1 ⟨[(0,.pc 0 0),(38,tS v2.f0),(39,.tv (ownL 1 22 (cSl 1 (cInt .u8)) ([]:List (List Int)))),(43,.tv (fzL 1 (cSl 1 (cInt .u8)) v2.f2)),(46,.pc 0 4),(50,.tv (.own 1 5 0 (newRowF [] 1))),(51,q0 v1)],hp8 v2⟩ ?_ (zz rfl) trivial ?_ ?_
       ·kernel_rfl
       ·refine AAny.extL 50 (cInt .u8) ([]:List Int) rfl rfl (row_at (cInt .u8) 1 (fun _=>rfl) ([]:List Int) _ rfl) ?_
        refine AAny.keepTo [0,38,39,43,46,50,51] 1 ⟨[(0,.pc 0 0),(38,tS v2.f0),(39,.tv (ownL 1 22 (cSl 1 (cInt .u8)) ([]:List (List Int)))),(43,.tv (fzL 1 (cSl 1 (cInt .u8)) v2.f2)),(46,.pc 0 4),(50,q1 ([]:List Int)),(51,q0 v1)],hp8 v2⟩ #[y1,y1,y1,y1,y1,y1,y1,y1,y1,y1,y1,y1,n1,n1,n1,y1,y1,n1,n1,n1,n1,n1,n1] ?_ rfl (zz rfl) ?_
        ·kernel_rfl
        exact n27_
       exact AEach.nil
      refine AAny.share 11 #[y1,y1,y1,n1,n1,y1,y1,y1,n1,y1,y1,y1,y1,n1,n1,y1,y1,n1,n1,n1,n1,n1,n1] ⟨[(0,.pc 0 0),(37,.pc 0 0),(42,.pc 0 2),(47,tI v2.f4),(50,q1 ([]:List Int)),(51,q0 v1)],hp8 v2⟩ ?_ fun n9_=>?_
      ·refine AAny.each [3,4,8] (by kernel_rfl) rfl ?_
       refine AEach.step (i:=3) [] #[y1,y1,y1,y1,n1,y1,y1,y1,n1,y1,y1,y1,y1,n1,n1,y1,y1,n1,n1,n1,n1,n1,n1] rfl [0,38,42,47,50,51] 1 ⟨[(0,.pc 0 0),(38,tS v2.f0),(42,.pc 0 2),(47,tI v2.f4),(50,q1 ([]:List Int)),(51,q0 v1)],hp8 v2⟩ ?_ (zz rfl) trivial ?_ ?_
       ·kernel_rfl
       ·exact n10_
       refine AEach.step (i:=4) [] #[y1,y1,y1,n1,y1,y1,y1,y1,n1,y1,y1,y1,y1,n1,n1,y1,y1,n1,n1,n1,n1,n1,n1] rfl [0,37,39,42,47,50,51] 1 ⟨[(0,.pc 0 0),(37,.pc 0 0),(39,.tv (.own 1 22 0 (newRowF [] 1))),(42,.pc 0 2),(47,tI v2.f4),(50,q1 ([]:List Int)),(51,q0 v1)],hp8 v2⟩ ?_ (zz rfl) trivial ?_ ?_
       ·kernel_rfl
       ·refine AAny.extL 39 (cSl 1 (cInt .u8)) ([]:List (List Int)) rfl rfl (row_at (cSl 1 (cInt .u8)) 1 (fun _=>rfl) ([]:List (List Int)) _ rfl) ?_
        refine AAny.keepTo [0,37,39,42,47,50,51] 1 ⟨[(0,.pc 0 0),(37,.pc 0 0),(39,.tv (ownL 1 22 (cSl 1 (cInt .u8)) ([]:List (List Int)))),(42,.pc 0 2),(47,tI v2.f4),(50,q1 ([]:List Int)),(51,q0 v1)],hp8 v2⟩ #[y1,y1,y1,n1,y1,y1,y1,y1,n1,y1,y1,y1,y1,n1,n1,y1,y1,n1,n1,n1,n1,n1,n1] ?_ rfl (zz rfl) ?_
        ·kernel_rfl
        exact n11_
       refine AEach.step (i:=8) [] #[y1,y1,y1,n1,n1,y1,y1,y1,y1,y1,y1,y1,y1,n1,n1,y1,y1,n1,n1,n1,n1,n1,n1] rfl [0,37,43,47,50,51] 1 ⟨[(0,.pc 0 0),(37,.pc 0 0),(43,.tv (fzL 1 (cSl 1 (cInt .u8)) v2.f2)),(47,tI v2.f4),(50,q1 ([]:List Int)),(51,q0 v1)],hp8 v2⟩ ?_ (zz rfl) trivial ?_ ?_
       ·kernel_rfl
       ·refine AAny.go (by kernel_rfl) [13] (fuel':=9) rfl [(0:Int) ≤ (0:Int),(0:Int) ≤ v2.f4,v2.f4 ≤ (v2.f2.length:Int)] #[y1,y1,y1,n1,n1,y1,y1,y1,y1,y1,y1,y1,y1,y1,n1,y1,y1,n1,n1,n1,n1,n1,n1] [0,37,48,50,51] 1 ⟨[(0,.pc 0 0),(37,.pc 0 0),(48,.tv (.fz 1 ((Int.toNat v2.f4) - 0) (fun i=>(cSl 1 (cInt .u8)) (v2.f2.getD (0 + i) default)))),(50,q1 ([]:List Int)),(51,q0 v1)],hp8 v2⟩ ?_ (zz rfl) ⟨(by decide:(0:Int) ≤ (0:Int)),hd13.1,hd13.2⟩ ?_
        ·kernel_rfl
        have hb:(Int.toNat v2.f4) ≤ v2.f2.length:=by have hh:v2.f4 ≤ (v2.f2.length:Int):=hd13.2; omega
        refine AAny.extFzL (s:=48) rfl (sub_len v2.f2 0 (Int.toNat v2.f4) hb) (sub_at (cSl 1 (cInt .u8)) v2.f2 0 (Int.toNat v2.f4) hb) ?_
        refine AAny.keepTo [0,37,48,50,51] 1 ⟨[(0,.pc 0 0),(37,.pc 0 0),(48,.tv (fzL 1 (cSl 1 (cInt .u8)) ((v2.f2.take (Int.toNat v2.f4)).drop 0))),(50,q1 ([]:List Int)),(51,q0 v1)],hp8 v2⟩ #[y1,y1,y1,n1,n1,y1,y1,y1,y1,y1,y1,y1,y1,y1,n1,y1,y1,n1,n1,n1,n1,n1,n1] ?_ rfl (zz rfl) ?_
        ·kernel_rfl
        exact n12_
       exact AEach.nil
      refine AAny.share 11 #[y1,y1,y1,n1,n1,y1,y1,y1,y1,y1,y1,y1,n1,n1,n1,y1,y1,n1,n1,n1,n1,n1,n1] ⟨[(0,.pc 0 0),(37,.pc 0 0),(43,.tv (fzL 1 (cSl 1 (cInt .u8)) v2.f2)),(46,.pc 0 4),(50,q1 ([]:List Int)),(51,q0 v1)],hp8 v2⟩ ?_ fun n8_=>?_
      ·refine AAny.each [3,4,12] (by kernel_rfl) rfl ?_
       refine AEach.step (i:=3) [] #[y1,y1,y1,y1,n1,y1,y1,y1,y1,y1,y1,y1,n1,n1,n1,y1,y1,n1,n1,n1,n1,n1,n1] rfl [0,38,43,46,50,51] 1 ⟨[(0,.pc 0 0),(38,tS v2.f0),(43,.tv (fzL 1 (cSl 1 (cInt .u8)) v2.f2)),(46,.pc 0 4),(50,q1 ([]:List Int)),(51,q0 v1)],hp8 v2⟩ ?_ (zz rfl) trivial ?_ ?_
       ·kernel_rfl
       ·exact n25_
       refine AEach.step (i:=4) [] #[y1,y1,y1,n1,y1,y1,y1,y1,y1,y1,y1,y1,n1,n1,n1,y1,y1,n1,n1,n1,n1,n1,n1] rfl [0,37,39,43,46,50,51] 1 ⟨[(0,.pc 0 0),(37,.pc 0 0),(39,.tv (.own 1 22 0 (newRowF [] 1))),(43,.tv (fzL 1 (cSl 1 (cInt .u8)) v2.f2)),(46,.pc 0 4),(50,q1 ([]:List Int)),(51,q0 v1)],hp8 v2⟩ ?_ (zz rfl) trivial ?_ ?_
       ·kernel_rfl
       ·refine AAny.extL 39 (cSl 1 (cInt .u8)) ([]:List (List Int)) rfl rfl (row_at (cSl 1 (cInt .u8)) 1 (fun _=>rfl) ([]:List (List Int)) _ rfl) ?_
        refine AAny.keepTo [0,37,39,43,46,50,51] 1 ⟨[(0,.pc 0 0),(37,.pc 0 0),(39,.tv (ownL 1 22 (cSl 1 (cInt .u8)) ([]:List (List Int)))),(43,.tv (fzL 1 (cSl 1 (cInt .u8)) v2.f2)),(46,.pc 0 4),(50,q1 ([]:List Int)),(51,q0 v1)],hp8 v2⟩ #[y1,y1,y1,n1,y1,y1,y1,y1,y1,y1,y1,y1,n1,n1,n1,y1,y1,n1,n1,n1,n1,n1,n1] ?_ rfl (zz rfl) ?_
        ·kernel_rfl
        exact n26_
       refine AEach.step (i:=12) [] #[y1,y1,y1,n1,n1,y1,y1,y1,y1,y1,y1,y1,y1,n1,n1,y1,y1,n1,n1,n1,n1,n1,n1] rfl [0,37,43,47,50,51] 1 ⟨[(0,.pc 0 0),(37,.pc 0 0),(43,.tv (fzL 1 (cSl 1 (cInt .u8)) v2.f2)),(47,tI v2.f4),(50,q1 ([]:List Int)),(51,q0 v1)],hp8 v2⟩ ?_ (zz rfl) trivial ?_ ?_
       ·kernel_rfl
       ·refine AAny.go (by kernel_rfl) [13] (fuel':=9) rfl [(0:Int) ≤ (0:Int),(0:Int) ≤ v2.f4,v2.f4 ≤ (v2.f2.length:Int)] #[y1,y1,y1,n1,n1,y1,y1,y1,y1,y1,y1,y1,y1,y1,n1,y1,y1,n1,n1,n1,n1,n1,n1] [0,37,48,50,51] 1 ⟨[(0,.pc 0 0),(37,.pc 0 0),(48,.tv (.fz 1 ((Int.toNat v2.f4) - 0) (fun i=>(cSl 1 (cInt .u8)) (v2.f2.getD (0 + i) default)))),(50,q1 ([]:List Int)),(51,q0 v1)],hp8 v2⟩ ?_ (zz rfl) ⟨(by decide:(0:Int) ≤ (0:Int)),hd13.1,hd13.2⟩ ?_
        ·kernel_rfl
        have hb:(Int.toNat v2.f4) ≤ v2.f2.length:=by have hh:v2.f4 ≤ (v2.f2.length:Int):=hd13.2; omega
        refine AAny.extFzL (s:=48) rfl (sub_len v2.f2 0 (Int.toNat v2.f4) hb) (sub_at (cSl 1 (cInt .u8)) v2.f2 0 (Int.toNat v2.f4) hb) ?_
        refine AAny.keepTo [0,37,48,50,51] 1 ⟨[(0,.pc 0 0),(37,.pc 0 0),(48,.tv (fzL 1 (cSl 1 (cInt .u8)) ((v2.f2.take (Int.toNat v2.f4)).drop 0))),(50,q1 ([]:List Int)),(51,q0 v1)],hp8 v2⟩ #[y1,y1,y1,n1,n1,y1,y1,y1,y1,y1,y1,y1,y1,y1,n1,y1,y1,n1,n1,n1,n1,n1,n1] ?_ rfl (zz rfl) ?_
        ·kernel_rfl
        exact n12_
       exact AEach.nil
      refine AAny.share 11 #[y1,y1,y1,n1,y1,y1,y1,y1,n1,y1,y1,y1,n1,n1,n1,y1,y1,n1,n1,n1,n1,n1,n1] ⟨[(0,.pc 0 0),(37,.pc 0 0),(39,.tv (ownL 1 22 (cSl 1 (cInt .u8)) ([]:List (List Int)))),(42,.pc 0 2),(46,.pc 0 4),(50,q1 ([]:List Int)),(51,q0 v1)],hp8 v2⟩ ?_ fun n7_=>?_
      ·refine AAny.each [3,8,12] (by kernel_rfl) rfl ?_
       refine AEach.step (i:=3) [] #[y1,y1,y1,y1,y1,y1,y1,y1,n1,y1,y1,y1,n1,n1,n1,y1,y1,n1,n1,n1,n1,n1,n1] rfl [0,38,39,42,46,50,51] 1 ⟨[(0,.pc 0 0),(38,tS v2.f0),(39,.tv (ownL 1 22 (cSl 1 (cInt .u8)) ([]:List (List Int)))),(42,.pc 0 2),(46,.pc 0 4),(50,q1 ([]:List Int)),(51,q0 v1)],hp8 v2⟩ ?_ (zz rfl) trivial ?_ ?_
       ·kernel_rfl
       ·exact n28_
       refine AEach.step (i:=8) [] #[y1,y1,y1,n1,y1,y1,y1,y1,y1,y1,y1,y1,n1,n1,n1,y1,y1,n1,n1,n1,n1,n1,n1] rfl [0,37,39,43,46,50,51] 1 ⟨[(0,.pc 0 0),(37,.pc 0 0),(39,.tv (ownL 1 22 (cSl 1 (cInt .u8)) ([]:List (List Int)))),(43,.tv (fzL 1 (cSl 1 (cInt .u8)) v2.f2)),(46,.pc 0 4),(50,q1 ([]:List Int)),(51,q0 v1)],hp8 v2⟩ ?_ (zz rfl) trivial ?_ ?_
       ·kernel_rfl
       ·exact n26_
       refine AEach.step (i:=12) [] #[y1,y1,y1,n1,y1,y1,y1,y1,n1,y1,y1,y1,y1,n1,n1,y1,y1,n1,n1,n1,n1,n1,n1] rfl [0,37,39,42,47,50,51] 1 ⟨[(0,.pc 0 0),(37,.pc 0 0),(39,.tv (ownL 1 22 (cSl 1 (cInt .u8)) ([]:List (List Int)))),(42,.pc 0 2),(47,tI v2.f4),(50,q1 ([]:List Int)),(51,q0 v1)],hp8 v2⟩ ?_ (zz rfl) trivial ?_ ?_
       ·kernel_rfl
       ·exact n11_
       exact AEach.nil
      refine AAny.share 11 #[y1,y1,y1,y1,n1,y1,y1,y1,n1,y1,y1,y1,n1,n1,n1,y1,y1,n1,n1,n1,n1,n1,n1] ⟨[(0,.pc 0 0),(38,tS v2.f0),(42,.pc 0 2),(46,.pc 0 4),(50,q1 ([]:List Int)),(51,q0 v1)],hp8 v2⟩ ?_ fun n6_=>?_
      ·refine AAny.each [4,8,12] (by kernel_rfl) rfl ?_
       refine AEach.step (i:=4) [] #[y1,y1,y1,y1,y1,y1,y1,y1,n1,y1,y1,y1,n1,n1,n1,y1,y1,n1,n1,n1,n1,n1,n1] rfl [0,38,39,42,46,50,51] 1 ⟨[(0,.pc 0 0),(38,tS v2.f0),(39,.tv (.own 1 22 0 (newRowF [] 1))),(42,.pc 0 2),(46,.pc 0 4),(50,q1 ([]:List Int)),(51,q0 v1)],hp8 v2⟩ ?_ (zz rfl) trivial ?_ ?_
       ·kernel_rfl
       ·refine AAny.extL 39 (cSl 1 (cInt .u8)) ([]:List (List Int)) rfl rfl (row_at (cSl 1 (cInt .u8)) 1 (fun _=>rfl) ([]:List (List Int)) _ rfl) ?_
        refine AAny.keepTo [0,38,39,42,46,50,51] 1 ⟨[(0,.pc 0 0),(38,tS v2.f0),(39,.tv (ownL 1 22 (cSl 1 (cInt .u8)) ([]:List (List Int)))),(42,.pc 0 2),(46,.pc 0 4),(50,q1 ([]:List Int)),(51,q0 v1)],hp8 v2⟩ #[y1,y1,y1,y1,y1,y1,y1,y1,n1,y1,y1,y1,n1,n1,n1,y1,y1,n1,n1,n1,n1,n1,n1] ?_ rfl (zz rfl) ?_
        ·kernel_rfl
        exact n28_
       refine AEach.step (i:=8) [] #[y1,y1,y1,y1,n1,y1,y1,y1,y1,y1,y1,y1,n1,n1,n1,y1,y1,n1,n1,n1,n1,n1,n1] rfl [0,38,43,46,50,51] 1 ⟨[(0,.pc 0 0),(38,tS v2.f0),(43,.tv (fzL 1 (cSl 1 (cInt .u8)) v2.f2)),(46,.pc 0 4),(50,q1 ([]:List Int)),(51,q0 v1)],hp8 v2⟩ ?_ (zz rfl) trivial ?_ ?_
       ·kernel_rfl
       ·exact n25_
       refine AEach.step (i:=12) [] #[y1,y1,y1,y1,n1,y1,y1,y1,n1,y1,y1,y1,y1,n1,n1,y1,y1,n1,n1,n1,n1,n1,n1] rfl [0,38,42,47,50,51] 1 ⟨[(0,.pc 0 0),(38,tS v2.f0),(42,.pc 0 2),(47,tI v2.f4),(50,q1 ([]:List Int)),(51,q0 v1)],hp8 v2⟩ ?_ (zz rfl) trivial ?_ ?_
       ·kernel_rfl
       ·exact n10_
       exact AEach.nil
      refine AAny.share 11 #[y1,y1,y1,n1,y1,y1,y1,y1,n1,y1,y1,y1,y1,n1,n1,n1,y1,n1,n1,n1,n1,n1,n1] ⟨[(0,.pc 0 0),(37,.pc 0 0),(39,.tv (ownL 1 22 (cSl 1 (cInt .u8)) ([]:List (List Int)))),(42,.pc 0 2),(47,tI v2.f4),(51,q0 v1)],hp8 v2⟩ ?_ fun n30_=>?_
      ·refine AAny.each [3,8,15] (by kernel_rfl) rfl ?_
       refine AEach.step (i:=3) [] #[y1,y1,y1,y1,y1,y1,y1,y1,n1,y1,y1,y1,y1,n1,n1,n1,y1,n1,n1,n1,n1,n1,n1] rfl [0,38,39,42,47,51] 1 ⟨[(0,.pc 0 0),(38,tS v2.f0),(39,.tv (ownL 1 22 (cSl 1 (cInt .u8)) ([]:List (List Int)))),(42,.pc 0 2),(47,tI v2.f4),(51,q0 v1)],hp8 v2⟩ ?_ (zz rfl) trivial ?_ ?_
       ·kernel_rfl
       ·exact n37_
       refine AEach.step (i:=8) [] #[y1,y1,y1,n1,y1,y1,y1,y1,y1,y1,y1,y1,y1,n1,n1,n1,y1,n1,n1,n1,n1,n1,n1] rfl [0,37,39,43,47,51] 1 ⟨[(0,.pc 0 0),(37,.pc 0 0),(39,.tv (ownL 1 22 (cSl 1 (cInt .u8)) ([]:List (List Int)))),(43,.tv (fzL 1 (cSl 1 (cInt .u8)) v2.f2)),(47,tI v2.f4),(51,q0 v1)],hp8 v2⟩ ?_ (zz rfl) trivial ?_ ?_
       ·kernel_rfl
       ·refine AAny.go (by kernel_rfl) [13] (fuel':=9) rfl [(0:Int) ≤ (0:Int),(0:Int) ≤ v2.f4,v2.f4 ≤ (v2.f2.length:Int)] #[y1,y1,y1,n1,y1,y1,y1,y1,y1,y1,y1,y1,y1,y1,n1,n1,y1,n1,n1,n1,n1,n1,n1] [0,37,39,48,51] 1 ⟨[(0,.pc 0 0),(37,.pc 0 0),(39,.tv (ownL 1 22 (cSl 1 (cInt .u8)) ([]:List (List Int)))),(48,.tv (.fz 1 ((Int.toNat v2.f4) - 0) (fun i=>(cSl 1 (cInt .u8)) (v2.f2.getD (0 + i) default)))),(51,q0 v1)],hp8 v2⟩ ?_ (zz rfl) ⟨(by decide:(0:Int) ≤ (0:Int)),hd13.1,hd13.2⟩ ?_
        ·kernel_rfl
        have hb:(Int.toNat v2.f4) ≤ v2.f2.length:=by have hh:v2.f4 ≤ (v2.f2.length:Int):=hd13.2; omega
        refine AAny.extFzL (s:=48) rfl (sub_len v2.f2 0 (Int.toNat v2.f4) hb) (sub_at (cSl 1 (cInt .u8)) v2.f2 0 (Int.toNat v2.f4) hb) ?_
        refine AAny.keepTo [0,37,39,48,51] 1 ⟨[(0,.pc 0 0),(37,.pc 0 0),(39,.tv (ownL 1 22 (cSl 1 (cInt .u8)) ([]:List (List Int)))),(48,.tv (fzL 1 (cSl 1 (cInt .u8)) ((v2.f2.take (Int.toNat v2.f4)).drop 0))),(51,q0 v1)],hp8 v2⟩ #[y1,y1,y1,n1,y1,y1,y1,y1,y1,y1,y1,y1,y1,y1,n1,n1,y1,n1,n1,n1,n1,n1,n1] ?_ rfl (zz rfl) ?_
        ·kernel_rfl
        exact n33_
       refine AEach.step (i:=15) [] #[y1,y1,y1,n1,y1,y1,y1,y1,n1,y1,y1,y1,y1,n1,n1,y1,y1,n1,n1,n1,n1,n1,n1] rfl [0,37,39,42,47,50,51] 1 ⟨[(0,.pc 0 0),(37,.pc 0 0),(39,.tv (ownL 1 22 (cSl 1 (cInt .u8)) ([]:List (List Int)))),(42,.pc 0 2),(47,tI v2.f4),(50,.tv (.own 1 5 0 (newRowF [] 1))),(51,q0 v1)],hp8 v2⟩ ?_ (zz rfl) trivial ?_ ?_
       ·kernel_rfl
       ·refine AAny.extL 50 (cInt .u8) ([]:List Int) rfl rfl (row_at (cInt .u8) 1 (fun _=>rfl) ([]:List Int) _ rfl) ?_
        refine AAny.keepTo [0,37,39,42,47,50,51] 1 ⟨[(0,.pc 0 0),(37,.pc 0 0),(39,.tv (ownL 1 22 (cSl 1 (cInt .u8)) ([]:List (List Int)))),(42,.pc 0 2),(47,tI v2.f4),(50,q1 ([]:List Int)),(51,q0 v1)],hp8 v2⟩ #[y1,y1,y1,n1,y1,y1,y1,y1,n1,y1,y1,y1,y1,n1,n1,y1,y1,n1,n1,n1,n1,n1,n1] ?_ rfl (zz rfl) ?_
        ·kernel_rfl
        exact n11_
       exact AEach.nil
      refine AAny.share 11 #[y1,y1,y1,y1,n1,y1,y1,y1,n1,y1,y1,y1,y1,n1,n1,n1,y1,n1,n1,n1,n1,n1,n1] ⟨[(0,.pc 0 0),(38,tS v2.f0),(42,.pc 0 2),(47,tI v2.f4),(51,q0 v1)],hp8 v2⟩ ?_ fun n29_=>?_
      ·refine AAny.each [4,8,15] (by kernel_rfl) rfl ?_
       refine AEach.step (i:=4) [] #[y1,y1,y1,y1,y1,y1,y1,y1,n1,y1,y1,y1,y1,n1,n1,n1,y1,n1,n1,n1,n1,n1,n1] rfl [0,38,39,42,47,51] 1 ⟨[(0,.pc 0 0),(38,tS v2.f0),(39,.tv (.own 1 22 0 (newRowF [] 1))),(42,.pc 0 2),(47,tI v2.f4),(51,q0 v1)],hp8 v2⟩ ?_ (zz rfl) trivial ?_ ?_
       ·kernel_rfl
       ·refine AAny.extL 39 (cSl 1 (cInt .u8)) ([]:List (List Int)) rfl rfl (row_at (cSl 1 (cInt .u8)) 1 (fun _=>rfl) ([]:List (List Int)) _ rfl) ?_
        refine AAny.keepTo [0,38,39,42,47,51] 1 ⟨[(0,.pc 0 0),(38,tS v2.f0),(39,.tv (ownL 1 22 (cSl 1 (cInt .u8)) ([]:List (List Int)))),(42,.pc 0 2),(47,tI v2.f4),(51,q0 v1)],hp8 v2⟩ #[y1,y1,y1,y1,y1,y1,y1,y1,n1,y1,y1,y1,y1,n1,n1,n1,y1,n1,n1,n1,n1,n1,n1] ?_ rfl (zz rfl) ?_
        ·kernel_rfl
        exact n37_
       refine AEach.step (i:=8) [] #[y1,y1,y1,y1,n1,y1,y1,y1,y1,y1,y1,y1,y1,n1,n1,n1,y1,n1,n1,n1,n1,n1,n1] rfl [0,38,43,47,51] 1 ⟨[(0,.pc 0 0),(38,tS v2.f0),(43,.tv (fzL 1 (cSl 1 (cInt .u8)) v2.f2)),(47,tI v2.f4),(51,q0 v1)],hp8 v2⟩ ?_ (zz rfl) trivial ?_ ?_
       ·kernel_rfl
       ·refine AAny.go (by kernel_rfl) [13] (fuel':=9) rfl [(0:Int) ≤ (0:Int),(0:Int) ≤ v2.f4,v2.f4 ≤ (v2.f2.length:Int)] #[y1,y1,y1,y1,n1,y1,y1,y1,y1,y1,y1,y1,y1,y1,n1,n1,y1,n1,n1,n1,n1,n1,n1] [0,38,48,51] 1 ⟨[(0,.pc 0 0),(38,tS v2.f0),(48,.tv (.fz 1 ((Int.toNat v2.f4) - 0) (fun i=>(cSl 1 (cInt .u8)) (v2.f2.getD (0 + i) default)))),(51,q0 v1)],hp8 v2⟩ ?_ (zz rfl) ⟨(by decide:(0:Int) ≤ (0:Int)),hd13.1,hd13.2⟩ ?_
        ·kernel_rfl
        have hb:(Int.toNat v2.f4) ≤ v2.f2.length:=by have hh:v2.f4 ≤ (v2.f2.length:Int):=hd13.2; omega
        refine AAny.extFzL (s:=48) rfl (sub_len v2.f2 0 (Int.toNat v2.f4) hb) (sub_at (cSl 1 (cInt .u8)) v2.f2 0 (Int.toNat v2.f4) hb) ?_
        refine AAny.keepTo [0,38,48,51] 1 ⟨[(0,.pc 0 0),(38,tS v2.f0),(48,.tv (fzL 1 (cSl 1 (cInt .u8)) ((v2.f2.take (Int.toNat v2.f4)).drop 0))),(51,q0 v1)],hp8 v2⟩ #[y1,y1,y1,y1,n1,y1,y1,y1,y1,y1,y1,y1,y1,y1,n1,n1,y1,n1,n1,n1,n1,n1,n1] ?_ rfl (zz rfl) ?_
        ·kernel_rfl
        exact n32_
       refine AEach.step (i:=15) [] #[y1,y1,y1,y1,n1,y1,y1,y1,n1,y1,y1,y1,y1,n1,n1,y1,y1,n1,n1,n1,n1,n1,n1] rfl [0,38,42,47,50,51] 1 ⟨[(0,.pc 0 0),(38,tS v2.f0),(42,.pc 0 2),(47,tI v2.f4),(50,.tv (.own 1 5 0 (newRowF [] 1))),(51,q0 v1)],hp8 v2⟩ ?_ (zz rfl) trivial ?_ ?_
       ·kernel_rfl
       ·refine AAny.extL 50 (cInt .u8) ([]:List Int) rfl rfl (row_at (cInt .u8) 1 (fun _=>rfl) ([]:List Int) _ rfl) ?_
        refine AAny.keepTo [0,38,42,47,50,51] 1 ⟨[(0,.pc 0 0),(38,tS v2.f0),(42,.pc 0 2),(47,tI v2.f4),(50,q1 ([]:List Int)),(51,q0 v1)],hp8 v2⟩ #[y1,y1,y1,y1,n1,y1,y1,y1,n1,y1,y1,y1,y1,n1,n1,y1,y1,n1,n1,n1,n1,n1,n1] ?_ rfl (zz rfl) ?_
        ·kernel_rfl
        exact n10_
       exact AEach.nil
      refine AAny.share 11 #[y1,y1,y1,n1,y1,y1,y1,y1,y1,y1,y1,y1,n1,n1,n1,n1,y1,n1,n1,n1,n1,n1,n1] ⟨[(0,.pc 0 0),(37,.pc 0 0),(39,.tv (ownL 1 22 (cSl 1 (cInt .u8)) ([]:List (List Int)))),(43,.tv (fzL 1 (cSl 1 (cInt .u8)) v2.f2)),(46,.pc 0 4),(51,q0 v1)],hp8 v2⟩ ?_ fun n39_=>?_
      ·refine AAny.each [3,12,15] (by kernel_rfl) rfl ?_
       refine AEach.step (i:=3) [] #[y1,y1,y1,y1,y1,y1,y1,y1,y1,y1,y1,y1,n1,n1,n1,n1,y1,n1,n1,n1,n1,n1,n1] rfl [0,38,39,43,46,51] 1 ⟨[(0,.pc 0 0),(38,tS v2.f0),(39,.tv (ownL 1 22 (cSl 1 (cInt .u8)) ([]:List (List Int)))),(43,.tv (fzL 1 (cSl 1 (cInt .u8)) v2.f2)),(46,.pc 0 4),(51,q0 v1)],hp8 v2⟩ ?_ (zz rfl) trivial ?_ ?_
       ·kernel_rfl
       ·exact n40_
       refine AEach.step (i:=12) [] #[y1,y1,y1,n1,y1,y1,y1,y1,y1,y1,y1,y1,y1,n1,n1,n1,y1,n1,n1,n1,n1,n1,n1] rfl [0,37,39,43,47,51] 1 ⟨[(0,.pc 0 0),(37,.pc 0 0),(39,.tv (ownL 1 22 (cSl 1 (cInt .u8)) ([]:List (List Int)))),(43,.tv (fzL 1 (cSl 1 (cInt .u8)) v2.f2)),(47,tI v2.f4),(51,q0 v1)],hp8 v2⟩ ?_ (zz rfl) trivial ?_ ?_
       ·kernel_rfl
       ·refine AAny.go (by kernel_rfl) [13] (fuel':=9) rfl [(0:Int) ≤ (0:Int),(0:Int) ≤ v2.f4,v2.f4 ≤ (v2.f2.length:Int)] #[y1,y1,y1,n1,y1,y1,y1,y1,y1,y1,y1,y1,y1,y1,n1,n1,y1,n1,n1,n1,n1,n1,n1] [0,37,39,48,51] 1 ⟨[(0,.pc 0 0),(37,.pc 0 0),(39,.tv (ownL 1 22 (cSl 1 (cInt .u8)) ([]:List (List Int)))),(48,.tv (.fz 1 ((Int.toNat v2.f4) - 0) (fun i=>(cSl 1 (cInt .u8)) (v2.f2.getD (0 + i) default)))),(51,q0 v1)],hp8 v2⟩ ?_ (zz rfl) ⟨(by decide:(0:Int) ≤ (0:Int)),hd13.1,hd13.2⟩ ?_
        ·kernel_rfl
        have hb:(Int.toNat v2.f4) ≤ v2.f2.length:=by have hh:v2.f4 ≤ (v2.f2.length:Int):=hd13.2; omega
        refine AAny.extFzL (s:=48) rfl (sub_len v2.f2 0 (Int.toNat v2.f4) hb) (sub_at (cSl 1 (cInt .u8)) v2.f2 0 (Int.toNat v2.f4) hb) ?_
        refine AAny.keepTo [0,37,39,48,51] 1 ⟨[(0,.pc 0 0),(37,.pc 0 0),(39,.tv (ownL 1 22 (cSl 1 (cInt .u8)) ([]:List (List Int)))),(48,.tv (fzL 1 (cSl 1 (cInt .u8)) ((v2.f2.take (Int.toNat v2.f4)).drop 0))),(51,q0 v1)],hp8 v2⟩ #[y1,y1,y1,n1,y1,y1,y1,y1,y1,y1,y1,y1,y1,y1,n1,n1,y1,n1,n1,n1,n1,n1,n1] ?_ rfl (zz rfl) ?_
        ·kernel_rfl
        exact n33_
       refine AEach.step (i:=15) [] #[y1,y1,y1,n1,y1,y1,y1,y1,y1,y1,y1,y1,n1,n1,n1,y1,y1,n1,n1,n1,n1,n1,n1] rfl [0,37,39,43,46,50,51] 1 ⟨[(0,.pc 0 0),(37,.pc 0 0),(39,.tv (ownL 1 22 (cSl 1 (cInt .u8)) ([]:List (List Int)))),(43,.tv (fzL 1 (cSl 1 (cInt .u8)) v2.f2)),(46,.pc 0 4),(50,.tv (.own 1 5 0 (newRowF [] 1))),(51,q0 v1)],hp8 v2⟩ ?_ (zz rfl) trivial ?_ ?_
       ·kernel_rfl
       ·refine AAny.extL 50 (cInt .u8) ([]:List Int) rfl rfl (row_at (cInt .u8) 1 (fun _=>rfl) ([]:List Int) _ rfl) ?_
        refine AAny.keepTo [0,37,39,43,46,50,51] 1 ⟨[(0,.pc 0 0),(37,.pc 0 0),(39,.tv (ownL 1 22 (cSl 1 (cInt .u8)) ([]:List (List Int)))),(43,.tv (fzL 1 (cSl 1 (cInt .u8)) v2.f2)),(46,.pc 0 4),(50,q1 ([]:List Int)),(51,q0 v1)],hp8 v2⟩ #[y1,y1,y1,n1,y1,y1,y1,y1,y1,y1,y1,y1,n1,n1,n1,y1,y1,n1,n1,n1,n1,n1,n1] ?_ rfl (zz rfl) ?_
        ·kernel_rfl
        exact n26_
       exact AEach.nil
      refine AAny.share 11 #[y1,y1,y1,y1,n1,y1,y1,y1,y1,y1,y1,y1,n1,n1,n1,n1,y1,n1,n1,n1,n1,n1,n1] ⟨[(0,.pc 0 0),(38,tS v2.f0),(43,.tv (fzL 1 (cSl 1 (cInt .u8)) v2.f2)),(46,.pc 0 4),(51,q0 v1)],hp8 v2⟩ ?_ fun n38_=>?_
      ·refine AAny.each [4,12,15] (by kernel_rfl) rfl ?_
       refine AEach.step (i:=4) [] #[y1,y1,y1,y1,y1,y1,y1,y1,y1,y1,y1,y1,n1,n1,n1,n1,y1,n1,n1,n1,n1,n1,n1] rfl [0,38,39,43,46,51] 1 ⟨[(0,.pc 0 0),(38,tS v2.f0),(39,.tv (.own 1 22 0 (newRowF [] 1))),(43,.tv (fzL 1 (cSl 1 (cInt .u8)) v2.f2)),(46,.pc 0 4),(51,q0 v1)],hp8 v2⟩ ?_ (zz rfl) trivial ?_ ?_
       ·kernel_rfl
       ·refine AAny.extL 39 (cSl 1 (cInt .u8)) ([]:List (List Int)) rfl rfl (row_at (cSl 1 (cInt .u8)) 1 (fun _=>rfl) ([]:List (List Int)) _ rfl) ?_
        refine AAny.keepTo [0,38,39,43,46,51] 1 ⟨[(0,.pc 0 0),(38,tS v2.f0),(39,.tv (ownL 1 22 (cSl 1 (cInt .u8)) ([]:List (List Int)))),(43,.tv (fzL 1 (cSl 1 (cInt .u8)) v2.f2)),(46,.pc 0 4),(51,q0 v1)],hp8 v2⟩ #[y1,y1,y1,y1,y1,y1,y1,y1,y1,y1,y1,y1,n1,n1,n1,n1,y1,n1,n1,n1,n1,n1,n1] ?_ rfl (zz rfl) ?_
        ·kernel_rfl
        exact n40_
       refine AEach.step (i:=12) [] #[y1,y1,y1,y1,n1,y1,y1,y1,y1,y1,y1,y1,y1,n1,n1,n1,y1,n1,n1,n1,n1,n1,n1] rfl [0,38,43,47,51] 1 ⟨[(0,.pc 0 0),(38,tS v2.f0),(43,.tv (fzL 1 (cSl 1 (cInt .u8)) v2.f2)),(47,tI v2.f4),(51,q0 v1)],hp8 v2⟩ ?_ (zz rfl) trivial ?_ ?_
       ·kernel_rfl
       ·refine AAny.go (by kernel_rfl) [13] (fuel':=9) rfl [(0:Int) ≤ (0:Int),(0:Int) ≤ v2.f4,v2.f4 ≤ (v2.f2.length:Int)] #[y1,y1,y1,y1,n1,y1,y1,y1,y1,y1,y1,y1,y1,y1,n1,n1,y1,n1,n1,n1,n1,n1,n1] [0,38,48,51] 1 ⟨[(0,.pc 0 0),(38,tS v2.f0),(48,.tv (.fz 1 ((Int.toNat v2.f4) - 0) (fun i=>(cSl 1 (cInt .u8)) (v2.f2.getD (0 + i) default)))),(51,q0 v1)],hp8 v2⟩ ?_ (zz rfl) ⟨(by decide:(0:Int) ≤ (0:Int)),hd13.1,hd13.2⟩ ?_
        ·kernel_rfl
        have hb:(Int.toNat v2.f4) ≤ v2.f2.length:=by have hh:v2.f4 ≤ (v2.f2.length:Int):=hd13.2; omega
        refine AAny.extFzL (s:=48) rfl (sub_len v2.f2 0 (Int.toNat v2.f4) hb) (sub_at (cSl 1 (cInt .u8)) v2.f2 0 (Int.toNat v2.f4) hb) ?_
        refine AAny.keepTo [0,38,48,51] 1 ⟨[(0,.pc 0 0),(38,tS v2.f0),(48,.tv (fzL 1 (cSl 1 (cInt .u8)) ((v2.f2.take (Int.toNat v2.f4)).drop 0))),(51,q0 v1)],hp8 v2⟩ #[y1,y1,y1,y1,n1,y1,y1,y1,y1,y1,y1,y1,y1,y1,n1,n1,y1,n1,n1,n1,n1,n1,n1] ?_ rfl (zz rfl) ?_
        ·kernel_rfl
        exact n32_
       refine AEach.step (i:=15) [] #[y1,y1,y1,y1,n1,y1,y1,y1,y1,y1,y1,y1,n1,n1,n1,y1,y1,n1,n1,n1,n1,n1,n1] rfl [0,38,43,46,50,51] 1 ⟨[(0,.pc 0 0),(38,tS v2.f0),(43,.tv (fzL 1 (cSl 1 (cInt .u8)) v2.f2)),(46,.pc 0 4),(50,.tv (.own 1 5 0 (newRowF [] 1))),(51,q0 v1)],hp8 v2⟩ ?_ (zz rfl) trivial ?_ ?_
       ·kernel_rfl
       ·refine AAny.extL 50 (cInt .u8) ([]:List Int) rfl rfl (row_at (cInt .u8) 1 (fun _=>rfl) ([]:List Int) _ rfl) ?_
        refine AAny.keepTo [0,38,43,46,50,51] 1 ⟨[(0,.pc 0 0),(38,tS v2.f0),(43,.tv (fzL 1 (cSl 1 (cInt .u8)) v2.f2)),(46,.pc 0 4),(50,q1 ([]:List Int)),(51,q0 v1)],hp8 v2⟩ #[y1,y1,y1,y1,n1,y1,y1,y1,y1,y1,y1,y1,n1,n1,n1,y1,y1,n1,n1,n1,n1,n1,n1] ?_ rfl (zz rfl) ?_
        ·kernel_rfl
        exact n25_
       exact AEach.nil
      refine AAny.share 11 #[y1,y1,y1,y1,y1,y1,y1,y1,n1,y1,y1,y1,n1,n1,n1,n1,y1,n1,n1,n1,n1,n1,n1] ⟨[(0,.pc 0 0),(38,tS v2.f0),(39,.tv (ownL 1 22 (cSl 1 (cInt .u8)) ([]:List (List Int)))),(42,.pc 0 2),(46,.pc 0 4),(51,q0 v1)],hp8 v2⟩ ?_ fun n41_=>?_
      ·refine AAny.each [8,12,15] (by kernel_rfl) rfl ?_
       refine AEach.step (i:=8) [] #[y1,y1,y1,y1,y1,y1,y1,y1,y1,y1,y1,y1,n1,n1,n1,n1,y1,n1,n1,n1,n1,n1,n1] rfl [0,38,39,43,46,51] 1 ⟨[(0,.pc 0 0),(38,tS v2.f0),(39,.tv (ownL 1 22 (cSl 1 (cInt .u8)) ([]:List (List Int)))),(43,.tv (fzL 1 (cSl 1 (cInt .u8)) v2.f2)),(46,.pc 0 4),(51,q0 v1)],hp8 v2⟩ ?_ (zz rfl) trivial ?_ ?_
       ·kernel_rfl
       ·exact n40_
       refine AEach.step (i:=12) [] #[y1,y1,y1,y1,y1,y1,y1,y1,n1,y1,y1,y1,y1,n1,n1,n1,y1,n1,n1,n1,n1,n1,n1] rfl [0,38,39,42,47,51] 1 ⟨[(0,.pc 0 0),(38,tS v2.f0),(39,.tv (ownL 1 22 (cSl 1 (cInt .u8)) ([]:List (List Int)))),(42,.pc 0 2),(47,tI v2.f4),(51,q0 v1)],hp8 v2⟩ ?_ (zz rfl) trivial ?_ ?_
       ·kernel_rfl
       ·exact n37_
       refine AEach.step (i:=15) [] #[y1,y1,y1,y1,y1,y1,y1,y1,n1,y1,y1,y1,n1,n1,n1,y1,y1,n1,n1,n1,n1,n1,n1] rfl [0,38,39,42,46,50,51] 1 ⟨[(0,.pc 0 0),(38,tS v2.f0),(39,.tv (ownL 1 22 (cSl 1 (cInt .u8)) ([]:List (List Int)))),(42,.pc 0 2),(46,.pc 0 4),(50,.tv (.own 1 5 0 (newRowF [] 1))),(51,q0 v1)],hp8 v2⟩ ?_ (zz rfl) trivial ?_ ?_
       ·kernel_rfl
       ·refine AAny.extL 50 (cInt .u8) ([]:List Int) rfl rfl (row_at (cInt .u8) 1 (fun _=>rfl) ([]:List Int) _ rfl) ?_
        refine AAny.keepTo [0,38,39,42,46,50,51] 1 ⟨[(0,.pc 0 0),(38,tS v2.f0),(39,.tv (ownL 1 22 (cSl 1 (cInt .u8)) ([]:List (List Int)))),(42,.pc 0 2),(46,.pc 0 4),(50,q1 ([]:List Int)),(51,q0 v1)],hp8 v2⟩ #[y1,y1,y1,y1,y1,y1,y1,y1,n1,y1,y1,y1,n1,n1,n1,y1,y1,n1,n1,n1,n1,n1,n1] ?_ rfl (zz rfl) ?_
        ·kernel_rfl
        exact n28_
       exact AEach.nil
      refine AAny.share 12 #[y1,y1,y1,n1,n1,y1,y1,y1,n1,y1,y1,y1,n1,n1,n1,y1,y1,n1,n1,n1,n1,n1,n1] ⟨[(0,.pc 0 0),(37,.pc 0 0),(42,.pc 0 2),(46,.pc 0 4),(50,q1 ([]:List Int)),(51,q0 v1)],hp8 v2⟩ ?_ fun n5_=>?_
      ·refine AAny.each [3,4,8,12] (by kernel_rfl) rfl ?_
       refine AEach.step (i:=3) [] #[y1,y1,y1,y1,n1,y1,y1,y1,n1,y1,y1,y1,n1,n1,n1,y1,y1,n1,n1,n1,n1,n1,n1] rfl [0,38,42,46,50,51] 1 ⟨[(0,.pc 0 0),(38,tS v2.f0),(42,.pc 0 2),(46,.pc 0 4),(50,q1 ([]:List Int)),(51,q0 v1)],hp8 v2⟩ ?_ (zz rfl) trivial ?_ ?_
       ·kernel_rfl
       ·exact n6_
       refine AEach.step (i:=4) [] #[y1,y1,y1,n1,y1,y1,y1,y1,n1,y1,y1,y1,n1,n1,n1,y1,y1,n1,n1,n1,n1,n1,n1] rfl [0,37,39,42,46,50,51] 1 ⟨[(0,.pc 0 0),(37,.pc 0 0),(39,.tv (.own 1 22 0 (newRowF [] 1))),(42,.pc 0 2),(46,.pc 0 4),(50,q1 ([]:List Int)),(51,q0 v1)],hp8 v2⟩ ?_ (zz rfl) trivial ?_ ?_
       ·kernel_rfl
       ·refine AAny.extL 39 (cSl 1 (cInt .u8)) ([]:List (List Int)) rfl rfl (row_at (cSl 1 (cInt .u8)) 1 (fun _=>rfl) ([]:List (List Int)) _ rfl) ?_
        refine AAny.keepTo [0,37,39,42,46,50,51] 1 ⟨[(0,.pc 0 0),(37,.pc 0 0),(39,.tv (ownL 1 22 (cSl 1 (cInt .u8)) ([]:List (List Int)))),(42,.pc 0 2),(46,.pc 0 4),(50,q1 ([]:List Int)),(51,q0 v1)],hp8 v2⟩ #[y1,y1,y1,n1,y1,y1,y1,y1,n1,y1,y1,y1,n1,n1,n1,y1,y1,n1,n1,n1,n1,n1,n1] ?_ rfl (zz rfl) ?_
        ·kernel_rfl
        exact n7_
       refine AEach.step (i:=8) [] #[y1,y1,y1,n1,n1,y1,y1,y1,y1,y1,y1,y1,n1,n1,n1,y1,y1,n1,n1,n1,n1,n1,n1] rfl [0,37,43,46,50,51] 1 ⟨[(0,.pc 0 0),(37,.pc 0 0),(43,.tv (fzL 1 (cSl 1 (cInt .u8)) v2.f2)),(46,.pc 0 4),(50,q1 ([]:List Int)),(51,q0 v1)],hp8 v2⟩ ?_ (zz rfl) trivial ?_ ?_
       ·kernel_rfl
       ·exact n8_
       refine AEach.step (i:=12) [] #[y1,y1,y1,n1,n1,y1,y1,y1,n1,y1,y1,y1,y1,n1,n1,y1,y1,n1,n1,n1,n1,n1,n1] rfl [0,37,42,47,50,51] 1 ⟨[(0,.pc 0 0),(37,.pc 0 0),(42,.pc 0 2),(47,tI v2.f4),(50,q1 ([]:List Int)),(51,q0 v1)],hp8 v2⟩ ?_ (zz rfl) trivial ?_ ?_
       ·kernel_rfl
       ·exact n9_
       exact AEach.nil
      refine AAny.share 12 #[y1,y1,y1,n1,n1,y1,y1,y1,n1,y1,y1,y1,y1,n1,n1,n1,y1,n1,n1,n1,n1,n1,n1] ⟨[(0,.pc 0 0),(37,.pc 0 0),(42,.pc 0 2),(47,tI v2.f4),(51,q0 v1)],hp8 v2⟩ ?_ fun n4_=>?_
      ·refine AAny.each [3,4,8,15] (by kernel_rfl) rfl ?_
       refine AEach.step (i:=3) [] #[y1,y1,y1,y1,n1,y1,y1,y1,n1,y1,y1,y1,y1,n1,n1,n1,y1,n1,n1,n1,n1,n1,n1] rfl [0,38,42,47,51] 1 ⟨[(0,.pc 0 0),(38,tS v2.f0),(42,.pc 0 2),(47,tI v2.f4),(51,q0 v1)],hp8 v2⟩ ?_ (zz rfl) trivial ?_ ?_
       ·kernel_rfl
       ·exact n29_
       refine AEach.step (i:=4) [] #[y1,y1,y1,n1,y1,y1,y1,y1,n1,y1,y1,y1,y1,n1,n1,n1,y1,n1,n1,n1,n1,n1,n1] rfl [0,37,39,42,47,51] 1 ⟨[(0,.pc 0 0),(37,.pc 0 0),(39,.tv (.own 1 22 0 (newRowF [] 1))),(42,.pc 0 2),(47,tI v2.f4),(51,q0 v1)],hp8 v2⟩ ?_ (zz rfl) trivial ?_ ?_
       ·kernel_rfl
       ·refine AAny.extL 39 (cSl 1 (cInt .u8)) ([]:List (List Int)) rfl rfl (row_at (cSl 1 (cInt .u8)) 1 (fun _=>rfl) ([]:List (List Int)) _ rfl) ?_
        refine AAny.keepTo [0,37,39,42,47,51] 1 ⟨[(0,.pc 0 0),(37,.pc 0 0),(39,.tv (ownL 1 22 (cSl 1 (cInt .u8)) ([]:List (List Int)))),(42,.pc 0 2),(47,tI v2.f4),(51,q0 v1)],hp8 v2⟩ #[y1,y1,y1,n1,y1,y1,y1,y1,n1,y1,y1,y1,y1,n1,n1,n1,y1,n1,n1,n1,n1,n1,n1] ?_ rfl (zz rfl) ?_
        ·kernel_rfl
        exact n30_
       refine AEach.step (i:=8) [] #[y1,y1,y1,n1,n1,y1,y1,y1,y1,y1,y1,y1,y1,n1,n1,n1,y1,n1,n1,n1,n1,n1,n1] rfl [0,37,43,47,51] 1 ⟨[(0,.pc 0 0),(37,.pc 0 0),(43,.tv (fzL 1 (cSl 1 (cInt .u8)) v2.f2)),(47,tI v2.f4),(51,q0 v1)],hp8 v2⟩ ?_ (zz rfl) trivial ?_ ?_
       ·kernel_rfl
       ·refine AAny.go (by kernel_rfl) [13] (fuel':=10) rfl [(0:Int) ≤ (0:Int),(0:Int) ≤ v2.f4,v2.f4 ≤ (v2.f2.length:Int)] #[y1,y1,y1,n1,n1,y1,y1,y1,y1,y1,y1,y1,y1,y1,n1,n1,y1,n1,n1,n1,n1,n1,n1] [0,37,48,51] 1 ⟨[(0,.pc 0 0),(37,.pc 0 0),(48,.tv (.fz 1 ((Int.toNat v2.f4) - 0) (fun i=>(cSl 1 (cInt .u8)) (v2.f2.getD (0 + i) default)))),(51,q0 v1)],hp8 v2⟩ ?_ (zz rfl) ⟨(by decide:(0:Int) ≤ (0:Int)),hd13.1,hd13.2⟩ ?_
        ·kernel_rfl
        have hb:(Int.toNat v2.f4) ≤ v2.f2.length:=by have hh:v2.f4 ≤ (v2.f2.length:Int):=hd13.2; omega
        refine AAny.extFzL (s:=48) rfl (sub_len v2.f2 0 (Int.toNat v2.f4) hb) (sub_at (cSl 1 (cInt .u8)) v2.f2 0 (Int.toNat v2.f4) hb) ?_
        refine AAny.keepTo [0,37,48,51] 1 ⟨[(0,.pc 0 0),(37,.pc 0 0),(48,.tv (fzL 1 (cSl 1 (cInt .u8)) ((v2.f2.take (Int.toNat v2.f4)).drop 0))),(51,q0 v1)],hp8 v2⟩ #[y1,y1,y1,n1,n1,y1,y1,y1,y1,y1,y1,y1,y1,y1,n1,n1,y1,n1,n1,n1,n1,n1,n1] ?_ rfl (zz rfl) ?_
        ·kernel_rfl
        exact n31_
       refine AEach.step (i:=15) [] #[y1,y1,y1,n1,n1,y1,y1,y1,n1,y1,y1,y1,y1,n1,n1,y1,y1,n1,n1,n1,n1,n1,n1] rfl [0,37,42,47,50,51] 1 ⟨[(0,.pc 0 0),(37,.pc 0 0),(42,.pc 0 2),(47,tI v2.f4),(50,.tv (.own 1 5 0 (newRowF [] 1))),(51,q0 v1)],hp8 v2⟩ ?_ (zz rfl) trivial ?_ ?_
       ·kernel_rfl
       ·refine AAny.extL 50 (cInt .u8) ([]:List Int) rfl rfl (row_at (cInt .u8) 1 (fun _=>rfl) ([]:List Int) _ rfl) ?_
        refine AAny.keepTo [0,37,42,47,50,51] 1 ⟨[(0,.pc 0 0),(37,.pc 0 0),(42,.pc 0 2),(47,tI v2.f4),(50,q1 ([]:List Int)),(51,q0 v1)],hp8 v2⟩ #[y1,y1,y1,n1,n1,y1,y1,y1,n1,y1,y1,y1,y1,n1,n1,y1,y1,n1,n1,n1,n1,n1,n1] ?_ rfl (zz rfl) ?_
        ·kernel_rfl
        exact n9_
       exact AEach.nil
      refine AAny.share 12 #[y1,y1,y1,n1,n1,y1,y1,y1,y1,y1,y1,y1,n1,n1,n1,n1,y1,n1,n1,n1,n1,n1,n1] ⟨[(0,.pc 0 0),(37,.pc 0 0),(43,.tv (fzL 1 (cSl 1 (cInt .u8)) v2.f2)),(46,.pc 0 4),(51,q0 v1)],hp8 v2⟩ ?_ fun n3_=>?_
      ·refine AAny.each [3,4,12,15] (by kernel_rfl) rfl ?_
       refine AEach.step (i:=3) [] #[y1,y1,y1,y1,n1,y1,y1,y1,y1,y1,y1,y1,n1,n1,n1,n1,y1,n1,n1,n1,n1,n1,n1] rfl [0,38,43,46,51] 1 ⟨[(0,.pc 0 0),(38,tS v2.f0),(43,.tv (fzL 1 (cSl 1 (cInt .u8)) v2.f2)),(46,.pc 0 4),(51,q0 v1)],hp8 v2⟩ ?_ (zz rfl) trivial ?_ ?_
       ·kernel_rfl
       ·exact n38_
       refine AEach.step (i:=4) [] #[y1,y1,y1,n1,y1,y1,y1,y1,y1,y1,y1,y1,n1,n1,n1,n1,y1,n1,n1,n1,n1,n1,n1] rfl [0,37,39,43,46,51] 1 ⟨[(0,.pc 0 0),(37,.pc 0 0),(39,.tv (.own 1 22 0 (newRowF [] 1))),(43,.tv (fzL 1 (cSl 1 (cInt .u8)) v2.f2)),(46,.pc 0 4),(51,q0 v1)],hp8 v2⟩ ?_ (zz rfl) trivial ?_ ?_
       ·kernel_rfl
       ·refine AAny.extL 39 (cSl 1 (cInt .u8)) ([]:List (List Int)) rfl rfl (row_at (cSl 1 (cInt .u8)) 1 (fun _=>rfl) ([]:List (List Int)) _ rfl) ?_
        refine AAny.keepTo [0,37,39,43,46,51] 1 ⟨[(0,.pc 0 0),(37,.pc 0 0),(39,.tv (ownL 1 22 (cSl 1 (cInt .u8)) ([]:List (List Int)))),(43,.tv (fzL 1 (cSl 1 (cInt .u8)) v2.f2)),(46,.pc 0 4),(51,q0 v1)],hp8 v2⟩ #[y1,y1,y1,n1,y1,y1,y1,y1,y1,y1,y1,y1,n1,n1,n1,n1,y1,n1,n1,n1,n1,n1,n1] ?_ rfl (zz rfl) ?_
        ·kernel_rfl
        exact n39_
       refine AEach.step (i:=12) [] #[y1,y1,y1,n1,n1,y1,y1,y1,y1,y1,y1,y1,y1,n1,n1,n1,y1,n1,n1,n1,n1,n1,n1] rfl [0,37,43,47,51] 1 ⟨[(0,.pc 0 0),(37,.pc 0 0),(43,.tv (fzL 1 (cSl 1 (cInt .u8)) v2.f2)),(47,tI v2.f4),(51,q0 v1)],hp8 v2⟩ ?_ (zz rfl) trivial ?_ ?_
       ·kernel_rfl
       ·refine AAny.go (by kernel_rfl) [13] (fuel':=10) rfl [(0:Int) ≤ (0:Int),(0:Int) ≤ v2.f4,v2.f4 ≤ (v2.f2.length:Int)] #[y1,y1,y1,n1,n1,y1,y1,y1,y1,y1,y1,y1,y1,y1,n1,n1,y1,n1,n1,n1,n1,n1,n1] [0,37,48,51] 1 ⟨[(0,.pc 0 0),(37,.pc 0 0),(48,.tv (.fz 1 ((Int.toNat v2.f4) - 0) (fun i=>(cSl 1 (cInt .u8)) (v2.f2.getD (0 + i) default)))),(51,q0 v1)],hp8 v2⟩ ?_ (zz rfl) ⟨(by decide:(0:Int) ≤ (0:Int)),hd13.1,hd13.2⟩ ?_
        ·kernel_rfl
        have hb:(Int.toNat v2.f4) ≤ v2.f2.length:=by have hh:v2.f4 ≤ (v2.f2.length:Int):=hd13.2; omega
        refine AAny.extFzL (s:=48) rfl (sub_len v2.f2 0 (Int.toNat v2.f4) hb) (sub_at (cSl 1 (cInt .u8)) v2.f2 0 (Int.toNat v2.f4) hb) ?_
        refine AAny.keepTo [0,37,48,51] 1 ⟨[(0,.pc 0 0),(37,.pc 0 0),(48,.tv (fzL 1 (cSl 1 (cInt .u8)) ((v2.f2.take (Int.toNat v2.f4)).drop 0))),(51,q0 v1)],hp8 v2⟩ #[y1,y1,y1,n1,n1,y1,y1,y1,y1,y1,y1,y1,y1,y1,n1,n1,y1,n1,n1,n1,n1,n1,n1] ?_ rfl (zz rfl) ?_
        ·kernel_rfl
        exact n31_
       refine AEach.step (i:=15) [] #[y1,y1,y1,n1,n1,y1,y1,y1,y1,y1,y1,y1,n1,n1,n1,y1,y1,n1,n1,n1,n1,n1,n1] rfl [0,37,43,46,50,51] 1 ⟨[(0,.pc 0 0),(37,.pc 0 0),(43,.tv (fzL 1 (cSl 1 (cInt .u8)) v2.f2)),(46,.pc 0 4),(50,.tv (.own 1 5 0 (newRowF [] 1))),(51,q0 v1)],hp8 v2⟩ ?_ (zz rfl) trivial ?_ ?_
       ·kernel_rfl
       ·refine AAny.extL 50 (cInt .u8) ([]:List Int) rfl rfl (row_at (cInt .u8) 1 (fun _=>rfl) ([]:List Int) _ rfl) ?_
        refine AAny.keepTo [0,37,43,46,50,51] 1 ⟨[(0,.pc 0 0),(37,.pc 0 0),(43,.tv (fzL 1 (cSl 1 (cInt .u8)) v2.f2)),(46,.pc 0 4),(50,q1 ([]:List Int)),(51,q0 v1)],hp8 v2⟩ #[y1,y1,y1,n1,n1,y1,y1,y1,y1,y1,y1,y1,n1,n1,n1,y1,y1,n1,n1,n1,n1,n1,n1] ?_ rfl (zz rfl) ?_
        ·kernel_rfl
        exact n8_
       exact AEach.nil
      refine AAny.share 12 #[y1,y1,y1,n1,y1,y1,y1,y1,n1,y1,y1,y1,n1,n1,n1,n1,y1,n1,n1,n1,n1,n1,n1] ⟨[(0,.pc 0 0),(37,.pc 0 0),(39,.tv (ownL 1 22 (cSl 1 (cInt .u8)) ([]:List (List Int)))),(42,.pc 0 2),(46,.pc 0 4),(51,q0 v1)],hp8 v2⟩ ?_ fun n2_=>?_
      ·refine AAny.each [3,8,12,15] (by kernel_rfl) rfl ?_
       refine AEach.step (i:=3) [] #[y1,y1,y1,y1,y1,y1,y1,y1,n1,y1,y1,y1,n1,n1,n1,n1,y1,n1,n1,n1,n1,n1,n1] rfl [0,38,39,42,46,51] 1 ⟨[(0,.pc 0 0),(38,tS v2.f0),(39,.tv (ownL 1 22 (cSl 1 (cInt .u8)) ([]:List (List Int)))),(42,.pc 0 2),(46,.pc 0 4),(51,q0 v1)],hp8 v2⟩ ?_ (zz rfl) trivial ?_ ?_
       ·kernel_rfl
       ·exact n41_
       refine AEach.step (i:=8) [] #[y1,y1,y1,n1,y1,y1,y1,y1,y1,y1,y1,y1,n1,n1,n1,n1,y1,n1,n1,n1,n1,n1,n1] rfl [0,37,39,43,46,51] 1 ⟨[(0,.pc 0 0),(37,.pc 0 0),(39,.tv (ownL 1 22 (cSl 1 (cInt .u8)) ([]:List (List Int)))),(43,.tv (fzL 1 (cSl 1 (cInt .u8)) v2.f2)),(46,.pc 0 4),(51,q0 v1)],hp8 v2⟩ ?_ (zz rfl) trivial ?_ ?_
       ·kernel_rfl
       ·exact n39_
       refine AEach.step (i:=12) [] #[y1,y1,y1,n1,y1,y1,y1,y1,n1,y1,y1,y1,y1,n1,n1,n1,y1,n1,n1,n1,n1,n1,n1] rfl [0,37,39,42,47,51] 1 ⟨[(0,.pc 0 0),(37,.pc 0 0),(39,.tv (ownL 1 22 (cSl 1 (cInt .u8)) ([]:List (List Int)))),(42,.pc 0 2),(47,tI v2.f4),(51,q0 v1)],hp8 v2⟩ ?_ (zz rfl) trivial ?_ ?_
       ·kernel_rfl
       ·exact n30_
       refine AEach.step (i:=15) [] #[y1,y1,y1,n1,y1,y1,y1,y1,n1,y1,y1,y1,n1,n1,n1,y1,y1,n1,n1,n1,n1,n1,n1] rfl [0,37,39,42,46,50,51] 1 ⟨[(0,.pc 0 0),(37,.pc 0 0),(39,.tv (ownL 1 22 (cSl 1 (cInt .u8)) ([]:List (List Int)))),(42,.pc 0 2),(46,.pc 0 4),(50,.tv (.own 1 5 0 (newRowF [] 1))),(51,q0 v1)],hp8 v2⟩ ?_ (zz rfl) trivial ?_ ?_
       ·kernel_rfl
       ·refine AAny.extL 50 (cInt .u8) ([]:List Int) rfl rfl (row_at (cInt .u8) 1 (fun _=>rfl) ([]:List Int) _ rfl) ?_
        refine AAny.keepTo [0,37,39,42,46,50,51] 1 ⟨[(0,.pc 0 0),(37,.pc 0 0),(39,.tv (ownL 1 22 (cSl 1 (cInt .u8)) ([]:List (List Int)))),(42,.pc 0 2),(46,.pc 0 4),(50,q1 ([]:List Int)),(51,q0 v1)],hp8 v2⟩ #[y1,y1,y1,n1,y1,y1,y1,y1,n1,y1,y1,y1,n1,n1,n1,y1,y1,n1,n1,n1,n1,n1,n1] ?_ rfl (zz rfl) ?_
        ·kernel_rfl
        exact n7_
       exact AEach.nil
      refine AAny.share 12 #[y1,y1,y1,y1,n1,y1,y1,y1,n1,y1,y1,y1,n1,n1,n1,n1,y1,n1,n1,n1,n1,n1,n1] ⟨[(0,.pc 0 0),(38,tS v2.f0),(42,.pc 0 2),(46,.pc 0 4),(51,q0 v1)],hp8 v2⟩ ?_ fun n1_=>?_
      ·refine AAny.each [4,8,12,15] (by kernel_rfl) rfl ?_
       refine AEach.step (i:=4) [] #[y1,y1,y1,y1,y1,y1,y1,y1,n1,y1,y1,y1,n1,n1,n1,n1,y1,n1,n1,n1,n1,n1,n1] rfl [0,38,39,42,46,51] 1 ⟨[(0,.pc 0 0),(38,tS v2.f0),(39,.tv (.own 1 22 0 (newRowF [] 1))),(42,.pc 0 2),(46,.pc 0 4),(51,q0 v1)],hp8 v2⟩ ?_ (zz rfl) trivial ?_ ?_
       ·kernel_rfl
       ·refine AAny.extL 39 (cSl 1 (cInt .u8)) ([]:List (List Int)) rfl rfl (row_at (cSl 1 (cInt .u8)) 1 (fun _=>rfl) ([]:List (List Int)) _ rfl) ?_
        refine AAny.keepTo [0,38,39,42,46,51] 1 ⟨[(0,.pc 0 0),(38,tS v2.f0),(39,.tv (ownL 1 22 (cSl 1 (cInt .u8)) ([]:List (List Int)))),(42,.pc 0 2),(46,.pc 0 4),(51,q0 v1)],hp8 v2⟩ #[y1,y1,y1,y1,y1,y1,y1,y1,n1,y1,y1,y1,n1,n1,n1,n1,y1,n1,n1,n1,n1,n1,n1] ?_ rfl (zz rfl) ?_
        ·kernel_rfl
        exact n41_
       refine AEach.step (i:=8) [] #[y1,y1,y1,y1,n1,y1,y1,y1,y1,y1,y1,y1,n1,n1,n1,n1,y1,n1,n1,n1,n1,n1,n1] rfl [0,38,43,46,51] 1 ⟨[(0,.pc 0 0),(38,tS v2.f0),(43,.tv (fzL 1 (cSl 1 (cInt .u8)) v2.f2)),(46,.pc 0 4),(51,q0 v1)],hp8 v2⟩ ?_ (zz rfl) trivial ?_ ?_
       ·kernel_rfl
       ·exact n38_
       refine AEach.step (i:=12) [] #[y1,y1,y1,y1,n1,y1,y1,y1,n1,y1,y1,y1,y1,n1,n1,n1,y1,n1,n1,n1,n1,n1,n1] rfl [0,38,42,47,51] 1 ⟨[(0,.pc 0 0),(38,tS v2.f0),(42,.pc 0 2),(47,tI v2.f4),(51,q0 v1)],hp8 v2⟩ ?_ (zz rfl) trivial ?_ ?_
       ·kernel_rfl
       ·exact n29_
       refine AEach.step (i:=15) [] #[y1,y1,y1,y1,n1,y1,y1,y1,n1,y1,y1,y1,n1,n1,n1,y1,y1,n1,n1,n1,n1,n1,n1] rfl [0,38,42,46,50,51] 1 ⟨[(0,.pc 0 0),(38,tS v2.f0),(42,.pc 0 2),(46,.pc 0 4),(50,.tv (.own 1 5 0 (newRowF [] 1))),(51,q0 v1)],hp8 v2⟩ ?_ (zz rfl) trivial ?_ ?_
       ·kernel_rfl
       ·refine AAny.extL 50 (cInt .u8) ([]:List Int) rfl rfl (row_at (cInt .u8) 1 (fun _=>rfl) ([]:List Int) _ rfl) ?_
        refine AAny.keepTo [0,38,42,46,50,51] 1 ⟨[(0,.pc 0 0),(38,tS v2.f0),(42,.pc 0 2),(46,.pc 0 4),(50,q1 ([]:List Int)),(51,q0 v1)],hp8 v2⟩ #[y1,y1,y1,y1,n1,y1,y1,y1,n1,y1,y1,y1,n1,n1,n1,y1,y1,n1,n1,n1,n1,n1,n1] ?_ rfl (zz rfl) ?_
        ·kernel_rfl
        exact n6_
       exact AEach.nil
      refine AAny.each [3,4,8,12,15] (by kernel_rfl) rfl ?_
      refine AEach.step (i:=3) [] #[y1,y1,y1,y1,n1,y1,y1,y1,n1,y1,y1,y1,n1,n1,n1,n1,y1,n1,n1,n1,n1,n1,n1] rfl [0,38,42,46,51] 1 ⟨[(0,.pc 0 0),(38,tS v2.f0),(42,.pc 0 2),(46,.pc 0 4),(51,q0 v1)],hp8 v2⟩ ?_ (zz rfl) trivial ?_ ?_
      ·kernel_rfl
      ·exact n1_
      refine AEach.step (i:=4) [] #[y1,y1,y1,n1,y1,y1,y1,y1,n1,y1,y1,y1,n1,n1,n1,n1,y1,n1,n1,n1,n1,n1,n1] rfl [0,37,39,42,46,51] 1 ⟨[(0,.pc 0 0),(37,.pc 0 0),(39,.tv (.own 1 22 0 (newRowF [] 1))),(42,.pc 0 2),(46,.pc 0 4),(51,q0 v1)],hp8 v2⟩ ?_ (zz rfl) trivial ?_ ?_
      ·kernel_rfl
      ·refine AAny.extL 39 (cSl 1 (cInt .u8)) ([]:List (List Int)) rfl rfl (row_at (cSl 1 (cInt .u8)) 1 (fun _=>rfl) ([]:List (List Int)) _ rfl) ?_
       refine AAny.keepTo [0,37,39,42,46,51] 1 ⟨[(0,.pc 0 0),(37,.pc 0 0),(39,.tv (ownL 1 22 (cSl 1 (cInt .u8)) ([]:List (List Int)))),(42,.pc 0 2),(46,.pc 0 4),(51,q0 v1)],hp8 v2⟩ #[y1,y1,y1,n1,y1,y1,y1,y1,n1,y1,y1,y1,n1,n1,n1,n1,y1,n1,n1,n1,n1,n1,n1] ?_ rfl (zz rfl) ?_
       ·kernel_rfl
       exact n2_
      refine AEach.step (i:=8) [] #[y1,y1,y1,n1,n1,y1,y1,y1,y1,y1,y1,y1,n1,n1,n1,n1,y1,n1,n1,n1,n1,n1,n1] rfl [0,37,43,46,51] 1 ⟨[(0,.pc 0 0),(37,.pc 0 0),(43,.tv (fzL 1 (cSl 1 (cInt .u8)) v2.f2)),(46,.pc 0 4),(51,q0 v1)],hp8 v2⟩ ?_ (zz rfl) trivial ?_ ?_
      ·kernel_rfl
      ·exact n3_
      refine AEach.step (i:=12) [] #[y1,y1,y1,n1,n1,y1,y1,y1,n1,y1,y1,y1,y1,n1,n1,n1,y1,n1,n1,n1,n1,n1,n1] rfl [0,37,42,47,51] 1 ⟨[(0,.pc 0 0),(37,.pc 0 0),(42,.pc 0 2),(47,tI v2.f4),(51,q0 v1)],hp8 v2⟩ ?_ (zz rfl) trivial ?_ ?_
      ·kernel_rfl
      ·exact n4_
      refine AEach.step (i:=15) [] #[y1,y1,y1,n1,n1,y1,y1,y1,n1,y1,y1,y1,n1,n1,n1,y1,y1,n1,n1,n1,n1,n1,n1] rfl [0,37,42,46,50,51] 1 ⟨[(0,.pc 0 0),(37,.pc 0 0),(42,.pc 0 2),(46,.pc 0 4),(50,.tv (.own 1 5 0 (newRowF [] 1))),(51,q0 v1)],hp8 v2⟩ ?_ (zz rfl) trivial ?_ ?_
      ·kernel_rfl
      ·refine AAny.extL 50 (cInt .u8) ([]:List Int) rfl rfl (row_at (cInt .u8) 1 (fun _=>rfl) ([]:List Int) _ rfl) ?_
       refine AAny.keepTo [0,37,42,46,50,51] 1 ⟨[(0,.pc 0 0),(37,.pc 0 0),(42,.pc 0 2),(46,.pc 0 4),(50,q1 ([]:List Int)),(51,q0 v1)],hp8 v2⟩ #[y1,y1,y1,n1,n1,y1,y1,y1,n1,y1,y1,y1,n1,n1,n1,y1,y1,n1,n1,n1,n1,n1,n1] ?_ rfl (zz rfl) ?_
       ·kernel_rfl
       exact n5_
      exact AEach.nil

end Go.Sx.unit
