/- Printed by program (wip/gen): plain functions and their walks; no condition. -/
import Derived.Test.YtlfaghcnnlifmaaGreatGx3
namespace Go.Sx.top
open Go Go.Sx Go.Proofs

noncomputable def f114 (v1:List T80) (v2:Int):Option Bool :=
 if (0:Int) ≤ v2 ∧ v2 < (v1.length:Int) then (cond (!(((v1.getD v2.toNat default).f1) == ([]:List UInt8))) (if (0:Int) ≤ v2 ∧ v2 ≤ (v1.length:Int) then (f29 ((v1.take v2.toNat).drop 0) ((v1.getD v2.toNat default).f1)).bind fun v4=>cond (decide (v4 < (0:Int))) (some true) ((f140_141 ((v1.getD v2.toNat default).f3) v1 v2).bind fun v5=>some v5) else none) ((f140_141 ((v1.getD v2.toNat default).f3) v1 v2).bind fun v6=>some v6)).bind fun v3=>some v3 else none

theorem f114_ok (v1:List T80) (v2:Int) {r:Bool} (h:f114 v1 v2 = some r):ACall Tryz.prog 114 [.tv (fzL 6 c80 v1),.tv (.int .i64 v2)] [] (.tv (.bool r)) []:=by
 refine ACall.of1 (FF 28 0) Tryz.func114 rfl Tryz.ntmps114 Tryz.results114 (zz rfl) rfl rfl ?_
 refine AWp.seq ?_
 refine AWp.start [0,1,2] [] [] [2,3] 2 ⟨[(2,.pc 0 0),(3,.pc 1 0)],[.cells 40 [k1 v1],.cells 3 [.int .i64 v2]]⟩ rfl ?_ z0 trivial ?_
 ·kernel_rfl
 refine AOps.nil ?_
 refine AWp.seq ?_
 refine AWp.pin 0 rfl rfl ?_
 refine AWp.pin 1 rfl rfl ?_
 refine AWp.keepTo [2,3] 0 ⟨[(2,.rp [k1 v1]),(3,.rp [.int .i64 v2])],[]⟩ ?_ z0 ?_
 ·kernel_rfl
 obtain ⟨hg,h⟩:=of_guard h
 refine AWp.start [0,1,2,3,4,5] [] [(0:Int) ≤ v2,v2 < (v1.length:Int)] [2,3,5] 1 ⟨[(2,.rp [k1 v1]),(3,.rp [.int .i64 v2]),(5,.pc 0 0)],[.cells 81 (c80 (gD v1 v2))]⟩ rfl ?_ z0 ⟨hg.1,hg.2⟩ ?_
 ·kernel_rfl
 refine AOps.nil ?_
 refine AWp.seq ?_
 refine AWp.pin 0 rfl rfl ?_
 refine AWp.keepTo [2,3,5] 0 ⟨[(2,.rp [k1 v1]),(3,.rp [.int .i64 v2]),(5,.rp (c80 (gD v1 v2)))],[]⟩ ?_ z0 ?_
 ·kernel_rfl
 obtain ⟨v3,hd,h⟩:=of_bind h
 refine AWp.draw FFm (fun σ=>σ = ⟨[(4,tB v3)],[]⟩) (n:=19) rfl (ls:=#[n1,n1,n1,n1,n1,n1,n1,n1,n1,n1,n1,n1,n1,n1,n1,n1,n1,n1,n1]) rfl ?_ ?_
 ·refine AAny.go (by kernel_rfl) [0,1,2,3] (fuel':=15) rfl [] #[y1,y1,y1,y1,n1,n1,n1,n1,n1,n1,n1,n1,n1,n1,n1,n1,n1,n1,n1] [2,3,5,13] 0 ⟨[(2,.rp [k1 v1]),(3,.rp [.int .i64 v2]),(5,.rp (c80 (gD v1 v2))),(13,tB (!(((gD v1 v2).f1) == ([]:List UInt8))))],[]⟩ ?_ z0 trivial ?_
  ·kernel_rfl
  refine AAny.split (fun b=>⟨[(2,.rp [k1 v1]),(3,.rp [.int .i64 v2]),(5,.rp (c80 (gD v1 v2))),(13,tB b)],[]⟩) _ (fun hb=>?_) fun hb=>?_
  ·replace hd:=of_true hd hb
   obtain ⟨hg,hd⟩:=of_guard hd
   refine AAny.go (by kernel_rfl) [4,5,6] (fuel':=12) rfl [(0:Int) ≤ (0:Int),(0:Int) ≤ v2,v2 ≤ (v1.length:Int)] #[y1,y1,y1,y1,y1,y1,y1,n1,n1,n1,n1,n1,n1,n1,n1,n1,n1,n1,n1] [2,3,5,13,16] 0 ⟨[(2,.rp [k1 v1]),(3,.rp [.int .i64 v2]),(5,.rp (c80 (gD v1 v2))),(13,tB true),(16,.tv (.fz 6 (v2.toNat - 0) (fun i=>c80 (v1.getD (0 + i) default))))],[]⟩ ?_ z0 ⟨(by decide:(0:Int) ≤ (0:Int)),hg.1,hg.2⟩ ?_
   ·kernel_rfl
   have hb:v2.toNat ≤ v1.length:=by have hh:v2 ≤ (v1.length:Int):=hg.2; omega
   refine AAny.extFzL (s:=16) rfl (sub_len v1 0 v2.toNat hb) (sub_at c80 v1 0 v2.toNat hb) ?_
   refine AAny.go (by kernel_rfl) [7,8] (fuel':=10) rfl [] #[y1,y1,y1,y1,y1,y1,y1,y1,y1,n1,n1,n1,n1,n1,n1,n1,n1,n1,n1] [2,3,5,13,16,18] 0 ⟨[(2,.rp [k1 v1]),(3,.rp [.int .i64 v2]),(5,.rp (c80 (gD v1 v2))),(13,tB true),(16,q0 ((v1.take v2.toNat).drop 0)),(18,tS ((gD v1 v2).f1))],[]⟩ ?_ z0 trivial ?_
   ·kernel_rfl
   obtain ⟨v4,hv4,hd⟩:=of_bind hd
   refine AAny.serial (i:=9) (fuel:=9) (by kernel_rfl) (AOne.callP (F:=(FF 28 0)) _ rfl rfl rfl _ rfl rfl _ _ rfl Tryz.call29 [q0 ((v1.take v2.toNat).drop 0),tS ((gD v1 v2).f1)] rfl rfl (f29_ok ((v1.take v2.toNat).drop 0) ((gD v1 v2).f1) hv4) rfl) ?_
   refine AAny.keepTo [2,3,5,13,19] 0 ⟨[(2,.rp [k1 v1]),(3,.rp [.int .i64 v2]),(5,.rp (c80 (gD v1 v2))),(13,tB true),(19,tI v4)],[]⟩ #[y1,y1,y1,y1,y1,y1,y1,y1,y1,y1,n1,n1,n1,n1,n1,n1,n1,n1,n1] ?_ rfl z0 ?_
   ·kernel_rfl
   refine AAny.go (by kernel_rfl) [10,11,12] (fuel':=6) rfl [] #[y1,y1,y1,y1,y1,y1,y1,y1,y1,y1,y1,y1,y1,n1,n1,n1,n1,n1,n1] [2,3,5,22] 0 ⟨[(2,.rp [k1 v1]),(3,.rp [.int .i64 v2]),(5,.rp (c80 (gD v1 v2))),(22,tB (decide (v4 < (0:Int))))],[]⟩ ?_ z0 trivial ?_
   ·kernel_rfl
   refine AAny.split (fun b=>⟨[(2,.rp [k1 v1]),(3,.rp [.int .i64 v2]),(5,.rp (c80 (gD v1 v2))),(22,tB b)],[]⟩) _ (fun hb=>?_) fun hb=>?_
   ·replace hd:=of_true hd hb
    refine AAny.go (by kernel_rfl) [13,14,15,16,17,18] (fuel':=0) rfl [] #[y1,y1,y1,y1,y1,y1,y1,y1,y1,y1,y1,y1,y1,y1,y1,y1,y1,y1,y1] [4] 0 ⟨[(4,tB true)],[]⟩ ?_ z0 trivial ?_
    ·kernel_rfl
    refine AAny.keepTo [4] 0 ⟨[(4,tB true)],[]⟩ _ ?_ rfl z0 (AAny.done (by kernel_rfl) ?_)
    ·kernel_rfl
    cases hd
    exact rfl
   ·replace hd:=of_false hd hb
    refine AAny.go (by kernel_rfl) [13,14,15] (fuel':=3) rfl [] #[y1,y1,y1,y1,y1,y1,y1,y1,y1,y1,y1,y1,y1,y1,y1,y1,n1,n1,n1] [22,24,25] 0 ⟨[(22,tB false),(24,q1 ((gD v1 v2).f3)),(25,.fn 141 [.rp [k1 v1],.rp [.int .i64 v2]])],[]⟩ ?_ z0 trivial ?_
    ·kernel_rfl
    obtain ⟨v5,hv5,hd⟩:=of_bind hd
    refine AAny.serial (i:=16) (fuel:=2) (by kernel_rfl) (AOne.callP (F:=(FF 28 0)) _ rfl rfl rfl _ rfl rfl _ _ rfl Tryz.call140 [q1 ((gD v1 v2).f3),.fn 141 [.rp [k1 v1],.rp [.int .i64 v2]]] rfl rfl (f140_141_ok ((gD v1 v2).f3) v1 v2 hv5) rfl) ?_
    refine AAny.keepTo [22,26] 0 ⟨[(22,tB false),(26,tB v5)],[]⟩ #[y1,y1,y1,y1,y1,y1,y1,y1,y1,y1,y1,y1,y1,y1,y1,y1,y1,n1,n1] ?_ rfl z0 ?_
    ·kernel_rfl
    refine AAny.go (by kernel_rfl) [17,18] (fuel':=0) rfl [] #[y1,y1,y1,y1,y1,y1,y1,y1,y1,y1,y1,y1,y1,y1,y1,y1,y1,y1,y1] [4] 0 ⟨[(4,tB v5)],[]⟩ ?_ z0 trivial ?_
    ·kernel_rfl
    refine AAny.keepTo [4] 0 ⟨[(4,tB v5)],[]⟩ _ ?_ rfl z0 (AAny.done (by kernel_rfl) ?_)
    ·kernel_rfl
    cases hd
    exact rfl
  ·replace hd:=of_false hd hb
   refine AAny.go (by kernel_rfl) [4,5,6,7,8,9,10,11,12,13,14,15] (fuel':=3) rfl [] #[y1,y1,y1,y1,y1,y1,y1,y1,y1,y1,y1,y1,y1,y1,y1,y1,n1,n1,n1] [22,24,25] 0 ⟨[(22,tB false),(24,q1 ((gD v1 v2).f3)),(25,.fn 141 [.rp [k1 v1],.rp [.int .i64 v2]])],[]⟩ ?_ z0 trivial ?_
   ·kernel_rfl
   obtain ⟨v6,hv6,hd⟩:=of_bind hd
   refine AAny.serial (i:=16) (fuel:=2) (by kernel_rfl) (AOne.callP (F:=(FF 28 0)) _ rfl rfl rfl _ rfl rfl _ _ rfl Tryz.call140 [q1 ((gD v1 v2).f3),.fn 141 [.rp [k1 v1],.rp [.int .i64 v2]]] rfl rfl (f140_141_ok ((gD v1 v2).f3) v1 v2 hv6) rfl) ?_
   refine AAny.keepTo [22,26] 0 ⟨[(22,tB false),(26,tB v6)],[]⟩ #[y1,y1,y1,y1,y1,y1,y1,y1,y1,y1,y1,y1,y1,y1,y1,y1,y1,n1,n1] ?_ rfl z0 ?_
   ·kernel_rfl
   refine AAny.go (by kernel_rfl) [17,18] (fuel':=0) rfl [] #[y1,y1,y1,y1,y1,y1,y1,y1,y1,y1,y1,y1,y1,y1,y1,y1,y1,y1,y1] [4] 0 ⟨[(4,tB v6)],[]⟩ ?_ z0 trivial ?_
   ·kernel_rfl
   refine AAny.keepTo [4] 0 ⟨[(4,tB v6)],[]⟩ _ ?_ rfl z0 (AAny.done (by kernel_rfl) ?_)
   ·kernel_rfl
   cases hd
   exact rfl
 rintro σ' rfl
 refine AWp.ret ?_
 cases h
 exact ⟨.inr rfl,rfl⟩

noncomputable def f142 (v1:T86) (v2:List T80):Option Bool :=
 (cond (!(v1.f1 == ([]:List UInt8))) ((f29 v2 v1.f1).bind fun v4=>if (0:Int) ≤ v4 ∧ v4 < (v2.length:Int) then some ((v2.getD v4.toNat default).f2) else none) (some false)).bind fun v3=>some v3

theorem f142_ok (v1:T86) (v2:List T80) {r:Bool} (h:f142 v1 v2 = some r):ACall Tryz.prog 142 [.agg [.str v1.f0,.str v1.f1,.int .i64 v1.f2],.rp [fzL 6 c80 v2]] [] (.tv (.bool r)) []:=by
 refine ACall.of1 (FF 17 0) Tryz.func142 rfl Tryz.ntmps142 Tryz.results142 (zz rfl) rfl rfl ?_
 refine AWp.seq ?_
 refine AWp.start [0,1] [] [] [1,2] 1 ⟨[(1,.rp [k1 v2]),(2,.pc 0 0)],[.cells 87 (c86 v1)]⟩ rfl ?_ z0 trivial ?_
 ·kernel_rfl
 refine AOps.nil ?_
 refine AWp.seq ?_
 refine AWp.pin 0 rfl rfl ?_
 refine AWp.keepTo [1,2] 0 ⟨[(1,.rp [k1 v2]),(2,.rp (c86 v1))],[]⟩ ?_ z0 ?_
 ·kernel_rfl
 obtain ⟨v3,hd,h⟩:=of_bind h
 refine AWp.draw FFm (fun σ=>σ = ⟨[(3,tB v3)],[]⟩) (n:=14) rfl (ls:=#[n1,n1,n1,n1,n1,n1,n1,n1,n1,n1,n1,n1,n1,n1]) rfl ?_ ?_
 ·refine AAny.go (by kernel_rfl) [0,1,2,3] (fuel':=10) rfl [] #[y1,y1,y1,y1,n1,n1,n1,n1,n1,n1,n1,n1,n1,n1] [1,2,7] 0 ⟨[(1,.rp [k1 v2]),(2,.rp (c86 v1)),(7,tB (!(v1.f1 == ([]:List UInt8))))],[]⟩ ?_ z0 trivial ?_
  ·kernel_rfl
  refine AAny.split (fun b=>⟨[(1,.rp [k1 v2]),(2,.rp (c86 v1)),(7,tB b)],[]⟩) _ (fun hb=>?_) fun hb=>?_
  ·replace hd:=of_true hd hb
   refine AAny.go (by kernel_rfl) [4,5,6,7] (fuel':=6) rfl [] #[y1,y1,y1,y1,y1,y1,y1,y1,n1,n1,n1,n1,n1,n1] [7,8,9,11] 0 ⟨[(7,tB true),(8,q0 v2),(9,q0 v2),(11,tS v1.f1)],[]⟩ ?_ z0 trivial ?_
   ·kernel_rfl
   obtain ⟨v4,hv4,hd⟩:=of_bind hd
   refine AAny.serial (i:=8) (fuel:=5) (by kernel_rfl) (AOne.callP (F:=(FF 17 0)) _ rfl rfl rfl _ rfl rfl _ _ rfl Tryz.call29 [q0 v2,tS v1.f1] rfl rfl (f29_ok v2 v1.f1 hv4) rfl) ?_
   refine AAny.keepTo [7,8,12] 0 ⟨[(7,tB true),(8,q0 v2),(12,tI v4)],[]⟩ #[y1,y1,y1,y1,y1,y1,y1,y1,y1,n1,n1,n1,n1,n1] ?_ rfl z0 ?_
   ·kernel_rfl
   obtain ⟨hg,hd⟩:=of_guard hd
   refine AAny.go (by kernel_rfl) [9,10,11,12,13] (fuel':=0) rfl [(0:Int) ≤ v4,v4 < (v2.length:Int)] #[y1,y1,y1,y1,y1,y1,y1,y1,y1,y1,y1,y1,y1,y1] [3] 0 ⟨[(3,tB ((gD v2 v4).f2))],[]⟩ ?_ z0 ⟨hg.1,hg.2⟩ ?_
   ·kernel_rfl
   refine AAny.keepTo [3] 0 ⟨[(3,tB ((gD v2 v4).f2))],[]⟩ _ ?_ rfl z0 (AAny.done (by kernel_rfl) ?_)
   ·kernel_rfl
   cases hd
   exact rfl
  ·replace hd:=of_false hd hb
   refine AAny.go (by kernel_rfl) [4,5,6,7,8,9,10,11,12,13] (fuel':=0) rfl [] #[y1,y1,y1,y1,y1,y1,y1,y1,y1,y1,y1,y1,y1,y1] [3] 0 ⟨[(3,tB false)],[]⟩ ?_ z0 trivial ?_
   ·kernel_rfl
   refine AAny.keepTo [3] 0 ⟨[(3,tB false)],[]⟩ _ ?_ rfl z0 (AAny.done (by kernel_rfl) ?_)
   ·kernel_rfl
   cases hd
   exact rfl
 rintro σ' rfl
 refine AWp.ret ?_
 cases h
 exact ⟨.inr rfl,rfl⟩

noncomputable def f167_142_b1 (v1:List T86) (v2:List T80) (v3:Int):Option (Int ⊕ Out Int Unit) :=
 cond (decide (v3 < (v1.length:Int))) (if (0:Int) ≤ v3 ∧ v3 < (v1.length:Int) then (f142 (v1.getD v3.toNat default) v2).bind fun v4=>cond v4 (some (.inr (.ret v3))) (some (.inl (w64 (v3 + (1:Int))))) else none) (some (.inr (.go ())))

noncomputable def f167_142 (v1:List T86) (v2:List T80):Option Int :=
 (iter (fun s=>f167_142_b1 v1 v2 s) (0:Int)).bind fun y=>match y with | .ret v5=>some v5 | .go _=>some (-1:Int)

theorem f167_142_ok (v1:List T86) (v2:List T80) {r:Int} (h:f167_142 v1 v2 = some r):ACall Tryz.prog 167 [.tv (fzL 3 c86 v1),.fn 142 [.rp [fzL 6 c80 v2]]] [] (.tv (.int .i64 r)) []:=by
 refine ACall.of1 (FF 19 0) Tryz.func167 rfl Tryz.ntmps167 Tryz.results167 (zz rfl) rfl rfl ?_
 refine AWp.seq ?_
 refine AWp.start [0] [] [] [0,1] 0 ⟨[(0,q1 v1),(1,.fn 142 [.rp [k1 v2]])],[]⟩ rfl ?_ z0 trivial ?_
 ·kernel_rfl
 refine AOps.nil ?_
 refine AWp.seq ?_
 refine AWp.seq ?_
 refine AWp.start [0,1,2] [] [] [0,1,7,8] 0 ⟨[(0,q1 v1),(1,.fn 142 [.rp [k1 v2]]),(7,tI (v1.length:Int)),(8,tI (0:Int))],[]⟩ rfl ?_ z0 trivial ?_
 ·kernel_rfl
 refine AOps.nil ?_
 refine AWp.block ?_
 obtain ⟨y,hy,h⟩:=of_bind h
 refine AWp.mono (AWp.loop (S:=Int) (Y:=Out Int Unit) (fun s=>⟨[(0,q1 v1),(1,.fn 142 [.rp [k1 v2]]),(7,tI (v1.length:Int)),(8,tI s)],[]⟩) (fun s=>f167_142_b1 v1 v2 s) (fun y e σ=>match y with | .ret r=>e = .ret ∧ σ = ⟨[(4,tI r)],[]⟩ | .go v=>e = .exit 0 ∧ σ = ⟨[],[]⟩) ?_ hy) ?_
 ·rintro v3 o h
  refine AWp.seq ?_
  refine AWp.start [0] [] [] [0,1,7,8,9] 0 ⟨[(0,q1 v1),(1,.fn 142 [.rp [k1 v2]]),(7,tI (v1.length:Int)),(8,tI v3),(9,tB (decide (v3 < (v1.length:Int))))],[]⟩ rfl ?_ z0 trivial ?_
  ·kernel_rfl
  refine AOps.nil ?_
  refine AWp.seq ?_
  refine AWp.cond rfl (fun hb=>?_) fun hb=>?_
  ·replace h:=of_true h hb
   refine AWp.keepTo [0,1,7,8] 0 ⟨[(0,q1 v1),(1,.fn 142 [.rp [k1 v2]]),(7,tI (v1.length:Int)),(8,tI v3)],[]⟩ ?_ z0 ?_
   ·kernel_rfl
   refine AWp.skip ?_
   refine AWp.seq ?_
   refine AWp.block ?_
   refine AWp.seq ?_
   refine AWp.start [0,1] [] [] [0,1,5,7,8] 0 ⟨[(0,q1 v1),(1,.fn 142 [.rp [k1 v2]]),(5,tI v3),(7,tI (v1.length:Int)),(8,tI v3)],[]⟩ rfl ?_ z0 trivial ?_
   ·kernel_rfl
   refine AOps.nil ?_
   refine AWp.seq ?_
   obtain ⟨hg,h⟩:=of_guard h
   refine AWp.start [0,1,2,3,4] [5] [(0:Int) ≤ v3,v3 < (v1.length:Int)] [0,1,5,7,8,11,15] 0 ⟨[(0,q1 v1),(1,.fn 142 [.rp [k1 v2]]),(5,tI v3),(7,tI (v1.length:Int)),(8,tI v3),(11,.fn 142 [.rp [k1 v2]]),(15,.agg (c86 (gD v1 v3)))],[]⟩ rfl ?_ z0 ⟨hg.1,hg.2⟩ ?_
   ·kernel_rfl
   obtain ⟨v4,hv4,h⟩:=of_bind h
   refine AOps.cons (AOne.callP (F:=(FF 19 0)) _ rfl rfl rfl _ rfl rfl _ _ rfl Tryz.call142 [.agg (c86 (gD v1 v3)),.rp [k1 v2]] rfl rfl (f142_ok (gD v1 v3) v2 hv4) rfl) ?_
   refine AOps.keepTo [0,1,5,7,8,16] 0 ⟨[(0,q1 v1),(1,.fn 142 [.rp [k1 v2]]),(5,tI v3),(7,tI (v1.length:Int)),(8,tI v3),(16,tB v4)],[]⟩ ?_ z0 ?_
   ·kernel_rfl
   refine AOps.nil ?_
   refine AWp.cond rfl (fun hb=>?_) fun hb=>?_
   ·replace h:=of_true h hb
    refine AWp.keepTo [5] 0 ⟨[(5,tI v3)],[]⟩ ?_ z0 ?_
    ·kernel_rfl
    refine AWp.seq ?_
    refine AWp.start [0,1] [] [] [4] 0 ⟨[(4,tI v3)],[]⟩ rfl ?_ z0 trivial ?_
    ·kernel_rfl
    refine AOps.nil ?_
    refine AWp.ret ?_
    cases h
    exact Or.inr ⟨_,rfl,by simp,rfl,rfl⟩
   ·replace h:=of_false h hb
    refine AWp.keepTo [0,1,7,8] 0 ⟨[(0,q1 v1),(1,.fn 142 [.rp [k1 v2]]),(7,tI (v1.length:Int)),(8,tI v3)],[]⟩ ?_ z0 ?_
    ·kernel_rfl
    refine AWp.skip ?_
    refine AWp.start [0,1] [] [] [0,1,7,8] 0 ⟨[(0,q1 v1),(1,.fn 142 [.rp [k1 v2]]),(7,tI (v1.length:Int)),(8,tI (w64 (v3 + (1:Int))))],[]⟩ rfl ?_ z0 trivial ?_
    ·kernel_rfl
    refine AOps.nil ?_
    cases h
    exact Or.inl ⟨_,rfl,rfl,rfl⟩
  ·replace h:=of_false h hb
   refine AWp.keepTo [] 0 ⟨[],[]⟩ ?_ z0 ?_
   ·kernel_rfl
   refine AWp.exit ?_
   cases h
   exact Or.inr ⟨_,rfl,by simp,rfl,rfl⟩
 ·intro e σ hp
  rcases y with v5 | _
  ·obtain ⟨rfl,rfl⟩:=hp
   cases h
   exact ⟨.inr rfl,rfl⟩
  ·obtain ⟨rfl,rfl⟩:=hp
   refine AWp.seq ?_
   refine AWp.start [0] [] [] [4] 0 ⟨[(4,tI (-1:Int))],[]⟩ rfl ?_ z0 trivial ?_
   ·kernel_rfl
   refine AOps.nil ?_
   refine AWp.ret ?_
   cases h
   exact ⟨.inr rfl,rfl⟩

noncomputable def f140_142 (v1:List T86) (v2:List T80):Option Bool :=
 (f167_142 v1 v2).bind fun v3=>some (decide (v3 ≥ (0:Int)))

theorem f140_142_ok (v1:List T86) (v2:List T80) {r:Bool} (h:f140_142 v1 v2 = some r):ACall Tryz.prog 140 [.tv (fzL 3 c86 v1),.fn 142 [.rp [fzL 6 c80 v2]]] [] (.tv (.bool r)) []:=by
 refine ACall.of1 (FF 9 0) Tryz.func140 rfl Tryz.ntmps140 Tryz.results140 (zz rfl) rfl rfl ?_
 refine AWp.seq ?_
 refine AWp.start [0] [] [] [0,1] 0 ⟨[(0,q1 v1),(1,.fn 142 [.rp [k1 v2]])],[]⟩ rfl ?_ z0 trivial ?_
 ·kernel_rfl
 refine AOps.nil ?_
 refine AWp.seq ?_
 refine AWp.start [0,1] [2,3,4] [] [5,6] 0 ⟨[(5,q1 v1),(6,.fn 142 [.rp [k1 v2]])],[]⟩ rfl ?_ z0 trivial ?_
 ·kernel_rfl
 obtain ⟨v3,hv3,h⟩:=of_bind h
 refine AOps.cons (AOne.callP (F:=(FF 9 0)) _ rfl rfl rfl _ rfl rfl _ _ rfl Tryz.call167 [q1 v1,.fn 142 [.rp [k1 v2]]] rfl rfl (f167_142_ok v1 v2 hv3) rfl) ?_
 refine AOps.go [3,4] [] [] [4] 0 ⟨[(4,tB (decide (v3 ≥ (0:Int))))],[]⟩ ?_ z0 trivial ?_
 ·kernel_rfl
 refine AOps.nil ?_
 refine AWp.ret ?_
 cases h
 exact ⟨.inr rfl,rfl⟩

noncomputable def f26_b1 (v1:List T80) (v3:List UInt8) (v4:(List Int)) (v5:Int) (v6:Int):Option (Int ⊕ Out ((List UInt8) × Bool) Unit) :=
 cond (decide (v6 < (((v1.getD (Int.toNat (v4.getD v5.toNat default)) default).f4).length:Int))) (if (0:Int) ≤ v6 ∧ v6 < (((v1.getD (Int.toNat (v4.getD v5.toNat default)) default).f4).length:Int) then cond (((((v1.getD (Int.toNat (v4.getD v5.toNat default)) default).f4).getD v6.toNat default).f0) == v3) (some (.inr (.ret ((((v1.getD (Int.toNat (v4.getD v5.toNat default)) default).f4).getD v6.toNat default).f1,true)))) (some (.inl (w64 (v6 + (1:Int))))) else none) (some (.inr (.go ())))

noncomputable def f26_b2 (v1:List T80) (v3:List UInt8) (v4:(List Int)) (v5:Int):Option (Int ⊕ Out ((List UInt8) × Bool) Unit) :=
 cond (decide (v5 < (v4.length:Int))) (if (0:Int) ≤ v5 ∧ v5 < (v4.length:Int) then if (0:Int) ≤ v4.getD v5.toNat default ∧ v4.getD v5.toNat default < (v1.length:Int) then (iter (fun s=>f26_b1 v1 v3 v4 v5 s) (0:Int)).bind fun y=>match y with | .ret v7=>some (.inr (.ret (v7.1,v7.2))) | .go _=>some (.inl (w64 (v5 + (1:Int)))) else none else none) (some (.inr (.go ())))

noncomputable def f26 (v1:List T80) (v2:Int) (v3:List UInt8):Option ((List UInt8) × Bool) :=
 (f25 v1 v2).bind fun v4=>(iter (fun s=>f26_b2 v1 v3 v4 s) (0:Int)).bind fun y=>match y with | .ret v8=>some (v8.1,v8.2) | .go _=>some (([]:List UInt8),false)

theorem f26_ok (v1:List T80) (v2:Int) (v3:List UInt8) {r:(List UInt8) × Bool} (h:f26 v1 v2 v3 = some r):ACall Tryz.prog 26 [.tv (fzL 6 c80 v1),.tv (.int .i64 v2),.tv (.str v3)] [] (.tup [.tv (.str r.1),.tv (.bool r.2)]) []:=by
 refine ACall.ofN (FF 38 0) (rs:=[6,7]) (env:=[(6,tS r.1),(7,tB r.2)]) Tryz.func26 rfl Tryz.ntmps26 Tryz.results26 (by decide) (by decide) rfl (zz rfl) rfl (get_ofN _ _ _ rfl) (ok_ofN _ rfl) ?_
 refine AWp.seq ?_
 refine AWp.start [0,1] [] [] [0,1,2] 0 ⟨[(0,q0 v1),(1,tI v2),(2,tS v3)],[]⟩ rfl ?_ z0 trivial ?_
 ·kernel_rfl
 refine AOps.nil ?_
 refine AWp.seq ?_
 refine AWp.seq ?_
 refine AWp.start [0,1] [2,3,4] [] [0,2,12,13] 0 ⟨[(0,q0 v1),(2,tS v3),(12,q0 v1),(13,tI v2)],[]⟩ rfl ?_ z0 trivial ?_
 ·kernel_rfl
 obtain ⟨v4,hv4,h⟩:=of_bind h
 refine AOps.cons (AOne.callP (F:=(FF 38 0)) _ rfl rfl rfl _ rfl rfl _ _ rfl Tryz.call25 [q0 v1,tI v2] rfl rfl (f25_ok v1 v2 hv4) rfl) ?_
 refine AOps.freezeL 14 (cInt .i64) v4 rfl (fun _=>rfl) ?_
 refine AOps.go [3,4] [] [] [0,2,14,15,16] 0 ⟨[(0,q0 v1),(2,tS v3),(14,q3 v4),(15,tI (v4.length:Int)),(16,tI (0:Int))],[]⟩ ?_ z0 trivial ?_
 ·kernel_rfl
 refine AOps.nil ?_
 refine AWp.block ?_
 obtain ⟨y,hy,h⟩:=of_bind h
 refine AWp.mono (AWp.loop (S:=Int) (Y:=Out ((List UInt8) × Bool) Unit) (fun s=>⟨[(0,q0 v1),(2,tS v3),(14,q3 v4),(15,tI (v4.length:Int)),(16,tI s)],[]⟩) (fun s=>f26_b2 v1 v3 v4 s) (fun y e σ=>match y with | .ret r=>e = .ret ∧ σ = ⟨[(6,tS r.1),(7,tB r.2)],[]⟩ | .go v=>e = .exit 0 ∧ σ = ⟨[],[]⟩) ?_ hy) ?_
 ·rintro v5 o h
  refine AWp.seq ?_
  refine AWp.start [0] [] [] [0,2,14,15,16,17] 0 ⟨[(0,q0 v1),(2,tS v3),(14,q3 v4),(15,tI (v4.length:Int)),(16,tI v5),(17,tB (decide (v5 < (v4.length:Int))))],[]⟩ rfl ?_ z0 trivial ?_
  ·kernel_rfl
  refine AOps.nil ?_
  refine AWp.seq ?_
  refine AWp.cond rfl (fun hb=>?_) fun hb=>?_
  ·replace h:=of_true h hb
   refine AWp.keepTo [0,2,14,15,16] 0 ⟨[(0,q0 v1),(2,tS v3),(14,q3 v4),(15,tI (v4.length:Int)),(16,tI v5)],[]⟩ ?_ z0 ?_
   ·kernel_rfl
   refine AWp.skip ?_
   refine AWp.seq ?_
   refine AWp.block ?_
   refine AWp.seq ?_
   obtain ⟨hg,h⟩:=of_guard h
   refine AWp.start [0,1,2] [] [(0:Int) ≤ v5,v5 < (v4.length:Int)] [0,2,9,14,15,16] 0 ⟨[(0,q0 v1),(2,tS v3),(9,tI (gD v4 v5)),(14,q3 v4),(15,tI (v4.length:Int)),(16,tI v5)],[]⟩ rfl ?_ z0 ⟨hg.1,hg.2⟩ ?_
   ·kernel_rfl
   refine AOps.nil ?_
   refine AWp.seq ?_
   obtain ⟨hg,h⟩:=of_guard h
   refine AWp.start [0,1,2,3,4,5,6] [] [(0:Int) ≤ gD v4 v5,gD v4 v5 < (v1.length:Int)] [0,2,14,15,16,24,25,26] 0 ⟨[(0,q0 v1),(2,tS v3),(14,q3 v4),(15,tI (v4.length:Int)),(16,tI v5),(24,.tv (k4 ((v1.getD (Int.toNat (gD v4 v5)) default).f4))),(25,tI (((v1.getD (Int.toNat (gD v4 v5)) default).f4).length:Int)),(26,tI (0:Int))],[]⟩ rfl ?_ z0 ⟨hg.1,hg.2⟩ ?_
   ·kernel_rfl
   refine AOps.nil ?_
   refine AWp.block ?_
   obtain ⟨y,hy,h⟩:=of_bind h
   refine AWp.mono (AWp.loop (S:=Int) (Y:=Out ((List UInt8) × Bool) Unit) (fun s=>⟨[(0,q0 v1),(2,tS v3),(14,q3 v4),(15,tI (v4.length:Int)),(16,tI v5),(24,.tv (k4 ((v1.getD (Int.toNat (gD v4 v5)) default).f4))),(25,tI (((v1.getD (Int.toNat (gD v4 v5)) default).f4).length:Int)),(26,tI s)],[]⟩) (fun s=>f26_b1 v1 v3 v4 v5 s) (fun y e σ=>match y with | .ret r=>e = .ret ∧ σ = ⟨[(6,tS r.1),(7,tB r.2)],[]⟩ | .go v=>e = .exit 2 ∧ σ = ⟨[(0,q0 v1),(2,tS v3),(14,q3 v4),(15,tI (v4.length:Int)),(16,tI v5)],[]⟩) ?_ hy) ?_
   ·rintro v6 o h
    refine AWp.seq ?_
    refine AWp.start [0] [] [] [0,2,14,15,16,24,25,26,27] 0 ⟨[(0,q0 v1),(2,tS v3),(14,q3 v4),(15,tI (v4.length:Int)),(16,tI v5),(24,.tv (k4 ((v1.getD (Int.toNat (gD v4 v5)) default).f4))),(25,tI (((v1.getD (Int.toNat (gD v4 v5)) default).f4).length:Int)),(26,tI v6),(27,tB (decide (v6 < (((v1.getD (Int.toNat (gD v4 v5)) default).f4).length:Int))))],[]⟩ rfl ?_ z0 trivial ?_
    ·kernel_rfl
    refine AOps.nil ?_
    refine AWp.seq ?_
    refine AWp.cond rfl (fun hb=>?_) fun hb=>?_
    ·replace h:=of_true h hb
     refine AWp.keepTo [0,2,14,15,16,24,25,26] 0 ⟨[(0,q0 v1),(2,tS v3),(14,q3 v4),(15,tI (v4.length:Int)),(16,tI v5),(24,.tv (k4 ((v1.getD (Int.toNat (gD v4 v5)) default).f4))),(25,tI (((v1.getD (Int.toNat (gD v4 v5)) default).f4).length:Int)),(26,tI v6)],[]⟩ ?_ z0 ?_
     ·kernel_rfl
     refine AWp.skip ?_
     refine AWp.seq ?_
     refine AWp.block ?_
     refine AWp.seq ?_
     obtain ⟨hg,h⟩:=of_guard h
     refine AWp.start [0,1,2,3] [] [(0:Int) ≤ v6,v6 < (((v1.getD (Int.toNat (gD v4 v5)) default).f4).length:Int)] [0,2,11,14,15,16,24,25,26] 1 ⟨[(0,q0 v1),(2,tS v3),(11,.pc 0 0),(14,q3 v4),(15,tI (v4.length:Int)),(16,tI v5),(24,.tv (k4 ((v1.getD (Int.toNat (gD v4 v5)) default).f4))),(25,tI (((v1.getD (Int.toNat (gD v4 v5)) default).f4).length:Int)),(26,tI v6)],[.cells 108 (c107 (gD ((v1.getD (Int.toNat (gD v4 v5)) default).f4) v6))]⟩ rfl ?_ z0 ⟨hg.1,hg.2⟩ ?_
     ·kernel_rfl
     refine AOps.nil ?_
     refine AWp.seq ?_
     refine AWp.pin 0 rfl rfl ?_
     refine AWp.keepTo [0,2,11,14,15,16,24,25,26] 0 ⟨[(0,q0 v1),(2,tS v3),(11,.rp (c107 (gD ((v1.getD (Int.toNat (gD v4 v5)) default).f4) v6))),(14,q3 v4),(15,tI (v4.length:Int)),(16,tI v5),(24,.tv (k4 ((v1.getD (Int.toNat (gD v4 v5)) default).f4))),(25,tI (((v1.getD (Int.toNat (gD v4 v5)) default).f4).length:Int)),(26,tI v6)],[]⟩ ?_ z0 ?_
     ·kernel_rfl
     refine AWp.start [0,1,2,3] [] [] [0,2,11,14,15,16,24,25,26,33] 0 ⟨[(0,q0 v1),(2,tS v3),(11,.rp (c107 (gD ((v1.getD (Int.toNat (gD v4 v5)) default).f4) v6))),(14,q3 v4),(15,tI (v4.length:Int)),(16,tI v5),(24,.tv (k4 ((v1.getD (Int.toNat (gD v4 v5)) default).f4))),(25,tI (((v1.getD (Int.toNat (gD v4 v5)) default).f4).length:Int)),(26,tI v6),(33,tB (((gD ((v1.getD (Int.toNat (gD v4 v5)) default).f4) v6).f0) == v3))],[]⟩ rfl ?_ z0 trivial ?_
     ·kernel_rfl
     refine AOps.nil ?_
     refine AWp.cond rfl (fun hb=>?_) fun hb=>?_
     ·replace h:=of_true h hb
      refine AWp.keepTo [11] 0 ⟨[(11,.rp (c107 (gD ((v1.getD (Int.toNat (gD v4 v5)) default).f4) v6)))],[]⟩ ?_ z0 ?_
      ·kernel_rfl
      refine AWp.seq ?_
      refine AWp.start [0,1,2,3] [] [] [6,7] 0 ⟨[(6,tS ((gD ((v1.getD (Int.toNat (gD v4 v5)) default).f4) v6).f1)),(7,tB true)],[]⟩ rfl ?_ z0 trivial ?_
      ·kernel_rfl
      refine AOps.nil ?_
      refine AWp.ret ?_
      cases h
      exact Or.inr ⟨_,rfl,by simp,rfl,rfl⟩
     ·replace h:=of_false h hb
      refine AWp.keepTo [0,2,14,15,16,24,25,26] 0 ⟨[(0,q0 v1),(2,tS v3),(14,q3 v4),(15,tI (v4.length:Int)),(16,tI v5),(24,.tv (k4 ((v1.getD (Int.toNat (gD v4 v5)) default).f4))),(25,tI (((v1.getD (Int.toNat (gD v4 v5)) default).f4).length:Int)),(26,tI v6)],[]⟩ ?_ z0 ?_
      ·kernel_rfl
      refine AWp.skip ?_
      refine AWp.start [0,1] [] [] [0,2,14,15,16,24,25,26] 0 ⟨[(0,q0 v1),(2,tS v3),(14,q3 v4),(15,tI (v4.length:Int)),(16,tI v5),(24,.tv (k4 ((v1.getD (Int.toNat (gD v4 v5)) default).f4))),(25,tI (((v1.getD (Int.toNat (gD v4 v5)) default).f4).length:Int)),(26,tI (w64 (v6 + (1:Int))))],[]⟩ rfl ?_ z0 trivial ?_
      ·kernel_rfl
      refine AOps.nil ?_
      cases h
      exact Or.inl ⟨_,rfl,rfl,rfl⟩
    ·replace h:=of_false h hb
     refine AWp.keepTo [0,2,14,15,16] 0 ⟨[(0,q0 v1),(2,tS v3),(14,q3 v4),(15,tI (v4.length:Int)),(16,tI v5)],[]⟩ ?_ z0 ?_
     ·kernel_rfl
     refine AWp.exit ?_
     cases h
     exact Or.inr ⟨_,rfl,by simp,rfl,rfl⟩
   ·intro e σ hp
    rcases y with v7 | _
    ·obtain ⟨rfl,rfl⟩:=hp
     cases h
     exact Or.inr ⟨_,rfl,by simp,rfl,rfl⟩
    ·obtain ⟨rfl,rfl⟩:=hp
     refine AWp.start [0,1] [] [] [0,2,14,15,16] 0 ⟨[(0,q0 v1),(2,tS v3),(14,q3 v4),(15,tI (v4.length:Int)),(16,tI (w64 (v5 + (1:Int))))],[]⟩ rfl ?_ z0 trivial ?_
     ·kernel_rfl
     refine AOps.nil ?_
     cases h
     exact Or.inl ⟨_,rfl,rfl,rfl⟩
  ·replace h:=of_false h hb
   refine AWp.keepTo [] 0 ⟨[],[]⟩ ?_ z0 ?_
   ·kernel_rfl
   refine AWp.exit ?_
   cases h
   exact Or.inr ⟨_,rfl,by simp,rfl,rfl⟩
 ·intro e σ hp
  rcases y with v8 | _
  ·obtain ⟨rfl,rfl⟩:=hp
   cases h
   exact ⟨.inr rfl,rfl⟩
  ·obtain ⟨rfl,rfl⟩:=hp
   refine AWp.seq ?_
   refine AWp.start [0,1] [] [] [6,7] 0 ⟨[(6,tS ([]:List UInt8)),(7,tB false)],[]⟩ rfl ?_ z0 trivial ?_
   ·kernel_rfl
   refine AOps.nil ?_
   refine AWp.ret ?_
   cases h
   exact ⟨.inr rfl,rfl⟩

noncomputable def f115_j1 (v4:Int):Option (Int ⊕ Out Bool Unit) :=
 some (.inl (w64 (v4 + (1:Int))))

noncomputable def f115_b2 (v1:List T80) (v2:Int) (v4:Int):Option (Int ⊕ Out Bool Unit) :=
 cond (decide (v4 < (((v1.getD v2.toNat default).f4).length:Int))) (if (0:Int) ≤ v4 ∧ v4 < (((v1.getD v2.toNat default).f4).length:Int) then (cond (!(((((v1.getD v2.toNat default).f4).getD v4.toNat default).f1) == ([]:List UInt8))) (some true) (some (((v1.getD v2.toNat default).f1) == ([]:List UInt8)))).bind fun v5=>cond v5 (f115_j1 v4 ) ((f29 v1 ((v1.getD v2.toNat default).f1)).bind fun v6=>(f26 v1 v6 ((((v1.getD v2.toNat default).f4).getD v4.toNat default).f0)).bind fun v7=>(cond v7.2 (some (!(v7.1 == ([]:List UInt8)))) (some false)).bind fun v8=>cond v8 (some (.inr (.ret true))) (f115_j1 v4 )) else none) (some (.inr (.go ())))

noncomputable def f115_b3 (v1:List T80) (v2:Int) (v10:(List Int)) (v11:Int) (v12:Int):Option (Int ⊕ Out Bool Unit) :=
 cond (decide (v12 < (((v1.getD (Int.toNat (v10.getD v11.toNat default)) default).f4).length:Int))) (if (0:Int) ≤ v12 ∧ v12 < (((v1.getD (Int.toNat (v10.getD v11.toNat default)) default).f4).length:Int) then (f26 v1 v2 ((((v1.getD (Int.toNat (v10.getD v11.toNat default)) default).f4).getD v12.toNat default).f0)).bind fun v13=>cond (v13.1 == ([]:List UInt8)) (some (.inr (.ret true))) (some (.inl (w64 (v12 + (1:Int))))) else none) (some (.inr (.go ())))

noncomputable def f115_b4 (v1:List T80) (v2:Int) (v10:(List Int)) (v11:Int):Option (Int ⊕ Out Bool Unit) :=
 cond (decide (v11 < (v10.length:Int))) (if (0:Int) ≤ v11 ∧ v11 < (v10.length:Int) then if (0:Int) ≤ v10.getD v11.toNat default ∧ v10.getD v11.toNat default < (v1.length:Int) then (iter (fun s=>f115_b3 v1 v2 v10 v11 s) (0:Int)).bind fun y=>match y with | .ret v14=>some (.inr (.ret v14)) | .go _=>some (.inl (w64 (v11 + (1:Int)))) else none else none) (some (.inr (.go ())))

noncomputable def f115 (v1:List T80) (v2:Int):Option Bool :=
 if (0:Int) ≤ v2 ∧ v2 < (v1.length:Int) then (f140_142 ((v1.getD v2.toNat default).f3) v1).bind fun v3=>cond v3 (some true) ((iter (fun s=>f115_b2 v1 v2 s) (0:Int)).bind fun y=>match y with | .ret v9=>some v9 | .go _=>cond ((v1.getD v2.toNat default).f2) (some false) ((f25 v1 v2).bind fun v10=>(iter (fun s=>f115_b4 v1 v2 v10 s) (0:Int)).bind fun y=>match y with | .ret v15=>some v15 | .go _=>some false)) else none

theorem f115_ok (v1:List T80) (v2:Int) {r:Bool} (h:f115 v1 v2 = some r):ACall Tryz.prog 115 [.tv (fzL 6 c80 v1),.tv (.int .i64 v2)] [] (.tv (.bool r)) []:=by
 refine ACall.of1 (FF 90 0) Tryz.func115 rfl Tryz.ntmps115 Tryz.results115 (zz rfl) rfl rfl ?_
 refine AWp.seq ?_
 refine AWp.start [0,1] [] [] [1,2] 1 ⟨[(1,tI v2),(2,.pc 0 0)],[.cells 40 [k1 v1]]⟩ rfl ?_ z0 trivial ?_
 ·kernel_rfl
 refine AOps.nil ?_
 refine AWp.seq ?_
 refine AWp.pin 0 rfl rfl ?_
 refine AWp.keepTo [1,2] 0 ⟨[(1,tI v2),(2,.rp [k1 v1])],[]⟩ ?_ z0 ?_
 ·kernel_rfl
 obtain ⟨hg,h⟩:=of_guard h
 refine AWp.start [0,1,2,3,4,5] [] [(0:Int) ≤ v2,v2 < (v1.length:Int)] [1,2,5] 1 ⟨[(1,tI v2),(2,.rp [k1 v1]),(5,.pc 0 0)],[.cells 81 (c80 (gD v1 v2))]⟩ rfl ?_ z0 ⟨hg.1,hg.2⟩ ?_
 ·kernel_rfl
 refine AOps.nil ?_
 refine AWp.seq ?_
 refine AWp.pin 0 rfl rfl ?_
 refine AWp.keepTo [1,2,5] 0 ⟨[(1,tI v2),(2,.rp [k1 v1]),(5,.rp (c80 (gD v1 v2)))],[]⟩ ?_ z0 ?_
 ·kernel_rfl
 refine AWp.start [0,1] [] [] [1,2,5,6] 0 ⟨[(1,tI v2),(2,.rp [k1 v1]),(5,.rp (c80 (gD v1 v2))),(6,.fn 142 [.rp [k1 v1]])],[]⟩ rfl ?_ z0 trivial ?_
 ·kernel_rfl
 refine AOps.nil ?_
 refine AWp.seq ?_
 refine AWp.seq ?_
 refine AWp.start [0,1,2] [3] [] [1,2,5,23,24] 0 ⟨[(1,tI v2),(2,.rp [k1 v1]),(5,.rp (c80 (gD v1 v2))),(23,q1 ((gD v1 v2).f3)),(24,.fn 142 [.rp [k1 v1]])],[]⟩ rfl ?_ z0 trivial ?_
 ·kernel_rfl
 obtain ⟨v3,hv3,h⟩:=of_bind h
 refine AOps.cons (AOne.callP (F:=(FF 90 0)) _ rfl rfl rfl _ rfl rfl _ _ rfl Tryz.call140 [q1 ((gD v1 v2).f3),.fn 142 [.rp [k1 v1]]] rfl rfl (f140_142_ok ((gD v1 v2).f3) v1 hv3) rfl) ?_
 refine AOps.keepTo [1,2,5,25] 0 ⟨[(1,tI v2),(2,.rp [k1 v1]),(5,.rp (c80 (gD v1 v2))),(25,tB v3)],[]⟩ ?_ z0 ?_
 ·kernel_rfl
 refine AOps.nil ?_
 refine AWp.cond rfl (fun hb=>?_) fun hb=>?_
 ·replace h:=of_true h hb
  refine AWp.keepTo [] 0 ⟨[],[]⟩ ?_ z0 ?_
  ·kernel_rfl
  refine AWp.seq ?_
  refine AWp.start [0] [] [] [4] 0 ⟨[(4,tB true)],[]⟩ rfl ?_ z0 trivial ?_
  ·kernel_rfl
  refine AOps.nil ?_
  refine AWp.ret ?_
  cases h
  exact ⟨.inr rfl,rfl⟩
 ·replace h:=of_false h hb
  refine AWp.keepTo [1,2,5] 0 ⟨[(1,tI v2),(2,.rp [k1 v1]),(5,.rp (c80 (gD v1 v2)))],[]⟩ ?_ z0 ?_
  ·kernel_rfl
  refine AWp.skip ?_
  refine AWp.seq ?_
  refine AWp.seq ?_
  refine AWp.start [0,1,2,3] [] [] [1,2,5,27,28,29] 0 ⟨[(1,tI v2),(2,.rp [k1 v1]),(5,.rp (c80 (gD v1 v2))),(27,.tv (k4 ((gD v1 v2).f4))),(28,tI (((gD v1 v2).f4).length:Int)),(29,tI (0:Int))],[]⟩ rfl ?_ z0 trivial ?_
  ·kernel_rfl
  refine AOps.nil ?_
  refine AWp.block ?_
  obtain ⟨y,hy,h⟩:=of_bind h
  refine AWp.mono (AWp.loop (S:=Int) (Y:=Out Bool Unit) (fun s=>⟨[(1,tI v2),(2,.rp [k1 v1]),(5,.rp (c80 (gD v1 v2))),(27,.tv (k4 ((gD v1 v2).f4))),(28,tI (((gD v1 v2).f4).length:Int)),(29,tI s)],[]⟩) (fun s=>f115_b2 v1 v2 s) (fun y e σ=>match y with | .ret r=>e = .ret ∧ σ = ⟨[(4,tB r)],[]⟩ | .go v=>e = .exit 0 ∧ σ = ⟨[(1,tI v2),(2,.rp [k1 v1]),(5,.rp (c80 (gD v1 v2)))],[]⟩) ?_ hy) ?_
  ·rintro v4 o h
   refine AWp.seq ?_
   refine AWp.start [0] [] [] [1,2,5,27,28,29,30] 0 ⟨[(1,tI v2),(2,.rp [k1 v1]),(5,.rp (c80 (gD v1 v2))),(27,.tv (k4 ((gD v1 v2).f4))),(28,tI (((gD v1 v2).f4).length:Int)),(29,tI v4),(30,tB (decide (v4 < (((gD v1 v2).f4).length:Int))))],[]⟩ rfl ?_ z0 trivial ?_
   ·kernel_rfl
   refine AOps.nil ?_
   refine AWp.seq ?_
   refine AWp.cond rfl (fun hb=>?_) fun hb=>?_
   ·replace h:=of_true h hb
    refine AWp.keepTo [1,2,5,27,28,29] 0 ⟨[(1,tI v2),(2,.rp [k1 v1]),(5,.rp (c80 (gD v1 v2))),(27,.tv (k4 ((gD v1 v2).f4))),(28,tI (((gD v1 v2).f4).length:Int)),(29,tI v4)],[]⟩ ?_ z0 ?_
    ·kernel_rfl
    refine AWp.skip ?_
    refine AWp.join (V:=Unit) (fun w=>⟨[(1,tI v2),(2,.rp [k1 v1]),(5,.rp (c80 (gD v1 v2))),(27,.tv (k4 ((gD v1 v2).f4))),(28,tI (((gD v1 v2).f4).length:Int)),(29,tI v4)],[]⟩) (fun w=>f115_j1 v4 = some o) ?_ ?_
    ·refine AWp.block ?_
     refine AWp.seq ?_
     obtain ⟨hg,h⟩:=of_guard h
     refine AWp.start [0,1,2,3] [] [(0:Int) ≤ v4,v4 < (((gD v1 v2).f4).length:Int)] [1,2,5,8,27,28,29] 1 ⟨[(1,tI v2),(2,.rp [k1 v1]),(5,.rp (c80 (gD v1 v2))),(8,.pc 0 0),(27,.tv (k4 ((gD v1 v2).f4))),(28,tI (((gD v1 v2).f4).length:Int)),(29,tI v4)],[.cells 108 (c107 (gD ((gD v1 v2).f4) v4))]⟩ rfl ?_ z0 ⟨hg.1,hg.2⟩ ?_
     ·kernel_rfl
     refine AOps.nil ?_
     refine AWp.seq ?_
     refine AWp.seq ?_
     refine AWp.pin 0 rfl rfl ?_
     refine AWp.keepTo [1,2,5,8,27,28,29] 0 ⟨[(1,tI v2),(2,.rp [k1 v1]),(5,.rp (c80 (gD v1 v2))),(8,.rp (c107 (gD ((gD v1 v2).f4) v4))),(27,.tv (k4 ((gD v1 v2).f4))),(28,tI (((gD v1 v2).f4).length:Int)),(29,tI v4)],[]⟩ ?_ z0 ?_
     ·kernel_rfl
     refine AWp.start [0,1,2,3] [4,5,6,7] [] [1,2,5,8,27,28,29,36] 0 ⟨[(1,tI v2),(2,.rp [k1 v1]),(5,.rp (c80 (gD v1 v2))),(8,.rp (c107 (gD ((gD v1 v2).f4) v4))),(27,.tv (k4 ((gD v1 v2).f4))),(28,tI (((gD v1 v2).f4).length:Int)),(29,tI v4),(36,tB (!(((gD ((gD v1 v2).f4) v4).f1) == ([]:List UInt8))))],[]⟩ rfl ?_ z0 trivial ?_
     ·kernel_rfl
     obtain ⟨v5,hc4,h⟩:=of_bind h
     refine AOps.cut [4,5,6,7] [] (fun σ=>σ = ⟨[(1,tI v2),(2,.rp [k1 v1]),(5,.rp (c80 (gD v1 v2))),(8,.rp (c107 (gD ((gD v1 v2).f4) v4))),(27,.tv (k4 ((gD v1 v2).f4))),(28,tI (((gD v1 v2).f4).length:Int)),(29,tI v4),(40,tB v5)],[]⟩) ?_ fun σ' hJ=>?_
     ·refine AOps.split (fun b=>⟨[(1,tI v2),(2,.rp [k1 v1]),(5,.rp (c80 (gD v1 v2))),(8,.rp (c107 (gD ((gD v1 v2).f4) v4))),(27,.tv (k4 ((gD v1 v2).f4))),(28,tI (((gD v1 v2).f4).length:Int)),(29,tI v4),(36,tB b)],[]⟩) _ (fun hb=>?_) fun hb=>?_
      ·replace hc4:=of_true hc4 hb
       refine AOps.go [4,5,6,7] [] [] [1,2,5,8,27,28,29,40] 0 ⟨[(1,tI v2),(2,.rp [k1 v1]),(5,.rp (c80 (gD v1 v2))),(8,.rp (c107 (gD ((gD v1 v2).f4) v4))),(27,.tv (k4 ((gD v1 v2).f4))),(28,tI (((gD v1 v2).f4).length:Int)),(29,tI v4),(40,tB true)],[]⟩ ?_ z0 trivial ?_
       ·kernel_rfl
       cases hc4
       exact AOps.nil rfl
      ·replace hc4:=of_false hc4 hb
       refine AOps.go [4,5,6,7] [] [] [1,2,5,8,27,28,29,40] 0 ⟨[(1,tI v2),(2,.rp [k1 v1]),(5,.rp (c80 (gD v1 v2))),(8,.rp (c107 (gD ((gD v1 v2).f4) v4))),(27,.tv (k4 ((gD v1 v2).f4))),(28,tI (((gD v1 v2).f4).length:Int)),(29,tI v4),(40,tB (((gD v1 v2).f1) == ([]:List UInt8)))],[]⟩ ?_ z0 trivial ?_
       ·kernel_rfl
       cases hc4
       exact AOps.nil rfl
     subst hJ
     refine AOps.nil ?_
     refine AWp.cond rfl (fun hb=>?_) fun hb=>?_
     ·replace h:=of_true h hb
      refine AWp.keepTo [1,2,5,27,28,29] 0 ⟨[(1,tI v2),(2,.rp [k1 v1]),(5,.rp (c80 (gD v1 v2))),(27,.tv (k4 ((gD v1 v2).f4))),(28,tI (((gD v1 v2).f4).length:Int)),(29,tI v4)],[]⟩ ?_ z0 ?_
      ·kernel_rfl
      refine AWp.exit ?_
      exact ⟨(),h,rfl⟩
     ·replace h:=of_false h hb
      refine AWp.keepTo [1,2,5,8,27,28,29] 0 ⟨[(1,tI v2),(2,.rp [k1 v1]),(5,.rp (c80 (gD v1 v2))),(8,.rp (c107 (gD ((gD v1 v2).f4) v4))),(27,.tv (k4 ((gD v1 v2).f4))),(28,tI (((gD v1 v2).f4).length:Int)),(29,tI v4)],[]⟩ ?_ z0 ?_
      ·kernel_rfl
      refine AWp.skip ?_
      refine AWp.seq ?_
      refine AWp.draw FFm _ (n:=13) rfl (ls:=#[n1,n1,n1,n1,n1,n1,n1,n1,n1,n1,n1,n1,n1]) rfl ?_ (fun _ h=>h)
      refine AAny.go (by kernel_rfl) [0,1,2,3,5,6] (fuel':=7) rfl [] #[y1,y1,y1,y1,n1,y1,y1,n1,n1,n1,n1,n1,n1] [1,2,5,27,28,29,42,43,45,48] 0 ⟨[(1,tI v2),(2,.rp [k1 v1]),(5,.rp (c80 (gD v1 v2))),(27,.tv (k4 ((gD v1 v2).f4))),(28,tI (((gD v1 v2).f4).length:Int)),(29,tI v4),(42,q0 v1),(43,q0 v1),(45,tS ((gD v1 v2).f1)),(48,tS ((gD ((gD v1 v2).f4) v4).f0))],[]⟩ ?_ z0 trivial ?_
      ·kernel_rfl
      obtain ⟨v6,hv6,h⟩:=of_bind h
      refine AAny.serial (i:=4) (fuel:=6) (by kernel_rfl) (AOne.callP (F:=(FF 90 0)) _ rfl rfl rfl _ rfl rfl _ _ rfl Tryz.call29 [q0 v1,tS ((gD v1 v2).f1)] rfl rfl (f29_ok v1 ((gD v1 v2).f1) hv6) rfl) ?_
      refine AAny.keepTo [1,2,5,27,28,29,42,46,48] 0 ⟨[(1,tI v2),(2,.rp [k1 v1]),(5,.rp (c80 (gD v1 v2))),(27,.tv (k4 ((gD v1 v2).f4))),(28,tI (((gD v1 v2).f4).length:Int)),(29,tI v4),(42,q0 v1),(46,tI v6),(48,tS ((gD ((gD v1 v2).f4) v4).f0))],[]⟩ #[y1,y1,y1,y1,y1,y1,y1,n1,n1,n1,n1,n1,n1] ?_ rfl z0 ?_
      ·kernel_rfl
      obtain ⟨v7,hv7,h⟩:=of_bind h
      refine AAny.serial (i:=7) (fuel:=5) (by kernel_rfl) (AOne.callP (F:=(FF 90 0)) _ rfl rfl rfl _ rfl rfl _ _ rfl Tryz.call26 [q0 v1,tI v6,tS ((gD ((gD v1 v2).f4) v4).f0)] rfl rfl (f26_ok v1 v6 ((gD ((gD v1 v2).f4) v4).f0) hv7) rfl) ?_
      refine AAny.keepTo [1,2,5,27,28,29,49] 0 ⟨[(1,tI v2),(2,.rp [k1 v1]),(5,.rp (c80 (gD v1 v2))),(27,.tv (k4 ((gD v1 v2).f4))),(28,tI (((gD v1 v2).f4).length:Int)),(29,tI v4),(49,.tup [tS v7.1,tB v7.2])],[]⟩ #[y1,y1,y1,y1,y1,y1,y1,y1,n1,n1,n1,n1,n1] ?_ rfl z0 ?_
      ·kernel_rfl
      refine AAny.go (by kernel_rfl) [8,9,10,11,12] (fuel':=0) rfl [] #[y1,y1,y1,y1,y1,y1,y1,y1,y1,y1,y1,y1,y1] [1,2,5,9,10,27,28,29] 0 ⟨[(1,tI v2),(2,.rp [k1 v1]),(5,.rp (c80 (gD v1 v2))),(9,tS v7.1),(10,tB v7.2),(27,.tv (k4 ((gD v1 v2).f4))),(28,tI (((gD v1 v2).f4).length:Int)),(29,tI v4)],[]⟩ ?_ z0 trivial ?_
      ·kernel_rfl
      refine AAny.keepTo [1,2,5,9,10,27,28,29] 0 ⟨[(1,tI v2),(2,.rp [k1 v1]),(5,.rp (c80 (gD v1 v2))),(9,tS v7.1),(10,tB v7.2),(27,.tv (k4 ((gD v1 v2).f4))),(28,tI (((gD v1 v2).f4).length:Int)),(29,tI v4)],[]⟩ _ ?_ rfl z0 (AAny.done (by kernel_rfl) ?_)
      ·kernel_rfl
      refine AWp.seq ?_
      refine AWp.start [0,1] [2,3,4] [] [1,2,5,9,27,28,29,53] 0 ⟨[(1,tI v2),(2,.rp [k1 v1]),(5,.rp (c80 (gD v1 v2))),(9,tS v7.1),(27,.tv (k4 ((gD v1 v2).f4))),(28,tI (((gD v1 v2).f4).length:Int)),(29,tI v4),(53,tB v7.2)],[]⟩ rfl ?_ z0 trivial ?_
      ·kernel_rfl
      obtain ⟨v8,hc2,h⟩:=of_bind h
      refine AOps.cut [2,3,4] [] (fun σ=>σ = ⟨[(1,tI v2),(2,.rp [k1 v1]),(5,.rp (c80 (gD v1 v2))),(27,.tv (k4 ((gD v1 v2).f4))),(28,tI (((gD v1 v2).f4).length:Int)),(29,tI v4),(56,tB v8)],[]⟩) ?_ fun σ' hJ=>?_
      ·refine AOps.split (fun b=>⟨[(1,tI v2),(2,.rp [k1 v1]),(5,.rp (c80 (gD v1 v2))),(9,tS v7.1),(27,.tv (k4 ((gD v1 v2).f4))),(28,tI (((gD v1 v2).f4).length:Int)),(29,tI v4),(53,tB b)],[]⟩) _ (fun hb=>?_) fun hb=>?_
       ·replace hc2:=of_true hc2 hb
        refine AOps.go [2,3,4] [] [] [1,2,5,27,28,29,56] 0 ⟨[(1,tI v2),(2,.rp [k1 v1]),(5,.rp (c80 (gD v1 v2))),(27,.tv (k4 ((gD v1 v2).f4))),(28,tI (((gD v1 v2).f4).length:Int)),(29,tI v4),(56,tB (!(v7.1 == ([]:List UInt8))))],[]⟩ ?_ z0 trivial ?_
        ·kernel_rfl
        cases hc2
        exact AOps.nil rfl
       ·replace hc2:=of_false hc2 hb
        refine AOps.go [2,3,4] [] [] [1,2,5,27,28,29,56] 0 ⟨[(1,tI v2),(2,.rp [k1 v1]),(5,.rp (c80 (gD v1 v2))),(27,.tv (k4 ((gD v1 v2).f4))),(28,tI (((gD v1 v2).f4).length:Int)),(29,tI v4),(56,tB false)],[]⟩ ?_ z0 trivial ?_
        ·kernel_rfl
        cases hc2
        exact AOps.nil rfl
      subst hJ
      refine AOps.nil ?_
      refine AWp.cond rfl (fun hb=>?_) fun hb=>?_
      ·replace h:=of_true h hb
       refine AWp.keepTo [] 0 ⟨[],[]⟩ ?_ z0 ?_
       ·kernel_rfl
       refine AWp.seq ?_
       refine AWp.start [0] [] [] [4] 0 ⟨[(4,tB true)],[]⟩ rfl ?_ z0 trivial ?_
       ·kernel_rfl
       refine AOps.nil ?_
       refine AWp.ret ?_
       cases h
       exact Or.inr ⟨_,rfl,by simp,rfl,rfl⟩
      ·replace h:=of_false h hb
       refine AWp.keepTo [1,2,5,27,28,29] 0 ⟨[(1,tI v2),(2,.rp [k1 v1]),(5,.rp (c80 (gD v1 v2))),(27,.tv (k4 ((gD v1 v2).f4))),(28,tI (((gD v1 v2).f4).length:Int)),(29,tI v4)],[]⟩ ?_ z0 ?_
       ·kernel_rfl
       refine AWp.skip ?_
       exact ⟨(),h,rfl⟩
    ·rintro ⟨⟩ h
     refine AWp.start [0,1] [] [] [1,2,5,27,28,29] 0 ⟨[(1,tI v2),(2,.rp [k1 v1]),(5,.rp (c80 (gD v1 v2))),(27,.tv (k4 ((gD v1 v2).f4))),(28,tI (((gD v1 v2).f4).length:Int)),(29,tI (w64 (v4 + (1:Int))))],[]⟩ rfl ?_ z0 trivial ?_
     ·kernel_rfl
     refine AOps.nil ?_
     cases h
     exact Or.inl ⟨_,rfl,rfl,rfl⟩
   ·replace h:=of_false h hb
    refine AWp.keepTo [1,2,5] 0 ⟨[(1,tI v2),(2,.rp [k1 v1]),(5,.rp (c80 (gD v1 v2)))],[]⟩ ?_ z0 ?_
    ·kernel_rfl
    refine AWp.exit ?_
    cases h
    exact Or.inr ⟨_,rfl,by simp,rfl,rfl⟩
  ·intro e σ hp
   rcases y with v9 | _
   ·obtain ⟨rfl,rfl⟩:=hp
    cases h
    exact ⟨.inr rfl,rfl⟩
   ·obtain ⟨rfl,rfl⟩:=hp
    refine AWp.seq ?_
    refine AWp.seq ?_
    refine AWp.start [0,1] [] [] [1,2,59] 0 ⟨[(1,tI v2),(2,.rp [k1 v1]),(59,tB ((gD v1 v2).f2))],[]⟩ rfl ?_ z0 trivial ?_
    ·kernel_rfl
    refine AOps.nil ?_
    refine AWp.cond rfl (fun hb=>?_) fun hb=>?_
    ·replace h:=of_true h hb
     refine AWp.keepTo [] 0 ⟨[],[]⟩ ?_ z0 ?_
     ·kernel_rfl
     refine AWp.seq ?_
     refine AWp.start [0] [] [] [4] 0 ⟨[(4,tB false)],[]⟩ rfl ?_ z0 trivial ?_
     ·kernel_rfl
     refine AOps.nil ?_
     refine AWp.ret ?_
     cases h
     exact ⟨.inr rfl,rfl⟩
    ·replace h:=of_false h hb
     refine AWp.keepTo [1,2] 0 ⟨[(1,tI v2),(2,.rp [k1 v1])],[]⟩ ?_ z0 ?_
     ·kernel_rfl
     refine AWp.skip ?_
     refine AWp.seq ?_
     refine AWp.seq ?_
     refine AWp.start [0,1] [2,3,4] [] [1,2,60,61] 0 ⟨[(1,tI v2),(2,.rp [k1 v1]),(60,q0 v1),(61,tI v2)],[]⟩ rfl ?_ z0 trivial ?_
     ·kernel_rfl
     obtain ⟨v10,hv10,h⟩:=of_bind h
     refine AOps.cons (AOne.callP (F:=(FF 90 0)) _ rfl rfl rfl _ rfl rfl _ _ rfl Tryz.call25 [q0 v1,tI v2] rfl rfl (f25_ok v1 v2 hv10) rfl) ?_
     refine AOps.freezeL 62 (cInt .i64) v10 rfl (fun _=>rfl) ?_
     refine AOps.go [3,4] [] [] [1,2,62,63,64] 0 ⟨[(1,tI v2),(2,.rp [k1 v1]),(62,q3 v10),(63,tI (v10.length:Int)),(64,tI (0:Int))],[]⟩ ?_ z0 trivial ?_
     ·kernel_rfl
     refine AOps.nil ?_
     refine AWp.block ?_
     obtain ⟨y,hy,h⟩:=of_bind h
     refine AWp.mono (AWp.loop (S:=Int) (Y:=Out Bool Unit) (fun s=>⟨[(1,tI v2),(2,.rp [k1 v1]),(62,q3 v10),(63,tI (v10.length:Int)),(64,tI s)],[]⟩) (fun s=>f115_b4 v1 v2 v10 s) (fun y e σ=>match y with | .ret r=>e = .ret ∧ σ = ⟨[(4,tB r)],[]⟩ | .go v=>e = .exit 2 ∧ σ = ⟨[],[]⟩) ?_ hy) ?_
     ·rintro v11 o h
      refine AWp.seq ?_
      refine AWp.start [0] [] [] [1,2,62,63,64,65] 0 ⟨[(1,tI v2),(2,.rp [k1 v1]),(62,q3 v10),(63,tI (v10.length:Int)),(64,tI v11),(65,tB (decide (v11 < (v10.length:Int))))],[]⟩ rfl ?_ z0 trivial ?_
      ·kernel_rfl
      refine AOps.nil ?_
      refine AWp.seq ?_
      refine AWp.cond rfl (fun hb=>?_) fun hb=>?_
      ·replace h:=of_true h hb
       refine AWp.keepTo [1,2,62,63,64] 0 ⟨[(1,tI v2),(2,.rp [k1 v1]),(62,q3 v10),(63,tI (v10.length:Int)),(64,tI v11)],[]⟩ ?_ z0 ?_
       ·kernel_rfl
       refine AWp.skip ?_
       refine AWp.seq ?_
       refine AWp.block ?_
       refine AWp.seq ?_
       obtain ⟨hg,h⟩:=of_guard h
       refine AWp.start [0,1,2] [] [(0:Int) ≤ v11,v11 < (v10.length:Int)] [1,2,12,62,63,64] 0 ⟨[(1,tI v2),(2,.rp [k1 v1]),(12,tI (gD v10 v11)),(62,q3 v10),(63,tI (v10.length:Int)),(64,tI v11)],[]⟩ rfl ?_ z0 ⟨hg.1,hg.2⟩ ?_
       ·kernel_rfl
       refine AOps.nil ?_
       refine AWp.seq ?_
       obtain ⟨hg,h⟩:=of_guard h
       refine AWp.start [0,1,2,3,4,5,6] [] [(0:Int) ≤ gD v10 v11,gD v10 v11 < (v1.length:Int)] [1,2,62,63,64,72,73,74] 0 ⟨[(1,tI v2),(2,.rp [k1 v1]),(62,q3 v10),(63,tI (v10.length:Int)),(64,tI v11),(72,.tv (k4 ((v1.getD (Int.toNat (gD v10 v11)) default).f4))),(73,tI (((v1.getD (Int.toNat (gD v10 v11)) default).f4).length:Int)),(74,tI (0:Int))],[]⟩ rfl ?_ z0 ⟨hg.1,hg.2⟩ ?_
       ·kernel_rfl
       refine AOps.nil ?_
       refine AWp.block ?_
       obtain ⟨y,hy,h⟩:=of_bind h
       refine AWp.mono (AWp.loop (S:=Int) (Y:=Out Bool Unit) (fun s=>⟨[(1,tI v2),(2,.rp [k1 v1]),(62,q3 v10),(63,tI (v10.length:Int)),(64,tI v11),(72,.tv (k4 ((v1.getD (Int.toNat (gD v10 v11)) default).f4))),(73,tI (((v1.getD (Int.toNat (gD v10 v11)) default).f4).length:Int)),(74,tI s)],[]⟩) (fun s=>f115_b3 v1 v2 v10 v11 s) (fun y e σ=>match y with | .ret r=>e = .ret ∧ σ = ⟨[(4,tB r)],[]⟩ | .go v=>e = .exit 4 ∧ σ = ⟨[(1,tI v2),(2,.rp [k1 v1]),(62,q3 v10),(63,tI (v10.length:Int)),(64,tI v11)],[]⟩) ?_ hy) ?_
       ·rintro v12 o h
        refine AWp.seq ?_
        refine AWp.start [0] [] [] [1,2,62,63,64,72,73,74,75] 0 ⟨[(1,tI v2),(2,.rp [k1 v1]),(62,q3 v10),(63,tI (v10.length:Int)),(64,tI v11),(72,.tv (k4 ((v1.getD (Int.toNat (gD v10 v11)) default).f4))),(73,tI (((v1.getD (Int.toNat (gD v10 v11)) default).f4).length:Int)),(74,tI v12),(75,tB (decide (v12 < (((v1.getD (Int.toNat (gD v10 v11)) default).f4).length:Int))))],[]⟩ rfl ?_ z0 trivial ?_
        ·kernel_rfl
        refine AOps.nil ?_
        refine AWp.seq ?_
        refine AWp.cond rfl (fun hb=>?_) fun hb=>?_
        ·replace h:=of_true h hb
         refine AWp.keepTo [1,2,62,63,64,72,73,74] 0 ⟨[(1,tI v2),(2,.rp [k1 v1]),(62,q3 v10),(63,tI (v10.length:Int)),(64,tI v11),(72,.tv (k4 ((v1.getD (Int.toNat (gD v10 v11)) default).f4))),(73,tI (((v1.getD (Int.toNat (gD v10 v11)) default).f4).length:Int)),(74,tI v12)],[]⟩ ?_ z0 ?_
         ·kernel_rfl
         refine AWp.skip ?_
         refine AWp.seq ?_
         refine AWp.block ?_
         refine AWp.seq ?_
         obtain ⟨hg,h⟩:=of_guard h
         refine AWp.start [0,1,2,3] [] [(0:Int) ≤ v12,v12 < (((v1.getD (Int.toNat (gD v10 v11)) default).f4).length:Int)] [1,2,14,62,63,64,72,73,74] 1 ⟨[(1,tI v2),(2,.rp [k1 v1]),(14,.pc 0 0),(62,q3 v10),(63,tI (v10.length:Int)),(64,tI v11),(72,.tv (k4 ((v1.getD (Int.toNat (gD v10 v11)) default).f4))),(73,tI (((v1.getD (Int.toNat (gD v10 v11)) default).f4).length:Int)),(74,tI v12)],[.cells 108 (c107 (gD ((v1.getD (Int.toNat (gD v10 v11)) default).f4) v12))]⟩ rfl ?_ z0 ⟨hg.1,hg.2⟩ ?_
         ·kernel_rfl
         refine AOps.nil ?_
         refine AWp.seq ?_
         refine AWp.pin 0 rfl rfl ?_
         refine AWp.keepTo [1,2,14,62,63,64,72,73,74] 0 ⟨[(1,tI v2),(2,.rp [k1 v1]),(14,.rp (c107 (gD ((v1.getD (Int.toNat (gD v10 v11)) default).f4) v12))),(62,q3 v10),(63,tI (v10.length:Int)),(64,tI v11),(72,.tv (k4 ((v1.getD (Int.toNat (gD v10 v11)) default).f4))),(73,tI (((v1.getD (Int.toNat (gD v10 v11)) default).f4).length:Int)),(74,tI v12)],[]⟩ ?_ z0 ?_
         ·kernel_rfl
         refine AWp.start [0,1,2,3] [4,5,6,7,8,9] [] [1,2,62,63,64,72,73,74,79,80,82] 0 ⟨[(1,tI v2),(2,.rp [k1 v1]),(62,q3 v10),(63,tI (v10.length:Int)),(64,tI v11),(72,.tv (k4 ((v1.getD (Int.toNat (gD v10 v11)) default).f4))),(73,tI (((v1.getD (Int.toNat (gD v10 v11)) default).f4).length:Int)),(74,tI v12),(79,q0 v1),(80,tI v2),(82,tS ((gD ((v1.getD (Int.toNat (gD v10 v11)) default).f4) v12).f0))],[]⟩ rfl ?_ z0 trivial ?_
         ·kernel_rfl
         obtain ⟨v13,hv13,h⟩:=of_bind h
         refine AOps.cons (AOne.callP (F:=(FF 90 0)) _ rfl rfl rfl _ rfl rfl _ _ rfl Tryz.call26 [q0 v1,tI v2,tS ((gD ((v1.getD (Int.toNat (gD v10 v11)) default).f4) v12).f0)] rfl rfl (f26_ok v1 v2 ((gD ((v1.getD (Int.toNat (gD v10 v11)) default).f4) v12).f0) hv13) rfl) ?_
         refine AOps.go [5,6,7,8,9] [] [] [1,2,15,62,63,64,72,73,74] 0 ⟨[(1,tI v2),(2,.rp [k1 v1]),(15,tS v13.1),(62,q3 v10),(63,tI (v10.length:Int)),(64,tI v11),(72,.tv (k4 ((v1.getD (Int.toNat (gD v10 v11)) default).f4))),(73,tI (((v1.getD (Int.toNat (gD v10 v11)) default).f4).length:Int)),(74,tI v12)],[]⟩ ?_ z0 trivial ?_
         ·kernel_rfl
         refine AOps.nil ?_
         refine AWp.seq ?_
         refine AWp.start [0,1] [] [] [1,2,62,63,64,72,73,74,87] 0 ⟨[(1,tI v2),(2,.rp [k1 v1]),(62,q3 v10),(63,tI (v10.length:Int)),(64,tI v11),(72,.tv (k4 ((v1.getD (Int.toNat (gD v10 v11)) default).f4))),(73,tI (((v1.getD (Int.toNat (gD v10 v11)) default).f4).length:Int)),(74,tI v12),(87,tB (v13.1 == ([]:List UInt8)))],[]⟩ rfl ?_ z0 trivial ?_
         ·kernel_rfl
         refine AOps.nil ?_
         refine AWp.cond rfl (fun hb=>?_) fun hb=>?_
         ·replace h:=of_true h hb
          refine AWp.keepTo [] 0 ⟨[],[]⟩ ?_ z0 ?_
          ·kernel_rfl
          refine AWp.seq ?_
          refine AWp.start [0] [] [] [4] 0 ⟨[(4,tB true)],[]⟩ rfl ?_ z0 trivial ?_
          ·kernel_rfl
          refine AOps.nil ?_
          refine AWp.ret ?_
          cases h
          exact Or.inr ⟨_,rfl,by simp,rfl,rfl⟩
         ·replace h:=of_false h hb
          refine AWp.keepTo [1,2,62,63,64,72,73,74] 0 ⟨[(1,tI v2),(2,.rp [k1 v1]),(62,q3 v10),(63,tI (v10.length:Int)),(64,tI v11),(72,.tv (k4 ((v1.getD (Int.toNat (gD v10 v11)) default).f4))),(73,tI (((v1.getD (Int.toNat (gD v10 v11)) default).f4).length:Int)),(74,tI v12)],[]⟩ ?_ z0 ?_
          ·kernel_rfl
          refine AWp.skip ?_
          refine AWp.start [0,1] [] [] [1,2,62,63,64,72,73,74] 0 ⟨[(1,tI v2),(2,.rp [k1 v1]),(62,q3 v10),(63,tI (v10.length:Int)),(64,tI v11),(72,.tv (k4 ((v1.getD (Int.toNat (gD v10 v11)) default).f4))),(73,tI (((v1.getD (Int.toNat (gD v10 v11)) default).f4).length:Int)),(74,tI (w64 (v12 + (1:Int))))],[]⟩ rfl ?_ z0 trivial ?_
          ·kernel_rfl
          refine AOps.nil ?_
          cases h
          exact Or.inl ⟨_,rfl,rfl,rfl⟩
        ·replace h:=of_false h hb
         refine AWp.keepTo [1,2,62,63,64] 0 ⟨[(1,tI v2),(2,.rp [k1 v1]),(62,q3 v10),(63,tI (v10.length:Int)),(64,tI v11)],[]⟩ ?_ z0 ?_
         ·kernel_rfl
         refine AWp.exit ?_
         cases h
         exact Or.inr ⟨_,rfl,by simp,rfl,rfl⟩
       ·intro e σ hp
        rcases y with v14 | _
        ·obtain ⟨rfl,rfl⟩:=hp
         cases h
         exact Or.inr ⟨_,rfl,by simp,rfl,rfl⟩
        ·obtain ⟨rfl,rfl⟩:=hp
         refine AWp.start [0,1] [] [] [1,2,62,63,64] 0 ⟨[(1,tI v2),(2,.rp [k1 v1]),(62,q3 v10),(63,tI (v10.length:Int)),(64,tI (w64 (v11 + (1:Int))))],[]⟩ rfl ?_ z0 trivial ?_
         ·kernel_rfl
         refine AOps.nil ?_
         cases h
         exact Or.inl ⟨_,rfl,rfl,rfl⟩
      ·replace h:=of_false h hb
       refine AWp.keepTo [] 0 ⟨[],[]⟩ ?_ z0 ?_
       ·kernel_rfl
       refine AWp.exit ?_
       cases h
       exact Or.inr ⟨_,rfl,by simp,rfl,rfl⟩
     ·intro e σ hp
      rcases y with v15 | _
      ·obtain ⟨rfl,rfl⟩:=hp
       cases h
       exact ⟨.inr rfl,rfl⟩
      ·obtain ⟨rfl,rfl⟩:=hp
       refine AWp.seq ?_
       refine AWp.start [0] [] [] [4] 0 ⟨[(4,tB false)],[]⟩ rfl ?_ z0 trivial ?_
       ·kernel_rfl
       refine AOps.nil ?_
       refine AWp.ret ?_
       cases h
       exact ⟨.inr rfl,rfl⟩

noncomputable def f57 (v1:T86):Option Int :=
 some (if (1:Int) > v1.f2 then (1:Int) else v1.f2)

theorem f57_ok (v1:T86) {r:Int} (h:f57 v1 = some r):ACall Tryz.prog 57 [.agg [.str v1.f0,.str v1.f1,.int .i64 v1.f2]] [] (.tv (.int .i64 r)) []:=by
 refine ACall.of1 (FF 6 0) Tryz.func57 rfl Tryz.ntmps57 Tryz.results57 (zz rfl) rfl rfl ?_
 refine AWp.seq ?_
 refine AWp.start [0,1] [] [] [1] 1 ⟨[(1,.pc 0 0)],[.cells 87 (c86 v1)]⟩ rfl ?_ z0 trivial ?_
 ·kernel_rfl
 refine AOps.nil ?_
 refine AWp.seq ?_
 refine AWp.pin 0 rfl rfl ?_
 refine AWp.keepTo [1] 0 ⟨[(1,.rp (c86 v1))],[]⟩ ?_ z0 ?_
 ·kernel_rfl
 refine AWp.start [0,1,2,3] [] [] [2] 0 ⟨[(2,tI (if (1:Int) > v1.f2 then (1:Int) else v1.f2))],[]⟩ rfl ?_ z0 trivial ?_
 ·kernel_rfl
 refine AOps.nil ?_
 refine AWp.ret ?_
 cases h
 exact ⟨.inr rfl,rfl⟩

end Go.Sx.top
