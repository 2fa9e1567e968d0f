/- Printed by program (wip/gen): plain functions and their walks; no condition. -/
import Derived.Test.YtlfaghcnnlifmaaGreatGx5
namespace Go.Sx.top
open Go Go.Sx Go.Proofs

noncomputable def f14 (v1:List T80) (v2:List UInt8) (v3:List UInt8) (v4:List UInt8):Option ((List UInt8) × Int) :=
 (f24 v1 v2).bind fun v5=>cond (v5.2 != (0:Int)) (some (([]:List UInt8),v5.2)) ((f29 v1 v3).bind fun v6=>cond (decide (v6 < (0:Int))) (some (([]:List UInt8),(5:Int))) ((f26 v1 v5.1 v4).bind fun v7=>cond (!v7.2) (some (([]:List UInt8),(5:Int))) (if (0:Int) ≤ v6 ∧ v6 < (v1.length:Int) then (cond ((v1.getD v6.toNat default).f2) (some true) ((f25 v1 v6).bind fun v9=>(f30 v9 v5.1).bind fun v10=>some (!v10))).bind fun v8=>cond v8 (some (([]:List UInt8),(70:Int))) ((f26 v1 v6 v4).bind fun v11=>some (v11.1,(0:Int))) else none)))

theorem f14_ok (v1:List T80) (v2:List UInt8) (v3:List UInt8) (v4:List UInt8) {r:(List UInt8) × Int} (h:f14 v1 v2 v3 v4 = some r):ACall Tryz.prog 14 [.tv (fzL 6 c80 v1),.tv (.str v2),.tv (.str v3),.tv (.str v4)] [] (.tup [.tv (.str r.1),.tv (.int .i64 r.2)]) []:=by
 refine ACall.ofN (FF 61 0) (rs:=[8,9]) (env:=[(8,tS r.1),(9,tI r.2)]) Tryz.func14 rfl Tryz.ntmps14 Tryz.results14 (by decide) (by decide) rfl (zz rfl) rfl (get_ofN _ _ _ rfl) (ok_ofN _ rfl) ?_
 refine AWp.seq ?_
 refine AWp.start [0,1] [] [] [0,1,2,3] 0 ⟨[(0,q0 v1),(1,tS v2),(2,tS v3),(3,tS v4)],[]⟩ rfl ?_ z0 trivial ?_
 ·kernel_rfl
 refine AOps.nil ?_
 refine AWp.seq ?_
 refine AWp.start [0,1] [2,3,4,5,6,7] [] [0,2,3,18,19] 0 ⟨[(0,q0 v1),(2,tS v3),(3,tS v4),(18,q0 v1),(19,tS v2)],[]⟩ rfl ?_ z0 trivial ?_
 ·kernel_rfl
 obtain ⟨v5,hv5,h⟩:=of_bind h
 refine AOps.cons (AOne.callP (F:=(FF 61 0)) _ rfl rfl rfl _ rfl rfl _ _ rfl Tryz.call24 [q0 v1,tS v2] rfl rfl (f24_ok v1 v2 hv5) rfl) ?_
 refine AOps.go [3,4,5,6,7] [] [] [0,2,3,10,11] 0 ⟨[(0,q0 v1),(2,tS v3),(3,tS v4),(10,tI v5.1),(11,tI v5.2)],[]⟩ ?_ z0 trivial ?_
 ·kernel_rfl
 refine AOps.nil ?_
 refine AWp.seq ?_
 refine AWp.seq ?_
 refine AWp.start [0,1] [] [] [0,2,3,10,11,24] 0 ⟨[(0,q0 v1),(2,tS v3),(3,tS v4),(10,tI v5.1),(11,tI v5.2),(24,tB (v5.2 != (0:Int)))],[]⟩ rfl ?_ z0 trivial ?_
 ·kernel_rfl
 refine AOps.nil ?_
 refine AWp.cond rfl (fun hb=>?_) fun hb=>?_
 ·replace h:=of_true h hb
  refine AWp.keepTo [11] 0 ⟨[(11,tI v5.2)],[]⟩ ?_ z0 ?_
  ·kernel_rfl
  refine AWp.seq ?_
  refine AWp.start [0,1,2] [] [] [8,9] 0 ⟨[(8,tS ([]:List UInt8)),(9,tI v5.2)],[]⟩ rfl ?_ z0 trivial ?_
  ·kernel_rfl
  refine AOps.nil ?_
  refine AWp.ret ?_
  cases h
  exact ⟨.inr rfl,rfl⟩
 ·replace h:=of_false h hb
  refine AWp.keepTo [0,2,3,10] 0 ⟨[(0,q0 v1),(2,tS v3),(3,tS v4),(10,tI v5.1)],[]⟩ ?_ z0 ?_
  ·kernel_rfl
  refine AWp.skip ?_
  refine AWp.seq ?_
  refine AWp.start [0,1] [2,3] [] [0,3,10,26,27] 0 ⟨[(0,q0 v1),(3,tS v4),(10,tI v5.1),(26,q0 v1),(27,tS v3)],[]⟩ rfl ?_ z0 trivial ?_
  ·kernel_rfl
  obtain ⟨v6,hv6,h⟩:=of_bind h
  refine AOps.cons (AOne.callP (F:=(FF 61 0)) _ rfl rfl rfl _ rfl rfl _ _ rfl Tryz.call29 [q0 v1,tS v3] rfl rfl (f29_ok v1 v3 hv6) rfl) ?_
  refine AOps.go [3] [] [] [0,3,10,12] 0 ⟨[(0,q0 v1),(3,tS v4),(10,tI v5.1),(12,tI v6)],[]⟩ ?_ z0 trivial ?_
  ·kernel_rfl
  refine AOps.nil ?_
  refine AWp.seq ?_
  refine AWp.seq ?_
  refine AWp.start [0,1] [] [] [0,3,10,12,30] 0 ⟨[(0,q0 v1),(3,tS v4),(10,tI v5.1),(12,tI v6),(30,tB (decide (v6 < (0:Int))))],[]⟩ rfl ?_ z0 trivial ?_
  ·kernel_rfl
  refine AOps.nil ?_
  refine AWp.cond rfl (fun hb=>?_) fun hb=>?_
  ·replace h:=of_true h hb
   refine AWp.keepTo [] 0 ⟨[],[]⟩ ?_ z0 ?_
   ·kernel_rfl
   refine AWp.seq ?_
   refine AWp.start [0,1] [] [] [8,9] 0 ⟨[(8,tS ([]:List UInt8)),(9,tI (5:Int))],[]⟩ rfl ?_ z0 trivial ?_
   ·kernel_rfl
   refine AOps.nil ?_
   refine AWp.ret ?_
   cases h
   exact ⟨.inr rfl,rfl⟩
  ·replace h:=of_false h hb
   refine AWp.keepTo [0,3,10,12] 0 ⟨[(0,q0 v1),(3,tS v4),(10,tI v5.1),(12,tI v6)],[]⟩ ?_ z0 ?_
   ·kernel_rfl
   refine AWp.skip ?_
   refine AWp.seq ?_
   refine AWp.seq ?_
   refine AWp.start [0,1,2] [3,4,5,6,7,8] [] [0,3,10,12,32,33,34] 0 ⟨[(0,q0 v1),(3,tS v4),(10,tI v5.1),(12,tI v6),(32,q0 v1),(33,tI v5.1),(34,tS v4)],[]⟩ rfl ?_ z0 trivial ?_
   ·kernel_rfl
   obtain ⟨v7,hv7,h⟩:=of_bind h
   refine AOps.cons (AOne.callP (F:=(FF 61 0)) _ rfl rfl rfl _ rfl rfl _ _ rfl Tryz.call26 [q0 v1,tI v5.1,tS v4] rfl rfl (f26_ok v1 v5.1 v4 hv7) rfl) ?_
   refine AOps.go [4,5,6,7,8] [] [] [0,3,10,12,14] 0 ⟨[(0,q0 v1),(3,tS v4),(10,tI v5.1),(12,tI v6),(14,tB v7.2)],[]⟩ ?_ z0 trivial ?_
   ·kernel_rfl
   refine AOps.nil ?_
   refine AWp.seq ?_
   refine AWp.start [0,1] [] [] [0,3,10,12,39] 0 ⟨[(0,q0 v1),(3,tS v4),(10,tI v5.1),(12,tI v6),(39,tB (!v7.2))],[]⟩ rfl ?_ z0 trivial ?_
   ·kernel_rfl
   refine AOps.nil ?_
   refine AWp.cond rfl (fun hb=>?_) fun hb=>?_
   ·replace h:=of_true h hb
    refine AWp.keepTo [] 0 ⟨[],[]⟩ ?_ z0 ?_
    ·kernel_rfl
    refine AWp.seq ?_
    refine AWp.start [0,1] [] [] [8,9] 0 ⟨[(8,tS ([]:List UInt8)),(9,tI (5:Int))],[]⟩ rfl ?_ z0 trivial ?_
    ·kernel_rfl
    refine AOps.nil ?_
    refine AWp.ret ?_
    cases h
    exact ⟨.inr rfl,rfl⟩
   ·replace h:=of_false h hb
    refine AWp.keepTo [0,3,10,12] 0 ⟨[(0,q0 v1),(3,tS v4),(10,tI v5.1),(12,tI v6)],[]⟩ ?_ z0 ?_
    ·kernel_rfl
    refine AWp.skip ?_
    refine AWp.seq ?_
    refine AWp.seq ?_
    obtain ⟨hg,h⟩:=of_guard h
    refine AWp.start [0,1,2,3,4,5] [6,7,8,9,10,11,12] [(0:Int) ≤ v6,v6 < (v1.length:Int)] [0,3,10,12,45] 0 ⟨[(0,q0 v1),(3,tS v4),(10,tI v5.1),(12,tI v6),(45,tB ((gD v1 v6).f2))],[]⟩ rfl ?_ z0 ⟨hg.1,hg.2⟩ ?_
    ·kernel_rfl
    obtain ⟨v8,hc6,h⟩:=of_bind h
    refine AOps.cut [6,7,8,9,10,11,12] [] (fun σ=>σ = ⟨[(0,q0 v1),(3,tS v4),(12,tI v6),(52,tB v8)],[]⟩) ?_ fun σ' hJ=>?_
    ·refine AOps.split (fun b=>⟨[(0,q0 v1),(3,tS v4),(10,tI v5.1),(12,tI v6),(45,tB b)],[]⟩) _ (fun hb=>?_) fun hb=>?_
     ·replace hc6:=of_true hc6 hb
      refine AOps.go [6,7,8,9,10,11,12] [] [] [0,3,12,52] 0 ⟨[(0,q0 v1),(3,tS v4),(12,tI v6),(52,tB true)],[]⟩ ?_ z0 trivial ?_
      ·kernel_rfl
      cases hc6
      exact AOps.nil rfl
     ·replace hc6:=of_false hc6 hb
      refine AOps.go [6,7] [8,9,10,11,12] [] [0,3,10,12,45,46,47] 0 ⟨[(0,q0 v1),(3,tS v4),(10,tI v5.1),(12,tI v6),(45,tB false),(46,q0 v1),(47,tI v6)],[]⟩ ?_ z0 trivial ?_
      ·kernel_rfl
      obtain ⟨v9,hv9,hc6⟩:=of_bind hc6
      refine AOps.cons (AOne.callP (F:=(FF 61 0)) _ rfl rfl rfl _ rfl rfl _ _ rfl Tryz.call25 [q0 v1,tI v6] rfl rfl (f25_ok v1 v6 hv9) rfl) ?_
      refine AOps.freezeL 48 (cInt .i64) v9 rfl (fun _=>rfl) ?_
      refine AOps.go [9] [10,11,12] [] [0,3,12,45,48,49] 0 ⟨[(0,q0 v1),(3,tS v4),(12,tI v6),(45,tB false),(48,q3 v9),(49,tI v5.1)],[]⟩ ?_ z0 trivial ?_
      ·kernel_rfl
      obtain ⟨v10,hv10,hc6⟩:=of_bind hc6
      refine AOps.cons (AOne.callP (F:=(FF 61 0)) _ rfl rfl rfl _ rfl rfl _ _ rfl Tryz.call30 [q3 v9,tI v5.1] rfl rfl (f30_ok v9 v5.1 hv10) rfl) ?_
      refine AOps.go [11,12] [] [] [0,3,12,52] 0 ⟨[(0,q0 v1),(3,tS v4),(12,tI v6),(52,tB (!v10))],[]⟩ ?_ z0 trivial ?_
      ·kernel_rfl
      cases hc6
      exact AOps.nil rfl
    subst hJ
    refine AOps.nil ?_
    refine AWp.cond rfl (fun hb=>?_) fun hb=>?_
    ·replace h:=of_true h hb
     refine AWp.keepTo [] 0 ⟨[],[]⟩ ?_ z0 ?_
     ·kernel_rfl
     refine AWp.seq ?_
     refine AWp.start [0,1] [] [] [8,9] 0 ⟨[(8,tS ([]:List UInt8)),(9,tI (70:Int))],[]⟩ rfl ?_ z0 trivial ?_
     ·kernel_rfl
     refine AOps.nil ?_
     refine AWp.ret ?_
     cases h
     exact ⟨.inr rfl,rfl⟩
    ·replace h:=of_false h hb
     refine AWp.keepTo [0,3,12] 0 ⟨[(0,q0 v1),(3,tS v4),(12,tI v6)],[]⟩ ?_ z0 ?_
     ·kernel_rfl
     refine AWp.skip ?_
     refine AWp.seq ?_
     refine AWp.start [0,1,2] [3,4,5,6,7,8] [] [54,55,56] 0 ⟨[(54,q0 v1),(55,tI v6),(56,tS v4)],[]⟩ rfl ?_ z0 trivial ?_
     ·kernel_rfl
     obtain ⟨v11,hv11,h⟩:=of_bind h
     refine AOps.cons (AOne.callP (F:=(FF 61 0)) _ rfl rfl rfl _ rfl rfl _ _ rfl Tryz.call26 [q0 v1,tI v6,tS v4] rfl rfl (f26_ok v1 v6 v4 hv11) rfl) ?_
     refine AOps.go [4,5,6,7,8] [] [] [15] 0 ⟨[(15,tS v11.1)],[]⟩ ?_ z0 trivial ?_
     ·kernel_rfl
     refine AOps.nil ?_
     refine AWp.seq ?_
     refine AWp.start [0,1,2] [] [] [8,9] 0 ⟨[(8,tS v11.1),(9,tI (0:Int))],[]⟩ rfl ?_ z0 trivial ?_
     ·kernel_rfl
     refine AOps.nil ?_
     refine AWp.ret ?_
     cases h
     exact ⟨.inr rfl,rfl⟩

noncomputable def f31_b1 (v1:List T52) (v2:T52) (v3:Int):Option (Int ⊕ Out Int Unit) :=
 cond (decide (v3 < (v1.length:Int))) (if (0:Int) ≤ v3 ∧ v3 < (v1.length:Int) then cond ((v2.f0 == ((v1.getD v3.toNat default).f0)) && (v2.f1 == ((v1.getD v3.toNat default).f1))) (some (.inr (.ret v3))) (some (.inl (w64 (v3 + (1:Int))))) else none) (some (.inr (.go ())))

noncomputable def f31 (v1:List T52) (v2:T52):Option Int :=
 (iter (fun s=>f31_b1 v1 v2 s) (0:Int)).bind fun y=>match y with | .ret v4=>some v4 | .go _=>some (-1:Int)

theorem f31_ok (v1:List T52) (v2:T52) {r:Int} (h:f31 v1 v2 = some r):ACall Tryz.prog 31 [.tv (fzL 2 c52 v1),.agg [.bool v2.f0,.str v2.f1]] [] (.tv (.int .i64 r)) []:=by
 refine ACall.of1 (FF 19 0) Tryz.func31 rfl Tryz.ntmps31 Tryz.results31 (zz rfl) rfl rfl ?_
 refine AWp.seq ?_
 refine AWp.start [0,1] [] [] [0,3] 1 ⟨[(0,q6 v1),(3,.pc 0 0)],[.cells 53 (c52 v2)]⟩ rfl ?_ z0 trivial ?_
 ·kernel_rfl
 refine AOps.nil ?_
 refine AWp.seq ?_
 refine AWp.seq ?_
 refine AWp.pin 0 rfl rfl ?_
 refine AWp.keepTo [0,3] 0 ⟨[(0,q6 v1),(3,.rp (c52 v2))],[]⟩ ?_ z0 ?_
 ·kernel_rfl
 refine AWp.start [0,1,2] [] [] [0,3,7,8] 0 ⟨[(0,q6 v1),(3,.rp (c52 v2)),(7,tI (v1.length:Int)),(8,tI (0:Int))],[]⟩ rfl ?_ z0 trivial ?_
 ·kernel_rfl
 refine AOps.nil ?_
 refine AWp.block ?_
 obtain ⟨y,hy,h⟩:=of_bind h
 refine AWp.mono (AWp.loop (S:=Int) (Y:=Out Int Unit) (fun s=>⟨[(0,q6 v1),(3,.rp (c52 v2)),(7,tI (v1.length:Int)),(8,tI s)],[]⟩) (fun s=>f31_b1 v1 v2 s) (fun y e σ=>match y with | .ret r=>e = .ret ∧ σ = ⟨[(4,tI r)],[]⟩ | .go v=>e = .exit 0 ∧ σ = ⟨[],[]⟩) ?_ hy) ?_
 ·rintro v3 o h
  refine AWp.seq ?_
  refine AWp.start [0] [] [] [0,3,7,8,9] 0 ⟨[(0,q6 v1),(3,.rp (c52 v2)),(7,tI (v1.length:Int)),(8,tI v3),(9,tB (decide (v3 < (v1.length:Int))))],[]⟩ rfl ?_ z0 trivial ?_
  ·kernel_rfl
  refine AOps.nil ?_
  refine AWp.seq ?_
  refine AWp.cond rfl (fun hb=>?_) fun hb=>?_
  ·replace h:=of_true h hb
   refine AWp.keepTo [0,3,7,8] 0 ⟨[(0,q6 v1),(3,.rp (c52 v2)),(7,tI (v1.length:Int)),(8,tI v3)],[]⟩ ?_ z0 ?_
   ·kernel_rfl
   refine AWp.skip ?_
   refine AWp.seq ?_
   refine AWp.block ?_
   refine AWp.seq ?_
   refine AWp.start [0,1] [] [] [0,3,5,7,8] 0 ⟨[(0,q6 v1),(3,.rp (c52 v2)),(5,tI v3),(7,tI (v1.length:Int)),(8,tI v3)],[]⟩ rfl ?_ z0 trivial ?_
   ·kernel_rfl
   refine AOps.nil ?_
   refine AWp.seq ?_
   refine AWp.draw FFm _ (n:=6) rfl (ls:=#[n1,n1,n1,n1,n1,n1]) rfl ?_ (fun _ h=>h)
   obtain ⟨hg,h⟩:=of_guard h
   refine AAny.go (by kernel_rfl) [0,1,2,3,4,5] (fuel':=0) rfl [(0:Int) ≤ v3,v3 < (v1.length:Int)] #[y1,y1,y1,y1,y1,y1] [0,3,5,7,8,16] 0 ⟨[(0,q6 v1),(3,.rp (c52 v2)),(5,tI v3),(7,tI (v1.length:Int)),(8,tI v3),(16,tB ((v2.f0 == ((gD v1 v3).f0)) && (v2.f1 == ((gD v1 v3).f1))))],[]⟩ ?_ z0 ⟨hg.1,hg.2⟩ ?_
   ·kernel_rfl
   refine AAny.keepTo [0,3,5,7,8,16] 0 ⟨[(0,q6 v1),(3,.rp (c52 v2)),(5,tI v3),(7,tI (v1.length:Int)),(8,tI v3),(16,tB ((v2.f0 == ((gD v1 v3).f0)) && (v2.f1 == ((gD v1 v3).f1))))],[]⟩ _ ?_ rfl z0 (AAny.done (by kernel_rfl) ?_)
   ·kernel_rfl
   refine AWp.cond rfl (fun hb=>?_) fun hb=>?_
   ·replace h:=of_true h hb
    refine AWp.keepTo [5] 0 ⟨[(5,tI v3)],[]⟩ ?_ z0 ?_
    ·kernel_rfl
    refine AWp.seq ?_
    refine AWp.start [0,1] [] [] [4] 0 ⟨[(4,tI v3)],[]⟩ rfl ?_ z0 trivial ?_
    ·kernel_rfl
    refine AOps.nil ?_
    refine AWp.ret ?_
    cases h
    exact Or.inr ⟨_,rfl,by simp,rfl,rfl⟩
   ·replace h:=of_false h hb
    refine AWp.keepTo [0,3,7,8] 0 ⟨[(0,q6 v1),(3,.rp (c52 v2)),(7,tI (v1.length:Int)),(8,tI v3)],[]⟩ ?_ z0 ?_
    ·kernel_rfl
    refine AWp.skip ?_
    refine AWp.start [0,1] [] [] [0,3,7,8] 0 ⟨[(0,q6 v1),(3,.rp (c52 v2)),(7,tI (v1.length:Int)),(8,tI (w64 (v3 + (1:Int))))],[]⟩ rfl ?_ z0 trivial ?_
    ·kernel_rfl
    refine AOps.nil ?_
    cases h
    exact Or.inl ⟨_,rfl,rfl,rfl⟩
  ·replace h:=of_false h hb
   refine AWp.keepTo [] 0 ⟨[],[]⟩ ?_ z0 ?_
   ·kernel_rfl
   refine AWp.exit ?_
   cases h
   exact Or.inr ⟨_,rfl,by simp,rfl,rfl⟩
 ·intro e σ hp
  rcases y with v4 | _
  ·obtain ⟨rfl,rfl⟩:=hp
   cases h
   exact ⟨.inr rfl,rfl⟩
  ·obtain ⟨rfl,rfl⟩:=hp
   refine AWp.seq ?_
   refine AWp.start [0] [] [] [4] 0 ⟨[(4,tI (-1:Int))],[]⟩ rfl ?_ z0 trivial ?_
   ·kernel_rfl
   refine AOps.nil ?_
   refine AWp.ret ?_
   cases h
   exact ⟨.inr rfl,rfl⟩

noncomputable def f33 (v1:T52):Option Bool :=
 some (v1.f1 == ([]:List UInt8))

theorem f33_ok (v1:T52) {r:Bool} (h:f33 v1 = some r):ACall Tryz.prog 33 [.agg [.bool v1.f0,.str v1.f1]] [] (.tv (.bool r)) []:=by
 refine ACall.of1 (FF 6 0) Tryz.func33 rfl Tryz.ntmps33 Tryz.results33 (zz rfl) rfl rfl ?_
 refine AWp.seq ?_
 refine AWp.start [0,1] [] [] [1] 1 ⟨[(1,.pc 0 0)],[.cells 53 (c52 v1)]⟩ rfl ?_ z0 trivial ?_
 ·kernel_rfl
 refine AOps.nil ?_
 refine AWp.seq ?_
 refine AWp.pin 0 rfl rfl ?_
 refine AWp.keepTo [1] 0 ⟨[(1,.rp (c52 v1))],[]⟩ ?_ z0 ?_
 ·kernel_rfl
 refine AWp.start [0,1,2,3] [] [] [2] 0 ⟨[(2,tB (v1.f1 == ([]:List UInt8)))],[]⟩ rfl ?_ z0 trivial ?_
 ·kernel_rfl
 refine AOps.nil ?_
 refine AWp.ret ?_
 cases h
 exact ⟨.inr rfl,rfl⟩

noncomputable def f32_33_b1 (v1:List T52) (v2:Int):Option (Int ⊕ Out Int Unit) :=
 cond (decide (v2 < (v1.length:Int))) (if (0:Int) ≤ v2 ∧ v2 < (v1.length:Int) then (f33 (v1.getD v2.toNat default)).bind fun v3=>cond v3 (some (.inr (.ret v2))) (some (.inl (w64 (v2 + (1:Int))))) else none) (some (.inr (.go ())))

noncomputable def f32_33 (v1:List T52):Option Int :=
 (iter (fun s=>f32_33_b1 v1 s) (0:Int)).bind fun y=>match y with | .ret v4=>some v4 | .go _=>some (-1:Int)

theorem f32_33_ok (v1:List T52) {r:Int} (h:f32_33 v1 = some r):ACall Tryz.prog 32 [.tv (fzL 2 c52 v1),.fn 33 []] [] (.tv (.int .i64 r)) []:=by
 refine ACall.of1 (FF 19 0) Tryz.func32 rfl Tryz.ntmps32 Tryz.results32 (zz rfl) rfl rfl ?_
 refine AWp.seq ?_
 refine AWp.start [0] [] [] [0,1] 0 ⟨[(0,q6 v1),(1,.fn 33 [])],[]⟩ rfl ?_ z0 trivial ?_
 ·kernel_rfl
 refine AOps.nil ?_
 refine AWp.seq ?_
 refine AWp.seq ?_
 refine AWp.start [0,1,2] [] [] [0,1,7,8] 0 ⟨[(0,q6 v1),(1,.fn 33 []),(7,tI (v1.length:Int)),(8,tI (0:Int))],[]⟩ rfl ?_ z0 trivial ?_
 ·kernel_rfl
 refine AOps.nil ?_
 refine AWp.block ?_
 obtain ⟨y,hy,h⟩:=of_bind h
 refine AWp.mono (AWp.loop (S:=Int) (Y:=Out Int Unit) (fun s=>⟨[(0,q6 v1),(1,.fn 33 []),(7,tI (v1.length:Int)),(8,tI s)],[]⟩) (fun s=>f32_33_b1 v1 s) (fun y e σ=>match y with | .ret r=>e = .ret ∧ σ = ⟨[(4,tI r)],[]⟩ | .go v=>e = .exit 0 ∧ σ = ⟨[],[]⟩) ?_ hy) ?_
 ·rintro v2 o h
  refine AWp.seq ?_
  refine AWp.start [0] [] [] [0,1,7,8,9] 0 ⟨[(0,q6 v1),(1,.fn 33 []),(7,tI (v1.length:Int)),(8,tI v2),(9,tB (decide (v2 < (v1.length:Int))))],[]⟩ rfl ?_ z0 trivial ?_
  ·kernel_rfl
  refine AOps.nil ?_
  refine AWp.seq ?_
  refine AWp.cond rfl (fun hb=>?_) fun hb=>?_
  ·replace h:=of_true h hb
   refine AWp.keepTo [0,1,7,8] 0 ⟨[(0,q6 v1),(1,.fn 33 []),(7,tI (v1.length:Int)),(8,tI v2)],[]⟩ ?_ z0 ?_
   ·kernel_rfl
   refine AWp.skip ?_
   refine AWp.seq ?_
   refine AWp.block ?_
   refine AWp.seq ?_
   refine AWp.start [0,1] [] [] [0,1,5,7,8] 0 ⟨[(0,q6 v1),(1,.fn 33 []),(5,tI v2),(7,tI (v1.length:Int)),(8,tI v2)],[]⟩ rfl ?_ z0 trivial ?_
   ·kernel_rfl
   refine AOps.nil ?_
   refine AWp.seq ?_
   obtain ⟨hg,h⟩:=of_guard h
   refine AWp.start [0,1,2,3,4] [5] [(0:Int) ≤ v2,v2 < (v1.length:Int)] [0,1,5,7,8,11,15] 0 ⟨[(0,q6 v1),(1,.fn 33 []),(5,tI v2),(7,tI (v1.length:Int)),(8,tI v2),(11,.fn 33 []),(15,.agg (c52 (gD v1 v2)))],[]⟩ rfl ?_ z0 ⟨hg.1,hg.2⟩ ?_
   ·kernel_rfl
   obtain ⟨v3,hv3,h⟩:=of_bind h
   refine AOps.cons (AOne.callP (F:=(FF 19 0)) _ rfl rfl rfl _ rfl rfl _ _ rfl Tryz.call33 [.agg (c52 (gD v1 v2))] rfl rfl (f33_ok (gD v1 v2) hv3) rfl) ?_
   refine AOps.keepTo [0,1,5,7,8,16] 0 ⟨[(0,q6 v1),(1,.fn 33 []),(5,tI v2),(7,tI (v1.length:Int)),(8,tI v2),(16,tB v3)],[]⟩ ?_ z0 ?_
   ·kernel_rfl
   refine AOps.nil ?_
   refine AWp.cond rfl (fun hb=>?_) fun hb=>?_
   ·replace h:=of_true h hb
    refine AWp.keepTo [5] 0 ⟨[(5,tI v2)],[]⟩ ?_ z0 ?_
    ·kernel_rfl
    refine AWp.seq ?_
    refine AWp.start [0,1] [] [] [4] 0 ⟨[(4,tI v2)],[]⟩ rfl ?_ z0 trivial ?_
    ·kernel_rfl
    refine AOps.nil ?_
    refine AWp.ret ?_
    cases h
    exact Or.inr ⟨_,rfl,by simp,rfl,rfl⟩
   ·replace h:=of_false h hb
    refine AWp.keepTo [0,1,7,8] 0 ⟨[(0,q6 v1),(1,.fn 33 []),(7,tI (v1.length:Int)),(8,tI v2)],[]⟩ ?_ z0 ?_
    ·kernel_rfl
    refine AWp.skip ?_
    refine AWp.start [0,1] [] [] [0,1,7,8] 0 ⟨[(0,q6 v1),(1,.fn 33 []),(7,tI (v1.length:Int)),(8,tI (w64 (v2 + (1:Int))))],[]⟩ rfl ?_ z0 trivial ?_
    ·kernel_rfl
    refine AOps.nil ?_
    cases h
    exact Or.inl ⟨_,rfl,rfl,rfl⟩
  ·replace h:=of_false h hb
   refine AWp.keepTo [] 0 ⟨[],[]⟩ ?_ z0 ?_
   ·kernel_rfl
   refine AWp.exit ?_
   cases h
   exact Or.inr ⟨_,rfl,by simp,rfl,rfl⟩
 ·intro e σ hp
  rcases y with v4 | _
  ·obtain ⟨rfl,rfl⟩:=hp
   cases h
   exact ⟨.inr rfl,rfl⟩
  ·obtain ⟨rfl,rfl⟩:=hp
   refine AWp.seq ?_
   refine AWp.start [0] [] [] [4] 0 ⟨[(4,tI (-1:Int))],[]⟩ rfl ?_ z0 trivial ?_
   ·kernel_rfl
   refine AOps.nil ?_
   refine AWp.ret ?_
   cases h
   exact ⟨.inr rfl,rfl⟩

noncomputable def f15_b1 (v1:List T80) (v3:List T52) (v5:Int):Option (Int ⊕ Out (Int × Int) Unit) :=
 cond (decide (v5 < (v3.length:Int))) (if (0:Int) ≤ v5 ∧ v5 < (v3.length:Int) then (cond (!(((v3.getD v5.toNat default).f1) == ([]:List UInt8))) ((f29 v1 ((v3.getD v5.toNat default).f1)).bind fun v7=>some (decide (v7 < (0:Int)))) (some false)).bind fun v6=>cond v6 (some (.inr (.ret ((0:Int),(5:Int))))) (some (.inl (w64 (v5 + (1:Int))))) else none) (some (.inr (.go ())))

noncomputable def f15_b2 (v1:List T80) (v3:List T52) (v10:(List Int)) (v11:Int):Option (Int ⊕ Out (Int × Int) Unit) :=
 cond (decide (v11 < (v10.length:Int))) (if (0:Int) ≤ v11 ∧ v11 < (v10.length:Int) then if (0:Int) ≤ v10.getD v11.toNat default ∧ v10.getD v11.toNat default < (v1.length:Int) then (f31 v3 (T52.mk true ((v1.getD (Int.toNat (v10.getD v11.toNat default)) default).f0))).bind fun v12=>cond (decide (v12 ≥ (0:Int))) (some (.inr (.ret (v12,(0:Int))))) (some (.inl (w64 (v11 + (1:Int))))) else none else none) (some (.inr (.go ())))

noncomputable def f15 (v1:List T80) (v2:List UInt8) (v3:List T52):Option (Int × Int) :=
 (f24 v1 v2).bind fun v4=>cond (v4.2 != (0:Int)) (some ((0:Int),v4.2)) ((iter (fun s=>f15_b1 v1 v3 s) (0:Int)).bind fun y=>match y with | .ret v8=>some (v8.1,v8.2) | .go _=>if (0:Int) ≤ v4.1 ∧ v4.1 < (v1.length:Int) then cond ((v1.getD (Int.toNat v4.1) default).f2) (some ((0:Int),(70:Int))) ((f31 v3 (T52.mk false v2)).bind fun v9=>cond (decide (v9 ≥ (0:Int))) (some (v9,(0:Int))) ((f25 v1 v4.1).bind fun v10=>(iter (fun s=>f15_b2 v1 v3 v10 s) (0:Int)).bind fun y=>match y with | .ret v13=>some (v13.1,v13.2) | .go _=>(f32_33 v3).bind fun v14=>some (v14,(0:Int)))) else none)

theorem f15_ok (v1:List T80) (v2:List UInt8) (v3:List T52) {r:Int × Int} (h:f15 v1 v2 v3 = some r):ACall Tryz.prog 15 [.tv (fzL 6 c80 v1),.tv (.str v2),.tv (fzL 2 c52 v3)] [] (.tup [.tv (.int .i64 r.1),.tv (.int .i64 r.2)]) []:=by
 refine ACall.ofN (FF 76 0) (rs:=[6,7]) (env:=[(6,tI r.1),(7,tI r.2)]) Tryz.func15 rfl Tryz.ntmps15 Tryz.results15 (by decide) (by decide) rfl (zz rfl) rfl (get_ofN _ _ _ rfl) (ok_ofN _ rfl) ?_
 refine AWp.seq ?_
 refine AWp.start [0,1] [] [] [0,1,2] 0 ⟨[(0,q0 v1),(1,tS v2),(2,q6 v3)],[]⟩ rfl ?_ z0 trivial ?_
 ·kernel_rfl
 refine AOps.nil ?_
 refine AWp.seq ?_
 refine AWp.start [0,1] [2,3,4,5,6,7] [] [0,1,2,17,18] 0 ⟨[(0,q0 v1),(1,tS v2),(2,q6 v3),(17,q0 v1),(18,tS v2)],[]⟩ rfl ?_ z0 trivial ?_
 ·kernel_rfl
 obtain ⟨v4,hv4,h⟩:=of_bind h
 refine AOps.cons (AOne.callP (F:=(FF 76 0)) _ rfl rfl rfl _ rfl rfl _ _ rfl Tryz.call24 [q0 v1,tS v2] rfl rfl (f24_ok v1 v2 hv4) rfl) ?_
 refine AOps.go [3,4,5,6,7] [] [] [0,1,2,8,9] 0 ⟨[(0,q0 v1),(1,tS v2),(2,q6 v3),(8,tI v4.1),(9,tI v4.2)],[]⟩ ?_ z0 trivial ?_
 ·kernel_rfl
 refine AOps.nil ?_
 refine AWp.seq ?_
 refine AWp.seq ?_
 refine AWp.start [0,1] [] [] [0,1,2,8,9,23] 0 ⟨[(0,q0 v1),(1,tS v2),(2,q6 v3),(8,tI v4.1),(9,tI v4.2),(23,tB (v4.2 != (0:Int)))],[]⟩ rfl ?_ z0 trivial ?_
 ·kernel_rfl
 refine AOps.nil ?_
 refine AWp.cond rfl (fun hb=>?_) fun hb=>?_
 ·replace h:=of_true h hb
  refine AWp.keepTo [9] 0 ⟨[(9,tI v4.2)],[]⟩ ?_ z0 ?_
  ·kernel_rfl
  refine AWp.seq ?_
  refine AWp.start [0,1,2] [] [] [6,7] 0 ⟨[(6,tI (0:Int)),(7,tI v4.2)],[]⟩ rfl ?_ z0 trivial ?_
  ·kernel_rfl
  refine AOps.nil ?_
  refine AWp.ret ?_
  cases h
  exact ⟨.inr rfl,rfl⟩
 ·replace h:=of_false h hb
  refine AWp.keepTo [0,1,2,8] 0 ⟨[(0,q0 v1),(1,tS v2),(2,q6 v3),(8,tI v4.1)],[]⟩ ?_ z0 ?_
  ·kernel_rfl
  refine AWp.skip ?_
  refine AWp.seq ?_
  refine AWp.seq ?_
  refine AWp.start [0,1,2] [] [] [0,1,2,8,25,26,27] 0 ⟨[(0,q0 v1),(1,tS v2),(2,q6 v3),(8,tI v4.1),(25,q6 v3),(26,tI (v3.length:Int)),(27,tI (0:Int))],[]⟩ rfl ?_ z0 trivial ?_
  ·kernel_rfl
  refine AOps.nil ?_
  refine AWp.block ?_
  obtain ⟨y,hy,h⟩:=of_bind h
  refine AWp.mono (AWp.loop (S:=Int) (Y:=Out (Int × Int) Unit) (fun s=>⟨[(0,q0 v1),(1,tS v2),(2,q6 v3),(8,tI v4.1),(25,q6 v3),(26,tI (v3.length:Int)),(27,tI s)],[]⟩) (fun s=>f15_b1 v1 v3 s) (fun y e σ=>match y with | .ret r=>e = .ret ∧ σ = ⟨[(6,tI r.1),(7,tI r.2)],[]⟩ | .go v=>e = .exit 0 ∧ σ = ⟨[(0,q0 v1),(1,tS v2),(2,q6 v3),(8,tI v4.1)],[]⟩) ?_ hy) ?_
  ·rintro v5 o h
   refine AWp.seq ?_
   refine AWp.start [0] [] [] [0,1,2,8,25,26,27,28] 0 ⟨[(0,q0 v1),(1,tS v2),(2,q6 v3),(8,tI v4.1),(25,q6 v3),(26,tI (v3.length:Int)),(27,tI v5),(28,tB (decide (v5 < (v3.length:Int))))],[]⟩ rfl ?_ z0 trivial ?_
   ·kernel_rfl
   refine AOps.nil ?_
   refine AWp.seq ?_
   refine AWp.cond rfl (fun hb=>?_) fun hb=>?_
   ·replace h:=of_true h hb
    refine AWp.keepTo [0,1,2,8,25,26,27] 0 ⟨[(0,q0 v1),(1,tS v2),(2,q6 v3),(8,tI v4.1),(25,q6 v3),(26,tI (v3.length:Int)),(27,tI v5)],[]⟩ ?_ z0 ?_
    ·kernel_rfl
    refine AWp.skip ?_
    refine AWp.seq ?_
    refine AWp.block ?_
    refine AWp.seq ?_
    obtain ⟨hg,h⟩:=of_guard h
    refine AWp.start [0,1,2,3] [] [(0:Int) ≤ v5,v5 < (v3.length:Int)] [0,1,2,8,11,25,26,27] 1 ⟨[(0,q0 v1),(1,tS v2),(2,q6 v3),(8,tI v4.1),(11,.pc 0 0),(25,q6 v3),(26,tI (v3.length:Int)),(27,tI v5)],[.cells 53 (c52 (gD v3 v5))]⟩ rfl ?_ z0 ⟨hg.1,hg.2⟩ ?_
    ·kernel_rfl
    refine AOps.nil ?_
    refine AWp.seq ?_
    refine AWp.pin 0 rfl rfl ?_
    refine AWp.keepTo [0,1,2,8,11,25,26,27] 0 ⟨[(0,q0 v1),(1,tS v2),(2,q6 v3),(8,tI v4.1),(11,.rp (c52 (gD v3 v5))),(25,q6 v3),(26,tI (v3.length:Int)),(27,tI v5)],[]⟩ ?_ z0 ?_
    ·kernel_rfl
    refine AWp.start [0,1,2,3] [4,5,6,7,8,9] [] [0,1,2,8,11,25,26,27,34] 0 ⟨[(0,q0 v1),(1,tS v2),(2,q6 v3),(8,tI v4.1),(11,.rp (c52 (gD v3 v5))),(25,q6 v3),(26,tI (v3.length:Int)),(27,tI v5),(34,tB (!(((gD v3 v5).f1) == ([]:List UInt8))))],[]⟩ rfl ?_ z0 trivial ?_
    ·kernel_rfl
    obtain ⟨v6,hc4,h⟩:=of_bind h
    refine AOps.cut [4,5,6,7,8,9] [] (fun σ=>σ = ⟨[(0,q0 v1),(1,tS v2),(2,q6 v3),(8,tI v4.1),(25,q6 v3),(26,tI (v3.length:Int)),(27,tI v5),(40,tB v6)],[]⟩) ?_ fun σ' hJ=>?_
    ·refine AOps.split (fun b=>⟨[(0,q0 v1),(1,tS v2),(2,q6 v3),(8,tI v4.1),(11,.rp (c52 (gD v3 v5))),(25,q6 v3),(26,tI (v3.length:Int)),(27,tI v5),(34,tB b)],[]⟩) _ (fun hb=>?_) fun hb=>?_
     ·replace hc4:=of_true hc4 hb
      refine AOps.go [4,5,6] [7,8,9] [] [0,1,2,8,25,26,27,34,35,37] 0 ⟨[(0,q0 v1),(1,tS v2),(2,q6 v3),(8,tI v4.1),(25,q6 v3),(26,tI (v3.length:Int)),(27,tI v5),(34,tB true),(35,q0 v1),(37,tS ((gD v3 v5).f1))],[]⟩ ?_ z0 trivial ?_
      ·kernel_rfl
      obtain ⟨v7,hv7,hc4⟩:=of_bind hc4
      refine AOps.cons (AOne.callP (F:=(FF 76 0)) _ rfl rfl rfl _ rfl rfl _ _ rfl Tryz.call29 [q0 v1,tS ((gD v3 v5).f1)] rfl rfl (f29_ok v1 ((gD v3 v5).f1) hv7) rfl) ?_
      refine AOps.go [8,9] [] [] [0,1,2,8,25,26,27,40] 0 ⟨[(0,q0 v1),(1,tS v2),(2,q6 v3),(8,tI v4.1),(25,q6 v3),(26,tI (v3.length:Int)),(27,tI v5),(40,tB (decide (v7 < (0:Int))))],[]⟩ ?_ z0 trivial ?_
      ·kernel_rfl
      cases hc4
      exact AOps.nil rfl
     ·replace hc4:=of_false hc4 hb
      refine AOps.go [4,5,6,7,8,9] [] [] [0,1,2,8,25,26,27,40] 0 ⟨[(0,q0 v1),(1,tS v2),(2,q6 v3),(8,tI v4.1),(25,q6 v3),(26,tI (v3.length:Int)),(27,tI v5),(40,tB false)],[]⟩ ?_ z0 trivial ?_
      ·kernel_rfl
      cases hc4
      exact AOps.nil rfl
    subst hJ
    refine AOps.nil ?_
    refine AWp.cond rfl (fun hb=>?_) fun hb=>?_
    ·replace h:=of_true h hb
     refine AWp.keepTo [] 0 ⟨[],[]⟩ ?_ z0 ?_
     ·kernel_rfl
     refine AWp.seq ?_
     refine AWp.start [0,1] [] [] [6,7] 0 ⟨[(6,tI (0:Int)),(7,tI (5:Int))],[]⟩ rfl ?_ z0 trivial ?_
     ·kernel_rfl
     refine AOps.nil ?_
     refine AWp.ret ?_
     cases h
     exact Or.inr ⟨_,rfl,by simp,rfl,rfl⟩
    ·replace h:=of_false h hb
     refine AWp.keepTo [0,1,2,8,25,26,27] 0 ⟨[(0,q0 v1),(1,tS v2),(2,q6 v3),(8,tI v4.1),(25,q6 v3),(26,tI (v3.length:Int)),(27,tI v5)],[]⟩ ?_ z0 ?_
     ·kernel_rfl
     refine AWp.skip ?_
     refine AWp.start [0,1] [] [] [0,1,2,8,25,26,27] 0 ⟨[(0,q0 v1),(1,tS v2),(2,q6 v3),(8,tI v4.1),(25,q6 v3),(26,tI (v3.length:Int)),(27,tI (w64 (v5 + (1:Int))))],[]⟩ rfl ?_ z0 trivial ?_
     ·kernel_rfl
     refine AOps.nil ?_
     cases h
     exact Or.inl ⟨_,rfl,rfl,rfl⟩
   ·replace h:=of_false h hb
    refine AWp.keepTo [0,1,2,8] 0 ⟨[(0,q0 v1),(1,tS v2),(2,q6 v3),(8,tI v4.1)],[]⟩ ?_ z0 ?_
    ·kernel_rfl
    refine AWp.exit ?_
    cases h
    exact Or.inr ⟨_,rfl,by simp,rfl,rfl⟩
  ·intro e σ hp
   rcases y with v8 | _
   ·obtain ⟨rfl,rfl⟩:=hp
    cases h
    exact ⟨.inr rfl,rfl⟩
   ·obtain ⟨rfl,rfl⟩:=hp
    refine AWp.seq ?_
    refine AWp.seq ?_
    obtain ⟨hg,h⟩:=of_guard h
    refine AWp.start [0,1,2,3,4] [] [(0:Int) ≤ v4.1,v4.1 < (v1.length:Int)] [0,1,2,8,46] 0 ⟨[(0,q0 v1),(1,tS v2),(2,q6 v3),(8,tI v4.1),(46,tB ((v1.getD (Int.toNat v4.1) default).f2))],[]⟩ rfl ?_ z0 ⟨hg.1,hg.2⟩ ?_
    ·kernel_rfl
    refine AOps.nil ?_
    refine AWp.cond rfl (fun hb=>?_) fun hb=>?_
    ·replace h:=of_true h hb
     refine AWp.keepTo [] 0 ⟨[],[]⟩ ?_ z0 ?_
     ·kernel_rfl
     refine AWp.seq ?_
     refine AWp.start [0,1] [] [] [6,7] 0 ⟨[(6,tI (0:Int)),(7,tI (70:Int))],[]⟩ rfl ?_ z0 trivial ?_
     ·kernel_rfl
     refine AOps.nil ?_
     refine AWp.ret ?_
     cases h
     exact ⟨.inr rfl,rfl⟩
    ·replace h:=of_false h hb
     refine AWp.keepTo [0,1,2,8] 0 ⟨[(0,q0 v1),(1,tS v2),(2,q6 v3),(8,tI v4.1)],[]⟩ ?_ z0 ?_
     ·kernel_rfl
     refine AWp.skip ?_
     refine AWp.seq ?_
     refine AWp.seq ?_
     refine AWp.start [0,1,2] [3,4] [] [0,2,8,47,49] 0 ⟨[(0,q0 v1),(2,q6 v3),(8,tI v4.1),(47,q6 v3),(49,.agg [.bool false,.str v2])],[]⟩ rfl ?_ z0 trivial ?_
     ·kernel_rfl
     obtain ⟨v9,hv9,h⟩:=of_bind h
     refine AOps.cons (AOne.callP (F:=(FF 76 0)) _ rfl rfl rfl _ rfl rfl _ _ rfl Tryz.call31 [q6 v3,.agg [.bool false,.str v2]] rfl rfl (f31_ok v3 (T52.mk false v2) hv9) rfl) ?_
     refine AOps.go [4] [] [] [0,2,8,12] 0 ⟨[(0,q0 v1),(2,q6 v3),(8,tI v4.1),(12,tI v9)],[]⟩ ?_ z0 trivial ?_
     ·kernel_rfl
     refine AOps.nil ?_
     refine AWp.seq ?_
     refine AWp.start [0,1] [] [] [0,2,8,12,52] 0 ⟨[(0,q0 v1),(2,q6 v3),(8,tI v4.1),(12,tI v9),(52,tB (decide (v9 ≥ (0:Int))))],[]⟩ rfl ?_ z0 trivial ?_
     ·kernel_rfl
     refine AOps.nil ?_
     refine AWp.cond rfl (fun hb=>?_) fun hb=>?_
     ·replace h:=of_true h hb
      refine AWp.keepTo [12] 0 ⟨[(12,tI v9)],[]⟩ ?_ z0 ?_
      ·kernel_rfl
      refine AWp.seq ?_
      refine AWp.start [0,1,2] [] [] [6,7] 0 ⟨[(6,tI v9),(7,tI (0:Int))],[]⟩ rfl ?_ z0 trivial ?_
      ·kernel_rfl
      refine AOps.nil ?_
      refine AWp.ret ?_
      cases h
      exact ⟨.inr rfl,rfl⟩
     ·replace h:=of_false h hb
      refine AWp.keepTo [0,2,8] 0 ⟨[(0,q0 v1),(2,q6 v3),(8,tI v4.1)],[]⟩ ?_ z0 ?_
      ·kernel_rfl
      refine AWp.skip ?_
      refine AWp.seq ?_
      refine AWp.seq ?_
      refine AWp.start [0,1] [2,3,4] [] [0,2,54,55] 0 ⟨[(0,q0 v1),(2,q6 v3),(54,q0 v1),(55,tI v4.1)],[]⟩ rfl ?_ z0 trivial ?_
      ·kernel_rfl
      obtain ⟨v10,hv10,h⟩:=of_bind h
      refine AOps.cons (AOne.callP (F:=(FF 76 0)) _ rfl rfl rfl _ rfl rfl _ _ rfl Tryz.call25 [q0 v1,tI v4.1] rfl rfl (f25_ok v1 v4.1 hv10) rfl) ?_
      refine AOps.freezeL 56 (cInt .i64) v10 rfl (fun _=>rfl) ?_
      refine AOps.go [3,4] [] [] [0,2,56,57,58] 0 ⟨[(0,q0 v1),(2,q6 v3),(56,q3 v10),(57,tI (v10.length:Int)),(58,tI (0:Int))],[]⟩ ?_ z0 trivial ?_
      ·kernel_rfl
      refine AOps.nil ?_
      refine AWp.block ?_
      obtain ⟨y,hy,h⟩:=of_bind h
      refine AWp.mono (AWp.loop (S:=Int) (Y:=Out (Int × Int) Unit) (fun s=>⟨[(0,q0 v1),(2,q6 v3),(56,q3 v10),(57,tI (v10.length:Int)),(58,tI s)],[]⟩) (fun s=>f15_b2 v1 v3 v10 s) (fun y e σ=>match y with | .ret r=>e = .ret ∧ σ = ⟨[(6,tI r.1),(7,tI r.2)],[]⟩ | .go v=>e = .exit 2 ∧ σ = ⟨[(2,q6 v3)],[]⟩) ?_ hy) ?_
      ·rintro v11 o h
       refine AWp.seq ?_
       refine AWp.start [0] [] [] [0,2,56,57,58,59] 0 ⟨[(0,q0 v1),(2,q6 v3),(56,q3 v10),(57,tI (v10.length:Int)),(58,tI v11),(59,tB (decide (v11 < (v10.length:Int))))],[]⟩ rfl ?_ z0 trivial ?_
       ·kernel_rfl
       refine AOps.nil ?_
       refine AWp.seq ?_
       refine AWp.cond rfl (fun hb=>?_) fun hb=>?_
       ·replace h:=of_true h hb
        refine AWp.keepTo [0,2,56,57,58] 0 ⟨[(0,q0 v1),(2,q6 v3),(56,q3 v10),(57,tI (v10.length:Int)),(58,tI v11)],[]⟩ ?_ z0 ?_
        ·kernel_rfl
        refine AWp.skip ?_
        refine AWp.seq ?_
        refine AWp.block ?_
        refine AWp.seq ?_
        obtain ⟨hg,h⟩:=of_guard h
        refine AWp.start [0,1,2] [] [(0:Int) ≤ v11,v11 < (v10.length:Int)] [0,2,14,56,57,58] 0 ⟨[(0,q0 v1),(2,q6 v3),(14,tI (gD v10 v11)),(56,q3 v10),(57,tI (v10.length:Int)),(58,tI v11)],[]⟩ rfl ?_ z0 ⟨hg.1,hg.2⟩ ?_
        ·kernel_rfl
        refine AOps.nil ?_
        refine AWp.seq ?_
        obtain ⟨hg,h⟩:=of_guard h
        refine AWp.start [0,1,2,3,4,5,6] [7,8] [(0:Int) ≤ gD v10 v11,gD v10 v11 < (v1.length:Int)] [0,2,56,57,58,62,68] 0 ⟨[(0,q0 v1),(2,q6 v3),(56,q3 v10),(57,tI (v10.length:Int)),(58,tI v11),(62,q6 v3),(68,.agg [.bool true,.str ((v1.getD (Int.toNat (gD v10 v11)) default).f0)])],[]⟩ rfl ?_ z0 ⟨hg.1,hg.2⟩ ?_
        ·kernel_rfl
        obtain ⟨v12,hv12,h⟩:=of_bind h
        refine AOps.cons (AOne.callP (F:=(FF 76 0)) _ rfl rfl rfl _ rfl rfl _ _ rfl Tryz.call31 [q6 v3,.agg [.bool true,.str ((v1.getD (Int.toNat (gD v10 v11)) default).f0)]] rfl rfl (f31_ok v3 (T52.mk true ((v1.getD (Int.toNat (gD v10 v11)) default).f0)) hv12) rfl) ?_
        refine AOps.go [8] [] [] [0,2,15,56,57,58] 0 ⟨[(0,q0 v1),(2,q6 v3),(15,tI v12),(56,q3 v10),(57,tI (v10.length:Int)),(58,tI v11)],[]⟩ ?_ z0 trivial ?_
        ·kernel_rfl
        refine AOps.nil ?_
        refine AWp.seq ?_
        refine AWp.start [0,1] [] [] [0,2,15,56,57,58,71] 0 ⟨[(0,q0 v1),(2,q6 v3),(15,tI v12),(56,q3 v10),(57,tI (v10.length:Int)),(58,tI v11),(71,tB (decide (v12 ≥ (0:Int))))],[]⟩ rfl ?_ z0 trivial ?_
        ·kernel_rfl
        refine AOps.nil ?_
        refine AWp.cond rfl (fun hb=>?_) fun hb=>?_
        ·replace h:=of_true h hb
         refine AWp.keepTo [15] 0 ⟨[(15,tI v12)],[]⟩ ?_ z0 ?_
         ·kernel_rfl
         refine AWp.seq ?_
         refine AWp.start [0,1,2] [] [] [6,7] 0 ⟨[(6,tI v12),(7,tI (0:Int))],[]⟩ rfl ?_ z0 trivial ?_
         ·kernel_rfl
         refine AOps.nil ?_
         refine AWp.ret ?_
         cases h
         exact Or.inr ⟨_,rfl,by simp,rfl,rfl⟩
        ·replace h:=of_false h hb
         refine AWp.keepTo [0,2,56,57,58] 0 ⟨[(0,q0 v1),(2,q6 v3),(56,q3 v10),(57,tI (v10.length:Int)),(58,tI v11)],[]⟩ ?_ z0 ?_
         ·kernel_rfl
         refine AWp.skip ?_
         refine AWp.start [0,1] [] [] [0,2,56,57,58] 0 ⟨[(0,q0 v1),(2,q6 v3),(56,q3 v10),(57,tI (v10.length:Int)),(58,tI (w64 (v11 + (1:Int))))],[]⟩ rfl ?_ z0 trivial ?_
         ·kernel_rfl
         refine AOps.nil ?_
         cases h
         exact Or.inl ⟨_,rfl,rfl,rfl⟩
       ·replace h:=of_false h hb
        refine AWp.keepTo [2] 0 ⟨[(2,q6 v3)],[]⟩ ?_ z0 ?_
        ·kernel_rfl
        refine AWp.exit ?_
        cases h
        exact Or.inr ⟨_,rfl,by simp,rfl,rfl⟩
      ·intro e σ hp
       rcases y with v13 | _
       ·obtain ⟨rfl,rfl⟩:=hp
        cases h
        exact ⟨.inr rfl,rfl⟩
       ·obtain ⟨rfl,rfl⟩:=hp
        refine AWp.seq ?_
        refine AWp.start [0] [1,2,3] [] [74] 0 ⟨[(74,q6 v3)],[]⟩ rfl ?_ z0 trivial ?_
        ·kernel_rfl
        obtain ⟨v14,hv14,h⟩:=of_bind h
        refine AOps.cons (AOne.callP (F:=(FF 76 0)) _ rfl rfl rfl _ rfl rfl _ _ rfl Tryz.call32 [q6 v3,.fn 33 []] rfl rfl (f32_33_ok v3 hv14) rfl) ?_
        refine AOps.go [2,3] [] [] [6,7] 0 ⟨[(6,tI v14),(7,tI (0:Int))],[]⟩ ?_ z0 trivial ?_
        ·kernel_rfl
        refine AOps.nil ?_
        refine AWp.ret ?_
        cases h
        exact ⟨.inr rfl,rfl⟩

noncomputable def f56 (v1:List T80) (v2:T86):Option Int :=
 cond (v2.f1 == ([]:List UInt8)) (some (1:Int)) ((f29 v1 v2.f1).bind fun v3=>(f27 v1 v3).bind fun v4=>some v4)

theorem f56_ok (v1:List T80) (v2:T86) {r:Int} (h:f56 v1 v2 = some r):ACall Tryz.prog 56 [.tv (fzL 6 c80 v1),.agg [.str v2.f0,.str v2.f1,.int .i64 v2.f2]] [] (.tv (.int .i64 r)) []:=by
 refine ACall.of1 (FF 14 0) Tryz.func56 rfl Tryz.ntmps56 Tryz.results56 (zz rfl) rfl rfl ?_
 refine AWp.seq ?_
 refine AWp.start [0,1] [] [] [0,3] 1 ⟨[(0,q0 v1),(3,.pc 0 0)],[.cells 87 (c86 v2)]⟩ rfl ?_ z0 trivial ?_
 ·kernel_rfl
 refine AOps.nil ?_
 refine AWp.seq ?_
 refine AWp.seq ?_
 refine AWp.pin 0 rfl rfl ?_
 refine AWp.keepTo [0,3] 0 ⟨[(0,q0 v1),(3,.rp (c86 v2))],[]⟩ ?_ z0 ?_
 ·kernel_rfl
 refine AWp.start [0,1,2] [] [] [0,3,7] 0 ⟨[(0,q0 v1),(3,.rp (c86 v2)),(7,tB (v2.f1 == ([]:List UInt8)))],[]⟩ rfl ?_ z0 trivial ?_
 ·kernel_rfl
 refine AOps.nil ?_
 refine AWp.cond rfl (fun hb=>?_) fun hb=>?_
 ·replace h:=of_true h hb
  refine AWp.keepTo [] 0 ⟨[],[]⟩ ?_ z0 ?_
  ·kernel_rfl
  refine AWp.seq ?_
  refine AWp.start [0] [] [] [4] 0 ⟨[(4,tI (1:Int))],[]⟩ rfl ?_ z0 trivial ?_
  ·kernel_rfl
  refine AOps.nil ?_
  refine AWp.ret ?_
  cases h
  exact ⟨.inr rfl,rfl⟩
 ·replace h:=of_false h hb
  refine AWp.keepTo [0,3] 0 ⟨[(0,q0 v1),(3,.rp (c86 v2))],[]⟩ ?_ z0 ?_
  ·kernel_rfl
  refine AWp.skip ?_
  refine AWp.seq ?_
  refine AWp.start [0,1,2,3] [4,5,6] [] [8,9,11] 0 ⟨[(8,q0 v1),(9,q0 v1),(11,tS v2.f1)],[]⟩ rfl ?_ z0 trivial ?_
  ·kernel_rfl
  obtain ⟨v3,hv3,h⟩:=of_bind h
  refine AOps.cons (AOne.callP (F:=(FF 14 0)) _ rfl rfl rfl _ rfl rfl _ _ rfl Tryz.call29 [q0 v1,tS v2.f1] rfl rfl (f29_ok v1 v2.f1 hv3) rfl) ?_
  obtain ⟨v4,hv4,h⟩:=of_bind h
  refine AOps.cons (AOne.callP (F:=(FF 14 0)) _ rfl rfl rfl _ rfl rfl _ _ rfl Tryz.call27 [q0 v1,tI v3] rfl rfl (f27_ok v1 v3 hv4) rfl) ?_
  refine AOps.go [6] [] [] [4] 0 ⟨[(4,tI v4)],[]⟩ ?_ z0 trivial ?_
  ·kernel_rfl
  refine AOps.nil ?_
  refine AWp.ret ?_
  cases h
  exact ⟨.inr rfl,rfl⟩

noncomputable def f34_b1 (rc:(List T80) → Int → Int → Option (List T37)) (v1:List T80) (v2:Int) (v3:Int) (v7:Int) (v8:Int) (v10:Int) (v11:List T37) (v12:Int):Option (((List T37) × Int) ⊕ Out (List T37) (List T37)) :=
 (cond (!(((((v1.getD v2.toNat default).f3).getD v8.toNat default).f1) == ([]:List UInt8))) ((f57 (((v1.getD v2.toNat default).f3).getD v8.toNat default)).bind fun v15=>some (decide (v12 < v15))) (some false)).bind fun v14=>cond v14 ((f29 v1 ((((v1.getD v2.toNat default).f3).getD v8.toNat default).f1)).bind fun v16=>(rc v1 v16 (w64 ((w64 (v3 + v7)) + (w64 (v12 * v10))))).bind fun v17=>if (v11.length + v17.length) * 24 ≤ 140737488355328 then some (.inl (v11 ++ v17,w64 (v12 + (1:Int)))) else none) (some (.inr (.go v11)))

noncomputable def f34_b2 (rc:(List T80) → Int → Int → Option (List T37)) (v1:List T80) (v2:Int) (v3:Int) (v6:List T37) (v7:Int) (v8:Int):Option (((List T37) × Int × Int) ⊕ Out (List T37) (List T37)) :=
 cond (decide (v8 < (((v1.getD v2.toNat default).f3).length:Int))) (if (0:Int) ≤ v8 ∧ v8 < (((v1.getD v2.toNat default).f3).length:Int) then (f56 v1 (((v1.getD v2.toNat default).f3).getD v8.toNat default)).bind fun v10=>(iter (fun s=>f34_b1 rc v1 v2 v3 v7 v8 v10 s.1 s.2) (v6,(0:Int))).bind fun y=>match y with | .ret v18=>some (.inr (.ret v18)) | .go v13=>(f57 (((v1.getD v2.toNat default).f3).getD v8.toNat default)).bind fun v19=>some (.inl (v13,w64 (v7 + (w64 (v19 * v10))),w64 (v8 + (1:Int)))) else none) (some (.inr (.go v6)))

noncomputable def f34_j3 (rc:(List T80) → Int → Int → Option (List T37)) (v21:List T37):Option (List T37) :=
 some v21

noncomputable def f34_j4 (rc:(List T80) → Int → Int → Option (List T37)) (v1:List T80) (v2:Int) (v3:Int) (v4:List T37) (v5:Int):Option (List T37) :=
 (iter (fun s=>f34_b2 rc v1 v2 v3 s.1 s.2.1 s.2.2) (v4,v5,(0:Int))).bind fun y=>match y with | .ret v20=>some v20 | .go v9=>cond (!(((v1.getD v2.toNat default).f1) == ([]:List UInt8))) ((f29 v1 ((v1.getD v2.toNat default).f1)).bind fun v22=>(rc v1 v22 v3).bind fun v23=>if (v9.length + v23.length) * 24 ≤ 140737488355328 then f34_j3 rc (v9 ++ v23) else none) (f34_j3 rc v9)

noncomputable def f34_j5 (rc:(List T80) → Int → Int → Option (List T37)) (v1:List T80) (v2:Int) (v3:Int) (v4:List T37):Option (List T37) :=
 cond (!(((v1.getD v2.toNat default).f1) == ([]:List UInt8))) ((f29 v1 ((v1.getD v2.toNat default).f1)).bind fun v24=>(f27 v1 v24).bind fun v25=>f34_j4 rc v1 v2 v3 v4 v25) (f34_j4 rc v1 v2 v3 v4 (0:Int))

noncomputable def f34F (rc:(List T80) → Int → Int → Option (List T37)) (v1:List T80) (v2:Int) (v3:Int):Option (List T37) :=
 if (0:Int) ≤ v2 ∧ v2 < (v1.length:Int) then cond (!(((v1.getD v2.toNat default).f5) == ([]:List UInt8))) (if (0 + [T37.mk ((v1.getD v2.toNat default).f5) v3].length) * 24 ≤ 140737488355328 then f34_j5 rc v1 v2 v3 [T37.mk ((v1.getD v2.toNat default).f5) v3] else none) (f34_j5 rc v1 v2 v3 []) else none

theorem f34F_ok (rc:(List T80) → Int → Int → Option (List T37)) (rc_ok:∀ (v1:List T80) (v2:Int) (v3:Int) {r:(List T37)},rc v1 v2 v3 = some r → ACall Tryz.prog 34 [.tv (fzL 6 c80 v1),.tv (.int .i64 v2),.tv (.int .i64 v3)] [] (.tv (ownL 2 38 c37 r)) []) (v1:List T80) (v2:Int) (v3:Int) {r:(List T37)} (h:f34F rc v1 v2 v3 = some r):ACall Tryz.prog 34 [.tv (fzL 6 c80 v1),.tv (.int .i64 v2),.tv (.int .i64 v3)] [] (.tv (ownL 2 38 c37 r)) []:=by
 refine ACall.of1 (FF 93 0) Tryz.func34 rfl Tryz.ntmps34 Tryz.results34 (zz rfl) rfl rfl ?_
 refine AWp.seq ?_
 refine AWp.start [0] [] [] [0,1,2] 0 ⟨[(0,q0 v1),(1,tI v2),(2,tI v3)],[]⟩ rfl ?_ z0 trivial ?_
 ·kernel_rfl
 refine AOps.nil ?_
 refine AWp.seq ?_
 obtain ⟨hg,h⟩:=of_guard h
 refine AWp.start [0,1,2,3,4,5] [] [(0:Int) ≤ v2,v2 < (v1.length:Int)] [0,2,7] 1 ⟨[(0,q0 v1),(2,tI v3),(7,.pc 0 0)],[.cells 81 (c80 (gD v1 v2))]⟩ rfl ?_ z0 ⟨hg.1,hg.2⟩ ?_
 ·kernel_rfl
 refine AOps.nil ?_
 refine AWp.seq ?_
 refine AWp.pin 0 rfl rfl ?_
 refine AWp.keepTo [0,2,7] 0 ⟨[(0,q0 v1),(2,tI v3),(7,.rp (c80 (gD v1 v2)))],[]⟩ ?_ z0 ?_
 ·kernel_rfl
 refine AWp.start [0] [] [] [0,2,7,8] 0 ⟨[(0,q0 v1),(2,tI v3),(7,.rp (c80 (gD v1 v2))),(8,.tv (.sc (.slice none 0 0)))],[]⟩ rfl ?_ z0 trivial ?_
 ·kernel_rfl
 refine AOps.nil ?_
 refine AWp.join (V:=(List T37)) (fun w=>⟨[(0,q0 v1),(2,tI v3),(7,.rp (c80 (gD v1 v2))),(8,.tv (ownL 2 38 c37 w))],[]⟩) (fun w=>f34_j5 rc v1 v2 v3 w = some r) ?_ ?_
 ·refine AWp.seq ?_
  refine AWp.start [0,1,2] [] [] [0,2,7,8,20] 0 ⟨[(0,q0 v1),(2,tI v3),(7,.rp (c80 (gD v1 v2))),(8,.tv (.sc (.slice none 0 0))),(20,tB (!(((gD v1 v2).f5) == ([]:List UInt8))))],[]⟩ rfl ?_ z0 trivial ?_
  ·kernel_rfl
  refine AOps.nil ?_
  refine AWp.cond rfl (fun hb=>?_) fun hb=>?_
  ·replace h:=of_true h hb
   refine AWp.keepTo [0,2,7,8] 0 ⟨[(0,q0 v1),(2,tI v3),(7,.rp (c80 (gD v1 v2))),(8,.tv (.sc (.slice none 0 0)))],[]⟩ ?_ z0 ?_
   ·kernel_rfl
   refine AWp.start [0,1,2,3,4,5] [6,7] [] [0,2,7,21,26] 0 ⟨[(0,q0 v1),(2,tI v3),(7,.rp (c80 (gD v1 v2))),(21,.tv (.sc (.slice none 0 0))),(26,.tv (.own 2 38 1 (newRowF [.str ((gD v1 v2).f5),.int .i64 v3] 2)))],[]⟩ rfl ?_ z0 trivial ?_
   ·kernel_rfl
   refine AOps.extL 26 c37 [T37.mk ((gD v1 v2).f5) v3] rfl rfl (row_at c37 2 (fun _=>rfl) [T37.mk ((gD v1 v2).f5) v3] _ rfl) ?_
   obtain ⟨hg,h⟩:=of_guard h
   refine AOps.go [6] [7] [(0 + [T37.mk ((gD v1 v2).f5) v3].length) * 24 ≤ 140737488355328,PlainTo 0 (fun _=>[]),PlainTo ([T37.mk ((gD v1 v2).f5) v3].length) (fun i=>c37 ([T37.mk ((gD v1 v2).f5) v3].getD i default))] [0,2,7,27] 0 ⟨[(0,q0 v1),(2,tI v3),(7,.rp (c80 (gD v1 v2))),(27,.tv (.own 2 38 (0 + [T37.mk ((gD v1 v2).f5) v3].length) (appF 0 (fun _=>[]) (fun i=>c37 ([T37.mk ((gD v1 v2).f5) v3].getD i default)))))],[]⟩ ?_ z0 ⟨hg,(fun _ _=>rfl),(fun _ _=>rfl)⟩ ?_
   ·kernel_rfl
   refine AOps.extL 27 c37 [T37.mk ((gD v1 v2).f5) v3] rfl (by simp) (app_nil c37 [T37.mk ((gD v1 v2).f5) v3]) ?_
   refine AOps.go [7] [] [] [0,2,7,8] 0 ⟨[(0,q0 v1),(2,tI v3),(7,.rp (c80 (gD v1 v2))),(8,.tv (ownL 2 38 c37 [T37.mk ((gD v1 v2).f5) v3]))],[]⟩ ?_ z0 trivial ?_
   ·kernel_rfl
   refine AOps.nil ?_
   exact ⟨[T37.mk ((gD v1 v2).f5) v3],h,rfl⟩
  ·replace h:=of_false h hb
   refine AWp.keepTo [0,2,7,8] 0 ⟨[(0,q0 v1),(2,tI v3),(7,.rp (c80 (gD v1 v2))),(8,.tv (.sc (.slice none 0 0)))],[]⟩ ?_ z0 ?_
   ·kernel_rfl
   refine AWp.nilOwn 8 2 38 (fun i=>c37 (([]:List T37).getD i default)) rfl ?_
   refine AWp.keepTo [0,2,7,8] 0 ⟨[(0,q0 v1),(2,tI v3),(7,.rp (c80 (gD v1 v2))),(8,.tv (ownL 2 38 c37 ([]:List T37)))],[]⟩ ?_ z0 ?_
   ·kernel_rfl
   refine AWp.skip ?_
   exact ⟨[],h,rfl⟩
 ·rintro v4 h
  refine AWp.seq ?_
  refine AWp.start [0] [] [] [0,2,7,8,9] 0 ⟨[(0,q0 v1),(2,tI v3),(7,.rp (c80 (gD v1 v2))),(8,.tv (ownL 2 38 c37 v4)),(9,tI (0:Int))],[]⟩ rfl ?_ z0 trivial ?_
  ·kernel_rfl
  refine AOps.nil ?_
  refine AWp.join (V:=Int) (fun w=>⟨[(0,q0 v1),(2,tI v3),(7,.rp (c80 (gD v1 v2))),(8,.tv (ownL 2 38 c37 v4)),(9,tI w)],[]⟩) (fun w=>f34_j4 rc v1 v2 v3 v4 w = some r) ?_ ?_
  ·refine AWp.seq ?_
   refine AWp.start [0,1,2] [] [] [0,2,7,8,9,30] 0 ⟨[(0,q0 v1),(2,tI v3),(7,.rp (c80 (gD v1 v2))),(8,.tv (ownL 2 38 c37 v4)),(9,tI (0:Int)),(30,tB (!(((gD v1 v2).f1) == ([]:List UInt8))))],[]⟩ rfl ?_ z0 trivial ?_
   ·kernel_rfl
   refine AOps.nil ?_
   refine AWp.cond rfl (fun hb=>?_) fun hb=>?_
   ·replace h:=of_true h hb
    refine AWp.keepTo [0,2,7,8] 0 ⟨[(0,q0 v1),(2,tI v3),(7,.rp (c80 (gD v1 v2))),(8,.tv (ownL 2 38 c37 v4))],[]⟩ ?_ z0 ?_
    ·kernel_rfl
    refine AWp.start [0,1,2,3] [4,5,6] [] [0,2,7,8,31,32,34] 0 ⟨[(0,q0 v1),(2,tI v3),(7,.rp (c80 (gD v1 v2))),(8,.tv (ownL 2 38 c37 v4)),(31,q0 v1),(32,q0 v1),(34,tS ((gD v1 v2).f1))],[]⟩ rfl ?_ z0 trivial ?_
    ·kernel_rfl
    obtain ⟨v24,hv24,h⟩:=of_bind h
    refine AOps.cons (AOne.callP (F:=(FF 93 0)) _ rfl rfl rfl _ rfl rfl _ _ rfl Tryz.call29 [q0 v1,tS ((gD v1 v2).f1)] rfl rfl (f29_ok v1 ((gD v1 v2).f1) hv24) rfl) ?_
    obtain ⟨v25,hv25,h⟩:=of_bind h
    refine AOps.cons (AOne.callP (F:=(FF 93 0)) _ rfl rfl rfl _ rfl rfl _ _ rfl Tryz.call27 [q0 v1,tI v24] rfl rfl (f27_ok v1 v24 hv25) rfl) ?_
    refine AOps.go [6] [] [] [0,2,7,8,9] 0 ⟨[(0,q0 v1),(2,tI v3),(7,.rp (c80 (gD v1 v2))),(8,.tv (ownL 2 38 c37 v4)),(9,tI v25)],[]⟩ ?_ z0 trivial ?_
    ·kernel_rfl
    refine AOps.nil ?_
    exact ⟨v25,h,rfl⟩
   ·replace h:=of_false h hb
    refine AWp.keepTo [0,2,7,8,9] 0 ⟨[(0,q0 v1),(2,tI v3),(7,.rp (c80 (gD v1 v2))),(8,.tv (ownL 2 38 c37 v4)),(9,tI (0:Int))],[]⟩ ?_ z0 ?_
    ·kernel_rfl
    refine AWp.skip ?_
    exact ⟨(0:Int),h,rfl⟩
  ·rintro v5 h
   refine AWp.seq ?_
   refine AWp.seq ?_
   refine AWp.start [0,1,2,3] [] [] [0,2,7,8,9,38,39,40] 0 ⟨[(0,q0 v1),(2,tI v3),(7,.rp (c80 (gD v1 v2))),(8,.tv (ownL 2 38 c37 v4)),(9,tI v5),(38,q1 ((gD v1 v2).f3)),(39,tI (((gD v1 v2).f3).length:Int)),(40,tI (0:Int))],[]⟩ rfl ?_ z0 trivial ?_
   ·kernel_rfl
   refine AOps.nil ?_
   refine AWp.block ?_
   obtain ⟨y,hy,h⟩:=of_bind h
   refine AWp.mono (AWp.loop (S:=(List T37) × Int × Int) (Y:=Out (List T37) (List T37)) (fun s=>⟨[(0,q0 v1),(2,tI v3),(7,.rp (c80 (gD v1 v2))),(8,.tv (ownL 2 38 c37 s.1)),(9,tI s.2.1),(38,q1 ((gD v1 v2).f3)),(39,tI (((gD v1 v2).f3).length:Int)),(40,tI s.2.2)],[]⟩) (fun s=>f34_b2 rc v1 v2 v3 s.1 s.2.1 s.2.2) (fun y e σ=>match y with | .ret r=>e = .ret ∧ σ = ⟨[(6,.tv (ownL 2 38 c37 r))],[]⟩ | .go v=>e = .exit 0 ∧ σ = ⟨[(0,q0 v1),(2,tI v3),(7,.rp (c80 (gD v1 v2))),(8,.tv (ownL 2 38 c37 v))],[]⟩) ?_ hy) ?_
   ·rintro ⟨v6,v7,v8⟩ o h
    refine AWp.seq ?_
    refine AWp.start [0] [] [] [0,2,7,8,9,38,39,40,41] 0 ⟨[(0,q0 v1),(2,tI v3),(7,.rp (c80 (gD v1 v2))),(8,.tv (ownL 2 38 c37 v6)),(9,tI v7),(38,q1 ((gD v1 v2).f3)),(39,tI (((gD v1 v2).f3).length:Int)),(40,tI v8),(41,tB (decide (v8 < (((gD v1 v2).f3).length:Int))))],[]⟩ rfl ?_ z0 trivial ?_
    ·kernel_rfl
    refine AOps.nil ?_
    refine AWp.seq ?_
    refine AWp.cond rfl (fun hb=>?_) fun hb=>?_
    ·replace h:=of_true h hb
     refine AWp.keepTo [0,2,7,8,9,38,39,40] 0 ⟨[(0,q0 v1),(2,tI v3),(7,.rp (c80 (gD v1 v2))),(8,.tv (ownL 2 38 c37 v6)),(9,tI v7),(38,q1 ((gD v1 v2).f3)),(39,tI (((gD v1 v2).f3).length:Int)),(40,tI v8)],[]⟩ ?_ z0 ?_
     ·kernel_rfl
     refine AWp.skip ?_
     refine AWp.seq ?_
     refine AWp.block ?_
     refine AWp.seq ?_
     obtain ⟨hg,h⟩:=of_guard h
     refine AWp.start [0,1,2,3] [] [(0:Int) ≤ v8,v8 < (((gD v1 v2).f3).length:Int)] [0,2,7,8,9,11,38,39,40] 1 ⟨[(0,q0 v1),(2,tI v3),(7,.rp (c80 (gD v1 v2))),(8,.tv (ownL 2 38 c37 v6)),(9,tI v7),(11,.pc 0 0),(38,q1 ((gD v1 v2).f3)),(39,tI (((gD v1 v2).f3).length:Int)),(40,tI v8)],[.cells 87 (c86 (gD ((gD v1 v2).f3) v8))]⟩ rfl ?_ z0 ⟨hg.1,hg.2⟩ ?_
     ·kernel_rfl
     refine AOps.nil ?_
     refine AWp.seq ?_
     refine AWp.pin 0 rfl rfl ?_
     refine AWp.keepTo [0,2,7,8,9,11,38,39,40] 0 ⟨[(0,q0 v1),(2,tI v3),(7,.rp (c80 (gD v1 v2))),(8,.tv (ownL 2 38 c37 v6)),(9,tI v7),(11,.rp (c86 (gD ((gD v1 v2).f3) v8))),(38,q1 ((gD v1 v2).f3)),(39,tI (((gD v1 v2).f3).length:Int)),(40,tI v8)],[]⟩ ?_ z0 ?_
     ·kernel_rfl
     refine AWp.start [0,1] [2,3] [] [0,2,7,8,9,11,38,39,40,44,45] 0 ⟨[(0,q0 v1),(2,tI v3),(7,.rp (c80 (gD v1 v2))),(8,.tv (ownL 2 38 c37 v6)),(9,tI v7),(11,.rp (c86 (gD ((gD v1 v2).f3) v8))),(38,q1 ((gD v1 v2).f3)),(39,tI (((gD v1 v2).f3).length:Int)),(40,tI v8),(44,q0 v1),(45,.agg (c86 (gD ((gD v1 v2).f3) v8)))],[]⟩ rfl ?_ z0 trivial ?_
     ·kernel_rfl
     obtain ⟨v10,hv10,h⟩:=of_bind h
     refine AOps.cons (AOne.callP (F:=(FF 93 0)) _ rfl rfl rfl _ rfl rfl _ _ rfl Tryz.call56 [q0 v1,.agg (c86 (gD ((gD v1 v2).f3) v8))] rfl rfl (f56_ok v1 (gD ((gD v1 v2).f3) v8) hv10) rfl) ?_
     refine AOps.go [3] [] [] [0,2,7,8,9,11,12,38,39,40] 0 ⟨[(0,q0 v1),(2,tI v3),(7,.rp (c80 (gD v1 v2))),(8,.tv (ownL 2 38 c37 v6)),(9,tI v7),(11,.rp (c86 (gD ((gD v1 v2).f3) v8))),(12,tI v10),(38,q1 ((gD v1 v2).f3)),(39,tI (((gD v1 v2).f3).length:Int)),(40,tI v8)],[]⟩ ?_ z0 trivial ?_
     ·kernel_rfl
     refine AOps.nil ?_
     refine AWp.seq ?_
     refine AWp.seq ?_
     refine AWp.start [0] [] [] [0,2,7,8,9,11,12,13,38,39,40] 0 ⟨[(0,q0 v1),(2,tI v3),(7,.rp (c80 (gD v1 v2))),(8,.tv (ownL 2 38 c37 v6)),(9,tI v7),(11,.rp (c86 (gD ((gD v1 v2).f3) v8))),(12,tI v10),(13,tI (0:Int)),(38,q1 ((gD v1 v2).f3)),(39,tI (((gD v1 v2).f3).length:Int)),(40,tI v8)],[]⟩ rfl ?_ z0 trivial ?_
     ·kernel_rfl
     refine AOps.nil ?_
     refine AWp.block ?_
     obtain ⟨y,hy,h⟩:=of_bind h
     refine AWp.mono (AWp.loop (S:=(List T37) × Int) (Y:=Out (List T37) (List T37)) (fun s=>⟨[(0,q0 v1),(2,tI v3),(7,.rp (c80 (gD v1 v2))),(8,.tv (ownL 2 38 c37 s.1)),(9,tI v7),(11,.rp (c86 (gD ((gD v1 v2).f3) v8))),(12,tI v10),(13,tI s.2),(38,q1 ((gD v1 v2).f3)),(39,tI (((gD v1 v2).f3).length:Int)),(40,tI v8)],[]⟩) (fun s=>f34_b1 rc v1 v2 v3 v7 v8 v10 s.1 s.2) (fun y e σ=>match y with | .ret r=>e = .ret ∧ σ = ⟨[(6,.tv (ownL 2 38 c37 r))],[]⟩ | .go v=>e = .exit 2 ∧ σ = ⟨[(0,q0 v1),(2,tI v3),(7,.rp (c80 (gD v1 v2))),(8,.tv (ownL 2 38 c37 v)),(9,tI v7),(11,.rp (c86 (gD ((gD v1 v2).f3) v8))),(12,tI v10),(38,q1 ((gD v1 v2).f3)),(39,tI (((gD v1 v2).f3).length:Int)),(40,tI v8)],[]⟩) ?_ hy) ?_
     ·rintro ⟨v11,v12⟩ o h
      refine AWp.seq ?_
      refine AWp.seq ?_
      refine AWp.start [0,1,2,3] [4,5,6,7,8] [] [0,2,7,8,9,11,12,13,38,39,40,50] 0 ⟨[(0,q0 v1),(2,tI v3),(7,.rp (c80 (gD v1 v2))),(8,.tv (ownL 2 38 c37 v11)),(9,tI v7),(11,.rp (c86 (gD ((gD v1 v2).f3) v8))),(12,tI v10),(13,tI v12),(38,q1 ((gD v1 v2).f3)),(39,tI (((gD v1 v2).f3).length:Int)),(40,tI v8),(50,tB (!(((gD ((gD v1 v2).f3) v8).f1) == ([]:List UInt8))))],[]⟩ rfl ?_ z0 trivial ?_
      ·kernel_rfl
      obtain ⟨v14,hc4,h⟩:=of_bind h
      refine AOps.cut [4,5,6,7,8] [] (fun σ=>σ = ⟨[(0,q0 v1),(2,tI v3),(7,.rp (c80 (gD v1 v2))),(8,.tv (ownL 2 38 c37 v11)),(9,tI v7),(11,.rp (c86 (gD ((gD v1 v2).f3) v8))),(12,tI v10),(13,tI v12),(38,q1 ((gD v1 v2).f3)),(39,tI (((gD v1 v2).f3).length:Int)),(40,tI v8),(55,tB v14)],[]⟩) ?_ fun σ' hJ=>?_
      ·refine AOps.split (fun b=>⟨[(0,q0 v1),(2,tI v3),(7,.rp (c80 (gD v1 v2))),(8,.tv (ownL 2 38 c37 v11)),(9,tI v7),(11,.rp (c86 (gD ((gD v1 v2).f3) v8))),(12,tI v10),(13,tI v12),(38,q1 ((gD v1 v2).f3)),(39,tI (((gD v1 v2).f3).length:Int)),(40,tI v8),(50,tB b)],[]⟩) _ (fun hb=>?_) fun hb=>?_
       ·replace hc4:=of_true hc4 hb
        refine AOps.go [4,5] [6,7,8] [] [0,2,7,8,9,11,12,13,38,39,40,50,51,52] 0 ⟨[(0,q0 v1),(2,tI v3),(7,.rp (c80 (gD v1 v2))),(8,.tv (ownL 2 38 c37 v11)),(9,tI v7),(11,.rp (c86 (gD ((gD v1 v2).f3) v8))),(12,tI v10),(13,tI v12),(38,q1 ((gD v1 v2).f3)),(39,tI (((gD v1 v2).f3).length:Int)),(40,tI v8),(50,tB true),(51,tI v12),(52,.agg (c86 (gD ((gD v1 v2).f3) v8)))],[]⟩ ?_ z0 trivial ?_
        ·kernel_rfl
        obtain ⟨v15,hv15,hc4⟩:=of_bind hc4
        refine AOps.cons (AOne.callP (F:=(FF 93 0)) _ rfl rfl rfl _ rfl rfl _ _ rfl Tryz.call57 [.agg (c86 (gD ((gD v1 v2).f3) v8))] rfl rfl (f57_ok (gD ((gD v1 v2).f3) v8) hv15) rfl) ?_
        refine AOps.go [7,8] [] [] [0,2,7,8,9,11,12,13,38,39,40,55] 0 ⟨[(0,q0 v1),(2,tI v3),(7,.rp (c80 (gD v1 v2))),(8,.tv (ownL 2 38 c37 v11)),(9,tI v7),(11,.rp (c86 (gD ((gD v1 v2).f3) v8))),(12,tI v10),(13,tI v12),(38,q1 ((gD v1 v2).f3)),(39,tI (((gD v1 v2).f3).length:Int)),(40,tI v8),(55,tB (decide (v12 < v15)))],[]⟩ ?_ z0 trivial ?_
        ·kernel_rfl
        cases hc4
        exact AOps.nil rfl
       ·replace hc4:=of_false hc4 hb
        refine AOps.go [4,5,6,7,8] [] [] [0,2,7,8,9,11,12,13,38,39,40,55] 0 ⟨[(0,q0 v1),(2,tI v3),(7,.rp (c80 (gD v1 v2))),(8,.tv (ownL 2 38 c37 v11)),(9,tI v7),(11,.rp (c86 (gD ((gD v1 v2).f3) v8))),(12,tI v10),(13,tI v12),(38,q1 ((gD v1 v2).f3)),(39,tI (((gD v1 v2).f3).length:Int)),(40,tI v8),(55,tB false)],[]⟩ ?_ z0 trivial ?_
        ·kernel_rfl
        cases hc4
        exact AOps.nil rfl
      subst hJ
      refine AOps.nil ?_
      refine AWp.cond rfl (fun hb=>?_) fun hb=>?_
      ·replace h:=of_true h hb
       refine AWp.keepTo [0,2,7,8,9,11,12,13,38,39,40] 0 ⟨[(0,q0 v1),(2,tI v3),(7,.rp (c80 (gD v1 v2))),(8,.tv (ownL 2 38 c37 v11)),(9,tI v7),(11,.rp (c86 (gD ((gD v1 v2).f3) v8))),(12,tI v10),(13,tI v12),(38,q1 ((gD v1 v2).f3)),(39,tI (((gD v1 v2).f3).length:Int)),(40,tI v8)],[]⟩ ?_ z0 ?_
       ·kernel_rfl
       refine AWp.skip ?_
       refine AWp.seq ?_
       refine AWp.block ?_
       refine AWp.start [0,1,2,3,4] [5,6,7,8,9,10,11,12,13,14,15] [] [0,2,7,8,9,11,12,13,38,39,40,58,59,60,62] 0 ⟨[(0,q0 v1),(2,tI v3),(7,.rp (c80 (gD v1 v2))),(8,.tv (ownL 2 38 c37 v11)),(9,tI v7),(11,.rp (c86 (gD ((gD v1 v2).f3) v8))),(12,tI v10),(13,tI v12),(38,q1 ((gD v1 v2).f3)),(39,tI (((gD v1 v2).f3).length:Int)),(40,tI v8),(58,.al (.slot 8 0,[])),(59,q0 v1),(60,q0 v1),(62,tS ((gD ((gD v1 v2).f3) v8).f1))],[]⟩ rfl ?_ z0 trivial ?_
       ·kernel_rfl
       obtain ⟨v16,hv16,h⟩:=of_bind h
       refine AOps.cons (AOne.callP (F:=(FF 93 0)) _ rfl rfl rfl _ rfl rfl _ _ rfl Tryz.call29 [q0 v1,tS ((gD ((gD v1 v2).f3) v8).f1)] rfl rfl (f29_ok v1 ((gD ((gD v1 v2).f3) v8).f1) hv16) rfl) ?_
       refine AOps.go [6,7,8,9,10,11,12] [13,14,15] [] [0,2,7,8,9,11,12,13,38,39,40,58,59,63,70] 0 ⟨[(0,q0 v1),(2,tI v3),(7,.rp (c80 (gD v1 v2))),(8,.tv (ownL 2 38 c37 v11)),(9,tI v7),(11,.rp (c86 (gD ((gD v1 v2).f3) v8))),(12,tI v10),(13,tI v12),(38,q1 ((gD v1 v2).f3)),(39,tI (((gD v1 v2).f3).length:Int)),(40,tI v8),(58,.al (.slot 8 0,[])),(59,q0 v1),(63,tI v16),(70,tI (w64 ((w64 (v3 + v7)) + (w64 (v12 * v10)))))],[]⟩ ?_ z0 trivial ?_
       ·kernel_rfl
       obtain ⟨v17,hv17,h⟩:=of_bind h
       refine AOps.cons (AOne.callP (F:=(FF 93 0)) _ rfl rfl rfl _ rfl rfl _ _ rfl Tryz.call34 [q0 v1,tI v16,tI (w64 ((w64 (v3 + v7)) + (w64 (v12 * v10))))] rfl rfl (rc_ok v1 v16 (w64 ((w64 (v3 + v7)) + (w64 (v12 * v10)))) hv17) rfl) ?_
       obtain ⟨hg,h⟩:=of_guard h
       refine AOps.go [14] [15] [(v11.length + v17.length) * 24 ≤ 140737488355328,PlainTo v11.length (fun i=>c37 (v11.getD i default)),PlainTo v17.length (fun i=>c37 (v17.getD i default))] [0,2,7,9,11,12,13,38,39,40,72] 0 ⟨[(0,q0 v1),(2,tI v3),(7,.rp (c80 (gD v1 v2))),(9,tI v7),(11,.rp (c86 (gD ((gD v1 v2).f3) v8))),(12,tI v10),(13,tI v12),(38,q1 ((gD v1 v2).f3)),(39,tI (((gD v1 v2).f3).length:Int)),(40,tI v8),(72,.tv (.own 2 38 (v11.length + v17.length) (appF v11.length (fun i=>c37 (v11.getD i default)) (fun i=>c37 (v17.getD i default)))))],[]⟩ ?_ z0 ⟨hg,(fun _ _=>rfl),(fun _ _=>rfl)⟩ ?_
       ·kernel_rfl
       refine AOps.extL 72 c37 (v11 ++ v17) rfl List.length_append.symm (app_at c37 v11 v17) ?_
       refine AOps.go [15] [] [] [0,2,7,8,9,11,12,13,38,39,40] 0 ⟨[(0,q0 v1),(2,tI v3),(7,.rp (c80 (gD v1 v2))),(8,.tv (ownL 2 38 c37 (v11 ++ v17))),(9,tI v7),(11,.rp (c86 (gD ((gD v1 v2).f3) v8))),(12,tI v10),(13,tI v12),(38,q1 ((gD v1 v2).f3)),(39,tI (((gD v1 v2).f3).length:Int)),(40,tI v8)],[]⟩ ?_ z0 trivial ?_
       ·kernel_rfl
       refine AOps.nil ?_
       refine AWp.start [0,1,2] [] [] [0,2,7,8,9,11,12,13,38,39,40] 0 ⟨[(0,q0 v1),(2,tI v3),(7,.rp (c80 (gD v1 v2))),(8,.tv (ownL 2 38 c37 (v11 ++ v17))),(9,tI v7),(11,.rp (c86 (gD ((gD v1 v2).f3) v8))),(12,tI v10),(13,tI (w64 (v12 + (1:Int)))),(38,q1 ((gD v1 v2).f3)),(39,tI (((gD v1 v2).f3).length:Int)),(40,tI v8)],[]⟩ rfl ?_ z0 trivial ?_
       ·kernel_rfl
       refine AOps.nil ?_
       cases h
       exact Or.inl ⟨_,rfl,rfl,rfl⟩
      ·replace h:=of_false h hb
       refine AWp.keepTo [0,2,7,8,9,11,12,38,39,40] 0 ⟨[(0,q0 v1),(2,tI v3),(7,.rp (c80 (gD v1 v2))),(8,.tv (ownL 2 38 c37 v11)),(9,tI v7),(11,.rp (c86 (gD ((gD v1 v2).f3) v8))),(12,tI v10),(38,q1 ((gD v1 v2).f3)),(39,tI (((gD v1 v2).f3).length:Int)),(40,tI v8)],[]⟩ ?_ z0 ?_
       ·kernel_rfl
       refine AWp.exit ?_
       cases h
       exact Or.inr ⟨_,rfl,by simp,rfl,rfl⟩
     ·intro e σ hp
      rcases y with v18 | v13
      ·obtain ⟨rfl,rfl⟩:=hp
       cases h
       exact Or.inr ⟨_,rfl,by simp,rfl,rfl⟩
      ·obtain ⟨rfl,rfl⟩:=hp
       refine AWp.start [0,1] [2,3,4,5,6] [] [0,2,7,8,12,38,39,40,73,74] 0 ⟨[(0,q0 v1),(2,tI v3),(7,.rp (c80 (gD v1 v2))),(8,.tv (ownL 2 38 c37 v13)),(12,tI v10),(38,q1 ((gD v1 v2).f3)),(39,tI (((gD v1 v2).f3).length:Int)),(40,tI v8),(73,tI v7),(74,.agg (c86 (gD ((gD v1 v2).f3) v8)))],[]⟩ rfl ?_ z0 trivial ?_
       ·kernel_rfl
       obtain ⟨v19,hv19,h⟩:=of_bind h
       refine AOps.cons (AOne.callP (F:=(FF 93 0)) _ rfl rfl rfl _ rfl rfl _ _ rfl Tryz.call57 [.agg (c86 (gD ((gD v1 v2).f3) v8))] rfl rfl (f57_ok (gD ((gD v1 v2).f3) v8) hv19) rfl) ?_
       refine AOps.go [3,4,5,6] [] [] [0,2,7,8,9,38,39,40] 0 ⟨[(0,q0 v1),(2,tI v3),(7,.rp (c80 (gD v1 v2))),(8,.tv (ownL 2 38 c37 v13)),(9,tI (w64 (v7 + (w64 (v19 * v10))))),(38,q1 ((gD v1 v2).f3)),(39,tI (((gD v1 v2).f3).length:Int)),(40,tI v8)],[]⟩ ?_ z0 trivial ?_
       ·kernel_rfl
       refine AOps.nil ?_
       refine AWp.start [0,1] [] [] [0,2,7,8,9,38,39,40] 0 ⟨[(0,q0 v1),(2,tI v3),(7,.rp (c80 (gD v1 v2))),(8,.tv (ownL 2 38 c37 v13)),(9,tI (w64 (v7 + (w64 (v19 * v10))))),(38,q1 ((gD v1 v2).f3)),(39,tI (((gD v1 v2).f3).length:Int)),(40,tI (w64 (v8 + (1:Int))))],[]⟩ rfl ?_ z0 trivial ?_
       ·kernel_rfl
       refine AOps.nil ?_
       cases h
       exact Or.inl ⟨_,rfl,rfl,rfl⟩
    ·replace h:=of_false h hb
     refine AWp.keepTo [0,2,7,8] 0 ⟨[(0,q0 v1),(2,tI v3),(7,.rp (c80 (gD v1 v2))),(8,.tv (ownL 2 38 c37 v6))],[]⟩ ?_ z0 ?_
     ·kernel_rfl
     refine AWp.exit ?_
     cases h
     exact Or.inr ⟨_,rfl,by simp,rfl,rfl⟩
   ·intro e σ hp
    rcases y with v20 | v9
    ·obtain ⟨rfl,rfl⟩:=hp
     cases h
     exact ⟨.inr rfl,rfl⟩
    ·obtain ⟨rfl,rfl⟩:=hp
     refine AWp.join (V:=(List T37)) (fun w=>⟨[(8,.tv (ownL 2 38 c37 w))],[]⟩) (fun w=>f34_j3 rc  w = some r) ?_ ?_
     ·refine AWp.seq ?_
      refine AWp.start [0,1,2] [] [] [0,2,7,8,82] 0 ⟨[(0,q0 v1),(2,tI v3),(7,.rp (c80 (gD v1 v2))),(8,.tv (ownL 2 38 c37 v9)),(82,tB (!(((gD v1 v2).f1) == ([]:List UInt8))))],[]⟩ rfl ?_ z0 trivial ?_
      ·kernel_rfl
      refine AOps.nil ?_
      refine AWp.cond rfl (fun hb=>?_) fun hb=>?_
      ·replace h:=of_true h hb
       refine AWp.keepTo [0,2,7,8] 0 ⟨[(0,q0 v1),(2,tI v3),(7,.rp (c80 (gD v1 v2))),(8,.tv (ownL 2 38 c37 v9))],[]⟩ ?_ z0 ?_
       ·kernel_rfl
       refine AWp.start [0,1,2,3,4] [5,6,7,8,9] [] [2,8,83,84,85,87] 0 ⟨[(2,tI v3),(8,.tv (ownL 2 38 c37 v9)),(83,.al (.slot 8 0,[])),(84,q0 v1),(85,q0 v1),(87,tS ((gD v1 v2).f1))],[]⟩ rfl ?_ z0 trivial ?_
       ·kernel_rfl
       obtain ⟨v22,hv22,h⟩:=of_bind h
       refine AOps.cons (AOne.callP (F:=(FF 93 0)) _ rfl rfl rfl _ rfl rfl _ _ rfl Tryz.call29 [q0 v1,tS ((gD v1 v2).f1)] rfl rfl (f29_ok v1 ((gD v1 v2).f1) hv22) rfl) ?_
       refine AOps.go [6] [7,8,9] [] [8,83,84,88,89] 0 ⟨[(8,.tv (ownL 2 38 c37 v9)),(83,.al (.slot 8 0,[])),(84,q0 v1),(88,tI v22),(89,tI v3)],[]⟩ ?_ z0 trivial ?_
       ·kernel_rfl
       obtain ⟨v23,hv23,h⟩:=of_bind h
       refine AOps.cons (AOne.callP (F:=(FF 93 0)) _ rfl rfl rfl _ rfl rfl _ _ rfl Tryz.call34 [q0 v1,tI v22,tI v3] rfl rfl (rc_ok v1 v22 v3 hv23) rfl) ?_
       obtain ⟨hg,h⟩:=of_guard h
       refine AOps.go [8] [9] [(v9.length + v23.length) * 24 ≤ 140737488355328,PlainTo v9.length (fun i=>c37 (v9.getD i default)),PlainTo v23.length (fun i=>c37 (v23.getD i default))] [91] 0 ⟨[(91,.tv (.own 2 38 (v9.length + v23.length) (appF v9.length (fun i=>c37 (v9.getD i default)) (fun i=>c37 (v23.getD i default)))))],[]⟩ ?_ z0 ⟨hg,(fun _ _=>rfl),(fun _ _=>rfl)⟩ ?_
       ·kernel_rfl
       refine AOps.extL 91 c37 (v9 ++ v23) rfl List.length_append.symm (app_at c37 v9 v23) ?_
       refine AOps.go [9] [] [] [8] 0 ⟨[(8,.tv (ownL 2 38 c37 (v9 ++ v23)))],[]⟩ ?_ z0 trivial ?_
       ·kernel_rfl
       refine AOps.nil ?_
       exact ⟨v9 ++ v23,h,rfl⟩
      ·replace h:=of_false h hb
       refine AWp.keepTo [8] 0 ⟨[(8,.tv (ownL 2 38 c37 v9))],[]⟩ ?_ z0 ?_
       ·kernel_rfl
       refine AWp.skip ?_
       exact ⟨v9,h,rfl⟩
     ·rintro v21 h
      refine AWp.seq ?_
      refine AWp.start [0,1] [] [] [6,8] 0 ⟨[(6,.al (.slot 8 0,[])),(8,.tv (ownL 2 38 c37 v21))],[]⟩ rfl ?_ z0 trivial ?_
      ·kernel_rfl
      refine AOps.nil ?_
      refine AWp.claim 6 (.slot 8 0) (ownL 2 38 c37 v21) rfl rfl rfl rfl ?_
      refine AWp.keepTo [6] 0 ⟨[(6,.tv (ownL 2 38 c37 v21))],[]⟩ ?_ z0 ?_
      ·kernel_rfl
      refine AWp.ret ?_
      cases h
      exact ⟨.inr rfl,rfl⟩

noncomputable def f34R:Nat → (List T80) → Int → Int → Option (List T37)
 | 0=>fun _ _ _=>none
 | n + 1=>f34F (f34R n)

theorem f34R_ok:∀ (n:Nat) (v1:List T80) (v2:Int) (v3:Int) {r:(List T37)},f34R n v1 v2 v3 = some r → ACall Tryz.prog 34 [.tv (fzL 6 c80 v1),.tv (.int .i64 v2),.tv (.int .i64 v3)] [] (.tv (ownL 2 38 c37 r)) []
 | 0,_,_,_,_,h=>by cases h
 | n + 1,v1,v2,v3,_,h=>f34F_ok (f34R n) (f34R_ok n) v1 v2 v3 h

noncomputable def f34 (v1:List T80) (v2:Int) (v3:Int):Option (List T37):=f34R 100 v1 v2 v3

theorem f34_ok (v1:List T80) (v2:Int) (v3:Int) {r:(List T37)} (h:f34 v1 v2 v3 = some r):ACall Tryz.prog 34 [.tv (fzL 6 c80 v1),.tv (.int .i64 v2),.tv (.int .i64 v3)] [] (.tv (ownL 2 38 c37 r)) []:=f34R_ok 100 v1 v2 v3 h

noncomputable def f16 (v1:List T80) (v2:List UInt8):Option ((List T37) × Int) :=
 (f24 v1 v2).bind fun v3=>cond (v3.2 != (0:Int)) (some (([]:List T37),v3.2)) ((f34 v1 v3.1 (0:Int)).bind fun v4=>some (v4,(0:Int)))

theorem f16_ok (v1:List T80) (v2:List UInt8) {r:(List T37) × Int} (h:f16 v1 v2 = some r):ACall Tryz.prog 16 [.tv (fzL 6 c80 v1),.tv (.str v2)] [] (.tup [.tv (fzL 2 c37 r.1),.tv (.int .i64 r.2)]) []:=by
 refine ACall.ofN (FF 20 0) (rs:=[4,5]) (env:=[(4,.tv (fzL 2 c37 r.1)),(5,tI r.2)]) Tryz.func16 rfl Tryz.ntmps16 Tryz.results16 (by decide) (by decide) rfl (zz rfl) rfl (get_ofN _ _ _ rfl) (ok_ofN _ rfl) ?_
 refine AWp.seq ?_
 refine AWp.start [0,1] [] [] [0,1] 0 ⟨[(0,q0 v1),(1,tS v2)],[]⟩ rfl ?_ z0 trivial ?_
 ·kernel_rfl
 refine AOps.nil ?_
 refine AWp.seq ?_
 refine AWp.start [0,1] [2,3,4,5,6,7] [] [0,9,10] 0 ⟨[(0,q0 v1),(9,q0 v1),(10,tS v2)],[]⟩ rfl ?_ z0 trivial ?_
 ·kernel_rfl
 obtain ⟨v3,hv3,h⟩:=of_bind h
 refine AOps.cons (AOne.callP (F:=(FF 20 0)) _ rfl rfl rfl _ rfl rfl _ _ rfl Tryz.call24 [q0 v1,tS v2] rfl rfl (f24_ok v1 v2 hv3) rfl) ?_
 refine AOps.go [3,4,5,6,7] [] [] [0,6,7] 0 ⟨[(0,q0 v1),(6,tI v3.1),(7,tI v3.2)],[]⟩ ?_ z0 trivial ?_
 ·kernel_rfl
 refine AOps.nil ?_
 refine AWp.seq ?_
 refine AWp.seq ?_
 refine AWp.start [0,1] [] [] [0,6,7,15] 0 ⟨[(0,q0 v1),(6,tI v3.1),(7,tI v3.2),(15,tB (v3.2 != (0:Int)))],[]⟩ rfl ?_ z0 trivial ?_
 ·kernel_rfl
 refine AOps.nil ?_
 refine AWp.cond rfl (fun hb=>?_) fun hb=>?_
 ·replace h:=of_true h hb
  refine AWp.keepTo [7] 0 ⟨[(7,tI v3.2)],[]⟩ ?_ z0 ?_
  ·kernel_rfl
  refine AWp.seq ?_
  refine AWp.start [0,1,2] [] [] [4,5] 0 ⟨[(4,.tv (.sc (.slice none 0 0))),(5,tI v3.2)],[]⟩ rfl ?_ z0 trivial ?_
  ·kernel_rfl
  refine AOps.nil ?_
  refine AWp.nilFz 4 2 (fun i=>c37 (([]:List T37).getD i default)) rfl ?_
  refine AWp.keepTo [4,5] 0 ⟨[(4,.tv (fzL 2 c37 ([]:List T37))),(5,tI v3.2)],[]⟩ ?_ z0 ?_
  ·kernel_rfl
  refine AWp.ret ?_
  cases h
  exact ⟨.inr rfl,rfl⟩
 ·replace h:=of_false h hb
  refine AWp.keepTo [0,6] 0 ⟨[(0,q0 v1),(6,tI v3.1)],[]⟩ ?_ z0 ?_
  ·kernel_rfl
  refine AWp.skip ?_
  refine AWp.seq ?_
  refine AWp.start [0,1] [2,3,4] [] [17,18] 0 ⟨[(17,q0 v1),(18,tI v3.1)],[]⟩ rfl ?_ z0 trivial ?_
  ·kernel_rfl
  obtain ⟨v4,hv4,h⟩:=of_bind h
  refine AOps.cons (AOne.callP (F:=(FF 20 0)) _ rfl rfl rfl _ rfl rfl _ _ rfl Tryz.call34 [q0 v1,tI v3.1,tI (0:Int)] rfl rfl (f34_ok v1 v3.1 (0:Int) hv4) rfl) ?_
  refine AOps.go [3,4] [] [] [4,5] 0 ⟨[(4,.tv (ownL 2 38 c37 v4)),(5,tI (0:Int))],[]⟩ ?_ z0 trivial ?_
  ·kernel_rfl
  refine AOps.nil ?_
  refine AWp.freezeL 4 c37 v4 rfl (fun _=>rfl) ?_
  refine AWp.keepTo [4,5] 0 ⟨[(4,.tv (fzL 2 c37 v4)),(5,tI (0:Int))],[]⟩ ?_ z0 ?_
  ·kernel_rfl
  refine AWp.ret ?_
  cases h
  exact ⟨.inr rfl,rfl⟩

noncomputable def f4_b1 (v1:List T80) (v2:List UInt8) (v3:List UInt8) (v5:(List (List UInt8)) × Int) (v7:(List UInt8) × Int) (v8:Int × Int) (v9:(List T86) × Int) (v10:List T52) (v11:Int):Option (((List T52) × Int) ⊕ Out Bool (List T52)) :=
 cond (decide (v11 ≥ (0:Int))) (if (0:Int) ≤ v11 ∧ v11 < (v5.1.length:Int) then if (v10.length + [T52.mk true (v5.1.getD v11.toNat default)].length) * 24 ≤ 140737488355328 then if (0:Int) ≤ v11 ∧ v11 < (v5.1.length:Int) then (f11 v1 (v5.1.getD v11.toNat default)).bind fun v13=>if (0:Int) ≤ v11 ∧ v11 < (v5.1.length:Int) then (f12 v1 (v5.1.getD v11.toNat default)).bind fun v14=>(cond (v13.2 != (0:Int)) (some true) (some (v14.2 != (0:Int)))).bind fun v15=>(cond v15 (some true) (some (decide (v13.1 > v8.1)))).bind fun v16=>(cond v16 (some true) (some (decide ((v14.1.length:Int) > (v9.1.length:Int))))).bind fun v17=>(cond v17 (some true) (if (v14.1.length:Int) ≤ (v9.1.length:Int) then (f13 ((v9.1.take (Int.toNat (v14.1.length:Int))).drop 0) v14.1).bind fun v19=>some (!v19) else none)).bind fun v18=>cond v18 (some (.inr (.ret false))) (if (0:Int) ≤ v11 ∧ v11 < (v5.1.length:Int) then (f14 v1 (v5.1.getD v11.toNat default) v2 v3).bind fun v20=>(cond (v20.2 == (0:Int)) ((cond (v7.2 != (0:Int)) (some true) (some (!(v20.1 == v7.1)))).bind fun v22=>some v22) (some false)).bind fun v21=>cond v21 (some (.inr (.ret false))) (some (.inl (v10 ++ [T52.mk true (v5.1.getD v11.toNat default)],w64 (v11 - (1:Int))))) else none) else none else none else none else none) (some (.inr (.go v10)))

noncomputable def f4_b2 (v8:Int × Int) (v27:(List T37) × Int) (v28:Int):Option (Int ⊕ Out Bool Unit) :=
 cond (decide (v28 < (v27.1.length:Int))) (if (0:Int) ≤ v28 ∧ v28 < (v27.1.length:Int) then (cond (decide ((v27.1.getD v28.toNat default).f1 < (0:Int))) (some true) (if (0:Int) ≤ v28 ∧ v28 < (v27.1.length:Int) then some (decide ((v27.1.getD v28.toNat default).f1 > v8.1)) else none)).bind fun v29=>cond v29 (some (.inr (.ret false))) (some (.inl (w64 (v28 + (1:Int))))) else none) (some (.inr (.go ())))

noncomputable def f4 (v1:List T80) (v2:List UInt8) (v3:List UInt8):Option Bool :=
 cond (decide ((v1.length:Int) > (40:Int))) ((f5 ).bind fun v4=>some v4) ((f9 v1 v2).bind fun v5=>cond (v5.2 != (0:Int)) ((f5 ).bind fun v6=>some v6) ((f10 v1 v2 v3).bind fun v7=>(f11 v1 v2).bind fun v8=>(f12 v1 v2).bind fun v9=>(iter (fun s=>f4_b1 v1 v2 v3 v5 v7 v8 v9 s.1 s.2) ([],w64 ((v5.1.length:Int) - (1:Int)))).bind fun y=>match y with | .ret v23=>some v23 | .go v12=>(f15 v1 v2 v12).bind fun v24=>(cond (v24.2 != (70:Int)) ((cond (v24.2 != (0:Int)) (some true) (some (v24.1 != w64 ((v12.length:Int) - (1:Int))))).bind fun v26=>some v26) (some false)).bind fun v25=>cond v25 (some false) ((f16 v1 v2).bind fun v27=>(iter (fun s=>f4_b2 v8 v27 s) (0:Int)).bind fun y=>match y with | .ret v30=>some v30 | .go _=>(cond (v27.2 == (0:Int)) ((f5 ).bind fun v32=>some v32) (some false)).bind fun v31=>some v31)))

theorem f4_ok (v1:List T80) (v2:List UInt8) (v3:List UInt8) {r:Bool} (h:f4 v1 v2 v3 = some r):ACall Tryz.prog 4 [.tv (fzL 6 c80 v1),.tv (.str v2),.tv (.str v3)] [] (.tv (.bool r)) []:=by
 refine ACall.of1 (FF 191 0) Tryz.func4 rfl Tryz.ntmps4 Tryz.results4 (zz rfl) rfl rfl ?_
 refine AWp.seq ?_
 refine AWp.start [0] [] [] [0,1,2] 0 ⟨[(0,q0 v1),(1,tS v2),(2,tS v3)],[]⟩ rfl ?_ z0 trivial ?_
 ·kernel_rfl
 refine AOps.nil ?_
 refine AWp.seq ?_
 refine AWp.seq ?_
 refine AWp.start [0,1,2] [] [] [0,1,2,27] 0 ⟨[(0,q0 v1),(1,tS v2),(2,tS v3),(27,tB (decide ((v1.length:Int) > (40:Int))))],[]⟩ rfl ?_ z0 trivial ?_
 ·kernel_rfl
 refine AOps.nil ?_
 refine AWp.cond rfl (fun hb=>?_) fun hb=>?_
 ·replace h:=of_true h hb
  refine AWp.keepTo [] 0 ⟨[],[]⟩ ?_ z0 ?_
  ·kernel_rfl
  refine AWp.seq ?_
  refine AWp.start [] [0,1] [] [] 0 ⟨[],[]⟩ rfl ?_ z0 trivial ?_
  ·kernel_rfl
  obtain ⟨v4,hv4,h⟩:=of_bind h
  refine AOps.cons (AOne.callP (F:=(FF 191 0)) _ rfl rfl rfl _ rfl rfl _ _ rfl Tryz.call5 [] rfl rfl (f5_ok  hv4) rfl) ?_
  refine AOps.go [1] [] [] [6] 0 ⟨[(6,tB v4)],[]⟩ ?_ z0 trivial ?_
  ·kernel_rfl
  refine AOps.nil ?_
  refine AWp.ret ?_
  cases h
  exact ⟨.inr rfl,rfl⟩
 ·replace h:=of_false h hb
  refine AWp.keepTo [0,1,2] 0 ⟨[(0,q0 v1),(1,tS v2),(2,tS v3)],[]⟩ ?_ z0 ?_
  ·kernel_rfl
  refine AWp.skip ?_
  refine AWp.seq ?_
  refine AWp.start [0,1] [2,3,4,5,6,7] [] [0,1,2,30,31] 0 ⟨[(0,q0 v1),(1,tS v2),(2,tS v3),(30,q0 v1),(31,tS v2)],[]⟩ rfl ?_ z0 trivial ?_
  ·kernel_rfl
  obtain ⟨v5,hv5,h⟩:=of_bind h
  refine AOps.cons (AOne.callP (F:=(FF 191 0)) _ rfl rfl rfl _ rfl rfl _ _ rfl Tryz.call9 [q0 v1,tS v2] rfl rfl (f9_ok v1 v2 hv5) rfl) ?_
  refine AOps.go [3,4,5,6,7] [] [] [0,1,2,7,8] 0 ⟨[(0,q0 v1),(1,tS v2),(2,tS v3),(7,q4 v5.1),(8,tI v5.2)],[]⟩ ?_ z0 trivial ?_
  ·kernel_rfl
  refine AOps.nil ?_
  refine AWp.seq ?_
  refine AWp.seq ?_
  refine AWp.start [0,1] [] [] [0,1,2,7,36] 0 ⟨[(0,q0 v1),(1,tS v2),(2,tS v3),(7,q4 v5.1),(36,tB (v5.2 != (0:Int)))],[]⟩ rfl ?_ z0 trivial ?_
  ·kernel_rfl
  refine AOps.nil ?_
  refine AWp.cond rfl (fun hb=>?_) fun hb=>?_
  ·replace h:=of_true h hb
   refine AWp.keepTo [] 0 ⟨[],[]⟩ ?_ z0 ?_
   ·kernel_rfl
   refine AWp.seq ?_
   refine AWp.start [] [0,1] [] [] 0 ⟨[],[]⟩ rfl ?_ z0 trivial ?_
   ·kernel_rfl
   obtain ⟨v6,hv6,h⟩:=of_bind h
   refine AOps.cons (AOne.callP (F:=(FF 191 0)) _ rfl rfl rfl _ rfl rfl _ _ rfl Tryz.call5 [] rfl rfl (f5_ok  hv6) rfl) ?_
   refine AOps.go [1] [] [] [6] 0 ⟨[(6,tB v6)],[]⟩ ?_ z0 trivial ?_
   ·kernel_rfl
   refine AOps.nil ?_
   refine AWp.ret ?_
   cases h
   exact ⟨.inr rfl,rfl⟩
  ·replace h:=of_false h hb
   refine AWp.keepTo [0,1,2,7] 0 ⟨[(0,q0 v1),(1,tS v2),(2,tS v3),(7,q4 v5.1)],[]⟩ ?_ z0 ?_
   ·kernel_rfl
   refine AWp.skip ?_
   refine AWp.seq ?_
   refine AWp.start [0,1,2] [3,4,5,6,7,8] [] [0,1,2,7,39,40,41] 0 ⟨[(0,q0 v1),(1,tS v2),(2,tS v3),(7,q4 v5.1),(39,q0 v1),(40,tS v2),(41,tS v3)],[]⟩ rfl ?_ z0 trivial ?_
   ·kernel_rfl
   obtain ⟨v7,hv7,h⟩:=of_bind h
   refine AOps.cons (AOne.callP (F:=(FF 191 0)) _ rfl rfl rfl _ rfl rfl _ _ rfl Tryz.call10 [q0 v1,tS v2,tS v3] rfl rfl (f10_ok v1 v2 v3 hv7) rfl) ?_
   refine AOps.go [4,5,6,7,8] [] [] [0,1,2,7,9,10] 0 ⟨[(0,q0 v1),(1,tS v2),(2,tS v3),(7,q4 v5.1),(9,tS v7.1),(10,tI v7.2)],[]⟩ ?_ z0 trivial ?_
   ·kernel_rfl
   refine AOps.nil ?_
   refine AWp.seq ?_
   refine AWp.start [0,1] [2,3,4,5,6,7] [] [0,1,2,7,9,10,46,47] 0 ⟨[(0,q0 v1),(1,tS v2),(2,tS v3),(7,q4 v5.1),(9,tS v7.1),(10,tI v7.2),(46,q0 v1),(47,tS v2)],[]⟩ rfl ?_ z0 trivial ?_
   ·kernel_rfl
   obtain ⟨v8,hv8,h⟩:=of_bind h
   refine AOps.cons (AOne.callP (F:=(FF 191 0)) _ rfl rfl rfl _ rfl rfl _ _ rfl Tryz.call11 [q0 v1,tS v2] rfl rfl (f11_ok v1 v2 hv8) rfl) ?_
   refine AOps.go [3,4,5,6,7] [] [] [0,1,2,7,9,10,11] 0 ⟨[(0,q0 v1),(1,tS v2),(2,tS v3),(7,q4 v5.1),(9,tS v7.1),(10,tI v7.2),(11,tI v8.1)],[]⟩ ?_ z0 trivial ?_
   ·kernel_rfl
   refine AOps.nil ?_
   refine AWp.seq ?_
   refine AWp.start [0,1] [2,3,4,5,6,7] [] [0,1,2,7,9,10,11,52,53] 0 ⟨[(0,q0 v1),(1,tS v2),(2,tS v3),(7,q4 v5.1),(9,tS v7.1),(10,tI v7.2),(11,tI v8.1),(52,q0 v1),(53,tS v2)],[]⟩ rfl ?_ z0 trivial ?_
   ·kernel_rfl
   obtain ⟨v9,hv9,h⟩:=of_bind h
   refine AOps.cons (AOne.callP (F:=(FF 191 0)) _ rfl rfl rfl _ rfl rfl _ _ rfl Tryz.call12 [q0 v1,tS v2] rfl rfl (f12_ok v1 v2 hv9) rfl) ?_
   refine AOps.go [3,4,5,6,7] [] [] [0,1,2,7,9,10,11,13] 0 ⟨[(0,q0 v1),(1,tS v2),(2,tS v3),(7,q4 v5.1),(9,tS v7.1),(10,tI v7.2),(11,tI v8.1),(13,q1 v9.1)],[]⟩ ?_ z0 trivial ?_
   ·kernel_rfl
   refine AOps.nil ?_
   refine AWp.seq ?_
   refine AWp.start [0] [] [] [0,1,2,7,9,10,11,13,15] 0 ⟨[(0,q0 v1),(1,tS v2),(2,tS v3),(7,q4 v5.1),(9,tS v7.1),(10,tI v7.2),(11,tI v8.1),(13,q1 v9.1),(15,.tv (.sc (.slice none 0 0)))],[]⟩ rfl ?_ z0 trivial ?_
   ·kernel_rfl
   refine AOps.nil ?_
   refine AWp.seq ?_
   refine AWp.seq ?_
   refine AWp.start [0,1,2,3] [] [] [0,1,2,7,9,10,11,13,15,16] 0 ⟨[(0,q0 v1),(1,tS v2),(2,tS v3),(7,q4 v5.1),(9,tS v7.1),(10,tI v7.2),(11,tI v8.1),(13,q1 v9.1),(15,.tv (.sc (.slice none 0 0))),(16,tI (w64 ((v5.1.length:Int) - (1:Int))))],[]⟩ rfl ?_ z0 trivial ?_
   ·kernel_rfl
   refine AOps.nil ?_
   refine AWp.block ?_
   refine AWp.nilOwn 15 2 53 (fun i=>c52 (([]:List T52).getD i default)) rfl ?_
   refine AWp.keepTo [0,1,2,7,9,10,11,13,15,16] 0 ⟨[(0,q0 v1),(1,tS v2),(2,tS v3),(7,q4 v5.1),(9,tS v7.1),(10,tI v7.2),(11,tI v8.1),(13,q1 v9.1),(15,.tv (ownL 2 53 c52 ([]:List T52))),(16,tI (w64 ((v5.1.length:Int) - (1:Int))))],[]⟩ ?_ z0 ?_
   ·kernel_rfl
   obtain ⟨y,hy,h⟩:=of_bind h
   refine AWp.mono (AWp.loop (S:=(List T52) × Int) (Y:=Out Bool (List T52)) (fun s=>⟨[(0,q0 v1),(1,tS v2),(2,tS v3),(7,q4 v5.1),(9,tS v7.1),(10,tI v7.2),(11,tI v8.1),(13,q1 v9.1),(15,.tv (ownL 2 53 c52 s.1)),(16,tI s.2)],[]⟩) (fun s=>f4_b1 v1 v2 v3 v5 v7 v8 v9 s.1 s.2) (fun y e σ=>match y with | .ret r=>e = .ret ∧ σ = ⟨[(6,tB r)],[]⟩ | .go v=>e = .exit 0 ∧ σ = ⟨[(0,q0 v1),(1,tS v2),(11,tI v8.1),(15,.tv (ownL 2 53 c52 v))],[]⟩) ?_ hy) ?_
   ·rintro ⟨v10,v11⟩ o h
    refine AWp.seq ?_
    refine AWp.seq ?_
    refine AWp.start [0,1] [] [] [0,1,2,7,9,10,11,13,15,16,61] 0 ⟨[(0,q0 v1),(1,tS v2),(2,tS v3),(7,q4 v5.1),(9,tS v7.1),(10,tI v7.2),(11,tI v8.1),(13,q1 v9.1),(15,.tv (ownL 2 53 c52 v10)),(16,tI v11),(61,tB (decide (v11 ≥ (0:Int))))],[]⟩ rfl ?_ z0 trivial ?_
    ·kernel_rfl
    refine AOps.nil ?_
    refine AWp.cond rfl (fun hb=>?_) fun hb=>?_
    ·replace h:=of_true h hb
     refine AWp.keepTo [0,1,2,7,9,10,11,13,15,16] 0 ⟨[(0,q0 v1),(1,tS v2),(2,tS v3),(7,q4 v5.1),(9,tS v7.1),(10,tI v7.2),(11,tI v8.1),(13,q1 v9.1),(15,.tv (ownL 2 53 c52 v10)),(16,tI v11)],[]⟩ ?_ z0 ?_
     ·kernel_rfl
     refine AWp.skip ?_
     refine AWp.seq ?_
     refine AWp.block ?_
     refine AWp.seq ?_
     obtain ⟨hg,h⟩:=of_guard h
     refine AWp.start [0,1,2,3,4,5,6] [7,8] [(0:Int) ≤ v11,v11 < (v5.1.length:Int)] [0,1,2,7,9,10,11,13,15,16,64,70] 0 ⟨[(0,q0 v1),(1,tS v2),(2,tS v3),(7,q4 v5.1),(9,tS v7.1),(10,tI v7.2),(11,tI v8.1),(13,q1 v9.1),(15,.tv (ownL 2 53 c52 v10)),(16,tI v11),(64,.al (.slot 15 0,[])),(70,.tv (.own 2 53 1 (newRowF [.bool true,.str (gD v5.1 v11)] 2)))],[]⟩ rfl ?_ z0 ⟨hg.1,hg.2⟩ ?_
     ·kernel_rfl
     refine AOps.extL 70 c52 [T52.mk true (gD v5.1 v11)] rfl rfl (row_at c52 2 (fun _=>rfl) [T52.mk true (gD v5.1 v11)] _ rfl) ?_
     obtain ⟨hg,h⟩:=of_guard h
     refine AOps.go [7] [8] [(v10.length + [T52.mk true (gD v5.1 v11)].length) * 24 ≤ 140737488355328,PlainTo v10.length (fun i=>c52 (v10.getD i default)),PlainTo ([T52.mk true (gD v5.1 v11)].length) (fun i=>c52 ([T52.mk true (gD v5.1 v11)].getD i default))] [0,1,2,7,9,10,11,13,16,71] 0 ⟨[(0,q0 v1),(1,tS v2),(2,tS v3),(7,q4 v5.1),(9,tS v7.1),(10,tI v7.2),(11,tI v8.1),(13,q1 v9.1),(16,tI v11),(71,.tv (.own 2 53 (v10.length + [T52.mk true (gD v5.1 v11)].length) (appF v10.length (fun i=>c52 (v10.getD i default)) (fun i=>c52 ([T52.mk true (gD v5.1 v11)].getD i default)))))],[]⟩ ?_ z0 ⟨hg,(fun _ _=>rfl),(fun _ _=>rfl)⟩ ?_
     ·kernel_rfl
     refine AOps.extL 71 c52 (v10 ++ [T52.mk true (gD v5.1 v11)]) rfl List.length_append.symm (app_at c52 v10 [T52.mk true (gD v5.1 v11)]) ?_
     refine AOps.go [8] [] [] [0,1,2,7,9,10,11,13,15,16] 0 ⟨[(0,q0 v1),(1,tS v2),(2,tS v3),(7,q4 v5.1),(9,tS v7.1),(10,tI v7.2),(11,tI v8.1),(13,q1 v9.1),(15,.tv (ownL 2 53 c52 (v10 ++ [T52.mk true (gD v5.1 v11)]))),(16,tI v11)],[]⟩ ?_ z0 trivial ?_
     ·kernel_rfl
     refine AOps.nil ?_
     refine AWp.seq ?_
     obtain ⟨hg,h⟩:=of_guard h
     refine AWp.start [0,1,2,3,4] [5,6,7,8,9,10] [(0:Int) ≤ v11,v11 < (v5.1.length:Int)] [0,1,2,7,9,10,11,13,15,16,73,77] 0 ⟨[(0,q0 v1),(1,tS v2),(2,tS v3),(7,q4 v5.1),(9,tS v7.1),(10,tI v7.2),(11,tI v8.1),(13,q1 v9.1),(15,.tv (ownL 2 53 c52 (v10 ++ [T52.mk true (gD v5.1 v11)]))),(16,tI v11),(73,q0 v1),(77,tS (gD v5.1 v11))],[]⟩ rfl ?_ z0 ⟨hg.1,hg.2⟩ ?_
     ·kernel_rfl
     obtain ⟨v13,hv13,h⟩:=of_bind h
     refine AOps.cons (AOne.callP (F:=(FF 191 0)) _ rfl rfl rfl _ rfl rfl _ _ rfl Tryz.call11 [q0 v1,tS (gD v5.1 v11)] rfl rfl (f11_ok v1 (gD v5.1 v11) hv13) rfl) ?_
     refine AOps.go [6,7,8,9,10] [] [] [0,1,2,7,9,10,11,13,15,16,17,18] 0 ⟨[(0,q0 v1),(1,tS v2),(2,tS v3),(7,q4 v5.1),(9,tS v7.1),(10,tI v7.2),(11,tI v8.1),(13,q1 v9.1),(15,.tv (ownL 2 53 c52 (v10 ++ [T52.mk true (gD v5.1 v11)]))),(16,tI v11),(17,tI v13.1),(18,tI v13.2)],[]⟩ ?_ z0 trivial ?_
     ·kernel_rfl
     refine AOps.nil ?_
     refine AWp.seq ?_
     obtain ⟨hg,h⟩:=of_guard h
     refine AWp.start [0,1,2,3,4] [5,6,7,8,9,10] [(0:Int) ≤ v11,v11 < (v5.1.length:Int)] [0,1,2,7,9,10,11,13,15,16,17,18,82,86] 0 ⟨[(0,q0 v1),(1,tS v2),(2,tS v3),(7,q4 v5.1),(9,tS v7.1),(10,tI v7.2),(11,tI v8.1),(13,q1 v9.1),(15,.tv (ownL 2 53 c52 (v10 ++ [T52.mk true (gD v5.1 v11)]))),(16,tI v11),(17,tI v13.1),(18,tI v13.2),(82,q0 v1),(86,tS (gD v5.1 v11))],[]⟩ rfl ?_ z0 ⟨hg.1,hg.2⟩ ?_
     ·kernel_rfl
     obtain ⟨v14,hv14,h⟩:=of_bind h
     refine AOps.cons (AOne.callP (F:=(FF 191 0)) _ rfl rfl rfl _ rfl rfl _ _ rfl Tryz.call12 [q0 v1,tS (gD v5.1 v11)] rfl rfl (f12_ok v1 (gD v5.1 v11) hv14) rfl) ?_
     refine AOps.go [6,7,8,9,10] [] [] [0,1,2,7,9,10,11,13,15,16,17,18,19,20] 0 ⟨[(0,q0 v1),(1,tS v2),(2,tS v3),(7,q4 v5.1),(9,tS v7.1),(10,tI v7.2),(11,tI v8.1),(13,q1 v9.1),(15,.tv (ownL 2 53 c52 (v10 ++ [T52.mk true (gD v5.1 v11)]))),(16,tI v11),(17,tI v13.1),(18,tI v13.2),(19,q1 v14.1),(20,tI v14.2)],[]⟩ ?_ z0 trivial ?_
     ·kernel_rfl
     refine AOps.nil ?_
     refine AWp.seq ?_
     refine AWp.seq ?_
     refine AWp.start [0,1,2] [3,4,5,6,7,8,9,10,11,12,13,14,15,16,17,18,19,20,21,22,23,24,25,26] [] [0,1,2,7,9,10,11,13,15,16,17,19,20,92] 0 ⟨[(0,q0 v1),(1,tS v2),(2,tS v3),(7,q4 v5.1),(9,tS v7.1),(10,tI v7.2),(11,tI v8.1),(13,q1 v9.1),(15,.tv (ownL 2 53 c52 (v10 ++ [T52.mk true (gD v5.1 v11)]))),(16,tI v11),(17,tI v13.1),(19,q1 v14.1),(20,tI v14.2),(92,tB (v13.2 != (0:Int)))],[]⟩ rfl ?_ z0 trivial ?_
     ·kernel_rfl
     obtain ⟨v15,hc3,h⟩:=of_bind h
     refine AOps.cut [3,4,5] [6,7,8,9,10,11,12,13,14,15,16,17,18,19,20,21,22,23,24,25,26] (fun σ=>σ = ⟨[(0,q0 v1),(1,tS v2),(2,tS v3),(7,q4 v5.1),(9,tS v7.1),(10,tI v7.2),(11,tI v8.1),(13,q1 v9.1),(15,.tv (ownL 2 53 c52 (v10 ++ [T52.mk true (gD v5.1 v11)]))),(16,tI v11),(17,tI v13.1),(19,q1 v14.1),(95,tB v15)],[]⟩) ?_ fun σ' hJ=>?_
     ·refine AOps.split (fun b=>⟨[(0,q0 v1),(1,tS v2),(2,tS v3),(7,q4 v5.1),(9,tS v7.1),(10,tI v7.2),(11,tI v8.1),(13,q1 v9.1),(15,.tv (ownL 2 53 c52 (v10 ++ [T52.mk true (gD v5.1 v11)]))),(16,tI v11),(17,tI v13.1),(19,q1 v14.1),(20,tI v14.2),(92,tB b)],[]⟩) _ (fun hb=>?_) fun hb=>?_
      ·replace hc3:=of_true hc3 hb
       refine AOps.go [3,4,5] [] [] [0,1,2,7,9,10,11,13,15,16,17,19,95] 0 ⟨[(0,q0 v1),(1,tS v2),(2,tS v3),(7,q4 v5.1),(9,tS v7.1),(10,tI v7.2),(11,tI v8.1),(13,q1 v9.1),(15,.tv (ownL 2 53 c52 (v10 ++ [T52.mk true (gD v5.1 v11)]))),(16,tI v11),(17,tI v13.1),(19,q1 v14.1),(95,tB true)],[]⟩ ?_ z0 trivial ?_
       ·kernel_rfl
       cases hc3
       exact AOps.nil rfl
      ·replace hc3:=of_false hc3 hb
       refine AOps.go [3,4,5] [] [] [0,1,2,7,9,10,11,13,15,16,17,19,95] 0 ⟨[(0,q0 v1),(1,tS v2),(2,tS v3),(7,q4 v5.1),(9,tS v7.1),(10,tI v7.2),(11,tI v8.1),(13,q1 v9.1),(15,.tv (ownL 2 53 c52 (v10 ++ [T52.mk true (gD v5.1 v11)]))),(16,tI v11),(17,tI v13.1),(19,q1 v14.1),(95,tB (v14.2 != (0:Int)))],[]⟩ ?_ z0 trivial ?_
       ·kernel_rfl
       cases hc3
       exact AOps.nil rfl
     subst hJ
     refine AOps.go [6] [7,8,9,10,11,12,13,14,15,16,17,18,19,20,21,22,23,24,25,26] [] [0,1,2,7,9,10,11,13,15,16,17,19,96] 0 ⟨[(0,q0 v1),(1,tS v2),(2,tS v3),(7,q4 v5.1),(9,tS v7.1),(10,tI v7.2),(11,tI v8.1),(13,q1 v9.1),(15,.tv (ownL 2 53 c52 (v10 ++ [T52.mk true (gD v5.1 v11)]))),(16,tI v11),(17,tI v13.1),(19,q1 v14.1),(96,tB v15)],[]⟩ ?_ z0 trivial ?_
     ·kernel_rfl
     obtain ⟨v16,hc7,h⟩:=of_bind h
     refine AOps.cut [7,8,9,10] [11,12,13,14,15,16,17,18,19,20,21,22,23,24,25,26] (fun σ=>σ = ⟨[(0,q0 v1),(1,tS v2),(2,tS v3),(7,q4 v5.1),(9,tS v7.1),(10,tI v7.2),(11,tI v8.1),(13,q1 v9.1),(15,.tv (ownL 2 53 c52 (v10 ++ [T52.mk true (gD v5.1 v11)]))),(16,tI v11),(19,q1 v14.1),(100,tB v16)],[]⟩) ?_ fun σ' hJ=>?_
     ·refine AOps.split (fun b=>⟨[(0,q0 v1),(1,tS v2),(2,tS v3),(7,q4 v5.1),(9,tS v7.1),(10,tI v7.2),(11,tI v8.1),(13,q1 v9.1),(15,.tv (ownL 2 53 c52 (v10 ++ [T52.mk true (gD v5.1 v11)]))),(16,tI v11),(17,tI v13.1),(19,q1 v14.1),(96,tB b)],[]⟩) _ (fun hb=>?_) fun hb=>?_
      ·replace hc7:=of_true hc7 hb
       refine AOps.go [7,8,9,10] [] [] [0,1,2,7,9,10,11,13,15,16,19,100] 0 ⟨[(0,q0 v1),(1,tS v2),(2,tS v3),(7,q4 v5.1),(9,tS v7.1),(10,tI v7.2),(11,tI v8.1),(13,q1 v9.1),(15,.tv (ownL 2 53 c52 (v10 ++ [T52.mk true (gD v5.1 v11)]))),(16,tI v11),(19,q1 v14.1),(100,tB true)],[]⟩ ?_ z0 trivial ?_
       ·kernel_rfl
       cases hc7
       exact AOps.nil rfl
      ·replace hc7:=of_false hc7 hb
       refine AOps.go [7,8,9,10] [] [] [0,1,2,7,9,10,11,13,15,16,19,100] 0 ⟨[(0,q0 v1),(1,tS v2),(2,tS v3),(7,q4 v5.1),(9,tS v7.1),(10,tI v7.2),(11,tI v8.1),(13,q1 v9.1),(15,.tv (ownL 2 53 c52 (v10 ++ [T52.mk true (gD v5.1 v11)]))),(16,tI v11),(19,q1 v14.1),(100,tB (decide (v13.1 > v8.1)))],[]⟩ ?_ z0 trivial ?_
       ·kernel_rfl
       cases hc7
       exact AOps.nil rfl
     subst hJ
     refine AOps.go [11] [12,13,14,15,16,17,18,19,20,21,22,23,24,25,26] [] [0,1,2,7,9,10,11,13,15,16,19,101] 0 ⟨[(0,q0 v1),(1,tS v2),(2,tS v3),(7,q4 v5.1),(9,tS v7.1),(10,tI v7.2),(11,tI v8.1),(13,q1 v9.1),(15,.tv (ownL 2 53 c52 (v10 ++ [T52.mk true (gD v5.1 v11)]))),(16,tI v11),(19,q1 v14.1),(101,tB v16)],[]⟩ ?_ z0 trivial ?_
     ·kernel_rfl
     obtain ⟨v17,hc12,h⟩:=of_bind h
     refine AOps.cut [12,13,14,15,16,17] [18,19,20,21,22,23,24,25,26] (fun σ=>σ = ⟨[(0,q0 v1),(1,tS v2),(2,tS v3),(7,q4 v5.1),(9,tS v7.1),(10,tI v7.2),(11,tI v8.1),(13,q1 v9.1),(15,.tv (ownL 2 53 c52 (v10 ++ [T52.mk true (gD v5.1 v11)]))),(16,tI v11),(19,q1 v14.1),(107,tB v17)],[]⟩) ?_ fun σ' hJ=>?_
     ·refine AOps.split (fun b=>⟨[(0,q0 v1),(1,tS v2),(2,tS v3),(7,q4 v5.1),(9,tS v7.1),(10,tI v7.2),(11,tI v8.1),(13,q1 v9.1),(15,.tv (ownL 2 53 c52 (v10 ++ [T52.mk true (gD v5.1 v11)]))),(16,tI v11),(19,q1 v14.1),(101,tB b)],[]⟩) _ (fun hb=>?_) fun hb=>?_
      ·replace hc12:=of_true hc12 hb
       refine AOps.go [12,13,14,15,16,17] [] [] [0,1,2,7,9,10,11,13,15,16,19,107] 0 ⟨[(0,q0 v1),(1,tS v2),(2,tS v3),(7,q4 v5.1),(9,tS v7.1),(10,tI v7.2),(11,tI v8.1),(13,q1 v9.1),(15,.tv (ownL 2 53 c52 (v10 ++ [T52.mk true (gD v5.1 v11)]))),(16,tI v11),(19,q1 v14.1),(107,tB true)],[]⟩ ?_ z0 trivial ?_
       ·kernel_rfl
       cases hc12
       exact AOps.nil rfl
      ·replace hc12:=of_false hc12 hb
       refine AOps.go [12,13,14,15,16,17] [] [] [0,1,2,7,9,10,11,13,15,16,19,107] 0 ⟨[(0,q0 v1),(1,tS v2),(2,tS v3),(7,q4 v5.1),(9,tS v7.1),(10,tI v7.2),(11,tI v8.1),(13,q1 v9.1),(15,.tv (ownL 2 53 c52 (v10 ++ [T52.mk true (gD v5.1 v11)]))),(16,tI v11),(19,q1 v14.1),(107,tB (decide ((v14.1.length:Int) > (v9.1.length:Int))))],[]⟩ ?_ z0 trivial ?_
       ·kernel_rfl
       cases hc12
       exact AOps.nil rfl
     subst hJ
     refine AOps.go [18] [19,20,21,22,23,24,25,26] [] [0,1,2,7,9,10,11,13,15,16,19,108] 0 ⟨[(0,q0 v1),(1,tS v2),(2,tS v3),(7,q4 v5.1),(9,tS v7.1),(10,tI v7.2),(11,tI v8.1),(13,q1 v9.1),(15,.tv (ownL 2 53 c52 (v10 ++ [T52.mk true (gD v5.1 v11)]))),(16,tI v11),(19,q1 v14.1),(108,tB v17)],[]⟩ ?_ z0 trivial ?_
     ·kernel_rfl
     obtain ⟨v18,hc19,h⟩:=of_bind h
     refine AOps.cut [19,20,21,22,23,24,25,26] [] (fun σ=>σ = ⟨[(0,q0 v1),(1,tS v2),(2,tS v3),(7,q4 v5.1),(9,tS v7.1),(10,tI v7.2),(11,tI v8.1),(13,q1 v9.1),(15,.tv (ownL 2 53 c52 (v10 ++ [T52.mk true (gD v5.1 v11)]))),(16,tI v11),(116,tB v18)],[]⟩) ?_ fun σ' hJ=>?_
     ·refine AOps.split (fun b=>⟨[(0,q0 v1),(1,tS v2),(2,tS v3),(7,q4 v5.1),(9,tS v7.1),(10,tI v7.2),(11,tI v8.1),(13,q1 v9.1),(15,.tv (ownL 2 53 c52 (v10 ++ [T52.mk true (gD v5.1 v11)]))),(16,tI v11),(19,q1 v14.1),(108,tB b)],[]⟩) _ (fun hb=>?_) fun hb=>?_
      ·replace hc19:=of_true hc19 hb
       refine AOps.go [19,20,21,22,23,24,25,26] [] [] [0,1,2,7,9,10,11,13,15,16,116] 0 ⟨[(0,q0 v1),(1,tS v2),(2,tS v3),(7,q4 v5.1),(9,tS v7.1),(10,tI v7.2),(11,tI v8.1),(13,q1 v9.1),(15,.tv (ownL 2 53 c52 (v10 ++ [T52.mk true (gD v5.1 v11)]))),(16,tI v11),(116,tB true)],[]⟩ ?_ z0 trivial ?_
       ·kernel_rfl
       cases hc19
       exact AOps.nil rfl
      ·replace hc19:=of_false hc19 hb
       obtain ⟨hg,hc19⟩:=of_guard hc19
       refine AOps.go [19,20,21,22] [23,24,25,26] [(0:Int) ≤ (0:Int),(0:Int) ≤ (v14.1.length:Int),(v14.1.length:Int) ≤ (v9.1.length:Int)] [0,1,2,7,9,10,11,13,15,16,19,108,112] 0 ⟨[(0,q0 v1),(1,tS v2),(2,tS v3),(7,q4 v5.1),(9,tS v7.1),(10,tI v7.2),(11,tI v8.1),(13,q1 v9.1),(15,.tv (ownL 2 53 c52 (v10 ++ [T52.mk true (gD v5.1 v11)]))),(16,tI v11),(19,q1 v14.1),(108,tB false),(112,.tv (.fz 3 ((Int.toNat (v14.1.length:Int)) - 0) (fun i=>c86 (v9.1.getD (0 + i) default))))],[]⟩ ?_ z0 ⟨(by decide:(0:Int) ≤ (0:Int)),(Int.natCast_nonneg (v14.1.length)),hg⟩ ?_
       ·kernel_rfl
       have hb:(Int.toNat (v14.1.length:Int)) ≤ v9.1.length:=by have hh:(v14.1.length:Int) ≤ (v9.1.length:Int):=hg; omega
       refine AOps.extFzL (s:=112) rfl (sub_len v9.1 0 (Int.toNat (v14.1.length:Int)) hb) (sub_at c86 v9.1 0 (Int.toNat (v14.1.length:Int)) hb) ?_
       refine AOps.go [23] [24,25,26] [] [0,1,2,7,9,10,11,13,15,16,108,112,113] 0 ⟨[(0,q0 v1),(1,tS v2),(2,tS v3),(7,q4 v5.1),(9,tS v7.1),(10,tI v7.2),(11,tI v8.1),(13,q1 v9.1),(15,.tv (ownL 2 53 c52 (v10 ++ [T52.mk true (gD v5.1 v11)]))),(16,tI v11),(108,tB false),(112,q1 ((v9.1.take (Int.toNat (v14.1.length:Int))).drop 0)),(113,q1 v14.1)],[]⟩ ?_ z0 trivial ?_
       ·kernel_rfl
       obtain ⟨v19,hv19,hc19⟩:=of_bind hc19
       refine AOps.cons (AOne.callP (F:=(FF 191 0)) _ rfl rfl rfl _ rfl rfl _ _ rfl Tryz.call13 [q1 ((v9.1.take (Int.toNat (v14.1.length:Int))).drop 0),q1 v14.1] rfl rfl (f13_ok ((v9.1.take (Int.toNat (v14.1.length:Int))).drop 0) v14.1 hv19) rfl) ?_
       refine AOps.go [25,26] [] [] [0,1,2,7,9,10,11,13,15,16,116] 0 ⟨[(0,q0 v1),(1,tS v2),(2,tS v3),(7,q4 v5.1),(9,tS v7.1),(10,tI v7.2),(11,tI v8.1),(13,q1 v9.1),(15,.tv (ownL 2 53 c52 (v10 ++ [T52.mk true (gD v5.1 v11)]))),(16,tI v11),(116,tB (!v19))],[]⟩ ?_ z0 trivial ?_
       ·kernel_rfl
       cases hc19
       exact AOps.nil rfl
     subst hJ
     refine AOps.nil ?_
     refine AWp.cond rfl (fun hb=>?_) fun hb=>?_
     ·replace h:=of_true h hb
      refine AWp.keepTo [] 0 ⟨[],[]⟩ ?_ z0 ?_
      ·kernel_rfl
      refine AWp.seq ?_
      refine AWp.start [0] [] [] [6] 0 ⟨[(6,tB false)],[]⟩ rfl ?_ z0 trivial ?_
      ·kernel_rfl
      refine AOps.nil ?_
      refine AWp.ret ?_
      cases h
      exact Or.inr ⟨_,rfl,by simp,rfl,rfl⟩
     ·replace h:=of_false h hb
      refine AWp.keepTo [0,1,2,7,9,10,11,13,15,16] 0 ⟨[(0,q0 v1),(1,tS v2),(2,tS v3),(7,q4 v5.1),(9,tS v7.1),(10,tI v7.2),(11,tI v8.1),(13,q1 v9.1),(15,.tv (ownL 2 53 c52 (v10 ++ [T52.mk true (gD v5.1 v11)]))),(16,tI v11)],[]⟩ ?_ z0 ?_
      ·kernel_rfl
      refine AWp.skip ?_
      refine AWp.seq ?_
      obtain ⟨hg,h⟩:=of_guard h
      refine AWp.start [0,1,2,3,4,5,6] [7,8,9,10,11,12] [(0:Int) ≤ v11,v11 < (v5.1.length:Int)] [0,1,2,7,9,10,11,13,15,16,118,122,123,124] 0 ⟨[(0,q0 v1),(1,tS v2),(2,tS v3),(7,q4 v5.1),(9,tS v7.1),(10,tI v7.2),(11,tI v8.1),(13,q1 v9.1),(15,.tv (ownL 2 53 c52 (v10 ++ [T52.mk true (gD v5.1 v11)]))),(16,tI v11),(118,q0 v1),(122,tS (gD v5.1 v11)),(123,tS v2),(124,tS v3)],[]⟩ rfl ?_ z0 ⟨hg.1,hg.2⟩ ?_
      ·kernel_rfl
      obtain ⟨v20,hv20,h⟩:=of_bind h
      refine AOps.cons (AOne.callP (F:=(FF 191 0)) _ rfl rfl rfl _ rfl rfl _ _ rfl Tryz.call14 [q0 v1,tS (gD v5.1 v11),tS v2,tS v3] rfl rfl (f14_ok v1 (gD v5.1 v11) v2 v3 hv20) rfl) ?_
      refine AOps.go [8,9,10,11,12] [] [] [0,1,2,7,9,10,11,13,15,16,18,21] 0 ⟨[(0,q0 v1),(1,tS v2),(2,tS v3),(7,q4 v5.1),(9,tS v7.1),(10,tI v7.2),(11,tI v8.1),(13,q1 v9.1),(15,.tv (ownL 2 53 c52 (v10 ++ [T52.mk true (gD v5.1 v11)]))),(16,tI v11),(18,tI v20.2),(21,tS v20.1)],[]⟩ ?_ z0 trivial ?_
      ·kernel_rfl
      refine AOps.nil ?_
      refine AWp.seq ?_
      refine AWp.start [0,1,2] [3,4,5,6,7,8,9,10] [] [0,1,2,7,9,10,11,13,15,16,21,130] 0 ⟨[(0,q0 v1),(1,tS v2),(2,tS v3),(7,q4 v5.1),(9,tS v7.1),(10,tI v7.2),(11,tI v8.1),(13,q1 v9.1),(15,.tv (ownL 2 53 c52 (v10 ++ [T52.mk true (gD v5.1 v11)]))),(16,tI v11),(21,tS v20.1),(130,tB (v20.2 == (0:Int)))],[]⟩ rfl ?_ z0 trivial ?_
      ·kernel_rfl
      obtain ⟨v21,hc3,h⟩:=of_bind h
      refine AOps.cut [3,4,5,6,7,8,9,10] [] (fun σ=>σ = ⟨[(0,q0 v1),(1,tS v2),(2,tS v3),(7,q4 v5.1),(9,tS v7.1),(10,tI v7.2),(11,tI v8.1),(13,q1 v9.1),(15,.tv (ownL 2 53 c52 (v10 ++ [T52.mk true (gD v5.1 v11)]))),(16,tI v11),(138,tB v21)],[]⟩) ?_ fun σ' hJ=>?_
      ·refine AOps.split (fun b=>⟨[(0,q0 v1),(1,tS v2),(2,tS v3),(7,q4 v5.1),(9,tS v7.1),(10,tI v7.2),(11,tI v8.1),(13,q1 v9.1),(15,.tv (ownL 2 53 c52 (v10 ++ [T52.mk true (gD v5.1 v11)]))),(16,tI v11),(21,tS v20.1),(130,tB b)],[]⟩) _ (fun hb=>?_) fun hb=>?_
       ·replace hc3:=of_true hc3 hb
        refine AOps.go [3,4,5] [6,7,8,9,10] [] [0,1,2,7,9,10,11,13,15,16,21,130,133] 0 ⟨[(0,q0 v1),(1,tS v2),(2,tS v3),(7,q4 v5.1),(9,tS v7.1),(10,tI v7.2),(11,tI v8.1),(13,q1 v9.1),(15,.tv (ownL 2 53 c52 (v10 ++ [T52.mk true (gD v5.1 v11)]))),(16,tI v11),(21,tS v20.1),(130,tB true),(133,tB (v7.2 != (0:Int)))],[]⟩ ?_ z0 trivial ?_
        ·kernel_rfl
        obtain ⟨v22,hc6,hc3⟩:=of_bind hc3
        refine AOps.cut [6,7,8,9] [10] (fun σ=>σ = ⟨[(0,q0 v1),(1,tS v2),(2,tS v3),(7,q4 v5.1),(9,tS v7.1),(10,tI v7.2),(11,tI v8.1),(13,q1 v9.1),(15,.tv (ownL 2 53 c52 (v10 ++ [T52.mk true (gD v5.1 v11)]))),(16,tI v11),(130,tB true),(137,tB v22)],[]⟩) ?_ fun σ' hJ=>?_
        ·refine AOps.split (fun b=>⟨[(0,q0 v1),(1,tS v2),(2,tS v3),(7,q4 v5.1),(9,tS v7.1),(10,tI v7.2),(11,tI v8.1),(13,q1 v9.1),(15,.tv (ownL 2 53 c52 (v10 ++ [T52.mk true (gD v5.1 v11)]))),(16,tI v11),(21,tS v20.1),(130,tB true),(133,tB b)],[]⟩) _ (fun hb=>?_) fun hb=>?_
         ·replace hc6:=of_true hc6 hb
          refine AOps.go [6,7,8,9] [] [] [0,1,2,7,9,10,11,13,15,16,130,137] 0 ⟨[(0,q0 v1),(1,tS v2),(2,tS v3),(7,q4 v5.1),(9,tS v7.1),(10,tI v7.2),(11,tI v8.1),(13,q1 v9.1),(15,.tv (ownL 2 53 c52 (v10 ++ [T52.mk true (gD v5.1 v11)]))),(16,tI v11),(130,tB true),(137,tB true)],[]⟩ ?_ z0 trivial ?_
          ·kernel_rfl
          cases hc6
          exact AOps.nil rfl
         ·replace hc6:=of_false hc6 hb
          refine AOps.go [6,7,8,9] [] [] [0,1,2,7,9,10,11,13,15,16,130,137] 0 ⟨[(0,q0 v1),(1,tS v2),(2,tS v3),(7,q4 v5.1),(9,tS v7.1),(10,tI v7.2),(11,tI v8.1),(13,q1 v9.1),(15,.tv (ownL 2 53 c52 (v10 ++ [T52.mk true (gD v5.1 v11)]))),(16,tI v11),(130,tB true),(137,tB (!(v20.1 == v7.1)))],[]⟩ ?_ z0 trivial ?_
          ·kernel_rfl
          cases hc6
          exact AOps.nil rfl
        subst hJ
        refine AOps.go [10] [] [] [0,1,2,7,9,10,11,13,15,16,138] 0 ⟨[(0,q0 v1),(1,tS v2),(2,tS v3),(7,q4 v5.1),(9,tS v7.1),(10,tI v7.2),(11,tI v8.1),(13,q1 v9.1),(15,.tv (ownL 2 53 c52 (v10 ++ [T52.mk true (gD v5.1 v11)]))),(16,tI v11),(138,tB v22)],[]⟩ ?_ z0 trivial ?_
        ·kernel_rfl
        cases hc3
        exact AOps.nil rfl
       ·replace hc3:=of_false hc3 hb
        refine AOps.go [3,4,5,6,7,8,9,10] [] [] [0,1,2,7,9,10,11,13,15,16,138] 0 ⟨[(0,q0 v1),(1,tS v2),(2,tS v3),(7,q4 v5.1),(9,tS v7.1),(10,tI v7.2),(11,tI v8.1),(13,q1 v9.1),(15,.tv (ownL 2 53 c52 (v10 ++ [T52.mk true (gD v5.1 v11)]))),(16,tI v11),(138,tB false)],[]⟩ ?_ z0 trivial ?_
        ·kernel_rfl
        cases hc3
        exact AOps.nil rfl
      subst hJ
      refine AOps.nil ?_
      refine AWp.cond rfl (fun hb=>?_) fun hb=>?_
      ·replace h:=of_true h hb
       refine AWp.keepTo [] 0 ⟨[],[]⟩ ?_ z0 ?_
       ·kernel_rfl
       refine AWp.seq ?_
       refine AWp.start [0] [] [] [6] 0 ⟨[(6,tB false)],[]⟩ rfl ?_ z0 trivial ?_
       ·kernel_rfl
       refine AOps.nil ?_
       refine AWp.ret ?_
       cases h
       exact Or.inr ⟨_,rfl,by simp,rfl,rfl⟩
      ·replace h:=of_false h hb
       refine AWp.keepTo [0,1,2,7,9,10,11,13,15,16] 0 ⟨[(0,q0 v1),(1,tS v2),(2,tS v3),(7,q4 v5.1),(9,tS v7.1),(10,tI v7.2),(11,tI v8.1),(13,q1 v9.1),(15,.tv (ownL 2 53 c52 (v10 ++ [T52.mk true (gD v5.1 v11)]))),(16,tI v11)],[]⟩ ?_ z0 ?_
       ·kernel_rfl
       refine AWp.skip ?_
       refine AWp.start [0,1,2] [] [] [0,1,2,7,9,10,11,13,15,16] 0 ⟨[(0,q0 v1),(1,tS v2),(2,tS v3),(7,q4 v5.1),(9,tS v7.1),(10,tI v7.2),(11,tI v8.1),(13,q1 v9.1),(15,.tv (ownL 2 53 c52 (v10 ++ [T52.mk true (gD v5.1 v11)]))),(16,tI (w64 (v11 - (1:Int))))],[]⟩ rfl ?_ z0 trivial ?_
       ·kernel_rfl
       refine AOps.nil ?_
       cases h
       exact Or.inl ⟨_,rfl,rfl,rfl⟩
    ·replace h:=of_false h hb
     refine AWp.keepTo [0,1,11,15] 0 ⟨[(0,q0 v1),(1,tS v2),(11,tI v8.1),(15,.tv (ownL 2 53 c52 v10))],[]⟩ ?_ z0 ?_
     ·kernel_rfl
     refine AWp.exit ?_
     cases h
     exact Or.inr ⟨_,rfl,by simp,rfl,rfl⟩
   ·intro e σ hp
    rcases y with v23 | v12
    ·obtain ⟨rfl,rfl⟩:=hp
     cases h
     exact ⟨.inr rfl,rfl⟩
    ·obtain ⟨rfl,rfl⟩:=hp
     refine AWp.seq ?_
     refine AWp.start [0,1,2] [3,4,5,6,7,8] [] [0,1,11,15,140,141,142] 0 ⟨[(0,q0 v1),(1,tS v2),(11,tI v8.1),(15,.tv (ownL 2 53 c52 v12)),(140,q0 v1),(141,tS v2),(142,.al (.slot 15 0,[]))],[]⟩ rfl ?_ z0 trivial ?_
     ·kernel_rfl
     obtain ⟨v24,hv24,h⟩:=of_bind h
     refine AOps.cons (AOne.callR (F:=(FF 191 0)) _ rfl rfl rfl _ rfl rfl _ _ rfl Tryz.call15 [PlainTo v12.length (fun i=>c52 (v12.getD i default))] [q0 v1,tS v2,q6 v12] rfl (fun _ _=>rfl) (f15_ok v1 v2 v12 hv24) (ind_of rfl) rfl) ?_
     refine AOps.go [4,5,6,7,8] [] [] [0,1,8,11,15,22] 0 ⟨[(0,q0 v1),(1,tS v2),(8,tI v24.2),(11,tI v8.1),(15,.tv (ownL 2 53 c52 v12)),(22,tI v24.1)],[]⟩ ?_ z0 trivial ?_
     ·kernel_rfl
     refine AOps.nil ?_
     refine AWp.seq ?_
     refine AWp.seq ?_
     refine AWp.start [0,1,2] [3,4,5,6,7,8,9,10,11,12] [] [0,1,8,11,15,22,148] 0 ⟨[(0,q0 v1),(1,tS v2),(8,tI v24.2),(11,tI v8.1),(15,.tv (ownL 2 53 c52 v12)),(22,tI v24.1),(148,tB (v24.2 != (70:Int)))],[]⟩ rfl ?_ z0 trivial ?_
     ·kernel_rfl
     obtain ⟨v25,hc3,h⟩:=of_bind h
     refine AOps.cut [3,4,5,6,7,8,9,10,11,12] [] (fun σ=>σ = ⟨[(0,q0 v1),(1,tS v2),(11,tI v8.1),(158,tB v25)],[]⟩) ?_ fun σ' hJ=>?_
     ·refine AOps.split (fun b=>⟨[(0,q0 v1),(1,tS v2),(8,tI v24.2),(11,tI v8.1),(15,.tv (ownL 2 53 c52 v12)),(22,tI v24.1),(148,tB b)],[]⟩) _ (fun hb=>?_) fun hb=>?_
      ·replace hc3:=of_true hc3 hb
       refine AOps.go [3,4,5] [6,7,8,9,10,11,12] [] [0,1,11,15,22,148,151] 0 ⟨[(0,q0 v1),(1,tS v2),(11,tI v8.1),(15,.tv (ownL 2 53 c52 v12)),(22,tI v24.1),(148,tB true),(151,tB (v24.2 != (0:Int)))],[]⟩ ?_ z0 trivial ?_
       ·kernel_rfl
       obtain ⟨v26,hc6,hc3⟩:=of_bind hc3
       refine AOps.cut [6,7,8,9,10,11] [12] (fun σ=>σ = ⟨[(0,q0 v1),(1,tS v2),(11,tI v8.1),(148,tB true),(157,tB v26)],[]⟩) ?_ fun σ' hJ=>?_
       ·refine AOps.split (fun b=>⟨[(0,q0 v1),(1,tS v2),(11,tI v8.1),(15,.tv (ownL 2 53 c52 v12)),(22,tI v24.1),(148,tB true),(151,tB b)],[]⟩) _ (fun hb=>?_) fun hb=>?_
        ·replace hc6:=of_true hc6 hb
         refine AOps.go [6,7,8,9,10,11] [] [] [0,1,11,148,157] 0 ⟨[(0,q0 v1),(1,tS v2),(11,tI v8.1),(148,tB true),(157,tB true)],[]⟩ ?_ z0 trivial ?_
         ·kernel_rfl
         cases hc6
         exact AOps.nil rfl
        ·replace hc6:=of_false hc6 hb
         refine AOps.go [6,7,8,9,10,11] [] [] [0,1,11,148,157] 0 ⟨[(0,q0 v1),(1,tS v2),(11,tI v8.1),(148,tB true),(157,tB (v24.1 != w64 ((v12.length:Int) - (1:Int))))],[]⟩ ?_ z0 trivial ?_
         ·kernel_rfl
         cases hc6
         exact AOps.nil rfl
       subst hJ
       refine AOps.go [12] [] [] [0,1,11,158] 0 ⟨[(0,q0 v1),(1,tS v2),(11,tI v8.1),(158,tB v26)],[]⟩ ?_ z0 trivial ?_
       ·kernel_rfl
       cases hc3
       exact AOps.nil rfl
      ·replace hc3:=of_false hc3 hb
       refine AOps.go [3,4,5,6,7,8,9,10,11,12] [] [] [0,1,11,158] 0 ⟨[(0,q0 v1),(1,tS v2),(11,tI v8.1),(158,tB false)],[]⟩ ?_ z0 trivial ?_
       ·kernel_rfl
       cases hc3
       exact AOps.nil rfl
     subst hJ
     refine AOps.nil ?_
     refine AWp.cond rfl (fun hb=>?_) fun hb=>?_
     ·replace h:=of_true h hb
      refine AWp.keepTo [] 0 ⟨[],[]⟩ ?_ z0 ?_
      ·kernel_rfl
      refine AWp.seq ?_
      refine AWp.start [0] [] [] [6] 0 ⟨[(6,tB false)],[]⟩ rfl ?_ z0 trivial ?_
      ·kernel_rfl
      refine AOps.nil ?_
      refine AWp.ret ?_
      cases h
      exact ⟨.inr rfl,rfl⟩
     ·replace h:=of_false h hb
      refine AWp.keepTo [0,1,11] 0 ⟨[(0,q0 v1),(1,tS v2),(11,tI v8.1)],[]⟩ ?_ z0 ?_
      ·kernel_rfl
      refine AWp.skip ?_
      refine AWp.seq ?_
      refine AWp.start [0,1] [2,3,4,5,6,7] [] [11,160,161] 0 ⟨[(11,tI v8.1),(160,q0 v1),(161,tS v2)],[]⟩ rfl ?_ z0 trivial ?_
      ·kernel_rfl
      obtain ⟨v27,hv27,h⟩:=of_bind h
      refine AOps.cons (AOne.callP (F:=(FF 191 0)) _ rfl rfl rfl _ rfl rfl _ _ rfl Tryz.call16 [q0 v1,tS v2] rfl rfl (f16_ok v1 v2 hv27) rfl) ?_
      refine AOps.go [3,4,5,6,7] [] [] [8,11,23] 0 ⟨[(8,tI v27.2),(11,tI v8.1),(23,.tv (fzL 2 c37 v27.1))],[]⟩ ?_ z0 trivial ?_
      ·kernel_rfl
      refine AOps.nil ?_
      refine AWp.seq ?_
      refine AWp.seq ?_
      refine AWp.start [0] [] [] [8,11,23,24] 0 ⟨[(8,tI v27.2),(11,tI v8.1),(23,.tv (fzL 2 c37 v27.1)),(24,tI (0:Int))],[]⟩ rfl ?_ z0 trivial ?_
      ·kernel_rfl
      refine AOps.nil ?_
      refine AWp.block ?_
      obtain ⟨y,hy,h⟩:=of_bind h
      refine AWp.mono (AWp.loop (S:=Int) (Y:=Out Bool Unit) (fun s=>⟨[(8,tI v27.2),(11,tI v8.1),(23,.tv (fzL 2 c37 v27.1)),(24,tI s)],[]⟩) (fun s=>f4_b2 v8 v27 s) (fun y e σ=>match y with | .ret r=>e = .ret ∧ σ = ⟨[(6,tB r)],[]⟩ | .go v=>e = .exit 2 ∧ σ = ⟨[(8,tI v27.2)],[]⟩) ?_ hy) ?_
      ·rintro v28 o h
       refine AWp.seq ?_
       refine AWp.seq ?_
       refine AWp.start [0,1,2,3] [] [] [8,11,23,24,168] 0 ⟨[(8,tI v27.2),(11,tI v8.1),(23,.tv (fzL 2 c37 v27.1)),(24,tI v28),(168,tB (decide (v28 < (v27.1.length:Int))))],[]⟩ rfl ?_ z0 trivial ?_
       ·kernel_rfl
       refine AOps.nil ?_
       refine AWp.cond rfl (fun hb=>?_) fun hb=>?_
       ·replace h:=of_true h hb
        refine AWp.keepTo [8,11,23,24] 0 ⟨[(8,tI v27.2),(11,tI v8.1),(23,.tv (fzL 2 c37 v27.1)),(24,tI v28)],[]⟩ ?_ z0 ?_
        ·kernel_rfl
        refine AWp.skip ?_
        refine AWp.seq ?_
        refine AWp.block ?_
        refine AWp.seq ?_
        obtain ⟨hg,h⟩:=of_guard h
        refine AWp.start [0,1,2,3,4,5,6] [7,8,9,10,11,12,13,14] [(0:Int) ≤ v28,v28 < (v27.1.length:Int)] [8,11,23,24,177] 0 ⟨[(8,tI v27.2),(11,tI v8.1),(23,.tv (fzL 2 c37 v27.1)),(24,tI v28),(177,tB (decide ((gD v27.1 v28).f1 < (0:Int))))],[]⟩ rfl ?_ z0 ⟨hg.1,hg.2⟩ ?_
        ·kernel_rfl
        obtain ⟨v29,hc7,h⟩:=of_bind h
        refine AOps.cut [7,8,9,10,11,12,13,14] [] (fun σ=>σ = ⟨[(8,tI v27.2),(11,tI v8.1),(23,.tv (fzL 2 c37 v27.1)),(24,tI v28),(185,tB v29)],[]⟩) ?_ fun σ' hJ=>?_
        ·refine AOps.split (fun b=>⟨[(8,tI v27.2),(11,tI v8.1),(23,.tv (fzL 2 c37 v27.1)),(24,tI v28),(177,tB b)],[]⟩) _ (fun hb=>?_) fun hb=>?_
         ·replace hc7:=of_true hc7 hb
          refine AOps.go [7,8,9,10,11,12,13,14] [] [] [8,11,23,24,185] 0 ⟨[(8,tI v27.2),(11,tI v8.1),(23,.tv (fzL 2 c37 v27.1)),(24,tI v28),(185,tB true)],[]⟩ ?_ z0 trivial ?_
          ·kernel_rfl
          cases hc7
          exact AOps.nil rfl
         ·replace hc7:=of_false hc7 hb
          obtain ⟨hg,hc7⟩:=of_guard hc7
          refine AOps.go [7,8,9,10,11,12,13,14] [] [(0:Int) ≤ v28,v28 < (v27.1.length:Int)] [8,11,23,24,185] 0 ⟨[(8,tI v27.2),(11,tI v8.1),(23,.tv (fzL 2 c37 v27.1)),(24,tI v28),(185,tB (decide ((gD v27.1 v28).f1 > v8.1)))],[]⟩ ?_ z0 ⟨hg.1,hg.2⟩ ?_
          ·kernel_rfl
          cases hc7
          exact AOps.nil rfl
        subst hJ
        refine AOps.nil ?_
        refine AWp.cond rfl (fun hb=>?_) fun hb=>?_
        ·replace h:=of_true h hb
         refine AWp.keepTo [] 0 ⟨[],[]⟩ ?_ z0 ?_
         ·kernel_rfl
         refine AWp.seq ?_
         refine AWp.start [0] [] [] [6] 0 ⟨[(6,tB false)],[]⟩ rfl ?_ z0 trivial ?_
         ·kernel_rfl
         refine AOps.nil ?_
         refine AWp.ret ?_
         cases h
         exact Or.inr ⟨_,rfl,by simp,rfl,rfl⟩
        ·replace h:=of_false h hb
         refine AWp.keepTo [8,11,23,24] 0 ⟨[(8,tI v27.2),(11,tI v8.1),(23,.tv (fzL 2 c37 v27.1)),(24,tI v28)],[]⟩ ?_ z0 ?_
         ·kernel_rfl
         refine AWp.skip ?_
         refine AWp.start [0,1,2] [] [] [8,11,23,24] 0 ⟨[(8,tI v27.2),(11,tI v8.1),(23,.tv (fzL 2 c37 v27.1)),(24,tI (w64 (v28 + (1:Int))))],[]⟩ rfl ?_ z0 trivial ?_
         ·kernel_rfl
         refine AOps.nil ?_
         cases h
         exact Or.inl ⟨_,rfl,rfl,rfl⟩
       ·replace h:=of_false h hb
        refine AWp.keepTo [8] 0 ⟨[(8,tI v27.2)],[]⟩ ?_ z0 ?_
        ·kernel_rfl
        refine AWp.exit ?_
        cases h
        exact Or.inr ⟨_,rfl,by simp,rfl,rfl⟩
      ·intro e σ hp
       rcases y with v30 | _
       ·obtain ⟨rfl,rfl⟩:=hp
        cases h
        exact ⟨.inr rfl,rfl⟩
       ·obtain ⟨rfl,rfl⟩:=hp
        refine AWp.seq ?_
        refine AWp.start [0,1,2] [3,4,5] [] [188] 0 ⟨[(188,tB (v27.2 == (0:Int)))],[]⟩ rfl ?_ z0 trivial ?_
        ·kernel_rfl
        obtain ⟨v31,hc3,h⟩:=of_bind h
        refine AOps.cut [3,4] [5] (fun σ=>σ = ⟨[(190,tB v31)],[]⟩) ?_ fun σ' hJ=>?_
        ·refine AOps.split (fun b=>⟨[(188,tB b)],[]⟩) _ (fun hb=>?_) fun hb=>?_
         ·replace hc3:=of_true hc3 hb
          obtain ⟨v32,hv32,hc3⟩:=of_bind hc3
          refine AOps.cons (AOne.callP (F:=(FF 191 0)) _ rfl rfl rfl _ rfl rfl _ _ rfl Tryz.call5 [] rfl rfl (f5_ok  hv32) rfl) ?_
          refine AOps.go [4] [] [] [190] 0 ⟨[(190,tB v32)],[]⟩ ?_ z0 trivial ?_
          ·kernel_rfl
          cases hc3
          exact AOps.nil rfl
         ·replace hc3:=of_false hc3 hb
          refine AOps.go [3,4] [] [] [190] 0 ⟨[(190,tB false)],[]⟩ ?_ z0 trivial ?_
          ·kernel_rfl
          cases hc3
          exact AOps.nil rfl
        subst hJ
        refine AOps.go [5] [] [] [6] 0 ⟨[(6,tB v31)],[]⟩ ?_ z0 trivial ?_
        ·kernel_rfl
        refine AOps.nil ?_
        refine AWp.ret ?_
        cases h
        exact ⟨.inr rfl,rfl⟩

end Go.Sx.top
