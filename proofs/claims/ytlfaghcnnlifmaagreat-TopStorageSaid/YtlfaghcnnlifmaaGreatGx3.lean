/- Printed by program (wip/gen): plain functions and their walks; no condition. -/
import Derived.Test.YtlfaghcnnlifmaaGreatGx2
namespace Go.Sx.top
open Go Go.Sx Go.Proofs

noncomputable def f109_110_b1 (v1:List UInt8) (v2:Int):Option (Int ⊕ Out Int Int) :=
 (cond (decide (v2 < (v1.length:Int))) (if (0:Int) ≤ v2 ∧ v2 < (v1.length:Int) then (f110 (((v1.getD v2.toNat 0).toNat:Nat):Int)).bind fun v5=>some v5 else none) (some false)).bind fun v4=>cond v4 (some (.inl (w64 (v2 + (1:Int))))) (some (.inr (.go v2)))

noncomputable def f109_110 (v1:List UInt8):Option Int :=
 (iter (fun s=>f109_110_b1 v1 s) (0:Int)).bind fun y=>match y with | .ret v6=>some v6 | .go v3=>some v3

theorem f109_110_ok (v1:List UInt8) {r:Int} (h:f109_110 v1 = some r):ACall Tryz.prog 109 [.tv (.str v1),.fn 110 []] [] (.tv (.int .i64 r)) []:=by
 refine ACall.of1 (FF 20 0) Tryz.func109 rfl Tryz.ntmps109 Tryz.results109 (zz rfl) rfl rfl ?_
 refine AWp.seq ?_
 refine AWp.start [0] [] [] [0,1] 0 ⟨[(0,tS v1),(1,.fn 110 [])],[]⟩ rfl ?_ z0 trivial ?_
 ·kernel_rfl
 refine AOps.nil ?_
 refine AWp.seq ?_
 refine AWp.start [0] [] [] [0,1,5] 0 ⟨[(0,tS v1),(1,.fn 110 []),(5,tI (0:Int))],[]⟩ rfl ?_ z0 trivial ?_
 ·kernel_rfl
 refine AOps.nil ?_
 refine AWp.seq ?_
 refine AWp.block ?_
 obtain ⟨y,hy,h⟩:=of_bind h
 refine AWp.mono (AWp.loop (S:=Int) (Y:=Out Int Int) (fun s=>⟨[(0,tS v1),(1,.fn 110 []),(5,tI s)],[]⟩) (fun s=>f109_110_b1 v1 s) (fun y e σ=>match y with | .ret r=>e = .ret ∧ σ = ⟨[(4,tI r)],[]⟩ | .go v=>e = .exit 0 ∧ σ = ⟨[(5,tI v)],[]⟩) ?_ hy) ?_
 ·rintro v2 o h
  refine AWp.seq ?_
  refine AWp.seq ?_
  refine AWp.start [0,1,2,3,4] [5,6,7,8,9,10] [] [0,1,5,10] 0 ⟨[(0,tS v1),(1,.fn 110 []),(5,tI v2),(10,tB (decide (v2 < (v1.length:Int))))],[]⟩ rfl ?_ z0 trivial ?_
  ·kernel_rfl
  obtain ⟨v4,hc5,h⟩:=of_bind h
  refine AOps.cut [5,6,7,8,9,10] [] (fun σ=>σ = ⟨[(0,tS v1),(1,.fn 110 []),(5,tI v2),(16,tB v4)],[]⟩) ?_ fun σ' hJ=>?_
  ·refine AOps.split (fun b=>⟨[(0,tS v1),(1,.fn 110 []),(5,tI v2),(10,tB b)],[]⟩) _ (fun hb=>?_) fun hb=>?_
   ·replace hc5:=of_true hc5 hb
    obtain ⟨hg,hc5⟩:=of_guard hc5
    refine AOps.go [5,6,7,8] [9,10] [(0:Int) ≤ v2,v2 < (v1.length:Int)] [0,1,5,10,11,14] 0 ⟨[(0,tS v1),(1,.fn 110 []),(5,tI v2),(10,tB true),(11,.fn 110 []),(14,.tv (.int .u8 (((v1.getD v2.toNat 0).toNat:Nat):Int)))],[]⟩ ?_ z0 ⟨hg.1,hg.2⟩ ?_
    ·kernel_rfl
    obtain ⟨v5,hv5,hc5⟩:=of_bind hc5
    refine AOps.cons (AOne.callP (F:=(FF 20 0)) _ rfl rfl rfl _ rfl rfl _ _ rfl Tryz.call110 [.tv (.int .u8 (((v1.getD v2.toNat 0).toNat:Nat):Int))] rfl rfl (f110_ok (((v1.getD v2.toNat 0).toNat:Nat):Int) hv5) rfl) ?_
    refine AOps.go [10] [] [] [0,1,5,16] 0 ⟨[(0,tS v1),(1,.fn 110 []),(5,tI v2),(16,tB v5)],[]⟩ ?_ z0 trivial ?_
    ·kernel_rfl
    cases hc5
    exact AOps.nil rfl
   ·replace hc5:=of_false hc5 hb
    refine AOps.go [5,6,7,8,9,10] [] [] [0,1,5,16] 0 ⟨[(0,tS v1),(1,.fn 110 []),(5,tI v2),(16,tB false)],[]⟩ ?_ z0 trivial ?_
    ·kernel_rfl
    cases hc5
    exact AOps.nil rfl
  subst hJ
  refine AOps.nil ?_
  refine AWp.cond rfl (fun hb=>?_) fun hb=>?_
  ·replace h:=of_true h hb
   refine AWp.keepTo [0,1,5] 0 ⟨[(0,tS v1),(1,.fn 110 []),(5,tI v2)],[]⟩ ?_ z0 ?_
   ·kernel_rfl
   refine AWp.skip ?_
   refine AWp.block ?_
   refine AWp.start [0,1,2] [] [] [0,1,5] 0 ⟨[(0,tS v1),(1,.fn 110 []),(5,tI (w64 (v2 + (1:Int))))],[]⟩ rfl ?_ z0 trivial ?_
   ·kernel_rfl
   refine AOps.nil ?_
   cases h
   exact Or.inl ⟨_,rfl,rfl,rfl⟩
  ·replace h:=of_false h hb
   refine AWp.keepTo [5] 0 ⟨[(5,tI v2)],[]⟩ ?_ z0 ?_
   ·kernel_rfl
   refine AWp.exit ?_
   cases h
   exact Or.inr ⟨_,rfl,by simp,rfl,rfl⟩
 ·intro e σ hp
  rcases y with v6 | v3
  ·obtain ⟨rfl,rfl⟩:=hp
   cases h
   exact ⟨.inr rfl,rfl⟩
  ·obtain ⟨rfl,rfl⟩:=hp
   refine AWp.seq ?_
   refine AWp.start [0,1] [] [] [4] 0 ⟨[(4,tI v3)],[]⟩ rfl ?_ z0 trivial ?_
   ·kernel_rfl
   refine AOps.nil ?_
   refine AWp.ret ?_
   cases h
   exact ⟨.inr rfl,rfl⟩

noncomputable def f111_j1 (v3:Int) (v5:List Int):Option (((List Int) × Int) ⊕ Out (List UInt8) (List Int)) :=
 some (.inl (v5,w64 (v3 + (1:Int))))

noncomputable def f111_b2 (v1:List UInt8) (v2:List Int) (v3:Int):Option (((List Int) × Int) ⊕ Out (List UInt8) (List Int)) :=
 cond (decide (v3 < ((v1.map (fun b=>(b.toNat:Int))).length:Int))) (if (0:Int) ≤ v3 ∧ v3 < (v2.length:Int) then (cond (decide (v2.getD v3.toNat default ≥ (65:Int))) (some (decide (v2.getD v3.toNat default ≤ (90:Int)))) (some false)).bind fun v6=>cond v6 (if (0:Int) ≤ v3 ∧ v3 < (v2.length:Int) then f111_j1 v3 (v2.set v3.toNat (IntKind.wrap .u8 ((IntKind.wrap .u8 ((v2.getD v3.toNat default) - (65:Int))) + (97:Int)))) else none) (f111_j1 v3 v2) else none) (some (.inr (.go v2)))

noncomputable def f111 (v1:List UInt8):Option (List UInt8) :=
 if (v1.length:Int) ≤ 9223372036854775807 then (iter (fun s=>f111_b2 v1 s.1 s.2) (v1.map (fun b=>(b.toNat:Int)),(0:Int))).bind fun y=>match y with | .ret v7=>some v7 | .go v4=>some (v4.map (fun n=>UInt8.ofNat n.toNat)) else none

theorem f111_ok (v1:List UInt8) {r:(List UInt8)} (h:f111 v1 = some r):ACall Tryz.prog 111 [.tv (.str v1)] [] (.tv (.str r)) []:=by
 refine ACall.of1 (FF 30 0) Tryz.func111 rfl Tryz.ntmps111 Tryz.results111 (zz rfl) rfl rfl ?_
 refine AWp.seq ?_
 refine AWp.start [0] [] [] [0] 0 ⟨[(0,tS v1)],[]⟩ rfl ?_ z0 trivial ?_
 ·kernel_rfl
 refine AOps.nil ?_
 refine AWp.seq ?_
 obtain ⟨hg,h⟩:=of_guard h
 refine AWp.start [0,1] [2] [(v1.length:Int) ≤ 9223372036854775807] [7] 0 ⟨[(7,.tv (.own 1 5 v1.length (fun i=>[.int .u8 (((v1.getD i 0).toNat:Nat):Int)])))],[]⟩ rfl ?_ z0 hg ?_
 ·kernel_rfl
 refine AOps.extL 7 (cInt .u8) (v1.map (fun b=>(b.toNat:Int))) rfl (by simp) (bytes_at _) ?_
 refine AOps.go [2] [] [] [3] 0 ⟨[(3,.tv (ownL 1 5 (cInt .u8) (v1.map (fun b=>(b.toNat:Int)))))],[]⟩ ?_ z0 trivial ?_
 ·kernel_rfl
 refine AOps.nil ?_
 refine AWp.seq ?_
 refine AWp.seq ?_
 refine AWp.start [0,1,2] [] [] [3,8,9,10] 0 ⟨[(3,.tv (ownL 1 5 (cInt .u8) (v1.map (fun b=>(b.toNat:Int))))),(8,.al (.slot 3 0,[])),(9,tI ((v1.map (fun b=>(b.toNat:Int))).length:Int)),(10,tI (0:Int))],[]⟩ rfl ?_ z0 trivial ?_
 ·kernel_rfl
 refine AOps.nil ?_
 refine AWp.block ?_
 obtain ⟨y,hy,h⟩:=of_bind h
 refine AWp.mono (AWp.loop (S:=(List Int) × Int) (Y:=Out (List UInt8) (List Int)) (fun s=>⟨[(3,.tv (ownL 1 5 (cInt .u8) s.1)),(8,.al (.slot 3 0,[])),(9,tI ((v1.map (fun b=>(b.toNat:Int))).length:Int)),(10,tI s.2)],[]⟩) (fun s=>f111_b2 v1 s.1 s.2) (fun y e σ=>match y with | .ret r=>e = .ret ∧ σ = ⟨[(2,tS r)],[]⟩ | .go v=>e = .exit 0 ∧ σ = ⟨[(3,.tv (ownL 1 5 (cInt .u8) v))],[]⟩) ?_ hy) ?_
 ·rintro ⟨v2,v3⟩ o h
  refine AWp.seq ?_
  refine AWp.start [0] [] [] [3,8,9,10,11] 0 ⟨[(3,.tv (ownL 1 5 (cInt .u8) v2)),(8,.al (.slot 3 0,[])),(9,tI ((v1.map (fun b=>(b.toNat:Int))).length:Int)),(10,tI v3),(11,tB (decide (v3 < ((v1.map (fun b=>(b.toNat:Int))).length:Int))))],[]⟩ rfl ?_ z0 trivial ?_
  ·kernel_rfl
  refine AOps.nil ?_
  refine AWp.seq ?_
  refine AWp.cond rfl (fun hb=>?_) fun hb=>?_
  ·replace h:=of_true h hb
   refine AWp.keepTo [3,8,9,10] 0 ⟨[(3,.tv (ownL 1 5 (cInt .u8) v2)),(8,.al (.slot 3 0,[])),(9,tI ((v1.map (fun b=>(b.toNat:Int))).length:Int)),(10,tI v3)],[]⟩ ?_ z0 ?_
   ·kernel_rfl
   refine AWp.skip ?_
   refine AWp.join (V:=(List Int)) (fun w=>⟨[(3,.tv (ownL 1 5 (cInt .u8) w)),(8,.al (.slot 3 0,[])),(9,tI ((v1.map (fun b=>(b.toNat:Int))).length:Int)),(10,tI v3)],[]⟩) (fun w=>f111_j1 v3 w = some o) ?_ ?_
   ·refine AWp.block ?_
    refine AWp.seq ?_
    obtain ⟨hg,h⟩:=of_guard h
    refine AWp.start [0,1,2,3,4] [] [(0:Int) ≤ v3,v3 < (v2.length:Int)] [3,4,5,8,9,10] 0 ⟨[(3,.tv (ownL 1 5 (cInt .u8) v2)),(4,tI v3),(5,.tv (.int .u8 (gD v2 v3))),(8,.al (.slot 3 0,[])),(9,tI ((v1.map (fun b=>(b.toNat:Int))).length:Int)),(10,tI v3)],[]⟩ rfl ?_ z0 ⟨hg.1,hg.2⟩ ?_
    ·kernel_rfl
    refine AOps.nil ?_
    refine AWp.seq ?_
    refine AWp.start [0,1,2] [3,4,5] [] [3,4,5,8,9,10,17] 0 ⟨[(3,.tv (ownL 1 5 (cInt .u8) v2)),(4,tI v3),(5,.tv (.int .u8 (gD v2 v3))),(8,.al (.slot 3 0,[])),(9,tI ((v1.map (fun b=>(b.toNat:Int))).length:Int)),(10,tI v3),(17,tB (decide (gD v2 v3 ≥ (65:Int))))],[]⟩ rfl ?_ z0 trivial ?_
    ·kernel_rfl
    obtain ⟨v6,hc3,h⟩:=of_bind h
    refine AOps.cut [3,4,5] [] (fun σ=>σ = ⟨[(3,.tv (ownL 1 5 (cInt .u8) v2)),(4,tI v3),(5,.tv (.int .u8 (gD v2 v3))),(8,.al (.slot 3 0,[])),(9,tI ((v1.map (fun b=>(b.toNat:Int))).length:Int)),(10,tI v3),(20,tB v6)],[]⟩) ?_ fun σ' hJ=>?_
    ·refine AOps.split (fun b=>⟨[(3,.tv (ownL 1 5 (cInt .u8) v2)),(4,tI v3),(5,.tv (.int .u8 (gD v2 v3))),(8,.al (.slot 3 0,[])),(9,tI ((v1.map (fun b=>(b.toNat:Int))).length:Int)),(10,tI v3),(17,tB b)],[]⟩) _ (fun hb=>?_) fun hb=>?_
     ·replace hc3:=of_true hc3 hb
      refine AOps.go [3,4,5] [] [] [3,4,5,8,9,10,20] 0 ⟨[(3,.tv (ownL 1 5 (cInt .u8) v2)),(4,tI v3),(5,.tv (.int .u8 (gD v2 v3))),(8,.al (.slot 3 0,[])),(9,tI ((v1.map (fun b=>(b.toNat:Int))).length:Int)),(10,tI v3),(20,tB (decide (gD v2 v3 ≤ (90:Int))))],[]⟩ ?_ z0 trivial ?_
      ·kernel_rfl
      cases hc3
      exact AOps.nil rfl
     ·replace hc3:=of_false hc3 hb
      refine AOps.go [3,4,5] [] [] [3,4,5,8,9,10,20] 0 ⟨[(3,.tv (ownL 1 5 (cInt .u8) v2)),(4,tI v3),(5,.tv (.int .u8 (gD v2 v3))),(8,.al (.slot 3 0,[])),(9,tI ((v1.map (fun b=>(b.toNat:Int))).length:Int)),(10,tI v3),(20,tB false)],[]⟩ ?_ z0 trivial ?_
      ·kernel_rfl
      cases hc3
      exact AOps.nil rfl
    subst hJ
    refine AOps.nil ?_
    refine AWp.cond rfl (fun hb=>?_) fun hb=>?_
    ·replace h:=of_true h hb
     refine AWp.keepTo [3,4,5,8,9,10] 0 ⟨[(3,.tv (ownL 1 5 (cInt .u8) v2)),(4,tI v3),(5,.tv (.int .u8 (gD v2 v3))),(8,.al (.slot 3 0,[])),(9,tI ((v1.map (fun b=>(b.toNat:Int))).length:Int)),(10,tI v3)],[]⟩ ?_ z0 ?_
     ·kernel_rfl
     obtain ⟨hg,h⟩:=of_guard h
     refine AWp.start [0,1,2,3,4,5,6] [] [(0:Int) ≤ v3,v3 < (v2.length:Int),PlainTo v2.length (fun i=>(cInt .u8) (v2.getD i default))] [3,8,9,10] 0 ⟨[(3,.tv (.own 1 5 v2.length (setElem (fun i=>(cInt .u8) (v2.getD i default)) v3.toNat (putAt ((cInt .u8) (gD v2 v3)) 0 [.int .u8 (IntKind.wrap .u8 ((IntKind.wrap .u8 ((gD v2 v3) - (65:Int))) + (97:Int)))])))),(8,.al (.slot 3 0,[])),(9,tI ((v1.map (fun b=>(b.toNat:Int))).length:Int)),(10,tI v3)],[]⟩ rfl ?_ z0 ⟨hg.1,hg.2,(fun _ _=>rfl)⟩ ?_
     ·kernel_rfl
     refine AOps.extL 3 (cInt .u8) (v2.set v3.toNat (IntKind.wrap .u8 ((IntKind.wrap .u8 ((gD v2 v3) - (65:Int))) + (97:Int)))) rfl (by simp) (set_at (cInt .u8) v2 v3.toNat 0 [.int .u8 (IntKind.wrap .u8 ((IntKind.wrap .u8 ((gD v2 v3) - (65:Int))) + (97:Int)))] (IntKind.wrap .u8 ((IntKind.wrap .u8 ((gD v2 v3) - (65:Int))) + (97:Int))) rfl) ?_
     refine AOps.keepTo [3,8,9,10] 0 ⟨[(3,.tv (ownL 1 5 (cInt .u8) (v2.set v3.toNat (IntKind.wrap .u8 ((IntKind.wrap .u8 ((gD v2 v3) - (65:Int))) + (97:Int)))))),(8,.al (.slot 3 0,[])),(9,tI ((v1.map (fun b=>(b.toNat:Int))).length:Int)),(10,tI v3)],[]⟩ ?_ z0 ?_
     ·kernel_rfl
     refine AOps.nil ?_
     exact ⟨v2.set v3.toNat (IntKind.wrap .u8 ((IntKind.wrap .u8 ((gD v2 v3) - (65:Int))) + (97:Int))),h,rfl⟩
    ·replace h:=of_false h hb
     refine AWp.keepTo [3,8,9,10] 0 ⟨[(3,.tv (ownL 1 5 (cInt .u8) v2)),(8,.al (.slot 3 0,[])),(9,tI ((v1.map (fun b=>(b.toNat:Int))).length:Int)),(10,tI v3)],[]⟩ ?_ z0 ?_
     ·kernel_rfl
     refine AWp.skip ?_
     exact ⟨v2,h,rfl⟩
   ·rintro v5 h
    refine AWp.start [0,1] [] [] [3,8,9,10] 0 ⟨[(3,.tv (ownL 1 5 (cInt .u8) v5)),(8,.al (.slot 3 0,[])),(9,tI ((v1.map (fun b=>(b.toNat:Int))).length:Int)),(10,tI (w64 (v3 + (1:Int))))],[]⟩ rfl ?_ z0 trivial ?_
    ·kernel_rfl
    refine AOps.nil ?_
    cases h
    exact Or.inl ⟨_,rfl,rfl,rfl⟩
  ·replace h:=of_false h hb
   refine AWp.keepTo [3] 0 ⟨[(3,.tv (ownL 1 5 (cInt .u8) v2))],[]⟩ ?_ z0 ?_
   ·kernel_rfl
   refine AWp.exit ?_
   cases h
   exact Or.inr ⟨_,rfl,by simp,rfl,rfl⟩
 ·intro e σ hp
  rcases y with v7 | v4
  ·obtain ⟨rfl,rfl⟩:=hp
   cases h
   exact ⟨.inr rfl,rfl⟩
  ·obtain ⟨rfl,rfl⟩:=hp
   refine AWp.seq ?_
   refine AWp.start [0] [1,2] [] [3,28] 0 ⟨[(3,.tv (ownL 1 5 (cInt .u8) v4)),(28,.al (.slot 3 0,[]))],[]⟩ rfl ?_ z0 trivial ?_
   ·kernel_rfl
   refine AOps.cons (AOne.str (F:=(FF 30 0)) _ rfl rfl rfl _ rfl rfl rfl rfl rfl (n:=v4.length) (f:=(fun i=>(cInt .u8) (v4.getD i default))) rfl v4 rfl (fun _ _=>rfl)) ?_
   refine AOps.go [2] [] [] [2] 0 ⟨[(2,tS (v4.map (fun n=>UInt8.ofNat n.toNat)))],[]⟩ ?_ z0 trivial ?_
   ·kernel_rfl
   refine AOps.nil ?_
   refine AWp.ret ?_
   cases h
   exact ⟨.inr rfl,rfl⟩

noncomputable def f86 (v1:List UInt8):Option Bool :=
 (cond (!(v1 == ([]:List UInt8))) (some (decide ((v1.length:Int) ≤ (12:Int)))) (some false)).bind fun v2=>(cond v2 (if (0:Int) < (v1.length:Int) then (f108 (((v1.getD 0 0).toNat:Nat):Int)).bind fun v4=>some v4 else none) (some false)).bind fun v3=>(cond v3 ((f109_110 v1).bind fun v6=>some (v6 == (v1.length:Int))) (some false)).bind fun v5=>(cond v5 ((f111 v1).bind fun v8=>some (v1 == v8)) (some false)).bind fun v7=>some v7

theorem f86_ok (v1:List UInt8) {r:Bool} (h:f86 v1 = some r):ACall Tryz.prog 86 [.tv (.str v1)] [] (.tv (.bool r)) []:=by
 refine ACall.of1 (FF 28 0) Tryz.func86 rfl Tryz.ntmps86 Tryz.results86 (zz rfl) rfl rfl ?_
 refine AWp.seq ?_
 refine AWp.start [0] [] [] [0] 0 ⟨[(0,tS v1)],[]⟩ rfl ?_ z0 trivial ?_
 ·kernel_rfl
 refine AOps.nil ?_
 refine AWp.seq ?_
 refine AWp.start [0,1,2] [3,4,5,6,7,8,9,10,11,12,13,14,15,16,17,18,19,20,21,22,23,24,25] [] [0,5] 0 ⟨[(0,tS v1),(5,tB (!(v1 == ([]:List UInt8))))],[]⟩ rfl ?_ z0 trivial ?_
 ·kernel_rfl
 obtain ⟨v2,hc3,h⟩:=of_bind h
 refine AOps.cut [3,4,5,6] [7,8,9,10,11,12,13,14,15,16,17,18,19,20,21,22,23,24,25] (fun σ=>σ = ⟨[(0,tS v1),(9,tB v2)],[]⟩) ?_ fun σ' hJ=>?_
 ·refine AOps.split (fun b=>⟨[(0,tS v1),(5,tB b)],[]⟩) _ (fun hb=>?_) fun hb=>?_
  ·replace hc3:=of_true hc3 hb
   refine AOps.go [3,4,5,6] [] [] [0,9] 0 ⟨[(0,tS v1),(9,tB (decide ((v1.length:Int) ≤ (12:Int))))],[]⟩ ?_ z0 trivial ?_
   ·kernel_rfl
   cases hc3
   exact AOps.nil rfl
  ·replace hc3:=of_false hc3 hb
   refine AOps.go [3,4,5,6] [] [] [0,9] 0 ⟨[(0,tS v1),(9,tB false)],[]⟩ ?_ z0 trivial ?_
   ·kernel_rfl
   cases hc3
   exact AOps.nil rfl
 subst hJ
 refine AOps.go [7] [8,9,10,11,12,13,14,15,16,17,18,19,20,21,22,23,24,25] [] [0,10] 0 ⟨[(0,tS v1),(10,tB v2)],[]⟩ ?_ z0 trivial ?_
 ·kernel_rfl
 obtain ⟨v3,hc8,h⟩:=of_bind h
 refine AOps.cut [8,9,10,11] [12,13,14,15,16,17,18,19,20,21,22,23,24,25] (fun σ=>σ = ⟨[(0,tS v1),(14,tB v3)],[]⟩) ?_ fun σ' hJ=>?_
 ·refine AOps.split (fun b=>⟨[(0,tS v1),(10,tB b)],[]⟩) _ (fun hb=>?_) fun hb=>?_
  ·replace hc8:=of_true hc8 hb
   obtain ⟨hg,hc8⟩:=of_guard hc8
   refine AOps.go [8,9] [10,11] [(0:Int) ≤ (0:Int),(0:Int) < (v1.length:Int)] [0,10,12] 0 ⟨[(0,tS v1),(10,tB true),(12,.tv (.int .u8 (((v1.getD 0 0).toNat:Nat):Int)))],[]⟩ ?_ z0 ⟨(by decide:(0:Int) ≤ (0:Int)),hg⟩ ?_
   ·kernel_rfl
   obtain ⟨v4,hv4,hc8⟩:=of_bind hc8
   refine AOps.cons (AOne.callP (F:=(FF 28 0)) _ rfl rfl rfl _ rfl rfl _ _ rfl Tryz.call108 [.tv (.int .u8 (((v1.getD 0 0).toNat:Nat):Int))] rfl rfl (f108_ok (((v1.getD 0 0).toNat:Nat):Int) hv4) rfl) ?_
   refine AOps.go [11] [] [] [0,14] 0 ⟨[(0,tS v1),(14,tB v4)],[]⟩ ?_ z0 trivial ?_
   ·kernel_rfl
   cases hc8
   exact AOps.nil rfl
  ·replace hc8:=of_false hc8 hb
   refine AOps.go [8,9,10,11] [] [] [0,14] 0 ⟨[(0,tS v1),(14,tB false)],[]⟩ ?_ z0 trivial ?_
   ·kernel_rfl
   cases hc8
   exact AOps.nil rfl
 subst hJ
 refine AOps.go [12] [13,14,15,16,17,18,19,20,21,22,23,24,25] [] [0,15] 0 ⟨[(0,tS v1),(15,tB v3)],[]⟩ ?_ z0 trivial ?_
 ·kernel_rfl
 obtain ⟨v5,hc13,h⟩:=of_bind h
 refine AOps.cut [13,14,15,16,17,18] [19,20,21,22,23,24,25] (fun σ=>σ = ⟨[(0,tS v1),(21,tB v5)],[]⟩) ?_ fun σ' hJ=>?_
 ·refine AOps.split (fun b=>⟨[(0,tS v1),(15,tB b)],[]⟩) _ (fun hb=>?_) fun hb=>?_
  ·replace hc13:=of_true hc13 hb
   refine AOps.go [13] [14,15,16,17,18] [] [0,15,16] 0 ⟨[(0,tS v1),(15,tB true),(16,tS v1)],[]⟩ ?_ z0 trivial ?_
   ·kernel_rfl
   obtain ⟨v6,hv6,hc13⟩:=of_bind hc13
   refine AOps.cons (AOne.callP (F:=(FF 28 0)) _ rfl rfl rfl _ rfl rfl _ _ rfl Tryz.call109 [tS v1,.fn 110 []] rfl rfl (f109_110_ok v1 hv6) rfl) ?_
   refine AOps.go [15,16,17,18] [] [] [0,21] 0 ⟨[(0,tS v1),(21,tB (v6 == (v1.length:Int)))],[]⟩ ?_ z0 trivial ?_
   ·kernel_rfl
   cases hc13
   exact AOps.nil rfl
  ·replace hc13:=of_false hc13 hb
   refine AOps.go [13,14,15,16,17,18] [] [] [0,21] 0 ⟨[(0,tS v1),(21,tB false)],[]⟩ ?_ z0 trivial ?_
   ·kernel_rfl
   cases hc13
   exact AOps.nil rfl
 subst hJ
 refine AOps.go [19] [20,21,22,23,24,25] [] [0,22] 0 ⟨[(0,tS v1),(22,tB v5)],[]⟩ ?_ z0 trivial ?_
 ·kernel_rfl
 obtain ⟨v7,hc20,h⟩:=of_bind h
 refine AOps.cut [20,21,22,23,24] [25] (fun σ=>σ = ⟨[(27,tB v7)],[]⟩) ?_ fun σ' hJ=>?_
 ·refine AOps.split (fun b=>⟨[(0,tS v1),(22,tB b)],[]⟩) _ (fun hb=>?_) fun hb=>?_
  ·replace hc20:=of_true hc20 hb
   refine AOps.go [20,21] [22,23,24] [] [22,23,24] 0 ⟨[(22,tB true),(23,tS v1),(24,tS v1)],[]⟩ ?_ z0 trivial ?_
   ·kernel_rfl
   obtain ⟨v8,hv8,hc20⟩:=of_bind hc20
   refine AOps.cons (AOne.callP (F:=(FF 28 0)) _ rfl rfl rfl _ rfl rfl _ _ rfl Tryz.call111 [tS v1] rfl rfl (f111_ok v1 hv8) rfl) ?_
   refine AOps.go [23,24] [] [] [27] 0 ⟨[(27,tB (v1 == v8))],[]⟩ ?_ z0 trivial ?_
   ·kernel_rfl
   cases hc20
   exact AOps.nil rfl
  ·replace hc20:=of_false hc20 hb
   refine AOps.go [20,21,22,23,24] [] [] [27] 0 ⟨[(27,tB false)],[]⟩ ?_ z0 trivial ?_
   ·kernel_rfl
   cases hc20
   exact AOps.nil rfl
 subst hJ
 refine AOps.go [25] [] [] [2] 0 ⟨[(2,tB v7)],[]⟩ ?_ z0 trivial ?_
 ·kernel_rfl
 refine AOps.nil ?_
 refine AWp.ret ?_
 cases h
 exact ⟨.inr rfl,rfl⟩

noncomputable def f85 (v1:T25) (v2:List UInt8):Option Bool :=
 some (v1.f0 == v2)

theorem f85_ok (v1:T25) (v2:List UInt8) {r:Bool} (h:f85 v1 v2 = some r):ACall Tryz.prog 85 [.agg [.str v1.f0,.int .i64 v1.f1,.int .i64 v1.f2],.rp [.str v2]] [] (.tv (.bool r)) []:=by
 refine ACall.of1 (FF 8 0) Tryz.func85 rfl Tryz.ntmps85 Tryz.results85 (zz rfl) rfl rfl ?_
 refine AWp.seq ?_
 refine AWp.start [0,1] [] [] [1,2] 1 ⟨[(1,.rp [.str v2]),(2,.pc 0 0)],[.cells 26 (c25 v1)]⟩ rfl ?_ z0 trivial ?_
 ·kernel_rfl
 refine AOps.nil ?_
 refine AWp.seq ?_
 refine AWp.pin 0 rfl rfl ?_
 refine AWp.keepTo [1,2] 0 ⟨[(1,.rp [.str v2]),(2,.rp (c25 v1))],[]⟩ ?_ z0 ?_
 ·kernel_rfl
 refine AWp.start [0,1,2,3,4] [] [] [3] 0 ⟨[(3,tB (v1.f0 == v2))],[]⟩ rfl ?_ z0 trivial ?_
 ·kernel_rfl
 refine AOps.nil ?_
 refine AWp.ret ?_
 cases h
 exact ⟨.inr rfl,rfl⟩

noncomputable def f84_85_b1 (v1:List T25) (v2:List UInt8) (v3:Int):Option (Int ⊕ Out Int Unit) :=
 cond (decide (v3 < (v1.length:Int))) (if (0:Int) ≤ v3 ∧ v3 < (v1.length:Int) then (f85 (v1.getD v3.toNat default) v2).bind fun v4=>cond v4 (some (.inr (.ret v3))) (some (.inl (w64 (v3 + (1:Int))))) else none) (some (.inr (.go ())))

noncomputable def f84_85 (v1:List T25) (v2:List UInt8):Option Int :=
 (iter (fun s=>f84_85_b1 v1 v2 s) (0:Int)).bind fun y=>match y with | .ret v5=>some v5 | .go _=>some (-1:Int)

theorem f84_85_ok (v1:List T25) (v2:List UInt8) {r:Int} (h:f84_85 v1 v2 = some r):ACall Tryz.prog 84 [.tv (fzL 3 c25 v1),.fn 85 [.rp [.str v2]]] [] (.tv (.int .i64 r)) []:=by
 refine ACall.of1 (FF 19 0) Tryz.func84 rfl Tryz.ntmps84 Tryz.results84 (zz rfl) rfl rfl ?_
 refine AWp.seq ?_
 refine AWp.start [0] [] [] [0,1] 0 ⟨[(0,q0 v1),(1,.fn 85 [.rp [.str v2]])],[]⟩ rfl ?_ z0 trivial ?_
 ·kernel_rfl
 refine AOps.nil ?_
 refine AWp.seq ?_
 refine AWp.seq ?_
 refine AWp.start [0,1,2] [] [] [0,1,7,8] 0 ⟨[(0,q0 v1),(1,.fn 85 [.rp [.str v2]]),(7,tI (v1.length:Int)),(8,tI (0:Int))],[]⟩ rfl ?_ z0 trivial ?_
 ·kernel_rfl
 refine AOps.nil ?_
 refine AWp.block ?_
 obtain ⟨y,hy,h⟩:=of_bind h
 refine AWp.mono (AWp.loop (S:=Int) (Y:=Out Int Unit) (fun s=>⟨[(0,q0 v1),(1,.fn 85 [.rp [.str v2]]),(7,tI (v1.length:Int)),(8,tI s)],[]⟩) (fun s=>f84_85_b1 v1 v2 s) (fun y e σ=>match y with | .ret r=>e = .ret ∧ σ = ⟨[(4,tI r)],[]⟩ | .go v=>e = .exit 0 ∧ σ = ⟨[],[]⟩) ?_ hy) ?_
 ·rintro v3 o h
  refine AWp.seq ?_
  refine AWp.start [0] [] [] [0,1,7,8,9] 0 ⟨[(0,q0 v1),(1,.fn 85 [.rp [.str v2]]),(7,tI (v1.length:Int)),(8,tI v3),(9,tB (decide (v3 < (v1.length:Int))))],[]⟩ rfl ?_ z0 trivial ?_
  ·kernel_rfl
  refine AOps.nil ?_
  refine AWp.seq ?_
  refine AWp.cond rfl (fun hb=>?_) fun hb=>?_
  ·replace h:=of_true h hb
   refine AWp.keepTo [0,1,7,8] 0 ⟨[(0,q0 v1),(1,.fn 85 [.rp [.str v2]]),(7,tI (v1.length:Int)),(8,tI v3)],[]⟩ ?_ z0 ?_
   ·kernel_rfl
   refine AWp.skip ?_
   refine AWp.seq ?_
   refine AWp.block ?_
   refine AWp.seq ?_
   refine AWp.start [0,1] [] [] [0,1,5,7,8] 0 ⟨[(0,q0 v1),(1,.fn 85 [.rp [.str v2]]),(5,tI v3),(7,tI (v1.length:Int)),(8,tI v3)],[]⟩ rfl ?_ z0 trivial ?_
   ·kernel_rfl
   refine AOps.nil ?_
   refine AWp.seq ?_
   obtain ⟨hg,h⟩:=of_guard h
   refine AWp.start [0,1,2,3,4] [5] [(0:Int) ≤ v3,v3 < (v1.length:Int)] [0,1,5,7,8,11,15] 0 ⟨[(0,q0 v1),(1,.fn 85 [.rp [.str v2]]),(5,tI v3),(7,tI (v1.length:Int)),(8,tI v3),(11,.fn 85 [.rp [.str v2]]),(15,.agg (c25 (gD v1 v3)))],[]⟩ rfl ?_ z0 ⟨hg.1,hg.2⟩ ?_
   ·kernel_rfl
   obtain ⟨v4,hv4,h⟩:=of_bind h
   refine AOps.cons (AOne.callP (F:=(FF 19 0)) _ rfl rfl rfl _ rfl rfl _ _ rfl Tryz.call85 [.agg (c25 (gD v1 v3)),.rp [.str v2]] rfl rfl (f85_ok (gD v1 v3) v2 hv4) rfl) ?_
   refine AOps.keepTo [0,1,5,7,8,16] 0 ⟨[(0,q0 v1),(1,.fn 85 [.rp [.str v2]]),(5,tI v3),(7,tI (v1.length:Int)),(8,tI v3),(16,tB v4)],[]⟩ ?_ z0 ?_
   ·kernel_rfl
   refine AOps.nil ?_
   refine AWp.cond rfl (fun hb=>?_) fun hb=>?_
   ·replace h:=of_true h hb
    refine AWp.keepTo [5] 0 ⟨[(5,tI v3)],[]⟩ ?_ z0 ?_
    ·kernel_rfl
    refine AWp.seq ?_
    refine AWp.start [0,1] [] [] [4] 0 ⟨[(4,tI v3)],[]⟩ rfl ?_ z0 trivial ?_
    ·kernel_rfl
    refine AOps.nil ?_
    refine AWp.ret ?_
    cases h
    exact Or.inr ⟨_,rfl,by simp,rfl,rfl⟩
   ·replace h:=of_false h hb
    refine AWp.keepTo [0,1,7,8] 0 ⟨[(0,q0 v1),(1,.fn 85 [.rp [.str v2]]),(7,tI (v1.length:Int)),(8,tI v3)],[]⟩ ?_ z0 ?_
    ·kernel_rfl
    refine AWp.skip ?_
    refine AWp.start [0,1] [] [] [0,1,7,8] 0 ⟨[(0,q0 v1),(1,.fn 85 [.rp [.str v2]]),(7,tI (v1.length:Int)),(8,tI (w64 (v3 + (1:Int))))],[]⟩ rfl ?_ z0 trivial ?_
    ·kernel_rfl
    refine AOps.nil ?_
    cases h
    exact Or.inl ⟨_,rfl,rfl,rfl⟩
  ·replace h:=of_false h hb
   refine AWp.keepTo [] 0 ⟨[],[]⟩ ?_ z0 ?_
   ·kernel_rfl
   refine AWp.exit ?_
   cases h
   exact Or.inr ⟨_,rfl,by simp,rfl,rfl⟩
 ·intro e σ hp
  rcases y with v5 | _
  ·obtain ⟨rfl,rfl⟩:=hp
   cases h
   exact ⟨.inr rfl,rfl⟩
  ·obtain ⟨rfl,rfl⟩:=hp
   refine AWp.seq ?_
   refine AWp.start [0] [] [] [4] 0 ⟨[(4,tI (-1:Int))],[]⟩ rfl ?_ z0 trivial ?_
   ·kernel_rfl
   refine AOps.nil ?_
   refine AWp.ret ?_
   cases h
   exact ⟨.inr rfl,rfl⟩

noncomputable def f44 (v1:List T25) (v2:List UInt8):Option Int :=
 (f84_85 v1 v2).bind fun v3=>some v3

theorem f44_ok (v1:List T25) (v2:List UInt8) {r:Int} (h:f44 v1 v2 = some r):ACall Tryz.prog 44 [.tv (fzL 3 c25 v1),.tv (.str v2)] [] (.tv (.int .i64 r)) []:=by
 refine ACall.of1 (FF 8 0) Tryz.func44 rfl Tryz.ntmps44 Tryz.results44 (zz rfl) rfl rfl ?_
 refine AWp.seq ?_
 refine AWp.start [0,1] [] [] [0,3] 1 ⟨[(0,q0 v1),(3,.pc 0 0)],[.cells 9 [.str v2]]⟩ rfl ?_ z0 trivial ?_
 ·kernel_rfl
 refine AOps.nil ?_
 refine AWp.seq ?_
 refine AWp.pin 0 rfl rfl ?_
 refine AWp.keepTo [0,3] 0 ⟨[(0,q0 v1),(3,.rp [.str v2])],[]⟩ ?_ z0 ?_
 ·kernel_rfl
 refine AWp.start [0,1] [2,3] [] [5,6] 0 ⟨[(5,q0 v1),(6,.fn 85 [.rp [.str v2]])],[]⟩ rfl ?_ z0 trivial ?_
 ·kernel_rfl
 obtain ⟨v3,hv3,h⟩:=of_bind h
 refine AOps.cons (AOne.callP (F:=(FF 8 0)) _ rfl rfl rfl _ rfl rfl _ _ rfl Tryz.call84 [q0 v1,.fn 85 [.rp [.str v2]]] rfl rfl (f84_85_ok v1 v2 hv3) rfl) ?_
 refine AOps.go [3] [] [] [4] 0 ⟨[(4,tI v3)],[]⟩ ?_ z0 trivial ?_
 ·kernel_rfl
 refine AOps.nil ?_
 refine AWp.ret ?_
 cases h
 exact ⟨.inr rfl,rfl⟩

noncomputable def f48_b1 (v1:List T25) (v2:Int):Option (Int ⊕ Out Bool Unit) :=
 cond (decide (v2 < (v1.length:Int))) (if (0:Int) ≤ v2 ∧ v2 < (v1.length:Int) then (cond ((v1.getD v2.toNat default).f1 == (1:Int)) (some true) (some ((v1.getD v2.toNat default).f1 == (2:Int)))).bind fun v3=>(cond v3 (some true) (some ((v1.getD v2.toNat default).f1 == (4:Int)))).bind fun v4=>((f86 ((v1.getD v2.toNat default).f0)).bind fun v6=>cond (!v6) (some true) (cond (!v4) (some true) (cond (decide ((v1.getD v2.toNat default).f2 < (1:Int))) (some true) (cond (decide ((v1.getD v2.toNat default).f2 > (1000:Int))) (some true) (if (0:Int) ≤ v2 ∧ v2 ≤ (v1.length:Int) then (f44 ((v1.take v2.toNat).drop 0) ((v1.getD v2.toNat default).f0)).bind fun v7=>some (decide (v7 ≥ (0:Int))) else none))))).bind fun v5=>cond v5 (some (.inr (.ret false))) (some (.inl (w64 (v2 + (1:Int))))) else none) (some (.inr (.go ())))

noncomputable def f48 (v1:List T25):Option Bool :=
 (iter (fun s=>f48_b1 v1 s) (0:Int)).bind fun y=>match y with | .ret v8=>some v8 | .go _=>some (decide ((v1.length:Int) ≤ (60:Int)))

theorem f48_ok (v1:List T25) {r:Bool} (h:f48 v1 = some r):ACall Tryz.prog 48 [.tv (fzL 3 c25 v1)] [] (.tv (.bool r)) []:=by
 refine ACall.of1 (FF 57 0) Tryz.func48 rfl Tryz.ntmps48 Tryz.results48 (zz rfl) rfl rfl ?_
 refine AWp.seq ?_
 refine AWp.start [0] [] [] [0] 0 ⟨[(0,q0 v1)],[]⟩ rfl ?_ z0 trivial ?_
 ·kernel_rfl
 refine AOps.nil ?_
 refine AWp.seq ?_
 refine AWp.seq ?_
 refine AWp.start [0,1,2] [] [] [0,6,7,8] 0 ⟨[(0,q0 v1),(6,q0 v1),(7,tI (v1.length:Int)),(8,tI (0:Int))],[]⟩ rfl ?_ z0 trivial ?_
 ·kernel_rfl
 refine AOps.nil ?_
 refine AWp.block ?_
 obtain ⟨y,hy,h⟩:=of_bind h
 refine AWp.mono (AWp.loop (S:=Int) (Y:=Out Bool Unit) (fun s=>⟨[(0,q0 v1),(6,q0 v1),(7,tI (v1.length:Int)),(8,tI s)],[]⟩) (fun s=>f48_b1 v1 s) (fun y e σ=>match y with | .ret r=>e = .ret ∧ σ = ⟨[(2,tB r)],[]⟩ | .go v=>e = .exit 0 ∧ σ = ⟨[(0,q0 v1)],[]⟩) ?_ hy) ?_
 ·rintro v2 o h
  refine AWp.seq ?_
  refine AWp.start [0] [] [] [0,6,7,8,9] 0 ⟨[(0,q0 v1),(6,q0 v1),(7,tI (v1.length:Int)),(8,tI v2),(9,tB (decide (v2 < (v1.length:Int))))],[]⟩ rfl ?_ z0 trivial ?_
  ·kernel_rfl
  refine AOps.nil ?_
  refine AWp.seq ?_
  refine AWp.cond rfl (fun hb=>?_) fun hb=>?_
  ·replace h:=of_true h hb
   refine AWp.keepTo [0,6,7,8] 0 ⟨[(0,q0 v1),(6,q0 v1),(7,tI (v1.length:Int)),(8,tI v2)],[]⟩ ?_ z0 ?_
   ·kernel_rfl
   refine AWp.skip ?_
   refine AWp.seq ?_
   refine AWp.block ?_
   refine AWp.seq ?_
   obtain ⟨hg,h⟩:=of_guard h
   refine AWp.start [0,1,2,3,4,5] [] [(0:Int) ≤ v2,v2 < (v1.length:Int)] [0,3,4,6,7,8] 1 ⟨[(0,q0 v1),(3,tI v2),(4,.pc 0 0),(6,q0 v1),(7,tI (v1.length:Int)),(8,tI v2)],[.cells 26 (c25 (gD v1 v2))]⟩ rfl ?_ z0 ⟨hg.1,hg.2⟩ ?_
   ·kernel_rfl
   refine AOps.nil ?_
   refine AWp.seq ?_
   refine AWp.pin 0 rfl rfl ?_
   refine AWp.keepTo [0,3,4,6,7,8] 0 ⟨[(0,q0 v1),(3,tI v2),(4,.rp (c25 (gD v1 v2))),(6,q0 v1),(7,tI (v1.length:Int)),(8,tI v2)],[]⟩ ?_ z0 ?_
   ·kernel_rfl
   refine AWp.start [0,1,2,3] [4,5,6,7,8,9,10,11,12,13] [] [0,3,4,6,7,8,16] 0 ⟨[(0,q0 v1),(3,tI v2),(4,.rp (c25 (gD v1 v2))),(6,q0 v1),(7,tI (v1.length:Int)),(8,tI v2),(16,tB ((gD v1 v2).f1 == (1:Int)))],[]⟩ rfl ?_ z0 trivial ?_
   ·kernel_rfl
   obtain ⟨v3,hc4,h⟩:=of_bind h
   refine AOps.cut [4,5,6,7] [8,9,10,11,12,13] (fun σ=>σ = ⟨[(0,q0 v1),(3,tI v2),(4,.rp (c25 (gD v1 v2))),(6,q0 v1),(7,tI (v1.length:Int)),(8,tI v2),(20,tB v3)],[]⟩) ?_ fun σ' hJ=>?_
   ·refine AOps.split (fun b=>⟨[(0,q0 v1),(3,tI v2),(4,.rp (c25 (gD v1 v2))),(6,q0 v1),(7,tI (v1.length:Int)),(8,tI v2),(16,tB b)],[]⟩) _ (fun hb=>?_) fun hb=>?_
    ·replace hc4:=of_true hc4 hb
     refine AOps.go [4,5,6,7] [] [] [0,3,4,6,7,8,20] 0 ⟨[(0,q0 v1),(3,tI v2),(4,.rp (c25 (gD v1 v2))),(6,q0 v1),(7,tI (v1.length:Int)),(8,tI v2),(20,tB true)],[]⟩ ?_ z0 trivial ?_
     ·kernel_rfl
     cases hc4
     exact AOps.nil rfl
    ·replace hc4:=of_false hc4 hb
     refine AOps.go [4,5,6,7] [] [] [0,3,4,6,7,8,20] 0 ⟨[(0,q0 v1),(3,tI v2),(4,.rp (c25 (gD v1 v2))),(6,q0 v1),(7,tI (v1.length:Int)),(8,tI v2),(20,tB ((gD v1 v2).f1 == (2:Int)))],[]⟩ ?_ z0 trivial ?_
     ·kernel_rfl
     cases hc4
     exact AOps.nil rfl
   subst hJ
   refine AOps.go [8] [9,10,11,12,13] [] [0,3,4,6,7,8,21] 0 ⟨[(0,q0 v1),(3,tI v2),(4,.rp (c25 (gD v1 v2))),(6,q0 v1),(7,tI (v1.length:Int)),(8,tI v2),(21,tB v3)],[]⟩ ?_ z0 trivial ?_
   ·kernel_rfl
   obtain ⟨v4,hc9,h⟩:=of_bind h
   refine AOps.cut [9,10,11,12] [13] (fun σ=>σ = ⟨[(0,q0 v1),(3,tI v2),(4,.rp (c25 (gD v1 v2))),(6,q0 v1),(7,tI (v1.length:Int)),(8,tI v2),(25,tB v4)],[]⟩) ?_ fun σ' hJ=>?_
   ·refine AOps.split (fun b=>⟨[(0,q0 v1),(3,tI v2),(4,.rp (c25 (gD v1 v2))),(6,q0 v1),(7,tI (v1.length:Int)),(8,tI v2),(21,tB b)],[]⟩) _ (fun hb=>?_) fun hb=>?_
    ·replace hc9:=of_true hc9 hb
     refine AOps.go [9,10,11,12] [] [] [0,3,4,6,7,8,25] 0 ⟨[(0,q0 v1),(3,tI v2),(4,.rp (c25 (gD v1 v2))),(6,q0 v1),(7,tI (v1.length:Int)),(8,tI v2),(25,tB true)],[]⟩ ?_ z0 trivial ?_
     ·kernel_rfl
     cases hc9
     exact AOps.nil rfl
    ·replace hc9:=of_false hc9 hb
     refine AOps.go [9,10,11,12] [] [] [0,3,4,6,7,8,25] 0 ⟨[(0,q0 v1),(3,tI v2),(4,.rp (c25 (gD v1 v2))),(6,q0 v1),(7,tI (v1.length:Int)),(8,tI v2),(25,tB ((gD v1 v2).f1 == (4:Int)))],[]⟩ ?_ z0 trivial ?_
     ·kernel_rfl
     cases hc9
     exact AOps.nil rfl
   subst hJ
   refine AOps.go [13] [] [] [0,3,4,5,6,7,8] 0 ⟨[(0,q0 v1),(3,tI v2),(4,.rp (c25 (gD v1 v2))),(5,tB v4),(6,q0 v1),(7,tI (v1.length:Int)),(8,tI v2)],[]⟩ ?_ z0 trivial ?_
   ·kernel_rfl
   refine AOps.nil ?_
   refine AWp.seq ?_
   obtain ⟨v5,hd,h⟩:=of_bind h
   refine AWp.draw FFm (fun σ=>σ = ⟨[(0,q0 v1),(6,q0 v1),(7,tI (v1.length:Int)),(8,tI v2),(52,tB v5)],[]⟩) (n:=27) rfl (ls:=#[n1,n1,n1,n1,n1,n1,n1,n1,n1,n1,n1,n1,n1,n1,n1,n1,n1,n1,n1,n1,n1,n1,n1,n1,n1,n1,n1]) rfl ?_ ?_
   ·refine AAny.go (by kernel_rfl) [0,1] (fuel':=25) rfl [] #[y1,y1,n1,n1,n1,n1,n1,n1,n1,n1,n1,n1,n1,n1,n1,n1,n1,n1,n1,n1,n1,n1,n1,n1,n1,n1,n1] [0,3,4,5,6,7,8,27] 0 ⟨[(0,q0 v1),(3,tI v2),(4,.rp (c25 (gD v1 v2))),(5,tB v4),(6,q0 v1),(7,tI (v1.length:Int)),(8,tI v2),(27,tS ((gD v1 v2).f0))],[]⟩ ?_ z0 trivial ?_
    ·kernel_rfl
    obtain ⟨v6,hv6,hd⟩:=of_bind hd
    refine AAny.serial (i:=2) (fuel:=24) (by kernel_rfl) (AOne.callP (F:=(FF 57 0)) _ rfl rfl rfl _ rfl rfl _ _ rfl Tryz.call86 [tS ((gD v1 v2).f0)] rfl rfl (f86_ok ((gD v1 v2).f0) hv6) rfl) ?_
    refine AAny.keepTo [0,3,4,5,6,7,8,28] 0 ⟨[(0,q0 v1),(3,tI v2),(4,.rp (c25 (gD v1 v2))),(5,tB v4),(6,q0 v1),(7,tI (v1.length:Int)),(8,tI v2),(28,tB v6)],[]⟩ #[y1,y1,y1,n1,n1,n1,n1,n1,n1,n1,n1,n1,n1,n1,n1,n1,n1,n1,n1,n1,n1,n1,n1,n1,n1,n1,n1] ?_ rfl z0 ?_
    ·kernel_rfl
    refine AAny.go (by kernel_rfl) [3,4] (fuel':=22) rfl [] #[y1,y1,y1,y1,y1,n1,n1,n1,n1,n1,n1,n1,n1,n1,n1,n1,n1,n1,n1,n1,n1,n1,n1,n1,n1,n1,n1] [0,3,4,5,6,7,8,30] 0 ⟨[(0,q0 v1),(3,tI v2),(4,.rp (c25 (gD v1 v2))),(5,tB v4),(6,q0 v1),(7,tI (v1.length:Int)),(8,tI v2),(30,tB (!v6))],[]⟩ ?_ z0 trivial ?_
    ·kernel_rfl
    refine AAny.split (fun b=>⟨[(0,q0 v1),(3,tI v2),(4,.rp (c25 (gD v1 v2))),(5,tB v4),(6,q0 v1),(7,tI (v1.length:Int)),(8,tI v2),(30,tB b)],[]⟩) _ (fun hb=>?_) fun hb=>?_
    ·replace hd:=of_true hd hb
     refine AAny.go (by kernel_rfl) [5,6,7,8,9,10,11,12,13,14,15,16,17,18,19,20,21,22,23,24,25,26] (fuel':=0) rfl [] #[y1,y1,y1,y1,y1,y1,y1,y1,y1,y1,y1,y1,y1,y1,y1,y1,y1,y1,y1,y1,y1,y1,y1,y1,y1,y1,y1] [0,6,7,8,52] 0 ⟨[(0,q0 v1),(6,q0 v1),(7,tI (v1.length:Int)),(8,tI v2),(52,tB true)],[]⟩ ?_ z0 trivial ?_
     ·kernel_rfl
     refine AAny.keepTo [0,6,7,8,52] 0 ⟨[(0,q0 v1),(6,q0 v1),(7,tI (v1.length:Int)),(8,tI v2),(52,tB true)],[]⟩ _ ?_ rfl z0 (AAny.done (by kernel_rfl) ?_)
     ·kernel_rfl
     cases hd
     exact rfl
    ·replace hd:=of_false hd hb
     refine AAny.go (by kernel_rfl) [5,6,7,8] (fuel':=18) rfl [] #[y1,y1,y1,y1,y1,y1,y1,y1,y1,n1,n1,n1,n1,n1,n1,n1,n1,n1,n1,n1,n1,n1,n1,n1,n1,n1,n1] [0,3,4,6,7,8,34] 0 ⟨[(0,q0 v1),(3,tI v2),(4,.rp (c25 (gD v1 v2))),(6,q0 v1),(7,tI (v1.length:Int)),(8,tI v2),(34,tB (!v4))],[]⟩ ?_ z0 trivial ?_
     ·kernel_rfl
     refine AAny.split (fun b=>⟨[(0,q0 v1),(3,tI v2),(4,.rp (c25 (gD v1 v2))),(6,q0 v1),(7,tI (v1.length:Int)),(8,tI v2),(34,tB b)],[]⟩) _ (fun hb=>?_) fun hb=>?_
     ·replace hd:=of_true hd hb
      refine AAny.go (by kernel_rfl) [9,10,11,12,13,14,15,16,17,18,19,20,21,22,23,24,25,26] (fuel':=0) rfl [] #[y1,y1,y1,y1,y1,y1,y1,y1,y1,y1,y1,y1,y1,y1,y1,y1,y1,y1,y1,y1,y1,y1,y1,y1,y1,y1,y1] [0,6,7,8,52] 0 ⟨[(0,q0 v1),(6,q0 v1),(7,tI (v1.length:Int)),(8,tI v2),(52,tB true)],[]⟩ ?_ z0 trivial ?_
      ·kernel_rfl
      refine AAny.keepTo [0,6,7,8,52] 0 ⟨[(0,q0 v1),(6,q0 v1),(7,tI (v1.length:Int)),(8,tI v2),(52,tB true)],[]⟩ _ ?_ rfl z0 (AAny.done (by kernel_rfl) ?_)
      ·kernel_rfl
      cases hd
      exact rfl
     ·replace hd:=of_false hd hb
      refine AAny.go (by kernel_rfl) [9,10,11,12,13] (fuel':=13) rfl [] #[y1,y1,y1,y1,y1,y1,y1,y1,y1,y1,y1,y1,y1,y1,n1,n1,n1,n1,n1,n1,n1,n1,n1,n1,n1,n1,n1] [0,3,4,6,7,8,39] 0 ⟨[(0,q0 v1),(3,tI v2),(4,.rp (c25 (gD v1 v2))),(6,q0 v1),(7,tI (v1.length:Int)),(8,tI v2),(39,tB (decide ((gD v1 v2).f2 < (1:Int))))],[]⟩ ?_ z0 trivial ?_
      ·kernel_rfl
      refine AAny.split (fun b=>⟨[(0,q0 v1),(3,tI v2),(4,.rp (c25 (gD v1 v2))),(6,q0 v1),(7,tI (v1.length:Int)),(8,tI v2),(39,tB b)],[]⟩) _ (fun hb=>?_) fun hb=>?_
      ·replace hd:=of_true hd hb
       refine AAny.go (by kernel_rfl) [14,15,16,17,18,19,20,21,22,23,24,25,26] (fuel':=0) rfl [] #[y1,y1,y1,y1,y1,y1,y1,y1,y1,y1,y1,y1,y1,y1,y1,y1,y1,y1,y1,y1,y1,y1,y1,y1,y1,y1,y1] [0,6,7,8,52] 0 ⟨[(0,q0 v1),(6,q0 v1),(7,tI (v1.length:Int)),(8,tI v2),(52,tB true)],[]⟩ ?_ z0 trivial ?_
       ·kernel_rfl
       refine AAny.keepTo [0,6,7,8,52] 0 ⟨[(0,q0 v1),(6,q0 v1),(7,tI (v1.length:Int)),(8,tI v2),(52,tB true)],[]⟩ _ ?_ rfl z0 (AAny.done (by kernel_rfl) ?_)
       ·kernel_rfl
       cases hd
       exact rfl
      ·replace hd:=of_false hd hb
       refine AAny.go (by kernel_rfl) [14,15,16,17,18] (fuel':=8) rfl [] #[y1,y1,y1,y1,y1,y1,y1,y1,y1,y1,y1,y1,y1,y1,y1,y1,y1,y1,y1,n1,n1,n1,n1,n1,n1,n1,n1] [0,3,4,6,7,8,44] 0 ⟨[(0,q0 v1),(3,tI v2),(4,.rp (c25 (gD v1 v2))),(6,q0 v1),(7,tI (v1.length:Int)),(8,tI v2),(44,tB (decide ((gD v1 v2).f2 > (1000:Int))))],[]⟩ ?_ z0 trivial ?_
       ·kernel_rfl
       refine AAny.split (fun b=>⟨[(0,q0 v1),(3,tI v2),(4,.rp (c25 (gD v1 v2))),(6,q0 v1),(7,tI (v1.length:Int)),(8,tI v2),(44,tB b)],[]⟩) _ (fun hb=>?_) fun hb=>?_
       ·replace hd:=of_true hd hb
        refine AAny.go (by kernel_rfl) [19,20,21,22,23,24,25,26] (fuel':=0) rfl [] #[y1,y1,y1,y1,y1,y1,y1,y1,y1,y1,y1,y1,y1,y1,y1,y1,y1,y1,y1,y1,y1,y1,y1,y1,y1,y1,y1] [0,6,7,8,52] 0 ⟨[(0,q0 v1),(6,q0 v1),(7,tI (v1.length:Int)),(8,tI v2),(52,tB true)],[]⟩ ?_ z0 trivial ?_
        ·kernel_rfl
        refine AAny.keepTo [0,6,7,8,52] 0 ⟨[(0,q0 v1),(6,q0 v1),(7,tI (v1.length:Int)),(8,tI v2),(52,tB true)],[]⟩ _ ?_ rfl z0 (AAny.done (by kernel_rfl) ?_)
        ·kernel_rfl
        cases hd
        exact rfl
       ·replace hd:=of_false hd hb
        obtain ⟨hg,hd⟩:=of_guard hd
        refine AAny.go (by kernel_rfl) [19,20,21] (fuel':=5) rfl [(0:Int) ≤ (0:Int),(0:Int) ≤ v2,v2 ≤ (v1.length:Int)] #[y1,y1,y1,y1,y1,y1,y1,y1,y1,y1,y1,y1,y1,y1,y1,y1,y1,y1,y1,y1,y1,y1,n1,n1,n1,n1,n1] [0,4,6,7,8,44,47] 0 ⟨[(0,q0 v1),(4,.rp (c25 (gD v1 v2))),(6,q0 v1),(7,tI (v1.length:Int)),(8,tI v2),(44,tB false),(47,.tv (.fz 3 (v2.toNat - 0) (fun i=>c25 (v1.getD (0 + i) default))))],[]⟩ ?_ z0 ⟨(by decide:(0:Int) ≤ (0:Int)),hg.1,hg.2⟩ ?_
        ·kernel_rfl
        have hb:v2.toNat ≤ v1.length:=by have hh:v2 ≤ (v1.length:Int):=hg.2; omega
        refine AAny.extFzL (s:=47) rfl (sub_len v1 0 v2.toNat hb) (sub_at c25 v1 0 v2.toNat hb) ?_
        refine AAny.go (by kernel_rfl) [22,23] (fuel':=3) rfl [] #[y1,y1,y1,y1,y1,y1,y1,y1,y1,y1,y1,y1,y1,y1,y1,y1,y1,y1,y1,y1,y1,y1,y1,y1,n1,n1,n1] [0,6,7,8,44,47,49] 0 ⟨[(0,q0 v1),(6,q0 v1),(7,tI (v1.length:Int)),(8,tI v2),(44,tB false),(47,q0 ((v1.take v2.toNat).drop 0)),(49,tS ((gD v1 v2).f0))],[]⟩ ?_ z0 trivial ?_
        ·kernel_rfl
        obtain ⟨v7,hv7,hd⟩:=of_bind hd
        refine AAny.serial (i:=24) (fuel:=2) (by kernel_rfl) (AOne.callP (F:=(FF 57 0)) _ rfl rfl rfl _ rfl rfl _ _ rfl Tryz.call44 [q0 ((v1.take v2.toNat).drop 0),tS ((gD v1 v2).f0)] rfl rfl (f44_ok ((v1.take v2.toNat).drop 0) ((gD v1 v2).f0) hv7) rfl) ?_
        refine AAny.keepTo [0,6,7,8,44,50] 0 ⟨[(0,q0 v1),(6,q0 v1),(7,tI (v1.length:Int)),(8,tI v2),(44,tB false),(50,tI v7)],[]⟩ #[y1,y1,y1,y1,y1,y1,y1,y1,y1,y1,y1,y1,y1,y1,y1,y1,y1,y1,y1,y1,y1,y1,y1,y1,y1,n1,n1] ?_ rfl z0 ?_
        ·kernel_rfl
        refine AAny.go (by kernel_rfl) [25,26] (fuel':=0) rfl [] #[y1,y1,y1,y1,y1,y1,y1,y1,y1,y1,y1,y1,y1,y1,y1,y1,y1,y1,y1,y1,y1,y1,y1,y1,y1,y1,y1] [0,6,7,8,52] 0 ⟨[(0,q0 v1),(6,q0 v1),(7,tI (v1.length:Int)),(8,tI v2),(52,tB (decide (v7 ≥ (0:Int))))],[]⟩ ?_ z0 trivial ?_
        ·kernel_rfl
        refine AAny.keepTo [0,6,7,8,52] 0 ⟨[(0,q0 v1),(6,q0 v1),(7,tI (v1.length:Int)),(8,tI v2),(52,tB (decide (v7 ≥ (0:Int))))],[]⟩ _ ?_ rfl z0 (AAny.done (by kernel_rfl) ?_)
        ·kernel_rfl
        cases hd
        exact rfl
   rintro σ' rfl
   refine AWp.cond rfl (fun hb=>?_) fun hb=>?_
   ·replace h:=of_true h hb
    refine AWp.keepTo [] 0 ⟨[],[]⟩ ?_ z0 ?_
    ·kernel_rfl
    refine AWp.seq ?_
    refine AWp.start [0] [] [] [2] 0 ⟨[(2,tB false)],[]⟩ rfl ?_ z0 trivial ?_
    ·kernel_rfl
    refine AOps.nil ?_
    refine AWp.ret ?_
    cases h
    exact Or.inr ⟨_,rfl,by simp,rfl,rfl⟩
   ·replace h:=of_false h hb
    refine AWp.keepTo [0,6,7,8] 0 ⟨[(0,q0 v1),(6,q0 v1),(7,tI (v1.length:Int)),(8,tI v2)],[]⟩ ?_ z0 ?_
    ·kernel_rfl
    refine AWp.skip ?_
    refine AWp.start [0,1] [] [] [0,6,7,8] 0 ⟨[(0,q0 v1),(6,q0 v1),(7,tI (v1.length:Int)),(8,tI (w64 (v2 + (1:Int))))],[]⟩ rfl ?_ z0 trivial ?_
    ·kernel_rfl
    refine AOps.nil ?_
    cases h
    exact Or.inl ⟨_,rfl,rfl,rfl⟩
  ·replace h:=of_false h hb
   refine AWp.keepTo [0] 0 ⟨[(0,q0 v1)],[]⟩ ?_ z0 ?_
   ·kernel_rfl
   refine AWp.exit ?_
   cases h
   exact Or.inr ⟨_,rfl,by simp,rfl,rfl⟩
 ·intro e σ hp
  rcases y with v8 | _
  ·obtain ⟨rfl,rfl⟩:=hp
   cases h
   exact ⟨.inr rfl,rfl⟩
  ·obtain ⟨rfl,rfl⟩:=hp
   refine AWp.seq ?_
   refine AWp.start [0,1,2,3] [] [] [2] 0 ⟨[(2,tB (decide ((v1.length:Int) ≤ (60:Int))))],[]⟩ rfl ?_ z0 trivial ?_
   ·kernel_rfl
   refine AOps.nil ?_
   refine AWp.ret ?_
   cases h
   exact ⟨.inr rfl,rfl⟩

noncomputable def f82 (v1:Int):Option Bool :=
 some (decide (v1 > (60:Int)))

theorem f82_ok (v1:Int) {r:Bool} (h:f82 v1 = some r):ACall Tryz.prog 82 [.tv (.int .i64 v1)] [] (.tv (.bool r)) []:=by
 refine ACall.of1 (FF 5 0) Tryz.func82 rfl Tryz.ntmps82 Tryz.results82 (zz rfl) rfl rfl ?_
 refine AWp.seq ?_
 refine AWp.start [0] [] [] [0] 0 ⟨[(0,tI v1)],[]⟩ rfl ?_ z0 trivial ?_
 ·kernel_rfl
 refine AOps.nil ?_
 refine AWp.seq ?_
 refine AWp.start [0,1,2] [] [] [2] 0 ⟨[(2,tB (decide (v1 > (60:Int))))],[]⟩ rfl ?_ z0 trivial ?_
 ·kernel_rfl
 refine AOps.nil ?_
 refine AWp.ret ?_
 cases h
 exact ⟨.inr rfl,rfl⟩

noncomputable def f22 (v1:List T25) (v2:T37):Option Bool :=
 (f44 v1 v2.f0).bind fun v3=>(cond (decide (v3 ≥ (0:Int))) (cond (decide (v2.f1 ≥ (0:Int))) (if (0:Int) ≤ v3 ∧ v3 < (v1.length:Int) then some (decide (v2.f1 < (v1.getD v3.toNat default).f2)) else none) (some false)) (some false)).bind fun v4=>some v4

theorem f22_ok (v1:List T25) (v2:T37) {r:Bool} (h:f22 v1 v2 = some r):ACall Tryz.prog 22 [.tv (fzL 3 c25 v1),.agg [.str v2.f0,.int .i64 v2.f1]] [] (.tv (.bool r)) []:=by
 refine ACall.of1 (FF 27 0) Tryz.func22 rfl Tryz.ntmps22 Tryz.results22 (zz rfl) rfl rfl ?_
 refine AWp.seq ?_
 refine AWp.start [0,1] [] [] [0,3] 1 ⟨[(0,q0 v1),(3,.pc 0 0)],[.cells 38 (c37 v2)]⟩ rfl ?_ z0 trivial ?_
 ·kernel_rfl
 refine AOps.nil ?_
 refine AWp.seq ?_
 refine AWp.pin 0 rfl rfl ?_
 refine AWp.keepTo [0,3] 0 ⟨[(0,q0 v1),(3,.rp (c37 v2))],[]⟩ ?_ z0 ?_
 ·kernel_rfl
 refine AWp.start [0,1,2] [3,4] [] [0,3,6,8] 0 ⟨[(0,q0 v1),(3,.rp (c37 v2)),(6,q0 v1),(8,tS v2.f0)],[]⟩ rfl ?_ z0 trivial ?_
 ·kernel_rfl
 obtain ⟨v3,hv3,h⟩:=of_bind h
 refine AOps.cons (AOne.callP (F:=(FF 27 0)) _ rfl rfl rfl _ rfl rfl _ _ rfl Tryz.call44 [q0 v1,tS v2.f0] rfl rfl (f44_ok v1 v2.f0 hv3) rfl) ?_
 refine AOps.go [4] [] [] [0,3,5] 0 ⟨[(0,q0 v1),(3,.rp (c37 v2)),(5,tI v3)],[]⟩ ?_ z0 trivial ?_
 ·kernel_rfl
 refine AOps.nil ?_
 refine AWp.seq ?_
 obtain ⟨v4,hd,h⟩:=of_bind h
 refine AWp.draw FFm (fun σ=>σ = ⟨[(4,tB v4)],[]⟩) (n:=18) rfl (ls:=#[n1,n1,n1,n1,n1,n1,n1,n1,n1,n1,n1,n1,n1,n1,n1,n1,n1,n1]) rfl ?_ ?_
 ·refine AAny.go (by kernel_rfl) [0,1,2] (fuel':=15) rfl [] #[y1,y1,y1,n1,n1,n1,n1,n1,n1,n1,n1,n1,n1,n1,n1,n1,n1,n1] [0,3,5,12] 0 ⟨[(0,q0 v1),(3,.rp (c37 v2)),(5,tI v3),(12,tB (decide (v3 ≥ (0:Int))))],[]⟩ ?_ z0 trivial ?_
  ·kernel_rfl
  refine AAny.split (fun b=>⟨[(0,q0 v1),(3,.rp (c37 v2)),(5,tI v3),(12,tB b)],[]⟩) _ (fun hb=>?_) fun hb=>?_
  ·replace hd:=of_true hd hb
   refine AAny.go (by kernel_rfl) [3,4,5,6,7] (fuel':=10) rfl [] #[y1,y1,y1,y1,y1,y1,y1,y1,n1,n1,n1,n1,n1,n1,n1,n1,n1,n1] [0,3,5,17] 0 ⟨[(0,q0 v1),(3,.rp (c37 v2)),(5,tI v3),(17,tB (decide (v2.f1 ≥ (0:Int))))],[]⟩ ?_ z0 trivial ?_
   ·kernel_rfl
   refine AAny.split (fun b=>⟨[(0,q0 v1),(3,.rp (c37 v2)),(5,tI v3),(17,tB b)],[]⟩) _ (fun hb=>?_) fun hb=>?_
   ·replace hd:=of_true hd hb
    obtain ⟨hg,hd⟩:=of_guard hd
    refine AAny.go (by kernel_rfl) [8,9,10,11,12,13,14,15,16,17] (fuel':=0) rfl [(0:Int) ≤ v3,v3 < (v1.length:Int)] #[y1,y1,y1,y1,y1,y1,y1,y1,y1,y1,y1,y1,y1,y1,y1,y1,y1,y1] [4] 0 ⟨[(4,tB (decide (v2.f1 < (gD v1 v3).f2)))],[]⟩ ?_ z0 ⟨hg.1,hg.2⟩ ?_
    ·kernel_rfl
    refine AAny.keepTo [4] 0 ⟨[(4,tB (decide (v2.f1 < (gD v1 v3).f2)))],[]⟩ _ ?_ rfl z0 (AAny.done (by kernel_rfl) ?_)
    ·kernel_rfl
    cases hd
    exact rfl
   ·replace hd:=of_false hd hb
    refine AAny.go (by kernel_rfl) [8,9,10,11,12,13,14,15,16,17] (fuel':=0) rfl [] #[y1,y1,y1,y1,y1,y1,y1,y1,y1,y1,y1,y1,y1,y1,y1,y1,y1,y1] [4] 0 ⟨[(4,tB false)],[]⟩ ?_ z0 trivial ?_
    ·kernel_rfl
    refine AAny.keepTo [4] 0 ⟨[(4,tB false)],[]⟩ _ ?_ rfl z0 (AAny.done (by kernel_rfl) ?_)
    ·kernel_rfl
    cases hd
    exact rfl
  ·replace hd:=of_false hd hb
   refine AAny.go (by kernel_rfl) [3,4,5,6,7,8,9,10,11,12,13,14,15,16,17] (fuel':=0) rfl [] #[y1,y1,y1,y1,y1,y1,y1,y1,y1,y1,y1,y1,y1,y1,y1,y1,y1,y1] [4] 0 ⟨[(4,tB false)],[]⟩ ?_ z0 trivial ?_
   ·kernel_rfl
   refine AAny.keepTo [4] 0 ⟨[(4,tB false)],[]⟩ _ ?_ rfl z0 (AAny.done (by kernel_rfl) ?_)
   ·kernel_rfl
   cases hd
   exact rfl
 rintro σ' rfl
 refine AWp.ret ?_
 cases h
 exact ⟨.inr rfl,rfl⟩

noncomputable def f107_e_j1 (v2:List (List UInt8)):Option (List (List UInt8)) :=
 some v2

noncomputable def f107_e (v1:Int):Option (List (List UInt8)) :=
 cond (decide (v1 < (0:Int))) none (cond (decide (w64 (v1 - (w64 ((0:Int) - (0:Int)))) > (0:Int))) (if (0:Int) ≤ w64 (v1 - (w64 ((0:Int) - (0:Int)))) ∧ (Int.toNat (w64 (v1 - (w64 ((0:Int) - (0:Int)))))) * 16 ≤ 140737488355328 then f107_e_j1 ((List.replicate (Int.toNat (w64 (v1 - (w64 ((0:Int) - (0:Int)))))) ([]:List UInt8)).take 0) else none) (f107_e_j1 []))

theorem f107_e_ok (v1:Int) {r:(List (List UInt8))} (h:f107_e v1 = some r):ACall Tryz.prog 107 [.tv (.sc (.slice none 0 0)),.tv (.int .i64 v1)] [] (.tv (ownL 1 9 cStr r)) []:=by
 refine ACall.of1 (FF 27 0) Tryz.func107 rfl Tryz.ntmps107 Tryz.results107 (zz rfl) rfl rfl ?_
 refine AWp.seq ?_
 refine AWp.start [0] [] [] [0,1] 0 ⟨[(0,.tv (.sc (.slice none 0 0))),(1,tI v1)],[]⟩ rfl ?_ z0 trivial ?_
 ·kernel_rfl
 refine AOps.nil ?_
 refine AWp.seq ?_
 refine AWp.seq ?_
 refine AWp.start [0,1] [] [] [0,1,6] 0 ⟨[(0,.tv (.sc (.slice none 0 0))),(1,tI v1),(6,tB (decide (v1 < (0:Int))))],[]⟩ rfl ?_ z0 trivial ?_
 ·kernel_rfl
 refine AOps.nil ?_
 refine AWp.cond rfl (fun hb=>?_) fun hb=>?_
 ·replace h:=of_true h hb
  refine AWp.keepTo [0,1] 0 ⟨[(0,.tv (.sc (.slice none 0 0))),(1,tI v1)],[]⟩ ?_ z0 ?_
  ·kernel_rfl
  cases h
 ·replace h:=of_false h hb
  refine AWp.keepTo [0,1] 0 ⟨[(0,.tv (.sc (.slice none 0 0))),(1,tI v1)],[]⟩ ?_ z0 ?_
  ·kernel_rfl
  refine AWp.skip ?_
  refine AWp.join (V:=(List (List UInt8))) (fun w=>⟨[(0,.tv (ownL 1 9 cStr w))],[]⟩) (fun w=>f107_e_j1  w = some r) ?_ ?_
  ·refine AWp.seq ?_
   refine AWp.start [0,1] [2,3,4,5,6,7] [] [0,8,9] 0 ⟨[(0,.tv (.sc (.slice none 0 0))),(8,tI v1),(9,.tv (.sc (.slice none 0 0)))],[]⟩ rfl ?_ z0 trivial ?_
   ·kernel_rfl
   refine AOps.cons (AOne.grow (F:=(FF 27 0)) [] _ rfl rfl rfl rfl trivial) ?_
   refine AOps.go [3,4,5,6,7] [] [] [0,1] 0 ⟨[(0,.tv (.sc (.slice none 0 0))),(1,tI (w64 (v1 - (w64 ((0:Int) - (0:Int))))))],[]⟩ ?_ z0 trivial ?_
   ·kernel_rfl
   refine AOps.nil ?_
   refine AWp.seq ?_
   refine AWp.start [0,1] [] [] [0,1,16] 0 ⟨[(0,.tv (.sc (.slice none 0 0))),(1,tI (w64 (v1 - (w64 ((0:Int) - (0:Int)))))),(16,tB (decide (w64 (v1 - (w64 ((0:Int) - (0:Int)))) > (0:Int))))],[]⟩ rfl ?_ z0 trivial ?_
   ·kernel_rfl
   refine AOps.nil ?_
   refine AWp.cond rfl (fun hb=>?_) fun hb=>?_
   ·replace h:=of_true h hb
    refine AWp.keepTo [0,1] 0 ⟨[(0,.tv (.sc (.slice none 0 0))),(1,tI (w64 (v1 - (w64 ((0:Int) - (0:Int))))))],[]⟩ ?_ z0 ?_
    ·kernel_rfl
    refine AWp.start [0,1] [2,3,4,5,6,7,8,9] [] [0,1,17,18] 0 ⟨[(0,.tv (.sc (.slice none 0 0))),(1,tI (w64 (v1 - (w64 ((0:Int) - (0:Int)))))),(17,.tv (.sc (.slice none 0 0))),(18,.tv (.sc (.slice none 0 0)))],[]⟩ rfl ?_ z0 trivial ?_
    ·kernel_rfl
    refine AOps.cons (AOne.grow (F:=(FF 27 0)) [] _ rfl rfl rfl rfl trivial) ?_
    refine AOps.cons (AOne.grow (F:=(FF 27 0)) [(0:Int) = (0:Int)] _ rfl rfl rfl rfl rfl) ?_
    refine AOps.go [4] [5,6,7,8,9] [] [0,20,21] 0 ⟨[(0,.tv (.sc (.slice none 0 0))),(20,.tv (.sc (.slice none 0 0))),(21,tI (w64 (v1 - (w64 ((0:Int) - (0:Int))))))],[]⟩ ?_ z0 trivial ?_
    ·kernel_rfl
    obtain ⟨hg,h⟩:=of_guard h
    refine AOps.cons (AOne.grow (F:=(FF 27 0)) [(0:Int) ≤ w64 (v1 - (w64 ((0:Int) - (0:Int)))),(Int.toNat (w64 (v1 - (w64 ((0:Int) - (0:Int)))))) * 16 ≤ 140737488355328] _ rfl rfl rfl rfl ⟨hg.1,hg.2⟩) ?_
    refine AOps.keepTo [0,22] 0 ⟨[(0,.tv (.sc (.slice none 0 0))),(22,.tv (.own 1 9 (Int.toNat (w64 (v1 - (w64 ((0:Int) - (0:Int)))))) (zerosF [.str ([]:List UInt8)])))],[]⟩ ?_ z0 ?_
    ·kernel_rfl
    refine AOps.extL 22 cStr (List.replicate (Int.toNat (w64 (v1 - (w64 ((0:Int) - (0:Int)))))) ([]:List UInt8)) rfl (by simp) (zero_at cStr _ ([]:List UInt8) rfl _) ?_
    refine AOps.go [6,7] [8,9] [] [22,24] 0 ⟨[(22,.tv (ownL 1 9 cStr (List.replicate (Int.toNat (w64 (v1 - (w64 ((0:Int) - (0:Int)))))) ([]:List UInt8)))),(24,tI (0:Int))],[]⟩ ?_ z0 trivial ?_
    ·kernel_rfl
    refine AOps.cons (AOne.grow (F:=(FF 27 0)) [(0:Int) ≤ (0:Int),(0:Int) ≤ ((List.replicate (Int.toNat (w64 (v1 - (w64 ((0:Int) - (0:Int)))))) ([]:List UInt8)).length:Int)] _ rfl rfl rfl rfl ⟨(by decide:(0:Int) ≤ (0:Int)),(Int.natCast_nonneg ((List.replicate (Int.toNat (w64 (v1 - (w64 ((0:Int) - (0:Int)))))) ([]:List UInt8)).length))⟩) ?_
    refine AOps.keepTo [25] 0 ⟨[(25,.tv (.own 1 9 0 (fun i=>cStr ((List.replicate (Int.toNat (w64 (v1 - (w64 ((0:Int) - (0:Int)))))) ([]:List UInt8)).getD i default))))],[]⟩ ?_ z0 ?_
    ·kernel_rfl
    have HB:0 ≤ (List.replicate (Int.toNat (w64 (v1 - (w64 ((0:Int) - (0:Int)))))) ([]:List UInt8)).length:=by have hh:(0:Int) ≤ ((List.replicate (Int.toNat (w64 (v1 - (w64 ((0:Int) - (0:Int)))))) ([]:List UInt8)).length:Int):=(Int.natCast_nonneg ((List.replicate (Int.toNat (w64 (v1 - (w64 ((0:Int) - (0:Int)))))) ([]:List UInt8)).length)); omega
    refine AOps.extL 25 cStr ((List.replicate (Int.toNat (w64 (v1 - (w64 ((0:Int) - (0:Int)))))) ([]:List UInt8)).take 0) rfl (take_len _ _ HB) (take_at cStr (List.replicate (Int.toNat (w64 (v1 - (w64 ((0:Int) - (0:Int)))))) ([]:List UInt8)) _ HB) ?_
    refine AOps.go [9] [] [] [0] 0 ⟨[(0,.tv (ownL 1 9 cStr ((List.replicate (Int.toNat (w64 (v1 - (w64 ((0:Int) - (0:Int)))))) ([]:List UInt8)).take 0)))],[]⟩ ?_ z0 trivial ?_
    ·kernel_rfl
    refine AOps.nil ?_
    exact ⟨(List.replicate (Int.toNat (w64 (v1 - (w64 ((0:Int) - (0:Int)))))) ([]:List UInt8)).take 0,h,rfl⟩
   ·replace h:=of_false h hb
    refine AWp.keepTo [0] 0 ⟨[(0,.tv (.sc (.slice none 0 0)))],[]⟩ ?_ z0 ?_
    ·kernel_rfl
    refine AWp.nilOwn 0 1 9 (fun i=>cStr (([]:List (List UInt8)).getD i default)) rfl ?_
    refine AWp.keepTo [0] 0 ⟨[(0,.tv (ownL 1 9 cStr ([]:List (List UInt8))))],[]⟩ ?_ z0 ?_
    ·kernel_rfl
    refine AWp.skip ?_
    exact ⟨[],h,rfl⟩
  ·rintro v2 h
   refine AWp.seq ?_
   refine AWp.start [0,1] [] [] [0,4] 0 ⟨[(0,.tv (ownL 1 9 cStr v2)),(4,.al (.slot 0 0,[]))],[]⟩ rfl ?_ z0 trivial ?_
   ·kernel_rfl
   refine AOps.nil ?_
   refine AWp.claim 4 (.slot 0 0) (ownL 1 9 cStr v2) rfl rfl rfl rfl ?_
   refine AWp.keepTo [4] 0 ⟨[(4,.tv (ownL 1 9 cStr v2))],[]⟩ ?_ z0 ?_
   ·kernel_rfl
   refine AWp.ret ?_
   cases h
   exact ⟨.inr rfl,rfl⟩

noncomputable def f83_b1 (v1:List (List (List UInt8))) (v2:Int) (v3:Int):Option ((Int × Int) ⊕ Out (List (List UInt8)) Int) :=
 cond (decide (v3 < (v1.length:Int))) (if (0:Int) ≤ v3 ∧ v3 < (v1.length:Int) then cond (decide (w64 (v2 + ((v1.getD v3.toNat default).length:Int)) < (0:Int))) none (some (.inl (w64 (v2 + ((v1.getD v3.toNat default).length:Int)),w64 (v3 + (1:Int))))) else none) (some (.inr (.go v2)))

noncomputable def f83_b2 (v1:List (List (List UInt8))) (v7:List (List UInt8)) (v8:Int):Option (((List (List UInt8)) × Int) ⊕ Out (List (List UInt8)) (List (List UInt8))) :=
 cond (decide (v8 < (v1.length:Int))) (if (0:Int) ≤ v8 ∧ v8 < (v1.length:Int) then if (v7.length + (v1.getD v8.toNat default).length) * 16 ≤ 140737488355328 then some (.inl (v7 ++ (v1.getD v8.toNat default),w64 (v8 + (1:Int)))) else none else none) (some (.inr (.go v7)))

noncomputable def f83 (v1:List (List (List UInt8))):Option (List (List UInt8)) :=
 (iter (fun s=>f83_b1 v1 s.1 s.2) ((0:Int),(0:Int))).bind fun y=>match y with | .ret v5=>some v5 | .go v4=>(f107_e v4).bind fun v6=>(iter (fun s=>f83_b2 v1 s.1 s.2) (v6,(0:Int))).bind fun y=>match y with | .ret v10=>some v10 | .go v9=>some v9

theorem f83_ok (v1:List (List (List UInt8))) {r:(List (List UInt8))} (h:f83 v1 = some r):ACall Tryz.prog 83 [.tv (fzL 1 (cSl 1 cStr) v1)] [] (.tv (ownL 1 9 cStr r)) []:=by
 refine ACall.of1 (FF 36 0) Tryz.func83 rfl Tryz.ntmps83 Tryz.results83 (zz rfl) rfl rfl ?_
 refine AWp.seq ?_
 refine AWp.start [0] [] [] [0] 0 ⟨[(0,.tv (fzL 1 (cSl 1 cStr) v1))],[]⟩ rfl ?_ z0 trivial ?_
 ·kernel_rfl
 refine AOps.nil ?_
 refine AWp.seq ?_
 refine AWp.start [0] [] [] [0,3] 0 ⟨[(0,.tv (fzL 1 (cSl 1 cStr) v1)),(3,tI (0:Int))],[]⟩ rfl ?_ z0 trivial ?_
 ·kernel_rfl
 refine AOps.nil ?_
 refine AWp.seq ?_
 refine AWp.seq ?_
 refine AWp.start [0,1,2] [] [] [0,3,9,10,11] 0 ⟨[(0,.tv (fzL 1 (cSl 1 cStr) v1)),(3,tI (0:Int)),(9,.tv (fzL 1 (cSl 1 cStr) v1)),(10,tI (v1.length:Int)),(11,tI (0:Int))],[]⟩ rfl ?_ z0 trivial ?_
 ·kernel_rfl
 refine AOps.nil ?_
 refine AWp.block ?_
 obtain ⟨y,hy,h⟩:=of_bind h
 refine AWp.mono (AWp.loop (S:=Int × Int) (Y:=Out (List (List UInt8)) Int) (fun s=>⟨[(0,.tv (fzL 1 (cSl 1 cStr) v1)),(3,tI s.1),(9,.tv (fzL 1 (cSl 1 cStr) v1)),(10,tI (v1.length:Int)),(11,tI s.2)],[]⟩) (fun s=>f83_b1 v1 s.1 s.2) (fun y e σ=>match y with | .ret r=>e = .ret ∧ σ = ⟨[(2,.tv (ownL 1 9 cStr r))],[]⟩ | .go v=>e = .exit 0 ∧ σ = ⟨[(0,.tv (fzL 1 (cSl 1 cStr) v1)),(3,tI v)],[]⟩) ?_ hy) ?_
 ·rintro ⟨v2,v3⟩ o h
  refine AWp.seq ?_
  refine AWp.start [0] [] [] [0,3,9,10,11,12] 0 ⟨[(0,.tv (fzL 1 (cSl 1 cStr) v1)),(3,tI v2),(9,.tv (fzL 1 (cSl 1 cStr) v1)),(10,tI (v1.length:Int)),(11,tI v3),(12,tB (decide (v3 < (v1.length:Int))))],[]⟩ rfl ?_ z0 trivial ?_
  ·kernel_rfl
  refine AOps.nil ?_
  refine AWp.seq ?_
  refine AWp.cond rfl (fun hb=>?_) fun hb=>?_
  ·replace h:=of_true h hb
   refine AWp.keepTo [0,3,9,10,11] 0 ⟨[(0,.tv (fzL 1 (cSl 1 cStr) v1)),(3,tI v2),(9,.tv (fzL 1 (cSl 1 cStr) v1)),(10,tI (v1.length:Int)),(11,tI v3)],[]⟩ ?_ z0 ?_
   ·kernel_rfl
   refine AWp.skip ?_
   refine AWp.seq ?_
   refine AWp.block ?_
   refine AWp.seq ?_
   obtain ⟨hg,h⟩:=of_guard h
   refine AWp.start [0,1,2] [] [(0:Int) ≤ v3,v3 < (v1.length:Int)] [0,3,5,9,10,11] 0 ⟨[(0,.tv (fzL 1 (cSl 1 cStr) v1)),(3,tI v2),(5,q4 (gD v1 v3)),(9,.tv (fzL 1 (cSl 1 cStr) v1)),(10,tI (v1.length:Int)),(11,tI v3)],[]⟩ rfl ?_ z0 ⟨hg.1,hg.2⟩ ?_
   ·kernel_rfl
   refine AOps.nil ?_
   refine AWp.seq ?_
   refine AWp.start [0,1,2,3,4] [] [] [0,3,9,10,11] 0 ⟨[(0,.tv (fzL 1 (cSl 1 cStr) v1)),(3,tI (w64 (v2 + ((gD v1 v3).length:Int)))),(9,.tv (fzL 1 (cSl 1 cStr) v1)),(10,tI (v1.length:Int)),(11,tI v3)],[]⟩ rfl ?_ z0 trivial ?_
   ·kernel_rfl
   refine AOps.nil ?_
   refine AWp.seq ?_
   refine AWp.start [0,1] [] [] [0,3,9,10,11,20] 0 ⟨[(0,.tv (fzL 1 (cSl 1 cStr) v1)),(3,tI (w64 (v2 + ((gD v1 v3).length:Int)))),(9,.tv (fzL 1 (cSl 1 cStr) v1)),(10,tI (v1.length:Int)),(11,tI v3),(20,tB (decide (w64 (v2 + ((gD v1 v3).length:Int)) < (0:Int))))],[]⟩ rfl ?_ z0 trivial ?_
   ·kernel_rfl
   refine AOps.nil ?_
   refine AWp.cond rfl (fun hb=>?_) fun hb=>?_
   ·replace h:=of_true h hb
    refine AWp.keepTo [0,3,9,10,11] 0 ⟨[(0,.tv (fzL 1 (cSl 1 cStr) v1)),(3,tI (w64 (v2 + ((gD v1 v3).length:Int)))),(9,.tv (fzL 1 (cSl 1 cStr) v1)),(10,tI (v1.length:Int)),(11,tI v3)],[]⟩ ?_ z0 ?_
    ·kernel_rfl
    cases h
   ·replace h:=of_false h hb
    refine AWp.keepTo [0,3,9,10,11] 0 ⟨[(0,.tv (fzL 1 (cSl 1 cStr) v1)),(3,tI (w64 (v2 + ((gD v1 v3).length:Int)))),(9,.tv (fzL 1 (cSl 1 cStr) v1)),(10,tI (v1.length:Int)),(11,tI v3)],[]⟩ ?_ z0 ?_
    ·kernel_rfl
    refine AWp.skip ?_
    refine AWp.start [0,1] [] [] [0,3,9,10,11] 0 ⟨[(0,.tv (fzL 1 (cSl 1 cStr) v1)),(3,tI (w64 (v2 + ((gD v1 v3).length:Int)))),(9,.tv (fzL 1 (cSl 1 cStr) v1)),(10,tI (v1.length:Int)),(11,tI (w64 (v3 + (1:Int))))],[]⟩ rfl ?_ z0 trivial ?_
    ·kernel_rfl
    refine AOps.nil ?_
    cases h
    exact Or.inl ⟨_,rfl,rfl,rfl⟩
  ·replace h:=of_false h hb
   refine AWp.keepTo [0,3] 0 ⟨[(0,.tv (fzL 1 (cSl 1 cStr) v1)),(3,tI v2)],[]⟩ ?_ z0 ?_
   ·kernel_rfl
   refine AWp.exit ?_
   cases h
   exact Or.inr ⟨_,rfl,by simp,rfl,rfl⟩
 ·intro e σ hp
  rcases y with v5 | v4
  ·obtain ⟨rfl,rfl⟩:=hp
   cases h
   exact ⟨.inr rfl,rfl⟩
  ·obtain ⟨rfl,rfl⟩:=hp
   refine AWp.seq ?_
   refine AWp.start [0] [1,2] [] [0,23] 0 ⟨[(0,.tv (fzL 1 (cSl 1 cStr) v1)),(23,tI v4)],[]⟩ rfl ?_ z0 trivial ?_
   ·kernel_rfl
   obtain ⟨v6,hv6,h⟩:=of_bind h
   refine AOps.cons (AOne.callP (F:=(FF 36 0)) _ rfl rfl rfl _ rfl rfl _ _ rfl Tryz.call107 [.tv (.sc (.slice none 0 0)),tI v4] rfl rfl (f107_e_ok v4 hv6) rfl) ?_
   refine AOps.go [2] [] [] [0,6] 0 ⟨[(0,.tv (fzL 1 (cSl 1 cStr) v1)),(6,.tv (ownL 1 9 cStr v6))],[]⟩ ?_ z0 trivial ?_
   ·kernel_rfl
   refine AOps.nil ?_
   refine AWp.seq ?_
   refine AWp.seq ?_
   refine AWp.start [0,1,2] [] [] [6,25,26,27] 0 ⟨[(6,.tv (ownL 1 9 cStr v6)),(25,.tv (fzL 1 (cSl 1 cStr) v1)),(26,tI (v1.length:Int)),(27,tI (0:Int))],[]⟩ rfl ?_ z0 trivial ?_
   ·kernel_rfl
   refine AOps.nil ?_
   refine AWp.block ?_
   obtain ⟨y,hy,h⟩:=of_bind h
   refine AWp.mono (AWp.loop (S:=(List (List UInt8)) × Int) (Y:=Out (List (List UInt8)) (List (List UInt8))) (fun s=>⟨[(6,.tv (ownL 1 9 cStr s.1)),(25,.tv (fzL 1 (cSl 1 cStr) v1)),(26,tI (v1.length:Int)),(27,tI s.2)],[]⟩) (fun s=>f83_b2 v1 s.1 s.2) (fun y e σ=>match y with | .ret r=>e = .ret ∧ σ = ⟨[(2,.tv (ownL 1 9 cStr r))],[]⟩ | .go v=>e = .exit 2 ∧ σ = ⟨[(6,.tv (ownL 1 9 cStr v))],[]⟩) ?_ hy) ?_
   ·rintro ⟨v7,v8⟩ o h
    refine AWp.seq ?_
    refine AWp.start [0] [] [] [6,25,26,27,28] 0 ⟨[(6,.tv (ownL 1 9 cStr v7)),(25,.tv (fzL 1 (cSl 1 cStr) v1)),(26,tI (v1.length:Int)),(27,tI v8),(28,tB (decide (v8 < (v1.length:Int))))],[]⟩ rfl ?_ z0 trivial ?_
    ·kernel_rfl
    refine AOps.nil ?_
    refine AWp.seq ?_
    refine AWp.cond rfl (fun hb=>?_) fun hb=>?_
    ·replace h:=of_true h hb
     refine AWp.keepTo [6,25,26,27] 0 ⟨[(6,.tv (ownL 1 9 cStr v7)),(25,.tv (fzL 1 (cSl 1 cStr) v1)),(26,tI (v1.length:Int)),(27,tI v8)],[]⟩ ?_ z0 ?_
     ·kernel_rfl
     refine AWp.skip ?_
     refine AWp.seq ?_
     refine AWp.block ?_
     refine AWp.seq ?_
     obtain ⟨hg,h⟩:=of_guard h
     refine AWp.start [0,1,2] [] [(0:Int) ≤ v8,v8 < (v1.length:Int)] [6,8,25,26,27] 0 ⟨[(6,.tv (ownL 1 9 cStr v7)),(8,q4 (gD v1 v8)),(25,.tv (fzL 1 (cSl 1 cStr) v1)),(26,tI (v1.length:Int)),(27,tI v8)],[]⟩ rfl ?_ z0 ⟨hg.1,hg.2⟩ ?_
     ·kernel_rfl
     refine AOps.nil ?_
     obtain ⟨hg,h⟩:=of_guard h
     refine AWp.start [0,1,2] [3] [(v7.length + (gD v1 v8).length) * 16 ≤ 140737488355328,PlainTo v7.length (fun i=>cStr (v7.getD i default)),PlainTo ((gD v1 v8).length) (fun i=>cStr ((gD v1 v8).getD i default))] [25,26,27,33] 0 ⟨[(25,.tv (fzL 1 (cSl 1 cStr) v1)),(26,tI (v1.length:Int)),(27,tI v8),(33,.tv (.own 1 9 (v7.length + (gD v1 v8).length) (appF v7.length (fun i=>cStr (v7.getD i default)) (fun i=>cStr ((gD v1 v8).getD i default)))))],[]⟩ rfl ?_ z0 ⟨hg,(fun _ _=>rfl),(fun _ _=>rfl)⟩ ?_
     ·kernel_rfl
     refine AOps.extL 33 cStr (v7 ++ (gD v1 v8)) rfl List.length_append.symm (app_at cStr v7 (gD v1 v8)) ?_
     refine AOps.go [3] [] [] [6,25,26,27] 0 ⟨[(6,.tv (ownL 1 9 cStr (v7 ++ (gD v1 v8)))),(25,.tv (fzL 1 (cSl 1 cStr) v1)),(26,tI (v1.length:Int)),(27,tI v8)],[]⟩ ?_ z0 trivial ?_
     ·kernel_rfl
     refine AOps.nil ?_
     refine AWp.start [0,1] [] [] [6,25,26,27] 0 ⟨[(6,.tv (ownL 1 9 cStr (v7 ++ (gD v1 v8)))),(25,.tv (fzL 1 (cSl 1 cStr) v1)),(26,tI (v1.length:Int)),(27,tI (w64 (v8 + (1:Int))))],[]⟩ rfl ?_ z0 trivial ?_
     ·kernel_rfl
     refine AOps.nil ?_
     cases h
     exact Or.inl ⟨_,rfl,rfl,rfl⟩
    ·replace h:=of_false h hb
     refine AWp.keepTo [6] 0 ⟨[(6,.tv (ownL 1 9 cStr v7))],[]⟩ ?_ z0 ?_
     ·kernel_rfl
     refine AWp.exit ?_
     cases h
     exact Or.inr ⟨_,rfl,by simp,rfl,rfl⟩
   ·intro e σ hp
    rcases y with v10 | v9
    ·obtain ⟨rfl,rfl⟩:=hp
     cases h
     exact ⟨.inr rfl,rfl⟩
    ·obtain ⟨rfl,rfl⟩:=hp
     refine AWp.seq ?_
     refine AWp.start [0,1] [] [] [2,6] 0 ⟨[(2,.al (.slot 6 0,[])),(6,.tv (ownL 1 9 cStr v9))],[]⟩ rfl ?_ z0 trivial ?_
     ·kernel_rfl
     refine AOps.nil ?_
     refine AWp.claim 2 (.slot 6 0) (ownL 1 9 cStr v9) rfl rfl rfl rfl ?_
     refine AWp.keepTo [2] 0 ⟨[(2,.tv (ownL 1 9 cStr v9))],[]⟩ ?_ z0 ?_
     ·kernel_rfl
     refine AWp.ret ?_
     cases h
     exact ⟨.inr rfl,rfl⟩

noncomputable def f43_b1 (v2:List (List T37)) (v9:Int):Option (Int ⊕ Out ((List UInt8) × Int) Unit) :=
 cond (decide (v9 < (v2.length:Int))) (if (0:Int) ≤ v9 ∧ v9 < (v2.length:Int) then (f82 ((v2.getD v9.toNat default).length:Int)).bind fun v10=>cond v10 (some (.inr (.ret (([]:List UInt8),(2:Int))))) (some (.inl (w64 (v9 + (1:Int))))) else none) (some (.inr (.go ())))

noncomputable def f43_b2 (v3:List (List (List UInt8))) (v12:Int):Option (Int ⊕ Out ((List UInt8) × Int) Unit) :=
 cond (decide (v12 < (v3.length:Int))) (if (0:Int) ≤ v12 ∧ v12 < (v3.length:Int) then (f82 ((v3.getD v12.toNat default).length:Int)).bind fun v13=>cond v13 (some (.inr (.ret (([]:List UInt8),(2:Int))))) (some (.inl (w64 (v12 + (1:Int))))) else none) (some (.inr (.go ())))

noncomputable def f43_b3 (v1:List T25) (v2:List (List T37)) (v15:Int) (v16:Int):Option (Int ⊕ Out ((List UInt8) × Int) Unit) :=
 cond (decide (v16 < ((v2.getD v15.toNat default).length:Int))) (if (0:Int) ≤ v16 ∧ v16 < ((v2.getD v15.toNat default).length:Int) then (f22 v1 ((v2.getD v15.toNat default).getD v16.toNat default)).bind fun v17=>cond (!v17) (some (.inr (.ret (((v2.getD v15.toNat default).getD v16.toNat default).f0,(5:Int))))) (some (.inl (w64 (v16 + (1:Int))))) else none) (some (.inr (.go ())))

noncomputable def f43_b4 (v1:List T25) (v2:List (List T37)) (v15:Int):Option (Int ⊕ Out ((List UInt8) × Int) Unit) :=
 cond (decide (v15 < (v2.length:Int))) (if (0:Int) ≤ v15 ∧ v15 < (v2.length:Int) then (iter (fun s=>f43_b3 v1 v2 v15 s) (0:Int)).bind fun y=>match y with | .ret v18=>some (.inr (.ret (v18.1,v18.2))) | .go _=>some (.inl (w64 (v15 + (1:Int)))) else none) (some (.inr (.go ())))

noncomputable def f43_b5 (v1:List T25) (v20:(List (List UInt8))) (v21:Int):Option (Int ⊕ Out ((List UInt8) × Int) Unit) :=
 cond (decide (v21 < (v20.length:Int))) (if (0:Int) ≤ v21 ∧ v21 < (v20.length:Int) then (f44 v1 (v20.getD v21.toNat default)).bind fun v22=>cond (decide (v22 < (0:Int))) (some (.inr (.ret (v20.getD v21.toNat default,(5:Int))))) (some (.inl (w64 (v21 + (1:Int))))) else none) (some (.inr (.go ())))

noncomputable def f43_b6 (v24:(List (List UInt8))) (v25:List (List UInt8)) (v26:Int):Option (((List (List UInt8)) × Int) ⊕ Out ((List UInt8) × Int) Unit) :=
 cond (decide (v26 < (v24.length:Int))) (if (0:Int) ≤ v26 ∧ v26 < (v24.length:Int) then (f58 v25 (v24.getD v26.toNat default)).bind fun v27=>cond v27 (some (.inr (.ret (v24.getD v26.toNat default,(8:Int))))) (if (v25.length + [v24.getD v26.toNat default].length) * 16 ≤ 140737488355328 then some (.inl (v25 ++ [v24.getD v26.toNat default],w64 (v26 + (1:Int)))) else none) else none) (some (.inr (.go ())))

noncomputable def f43 (v1:List T25) (v2:List (List T37)) (v3:List (List (List UInt8))):Option ((List UInt8) × Int) :=
 (f48 v1).bind fun v4=>(cond (!v4) (some true) ((f82 (v2.length:Int)).bind fun v6=>some v6)).bind fun v5=>(cond v5 (some true) ((f82 (v3.length:Int)).bind fun v8=>some v8)).bind fun v7=>cond v7 (some (([]:List UInt8),(2:Int))) ((iter (fun s=>f43_b1 v2 s) (0:Int)).bind fun y=>match y with | .ret v11=>some (v11.1,v11.2) | .go _=>(iter (fun s=>f43_b2 v3 s) (0:Int)).bind fun y=>match y with | .ret v14=>some (v14.1,v14.2) | .go _=>(iter (fun s=>f43_b4 v1 v2 s) (0:Int)).bind fun y=>match y with | .ret v19=>some (v19.1,v19.2) | .go _=>(f83 v3).bind fun v20=>(iter (fun s=>f43_b5 v1 v20 s) (0:Int)).bind fun y=>match y with | .ret v23=>some (v23.1,v23.2) | .go _=>(f83 v3).bind fun v24=>(iter (fun s=>f43_b6 v24 s.1 s.2) ([],(0:Int))).bind fun y=>match y with | .ret v28=>some (v28.1,v28.2) | .go _=>some (([]:List UInt8),(0:Int)))

theorem f43_ok (v1:List T25) (v2:List (List T37)) (v3:List (List (List UInt8))) {r:(List UInt8) × Int} (h:f43 v1 v2 v3 = some r):ACall Tryz.prog 43 [.tv (fzL 3 c25 v1),.tv (fzL 1 (cSl 2 c37) v2),.tv (fzL 1 (cSl 1 cStr) v3)] [] (.tup [.tv (.str r.1),.tv (.int .i64 r.2)]) []:=by
 refine ACall.ofN (FF 108 0) (rs:=[6,7]) (env:=[(6,tS r.1),(7,tI r.2)]) Tryz.func43 rfl Tryz.ntmps43 Tryz.results43 (by decide) (by decide) rfl (zz rfl) rfl (get_ofN _ _ _ rfl) (ok_ofN _ rfl) ?_
 refine AWp.seq ?_
 refine AWp.start [0,1] [] [] [0,1,2] 0 ⟨[(0,q0 v1),(1,.tv (fzL 1 (cSl 2 c37) v2)),(2,.tv (fzL 1 (cSl 1 cStr) v3))],[]⟩ rfl ?_ z0 trivial ?_
 ·kernel_rfl
 refine AOps.nil ?_
 refine AWp.seq ?_
 refine AWp.start [0] [] [] [0,1,2,8] 0 ⟨[(0,q0 v1),(1,.tv (fzL 1 (cSl 2 c37) v2)),(2,.tv (fzL 1 (cSl 1 cStr) v3)),(8,.fn 82 [])],[]⟩ rfl ?_ z0 trivial ?_
 ·kernel_rfl
 refine AOps.nil ?_
 refine AWp.seq ?_
 refine AWp.seq ?_
 refine AWp.start [0] [1,2,3,4,5,6,7,8,9,10,11,12,13,14] [] [0,1,2,8,22] 0 ⟨[(0,q0 v1),(1,.tv (fzL 1 (cSl 2 c37) v2)),(2,.tv (fzL 1 (cSl 1 cStr) v3)),(8,.fn 82 []),(22,q0 v1)],[]⟩ rfl ?_ z0 trivial ?_
 ·kernel_rfl
 obtain ⟨v4,hv4,h⟩:=of_bind h
 refine AOps.cons (AOne.callP (F:=(FF 108 0)) _ rfl rfl rfl _ rfl rfl _ _ rfl Tryz.call48 [q0 v1] rfl rfl (f48_ok v1 hv4) rfl) ?_
 refine AOps.go [2,3] [4,5,6,7,8,9,10,11,12,13,14] [] [0,1,2,8,25] 0 ⟨[(0,q0 v1),(1,.tv (fzL 1 (cSl 2 c37) v2)),(2,.tv (fzL 1 (cSl 1 cStr) v3)),(8,.fn 82 []),(25,tB (!v4))],[]⟩ ?_ z0 trivial ?_
 ·kernel_rfl
 obtain ⟨v5,hc4,h⟩:=of_bind h
 refine AOps.cut [4,5,6,7,8] [9,10,11,12,13,14] (fun σ=>σ = ⟨[(0,q0 v1),(1,.tv (fzL 1 (cSl 2 c37) v2)),(2,.tv (fzL 1 (cSl 1 cStr) v3)),(8,.fn 82 []),(30,tB v5)],[]⟩) ?_ fun σ' hJ=>?_
 ·refine AOps.split (fun b=>⟨[(0,q0 v1),(1,.tv (fzL 1 (cSl 2 c37) v2)),(2,.tv (fzL 1 (cSl 1 cStr) v3)),(8,.fn 82 []),(25,tB b)],[]⟩) _ (fun hb=>?_) fun hb=>?_
  ·replace hc4:=of_true hc4 hb
   refine AOps.go [4,5,6,7,8] [] [] [0,1,2,8,30] 0 ⟨[(0,q0 v1),(1,.tv (fzL 1 (cSl 2 c37) v2)),(2,.tv (fzL 1 (cSl 1 cStr) v3)),(8,.fn 82 []),(30,tB true)],[]⟩ ?_ z0 trivial ?_
   ·kernel_rfl
   cases hc4
   exact AOps.nil rfl
  ·replace hc4:=of_false hc4 hb
   refine AOps.go [4,5,6] [7,8] [] [0,1,2,8,25,26,28] 0 ⟨[(0,q0 v1),(1,.tv (fzL 1 (cSl 2 c37) v2)),(2,.tv (fzL 1 (cSl 1 cStr) v3)),(8,.fn 82 []),(25,tB false),(26,.fn 82 []),(28,tI (v2.length:Int))],[]⟩ ?_ z0 trivial ?_
   ·kernel_rfl
   obtain ⟨v6,hv6,hc4⟩:=of_bind hc4
   refine AOps.cons (AOne.callP (F:=(FF 108 0)) _ rfl rfl rfl _ rfl rfl _ _ rfl Tryz.call82 [tI (v2.length:Int)] rfl rfl (f82_ok (v2.length:Int) hv6) rfl) ?_
   refine AOps.go [8] [] [] [0,1,2,8,30] 0 ⟨[(0,q0 v1),(1,.tv (fzL 1 (cSl 2 c37) v2)),(2,.tv (fzL 1 (cSl 1 cStr) v3)),(8,.fn 82 []),(30,tB v6)],[]⟩ ?_ z0 trivial ?_
   ·kernel_rfl
   cases hc4
   exact AOps.nil rfl
 subst hJ
 refine AOps.go [9] [10,11,12,13,14] [] [0,1,2,8,31] 0 ⟨[(0,q0 v1),(1,.tv (fzL 1 (cSl 2 c37) v2)),(2,.tv (fzL 1 (cSl 1 cStr) v3)),(8,.fn 82 []),(31,tB v5)],[]⟩ ?_ z0 trivial ?_
 ·kernel_rfl
 obtain ⟨v7,hc10,h⟩:=of_bind h
 refine AOps.cut [10,11,12,13,14] [] (fun σ=>σ = ⟨[(0,q0 v1),(1,.tv (fzL 1 (cSl 2 c37) v2)),(2,.tv (fzL 1 (cSl 1 cStr) v3)),(8,.fn 82 []),(36,tB v7)],[]⟩) ?_ fun σ' hJ=>?_
 ·refine AOps.split (fun b=>⟨[(0,q0 v1),(1,.tv (fzL 1 (cSl 2 c37) v2)),(2,.tv (fzL 1 (cSl 1 cStr) v3)),(8,.fn 82 []),(31,tB b)],[]⟩) _ (fun hb=>?_) fun hb=>?_
  ·replace hc10:=of_true hc10 hb
   refine AOps.go [10,11,12,13,14] [] [] [0,1,2,8,36] 0 ⟨[(0,q0 v1),(1,.tv (fzL 1 (cSl 2 c37) v2)),(2,.tv (fzL 1 (cSl 1 cStr) v3)),(8,.fn 82 []),(36,tB true)],[]⟩ ?_ z0 trivial ?_
   ·kernel_rfl
   cases hc10
   exact AOps.nil rfl
  ·replace hc10:=of_false hc10 hb
   refine AOps.go [10,11,12] [13,14] [] [0,1,2,8,31,32,34] 0 ⟨[(0,q0 v1),(1,.tv (fzL 1 (cSl 2 c37) v2)),(2,.tv (fzL 1 (cSl 1 cStr) v3)),(8,.fn 82 []),(31,tB false),(32,.fn 82 []),(34,tI (v3.length:Int))],[]⟩ ?_ z0 trivial ?_
   ·kernel_rfl
   obtain ⟨v8,hv8,hc10⟩:=of_bind hc10
   refine AOps.cons (AOne.callP (F:=(FF 108 0)) _ rfl rfl rfl _ rfl rfl _ _ rfl Tryz.call82 [tI (v3.length:Int)] rfl rfl (f82_ok (v3.length:Int) hv8) rfl) ?_
   refine AOps.go [14] [] [] [0,1,2,8,36] 0 ⟨[(0,q0 v1),(1,.tv (fzL 1 (cSl 2 c37) v2)),(2,.tv (fzL 1 (cSl 1 cStr) v3)),(8,.fn 82 []),(36,tB v8)],[]⟩ ?_ z0 trivial ?_
   ·kernel_rfl
   cases hc10
   exact AOps.nil rfl
 subst hJ
 refine AOps.nil ?_
 refine AWp.cond rfl (fun hb=>?_) fun hb=>?_
 ·replace h:=of_true h hb
  refine AWp.keepTo [] 0 ⟨[],[]⟩ ?_ z0 ?_
  ·kernel_rfl
  refine AWp.seq ?_
  refine AWp.start [0,1] [] [] [6,7] 0 ⟨[(6,tS ([]:List UInt8)),(7,tI (2:Int))],[]⟩ rfl ?_ z0 trivial ?_
  ·kernel_rfl
  refine AOps.nil ?_
  refine AWp.ret ?_
  cases h
  exact ⟨.inr rfl,rfl⟩
 ·replace h:=of_false h hb
  refine AWp.keepTo [0,1,2,8] 0 ⟨[(0,q0 v1),(1,.tv (fzL 1 (cSl 2 c37) v2)),(2,.tv (fzL 1 (cSl 1 cStr) v3)),(8,.fn 82 [])],[]⟩ ?_ z0 ?_
  ·kernel_rfl
  refine AWp.skip ?_
  refine AWp.seq ?_
  refine AWp.seq ?_
  refine AWp.start [0,1,2] [] [] [0,1,2,8,37,38,39] 0 ⟨[(0,q0 v1),(1,.tv (fzL 1 (cSl 2 c37) v2)),(2,.tv (fzL 1 (cSl 1 cStr) v3)),(8,.fn 82 []),(37,.tv (fzL 1 (cSl 2 c37) v2)),(38,tI (v2.length:Int)),(39,tI (0:Int))],[]⟩ rfl ?_ z0 trivial ?_
  ·kernel_rfl
  refine AOps.nil ?_
  refine AWp.block ?_
  obtain ⟨y,hy,h⟩:=of_bind h
  refine AWp.mono (AWp.loop (S:=Int) (Y:=Out ((List UInt8) × Int) Unit) (fun s=>⟨[(0,q0 v1),(1,.tv (fzL 1 (cSl 2 c37) v2)),(2,.tv (fzL 1 (cSl 1 cStr) v3)),(8,.fn 82 []),(37,.tv (fzL 1 (cSl 2 c37) v2)),(38,tI (v2.length:Int)),(39,tI s)],[]⟩) (fun s=>f43_b1 v2 s) (fun y e σ=>match y with | .ret r=>e = .ret ∧ σ = ⟨[(6,tS r.1),(7,tI r.2)],[]⟩ | .go v=>e = .exit 0 ∧ σ = ⟨[(0,q0 v1),(1,.tv (fzL 1 (cSl 2 c37) v2)),(2,.tv (fzL 1 (cSl 1 cStr) v3)),(8,.fn 82 [])],[]⟩) ?_ hy) ?_
  ·rintro v9 o h
   refine AWp.seq ?_
   refine AWp.start [0] [] [] [0,1,2,8,37,38,39,40] 0 ⟨[(0,q0 v1),(1,.tv (fzL 1 (cSl 2 c37) v2)),(2,.tv (fzL 1 (cSl 1 cStr) v3)),(8,.fn 82 []),(37,.tv (fzL 1 (cSl 2 c37) v2)),(38,tI (v2.length:Int)),(39,tI v9),(40,tB (decide (v9 < (v2.length:Int))))],[]⟩ rfl ?_ z0 trivial ?_
   ·kernel_rfl
   refine AOps.nil ?_
   refine AWp.seq ?_
   refine AWp.cond rfl (fun hb=>?_) fun hb=>?_
   ·replace h:=of_true h hb
    refine AWp.keepTo [0,1,2,8,37,38,39] 0 ⟨[(0,q0 v1),(1,.tv (fzL 1 (cSl 2 c37) v2)),(2,.tv (fzL 1 (cSl 1 cStr) v3)),(8,.fn 82 []),(37,.tv (fzL 1 (cSl 2 c37) v2)),(38,tI (v2.length:Int)),(39,tI v9)],[]⟩ ?_ z0 ?_
    ·kernel_rfl
    refine AWp.skip ?_
    refine AWp.seq ?_
    refine AWp.block ?_
    refine AWp.seq ?_
    obtain ⟨hg,h⟩:=of_guard h
    refine AWp.start [0,1,2] [] [(0:Int) ≤ v9,v9 < (v2.length:Int)] [0,1,2,8,10,37,38,39] 0 ⟨[(0,q0 v1),(1,.tv (fzL 1 (cSl 2 c37) v2)),(2,.tv (fzL 1 (cSl 1 cStr) v3)),(8,.fn 82 []),(10,q5 (gD v2 v9)),(37,.tv (fzL 1 (cSl 2 c37) v2)),(38,tI (v2.length:Int)),(39,tI v9)],[]⟩ rfl ?_ z0 ⟨hg.1,hg.2⟩ ?_
    ·kernel_rfl
    refine AOps.nil ?_
    refine AWp.seq ?_
    refine AWp.start [0,1,2] [3] [] [0,1,2,8,37,38,39,43,45] 0 ⟨[(0,q0 v1),(1,.tv (fzL 1 (cSl 2 c37) v2)),(2,.tv (fzL 1 (cSl 1 cStr) v3)),(8,.fn 82 []),(37,.tv (fzL 1 (cSl 2 c37) v2)),(38,tI (v2.length:Int)),(39,tI v9),(43,.fn 82 []),(45,tI ((gD v2 v9).length:Int))],[]⟩ rfl ?_ z0 trivial ?_
    ·kernel_rfl
    obtain ⟨v10,hv10,h⟩:=of_bind h
    refine AOps.cons (AOne.callP (F:=(FF 108 0)) _ rfl rfl rfl _ rfl rfl _ _ rfl Tryz.call82 [tI ((gD v2 v9).length:Int)] rfl rfl (f82_ok ((gD v2 v9).length:Int) hv10) rfl) ?_
    refine AOps.keepTo [0,1,2,8,37,38,39,46] 0 ⟨[(0,q0 v1),(1,.tv (fzL 1 (cSl 2 c37) v2)),(2,.tv (fzL 1 (cSl 1 cStr) v3)),(8,.fn 82 []),(37,.tv (fzL 1 (cSl 2 c37) v2)),(38,tI (v2.length:Int)),(39,tI v9),(46,tB v10)],[]⟩ ?_ z0 ?_
    ·kernel_rfl
    refine AOps.nil ?_
    refine AWp.cond rfl (fun hb=>?_) fun hb=>?_
    ·replace h:=of_true h hb
     refine AWp.keepTo [] 0 ⟨[],[]⟩ ?_ z0 ?_
     ·kernel_rfl
     refine AWp.seq ?_
     refine AWp.start [0,1] [] [] [6,7] 0 ⟨[(6,tS ([]:List UInt8)),(7,tI (2:Int))],[]⟩ rfl ?_ z0 trivial ?_
     ·kernel_rfl
     refine AOps.nil ?_
     refine AWp.ret ?_
     cases h
     exact Or.inr ⟨_,rfl,by simp,rfl,rfl⟩
    ·replace h:=of_false h hb
     refine AWp.keepTo [0,1,2,8,37,38,39] 0 ⟨[(0,q0 v1),(1,.tv (fzL 1 (cSl 2 c37) v2)),(2,.tv (fzL 1 (cSl 1 cStr) v3)),(8,.fn 82 []),(37,.tv (fzL 1 (cSl 2 c37) v2)),(38,tI (v2.length:Int)),(39,tI v9)],[]⟩ ?_ z0 ?_
     ·kernel_rfl
     refine AWp.skip ?_
     refine AWp.start [0,1] [] [] [0,1,2,8,37,38,39] 0 ⟨[(0,q0 v1),(1,.tv (fzL 1 (cSl 2 c37) v2)),(2,.tv (fzL 1 (cSl 1 cStr) v3)),(8,.fn 82 []),(37,.tv (fzL 1 (cSl 2 c37) v2)),(38,tI (v2.length:Int)),(39,tI (w64 (v9 + (1:Int))))],[]⟩ rfl ?_ z0 trivial ?_
     ·kernel_rfl
     refine AOps.nil ?_
     cases h
     exact Or.inl ⟨_,rfl,rfl,rfl⟩
   ·replace h:=of_false h hb
    refine AWp.keepTo [0,1,2,8] 0 ⟨[(0,q0 v1),(1,.tv (fzL 1 (cSl 2 c37) v2)),(2,.tv (fzL 1 (cSl 1 cStr) v3)),(8,.fn 82 [])],[]⟩ ?_ z0 ?_
    ·kernel_rfl
    refine AWp.exit ?_
    cases h
    exact Or.inr ⟨_,rfl,by simp,rfl,rfl⟩
  ·intro e σ hp
   rcases y with v11 | _
   ·obtain ⟨rfl,rfl⟩:=hp
    cases h
    exact ⟨.inr rfl,rfl⟩
   ·obtain ⟨rfl,rfl⟩:=hp
    refine AWp.seq ?_
    refine AWp.seq ?_
    refine AWp.start [0,1,2] [] [] [0,1,2,8,48,49,50] 0 ⟨[(0,q0 v1),(1,.tv (fzL 1 (cSl 2 c37) v2)),(2,.tv (fzL 1 (cSl 1 cStr) v3)),(8,.fn 82 []),(48,.tv (fzL 1 (cSl 1 cStr) v3)),(49,tI (v3.length:Int)),(50,tI (0:Int))],[]⟩ rfl ?_ z0 trivial ?_
    ·kernel_rfl
    refine AOps.nil ?_
    refine AWp.block ?_
    obtain ⟨y,hy,h⟩:=of_bind h
    refine AWp.mono (AWp.loop (S:=Int) (Y:=Out ((List UInt8) × Int) Unit) (fun s=>⟨[(0,q0 v1),(1,.tv (fzL 1 (cSl 2 c37) v2)),(2,.tv (fzL 1 (cSl 1 cStr) v3)),(8,.fn 82 []),(48,.tv (fzL 1 (cSl 1 cStr) v3)),(49,tI (v3.length:Int)),(50,tI s)],[]⟩) (fun s=>f43_b2 v3 s) (fun y e σ=>match y with | .ret r=>e = .ret ∧ σ = ⟨[(6,tS r.1),(7,tI r.2)],[]⟩ | .go v=>e = .exit 2 ∧ σ = ⟨[(0,q0 v1),(1,.tv (fzL 1 (cSl 2 c37) v2)),(2,.tv (fzL 1 (cSl 1 cStr) v3))],[]⟩) ?_ hy) ?_
    ·rintro v12 o h
     refine AWp.seq ?_
     refine AWp.start [0] [] [] [0,1,2,8,48,49,50,51] 0 ⟨[(0,q0 v1),(1,.tv (fzL 1 (cSl 2 c37) v2)),(2,.tv (fzL 1 (cSl 1 cStr) v3)),(8,.fn 82 []),(48,.tv (fzL 1 (cSl 1 cStr) v3)),(49,tI (v3.length:Int)),(50,tI v12),(51,tB (decide (v12 < (v3.length:Int))))],[]⟩ rfl ?_ z0 trivial ?_
     ·kernel_rfl
     refine AOps.nil ?_
     refine AWp.seq ?_
     refine AWp.cond rfl (fun hb=>?_) fun hb=>?_
     ·replace h:=of_true h hb
      refine AWp.keepTo [0,1,2,8,48,49,50] 0 ⟨[(0,q0 v1),(1,.tv (fzL 1 (cSl 2 c37) v2)),(2,.tv (fzL 1 (cSl 1 cStr) v3)),(8,.fn 82 []),(48,.tv (fzL 1 (cSl 1 cStr) v3)),(49,tI (v3.length:Int)),(50,tI v12)],[]⟩ ?_ z0 ?_
      ·kernel_rfl
      refine AWp.skip ?_
      refine AWp.seq ?_
      refine AWp.block ?_
      refine AWp.seq ?_
      obtain ⟨hg,h⟩:=of_guard h
      refine AWp.start [0,1,2] [] [(0:Int) ≤ v12,v12 < (v3.length:Int)] [0,1,2,8,12,48,49,50] 0 ⟨[(0,q0 v1),(1,.tv (fzL 1 (cSl 2 c37) v2)),(2,.tv (fzL 1 (cSl 1 cStr) v3)),(8,.fn 82 []),(12,q4 (gD v3 v12)),(48,.tv (fzL 1 (cSl 1 cStr) v3)),(49,tI (v3.length:Int)),(50,tI v12)],[]⟩ rfl ?_ z0 ⟨hg.1,hg.2⟩ ?_
      ·kernel_rfl
      refine AOps.nil ?_
      refine AWp.seq ?_
      refine AWp.start [0,1,2] [3] [] [0,1,2,8,48,49,50,54,56] 0 ⟨[(0,q0 v1),(1,.tv (fzL 1 (cSl 2 c37) v2)),(2,.tv (fzL 1 (cSl 1 cStr) v3)),(8,.fn 82 []),(48,.tv (fzL 1 (cSl 1 cStr) v3)),(49,tI (v3.length:Int)),(50,tI v12),(54,.fn 82 []),(56,tI ((gD v3 v12).length:Int))],[]⟩ rfl ?_ z0 trivial ?_
      ·kernel_rfl
      obtain ⟨v13,hv13,h⟩:=of_bind h
      refine AOps.cons (AOne.callP (F:=(FF 108 0)) _ rfl rfl rfl _ rfl rfl _ _ rfl Tryz.call82 [tI ((gD v3 v12).length:Int)] rfl rfl (f82_ok ((gD v3 v12).length:Int) hv13) rfl) ?_
      refine AOps.keepTo [0,1,2,8,48,49,50,57] 0 ⟨[(0,q0 v1),(1,.tv (fzL 1 (cSl 2 c37) v2)),(2,.tv (fzL 1 (cSl 1 cStr) v3)),(8,.fn 82 []),(48,.tv (fzL 1 (cSl 1 cStr) v3)),(49,tI (v3.length:Int)),(50,tI v12),(57,tB v13)],[]⟩ ?_ z0 ?_
      ·kernel_rfl
      refine AOps.nil ?_
      refine AWp.cond rfl (fun hb=>?_) fun hb=>?_
      ·replace h:=of_true h hb
       refine AWp.keepTo [] 0 ⟨[],[]⟩ ?_ z0 ?_
       ·kernel_rfl
       refine AWp.seq ?_
       refine AWp.start [0,1] [] [] [6,7] 0 ⟨[(6,tS ([]:List UInt8)),(7,tI (2:Int))],[]⟩ rfl ?_ z0 trivial ?_
       ·kernel_rfl
       refine AOps.nil ?_
       refine AWp.ret ?_
       cases h
       exact Or.inr ⟨_,rfl,by simp,rfl,rfl⟩
      ·replace h:=of_false h hb
       refine AWp.keepTo [0,1,2,8,48,49,50] 0 ⟨[(0,q0 v1),(1,.tv (fzL 1 (cSl 2 c37) v2)),(2,.tv (fzL 1 (cSl 1 cStr) v3)),(8,.fn 82 []),(48,.tv (fzL 1 (cSl 1 cStr) v3)),(49,tI (v3.length:Int)),(50,tI v12)],[]⟩ ?_ z0 ?_
       ·kernel_rfl
       refine AWp.skip ?_
       refine AWp.start [0,1] [] [] [0,1,2,8,48,49,50] 0 ⟨[(0,q0 v1),(1,.tv (fzL 1 (cSl 2 c37) v2)),(2,.tv (fzL 1 (cSl 1 cStr) v3)),(8,.fn 82 []),(48,.tv (fzL 1 (cSl 1 cStr) v3)),(49,tI (v3.length:Int)),(50,tI (w64 (v12 + (1:Int))))],[]⟩ rfl ?_ z0 trivial ?_
       ·kernel_rfl
       refine AOps.nil ?_
       cases h
       exact Or.inl ⟨_,rfl,rfl,rfl⟩
     ·replace h:=of_false h hb
      refine AWp.keepTo [0,1,2] 0 ⟨[(0,q0 v1),(1,.tv (fzL 1 (cSl 2 c37) v2)),(2,.tv (fzL 1 (cSl 1 cStr) v3))],[]⟩ ?_ z0 ?_
      ·kernel_rfl
      refine AWp.exit ?_
      cases h
      exact Or.inr ⟨_,rfl,by simp,rfl,rfl⟩
    ·intro e σ hp
     rcases y with v14 | _
     ·obtain ⟨rfl,rfl⟩:=hp
      cases h
      exact ⟨.inr rfl,rfl⟩
     ·obtain ⟨rfl,rfl⟩:=hp
      refine AWp.seq ?_
      refine AWp.seq ?_
      refine AWp.start [0,1,2] [] [] [0,2,59,60,61] 0 ⟨[(0,q0 v1),(2,.tv (fzL 1 (cSl 1 cStr) v3)),(59,.tv (fzL 1 (cSl 2 c37) v2)),(60,tI (v2.length:Int)),(61,tI (0:Int))],[]⟩ rfl ?_ z0 trivial ?_
      ·kernel_rfl
      refine AOps.nil ?_
      refine AWp.block ?_
      obtain ⟨y,hy,h⟩:=of_bind h
      refine AWp.mono (AWp.loop (S:=Int) (Y:=Out ((List UInt8) × Int) Unit) (fun s=>⟨[(0,q0 v1),(2,.tv (fzL 1 (cSl 1 cStr) v3)),(59,.tv (fzL 1 (cSl 2 c37) v2)),(60,tI (v2.length:Int)),(61,tI s)],[]⟩) (fun s=>f43_b4 v1 v2 s) (fun y e σ=>match y with | .ret r=>e = .ret ∧ σ = ⟨[(6,tS r.1),(7,tI r.2)],[]⟩ | .go v=>e = .exit 4 ∧ σ = ⟨[(0,q0 v1),(2,.tv (fzL 1 (cSl 1 cStr) v3))],[]⟩) ?_ hy) ?_
      ·rintro v15 o h
       refine AWp.seq ?_
       refine AWp.start [0] [] [] [0,2,59,60,61,62] 0 ⟨[(0,q0 v1),(2,.tv (fzL 1 (cSl 1 cStr) v3)),(59,.tv (fzL 1 (cSl 2 c37) v2)),(60,tI (v2.length:Int)),(61,tI v15),(62,tB (decide (v15 < (v2.length:Int))))],[]⟩ rfl ?_ z0 trivial ?_
       ·kernel_rfl
       refine AOps.nil ?_
       refine AWp.seq ?_
       refine AWp.cond rfl (fun hb=>?_) fun hb=>?_
       ·replace h:=of_true h hb
        refine AWp.keepTo [0,2,59,60,61] 0 ⟨[(0,q0 v1),(2,.tv (fzL 1 (cSl 1 cStr) v3)),(59,.tv (fzL 1 (cSl 2 c37) v2)),(60,tI (v2.length:Int)),(61,tI v15)],[]⟩ ?_ z0 ?_
        ·kernel_rfl
        refine AWp.skip ?_
        refine AWp.seq ?_
        refine AWp.block ?_
        refine AWp.seq ?_
        obtain ⟨hg,h⟩:=of_guard h
        refine AWp.start [0,1,2] [] [(0:Int) ≤ v15,v15 < (v2.length:Int)] [0,2,14,59,60,61] 0 ⟨[(0,q0 v1),(2,.tv (fzL 1 (cSl 1 cStr) v3)),(14,q5 (gD v2 v15)),(59,.tv (fzL 1 (cSl 2 c37) v2)),(60,tI (v2.length:Int)),(61,tI v15)],[]⟩ rfl ?_ z0 ⟨hg.1,hg.2⟩ ?_
        ·kernel_rfl
        refine AOps.nil ?_
        refine AWp.seq ?_
        refine AWp.start [0,1,2] [] [] [0,2,59,60,61,65,66,67] 0 ⟨[(0,q0 v1),(2,.tv (fzL 1 (cSl 1 cStr) v3)),(59,.tv (fzL 1 (cSl 2 c37) v2)),(60,tI (v2.length:Int)),(61,tI v15),(65,q5 (gD v2 v15)),(66,tI ((gD v2 v15).length:Int)),(67,tI (0:Int))],[]⟩ rfl ?_ z0 trivial ?_
        ·kernel_rfl
        refine AOps.nil ?_
        refine AWp.block ?_
        obtain ⟨y,hy,h⟩:=of_bind h
        refine AWp.mono (AWp.loop (S:=Int) (Y:=Out ((List UInt8) × Int) Unit) (fun s=>⟨[(0,q0 v1),(2,.tv (fzL 1 (cSl 1 cStr) v3)),(59,.tv (fzL 1 (cSl 2 c37) v2)),(60,tI (v2.length:Int)),(61,tI v15),(65,q5 (gD v2 v15)),(66,tI ((gD v2 v15).length:Int)),(67,tI s)],[]⟩) (fun s=>f43_b3 v1 v2 v15 s) (fun y e σ=>match y with | .ret r=>e = .ret ∧ σ = ⟨[(6,tS r.1),(7,tI r.2)],[]⟩ | .go v=>e = .exit 6 ∧ σ = ⟨[(0,q0 v1),(2,.tv (fzL 1 (cSl 1 cStr) v3)),(59,.tv (fzL 1 (cSl 2 c37) v2)),(60,tI (v2.length:Int)),(61,tI v15)],[]⟩) ?_ hy) ?_
        ·rintro v16 o h
         refine AWp.seq ?_
         refine AWp.start [0] [] [] [0,2,59,60,61,65,66,67,68] 0 ⟨[(0,q0 v1),(2,.tv (fzL 1 (cSl 1 cStr) v3)),(59,.tv (fzL 1 (cSl 2 c37) v2)),(60,tI (v2.length:Int)),(61,tI v15),(65,q5 (gD v2 v15)),(66,tI ((gD v2 v15).length:Int)),(67,tI v16),(68,tB (decide (v16 < ((gD v2 v15).length:Int))))],[]⟩ rfl ?_ z0 trivial ?_
         ·kernel_rfl
         refine AOps.nil ?_
         refine AWp.seq ?_
         refine AWp.cond rfl (fun hb=>?_) fun hb=>?_
         ·replace h:=of_true h hb
          refine AWp.keepTo [0,2,59,60,61,65,66,67] 0 ⟨[(0,q0 v1),(2,.tv (fzL 1 (cSl 1 cStr) v3)),(59,.tv (fzL 1 (cSl 2 c37) v2)),(60,tI (v2.length:Int)),(61,tI v15),(65,q5 (gD v2 v15)),(66,tI ((gD v2 v15).length:Int)),(67,tI v16)],[]⟩ ?_ z0 ?_
          ·kernel_rfl
          refine AWp.skip ?_
          refine AWp.seq ?_
          refine AWp.block ?_
          refine AWp.seq ?_
          obtain ⟨hg,h⟩:=of_guard h
          refine AWp.start [0,1,2,3] [] [(0:Int) ≤ v16,v16 < ((gD v2 v15).length:Int)] [0,2,16,59,60,61,65,66,67] 1 ⟨[(0,q0 v1),(2,.tv (fzL 1 (cSl 1 cStr) v3)),(16,.pc 0 0),(59,.tv (fzL 1 (cSl 2 c37) v2)),(60,tI (v2.length:Int)),(61,tI v15),(65,q5 (gD v2 v15)),(66,tI ((gD v2 v15).length:Int)),(67,tI v16)],[.cells 38 (c37 (gD (gD v2 v15) v16))]⟩ rfl ?_ z0 ⟨hg.1,hg.2⟩ ?_
          ·kernel_rfl
          refine AOps.nil ?_
          refine AWp.seq ?_
          refine AWp.pin 0 rfl rfl ?_
          refine AWp.keepTo [0,2,16,59,60,61,65,66,67] 0 ⟨[(0,q0 v1),(2,.tv (fzL 1 (cSl 1 cStr) v3)),(16,.rp (c37 (gD (gD v2 v15) v16))),(59,.tv (fzL 1 (cSl 2 c37) v2)),(60,tI (v2.length:Int)),(61,tI v15),(65,q5 (gD v2 v15)),(66,tI ((gD v2 v15).length:Int)),(67,tI v16)],[]⟩ ?_ z0 ?_
          ·kernel_rfl
          refine AWp.start [0,1] [2,3] [] [0,2,16,59,60,61,65,66,67,71,72] 0 ⟨[(0,q0 v1),(2,.tv (fzL 1 (cSl 1 cStr) v3)),(16,.rp (c37 (gD (gD v2 v15) v16))),(59,.tv (fzL 1 (cSl 2 c37) v2)),(60,tI (v2.length:Int)),(61,tI v15),(65,q5 (gD v2 v15)),(66,tI ((gD v2 v15).length:Int)),(67,tI v16),(71,q0 v1),(72,.agg (c37 (gD (gD v2 v15) v16)))],[]⟩ rfl ?_ z0 trivial ?_
          ·kernel_rfl
          obtain ⟨v17,hv17,h⟩:=of_bind h
          refine AOps.cons (AOne.callP (F:=(FF 108 0)) _ rfl rfl rfl _ rfl rfl _ _ rfl Tryz.call22 [q0 v1,.agg (c37 (gD (gD v2 v15) v16))] rfl rfl (f22_ok v1 (gD (gD v2 v15) v16) hv17) rfl) ?_
          refine AOps.go [3] [] [] [0,2,16,59,60,61,65,66,67,74] 0 ⟨[(0,q0 v1),(2,.tv (fzL 1 (cSl 1 cStr) v3)),(16,.rp (c37 (gD (gD v2 v15) v16))),(59,.tv (fzL 1 (cSl 2 c37) v2)),(60,tI (v2.length:Int)),(61,tI v15),(65,q5 (gD v2 v15)),(66,tI ((gD v2 v15).length:Int)),(67,tI v16),(74,tB (!v17))],[]⟩ ?_ z0 trivial ?_
          ·kernel_rfl
          refine AOps.nil ?_
          refine AWp.cond rfl (fun hb=>?_) fun hb=>?_
          ·replace h:=of_true h hb
           refine AWp.keepTo [16] 0 ⟨[(16,.rp (c37 (gD (gD v2 v15) v16)))],[]⟩ ?_ z0 ?_
           ·kernel_rfl
           refine AWp.seq ?_
           refine AWp.start [0,1,2,3] [] [] [6,7] 0 ⟨[(6,tS ((gD (gD v2 v15) v16).f0)),(7,tI (5:Int))],[]⟩ rfl ?_ z0 trivial ?_
           ·kernel_rfl
           refine AOps.nil ?_
           refine AWp.ret ?_
           cases h
           exact Or.inr ⟨_,rfl,by simp,rfl,rfl⟩
          ·replace h:=of_false h hb
           refine AWp.keepTo [0,2,59,60,61,65,66,67] 0 ⟨[(0,q0 v1),(2,.tv (fzL 1 (cSl 1 cStr) v3)),(59,.tv (fzL 1 (cSl 2 c37) v2)),(60,tI (v2.length:Int)),(61,tI v15),(65,q5 (gD v2 v15)),(66,tI ((gD v2 v15).length:Int)),(67,tI v16)],[]⟩ ?_ z0 ?_
           ·kernel_rfl
           refine AWp.skip ?_
           refine AWp.start [0,1] [] [] [0,2,59,60,61,65,66,67] 0 ⟨[(0,q0 v1),(2,.tv (fzL 1 (cSl 1 cStr) v3)),(59,.tv (fzL 1 (cSl 2 c37) v2)),(60,tI (v2.length:Int)),(61,tI v15),(65,q5 (gD v2 v15)),(66,tI ((gD v2 v15).length:Int)),(67,tI (w64 (v16 + (1:Int))))],[]⟩ rfl ?_ z0 trivial ?_
           ·kernel_rfl
           refine AOps.nil ?_
           cases h
           exact Or.inl ⟨_,rfl,rfl,rfl⟩
         ·replace h:=of_false h hb
          refine AWp.keepTo [0,2,59,60,61] 0 ⟨[(0,q0 v1),(2,.tv (fzL 1 (cSl 1 cStr) v3)),(59,.tv (fzL 1 (cSl 2 c37) v2)),(60,tI (v2.length:Int)),(61,tI v15)],[]⟩ ?_ z0 ?_
          ·kernel_rfl
          refine AWp.exit ?_
          cases h
          exact Or.inr ⟨_,rfl,by simp,rfl,rfl⟩
        ·intro e σ hp
         rcases y with v18 | _
         ·obtain ⟨rfl,rfl⟩:=hp
          cases h
          exact Or.inr ⟨_,rfl,by simp,rfl,rfl⟩
         ·obtain ⟨rfl,rfl⟩:=hp
          refine AWp.start [0,1] [] [] [0,2,59,60,61] 0 ⟨[(0,q0 v1),(2,.tv (fzL 1 (cSl 1 cStr) v3)),(59,.tv (fzL 1 (cSl 2 c37) v2)),(60,tI (v2.length:Int)),(61,tI (w64 (v15 + (1:Int))))],[]⟩ rfl ?_ z0 trivial ?_
          ·kernel_rfl
          refine AOps.nil ?_
          cases h
          exact Or.inl ⟨_,rfl,rfl,rfl⟩
       ·replace h:=of_false h hb
        refine AWp.keepTo [0,2] 0 ⟨[(0,q0 v1),(2,.tv (fzL 1 (cSl 1 cStr) v3))],[]⟩ ?_ z0 ?_
        ·kernel_rfl
        refine AWp.exit ?_
        cases h
        exact Or.inr ⟨_,rfl,by simp,rfl,rfl⟩
      ·intro e σ hp
       rcases y with v19 | _
       ·obtain ⟨rfl,rfl⟩:=hp
        cases h
        exact ⟨.inr rfl,rfl⟩
       ·obtain ⟨rfl,rfl⟩:=hp
        refine AWp.seq ?_
        refine AWp.start [0] [] [] [0,2,17] 0 ⟨[(0,q0 v1),(2,.tv (fzL 1 (cSl 1 cStr) v3)),(17,.tv (.sc (.slice none 0 0)))],[]⟩ rfl ?_ z0 trivial ?_
        ·kernel_rfl
        refine AOps.nil ?_
        refine AWp.seq ?_
        refine AWp.seq ?_
        refine AWp.start [0] [1,2,3] [] [0,2,17,79] 0 ⟨[(0,q0 v1),(2,.tv (fzL 1 (cSl 1 cStr) v3)),(17,.tv (.sc (.slice none 0 0))),(79,.tv (fzL 1 (cSl 1 cStr) v3))],[]⟩ rfl ?_ z0 trivial ?_
        ·kernel_rfl
        obtain ⟨v20,hv20,h⟩:=of_bind h
        refine AOps.cons (AOne.callP (F:=(FF 108 0)) _ rfl rfl rfl _ rfl rfl _ _ rfl Tryz.call83 [.tv (fzL 1 (cSl 1 cStr) v3)] rfl rfl (f83_ok v3 hv20) rfl) ?_
        refine AOps.freezeL 80 cStr v20 rfl (fun _=>rfl) ?_
        refine AOps.go [2,3] [] [] [0,2,17,80,81,82] 0 ⟨[(0,q0 v1),(2,.tv (fzL 1 (cSl 1 cStr) v3)),(17,.tv (.sc (.slice none 0 0))),(80,q4 v20),(81,tI (v20.length:Int)),(82,tI (0:Int))],[]⟩ ?_ z0 trivial ?_
        ·kernel_rfl
        refine AOps.nil ?_
        refine AWp.block ?_
        obtain ⟨y,hy,h⟩:=of_bind h
        refine AWp.mono (AWp.loop (S:=Int) (Y:=Out ((List UInt8) × Int) Unit) (fun s=>⟨[(0,q0 v1),(2,.tv (fzL 1 (cSl 1 cStr) v3)),(17,.tv (.sc (.slice none 0 0))),(80,q4 v20),(81,tI (v20.length:Int)),(82,tI s)],[]⟩) (fun s=>f43_b5 v1 v20 s) (fun y e σ=>match y with | .ret r=>e = .ret ∧ σ = ⟨[(6,tS r.1),(7,tI r.2)],[]⟩ | .go v=>e = .exit 8 ∧ σ = ⟨[(2,.tv (fzL 1 (cSl 1 cStr) v3)),(17,.tv (.sc (.slice none 0 0)))],[]⟩) ?_ hy) ?_
        ·rintro v21 o h
         refine AWp.seq ?_
         refine AWp.start [0] [] [] [0,2,17,80,81,82,83] 0 ⟨[(0,q0 v1),(2,.tv (fzL 1 (cSl 1 cStr) v3)),(17,.tv (.sc (.slice none 0 0))),(80,q4 v20),(81,tI (v20.length:Int)),(82,tI v21),(83,tB (decide (v21 < (v20.length:Int))))],[]⟩ rfl ?_ z0 trivial ?_
         ·kernel_rfl
         refine AOps.nil ?_
         refine AWp.seq ?_
         refine AWp.cond rfl (fun hb=>?_) fun hb=>?_
         ·replace h:=of_true h hb
          refine AWp.keepTo [0,2,17,80,81,82] 0 ⟨[(0,q0 v1),(2,.tv (fzL 1 (cSl 1 cStr) v3)),(17,.tv (.sc (.slice none 0 0))),(80,q4 v20),(81,tI (v20.length:Int)),(82,tI v21)],[]⟩ ?_ z0 ?_
          ·kernel_rfl
          refine AWp.skip ?_
          refine AWp.seq ?_
          refine AWp.block ?_
          refine AWp.seq ?_
          obtain ⟨hg,h⟩:=of_guard h
          refine AWp.start [0,1,2] [] [(0:Int) ≤ v21,v21 < (v20.length:Int)] [0,2,17,19,80,81,82] 0 ⟨[(0,q0 v1),(2,.tv (fzL 1 (cSl 1 cStr) v3)),(17,.tv (.sc (.slice none 0 0))),(19,tS (gD v20 v21)),(80,q4 v20),(81,tI (v20.length:Int)),(82,tI v21)],[]⟩ rfl ?_ z0 ⟨hg.1,hg.2⟩ ?_
          ·kernel_rfl
          refine AOps.nil ?_
          refine AWp.seq ?_
          refine AWp.start [0,1] [2,3] [] [0,2,17,19,80,81,82,86,87] 0 ⟨[(0,q0 v1),(2,.tv (fzL 1 (cSl 1 cStr) v3)),(17,.tv (.sc (.slice none 0 0))),(19,tS (gD v20 v21)),(80,q4 v20),(81,tI (v20.length:Int)),(82,tI v21),(86,q0 v1),(87,tS (gD v20 v21))],[]⟩ rfl ?_ z0 trivial ?_
          ·kernel_rfl
          obtain ⟨v22,hv22,h⟩:=of_bind h
          refine AOps.cons (AOne.callP (F:=(FF 108 0)) _ rfl rfl rfl _ rfl rfl _ _ rfl Tryz.call44 [q0 v1,tS (gD v20 v21)] rfl rfl (f44_ok v1 (gD v20 v21) hv22) rfl) ?_
          refine AOps.go [3] [] [] [0,2,17,19,80,81,82,89] 0 ⟨[(0,q0 v1),(2,.tv (fzL 1 (cSl 1 cStr) v3)),(17,.tv (.sc (.slice none 0 0))),(19,tS (gD v20 v21)),(80,q4 v20),(81,tI (v20.length:Int)),(82,tI v21),(89,tB (decide (v22 < (0:Int))))],[]⟩ ?_ z0 trivial ?_
          ·kernel_rfl
          refine AOps.nil ?_
          refine AWp.cond rfl (fun hb=>?_) fun hb=>?_
          ·replace h:=of_true h hb
           refine AWp.keepTo [19] 0 ⟨[(19,tS (gD v20 v21))],[]⟩ ?_ z0 ?_
           ·kernel_rfl
           refine AWp.seq ?_
           refine AWp.start [0,1,2] [] [] [6,7] 0 ⟨[(6,tS (gD v20 v21)),(7,tI (5:Int))],[]⟩ rfl ?_ z0 trivial ?_
           ·kernel_rfl
           refine AOps.nil ?_
           refine AWp.ret ?_
           cases h
           exact Or.inr ⟨_,rfl,by simp,rfl,rfl⟩
          ·replace h:=of_false h hb
           refine AWp.keepTo [0,2,17,80,81,82] 0 ⟨[(0,q0 v1),(2,.tv (fzL 1 (cSl 1 cStr) v3)),(17,.tv (.sc (.slice none 0 0))),(80,q4 v20),(81,tI (v20.length:Int)),(82,tI v21)],[]⟩ ?_ z0 ?_
           ·kernel_rfl
           refine AWp.skip ?_
           refine AWp.start [0,1] [] [] [0,2,17,80,81,82] 0 ⟨[(0,q0 v1),(2,.tv (fzL 1 (cSl 1 cStr) v3)),(17,.tv (.sc (.slice none 0 0))),(80,q4 v20),(81,tI (v20.length:Int)),(82,tI (w64 (v21 + (1:Int))))],[]⟩ rfl ?_ z0 trivial ?_
           ·kernel_rfl
           refine AOps.nil ?_
           cases h
           exact Or.inl ⟨_,rfl,rfl,rfl⟩
         ·replace h:=of_false h hb
          refine AWp.keepTo [2,17] 0 ⟨[(2,.tv (fzL 1 (cSl 1 cStr) v3)),(17,.tv (.sc (.slice none 0 0)))],[]⟩ ?_ z0 ?_
          ·kernel_rfl
          refine AWp.exit ?_
          cases h
          exact Or.inr ⟨_,rfl,by simp,rfl,rfl⟩
        ·intro e σ hp
         rcases y with v23 | _
         ·obtain ⟨rfl,rfl⟩:=hp
          cases h
          exact ⟨.inr rfl,rfl⟩
         ·obtain ⟨rfl,rfl⟩:=hp
          refine AWp.seq ?_
          refine AWp.seq ?_
          refine AWp.start [0] [1,2,3] [] [17,92] 0 ⟨[(17,.tv (.sc (.slice none 0 0))),(92,.tv (fzL 1 (cSl 1 cStr) v3))],[]⟩ rfl ?_ z0 trivial ?_
          ·kernel_rfl
          obtain ⟨v24,hv24,h⟩:=of_bind h
          refine AOps.cons (AOne.callP (F:=(FF 108 0)) _ rfl rfl rfl _ rfl rfl _ _ rfl Tryz.call83 [.tv (fzL 1 (cSl 1 cStr) v3)] rfl rfl (f83_ok v3 hv24) rfl) ?_
          refine AOps.freezeL 93 cStr v24 rfl (fun _=>rfl) ?_
          refine AOps.go [2,3] [] [] [17,93,94,95] 0 ⟨[(17,.tv (.sc (.slice none 0 0))),(93,q4 v24),(94,tI (v24.length:Int)),(95,tI (0:Int))],[]⟩ ?_ z0 trivial ?_
          ·kernel_rfl
          refine AOps.nil ?_
          refine AWp.block ?_
          refine AWp.nilOwn 17 1 9 (fun i=>cStr (([]:List (List UInt8)).getD i default)) rfl ?_
          refine AWp.keepTo [17,93,94,95] 0 ⟨[(17,.tv (ownL 1 9 cStr ([]:List (List UInt8)))),(93,q4 v24),(94,tI (v24.length:Int)),(95,tI (0:Int))],[]⟩ ?_ z0 ?_
          ·kernel_rfl
          obtain ⟨y,hy,h⟩:=of_bind h
          refine AWp.mono (AWp.loop (S:=(List (List UInt8)) × Int) (Y:=Out ((List UInt8) × Int) Unit) (fun s=>⟨[(17,.tv (ownL 1 9 cStr s.1)),(93,q4 v24),(94,tI (v24.length:Int)),(95,tI s.2)],[]⟩) (fun s=>f43_b6 v24 s.1 s.2) (fun y e σ=>match y with | .ret r=>e = .ret ∧ σ = ⟨[(6,tS r.1),(7,tI r.2)],[]⟩ | .go v=>e = .exit 10 ∧ σ = ⟨[],[]⟩) ?_ hy) ?_
          ·rintro ⟨v25,v26⟩ o h
           refine AWp.seq ?_
           refine AWp.start [0] [] [] [17,93,94,95,96] 0 ⟨[(17,.tv (ownL 1 9 cStr v25)),(93,q4 v24),(94,tI (v24.length:Int)),(95,tI v26),(96,tB (decide (v26 < (v24.length:Int))))],[]⟩ rfl ?_ z0 trivial ?_
           ·kernel_rfl
           refine AOps.nil ?_
           refine AWp.seq ?_
           refine AWp.cond rfl (fun hb=>?_) fun hb=>?_
           ·replace h:=of_true h hb
            refine AWp.keepTo [17,93,94,95] 0 ⟨[(17,.tv (ownL 1 9 cStr v25)),(93,q4 v24),(94,tI (v24.length:Int)),(95,tI v26)],[]⟩ ?_ z0 ?_
            ·kernel_rfl
            refine AWp.skip ?_
            refine AWp.seq ?_
            refine AWp.block ?_
            refine AWp.seq ?_
            obtain ⟨hg,h⟩:=of_guard h
            refine AWp.start [0,1,2] [] [(0:Int) ≤ v26,v26 < (v24.length:Int)] [17,21,93,94,95] 0 ⟨[(17,.tv (ownL 1 9 cStr v25)),(21,tS (gD v24 v26)),(93,q4 v24),(94,tI (v24.length:Int)),(95,tI v26)],[]⟩ rfl ?_ z0 ⟨hg.1,hg.2⟩ ?_
            ·kernel_rfl
            refine AOps.nil ?_
            refine AWp.seq ?_
            refine AWp.seq ?_
            refine AWp.start [0,1] [2] [] [17,21,93,94,95,99,100] 0 ⟨[(17,.tv (ownL 1 9 cStr v25)),(21,tS (gD v24 v26)),(93,q4 v24),(94,tI (v24.length:Int)),(95,tI v26),(99,.al (.slot 17 0,[])),(100,tS (gD v24 v26))],[]⟩ rfl ?_ z0 trivial ?_
            ·kernel_rfl
            obtain ⟨v27,hv27,h⟩:=of_bind h
            refine AOps.cons (AOne.callR (F:=(FF 108 0)) _ rfl rfl rfl _ rfl rfl _ _ rfl Tryz.call58 [PlainTo v25.length (fun i=>cStr (v25.getD i default))] [q4 v25,tS (gD v24 v26)] rfl (fun _ _=>rfl) (f58_ok v25 (gD v24 v26) hv27) (ind_of rfl) rfl) ?_
            refine AOps.keepTo [17,21,93,94,95,101] 0 ⟨[(17,.tv (ownL 1 9 cStr v25)),(21,tS (gD v24 v26)),(93,q4 v24),(94,tI (v24.length:Int)),(95,tI v26),(101,tB v27)],[]⟩ ?_ z0 ?_
            ·kernel_rfl
            refine AOps.nil ?_
            refine AWp.cond rfl (fun hb=>?_) fun hb=>?_
            ·replace h:=of_true h hb
             refine AWp.keepTo [21] 0 ⟨[(21,tS (gD v24 v26))],[]⟩ ?_ z0 ?_
             ·kernel_rfl
             refine AWp.seq ?_
             refine AWp.start [0,1,2] [] [] [6,7] 0 ⟨[(6,tS (gD v24 v26)),(7,tI (8:Int))],[]⟩ rfl ?_ z0 trivial ?_
             ·kernel_rfl
             refine AOps.nil ?_
             refine AWp.ret ?_
             cases h
             exact Or.inr ⟨_,rfl,by simp,rfl,rfl⟩
            ·replace h:=of_false h hb
             refine AWp.keepTo [17,21,93,94,95] 0 ⟨[(17,.tv (ownL 1 9 cStr v25)),(21,tS (gD v24 v26)),(93,q4 v24),(94,tI (v24.length:Int)),(95,tI v26)],[]⟩ ?_ z0 ?_
             ·kernel_rfl
             refine AWp.skip ?_
             refine AWp.start [0,1,2] [3,4] [] [17,93,94,95,103,105] 0 ⟨[(17,.tv (ownL 1 9 cStr v25)),(93,q4 v24),(94,tI (v24.length:Int)),(95,tI v26),(103,.al (.slot 17 0,[])),(105,.tv (.own 1 9 1 (newRowF [.str (gD v24 v26)] 1)))],[]⟩ rfl ?_ z0 trivial ?_
             ·kernel_rfl
             refine AOps.extL 105 cStr [gD v24 v26] rfl rfl (row_at cStr 1 (fun _=>rfl) [gD v24 v26] _ rfl) ?_
             obtain ⟨hg,h⟩:=of_guard h
             refine AOps.go [3] [4] [(v25.length + [gD v24 v26].length) * 16 ≤ 140737488355328,PlainTo v25.length (fun i=>cStr (v25.getD i default)),PlainTo ([gD v24 v26].length) (fun i=>cStr ([gD v24 v26].getD i default))] [93,94,95,106] 0 ⟨[(93,q4 v24),(94,tI (v24.length:Int)),(95,tI v26),(106,.tv (.own 1 9 (v25.length + [gD v24 v26].length) (appF v25.length (fun i=>cStr (v25.getD i default)) (fun i=>cStr ([gD v24 v26].getD i default)))))],[]⟩ ?_ z0 ⟨hg,(fun _ _=>rfl),(fun _ _=>rfl)⟩ ?_
             ·kernel_rfl
             refine AOps.extL 106 cStr (v25 ++ [gD v24 v26]) rfl List.length_append.symm (app_at cStr v25 [gD v24 v26]) ?_
             refine AOps.go [4] [] [] [17,93,94,95] 0 ⟨[(17,.tv (ownL 1 9 cStr (v25 ++ [gD v24 v26]))),(93,q4 v24),(94,tI (v24.length:Int)),(95,tI v26)],[]⟩ ?_ z0 trivial ?_
             ·kernel_rfl
             refine AOps.nil ?_
             refine AWp.start [0,1] [] [] [17,93,94,95] 0 ⟨[(17,.tv (ownL 1 9 cStr (v25 ++ [gD v24 v26]))),(93,q4 v24),(94,tI (v24.length:Int)),(95,tI (w64 (v26 + (1:Int))))],[]⟩ rfl ?_ z0 trivial ?_
             ·kernel_rfl
             refine AOps.nil ?_
             cases h
             exact Or.inl ⟨_,rfl,rfl,rfl⟩
           ·replace h:=of_false h hb
            refine AWp.keepTo [] 0 ⟨[],[]⟩ ?_ z0 ?_
            ·kernel_rfl
            refine AWp.exit ?_
            cases h
            exact Or.inr ⟨_,rfl,by simp,rfl,rfl⟩
          ·intro e σ hp
           rcases y with v28 | _
           ·obtain ⟨rfl,rfl⟩:=hp
            cases h
            exact ⟨.inr rfl,rfl⟩
           ·obtain ⟨rfl,rfl⟩:=hp
            refine AWp.seq ?_
            refine AWp.start [0,1] [] [] [6,7] 0 ⟨[(6,tS ([]:List UInt8)),(7,tI (0:Int))],[]⟩ rfl ?_ z0 trivial ?_
            ·kernel_rfl
            refine AOps.nil ?_
            refine AWp.ret ?_
            cases h
            exact ⟨.inr rfl,rfl⟩

noncomputable def f19 (v1:T25):Option Int :=
 some (w64 (v1.f1 * v1.f2))

theorem f19_ok (v1:T25) {r:Int} (h:f19 v1 = some r):ACall Tryz.prog 19 [.agg [.str v1.f0,.int .i64 v1.f1,.int .i64 v1.f2]] [] (.tv (.int .i64 r)) []:=by
 refine ACall.of1 (FF 8 0) Tryz.func19 rfl Tryz.ntmps19 Tryz.results19 (zz rfl) rfl rfl ?_
 refine AWp.seq ?_
 refine AWp.start [0,1] [] [] [1] 1 ⟨[(1,.pc 0 0)],[.cells 26 (c25 v1)]⟩ rfl ?_ z0 trivial ?_
 ·kernel_rfl
 refine AOps.nil ?_
 refine AWp.seq ?_
 refine AWp.pin 0 rfl rfl ?_
 refine AWp.keepTo [1] 0 ⟨[(1,.rp (c25 v1))],[]⟩ ?_ z0 ?_
 ·kernel_rfl
 refine AWp.start [0,1,2,3,4,5] [] [] [2] 0 ⟨[(2,tI (w64 (v1.f1 * v1.f2)))],[]⟩ rfl ?_ z0 trivial ?_
 ·kernel_rfl
 refine AOps.nil ?_
 refine AWp.ret ?_
 cases h
 exact ⟨.inr rfl,rfl⟩

noncomputable def f45o_j1 (v6:Int) (v11:List Int) (v12:List Int):Option ((Int × (List Int) × (List Int)) ⊕ Out (Bool × T68) ((List Int) × (List Int))) :=
 some (.inl (w64 (v6 + (1:Int)),v11,v12))

noncomputable def f45o_b2 (v1:Int) (v2:Int) (v3:Int) (v4:Int) (v5:T68) (v6:Int) (v7:List Int) (v8:List Int):Option ((Int × (List Int) × (List Int)) ⊕ Out (Bool × T68) ((List Int) × (List Int))) :=
 cond (decide (v6 < (v5.f0.length:Int))) (if (0:Int) ≤ v6 ∧ v6 < (v7.length:Int) then cond (v7.getD v6.toNat default == v5.f1.getD v3.toNat default) (if (0:Int) ≤ v6 ∧ v6 < (v7.length:Int) then if (0:Int) ≤ v6 ∧ v6 < (v8.length:Int) ∧ (0:Int) ≤ v6 ∧ v6 < (v8.length:Int) then f45o_j1 v6 (v7.set v6.toNat (v5.f1.getD v1.toNat default)) (v8.set v6.toNat (w64 ((v8.getD v6.toNat default) + (w64 ((w64 ((w64 ((v5.f2.getD v1.toNat default) + v2)) - (v5.f2.getD v3.toNat default))) - v4))))) else none else none) (f45o_j1 v6 v7 v8) else none) (some (.inr (.go (v7,v8))))

noncomputable def f45o (v1:Int) (v2:Int) (v3:Int) (v4:Int) (v5:T68):Option (Bool × T68) :=
 if (0:Int) ≤ v1 ∧ v1 < (v5.f2.length:Int) then if (0:Int) ≤ v3 ∧ v3 < (v5.f2.length:Int) then if (0:Int) ≤ v1 ∧ v1 < (v5.f1.length:Int) then if (0:Int) ≤ v3 ∧ v3 < (v5.f1.length:Int) then cond (v5.f1.getD v1.toNat default == v5.f1.getD v3.toNat default) (some ((w64 ((w64 ((w64 ((v5.f2.getD v1.toNat default) + v2)) - (v5.f2.getD v3.toNat default))) - v4) == (0:Int)),T68.mk v5.f0 v5.f1 v5.f2)) (if (0:Int) ≤ v3 ∧ v3 < (v5.f1.length:Int) then if (0:Int) ≤ v1 ∧ v1 < (v5.f1.length:Int) then (iter (fun s=>f45o_b2 v1 v2 v3 v4 v5 s.1 s.2.1 s.2.2) ((0:Int),v5.f1,v5.f2)).bind fun y=>match y with | .ret v13=>some v13 | .go (v9,v10)=>some (true,T68.mk v5.f0 v9 v10) else none else none) else none else none else none else none

theorem f45o_ok (v1:Int) (v2:Int) (v3:Int) (v4:Int) (v5:T68) {r:Bool × T68} (h:f45o v1 v2 v3 v4 v5 = some r):ACall Tryz.prog 45 [.pc 0 0,.tv (.int .i64 v1),.tv (.int .i64 v2),.tv (.int .i64 v3),.tv (.int .i64 v4)] [.cells 69 [fzL 3 c25 v5.f0,ownL 1 3 (cInt .i64) v5.f1,ownL 1 3 (cInt .i64) v5.f2]] (.tv (.bool r.1)) [.cells 69 [fzL 3 c25 r.2.f0,ownL 1 3 (cInt .i64) r.2.f1,ownL 1 3 (cInt .i64) r.2.f2]]:=by
 refine ACall.of1 (FF 100 1) Tryz.func45 rfl Tryz.ntmps45 Tryz.results45 (zz rfl) rfl rfl ?_
 refine AWp.seq ?_
 refine AWp.start [0] [] [] [0,1,2,3,4] 1 ⟨[(0,.pc 0 0),(1,tI v1),(2,tI v2),(3,tI v3),(4,tI v4)],[.cells 69 [k1 v5.f0,k2 v5.f1,k2 v5.f2]]⟩ rfl ?_ (zz rfl) trivial ?_
 ·kernel_rfl
 refine AOps.nil ?_
 refine AWp.seq ?_
 refine AWp.draw FFm _ (n:=20) rfl (ls:=#[n1,n1,n1,n1,n1,n1,n1,n1,n1,n1,n1,n1,n1,n1,n1,n1,n1,n1,n1,n1]) rfl ?_ (fun _ h=>h)
 refine AAny.go (by kernel_rfl) [0,1,2,4,7,9,10,11,13,17] (fuel':=10) rfl [] #[y1,y1,y1,n1,y1,n1,n1,y1,n1,y1,y1,y1,n1,y1,n1,n1,n1,y1,n1,n1] [0,1,3,17,19,22,26,28,32] 1 ⟨[(0,.pc 0 0),(1,tI v1),(3,tI v3),(17,.pc 0 2),(19,tI v1),(22,tI v2),(26,.pc 0 2),(28,tI v3),(32,tI v4)],[.cells 69 [k1 v5.f0,k2 v5.f1,k2 v5.f2]]⟩ ?_ (zz rfl) trivial ?_
 ·kernel_rfl
 refine AAny.goR (by kernel_rfl) (i:=3) (fuel':=9) [5,6,8,16,18,19] rfl (by kernel_rfl) (by kernel_rfl) [] #[y1,y1,y1,y1,y1,n1,n1,y1,n1,y1,y1,y1,n1,y1,n1,n1,n1,y1,n1,n1] rfl [0,1,3,18,19,22,26,28,32] 1 ⟨[(0,.pc 0 0),(1,tI v1),(3,tI v3),(18,.al (.cell 0 2,[])),(19,tI v1),(22,tI v2),(26,.pc 0 2),(28,tI v3),(32,tI v4)],[.cells 69 [k1 v5.f0,k2 v5.f1,k2 v5.f2]]⟩ ?_ (zz rfl) trivial ?_
 ·kernel_rfl
 obtain ⟨hg,h⟩:=of_guard h
 refine AAny.go (by kernel_rfl) [5] (fuel':=8) rfl [(0:Int) ≤ v1,v1 < (v5.f2.length:Int)] #[y1,y1,y1,y1,y1,y1,n1,y1,n1,y1,y1,y1,n1,y1,n1,n1,n1,y1,n1,n1] [0,1,3,20,22,26,28,32] 1 ⟨[(0,.pc 0 0),(1,tI v1),(3,tI v3),(20,.pe (.cell 0 2,[]) v1.toNat 0 1),(22,tI v2),(26,.pc 0 2),(28,tI v3),(32,tI v4)],[.cells 69 [k1 v5.f0,k2 v5.f1,k2 v5.f2]]⟩ ?_ (zz rfl) ⟨hg.1,hg.2⟩ ?_
 ·kernel_rfl
 refine AAny.goR (by kernel_rfl) (i:=6) (fuel':=7) [8,16,18,19] rfl (by kernel_rfl) (by kernel_rfl) [] #[y1,y1,y1,y1,y1,y1,y1,y1,n1,y1,y1,y1,n1,y1,n1,n1,n1,y1,n1,n1] rfl [0,1,3,21,22,26,28,32] 1 ⟨[(0,.pc 0 0),(1,tI v1),(3,tI v3),(21,tI (gD v5.f2 v1)),(22,tI v2),(26,.pc 0 2),(28,tI v3),(32,tI v4)],[.cells 69 [k1 v5.f0,k2 v5.f1,k2 v5.f2]]⟩ ?_ (zz rfl) trivial ?_
 ·kernel_rfl
 refine AAny.go (by kernel_rfl) [8] (fuel':=6) rfl [] #[y1,y1,y1,y1,y1,y1,y1,y1,y1,y1,y1,y1,n1,y1,n1,n1,n1,y1,n1,n1] [0,1,3,23,26,28,32] 1 ⟨[(0,.pc 0 0),(1,tI v1),(3,tI v3),(23,tI (w64 ((gD v5.f2 v1) + v2))),(26,.pc 0 2),(28,tI v3),(32,tI v4)],[.cells 69 [k1 v5.f0,k2 v5.f1,k2 v5.f2]]⟩ ?_ (zz rfl) trivial ?_
 ·kernel_rfl
 refine AAny.step (i:=12) (fuel':=5) rfl (by kernel_rfl) [] #[y1,y1,y1,y1,y1,y1,y1,y1,y1,y1,y1,y1,y1,y1,n1,n1,n1,y1,n1,n1] rfl [0,1,3,23,27,28,32] 1 ⟨[(0,.pc 0 0),(1,tI v1),(3,tI v3),(23,tI (w64 ((gD v5.f2 v1) + v2))),(27,.al (.cell 0 2,[])),(28,tI v3),(32,tI v4)],[.cells 69 [k1 v5.f0,k2 v5.f1,k2 v5.f2]]⟩ ?_ (zz rfl) trivial ?_
 ·kernel_rfl
 obtain ⟨hg,h⟩:=of_guard h
 refine AAny.go (by kernel_rfl) [14] (fuel':=4) rfl [(0:Int) ≤ v3,v3 < (v5.f2.length:Int)] #[y1,y1,y1,y1,y1,y1,y1,y1,y1,y1,y1,y1,y1,y1,y1,n1,n1,y1,n1,n1] [0,1,3,23,29,32] 1 ⟨[(0,.pc 0 0),(1,tI v1),(3,tI v3),(23,tI (w64 ((gD v5.f2 v1) + v2))),(29,.pe (.cell 0 2,[]) v3.toNat 0 1),(32,tI v4)],[.cells 69 [k1 v5.f0,k2 v5.f1,k2 v5.f2]]⟩ ?_ (zz rfl) ⟨hg.1,hg.2⟩ ?_
 ·kernel_rfl
 refine AAny.step (i:=15) (fuel':=3) rfl (by kernel_rfl) [] #[y1,y1,y1,y1,y1,y1,y1,y1,y1,y1,y1,y1,y1,y1,y1,y1,n1,y1,n1,n1] rfl [0,1,3,23,30,32] 1 ⟨[(0,.pc 0 0),(1,tI v1),(3,tI v3),(23,tI (w64 ((gD v5.f2 v1) + v2))),(30,tI (gD v5.f2 v3)),(32,tI v4)],[.cells 69 [k1 v5.f0,k2 v5.f1,k2 v5.f2]]⟩ ?_ (zz rfl) trivial ?_
 ·kernel_rfl
 refine AAny.go (by kernel_rfl) [16,18,19] (fuel':=0) rfl [] #[y1,y1,y1,y1,y1,y1,y1,y1,y1,y1,y1,y1,y1,y1,y1,y1,y1,y1,y1,y1] [0,1,3,11] 1 ⟨[(0,.pc 0 0),(1,tI v1),(3,tI v3),(11,tI (w64 ((w64 ((w64 ((gD v5.f2 v1) + v2)) - (gD v5.f2 v3))) - v4)))],[.cells 69 [k1 v5.f0,k2 v5.f1,k2 v5.f2]]⟩ ?_ (zz rfl) trivial ?_
 ·kernel_rfl
 refine AAny.keepTo [0,1,3,11] 1 ⟨[(0,.pc 0 0),(1,tI v1),(3,tI v3),(11,tI (w64 ((w64 ((w64 ((gD v5.f2 v1) + v2)) - (gD v5.f2 v3))) - v4)))],[.cells 69 [k1 v5.f0,k2 v5.f1,k2 v5.f2]]⟩ _ ?_ rfl (zz rfl) (AAny.done (by kernel_rfl) ?_)
 ·kernel_rfl
 refine AWp.seq ?_
 refine AWp.seq ?_
 refine AWp.draw FFm _ (n:=15) rfl (ls:=#[n1,n1,n1,n1,n1,n1,n1,n1,n1,n1,n1,n1,n1,n1,n1]) rfl ?_ (fun _ h=>h)
 refine AAny.go (by kernel_rfl) [0,1,2,4,7,8,9,11] (fuel':=7) rfl [] #[y1,y1,y1,n1,y1,n1,n1,y1,y1,y1,n1,y1,n1,n1,n1] [0,1,3,11,36,38,43,45] 1 ⟨[(0,.pc 0 0),(1,tI v1),(3,tI v3),(11,tI (w64 ((w64 ((w64 ((gD v5.f2 v1) + v2)) - (gD v5.f2 v3))) - v4))),(36,.pc 0 1),(38,tI v1),(43,.pc 0 1),(45,tI v3)],[.cells 69 [k1 v5.f0,k2 v5.f1,k2 v5.f2]]⟩ ?_ (zz rfl) trivial ?_
 ·kernel_rfl
 refine AAny.goR (by kernel_rfl) (i:=3) (fuel':=6) [5,6,14] rfl (by kernel_rfl) (by kernel_rfl) [] #[y1,y1,y1,y1,y1,n1,n1,y1,y1,y1,n1,y1,n1,n1,n1] rfl [0,1,3,11,37,38,43,45] 1 ⟨[(0,.pc 0 0),(1,tI v1),(3,tI v3),(11,tI (w64 ((w64 ((w64 ((gD v5.f2 v1) + v2)) - (gD v5.f2 v3))) - v4))),(37,.al (.cell 0 1,[])),(38,tI v1),(43,.pc 0 1),(45,tI v3)],[.cells 69 [k1 v5.f0,k2 v5.f1,k2 v5.f2]]⟩ ?_ (zz rfl) trivial ?_
 ·kernel_rfl
 obtain ⟨hg,h⟩:=of_guard h
 refine AAny.go (by kernel_rfl) [5] (fuel':=5) rfl [(0:Int) ≤ v1,v1 < (v5.f1.length:Int)] #[y1,y1,y1,y1,y1,y1,n1,y1,y1,y1,n1,y1,n1,n1,n1] [0,1,3,11,39,43,45] 1 ⟨[(0,.pc 0 0),(1,tI v1),(3,tI v3),(11,tI (w64 ((w64 ((w64 ((gD v5.f2 v1) + v2)) - (gD v5.f2 v3))) - v4))),(39,.pe (.cell 0 1,[]) v1.toNat 0 1),(43,.pc 0 1),(45,tI v3)],[.cells 69 [k1 v5.f0,k2 v5.f1,k2 v5.f2]]⟩ ?_ (zz rfl) ⟨hg.1,hg.2⟩ ?_
 ·kernel_rfl
 refine AAny.goR (by kernel_rfl) (i:=6) (fuel':=4) [14] rfl (by kernel_rfl) (by kernel_rfl) [] #[y1,y1,y1,y1,y1,y1,y1,y1,y1,y1,n1,y1,n1,n1,n1] rfl [0,1,3,11,40,43,45] 1 ⟨[(0,.pc 0 0),(1,tI v1),(3,tI v3),(11,tI (w64 ((w64 ((w64 ((gD v5.f2 v1) + v2)) - (gD v5.f2 v3))) - v4))),(40,tI (gD v5.f1 v1)),(43,.pc 0 1),(45,tI v3)],[.cells 69 [k1 v5.f0,k2 v5.f1,k2 v5.f2]]⟩ ?_ (zz rfl) trivial ?_
 ·kernel_rfl
 refine AAny.step (i:=10) (fuel':=3) rfl (by kernel_rfl) [] #[y1,y1,y1,y1,y1,y1,y1,y1,y1,y1,y1,y1,n1,n1,n1] rfl [0,1,3,11,40,44,45] 1 ⟨[(0,.pc 0 0),(1,tI v1),(3,tI v3),(11,tI (w64 ((w64 ((w64 ((gD v5.f2 v1) + v2)) - (gD v5.f2 v3))) - v4))),(40,tI (gD v5.f1 v1)),(44,.al (.cell 0 1,[])),(45,tI v3)],[.cells 69 [k1 v5.f0,k2 v5.f1,k2 v5.f2]]⟩ ?_ (zz rfl) trivial ?_
 ·kernel_rfl
 obtain ⟨hg,h⟩:=of_guard h
 refine AAny.go (by kernel_rfl) [12] (fuel':=2) rfl [(0:Int) ≤ v3,v3 < (v5.f1.length:Int)] #[y1,y1,y1,y1,y1,y1,y1,y1,y1,y1,y1,y1,y1,n1,n1] [0,1,3,11,40,46] 1 ⟨[(0,.pc 0 0),(1,tI v1),(3,tI v3),(11,tI (w64 ((w64 ((w64 ((gD v5.f2 v1) + v2)) - (gD v5.f2 v3))) - v4))),(40,tI (gD v5.f1 v1)),(46,.pe (.cell 0 1,[]) v3.toNat 0 1)],[.cells 69 [k1 v5.f0,k2 v5.f1,k2 v5.f2]]⟩ ?_ (zz rfl) ⟨hg.1,hg.2⟩ ?_
 ·kernel_rfl
 refine AAny.step (i:=13) (fuel':=1) rfl (by kernel_rfl) [] #[y1,y1,y1,y1,y1,y1,y1,y1,y1,y1,y1,y1,y1,y1,n1] rfl [0,1,3,11,40,47] 1 ⟨[(0,.pc 0 0),(1,tI v1),(3,tI v3),(11,tI (w64 ((w64 ((w64 ((gD v5.f2 v1) + v2)) - (gD v5.f2 v3))) - v4))),(40,tI (gD v5.f1 v1)),(47,tI (gD v5.f1 v3))],[.cells 69 [k1 v5.f0,k2 v5.f1,k2 v5.f2]]⟩ ?_ (zz rfl) trivial ?_
 ·kernel_rfl
 refine AAny.go (by kernel_rfl) [14] (fuel':=0) rfl [] #[y1,y1,y1,y1,y1,y1,y1,y1,y1,y1,y1,y1,y1,y1,y1] [0,1,3,11,48] 1 ⟨[(0,.pc 0 0),(1,tI v1),(3,tI v3),(11,tI (w64 ((w64 ((w64 ((gD v5.f2 v1) + v2)) - (gD v5.f2 v3))) - v4))),(48,tB (gD v5.f1 v1 == gD v5.f1 v3))],[.cells 69 [k1 v5.f0,k2 v5.f1,k2 v5.f2]]⟩ ?_ (zz rfl) trivial ?_
 ·kernel_rfl
 refine AAny.keepTo [0,1,3,11,48] 1 ⟨[(0,.pc 0 0),(1,tI v1),(3,tI v3),(11,tI (w64 ((w64 ((w64 ((gD v5.f2 v1) + v2)) - (gD v5.f2 v3))) - v4))),(48,tB (gD v5.f1 v1 == gD v5.f1 v3))],[.cells 69 [k1 v5.f0,k2 v5.f1,k2 v5.f2]]⟩ _ ?_ rfl (zz rfl) (AAny.done (by kernel_rfl) ?_)
 ·kernel_rfl
 refine AWp.cond rfl (fun hb=>?_) fun hb=>?_
 ·replace h:=of_true h hb
  refine AWp.keepTo [11] 1 ⟨[(11,tI (w64 ((w64 ((w64 ((gD v5.f2 v1) + v2)) - (gD v5.f2 v3))) - v4)))],[.cells 69 [k1 v5.f0,k2 v5.f1,k2 v5.f2]]⟩ ?_ (zz rfl) ?_
  ·kernel_rfl
  refine AWp.seq ?_
  refine AWp.start [0,1,2] [] [] [10] 1 ⟨[(10,tB (w64 ((w64 ((w64 ((gD v5.f2 v1) + v2)) - (gD v5.f2 v3))) - v4) == (0:Int)))],[.cells 69 [k1 v5.f0,k2 v5.f1,k2 v5.f2]]⟩ rfl ?_ (zz rfl) trivial ?_
  ·kernel_rfl
  refine AOps.nil ?_
  refine AWp.ret ?_
  cases h
  exact ⟨.inr rfl,rfl⟩
 ·replace h:=of_false h hb
  refine AWp.keepTo [0,1,3,11] 1 ⟨[(0,.pc 0 0),(1,tI v1),(3,tI v3),(11,tI (w64 ((w64 ((w64 ((gD v5.f2 v1) + v2)) - (gD v5.f2 v3))) - v4)))],[.cells 69 [k1 v5.f0,k2 v5.f1,k2 v5.f2]]⟩ ?_ (zz rfl) ?_
  ·kernel_rfl
  refine AWp.skip ?_
  refine AWp.seq ?_
  refine AWp.draw FFm _ (n:=16) rfl (ls:=#[n1,n1,n1,n1,n1,n1,n1,n1,n1,n1,n1,n1,n1,n1,n1,n1]) rfl ?_ (fun _ h=>h)
  refine AAny.go (by kernel_rfl) [0,1,2,4,7,8,9,11] (fuel':=8) rfl [] #[y1,y1,y1,n1,y1,n1,n1,y1,y1,y1,n1,y1,n1,n1,n1,n1] [0,11,53,55,60,62] 1 ⟨[(0,.pc 0 0),(11,tI (w64 ((w64 ((w64 ((gD v5.f2 v1) + v2)) - (gD v5.f2 v3))) - v4))),(53,.pc 0 1),(55,tI v3),(60,.pc 0 1),(62,tI v1)],[.cells 69 [k1 v5.f0,k2 v5.f1,k2 v5.f2]]⟩ ?_ (zz rfl) trivial ?_
  ·kernel_rfl
  refine AAny.goR (by kernel_rfl) (i:=3) (fuel':=7) [5,6,14,15] rfl (by kernel_rfl) (by kernel_rfl) [] #[y1,y1,y1,y1,y1,n1,n1,y1,y1,y1,n1,y1,n1,n1,n1,n1] rfl [0,11,54,55,60,62] 1 ⟨[(0,.pc 0 0),(11,tI (w64 ((w64 ((w64 ((gD v5.f2 v1) + v2)) - (gD v5.f2 v3))) - v4))),(54,.al (.cell 0 1,[])),(55,tI v3),(60,.pc 0 1),(62,tI v1)],[.cells 69 [k1 v5.f0,k2 v5.f1,k2 v5.f2]]⟩ ?_ (zz rfl) trivial ?_
  ·kernel_rfl
  obtain ⟨hg,h⟩:=of_guard h
  refine AAny.go (by kernel_rfl) [5] (fuel':=6) rfl [(0:Int) ≤ v3,v3 < (v5.f1.length:Int)] #[y1,y1,y1,y1,y1,y1,n1,y1,y1,y1,n1,y1,n1,n1,n1,n1] [0,11,56,60,62] 1 ⟨[(0,.pc 0 0),(11,tI (w64 ((w64 ((w64 ((gD v5.f2 v1) + v2)) - (gD v5.f2 v3))) - v4))),(56,.pe (.cell 0 1,[]) v3.toNat 0 1),(60,.pc 0 1),(62,tI v1)],[.cells 69 [k1 v5.f0,k2 v5.f1,k2 v5.f2]]⟩ ?_ (zz rfl) ⟨hg.1,hg.2⟩ ?_
  ·kernel_rfl
  refine AAny.goR (by kernel_rfl) (i:=6) (fuel':=5) [14,15] rfl (by kernel_rfl) (by kernel_rfl) [] #[y1,y1,y1,y1,y1,y1,y1,y1,y1,y1,n1,y1,n1,n1,n1,n1] rfl [0,11,57,60,62] 1 ⟨[(0,.pc 0 0),(11,tI (w64 ((w64 ((w64 ((gD v5.f2 v1) + v2)) - (gD v5.f2 v3))) - v4))),(57,tI (gD v5.f1 v3)),(60,.pc 0 1),(62,tI v1)],[.cells 69 [k1 v5.f0,k2 v5.f1,k2 v5.f2]]⟩ ?_ (zz rfl) trivial ?_
  ·kernel_rfl
  refine AAny.go (by kernel_rfl) [14] (fuel':=4) rfl [] #[y1,y1,y1,y1,y1,y1,y1,y1,y1,y1,n1,y1,n1,n1,y1,n1] [0,11,12,60,62] 1 ⟨[(0,.pc 0 0),(11,tI (w64 ((w64 ((w64 ((gD v5.f2 v1) + v2)) - (gD v5.f2 v3))) - v4))),(12,tI (gD v5.f1 v3)),(60,.pc 0 1),(62,tI v1)],[.cells 69 [k1 v5.f0,k2 v5.f1,k2 v5.f2]]⟩ ?_ (zz rfl) trivial ?_
  ·kernel_rfl
  refine AAny.step (i:=10) (fuel':=3) rfl (by kernel_rfl) [] #[y1,y1,y1,y1,y1,y1,y1,y1,y1,y1,y1,y1,n1,n1,y1,n1] rfl [0,11,12,61,62] 1 ⟨[(0,.pc 0 0),(11,tI (w64 ((w64 ((w64 ((gD v5.f2 v1) + v2)) - (gD v5.f2 v3))) - v4))),(12,tI (gD v5.f1 v3)),(61,.al (.cell 0 1,[])),(62,tI v1)],[.cells 69 [k1 v5.f0,k2 v5.f1,k2 v5.f2]]⟩ ?_ (zz rfl) trivial ?_
  ·kernel_rfl
  obtain ⟨hg,h⟩:=of_guard h
  refine AAny.go (by kernel_rfl) [12] (fuel':=2) rfl [(0:Int) ≤ v1,v1 < (v5.f1.length:Int)] #[y1,y1,y1,y1,y1,y1,y1,y1,y1,y1,y1,y1,y1,n1,y1,n1] [0,11,12,63] 1 ⟨[(0,.pc 0 0),(11,tI (w64 ((w64 ((w64 ((gD v5.f2 v1) + v2)) - (gD v5.f2 v3))) - v4))),(12,tI (gD v5.f1 v3)),(63,.pe (.cell 0 1,[]) v1.toNat 0 1)],[.cells 69 [k1 v5.f0,k2 v5.f1,k2 v5.f2]]⟩ ?_ (zz rfl) ⟨hg.1,hg.2⟩ ?_
  ·kernel_rfl
  refine AAny.step (i:=13) (fuel':=1) rfl (by kernel_rfl) [] #[y1,y1,y1,y1,y1,y1,y1,y1,y1,y1,y1,y1,y1,y1,y1,n1] rfl [0,11,12,64] 1 ⟨[(0,.pc 0 0),(11,tI (w64 ((w64 ((w64 ((gD v5.f2 v1) + v2)) - (gD v5.f2 v3))) - v4))),(12,tI (gD v5.f1 v3)),(64,tI (gD v5.f1 v1))],[.cells 69 [k1 v5.f0,k2 v5.f1,k2 v5.f2]]⟩ ?_ (zz rfl) trivial ?_
  ·kernel_rfl
  refine AAny.go (by kernel_rfl) [15] (fuel':=0) rfl [] #[y1,y1,y1,y1,y1,y1,y1,y1,y1,y1,y1,y1,y1,y1,y1,y1] [0,11,12,13] 1 ⟨[(0,.pc 0 0),(11,tI (w64 ((w64 ((w64 ((gD v5.f2 v1) + v2)) - (gD v5.f2 v3))) - v4))),(12,tI (gD v5.f1 v3)),(13,tI (gD v5.f1 v1))],[.cells 69 [k1 v5.f0,k2 v5.f1,k2 v5.f2]]⟩ ?_ (zz rfl) trivial ?_
  ·kernel_rfl
  refine AAny.keepTo [0,11,12,13] 1 ⟨[(0,.pc 0 0),(11,tI (w64 ((w64 ((w64 ((gD v5.f2 v1) + v2)) - (gD v5.f2 v3))) - v4))),(12,tI (gD v5.f1 v3)),(13,tI (gD v5.f1 v1))],[.cells 69 [k1 v5.f0,k2 v5.f1,k2 v5.f2]]⟩ _ ?_ rfl (zz rfl) (AAny.done (by kernel_rfl) ?_)
  ·kernel_rfl
  refine AWp.seq ?_
  refine AWp.seq ?_
  refine AWp.start [0,1,2,3,4,5] [] [] [0,11,12,13,69,70] 1 ⟨[(0,.pc 0 0),(11,tI (w64 ((w64 ((w64 ((gD v5.f2 v1) + v2)) - (gD v5.f2 v3))) - v4))),(12,tI (gD v5.f1 v3)),(13,tI (gD v5.f1 v1)),(69,tI (v5.f0.length:Int)),(70,tI (0:Int))],[.cells 69 [k1 v5.f0,k2 v5.f1,k2 v5.f2]]⟩ rfl ?_ (zz rfl) trivial ?_
  ·kernel_rfl
  refine AOps.nil ?_
  refine AWp.block ?_
  obtain ⟨y,hy,h⟩:=of_bind h
  refine AWp.mono (AWp.loop (S:=Int × (List Int) × (List Int)) (Y:=Out (Bool × T68) ((List Int) × (List Int))) (fun s=>⟨[(0,.pc 0 0),(11,tI (w64 ((w64 ((w64 ((gD v5.f2 v1) + v2)) - (gD v5.f2 v3))) - v4))),(12,tI (gD v5.f1 v3)),(13,tI (gD v5.f1 v1)),(69,tI (v5.f0.length:Int)),(70,tI s.1)],[.cells 69 [k1 v5.f0,k2 s.2.1,k2 s.2.2]]⟩) (fun s=>f45o_b2 v1 v2 v3 v4 v5 s.1 s.2.1 s.2.2) (fun y e σ=>match y with | .ret r=>e = .ret ∧ σ = ⟨[(10,tB r.1)],[.cells 69 [k1 r.2.f0,k2 r.2.f1,k2 r.2.f2]]⟩ | .go v=>e = .exit 0 ∧ σ = ⟨[],[.cells 69 [k1 v5.f0,k2 v.1,k2 v.2]]⟩) ?_ hy) ?_
  ·rintro ⟨v6,v7,v8⟩ o h
   refine AWp.seq ?_
   refine AWp.start [0] [] [] [0,11,12,13,69,70,71] 1 ⟨[(0,.pc 0 0),(11,tI (w64 ((w64 ((w64 ((gD v5.f2 v1) + v2)) - (gD v5.f2 v3))) - v4))),(12,tI (gD v5.f1 v3)),(13,tI (gD v5.f1 v1)),(69,tI (v5.f0.length:Int)),(70,tI v6),(71,tB (decide (v6 < (v5.f0.length:Int))))],[.cells 69 [k1 v5.f0,k2 v7,k2 v8]]⟩ rfl ?_ (zz rfl) trivial ?_
   ·kernel_rfl
   refine AOps.nil ?_
   refine AWp.seq ?_
   refine AWp.cond rfl (fun hb=>?_) fun hb=>?_
   ·replace h:=of_true h hb
    refine AWp.keepTo [0,11,12,13,69,70] 1 ⟨[(0,.pc 0 0),(11,tI (w64 ((w64 ((w64 ((gD v5.f2 v1) + v2)) - (gD v5.f2 v3))) - v4))),(12,tI (gD v5.f1 v3)),(13,tI (gD v5.f1 v1)),(69,tI (v5.f0.length:Int)),(70,tI v6)],[.cells 69 [k1 v5.f0,k2 v7,k2 v8]]⟩ ?_ (zz rfl) ?_
    ·kernel_rfl
    refine AWp.skip ?_
    refine AWp.join (V:=(List Int) × (List Int)) (fun w=>⟨[(0,.pc 0 0),(11,tI (w64 ((w64 ((w64 ((gD v5.f2 v1) + v2)) - (gD v5.f2 v3))) - v4))),(12,tI (gD v5.f1 v3)),(13,tI (gD v5.f1 v1)),(69,tI (v5.f0.length:Int)),(70,tI v6)],[.cells 69 [k1 v5.f0,k2 w.1,k2 w.2]]⟩) (fun w=>f45o_j1 v6 w.1 w.2 = some o) ?_ ?_
    ·refine AWp.block ?_
     refine AWp.seq ?_
     refine AWp.start [0,1] [] [] [0,11,12,13,14,69,70] 1 ⟨[(0,.pc 0 0),(11,tI (w64 ((w64 ((w64 ((gD v5.f2 v1) + v2)) - (gD v5.f2 v3))) - v4))),(12,tI (gD v5.f1 v3)),(13,tI (gD v5.f1 v1)),(14,tI v6),(69,tI (v5.f0.length:Int)),(70,tI v6)],[.cells 69 [k1 v5.f0,k2 v7,k2 v8]]⟩ rfl ?_ (zz rfl) trivial ?_
     ·kernel_rfl
     refine AOps.nil ?_
     refine AWp.seq ?_
     obtain ⟨hg,h⟩:=of_guard h
     refine AWp.start [0,1,2,3,4,5,6,7,8] [] [(0:Int) ≤ v6,v6 < (v7.length:Int)] [0,11,12,13,14,69,70,81] 1 ⟨[(0,.pc 0 0),(11,tI (w64 ((w64 ((w64 ((gD v5.f2 v1) + v2)) - (gD v5.f2 v3))) - v4))),(12,tI (gD v5.f1 v3)),(13,tI (gD v5.f1 v1)),(14,tI v6),(69,tI (v5.f0.length:Int)),(70,tI v6),(81,tB (gD v7 v6 == gD v5.f1 v3))],[.cells 69 [k1 v5.f0,k2 v7,k2 v8]]⟩ rfl ?_ (zz rfl) ⟨hg.1,hg.2⟩ ?_
     ·kernel_rfl
     refine AOps.nil ?_
     refine AWp.cond rfl (fun hb=>?_) fun hb=>?_
     ·replace h:=of_true h hb
      refine AWp.keepTo [0,11,12,13,14,69,70] 1 ⟨[(0,.pc 0 0),(11,tI (w64 ((w64 ((w64 ((gD v5.f2 v1) + v2)) - (gD v5.f2 v3))) - v4))),(12,tI (gD v5.f1 v3)),(13,tI (gD v5.f1 v1)),(14,tI v6),(69,tI (v5.f0.length:Int)),(70,tI v6)],[.cells 69 [k1 v5.f0,k2 v7,k2 v8]]⟩ ?_ (zz rfl) ?_
      ·kernel_rfl
      refine AWp.seq ?_
      obtain ⟨hg,h⟩:=of_guard h
      refine AWp.start [0,1,2,3,4,5,6,7] [] [(0:Int) ≤ v6,v6 < (v7.length:Int),PlainTo v7.length (fun i=>(cInt .i64) (v7.getD i default))] [0,11,12,13,14,69,70] 1 ⟨[(0,.pc 0 0),(11,tI (w64 ((w64 ((w64 ((gD v5.f2 v1) + v2)) - (gD v5.f2 v3))) - v4))),(12,tI (gD v5.f1 v3)),(13,tI (gD v5.f1 v1)),(14,tI v6),(69,tI (v5.f0.length:Int)),(70,tI v6)],[.cells 69 [k1 v5.f0,.own 1 3 v7.length (setElem (fun i=>(cInt .i64) (v7.getD i default)) v6.toNat (putAt ((cInt .i64) (gD v7 v6)) 0 [.int .i64 (gD v5.f1 v1)])),k2 v8]]⟩ rfl ?_ (zz rfl) ⟨hg.1,hg.2,(fun _ _=>rfl)⟩ ?_
      ·kernel_rfl
      refine AOps.retell 0 1 (y':=k2 (v7.set v6.toNat (gD v5.f1 v1))) rfl (.own (by simp) (set_at (cInt .i64) v7 v6.toNat 0 [.int .i64 (gD v5.f1 v1)] (gD v5.f1 v1) rfl)) ?_
      refine AOps.nil ?_
      obtain ⟨hg,h⟩:=of_guard h
      refine AWp.start [0,1,2,3,4,5,6,7,8,9,10] [] [(0:Int) ≤ v6,v6 < (v8.length:Int),(0:Int) ≤ v6,v6 < (v8.length:Int),PlainTo v8.length (fun i=>(cInt .i64) (v8.getD i default))] [0,11,12,13,69,70] 1 ⟨[(0,.pc 0 0),(11,tI (w64 ((w64 ((w64 ((gD v5.f2 v1) + v2)) - (gD v5.f2 v3))) - v4))),(12,tI (gD v5.f1 v3)),(13,tI (gD v5.f1 v1)),(69,tI (v5.f0.length:Int)),(70,tI v6)],[.cells 69 [k1 v5.f0,k2 (v7.set v6.toNat (gD v5.f1 v1)),.own 1 3 v8.length (setElem (fun i=>(cInt .i64) (v8.getD i default)) v6.toNat (putAt ((cInt .i64) (gD v8 v6)) 0 [.int .i64 (w64 ((gD v8 v6) + (w64 ((w64 ((w64 ((gD v5.f2 v1) + v2)) - (gD v5.f2 v3))) - v4))))]))]]⟩ rfl ?_ (zz rfl) ⟨hg.1,hg.2.1,hg.2.2.1,hg.2.2.2,(fun _ _=>rfl)⟩ ?_
      ·kernel_rfl
      refine AOps.retell 0 2 (y':=k2 (v8.set v6.toNat (w64 ((gD v8 v6) + (w64 ((w64 ((w64 ((gD v5.f2 v1) + v2)) - (gD v5.f2 v3))) - v4)))))) rfl (.own (by simp) (set_at (cInt .i64) v8 v6.toNat 0 [.int .i64 (w64 ((gD v8 v6) + (w64 ((w64 ((w64 ((gD v5.f2 v1) + v2)) - (gD v5.f2 v3))) - v4))))] (w64 ((gD v8 v6) + (w64 ((w64 ((w64 ((gD v5.f2 v1) + v2)) - (gD v5.f2 v3))) - v4)))) rfl)) ?_
      refine AOps.keepTo [0,11,12,13,69,70] 1 ⟨[(0,.pc 0 0),(11,tI (w64 ((w64 ((w64 ((gD v5.f2 v1) + v2)) - (gD v5.f2 v3))) - v4))),(12,tI (gD v5.f1 v3)),(13,tI (gD v5.f1 v1)),(69,tI (v5.f0.length:Int)),(70,tI v6)],[.cells 69 [k1 v5.f0,k2 (v7.set v6.toNat (gD v5.f1 v1)),k2 (v8.set v6.toNat (w64 ((gD v8 v6) + (w64 ((w64 ((w64 ((gD v5.f2 v1) + v2)) - (gD v5.f2 v3))) - v4)))))]]⟩ ?_ (zz rfl) ?_
      ·kernel_rfl
      refine AOps.nil ?_
      exact ⟨(v7.set v6.toNat (gD v5.f1 v1),v8.set v6.toNat (w64 ((gD v8 v6) + (w64 ((w64 ((w64 ((gD v5.f2 v1) + v2)) - (gD v5.f2 v3))) - v4))))),h,rfl⟩
     ·replace h:=of_false h hb
      refine AWp.keepTo [0,11,12,13,69,70] 1 ⟨[(0,.pc 0 0),(11,tI (w64 ((w64 ((w64 ((gD v5.f2 v1) + v2)) - (gD v5.f2 v3))) - v4))),(12,tI (gD v5.f1 v3)),(13,tI (gD v5.f1 v1)),(69,tI (v5.f0.length:Int)),(70,tI v6)],[.cells 69 [k1 v5.f0,k2 v7,k2 v8]]⟩ ?_ (zz rfl) ?_
      ·kernel_rfl
      refine AWp.skip ?_
      exact ⟨(v7,v8),h,rfl⟩
    ·rintro ⟨v11,v12⟩ h
     refine AWp.start [0,1] [] [] [0,11,12,13,69,70] 1 ⟨[(0,.pc 0 0),(11,tI (w64 ((w64 ((w64 ((gD v5.f2 v1) + v2)) - (gD v5.f2 v3))) - v4))),(12,tI (gD v5.f1 v3)),(13,tI (gD v5.f1 v1)),(69,tI (v5.f0.length:Int)),(70,tI (w64 (v6 + (1:Int))))],[.cells 69 [k1 v5.f0,k2 v11,k2 v12]]⟩ rfl ?_ (zz rfl) trivial ?_
     ·kernel_rfl
     refine AOps.nil ?_
     cases h
     exact Or.inl ⟨_,rfl,rfl,rfl⟩
   ·replace h:=of_false h hb
    refine AWp.keepTo [] 1 ⟨[],[.cells 69 [k1 v5.f0,k2 v7,k2 v8]]⟩ ?_ (zz rfl) ?_
    ·kernel_rfl
    refine AWp.exit ?_
    cases h
    exact Or.inr ⟨_,rfl,by simp,rfl,rfl⟩
  ·intro e σ hp
   rcases y with v13 | ⟨v9,v10⟩
   ·obtain ⟨rfl,rfl⟩:=hp
    cases h
    exact ⟨.inr rfl,rfl⟩
   ·obtain ⟨rfl,rfl⟩:=hp
    refine AWp.seq ?_
    refine AWp.start [0] [] [] [10] 1 ⟨[(10,tB true)],[.cells 69 [k1 v5.f0,k2 v9,k2 v10]]⟩ rfl ?_ (zz rfl) trivial ?_
    ·kernel_rfl
    refine AOps.nil ?_
    refine AWp.ret ?_
    cases h
    exact ⟨.inr rfl,rfl⟩

end Go.Sx.top
