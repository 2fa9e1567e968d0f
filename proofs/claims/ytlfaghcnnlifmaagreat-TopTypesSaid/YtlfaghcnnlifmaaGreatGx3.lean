/- Printed by program (wip/gen): plain functions and their walks; no condition. -/
import Derived.Test.YtlfaghcnnlifmaaGreatGx2
namespace Go.Sx.top
open Go Go.Sx Go.Proofs

noncomputable def f109_110_b1 (v1:List UInt8) (v2:Int):Option (Int ⊕ Out Int Int) :=
 (cond (decide (v2 < (v1.length:Int))) (if (0:Int) ≤ v2 ∧ v2 < (v1.length:Int) then (f110 (((v1.getD v2.toNat 0).toNat:Nat):Int)).bind fun v5=>some v5 else none) (some false)).bind fun v4=>cond v4 (some (.inl (w64 (v2 + (1:Int))))) (some (.inr (.go v2)))

noncomputable def f109_110 (v1:List UInt8):Option Int :=
 (iter (fun s=>f109_110_b1 v1 s) (0:Int)).bind fun y=>match y with | .ret v6=>some v6 | .go v3=>some v3

theorem f109_110_ok (v1:List UInt8) {r:Int} (h:f109_110 v1 = some r):ACall Tryz.prog 109 [.tv (.str v1),.fn 110 []] [] (.tv (.int .i64 r)) []:=by
 refine ACall.of1 (FF 20 0) Tryz.func109 rfl Tryz.ntmps109 Tryz.results109 (zz rfl) rfl rfl ?_
 refine AWp.seq ?_
 refine AWp.start [0] [] [] [0,1] 0 ⟨[(0,tS v1),(1,.fn 110 [])],[]⟩ rfl ?_ z0 trivial ?_
 ·kernel_rfl
 refine AOps.nil ?_
 refine AWp.seq ?_
 refine AWp.start [0] [] [] [0,1,5] 0 ⟨[(0,tS v1),(1,.fn 110 []),(5,tI (0:Int))],[]⟩ rfl ?_ z0 trivial ?_
 ·kernel_rfl
 refine AOps.nil ?_
 refine AWp.seq ?_
 refine AWp.block ?_
 obtain ⟨y,hy,h⟩:=of_bind h
 refine AWp.mono (AWp.loop (S:=Int) (Y:=Out Int Int) (fun s=>⟨[(0,tS v1),(1,.fn 110 []),(5,tI s)],[]⟩) (fun s=>f109_110_b1 v1 s) (fun y e σ=>match y with | .ret r=>e = .ret ∧ σ = ⟨[(4,tI r)],[]⟩ | .go v=>e = .exit 0 ∧ σ = ⟨[(5,tI v)],[]⟩) ?_ hy) ?_
 ·rintro v2 o h
  refine AWp.seq ?_
  refine AWp.seq ?_
  refine AWp.start [0,1,2,3,4] [5,6,7,8,9,10] [] [0,1,5,10] 0 ⟨[(0,tS v1),(1,.fn 110 []),(5,tI v2),(10,tB (decide (v2 < (v1.length:Int))))],[]⟩ rfl ?_ z0 trivial ?_
  ·kernel_rfl
  obtain ⟨v4,hc5,h⟩:=of_bind h
  refine AOps.cut [5,6,7,8,9,10] [] (fun σ=>σ = ⟨[(0,tS v1),(1,.fn 110 []),(5,tI v2),(16,tB v4)],[]⟩) ?_ fun σ' hJ=>?_
  ·refine AOps.split (fun b=>⟨[(0,tS v1),(1,.fn 110 []),(5,tI v2),(10,tB b)],[]⟩) _ (fun hb=>?_) fun hb=>?_
   ·replace hc5:=of_true hc5 hb
    obtain ⟨hg,hc5⟩:=of_guard hc5
    refine AOps.go [5,6,7,8] [9,10] [(0:Int) ≤ v2,v2 < (v1.length:Int)] [0,1,5,10,11,14] 0 ⟨[(0,tS v1),(1,.fn 110 []),(5,tI v2),(10,tB true),(11,.fn 110 []),(14,.tv (.int .u8 (((v1.getD v2.toNat 0).toNat:Nat):Int)))],[]⟩ ?_ z0 ⟨hg.1,hg.2⟩ ?_
    ·kernel_rfl
    obtain ⟨v5,hv5,hc5⟩:=of_bind hc5
    refine AOps.cons (AOne.callP (F:=(FF 20 0)) _ rfl rfl rfl _ rfl rfl _ _ rfl Tryz.call110 [.tv (.int .u8 (((v1.getD v2.toNat 0).toNat:Nat):Int))] rfl rfl (f110_ok (((v1.getD v2.toNat 0).toNat:Nat):Int) hv5) rfl) ?_
    refine AOps.go [10] [] [] [0,1,5,16] 0 ⟨[(0,tS v1),(1,.fn 110 []),(5,tI v2),(16,tB v5)],[]⟩ ?_ z0 trivial ?_
    ·kernel_rfl
    cases hc5
    exact AOps.nil rfl
   ·replace hc5:=of_false hc5 hb
    refine AOps.go [5,6,7,8,9,10] [] [] [0,1,5,16] 0 ⟨[(0,tS v1),(1,.fn 110 []),(5,tI v2),(16,tB false)],[]⟩ ?_ z0 trivial ?_
    ·kernel_rfl
    cases hc5
    exact AOps.nil rfl
  subst hJ
  refine AOps.nil ?_
  refine AWp.cond rfl (fun hb=>?_) fun hb=>?_
  ·replace h:=of_true h hb
   refine AWp.keepTo [0,1,5] 0 ⟨[(0,tS v1),(1,.fn 110 []),(5,tI v2)],[]⟩ ?_ z0 ?_
   ·kernel_rfl
   refine AWp.skip ?_
   refine AWp.block ?_
   refine AWp.start [0,1,2] [] [] [0,1,5] 0 ⟨[(0,tS v1),(1,.fn 110 []),(5,tI (w64 (v2 + (1:Int))))],[]⟩ rfl ?_ z0 trivial ?_
   ·kernel_rfl
   refine AOps.nil ?_
   cases h
   exact Or.inl ⟨_,rfl,rfl,rfl⟩
  ·replace h:=of_false h hb
   refine AWp.keepTo [5] 0 ⟨[(5,tI v2)],[]⟩ ?_ z0 ?_
   ·kernel_rfl
   refine AWp.exit ?_
   cases h
   exact Or.inr ⟨_,rfl,by simp,rfl,rfl⟩
 ·intro e σ hp
  rcases y with v6 | v3
  ·obtain ⟨rfl,rfl⟩:=hp
   cases h
   exact ⟨.inr rfl,rfl⟩
  ·obtain ⟨rfl,rfl⟩:=hp
   refine AWp.seq ?_
   refine AWp.start [0,1] [] [] [4] 0 ⟨[(4,tI v3)],[]⟩ rfl ?_ z0 trivial ?_
   ·kernel_rfl
   refine AOps.nil ?_
   refine AWp.ret ?_
   cases h
   exact ⟨.inr rfl,rfl⟩

noncomputable def f111_j1 (v3:Int) (v5:List Int):Option (((List Int) × Int) ⊕ Out (List UInt8) (List Int)) :=
 some (.inl (v5,w64 (v3 + (1:Int))))

noncomputable def f111_b2 (v1:List UInt8) (v2:List Int) (v3:Int):Option (((List Int) × Int) ⊕ Out (List UInt8) (List Int)) :=
 cond (decide (v3 < ((v1.map (fun b=>(b.toNat:Int))).length:Int))) (if (0:Int) ≤ v3 ∧ v3 < (v2.length:Int) then (cond (decide (v2.getD v3.toNat default ≥ (65:Int))) (some (decide (v2.getD v3.toNat default ≤ (90:Int)))) (some false)).bind fun v6=>cond v6 (if (0:Int) ≤ v3 ∧ v3 < (v2.length:Int) then f111_j1 v3 (v2.set v3.toNat (IntKind.wrap .u8 ((IntKind.wrap .u8 ((v2.getD v3.toNat default) - (65:Int))) + (97:Int)))) else none) (f111_j1 v3 v2) else none) (some (.inr (.go v2)))

noncomputable def f111 (v1:List UInt8):Option (List UInt8) :=
 if (v1.length:Int) ≤ 9223372036854775807 then (iter (fun s=>f111_b2 v1 s.1 s.2) (v1.map (fun b=>(b.toNat:Int)),(0:Int))).bind fun y=>match y with | .ret v7=>some v7 | .go v4=>some (v4.map (fun n=>UInt8.ofNat n.toNat)) else none

theorem f111_ok (v1:List UInt8) {r:(List UInt8)} (h:f111 v1 = some r):ACall Tryz.prog 111 [.tv (.str v1)] [] (.tv (.str r)) []:=by
 refine ACall.of1 (FF 30 0) Tryz.func111 rfl Tryz.ntmps111 Tryz.results111 (zz rfl) rfl rfl ?_
 refine AWp.seq ?_
 refine AWp.start [0] [] [] [0] 0 ⟨[(0,tS v1)],[]⟩ rfl ?_ z0 trivial ?_
 ·kernel_rfl
 refine AOps.nil ?_
 refine AWp.seq ?_
 obtain ⟨hg,h⟩:=of_guard h
 refine AWp.start [0,1] [2] [(v1.length:Int) ≤ 9223372036854775807] [7] 0 ⟨[(7,.tv (.own 1 5 v1.length (fun i=>[.int .u8 (((v1.getD i 0).toNat:Nat):Int)])))],[]⟩ rfl ?_ z0 hg ?_
 ·kernel_rfl
 refine AOps.extL 7 (cInt .u8) (v1.map (fun b=>(b.toNat:Int))) rfl (by simp) (bytes_at _) ?_
 refine AOps.go [2] [] [] [3] 0 ⟨[(3,.tv (ownL 1 5 (cInt .u8) (v1.map (fun b=>(b.toNat:Int)))))],[]⟩ ?_ z0 trivial ?_
 ·kernel_rfl
 refine AOps.nil ?_
 refine AWp.seq ?_
 refine AWp.seq ?_
 refine AWp.start [0,1,2] [] [] [3,8,9,10] 0 ⟨[(3,.tv (ownL 1 5 (cInt .u8) (v1.map (fun b=>(b.toNat:Int))))),(8,.al (.slot 3 0,[])),(9,tI ((v1.map (fun b=>(b.toNat:Int))).length:Int)),(10,tI (0:Int))],[]⟩ rfl ?_ z0 trivial ?_
 ·kernel_rfl
 refine AOps.nil ?_
 refine AWp.block ?_
 obtain ⟨y,hy,h⟩:=of_bind h
 refine AWp.mono (AWp.loop (S:=(List Int) × Int) (Y:=Out (List UInt8) (List Int)) (fun s=>⟨[(3,.tv (ownL 1 5 (cInt .u8) s.1)),(8,.al (.slot 3 0,[])),(9,tI ((v1.map (fun b=>(b.toNat:Int))).length:Int)),(10,tI s.2)],[]⟩) (fun s=>f111_b2 v1 s.1 s.2) (fun y e σ=>match y with | .ret r=>e = .ret ∧ σ = ⟨[(2,tS r)],[]⟩ | .go v=>e = .exit 0 ∧ σ = ⟨[(3,.tv (ownL 1 5 (cInt .u8) v))],[]⟩) ?_ hy) ?_
 ·rintro ⟨v2,v3⟩ o h
  refine AWp.seq ?_
  refine AWp.start [0] [] [] [3,8,9,10,11] 0 ⟨[(3,.tv (ownL 1 5 (cInt .u8) v2)),(8,.al (.slot 3 0,[])),(9,tI ((v1.map (fun b=>(b.toNat:Int))).length:Int)),(10,tI v3),(11,tB (decide (v3 < ((v1.map (fun b=>(b.toNat:Int))).length:Int))))],[]⟩ rfl ?_ z0 trivial ?_
  ·kernel_rfl
  refine AOps.nil ?_
  refine AWp.seq ?_
  refine AWp.cond rfl (fun hb=>?_) fun hb=>?_
  ·replace h:=of_true h hb
   refine AWp.keepTo [3,8,9,10] 0 ⟨[(3,.tv (ownL 1 5 (cInt .u8) v2)),(8,.al (.slot 3 0,[])),(9,tI ((v1.map (fun b=>(b.toNat:Int))).length:Int)),(10,tI v3)],[]⟩ ?_ z0 ?_
   ·kernel_rfl
   refine AWp.skip ?_
   refine AWp.join (V:=(List Int)) (fun w=>⟨[(3,.tv (ownL 1 5 (cInt .u8) w)),(8,.al (.slot 3 0,[])),(9,tI ((v1.map (fun b=>(b.toNat:Int))).length:Int)),(10,tI v3)],[]⟩) (fun w=>f111_j1 v3 w = some o) ?_ ?_
   ·refine AWp.block ?_
    refine AWp.seq ?_
    obtain ⟨hg,h⟩:=of_guard h
    refine AWp.start [0,1,2,3,4] [] [(0:Int) ≤ v3,v3 < (v2.length:Int)] [3,4,5,8,9,10] 0 ⟨[(3,.tv (ownL 1 5 (cInt .u8) v2)),(4,tI v3),(5,.tv (.int .u8 (gD v2 v3))),(8,.al (.slot 3 0,[])),(9,tI ((v1.map (fun b=>(b.toNat:Int))).length:Int)),(10,tI v3)],[]⟩ rfl ?_ z0 ⟨hg.1,hg.2⟩ ?_
    ·kernel_rfl
    refine AOps.nil ?_
    refine AWp.seq ?_
    refine AWp.start [0,1,2] [3,4,5] [] [3,4,5,8,9,10,17] 0 ⟨[(3,.tv (ownL 1 5 (cInt .u8) v2)),(4,tI v3),(5,.tv (.int .u8 (gD v2 v3))),(8,.al (.slot 3 0,[])),(9,tI ((v1.map (fun b=>(b.toNat:Int))).length:Int)),(10,tI v3),(17,tB (decide (gD v2 v3 ≥ (65:Int))))],[]⟩ rfl ?_ z0 trivial ?_
    ·kernel_rfl
    obtain ⟨v6,hc3,h⟩:=of_bind h
    refine AOps.cut [3,4,5] [] (fun σ=>σ = ⟨[(3,.tv (ownL 1 5 (cInt .u8) v2)),(4,tI v3),(5,.tv (.int .u8 (gD v2 v3))),(8,.al (.slot 3 0,[])),(9,tI ((v1.map (fun b=>(b.toNat:Int))).length:Int)),(10,tI v3),(20,tB v6)],[]⟩) ?_ fun σ' hJ=>?_
    ·refine AOps.split (fun b=>⟨[(3,.tv (ownL 1 5 (cInt .u8) v2)),(4,tI v3),(5,.tv (.int .u8 (gD v2 v3))),(8,.al (.slot 3 0,[])),(9,tI ((v1.map (fun b=>(b.toNat:Int))).length:Int)),(10,tI v3),(17,tB b)],[]⟩) _ (fun hb=>?_) fun hb=>?_
     ·replace hc3:=of_true hc3 hb
      refine AOps.go [3,4,5] [] [] [3,4,5,8,9,10,20] 0 ⟨[(3,.tv (ownL 1 5 (cInt .u8) v2)),(4,tI v3),(5,.tv (.int .u8 (gD v2 v3))),(8,.al (.slot 3 0,[])),(9,tI ((v1.map (fun b=>(b.toNat:Int))).length:Int)),(10,tI v3),(20,tB (decide (gD v2 v3 ≤ (90:Int))))],[]⟩ ?_ z0 trivial ?_
      ·kernel_rfl
      cases hc3
      exact AOps.nil rfl
     ·replace hc3:=of_false hc3 hb
      refine AOps.go [3,4,5] [] [] [3,4,5,8,9,10,20] 0 ⟨[(3,.tv (ownL 1 5 (cInt .u8) v2)),(4,tI v3),(5,.tv (.int .u8 (gD v2 v3))),(8,.al (.slot 3 0,[])),(9,tI ((v1.map (fun b=>(b.toNat:Int))).length:Int)),(10,tI v3),(20,tB false)],[]⟩ ?_ z0 trivial ?_
      ·kernel_rfl
      cases hc3
      exact AOps.nil rfl
    subst hJ
    refine AOps.nil ?_
    refine AWp.cond rfl (fun hb=>?_) fun hb=>?_
    ·replace h:=of_true h hb
     refine AWp.keepTo [3,4,5,8,9,10] 0 ⟨[(3,.tv (ownL 1 5 (cInt .u8) v2)),(4,tI v3),(5,.tv (.int .u8 (gD v2 v3))),(8,.al (.slot 3 0,[])),(9,tI ((v1.map (fun b=>(b.toNat:Int))).length:Int)),(10,tI v3)],[]⟩ ?_ z0 ?_
     ·kernel_rfl
     obtain ⟨hg,h⟩:=of_guard h
     refine AWp.start [0,1,2,3,4,5,6] [] [(0:Int) ≤ v3,v3 < (v2.length:Int),PlainTo v2.length (fun i=>(cInt .u8) (v2.getD i default))] [3,8,9,10] 0 ⟨[(3,.tv (.own 1 5 v2.length (setElem (fun i=>(cInt .u8) (v2.getD i default)) v3.toNat (putAt ((cInt .u8) (gD v2 v3)) 0 [.int .u8 (IntKind.wrap .u8 ((IntKind.wrap .u8 ((gD v2 v3) - (65:Int))) + (97:Int)))])))),(8,.al (.slot 3 0,[])),(9,tI ((v1.map (fun b=>(b.toNat:Int))).length:Int)),(10,tI v3)],[]⟩ rfl ?_ z0 ⟨hg.1,hg.2,(fun _ _=>rfl)⟩ ?_
     ·kernel_rfl
     refine AOps.extL 3 (cInt .u8) (v2.set v3.toNat (IntKind.wrap .u8 ((IntKind.wrap .u8 ((gD v2 v3) - (65:Int))) + (97:Int)))) rfl (by simp) (set_at (cInt .u8) v2 v3.toNat 0 [.int .u8 (IntKind.wrap .u8 ((IntKind.wrap .u8 ((gD v2 v3) - (65:Int))) + (97:Int)))] (IntKind.wrap .u8 ((IntKind.wrap .u8 ((gD v2 v3) - (65:Int))) + (97:Int))) rfl) ?_
     refine AOps.keepTo [3,8,9,10] 0 ⟨[(3,.tv (ownL 1 5 (cInt .u8) (v2.set v3.toNat (IntKind.wrap .u8 ((IntKind.wrap .u8 ((gD v2 v3) - (65:Int))) + (97:Int)))))),(8,.al (.slot 3 0,[])),(9,tI ((v1.map (fun b=>(b.toNat:Int))).length:Int)),(10,tI v3)],[]⟩ ?_ z0 ?_
     ·kernel_rfl
     refine AOps.nil ?_
     exact ⟨v2.set v3.toNat (IntKind.wrap .u8 ((IntKind.wrap .u8 ((gD v2 v3) - (65:Int))) + (97:Int))),h,rfl⟩
    ·replace h:=of_false h hb
     refine AWp.keepTo [3,8,9,10] 0 ⟨[(3,.tv (ownL 1 5 (cInt .u8) v2)),(8,.al (.slot 3 0,[])),(9,tI ((v1.map (fun b=>(b.toNat:Int))).length:Int)),(10,tI v3)],[]⟩ ?_ z0 ?_
     ·kernel_rfl
     refine AWp.skip ?_
     exact ⟨v2,h,rfl⟩
   ·rintro v5 h
    refine AWp.start [0,1] [] [] [3,8,9,10] 0 ⟨[(3,.tv (ownL 1 5 (cInt .u8) v5)),(8,.al (.slot 3 0,[])),(9,tI ((v1.map (fun b=>(b.toNat:Int))).length:Int)),(10,tI (w64 (v3 + (1:Int))))],[]⟩ rfl ?_ z0 trivial ?_
    ·kernel_rfl
    refine AOps.nil ?_
    cases h
    exact Or.inl ⟨_,rfl,rfl,rfl⟩
  ·replace h:=of_false h hb
   refine AWp.keepTo [3] 0 ⟨[(3,.tv (ownL 1 5 (cInt .u8) v2))],[]⟩ ?_ z0 ?_
   ·kernel_rfl
   refine AWp.exit ?_
   cases h
   exact Or.inr ⟨_,rfl,by simp,rfl,rfl⟩
 ·intro e σ hp
  rcases y with v7 | v4
  ·obtain ⟨rfl,rfl⟩:=hp
   cases h
   exact ⟨.inr rfl,rfl⟩
  ·obtain ⟨rfl,rfl⟩:=hp
   refine AWp.seq ?_
   refine AWp.start [0] [1,2] [] [3,28] 0 ⟨[(3,.tv (ownL 1 5 (cInt .u8) v4)),(28,.al (.slot 3 0,[]))],[]⟩ rfl ?_ z0 trivial ?_
   ·kernel_rfl
   refine AOps.cons (AOne.str (F:=(FF 30 0)) _ rfl rfl rfl _ rfl rfl rfl rfl rfl (n:=v4.length) (f:=(fun i=>(cInt .u8) (v4.getD i default))) rfl v4 rfl (fun _ _=>rfl)) ?_
   refine AOps.go [2] [] [] [2] 0 ⟨[(2,tS (v4.map (fun n=>UInt8.ofNat n.toNat)))],[]⟩ ?_ z0 trivial ?_
   ·kernel_rfl
   refine AOps.nil ?_
   refine AWp.ret ?_
   cases h
   exact ⟨.inr rfl,rfl⟩

noncomputable def f86 (v1:List UInt8):Option Bool :=
 (cond (!(v1 == ([]:List UInt8))) (some (decide ((v1.length:Int) ≤ (12:Int)))) (some false)).bind fun v2=>(cond v2 (if (0:Int) < (v1.length:Int) then (f108 (((v1.getD 0 0).toNat:Nat):Int)).bind fun v4=>some v4 else none) (some false)).bind fun v3=>(cond v3 ((f109_110 v1).bind fun v6=>some (v6 == (v1.length:Int))) (some false)).bind fun v5=>(cond v5 ((f111 v1).bind fun v8=>some (v1 == v8)) (some false)).bind fun v7=>some v7

theorem f86_ok (v1:List UInt8) {r:Bool} (h:f86 v1 = some r):ACall Tryz.prog 86 [.tv (.str v1)] [] (.tv (.bool r)) []:=by
 refine ACall.of1 (FF 28 0) Tryz.func86 rfl Tryz.ntmps86 Tryz.results86 (zz rfl) rfl rfl ?_
 refine AWp.seq ?_
 refine AWp.start [0] [] [] [0] 0 ⟨[(0,tS v1)],[]⟩ rfl ?_ z0 trivial ?_
 ·kernel_rfl
 refine AOps.nil ?_
 refine AWp.seq ?_
 refine AWp.start [0,1,2] [3,4,5,6,7,8,9,10,11,12,13,14,15,16,17,18,19,20,21,22,23,24,25] [] [0,5] 0 ⟨[(0,tS v1),(5,tB (!(v1 == ([]:List UInt8))))],[]⟩ rfl ?_ z0 trivial ?_
 ·kernel_rfl
 obtain ⟨v2,hc3,h⟩:=of_bind h
 refine AOps.cut [3,4,5,6] [7,8,9,10,11,12,13,14,15,16,17,18,19,20,21,22,23,24,25] (fun σ=>σ = ⟨[(0,tS v1),(9,tB v2)],[]⟩) ?_ fun σ' hJ=>?_
 ·refine AOps.split (fun b=>⟨[(0,tS v1),(5,tB b)],[]⟩) _ (fun hb=>?_) fun hb=>?_
  ·replace hc3:=of_true hc3 hb
   refine AOps.go [3,4,5,6] [] [] [0,9] 0 ⟨[(0,tS v1),(9,tB (decide ((v1.length:Int) ≤ (12:Int))))],[]⟩ ?_ z0 trivial ?_
   ·kernel_rfl
   cases hc3
   exact AOps.nil rfl
  ·replace hc3:=of_false hc3 hb
   refine AOps.go [3,4,5,6] [] [] [0,9] 0 ⟨[(0,tS v1),(9,tB false)],[]⟩ ?_ z0 trivial ?_
   ·kernel_rfl
   cases hc3
   exact AOps.nil rfl
 subst hJ
 refine AOps.go [7] [8,9,10,11,12,13,14,15,16,17,18,19,20,21,22,23,24,25] [] [0,10] 0 ⟨[(0,tS v1),(10,tB v2)],[]⟩ ?_ z0 trivial ?_
 ·kernel_rfl
 obtain ⟨v3,hc8,h⟩:=of_bind h
 refine AOps.cut [8,9,10,11] [12,13,14,15,16,17,18,19,20,21,22,23,24,25] (fun σ=>σ = ⟨[(0,tS v1),(14,tB v3)],[]⟩) ?_ fun σ' hJ=>?_
 ·refine AOps.split (fun b=>⟨[(0,tS v1),(10,tB b)],[]⟩) _ (fun hb=>?_) fun hb=>?_
  ·replace hc8:=of_true hc8 hb
   obtain ⟨hg,hc8⟩:=of_guard hc8
   refine AOps.go [8,9] [10,11] [(0:Int) ≤ (0:Int),(0:Int) < (v1.length:Int)] [0,10,12] 0 ⟨[(0,tS v1),(10,tB true),(12,.tv (.int .u8 (((v1.getD 0 0).toNat:Nat):Int)))],[]⟩ ?_ z0 ⟨(by decide:(0:Int) ≤ (0:Int)),hg⟩ ?_
   ·kernel_rfl
   obtain ⟨v4,hv4,hc8⟩:=of_bind hc8
   refine AOps.cons (AOne.callP (F:=(FF 28 0)) _ rfl rfl rfl _ rfl rfl _ _ rfl Tryz.call108 [.tv (.int .u8 (((v1.getD 0 0).toNat:Nat):Int))] rfl rfl (f108_ok (((v1.getD 0 0).toNat:Nat):Int) hv4) rfl) ?_
   refine AOps.go [11] [] [] [0,14] 0 ⟨[(0,tS v1),(14,tB v4)],[]⟩ ?_ z0 trivial ?_
   ·kernel_rfl
   cases hc8
   exact AOps.nil rfl
  ·replace hc8:=of_false hc8 hb
   refine AOps.go [8,9,10,11] [] [] [0,14] 0 ⟨[(0,tS v1),(14,tB false)],[]⟩ ?_ z0 trivial ?_
   ·kernel_rfl
   cases hc8
   exact AOps.nil rfl
 subst hJ
 refine AOps.go [12] [13,14,15,16,17,18,19,20,21,22,23,24,25] [] [0,15] 0 ⟨[(0,tS v1),(15,tB v3)],[]⟩ ?_ z0 trivial ?_
 ·kernel_rfl
 obtain ⟨v5,hc13,h⟩:=of_bind h
 refine AOps.cut [13,14,15,16,17,18] [19,20,21,22,23,24,25] (fun σ=>σ = ⟨[(0,tS v1),(21,tB v5)],[]⟩) ?_ fun σ' hJ=>?_
 ·refine AOps.split (fun b=>⟨[(0,tS v1),(15,tB b)],[]⟩) _ (fun hb=>?_) fun hb=>?_
  ·replace hc13:=of_true hc13 hb
   refine AOps.go [13] [14,15,16,17,18] [] [0,15,16] 0 ⟨[(0,tS v1),(15,tB true),(16,tS v1)],[]⟩ ?_ z0 trivial ?_
   ·kernel_rfl
   obtain ⟨v6,hv6,hc13⟩:=of_bind hc13
   refine AOps.cons (AOne.callP (F:=(FF 28 0)) _ rfl rfl rfl _ rfl rfl _ _ rfl Tryz.call109 [tS v1,.fn 110 []] rfl rfl (f109_110_ok v1 hv6) rfl) ?_
   refine AOps.go [15,16,17,18] [] [] [0,21] 0 ⟨[(0,tS v1),(21,tB (v6 == (v1.length:Int)))],[]⟩ ?_ z0 trivial ?_
   ·kernel_rfl
   cases hc13
   exact AOps.nil rfl
  ·replace hc13:=of_false hc13 hb
   refine AOps.go [13,14,15,16,17,18] [] [] [0,21] 0 ⟨[(0,tS v1),(21,tB false)],[]⟩ ?_ z0 trivial ?_
   ·kernel_rfl
   cases hc13
   exact AOps.nil rfl
 subst hJ
 refine AOps.go [19] [20,21,22,23,24,25] [] [0,22] 0 ⟨[(0,tS v1),(22,tB v5)],[]⟩ ?_ z0 trivial ?_
 ·kernel_rfl
 obtain ⟨v7,hc20,h⟩:=of_bind h
 refine AOps.cut [20,21,22,23,24] [25] (fun σ=>σ = ⟨[(27,tB v7)],[]⟩) ?_ fun σ' hJ=>?_
 ·refine AOps.split (fun b=>⟨[(0,tS v1),(22,tB b)],[]⟩) _ (fun hb=>?_) fun hb=>?_
  ·replace hc20:=of_true hc20 hb
   refine AOps.go [20,21] [22,23,24] [] [22,23,24] 0 ⟨[(22,tB true),(23,tS v1),(24,tS v1)],[]⟩ ?_ z0 trivial ?_
   ·kernel_rfl
   obtain ⟨v8,hv8,hc20⟩:=of_bind hc20
   refine AOps.cons (AOne.callP (F:=(FF 28 0)) _ rfl rfl rfl _ rfl rfl _ _ rfl Tryz.call111 [tS v1] rfl rfl (f111_ok v1 hv8) rfl) ?_
   refine AOps.go [23,24] [] [] [27] 0 ⟨[(27,tB (v1 == v8))],[]⟩ ?_ z0 trivial ?_
   ·kernel_rfl
   cases hc20
   exact AOps.nil rfl
  ·replace hc20:=of_false hc20 hb
   refine AOps.go [20,21,22,23,24] [] [] [27] 0 ⟨[(27,tB false)],[]⟩ ?_ z0 trivial ?_
   ·kernel_rfl
   cases hc20
   exact AOps.nil rfl
 subst hJ
 refine AOps.go [25] [] [] [2] 0 ⟨[(2,tB v7)],[]⟩ ?_ z0 trivial ?_
 ·kernel_rfl
 refine AOps.nil ?_
 refine AWp.ret ?_
 cases h
 exact ⟨.inr rfl,rfl⟩

noncomputable def f138 (v1:List UInt8):Option Bool :=
 (cond (v1 == ([]:List UInt8)) (some true) ((f86 v1).bind fun v3=>some v3)).bind fun v2=>some v2

theorem f138_ok (v1:List UInt8) {r:Bool} (h:f138 v1 = some r):ACall Tryz.prog 138 [.tv (.str v1)] [] (.tv (.bool r)) []:=by
 refine ACall.of1 (FF 9 0) Tryz.func138 rfl Tryz.ntmps138 Tryz.results138 (zz rfl) rfl rfl ?_
 refine AWp.seq ?_
 refine AWp.start [0] [] [] [0] 0 ⟨[(0,tS v1)],[]⟩ rfl ?_ z0 trivial ?_
 ·kernel_rfl
 refine AOps.nil ?_
 refine AWp.seq ?_
 refine AWp.start [0,1,2] [3,4,5,6] [] [0,5] 0 ⟨[(0,tS v1),(5,tB (v1 == ([]:List UInt8)))],[]⟩ rfl ?_ z0 trivial ?_
 ·kernel_rfl
 obtain ⟨v2,hc3,h⟩:=of_bind h
 refine AOps.cut [3,4,5] [6] (fun σ=>σ = ⟨[(8,tB v2)],[]⟩) ?_ fun σ' hJ=>?_
 ·refine AOps.split (fun b=>⟨[(0,tS v1),(5,tB b)],[]⟩) _ (fun hb=>?_) fun hb=>?_
  ·replace hc3:=of_true hc3 hb
   refine AOps.go [3,4,5] [] [] [8] 0 ⟨[(8,tB true)],[]⟩ ?_ z0 trivial ?_
   ·kernel_rfl
   cases hc3
   exact AOps.nil rfl
  ·replace hc3:=of_false hc3 hb
   refine AOps.go [3] [4,5] [] [5,6] 0 ⟨[(5,tB false),(6,tS v1)],[]⟩ ?_ z0 trivial ?_
   ·kernel_rfl
   obtain ⟨v3,hv3,hc3⟩:=of_bind hc3
   refine AOps.cons (AOne.callP (F:=(FF 9 0)) _ rfl rfl rfl _ rfl rfl _ _ rfl Tryz.call86 [tS v1] rfl rfl (f86_ok v1 hv3) rfl) ?_
   refine AOps.go [5] [] [] [8] 0 ⟨[(8,tB v3)],[]⟩ ?_ z0 trivial ?_
   ·kernel_rfl
   cases hc3
   exact AOps.nil rfl
 subst hJ
 refine AOps.go [6] [] [] [2] 0 ⟨[(2,tB v2)],[]⟩ ?_ z0 trivial ?_
 ·kernel_rfl
 refine AOps.nil ?_
 refine AWp.ret ?_
 cases h
 exact ⟨.inr rfl,rfl⟩

noncomputable def f112_b1 (v1:T80) (v7:Int):Option (Int ⊕ Out Bool Unit) :=
 cond (decide (v7 < (v1.f3.length:Int))) (if (0:Int) ≤ v7 ∧ v7 < (v1.f3.length:Int) then (f86 ((v1.f3.getD v7.toNat default).f0)).bind fun v8=>(cond (!v8) (some true) ((f138 ((v1.f3.getD v7.toNat default).f1)).bind fun v10=>some (!v10))).bind fun v9=>(cond v9 (some true) (some (decide ((v1.f3.getD v7.toNat default).f2 < (0:Int))))).bind fun v11=>(cond v11 (some true) (some (decide ((v1.f3.getD v7.toNat default).f2 > (100:Int))))).bind fun v12=>cond v12 (some (.inr (.ret false))) (some (.inl (w64 (v7 + (1:Int))))) else none) (some (.inr (.go ())))

noncomputable def f112_b2 (v1:T80) (v14:Int):Option (Int ⊕ Out Bool Unit) :=
 cond (decide (v14 < (v1.f4.length:Int))) (if (0:Int) ≤ v14 ∧ v14 < (v1.f4.length:Int) then (f86 ((v1.f4.getD v14.toNat default).f0)).bind fun v15=>(cond (!v15) (some true) ((f138 ((v1.f4.getD v14.toNat default).f1)).bind fun v17=>some (!v17))).bind fun v16=>cond v16 (some (.inr (.ret false))) (some (.inl (w64 (v14 + (1:Int))))) else none) (some (.inr (.go ())))

noncomputable def f112 (v1:T80):Option Bool :=
 (f86 v1.f0).bind fun v2=>(cond (!v2) (some true) ((f138 v1.f1).bind fun v4=>some (!v4))).bind fun v3=>(cond v3 (some true) ((f138 v1.f5).bind fun v6=>some (!v6))).bind fun v5=>cond v5 (some false) ((iter (fun s=>f112_b1 v1 s) (0:Int)).bind fun y=>match y with | .ret v13=>some v13 | .go _=>(iter (fun s=>f112_b2 v1 s) (0:Int)).bind fun y=>match y with | .ret v18=>some v18 | .go _=>some true)

theorem f112_ok (v1:T80) {r:Bool} (h:f112 v1 = some r):ACall Tryz.prog 112 [.agg [.str v1.f0,.str v1.f1,.bool v1.f2,fzL 3 c86 v1.f3,fzL 2 c107 v1.f4,.str v1.f5]] [] (.tv (.bool r)) []:=by
 refine ACall.of1 (FF 69 0) Tryz.func112 rfl Tryz.ntmps112 Tryz.results112 (zz rfl) rfl rfl ?_
 refine AWp.seq ?_
 refine AWp.start [0,1] [] [] [1] 1 ⟨[(1,.pc 0 0)],[.cells 81 (c80 v1)]⟩ rfl ?_ z0 trivial ?_
 ·kernel_rfl
 refine AOps.nil ?_
 refine AWp.seq ?_
 refine AWp.seq ?_
 refine AWp.pin 0 rfl rfl ?_
 refine AWp.keepTo [1] 0 ⟨[(1,.rp (c80 v1))],[]⟩ ?_ z0 ?_
 ·kernel_rfl
 refine AWp.start [0,1] [2,3,4,5,6,7,8,9,10,11,12,13,14,15] [] [1,8] 0 ⟨[(1,.rp (c80 v1)),(8,tS v1.f0)],[]⟩ rfl ?_ z0 trivial ?_
 ·kernel_rfl
 obtain ⟨v2,hv2,h⟩:=of_bind h
 refine AOps.cons (AOne.callP (F:=(FF 69 0)) _ rfl rfl rfl _ rfl rfl _ _ rfl Tryz.call86 [tS v1.f0] rfl rfl (f86_ok v1.f0 hv2) rfl) ?_
 refine AOps.go [3,4] [5,6,7,8,9,10,11,12,13,14,15] [] [1,11] 0 ⟨[(1,.rp (c80 v1)),(11,tB (!v2))],[]⟩ ?_ z0 trivial ?_
 ·kernel_rfl
 obtain ⟨v3,hc5,h⟩:=of_bind h
 refine AOps.cut [5,6,7,8,9] [10,11,12,13,14,15] (fun σ=>σ = ⟨[(1,.rp (c80 v1)),(16,tB v3)],[]⟩) ?_ fun σ' hJ=>?_
 ·refine AOps.split (fun b=>⟨[(1,.rp (c80 v1)),(11,tB b)],[]⟩) _ (fun hb=>?_) fun hb=>?_
  ·replace hc5:=of_true hc5 hb
   refine AOps.go [5,6,7,8,9] [] [] [1,16] 0 ⟨[(1,.rp (c80 v1)),(16,tB true)],[]⟩ ?_ z0 trivial ?_
   ·kernel_rfl
   cases hc5
   exact AOps.nil rfl
  ·replace hc5:=of_false hc5 hb
   refine AOps.go [5,6] [7,8,9] [] [1,11,13] 0 ⟨[(1,.rp (c80 v1)),(11,tB false),(13,tS v1.f1)],[]⟩ ?_ z0 trivial ?_
   ·kernel_rfl
   obtain ⟨v4,hv4,hc5⟩:=of_bind hc5
   refine AOps.cons (AOne.callP (F:=(FF 69 0)) _ rfl rfl rfl _ rfl rfl _ _ rfl Tryz.call138 [tS v1.f1] rfl rfl (f138_ok v1.f1 hv4) rfl) ?_
   refine AOps.go [8,9] [] [] [1,16] 0 ⟨[(1,.rp (c80 v1)),(16,tB (!v4))],[]⟩ ?_ z0 trivial ?_
   ·kernel_rfl
   cases hc5
   exact AOps.nil rfl
 subst hJ
 refine AOps.go [10] [11,12,13,14,15] [] [1,17] 0 ⟨[(1,.rp (c80 v1)),(17,tB v3)],[]⟩ ?_ z0 trivial ?_
 ·kernel_rfl
 obtain ⟨v5,hc11,h⟩:=of_bind h
 refine AOps.cut [11,12,13,14,15] [] (fun σ=>σ = ⟨[(1,.rp (c80 v1)),(22,tB v5)],[]⟩) ?_ fun σ' hJ=>?_
 ·refine AOps.split (fun b=>⟨[(1,.rp (c80 v1)),(17,tB b)],[]⟩) _ (fun hb=>?_) fun hb=>?_
  ·replace hc11:=of_true hc11 hb
   refine AOps.go [11,12,13,14,15] [] [] [1,22] 0 ⟨[(1,.rp (c80 v1)),(22,tB true)],[]⟩ ?_ z0 trivial ?_
   ·kernel_rfl
   cases hc11
   exact AOps.nil rfl
  ·replace hc11:=of_false hc11 hb
   refine AOps.go [11,12] [13,14,15] [] [1,17,19] 0 ⟨[(1,.rp (c80 v1)),(17,tB false),(19,tS v1.f5)],[]⟩ ?_ z0 trivial ?_
   ·kernel_rfl
   obtain ⟨v6,hv6,hc11⟩:=of_bind hc11
   refine AOps.cons (AOne.callP (F:=(FF 69 0)) _ rfl rfl rfl _ rfl rfl _ _ rfl Tryz.call138 [tS v1.f5] rfl rfl (f138_ok v1.f5 hv6) rfl) ?_
   refine AOps.go [14,15] [] [] [1,22] 0 ⟨[(1,.rp (c80 v1)),(22,tB (!v6))],[]⟩ ?_ z0 trivial ?_
   ·kernel_rfl
   cases hc11
   exact AOps.nil rfl
 subst hJ
 refine AOps.nil ?_
 refine AWp.cond rfl (fun hb=>?_) fun hb=>?_
 ·replace h:=of_true h hb
  refine AWp.keepTo [] 0 ⟨[],[]⟩ ?_ z0 ?_
  ·kernel_rfl
  refine AWp.seq ?_
  refine AWp.start [0] [] [] [2] 0 ⟨[(2,tB false)],[]⟩ rfl ?_ z0 trivial ?_
  ·kernel_rfl
  refine AOps.nil ?_
  refine AWp.ret ?_
  cases h
  exact ⟨.inr rfl,rfl⟩
 ·replace h:=of_false h hb
  refine AWp.keepTo [1] 0 ⟨[(1,.rp (c80 v1))],[]⟩ ?_ z0 ?_
  ·kernel_rfl
  refine AWp.skip ?_
  refine AWp.seq ?_
  refine AWp.seq ?_
  refine AWp.start [0,1,2,3] [] [] [1,24,25,26] 0 ⟨[(1,.rp (c80 v1)),(24,q1 v1.f3),(25,tI (v1.f3.length:Int)),(26,tI (0:Int))],[]⟩ rfl ?_ z0 trivial ?_
  ·kernel_rfl
  refine AOps.nil ?_
  refine AWp.block ?_
  obtain ⟨y,hy,h⟩:=of_bind h
  refine AWp.mono (AWp.loop (S:=Int) (Y:=Out Bool Unit) (fun s=>⟨[(1,.rp (c80 v1)),(24,q1 v1.f3),(25,tI (v1.f3.length:Int)),(26,tI s)],[]⟩) (fun s=>f112_b1 v1 s) (fun y e σ=>match y with | .ret r=>e = .ret ∧ σ = ⟨[(2,tB r)],[]⟩ | .go v=>e = .exit 0 ∧ σ = ⟨[(1,.rp (c80 v1))],[]⟩) ?_ hy) ?_
  ·rintro v7 o h
   refine AWp.seq ?_
   refine AWp.start [0] [] [] [1,24,25,26,27] 0 ⟨[(1,.rp (c80 v1)),(24,q1 v1.f3),(25,tI (v1.f3.length:Int)),(26,tI v7),(27,tB (decide (v7 < (v1.f3.length:Int))))],[]⟩ rfl ?_ z0 trivial ?_
   ·kernel_rfl
   refine AOps.nil ?_
   refine AWp.seq ?_
   refine AWp.cond rfl (fun hb=>?_) fun hb=>?_
   ·replace h:=of_true h hb
    refine AWp.keepTo [1,24,25,26] 0 ⟨[(1,.rp (c80 v1)),(24,q1 v1.f3),(25,tI (v1.f3.length:Int)),(26,tI v7)],[]⟩ ?_ z0 ?_
    ·kernel_rfl
    refine AWp.skip ?_
    refine AWp.seq ?_
    refine AWp.block ?_
    refine AWp.seq ?_
    obtain ⟨hg,h⟩:=of_guard h
    refine AWp.start [0,1,2,3] [] [(0:Int) ≤ v7,v7 < (v1.f3.length:Int)] [1,4,24,25,26] 1 ⟨[(1,.rp (c80 v1)),(4,.pc 0 0),(24,q1 v1.f3),(25,tI (v1.f3.length:Int)),(26,tI v7)],[.cells 87 (c86 (gD v1.f3 v7))]⟩ rfl ?_ z0 ⟨hg.1,hg.2⟩ ?_
    ·kernel_rfl
    refine AOps.nil ?_
    refine AWp.seq ?_
    refine AWp.pin 0 rfl rfl ?_
    refine AWp.keepTo [1,4,24,25,26] 0 ⟨[(1,.rp (c80 v1)),(4,.rp (c86 (gD v1.f3 v7))),(24,q1 v1.f3),(25,tI (v1.f3.length:Int)),(26,tI v7)],[]⟩ ?_ z0 ?_
    ·kernel_rfl
    refine AWp.start [0,1] [2,3,4,5,6,7,8,9,10,11,12,13,14,15,16,17,18,19] [] [1,4,24,25,26,31] 0 ⟨[(1,.rp (c80 v1)),(4,.rp (c86 (gD v1.f3 v7))),(24,q1 v1.f3),(25,tI (v1.f3.length:Int)),(26,tI v7),(31,tS ((gD v1.f3 v7).f0))],[]⟩ rfl ?_ z0 trivial ?_
    ·kernel_rfl
    obtain ⟨v8,hv8,h⟩:=of_bind h
    refine AOps.cons (AOne.callP (F:=(FF 69 0)) _ rfl rfl rfl _ rfl rfl _ _ rfl Tryz.call86 [tS ((gD v1.f3 v7).f0)] rfl rfl (f86_ok ((gD v1.f3 v7).f0) hv8) rfl) ?_
    refine AOps.go [3,4] [5,6,7,8,9,10,11,12,13,14,15,16,17,18,19] [] [1,4,24,25,26,34] 0 ⟨[(1,.rp (c80 v1)),(4,.rp (c86 (gD v1.f3 v7))),(24,q1 v1.f3),(25,tI (v1.f3.length:Int)),(26,tI v7),(34,tB (!v8))],[]⟩ ?_ z0 trivial ?_
    ·kernel_rfl
    obtain ⟨v9,hc5,h⟩:=of_bind h
    refine AOps.cut [5,6,7,8,9] [10,11,12,13,14,15,16,17,18,19] (fun σ=>σ = ⟨[(1,.rp (c80 v1)),(4,.rp (c86 (gD v1.f3 v7))),(24,q1 v1.f3),(25,tI (v1.f3.length:Int)),(26,tI v7),(39,tB v9)],[]⟩) ?_ fun σ' hJ=>?_
    ·refine AOps.split (fun b=>⟨[(1,.rp (c80 v1)),(4,.rp (c86 (gD v1.f3 v7))),(24,q1 v1.f3),(25,tI (v1.f3.length:Int)),(26,tI v7),(34,tB b)],[]⟩) _ (fun hb=>?_) fun hb=>?_
     ·replace hc5:=of_true hc5 hb
      refine AOps.go [5,6,7,8,9] [] [] [1,4,24,25,26,39] 0 ⟨[(1,.rp (c80 v1)),(4,.rp (c86 (gD v1.f3 v7))),(24,q1 v1.f3),(25,tI (v1.f3.length:Int)),(26,tI v7),(39,tB true)],[]⟩ ?_ z0 trivial ?_
      ·kernel_rfl
      cases hc5
      exact AOps.nil rfl
     ·replace hc5:=of_false hc5 hb
      refine AOps.go [5,6] [7,8,9] [] [1,4,24,25,26,34,36] 0 ⟨[(1,.rp (c80 v1)),(4,.rp (c86 (gD v1.f3 v7))),(24,q1 v1.f3),(25,tI (v1.f3.length:Int)),(26,tI v7),(34,tB false),(36,tS ((gD v1.f3 v7).f1))],[]⟩ ?_ z0 trivial ?_
      ·kernel_rfl
      obtain ⟨v10,hv10,hc5⟩:=of_bind hc5
      refine AOps.cons (AOne.callP (F:=(FF 69 0)) _ rfl rfl rfl _ rfl rfl _ _ rfl Tryz.call138 [tS ((gD v1.f3 v7).f1)] rfl rfl (f138_ok ((gD v1.f3 v7).f1) hv10) rfl) ?_
      refine AOps.go [8,9] [] [] [1,4,24,25,26,39] 0 ⟨[(1,.rp (c80 v1)),(4,.rp (c86 (gD v1.f3 v7))),(24,q1 v1.f3),(25,tI (v1.f3.length:Int)),(26,tI v7),(39,tB (!v10))],[]⟩ ?_ z0 trivial ?_
      ·kernel_rfl
      cases hc5
      exact AOps.nil rfl
    subst hJ
    refine AOps.go [10] [11,12,13,14,15,16,17,18,19] [] [1,4,24,25,26,40] 0 ⟨[(1,.rp (c80 v1)),(4,.rp (c86 (gD v1.f3 v7))),(24,q1 v1.f3),(25,tI (v1.f3.length:Int)),(26,tI v7),(40,tB v9)],[]⟩ ?_ z0 trivial ?_
    ·kernel_rfl
    obtain ⟨v11,hc11,h⟩:=of_bind h
    refine AOps.cut [11,12,13,14] [15,16,17,18,19] (fun σ=>σ = ⟨[(1,.rp (c80 v1)),(4,.rp (c86 (gD v1.f3 v7))),(24,q1 v1.f3),(25,tI (v1.f3.length:Int)),(26,tI v7),(44,tB v11)],[]⟩) ?_ fun σ' hJ=>?_
    ·refine AOps.split (fun b=>⟨[(1,.rp (c80 v1)),(4,.rp (c86 (gD v1.f3 v7))),(24,q1 v1.f3),(25,tI (v1.f3.length:Int)),(26,tI v7),(40,tB b)],[]⟩) _ (fun hb=>?_) fun hb=>?_
     ·replace hc11:=of_true hc11 hb
      refine AOps.go [11,12,13,14] [] [] [1,4,24,25,26,44] 0 ⟨[(1,.rp (c80 v1)),(4,.rp (c86 (gD v1.f3 v7))),(24,q1 v1.f3),(25,tI (v1.f3.length:Int)),(26,tI v7),(44,tB true)],[]⟩ ?_ z0 trivial ?_
      ·kernel_rfl
      cases hc11
      exact AOps.nil rfl
     ·replace hc11:=of_false hc11 hb
      refine AOps.go [11,12,13,14] [] [] [1,4,24,25,26,44] 0 ⟨[(1,.rp (c80 v1)),(4,.rp (c86 (gD v1.f3 v7))),(24,q1 v1.f3),(25,tI (v1.f3.length:Int)),(26,tI v7),(44,tB (decide ((gD v1.f3 v7).f2 < (0:Int))))],[]⟩ ?_ z0 trivial ?_
      ·kernel_rfl
      cases hc11
      exact AOps.nil rfl
    subst hJ
    refine AOps.go [15] [16,17,18,19] [] [1,4,24,25,26,45] 0 ⟨[(1,.rp (c80 v1)),(4,.rp (c86 (gD v1.f3 v7))),(24,q1 v1.f3),(25,tI (v1.f3.length:Int)),(26,tI v7),(45,tB v11)],[]⟩ ?_ z0 trivial ?_
    ·kernel_rfl
    obtain ⟨v12,hc16,h⟩:=of_bind h
    refine AOps.cut [16,17,18,19] [] (fun σ=>σ = ⟨[(1,.rp (c80 v1)),(24,q1 v1.f3),(25,tI (v1.f3.length:Int)),(26,tI v7),(49,tB v12)],[]⟩) ?_ fun σ' hJ=>?_
    ·refine AOps.split (fun b=>⟨[(1,.rp (c80 v1)),(4,.rp (c86 (gD v1.f3 v7))),(24,q1 v1.f3),(25,tI (v1.f3.length:Int)),(26,tI v7),(45,tB b)],[]⟩) _ (fun hb=>?_) fun hb=>?_
     ·replace hc16:=of_true hc16 hb
      refine AOps.go [16,17,18,19] [] [] [1,24,25,26,49] 0 ⟨[(1,.rp (c80 v1)),(24,q1 v1.f3),(25,tI (v1.f3.length:Int)),(26,tI v7),(49,tB true)],[]⟩ ?_ z0 trivial ?_
      ·kernel_rfl
      cases hc16
      exact AOps.nil rfl
     ·replace hc16:=of_false hc16 hb
      refine AOps.go [16,17,18,19] [] [] [1,24,25,26,49] 0 ⟨[(1,.rp (c80 v1)),(24,q1 v1.f3),(25,tI (v1.f3.length:Int)),(26,tI v7),(49,tB (decide ((gD v1.f3 v7).f2 > (100:Int))))],[]⟩ ?_ z0 trivial ?_
      ·kernel_rfl
      cases hc16
      exact AOps.nil rfl
    subst hJ
    refine AOps.nil ?_
    refine AWp.cond rfl (fun hb=>?_) fun hb=>?_
    ·replace h:=of_true h hb
     refine AWp.keepTo [] 0 ⟨[],[]⟩ ?_ z0 ?_
     ·kernel_rfl
     refine AWp.seq ?_
     refine AWp.start [0] [] [] [2] 0 ⟨[(2,tB false)],[]⟩ rfl ?_ z0 trivial ?_
     ·kernel_rfl
     refine AOps.nil ?_
     refine AWp.ret ?_
     cases h
     exact Or.inr ⟨_,rfl,by simp,rfl,rfl⟩
    ·replace h:=of_false h hb
     refine AWp.keepTo [1,24,25,26] 0 ⟨[(1,.rp (c80 v1)),(24,q1 v1.f3),(25,tI (v1.f3.length:Int)),(26,tI v7)],[]⟩ ?_ z0 ?_
     ·kernel_rfl
     refine AWp.skip ?_
     refine AWp.start [0,1] [] [] [1,24,25,26] 0 ⟨[(1,.rp (c80 v1)),(24,q1 v1.f3),(25,tI (v1.f3.length:Int)),(26,tI (w64 (v7 + (1:Int))))],[]⟩ rfl ?_ z0 trivial ?_
     ·kernel_rfl
     refine AOps.nil ?_
     cases h
     exact Or.inl ⟨_,rfl,rfl,rfl⟩
   ·replace h:=of_false h hb
    refine AWp.keepTo [1] 0 ⟨[(1,.rp (c80 v1))],[]⟩ ?_ z0 ?_
    ·kernel_rfl
    refine AWp.exit ?_
    cases h
    exact Or.inr ⟨_,rfl,by simp,rfl,rfl⟩
  ·intro e σ hp
   rcases y with v13 | _
   ·obtain ⟨rfl,rfl⟩:=hp
    cases h
    exact ⟨.inr rfl,rfl⟩
   ·obtain ⟨rfl,rfl⟩:=hp
    refine AWp.seq ?_
    refine AWp.seq ?_
    refine AWp.start [0,1,2,3] [] [] [52,53,54] 0 ⟨[(52,.tv (k4 v1.f4)),(53,tI (v1.f4.length:Int)),(54,tI (0:Int))],[]⟩ rfl ?_ z0 trivial ?_
    ·kernel_rfl
    refine AOps.nil ?_
    refine AWp.block ?_
    obtain ⟨y,hy,h⟩:=of_bind h
    refine AWp.mono (AWp.loop (S:=Int) (Y:=Out Bool Unit) (fun s=>⟨[(52,.tv (k4 v1.f4)),(53,tI (v1.f4.length:Int)),(54,tI s)],[]⟩) (fun s=>f112_b2 v1 s) (fun y e σ=>match y with | .ret r=>e = .ret ∧ σ = ⟨[(2,tB r)],[]⟩ | .go v=>e = .exit 2 ∧ σ = ⟨[],[]⟩) ?_ hy) ?_
    ·rintro v14 o h
     refine AWp.seq ?_
     refine AWp.start [0] [] [] [52,53,54,55] 0 ⟨[(52,.tv (k4 v1.f4)),(53,tI (v1.f4.length:Int)),(54,tI v14),(55,tB (decide (v14 < (v1.f4.length:Int))))],[]⟩ rfl ?_ z0 trivial ?_
     ·kernel_rfl
     refine AOps.nil ?_
     refine AWp.seq ?_
     refine AWp.cond rfl (fun hb=>?_) fun hb=>?_
     ·replace h:=of_true h hb
      refine AWp.keepTo [52,53,54] 0 ⟨[(52,.tv (k4 v1.f4)),(53,tI (v1.f4.length:Int)),(54,tI v14)],[]⟩ ?_ z0 ?_
      ·kernel_rfl
      refine AWp.skip ?_
      refine AWp.seq ?_
      refine AWp.block ?_
      refine AWp.seq ?_
      obtain ⟨hg,h⟩:=of_guard h
      refine AWp.start [0,1,2,3] [] [(0:Int) ≤ v14,v14 < (v1.f4.length:Int)] [6,52,53,54] 1 ⟨[(6,.pc 0 0),(52,.tv (k4 v1.f4)),(53,tI (v1.f4.length:Int)),(54,tI v14)],[.cells 108 (c107 (gD v1.f4 v14))]⟩ rfl ?_ z0 ⟨hg.1,hg.2⟩ ?_
      ·kernel_rfl
      refine AOps.nil ?_
      refine AWp.seq ?_
      refine AWp.pin 0 rfl rfl ?_
      refine AWp.keepTo [6,52,53,54] 0 ⟨[(6,.rp (c107 (gD v1.f4 v14))),(52,.tv (k4 v1.f4)),(53,tI (v1.f4.length:Int)),(54,tI v14)],[]⟩ ?_ z0 ?_
      ·kernel_rfl
      refine AWp.start [0,1] [2,3,4,5,6,7,8,9] [] [6,52,53,54,59] 0 ⟨[(6,.rp (c107 (gD v1.f4 v14))),(52,.tv (k4 v1.f4)),(53,tI (v1.f4.length:Int)),(54,tI v14),(59,tS ((gD v1.f4 v14).f0))],[]⟩ rfl ?_ z0 trivial ?_
      ·kernel_rfl
      obtain ⟨v15,hv15,h⟩:=of_bind h
      refine AOps.cons (AOne.callP (F:=(FF 69 0)) _ rfl rfl rfl _ rfl rfl _ _ rfl Tryz.call86 [tS ((gD v1.f4 v14).f0)] rfl rfl (f86_ok ((gD v1.f4 v14).f0) hv15) rfl) ?_
      refine AOps.go [3,4] [5,6,7,8,9] [] [6,52,53,54,62] 0 ⟨[(6,.rp (c107 (gD v1.f4 v14))),(52,.tv (k4 v1.f4)),(53,tI (v1.f4.length:Int)),(54,tI v14),(62,tB (!v15))],[]⟩ ?_ z0 trivial ?_
      ·kernel_rfl
      obtain ⟨v16,hc5,h⟩:=of_bind h
      refine AOps.cut [5,6,7,8,9] [] (fun σ=>σ = ⟨[(52,.tv (k4 v1.f4)),(53,tI (v1.f4.length:Int)),(54,tI v14),(67,tB v16)],[]⟩) ?_ fun σ' hJ=>?_
      ·refine AOps.split (fun b=>⟨[(6,.rp (c107 (gD v1.f4 v14))),(52,.tv (k4 v1.f4)),(53,tI (v1.f4.length:Int)),(54,tI v14),(62,tB b)],[]⟩) _ (fun hb=>?_) fun hb=>?_
       ·replace hc5:=of_true hc5 hb
        refine AOps.go [5,6,7,8,9] [] [] [52,53,54,67] 0 ⟨[(52,.tv (k4 v1.f4)),(53,tI (v1.f4.length:Int)),(54,tI v14),(67,tB true)],[]⟩ ?_ z0 trivial ?_
        ·kernel_rfl
        cases hc5
        exact AOps.nil rfl
       ·replace hc5:=of_false hc5 hb
        refine AOps.go [5,6] [7,8,9] [] [52,53,54,62,64] 0 ⟨[(52,.tv (k4 v1.f4)),(53,tI (v1.f4.length:Int)),(54,tI v14),(62,tB false),(64,tS ((gD v1.f4 v14).f1))],[]⟩ ?_ z0 trivial ?_
        ·kernel_rfl
        obtain ⟨v17,hv17,hc5⟩:=of_bind hc5
        refine AOps.cons (AOne.callP (F:=(FF 69 0)) _ rfl rfl rfl _ rfl rfl _ _ rfl Tryz.call138 [tS ((gD v1.f4 v14).f1)] rfl rfl (f138_ok ((gD v1.f4 v14).f1) hv17) rfl) ?_
        refine AOps.go [8,9] [] [] [52,53,54,67] 0 ⟨[(52,.tv (k4 v1.f4)),(53,tI (v1.f4.length:Int)),(54,tI v14),(67,tB (!v17))],[]⟩ ?_ z0 trivial ?_
        ·kernel_rfl
        cases hc5
        exact AOps.nil rfl
      subst hJ
      refine AOps.nil ?_
      refine AWp.cond rfl (fun hb=>?_) fun hb=>?_
      ·replace h:=of_true h hb
       refine AWp.keepTo [] 0 ⟨[],[]⟩ ?_ z0 ?_
       ·kernel_rfl
       refine AWp.seq ?_
       refine AWp.start [0] [] [] [2] 0 ⟨[(2,tB false)],[]⟩ rfl ?_ z0 trivial ?_
       ·kernel_rfl
       refine AOps.nil ?_
       refine AWp.ret ?_
       cases h
       exact Or.inr ⟨_,rfl,by simp,rfl,rfl⟩
      ·replace h:=of_false h hb
       refine AWp.keepTo [52,53,54] 0 ⟨[(52,.tv (k4 v1.f4)),(53,tI (v1.f4.length:Int)),(54,tI v14)],[]⟩ ?_ z0 ?_
       ·kernel_rfl
       refine AWp.skip ?_
       refine AWp.start [0,1] [] [] [52,53,54] 0 ⟨[(52,.tv (k4 v1.f4)),(53,tI (v1.f4.length:Int)),(54,tI (w64 (v14 + (1:Int))))],[]⟩ rfl ?_ z0 trivial ?_
       ·kernel_rfl
       refine AOps.nil ?_
       cases h
       exact Or.inl ⟨_,rfl,rfl,rfl⟩
     ·replace h:=of_false h hb
      refine AWp.keepTo [] 0 ⟨[],[]⟩ ?_ z0 ?_
      ·kernel_rfl
      refine AWp.exit ?_
      cases h
      exact Or.inr ⟨_,rfl,by simp,rfl,rfl⟩
    ·intro e σ hp
     rcases y with v18 | _
     ·obtain ⟨rfl,rfl⟩:=hp
      cases h
      exact ⟨.inr rfl,rfl⟩
     ·obtain ⟨rfl,rfl⟩:=hp
      refine AWp.seq ?_
      refine AWp.start [0] [] [] [2] 0 ⟨[(2,tB true)],[]⟩ rfl ?_ z0 trivial ?_
      ·kernel_rfl
      refine AOps.nil ?_
      refine AWp.ret ?_
      cases h
      exact ⟨.inr rfl,rfl⟩

noncomputable def f54 (v1:T80) (v2:List UInt8):Option Bool :=
 some (v1.f0 == v2)

theorem f54_ok (v1:T80) (v2:List UInt8) {r:Bool} (h:f54 v1 v2 = some r):ACall Tryz.prog 54 [.agg [.str v1.f0,.str v1.f1,.bool v1.f2,fzL 3 c86 v1.f3,fzL 2 c107 v1.f4,.str v1.f5],.rp [.str v2]] [] (.tv (.bool r)) []:=by
 refine ACall.of1 (FF 8 0) Tryz.func54 rfl Tryz.ntmps54 Tryz.results54 (zz rfl) rfl rfl ?_
 refine AWp.seq ?_
 refine AWp.start [0,1] [] [] [1,2] 1 ⟨[(1,.rp [.str v2]),(2,.pc 0 0)],[.cells 81 (c80 v1)]⟩ rfl ?_ z0 trivial ?_
 ·kernel_rfl
 refine AOps.nil ?_
 refine AWp.seq ?_
 refine AWp.pin 0 rfl rfl ?_
 refine AWp.keepTo [1,2] 0 ⟨[(1,.rp [.str v2]),(2,.rp (c80 v1))],[]⟩ ?_ z0 ?_
 ·kernel_rfl
 refine AWp.start [0,1,2,3,4] [] [] [3] 0 ⟨[(3,tB (v1.f0 == v2))],[]⟩ rfl ?_ z0 trivial ?_
 ·kernel_rfl
 refine AOps.nil ?_
 refine AWp.ret ?_
 cases h
 exact ⟨.inr rfl,rfl⟩

noncomputable def f53_54_b1 (v1:List T80) (v2:List UInt8) (v3:Int):Option (Int ⊕ Out Int Unit) :=
 cond (decide (v3 < (v1.length:Int))) (if (0:Int) ≤ v3 ∧ v3 < (v1.length:Int) then (f54 (v1.getD v3.toNat default) v2).bind fun v4=>cond v4 (some (.inr (.ret v3))) (some (.inl (w64 (v3 + (1:Int))))) else none) (some (.inr (.go ())))

noncomputable def f53_54 (v1:List T80) (v2:List UInt8):Option Int :=
 (iter (fun s=>f53_54_b1 v1 v2 s) (0:Int)).bind fun y=>match y with | .ret v5=>some v5 | .go _=>some (-1:Int)

theorem f53_54_ok (v1:List T80) (v2:List UInt8) {r:Int} (h:f53_54 v1 v2 = some r):ACall Tryz.prog 53 [.tv (fzL 6 c80 v1),.fn 54 [.rp [.str v2]]] [] (.tv (.int .i64 r)) []:=by
 refine ACall.of1 (FF 19 0) Tryz.func53 rfl Tryz.ntmps53 Tryz.results53 (zz rfl) rfl rfl ?_
 refine AWp.seq ?_
 refine AWp.start [0] [] [] [0,1] 0 ⟨[(0,q0 v1),(1,.fn 54 [.rp [.str v2]])],[]⟩ rfl ?_ z0 trivial ?_
 ·kernel_rfl
 refine AOps.nil ?_
 refine AWp.seq ?_
 refine AWp.seq ?_
 refine AWp.start [0,1,2] [] [] [0,1,7,8] 0 ⟨[(0,q0 v1),(1,.fn 54 [.rp [.str v2]]),(7,tI (v1.length:Int)),(8,tI (0:Int))],[]⟩ rfl ?_ z0 trivial ?_
 ·kernel_rfl
 refine AOps.nil ?_
 refine AWp.block ?_
 obtain ⟨y,hy,h⟩:=of_bind h
 refine AWp.mono (AWp.loop (S:=Int) (Y:=Out Int Unit) (fun s=>⟨[(0,q0 v1),(1,.fn 54 [.rp [.str v2]]),(7,tI (v1.length:Int)),(8,tI s)],[]⟩) (fun s=>f53_54_b1 v1 v2 s) (fun y e σ=>match y with | .ret r=>e = .ret ∧ σ = ⟨[(4,tI r)],[]⟩ | .go v=>e = .exit 0 ∧ σ = ⟨[],[]⟩) ?_ hy) ?_
 ·rintro v3 o h
  refine AWp.seq ?_
  refine AWp.start [0] [] [] [0,1,7,8,9] 0 ⟨[(0,q0 v1),(1,.fn 54 [.rp [.str v2]]),(7,tI (v1.length:Int)),(8,tI v3),(9,tB (decide (v3 < (v1.length:Int))))],[]⟩ rfl ?_ z0 trivial ?_
  ·kernel_rfl
  refine AOps.nil ?_
  refine AWp.seq ?_
  refine AWp.cond rfl (fun hb=>?_) fun hb=>?_
  ·replace h:=of_true h hb
   refine AWp.keepTo [0,1,7,8] 0 ⟨[(0,q0 v1),(1,.fn 54 [.rp [.str v2]]),(7,tI (v1.length:Int)),(8,tI v3)],[]⟩ ?_ z0 ?_
   ·kernel_rfl
   refine AWp.skip ?_
   refine AWp.seq ?_
   refine AWp.block ?_
   refine AWp.seq ?_
   refine AWp.start [0,1] [] [] [0,1,5,7,8] 0 ⟨[(0,q0 v1),(1,.fn 54 [.rp [.str v2]]),(5,tI v3),(7,tI (v1.length:Int)),(8,tI v3)],[]⟩ rfl ?_ z0 trivial ?_
   ·kernel_rfl
   refine AOps.nil ?_
   refine AWp.seq ?_
   obtain ⟨hg,h⟩:=of_guard h
   refine AWp.start [0,1,2,3,4] [5] [(0:Int) ≤ v3,v3 < (v1.length:Int)] [0,1,5,7,8,11,15] 0 ⟨[(0,q0 v1),(1,.fn 54 [.rp [.str v2]]),(5,tI v3),(7,tI (v1.length:Int)),(8,tI v3),(11,.fn 54 [.rp [.str v2]]),(15,.agg (c80 (gD v1 v3)))],[]⟩ rfl ?_ z0 ⟨hg.1,hg.2⟩ ?_
   ·kernel_rfl
   obtain ⟨v4,hv4,h⟩:=of_bind h
   refine AOps.cons (AOne.callP (F:=(FF 19 0)) _ rfl rfl rfl _ rfl rfl _ _ rfl Tryz.call54 [.agg (c80 (gD v1 v3)),.rp [.str v2]] rfl rfl (f54_ok (gD v1 v3) v2 hv4) rfl) ?_
   refine AOps.keepTo [0,1,5,7,8,16] 0 ⟨[(0,q0 v1),(1,.fn 54 [.rp [.str v2]]),(5,tI v3),(7,tI (v1.length:Int)),(8,tI v3),(16,tB v4)],[]⟩ ?_ z0 ?_
   ·kernel_rfl
   refine AOps.nil ?_
   refine AWp.cond rfl (fun hb=>?_) fun hb=>?_
   ·replace h:=of_true h hb
    refine AWp.keepTo [5] 0 ⟨[(5,tI v3)],[]⟩ ?_ z0 ?_
    ·kernel_rfl
    refine AWp.seq ?_
    refine AWp.start [0,1] [] [] [4] 0 ⟨[(4,tI v3)],[]⟩ rfl ?_ z0 trivial ?_
    ·kernel_rfl
    refine AOps.nil ?_
    refine AWp.ret ?_
    cases h
    exact Or.inr ⟨_,rfl,by simp,rfl,rfl⟩
   ·replace h:=of_false h hb
    refine AWp.keepTo [0,1,7,8] 0 ⟨[(0,q0 v1),(1,.fn 54 [.rp [.str v2]]),(7,tI (v1.length:Int)),(8,tI v3)],[]⟩ ?_ z0 ?_
    ·kernel_rfl
    refine AWp.skip ?_
    refine AWp.start [0,1] [] [] [0,1,7,8] 0 ⟨[(0,q0 v1),(1,.fn 54 [.rp [.str v2]]),(7,tI (v1.length:Int)),(8,tI (w64 (v3 + (1:Int))))],[]⟩ rfl ?_ z0 trivial ?_
    ·kernel_rfl
    refine AOps.nil ?_
    cases h
    exact Or.inl ⟨_,rfl,rfl,rfl⟩
  ·replace h:=of_false h hb
   refine AWp.keepTo [] 0 ⟨[],[]⟩ ?_ z0 ?_
   ·kernel_rfl
   refine AWp.exit ?_
   cases h
   exact Or.inr ⟨_,rfl,by simp,rfl,rfl⟩
 ·intro e σ hp
  rcases y with v5 | _
  ·obtain ⟨rfl,rfl⟩:=hp
   cases h
   exact ⟨.inr rfl,rfl⟩
  ·obtain ⟨rfl,rfl⟩:=hp
   refine AWp.seq ?_
   refine AWp.start [0] [] [] [4] 0 ⟨[(4,tI (-1:Int))],[]⟩ rfl ?_ z0 trivial ?_
   ·kernel_rfl
   refine AOps.nil ?_
   refine AWp.ret ?_
   cases h
   exact ⟨.inr rfl,rfl⟩

noncomputable def f29 (v1:List T80) (v2:List UInt8):Option Int :=
 (f53_54 v1 v2).bind fun v3=>some v3

theorem f29_ok (v1:List T80) (v2:List UInt8) {r:Int} (h:f29 v1 v2 = some r):ACall Tryz.prog 29 [.tv (fzL 6 c80 v1),.tv (.str v2)] [] (.tv (.int .i64 r)) []:=by
 refine ACall.of1 (FF 8 0) Tryz.func29 rfl Tryz.ntmps29 Tryz.results29 (zz rfl) rfl rfl ?_
 refine AWp.seq ?_
 refine AWp.start [0,1] [] [] [0,3] 1 ⟨[(0,q0 v1),(3,.pc 0 0)],[.cells 9 [.str v2]]⟩ rfl ?_ z0 trivial ?_
 ·kernel_rfl
 refine AOps.nil ?_
 refine AWp.seq ?_
 refine AWp.pin 0 rfl rfl ?_
 refine AWp.keepTo [0,3] 0 ⟨[(0,q0 v1),(3,.rp [.str v2])],[]⟩ ?_ z0 ?_
 ·kernel_rfl
 refine AWp.start [0,1] [2,3] [] [5,6] 0 ⟨[(5,q0 v1),(6,.fn 54 [.rp [.str v2]])],[]⟩ rfl ?_ z0 trivial ?_
 ·kernel_rfl
 obtain ⟨v3,hv3,h⟩:=of_bind h
 refine AOps.cons (AOne.callP (F:=(FF 8 0)) _ rfl rfl rfl _ rfl rfl _ _ rfl Tryz.call53 [q0 v1,.fn 54 [.rp [.str v2]]] rfl rfl (f53_54_ok v1 v2 hv3) rfl) ?_
 refine AOps.go [3] [] [] [4] 0 ⟨[(4,tI v3)],[]⟩ ?_ z0 trivial ?_
 ·kernel_rfl
 refine AOps.nil ?_
 refine AWp.ret ?_
 cases h
 exact ⟨.inr rfl,rfl⟩

noncomputable def f25_b1 (v1:List T80) (v3:Int) (v4:List Int):Option ((Int × (List Int)) ⊕ Out (List Int) (List Int)) :=
 cond (decide (v3 ≥ (0:Int))) (if (v4.length + [v3].length) * 8 ≤ 140737488355328 then if (0:Int) ≤ v3 ∧ v3 < (v1.length:Int) then cond (((v1.getD v3.toNat default).f1) == ([]:List UInt8)) (some (.inr (.go (v4 ++ [v3])))) (if (0:Int) ≤ v3 ∧ v3 < (v1.length:Int) then (f29 v1 ((v1.getD v3.toNat default).f1)).bind fun v6=>some (.inl (v6,v4 ++ [v3])) else none) else none else none) (some (.inr (.go v4)))

noncomputable def f25 (v1:List T80) (v2:Int):Option (List Int) :=
 (iter (fun s=>f25_b1 v1 s.1 s.2) (v2,[])).bind fun y=>match y with | .ret v7=>some v7 | .go v5=>some v5

theorem f25_ok (v1:List T80) (v2:Int) {r:(List Int)} (h:f25 v1 v2 = some r):ACall Tryz.prog 25 [.tv (fzL 6 c80 v1),.tv (.int .i64 v2)] [] (.tv (ownL 1 3 (cInt .i64) r)) []:=by
 refine ACall.of1 (FF 26 0) Tryz.func25 rfl Tryz.ntmps25 Tryz.results25 (zz rfl) rfl rfl ?_
 refine AWp.seq ?_
 refine AWp.start [0] [] [] [0,1] 0 ⟨[(0,q0 v1),(1,tI v2)],[]⟩ rfl ?_ z0 trivial ?_
 ·kernel_rfl
 refine AOps.nil ?_
 refine AWp.seq ?_
 refine AWp.start [0] [] [] [0,1,5] 0 ⟨[(0,q0 v1),(1,tI v2),(5,.tv (.sc (.slice none 0 0)))],[]⟩ rfl ?_ z0 trivial ?_
 ·kernel_rfl
 refine AOps.nil ?_
 refine AWp.seq ?_
 refine AWp.block ?_
 refine AWp.nilOwn 5 1 3 (fun i=>(cInt .i64) (([]:List Int).getD i default)) rfl ?_
 refine AWp.keepTo [0,1,5] 0 ⟨[(0,q0 v1),(1,tI v2),(5,q2 ([]:List Int))],[]⟩ ?_ z0 ?_
 ·kernel_rfl
 obtain ⟨y,hy,h⟩:=of_bind h
 refine AWp.mono (AWp.loop (S:=Int × (List Int)) (Y:=Out (List Int) (List Int)) (fun s=>⟨[(0,q0 v1),(1,tI s.1),(5,q2 s.2)],[]⟩) (fun s=>f25_b1 v1 s.1 s.2) (fun y e σ=>match y with | .ret r=>e = .ret ∧ σ = ⟨[(4,q2 r)],[]⟩ | .go v=>e = .exit 0 ∧ σ = ⟨[(5,q2 v)],[]⟩) ?_ hy) ?_
 ·rintro ⟨v3,v4⟩ o h
  refine AWp.seq ?_
  refine AWp.seq ?_
  refine AWp.start [0,1] [] [] [0,1,5,7] 0 ⟨[(0,q0 v1),(1,tI v3),(5,q2 v4),(7,tB (decide (v3 ≥ (0:Int))))],[]⟩ rfl ?_ z0 trivial ?_
  ·kernel_rfl
  refine AOps.nil ?_
  refine AWp.cond rfl (fun hb=>?_) fun hb=>?_
  ·replace h:=of_true h hb
   refine AWp.keepTo [0,1,5] 0 ⟨[(0,q0 v1),(1,tI v3),(5,q2 v4)],[]⟩ ?_ z0 ?_
   ·kernel_rfl
   refine AWp.skip ?_
   refine AWp.block ?_
   refine AWp.seq ?_
   refine AWp.start [0,1,2] [3,4] [] [0,1,5,8,10] 0 ⟨[(0,q0 v1),(1,tI v3),(5,q2 v4),(8,.al (.slot 5 0,[])),(10,.tv (.own 1 3 1 (newRowF [.int .i64 v3] 1)))],[]⟩ rfl ?_ z0 trivial ?_
   ·kernel_rfl
   refine AOps.extL 10 (cInt .i64) [v3] rfl rfl (row_at (cInt .i64) 1 (fun _=>rfl) [v3] _ rfl) ?_
   obtain ⟨hg,h⟩:=of_guard h
   refine AOps.go [3] [4] [(v4.length + [v3].length) * 8 ≤ 140737488355328,PlainTo v4.length (fun i=>(cInt .i64) (v4.getD i default)),PlainTo ([v3].length) (fun i=>(cInt .i64) ([v3].getD i default))] [0,1,11] 0 ⟨[(0,q0 v1),(1,tI v3),(11,.tv (.own 1 3 (v4.length + [v3].length) (appF v4.length (fun i=>(cInt .i64) (v4.getD i default)) (fun i=>(cInt .i64) ([v3].getD i default)))))],[]⟩ ?_ z0 ⟨hg,(fun _ _=>rfl),(fun _ _=>rfl)⟩ ?_
   ·kernel_rfl
   refine AOps.extL 11 (cInt .i64) (v4 ++ [v3]) rfl List.length_append.symm (app_at (cInt .i64) v4 [v3]) ?_
   refine AOps.go [4] [] [] [0,1,5] 0 ⟨[(0,q0 v1),(1,tI v3),(5,q2 (v4 ++ [v3]))],[]⟩ ?_ z0 trivial ?_
   ·kernel_rfl
   refine AOps.nil ?_
   refine AWp.seq ?_
   refine AWp.seq ?_
   obtain ⟨hg,h⟩:=of_guard h
   refine AWp.start [0,1,2,3,4,5] [] [(0:Int) ≤ v3,v3 < (v1.length:Int)] [0,1,5,17] 0 ⟨[(0,q0 v1),(1,tI v3),(5,q2 (v4 ++ [v3])),(17,tB (((gD v1 v3).f1) == ([]:List UInt8)))],[]⟩ rfl ?_ z0 ⟨hg.1,hg.2⟩ ?_
   ·kernel_rfl
   refine AOps.nil ?_
   refine AWp.cond rfl (fun hb=>?_) fun hb=>?_
   ·replace h:=of_true h hb
    refine AWp.keepTo [5] 0 ⟨[(5,q2 (v4 ++ [v3]))],[]⟩ ?_ z0 ?_
    ·kernel_rfl
    refine AWp.exit ?_
    cases h
    exact Or.inr ⟨_,rfl,by simp,rfl,rfl⟩
   ·replace h:=of_false h hb
    refine AWp.keepTo [0,1,5] 0 ⟨[(0,q0 v1),(1,tI v3),(5,q2 (v4 ++ [v3]))],[]⟩ ?_ z0 ?_
    ·kernel_rfl
    refine AWp.skip ?_
    obtain ⟨hg,h⟩:=of_guard h
    refine AWp.start [0,1,2,3,4,5] [6,7] [(0:Int) ≤ v3,v3 < (v1.length:Int)] [0,5,18,23] 0 ⟨[(0,q0 v1),(5,q2 (v4 ++ [v3])),(18,q0 v1),(23,tS ((gD v1 v3).f1))],[]⟩ rfl ?_ z0 ⟨hg.1,hg.2⟩ ?_
    ·kernel_rfl
    obtain ⟨v6,hv6,h⟩:=of_bind h
    refine AOps.cons (AOne.callP (F:=(FF 26 0)) _ rfl rfl rfl _ rfl rfl _ _ rfl Tryz.call29 [q0 v1,tS ((gD v1 v3).f1)] rfl rfl (f29_ok v1 ((gD v1 v3).f1) hv6) rfl) ?_
    refine AOps.go [7] [] [] [0,1,5] 0 ⟨[(0,q0 v1),(1,tI v6),(5,q2 (v4 ++ [v3]))],[]⟩ ?_ z0 trivial ?_
    ·kernel_rfl
    refine AOps.nil ?_
    cases h
    exact Or.inl ⟨_,rfl,rfl,rfl⟩
  ·replace h:=of_false h hb
   refine AWp.keepTo [5] 0 ⟨[(5,q2 v4)],[]⟩ ?_ z0 ?_
   ·kernel_rfl
   refine AWp.exit ?_
   cases h
   exact Or.inr ⟨_,rfl,by simp,rfl,rfl⟩
 ·intro e σ hp
  rcases y with v7 | v5
  ·obtain ⟨rfl,rfl⟩:=hp
   cases h
   exact ⟨.inr rfl,rfl⟩
  ·obtain ⟨rfl,rfl⟩:=hp
   refine AWp.seq ?_
   refine AWp.start [0,1] [] [] [4,5] 0 ⟨[(4,.al (.slot 5 0,[])),(5,q2 v5)],[]⟩ rfl ?_ z0 trivial ?_
   ·kernel_rfl
   refine AOps.nil ?_
   refine AWp.claim 4 (.slot 5 0) (k3 v5) rfl rfl rfl rfl ?_
   refine AWp.keepTo [4] 0 ⟨[(4,q2 v5)],[]⟩ ?_ z0 ?_
   ·kernel_rfl
   refine AWp.ret ?_
   cases h
   exact ⟨.inr rfl,rfl⟩

/-- The fields of these types, the last one's first. -/
noncomputable def f28 (v1:List T80) (v2:Int):Option (List T86) :=
 (f25 v1 v2).bind fun v3=>if (∀ k ∈ v3,0 ≤ k ∧ k < (v1.length:Int)) ∧ (∀ k ∈ v3,(v1.getD k.toNat default).f3.length ≤ 1000) ∧ v3.length ≤ 1000000 then some (v3.reverse.flatMap fun k=>(v1.getD k.toNat default).f3) else none

section
open Go.RowKit Go.Shelf
attribute [local go_sem] Oper.semAt_some

/-- Two blocks lie still. -/
def Keep2 (p q:Nat) (W W':World):Prop:=W'.heap[p]? = W.heap[p]? ∧ W'.heap[q]? = W.heap[q]?

/-- The first k that come. -/
def upTo {A:Type} (item:Nat → A) (k:Nat):List A:=(List.range k).map item
theorem upTo_succ {A:Type} (item:Nat → A) (k:Nat):upTo item (k + 1) = upTo item k ++ [item k]:=by simp [upTo,List.range_succ]
theorem upTo_length {A:Type} (item:Nat → A) (k:Nat):(upTo item k).length = k:=by simp [upTo]

set_option maxRecDepth 100000 in
set_option maxHeartbeats 2000000 in
theorem back1_in {A:Type} (item:Nat → A) (encs:A → Array Value) (F:Fence) (n:Nat) (h8:F.fn 89) (hro:F.round = none) (hn:1 ≤ n) (l Bs ob b off cap:Nat) (zs:List Int) (hreach:zs.length * 8 ≤ 140737488351232)
  (henc:∀ k,k < zs.length → encs (item k) = #[.int .i64 ((zs.length - 1 - k:Nat):Int),.int .i64 (zs[zs.length - 1 - k]?.getD 0)]) (J Jx:List A → World → Prop)
  (hY:∀ pre x W,J pre W → pre.length < zs.length → YieldAt F (n - 1) Tryz.prog l (encs x) W fun e W' =>
   (e = .returned (.bool true) ∧ J (pre ++ [x]) W' ∧ Keep2 Bs b W W') ∨ (e = .returned (.bool false) ∧ Jx (pre ++ [x]) W'))
  (W:World) (hBs:W.cell? ⟨Bs,ob,none⟩ = some (.slice (some ⟨b,off,none⟩) zs.length cap)) (hc:∀ j,j < zs.length → W.cell? ⟨b,off + j,none⟩ = some (.int .i64 (zs[j]?.getD 0))) (h0:J [] W) :
  CallsIn F n Tryz.prog 89 #[.func (.yield l) #[] #[],.pointer (some ⟨Bs,ob,none⟩)] W fun e W'=>(∃ v,e = .returned v) ∧
   ((∃ ys,ys = upTo item zs.length ∧ J ys W') ∨ (∃ pre,(∃ k,k ≤ zs.length ∧ pre = upTo item k) ∧ Jx pre W')):=by
 refine callsIn_of_wp Tryz.func89 rfl h8 ?_ hro
 simp only [Tryz.ntmps89,List.size_toArray,List.length_cons,List.length_nil,Nat.reduceAdd,Nat.reduceSub,Array.replicate_succ,Array.replicate_zero,List.push_toArray,List.append_toArray,List.nil_append,List.cons_append]
 gi_wp2
 gi_loopw [3] (fun i wr=>∃ k:Nat,k ≤ zs.length ∧ i = .int .i64 ((zs.length:Int) - 1 - k) ∧ J (upTo item k) wr ∧ Keep2 Bs b W wr)
  (fun i _=>(intOf i + 1).toNat)
 case atStart =>
  exact ⟨0,Nat.zero_le _,by simp,h0,rfl,rfl⟩
 case round =>
  obtain ⟨k,hk,rfl,hJs,hnx⟩:=hrel
  have hBx:wr.cell? ⟨Bs,ob,none⟩ = some (.slice (some ⟨b,off,none⟩) zs.length cap):=(World.cell?_of_block (a:=⟨Bs,ob,none⟩) hnx.1).trans hBs
  by_cases hlt:k < zs.length
  ·have hcx:wr.cell? ⟨b,off + (zs.length - 1 - k),none⟩ = some (.int .i64 (zs[zs.length - 1 - k]?.getD 0)):=(World.cell?_of_block (a:=⟨b,off + (zs.length - 1 - k),none⟩) hnx.2).trans (hc _ (by omega))
   obtain ⟨fn,tmps,assign,body,hy,hR⟩:=hY _ (item k) wr hJs (by rw [upTo_length]; exact hlt)
   rw [henc k hlt] at hy
   have hi:((zs.length:Int) - 1 - k) = ((zs.length - 1 - k:Nat):Int):=by omega
   rw [hi]
   gi_wp2
   refine hR.mono ?_
   rintro e W3 (⟨rfl,hJ3,hk3⟩ | ⟨rfl,hJx3⟩)
   ·gi_wp2
    go_roundw
    case rel=>exact ⟨k + 1,by omega,by simp only [Value.int.injEq,true_and]; omega,by rw [upTo_succ]; exact hJ3,hk3.1.trans hnx.1,hk3.2.trans hnx.2⟩
    case measure=>simp [intOf]
   ·gi_wp2
    refine bodyPost_ret (results_none rfl _ _ _) rfl ?_
    exact ⟨⟨_,rfl⟩,.inr ⟨_,⟨k + 1,by omega,(upTo_succ _ _).symm⟩,hJx3⟩⟩
  ·obtain rfl:k = zs.length:=by omega
   gi_wp2
   go_end0
   exact ⟨⟨_,rfl⟩,.inl ⟨_,rfl,hJs⟩⟩

set_option maxRecDepth 100000 in
set_option maxHeartbeats 1000000 in
theorem back1_nil_in {A:Type} (F:Fence) (n:Nat) (h8:F.fn 89) (hro:F.round = none) (l Bs ob:Nat) (q:Option Addr) (c:Nat) (J:List A → World → Prop) (W:World) (hBs:W.cell? ⟨Bs,ob,none⟩ = some (.slice q 0 c)) (h0:J [] W) :
  CallsIn F n Tryz.prog 89 #[.func (.yield l) #[] #[],.pointer (some ⟨Bs,ob,none⟩)] W fun e W'=>(∃ v,e = .returned v) ∧ J [] W':=by
 refine callsIn_of_wp Tryz.func89 rfl h8 ?_ hro
 simp only [Tryz.ntmps89,List.size_toArray,List.length_cons,List.length_nil,Nat.reduceAdd,Nat.reduceSub,Array.replicate_succ,Array.replicate_zero,List.push_toArray,List.append_toArray,List.nil_append,List.cons_append]
 gi_wp2
 gi_loopw [3] (fun i wr=>i = .int .i64 (-1) ∧ J [] wr) (fun _ _=>0)
 case atStart=>exact ⟨by simp,h0⟩
 case round =>
  obtain ⟨rfl,hJs⟩:=hrel
  gi_wp2
  go_end0
  exact ⟨⟨_,rfl⟩,hJs⟩

/-- What the box's value shows: ints, in a block. -/
def SeesInts (W:World) (b:Nat) (sv:Value) (zs:List Int):Prop :=
 (∃ q c,sv = .slice q 0 c ∧ zs = []) ∨ ∃ off cap,sv = .slice (some ⟨b,off,none⟩) zs.length cap ∧ ∀ j,j < zs.length → W.cell? ⟨b,off + j,none⟩ = some (.int .i64 (zs[j]?.getD 0))

theorem back_stops {A:Type} (item:Nat → A) (encs:A → Array Value) (F:Fence) (n:Nat) (h8:F.fn 89) (hro:F.round = none) (hn:1 ≤ n) (Bs ob b:Nat) (sv:Value) (zs:List Int) (hreach:zs.length * 8 ≤ 140737488351232)
  (henc:∀ k,k < zs.length → encs (item k) = #[.int .i64 ((zs.length - 1 - k:Nat):Int),.int .i64 (zs[zs.length - 1 - k]?.getD 0)]) (w:World) (hBs:Bs < w.heap.size) (hb:b < w.heap.size)
  (hc:w.cell? ⟨Bs,ob,none⟩ = some sv) (hI:SeesInts w b sv zs) :
  SeqStopsK F n Tryz.prog 89 #[.pointer (some ⟨Bs,ob,none⟩)] encs (Keep2 Bs b) (fun ys=>ys = upTo item zs.length)
   (fun pre=>∃ k,k ≤ zs.length ∧ pre = upTo item k) zs.length w:=fun l J Jx W hW _ _ hY h0=>by
 have hc':=(hW.cell (p:=⟨Bs,ob,none⟩) hBs).trans hc
 rcases hI with ⟨q,c,rfl,rfl⟩ | ⟨off,cap,rfl,hcs⟩
 ·exact (back1_nil_in F n h8 hro l Bs ob q c J W hc' h0).mono fun e W' ⟨he,hj⟩=>⟨he,.inl ⟨_,rfl,hj⟩⟩
 ·exact back1_in item encs F n h8 hro hn l Bs ob b off cap zs hreach henc J Jx hY W hc' (fun j hj=>(hW.cell (p:=⟨b,off + j,none⟩) hb).trans (hcs j hj)) h0

theorem f52_ok (ks:List Int):ACall Tryz.prog 52 [.tv (fzL 1 (cInt .i64) ks)] [] (.fn 89 [.rp [fzL 1 (cInt .i64) ks]]) []:=by
 refine ACall.of1 (FF 4 0) Tryz.func52 rfl Tryz.ntmps52 Tryz.results52 (Nat.le_of_ble_eq_true rfl) rfl rfl ?_
 refine AWp.seq ?_
 refine AWp.start [0,1] [] [] [1] 1 ⟨[(1,.pc 0 0)],[.cells 28 [fzL 1 (cInt .i64) ks]]⟩ rfl ?_ (Nat.zero_le _) trivial ?_
 ·kernel_rfl
 refine AOps.nil ?_
 refine AWp.seq ?_
 refine AWp.pin 0 rfl rfl ?_
 refine AWp.keepTo [1] 0 ⟨[(1,.rp [fzL 1 (cInt .i64) ks])],[]⟩ ?_ (Nat.zero_le _) ?_
 ·kernel_rfl
 refine AWp.start [0,1] [] [] [2] 0 ⟨[(2,.fn 89 [.rp [fzL 1 (cInt .i64) ks]])],[]⟩ rfl ?_ (Nat.zero_le _) trivial ?_
 ·kernel_rfl
 refine AOps.nil ?_
 refine AWp.ret ?_
 exact ⟨.inr rfl,rfl⟩

/-- The state in the loop, with the round's place. -/
abbrev st53i (v1:List T80) (out:List T86) (i:Int):AState:=⟨[(2,.rp [fzL 6 c80 v1]),(5,.pc 0 0),(7,.tv (.int .i64 i))],[.cells 48 [ownL 3 87 c86 out]]⟩

theorem ints_of {P:Nat → Prop} {w:World} {v:Value} {zs:List Int} (h:FRel P w v (fzL 1 (cInt .i64) zs)) (Bs:Nat) (hBs:P Bs):∃ b,P b ∧ SeesInts w b v zs:=by
 generalize hx:fzL 1 (cInt .i64) zs = x at h
 cases h with
 | nil A c z f =>
  unfold fzL at hx
  injection hx with _ h2 _
  exact ⟨Bs,hBs,.inl ⟨A,c,rfl,List.length_eq_zero_iff.1 h2⟩⟩
 | row b off cap z n f cs hb hl hm hz hc hr =>
  unfold fzL at hx
  injection hx with h1 h2 h3
  subst h1 h2 h3
  refine ⟨b,hb,.inr ⟨off,cap,rfl,fun j hj=>?_⟩⟩
  have e1:=hc j 0 _ hj rfl
  have e2:=hr j 0 _ hj rfl
  simp only [Nat.mul_one,Nat.add_zero] at e1
  rw [e1]
  generalize hv:cs j 0 = v at e2
  have e3:zs[j]?.getD 0 = zs.getD j default:=rfl
  rw [e3]
  cases e2
  rfl
 | _=>unfold fzL at hx; cases hx

theorem beq_ne {a k:Nat} (h:k ≠ a):Nat.beq a k = false:=by
 cases hb:Nat.beq a k with
 | false=>rfl
 | true=>exact absurd (Nat.eq_of_beq_eq_true hb).symm h

theorem get53 {p q:SV} {h:List AObj} {k:Nat} (h2:k ≠ 2) (h5:k ≠ 5):(⟨[(2,p),(5,q)],h⟩:AState).get k = .junk:=by
 simp only [AState.get,lookS,beq_ne h2,beq_ne h5]

theorem plain35 (x:T86):(c86 x).all TV.plain = true:=rfl

theorem noMp53 {v1:List T80} {out:List AObj} (k:Nat):((⟨[(2,.rp [fzL 6 c80 v1]),(5,.pc 0 0)],out⟩:AState).get k).noMp:=by
 by_cases h2:k = 2
 ·subst h2; trivial
 by_cases h5:k = 5
 ·subst h5; trivial
 rw [get53 h2 h5]; trivial

theorem noPe53 {v1:List T80} {out:List AObj} (k:Nat) (p:Path) (i:Nat) (j:Nat) (z:Nat):(⟨[(2,.rp [fzL 6 c80 v1]),(5,.pc 0 0)],out⟩:AState).get k ≠ .pe p i j z:=by
 by_cases h2:k = 2
 ·subst h2; exact fun h=>by cases h
 by_cases h5:k = 5
 ·subst h5; exact fun h=>by cases h
 rw [get53 h2 h5]; exact fun h=>by cases h

theorem noMpH {env:List (Nat × SV)} {l:List T86} (o:Nat) (t:TypeId) (cs:List TV) (h:(⟨env,[.cells 48 [ownL 3 87 c86 l]]⟩:AState).heap[o]? = some (.cells t cs)):∀ y ∈ cs,NoMp y:=by
 cases o with
 | zero =>
  cases h
  intro y hy
  rw [List.mem_singleton] at hy
  subst hy
  exact .ownL plain35
 | succ o=>cases h

theorem noMp4 {l:List T86} {out:List AObj} (k:Nat):((⟨[(4,.tv (ownL 3 87 c86 l))],out⟩:AState).get k).noMp:=by
 by_cases h4:k = 4
 ·subst h4; exact NoMp.ownL plain35
 ·have:(⟨[(4,.tv (ownL 3 87 c86 l))],out⟩:AState).get k = .junk:=by simp only [AState.get,lookS,beq_ne h4]
  rw [this]; trivial

theorem noMpH4 {env:List (Nat × SV)} (o:Nat) (t:TypeId) (cs:List TV) (h:(⟨env,[.cells 48 [.hole]]⟩:AState).heap[o]? = some (.cells t cs)):∀ y ∈ cs,NoMp y:=by
 cases o with
 | zero =>
  cases h
  intro y hy
  rw [List.mem_singleton] at hy
  subst hy
  exact .hole
 | succ o=>cases h

theorem flat_len (v1:List T80) (v3:List Int) (hne:v3 ≠ []):∀ l:List { x:Int × Int // v3 ≠ [] → 0 ≤ x.2 ∧ x.2 < (v1.length:Int) ∧ (v1.getD x.2.toNat default).f3.length ≤ 1000 },(l.flatMap fun x=>(v1.getD x.1.2.toNat default).f3).length ≤ 1000 * l.length
 | []=>by simp
 | x :: l=>by
  have h:=flat_len v1 v3 hne l
  have h1:(v1.getD x.1.2.toNat default).f3.length ≤ 1000:=(x.2 hne).2.2
  simp only [List.flatMap_cons,List.length_append,List.length_cons]
  omega

theorem back_flat (v1:List T80) (v3:List Int) {p:Int × Int → Prop} (item:Nat → { x:Int × Int // p x }) (hi:∀ k,(item k).1.2 = v3[v3.length - 1 - k]?.getD 0) :
  ((upTo item v3.length).flatMap fun x=>(v1.getD x.1.2.toNat default).f3) = v3.reverse.flatMap fun k=>(v1.getD k.toNat default).f3:=by
 have h:(upTo item v3.length).map (fun x=>x.1.2) = v3.reverse:=by
  apply List.ext_getElem
  ·simp [upTo]
  ·intro k h1 h2
   have hk:k < v3.length:=by simpa [upTo] using h1
   have h3:v3.length - 1 - k < v3.length:=by omega
   simp only [upTo,List.getElem_map,List.getElem_range,hi,List.getElem_reverse,List.getElem?_eq_getElem h3,Option.getD_some]
 rw [← h,List.flatMap_map]

set_option maxRecDepth 100000 in
theorem walk53 (v1:List T80) (v2:Int) (v3:List Int) (h3:f25 v1 v2 = some v3) (hk:∀ k ∈ v3,0 ≤ k ∧ k < (v1.length:Int)) (hf:∀ k ∈ v3,(v1.getD k.toNat default).f3.length ≤ 1000) (hl:v3.length ≤ 1000000) (g:Gh) (w:World) (vs:Array Value) (he:Ent g w vs [.tv (fzL 6 c80 v1),.tv (.int .i64 v2)] []):CallsIn Fence.wide 3 Tryz.prog 28 vs w fun e w'=>∃ v g',e = .returned v ∧ Ext g w g' w' v (.tv (ownL 3 87 c86 (v3.reverse.flatMap fun k=>(v1.getD k.toNat default).f3))) 0 []:=by
 refine callsIn_of_wp_marks (n:=3) Tryz.func28 rfl trivial ?_ rfl
 have hs:=he.sat (F:=FF 22 0) (Nat.le_of_ble_eq_true rfl) rfl
 refine pre_in (F:=FF 22 0) (w0:=w) (g0:=g) (J:=fun σ=>σ = ⟨[(1,.tv (.int .i64 v2)),(2,.pc 0 0)],[.cells 40 [fzL 6 c80 v1]]⟩) ?_ hs ?_
 ·refine AWp.start [0,1] [] [] [1,2] 1 ⟨[(1,.tv (.int .i64 v2)),(2,.pc 0 0)],[.cells 40 [fzL 6 c80 v1]]⟩ rfl ?_ (Nat.zero_le _) trivial ?_
  ·kernel_rfl
  exact AOps.nil ⟨rfl,rfl⟩
 rintro _ g1 a1 w1 rfl hs1
 refine pre_in (F:=FF 22 0) (w0:=w) (g0:=g) (J:=fun σ=>σ = ⟨[(1,.tv (.int .i64 v2)),(2,.rp [fzL 6 c80 v1]),(5,.pc 0 0)],[.cells 48 [ownL 3 87 c86 []]]⟩) ?_ hs1 ?_
 ·refine AWp.pin 0 rfl rfl ?_
  refine AWp.keepTo [1,2] 0 ⟨[(1,.tv (.int .i64 v2)),(2,.rp [fzL 6 c80 v1])],[]⟩ ?_ (Nat.zero_le _) ?_
  ·kernel_rfl
  refine AWp.start [0] [] [] [1,2,5] 1 ⟨[(1,.tv (.int .i64 v2)),(2,.rp [fzL 6 c80 v1]),(5,.pc 0 0)],[.cells 48 [.sc (.slice none 0 0)]]⟩ rfl ?_ (Nat.zero_le _) trivial ?_
  ·kernel_rfl
  refine AOps.retell 0 0 rfl (Retell.nilOwn 3 87 (fun i=>c86 (([]:List T86).getD i default))) ?_
  exact AOps.nil ⟨rfl,rfl⟩
 rintro _ g2 a2 w2 rfl hs2
 refine wpIn_seq ?_
 refine pre_in (F:=FF 22 0) (w0:=w) (g0:=g) (J:=fun σ=>σ = ⟨[(2,.rp [fzL 6 c80 v1]),(5,.pc 0 0),(11,.fn 89 [.rp [fzL 1 (cInt .i64) v3]])],[.cells 48 [ownL 3 87 c86 []]]⟩) ?_ hs2 ?_
 ·refine AWp.start [0,1] [2,3] [] [2,5,8,9] 1 ⟨[(2,.rp [fzL 6 c80 v1]),(5,.pc 0 0),(8,.tv (fzL 6 c80 v1)),(9,.tv (.int .i64 v2))],[.cells 48 [ownL 3 87 c86 []]]⟩ rfl ?_ (Nat.zero_le _) trivial ?_
  ·kernel_rfl
  refine AOps.cons (AOne.callP (F:=(FF 22 0)) _ rfl rfl rfl _ rfl rfl _ _ rfl Tryz.call25 [.tv (fzL 6 c80 v1),.tv (.int .i64 v2)] rfl rfl (f25_ok v1 v2 h3) rfl) ?_
  refine AOps.freezeL 10 (cInt .i64) v3 rfl (fun _=>rfl) ?_
  refine AOps.keepTo [2,5,10] 1 ⟨[(2,.rp [fzL 6 c80 v1]),(5,.pc 0 0),(10,.tv (fzL 1 (cInt .i64) v3))],[.cells 48 [ownL 3 87 c86 []]]⟩ ?_ (Nat.zero_le _) ?_
  ·kernel_rfl
  refine AOps.cons (AOne.callP (F:=(FF 22 0)) _ rfl rfl rfl _ rfl rfl _ _ rfl Tryz.call52 [.tv (fzL 1 (cInt .i64) v3)] rfl rfl (f52_ok v3) rfl) ?_
  refine AOps.keepTo [2,5,11] 1 ⟨[(2,.rp [fzL 6 c80 v1]),(5,.pc 0 0),(11,.fn 89 [.rp [fzL 1 (cInt .i64) v3]])],[.cells 48 [ownL 3 87 c86 []]]⟩ ?_ (Nat.zero_le _) ?_
  ·kernel_rfl
  refine AOps.nil ?_
  exact ⟨rfl,rfl⟩
 rintro _ g3 a w3 rfl hs3
 have hd3:a.defers = []:=hs3.defers
 have hsz3:a.tmps.size = 22:=hs3.size
 obtain ⟨us,hfn,hus,hcap⟩:∃ us,a.tmps.getD 11 undef = .func (.func 89) #[] us ∧ us.size = 1 ∧ ∀ (j:Nat) sv,[SV.rp [fzL 1 (cInt .i64) v3]][j]? = some sv → ∃ u,us[j]? = some u ∧ S1 g3 w3 ⟨[(2,.rp [fzL 6 c80 v1]),(5,.pc 0 0),(11,.fn 89 [.rp [fzL 1 (cInt .i64) v3]])],[.cells 48 [ownL 3 87 c86 []]]⟩ 11 j u sv:=hs3.env 11
 obtain ⟨u,hu,Bs,ob,rfl,hBs,hcs⟩:=hcap 0 _ rfl
 obtain ⟨sv,hsv,hfr⟩:=hcs 0 _ rfl
 simp only [Nat.add_zero] at hsv
 obtain ⟨b,hb,hsee⟩:=ints_of hfr Bs hBs
 have hfun:a.tmps.getD 11 undef = .func (.func 89) #[] #[.pointer (some ⟨Bs,ob,none⟩)]:=by
  rw [hfn]
  congr 1
  apply Array.ext
  ·simp [hus]
  ·intro i h1 h2
   obtain rfl:i = 0:=by simp at h2; exact h2
   obtain ⟨h3,h4⟩:=Array.getElem?_eq_some_iff.1 hu
   exact h4
 have hs4:=hs3.rebaseTo (FF 22 1) rfl (Nat.le_refl _)
 have hPl:∀ q,g3.P q → g3.ow q = none ∧ q < w3.heap.size:=hs3.frozen
 have hmem:∀ k,v3 ≠ [] → 0 ≤ v3[v3.length - 1 - k]?.getD 0 ∧ v3[v3.length - 1 - k]?.getD 0 < (v1.length:Int) ∧ (v1.getD (v3[v3.length - 1 - k]?.getD 0).toNat default).f3.length ≤ 1000:=fun k hne=>by
  have h0:=List.length_pos_iff.2 hne
  have hlt:v3.length - 1 - k < v3.length:=by omega
  rw [List.getElem?_eq_getElem hlt,Option.getD_some]
  exact ⟨(hk _ (List.getElem_mem hlt)).1,(hk _ (List.getElem_mem hlt)).2,hf _ (List.getElem_mem hlt)⟩
 let item:Nat → { x:Int × Int // v3 ≠ [] → 0 ≤ x.2 ∧ x.2 < (v1.length:Int) ∧ (v1.getD x.2.toNat default).f3.length ≤ 1000 }:=fun k=>⟨(((v3.length - 1 - k:Nat):Int),v3[v3.length - 1 - k]?.getD 0),hmem k⟩
 let outOf:List { x:Int × Int // v3 ≠ [] → 0 ≤ x.2 ∧ x.2 < (v1.length:Int) ∧ (v1.getD x.2.toNat default).f3.length ≤ 1000 } → List T86:=fun l=>l.flatMap fun x=>(v1.getD x.1.2.toNat default).f3
 refine wpIn_block ?_
 refine wpIn_rangeFunc_ownG (α:={ x:Int × Int // v3 ≠ [] → 0 ≤ x.2 ∧ x.2 < (v1.length:Int) ∧ (v1.getD x.2.toNat default).f3.length ≤ 1000 }) rfl (by decide) (gf:=89) (lb:=#[.pointer (some ⟨Bs,ob,none⟩)]) (show a.eval (.tmp 11) = _ from hfun) trivial (enters_of Tryz.func89 (by kernel_rfl) rfl)
  (back_stops item (fun x=>#[.int .i64 x.1.1,.int .i64 x.1.2]) Fence.wide 2 trivial rfl (by decide) Bs ob b sv v3 (by omega) ?henc w3 (hPl _ hBs).2 (hPl _ hb).2 hsv hsee) ?hKt ?hKb (Below.refl _ _) (fun _=>rfl)
  (fun pre W=>∃ g',Sat ((FF 22 1).ctx w3 g3) g' ⟨[(2,.rp [fzL 6 c80 v1]),(5,.pc 0 0)],[.cells 48 [ownL 3 87 c86 (outOf pre)]]⟩ a W)
  (fun _ _ _=>False) ?hI (fun _ _ _ _ _ hs _ _=>hs) ?h0
  (fun x=>{ tmps:=(((a.tmps.setIfInBounds 12 (.int .i64 x.1.1)).setIfInBounds 13 (.int .i64 x.1.2)).setIfInBounds 7 (.int .i64 x.1.2)),defers:=[] }) ?assign ?body ?done ?stop
 case henc =>
  intro k _
  rfl
 case hKt=>exact fun h1 h2=>⟨h2.1.trans h1.1,h2.2.trans h1.2⟩
 case hKb =>
  intro W l o o' hl _ _ _
  have e1:=(hPl _ hBs).2
  have e2:=(hPl _ hb).2
  exact ⟨World.putObj_heap_other (by omega),World.putObj_heap_other (by omega)⟩
 case hI =>
  rintro pre A B row ⟨g',h⟩ hg hr
  refine ⟨g',h.keptCells (grown_cells hg hr) hg.size (fun q hq=>hg.block q (Nat.lt_of_lt_of_le hq h.mono) fun e=>?_) hg.os hg.tape hg.output noMp53 noMpH⟩
  have:=(hr q e.symm).1
  have hq':q < w3.heap.size:=hq
  omega
 case h0 =>
  have:=hs4.keep [2,5] 1 (Nat.le_refl _) (Nat.le_refl _)
  exact ⟨_,this⟩
 case assign =>
  rintro l ⟨⟨i0,i⟩,hi'⟩ W K hK
  have ht:Array.foldl (fun t (x:Tmp × Value)=>t.setIfInBounds x.1 x.2) a.tmps (#[12,13].zip #[Value.int IntKind.i64 i0,Value.int IntKind.i64 i]) = (a.tmps.setIfInBounds 12 (.int .i64 i0)).setIfInBounds 13 (.int .i64 i):=by simp
  have hv:((a.tmps.setIfInBounds 12 (.int .i64 i0)).setIfInBounds 13 (.int .i64 i)).getD 13 undef = .int .i64 i:=by
   simp [Array.getD_eq_getD_getElem?,hsz3]
  have hK':K (Act.put { tmps:=(a.tmps.setIfInBounds 12 (.int .i64 i0)).setIfInBounds 13 (.int .i64 i),defers:=[] } (some 7) (.int .i64 i)) W:=hK
  show Code.wpIn _ _ _ _ _ { tmps:=Array.foldl (fun t (x:Tmp × Value)=>t.setIfInBounds x.1 x.2) a.tmps (#[12,13].zip #[Value.int IntKind.i64 i0,Value.int IntKind.i64 i]),defers:=[] } W
  rw [ht]
  refine wpIn_mono (wpIn_region (F:=wideR (some l)) (wpOps_in (Q:=fun e a w=>e = .normal ∧ K a w) (by kernel_rfl) (fun hl=>?_) (some l) [] _ [0] { tmps:=(a.tmps.setIfInBounds 12 (.int .i64 i0)).setIfInBounds 13 (.int .i64 i),defers:=[] } W ?_)) ?_
  ·obtain ⟨_,_,h,_⟩:=hl
   cases h
  ·simp only [wpOps,List.getElem?_toArray,List.getElem?_cons_zero]
   split
   case isFalse h=>exact absurd rfl h
   refine .inl ?_
   show True ∧ K (Act.put { tmps:=(a.tmps.setIfInBounds 12 (.int .i64 i0)).setIfInBounds 13 (.int .i64 i),defers:=[] } (some 7) (((a.tmps.setIfInBounds 12 (.int .i64 i0)).setIfInBounds 13 (.int .i64 i)).getD 13 undef)) W
   rw [hv]
   exact ⟨trivial,hK'⟩
  ·rintro e a' W' ⟨a0,rfl,rfl,h⟩
   simpa [Act.plusD,Exit.then] using h
 case body =>
  rintro l pre ⟨⟨i0,i⟩,hi'⟩ W ⟨g',hW⟩ hlen
  have hne:v3 ≠ []:=List.length_pos_iff.1 (Nat.lt_of_le_of_lt (Nat.zero_le _) hlen)
  have hi:0 ≤ i ∧ i < (v1.length:Int) ∧ (v1.getD i.toNat default).f3.length ≤ 1000:=hi' hne
  have hW1:=hW.tidy (fun k=>⟨noMp53 k,noPe53 k⟩) noMpH
  have hW2:=hW1.tmps ((a.tmps.setIfInBounds 12 (.int .i64 i0)).setIfInBounds 13 (.int .i64 i)) (by simp [hsz3]; rfl) (fun k=>by
   by_cases h2:k = 2
   ·subst h2; exact .inr (by simp [Array.getD_eq_getD_getElem?])
   by_cases h5:k = 5
   ·subst h5; exact .inr (by simp [Array.getD_eq_getD_getElem?])
   exact .inl (get53 h2 h5))
  have hW3:=hW2.put (d:=7) (Nat.le_of_ble_eq_true rfl) (v:=.int .i64 i) (sv:=.tv (.int .i64 i)) rfl rfl (k:=7) (TRel.fr (.int _ _))
  have hcells:∀ q o,W.heap[q]? = some o → o.isCells = false → ((g'.tidy W).clr (under 7)).ow q = none:=fun q o ho hc=>by
   cases hq:((g'.tidy W).clr (under 7)).ow q with
   | none=>rfl
   | some p =>
    obtain ⟨_,o',ho',hc'⟩:=tidy_some (clr_some.1 hq).1
    rw [ho] at ho'; cases ho'; rw [hc] at hc'; cases hc'
  refine wpIn_block ?_
  refine wpIn_mono (draw_in (F:=FF 22 1) FFm (by kernel_rfl) (fun σ=>σ = ⟨[(2,.rp [fzL 6 c80 v1]),(5,.pc 0 0)],[.cells 48 [ownL 3 87 c86 (outOf pre ++ (v1.getD i.toNat default).f3)]]⟩) rfl rfl ?_ (some l) [] 1 hW3.rebase) ?_
  ·refine AAny.keepTo [2,5,7] 1 (st53i v1 (outOf pre) i) _ ?_ rfl (Nat.le_refl _) ?_
   ·kernel_rfl
   have hg1:(0:Int) ≤ i:=hi.1
   have hg2:i < (v1.length:Int):=hi.2.1
   refine AAny.go (by kernel_rfl) [1,2,3,4,5] (fuel':=3) rfl [(0:Int) ≤ i,i < (v1.length:Int)] #[false,true,true,true,true,true,false,false] [2,5,19] 1 ⟨[(2,.rp [fzL 6 c80 v1]),(5,.pc 0 0),(19,.tv (fzL 3 c86 ((v1.getD i.toNat default).f3)))],[.cells 48 [ownL 3 87 c86 (outOf pre)]]⟩ ?_ (Nat.le_refl _) ⟨hg1,hg2⟩ ?_
   ·kernel_rfl
   refine AAny.step (i:=0) (fuel':=2) rfl (by kernel_rfl) [] #[true,true,true,true,true,true,false,false] rfl [2,5,14,19] 1 ⟨[(2,.rp [fzL 6 c80 v1]),(5,.pc 0 0),(14,.al (.cell 0 0,[])),(19,.tv (fzL 3 c86 ((v1.getD i.toNat default).f3)))],[.cells 48 [ownL 3 87 c86 (outOf pre)]]⟩ ?_ (Nat.le_refl _) trivial ?_
   ·kernel_rfl
   have hb1:=flat_len v1 v3 hne pre
   have hb2:(v1.getD i.toNat default).f3.length ≤ 1000:=hi.2.2
   have hbd:((outOf pre).length + ((v1.getD i.toNat default).f3).length) * 40 ≤ 140737488355328:=by
    have:(outOf pre).length ≤ 1000 * pre.length:=hb1
    omega
   refine AAny.step (i:=6) (fuel':=1) rfl (by kernel_rfl) [((outOf pre).length + ((v1.getD i.toNat default).f3).length) * 40 ≤ 140737488355328,PlainTo (outOf pre).length (fun i=>c86 ((outOf pre).getD i default)),PlainTo (((v1.getD i.toNat default).f3).length) (fun j=>c86 (((v1.getD i.toNat default).f3).getD j default))] #[true,true,true,true,true,true,true,false] rfl [2,5,20] 1 ⟨[(2,.rp [fzL 6 c80 v1]),(5,.pc 0 0),(20,.tv (.own 3 87 ((outOf pre).length + ((v1.getD i.toNat default).f3).length) (appF (outOf pre).length (fun i=>c86 ((outOf pre).getD i default)) (fun j=>c86 (((v1.getD i.toNat default).f3).getD j default)))))],[.cells 48 [.hole]]⟩ ?_ (Nat.le_refl _) ⟨hbd,(fun _ _=>rfl),(fun _ _=>rfl)⟩ ?_
   ·kernel_rfl
   refine AAny.extL 20 c86 (outOf pre ++ (v1.getD i.toNat default).f3) rfl List.length_append.symm (app_at c86 (outOf pre) ((v1.getD i.toNat default).f3)) ?_
   refine AAny.serial (i:=7) (fuel:=0) (by kernel_rfl) (AOne.own (F:=(FF 22 1)) _ rfl rfl rfl rfl) ?_
   refine AAny.keepTo [2,5] 1 ⟨[(2,.rp [fzL 6 c80 v1]),(5,.pc 0 0)],[.cells 48 [ownL 3 87 c86 (outOf pre ++ (v1.getD i.toNat default).f3)]]⟩ #[true,true,true,true,true,true,true,true] ?_ rfl (Nat.le_refl _) (AAny.done (by kernel_rfl) rfl)
   kernel_rfl
  ·rintro e a' W' ⟨a0,rfl,σ',gg,⟨rfl,rfl⟩,hW4⟩
   have hst:∀ q,g3.P q → W'.heap[q]? = W.heap[q]?:=fun q hq=>by
    have h1:=hW3.frozen q (hW3.P1 q hq)
    exact hW4.kept q h1.2 h1.1
   refine ⟨⟨hW4.mono,fun k o _ ho hc=>(hW4.kept k (Array.getElem?_eq_some_iff.1 ho).1 (hcells k o ho hc)).trans ho⟩,⟨hst _ hBs,hst _ hb⟩,gg,?_⟩
   have e1:outOf (pre ++ [⟨(i0,i),hi'⟩]) = outOf pre ++ (v1.getD i.toNat default).f3:=by simp [outOf]
   rw [e1]
   refine hs4.actOf (hW3.trans hW4) fun k=>?_
   by_cases h2:k = 2
   ·subst h2; exact .inr ⟨rfl,.inl ⟨_,rfl⟩⟩
   by_cases h5:k = 5
   ·subst h5; exact .inr ⟨rfl,.inr ⟨0,0,rfl,Nat.zero_lt_one⟩⟩
   exact .inl (get53 h2 h5)
 case done =>
  rintro D xs W hD rfl ⟨g',hW⟩ hK
  have hW1:=hW.tidy (fun k=>⟨noMp53 k,noPe53 k⟩) noMpH
  have e0:({ a with defers:={ target:=.collected D,args:=#[] } :: a.defers }:Act) = Act.plusD a [{ target:=.collected D,args:=#[] }]:=by
   simp [Act.plusD,hd3]
  rw [e0]
  show Code.wpIn _ _ _ _ _ _ _
  have hr:outOf (upTo item v3.length) = v3.reverse.flatMap fun k=>(v1.getD k.toNat default).f3:=back_flat v1 v3 item (fun _=>rfl)
  rw [hr] at hW1
  refine wpIn_seq (wpIn_mono (region_in (F:=FF 22 1) (by kernel_rfl) (fun σ=>σ = ⟨[(4,.tv (ownL 3 87 c86 (v3.reverse.flatMap fun k=>(v1.getD k.toNat default).f3)))],[.cells 48 [.hole]]⟩) ?_ none [{ target:=.collected D,args:=#[] }] 3 hW1.rebase) ?_)
  ·refine AOps.go [0,1] [] [] [4] 1 ⟨[(4,.al (.cell 0 0,[]))],[.cells 48 [ownL 3 87 c86 (v3.reverse.flatMap fun k=>(v1.getD k.toNat default).f3)]]⟩ ?_ (Nat.le_refl _) trivial ?_
   ·kernel_rfl
   refine AOps.claim 4 (.cell 0 0) (ownL 3 87 c86 (v3.reverse.flatMap fun k=>(v1.getD k.toNat default).f3)) rfl rfl rfl rfl ?_
   refine AOps.keepTo [4] 1 ⟨[(4,.tv (ownL 3 87 c86 (v3.reverse.flatMap fun k=>(v1.getD k.toNat default).f3)))],[.cells 48 [.hole]]⟩ ?_ (Nat.le_refl _) ?_
   ·kernel_rfl
   exact AOps.nil ⟨rfl,rfl⟩
  ·rintro e a' W' ⟨a0,rfl,σ',gg,⟨rfl,rfl⟩,hW4⟩
   have hdef:(Act.plusD a0 [{ target:=.collected D,args:=#[] }]) = { tmps:=a0.tmps,defers:=[{ target:=.collected D,args:=#[] }] }:=by
    have:a0.defers = []:=hW4.defers
    simp [Act.plusD,this]
   have hKD:W'.heap[D]? = some (.deferred (some [])):=by
    refine (hW4.kept D (Array.getElem?_eq_some_iff.1 hK).1 ?_).trans hK
    cases hq:(g'.tidy W).ow D with
    | none=>exact hq
    | some p =>
     obtain ⟨_,o',ho',hc'⟩:=tidy_some hq
     rw [hK] at ho'; cases ho'; cases hc'
   rw [hdef]
   -- the whole walk's end
   have hfin:Sat ((FF 22 0).ctx w g) gg ⟨[(4,.tv (ownL 3 87 c86 (v3.reverse.flatMap fun k=>(v1.getD k.toNat default).f3)))],[.cells 48 [.hole]]⟩ a0 W':=hs3.trans ((hW1.trans hW4).less0 (FF 22 0) rfl (Nat.zero_le _))
   have hfin2:=hfin.keptCells (w':=W'.putObj D (.deferred none)) (fun q o ho hc=>(World.putObj_heap_other (fun e=>by subst e; rw [hKD] at ho; cases ho; cases hc)).trans ho) (by simp [World.putObj]) (fun q hq=>World.putObj_heap_other (fun e=>by have:=hs3.mono; have hq':q < w.heap.size:=hq; have hm:w.heap.size ≤ w3.heap.size:=this; omega)) rfl rfl rfl noMp4 noMpH4
   have hfin3:Sat ((FF 22 0).ctx w g) _ ⟨[(4,.tv (ownL 3 87 c86 (v3.reverse.flatMap fun k=>(v1.getD k.toNat default).f3)))],[]⟩ a0 _:=hfin2.keep [4] 0 (Nat.le_refl _) (Nat.zero_le _)
   show Code.wpIn _ _ _ _ _ _ _
   refine wpIn_ret ?_
   refine ⟨by simp,.inl ⟨_,_,rfl,run_takeDeferred hKD,?_⟩⟩
   have hres:(results Tryz.f28 a0.tmps).run Tryz.prog (W'.putObj D (.deferred none)) = .ok (a0.tmps.getD 4 undef) (W'.putObj D (.deferred none)):=by
    unfold results
    rw [Tryz.results28]
    simp
   exact ⟨_,hres,_,_,rfl,hfin3.toExt rfl⟩
 case stop=>exact fun D c pre W _ _ h _=>h.elim
end

theorem f28_ok (v1:List T80) (v2:Int) {r:List T86} (h:f28 v1 v2 = some r):ACall Tryz.prog 28 [.tv (fzL 6 c80 v1),.tv (.int .i64 v2)] [] (.tv (ownL 3 87 c86 r)) []:=by
 obtain ⟨v3,h3,h⟩:=of_bind h
 obtain ⟨⟨h1,h2,h4⟩,h⟩:=of_guard h
 cases h
 exact fun g w vs he=>callsIn_wide.1 (walk53 v1 v2 v3 h3 h1 h2 h4 g w vs he)


noncomputable def f139_b1 (v1:List (List UInt8)) (v2:Int):Option (Int ⊕ Out Bool Unit) :=
 cond (decide (v2 < (v1.length:Int))) (if (0:Int) ≤ v2 ∧ v2 < (v1.length:Int) then if (0:Int) ≤ v2 ∧ v2 ≤ (v1.length:Int) then (f58 ((v1.take v2.toNat).drop 0) (v1.getD v2.toNat default)).bind fun v3=>cond v3 (some (.inr (.ret true))) (some (.inl (w64 (v2 + (1:Int))))) else none else none) (some (.inr (.go ())))

noncomputable def f139 (v1:List (List UInt8)):Option Bool :=
 (iter (fun s=>f139_b1 v1 s) (0:Int)).bind fun y=>match y with | .ret v4=>some v4 | .go _=>some false

theorem f139_ok (v1:List (List UInt8)) {r:Bool} (h:f139 v1 = some r):ACall Tryz.prog 139 [.tv (fzL 1 cStr v1)] [] (.tv (.bool r)) []:=by
 refine ACall.of1 (FF 18 0) Tryz.func139 rfl Tryz.ntmps139 Tryz.results139 (zz rfl) rfl rfl ?_
 refine AWp.seq ?_
 refine AWp.start [0] [] [] [0] 0 ⟨[(0,q4 v1)],[]⟩ rfl ?_ z0 trivial ?_
 ·kernel_rfl
 refine AOps.nil ?_
 refine AWp.seq ?_
 refine AWp.seq ?_
 refine AWp.start [0,1,2] [] [] [0,5,6,7] 0 ⟨[(0,q4 v1),(5,q4 v1),(6,tI (v1.length:Int)),(7,tI (0:Int))],[]⟩ rfl ?_ z0 trivial ?_
 ·kernel_rfl
 refine AOps.nil ?_
 refine AWp.block ?_
 obtain ⟨y,hy,h⟩:=of_bind h
 refine AWp.mono (AWp.loop (S:=Int) (Y:=Out Bool Unit) (fun s=>⟨[(0,q4 v1),(5,q4 v1),(6,tI (v1.length:Int)),(7,tI s)],[]⟩) (fun s=>f139_b1 v1 s) (fun y e σ=>match y with | .ret r=>e = .ret ∧ σ = ⟨[(2,tB r)],[]⟩ | .go v=>e = .exit 0 ∧ σ = ⟨[],[]⟩) ?_ hy) ?_
 ·rintro v2 o h
  refine AWp.seq ?_
  refine AWp.start [0] [] [] [0,5,6,7,8] 0 ⟨[(0,q4 v1),(5,q4 v1),(6,tI (v1.length:Int)),(7,tI v2),(8,tB (decide (v2 < (v1.length:Int))))],[]⟩ rfl ?_ z0 trivial ?_
  ·kernel_rfl
  refine AOps.nil ?_
  refine AWp.seq ?_
  refine AWp.cond rfl (fun hb=>?_) fun hb=>?_
  ·replace h:=of_true h hb
   refine AWp.keepTo [0,5,6,7] 0 ⟨[(0,q4 v1),(5,q4 v1),(6,tI (v1.length:Int)),(7,tI v2)],[]⟩ ?_ z0 ?_
   ·kernel_rfl
   refine AWp.skip ?_
   refine AWp.seq ?_
   refine AWp.block ?_
   refine AWp.seq ?_
   obtain ⟨hg,h⟩:=of_guard h
   refine AWp.start [0,1,2,3,4] [] [(0:Int) ≤ v2,v2 < (v1.length:Int)] [0,3,4,5,6,7] 0 ⟨[(0,q4 v1),(3,tI v2),(4,tS (gD v1 v2)),(5,q4 v1),(6,tI (v1.length:Int)),(7,tI v2)],[]⟩ rfl ?_ z0 ⟨hg.1,hg.2⟩ ?_
   ·kernel_rfl
   refine AOps.nil ?_
   refine AWp.seq ?_
   obtain ⟨hg,h⟩:=of_guard h
   refine AWp.start [0,1,2] [3,4] [(0:Int) ≤ (0:Int),(0:Int) ≤ v2,v2 ≤ (v1.length:Int)] [0,4,5,6,7,14] 0 ⟨[(0,q4 v1),(4,tS (gD v1 v2)),(5,q4 v1),(6,tI (v1.length:Int)),(7,tI v2),(14,.tv (.fz 1 (v2.toNat - 0) (fun i=>cStr (v1.getD (0 + i) default))))],[]⟩ rfl ?_ z0 ⟨(by decide:(0:Int) ≤ (0:Int)),hg.1,hg.2⟩ ?_
   ·kernel_rfl
   have hb:v2.toNat ≤ v1.length:=by have hh:v2 ≤ (v1.length:Int):=hg.2; omega
   refine AOps.extFzL (s:=14) rfl (sub_len v1 0 v2.toNat hb) (sub_at cStr v1 0 v2.toNat hb) ?_
   refine AOps.go [3] [4] [] [0,5,6,7,14,15] 0 ⟨[(0,q4 v1),(5,q4 v1),(6,tI (v1.length:Int)),(7,tI v2),(14,q4 ((v1.take v2.toNat).drop 0)),(15,tS (gD v1 v2))],[]⟩ ?_ z0 trivial ?_
   ·kernel_rfl
   obtain ⟨v3,hv3,h⟩:=of_bind h
   refine AOps.cons (AOne.callP (F:=(FF 18 0)) _ rfl rfl rfl _ rfl rfl _ _ rfl Tryz.call58 [q4 ((v1.take v2.toNat).drop 0),tS (gD v1 v2)] rfl rfl (f58_ok ((v1.take v2.toNat).drop 0) (gD v1 v2) hv3) rfl) ?_
   refine AOps.keepTo [0,5,6,7,16] 0 ⟨[(0,q4 v1),(5,q4 v1),(6,tI (v1.length:Int)),(7,tI v2),(16,tB v3)],[]⟩ ?_ z0 ?_
   ·kernel_rfl
   refine AOps.nil ?_
   refine AWp.cond rfl (fun hb=>?_) fun hb=>?_
   ·replace h:=of_true h hb
    refine AWp.keepTo [] 0 ⟨[],[]⟩ ?_ z0 ?_
    ·kernel_rfl
    refine AWp.seq ?_
    refine AWp.start [0] [] [] [2] 0 ⟨[(2,tB true)],[]⟩ rfl ?_ z0 trivial ?_
    ·kernel_rfl
    refine AOps.nil ?_
    refine AWp.ret ?_
    cases h
    exact Or.inr ⟨_,rfl,by simp,rfl,rfl⟩
   ·replace h:=of_false h hb
    refine AWp.keepTo [0,5,6,7] 0 ⟨[(0,q4 v1),(5,q4 v1),(6,tI (v1.length:Int)),(7,tI v2)],[]⟩ ?_ z0 ?_
    ·kernel_rfl
    refine AWp.skip ?_
    refine AWp.start [0,1] [] [] [0,5,6,7] 0 ⟨[(0,q4 v1),(5,q4 v1),(6,tI (v1.length:Int)),(7,tI (w64 (v2 + (1:Int))))],[]⟩ rfl ?_ z0 trivial ?_
    ·kernel_rfl
    refine AOps.nil ?_
    cases h
    exact Or.inl ⟨_,rfl,rfl,rfl⟩
  ·replace h:=of_false h hb
   refine AWp.keepTo [] 0 ⟨[],[]⟩ ?_ z0 ?_
   ·kernel_rfl
   refine AWp.exit ?_
   cases h
   exact Or.inr ⟨_,rfl,by simp,rfl,rfl⟩
 ·intro e σ hp
  rcases y with v4 | _
  ·obtain ⟨rfl,rfl⟩:=hp
   cases h
   exact ⟨.inr rfl,rfl⟩
  ·obtain ⟨rfl,rfl⟩:=hp
   refine AWp.seq ?_
   refine AWp.start [0] [] [] [2] 0 ⟨[(2,tB false)],[]⟩ rfl ?_ z0 trivial ?_
   ·kernel_rfl
   refine AOps.nil ?_
   refine AWp.ret ?_
   cases h
   exact ⟨.inr rfl,rfl⟩

noncomputable def f113_b1 (v1:List T80) (v2:Int) (v4:List (List UInt8)) (v5:Int):Option (((List (List UInt8)) × Int) ⊕ Out Bool (List (List UInt8))) :=
 cond (decide (v5 < (((v1.getD v2.toNat default).f3).length:Int))) (if (0:Int) ≤ v5 ∧ v5 < (((v1.getD v2.toNat default).f3).length:Int) then if (v4.length + [(((v1.getD v2.toNat default).f3).getD v5.toNat default).f0].length) * 16 ≤ 140737488355328 then some (.inl (v4 ++ [(((v1.getD v2.toNat default).f3).getD v5.toNat default).f0],w64 (v5 + (1:Int)))) else none else none) (some (.inr (.go v4)))

noncomputable def f113_b2 (v1:List T80) (v2:Int) (v8:List (List UInt8)) (v9:Int):Option (((List (List UInt8)) × Int) ⊕ Out Bool (List (List UInt8))) :=
 cond (decide (v9 < (((v1.getD v2.toNat default).f4).length:Int))) (if (0:Int) ≤ v9 ∧ v9 < (((v1.getD v2.toNat default).f4).length:Int) then if (v8.length + [(((v1.getD v2.toNat default).f4).getD v9.toNat default).f0].length) * 16 ≤ 140737488355328 then some (.inl (v8 ++ [(((v1.getD v2.toNat default).f4).getD v9.toNat default).f0],w64 (v9 + (1:Int)))) else none else none) (some (.inr (.go v8)))

noncomputable def f113_j3 (v1:List T80) (v2:Int) (v3:List (List UInt8)):Option Bool :=
 (iter (fun s=>f113_b1 v1 v2 s.1 s.2) (v3,(0:Int))).bind fun y=>match y with | .ret v7=>some v7 | .go v6=>(iter (fun s=>f113_b2 v1 v2 s.1 s.2) ([],(0:Int))).bind fun y=>match y with | .ret v11=>some v11 | .go v10=>(if (0:Int) ≤ v2 ∧ v2 ≤ (v1.length:Int) then (f29 ((v1.take v2.toNat).drop 0) ((v1.getD v2.toNat default).f0)).bind fun v13=>cond (decide (v13 ≥ (0:Int))) (some true) ((f139 v6).bind fun v14=>cond v14 (some true) ((f139 v10).bind fun v15=>some v15)) else none).bind fun v12=>some v12

noncomputable def f113_b4 (v17:(List T86)) (v18:List (List UInt8)) (v19:Int):Option (((List (List UInt8)) × Int) ⊕ Out Bool (List (List UInt8))) :=
 cond (decide (v19 < (v17.length:Int))) (if (0:Int) ≤ v19 ∧ v19 < (v17.length:Int) then if (v18.length + [(v17.getD v19.toNat default).f0].length) * 16 ≤ 140737488355328 then some (.inl (v18 ++ [(v17.getD v19.toNat default).f0],w64 (v19 + (1:Int)))) else none else none) (some (.inr (.go v18)))

noncomputable def f113 (v1:List T80) (v2:Int):Option Bool :=
 if (0:Int) ≤ v2 ∧ v2 < (v1.length:Int) then if (0:Int) ≤ v2 ∧ v2 ≤ (v1.length:Int) then (f29 ((v1.take v2.toNat).drop 0) ((v1.getD v2.toNat default).f1)).bind fun v16=>cond (decide (v16 ≥ (0:Int))) ((f28 v1 v16).bind fun v17=>(iter (fun s=>f113_b4 v17 s.1 s.2) ([],(0:Int))).bind fun y=>match y with | .ret v21=>some v21 | .go v20=>f113_j3 v1 v2 v20) (f113_j3 v1 v2 []) else none else none

theorem f113_ok (v1:List T80) (v2:Int) {r:Bool} (h:f113 v1 v2 = some r):ACall Tryz.prog 113 [.tv (fzL 6 c80 v1),.tv (.int .i64 v2)] [] (.tv (.bool r)) []:=by
 refine ACall.of1 (FF 82 0) Tryz.func113 rfl Tryz.ntmps113 Tryz.results113 (zz rfl) rfl rfl ?_
 refine AWp.seq ?_
 refine AWp.start [0] [] [] [0,1] 0 ⟨[(0,q0 v1),(1,tI v2)],[]⟩ rfl ?_ z0 trivial ?_
 ·kernel_rfl
 refine AOps.nil ?_
 refine AWp.seq ?_
 obtain ⟨hg,h⟩:=of_guard h
 refine AWp.start [0,1,2,3,4,5] [] [(0:Int) ≤ v2,v2 < (v1.length:Int)] [0,1,5] 1 ⟨[(0,q0 v1),(1,tI v2),(5,.pc 0 0)],[.cells 81 (c80 (gD v1 v2))]⟩ rfl ?_ z0 ⟨hg.1,hg.2⟩ ?_
 ·kernel_rfl
 refine AOps.nil ?_
 refine AWp.seq ?_
 refine AWp.pin 0 rfl rfl ?_
 refine AWp.keepTo [0,1,5] 0 ⟨[(0,q0 v1),(1,tI v2),(5,.rp (c80 (gD v1 v2)))],[]⟩ ?_ z0 ?_
 ·kernel_rfl
 refine AWp.start [0,1] [] [] [0,1,5,6,7] 0 ⟨[(0,q0 v1),(1,tI v2),(5,.rp (c80 (gD v1 v2))),(6,.tv (.sc (.slice none 0 0))),(7,.tv (.sc (.slice none 0 0)))],[]⟩ rfl ?_ z0 trivial ?_
 ·kernel_rfl
 refine AOps.nil ?_
 refine AWp.join (V:=(List (List UInt8))) (fun w=>⟨[(0,q0 v1),(1,tI v2),(5,.rp (c80 (gD v1 v2))),(6,q7 w),(7,.tv (.sc (.slice none 0 0)))],[]⟩) (fun w=>f113_j3 v1 v2 w = some r) ?_ ?_
 ·refine AWp.seq ?_
  refine AWp.draw FFm _ (n:=7) rfl (ls:=#[n1,n1,n1,n1,n1,n1,n1]) rfl ?_ (fun _ h=>h)
  obtain ⟨hg,h⟩:=of_guard h
  refine AAny.go (by kernel_rfl) [0,1,2] (fuel':=4) rfl [(0:Int) ≤ (0:Int),(0:Int) ≤ v2,v2 ≤ (v1.length:Int)] #[y1,y1,y1,n1,n1,n1,n1] [0,1,5,6,7,21] 0 ⟨[(0,q0 v1),(1,tI v2),(5,.rp (c80 (gD v1 v2))),(6,.tv (.sc (.slice none 0 0))),(7,.tv (.sc (.slice none 0 0))),(21,.tv (.fz 6 (v2.toNat - 0) (fun i=>c80 (v1.getD (0 + i) default))))],[]⟩ ?_ z0 ⟨(by decide:(0:Int) ≤ (0:Int)),hg.1,hg.2⟩ ?_
  ·kernel_rfl
  have hb:v2.toNat ≤ v1.length:=by have hh:v2 ≤ (v1.length:Int):=hg.2; omega
  refine AAny.extFzL (s:=21) rfl (sub_len v1 0 v2.toNat hb) (sub_at c80 v1 0 v2.toNat hb) ?_
  refine AAny.go (by kernel_rfl) [3,4] (fuel':=2) rfl [] #[y1,y1,y1,y1,y1,n1,n1] [0,1,5,6,7,21,23] 0 ⟨[(0,q0 v1),(1,tI v2),(5,.rp (c80 (gD v1 v2))),(6,.tv (.sc (.slice none 0 0))),(7,.tv (.sc (.slice none 0 0))),(21,q0 ((v1.take v2.toNat).drop 0)),(23,tS ((gD v1 v2).f1))],[]⟩ ?_ z0 trivial ?_
  ·kernel_rfl
  obtain ⟨v16,hv16,h⟩:=of_bind h
  refine AAny.serial (i:=5) (fuel:=1) (by kernel_rfl) (AOne.callP (F:=(FF 82 0)) _ rfl rfl rfl _ rfl rfl _ _ rfl Tryz.call29 [q0 ((v1.take v2.toNat).drop 0),tS ((gD v1 v2).f1)] rfl rfl (f29_ok ((v1.take v2.toNat).drop 0) ((gD v1 v2).f1) hv16) rfl) ?_
  refine AAny.keepTo [0,1,5,6,7,24] 0 ⟨[(0,q0 v1),(1,tI v2),(5,.rp (c80 (gD v1 v2))),(6,.tv (.sc (.slice none 0 0))),(7,.tv (.sc (.slice none 0 0))),(24,tI v16)],[]⟩ #[y1,y1,y1,y1,y1,y1,n1] ?_ rfl z0 ?_
  ·kernel_rfl
  refine AAny.go (by kernel_rfl) [6] (fuel':=0) rfl [] #[y1,y1,y1,y1,y1,y1,y1] [0,1,5,6,7,8] 0 ⟨[(0,q0 v1),(1,tI v2),(5,.rp (c80 (gD v1 v2))),(6,.tv (.sc (.slice none 0 0))),(7,.tv (.sc (.slice none 0 0))),(8,tI v16)],[]⟩ ?_ z0 trivial ?_
  ·kernel_rfl
  refine AAny.keepTo [0,1,5,6,7,8] 0 ⟨[(0,q0 v1),(1,tI v2),(5,.rp (c80 (gD v1 v2))),(6,.tv (.sc (.slice none 0 0))),(7,.tv (.sc (.slice none 0 0))),(8,tI v16)],[]⟩ _ ?_ rfl z0 (AAny.done (by kernel_rfl) ?_)
  ·kernel_rfl
  refine AWp.seq ?_
  refine AWp.start [0,1] [] [] [0,1,5,6,7,8,26] 0 ⟨[(0,q0 v1),(1,tI v2),(5,.rp (c80 (gD v1 v2))),(6,.tv (.sc (.slice none 0 0))),(7,.tv (.sc (.slice none 0 0))),(8,tI v16),(26,tB (decide (v16 ≥ (0:Int))))],[]⟩ rfl ?_ z0 trivial ?_
  ·kernel_rfl
  refine AOps.nil ?_
  refine AWp.cond rfl (fun hb=>?_) fun hb=>?_
  ·replace h:=of_true h hb
   refine AWp.keepTo [0,1,5,6,7,8] 0 ⟨[(0,q0 v1),(1,tI v2),(5,.rp (c80 (gD v1 v2))),(6,.tv (.sc (.slice none 0 0))),(7,.tv (.sc (.slice none 0 0))),(8,tI v16)],[]⟩ ?_ z0 ?_
   ·kernel_rfl
   refine AWp.seq ?_
   refine AWp.start [0,1] [2,3,4] [] [0,1,5,6,7,27,28] 0 ⟨[(0,q0 v1),(1,tI v2),(5,.rp (c80 (gD v1 v2))),(6,.tv (.sc (.slice none 0 0))),(7,.tv (.sc (.slice none 0 0))),(27,q0 v1),(28,tI v16)],[]⟩ rfl ?_ z0 trivial ?_
   ·kernel_rfl
   obtain ⟨v17,hv17,h⟩:=of_bind h
   refine AOps.cons (AOne.callP (F:=(FF 82 0)) _ rfl rfl rfl _ rfl rfl _ _ rfl Tryz.call28 [q0 v1,tI v16] rfl rfl (f28_ok v1 v16 hv17) rfl) ?_
   refine AOps.freezeL 29 c86 v17 rfl (fun _=>rfl) ?_
   refine AOps.go [3,4] [] [] [0,1,5,6,7,29,30,31] 0 ⟨[(0,q0 v1),(1,tI v2),(5,.rp (c80 (gD v1 v2))),(6,.tv (.sc (.slice none 0 0))),(7,.tv (.sc (.slice none 0 0))),(29,q1 v17),(30,tI (v17.length:Int)),(31,tI (0:Int))],[]⟩ ?_ z0 trivial ?_
   ·kernel_rfl
   refine AOps.nil ?_
   refine AWp.block ?_
   refine AWp.nilOwn 6 1 9 (fun i=>cStr (([]:List (List UInt8)).getD i default)) rfl ?_
   refine AWp.keepTo [0,1,5,6,7,29,30,31] 0 ⟨[(0,q0 v1),(1,tI v2),(5,.rp (c80 (gD v1 v2))),(6,q7 ([]:List (List UInt8))),(7,.tv (.sc (.slice none 0 0))),(29,q1 v17),(30,tI (v17.length:Int)),(31,tI (0:Int))],[]⟩ ?_ z0 ?_
   ·kernel_rfl
   obtain ⟨y,hy,h⟩:=of_bind h
   refine AWp.mono (AWp.loop (S:=(List (List UInt8)) × Int) (Y:=Out Bool (List (List UInt8))) (fun s=>⟨[(0,q0 v1),(1,tI v2),(5,.rp (c80 (gD v1 v2))),(6,q7 s.1),(7,.tv (.sc (.slice none 0 0))),(29,q1 v17),(30,tI (v17.length:Int)),(31,tI s.2)],[]⟩) (fun s=>f113_b4 v17 s.1 s.2) (fun y e σ=>match y with | .ret r=>e = .ret ∧ σ = ⟨[(4,tB r)],[]⟩ | .go v=>e = .exit 0 ∧ σ = ⟨[(0,q0 v1),(1,tI v2),(5,.rp (c80 (gD v1 v2))),(6,q7 v),(7,.tv (.sc (.slice none 0 0)))],[]⟩) ?_ hy) ?_
   ·rintro ⟨v18,v19⟩ o h
    refine AWp.seq ?_
    refine AWp.start [0] [] [] [0,1,5,6,7,29,30,31,32] 0 ⟨[(0,q0 v1),(1,tI v2),(5,.rp (c80 (gD v1 v2))),(6,q7 v18),(7,.tv (.sc (.slice none 0 0))),(29,q1 v17),(30,tI (v17.length:Int)),(31,tI v19),(32,tB (decide (v19 < (v17.length:Int))))],[]⟩ rfl ?_ z0 trivial ?_
    ·kernel_rfl
    refine AOps.nil ?_
    refine AWp.seq ?_
    refine AWp.cond rfl (fun hb=>?_) fun hb=>?_
    ·replace h:=of_true h hb
     refine AWp.keepTo [0,1,5,6,7,29,30,31] 0 ⟨[(0,q0 v1),(1,tI v2),(5,.rp (c80 (gD v1 v2))),(6,q7 v18),(7,.tv (.sc (.slice none 0 0))),(29,q1 v17),(30,tI (v17.length:Int)),(31,tI v19)],[]⟩ ?_ z0 ?_
     ·kernel_rfl
     refine AWp.skip ?_
     refine AWp.seq ?_
     refine AWp.block ?_
     refine AWp.seq ?_
     obtain ⟨hg,h⟩:=of_guard h
     refine AWp.start [0,1,2,3] [] [(0:Int) ≤ v19,v19 < (v17.length:Int)] [0,1,5,6,7,10,29,30,31] 1 ⟨[(0,q0 v1),(1,tI v2),(5,.rp (c80 (gD v1 v2))),(6,q7 v18),(7,.tv (.sc (.slice none 0 0))),(10,.pc 0 0),(29,q1 v17),(30,tI (v17.length:Int)),(31,tI v19)],[.cells 87 (c86 (gD v17 v19))]⟩ rfl ?_ z0 ⟨hg.1,hg.2⟩ ?_
     ·kernel_rfl
     refine AOps.nil ?_
     refine AWp.pin 0 rfl rfl ?_
     refine AWp.keepTo [0,1,5,6,7,10,29,30,31] 0 ⟨[(0,q0 v1),(1,tI v2),(5,.rp (c80 (gD v1 v2))),(6,q7 v18),(7,.tv (.sc (.slice none 0 0))),(10,.rp (c86 (gD v17 v19))),(29,q1 v17),(30,tI (v17.length:Int)),(31,tI v19)],[]⟩ ?_ z0 ?_
     ·kernel_rfl
     refine AWp.start [0,1,2,3] [4,5] [] [0,1,5,6,7,29,30,31,35,38] 0 ⟨[(0,q0 v1),(1,tI v2),(5,.rp (c80 (gD v1 v2))),(6,q7 v18),(7,.tv (.sc (.slice none 0 0))),(29,q1 v17),(30,tI (v17.length:Int)),(31,tI v19),(35,.al (.slot 6 0,[])),(38,.tv (.own 1 9 1 (newRowF [.str ((gD v17 v19).f0)] 1)))],[]⟩ rfl ?_ z0 trivial ?_
     ·kernel_rfl
     refine AOps.extL 38 cStr [(gD v17 v19).f0] rfl rfl (row_at cStr 1 (fun _=>rfl) [(gD v17 v19).f0] _ rfl) ?_
     obtain ⟨hg,h⟩:=of_guard h
     refine AOps.go [4] [5] [(v18.length + [(gD v17 v19).f0].length) * 16 ≤ 140737488355328,PlainTo v18.length (fun i=>cStr (v18.getD i default)),PlainTo ([(gD v17 v19).f0].length) (fun i=>cStr ([(gD v17 v19).f0].getD i default))] [0,1,5,7,29,30,31,39] 0 ⟨[(0,q0 v1),(1,tI v2),(5,.rp (c80 (gD v1 v2))),(7,.tv (.sc (.slice none 0 0))),(29,q1 v17),(30,tI (v17.length:Int)),(31,tI v19),(39,.tv (.own 1 9 (v18.length + [(gD v17 v19).f0].length) (appF v18.length (fun i=>cStr (v18.getD i default)) (fun i=>cStr ([(gD v17 v19).f0].getD i default)))))],[]⟩ ?_ z0 ⟨hg,(fun _ _=>rfl),(fun _ _=>rfl)⟩ ?_
     ·kernel_rfl
     refine AOps.extL 39 cStr (v18 ++ [(gD v17 v19).f0]) rfl List.length_append.symm (app_at cStr v18 [(gD v17 v19).f0]) ?_
     refine AOps.go [5] [] [] [0,1,5,6,7,29,30,31] 0 ⟨[(0,q0 v1),(1,tI v2),(5,.rp (c80 (gD v1 v2))),(6,q7 (v18 ++ [(gD v17 v19).f0])),(7,.tv (.sc (.slice none 0 0))),(29,q1 v17),(30,tI (v17.length:Int)),(31,tI v19)],[]⟩ ?_ z0 trivial ?_
     ·kernel_rfl
     refine AOps.nil ?_
     refine AWp.start [0,1] [] [] [0,1,5,6,7,29,30,31] 0 ⟨[(0,q0 v1),(1,tI v2),(5,.rp (c80 (gD v1 v2))),(6,q7 (v18 ++ [(gD v17 v19).f0])),(7,.tv (.sc (.slice none 0 0))),(29,q1 v17),(30,tI (v17.length:Int)),(31,tI (w64 (v19 + (1:Int))))],[]⟩ rfl ?_ z0 trivial ?_
     ·kernel_rfl
     refine AOps.nil ?_
     cases h
     exact Or.inl ⟨_,rfl,rfl,rfl⟩
    ·replace h:=of_false h hb
     refine AWp.keepTo [0,1,5,6,7] 0 ⟨[(0,q0 v1),(1,tI v2),(5,.rp (c80 (gD v1 v2))),(6,q7 v18),(7,.tv (.sc (.slice none 0 0)))],[]⟩ ?_ z0 ?_
     ·kernel_rfl
     refine AWp.exit ?_
     cases h
     exact Or.inr ⟨_,rfl,by simp,rfl,rfl⟩
   ·intro e σ hp
    rcases y with v21 | v20
    ·obtain ⟨rfl,rfl⟩:=hp
     cases h
     exact ⟨.inr rfl,rfl⟩
    ·obtain ⟨rfl,rfl⟩:=hp
     exact ⟨v20,h,rfl⟩
  ·replace h:=of_false h hb
   refine AWp.keepTo [0,1,5,6,7] 0 ⟨[(0,q0 v1),(1,tI v2),(5,.rp (c80 (gD v1 v2))),(6,.tv (.sc (.slice none 0 0))),(7,.tv (.sc (.slice none 0 0)))],[]⟩ ?_ z0 ?_
   ·kernel_rfl
   refine AWp.nilOwn 6 1 9 (fun i=>cStr (([]:List (List UInt8)).getD i default)) rfl ?_
   refine AWp.keepTo [0,1,5,6,7] 0 ⟨[(0,q0 v1),(1,tI v2),(5,.rp (c80 (gD v1 v2))),(6,q7 ([]:List (List UInt8))),(7,.tv (.sc (.slice none 0 0)))],[]⟩ ?_ z0 ?_
   ·kernel_rfl
   refine AWp.skip ?_
   exact ⟨[],h,rfl⟩
 ·rintro v3 h
  refine AWp.seq ?_
  refine AWp.seq ?_
  refine AWp.start [0,1,2,3] [] [] [0,1,5,6,7,42,43,44] 0 ⟨[(0,q0 v1),(1,tI v2),(5,.rp (c80 (gD v1 v2))),(6,q7 v3),(7,.tv (.sc (.slice none 0 0))),(42,q1 ((gD v1 v2).f3)),(43,tI (((gD v1 v2).f3).length:Int)),(44,tI (0:Int))],[]⟩ rfl ?_ z0 trivial ?_
  ·kernel_rfl
  refine AOps.nil ?_
  refine AWp.block ?_
  obtain ⟨y,hy,h⟩:=of_bind h
  refine AWp.mono (AWp.loop (S:=(List (List UInt8)) × Int) (Y:=Out Bool (List (List UInt8))) (fun s=>⟨[(0,q0 v1),(1,tI v2),(5,.rp (c80 (gD v1 v2))),(6,q7 s.1),(7,.tv (.sc (.slice none 0 0))),(42,q1 ((gD v1 v2).f3)),(43,tI (((gD v1 v2).f3).length:Int)),(44,tI s.2)],[]⟩) (fun s=>f113_b1 v1 v2 s.1 s.2) (fun y e σ=>match y with | .ret r=>e = .ret ∧ σ = ⟨[(4,tB r)],[]⟩ | .go v=>e = .exit 2 ∧ σ = ⟨[(0,q0 v1),(1,tI v2),(5,.rp (c80 (gD v1 v2))),(6,q7 v),(7,.tv (.sc (.slice none 0 0)))],[]⟩) ?_ hy) ?_
  ·rintro ⟨v4,v5⟩ o h
   refine AWp.seq ?_
   refine AWp.start [0] [] [] [0,1,5,6,7,42,43,44,45] 0 ⟨[(0,q0 v1),(1,tI v2),(5,.rp (c80 (gD v1 v2))),(6,q7 v4),(7,.tv (.sc (.slice none 0 0))),(42,q1 ((gD v1 v2).f3)),(43,tI (((gD v1 v2).f3).length:Int)),(44,tI v5),(45,tB (decide (v5 < (((gD v1 v2).f3).length:Int))))],[]⟩ rfl ?_ z0 trivial ?_
   ·kernel_rfl
   refine AOps.nil ?_
   refine AWp.seq ?_
   refine AWp.cond rfl (fun hb=>?_) fun hb=>?_
   ·replace h:=of_true h hb
    refine AWp.keepTo [0,1,5,6,7,42,43,44] 0 ⟨[(0,q0 v1),(1,tI v2),(5,.rp (c80 (gD v1 v2))),(6,q7 v4),(7,.tv (.sc (.slice none 0 0))),(42,q1 ((gD v1 v2).f3)),(43,tI (((gD v1 v2).f3).length:Int)),(44,tI v5)],[]⟩ ?_ z0 ?_
    ·kernel_rfl
    refine AWp.skip ?_
    refine AWp.seq ?_
    refine AWp.block ?_
    refine AWp.seq ?_
    obtain ⟨hg,h⟩:=of_guard h
    refine AWp.start [0,1,2,3] [] [(0:Int) ≤ v5,v5 < (((gD v1 v2).f3).length:Int)] [0,1,5,6,7,12,42,43,44] 1 ⟨[(0,q0 v1),(1,tI v2),(5,.rp (c80 (gD v1 v2))),(6,q7 v4),(7,.tv (.sc (.slice none 0 0))),(12,.pc 0 0),(42,q1 ((gD v1 v2).f3)),(43,tI (((gD v1 v2).f3).length:Int)),(44,tI v5)],[.cells 87 (c86 (gD ((gD v1 v2).f3) v5))]⟩ rfl ?_ z0 ⟨hg.1,hg.2⟩ ?_
    ·kernel_rfl
    refine AOps.nil ?_
    refine AWp.pin 0 rfl rfl ?_
    refine AWp.keepTo [0,1,5,6,7,12,42,43,44] 0 ⟨[(0,q0 v1),(1,tI v2),(5,.rp (c80 (gD v1 v2))),(6,q7 v4),(7,.tv (.sc (.slice none 0 0))),(12,.rp (c86 (gD ((gD v1 v2).f3) v5))),(42,q1 ((gD v1 v2).f3)),(43,tI (((gD v1 v2).f3).length:Int)),(44,tI v5)],[]⟩ ?_ z0 ?_
    ·kernel_rfl
    refine AWp.start [0,1,2,3] [4,5] [] [0,1,5,6,7,42,43,44,48,51] 0 ⟨[(0,q0 v1),(1,tI v2),(5,.rp (c80 (gD v1 v2))),(6,q7 v4),(7,.tv (.sc (.slice none 0 0))),(42,q1 ((gD v1 v2).f3)),(43,tI (((gD v1 v2).f3).length:Int)),(44,tI v5),(48,.al (.slot 6 0,[])),(51,.tv (.own 1 9 1 (newRowF [.str ((gD ((gD v1 v2).f3) v5).f0)] 1)))],[]⟩ rfl ?_ z0 trivial ?_
    ·kernel_rfl
    refine AOps.extL 51 cStr [(gD ((gD v1 v2).f3) v5).f0] rfl rfl (row_at cStr 1 (fun _=>rfl) [(gD ((gD v1 v2).f3) v5).f0] _ rfl) ?_
    obtain ⟨hg,h⟩:=of_guard h
    refine AOps.go [4] [5] [(v4.length + [(gD ((gD v1 v2).f3) v5).f0].length) * 16 ≤ 140737488355328,PlainTo v4.length (fun i=>cStr (v4.getD i default)),PlainTo ([(gD ((gD v1 v2).f3) v5).f0].length) (fun i=>cStr ([(gD ((gD v1 v2).f3) v5).f0].getD i default))] [0,1,5,7,42,43,44,52] 0 ⟨[(0,q0 v1),(1,tI v2),(5,.rp (c80 (gD v1 v2))),(7,.tv (.sc (.slice none 0 0))),(42,q1 ((gD v1 v2).f3)),(43,tI (((gD v1 v2).f3).length:Int)),(44,tI v5),(52,.tv (.own 1 9 (v4.length + [(gD ((gD v1 v2).f3) v5).f0].length) (appF v4.length (fun i=>cStr (v4.getD i default)) (fun i=>cStr ([(gD ((gD v1 v2).f3) v5).f0].getD i default)))))],[]⟩ ?_ z0 ⟨hg,(fun _ _=>rfl),(fun _ _=>rfl)⟩ ?_
    ·kernel_rfl
    refine AOps.extL 52 cStr (v4 ++ [(gD ((gD v1 v2).f3) v5).f0]) rfl List.length_append.symm (app_at cStr v4 [(gD ((gD v1 v2).f3) v5).f0]) ?_
    refine AOps.go [5] [] [] [0,1,5,6,7,42,43,44] 0 ⟨[(0,q0 v1),(1,tI v2),(5,.rp (c80 (gD v1 v2))),(6,q7 (v4 ++ [(gD ((gD v1 v2).f3) v5).f0])),(7,.tv (.sc (.slice none 0 0))),(42,q1 ((gD v1 v2).f3)),(43,tI (((gD v1 v2).f3).length:Int)),(44,tI v5)],[]⟩ ?_ z0 trivial ?_
    ·kernel_rfl
    refine AOps.nil ?_
    refine AWp.start [0,1] [] [] [0,1,5,6,7,42,43,44] 0 ⟨[(0,q0 v1),(1,tI v2),(5,.rp (c80 (gD v1 v2))),(6,q7 (v4 ++ [(gD ((gD v1 v2).f3) v5).f0])),(7,.tv (.sc (.slice none 0 0))),(42,q1 ((gD v1 v2).f3)),(43,tI (((gD v1 v2).f3).length:Int)),(44,tI (w64 (v5 + (1:Int))))],[]⟩ rfl ?_ z0 trivial ?_
    ·kernel_rfl
    refine AOps.nil ?_
    cases h
    exact Or.inl ⟨_,rfl,rfl,rfl⟩
   ·replace h:=of_false h hb
    refine AWp.keepTo [0,1,5,6,7] 0 ⟨[(0,q0 v1),(1,tI v2),(5,.rp (c80 (gD v1 v2))),(6,q7 v4),(7,.tv (.sc (.slice none 0 0)))],[]⟩ ?_ z0 ?_
    ·kernel_rfl
    refine AWp.exit ?_
    cases h
    exact Or.inr ⟨_,rfl,by simp,rfl,rfl⟩
  ·intro e σ hp
   rcases y with v7 | v6
   ·obtain ⟨rfl,rfl⟩:=hp
    cases h
    exact ⟨.inr rfl,rfl⟩
   ·obtain ⟨rfl,rfl⟩:=hp
    refine AWp.seq ?_
    refine AWp.seq ?_
    refine AWp.start [0,1,2,3] [] [] [0,1,5,6,7,55,56,57] 0 ⟨[(0,q0 v1),(1,tI v2),(5,.rp (c80 (gD v1 v2))),(6,q7 v6),(7,.tv (.sc (.slice none 0 0))),(55,.tv (k4 ((gD v1 v2).f4))),(56,tI (((gD v1 v2).f4).length:Int)),(57,tI (0:Int))],[]⟩ rfl ?_ z0 trivial ?_
    ·kernel_rfl
    refine AOps.nil ?_
    refine AWp.block ?_
    refine AWp.nilOwn 7 1 9 (fun i=>cStr (([]:List (List UInt8)).getD i default)) rfl ?_
    refine AWp.keepTo [0,1,5,6,7,55,56,57] 0 ⟨[(0,q0 v1),(1,tI v2),(5,.rp (c80 (gD v1 v2))),(6,q7 v6),(7,q7 ([]:List (List UInt8))),(55,.tv (k4 ((gD v1 v2).f4))),(56,tI (((gD v1 v2).f4).length:Int)),(57,tI (0:Int))],[]⟩ ?_ z0 ?_
    ·kernel_rfl
    obtain ⟨y,hy,h⟩:=of_bind h
    refine AWp.mono (AWp.loop (S:=(List (List UInt8)) × Int) (Y:=Out Bool (List (List UInt8))) (fun s=>⟨[(0,q0 v1),(1,tI v2),(5,.rp (c80 (gD v1 v2))),(6,q7 v6),(7,q7 s.1),(55,.tv (k4 ((gD v1 v2).f4))),(56,tI (((gD v1 v2).f4).length:Int)),(57,tI s.2)],[]⟩) (fun s=>f113_b2 v1 v2 s.1 s.2) (fun y e σ=>match y with | .ret r=>e = .ret ∧ σ = ⟨[(4,tB r)],[]⟩ | .go v=>e = .exit 4 ∧ σ = ⟨[(0,q0 v1),(1,tI v2),(5,.rp (c80 (gD v1 v2))),(6,q7 v6),(7,q7 v)],[]⟩) ?_ hy) ?_
    ·rintro ⟨v8,v9⟩ o h
     refine AWp.seq ?_
     refine AWp.start [0] [] [] [0,1,5,6,7,55,56,57,58] 0 ⟨[(0,q0 v1),(1,tI v2),(5,.rp (c80 (gD v1 v2))),(6,q7 v6),(7,q7 v8),(55,.tv (k4 ((gD v1 v2).f4))),(56,tI (((gD v1 v2).f4).length:Int)),(57,tI v9),(58,tB (decide (v9 < (((gD v1 v2).f4).length:Int))))],[]⟩ rfl ?_ z0 trivial ?_
     ·kernel_rfl
     refine AOps.nil ?_
     refine AWp.seq ?_
     refine AWp.cond rfl (fun hb=>?_) fun hb=>?_
     ·replace h:=of_true h hb
      refine AWp.keepTo [0,1,5,6,7,55,56,57] 0 ⟨[(0,q0 v1),(1,tI v2),(5,.rp (c80 (gD v1 v2))),(6,q7 v6),(7,q7 v8),(55,.tv (k4 ((gD v1 v2).f4))),(56,tI (((gD v1 v2).f4).length:Int)),(57,tI v9)],[]⟩ ?_ z0 ?_
      ·kernel_rfl
      refine AWp.skip ?_
      refine AWp.seq ?_
      refine AWp.block ?_
      refine AWp.seq ?_
      obtain ⟨hg,h⟩:=of_guard h
      refine AWp.start [0,1,2,3] [] [(0:Int) ≤ v9,v9 < (((gD v1 v2).f4).length:Int)] [0,1,5,6,7,14,55,56,57] 1 ⟨[(0,q0 v1),(1,tI v2),(5,.rp (c80 (gD v1 v2))),(6,q7 v6),(7,q7 v8),(14,.pc 0 0),(55,.tv (k4 ((gD v1 v2).f4))),(56,tI (((gD v1 v2).f4).length:Int)),(57,tI v9)],[.cells 108 (c107 (gD ((gD v1 v2).f4) v9))]⟩ rfl ?_ z0 ⟨hg.1,hg.2⟩ ?_
      ·kernel_rfl
      refine AOps.nil ?_
      refine AWp.pin 0 rfl rfl ?_
      refine AWp.keepTo [0,1,5,6,7,14,55,56,57] 0 ⟨[(0,q0 v1),(1,tI v2),(5,.rp (c80 (gD v1 v2))),(6,q7 v6),(7,q7 v8),(14,.rp (c107 (gD ((gD v1 v2).f4) v9))),(55,.tv (k4 ((gD v1 v2).f4))),(56,tI (((gD v1 v2).f4).length:Int)),(57,tI v9)],[]⟩ ?_ z0 ?_
      ·kernel_rfl
      refine AWp.start [0,1,2,3] [4,5] [] [0,1,5,6,7,55,56,57,61,64] 0 ⟨[(0,q0 v1),(1,tI v2),(5,.rp (c80 (gD v1 v2))),(6,q7 v6),(7,q7 v8),(55,.tv (k4 ((gD v1 v2).f4))),(56,tI (((gD v1 v2).f4).length:Int)),(57,tI v9),(61,.al (.slot 7 0,[])),(64,.tv (.own 1 9 1 (newRowF [.str ((gD ((gD v1 v2).f4) v9).f0)] 1)))],[]⟩ rfl ?_ z0 trivial ?_
      ·kernel_rfl
      refine AOps.extL 64 cStr [(gD ((gD v1 v2).f4) v9).f0] rfl rfl (row_at cStr 1 (fun _=>rfl) [(gD ((gD v1 v2).f4) v9).f0] _ rfl) ?_
      obtain ⟨hg,h⟩:=of_guard h
      refine AOps.go [4] [5] [(v8.length + [(gD ((gD v1 v2).f4) v9).f0].length) * 16 ≤ 140737488355328,PlainTo v8.length (fun i=>cStr (v8.getD i default)),PlainTo ([(gD ((gD v1 v2).f4) v9).f0].length) (fun i=>cStr ([(gD ((gD v1 v2).f4) v9).f0].getD i default))] [0,1,5,6,55,56,57,65] 0 ⟨[(0,q0 v1),(1,tI v2),(5,.rp (c80 (gD v1 v2))),(6,q7 v6),(55,.tv (k4 ((gD v1 v2).f4))),(56,tI (((gD v1 v2).f4).length:Int)),(57,tI v9),(65,.tv (.own 1 9 (v8.length + [(gD ((gD v1 v2).f4) v9).f0].length) (appF v8.length (fun i=>cStr (v8.getD i default)) (fun i=>cStr ([(gD ((gD v1 v2).f4) v9).f0].getD i default)))))],[]⟩ ?_ z0 ⟨hg,(fun _ _=>rfl),(fun _ _=>rfl)⟩ ?_
      ·kernel_rfl
      refine AOps.extL 65 cStr (v8 ++ [(gD ((gD v1 v2).f4) v9).f0]) rfl List.length_append.symm (app_at cStr v8 [(gD ((gD v1 v2).f4) v9).f0]) ?_
      refine AOps.go [5] [] [] [0,1,5,6,7,55,56,57] 0 ⟨[(0,q0 v1),(1,tI v2),(5,.rp (c80 (gD v1 v2))),(6,q7 v6),(7,q7 (v8 ++ [(gD ((gD v1 v2).f4) v9).f0])),(55,.tv (k4 ((gD v1 v2).f4))),(56,tI (((gD v1 v2).f4).length:Int)),(57,tI v9)],[]⟩ ?_ z0 trivial ?_
      ·kernel_rfl
      refine AOps.nil ?_
      refine AWp.start [0,1] [] [] [0,1,5,6,7,55,56,57] 0 ⟨[(0,q0 v1),(1,tI v2),(5,.rp (c80 (gD v1 v2))),(6,q7 v6),(7,q7 (v8 ++ [(gD ((gD v1 v2).f4) v9).f0])),(55,.tv (k4 ((gD v1 v2).f4))),(56,tI (((gD v1 v2).f4).length:Int)),(57,tI (w64 (v9 + (1:Int))))],[]⟩ rfl ?_ z0 trivial ?_
      ·kernel_rfl
      refine AOps.nil ?_
      cases h
      exact Or.inl ⟨_,rfl,rfl,rfl⟩
     ·replace h:=of_false h hb
      refine AWp.keepTo [0,1,5,6,7] 0 ⟨[(0,q0 v1),(1,tI v2),(5,.rp (c80 (gD v1 v2))),(6,q7 v6),(7,q7 v8)],[]⟩ ?_ z0 ?_
      ·kernel_rfl
      refine AWp.exit ?_
      cases h
      exact Or.inr ⟨_,rfl,by simp,rfl,rfl⟩
    ·intro e σ hp
     rcases y with v11 | v10
     ·obtain ⟨rfl,rfl⟩:=hp
      cases h
      exact ⟨.inr rfl,rfl⟩
     ·obtain ⟨rfl,rfl⟩:=hp
      refine AWp.seq ?_
      obtain ⟨v12,hd,h⟩:=of_bind h
      refine AWp.draw FFm (fun σ=>σ = ⟨[(4,tB v12)],[]⟩) (n:=16) rfl (ls:=#[n1,n1,n1,n1,n1,n1,n1,n1,n1,n1,n1,n1,n1,n1,n1,n1]) rfl ?_ ?_
      ·obtain ⟨hg,hd⟩:=of_guard hd
       refine AAny.go (by kernel_rfl) [0,1,2] (fuel':=13) rfl [(0:Int) ≤ (0:Int),(0:Int) ≤ v2,v2 ≤ (v1.length:Int)] #[y1,y1,y1,n1,n1,n1,n1,n1,n1,n1,n1,n1,n1,n1,n1,n1] [5,6,7,69] 0 ⟨[(5,.rp (c80 (gD v1 v2))),(6,q7 v6),(7,q7 v10),(69,.tv (.fz 6 (v2.toNat - 0) (fun i=>c80 (v1.getD (0 + i) default))))],[]⟩ ?_ z0 ⟨(by decide:(0:Int) ≤ (0:Int)),hg.1,hg.2⟩ ?_
       ·kernel_rfl
       have hb:v2.toNat ≤ v1.length:=by have hh:v2 ≤ (v1.length:Int):=hg.2; omega
       refine AAny.extFzL (s:=69) rfl (sub_len v1 0 v2.toNat hb) (sub_at c80 v1 0 v2.toNat hb) ?_
       refine AAny.go (by kernel_rfl) [3,4] (fuel':=11) rfl [] #[y1,y1,y1,y1,y1,n1,n1,n1,n1,n1,n1,n1,n1,n1,n1,n1] [6,7,69,71] 0 ⟨[(6,q7 v6),(7,q7 v10),(69,q0 ((v1.take v2.toNat).drop 0)),(71,tS ((gD v1 v2).f0))],[]⟩ ?_ z0 trivial ?_
       ·kernel_rfl
       obtain ⟨v13,hv13,hd⟩:=of_bind hd
       refine AAny.serial (i:=5) (fuel:=10) (by kernel_rfl) (AOne.callP (F:=(FF 82 0)) _ rfl rfl rfl _ rfl rfl _ _ rfl Tryz.call29 [q0 ((v1.take v2.toNat).drop 0),tS ((gD v1 v2).f0)] rfl rfl (f29_ok ((v1.take v2.toNat).drop 0) ((gD v1 v2).f0) hv13) rfl) ?_
       refine AAny.keepTo [6,7,72] 0 ⟨[(6,q7 v6),(7,q7 v10),(72,tI v13)],[]⟩ #[y1,y1,y1,y1,y1,y1,n1,n1,n1,n1,n1,n1,n1,n1,n1,n1] ?_ rfl z0 ?_
       ·kernel_rfl
       refine AAny.go (by kernel_rfl) [6,7] (fuel':=8) rfl [] #[y1,y1,y1,y1,y1,y1,y1,y1,n1,n1,n1,n1,n1,n1,n1,n1] [6,7,74] 0 ⟨[(6,q7 v6),(7,q7 v10),(74,tB (decide (v13 ≥ (0:Int))))],[]⟩ ?_ z0 trivial ?_
       ·kernel_rfl
       refine AAny.split (fun b=>⟨[(6,q7 v6),(7,q7 v10),(74,tB b)],[]⟩) _ (fun hb=>?_) fun hb=>?_
       ·replace hd:=of_true hd hb
        refine AAny.go (by kernel_rfl) [8,9,10,11,12,13,14,15] (fuel':=0) rfl [] #[y1,y1,y1,y1,y1,y1,y1,y1,y1,y1,y1,y1,y1,y1,y1,y1] [4] 0 ⟨[(4,tB true)],[]⟩ ?_ z0 trivial ?_
        ·kernel_rfl
        refine AAny.keepTo [4] 0 ⟨[(4,tB true)],[]⟩ _ ?_ rfl z0 (AAny.done (by kernel_rfl) ?_)
        ·kernel_rfl
        cases hd
        exact rfl
       ·replace hd:=of_false hd hb
        refine AAny.go (by kernel_rfl) [8] (fuel':=7) rfl [] #[y1,y1,y1,y1,y1,y1,y1,y1,y1,n1,n1,n1,n1,n1,n1,n1] [6,7,74,75] 0 ⟨[(6,q7 v6),(7,q7 v10),(74,tB false),(75,.al (.slot 6 0,[]))],[]⟩ ?_ z0 trivial ?_
        ·kernel_rfl
        obtain ⟨v14,hv14,hd⟩:=of_bind hd
        refine AAny.serial (i:=9) (fuel:=6) (by kernel_rfl) (AOne.callR (F:=(FF 82 0)) _ rfl rfl rfl _ rfl rfl _ _ rfl Tryz.call139 [PlainTo v6.length (fun i=>cStr (v6.getD i default))] [q4 v6] rfl (fun _ _=>rfl) (f139_ok v6 hv14) (ind_of rfl) rfl) ?_
        refine AAny.keepTo [7,74,76] 0 ⟨[(7,q7 v10),(74,tB false),(76,tB v14)],[]⟩ #[y1,y1,y1,y1,y1,y1,y1,y1,y1,y1,n1,n1,n1,n1,n1,n1] ?_ rfl z0 ?_
        ·kernel_rfl
        refine AAny.go (by kernel_rfl) [10,11] (fuel':=4) rfl [] #[y1,y1,y1,y1,y1,y1,y1,y1,y1,y1,y1,y1,n1,n1,n1,n1] [7,78] 0 ⟨[(7,q7 v10),(78,tB v14)],[]⟩ ?_ z0 trivial ?_
        ·kernel_rfl
        refine AAny.split (fun b=>⟨[(7,q7 v10),(78,tB b)],[]⟩) _ (fun hb=>?_) fun hb=>?_
        ·replace hd:=of_true hd hb
         refine AAny.go (by kernel_rfl) [12,13,14,15] (fuel':=0) rfl [] #[y1,y1,y1,y1,y1,y1,y1,y1,y1,y1,y1,y1,y1,y1,y1,y1] [4] 0 ⟨[(4,tB true)],[]⟩ ?_ z0 trivial ?_
         ·kernel_rfl
         refine AAny.keepTo [4] 0 ⟨[(4,tB true)],[]⟩ _ ?_ rfl z0 (AAny.done (by kernel_rfl) ?_)
         ·kernel_rfl
         cases hd
         exact rfl
        ·replace hd:=of_false hd hb
         refine AAny.go (by kernel_rfl) [12] (fuel':=3) rfl [] #[y1,y1,y1,y1,y1,y1,y1,y1,y1,y1,y1,y1,y1,n1,n1,n1] [7,78,79] 0 ⟨[(7,q7 v10),(78,tB false),(79,.al (.slot 7 0,[]))],[]⟩ ?_ z0 trivial ?_
         ·kernel_rfl
         obtain ⟨v15,hv15,hd⟩:=of_bind hd
         refine AAny.serial (i:=13) (fuel:=2) (by kernel_rfl) (AOne.callR (F:=(FF 82 0)) _ rfl rfl rfl _ rfl rfl _ _ rfl Tryz.call139 [PlainTo v10.length (fun i=>cStr (v10.getD i default))] [q4 v10] rfl (fun _ _=>rfl) (f139_ok v10 hv15) (ind_of rfl) rfl) ?_
         refine AAny.keepTo [78,80] 0 ⟨[(78,tB false),(80,tB v15)],[]⟩ #[y1,y1,y1,y1,y1,y1,y1,y1,y1,y1,y1,y1,y1,y1,n1,n1] ?_ rfl z0 ?_
         ·kernel_rfl
         refine AAny.go (by kernel_rfl) [14,15] (fuel':=0) rfl [] #[y1,y1,y1,y1,y1,y1,y1,y1,y1,y1,y1,y1,y1,y1,y1,y1] [4] 0 ⟨[(4,tB v15)],[]⟩ ?_ z0 trivial ?_
         ·kernel_rfl
         refine AAny.keepTo [4] 0 ⟨[(4,tB v15)],[]⟩ _ ?_ rfl z0 (AAny.done (by kernel_rfl) ?_)
         ·kernel_rfl
         cases hd
         exact rfl
      rintro σ' rfl
      refine AWp.ret ?_
      cases h
      exact ⟨.inr rfl,rfl⟩

noncomputable def f141 (v1:T86) (v2:List T80) (v3:Int):Option Bool :=
 (cond (!(v1.f1 == ([]:List UInt8))) (if (0:Int) ≤ v3 ∧ v3 ≤ (v2.length:Int) then (f29 ((v2.take v3.toNat).drop 0) v1.f1).bind fun v5=>some (decide (v5 < (0:Int))) else none) (some false)).bind fun v4=>some v4

theorem f141_ok (v1:T86) (v2:List T80) (v3:Int) {r:Bool} (h:f141 v1 v2 v3 = some r):ACall Tryz.prog 141 [.agg [.str v1.f0,.str v1.f1,.int .i64 v1.f2],.rp [fzL 6 c80 v2],.rp [.int .i64 v3]] [] (.tv (.bool r)) []:=by
 refine ACall.of1 (FF 17 0) Tryz.func141 rfl Tryz.ntmps141 Tryz.results141 (zz rfl) rfl rfl ?_
 refine AWp.seq ?_
 refine AWp.start [0,1] [] [] [1,2,3] 1 ⟨[(1,.rp [k1 v2]),(2,.rp [.int .i64 v3]),(3,.pc 0 0)],[.cells 87 (c86 v1)]⟩ rfl ?_ z0 trivial ?_
 ·kernel_rfl
 refine AOps.nil ?_
 refine AWp.seq ?_
 refine AWp.pin 0 rfl rfl ?_
 refine AWp.keepTo [1,2,3] 0 ⟨[(1,.rp [k1 v2]),(2,.rp [.int .i64 v3]),(3,.rp (c86 v1))],[]⟩ ?_ z0 ?_
 ·kernel_rfl
 obtain ⟨v4,hd,h⟩:=of_bind h
 refine AWp.draw FFm (fun σ=>σ = ⟨[(4,tB v4)],[]⟩) (n:=13) rfl (ls:=#[n1,n1,n1,n1,n1,n1,n1,n1,n1,n1,n1,n1,n1]) rfl ?_ ?_
 ·refine AAny.go (by kernel_rfl) [0,1,2,3] (fuel':=9) rfl [] #[y1,y1,y1,y1,n1,n1,n1,n1,n1,n1,n1,n1,n1] [1,2,3,8] 0 ⟨[(1,.rp [k1 v2]),(2,.rp [.int .i64 v3]),(3,.rp (c86 v1)),(8,tB (!(v1.f1 == ([]:List UInt8))))],[]⟩ ?_ z0 trivial ?_
  ·kernel_rfl
  refine AAny.split (fun b=>⟨[(1,.rp [k1 v2]),(2,.rp [.int .i64 v3]),(3,.rp (c86 v1)),(8,tB b)],[]⟩) _ (fun hb=>?_) fun hb=>?_
  ·replace hd:=of_true hd hb
   obtain ⟨hg,hd⟩:=of_guard hd
   refine AAny.go (by kernel_rfl) [4,5,6] (fuel':=6) rfl [(0:Int) ≤ (0:Int),(0:Int) ≤ v3,v3 ≤ (v2.length:Int)] #[y1,y1,y1,y1,y1,y1,y1,n1,n1,n1,n1,n1,n1] [3,8,11] 0 ⟨[(3,.rp (c86 v1)),(8,tB true),(11,.tv (.fz 6 (v3.toNat - 0) (fun i=>c80 (v2.getD (0 + i) default))))],[]⟩ ?_ z0 ⟨(by decide:(0:Int) ≤ (0:Int)),hg.1,hg.2⟩ ?_
   ·kernel_rfl
   have hb:v3.toNat ≤ v2.length:=by have hh:v3 ≤ (v2.length:Int):=hg.2; omega
   refine AAny.extFzL (s:=11) rfl (sub_len v2 0 v3.toNat hb) (sub_at c80 v2 0 v3.toNat hb) ?_
   refine AAny.go (by kernel_rfl) [7,8] (fuel':=4) rfl [] #[y1,y1,y1,y1,y1,y1,y1,y1,y1,n1,n1,n1,n1] [8,11,13] 0 ⟨[(8,tB true),(11,q0 ((v2.take v3.toNat).drop 0)),(13,tS v1.f1)],[]⟩ ?_ z0 trivial ?_
   ·kernel_rfl
   obtain ⟨v5,hv5,hd⟩:=of_bind hd
   refine AAny.serial (i:=9) (fuel:=3) (by kernel_rfl) (AOne.callP (F:=(FF 17 0)) _ rfl rfl rfl _ rfl rfl _ _ rfl Tryz.call29 [q0 ((v2.take v3.toNat).drop 0),tS v1.f1] rfl rfl (f29_ok ((v2.take v3.toNat).drop 0) v1.f1 hv5) rfl) ?_
   refine AAny.keepTo [8,14] 0 ⟨[(8,tB true),(14,tI v5)],[]⟩ #[y1,y1,y1,y1,y1,y1,y1,y1,y1,y1,n1,n1,n1] ?_ rfl z0 ?_
   ·kernel_rfl
   refine AAny.go (by kernel_rfl) [10,11,12] (fuel':=0) rfl [] #[y1,y1,y1,y1,y1,y1,y1,y1,y1,y1,y1,y1,y1] [4] 0 ⟨[(4,tB (decide (v5 < (0:Int))))],[]⟩ ?_ z0 trivial ?_
   ·kernel_rfl
   refine AAny.keepTo [4] 0 ⟨[(4,tB (decide (v5 < (0:Int))))],[]⟩ _ ?_ rfl z0 (AAny.done (by kernel_rfl) ?_)
   ·kernel_rfl
   cases hd
   exact rfl
  ·replace hd:=of_false hd hb
   refine AAny.go (by kernel_rfl) [4,5,6,7,8,9,10,11,12] (fuel':=0) rfl [] #[y1,y1,y1,y1,y1,y1,y1,y1,y1,y1,y1,y1,y1] [4] 0 ⟨[(4,tB false)],[]⟩ ?_ z0 trivial ?_
   ·kernel_rfl
   refine AAny.keepTo [4] 0 ⟨[(4,tB false)],[]⟩ _ ?_ rfl z0 (AAny.done (by kernel_rfl) ?_)
   ·kernel_rfl
   cases hd
   exact rfl
 rintro σ' rfl
 refine AWp.ret ?_
 cases h
 exact ⟨.inr rfl,rfl⟩

noncomputable def f167_141_b1 (v1:List T86) (v2:List T80) (v3:Int) (v4:Int):Option (Int ⊕ Out Int Unit) :=
 cond (decide (v4 < (v1.length:Int))) (if (0:Int) ≤ v4 ∧ v4 < (v1.length:Int) then (f141 (v1.getD v4.toNat default) v2 v3).bind fun v5=>cond v5 (some (.inr (.ret v4))) (some (.inl (w64 (v4 + (1:Int))))) else none) (some (.inr (.go ())))

noncomputable def f167_141 (v1:List T86) (v2:List T80) (v3:Int):Option Int :=
 (iter (fun s=>f167_141_b1 v1 v2 v3 s) (0:Int)).bind fun y=>match y with | .ret v6=>some v6 | .go _=>some (-1:Int)

theorem f167_141_ok (v1:List T86) (v2:List T80) (v3:Int) {r:Int} (h:f167_141 v1 v2 v3 = some r):ACall Tryz.prog 167 [.tv (fzL 3 c86 v1),.fn 141 [.rp [fzL 6 c80 v2],.rp [.int .i64 v3]]] [] (.tv (.int .i64 r)) []:=by
 refine ACall.of1 (FF 19 0) Tryz.func167 rfl Tryz.ntmps167 Tryz.results167 (zz rfl) rfl rfl ?_
 refine AWp.seq ?_
 refine AWp.start [0] [] [] [0,1] 0 ⟨[(0,q1 v1),(1,.fn 141 [.rp [k1 v2],.rp [.int .i64 v3]])],[]⟩ rfl ?_ z0 trivial ?_
 ·kernel_rfl
 refine AOps.nil ?_
 refine AWp.seq ?_
 refine AWp.seq ?_
 refine AWp.start [0,1,2] [] [] [0,1,7,8] 0 ⟨[(0,q1 v1),(1,.fn 141 [.rp [k1 v2],.rp [.int .i64 v3]]),(7,tI (v1.length:Int)),(8,tI (0:Int))],[]⟩ rfl ?_ z0 trivial ?_
 ·kernel_rfl
 refine AOps.nil ?_
 refine AWp.block ?_
 obtain ⟨y,hy,h⟩:=of_bind h
 refine AWp.mono (AWp.loop (S:=Int) (Y:=Out Int Unit) (fun s=>⟨[(0,q1 v1),(1,.fn 141 [.rp [k1 v2],.rp [.int .i64 v3]]),(7,tI (v1.length:Int)),(8,tI s)],[]⟩) (fun s=>f167_141_b1 v1 v2 v3 s) (fun y e σ=>match y with | .ret r=>e = .ret ∧ σ = ⟨[(4,tI r)],[]⟩ | .go v=>e = .exit 0 ∧ σ = ⟨[],[]⟩) ?_ hy) ?_
 ·rintro v4 o h
  refine AWp.seq ?_
  refine AWp.start [0] [] [] [0,1,7,8,9] 0 ⟨[(0,q1 v1),(1,.fn 141 [.rp [k1 v2],.rp [.int .i64 v3]]),(7,tI (v1.length:Int)),(8,tI v4),(9,tB (decide (v4 < (v1.length:Int))))],[]⟩ rfl ?_ z0 trivial ?_
  ·kernel_rfl
  refine AOps.nil ?_
  refine AWp.seq ?_
  refine AWp.cond rfl (fun hb=>?_) fun hb=>?_
  ·replace h:=of_true h hb
   refine AWp.keepTo [0,1,7,8] 0 ⟨[(0,q1 v1),(1,.fn 141 [.rp [k1 v2],.rp [.int .i64 v3]]),(7,tI (v1.length:Int)),(8,tI v4)],[]⟩ ?_ z0 ?_
   ·kernel_rfl
   refine AWp.skip ?_
   refine AWp.seq ?_
   refine AWp.block ?_
   refine AWp.seq ?_
   refine AWp.start [0,1] [] [] [0,1,5,7,8] 0 ⟨[(0,q1 v1),(1,.fn 141 [.rp [k1 v2],.rp [.int .i64 v3]]),(5,tI v4),(7,tI (v1.length:Int)),(8,tI v4)],[]⟩ rfl ?_ z0 trivial ?_
   ·kernel_rfl
   refine AOps.nil ?_
   refine AWp.seq ?_
   obtain ⟨hg,h⟩:=of_guard h
   refine AWp.start [0,1,2,3,4] [5] [(0:Int) ≤ v4,v4 < (v1.length:Int)] [0,1,5,7,8,11,15] 0 ⟨[(0,q1 v1),(1,.fn 141 [.rp [k1 v2],.rp [.int .i64 v3]]),(5,tI v4),(7,tI (v1.length:Int)),(8,tI v4),(11,.fn 141 [.rp [k1 v2],.rp [.int .i64 v3]]),(15,.agg (c86 (gD v1 v4)))],[]⟩ rfl ?_ z0 ⟨hg.1,hg.2⟩ ?_
   ·kernel_rfl
   obtain ⟨v5,hv5,h⟩:=of_bind h
   refine AOps.cons (AOne.callP (F:=(FF 19 0)) _ rfl rfl rfl _ rfl rfl _ _ rfl Tryz.call141 [.agg (c86 (gD v1 v4)),.rp [k1 v2],.rp [.int .i64 v3]] rfl rfl (f141_ok (gD v1 v4) v2 v3 hv5) rfl) ?_
   refine AOps.keepTo [0,1,5,7,8,16] 0 ⟨[(0,q1 v1),(1,.fn 141 [.rp [k1 v2],.rp [.int .i64 v3]]),(5,tI v4),(7,tI (v1.length:Int)),(8,tI v4),(16,tB v5)],[]⟩ ?_ z0 ?_
   ·kernel_rfl
   refine AOps.nil ?_
   refine AWp.cond rfl (fun hb=>?_) fun hb=>?_
   ·replace h:=of_true h hb
    refine AWp.keepTo [5] 0 ⟨[(5,tI v4)],[]⟩ ?_ z0 ?_
    ·kernel_rfl
    refine AWp.seq ?_
    refine AWp.start [0,1] [] [] [4] 0 ⟨[(4,tI v4)],[]⟩ rfl ?_ z0 trivial ?_
    ·kernel_rfl
    refine AOps.nil ?_
    refine AWp.ret ?_
    cases h
    exact Or.inr ⟨_,rfl,by simp,rfl,rfl⟩
   ·replace h:=of_false h hb
    refine AWp.keepTo [0,1,7,8] 0 ⟨[(0,q1 v1),(1,.fn 141 [.rp [k1 v2],.rp [.int .i64 v3]]),(7,tI (v1.length:Int)),(8,tI v4)],[]⟩ ?_ z0 ?_
    ·kernel_rfl
    refine AWp.skip ?_
    refine AWp.start [0,1] [] [] [0,1,7,8] 0 ⟨[(0,q1 v1),(1,.fn 141 [.rp [k1 v2],.rp [.int .i64 v3]]),(7,tI (v1.length:Int)),(8,tI (w64 (v4 + (1:Int))))],[]⟩ rfl ?_ z0 trivial ?_
    ·kernel_rfl
    refine AOps.nil ?_
    cases h
    exact Or.inl ⟨_,rfl,rfl,rfl⟩
  ·replace h:=of_false h hb
   refine AWp.keepTo [] 0 ⟨[],[]⟩ ?_ z0 ?_
   ·kernel_rfl
   refine AWp.exit ?_
   cases h
   exact Or.inr ⟨_,rfl,by simp,rfl,rfl⟩
 ·intro e σ hp
  rcases y with v6 | _
  ·obtain ⟨rfl,rfl⟩:=hp
   cases h
   exact ⟨.inr rfl,rfl⟩
  ·obtain ⟨rfl,rfl⟩:=hp
   refine AWp.seq ?_
   refine AWp.start [0] [] [] [4] 0 ⟨[(4,tI (-1:Int))],[]⟩ rfl ?_ z0 trivial ?_
   ·kernel_rfl
   refine AOps.nil ?_
   refine AWp.ret ?_
   cases h
   exact ⟨.inr rfl,rfl⟩

noncomputable def f140_141 (v1:List T86) (v2:List T80) (v3:Int):Option Bool :=
 (f167_141 v1 v2 v3).bind fun v4=>some (decide (v4 ≥ (0:Int)))

theorem f140_141_ok (v1:List T86) (v2:List T80) (v3:Int) {r:Bool} (h:f140_141 v1 v2 v3 = some r):ACall Tryz.prog 140 [.tv (fzL 3 c86 v1),.fn 141 [.rp [fzL 6 c80 v2],.rp [.int .i64 v3]]] [] (.tv (.bool r)) []:=by
 refine ACall.of1 (FF 9 0) Tryz.func140 rfl Tryz.ntmps140 Tryz.results140 (zz rfl) rfl rfl ?_
 refine AWp.seq ?_
 refine AWp.start [0] [] [] [0,1] 0 ⟨[(0,q1 v1),(1,.fn 141 [.rp [k1 v2],.rp [.int .i64 v3]])],[]⟩ rfl ?_ z0 trivial ?_
 ·kernel_rfl
 refine AOps.nil ?_
 refine AWp.seq ?_
 refine AWp.start [0,1] [2,3,4] [] [5,6] 0 ⟨[(5,q1 v1),(6,.fn 141 [.rp [k1 v2],.rp [.int .i64 v3]])],[]⟩ rfl ?_ z0 trivial ?_
 ·kernel_rfl
 obtain ⟨v4,hv4,h⟩:=of_bind h
 refine AOps.cons (AOne.callP (F:=(FF 9 0)) _ rfl rfl rfl _ rfl rfl _ _ rfl Tryz.call167 [q1 v1,.fn 141 [.rp [k1 v2],.rp [.int .i64 v3]]] rfl rfl (f167_141_ok v1 v2 v3 hv4) rfl) ?_
 refine AOps.go [3,4] [] [] [4] 0 ⟨[(4,tB (decide (v4 ≥ (0:Int))))],[]⟩ ?_ z0 trivial ?_
 ·kernel_rfl
 refine AOps.nil ?_
 refine AWp.ret ?_
 cases h
 exact ⟨.inr rfl,rfl⟩

end Go.Sx.top
