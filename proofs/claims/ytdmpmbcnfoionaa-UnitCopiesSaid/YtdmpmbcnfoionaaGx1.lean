/- Printed by program (wip/gen): plain functions and their walks; no condition. -/
import Derived.Test.YtdmpmbcnfoionaaGx0
namespace Go.Sx.unit
open Go Go.Sx Go.Proofs

noncomputable def f38 (v1:List Int) (v2:Int):Option Int :=
 cond (decide (w64 (v2 + (4:Int)) > (v1.length:Int))) (some (-1:Int)) (if (0:Int) ≤ v2 ∧ v2 < (v1.length:Int) ∧ (0:Int) ≤ w64 (v2 + (1:Int)) ∧ w64 (v2 + (1:Int)) < (v1.length:Int) ∧ (0:Int) ≤ w64 (v2 + (2:Int)) ∧ w64 (v2 + (2:Int)) < (v1.length:Int) ∧ (0:Int) ≤ w64 (v2 + (3:Int)) ∧ w64 (v2 + (3:Int)) < (v1.length:Int) then some (w64 ((w64 ((w64 ((w64 ((16777216:Int) * (w64 (v1.getD v2.toNat default)))) + (w64 ((65536:Int) * (w64 (v1.getD (Int.toNat (w64 (v2 + (1:Int)))) default)))))) + (w64 ((256:Int) * (w64 (v1.getD (Int.toNat (w64 (v2 + (2:Int)))) default)))))) + (w64 (v1.getD (Int.toNat (w64 (v2 + (3:Int)))) default)))) else none)

theorem f38_ok (v1:List Int) (v2:Int) {r:Int} (h:f38 v1 v2 = some r):ACall Try.prog 38 [.tv (fzL 1 (cInt .u8) v1),.tv (.int .i64 v2)] [] (.tv (.int .i64 r)) []:=by
 refine ACall.of1 (FF 39 0) Try.func38 rfl Try.ntmps38 Try.results38 (zz rfl) rfl rfl ?_
 refine AWp.seq ?_
 refine AWp.start [0] [] [] [0,1] 0 ⟨[(0,q0 v1),(1,tI v2)],[]⟩ rfl ?_ z0 trivial ?_
 ·kernel_rfl
 refine AOps.nil ?_
 refine AWp.seq ?_
 refine AWp.seq ?_
 refine AWp.start [0,1,2,3,4] [] [] [0,1,9] 0 ⟨[(0,q0 v1),(1,tI v2),(9,tB (decide (w64 (v2 + (4:Int)) > (v1.length:Int))))],[]⟩ rfl ?_ z0 trivial ?_
 ·kernel_rfl
 refine AOps.nil ?_
 refine AWp.cond rfl (fun hb=>?_) fun hb=>?_
 ·replace h:=of_true h hb
  refine AWp.keepTo [] 0 ⟨[],[]⟩ ?_ z0 ?_
  ·kernel_rfl
  refine AWp.seq ?_
  refine AWp.start [0] [] [] [4] 0 ⟨[(4,tI (-1:Int))],[]⟩ rfl ?_ z0 trivial ?_
  ·kernel_rfl
  refine AOps.nil ?_
  refine AWp.ret ?_
  cases h
  exact ⟨.inr rfl,rfl⟩
 ·replace h:=of_false h hb
  refine AWp.keepTo [0,1] 0 ⟨[(0,q0 v1),(1,tI v2)],[]⟩ ?_ z0 ?_
  ·kernel_rfl
  refine AWp.skip ?_
  refine AWp.seq ?_
  refine AWp.draw FFm _ (n:=30) rfl (ls:=#[n1,n1,n1,n1,n1,n1,n1,n1,n1,n1,n1,n1,n1,n1,n1,n1,n1,n1,n1,n1,n1,n1,n1,n1,n1,n1,n1,n1,n1,n1]) rfl ?_ (fun _ h=>h)
  obtain ⟨hg,h⟩:=of_guard h
  refine AAny.go (by kernel_rfl) [0,1,2,3,4,5,6,7,8,9,10,11,12,13,14,15,16,17,18,19,20,21,22,23,24,25,26,27,28,29] (fuel':=0) rfl [(0:Int) ≤ v2,v2 < (v1.length:Int),(0:Int) ≤ w64 (v2 + (1:Int)),w64 (v2 + (1:Int)) < (v1.length:Int),(0:Int) ≤ w64 (v2 + (2:Int)),w64 (v2 + (2:Int)) < (v1.length:Int),(0:Int) ≤ w64 (v2 + (3:Int)),w64 (v2 + (3:Int)) < (v1.length:Int)] #[y1,y1,y1,y1,y1,y1,y1,y1,y1,y1,y1,y1,y1,y1,y1,y1,y1,y1,y1,y1,y1,y1,y1,y1,y1,y1,y1,y1,y1,y1] [4] 0 ⟨[(4,tI (w64 ((w64 ((w64 ((w64 ((16777216:Int) * (w64 (gD v1 v2)))) + (w64 ((65536:Int) * (w64 (v1.getD (Int.toNat (w64 (v2 + (1:Int)))) default)))))) + (w64 ((256:Int) * (w64 (v1.getD (Int.toNat (w64 (v2 + (2:Int)))) default)))))) + (w64 (v1.getD (Int.toNat (w64 (v2 + (3:Int)))) default)))))],[]⟩ ?_ z0 ⟨hg.1,hg.2.1,hg.2.2.1,hg.2.2.2.1,hg.2.2.2.2.1,hg.2.2.2.2.2.1,hg.2.2.2.2.2.2.1,hg.2.2.2.2.2.2.2⟩ ?_
  ·kernel_rfl
  refine AAny.keepTo [4] 0 ⟨[(4,tI (w64 ((w64 ((w64 ((w64 ((16777216:Int) * (w64 (gD v1 v2)))) + (w64 ((65536:Int) * (w64 (v1.getD (Int.toNat (w64 (v2 + (1:Int)))) default)))))) + (w64 ((256:Int) * (w64 (v1.getD (Int.toNat (w64 (v2 + (2:Int)))) default)))))) + (w64 (v1.getD (Int.toNat (w64 (v2 + (3:Int)))) default)))))],[]⟩ _ ?_ rfl z0 (AAny.done (by kernel_rfl) ?_)
  ·kernel_rfl
  refine AWp.ret ?_
  cases h
  exact ⟨.inr rfl,rfl⟩

noncomputable def f11_b1 (v1:List Int) (v2:List (List Int)) (v3:Int):Option (((List (List Int)) × Int) ⊕ Out ((List (List Int)) × Int) (List (List Int))) :=
 cond (decide (v3 < (v1.length:Int))) ((f38 v1 v3).bind fun v5=>(cond (decide (v5 < (0:Int))) (some true) (some (decide (v5 > (1000:Int))))).bind fun v6=>(cond v6 (some true) (some (decide (w64 ((w64 (v3 + (8:Int))) + v5) > (v1.length:Int))))).bind fun v7=>(cond v7 (some true) ((f38 v1 (w64 ((w64 (v3 + (4:Int))) + v5))).bind fun v9=>some (v9 != v5))).bind fun v8=>cond v8 (some (.inr (.ret (([]:List (List Int)),(3:Int))))) (if (0:Int) ≤ w64 (v3 + (4:Int)) ∧ w64 (v3 + (4:Int)) ≤ w64 ((w64 (v3 + (4:Int))) + v5) ∧ w64 ((w64 (v3 + (4:Int))) + v5) ≤ (v1.length:Int) then if (([]:List Int).length + ((v1.take (Int.toNat (w64 ((w64 (v3 + (4:Int))) + v5)))).drop (Int.toNat (w64 (v3 + (4:Int))))).length) * 1 ≤ 140737488355328 then if (v2.length + ([([]:List Int) ++ ((v1.take (Int.toNat (w64 ((w64 (v3 + (4:Int))) + v5)))).drop (Int.toNat (w64 (v3 + (4:Int)))))]).length) * 24 ≤ 140737488355328 then some (.inl (v2 ++ ([([]:List Int) ++ ((v1.take (Int.toNat (w64 ((w64 (v3 + (4:Int))) + v5)))).drop (Int.toNat (w64 (v3 + (4:Int)))))]),w64 (v3 + (w64 ((8:Int) + v5))))) else none else none else none)) (some (.inr (.go v2)))

noncomputable def f11 (v1:List Int):Option ((List (List Int)) × Int) :=
 (iter (fun s=>f11_b1 v1 s.1 s.2) ([],(0:Int))).bind fun y=>match y with | .ret v10=>some (v10.1,v10.2) | .go v4=>some (v4,(0:Int))

theorem f11_ok (v1:List Int) {r:(List (List Int)) × Int} (h:f11 v1 = some r):ACall Try.prog 11 [.tv (fzL 1 (cInt .u8) v1)] [] (.tup [.tv (fzL 1 (cSl 1 (cInt .u8)) r.1),.tv (.int .i64 r.2)]) []:=by
 refine ACall.ofN (FF 57 0) (rs:=[2,3]) (env:=[(2,.tv (fzL 1 (cSl 1 (cInt .u8)) r.1)),(3,tI r.2)]) Try.func11 rfl Try.ntmps11 Try.results11 (by decide) (by decide) rfl (zz rfl) rfl (get_ofN _ _ _ rfl) (ok_ofN _ rfl) ?_
 refine AWp.seq ?_
 refine AWp.start [0,1] [] [] [0] 0 ⟨[(0,q0 v1)],[]⟩ rfl ?_ z0 trivial ?_
 ·kernel_rfl
 refine AOps.nil ?_
 refine AWp.seq ?_
 refine AWp.start [0] [] [] [0,4] 0 ⟨[(0,q0 v1),(4,.tv (.sc (.slice none 0 0)))],[]⟩ rfl ?_ z0 trivial ?_
 ·kernel_rfl
 refine AOps.nil ?_
 refine AWp.seq ?_
 refine AWp.seq ?_
 refine AWp.start [0] [] [] [0,4,5] 0 ⟨[(0,q0 v1),(4,.tv (.sc (.slice none 0 0))),(5,tI (0:Int))],[]⟩ rfl ?_ z0 trivial ?_
 ·kernel_rfl
 refine AOps.nil ?_
 refine AWp.block ?_
 refine AWp.nilOwn 4 1 22 (fun i=>(cSl 1 (cInt .u8)) (([]:List (List Int)).getD i default)) rfl ?_
 refine AWp.keepTo [0,4,5] 0 ⟨[(0,q0 v1),(4,.tv (ownL 1 22 (cSl 1 (cInt .u8)) ([]:List (List Int)))),(5,tI (0:Int))],[]⟩ ?_ z0 ?_
 ·kernel_rfl
 obtain ⟨y,hy,h⟩:=of_bind h
 refine AWp.mono (AWp.loop (S:=(List (List Int)) × Int) (Y:=Out ((List (List Int)) × Int) (List (List Int))) (fun s=>⟨[(0,q0 v1),(4,.tv (ownL 1 22 (cSl 1 (cInt .u8)) s.1)),(5,tI s.2)],[]⟩) (fun s=>f11_b1 v1 s.1 s.2) (fun y e σ=>match y with | .ret r=>e = .ret ∧ σ = ⟨[(2,.tv (fzL 1 (cSl 1 (cInt .u8)) r.1)),(3,tI r.2)],[]⟩ | .go v=>e = .exit 0 ∧ σ = ⟨[(4,.tv (ownL 1 22 (cSl 1 (cInt .u8)) v))],[]⟩) ?_ hy) ?_
 ·rintro ⟨v2,v3⟩ o h
  refine AWp.seq ?_
  refine AWp.seq ?_
  refine AWp.start [0,1,2,3] [] [] [0,4,5,10] 0 ⟨[(0,q0 v1),(4,.tv (ownL 1 22 (cSl 1 (cInt .u8)) v2)),(5,tI v3),(10,tB (decide (v3 < (v1.length:Int))))],[]⟩ rfl ?_ z0 trivial ?_
  ·kernel_rfl
  refine AOps.nil ?_
  refine AWp.cond rfl (fun hb=>?_) fun hb=>?_
  ·replace h:=of_true h hb
   refine AWp.keepTo [0,4,5] 0 ⟨[(0,q0 v1),(4,.tv (ownL 1 22 (cSl 1 (cInt .u8)) v2)),(5,tI v3)],[]⟩ ?_ z0 ?_
   ·kernel_rfl
   refine AWp.skip ?_
   refine AWp.block ?_
   refine AWp.seq ?_
   refine AWp.start [0,1] [2,3] [] [0,4,5,11,12] 0 ⟨[(0,q0 v1),(4,.tv (ownL 1 22 (cSl 1 (cInt .u8)) v2)),(5,tI v3),(11,q0 v1),(12,tI v3)],[]⟩ rfl ?_ z0 trivial ?_
   ·kernel_rfl
   obtain ⟨v5,hv5,h⟩:=of_bind h
   refine AOps.cons (AOne.callP (F:=(FF 57 0)) _ rfl rfl rfl _ rfl rfl _ _ rfl Try.call38 [q0 v1,tI v3] rfl rfl (f38_ok v1 v3 hv5) rfl) ?_
   refine AOps.go [3] [] [] [0,4,5,6] 0 ⟨[(0,q0 v1),(4,.tv (ownL 1 22 (cSl 1 (cInt .u8)) v2)),(5,tI v3),(6,tI v5)],[]⟩ ?_ z0 trivial ?_
   ·kernel_rfl
   refine AOps.nil ?_
   refine AWp.seq ?_
   refine AWp.seq ?_
   refine AWp.start [0,1,2] [3,4,5,6,7,8,9,10,11,12,13,14,15,16,17,18,19,20,21,22,23,24] [] [0,4,5,6,16] 0 ⟨[(0,q0 v1),(4,.tv (ownL 1 22 (cSl 1 (cInt .u8)) v2)),(5,tI v3),(6,tI v5),(16,tB (decide (v5 < (0:Int))))],[]⟩ rfl ?_ z0 trivial ?_
   ·kernel_rfl
   obtain ⟨v6,hc3,h⟩:=of_bind h
   refine AOps.cut [3,4,5] [6,7,8,9,10,11,12,13,14,15,16,17,18,19,20,21,22,23,24] (fun σ=>σ = ⟨[(0,q0 v1),(4,.tv (ownL 1 22 (cSl 1 (cInt .u8)) v2)),(5,tI v3),(6,tI v5),(19,tB v6)],[]⟩) ?_ fun σ' hJ=>?_
   ·refine AOps.split (fun b=>⟨[(0,q0 v1),(4,.tv (ownL 1 22 (cSl 1 (cInt .u8)) v2)),(5,tI v3),(6,tI v5),(16,tB b)],[]⟩) _ (fun hb=>?_) fun hb=>?_
    ·replace hc3:=of_true hc3 hb
     refine AOps.go [3,4,5] [] [] [0,4,5,6,19] 0 ⟨[(0,q0 v1),(4,.tv (ownL 1 22 (cSl 1 (cInt .u8)) v2)),(5,tI v3),(6,tI v5),(19,tB true)],[]⟩ ?_ z0 trivial ?_
     ·kernel_rfl
     cases hc3
     exact AOps.nil rfl
    ·replace hc3:=of_false hc3 hb
     refine AOps.go [3,4,5] [] [] [0,4,5,6,19] 0 ⟨[(0,q0 v1),(4,.tv (ownL 1 22 (cSl 1 (cInt .u8)) v2)),(5,tI v3),(6,tI v5),(19,tB (decide (v5 > (1000:Int))))],[]⟩ ?_ z0 trivial ?_
     ·kernel_rfl
     cases hc3
     exact AOps.nil rfl
   subst hJ
   refine AOps.go [6] [7,8,9,10,11,12,13,14,15,16,17,18,19,20,21,22,23,24] [] [0,4,5,6,20] 0 ⟨[(0,q0 v1),(4,.tv (ownL 1 22 (cSl 1 (cInt .u8)) v2)),(5,tI v3),(6,tI v5),(20,tB v6)],[]⟩ ?_ z0 trivial ?_
   ·kernel_rfl
   obtain ⟨v7,hc7,h⟩:=of_bind h
   refine AOps.cut [7,8,9,10,11,12,13,14] [15,16,17,18,19,20,21,22,23,24] (fun σ=>σ = ⟨[(0,q0 v1),(4,.tv (ownL 1 22 (cSl 1 (cInt .u8)) v2)),(5,tI v3),(6,tI v5),(28,tB v7)],[]⟩) ?_ fun σ' hJ=>?_
   ·refine AOps.split (fun b=>⟨[(0,q0 v1),(4,.tv (ownL 1 22 (cSl 1 (cInt .u8)) v2)),(5,tI v3),(6,tI v5),(20,tB b)],[]⟩) _ (fun hb=>?_) fun hb=>?_
    ·replace hc7:=of_true hc7 hb
     refine AOps.go [7,8,9,10,11,12,13,14] [] [] [0,4,5,6,28] 0 ⟨[(0,q0 v1),(4,.tv (ownL 1 22 (cSl 1 (cInt .u8)) v2)),(5,tI v3),(6,tI v5),(28,tB true)],[]⟩ ?_ z0 trivial ?_
     ·kernel_rfl
     cases hc7
     exact AOps.nil rfl
    ·replace hc7:=of_false hc7 hb
     refine AOps.go [7,8,9,10,11,12,13,14] [] [] [0,4,5,6,28] 0 ⟨[(0,q0 v1),(4,.tv (ownL 1 22 (cSl 1 (cInt .u8)) v2)),(5,tI v3),(6,tI v5),(28,tB (decide (w64 ((w64 (v3 + (8:Int))) + v5) > (v1.length:Int))))],[]⟩ ?_ z0 trivial ?_
     ·kernel_rfl
     cases hc7
     exact AOps.nil rfl
   subst hJ
   refine AOps.go [15] [16,17,18,19,20,21,22,23,24] [] [0,4,5,6,29] 0 ⟨[(0,q0 v1),(4,.tv (ownL 1 22 (cSl 1 (cInt .u8)) v2)),(5,tI v3),(6,tI v5),(29,tB v7)],[]⟩ ?_ z0 trivial ?_
   ·kernel_rfl
   obtain ⟨v8,hc16,h⟩:=of_bind h
   refine AOps.cut [16,17,18,19,20,21,22,23,24] [] (fun σ=>σ = ⟨[(0,q0 v1),(4,.tv (ownL 1 22 (cSl 1 (cInt .u8)) v2)),(5,tI v3),(6,tI v5),(38,tB v8)],[]⟩) ?_ fun σ' hJ=>?_
   ·refine AOps.split (fun b=>⟨[(0,q0 v1),(4,.tv (ownL 1 22 (cSl 1 (cInt .u8)) v2)),(5,tI v3),(6,tI v5),(29,tB b)],[]⟩) _ (fun hb=>?_) fun hb=>?_
    ·replace hc16:=of_true hc16 hb
     refine AOps.go [16,17,18,19,20,21,22,23,24] [] [] [0,4,5,6,38] 0 ⟨[(0,q0 v1),(4,.tv (ownL 1 22 (cSl 1 (cInt .u8)) v2)),(5,tI v3),(6,tI v5),(38,tB true)],[]⟩ ?_ z0 trivial ?_
     ·kernel_rfl
     cases hc16
     exact AOps.nil rfl
    ·replace hc16:=of_false hc16 hb
     refine AOps.go [16,17,18,19,20] [21,22,23,24] [] [0,4,5,6,29,30,34] 0 ⟨[(0,q0 v1),(4,.tv (ownL 1 22 (cSl 1 (cInt .u8)) v2)),(5,tI v3),(6,tI v5),(29,tB false),(30,q0 v1),(34,tI (w64 ((w64 (v3 + (4:Int))) + v5)))],[]⟩ ?_ z0 trivial ?_
     ·kernel_rfl
     obtain ⟨v9,hv9,hc16⟩:=of_bind hc16
     refine AOps.cons (AOne.callP (F:=(FF 57 0)) _ rfl rfl rfl _ rfl rfl _ _ rfl Try.call38 [q0 v1,tI (w64 ((w64 (v3 + (4:Int))) + v5))] rfl rfl (f38_ok v1 (w64 ((w64 (v3 + (4:Int))) + v5)) hv9) rfl) ?_
     refine AOps.go [22,23,24] [] [] [0,4,5,6,38] 0 ⟨[(0,q0 v1),(4,.tv (ownL 1 22 (cSl 1 (cInt .u8)) v2)),(5,tI v3),(6,tI v5),(38,tB (v9 != v5))],[]⟩ ?_ z0 trivial ?_
     ·kernel_rfl
     cases hc16
     exact AOps.nil rfl
   subst hJ
   refine AOps.nil ?_
   refine AWp.cond rfl (fun hb=>?_) fun hb=>?_
   ·replace h:=of_true h hb
    refine AWp.keepTo [] 0 ⟨[],[]⟩ ?_ z0 ?_
    ·kernel_rfl
    refine AWp.seq ?_
    refine AWp.start [0,1] [] [] [2,3] 0 ⟨[(2,.tv (.sc (.slice none 0 0))),(3,tI (3:Int))],[]⟩ rfl ?_ z0 trivial ?_
    ·kernel_rfl
    refine AOps.nil ?_
    refine AWp.nilFz 2 1 (fun i=>(cSl 1 (cInt .u8)) (([]:List (List Int)).getD i default)) rfl ?_
    refine AWp.keepTo [2,3] 0 ⟨[(2,.tv (fzL 1 (cSl 1 (cInt .u8)) ([]:List (List Int)))),(3,tI (3:Int))],[]⟩ ?_ z0 ?_
    ·kernel_rfl
    refine AWp.ret ?_
    cases h
    exact Or.inr ⟨_,rfl,by simp,rfl,rfl⟩
   ·replace h:=of_false h hb
    refine AWp.keepTo [0,4,5,6] 0 ⟨[(0,q0 v1),(4,.tv (ownL 1 22 (cSl 1 (cInt .u8)) v2)),(5,tI v3),(6,tI v5)],[]⟩ ?_ z0 ?_
    ·kernel_rfl
    refine AWp.skip ?_
    refine AWp.seq ?_
    refine AWp.start [0,1] [2,3,4,5,6,7,8,9,10,11,12,13] [] [0,4,5,6,39,40] 0 ⟨[(0,q0 v1),(4,.tv (ownL 1 22 (cSl 1 (cInt .u8)) v2)),(5,tI v3),(6,tI v5),(39,.al (.slot 4 0,[])),(40,.tv (.own 1 5 0 (newRowF [] 1)))],[]⟩ rfl ?_ z0 trivial ?_
    ·kernel_rfl
    refine AOps.extL 40 (cInt .u8) ([]:List Int) rfl rfl (row_at (cInt .u8) 1 (fun _=>rfl) ([]:List Int) _ rfl) ?_
    obtain ⟨hg,h⟩:=of_guard h
    refine AOps.go [2,3,4,5,6,7,8,9] [10,11,12,13] [(0:Int) ≤ w64 (v3 + (4:Int)),w64 (v3 + (4:Int)) ≤ w64 ((w64 (v3 + (4:Int))) + v5),w64 ((w64 (v3 + (4:Int))) + v5) ≤ (v1.length:Int)] [0,4,5,6,39,40,48] 0 ⟨[(0,q0 v1),(4,.tv (ownL 1 22 (cSl 1 (cInt .u8)) v2)),(5,tI v3),(6,tI v5),(39,.al (.slot 4 0,[])),(40,q1 ([]:List Int)),(48,.tv (.fz 1 ((Int.toNat (w64 ((w64 (v3 + (4:Int))) + v5))) - (Int.toNat (w64 (v3 + (4:Int))))) (fun i=>(cInt .u8) (v1.getD ((Int.toNat (w64 (v3 + (4:Int)))) + i) default))))],[]⟩ ?_ z0 ⟨hg.1,hg.2.1,hg.2.2⟩ ?_
    ·kernel_rfl
    have hb:(Int.toNat (w64 ((w64 (v3 + (4:Int))) + v5))) ≤ v1.length:=by have hh:w64 ((w64 (v3 + (4:Int))) + v5) ≤ (v1.length:Int):=hg.2.2; omega
    refine AOps.extFzL (s:=48) rfl (sub_len v1 (Int.toNat (w64 (v3 + (4:Int)))) (Int.toNat (w64 ((w64 (v3 + (4:Int))) + v5))) hb) (sub_at (cInt .u8) v1 (Int.toNat (w64 (v3 + (4:Int)))) (Int.toNat (w64 ((w64 (v3 + (4:Int))) + v5))) hb) ?_
    obtain ⟨hg,h⟩:=of_guard h
    refine AOps.go [10] [11,12,13] [(([]:List Int).length + ((v1.take (Int.toNat (w64 ((w64 (v3 + (4:Int))) + v5)))).drop (Int.toNat (w64 (v3 + (4:Int))))).length) * 1 ≤ 140737488355328,PlainTo (([]:List Int).length) (fun i=>(cInt .u8) (([]:List Int).getD i default)),PlainTo (((v1.take (Int.toNat (w64 ((w64 (v3 + (4:Int))) + v5)))).drop (Int.toNat (w64 (v3 + (4:Int))))).length) (fun i=>(cInt .u8) (((v1.take (Int.toNat (w64 ((w64 (v3 + (4:Int))) + v5)))).drop (Int.toNat (w64 (v3 + (4:Int))))).getD i default))] [0,4,5,6,39,49] 0 ⟨[(0,q0 v1),(4,.tv (ownL 1 22 (cSl 1 (cInt .u8)) v2)),(5,tI v3),(6,tI v5),(39,.al (.slot 4 0,[])),(49,.tv (.own 1 5 (([]:List Int).length + ((v1.take (Int.toNat (w64 ((w64 (v3 + (4:Int))) + v5)))).drop (Int.toNat (w64 (v3 + (4:Int))))).length) (appF (([]:List Int).length) (fun i=>(cInt .u8) (([]:List Int).getD i default)) (fun i=>(cInt .u8) (((v1.take (Int.toNat (w64 ((w64 (v3 + (4:Int))) + v5)))).drop (Int.toNat (w64 (v3 + (4:Int))))).getD i default)))))],[]⟩ ?_ z0 ⟨hg,(fun _ _=>rfl),(fun _ _=>rfl)⟩ ?_
    ·kernel_rfl
    refine AOps.extL 49 (cInt .u8) (([]:List Int) ++ ((v1.take (Int.toNat (w64 ((w64 (v3 + (4:Int))) + v5)))).drop (Int.toNat (w64 (v3 + (4:Int)))))) rfl List.length_append.symm (app_at (cInt .u8) ([]:List Int) ((v1.take (Int.toNat (w64 ((w64 (v3 + (4:Int))) + v5)))).drop (Int.toNat (w64 (v3 + (4:Int)))))) ?_
    refine AOps.freezeL 49 (cInt .u8) (([]:List Int) ++ ((v1.take (Int.toNat (w64 ((w64 (v3 + (4:Int))) + v5)))).drop (Int.toNat (w64 (v3 + (4:Int)))))) rfl (fun _=>rfl) ?_
    refine AOps.go [11] [12,13] [] [0,4,5,6,39,50] 0 ⟨[(0,q0 v1),(4,.tv (ownL 1 22 (cSl 1 (cInt .u8)) v2)),(5,tI v3),(6,tI v5),(39,.al (.slot 4 0,[])),(50,.tv (.own 1 22 1 (newRowF [k0 (([]:List Int) ++ ((v1.take (Int.toNat (w64 ((w64 (v3 + (4:Int))) + v5)))).drop (Int.toNat (w64 (v3 + (4:Int))))))] 1)))],[]⟩ ?_ z0 trivial ?_
    ·kernel_rfl
    refine AOps.extL 50 (cSl 1 (cInt .u8)) ([([]:List Int) ++ ((v1.take (Int.toNat (w64 ((w64 (v3 + (4:Int))) + v5)))).drop (Int.toNat (w64 (v3 + (4:Int)))))]) rfl rfl (row_at (cSl 1 (cInt .u8)) 1 (fun _=>rfl) [([]:List Int) ++ ((v1.take (Int.toNat (w64 ((w64 (v3 + (4:Int))) + v5)))).drop (Int.toNat (w64 (v3 + (4:Int)))))] _ rfl) ?_
    obtain ⟨hg,h⟩:=of_guard h
    refine AOps.go [12] [13] [(v2.length + ([([]:List Int) ++ ((v1.take (Int.toNat (w64 ((w64 (v3 + (4:Int))) + v5)))).drop (Int.toNat (w64 (v3 + (4:Int)))))]).length) * 24 ≤ 140737488355328,PlainTo v2.length (fun i=>(cSl 1 (cInt .u8)) (v2.getD i default)),PlainTo (([([]:List Int) ++ ((v1.take (Int.toNat (w64 ((w64 (v3 + (4:Int))) + v5)))).drop (Int.toNat (w64 (v3 + (4:Int)))))]).length) (fun i=>(cSl 1 (cInt .u8)) (([([]:List Int) ++ ((v1.take (Int.toNat (w64 ((w64 (v3 + (4:Int))) + v5)))).drop (Int.toNat (w64 (v3 + (4:Int)))))]).getD i default))] [0,5,6,51] 0 ⟨[(0,q0 v1),(5,tI v3),(6,tI v5),(51,.tv (.own 1 22 (v2.length + ([([]:List Int) ++ ((v1.take (Int.toNat (w64 ((w64 (v3 + (4:Int))) + v5)))).drop (Int.toNat (w64 (v3 + (4:Int)))))]).length) (appF v2.length (fun i=>(cSl 1 (cInt .u8)) (v2.getD i default)) (fun i=>(cSl 1 (cInt .u8)) (([([]:List Int) ++ ((v1.take (Int.toNat (w64 ((w64 (v3 + (4:Int))) + v5)))).drop (Int.toNat (w64 (v3 + (4:Int)))))]).getD i default)))))],[]⟩ ?_ z0 ⟨hg,(fun _ _=>rfl),(fun _ _=>rfl)⟩ ?_
    ·kernel_rfl
    refine AOps.extL 51 (cSl 1 (cInt .u8)) (v2 ++ ([([]:List Int) ++ ((v1.take (Int.toNat (w64 ((w64 (v3 + (4:Int))) + v5)))).drop (Int.toNat (w64 (v3 + (4:Int)))))])) rfl List.length_append.symm (app_at (cSl 1 (cInt .u8)) v2 ([([]:List Int) ++ ((v1.take (Int.toNat (w64 ((w64 (v3 + (4:Int))) + v5)))).drop (Int.toNat (w64 (v3 + (4:Int)))))])) ?_
    refine AOps.go [13] [] [] [0,4,5,6] 0 ⟨[(0,q0 v1),(4,.tv (ownL 1 22 (cSl 1 (cInt .u8)) (v2 ++ ([([]:List Int) ++ ((v1.take (Int.toNat (w64 ((w64 (v3 + (4:Int))) + v5)))).drop (Int.toNat (w64 (v3 + (4:Int)))))])))),(5,tI v3),(6,tI v5)],[]⟩ ?_ z0 trivial ?_
    ·kernel_rfl
    refine AOps.nil ?_
    refine AWp.start [0,1,2,3,4] [] [] [0,4,5] 0 ⟨[(0,q0 v1),(4,.tv (ownL 1 22 (cSl 1 (cInt .u8)) (v2 ++ ([([]:List Int) ++ ((v1.take (Int.toNat (w64 ((w64 (v3 + (4:Int))) + v5)))).drop (Int.toNat (w64 (v3 + (4:Int)))))])))),(5,tI (w64 (v3 + (w64 ((8:Int) + v5)))))],[]⟩ rfl ?_ z0 trivial ?_
    ·kernel_rfl
    refine AOps.nil ?_
    cases h
    exact Or.inl ⟨_,rfl,rfl,rfl⟩
  ·replace h:=of_false h hb
   refine AWp.keepTo [4] 0 ⟨[(4,.tv (ownL 1 22 (cSl 1 (cInt .u8)) v2))],[]⟩ ?_ z0 ?_
   ·kernel_rfl
   refine AWp.exit ?_
   cases h
   exact Or.inr ⟨_,rfl,by simp,rfl,rfl⟩
 ·intro e σ hp
  rcases y with v10 | v4
  ·obtain ⟨rfl,rfl⟩:=hp
   cases h
   exact ⟨.inr rfl,rfl⟩
  ·obtain ⟨rfl,rfl⟩:=hp
   refine AWp.seq ?_
   refine AWp.freezeL 4 (cSl 1 (cInt .u8)) v4 rfl (fun _=>rfl) ?_
   refine AWp.start [0,1,2] [] [] [2,3] 0 ⟨[(2,.tv (fzL 1 (cSl 1 (cInt .u8)) v4)),(3,tI (0:Int))],[]⟩ rfl ?_ z0 trivial ?_
   ·kernel_rfl
   refine AOps.nil ?_
   refine AWp.ret ?_
   cases h
   exact ⟨.inr rfl,rfl⟩

abbrev hp2 (v1:List UInt8) (v2:Int):List AObj:=[.cells 79 [.str v1,.int .i64 v2,fzL 1 (cSl 1 (cInt .u8)) ([]:List (List Int)),.bool false,.int .i64 (0:Int),.bool false,k1 ([]:List Int)]]
abbrev hp3 (v1:List UInt8) (v2:Int) (v3:List Int):List AObj:=[.cells 79 [.str v1,.int .i64 v2,fzL 1 (cSl 1 (cInt .u8)) ([]:List (List Int)),.bool false,.int .i64 (0:Int),.bool false,k1 (([]:List Int) ++ v3)]]
abbrev hp4 (v1:List UInt8) (v2:Int):List AObj:=[.cells 79 [.str v1,.int .i64 v2,nS,.bool false,.int .i64 (0:Int),.bool false,nS]]
abbrev hp5 (v1:List UInt8) (v2:Int) (v12:List (List Int)) (v13:Bool) (v14:Int) (v15:List Int):List AObj:=[.cells 79 [.str v1,.int .i64 v2,fzL 1 (cSl 1 (cInt .u8)) v12,.bool v13,.int .i64 v14,.bool false,k1 v15]]

noncomputable def f26_j1 (v1:List UInt8) (v2:Int) (v11:Int) (v12:List (List Int)) (v13:Bool) (v14:Int) (v15:List Int):Option ((Option T78) × Int) :=
 cond (v11 != (0:Int)) (some (none,v11)) (some (some (T78.mk v1 v2 v12 v13 v14 false v15),(0:Int)))

noncomputable def f26 (v1:List UInt8) (v2:Int) (v3:List Int):Option ((Option T78) × Int) :=
 (f46 (T78.mk v1 v2 ([]:List (List Int)) false (0:Int) false ([]:List Int))).bind fun v4=>(cond (!v4) (some (!(v1 == ([100,105,114,101,99,116]:List UInt8)))) (some false)).bind fun v5=>(cond v5 (some (!(v1 == ([115,116,114,101,97,109]:List UInt8)))) (some false)).bind fun v6=>cond v6 (some (none,(2:Int))) ((cond (!(v1 == ([100,105,114,101,99,116]:List UInt8))) (some (v2 != (0:Int))) (some false)).bind fun v7=>(cond v7 (some true) ((cond (v1 == ([100,105,114,101,99,116]:List UInt8)) ((cond (decide (v2 < (1:Int))) (some true) (some (decide (v2 > (1000:Int))))).bind fun v10=>some v10) (some false)).bind fun v9=>some v9)).bind fun v8=>cond v8 (some (none,(2:Int))) (cond (decide ((v3.length:Int) > (20000:Int))) (some (none,(4:Int))) (cond (v1 == ([108,105,110,101,115]:List UInt8)) ((f47 v3).bind fun v16=>f26_j1 v1 v2 (0:Int) v16.1 v16.2 (0:Int) ([]:List Int)) (cond (v1 == ([114,101,99,111,114,100,115]:List UInt8)) ((f11 v3).bind fun v17=>f26_j1 v1 v2 v17.2 v17.1 false (0:Int) ([]:List Int)) (if (([]:List Int).length + v3.length) * 1 ≤ 140737488355328 then cond (v1 == ([115,116,114,101,97,109]:List UInt8)) (f26_j1 v1 v2 (0:Int) ([]:List (List Int)) false (1:Int) (([]:List Int) ++ v3)) (f26_j1 v1 v2 (0:Int) ([]:List (List Int)) false (0:Int) (([]:List Int) ++ v3)) else none)))))

theorem f26_ok (v1:List UInt8) (v2:Int) (v3:List Int) {r:(Option T78) × Int} (h:f26 v1 v2 v3 = some r):ACall Try.prog 26 [.tv (.str v1),.tv (.int .i64 v2),.tv (fzL 1 (cInt .u8) v3)] [] (.tup [(match r.1 with | none=>.tv (.sc (.pointer none)) | some _=>.pc 0 0),.tv (.int .i64 r.2)]) ([] ++ (match r.1 with | none=>[] | some u=>[.cells 79 [.str u.f0,.int .i64 u.f1,fzL 1 (cSl 1 (cInt .u8)) u.f2,.bool u.f3,.int .i64 u.f4,.bool u.f5,ownL 1 5 (cInt .u8) u.f6]])):=by
 refine ACall.ofN (FF 90 0) (rs:=[6,7]) (env:=[(6,(match r.1 with | none=>.tv (.sc (.pointer none)) | some _=>.pc 0 0)),(7,tI r.2)]) Try.func26 rfl Try.ntmps26 Try.results26 (by decide) (by decide) rfl (zz rfl) rfl (get_ofN _ _ _ rfl) (ok_ofN _ (by obtain ⟨r,r2⟩:=r; cases r <;> rfl)) ?_
 refine AWp.seq ?_
 refine AWp.start [0,1] [] [] [0,1,2] 0 ⟨[(0,tS v1),(1,tI v2),(2,q0 v3)],[]⟩ rfl ?_ z0 trivial ?_
 ·kernel_rfl
 refine AOps.nil ?_
 refine AWp.seq ?_
 refine AWp.start [0,1,2,3,4] [] [] [0,1,2,8] 1 ⟨[(0,tS v1),(1,tI v2),(2,q0 v3),(8,.pc 0 0)],hp4 v1 v2⟩ rfl ?_ z0 trivial ?_
 ·kernel_rfl
 refine AOps.nil ?_
 refine AWp.seq ?_
 refine AWp.start [0,1,2] [] [] [0,1,2,8,9] 1 ⟨[(0,tS v1),(1,tI v2),(2,q0 v3),(8,.pc 0 0),(9,tB (v1 == ([100,105,114,101,99,116]:List UInt8)))],hp4 v1 v2⟩ rfl ?_ z0 trivial ?_
 ·kernel_rfl
 refine AOps.nil ?_
 refine AWp.seq ?_
 refine AWp.block ?_
 refine AWp.seq ?_
 refine AWp.start [0] [1,2,3,4,5,6,7,8,9,10,11] [] [0,1,2,8,9,18] 1 ⟨[(0,tS v1),(1,tI v2),(2,q0 v3),(8,.pc 0 0),(9,tB (v1 == ([100,105,114,101,99,116]:List UInt8))),(18,.pc 0 0)],hp4 v1 v2⟩ rfl ?_ z0 trivial ?_
 ·kernel_rfl
 refine AOps.retell 0 2 rfl (.nilFz 1 (fun i=>(cSl 1 (cInt .u8)) (([]:List (List Int)).getD i default))) ?_
 refine AOps.retell 0 6 rfl (.nilOwn 1 5 (fun i=>(cInt .u8) (([]:List Int).getD i default))) ?_
 obtain ⟨v4,hv4,h⟩:=of_bind h
 refine AOps.cons (AOne.callR (F:=(FF 90 0)) _ rfl rfl rfl _ rfl rfl _ _ rfl Try.call46 [PlainTo (([]:List Int).length) (fun i=>(cInt .u8) (([]:List Int).getD i default))] [.rp [.str v1,.int .i64 v2,fzL 1 (cSl 1 (cInt .u8)) ([]:List (List Int)),.bool false,.int .i64 (0:Int),.bool false,k0 ([]:List Int)]] rfl (fun _ _=>rfl) (f46_ok (T78.mk v1 v2 ([]:List (List Int)) false (0:Int) false ([]:List Int)) hv4) (ind_of rfl) rfl) ?_
 refine AOps.go [2,3] [4,5,6,7,8,9,10,11] [] [0,1,2,8,9,21] 1 ⟨[(0,tS v1),(1,tI v2),(2,q0 v3),(8,.pc 0 0),(9,tB (v1 == ([100,105,114,101,99,116]:List UInt8))),(21,tB (!v4))],hp2 v1 v2⟩ ?_ z0 trivial ?_
 ·kernel_rfl
 obtain ⟨v5,hc4,h⟩:=of_bind h
 refine AOps.cut [4,5,6] [7,8,9,10,11] (fun σ=>σ = ⟨[(0,tS v1),(1,tI v2),(2,q0 v3),(8,.pc 0 0),(9,tB (v1 == ([100,105,114,101,99,116]:List UInt8))),(24,tB v5)],hp2 v1 v2⟩) ?_ fun σ' hJ=>?_
 ·refine AOps.split (fun b=>⟨[(0,tS v1),(1,tI v2),(2,q0 v3),(8,.pc 0 0),(9,tB (v1 == ([100,105,114,101,99,116]:List UInt8))),(21,tB b)],hp2 v1 v2⟩) _ (fun hb=>?_) fun hb=>?_
  ·replace hc4:=of_true hc4 hb
   refine AOps.go [4,5,6] [] [] [0,1,2,8,9,24] 1 ⟨[(0,tS v1),(1,tI v2),(2,q0 v3),(8,.pc 0 0),(9,tB (v1 == ([100,105,114,101,99,116]:List UInt8))),(24,tB (!(v1 == ([100,105,114,101,99,116]:List UInt8))))],hp2 v1 v2⟩ ?_ z0 trivial ?_
   ·kernel_rfl
   cases hc4
   exact AOps.nil rfl
  ·replace hc4:=of_false hc4 hb
   refine AOps.go [4,5,6] [] [] [0,1,2,8,9,24] 1 ⟨[(0,tS v1),(1,tI v2),(2,q0 v3),(8,.pc 0 0),(9,tB (v1 == ([100,105,114,101,99,116]:List UInt8))),(24,tB false)],hp2 v1 v2⟩ ?_ z0 trivial ?_
   ·kernel_rfl
   cases hc4
   exact AOps.nil rfl
 subst hJ
 refine AOps.go [7] [8,9,10,11] [] [0,1,2,8,9,25] 1 ⟨[(0,tS v1),(1,tI v2),(2,q0 v3),(8,.pc 0 0),(9,tB (v1 == ([100,105,114,101,99,116]:List UInt8))),(25,tB v5)],hp2 v1 v2⟩ ?_ z0 trivial ?_
 ·kernel_rfl
 obtain ⟨v6,hc8,h⟩:=of_bind h
 refine AOps.cut [8,9,10] [11] (fun σ=>σ = ⟨[(0,tS v1),(1,tI v2),(2,q0 v3),(8,.pc 0 0),(9,tB (v1 == ([100,105,114,101,99,116]:List UInt8))),(28,tB v6)],hp2 v1 v2⟩) ?_ fun σ' hJ=>?_
 ·refine AOps.split (fun b=>⟨[(0,tS v1),(1,tI v2),(2,q0 v3),(8,.pc 0 0),(9,tB (v1 == ([100,105,114,101,99,116]:List UInt8))),(25,tB b)],hp2 v1 v2⟩) _ (fun hb=>?_) fun hb=>?_
  ·replace hc8:=of_true hc8 hb
   refine AOps.go [8,9,10] [] [] [0,1,2,8,9,28] 1 ⟨[(0,tS v1),(1,tI v2),(2,q0 v3),(8,.pc 0 0),(9,tB (v1 == ([100,105,114,101,99,116]:List UInt8))),(28,tB (!(v1 == ([115,116,114,101,97,109]:List UInt8))))],hp2 v1 v2⟩ ?_ z0 trivial ?_
   ·kernel_rfl
   cases hc8
   exact AOps.nil rfl
  ·replace hc8:=of_false hc8 hb
   refine AOps.go [8,9,10] [] [] [0,1,2,8,9,28] 1 ⟨[(0,tS v1),(1,tI v2),(2,q0 v3),(8,.pc 0 0),(9,tB (v1 == ([100,105,114,101,99,116]:List UInt8))),(28,tB false)],hp2 v1 v2⟩ ?_ z0 trivial ?_
   ·kernel_rfl
   cases hc8
   exact AOps.nil rfl
 subst hJ
 refine AOps.go [11] [] [] [0,1,2,8,9,17] 1 ⟨[(0,tS v1),(1,tI v2),(2,q0 v3),(8,.pc 0 0),(9,tB (v1 == ([100,105,114,101,99,116]:List UInt8))),(17,tB v6)],hp2 v1 v2⟩ ?_ z0 trivial ?_
 ·kernel_rfl
 refine AOps.nil ?_
 refine AWp.cond rfl (fun hb=>?_) fun hb=>?_
 ·replace h:=of_true h hb
  refine AWp.keepTo [] 0 ⟨[],[]⟩ ?_ z0 ?_
  ·kernel_rfl
  refine AWp.seq ?_
  refine AWp.start [0,1] [] [] [6,7] 0 ⟨[(6,.tv (.sc (.pointer none))),(7,tI (2:Int))],[]⟩ rfl ?_ z0 trivial ?_
  ·kernel_rfl
  refine AOps.nil ?_
  refine AWp.ret ?_
  cases h
  exact ⟨.inr rfl,rfl⟩
 ·replace h:=of_false h hb
  refine AWp.keepTo [0,1,2,8,9] 1 ⟨[(0,tS v1),(1,tI v2),(2,q0 v3),(8,.pc 0 0),(9,tB (v1 == ([100,105,114,101,99,116]:List UInt8)))],hp2 v1 v2⟩ ?_ z0 ?_
  ·kernel_rfl
  refine AWp.seq ?_
  refine AWp.start [0,1,2] [3,4,5,6,7,8,9,10,11,12,13,14,15,16,17] [] [0,1,2,8,9,32] 1 ⟨[(0,tS v1),(1,tI v2),(2,q0 v3),(8,.pc 0 0),(9,tB (v1 == ([100,105,114,101,99,116]:List UInt8))),(32,tB (!(v1 == ([100,105,114,101,99,116]:List UInt8))))],hp2 v1 v2⟩ rfl ?_ z0 trivial ?_
  ·kernel_rfl
  obtain ⟨v7,hc3,h⟩:=of_bind h
  refine AOps.cut [3,4,5] [6,7,8,9,10,11,12,13,14,15,16,17] (fun σ=>σ = ⟨[(0,tS v1),(1,tI v2),(2,q0 v3),(8,.pc 0 0),(9,tB (v1 == ([100,105,114,101,99,116]:List UInt8))),(35,tB v7)],hp2 v1 v2⟩) ?_ fun σ' hJ=>?_
  ·refine AOps.split (fun b=>⟨[(0,tS v1),(1,tI v2),(2,q0 v3),(8,.pc 0 0),(9,tB (v1 == ([100,105,114,101,99,116]:List UInt8))),(32,tB b)],hp2 v1 v2⟩) _ (fun hb=>?_) fun hb=>?_
   ·replace hc3:=of_true hc3 hb
    refine AOps.go [3,4,5] [] [] [0,1,2,8,9,35] 1 ⟨[(0,tS v1),(1,tI v2),(2,q0 v3),(8,.pc 0 0),(9,tB (v1 == ([100,105,114,101,99,116]:List UInt8))),(35,tB (v2 != (0:Int)))],hp2 v1 v2⟩ ?_ z0 trivial ?_
    ·kernel_rfl
    cases hc3
    exact AOps.nil rfl
   ·replace hc3:=of_false hc3 hb
    refine AOps.go [3,4,5] [] [] [0,1,2,8,9,35] 1 ⟨[(0,tS v1),(1,tI v2),(2,q0 v3),(8,.pc 0 0),(9,tB (v1 == ([100,105,114,101,99,116]:List UInt8))),(35,tB false)],hp2 v1 v2⟩ ?_ z0 trivial ?_
    ·kernel_rfl
    cases hc3
    exact AOps.nil rfl
  subst hJ
  refine AOps.go [6] [7,8,9,10,11,12,13,14,15,16,17] [] [0,1,2,8,9,36] 1 ⟨[(0,tS v1),(1,tI v2),(2,q0 v3),(8,.pc 0 0),(9,tB (v1 == ([100,105,114,101,99,116]:List UInt8))),(36,tB v7)],hp2 v1 v2⟩ ?_ z0 trivial ?_
  ·kernel_rfl
  obtain ⟨v8,hc7,h⟩:=of_bind h
  refine AOps.cut [7,8,9,10,11,12,13,14,15,16] [17] (fun σ=>σ = ⟨[(0,tS v1),(2,q0 v3),(8,.pc 0 0),(46,tB v8)],hp2 v1 v2⟩) ?_ fun σ' hJ=>?_
  ·refine AOps.split (fun b=>⟨[(0,tS v1),(1,tI v2),(2,q0 v3),(8,.pc 0 0),(9,tB (v1 == ([100,105,114,101,99,116]:List UInt8))),(36,tB b)],hp2 v1 v2⟩) _ (fun hb=>?_) fun hb=>?_
   ·replace hc7:=of_true hc7 hb
    refine AOps.go [7,8,9,10,11,12,13,14,15,16] [] [] [0,2,8,46] 1 ⟨[(0,tS v1),(2,q0 v3),(8,.pc 0 0),(46,tB true)],hp2 v1 v2⟩ ?_ z0 trivial ?_
    ·kernel_rfl
    cases hc7
    exact AOps.nil rfl
   ·replace hc7:=of_false hc7 hb
    refine AOps.go [7,8] [9,10,11,12,13,14,15,16] [] [0,1,2,8,36,38] 1 ⟨[(0,tS v1),(1,tI v2),(2,q0 v3),(8,.pc 0 0),(36,tB false),(38,tB (v1 == ([100,105,114,101,99,116]:List UInt8)))],hp2 v1 v2⟩ ?_ z0 trivial ?_
    ·kernel_rfl
    obtain ⟨v9,hc9,hc7⟩:=of_bind hc7
    refine AOps.cut [9,10,11,12,13,14,15] [16] (fun σ=>σ = ⟨[(0,tS v1),(2,q0 v3),(8,.pc 0 0),(36,tB false),(45,tB v9)],hp2 v1 v2⟩) ?_ fun σ' hJ=>?_
    ·refine AOps.split (fun b=>⟨[(0,tS v1),(1,tI v2),(2,q0 v3),(8,.pc 0 0),(36,tB false),(38,tB b)],hp2 v1 v2⟩) _ (fun hb=>?_) fun hb=>?_
     ·replace hc9:=of_true hc9 hb
      refine AOps.go [9,10,11] [12,13,14,15] [] [0,1,2,8,36,38,41] 1 ⟨[(0,tS v1),(1,tI v2),(2,q0 v3),(8,.pc 0 0),(36,tB false),(38,tB true),(41,tB (decide (v2 < (1:Int))))],hp2 v1 v2⟩ ?_ z0 trivial ?_
      ·kernel_rfl
      obtain ⟨v10,hc12,hc9⟩:=of_bind hc9
      refine AOps.cut [12,13,14] [15] (fun σ=>σ = ⟨[(0,tS v1),(2,q0 v3),(8,.pc 0 0),(36,tB false),(38,tB true),(44,tB v10)],hp2 v1 v2⟩) ?_ fun σ' hJ=>?_
      ·refine AOps.split (fun b=>⟨[(0,tS v1),(1,tI v2),(2,q0 v3),(8,.pc 0 0),(36,tB false),(38,tB true),(41,tB b)],hp2 v1 v2⟩) _ (fun hb=>?_) fun hb=>?_
       ·replace hc12:=of_true hc12 hb
        refine AOps.go [12,13,14] [] [] [0,2,8,36,38,44] 1 ⟨[(0,tS v1),(2,q0 v3),(8,.pc 0 0),(36,tB false),(38,tB true),(44,tB true)],hp2 v1 v2⟩ ?_ z0 trivial ?_
        ·kernel_rfl
        cases hc12
        exact AOps.nil rfl
       ·replace hc12:=of_false hc12 hb
        refine AOps.go [12,13,14] [] [] [0,2,8,36,38,44] 1 ⟨[(0,tS v1),(2,q0 v3),(8,.pc 0 0),(36,tB false),(38,tB true),(44,tB (decide (v2 > (1000:Int))))],hp2 v1 v2⟩ ?_ z0 trivial ?_
        ·kernel_rfl
        cases hc12
        exact AOps.nil rfl
      subst hJ
      refine AOps.go [15] [] [] [0,2,8,36,45] 1 ⟨[(0,tS v1),(2,q0 v3),(8,.pc 0 0),(36,tB false),(45,tB v10)],hp2 v1 v2⟩ ?_ z0 trivial ?_
      ·kernel_rfl
      cases hc9
      exact AOps.nil rfl
     ·replace hc9:=of_false hc9 hb
      refine AOps.go [9,10,11,12,13,14,15] [] [] [0,2,8,36,45] 1 ⟨[(0,tS v1),(2,q0 v3),(8,.pc 0 0),(36,tB false),(45,tB false)],hp2 v1 v2⟩ ?_ z0 trivial ?_
      ·kernel_rfl
      cases hc9
      exact AOps.nil rfl
    subst hJ
    refine AOps.go [16] [] [] [0,2,8,46] 1 ⟨[(0,tS v1),(2,q0 v3),(8,.pc 0 0),(46,tB v9)],hp2 v1 v2⟩ ?_ z0 trivial ?_
    ·kernel_rfl
    cases hc7
    exact AOps.nil rfl
  subst hJ
  refine AOps.go [17] [] [] [0,2,8,29] 1 ⟨[(0,tS v1),(2,q0 v3),(8,.pc 0 0),(29,tB v8)],hp2 v1 v2⟩ ?_ z0 trivial ?_
  ·kernel_rfl
  refine AOps.nil ?_
  refine AWp.cond rfl (fun hb=>?_) fun hb=>?_
  ·replace h:=of_true h hb
   refine AWp.keepTo [] 0 ⟨[],[]⟩ ?_ z0 ?_
   ·kernel_rfl
   refine AWp.seq ?_
   refine AWp.start [0,1] [] [] [6,7] 0 ⟨[(6,.tv (.sc (.pointer none))),(7,tI (2:Int))],[]⟩ rfl ?_ z0 trivial ?_
   ·kernel_rfl
   refine AOps.nil ?_
   refine AWp.ret ?_
   cases h
   exact ⟨.inr rfl,rfl⟩
  ·replace h:=of_false h hb
   refine AWp.keepTo [0,2,8] 1 ⟨[(0,tS v1),(2,q0 v3),(8,.pc 0 0)],hp2 v1 v2⟩ ?_ z0 ?_
   ·kernel_rfl
   refine AWp.seq ?_
   refine AWp.start [0,1,2,3] [] [] [0,2,8,47] 1 ⟨[(0,tS v1),(2,q0 v3),(8,.pc 0 0),(47,tB (decide ((v3.length:Int) > (20000:Int))))],hp2 v1 v2⟩ rfl ?_ z0 trivial ?_
   ·kernel_rfl
   refine AOps.nil ?_
   refine AWp.cond rfl (fun hb=>?_) fun hb=>?_
   ·replace h:=of_true h hb
    refine AWp.keepTo [] 0 ⟨[],[]⟩ ?_ z0 ?_
    ·kernel_rfl
    refine AWp.seq ?_
    refine AWp.start [0,1] [] [] [6,7] 0 ⟨[(6,.tv (.sc (.pointer none))),(7,tI (4:Int))],[]⟩ rfl ?_ z0 trivial ?_
    ·kernel_rfl
    refine AOps.nil ?_
    refine AWp.ret ?_
    cases h
    exact ⟨.inr rfl,rfl⟩
   ·replace h:=of_false h hb
    refine AWp.keepTo [0,2,8] 1 ⟨[(0,tS v1),(2,q0 v3),(8,.pc 0 0)],hp2 v1 v2⟩ ?_ z0 ?_
    ·kernel_rfl
    refine AWp.skip ?_
    refine AWp.seq ?_
    refine AWp.start [0] [] [] [0,2,8,10] 1 ⟨[(0,tS v1),(2,q0 v3),(8,.pc 0 0),(10,tI (0:Int))],hp2 v1 v2⟩ rfl ?_ z0 trivial ?_
    ·kernel_rfl
    refine AOps.nil ?_
    refine AWp.join (V:=Int × (List (List Int)) × Bool × Int × (List Int)) (fun w=>⟨[(8,.pc 0 0),(10,tI w.1)],[.cells 79 [.str v1,.int .i64 v2,fzL 1 (cSl 1 (cInt .u8)) w.2.1,.bool w.2.2.1,.int .i64 w.2.2.2.1,.bool false,k1 w.2.2.2.2]]⟩) (fun w=>f26_j1 v1 v2 w.1 w.2.1 w.2.2.1 w.2.2.2.1 w.2.2.2.2 = some r) ?_ ?_
    ·refine AWp.seq ?_
     refine AWp.start [0] [] [] [0,2,8,10,51] 1 ⟨[(0,tS v1),(2,q0 v3),(8,.pc 0 0),(10,tI (0:Int)),(51,tS v1)],hp2 v1 v2⟩ rfl ?_ z0 trivial ?_
     ·kernel_rfl
     refine AOps.nil ?_
     refine AWp.block ?_
     refine AWp.seq ?_
     refine AWp.start [0,1] [] [] [0,2,8,10,51,63] 1 ⟨[(0,tS v1),(2,q0 v3),(8,.pc 0 0),(10,tI (0:Int)),(51,tS v1),(63,tB (v1 == ([108,105,110,101,115]:List UInt8)))],hp2 v1 v2⟩ rfl ?_ z0 trivial ?_
     ·kernel_rfl
     refine AOps.nil ?_
     refine AWp.cond rfl (fun hb=>?_) fun hb=>?_
     ·replace h:=of_true h hb
      refine AWp.keepTo [2,8,10] 1 ⟨[(2,q0 v3),(8,.pc 0 0),(10,tI (0:Int))],hp2 v1 v2⟩ ?_ z0 ?_
      ·kernel_rfl
      refine AWp.start [0,1,2] [3,4,5,6,7,8,9,10,11,12] [] [8,10,66,67,68] 1 ⟨[(8,.pc 0 0),(10,tI (0:Int)),(66,.pc 0 0),(67,.pc 0 0),(68,q0 v3)],hp2 v1 v2⟩ rfl ?_ z0 trivial ?_
      ·kernel_rfl
      obtain ⟨v16,hv16,h⟩:=of_bind h
      refine AOps.cons (AOne.callP (F:=(FF 90 0)) _ rfl rfl rfl _ rfl rfl _ _ rfl Try.call47 [q0 v3] rfl rfl (f47_ok v3 hv16) rfl) ?_
      refine AOps.go [4,5,6,7,8,9,10,11,12] [] [] [8,10] 1 ⟨[(8,.pc 0 0),(10,tI (0:Int))],[.cells 79 [.str v1,.int .i64 v2,fzL 1 (cSl 1 (cInt .u8)) v16.1,.bool v16.2,.int .i64 (0:Int),.bool false,k1 ([]:List Int)]]⟩ ?_ z0 trivial ?_
      ·kernel_rfl
      refine AOps.nil ?_
      exact ⟨((0:Int),v16.1,v16.2,(0:Int),([]:List Int)),h,rfl⟩
     ·replace h:=of_false h hb
      refine AWp.keepTo [0,2,8,10,51] 1 ⟨[(0,tS v1),(2,q0 v3),(8,.pc 0 0),(10,tI (0:Int)),(51,tS v1)],hp2 v1 v2⟩ ?_ z0 ?_
      ·kernel_rfl
      refine AWp.seq ?_
      refine AWp.start [0,1] [] [] [0,2,8,10,76] 1 ⟨[(0,tS v1),(2,q0 v3),(8,.pc 0 0),(10,tI (0:Int)),(76,tB (v1 == ([114,101,99,111,114,100,115]:List UInt8)))],hp2 v1 v2⟩ rfl ?_ z0 trivial ?_
      ·kernel_rfl
      refine AOps.nil ?_
      refine AWp.cond rfl (fun hb=>?_) fun hb=>?_
      ·replace h:=of_true h hb
       refine AWp.keepTo [2,8] 1 ⟨[(2,q0 v3),(8,.pc 0 0)],hp2 v1 v2⟩ ?_ z0 ?_
       ·kernel_rfl
       refine AWp.start [0,1] [2,3,4,5,6,7,8,9] [] [8,79,80] 1 ⟨[(8,.pc 0 0),(79,.pc 0 0),(80,q0 v3)],hp2 v1 v2⟩ rfl ?_ z0 trivial ?_
       ·kernel_rfl
       obtain ⟨v17,hv17,h⟩:=of_bind h
       refine AOps.cons (AOne.callP (F:=(FF 90 0)) _ rfl rfl rfl _ rfl rfl _ _ rfl Try.call11 [q0 v3] rfl rfl (f11_ok v3 hv17) rfl) ?_
       refine AOps.go [3,4,5,6,7,8,9] [] [] [8,10] 1 ⟨[(8,.pc 0 0),(10,tI v17.2)],[.cells 79 [.str v1,.int .i64 v2,fzL 1 (cSl 1 (cInt .u8)) v17.1,.bool false,.int .i64 (0:Int),.bool false,k1 ([]:List Int)]]⟩ ?_ z0 trivial ?_
       ·kernel_rfl
       refine AOps.nil ?_
       exact ⟨(v17.2,v17.1,false,(0:Int),([]:List Int)),h,rfl⟩
      ·replace h:=of_false h hb
       refine AWp.keepTo [0,2,8,10] 1 ⟨[(0,tS v1),(2,q0 v3),(8,.pc 0 0),(10,tI (0:Int))],hp2 v1 v2⟩ ?_ z0 ?_
       ·kernel_rfl
       refine AWp.seq ?_
       refine AWp.start [0,1] [2,3,4,5,6] [] [0,2,8,10,52,53] 1 ⟨[(0,tS v1),(2,q0 v3),(8,.pc 0 0),(10,tI (0:Int)),(52,.pc 0 0),(53,.tv (.own 1 5 0 (newRowF [] 1)))],hp2 v1 v2⟩ rfl ?_ z0 trivial ?_
       ·kernel_rfl
       refine AOps.extL 53 (cInt .u8) ([]:List Int) rfl rfl (row_at (cInt .u8) 1 (fun _=>rfl) ([]:List Int) _ rfl) ?_
       obtain ⟨hg,h⟩:=of_guard h
       refine AOps.go [2,3] [4,5,6] [(([]:List Int).length + v3.length) * 1 ≤ 140737488355328,PlainTo (([]:List Int).length) (fun i=>(cInt .u8) (([]:List Int).getD i default)),PlainTo v3.length (fun i=>(cInt .u8) (v3.getD i default))] [0,8,10,52,55] 1 ⟨[(0,tS v1),(8,.pc 0 0),(10,tI (0:Int)),(52,.pc 0 0),(55,.tv (.own 1 5 (([]:List Int).length + v3.length) (appF (([]:List Int).length) (fun i=>(cInt .u8) (([]:List Int).getD i default)) (fun i=>(cInt .u8) (v3.getD i default)))))],hp2 v1 v2⟩ ?_ z0 ⟨hg,(fun _ _=>rfl),(fun _ _=>rfl)⟩ ?_
       ·kernel_rfl
       refine AOps.extL 55 (cInt .u8) (([]:List Int) ++ v3) rfl List.length_append.symm (app_at (cInt .u8) ([]:List Int) v3) ?_
       refine AOps.go [4,5] [6] [] [0,8,10,55,57] 1 ⟨[(0,tS v1),(8,.pc 0 0),(10,tI (0:Int)),(55,q1 (([]:List Int) ++ v3)),(57,.pc 0 6)],hp2 v1 v2⟩ ?_ z0 trivial ?_
       ·kernel_rfl
       refine AOps.cons (AOne.own (F:=(FF 90 0)) _ rfl rfl rfl rfl) ?_
       refine AOps.keepTo [0,8,10] 1 ⟨[(0,tS v1),(8,.pc 0 0),(10,tI (0:Int))],hp3 v1 v2 v3⟩ ?_ z0 ?_
       ·kernel_rfl
       refine AOps.nil ?_
       refine AWp.seq ?_
       refine AWp.start [0,1] [] [] [8,10,59] 1 ⟨[(8,.pc 0 0),(10,tI (0:Int)),(59,tB (v1 == ([115,116,114,101,97,109]:List UInt8)))],hp3 v1 v2 v3⟩ rfl ?_ z0 trivial ?_
       ·kernel_rfl
       refine AOps.nil ?_
       refine AWp.cond rfl (fun hb=>?_) fun hb=>?_
       ·replace h:=of_true h hb
        refine AWp.keepTo [8,10] 1 ⟨[(8,.pc 0 0),(10,tI (0:Int))],hp3 v1 v2 v3⟩ ?_ z0 ?_
        ·kernel_rfl
        refine AWp.start [0,1,2,3] [] [] [8,10] 1 ⟨[(8,.pc 0 0),(10,tI (0:Int))],[.cells 79 [.str v1,.int .i64 v2,fzL 1 (cSl 1 (cInt .u8)) ([]:List (List Int)),.bool false,.int .i64 (1:Int),.bool false,k1 (([]:List Int) ++ v3)]]⟩ rfl ?_ z0 trivial ?_
        ·kernel_rfl
        refine AOps.nil ?_
        exact ⟨((0:Int),([]:List (List Int)),false,(1:Int),([]:List Int) ++ v3),h,rfl⟩
       ·replace h:=of_false h hb
        refine AWp.keepTo [8,10] 1 ⟨[(8,.pc 0 0),(10,tI (0:Int))],hp3 v1 v2 v3⟩ ?_ z0 ?_
        ·kernel_rfl
        refine AWp.skip ?_
        exact ⟨((0:Int),([]:List (List Int)),false,(0:Int),([]:List Int) ++ v3),h,rfl⟩
    ·rintro ⟨v11,v12,v13,v14,v15⟩ h
     refine AWp.seq ?_
     refine AWp.seq ?_
     refine AWp.start [0,1] [] [] [8,10,87] 1 ⟨[(8,.pc 0 0),(10,tI v11),(87,tB (v11 != (0:Int)))],hp5 v1 v2 v12 v13 v14 v15⟩ rfl ?_ z0 trivial ?_
     ·kernel_rfl
     refine AOps.nil ?_
     refine AWp.cond rfl (fun hb=>?_) fun hb=>?_
     ·replace h:=of_true h hb
      refine AWp.keepTo [10] 0 ⟨[(10,tI v11)],[]⟩ ?_ z0 ?_
      ·kernel_rfl
      refine AWp.seq ?_
      refine AWp.start [0,1,2] [] [] [6,7] 0 ⟨[(6,.tv (.sc (.pointer none))),(7,tI v11)],[]⟩ rfl ?_ z0 trivial ?_
      ·kernel_rfl
      refine AOps.nil ?_
      refine AWp.ret ?_
      cases h
      exact ⟨.inr rfl,rfl⟩
     ·replace h:=of_false h hb
      refine AWp.keepTo [8] 1 ⟨[(8,.pc 0 0)],hp5 v1 v2 v12 v13 v14 v15⟩ ?_ z0 ?_
      ·kernel_rfl
      refine AWp.skip ?_
      refine AWp.seq ?_
      refine AWp.start [0,1,2] [] [] [6,7] 1 ⟨[(6,.pc 0 0),(7,tI (0:Int))],hp5 v1 v2 v12 v13 v14 v15⟩ rfl ?_ z0 trivial ?_
      ·kernel_rfl
      refine AOps.nil ?_
      refine AWp.ret ?_
      cases h
      exact ⟨.inr rfl,rfl⟩

noncomputable def f44o_b1 (v1:Int) (v2:List Int) (v6:List Int):Option ((List Int) ⊕ Out ((List Int) × Int) (List Int)) :=
 cond (decide ((v6.length:Int) < w64 (v1 + (v2.length:Int)))) (if (v6.length + [(0:Int)].length) * 1 ≤ 140737488355328 then some (.inl (v6 ++ [(0:Int)])) else none) (some (.inr (.go v6)))

noncomputable def f44o (v1:Int) (v2:List Int) (v3:T64):Option ((List Int) × Int) :=
 (cond (decide (v1 > (20000:Int))) (some true) (some (decide (w64 (v1 + (v2.length:Int)) > (20000:Int))))).bind fun v4=>cond v4 (some (([]:List Int),(4:Int))) ((f37 v3.f2).bind fun v5=>(iter (fun s=>f44o_b1 v1 v2 s) v5).bind fun y=>match y with | .ret v8=>some v8 | .go v7=>if (0:Int) ≤ v1 ∧ v1 + (v2.length:Int) ≤ (v7.length:Int) then some (putL v7 (Int.toNat v1) v2,(0:Int)) else none)

theorem f44o_ok (v1:Int) (v2:List Int) (v3:T64) {r:(List Int) × Int} (h:f44o v1 v2 v3 = some r):ACall Try.prog 44 [.pc 0 0,.tv (.int .i64 v1),.tv (fzL 1 (cInt .u8) v2)] [.cells 65 [.str v3.f0,.int .i64 v3.f1,fzL 1 (cInt .u8) v3.f2,.int .i64 v3.f3,.bool v3.f4]] (.tup [.tv (fzL 1 (cInt .u8) r.1),.tv (.int .i64 r.2)]) [.cells 65 [.str v3.f0,.int .i64 v3.f1,fzL 1 (cInt .u8) v3.f2,.int .i64 v3.f3,.bool v3.f4]]:=by
 refine ACall.ofN (FF 39 1) (rs:=[6,7]) (env:=[(6,q0 r.1),(7,tI r.2)]) Try.func44 rfl Try.ntmps44 Try.results44 (by decide) (by decide) rfl (zz rfl) rfl (get_ofN _ _ _ rfl) (ok_ofN _ rfl) ?_
 refine AWp.seq ?_
 refine AWp.start [0,1] [] [] [0,1,2] 1 ⟨[(0,.pc 0 0),(1,tI v1),(2,q0 v2)],[.cells 65 (c64 v3)]⟩ rfl ?_ (zz rfl) trivial ?_
 ·kernel_rfl
 refine AOps.nil ?_
 refine AWp.seq ?_
 refine AWp.seq ?_
 refine AWp.start [0,1,2] [3,4,5,6,7,8] [] [0,1,2,11] 1 ⟨[(0,.pc 0 0),(1,tI v1),(2,q0 v2),(11,tB (decide (v1 > (20000:Int))))],[.cells 65 (c64 v3)]⟩ rfl ?_ (zz rfl) trivial ?_
 ·kernel_rfl
 obtain ⟨v4,hc3,h⟩:=of_bind h
 refine AOps.cut [3,4,5,6,7,8] [] (fun σ=>σ = ⟨[(0,.pc 0 0),(1,tI v1),(2,q0 v2),(17,tB v4)],[.cells 65 (c64 v3)]⟩) ?_ fun σ' hJ=>?_
 ·refine AOps.split (fun b=>⟨[(0,.pc 0 0),(1,tI v1),(2,q0 v2),(11,tB b)],[.cells 65 (c64 v3)]⟩) _ (fun hb=>?_) fun hb=>?_
  ·replace hc3:=of_true hc3 hb
   refine AOps.go [3,4,5,6,7,8] [] [] [0,1,2,17] 1 ⟨[(0,.pc 0 0),(1,tI v1),(2,q0 v2),(17,tB true)],[.cells 65 (c64 v3)]⟩ ?_ (zz rfl) trivial ?_
   ·kernel_rfl
   cases hc3
   exact AOps.nil rfl
  ·replace hc3:=of_false hc3 hb
   refine AOps.go [3,4,5,6,7,8] [] [] [0,1,2,17] 1 ⟨[(0,.pc 0 0),(1,tI v1),(2,q0 v2),(17,tB (decide (w64 (v1 + (v2.length:Int)) > (20000:Int))))],[.cells 65 (c64 v3)]⟩ ?_ (zz rfl) trivial ?_
   ·kernel_rfl
   cases hc3
   exact AOps.nil rfl
 subst hJ
 refine AOps.nil ?_
 refine AWp.cond rfl (fun hb=>?_) fun hb=>?_
 ·replace h:=of_true h hb
  refine AWp.keepTo [] 1 ⟨[],[.cells 65 (c64 v3)]⟩ ?_ (zz rfl) ?_
  ·kernel_rfl
  refine AWp.seq ?_
  refine AWp.start [0,1] [] [] [6,7] 1 ⟨[(6,.tv (.sc (.slice none 0 0))),(7,tI (4:Int))],[.cells 65 (c64 v3)]⟩ rfl ?_ (zz rfl) trivial ?_
  ·kernel_rfl
  refine AOps.nil ?_
  refine AWp.nilFz 6 1 (fun i=>(cInt .u8) (([]:List Int).getD i default)) rfl ?_
  refine AWp.keepTo [6,7] 1 ⟨[(6,q0 ([]:List Int)),(7,tI (4:Int))],[.cells 65 (c64 v3)]⟩ ?_ (zz rfl) ?_
  ·kernel_rfl
  refine AWp.ret ?_
  cases h
  exact ⟨.inr rfl,rfl⟩
 ·replace h:=of_false h hb
  refine AWp.keepTo [0,1,2] 1 ⟨[(0,.pc 0 0),(1,tI v1),(2,q0 v2)],[.cells 65 (c64 v3)]⟩ ?_ (zz rfl) ?_
  ·kernel_rfl
  refine AWp.skip ?_
  refine AWp.seq ?_
  refine AWp.start [0,1,2,3] [4,5] [] [1,2,21] 1 ⟨[(1,tI v1),(2,q0 v2),(21,q0 v3.f2)],[.cells 65 (c64 v3)]⟩ rfl ?_ (zz rfl) trivial ?_
  ·kernel_rfl
  obtain ⟨v5,hv5,h⟩:=of_bind h
  refine AOps.cons (AOne.callP (F:=(FF 39 1)) _ rfl rfl rfl _ rfl rfl _ _ rfl Try.call37 [q0 v3.f2] rfl rfl (f37_ok v3.f2 hv5) rfl) ?_
  refine AOps.go [5] [] [] [1,2,8] 1 ⟨[(1,tI v1),(2,q0 v2),(8,q1 v5)],[.cells 65 (c64 v3)]⟩ ?_ (zz rfl) trivial ?_
  ·kernel_rfl
  refine AOps.nil ?_
  refine AWp.seq ?_
  refine AWp.block ?_
  obtain ⟨y,hy,h⟩:=of_bind h
  refine AWp.mono (AWp.loop (S:=(List Int)) (Y:=Out ((List Int) × Int) (List Int)) (fun s=>⟨[(1,tI v1),(2,q0 v2),(8,q1 s)],[.cells 65 (c64 v3)]⟩) (fun s=>f44o_b1 v1 v2 s) (fun y e σ=>match y with | .ret r=>e = .ret ∧ σ = ⟨[(6,q0 r.1),(7,tI r.2)],[.cells 65 (c64 v3)]⟩ | .go v=>e = .exit 0 ∧ σ = ⟨[(1,tI v1),(2,q0 v2),(8,q1 v)],[.cells 65 (c64 v3)]⟩) ?_ hy) ?_
  ·rintro v6 o h
   refine AWp.seq ?_
   refine AWp.seq ?_
   refine AWp.start [0,1,2,3,4,5,6] [] [] [1,2,8,29] 1 ⟨[(1,tI v1),(2,q0 v2),(8,q1 v6),(29,tB (decide ((v6.length:Int) < w64 (v1 + (v2.length:Int)))))],[.cells 65 (c64 v3)]⟩ rfl ?_ (zz rfl) trivial ?_
   ·kernel_rfl
   refine AOps.nil ?_
   refine AWp.cond rfl (fun hb=>?_) fun hb=>?_
   ·replace h:=of_true h hb
    refine AWp.keepTo [1,2,8] 1 ⟨[(1,tI v1),(2,q0 v2),(8,q1 v6)],[.cells 65 (c64 v3)]⟩ ?_ (zz rfl) ?_
    ·kernel_rfl
    refine AWp.skip ?_
    refine AWp.block ?_
    refine AWp.start [0,1] [2,3] [] [1,2,8,30,31] 1 ⟨[(1,tI v1),(2,q0 v2),(8,q1 v6),(30,.al (.slot 8 0,[])),(31,.tv (.own 1 5 1 (newRowF [.int .u8 (0:Int)] 1)))],[.cells 65 (c64 v3)]⟩ rfl ?_ (zz rfl) trivial ?_
    ·kernel_rfl
    refine AOps.extL 31 (cInt .u8) [(0:Int)] rfl rfl (row_at (cInt .u8) 1 (fun _=>rfl) [(0:Int)] _ rfl) ?_
    obtain ⟨hg,h⟩:=of_guard h
    refine AOps.go [2] [3] [(v6.length + [(0:Int)].length) * 1 ≤ 140737488355328,PlainTo v6.length (fun i=>(cInt .u8) (v6.getD i default)),PlainTo ([(0:Int)].length) (fun i=>(cInt .u8) ([(0:Int)].getD i default))] [1,2,32] 1 ⟨[(1,tI v1),(2,q0 v2),(32,.tv (.own 1 5 (v6.length + [(0:Int)].length) (appF v6.length (fun i=>(cInt .u8) (v6.getD i default)) (fun i=>(cInt .u8) ([(0:Int)].getD i default)))))],[.cells 65 (c64 v3)]⟩ ?_ (zz rfl) ⟨hg,(fun _ _=>rfl),(fun _ _=>rfl)⟩ ?_
    ·kernel_rfl
    refine AOps.extL 32 (cInt .u8) (v6 ++ [(0:Int)]) rfl List.length_append.symm (app_at (cInt .u8) v6 [(0:Int)]) ?_
    refine AOps.go [3] [] [] [1,2,8] 1 ⟨[(1,tI v1),(2,q0 v2),(8,q1 (v6 ++ [(0:Int)]))],[.cells 65 (c64 v3)]⟩ ?_ (zz rfl) trivial ?_
    ·kernel_rfl
    refine AOps.nil ?_
    cases h
    exact Or.inl ⟨_,rfl,rfl,rfl⟩
   ·replace h:=of_false h hb
    refine AWp.keepTo [1,2,8] 1 ⟨[(1,tI v1),(2,q0 v2),(8,q1 v6)],[.cells 65 (c64 v3)]⟩ ?_ (zz rfl) ?_
    ·kernel_rfl
    refine AWp.exit ?_
    cases h
    exact Or.inr ⟨_,rfl,by simp,rfl,rfl⟩
  ·intro e σ hp
   rcases y with v8 | v7
   ·obtain ⟨rfl,rfl⟩:=hp
    cases h
    exact ⟨.inr rfl,rfl⟩
   ·obtain ⟨rfl,rfl⟩:=hp
    refine AWp.seq ?_
    refine AWp.start [0,1] [2,3,4] [] [2,8,33,34] 1 ⟨[(2,q0 v2),(8,q1 v7),(33,.al (.slot 8 0,[])),(34,tI v1)],[.cells 65 (c64 v3)]⟩ rfl ?_ (zz rfl) trivial ?_
    ·kernel_rfl
    obtain ⟨hg,h⟩:=of_guard h
    refine AOps.cutCopy (F:=(FF 39 1)) (q:=v1) (n:=v7.length) (m:=v2.length) (f:=(fun i=>(cInt .u8) (v7.getD i default))) (fy:=(fun i=>(cInt .u8) (v2.getD i default))) _ _ _ rfl rfl rfl rfl rfl rfl rfl rfl rfl rfl rfl rfl rfl rfl rfl rfl rfl rfl (fun _ _=>rfl) rfl hg.1 rfl (fun _ _=>rfl) hg.2 ?_
    have HB:(Int.toNat v1) + v2.length ≤ v7.length:=by have hh1:(0:Int) ≤ v1:=hg.1; have hh2:v1 + (v2.length:Int) ≤ (v7.length:Int):=hg.2; omega
    refine AOps.keepTo [8] 1 ⟨[(8,.tv (.own 1 5 v7.length (copyF (fun i=>(cInt .u8) (v7.getD i default)) (Int.toNat v1) v2.length (fun i=>(cInt .u8) (v2.getD i default)))))],[.cells 65 (c64 v3)]⟩ ?_ (zz rfl) ?_
    ·kernel_rfl
    refine AOps.extL 8 (cInt .u8) (putL v7 (Int.toNat v1) v2) rfl (putL_len v7 (Int.toNat v1) v2 HB) (putL_at (cInt .u8) v7 (Int.toNat v1) v2 HB) ?_
    refine AOps.keepTo [8] 1 ⟨[(8,q1 (putL v7 (Int.toNat v1) v2))],[.cells 65 (c64 v3)]⟩ ?_ (zz rfl) ?_
    ·kernel_rfl
    refine AOps.nil ?_
    refine AWp.seq ?_
    refine AWp.freezeL 8 (cInt .u8) (putL v7 (Int.toNat v1) v2) rfl (fun _=>rfl) ?_
    refine AWp.start [0,1,2] [] [] [6,7] 1 ⟨[(6,q0 (putL v7 (Int.toNat v1) v2)),(7,tI (0:Int))],[.cells 65 (c64 v3)]⟩ rfl ?_ (zz rfl) trivial ?_
    ·kernel_rfl
    refine AOps.nil ?_
    refine AWp.ret ?_
    cases h
    exact ⟨.inr rfl,rfl⟩

noncomputable def f45 (v1:T64) (v2:Int):Option Int :=
 cond (v2 == (0:Int)) (some v1.f3) (some (w64 (v2 - (1:Int))))

theorem f45_ok (v1:T64) (v2:Int) {r:Int} (h:f45 v1 v2 = some r):ACall Try.prog 45 [.rp [.str v1.f0,.int .i64 v1.f1,fzL 1 (cInt .u8) v1.f2,.int .i64 v1.f3,.bool v1.f4],.tv (.int .i64 v2)] [] (.tv (.int .i64 r)) []:=by
 refine ACall.of1 (FF 13 0) Try.func45 rfl Try.ntmps45 Try.results45 (zz rfl) rfl rfl ?_
 refine AWp.seq ?_
 refine AWp.start [0] [] [] [0,1] 0 ⟨[(0,.rp (c64 v1)),(1,tI v2)],[]⟩ rfl ?_ z0 trivial ?_
 ·kernel_rfl
 refine AOps.nil ?_
 refine AWp.seq ?_
 refine AWp.seq ?_
 refine AWp.start [0,1] [] [] [0,1,6] 0 ⟨[(0,.rp (c64 v1)),(1,tI v2),(6,tB (v2 == (0:Int)))],[]⟩ rfl ?_ z0 trivial ?_
 ·kernel_rfl
 refine AOps.nil ?_
 refine AWp.cond rfl (fun hb=>?_) fun hb=>?_
 ·replace h:=of_true h hb
  refine AWp.keepTo [0] 0 ⟨[(0,.rp (c64 v1))],[]⟩ ?_ z0 ?_
  ·kernel_rfl
  refine AWp.seq ?_
  refine AWp.start [0,1,2,3,4] [] [] [4] 0 ⟨[(4,tI v1.f3)],[]⟩ rfl ?_ z0 trivial ?_
  ·kernel_rfl
  refine AOps.nil ?_
  refine AWp.ret ?_
  cases h
  exact ⟨.inr rfl,rfl⟩
 ·replace h:=of_false h hb
  refine AWp.keepTo [1] 0 ⟨[(1,tI v2)],[]⟩ ?_ z0 ?_
  ·kernel_rfl
  refine AWp.skip ?_
  refine AWp.seq ?_
  refine AWp.start [0,1,2] [] [] [4] 0 ⟨[(4,tI (w64 (v2 - (1:Int))))],[]⟩ rfl ?_ z0 trivial ?_
  ·kernel_rfl
  refine AOps.nil ?_
  refine AWp.ret ?_
  cases h
  exact ⟨.inr rfl,rfl⟩

noncomputable def f24o_j1 (v3:T64) (v10:(List Int) × Int) (v11:List Int):Option (Int × T64) :=
 some (v10.2,T64.mk v3.f0 v3.f1 v11 v3.f3 v3.f4)

noncomputable def f24o_j2 (v2:List Int) (v3:T64) (v12:Int) (v13:List Int):Option (Int × T64) :=
 some ((0:Int),T64.mk v3.f0 v3.f1 v13 (w64 (v12 + (v2.length:Int))) v3.f4)

noncomputable def f24o (v1:Int) (v2:List Int) (v3:T64):Option (Int × T64) :=
 (f41 v3).bind fun v4=>cond v4 (some ((7:Int),v3)) ((f42 v3).bind fun v5=>cond v5 (some ((110:Int),v3)) ((cond (v3.f0 == ([100,105,114,101,99,116]:List UInt8)) ((cond (decide (v1 < (1:Int))) (some true) (some (decide ((v2.length:Int) > v3.f1)))).bind fun v7=>some v7) (some false)).bind fun v6=>(cond v6 (some true) (some (decide (v1 < (0:Int))))).bind fun v8=>cond v8 (some ((2:Int),v3)) (cond (v3.f0 == ([100,105,114,101,99,116]:List UInt8)) (cond (decide (v1 > (20000:Int))) (some ((4:Int),v3)) ((f37 v2).bind fun v9=>if (0:Int) ≤ w64 (v3.f1 - (v2.length:Int)) ∧ (v9.length + (Int.toNat (w64 (v3.f1 - (v2.length:Int))))) * 1 ≤ 140737488355328 then (f44o (w64 ((w64 (v1 - (1:Int))) * v3.f1)) (v9 ++ List.replicate (Int.toNat (w64 (v3.f1 - (v2.length:Int)))) (0:Int)) v3).bind fun v10=>cond (v10.2 == (0:Int)) (f24o_j1 v3 v10 v10.1) (f24o_j1 v3 v10 v3.f2) else none)) ((f45 v3 v1).bind fun v12=>cond (decide (v12 > (20000:Int))) (some ((4:Int),v3)) (cond (decide ((v2.length:Int) > (0:Int))) ((f44o v12 v2 v3).bind fun v14=>cond (v14.2 != (0:Int)) (some (v14.2,v3)) (f24o_j2 v2 v3 v12 v14.1)) (f24o_j2 v2 v3 v12 v3.f2))))))

theorem f24o_ok (v1:Int) (v2:List Int) (v3:T64) {r:Int × T64} (h:f24o v1 v2 v3 = some r):ACall Try.prog 24 [.pc 0 0,.tv (.int .i64 v1),.tv (fzL 1 (cInt .u8) v2)] [.cells 65 [.str v3.f0,.int .i64 v3.f1,fzL 1 (cInt .u8) v3.f2,.int .i64 v3.f3,.bool v3.f4]] (.tv (.int .i64 r.1)) [.cells 65 [.str r.2.f0,.int .i64 r.2.f1,fzL 1 (cInt .u8) r.2.f2,.int .i64 r.2.f3,.bool r.2.f4]]:=by
 refine ACall.of1 (FF 106 1) Try.func24 rfl Try.ntmps24 Try.results24 (zz rfl) rfl rfl ?_
 refine AWp.seq ?_
 refine AWp.start [0] [] [] [0,1,2] 1 ⟨[(0,.pc 0 0),(1,tI v1),(2,q0 v2)],[.cells 65 (c64 v3)]⟩ rfl ?_ (zz rfl) trivial ?_
 ·kernel_rfl
 refine AOps.nil ?_
 refine AWp.seq ?_
 refine AWp.block ?_
 refine AWp.seq ?_
 refine AWp.start [0] [1,2] [] [0,1,2,13] 1 ⟨[(0,.pc 0 0),(1,tI v1),(2,q0 v2),(13,.pc 0 0)],[.cells 65 (c64 v3)]⟩ rfl ?_ (zz rfl) trivial ?_
 ·kernel_rfl
 obtain ⟨v4,hv4,h⟩:=of_bind h
 refine AOps.cons (AOne.callR (F:=(FF 106 1)) _ rfl rfl rfl _ rfl rfl _ _ rfl Try.call41 [] [.rp (c64 v3)] rfl trivial (f41_ok v3 hv4) (ind_of rfl) rfl) ?_
 refine AOps.go [2] [] [] [0,1,2,12] 1 ⟨[(0,.pc 0 0),(1,tI v1),(2,q0 v2),(12,tB v4)],[.cells 65 (c64 v3)]⟩ ?_ (zz rfl) trivial ?_
 ·kernel_rfl
 refine AOps.nil ?_
 refine AWp.cond rfl (fun hb=>?_) fun hb=>?_
 ·replace h:=of_true h hb
  refine AWp.keepTo [] 1 ⟨[],[.cells 65 (c64 v3)]⟩ ?_ (zz rfl) ?_
  ·kernel_rfl
  refine AWp.seq ?_
  refine AWp.start [0] [] [] [6] 1 ⟨[(6,tI (7:Int))],[.cells 65 (c64 v3)]⟩ rfl ?_ (zz rfl) trivial ?_
  ·kernel_rfl
  refine AOps.nil ?_
  refine AWp.ret ?_
  cases h
  exact ⟨.inr rfl,rfl⟩
 ·replace h:=of_false h hb
  refine AWp.keepTo [0,1,2] 1 ⟨[(0,.pc 0 0),(1,tI v1),(2,q0 v2)],[.cells 65 (c64 v3)]⟩ ?_ (zz rfl) ?_
  ·kernel_rfl
  refine AWp.seq ?_
  refine AWp.start [0] [1,2] [] [0,1,2,16] 1 ⟨[(0,.pc 0 0),(1,tI v1),(2,q0 v2),(16,.pc 0 0)],[.cells 65 (c64 v3)]⟩ rfl ?_ (zz rfl) trivial ?_
  ·kernel_rfl
  obtain ⟨v5,hv5,h⟩:=of_bind h
  refine AOps.cons (AOne.callR (F:=(FF 106 1)) _ rfl rfl rfl _ rfl rfl _ _ rfl Try.call42 [] [.rp (c64 v3)] rfl trivial (f42_ok v3 hv5) (ind_of rfl) rfl) ?_
  refine AOps.go [2] [] [] [0,1,2,15] 1 ⟨[(0,.pc 0 0),(1,tI v1),(2,q0 v2),(15,tB v5)],[.cells 65 (c64 v3)]⟩ ?_ (zz rfl) trivial ?_
  ·kernel_rfl
  refine AOps.nil ?_
  refine AWp.cond rfl (fun hb=>?_) fun hb=>?_
  ·replace h:=of_true h hb
   refine AWp.keepTo [] 1 ⟨[],[.cells 65 (c64 v3)]⟩ ?_ (zz rfl) ?_
   ·kernel_rfl
   refine AWp.seq ?_
   refine AWp.start [0] [] [] [6] 1 ⟨[(6,tI (110:Int))],[.cells 65 (c64 v3)]⟩ rfl ?_ (zz rfl) trivial ?_
   ·kernel_rfl
   refine AOps.nil ?_
   refine AWp.ret ?_
   cases h
   exact ⟨.inr rfl,rfl⟩
  ·replace h:=of_false h hb
   refine AWp.keepTo [0,1,2] 1 ⟨[(0,.pc 0 0),(1,tI v1),(2,q0 v2)],[.cells 65 (c64 v3)]⟩ ?_ (zz rfl) ?_
   ·kernel_rfl
   refine AWp.seq ?_
   refine AWp.start [0,1,2,3,4,5] [6,7,8,9,10,11,12,13,14,15,16,17,18,19,20,21,22] [] [0,1,2,24] 1 ⟨[(0,.pc 0 0),(1,tI v1),(2,q0 v2),(24,tB (v3.f0 == ([100,105,114,101,99,116]:List UInt8)))],[.cells 65 (c64 v3)]⟩ rfl ?_ (zz rfl) trivial ?_
   ·kernel_rfl
   obtain ⟨v6,hc6,h⟩:=of_bind h
   refine AOps.cut [6,7,8,9,10,11,12,13,14,15,16,17] [18,19,20,21,22] (fun σ=>σ = ⟨[(0,.pc 0 0),(1,tI v1),(2,q0 v2),(36,tB v6)],[.cells 65 (c64 v3)]⟩) ?_ fun σ' hJ=>?_
   ·refine AOps.split (fun b=>⟨[(0,.pc 0 0),(1,tI v1),(2,q0 v2),(24,tB b)],[.cells 65 (c64 v3)]⟩) _ (fun hb=>?_) fun hb=>?_
    ·replace hc6:=of_true hc6 hb
     refine AOps.go [6,7,8] [9,10,11,12,13,14,15,16,17] [] [0,1,2,24,27] 1 ⟨[(0,.pc 0 0),(1,tI v1),(2,q0 v2),(24,tB true),(27,tB (decide (v1 < (1:Int))))],[.cells 65 (c64 v3)]⟩ ?_ (zz rfl) trivial ?_
     ·kernel_rfl
     obtain ⟨v7,hc9,hc6⟩:=of_bind hc6
     refine AOps.cut [9,10,11,12,13,14,15,16] [17] (fun σ=>σ = ⟨[(0,.pc 0 0),(1,tI v1),(2,q0 v2),(24,tB true),(35,tB v7)],[.cells 65 (c64 v3)]⟩) ?_ fun σ' hJ=>?_
     ·refine AOps.split (fun b=>⟨[(0,.pc 0 0),(1,tI v1),(2,q0 v2),(24,tB true),(27,tB b)],[.cells 65 (c64 v3)]⟩) _ (fun hb=>?_) fun hb=>?_
      ·replace hc9:=of_true hc9 hb
       refine AOps.go [9,10,11,12,13,14,15,16] [] [] [0,1,2,24,35] 1 ⟨[(0,.pc 0 0),(1,tI v1),(2,q0 v2),(24,tB true),(35,tB true)],[.cells 65 (c64 v3)]⟩ ?_ (zz rfl) trivial ?_
       ·kernel_rfl
       cases hc9
       exact AOps.nil rfl
      ·replace hc9:=of_false hc9 hb
       refine AOps.go [9,10,11,12,13,14,15,16] [] [] [0,1,2,24,35] 1 ⟨[(0,.pc 0 0),(1,tI v1),(2,q0 v2),(24,tB true),(35,tB (decide ((v2.length:Int) > v3.f1)))],[.cells 65 (c64 v3)]⟩ ?_ (zz rfl) trivial ?_
       ·kernel_rfl
       cases hc9
       exact AOps.nil rfl
     subst hJ
     refine AOps.go [17] [] [] [0,1,2,36] 1 ⟨[(0,.pc 0 0),(1,tI v1),(2,q0 v2),(36,tB v7)],[.cells 65 (c64 v3)]⟩ ?_ (zz rfl) trivial ?_
     ·kernel_rfl
     cases hc6
     exact AOps.nil rfl
    ·replace hc6:=of_false hc6 hb
     refine AOps.go [6,7,8,9,10,11,12,13,14,15,16,17] [] [] [0,1,2,36] 1 ⟨[(0,.pc 0 0),(1,tI v1),(2,q0 v2),(36,tB false)],[.cells 65 (c64 v3)]⟩ ?_ (zz rfl) trivial ?_
     ·kernel_rfl
     cases hc6
     exact AOps.nil rfl
   subst hJ
   refine AOps.go [18] [19,20,21,22] [] [0,1,2,37] 1 ⟨[(0,.pc 0 0),(1,tI v1),(2,q0 v2),(37,tB v6)],[.cells 65 (c64 v3)]⟩ ?_ (zz rfl) trivial ?_
   ·kernel_rfl
   obtain ⟨v8,hc19,h⟩:=of_bind h
   refine AOps.cut [19,20,21] [22] (fun σ=>σ = ⟨[(0,.pc 0 0),(1,tI v1),(2,q0 v2),(40,tB v8)],[.cells 65 (c64 v3)]⟩) ?_ fun σ' hJ=>?_
   ·refine AOps.split (fun b=>⟨[(0,.pc 0 0),(1,tI v1),(2,q0 v2),(37,tB b)],[.cells 65 (c64 v3)]⟩) _ (fun hb=>?_) fun hb=>?_
    ·replace hc19:=of_true hc19 hb
     refine AOps.go [19,20,21] [] [] [0,1,2,40] 1 ⟨[(0,.pc 0 0),(1,tI v1),(2,q0 v2),(40,tB true)],[.cells 65 (c64 v3)]⟩ ?_ (zz rfl) trivial ?_
     ·kernel_rfl
     cases hc19
     exact AOps.nil rfl
    ·replace hc19:=of_false hc19 hb
     refine AOps.go [19,20,21] [] [] [0,1,2,40] 1 ⟨[(0,.pc 0 0),(1,tI v1),(2,q0 v2),(40,tB (decide (v1 < (0:Int))))],[.cells 65 (c64 v3)]⟩ ?_ (zz rfl) trivial ?_
     ·kernel_rfl
     cases hc19
     exact AOps.nil rfl
   subst hJ
   refine AOps.go [22] [] [] [0,1,2,18] 1 ⟨[(0,.pc 0 0),(1,tI v1),(2,q0 v2),(18,tB v8)],[.cells 65 (c64 v3)]⟩ ?_ (zz rfl) trivial ?_
   ·kernel_rfl
   refine AOps.nil ?_
   refine AWp.cond rfl (fun hb=>?_) fun hb=>?_
   ·replace h:=of_true h hb
    refine AWp.keepTo [] 1 ⟨[],[.cells 65 (c64 v3)]⟩ ?_ (zz rfl) ?_
    ·kernel_rfl
    refine AWp.seq ?_
    refine AWp.start [0] [] [] [6] 1 ⟨[(6,tI (2:Int))],[.cells 65 (c64 v3)]⟩ rfl ?_ (zz rfl) trivial ?_
    ·kernel_rfl
    refine AOps.nil ?_
    refine AWp.ret ?_
    cases h
    exact ⟨.inr rfl,rfl⟩
   ·replace h:=of_false h hb
    refine AWp.keepTo [0,1,2] 1 ⟨[(0,.pc 0 0),(1,tI v1),(2,q0 v2)],[.cells 65 (c64 v3)]⟩ ?_ (zz rfl) ?_
    ·kernel_rfl
    refine AWp.skip ?_
    refine AWp.seq ?_
    refine AWp.seq ?_
    refine AWp.start [0,1,2,3,4] [] [] [0,1,2,45] 1 ⟨[(0,.pc 0 0),(1,tI v1),(2,q0 v2),(45,tB (v3.f0 == ([100,105,114,101,99,116]:List UInt8)))],[.cells 65 (c64 v3)]⟩ rfl ?_ (zz rfl) trivial ?_
    ·kernel_rfl
    refine AOps.nil ?_
    refine AWp.cond rfl (fun hb=>?_) fun hb=>?_
    ·replace h:=of_true h hb
     refine AWp.keepTo [0,1,2] 1 ⟨[(0,.pc 0 0),(1,tI v1),(2,q0 v2)],[.cells 65 (c64 v3)]⟩ ?_ (zz rfl) ?_
     ·kernel_rfl
     refine AWp.seq ?_
     refine AWp.seq ?_
     refine AWp.start [0,1] [] [] [0,1,2,47] 1 ⟨[(0,.pc 0 0),(1,tI v1),(2,q0 v2),(47,tB (decide (v1 > (20000:Int))))],[.cells 65 (c64 v3)]⟩ rfl ?_ (zz rfl) trivial ?_
     ·kernel_rfl
     refine AOps.nil ?_
     refine AWp.cond rfl (fun hb=>?_) fun hb=>?_
     ·replace h:=of_true h hb
      refine AWp.keepTo [] 1 ⟨[],[.cells 65 (c64 v3)]⟩ ?_ (zz rfl) ?_
      ·kernel_rfl
      refine AWp.seq ?_
      refine AWp.start [0] [] [] [6] 1 ⟨[(6,tI (4:Int))],[.cells 65 (c64 v3)]⟩ rfl ?_ (zz rfl) trivial ?_
      ·kernel_rfl
      refine AOps.nil ?_
      refine AWp.ret ?_
      cases h
      exact ⟨.inr rfl,rfl⟩
     ·replace h:=of_false h hb
      refine AWp.keepTo [0,1,2] 1 ⟨[(0,.pc 0 0),(1,tI v1),(2,q0 v2)],[.cells 65 (c64 v3)]⟩ ?_ (zz rfl) ?_
      ·kernel_rfl
      refine AWp.skip ?_
      refine AWp.seq ?_
      refine AWp.draw FFm _ (n:=24) rfl (ls:=#[n1,n1,n1,n1,n1,n1,n1,n1,n1,n1,n1,n1,n1,n1,n1,n1,n1,n1,n1,n1,n1,n1,n1,n1]) rfl ?_ (fun _ h=>h)
      refine AAny.go (by kernel_rfl) [0,1,2,3,4,5,8,10,11,12,14,15] (fuel':=12) rfl [] #[y1,y1,y1,y1,y1,y1,n1,n1,y1,n1,y1,y1,y1,n1,y1,y1,n1,n1,n1,n1,n1,n1,n1,n1] [0,49,51,54,57,61,64] 1 ⟨[(0,.pc 0 0),(49,.pc 0 0),(51,tI (w64 (v1 - (1:Int)))),(54,.pc 0 1),(57,q0 v2),(61,.pc 0 1),(64,tI (v2.length:Int))],[.cells 65 (c64 v3)]⟩ ?_ (zz rfl) trivial ?_
      ·kernel_rfl
      obtain ⟨v9,hv9,h⟩:=of_bind h
      obtain ⟨hd4,h⟩:=of_guard h
      refine AAny.share 6 #[y1,y1,y1,y1,y1,y1,y1,y1,y1,y1,y1,y1,y1,y1,y1,y1,y1,y1,n1,n1,n1,n1,n1,n1] ⟨[(0,.pc 0 0),(49,.pc 0 0),(56,tI (w64 ((w64 (v1 - (1:Int))) * v3.f1))),(66,q0 (v9 ++ List.replicate (Int.toNat (w64 (v3.f1 - (v2.length:Int)))) (0:Int)))],[.cells 65 (c64 v3)]⟩ ?_ fun n8_=>?_
      ·obtain ⟨v10,hv10,h⟩:=of_bind h
       refine AAny.serial (i:=18) (fuel:=5) (by kernel_rfl) (AOne.callO (F:=(FF 106 1)) _ rfl rfl rfl 67 rfl rfl 44 [] rfl Try.call44 [0] (by decide) [.pc 0 0,tI (w64 ((w64 (v1 - (1:Int))) * v3.f1)),q0 (v9 ++ List.replicate (Int.toNat (w64 (v3.f1 - (v2.length:Int)))) (0:Int))] (by kernel_rfl) [.cells 65 (c64 v3)] (by kernel_rfl) (f44o_ok (w64 ((w64 (v1 - (1:Int))) * v3.f1)) (v9 ++ List.replicate (Int.toNat (w64 (v3.f1 - (v2.length:Int)))) (0:Int)) v3 hv10) (by kernel_rfl) (by kernel_rfl) _ rfl) ?_
       refine AAny.keepTo [0,67] 1 ⟨[(0,.pc 0 0),(67,.tup [q0 v10.1,tI v10.2])],[.cells 65 (c64 v3)]⟩ #[y1,y1,y1,y1,y1,y1,y1,y1,y1,y1,y1,y1,y1,y1,y1,y1,y1,y1,y1,n1,n1,n1,n1,n1] ?_ rfl (zz rfl) ?_
       ·kernel_rfl
       refine AAny.go (by kernel_rfl) [19,20,21,22,23] (fuel':=0) rfl [] #[y1,y1,y1,y1,y1,y1,y1,y1,y1,y1,y1,y1,y1,y1,y1,y1,y1,y1,y1,y1,y1,y1,y1,y1] [0,7,8] 1 ⟨[(0,.pc 0 0),(7,q0 v10.1),(8,tI v10.2)],[.cells 65 (c64 v3)]⟩ ?_ (zz rfl) trivial ?_
       ·kernel_rfl
       refine AAny.keepTo [0,7,8] 1 ⟨[(0,.pc 0 0),(7,q0 v10.1),(8,tI v10.2)],[.cells 65 (c64 v3)]⟩ _ ?_ rfl (zz rfl) (AAny.done (by kernel_rfl) ?_)
       ·kernel_rfl
       refine AWp.join (V:=(List Int)) (fun w=>⟨[(8,tI v10.2)],[.cells 65 [.str v3.f0,.int .i64 v3.f1,k0 w,.int .i64 v3.f3,.bool v3.f4]]⟩) (fun w=>f24o_j1 v3 v10 w = some r) ?_ ?_
       ·refine AWp.seq ?_
        refine AWp.start [0,1] [] [] [0,7,8,71] 1 ⟨[(0,.pc 0 0),(7,q0 v10.1),(8,tI v10.2),(71,tB (v10.2 == (0:Int)))],[.cells 65 (c64 v3)]⟩ rfl ?_ (zz rfl) trivial ?_
        ·kernel_rfl
        refine AOps.nil ?_
        refine AWp.cond rfl (fun hb=>?_) fun hb=>?_
        ·replace h:=of_true h hb
         refine AWp.keepTo [0,7,8] 1 ⟨[(0,.pc 0 0),(7,q0 v10.1),(8,tI v10.2)],[.cells 65 (c64 v3)]⟩ ?_ (zz rfl) ?_
         ·kernel_rfl
         refine AWp.start [0,1,2,3,4] [] [] [8] 1 ⟨[(8,tI v10.2)],[.cells 65 [.str v3.f0,.int .i64 v3.f1,k0 v10.1,.int .i64 v3.f3,.bool v3.f4]]⟩ rfl ?_ (zz rfl) trivial ?_
         ·kernel_rfl
         refine AOps.nil ?_
         exact ⟨v10.1,h,rfl⟩
        ·replace h:=of_false h hb
         refine AWp.keepTo [8] 1 ⟨[(8,tI v10.2)],[.cells 65 (c64 v3)]⟩ ?_ (zz rfl) ?_
         ·kernel_rfl
         refine AWp.skip ?_
         exact ⟨v3.f2,h,rfl⟩
       ·rintro v11 h
        refine AWp.seq ?_
        refine AWp.start [0,1] [] [] [6] 1 ⟨[(6,tI v10.2)],[.cells 65 [.str v3.f0,.int .i64 v3.f1,k0 v11,.int .i64 v3.f3,.bool v3.f4]]⟩ rfl ?_ (zz rfl) trivial ?_
        ·kernel_rfl
        refine AOps.nil ?_
        refine AWp.ret ?_
        cases h
        exact ⟨.inr rfl,rfl⟩
      refine AAny.share 7 #[y1,y1,y1,y1,y1,y1,y1,y1,y1,y1,y1,y1,y1,y1,y1,y1,y1,n1,n1,n1,n1,n1,n1,n1] ⟨[(0,.pc 0 0),(49,.pc 0 0),(56,tI (w64 ((w64 (v1 - (1:Int))) * v3.f1))),(58,q1 v9),(65,tI (w64 (v3.f1 - (v2.length:Int))))],[.cells 65 (c64 v3)]⟩ ?_ fun n6_=>?_
      ·refine AAny.each [17] (by kernel_rfl) rfl ?_
       refine AEach.one (i:=17) (AOne.zero (F:=(FF 106 1)) [(0:Int) ≤ w64 (v3.f1 - (v2.length:Int)),(v9.length + (Int.toNat (w64 (v3.f1 - (v2.length:Int))))) * 1 ≤ 140737488355328,PlainTo v9.length (fun i=>(cInt .u8) (v9.getD i default))] _ rfl rfl rfl rfl ⟨hd4.1,hd4.2,(fun _ _=>rfl)⟩) ?_ ?_
       ·refine AAny.keepTo [0,49,56,66] 1 ⟨[(0,.pc 0 0),(49,.pc 0 0),(56,tI (w64 ((w64 (v1 - (1:Int))) * v3.f1))),(66,.tv (.own 1 5 (v9.length + (Int.toNat (w64 (v3.f1 - (v2.length:Int))))) (appF v9.length (fun i=>(cInt .u8) (v9.getD i default)) (zerosF [.int .u8 (0:Int)]))))],[.cells 65 (c64 v3)]⟩ #[y1,y1,y1,y1,y1,y1,y1,y1,y1,y1,y1,y1,y1,y1,y1,y1,y1,y1,n1,n1,n1,n1,n1,n1] ?_ rfl (zz rfl) ?_
        ·kernel_rfl
        refine AAny.extL 66 (cInt .u8) (v9 ++ List.replicate (Int.toNat (w64 (v3.f1 - (v2.length:Int)))) (0:Int)) rfl (by simp) (appz_at (cInt .u8) v9 _ [.int .u8 (0:Int)] (0:Int) rfl) ?_
        refine AAny.freezeL 66 (cInt .u8) (v9 ++ List.replicate (Int.toNat (w64 (v3.f1 - (v2.length:Int)))) (0:Int)) rfl (fun _=>rfl) ?_
        refine AAny.keepTo [0,49,56,66] 1 ⟨[(0,.pc 0 0),(49,.pc 0 0),(56,tI (w64 ((w64 (v1 - (1:Int))) * v3.f1))),(66,q0 (v9 ++ List.replicate (Int.toNat (w64 (v3.f1 - (v2.length:Int)))) (0:Int)))],[.cells 65 (c64 v3)]⟩ #[y1,y1,y1,y1,y1,y1,y1,y1,y1,y1,y1,y1,y1,y1,y1,y1,y1,y1,n1,n1,n1,n1,n1,n1] ?_ rfl (zz rfl) ?_
        ·kernel_rfl
        exact n8_
       exact AEach.nil
      refine AAny.share 8 #[y1,y1,y1,y1,y1,y1,n1,n1,y1,y1,y1,y1,y1,y1,y1,y1,y1,y1,n1,n1,n1,n1,n1,n1] ⟨[(0,.pc 0 0),(49,.pc 0 0),(51,tI (w64 (v1 - (1:Int)))),(54,.pc 0 1),(66,q0 (v9 ++ List.replicate (Int.toNat (w64 (v3.f1 - (v2.length:Int)))) (0:Int)))],[.cells 65 (c64 v3)]⟩ ?_ fun n7_=>?_
      ·refine AAny.each [6] (by kernel_rfl) rfl ?_
       refine AEach.step (i:=6) [] #[y1,y1,y1,y1,y1,y1,y1,n1,y1,y1,y1,y1,y1,y1,y1,y1,y1,y1,n1,n1,n1,n1,n1,n1] rfl [0,49,51,55,66] 1 ⟨[(0,.pc 0 0),(49,.pc 0 0),(51,tI (w64 (v1 - (1:Int)))),(55,tI v3.f1),(66,q0 (v9 ++ List.replicate (Int.toNat (w64 (v3.f1 - (v2.length:Int)))) (0:Int)))],[.cells 65 (c64 v3)]⟩ ?_ (zz rfl) trivial ?_ ?_
       ·kernel_rfl
       ·refine AAny.go (by kernel_rfl) [7] (fuel':=6) rfl [] #[y1,y1,y1,y1,y1,y1,y1,y1,y1,y1,y1,y1,y1,y1,y1,y1,y1,y1,n1,n1,n1,n1,n1,n1] [0,49,56,66] 1 ⟨[(0,.pc 0 0),(49,.pc 0 0),(56,tI (w64 ((w64 (v1 - (1:Int))) * v3.f1))),(66,q0 (v9 ++ List.replicate (Int.toNat (w64 (v3.f1 - (v2.length:Int)))) (0:Int)))],[.cells 65 (c64 v3)]⟩ ?_ (zz rfl) trivial ?_
        ·kernel_rfl
        exact n8_
       exact AEach.nil
      refine AAny.share 8 #[y1,y1,y1,y1,y1,y1,y1,y1,y1,n1,y1,y1,y1,y1,y1,y1,y1,n1,n1,n1,n1,n1,n1,n1] ⟨[(0,.pc 0 0),(49,.pc 0 0),(56,tI (w64 ((w64 (v1 - (1:Int))) * v3.f1))),(57,q0 v2),(65,tI (w64 (v3.f1 - (v2.length:Int))))],[.cells 65 (c64 v3)]⟩ ?_ fun n4_=>?_
      ·refine AAny.each [9] (by kernel_rfl) rfl ?_
       refine AEach.one (i:=9) (AOne.callP (F:=(FF 106 1)) _ rfl rfl rfl _ rfl rfl _ _ rfl Try.call37 [q0 v2] rfl rfl (f37_ok v2 hv9) rfl) ?_ ?_
       ·refine AAny.keepTo [0,49,56,58,65] 1 ⟨[(0,.pc 0 0),(49,.pc 0 0),(56,tI (w64 ((w64 (v1 - (1:Int))) * v3.f1))),(58,q1 v9),(65,tI (w64 (v3.f1 - (v2.length:Int))))],[.cells 65 (c64 v3)]⟩ #[y1,y1,y1,y1,y1,y1,y1,y1,y1,y1,y1,y1,y1,y1,y1,y1,y1,n1,n1,n1,n1,n1,n1,n1] ?_ rfl (zz rfl) ?_
        ·kernel_rfl
        exact n6_
       exact AEach.nil
      refine AAny.share 9 #[y1,y1,y1,y1,y1,y1,n1,n1,y1,y1,y1,y1,y1,y1,y1,y1,y1,n1,n1,n1,n1,n1,n1,n1] ⟨[(0,.pc 0 0),(49,.pc 0 0),(51,tI (w64 (v1 - (1:Int)))),(54,.pc 0 1),(58,q1 v9),(65,tI (w64 (v3.f1 - (v2.length:Int))))],[.cells 65 (c64 v3)]⟩ ?_ fun n5_=>?_
      ·refine AAny.each [6,17] (by kernel_rfl) rfl ?_
       refine AEach.step (i:=6) [] #[y1,y1,y1,y1,y1,y1,y1,n1,y1,y1,y1,y1,y1,y1,y1,y1,y1,n1,n1,n1,n1,n1,n1,n1] rfl [0,49,51,55,58,65] 1 ⟨[(0,.pc 0 0),(49,.pc 0 0),(51,tI (w64 (v1 - (1:Int)))),(55,tI v3.f1),(58,q1 v9),(65,tI (w64 (v3.f1 - (v2.length:Int))))],[.cells 65 (c64 v3)]⟩ ?_ (zz rfl) trivial ?_ ?_
       ·kernel_rfl
       ·refine AAny.go (by kernel_rfl) [7] (fuel':=7) rfl [] #[y1,y1,y1,y1,y1,y1,y1,y1,y1,y1,y1,y1,y1,y1,y1,y1,y1,n1,n1,n1,n1,n1,n1,n1] [0,49,56,58,65] 1 ⟨[(0,.pc 0 0),(49,.pc 0 0),(56,tI (w64 ((w64 (v1 - (1:Int))) * v3.f1))),(58,q1 v9),(65,tI (w64 (v3.f1 - (v2.length:Int))))],[.cells 65 (c64 v3)]⟩ ?_ (zz rfl) trivial ?_
        ·kernel_rfl
        exact n6_
       refine AEach.one (i:=17) (AOne.zero (F:=(FF 106 1)) [(0:Int) ≤ w64 (v3.f1 - (v2.length:Int)),(v9.length + (Int.toNat (w64 (v3.f1 - (v2.length:Int))))) * 1 ≤ 140737488355328,PlainTo v9.length (fun i=>(cInt .u8) (v9.getD i default))] _ rfl rfl rfl rfl ⟨hd4.1,hd4.2,(fun _ _=>rfl)⟩) ?_ ?_
       ·refine AAny.keepTo [0,49,51,54,66] 1 ⟨[(0,.pc 0 0),(49,.pc 0 0),(51,tI (w64 (v1 - (1:Int)))),(54,.pc 0 1),(66,.tv (.own 1 5 (v9.length + (Int.toNat (w64 (v3.f1 - (v2.length:Int))))) (appF v9.length (fun i=>(cInt .u8) (v9.getD i default)) (zerosF [.int .u8 (0:Int)]))))],[.cells 65 (c64 v3)]⟩ #[y1,y1,y1,y1,y1,y1,n1,n1,y1,y1,y1,y1,y1,y1,y1,y1,y1,y1,n1,n1,n1,n1,n1,n1] ?_ rfl (zz rfl) ?_
        ·kernel_rfl
        refine AAny.extL 66 (cInt .u8) (v9 ++ List.replicate (Int.toNat (w64 (v3.f1 - (v2.length:Int)))) (0:Int)) rfl (by simp) (appz_at (cInt .u8) v9 _ [.int .u8 (0:Int)] (0:Int) rfl) ?_
        refine AAny.freezeL 66 (cInt .u8) (v9 ++ List.replicate (Int.toNat (w64 (v3.f1 - (v2.length:Int)))) (0:Int)) rfl (fun _=>rfl) ?_
        refine AAny.keepTo [0,49,51,54,66] 1 ⟨[(0,.pc 0 0),(49,.pc 0 0),(51,tI (w64 (v1 - (1:Int)))),(54,.pc 0 1),(66,q0 (v9 ++ List.replicate (Int.toNat (w64 (v3.f1 - (v2.length:Int)))) (0:Int)))],[.cells 65 (c64 v3)]⟩ #[y1,y1,y1,y1,y1,y1,n1,n1,y1,y1,y1,y1,y1,y1,y1,y1,y1,y1,n1,n1,n1,n1,n1,n1] ?_ rfl (zz rfl) ?_
        ·kernel_rfl
        exact n7_
       exact AEach.nil
      refine AAny.share 9 #[y1,y1,y1,y1,y1,y1,y1,y1,y1,y1,y1,y1,y1,n1,y1,y1,n1,n1,n1,n1,n1,n1,n1,n1] ⟨[(0,.pc 0 0),(49,.pc 0 0),(56,tI (w64 ((w64 (v1 - (1:Int))) * v3.f1))),(58,q1 v9),(61,.pc 0 1),(64,tI (v2.length:Int))],[.cells 65 (c64 v3)]⟩ ?_ fun n9_=>?_
      ·refine AAny.each [13] (by kernel_rfl) rfl ?_
       refine AEach.step (i:=13) [] #[y1,y1,y1,y1,y1,y1,y1,y1,y1,y1,y1,y1,y1,y1,y1,y1,n1,n1,n1,n1,n1,n1,n1,n1] rfl [0,49,56,58,62,64] 1 ⟨[(0,.pc 0 0),(49,.pc 0 0),(56,tI (w64 ((w64 (v1 - (1:Int))) * v3.f1))),(58,q1 v9),(62,tI v3.f1),(64,tI (v2.length:Int))],[.cells 65 (c64 v3)]⟩ ?_ (zz rfl) trivial ?_ ?_
       ·kernel_rfl
       ·refine AAny.go (by kernel_rfl) [16] (fuel':=7) rfl [] #[y1,y1,y1,y1,y1,y1,y1,y1,y1,y1,y1,y1,y1,y1,y1,y1,y1,n1,n1,n1,n1,n1,n1,n1] [0,49,56,58,65] 1 ⟨[(0,.pc 0 0),(49,.pc 0 0),(56,tI (w64 ((w64 (v1 - (1:Int))) * v3.f1))),(58,q1 v9),(65,tI (w64 (v3.f1 - (v2.length:Int))))],[.cells 65 (c64 v3)]⟩ ?_ (zz rfl) trivial ?_
        ·kernel_rfl
        exact n6_
       exact AEach.nil
      refine AAny.share 10 #[y1,y1,y1,y1,y1,y1,n1,n1,y1,n1,y1,y1,y1,y1,y1,y1,y1,n1,n1,n1,n1,n1,n1,n1] ⟨[(0,.pc 0 0),(49,.pc 0 0),(51,tI (w64 (v1 - (1:Int)))),(54,.pc 0 1),(57,q0 v2),(65,tI (w64 (v3.f1 - (v2.length:Int))))],[.cells 65 (c64 v3)]⟩ ?_ fun n3_=>?_
      ·refine AAny.each [6,9] (by kernel_rfl) rfl ?_
       refine AEach.step (i:=6) [] #[y1,y1,y1,y1,y1,y1,y1,n1,y1,n1,y1,y1,y1,y1,y1,y1,y1,n1,n1,n1,n1,n1,n1,n1] rfl [0,49,51,55,57,65] 1 ⟨[(0,.pc 0 0),(49,.pc 0 0),(51,tI (w64 (v1 - (1:Int)))),(55,tI v3.f1),(57,q0 v2),(65,tI (w64 (v3.f1 - (v2.length:Int))))],[.cells 65 (c64 v3)]⟩ ?_ (zz rfl) trivial ?_ ?_
       ·kernel_rfl
       ·refine AAny.go (by kernel_rfl) [7] (fuel':=8) rfl [] #[y1,y1,y1,y1,y1,y1,y1,y1,y1,n1,y1,y1,y1,y1,y1,y1,y1,n1,n1,n1,n1,n1,n1,n1] [0,49,56,57,65] 1 ⟨[(0,.pc 0 0),(49,.pc 0 0),(56,tI (w64 ((w64 (v1 - (1:Int))) * v3.f1))),(57,q0 v2),(65,tI (w64 (v3.f1 - (v2.length:Int))))],[.cells 65 (c64 v3)]⟩ ?_ (zz rfl) trivial ?_
        ·kernel_rfl
        exact n4_
       refine AEach.one (i:=9) (AOne.callP (F:=(FF 106 1)) _ rfl rfl rfl _ rfl rfl _ _ rfl Try.call37 [q0 v2] rfl rfl (f37_ok v2 hv9) rfl) ?_ ?_
       ·refine AAny.keepTo [0,49,51,54,58,65] 1 ⟨[(0,.pc 0 0),(49,.pc 0 0),(51,tI (w64 (v1 - (1:Int)))),(54,.pc 0 1),(58,q1 v9),(65,tI (w64 (v3.f1 - (v2.length:Int))))],[.cells 65 (c64 v3)]⟩ #[y1,y1,y1,y1,y1,y1,n1,n1,y1,y1,y1,y1,y1,y1,y1,y1,y1,n1,n1,n1,n1,n1,n1,n1] ?_ rfl (zz rfl) ?_
        ·kernel_rfl
        exact n5_
       exact AEach.nil
      refine AAny.share 10 #[y1,y1,y1,y1,y1,y1,y1,y1,y1,n1,y1,y1,y1,n1,y1,y1,n1,n1,n1,n1,n1,n1,n1,n1] ⟨[(0,.pc 0 0),(49,.pc 0 0),(56,tI (w64 ((w64 (v1 - (1:Int))) * v3.f1))),(57,q0 v2),(61,.pc 0 1),(64,tI (v2.length:Int))],[.cells 65 (c64 v3)]⟩ ?_ fun n1_=>?_
      ·refine AAny.each [9,13] (by kernel_rfl) rfl ?_
       refine AEach.one (i:=9) (AOne.callP (F:=(FF 106 1)) _ rfl rfl rfl _ rfl rfl _ _ rfl Try.call37 [q0 v2] rfl rfl (f37_ok v2 hv9) rfl) ?_ ?_
       ·refine AAny.keepTo [0,49,56,58,61,64] 1 ⟨[(0,.pc 0 0),(49,.pc 0 0),(56,tI (w64 ((w64 (v1 - (1:Int))) * v3.f1))),(58,q1 v9),(61,.pc 0 1),(64,tI (v2.length:Int))],[.cells 65 (c64 v3)]⟩ #[y1,y1,y1,y1,y1,y1,y1,y1,y1,y1,y1,y1,y1,n1,y1,y1,n1,n1,n1,n1,n1,n1,n1,n1] ?_ rfl (zz rfl) ?_
        ·kernel_rfl
        exact n9_
       refine AEach.step (i:=13) [] #[y1,y1,y1,y1,y1,y1,y1,y1,y1,n1,y1,y1,y1,y1,y1,y1,n1,n1,n1,n1,n1,n1,n1,n1] rfl [0,49,56,57,62,64] 1 ⟨[(0,.pc 0 0),(49,.pc 0 0),(56,tI (w64 ((w64 (v1 - (1:Int))) * v3.f1))),(57,q0 v2),(62,tI v3.f1),(64,tI (v2.length:Int))],[.cells 65 (c64 v3)]⟩ ?_ (zz rfl) trivial ?_ ?_
       ·kernel_rfl
       ·refine AAny.go (by kernel_rfl) [16] (fuel':=8) rfl [] #[y1,y1,y1,y1,y1,y1,y1,y1,y1,n1,y1,y1,y1,y1,y1,y1,y1,n1,n1,n1,n1,n1,n1,n1] [0,49,56,57,65] 1 ⟨[(0,.pc 0 0),(49,.pc 0 0),(56,tI (w64 ((w64 (v1 - (1:Int))) * v3.f1))),(57,q0 v2),(65,tI (w64 (v3.f1 - (v2.length:Int))))],[.cells 65 (c64 v3)]⟩ ?_ (zz rfl) trivial ?_
        ·kernel_rfl
        exact n4_
       exact AEach.nil
      refine AAny.share 11 #[y1,y1,y1,y1,y1,y1,n1,n1,y1,y1,y1,y1,y1,n1,y1,y1,n1,n1,n1,n1,n1,n1,n1,n1] ⟨[(0,.pc 0 0),(49,.pc 0 0),(51,tI (w64 (v1 - (1:Int)))),(54,.pc 0 1),(58,q1 v9),(61,.pc 0 1),(64,tI (v2.length:Int))],[.cells 65 (c64 v3)]⟩ ?_ fun n2_=>?_
      ·refine AAny.each [6,13] (by kernel_rfl) rfl ?_
       refine AEach.step (i:=6) [] #[y1,y1,y1,y1,y1,y1,y1,n1,y1,y1,y1,y1,y1,n1,y1,y1,n1,n1,n1,n1,n1,n1,n1,n1] rfl [0,49,51,55,58,61,64] 1 ⟨[(0,.pc 0 0),(49,.pc 0 0),(51,tI (w64 (v1 - (1:Int)))),(55,tI v3.f1),(58,q1 v9),(61,.pc 0 1),(64,tI (v2.length:Int))],[.cells 65 (c64 v3)]⟩ ?_ (zz rfl) trivial ?_ ?_
       ·kernel_rfl
       ·refine AAny.go (by kernel_rfl) [7] (fuel':=9) rfl [] #[y1,y1,y1,y1,y1,y1,y1,y1,y1,y1,y1,y1,y1,n1,y1,y1,n1,n1,n1,n1,n1,n1,n1,n1] [0,49,56,58,61,64] 1 ⟨[(0,.pc 0 0),(49,.pc 0 0),(56,tI (w64 ((w64 (v1 - (1:Int))) * v3.f1))),(58,q1 v9),(61,.pc 0 1),(64,tI (v2.length:Int))],[.cells 65 (c64 v3)]⟩ ?_ (zz rfl) trivial ?_
        ·kernel_rfl
        exact n9_
       refine AEach.step (i:=13) [] #[y1,y1,y1,y1,y1,y1,n1,n1,y1,y1,y1,y1,y1,y1,y1,y1,n1,n1,n1,n1,n1,n1,n1,n1] rfl [0,49,51,54,58,62,64] 1 ⟨[(0,.pc 0 0),(49,.pc 0 0),(51,tI (w64 (v1 - (1:Int)))),(54,.pc 0 1),(58,q1 v9),(62,tI v3.f1),(64,tI (v2.length:Int))],[.cells 65 (c64 v3)]⟩ ?_ (zz rfl) trivial ?_ ?_
       ·kernel_rfl
       ·refine AAny.go (by kernel_rfl) [16] (fuel':=9) rfl [] #[y1,y1,y1,y1,y1,y1,n1,n1,y1,y1,y1,y1,y1,y1,y1,y1,y1,n1,n1,n1,n1,n1,n1,n1] [0,49,51,54,58,65] 1 ⟨[(0,.pc 0 0),(49,.pc 0 0),(51,tI (w64 (v1 - (1:Int)))),(54,.pc 0 1),(58,q1 v9),(65,tI (w64 (v3.f1 - (v2.length:Int))))],[.cells 65 (c64 v3)]⟩ ?_ (zz rfl) trivial ?_
        ·kernel_rfl
        exact n5_
       exact AEach.nil
      refine AAny.each [6,9,13] (by kernel_rfl) rfl ?_
      refine AEach.step (i:=6) [] #[y1,y1,y1,y1,y1,y1,y1,n1,y1,n1,y1,y1,y1,n1,y1,y1,n1,n1,n1,n1,n1,n1,n1,n1] rfl [0,49,51,55,57,61,64] 1 ⟨[(0,.pc 0 0),(49,.pc 0 0),(51,tI (w64 (v1 - (1:Int)))),(55,tI v3.f1),(57,q0 v2),(61,.pc 0 1),(64,tI (v2.length:Int))],[.cells 65 (c64 v3)]⟩ ?_ (zz rfl) trivial ?_ ?_
      ·kernel_rfl
      ·refine AAny.go (by kernel_rfl) [7] (fuel':=10) rfl [] #[y1,y1,y1,y1,y1,y1,y1,y1,y1,n1,y1,y1,y1,n1,y1,y1,n1,n1,n1,n1,n1,n1,n1,n1] [0,49,56,57,61,64] 1 ⟨[(0,.pc 0 0),(49,.pc 0 0),(56,tI (w64 ((w64 (v1 - (1:Int))) * v3.f1))),(57,q0 v2),(61,.pc 0 1),(64,tI (v2.length:Int))],[.cells 65 (c64 v3)]⟩ ?_ (zz rfl) trivial ?_
       ·kernel_rfl
       exact n1_
      refine AEach.one (i:=9) (AOne.callP (F:=(FF 106 1)) _ rfl rfl rfl _ rfl rfl _ _ rfl Try.call37 [q0 v2] rfl rfl (f37_ok v2 hv9) rfl) ?_ ?_
      ·refine AAny.keepTo [0,49,51,54,58,61,64] 1 ⟨[(0,.pc 0 0),(49,.pc 0 0),(51,tI (w64 (v1 - (1:Int)))),(54,.pc 0 1),(58,q1 v9),(61,.pc 0 1),(64,tI (v2.length:Int))],[.cells 65 (c64 v3)]⟩ #[y1,y1,y1,y1,y1,y1,n1,n1,y1,y1,y1,y1,y1,n1,y1,y1,n1,n1,n1,n1,n1,n1,n1,n1] ?_ rfl (zz rfl) ?_
       ·kernel_rfl
       exact n2_
      refine AEach.step (i:=13) [] #[y1,y1,y1,y1,y1,y1,n1,n1,y1,n1,y1,y1,y1,y1,y1,y1,n1,n1,n1,n1,n1,n1,n1,n1] rfl [0,49,51,54,57,62,64] 1 ⟨[(0,.pc 0 0),(49,.pc 0 0),(51,tI (w64 (v1 - (1:Int)))),(54,.pc 0 1),(57,q0 v2),(62,tI v3.f1),(64,tI (v2.length:Int))],[.cells 65 (c64 v3)]⟩ ?_ (zz rfl) trivial ?_ ?_
      ·kernel_rfl
      ·refine AAny.go (by kernel_rfl) [16] (fuel':=10) rfl [] #[y1,y1,y1,y1,y1,y1,n1,n1,y1,n1,y1,y1,y1,y1,y1,y1,y1,n1,n1,n1,n1,n1,n1,n1] [0,49,51,54,57,65] 1 ⟨[(0,.pc 0 0),(49,.pc 0 0),(51,tI (w64 (v1 - (1:Int)))),(54,.pc 0 1),(57,q0 v2),(65,tI (w64 (v3.f1 - (v2.length:Int))))],[.cells 65 (c64 v3)]⟩ ?_ (zz rfl) trivial ?_
       ·kernel_rfl
       exact n3_
      exact AEach.nil
    ·replace h:=of_false h hb
     refine AWp.keepTo [0,1,2] 1 ⟨[(0,.pc 0 0),(1,tI v1),(2,q0 v2)],[.cells 65 (c64 v3)]⟩ ?_ (zz rfl) ?_
     ·kernel_rfl
     refine AWp.skip ?_
     refine AWp.seq ?_
     refine AWp.start [0,1] [2,3] [] [0,2,77,78] 1 ⟨[(0,.pc 0 0),(2,q0 v2),(77,.pc 0 0),(78,tI v1)],[.cells 65 (c64 v3)]⟩ rfl ?_ (zz rfl) trivial ?_
     ·kernel_rfl
     obtain ⟨v12,hv12,h⟩:=of_bind h
     refine AOps.cons (AOne.callR (F:=(FF 106 1)) _ rfl rfl rfl _ rfl rfl _ _ rfl Try.call45 [] [.rp (c64 v3),tI v1] rfl trivial (f45_ok v3 v1 hv12) (ind_of rfl) rfl) ?_
     refine AOps.go [3] [] [] [0,2,9] 1 ⟨[(0,.pc 0 0),(2,q0 v2),(9,tI v12)],[.cells 65 (c64 v3)]⟩ ?_ (zz rfl) trivial ?_
     ·kernel_rfl
     refine AOps.nil ?_
     refine AWp.seq ?_
     refine AWp.seq ?_
     refine AWp.start [0,1] [] [] [0,2,9,81] 1 ⟨[(0,.pc 0 0),(2,q0 v2),(9,tI v12),(81,tB (decide (v12 > (20000:Int))))],[.cells 65 (c64 v3)]⟩ rfl ?_ (zz rfl) trivial ?_
     ·kernel_rfl
     refine AOps.nil ?_
     refine AWp.cond rfl (fun hb=>?_) fun hb=>?_
     ·replace h:=of_true h hb
      refine AWp.keepTo [] 1 ⟨[],[.cells 65 (c64 v3)]⟩ ?_ (zz rfl) ?_
      ·kernel_rfl
      refine AWp.seq ?_
      refine AWp.start [0] [] [] [6] 1 ⟨[(6,tI (4:Int))],[.cells 65 (c64 v3)]⟩ rfl ?_ (zz rfl) trivial ?_
      ·kernel_rfl
      refine AOps.nil ?_
      refine AWp.ret ?_
      cases h
      exact ⟨.inr rfl,rfl⟩
     ·replace h:=of_false h hb
      refine AWp.keepTo [0,2,9] 1 ⟨[(0,.pc 0 0),(2,q0 v2),(9,tI v12)],[.cells 65 (c64 v3)]⟩ ?_ (zz rfl) ?_
      ·kernel_rfl
      refine AWp.skip ?_
      refine AWp.join (V:=(List Int)) (fun w=>⟨[(0,.pc 0 0),(2,q0 v2),(9,tI v12)],[.cells 65 [.str v3.f0,.int .i64 v3.f1,k0 w,.int .i64 v3.f3,.bool v3.f4]]⟩) (fun w=>f24o_j2 v2 v3 v12 w = some r) ?_ ?_
      ·refine AWp.seq ?_
       refine AWp.start [0,1,2] [] [] [0,2,9,84] 1 ⟨[(0,.pc 0 0),(2,q0 v2),(9,tI v12),(84,tB (decide ((v2.length:Int) > (0:Int))))],[.cells 65 (c64 v3)]⟩ rfl ?_ (zz rfl) trivial ?_
       ·kernel_rfl
       refine AOps.nil ?_
       refine AWp.cond rfl (fun hb=>?_) fun hb=>?_
       ·replace h:=of_true h hb
        refine AWp.keepTo [0,2,9] 1 ⟨[(0,.pc 0 0),(2,q0 v2),(9,tI v12)],[.cells 65 (c64 v3)]⟩ ?_ (zz rfl) ?_
        ·kernel_rfl
        refine AWp.seq ?_
        refine AWp.start [0,1,2] [3,4,5,6,7,8] [] [0,2,9,86,87,88] 1 ⟨[(0,.pc 0 0),(2,q0 v2),(9,tI v12),(86,.pc 0 0),(87,tI v12),(88,q0 v2)],[.cells 65 (c64 v3)]⟩ rfl ?_ (zz rfl) trivial ?_
        ·kernel_rfl
        obtain ⟨v14,hv14,h⟩:=of_bind h
        refine AOps.cons (AOne.callO (F:=(FF 106 1)) _ rfl rfl rfl 89 rfl rfl 44 [] rfl Try.call44 [0] (by decide) [.pc 0 0,tI v12,q0 v2] (by kernel_rfl) [.cells 65 (c64 v3)] (by kernel_rfl) (f44o_ok v12 v2 v3 hv14) (by kernel_rfl) (by kernel_rfl) _ rfl) ?_
        refine AOps.go [4,5,6,7,8] [] [] [0,2,9,10,11] 1 ⟨[(0,.pc 0 0),(2,q0 v2),(9,tI v12),(10,q0 v14.1),(11,tI v14.2)],[.cells 65 (c64 v3)]⟩ ?_ (zz rfl) trivial ?_
        ·kernel_rfl
        refine AOps.nil ?_
        refine AWp.seq ?_
        refine AWp.seq ?_
        refine AWp.start [0,1] [] [] [0,2,9,10,11,93] 1 ⟨[(0,.pc 0 0),(2,q0 v2),(9,tI v12),(10,q0 v14.1),(11,tI v14.2),(93,tB (v14.2 != (0:Int)))],[.cells 65 (c64 v3)]⟩ rfl ?_ (zz rfl) trivial ?_
        ·kernel_rfl
        refine AOps.nil ?_
        refine AWp.cond rfl (fun hb=>?_) fun hb=>?_
        ·replace h:=of_true h hb
         refine AWp.keepTo [11] 1 ⟨[(11,tI v14.2)],[.cells 65 (c64 v3)]⟩ ?_ (zz rfl) ?_
         ·kernel_rfl
         refine AWp.seq ?_
         refine AWp.start [0,1] [] [] [6] 1 ⟨[(6,tI v14.2)],[.cells 65 (c64 v3)]⟩ rfl ?_ (zz rfl) trivial ?_
         ·kernel_rfl
         refine AOps.nil ?_
         refine AWp.ret ?_
         cases h
         exact ⟨.inr rfl,rfl⟩
        ·replace h:=of_false h hb
         refine AWp.keepTo [0,2,9,10] 1 ⟨[(0,.pc 0 0),(2,q0 v2),(9,tI v12),(10,q0 v14.1)],[.cells 65 (c64 v3)]⟩ ?_ (zz rfl) ?_
         ·kernel_rfl
         refine AWp.skip ?_
         refine AWp.start [0,1,2,3,4] [] [] [0,2,9] 1 ⟨[(0,.pc 0 0),(2,q0 v2),(9,tI v12)],[.cells 65 [.str v3.f0,.int .i64 v3.f1,k0 v14.1,.int .i64 v3.f3,.bool v3.f4]]⟩ rfl ?_ (zz rfl) trivial ?_
         ·kernel_rfl
         refine AOps.nil ?_
         exact ⟨v14.1,h,rfl⟩
       ·replace h:=of_false h hb
        refine AWp.keepTo [0,2,9] 1 ⟨[(0,.pc 0 0),(2,q0 v2),(9,tI v12)],[.cells 65 (c64 v3)]⟩ ?_ (zz rfl) ?_
        ·kernel_rfl
        refine AWp.skip ?_
        exact ⟨v3.f2,h,rfl⟩
      ·rintro v13 h
       refine AWp.seq ?_
       refine AWp.start [0,1,2,3,4,5,6,7] [] [] [] 1 ⟨[],[.cells 65 [.str v3.f0,.int .i64 v3.f1,k0 v13,.int .i64 (w64 (v12 + (v2.length:Int))),.bool v3.f4]]⟩ rfl ?_ (zz rfl) trivial ?_
       ·kernel_rfl
       refine AOps.nil ?_
       refine AWp.seq ?_
       refine AWp.start [0] [] [] [6] 1 ⟨[(6,tI (0:Int))],[.cells 65 [.str v3.f0,.int .i64 v3.f1,k0 v13,.int .i64 (w64 (v12 + (v2.length:Int))),.bool v3.f4]]⟩ rfl ?_ (zz rfl) trivial ?_
       ·kernel_rfl
       refine AOps.nil ?_
       refine AWp.ret ?_
       cases h
       exact ⟨.inr rfl,rfl⟩

end Go.Sx.unit
