/- Printed by program (wip/gen): plain functions and their walks; no condition. -/
import Derived.Test.YtlfaghcnnlifmaaGreatGx5
namespace Go.Sx.top
open Go Go.Sx Go.Proofs

noncomputable def f3_b1 (v1:List T25) (v4:Int) (v5:Int):Option ((Int × Int) ⊕ Out Bool Int) :=
 (cond (decide (v5 < (v1.length:Int))) (some (decide (v5 < (70:Int)))) (some false)).bind fun v7=>cond v7 (if (0:Int) ≤ v5 ∧ v5 < (v1.length:Int) then some (.inl ((if (100000:Int) < w64 (v4 + (w64 ((if (1000:Int) < (if (0:Int) > (v1.getD v5.toNat default).f2 then (0:Int) else (v1.getD v5.toNat default).f2) then (1000:Int) else (if (0:Int) > (v1.getD v5.toNat default).f2 then (0:Int) else (v1.getD v5.toNat default).f2)) * (4:Int)))) then (100000:Int) else w64 (v4 + (w64 ((if (1000:Int) < (if (0:Int) > (v1.getD v5.toNat default).f2 then (0:Int) else (v1.getD v5.toNat default).f2) then (1000:Int) else (if (0:Int) > (v1.getD v5.toNat default).f2 then (0:Int) else (v1.getD v5.toNat default).f2)) * (4:Int))))),w64 (v5 + (1:Int)))) else none) (some (.inr (.go v4)))

noncomputable def f3_b2 (v1:List T25) (v13:(List Int) × (List Int) × (List Int) × Int) (v21:(List T37) × Int) (v22:Int):Option (Int ⊕ Out Bool Unit) :=
 cond (decide (v22 < (v21.1.length:Int))) (if (0:Int) < (v21.1.length:Int) ∧ (0:Int) ≤ v22 ∧ v22 < (v21.1.length:Int) then (f8 v1 v13.1 v13.2.1 (v21.1.getD 0 default) (v21.1.getD v22.toNat default)).bind fun v23=>(cond (v23.2 != (0:Int)) (some true) (some (!v23.1))).bind fun v24=>cond v24 (some (.inr (.ret false))) (some (.inl (w64 (v22 + (1:Int))))) else none) (some (.inr (.go ())))

noncomputable def f3_b3 (v1:List T25) (v13:(List Int) × (List Int) × (List Int) × Int) (v16:Int) (v18:Int) (v19:Int):Option ((Int × Int) ⊕ Out Bool Int) :=
 if (0:Int) ≤ v16 ∧ v16 < (v13.2.2.1.length:Int) then cond (decide (v19 < v13.2.2.1.getD v16.toNat default)) ((f7 v1 v13.1 v13.2.1 v16 v19).bind fun v21=>cond (v21.2 != (0:Int)) (some (.inr (.ret false))) ((iter (fun s=>f3_b2 v1 v13 v21 s) (0:Int)).bind fun y=>match y with | .ret v25=>some (.inr (.ret v25)) | .go _=>some (.inl (w64 (v18 + (v21.1.length:Int)),w64 (v19 + (1:Int)))))) (some (.inr (.go v18))) else none

noncomputable def f3_b4 (v1:List T25) (v13:(List Int) × (List Int) × (List Int) × Int) (v15:Int) (v16:Int):Option ((Int × Int) ⊕ Out Bool Int) :=
 cond (decide (v16 < (v13.2.2.1.length:Int))) ((iter (fun s=>f3_b3 v1 v13 v16 s.1 s.2) (v15,(0:Int))).bind fun y=>match y with | .ret v26=>some (.inr (.ret v26)) | .go v20=>if (0:Int) ≤ v16 ∧ v16 < (v13.2.2.1.length:Int) then (f7 v1 v13.1 v13.2.1 v16 (v13.2.2.1.getD v16.toNat default)).bind fun v27=>(cond (v27.2 != (0:Int)) (some true) (some (decide ((v27.1.length:Int) > (0:Int))))).bind fun v28=>cond v28 (some (.inr (.ret false))) (some (.inl (v20,w64 (v16 + (1:Int))))) else none) (some (.inr (.go v15)))

noncomputable def f3_b5 (v1:List T25) (v30:Int) (v31:Int):Option ((Int × Int) ⊕ Out Bool Int) :=
 cond (decide (v31 < (v1.length:Int))) (if (0:Int) ≤ v31 ∧ v31 < (v1.length:Int) ∧ (0:Int) ≤ v31 ∧ v31 < (v1.length:Int) then some (.inl (w64 (v30 + (w64 (((v1.getD v31.toNat default).f1) * ((v1.getD v31.toNat default).f2)))),w64 (v31 + (1:Int)))) else none) (some (.inr (.go v30)))

noncomputable def f3 (v1:List T25) (v2:List (List T37)) (v3:List (List (List UInt8))):Option Bool :=
 (iter (fun s=>f3_b1 v1 s.1 s.2) ((0:Int),(0:Int))).bind fun y=>match y with | .ret v8=>some v8 | .go v6=>(cond (decide ((v1.length:Int) > (60:Int))) (some true) (some (decide ((v2.length:Int) > (60:Int))))).bind fun v9=>(cond v9 (some true) (some (decide ((v3.length:Int) > (60:Int))))).bind fun v10=>(cond v10 (some true) (some (decide (v6 > (160:Int))))).bind fun v11=>cond v11 ((f5 ).bind fun v12=>some v12) ((f6 v1 v2 v3).bind fun v13=>cond (v13.2.2.2 != (0:Int)) ((f5 ).bind fun v14=>some v14) ((iter (fun s=>f3_b4 v1 v13 s.1 s.2) ((0:Int),(0:Int))).bind fun y=>match y with | .ret v29=>some v29 | .go v17=>(iter (fun s=>f3_b5 v1 s.1 s.2) ((0:Int),(0:Int))).bind fun y=>match y with | .ret v33=>some v33 | .go v32=>(cond (v17 == v32) ((f5 ).bind fun v35=>some v35) (some false)).bind fun v34=>some v34))

theorem f3_ok (v1:List T25) (v2:List (List T37)) (v3:List (List (List UInt8))) {r:Bool} (h:f3 v1 v2 v3 = some r):ACall Tryz.prog 3 [.tv (fzL 3 c25 v1),.tv (fzL 1 (cSl 2 c37) v2),.tv (fzL 1 (cSl 1 cStr) v3)] [] (.tv (.bool r)) []:=by
 refine ACall.of1 (FF 175 0) Tryz.func3 rfl Tryz.ntmps3 Tryz.results3 (zz rfl) rfl rfl ?_
 refine AWp.seq ?_
 refine AWp.start [0] [] [] [0,1,2] 0 ⟨[(0,q0 v1),(1,.tv (fzL 1 (cSl 2 c37) v2)),(2,.tv (fzL 1 (cSl 1 cStr) v3))],[]⟩ rfl ?_ z0 trivial ?_
 ·kernel_rfl
 refine AOps.nil ?_
 refine AWp.seq ?_
 refine AWp.start [0] [] [] [0,1,2,7] 0 ⟨[(0,q0 v1),(1,.tv (fzL 1 (cSl 2 c37) v2)),(2,.tv (fzL 1 (cSl 1 cStr) v3)),(7,tI (0:Int))],[]⟩ rfl ?_ z0 trivial ?_
 ·kernel_rfl
 refine AOps.nil ?_
 refine AWp.seq ?_
 refine AWp.seq ?_
 refine AWp.start [0] [] [] [0,1,2,7,8] 0 ⟨[(0,q0 v1),(1,.tv (fzL 1 (cSl 2 c37) v2)),(2,.tv (fzL 1 (cSl 1 cStr) v3)),(7,tI (0:Int)),(8,tI (0:Int))],[]⟩ rfl ?_ z0 trivial ?_
 ·kernel_rfl
 refine AOps.nil ?_
 refine AWp.block ?_
 obtain ⟨y,hy,h⟩:=of_bind h
 refine AWp.mono (AWp.loop (S:=Int × Int) (Y:=Out Bool Int) (fun s=>⟨[(0,q0 v1),(1,.tv (fzL 1 (cSl 2 c37) v2)),(2,.tv (fzL 1 (cSl 1 cStr) v3)),(7,tI s.1),(8,tI s.2)],[]⟩) (fun s=>f3_b1 v1 s.1 s.2) (fun y e σ=>match y with | .ret r=>e = .ret ∧ σ = ⟨[(6,tB r)],[]⟩ | .go v=>e = .exit 0 ∧ σ = ⟨[(0,q0 v1),(1,.tv (fzL 1 (cSl 2 c37) v2)),(2,.tv (fzL 1 (cSl 1 cStr) v3)),(7,tI v)],[]⟩) ?_ hy) ?_
 ·rintro ⟨v4,v5⟩ o h
  refine AWp.seq ?_
  refine AWp.seq ?_
  refine AWp.start [0,1,2,3,4] [5,6,7] [] [0,1,2,7,8,29] 0 ⟨[(0,q0 v1),(1,.tv (fzL 1 (cSl 2 c37) v2)),(2,.tv (fzL 1 (cSl 1 cStr) v3)),(7,tI v4),(8,tI v5),(29,tB (decide (v5 < (v1.length:Int))))],[]⟩ rfl ?_ z0 trivial ?_
  ·kernel_rfl
  obtain ⟨v7,hc5,h⟩:=of_bind h
  refine AOps.cut [5,6,7] [] (fun σ=>σ = ⟨[(0,q0 v1),(1,.tv (fzL 1 (cSl 2 c37) v2)),(2,.tv (fzL 1 (cSl 1 cStr) v3)),(7,tI v4),(8,tI v5),(32,tB v7)],[]⟩) ?_ fun σ' hJ=>?_
  ·refine AOps.split (fun b=>⟨[(0,q0 v1),(1,.tv (fzL 1 (cSl 2 c37) v2)),(2,.tv (fzL 1 (cSl 1 cStr) v3)),(7,tI v4),(8,tI v5),(29,tB b)],[]⟩) _ (fun hb=>?_) fun hb=>?_
   ·replace hc5:=of_true hc5 hb
    refine AOps.go [5,6,7] [] [] [0,1,2,7,8,32] 0 ⟨[(0,q0 v1),(1,.tv (fzL 1 (cSl 2 c37) v2)),(2,.tv (fzL 1 (cSl 1 cStr) v3)),(7,tI v4),(8,tI v5),(32,tB (decide (v5 < (70:Int))))],[]⟩ ?_ z0 trivial ?_
    ·kernel_rfl
    cases hc5
    exact AOps.nil rfl
   ·replace hc5:=of_false hc5 hb
    refine AOps.go [5,6,7] [] [] [0,1,2,7,8,32] 0 ⟨[(0,q0 v1),(1,.tv (fzL 1 (cSl 2 c37) v2)),(2,.tv (fzL 1 (cSl 1 cStr) v3)),(7,tI v4),(8,tI v5),(32,tB false)],[]⟩ ?_ z0 trivial ?_
    ·kernel_rfl
    cases hc5
    exact AOps.nil rfl
  subst hJ
  refine AOps.nil ?_
  refine AWp.cond rfl (fun hb=>?_) fun hb=>?_
  ·replace h:=of_true h hb
   refine AWp.keepTo [0,1,2,7,8] 0 ⟨[(0,q0 v1),(1,.tv (fzL 1 (cSl 2 c37) v2)),(2,.tv (fzL 1 (cSl 1 cStr) v3)),(7,tI v4),(8,tI v5)],[]⟩ ?_ z0 ?_
   ·kernel_rfl
   refine AWp.skip ?_
   refine AWp.seq ?_
   refine AWp.block ?_
   obtain ⟨hg,h⟩:=of_guard h
   refine AWp.start [0,1,2,3,4,5,6,7,8,9,10,11] [] [(0:Int) ≤ v5,v5 < (v1.length:Int)] [0,1,2,7,8] 0 ⟨[(0,q0 v1),(1,.tv (fzL 1 (cSl 2 c37) v2)),(2,.tv (fzL 1 (cSl 1 cStr) v3)),(7,tI (if (100000:Int) < w64 (v4 + (w64 ((if (1000:Int) < (if (0:Int) > (gD v1 v5).f2 then (0:Int) else (gD v1 v5).f2) then (1000:Int) else (if (0:Int) > (gD v1 v5).f2 then (0:Int) else (gD v1 v5).f2)) * (4:Int)))) then (100000:Int) else w64 (v4 + (w64 ((if (1000:Int) < (if (0:Int) > (gD v1 v5).f2 then (0:Int) else (gD v1 v5).f2) then (1000:Int) else (if (0:Int) > (gD v1 v5).f2 then (0:Int) else (gD v1 v5).f2)) * (4:Int)))))),(8,tI v5)],[]⟩ rfl ?_ z0 ⟨hg.1,hg.2⟩ ?_
   ·kernel_rfl
   refine AOps.nil ?_
   refine AWp.start [0,1,2] [] [] [0,1,2,7,8] 0 ⟨[(0,q0 v1),(1,.tv (fzL 1 (cSl 2 c37) v2)),(2,.tv (fzL 1 (cSl 1 cStr) v3)),(7,tI (if (100000:Int) < w64 (v4 + (w64 ((if (1000:Int) < (if (0:Int) > (gD v1 v5).f2 then (0:Int) else (gD v1 v5).f2) then (1000:Int) else (if (0:Int) > (gD v1 v5).f2 then (0:Int) else (gD v1 v5).f2)) * (4:Int)))) then (100000:Int) else w64 (v4 + (w64 ((if (1000:Int) < (if (0:Int) > (gD v1 v5).f2 then (0:Int) else (gD v1 v5).f2) then (1000:Int) else (if (0:Int) > (gD v1 v5).f2 then (0:Int) else (gD v1 v5).f2)) * (4:Int)))))),(8,tI (w64 (v5 + (1:Int))))],[]⟩ rfl ?_ z0 trivial ?_
   ·kernel_rfl
   refine AOps.nil ?_
   cases h
   exact Or.inl ⟨_,rfl,rfl,rfl⟩
  ·replace h:=of_false h hb
   refine AWp.keepTo [0,1,2,7] 0 ⟨[(0,q0 v1),(1,.tv (fzL 1 (cSl 2 c37) v2)),(2,.tv (fzL 1 (cSl 1 cStr) v3)),(7,tI v4)],[]⟩ ?_ z0 ?_
   ·kernel_rfl
   refine AWp.exit ?_
   cases h
   exact Or.inr ⟨_,rfl,by simp,rfl,rfl⟩
 ·intro e σ hp
  rcases y with v8 | v6
  ·obtain ⟨rfl,rfl⟩:=hp
   cases h
   exact ⟨.inr rfl,rfl⟩
  ·obtain ⟨rfl,rfl⟩:=hp
   refine AWp.seq ?_
   refine AWp.seq ?_
   refine AWp.start [0,1,2,3] [4,5,6,7,8,9,10,11,12,13,14,15,16] [] [0,1,2,7,49] 0 ⟨[(0,q0 v1),(1,.tv (fzL 1 (cSl 2 c37) v2)),(2,.tv (fzL 1 (cSl 1 cStr) v3)),(7,tI v6),(49,tB (decide ((v1.length:Int) > (60:Int))))],[]⟩ rfl ?_ z0 trivial ?_
   ·kernel_rfl
   obtain ⟨v9,hc4,h⟩:=of_bind h
   refine AOps.cut [4,5,6,7] [8,9,10,11,12,13,14,15,16] (fun σ=>σ = ⟨[(0,q0 v1),(1,.tv (fzL 1 (cSl 2 c37) v2)),(2,.tv (fzL 1 (cSl 1 cStr) v3)),(7,tI v6),(53,tB v9)],[]⟩) ?_ fun σ' hJ=>?_
   ·refine AOps.split (fun b=>⟨[(0,q0 v1),(1,.tv (fzL 1 (cSl 2 c37) v2)),(2,.tv (fzL 1 (cSl 1 cStr) v3)),(7,tI v6),(49,tB b)],[]⟩) _ (fun hb=>?_) fun hb=>?_
    ·replace hc4:=of_true hc4 hb
     refine AOps.go [4,5,6,7] [] [] [0,1,2,7,53] 0 ⟨[(0,q0 v1),(1,.tv (fzL 1 (cSl 2 c37) v2)),(2,.tv (fzL 1 (cSl 1 cStr) v3)),(7,tI v6),(53,tB true)],[]⟩ ?_ z0 trivial ?_
     ·kernel_rfl
     cases hc4
     exact AOps.nil rfl
    ·replace hc4:=of_false hc4 hb
     refine AOps.go [4,5,6,7] [] [] [0,1,2,7,53] 0 ⟨[(0,q0 v1),(1,.tv (fzL 1 (cSl 2 c37) v2)),(2,.tv (fzL 1 (cSl 1 cStr) v3)),(7,tI v6),(53,tB (decide ((v2.length:Int) > (60:Int))))],[]⟩ ?_ z0 trivial ?_
     ·kernel_rfl
     cases hc4
     exact AOps.nil rfl
   subst hJ
   refine AOps.go [8] [9,10,11,12,13,14,15,16] [] [0,1,2,7,54] 0 ⟨[(0,q0 v1),(1,.tv (fzL 1 (cSl 2 c37) v2)),(2,.tv (fzL 1 (cSl 1 cStr) v3)),(7,tI v6),(54,tB v9)],[]⟩ ?_ z0 trivial ?_
   ·kernel_rfl
   obtain ⟨v10,hc9,h⟩:=of_bind h
   refine AOps.cut [9,10,11,12] [13,14,15,16] (fun σ=>σ = ⟨[(0,q0 v1),(1,.tv (fzL 1 (cSl 2 c37) v2)),(2,.tv (fzL 1 (cSl 1 cStr) v3)),(7,tI v6),(58,tB v10)],[]⟩) ?_ fun σ' hJ=>?_
   ·refine AOps.split (fun b=>⟨[(0,q0 v1),(1,.tv (fzL 1 (cSl 2 c37) v2)),(2,.tv (fzL 1 (cSl 1 cStr) v3)),(7,tI v6),(54,tB b)],[]⟩) _ (fun hb=>?_) fun hb=>?_
    ·replace hc9:=of_true hc9 hb
     refine AOps.go [9,10,11,12] [] [] [0,1,2,7,58] 0 ⟨[(0,q0 v1),(1,.tv (fzL 1 (cSl 2 c37) v2)),(2,.tv (fzL 1 (cSl 1 cStr) v3)),(7,tI v6),(58,tB true)],[]⟩ ?_ z0 trivial ?_
     ·kernel_rfl
     cases hc9
     exact AOps.nil rfl
    ·replace hc9:=of_false hc9 hb
     refine AOps.go [9,10,11,12] [] [] [0,1,2,7,58] 0 ⟨[(0,q0 v1),(1,.tv (fzL 1 (cSl 2 c37) v2)),(2,.tv (fzL 1 (cSl 1 cStr) v3)),(7,tI v6),(58,tB (decide ((v3.length:Int) > (60:Int))))],[]⟩ ?_ z0 trivial ?_
     ·kernel_rfl
     cases hc9
     exact AOps.nil rfl
   subst hJ
   refine AOps.go [13] [14,15,16] [] [0,1,2,7,59] 0 ⟨[(0,q0 v1),(1,.tv (fzL 1 (cSl 2 c37) v2)),(2,.tv (fzL 1 (cSl 1 cStr) v3)),(7,tI v6),(59,tB v10)],[]⟩ ?_ z0 trivial ?_
   ·kernel_rfl
   obtain ⟨v11,hc14,h⟩:=of_bind h
   refine AOps.cut [14,15,16] [] (fun σ=>σ = ⟨[(0,q0 v1),(1,.tv (fzL 1 (cSl 2 c37) v2)),(2,.tv (fzL 1 (cSl 1 cStr) v3)),(62,tB v11)],[]⟩) ?_ fun σ' hJ=>?_
   ·refine AOps.split (fun b=>⟨[(0,q0 v1),(1,.tv (fzL 1 (cSl 2 c37) v2)),(2,.tv (fzL 1 (cSl 1 cStr) v3)),(7,tI v6),(59,tB b)],[]⟩) _ (fun hb=>?_) fun hb=>?_
    ·replace hc14:=of_true hc14 hb
     refine AOps.go [14,15,16] [] [] [0,1,2,62] 0 ⟨[(0,q0 v1),(1,.tv (fzL 1 (cSl 2 c37) v2)),(2,.tv (fzL 1 (cSl 1 cStr) v3)),(62,tB true)],[]⟩ ?_ z0 trivial ?_
     ·kernel_rfl
     cases hc14
     exact AOps.nil rfl
    ·replace hc14:=of_false hc14 hb
     refine AOps.go [14,15,16] [] [] [0,1,2,62] 0 ⟨[(0,q0 v1),(1,.tv (fzL 1 (cSl 2 c37) v2)),(2,.tv (fzL 1 (cSl 1 cStr) v3)),(62,tB (decide (v6 > (160:Int))))],[]⟩ ?_ z0 trivial ?_
     ·kernel_rfl
     cases hc14
     exact AOps.nil rfl
   subst hJ
   refine AOps.nil ?_
   refine AWp.cond rfl (fun hb=>?_) fun hb=>?_
   ·replace h:=of_true h hb
    refine AWp.keepTo [] 0 ⟨[],[]⟩ ?_ z0 ?_
    ·kernel_rfl
    refine AWp.seq ?_
    refine AWp.start [] [0,1] [] [] 0 ⟨[],[]⟩ rfl ?_ z0 trivial ?_
    ·kernel_rfl
    obtain ⟨v12,hv12,h⟩:=of_bind h
    refine AOps.cons (AOne.callP (F:=(FF 175 0)) _ rfl rfl rfl _ rfl rfl _ _ rfl Tryz.call5 [] rfl rfl (f5_ok  hv12) rfl) ?_
    refine AOps.go [1] [] [] [6] 0 ⟨[(6,tB v12)],[]⟩ ?_ z0 trivial ?_
    ·kernel_rfl
    refine AOps.nil ?_
    refine AWp.ret ?_
    cases h
    exact ⟨.inr rfl,rfl⟩
   ·replace h:=of_false h hb
    refine AWp.keepTo [0,1,2] 0 ⟨[(0,q0 v1),(1,.tv (fzL 1 (cSl 2 c37) v2)),(2,.tv (fzL 1 (cSl 1 cStr) v3))],[]⟩ ?_ z0 ?_
    ·kernel_rfl
    refine AWp.skip ?_
    refine AWp.seq ?_
    refine AWp.start [0,1,2] [3,4,5,6,7,8,9,10,11,12] [] [0,65,66,67] 0 ⟨[(0,q0 v1),(65,q0 v1),(66,.tv (fzL 1 (cSl 2 c37) v2)),(67,.tv (fzL 1 (cSl 1 cStr) v3))],[]⟩ rfl ?_ z0 trivial ?_
    ·kernel_rfl
    obtain ⟨v13,hv13,h⟩:=of_bind h
    refine AOps.cons (AOne.callP (F:=(FF 175 0)) _ rfl rfl rfl _ rfl rfl _ _ rfl Tryz.call6 [q0 v1,.tv (fzL 1 (cSl 2 c37) v2),.tv (fzL 1 (cSl 1 cStr) v3)] rfl rfl (f6_ok v1 v2 v3 hv13) rfl) ?_
    refine AOps.go [4,5,6,7,8,9,10,11,12] [] [] [0,9,10,11,12] 0 ⟨[(0,q0 v1),(9,q1 v13.1),(10,q1 v13.2.1),(11,q1 v13.2.2.1),(12,tI v13.2.2.2)],[]⟩ ?_ z0 trivial ?_
    ·kernel_rfl
    refine AOps.nil ?_
    refine AWp.seq ?_
    refine AWp.seq ?_
    refine AWp.start [0,1] [] [] [0,9,10,11,74] 0 ⟨[(0,q0 v1),(9,q1 v13.1),(10,q1 v13.2.1),(11,q1 v13.2.2.1),(74,tB (v13.2.2.2 != (0:Int)))],[]⟩ rfl ?_ z0 trivial ?_
    ·kernel_rfl
    refine AOps.nil ?_
    refine AWp.cond rfl (fun hb=>?_) fun hb=>?_
    ·replace h:=of_true h hb
     refine AWp.keepTo [] 0 ⟨[],[]⟩ ?_ z0 ?_
     ·kernel_rfl
     refine AWp.seq ?_
     refine AWp.start [] [0,1] [] [] 0 ⟨[],[]⟩ rfl ?_ z0 trivial ?_
     ·kernel_rfl
     obtain ⟨v14,hv14,h⟩:=of_bind h
     refine AOps.cons (AOne.callP (F:=(FF 175 0)) _ rfl rfl rfl _ rfl rfl _ _ rfl Tryz.call5 [] rfl rfl (f5_ok  hv14) rfl) ?_
     refine AOps.go [1] [] [] [6] 0 ⟨[(6,tB v14)],[]⟩ ?_ z0 trivial ?_
     ·kernel_rfl
     refine AOps.nil ?_
     refine AWp.ret ?_
     cases h
     exact ⟨.inr rfl,rfl⟩
    ·replace h:=of_false h hb
     refine AWp.keepTo [0,9,10,11] 0 ⟨[(0,q0 v1),(9,q1 v13.1),(10,q1 v13.2.1),(11,q1 v13.2.2.1)],[]⟩ ?_ z0 ?_
     ·kernel_rfl
     refine AWp.skip ?_
     refine AWp.seq ?_
     refine AWp.start [0] [] [] [0,9,10,11,13] 0 ⟨[(0,q0 v1),(9,q1 v13.1),(10,q1 v13.2.1),(11,q1 v13.2.2.1),(13,tI (0:Int))],[]⟩ rfl ?_ z0 trivial ?_
     ·kernel_rfl
     refine AOps.nil ?_
     refine AWp.seq ?_
     refine AWp.seq ?_
     refine AWp.start [0] [] [] [0,9,10,11,13,14] 0 ⟨[(0,q0 v1),(9,q1 v13.1),(10,q1 v13.2.1),(11,q1 v13.2.2.1),(13,tI (0:Int)),(14,tI (0:Int))],[]⟩ rfl ?_ z0 trivial ?_
     ·kernel_rfl
     refine AOps.nil ?_
     refine AWp.block ?_
     obtain ⟨y,hy,h⟩:=of_bind h
     refine AWp.mono (AWp.loop (S:=Int × Int) (Y:=Out Bool Int) (fun s=>⟨[(0,q0 v1),(9,q1 v13.1),(10,q1 v13.2.1),(11,q1 v13.2.2.1),(13,tI s.1),(14,tI s.2)],[]⟩) (fun s=>f3_b4 v1 v13 s.1 s.2) (fun y e σ=>match y with | .ret r=>e = .ret ∧ σ = ⟨[(6,tB r)],[]⟩ | .go v=>e = .exit 2 ∧ σ = ⟨[(0,q0 v1),(13,tI v)],[]⟩) ?_ hy) ?_
     ·rintro ⟨v15,v16⟩ o h
      refine AWp.seq ?_
      refine AWp.seq ?_
      refine AWp.start [0,1,2,3] [] [] [0,9,10,11,13,14,79] 0 ⟨[(0,q0 v1),(9,q1 v13.1),(10,q1 v13.2.1),(11,q1 v13.2.2.1),(13,tI v15),(14,tI v16),(79,tB (decide (v16 < (v13.2.2.1.length:Int))))],[]⟩ rfl ?_ z0 trivial ?_
      ·kernel_rfl
      refine AOps.nil ?_
      refine AWp.cond rfl (fun hb=>?_) fun hb=>?_
      ·replace h:=of_true h hb
       refine AWp.keepTo [0,9,10,11,13,14] 0 ⟨[(0,q0 v1),(9,q1 v13.1),(10,q1 v13.2.1),(11,q1 v13.2.2.1),(13,tI v15),(14,tI v16)],[]⟩ ?_ z0 ?_
       ·kernel_rfl
       refine AWp.skip ?_
       refine AWp.seq ?_
       refine AWp.block ?_
       refine AWp.seq ?_
       refine AWp.seq ?_
       refine AWp.start [0] [] [] [0,9,10,11,13,14,15] 0 ⟨[(0,q0 v1),(9,q1 v13.1),(10,q1 v13.2.1),(11,q1 v13.2.2.1),(13,tI v15),(14,tI v16),(15,tI (0:Int))],[]⟩ rfl ?_ z0 trivial ?_
       ·kernel_rfl
       refine AOps.nil ?_
       refine AWp.block ?_
       obtain ⟨y,hy,h⟩:=of_bind h
       refine AWp.mono (AWp.loop (S:=Int × Int) (Y:=Out Bool Int) (fun s=>⟨[(0,q0 v1),(9,q1 v13.1),(10,q1 v13.2.1),(11,q1 v13.2.2.1),(13,tI s.1),(14,tI v16),(15,tI s.2)],[]⟩) (fun s=>f3_b3 v1 v13 v16 s.1 s.2) (fun y e σ=>match y with | .ret r=>e = .ret ∧ σ = ⟨[(6,tB r)],[]⟩ | .go v=>e = .exit 4 ∧ σ = ⟨[(0,q0 v1),(9,q1 v13.1),(10,q1 v13.2.1),(11,q1 v13.2.2.1),(13,tI v),(14,tI v16)],[]⟩) ?_ hy) ?_
       ·rintro ⟨v18,v19⟩ o h
        refine AWp.seq ?_
        refine AWp.seq ?_
        obtain ⟨hg,h⟩:=of_guard h
        refine AWp.start [0,1,2,3,4,5] [] [(0:Int) ≤ v16,v16 < (v13.2.2.1.length:Int)] [0,9,10,11,13,14,15,87] 0 ⟨[(0,q0 v1),(9,q1 v13.1),(10,q1 v13.2.1),(11,q1 v13.2.2.1),(13,tI v18),(14,tI v16),(15,tI v19),(87,tB (decide (v19 < gD v13.2.2.1 v16)))],[]⟩ rfl ?_ z0 ⟨hg.1,hg.2⟩ ?_
        ·kernel_rfl
        refine AOps.nil ?_
        refine AWp.cond rfl (fun hb=>?_) fun hb=>?_
        ·replace h:=of_true h hb
         refine AWp.keepTo [0,9,10,11,13,14,15] 0 ⟨[(0,q0 v1),(9,q1 v13.1),(10,q1 v13.2.1),(11,q1 v13.2.2.1),(13,tI v18),(14,tI v16),(15,tI v19)],[]⟩ ?_ z0 ?_
         ·kernel_rfl
         refine AWp.skip ?_
         refine AWp.seq ?_
         refine AWp.block ?_
         refine AWp.seq ?_
         refine AWp.start [0,1,2,3,4] [5,6,7,8,9,10] [] [0,9,10,11,13,14,15,91,92,93,94,95] 0 ⟨[(0,q0 v1),(9,q1 v13.1),(10,q1 v13.2.1),(11,q1 v13.2.2.1),(13,tI v18),(14,tI v16),(15,tI v19),(91,q0 v1),(92,q1 v13.1),(93,q1 v13.2.1),(94,tI v16),(95,tI v19)],[]⟩ rfl ?_ z0 trivial ?_
         ·kernel_rfl
         obtain ⟨v21,hv21,h⟩:=of_bind h
         refine AOps.cons (AOne.callP (F:=(FF 175 0)) _ rfl rfl rfl _ rfl rfl _ _ rfl Tryz.call7 [q0 v1,q1 v13.1,q1 v13.2.1,tI v16,tI v19] rfl rfl (f7_ok v1 v13.1 v13.2.1 v16 v19 hv21) rfl) ?_
         refine AOps.go [6,7,8,9,10] [] [] [0,9,10,11,13,14,15,16,17] 0 ⟨[(0,q0 v1),(9,q1 v13.1),(10,q1 v13.2.1),(11,q1 v13.2.2.1),(13,tI v18),(14,tI v16),(15,tI v19),(16,q5 v21.1),(17,tI v21.2)],[]⟩ ?_ z0 trivial ?_
         ·kernel_rfl
         refine AOps.nil ?_
         refine AWp.seq ?_
         refine AWp.seq ?_
         refine AWp.start [0,1] [] [] [0,9,10,11,13,14,15,16,100] 0 ⟨[(0,q0 v1),(9,q1 v13.1),(10,q1 v13.2.1),(11,q1 v13.2.2.1),(13,tI v18),(14,tI v16),(15,tI v19),(16,q5 v21.1),(100,tB (v21.2 != (0:Int)))],[]⟩ rfl ?_ z0 trivial ?_
         ·kernel_rfl
         refine AOps.nil ?_
         refine AWp.cond rfl (fun hb=>?_) fun hb=>?_
         ·replace h:=of_true h hb
          refine AWp.keepTo [] 0 ⟨[],[]⟩ ?_ z0 ?_
          ·kernel_rfl
          refine AWp.seq ?_
          refine AWp.start [0] [] [] [6] 0 ⟨[(6,tB false)],[]⟩ rfl ?_ z0 trivial ?_
          ·kernel_rfl
          refine AOps.nil ?_
          refine AWp.ret ?_
          cases h
          exact Or.inr ⟨_,rfl,by simp,rfl,rfl⟩
         ·replace h:=of_false h hb
          refine AWp.keepTo [0,9,10,11,13,14,15,16] 0 ⟨[(0,q0 v1),(9,q1 v13.1),(10,q1 v13.2.1),(11,q1 v13.2.2.1),(13,tI v18),(14,tI v16),(15,tI v19),(16,q5 v21.1)],[]⟩ ?_ z0 ?_
          ·kernel_rfl
          refine AWp.skip ?_
          refine AWp.seq ?_
          refine AWp.start [0,1,2,3,4] [] [] [0,9,10,11,13,14,15,16] 0 ⟨[(0,q0 v1),(9,q1 v13.1),(10,q1 v13.2.1),(11,q1 v13.2.2.1),(13,tI (w64 (v18 + (v21.1.length:Int)))),(14,tI v16),(15,tI v19),(16,q5 v21.1)],[]⟩ rfl ?_ z0 trivial ?_
          ·kernel_rfl
          refine AOps.nil ?_
          refine AWp.seq ?_
          refine AWp.start [0] [] [] [0,9,10,11,13,14,15,16,18] 0 ⟨[(0,q0 v1),(9,q1 v13.1),(10,q1 v13.2.1),(11,q1 v13.2.2.1),(13,tI (w64 (v18 + (v21.1.length:Int)))),(14,tI v16),(15,tI v19),(16,q5 v21.1),(18,tI (0:Int))],[]⟩ rfl ?_ z0 trivial ?_
          ·kernel_rfl
          refine AOps.nil ?_
          refine AWp.block ?_
          obtain ⟨y,hy,h⟩:=of_bind h
          refine AWp.mono (AWp.loop (S:=Int) (Y:=Out Bool Unit) (fun s=>⟨[(0,q0 v1),(9,q1 v13.1),(10,q1 v13.2.1),(11,q1 v13.2.2.1),(13,tI (w64 (v18 + (v21.1.length:Int)))),(14,tI v16),(15,tI v19),(16,q5 v21.1),(18,tI s)],[]⟩) (fun s=>f3_b2 v1 v13 v21 s) (fun y e σ=>match y with | .ret r=>e = .ret ∧ σ = ⟨[(6,tB r)],[]⟩ | .go v=>e = .exit 6 ∧ σ = ⟨[(0,q0 v1),(9,q1 v13.1),(10,q1 v13.2.1),(11,q1 v13.2.2.1),(13,tI (w64 (v18 + (v21.1.length:Int)))),(14,tI v16),(15,tI v19)],[]⟩) ?_ hy) ?_
          ·rintro v22 o h
           refine AWp.seq ?_
           refine AWp.seq ?_
           refine AWp.start [0,1,2,3] [] [] [0,9,10,11,13,14,15,16,18,108] 0 ⟨[(0,q0 v1),(9,q1 v13.1),(10,q1 v13.2.1),(11,q1 v13.2.2.1),(13,tI (w64 (v18 + (v21.1.length:Int)))),(14,tI v16),(15,tI v19),(16,q5 v21.1),(18,tI v22),(108,tB (decide (v22 < (v21.1.length:Int))))],[]⟩ rfl ?_ z0 trivial ?_
           ·kernel_rfl
           refine AOps.nil ?_
           refine AWp.cond rfl (fun hb=>?_) fun hb=>?_
           ·replace h:=of_true h hb
            refine AWp.keepTo [0,9,10,11,13,14,15,16,18] 0 ⟨[(0,q0 v1),(9,q1 v13.1),(10,q1 v13.2.1),(11,q1 v13.2.2.1),(13,tI (w64 (v18 + (v21.1.length:Int)))),(14,tI v16),(15,tI v19),(16,q5 v21.1),(18,tI v22)],[]⟩ ?_ z0 ?_
            ·kernel_rfl
            refine AWp.skip ?_
            refine AWp.seq ?_
            refine AWp.block ?_
            refine AWp.seq ?_
            refine AWp.draw FFm _ (n:=16) rfl (ls:=#[n1,n1,n1,n1,n1,n1,n1,n1,n1,n1,n1,n1,n1,n1,n1,n1]) rfl ?_ (fun _ h=>h)
            obtain ⟨hg,h⟩:=of_guard h
            refine AAny.go (by kernel_rfl) [0,1,2,3,4,5,6,7,8,9] (fuel':=6) rfl [(0:Int) ≤ (0:Int),(0:Int) < (v21.1.length:Int),(0:Int) ≤ v22,v22 < (v21.1.length:Int)] #[y1,y1,y1,y1,y1,y1,y1,y1,y1,y1,n1,n1,n1,n1,n1,n1] [0,9,10,11,13,14,15,16,18,112,113,114,117,121] 0 ⟨[(0,q0 v1),(9,q1 v13.1),(10,q1 v13.2.1),(11,q1 v13.2.2.1),(13,tI (w64 (v18 + (v21.1.length:Int)))),(14,tI v16),(15,tI v19),(16,q5 v21.1),(18,tI v22),(112,q0 v1),(113,q1 v13.1),(114,q1 v13.2.1),(117,.agg (c37 (v21.1.getD 0 default))),(121,.agg (c37 (gD v21.1 v22)))],[]⟩ ?_ z0 ⟨(by decide:(0:Int) ≤ (0:Int)),hg.1,hg.2.1,hg.2.2⟩ ?_
            ·kernel_rfl
            obtain ⟨v23,hv23,h⟩:=of_bind h
            refine AAny.serial (i:=10) (fuel:=5) (by kernel_rfl) (AOne.callP (F:=(FF 175 0)) _ rfl rfl rfl _ rfl rfl _ _ rfl Tryz.call8 [q0 v1,q1 v13.1,q1 v13.2.1,.agg (c37 (v21.1.getD 0 default)),.agg (c37 (gD v21.1 v22))] rfl rfl (f8_ok v1 v13.1 v13.2.1 (v21.1.getD 0 default) (gD v21.1 v22) hv23) rfl) ?_
            refine AAny.keepTo [0,9,10,11,13,14,15,16,18,122] 0 ⟨[(0,q0 v1),(9,q1 v13.1),(10,q1 v13.2.1),(11,q1 v13.2.2.1),(13,tI (w64 (v18 + (v21.1.length:Int)))),(14,tI v16),(15,tI v19),(16,q5 v21.1),(18,tI v22),(122,.tup [tB v23.1,tI v23.2])],[]⟩ #[y1,y1,y1,y1,y1,y1,y1,y1,y1,y1,y1,n1,n1,n1,n1,n1] ?_ rfl z0 ?_
            ·kernel_rfl
            refine AAny.go (by kernel_rfl) [11,12,13,14,15] (fuel':=0) rfl [] #[y1,y1,y1,y1,y1,y1,y1,y1,y1,y1,y1,y1,y1,y1,y1,y1] [0,9,10,11,13,14,15,16,18,19,20] 0 ⟨[(0,q0 v1),(9,q1 v13.1),(10,q1 v13.2.1),(11,q1 v13.2.2.1),(13,tI (w64 (v18 + (v21.1.length:Int)))),(14,tI v16),(15,tI v19),(16,q5 v21.1),(18,tI v22),(19,tB v23.1),(20,tI v23.2)],[]⟩ ?_ z0 trivial ?_
            ·kernel_rfl
            refine AAny.keepTo [0,9,10,11,13,14,15,16,18,19,20] 0 ⟨[(0,q0 v1),(9,q1 v13.1),(10,q1 v13.2.1),(11,q1 v13.2.2.1),(13,tI (w64 (v18 + (v21.1.length:Int)))),(14,tI v16),(15,tI v19),(16,q5 v21.1),(18,tI v22),(19,tB v23.1),(20,tI v23.2)],[]⟩ _ ?_ rfl z0 (AAny.done (by kernel_rfl) ?_)
            ·kernel_rfl
            refine AWp.seq ?_
            refine AWp.start [0,1,2] [3,4,5] [] [0,9,10,11,13,14,15,16,18,19,127] 0 ⟨[(0,q0 v1),(9,q1 v13.1),(10,q1 v13.2.1),(11,q1 v13.2.2.1),(13,tI (w64 (v18 + (v21.1.length:Int)))),(14,tI v16),(15,tI v19),(16,q5 v21.1),(18,tI v22),(19,tB v23.1),(127,tB (v23.2 != (0:Int)))],[]⟩ rfl ?_ z0 trivial ?_
            ·kernel_rfl
            obtain ⟨v24,hc3,h⟩:=of_bind h
            refine AOps.cut [3,4,5] [] (fun σ=>σ = ⟨[(0,q0 v1),(9,q1 v13.1),(10,q1 v13.2.1),(11,q1 v13.2.2.1),(13,tI (w64 (v18 + (v21.1.length:Int)))),(14,tI v16),(15,tI v19),(16,q5 v21.1),(18,tI v22),(130,tB v24)],[]⟩) ?_ fun σ' hJ=>?_
            ·refine AOps.split (fun b=>⟨[(0,q0 v1),(9,q1 v13.1),(10,q1 v13.2.1),(11,q1 v13.2.2.1),(13,tI (w64 (v18 + (v21.1.length:Int)))),(14,tI v16),(15,tI v19),(16,q5 v21.1),(18,tI v22),(19,tB v23.1),(127,tB b)],[]⟩) _ (fun hb=>?_) fun hb=>?_
             ·replace hc3:=of_true hc3 hb
              refine AOps.go [3,4,5] [] [] [0,9,10,11,13,14,15,16,18,130] 0 ⟨[(0,q0 v1),(9,q1 v13.1),(10,q1 v13.2.1),(11,q1 v13.2.2.1),(13,tI (w64 (v18 + (v21.1.length:Int)))),(14,tI v16),(15,tI v19),(16,q5 v21.1),(18,tI v22),(130,tB true)],[]⟩ ?_ z0 trivial ?_
              ·kernel_rfl
              cases hc3
              exact AOps.nil rfl
             ·replace hc3:=of_false hc3 hb
              refine AOps.go [3,4,5] [] [] [0,9,10,11,13,14,15,16,18,130] 0 ⟨[(0,q0 v1),(9,q1 v13.1),(10,q1 v13.2.1),(11,q1 v13.2.2.1),(13,tI (w64 (v18 + (v21.1.length:Int)))),(14,tI v16),(15,tI v19),(16,q5 v21.1),(18,tI v22),(130,tB (!v23.1))],[]⟩ ?_ z0 trivial ?_
              ·kernel_rfl
              cases hc3
              exact AOps.nil rfl
            subst hJ
            refine AOps.nil ?_
            refine AWp.cond rfl (fun hb=>?_) fun hb=>?_
            ·replace h:=of_true h hb
             refine AWp.keepTo [] 0 ⟨[],[]⟩ ?_ z0 ?_
             ·kernel_rfl
             refine AWp.seq ?_
             refine AWp.start [0] [] [] [6] 0 ⟨[(6,tB false)],[]⟩ rfl ?_ z0 trivial ?_
             ·kernel_rfl
             refine AOps.nil ?_
             refine AWp.ret ?_
             cases h
             exact Or.inr ⟨_,rfl,by simp,rfl,rfl⟩
            ·replace h:=of_false h hb
             refine AWp.keepTo [0,9,10,11,13,14,15,16,18] 0 ⟨[(0,q0 v1),(9,q1 v13.1),(10,q1 v13.2.1),(11,q1 v13.2.2.1),(13,tI (w64 (v18 + (v21.1.length:Int)))),(14,tI v16),(15,tI v19),(16,q5 v21.1),(18,tI v22)],[]⟩ ?_ z0 ?_
             ·kernel_rfl
             refine AWp.skip ?_
             refine AWp.start [0,1,2] [] [] [0,9,10,11,13,14,15,16,18] 0 ⟨[(0,q0 v1),(9,q1 v13.1),(10,q1 v13.2.1),(11,q1 v13.2.2.1),(13,tI (w64 (v18 + (v21.1.length:Int)))),(14,tI v16),(15,tI v19),(16,q5 v21.1),(18,tI (w64 (v22 + (1:Int))))],[]⟩ rfl ?_ z0 trivial ?_
             ·kernel_rfl
             refine AOps.nil ?_
             cases h
             exact Or.inl ⟨_,rfl,rfl,rfl⟩
           ·replace h:=of_false h hb
            refine AWp.keepTo [0,9,10,11,13,14,15] 0 ⟨[(0,q0 v1),(9,q1 v13.1),(10,q1 v13.2.1),(11,q1 v13.2.2.1),(13,tI (w64 (v18 + (v21.1.length:Int)))),(14,tI v16),(15,tI v19)],[]⟩ ?_ z0 ?_
            ·kernel_rfl
            refine AWp.exit ?_
            cases h
            exact Or.inr ⟨_,rfl,by simp,rfl,rfl⟩
          ·intro e σ hp
           rcases y with v25 | _
           ·obtain ⟨rfl,rfl⟩:=hp
            cases h
            exact Or.inr ⟨_,rfl,by simp,rfl,rfl⟩
           ·obtain ⟨rfl,rfl⟩:=hp
            refine AWp.start [0,1,2] [] [] [0,9,10,11,13,14,15] 0 ⟨[(0,q0 v1),(9,q1 v13.1),(10,q1 v13.2.1),(11,q1 v13.2.2.1),(13,tI (w64 (v18 + (v21.1.length:Int)))),(14,tI v16),(15,tI (w64 (v19 + (1:Int))))],[]⟩ rfl ?_ z0 trivial ?_
            ·kernel_rfl
            refine AOps.nil ?_
            cases h
            exact Or.inl ⟨_,rfl,rfl,rfl⟩
        ·replace h:=of_false h hb
         refine AWp.keepTo [0,9,10,11,13,14] 0 ⟨[(0,q0 v1),(9,q1 v13.1),(10,q1 v13.2.1),(11,q1 v13.2.2.1),(13,tI v18),(14,tI v16)],[]⟩ ?_ z0 ?_
         ·kernel_rfl
         refine AWp.exit ?_
         cases h
         exact Or.inr ⟨_,rfl,by simp,rfl,rfl⟩
       ·intro e σ hp
        rcases y with v26 | v20
        ·obtain ⟨rfl,rfl⟩:=hp
         cases h
         exact Or.inr ⟨_,rfl,by simp,rfl,rfl⟩
        ·obtain ⟨rfl,rfl⟩:=hp
         refine AWp.seq ?_
         obtain ⟨hg,h⟩:=of_guard h
         refine AWp.start [0,1,2,3,4,5,6,7] [8,9,10,11,12,13] [(0:Int) ≤ v16,v16 < (v13.2.2.1.length:Int)] [0,9,10,11,13,14,132,133,134,135,139] 0 ⟨[(0,q0 v1),(9,q1 v13.1),(10,q1 v13.2.1),(11,q1 v13.2.2.1),(13,tI v20),(14,tI v16),(132,q0 v1),(133,q1 v13.1),(134,q1 v13.2.1),(135,tI v16),(139,tI (gD v13.2.2.1 v16))],[]⟩ rfl ?_ z0 ⟨hg.1,hg.2⟩ ?_
         ·kernel_rfl
         obtain ⟨v27,hv27,h⟩:=of_bind h
         refine AOps.cons (AOne.callP (F:=(FF 175 0)) _ rfl rfl rfl _ rfl rfl _ _ rfl Tryz.call7 [q0 v1,q1 v13.1,q1 v13.2.1,tI v16,tI (gD v13.2.2.1 v16)] rfl rfl (f7_ok v1 v13.1 v13.2.1 v16 (gD v13.2.2.1 v16) hv27) rfl) ?_
         refine AOps.go [9,10,11,12,13] [] [] [0,9,10,11,13,14,21,22] 0 ⟨[(0,q0 v1),(9,q1 v13.1),(10,q1 v13.2.1),(11,q1 v13.2.2.1),(13,tI v20),(14,tI v16),(21,q5 v27.1),(22,tI v27.2)],[]⟩ ?_ z0 trivial ?_
         ·kernel_rfl
         refine AOps.nil ?_
         refine AWp.seq ?_
         refine AWp.start [0,1,2] [3,4,5,6] [] [0,9,10,11,13,14,21,145] 0 ⟨[(0,q0 v1),(9,q1 v13.1),(10,q1 v13.2.1),(11,q1 v13.2.2.1),(13,tI v20),(14,tI v16),(21,q5 v27.1),(145,tB (v27.2 != (0:Int)))],[]⟩ rfl ?_ z0 trivial ?_
         ·kernel_rfl
         obtain ⟨v28,hc3,h⟩:=of_bind h
         refine AOps.cut [3,4,5,6] [] (fun σ=>σ = ⟨[(0,q0 v1),(9,q1 v13.1),(10,q1 v13.2.1),(11,q1 v13.2.2.1),(13,tI v20),(14,tI v16),(149,tB v28)],[]⟩) ?_ fun σ' hJ=>?_
         ·refine AOps.split (fun b=>⟨[(0,q0 v1),(9,q1 v13.1),(10,q1 v13.2.1),(11,q1 v13.2.2.1),(13,tI v20),(14,tI v16),(21,q5 v27.1),(145,tB b)],[]⟩) _ (fun hb=>?_) fun hb=>?_
          ·replace hc3:=of_true hc3 hb
           refine AOps.go [3,4,5,6] [] [] [0,9,10,11,13,14,149] 0 ⟨[(0,q0 v1),(9,q1 v13.1),(10,q1 v13.2.1),(11,q1 v13.2.2.1),(13,tI v20),(14,tI v16),(149,tB true)],[]⟩ ?_ z0 trivial ?_
           ·kernel_rfl
           cases hc3
           exact AOps.nil rfl
          ·replace hc3:=of_false hc3 hb
           refine AOps.go [3,4,5,6] [] [] [0,9,10,11,13,14,149] 0 ⟨[(0,q0 v1),(9,q1 v13.1),(10,q1 v13.2.1),(11,q1 v13.2.2.1),(13,tI v20),(14,tI v16),(149,tB (decide ((v27.1.length:Int) > (0:Int))))],[]⟩ ?_ z0 trivial ?_
           ·kernel_rfl
           cases hc3
           exact AOps.nil rfl
         subst hJ
         refine AOps.nil ?_
         refine AWp.cond rfl (fun hb=>?_) fun hb=>?_
         ·replace h:=of_true h hb
          refine AWp.keepTo [] 0 ⟨[],[]⟩ ?_ z0 ?_
          ·kernel_rfl
          refine AWp.seq ?_
          refine AWp.start [0] [] [] [6] 0 ⟨[(6,tB false)],[]⟩ rfl ?_ z0 trivial ?_
          ·kernel_rfl
          refine AOps.nil ?_
          refine AWp.ret ?_
          cases h
          exact Or.inr ⟨_,rfl,by simp,rfl,rfl⟩
         ·replace h:=of_false h hb
          refine AWp.keepTo [0,9,10,11,13,14] 0 ⟨[(0,q0 v1),(9,q1 v13.1),(10,q1 v13.2.1),(11,q1 v13.2.2.1),(13,tI v20),(14,tI v16)],[]⟩ ?_ z0 ?_
          ·kernel_rfl
          refine AWp.skip ?_
          refine AWp.start [0,1,2] [] [] [0,9,10,11,13,14] 0 ⟨[(0,q0 v1),(9,q1 v13.1),(10,q1 v13.2.1),(11,q1 v13.2.2.1),(13,tI v20),(14,tI (w64 (v16 + (1:Int))))],[]⟩ rfl ?_ z0 trivial ?_
          ·kernel_rfl
          refine AOps.nil ?_
          cases h
          exact Or.inl ⟨_,rfl,rfl,rfl⟩
      ·replace h:=of_false h hb
       refine AWp.keepTo [0,13] 0 ⟨[(0,q0 v1),(13,tI v15)],[]⟩ ?_ z0 ?_
       ·kernel_rfl
       refine AWp.exit ?_
       cases h
       exact Or.inr ⟨_,rfl,by simp,rfl,rfl⟩
     ·intro e σ hp
      rcases y with v29 | v17
      ·obtain ⟨rfl,rfl⟩:=hp
       cases h
       exact ⟨.inr rfl,rfl⟩
      ·obtain ⟨rfl,rfl⟩:=hp
       refine AWp.seq ?_
       refine AWp.start [0] [] [] [0,13,23] 0 ⟨[(0,q0 v1),(13,tI v17),(23,tI (0:Int))],[]⟩ rfl ?_ z0 trivial ?_
       ·kernel_rfl
       refine AOps.nil ?_
       refine AWp.seq ?_
       refine AWp.seq ?_
       refine AWp.start [0] [] [] [0,13,23,24] 0 ⟨[(0,q0 v1),(13,tI v17),(23,tI (0:Int)),(24,tI (0:Int))],[]⟩ rfl ?_ z0 trivial ?_
       ·kernel_rfl
       refine AOps.nil ?_
       refine AWp.block ?_
       obtain ⟨y,hy,h⟩:=of_bind h
       refine AWp.mono (AWp.loop (S:=Int × Int) (Y:=Out Bool Int) (fun s=>⟨[(0,q0 v1),(13,tI v17),(23,tI s.1),(24,tI s.2)],[]⟩) (fun s=>f3_b5 v1 s.1 s.2) (fun y e σ=>match y with | .ret r=>e = .ret ∧ σ = ⟨[(6,tB r)],[]⟩ | .go v=>e = .exit 8 ∧ σ = ⟨[(13,tI v17),(23,tI v)],[]⟩) ?_ hy) ?_
       ·rintro ⟨v30,v31⟩ o h
        refine AWp.seq ?_
        refine AWp.seq ?_
        refine AWp.start [0,1,2,3] [] [] [0,13,23,24,153] 0 ⟨[(0,q0 v1),(13,tI v17),(23,tI v30),(24,tI v31),(153,tB (decide (v31 < (v1.length:Int))))],[]⟩ rfl ?_ z0 trivial ?_
        ·kernel_rfl
        refine AOps.nil ?_
        refine AWp.cond rfl (fun hb=>?_) fun hb=>?_
        ·replace h:=of_true h hb
         refine AWp.keepTo [0,13,23,24] 0 ⟨[(0,q0 v1),(13,tI v17),(23,tI v30),(24,tI v31)],[]⟩ ?_ z0 ?_
         ·kernel_rfl
         refine AWp.skip ?_
         refine AWp.seq ?_
         refine AWp.block ?_
         refine AWp.draw FFm _ (n:=14) rfl (ls:=#[n1,n1,n1,n1,n1,n1,n1,n1,n1,n1,n1,n1,n1,n1]) rfl ?_ (fun _ h=>h)
         obtain ⟨hg,h⟩:=of_guard h
         refine AAny.go (by kernel_rfl) [0,1,2,3,4,5,6,7,8,9,10,11,12,13] (fuel':=0) rfl [(0:Int) ≤ v31,v31 < (v1.length:Int),(0:Int) ≤ v31,v31 < (v1.length:Int)] #[y1,y1,y1,y1,y1,y1,y1,y1,y1,y1,y1,y1,y1,y1] [0,13,23,24] 0 ⟨[(0,q0 v1),(13,tI v17),(23,tI (w64 (v30 + (w64 (((gD v1 v31).f1) * ((gD v1 v31).f2)))))),(24,tI v31)],[]⟩ ?_ z0 ⟨hg.1,hg.2.1,hg.2.2.1,hg.2.2.2⟩ ?_
         ·kernel_rfl
         refine AAny.keepTo [0,13,23,24] 0 ⟨[(0,q0 v1),(13,tI v17),(23,tI (w64 (v30 + (w64 (((gD v1 v31).f1) * ((gD v1 v31).f2)))))),(24,tI v31)],[]⟩ _ ?_ rfl z0 (AAny.done (by kernel_rfl) ?_)
         ·kernel_rfl
         refine AWp.start [0,1,2] [] [] [0,13,23,24] 0 ⟨[(0,q0 v1),(13,tI v17),(23,tI (w64 (v30 + (w64 (((gD v1 v31).f1) * ((gD v1 v31).f2)))))),(24,tI (w64 (v31 + (1:Int))))],[]⟩ rfl ?_ z0 trivial ?_
         ·kernel_rfl
         refine AOps.nil ?_
         cases h
         exact Or.inl ⟨_,rfl,rfl,rfl⟩
        ·replace h:=of_false h hb
         refine AWp.keepTo [13,23] 0 ⟨[(13,tI v17),(23,tI v30)],[]⟩ ?_ z0 ?_
         ·kernel_rfl
         refine AWp.exit ?_
         cases h
         exact Or.inr ⟨_,rfl,by simp,rfl,rfl⟩
       ·intro e σ hp
        rcases y with v33 | v32
        ·obtain ⟨rfl,rfl⟩:=hp
         cases h
         exact ⟨.inr rfl,rfl⟩
        ·obtain ⟨rfl,rfl⟩:=hp
         refine AWp.seq ?_
         refine AWp.start [0,1,2,3] [4,5,6] [] [172] 0 ⟨[(172,tB (v17 == v32))],[]⟩ rfl ?_ z0 trivial ?_
         ·kernel_rfl
         obtain ⟨v34,hc4,h⟩:=of_bind h
         refine AOps.cut [4,5] [6] (fun σ=>σ = ⟨[(174,tB v34)],[]⟩) ?_ fun σ' hJ=>?_
         ·refine AOps.split (fun b=>⟨[(172,tB b)],[]⟩) _ (fun hb=>?_) fun hb=>?_
          ·replace hc4:=of_true hc4 hb
           obtain ⟨v35,hv35,hc4⟩:=of_bind hc4
           refine AOps.cons (AOne.callP (F:=(FF 175 0)) _ rfl rfl rfl _ rfl rfl _ _ rfl Tryz.call5 [] rfl rfl (f5_ok  hv35) rfl) ?_
           refine AOps.go [5] [] [] [174] 0 ⟨[(174,tB v35)],[]⟩ ?_ z0 trivial ?_
           ·kernel_rfl
           cases hc4
           exact AOps.nil rfl
          ·replace hc4:=of_false hc4 hb
           refine AOps.go [4,5] [] [] [174] 0 ⟨[(174,tB false)],[]⟩ ?_ z0 trivial ?_
           ·kernel_rfl
           cases hc4
           exact AOps.nil rfl
         subst hJ
         refine AOps.go [6] [] [] [6] 0 ⟨[(6,tB v34)],[]⟩ ?_ z0 trivial ?_
         ·kernel_rfl
         refine AOps.nil ?_
         refine AWp.ret ?_
         cases h
         exact ⟨.inr rfl,rfl⟩

end Go.Sx.top
