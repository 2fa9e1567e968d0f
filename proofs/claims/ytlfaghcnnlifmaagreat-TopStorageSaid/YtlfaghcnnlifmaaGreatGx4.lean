/- Printed by program (wip/gen): plain functions and their walks; no condition. -/
import Derived.Test.YtlfaghcnnlifmaaGreatGx3
namespace Go.Sx.top
open Go Go.Sx Go.Proofs

noncomputable def f46o_j1 (v5:Int) (v8:List (Int × Int)) (v9:List (Int × Int)):Option (((List (Int × Int)) × (List (Int × Int)) × Int) ⊕ Out (Bool × (List UInt8) × Int × T68) ((List (Int × Int)) × (List (Int × Int)))) :=
 some (.inl (v8,v9,w64 (v5 + (1:Int))))

noncomputable def f46o_b2 (v1:List (List (List UInt8))) (v2:T68) (v3:List (Int × Int)) (v4:List (Int × Int)) (v5:Int):Option (((List (Int × Int)) × (List (Int × Int)) × Int) ⊕ Out (Bool × (List UInt8) × Int × T68) ((List (Int × Int)) × (List (Int × Int)))) :=
 cond (decide (v5 < (v1.length:Int))) (if (0:Int) ≤ v5 ∧ v5 < (v1.length:Int) then cond (((v1.getD v5.toNat default).length:Int) == (0:Int)) (f46o_j1 v5 v3 v4) (if (0:Int) < ((v1.getD v5.toNat default).length:Int) then (f44 v2.f0 ((v1.getD v5.toNat default).getD 0 default)).bind fun v10=>if (0:Int) ≤ v10 ∧ v10 < (v2.f1.length:Int) then cond (mget v4 (v2.f1.getD v10.toNat default) != 0) (if (0:Int) < ((v1.getD v5.toNat default).length:Int) then some (.inr (.ret (false,(v1.getD v5.toNat default).getD 0 default,(110:Int),T68.mk v2.f0 v2.f1 v2.f2))) else none) (if (0:Int) ≤ v10 ∧ v10 < (v2.f1.length:Int) then if (0:Int) ≤ v10 ∧ v10 < (v2.f1.length:Int) then if (0:Int) ≤ v10 ∧ v10 < (v2.f2.length:Int) then f46o_j1 v5 (mset v3 (v2.f1.getD v10.toNat default) (v2.f2.getD v10.toNat default)) (mset v4 (v2.f1.getD v10.toNat default) 1) else none else none else none) else none else none) else none) (some (.inr (.go (v3,v4))))

noncomputable def f46o_j3 (v13:Int) (v15:List (Int × Int)):Option (((List (Int × Int)) × Int) ⊕ Out (Bool × (List UInt8) × Int × T68) (List (Int × Int))) :=
 some (.inl (v15,w64 (v13 + (1:Int))))

noncomputable def f46o_b4 (v2:T68) (v7:List (Int × Int)) (v12:List (Int × Int)) (v13:Int):Option (((List (Int × Int)) × Int) ⊕ Out (Bool × (List UInt8) × Int × T68) (List (Int × Int))) :=
 cond (decide (v13 < (v2.f1.length:Int))) (if (0:Int) ≤ v13 ∧ v13 < (v2.f1.length:Int) then cond (!(mget v7 (v2.f1.getD v13.toNat default) != 0)) ((cond (!(mhas v12 (v2.f1.getD v13.toNat default))) (some true) (if (0:Int) ≤ v13 ∧ v13 < (v2.f2.length:Int) then some (decide (v2.f2.getD v13.toNat default < mget v12 (v2.f1.getD v13.toNat default))) else none)).bind fun v16=>cond v16 (if (0:Int) ≤ v13 ∧ v13 < (v2.f2.length:Int) then f46o_j3 v13 (mset v12 (v2.f1.getD v13.toNat default) (v2.f2.getD v13.toNat default)) else none) (f46o_j3 v13 v12)) (f46o_j3 v13 v12) else none) (some (.inr (.go v12)))

noncomputable def f46o_b5 (v2:T68) (v14:List (Int × Int)) (v18:Int) (v19:List Int):Option ((Int × (List Int)) ⊕ Out (Bool × (List UInt8) × Int × T68) (List Int)) :=
 cond (decide (v18 < (v2.f1.length:Int))) (if (0:Int) ≤ v18 ∧ v18 < (v2.f1.length:Int) then if (0:Int) ≤ v18 ∧ v18 < (v19.length:Int) then if (0:Int) ≤ v18 ∧ v18 < ((v19.set v18.toNat (w64 ((v19.getD v18.toNat default) - (mget v14 (v2.f1.getD v18.toNat default))))).length:Int) then cond (decide ((v19.set v18.toNat (w64 ((v19.getD v18.toNat default) - (mget v14 (v2.f1.getD v18.toNat default))))).getD v18.toNat default < (0:Int))) (if (0:Int) ≤ v18 ∧ v18 < (v2.f0.length:Int) then some (.inr (.ret (false,(v2.f0.getD v18.toNat default).f0,(10:Int),T68.mk v2.f0 v2.f1 (v19.set v18.toNat (w64 ((v19.getD v18.toNat default) - (mget v14 (v2.f1.getD v18.toNat default)))))))) else none) (some (.inl (w64 (v18 + (1:Int)),v19.set v18.toNat (w64 ((v19.getD v18.toNat default) - (mget v14 (v2.f1.getD v18.toNat default))))))) else none else none else none) (some (.inr (.go v19)))

noncomputable def f46o (v1:List (List (List UInt8))) (v2:T68):Option (Bool × (List UInt8) × Int × T68) :=
 (iter (fun s=>f46o_b2 v1 v2 s.1 s.2.1 s.2.2) (([]:List (Int × Int)),([]:List (Int × Int)),(0:Int))).bind fun y=>match y with | .ret v11=>some v11 | .go (v6,v7)=>(iter (fun s=>f46o_b4 v2 v7 s.1 s.2) (v6,(0:Int))).bind fun y=>match y with | .ret v17=>some v17 | .go v14=>(iter (fun s=>f46o_b5 v2 v14 s.1 s.2) ((0:Int),v2.f2)).bind fun y=>match y with | .ret v21=>some v21 | .go v20=>some (true,([]:List UInt8),(0:Int),T68.mk v2.f0 v2.f1 v20)

theorem f46o_ok (v1:List (List (List UInt8))) (v2:T68) {r:Bool × (List UInt8) × Int × T68} (h:f46o v1 v2 = some r):ACall Tryz.prog 46 [.pc 0 0,.tv (fzL 1 (cSl 1 cStr) v1)] [.cells 69 [fzL 3 c25 v2.f0,ownL 1 3 (cInt .i64) v2.f1,ownL 1 3 (cInt .i64) v2.f2]] (.tup [(match r.1 with | false=>.tv (.sc (.pointer none)) | true=>.pc 0 0),.tv (.str r.2.1),.tv (.int .i64 r.2.2.1)]) [.cells 69 [fzL 3 c25 r.2.2.2.f0,ownL 1 3 (cInt .i64) r.2.2.2.f1,ownL 1 3 (cInt .i64) r.2.2.2.f2]]:=by
 refine ACall.ofN (FF 156 1) (rs:=[4,5,6]) (env:=[(4,(match r.1 with | false=>.tv (.sc (.pointer none)) | true=>.pc 0 0)),(5,tS r.2.1),(6,tI r.2.2.1)]) Tryz.func46 rfl Tryz.ntmps46 Tryz.results46 (by decide) (by decide) rfl (zz rfl) rfl (get_ofN _ _ _ rfl) (ok_ofN _ (by obtain ⟨r,r2⟩:=r; cases r <;> rfl)) ?_
 refine AWp.seq ?_
 refine AWp.start [0,1,2] [] [] [0,1] 1 ⟨[(0,.pc 0 0),(1,.tv (fzL 1 (cSl 1 cStr) v1))],[.cells 69 [k1 v2.f0,k2 v2.f1,k2 v2.f2]]⟩ rfl ?_ (zz rfl) trivial ?_
 ·kernel_rfl
 refine AOps.nil ?_
 refine AWp.seq ?_
 refine AWp.start [0,1] [] [] [0,1,7] 1 ⟨[(0,.pc 0 0),(1,.tv (fzL 1 (cSl 1 cStr) v1)),(7,.tv (.mp .i64 (some .i64) ([]:List (Int × Int))))],[.cells 69 [k1 v2.f0,k2 v2.f1,k2 v2.f2]]⟩ rfl ?_ (zz rfl) trivial ?_
 ·kernel_rfl
 refine AOps.nil ?_
 refine AWp.seq ?_
 refine AWp.start [0,1] [] [] [0,1,7,8] 1 ⟨[(0,.pc 0 0),(1,.tv (fzL 1 (cSl 1 cStr) v1)),(7,.tv (.mp .i64 (some .i64) ([]:List (Int × Int)))),(8,.tv (.mp .i64 none ([]:List (Int × Int))))],[.cells 69 [k1 v2.f0,k2 v2.f1,k2 v2.f2]]⟩ rfl ?_ (zz rfl) trivial ?_
 ·kernel_rfl
 refine AOps.nil ?_
 refine AWp.seq ?_
 refine AWp.seq ?_
 refine AWp.start [0,1,2] [] [] [0,7,8,20,21,22] 1 ⟨[(0,.pc 0 0),(7,.tv (.mp .i64 (some .i64) ([]:List (Int × Int)))),(8,.tv (.mp .i64 none ([]:List (Int × Int)))),(20,.tv (fzL 1 (cSl 1 cStr) v1)),(21,tI (v1.length:Int)),(22,tI (0:Int))],[.cells 69 [k1 v2.f0,k2 v2.f1,k2 v2.f2]]⟩ rfl ?_ (zz rfl) trivial ?_
 ·kernel_rfl
 refine AOps.nil ?_
 refine AWp.block ?_
 obtain ⟨y,hy,h⟩:=of_bind h
 refine AWp.mono (AWp.loop (S:=(List (Int × Int)) × (List (Int × Int)) × Int) (Y:=Out (Bool × (List UInt8) × Int × T68) ((List (Int × Int)) × (List (Int × Int)))) (fun s=>⟨[(0,.pc 0 0),(7,.tv (.mp .i64 (some .i64) s.1)),(8,.tv (.mp .i64 none s.2.1)),(20,.tv (fzL 1 (cSl 1 cStr) v1)),(21,tI (v1.length:Int)),(22,tI s.2.2)],[.cells 69 [k1 v2.f0,k2 v2.f1,k2 v2.f2]]⟩) (fun s=>f46o_b2 v1 v2 s.1 s.2.1 s.2.2) (fun y e σ=>match y with | .ret r=>e = .ret ∧ σ = ⟨[(4,(match r.1 with | false=>.tv (.sc (.pointer none)) | true=>.pc 0 0)),(5,tS r.2.1),(6,tI r.2.2.1)],[.cells 69 [k1 r.2.2.2.f0,k2 r.2.2.2.f1,k2 r.2.2.2.f2]]⟩ | .go v=>e = .exit 0 ∧ σ = ⟨[(0,.pc 0 0),(7,.tv (.mp .i64 (some .i64) v.1)),(8,.tv (.mp .i64 none v.2))],[.cells 69 [k1 v2.f0,k2 v2.f1,k2 v2.f2]]⟩) ?_ hy) ?_
 ·rintro ⟨v3,v4,v5⟩ o h
  refine AWp.seq ?_
  refine AWp.start [0] [] [] [0,7,8,20,21,22,23] 1 ⟨[(0,.pc 0 0),(7,.tv (.mp .i64 (some .i64) v3)),(8,.tv (.mp .i64 none v4)),(20,.tv (fzL 1 (cSl 1 cStr) v1)),(21,tI (v1.length:Int)),(22,tI v5),(23,tB (decide (v5 < (v1.length:Int))))],[.cells 69 [k1 v2.f0,k2 v2.f1,k2 v2.f2]]⟩ rfl ?_ (zz rfl) trivial ?_
  ·kernel_rfl
  refine AOps.nil ?_
  refine AWp.seq ?_
  refine AWp.cond rfl (fun hb=>?_) fun hb=>?_
  ·replace h:=of_true h hb
   refine AWp.keepTo [0,7,8,20,21,22] 1 ⟨[(0,.pc 0 0),(7,.tv (.mp .i64 (some .i64) v3)),(8,.tv (.mp .i64 none v4)),(20,.tv (fzL 1 (cSl 1 cStr) v1)),(21,tI (v1.length:Int)),(22,tI v5)],[.cells 69 [k1 v2.f0,k2 v2.f1,k2 v2.f2]]⟩ ?_ (zz rfl) ?_
   ·kernel_rfl
   refine AWp.skip ?_
   refine AWp.join (V:=(List (Int × Int)) × (List (Int × Int))) (fun w=>⟨[(0,.pc 0 0),(7,.tv (.mp .i64 (some .i64) w.1)),(8,.tv (.mp .i64 none w.2)),(20,.tv (fzL 1 (cSl 1 cStr) v1)),(21,tI (v1.length:Int)),(22,tI v5)],[.cells 69 [k1 v2.f0,k2 v2.f1,k2 v2.f2]]⟩) (fun w=>f46o_j1 v5 w.1 w.2 = some o) ?_ ?_
   ·refine AWp.block ?_
    refine AWp.seq ?_
    obtain ⟨hg,h⟩:=of_guard h
    refine AWp.start [0,1,2] [] [(0:Int) ≤ v5,v5 < (v1.length:Int)] [0,7,8,10,20,21,22] 1 ⟨[(0,.pc 0 0),(7,.tv (.mp .i64 (some .i64) v3)),(8,.tv (.mp .i64 none v4)),(10,q4 (gD v1 v5)),(20,.tv (fzL 1 (cSl 1 cStr) v1)),(21,tI (v1.length:Int)),(22,tI v5)],[.cells 69 [k1 v2.f0,k2 v2.f1,k2 v2.f2]]⟩ rfl ?_ (zz rfl) ⟨hg.1,hg.2⟩ ?_
    ·kernel_rfl
    refine AOps.nil ?_
    refine AWp.seq ?_
    refine AWp.seq ?_
    refine AWp.start [0,1,2] [] [] [0,7,8,10,20,21,22,28] 1 ⟨[(0,.pc 0 0),(7,.tv (.mp .i64 (some .i64) v3)),(8,.tv (.mp .i64 none v4)),(10,q4 (gD v1 v5)),(20,.tv (fzL 1 (cSl 1 cStr) v1)),(21,tI (v1.length:Int)),(22,tI v5),(28,tB (((gD v1 v5).length:Int) == (0:Int)))],[.cells 69 [k1 v2.f0,k2 v2.f1,k2 v2.f2]]⟩ rfl ?_ (zz rfl) trivial ?_
    ·kernel_rfl
    refine AOps.nil ?_
    refine AWp.cond rfl (fun hb=>?_) fun hb=>?_
    ·replace h:=of_true h hb
     refine AWp.keepTo [0,7,8,20,21,22] 1 ⟨[(0,.pc 0 0),(7,.tv (.mp .i64 (some .i64) v3)),(8,.tv (.mp .i64 none v4)),(20,.tv (fzL 1 (cSl 1 cStr) v1)),(21,tI (v1.length:Int)),(22,tI v5)],[.cells 69 [k1 v2.f0,k2 v2.f1,k2 v2.f2]]⟩ ?_ (zz rfl) ?_
     ·kernel_rfl
     refine AWp.exit ?_
     exact ⟨(v3,v4),h,rfl⟩
    ·replace h:=of_false h hb
     refine AWp.keepTo [0,7,8,10,20,21,22] 1 ⟨[(0,.pc 0 0),(7,.tv (.mp .i64 (some .i64) v3)),(8,.tv (.mp .i64 none v4)),(10,q4 (gD v1 v5)),(20,.tv (fzL 1 (cSl 1 cStr) v1)),(21,tI (v1.length:Int)),(22,tI v5)],[.cells 69 [k1 v2.f0,k2 v2.f1,k2 v2.f2]]⟩ ?_ (zz rfl) ?_
     ·kernel_rfl
     refine AWp.skip ?_
     refine AWp.seq ?_
     refine AWp.draw FFm _ (n:=9) rfl (ls:=#[n1,n1,n1,n1,n1,n1,n1,n1,n1]) rfl ?_ (fun _ h=>h)
     obtain ⟨hg,h⟩:=of_guard h
     refine AAny.go (by kernel_rfl) [0,1,2,4,5,6] (fuel':=3) rfl [(0:Int) ≤ (0:Int),(0:Int) < ((gD v1 v5).length:Int)] #[y1,y1,y1,n1,y1,y1,y1,n1,n1] [0,7,8,10,20,21,22,31,35] 1 ⟨[(0,.pc 0 0),(7,.tv (.mp .i64 (some .i64) v3)),(8,.tv (.mp .i64 none v4)),(10,q4 (gD v1 v5)),(20,.tv (fzL 1 (cSl 1 cStr) v1)),(21,tI (v1.length:Int)),(22,tI v5),(31,.pc 0 0),(35,tS ((gD v1 v5).getD 0 default))],[.cells 69 [k1 v2.f0,k2 v2.f1,k2 v2.f2]]⟩ ?_ (zz rfl) ⟨(by decide:(0:Int) ≤ (0:Int)),hg⟩ ?_
     ·kernel_rfl
     refine AAny.step (i:=3) (fuel':=2) rfl (by kernel_rfl) [] #[y1,y1,y1,y1,y1,y1,y1,n1,n1] rfl [0,7,8,10,20,21,22,32,35] 1 ⟨[(0,.pc 0 0),(7,.tv (.mp .i64 (some .i64) v3)),(8,.tv (.mp .i64 none v4)),(10,q4 (gD v1 v5)),(20,.tv (fzL 1 (cSl 1 cStr) v1)),(21,tI (v1.length:Int)),(22,tI v5),(32,q0 v2.f0),(35,tS ((gD v1 v5).getD 0 default))],[.cells 69 [k1 v2.f0,k2 v2.f1,k2 v2.f2]]⟩ ?_ (zz rfl) trivial ?_
     ·kernel_rfl
     obtain ⟨v10,hv10,h⟩:=of_bind h
     refine AAny.serial (i:=7) (fuel:=1) (by kernel_rfl) (AOne.callP (F:=(FF 156 1)) _ rfl rfl rfl _ rfl rfl _ _ rfl Tryz.call44 [q0 v2.f0,tS ((gD v1 v5).getD 0 default)] rfl rfl (f44_ok v2.f0 ((gD v1 v5).getD 0 default) hv10) rfl) ?_
     refine AAny.keepTo [0,7,8,10,20,21,22,36] 1 ⟨[(0,.pc 0 0),(7,.tv (.mp .i64 (some .i64) v3)),(8,.tv (.mp .i64 none v4)),(10,q4 (gD v1 v5)),(20,.tv (fzL 1 (cSl 1 cStr) v1)),(21,tI (v1.length:Int)),(22,tI v5),(36,tI v10)],[.cells 69 [k1 v2.f0,k2 v2.f1,k2 v2.f2]]⟩ #[y1,y1,y1,y1,y1,y1,y1,y1,n1] ?_ rfl (zz rfl) ?_
     ·kernel_rfl
     refine AAny.go (by kernel_rfl) [8] (fuel':=0) rfl [] #[y1,y1,y1,y1,y1,y1,y1,y1,y1] [0,7,8,10,11,20,21,22] 1 ⟨[(0,.pc 0 0),(7,.tv (.mp .i64 (some .i64) v3)),(8,.tv (.mp .i64 none v4)),(10,q4 (gD v1 v5)),(11,tI v10),(20,.tv (fzL 1 (cSl 1 cStr) v1)),(21,tI (v1.length:Int)),(22,tI v5)],[.cells 69 [k1 v2.f0,k2 v2.f1,k2 v2.f2]]⟩ ?_ (zz rfl) trivial ?_
     ·kernel_rfl
     refine AAny.keepTo [0,7,8,10,11,20,21,22] 1 ⟨[(0,.pc 0 0),(7,.tv (.mp .i64 (some .i64) v3)),(8,.tv (.mp .i64 none v4)),(10,q4 (gD v1 v5)),(11,tI v10),(20,.tv (fzL 1 (cSl 1 cStr) v1)),(21,tI (v1.length:Int)),(22,tI v5)],[.cells 69 [k1 v2.f0,k2 v2.f1,k2 v2.f2]]⟩ _ ?_ rfl (zz rfl) (AAny.done (by kernel_rfl) ?_)
     ·kernel_rfl
     refine AWp.seq ?_
     refine AWp.seq ?_
     obtain ⟨hg,h⟩:=of_guard h
     refine AWp.start [0,1,2,3,4,5,6,7,8] [] [(0:Int) ≤ v10,v10 < (v2.f1.length:Int)] [0,7,8,10,11,20,21,22,45] 1 ⟨[(0,.pc 0 0),(7,.tv (.mp .i64 (some .i64) v3)),(8,.tv (.mp .i64 none v4)),(10,q4 (gD v1 v5)),(11,tI v10),(20,.tv (fzL 1 (cSl 1 cStr) v1)),(21,tI (v1.length:Int)),(22,tI v5),(45,tB (mget v4 (gD v2.f1 v10) != 0))],[.cells 69 [k1 v2.f0,k2 v2.f1,k2 v2.f2]]⟩ rfl ?_ (zz rfl) ⟨hg.1,hg.2⟩ ?_
     ·kernel_rfl
     refine AOps.nil ?_
     refine AWp.cond rfl (fun hb=>?_) fun hb=>?_
     ·replace h:=of_true h hb
      refine AWp.keepTo [10] 1 ⟨[(10,q4 (gD v1 v5))],[.cells 69 [k1 v2.f0,k2 v2.f1,k2 v2.f2]]⟩ ?_ (zz rfl) ?_
      ·kernel_rfl
      refine AWp.seq ?_
      refine AWp.draw FFm _ (n:=6) rfl (ls:=#[n1,n1,n1,n1,n1,n1]) rfl ?_ (fun _ h=>h)
      obtain ⟨hg,h⟩:=of_guard h
      refine AAny.go (by kernel_rfl) [0,1,2,3,4,5] (fuel':=0) rfl [(0:Int) ≤ (0:Int),(0:Int) < ((gD v1 v5).length:Int)] #[y1,y1,y1,y1,y1,y1] [4,5,6] 1 ⟨[(4,.tv (.sc (.pointer none))),(5,tS ((gD v1 v5).getD 0 default)),(6,tI (110:Int))],[.cells 69 [k1 v2.f0,k2 v2.f1,k2 v2.f2]]⟩ ?_ (zz rfl) ⟨(by decide:(0:Int) ≤ (0:Int)),hg⟩ ?_
      ·kernel_rfl
      refine AAny.keepTo [4,5,6] 1 ⟨[(4,.tv (.sc (.pointer none))),(5,tS ((gD v1 v5).getD 0 default)),(6,tI (110:Int))],[.cells 69 [k1 v2.f0,k2 v2.f1,k2 v2.f2]]⟩ _ ?_ rfl (zz rfl) (AAny.done (by kernel_rfl) ?_)
      ·kernel_rfl
      refine AWp.ret ?_
      cases h
      exact Or.inr ⟨_,rfl,by simp,rfl,rfl⟩
     ·replace h:=of_false h hb
      refine AWp.keepTo [0,7,8,11,20,21,22] 1 ⟨[(0,.pc 0 0),(7,.tv (.mp .i64 (some .i64) v3)),(8,.tv (.mp .i64 none v4)),(11,tI v10),(20,.tv (fzL 1 (cSl 1 cStr) v1)),(21,tI (v1.length:Int)),(22,tI v5)],[.cells 69 [k1 v2.f0,k2 v2.f1,k2 v2.f2]]⟩ ?_ (zz rfl) ?_
      ·kernel_rfl
      refine AWp.skip ?_
      refine AWp.seq ?_
      obtain ⟨hg,h⟩:=of_guard h
      refine AWp.start [0,1,2,3,4,5,6,7,8] [] [(0:Int) ≤ v10,v10 < (v2.f1.length:Int)] [0,7,8,11,20,21,22] 1 ⟨[(0,.pc 0 0),(7,.tv (.mp .i64 (some .i64) v3)),(8,.tv (.mp .i64 none (mset v4 (gD v2.f1 v10) 1))),(11,tI v10),(20,.tv (fzL 1 (cSl 1 cStr) v1)),(21,tI (v1.length:Int)),(22,tI v5)],[.cells 69 [k1 v2.f0,k2 v2.f1,k2 v2.f2]]⟩ rfl ?_ (zz rfl) ⟨hg.1,hg.2⟩ ?_
      ·kernel_rfl
      refine AOps.nil ?_
      refine AWp.draw FFm _ (n:=16) rfl (ls:=#[n1,n1,n1,n1,n1,n1,n1,n1,n1,n1,n1,n1,n1,n1,n1,n1]) rfl ?_ (fun _ h=>h)
      refine AAny.go (by kernel_rfl) [0,1,2,3,5,8,9,10,12] (fuel':=7) rfl [] #[y1,y1,y1,y1,n1,y1,n1,n1,y1,y1,y1,n1,y1,n1,n1,n1] [0,7,8,20,21,22,57,60,62,67,69] 1 ⟨[(0,.pc 0 0),(7,.tv (.mp .i64 (some .i64) v3)),(8,.tv (.mp .i64 none (mset v4 (gD v2.f1 v10) 1))),(20,.tv (fzL 1 (cSl 1 cStr) v1)),(21,tI (v1.length:Int)),(22,tI v5),(57,.ml (.slot 7 0,[])),(60,.pc 0 1),(62,tI v10),(67,.pc 0 2),(69,tI v10)],[.cells 69 [k1 v2.f0,k2 v2.f1,k2 v2.f2]]⟩ ?_ (zz rfl) trivial ?_
      ·kernel_rfl
      refine AAny.goR (by kernel_rfl) (i:=4) (fuel':=6) [6,7,15] rfl (by kernel_rfl) (by kernel_rfl) [] #[y1,y1,y1,y1,y1,y1,n1,n1,y1,y1,y1,n1,y1,n1,n1,n1] rfl [0,7,8,20,21,22,57,61,62,67,69] 1 ⟨[(0,.pc 0 0),(7,.tv (.mp .i64 (some .i64) v3)),(8,.tv (.mp .i64 none (mset v4 (gD v2.f1 v10) 1))),(20,.tv (fzL 1 (cSl 1 cStr) v1)),(21,tI (v1.length:Int)),(22,tI v5),(57,.ml (.slot 7 0,[])),(61,.al (.cell 0 1,[])),(62,tI v10),(67,.pc 0 2),(69,tI v10)],[.cells 69 [k1 v2.f0,k2 v2.f1,k2 v2.f2]]⟩ ?_ (zz rfl) trivial ?_
      ·kernel_rfl
      obtain ⟨hg,h⟩:=of_guard h
      refine AAny.go (by kernel_rfl) [6] (fuel':=5) rfl [(0:Int) ≤ v10,v10 < (v2.f1.length:Int)] #[y1,y1,y1,y1,y1,y1,y1,n1,y1,y1,y1,n1,y1,n1,n1,n1] [0,7,8,20,21,22,57,63,67,69] 1 ⟨[(0,.pc 0 0),(7,.tv (.mp .i64 (some .i64) v3)),(8,.tv (.mp .i64 none (mset v4 (gD v2.f1 v10) 1))),(20,.tv (fzL 1 (cSl 1 cStr) v1)),(21,tI (v1.length:Int)),(22,tI v5),(57,.ml (.slot 7 0,[])),(63,.pe (.cell 0 1,[]) v10.toNat 0 1),(67,.pc 0 2),(69,tI v10)],[.cells 69 [k1 v2.f0,k2 v2.f1,k2 v2.f2]]⟩ ?_ (zz rfl) ⟨hg.1,hg.2⟩ ?_
      ·kernel_rfl
      refine AAny.goR (by kernel_rfl) (i:=7) (fuel':=4) [15] rfl (by kernel_rfl) (by kernel_rfl) [] #[y1,y1,y1,y1,y1,y1,y1,y1,y1,y1,y1,n1,y1,n1,n1,n1] rfl [0,7,8,20,21,22,57,64,67,69] 1 ⟨[(0,.pc 0 0),(7,.tv (.mp .i64 (some .i64) v3)),(8,.tv (.mp .i64 none (mset v4 (gD v2.f1 v10) 1))),(20,.tv (fzL 1 (cSl 1 cStr) v1)),(21,tI (v1.length:Int)),(22,tI v5),(57,.ml (.slot 7 0,[])),(64,tI (gD v2.f1 v10)),(67,.pc 0 2),(69,tI v10)],[.cells 69 [k1 v2.f0,k2 v2.f1,k2 v2.f2]]⟩ ?_ (zz rfl) trivial ?_
      ·kernel_rfl
      refine AAny.step (i:=11) (fuel':=3) rfl (by kernel_rfl) [] #[y1,y1,y1,y1,y1,y1,y1,y1,y1,y1,y1,y1,y1,n1,n1,n1] rfl [0,7,8,20,21,22,57,64,68,69] 1 ⟨[(0,.pc 0 0),(7,.tv (.mp .i64 (some .i64) v3)),(8,.tv (.mp .i64 none (mset v4 (gD v2.f1 v10) 1))),(20,.tv (fzL 1 (cSl 1 cStr) v1)),(21,tI (v1.length:Int)),(22,tI v5),(57,.ml (.slot 7 0,[])),(64,tI (gD v2.f1 v10)),(68,.al (.cell 0 2,[])),(69,tI v10)],[.cells 69 [k1 v2.f0,k2 v2.f1,k2 v2.f2]]⟩ ?_ (zz rfl) trivial ?_
      ·kernel_rfl
      obtain ⟨hg,h⟩:=of_guard h
      refine AAny.go (by kernel_rfl) [13] (fuel':=2) rfl [(0:Int) ≤ v10,v10 < (v2.f2.length:Int)] #[y1,y1,y1,y1,y1,y1,y1,y1,y1,y1,y1,y1,y1,y1,n1,n1] [0,7,8,20,21,22,57,64,70] 1 ⟨[(0,.pc 0 0),(7,.tv (.mp .i64 (some .i64) v3)),(8,.tv (.mp .i64 none (mset v4 (gD v2.f1 v10) 1))),(20,.tv (fzL 1 (cSl 1 cStr) v1)),(21,tI (v1.length:Int)),(22,tI v5),(57,.ml (.slot 7 0,[])),(64,tI (gD v2.f1 v10)),(70,.pe (.cell 0 2,[]) v10.toNat 0 1)],[.cells 69 [k1 v2.f0,k2 v2.f1,k2 v2.f2]]⟩ ?_ (zz rfl) ⟨hg.1,hg.2⟩ ?_
      ·kernel_rfl
      refine AAny.step (i:=14) (fuel':=1) rfl (by kernel_rfl) [] #[y1,y1,y1,y1,y1,y1,y1,y1,y1,y1,y1,y1,y1,y1,y1,n1] rfl [0,7,8,20,21,22,57,64,71] 1 ⟨[(0,.pc 0 0),(7,.tv (.mp .i64 (some .i64) v3)),(8,.tv (.mp .i64 none (mset v4 (gD v2.f1 v10) 1))),(20,.tv (fzL 1 (cSl 1 cStr) v1)),(21,tI (v1.length:Int)),(22,tI v5),(57,.ml (.slot 7 0,[])),(64,tI (gD v2.f1 v10)),(71,tI (gD v2.f2 v10))],[.cells 69 [k1 v2.f0,k2 v2.f1,k2 v2.f2]]⟩ ?_ (zz rfl) trivial ?_
      ·kernel_rfl
      refine AAny.step (i:=15) (fuel':=0) rfl (by kernel_rfl) [] #[y1,y1,y1,y1,y1,y1,y1,y1,y1,y1,y1,y1,y1,y1,y1,y1] rfl [0,7,8,20,21,22] 1 ⟨[(0,.pc 0 0),(7,.tv (.mp .i64 (some .i64) (mset v3 (gD v2.f1 v10) (gD v2.f2 v10)))),(8,.tv (.mp .i64 none (mset v4 (gD v2.f1 v10) 1))),(20,.tv (fzL 1 (cSl 1 cStr) v1)),(21,tI (v1.length:Int)),(22,tI v5)],[.cells 69 [k1 v2.f0,k2 v2.f1,k2 v2.f2]]⟩ ?_ (zz rfl) trivial ?_
      ·kernel_rfl
      refine AAny.keepTo [0,7,8,20,21,22] 1 ⟨[(0,.pc 0 0),(7,.tv (.mp .i64 (some .i64) (mset v3 (gD v2.f1 v10) (gD v2.f2 v10)))),(8,.tv (.mp .i64 none (mset v4 (gD v2.f1 v10) 1))),(20,.tv (fzL 1 (cSl 1 cStr) v1)),(21,tI (v1.length:Int)),(22,tI v5)],[.cells 69 [k1 v2.f0,k2 v2.f1,k2 v2.f2]]⟩ _ ?_ rfl (zz rfl) (AAny.done (by kernel_rfl) ?_)
      ·kernel_rfl
      exact ⟨(mset v3 (gD v2.f1 v10) (gD v2.f2 v10),mset v4 (gD v2.f1 v10) 1),h,rfl⟩
   ·rintro ⟨v8,v9⟩ h
    refine AWp.start [0,1] [] [] [0,7,8,20,21,22] 1 ⟨[(0,.pc 0 0),(7,.tv (.mp .i64 (some .i64) v8)),(8,.tv (.mp .i64 none v9)),(20,.tv (fzL 1 (cSl 1 cStr) v1)),(21,tI (v1.length:Int)),(22,tI (w64 (v5 + (1:Int))))],[.cells 69 [k1 v2.f0,k2 v2.f1,k2 v2.f2]]⟩ rfl ?_ (zz rfl) trivial ?_
    ·kernel_rfl
    refine AOps.nil ?_
    cases h
    exact Or.inl ⟨_,rfl,rfl,rfl⟩
  ·replace h:=of_false h hb
   refine AWp.keepTo [0,7,8] 1 ⟨[(0,.pc 0 0),(7,.tv (.mp .i64 (some .i64) v3)),(8,.tv (.mp .i64 none v4))],[.cells 69 [k1 v2.f0,k2 v2.f1,k2 v2.f2]]⟩ ?_ (zz rfl) ?_
   ·kernel_rfl
   refine AWp.exit ?_
   cases h
   exact Or.inr ⟨_,rfl,by simp,rfl,rfl⟩
 ·intro e σ hp
  rcases y with v11 | ⟨v6,v7⟩
  ·obtain ⟨rfl,rfl⟩:=hp
   cases h
   exact ⟨.inr rfl,rfl⟩
  ·obtain ⟨rfl,rfl⟩:=hp
   refine AWp.seq ?_
   refine AWp.seq ?_
   refine AWp.start [0,1,2,3,4,5] [] [] [0,7,8,76,77,78] 1 ⟨[(0,.pc 0 0),(7,.tv (.mp .i64 (some .i64) v6)),(8,.tv (.mp .i64 none v7)),(76,.al (.cell 0 1,[])),(77,tI (v2.f1.length:Int)),(78,tI (0:Int))],[.cells 69 [k1 v2.f0,k2 v2.f1,k2 v2.f2]]⟩ rfl ?_ (zz rfl) trivial ?_
   ·kernel_rfl
   refine AOps.nil ?_
   refine AWp.block ?_
   obtain ⟨y,hy,h⟩:=of_bind h
   refine AWp.mono (AWp.loop (S:=(List (Int × Int)) × Int) (Y:=Out (Bool × (List UInt8) × Int × T68) (List (Int × Int))) (fun s=>⟨[(0,.pc 0 0),(7,.tv (.mp .i64 (some .i64) s.1)),(8,.tv (.mp .i64 none v7)),(76,.al (.cell 0 1,[])),(77,tI (v2.f1.length:Int)),(78,tI s.2)],[.cells 69 [k1 v2.f0,k2 v2.f1,k2 v2.f2]]⟩) (fun s=>f46o_b4 v2 v7 s.1 s.2) (fun y e σ=>match y with | .ret r=>e = .ret ∧ σ = ⟨[(4,(match r.1 with | false=>.tv (.sc (.pointer none)) | true=>.pc 0 0)),(5,tS r.2.1),(6,tI r.2.2.1)],[.cells 69 [k1 r.2.2.2.f0,k2 r.2.2.2.f1,k2 r.2.2.2.f2]]⟩ | .go v=>e = .exit 2 ∧ σ = ⟨[(0,.pc 0 0),(7,.tv (.mp .i64 (some .i64) v))],[.cells 69 [k1 v2.f0,k2 v2.f1,k2 v2.f2]]⟩) ?_ hy) ?_
   ·rintro ⟨v12,v13⟩ o h
    refine AWp.seq ?_
    refine AWp.start [0] [] [] [0,7,8,76,77,78,79] 1 ⟨[(0,.pc 0 0),(7,.tv (.mp .i64 (some .i64) v12)),(8,.tv (.mp .i64 none v7)),(76,.al (.cell 0 1,[])),(77,tI (v2.f1.length:Int)),(78,tI v13),(79,tB (decide (v13 < (v2.f1.length:Int))))],[.cells 69 [k1 v2.f0,k2 v2.f1,k2 v2.f2]]⟩ rfl ?_ (zz rfl) trivial ?_
    ·kernel_rfl
    refine AOps.nil ?_
    refine AWp.seq ?_
    refine AWp.cond rfl (fun hb=>?_) fun hb=>?_
    ·replace h:=of_true h hb
     refine AWp.keepTo [0,7,8,76,77,78] 1 ⟨[(0,.pc 0 0),(7,.tv (.mp .i64 (some .i64) v12)),(8,.tv (.mp .i64 none v7)),(76,.al (.cell 0 1,[])),(77,tI (v2.f1.length:Int)),(78,tI v13)],[.cells 69 [k1 v2.f0,k2 v2.f1,k2 v2.f2]]⟩ ?_ (zz rfl) ?_
     ·kernel_rfl
     refine AWp.skip ?_
     refine AWp.join (V:=(List (Int × Int))) (fun w=>⟨[(0,.pc 0 0),(7,.tv (.mp .i64 (some .i64) w)),(8,.tv (.mp .i64 none v7)),(76,.al (.cell 0 1,[])),(77,tI (v2.f1.length:Int)),(78,tI v13)],[.cells 69 [k1 v2.f0,k2 v2.f1,k2 v2.f2]]⟩) (fun w=>f46o_j3 v13 w = some o) ?_ ?_
     ·refine AWp.block ?_
      refine AWp.seq ?_
      obtain ⟨hg,h⟩:=of_guard h
      refine AWp.start [0,1,2,3,4] [] [(0:Int) ≤ v13,v13 < (v2.f1.length:Int)] [0,7,8,12,13,76,77,78] 1 ⟨[(0,.pc 0 0),(7,.tv (.mp .i64 (some .i64) v12)),(8,.tv (.mp .i64 none v7)),(12,tI v13),(13,tI (gD v2.f1 v13)),(76,.al (.cell 0 1,[])),(77,tI (v2.f1.length:Int)),(78,tI v13)],[.cells 69 [k1 v2.f0,k2 v2.f1,k2 v2.f2]]⟩ rfl ?_ (zz rfl) ⟨hg.1,hg.2⟩ ?_
      ·kernel_rfl
      refine AOps.nil ?_
      refine AWp.seq ?_
      refine AWp.start [0,1,2,3] [] [] [0,7,8,12,13,76,77,78,86] 1 ⟨[(0,.pc 0 0),(7,.tv (.mp .i64 (some .i64) v12)),(8,.tv (.mp .i64 none v7)),(12,tI v13),(13,tI (gD v2.f1 v13)),(76,.al (.cell 0 1,[])),(77,tI (v2.f1.length:Int)),(78,tI v13),(86,tB (!(mget v7 (gD v2.f1 v13) != 0)))],[.cells 69 [k1 v2.f0,k2 v2.f1,k2 v2.f2]]⟩ rfl ?_ (zz rfl) trivial ?_
      ·kernel_rfl
      refine AOps.nil ?_
      refine AWp.cond rfl (fun hb=>?_) fun hb=>?_
      ·replace h:=of_true h hb
       refine AWp.keepTo [0,7,8,12,13,76,77,78] 1 ⟨[(0,.pc 0 0),(7,.tv (.mp .i64 (some .i64) v12)),(8,.tv (.mp .i64 none v7)),(12,tI v13),(13,tI (gD v2.f1 v13)),(76,.al (.cell 0 1,[])),(77,tI (v2.f1.length:Int)),(78,tI v13)],[.cells 69 [k1 v2.f0,k2 v2.f1,k2 v2.f2]]⟩ ?_ (zz rfl) ?_
       ·kernel_rfl
       refine AWp.seq ?_
       refine AWp.start [0,1,2,3,4,5,6,7] [] [] [0,7,8,12,13,14,15,76,77,78] 1 ⟨[(0,.pc 0 0),(7,.tv (.mp .i64 (some .i64) v12)),(8,.tv (.mp .i64 none v7)),(12,tI v13),(13,tI (gD v2.f1 v13)),(14,tI (mget v12 (gD v2.f1 v13))),(15,tB (mhas v12 (gD v2.f1 v13))),(76,.al (.cell 0 1,[])),(77,tI (v2.f1.length:Int)),(78,tI v13)],[.cells 69 [k1 v2.f0,k2 v2.f1,k2 v2.f2]]⟩ rfl ?_ (zz rfl) trivial ?_
       ·kernel_rfl
       refine AOps.nil ?_
       refine AWp.seq ?_
       refine AWp.start [0,1,2] [3,4,5,6,7,8,9,10,11,12] [] [0,7,8,12,13,14,76,77,78,95] 1 ⟨[(0,.pc 0 0),(7,.tv (.mp .i64 (some .i64) v12)),(8,.tv (.mp .i64 none v7)),(12,tI v13),(13,tI (gD v2.f1 v13)),(14,tI (mget v12 (gD v2.f1 v13))),(76,.al (.cell 0 1,[])),(77,tI (v2.f1.length:Int)),(78,tI v13),(95,tB (!(mhas v12 (gD v2.f1 v13))))],[.cells 69 [k1 v2.f0,k2 v2.f1,k2 v2.f2]]⟩ rfl ?_ (zz rfl) trivial ?_
       ·kernel_rfl
       obtain ⟨v16,hc3,h⟩:=of_bind h
       refine AOps.cut [3,4,5,6,7,8,9,10,11,12] [] (fun σ=>σ = ⟨[(0,.pc 0 0),(7,.tv (.mp .i64 (some .i64) v12)),(8,.tv (.mp .i64 none v7)),(12,tI v13),(13,tI (gD v2.f1 v13)),(76,.al (.cell 0 1,[])),(77,tI (v2.f1.length:Int)),(78,tI v13),(105,tB v16)],[.cells 69 [k1 v2.f0,k2 v2.f1,k2 v2.f2]]⟩) ?_ fun σ' hJ=>?_
       ·refine AOps.split (fun b=>⟨[(0,.pc 0 0),(7,.tv (.mp .i64 (some .i64) v12)),(8,.tv (.mp .i64 none v7)),(12,tI v13),(13,tI (gD v2.f1 v13)),(14,tI (mget v12 (gD v2.f1 v13))),(76,.al (.cell 0 1,[])),(77,tI (v2.f1.length:Int)),(78,tI v13),(95,tB b)],[.cells 69 [k1 v2.f0,k2 v2.f1,k2 v2.f2]]⟩) _ (fun hb=>?_) fun hb=>?_
        ·replace hc3:=of_true hc3 hb
         refine AOps.go [3,4,5,6,7,8,9,10,11,12] [] [] [0,7,8,12,13,76,77,78,105] 1 ⟨[(0,.pc 0 0),(7,.tv (.mp .i64 (some .i64) v12)),(8,.tv (.mp .i64 none v7)),(12,tI v13),(13,tI (gD v2.f1 v13)),(76,.al (.cell 0 1,[])),(77,tI (v2.f1.length:Int)),(78,tI v13),(105,tB true)],[.cells 69 [k1 v2.f0,k2 v2.f1,k2 v2.f2]]⟩ ?_ (zz rfl) trivial ?_
         ·kernel_rfl
         cases hc3
         exact AOps.nil rfl
        ·replace hc3:=of_false hc3 hb
         obtain ⟨hg,hc3⟩:=of_guard hc3
         refine AOps.go [3,4,5,6,7,8,9,10,11,12] [] [(0:Int) ≤ v13,v13 < (v2.f2.length:Int)] [0,7,8,12,13,76,77,78,105] 1 ⟨[(0,.pc 0 0),(7,.tv (.mp .i64 (some .i64) v12)),(8,.tv (.mp .i64 none v7)),(12,tI v13),(13,tI (gD v2.f1 v13)),(76,.al (.cell 0 1,[])),(77,tI (v2.f1.length:Int)),(78,tI v13),(105,tB (decide (gD v2.f2 v13 < mget v12 (gD v2.f1 v13))))],[.cells 69 [k1 v2.f0,k2 v2.f1,k2 v2.f2]]⟩ ?_ (zz rfl) ⟨hg.1,hg.2⟩ ?_
         ·kernel_rfl
         cases hc3
         exact AOps.nil rfl
       subst hJ
       refine AOps.nil ?_
       refine AWp.cond rfl (fun hb=>?_) fun hb=>?_
       ·replace h:=of_true h hb
        refine AWp.keepTo [0,7,8,12,13,76,77,78] 1 ⟨[(0,.pc 0 0),(7,.tv (.mp .i64 (some .i64) v12)),(8,.tv (.mp .i64 none v7)),(12,tI v13),(13,tI (gD v2.f1 v13)),(76,.al (.cell 0 1,[])),(77,tI (v2.f1.length:Int)),(78,tI v13)],[.cells 69 [k1 v2.f0,k2 v2.f1,k2 v2.f2]]⟩ ?_ (zz rfl) ?_
        ·kernel_rfl
        obtain ⟨hg,h⟩:=of_guard h
        refine AWp.start [0,1,2,3,4,5,6,7,8,9] [] [(0:Int) ≤ v13,v13 < (v2.f2.length:Int)] [0,7,8,76,77,78] 1 ⟨[(0,.pc 0 0),(7,.tv (.mp .i64 (some .i64) (mset v12 (gD v2.f1 v13) (gD v2.f2 v13)))),(8,.tv (.mp .i64 none v7)),(76,.al (.cell 0 1,[])),(77,tI (v2.f1.length:Int)),(78,tI v13)],[.cells 69 [k1 v2.f0,k2 v2.f1,k2 v2.f2]]⟩ rfl ?_ (zz rfl) ⟨hg.1,hg.2⟩ ?_
        ·kernel_rfl
        refine AOps.nil ?_
        exact ⟨mset v12 (gD v2.f1 v13) (gD v2.f2 v13),h,rfl⟩
       ·replace h:=of_false h hb
        refine AWp.keepTo [0,7,8,76,77,78] 1 ⟨[(0,.pc 0 0),(7,.tv (.mp .i64 (some .i64) v12)),(8,.tv (.mp .i64 none v7)),(76,.al (.cell 0 1,[])),(77,tI (v2.f1.length:Int)),(78,tI v13)],[.cells 69 [k1 v2.f0,k2 v2.f1,k2 v2.f2]]⟩ ?_ (zz rfl) ?_
        ·kernel_rfl
        refine AWp.skip ?_
        exact ⟨v12,h,rfl⟩
      ·replace h:=of_false h hb
       refine AWp.keepTo [0,7,8,76,77,78] 1 ⟨[(0,.pc 0 0),(7,.tv (.mp .i64 (some .i64) v12)),(8,.tv (.mp .i64 none v7)),(76,.al (.cell 0 1,[])),(77,tI (v2.f1.length:Int)),(78,tI v13)],[.cells 69 [k1 v2.f0,k2 v2.f1,k2 v2.f2]]⟩ ?_ (zz rfl) ?_
       ·kernel_rfl
       refine AWp.skip ?_
       exact ⟨v12,h,rfl⟩
     ·rintro v15 h
      refine AWp.start [0,1] [] [] [0,7,8,76,77,78] 1 ⟨[(0,.pc 0 0),(7,.tv (.mp .i64 (some .i64) v15)),(8,.tv (.mp .i64 none v7)),(76,.al (.cell 0 1,[])),(77,tI (v2.f1.length:Int)),(78,tI (w64 (v13 + (1:Int))))],[.cells 69 [k1 v2.f0,k2 v2.f1,k2 v2.f2]]⟩ rfl ?_ (zz rfl) trivial ?_
      ·kernel_rfl
      refine AOps.nil ?_
      cases h
      exact Or.inl ⟨_,rfl,rfl,rfl⟩
    ·replace h:=of_false h hb
     refine AWp.keepTo [0,7] 1 ⟨[(0,.pc 0 0),(7,.tv (.mp .i64 (some .i64) v12))],[.cells 69 [k1 v2.f0,k2 v2.f1,k2 v2.f2]]⟩ ?_ (zz rfl) ?_
     ·kernel_rfl
     refine AWp.exit ?_
     cases h
     exact Or.inr ⟨_,rfl,by simp,rfl,rfl⟩
   ·intro e σ hp
    rcases y with v17 | v14
    ·obtain ⟨rfl,rfl⟩:=hp
     cases h
     exact ⟨.inr rfl,rfl⟩
    ·obtain ⟨rfl,rfl⟩:=hp
     refine AWp.seq ?_
     refine AWp.seq ?_
     refine AWp.start [0,1,2,3,4,5] [] [] [0,7,119,120,121] 1 ⟨[(0,.pc 0 0),(7,.tv (.mp .i64 (some .i64) v14)),(119,.al (.cell 0 1,[])),(120,tI (v2.f1.length:Int)),(121,tI (0:Int))],[.cells 69 [k1 v2.f0,k2 v2.f1,k2 v2.f2]]⟩ rfl ?_ (zz rfl) trivial ?_
     ·kernel_rfl
     refine AOps.nil ?_
     refine AWp.block ?_
     obtain ⟨y,hy,h⟩:=of_bind h
     refine AWp.mono (AWp.loop (S:=Int × (List Int)) (Y:=Out (Bool × (List UInt8) × Int × T68) (List Int)) (fun s=>⟨[(0,.pc 0 0),(7,.tv (.mp .i64 (some .i64) v14)),(119,.al (.cell 0 1,[])),(120,tI (v2.f1.length:Int)),(121,tI s.1)],[.cells 69 [k1 v2.f0,k2 v2.f1,k2 s.2]]⟩) (fun s=>f46o_b5 v2 v14 s.1 s.2) (fun y e σ=>match y with | .ret r=>e = .ret ∧ σ = ⟨[(4,(match r.1 with | false=>.tv (.sc (.pointer none)) | true=>.pc 0 0)),(5,tS r.2.1),(6,tI r.2.2.1)],[.cells 69 [k1 r.2.2.2.f0,k2 r.2.2.2.f1,k2 r.2.2.2.f2]]⟩ | .go v=>e = .exit 4 ∧ σ = ⟨[(0,.pc 0 0)],[.cells 69 [k1 v2.f0,k2 v2.f1,k2 v]]⟩) ?_ hy) ?_
     ·rintro ⟨v18,v19⟩ o h
      refine AWp.seq ?_
      refine AWp.start [0] [] [] [0,7,119,120,121,122] 1 ⟨[(0,.pc 0 0),(7,.tv (.mp .i64 (some .i64) v14)),(119,.al (.cell 0 1,[])),(120,tI (v2.f1.length:Int)),(121,tI v18),(122,tB (decide (v18 < (v2.f1.length:Int))))],[.cells 69 [k1 v2.f0,k2 v2.f1,k2 v19]]⟩ rfl ?_ (zz rfl) trivial ?_
      ·kernel_rfl
      refine AOps.nil ?_
      refine AWp.seq ?_
      refine AWp.cond rfl (fun hb=>?_) fun hb=>?_
      ·replace h:=of_true h hb
       refine AWp.keepTo [0,7,119,120,121] 1 ⟨[(0,.pc 0 0),(7,.tv (.mp .i64 (some .i64) v14)),(119,.al (.cell 0 1,[])),(120,tI (v2.f1.length:Int)),(121,tI v18)],[.cells 69 [k1 v2.f0,k2 v2.f1,k2 v19]]⟩ ?_ (zz rfl) ?_
       ·kernel_rfl
       refine AWp.skip ?_
       refine AWp.seq ?_
       refine AWp.block ?_
       refine AWp.seq ?_
       obtain ⟨hg,h⟩:=of_guard h
       refine AWp.start [0,1,2,3,4] [] [(0:Int) ≤ v18,v18 < (v2.f1.length:Int)] [0,7,16,17,119,120,121] 1 ⟨[(0,.pc 0 0),(7,.tv (.mp .i64 (some .i64) v14)),(16,tI v18),(17,tI (gD v2.f1 v18)),(119,.al (.cell 0 1,[])),(120,tI (v2.f1.length:Int)),(121,tI v18)],[.cells 69 [k1 v2.f0,k2 v2.f1,k2 v19]]⟩ rfl ?_ (zz rfl) ⟨hg.1,hg.2⟩ ?_
       ·kernel_rfl
       refine AOps.nil ?_
       refine AWp.seq ?_
       refine AWp.draw FFm _ (n:=13) rfl (ls:=#[n1,n1,n1,n1,n1,n1,n1,n1,n1,n1,n1,n1,n1]) rfl ?_ (fun _ h=>h)
       refine AAny.go (by kernel_rfl) [0,1,2,4,7,8] (fuel':=7) rfl [] #[y1,y1,y1,n1,y1,n1,n1,y1,y1,n1,n1,n1,n1] [0,7,16,119,120,121,128,130,133,134] 1 ⟨[(0,.pc 0 0),(7,.tv (.mp .i64 (some .i64) v14)),(16,tI v18),(119,.al (.cell 0 1,[])),(120,tI (v2.f1.length:Int)),(121,tI v18),(128,.pc 0 2),(130,tI v18),(133,.ml (.slot 7 0,[])),(134,tI (gD v2.f1 v18))],[.cells 69 [k1 v2.f0,k2 v2.f1,k2 v19]]⟩ ?_ (zz rfl) trivial ?_
       ·kernel_rfl
       obtain ⟨hd18,h⟩:=of_guard h
       refine AAny.share 1 #[y1,y1,y1,y1,y1,y1,y1,y1,y1,y1,y1,y1,n1] ⟨[(0,.pc 0 0),(7,.tv (.mp .i64 (some .i64) v14)),(16,tI v18),(119,.al (.cell 0 1,[])),(120,tI (v2.f1.length:Int)),(121,tI v18),(136,tI (w64 ((gD v19 v18) - (mget v14 (gD v2.f1 v18))))),(137,.pe (.cell 0 2,[]) v18.toNat 0 1)],[.cells 69 [k1 v2.f0,k2 v2.f1,k2 v19]]⟩ ?_ fun n4_=>?_
       ·refine AAny.step (i:=12) (fuel':=0) rfl (by kernel_rfl) [PlainTo v19.length (fun i=>(cInt .i64) (v19.getD i default))] #[y1,y1,y1,y1,y1,y1,y1,y1,y1,y1,y1,y1,y1] rfl [0,7,16,119,120,121] 1 ⟨[(0,.pc 0 0),(7,.tv (.mp .i64 (some .i64) v14)),(16,tI v18),(119,.al (.cell 0 1,[])),(120,tI (v2.f1.length:Int)),(121,tI v18)],[.cells 69 [k1 v2.f0,k2 v2.f1,.own 1 3 v19.length (setElem (fun i=>(cInt .i64) (v19.getD i default)) v18.toNat (putAt ((cInt .i64) (gD v19 v18)) 0 [.int .i64 (w64 ((gD v19 v18) - (mget v14 (gD v2.f1 v18))))]))]]⟩ ?_ (zz rfl) (fun _ _=>rfl) ?_
        ·kernel_rfl
        refine AAny.retell 0 2 (y':=k2 (v19.set v18.toNat (w64 ((gD v19 v18) - (mget v14 (gD v2.f1 v18)))))) rfl (.own (by simp) (set_at (cInt .i64) v19 v18.toNat 0 [.int .i64 (w64 ((gD v19 v18) - (mget v14 (gD v2.f1 v18))))] (w64 ((gD v19 v18) - (mget v14 (gD v2.f1 v18)))) rfl)) ?_
        refine AAny.keepTo [0,7,16,119,120,121] 1 ⟨[(0,.pc 0 0),(7,.tv (.mp .i64 (some .i64) v14)),(16,tI v18),(119,.al (.cell 0 1,[])),(120,tI (v2.f1.length:Int)),(121,tI v18)],[.cells 69 [k1 v2.f0,k2 v2.f1,k2 (v19.set v18.toNat (w64 ((gD v19 v18) - (mget v14 (gD v2.f1 v18)))))]]⟩ _ ?_ rfl (zz rfl) (AAny.done (by kernel_rfl) ?_)
        ·kernel_rfl
        refine AWp.seq ?_
        obtain ⟨hg,h⟩:=of_guard h
        refine AWp.start [0,1,2,3,4,5,6,7] [] [(0:Int) ≤ v18,v18 < ((v19.set v18.toNat (w64 ((gD v19 v18) - (mget v14 (gD v2.f1 v18))))).length:Int)] [0,7,16,119,120,121,145] 1 ⟨[(0,.pc 0 0),(7,.tv (.mp .i64 (some .i64) v14)),(16,tI v18),(119,.al (.cell 0 1,[])),(120,tI (v2.f1.length:Int)),(121,tI v18),(145,tB (decide (gD (v19.set v18.toNat (w64 ((gD v19 v18) - (mget v14 (gD v2.f1 v18))))) v18 < (0:Int))))],[.cells 69 [k1 v2.f0,k2 v2.f1,k2 (v19.set v18.toNat (w64 ((gD v19 v18) - (mget v14 (gD v2.f1 v18)))))]]⟩ rfl ?_ (zz rfl) ⟨hg.1,hg.2⟩ ?_
        ·kernel_rfl
        refine AOps.nil ?_
        refine AWp.cond rfl (fun hb=>?_) fun hb=>?_
        ·replace h:=of_true h hb
         refine AWp.keepTo [0,16] 1 ⟨[(0,.pc 0 0),(16,tI v18)],[.cells 69 [k1 v2.f0,k2 v2.f1,k2 (v19.set v18.toNat (w64 ((gD v19 v18) - (mget v14 (gD v2.f1 v18)))))]]⟩ ?_ (zz rfl) ?_
         ·kernel_rfl
         refine AWp.seq ?_
         refine AWp.draw FFm _ (n:=11) rfl (ls:=#[n1,n1,n1,n1,n1,n1,n1,n1,n1,n1,n1]) rfl ?_ (fun _ h=>h)
         refine AAny.go (by kernel_rfl) [0,1,2,4,8] (fuel':=6) rfl [] #[y1,y1,y1,n1,y1,n1,n1,n1,y1,n1,n1] [4,148,150] 1 ⟨[(4,.tv (.sc (.pointer none))),(148,.pc 0 0),(150,tI v18)],[.cells 69 [k1 v2.f0,k2 v2.f1,k2 (v19.set v18.toNat (w64 ((gD v19 v18) - (mget v14 (gD v2.f1 v18)))))]]⟩ ?_ (zz rfl) trivial ?_
         ·kernel_rfl
         refine AAny.step (i:=3) (fuel':=5) rfl (by kernel_rfl) [] #[y1,y1,y1,y1,y1,n1,n1,n1,y1,n1,n1] rfl [4,149,150] 1 ⟨[(4,.tv (.sc (.pointer none))),(149,q0 v2.f0),(150,tI v18)],[.cells 69 [k1 v2.f0,k2 v2.f1,k2 (v19.set v18.toNat (w64 ((gD v19 v18) - (mget v14 (gD v2.f1 v18)))))]]⟩ ?_ (zz rfl) trivial ?_
         ·kernel_rfl
         obtain ⟨hg,h⟩:=of_guard h
         refine AAny.go (by kernel_rfl) [5,6,7,9,10] (fuel':=0) rfl [(0:Int) ≤ v18,v18 < (v2.f0.length:Int)] #[y1,y1,y1,y1,y1,y1,y1,y1,y1,y1,y1] [4,5,6] 1 ⟨[(4,.tv (.sc (.pointer none))),(5,tS ((gD v2.f0 v18).f0)),(6,tI (10:Int))],[.cells 69 [k1 v2.f0,k2 v2.f1,k2 (v19.set v18.toNat (w64 ((gD v19 v18) - (mget v14 (gD v2.f1 v18)))))]]⟩ ?_ (zz rfl) ⟨hg.1,hg.2⟩ ?_
         ·kernel_rfl
         refine AAny.keepTo [4,5,6] 1 ⟨[(4,.tv (.sc (.pointer none))),(5,tS ((gD v2.f0 v18).f0)),(6,tI (10:Int))],[.cells 69 [k1 v2.f0,k2 v2.f1,k2 (v19.set v18.toNat (w64 ((gD v19 v18) - (mget v14 (gD v2.f1 v18)))))]]⟩ _ ?_ rfl (zz rfl) (AAny.done (by kernel_rfl) ?_)
         ·kernel_rfl
         refine AWp.ret ?_
         cases h
         exact Or.inr ⟨_,rfl,by simp,rfl,rfl⟩
        ·replace h:=of_false h hb
         refine AWp.keepTo [0,7,119,120,121] 1 ⟨[(0,.pc 0 0),(7,.tv (.mp .i64 (some .i64) v14)),(119,.al (.cell 0 1,[])),(120,tI (v2.f1.length:Int)),(121,tI v18)],[.cells 69 [k1 v2.f0,k2 v2.f1,k2 (v19.set v18.toNat (w64 ((gD v19 v18) - (mget v14 (gD v2.f1 v18)))))]]⟩ ?_ (zz rfl) ?_
         ·kernel_rfl
         refine AWp.skip ?_
         refine AWp.start [0,1] [] [] [0,7,119,120,121] 1 ⟨[(0,.pc 0 0),(7,.tv (.mp .i64 (some .i64) v14)),(119,.al (.cell 0 1,[])),(120,tI (v2.f1.length:Int)),(121,tI (w64 (v18 + (1:Int))))],[.cells 69 [k1 v2.f0,k2 v2.f1,k2 (v19.set v18.toNat (w64 ((gD v19 v18) - (mget v14 (gD v2.f1 v18)))))]]⟩ rfl ?_ (zz rfl) trivial ?_
         ·kernel_rfl
         refine AOps.nil ?_
         cases h
         exact Or.inl ⟨_,rfl,rfl,rfl⟩
       refine AAny.share 4 #[y1,y1,y1,y1,y1,y1,n1,y1,y1,y1,n1,n1,n1] ⟨[(0,.pc 0 0),(7,.tv (.mp .i64 (some .i64) v14)),(16,tI v18),(119,.al (.cell 0 1,[])),(120,tI (v2.f1.length:Int)),(121,tI v18),(129,.al (.cell 0 2,[])),(130,tI v18),(131,.pe (.cell 0 2,[]) v18.toNat 0 1),(135,tI (mget v14 (gD v2.f1 v18)))],[.cells 69 [k1 v2.f0,k2 v2.f1,k2 v19]]⟩ ?_ fun n3_=>?_
       ·refine AAny.each [6] (by kernel_rfl) rfl ?_
        refine AEach.step (i:=6) [] #[y1,y1,y1,y1,y1,y1,y1,y1,y1,y1,n1,n1,n1] rfl [0,7,16,119,120,121,129,130,132,135] 1 ⟨[(0,.pc 0 0),(7,.tv (.mp .i64 (some .i64) v14)),(16,tI v18),(119,.al (.cell 0 1,[])),(120,tI (v2.f1.length:Int)),(121,tI v18),(129,.al (.cell 0 2,[])),(130,tI v18),(132,tI (gD v19 v18)),(135,tI (mget v14 (gD v2.f1 v18)))],[.cells 69 [k1 v2.f0,k2 v2.f1,k2 v19]]⟩ ?_ (zz rfl) trivial ?_ ?_
        ·kernel_rfl
        ·refine AAny.go (by kernel_rfl) [10,11] (fuel':=1) rfl [(0:Int) ≤ v18,v18 < (v19.length:Int)] #[y1,y1,y1,y1,y1,y1,y1,y1,y1,y1,y1,y1,n1] [0,7,16,119,120,121,136,137] 1 ⟨[(0,.pc 0 0),(7,.tv (.mp .i64 (some .i64) v14)),(16,tI v18),(119,.al (.cell 0 1,[])),(120,tI (v2.f1.length:Int)),(121,tI v18),(136,tI (w64 ((gD v19 v18) - (mget v14 (gD v2.f1 v18))))),(137,.pe (.cell 0 2,[]) v18.toNat 0 1)],[.cells 69 [k1 v2.f0,k2 v2.f1,k2 v19]]⟩ ?_ (zz rfl) ⟨hd18.1,hd18.2⟩ ?_
         ·kernel_rfl
         exact n4_
        exact AEach.nil
       refine AAny.share 4 #[y1,y1,y1,y1,y1,y1,y1,y1,y1,n1,n1,n1,n1] ⟨[(0,.pc 0 0),(7,.tv (.mp .i64 (some .i64) v14)),(16,tI v18),(119,.al (.cell 0 1,[])),(120,tI (v2.f1.length:Int)),(121,tI v18),(129,.al (.cell 0 2,[])),(130,tI v18),(132,tI (gD v19 v18)),(133,.ml (.slot 7 0,[])),(134,tI (gD v2.f1 v18))],[.cells 69 [k1 v2.f0,k2 v2.f1,k2 v19]]⟩ ?_ fun n5_=>?_
       ·refine AAny.each [9] (by kernel_rfl) rfl ?_
        refine AEach.step (i:=9) [] #[y1,y1,y1,y1,y1,y1,y1,y1,y1,y1,n1,n1,n1] rfl [0,7,16,119,120,121,129,130,132,135] 1 ⟨[(0,.pc 0 0),(7,.tv (.mp .i64 (some .i64) v14)),(16,tI v18),(119,.al (.cell 0 1,[])),(120,tI (v2.f1.length:Int)),(121,tI v18),(129,.al (.cell 0 2,[])),(130,tI v18),(132,tI (gD v19 v18)),(135,tI (mget v14 (gD v2.f1 v18)))],[.cells 69 [k1 v2.f0,k2 v2.f1,k2 v19]]⟩ ?_ (zz rfl) trivial ?_ ?_
        ·kernel_rfl
        ·refine AAny.go (by kernel_rfl) [10,11] (fuel':=1) rfl [(0:Int) ≤ v18,v18 < (v19.length:Int)] #[y1,y1,y1,y1,y1,y1,y1,y1,y1,y1,y1,y1,n1] [0,7,16,119,120,121,136,137] 1 ⟨[(0,.pc 0 0),(7,.tv (.mp .i64 (some .i64) v14)),(16,tI v18),(119,.al (.cell 0 1,[])),(120,tI (v2.f1.length:Int)),(121,tI v18),(136,tI (w64 ((gD v19 v18) - (mget v14 (gD v2.f1 v18))))),(137,.pe (.cell 0 2,[]) v18.toNat 0 1)],[.cells 69 [k1 v2.f0,k2 v2.f1,k2 v19]]⟩ ?_ (zz rfl) ⟨hd18.1,hd18.2⟩ ?_
         ·kernel_rfl
         exact n4_
        exact AEach.nil
       refine AAny.share 5 #[y1,y1,y1,y1,y1,y1,n1,y1,y1,n1,n1,n1,n1] ⟨[(0,.pc 0 0),(7,.tv (.mp .i64 (some .i64) v14)),(16,tI v18),(119,.al (.cell 0 1,[])),(120,tI (v2.f1.length:Int)),(121,tI v18),(129,.al (.cell 0 2,[])),(130,tI v18),(131,.pe (.cell 0 2,[]) v18.toNat 0 1),(133,.ml (.slot 7 0,[])),(134,tI (gD v2.f1 v18))],[.cells 69 [k1 v2.f0,k2 v2.f1,k2 v19]]⟩ ?_ fun n1_=>?_
       ·refine AAny.each [6,9] (by kernel_rfl) rfl ?_
        refine AEach.step (i:=6) [] #[y1,y1,y1,y1,y1,y1,y1,y1,y1,n1,n1,n1,n1] rfl [0,7,16,119,120,121,129,130,132,133,134] 1 ⟨[(0,.pc 0 0),(7,.tv (.mp .i64 (some .i64) v14)),(16,tI v18),(119,.al (.cell 0 1,[])),(120,tI (v2.f1.length:Int)),(121,tI v18),(129,.al (.cell 0 2,[])),(130,tI v18),(132,tI (gD v19 v18)),(133,.ml (.slot 7 0,[])),(134,tI (gD v2.f1 v18))],[.cells 69 [k1 v2.f0,k2 v2.f1,k2 v19]]⟩ ?_ (zz rfl) trivial ?_ ?_
        ·kernel_rfl
        ·exact n5_
        refine AEach.step (i:=9) [] #[y1,y1,y1,y1,y1,y1,n1,y1,y1,y1,n1,n1,n1] rfl [0,7,16,119,120,121,129,130,131,135] 1 ⟨[(0,.pc 0 0),(7,.tv (.mp .i64 (some .i64) v14)),(16,tI v18),(119,.al (.cell 0 1,[])),(120,tI (v2.f1.length:Int)),(121,tI v18),(129,.al (.cell 0 2,[])),(130,tI v18),(131,.pe (.cell 0 2,[]) v18.toNat 0 1),(135,tI (mget v14 (gD v2.f1 v18)))],[.cells 69 [k1 v2.f0,k2 v2.f1,k2 v19]]⟩ ?_ (zz rfl) trivial ?_ ?_
        ·kernel_rfl
        ·exact n3_
        exact AEach.nil
       refine AAny.share 6 #[y1,y1,y1,n1,y1,n1,n1,y1,y1,y1,n1,n1,n1] ⟨[(0,.pc 0 0),(7,.tv (.mp .i64 (some .i64) v14)),(16,tI v18),(119,.al (.cell 0 1,[])),(120,tI (v2.f1.length:Int)),(121,tI v18),(128,.pc 0 2),(130,tI v18),(135,tI (mget v14 (gD v2.f1 v18)))],[.cells 69 [k1 v2.f0,k2 v2.f1,k2 v19]]⟩ ?_ fun n2_=>?_
       ·refine AAny.each [3] (by kernel_rfl) rfl ?_
        refine AEach.step (i:=3) [] #[y1,y1,y1,y1,y1,n1,n1,y1,y1,y1,n1,n1,n1] rfl [0,7,16,119,120,121,129,130,135] 1 ⟨[(0,.pc 0 0),(7,.tv (.mp .i64 (some .i64) v14)),(16,tI v18),(119,.al (.cell 0 1,[])),(120,tI (v2.f1.length:Int)),(121,tI v18),(129,.al (.cell 0 2,[])),(130,tI v18),(135,tI (mget v14 (gD v2.f1 v18)))],[.cells 69 [k1 v2.f0,k2 v2.f1,k2 v19]]⟩ ?_ (zz rfl) trivial ?_ ?_
        ·kernel_rfl
        ·refine AAny.go (by kernel_rfl) [5] (fuel':=4) rfl [(0:Int) ≤ v18,v18 < (v19.length:Int)] #[y1,y1,y1,y1,y1,y1,n1,y1,y1,y1,n1,n1,n1] [0,7,16,119,120,121,129,130,131,135] 1 ⟨[(0,.pc 0 0),(7,.tv (.mp .i64 (some .i64) v14)),(16,tI v18),(119,.al (.cell 0 1,[])),(120,tI (v2.f1.length:Int)),(121,tI v18),(129,.al (.cell 0 2,[])),(130,tI v18),(131,.pe (.cell 0 2,[]) v18.toNat 0 1),(135,tI (mget v14 (gD v2.f1 v18)))],[.cells 69 [k1 v2.f0,k2 v2.f1,k2 v19]]⟩ ?_ (zz rfl) ⟨hd18.1,hd18.2⟩ ?_
         ·kernel_rfl
         exact n3_
        exact AEach.nil
       refine AAny.each [3,9] (by kernel_rfl) rfl ?_
       refine AEach.step (i:=3) [] #[y1,y1,y1,y1,y1,n1,n1,y1,y1,n1,n1,n1,n1] rfl [0,7,16,119,120,121,129,130,133,134] 1 ⟨[(0,.pc 0 0),(7,.tv (.mp .i64 (some .i64) v14)),(16,tI v18),(119,.al (.cell 0 1,[])),(120,tI (v2.f1.length:Int)),(121,tI v18),(129,.al (.cell 0 2,[])),(130,tI v18),(133,.ml (.slot 7 0,[])),(134,tI (gD v2.f1 v18))],[.cells 69 [k1 v2.f0,k2 v2.f1,k2 v19]]⟩ ?_ (zz rfl) trivial ?_ ?_
       ·kernel_rfl
       ·refine AAny.go (by kernel_rfl) [5] (fuel':=5) rfl [(0:Int) ≤ v18,v18 < (v19.length:Int)] #[y1,y1,y1,y1,y1,y1,n1,y1,y1,n1,n1,n1,n1] [0,7,16,119,120,121,129,130,131,133,134] 1 ⟨[(0,.pc 0 0),(7,.tv (.mp .i64 (some .i64) v14)),(16,tI v18),(119,.al (.cell 0 1,[])),(120,tI (v2.f1.length:Int)),(121,tI v18),(129,.al (.cell 0 2,[])),(130,tI v18),(131,.pe (.cell 0 2,[]) v18.toNat 0 1),(133,.ml (.slot 7 0,[])),(134,tI (gD v2.f1 v18))],[.cells 69 [k1 v2.f0,k2 v2.f1,k2 v19]]⟩ ?_ (zz rfl) ⟨hd18.1,hd18.2⟩ ?_
        ·kernel_rfl
        exact n1_
       refine AEach.step (i:=9) [] #[y1,y1,y1,n1,y1,n1,n1,y1,y1,y1,n1,n1,n1] rfl [0,7,16,119,120,121,128,130,135] 1 ⟨[(0,.pc 0 0),(7,.tv (.mp .i64 (some .i64) v14)),(16,tI v18),(119,.al (.cell 0 1,[])),(120,tI (v2.f1.length:Int)),(121,tI v18),(128,.pc 0 2),(130,tI v18),(135,tI (mget v14 (gD v2.f1 v18)))],[.cells 69 [k1 v2.f0,k2 v2.f1,k2 v19]]⟩ ?_ (zz rfl) trivial ?_ ?_
       ·kernel_rfl
       ·exact n2_
       exact AEach.nil
      ·replace h:=of_false h hb
       refine AWp.keepTo [0] 1 ⟨[(0,.pc 0 0)],[.cells 69 [k1 v2.f0,k2 v2.f1,k2 v19]]⟩ ?_ (zz rfl) ?_
       ·kernel_rfl
       refine AWp.exit ?_
       cases h
       exact Or.inr ⟨_,rfl,by simp,rfl,rfl⟩
     ·intro e σ hp
      rcases y with v21 | v20
      ·obtain ⟨rfl,rfl⟩:=hp
       cases h
       exact ⟨.inr rfl,rfl⟩
      ·obtain ⟨rfl,rfl⟩:=hp
       refine AWp.seq ?_
       refine AWp.start [0,1,2,3] [] [] [4,5,6] 1 ⟨[(4,.pc 0 0),(5,tS ([]:List UInt8)),(6,tI (0:Int))],[.cells 69 [k1 v2.f0,k2 v2.f1,k2 v20]]⟩ rfl ?_ (zz rfl) trivial ?_
       ·kernel_rfl
       refine AOps.nil ?_
       refine AWp.ret ?_
       cases h
       exact ⟨.inr rfl,rfl⟩

abbrev hp21 (v1:List T25) (v6:List Int):List AObj:=[.cells 69 [k1 v1,k2 v6,k2 (List.replicate (Int.toNat (v1.length:Int)) (0:Int))]]

noncomputable def f18_b1 (v1:List T25) (v5:Int) (v6:List Int):Option ((Int × (List Int)) ⊕ Out ((Option T68) × (List UInt8) × Int) (List Int)) :=
 cond (decide (v5 < (v1.length:Int))) (if (v6.length + [v5].length) * 8 ≤ 140737488355328 then some (.inl (w64 (v5 + (1:Int)),v6 ++ [v5])) else none) (some (.inr (.go v6)))

noncomputable def f18_b2 (v1:List T25) (v3:List (List (List UInt8))) (v9:Int) (v16:Int) (v17:List T25) (v18:List Int) (v19:List Int):Option ((Int × (List T25) × (List Int) × (List Int)) ⊕ Out ((Option T68) × (List UInt8) × Int) ((List T25) × (List Int) × (List Int))) :=
 cond (decide (v16 < ((v3.getD v9.toNat default).length:Int))) (if (0:Int) ≤ w64 (v16 - (1:Int)) ∧ w64 (v16 - (1:Int)) < ((v3.getD v9.toNat default).length:Int) then (f44 v1 ((v3.getD v9.toNat default).getD (Int.toNat (w64 (v16 - (1:Int)))) default)).bind fun v23=>if (0:Int) ≤ v23 ∧ v23 < (v1.length:Int) ∧ (0:Int) ≤ v16 ∧ v16 < ((v3.getD v9.toNat default).length:Int) then (f19 (v1.getD v23.toNat default)).bind fun v24=>(f44 v1 ((v3.getD v9.toNat default).getD v16.toNat default)).bind fun v25=>(f45o v23 v24 v25 (0:Int) (T68.mk v17 v18 v19)).bind fun v26=>some (.inl (w64 (v16 + (1:Int)),v26.2.f0,v26.2.f1,v26.2.f2)) else none else none) (some (.inr (.go (v17,v18,v19))))

noncomputable def f18_b3 (v1:List T25) (v3:List (List (List UInt8))) (v9:Int) (v10:List T25) (v11:List Int) (v12:List Int):Option ((Int × (List T25) × (List Int) × (List Int)) ⊕ Out ((Option T68) × (List UInt8) × Int) ((List T25) × (List Int) × (List Int))) :=
 cond (decide (v9 < (v3.length:Int))) (if (0:Int) ≤ v9 ∧ v9 < (v3.length:Int) then (iter (fun s=>f18_b2 v1 v3 v9 s.1 s.2.1 s.2.2.1 s.2.2.2) ((1:Int),v10,v11,v12)).bind fun y=>match y with | .ret v27=>some (.inr (.ret v27)) | .go (v20,v21,v22)=>some (.inl (w64 (v9 + (1:Int)),v20,v21,v22)) else none) (some (.inr (.go (v10,v11,v12))))

noncomputable def f18_b4 (v1:List T25) (v2:List (List T37)) (v29:Int) (v36:Int) (v37:List T25) (v38:List Int) (v39:List Int):Option ((Int × (List T25) × (List Int) × (List Int)) ⊕ Out ((Option T68) × (List UInt8) × Int) ((List T25) × (List Int) × (List Int))) :=
 cond (decide (v36 < ((v2.getD v29.toNat default).length:Int))) (if (0:Int) < ((v2.getD v29.toNat default).length:Int) ∧ (0:Int) ≤ v36 ∧ v36 < ((v2.getD v29.toNat default).length:Int) then (f44 v1 (((v2.getD v29.toNat default).getD 0 default).f0)).bind fun v43=>(f44 v1 (((v2.getD v29.toNat default).getD v36.toNat default).f0)).bind fun v44=>if (0:Int) < ((v2.getD v29.toNat default).length:Int) ∧ (0:Int) ≤ v43 ∧ v43 < (v1.length:Int) ∧ (0:Int) ≤ v36 ∧ v36 < ((v2.getD v29.toNat default).length:Int) ∧ (0:Int) ≤ v44 ∧ v44 < (v1.length:Int) then (f45o v43 (w64 ((((v2.getD v29.toNat default).getD 0 default).f1) * ((v1.getD v43.toNat default).f1))) v44 (w64 ((((v2.getD v29.toNat default).getD v36.toNat default).f1) * ((v1.getD v44.toNat default).f1))) (T68.mk v37 v38 v39)).bind fun v45=>cond (!v45.1) (if (0:Int) ≤ v36 ∧ v36 < ((v2.getD v29.toNat default).length:Int) then some (.inr (.ret (none,((v2.getD v29.toNat default).getD v36.toNat default).f0,(110:Int)))) else none) (some (.inl (w64 (v36 + (1:Int)),v45.2.f0,v45.2.f1,v45.2.f2))) else none else none) (some (.inr (.go (v37,v38,v39))))

noncomputable def f18_b5 (v1:List T25) (v2:List (List T37)) (v29:Int) (v30:List T25) (v31:List Int) (v32:List Int):Option ((Int × (List T25) × (List Int) × (List Int)) ⊕ Out ((Option T68) × (List UInt8) × Int) ((List T25) × (List Int) × (List Int))) :=
 cond (decide (v29 < (v2.length:Int))) (if (0:Int) ≤ v29 ∧ v29 < (v2.length:Int) then (iter (fun s=>f18_b4 v1 v2 v29 s.1 s.2.1 s.2.2.1 s.2.2.2) ((1:Int),v30,v31,v32)).bind fun y=>match y with | .ret v46=>some (.inr (.ret v46)) | .go (v40,v41,v42)=>some (.inl (w64 (v29 + (1:Int)),v40,v41,v42)) else none) (some (.inr (.go (v30,v31,v32))))

noncomputable def f18 (v1:List T25) (v2:List (List T37)) (v3:List (List (List UInt8))):Option ((Option T68) × (List UInt8) × Int) :=
 (f43 v1 v2 v3).bind fun v4=>cond (v4.2 != (0:Int)) (some (none,v4.1,v4.2)) (if (8:Int) * (v1.length:Int) ≤ 281474976710656 ∧ (v1.length:Int) ≤ 9223372036854775807 then (iter (fun s=>f18_b1 v1 s.1 s.2) ((0:Int),[])).bind fun y=>match y with | .ret v8=>some v8 | .go v7=>(iter (fun s=>f18_b3 v1 v3 s.1 s.2.1 s.2.2.1 s.2.2.2) ((0:Int),v1,v7,List.replicate (Int.toNat (v1.length:Int)) (0:Int))).bind fun y=>match y with | .ret v28=>some v28 | .go (v13,v14,v15)=>(iter (fun s=>f18_b5 v1 v2 s.1 s.2.1 s.2.2.1 s.2.2.2) ((0:Int),v13,v14,v15)).bind fun y=>match y with | .ret v47=>some v47 | .go (v33,v34,v35)=>(f46o v3 (T68.mk v33 v34 v35)).bind fun v48=>match v48 with | (false,v50,v51,v52)=>some (none,v50,v51) | (true,v50,v51,v52)=>some (some (T68.mk v52.f0 v52.f1 v52.f2),v50,v51) else none)

theorem f18_ok (v1:List T25) (v2:List (List T37)) (v3:List (List (List UInt8))) {r:(Option T68) × (List UInt8) × Int} (h:f18 v1 v2 v3 = some r):ACall Tryz.prog 18 [.tv (fzL 3 c25 v1),.tv (fzL 1 (cSl 2 c37) v2),.tv (fzL 1 (cSl 1 cStr) v3)] [] (.tup [(match r.1 with | none=>.tv (.sc (.pointer none)) | some _=>.pc 0 0),.tv (.str r.2.1),.tv (.int .i64 r.2.2)]) ([] ++ (match r.1 with | none=>[] | some u=>[.cells 69 [fzL 3 c25 u.f0,ownL 1 3 (cInt .i64) u.f1,ownL 1 3 (cInt .i64) u.f2]])):=by
 refine ACall.ofN (FF 152 0) (rs:=[6,7,8]) (env:=[(6,(match r.1 with | none=>.tv (.sc (.pointer none)) | some _=>.pc 0 0)),(7,tS r.2.1),(8,tI r.2.2)]) Tryz.func18 rfl Tryz.ntmps18 Tryz.results18 (by decide) (by decide) rfl (zz rfl) rfl (get_ofN _ _ _ rfl) (ok_ofN _ (by obtain ⟨r,r2⟩:=r; cases r <;> rfl)) ?_
 refine AWp.seq ?_
 refine AWp.start [0,1,2] [] [] [0,1,2] 0 ⟨[(0,q0 v1),(1,.tv (fzL 1 (cSl 2 c37) v2)),(2,.tv (fzL 1 (cSl 1 cStr) v3))],[]⟩ rfl ?_ z0 trivial ?_
 ·kernel_rfl
 refine AOps.nil ?_
 refine AWp.seq ?_
 refine AWp.seq ?_
 refine AWp.start [0,1,2] [3,4,5,6,7,8] [] [0,1,2,23,24,25] 0 ⟨[(0,q0 v1),(1,.tv (fzL 1 (cSl 2 c37) v2)),(2,.tv (fzL 1 (cSl 1 cStr) v3)),(23,q0 v1),(24,.tv (fzL 1 (cSl 2 c37) v2)),(25,.tv (fzL 1 (cSl 1 cStr) v3))],[]⟩ rfl ?_ z0 trivial ?_
 ·kernel_rfl
 obtain ⟨v4,hv4,h⟩:=of_bind h
 refine AOps.cons (AOne.callP (F:=(FF 152 0)) _ rfl rfl rfl _ rfl rfl _ _ rfl Tryz.call43 [q0 v1,.tv (fzL 1 (cSl 2 c37) v2),.tv (fzL 1 (cSl 1 cStr) v3)] rfl rfl (f43_ok v1 v2 v3 hv4) rfl) ?_
 refine AOps.go [4,5,6,7,8] [] [] [0,1,2,9,10] 0 ⟨[(0,q0 v1),(1,.tv (fzL 1 (cSl 2 c37) v2)),(2,.tv (fzL 1 (cSl 1 cStr) v3)),(9,tS v4.1),(10,tI v4.2)],[]⟩ ?_ z0 trivial ?_
 ·kernel_rfl
 refine AOps.nil ?_
 refine AWp.seq ?_
 refine AWp.start [0,1] [] [] [0,1,2,9,10,30] 0 ⟨[(0,q0 v1),(1,.tv (fzL 1 (cSl 2 c37) v2)),(2,.tv (fzL 1 (cSl 1 cStr) v3)),(9,tS v4.1),(10,tI v4.2),(30,tB (v4.2 != (0:Int)))],[]⟩ rfl ?_ z0 trivial ?_
 ·kernel_rfl
 refine AOps.nil ?_
 refine AWp.cond rfl (fun hb=>?_) fun hb=>?_
 ·replace h:=of_true h hb
  refine AWp.keepTo [9,10] 0 ⟨[(9,tS v4.1),(10,tI v4.2)],[]⟩ ?_ z0 ?_
  ·kernel_rfl
  refine AWp.seq ?_
  refine AWp.start [0,1,2,3,4] [] [] [6,7,8] 0 ⟨[(6,.tv (.sc (.pointer none))),(7,tS v4.1),(8,tI v4.2)],[]⟩ rfl ?_ z0 trivial ?_
  ·kernel_rfl
  refine AOps.nil ?_
  refine AWp.ret ?_
  cases h
  exact ⟨.inr rfl,rfl⟩
 ·replace h:=of_false h hb
  refine AWp.keepTo [0,1,2] 0 ⟨[(0,q0 v1),(1,.tv (fzL 1 (cSl 2 c37) v2)),(2,.tv (fzL 1 (cSl 1 cStr) v3))],[]⟩ ?_ z0 ?_
  ·kernel_rfl
  refine AWp.skip ?_
  refine AWp.seq ?_
  obtain ⟨hg,h⟩:=of_guard h
  refine AWp.start [0,1,2,3] [4,5,6] [(v1.length:Int) = (v1.length:Int),(0:Int) ≤ (v1.length:Int),(8:Int) * (v1.length:Int) ≤ 281474976710656,(v1.length:Int) ≤ 9223372036854775807] [0,1,2,33,36] 0 ⟨[(0,q0 v1),(1,.tv (fzL 1 (cSl 2 c37) v2)),(2,.tv (fzL 1 (cSl 1 cStr) v3)),(33,q0 v1),(36,.tv (.own 1 3 (Int.toNat (v1.length:Int)) (zerosF [.int .i64 (0:Int)])))],[]⟩ rfl ?_ z0 ⟨rfl,(Int.natCast_nonneg (v1.length)),hg.1,hg.2⟩ ?_
  ·kernel_rfl
  refine AOps.extL 36 (cInt .i64) (List.replicate (Int.toNat (v1.length:Int)) (0:Int)) rfl (by simp) (zero_at (cInt .i64) _ (0:Int) rfl _) ?_
  refine AOps.cons (AOne.buildOwn (F:=(FF 152 0)) _ rfl rfl rfl 37 rfl rfl [(36,2,k2 (List.replicate (Int.toNat (v1.length:Int)) (0:Int)))] (by simp) (by intro p hp; simp only [List.mem_cons,List.not_mem_nil,or_false] at hp; rcases hp with rfl <;> exact ⟨by simp,rfl,fun h=>by cases h⟩) (fun U=>[k1 v1,nS,.sc (U 36)]) (fun U=>by kernel_rfl) (fun U p hp=>by simp only [List.mem_cons,List.not_mem_nil,or_false] at hp; rcases hp with rfl <;> rfl) [0,1,2,33,37] 0 z0 (σ':=⟨[(0,q0 v1),(1,.tv (fzL 1 (cSl 2 c37) v2)),(2,.tv (fzL 1 (cSl 1 cStr) v3)),(33,q0 v1),(37,.agg [k1 v1,nS,k2 (List.replicate (Int.toNat (v1.length:Int)) (0:Int))])],[]⟩) (fun U=>by kernel_rfl)) ?_
  refine AOps.cons (AOne.own (F:=(FF 152 0)) _ rfl rfl rfl rfl) ?_
  refine AOps.go [6] [] [] [0,1,2,11] 1 ⟨[(0,q0 v1),(1,.tv (fzL 1 (cSl 2 c37) v2)),(2,.tv (fzL 1 (cSl 1 cStr) v3)),(11,.pc 0 0)],[.cells 69 [k1 v1,nS,k2 (List.replicate (Int.toNat (v1.length:Int)) (0:Int))]]⟩ ?_ z0 trivial ?_
  ·kernel_rfl
  refine AOps.nil ?_
  refine AWp.seq ?_
  refine AWp.seq ?_
  refine AWp.start [0,1,2] [] [] [0,1,2,11,40,41] 1 ⟨[(0,q0 v1),(1,.tv (fzL 1 (cSl 2 c37) v2)),(2,.tv (fzL 1 (cSl 1 cStr) v3)),(11,.pc 0 0),(40,tI (v1.length:Int)),(41,tI (0:Int))],[.cells 69 [k1 v1,nS,k2 (List.replicate (Int.toNat (v1.length:Int)) (0:Int))]]⟩ rfl ?_ z0 trivial ?_
  ·kernel_rfl
  refine AOps.nil ?_
  refine AWp.block ?_
  refine AWp.retell 0 1 rfl (.nilOwn 1 3 (fun i=>(cInt .i64) (([]:List Int).getD i default))) ?_
  refine AWp.keepTo [0,1,2,11,40,41] 1 ⟨[(0,q0 v1),(1,.tv (fzL 1 (cSl 2 c37) v2)),(2,.tv (fzL 1 (cSl 1 cStr) v3)),(11,.pc 0 0),(40,tI (v1.length:Int)),(41,tI (0:Int))],[.cells 69 [k1 v1,k2 ([]:List Int),k2 (List.replicate (Int.toNat (v1.length:Int)) (0:Int))]]⟩ ?_ z0 ?_
  ·kernel_rfl
  obtain ⟨y,hy,h⟩:=of_bind h
  refine AWp.mono (AWp.loop (S:=Int × (List Int)) (Y:=Out ((Option T68) × (List UInt8) × Int) (List Int)) (fun s=>⟨[(0,q0 v1),(1,.tv (fzL 1 (cSl 2 c37) v2)),(2,.tv (fzL 1 (cSl 1 cStr) v3)),(11,.pc 0 0),(40,tI (v1.length:Int)),(41,tI s.1)],[.cells 69 [k1 v1,k2 s.2,k2 (List.replicate (Int.toNat (v1.length:Int)) (0:Int))]]⟩) (fun s=>f18_b1 v1 s.1 s.2) (fun y e σ=>match y with | .ret r=>e = .ret ∧ σ = ⟨[(6,(match r.1 with | none=>.tv (.sc (.pointer none)) | some _=>.pc 0 0)),(7,tS r.2.1),(8,tI r.2.2)],([] ++ (match r.1 with | none=>[] | some u=>[.cells 69 [k1 u.f0,k2 u.f1,k2 u.f2]]))⟩ | .go v=>e = .exit 0 ∧ σ = ⟨[(0,q0 v1),(1,.tv (fzL 1 (cSl 2 c37) v2)),(2,.tv (fzL 1 (cSl 1 cStr) v3)),(11,.pc 0 0)],[.cells 69 [k1 v1,k2 v,k2 (List.replicate (Int.toNat (v1.length:Int)) (0:Int))]]⟩) ?_ hy) ?_
  ·rintro ⟨v5,v6⟩ o h
   refine AWp.seq ?_
   refine AWp.start [0] [] [] [0,1,2,11,40,41,42] 1 ⟨[(0,q0 v1),(1,.tv (fzL 1 (cSl 2 c37) v2)),(2,.tv (fzL 1 (cSl 1 cStr) v3)),(11,.pc 0 0),(40,tI (v1.length:Int)),(41,tI v5),(42,tB (decide (v5 < (v1.length:Int))))],hp21 v1 v6⟩ rfl ?_ z0 trivial ?_
   ·kernel_rfl
   refine AOps.nil ?_
   refine AWp.seq ?_
   refine AWp.cond rfl (fun hb=>?_) fun hb=>?_
   ·replace h:=of_true h hb
    refine AWp.keepTo [0,1,2,11,40,41] 1 ⟨[(0,q0 v1),(1,.tv (fzL 1 (cSl 2 c37) v2)),(2,.tv (fzL 1 (cSl 1 cStr) v3)),(11,.pc 0 0),(40,tI (v1.length:Int)),(41,tI v5)],hp21 v1 v6⟩ ?_ z0 ?_
    ·kernel_rfl
    refine AWp.skip ?_
    refine AWp.seq ?_
    refine AWp.block ?_
    refine AWp.seq ?_
    refine AWp.start [0,1] [] [] [0,1,2,11,12,40,41] 1 ⟨[(0,q0 v1),(1,.tv (fzL 1 (cSl 2 c37) v2)),(2,.tv (fzL 1 (cSl 1 cStr) v3)),(11,.pc 0 0),(12,tI v5),(40,tI (v1.length:Int)),(41,tI v5)],hp21 v1 v6⟩ rfl ?_ z0 trivial ?_
    ·kernel_rfl
    refine AOps.nil ?_
    refine AWp.start [0,1,2,3,4,5,6] [7,8,9,10] [] [0,1,2,11,40,41,44,48,50] 1 ⟨[(0,q0 v1),(1,.tv (fzL 1 (cSl 2 c37) v2)),(2,.tv (fzL 1 (cSl 1 cStr) v3)),(11,.pc 0 0),(40,tI (v1.length:Int)),(41,tI v5),(44,.pc 0 0),(48,.al (.cell 0 1,[])),(50,.tv (.own 1 3 1 (newRowF [.int .i64 v5] 1)))],hp21 v1 v6⟩ rfl ?_ z0 trivial ?_
    ·kernel_rfl
    refine AOps.extL 50 (cInt .i64) [v5] rfl rfl (row_at (cInt .i64) 1 (fun _=>rfl) [v5] _ rfl) ?_
    obtain ⟨hg,h⟩:=of_guard h
    refine AOps.go [7] [8,9,10] [(v6.length + [v5].length) * 8 ≤ 140737488355328,PlainTo v6.length (fun i=>(cInt .i64) (v6.getD i default)),PlainTo ([v5].length) (fun i=>(cInt .i64) ([v5].getD i default))] [0,1,2,11,40,41,44,51] 1 ⟨[(0,q0 v1),(1,.tv (fzL 1 (cSl 2 c37) v2)),(2,.tv (fzL 1 (cSl 1 cStr) v3)),(11,.pc 0 0),(40,tI (v1.length:Int)),(41,tI v5),(44,.pc 0 0),(51,.tv (.own 1 3 (v6.length + [v5].length) (appF v6.length (fun i=>(cInt .i64) (v6.getD i default)) (fun i=>(cInt .i64) ([v5].getD i default)))))],[.cells 69 [k1 v1,.hole,k2 (List.replicate (Int.toNat (v1.length:Int)) (0:Int))]]⟩ ?_ z0 ⟨hg,(fun _ _=>rfl),(fun _ _=>rfl)⟩ ?_
    ·kernel_rfl
    refine AOps.extL 51 (cInt .i64) (v6 ++ [v5]) rfl List.length_append.symm (app_at (cInt .i64) v6 [v5]) ?_
    refine AOps.go [8,9] [10] [] [0,1,2,11,40,41,51,53] 1 ⟨[(0,q0 v1),(1,.tv (fzL 1 (cSl 2 c37) v2)),(2,.tv (fzL 1 (cSl 1 cStr) v3)),(11,.pc 0 0),(40,tI (v1.length:Int)),(41,tI v5),(51,q2 (v6 ++ [v5])),(53,.pc 0 1)],[.cells 69 [k1 v1,.hole,k2 (List.replicate (Int.toNat (v1.length:Int)) (0:Int))]]⟩ ?_ z0 trivial ?_
    ·kernel_rfl
    refine AOps.cons (AOne.own (F:=(FF 152 0)) _ rfl rfl rfl rfl) ?_
    refine AOps.keepTo [0,1,2,11,40,41] 1 ⟨[(0,q0 v1),(1,.tv (fzL 1 (cSl 2 c37) v2)),(2,.tv (fzL 1 (cSl 1 cStr) v3)),(11,.pc 0 0),(40,tI (v1.length:Int)),(41,tI v5)],[.cells 69 [k1 v1,k2 (v6 ++ [v5]),k2 (List.replicate (Int.toNat (v1.length:Int)) (0:Int))]]⟩ ?_ z0 ?_
    ·kernel_rfl
    refine AOps.nil ?_
    refine AWp.start [0,1] [] [] [0,1,2,11,40,41] 1 ⟨[(0,q0 v1),(1,.tv (fzL 1 (cSl 2 c37) v2)),(2,.tv (fzL 1 (cSl 1 cStr) v3)),(11,.pc 0 0),(40,tI (v1.length:Int)),(41,tI (w64 (v5 + (1:Int))))],[.cells 69 [k1 v1,k2 (v6 ++ [v5]),k2 (List.replicate (Int.toNat (v1.length:Int)) (0:Int))]]⟩ rfl ?_ z0 trivial ?_
    ·kernel_rfl
    refine AOps.nil ?_
    cases h
    exact Or.inl ⟨_,rfl,rfl,rfl⟩
   ·replace h:=of_false h hb
    refine AWp.keepTo [0,1,2,11] 1 ⟨[(0,q0 v1),(1,.tv (fzL 1 (cSl 2 c37) v2)),(2,.tv (fzL 1 (cSl 1 cStr) v3)),(11,.pc 0 0)],hp21 v1 v6⟩ ?_ z0 ?_
    ·kernel_rfl
    refine AWp.exit ?_
    cases h
    exact Or.inr ⟨_,rfl,by simp,rfl,rfl⟩
  ·intro e σ hp
   rcases y with v8 | v7
   ·obtain ⟨rfl,rfl⟩:=hp
    cases h
    exact ⟨.inr rfl,rfl⟩
   ·obtain ⟨rfl,rfl⟩:=hp
    refine AWp.seq ?_
    refine AWp.seq ?_
    refine AWp.start [0,1,2] [] [] [0,1,2,11,55,56,57] 1 ⟨[(0,q0 v1),(1,.tv (fzL 1 (cSl 2 c37) v2)),(2,.tv (fzL 1 (cSl 1 cStr) v3)),(11,.pc 0 0),(55,.tv (fzL 1 (cSl 1 cStr) v3)),(56,tI (v3.length:Int)),(57,tI (0:Int))],[.cells 69 [k1 v1,k2 v7,k2 (List.replicate (Int.toNat (v1.length:Int)) (0:Int))]]⟩ rfl ?_ z0 trivial ?_
    ·kernel_rfl
    refine AOps.nil ?_
    refine AWp.block ?_
    obtain ⟨y,hy,h⟩:=of_bind h
    refine AWp.mono (AWp.loop (S:=Int × (List T25) × (List Int) × (List Int)) (Y:=Out ((Option T68) × (List UInt8) × Int) ((List T25) × (List Int) × (List Int))) (fun s=>⟨[(0,q0 v1),(1,.tv (fzL 1 (cSl 2 c37) v2)),(2,.tv (fzL 1 (cSl 1 cStr) v3)),(11,.pc 0 0),(55,.tv (fzL 1 (cSl 1 cStr) v3)),(56,tI (v3.length:Int)),(57,tI s.1)],[.cells 69 [k1 s.2.1,k2 s.2.2.1,k2 s.2.2.2]]⟩) (fun s=>f18_b3 v1 v3 s.1 s.2.1 s.2.2.1 s.2.2.2) (fun y e σ=>match y with | .ret r=>e = .ret ∧ σ = ⟨[(6,(match r.1 with | none=>.tv (.sc (.pointer none)) | some _=>.pc 0 0)),(7,tS r.2.1),(8,tI r.2.2)],([] ++ (match r.1 with | none=>[] | some u=>[.cells 69 [k1 u.f0,k2 u.f1,k2 u.f2]]))⟩ | .go v=>e = .exit 2 ∧ σ = ⟨[(0,q0 v1),(1,.tv (fzL 1 (cSl 2 c37) v2)),(2,.tv (fzL 1 (cSl 1 cStr) v3)),(11,.pc 0 0)],[.cells 69 [k1 v.1,k2 v.2.1,k2 v.2.2]]⟩) ?_ hy) ?_
    ·rintro ⟨v9,v10,v11,v12⟩ o h
     refine AWp.seq ?_
     refine AWp.start [0] [] [] [0,1,2,11,55,56,57,58] 1 ⟨[(0,q0 v1),(1,.tv (fzL 1 (cSl 2 c37) v2)),(2,.tv (fzL 1 (cSl 1 cStr) v3)),(11,.pc 0 0),(55,.tv (fzL 1 (cSl 1 cStr) v3)),(56,tI (v3.length:Int)),(57,tI v9),(58,tB (decide (v9 < (v3.length:Int))))],[.cells 69 [k1 v10,k2 v11,k2 v12]]⟩ rfl ?_ z0 trivial ?_
     ·kernel_rfl
     refine AOps.nil ?_
     refine AWp.seq ?_
     refine AWp.cond rfl (fun hb=>?_) fun hb=>?_
     ·replace h:=of_true h hb
      refine AWp.keepTo [0,1,2,11,55,56,57] 1 ⟨[(0,q0 v1),(1,.tv (fzL 1 (cSl 2 c37) v2)),(2,.tv (fzL 1 (cSl 1 cStr) v3)),(11,.pc 0 0),(55,.tv (fzL 1 (cSl 1 cStr) v3)),(56,tI (v3.length:Int)),(57,tI v9)],[.cells 69 [k1 v10,k2 v11,k2 v12]]⟩ ?_ z0 ?_
      ·kernel_rfl
      refine AWp.skip ?_
      refine AWp.seq ?_
      refine AWp.block ?_
      refine AWp.seq ?_
      obtain ⟨hg,h⟩:=of_guard h
      refine AWp.start [0,1,2] [] [(0:Int) ≤ v9,v9 < (v3.length:Int)] [0,1,2,11,14,55,56,57] 1 ⟨[(0,q0 v1),(1,.tv (fzL 1 (cSl 2 c37) v2)),(2,.tv (fzL 1 (cSl 1 cStr) v3)),(11,.pc 0 0),(14,q4 (gD v3 v9)),(55,.tv (fzL 1 (cSl 1 cStr) v3)),(56,tI (v3.length:Int)),(57,tI v9)],[.cells 69 [k1 v10,k2 v11,k2 v12]]⟩ rfl ?_ z0 ⟨hg.1,hg.2⟩ ?_
      ·kernel_rfl
      refine AOps.nil ?_
      refine AWp.seq ?_
      refine AWp.start [0] [] [] [0,1,2,11,14,15,55,56,57] 1 ⟨[(0,q0 v1),(1,.tv (fzL 1 (cSl 2 c37) v2)),(2,.tv (fzL 1 (cSl 1 cStr) v3)),(11,.pc 0 0),(14,q4 (gD v3 v9)),(15,tI (1:Int)),(55,.tv (fzL 1 (cSl 1 cStr) v3)),(56,tI (v3.length:Int)),(57,tI v9)],[.cells 69 [k1 v10,k2 v11,k2 v12]]⟩ rfl ?_ z0 trivial ?_
      ·kernel_rfl
      refine AOps.nil ?_
      refine AWp.block ?_
      obtain ⟨y,hy,h⟩:=of_bind h
      refine AWp.mono (AWp.loop (S:=Int × (List T25) × (List Int) × (List Int)) (Y:=Out ((Option T68) × (List UInt8) × Int) ((List T25) × (List Int) × (List Int))) (fun s=>⟨[(0,q0 v1),(1,.tv (fzL 1 (cSl 2 c37) v2)),(2,.tv (fzL 1 (cSl 1 cStr) v3)),(11,.pc 0 0),(14,q4 (gD v3 v9)),(15,tI s.1),(55,.tv (fzL 1 (cSl 1 cStr) v3)),(56,tI (v3.length:Int)),(57,tI v9)],[.cells 69 [k1 s.2.1,k2 s.2.2.1,k2 s.2.2.2]]⟩) (fun s=>f18_b2 v1 v3 v9 s.1 s.2.1 s.2.2.1 s.2.2.2) (fun y e σ=>match y with | .ret r=>e = .ret ∧ σ = ⟨[(6,(match r.1 with | none=>.tv (.sc (.pointer none)) | some _=>.pc 0 0)),(7,tS r.2.1),(8,tI r.2.2)],([] ++ (match r.1 with | none=>[] | some u=>[.cells 69 [k1 u.f0,k2 u.f1,k2 u.f2]]))⟩ | .go v=>e = .exit 4 ∧ σ = ⟨[(0,q0 v1),(1,.tv (fzL 1 (cSl 2 c37) v2)),(2,.tv (fzL 1 (cSl 1 cStr) v3)),(11,.pc 0 0),(55,.tv (fzL 1 (cSl 1 cStr) v3)),(56,tI (v3.length:Int)),(57,tI v9)],[.cells 69 [k1 v.1,k2 v.2.1,k2 v.2.2]]⟩) ?_ hy) ?_
      ·rintro ⟨v16,v17,v18,v19⟩ o h
       refine AWp.seq ?_
       refine AWp.seq ?_
       refine AWp.start [0,1,2,3] [] [] [0,1,2,11,14,15,55,56,57,64] 1 ⟨[(0,q0 v1),(1,.tv (fzL 1 (cSl 2 c37) v2)),(2,.tv (fzL 1 (cSl 1 cStr) v3)),(11,.pc 0 0),(14,q4 (gD v3 v9)),(15,tI v16),(55,.tv (fzL 1 (cSl 1 cStr) v3)),(56,tI (v3.length:Int)),(57,tI v9),(64,tB (decide (v16 < ((gD v3 v9).length:Int))))],[.cells 69 [k1 v17,k2 v18,k2 v19]]⟩ rfl ?_ z0 trivial ?_
       ·kernel_rfl
       refine AOps.nil ?_
       refine AWp.cond rfl (fun hb=>?_) fun hb=>?_
       ·replace h:=of_true h hb
        refine AWp.keepTo [0,1,2,11,14,15,55,56,57] 1 ⟨[(0,q0 v1),(1,.tv (fzL 1 (cSl 2 c37) v2)),(2,.tv (fzL 1 (cSl 1 cStr) v3)),(11,.pc 0 0),(14,q4 (gD v3 v9)),(15,tI v16),(55,.tv (fzL 1 (cSl 1 cStr) v3)),(56,tI (v3.length:Int)),(57,tI v9)],[.cells 69 [k1 v17,k2 v18,k2 v19]]⟩ ?_ z0 ?_
        ·kernel_rfl
        refine AWp.skip ?_
        refine AWp.seq ?_
        refine AWp.block ?_
        refine AWp.seq ?_
        obtain ⟨hg,h⟩:=of_guard h
        refine AWp.start [0,1,2,3,4,5] [6,7] [(0:Int) ≤ w64 (v16 - (1:Int)),w64 (v16 - (1:Int)) < ((gD v3 v9).length:Int)] [0,1,2,11,14,15,55,56,57,67,72] 1 ⟨[(0,q0 v1),(1,.tv (fzL 1 (cSl 2 c37) v2)),(2,.tv (fzL 1 (cSl 1 cStr) v3)),(11,.pc 0 0),(14,q4 (gD v3 v9)),(15,tI v16),(55,.tv (fzL 1 (cSl 1 cStr) v3)),(56,tI (v3.length:Int)),(57,tI v9),(67,q0 v1),(72,tS ((gD v3 v9).getD (Int.toNat (w64 (v16 - (1:Int)))) default))],[.cells 69 [k1 v17,k2 v18,k2 v19]]⟩ rfl ?_ z0 ⟨hg.1,hg.2⟩ ?_
        ·kernel_rfl
        obtain ⟨v23,hv23,h⟩:=of_bind h
        refine AOps.cons (AOne.callP (F:=(FF 152 0)) _ rfl rfl rfl _ rfl rfl _ _ rfl Tryz.call44 [q0 v1,tS ((gD v3 v9).getD (Int.toNat (w64 (v16 - (1:Int)))) default)] rfl rfl (f44_ok v1 ((gD v3 v9).getD (Int.toNat (w64 (v16 - (1:Int)))) default) hv23) rfl) ?_
        refine AOps.go [7] [] [] [0,1,2,11,14,15,16,55,56,57] 1 ⟨[(0,q0 v1),(1,.tv (fzL 1 (cSl 2 c37) v2)),(2,.tv (fzL 1 (cSl 1 cStr) v3)),(11,.pc 0 0),(14,q4 (gD v3 v9)),(15,tI v16),(16,tI v23),(55,.tv (fzL 1 (cSl 1 cStr) v3)),(56,tI (v3.length:Int)),(57,tI v9)],[.cells 69 [k1 v17,k2 v18,k2 v19]]⟩ ?_ z0 trivial ?_
        ·kernel_rfl
        refine AOps.nil ?_
        refine AWp.draw FFm _ (n:=14) rfl (ls:=#[n1,n1,n1,n1,n1,n1,n1,n1,n1,n1,n1,n1,n1,n1]) rfl ?_ (fun _ h=>h)
        obtain ⟨hg,h⟩:=of_guard h
        refine AAny.go (by kernel_rfl) [0,1,2,3,4,5,7,8,9,10,11] (fuel':=3) rfl [(0:Int) ≤ v23,v23 < (v1.length:Int),(0:Int) ≤ v16,v16 < ((gD v3 v9).length:Int)] #[y1,y1,y1,y1,y1,y1,n1,y1,y1,y1,y1,y1,n1,n1] [0,1,2,11,14,15,55,56,57,74,75,79,81,85] 1 ⟨[(0,q0 v1),(1,.tv (fzL 1 (cSl 2 c37) v2)),(2,.tv (fzL 1 (cSl 1 cStr) v3)),(11,.pc 0 0),(14,q4 (gD v3 v9)),(15,tI v16),(55,.tv (fzL 1 (cSl 1 cStr) v3)),(56,tI (v3.length:Int)),(57,tI v9),(74,.pc 0 0),(75,tI v23),(79,.agg (c25 (gD v1 v23))),(81,q0 v1),(85,tS (gD (gD v3 v9) v16))],[.cells 69 [k1 v17,k2 v18,k2 v19]]⟩ ?_ z0 ⟨hg.1,hg.2.1,hg.2.2.1,hg.2.2.2⟩ ?_
        ·kernel_rfl
        obtain ⟨v24,hv24,h⟩:=of_bind h
        refine AAny.serial (i:=6) (fuel:=2) (by kernel_rfl) (AOne.callP (F:=(FF 152 0)) _ rfl rfl rfl _ rfl rfl _ _ rfl Tryz.call19 [.agg (c25 (gD v1 v23))] rfl rfl (f19_ok (gD v1 v23) hv24) rfl) ?_
        refine AAny.keepTo [0,1,2,11,14,15,55,56,57,74,75,80,81,85] 1 ⟨[(0,q0 v1),(1,.tv (fzL 1 (cSl 2 c37) v2)),(2,.tv (fzL 1 (cSl 1 cStr) v3)),(11,.pc 0 0),(14,q4 (gD v3 v9)),(15,tI v16),(55,.tv (fzL 1 (cSl 1 cStr) v3)),(56,tI (v3.length:Int)),(57,tI v9),(74,.pc 0 0),(75,tI v23),(80,tI v24),(81,q0 v1),(85,tS (gD (gD v3 v9) v16))],[.cells 69 [k1 v17,k2 v18,k2 v19]]⟩ #[y1,y1,y1,y1,y1,y1,y1,y1,y1,y1,y1,y1,n1,n1] ?_ rfl z0 ?_
        ·kernel_rfl
        obtain ⟨v25,hv25,h⟩:=of_bind h
        refine AAny.serial (i:=12) (fuel:=1) (by kernel_rfl) (AOne.callP (F:=(FF 152 0)) _ rfl rfl rfl _ rfl rfl _ _ rfl Tryz.call44 [q0 v1,tS (gD (gD v3 v9) v16)] rfl rfl (f44_ok v1 (gD (gD v3 v9) v16) hv25) rfl) ?_
        refine AAny.keepTo [0,1,2,11,14,15,55,56,57,74,75,80,86] 1 ⟨[(0,q0 v1),(1,.tv (fzL 1 (cSl 2 c37) v2)),(2,.tv (fzL 1 (cSl 1 cStr) v3)),(11,.pc 0 0),(14,q4 (gD v3 v9)),(15,tI v16),(55,.tv (fzL 1 (cSl 1 cStr) v3)),(56,tI (v3.length:Int)),(57,tI v9),(74,.pc 0 0),(75,tI v23),(80,tI v24),(86,tI v25)],[.cells 69 [k1 v17,k2 v18,k2 v19]]⟩ #[y1,y1,y1,y1,y1,y1,y1,y1,y1,y1,y1,y1,y1,n1] ?_ rfl z0 ?_
        ·kernel_rfl
        obtain ⟨v26,hv26,h⟩:=of_bind h
        refine AAny.serial (i:=13) (fuel:=0) (by kernel_rfl) (AOne.callO (F:=(FF 152 0)) _ rfl rfl rfl 87 rfl rfl 45 [] rfl Tryz.call45 [0] (by decide) [.pc 0 0,tI v23,tI v24,tI v25,tI (0:Int)] (by kernel_rfl) [.cells 69 [k1 v17,k2 v18,k2 v19]] (by kernel_rfl) (f45o_ok v23 v24 v25 (0:Int) (T68.mk v17 v18 v19) hv26) (by kernel_rfl) (by kernel_rfl) _ rfl) ?_
        refine AAny.keepTo [0,1,2,11,14,15,55,56,57] 1 ⟨[(0,q0 v1),(1,.tv (fzL 1 (cSl 2 c37) v2)),(2,.tv (fzL 1 (cSl 1 cStr) v3)),(11,.pc 0 0),(14,q4 (gD v3 v9)),(15,tI v16),(55,.tv (fzL 1 (cSl 1 cStr) v3)),(56,tI (v3.length:Int)),(57,tI v9)],[.cells 69 [k1 v26.2.f0,k2 v26.2.f1,k2 v26.2.f2]]⟩ #[y1,y1,y1,y1,y1,y1,y1,y1,y1,y1,y1,y1,y1,y1] ?_ rfl z0 ?_
        ·kernel_rfl
        refine AAny.keepTo [0,1,2,11,14,15,55,56,57] 1 ⟨[(0,q0 v1),(1,.tv (fzL 1 (cSl 2 c37) v2)),(2,.tv (fzL 1 (cSl 1 cStr) v3)),(11,.pc 0 0),(14,q4 (gD v3 v9)),(15,tI v16),(55,.tv (fzL 1 (cSl 1 cStr) v3)),(56,tI (v3.length:Int)),(57,tI v9)],[.cells 69 [k1 v26.2.f0,k2 v26.2.f1,k2 v26.2.f2]]⟩ _ ?_ rfl z0 (AAny.done (by kernel_rfl) ?_)
        ·kernel_rfl
        refine AWp.start [0,1,2] [] [] [0,1,2,11,14,15,55,56,57] 1 ⟨[(0,q0 v1),(1,.tv (fzL 1 (cSl 2 c37) v2)),(2,.tv (fzL 1 (cSl 1 cStr) v3)),(11,.pc 0 0),(14,q4 (gD v3 v9)),(15,tI (w64 (v16 + (1:Int)))),(55,.tv (fzL 1 (cSl 1 cStr) v3)),(56,tI (v3.length:Int)),(57,tI v9)],[.cells 69 [k1 v26.2.f0,k2 v26.2.f1,k2 v26.2.f2]]⟩ rfl ?_ z0 trivial ?_
        ·kernel_rfl
        refine AOps.nil ?_
        cases h
        exact Or.inl ⟨_,rfl,rfl,rfl⟩
       ·replace h:=of_false h hb
        refine AWp.keepTo [0,1,2,11,55,56,57] 1 ⟨[(0,q0 v1),(1,.tv (fzL 1 (cSl 2 c37) v2)),(2,.tv (fzL 1 (cSl 1 cStr) v3)),(11,.pc 0 0),(55,.tv (fzL 1 (cSl 1 cStr) v3)),(56,tI (v3.length:Int)),(57,tI v9)],[.cells 69 [k1 v17,k2 v18,k2 v19]]⟩ ?_ z0 ?_
        ·kernel_rfl
        refine AWp.exit ?_
        cases h
        exact Or.inr ⟨_,rfl,by simp,rfl,rfl⟩
      ·intro e σ hp
       rcases y with v27 | ⟨v20,v21,v22⟩
       ·obtain ⟨rfl,rfl⟩:=hp
        cases h
        exact Or.inr ⟨_,rfl,by simp,rfl,rfl⟩
       ·obtain ⟨rfl,rfl⟩:=hp
        refine AWp.start [0,1] [] [] [0,1,2,11,55,56,57] 1 ⟨[(0,q0 v1),(1,.tv (fzL 1 (cSl 2 c37) v2)),(2,.tv (fzL 1 (cSl 1 cStr) v3)),(11,.pc 0 0),(55,.tv (fzL 1 (cSl 1 cStr) v3)),(56,tI (v3.length:Int)),(57,tI (w64 (v9 + (1:Int))))],[.cells 69 [k1 v20,k2 v21,k2 v22]]⟩ rfl ?_ z0 trivial ?_
        ·kernel_rfl
        refine AOps.nil ?_
        cases h
        exact Or.inl ⟨_,rfl,rfl,rfl⟩
     ·replace h:=of_false h hb
      refine AWp.keepTo [0,1,2,11] 1 ⟨[(0,q0 v1),(1,.tv (fzL 1 (cSl 2 c37) v2)),(2,.tv (fzL 1 (cSl 1 cStr) v3)),(11,.pc 0 0)],[.cells 69 [k1 v10,k2 v11,k2 v12]]⟩ ?_ z0 ?_
      ·kernel_rfl
      refine AWp.exit ?_
      cases h
      exact Or.inr ⟨_,rfl,by simp,rfl,rfl⟩
    ·intro e σ hp
     rcases y with v28 | ⟨v13,v14,v15⟩
     ·obtain ⟨rfl,rfl⟩:=hp
      cases h
      exact ⟨.inr rfl,rfl⟩
     ·obtain ⟨rfl,rfl⟩:=hp
      refine AWp.seq ?_
      refine AWp.seq ?_
      refine AWp.start [0,1,2] [] [] [0,2,11,89,90,91] 1 ⟨[(0,q0 v1),(2,.tv (fzL 1 (cSl 1 cStr) v3)),(11,.pc 0 0),(89,.tv (fzL 1 (cSl 2 c37) v2)),(90,tI (v2.length:Int)),(91,tI (0:Int))],[.cells 69 [k1 v13,k2 v14,k2 v15]]⟩ rfl ?_ z0 trivial ?_
      ·kernel_rfl
      refine AOps.nil ?_
      refine AWp.block ?_
      obtain ⟨y,hy,h⟩:=of_bind h
      refine AWp.mono (AWp.loop (S:=Int × (List T25) × (List Int) × (List Int)) (Y:=Out ((Option T68) × (List UInt8) × Int) ((List T25) × (List Int) × (List Int))) (fun s=>⟨[(0,q0 v1),(2,.tv (fzL 1 (cSl 1 cStr) v3)),(11,.pc 0 0),(89,.tv (fzL 1 (cSl 2 c37) v2)),(90,tI (v2.length:Int)),(91,tI s.1)],[.cells 69 [k1 s.2.1,k2 s.2.2.1,k2 s.2.2.2]]⟩) (fun s=>f18_b5 v1 v2 s.1 s.2.1 s.2.2.1 s.2.2.2) (fun y e σ=>match y with | .ret r=>e = .ret ∧ σ = ⟨[(6,(match r.1 with | none=>.tv (.sc (.pointer none)) | some _=>.pc 0 0)),(7,tS r.2.1),(8,tI r.2.2)],([] ++ (match r.1 with | none=>[] | some u=>[.cells 69 [k1 u.f0,k2 u.f1,k2 u.f2]]))⟩ | .go v=>e = .exit 6 ∧ σ = ⟨[(2,.tv (fzL 1 (cSl 1 cStr) v3)),(11,.pc 0 0)],[.cells 69 [k1 v.1,k2 v.2.1,k2 v.2.2]]⟩) ?_ hy) ?_
      ·rintro ⟨v29,v30,v31,v32⟩ o h
       refine AWp.seq ?_
       refine AWp.start [0] [] [] [0,2,11,89,90,91,92] 1 ⟨[(0,q0 v1),(2,.tv (fzL 1 (cSl 1 cStr) v3)),(11,.pc 0 0),(89,.tv (fzL 1 (cSl 2 c37) v2)),(90,tI (v2.length:Int)),(91,tI v29),(92,tB (decide (v29 < (v2.length:Int))))],[.cells 69 [k1 v30,k2 v31,k2 v32]]⟩ rfl ?_ z0 trivial ?_
       ·kernel_rfl
       refine AOps.nil ?_
       refine AWp.seq ?_
       refine AWp.cond rfl (fun hb=>?_) fun hb=>?_
       ·replace h:=of_true h hb
        refine AWp.keepTo [0,2,11,89,90,91] 1 ⟨[(0,q0 v1),(2,.tv (fzL 1 (cSl 1 cStr) v3)),(11,.pc 0 0),(89,.tv (fzL 1 (cSl 2 c37) v2)),(90,tI (v2.length:Int)),(91,tI v29)],[.cells 69 [k1 v30,k2 v31,k2 v32]]⟩ ?_ z0 ?_
        ·kernel_rfl
        refine AWp.skip ?_
        refine AWp.seq ?_
        refine AWp.block ?_
        refine AWp.seq ?_
        obtain ⟨hg,h⟩:=of_guard h
        refine AWp.start [0,1,2] [] [(0:Int) ≤ v29,v29 < (v2.length:Int)] [0,2,11,18,89,90,91] 1 ⟨[(0,q0 v1),(2,.tv (fzL 1 (cSl 1 cStr) v3)),(11,.pc 0 0),(18,q5 (gD v2 v29)),(89,.tv (fzL 1 (cSl 2 c37) v2)),(90,tI (v2.length:Int)),(91,tI v29)],[.cells 69 [k1 v30,k2 v31,k2 v32]]⟩ rfl ?_ z0 ⟨hg.1,hg.2⟩ ?_
        ·kernel_rfl
        refine AOps.nil ?_
        refine AWp.seq ?_
        refine AWp.start [0] [] [] [0,2,11,18,19,89,90,91] 1 ⟨[(0,q0 v1),(2,.tv (fzL 1 (cSl 1 cStr) v3)),(11,.pc 0 0),(18,q5 (gD v2 v29)),(19,tI (1:Int)),(89,.tv (fzL 1 (cSl 2 c37) v2)),(90,tI (v2.length:Int)),(91,tI v29)],[.cells 69 [k1 v30,k2 v31,k2 v32]]⟩ rfl ?_ z0 trivial ?_
        ·kernel_rfl
        refine AOps.nil ?_
        refine AWp.block ?_
        obtain ⟨y,hy,h⟩:=of_bind h
        refine AWp.mono (AWp.loop (S:=Int × (List T25) × (List Int) × (List Int)) (Y:=Out ((Option T68) × (List UInt8) × Int) ((List T25) × (List Int) × (List Int))) (fun s=>⟨[(0,q0 v1),(2,.tv (fzL 1 (cSl 1 cStr) v3)),(11,.pc 0 0),(18,q5 (gD v2 v29)),(19,tI s.1),(89,.tv (fzL 1 (cSl 2 c37) v2)),(90,tI (v2.length:Int)),(91,tI v29)],[.cells 69 [k1 s.2.1,k2 s.2.2.1,k2 s.2.2.2]]⟩) (fun s=>f18_b4 v1 v2 v29 s.1 s.2.1 s.2.2.1 s.2.2.2) (fun y e σ=>match y with | .ret r=>e = .ret ∧ σ = ⟨[(6,(match r.1 with | none=>.tv (.sc (.pointer none)) | some _=>.pc 0 0)),(7,tS r.2.1),(8,tI r.2.2)],([] ++ (match r.1 with | none=>[] | some u=>[.cells 69 [k1 u.f0,k2 u.f1,k2 u.f2]]))⟩ | .go v=>e = .exit 8 ∧ σ = ⟨[(0,q0 v1),(2,.tv (fzL 1 (cSl 1 cStr) v3)),(11,.pc 0 0),(89,.tv (fzL 1 (cSl 2 c37) v2)),(90,tI (v2.length:Int)),(91,tI v29)],[.cells 69 [k1 v.1,k2 v.2.1,k2 v.2.2]]⟩) ?_ hy) ?_
        ·rintro ⟨v36,v37,v38,v39⟩ o h
         refine AWp.seq ?_
         refine AWp.seq ?_
         refine AWp.start [0,1,2,3] [] [] [0,2,11,18,19,89,90,91,98] 1 ⟨[(0,q0 v1),(2,.tv (fzL 1 (cSl 1 cStr) v3)),(11,.pc 0 0),(18,q5 (gD v2 v29)),(19,tI v36),(89,.tv (fzL 1 (cSl 2 c37) v2)),(90,tI (v2.length:Int)),(91,tI v29),(98,tB (decide (v36 < ((gD v2 v29).length:Int))))],[.cells 69 [k1 v37,k2 v38,k2 v39]]⟩ rfl ?_ z0 trivial ?_
         ·kernel_rfl
         refine AOps.nil ?_
         refine AWp.cond rfl (fun hb=>?_) fun hb=>?_
         ·replace h:=of_true h hb
          refine AWp.keepTo [0,2,11,18,19,89,90,91] 1 ⟨[(0,q0 v1),(2,.tv (fzL 1 (cSl 1 cStr) v3)),(11,.pc 0 0),(18,q5 (gD v2 v29)),(19,tI v36),(89,.tv (fzL 1 (cSl 2 c37) v2)),(90,tI (v2.length:Int)),(91,tI v29)],[.cells 69 [k1 v37,k2 v38,k2 v39]]⟩ ?_ z0 ?_
          ·kernel_rfl
          refine AWp.skip ?_
          refine AWp.seq ?_
          refine AWp.block ?_
          refine AWp.seq ?_
          refine AWp.draw FFm _ (n:=15) rfl (ls:=#[n1,n1,n1,n1,n1,n1,n1,n1,n1,n1,n1,n1,n1,n1,n1]) rfl ?_ (fun _ h=>h)
          obtain ⟨hg,h⟩:=of_guard h
          refine AAny.go (by kernel_rfl) [0,1,2,3,4,6,7,8,9,10,11] (fuel':=4) rfl [(0:Int) ≤ (0:Int),(0:Int) < ((gD v2 v29).length:Int),(0:Int) ≤ v36,v36 < ((gD v2 v29).length:Int)] #[y1,y1,y1,y1,y1,n1,y1,y1,y1,y1,y1,y1,n1,n1,n1] [0,2,11,18,19,89,90,91,101,105,107,112] 1 ⟨[(0,q0 v1),(2,.tv (fzL 1 (cSl 1 cStr) v3)),(11,.pc 0 0),(18,q5 (gD v2 v29)),(19,tI v36),(89,.tv (fzL 1 (cSl 2 c37) v2)),(90,tI (v2.length:Int)),(91,tI v29),(101,q0 v1),(105,tS (((gD v2 v29).getD 0 default).f0)),(107,q0 v1),(112,tS ((gD (gD v2 v29) v36).f0))],[.cells 69 [k1 v37,k2 v38,k2 v39]]⟩ ?_ z0 ⟨(by decide:(0:Int) ≤ (0:Int)),hg.1,hg.2.1,hg.2.2⟩ ?_
          ·kernel_rfl
          obtain ⟨v43,hv43,h⟩:=of_bind h
          refine AAny.serial (i:=5) (fuel:=3) (by kernel_rfl) (AOne.callP (F:=(FF 152 0)) _ rfl rfl rfl _ rfl rfl _ _ rfl Tryz.call44 [q0 v1,tS (((gD v2 v29).getD 0 default).f0)] rfl rfl (f44_ok v1 (((gD v2 v29).getD 0 default).f0) hv43) rfl) ?_
          refine AAny.keepTo [0,2,11,18,19,89,90,91,106,107,112] 1 ⟨[(0,q0 v1),(2,.tv (fzL 1 (cSl 1 cStr) v3)),(11,.pc 0 0),(18,q5 (gD v2 v29)),(19,tI v36),(89,.tv (fzL 1 (cSl 2 c37) v2)),(90,tI (v2.length:Int)),(91,tI v29),(106,tI v43),(107,q0 v1),(112,tS ((gD (gD v2 v29) v36).f0))],[.cells 69 [k1 v37,k2 v38,k2 v39]]⟩ #[y1,y1,y1,y1,y1,y1,y1,y1,y1,y1,y1,y1,n1,n1,n1] ?_ rfl z0 ?_
          ·kernel_rfl
          obtain ⟨v44,hv44,h⟩:=of_bind h
          refine AAny.serial (i:=12) (fuel:=2) (by kernel_rfl) (AOne.callP (F:=(FF 152 0)) _ rfl rfl rfl _ rfl rfl _ _ rfl Tryz.call44 [q0 v1,tS ((gD (gD v2 v29) v36).f0)] rfl rfl (f44_ok v1 ((gD (gD v2 v29) v36).f0) hv44) rfl) ?_
          refine AAny.keepTo [0,2,11,18,19,89,90,91,106,113] 1 ⟨[(0,q0 v1),(2,.tv (fzL 1 (cSl 1 cStr) v3)),(11,.pc 0 0),(18,q5 (gD v2 v29)),(19,tI v36),(89,.tv (fzL 1 (cSl 2 c37) v2)),(90,tI (v2.length:Int)),(91,tI v29),(106,tI v43),(113,tI v44)],[.cells 69 [k1 v37,k2 v38,k2 v39]]⟩ #[y1,y1,y1,y1,y1,y1,y1,y1,y1,y1,y1,y1,y1,n1,n1] ?_ rfl z0 ?_
          ·kernel_rfl
          refine AAny.go (by kernel_rfl) [13,14] (fuel':=0) rfl [] #[y1,y1,y1,y1,y1,y1,y1,y1,y1,y1,y1,y1,y1,y1,y1] [0,2,11,18,19,20,21,89,90,91] 1 ⟨[(0,q0 v1),(2,.tv (fzL 1 (cSl 1 cStr) v3)),(11,.pc 0 0),(18,q5 (gD v2 v29)),(19,tI v36),(20,tI v43),(21,tI v44),(89,.tv (fzL 1 (cSl 2 c37) v2)),(90,tI (v2.length:Int)),(91,tI v29)],[.cells 69 [k1 v37,k2 v38,k2 v39]]⟩ ?_ z0 trivial ?_
          ·kernel_rfl
          refine AAny.keepTo [0,2,11,18,19,20,21,89,90,91] 1 ⟨[(0,q0 v1),(2,.tv (fzL 1 (cSl 1 cStr) v3)),(11,.pc 0 0),(18,q5 (gD v2 v29)),(19,tI v36),(20,tI v43),(21,tI v44),(89,.tv (fzL 1 (cSl 2 c37) v2)),(90,tI (v2.length:Int)),(91,tI v29)],[.cells 69 [k1 v37,k2 v38,k2 v39]]⟩ _ ?_ rfl z0 (AAny.done (by kernel_rfl) ?_)
          ·kernel_rfl
          refine AWp.seq ?_
          refine AWp.draw FFm _ (n:=26) rfl (ls:=#[n1,n1,n1,n1,n1,n1,n1,n1,n1,n1,n1,n1,n1,n1,n1,n1,n1,n1,n1,n1,n1,n1,n1,n1,n1,n1]) rfl ?_ (fun _ h=>h)
          obtain ⟨hg,h⟩:=of_guard h
          refine AAny.go (by kernel_rfl) [0,1,2,3,4,5,6,7,8,9,10,11,12,13,14,15,16,17,18,19,20,21,22,23] (fuel':=2) rfl [(0:Int) ≤ (0:Int),(0:Int) < ((gD v2 v29).length:Int),(0:Int) ≤ v43,v43 < (v1.length:Int),(0:Int) ≤ v36,v36 < ((gD v2 v29).length:Int),(0:Int) ≤ v44,v44 < (v1.length:Int)] #[y1,y1,y1,y1,y1,y1,y1,y1,y1,y1,y1,y1,y1,y1,y1,y1,y1,y1,y1,y1,y1,y1,y1,y1,n1,n1] [0,2,11,18,19,89,90,91,114,115,125,126,137] 1 ⟨[(0,q0 v1),(2,.tv (fzL 1 (cSl 1 cStr) v3)),(11,.pc 0 0),(18,q5 (gD v2 v29)),(19,tI v36),(89,.tv (fzL 1 (cSl 2 c37) v2)),(90,tI (v2.length:Int)),(91,tI v29),(114,.pc 0 0),(115,tI v43),(125,tI (w64 ((((gD v2 v29).getD 0 default).f1) * ((gD v1 v43).f1)))),(126,tI v44),(137,tI (w64 (((gD (gD v2 v29) v36).f1) * ((gD v1 v44).f1))))],[.cells 69 [k1 v37,k2 v38,k2 v39]]⟩ ?_ z0 ⟨(by decide:(0:Int) ≤ (0:Int)),hg.1,hg.2.1,hg.2.2.1,hg.2.2.2.1,hg.2.2.2.2.1,hg.2.2.2.2.2.1,hg.2.2.2.2.2.2⟩ ?_
          ·kernel_rfl
          obtain ⟨v45,hv45,h⟩:=of_bind h
          refine AAny.serial (i:=24) (fuel:=1) (by kernel_rfl) (AOne.callO (F:=(FF 152 0)) _ rfl rfl rfl 138 rfl rfl 45 [] rfl Tryz.call45 [0] (by decide) [.pc 0 0,tI v43,tI (w64 ((((gD v2 v29).getD 0 default).f1) * ((gD v1 v43).f1))),tI v44,tI (w64 (((gD (gD v2 v29) v36).f1) * ((gD v1 v44).f1)))] (by kernel_rfl) [.cells 69 [k1 v37,k2 v38,k2 v39]] (by kernel_rfl) (f45o_ok v43 (w64 ((((gD v2 v29).getD 0 default).f1) * ((gD v1 v43).f1))) v44 (w64 (((gD (gD v2 v29) v36).f1) * ((gD v1 v44).f1))) (T68.mk v37 v38 v39) hv45) (by kernel_rfl) (by kernel_rfl) _ rfl) ?_
          refine AAny.keepTo [0,2,11,18,19,89,90,91,138] 1 ⟨[(0,q0 v1),(2,.tv (fzL 1 (cSl 1 cStr) v3)),(11,.pc 0 0),(18,q5 (gD v2 v29)),(19,tI v36),(89,.tv (fzL 1 (cSl 2 c37) v2)),(90,tI (v2.length:Int)),(91,tI v29),(138,tB v45.1)],[.cells 69 [k1 v45.2.f0,k2 v45.2.f1,k2 v45.2.f2]]⟩ #[y1,y1,y1,y1,y1,y1,y1,y1,y1,y1,y1,y1,y1,y1,y1,y1,y1,y1,y1,y1,y1,y1,y1,y1,y1,n1] ?_ rfl z0 ?_
          ·kernel_rfl
          refine AAny.go (by kernel_rfl) [25] (fuel':=0) rfl [] #[y1,y1,y1,y1,y1,y1,y1,y1,y1,y1,y1,y1,y1,y1,y1,y1,y1,y1,y1,y1,y1,y1,y1,y1,y1,y1] [0,2,11,18,19,89,90,91,139] 1 ⟨[(0,q0 v1),(2,.tv (fzL 1 (cSl 1 cStr) v3)),(11,.pc 0 0),(18,q5 (gD v2 v29)),(19,tI v36),(89,.tv (fzL 1 (cSl 2 c37) v2)),(90,tI (v2.length:Int)),(91,tI v29),(139,tB (!v45.1))],[.cells 69 [k1 v45.2.f0,k2 v45.2.f1,k2 v45.2.f2]]⟩ ?_ z0 trivial ?_
          ·kernel_rfl
          refine AAny.keepTo [0,2,11,18,19,89,90,91,139] 1 ⟨[(0,q0 v1),(2,.tv (fzL 1 (cSl 1 cStr) v3)),(11,.pc 0 0),(18,q5 (gD v2 v29)),(19,tI v36),(89,.tv (fzL 1 (cSl 2 c37) v2)),(90,tI (v2.length:Int)),(91,tI v29),(139,tB (!v45.1))],[.cells 69 [k1 v45.2.f0,k2 v45.2.f1,k2 v45.2.f2]]⟩ _ ?_ rfl z0 (AAny.done (by kernel_rfl) ?_)
          ·kernel_rfl
          refine AWp.cond rfl (fun hb=>?_) fun hb=>?_
          ·replace h:=of_true h hb
           refine AWp.keepTo [18,19] 0 ⟨[(18,q5 (gD v2 v29)),(19,tI v36)],[]⟩ ?_ z0 ?_
           ·kernel_rfl
           refine AWp.seq ?_
           refine AWp.draw FFm _ (n:=8) rfl (ls:=#[n1,n1,n1,n1,n1,n1,n1,n1]) rfl ?_ (fun _ h=>h)
           obtain ⟨hg,h⟩:=of_guard h
           refine AAny.go (by kernel_rfl) [0,1,2,3,4,5,6,7] (fuel':=0) rfl [(0:Int) ≤ v36,v36 < ((gD v2 v29).length:Int)] #[y1,y1,y1,y1,y1,y1,y1,y1] [6,7,8] 0 ⟨[(6,.tv (.sc (.pointer none))),(7,tS ((gD (gD v2 v29) v36).f0)),(8,tI (110:Int))],[]⟩ ?_ z0 ⟨hg.1,hg.2⟩ ?_
           ·kernel_rfl
           refine AAny.keepTo [6,7,8] 0 ⟨[(6,.tv (.sc (.pointer none))),(7,tS ((gD (gD v2 v29) v36).f0)),(8,tI (110:Int))],[]⟩ _ ?_ rfl z0 (AAny.done (by kernel_rfl) ?_)
           ·kernel_rfl
           refine AWp.ret ?_
           cases h
           exact Or.inr ⟨_,rfl,by simp,rfl,rfl⟩
          ·replace h:=of_false h hb
           refine AWp.keepTo [0,2,11,18,19,89,90,91] 1 ⟨[(0,q0 v1),(2,.tv (fzL 1 (cSl 1 cStr) v3)),(11,.pc 0 0),(18,q5 (gD v2 v29)),(19,tI v36),(89,.tv (fzL 1 (cSl 2 c37) v2)),(90,tI (v2.length:Int)),(91,tI v29)],[.cells 69 [k1 v45.2.f0,k2 v45.2.f1,k2 v45.2.f2]]⟩ ?_ z0 ?_
           ·kernel_rfl
           refine AWp.skip ?_
           refine AWp.start [0,1,2] [] [] [0,2,11,18,19,89,90,91] 1 ⟨[(0,q0 v1),(2,.tv (fzL 1 (cSl 1 cStr) v3)),(11,.pc 0 0),(18,q5 (gD v2 v29)),(19,tI (w64 (v36 + (1:Int)))),(89,.tv (fzL 1 (cSl 2 c37) v2)),(90,tI (v2.length:Int)),(91,tI v29)],[.cells 69 [k1 v45.2.f0,k2 v45.2.f1,k2 v45.2.f2]]⟩ rfl ?_ z0 trivial ?_
           ·kernel_rfl
           refine AOps.nil ?_
           cases h
           exact Or.inl ⟨_,rfl,rfl,rfl⟩
         ·replace h:=of_false h hb
          refine AWp.keepTo [0,2,11,89,90,91] 1 ⟨[(0,q0 v1),(2,.tv (fzL 1 (cSl 1 cStr) v3)),(11,.pc 0 0),(89,.tv (fzL 1 (cSl 2 c37) v2)),(90,tI (v2.length:Int)),(91,tI v29)],[.cells 69 [k1 v37,k2 v38,k2 v39]]⟩ ?_ z0 ?_
          ·kernel_rfl
          refine AWp.exit ?_
          cases h
          exact Or.inr ⟨_,rfl,by simp,rfl,rfl⟩
        ·intro e σ hp
         rcases y with v46 | ⟨v40,v41,v42⟩
         ·obtain ⟨rfl,rfl⟩:=hp
          cases h
          exact Or.inr ⟨_,rfl,by simp,rfl,rfl⟩
         ·obtain ⟨rfl,rfl⟩:=hp
          refine AWp.start [0,1] [] [] [0,2,11,89,90,91] 1 ⟨[(0,q0 v1),(2,.tv (fzL 1 (cSl 1 cStr) v3)),(11,.pc 0 0),(89,.tv (fzL 1 (cSl 2 c37) v2)),(90,tI (v2.length:Int)),(91,tI (w64 (v29 + (1:Int))))],[.cells 69 [k1 v40,k2 v41,k2 v42]]⟩ rfl ?_ z0 trivial ?_
          ·kernel_rfl
          refine AOps.nil ?_
          cases h
          exact Or.inl ⟨_,rfl,rfl,rfl⟩
       ·replace h:=of_false h hb
        refine AWp.keepTo [2,11] 1 ⟨[(2,.tv (fzL 1 (cSl 1 cStr) v3)),(11,.pc 0 0)],[.cells 69 [k1 v30,k2 v31,k2 v32]]⟩ ?_ z0 ?_
        ·kernel_rfl
        refine AWp.exit ?_
        cases h
        exact Or.inr ⟨_,rfl,by simp,rfl,rfl⟩
      ·intro e σ hp
       rcases y with v47 | ⟨v33,v34,v35⟩
       ·obtain ⟨rfl,rfl⟩:=hp
        cases h
        exact ⟨.inr rfl,rfl⟩
       ·obtain ⟨rfl,rfl⟩:=hp
        refine AWp.seq ?_
        refine AWp.start [0,1] [2,3,4,5,6,7,8] [] [146,147] 1 ⟨[(146,.pc 0 0),(147,.tv (fzL 1 (cSl 1 cStr) v3))],[.cells 69 [k1 v33,k2 v34,k2 v35]]⟩ rfl ?_ z0 trivial ?_
        ·kernel_rfl
        obtain ⟨v48,hv48,h⟩:=of_bind h
        rcases v48 with ⟨(_ | _),v50,v51,v52⟩
        ·replace h:(some (none,v50,v51)) = some r:=h
         refine AOps.cons (AOne.callO (F:=(FF 152 0)) _ rfl rfl rfl 148 rfl rfl 46 [] rfl Tryz.call46 [0] (by decide) [.pc 0 0,.tv (fzL 1 (cSl 1 cStr) v3)] (by kernel_rfl) [.cells 69 [k1 v33,k2 v34,k2 v35]] (by kernel_rfl) (f46o_ok v3 (T68.mk v33 v34 v35) hv48) (by kernel_rfl) (by kernel_rfl) _ rfl) ?_
         refine AOps.go [3,4,5,6,7,8] [] [] [6,7,8] 0 ⟨[(6,.tv (.sc (.pointer none))),(7,tS v50),(8,tI v51)],[]⟩ ?_ z0 trivial ?_
         ·kernel_rfl
         refine AOps.nil ?_
         refine AWp.ret ?_
         cases h
         exact ⟨.inr rfl,rfl⟩
        ·replace h:(some (some (T68.mk v52.f0 v52.f1 v52.f2),v50,v51)) = some r:=h
         refine AOps.cons (AOne.callO (F:=(FF 152 0)) _ rfl rfl rfl 148 rfl rfl 46 [] rfl Tryz.call46 [0] (by decide) [.pc 0 0,.tv (fzL 1 (cSl 1 cStr) v3)] (by kernel_rfl) [.cells 69 [k1 v33,k2 v34,k2 v35]] (by kernel_rfl) (f46o_ok v3 (T68.mk v33 v34 v35) hv48) (by kernel_rfl) (by kernel_rfl) _ rfl) ?_
         refine AOps.go [3,4,5,6,7,8] [] [] [6,7,8] 1 ⟨[(6,.pc 0 0),(7,tS v50),(8,tI v51)],[.cells 69 [k1 v52.f0,k2 v52.f1,k2 v52.f2]]⟩ ?_ z0 trivial ?_
         ·kernel_rfl
         refine AOps.nil ?_
         refine AWp.ret ?_
         cases h
         exact ⟨.inr rfl,rfl⟩

end Go.Sx.top
