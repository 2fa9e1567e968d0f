/- Printed by program (wip/gen): plain functions and their walks; no condition. -/
import Derived.Test.YtcfoobpnmeaflaaGx1
namespace Go.Sx.img
open Go Go.Sx Go.Proofs

noncomputable def f32o_j1 (v10:Int) (v14:Bool) (v15:List T60):Option ((Bool × Int × (List T60)) ⊕ Out T50 (Bool × (List T60))) :=
 some (.inl (v14,w64 (v10 + (1:Int)),v15))

noncomputable def f32o_b2 (v9:Bool) (v10:Int) (v11:List T60):Option ((Bool × Int × (List T60)) ⊕ Out T50 (Bool × (List T60))) :=
 cond (decide (v10 < (v11.length:Int))) (if (0:Int) ≤ v10 ∧ v10 < (v11.length:Int) then (cond (((v11.getD v10.toNat default).f2) == ([114,117,110,115]:List UInt8)) (some ((v11.getD v10.toNat default).f1 == (((v11.getD v10.toNat default).f0).length:Int))) (some false)).bind fun v16=>cond v16 (f32o_j1 v10 true (v11.set v10.toNat (T60.mk ((v11.getD v10.toNat default).f0) ((v11.getD v10.toNat default).f1) ([101,110,100,101,100]:List UInt8) ((v11.getD v10.toNat default).f3) ((v11.getD v10.toNat default).f4) ((v11.getD v10.toNat default).f5) ((v11.getD v10.toNat default).f6) ((v11.getD v10.toNat default).f7) ((v11.getD v10.toNat default).f8)))) (f32o_j1 v10 v9 v11) else none) (some (.inr (.go (v9,v11))))

noncomputable def f32o_j3 (v19:Int) (v21:List Int):Option (((List Int) × Int) ⊕ Out T50 (List Int)) :=
 some (.inl (v21,w64 (v19 + (1:Int))))

noncomputable def f32o_b4 (v4:Int) (v5:List T43) (v13:List T60) (v18:List Int) (v19:Int):Option (((List Int) × Int) ⊕ Out T50 (List Int)) :=
 cond (decide (v19 < (v13.length:Int))) (if (0:Int) ≤ v19 ∧ v19 < (v13.length:Int) then (cond (((v13.getD v19.toNat default).f2) == ([119,97,105,116,115]:List UInt8)) ((f44 (T50.mk v13 v4 v5) v19).bind fun v23=>some ((v23.length:Int) == (0:Int))) (some false)).bind fun v22=>cond v22 (if (v18.length + [v19].length) * 8 ≤ 140737488355328 then f32o_j3 v19 (v18 ++ [v19]) else none) (f32o_j3 v19 v18) else none) (some (.inr (.go v18)))

noncomputable def f32o_b5 (v20:List Int) (v25:Bool) (v26:Int) (v27:List T60) (v28:Int) (v29:List T43):Option ((Bool × Int × (List T60) × Int × (List T43)) ⊕ Out T50 (Bool × (List T60) × Int × (List T43))) :=
 cond (decide (v26 < (v20.length:Int))) (if (0:Int) ≤ v26 ∧ v26 < (v20.length:Int) then (f70o (v20.getD v26.toNat default) (T50.mk v27 v28 v29)).bind fun v34=>some (.inl (true,w64 (v26 + (1:Int)),v34.f0,v34.f1,v34.f2)) else none) (some (.inr (.go (v25,v27,v28,v29))))

noncomputable def f32o_b6 (v2:Bool) (v3:List T60) (v4:Int) (v5:List T43):Option ((Bool × (List T60) × Int × (List T43)) ⊕ Out T50 ((List T60) × Int × (List T43))) :=
 cond v2 ((iter (fun s=>f32o_b2 s.1 s.2.1 s.2.2) (false,(1:Int),v3)).bind fun y=>match y with | .ret v17=>some (.inr (.ret v17)) | .go (v12,v13)=>(iter (fun s=>f32o_b4 v4 v5 v13 s.1 s.2) ([],(1:Int))).bind fun y=>match y with | .ret v24=>some (.inr (.ret v24)) | .go v20=>(iter (fun s=>f32o_b5 v20 s.1 s.2.1 s.2.2.1 s.2.2.2.1 s.2.2.2.2) (v12,(0:Int),v13,v4,v5)).bind fun y=>match y with | .ret v35=>some (.inr (.ret v35)) | .go (v30,v31,v32,v33)=>some (.inl (v30,v31,v32,v33))) (some (.inr (.go (v3,v4,v5))))

noncomputable def f32o (v1:T50):Option T50 :=
 (iter (fun s=>f32o_b6 s.1 s.2.1 s.2.2.1 s.2.2.2) (true,v1.f0,v1.f1,v1.f2)).bind fun y=>match y with | .ret v36=>some v36 | .go (v6,v7,v8)=>some (T50.mk v6 v7 v8)

theorem f32o_ok (v1:T50) {r:T50} (h:f32o v1 = some r):ACall Try.prog 32 [.pc 0 0] [.cells 51 [ownL 27 61 o60 v1.f0,.int .i64 v1.f1,ownL 2 44 c43 v1.f2]] (.tup []) [.cells 51 [ownL 27 61 o60 r.f0,.int .i64 r.f1,ownL 2 44 c43 r.f2]]:=by
 refine ACall.ofN (FF 84 1) (rs:=[]) (env:=[]) Try.func32 rfl Try.ntmps32 Try.results32 (by decide) (by decide) rfl (zz rfl) rfl (get_ofN _ _ _ rfl) (ok_ofN _ rfl) ?_
 refine AWp.seq ?_
 refine AWp.start [0] [] [] [0,2] 1 ⟨[(0,.pc 0 0),(2,tB true)],[.cells 51 [k0 v1.f0,.int .i64 v1.f1,k1 v1.f2]]⟩ rfl ?_ (zz rfl) trivial ?_
 ·kernel_rfl
 refine AOps.nil ?_
 refine AWp.block ?_
 obtain ⟨y,hy,h⟩:=of_bind h
 refine AWp.mono (AWp.loop (S:=Bool × (List T60) × Int × (List T43)) (Y:=Out T50 ((List T60) × Int × (List T43))) (fun s=>⟨[(0,.pc 0 0),(2,tB s.1)],[.cells 51 [k0 s.2.1,.int .i64 s.2.2.1,k1 s.2.2.2]]⟩) (fun s=>f32o_b6 s.1 s.2.1 s.2.2.1 s.2.2.2) (fun y e σ=>match y with | .ret r=>e = .ret ∧ σ = ⟨[],[.cells 51 [k0 r.f0,.int .i64 r.f1,k1 r.f2]]⟩ | .go v=>e = .exit 0 ∧ σ = ⟨[],[.cells 51 [k0 v.1,.int .i64 v.2.1,k1 v.2.2]]⟩) ?_ hy) ?_
 ·rintro ⟨v2,v3,v4,v5⟩ o h
  refine AWp.seq ?_
  refine AWp.seq ?_
  refine AWp.start [0] [] [] [0,9] 1 ⟨[(0,.pc 0 0),(9,tB v2)],[.cells 51 [k0 v3,.int .i64 v4,k1 v5]]⟩ rfl ?_ (zz rfl) trivial ?_
  ·kernel_rfl
  refine AOps.nil ?_
  refine AWp.cond rfl (fun hb=>?_) fun hb=>?_
  ·replace h:=of_true h hb
   refine AWp.keepTo [0] 1 ⟨[(0,.pc 0 0)],[.cells 51 [k0 v3,.int .i64 v4,k1 v5]]⟩ ?_ (zz rfl) ?_
   ·kernel_rfl
   refine AWp.skip ?_
   refine AWp.block ?_
   refine AWp.seq ?_
   refine AWp.start [0] [] [] [0,2] 1 ⟨[(0,.pc 0 0),(2,tB false)],[.cells 51 [k0 v3,.int .i64 v4,k1 v5]]⟩ rfl ?_ (zz rfl) trivial ?_
   ·kernel_rfl
   refine AOps.nil ?_
   refine AWp.seq ?_
   refine AWp.seq ?_
   refine AWp.start [0] [] [] [0,2,3] 1 ⟨[(0,.pc 0 0),(2,tB false),(3,tI (1:Int))],[.cells 51 [k0 v3,.int .i64 v4,k1 v5]]⟩ rfl ?_ (zz rfl) trivial ?_
   ·kernel_rfl
   refine AOps.nil ?_
   refine AWp.block ?_
   obtain ⟨y,hy,h⟩:=of_bind h
   refine AWp.mono (AWp.loop (S:=Bool × Int × (List T60)) (Y:=Out T50 (Bool × (List T60))) (fun s=>⟨[(0,.pc 0 0),(2,tB s.1),(3,tI s.2.1)],[.cells 51 [k0 s.2.2,.int .i64 v4,k1 v5]]⟩) (fun s=>f32o_b2 s.1 s.2.1 s.2.2) (fun y e σ=>match y with | .ret r=>e = .ret ∧ σ = ⟨[],[.cells 51 [k0 r.f0,.int .i64 r.f1,k1 r.f2]]⟩ | .go v=>e = .exit 2 ∧ σ = ⟨[(0,.pc 0 0),(2,tB v.1)],[.cells 51 [k0 v.2,.int .i64 v4,k1 v5]]⟩) ?_ hy) ?_
   ·rintro ⟨v9,v10,v11⟩ o h
    refine AWp.seq ?_
    refine AWp.seq ?_
    refine AWp.start [0,1,2,3,4,5,6] [] [] [0,2,3,16] 1 ⟨[(0,.pc 0 0),(2,tB v9),(3,tI v10),(16,tB (decide (v10 < (v11.length:Int))))],[.cells 51 [k0 v11,.int .i64 v4,k1 v5]]⟩ rfl ?_ (zz rfl) trivial ?_
    ·kernel_rfl
    refine AOps.nil ?_
    refine AWp.cond rfl (fun hb=>?_) fun hb=>?_
    ·replace h:=of_true h hb
     refine AWp.keepTo [0,2,3] 1 ⟨[(0,.pc 0 0),(2,tB v9),(3,tI v10)],[.cells 51 [k0 v11,.int .i64 v4,k1 v5]]⟩ ?_ (zz rfl) ?_
     ·kernel_rfl
     refine AWp.skip ?_
     refine AWp.join (V:=Bool × (List T60)) (fun w=>⟨[(0,.pc 0 0),(2,tB w.1),(3,tI v10)],[.cells 51 [k0 w.2,.int .i64 v4,k1 v5]]⟩) (fun w=>f32o_j1 v10 w.1 w.2 = some o) ?_ ?_
     ·refine AWp.block ?_
      refine AWp.seq ?_
      obtain ⟨hg,h⟩:=of_guard h
      refine AWp.start [0,1,2,3,4,5,6] [] [(0:Int) ≤ v10,v10 < (v11.length:Int)] [0,2,3,4] 1 ⟨[(0,.pc 0 0),(2,tB v9),(3,tI v10),(4,.pe (.cell 0 0,[]) v10.toNat 0 27)],[.cells 51 [k0 v11,.int .i64 v4,k1 v5]]⟩ rfl ?_ (zz rfl) ⟨hg.1,hg.2⟩ ?_
      ·kernel_rfl
      refine AOps.nil ?_
      refine AWp.seq ?_
      obtain ⟨v16,hd,h⟩:=of_bind h
      refine AWp.draw FFm (fun σ=>σ = ⟨[(0,.pc 0 0),(2,tB v9),(3,tI v10),(4,.pe (.cell 0 0,[]) v10.toNat 0 27),(41,tB v16)],[.cells 51 [k0 v11,.int .i64 v4,k1 v5]]⟩) (n:=17) rfl (ls:=#[n1,n1,n1,n1,n1,n1,n1,n1,n1,n1,n1,n1,n1,n1,n1,n1,n1]) rfl ?_ ?_
      ·refine AAny.go (by kernel_rfl) [0,1,2] (fuel':=14) rfl [] #[y1,y1,y1,n1,n1,n1,n1,n1,n1,n1,n1,n1,n1,n1,n1,n1,n1] [0,2,3,4,27] 1 ⟨[(0,.pc 0 0),(2,tB v9),(3,tI v10),(4,.pe (.cell 0 0,[]) v10.toNat 0 27),(27,.pe (.cell 0 0,[]) v10.toNat 2 27)],[.cells 51 [k0 v11,.int .i64 v4,k1 v5]]⟩ ?_ (zz rfl) trivial ?_
       ·kernel_rfl
       refine AAny.step (i:=3) (fuel':=13) rfl (by kernel_rfl) [] #[y1,y1,y1,y1,n1,n1,n1,n1,n1,n1,n1,n1,n1,n1,n1,n1,n1] rfl [0,2,3,4,28] 1 ⟨[(0,.pc 0 0),(2,tB v9),(3,tI v10),(4,.pe (.cell 0 0,[]) v10.toNat 0 27),(28,tS ((gD v11 v10).f2))],[.cells 51 [k0 v11,.int .i64 v4,k1 v5]]⟩ ?_ (zz rfl) trivial ?_
       ·kernel_rfl
       refine AAny.go (by kernel_rfl) [4,5] (fuel':=11) rfl [] #[y1,y1,y1,y1,y1,y1,n1,n1,n1,n1,n1,n1,n1,n1,n1,n1,n1] [0,2,3,4,30] 1 ⟨[(0,.pc 0 0),(2,tB v9),(3,tI v10),(4,.pe (.cell 0 0,[]) v10.toNat 0 27),(30,tB (((gD v11 v10).f2) == ([114,117,110,115]:List UInt8)))],[.cells 51 [k0 v11,.int .i64 v4,k1 v5]]⟩ ?_ (zz rfl) trivial ?_
       ·kernel_rfl
       refine AAny.split (fun b=>⟨[(0,.pc 0 0),(2,tB v9),(3,tI v10),(4,.pe (.cell 0 0,[]) v10.toNat 0 27),(30,tB b)],[.cells 51 [k0 v11,.int .i64 v4,k1 v5]]⟩) _ (fun hb=>?_) fun hb=>?_
       ·replace hd:=of_true hd hb
        refine AAny.go (by kernel_rfl) [6,7,8,10,11,12] (fuel':=5) rfl [] #[y1,y1,y1,y1,y1,y1,y1,y1,y1,n1,y1,y1,y1,n1,n1,n1,n1] [0,2,3,4,30,33,37] 1 ⟨[(0,.pc 0 0),(2,tB v9),(3,tI v10),(4,.pe (.cell 0 0,[]) v10.toNat 0 27),(30,tB true),(33,.pe (.cell 0 0,[]) v10.toNat 1 27),(37,.pe (.cell 0 0,[]) v10.toNat 0 27)],[.cells 51 [k0 v11,.int .i64 v4,k1 v5]]⟩ ?_ (zz rfl) trivial ?_
        ·kernel_rfl
        refine AAny.goR (by kernel_rfl) (i:=13) (fuel':=4) [14,15,16] rfl (by kernel_rfl) (by kernel_rfl) [] #[y1,y1,y1,y1,y1,y1,y1,y1,y1,n1,y1,y1,y1,y1,n1,n1,n1] rfl [0,2,3,4,30,33,38] 1 ⟨[(0,.pc 0 0),(2,tB v9),(3,tI v10),(4,.pe (.cell 0 0,[]) v10.toNat 0 27),(30,tB true),(33,.pe (.cell 0 0,[]) v10.toNat 1 27),(38,q2 ((gD v11 v10).f0))],[.cells 51 [k0 v11,.int .i64 v4,k1 v5]]⟩ ?_ (zz rfl) trivial ?_
        ·kernel_rfl
        refine AAny.go (by kernel_rfl) [14] (fuel':=3) rfl [] #[y1,y1,y1,y1,y1,y1,y1,y1,y1,n1,y1,y1,y1,y1,y1,n1,n1] [0,2,3,4,30,33,39] 1 ⟨[(0,.pc 0 0),(2,tB v9),(3,tI v10),(4,.pe (.cell 0 0,[]) v10.toNat 0 27),(30,tB true),(33,.pe (.cell 0 0,[]) v10.toNat 1 27),(39,tI (((gD v11 v10).f0).length:Int))],[.cells 51 [k0 v11,.int .i64 v4,k1 v5]]⟩ ?_ (zz rfl) trivial ?_
        ·kernel_rfl
        refine AAny.step (i:=9) (fuel':=2) rfl (by kernel_rfl) [] #[y1,y1,y1,y1,y1,y1,y1,y1,y1,y1,y1,y1,y1,y1,y1,n1,n1] rfl [0,2,3,4,30,34,39] 1 ⟨[(0,.pc 0 0),(2,tB v9),(3,tI v10),(4,.pe (.cell 0 0,[]) v10.toNat 0 27),(30,tB true),(34,tI ((gD v11 v10).f1)),(39,tI (((gD v11 v10).f0).length:Int))],[.cells 51 [k0 v11,.int .i64 v4,k1 v5]]⟩ ?_ (zz rfl) trivial ?_
        ·kernel_rfl
        refine AAny.go (by kernel_rfl) [15,16] (fuel':=0) rfl [] #[y1,y1,y1,y1,y1,y1,y1,y1,y1,y1,y1,y1,y1,y1,y1,y1,y1] [0,2,3,4,41] 1 ⟨[(0,.pc 0 0),(2,tB v9),(3,tI v10),(4,.pe (.cell 0 0,[]) v10.toNat 0 27),(41,tB ((gD v11 v10).f1 == (((gD v11 v10).f0).length:Int)))],[.cells 51 [k0 v11,.int .i64 v4,k1 v5]]⟩ ?_ (zz rfl) trivial ?_
        ·kernel_rfl
        refine AAny.keepTo [0,2,3,4,41] 1 ⟨[(0,.pc 0 0),(2,tB v9),(3,tI v10),(4,.pe (.cell 0 0,[]) v10.toNat 0 27),(41,tB ((gD v11 v10).f1 == (((gD v11 v10).f0).length:Int)))],[.cells 51 [k0 v11,.int .i64 v4,k1 v5]]⟩ _ ?_ rfl (zz rfl) (AAny.done (by kernel_rfl) ?_)
        ·kernel_rfl
        cases hd
        exact rfl
       ·replace hd:=of_false hd hb
        refine AAny.go (by kernel_rfl) [6,7,8,9,10,11,12,13,14,15,16] (fuel':=0) rfl [] #[y1,y1,y1,y1,y1,y1,y1,y1,y1,y1,y1,y1,y1,y1,y1,y1,y1] [0,2,3,4,41] 1 ⟨[(0,.pc 0 0),(2,tB v9),(3,tI v10),(4,.pe (.cell 0 0,[]) v10.toNat 0 27),(41,tB false)],[.cells 51 [k0 v11,.int .i64 v4,k1 v5]]⟩ ?_ (zz rfl) trivial ?_
        ·kernel_rfl
        refine AAny.keepTo [0,2,3,4,41] 1 ⟨[(0,.pc 0 0),(2,tB v9),(3,tI v10),(4,.pe (.cell 0 0,[]) v10.toNat 0 27),(41,tB false)],[.cells 51 [k0 v11,.int .i64 v4,k1 v5]]⟩ _ ?_ rfl (zz rfl) (AAny.done (by kernel_rfl) ?_)
        ·kernel_rfl
        cases hd
        exact rfl
      rintro σ' rfl
      refine AWp.cond rfl (fun hb=>?_) fun hb=>?_
      ·replace h:=of_true h hb
       refine AWp.keepTo [0,3,4] 1 ⟨[(0,.pc 0 0),(3,tI v10),(4,.pe (.cell 0 0,[]) v10.toNat 0 27)],[.cells 51 [k0 v11,.int .i64 v4,k1 v5]]⟩ ?_ (zz rfl) ?_
       ·kernel_rfl
       refine AWp.seq ?_
       refine AWp.start [0,1,2] [3] [] [0,3,44] 1 ⟨[(0,.pc 0 0),(3,tI v10),(44,.pe (.cell 0 0,[]) v10.toNat 2 27)],[.cells 51 [k0 v11,.int .i64 v4,k1 v5]]⟩ rfl ?_ (zz rfl) trivial ?_
       ·kernel_rfl
       refine AOps.cons (AOne.storeN (F:=(FF 84 1)) (i:=v10.toNat) (n2:=(v11.set v10.toNat (T60.mk ((gD v11 v10).f0) ((gD v11 v10).f1) ([101,110,100,101,100]:List UInt8) ((gD v11 v10).f3) ((gD v11 v10).f4) ((gD v11 v10).f5) ((gD v11 v10).f6) ((gD v11 v10).f7) ((gD v11 v10).f8))).length) (n':=v11.length) (f:=(fun i=>o60 (v11.getD i default))) (f':=(fun i=>o60 ((v11.set v10.toNat (T60.mk ((gD v11 v10).f0) ((gD v11 v10).f1) ([101,110,100,101,100]:List UInt8) ((gD v11 v10).f3) ((gD v11 v10).f4) ((gD v11 v10).f5) ((gD v11 v10).f6) ((gD v11 v10).f7) ((gD v11 v10).f8))).getD i default))) _ rfl rfl rfl rfl rfl rfl rfl rfl rfl (set_at o60 v11 v10.toNat 2 [.str ([101,110,100,101,100]:List UInt8)] (T60.mk ((gD v11 v10).f0) ((gD v11 v10).f1) ([101,110,100,101,100]:List UInt8) ((gD v11 v10).f3) ((gD v11 v10).f4) ((gD v11 v10).f5) ((gD v11 v10).f6) ((gD v11 v10).f7) ((gD v11 v10).f8)) rfl) List.length_set.symm rfl) ?_
       refine AOps.keepTo [0,3] 1 ⟨[(0,.pc 0 0),(3,tI v10)],[.cells 51 [k0 (v11.set v10.toNat (T60.mk ((gD v11 v10).f0) ((gD v11 v10).f1) ([101,110,100,101,100]:List UInt8) ((gD v11 v10).f3) ((gD v11 v10).f4) ((gD v11 v10).f5) ((gD v11 v10).f6) ((gD v11 v10).f7) ((gD v11 v10).f8))),.int .i64 v4,k1 v5]]⟩ ?_ (zz rfl) ?_
       ·kernel_rfl
       refine AOps.nil ?_
       refine AWp.start [0] [] [] [0,2,3] 1 ⟨[(0,.pc 0 0),(2,tB true),(3,tI v10)],[.cells 51 [k0 (v11.set v10.toNat (T60.mk ((gD v11 v10).f0) ((gD v11 v10).f1) ([101,110,100,101,100]:List UInt8) ((gD v11 v10).f3) ((gD v11 v10).f4) ((gD v11 v10).f5) ((gD v11 v10).f6) ((gD v11 v10).f7) ((gD v11 v10).f8))),.int .i64 v4,k1 v5]]⟩ rfl ?_ (zz rfl) trivial ?_
       ·kernel_rfl
       refine AOps.nil ?_
       exact ⟨(true,v11.set v10.toNat (T60.mk ((gD v11 v10).f0) ((gD v11 v10).f1) ([101,110,100,101,100]:List UInt8) ((gD v11 v10).f3) ((gD v11 v10).f4) ((gD v11 v10).f5) ((gD v11 v10).f6) ((gD v11 v10).f7) ((gD v11 v10).f8))),h,rfl⟩
      ·replace h:=of_false h hb
       refine AWp.keepTo [0,2,3] 1 ⟨[(0,.pc 0 0),(2,tB v9),(3,tI v10)],[.cells 51 [k0 v11,.int .i64 v4,k1 v5]]⟩ ?_ (zz rfl) ?_
       ·kernel_rfl
       refine AWp.skip ?_
       exact ⟨(v9,v11),h,rfl⟩
     ·rintro ⟨v14,v15⟩ h
      refine AWp.start [0,1,2] [] [] [0,2,3] 1 ⟨[(0,.pc 0 0),(2,tB v14),(3,tI (w64 (v10 + (1:Int))))],[.cells 51 [k0 v15,.int .i64 v4,k1 v5]]⟩ rfl ?_ (zz rfl) trivial ?_
      ·kernel_rfl
      refine AOps.nil ?_
      cases h
      exact Or.inl ⟨_,rfl,rfl,rfl⟩
    ·replace h:=of_false h hb
     refine AWp.keepTo [0,2] 1 ⟨[(0,.pc 0 0),(2,tB v9)],[.cells 51 [k0 v11,.int .i64 v4,k1 v5]]⟩ ?_ (zz rfl) ?_
     ·kernel_rfl
     refine AWp.exit ?_
     cases h
     exact Or.inr ⟨_,rfl,by simp,rfl,rfl⟩
   ·intro e σ hp
    rcases y with v17 | ⟨v12,v13⟩
    ·obtain ⟨rfl,rfl⟩:=hp
     cases h
     exact Or.inr ⟨_,rfl,by simp,rfl,rfl⟩
    ·obtain ⟨rfl,rfl⟩:=hp
     refine AWp.seq ?_
     refine AWp.start [0] [] [] [0,2,5] 1 ⟨[(0,.pc 0 0),(2,tB v12),(5,.tv (.sc (.slice none 0 0)))],[.cells 51 [k0 v13,.int .i64 v4,k1 v5]]⟩ rfl ?_ (zz rfl) trivial ?_
     ·kernel_rfl
     refine AOps.nil ?_
     refine AWp.seq ?_
     refine AWp.seq ?_
     refine AWp.start [0] [] [] [0,2,5,6] 1 ⟨[(0,.pc 0 0),(2,tB v12),(5,.tv (.sc (.slice none 0 0))),(6,tI (1:Int))],[.cells 51 [k0 v13,.int .i64 v4,k1 v5]]⟩ rfl ?_ (zz rfl) trivial ?_
     ·kernel_rfl
     refine AOps.nil ?_
     refine AWp.block ?_
     refine AWp.nilOwn 5 1 3 (fun i=>(cInt .i64) (([]:List Int).getD i default)) rfl ?_
     refine AWp.keepTo [0,2,5,6] 1 ⟨[(0,.pc 0 0),(2,tB v12),(5,q1 ([]:List Int)),(6,tI (1:Int))],[.cells 51 [k0 v13,.int .i64 v4,k1 v5]]⟩ ?_ (zz rfl) ?_
     ·kernel_rfl
     obtain ⟨y,hy,h⟩:=of_bind h
     refine AWp.mono (AWp.loop (S:=(List Int) × Int) (Y:=Out T50 (List Int)) (fun s=>⟨[(0,.pc 0 0),(2,tB v12),(5,q1 s.1),(6,tI s.2)],[.cells 51 [k0 v13,.int .i64 v4,k1 v5]]⟩) (fun s=>f32o_b4 v4 v5 v13 s.1 s.2) (fun y e σ=>match y with | .ret r=>e = .ret ∧ σ = ⟨[],[.cells 51 [k0 r.f0,.int .i64 r.f1,k1 r.f2]]⟩ | .go v=>e = .exit 4 ∧ σ = ⟨[(0,.pc 0 0),(2,tB v12),(5,q1 v)],[.cells 51 [k0 v13,.int .i64 v4,k1 v5]]⟩) ?_ hy) ?_
     ·rintro ⟨v18,v19⟩ o h
      refine AWp.seq ?_
      refine AWp.seq ?_
      refine AWp.start [0,1,2,3,4,5,6] [] [] [0,2,5,6,51] 1 ⟨[(0,.pc 0 0),(2,tB v12),(5,q1 v18),(6,tI v19),(51,tB (decide (v19 < (v13.length:Int))))],[.cells 51 [k0 v13,.int .i64 v4,k1 v5]]⟩ rfl ?_ (zz rfl) trivial ?_
      ·kernel_rfl
      refine AOps.nil ?_
      refine AWp.cond rfl (fun hb=>?_) fun hb=>?_
      ·replace h:=of_true h hb
       refine AWp.keepTo [0,2,5,6] 1 ⟨[(0,.pc 0 0),(2,tB v12),(5,q1 v18),(6,tI v19)],[.cells 51 [k0 v13,.int .i64 v4,k1 v5]]⟩ ?_ (zz rfl) ?_
       ·kernel_rfl
       refine AWp.skip ?_
       refine AWp.join (V:=(List Int)) (fun w=>⟨[(0,.pc 0 0),(2,tB v12),(5,q1 w),(6,tI v19)],[.cells 51 [k0 v13,.int .i64 v4,k1 v5]]⟩) (fun w=>f32o_j3 v19 w = some o) ?_ ?_
       ·refine AWp.block ?_
        refine AWp.seq ?_
        obtain ⟨hg,h⟩:=of_guard h
        refine AWp.start [0,1,2,3,4,5,6,7,8,9] [10,11,12,13,14,15] [(0:Int) ≤ v19,v19 < (v13.length:Int)] [0,2,5,6,63] 1 ⟨[(0,.pc 0 0),(2,tB v12),(5,q1 v18),(6,tI v19),(63,tB (((gD v13 v19).f2) == ([119,97,105,116,115]:List UInt8)))],[.cells 51 [k0 v13,.int .i64 v4,k1 v5]]⟩ rfl ?_ (zz rfl) ⟨hg.1,hg.2⟩ ?_
        ·kernel_rfl
        obtain ⟨v22,hc10,h⟩:=of_bind h
        refine AOps.cut [10,11,12,13,14,15] [] (fun σ=>σ = ⟨[(0,.pc 0 0),(2,tB v12),(5,q1 v18),(6,tI v19),(69,tB v22)],[.cells 51 [k0 v13,.int .i64 v4,k1 v5]]⟩) ?_ fun σ' hJ=>?_
        ·refine AOps.split (fun b=>⟨[(0,.pc 0 0),(2,tB v12),(5,q1 v18),(6,tI v19),(63,tB b)],[.cells 51 [k0 v13,.int .i64 v4,k1 v5]]⟩) _ (fun hb=>?_) fun hb=>?_
         ·replace hc10:=of_true hc10 hb
          refine AOps.go [10,11] [12,13,14,15] [] [0,2,5,6,63,64,65] 1 ⟨[(0,.pc 0 0),(2,tB v12),(5,q1 v18),(6,tI v19),(63,tB true),(64,.pc 0 0),(65,tI v19)],[.cells 51 [k0 v13,.int .i64 v4,k1 v5]]⟩ ?_ (zz rfl) trivial ?_
          ·kernel_rfl
          obtain ⟨v23,hv23,hc10⟩:=of_bind hc10
          refine AOps.cons (AOne.callV (F:=(FF 84 1)) _ rfl rfl rfl 66 rfl rfl 44 [] rfl Try.call44 [.pc 0 0,tI v19] [.rp [k4 v13,.int .i64 v4,k3 v5],tI v19] rfl (.cons (.pc rfl (.cons (.ownL seen60) (.keep rfl (.cons (.ownL (fun _=>.plain rfl)) .nil)))) (.cons (.old rfl) .nil)) (f44_ok (T50.mk v13 v4 v5) v19 hv23) (ind_ownL (fun _=>rfl)) rfl) ?_
          refine AOps.go [13,14,15] [] [] [0,2,5,6,69] 1 ⟨[(0,.pc 0 0),(2,tB v12),(5,q1 v18),(6,tI v19),(69,tB ((v23.length:Int) == (0:Int)))],[.cells 51 [k0 v13,.int .i64 v4,k1 v5]]⟩ ?_ (zz rfl) trivial ?_
          ·kernel_rfl
          cases hc10
          exact AOps.nil rfl
         ·replace hc10:=of_false hc10 hb
          refine AOps.go [10,11,12,13,14,15] [] [] [0,2,5,6,69] 1 ⟨[(0,.pc 0 0),(2,tB v12),(5,q1 v18),(6,tI v19),(69,tB false)],[.cells 51 [k0 v13,.int .i64 v4,k1 v5]]⟩ ?_ (zz rfl) trivial ?_
          ·kernel_rfl
          cases hc10
          exact AOps.nil rfl
        subst hJ
        refine AOps.nil ?_
        refine AWp.cond rfl (fun hb=>?_) fun hb=>?_
        ·replace h:=of_true h hb
         refine AWp.keepTo [0,2,5,6] 1 ⟨[(0,.pc 0 0),(2,tB v12),(5,q1 v18),(6,tI v19)],[.cells 51 [k0 v13,.int .i64 v4,k1 v5]]⟩ ?_ (zz rfl) ?_
         ·kernel_rfl
         refine AWp.start [0,1,2] [3,4] [] [0,2,5,6,70,72] 1 ⟨[(0,.pc 0 0),(2,tB v12),(5,q1 v18),(6,tI v19),(70,.al (.slot 5 0,[])),(72,.tv (.own 1 3 1 (newRowF [.int .i64 v19] 1)))],[.cells 51 [k0 v13,.int .i64 v4,k1 v5]]⟩ rfl ?_ (zz rfl) trivial ?_
         ·kernel_rfl
         refine AOps.extL 72 (cInt .i64) [v19] rfl rfl (row_at (cInt .i64) 1 (fun _=>rfl) [v19] _ rfl) ?_
         obtain ⟨hg,h⟩:=of_guard h
         refine AOps.go [3] [4] [(v18.length + [v19].length) * 8 ≤ 140737488355328,PlainTo v18.length (fun i=>(cInt .i64) (v18.getD i default)),PlainTo ([v19].length) (fun i=>(cInt .i64) ([v19].getD i default))] [0,2,6,73] 1 ⟨[(0,.pc 0 0),(2,tB v12),(6,tI v19),(73,.tv (.own 1 3 (v18.length + [v19].length) (appF v18.length (fun i=>(cInt .i64) (v18.getD i default)) (fun i=>(cInt .i64) ([v19].getD i default)))))],[.cells 51 [k0 v13,.int .i64 v4,k1 v5]]⟩ ?_ (zz rfl) ⟨hg,(fun _ _=>rfl),(fun _ _=>rfl)⟩ ?_
         ·kernel_rfl
         refine AOps.extL 73 (cInt .i64) (v18 ++ [v19]) rfl List.length_append.symm (app_at (cInt .i64) v18 [v19]) ?_
         refine AOps.go [4] [] [] [0,2,5,6] 1 ⟨[(0,.pc 0 0),(2,tB v12),(5,q1 (v18 ++ [v19])),(6,tI v19)],[.cells 51 [k0 v13,.int .i64 v4,k1 v5]]⟩ ?_ (zz rfl) trivial ?_
         ·kernel_rfl
         refine AOps.nil ?_
         exact ⟨v18 ++ [v19],h,rfl⟩
        ·replace h:=of_false h hb
         refine AWp.keepTo [0,2,5,6] 1 ⟨[(0,.pc 0 0),(2,tB v12),(5,q1 v18),(6,tI v19)],[.cells 51 [k0 v13,.int .i64 v4,k1 v5]]⟩ ?_ (zz rfl) ?_
         ·kernel_rfl
         refine AWp.skip ?_
         exact ⟨v18,h,rfl⟩
       ·rintro v21 h
        refine AWp.start [0,1,2] [] [] [0,2,5,6] 1 ⟨[(0,.pc 0 0),(2,tB v12),(5,q1 v21),(6,tI (w64 (v19 + (1:Int))))],[.cells 51 [k0 v13,.int .i64 v4,k1 v5]]⟩ rfl ?_ (zz rfl) trivial ?_
        ·kernel_rfl
        refine AOps.nil ?_
        cases h
        exact Or.inl ⟨_,rfl,rfl,rfl⟩
      ·replace h:=of_false h hb
       refine AWp.keepTo [0,2,5] 1 ⟨[(0,.pc 0 0),(2,tB v12),(5,q1 v18)],[.cells 51 [k0 v13,.int .i64 v4,k1 v5]]⟩ ?_ (zz rfl) ?_
       ·kernel_rfl
       refine AWp.exit ?_
       cases h
       exact Or.inr ⟨_,rfl,by simp,rfl,rfl⟩
     ·intro e σ hp
      rcases y with v24 | v20
      ·obtain ⟨rfl,rfl⟩:=hp
       cases h
       exact Or.inr ⟨_,rfl,by simp,rfl,rfl⟩
      ·obtain ⟨rfl,rfl⟩:=hp
       refine AWp.seq ?_
       refine AWp.start [0,1,2] [] [] [0,2,5,74,75,76] 1 ⟨[(0,.pc 0 0),(2,tB v12),(5,q1 v20),(74,.al (.slot 5 0,[])),(75,tI (v20.length:Int)),(76,tI (0:Int))],[.cells 51 [k0 v13,.int .i64 v4,k1 v5]]⟩ rfl ?_ (zz rfl) trivial ?_
       ·kernel_rfl
       refine AOps.nil ?_
       refine AWp.block ?_
       obtain ⟨y,hy,h⟩:=of_bind h
       refine AWp.mono (AWp.loop (S:=Bool × Int × (List T60) × Int × (List T43)) (Y:=Out T50 (Bool × (List T60) × Int × (List T43))) (fun s=>⟨[(0,.pc 0 0),(2,tB s.1),(5,q1 v20),(74,.al (.slot 5 0,[])),(75,tI (v20.length:Int)),(76,tI s.2.1)],[.cells 51 [k0 s.2.2.1,.int .i64 s.2.2.2.1,k1 s.2.2.2.2]]⟩) (fun s=>f32o_b5 v20 s.1 s.2.1 s.2.2.1 s.2.2.2.1 s.2.2.2.2) (fun y e σ=>match y with | .ret r=>e = .ret ∧ σ = ⟨[],[.cells 51 [k0 r.f0,.int .i64 r.f1,k1 r.f2]]⟩ | .go v=>e = .exit 6 ∧ σ = ⟨[(0,.pc 0 0),(2,tB v.1)],[.cells 51 [k0 v.2.1,.int .i64 v.2.2.1,k1 v.2.2.2]]⟩) ?_ hy) ?_
       ·rintro ⟨v25,v26,v27,v28,v29⟩ o h
        refine AWp.seq ?_
        refine AWp.start [0] [] [] [0,2,5,74,75,76,77] 1 ⟨[(0,.pc 0 0),(2,tB v25),(5,q1 v20),(74,.al (.slot 5 0,[])),(75,tI (v20.length:Int)),(76,tI v26),(77,tB (decide (v26 < (v20.length:Int))))],[.cells 51 [k0 v27,.int .i64 v28,k1 v29]]⟩ rfl ?_ (zz rfl) trivial ?_
        ·kernel_rfl
        refine AOps.nil ?_
        refine AWp.seq ?_
        refine AWp.cond rfl (fun hb=>?_) fun hb=>?_
        ·replace h:=of_true h hb
         refine AWp.keepTo [0,5,74,75,76] 1 ⟨[(0,.pc 0 0),(5,q1 v20),(74,.al (.slot 5 0,[])),(75,tI (v20.length:Int)),(76,tI v26)],[.cells 51 [k0 v27,.int .i64 v28,k1 v29]]⟩ ?_ (zz rfl) ?_
         ·kernel_rfl
         refine AWp.skip ?_
         refine AWp.seq ?_
         refine AWp.block ?_
         refine AWp.seq ?_
         obtain ⟨hg,h⟩:=of_guard h
         refine AWp.start [0,1,2] [] [(0:Int) ≤ v26,v26 < (v20.length:Int)] [0,5,8,74,75,76] 1 ⟨[(0,.pc 0 0),(5,q1 v20),(8,tI (gD v20 v26)),(74,.al (.slot 5 0,[])),(75,tI (v20.length:Int)),(76,tI v26)],[.cells 51 [k0 v27,.int .i64 v28,k1 v29]]⟩ rfl ?_ (zz rfl) ⟨hg.1,hg.2⟩ ?_
         ·kernel_rfl
         refine AOps.nil ?_
         refine AWp.seq ?_
         refine AWp.start [0,1] [2] [] [0,5,74,75,76,80,81] 1 ⟨[(0,.pc 0 0),(5,q1 v20),(74,.al (.slot 5 0,[])),(75,tI (v20.length:Int)),(76,tI v26),(80,.pc 0 0),(81,tI (gD v20 v26))],[.cells 51 [k0 v27,.int .i64 v28,k1 v29]]⟩ rfl ?_ (zz rfl) trivial ?_
         ·kernel_rfl
         obtain ⟨v34,hv34,h⟩:=of_bind h
         refine AOps.cons (AOne.callO (F:=(FF 84 1)) _ rfl rfl rfl 82 rfl rfl 70 [] rfl Try.call70 [0] (by decide) [.pc 0 0,tI (gD v20 v26)] (by kernel_rfl) [.cells 51 [k0 v27,.int .i64 v28,k1 v29]] (by kernel_rfl) (f70o_ok (gD v20 v26) (T50.mk v27 v28 v29) hv34) (by kernel_rfl) (by kernel_rfl) _ rfl) ?_
         refine AOps.keepTo [0,5,74,75,76] 1 ⟨[(0,.pc 0 0),(5,q1 v20),(74,.al (.slot 5 0,[])),(75,tI (v20.length:Int)),(76,tI v26)],[.cells 51 [k0 v34.f0,.int .i64 v34.f1,k1 v34.f2]]⟩ ?_ (zz rfl) ?_
         ·kernel_rfl
         refine AOps.nil ?_
         refine AWp.start [0] [] [] [0,2,5,74,75,76] 1 ⟨[(0,.pc 0 0),(2,tB true),(5,q1 v20),(74,.al (.slot 5 0,[])),(75,tI (v20.length:Int)),(76,tI v26)],[.cells 51 [k0 v34.f0,.int .i64 v34.f1,k1 v34.f2]]⟩ rfl ?_ (zz rfl) trivial ?_
         ·kernel_rfl
         refine AOps.nil ?_
         refine AWp.start [0,1] [] [] [0,2,5,74,75,76] 1 ⟨[(0,.pc 0 0),(2,tB true),(5,q1 v20),(74,.al (.slot 5 0,[])),(75,tI (v20.length:Int)),(76,tI (w64 (v26 + (1:Int))))],[.cells 51 [k0 v34.f0,.int .i64 v34.f1,k1 v34.f2]]⟩ rfl ?_ (zz rfl) trivial ?_
         ·kernel_rfl
         refine AOps.nil ?_
         cases h
         exact Or.inl ⟨_,rfl,rfl,rfl⟩
        ·replace h:=of_false h hb
         refine AWp.keepTo [0,2] 1 ⟨[(0,.pc 0 0),(2,tB v25)],[.cells 51 [k0 v27,.int .i64 v28,k1 v29]]⟩ ?_ (zz rfl) ?_
         ·kernel_rfl
         refine AWp.exit ?_
         cases h
         exact Or.inr ⟨_,rfl,by simp,rfl,rfl⟩
       ·intro e σ hp
        rcases y with v35 | ⟨v30,v31,v32,v33⟩
        ·obtain ⟨rfl,rfl⟩:=hp
         cases h
         exact Or.inr ⟨_,rfl,by simp,rfl,rfl⟩
        ·obtain ⟨rfl,rfl⟩:=hp
         cases h
         exact Or.inl ⟨_,rfl,rfl,rfl⟩
  ·replace h:=of_false h hb
   refine AWp.keepTo [] 1 ⟨[],[.cells 51 [k0 v3,.int .i64 v4,k1 v5]]⟩ ?_ (zz rfl) ?_
   ·kernel_rfl
   refine AWp.exit ?_
   cases h
   exact Or.inr ⟨_,rfl,by simp,rfl,rfl⟩
 ·intro e σ hp
  rcases y with v36 | ⟨v6,v7,v8⟩
  ·obtain ⟨rfl,rfl⟩:=hp
   cases h
   exact ⟨.inr rfl,rfl⟩
  ·obtain ⟨rfl,rfl⟩:=hp
   cases h
   exact ⟨.inl rfl,rfl⟩

abbrev hp3 (v2:T50):List AObj:=[.cells 51 [k0 v2.f0,.int .i64 v2.f1,k1 v2.f2],.cells 55 [.str ([]:List UInt8),nS,.str ([]:List UInt8)]]
abbrev hp4 (v1:Int) (v2:T50):List AObj:=[.cells 51 [k0 v2.f0,.int .i64 v2.f1,k1 (v2.f2 ++ [T43.mk v1 ((gD v2.f0 v1).f1)])]]

noncomputable def f43o_j1 (v6:List T60) (v7:Int) (v8:List T43):Option (Bool × T50) :=
 (f32o (T50.mk v6 v7 v8)).bind fun v9=>some (true,T50.mk v9.f0 v9.f1 v9.f2)

noncomputable def f43o (v1:Int) (v2:T50):Option (Bool × T50) :=
 if (0:Int) ≤ v1 ∧ v1 < (v2.f0.length:Int) then (cond (!(((v2.f0.getD v1.toNat default).f2) == ([114,117,110,115]:List UInt8))) (some true) ((f45 v2 v1).bind fun v4=>some (v4 != (0:Int)))).bind fun v3=>cond v3 (some (false,T50.mk v2.f0 v2.f1 v2.f2)) (if (0:Int) ≤ (v2.f0.getD v1.toNat default).f1 ∧ (v2.f0.getD v1.toNat default).f1 < (((v2.f0.getD v1.toNat default).f0).length:Int) then if (v2.f2.length + [T43.mk v1 ((v2.f0.getD v1.toNat default).f1)].length) * 16 ≤ 140737488355328 then if ((((v2.f0.set v1.toNat (T60.mk ((v2.f0.getD v1.toNat default).f0) (w64 (((v2.f0.getD v1.toNat default).f1) + (1:Int))) ((v2.f0.getD v1.toNat default).f2) ((v2.f0.getD v1.toNat default).f3) ((v2.f0.getD v1.toNat default).f4) ((v2.f0.getD v1.toNat default).f5) ((v2.f0.getD v1.toNat default).f6) ((v2.f0.getD v1.toNat default).f7) ((v2.f0.getD v1.toNat default).f8))).getD v1.toNat default).f7).length + [(0:Int)].length) * 8 ≤ 140737488355328 then (f77o v1 (((v2.f0.getD v1.toNat default).f0).getD (Int.toNat ((v2.f0.getD v1.toNat default).f1)) default) (T50.mk ((v2.f0.set v1.toNat (T60.mk ((v2.f0.getD v1.toNat default).f0) (w64 (((v2.f0.getD v1.toNat default).f1) + (1:Int))) ((v2.f0.getD v1.toNat default).f2) ((v2.f0.getD v1.toNat default).f3) ((v2.f0.getD v1.toNat default).f4) ((v2.f0.getD v1.toNat default).f5) ((v2.f0.getD v1.toNat default).f6) ((v2.f0.getD v1.toNat default).f7) ((v2.f0.getD v1.toNat default).f8))).set v1.toNat (T60.mk (((v2.f0.set v1.toNat (T60.mk ((v2.f0.getD v1.toNat default).f0) (w64 (((v2.f0.getD v1.toNat default).f1) + (1:Int))) ((v2.f0.getD v1.toNat default).f2) ((v2.f0.getD v1.toNat default).f3) ((v2.f0.getD v1.toNat default).f4) ((v2.f0.getD v1.toNat default).f5) ((v2.f0.getD v1.toNat default).f6) ((v2.f0.getD v1.toNat default).f7) ((v2.f0.getD v1.toNat default).f8))).getD v1.toNat default).f0) (((v2.f0.set v1.toNat (T60.mk ((v2.f0.getD v1.toNat default).f0) (w64 (((v2.f0.getD v1.toNat default).f1) + (1:Int))) ((v2.f0.getD v1.toNat default).f2) ((v2.f0.getD v1.toNat default).f3) ((v2.f0.getD v1.toNat default).f4) ((v2.f0.getD v1.toNat default).f5) ((v2.f0.getD v1.toNat default).f6) ((v2.f0.getD v1.toNat default).f7) ((v2.f0.getD v1.toNat default).f8))).getD v1.toNat default).f1) (((v2.f0.set v1.toNat (T60.mk ((v2.f0.getD v1.toNat default).f0) (w64 (((v2.f0.getD v1.toNat default).f1) + (1:Int))) ((v2.f0.getD v1.toNat default).f2) ((v2.f0.getD v1.toNat default).f3) ((v2.f0.getD v1.toNat default).f4) ((v2.f0.getD v1.toNat default).f5) ((v2.f0.getD v1.toNat default).f6) ((v2.f0.getD v1.toNat default).f7) ((v2.f0.getD v1.toNat default).f8))).getD v1.toNat default).f2) (((v2.f0.set v1.toNat (T60.mk ((v2.f0.getD v1.toNat default).f0) (w64 (((v2.f0.getD v1.toNat default).f1) + (1:Int))) ((v2.f0.getD v1.toNat default).f2) ((v2.f0.getD v1.toNat default).f3) ((v2.f0.getD v1.toNat default).f4) ((v2.f0.getD v1.toNat default).f5) ((v2.f0.getD v1.toNat default).f6) ((v2.f0.getD v1.toNat default).f7) ((v2.f0.getD v1.toNat default).f8))).getD v1.toNat default).f3) (((v2.f0.set v1.toNat (T60.mk ((v2.f0.getD v1.toNat default).f0) (w64 (((v2.f0.getD v1.toNat default).f1) + (1:Int))) ((v2.f0.getD v1.toNat default).f2) ((v2.f0.getD v1.toNat default).f3) ((v2.f0.getD v1.toNat default).f4) ((v2.f0.getD v1.toNat default).f5) ((v2.f0.getD v1.toNat default).f6) ((v2.f0.getD v1.toNat default).f7) ((v2.f0.getD v1.toNat default).f8))).getD v1.toNat default).f4) (((v2.f0.set v1.toNat (T60.mk ((v2.f0.getD v1.toNat default).f0) (w64 (((v2.f0.getD v1.toNat default).f1) + (1:Int))) ((v2.f0.getD v1.toNat default).f2) ((v2.f0.getD v1.toNat default).f3) ((v2.f0.getD v1.toNat default).f4) ((v2.f0.getD v1.toNat default).f5) ((v2.f0.getD v1.toNat default).f6) ((v2.f0.getD v1.toNat default).f7) ((v2.f0.getD v1.toNat default).f8))).getD v1.toNat default).f5) (((v2.f0.set v1.toNat (T60.mk ((v2.f0.getD v1.toNat default).f0) (w64 (((v2.f0.getD v1.toNat default).f1) + (1:Int))) ((v2.f0.getD v1.toNat default).f2) ((v2.f0.getD v1.toNat default).f3) ((v2.f0.getD v1.toNat default).f4) ((v2.f0.getD v1.toNat default).f5) ((v2.f0.getD v1.toNat default).f6) ((v2.f0.getD v1.toNat default).f7) ((v2.f0.getD v1.toNat default).f8))).getD v1.toNat default).f6) ((((v2.f0.set v1.toNat (T60.mk ((v2.f0.getD v1.toNat default).f0) (w64 (((v2.f0.getD v1.toNat default).f1) + (1:Int))) ((v2.f0.getD v1.toNat default).f2) ((v2.f0.getD v1.toNat default).f3) ((v2.f0.getD v1.toNat default).f4) ((v2.f0.getD v1.toNat default).f5) ((v2.f0.getD v1.toNat default).f6) ((v2.f0.getD v1.toNat default).f7) ((v2.f0.getD v1.toNat default).f8))).getD v1.toNat default).f7) ++ [(0:Int)]) (((v2.f0.set v1.toNat (T60.mk ((v2.f0.getD v1.toNat default).f0) (w64 (((v2.f0.getD v1.toNat default).f1) + (1:Int))) ((v2.f0.getD v1.toNat default).f2) ((v2.f0.getD v1.toNat default).f3) ((v2.f0.getD v1.toNat default).f4) ((v2.f0.getD v1.toNat default).f5) ((v2.f0.getD v1.toNat default).f6) ((v2.f0.getD v1.toNat default).f7) ((v2.f0.getD v1.toNat default).f8))).getD v1.toNat default).f8))) v2.f1 (v2.f2 ++ [T43.mk v1 ((v2.f0.getD v1.toNat default).f1)]))).bind fun v5=>cond (!v5.1) none ((f78 v5.2 v1).bind fun v10=>cond v10 ((f79o v1 (T50.mk v5.2.f0 v5.2.f1 v5.2.f2)).bind fun v11=>f43o_j1 v11.f0 v11.f1 v11.f2) (f43o_j1 v5.2.f0 v5.2.f1 v5.2.f2)) else none else none else none) else none

theorem f43o_ok (v1:Int) (v2:T50) {r:Bool × T50} (h:f43o v1 v2 = some r):ACall Try.prog 43 [.pc 0 0,.tv (.int .i64 v1)] [.cells 51 [ownL 27 61 o60 v2.f0,.int .i64 v2.f1,ownL 2 44 c43 v2.f2]] (.tv (.bool r.1)) [.cells 51 [ownL 27 61 o60 r.2.f0,.int .i64 r.2.f1,ownL 2 44 c43 r.2.f2]]:=by
 refine ACall.of1 (FF 81 1) Try.func43 rfl Try.ntmps43 Try.results43 (zz rfl) rfl rfl ?_
 refine AWp.seq ?_
 refine AWp.start [0] [] [] [0,1] 1 ⟨[(0,.pc 0 0),(1,tI v1)],[.cells 51 [k0 v2.f0,.int .i64 v2.f1,k1 v2.f2]]⟩ rfl ?_ (zz rfl) trivial ?_
 ·kernel_rfl
 refine AOps.nil ?_
 refine AWp.seq ?_
 obtain ⟨hg,h⟩:=of_guard h
 refine AWp.start [0,1,2,3,4,5,6] [] [(0:Int) ≤ v1,v1 < (v2.f0.length:Int)] [0,1,5] 1 ⟨[(0,.pc 0 0),(1,tI v1),(5,.pe (.cell 0 0,[]) v1.toNat 0 27)],[.cells 51 [k0 v2.f0,.int .i64 v2.f1,k1 v2.f2]]⟩ rfl ?_ (zz rfl) ⟨hg.1,hg.2⟩ ?_
 ·kernel_rfl
 refine AOps.nil ?_
 refine AWp.seq ?_
 refine AWp.seq ?_
 refine AWp.start [0,1,2,3,4,5] [6,7,8,9,10] [] [0,1,5,18] 1 ⟨[(0,.pc 0 0),(1,tI v1),(5,.pe (.cell 0 0,[]) v1.toNat 0 27),(18,tB (!(((gD v2.f0 v1).f2) == ([114,117,110,115]:List UInt8))))],[.cells 51 [k0 v2.f0,.int .i64 v2.f1,k1 v2.f2]]⟩ rfl ?_ (zz rfl) trivial ?_
 ·kernel_rfl
 obtain ⟨v3,hc6,h⟩:=of_bind h
 refine AOps.cut [6,7,8,9,10] [] (fun σ=>σ = ⟨[(0,.pc 0 0),(1,tI v1),(5,.pe (.cell 0 0,[]) v1.toNat 0 27),(23,tB v3)],[.cells 51 [k0 v2.f0,.int .i64 v2.f1,k1 v2.f2]]⟩) ?_ fun σ' hJ=>?_
 ·refine AOps.split (fun b=>⟨[(0,.pc 0 0),(1,tI v1),(5,.pe (.cell 0 0,[]) v1.toNat 0 27),(18,tB b)],[.cells 51 [k0 v2.f0,.int .i64 v2.f1,k1 v2.f2]]⟩) _ (fun hb=>?_) fun hb=>?_
  ·replace hc6:=of_true hc6 hb
   refine AOps.go [6,7,8,9,10] [] [] [0,1,5,23] 1 ⟨[(0,.pc 0 0),(1,tI v1),(5,.pe (.cell 0 0,[]) v1.toNat 0 27),(23,tB true)],[.cells 51 [k0 v2.f0,.int .i64 v2.f1,k1 v2.f2]]⟩ ?_ (zz rfl) trivial ?_
   ·kernel_rfl
   cases hc6
   exact AOps.nil rfl
  ·replace hc6:=of_false hc6 hb
   refine AOps.go [6,7] [8,9,10] [] [0,1,5,18,19,20] 1 ⟨[(0,.pc 0 0),(1,tI v1),(5,.pe (.cell 0 0,[]) v1.toNat 0 27),(18,tB false),(19,.pc 0 0),(20,tI v1)],[.cells 51 [k0 v2.f0,.int .i64 v2.f1,k1 v2.f2]]⟩ ?_ (zz rfl) trivial ?_
   ·kernel_rfl
   obtain ⟨v4,hv4,hc6⟩:=of_bind hc6
   refine AOps.cons (AOne.callV (F:=(FF 81 1)) _ rfl rfl rfl 21 rfl rfl 45 [] rfl Try.call45 [.pc 0 0,tI v1] [.rp (c50 v2),tI v1] rfl (.cons (.pc rfl (.cons (.ownL seen60) (.keep rfl (.cons (.ownL (fun _=>.plain rfl)) .nil)))) (.cons (.old rfl) .nil)) (f45_ok v2 v1 hv4) (ind_of rfl) rfl) ?_
   refine AOps.go [9,10] [] [] [0,1,5,23] 1 ⟨[(0,.pc 0 0),(1,tI v1),(5,.pe (.cell 0 0,[]) v1.toNat 0 27),(23,tB (v4 != (0:Int)))],[.cells 51 [k0 v2.f0,.int .i64 v2.f1,k1 v2.f2]]⟩ ?_ (zz rfl) trivial ?_
   ·kernel_rfl
   cases hc6
   exact AOps.nil rfl
 subst hJ
 refine AOps.nil ?_
 refine AWp.cond rfl (fun hb=>?_) fun hb=>?_
 ·replace h:=of_true h hb
  refine AWp.keepTo [] 1 ⟨[],[.cells 51 [k0 v2.f0,.int .i64 v2.f1,k1 v2.f2]]⟩ ?_ (zz rfl) ?_
  ·kernel_rfl
  refine AWp.seq ?_
  refine AWp.start [0] [] [] [4] 1 ⟨[(4,tB false)],[.cells 51 [k0 v2.f0,.int .i64 v2.f1,k1 v2.f2]]⟩ rfl ?_ (zz rfl) trivial ?_
  ·kernel_rfl
  refine AOps.nil ?_
  refine AWp.ret ?_
  cases h
  exact ⟨.inr rfl,rfl⟩
 ·replace h:=of_false h hb
  refine AWp.keepTo [0,1,5] 1 ⟨[(0,.pc 0 0),(1,tI v1),(5,.pe (.cell 0 0,[]) v1.toNat 0 27)],[.cells 51 [k0 v2.f0,.int .i64 v2.f1,k1 v2.f2]]⟩ ?_ (zz rfl) ?_
  ·kernel_rfl
  refine AWp.skip ?_
  refine AWp.seq ?_
  refine AWp.draw FFm _ (n:=12) rfl (ls:=#[n1,n1,n1,n1,n1,n1,n1,n1,n1,n1,n1,n1]) rfl ?_ (fun _ h=>h)
  refine AAny.go (by kernel_rfl) [0,1,2,4,5,6] (fuel':=6) rfl [] #[y1,y1,y1,n1,y1,y1,y1,n1,n1,n1,n1,n1] [0,1,5,26,30] 1 ⟨[(0,.pc 0 0),(1,tI v1),(5,.pe (.cell 0 0,[]) v1.toNat 0 27),(26,.pe (.cell 0 0,[]) v1.toNat 0 27),(30,.pe (.cell 0 0,[]) v1.toNat 1 27)],[.cells 51 [k0 v2.f0,.int .i64 v2.f1,k1 v2.f2]]⟩ ?_ (zz rfl) trivial ?_
  ·kernel_rfl
  obtain ⟨hd4,h⟩:=of_guard h
  refine AAny.share 1 #[y1,y1,y1,y1,y1,y1,y1,y1,y1,y1,y1,n1] ⟨[(0,.pc 0 0),(1,tI v1),(5,.pe (.cell 0 0,[]) v1.toNat 0 27),(6,.pc 1 0),(33,.agg (c54 (((gD v2.f0 v1).f0).getD (Int.toNat ((gD v2.f0 v1).f1)) default)))],hp3 v2⟩ ?_ fun n6_=>?_
  ·refine AAny.step (i:=11) (fuel':=0) rfl (by kernel_rfl) [] #[y1,y1,y1,y1,y1,y1,y1,y1,y1,y1,y1,y1] rfl [0,1,5,6] 2 ⟨[(0,.pc 0 0),(1,tI v1),(5,.pe (.cell 0 0,[]) v1.toNat 0 27),(6,.pc 1 0)],[.cells 51 [k0 v2.f0,.int .i64 v2.f1,k1 v2.f2],.cells 55 (c54 (((gD v2.f0 v1).f0).getD (Int.toNat ((gD v2.f0 v1).f1)) default))]⟩ ?_ (zz rfl) trivial ?_
   ·kernel_rfl
   refine AAny.keepTo [0,1,5,6] 2 ⟨[(0,.pc 0 0),(1,tI v1),(5,.pe (.cell 0 0,[]) v1.toNat 0 27),(6,.pc 1 0)],[.cells 51 [k0 v2.f0,.int .i64 v2.f1,k1 v2.f2],.cells 55 (c54 (((gD v2.f0 v1).f0).getD (Int.toNat ((gD v2.f0 v1).f1)) default))]⟩ _ ?_ rfl (zz rfl) (AAny.done (by kernel_rfl) ?_)
   ·kernel_rfl
   refine AWp.seq ?_
   refine AWp.pin 1 rfl rfl ?_
   refine AWp.keepTo [0,1,5,6] 1 ⟨[(0,.pc 0 0),(1,tI v1),(5,.pe (.cell 0 0,[]) v1.toNat 0 27),(6,.rp (c54 (((gD v2.f0 v1).f0).getD (Int.toNat ((gD v2.f0 v1).f1)) default)))],[.cells 51 [k0 v2.f0,.int .i64 v2.f1,k1 v2.f2]]⟩ ?_ (zz rfl) ?_
   ·kernel_rfl
   refine AWp.draw FFm _ (n:=16) rfl (ls:=#[n1,n1,n1,n1,n1,n1,n1,n1,n1,n1,n1,n1,n1,n1,n1,n1]) rfl ?_ (fun _ h=>h)
   refine AAny.go (by kernel_rfl) [0,1,2,3,5,6,7,8] (fuel':=8) rfl [] #[y1,y1,y1,y1,n1,y1,y1,y1,y1,n1,n1,n1,n1,n1,n1,n1] [0,1,5,6,34,37,39,42] 1 ⟨[(0,.pc 0 0),(1,tI v1),(5,.pe (.cell 0 0,[]) v1.toNat 0 27),(6,.rp (c54 (((gD v2.f0 v1).f0).getD (Int.toNat ((gD v2.f0 v1).f1)) default))),(34,.pc 0 0),(37,.pc 0 2),(39,tI v1),(42,.pe (.cell 0 0,[]) v1.toNat 1 27)],[.cells 51 [k0 v2.f0,.int .i64 v2.f1,k1 v2.f2]]⟩ ?_ (zz rfl) trivial ?_
   ·kernel_rfl
   refine AAny.goR (by kernel_rfl) (i:=9) (fuel':=7) [10,11,12,13,14,15] rfl (by kernel_rfl) (by kernel_rfl) [] #[y1,y1,y1,y1,n1,y1,y1,y1,y1,y1,n1,n1,n1,n1,n1,n1] rfl [0,1,5,6,34,37,39,43] 1 ⟨[(0,.pc 0 0),(1,tI v1),(5,.pe (.cell 0 0,[]) v1.toNat 0 27),(6,.rp (c54 (((gD v2.f0 v1).f0).getD (Int.toNat ((gD v2.f0 v1).f1)) default))),(34,.pc 0 0),(37,.pc 0 2),(39,tI v1),(43,tI ((gD v2.f0 v1).f1))],[.cells 51 [k0 v2.f0,.int .i64 v2.f1,k1 v2.f2]]⟩ ?_ (zz rfl) trivial ?_
   ·kernel_rfl
   refine AAny.go (by kernel_rfl) [10] (fuel':=6) rfl [] #[y1,y1,y1,y1,n1,y1,y1,y1,y1,y1,y1,n1,n1,n1,n1,n1] [0,1,5,6,34,37,44] 1 ⟨[(0,.pc 0 0),(1,tI v1),(5,.pe (.cell 0 0,[]) v1.toNat 0 27),(6,.rp (c54 (((gD v2.f0 v1).f0).getD (Int.toNat ((gD v2.f0 v1).f1)) default))),(34,.pc 0 0),(37,.pc 0 2),(44,.agg [.int .i64 v1,.int .i64 ((gD v2.f0 v1).f1)])],[.cells 51 [k0 v2.f0,.int .i64 v2.f1,k1 v2.f2]]⟩ ?_ (zz rfl) trivial ?_
   ·kernel_rfl
   refine AAny.share 4 #[y1,y1,y1,y1,y1,y1,y1,y1,y1,y1,y1,y1,n1,n1,n1,n1] ⟨[(0,.pc 0 0),(1,tI v1),(5,.pe (.cell 0 0,[]) v1.toNat 0 27),(6,.rp (c54 (((gD v2.f0 v1).f0).getD (Int.toNat ((gD v2.f0 v1).f1)) default))),(34,.pc 0 0),(38,.al (.cell 0 2,[])),(45,.tv (k1 [T43.mk v1 ((gD v2.f0 v1).f1)]))],[.cells 51 [k0 v2.f0,.int .i64 v2.f1,k1 v2.f2]]⟩ ?_ fun n3_=>?_
   ·obtain ⟨hg,h⟩:=of_guard h
    refine AAny.step (i:=12) (fuel':=3) rfl (by kernel_rfl) [(v2.f2.length + [T43.mk v1 ((gD v2.f0 v1).f1)].length) * 16 ≤ 140737488355328,PlainTo v2.f2.length (fun i=>c43 (v2.f2.getD i default)),PlainTo ([T43.mk v1 ((gD v2.f0 v1).f1)].length) (fun i=>c43 ([T43.mk v1 ((gD v2.f0 v1).f1)].getD i default))] #[y1,y1,y1,y1,y1,y1,y1,y1,y1,y1,y1,y1,y1,n1,n1,n1] rfl [0,1,5,6,34,46] 1 ⟨[(0,.pc 0 0),(1,tI v1),(5,.pe (.cell 0 0,[]) v1.toNat 0 27),(6,.rp (c54 (((gD v2.f0 v1).f0).getD (Int.toNat ((gD v2.f0 v1).f1)) default))),(34,.pc 0 0),(46,.tv (.own 2 44 (v2.f2.length + [T43.mk v1 ((gD v2.f0 v1).f1)].length) (appF v2.f2.length (fun i=>c43 (v2.f2.getD i default)) (fun i=>c43 ([T43.mk v1 ((gD v2.f0 v1).f1)].getD i default)))))],[.cells 51 [k0 v2.f0,.int .i64 v2.f1,.hole]]⟩ ?_ (zz rfl) ⟨hg,(fun _ _=>rfl),(fun _ _=>rfl)⟩ ?_
    ·kernel_rfl
    refine AAny.extL 46 c43 (v2.f2 ++ [T43.mk v1 ((gD v2.f0 v1).f1)]) rfl List.length_append.symm (app_at c43 v2.f2 [T43.mk v1 ((gD v2.f0 v1).f1)]) ?_
    refine AAny.go (by kernel_rfl) [13,14] (fuel':=1) rfl [] #[y1,y1,y1,y1,y1,y1,y1,y1,y1,y1,y1,y1,y1,y1,y1,n1] [0,1,5,6,46,48] 1 ⟨[(0,.pc 0 0),(1,tI v1),(5,.pe (.cell 0 0,[]) v1.toNat 0 27),(6,.rp (c54 (((gD v2.f0 v1).f0).getD (Int.toNat ((gD v2.f0 v1).f1)) default))),(46,.tv (k1 (v2.f2 ++ [T43.mk v1 ((gD v2.f0 v1).f1)]))),(48,.pc 0 2)],[.cells 51 [k0 v2.f0,.int .i64 v2.f1,.hole]]⟩ ?_ (zz rfl) trivial ?_
    ·kernel_rfl
    refine AAny.serial (i:=15) (fuel:=0) (by kernel_rfl) (AOne.own (F:=(FF 81 1)) _ rfl rfl rfl rfl) ?_
    refine AAny.keepTo [0,1,5,6] 1 ⟨[(0,.pc 0 0),(1,tI v1),(5,.pe (.cell 0 0,[]) v1.toNat 0 27),(6,.rp (c54 (((gD v2.f0 v1).f0).getD (Int.toNat ((gD v2.f0 v1).f1)) default)))],hp4 v1 v2⟩ #[y1,y1,y1,y1,y1,y1,y1,y1,y1,y1,y1,y1,y1,y1,y1,y1] ?_ rfl (zz rfl) ?_
    ·kernel_rfl
    refine AAny.keepTo [0,1,5,6] 1 ⟨[(0,.pc 0 0),(1,tI v1),(5,.pe (.cell 0 0,[]) v1.toNat 0 27),(6,.rp (c54 (((gD v2.f0 v1).f0).getD (Int.toNat ((gD v2.f0 v1).f1)) default)))],hp4 v1 v2⟩ _ ?_ rfl (zz rfl) (AAny.done (by kernel_rfl) ?_)
    ·kernel_rfl
    refine AWp.seq ?_
    refine AWp.start [0,1,2,3,4,5,6] [7] [] [0,1,5,6,53,55] 1 ⟨[(0,.pc 0 0),(1,tI v1),(5,.pe (.cell 0 0,[]) v1.toNat 0 27),(6,.rp (c54 (((gD v2.f0 v1).f0).getD (Int.toNat ((gD v2.f0 v1).f1)) default))),(53,tI (w64 (((gD v2.f0 v1).f1) + (1:Int)))),(55,.pe (.cell 0 0,[]) v1.toNat 1 27)],hp4 v1 v2⟩ rfl ?_ (zz rfl) trivial ?_
    ·kernel_rfl
    refine AOps.cons (AOne.storeN (F:=(FF 81 1)) (i:=v1.toNat) (n2:=(v2.f0.set v1.toNat (T60.mk ((gD v2.f0 v1).f0) (w64 (((gD v2.f0 v1).f1) + (1:Int))) ((gD v2.f0 v1).f2) ((gD v2.f0 v1).f3) ((gD v2.f0 v1).f4) ((gD v2.f0 v1).f5) ((gD v2.f0 v1).f6) ((gD v2.f0 v1).f7) ((gD v2.f0 v1).f8))).length) (n':=v2.f0.length) (f:=(fun i=>o60 (v2.f0.getD i default))) (f':=(fun i=>o60 ((v2.f0.set v1.toNat (T60.mk ((gD v2.f0 v1).f0) (w64 (((gD v2.f0 v1).f1) + (1:Int))) ((gD v2.f0 v1).f2) ((gD v2.f0 v1).f3) ((gD v2.f0 v1).f4) ((gD v2.f0 v1).f5) ((gD v2.f0 v1).f6) ((gD v2.f0 v1).f7) ((gD v2.f0 v1).f8))).getD i default))) _ rfl rfl rfl rfl rfl rfl rfl rfl rfl (set_at o60 v2.f0 v1.toNat 1 [.int .i64 (w64 (((gD v2.f0 v1).f1) + (1:Int)))] (T60.mk ((gD v2.f0 v1).f0) (w64 (((gD v2.f0 v1).f1) + (1:Int))) ((gD v2.f0 v1).f2) ((gD v2.f0 v1).f3) ((gD v2.f0 v1).f4) ((gD v2.f0 v1).f5) ((gD v2.f0 v1).f6) ((gD v2.f0 v1).f7) ((gD v2.f0 v1).f8)) rfl) List.length_set.symm rfl) ?_
    refine AOps.keepTo [0,1,5,6] 1 ⟨[(0,.pc 0 0),(1,tI v1),(5,.pe (.cell 0 0,[]) v1.toNat 0 27),(6,.rp (c54 (((gD v2.f0 v1).f0).getD (Int.toNat ((gD v2.f0 v1).f1)) default)))],[.cells 51 [k0 (v2.f0.set v1.toNat (T60.mk ((gD v2.f0 v1).f0) (w64 (((gD v2.f0 v1).f1) + (1:Int))) ((gD v2.f0 v1).f2) ((gD v2.f0 v1).f3) ((gD v2.f0 v1).f4) ((gD v2.f0 v1).f5) ((gD v2.f0 v1).f6) ((gD v2.f0 v1).f7) ((gD v2.f0 v1).f8))),.int .i64 v2.f1,k1 (v2.f2 ++ [T43.mk v1 ((gD v2.f0 v1).f1)])]]⟩ ?_ (zz rfl) ?_
    ·kernel_rfl
    refine AOps.nil ?_
    refine AWp.seq ?_
    refine AWp.start [0,1,2,3,4,5] [6,7,8,9] [] [0,1,5,6,56,60,61] 1 ⟨[(0,.pc 0 0),(1,tI v1),(5,.pe (.cell 0 0,[]) v1.toNat 0 27),(6,.rp (c54 (((gD v2.f0 v1).f0).getD (Int.toNat ((gD v2.f0 v1).f1)) default))),(56,.pe (.cell 0 0,[]) v1.toNat 0 27),(60,.al (.cell 0 0,[(v1.toNat,25)])),(61,.tv (.own 1 3 1 (newRowF [.int .i64 (0:Int)] 1)))],[.cells 51 [k0 (v2.f0.set v1.toNat (T60.mk ((gD v2.f0 v1).f0) (w64 (((gD v2.f0 v1).f1) + (1:Int))) ((gD v2.f0 v1).f2) ((gD v2.f0 v1).f3) ((gD v2.f0 v1).f4) ((gD v2.f0 v1).f5) ((gD v2.f0 v1).f6) ((gD v2.f0 v1).f7) ((gD v2.f0 v1).f8))),.int .i64 v2.f1,k1 (v2.f2 ++ [T43.mk v1 ((gD v2.f0 v1).f1)])]]⟩ rfl ?_ (zz rfl) trivial ?_
    ·kernel_rfl
    refine AOps.extL 61 (cInt .i64) [(0:Int)] rfl rfl (row_at (cInt .i64) 1 (fun _=>rfl) [(0:Int)] _ rfl) ?_
    refine AOps.claimN 60 (.cell 0 0) v1.toNat 25 (f':=setElem (fun i=>o60 ((v2.f0.set v1.toNat (T60.mk ((gD v2.f0 v1).f0) (w64 (((gD v2.f0 v1).f1) + (1:Int))) ((gD v2.f0 v1).f2) ((gD v2.f0 v1).f3) ((gD v2.f0 v1).f4) ((gD v2.f0 v1).f5) ((gD v2.f0 v1).f6) ((gD v2.f0 v1).f7) ((gD v2.f0 v1).f8))).getD i default)) v1.toNat ((o60 (gD (v2.f0.set v1.toNat (T60.mk ((gD v2.f0 v1).f0) (w64 (((gD v2.f0 v1).f1) + (1:Int))) ((gD v2.f0 v1).f2) ((gD v2.f0 v1).f3) ((gD v2.f0 v1).f4) ((gD v2.f0 v1).f5) ((gD v2.f0 v1).f6) ((gD v2.f0 v1).f7) ((gD v2.f0 v1).f8))) v1)).set 25 .hole)) (n1:=((gD (v2.f0.set v1.toNat (T60.mk ((gD v2.f0 v1).f0) (w64 (((gD v2.f0 v1).f1) + (1:Int))) ((gD v2.f0 v1).f2) ((gD v2.f0 v1).f3) ((gD v2.f0 v1).f4) ((gD v2.f0 v1).f5) ((gD v2.f0 v1).f6) ((gD v2.f0 v1).f7) ((gD v2.f0 v1).f8))) v1).f7).length) (f1:=(fun i=>(cInt .i64) (((gD (v2.f0.set v1.toNat (T60.mk ((gD v2.f0 v1).f0) (w64 (((gD v2.f0 v1).f1) + (1:Int))) ((gD v2.f0 v1).f2) ((gD v2.f0 v1).f3) ((gD v2.f0 v1).f4) ((gD v2.f0 v1).f5) ((gD v2.f0 v1).f6) ((gD v2.f0 v1).f7) ((gD v2.f0 v1).f8))) v1).f7).getD i default))) rfl rfl rfl rfl rfl (fun _ _=>rfl) ?_
    obtain ⟨hg,h⟩:=of_guard h
    refine AOps.go [6] [7,8,9] [(((gD (v2.f0.set v1.toNat (T60.mk ((gD v2.f0 v1).f0) (w64 (((gD v2.f0 v1).f1) + (1:Int))) ((gD v2.f0 v1).f2) ((gD v2.f0 v1).f3) ((gD v2.f0 v1).f4) ((gD v2.f0 v1).f5) ((gD v2.f0 v1).f6) ((gD v2.f0 v1).f7) ((gD v2.f0 v1).f8))) v1).f7).length + [(0:Int)].length) * 8 ≤ 140737488355328,PlainTo (((gD (v2.f0.set v1.toNat (T60.mk ((gD v2.f0 v1).f0) (w64 (((gD v2.f0 v1).f1) + (1:Int))) ((gD v2.f0 v1).f2) ((gD v2.f0 v1).f3) ((gD v2.f0 v1).f4) ((gD v2.f0 v1).f5) ((gD v2.f0 v1).f6) ((gD v2.f0 v1).f7) ((gD v2.f0 v1).f8))) v1).f7).length) (fun i=>(cInt .i64) (((gD (v2.f0.set v1.toNat (T60.mk ((gD v2.f0 v1).f0) (w64 (((gD v2.f0 v1).f1) + (1:Int))) ((gD v2.f0 v1).f2) ((gD v2.f0 v1).f3) ((gD v2.f0 v1).f4) ((gD v2.f0 v1).f5) ((gD v2.f0 v1).f6) ((gD v2.f0 v1).f7) ((gD v2.f0 v1).f8))) v1).f7).getD i default)),PlainTo ([(0:Int)].length) (fun i=>(cInt .i64) ([(0:Int)].getD i default))] [0,1,5,6,56,62] 1 ⟨[(0,.pc 0 0),(1,tI v1),(5,.pe (.cell 0 0,[]) v1.toNat 0 27),(6,.rp (c54 (((gD v2.f0 v1).f0).getD (Int.toNat ((gD v2.f0 v1).f1)) default))),(56,.pe (.cell 0 0,[]) v1.toNat 0 27),(62,.tv (.own 1 3 (((gD (v2.f0.set v1.toNat (T60.mk ((gD v2.f0 v1).f0) (w64 (((gD v2.f0 v1).f1) + (1:Int))) ((gD v2.f0 v1).f2) ((gD v2.f0 v1).f3) ((gD v2.f0 v1).f4) ((gD v2.f0 v1).f5) ((gD v2.f0 v1).f6) ((gD v2.f0 v1).f7) ((gD v2.f0 v1).f8))) v1).f7).length + [(0:Int)].length) (appF (((gD (v2.f0.set v1.toNat (T60.mk ((gD v2.f0 v1).f0) (w64 (((gD v2.f0 v1).f1) + (1:Int))) ((gD v2.f0 v1).f2) ((gD v2.f0 v1).f3) ((gD v2.f0 v1).f4) ((gD v2.f0 v1).f5) ((gD v2.f0 v1).f6) ((gD v2.f0 v1).f7) ((gD v2.f0 v1).f8))) v1).f7).length) (fun i=>(cInt .i64) (((gD (v2.f0.set v1.toNat (T60.mk ((gD v2.f0 v1).f0) (w64 (((gD v2.f0 v1).f1) + (1:Int))) ((gD v2.f0 v1).f2) ((gD v2.f0 v1).f3) ((gD v2.f0 v1).f4) ((gD v2.f0 v1).f5) ((gD v2.f0 v1).f6) ((gD v2.f0 v1).f7) ((gD v2.f0 v1).f8))) v1).f7).getD i default)) (fun i=>(cInt .i64) ([(0:Int)].getD i default)))))],[.cells 51 [.own 27 61 ((v2.f0.set v1.toNat (T60.mk ((gD v2.f0 v1).f0) (w64 (((gD v2.f0 v1).f1) + (1:Int))) ((gD v2.f0 v1).f2) ((gD v2.f0 v1).f3) ((gD v2.f0 v1).f4) ((gD v2.f0 v1).f5) ((gD v2.f0 v1).f6) ((gD v2.f0 v1).f7) ((gD v2.f0 v1).f8))).length) (setElem (fun i=>o60 ((v2.f0.set v1.toNat (T60.mk ((gD v2.f0 v1).f0) (w64 (((gD v2.f0 v1).f1) + (1:Int))) ((gD v2.f0 v1).f2) ((gD v2.f0 v1).f3) ((gD v2.f0 v1).f4) ((gD v2.f0 v1).f5) ((gD v2.f0 v1).f6) ((gD v2.f0 v1).f7) ((gD v2.f0 v1).f8))).getD i default)) v1.toNat ((o60 (gD (v2.f0.set v1.toNat (T60.mk ((gD v2.f0 v1).f0) (w64 (((gD v2.f0 v1).f1) + (1:Int))) ((gD v2.f0 v1).f2) ((gD v2.f0 v1).f3) ((gD v2.f0 v1).f4) ((gD v2.f0 v1).f5) ((gD v2.f0 v1).f6) ((gD v2.f0 v1).f7) ((gD v2.f0 v1).f8))) v1)).set 25 .hole)),.int .i64 v2.f1,k1 (v2.f2 ++ [T43.mk v1 ((gD v2.f0 v1).f1)])]]⟩ ?_ (zz rfl) ⟨hg,(fun _ _=>rfl),(fun _ _=>rfl)⟩ ?_
    ·kernel_rfl
    refine AOps.extL 62 (cInt .i64) (((gD (v2.f0.set v1.toNat (T60.mk ((gD v2.f0 v1).f0) (w64 (((gD v2.f0 v1).f1) + (1:Int))) ((gD v2.f0 v1).f2) ((gD v2.f0 v1).f3) ((gD v2.f0 v1).f4) ((gD v2.f0 v1).f5) ((gD v2.f0 v1).f6) ((gD v2.f0 v1).f7) ((gD v2.f0 v1).f8))) v1).f7) ++ [(0:Int)]) rfl List.length_append.symm (app_at (cInt .i64) ((gD (v2.f0.set v1.toNat (T60.mk ((gD v2.f0 v1).f0) (w64 (((gD v2.f0 v1).f1) + (1:Int))) ((gD v2.f0 v1).f2) ((gD v2.f0 v1).f3) ((gD v2.f0 v1).f4) ((gD v2.f0 v1).f5) ((gD v2.f0 v1).f6) ((gD v2.f0 v1).f7) ((gD v2.f0 v1).f8))) v1).f7) [(0:Int)]) ?_
    refine AOps.go [7,8] [9] [] [0,1,5,6,62,64] 1 ⟨[(0,.pc 0 0),(1,tI v1),(5,.pe (.cell 0 0,[]) v1.toNat 0 27),(6,.rp (c54 (((gD v2.f0 v1).f0).getD (Int.toNat ((gD v2.f0 v1).f1)) default))),(62,q1 (((gD (v2.f0.set v1.toNat (T60.mk ((gD v2.f0 v1).f0) (w64 (((gD v2.f0 v1).f1) + (1:Int))) ((gD v2.f0 v1).f2) ((gD v2.f0 v1).f3) ((gD v2.f0 v1).f4) ((gD v2.f0 v1).f5) ((gD v2.f0 v1).f6) ((gD v2.f0 v1).f7) ((gD v2.f0 v1).f8))) v1).f7) ++ [(0:Int)])),(64,.pe (.cell 0 0,[]) v1.toNat 25 27)],[.cells 51 [.own 27 61 ((v2.f0.set v1.toNat (T60.mk ((gD v2.f0 v1).f0) (w64 (((gD v2.f0 v1).f1) + (1:Int))) ((gD v2.f0 v1).f2) ((gD v2.f0 v1).f3) ((gD v2.f0 v1).f4) ((gD v2.f0 v1).f5) ((gD v2.f0 v1).f6) ((gD v2.f0 v1).f7) ((gD v2.f0 v1).f8))).length) (setElem (fun i=>o60 ((v2.f0.set v1.toNat (T60.mk ((gD v2.f0 v1).f0) (w64 (((gD v2.f0 v1).f1) + (1:Int))) ((gD v2.f0 v1).f2) ((gD v2.f0 v1).f3) ((gD v2.f0 v1).f4) ((gD v2.f0 v1).f5) ((gD v2.f0 v1).f6) ((gD v2.f0 v1).f7) ((gD v2.f0 v1).f8))).getD i default)) v1.toNat ((o60 (gD (v2.f0.set v1.toNat (T60.mk ((gD v2.f0 v1).f0) (w64 (((gD v2.f0 v1).f1) + (1:Int))) ((gD v2.f0 v1).f2) ((gD v2.f0 v1).f3) ((gD v2.f0 v1).f4) ((gD v2.f0 v1).f5) ((gD v2.f0 v1).f6) ((gD v2.f0 v1).f7) ((gD v2.f0 v1).f8))) v1)).set 25 .hole)),.int .i64 v2.f1,k1 (v2.f2 ++ [T43.mk v1 ((gD v2.f0 v1).f1)])]]⟩ ?_ (zz rfl) trivial ?_
    ·kernel_rfl
    refine AOps.cons (AOne.storeNO (F:=(FF 81 1)) (i:=v1.toNat) (n2:=((v2.f0.set v1.toNat (T60.mk ((gD v2.f0 v1).f0) (w64 (((gD v2.f0 v1).f1) + (1:Int))) ((gD v2.f0 v1).f2) ((gD v2.f0 v1).f3) ((gD v2.f0 v1).f4) ((gD v2.f0 v1).f5) ((gD v2.f0 v1).f6) ((gD v2.f0 v1).f7) ((gD v2.f0 v1).f8))).set v1.toNat (T60.mk ((gD (v2.f0.set v1.toNat (T60.mk ((gD v2.f0 v1).f0) (w64 (((gD v2.f0 v1).f1) + (1:Int))) ((gD v2.f0 v1).f2) ((gD v2.f0 v1).f3) ((gD v2.f0 v1).f4) ((gD v2.f0 v1).f5) ((gD v2.f0 v1).f6) ((gD v2.f0 v1).f7) ((gD v2.f0 v1).f8))) v1).f0) ((gD (v2.f0.set v1.toNat (T60.mk ((gD v2.f0 v1).f0) (w64 (((gD v2.f0 v1).f1) + (1:Int))) ((gD v2.f0 v1).f2) ((gD v2.f0 v1).f3) ((gD v2.f0 v1).f4) ((gD v2.f0 v1).f5) ((gD v2.f0 v1).f6) ((gD v2.f0 v1).f7) ((gD v2.f0 v1).f8))) v1).f1) ((gD (v2.f0.set v1.toNat (T60.mk ((gD v2.f0 v1).f0) (w64 (((gD v2.f0 v1).f1) + (1:Int))) ((gD v2.f0 v1).f2) ((gD v2.f0 v1).f3) ((gD v2.f0 v1).f4) ((gD v2.f0 v1).f5) ((gD v2.f0 v1).f6) ((gD v2.f0 v1).f7) ((gD v2.f0 v1).f8))) v1).f2) ((gD (v2.f0.set v1.toNat (T60.mk ((gD v2.f0 v1).f0) (w64 (((gD v2.f0 v1).f1) + (1:Int))) ((gD v2.f0 v1).f2) ((gD v2.f0 v1).f3) ((gD v2.f0 v1).f4) ((gD v2.f0 v1).f5) ((gD v2.f0 v1).f6) ((gD v2.f0 v1).f7) ((gD v2.f0 v1).f8))) v1).f3) ((gD (v2.f0.set v1.toNat (T60.mk ((gD v2.f0 v1).f0) (w64 (((gD v2.f0 v1).f1) + (1:Int))) ((gD v2.f0 v1).f2) ((gD v2.f0 v1).f3) ((gD v2.f0 v1).f4) ((gD v2.f0 v1).f5) ((gD v2.f0 v1).f6) ((gD v2.f0 v1).f7) ((gD v2.f0 v1).f8))) v1).f4) ((gD (v2.f0.set v1.toNat (T60.mk ((gD v2.f0 v1).f0) (w64 (((gD v2.f0 v1).f1) + (1:Int))) ((gD v2.f0 v1).f2) ((gD v2.f0 v1).f3) ((gD v2.f0 v1).f4) ((gD v2.f0 v1).f5) ((gD v2.f0 v1).f6) ((gD v2.f0 v1).f7) ((gD v2.f0 v1).f8))) v1).f5) ((gD (v2.f0.set v1.toNat (T60.mk ((gD v2.f0 v1).f0) (w64 (((gD v2.f0 v1).f1) + (1:Int))) ((gD v2.f0 v1).f2) ((gD v2.f0 v1).f3) ((gD v2.f0 v1).f4) ((gD v2.f0 v1).f5) ((gD v2.f0 v1).f6) ((gD v2.f0 v1).f7) ((gD v2.f0 v1).f8))) v1).f6) (((gD (v2.f0.set v1.toNat (T60.mk ((gD v2.f0 v1).f0) (w64 (((gD v2.f0 v1).f1) + (1:Int))) ((gD v2.f0 v1).f2) ((gD v2.f0 v1).f3) ((gD v2.f0 v1).f4) ((gD v2.f0 v1).f5) ((gD v2.f0 v1).f6) ((gD v2.f0 v1).f7) ((gD v2.f0 v1).f8))) v1).f7) ++ [(0:Int)]) ((gD (v2.f0.set v1.toNat (T60.mk ((gD v2.f0 v1).f0) (w64 (((gD v2.f0 v1).f1) + (1:Int))) ((gD v2.f0 v1).f2) ((gD v2.f0 v1).f3) ((gD v2.f0 v1).f4) ((gD v2.f0 v1).f5) ((gD v2.f0 v1).f6) ((gD v2.f0 v1).f7) ((gD v2.f0 v1).f8))) v1).f8))).length) (n':=(v2.f0.set v1.toNat (T60.mk ((gD v2.f0 v1).f0) (w64 (((gD v2.f0 v1).f1) + (1:Int))) ((gD v2.f0 v1).f2) ((gD v2.f0 v1).f3) ((gD v2.f0 v1).f4) ((gD v2.f0 v1).f5) ((gD v2.f0 v1).f6) ((gD v2.f0 v1).f7) ((gD v2.f0 v1).f8))).length) (f:=setElem (fun i=>o60 ((v2.f0.set v1.toNat (T60.mk ((gD v2.f0 v1).f0) (w64 (((gD v2.f0 v1).f1) + (1:Int))) ((gD v2.f0 v1).f2) ((gD v2.f0 v1).f3) ((gD v2.f0 v1).f4) ((gD v2.f0 v1).f5) ((gD v2.f0 v1).f6) ((gD v2.f0 v1).f7) ((gD v2.f0 v1).f8))).getD i default)) v1.toNat ((o60 (gD (v2.f0.set v1.toNat (T60.mk ((gD v2.f0 v1).f0) (w64 (((gD v2.f0 v1).f1) + (1:Int))) ((gD v2.f0 v1).f2) ((gD v2.f0 v1).f3) ((gD v2.f0 v1).f4) ((gD v2.f0 v1).f5) ((gD v2.f0 v1).f6) ((gD v2.f0 v1).f7) ((gD v2.f0 v1).f8))) v1)).set 25 .hole)) (f':=(fun i=>o60 (((v2.f0.set v1.toNat (T60.mk ((gD v2.f0 v1).f0) (w64 (((gD v2.f0 v1).f1) + (1:Int))) ((gD v2.f0 v1).f2) ((gD v2.f0 v1).f3) ((gD v2.f0 v1).f4) ((gD v2.f0 v1).f5) ((gD v2.f0 v1).f6) ((gD v2.f0 v1).f7) ((gD v2.f0 v1).f8))).set v1.toNat (T60.mk ((gD (v2.f0.set v1.toNat (T60.mk ((gD v2.f0 v1).f0) (w64 (((gD v2.f0 v1).f1) + (1:Int))) ((gD v2.f0 v1).f2) ((gD v2.f0 v1).f3) ((gD v2.f0 v1).f4) ((gD v2.f0 v1).f5) ((gD v2.f0 v1).f6) ((gD v2.f0 v1).f7) ((gD v2.f0 v1).f8))) v1).f0) ((gD (v2.f0.set v1.toNat (T60.mk ((gD v2.f0 v1).f0) (w64 (((gD v2.f0 v1).f1) + (1:Int))) ((gD v2.f0 v1).f2) ((gD v2.f0 v1).f3) ((gD v2.f0 v1).f4) ((gD v2.f0 v1).f5) ((gD v2.f0 v1).f6) ((gD v2.f0 v1).f7) ((gD v2.f0 v1).f8))) v1).f1) ((gD (v2.f0.set v1.toNat (T60.mk ((gD v2.f0 v1).f0) (w64 (((gD v2.f0 v1).f1) + (1:Int))) ((gD v2.f0 v1).f2) ((gD v2.f0 v1).f3) ((gD v2.f0 v1).f4) ((gD v2.f0 v1).f5) ((gD v2.f0 v1).f6) ((gD v2.f0 v1).f7) ((gD v2.f0 v1).f8))) v1).f2) ((gD (v2.f0.set v1.toNat (T60.mk ((gD v2.f0 v1).f0) (w64 (((gD v2.f0 v1).f1) + (1:Int))) ((gD v2.f0 v1).f2) ((gD v2.f0 v1).f3) ((gD v2.f0 v1).f4) ((gD v2.f0 v1).f5) ((gD v2.f0 v1).f6) ((gD v2.f0 v1).f7) ((gD v2.f0 v1).f8))) v1).f3) ((gD (v2.f0.set v1.toNat (T60.mk ((gD v2.f0 v1).f0) (w64 (((gD v2.f0 v1).f1) + (1:Int))) ((gD v2.f0 v1).f2) ((gD v2.f0 v1).f3) ((gD v2.f0 v1).f4) ((gD v2.f0 v1).f5) ((gD v2.f0 v1).f6) ((gD v2.f0 v1).f7) ((gD v2.f0 v1).f8))) v1).f4) ((gD (v2.f0.set v1.toNat (T60.mk ((gD v2.f0 v1).f0) (w64 (((gD v2.f0 v1).f1) + (1:Int))) ((gD v2.f0 v1).f2) ((gD v2.f0 v1).f3) ((gD v2.f0 v1).f4) ((gD v2.f0 v1).f5) ((gD v2.f0 v1).f6) ((gD v2.f0 v1).f7) ((gD v2.f0 v1).f8))) v1).f5) ((gD (v2.f0.set v1.toNat (T60.mk ((gD v2.f0 v1).f0) (w64 (((gD v2.f0 v1).f1) + (1:Int))) ((gD v2.f0 v1).f2) ((gD v2.f0 v1).f3) ((gD v2.f0 v1).f4) ((gD v2.f0 v1).f5) ((gD v2.f0 v1).f6) ((gD v2.f0 v1).f7) ((gD v2.f0 v1).f8))) v1).f6) (((gD (v2.f0.set v1.toNat (T60.mk ((gD v2.f0 v1).f0) (w64 (((gD v2.f0 v1).f1) + (1:Int))) ((gD v2.f0 v1).f2) ((gD v2.f0 v1).f3) ((gD v2.f0 v1).f4) ((gD v2.f0 v1).f5) ((gD v2.f0 v1).f6) ((gD v2.f0 v1).f7) ((gD v2.f0 v1).f8))) v1).f7) ++ [(0:Int)]) ((gD (v2.f0.set v1.toNat (T60.mk ((gD v2.f0 v1).f0) (w64 (((gD v2.f0 v1).f1) + (1:Int))) ((gD v2.f0 v1).f2) ((gD v2.f0 v1).f3) ((gD v2.f0 v1).f4) ((gD v2.f0 v1).f5) ((gD v2.f0 v1).f6) ((gD v2.f0 v1).f7) ((gD v2.f0 v1).f8))) v1).f8))).getD i default))) _ rfl rfl rfl rfl rfl (x:=k5 (((gD (v2.f0.set v1.toNat (T60.mk ((gD v2.f0 v1).f0) (w64 (((gD v2.f0 v1).f1) + (1:Int))) ((gD v2.f0 v1).f2) ((gD v2.f0 v1).f3) ((gD v2.f0 v1).f4) ((gD v2.f0 v1).f5) ((gD v2.f0 v1).f6) ((gD v2.f0 v1).f7) ((gD v2.f0 v1).f8))) v1).f7) ++ [(0:Int)])) rfl (by intro hh; cases hh) rfl rfl rfl (setN_at o60 (v2.f0.set v1.toNat (T60.mk ((gD v2.f0 v1).f0) (w64 (((gD v2.f0 v1).f1) + (1:Int))) ((gD v2.f0 v1).f2) ((gD v2.f0 v1).f3) ((gD v2.f0 v1).f4) ((gD v2.f0 v1).f5) ((gD v2.f0 v1).f6) ((gD v2.f0 v1).f7) ((gD v2.f0 v1).f8))) v1.toNat 25 (k5 (((gD (v2.f0.set v1.toNat (T60.mk ((gD v2.f0 v1).f0) (w64 (((gD v2.f0 v1).f1) + (1:Int))) ((gD v2.f0 v1).f2) ((gD v2.f0 v1).f3) ((gD v2.f0 v1).f4) ((gD v2.f0 v1).f5) ((gD v2.f0 v1).f6) ((gD v2.f0 v1).f7) ((gD v2.f0 v1).f8))) v1).f7) ++ [(0:Int)])) (T60.mk ((gD (v2.f0.set v1.toNat (T60.mk ((gD v2.f0 v1).f0) (w64 (((gD v2.f0 v1).f1) + (1:Int))) ((gD v2.f0 v1).f2) ((gD v2.f0 v1).f3) ((gD v2.f0 v1).f4) ((gD v2.f0 v1).f5) ((gD v2.f0 v1).f6) ((gD v2.f0 v1).f7) ((gD v2.f0 v1).f8))) v1).f0) ((gD (v2.f0.set v1.toNat (T60.mk ((gD v2.f0 v1).f0) (w64 (((gD v2.f0 v1).f1) + (1:Int))) ((gD v2.f0 v1).f2) ((gD v2.f0 v1).f3) ((gD v2.f0 v1).f4) ((gD v2.f0 v1).f5) ((gD v2.f0 v1).f6) ((gD v2.f0 v1).f7) ((gD v2.f0 v1).f8))) v1).f1) ((gD (v2.f0.set v1.toNat (T60.mk ((gD v2.f0 v1).f0) (w64 (((gD v2.f0 v1).f1) + (1:Int))) ((gD v2.f0 v1).f2) ((gD v2.f0 v1).f3) ((gD v2.f0 v1).f4) ((gD v2.f0 v1).f5) ((gD v2.f0 v1).f6) ((gD v2.f0 v1).f7) ((gD v2.f0 v1).f8))) v1).f2) ((gD (v2.f0.set v1.toNat (T60.mk ((gD v2.f0 v1).f0) (w64 (((gD v2.f0 v1).f1) + (1:Int))) ((gD v2.f0 v1).f2) ((gD v2.f0 v1).f3) ((gD v2.f0 v1).f4) ((gD v2.f0 v1).f5) ((gD v2.f0 v1).f6) ((gD v2.f0 v1).f7) ((gD v2.f0 v1).f8))) v1).f3) ((gD (v2.f0.set v1.toNat (T60.mk ((gD v2.f0 v1).f0) (w64 (((gD v2.f0 v1).f1) + (1:Int))) ((gD v2.f0 v1).f2) ((gD v2.f0 v1).f3) ((gD v2.f0 v1).f4) ((gD v2.f0 v1).f5) ((gD v2.f0 v1).f6) ((gD v2.f0 v1).f7) ((gD v2.f0 v1).f8))) v1).f4) ((gD (v2.f0.set v1.toNat (T60.mk ((gD v2.f0 v1).f0) (w64 (((gD v2.f0 v1).f1) + (1:Int))) ((gD v2.f0 v1).f2) ((gD v2.f0 v1).f3) ((gD v2.f0 v1).f4) ((gD v2.f0 v1).f5) ((gD v2.f0 v1).f6) ((gD v2.f0 v1).f7) ((gD v2.f0 v1).f8))) v1).f5) ((gD (v2.f0.set v1.toNat (T60.mk ((gD v2.f0 v1).f0) (w64 (((gD v2.f0 v1).f1) + (1:Int))) ((gD v2.f0 v1).f2) ((gD v2.f0 v1).f3) ((gD v2.f0 v1).f4) ((gD v2.f0 v1).f5) ((gD v2.f0 v1).f6) ((gD v2.f0 v1).f7) ((gD v2.f0 v1).f8))) v1).f6) (((gD (v2.f0.set v1.toNat (T60.mk ((gD v2.f0 v1).f0) (w64 (((gD v2.f0 v1).f1) + (1:Int))) ((gD v2.f0 v1).f2) ((gD v2.f0 v1).f3) ((gD v2.f0 v1).f4) ((gD v2.f0 v1).f5) ((gD v2.f0 v1).f6) ((gD v2.f0 v1).f7) ((gD v2.f0 v1).f8))) v1).f7) ++ [(0:Int)]) ((gD (v2.f0.set v1.toNat (T60.mk ((gD v2.f0 v1).f0) (w64 (((gD v2.f0 v1).f1) + (1:Int))) ((gD v2.f0 v1).f2) ((gD v2.f0 v1).f3) ((gD v2.f0 v1).f4) ((gD v2.f0 v1).f5) ((gD v2.f0 v1).f6) ((gD v2.f0 v1).f7) ((gD v2.f0 v1).f8))) v1).f8)) rfl) List.length_set.symm [0,1,5,6] 1 (zz rfl) (σ':=⟨[(0,.pc 0 0),(1,tI v1),(5,.pe (.cell 0 0,[]) v1.toNat 0 27),(6,.rp (c54 (((gD v2.f0 v1).f0).getD (Int.toNat ((gD v2.f0 v1).f1)) default)))],[.cells 51 [k0 ((v2.f0.set v1.toNat (T60.mk ((gD v2.f0 v1).f0) (w64 (((gD v2.f0 v1).f1) + (1:Int))) ((gD v2.f0 v1).f2) ((gD v2.f0 v1).f3) ((gD v2.f0 v1).f4) ((gD v2.f0 v1).f5) ((gD v2.f0 v1).f6) ((gD v2.f0 v1).f7) ((gD v2.f0 v1).f8))).set v1.toNat (T60.mk ((gD (v2.f0.set v1.toNat (T60.mk ((gD v2.f0 v1).f0) (w64 (((gD v2.f0 v1).f1) + (1:Int))) ((gD v2.f0 v1).f2) ((gD v2.f0 v1).f3) ((gD v2.f0 v1).f4) ((gD v2.f0 v1).f5) ((gD v2.f0 v1).f6) ((gD v2.f0 v1).f7) ((gD v2.f0 v1).f8))) v1).f0) ((gD (v2.f0.set v1.toNat (T60.mk ((gD v2.f0 v1).f0) (w64 (((gD v2.f0 v1).f1) + (1:Int))) ((gD v2.f0 v1).f2) ((gD v2.f0 v1).f3) ((gD v2.f0 v1).f4) ((gD v2.f0 v1).f5) ((gD v2.f0 v1).f6) ((gD v2.f0 v1).f7) ((gD v2.f0 v1).f8))) v1).f1) ((gD (v2.f0.set v1.toNat (T60.mk ((gD v2.f0 v1).f0) (w64 (((gD v2.f0 v1).f1) + (1:Int))) ((gD v2.f0 v1).f2) ((gD v2.f0 v1).f3) ((gD v2.f0 v1).f4) ((gD v2.f0 v1).f5) ((gD v2.f0 v1).f6) ((gD v2.f0 v1).f7) ((gD v2.f0 v1).f8))) v1).f2) ((gD (v2.f0.set v1.toNat (T60.mk ((gD v2.f0 v1).f0) (w64 (((gD v2.f0 v1).f1) + (1:Int))) ((gD v2.f0 v1).f2) ((gD v2.f0 v1).f3) ((gD v2.f0 v1).f4) ((gD v2.f0 v1).f5) ((gD v2.f0 v1).f6) ((gD v2.f0 v1).f7) ((gD v2.f0 v1).f8))) v1).f3) ((gD (v2.f0.set v1.toNat (T60.mk ((gD v2.f0 v1).f0) (w64 (((gD v2.f0 v1).f1) + (1:Int))) ((gD v2.f0 v1).f2) ((gD v2.f0 v1).f3) ((gD v2.f0 v1).f4) ((gD v2.f0 v1).f5) ((gD v2.f0 v1).f6) ((gD v2.f0 v1).f7) ((gD v2.f0 v1).f8))) v1).f4) ((gD (v2.f0.set v1.toNat (T60.mk ((gD v2.f0 v1).f0) (w64 (((gD v2.f0 v1).f1) + (1:Int))) ((gD v2.f0 v1).f2) ((gD v2.f0 v1).f3) ((gD v2.f0 v1).f4) ((gD v2.f0 v1).f5) ((gD v2.f0 v1).f6) ((gD v2.f0 v1).f7) ((gD v2.f0 v1).f8))) v1).f5) ((gD (v2.f0.set v1.toNat (T60.mk ((gD v2.f0 v1).f0) (w64 (((gD v2.f0 v1).f1) + (1:Int))) ((gD v2.f0 v1).f2) ((gD v2.f0 v1).f3) ((gD v2.f0 v1).f4) ((gD v2.f0 v1).f5) ((gD v2.f0 v1).f6) ((gD v2.f0 v1).f7) ((gD v2.f0 v1).f8))) v1).f6) (((gD (v2.f0.set v1.toNat (T60.mk ((gD v2.f0 v1).f0) (w64 (((gD v2.f0 v1).f1) + (1:Int))) ((gD v2.f0 v1).f2) ((gD v2.f0 v1).f3) ((gD v2.f0 v1).f4) ((gD v2.f0 v1).f5) ((gD v2.f0 v1).f6) ((gD v2.f0 v1).f7) ((gD v2.f0 v1).f8))) v1).f7) ++ [(0:Int)]) ((gD (v2.f0.set v1.toNat (T60.mk ((gD v2.f0 v1).f0) (w64 (((gD v2.f0 v1).f1) + (1:Int))) ((gD v2.f0 v1).f2) ((gD v2.f0 v1).f3) ((gD v2.f0 v1).f4) ((gD v2.f0 v1).f5) ((gD v2.f0 v1).f6) ((gD v2.f0 v1).f7) ((gD v2.f0 v1).f8))) v1).f8))),.int .i64 v2.f1,k1 (v2.f2 ++ [T43.mk v1 ((gD v2.f0 v1).f1)])]]⟩) (fun V=>by kernel_rfl)) ?_
    refine AOps.keepTo [0,1,5,6] 1 ⟨[(0,.pc 0 0),(1,tI v1),(5,.pe (.cell 0 0,[]) v1.toNat 0 27),(6,.rp (c54 (((gD v2.f0 v1).f0).getD (Int.toNat ((gD v2.f0 v1).f1)) default)))],[.cells 51 [k0 ((v2.f0.set v1.toNat (T60.mk ((gD v2.f0 v1).f0) (w64 (((gD v2.f0 v1).f1) + (1:Int))) ((gD v2.f0 v1).f2) ((gD v2.f0 v1).f3) ((gD v2.f0 v1).f4) ((gD v2.f0 v1).f5) ((gD v2.f0 v1).f6) ((gD v2.f0 v1).f7) ((gD v2.f0 v1).f8))).set v1.toNat (T60.mk ((gD (v2.f0.set v1.toNat (T60.mk ((gD v2.f0 v1).f0) (w64 (((gD v2.f0 v1).f1) + (1:Int))) ((gD v2.f0 v1).f2) ((gD v2.f0 v1).f3) ((gD v2.f0 v1).f4) ((gD v2.f0 v1).f5) ((gD v2.f0 v1).f6) ((gD v2.f0 v1).f7) ((gD v2.f0 v1).f8))) v1).f0) ((gD (v2.f0.set v1.toNat (T60.mk ((gD v2.f0 v1).f0) (w64 (((gD v2.f0 v1).f1) + (1:Int))) ((gD v2.f0 v1).f2) ((gD v2.f0 v1).f3) ((gD v2.f0 v1).f4) ((gD v2.f0 v1).f5) ((gD v2.f0 v1).f6) ((gD v2.f0 v1).f7) ((gD v2.f0 v1).f8))) v1).f1) ((gD (v2.f0.set v1.toNat (T60.mk ((gD v2.f0 v1).f0) (w64 (((gD v2.f0 v1).f1) + (1:Int))) ((gD v2.f0 v1).f2) ((gD v2.f0 v1).f3) ((gD v2.f0 v1).f4) ((gD v2.f0 v1).f5) ((gD v2.f0 v1).f6) ((gD v2.f0 v1).f7) ((gD v2.f0 v1).f8))) v1).f2) ((gD (v2.f0.set v1.toNat (T60.mk ((gD v2.f0 v1).f0) (w64 (((gD v2.f0 v1).f1) + (1:Int))) ((gD v2.f0 v1).f2) ((gD v2.f0 v1).f3) ((gD v2.f0 v1).f4) ((gD v2.f0 v1).f5) ((gD v2.f0 v1).f6) ((gD v2.f0 v1).f7) ((gD v2.f0 v1).f8))) v1).f3) ((gD (v2.f0.set v1.toNat (T60.mk ((gD v2.f0 v1).f0) (w64 (((gD v2.f0 v1).f1) + (1:Int))) ((gD v2.f0 v1).f2) ((gD v2.f0 v1).f3) ((gD v2.f0 v1).f4) ((gD v2.f0 v1).f5) ((gD v2.f0 v1).f6) ((gD v2.f0 v1).f7) ((gD v2.f0 v1).f8))) v1).f4) ((gD (v2.f0.set v1.toNat (T60.mk ((gD v2.f0 v1).f0) (w64 (((gD v2.f0 v1).f1) + (1:Int))) ((gD v2.f0 v1).f2) ((gD v2.f0 v1).f3) ((gD v2.f0 v1).f4) ((gD v2.f0 v1).f5) ((gD v2.f0 v1).f6) ((gD v2.f0 v1).f7) ((gD v2.f0 v1).f8))) v1).f5) ((gD (v2.f0.set v1.toNat (T60.mk ((gD v2.f0 v1).f0) (w64 (((gD v2.f0 v1).f1) + (1:Int))) ((gD v2.f0 v1).f2) ((gD v2.f0 v1).f3) ((gD v2.f0 v1).f4) ((gD v2.f0 v1).f5) ((gD v2.f0 v1).f6) ((gD v2.f0 v1).f7) ((gD v2.f0 v1).f8))) v1).f6) (((gD (v2.f0.set v1.toNat (T60.mk ((gD v2.f0 v1).f0) (w64 (((gD v2.f0 v1).f1) + (1:Int))) ((gD v2.f0 v1).f2) ((gD v2.f0 v1).f3) ((gD v2.f0 v1).f4) ((gD v2.f0 v1).f5) ((gD v2.f0 v1).f6) ((gD v2.f0 v1).f7) ((gD v2.f0 v1).f8))) v1).f7) ++ [(0:Int)]) ((gD (v2.f0.set v1.toNat (T60.mk ((gD v2.f0 v1).f0) (w64 (((gD v2.f0 v1).f1) + (1:Int))) ((gD v2.f0 v1).f2) ((gD v2.f0 v1).f3) ((gD v2.f0 v1).f4) ((gD v2.f0 v1).f5) ((gD v2.f0 v1).f6) ((gD v2.f0 v1).f7) ((gD v2.f0 v1).f8))) v1).f8))),.int .i64 v2.f1,k1 (v2.f2 ++ [T43.mk v1 ((gD v2.f0 v1).f1)])]]⟩ ?_ (zz rfl) ?_
    ·kernel_rfl
    refine AOps.nil ?_
    refine AWp.seq ?_
    refine AWp.seq ?_
    refine AWp.start [0,1,2] [3,4] [] [0,1,5,65,66,67] 1 ⟨[(0,.pc 0 0),(1,tI v1),(5,.pe (.cell 0 0,[]) v1.toNat 0 27),(65,.pc 0 0),(66,tI v1),(67,.agg (c54 (((gD v2.f0 v1).f0).getD (Int.toNat ((gD v2.f0 v1).f1)) default)))],[.cells 51 [k0 ((v2.f0.set v1.toNat (T60.mk ((gD v2.f0 v1).f0) (w64 (((gD v2.f0 v1).f1) + (1:Int))) ((gD v2.f0 v1).f2) ((gD v2.f0 v1).f3) ((gD v2.f0 v1).f4) ((gD v2.f0 v1).f5) ((gD v2.f0 v1).f6) ((gD v2.f0 v1).f7) ((gD v2.f0 v1).f8))).set v1.toNat (T60.mk ((gD (v2.f0.set v1.toNat (T60.mk ((gD v2.f0 v1).f0) (w64 (((gD v2.f0 v1).f1) + (1:Int))) ((gD v2.f0 v1).f2) ((gD v2.f0 v1).f3) ((gD v2.f0 v1).f4) ((gD v2.f0 v1).f5) ((gD v2.f0 v1).f6) ((gD v2.f0 v1).f7) ((gD v2.f0 v1).f8))) v1).f0) ((gD (v2.f0.set v1.toNat (T60.mk ((gD v2.f0 v1).f0) (w64 (((gD v2.f0 v1).f1) + (1:Int))) ((gD v2.f0 v1).f2) ((gD v2.f0 v1).f3) ((gD v2.f0 v1).f4) ((gD v2.f0 v1).f5) ((gD v2.f0 v1).f6) ((gD v2.f0 v1).f7) ((gD v2.f0 v1).f8))) v1).f1) ((gD (v2.f0.set v1.toNat (T60.mk ((gD v2.f0 v1).f0) (w64 (((gD v2.f0 v1).f1) + (1:Int))) ((gD v2.f0 v1).f2) ((gD v2.f0 v1).f3) ((gD v2.f0 v1).f4) ((gD v2.f0 v1).f5) ((gD v2.f0 v1).f6) ((gD v2.f0 v1).f7) ((gD v2.f0 v1).f8))) v1).f2) ((gD (v2.f0.set v1.toNat (T60.mk ((gD v2.f0 v1).f0) (w64 (((gD v2.f0 v1).f1) + (1:Int))) ((gD v2.f0 v1).f2) ((gD v2.f0 v1).f3) ((gD v2.f0 v1).f4) ((gD v2.f0 v1).f5) ((gD v2.f0 v1).f6) ((gD v2.f0 v1).f7) ((gD v2.f0 v1).f8))) v1).f3) ((gD (v2.f0.set v1.toNat (T60.mk ((gD v2.f0 v1).f0) (w64 (((gD v2.f0 v1).f1) + (1:Int))) ((gD v2.f0 v1).f2) ((gD v2.f0 v1).f3) ((gD v2.f0 v1).f4) ((gD v2.f0 v1).f5) ((gD v2.f0 v1).f6) ((gD v2.f0 v1).f7) ((gD v2.f0 v1).f8))) v1).f4) ((gD (v2.f0.set v1.toNat (T60.mk ((gD v2.f0 v1).f0) (w64 (((gD v2.f0 v1).f1) + (1:Int))) ((gD v2.f0 v1).f2) ((gD v2.f0 v1).f3) ((gD v2.f0 v1).f4) ((gD v2.f0 v1).f5) ((gD v2.f0 v1).f6) ((gD v2.f0 v1).f7) ((gD v2.f0 v1).f8))) v1).f5) ((gD (v2.f0.set v1.toNat (T60.mk ((gD v2.f0 v1).f0) (w64 (((gD v2.f0 v1).f1) + (1:Int))) ((gD v2.f0 v1).f2) ((gD v2.f0 v1).f3) ((gD v2.f0 v1).f4) ((gD v2.f0 v1).f5) ((gD v2.f0 v1).f6) ((gD v2.f0 v1).f7) ((gD v2.f0 v1).f8))) v1).f6) (((gD (v2.f0.set v1.toNat (T60.mk ((gD v2.f0 v1).f0) (w64 (((gD v2.f0 v1).f1) + (1:Int))) ((gD v2.f0 v1).f2) ((gD v2.f0 v1).f3) ((gD v2.f0 v1).f4) ((gD v2.f0 v1).f5) ((gD v2.f0 v1).f6) ((gD v2.f0 v1).f7) ((gD v2.f0 v1).f8))) v1).f7) ++ [(0:Int)]) ((gD (v2.f0.set v1.toNat (T60.mk ((gD v2.f0 v1).f0) (w64 (((gD v2.f0 v1).f1) + (1:Int))) ((gD v2.f0 v1).f2) ((gD v2.f0 v1).f3) ((gD v2.f0 v1).f4) ((gD v2.f0 v1).f5) ((gD v2.f0 v1).f6) ((gD v2.f0 v1).f7) ((gD v2.f0 v1).f8))) v1).f8))),.int .i64 v2.f1,k1 (v2.f2 ++ [T43.mk v1 ((gD v2.f0 v1).f1)])]]⟩ rfl ?_ (zz rfl) trivial ?_
    ·kernel_rfl
    obtain ⟨v5,hv5,h⟩:=of_bind h
    refine AOps.cons (AOne.callO (F:=(FF 81 1)) _ rfl rfl rfl 68 rfl rfl 77 [] rfl Try.call77 [0] (by decide) [.pc 0 0,tI v1,.agg (c54 (((gD v2.f0 v1).f0).getD (Int.toNat ((gD v2.f0 v1).f1)) default))] (by kernel_rfl) [.cells 51 [k0 ((v2.f0.set v1.toNat (T60.mk ((gD v2.f0 v1).f0) (w64 (((gD v2.f0 v1).f1) + (1:Int))) ((gD v2.f0 v1).f2) ((gD v2.f0 v1).f3) ((gD v2.f0 v1).f4) ((gD v2.f0 v1).f5) ((gD v2.f0 v1).f6) ((gD v2.f0 v1).f7) ((gD v2.f0 v1).f8))).set v1.toNat (T60.mk ((gD (v2.f0.set v1.toNat (T60.mk ((gD v2.f0 v1).f0) (w64 (((gD v2.f0 v1).f1) + (1:Int))) ((gD v2.f0 v1).f2) ((gD v2.f0 v1).f3) ((gD v2.f0 v1).f4) ((gD v2.f0 v1).f5) ((gD v2.f0 v1).f6) ((gD v2.f0 v1).f7) ((gD v2.f0 v1).f8))) v1).f0) ((gD (v2.f0.set v1.toNat (T60.mk ((gD v2.f0 v1).f0) (w64 (((gD v2.f0 v1).f1) + (1:Int))) ((gD v2.f0 v1).f2) ((gD v2.f0 v1).f3) ((gD v2.f0 v1).f4) ((gD v2.f0 v1).f5) ((gD v2.f0 v1).f6) ((gD v2.f0 v1).f7) ((gD v2.f0 v1).f8))) v1).f1) ((gD (v2.f0.set v1.toNat (T60.mk ((gD v2.f0 v1).f0) (w64 (((gD v2.f0 v1).f1) + (1:Int))) ((gD v2.f0 v1).f2) ((gD v2.f0 v1).f3) ((gD v2.f0 v1).f4) ((gD v2.f0 v1).f5) ((gD v2.f0 v1).f6) ((gD v2.f0 v1).f7) ((gD v2.f0 v1).f8))) v1).f2) ((gD (v2.f0.set v1.toNat (T60.mk ((gD v2.f0 v1).f0) (w64 (((gD v2.f0 v1).f1) + (1:Int))) ((gD v2.f0 v1).f2) ((gD v2.f0 v1).f3) ((gD v2.f0 v1).f4) ((gD v2.f0 v1).f5) ((gD v2.f0 v1).f6) ((gD v2.f0 v1).f7) ((gD v2.f0 v1).f8))) v1).f3) ((gD (v2.f0.set v1.toNat (T60.mk ((gD v2.f0 v1).f0) (w64 (((gD v2.f0 v1).f1) + (1:Int))) ((gD v2.f0 v1).f2) ((gD v2.f0 v1).f3) ((gD v2.f0 v1).f4) ((gD v2.f0 v1).f5) ((gD v2.f0 v1).f6) ((gD v2.f0 v1).f7) ((gD v2.f0 v1).f8))) v1).f4) ((gD (v2.f0.set v1.toNat (T60.mk ((gD v2.f0 v1).f0) (w64 (((gD v2.f0 v1).f1) + (1:Int))) ((gD v2.f0 v1).f2) ((gD v2.f0 v1).f3) ((gD v2.f0 v1).f4) ((gD v2.f0 v1).f5) ((gD v2.f0 v1).f6) ((gD v2.f0 v1).f7) ((gD v2.f0 v1).f8))) v1).f5) ((gD (v2.f0.set v1.toNat (T60.mk ((gD v2.f0 v1).f0) (w64 (((gD v2.f0 v1).f1) + (1:Int))) ((gD v2.f0 v1).f2) ((gD v2.f0 v1).f3) ((gD v2.f0 v1).f4) ((gD v2.f0 v1).f5) ((gD v2.f0 v1).f6) ((gD v2.f0 v1).f7) ((gD v2.f0 v1).f8))) v1).f6) (((gD (v2.f0.set v1.toNat (T60.mk ((gD v2.f0 v1).f0) (w64 (((gD v2.f0 v1).f1) + (1:Int))) ((gD v2.f0 v1).f2) ((gD v2.f0 v1).f3) ((gD v2.f0 v1).f4) ((gD v2.f0 v1).f5) ((gD v2.f0 v1).f6) ((gD v2.f0 v1).f7) ((gD v2.f0 v1).f8))) v1).f7) ++ [(0:Int)]) ((gD (v2.f0.set v1.toNat (T60.mk ((gD v2.f0 v1).f0) (w64 (((gD v2.f0 v1).f1) + (1:Int))) ((gD v2.f0 v1).f2) ((gD v2.f0 v1).f3) ((gD v2.f0 v1).f4) ((gD v2.f0 v1).f5) ((gD v2.f0 v1).f6) ((gD v2.f0 v1).f7) ((gD v2.f0 v1).f8))) v1).f8))),.int .i64 v2.f1,k1 (v2.f2 ++ [T43.mk v1 ((gD v2.f0 v1).f1)])]] (by kernel_rfl) (f77o_ok v1 (((gD v2.f0 v1).f0).getD (Int.toNat ((gD v2.f0 v1).f1)) default) (T50.mk ((v2.f0.set v1.toNat (T60.mk ((gD v2.f0 v1).f0) (w64 (((gD v2.f0 v1).f1) + (1:Int))) ((gD v2.f0 v1).f2) ((gD v2.f0 v1).f3) ((gD v2.f0 v1).f4) ((gD v2.f0 v1).f5) ((gD v2.f0 v1).f6) ((gD v2.f0 v1).f7) ((gD v2.f0 v1).f8))).set v1.toNat (T60.mk ((gD (v2.f0.set v1.toNat (T60.mk ((gD v2.f0 v1).f0) (w64 (((gD v2.f0 v1).f1) + (1:Int))) ((gD v2.f0 v1).f2) ((gD v2.f0 v1).f3) ((gD v2.f0 v1).f4) ((gD v2.f0 v1).f5) ((gD v2.f0 v1).f6) ((gD v2.f0 v1).f7) ((gD v2.f0 v1).f8))) v1).f0) ((gD (v2.f0.set v1.toNat (T60.mk ((gD v2.f0 v1).f0) (w64 (((gD v2.f0 v1).f1) + (1:Int))) ((gD v2.f0 v1).f2) ((gD v2.f0 v1).f3) ((gD v2.f0 v1).f4) ((gD v2.f0 v1).f5) ((gD v2.f0 v1).f6) ((gD v2.f0 v1).f7) ((gD v2.f0 v1).f8))) v1).f1) ((gD (v2.f0.set v1.toNat (T60.mk ((gD v2.f0 v1).f0) (w64 (((gD v2.f0 v1).f1) + (1:Int))) ((gD v2.f0 v1).f2) ((gD v2.f0 v1).f3) ((gD v2.f0 v1).f4) ((gD v2.f0 v1).f5) ((gD v2.f0 v1).f6) ((gD v2.f0 v1).f7) ((gD v2.f0 v1).f8))) v1).f2) ((gD (v2.f0.set v1.toNat (T60.mk ((gD v2.f0 v1).f0) (w64 (((gD v2.f0 v1).f1) + (1:Int))) ((gD v2.f0 v1).f2) ((gD v2.f0 v1).f3) ((gD v2.f0 v1).f4) ((gD v2.f0 v1).f5) ((gD v2.f0 v1).f6) ((gD v2.f0 v1).f7) ((gD v2.f0 v1).f8))) v1).f3) ((gD (v2.f0.set v1.toNat (T60.mk ((gD v2.f0 v1).f0) (w64 (((gD v2.f0 v1).f1) + (1:Int))) ((gD v2.f0 v1).f2) ((gD v2.f0 v1).f3) ((gD v2.f0 v1).f4) ((gD v2.f0 v1).f5) ((gD v2.f0 v1).f6) ((gD v2.f0 v1).f7) ((gD v2.f0 v1).f8))) v1).f4) ((gD (v2.f0.set v1.toNat (T60.mk ((gD v2.f0 v1).f0) (w64 (((gD v2.f0 v1).f1) + (1:Int))) ((gD v2.f0 v1).f2) ((gD v2.f0 v1).f3) ((gD v2.f0 v1).f4) ((gD v2.f0 v1).f5) ((gD v2.f0 v1).f6) ((gD v2.f0 v1).f7) ((gD v2.f0 v1).f8))) v1).f5) ((gD (v2.f0.set v1.toNat (T60.mk ((gD v2.f0 v1).f0) (w64 (((gD v2.f0 v1).f1) + (1:Int))) ((gD v2.f0 v1).f2) ((gD v2.f0 v1).f3) ((gD v2.f0 v1).f4) ((gD v2.f0 v1).f5) ((gD v2.f0 v1).f6) ((gD v2.f0 v1).f7) ((gD v2.f0 v1).f8))) v1).f6) (((gD (v2.f0.set v1.toNat (T60.mk ((gD v2.f0 v1).f0) (w64 (((gD v2.f0 v1).f1) + (1:Int))) ((gD v2.f0 v1).f2) ((gD v2.f0 v1).f3) ((gD v2.f0 v1).f4) ((gD v2.f0 v1).f5) ((gD v2.f0 v1).f6) ((gD v2.f0 v1).f7) ((gD v2.f0 v1).f8))) v1).f7) ++ [(0:Int)]) ((gD (v2.f0.set v1.toNat (T60.mk ((gD v2.f0 v1).f0) (w64 (((gD v2.f0 v1).f1) + (1:Int))) ((gD v2.f0 v1).f2) ((gD v2.f0 v1).f3) ((gD v2.f0 v1).f4) ((gD v2.f0 v1).f5) ((gD v2.f0 v1).f6) ((gD v2.f0 v1).f7) ((gD v2.f0 v1).f8))) v1).f8))) v2.f1 (v2.f2 ++ [T43.mk v1 ((gD v2.f0 v1).f1)])) hv5) (by kernel_rfl) (by kernel_rfl) _ rfl) ?_
    refine AOps.go [4] [] [] [0,1,69] 1 ⟨[(0,.pc 0 0),(1,tI v1),(69,tB (!v5.1))],[.cells 51 [k0 v5.2.f0,.int .i64 v5.2.f1,k1 v5.2.f2]]⟩ ?_ (zz rfl) trivial ?_
    ·kernel_rfl
    refine AOps.nil ?_
    refine AWp.cond rfl (fun hb=>?_) fun hb=>?_
    ·replace h:=of_true h hb
     refine AWp.keepTo [0,1] 1 ⟨[(0,.pc 0 0),(1,tI v1)],[.cells 51 [k0 v5.2.f0,.int .i64 v5.2.f1,k1 v5.2.f2]]⟩ ?_ (zz rfl) ?_
     ·kernel_rfl
     cases h
    ·replace h:=of_false h hb
     refine AWp.keepTo [0,1] 1 ⟨[(0,.pc 0 0),(1,tI v1)],[.cells 51 [k0 v5.2.f0,.int .i64 v5.2.f1,k1 v5.2.f2]]⟩ ?_ (zz rfl) ?_
     ·kernel_rfl
     refine AWp.skip ?_
     refine AWp.join (V:=(List T60) × Int × (List T43)) (fun w=>⟨[(0,.pc 0 0)],[.cells 51 [k0 w.1,.int .i64 w.2.1,k1 w.2.2]]⟩) (fun w=>f43o_j1  w.1 w.2.1 w.2.2 = some r) ?_ ?_
     ·refine AWp.seq ?_
      refine AWp.start [0,1] [2] [] [0,1,73,74] 1 ⟨[(0,.pc 0 0),(1,tI v1),(73,.pc 0 0),(74,tI v1)],[.cells 51 [k0 v5.2.f0,.int .i64 v5.2.f1,k1 v5.2.f2]]⟩ rfl ?_ (zz rfl) trivial ?_
      ·kernel_rfl
      obtain ⟨v10,hv10,h⟩:=of_bind h
      refine AOps.cons (AOne.callV (F:=(FF 81 1)) _ rfl rfl rfl 75 rfl rfl 78 [] rfl Try.call78 [.pc 0 0,tI v1] [.rp [k4 v5.2.f0,.int .i64 v5.2.f1,k3 v5.2.f2],tI v1] rfl (.cons (.pc rfl (.cons (.ownL seen60) (.keep rfl (.cons (.ownL (fun _=>.plain rfl)) .nil)))) (.cons (.old rfl) .nil)) (f78_ok v5.2 v1 hv10) (ind_of rfl) rfl) ?_
      refine AOps.keepTo [0,1,75] 1 ⟨[(0,.pc 0 0),(1,tI v1),(75,tB v10)],[.cells 51 [k0 v5.2.f0,.int .i64 v5.2.f1,k1 v5.2.f2]]⟩ ?_ (zz rfl) ?_
      ·kernel_rfl
      refine AOps.nil ?_
      refine AWp.cond rfl (fun hb=>?_) fun hb=>?_
      ·replace h:=of_true h hb
       refine AWp.keepTo [0,1] 1 ⟨[(0,.pc 0 0),(1,tI v1)],[.cells 51 [k0 v5.2.f0,.int .i64 v5.2.f1,k1 v5.2.f2]]⟩ ?_ (zz rfl) ?_
       ·kernel_rfl
       refine AWp.start [0,1] [2] [] [0,76,77] 1 ⟨[(0,.pc 0 0),(76,.pc 0 0),(77,tI v1)],[.cells 51 [k0 v5.2.f0,.int .i64 v5.2.f1,k1 v5.2.f2]]⟩ rfl ?_ (zz rfl) trivial ?_
       ·kernel_rfl
       obtain ⟨v11,hv11,h⟩:=of_bind h
       refine AOps.cons (AOne.callO (F:=(FF 81 1)) _ rfl rfl rfl 78 rfl rfl 79 [] rfl Try.call79 [0] (by decide) [.pc 0 0,tI v1] (by kernel_rfl) [.cells 51 [k0 v5.2.f0,.int .i64 v5.2.f1,k1 v5.2.f2]] (by kernel_rfl) (f79o_ok v1 (T50.mk v5.2.f0 v5.2.f1 v5.2.f2) hv11) (by kernel_rfl) (by kernel_rfl) _ rfl) ?_
       refine AOps.keepTo [0] 1 ⟨[(0,.pc 0 0)],[.cells 51 [k0 v11.f0,.int .i64 v11.f1,k1 v11.f2]]⟩ ?_ (zz rfl) ?_
       ·kernel_rfl
       refine AOps.nil ?_
       exact ⟨(v11.f0,v11.f1,v11.f2),h,rfl⟩
      ·replace h:=of_false h hb
       refine AWp.keepTo [0] 1 ⟨[(0,.pc 0 0)],[.cells 51 [k0 v5.2.f0,.int .i64 v5.2.f1,k1 v5.2.f2]]⟩ ?_ (zz rfl) ?_
       ·kernel_rfl
       refine AWp.skip ?_
       exact ⟨(v5.2.f0,v5.2.f1,v5.2.f2),h,rfl⟩
     ·rintro ⟨v6,v7,v8⟩ h
      refine AWp.seq ?_
      refine AWp.start [0] [1] [] [79] 1 ⟨[(79,.pc 0 0)],[.cells 51 [k0 v6,.int .i64 v7,k1 v8]]⟩ rfl ?_ (zz rfl) trivial ?_
      ·kernel_rfl
      obtain ⟨v9,hv9,h⟩:=of_bind h
      refine AOps.cons (AOne.callO (F:=(FF 81 1)) _ rfl rfl rfl 80 rfl rfl 32 [] rfl Try.call32 [0] (by decide) [.pc 0 0] (by kernel_rfl) [.cells 51 [k0 v6,.int .i64 v7,k1 v8]] (by kernel_rfl) (f32o_ok (T50.mk v6 v7 v8) hv9) (by kernel_rfl) (by kernel_rfl) _ rfl) ?_
      refine AOps.keepTo [] 1 ⟨[],[.cells 51 [k0 v9.f0,.int .i64 v9.f1,k1 v9.f2]]⟩ ?_ (zz rfl) ?_
      ·kernel_rfl
      refine AOps.nil ?_
      refine AWp.seq ?_
      refine AWp.start [0] [] [] [4] 1 ⟨[(4,tB true)],[.cells 51 [k0 v9.f0,.int .i64 v9.f1,k1 v9.f2]]⟩ rfl ?_ (zz rfl) trivial ?_
      ·kernel_rfl
      refine AOps.nil ?_
      refine AWp.ret ?_
      cases h
      exact ⟨.inr rfl,rfl⟩
   refine AAny.share 5 #[y1,y1,y1,y1,n1,y1,y1,y1,y1,y1,y1,y1,n1,n1,n1,n1] ⟨[(0,.pc 0 0),(1,tI v1),(5,.pe (.cell 0 0,[]) v1.toNat 0 27),(6,.rp (c54 (((gD v2.f0 v1).f0).getD (Int.toNat ((gD v2.f0 v1).f1)) default))),(34,.pc 0 0),(37,.pc 0 2),(45,.tv (k1 [T43.mk v1 ((gD v2.f0 v1).f1)]))],[.cells 51 [k0 v2.f0,.int .i64 v2.f1,k1 v2.f2]]⟩ ?_ fun n2_=>?_
   ·refine AAny.each [4] (by kernel_rfl) rfl ?_
    refine AEach.step (i:=4) [] #[y1,y1,y1,y1,y1,y1,y1,y1,y1,y1,y1,y1,n1,n1,n1,n1] rfl [0,1,5,6,34,38,45] 1 ⟨[(0,.pc 0 0),(1,tI v1),(5,.pe (.cell 0 0,[]) v1.toNat 0 27),(6,.rp (c54 (((gD v2.f0 v1).f0).getD (Int.toNat ((gD v2.f0 v1).f1)) default))),(34,.pc 0 0),(38,.al (.cell 0 2,[])),(45,.tv (k1 [T43.mk v1 ((gD v2.f0 v1).f1)]))],[.cells 51 [k0 v2.f0,.int .i64 v2.f1,k1 v2.f2]]⟩ ?_ (zz rfl) trivial ?_ ?_
    ·kernel_rfl
    ·exact n3_
    exact AEach.nil
   refine AAny.share 5 #[y1,y1,y1,y1,y1,y1,y1,y1,y1,y1,y1,n1,n1,n1,n1,n1] ⟨[(0,.pc 0 0),(1,tI v1),(5,.pe (.cell 0 0,[]) v1.toNat 0 27),(6,.rp (c54 (((gD v2.f0 v1).f0).getD (Int.toNat ((gD v2.f0 v1).f1)) default))),(34,.pc 0 0),(38,.al (.cell 0 2,[])),(44,.agg [.int .i64 v1,.int .i64 ((gD v2.f0 v1).f1)])],[.cells 51 [k0 v2.f0,.int .i64 v2.f1,k1 v2.f2]]⟩ ?_ fun n1_=>?_
   ·refine AAny.each [11] (by kernel_rfl) rfl ?_
    refine AEach.step (i:=11) [] #[y1,y1,y1,y1,y1,y1,y1,y1,y1,y1,y1,y1,n1,n1,n1,n1] rfl [0,1,5,6,34,38,45] 1 ⟨[(0,.pc 0 0),(1,tI v1),(5,.pe (.cell 0 0,[]) v1.toNat 0 27),(6,.rp (c54 (((gD v2.f0 v1).f0).getD (Int.toNat ((gD v2.f0 v1).f1)) default))),(34,.pc 0 0),(38,.al (.cell 0 2,[])),(45,.tv (.own 2 44 1 (newRowF [.int .i64 v1,.int .i64 ((gD v2.f0 v1).f1)] 2)))],[.cells 51 [k0 v2.f0,.int .i64 v2.f1,k1 v2.f2]]⟩ ?_ (zz rfl) trivial ?_ ?_
    ·kernel_rfl
    ·refine AAny.extL 45 c43 [T43.mk v1 ((gD v2.f0 v1).f1)] rfl rfl (row_at c43 2 (fun _=>rfl) [T43.mk v1 ((gD v2.f0 v1).f1)] _ rfl) ?_
     refine AAny.keepTo [0,1,5,6,34,38,45] 1 ⟨[(0,.pc 0 0),(1,tI v1),(5,.pe (.cell 0 0,[]) v1.toNat 0 27),(6,.rp (c54 (((gD v2.f0 v1).f0).getD (Int.toNat ((gD v2.f0 v1).f1)) default))),(34,.pc 0 0),(38,.al (.cell 0 2,[])),(45,.tv (k1 [T43.mk v1 ((gD v2.f0 v1).f1)]))],[.cells 51 [k0 v2.f0,.int .i64 v2.f1,k1 v2.f2]]⟩ #[y1,y1,y1,y1,y1,y1,y1,y1,y1,y1,y1,y1,n1,n1,n1,n1] ?_ rfl (zz rfl) ?_
     ·kernel_rfl
     exact n3_
    exact AEach.nil
   refine AAny.each [4,11] (by kernel_rfl) rfl ?_
   refine AEach.step (i:=4) [] #[y1,y1,y1,y1,y1,y1,y1,y1,y1,y1,y1,n1,n1,n1,n1,n1] rfl [0,1,5,6,34,38,44] 1 ⟨[(0,.pc 0 0),(1,tI v1),(5,.pe (.cell 0 0,[]) v1.toNat 0 27),(6,.rp (c54 (((gD v2.f0 v1).f0).getD (Int.toNat ((gD v2.f0 v1).f1)) default))),(34,.pc 0 0),(38,.al (.cell 0 2,[])),(44,.agg [.int .i64 v1,.int .i64 ((gD v2.f0 v1).f1)])],[.cells 51 [k0 v2.f0,.int .i64 v2.f1,k1 v2.f2]]⟩ ?_ (zz rfl) trivial ?_ ?_
   ·kernel_rfl
   ·exact n1_
   refine AEach.step (i:=11) [] #[y1,y1,y1,y1,n1,y1,y1,y1,y1,y1,y1,y1,n1,n1,n1,n1] rfl [0,1,5,6,34,37,45] 1 ⟨[(0,.pc 0 0),(1,tI v1),(5,.pe (.cell 0 0,[]) v1.toNat 0 27),(6,.rp (c54 (((gD v2.f0 v1).f0).getD (Int.toNat ((gD v2.f0 v1).f1)) default))),(34,.pc 0 0),(37,.pc 0 2),(45,.tv (.own 2 44 1 (newRowF [.int .i64 v1,.int .i64 ((gD v2.f0 v1).f1)] 2)))],[.cells 51 [k0 v2.f0,.int .i64 v2.f1,k1 v2.f2]]⟩ ?_ (zz rfl) trivial ?_ ?_
   ·kernel_rfl
   ·refine AAny.extL 45 c43 [T43.mk v1 ((gD v2.f0 v1).f1)] rfl rfl (row_at c43 2 (fun _=>rfl) [T43.mk v1 ((gD v2.f0 v1).f1)] _ rfl) ?_
    refine AAny.keepTo [0,1,5,6,34,37,45] 1 ⟨[(0,.pc 0 0),(1,tI v1),(5,.pe (.cell 0 0,[]) v1.toNat 0 27),(6,.rp (c54 (((gD v2.f0 v1).f0).getD (Int.toNat ((gD v2.f0 v1).f1)) default))),(34,.pc 0 0),(37,.pc 0 2),(45,.tv (k1 [T43.mk v1 ((gD v2.f0 v1).f1)]))],[.cells 51 [k0 v2.f0,.int .i64 v2.f1,k1 v2.f2]]⟩ #[y1,y1,y1,y1,n1,y1,y1,y1,y1,y1,y1,y1,n1,n1,n1,n1] ?_ rfl (zz rfl) ?_
    ·kernel_rfl
    exact n2_
   exact AEach.nil
  refine AAny.share 2 #[y1,y1,y1,y1,y1,y1,y1,y1,y1,y1,n1,n1] ⟨[(0,.pc 0 0),(1,tI v1),(5,.pe (.cell 0 0,[]) v1.toNat 0 27),(33,.agg (c54 (((gD v2.f0 v1).f0).getD (Int.toNat ((gD v2.f0 v1).f1)) default)))],[.cells 51 [k0 v2.f0,.int .i64 v2.f1,k1 v2.f2]]⟩ ?_ fun n7_=>?_
  ·refine AAny.each [10] (by kernel_rfl) rfl ?_
   refine AEach.step (i:=10) [] #[y1,y1,y1,y1,y1,y1,y1,y1,y1,y1,y1,n1] rfl [0,1,5,6,33] 2 ⟨[(0,.pc 0 0),(1,tI v1),(5,.pe (.cell 0 0,[]) v1.toNat 0 27),(6,.pc 1 0),(33,.agg (c54 (((gD v2.f0 v1).f0).getD (Int.toNat ((gD v2.f0 v1).f1)) default)))],hp3 v2⟩ ?_ (zz rfl) trivial ?_ ?_
   ·kernel_rfl
   ·exact n6_
   exact AEach.nil
  refine AAny.share 4 #[y1,y1,y1,n1,y1,y1,y1,y1,n1,n1,y1,n1] ⟨[(0,.pc 0 0),(1,tI v1),(5,.pe (.cell 0 0,[]) v1.toNat 0 27),(6,.pc 1 0),(26,.pe (.cell 0 0,[]) v1.toNat 0 27),(31,tI ((gD v2.f0 v1).f1))],hp3 v2⟩ ?_ fun n5_=>?_
  ·refine AAny.each [3] (by kernel_rfl) rfl ?_
   refine AEach.step (i:=3) [] #[y1,y1,y1,y1,y1,y1,y1,y1,n1,n1,y1,n1] rfl [0,1,5,6,27,31] 2 ⟨[(0,.pc 0 0),(1,tI v1),(5,.pe (.cell 0 0,[]) v1.toNat 0 27),(6,.pc 1 0),(27,q2 ((gD v2.f0 v1).f0)),(31,tI ((gD v2.f0 v1).f1))],hp3 v2⟩ ?_ (zz rfl) trivial ?_ ?_
   ·kernel_rfl
   ·refine AAny.go (by kernel_rfl) [8,9] (fuel':=1) rfl [(0:Int) ≤ (gD v2.f0 v1).f1,(gD v2.f0 v1).f1 < (((gD v2.f0 v1).f0).length:Int)] #[y1,y1,y1,y1,y1,y1,y1,y1,y1,y1,y1,n1] [0,1,5,6,33] 2 ⟨[(0,.pc 0 0),(1,tI v1),(5,.pe (.cell 0 0,[]) v1.toNat 0 27),(6,.pc 1 0),(33,.agg (c54 (((gD v2.f0 v1).f0).getD (Int.toNat ((gD v2.f0 v1).f1)) default)))],hp3 v2⟩ ?_ (zz rfl) ⟨hd4.1,hd4.2⟩ ?_
    ·kernel_rfl
    exact n6_
   exact AEach.nil
  refine AAny.share 4 #[y1,y1,y1,y1,y1,y1,y1,n1,n1,n1,y1,n1] ⟨[(0,.pc 0 0),(1,tI v1),(5,.pe (.cell 0 0,[]) v1.toNat 0 27),(6,.pc 1 0),(27,q2 ((gD v2.f0 v1).f0)),(30,.pe (.cell 0 0,[]) v1.toNat 1 27)],hp3 v2⟩ ?_ fun n4_=>?_
  ·refine AAny.each [7] (by kernel_rfl) rfl ?_
   refine AEach.step (i:=7) [] #[y1,y1,y1,y1,y1,y1,y1,y1,n1,n1,y1,n1] rfl [0,1,5,6,27,31] 2 ⟨[(0,.pc 0 0),(1,tI v1),(5,.pe (.cell 0 0,[]) v1.toNat 0 27),(6,.pc 1 0),(27,q2 ((gD v2.f0 v1).f0)),(31,tI ((gD v2.f0 v1).f1))],hp3 v2⟩ ?_ (zz rfl) trivial ?_ ?_
   ·kernel_rfl
   ·refine AAny.go (by kernel_rfl) [8,9] (fuel':=1) rfl [(0:Int) ≤ (gD v2.f0 v1).f1,(gD v2.f0 v1).f1 < (((gD v2.f0 v1).f0).length:Int)] #[y1,y1,y1,y1,y1,y1,y1,y1,y1,y1,y1,n1] [0,1,5,6,33] 2 ⟨[(0,.pc 0 0),(1,tI v1),(5,.pe (.cell 0 0,[]) v1.toNat 0 27),(6,.pc 1 0),(33,.agg (c54 (((gD v2.f0 v1).f0).getD (Int.toNat ((gD v2.f0 v1).f1)) default)))],hp3 v2⟩ ?_ (zz rfl) ⟨hd4.1,hd4.2⟩ ?_
    ·kernel_rfl
    exact n6_
   exact AEach.nil
  refine AAny.share 5 #[y1,y1,y1,n1,y1,y1,y1,n1,n1,n1,y1,n1] ⟨[(0,.pc 0 0),(1,tI v1),(5,.pe (.cell 0 0,[]) v1.toNat 0 27),(6,.pc 1 0),(26,.pe (.cell 0 0,[]) v1.toNat 0 27),(30,.pe (.cell 0 0,[]) v1.toNat 1 27)],hp3 v2⟩ ?_ fun n3_=>?_
  ·refine AAny.each [3,7] (by kernel_rfl) rfl ?_
   refine AEach.step (i:=3) [] #[y1,y1,y1,y1,y1,y1,y1,n1,n1,n1,y1,n1] rfl [0,1,5,6,27,30] 2 ⟨[(0,.pc 0 0),(1,tI v1),(5,.pe (.cell 0 0,[]) v1.toNat 0 27),(6,.pc 1 0),(27,q2 ((gD v2.f0 v1).f0)),(30,.pe (.cell 0 0,[]) v1.toNat 1 27)],hp3 v2⟩ ?_ (zz rfl) trivial ?_ ?_
   ·kernel_rfl
   ·exact n4_
   refine AEach.step (i:=7) [] #[y1,y1,y1,n1,y1,y1,y1,y1,n1,n1,y1,n1] rfl [0,1,5,6,26,31] 2 ⟨[(0,.pc 0 0),(1,tI v1),(5,.pe (.cell 0 0,[]) v1.toNat 0 27),(6,.pc 1 0),(26,.pe (.cell 0 0,[]) v1.toNat 0 27),(31,tI ((gD v2.f0 v1).f1))],hp3 v2⟩ ?_ (zz rfl) trivial ?_ ?_
   ·kernel_rfl
   ·exact n5_
   exact AEach.nil
  refine AAny.share 5 #[y1,y1,y1,n1,y1,y1,y1,y1,n1,n1,n1,n1] ⟨[(0,.pc 0 0),(1,tI v1),(5,.pe (.cell 0 0,[]) v1.toNat 0 27),(26,.pe (.cell 0 0,[]) v1.toNat 0 27),(31,tI ((gD v2.f0 v1).f1))],[.cells 51 [k0 v2.f0,.int .i64 v2.f1,k1 v2.f2]]⟩ ?_ fun n2_=>?_
  ·refine AAny.each [3,10] (by kernel_rfl) rfl ?_
   refine AEach.step (i:=3) [] #[y1,y1,y1,y1,y1,y1,y1,y1,n1,n1,n1,n1] rfl [0,1,5,27,31] 1 ⟨[(0,.pc 0 0),(1,tI v1),(5,.pe (.cell 0 0,[]) v1.toNat 0 27),(27,q2 ((gD v2.f0 v1).f0)),(31,tI ((gD v2.f0 v1).f1))],[.cells 51 [k0 v2.f0,.int .i64 v2.f1,k1 v2.f2]]⟩ ?_ (zz rfl) trivial ?_ ?_
   ·kernel_rfl
   ·refine AAny.go (by kernel_rfl) [8,9] (fuel':=2) rfl [(0:Int) ≤ (gD v2.f0 v1).f1,(gD v2.f0 v1).f1 < (((gD v2.f0 v1).f0).length:Int)] #[y1,y1,y1,y1,y1,y1,y1,y1,y1,y1,n1,n1] [0,1,5,33] 1 ⟨[(0,.pc 0 0),(1,tI v1),(5,.pe (.cell 0 0,[]) v1.toNat 0 27),(33,.agg (c54 (((gD v2.f0 v1).f0).getD (Int.toNat ((gD v2.f0 v1).f1)) default)))],[.cells 51 [k0 v2.f0,.int .i64 v2.f1,k1 v2.f2]]⟩ ?_ (zz rfl) ⟨hd4.1,hd4.2⟩ ?_
    ·kernel_rfl
    exact n7_
   refine AEach.step (i:=10) [] #[y1,y1,y1,n1,y1,y1,y1,y1,n1,n1,y1,n1] rfl [0,1,5,6,26,31] 2 ⟨[(0,.pc 0 0),(1,tI v1),(5,.pe (.cell 0 0,[]) v1.toNat 0 27),(6,.pc 1 0),(26,.pe (.cell 0 0,[]) v1.toNat 0 27),(31,tI ((gD v2.f0 v1).f1))],hp3 v2⟩ ?_ (zz rfl) trivial ?_ ?_
   ·kernel_rfl
   ·exact n5_
   exact AEach.nil
  refine AAny.share 5 #[y1,y1,y1,y1,y1,y1,y1,n1,n1,n1,n1,n1] ⟨[(0,.pc 0 0),(1,tI v1),(5,.pe (.cell 0 0,[]) v1.toNat 0 27),(27,q2 ((gD v2.f0 v1).f0)),(30,.pe (.cell 0 0,[]) v1.toNat 1 27)],[.cells 51 [k0 v2.f0,.int .i64 v2.f1,k1 v2.f2]]⟩ ?_ fun n1_=>?_
  ·refine AAny.each [7,10] (by kernel_rfl) rfl ?_
   refine AEach.step (i:=7) [] #[y1,y1,y1,y1,y1,y1,y1,y1,n1,n1,n1,n1] rfl [0,1,5,27,31] 1 ⟨[(0,.pc 0 0),(1,tI v1),(5,.pe (.cell 0 0,[]) v1.toNat 0 27),(27,q2 ((gD v2.f0 v1).f0)),(31,tI ((gD v2.f0 v1).f1))],[.cells 51 [k0 v2.f0,.int .i64 v2.f1,k1 v2.f2]]⟩ ?_ (zz rfl) trivial ?_ ?_
   ·kernel_rfl
   ·refine AAny.go (by kernel_rfl) [8,9] (fuel':=2) rfl [(0:Int) ≤ (gD v2.f0 v1).f1,(gD v2.f0 v1).f1 < (((gD v2.f0 v1).f0).length:Int)] #[y1,y1,y1,y1,y1,y1,y1,y1,y1,y1,n1,n1] [0,1,5,33] 1 ⟨[(0,.pc 0 0),(1,tI v1),(5,.pe (.cell 0 0,[]) v1.toNat 0 27),(33,.agg (c54 (((gD v2.f0 v1).f0).getD (Int.toNat ((gD v2.f0 v1).f1)) default)))],[.cells 51 [k0 v2.f0,.int .i64 v2.f1,k1 v2.f2]]⟩ ?_ (zz rfl) ⟨hd4.1,hd4.2⟩ ?_
    ·kernel_rfl
    exact n7_
   refine AEach.step (i:=10) [] #[y1,y1,y1,y1,y1,y1,y1,n1,n1,n1,y1,n1] rfl [0,1,5,6,27,30] 2 ⟨[(0,.pc 0 0),(1,tI v1),(5,.pe (.cell 0 0,[]) v1.toNat 0 27),(6,.pc 1 0),(27,q2 ((gD v2.f0 v1).f0)),(30,.pe (.cell 0 0,[]) v1.toNat 1 27)],hp3 v2⟩ ?_ (zz rfl) trivial ?_ ?_
   ·kernel_rfl
   ·exact n4_
   exact AEach.nil
  refine AAny.each [3,7,10] (by kernel_rfl) rfl ?_
  refine AEach.step (i:=3) [] #[y1,y1,y1,y1,y1,y1,y1,n1,n1,n1,n1,n1] rfl [0,1,5,27,30] 1 ⟨[(0,.pc 0 0),(1,tI v1),(5,.pe (.cell 0 0,[]) v1.toNat 0 27),(27,q2 ((gD v2.f0 v1).f0)),(30,.pe (.cell 0 0,[]) v1.toNat 1 27)],[.cells 51 [k0 v2.f0,.int .i64 v2.f1,k1 v2.f2]]⟩ ?_ (zz rfl) trivial ?_ ?_
  ·kernel_rfl
  ·exact n1_
  refine AEach.step (i:=7) [] #[y1,y1,y1,n1,y1,y1,y1,y1,n1,n1,n1,n1] rfl [0,1,5,26,31] 1 ⟨[(0,.pc 0 0),(1,tI v1),(5,.pe (.cell 0 0,[]) v1.toNat 0 27),(26,.pe (.cell 0 0,[]) v1.toNat 0 27),(31,tI ((gD v2.f0 v1).f1))],[.cells 51 [k0 v2.f0,.int .i64 v2.f1,k1 v2.f2]]⟩ ?_ (zz rfl) trivial ?_ ?_
  ·kernel_rfl
  ·exact n2_
  refine AEach.step (i:=10) [] #[y1,y1,y1,n1,y1,y1,y1,n1,n1,n1,y1,n1] rfl [0,1,5,6,26,30] 2 ⟨[(0,.pc 0 0),(1,tI v1),(5,.pe (.cell 0 0,[]) v1.toNat 0 27),(6,.pc 1 0),(26,.pe (.cell 0 0,[]) v1.toNat 0 27),(30,.pe (.cell 0 0,[]) v1.toNat 1 27)],hp3 v2⟩ ?_ (zz rfl) trivial ?_ ?_
  ·kernel_rfl
  ·exact n3_
  exact AEach.nil

noncomputable def f22o (v1:Int) (v2:T50):Option (Bool × Int × T50) :=
 (f39 v2).bind fun v3=>cond v3 (some (false,(7:Int),T50.mk v2.f0 v2.f1 v2.f2)) ((f42 v2 v1).bind fun v4=>cond (!v4) (some (false,(2:Int),T50.mk v2.f0 v2.f1 v2.f2)) ((f43o v1 (T50.mk v2.f0 v2.f1 v2.f2)).bind fun v5=>some (v5.1,(0:Int),T50.mk v5.2.f0 v5.2.f1 v5.2.f2)))

theorem f22o_ok (v1:Int) (v2:T50) {r:Bool × Int × T50} (h:f22o v1 v2 = some r):ACall Try.prog 22 [.pc 0 0,.tv (.int .i64 v1)] [.cells 51 [ownL 27 61 o60 v2.f0,.int .i64 v2.f1,ownL 2 44 c43 v2.f2]] (.tup [.tv (.bool r.1),.tv (.int .i64 r.2.1)]) [.cells 51 [ownL 27 61 o60 r.2.2.f0,.int .i64 r.2.2.f1,ownL 2 44 c43 r.2.2.f2]]:=by
 refine ACall.ofN (FF 17 1) (rs:=[4,5]) (env:=[(4,tB r.1),(5,tI r.2.1)]) Try.func22 rfl Try.ntmps22 Try.results22 (by decide) (by decide) rfl (zz rfl) rfl (get_ofN _ _ _ rfl) (ok_ofN _ rfl) ?_
 refine AWp.seq ?_
 refine AWp.start [0,1] [] [] [0,1] 1 ⟨[(0,.pc 0 0),(1,tI v1)],[.cells 51 [k0 v2.f0,.int .i64 v2.f1,k1 v2.f2]]⟩ rfl ?_ (zz rfl) trivial ?_
 ·kernel_rfl
 refine AOps.nil ?_
 refine AWp.seq ?_
 refine AWp.block ?_
 refine AWp.seq ?_
 refine AWp.start [0] [1,2] [] [0,1,7] 1 ⟨[(0,.pc 0 0),(1,tI v1),(7,.pc 0 0)],[.cells 51 [k0 v2.f0,.int .i64 v2.f1,k1 v2.f2]]⟩ rfl ?_ (zz rfl) trivial ?_
 ·kernel_rfl
 obtain ⟨v3,hv3,h⟩:=of_bind h
 refine AOps.cons (AOne.callV (F:=(FF 17 1)) _ rfl rfl rfl 8 rfl rfl 39 [] rfl Try.call39 [.pc 0 0] [.rp (c50 v2)] rfl (.cons (.pc rfl (.cons (.ownL seen60) (.keep rfl (.cons (.ownL (fun _=>.plain rfl)) .nil)))) .nil) (f39_ok v2 hv3) (ind_of rfl) rfl) ?_
 refine AOps.go [2] [] [] [0,1,6] 1 ⟨[(0,.pc 0 0),(1,tI v1),(6,tB v3)],[.cells 51 [k0 v2.f0,.int .i64 v2.f1,k1 v2.f2]]⟩ ?_ (zz rfl) trivial ?_
 ·kernel_rfl
 refine AOps.nil ?_
 refine AWp.cond rfl (fun hb=>?_) fun hb=>?_
 ·replace h:=of_true h hb
  refine AWp.keepTo [] 1 ⟨[],[.cells 51 [k0 v2.f0,.int .i64 v2.f1,k1 v2.f2]]⟩ ?_ (zz rfl) ?_
  ·kernel_rfl
  refine AWp.seq ?_
  refine AWp.start [0,1] [] [] [4,5] 1 ⟨[(4,tB false),(5,tI (7:Int))],[.cells 51 [k0 v2.f0,.int .i64 v2.f1,k1 v2.f2]]⟩ rfl ?_ (zz rfl) trivial ?_
  ·kernel_rfl
  refine AOps.nil ?_
  refine AWp.ret ?_
  cases h
  exact ⟨.inr rfl,rfl⟩
 ·replace h:=of_false h hb
  refine AWp.keepTo [0,1] 1 ⟨[(0,.pc 0 0),(1,tI v1)],[.cells 51 [k0 v2.f0,.int .i64 v2.f1,k1 v2.f2]]⟩ ?_ (zz rfl) ?_
  ·kernel_rfl
  refine AWp.seq ?_
  refine AWp.start [0,1] [2,3,4] [] [0,1,10,11] 1 ⟨[(0,.pc 0 0),(1,tI v1),(10,.pc 0 0),(11,tI v1)],[.cells 51 [k0 v2.f0,.int .i64 v2.f1,k1 v2.f2]]⟩ rfl ?_ (zz rfl) trivial ?_
  ·kernel_rfl
  obtain ⟨v4,hv4,h⟩:=of_bind h
  refine AOps.cons (AOne.callV (F:=(FF 17 1)) _ rfl rfl rfl 12 rfl rfl 42 [] rfl Try.call42 [.pc 0 0,tI v1] [.rp (c50 v2),tI v1] rfl (.cons (.pc rfl (.cons (.ownL seen60) (.keep rfl (.cons (.ownL (fun _=>.plain rfl)) .nil)))) (.cons (.old rfl) .nil)) (f42_ok v2 v1 hv4) (ind_of rfl) rfl) ?_
  refine AOps.go [3,4] [] [] [0,1,9] 1 ⟨[(0,.pc 0 0),(1,tI v1),(9,tB (!v4))],[.cells 51 [k0 v2.f0,.int .i64 v2.f1,k1 v2.f2]]⟩ ?_ (zz rfl) trivial ?_
  ·kernel_rfl
  refine AOps.nil ?_
  refine AWp.cond rfl (fun hb=>?_) fun hb=>?_
  ·replace h:=of_true h hb
   refine AWp.keepTo [] 1 ⟨[],[.cells 51 [k0 v2.f0,.int .i64 v2.f1,k1 v2.f2]]⟩ ?_ (zz rfl) ?_
   ·kernel_rfl
   refine AWp.seq ?_
   refine AWp.start [0,1] [] [] [4,5] 1 ⟨[(4,tB false),(5,tI (2:Int))],[.cells 51 [k0 v2.f0,.int .i64 v2.f1,k1 v2.f2]]⟩ rfl ?_ (zz rfl) trivial ?_
   ·kernel_rfl
   refine AOps.nil ?_
   refine AWp.ret ?_
   cases h
   exact ⟨.inr rfl,rfl⟩
  ·replace h:=of_false h hb
   refine AWp.keepTo [0,1] 1 ⟨[(0,.pc 0 0),(1,tI v1)],[.cells 51 [k0 v2.f0,.int .i64 v2.f1,k1 v2.f2]]⟩ ?_ (zz rfl) ?_
   ·kernel_rfl
   refine AWp.skip ?_
   refine AWp.seq ?_
   refine AWp.start [0,1] [2,3,4] [] [14,15] 1 ⟨[(14,.pc 0 0),(15,tI v1)],[.cells 51 [k0 v2.f0,.int .i64 v2.f1,k1 v2.f2]]⟩ rfl ?_ (zz rfl) trivial ?_
   ·kernel_rfl
   obtain ⟨v5,hv5,h⟩:=of_bind h
   refine AOps.cons (AOne.callO (F:=(FF 17 1)) _ rfl rfl rfl 16 rfl rfl 43 [] rfl Try.call43 [0] (by decide) [.pc 0 0,tI v1] (by kernel_rfl) [.cells 51 [k0 v2.f0,.int .i64 v2.f1,k1 v2.f2]] (by kernel_rfl) (f43o_ok v1 (T50.mk v2.f0 v2.f1 v2.f2) hv5) (by kernel_rfl) (by kernel_rfl) _ rfl) ?_
   refine AOps.go [3,4] [] [] [4,5] 1 ⟨[(4,tB v5.1),(5,tI (0:Int))],[.cells 51 [k0 v5.2.f0,.int .i64 v5.2.f1,k1 v5.2.f2]]⟩ ?_ (zz rfl) trivial ?_
   ·kernel_rfl
   refine AOps.nil ?_
   refine AWp.ret ?_
   cases h
   exact ⟨.inr rfl,rfl⟩

noncomputable def f67_z_68 (v1:Int):Option ((List Int) × Int) :=
 (f39_z ).bind fun v2=>cond v2 (some (([]:List Int),(7:Int))) ((f42_z v1).bind fun v3=>cond (!v3) (some (([]:List Int),(2:Int))) none)

theorem f67_z_68_ok (v1:Int) {r:(List Int) × Int} (h:f67_z_68 v1 = some r):ACall Try.prog 67 [.tv (.sc (.pointer none)),.tv (.int .i64 v1),.fn 68 []] [] (.tup [.tv (ownL 1 3 (cInt .i64) r.1),.tv (.int .i64 r.2)]) []:=by
 refine ACall.ofN (FF 25 0) (rs:=[6,7]) (env:=[(6,q1 r.1),(7,tI r.2)]) Try.func67 rfl Try.ntmps67 Try.results67 (by decide) (by decide) rfl (zz rfl) rfl (get_ofN _ _ _ rfl) (ok_ofN _ rfl) ?_
 refine AWp.seq ?_
 refine AWp.start [0,1] [] [] [0,1,2] 0 ⟨[(0,.tv (.sc (.pointer none))),(1,tI v1),(2,.fn 68 [])],[]⟩ rfl ?_ z0 trivial ?_
 ·kernel_rfl
 refine AOps.nil ?_
 refine AWp.seq ?_
 refine AWp.block ?_
 refine AWp.seq ?_
 refine AWp.start [0] [1,2] [] [0,1,2,9] 0 ⟨[(0,.tv (.sc (.pointer none))),(1,tI v1),(2,.fn 68 []),(9,.tv (.sc (.pointer none)))],[]⟩ rfl ?_ z0 trivial ?_
 ·kernel_rfl
 obtain ⟨v2,hv2,h⟩:=of_bind h
 refine AOps.cons (AOne.callP (F:=(FF 25 0)) _ rfl rfl rfl _ rfl rfl _ _ rfl Try.call39 [.tv (.sc (.pointer none))] rfl rfl (f39_z_ok  hv2) rfl) ?_
 refine AOps.go [2] [] [] [0,1,2,8] 0 ⟨[(0,.tv (.sc (.pointer none))),(1,tI v1),(2,.fn 68 []),(8,tB v2)],[]⟩ ?_ z0 trivial ?_
 ·kernel_rfl
 refine AOps.nil ?_
 refine AWp.cond rfl (fun hb=>?_) fun hb=>?_
 ·replace h:=of_true h hb
  refine AWp.keepTo [] 0 ⟨[],[]⟩ ?_ z0 ?_
  ·kernel_rfl
  refine AWp.seq ?_
  refine AWp.start [0,1] [] [] [6,7] 0 ⟨[(6,.tv (.sc (.slice none 0 0))),(7,tI (7:Int))],[]⟩ rfl ?_ z0 trivial ?_
  ·kernel_rfl
  refine AOps.nil ?_
  refine AWp.nilOwn 6 1 3 (fun i=>(cInt .i64) (([]:List Int).getD i default)) rfl ?_
  refine AWp.keepTo [6,7] 0 ⟨[(6,q1 ([]:List Int)),(7,tI (7:Int))],[]⟩ ?_ z0 ?_
  ·kernel_rfl
  refine AWp.ret ?_
  cases h
  exact ⟨.inr rfl,rfl⟩
 ·replace h:=of_false h hb
  refine AWp.keepTo [0,1,2] 0 ⟨[(0,.tv (.sc (.pointer none))),(1,tI v1),(2,.fn 68 [])],[]⟩ ?_ z0 ?_
  ·kernel_rfl
  refine AWp.seq ?_
  refine AWp.start [0,1] [2,3,4] [] [0,1,2,12,13] 0 ⟨[(0,.tv (.sc (.pointer none))),(1,tI v1),(2,.fn 68 []),(12,.tv (.sc (.pointer none))),(13,tI v1)],[]⟩ rfl ?_ z0 trivial ?_
  ·kernel_rfl
  obtain ⟨v3,hv3,h⟩:=of_bind h
  refine AOps.cons (AOne.callP (F:=(FF 25 0)) _ rfl rfl rfl _ rfl rfl _ _ rfl Try.call42 [.tv (.sc (.pointer none)),tI v1] rfl rfl (f42_z_ok v1 hv3) rfl) ?_
  refine AOps.go [3,4] [] [] [0,1,2,11] 0 ⟨[(0,.tv (.sc (.pointer none))),(1,tI v1),(2,.fn 68 []),(11,tB (!v3))],[]⟩ ?_ z0 trivial ?_
  ·kernel_rfl
  refine AOps.nil ?_
  refine AWp.cond rfl (fun hb=>?_) fun hb=>?_
  ·replace h:=of_true h hb
   refine AWp.keepTo [] 0 ⟨[],[]⟩ ?_ z0 ?_
   ·kernel_rfl
   refine AWp.seq ?_
   refine AWp.start [0,1] [] [] [6,7] 0 ⟨[(6,.tv (.sc (.slice none 0 0))),(7,tI (2:Int))],[]⟩ rfl ?_ z0 trivial ?_
   ·kernel_rfl
   refine AOps.nil ?_
   refine AWp.nilOwn 6 1 3 (fun i=>(cInt .i64) (([]:List Int).getD i default)) rfl ?_
   refine AWp.keepTo [6,7] 0 ⟨[(6,q1 ([]:List Int)),(7,tI (2:Int))],[]⟩ ?_ z0 ?_
   ·kernel_rfl
   refine AWp.ret ?_
   cases h
   exact ⟨.inr rfl,rfl⟩
  ·replace h:=of_false h hb
   refine AWp.keepTo [0,1,2] 0 ⟨[(0,.tv (.sc (.pointer none))),(1,tI v1),(2,.fn 68 [])],[]⟩ ?_ z0 ?_
   ·kernel_rfl
   refine AWp.skip ?_
   refine AWp.seq ?_
   cases h

noncomputable def f28_z (v1:Int):Option ((List Int) × Int) :=
 (f67_z_68 v1).bind fun v2=>some (v2.1,v2.2)

theorem f28_z_ok (v1:Int) {r:(List Int) × Int} (h:f28_z v1 = some r):ACall Try.prog 28 [.tv (.sc (.pointer none)),.tv (.int .i64 v1)] [] (.tup [.tv (ownL 1 3 (cInt .i64) r.1),.tv (.int .i64 r.2)]) []:=by
 refine ACall.ofN (FF 11 0) (rs:=[4,5]) (env:=[(4,q1 r.1),(5,tI r.2)]) Try.func28 rfl Try.ntmps28 Try.results28 (by decide) (by decide) rfl (zz rfl) rfl (get_ofN _ _ _ rfl) (ok_ofN _ rfl) ?_
 refine AWp.seq ?_
 refine AWp.start [0,1] [] [] [0,1] 0 ⟨[(0,.tv (.sc (.pointer none))),(1,tI v1)],[]⟩ rfl ?_ z0 trivial ?_
 ·kernel_rfl
 refine AOps.nil ?_
 refine AWp.seq ?_
 refine AWp.start [0,1] [2,3,4,5,6] [] [6,7] 0 ⟨[(6,.tv (.sc (.pointer none))),(7,tI v1)],[]⟩ rfl ?_ z0 trivial ?_
 ·kernel_rfl
 obtain ⟨v2,hv2,h⟩:=of_bind h
 refine AOps.cons (AOne.callP (F:=(FF 11 0)) _ rfl rfl rfl _ rfl rfl _ _ rfl Try.call67 [.tv (.sc (.pointer none)),tI v1,.fn 68 []] rfl rfl (f67_z_68_ok v1 hv2) rfl) ?_
 refine AOps.go [3,4,5,6] [] [] [4,5,8] 0 ⟨[(4,.al (.slot 8 0,[])),(5,tI v2.2),(8,.tup [q1 v2.1,tI v2.2])],[]⟩ ?_ z0 trivial ?_
 ·kernel_rfl
 refine AOps.nil ?_
 refine AWp.claim 4 (.slot 8 0) (k5 v2.1) rfl rfl rfl rfl ?_
 refine AWp.keepTo [4,5] 0 ⟨[(4,q1 v2.1),(5,tI v2.2)],[]⟩ ?_ z0 ?_
 ·kernel_rfl
 refine AWp.ret ?_
 cases h
 exact ⟨.inr rfl,rfl⟩

noncomputable def f17_j1 :Option ((List Int) × Int) :=
 some (([]:List Int),(0:Int))

noncomputable def f17 (v1:T50) (v2:Int):Option ((List Int) × Int) :=
 (f39 v1).bind fun v3=>cond v3 (some (([]:List Int),(7:Int))) ((f42 v1 v2).bind fun v4=>cond (!v4) (some (([]:List Int),(2:Int))) (if (0:Int) ≤ v2 ∧ v2 < (v1.f0.length:Int) then cond (((v1.f0.getD v2.toNat default).f2) == ([119,97,105,116,115]:List UInt8)) ((f44 v1 v2).bind fun v5=>some (v5,(0:Int))) (if (0:Int) ≤ v2 ∧ v2 < (v1.f0.length:Int) then cond (((v1.f0.getD v2.toNat default).f2) == ([114,117,110,115]:List UInt8)) ((f45 v1 v2).bind fun v6=>cond (decide (v6 > (0:Int))) (some ([v6],(0:Int))) (f17_j1 )) (f17_j1 ) else none) else none))

theorem f17_ok (v1:T50) (v2:Int) {r:(List Int) × Int} (h:f17 v1 v2 = some r):ACall Try.prog 17 [.rp [fzL 27 c60 v1.f0,.int .i64 v1.f1,fzL 2 c43 v1.f2],.tv (.int .i64 v2)] [] (.tup [.tv (ownL 1 3 (cInt .i64) r.1),.tv (.int .i64 r.2)]) []:=by
 refine ACall.ofN (FF 45 0) (rs:=[4,5]) (env:=[(4,q1 r.1),(5,tI r.2)]) Try.func17 rfl Try.ntmps17 Try.results17 (by decide) (by decide) rfl (zz rfl) rfl (get_ofN _ _ _ rfl) (ok_ofN _ rfl) ?_
 refine AWp.seq ?_
 refine AWp.start [0,1] [] [] [0,1] 0 ⟨[(0,.rp (c50 v1)),(1,tI v2)],[]⟩ rfl ?_ z0 trivial ?_
 ·kernel_rfl
 refine AOps.nil ?_
 refine AWp.join (V:=Unit) (fun w=>⟨[],[]⟩) (fun w=>f17_j1  = some r) ?_ ?_
 ·refine AWp.block ?_
  refine AWp.seq ?_
  refine AWp.start [0] [1,2] [] [0,1,8] 0 ⟨[(0,.rp (c50 v1)),(1,tI v2),(8,.rp (c50 v1))],[]⟩ rfl ?_ z0 trivial ?_
  ·kernel_rfl
  obtain ⟨v3,hv3,h⟩:=of_bind h
  refine AOps.cons (AOne.callP (F:=(FF 45 0)) _ rfl rfl rfl _ rfl rfl _ _ rfl Try.call39 [.rp (c50 v1)] rfl rfl (f39_ok v1 hv3) rfl) ?_
  refine AOps.go [2] [] [] [0,1,7] 0 ⟨[(0,.rp (c50 v1)),(1,tI v2),(7,tB v3)],[]⟩ ?_ z0 trivial ?_
  ·kernel_rfl
  refine AOps.nil ?_
  refine AWp.cond rfl (fun hb=>?_) fun hb=>?_
  ·replace h:=of_true h hb
   refine AWp.keepTo [] 0 ⟨[],[]⟩ ?_ z0 ?_
   ·kernel_rfl
   refine AWp.seq ?_
   refine AWp.start [0,1] [] [] [4,5] 0 ⟨[(4,.tv (.sc (.slice none 0 0))),(5,tI (7:Int))],[]⟩ rfl ?_ z0 trivial ?_
   ·kernel_rfl
   refine AOps.nil ?_
   refine AWp.nilOwn 4 1 3 (fun i=>(cInt .i64) (([]:List Int).getD i default)) rfl ?_
   refine AWp.keepTo [4,5] 0 ⟨[(4,q1 ([]:List Int)),(5,tI (7:Int))],[]⟩ ?_ z0 ?_
   ·kernel_rfl
   refine AWp.ret ?_
   cases h
   exact ⟨.inr rfl,rfl⟩
  ·replace h:=of_false h hb
   refine AWp.keepTo [0,1] 0 ⟨[(0,.rp (c50 v1)),(1,tI v2)],[]⟩ ?_ z0 ?_
   ·kernel_rfl
   refine AWp.seq ?_
   refine AWp.start [0,1] [2,3,4] [] [0,1,11,12] 0 ⟨[(0,.rp (c50 v1)),(1,tI v2),(11,.rp (c50 v1)),(12,tI v2)],[]⟩ rfl ?_ z0 trivial ?_
   ·kernel_rfl
   obtain ⟨v4,hv4,h⟩:=of_bind h
   refine AOps.cons (AOne.callP (F:=(FF 45 0)) _ rfl rfl rfl _ rfl rfl _ _ rfl Try.call42 [.rp (c50 v1),tI v2] rfl rfl (f42_ok v1 v2 hv4) rfl) ?_
   refine AOps.go [3,4] [] [] [0,1,10] 0 ⟨[(0,.rp (c50 v1)),(1,tI v2),(10,tB (!v4))],[]⟩ ?_ z0 trivial ?_
   ·kernel_rfl
   refine AOps.nil ?_
   refine AWp.cond rfl (fun hb=>?_) fun hb=>?_
   ·replace h:=of_true h hb
    refine AWp.keepTo [] 0 ⟨[],[]⟩ ?_ z0 ?_
    ·kernel_rfl
    refine AWp.seq ?_
    refine AWp.start [0,1] [] [] [4,5] 0 ⟨[(4,.tv (.sc (.slice none 0 0))),(5,tI (2:Int))],[]⟩ rfl ?_ z0 trivial ?_
    ·kernel_rfl
    refine AOps.nil ?_
    refine AWp.nilOwn 4 1 3 (fun i=>(cInt .i64) (([]:List Int).getD i default)) rfl ?_
    refine AWp.keepTo [4,5] 0 ⟨[(4,q1 ([]:List Int)),(5,tI (2:Int))],[]⟩ ?_ z0 ?_
    ·kernel_rfl
    refine AWp.ret ?_
    cases h
    exact ⟨.inr rfl,rfl⟩
   ·replace h:=of_false h hb
    refine AWp.keepTo [0,1] 0 ⟨[(0,.rp (c50 v1)),(1,tI v2)],[]⟩ ?_ z0 ?_
    ·kernel_rfl
    refine AWp.seq ?_
    obtain ⟨hg,h⟩:=of_guard h
    refine AWp.start [0,1,2,3,4,5,6,7,8,9] [] [(0:Int) ≤ v2,v2 < (v1.f0.length:Int)] [0,1,15] 0 ⟨[(0,.rp (c50 v1)),(1,tI v2),(15,tB (((gD v1.f0 v2).f2) == ([119,97,105,116,115]:List UInt8)))],[]⟩ rfl ?_ z0 ⟨hg.1,hg.2⟩ ?_
    ·kernel_rfl
    refine AOps.nil ?_
    refine AWp.cond rfl (fun hb=>?_) fun hb=>?_
    ·replace h:=of_true h hb
     refine AWp.keepTo [0,1] 0 ⟨[(0,.rp (c50 v1)),(1,tI v2)],[]⟩ ?_ z0 ?_
     ·kernel_rfl
     refine AWp.seq ?_
     refine AWp.start [0,1] [2,3,4] [] [25,26] 0 ⟨[(25,.rp (c50 v1)),(26,tI v2)],[]⟩ rfl ?_ z0 trivial ?_
     ·kernel_rfl
     obtain ⟨v5,hv5,h⟩:=of_bind h
     refine AOps.cons (AOne.callP (F:=(FF 45 0)) _ rfl rfl rfl _ rfl rfl _ _ rfl Try.call44 [.rp (c50 v1),tI v2] rfl rfl (f44_ok v1 v2 hv5) rfl) ?_
     refine AOps.go [3,4] [] [] [4,5] 0 ⟨[(4,q1 v5),(5,tI (0:Int))],[]⟩ ?_ z0 trivial ?_
     ·kernel_rfl
     refine AOps.nil ?_
     refine AWp.ret ?_
     cases h
     exact ⟨.inr rfl,rfl⟩
    ·replace h:=of_false h hb
     refine AWp.keepTo [0,1] 0 ⟨[(0,.rp (c50 v1)),(1,tI v2)],[]⟩ ?_ z0 ?_
     ·kernel_rfl
     refine AWp.seq ?_
     obtain ⟨hg,h⟩:=of_guard h
     refine AWp.start [0,1,2,3,4,5,6,7,8,9] [] [(0:Int) ≤ v2,v2 < (v1.f0.length:Int)] [0,1,28] 0 ⟨[(0,.rp (c50 v1)),(1,tI v2),(28,tB (((gD v1.f0 v2).f2) == ([114,117,110,115]:List UInt8)))],[]⟩ rfl ?_ z0 ⟨hg.1,hg.2⟩ ?_
     ·kernel_rfl
     refine AOps.nil ?_
     refine AWp.cond rfl (fun hb=>?_) fun hb=>?_
     ·replace h:=of_true h hb
      refine AWp.keepTo [0,1] 0 ⟨[(0,.rp (c50 v1)),(1,tI v2)],[]⟩ ?_ z0 ?_
      ·kernel_rfl
      refine AWp.seq ?_
      refine AWp.start [0,1] [2,3] [] [38,39] 0 ⟨[(38,.rp (c50 v1)),(39,tI v2)],[]⟩ rfl ?_ z0 trivial ?_
      ·kernel_rfl
      obtain ⟨v6,hv6,h⟩:=of_bind h
      refine AOps.cons (AOne.callP (F:=(FF 45 0)) _ rfl rfl rfl _ rfl rfl _ _ rfl Try.call45 [.rp (c50 v1),tI v2] rfl rfl (f45_ok v1 v2 hv6) rfl) ?_
      refine AOps.go [3] [] [] [6] 0 ⟨[(6,tI v6)],[]⟩ ?_ z0 trivial ?_
      ·kernel_rfl
      refine AOps.nil ?_
      refine AWp.seq ?_
      refine AWp.start [0,1] [] [] [6,42] 0 ⟨[(6,tI v6),(42,tB (decide (v6 > (0:Int))))],[]⟩ rfl ?_ z0 trivial ?_
      ·kernel_rfl
      refine AOps.nil ?_
      refine AWp.cond rfl (fun hb=>?_) fun hb=>?_
      ·replace h:=of_true h hb
       refine AWp.keepTo [6] 0 ⟨[(6,tI v6)],[]⟩ ?_ z0 ?_
       ·kernel_rfl
       refine AWp.seq ?_
       refine AWp.start [0,1] [2,3] [] [44] 0 ⟨[(44,.tv (.own 1 3 1 (newRowF [.int .i64 v6] 1)))],[]⟩ rfl ?_ z0 trivial ?_
       ·kernel_rfl
       refine AOps.extL 44 (cInt .i64) [v6] rfl rfl (row_at (cInt .i64) 1 (fun _=>rfl) [v6] _ rfl) ?_
       refine AOps.go [2,3] [] [] [4,5] 0 ⟨[(4,q1 [v6]),(5,tI (0:Int))],[]⟩ ?_ z0 trivial ?_
       ·kernel_rfl
       refine AOps.nil ?_
       refine AWp.ret ?_
       cases h
       exact ⟨.inr rfl,rfl⟩
      ·replace h:=of_false h hb
       refine AWp.keepTo [] 0 ⟨[],[]⟩ ?_ z0 ?_
       ·kernel_rfl
       refine AWp.skip ?_
       exact ⟨(),h,rfl⟩
     ·replace h:=of_false h hb
      refine AWp.keepTo [] 0 ⟨[],[]⟩ ?_ z0 ?_
      ·kernel_rfl
      refine AWp.skip ?_
      exact ⟨(),h,rfl⟩
 ·rintro ⟨⟩ h
  refine AWp.seq ?_
  refine AWp.start [0,1] [] [] [4,5] 0 ⟨[(4,.tv (.sc (.slice none 0 0))),(5,tI (0:Int))],[]⟩ rfl ?_ z0 trivial ?_
  ·kernel_rfl
  refine AOps.nil ?_
  refine AWp.nilOwn 4 1 3 (fun i=>(cInt .i64) (([]:List Int).getD i default)) rfl ?_
  refine AWp.keepTo [4,5] 0 ⟨[(4,q1 ([]:List Int)),(5,tI (0:Int))],[]⟩ ?_ z0 ?_
  ·kernel_rfl
  refine AWp.ret ?_
  cases h
  exact ⟨.inr rfl,rfl⟩

noncomputable def f16_z (v1:List Int):Option Int :=
 (f39_z ).bind fun v2=>cond v2 (some (7:Int)) none

theorem f16_z_ok (v1:List Int) {r:Int} (h:f16_z v1 = some r):ACall Try.prog 16 [.tv (.sc (.pointer none)),.tv (fzL 1 (cInt .i64) v1)] [] (.tv (.int .i64 r)) []:=by
 refine ACall.of1 (FF 39 0) Try.func16 rfl Try.ntmps16 Try.results16 (zz rfl) rfl rfl ?_
 refine AWp.seq ?_
 refine AWp.start [0,1] [] [] [1,2] 1 ⟨[(1,q0 v1),(2,.pc 0 0)],[.cells 25 [.sc (.pointer none)]]⟩ rfl ?_ z0 trivial ?_
 ·kernel_rfl
 refine AOps.nil ?_
 refine AWp.seq ?_
 refine AWp.pin 0 rfl rfl ?_
 refine AWp.keepTo [1,2] 0 ⟨[(1,q0 v1),(2,.rp [.sc (.pointer none)])],[]⟩ ?_ z0 ?_
 ·kernel_rfl
 refine AWp.block ?_
 refine AWp.seq ?_
 refine AWp.start [0] [1,2] [] [1,2,10] 0 ⟨[(1,q0 v1),(2,.rp [.sc (.pointer none)]),(10,.tv (.sc (.pointer none)))],[]⟩ rfl ?_ z0 trivial ?_
 ·kernel_rfl
 obtain ⟨v2,hv2,h⟩:=of_bind h
 refine AOps.cons (AOne.callP (F:=(FF 39 0)) _ rfl rfl rfl _ rfl rfl _ _ rfl Try.call39 [.tv (.sc (.pointer none))] rfl rfl (f39_z_ok  hv2) rfl) ?_
 refine AOps.go [2] [] [] [1,2,9] 0 ⟨[(1,q0 v1),(2,.rp [.sc (.pointer none)]),(9,tB v2)],[]⟩ ?_ z0 trivial ?_
 ·kernel_rfl
 refine AOps.nil ?_
 refine AWp.cond rfl (fun hb=>?_) fun hb=>?_
 ·replace h:=of_true h hb
  refine AWp.keepTo [] 0 ⟨[],[]⟩ ?_ z0 ?_
  ·kernel_rfl
  refine AWp.seq ?_
  refine AWp.start [0] [] [] [4] 0 ⟨[(4,tI (7:Int))],[]⟩ rfl ?_ z0 trivial ?_
  ·kernel_rfl
  refine AOps.nil ?_
  refine AWp.ret ?_
  cases h
  exact ⟨.inr rfl,rfl⟩
 ·replace h:=of_false h hb
  refine AWp.keepTo [1,2] 0 ⟨[(1,q0 v1),(2,.rp [.sc (.pointer none)])],[]⟩ ?_ z0 ?_
  ·kernel_rfl
  refine AWp.seq ?_
  cases h

noncomputable def f18_z (v1:Int):Option (List UInt8) :=
 (f39_z ).bind fun v2=>(cond v2 (some true) ((f42_z v1).bind fun v4=>some (!v4))).bind fun v3=>cond v3 (some ([]:List UInt8)) none

theorem f18_z_ok (v1:Int) {r:(List UInt8)} (h:f18_z v1 = some r):ACall Try.prog 18 [.tv (.sc (.pointer none)),.tv (.int .i64 v1)] [] (.tv (.str r)) []:=by
 refine ACall.of1 (FF 21 0) Try.func18 rfl Try.ntmps18 Try.results18 (zz rfl) rfl rfl ?_
 refine AWp.seq ?_
 refine AWp.start [0] [] [] [0,1] 0 ⟨[(0,.tv (.sc (.pointer none))),(1,tI v1)],[]⟩ rfl ?_ z0 trivial ?_
 ·kernel_rfl
 refine AOps.nil ?_
 refine AWp.seq ?_
 refine AWp.seq ?_
 refine AWp.start [0] [1,2,3,4,5,6,7] [] [0,1,5] 0 ⟨[(0,.tv (.sc (.pointer none))),(1,tI v1),(5,.tv (.sc (.pointer none)))],[]⟩ rfl ?_ z0 trivial ?_
 ·kernel_rfl
 obtain ⟨v2,hv2,h⟩:=of_bind h
 refine AOps.cons (AOne.callP (F:=(FF 21 0)) _ rfl rfl rfl _ rfl rfl _ _ rfl Try.call39 [.tv (.sc (.pointer none))] rfl rfl (f39_z_ok  hv2) rfl) ?_
 refine AOps.go [2] [3,4,5,6,7] [] [0,1,7] 0 ⟨[(0,.tv (.sc (.pointer none))),(1,tI v1),(7,tB v2)],[]⟩ ?_ z0 trivial ?_
 ·kernel_rfl
 obtain ⟨v3,hc3,h⟩:=of_bind h
 refine AOps.cut [3,4,5,6,7] [] (fun σ=>σ = ⟨[(0,.tv (.sc (.pointer none))),(1,tI v1),(12,tB v3)],[]⟩) ?_ fun σ' hJ=>?_
 ·refine AOps.split (fun b=>⟨[(0,.tv (.sc (.pointer none))),(1,tI v1),(7,tB b)],[]⟩) _ (fun hb=>?_) fun hb=>?_
  ·replace hc3:=of_true hc3 hb
   refine AOps.go [3,4,5,6,7] [] [] [0,1,12] 0 ⟨[(0,.tv (.sc (.pointer none))),(1,tI v1),(12,tB true)],[]⟩ ?_ z0 trivial ?_
   ·kernel_rfl
   cases hc3
   exact AOps.nil rfl
  ·replace hc3:=of_false hc3 hb
   refine AOps.go [3,4] [5,6,7] [] [0,1,7,8,9] 0 ⟨[(0,.tv (.sc (.pointer none))),(1,tI v1),(7,tB false),(8,.tv (.sc (.pointer none))),(9,tI v1)],[]⟩ ?_ z0 trivial ?_
   ·kernel_rfl
   obtain ⟨v4,hv4,hc3⟩:=of_bind hc3
   refine AOps.cons (AOne.callP (F:=(FF 21 0)) _ rfl rfl rfl _ rfl rfl _ _ rfl Try.call42 [.tv (.sc (.pointer none)),tI v1] rfl rfl (f42_z_ok v1 hv4) rfl) ?_
   refine AOps.go [6,7] [] [] [0,1,12] 0 ⟨[(0,.tv (.sc (.pointer none))),(1,tI v1),(12,tB (!v4))],[]⟩ ?_ z0 trivial ?_
   ·kernel_rfl
   cases hc3
   exact AOps.nil rfl
 subst hJ
 refine AOps.nil ?_
 refine AWp.cond rfl (fun hb=>?_) fun hb=>?_
 ·replace h:=of_true h hb
  refine AWp.keepTo [] 0 ⟨[],[]⟩ ?_ z0 ?_
  ·kernel_rfl
  refine AWp.seq ?_
  refine AWp.start [0] [] [] [4] 0 ⟨[(4,tS ([]:List UInt8))],[]⟩ rfl ?_ z0 trivial ?_
  ·kernel_rfl
  refine AOps.nil ?_
  refine AWp.ret ?_
  cases h
  exact ⟨.inr rfl,rfl⟩
 ·replace h:=of_false h hb
  refine AWp.keepTo [0,1] 0 ⟨[(0,.tv (.sc (.pointer none))),(1,tI v1)],[]⟩ ?_ z0 ?_
  ·kernel_rfl
  refine AWp.skip ?_
  refine AWp.seq ?_
  cases h

noncomputable def f18 (v1:T50) (v2:Int):Option (List UInt8) :=
 (f39 v1).bind fun v3=>(cond v3 (some true) ((f42 v1 v2).bind fun v5=>some (!v5))).bind fun v4=>cond v4 (some ([]:List UInt8)) (if (0:Int) ≤ v2 ∧ v2 < (v1.f0.length:Int) then some ((v1.f0.getD v2.toNat default).f2) else none)

theorem f18_ok (v1:T50) (v2:Int) {r:(List UInt8)} (h:f18 v1 v2 = some r):ACall Try.prog 18 [.rp [fzL 27 c60 v1.f0,.int .i64 v1.f1,fzL 2 c43 v1.f2],.tv (.int .i64 v2)] [] (.tv (.str r)) []:=by
 refine ACall.of1 (FF 21 0) Try.func18 rfl Try.ntmps18 Try.results18 (zz rfl) rfl rfl ?_
 refine AWp.seq ?_
 refine AWp.start [0] [] [] [0,1] 0 ⟨[(0,.rp (c50 v1)),(1,tI v2)],[]⟩ rfl ?_ z0 trivial ?_
 ·kernel_rfl
 refine AOps.nil ?_
 refine AWp.seq ?_
 refine AWp.seq ?_
 refine AWp.start [0] [1,2,3,4,5,6,7] [] [0,1,5] 0 ⟨[(0,.rp (c50 v1)),(1,tI v2),(5,.rp (c50 v1))],[]⟩ rfl ?_ z0 trivial ?_
 ·kernel_rfl
 obtain ⟨v3,hv3,h⟩:=of_bind h
 refine AOps.cons (AOne.callP (F:=(FF 21 0)) _ rfl rfl rfl _ rfl rfl _ _ rfl Try.call39 [.rp (c50 v1)] rfl rfl (f39_ok v1 hv3) rfl) ?_
 refine AOps.go [2] [3,4,5,6,7] [] [0,1,7] 0 ⟨[(0,.rp (c50 v1)),(1,tI v2),(7,tB v3)],[]⟩ ?_ z0 trivial ?_
 ·kernel_rfl
 obtain ⟨v4,hc3,h⟩:=of_bind h
 refine AOps.cut [3,4,5,6,7] [] (fun σ=>σ = ⟨[(0,.rp (c50 v1)),(1,tI v2),(12,tB v4)],[]⟩) ?_ fun σ' hJ=>?_
 ·refine AOps.split (fun b=>⟨[(0,.rp (c50 v1)),(1,tI v2),(7,tB b)],[]⟩) _ (fun hb=>?_) fun hb=>?_
  ·replace hc3:=of_true hc3 hb
   refine AOps.go [3,4,5,6,7] [] [] [0,1,12] 0 ⟨[(0,.rp (c50 v1)),(1,tI v2),(12,tB true)],[]⟩ ?_ z0 trivial ?_
   ·kernel_rfl
   cases hc3
   exact AOps.nil rfl
  ·replace hc3:=of_false hc3 hb
   refine AOps.go [3,4] [5,6,7] [] [0,1,7,8,9] 0 ⟨[(0,.rp (c50 v1)),(1,tI v2),(7,tB false),(8,.rp (c50 v1)),(9,tI v2)],[]⟩ ?_ z0 trivial ?_
   ·kernel_rfl
   obtain ⟨v5,hv5,hc3⟩:=of_bind hc3
   refine AOps.cons (AOne.callP (F:=(FF 21 0)) _ rfl rfl rfl _ rfl rfl _ _ rfl Try.call42 [.rp (c50 v1),tI v2] rfl rfl (f42_ok v1 v2 hv5) rfl) ?_
   refine AOps.go [6,7] [] [] [0,1,12] 0 ⟨[(0,.rp (c50 v1)),(1,tI v2),(12,tB (!v5))],[]⟩ ?_ z0 trivial ?_
   ·kernel_rfl
   cases hc3
   exact AOps.nil rfl
 subst hJ
 refine AOps.nil ?_
 refine AWp.cond rfl (fun hb=>?_) fun hb=>?_
 ·replace h:=of_true h hb
  refine AWp.keepTo [] 0 ⟨[],[]⟩ ?_ z0 ?_
  ·kernel_rfl
  refine AWp.seq ?_
  refine AWp.start [0] [] [] [4] 0 ⟨[(4,tS ([]:List UInt8))],[]⟩ rfl ?_ z0 trivial ?_
  ·kernel_rfl
  refine AOps.nil ?_
  refine AWp.ret ?_
  cases h
  exact ⟨.inr rfl,rfl⟩
 ·replace h:=of_false h hb
  refine AWp.keepTo [0,1] 0 ⟨[(0,.rp (c50 v1)),(1,tI v2)],[]⟩ ?_ z0 ?_
  ·kernel_rfl
  refine AWp.skip ?_
  refine AWp.seq ?_
  obtain ⟨hg,h⟩:=of_guard h
  refine AWp.start [0,1,2,3,4,5,6,7,8] [] [(0:Int) ≤ v2,v2 < (v1.f0.length:Int)] [4] 0 ⟨[(4,tS ((gD v1.f0 v2).f2))],[]⟩ rfl ?_ z0 ⟨hg.1,hg.2⟩ ?_
  ·kernel_rfl
  refine AOps.nil ?_
  refine AWp.ret ?_
  cases h
  exact ⟨.inr rfl,rfl⟩

noncomputable def f19_z_b1 :Option (Unit ⊕ Out Bool Unit) :=
 none

noncomputable def f19_z :Option Bool :=
 (f39_z ).bind fun v1=>cond v1 (some false) ((iter (fun _=>f19_z_b1) ()).bind fun y=>match y with | .ret v2=>some v2 | .go _=>none)

theorem f19_z_ok  {r:Bool} (h:f19_z  = some r):ACall Try.prog 19 [.tv (.sc (.pointer none))] [] (.tv (.bool r)) []:=by
 refine ACall.of1 (FF 39 0) Try.func19 rfl Try.ntmps19 Try.results19 (zz rfl) rfl rfl ?_
 refine AWp.seq ?_
 refine AWp.start [0] [] [] [0] 0 ⟨[(0,.tv (.sc (.pointer none)))],[]⟩ rfl ?_ z0 trivial ?_
 ·kernel_rfl
 refine AOps.nil ?_
 refine AWp.seq ?_
 refine AWp.seq ?_
 refine AWp.start [0] [1] [] [0,5] 0 ⟨[(0,.tv (.sc (.pointer none))),(5,.tv (.sc (.pointer none)))],[]⟩ rfl ?_ z0 trivial ?_
 ·kernel_rfl
 obtain ⟨v1,hv1,h⟩:=of_bind h
 refine AOps.cons (AOne.callP (F:=(FF 39 0)) _ rfl rfl rfl _ rfl rfl _ _ rfl Try.call39 [.tv (.sc (.pointer none))] rfl rfl (f39_z_ok  hv1) rfl) ?_
 refine AOps.keepTo [0,6] 0 ⟨[(0,.tv (.sc (.pointer none))),(6,tB v1)],[]⟩ ?_ z0 ?_
 ·kernel_rfl
 refine AOps.nil ?_
 refine AWp.cond rfl (fun hb=>?_) fun hb=>?_
 ·replace h:=of_true h hb
  refine AWp.keepTo [] 0 ⟨[],[]⟩ ?_ z0 ?_
  ·kernel_rfl
  refine AWp.seq ?_
  refine AWp.start [0] [] [] [2] 0 ⟨[(2,tB false)],[]⟩ rfl ?_ z0 trivial ?_
  ·kernel_rfl
  refine AOps.nil ?_
  refine AWp.ret ?_
  cases h
  exact ⟨.inr rfl,rfl⟩
 ·replace h:=of_false h hb
  refine AWp.keepTo [0] 0 ⟨[(0,.tv (.sc (.pointer none)))],[]⟩ ?_ z0 ?_
  ·kernel_rfl
  refine AWp.skip ?_
  refine AWp.seq ?_
  refine AWp.start [0] [] [] [0,3] 0 ⟨[(0,.tv (.sc (.pointer none))),(3,tB false)],[]⟩ rfl ?_ z0 trivial ?_
  ·kernel_rfl
  refine AOps.nil ?_
  refine AWp.seq ?_
  refine AWp.seq ?_
  refine AWp.start [0] [] [] [0,3,4] 0 ⟨[(0,.tv (.sc (.pointer none))),(3,tB false),(4,tI (1:Int))],[]⟩ rfl ?_ z0 trivial ?_
  ·kernel_rfl
  refine AOps.nil ?_
  refine AWp.block ?_
  obtain ⟨y,hy,h⟩:=of_bind h
  refine AWp.mono (AWp.loop (S:=Unit) (Y:=Out Bool Unit) (fun _=>⟨[(0,.tv (.sc (.pointer none))),(3,tB false),(4,tI (1:Int))],[]⟩) (fun _=>f19_z_b1) (fun y e σ=>match y with | .ret r=>e = .ret ∧ σ = ⟨[(2,tB r)],[]⟩ | .go v=>False) ?_ hy) ?_
  ·rintro ⟨⟩ o h
   refine AWp.seq ?_
   refine AWp.seq ?_
   cases h
  ·intro e σ hp
   rcases y with v2 | _
   ·obtain ⟨rfl,rfl⟩:=hp
    cases h
    exact ⟨.inr rfl,rfl⟩
   ·exact hp.elim

end Go.Sx.img
