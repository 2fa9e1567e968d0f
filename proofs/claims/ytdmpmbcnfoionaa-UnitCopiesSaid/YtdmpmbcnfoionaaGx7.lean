/- Printed by program (wip/gen): plain functions and their walks; no condition. -/
import Derived.Test.YtdmpmbcnfoionaaGx6
namespace Go.Sx.unit
open Go Go.Sx Go.Proofs

abbrev hp25 (v36:List UInt8) (v37:Int) (v38:List Int) (v39:Int) (v40:Bool) (v41:List UInt8) (v42:Int) (v43:List (List Int)) (v44:Bool) (v45:Int) (v46:Bool) (v47:List Int) (v87:(List Int) × Int × T64) (v88:(List Int) × Int × T78):List AObj:=[.cells 65 [.str v36,.int .i64 v37,k0 v38,.int .i64 v39,.bool v40],.cells 79 [.str v41,.int .i64 v42,fzL 1 (cSl 1 (cInt .u8)) v43,.bool v44,.int .i64 v45,.bool v46,k1 v47],.cells 65 [.str v87.2.2.f0,.int .i64 v87.2.2.f1,k0 v87.2.2.f2,.int .i64 v87.2.2.f3,.bool v87.2.2.f4],.cells 79 [.str v88.2.2.f0,.int .i64 v88.2.2.f1,fzL 1 (cSl 1 (cInt .u8)) v88.2.2.f2,.bool v88.2.2.f3,.int .i64 v88.2.2.f4,.bool v88.2.2.f5,k1 v88.2.2.f6]]
abbrev hp26 (v36:List UInt8) (v37:Int) (v38:List Int) (v39:Int) (v40:Bool) (v41:List UInt8) (v42:Int) (v43:List (List Int)) (v44:Bool) (v45:Int) (v46:Bool) (v47:List Int) (v52:T64):List AObj:=[.cells 65 [.str v36,.int .i64 v37,k0 v38,.int .i64 v39,.bool v40],.cells 79 [.str v41,.int .i64 v42,fzL 1 (cSl 1 (cInt .u8)) v43,.bool v44,.int .i64 v45,.bool v46,k1 v47],.cells 65 (c64 v52)]
abbrev hp27 (v36:List UInt8) (v37:Int) (v38:List Int) (v39:Int) (v40:Bool) (v41:List UInt8) (v42:Int) (v43:List (List Int)) (v44:Bool) (v45:Int) (v46:Bool) (v47:List Int):List AObj:=[.cells 65 [.str v36,.int .i64 v37,k0 v38,.int .i64 v39,.bool v40],.cells 79 [.str v41,.int .i64 v42,fzL 1 (cSl 1 (cInt .u8)) v43,.bool v44,.int .i64 v45,.bool v46,k1 v47]]
abbrev hp28 (v36:List UInt8) (v37:Int) (v38:List Int) (v39:Int) (v40:Bool) (v41:List UInt8) (v42:Int) (v43:List (List Int)) (v44:Bool) (v45:Int) (v46:Bool) (v47:List Int) (v54:T78):List AObj:=[.cells 65 [.str v36,.int .i64 v37,k0 v38,.int .i64 v39,.bool v40],.cells 79 [.str v41,.int .i64 v42,fzL 1 (cSl 1 (cInt .u8)) v43,.bool v44,.int .i64 v45,.bool v46,k1 v47],.cells 79 [.str v54.f0,.int .i64 v54.f1,fzL 1 (cSl 1 (cInt .u8)) v54.f2,.bool v54.f3,.int .i64 v54.f4,.bool v54.f5,k1 v54.f6]]
abbrev hp29 (v36:List UInt8) (v37:Int) (v38:List Int) (v39:Int) (v40:Bool) (v41:List UInt8) (v42:Int) (v43:List (List Int)) (v44:Bool) (v45:Int) (v46:Bool) (v47:List Int) (v52:T64) (v64:T78):List AObj:=[.cells 65 [.str v36,.int .i64 v37,k0 v38,.int .i64 v39,.bool v40],.cells 79 [.str v41,.int .i64 v42,fzL 1 (cSl 1 (cInt .u8)) v43,.bool v44,.int .i64 v45,.bool v46,k1 v47],.cells 65 (c64 v52),.cells 79 [.str v64.f0,.int .i64 v64.f1,fzL 1 (cSl 1 (cInt .u8)) v64.f2,.bool v64.f3,.int .i64 v64.f4,.bool v64.f5,k1 v64.f6]]
abbrev hp30 (v13:T78):List AObj:=[.cells 79 [.str v13.f0,.int .i64 v13.f1,fzL 1 (cSl 1 (cInt .u8)) v13.f2,.bool v13.f3,.int .i64 v13.f4,.bool v13.f5,k1 v13.f6]]
abbrev hp31 (v24:List UInt8) (v25:Int) (v26:List Int) (v27:Int) (v28:Bool) (v29:List UInt8) (v30:Int) (v31:List (List Int)) (v32:Bool) (v33:Int) (v34:Bool) (v35:List Int):List AObj:=[.cells 65 [.str v24,.int .i64 v25,k0 v26,.int .i64 v27,.bool v28],.cells 79 [.str v29,.int .i64 v30,fzL 1 (cSl 1 (cInt .u8)) v31,.bool v32,.int .i64 v33,.bool v34,k1 v35]]
abbrev hp32 (v36:List UInt8) (v37:Int) (v38:List Int) (v39:Int) (v40:Bool) (v41:List UInt8) (v42:Int) (v43:List (List Int)) (v44:Bool) (v45:Int) (v46:Bool) (v47:List Int) (v75:List UInt8) (v76:Int) (v77:List Int) (v78:Int) (v79:Bool) (v80:List UInt8) (v81:Int) (v82:List (List Int)) (v83:Bool) (v84:Int) (v85:Bool) (v86:List Int):List AObj:=[.cells 65 [.str v36,.int .i64 v37,k0 v38,.int .i64 v39,.bool v40],.cells 79 [.str v41,.int .i64 v42,fzL 1 (cSl 1 (cInt .u8)) v43,.bool v44,.int .i64 v45,.bool v46,k1 v47],.cells 65 [.str v75,.int .i64 v76,k0 v77,.int .i64 v78,.bool v79],.cells 79 [.str v80,.int .i64 v81,fzL 1 (cSl 1 (cInt .u8)) v82,.bool v83,.int .i64 v84,.bool v85,k1 v86]]

noncomputable def f7_b1 (v2:List T46):Option (Unit ⊕ Out Bool Unit) :=
 cond (decide ((0:Int) < (v2.length:Int))) none (some (.inr (.go ())))

noncomputable def f7_b2 (v2:List T46):Option (Unit ⊕ Out Bool Unit) :=
 cond (decide ((0:Int) < (v2.length:Int))) none (some (.inr (.go ())))

noncomputable def f7_b3 (v2:List T46) (v9:T64):Option (Unit ⊕ Out Bool Unit) :=
 cond (decide ((0:Int) < (v2.length:Int))) (if (0:Int) < (v2.length:Int) then (f28o (v2.getD 0 default) v9).bind fun v21=>none else none) (some (.inr (.go ())))

noncomputable def f7_b4 (v2:List T46) (v23:Int) (v24:List UInt8) (v25:Int) (v26:List Int) (v27:Int) (v28:Bool) (v29:List UInt8) (v30:Int) (v31:List (List Int)) (v32:Bool) (v33:Int) (v34:Bool) (v35:List Int):Option ((Int × (List UInt8) × Int × (List Int) × Int × Bool × (List UInt8) × Int × (List (List Int)) × Bool × Int × Bool × (List Int)) ⊕ Out Bool ((List UInt8) × Int × (List Int) × Int × Bool × (List UInt8) × Int × (List (List Int)) × Bool × Int × Bool × (List Int))) :=
 cond (decide (v23 < (v2.length:Int))) (if (0:Int) ≤ v23 ∧ v23 < (v2.length:Int) then (f28o (v2.getD v23.toNat default) (T64.mk v24 v25 v26 v27 v28)).bind fun v48=>if (0:Int) ≤ v23 ∧ v23 < (v2.length:Int) then (f29o (v2.getD v23.toNat default) (T78.mk v29 v30 v31 v32 v33 v34 v35)).bind fun v49=>some (.inl (w64 (v23 + (1:Int)),v48.2.2.f0,v48.2.2.f1,v48.2.2.f2,v48.2.2.f3,v48.2.2.f4,v49.2.2.f0,v49.2.2.f1,v49.2.2.f2,v49.2.2.f3,v49.2.2.f4,v49.2.2.f5,v49.2.2.f6)) else none else none) (some (.inr (.go (v24,v25,v26,v27,v28,v29,v30,v31,v32,v33,v34,v35))))

noncomputable def f7_b5 (v3:List T46):Option (Unit ⊕ Out Bool Unit) :=
 cond (decide ((0:Int) < (v3.length:Int))) none (some (.inr (.go ())))

noncomputable def f7_b6 (v3:List T46):Option (Unit ⊕ Out Bool Unit) :=
 cond (decide ((0:Int) < (v3.length:Int))) none (some (.inr (.go ())))

noncomputable def f7_b7 (v3:List T46) (v52:T64):Option (Unit ⊕ Out Bool Unit) :=
 cond (decide ((0:Int) < (v3.length:Int))) (if (0:Int) < (v3.length:Int) then (f28o (v3.getD 0 default) v52).bind fun v68=>none else none) (some (.inr (.go ())))

noncomputable def f7_b8 (v3:List T46) (v36:List UInt8) (v37:Int) (v38:List Int) (v39:Int) (v40:Bool) (v41:List UInt8) (v42:Int) (v43:List (List Int)) (v44:Bool) (v45:Int) (v46:Bool) (v47:List Int) (v74:Int) (v75:List UInt8) (v76:Int) (v77:List Int) (v78:Int) (v79:Bool) (v80:List UInt8) (v81:Int) (v82:List (List Int)) (v83:Bool) (v84:Int) (v85:Bool) (v86:List Int):Option ((Int × (List UInt8) × Int × (List Int) × Int × Bool × (List UInt8) × Int × (List (List Int)) × Bool × Int × Bool × (List Int)) ⊕ Out Bool Unit) :=
 cond (decide (v74 < (v3.length:Int))) (if (0:Int) ≤ v74 ∧ v74 < (v3.length:Int) then (f28o (v3.getD v74.toNat default) (T64.mk v75 v76 v77 v78 v79)).bind fun v87=>if (0:Int) ≤ v74 ∧ v74 < (v3.length:Int) then (f29o (v3.getD v74.toNat default) (T78.mk v80 v81 v82 v83 v84 v85 v86)).bind fun v88=>(f32 (T64.mk v36 v37 v38 v39 v40) v87.2.2).bind fun v89=>(f33 (T78.mk v41 v42 v43 v44 v45 v46 v47) v88.2.2).bind fun v90=>(cond (!(v89 == v90)) (some true) ((f27 (T64.mk v36 v37 v38 v39 v40) (T78.mk v41 v42 v43 v44 v45 v46 v47)).bind fun v92=>some (!v92))).bind fun v91=>(cond v91 (some true) ((f27 v87.2.2 v88.2.2).bind fun v94=>some (!v94))).bind fun v93=>cond v93 (some (.inr (.ret false))) (some (.inl (w64 (v74 + (1:Int)),v87.2.2.f0,v87.2.2.f1,v87.2.2.f2,v87.2.2.f3,v87.2.2.f4,v88.2.2.f0,v88.2.2.f1,v88.2.2.f2,v88.2.2.f3,v88.2.2.f4,v88.2.2.f5,v88.2.2.f6))) else none else none) (some (.inr (.go ())))

noncomputable def f7 (v1:T32) (v2:List T46) (v3:List T46):Option Bool :=
 (f15 v1 v2).bind fun v4=>(cond v4 (some true) ((f15 v1 v3).bind fun v6=>some v6)).bind fun v5=>cond v5 ((f9 ).bind fun v7=>some v7) ((f16 v1.f0 v1.f1 v1.f2).bind fun v8=>match v8 with | (none,v10)=>(cond (v10 != (0:Int)) ((f9 ).bind fun v11=>some v11) ((f26 v1.f0 v1.f1 v1.f2).bind fun v12=>match v12 with | (none,v14)=>((iter (fun _=>f7_b1 v2) ()).bind fun y=>match y with | .ret v15=>some v15 | .go _=>none) | (some v13,v14)=>(iter (fun _=>f7_b2 v2) ()).bind fun y=>match y with | .ret v16=>some v16 | .go _=>none)) | (some v9,v10)=>cond (v10 != (0:Int)) ((f9 ).bind fun v17=>some v17) ((f26 v1.f0 v1.f1 v1.f2).bind fun v18=>match v18 with | (none,v20)=>((iter (fun _=>f7_b3 v2 v9) ()).bind fun y=>match y with | .ret v22=>some v22 | .go _=>none) | (some v19,v20)=>(iter (fun s=>f7_b4 v2 s.1 s.2.1 s.2.2.1 s.2.2.2.1 s.2.2.2.2.1 s.2.2.2.2.2.1 s.2.2.2.2.2.2.1 s.2.2.2.2.2.2.2.1 s.2.2.2.2.2.2.2.2.1 s.2.2.2.2.2.2.2.2.2.1 s.2.2.2.2.2.2.2.2.2.2.1 s.2.2.2.2.2.2.2.2.2.2.2.1 s.2.2.2.2.2.2.2.2.2.2.2.2) ((0:Int),v9.f0,v9.f1,v9.f2,v9.f3,v9.f4,v19.f0,v19.f1,v19.f2,v19.f3,v19.f4,v19.f5,v19.f6)).bind fun y=>match y with | .ret v50=>some v50 | .go (v36,v37,v38,v39,v40,v41,v42,v43,v44,v45,v46,v47)=>(f30o (T64.mk v36 v37 v38 v39 v40)).bind fun v51=>match v51 with | none=>((f31o (T78.mk v41 v42 v43 v44 v45 v46 v47)).bind fun v53=>match v53 with | none=>((f32_z1 (T64.mk v36 v37 v38 v39 v40)).bind fun v55=>(cond (!v55) (some true) none).bind fun v56=>cond v56 (some false) ((iter (fun _=>f7_b5 v3) ()).bind fun y=>match y with | .ret v57=>some v57 | .go _=>(f9 ).bind fun v58=>some v58)) | some v54=>(f32_z1 (T64.mk v36 v37 v38 v39 v40)).bind fun v59=>(cond (!v59) (some true) none).bind fun v60=>cond v60 (some false) ((iter (fun _=>f7_b6 v3) ()).bind fun y=>match y with | .ret v61=>some v61 | .go _=>(f9 ).bind fun v62=>some v62)) | some v52=>(f31o (T78.mk v41 v42 v43 v44 v45 v46 v47)).bind fun v63=>match v63 with | none=>((f32 (T64.mk v36 v37 v38 v39 v40) v52).bind fun v65=>(cond (!v65) (some true) ((f32 v52 (T64.mk v36 v37 v38 v39 v40)).bind fun v67=>some (!v67))).bind fun v66=>cond v66 (some false) ((iter (fun _=>f7_b7 v3 v52) ()).bind fun y=>match y with | .ret v69=>some v69 | .go _=>(f9 ).bind fun v70=>some v70)) | some v64=>(f32 (T64.mk v36 v37 v38 v39 v40) v52).bind fun v71=>(cond (!v71) (some true) ((f32 v52 (T64.mk v36 v37 v38 v39 v40)).bind fun v73=>some (!v73))).bind fun v72=>cond v72 (some false) ((iter (fun s=>f7_b8 v3 v36 v37 v38 v39 v40 v41 v42 v43 v44 v45 v46 v47 s.1 s.2.1 s.2.2.1 s.2.2.2.1 s.2.2.2.2.1 s.2.2.2.2.2.1 s.2.2.2.2.2.2.1 s.2.2.2.2.2.2.2.1 s.2.2.2.2.2.2.2.2.1 s.2.2.2.2.2.2.2.2.2.1 s.2.2.2.2.2.2.2.2.2.2.1 s.2.2.2.2.2.2.2.2.2.2.2.1 s.2.2.2.2.2.2.2.2.2.2.2.2) ((0:Int),v52.f0,v52.f1,v52.f2,v52.f3,v52.f4,v64.f0,v64.f1,v64.f2,v64.f3,v64.f4,v64.f5,v64.f6)).bind fun y=>match y with | .ret v95=>some v95 | .go _=>(f9 ).bind fun v96=>some v96)))

theorem f7_ok (v1:T32) (v2:List T46) (v3:List T46) {r:Bool} (h:f7 v1 v2 v3 = some r):ACall Try.prog 7 [.agg [.str v1.f0,.int .i64 v1.f1,fzL 1 (cInt .u8) v1.f2],.tv (fzL 4 c46 v2),.tv (fzL 4 c46 v3)] [] (.tv (.bool r)) []:=by
 refine ACall.of1 (FF 117 0) Try.func7 rfl Try.ntmps7 Try.results7 (zz rfl) rfl rfl ?_
 refine AWp.seq ?_
 refine AWp.start [0,1] [] [] [1,2,3] 1 ⟨[(1,q2 v2),(2,q2 v3),(3,.pc 0 0)],[.cells 33 (c32 v1)]⟩ rfl ?_ z0 trivial ?_
 ·kernel_rfl
 refine AOps.nil ?_
 refine AWp.seq ?_
 refine AWp.seq ?_
 refine AWp.pin 0 rfl rfl ?_
 refine AWp.keepTo [1,2,3] 0 ⟨[(1,q2 v2),(2,q2 v3),(3,.rp (c32 v1))],[]⟩ ?_ z0 ?_
 ·kernel_rfl
 refine AWp.start [0,1] [2,3,4,5,6,7] [] [1,2,3,15,16] 0 ⟨[(1,q2 v2),(2,q2 v3),(3,.rp (c32 v1)),(15,.agg (c32 v1)),(16,q2 v2)],[]⟩ rfl ?_ z0 trivial ?_
 ·kernel_rfl
 obtain ⟨v4,hv4,h⟩:=of_bind h
 refine AOps.cons (AOne.callP (F:=(FF 117 0)) _ rfl rfl rfl _ rfl rfl _ _ rfl Try.call15 [.agg (c32 v1),q2 v2] rfl rfl (f15_ok v1 v2 hv4) rfl) ?_
 refine AOps.go [3] [4,5,6,7] [] [1,2,3,18] 0 ⟨[(1,q2 v2),(2,q2 v3),(3,.rp (c32 v1)),(18,tB v4)],[]⟩ ?_ z0 trivial ?_
 ·kernel_rfl
 obtain ⟨v5,hc4,h⟩:=of_bind h
 refine AOps.cut [4,5,6,7] [] (fun σ=>σ = ⟨[(1,q2 v2),(2,q2 v3),(3,.rp (c32 v1)),(22,tB v5)],[]⟩) ?_ fun σ' hJ=>?_
 ·refine AOps.split (fun b=>⟨[(1,q2 v2),(2,q2 v3),(3,.rp (c32 v1)),(18,tB b)],[]⟩) _ (fun hb=>?_) fun hb=>?_
  ·replace hc4:=of_true hc4 hb
   refine AOps.go [4,5,6,7] [] [] [1,2,3,22] 0 ⟨[(1,q2 v2),(2,q2 v3),(3,.rp (c32 v1)),(22,tB true)],[]⟩ ?_ z0 trivial ?_
   ·kernel_rfl
   cases hc4
   exact AOps.nil rfl
  ·replace hc4:=of_false hc4 hb
   refine AOps.go [4,5] [6,7] [] [1,2,3,18,19,20] 0 ⟨[(1,q2 v2),(2,q2 v3),(3,.rp (c32 v1)),(18,tB false),(19,.agg (c32 v1)),(20,q2 v3)],[]⟩ ?_ z0 trivial ?_
   ·kernel_rfl
   obtain ⟨v6,hv6,hc4⟩:=of_bind hc4
   refine AOps.cons (AOne.callP (F:=(FF 117 0)) _ rfl rfl rfl _ rfl rfl _ _ rfl Try.call15 [.agg (c32 v1),q2 v3] rfl rfl (f15_ok v1 v3 hv6) rfl) ?_
   refine AOps.go [7] [] [] [1,2,3,22] 0 ⟨[(1,q2 v2),(2,q2 v3),(3,.rp (c32 v1)),(22,tB v6)],[]⟩ ?_ z0 trivial ?_
   ·kernel_rfl
   cases hc4
   exact AOps.nil rfl
 subst hJ
 refine AOps.nil ?_
 refine AWp.cond rfl (fun hb=>?_) fun hb=>?_
 ·replace h:=of_true h hb
  refine AWp.keepTo [] 0 ⟨[],[]⟩ ?_ z0 ?_
  ·kernel_rfl
  refine AWp.seq ?_
  refine AWp.start [] [0,1] [] [] 0 ⟨[],[]⟩ rfl ?_ z0 trivial ?_
  ·kernel_rfl
  obtain ⟨v7,hv7,h⟩:=of_bind h
  refine AOps.cons (AOne.callP (F:=(FF 117 0)) _ rfl rfl rfl _ rfl rfl _ _ rfl Try.call9 [] rfl rfl (f9_ok  hv7) rfl) ?_
  refine AOps.go [1] [] [] [6] 0 ⟨[(6,tB v7)],[]⟩ ?_ z0 trivial ?_
  ·kernel_rfl
  refine AOps.nil ?_
  refine AWp.ret ?_
  cases h
  exact ⟨.inr rfl,rfl⟩
 ·replace h:=of_false h hb
  refine AWp.keepTo [1,2,3] 0 ⟨[(1,q2 v2),(2,q2 v3),(3,.rp (c32 v1))],[]⟩ ?_ z0 ?_
  ·kernel_rfl
  refine AWp.skip ?_
  refine AWp.seq ?_
  refine AWp.start [0,1,2,3,4,5] [6,7,8,9,10,11] [] [1,2,3,26,28,30] 0 ⟨[(1,q2 v2),(2,q2 v3),(3,.rp (c32 v1)),(26,tS v1.f0),(28,tI v1.f1),(30,q0 v1.f2)],[]⟩ rfl ?_ z0 trivial ?_
  ·kernel_rfl
  obtain ⟨v8,hv8,h⟩:=of_bind h
  rcases v8 with ⟨(_ | v9),v10⟩
  ·replace h:(cond (v10 != (0:Int)) ((f9 ).bind fun v11=>some v11) ((f26 v1.f0 v1.f1 v1.f2).bind fun v12=>match v12 with | (none,v14)=>((iter (fun _=>f7_b1 v2) ()).bind fun y=>match y with | .ret v15=>some v15 | .go _=>none) | (some v13,v14)=>(iter (fun _=>f7_b2 v2) ()).bind fun y=>match y with | .ret v16=>some v16 | .go _=>none)) = some r:=h
   refine AOps.cons (AOne.callO (F:=(FF 117 0)) _ rfl rfl rfl 31 rfl rfl 16 [] rfl Try.call16 [] (by decide) [tS v1.f0,tI v1.f1,q0 v1.f2] (by kernel_rfl) [] (by kernel_rfl) (f16_ok v1.f0 v1.f1 v1.f2 hv8) (by kernel_rfl) (by kernel_rfl) _ rfl) ?_
   refine AOps.go [7,8,9,10,11] [] [] [1,2,3,7,8] 0 ⟨[(1,q2 v2),(2,q2 v3),(3,.rp (c32 v1)),(7,.tv (.sc (.pointer none))),(8,tI v10)],[]⟩ ?_ z0 trivial ?_
   ·kernel_rfl
   refine AOps.nil ?_
   refine AWp.seq ?_
   refine AWp.seq ?_
   refine AWp.start [0,1] [] [] [1,2,3,7,35] 0 ⟨[(1,q2 v2),(2,q2 v3),(3,.rp (c32 v1)),(7,.tv (.sc (.pointer none))),(35,tB (v10 != (0:Int)))],[]⟩ rfl ?_ z0 trivial ?_
   ·kernel_rfl
   refine AOps.nil ?_
   refine AWp.cond rfl (fun hb=>?_) fun hb=>?_
   ·replace h:=of_true h hb
    refine AWp.keepTo [] 0 ⟨[],[]⟩ ?_ z0 ?_
    ·kernel_rfl
    refine AWp.seq ?_
    refine AWp.start [] [0,1] [] [] 0 ⟨[],[]⟩ rfl ?_ z0 trivial ?_
    ·kernel_rfl
    obtain ⟨v11,hv11,h⟩:=of_bind h
    refine AOps.cons (AOne.callP (F:=(FF 117 0)) _ rfl rfl rfl _ rfl rfl _ _ rfl Try.call9 [] rfl rfl (f9_ok  hv11) rfl) ?_
    refine AOps.go [1] [] [] [6] 0 ⟨[(6,tB v11)],[]⟩ ?_ z0 trivial ?_
    ·kernel_rfl
    refine AOps.nil ?_
    refine AWp.ret ?_
    cases h
    exact ⟨.inr rfl,rfl⟩
   ·replace h:=of_false h hb
    refine AWp.keepTo [1,2,3,7] 0 ⟨[(1,q2 v2),(2,q2 v3),(3,.rp (c32 v1)),(7,.tv (.sc (.pointer none)))],[]⟩ ?_ z0 ?_
    ·kernel_rfl
    refine AWp.skip ?_
    refine AWp.seq ?_
    refine AWp.start [0,1,2,3,4,5] [6,7,8,9,10,11] [] [1,2,7,39,41,43] 0 ⟨[(1,q2 v2),(2,q2 v3),(7,.tv (.sc (.pointer none))),(39,tS v1.f0),(41,tI v1.f1),(43,q0 v1.f2)],[]⟩ rfl ?_ z0 trivial ?_
    ·kernel_rfl
    obtain ⟨v12,hv12,h⟩:=of_bind h
    rcases v12 with ⟨(_ | v13),v14⟩
    ·replace h:((iter (fun _=>f7_b1 v2) ()).bind fun y=>match y with | .ret v15=>some v15 | .go _=>none) = some r:=h
     refine AOps.cons (AOne.callO (F:=(FF 117 0)) _ rfl rfl rfl 44 rfl rfl 26 [] rfl Try.call26 [] (by decide) [tS v1.f0,tI v1.f1,q0 v1.f2] (by kernel_rfl) [] (by kernel_rfl) (f26_ok v1.f0 v1.f1 v1.f2 hv12) (by kernel_rfl) (by kernel_rfl) _ rfl) ?_
     refine AOps.go [7,8,9,10,11] [] [] [1,2,7,9] 0 ⟨[(1,q2 v2),(2,q2 v3),(7,.tv (.sc (.pointer none))),(9,.tv (.sc (.pointer none)))],[]⟩ ?_ z0 trivial ?_
     ·kernel_rfl
     refine AOps.nil ?_
     refine AWp.seq ?_
     refine AWp.seq ?_
     refine AWp.start [0] [] [] [1,2,7,9,11] 0 ⟨[(1,q2 v2),(2,q2 v3),(7,.tv (.sc (.pointer none))),(9,.tv (.sc (.pointer none))),(11,tI (0:Int))],[]⟩ rfl ?_ z0 trivial ?_
     ·kernel_rfl
     refine AOps.nil ?_
     refine AWp.block ?_
     obtain ⟨y,hy,h⟩:=of_bind h
     refine AWp.mono (AWp.loop (S:=Unit) (Y:=Out Bool Unit) (fun _=>⟨[(1,q2 v2),(2,q2 v3),(7,.tv (.sc (.pointer none))),(9,.tv (.sc (.pointer none))),(11,tI (0:Int))],[]⟩) (fun _=>f7_b1 v2) (fun y e σ=>match y with | .ret r=>e = .ret ∧ σ = ⟨[(6,tB r)],[]⟩ | .go v=>e = .exit 0 ∧ σ = ⟨[(2,q2 v3),(7,.tv (.sc (.pointer none))),(9,.tv (.sc (.pointer none)))],[]⟩) ?_ hy) ?_
     ·rintro ⟨⟩ o h
      refine AWp.seq ?_
      refine AWp.seq ?_
      refine AWp.start [0,1,2,3] [] [] [1,2,7,9,11,50] 0 ⟨[(1,q2 v2),(2,q2 v3),(7,.tv (.sc (.pointer none))),(9,.tv (.sc (.pointer none))),(11,tI (0:Int)),(50,tB (decide ((0:Int) < (v2.length:Int))))],[]⟩ rfl ?_ z0 trivial ?_
      ·kernel_rfl
      refine AOps.nil ?_
      refine AWp.cond rfl (fun hb=>?_) fun hb=>?_
      ·replace h:=of_true h hb
       refine AWp.keepTo [1,2,7,9,11] 0 ⟨[(1,q2 v2),(2,q2 v3),(7,.tv (.sc (.pointer none))),(9,.tv (.sc (.pointer none))),(11,tI (0:Int))],[]⟩ ?_ z0 ?_
       ·kernel_rfl
       refine AWp.skip ?_
       refine AWp.seq ?_
       refine AWp.block ?_
       refine AWp.seq ?_
       cases h
      ·replace h:=of_false h hb
       refine AWp.keepTo [2,7,9] 0 ⟨[(2,q2 v3),(7,.tv (.sc (.pointer none))),(9,.tv (.sc (.pointer none)))],[]⟩ ?_ z0 ?_
       ·kernel_rfl
       refine AWp.exit ?_
       cases h
       exact Or.inr ⟨_,rfl,by simp,rfl,rfl⟩
     ·intro e σ hp
      rcases y with v15 | _
      ·obtain ⟨rfl,rfl⟩:=hp
       cases h
       exact ⟨.inr rfl,rfl⟩
      ·obtain ⟨rfl,rfl⟩:=hp
       refine AWp.seq ?_
       cases h
    ·replace h:((iter (fun _=>f7_b2 v2) ()).bind fun y=>match y with | .ret v16=>some v16 | .go _=>none) = some r:=h
     refine AOps.cons (AOne.callO (F:=(FF 117 0)) _ rfl rfl rfl 44 rfl rfl 26 [] rfl Try.call26 [] (by decide) [tS v1.f0,tI v1.f1,q0 v1.f2] (by kernel_rfl) [] (by kernel_rfl) (f26_ok v1.f0 v1.f1 v1.f2 hv12) (by kernel_rfl) (by kernel_rfl) _ rfl) ?_
     refine AOps.go [7,8,9,10,11] [] [] [1,2,7,9] 1 ⟨[(1,q2 v2),(2,q2 v3),(7,.tv (.sc (.pointer none))),(9,.pc 0 0)],hp30 v13⟩ ?_ z0 trivial ?_
     ·kernel_rfl
     refine AOps.nil ?_
     refine AWp.seq ?_
     refine AWp.seq ?_
     refine AWp.start [0] [] [] [1,2,7,9,11] 1 ⟨[(1,q2 v2),(2,q2 v3),(7,.tv (.sc (.pointer none))),(9,.pc 0 0),(11,tI (0:Int))],hp30 v13⟩ rfl ?_ z0 trivial ?_
     ·kernel_rfl
     refine AOps.nil ?_
     refine AWp.block ?_
     obtain ⟨y,hy,h⟩:=of_bind h
     refine AWp.mono (AWp.loop (S:=Unit) (Y:=Out Bool Unit) (fun _=>⟨[(1,q2 v2),(2,q2 v3),(7,.tv (.sc (.pointer none))),(9,.pc 0 0),(11,tI (0:Int))],hp30 v13⟩) (fun _=>f7_b2 v2) (fun y e σ=>match y with | .ret r=>e = .ret ∧ σ = ⟨[(6,tB r)],[]⟩ | .go v=>e = .exit 0 ∧ σ = ⟨[(2,q2 v3),(7,.tv (.sc (.pointer none))),(9,.pc 0 0)],hp30 v13⟩) ?_ hy) ?_
     ·rintro ⟨⟩ o h
      refine AWp.seq ?_
      refine AWp.seq ?_
      refine AWp.start [0,1,2,3] [] [] [1,2,7,9,11,50] 1 ⟨[(1,q2 v2),(2,q2 v3),(7,.tv (.sc (.pointer none))),(9,.pc 0 0),(11,tI (0:Int)),(50,tB (decide ((0:Int) < (v2.length:Int))))],hp30 v13⟩ rfl ?_ z0 trivial ?_
      ·kernel_rfl
      refine AOps.nil ?_
      refine AWp.cond rfl (fun hb=>?_) fun hb=>?_
      ·replace h:=of_true h hb
       refine AWp.keepTo [1,2,7,9,11] 1 ⟨[(1,q2 v2),(2,q2 v3),(7,.tv (.sc (.pointer none))),(9,.pc 0 0),(11,tI (0:Int))],hp30 v13⟩ ?_ z0 ?_
       ·kernel_rfl
       refine AWp.skip ?_
       refine AWp.seq ?_
       refine AWp.block ?_
       refine AWp.seq ?_
       cases h
      ·replace h:=of_false h hb
       refine AWp.keepTo [2,7,9] 1 ⟨[(2,q2 v3),(7,.tv (.sc (.pointer none))),(9,.pc 0 0)],hp30 v13⟩ ?_ z0 ?_
       ·kernel_rfl
       refine AWp.exit ?_
       cases h
       exact Or.inr ⟨_,rfl,by simp,rfl,rfl⟩
     ·intro e σ hp
      rcases y with v16 | _
      ·obtain ⟨rfl,rfl⟩:=hp
       cases h
       exact ⟨.inr rfl,rfl⟩
      ·obtain ⟨rfl,rfl⟩:=hp
       refine AWp.seq ?_
       cases h
  ·replace h:(cond (v10 != (0:Int)) ((f9 ).bind fun v17=>some v17) ((f26 v1.f0 v1.f1 v1.f2).bind fun v18=>match v18 with | (none,v20)=>((iter (fun _=>f7_b3 v2 v9) ()).bind fun y=>match y with | .ret v22=>some v22 | .go _=>none) | (some v19,v20)=>(iter (fun s=>f7_b4 v2 s.1 s.2.1 s.2.2.1 s.2.2.2.1 s.2.2.2.2.1 s.2.2.2.2.2.1 s.2.2.2.2.2.2.1 s.2.2.2.2.2.2.2.1 s.2.2.2.2.2.2.2.2.1 s.2.2.2.2.2.2.2.2.2.1 s.2.2.2.2.2.2.2.2.2.2.1 s.2.2.2.2.2.2.2.2.2.2.2.1 s.2.2.2.2.2.2.2.2.2.2.2.2) ((0:Int),v9.f0,v9.f1,v9.f2,v9.f3,v9.f4,v19.f0,v19.f1,v19.f2,v19.f3,v19.f4,v19.f5,v19.f6)).bind fun y=>match y with | .ret v50=>some v50 | .go (v36,v37,v38,v39,v40,v41,v42,v43,v44,v45,v46,v47)=>(f30o (T64.mk v36 v37 v38 v39 v40)).bind fun v51=>match v51 with | none=>((f31o (T78.mk v41 v42 v43 v44 v45 v46 v47)).bind fun v53=>match v53 with | none=>((f32_z1 (T64.mk v36 v37 v38 v39 v40)).bind fun v55=>(cond (!v55) (some true) none).bind fun v56=>cond v56 (some false) ((iter (fun _=>f7_b5 v3) ()).bind fun y=>match y with | .ret v57=>some v57 | .go _=>(f9 ).bind fun v58=>some v58)) | some v54=>(f32_z1 (T64.mk v36 v37 v38 v39 v40)).bind fun v59=>(cond (!v59) (some true) none).bind fun v60=>cond v60 (some false) ((iter (fun _=>f7_b6 v3) ()).bind fun y=>match y with | .ret v61=>some v61 | .go _=>(f9 ).bind fun v62=>some v62)) | some v52=>(f31o (T78.mk v41 v42 v43 v44 v45 v46 v47)).bind fun v63=>match v63 with | none=>((f32 (T64.mk v36 v37 v38 v39 v40) v52).bind fun v65=>(cond (!v65) (some true) ((f32 v52 (T64.mk v36 v37 v38 v39 v40)).bind fun v67=>some (!v67))).bind fun v66=>cond v66 (some false) ((iter (fun _=>f7_b7 v3 v52) ()).bind fun y=>match y with | .ret v69=>some v69 | .go _=>(f9 ).bind fun v70=>some v70)) | some v64=>(f32 (T64.mk v36 v37 v38 v39 v40) v52).bind fun v71=>(cond (!v71) (some true) ((f32 v52 (T64.mk v36 v37 v38 v39 v40)).bind fun v73=>some (!v73))).bind fun v72=>cond v72 (some false) ((iter (fun s=>f7_b8 v3 v36 v37 v38 v39 v40 v41 v42 v43 v44 v45 v46 v47 s.1 s.2.1 s.2.2.1 s.2.2.2.1 s.2.2.2.2.1 s.2.2.2.2.2.1 s.2.2.2.2.2.2.1 s.2.2.2.2.2.2.2.1 s.2.2.2.2.2.2.2.2.1 s.2.2.2.2.2.2.2.2.2.1 s.2.2.2.2.2.2.2.2.2.2.1 s.2.2.2.2.2.2.2.2.2.2.2.1 s.2.2.2.2.2.2.2.2.2.2.2.2) ((0:Int),v52.f0,v52.f1,v52.f2,v52.f3,v52.f4,v64.f0,v64.f1,v64.f2,v64.f3,v64.f4,v64.f5,v64.f6)).bind fun y=>match y with | .ret v95=>some v95 | .go _=>(f9 ).bind fun v96=>some v96))) = some r:=h
   refine AOps.cons (AOne.callO (F:=(FF 117 0)) _ rfl rfl rfl 31 rfl rfl 16 [] rfl Try.call16 [] (by decide) [tS v1.f0,tI v1.f1,q0 v1.f2] (by kernel_rfl) [] (by kernel_rfl) (f16_ok v1.f0 v1.f1 v1.f2 hv8) (by kernel_rfl) (by kernel_rfl) _ rfl) ?_
   refine AOps.go [7,8,9,10,11] [] [] [1,2,3,7,8] 1 ⟨[(1,q2 v2),(2,q2 v3),(3,.rp (c32 v1)),(7,.pc 0 0),(8,tI v10)],[.cells 65 (c64 v9)]⟩ ?_ z0 trivial ?_
   ·kernel_rfl
   refine AOps.nil ?_
   refine AWp.seq ?_
   refine AWp.seq ?_
   refine AWp.start [0,1] [] [] [1,2,3,7,35] 1 ⟨[(1,q2 v2),(2,q2 v3),(3,.rp (c32 v1)),(7,.pc 0 0),(35,tB (v10 != (0:Int)))],[.cells 65 (c64 v9)]⟩ rfl ?_ z0 trivial ?_
   ·kernel_rfl
   refine AOps.nil ?_
   refine AWp.cond rfl (fun hb=>?_) fun hb=>?_
   ·replace h:=of_true h hb
    refine AWp.keepTo [] 0 ⟨[],[]⟩ ?_ z0 ?_
    ·kernel_rfl
    refine AWp.seq ?_
    refine AWp.start [] [0,1] [] [] 0 ⟨[],[]⟩ rfl ?_ z0 trivial ?_
    ·kernel_rfl
    obtain ⟨v17,hv17,h⟩:=of_bind h
    refine AOps.cons (AOne.callP (F:=(FF 117 0)) _ rfl rfl rfl _ rfl rfl _ _ rfl Try.call9 [] rfl rfl (f9_ok  hv17) rfl) ?_
    refine AOps.go [1] [] [] [6] 0 ⟨[(6,tB v17)],[]⟩ ?_ z0 trivial ?_
    ·kernel_rfl
    refine AOps.nil ?_
    refine AWp.ret ?_
    cases h
    exact ⟨.inr rfl,rfl⟩
   ·replace h:=of_false h hb
    refine AWp.keepTo [1,2,3,7] 1 ⟨[(1,q2 v2),(2,q2 v3),(3,.rp (c32 v1)),(7,.pc 0 0)],[.cells 65 (c64 v9)]⟩ ?_ z0 ?_
    ·kernel_rfl
    refine AWp.skip ?_
    refine AWp.seq ?_
    refine AWp.start [0,1,2,3,4,5] [6,7,8,9,10,11] [] [1,2,7,39,41,43] 1 ⟨[(1,q2 v2),(2,q2 v3),(7,.pc 0 0),(39,tS v1.f0),(41,tI v1.f1),(43,q0 v1.f2)],[.cells 65 (c64 v9)]⟩ rfl ?_ z0 trivial ?_
    ·kernel_rfl
    obtain ⟨v18,hv18,h⟩:=of_bind h
    rcases v18 with ⟨(_ | v19),v20⟩
    ·replace h:((iter (fun _=>f7_b3 v2 v9) ()).bind fun y=>match y with | .ret v22=>some v22 | .go _=>none) = some r:=h
     refine AOps.cons (AOne.callO (F:=(FF 117 0)) _ rfl rfl rfl 44 rfl rfl 26 [] rfl Try.call26 [] (by decide) [tS v1.f0,tI v1.f1,q0 v1.f2] (by kernel_rfl) [] (by kernel_rfl) (f26_ok v1.f0 v1.f1 v1.f2 hv18) (by kernel_rfl) (by kernel_rfl) _ rfl) ?_
     refine AOps.go [7,8,9,10,11] [] [] [1,2,7,9] 1 ⟨[(1,q2 v2),(2,q2 v3),(7,.pc 0 0),(9,.tv (.sc (.pointer none)))],[.cells 65 (c64 v9)]⟩ ?_ z0 trivial ?_
     ·kernel_rfl
     refine AOps.nil ?_
     refine AWp.seq ?_
     refine AWp.seq ?_
     refine AWp.start [0] [] [] [1,2,7,9,11] 1 ⟨[(1,q2 v2),(2,q2 v3),(7,.pc 0 0),(9,.tv (.sc (.pointer none))),(11,tI (0:Int))],[.cells 65 (c64 v9)]⟩ rfl ?_ z0 trivial ?_
     ·kernel_rfl
     refine AOps.nil ?_
     refine AWp.block ?_
     obtain ⟨y,hy,h⟩:=of_bind h
     refine AWp.mono (AWp.loop (S:=Unit) (Y:=Out Bool Unit) (fun _=>⟨[(1,q2 v2),(2,q2 v3),(7,.pc 0 0),(9,.tv (.sc (.pointer none))),(11,tI (0:Int))],[.cells 65 (c64 v9)]⟩) (fun _=>f7_b3 v2 v9) (fun y e σ=>match y with | .ret r=>e = .ret ∧ σ = ⟨[(6,tB r)],[]⟩ | .go v=>e = .exit 0 ∧ σ = ⟨[(2,q2 v3),(7,.pc 0 0),(9,.tv (.sc (.pointer none)))],[.cells 65 (c64 v9)]⟩) ?_ hy) ?_
     ·rintro ⟨⟩ o h
      refine AWp.seq ?_
      refine AWp.seq ?_
      refine AWp.start [0,1,2,3] [] [] [1,2,7,9,11,50] 1 ⟨[(1,q2 v2),(2,q2 v3),(7,.pc 0 0),(9,.tv (.sc (.pointer none))),(11,tI (0:Int)),(50,tB (decide ((0:Int) < (v2.length:Int))))],[.cells 65 (c64 v9)]⟩ rfl ?_ z0 trivial ?_
      ·kernel_rfl
      refine AOps.nil ?_
      refine AWp.cond rfl (fun hb=>?_) fun hb=>?_
      ·replace h:=of_true h hb
       refine AWp.keepTo [1,2,7,9,11] 1 ⟨[(1,q2 v2),(2,q2 v3),(7,.pc 0 0),(9,.tv (.sc (.pointer none))),(11,tI (0:Int))],[.cells 65 (c64 v9)]⟩ ?_ z0 ?_
       ·kernel_rfl
       refine AWp.skip ?_
       refine AWp.seq ?_
       refine AWp.block ?_
       refine AWp.seq ?_
       obtain ⟨hg,h⟩:=of_guard h
       refine AWp.start [0,1,2,3,4] [5] [(0:Int) ≤ (0:Int),(0:Int) < (v2.length:Int)] [1,2,7,9,11,53,57] 1 ⟨[(1,q2 v2),(2,q2 v3),(7,.pc 0 0),(9,.tv (.sc (.pointer none))),(11,tI (0:Int)),(53,.pc 0 0),(57,.agg (c46 (v2.getD 0 default)))],[.cells 65 (c64 v9)]⟩ rfl ?_ z0 ⟨(by decide:(0:Int) ≤ (0:Int)),hg⟩ ?_
       ·kernel_rfl
       obtain ⟨v21,hv21,h⟩:=of_bind h
       refine AOps.cons (AOne.callO (F:=(FF 117 0)) _ rfl rfl rfl 58 rfl rfl 28 [] rfl Try.call28 [0] (by decide) [.pc 0 0,.agg (c46 (v2.getD 0 default))] (by kernel_rfl) [.cells 65 (c64 v9)] (by kernel_rfl) (f28o_ok (v2.getD 0 default) v9 hv21) (by kernel_rfl) (by kernel_rfl) _ rfl) ?_
       refine AOps.keepTo [1,2,7,9,11] 1 ⟨[(1,q2 v2),(2,q2 v3),(7,.pc 0 0),(9,.tv (.sc (.pointer none))),(11,tI (0:Int))],[.cells 65 [.str v21.2.2.f0,.int .i64 v21.2.2.f1,k0 v21.2.2.f2,.int .i64 v21.2.2.f3,.bool v21.2.2.f4]]⟩ ?_ z0 ?_
       ·kernel_rfl
       refine AOps.nil ?_
       cases h
      ·replace h:=of_false h hb
       refine AWp.keepTo [2,7,9] 1 ⟨[(2,q2 v3),(7,.pc 0 0),(9,.tv (.sc (.pointer none)))],[.cells 65 (c64 v9)]⟩ ?_ z0 ?_
       ·kernel_rfl
       refine AWp.exit ?_
       cases h
       exact Or.inr ⟨_,rfl,by simp,rfl,rfl⟩
     ·intro e σ hp
      rcases y with v22 | _
      ·obtain ⟨rfl,rfl⟩:=hp
       cases h
       exact ⟨.inr rfl,rfl⟩
      ·obtain ⟨rfl,rfl⟩:=hp
       refine AWp.seq ?_
       cases h
    ·replace h:((iter (fun s=>f7_b4 v2 s.1 s.2.1 s.2.2.1 s.2.2.2.1 s.2.2.2.2.1 s.2.2.2.2.2.1 s.2.2.2.2.2.2.1 s.2.2.2.2.2.2.2.1 s.2.2.2.2.2.2.2.2.1 s.2.2.2.2.2.2.2.2.2.1 s.2.2.2.2.2.2.2.2.2.2.1 s.2.2.2.2.2.2.2.2.2.2.2.1 s.2.2.2.2.2.2.2.2.2.2.2.2) ((0:Int),v9.f0,v9.f1,v9.f2,v9.f3,v9.f4,v19.f0,v19.f1,v19.f2,v19.f3,v19.f4,v19.f5,v19.f6)).bind fun y=>match y with | .ret v50=>some v50 | .go (v36,v37,v38,v39,v40,v41,v42,v43,v44,v45,v46,v47)=>(f30o (T64.mk v36 v37 v38 v39 v40)).bind fun v51=>match v51 with | none=>((f31o (T78.mk v41 v42 v43 v44 v45 v46 v47)).bind fun v53=>match v53 with | none=>((f32_z1 (T64.mk v36 v37 v38 v39 v40)).bind fun v55=>(cond (!v55) (some true) none).bind fun v56=>cond v56 (some false) ((iter (fun _=>f7_b5 v3) ()).bind fun y=>match y with | .ret v57=>some v57 | .go _=>(f9 ).bind fun v58=>some v58)) | some v54=>(f32_z1 (T64.mk v36 v37 v38 v39 v40)).bind fun v59=>(cond (!v59) (some true) none).bind fun v60=>cond v60 (some false) ((iter (fun _=>f7_b6 v3) ()).bind fun y=>match y with | .ret v61=>some v61 | .go _=>(f9 ).bind fun v62=>some v62)) | some v52=>(f31o (T78.mk v41 v42 v43 v44 v45 v46 v47)).bind fun v63=>match v63 with | none=>((f32 (T64.mk v36 v37 v38 v39 v40) v52).bind fun v65=>(cond (!v65) (some true) ((f32 v52 (T64.mk v36 v37 v38 v39 v40)).bind fun v67=>some (!v67))).bind fun v66=>cond v66 (some false) ((iter (fun _=>f7_b7 v3 v52) ()).bind fun y=>match y with | .ret v69=>some v69 | .go _=>(f9 ).bind fun v70=>some v70)) | some v64=>(f32 (T64.mk v36 v37 v38 v39 v40) v52).bind fun v71=>(cond (!v71) (some true) ((f32 v52 (T64.mk v36 v37 v38 v39 v40)).bind fun v73=>some (!v73))).bind fun v72=>cond v72 (some false) ((iter (fun s=>f7_b8 v3 v36 v37 v38 v39 v40 v41 v42 v43 v44 v45 v46 v47 s.1 s.2.1 s.2.2.1 s.2.2.2.1 s.2.2.2.2.1 s.2.2.2.2.2.1 s.2.2.2.2.2.2.1 s.2.2.2.2.2.2.2.1 s.2.2.2.2.2.2.2.2.1 s.2.2.2.2.2.2.2.2.2.1 s.2.2.2.2.2.2.2.2.2.2.1 s.2.2.2.2.2.2.2.2.2.2.2.1 s.2.2.2.2.2.2.2.2.2.2.2.2) ((0:Int),v52.f0,v52.f1,v52.f2,v52.f3,v52.f4,v64.f0,v64.f1,v64.f2,v64.f3,v64.f4,v64.f5,v64.f6)).bind fun y=>match y with | .ret v95=>some v95 | .go _=>(f9 ).bind fun v96=>some v96)) = some r:=h
     refine AOps.cons (AOne.callO (F:=(FF 117 0)) _ rfl rfl rfl 44 rfl rfl 26 [] rfl Try.call26 [] (by decide) [tS v1.f0,tI v1.f1,q0 v1.f2] (by kernel_rfl) [] (by kernel_rfl) (f26_ok v1.f0 v1.f1 v1.f2 hv18) (by kernel_rfl) (by kernel_rfl) _ rfl) ?_
     refine AOps.go [7,8,9,10,11] [] [] [1,2,7,9] 2 ⟨[(1,q2 v2),(2,q2 v3),(7,.pc 0 0),(9,.pc 1 0)],[.cells 65 (c64 v9),.cells 79 [.str v19.f0,.int .i64 v19.f1,fzL 1 (cSl 1 (cInt .u8)) v19.f2,.bool v19.f3,.int .i64 v19.f4,.bool v19.f5,k1 v19.f6]]⟩ ?_ z0 trivial ?_
     ·kernel_rfl
     refine AOps.nil ?_
     refine AWp.seq ?_
     refine AWp.seq ?_
     refine AWp.start [0] [] [] [1,2,7,9,11] 2 ⟨[(1,q2 v2),(2,q2 v3),(7,.pc 0 0),(9,.pc 1 0),(11,tI (0:Int))],[.cells 65 (c64 v9),.cells 79 [.str v19.f0,.int .i64 v19.f1,fzL 1 (cSl 1 (cInt .u8)) v19.f2,.bool v19.f3,.int .i64 v19.f4,.bool v19.f5,k1 v19.f6]]⟩ rfl ?_ z0 trivial ?_
     ·kernel_rfl
     refine AOps.nil ?_
     refine AWp.block ?_
     obtain ⟨y,hy,h⟩:=of_bind h
     refine AWp.mono (AWp.loop (S:=Int × (List UInt8) × Int × (List Int) × Int × Bool × (List UInt8) × Int × (List (List Int)) × Bool × Int × Bool × (List Int)) (Y:=Out Bool ((List UInt8) × Int × (List Int) × Int × Bool × (List UInt8) × Int × (List (List Int)) × Bool × Int × Bool × (List Int))) (fun s=>⟨[(1,q2 v2),(2,q2 v3),(7,.pc 0 0),(9,.pc 1 0),(11,tI s.1)],[.cells 65 [.str s.2.1,.int .i64 s.2.2.1,k0 s.2.2.2.1,.int .i64 s.2.2.2.2.1,.bool s.2.2.2.2.2.1],.cells 79 [.str s.2.2.2.2.2.2.1,.int .i64 s.2.2.2.2.2.2.2.1,fzL 1 (cSl 1 (cInt .u8)) s.2.2.2.2.2.2.2.2.1,.bool s.2.2.2.2.2.2.2.2.2.1,.int .i64 s.2.2.2.2.2.2.2.2.2.2.1,.bool s.2.2.2.2.2.2.2.2.2.2.2.1,k1 s.2.2.2.2.2.2.2.2.2.2.2.2]]⟩) (fun s=>f7_b4 v2 s.1 s.2.1 s.2.2.1 s.2.2.2.1 s.2.2.2.2.1 s.2.2.2.2.2.1 s.2.2.2.2.2.2.1 s.2.2.2.2.2.2.2.1 s.2.2.2.2.2.2.2.2.1 s.2.2.2.2.2.2.2.2.2.1 s.2.2.2.2.2.2.2.2.2.2.1 s.2.2.2.2.2.2.2.2.2.2.2.1 s.2.2.2.2.2.2.2.2.2.2.2.2) (fun y e σ=>match y with | .ret r=>e = .ret ∧ σ = ⟨[(6,tB r)],[]⟩ | .go v=>e = .exit 0 ∧ σ = ⟨[(2,q2 v3),(7,.pc 0 0),(9,.pc 1 0)],[.cells 65 [.str v.1,.int .i64 v.2.1,k0 v.2.2.1,.int .i64 v.2.2.2.1,.bool v.2.2.2.2.1],.cells 79 [.str v.2.2.2.2.2.1,.int .i64 v.2.2.2.2.2.2.1,fzL 1 (cSl 1 (cInt .u8)) v.2.2.2.2.2.2.2.1,.bool v.2.2.2.2.2.2.2.2.1,.int .i64 v.2.2.2.2.2.2.2.2.2.1,.bool v.2.2.2.2.2.2.2.2.2.2.1,k1 v.2.2.2.2.2.2.2.2.2.2.2]]⟩) ?_ hy) ?_
     ·rintro ⟨v23,v24,v25,v26,v27,v28,v29,v30,v31,v32,v33,v34,v35⟩ o h
      refine AWp.seq ?_
      refine AWp.seq ?_
      refine AWp.start [0,1,2,3] [] [] [1,2,7,9,11,50] 2 ⟨[(1,q2 v2),(2,q2 v3),(7,.pc 0 0),(9,.pc 1 0),(11,tI v23),(50,tB (decide (v23 < (v2.length:Int))))],hp31 v24 v25 v26 v27 v28 v29 v30 v31 v32 v33 v34 v35⟩ rfl ?_ z0 trivial ?_
      ·kernel_rfl
      refine AOps.nil ?_
      refine AWp.cond rfl (fun hb=>?_) fun hb=>?_
      ·replace h:=of_true h hb
       refine AWp.keepTo [1,2,7,9,11] 2 ⟨[(1,q2 v2),(2,q2 v3),(7,.pc 0 0),(9,.pc 1 0),(11,tI v23)],hp31 v24 v25 v26 v27 v28 v29 v30 v31 v32 v33 v34 v35⟩ ?_ z0 ?_
       ·kernel_rfl
       refine AWp.skip ?_
       refine AWp.seq ?_
       refine AWp.block ?_
       refine AWp.seq ?_
       obtain ⟨hg,h⟩:=of_guard h
       refine AWp.start [0,1,2,3,4] [5] [(0:Int) ≤ v23,v23 < (v2.length:Int)] [1,2,7,9,11,53,57] 2 ⟨[(1,q2 v2),(2,q2 v3),(7,.pc 0 0),(9,.pc 1 0),(11,tI v23),(53,.pc 0 0),(57,.agg (c46 (gD v2 v23)))],hp31 v24 v25 v26 v27 v28 v29 v30 v31 v32 v33 v34 v35⟩ rfl ?_ z0 ⟨hg.1,hg.2⟩ ?_
       ·kernel_rfl
       obtain ⟨v48,hv48,h⟩:=of_bind h
       refine AOps.cons (AOne.callO (F:=(FF 117 0)) _ rfl rfl rfl 58 rfl rfl 28 [] rfl Try.call28 [0] (by decide) [.pc 0 0,.agg (c46 (gD v2 v23))] (by kernel_rfl) [.cells 65 [.str v24,.int .i64 v25,k0 v26,.int .i64 v27,.bool v28]] (by kernel_rfl) (f28o_ok (gD v2 v23) (T64.mk v24 v25 v26 v27 v28) hv48) (by kernel_rfl) (by kernel_rfl) _ rfl) ?_
       refine AOps.keepTo [1,2,7,9,11] 2 ⟨[(1,q2 v2),(2,q2 v3),(7,.pc 0 0),(9,.pc 1 0),(11,tI v23)],[.cells 65 [.str v48.2.2.f0,.int .i64 v48.2.2.f1,k0 v48.2.2.f2,.int .i64 v48.2.2.f3,.bool v48.2.2.f4],.cells 79 [.str v29,.int .i64 v30,fzL 1 (cSl 1 (cInt .u8)) v31,.bool v32,.int .i64 v33,.bool v34,k1 v35]]⟩ ?_ z0 ?_
       ·kernel_rfl
       refine AOps.nil ?_
       obtain ⟨hg,h⟩:=of_guard h
       refine AWp.start [0,1,2,3,4] [5] [(0:Int) ≤ v23,v23 < (v2.length:Int)] [1,2,7,9,11,59,63] 2 ⟨[(1,q2 v2),(2,q2 v3),(7,.pc 0 0),(9,.pc 1 0),(11,tI v23),(59,.pc 1 0),(63,.agg (c46 (gD v2 v23)))],[.cells 65 [.str v48.2.2.f0,.int .i64 v48.2.2.f1,k0 v48.2.2.f2,.int .i64 v48.2.2.f3,.bool v48.2.2.f4],.cells 79 [.str v29,.int .i64 v30,fzL 1 (cSl 1 (cInt .u8)) v31,.bool v32,.int .i64 v33,.bool v34,k1 v35]]⟩ rfl ?_ z0 ⟨hg.1,hg.2⟩ ?_
       ·kernel_rfl
       obtain ⟨v49,hv49,h⟩:=of_bind h
       refine AOps.cons (AOne.callO (F:=(FF 117 0)) _ rfl rfl rfl 64 rfl rfl 29 [] rfl Try.call29 [1] (by decide) [.pc 0 0,.agg (c46 (gD v2 v23))] (by kernel_rfl) [.cells 79 [.str v29,.int .i64 v30,fzL 1 (cSl 1 (cInt .u8)) v31,.bool v32,.int .i64 v33,.bool v34,k1 v35]] (by kernel_rfl) (f29o_ok (gD v2 v23) (T78.mk v29 v30 v31 v32 v33 v34 v35) hv49) (by kernel_rfl) (by kernel_rfl) _ rfl) ?_
       refine AOps.keepTo [1,2,7,9,11] 2 ⟨[(1,q2 v2),(2,q2 v3),(7,.pc 0 0),(9,.pc 1 0),(11,tI v23)],[.cells 65 [.str v48.2.2.f0,.int .i64 v48.2.2.f1,k0 v48.2.2.f2,.int .i64 v48.2.2.f3,.bool v48.2.2.f4],.cells 79 [.str v49.2.2.f0,.int .i64 v49.2.2.f1,fzL 1 (cSl 1 (cInt .u8)) v49.2.2.f2,.bool v49.2.2.f3,.int .i64 v49.2.2.f4,.bool v49.2.2.f5,k1 v49.2.2.f6]]⟩ ?_ z0 ?_
       ·kernel_rfl
       refine AOps.nil ?_
       refine AWp.start [0,1,2] [] [] [1,2,7,9,11] 2 ⟨[(1,q2 v2),(2,q2 v3),(7,.pc 0 0),(9,.pc 1 0),(11,tI (w64 (v23 + (1:Int))))],[.cells 65 [.str v48.2.2.f0,.int .i64 v48.2.2.f1,k0 v48.2.2.f2,.int .i64 v48.2.2.f3,.bool v48.2.2.f4],.cells 79 [.str v49.2.2.f0,.int .i64 v49.2.2.f1,fzL 1 (cSl 1 (cInt .u8)) v49.2.2.f2,.bool v49.2.2.f3,.int .i64 v49.2.2.f4,.bool v49.2.2.f5,k1 v49.2.2.f6]]⟩ rfl ?_ z0 trivial ?_
       ·kernel_rfl
       refine AOps.nil ?_
       cases h
       exact Or.inl ⟨_,rfl,rfl,rfl⟩
      ·replace h:=of_false h hb
       refine AWp.keepTo [2,7,9] 2 ⟨[(2,q2 v3),(7,.pc 0 0),(9,.pc 1 0)],hp31 v24 v25 v26 v27 v28 v29 v30 v31 v32 v33 v34 v35⟩ ?_ z0 ?_
       ·kernel_rfl
       refine AWp.exit ?_
       cases h
       exact Or.inr ⟨_,rfl,by simp,rfl,rfl⟩
     ·intro e σ hp
      rcases y with v50 | ⟨v36,v37,v38,v39,v40,v41,v42,v43,v44,v45,v46,v47⟩
      ·obtain ⟨rfl,rfl⟩:=hp
       cases h
       exact ⟨.inr rfl,rfl⟩
      ·obtain ⟨rfl,rfl⟩:=hp
       refine AWp.seq ?_
       refine AWp.start [0] [1,2,3,4,5] [] [2,7,9,65] 2 ⟨[(2,q2 v3),(7,.pc 0 0),(9,.pc 1 0),(65,.pc 0 0)],hp27 v36 v37 v38 v39 v40 v41 v42 v43 v44 v45 v46 v47⟩ rfl ?_ z0 trivial ?_
       ·kernel_rfl
       obtain ⟨v51,hv51,h⟩:=of_bind h
       rcases v51 with _ | v52
       ·replace h:((f31o (T78.mk v41 v42 v43 v44 v45 v46 v47)).bind fun v53=>match v53 with | none=>((f32_z1 (T64.mk v36 v37 v38 v39 v40)).bind fun v55=>(cond (!v55) (some true) none).bind fun v56=>cond v56 (some false) ((iter (fun _=>f7_b5 v3) ()).bind fun y=>match y with | .ret v57=>some v57 | .go _=>(f9 ).bind fun v58=>some v58)) | some v54=>(f32_z1 (T64.mk v36 v37 v38 v39 v40)).bind fun v59=>(cond (!v59) (some true) none).bind fun v60=>cond v60 (some false) ((iter (fun _=>f7_b6 v3) ()).bind fun y=>match y with | .ret v61=>some v61 | .go _=>(f9 ).bind fun v62=>some v62)) = some r:=h
        refine AOps.cons (AOne.callO (F:=(FF 117 0)) _ rfl rfl rfl 66 rfl rfl 30 [] rfl Try.call30 [0] (by decide) [.pc 0 0] (by kernel_rfl) [.cells 65 [.str v36,.int .i64 v37,k0 v38,.int .i64 v39,.bool v40]] (by kernel_rfl) (f30o_ok (T64.mk v36 v37 v38 v39 v40) hv51) (by kernel_rfl) (by kernel_rfl) _ rfl) ?_
        refine AOps.go [2] [3,4,5] [] [2,7,9,66,67] 2 ⟨[(2,q2 v3),(7,.pc 0 0),(9,.pc 1 0),(66,.tv (.sc (.pointer none))),(67,.pc 1 0)],hp27 v36 v37 v38 v39 v40 v41 v42 v43 v44 v45 v46 v47⟩ ?_ z0 trivial ?_
        ·kernel_rfl
        obtain ⟨v53,hv53,h⟩:=of_bind h
        rcases v53 with _ | v54
        ·replace h:((f32_z1 (T64.mk v36 v37 v38 v39 v40)).bind fun v55=>(cond (!v55) (some true) none).bind fun v56=>cond v56 (some false) ((iter (fun _=>f7_b5 v3) ()).bind fun y=>match y with | .ret v57=>some v57 | .go _=>(f9 ).bind fun v58=>some v58)) = some r:=h
         refine AOps.cons (AOne.callO (F:=(FF 117 0)) _ rfl rfl rfl 68 rfl rfl 31 [] rfl Try.call31 [1] (by decide) [.pc 0 0] (by kernel_rfl) [.cells 79 [.str v41,.int .i64 v42,fzL 1 (cSl 1 (cInt .u8)) v43,.bool v44,.int .i64 v45,.bool v46,k1 v47]] (by kernel_rfl) (f31o_ok (T78.mk v41 v42 v43 v44 v45 v46 v47) hv53) (by kernel_rfl) (by kernel_rfl) _ rfl) ?_
         refine AOps.go [4,5] [] [] [2,7,9,12,13] 2 ⟨[(2,q2 v3),(7,.pc 0 0),(9,.pc 1 0),(12,.tv (.sc (.pointer none))),(13,.tv (.sc (.pointer none)))],hp27 v36 v37 v38 v39 v40 v41 v42 v43 v44 v45 v46 v47⟩ ?_ z0 trivial ?_
         ·kernel_rfl
         refine AOps.nil ?_
         refine AWp.seq ?_
         refine AWp.seq ?_
         refine AWp.start [0,1] [2,3,4,5,6,7,8,9] [] [2,7,9,12,13,69,70] 2 ⟨[(2,q2 v3),(7,.pc 0 0),(9,.pc 1 0),(12,.tv (.sc (.pointer none))),(13,.tv (.sc (.pointer none))),(69,.pc 0 0),(70,.tv (.sc (.pointer none)))],hp27 v36 v37 v38 v39 v40 v41 v42 v43 v44 v45 v46 v47⟩ rfl ?_ z0 trivial ?_
         ·kernel_rfl
         obtain ⟨v55,hv55,h⟩:=of_bind h
         refine AOps.cons (AOne.callR (F:=(FF 117 0)) _ rfl rfl rfl _ rfl rfl _ _ rfl Try.call32 [] [.rp [.str v36,.int .i64 v37,k0 v38,.int .i64 v39,.bool v40],.tv (.sc (.pointer none))] rfl trivial (f32_z1_ok (T64.mk v36 v37 v38 v39 v40) hv55) (ind_of rfl) rfl) ?_
         refine AOps.go [3,4] [5,6,7,8,9] [] [2,7,9,12,13,73] 2 ⟨[(2,q2 v3),(7,.pc 0 0),(9,.pc 1 0),(12,.tv (.sc (.pointer none))),(13,.tv (.sc (.pointer none))),(73,tB (!v55))],hp27 v36 v37 v38 v39 v40 v41 v42 v43 v44 v45 v46 v47⟩ ?_ z0 trivial ?_
         ·kernel_rfl
         obtain ⟨v56,hc5,h⟩:=of_bind h
         refine AOps.cut [5,6,7,8,9] [] (fun σ=>σ = ⟨[(2,q2 v3),(7,.pc 0 0),(9,.pc 1 0),(12,.tv (.sc (.pointer none))),(13,.tv (.sc (.pointer none))),(78,tB v56)],hp27 v36 v37 v38 v39 v40 v41 v42 v43 v44 v45 v46 v47⟩) ?_ fun σ' hJ=>?_
         ·refine AOps.split (fun b=>⟨[(2,q2 v3),(7,.pc 0 0),(9,.pc 1 0),(12,.tv (.sc (.pointer none))),(13,.tv (.sc (.pointer none))),(73,tB b)],hp27 v36 v37 v38 v39 v40 v41 v42 v43 v44 v45 v46 v47⟩) _ (fun hb=>?_) fun hb=>?_
          ·replace hc5:=of_true hc5 hb
           refine AOps.go [5,6,7,8,9] [] [] [2,7,9,12,13,78] 2 ⟨[(2,q2 v3),(7,.pc 0 0),(9,.pc 1 0),(12,.tv (.sc (.pointer none))),(13,.tv (.sc (.pointer none))),(78,tB true)],hp27 v36 v37 v38 v39 v40 v41 v42 v43 v44 v45 v46 v47⟩ ?_ z0 trivial ?_
           ·kernel_rfl
           cases hc5
           exact AOps.nil rfl
          ·replace hc5:=of_false hc5 hb
           cases hc5
         subst hJ
         refine AOps.nil ?_
         refine AWp.cond rfl (fun hb=>?_) fun hb=>?_
         ·replace h:=of_true h hb
          refine AWp.keepTo [] 0 ⟨[],[]⟩ ?_ z0 ?_
          ·kernel_rfl
          refine AWp.seq ?_
          refine AWp.start [0] [] [] [6] 0 ⟨[(6,tB false)],[]⟩ rfl ?_ z0 trivial ?_
          ·kernel_rfl
          refine AOps.nil ?_
          refine AWp.ret ?_
          cases h
          exact ⟨.inr rfl,rfl⟩
         ·replace h:=of_false h hb
          refine AWp.keepTo [2,7,9,12,13] 2 ⟨[(2,q2 v3),(7,.pc 0 0),(9,.pc 1 0),(12,.tv (.sc (.pointer none))),(13,.tv (.sc (.pointer none)))],hp27 v36 v37 v38 v39 v40 v41 v42 v43 v44 v45 v46 v47⟩ ?_ z0 ?_
          ·kernel_rfl
          refine AWp.skip ?_
          refine AWp.seq ?_
          refine AWp.seq ?_
          refine AWp.start [0] [] [] [2,7,9,12,13,14] 2 ⟨[(2,q2 v3),(7,.pc 0 0),(9,.pc 1 0),(12,.tv (.sc (.pointer none))),(13,.tv (.sc (.pointer none))),(14,tI (0:Int))],hp27 v36 v37 v38 v39 v40 v41 v42 v43 v44 v45 v46 v47⟩ rfl ?_ z0 trivial ?_
          ·kernel_rfl
          refine AOps.nil ?_
          refine AWp.block ?_
          obtain ⟨y,hy,h⟩:=of_bind h
          refine AWp.mono (AWp.loop (S:=Unit) (Y:=Out Bool Unit) (fun _=>⟨[(2,q2 v3),(7,.pc 0 0),(9,.pc 1 0),(12,.tv (.sc (.pointer none))),(13,.tv (.sc (.pointer none))),(14,tI (0:Int))],hp27 v36 v37 v38 v39 v40 v41 v42 v43 v44 v45 v46 v47⟩) (fun _=>f7_b5 v3) (fun y e σ=>match y with | .ret r=>e = .ret ∧ σ = ⟨[(6,tB r)],[]⟩ | .go v=>e = .exit 2 ∧ σ = ⟨[],[]⟩) ?_ hy) ?_
          ·rintro ⟨⟩ o h
           refine AWp.seq ?_
           refine AWp.seq ?_
           refine AWp.start [0,1,2,3] [] [] [2,7,9,12,13,14,82] 2 ⟨[(2,q2 v3),(7,.pc 0 0),(9,.pc 1 0),(12,.tv (.sc (.pointer none))),(13,.tv (.sc (.pointer none))),(14,tI (0:Int)),(82,tB (decide ((0:Int) < (v3.length:Int))))],hp27 v36 v37 v38 v39 v40 v41 v42 v43 v44 v45 v46 v47⟩ rfl ?_ z0 trivial ?_
           ·kernel_rfl
           refine AOps.nil ?_
           refine AWp.cond rfl (fun hb=>?_) fun hb=>?_
           ·replace h:=of_true h hb
            refine AWp.keepTo [2,7,9,12,13,14] 2 ⟨[(2,q2 v3),(7,.pc 0 0),(9,.pc 1 0),(12,.tv (.sc (.pointer none))),(13,.tv (.sc (.pointer none))),(14,tI (0:Int))],hp27 v36 v37 v38 v39 v40 v41 v42 v43 v44 v45 v46 v47⟩ ?_ z0 ?_
            ·kernel_rfl
            refine AWp.skip ?_
            refine AWp.seq ?_
            refine AWp.block ?_
            refine AWp.seq ?_
            cases h
           ·replace h:=of_false h hb
            refine AWp.keepTo [] 0 ⟨[],[]⟩ ?_ z0 ?_
            ·kernel_rfl
            refine AWp.exit ?_
            cases h
            exact Or.inr ⟨_,rfl,by simp,rfl,rfl⟩
          ·intro e σ hp
           rcases y with v57 | _
           ·obtain ⟨rfl,rfl⟩:=hp
            cases h
            exact ⟨.inr rfl,rfl⟩
           ·obtain ⟨rfl,rfl⟩:=hp
            refine AWp.seq ?_
            refine AWp.start [] [0,1] [] [] 0 ⟨[],[]⟩ rfl ?_ z0 trivial ?_
            ·kernel_rfl
            obtain ⟨v58,hv58,h⟩:=of_bind h
            refine AOps.cons (AOne.callP (F:=(FF 117 0)) _ rfl rfl rfl _ rfl rfl _ _ rfl Try.call9 [] rfl rfl (f9_ok  hv58) rfl) ?_
            refine AOps.go [1] [] [] [6] 0 ⟨[(6,tB v58)],[]⟩ ?_ z0 trivial ?_
            ·kernel_rfl
            refine AOps.nil ?_
            refine AWp.ret ?_
            cases h
            exact ⟨.inr rfl,rfl⟩
        ·replace h:((f32_z1 (T64.mk v36 v37 v38 v39 v40)).bind fun v59=>(cond (!v59) (some true) none).bind fun v60=>cond v60 (some false) ((iter (fun _=>f7_b6 v3) ()).bind fun y=>match y with | .ret v61=>some v61 | .go _=>(f9 ).bind fun v62=>some v62)) = some r:=h
         refine AOps.cons (AOne.callO (F:=(FF 117 0)) _ rfl rfl rfl 68 rfl rfl 31 [] rfl Try.call31 [1] (by decide) [.pc 0 0] (by kernel_rfl) [.cells 79 [.str v41,.int .i64 v42,fzL 1 (cSl 1 (cInt .u8)) v43,.bool v44,.int .i64 v45,.bool v46,k1 v47]] (by kernel_rfl) (f31o_ok (T78.mk v41 v42 v43 v44 v45 v46 v47) hv53) (by kernel_rfl) (by kernel_rfl) _ rfl) ?_
         refine AOps.go [4,5] [] [] [2,7,9,12,13] 3 ⟨[(2,q2 v3),(7,.pc 0 0),(9,.pc 1 0),(12,.tv (.sc (.pointer none))),(13,.pc 2 0)],hp28 v36 v37 v38 v39 v40 v41 v42 v43 v44 v45 v46 v47 v54⟩ ?_ z0 trivial ?_
         ·kernel_rfl
         refine AOps.nil ?_
         refine AWp.seq ?_
         refine AWp.seq ?_
         refine AWp.start [0,1] [2,3,4,5,6,7,8,9] [] [2,7,9,12,13,69,70] 3 ⟨[(2,q2 v3),(7,.pc 0 0),(9,.pc 1 0),(12,.tv (.sc (.pointer none))),(13,.pc 2 0),(69,.pc 0 0),(70,.tv (.sc (.pointer none)))],hp28 v36 v37 v38 v39 v40 v41 v42 v43 v44 v45 v46 v47 v54⟩ rfl ?_ z0 trivial ?_
         ·kernel_rfl
         obtain ⟨v59,hv59,h⟩:=of_bind h
         refine AOps.cons (AOne.callR (F:=(FF 117 0)) _ rfl rfl rfl _ rfl rfl _ _ rfl Try.call32 [] [.rp [.str v36,.int .i64 v37,k0 v38,.int .i64 v39,.bool v40],.tv (.sc (.pointer none))] rfl trivial (f32_z1_ok (T64.mk v36 v37 v38 v39 v40) hv59) (ind_of rfl) rfl) ?_
         refine AOps.go [3,4] [5,6,7,8,9] [] [2,7,9,12,13,73] 3 ⟨[(2,q2 v3),(7,.pc 0 0),(9,.pc 1 0),(12,.tv (.sc (.pointer none))),(13,.pc 2 0),(73,tB (!v59))],hp28 v36 v37 v38 v39 v40 v41 v42 v43 v44 v45 v46 v47 v54⟩ ?_ z0 trivial ?_
         ·kernel_rfl
         obtain ⟨v60,hc5,h⟩:=of_bind h
         refine AOps.cut [5,6,7,8,9] [] (fun σ=>σ = ⟨[(2,q2 v3),(7,.pc 0 0),(9,.pc 1 0),(12,.tv (.sc (.pointer none))),(13,.pc 2 0),(78,tB v60)],hp28 v36 v37 v38 v39 v40 v41 v42 v43 v44 v45 v46 v47 v54⟩) ?_ fun σ' hJ=>?_
         ·refine AOps.split (fun b=>⟨[(2,q2 v3),(7,.pc 0 0),(9,.pc 1 0),(12,.tv (.sc (.pointer none))),(13,.pc 2 0),(73,tB b)],hp28 v36 v37 v38 v39 v40 v41 v42 v43 v44 v45 v46 v47 v54⟩) _ (fun hb=>?_) fun hb=>?_
          ·replace hc5:=of_true hc5 hb
           refine AOps.go [5,6,7,8,9] [] [] [2,7,9,12,13,78] 3 ⟨[(2,q2 v3),(7,.pc 0 0),(9,.pc 1 0),(12,.tv (.sc (.pointer none))),(13,.pc 2 0),(78,tB true)],hp28 v36 v37 v38 v39 v40 v41 v42 v43 v44 v45 v46 v47 v54⟩ ?_ z0 trivial ?_
           ·kernel_rfl
           cases hc5
           exact AOps.nil rfl
          ·replace hc5:=of_false hc5 hb
           cases hc5
         subst hJ
         refine AOps.nil ?_
         refine AWp.cond rfl (fun hb=>?_) fun hb=>?_
         ·replace h:=of_true h hb
          refine AWp.keepTo [] 0 ⟨[],[]⟩ ?_ z0 ?_
          ·kernel_rfl
          refine AWp.seq ?_
          refine AWp.start [0] [] [] [6] 0 ⟨[(6,tB false)],[]⟩ rfl ?_ z0 trivial ?_
          ·kernel_rfl
          refine AOps.nil ?_
          refine AWp.ret ?_
          cases h
          exact ⟨.inr rfl,rfl⟩
         ·replace h:=of_false h hb
          refine AWp.keepTo [2,7,9,12,13] 3 ⟨[(2,q2 v3),(7,.pc 0 0),(9,.pc 1 0),(12,.tv (.sc (.pointer none))),(13,.pc 2 0)],hp28 v36 v37 v38 v39 v40 v41 v42 v43 v44 v45 v46 v47 v54⟩ ?_ z0 ?_
          ·kernel_rfl
          refine AWp.skip ?_
          refine AWp.seq ?_
          refine AWp.seq ?_
          refine AWp.start [0] [] [] [2,7,9,12,13,14] 3 ⟨[(2,q2 v3),(7,.pc 0 0),(9,.pc 1 0),(12,.tv (.sc (.pointer none))),(13,.pc 2 0),(14,tI (0:Int))],hp28 v36 v37 v38 v39 v40 v41 v42 v43 v44 v45 v46 v47 v54⟩ rfl ?_ z0 trivial ?_
          ·kernel_rfl
          refine AOps.nil ?_
          refine AWp.block ?_
          obtain ⟨y,hy,h⟩:=of_bind h
          refine AWp.mono (AWp.loop (S:=Unit) (Y:=Out Bool Unit) (fun _=>⟨[(2,q2 v3),(7,.pc 0 0),(9,.pc 1 0),(12,.tv (.sc (.pointer none))),(13,.pc 2 0),(14,tI (0:Int))],hp28 v36 v37 v38 v39 v40 v41 v42 v43 v44 v45 v46 v47 v54⟩) (fun _=>f7_b6 v3) (fun y e σ=>match y with | .ret r=>e = .ret ∧ σ = ⟨[(6,tB r)],[]⟩ | .go v=>e = .exit 2 ∧ σ = ⟨[],[]⟩) ?_ hy) ?_
          ·rintro ⟨⟩ o h
           refine AWp.seq ?_
           refine AWp.seq ?_
           refine AWp.start [0,1,2,3] [] [] [2,7,9,12,13,14,82] 3 ⟨[(2,q2 v3),(7,.pc 0 0),(9,.pc 1 0),(12,.tv (.sc (.pointer none))),(13,.pc 2 0),(14,tI (0:Int)),(82,tB (decide ((0:Int) < (v3.length:Int))))],hp28 v36 v37 v38 v39 v40 v41 v42 v43 v44 v45 v46 v47 v54⟩ rfl ?_ z0 trivial ?_
           ·kernel_rfl
           refine AOps.nil ?_
           refine AWp.cond rfl (fun hb=>?_) fun hb=>?_
           ·replace h:=of_true h hb
            refine AWp.keepTo [2,7,9,12,13,14] 3 ⟨[(2,q2 v3),(7,.pc 0 0),(9,.pc 1 0),(12,.tv (.sc (.pointer none))),(13,.pc 2 0),(14,tI (0:Int))],hp28 v36 v37 v38 v39 v40 v41 v42 v43 v44 v45 v46 v47 v54⟩ ?_ z0 ?_
            ·kernel_rfl
            refine AWp.skip ?_
            refine AWp.seq ?_
            refine AWp.block ?_
            refine AWp.seq ?_
            cases h
           ·replace h:=of_false h hb
            refine AWp.keepTo [] 0 ⟨[],[]⟩ ?_ z0 ?_
            ·kernel_rfl
            refine AWp.exit ?_
            cases h
            exact Or.inr ⟨_,rfl,by simp,rfl,rfl⟩
          ·intro e σ hp
           rcases y with v61 | _
           ·obtain ⟨rfl,rfl⟩:=hp
            cases h
            exact ⟨.inr rfl,rfl⟩
           ·obtain ⟨rfl,rfl⟩:=hp
            refine AWp.seq ?_
            refine AWp.start [] [0,1] [] [] 0 ⟨[],[]⟩ rfl ?_ z0 trivial ?_
            ·kernel_rfl
            obtain ⟨v62,hv62,h⟩:=of_bind h
            refine AOps.cons (AOne.callP (F:=(FF 117 0)) _ rfl rfl rfl _ rfl rfl _ _ rfl Try.call9 [] rfl rfl (f9_ok  hv62) rfl) ?_
            refine AOps.go [1] [] [] [6] 0 ⟨[(6,tB v62)],[]⟩ ?_ z0 trivial ?_
            ·kernel_rfl
            refine AOps.nil ?_
            refine AWp.ret ?_
            cases h
            exact ⟨.inr rfl,rfl⟩
       ·replace h:((f31o (T78.mk v41 v42 v43 v44 v45 v46 v47)).bind fun v63=>match v63 with | none=>((f32 (T64.mk v36 v37 v38 v39 v40) v52).bind fun v65=>(cond (!v65) (some true) ((f32 v52 (T64.mk v36 v37 v38 v39 v40)).bind fun v67=>some (!v67))).bind fun v66=>cond v66 (some false) ((iter (fun _=>f7_b7 v3 v52) ()).bind fun y=>match y with | .ret v69=>some v69 | .go _=>(f9 ).bind fun v70=>some v70)) | some v64=>(f32 (T64.mk v36 v37 v38 v39 v40) v52).bind fun v71=>(cond (!v71) (some true) ((f32 v52 (T64.mk v36 v37 v38 v39 v40)).bind fun v73=>some (!v73))).bind fun v72=>cond v72 (some false) ((iter (fun s=>f7_b8 v3 v36 v37 v38 v39 v40 v41 v42 v43 v44 v45 v46 v47 s.1 s.2.1 s.2.2.1 s.2.2.2.1 s.2.2.2.2.1 s.2.2.2.2.2.1 s.2.2.2.2.2.2.1 s.2.2.2.2.2.2.2.1 s.2.2.2.2.2.2.2.2.1 s.2.2.2.2.2.2.2.2.2.1 s.2.2.2.2.2.2.2.2.2.2.1 s.2.2.2.2.2.2.2.2.2.2.2.1 s.2.2.2.2.2.2.2.2.2.2.2.2) ((0:Int),v52.f0,v52.f1,v52.f2,v52.f3,v52.f4,v64.f0,v64.f1,v64.f2,v64.f3,v64.f4,v64.f5,v64.f6)).bind fun y=>match y with | .ret v95=>some v95 | .go _=>(f9 ).bind fun v96=>some v96)) = some r:=h
        refine AOps.cons (AOne.callO (F:=(FF 117 0)) _ rfl rfl rfl 66 rfl rfl 30 [] rfl Try.call30 [0] (by decide) [.pc 0 0] (by kernel_rfl) [.cells 65 [.str v36,.int .i64 v37,k0 v38,.int .i64 v39,.bool v40]] (by kernel_rfl) (f30o_ok (T64.mk v36 v37 v38 v39 v40) hv51) (by kernel_rfl) (by kernel_rfl) _ rfl) ?_
        refine AOps.go [2] [3,4,5] [] [2,7,9,66,67] 3 ⟨[(2,q2 v3),(7,.pc 0 0),(9,.pc 1 0),(66,.pc 2 0),(67,.pc 1 0)],hp26 v36 v37 v38 v39 v40 v41 v42 v43 v44 v45 v46 v47 v52⟩ ?_ z0 trivial ?_
        ·kernel_rfl
        obtain ⟨v63,hv63,h⟩:=of_bind h
        rcases v63 with _ | v64
        ·replace h:((f32 (T64.mk v36 v37 v38 v39 v40) v52).bind fun v65=>(cond (!v65) (some true) ((f32 v52 (T64.mk v36 v37 v38 v39 v40)).bind fun v67=>some (!v67))).bind fun v66=>cond v66 (some false) ((iter (fun _=>f7_b7 v3 v52) ()).bind fun y=>match y with | .ret v69=>some v69 | .go _=>(f9 ).bind fun v70=>some v70)) = some r:=h
         refine AOps.cons (AOne.callO (F:=(FF 117 0)) _ rfl rfl rfl 68 rfl rfl 31 [] rfl Try.call31 [1] (by decide) [.pc 0 0] (by kernel_rfl) [.cells 79 [.str v41,.int .i64 v42,fzL 1 (cSl 1 (cInt .u8)) v43,.bool v44,.int .i64 v45,.bool v46,k1 v47]] (by kernel_rfl) (f31o_ok (T78.mk v41 v42 v43 v44 v45 v46 v47) hv63) (by kernel_rfl) (by kernel_rfl) _ rfl) ?_
         refine AOps.go [4,5] [] [] [2,7,9,12,13] 3 ⟨[(2,q2 v3),(7,.pc 0 0),(9,.pc 1 0),(12,.pc 2 0),(13,.tv (.sc (.pointer none)))],hp26 v36 v37 v38 v39 v40 v41 v42 v43 v44 v45 v46 v47 v52⟩ ?_ z0 trivial ?_
         ·kernel_rfl
         refine AOps.nil ?_
         refine AWp.seq ?_
         refine AWp.seq ?_
         refine AWp.start [0,1] [2,3,4,5,6,7,8,9] [] [2,7,9,12,13,69,70] 3 ⟨[(2,q2 v3),(7,.pc 0 0),(9,.pc 1 0),(12,.pc 2 0),(13,.tv (.sc (.pointer none))),(69,.pc 0 0),(70,.pc 2 0)],hp26 v36 v37 v38 v39 v40 v41 v42 v43 v44 v45 v46 v47 v52⟩ rfl ?_ z0 trivial ?_
         ·kernel_rfl
         obtain ⟨v65,hv65,h⟩:=of_bind h
         refine AOps.cons (AOne.callR (F:=(FF 117 0)) _ rfl rfl rfl _ rfl rfl _ _ rfl Try.call32 [] [.rp [.str v36,.int .i64 v37,k0 v38,.int .i64 v39,.bool v40],.rp (c64 v52)] rfl trivial (f32_ok (T64.mk v36 v37 v38 v39 v40) v52 hv65) (ind_of rfl) rfl) ?_
         refine AOps.go [3,4] [5,6,7,8,9] [] [2,7,9,12,13,73] 3 ⟨[(2,q2 v3),(7,.pc 0 0),(9,.pc 1 0),(12,.pc 2 0),(13,.tv (.sc (.pointer none))),(73,tB (!v65))],hp26 v36 v37 v38 v39 v40 v41 v42 v43 v44 v45 v46 v47 v52⟩ ?_ z0 trivial ?_
         ·kernel_rfl
         obtain ⟨v66,hc5,h⟩:=of_bind h
         refine AOps.cut [5,6,7,8,9] [] (fun σ=>σ = ⟨[(2,q2 v3),(7,.pc 0 0),(9,.pc 1 0),(12,.pc 2 0),(13,.tv (.sc (.pointer none))),(78,tB v66)],hp26 v36 v37 v38 v39 v40 v41 v42 v43 v44 v45 v46 v47 v52⟩) ?_ fun σ' hJ=>?_
         ·refine AOps.split (fun b=>⟨[(2,q2 v3),(7,.pc 0 0),(9,.pc 1 0),(12,.pc 2 0),(13,.tv (.sc (.pointer none))),(73,tB b)],hp26 v36 v37 v38 v39 v40 v41 v42 v43 v44 v45 v46 v47 v52⟩) _ (fun hb=>?_) fun hb=>?_
          ·replace hc5:=of_true hc5 hb
           refine AOps.go [5,6,7,8,9] [] [] [2,7,9,12,13,78] 3 ⟨[(2,q2 v3),(7,.pc 0 0),(9,.pc 1 0),(12,.pc 2 0),(13,.tv (.sc (.pointer none))),(78,tB true)],hp26 v36 v37 v38 v39 v40 v41 v42 v43 v44 v45 v46 v47 v52⟩ ?_ z0 trivial ?_
           ·kernel_rfl
           cases hc5
           exact AOps.nil rfl
          ·replace hc5:=of_false hc5 hb
           refine AOps.go [5,6] [7,8,9] [] [2,7,9,12,13,73,74,75] 3 ⟨[(2,q2 v3),(7,.pc 0 0),(9,.pc 1 0),(12,.pc 2 0),(13,.tv (.sc (.pointer none))),(73,tB false),(74,.pc 2 0),(75,.pc 0 0)],hp26 v36 v37 v38 v39 v40 v41 v42 v43 v44 v45 v46 v47 v52⟩ ?_ z0 trivial ?_
           ·kernel_rfl
           obtain ⟨v67,hv67,hc5⟩:=of_bind hc5
           refine AOps.cons (AOne.callR (F:=(FF 117 0)) _ rfl rfl rfl _ rfl rfl _ _ rfl Try.call32 [] [.rp (c64 v52),.rp [.str v36,.int .i64 v37,k0 v38,.int .i64 v39,.bool v40]] rfl trivial (f32_ok v52 (T64.mk v36 v37 v38 v39 v40) hv67) (ind_of rfl) rfl) ?_
           refine AOps.go [8,9] [] [] [2,7,9,12,13,78] 3 ⟨[(2,q2 v3),(7,.pc 0 0),(9,.pc 1 0),(12,.pc 2 0),(13,.tv (.sc (.pointer none))),(78,tB (!v67))],hp26 v36 v37 v38 v39 v40 v41 v42 v43 v44 v45 v46 v47 v52⟩ ?_ z0 trivial ?_
           ·kernel_rfl
           cases hc5
           exact AOps.nil rfl
         subst hJ
         refine AOps.nil ?_
         refine AWp.cond rfl (fun hb=>?_) fun hb=>?_
         ·replace h:=of_true h hb
          refine AWp.keepTo [] 0 ⟨[],[]⟩ ?_ z0 ?_
          ·kernel_rfl
          refine AWp.seq ?_
          refine AWp.start [0] [] [] [6] 0 ⟨[(6,tB false)],[]⟩ rfl ?_ z0 trivial ?_
          ·kernel_rfl
          refine AOps.nil ?_
          refine AWp.ret ?_
          cases h
          exact ⟨.inr rfl,rfl⟩
         ·replace h:=of_false h hb
          refine AWp.keepTo [2,7,9,12,13] 3 ⟨[(2,q2 v3),(7,.pc 0 0),(9,.pc 1 0),(12,.pc 2 0),(13,.tv (.sc (.pointer none)))],hp26 v36 v37 v38 v39 v40 v41 v42 v43 v44 v45 v46 v47 v52⟩ ?_ z0 ?_
          ·kernel_rfl
          refine AWp.skip ?_
          refine AWp.seq ?_
          refine AWp.seq ?_
          refine AWp.start [0] [] [] [2,7,9,12,13,14] 3 ⟨[(2,q2 v3),(7,.pc 0 0),(9,.pc 1 0),(12,.pc 2 0),(13,.tv (.sc (.pointer none))),(14,tI (0:Int))],hp26 v36 v37 v38 v39 v40 v41 v42 v43 v44 v45 v46 v47 v52⟩ rfl ?_ z0 trivial ?_
          ·kernel_rfl
          refine AOps.nil ?_
          refine AWp.block ?_
          obtain ⟨y,hy,h⟩:=of_bind h
          refine AWp.mono (AWp.loop (S:=Unit) (Y:=Out Bool Unit) (fun _=>⟨[(2,q2 v3),(7,.pc 0 0),(9,.pc 1 0),(12,.pc 2 0),(13,.tv (.sc (.pointer none))),(14,tI (0:Int))],hp26 v36 v37 v38 v39 v40 v41 v42 v43 v44 v45 v46 v47 v52⟩) (fun _=>f7_b7 v3 v52) (fun y e σ=>match y with | .ret r=>e = .ret ∧ σ = ⟨[(6,tB r)],[]⟩ | .go v=>e = .exit 2 ∧ σ = ⟨[],[]⟩) ?_ hy) ?_
          ·rintro ⟨⟩ o h
           refine AWp.seq ?_
           refine AWp.seq ?_
           refine AWp.start [0,1,2,3] [] [] [2,7,9,12,13,14,82] 3 ⟨[(2,q2 v3),(7,.pc 0 0),(9,.pc 1 0),(12,.pc 2 0),(13,.tv (.sc (.pointer none))),(14,tI (0:Int)),(82,tB (decide ((0:Int) < (v3.length:Int))))],hp26 v36 v37 v38 v39 v40 v41 v42 v43 v44 v45 v46 v47 v52⟩ rfl ?_ z0 trivial ?_
           ·kernel_rfl
           refine AOps.nil ?_
           refine AWp.cond rfl (fun hb=>?_) fun hb=>?_
           ·replace h:=of_true h hb
            refine AWp.keepTo [2,7,9,12,13,14] 3 ⟨[(2,q2 v3),(7,.pc 0 0),(9,.pc 1 0),(12,.pc 2 0),(13,.tv (.sc (.pointer none))),(14,tI (0:Int))],hp26 v36 v37 v38 v39 v40 v41 v42 v43 v44 v45 v46 v47 v52⟩ ?_ z0 ?_
            ·kernel_rfl
            refine AWp.skip ?_
            refine AWp.seq ?_
            refine AWp.block ?_
            refine AWp.seq ?_
            obtain ⟨hg,h⟩:=of_guard h
            refine AWp.start [0,1,2,3,4] [5] [(0:Int) ≤ (0:Int),(0:Int) < (v3.length:Int)] [2,7,9,12,13,14,85,89] 3 ⟨[(2,q2 v3),(7,.pc 0 0),(9,.pc 1 0),(12,.pc 2 0),(13,.tv (.sc (.pointer none))),(14,tI (0:Int)),(85,.pc 2 0),(89,.agg (c46 (v3.getD 0 default)))],hp26 v36 v37 v38 v39 v40 v41 v42 v43 v44 v45 v46 v47 v52⟩ rfl ?_ z0 ⟨(by decide:(0:Int) ≤ (0:Int)),hg⟩ ?_
            ·kernel_rfl
            obtain ⟨v68,hv68,h⟩:=of_bind h
            refine AOps.cons (AOne.callO (F:=(FF 117 0)) _ rfl rfl rfl 90 rfl rfl 28 [] rfl Try.call28 [2] (by decide) [.pc 0 0,.agg (c46 (v3.getD 0 default))] (by kernel_rfl) [.cells 65 (c64 v52)] (by kernel_rfl) (f28o_ok (v3.getD 0 default) v52 hv68) (by kernel_rfl) (by kernel_rfl) _ rfl) ?_
            refine AOps.keepTo [2,7,9,12,13,14] 3 ⟨[(2,q2 v3),(7,.pc 0 0),(9,.pc 1 0),(12,.pc 2 0),(13,.tv (.sc (.pointer none))),(14,tI (0:Int))],[.cells 65 [.str v36,.int .i64 v37,k0 v38,.int .i64 v39,.bool v40],.cells 79 [.str v41,.int .i64 v42,fzL 1 (cSl 1 (cInt .u8)) v43,.bool v44,.int .i64 v45,.bool v46,k1 v47],.cells 65 [.str v68.2.2.f0,.int .i64 v68.2.2.f1,k0 v68.2.2.f2,.int .i64 v68.2.2.f3,.bool v68.2.2.f4]]⟩ ?_ z0 ?_
            ·kernel_rfl
            refine AOps.nil ?_
            refine AWp.seq ?_
            cases h
           ·replace h:=of_false h hb
            refine AWp.keepTo [] 0 ⟨[],[]⟩ ?_ z0 ?_
            ·kernel_rfl
            refine AWp.exit ?_
            cases h
            exact Or.inr ⟨_,rfl,by simp,rfl,rfl⟩
          ·intro e σ hp
           rcases y with v69 | _
           ·obtain ⟨rfl,rfl⟩:=hp
            cases h
            exact ⟨.inr rfl,rfl⟩
           ·obtain ⟨rfl,rfl⟩:=hp
            refine AWp.seq ?_
            refine AWp.start [] [0,1] [] [] 0 ⟨[],[]⟩ rfl ?_ z0 trivial ?_
            ·kernel_rfl
            obtain ⟨v70,hv70,h⟩:=of_bind h
            refine AOps.cons (AOne.callP (F:=(FF 117 0)) _ rfl rfl rfl _ rfl rfl _ _ rfl Try.call9 [] rfl rfl (f9_ok  hv70) rfl) ?_
            refine AOps.go [1] [] [] [6] 0 ⟨[(6,tB v70)],[]⟩ ?_ z0 trivial ?_
            ·kernel_rfl
            refine AOps.nil ?_
            refine AWp.ret ?_
            cases h
            exact ⟨.inr rfl,rfl⟩
        ·replace h:((f32 (T64.mk v36 v37 v38 v39 v40) v52).bind fun v71=>(cond (!v71) (some true) ((f32 v52 (T64.mk v36 v37 v38 v39 v40)).bind fun v73=>some (!v73))).bind fun v72=>cond v72 (some false) ((iter (fun s=>f7_b8 v3 v36 v37 v38 v39 v40 v41 v42 v43 v44 v45 v46 v47 s.1 s.2.1 s.2.2.1 s.2.2.2.1 s.2.2.2.2.1 s.2.2.2.2.2.1 s.2.2.2.2.2.2.1 s.2.2.2.2.2.2.2.1 s.2.2.2.2.2.2.2.2.1 s.2.2.2.2.2.2.2.2.2.1 s.2.2.2.2.2.2.2.2.2.2.1 s.2.2.2.2.2.2.2.2.2.2.2.1 s.2.2.2.2.2.2.2.2.2.2.2.2) ((0:Int),v52.f0,v52.f1,v52.f2,v52.f3,v52.f4,v64.f0,v64.f1,v64.f2,v64.f3,v64.f4,v64.f5,v64.f6)).bind fun y=>match y with | .ret v95=>some v95 | .go _=>(f9 ).bind fun v96=>some v96)) = some r:=h
         refine AOps.cons (AOne.callO (F:=(FF 117 0)) _ rfl rfl rfl 68 rfl rfl 31 [] rfl Try.call31 [1] (by decide) [.pc 0 0] (by kernel_rfl) [.cells 79 [.str v41,.int .i64 v42,fzL 1 (cSl 1 (cInt .u8)) v43,.bool v44,.int .i64 v45,.bool v46,k1 v47]] (by kernel_rfl) (f31o_ok (T78.mk v41 v42 v43 v44 v45 v46 v47) hv63) (by kernel_rfl) (by kernel_rfl) _ rfl) ?_
         refine AOps.go [4,5] [] [] [2,7,9,12,13] 4 ⟨[(2,q2 v3),(7,.pc 0 0),(9,.pc 1 0),(12,.pc 2 0),(13,.pc 3 0)],hp29 v36 v37 v38 v39 v40 v41 v42 v43 v44 v45 v46 v47 v52 v64⟩ ?_ z0 trivial ?_
         ·kernel_rfl
         refine AOps.nil ?_
         refine AWp.seq ?_
         refine AWp.seq ?_
         refine AWp.start [0,1] [2,3,4,5,6,7,8,9] [] [2,7,9,12,13,69,70] 4 ⟨[(2,q2 v3),(7,.pc 0 0),(9,.pc 1 0),(12,.pc 2 0),(13,.pc 3 0),(69,.pc 0 0),(70,.pc 2 0)],hp29 v36 v37 v38 v39 v40 v41 v42 v43 v44 v45 v46 v47 v52 v64⟩ rfl ?_ z0 trivial ?_
         ·kernel_rfl
         obtain ⟨v71,hv71,h⟩:=of_bind h
         refine AOps.cons (AOne.callR (F:=(FF 117 0)) _ rfl rfl rfl _ rfl rfl _ _ rfl Try.call32 [] [.rp [.str v36,.int .i64 v37,k0 v38,.int .i64 v39,.bool v40],.rp (c64 v52)] rfl trivial (f32_ok (T64.mk v36 v37 v38 v39 v40) v52 hv71) (ind_of rfl) rfl) ?_
         refine AOps.go [3,4] [5,6,7,8,9] [] [2,7,9,12,13,73] 4 ⟨[(2,q2 v3),(7,.pc 0 0),(9,.pc 1 0),(12,.pc 2 0),(13,.pc 3 0),(73,tB (!v71))],hp29 v36 v37 v38 v39 v40 v41 v42 v43 v44 v45 v46 v47 v52 v64⟩ ?_ z0 trivial ?_
         ·kernel_rfl
         obtain ⟨v72,hc5,h⟩:=of_bind h
         refine AOps.cut [5,6,7,8,9] [] (fun σ=>σ = ⟨[(2,q2 v3),(7,.pc 0 0),(9,.pc 1 0),(12,.pc 2 0),(13,.pc 3 0),(78,tB v72)],hp29 v36 v37 v38 v39 v40 v41 v42 v43 v44 v45 v46 v47 v52 v64⟩) ?_ fun σ' hJ=>?_
         ·refine AOps.split (fun b=>⟨[(2,q2 v3),(7,.pc 0 0),(9,.pc 1 0),(12,.pc 2 0),(13,.pc 3 0),(73,tB b)],hp29 v36 v37 v38 v39 v40 v41 v42 v43 v44 v45 v46 v47 v52 v64⟩) _ (fun hb=>?_) fun hb=>?_
          ·replace hc5:=of_true hc5 hb
           refine AOps.go [5,6,7,8,9] [] [] [2,7,9,12,13,78] 4 ⟨[(2,q2 v3),(7,.pc 0 0),(9,.pc 1 0),(12,.pc 2 0),(13,.pc 3 0),(78,tB true)],hp29 v36 v37 v38 v39 v40 v41 v42 v43 v44 v45 v46 v47 v52 v64⟩ ?_ z0 trivial ?_
           ·kernel_rfl
           cases hc5
           exact AOps.nil rfl
          ·replace hc5:=of_false hc5 hb
           refine AOps.go [5,6] [7,8,9] [] [2,7,9,12,13,73,74,75] 4 ⟨[(2,q2 v3),(7,.pc 0 0),(9,.pc 1 0),(12,.pc 2 0),(13,.pc 3 0),(73,tB false),(74,.pc 2 0),(75,.pc 0 0)],hp29 v36 v37 v38 v39 v40 v41 v42 v43 v44 v45 v46 v47 v52 v64⟩ ?_ z0 trivial ?_
           ·kernel_rfl
           obtain ⟨v73,hv73,hc5⟩:=of_bind hc5
           refine AOps.cons (AOne.callR (F:=(FF 117 0)) _ rfl rfl rfl _ rfl rfl _ _ rfl Try.call32 [] [.rp (c64 v52),.rp [.str v36,.int .i64 v37,k0 v38,.int .i64 v39,.bool v40]] rfl trivial (f32_ok v52 (T64.mk v36 v37 v38 v39 v40) hv73) (ind_of rfl) rfl) ?_
           refine AOps.go [8,9] [] [] [2,7,9,12,13,78] 4 ⟨[(2,q2 v3),(7,.pc 0 0),(9,.pc 1 0),(12,.pc 2 0),(13,.pc 3 0),(78,tB (!v73))],hp29 v36 v37 v38 v39 v40 v41 v42 v43 v44 v45 v46 v47 v52 v64⟩ ?_ z0 trivial ?_
           ·kernel_rfl
           cases hc5
           exact AOps.nil rfl
         subst hJ
         refine AOps.nil ?_
         refine AWp.cond rfl (fun hb=>?_) fun hb=>?_
         ·replace h:=of_true h hb
          refine AWp.keepTo [] 0 ⟨[],[]⟩ ?_ z0 ?_
          ·kernel_rfl
          refine AWp.seq ?_
          refine AWp.start [0] [] [] [6] 0 ⟨[(6,tB false)],[]⟩ rfl ?_ z0 trivial ?_
          ·kernel_rfl
          refine AOps.nil ?_
          refine AWp.ret ?_
          cases h
          exact ⟨.inr rfl,rfl⟩
         ·replace h:=of_false h hb
          refine AWp.keepTo [2,7,9,12,13] 4 ⟨[(2,q2 v3),(7,.pc 0 0),(9,.pc 1 0),(12,.pc 2 0),(13,.pc 3 0)],hp29 v36 v37 v38 v39 v40 v41 v42 v43 v44 v45 v46 v47 v52 v64⟩ ?_ z0 ?_
          ·kernel_rfl
          refine AWp.skip ?_
          refine AWp.seq ?_
          refine AWp.seq ?_
          refine AWp.start [0] [] [] [2,7,9,12,13,14] 4 ⟨[(2,q2 v3),(7,.pc 0 0),(9,.pc 1 0),(12,.pc 2 0),(13,.pc 3 0),(14,tI (0:Int))],hp29 v36 v37 v38 v39 v40 v41 v42 v43 v44 v45 v46 v47 v52 v64⟩ rfl ?_ z0 trivial ?_
          ·kernel_rfl
          refine AOps.nil ?_
          refine AWp.block ?_
          obtain ⟨y,hy,h⟩:=of_bind h
          refine AWp.mono (AWp.loop (S:=Int × (List UInt8) × Int × (List Int) × Int × Bool × (List UInt8) × Int × (List (List Int)) × Bool × Int × Bool × (List Int)) (Y:=Out Bool Unit) (fun s=>⟨[(2,q2 v3),(7,.pc 0 0),(9,.pc 1 0),(12,.pc 2 0),(13,.pc 3 0),(14,tI s.1)],[.cells 65 [.str v36,.int .i64 v37,k0 v38,.int .i64 v39,.bool v40],.cells 79 [.str v41,.int .i64 v42,fzL 1 (cSl 1 (cInt .u8)) v43,.bool v44,.int .i64 v45,.bool v46,k1 v47],.cells 65 [.str s.2.1,.int .i64 s.2.2.1,k0 s.2.2.2.1,.int .i64 s.2.2.2.2.1,.bool s.2.2.2.2.2.1],.cells 79 [.str s.2.2.2.2.2.2.1,.int .i64 s.2.2.2.2.2.2.2.1,fzL 1 (cSl 1 (cInt .u8)) s.2.2.2.2.2.2.2.2.1,.bool s.2.2.2.2.2.2.2.2.2.1,.int .i64 s.2.2.2.2.2.2.2.2.2.2.1,.bool s.2.2.2.2.2.2.2.2.2.2.2.1,k1 s.2.2.2.2.2.2.2.2.2.2.2.2]]⟩) (fun s=>f7_b8 v3 v36 v37 v38 v39 v40 v41 v42 v43 v44 v45 v46 v47 s.1 s.2.1 s.2.2.1 s.2.2.2.1 s.2.2.2.2.1 s.2.2.2.2.2.1 s.2.2.2.2.2.2.1 s.2.2.2.2.2.2.2.1 s.2.2.2.2.2.2.2.2.1 s.2.2.2.2.2.2.2.2.2.1 s.2.2.2.2.2.2.2.2.2.2.1 s.2.2.2.2.2.2.2.2.2.2.2.1 s.2.2.2.2.2.2.2.2.2.2.2.2) (fun y e σ=>match y with | .ret r=>e = .ret ∧ σ = ⟨[(6,tB r)],[]⟩ | .go v=>e = .exit 2 ∧ σ = ⟨[],[]⟩) ?_ hy) ?_
          ·rintro ⟨v74,v75,v76,v77,v78,v79,v80,v81,v82,v83,v84,v85,v86⟩ o h
           refine AWp.seq ?_
           refine AWp.seq ?_
           refine AWp.start [0,1,2,3] [] [] [2,7,9,12,13,14,82] 4 ⟨[(2,q2 v3),(7,.pc 0 0),(9,.pc 1 0),(12,.pc 2 0),(13,.pc 3 0),(14,tI v74),(82,tB (decide (v74 < (v3.length:Int))))],hp32 v36 v37 v38 v39 v40 v41 v42 v43 v44 v45 v46 v47 v75 v76 v77 v78 v79 v80 v81 v82 v83 v84 v85 v86⟩ rfl ?_ z0 trivial ?_
           ·kernel_rfl
           refine AOps.nil ?_
           refine AWp.cond rfl (fun hb=>?_) fun hb=>?_
           ·replace h:=of_true h hb
            refine AWp.keepTo [2,7,9,12,13,14] 4 ⟨[(2,q2 v3),(7,.pc 0 0),(9,.pc 1 0),(12,.pc 2 0),(13,.pc 3 0),(14,tI v74)],hp32 v36 v37 v38 v39 v40 v41 v42 v43 v44 v45 v46 v47 v75 v76 v77 v78 v79 v80 v81 v82 v83 v84 v85 v86⟩ ?_ z0 ?_
            ·kernel_rfl
            refine AWp.skip ?_
            refine AWp.seq ?_
            refine AWp.block ?_
            refine AWp.seq ?_
            obtain ⟨hg,h⟩:=of_guard h
            refine AWp.start [0,1,2,3,4] [5] [(0:Int) ≤ v74,v74 < (v3.length:Int)] [2,7,9,12,13,14,85,89] 4 ⟨[(2,q2 v3),(7,.pc 0 0),(9,.pc 1 0),(12,.pc 2 0),(13,.pc 3 0),(14,tI v74),(85,.pc 2 0),(89,.agg (c46 (gD v3 v74)))],hp32 v36 v37 v38 v39 v40 v41 v42 v43 v44 v45 v46 v47 v75 v76 v77 v78 v79 v80 v81 v82 v83 v84 v85 v86⟩ rfl ?_ z0 ⟨hg.1,hg.2⟩ ?_
            ·kernel_rfl
            obtain ⟨v87,hv87,h⟩:=of_bind h
            refine AOps.cons (AOne.callO (F:=(FF 117 0)) _ rfl rfl rfl 90 rfl rfl 28 [] rfl Try.call28 [2] (by decide) [.pc 0 0,.agg (c46 (gD v3 v74))] (by kernel_rfl) [.cells 65 [.str v75,.int .i64 v76,k0 v77,.int .i64 v78,.bool v79]] (by kernel_rfl) (f28o_ok (gD v3 v74) (T64.mk v75 v76 v77 v78 v79) hv87) (by kernel_rfl) (by kernel_rfl) _ rfl) ?_
            refine AOps.keepTo [2,7,9,12,13,14] 4 ⟨[(2,q2 v3),(7,.pc 0 0),(9,.pc 1 0),(12,.pc 2 0),(13,.pc 3 0),(14,tI v74)],[.cells 65 [.str v36,.int .i64 v37,k0 v38,.int .i64 v39,.bool v40],.cells 79 [.str v41,.int .i64 v42,fzL 1 (cSl 1 (cInt .u8)) v43,.bool v44,.int .i64 v45,.bool v46,k1 v47],.cells 65 [.str v87.2.2.f0,.int .i64 v87.2.2.f1,k0 v87.2.2.f2,.int .i64 v87.2.2.f3,.bool v87.2.2.f4],.cells 79 [.str v80,.int .i64 v81,fzL 1 (cSl 1 (cInt .u8)) v82,.bool v83,.int .i64 v84,.bool v85,k1 v86]]⟩ ?_ z0 ?_
            ·kernel_rfl
            refine AOps.nil ?_
            refine AWp.seq ?_
            obtain ⟨hg,h⟩:=of_guard h
            refine AWp.start [0,1,2,3,4] [5] [(0:Int) ≤ v74,v74 < (v3.length:Int)] [2,7,9,12,13,14,91,95] 4 ⟨[(2,q2 v3),(7,.pc 0 0),(9,.pc 1 0),(12,.pc 2 0),(13,.pc 3 0),(14,tI v74),(91,.pc 3 0),(95,.agg (c46 (gD v3 v74)))],[.cells 65 [.str v36,.int .i64 v37,k0 v38,.int .i64 v39,.bool v40],.cells 79 [.str v41,.int .i64 v42,fzL 1 (cSl 1 (cInt .u8)) v43,.bool v44,.int .i64 v45,.bool v46,k1 v47],.cells 65 [.str v87.2.2.f0,.int .i64 v87.2.2.f1,k0 v87.2.2.f2,.int .i64 v87.2.2.f3,.bool v87.2.2.f4],.cells 79 [.str v80,.int .i64 v81,fzL 1 (cSl 1 (cInt .u8)) v82,.bool v83,.int .i64 v84,.bool v85,k1 v86]]⟩ rfl ?_ z0 ⟨hg.1,hg.2⟩ ?_
            ·kernel_rfl
            obtain ⟨v88,hv88,h⟩:=of_bind h
            refine AOps.cons (AOne.callO (F:=(FF 117 0)) _ rfl rfl rfl 96 rfl rfl 29 [] rfl Try.call29 [3] (by decide) [.pc 0 0,.agg (c46 (gD v3 v74))] (by kernel_rfl) [.cells 79 [.str v80,.int .i64 v81,fzL 1 (cSl 1 (cInt .u8)) v82,.bool v83,.int .i64 v84,.bool v85,k1 v86]] (by kernel_rfl) (f29o_ok (gD v3 v74) (T78.mk v80 v81 v82 v83 v84 v85 v86) hv88) (by kernel_rfl) (by kernel_rfl) _ rfl) ?_
            refine AOps.keepTo [2,7,9,12,13,14] 4 ⟨[(2,q2 v3),(7,.pc 0 0),(9,.pc 1 0),(12,.pc 2 0),(13,.pc 3 0),(14,tI v74)],hp25 v36 v37 v38 v39 v40 v41 v42 v43 v44 v45 v46 v47 v87 v88⟩ ?_ z0 ?_
            ·kernel_rfl
            refine AOps.nil ?_
            refine AWp.seq ?_
            refine AWp.start [0,1] [2,3,4,5,6,7,8,9,10,11,12,13,14,15,16,17,18] [] [2,7,9,12,13,14,97,98] 4 ⟨[(2,q2 v3),(7,.pc 0 0),(9,.pc 1 0),(12,.pc 2 0),(13,.pc 3 0),(14,tI v74),(97,.pc 0 0),(98,.pc 2 0)],hp25 v36 v37 v38 v39 v40 v41 v42 v43 v44 v45 v46 v47 v87 v88⟩ rfl ?_ z0 trivial ?_
            ·kernel_rfl
            obtain ⟨v89,hv89,h⟩:=of_bind h
            refine AOps.cons (AOne.callR (F:=(FF 117 0)) _ rfl rfl rfl _ rfl rfl _ _ rfl Try.call32 [] [.rp [.str v36,.int .i64 v37,k0 v38,.int .i64 v39,.bool v40],.rp [.str v87.2.2.f0,.int .i64 v87.2.2.f1,k0 v87.2.2.f2,.int .i64 v87.2.2.f3,.bool v87.2.2.f4]] rfl trivial (f32_ok (T64.mk v36 v37 v38 v39 v40) v87.2.2 hv89) (ind_of rfl) rfl) ?_
            refine AOps.go [3,4] [5,6,7,8,9,10,11,12,13,14,15,16,17,18] [] [2,7,9,12,13,14,99,100,101] 4 ⟨[(2,q2 v3),(7,.pc 0 0),(9,.pc 1 0),(12,.pc 2 0),(13,.pc 3 0),(14,tI v74),(99,tB v89),(100,.pc 1 0),(101,.pc 3 0)],hp25 v36 v37 v38 v39 v40 v41 v42 v43 v44 v45 v46 v47 v87 v88⟩ ?_ z0 trivial ?_
            ·kernel_rfl
            obtain ⟨v90,hv90,h⟩:=of_bind h
            refine AOps.cons (AOne.callR (F:=(FF 117 0)) _ rfl rfl rfl _ rfl rfl _ _ rfl Try.call33 [PlainTo v47.length (fun i=>(cInt .u8) (v47.getD i default)),PlainTo v88.2.2.f6.length (fun i=>(cInt .u8) (v88.2.2.f6.getD i default))] [.rp [.str v41,.int .i64 v42,fzL 1 (cSl 1 (cInt .u8)) v43,.bool v44,.int .i64 v45,.bool v46,k0 v47],.rp [.str v88.2.2.f0,.int .i64 v88.2.2.f1,fzL 1 (cSl 1 (cInt .u8)) v88.2.2.f2,.bool v88.2.2.f3,.int .i64 v88.2.2.f4,.bool v88.2.2.f5,k0 v88.2.2.f6]] rfl ⟨(fun _ _=>rfl),(fun _ _=>rfl)⟩ (f33_ok (T78.mk v41 v42 v43 v44 v45 v46 v47) v88.2.2 hv90) (ind_of rfl) rfl) ?_
            refine AOps.go [6,7] [8,9,10,11,12,13,14,15,16,17,18] [] [2,7,9,12,13,14,104] 4 ⟨[(2,q2 v3),(7,.pc 0 0),(9,.pc 1 0),(12,.pc 2 0),(13,.pc 3 0),(14,tI v74),(104,tB (!(v89 == v90)))],hp25 v36 v37 v38 v39 v40 v41 v42 v43 v44 v45 v46 v47 v87 v88⟩ ?_ z0 trivial ?_
            ·kernel_rfl
            obtain ⟨v91,hc8,h⟩:=of_bind h
            refine AOps.cut [8,9,10,11,12] [13,14,15,16,17,18] (fun σ=>σ = ⟨[(2,q2 v3),(7,.pc 0 0),(9,.pc 1 0),(12,.pc 2 0),(13,.pc 3 0),(14,tI v74),(109,tB v91)],hp25 v36 v37 v38 v39 v40 v41 v42 v43 v44 v45 v46 v47 v87 v88⟩) ?_ fun σ' hJ=>?_
            ·refine AOps.split (fun b=>⟨[(2,q2 v3),(7,.pc 0 0),(9,.pc 1 0),(12,.pc 2 0),(13,.pc 3 0),(14,tI v74),(104,tB b)],hp25 v36 v37 v38 v39 v40 v41 v42 v43 v44 v45 v46 v47 v87 v88⟩) _ (fun hb=>?_) fun hb=>?_
             ·replace hc8:=of_true hc8 hb
              refine AOps.go [8,9,10,11,12] [] [] [2,7,9,12,13,14,109] 4 ⟨[(2,q2 v3),(7,.pc 0 0),(9,.pc 1 0),(12,.pc 2 0),(13,.pc 3 0),(14,tI v74),(109,tB true)],hp25 v36 v37 v38 v39 v40 v41 v42 v43 v44 v45 v46 v47 v87 v88⟩ ?_ z0 trivial ?_
              ·kernel_rfl
              cases hc8
              exact AOps.nil rfl
             ·replace hc8:=of_false hc8 hb
              refine AOps.go [8,9] [10,11,12] [] [2,7,9,12,13,14,104,105,106] 4 ⟨[(2,q2 v3),(7,.pc 0 0),(9,.pc 1 0),(12,.pc 2 0),(13,.pc 3 0),(14,tI v74),(104,tB false),(105,.pc 0 0),(106,.pc 1 0)],hp25 v36 v37 v38 v39 v40 v41 v42 v43 v44 v45 v46 v47 v87 v88⟩ ?_ z0 trivial ?_
              ·kernel_rfl
              obtain ⟨v92,hv92,hc8⟩:=of_bind hc8
              refine AOps.cons (AOne.callR (F:=(FF 117 0)) _ rfl rfl rfl _ rfl rfl _ _ rfl Try.call27 [PlainTo v47.length (fun i=>(cInt .u8) (v47.getD i default))] [.rp [.str v36,.int .i64 v37,k0 v38,.int .i64 v39,.bool v40],.rp [.str v41,.int .i64 v42,fzL 1 (cSl 1 (cInt .u8)) v43,.bool v44,.int .i64 v45,.bool v46,k0 v47]] rfl (fun _ _=>rfl) (f27_ok (T64.mk v36 v37 v38 v39 v40) (T78.mk v41 v42 v43 v44 v45 v46 v47) hv92) (ind_of rfl) rfl) ?_
              refine AOps.go [11,12] [] [] [2,7,9,12,13,14,109] 4 ⟨[(2,q2 v3),(7,.pc 0 0),(9,.pc 1 0),(12,.pc 2 0),(13,.pc 3 0),(14,tI v74),(109,tB (!v92))],hp25 v36 v37 v38 v39 v40 v41 v42 v43 v44 v45 v46 v47 v87 v88⟩ ?_ z0 trivial ?_
              ·kernel_rfl
              cases hc8
              exact AOps.nil rfl
            subst hJ
            refine AOps.go [13] [14,15,16,17,18] [] [2,7,9,12,13,14,110] 4 ⟨[(2,q2 v3),(7,.pc 0 0),(9,.pc 1 0),(12,.pc 2 0),(13,.pc 3 0),(14,tI v74),(110,tB v91)],hp25 v36 v37 v38 v39 v40 v41 v42 v43 v44 v45 v46 v47 v87 v88⟩ ?_ z0 trivial ?_
            ·kernel_rfl
            obtain ⟨v93,hc14,h⟩:=of_bind h
            refine AOps.cut [14,15,16,17,18] [] (fun σ=>σ = ⟨[(2,q2 v3),(7,.pc 0 0),(9,.pc 1 0),(12,.pc 2 0),(13,.pc 3 0),(14,tI v74),(115,tB v93)],hp25 v36 v37 v38 v39 v40 v41 v42 v43 v44 v45 v46 v47 v87 v88⟩) ?_ fun σ' hJ=>?_
            ·refine AOps.split (fun b=>⟨[(2,q2 v3),(7,.pc 0 0),(9,.pc 1 0),(12,.pc 2 0),(13,.pc 3 0),(14,tI v74),(110,tB b)],hp25 v36 v37 v38 v39 v40 v41 v42 v43 v44 v45 v46 v47 v87 v88⟩) _ (fun hb=>?_) fun hb=>?_
             ·replace hc14:=of_true hc14 hb
              refine AOps.go [14,15,16,17,18] [] [] [2,7,9,12,13,14,115] 4 ⟨[(2,q2 v3),(7,.pc 0 0),(9,.pc 1 0),(12,.pc 2 0),(13,.pc 3 0),(14,tI v74),(115,tB true)],hp25 v36 v37 v38 v39 v40 v41 v42 v43 v44 v45 v46 v47 v87 v88⟩ ?_ z0 trivial ?_
              ·kernel_rfl
              cases hc14
              exact AOps.nil rfl
             ·replace hc14:=of_false hc14 hb
              refine AOps.go [14,15] [16,17,18] [] [2,7,9,12,13,14,110,111,112] 4 ⟨[(2,q2 v3),(7,.pc 0 0),(9,.pc 1 0),(12,.pc 2 0),(13,.pc 3 0),(14,tI v74),(110,tB false),(111,.pc 2 0),(112,.pc 3 0)],hp25 v36 v37 v38 v39 v40 v41 v42 v43 v44 v45 v46 v47 v87 v88⟩ ?_ z0 trivial ?_
              ·kernel_rfl
              obtain ⟨v94,hv94,hc14⟩:=of_bind hc14
              refine AOps.cons (AOne.callR (F:=(FF 117 0)) _ rfl rfl rfl _ rfl rfl _ _ rfl Try.call27 [PlainTo v88.2.2.f6.length (fun i=>(cInt .u8) (v88.2.2.f6.getD i default))] [.rp [.str v87.2.2.f0,.int .i64 v87.2.2.f1,k0 v87.2.2.f2,.int .i64 v87.2.2.f3,.bool v87.2.2.f4],.rp [.str v88.2.2.f0,.int .i64 v88.2.2.f1,fzL 1 (cSl 1 (cInt .u8)) v88.2.2.f2,.bool v88.2.2.f3,.int .i64 v88.2.2.f4,.bool v88.2.2.f5,k0 v88.2.2.f6]] rfl (fun _ _=>rfl) (f27_ok v87.2.2 v88.2.2 hv94) (ind_of rfl) rfl) ?_
              refine AOps.go [17,18] [] [] [2,7,9,12,13,14,115] 4 ⟨[(2,q2 v3),(7,.pc 0 0),(9,.pc 1 0),(12,.pc 2 0),(13,.pc 3 0),(14,tI v74),(115,tB (!v94))],hp25 v36 v37 v38 v39 v40 v41 v42 v43 v44 v45 v46 v47 v87 v88⟩ ?_ z0 trivial ?_
              ·kernel_rfl
              cases hc14
              exact AOps.nil rfl
            subst hJ
            refine AOps.nil ?_
            refine AWp.cond rfl (fun hb=>?_) fun hb=>?_
            ·replace h:=of_true h hb
             refine AWp.keepTo [] 0 ⟨[],[]⟩ ?_ z0 ?_
             ·kernel_rfl
             refine AWp.seq ?_
             refine AWp.start [0] [] [] [6] 0 ⟨[(6,tB false)],[]⟩ rfl ?_ z0 trivial ?_
             ·kernel_rfl
             refine AOps.nil ?_
             refine AWp.ret ?_
             cases h
             exact Or.inr ⟨_,rfl,by simp,rfl,rfl⟩
            ·replace h:=of_false h hb
             refine AWp.keepTo [2,7,9,12,13,14] 4 ⟨[(2,q2 v3),(7,.pc 0 0),(9,.pc 1 0),(12,.pc 2 0),(13,.pc 3 0),(14,tI v74)],hp25 v36 v37 v38 v39 v40 v41 v42 v43 v44 v45 v46 v47 v87 v88⟩ ?_ z0 ?_
             ·kernel_rfl
             refine AWp.skip ?_
             refine AWp.start [0,1,2] [] [] [2,7,9,12,13,14] 4 ⟨[(2,q2 v3),(7,.pc 0 0),(9,.pc 1 0),(12,.pc 2 0),(13,.pc 3 0),(14,tI (w64 (v74 + (1:Int))))],hp25 v36 v37 v38 v39 v40 v41 v42 v43 v44 v45 v46 v47 v87 v88⟩ rfl ?_ z0 trivial ?_
             ·kernel_rfl
             refine AOps.nil ?_
             cases h
             exact Or.inl ⟨_,rfl,rfl,rfl⟩
           ·replace h:=of_false h hb
            refine AWp.keepTo [] 0 ⟨[],[]⟩ ?_ z0 ?_
            ·kernel_rfl
            refine AWp.exit ?_
            cases h
            exact Or.inr ⟨_,rfl,by simp,rfl,rfl⟩
          ·intro e σ hp
           rcases y with v95 | _
           ·obtain ⟨rfl,rfl⟩:=hp
            cases h
            exact ⟨.inr rfl,rfl⟩
           ·obtain ⟨rfl,rfl⟩:=hp
            refine AWp.seq ?_
            refine AWp.start [] [0,1] [] [] 0 ⟨[],[]⟩ rfl ?_ z0 trivial ?_
            ·kernel_rfl
            obtain ⟨v96,hv96,h⟩:=of_bind h
            refine AOps.cons (AOne.callP (F:=(FF 117 0)) _ rfl rfl rfl _ rfl rfl _ _ rfl Try.call9 [] rfl rfl (f9_ok  hv96) rfl) ?_
            refine AOps.go [1] [] [] [6] 0 ⟨[(6,tB v96)],[]⟩ ?_ z0 trivial ?_
            ·kernel_rfl
            refine AOps.nil ?_
            refine AWp.ret ?_
            cases h
            exact ⟨.inr rfl,rfl⟩

end Go.Sx.unit
