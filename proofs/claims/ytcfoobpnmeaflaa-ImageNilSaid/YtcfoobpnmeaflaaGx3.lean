/- Printed by program (wip/gen): plain functions and their walks; no condition. -/
import Derived.Test.YtcfoobpnmeaflaaGx2
namespace Go.Sx.img
open Go Go.Sx Go.Proofs

noncomputable def f61 (v1:List T43):Option (List T43) :=
 if (([]:List T43).length + v1.length) * 16 ≤ 140737488355328 then some (([]:List T43) ++ v1) else none

theorem f61_ok (v1:List T43) {r:(List T43)} (h:f61 v1 = some r):ACall Try.prog 61 [.tv (fzL 2 c43 v1)] [] (.tv (ownL 2 44 c43 r)) []:=by
 refine ACall.of1 (FF 8 0) Try.func61 rfl Try.ntmps61 Try.results61 (zz rfl) rfl rfl ?_
 refine AWp.seq ?_
 refine AWp.start [0] [] [] [0] 0 ⟨[(0,.tv (k3 v1))],[]⟩ rfl ?_ z0 trivial ?_
 ·kernel_rfl
 refine AOps.nil ?_
 refine AWp.seq ?_
 refine AWp.seq ?_
 refine AWp.start [0] [1] [] [0,3] 0 ⟨[(0,.tv (k3 v1)),(3,.tv (k3 v1))],[]⟩ rfl ?_ z0 trivial ?_
 ·kernel_rfl
 refine AOps.nilEq (F:=(FF 8 0)) _ rfl rfl 4 rfl rfl rfl rfl v1.length rfl fun v2 hnil=>?_
 refine AOps.keepTo [0,4] 0 ⟨[(0,.tv (k3 v1)),(4,tB v2)],[]⟩ ?_ z0 ?_
 ·kernel_rfl
 refine AOps.nil ?_
 refine AWp.cond rfl (fun hb=>?_) fun hb=>?_
 ·have hz:=List.eq_nil_of_length_eq_zero (hnil hb)
  subst hz
  have h2:(if (([]:List T43).length + ([]:List T43).length) * 16 ≤ 140737488355328 then some (([]:List T43) ++ ([]:List T43)) else none) = some r:=h
  replace h:(some ([]:List T43)) = some r:=by simpa using h2
  refine AWp.keepTo [] 0 ⟨[],[]⟩ ?_ z0 ?_
  ·kernel_rfl
  refine AWp.seq ?_
  refine AWp.start [0] [] [] [2] 0 ⟨[(2,.tv (.sc (.slice none 0 0)))],[]⟩ rfl ?_ z0 trivial ?_
  ·kernel_rfl
  refine AOps.nil ?_
  refine AWp.nilOwn 2 2 44 (fun i=>c43 (([]:List T43).getD i default)) rfl ?_
  refine AWp.keepTo [2] 0 ⟨[(2,.tv (k1 ([]:List T43)))],[]⟩ ?_ z0 ?_
  ·kernel_rfl
  refine AWp.ret ?_
  cases h
  exact ⟨.inr rfl,rfl⟩
 ·refine AWp.keepTo [0] 0 ⟨[(0,.tv (k3 v1))],[]⟩ ?_ z0 ?_
  ·kernel_rfl
  refine AWp.skip ?_
  refine AWp.seq ?_
  refine AWp.start [0] [1,2,3] [] [0,5] 0 ⟨[(0,.tv (k3 v1)),(5,.tv (.own 2 44 0 (newRowF [] 2)))],[]⟩ rfl ?_ z0 trivial ?_
  ·kernel_rfl
  refine AOps.extL 5 c43 ([]:List T43) rfl rfl (row_at c43 2 (fun _=>rfl) ([]:List T43) _ rfl) ?_
  obtain ⟨hg,h⟩:=of_guard h
  refine AOps.go [1,2] [3] [(([]:List T43).length + v1.length) * 16 ≤ 140737488355328,PlainTo (([]:List T43).length) (fun i=>c43 (([]:List T43).getD i default)),PlainTo v1.length (fun i=>c43 (v1.getD i default))] [7] 0 ⟨[(7,.tv (.own 2 44 (([]:List T43).length + v1.length) (appF (([]:List T43).length) (fun i=>c43 (([]:List T43).getD i default)) (fun i=>c43 (v1.getD i default)))))],[]⟩ ?_ z0 ⟨hg,(fun _ _=>rfl),(fun _ _=>rfl)⟩ ?_
  ·kernel_rfl
  refine AOps.extL 7 c43 (([]:List T43) ++ v1) rfl List.length_append.symm (app_at c43 ([]:List T43) v1) ?_
  refine AOps.go [3] [] [] [2] 0 ⟨[(2,.tv (k1 (([]:List T43) ++ v1)))],[]⟩ ?_ z0 trivial ?_
  ·kernel_rfl
  refine AOps.nil ?_
  refine AWp.ret ?_
  cases h
  exact ⟨.inr rfl,rfl⟩

noncomputable def f24 (v1:T50):Option (List T43) :=
 (f39 v1).bind fun v2=>cond v2 (some ([]:List T43)) ((f61 v1.f2).bind fun v3=>some v3)

theorem f24_ok (v1:T50) {r:(List T43)} (h:f24 v1 = some r):ACall Try.prog 24 [.rp [fzL 27 c60 v1.f0,.int .i64 v1.f1,fzL 2 c43 v1.f2]] [] (.tv (ownL 2 44 c43 r)) []:=by
 refine ACall.of1 (FF 10 0) Try.func24 rfl Try.ntmps24 Try.results24 (zz rfl) rfl rfl ?_
 refine AWp.seq ?_
 refine AWp.start [0] [] [] [0] 0 ⟨[(0,.rp (c50 v1))],[]⟩ rfl ?_ z0 trivial ?_
 ·kernel_rfl
 refine AOps.nil ?_
 refine AWp.seq ?_
 refine AWp.seq ?_
 refine AWp.start [0] [1] [] [0,3] 0 ⟨[(0,.rp (c50 v1)),(3,.rp (c50 v1))],[]⟩ rfl ?_ z0 trivial ?_
 ·kernel_rfl
 obtain ⟨v2,hv2,h⟩:=of_bind h
 refine AOps.cons (AOne.callP (F:=(FF 10 0)) _ rfl rfl rfl _ rfl rfl _ _ rfl Try.call39 [.rp (c50 v1)] rfl rfl (f39_ok v1 hv2) rfl) ?_
 refine AOps.keepTo [0,4] 0 ⟨[(0,.rp (c50 v1)),(4,tB v2)],[]⟩ ?_ z0 ?_
 ·kernel_rfl
 refine AOps.nil ?_
 refine AWp.cond rfl (fun hb=>?_) fun hb=>?_
 ·replace h:=of_true h hb
  refine AWp.keepTo [] 0 ⟨[],[]⟩ ?_ z0 ?_
  ·kernel_rfl
  refine AWp.seq ?_
  refine AWp.start [0] [] [] [2] 0 ⟨[(2,.tv (.sc (.slice none 0 0)))],[]⟩ rfl ?_ z0 trivial ?_
  ·kernel_rfl
  refine AOps.nil ?_
  refine AWp.nilOwn 2 2 44 (fun i=>c43 (([]:List T43).getD i default)) rfl ?_
  refine AWp.keepTo [2] 0 ⟨[(2,.tv (k1 ([]:List T43)))],[]⟩ ?_ z0 ?_
  ·kernel_rfl
  refine AWp.ret ?_
  cases h
  exact ⟨.inr rfl,rfl⟩
 ·replace h:=of_false h hb
  refine AWp.keepTo [0] 0 ⟨[(0,.rp (c50 v1))],[]⟩ ?_ z0 ?_
  ·kernel_rfl
  refine AWp.skip ?_
  refine AWp.seq ?_
  refine AWp.start [0,1,2,3] [4,5] [] [8] 0 ⟨[(8,.tv (k3 v1.f2))],[]⟩ rfl ?_ z0 trivial ?_
  ·kernel_rfl
  obtain ⟨v3,hv3,h⟩:=of_bind h
  refine AOps.cons (AOne.callP (F:=(FF 10 0)) _ rfl rfl rfl _ rfl rfl _ _ rfl Try.call61 [.tv (k3 v1.f2)] rfl rfl (f61_ok v1.f2 hv3) rfl) ?_
  refine AOps.go [5] [] [] [2] 0 ⟨[(2,.tv (k1 v3))],[]⟩ ?_ z0 trivial ?_
  ·kernel_rfl
  refine AOps.nil ?_
  refine AWp.ret ?_
  cases h
  exact ⟨.inr rfl,rfl⟩

noncomputable def f27_z :Option Unit :=
 (f39_z ).bind fun v1=>cond v1 (some ()) none

theorem f27_z_ok  {r:Unit} (h:f27_z  = some r):ACall Try.prog 27 [.tv (.sc (.pointer none))] [] (.tv (.sc (.pointer none))) []:=by
 refine ACall.of1 (FF 65 0) Try.func27 rfl Try.ntmps27 Try.results27 (zz rfl) rfl rfl ?_
 refine AWp.seq ?_
 refine AWp.start [0] [] [] [0] 0 ⟨[(0,.tv (.sc (.pointer none)))],[]⟩ rfl ?_ z0 trivial ?_
 ·kernel_rfl
 refine AOps.nil ?_
 refine AWp.seq ?_
 refine AWp.seq ?_
 refine AWp.start [0] [1] [] [0,5] 0 ⟨[(0,.tv (.sc (.pointer none))),(5,.tv (.sc (.pointer none)))],[]⟩ rfl ?_ z0 trivial ?_
 ·kernel_rfl
 obtain ⟨v1,hv1,h⟩:=of_bind h
 refine AOps.cons (AOne.callP (F:=(FF 65 0)) _ rfl rfl rfl _ rfl rfl _ _ rfl Try.call39 [.tv (.sc (.pointer none))] rfl rfl (f39_z_ok  hv1) rfl) ?_
 refine AOps.keepTo [0,6] 0 ⟨[(0,.tv (.sc (.pointer none))),(6,tB v1)],[]⟩ ?_ z0 ?_
 ·kernel_rfl
 refine AOps.nil ?_
 refine AWp.cond rfl (fun hb=>?_) fun hb=>?_
 ·replace h:=of_true h hb
  refine AWp.keepTo [] 0 ⟨[],[]⟩ ?_ z0 ?_
  ·kernel_rfl
  refine AWp.seq ?_
  refine AWp.start [0] [] [] [2] 0 ⟨[(2,.tv (.sc (.pointer none)))],[]⟩ rfl ?_ z0 trivial ?_
  ·kernel_rfl
  refine AOps.nil ?_
  refine AWp.ret ?_
  cases h
  exact ⟨.inr rfl,rfl⟩
 ·replace h:=of_false h hb
  refine AWp.keepTo [0] 0 ⟨[(0,.tv (.sc (.pointer none)))],[]⟩ ?_ z0 ?_
  ·kernel_rfl
  refine AWp.skip ?_
  refine AWp.seq ?_
  refine AWp.draw FFm _ (n:=17) rfl (ls:=#[n1,n1,n1,n1,n1,n1,n1,n1,n1,n1,n1,n1,n1,n1,n1,n1,n1]) rfl ?_ (fun _ h=>h)
  cases h

noncomputable def f25_z_z1 :Option Bool :=
 (f39_z ).bind fun v1=>(cond v1 (some true) ((f39_z ).bind fun v3=>some v3)).bind fun v2=>cond v2 ((f39_z ).bind fun v4=>(cond v4 ((f39_z ).bind fun v6=>some v6) (some false)).bind fun v5=>some v5) none

theorem f25_z_z1_ok  {r:Bool} (h:f25_z_z1  = some r):ACall Try.prog 25 [.tv (.sc (.pointer none)),.tv (.sc (.pointer none))] [] (.tv (.bool r)) []:=by
 refine ACall.of1 (FF 48 0) Try.func25 rfl Try.ntmps25 Try.results25 (zz rfl) rfl rfl ?_
 refine AWp.seq ?_
 refine AWp.start [0] [] [] [0,1] 0 ⟨[(0,.tv (.sc (.pointer none))),(1,.tv (.sc (.pointer none)))],[]⟩ rfl ?_ z0 trivial ?_
 ·kernel_rfl
 refine AOps.nil ?_
 refine AWp.seq ?_
 refine AWp.seq ?_
 refine AWp.start [0] [1,2,3,4,5] [] [0,1,5] 0 ⟨[(0,.tv (.sc (.pointer none))),(1,.tv (.sc (.pointer none))),(5,.tv (.sc (.pointer none)))],[]⟩ rfl ?_ z0 trivial ?_
 ·kernel_rfl
 obtain ⟨v1,hv1,h⟩:=of_bind h
 refine AOps.cons (AOne.callP (F:=(FF 48 0)) _ rfl rfl rfl _ rfl rfl _ _ rfl Try.call39 [.tv (.sc (.pointer none))] rfl rfl (f39_z_ok  hv1) rfl) ?_
 refine AOps.go [2] [3,4,5] [] [0,1,7] 0 ⟨[(0,.tv (.sc (.pointer none))),(1,.tv (.sc (.pointer none))),(7,tB v1)],[]⟩ ?_ z0 trivial ?_
 ·kernel_rfl
 obtain ⟨v2,hc3,h⟩:=of_bind h
 refine AOps.cut [3,4,5] [] (fun σ=>σ = ⟨[(0,.tv (.sc (.pointer none))),(1,.tv (.sc (.pointer none))),(10,tB v2)],[]⟩) ?_ fun σ' hJ=>?_
 ·refine AOps.split (fun b=>⟨[(0,.tv (.sc (.pointer none))),(1,.tv (.sc (.pointer none))),(7,tB b)],[]⟩) _ (fun hb=>?_) fun hb=>?_
  ·replace hc3:=of_true hc3 hb
   refine AOps.go [3,4,5] [] [] [0,1,10] 0 ⟨[(0,.tv (.sc (.pointer none))),(1,.tv (.sc (.pointer none))),(10,tB true)],[]⟩ ?_ z0 trivial ?_
   ·kernel_rfl
   cases hc3
   exact AOps.nil rfl
  ·replace hc3:=of_false hc3 hb
   refine AOps.go [3] [4,5] [] [0,1,7,8] 0 ⟨[(0,.tv (.sc (.pointer none))),(1,.tv (.sc (.pointer none))),(7,tB false),(8,.tv (.sc (.pointer none)))],[]⟩ ?_ z0 trivial ?_
   ·kernel_rfl
   obtain ⟨v3,hv3,hc3⟩:=of_bind hc3
   refine AOps.cons (AOne.callP (F:=(FF 48 0)) _ rfl rfl rfl _ rfl rfl _ _ rfl Try.call39 [.tv (.sc (.pointer none))] rfl rfl (f39_z_ok  hv3) rfl) ?_
   refine AOps.go [5] [] [] [0,1,10] 0 ⟨[(0,.tv (.sc (.pointer none))),(1,.tv (.sc (.pointer none))),(10,tB v3)],[]⟩ ?_ z0 trivial ?_
   ·kernel_rfl
   cases hc3
   exact AOps.nil rfl
 subst hJ
 refine AOps.nil ?_
 refine AWp.cond rfl (fun hb=>?_) fun hb=>?_
 ·replace h:=of_true h hb
  refine AWp.keepTo [0,1] 0 ⟨[(0,.tv (.sc (.pointer none))),(1,.tv (.sc (.pointer none)))],[]⟩ ?_ z0 ?_
  ·kernel_rfl
  refine AWp.seq ?_
  refine AWp.start [0] [1,2,3,4,5,6] [] [1,11] 0 ⟨[(1,.tv (.sc (.pointer none))),(11,.tv (.sc (.pointer none)))],[]⟩ rfl ?_ z0 trivial ?_
  ·kernel_rfl
  obtain ⟨v4,hv4,h⟩:=of_bind h
  refine AOps.cons (AOne.callP (F:=(FF 48 0)) _ rfl rfl rfl _ rfl rfl _ _ rfl Try.call39 [.tv (.sc (.pointer none))] rfl rfl (f39_z_ok  hv4) rfl) ?_
  refine AOps.go [2] [3,4,5,6] [] [1,13] 0 ⟨[(1,.tv (.sc (.pointer none))),(13,tB v4)],[]⟩ ?_ z0 trivial ?_
  ·kernel_rfl
  obtain ⟨v5,hc3,h⟩:=of_bind h
  refine AOps.cut [3,4,5] [6] (fun σ=>σ = ⟨[(16,tB v5)],[]⟩) ?_ fun σ' hJ=>?_
  ·refine AOps.split (fun b=>⟨[(1,.tv (.sc (.pointer none))),(13,tB b)],[]⟩) _ (fun hb=>?_) fun hb=>?_
   ·replace hc3:=of_true hc3 hb
    refine AOps.go [3] [4,5] [] [13,14] 0 ⟨[(13,tB true),(14,.tv (.sc (.pointer none)))],[]⟩ ?_ z0 trivial ?_
    ·kernel_rfl
    obtain ⟨v6,hv6,hc3⟩:=of_bind hc3
    refine AOps.cons (AOne.callP (F:=(FF 48 0)) _ rfl rfl rfl _ rfl rfl _ _ rfl Try.call39 [.tv (.sc (.pointer none))] rfl rfl (f39_z_ok  hv6) rfl) ?_
    refine AOps.go [5] [] [] [16] 0 ⟨[(16,tB v6)],[]⟩ ?_ z0 trivial ?_
    ·kernel_rfl
    cases hc3
    exact AOps.nil rfl
   ·replace hc3:=of_false hc3 hb
    refine AOps.go [3,4,5] [] [] [16] 0 ⟨[(16,tB false)],[]⟩ ?_ z0 trivial ?_
    ·kernel_rfl
    cases hc3
    exact AOps.nil rfl
  subst hJ
  refine AOps.go [6] [] [] [4] 0 ⟨[(4,tB v5)],[]⟩ ?_ z0 trivial ?_
  ·kernel_rfl
  refine AOps.nil ?_
  refine AWp.ret ?_
  cases h
  exact ⟨.inr rfl,rfl⟩
 ·replace h:=of_false h hb
  refine AWp.keepTo [0,1] 0 ⟨[(0,.tv (.sc (.pointer none))),(1,.tv (.sc (.pointer none)))],[]⟩ ?_ z0 ?_
  ·kernel_rfl
  refine AWp.skip ?_
  refine AWp.seq ?_
  refine AWp.draw FFm _ (n:=32) rfl (ls:=#[n1,n1,n1,n1,n1,n1,n1,n1,n1,n1,n1,n1,n1,n1,n1,n1,n1,n1,n1,n1,n1,n1,n1,n1,n1,n1,n1,n1,n1,n1,n1,n1]) rfl ?_ (fun _ h=>h)
  cases h

noncomputable def f29 (v1:List UInt8) (v2:List Int):Option T54 :=
 some (T54.mk v1 v2 ([]:List UInt8))

theorem f29_ok (v1:List UInt8) (v2:List Int) {r:T54} (h:f29 v1 v2 = some r):ACall Try.prog 29 [.tv (.str v1),.tv (fzL 1 (cInt .i64) v2)] [] (.agg [.str r.f0,fzL 1 (cInt .i64) r.f1,.str r.f2]) []:=by
 refine ACall.of1c (r:=4) (t:=55) (cells0:=(c54 r)) (FF 8 0) Try.func29 rfl Try.ntmps29 (by kernel_rfl) (zz rfl) rfl rfl rfl (by kernel_rfl) rfl [4] 0 z0 rfl ?_
 refine AWp.seq ?_
 refine AWp.start [0] [] [] [0,1,4] 1 ⟨[(0,tS v1),(1,q0 v2),(4,.pc 0 0)],[.cells 55 [.str ([]:List UInt8),nS,.str ([]:List UInt8)]]⟩ rfl ?_ z0 trivial ?_
 ·kernel_rfl
 refine AOps.nil ?_
 refine AWp.seq ?_
 refine AWp.start [0,1,2,3] [] [] [4] 1 ⟨[(4,.pc 0 0)],[.cells 55 [.str v1,k2 v2,.str ([]:List UInt8)]]⟩ rfl ?_ z0 trivial ?_
 ·kernel_rfl
 refine AOps.nil ?_
 refine AWp.pin 0 rfl rfl ?_
 refine AWp.keepTo [4] 0 ⟨[(4,.rp [.str v1,k2 v2,.str ([]:List UInt8)])],[]⟩ ?_ z0 ?_
 ·kernel_rfl
 refine AWp.ret ?_
 cases h
 exact ⟨.inr rfl,rfl⟩

noncomputable def f36_b1 (v1:T54) (v2:Int) (v3:Int) (v4:Int):Option (Int ⊕ Out Bool Unit) :=
 cond (decide (v4 < (v1.f1.length:Int))) (if (0:Int) ≤ v4 ∧ v4 < (v1.f1.length:Int) then (f37 (v1.f1.getD v4.toNat default) (1:Int) v3).bind fun v5=>(cond (!v5) (some true) (some (v1.f1.getD v4.toNat default == v2))).bind fun v6=>(cond v6 (some true) (if (0:Int) ≤ v4 ∧ v4 ≤ (v1.f1.length:Int) then (f73 ((v1.f1.take v4.toNat).drop 0) (v1.f1.getD v4.toNat default)).bind fun v8=>some v8 else none)).bind fun v7=>cond v7 (some (.inr (.ret false))) (some (.inl (w64 (v4 + (1:Int))))) else none) (some (.inr (.go ())))

noncomputable def f36_j2 (v13:Int) (v14:Bool):Option ((Bool × Int) ⊕ Out Bool Unit) :=
 cond (!v14) (some (.inr (.ret false))) (some (.inl (v14,w64 (v13 + (1:Int)))))

noncomputable def f36_b3 (v1:T54) (v3:Int) (v10:(List UInt8) × Bool) (v12:Bool) (v13:Int):Option ((Bool × Int) ⊕ Out Bool Unit) :=
 cond (decide (v13 < (v1.f1.length:Int))) (if (0:Int) ≤ v13 ∧ v13 < (v1.f1.length:Int) then if (0:Int) ≤ v13 ∧ v13 < (v10.1.length:Int) then cond ((((v10.1.getD v13.toNat 0).toNat:Nat):Int) == (105:Int)) ((f37 (v1.f1.getD v13.toNat default) (1:Int) v3).bind fun v15=>f36_j2 v13 v15) (cond ((((v10.1.getD v13.toNat 0).toNat:Nat):Int) == (99:Int)) ((f37 (v1.f1.getD v13.toNat default) (0:Int) (9:Int)).bind fun v16=>f36_j2 v13 v16) (cond ((((v10.1.getD v13.toNat 0).toNat:Nat):Int) == (114:Int)) ((f37 (v1.f1.getD v13.toNat default) (0:Int) (3:Int)).bind fun v17=>f36_j2 v13 v17) (cond ((((v10.1.getD v13.toNat 0).toNat:Nat):Int) == (118:Int)) ((f37 (v1.f1.getD v13.toNat default) (-1000000:Int) (1000000:Int)).bind fun v18=>f36_j2 v13 v18) (cond ((((v10.1.getD v13.toNat 0).toNat:Nat):Int) == (119:Int)) ((f37 (v1.f1.getD v13.toNat default) (1:Int) (9:Int)).bind fun v19=>f36_j2 v13 v19) (f36_j2 v13 v12))))) else none else none) (some (.inr (.go ())))

noncomputable def f36 (v1:T54) (v2:Int) (v3:Int):Option Bool :=
 cond (v1.f0 == ([119,105,116,104]:List UInt8)) ((iter (fun s=>f36_b1 v1 v2 v3 s) (0:Int)).bind fun y=>match y with | .ret v9=>some v9 | .go _=>some (decide ((v1.f1.length:Int) > (0:Int)))) ((f74 v1.f0).bind fun v10=>(cond (!v10.2) (some true) (some ((v10.1.length:Int) != (v1.f1.length:Int)))).bind fun v11=>cond v11 (some false) ((iter (fun s=>f36_b3 v1 v3 v10 s.1 s.2) (v10.2,(0:Int))).bind fun y=>match y with | .ret v20=>some v20 | .go _=>some true))

theorem f36_ok (v1:T54) (v2:Int) (v3:Int) {r:Bool} (h:f36 v1 v2 v3 = some r):ACall Try.prog 36 [.agg [.str v1.f0,fzL 1 (cInt .i64) v1.f1,.str v1.f2],.tv (.int .i64 v2),.tv (.int .i64 v3)] [] (.tv (.bool r)) []:=by
 refine ACall.of1 (FF 97 0) Try.func36 rfl Try.ntmps36 Try.results36 (zz rfl) rfl rfl ?_
 refine AWp.seq ?_
 refine AWp.start [0,1] [] [] [1,2,3] 1 ⟨[(1,tI v2),(2,tI v3),(3,.pc 0 0)],[.cells 55 (c54 v1)]⟩ rfl ?_ z0 trivial ?_
 ·kernel_rfl
 refine AOps.nil ?_
 refine AWp.seq ?_
 refine AWp.seq ?_
 refine AWp.pin 0 rfl rfl ?_
 refine AWp.keepTo [1,2,3] 0 ⟨[(1,tI v2),(2,tI v3),(3,.rp (c54 v1))],[]⟩ ?_ z0 ?_
 ·kernel_rfl
 refine AWp.start [0,1,2] [] [] [1,2,3,15] 0 ⟨[(1,tI v2),(2,tI v3),(3,.rp (c54 v1)),(15,tB (v1.f0 == ([119,105,116,104]:List UInt8)))],[]⟩ rfl ?_ z0 trivial ?_
 ·kernel_rfl
 refine AOps.nil ?_
 refine AWp.cond rfl (fun hb=>?_) fun hb=>?_
 ·replace h:=of_true h hb
  refine AWp.keepTo [1,2,3] 0 ⟨[(1,tI v2),(2,tI v3),(3,.rp (c54 v1))],[]⟩ ?_ z0 ?_
  ·kernel_rfl
  refine AWp.seq ?_
  refine AWp.seq ?_
  refine AWp.start [0,1,2,3] [] [] [1,2,3,17,18,19] 0 ⟨[(1,tI v2),(2,tI v3),(3,.rp (c54 v1)),(17,q0 v1.f1),(18,tI (v1.f1.length:Int)),(19,tI (0:Int))],[]⟩ rfl ?_ z0 trivial ?_
  ·kernel_rfl
  refine AOps.nil ?_
  refine AWp.block ?_
  obtain ⟨y,hy,h⟩:=of_bind h
  refine AWp.mono (AWp.loop (S:=Int) (Y:=Out Bool Unit) (fun s=>⟨[(1,tI v2),(2,tI v3),(3,.rp (c54 v1)),(17,q0 v1.f1),(18,tI (v1.f1.length:Int)),(19,tI s)],[]⟩) (fun s=>f36_b1 v1 v2 v3 s) (fun y e σ=>match y with | .ret r=>e = .ret ∧ σ = ⟨[(6,tB r)],[]⟩ | .go v=>e = .exit 0 ∧ σ = ⟨[(3,.rp (c54 v1))],[]⟩) ?_ hy) ?_
  ·rintro v4 o h
   refine AWp.seq ?_
   refine AWp.start [0] [] [] [1,2,3,17,18,19,20] 0 ⟨[(1,tI v2),(2,tI v3),(3,.rp (c54 v1)),(17,q0 v1.f1),(18,tI (v1.f1.length:Int)),(19,tI v4),(20,tB (decide (v4 < (v1.f1.length:Int))))],[]⟩ rfl ?_ z0 trivial ?_
   ·kernel_rfl
   refine AOps.nil ?_
   refine AWp.seq ?_
   refine AWp.cond rfl (fun hb=>?_) fun hb=>?_
   ·replace h:=of_true h hb
    refine AWp.keepTo [1,2,3,17,18,19] 0 ⟨[(1,tI v2),(2,tI v3),(3,.rp (c54 v1)),(17,q0 v1.f1),(18,tI (v1.f1.length:Int)),(19,tI v4)],[]⟩ ?_ z0 ?_
    ·kernel_rfl
    refine AWp.skip ?_
    refine AWp.seq ?_
    refine AWp.block ?_
    refine AWp.seq ?_
    obtain ⟨hg,h⟩:=of_guard h
    refine AWp.start [0,1,2,3,4] [] [(0:Int) ≤ v4,v4 < (v1.f1.length:Int)] [1,2,3,7,8,17,18,19] 0 ⟨[(1,tI v2),(2,tI v3),(3,.rp (c54 v1)),(7,tI v4),(8,tI (gD v1.f1 v4)),(17,q0 v1.f1),(18,tI (v1.f1.length:Int)),(19,tI v4)],[]⟩ rfl ?_ z0 ⟨hg.1,hg.2⟩ ?_
    ·kernel_rfl
    refine AOps.nil ?_
    refine AWp.seq ?_
    refine AWp.start [0,1] [2,3,4,5,6,7,8,9,10,11,12,13,14,15,16] [] [1,2,3,7,8,17,18,19,24,25] 0 ⟨[(1,tI v2),(2,tI v3),(3,.rp (c54 v1)),(7,tI v4),(8,tI (gD v1.f1 v4)),(17,q0 v1.f1),(18,tI (v1.f1.length:Int)),(19,tI v4),(24,tI (gD v1.f1 v4)),(25,tI v3)],[]⟩ rfl ?_ z0 trivial ?_
    ·kernel_rfl
    obtain ⟨v5,hv5,h⟩:=of_bind h
    refine AOps.cons (AOne.callP (F:=(FF 97 0)) _ rfl rfl rfl _ rfl rfl _ _ rfl Try.call37 [tI (gD v1.f1 v4),tI (1:Int),tI v3] rfl rfl (f37_ok (gD v1.f1 v4) (1:Int) v3 hv5) rfl) ?_
    refine AOps.go [3,4] [5,6,7,8,9,10,11,12,13,14,15,16] [] [1,2,3,7,8,17,18,19,28] 0 ⟨[(1,tI v2),(2,tI v3),(3,.rp (c54 v1)),(7,tI v4),(8,tI (gD v1.f1 v4)),(17,q0 v1.f1),(18,tI (v1.f1.length:Int)),(19,tI v4),(28,tB (!v5))],[]⟩ ?_ z0 trivial ?_
    ·kernel_rfl
    obtain ⟨v6,hc5,h⟩:=of_bind h
    refine AOps.cut [5,6,7,8] [9,10,11,12,13,14,15,16] (fun σ=>σ = ⟨[(1,tI v2),(2,tI v3),(3,.rp (c54 v1)),(7,tI v4),(8,tI (gD v1.f1 v4)),(17,q0 v1.f1),(18,tI (v1.f1.length:Int)),(19,tI v4),(32,tB v6)],[]⟩) ?_ fun σ' hJ=>?_
    ·refine AOps.split (fun b=>⟨[(1,tI v2),(2,tI v3),(3,.rp (c54 v1)),(7,tI v4),(8,tI (gD v1.f1 v4)),(17,q0 v1.f1),(18,tI (v1.f1.length:Int)),(19,tI v4),(28,tB b)],[]⟩) _ (fun hb=>?_) fun hb=>?_
     ·replace hc5:=of_true hc5 hb
      refine AOps.go [5,6,7,8] [] [] [1,2,3,7,8,17,18,19,32] 0 ⟨[(1,tI v2),(2,tI v3),(3,.rp (c54 v1)),(7,tI v4),(8,tI (gD v1.f1 v4)),(17,q0 v1.f1),(18,tI (v1.f1.length:Int)),(19,tI v4),(32,tB true)],[]⟩ ?_ z0 trivial ?_
      ·kernel_rfl
      cases hc5
      exact AOps.nil rfl
     ·replace hc5:=of_false hc5 hb
      refine AOps.go [5,6,7,8] [] [] [1,2,3,7,8,17,18,19,32] 0 ⟨[(1,tI v2),(2,tI v3),(3,.rp (c54 v1)),(7,tI v4),(8,tI (gD v1.f1 v4)),(17,q0 v1.f1),(18,tI (v1.f1.length:Int)),(19,tI v4),(32,tB (gD v1.f1 v4 == v2))],[]⟩ ?_ z0 trivial ?_
      ·kernel_rfl
      cases hc5
      exact AOps.nil rfl
    subst hJ
    refine AOps.go [9] [10,11,12,13,14,15,16] [] [1,2,3,7,8,17,18,19,33] 0 ⟨[(1,tI v2),(2,tI v3),(3,.rp (c54 v1)),(7,tI v4),(8,tI (gD v1.f1 v4)),(17,q0 v1.f1),(18,tI (v1.f1.length:Int)),(19,tI v4),(33,tB v6)],[]⟩ ?_ z0 trivial ?_
    ·kernel_rfl
    obtain ⟨v7,hc10,h⟩:=of_bind h
    refine AOps.cut [10,11,12,13,14,15,16] [] (fun σ=>σ = ⟨[(1,tI v2),(2,tI v3),(3,.rp (c54 v1)),(17,q0 v1.f1),(18,tI (v1.f1.length:Int)),(19,tI v4),(40,tB v7)],[]⟩) ?_ fun σ' hJ=>?_
    ·refine AOps.split (fun b=>⟨[(1,tI v2),(2,tI v3),(3,.rp (c54 v1)),(7,tI v4),(8,tI (gD v1.f1 v4)),(17,q0 v1.f1),(18,tI (v1.f1.length:Int)),(19,tI v4),(33,tB b)],[]⟩) _ (fun hb=>?_) fun hb=>?_
     ·replace hc10:=of_true hc10 hb
      refine AOps.go [10,11,12,13,14,15,16] [] [] [1,2,3,17,18,19,40] 0 ⟨[(1,tI v2),(2,tI v3),(3,.rp (c54 v1)),(17,q0 v1.f1),(18,tI (v1.f1.length:Int)),(19,tI v4),(40,tB true)],[]⟩ ?_ z0 trivial ?_
      ·kernel_rfl
      cases hc10
      exact AOps.nil rfl
     ·replace hc10:=of_false hc10 hb
      obtain ⟨hg,hc10⟩:=of_guard hc10
      refine AOps.go [10,11,12,13] [14,15,16] [(0:Int) ≤ (0:Int),(0:Int) ≤ v4,v4 ≤ (v1.f1.length:Int)] [1,2,3,8,17,18,19,33,37] 0 ⟨[(1,tI v2),(2,tI v3),(3,.rp (c54 v1)),(8,tI (gD v1.f1 v4)),(17,q0 v1.f1),(18,tI (v1.f1.length:Int)),(19,tI v4),(33,tB false),(37,.tv (.fz 1 (v4.toNat - 0) (fun i=>(cInt .i64) (v1.f1.getD (0 + i) default))))],[]⟩ ?_ z0 ⟨(by decide:(0:Int) ≤ (0:Int)),hg.1,hg.2⟩ ?_
      ·kernel_rfl
      have hb:v4.toNat ≤ v1.f1.length:=by have hh:v4 ≤ (v1.f1.length:Int):=hg.2; omega
      refine AOps.extFzL (s:=37) rfl (sub_len v1.f1 0 v4.toNat hb) (sub_at (cInt .i64) v1.f1 0 v4.toNat hb) ?_
      refine AOps.go [14] [15,16] [] [1,2,3,17,18,19,33,37,38] 0 ⟨[(1,tI v2),(2,tI v3),(3,.rp (c54 v1)),(17,q0 v1.f1),(18,tI (v1.f1.length:Int)),(19,tI v4),(33,tB false),(37,q0 ((v1.f1.take v4.toNat).drop 0)),(38,tI (gD v1.f1 v4))],[]⟩ ?_ z0 trivial ?_
      ·kernel_rfl
      obtain ⟨v8,hv8,hc10⟩:=of_bind hc10
      refine AOps.cons (AOne.callP (F:=(FF 97 0)) _ rfl rfl rfl _ rfl rfl _ _ rfl Try.call73 [q0 ((v1.f1.take v4.toNat).drop 0),tI (gD v1.f1 v4)] rfl rfl (f73_ok ((v1.f1.take v4.toNat).drop 0) (gD v1.f1 v4) hv8) rfl) ?_
      refine AOps.go [16] [] [] [1,2,3,17,18,19,40] 0 ⟨[(1,tI v2),(2,tI v3),(3,.rp (c54 v1)),(17,q0 v1.f1),(18,tI (v1.f1.length:Int)),(19,tI v4),(40,tB v8)],[]⟩ ?_ z0 trivial ?_
      ·kernel_rfl
      cases hc10
      exact AOps.nil rfl
    subst hJ
    refine AOps.nil ?_
    refine AWp.cond rfl (fun hb=>?_) fun hb=>?_
    ·replace h:=of_true h hb
     refine AWp.keepTo [] 0 ⟨[],[]⟩ ?_ z0 ?_
     ·kernel_rfl
     refine AWp.seq ?_
     refine AWp.start [0] [] [] [6] 0 ⟨[(6,tB false)],[]⟩ rfl ?_ z0 trivial ?_
     ·kernel_rfl
     refine AOps.nil ?_
     refine AWp.ret ?_
     cases h
     exact Or.inr ⟨_,rfl,by simp,rfl,rfl⟩
    ·replace h:=of_false h hb
     refine AWp.keepTo [1,2,3,17,18,19] 0 ⟨[(1,tI v2),(2,tI v3),(3,.rp (c54 v1)),(17,q0 v1.f1),(18,tI (v1.f1.length:Int)),(19,tI v4)],[]⟩ ?_ z0 ?_
     ·kernel_rfl
     refine AWp.skip ?_
     refine AWp.start [0,1] [] [] [1,2,3,17,18,19] 0 ⟨[(1,tI v2),(2,tI v3),(3,.rp (c54 v1)),(17,q0 v1.f1),(18,tI (v1.f1.length:Int)),(19,tI (w64 (v4 + (1:Int))))],[]⟩ rfl ?_ z0 trivial ?_
     ·kernel_rfl
     refine AOps.nil ?_
     cases h
     exact Or.inl ⟨_,rfl,rfl,rfl⟩
   ·replace h:=of_false h hb
    refine AWp.keepTo [3] 0 ⟨[(3,.rp (c54 v1))],[]⟩ ?_ z0 ?_
    ·kernel_rfl
    refine AWp.exit ?_
    cases h
    exact Or.inr ⟨_,rfl,by simp,rfl,rfl⟩
  ·intro e σ hp
   rcases y with v9 | _
   ·obtain ⟨rfl,rfl⟩:=hp
    cases h
    exact ⟨.inr rfl,rfl⟩
   ·obtain ⟨rfl,rfl⟩:=hp
    refine AWp.seq ?_
    refine AWp.start [0,1,2,3,4] [] [] [6] 0 ⟨[(6,tB (decide ((v1.f1.length:Int) > (0:Int))))],[]⟩ rfl ?_ z0 trivial ?_
    ·kernel_rfl
    refine AOps.nil ?_
    refine AWp.ret ?_
    cases h
    exact ⟨.inr rfl,rfl⟩
 ·replace h:=of_false h hb
  refine AWp.keepTo [2,3] 0 ⟨[(2,tI v3),(3,.rp (c54 v1))],[]⟩ ?_ z0 ?_
  ·kernel_rfl
  refine AWp.skip ?_
  refine AWp.seq ?_
  refine AWp.start [0,1] [2,3,4,5,6,7] [] [2,3,48] 0 ⟨[(2,tI v3),(3,.rp (c54 v1)),(48,tS v1.f0)],[]⟩ rfl ?_ z0 trivial ?_
  ·kernel_rfl
  obtain ⟨v10,hv10,h⟩:=of_bind h
  refine AOps.cons (AOne.callP (F:=(FF 97 0)) _ rfl rfl rfl _ rfl rfl _ _ rfl Try.call74 [tS v1.f0] rfl rfl (f74_ok v1.f0 hv10) rfl) ?_
  refine AOps.go [3,4,5,6,7] [] [] [2,3,9,10] 0 ⟨[(2,tI v3),(3,.rp (c54 v1)),(9,tS v10.1),(10,tB v10.2)],[]⟩ ?_ z0 trivial ?_
  ·kernel_rfl
  refine AOps.nil ?_
  refine AWp.seq ?_
  refine AWp.seq ?_
  refine AWp.start [0,1,2] [3,4,5,6,7,8,9] [] [2,3,9,10,54] 0 ⟨[(2,tI v3),(3,.rp (c54 v1)),(9,tS v10.1),(10,tB v10.2),(54,tB (!v10.2))],[]⟩ rfl ?_ z0 trivial ?_
  ·kernel_rfl
  obtain ⟨v11,hc3,h⟩:=of_bind h
  refine AOps.cut [3,4,5,6,7,8,9] [] (fun σ=>σ = ⟨[(2,tI v3),(3,.rp (c54 v1)),(9,tS v10.1),(10,tB v10.2),(61,tB v11)],[]⟩) ?_ fun σ' hJ=>?_
  ·refine AOps.split (fun b=>⟨[(2,tI v3),(3,.rp (c54 v1)),(9,tS v10.1),(10,tB v10.2),(54,tB b)],[]⟩) _ (fun hb=>?_) fun hb=>?_
   ·replace hc3:=of_true hc3 hb
    refine AOps.go [3,4,5,6,7,8,9] [] [] [2,3,9,10,61] 0 ⟨[(2,tI v3),(3,.rp (c54 v1)),(9,tS v10.1),(10,tB v10.2),(61,tB true)],[]⟩ ?_ z0 trivial ?_
    ·kernel_rfl
    cases hc3
    exact AOps.nil rfl
   ·replace hc3:=of_false hc3 hb
    refine AOps.go [3,4,5,6,7,8,9] [] [] [2,3,9,10,61] 0 ⟨[(2,tI v3),(3,.rp (c54 v1)),(9,tS v10.1),(10,tB v10.2),(61,tB ((v10.1.length:Int) != (v1.f1.length:Int)))],[]⟩ ?_ z0 trivial ?_
    ·kernel_rfl
    cases hc3
    exact AOps.nil rfl
  subst hJ
  refine AOps.nil ?_
  refine AWp.cond rfl (fun hb=>?_) fun hb=>?_
  ·replace h:=of_true h hb
   refine AWp.keepTo [] 0 ⟨[],[]⟩ ?_ z0 ?_
   ·kernel_rfl
   refine AWp.seq ?_
   refine AWp.start [0] [] [] [6] 0 ⟨[(6,tB false)],[]⟩ rfl ?_ z0 trivial ?_
   ·kernel_rfl
   refine AOps.nil ?_
   refine AWp.ret ?_
   cases h
   exact ⟨.inr rfl,rfl⟩
  ·replace h:=of_false h hb
   refine AWp.keepTo [2,3,9,10] 0 ⟨[(2,tI v3),(3,.rp (c54 v1)),(9,tS v10.1),(10,tB v10.2)],[]⟩ ?_ z0 ?_
   ·kernel_rfl
   refine AWp.skip ?_
   refine AWp.seq ?_
   refine AWp.seq ?_
   refine AWp.start [0,1,2,3] [] [] [2,9,10,63,64,65] 0 ⟨[(2,tI v3),(9,tS v10.1),(10,tB v10.2),(63,q0 v1.f1),(64,tI (v1.f1.length:Int)),(65,tI (0:Int))],[]⟩ rfl ?_ z0 trivial ?_
   ·kernel_rfl
   refine AOps.nil ?_
   refine AWp.block ?_
   obtain ⟨y,hy,h⟩:=of_bind h
   refine AWp.mono (AWp.loop (S:=Bool × Int) (Y:=Out Bool Unit) (fun s=>⟨[(2,tI v3),(9,tS v10.1),(10,tB s.1),(63,q0 v1.f1),(64,tI (v1.f1.length:Int)),(65,tI s.2)],[]⟩) (fun s=>f36_b3 v1 v3 v10 s.1 s.2) (fun y e σ=>match y with | .ret r=>e = .ret ∧ σ = ⟨[(6,tB r)],[]⟩ | .go v=>e = .exit 2 ∧ σ = ⟨[],[]⟩) ?_ hy) ?_
   ·rintro ⟨v12,v13⟩ o h
    refine AWp.seq ?_
    refine AWp.start [0] [] [] [2,9,10,63,64,65,66] 0 ⟨[(2,tI v3),(9,tS v10.1),(10,tB v12),(63,q0 v1.f1),(64,tI (v1.f1.length:Int)),(65,tI v13),(66,tB (decide (v13 < (v1.f1.length:Int))))],[]⟩ rfl ?_ z0 trivial ?_
    ·kernel_rfl
    refine AOps.nil ?_
    refine AWp.seq ?_
    refine AWp.cond rfl (fun hb=>?_) fun hb=>?_
    ·replace h:=of_true h hb
     refine AWp.keepTo [2,9,10,63,64,65] 0 ⟨[(2,tI v3),(9,tS v10.1),(10,tB v12),(63,q0 v1.f1),(64,tI (v1.f1.length:Int)),(65,tI v13)],[]⟩ ?_ z0 ?_
     ·kernel_rfl
     refine AWp.skip ?_
     refine AWp.seq ?_
     refine AWp.block ?_
     refine AWp.seq ?_
     obtain ⟨hg,h⟩:=of_guard h
     refine AWp.start [0,1,2,3,4] [] [(0:Int) ≤ v13,v13 < (v1.f1.length:Int)] [2,9,10,11,12,63,64,65] 0 ⟨[(2,tI v3),(9,tS v10.1),(10,tB v12),(11,tI v13),(12,tI (gD v1.f1 v13)),(63,q0 v1.f1),(64,tI (v1.f1.length:Int)),(65,tI v13)],[]⟩ rfl ?_ z0 ⟨hg.1,hg.2⟩ ?_
     ·kernel_rfl
     refine AOps.nil ?_
     refine AWp.join (V:=Bool) (fun w=>⟨[(2,tI v3),(9,tS v10.1),(10,tB w),(63,q0 v1.f1),(64,tI (v1.f1.length:Int)),(65,tI v13)],[]⟩) (fun w=>f36_j2 v13 w = some o) ?_ ?_
     ·refine AWp.seq ?_
      obtain ⟨hg,h⟩:=of_guard h
      refine AWp.start [0,1,2] [] [(0:Int) ≤ v13,v13 < (v10.1.length:Int)] [2,9,10,12,63,64,65,72] 0 ⟨[(2,tI v3),(9,tS v10.1),(10,tB v12),(12,tI (gD v1.f1 v13)),(63,q0 v1.f1),(64,tI (v1.f1.length:Int)),(65,tI v13),(72,.tv (.int .u8 (((v10.1.getD v13.toNat 0).toNat:Nat):Int)))],[]⟩ rfl ?_ z0 ⟨hg.1,hg.2⟩ ?_
      ·kernel_rfl
      refine AOps.nil ?_
      refine AWp.block ?_
      refine AWp.seq ?_
      refine AWp.start [0,1] [] [] [2,9,10,12,63,64,65,72,73] 0 ⟨[(2,tI v3),(9,tS v10.1),(10,tB v12),(12,tI (gD v1.f1 v13)),(63,q0 v1.f1),(64,tI (v1.f1.length:Int)),(65,tI v13),(72,.tv (.int .u8 (((v10.1.getD v13.toNat 0).toNat:Nat):Int))),(73,tB ((((v10.1.getD v13.toNat 0).toNat:Nat):Int) == (105:Int)))],[]⟩ rfl ?_ z0 trivial ?_
      ·kernel_rfl
      refine AOps.nil ?_
      refine AWp.cond rfl (fun hb=>?_) fun hb=>?_
      ·replace h:=of_true h hb
       refine AWp.keepTo [2,9,12,63,64,65] 0 ⟨[(2,tI v3),(9,tS v10.1),(12,tI (gD v1.f1 v13)),(63,q0 v1.f1),(64,tI (v1.f1.length:Int)),(65,tI v13)],[]⟩ ?_ z0 ?_
       ·kernel_rfl
       refine AWp.start [0,1] [2,3] [] [2,9,63,64,65,75,76] 0 ⟨[(2,tI v3),(9,tS v10.1),(63,q0 v1.f1),(64,tI (v1.f1.length:Int)),(65,tI v13),(75,tI (gD v1.f1 v13)),(76,tI v3)],[]⟩ rfl ?_ z0 trivial ?_
       ·kernel_rfl
       obtain ⟨v15,hv15,h⟩:=of_bind h
       refine AOps.cons (AOne.callP (F:=(FF 97 0)) _ rfl rfl rfl _ rfl rfl _ _ rfl Try.call37 [tI (gD v1.f1 v13),tI (1:Int),tI v3] rfl rfl (f37_ok (gD v1.f1 v13) (1:Int) v3 hv15) rfl) ?_
       refine AOps.go [3] [] [] [2,9,10,63,64,65] 0 ⟨[(2,tI v3),(9,tS v10.1),(10,tB v15),(63,q0 v1.f1),(64,tI (v1.f1.length:Int)),(65,tI v13)],[]⟩ ?_ z0 trivial ?_
       ·kernel_rfl
       refine AOps.nil ?_
       exact ⟨v15,h,rfl⟩
      ·replace h:=of_false h hb
       refine AWp.keepTo [2,9,10,12,63,64,65,72] 0 ⟨[(2,tI v3),(9,tS v10.1),(10,tB v12),(12,tI (gD v1.f1 v13)),(63,q0 v1.f1),(64,tI (v1.f1.length:Int)),(65,tI v13),(72,.tv (.int .u8 (((v10.1.getD v13.toNat 0).toNat:Nat):Int)))],[]⟩ ?_ z0 ?_
       ·kernel_rfl
       refine AWp.seq ?_
       refine AWp.start [0,1] [] [] [2,9,10,12,63,64,65,72,78] 0 ⟨[(2,tI v3),(9,tS v10.1),(10,tB v12),(12,tI (gD v1.f1 v13)),(63,q0 v1.f1),(64,tI (v1.f1.length:Int)),(65,tI v13),(72,.tv (.int .u8 (((v10.1.getD v13.toNat 0).toNat:Nat):Int))),(78,tB ((((v10.1.getD v13.toNat 0).toNat:Nat):Int) == (99:Int)))],[]⟩ rfl ?_ z0 trivial ?_
       ·kernel_rfl
       refine AOps.nil ?_
       refine AWp.cond rfl (fun hb=>?_) fun hb=>?_
       ·replace h:=of_true h hb
        refine AWp.keepTo [2,9,12,63,64,65] 0 ⟨[(2,tI v3),(9,tS v10.1),(12,tI (gD v1.f1 v13)),(63,q0 v1.f1),(64,tI (v1.f1.length:Int)),(65,tI v13)],[]⟩ ?_ z0 ?_
        ·kernel_rfl
        refine AWp.start [0] [1,2] [] [2,9,63,64,65,80] 0 ⟨[(2,tI v3),(9,tS v10.1),(63,q0 v1.f1),(64,tI (v1.f1.length:Int)),(65,tI v13),(80,tI (gD v1.f1 v13))],[]⟩ rfl ?_ z0 trivial ?_
        ·kernel_rfl
        obtain ⟨v16,hv16,h⟩:=of_bind h
        refine AOps.cons (AOne.callP (F:=(FF 97 0)) _ rfl rfl rfl _ rfl rfl _ _ rfl Try.call37 [tI (gD v1.f1 v13),tI (0:Int),tI (9:Int)] rfl rfl (f37_ok (gD v1.f1 v13) (0:Int) (9:Int) hv16) rfl) ?_
        refine AOps.go [2] [] [] [2,9,10,63,64,65] 0 ⟨[(2,tI v3),(9,tS v10.1),(10,tB v16),(63,q0 v1.f1),(64,tI (v1.f1.length:Int)),(65,tI v13)],[]⟩ ?_ z0 trivial ?_
        ·kernel_rfl
        refine AOps.nil ?_
        exact ⟨v16,h,rfl⟩
       ·replace h:=of_false h hb
        refine AWp.keepTo [2,9,10,12,63,64,65,72] 0 ⟨[(2,tI v3),(9,tS v10.1),(10,tB v12),(12,tI (gD v1.f1 v13)),(63,q0 v1.f1),(64,tI (v1.f1.length:Int)),(65,tI v13),(72,.tv (.int .u8 (((v10.1.getD v13.toNat 0).toNat:Nat):Int)))],[]⟩ ?_ z0 ?_
        ·kernel_rfl
        refine AWp.seq ?_
        refine AWp.start [0,1] [] [] [2,9,10,12,63,64,65,72,82] 0 ⟨[(2,tI v3),(9,tS v10.1),(10,tB v12),(12,tI (gD v1.f1 v13)),(63,q0 v1.f1),(64,tI (v1.f1.length:Int)),(65,tI v13),(72,.tv (.int .u8 (((v10.1.getD v13.toNat 0).toNat:Nat):Int))),(82,tB ((((v10.1.getD v13.toNat 0).toNat:Nat):Int) == (114:Int)))],[]⟩ rfl ?_ z0 trivial ?_
        ·kernel_rfl
        refine AOps.nil ?_
        refine AWp.cond rfl (fun hb=>?_) fun hb=>?_
        ·replace h:=of_true h hb
         refine AWp.keepTo [2,9,12,63,64,65] 0 ⟨[(2,tI v3),(9,tS v10.1),(12,tI (gD v1.f1 v13)),(63,q0 v1.f1),(64,tI (v1.f1.length:Int)),(65,tI v13)],[]⟩ ?_ z0 ?_
         ·kernel_rfl
         refine AWp.start [0] [1,2] [] [2,9,63,64,65,84] 0 ⟨[(2,tI v3),(9,tS v10.1),(63,q0 v1.f1),(64,tI (v1.f1.length:Int)),(65,tI v13),(84,tI (gD v1.f1 v13))],[]⟩ rfl ?_ z0 trivial ?_
         ·kernel_rfl
         obtain ⟨v17,hv17,h⟩:=of_bind h
         refine AOps.cons (AOne.callP (F:=(FF 97 0)) _ rfl rfl rfl _ rfl rfl _ _ rfl Try.call37 [tI (gD v1.f1 v13),tI (0:Int),tI (3:Int)] rfl rfl (f37_ok (gD v1.f1 v13) (0:Int) (3:Int) hv17) rfl) ?_
         refine AOps.go [2] [] [] [2,9,10,63,64,65] 0 ⟨[(2,tI v3),(9,tS v10.1),(10,tB v17),(63,q0 v1.f1),(64,tI (v1.f1.length:Int)),(65,tI v13)],[]⟩ ?_ z0 trivial ?_
         ·kernel_rfl
         refine AOps.nil ?_
         exact ⟨v17,h,rfl⟩
        ·replace h:=of_false h hb
         refine AWp.keepTo [2,9,10,12,63,64,65,72] 0 ⟨[(2,tI v3),(9,tS v10.1),(10,tB v12),(12,tI (gD v1.f1 v13)),(63,q0 v1.f1),(64,tI (v1.f1.length:Int)),(65,tI v13),(72,.tv (.int .u8 (((v10.1.getD v13.toNat 0).toNat:Nat):Int)))],[]⟩ ?_ z0 ?_
         ·kernel_rfl
         refine AWp.seq ?_
         refine AWp.start [0,1] [] [] [2,9,10,12,63,64,65,72,86] 0 ⟨[(2,tI v3),(9,tS v10.1),(10,tB v12),(12,tI (gD v1.f1 v13)),(63,q0 v1.f1),(64,tI (v1.f1.length:Int)),(65,tI v13),(72,.tv (.int .u8 (((v10.1.getD v13.toNat 0).toNat:Nat):Int))),(86,tB ((((v10.1.getD v13.toNat 0).toNat:Nat):Int) == (118:Int)))],[]⟩ rfl ?_ z0 trivial ?_
         ·kernel_rfl
         refine AOps.nil ?_
         refine AWp.cond rfl (fun hb=>?_) fun hb=>?_
         ·replace h:=of_true h hb
          refine AWp.keepTo [2,9,12,63,64,65] 0 ⟨[(2,tI v3),(9,tS v10.1),(12,tI (gD v1.f1 v13)),(63,q0 v1.f1),(64,tI (v1.f1.length:Int)),(65,tI v13)],[]⟩ ?_ z0 ?_
          ·kernel_rfl
          refine AWp.start [0] [1,2] [] [2,9,63,64,65,88] 0 ⟨[(2,tI v3),(9,tS v10.1),(63,q0 v1.f1),(64,tI (v1.f1.length:Int)),(65,tI v13),(88,tI (gD v1.f1 v13))],[]⟩ rfl ?_ z0 trivial ?_
          ·kernel_rfl
          obtain ⟨v18,hv18,h⟩:=of_bind h
          refine AOps.cons (AOne.callP (F:=(FF 97 0)) _ rfl rfl rfl _ rfl rfl _ _ rfl Try.call37 [tI (gD v1.f1 v13),tI (-1000000:Int),tI (1000000:Int)] rfl rfl (f37_ok (gD v1.f1 v13) (-1000000:Int) (1000000:Int) hv18) rfl) ?_
          refine AOps.go [2] [] [] [2,9,10,63,64,65] 0 ⟨[(2,tI v3),(9,tS v10.1),(10,tB v18),(63,q0 v1.f1),(64,tI (v1.f1.length:Int)),(65,tI v13)],[]⟩ ?_ z0 trivial ?_
          ·kernel_rfl
          refine AOps.nil ?_
          exact ⟨v18,h,rfl⟩
         ·replace h:=of_false h hb
          refine AWp.keepTo [2,9,10,12,63,64,65,72] 0 ⟨[(2,tI v3),(9,tS v10.1),(10,tB v12),(12,tI (gD v1.f1 v13)),(63,q0 v1.f1),(64,tI (v1.f1.length:Int)),(65,tI v13),(72,.tv (.int .u8 (((v10.1.getD v13.toNat 0).toNat:Nat):Int)))],[]⟩ ?_ z0 ?_
          ·kernel_rfl
          refine AWp.seq ?_
          refine AWp.start [0,1] [] [] [2,9,10,12,63,64,65,90] 0 ⟨[(2,tI v3),(9,tS v10.1),(10,tB v12),(12,tI (gD v1.f1 v13)),(63,q0 v1.f1),(64,tI (v1.f1.length:Int)),(65,tI v13),(90,tB ((((v10.1.getD v13.toNat 0).toNat:Nat):Int) == (119:Int)))],[]⟩ rfl ?_ z0 trivial ?_
          ·kernel_rfl
          refine AOps.nil ?_
          refine AWp.cond rfl (fun hb=>?_) fun hb=>?_
          ·replace h:=of_true h hb
           refine AWp.keepTo [2,9,12,63,64,65] 0 ⟨[(2,tI v3),(9,tS v10.1),(12,tI (gD v1.f1 v13)),(63,q0 v1.f1),(64,tI (v1.f1.length:Int)),(65,tI v13)],[]⟩ ?_ z0 ?_
           ·kernel_rfl
           refine AWp.start [0] [1,2] [] [2,9,63,64,65,92] 0 ⟨[(2,tI v3),(9,tS v10.1),(63,q0 v1.f1),(64,tI (v1.f1.length:Int)),(65,tI v13),(92,tI (gD v1.f1 v13))],[]⟩ rfl ?_ z0 trivial ?_
           ·kernel_rfl
           obtain ⟨v19,hv19,h⟩:=of_bind h
           refine AOps.cons (AOne.callP (F:=(FF 97 0)) _ rfl rfl rfl _ rfl rfl _ _ rfl Try.call37 [tI (gD v1.f1 v13),tI (1:Int),tI (9:Int)] rfl rfl (f37_ok (gD v1.f1 v13) (1:Int) (9:Int) hv19) rfl) ?_
           refine AOps.go [2] [] [] [2,9,10,63,64,65] 0 ⟨[(2,tI v3),(9,tS v10.1),(10,tB v19),(63,q0 v1.f1),(64,tI (v1.f1.length:Int)),(65,tI v13)],[]⟩ ?_ z0 trivial ?_
           ·kernel_rfl
           refine AOps.nil ?_
           exact ⟨v19,h,rfl⟩
          ·replace h:=of_false h hb
           refine AWp.keepTo [2,9,10,63,64,65] 0 ⟨[(2,tI v3),(9,tS v10.1),(10,tB v12),(63,q0 v1.f1),(64,tI (v1.f1.length:Int)),(65,tI v13)],[]⟩ ?_ z0 ?_
           ·kernel_rfl
           refine AWp.skip ?_
           exact ⟨v12,h,rfl⟩
     ·rintro v14 h
      refine AWp.seq ?_
      refine AWp.start [0,1] [] [] [2,9,10,63,64,65,95] 0 ⟨[(2,tI v3),(9,tS v10.1),(10,tB v14),(63,q0 v1.f1),(64,tI (v1.f1.length:Int)),(65,tI v13),(95,tB (!v14))],[]⟩ rfl ?_ z0 trivial ?_
      ·kernel_rfl
      refine AOps.nil ?_
      refine AWp.cond rfl (fun hb=>?_) fun hb=>?_
      ·replace h:=of_true h hb
       refine AWp.keepTo [] 0 ⟨[],[]⟩ ?_ z0 ?_
       ·kernel_rfl
       refine AWp.seq ?_
       refine AWp.start [0] [] [] [6] 0 ⟨[(6,tB false)],[]⟩ rfl ?_ z0 trivial ?_
       ·kernel_rfl
       refine AOps.nil ?_
       refine AWp.ret ?_
       cases h
       exact Or.inr ⟨_,rfl,by simp,rfl,rfl⟩
      ·replace h:=of_false h hb
       refine AWp.keepTo [2,9,10,63,64,65] 0 ⟨[(2,tI v3),(9,tS v10.1),(10,tB v14),(63,q0 v1.f1),(64,tI (v1.f1.length:Int)),(65,tI v13)],[]⟩ ?_ z0 ?_
       ·kernel_rfl
       refine AWp.skip ?_
       refine AWp.start [0,1] [] [] [2,9,10,63,64,65] 0 ⟨[(2,tI v3),(9,tS v10.1),(10,tB v14),(63,q0 v1.f1),(64,tI (v1.f1.length:Int)),(65,tI (w64 (v13 + (1:Int))))],[]⟩ rfl ?_ z0 trivial ?_
       ·kernel_rfl
       refine AOps.nil ?_
       cases h
       exact Or.inl ⟨_,rfl,rfl,rfl⟩
    ·replace h:=of_false h hb
     refine AWp.keepTo [] 0 ⟨[],[]⟩ ?_ z0 ?_
     ·kernel_rfl
     refine AWp.exit ?_
     cases h
     exact Or.inr ⟨_,rfl,by simp,rfl,rfl⟩
   ·intro e σ hp
    rcases y with v20 | _
    ·obtain ⟨rfl,rfl⟩:=hp
     cases h
     exact ⟨.inr rfl,rfl⟩
    ·obtain ⟨rfl,rfl⟩:=hp
     refine AWp.seq ?_
     refine AWp.start [0] [] [] [6] 0 ⟨[(6,tB true)],[]⟩ rfl ?_ z0 trivial ?_
     ·kernel_rfl
     refine AOps.nil ?_
     refine AWp.ret ?_
     cases h
     exact ⟨.inr rfl,rfl⟩

noncomputable def f35 (v1:T54) (v2:Int) (v3:List (List T54)):Option Bool :=
 (f36 v1 (w64 (v2 + (1:Int))) (v3.length:Int)).bind fun v4=>some (!v4)

theorem f35_ok (v1:T54) (v2:Int) (v3:List (List T54)) {r:Bool} (h:f35 v1 v2 v3 = some r):ACall Try.prog 35 [.agg [.str v1.f0,fzL 1 (cInt .i64) v1.f1,.str v1.f2],.rp [.int .i64 v2],.rp [fzL 1 (cSl 3 c54) v3]] [] (.tv (.bool r)) []:=by
 refine ACall.of1 (FF 12 0) Try.func35 rfl Try.ntmps35 Try.results35 (zz rfl) rfl rfl ?_
 refine AWp.seq ?_
 refine AWp.start [0,1] [] [] [1,2,3] 1 ⟨[(1,.rp [.int .i64 v2]),(2,.rp [fzL 1 (cSl 3 c54) v3]),(3,.pc 0 0)],[.cells 55 (c54 v1)]⟩ rfl ?_ z0 trivial ?_
 ·kernel_rfl
 refine AOps.nil ?_
 refine AWp.seq ?_
 refine AWp.pin 0 rfl rfl ?_
 refine AWp.keepTo [1,2,3] 0 ⟨[(1,.rp [.int .i64 v2]),(2,.rp [fzL 1 (cSl 3 c54) v3]),(3,.rp (c54 v1))],[]⟩ ?_ z0 ?_
 ·kernel_rfl
 refine AWp.start [0,1,2,3,4] [5,6,7] [] [5,7,9] 0 ⟨[(5,.agg (c54 v1)),(7,tI (w64 (v2 + (1:Int)))),(9,tI (v3.length:Int))],[]⟩ rfl ?_ z0 trivial ?_
 ·kernel_rfl
 obtain ⟨v4,hv4,h⟩:=of_bind h
 refine AOps.cons (AOne.callP (F:=(FF 12 0)) _ rfl rfl rfl _ rfl rfl _ _ rfl Try.call36 [.agg (c54 v1),tI (w64 (v2 + (1:Int))),tI (v3.length:Int)] rfl rfl (f36_ok v1 (w64 (v2 + (1:Int))) (v3.length:Int) hv4) rfl) ?_
 refine AOps.go [6,7] [] [] [4] 0 ⟨[(4,tB (!v4))],[]⟩ ?_ z0 trivial ?_
 ·kernel_rfl
 refine AOps.nil ?_
 refine AWp.ret ?_
 cases h
 exact ⟨.inr rfl,rfl⟩

noncomputable def f72_35_b1 (v1:List T54) (v2:Int) (v3:List (List T54)) (v4:Int):Option (Int ⊕ Out Int Unit) :=
 cond (decide (v4 < (v1.length:Int))) (if (0:Int) ≤ v4 ∧ v4 < (v1.length:Int) then (f35 (v1.getD v4.toNat default) v2 v3).bind fun v5=>cond v5 (some (.inr (.ret v4))) (some (.inl (w64 (v4 + (1:Int))))) else none) (some (.inr (.go ())))

noncomputable def f72_35 (v1:List T54) (v2:Int) (v3:List (List T54)):Option Int :=
 (iter (fun s=>f72_35_b1 v1 v2 v3 s) (0:Int)).bind fun y=>match y with | .ret v6=>some v6 | .go _=>some (-1:Int)

theorem f72_35_ok (v1:List T54) (v2:Int) (v3:List (List T54)) {r:Int} (h:f72_35 v1 v2 v3 = some r):ACall Try.prog 72 [.tv (fzL 3 c54 v1),.fn 35 [.rp [.int .i64 v2],.rp [fzL 1 (cSl 3 c54) v3]]] [] (.tv (.int .i64 r)) []:=by
 refine ACall.of1 (FF 19 0) Try.func72 rfl Try.ntmps72 Try.results72 (zz rfl) rfl rfl ?_
 refine AWp.seq ?_
 refine AWp.start [0] [] [] [0,1] 0 ⟨[(0,q2 v1),(1,.fn 35 [.rp [.int .i64 v2],.rp [fzL 1 (cSl 3 c54) v3]])],[]⟩ rfl ?_ z0 trivial ?_
 ·kernel_rfl
 refine AOps.nil ?_
 refine AWp.seq ?_
 refine AWp.seq ?_
 refine AWp.start [0,1,2] [] [] [0,1,7,8] 0 ⟨[(0,q2 v1),(1,.fn 35 [.rp [.int .i64 v2],.rp [fzL 1 (cSl 3 c54) v3]]),(7,tI (v1.length:Int)),(8,tI (0:Int))],[]⟩ rfl ?_ z0 trivial ?_
 ·kernel_rfl
 refine AOps.nil ?_
 refine AWp.block ?_
 obtain ⟨y,hy,h⟩:=of_bind h
 refine AWp.mono (AWp.loop (S:=Int) (Y:=Out Int Unit) (fun s=>⟨[(0,q2 v1),(1,.fn 35 [.rp [.int .i64 v2],.rp [fzL 1 (cSl 3 c54) v3]]),(7,tI (v1.length:Int)),(8,tI s)],[]⟩) (fun s=>f72_35_b1 v1 v2 v3 s) (fun y e σ=>match y with | .ret r=>e = .ret ∧ σ = ⟨[(4,tI r)],[]⟩ | .go v=>e = .exit 0 ∧ σ = ⟨[],[]⟩) ?_ hy) ?_
 ·rintro v4 o h
  refine AWp.seq ?_
  refine AWp.start [0] [] [] [0,1,7,8,9] 0 ⟨[(0,q2 v1),(1,.fn 35 [.rp [.int .i64 v2],.rp [fzL 1 (cSl 3 c54) v3]]),(7,tI (v1.length:Int)),(8,tI v4),(9,tB (decide (v4 < (v1.length:Int))))],[]⟩ rfl ?_ z0 trivial ?_
  ·kernel_rfl
  refine AOps.nil ?_
  refine AWp.seq ?_
  refine AWp.cond rfl (fun hb=>?_) fun hb=>?_
  ·replace h:=of_true h hb
   refine AWp.keepTo [0,1,7,8] 0 ⟨[(0,q2 v1),(1,.fn 35 [.rp [.int .i64 v2],.rp [fzL 1 (cSl 3 c54) v3]]),(7,tI (v1.length:Int)),(8,tI v4)],[]⟩ ?_ z0 ?_
   ·kernel_rfl
   refine AWp.skip ?_
   refine AWp.seq ?_
   refine AWp.block ?_
   refine AWp.seq ?_
   refine AWp.start [0,1] [] [] [0,1,5,7,8] 0 ⟨[(0,q2 v1),(1,.fn 35 [.rp [.int .i64 v2],.rp [fzL 1 (cSl 3 c54) v3]]),(5,tI v4),(7,tI (v1.length:Int)),(8,tI v4)],[]⟩ rfl ?_ z0 trivial ?_
   ·kernel_rfl
   refine AOps.nil ?_
   refine AWp.seq ?_
   obtain ⟨hg,h⟩:=of_guard h
   refine AWp.start [0,1,2,3,4] [5] [(0:Int) ≤ v4,v4 < (v1.length:Int)] [0,1,5,7,8,11,15] 0 ⟨[(0,q2 v1),(1,.fn 35 [.rp [.int .i64 v2],.rp [fzL 1 (cSl 3 c54) v3]]),(5,tI v4),(7,tI (v1.length:Int)),(8,tI v4),(11,.fn 35 [.rp [.int .i64 v2],.rp [fzL 1 (cSl 3 c54) v3]]),(15,.agg (c54 (gD v1 v4)))],[]⟩ rfl ?_ z0 ⟨hg.1,hg.2⟩ ?_
   ·kernel_rfl
   obtain ⟨v5,hv5,h⟩:=of_bind h
   refine AOps.cons (AOne.callP (F:=(FF 19 0)) _ rfl rfl rfl _ rfl rfl _ _ rfl Try.call35 [.agg (c54 (gD v1 v4)),.rp [.int .i64 v2],.rp [fzL 1 (cSl 3 c54) v3]] rfl rfl (f35_ok (gD v1 v4) v2 v3 hv5) rfl) ?_
   refine AOps.keepTo [0,1,5,7,8,16] 0 ⟨[(0,q2 v1),(1,.fn 35 [.rp [.int .i64 v2],.rp [fzL 1 (cSl 3 c54) v3]]),(5,tI v4),(7,tI (v1.length:Int)),(8,tI v4),(16,tB v5)],[]⟩ ?_ z0 ?_
   ·kernel_rfl
   refine AOps.nil ?_
   refine AWp.cond rfl (fun hb=>?_) fun hb=>?_
   ·replace h:=of_true h hb
    refine AWp.keepTo [5] 0 ⟨[(5,tI v4)],[]⟩ ?_ z0 ?_
    ·kernel_rfl
    refine AWp.seq ?_
    refine AWp.start [0,1] [] [] [4] 0 ⟨[(4,tI v4)],[]⟩ rfl ?_ z0 trivial ?_
    ·kernel_rfl
    refine AOps.nil ?_
    refine AWp.ret ?_
    cases h
    exact Or.inr ⟨_,rfl,by simp,rfl,rfl⟩
   ·replace h:=of_false h hb
    refine AWp.keepTo [0,1,7,8] 0 ⟨[(0,q2 v1),(1,.fn 35 [.rp [.int .i64 v2],.rp [fzL 1 (cSl 3 c54) v3]]),(7,tI (v1.length:Int)),(8,tI v4)],[]⟩ ?_ z0 ?_
    ·kernel_rfl
    refine AWp.skip ?_
    refine AWp.start [0,1] [] [] [0,1,7,8] 0 ⟨[(0,q2 v1),(1,.fn 35 [.rp [.int .i64 v2],.rp [fzL 1 (cSl 3 c54) v3]]),(7,tI (v1.length:Int)),(8,tI (w64 (v4 + (1:Int))))],[]⟩ rfl ?_ z0 trivial ?_
    ·kernel_rfl
    refine AOps.nil ?_
    cases h
    exact Or.inl ⟨_,rfl,rfl,rfl⟩
  ·replace h:=of_false h hb
   refine AWp.keepTo [] 0 ⟨[],[]⟩ ?_ z0 ?_
   ·kernel_rfl
   refine AWp.exit ?_
   cases h
   exact Or.inr ⟨_,rfl,by simp,rfl,rfl⟩
 ·intro e σ hp
  rcases y with v6 | _
  ·obtain ⟨rfl,rfl⟩:=hp
   cases h
   exact ⟨.inr rfl,rfl⟩
  ·obtain ⟨rfl,rfl⟩:=hp
   refine AWp.seq ?_
   refine AWp.start [0] [] [] [4] 0 ⟨[(4,tI (-1:Int))],[]⟩ rfl ?_ z0 trivial ?_
   ·kernel_rfl
   refine AOps.nil ?_
   refine AWp.ret ?_
   cases h
   exact ⟨.inr rfl,rfl⟩

noncomputable def f34_35 (v1:List T54) (v2:Int) (v3:List (List T54)):Option Bool :=
 (f72_35 v1 v2 v3).bind fun v4=>some (decide (v4 ≥ (0:Int)))

theorem f34_35_ok (v1:List T54) (v2:Int) (v3:List (List T54)) {r:Bool} (h:f34_35 v1 v2 v3 = some r):ACall Try.prog 34 [.tv (fzL 3 c54 v1),.fn 35 [.rp [.int .i64 v2],.rp [fzL 1 (cSl 3 c54) v3]]] [] (.tv (.bool r)) []:=by
 refine ACall.of1 (FF 9 0) Try.func34 rfl Try.ntmps34 Try.results34 (zz rfl) rfl rfl ?_
 refine AWp.seq ?_
 refine AWp.start [0] [] [] [0,1] 0 ⟨[(0,q2 v1),(1,.fn 35 [.rp [.int .i64 v2],.rp [fzL 1 (cSl 3 c54) v3]])],[]⟩ rfl ?_ z0 trivial ?_
 ·kernel_rfl
 refine AOps.nil ?_
 refine AWp.seq ?_
 refine AWp.start [0,1] [2,3,4] [] [5,6] 0 ⟨[(5,q2 v1),(6,.fn 35 [.rp [.int .i64 v2],.rp [fzL 1 (cSl 3 c54) v3]])],[]⟩ rfl ?_ z0 trivial ?_
 ·kernel_rfl
 obtain ⟨v4,hv4,h⟩:=of_bind h
 refine AOps.cons (AOne.callP (F:=(FF 9 0)) _ rfl rfl rfl _ rfl rfl _ _ rfl Try.call72 [q2 v1,.fn 35 [.rp [.int .i64 v2],.rp [fzL 1 (cSl 3 c54) v3]]] rfl rfl (f72_35_ok v1 v2 v3 hv4) rfl) ?_
 refine AOps.go [3,4] [] [] [4] 0 ⟨[(4,tB (decide (v4 ≥ (0:Int))))],[]⟩ ?_ z0 trivial ?_
 ·kernel_rfl
 refine AOps.nil ?_
 refine AWp.ret ?_
 cases h
 exact ⟨.inr rfl,rfl⟩

noncomputable def f14_b1 (v1:List (List T54)) (v2:Int):Option (Int ⊕ Out Bool Unit) :=
 cond (decide (v2 < (v1.length:Int))) (if (0:Int) ≤ v2 ∧ v2 < (v1.length:Int) then (cond (decide (((v1.getD v2.toNat default).length:Int) > (60:Int))) (some true) ((f34_35 (v1.getD v2.toNat default) v2 v1).bind fun v4=>some v4)).bind fun v3=>cond v3 (some (.inr (.ret false))) (some (.inl (w64 (v2 + (1:Int))))) else none) (some (.inr (.go ())))

noncomputable def f14 (v1:List (List T54)):Option Bool :=
 (iter (fun s=>f14_b1 v1 s) (0:Int)).bind fun y=>match y with | .ret v5=>some v5 | .go _=>(f37 (v1.length:Int) (1:Int) (8:Int)).bind fun v6=>some v6

theorem f14_ok (v1:List (List T54)) {r:Bool} (h:f14 v1 = some r):ACall Try.prog 14 [.tv (fzL 1 (cSl 3 c54) v1)] [] (.tv (.bool r)) []:=by
 refine ACall.of1 (FF 24 0) Try.func14 rfl Try.ntmps14 Try.results14 (zz rfl) rfl rfl ?_
 refine AWp.seq ?_
 refine AWp.start [0,1] [] [] [1] 1 ⟨[(1,.pc 0 0)],[.cells 22 [fzL 1 (cSl 3 c54) v1]]⟩ rfl ?_ z0 trivial ?_
 ·kernel_rfl
 refine AOps.nil ?_
 refine AWp.seq ?_
 refine AWp.seq ?_
 refine AWp.pin 0 rfl rfl ?_
 refine AWp.keepTo [1] 0 ⟨[(1,.rp [fzL 1 (cSl 3 c54) v1])],[]⟩ ?_ z0 ?_
 ·kernel_rfl
 refine AWp.start [0,1,2] [] [] [1,5,6,7] 0 ⟨[(1,.rp [fzL 1 (cSl 3 c54) v1]),(5,.tv (fzL 1 (cSl 3 c54) v1)),(6,tI (v1.length:Int)),(7,tI (0:Int))],[]⟩ rfl ?_ z0 trivial ?_
 ·kernel_rfl
 refine AOps.nil ?_
 refine AWp.block ?_
 obtain ⟨y,hy,h⟩:=of_bind h
 refine AWp.mono (AWp.loop (S:=Int) (Y:=Out Bool Unit) (fun s=>⟨[(1,.rp [fzL 1 (cSl 3 c54) v1]),(5,.tv (fzL 1 (cSl 3 c54) v1)),(6,tI (v1.length:Int)),(7,tI s)],[]⟩) (fun s=>f14_b1 v1 s) (fun y e σ=>match y with | .ret r=>e = .ret ∧ σ = ⟨[(2,tB r)],[]⟩ | .go v=>e = .exit 0 ∧ σ = ⟨[(1,.rp [fzL 1 (cSl 3 c54) v1])],[]⟩) ?_ hy) ?_
 ·rintro v2 o h
  refine AWp.seq ?_
  refine AWp.start [0] [] [] [1,5,6,7,8] 0 ⟨[(1,.rp [fzL 1 (cSl 3 c54) v1]),(5,.tv (fzL 1 (cSl 3 c54) v1)),(6,tI (v1.length:Int)),(7,tI v2),(8,tB (decide (v2 < (v1.length:Int))))],[]⟩ rfl ?_ z0 trivial ?_
  ·kernel_rfl
  refine AOps.nil ?_
  refine AWp.seq ?_
  refine AWp.cond rfl (fun hb=>?_) fun hb=>?_
  ·replace h:=of_true h hb
   refine AWp.keepTo [1,5,6,7] 0 ⟨[(1,.rp [fzL 1 (cSl 3 c54) v1]),(5,.tv (fzL 1 (cSl 3 c54) v1)),(6,tI (v1.length:Int)),(7,tI v2)],[]⟩ ?_ z0 ?_
   ·kernel_rfl
   refine AWp.skip ?_
   refine AWp.seq ?_
   refine AWp.block ?_
   refine AWp.seq ?_
   obtain ⟨hg,h⟩:=of_guard h
   refine AWp.start [0,1,2,3,4,5] [] [(0:Int) ≤ v2,v2 < (v1.length:Int)] [1,3,4,5,6,7] 1 ⟨[(1,.rp [fzL 1 (cSl 3 c54) v1]),(3,.pc 0 0),(4,q2 (gD v1 v2)),(5,.tv (fzL 1 (cSl 3 c54) v1)),(6,tI (v1.length:Int)),(7,tI v2)],[.cells 3 [.int .i64 v2]]⟩ rfl ?_ z0 ⟨hg.1,hg.2⟩ ?_
   ·kernel_rfl
   refine AOps.nil ?_
   refine AWp.seq ?_
   refine AWp.pin 0 rfl rfl ?_
   refine AWp.keepTo [1,3,4,5,6,7] 0 ⟨[(1,.rp [fzL 1 (cSl 3 c54) v1]),(3,.rp [.int .i64 v2]),(4,q2 (gD v1 v2)),(5,.tv (fzL 1 (cSl 3 c54) v1)),(6,tI (v1.length:Int)),(7,tI v2)],[]⟩ ?_ z0 ?_
   ·kernel_rfl
   refine AWp.start [0,1,2,3] [4,5,6,7] [] [1,3,4,5,6,7,15] 0 ⟨[(1,.rp [fzL 1 (cSl 3 c54) v1]),(3,.rp [.int .i64 v2]),(4,q2 (gD v1 v2)),(5,.tv (fzL 1 (cSl 3 c54) v1)),(6,tI (v1.length:Int)),(7,tI v2),(15,tB (decide (((gD v1 v2).length:Int) > (60:Int))))],[]⟩ rfl ?_ z0 trivial ?_
   ·kernel_rfl
   obtain ⟨v3,hc4,h⟩:=of_bind h
   refine AOps.cut [4,5,6,7] [] (fun σ=>σ = ⟨[(1,.rp [fzL 1 (cSl 3 c54) v1]),(5,.tv (fzL 1 (cSl 3 c54) v1)),(6,tI (v1.length:Int)),(7,tI v2),(19,tB v3)],[]⟩) ?_ fun σ' hJ=>?_
   ·refine AOps.split (fun b=>⟨[(1,.rp [fzL 1 (cSl 3 c54) v1]),(3,.rp [.int .i64 v2]),(4,q2 (gD v1 v2)),(5,.tv (fzL 1 (cSl 3 c54) v1)),(6,tI (v1.length:Int)),(7,tI v2),(15,tB b)],[]⟩) _ (fun hb=>?_) fun hb=>?_
    ·replace hc4:=of_true hc4 hb
     refine AOps.go [4,5,6,7] [] [] [1,5,6,7,19] 0 ⟨[(1,.rp [fzL 1 (cSl 3 c54) v1]),(5,.tv (fzL 1 (cSl 3 c54) v1)),(6,tI (v1.length:Int)),(7,tI v2),(19,tB true)],[]⟩ ?_ z0 trivial ?_
     ·kernel_rfl
     cases hc4
     exact AOps.nil rfl
    ·replace hc4:=of_false hc4 hb
     refine AOps.go [4,5] [6,7] [] [1,5,6,7,15,16,17] 0 ⟨[(1,.rp [fzL 1 (cSl 3 c54) v1]),(5,.tv (fzL 1 (cSl 3 c54) v1)),(6,tI (v1.length:Int)),(7,tI v2),(15,tB false),(16,q2 (gD v1 v2)),(17,.fn 35 [.rp [.int .i64 v2],.rp [fzL 1 (cSl 3 c54) v1]])],[]⟩ ?_ z0 trivial ?_
     ·kernel_rfl
     obtain ⟨v4,hv4,hc4⟩:=of_bind hc4
     refine AOps.cons (AOne.callP (F:=(FF 24 0)) _ rfl rfl rfl _ rfl rfl _ _ rfl Try.call34 [q2 (gD v1 v2),.fn 35 [.rp [.int .i64 v2],.rp [fzL 1 (cSl 3 c54) v1]]] rfl rfl (f34_35_ok (gD v1 v2) v2 v1 hv4) rfl) ?_
     refine AOps.go [7] [] [] [1,5,6,7,19] 0 ⟨[(1,.rp [fzL 1 (cSl 3 c54) v1]),(5,.tv (fzL 1 (cSl 3 c54) v1)),(6,tI (v1.length:Int)),(7,tI v2),(19,tB v4)],[]⟩ ?_ z0 trivial ?_
     ·kernel_rfl
     cases hc4
     exact AOps.nil rfl
   subst hJ
   refine AOps.nil ?_
   refine AWp.cond rfl (fun hb=>?_) fun hb=>?_
   ·replace h:=of_true h hb
    refine AWp.keepTo [] 0 ⟨[],[]⟩ ?_ z0 ?_
    ·kernel_rfl
    refine AWp.seq ?_
    refine AWp.start [0] [] [] [2] 0 ⟨[(2,tB false)],[]⟩ rfl ?_ z0 trivial ?_
    ·kernel_rfl
    refine AOps.nil ?_
    refine AWp.ret ?_
    cases h
    exact Or.inr ⟨_,rfl,by simp,rfl,rfl⟩
   ·replace h:=of_false h hb
    refine AWp.keepTo [1,5,6,7] 0 ⟨[(1,.rp [fzL 1 (cSl 3 c54) v1]),(5,.tv (fzL 1 (cSl 3 c54) v1)),(6,tI (v1.length:Int)),(7,tI v2)],[]⟩ ?_ z0 ?_
    ·kernel_rfl
    refine AWp.skip ?_
    refine AWp.start [0,1] [] [] [1,5,6,7] 0 ⟨[(1,.rp [fzL 1 (cSl 3 c54) v1]),(5,.tv (fzL 1 (cSl 3 c54) v1)),(6,tI (v1.length:Int)),(7,tI (w64 (v2 + (1:Int))))],[]⟩ rfl ?_ z0 trivial ?_
    ·kernel_rfl
    refine AOps.nil ?_
    cases h
    exact Or.inl ⟨_,rfl,rfl,rfl⟩
  ·replace h:=of_false h hb
   refine AWp.keepTo [1] 0 ⟨[(1,.rp [fzL 1 (cSl 3 c54) v1])],[]⟩ ?_ z0 ?_
   ·kernel_rfl
   refine AWp.exit ?_
   cases h
   exact Or.inr ⟨_,rfl,by simp,rfl,rfl⟩
 ·intro e σ hp
  rcases y with v5 | _
  ·obtain ⟨rfl,rfl⟩:=hp
   cases h
   exact ⟨.inr rfl,rfl⟩
  ·obtain ⟨rfl,rfl⟩:=hp
   refine AWp.seq ?_
   refine AWp.start [0,1] [2,3] [] [22] 0 ⟨[(22,tI (v1.length:Int))],[]⟩ rfl ?_ z0 trivial ?_
   ·kernel_rfl
   obtain ⟨v6,hv6,h⟩:=of_bind h
   refine AOps.cons (AOne.callP (F:=(FF 24 0)) _ rfl rfl rfl _ rfl rfl _ _ rfl Try.call37 [tI (v1.length:Int),tI (1:Int),tI (8:Int)] rfl rfl (f37_ok (v1.length:Int) (1:Int) (8:Int) hv6) rfl) ?_
   refine AOps.go [3] [] [] [2] 0 ⟨[(2,tB v6)],[]⟩ ?_ z0 trivial ?_
   ·kernel_rfl
   refine AOps.nil ?_
   refine AWp.ret ?_
   cases h
   exact ⟨.inr rfl,rfl⟩

noncomputable def f31 (v1:List Int):Option (List Int) :=
 if (([]:List Int).length + v1.length) * 8 ≤ 140737488355328 then some (([]:List Int) ++ v1) else none

theorem f31_ok (v1:List Int) {r:(List Int)} (h:f31 v1 = some r):ACall Try.prog 31 [.tv (fzL 1 (cInt .i64) v1)] [] (.tv (ownL 1 3 (cInt .i64) r)) []:=by
 refine ACall.of1 (FF 8 0) Try.func31 rfl Try.ntmps31 Try.results31 (zz rfl) rfl rfl ?_
 refine AWp.seq ?_
 refine AWp.start [0] [] [] [0] 0 ⟨[(0,q0 v1)],[]⟩ rfl ?_ z0 trivial ?_
 ·kernel_rfl
 refine AOps.nil ?_
 refine AWp.seq ?_
 refine AWp.seq ?_
 refine AWp.start [0] [1] [] [0,3] 0 ⟨[(0,q0 v1),(3,q0 v1)],[]⟩ rfl ?_ z0 trivial ?_
 ·kernel_rfl
 refine AOps.nilEq (F:=(FF 8 0)) _ rfl rfl 4 rfl rfl rfl rfl v1.length rfl fun v2 hnil=>?_
 refine AOps.keepTo [0,4] 0 ⟨[(0,q0 v1),(4,tB v2)],[]⟩ ?_ z0 ?_
 ·kernel_rfl
 refine AOps.nil ?_
 refine AWp.cond rfl (fun hb=>?_) fun hb=>?_
 ·have hz:=List.eq_nil_of_length_eq_zero (hnil hb)
  subst hz
  have h2:(if (([]:List Int).length + ([]:List Int).length) * 8 ≤ 140737488355328 then some (([]:List Int) ++ ([]:List Int)) else none) = some r:=h
  replace h:(some ([]:List Int)) = some r:=by simpa using h2
  refine AWp.keepTo [] 0 ⟨[],[]⟩ ?_ z0 ?_
  ·kernel_rfl
  refine AWp.seq ?_
  refine AWp.start [0] [] [] [2] 0 ⟨[(2,.tv (.sc (.slice none 0 0)))],[]⟩ rfl ?_ z0 trivial ?_
  ·kernel_rfl
  refine AOps.nil ?_
  refine AWp.nilOwn 2 1 3 (fun i=>(cInt .i64) (([]:List Int).getD i default)) rfl ?_
  refine AWp.keepTo [2] 0 ⟨[(2,q1 ([]:List Int))],[]⟩ ?_ z0 ?_
  ·kernel_rfl
  refine AWp.ret ?_
  cases h
  exact ⟨.inr rfl,rfl⟩
 ·refine AWp.keepTo [0] 0 ⟨[(0,q0 v1)],[]⟩ ?_ z0 ?_
  ·kernel_rfl
  refine AWp.skip ?_
  refine AWp.seq ?_
  refine AWp.start [0] [1,2,3] [] [0,5] 0 ⟨[(0,q0 v1),(5,.tv (.own 1 3 0 (newRowF [] 1)))],[]⟩ rfl ?_ z0 trivial ?_
  ·kernel_rfl
  refine AOps.extL 5 (cInt .i64) ([]:List Int) rfl rfl (row_at (cInt .i64) 1 (fun _=>rfl) ([]:List Int) _ rfl) ?_
  obtain ⟨hg,h⟩:=of_guard h
  refine AOps.go [1,2] [3] [(([]:List Int).length + v1.length) * 8 ≤ 140737488355328,PlainTo (([]:List Int).length) (fun i=>(cInt .i64) (([]:List Int).getD i default)),PlainTo v1.length (fun i=>(cInt .i64) (v1.getD i default))] [7] 0 ⟨[(7,.tv (.own 1 3 (([]:List Int).length + v1.length) (appF (([]:List Int).length) (fun i=>(cInt .i64) (([]:List Int).getD i default)) (fun i=>(cInt .i64) (v1.getD i default)))))],[]⟩ ?_ z0 ⟨hg,(fun _ _=>rfl),(fun _ _=>rfl)⟩ ?_
  ·kernel_rfl
  refine AOps.extL 7 (cInt .i64) (([]:List Int) ++ v1) rfl List.length_append.symm (app_at (cInt .i64) ([]:List Int) v1) ?_
  refine AOps.go [3] [] [] [2] 0 ⟨[(2,q1 (([]:List Int) ++ v1))],[]⟩ ?_ z0 trivial ?_
  ·kernel_rfl
  refine AOps.nil ?_
  refine AWp.ret ?_
  cases h
  exact ⟨.inr rfl,rfl⟩

abbrev hp5 (v4:List T60) (v7:List T54):List AObj:=[.cells 51 [k0 v4,.int .i64 (0:Int),nS],.cells 61 [ownL 3 55 c54 v7,.int .i64 (0:Int),.str ([114,117,110,115]:List UInt8),.int .i64 (0:Int),.int .i64 (0:Int),.int .i64 (0:Int),.int .i64 (0:Int),.int .i64 (0:Int),.int .i64 (0:Int),.int .i64 (0:Int),.int .i64 (0:Int),.int .i64 (0:Int),.int .i64 (0:Int),.int .i64 (0:Int),.int .i64 (0:Int),.int .i64 (0:Int),.int .i64 (0:Int),.int .i64 (0:Int),.int .i64 (0:Int),.int .i64 (0:Int),.int .i64 (0:Int),.int .i64 (0:Int),.int .i64 (0:Int),.int .i64 (0:Int),.int .i64 (0:Int),nS,.mp .i64 (some .i64) ([]:List (Int × Int))]]
abbrev hp6 (v4:List T60) (v8:List T54):List AObj:=[.cells 51 [k0 (v4 ++ [T60.mk v8 (0:Int) ([114,117,110,115]:List UInt8) ([]:List Int) ([]:List Int) ([]:List Int) ([]:List Int) ([]:List Int) (some ([]:List (Int × Int)))]),.int .i64 (0:Int),nS]]

noncomputable def f12_b1 (v1:List (List T54)) (v3:Int) (v6:Int) (v7:List T54):Option ((Int × (List T54)) ⊕ Out ((Option T50) × Int) (List T54)) :=
 cond (decide (v6 < ((v1.getD v3.toNat default).length:Int))) (if (0:Int) ≤ v6 ∧ v6 < ((v1.getD v3.toNat default).length:Int) then (f31 (((v1.getD v3.toNat default).getD v6.toNat default).f1)).bind fun v9=>if (v7.length + [T54.mk (((v1.getD v3.toNat default).getD v6.toNat default).f0) v9 (((v1.getD v3.toNat default).getD v6.toNat default).f2)].length) * 56 ≤ 140737488355328 then some (.inl (w64 (v6 + (1:Int)),v7 ++ [T54.mk (((v1.getD v3.toNat default).getD v6.toNat default).f0) v9 (((v1.getD v3.toNat default).getD v6.toNat default).f2)])) else none else none) (some (.inr (.go v7)))

noncomputable def f12_b2 (v1:List (List T54)) (v3:Int) (v4:List T60):Option ((Int × (List T60)) ⊕ Out ((Option T50) × Int) (List T60)) :=
 cond (decide (v3 < (v1.length:Int))) (if (0:Int) ≤ v3 ∧ v3 < (v1.length:Int) then (iter (fun s=>f12_b1 v1 v3 s.1 s.2) ((0:Int),[])).bind fun y=>match y with | .ret v10=>some (.inr (.ret v10)) | .go v8=>if (v4.length + 1) * 256 ≤ 140737488355328 then some (.inl (w64 (v3 + (1:Int)),v4 ++ [T60.mk v8 (0:Int) ([114,117,110,115]:List UInt8) ([]:List Int) ([]:List Int) ([]:List Int) ([]:List Int) ([]:List Int) (some ([]:List (Int × Int)))])) else none else none) (some (.inr (.go v4)))

noncomputable def f12 (v1:List (List T54)):Option ((Option T50) × Int) :=
 (f14 v1).bind fun v2=>cond (!v2) (some (none,(2:Int))) (if (256:Int) * (1:Int) ≤ 281474976710656 ∧ (1:Int) ≤ 9223372036854775807 then (iter (fun s=>f12_b2 v1 s.1 s.2) ((0:Int),List.replicate 1 (T60.mk ([]:List T54) (0:Int) ([]:List UInt8) ([]:List Int) ([]:List Int) ([]:List Int) ([]:List Int) ([]:List Int) none))).bind fun y=>match y with | .ret v11=>some v11 | .go v5=>(f32o (T50.mk v5 (0:Int) ([]:List T43))).bind fun v12=>some (some (T50.mk v12.f0 v12.f1 v12.f2),(0:Int)) else none)

theorem f12_ok (v1:List (List T54)) {r:(Option T50) × Int} (h:f12 v1 = some r):ACall Try.prog 12 [.tv (fzL 1 (cSl 3 c54) v1)] [] (.tup [(match r.1 with | none=>.tv (.sc (.pointer none)) | some _=>.pc 0 0),.tv (.int .i64 r.2)]) ([] ++ (match r.1 with | none=>[] | some u=>[.cells 51 [ownL 27 61 o60 u.f0,.int .i64 u.f1,ownL 2 44 c43 u.f2]])):=by
 refine ACall.ofN (FF 55 0) (rs:=[2,3]) (env:=[(2,(match r.1 with | none=>.tv (.sc (.pointer none)) | some _=>.pc 0 0)),(3,tI r.2)]) Try.func12 rfl Try.ntmps12 Try.results12 (by decide) (by decide) rfl (zz rfl) rfl (get_ofN _ _ _ rfl) (ok_ofN _ (by obtain ⟨r,r2⟩:=r; cases r <;> rfl)) ?_
 refine AWp.seq ?_
 refine AWp.start [0,1] [] [] [0] 0 ⟨[(0,.tv (fzL 1 (cSl 3 c54) v1))],[]⟩ rfl ?_ z0 trivial ?_
 ·kernel_rfl
 refine AOps.nil ?_
 refine AWp.seq ?_
 refine AWp.seq ?_
 refine AWp.start [0] [1,2] [] [0,10] 0 ⟨[(0,.tv (fzL 1 (cSl 3 c54) v1)),(10,.tv (fzL 1 (cSl 3 c54) v1))],[]⟩ rfl ?_ z0 trivial ?_
 ·kernel_rfl
 obtain ⟨v2,hv2,h⟩:=of_bind h
 refine AOps.cons (AOne.callP (F:=(FF 55 0)) _ rfl rfl rfl _ rfl rfl _ _ rfl Try.call14 [.tv (fzL 1 (cSl 3 c54) v1)] rfl rfl (f14_ok v1 hv2) rfl) ?_
 refine AOps.go [2] [] [] [0,12] 0 ⟨[(0,.tv (fzL 1 (cSl 3 c54) v1)),(12,tB (!v2))],[]⟩ ?_ z0 trivial ?_
 ·kernel_rfl
 refine AOps.nil ?_
 refine AWp.cond rfl (fun hb=>?_) fun hb=>?_
 ·replace h:=of_true h hb
  refine AWp.keepTo [] 0 ⟨[],[]⟩ ?_ z0 ?_
  ·kernel_rfl
  refine AWp.seq ?_
  refine AWp.start [0,1] [] [] [2,3] 0 ⟨[(2,.tv (.sc (.pointer none))),(3,tI (2:Int))],[]⟩ rfl ?_ z0 trivial ?_
  ·kernel_rfl
  refine AOps.nil ?_
  refine AWp.ret ?_
  cases h
  exact ⟨.inr rfl,rfl⟩
 ·replace h:=of_false h hb
  refine AWp.keepTo [0] 0 ⟨[(0,.tv (fzL 1 (cSl 3 c54) v1))],[]⟩ ?_ z0 ?_
  ·kernel_rfl
  refine AWp.skip ?_
  refine AWp.seq ?_
  obtain ⟨hg,h⟩:=of_guard h
  refine AWp.start [0] [1,2,3] [(1:Int) = (1:Int),(0:Int) ≤ (1:Int),(256:Int) * (1:Int) ≤ 281474976710656,(1:Int) ≤ 9223372036854775807] [0,13] 0 ⟨[(0,.tv (fzL 1 (cSl 3 c54) v1)),(13,.tv (.own 27 61 1 (zerosF [nS,.int .i64 (0:Int),.str ([]:List UInt8),.int .i64 (0:Int),.int .i64 (0:Int),.int .i64 (0:Int),.int .i64 (0:Int),.int .i64 (0:Int),.int .i64 (0:Int),.int .i64 (0:Int),.int .i64 (0:Int),.int .i64 (0:Int),.int .i64 (0:Int),.int .i64 (0:Int),.int .i64 (0:Int),.int .i64 (0:Int),.int .i64 (0:Int),.int .i64 (0:Int),.int .i64 (0:Int),.int .i64 (0:Int),.int .i64 (0:Int),.int .i64 (0:Int),.int .i64 (0:Int),.int .i64 (0:Int),.int .i64 (0:Int),nS,.sc (.map none)])))],[]⟩ rfl ?_ z0 ⟨rfl,(by decide:(0:Int) ≤ (1:Int)),hg.1,hg.2⟩ ?_
  ·kernel_rfl
  refine AOps.nilZeros 13 (cs':=[k6 ([]:List T54),.int .i64 (0:Int),.str ([]:List UInt8),.int .i64 (0:Int),.int .i64 (0:Int),.int .i64 (0:Int),.int .i64 (0:Int),.int .i64 (0:Int),.int .i64 (0:Int),.int .i64 (0:Int),.int .i64 (0:Int),.int .i64 (0:Int),.int .i64 (0:Int),.int .i64 (0:Int),.int .i64 (0:Int),.int .i64 (0:Int),.int .i64 (0:Int),.int .i64 (0:Int),.int .i64 (0:Int),.int .i64 (0:Int),.int .i64 (0:Int),.int .i64 (0:Int),.int .i64 (0:Int),.int .i64 (0:Int),.int .i64 (0:Int),k5 ([]:List Int),.sc (.map none)]) rfl (.nil (.keep (.keep (.keep (.keep (.keep (.keep (.keep (.keep (.keep (.keep (.keep (.keep (.keep (.keep (.keep (.keep (.keep (.keep (.keep (.keep (.keep (.keep (.keep (.keep (.own (.keep .done))))))))))))))))))))))))))) ?_
  refine AOps.extL 13 o60 (List.replicate 1 (T60.mk ([]:List T54) (0:Int) ([]:List UInt8) ([]:List Int) ([]:List Int) ([]:List Int) ([]:List Int) ([]:List Int) none)) rfl (by simp) (zero_at o60 _ (T60.mk ([]:List T54) (0:Int) ([]:List UInt8) ([]:List Int) ([]:List Int) ([]:List Int) ([]:List Int) ([]:List Int) none) rfl _) ?_
  refine AOps.cons (AOne.buildOwn (F:=(FF 55 0)) _ rfl rfl rfl 14 rfl rfl [(13,0,k0 (List.replicate 1 (T60.mk ([]:List T54) (0:Int) ([]:List UInt8) ([]:List Int) ([]:List Int) ([]:List Int) ([]:List Int) ([]:List Int) none)))] (by simp) (by intro p hp; simp only [List.mem_cons,List.not_mem_nil,or_false] at hp; rcases hp with rfl <;> exact ⟨by simp,rfl,fun h=>by cases h⟩) (fun U=>[.sc (U 13),.int .i64 (0:Int),nS]) (fun U=>by kernel_rfl) (fun U p hp=>by simp only [List.mem_cons,List.not_mem_nil,or_false] at hp; rcases hp with rfl <;> rfl) [0,14] 0 z0 (σ':=⟨[(0,.tv (fzL 1 (cSl 3 c54) v1)),(14,.agg [k0 (List.replicate 1 (T60.mk ([]:List T54) (0:Int) ([]:List UInt8) ([]:List Int) ([]:List Int) ([]:List Int) ([]:List Int) ([]:List Int) none)),.int .i64 (0:Int),nS])],[]⟩) (fun U=>by kernel_rfl)) ?_
  refine AOps.cons (AOne.own (F:=(FF 55 0)) _ rfl rfl rfl rfl) ?_
  refine AOps.go [3] [] [] [0,4] 1 ⟨[(0,.tv (fzL 1 (cSl 3 c54) v1)),(4,.pc 0 0)],[.cells 51 [k0 (List.replicate 1 (T60.mk ([]:List T54) (0:Int) ([]:List UInt8) ([]:List Int) ([]:List Int) ([]:List Int) ([]:List Int) ([]:List Int) none)),.int .i64 (0:Int),nS]]⟩ ?_ z0 trivial ?_
  ·kernel_rfl
  refine AOps.nil ?_
  refine AWp.seq ?_
  refine AWp.seq ?_
  refine AWp.start [0,1,2] [] [] [4,16,17,18] 1 ⟨[(4,.pc 0 0),(16,.tv (fzL 1 (cSl 3 c54) v1)),(17,tI (v1.length:Int)),(18,tI (0:Int))],[.cells 51 [k0 (List.replicate 1 (T60.mk ([]:List T54) (0:Int) ([]:List UInt8) ([]:List Int) ([]:List Int) ([]:List Int) ([]:List Int) ([]:List Int) none)),.int .i64 (0:Int),nS]]⟩ rfl ?_ z0 trivial ?_
  ·kernel_rfl
  refine AOps.nil ?_
  refine AWp.block ?_
  obtain ⟨y,hy,h⟩:=of_bind h
  refine AWp.mono (AWp.loop (S:=Int × (List T60)) (Y:=Out ((Option T50) × Int) (List T60)) (fun s=>⟨[(4,.pc 0 0),(16,.tv (fzL 1 (cSl 3 c54) v1)),(17,tI (v1.length:Int)),(18,tI s.1)],[.cells 51 [k0 s.2,.int .i64 (0:Int),nS]]⟩) (fun s=>f12_b2 v1 s.1 s.2) (fun y e σ=>match y with | .ret r=>e = .ret ∧ σ = ⟨[(2,(match r.1 with | none=>.tv (.sc (.pointer none)) | some _=>.pc 0 0)),(3,tI r.2)],([] ++ (match r.1 with | none=>[] | some u=>[.cells 51 [k0 u.f0,.int .i64 u.f1,k1 u.f2]]))⟩ | .go v=>e = .exit 0 ∧ σ = ⟨[(4,.pc 0 0)],[.cells 51 [k0 v,.int .i64 (0:Int),nS]]⟩) ?_ hy) ?_
  ·rintro ⟨v3,v4⟩ o h
   refine AWp.seq ?_
   refine AWp.start [0] [] [] [4,16,17,18,19] 1 ⟨[(4,.pc 0 0),(16,.tv (fzL 1 (cSl 3 c54) v1)),(17,tI (v1.length:Int)),(18,tI v3),(19,tB (decide (v3 < (v1.length:Int))))],[.cells 51 [k0 v4,.int .i64 (0:Int),nS]]⟩ rfl ?_ z0 trivial ?_
   ·kernel_rfl
   refine AOps.nil ?_
   refine AWp.seq ?_
   refine AWp.cond rfl (fun hb=>?_) fun hb=>?_
   ·replace h:=of_true h hb
    refine AWp.keepTo [4,16,17,18] 1 ⟨[(4,.pc 0 0),(16,.tv (fzL 1 (cSl 3 c54) v1)),(17,tI (v1.length:Int)),(18,tI v3)],[.cells 51 [k0 v4,.int .i64 (0:Int),nS]]⟩ ?_ z0 ?_
    ·kernel_rfl
    refine AWp.skip ?_
    refine AWp.seq ?_
    refine AWp.block ?_
    refine AWp.seq ?_
    obtain ⟨hg,h⟩:=of_guard h
    refine AWp.start [0,1,2] [] [(0:Int) ≤ v3,v3 < (v1.length:Int)] [4,6,16,17,18] 1 ⟨[(4,.pc 0 0),(6,q2 (gD v1 v3)),(16,.tv (fzL 1 (cSl 3 c54) v1)),(17,tI (v1.length:Int)),(18,tI v3)],[.cells 51 [k0 v4,.int .i64 (0:Int),nS]]⟩ rfl ?_ z0 ⟨hg.1,hg.2⟩ ?_
    ·kernel_rfl
    refine AOps.nil ?_
    refine AWp.seq ?_
    refine AWp.start [0] [1,2,3] [] [4,6,16,17,18,22] 1 ⟨[(4,.pc 0 0),(6,q2 (gD v1 v3)),(16,.tv (fzL 1 (cSl 3 c54) v1)),(17,tI (v1.length:Int)),(18,tI v3),(22,.tv (.mp .i64 (some .i64) ([]:List (Int × Int))))],[.cells 51 [k0 v4,.int .i64 (0:Int),nS]]⟩ rfl ?_ z0 trivial ?_
    ·kernel_rfl
    refine AOps.cons (AOne.buildOwn (F:=(FF 55 0)) _ rfl rfl rfl 23 rfl rfl [(22,26,.mp .i64 (some .i64) ([]:List (Int × Int)))] (by simp) (by intro p hp; simp only [List.mem_cons,List.not_mem_nil,or_false] at hp; rcases hp with rfl <;> exact ⟨by simp,rfl,fun h=>by cases h⟩) (fun U=>[nS,.int .i64 (0:Int),.str ([114,117,110,115]:List UInt8),.int .i64 (0:Int),.int .i64 (0:Int),.int .i64 (0:Int),.int .i64 (0:Int),.int .i64 (0:Int),.int .i64 (0:Int),.int .i64 (0:Int),.int .i64 (0:Int),.int .i64 (0:Int),.int .i64 (0:Int),.int .i64 (0:Int),.int .i64 (0:Int),.int .i64 (0:Int),.int .i64 (0:Int),.int .i64 (0:Int),.int .i64 (0:Int),.int .i64 (0:Int),.int .i64 (0:Int),.int .i64 (0:Int),.int .i64 (0:Int),.int .i64 (0:Int),.int .i64 (0:Int),nS,.sc (U 22)]) (fun U=>by kernel_rfl) (fun U p hp=>by simp only [List.mem_cons,List.not_mem_nil,or_false] at hp; rcases hp with rfl <;> rfl) [4,6,16,17,18,23] 1 z0 (σ':=⟨[(4,.pc 0 0),(6,q2 (gD v1 v3)),(16,.tv (fzL 1 (cSl 3 c54) v1)),(17,tI (v1.length:Int)),(18,tI v3),(23,.agg [nS,.int .i64 (0:Int),.str ([114,117,110,115]:List UInt8),.int .i64 (0:Int),.int .i64 (0:Int),.int .i64 (0:Int),.int .i64 (0:Int),.int .i64 (0:Int),.int .i64 (0:Int),.int .i64 (0:Int),.int .i64 (0:Int),.int .i64 (0:Int),.int .i64 (0:Int),.int .i64 (0:Int),.int .i64 (0:Int),.int .i64 (0:Int),.int .i64 (0:Int),.int .i64 (0:Int),.int .i64 (0:Int),.int .i64 (0:Int),.int .i64 (0:Int),.int .i64 (0:Int),.int .i64 (0:Int),.int .i64 (0:Int),.int .i64 (0:Int),nS,.mp .i64 (some .i64) ([]:List (Int × Int))])],[.cells 51 [k0 v4,.int .i64 (0:Int),nS]]⟩) (fun U=>by kernel_rfl)) ?_
    refine AOps.go [2] [3] [] [4,6,7,16,17,18,23] 2 ⟨[(4,.pc 0 0),(6,q2 (gD v1 v3)),(7,.pc 1 0),(16,.tv (fzL 1 (cSl 3 c54) v1)),(17,tI (v1.length:Int)),(18,tI v3),(23,.agg [nS,.int .i64 (0:Int),.str ([114,117,110,115]:List UInt8),.int .i64 (0:Int),.int .i64 (0:Int),.int .i64 (0:Int),.int .i64 (0:Int),.int .i64 (0:Int),.int .i64 (0:Int),.int .i64 (0:Int),.int .i64 (0:Int),.int .i64 (0:Int),.int .i64 (0:Int),.int .i64 (0:Int),.int .i64 (0:Int),.int .i64 (0:Int),.int .i64 (0:Int),.int .i64 (0:Int),.int .i64 (0:Int),.int .i64 (0:Int),.int .i64 (0:Int),.int .i64 (0:Int),.int .i64 (0:Int),.int .i64 (0:Int),.int .i64 (0:Int),nS,.mp .i64 (some .i64) ([]:List (Int × Int))])],[.cells 51 [k0 v4,.int .i64 (0:Int),nS],.cells 61 [nS,.int .i64 (0:Int),.str ([]:List UInt8),.int .i64 (0:Int),.int .i64 (0:Int),.int .i64 (0:Int),.int .i64 (0:Int),.int .i64 (0:Int),.int .i64 (0:Int),.int .i64 (0:Int),.int .i64 (0:Int),.int .i64 (0:Int),.int .i64 (0:Int),.int .i64 (0:Int),.int .i64 (0:Int),.int .i64 (0:Int),.int .i64 (0:Int),.int .i64 (0:Int),.int .i64 (0:Int),.int .i64 (0:Int),.int .i64 (0:Int),.int .i64 (0:Int),.int .i64 (0:Int),.int .i64 (0:Int),.int .i64 (0:Int),nS,.sc (.map none)]]⟩ ?_ z0 trivial ?_
    ·kernel_rfl
    refine AOps.cons (AOne.own (F:=(FF 55 0)) _ rfl rfl rfl rfl) ?_
    refine AOps.keepTo [4,6,7,16,17,18] 2 ⟨[(4,.pc 0 0),(6,q2 (gD v1 v3)),(7,.pc 1 0),(16,.tv (fzL 1 (cSl 3 c54) v1)),(17,tI (v1.length:Int)),(18,tI v3)],[.cells 51 [k0 v4,.int .i64 (0:Int),nS],.cells 61 [nS,.int .i64 (0:Int),.str ([114,117,110,115]:List UInt8),.int .i64 (0:Int),.int .i64 (0:Int),.int .i64 (0:Int),.int .i64 (0:Int),.int .i64 (0:Int),.int .i64 (0:Int),.int .i64 (0:Int),.int .i64 (0:Int),.int .i64 (0:Int),.int .i64 (0:Int),.int .i64 (0:Int),.int .i64 (0:Int),.int .i64 (0:Int),.int .i64 (0:Int),.int .i64 (0:Int),.int .i64 (0:Int),.int .i64 (0:Int),.int .i64 (0:Int),.int .i64 (0:Int),.int .i64 (0:Int),.int .i64 (0:Int),.int .i64 (0:Int),nS,.mp .i64 (some .i64) ([]:List (Int × Int))]]⟩ ?_ z0 ?_
    ·kernel_rfl
    refine AOps.nil ?_
    refine AWp.seq ?_
    refine AWp.seq ?_
    refine AWp.start [0,1,2] [] [] [4,7,16,17,18,24,25,26] 2 ⟨[(4,.pc 0 0),(7,.pc 1 0),(16,.tv (fzL 1 (cSl 3 c54) v1)),(17,tI (v1.length:Int)),(18,tI v3),(24,q2 (gD v1 v3)),(25,tI ((gD v1 v3).length:Int)),(26,tI (0:Int))],[.cells 51 [k0 v4,.int .i64 (0:Int),nS],.cells 61 [nS,.int .i64 (0:Int),.str ([114,117,110,115]:List UInt8),.int .i64 (0:Int),.int .i64 (0:Int),.int .i64 (0:Int),.int .i64 (0:Int),.int .i64 (0:Int),.int .i64 (0:Int),.int .i64 (0:Int),.int .i64 (0:Int),.int .i64 (0:Int),.int .i64 (0:Int),.int .i64 (0:Int),.int .i64 (0:Int),.int .i64 (0:Int),.int .i64 (0:Int),.int .i64 (0:Int),.int .i64 (0:Int),.int .i64 (0:Int),.int .i64 (0:Int),.int .i64 (0:Int),.int .i64 (0:Int),.int .i64 (0:Int),.int .i64 (0:Int),nS,.mp .i64 (some .i64) ([]:List (Int × Int))]]⟩ rfl ?_ z0 trivial ?_
    ·kernel_rfl
    refine AOps.nil ?_
    refine AWp.block ?_
    refine AWp.retell 1 0 rfl (.nilOwn 3 55 (fun i=>c54 (([]:List T54).getD i default))) ?_
    refine AWp.keepTo [4,7,16,17,18,24,25,26] 2 ⟨[(4,.pc 0 0),(7,.pc 1 0),(16,.tv (fzL 1 (cSl 3 c54) v1)),(17,tI (v1.length:Int)),(18,tI v3),(24,q2 (gD v1 v3)),(25,tI ((gD v1 v3).length:Int)),(26,tI (0:Int))],[.cells 51 [k0 v4,.int .i64 (0:Int),nS],.cells 61 [ownL 3 55 c54 ([]:List T54),.int .i64 (0:Int),.str ([114,117,110,115]:List UInt8),.int .i64 (0:Int),.int .i64 (0:Int),.int .i64 (0:Int),.int .i64 (0:Int),.int .i64 (0:Int),.int .i64 (0:Int),.int .i64 (0:Int),.int .i64 (0:Int),.int .i64 (0:Int),.int .i64 (0:Int),.int .i64 (0:Int),.int .i64 (0:Int),.int .i64 (0:Int),.int .i64 (0:Int),.int .i64 (0:Int),.int .i64 (0:Int),.int .i64 (0:Int),.int .i64 (0:Int),.int .i64 (0:Int),.int .i64 (0:Int),.int .i64 (0:Int),.int .i64 (0:Int),nS,.mp .i64 (some .i64) ([]:List (Int × Int))]]⟩ ?_ z0 ?_
    ·kernel_rfl
    obtain ⟨y,hy,h⟩:=of_bind h
    refine AWp.mono (AWp.loop (S:=Int × (List T54)) (Y:=Out ((Option T50) × Int) (List T54)) (fun s=>⟨[(4,.pc 0 0),(7,.pc 1 0),(16,.tv (fzL 1 (cSl 3 c54) v1)),(17,tI (v1.length:Int)),(18,tI v3),(24,q2 (gD v1 v3)),(25,tI ((gD v1 v3).length:Int)),(26,tI s.1)],[.cells 51 [k0 v4,.int .i64 (0:Int),nS],.cells 61 [ownL 3 55 c54 s.2,.int .i64 (0:Int),.str ([114,117,110,115]:List UInt8),.int .i64 (0:Int),.int .i64 (0:Int),.int .i64 (0:Int),.int .i64 (0:Int),.int .i64 (0:Int),.int .i64 (0:Int),.int .i64 (0:Int),.int .i64 (0:Int),.int .i64 (0:Int),.int .i64 (0:Int),.int .i64 (0:Int),.int .i64 (0:Int),.int .i64 (0:Int),.int .i64 (0:Int),.int .i64 (0:Int),.int .i64 (0:Int),.int .i64 (0:Int),.int .i64 (0:Int),.int .i64 (0:Int),.int .i64 (0:Int),.int .i64 (0:Int),.int .i64 (0:Int),nS,.mp .i64 (some .i64) ([]:List (Int × Int))]]⟩) (fun s=>f12_b1 v1 v3 s.1 s.2) (fun y e σ=>match y with | .ret r=>e = .ret ∧ σ = ⟨[(2,(match r.1 with | none=>.tv (.sc (.pointer none)) | some _=>.pc 0 0)),(3,tI r.2)],([] ++ (match r.1 with | none=>[] | some u=>[.cells 51 [k0 u.f0,.int .i64 u.f1,k1 u.f2]]))⟩ | .go v=>e = .exit 2 ∧ σ = ⟨[(4,.pc 0 0),(7,.pc 1 0),(16,.tv (fzL 1 (cSl 3 c54) v1)),(17,tI (v1.length:Int)),(18,tI v3)],[.cells 51 [k0 v4,.int .i64 (0:Int),nS],.cells 61 [ownL 3 55 c54 v,.int .i64 (0:Int),.str ([114,117,110,115]:List UInt8),.int .i64 (0:Int),.int .i64 (0:Int),.int .i64 (0:Int),.int .i64 (0:Int),.int .i64 (0:Int),.int .i64 (0:Int),.int .i64 (0:Int),.int .i64 (0:Int),.int .i64 (0:Int),.int .i64 (0:Int),.int .i64 (0:Int),.int .i64 (0:Int),.int .i64 (0:Int),.int .i64 (0:Int),.int .i64 (0:Int),.int .i64 (0:Int),.int .i64 (0:Int),.int .i64 (0:Int),.int .i64 (0:Int),.int .i64 (0:Int),.int .i64 (0:Int),.int .i64 (0:Int),nS,.mp .i64 (some .i64) ([]:List (Int × Int))]]⟩) ?_ hy) ?_
    ·rintro ⟨v6,v7⟩ o h
     refine AWp.seq ?_
     refine AWp.start [0] [] [] [4,7,16,17,18,24,25,26,27] 2 ⟨[(4,.pc 0 0),(7,.pc 1 0),(16,.tv (fzL 1 (cSl 3 c54) v1)),(17,tI (v1.length:Int)),(18,tI v3),(24,q2 (gD v1 v3)),(25,tI ((gD v1 v3).length:Int)),(26,tI v6),(27,tB (decide (v6 < ((gD v1 v3).length:Int))))],hp5 v4 v7⟩ rfl ?_ z0 trivial ?_
     ·kernel_rfl
     refine AOps.nil ?_
     refine AWp.seq ?_
     refine AWp.cond rfl (fun hb=>?_) fun hb=>?_
     ·replace h:=of_true h hb
      refine AWp.keepTo [4,7,16,17,18,24,25,26] 2 ⟨[(4,.pc 0 0),(7,.pc 1 0),(16,.tv (fzL 1 (cSl 3 c54) v1)),(17,tI (v1.length:Int)),(18,tI v3),(24,q2 (gD v1 v3)),(25,tI ((gD v1 v3).length:Int)),(26,tI v6)],hp5 v4 v7⟩ ?_ z0 ?_
      ·kernel_rfl
      refine AWp.skip ?_
      refine AWp.seq ?_
      refine AWp.block ?_
      refine AWp.seq ?_
      obtain ⟨hg,h⟩:=of_guard h
      refine AWp.start [0,1,2,3] [] [(0:Int) ≤ v6,v6 < ((gD v1 v3).length:Int)] [4,7,9,16,17,18,24,25,26] 3 ⟨[(4,.pc 0 0),(7,.pc 1 0),(9,.pc 2 0),(16,.tv (fzL 1 (cSl 3 c54) v1)),(17,tI (v1.length:Int)),(18,tI v3),(24,q2 (gD v1 v3)),(25,tI ((gD v1 v3).length:Int)),(26,tI v6)],[.cells 51 [k0 v4,.int .i64 (0:Int),nS],.cells 61 [ownL 3 55 c54 v7,.int .i64 (0:Int),.str ([114,117,110,115]:List UInt8),.int .i64 (0:Int),.int .i64 (0:Int),.int .i64 (0:Int),.int .i64 (0:Int),.int .i64 (0:Int),.int .i64 (0:Int),.int .i64 (0:Int),.int .i64 (0:Int),.int .i64 (0:Int),.int .i64 (0:Int),.int .i64 (0:Int),.int .i64 (0:Int),.int .i64 (0:Int),.int .i64 (0:Int),.int .i64 (0:Int),.int .i64 (0:Int),.int .i64 (0:Int),.int .i64 (0:Int),.int .i64 (0:Int),.int .i64 (0:Int),.int .i64 (0:Int),.int .i64 (0:Int),nS,.mp .i64 (some .i64) ([]:List (Int × Int))],.cells 55 (c54 (gD (gD v1 v3) v6))]⟩ rfl ?_ z0 ⟨hg.1,hg.2⟩ ?_
      ·kernel_rfl
      refine AOps.nil ?_
      refine AWp.seq ?_
      refine AWp.start [0,1] [2,3,4] [] [4,7,9,16,17,18,24,25,26,31] 3 ⟨[(4,.pc 0 0),(7,.pc 1 0),(9,.pc 2 0),(16,.tv (fzL 1 (cSl 3 c54) v1)),(17,tI (v1.length:Int)),(18,tI v3),(24,q2 (gD v1 v3)),(25,tI ((gD v1 v3).length:Int)),(26,tI v6),(31,q0 ((gD (gD v1 v3) v6).f1))],[.cells 51 [k0 v4,.int .i64 (0:Int),nS],.cells 61 [ownL 3 55 c54 v7,.int .i64 (0:Int),.str ([114,117,110,115]:List UInt8),.int .i64 (0:Int),.int .i64 (0:Int),.int .i64 (0:Int),.int .i64 (0:Int),.int .i64 (0:Int),.int .i64 (0:Int),.int .i64 (0:Int),.int .i64 (0:Int),.int .i64 (0:Int),.int .i64 (0:Int),.int .i64 (0:Int),.int .i64 (0:Int),.int .i64 (0:Int),.int .i64 (0:Int),.int .i64 (0:Int),.int .i64 (0:Int),.int .i64 (0:Int),.int .i64 (0:Int),.int .i64 (0:Int),.int .i64 (0:Int),.int .i64 (0:Int),.int .i64 (0:Int),nS,.mp .i64 (some .i64) ([]:List (Int × Int))],.cells 55 (c54 (gD (gD v1 v3) v6))]⟩ rfl ?_ z0 trivial ?_
      ·kernel_rfl
      obtain ⟨v9,hv9,h⟩:=of_bind h
      refine AOps.cons (AOne.callP (F:=(FF 55 0)) _ rfl rfl rfl _ rfl rfl _ _ rfl Try.call31 [q0 ((gD (gD v1 v3) v6).f1)] rfl rfl (f31_ok ((gD (gD v1 v3) v6).f1) hv9) rfl) ?_
      refine AOps.freezeL 32 (cInt .i64) v9 rfl (fun _=>rfl) ?_
      refine AOps.go [3,4] [] [] [4,7,9,16,17,18,24,25,26] 3 ⟨[(4,.pc 0 0),(7,.pc 1 0),(9,.pc 2 0),(16,.tv (fzL 1 (cSl 3 c54) v1)),(17,tI (v1.length:Int)),(18,tI v3),(24,q2 (gD v1 v3)),(25,tI ((gD v1 v3).length:Int)),(26,tI v6)],[.cells 51 [k0 v4,.int .i64 (0:Int),nS],.cells 61 [ownL 3 55 c54 v7,.int .i64 (0:Int),.str ([114,117,110,115]:List UInt8),.int .i64 (0:Int),.int .i64 (0:Int),.int .i64 (0:Int),.int .i64 (0:Int),.int .i64 (0:Int),.int .i64 (0:Int),.int .i64 (0:Int),.int .i64 (0:Int),.int .i64 (0:Int),.int .i64 (0:Int),.int .i64 (0:Int),.int .i64 (0:Int),.int .i64 (0:Int),.int .i64 (0:Int),.int .i64 (0:Int),.int .i64 (0:Int),.int .i64 (0:Int),.int .i64 (0:Int),.int .i64 (0:Int),.int .i64 (0:Int),.int .i64 (0:Int),.int .i64 (0:Int),nS,.mp .i64 (some .i64) ([]:List (Int × Int))],.cells 55 [.str ((gD (gD v1 v3) v6).f0),k2 v9,.str ((gD (gD v1 v3) v6).f2)]]⟩ ?_ z0 trivial ?_
      ·kernel_rfl
      refine AOps.nil ?_
      refine AWp.start [0,1,2,3] [4,5,6] [] [4,7,16,17,18,24,25,26,35,37] 2 ⟨[(4,.pc 0 0),(7,.pc 1 0),(16,.tv (fzL 1 (cSl 3 c54) v1)),(17,tI (v1.length:Int)),(18,tI v3),(24,q2 (gD v1 v3)),(25,tI ((gD v1 v3).length:Int)),(26,tI v6),(35,.al (.cell 1 0,[])),(37,.tv (.own 3 55 1 (newRowF [.str ((gD (gD v1 v3) v6).f0),k2 v9,.str ((gD (gD v1 v3) v6).f2)] 3)))],hp5 v4 v7⟩ rfl ?_ z0 trivial ?_
      ·kernel_rfl
      refine AOps.extL 37 c54 [T54.mk ((gD (gD v1 v3) v6).f0) v9 ((gD (gD v1 v3) v6).f2)] rfl rfl (row_at c54 3 (fun _=>rfl) [T54.mk ((gD (gD v1 v3) v6).f0) v9 ((gD (gD v1 v3) v6).f2)] _ rfl) ?_
      obtain ⟨hg,h⟩:=of_guard h
      refine AOps.go [4] [5,6] [(v7.length + [T54.mk ((gD (gD v1 v3) v6).f0) v9 ((gD (gD v1 v3) v6).f2)].length) * 56 ≤ 140737488355328,PlainTo v7.length (fun i=>c54 (v7.getD i default)),PlainTo ([T54.mk ((gD (gD v1 v3) v6).f0) v9 ((gD (gD v1 v3) v6).f2)].length) (fun i=>c54 ([T54.mk ((gD (gD v1 v3) v6).f0) v9 ((gD (gD v1 v3) v6).f2)].getD i default))] [4,7,16,17,18,24,25,26,38] 2 ⟨[(4,.pc 0 0),(7,.pc 1 0),(16,.tv (fzL 1 (cSl 3 c54) v1)),(17,tI (v1.length:Int)),(18,tI v3),(24,q2 (gD v1 v3)),(25,tI ((gD v1 v3).length:Int)),(26,tI v6),(38,.tv (.own 3 55 (v7.length + [T54.mk ((gD (gD v1 v3) v6).f0) v9 ((gD (gD v1 v3) v6).f2)].length) (appF v7.length (fun i=>c54 (v7.getD i default)) (fun i=>c54 ([T54.mk ((gD (gD v1 v3) v6).f0) v9 ((gD (gD v1 v3) v6).f2)].getD i default)))))],[.cells 51 [k0 v4,.int .i64 (0:Int),nS],.cells 61 [.hole,.int .i64 (0:Int),.str ([114,117,110,115]:List UInt8),.int .i64 (0:Int),.int .i64 (0:Int),.int .i64 (0:Int),.int .i64 (0:Int),.int .i64 (0:Int),.int .i64 (0:Int),.int .i64 (0:Int),.int .i64 (0:Int),.int .i64 (0:Int),.int .i64 (0:Int),.int .i64 (0:Int),.int .i64 (0:Int),.int .i64 (0:Int),.int .i64 (0:Int),.int .i64 (0:Int),.int .i64 (0:Int),.int .i64 (0:Int),.int .i64 (0:Int),.int .i64 (0:Int),.int .i64 (0:Int),.int .i64 (0:Int),.int .i64 (0:Int),nS,.mp .i64 (some .i64) ([]:List (Int × Int))]]⟩ ?_ z0 ⟨hg,(fun _ _=>rfl),(fun _ _=>rfl)⟩ ?_
      ·kernel_rfl
      refine AOps.extL 38 c54 (v7 ++ [T54.mk ((gD (gD v1 v3) v6).f0) v9 ((gD (gD v1 v3) v6).f2)]) rfl List.length_append.symm (app_at c54 v7 [T54.mk ((gD (gD v1 v3) v6).f0) v9 ((gD (gD v1 v3) v6).f2)]) ?_
      refine AOps.go [5] [6] [] [4,7,16,17,18,24,25,26,38,39] 2 ⟨[(4,.pc 0 0),(7,.pc 1 0),(16,.tv (fzL 1 (cSl 3 c54) v1)),(17,tI (v1.length:Int)),(18,tI v3),(24,q2 (gD v1 v3)),(25,tI ((gD v1 v3).length:Int)),(26,tI v6),(38,.tv (ownL 3 55 c54 (v7 ++ [T54.mk ((gD (gD v1 v3) v6).f0) v9 ((gD (gD v1 v3) v6).f2)]))),(39,.pc 1 0)],[.cells 51 [k0 v4,.int .i64 (0:Int),nS],.cells 61 [.hole,.int .i64 (0:Int),.str ([114,117,110,115]:List UInt8),.int .i64 (0:Int),.int .i64 (0:Int),.int .i64 (0:Int),.int .i64 (0:Int),.int .i64 (0:Int),.int .i64 (0:Int),.int .i64 (0:Int),.int .i64 (0:Int),.int .i64 (0:Int),.int .i64 (0:Int),.int .i64 (0:Int),.int .i64 (0:Int),.int .i64 (0:Int),.int .i64 (0:Int),.int .i64 (0:Int),.int .i64 (0:Int),.int .i64 (0:Int),.int .i64 (0:Int),.int .i64 (0:Int),.int .i64 (0:Int),.int .i64 (0:Int),.int .i64 (0:Int),nS,.mp .i64 (some .i64) ([]:List (Int × Int))]]⟩ ?_ z0 trivial ?_
      ·kernel_rfl
      refine AOps.cons (AOne.own (F:=(FF 55 0)) _ rfl rfl rfl rfl) ?_
      refine AOps.keepTo [4,7,16,17,18,24,25,26] 2 ⟨[(4,.pc 0 0),(7,.pc 1 0),(16,.tv (fzL 1 (cSl 3 c54) v1)),(17,tI (v1.length:Int)),(18,tI v3),(24,q2 (gD v1 v3)),(25,tI ((gD v1 v3).length:Int)),(26,tI v6)],[.cells 51 [k0 v4,.int .i64 (0:Int),nS],.cells 61 [ownL 3 55 c54 (v7 ++ [T54.mk ((gD (gD v1 v3) v6).f0) v9 ((gD (gD v1 v3) v6).f2)]),.int .i64 (0:Int),.str ([114,117,110,115]:List UInt8),.int .i64 (0:Int),.int .i64 (0:Int),.int .i64 (0:Int),.int .i64 (0:Int),.int .i64 (0:Int),.int .i64 (0:Int),.int .i64 (0:Int),.int .i64 (0:Int),.int .i64 (0:Int),.int .i64 (0:Int),.int .i64 (0:Int),.int .i64 (0:Int),.int .i64 (0:Int),.int .i64 (0:Int),.int .i64 (0:Int),.int .i64 (0:Int),.int .i64 (0:Int),.int .i64 (0:Int),.int .i64 (0:Int),.int .i64 (0:Int),.int .i64 (0:Int),.int .i64 (0:Int),nS,.mp .i64 (some .i64) ([]:List (Int × Int))]]⟩ ?_ z0 ?_
      ·kernel_rfl
      refine AOps.nil ?_
      refine AWp.start [0,1] [] [] [4,7,16,17,18,24,25,26] 2 ⟨[(4,.pc 0 0),(7,.pc 1 0),(16,.tv (fzL 1 (cSl 3 c54) v1)),(17,tI (v1.length:Int)),(18,tI v3),(24,q2 (gD v1 v3)),(25,tI ((gD v1 v3).length:Int)),(26,tI (w64 (v6 + (1:Int))))],[.cells 51 [k0 v4,.int .i64 (0:Int),nS],.cells 61 [ownL 3 55 c54 (v7 ++ [T54.mk ((gD (gD v1 v3) v6).f0) v9 ((gD (gD v1 v3) v6).f2)]),.int .i64 (0:Int),.str ([114,117,110,115]:List UInt8),.int .i64 (0:Int),.int .i64 (0:Int),.int .i64 (0:Int),.int .i64 (0:Int),.int .i64 (0:Int),.int .i64 (0:Int),.int .i64 (0:Int),.int .i64 (0:Int),.int .i64 (0:Int),.int .i64 (0:Int),.int .i64 (0:Int),.int .i64 (0:Int),.int .i64 (0:Int),.int .i64 (0:Int),.int .i64 (0:Int),.int .i64 (0:Int),.int .i64 (0:Int),.int .i64 (0:Int),.int .i64 (0:Int),.int .i64 (0:Int),.int .i64 (0:Int),.int .i64 (0:Int),nS,.mp .i64 (some .i64) ([]:List (Int × Int))]]⟩ rfl ?_ z0 trivial ?_
      ·kernel_rfl
      refine AOps.nil ?_
      cases h
      exact Or.inl ⟨_,rfl,rfl,rfl⟩
     ·replace h:=of_false h hb
      refine AWp.keepTo [4,7,16,17,18] 2 ⟨[(4,.pc 0 0),(7,.pc 1 0),(16,.tv (fzL 1 (cSl 3 c54) v1)),(17,tI (v1.length:Int)),(18,tI v3)],hp5 v4 v7⟩ ?_ z0 ?_
      ·kernel_rfl
      refine AWp.exit ?_
      cases h
      exact Or.inr ⟨_,rfl,by simp,rfl,rfl⟩
    ·intro e σ hp
     rcases y with v10 | v8
     ·obtain ⟨rfl,rfl⟩:=hp
      cases h
      exact Or.inr ⟨_,rfl,by simp,rfl,rfl⟩
     ·obtain ⟨rfl,rfl⟩:=hp
      refine AWp.draw FFm _ (n:=11) rfl (ls:=#[n1,n1,n1,n1,n1,n1,n1,n1,n1,n1,n1]) rfl ?_ (fun _ h=>h)
      refine AAny.go (by kernel_rfl) [0,1,2,3] (fuel':=7) rfl [] #[y1,y1,y1,y1,n1,n1,n1,n1,n1,n1,n1] [4,7,16,17,18,41,44] 2 ⟨[(4,.pc 0 0),(7,.pc 1 0),(16,.tv (fzL 1 (cSl 3 c54) v1)),(17,tI (v1.length:Int)),(18,tI v3),(41,.pc 0 0),(44,.pc 0 0)],[.cells 51 [k0 v4,.int .i64 (0:Int),nS],.cells 61 [ownL 3 55 c54 v8,.int .i64 (0:Int),.str ([114,117,110,115]:List UInt8),.int .i64 (0:Int),.int .i64 (0:Int),.int .i64 (0:Int),.int .i64 (0:Int),.int .i64 (0:Int),.int .i64 (0:Int),.int .i64 (0:Int),.int .i64 (0:Int),.int .i64 (0:Int),.int .i64 (0:Int),.int .i64 (0:Int),.int .i64 (0:Int),.int .i64 (0:Int),.int .i64 (0:Int),.int .i64 (0:Int),.int .i64 (0:Int),.int .i64 (0:Int),.int .i64 (0:Int),.int .i64 (0:Int),.int .i64 (0:Int),.int .i64 (0:Int),.int .i64 (0:Int),nS,.mp .i64 (some .i64) ([]:List (Int × Int))]]⟩ ?_ z0 trivial ?_
      ·kernel_rfl
      refine AAny.freezeC 1 0 c54 v8 rfl (fun _=>rfl) ?_
      refine AAny.retell 1 25 rfl (.nilOwn 1 3 (fun i=>(cInt .i64) (([]:List Int).getD i default))) ?_
      refine AAny.keepTo [4,7,16,17,18,41,44] 2 ⟨[(4,.pc 0 0),(7,.pc 1 0),(16,.tv (fzL 1 (cSl 3 c54) v1)),(17,tI (v1.length:Int)),(18,tI v3),(41,.pc 0 0),(44,.pc 0 0)],[.cells 51 [k0 v4,.int .i64 (0:Int),nS],.cells 61 [k6 v8,.int .i64 (0:Int),.str ([114,117,110,115]:List UInt8),.int .i64 (0:Int),.int .i64 (0:Int),.int .i64 (0:Int),.int .i64 (0:Int),.int .i64 (0:Int),.int .i64 (0:Int),.int .i64 (0:Int),.int .i64 (0:Int),.int .i64 (0:Int),.int .i64 (0:Int),.int .i64 (0:Int),.int .i64 (0:Int),.int .i64 (0:Int),.int .i64 (0:Int),.int .i64 (0:Int),.int .i64 (0:Int),.int .i64 (0:Int),.int .i64 (0:Int),.int .i64 (0:Int),.int .i64 (0:Int),.int .i64 (0:Int),.int .i64 (0:Int),k5 ([]:List Int),.mp .i64 (some .i64) ([]:List (Int × Int))]]⟩ #[y1,y1,y1,y1,n1,n1,n1,n1,n1,n1,n1] ?_ rfl z0 ?_
      ·kernel_rfl
      obtain ⟨hg,h⟩:=of_guard h
      refine AAny.appObj (F:=(FF 55 0)) (fuel:=3) (i4:=4) (i5:=5) (i6:=6) (i7:=7) (L:=#[y1,y1,y1,y1,y1,y1,y1,n1,n1,n1,n1]) (ob:=1) (cs:=[k6 v8,.int .i64 (0:Int),.str ([114,117,110,115]:List UInt8),.int .i64 (0:Int),.int .i64 (0:Int),.int .i64 (0:Int),.int .i64 (0:Int),.int .i64 (0:Int),.int .i64 (0:Int),.int .i64 (0:Int),.int .i64 (0:Int),.int .i64 (0:Int),.int .i64 (0:Int),.int .i64 (0:Int),.int .i64 (0:Int),.int .i64 (0:Int),.int .i64 (0:Int),.int .i64 (0:Int),.int .i64 (0:Int),.int .i64 (0:Int),.int .i64 (0:Int),.int .i64 (0:Int),.int .i64 (0:Int),.int .i64 (0:Int),.int .i64 (0:Int),k5 ([]:List Int),.mp .i64 (some .i64) ([]:List (Int × Int))]) (r:=.cell 0 0) _ _ _ _ (by kernel_rfl) (by kernel_rfl) (by kernel_rfl) (by kernel_rfl) (by kernel_rfl) (by kernel_rfl) (by kernel_rfl) (by kernel_rfl) (by kernel_rfl) (by kernel_rfl) rfl rfl rfl rfl rfl rfl rfl rfl rfl rfl rfl rfl rfl rfl rfl rfl (by kernel_rfl) rfl rfl rfl rfl rfl rfl rfl rfl rfl rfl rfl (fun _ _=>nohole60 _) rfl rfl (by kernel_rfl) hg [4,16,17,18,41,48] 1 z0 (σ':=⟨[(4,.pc 0 0),(16,.tv (fzL 1 (cSl 3 c54) v1)),(17,tI (v1.length:Int)),(18,tI v3),(41,.pc 0 0),(48,.tv (.own 27 61 (v4.length + 1) (appF v4.length (fun i=>o60 (v4.getD i default)) (fun _=>[k6 v8,.int .i64 (0:Int),.str ([114,117,110,115]:List UInt8),.int .i64 (0:Int),.int .i64 (0:Int),.int .i64 (0:Int),.int .i64 (0:Int),.int .i64 (0:Int),.int .i64 (0:Int),.int .i64 (0:Int),.int .i64 (0:Int),.int .i64 (0:Int),.int .i64 (0:Int),.int .i64 (0:Int),.int .i64 (0:Int),.int .i64 (0:Int),.int .i64 (0:Int),.int .i64 (0:Int),.int .i64 (0:Int),.int .i64 (0:Int),.int .i64 (0:Int),.int .i64 (0:Int),.int .i64 (0:Int),.int .i64 (0:Int),.int .i64 (0:Int),k5 ([]:List Int),.mp .i64 (some .i64) ([]:List (Int × Int))]))))],[.cells 51 [.hole,.int .i64 (0:Int),nS]]⟩) (by kernel_rfl) ?_
      refine AAny.keepTo [4,16,17,18,41,48] 1 ⟨[(4,.pc 0 0),(16,.tv (fzL 1 (cSl 3 c54) v1)),(17,tI (v1.length:Int)),(18,tI v3),(41,.pc 0 0),(48,.tv (.own 27 61 (v4.length + 1) (appF v4.length (fun i=>o60 (v4.getD i default)) (fun _=>[k6 v8,.int .i64 (0:Int),.str ([114,117,110,115]:List UInt8),.int .i64 (0:Int),.int .i64 (0:Int),.int .i64 (0:Int),.int .i64 (0:Int),.int .i64 (0:Int),.int .i64 (0:Int),.int .i64 (0:Int),.int .i64 (0:Int),.int .i64 (0:Int),.int .i64 (0:Int),.int .i64 (0:Int),.int .i64 (0:Int),.int .i64 (0:Int),.int .i64 (0:Int),.int .i64 (0:Int),.int .i64 (0:Int),.int .i64 (0:Int),.int .i64 (0:Int),.int .i64 (0:Int),.int .i64 (0:Int),.int .i64 (0:Int),.int .i64 (0:Int),k5 ([]:List Int),.mp .i64 (some .i64) ([]:List (Int × Int))]))))],[.cells 51 [.hole,.int .i64 (0:Int),nS]]⟩ #[y1,y1,y1,y1,y1,y1,y1,y1,n1,n1,n1] ?_ (by kernel_rfl) z0 ?_
      ·rfl
      refine AAny.extL 48 o60 (v4 ++ [T60.mk v8 (0:Int) ([114,117,110,115]:List UInt8) ([]:List Int) ([]:List Int) ([]:List Int) ([]:List Int) ([]:List Int) (some ([]:List (Int × Int)))]) rfl (by simp) (app1_at o60 v4 [k6 v8,.int .i64 (0:Int),.str ([114,117,110,115]:List UInt8),.int .i64 (0:Int),.int .i64 (0:Int),.int .i64 (0:Int),.int .i64 (0:Int),.int .i64 (0:Int),.int .i64 (0:Int),.int .i64 (0:Int),.int .i64 (0:Int),.int .i64 (0:Int),.int .i64 (0:Int),.int .i64 (0:Int),.int .i64 (0:Int),.int .i64 (0:Int),.int .i64 (0:Int),.int .i64 (0:Int),.int .i64 (0:Int),.int .i64 (0:Int),.int .i64 (0:Int),.int .i64 (0:Int),.int .i64 (0:Int),.int .i64 (0:Int),.int .i64 (0:Int),k5 ([]:List Int),.mp .i64 (some .i64) ([]:List (Int × Int))] (T60.mk v8 (0:Int) ([114,117,110,115]:List UInt8) ([]:List Int) ([]:List Int) ([]:List Int) ([]:List Int) ([]:List Int) (some ([]:List (Int × Int)))) rfl) ?_
      refine AAny.go (by kernel_rfl) [8,9] (fuel':=1) rfl [] #[y1,y1,y1,y1,y1,y1,y1,y1,y1,y1,n1] [4,16,17,18,48,50] 1 ⟨[(4,.pc 0 0),(16,.tv (fzL 1 (cSl 3 c54) v1)),(17,tI (v1.length:Int)),(18,tI v3),(48,.tv (k0 (v4 ++ [T60.mk v8 (0:Int) ([114,117,110,115]:List UInt8) ([]:List Int) ([]:List Int) ([]:List Int) ([]:List Int) ([]:List Int) (some ([]:List (Int × Int)))]))),(50,.pc 0 0)],[.cells 51 [.hole,.int .i64 (0:Int),nS]]⟩ ?_ z0 trivial ?_
      ·kernel_rfl
      refine AAny.serial (i:=10) (fuel:=0) (by kernel_rfl) (AOne.own (F:=(FF 55 0)) _ rfl rfl rfl rfl) ?_
      refine AAny.keepTo [4,16,17,18] 1 ⟨[(4,.pc 0 0),(16,.tv (fzL 1 (cSl 3 c54) v1)),(17,tI (v1.length:Int)),(18,tI v3)],hp6 v4 v8⟩ #[y1,y1,y1,y1,y1,y1,y1,y1,y1,y1,y1] ?_ rfl z0 ?_
      ·kernel_rfl
      refine AAny.keepTo [4,16,17,18] 1 ⟨[(4,.pc 0 0),(16,.tv (fzL 1 (cSl 3 c54) v1)),(17,tI (v1.length:Int)),(18,tI v3)],hp6 v4 v8⟩ _ ?_ rfl z0 (AAny.done (by kernel_rfl) ?_)
      ·kernel_rfl
      refine AWp.start [0,1] [] [] [4,16,17,18] 1 ⟨[(4,.pc 0 0),(16,.tv (fzL 1 (cSl 3 c54) v1)),(17,tI (v1.length:Int)),(18,tI (w64 (v3 + (1:Int))))],hp6 v4 v8⟩ rfl ?_ z0 trivial ?_
      ·kernel_rfl
      refine AOps.nil ?_
      cases h
      exact Or.inl ⟨_,rfl,rfl,rfl⟩
   ·replace h:=of_false h hb
    refine AWp.keepTo [4] 1 ⟨[(4,.pc 0 0)],[.cells 51 [k0 v4,.int .i64 (0:Int),nS]]⟩ ?_ z0 ?_
    ·kernel_rfl
    refine AWp.exit ?_
    cases h
    exact Or.inr ⟨_,rfl,by simp,rfl,rfl⟩
  ·intro e σ hp
   rcases y with v11 | v5
   ·obtain ⟨rfl,rfl⟩:=hp
    cases h
    exact ⟨.inr rfl,rfl⟩
   ·obtain ⟨rfl,rfl⟩:=hp
    refine AWp.seq ?_
    refine AWp.start [0] [1] [] [4,52] 1 ⟨[(4,.pc 0 0),(52,.pc 0 0)],[.cells 51 [k0 v5,.int .i64 (0:Int),nS]]⟩ rfl ?_ z0 trivial ?_
    ·kernel_rfl
    refine AOps.retell 0 2 rfl (.nilOwn 2 44 (fun i=>c43 (([]:List T43).getD i default))) ?_
    obtain ⟨v12,hv12,h⟩:=of_bind h
    refine AOps.cons (AOne.callO (F:=(FF 55 0)) _ rfl rfl rfl 53 rfl rfl 32 [] rfl Try.call32 [0] (by decide) [.pc 0 0] (by kernel_rfl) [.cells 51 [k0 v5,.int .i64 (0:Int),k1 ([]:List T43)]] (by kernel_rfl) (f32o_ok (T50.mk v5 (0:Int) ([]:List T43)) hv12) (by kernel_rfl) (by kernel_rfl) _ rfl) ?_
    refine AOps.keepTo [4] 1 ⟨[(4,.pc 0 0)],[.cells 51 [k0 v12.f0,.int .i64 v12.f1,k1 v12.f2]]⟩ ?_ z0 ?_
    ·kernel_rfl
    refine AOps.nil ?_
    refine AWp.seq ?_
    refine AWp.start [0,1,2] [] [] [2,3] 1 ⟨[(2,.pc 0 0),(3,tI (0:Int))],[.cells 51 [k0 v12.f0,.int .i64 v12.f1,k1 v12.f2]]⟩ rfl ?_ z0 trivial ?_
    ·kernel_rfl
    refine AOps.nil ?_
    refine AWp.ret ?_
    cases h
    exact ⟨.inr rfl,rfl⟩

noncomputable def f41 (v1:Int) (v2:T50):Option Bool :=
 (f42 v2 v1).bind fun v3=>some (!v3)

theorem f41_ok (v1:Int) (v2:T50) {r:Bool} (h:f41 v1 v2 = some r):ACall Try.prog 41 [.tv (.int .i64 v1),.rp [.pr [fzL 27 c60 v2.f0,.int .i64 v2.f1,fzL 2 c43 v2.f2]]] [] (.tv (.bool r)) []:=by
 refine ACall.of1 (FF 8 0) Try.func41 rfl Try.ntmps41 Try.results41 (zz rfl) rfl rfl ?_
 refine AWp.seq ?_
 refine AWp.start [0] [] [] [0,1] 0 ⟨[(0,tI v1),(1,.rp [.pr (c50 v2)])],[]⟩ rfl ?_ z0 trivial ?_
 ·kernel_rfl
 refine AOps.nil ?_
 refine AWp.seq ?_
 refine AWp.start [0,1] [2,3,4] [] [4,5] 0 ⟨[(4,.rp (c50 v2)),(5,tI v1)],[]⟩ rfl ?_ z0 trivial ?_
 ·kernel_rfl
 obtain ⟨v3,hv3,h⟩:=of_bind h
 refine AOps.cons (AOne.callP (F:=(FF 8 0)) _ rfl rfl rfl _ rfl rfl _ _ rfl Try.call42 [.rp (c50 v2),tI v1] rfl rfl (f42_ok v2 v1 hv3) rfl) ?_
 refine AOps.go [3,4] [] [] [3] 0 ⟨[(3,tB (!v3))],[]⟩ ?_ z0 trivial ?_
 ·kernel_rfl
 refine AOps.nil ?_
 refine AWp.ret ?_
 cases h
 exact ⟨.inr rfl,rfl⟩

noncomputable def f76_41_b1 (v1:List Int) (v2:T50) (v3:Int):Option (Int ⊕ Out Int Unit) :=
 cond (decide (v3 < (v1.length:Int))) (if (0:Int) ≤ v3 ∧ v3 < (v1.length:Int) then (f41 (v1.getD v3.toNat default) v2).bind fun v4=>cond v4 (some (.inr (.ret v3))) (some (.inl (w64 (v3 + (1:Int))))) else none) (some (.inr (.go ())))

noncomputable def f76_41 (v1:List Int) (v2:T50):Option Int :=
 (iter (fun s=>f76_41_b1 v1 v2 s) (0:Int)).bind fun y=>match y with | .ret v5=>some v5 | .go _=>some (-1:Int)

theorem f76_41_ok (v1:List Int) (v2:T50) {r:Int} (h:f76_41 v1 v2 = some r):ACall Try.prog 76 [.tv (fzL 1 (cInt .i64) v1),.fn 41 [.rp [.pr [fzL 27 c60 v2.f0,.int .i64 v2.f1,fzL 2 c43 v2.f2]]]] [] (.tv (.int .i64 r)) []:=by
 refine ACall.of1 (FF 19 0) Try.func76 rfl Try.ntmps76 Try.results76 (zz rfl) rfl rfl ?_
 refine AWp.seq ?_
 refine AWp.start [0] [] [] [0,1] 0 ⟨[(0,q0 v1),(1,.fn 41 [.rp [.pr (c50 v2)]])],[]⟩ rfl ?_ z0 trivial ?_
 ·kernel_rfl
 refine AOps.nil ?_
 refine AWp.seq ?_
 refine AWp.seq ?_
 refine AWp.start [0,1,2] [] [] [0,1,7,8] 0 ⟨[(0,q0 v1),(1,.fn 41 [.rp [.pr (c50 v2)]]),(7,tI (v1.length:Int)),(8,tI (0:Int))],[]⟩ rfl ?_ z0 trivial ?_
 ·kernel_rfl
 refine AOps.nil ?_
 refine AWp.block ?_
 obtain ⟨y,hy,h⟩:=of_bind h
 refine AWp.mono (AWp.loop (S:=Int) (Y:=Out Int Unit) (fun s=>⟨[(0,q0 v1),(1,.fn 41 [.rp [.pr (c50 v2)]]),(7,tI (v1.length:Int)),(8,tI s)],[]⟩) (fun s=>f76_41_b1 v1 v2 s) (fun y e σ=>match y with | .ret r=>e = .ret ∧ σ = ⟨[(4,tI r)],[]⟩ | .go v=>e = .exit 0 ∧ σ = ⟨[],[]⟩) ?_ hy) ?_
 ·rintro v3 o h
  refine AWp.seq ?_
  refine AWp.start [0] [] [] [0,1,7,8,9] 0 ⟨[(0,q0 v1),(1,.fn 41 [.rp [.pr (c50 v2)]]),(7,tI (v1.length:Int)),(8,tI v3),(9,tB (decide (v3 < (v1.length:Int))))],[]⟩ rfl ?_ z0 trivial ?_
  ·kernel_rfl
  refine AOps.nil ?_
  refine AWp.seq ?_
  refine AWp.cond rfl (fun hb=>?_) fun hb=>?_
  ·replace h:=of_true h hb
   refine AWp.keepTo [0,1,7,8] 0 ⟨[(0,q0 v1),(1,.fn 41 [.rp [.pr (c50 v2)]]),(7,tI (v1.length:Int)),(8,tI v3)],[]⟩ ?_ z0 ?_
   ·kernel_rfl
   refine AWp.skip ?_
   refine AWp.seq ?_
   refine AWp.block ?_
   refine AWp.seq ?_
   refine AWp.start [0,1] [] [] [0,1,5,7,8] 0 ⟨[(0,q0 v1),(1,.fn 41 [.rp [.pr (c50 v2)]]),(5,tI v3),(7,tI (v1.length:Int)),(8,tI v3)],[]⟩ rfl ?_ z0 trivial ?_
   ·kernel_rfl
   refine AOps.nil ?_
   refine AWp.seq ?_
   obtain ⟨hg,h⟩:=of_guard h
   refine AWp.start [0,1,2,3,4] [5] [(0:Int) ≤ v3,v3 < (v1.length:Int)] [0,1,5,7,8,11,15] 0 ⟨[(0,q0 v1),(1,.fn 41 [.rp [.pr (c50 v2)]]),(5,tI v3),(7,tI (v1.length:Int)),(8,tI v3),(11,.fn 41 [.rp [.pr (c50 v2)]]),(15,tI (gD v1 v3))],[]⟩ rfl ?_ z0 ⟨hg.1,hg.2⟩ ?_
   ·kernel_rfl
   obtain ⟨v4,hv4,h⟩:=of_bind h
   refine AOps.cons (AOne.callP (F:=(FF 19 0)) _ rfl rfl rfl _ rfl rfl _ _ rfl Try.call41 [tI (gD v1 v3),.rp [.pr (c50 v2)]] rfl rfl (f41_ok (gD v1 v3) v2 hv4) rfl) ?_
   refine AOps.keepTo [0,1,5,7,8,16] 0 ⟨[(0,q0 v1),(1,.fn 41 [.rp [.pr (c50 v2)]]),(5,tI v3),(7,tI (v1.length:Int)),(8,tI v3),(16,tB v4)],[]⟩ ?_ z0 ?_
   ·kernel_rfl
   refine AOps.nil ?_
   refine AWp.cond rfl (fun hb=>?_) fun hb=>?_
   ·replace h:=of_true h hb
    refine AWp.keepTo [5] 0 ⟨[(5,tI v3)],[]⟩ ?_ z0 ?_
    ·kernel_rfl
    refine AWp.seq ?_
    refine AWp.start [0,1] [] [] [4] 0 ⟨[(4,tI v3)],[]⟩ rfl ?_ z0 trivial ?_
    ·kernel_rfl
    refine AOps.nil ?_
    refine AWp.ret ?_
    cases h
    exact Or.inr ⟨_,rfl,by simp,rfl,rfl⟩
   ·replace h:=of_false h hb
    refine AWp.keepTo [0,1,7,8] 0 ⟨[(0,q0 v1),(1,.fn 41 [.rp [.pr (c50 v2)]]),(7,tI (v1.length:Int)),(8,tI v3)],[]⟩ ?_ z0 ?_
    ·kernel_rfl
    refine AWp.skip ?_
    refine AWp.start [0,1] [] [] [0,1,7,8] 0 ⟨[(0,q0 v1),(1,.fn 41 [.rp [.pr (c50 v2)]]),(7,tI (v1.length:Int)),(8,tI (w64 (v3 + (1:Int))))],[]⟩ rfl ?_ z0 trivial ?_
    ·kernel_rfl
    refine AOps.nil ?_
    cases h
    exact Or.inl ⟨_,rfl,rfl,rfl⟩
  ·replace h:=of_false h hb
   refine AWp.keepTo [] 0 ⟨[],[]⟩ ?_ z0 ?_
   ·kernel_rfl
   refine AWp.exit ?_
   cases h
   exact Or.inr ⟨_,rfl,by simp,rfl,rfl⟩
 ·intro e σ hp
  rcases y with v5 | _
  ·obtain ⟨rfl,rfl⟩:=hp
   cases h
   exact ⟨.inr rfl,rfl⟩
  ·obtain ⟨rfl,rfl⟩:=hp
   refine AWp.seq ?_
   refine AWp.start [0] [] [] [4] 0 ⟨[(4,tI (-1:Int))],[]⟩ rfl ?_ z0 trivial ?_
   ·kernel_rfl
   refine AOps.nil ?_
   refine AWp.ret ?_
   cases h
   exact ⟨.inr rfl,rfl⟩

noncomputable def f40_41 (v1:List Int) (v2:T50):Option Bool :=
 (f76_41 v1 v2).bind fun v3=>some (decide (v3 ≥ (0:Int)))

theorem f40_41_ok (v1:List Int) (v2:T50) {r:Bool} (h:f40_41 v1 v2 = some r):ACall Try.prog 40 [.tv (fzL 1 (cInt .i64) v1),.fn 41 [.rp [.pr [fzL 27 c60 v2.f0,.int .i64 v2.f1,fzL 2 c43 v2.f2]]]] [] (.tv (.bool r)) []:=by
 refine ACall.of1 (FF 9 0) Try.func40 rfl Try.ntmps40 Try.results40 (zz rfl) rfl rfl ?_
 refine AWp.seq ?_
 refine AWp.start [0] [] [] [0,1] 0 ⟨[(0,q0 v1),(1,.fn 41 [.rp [.pr (c50 v2)]])],[]⟩ rfl ?_ z0 trivial ?_
 ·kernel_rfl
 refine AOps.nil ?_
 refine AWp.seq ?_
 refine AWp.start [0,1] [2,3,4] [] [5,6] 0 ⟨[(5,q0 v1),(6,.fn 41 [.rp [.pr (c50 v2)]])],[]⟩ rfl ?_ z0 trivial ?_
 ·kernel_rfl
 obtain ⟨v3,hv3,h⟩:=of_bind h
 refine AOps.cons (AOne.callP (F:=(FF 9 0)) _ rfl rfl rfl _ rfl rfl _ _ rfl Try.call76 [q0 v1,.fn 41 [.rp [.pr (c50 v2)]]] rfl rfl (f76_41_ok v1 v2 hv3) rfl) ?_
 refine AOps.go [3,4] [] [] [4] 0 ⟨[(4,tB (decide (v3 ≥ (0:Int))))],[]⟩ ?_ z0 trivial ?_
 ·kernel_rfl
 refine AOps.nil ?_
 refine AWp.ret ?_
 cases h
 exact ⟨.inr rfl,rfl⟩

noncomputable def f16o_b1 (v1:List Int) (v5:Int) (v6:List T60) (v7:Int) (v8:List T43):Option ((Int × (List T60) × Int × (List T43)) ⊕ Out (Int × T50) ((List T60) × Int × (List T43))) :=
 cond (decide (v5 < (v1.length:Int))) (if (0:Int) ≤ v5 ∧ v5 < (v1.length:Int) then (f43o (v1.getD v5.toNat default) (T50.mk v6 v7 v8)).bind fun v12=>some (.inl (w64 (v5 + (1:Int)),v12.2.f0,v12.2.f1,v12.2.f2)) else none) (some (.inr (.go (v6,v7,v8))))

noncomputable def f16o_j2 (v22:Int) (v30:Bool) (v31:List T60) (v32:Int) (v33:List T43):Option ((Bool × Int × (List T60) × Int × (List T43)) ⊕ Out (Int × T50) (Bool × (List T60) × Int × (List T43))) :=
 some (.inl (v30,w64 (v22 + (1:Int)),v31,v32,v33))

noncomputable def f16o_b3 (v21:Bool) (v22:Int) (v23:List T60) (v24:Int) (v25:List T43):Option ((Bool × Int × (List T60) × Int × (List T43)) ⊕ Out (Int × T50) (Bool × (List T60) × Int × (List T43))) :=
 cond (decide (v22 < (v23.length:Int))) ((f43o v22 (T50.mk v23 v24 v25)).bind fun v34=>cond v34.1 (f16o_j2 v22 true v34.2.f0 v34.2.f1 v34.2.f2) (f16o_j2 v22 v21 v34.2.f0 v34.2.f1 v34.2.f2)) (some (.inr (.go (v21,v23,v24,v25))))

noncomputable def f16o_b4 (v14:Bool) (v15:List T60) (v16:Int) (v17:List T43):Option ((Bool × (List T60) × Int × (List T43)) ⊕ Out (Int × T50) ((List T60) × Int × (List T43))) :=
 cond v14 ((iter (fun s=>f16o_b3 s.1 s.2.1 s.2.2.1 s.2.2.2.1 s.2.2.2.2) (false,(1:Int),v15,v16,v17)).bind fun y=>match y with | .ret v35=>some (.inr (.ret v35)) | .go (v26,v27,v28,v29)=>some (.inl (v26,v27,v28,v29))) (some (.inr (.go (v15,v16,v17))))

noncomputable def f16o (v1:List Int) (v2:T50):Option (Int × T50) :=
 (f39 v2).bind fun v3=>cond v3 (some ((7:Int),T50.mk v2.f0 v2.f1 v2.f2)) ((f40_41 v1 v2).bind fun v4=>cond v4 (some ((2:Int),T50.mk v2.f0 v2.f1 v2.f2)) ((iter (fun s=>f16o_b1 v1 s.1 s.2.1 s.2.2.1 s.2.2.2) ((0:Int),v2.f0,v2.f1,v2.f2)).bind fun y=>match y with | .ret v13=>some v13 | .go (v9,v10,v11)=>(iter (fun s=>f16o_b4 s.1 s.2.1 s.2.2.1 s.2.2.2) (true,v9,v10,v11)).bind fun y=>match y with | .ret v36=>some v36 | .go (v18,v19,v20)=>some ((0:Int),T50.mk v18 v19 v20)))

theorem f16o_ok (v1:List Int) (v2:T50) {r:Int × T50} (h:f16o v1 v2 = some r):ACall Try.prog 16 [.pc 0 0,.tv (fzL 1 (cInt .i64) v1)] [.cells 51 [ownL 27 61 o60 v2.f0,.int .i64 v2.f1,ownL 2 44 c43 v2.f2]] (.tv (.int .i64 r.1)) [.cells 51 [ownL 27 61 o60 r.2.f0,.int .i64 r.2.f1,ownL 2 44 c43 r.2.f2]]:=by
 refine ACall.of1 (FF 39 1) Try.func16 rfl Try.ntmps16 Try.results16 (zz rfl) rfl rfl ?_
 refine AWp.seq ?_
 refine AWp.start [] [0,1] [] [0,1] 1 ⟨[(0,.pc 0 0),(1,q0 v1)],[.cells 51 [k0 v2.f0,.int .i64 v2.f1,k1 v2.f2]]⟩ rfl ?_ (zz rfl) trivial ?_
 ·kernel_rfl
 refine AOps.cons (AOne.boxP (F:=(FF 39 1)) _ rfl rfl rfl 2 rfl rfl (o':=0) (off:=0) rfl) ?_
 refine AOps.go [1] [] [] [1,2] 1 ⟨[(1,q0 v1),(2,.rpc 0 0)],[.cells 51 [k0 v2.f0,.int .i64 v2.f1,k1 v2.f2]]⟩ ?_ (zz rfl) trivial ?_
 ·kernel_rfl
 refine AOps.nil ?_
 refine AWp.seq ?_
 refine AWp.block ?_
 refine AWp.seq ?_
 refine AWp.start [0] [1,2] [] [1,2,10] 1 ⟨[(1,q0 v1),(2,.rpc 0 0),(10,.pc 0 0)],[.cells 51 [k0 v2.f0,.int .i64 v2.f1,k1 v2.f2]]⟩ rfl ?_ (zz rfl) trivial ?_
 ·kernel_rfl
 obtain ⟨v3,hv3,h⟩:=of_bind h
 refine AOps.cons (AOne.callV (F:=(FF 39 1)) _ rfl rfl rfl 11 rfl rfl 39 [] rfl Try.call39 [.pc 0 0] [.rp (c50 v2)] rfl (.cons (.pc rfl (.cons (.ownL seen60) (.keep rfl (.cons (.ownL (fun _=>.plain rfl)) .nil)))) .nil) (f39_ok v2 hv3) (ind_of rfl) rfl) ?_
 refine AOps.go [2] [] [] [1,2,9] 1 ⟨[(1,q0 v1),(2,.rpc 0 0),(9,tB v3)],[.cells 51 [k0 v2.f0,.int .i64 v2.f1,k1 v2.f2]]⟩ ?_ (zz rfl) trivial ?_
 ·kernel_rfl
 refine AOps.nil ?_
 refine AWp.cond rfl (fun hb=>?_) fun hb=>?_
 ·replace h:=of_true h hb
  refine AWp.keepTo [] 1 ⟨[],[.cells 51 [k0 v2.f0,.int .i64 v2.f1,k1 v2.f2]]⟩ ?_ (zz rfl) ?_
  ·kernel_rfl
  refine AWp.seq ?_
  refine AWp.start [0] [] [] [4] 1 ⟨[(4,tI (7:Int))],[.cells 51 [k0 v2.f0,.int .i64 v2.f1,k1 v2.f2]]⟩ rfl ?_ (zz rfl) trivial ?_
  ·kernel_rfl
  refine AOps.nil ?_
  refine AWp.ret ?_
  cases h
  exact ⟨.inr rfl,rfl⟩
 ·replace h:=of_false h hb
  refine AWp.keepTo [1,2] 1 ⟨[(1,q0 v1),(2,.rpc 0 0)],[.cells 51 [k0 v2.f0,.int .i64 v2.f1,k1 v2.f2]]⟩ ?_ (zz rfl) ?_
  ·kernel_rfl
  refine AWp.seq ?_
  refine AWp.start [0,1] [2,3] [] [1,2,13,14] 1 ⟨[(1,q0 v1),(2,.rpc 0 0),(13,q0 v1),(14,.fn 41 [.rpc 0 0])],[.cells 51 [k0 v2.f0,.int .i64 v2.f1,k1 v2.f2]]⟩ rfl ?_ (zz rfl) trivial ?_
  ·kernel_rfl
  obtain ⟨v4,hv4,h⟩:=of_bind h
  refine AOps.cons (AOne.callV (F:=(FF 39 1)) _ rfl rfl rfl 15 rfl rfl 40 [] rfl Try.call40 [q0 v1,.fn 41 [.rpc 0 0]] [q0 v1,.fn 41 [.rp [.pr (c50 v2)]]] rfl (.cons (.old rfl) (.cons (.fnL (.cons (.rpc rfl (.cons (.ownL seen60) (.keep rfl (.cons (.ownL (fun _=>.plain rfl)) .nil)))) .nil) rfl rfl) .nil)) (f40_41_ok v1 v2 hv4) (ind_of rfl) rfl) ?_
  refine AOps.go [3] [] [] [1,2,12] 1 ⟨[(1,q0 v1),(2,.rpc 0 0),(12,tB v4)],[.cells 51 [k0 v2.f0,.int .i64 v2.f1,k1 v2.f2]]⟩ ?_ (zz rfl) trivial ?_
  ·kernel_rfl
  refine AOps.nil ?_
  refine AWp.cond rfl (fun hb=>?_) fun hb=>?_
  ·replace h:=of_true h hb
   refine AWp.keepTo [] 1 ⟨[],[.cells 51 [k0 v2.f0,.int .i64 v2.f1,k1 v2.f2]]⟩ ?_ (zz rfl) ?_
   ·kernel_rfl
   refine AWp.seq ?_
   refine AWp.start [0] [] [] [4] 1 ⟨[(4,tI (2:Int))],[.cells 51 [k0 v2.f0,.int .i64 v2.f1,k1 v2.f2]]⟩ rfl ?_ (zz rfl) trivial ?_
   ·kernel_rfl
   refine AOps.nil ?_
   refine AWp.ret ?_
   cases h
   exact ⟨.inr rfl,rfl⟩
  ·replace h:=of_false h hb
   refine AWp.keepTo [1,2] 1 ⟨[(1,q0 v1),(2,.rpc 0 0)],[.cells 51 [k0 v2.f0,.int .i64 v2.f1,k1 v2.f2]]⟩ ?_ (zz rfl) ?_
   ·kernel_rfl
   refine AWp.skip ?_
   refine AWp.seq ?_
   refine AWp.seq ?_
   refine AWp.start [0,1,2] [] [] [2,16,17,18] 1 ⟨[(2,.rpc 0 0),(16,q0 v1),(17,tI (v1.length:Int)),(18,tI (0:Int))],[.cells 51 [k0 v2.f0,.int .i64 v2.f1,k1 v2.f2]]⟩ rfl ?_ (zz rfl) trivial ?_
   ·kernel_rfl
   refine AOps.nil ?_
   refine AWp.block ?_
   obtain ⟨y,hy,h⟩:=of_bind h
   refine AWp.mono (AWp.loop (S:=Int × (List T60) × Int × (List T43)) (Y:=Out (Int × T50) ((List T60) × Int × (List T43))) (fun s=>⟨[(2,.rpc 0 0),(16,q0 v1),(17,tI (v1.length:Int)),(18,tI s.1)],[.cells 51 [k0 s.2.1,.int .i64 s.2.2.1,k1 s.2.2.2]]⟩) (fun s=>f16o_b1 v1 s.1 s.2.1 s.2.2.1 s.2.2.2) (fun y e σ=>match y with | .ret r=>e = .ret ∧ σ = ⟨[(4,tI r.1)],[.cells 51 [k0 r.2.f0,.int .i64 r.2.f1,k1 r.2.f2]]⟩ | .go v=>e = .exit 1 ∧ σ = ⟨[(2,.rpc 0 0)],[.cells 51 [k0 v.1,.int .i64 v.2.1,k1 v.2.2]]⟩) ?_ hy) ?_
   ·rintro ⟨v5,v6,v7,v8⟩ o h
    refine AWp.seq ?_
    refine AWp.start [0] [] [] [2,16,17,18,19] 1 ⟨[(2,.rpc 0 0),(16,q0 v1),(17,tI (v1.length:Int)),(18,tI v5),(19,tB (decide (v5 < (v1.length:Int))))],[.cells 51 [k0 v6,.int .i64 v7,k1 v8]]⟩ rfl ?_ (zz rfl) trivial ?_
    ·kernel_rfl
    refine AOps.nil ?_
    refine AWp.seq ?_
    refine AWp.cond rfl (fun hb=>?_) fun hb=>?_
    ·replace h:=of_true h hb
     refine AWp.keepTo [2,16,17,18] 1 ⟨[(2,.rpc 0 0),(16,q0 v1),(17,tI (v1.length:Int)),(18,tI v5)],[.cells 51 [k0 v6,.int .i64 v7,k1 v8]]⟩ ?_ (zz rfl) ?_
     ·kernel_rfl
     refine AWp.skip ?_
     refine AWp.seq ?_
     refine AWp.block ?_
     refine AWp.seq ?_
     obtain ⟨hg,h⟩:=of_guard h
     refine AWp.start [0,1,2] [] [(0:Int) ≤ v5,v5 < (v1.length:Int)] [2,6,16,17,18] 1 ⟨[(2,.rpc 0 0),(6,tI (gD v1 v5)),(16,q0 v1),(17,tI (v1.length:Int)),(18,tI v5)],[.cells 51 [k0 v6,.int .i64 v7,k1 v8]]⟩ rfl ?_ (zz rfl) ⟨hg.1,hg.2⟩ ?_
     ·kernel_rfl
     refine AOps.nil ?_
     refine AWp.start [0,1] [2] [] [2,16,17,18,22,23] 1 ⟨[(2,.rpc 0 0),(16,q0 v1),(17,tI (v1.length:Int)),(18,tI v5),(22,.pc 0 0),(23,tI (gD v1 v5))],[.cells 51 [k0 v6,.int .i64 v7,k1 v8]]⟩ rfl ?_ (zz rfl) trivial ?_
     ·kernel_rfl
     obtain ⟨v12,hv12,h⟩:=of_bind h
     refine AOps.cons (AOne.callO (F:=(FF 39 1)) _ rfl rfl rfl 24 rfl rfl 43 [] rfl Try.call43 [0] (by decide) [.pc 0 0,tI (gD v1 v5)] (by kernel_rfl) [.cells 51 [k0 v6,.int .i64 v7,k1 v8]] (by kernel_rfl) (f43o_ok (gD v1 v5) (T50.mk v6 v7 v8) hv12) (by kernel_rfl) (by kernel_rfl) _ rfl) ?_
     refine AOps.keepTo [2,16,17,18] 1 ⟨[(2,.rpc 0 0),(16,q0 v1),(17,tI (v1.length:Int)),(18,tI v5)],[.cells 51 [k0 v12.2.f0,.int .i64 v12.2.f1,k1 v12.2.f2]]⟩ ?_ (zz rfl) ?_
     ·kernel_rfl
     refine AOps.nil ?_
     refine AWp.start [0,1] [] [] [2,16,17,18] 1 ⟨[(2,.rpc 0 0),(16,q0 v1),(17,tI (v1.length:Int)),(18,tI (w64 (v5 + (1:Int))))],[.cells 51 [k0 v12.2.f0,.int .i64 v12.2.f1,k1 v12.2.f2]]⟩ rfl ?_ (zz rfl) trivial ?_
     ·kernel_rfl
     refine AOps.nil ?_
     cases h
     exact Or.inl ⟨_,rfl,rfl,rfl⟩
    ·replace h:=of_false h hb
     refine AWp.keepTo [2] 1 ⟨[(2,.rpc 0 0)],[.cells 51 [k0 v6,.int .i64 v7,k1 v8]]⟩ ?_ (zz rfl) ?_
     ·kernel_rfl
     refine AWp.exit ?_
     cases h
     exact Or.inr ⟨_,rfl,by simp,rfl,rfl⟩
   ·intro e σ hp
    rcases y with v13 | ⟨v9,v10,v11⟩
    ·obtain ⟨rfl,rfl⟩:=hp
     cases h
     exact ⟨.inr rfl,rfl⟩
    ·obtain ⟨rfl,rfl⟩:=hp
     refine AWp.seq ?_
     refine AWp.seq ?_
     refine AWp.start [0] [] [] [2,7] 1 ⟨[(2,.rpc 0 0),(7,tB true)],[.cells 51 [k0 v9,.int .i64 v10,k1 v11]]⟩ rfl ?_ (zz rfl) trivial ?_
     ·kernel_rfl
     refine AOps.nil ?_
     refine AWp.block ?_
     obtain ⟨y,hy,h⟩:=of_bind h
     refine AWp.mono (AWp.loop (S:=Bool × (List T60) × Int × (List T43)) (Y:=Out (Int × T50) ((List T60) × Int × (List T43))) (fun s=>⟨[(2,.rpc 0 0),(7,tB s.1)],[.cells 51 [k0 s.2.1,.int .i64 s.2.2.1,k1 s.2.2.2]]⟩) (fun s=>f16o_b4 s.1 s.2.1 s.2.2.1 s.2.2.2) (fun y e σ=>match y with | .ret r=>e = .ret ∧ σ = ⟨[(4,tI r.1)],[.cells 51 [k0 r.2.f0,.int .i64 r.2.f1,k1 r.2.f2]]⟩ | .go v=>e = .exit 3 ∧ σ = ⟨[],[.cells 51 [k0 v.1,.int .i64 v.2.1,k1 v.2.2]]⟩) ?_ hy) ?_
     ·rintro ⟨v14,v15,v16,v17⟩ o h
      refine AWp.seq ?_
      refine AWp.seq ?_
      refine AWp.start [0] [] [] [2,26] 1 ⟨[(2,.rpc 0 0),(26,tB v14)],[.cells 51 [k0 v15,.int .i64 v16,k1 v17]]⟩ rfl ?_ (zz rfl) trivial ?_
      ·kernel_rfl
      refine AOps.nil ?_
      refine AWp.cond rfl (fun hb=>?_) fun hb=>?_
      ·replace h:=of_true h hb
       refine AWp.keepTo [2] 1 ⟨[(2,.rpc 0 0)],[.cells 51 [k0 v15,.int .i64 v16,k1 v17]]⟩ ?_ (zz rfl) ?_
       ·kernel_rfl
       refine AWp.skip ?_
       refine AWp.block ?_
       refine AWp.seq ?_
       refine AWp.start [0] [] [] [2,7] 1 ⟨[(2,.rpc 0 0),(7,tB false)],[.cells 51 [k0 v15,.int .i64 v16,k1 v17]]⟩ rfl ?_ (zz rfl) trivial ?_
       ·kernel_rfl
       refine AOps.nil ?_
       refine AWp.seq ?_
       refine AWp.start [0] [] [] [2,7,8] 1 ⟨[(2,.rpc 0 0),(7,tB false),(8,tI (1:Int))],[.cells 51 [k0 v15,.int .i64 v16,k1 v17]]⟩ rfl ?_ (zz rfl) trivial ?_
       ·kernel_rfl
       refine AOps.nil ?_
       refine AWp.block ?_
       obtain ⟨y,hy,h⟩:=of_bind h
       refine AWp.mono (AWp.loop (S:=Bool × Int × (List T60) × Int × (List T43)) (Y:=Out (Int × T50) (Bool × (List T60) × Int × (List T43))) (fun s=>⟨[(2,.rpc 0 0),(7,tB s.1),(8,tI s.2.1)],[.cells 51 [k0 s.2.2.1,.int .i64 s.2.2.2.1,k1 s.2.2.2.2]]⟩) (fun s=>f16o_b3 s.1 s.2.1 s.2.2.1 s.2.2.2.1 s.2.2.2.2) (fun y e σ=>match y with | .ret r=>e = .ret ∧ σ = ⟨[(4,tI r.1)],[.cells 51 [k0 r.2.f0,.int .i64 r.2.f1,k1 r.2.f2]]⟩ | .go v=>e = .exit 5 ∧ σ = ⟨[(2,.rpc 0 0),(7,tB v.1)],[.cells 51 [k0 v.2.1,.int .i64 v.2.2.1,k1 v.2.2.2]]⟩) ?_ hy) ?_
       ·rintro ⟨v21,v22,v23,v24,v25⟩ o h
        refine AWp.seq ?_
        refine AWp.seq ?_
        refine AWp.start [0,1,2,3,4,5,6] [] [] [2,7,8,33] 1 ⟨[(2,.rpc 0 0),(7,tB v21),(8,tI v22),(33,tB (decide (v22 < (v23.length:Int))))],[.cells 51 [k0 v23,.int .i64 v24,k1 v25]]⟩ rfl ?_ (zz rfl) trivial ?_
        ·kernel_rfl
        refine AOps.nil ?_
        refine AWp.cond rfl (fun hb=>?_) fun hb=>?_
        ·replace h:=of_true h hb
         refine AWp.keepTo [2,7,8] 1 ⟨[(2,.rpc 0 0),(7,tB v21),(8,tI v22)],[.cells 51 [k0 v23,.int .i64 v24,k1 v25]]⟩ ?_ (zz rfl) ?_
         ·kernel_rfl
         refine AWp.skip ?_
         refine AWp.join (V:=Bool × (List T60) × Int × (List T43)) (fun w=>⟨[(2,.rpc 0 0),(7,tB w.1),(8,tI v22)],[.cells 51 [k0 w.2.1,.int .i64 w.2.2.1,k1 w.2.2.2]]⟩) (fun w=>f16o_j2 v22 w.1 w.2.1 w.2.2.1 w.2.2.2 = some o) ?_ ?_
         ·refine AWp.block ?_
          refine AWp.seq ?_
          refine AWp.start [0,1] [2] [] [2,7,8,36,37] 1 ⟨[(2,.rpc 0 0),(7,tB v21),(8,tI v22),(36,.pc 0 0),(37,tI v22)],[.cells 51 [k0 v23,.int .i64 v24,k1 v25]]⟩ rfl ?_ (zz rfl) trivial ?_
          ·kernel_rfl
          obtain ⟨v34,hv34,h⟩:=of_bind h
          refine AOps.cons (AOne.callO (F:=(FF 39 1)) _ rfl rfl rfl 38 rfl rfl 43 [] rfl Try.call43 [0] (by decide) [.pc 0 0,tI v22] (by kernel_rfl) [.cells 51 [k0 v23,.int .i64 v24,k1 v25]] (by kernel_rfl) (f43o_ok v22 (T50.mk v23 v24 v25) hv34) (by kernel_rfl) (by kernel_rfl) _ rfl) ?_
          refine AOps.keepTo [2,7,8,38] 1 ⟨[(2,.rpc 0 0),(7,tB v21),(8,tI v22),(38,tB v34.1)],[.cells 51 [k0 v34.2.f0,.int .i64 v34.2.f1,k1 v34.2.f2]]⟩ ?_ (zz rfl) ?_
          ·kernel_rfl
          refine AOps.nil ?_
          refine AWp.cond rfl (fun hb=>?_) fun hb=>?_
          ·replace h:=of_true h hb
           refine AWp.keepTo [2,8] 1 ⟨[(2,.rpc 0 0),(8,tI v22)],[.cells 51 [k0 v34.2.f0,.int .i64 v34.2.f1,k1 v34.2.f2]]⟩ ?_ (zz rfl) ?_
           ·kernel_rfl
           refine AWp.start [0] [] [] [2,7,8] 1 ⟨[(2,.rpc 0 0),(7,tB true),(8,tI v22)],[.cells 51 [k0 v34.2.f0,.int .i64 v34.2.f1,k1 v34.2.f2]]⟩ rfl ?_ (zz rfl) trivial ?_
           ·kernel_rfl
           refine AOps.nil ?_
           exact ⟨(true,v34.2.f0,v34.2.f1,v34.2.f2),h,rfl⟩
          ·replace h:=of_false h hb
           refine AWp.keepTo [2,7,8] 1 ⟨[(2,.rpc 0 0),(7,tB v21),(8,tI v22)],[.cells 51 [k0 v34.2.f0,.int .i64 v34.2.f1,k1 v34.2.f2]]⟩ ?_ (zz rfl) ?_
           ·kernel_rfl
           refine AWp.skip ?_
           exact ⟨(v21,v34.2.f0,v34.2.f1,v34.2.f2),h,rfl⟩
         ·rintro ⟨v30,v31,v32,v33⟩ h
          refine AWp.start [0,1,2] [] [] [2,7,8] 1 ⟨[(2,.rpc 0 0),(7,tB v30),(8,tI (w64 (v22 + (1:Int))))],[.cells 51 [k0 v31,.int .i64 v32,k1 v33]]⟩ rfl ?_ (zz rfl) trivial ?_
          ·kernel_rfl
          refine AOps.nil ?_
          cases h
          exact Or.inl ⟨_,rfl,rfl,rfl⟩
        ·replace h:=of_false h hb
         refine AWp.keepTo [2,7] 1 ⟨[(2,.rpc 0 0),(7,tB v21)],[.cells 51 [k0 v23,.int .i64 v24,k1 v25]]⟩ ?_ (zz rfl) ?_
         ·kernel_rfl
         refine AWp.exit ?_
         cases h
         exact Or.inr ⟨_,rfl,by simp,rfl,rfl⟩
       ·intro e σ hp
        rcases y with v35 | ⟨v26,v27,v28,v29⟩
        ·obtain ⟨rfl,rfl⟩:=hp
         cases h
         exact Or.inr ⟨_,rfl,by simp,rfl,rfl⟩
        ·obtain ⟨rfl,rfl⟩:=hp
         cases h
         exact Or.inl ⟨_,rfl,rfl,rfl⟩
      ·replace h:=of_false h hb
       refine AWp.keepTo [] 1 ⟨[],[.cells 51 [k0 v15,.int .i64 v16,k1 v17]]⟩ ?_ (zz rfl) ?_
       ·kernel_rfl
       refine AWp.exit ?_
       cases h
       exact Or.inr ⟨_,rfl,by simp,rfl,rfl⟩
     ·intro e σ hp
      rcases y with v36 | ⟨v18,v19,v20⟩
      ·obtain ⟨rfl,rfl⟩:=hp
       cases h
       exact ⟨.inr rfl,rfl⟩
      ·obtain ⟨rfl,rfl⟩:=hp
       refine AWp.seq ?_
       refine AWp.start [0] [] [] [4] 1 ⟨[(4,tI (0:Int))],[.cells 51 [k0 v18,.int .i64 v19,k1 v20]]⟩ rfl ?_ (zz rfl) trivial ?_
       ·kernel_rfl
       refine AOps.nil ?_
       refine AWp.ret ?_
       cases h
       exact ⟨.inr rfl,rfl⟩

noncomputable def f69 (v1:T60):Option (List Int) :=
 some (arrL 4 v1.f4)

theorem f69_ok (v1:T60) {r:(List Int)} (h:f69 v1 = some r):ACall Try.prog 69 [.rp [fzL 3 c54 v1.f0,.int .i64 v1.f1,.str v1.f2,.int .i64 (v1.f3.getD 0 0),.int .i64 (v1.f3.getD 1 0),.int .i64 (v1.f3.getD 2 0),.int .i64 (v1.f3.getD 3 0),.int .i64 (v1.f3.getD 4 0),.int .i64 (v1.f3.getD 5 0),.int .i64 (v1.f3.getD 6 0),.int .i64 (v1.f3.getD 7 0),.int .i64 (v1.f3.getD 8 0),.int .i64 (v1.f3.getD 9 0),.int .i64 (v1.f4.getD 0 0),.int .i64 (v1.f4.getD 1 0),.int .i64 (v1.f4.getD 2 0),.int .i64 (v1.f4.getD 3 0),.int .i64 (v1.f5.getD 0 0),.int .i64 (v1.f5.getD 1 0),.int .i64 (v1.f5.getD 2 0),.int .i64 (v1.f5.getD 3 0),.int .i64 (v1.f6.getD 0 0),.int .i64 (v1.f6.getD 1 0),.int .i64 (v1.f6.getD 2 0),.int .i64 (v1.f6.getD 3 0),fzL 1 (cInt .i64) v1.f7,fmO .i64 (some .i64) v1.f8]] [] (.tv (fzL 1 (cInt .i64) r)) []:=by
 refine ACall.of1 (FF 7 0) Try.func69 rfl Try.ntmps69 Try.results69 (zz rfl) rfl rfl ?_
 refine AWp.seq ?_
 refine AWp.start [0] [] [] [0] 0 ⟨[(0,.rp (c60 v1))],[]⟩ rfl ?_ z0 trivial ?_
 ·kernel_rfl
 refine AOps.nil ?_
 refine AWp.seq ?_
 refine AWp.start [0,1,2,3] [4] [] [6] 0 ⟨[(6,.tv (.fz 1 4 (fun i=>[.int .i64 ((arrL 4 v1.f4).getD i 0)])))],[]⟩ rfl ?_ z0 trivial ?_
 ·kernel_rfl
 refine AOps.extFzL (s:=6) (n':=(arrL 4 v1.f4).length) (f':=fun i=>cInt .i64 ((arrL 4 v1.f4).getD i default)) rfl (arrL_length _ _).symm (fun _ _=>rfl) ?_
 refine AOps.go [4] [] [] [2] 0 ⟨[(2,q0 (arrL 4 v1.f4))],[]⟩ ?_ z0 trivial ?_
 ·kernel_rfl
 refine AOps.nil ?_
 refine AWp.ret ?_
 cases h
 exact ⟨.inr rfl,rfl⟩

noncomputable def f67_69 (v1:T50) (v2:Int):Option ((List Int) × Int) :=
 (f39 v1).bind fun v3=>cond v3 (some (([]:List Int),(7:Int))) ((f42 v1 v2).bind fun v4=>cond (!v4) (some (([]:List Int),(2:Int))) (if (0:Int) ≤ v2 ∧ v2 < (v1.f0.length:Int) then (f69 (v1.f0.getD v2.toNat default)).bind fun v5=>(f31 v5).bind fun v6=>some (v6,(0:Int)) else none))

theorem f67_69_ok (v1:T50) (v2:Int) {r:(List Int) × Int} (h:f67_69 v1 v2 = some r):ACall Try.prog 67 [.rp [fzL 27 c60 v1.f0,.int .i64 v1.f1,fzL 2 c43 v1.f2],.tv (.int .i64 v2),.fn 69 []] [] (.tup [.tv (ownL 1 3 (cInt .i64) r.1),.tv (.int .i64 r.2)]) []:=by
 refine ACall.ofN (FF 25 0) (rs:=[6,7]) (env:=[(6,q1 r.1),(7,tI r.2)]) Try.func67 rfl Try.ntmps67 Try.results67 (by decide) (by decide) rfl (zz rfl) rfl (get_ofN _ _ _ rfl) (ok_ofN _ rfl) ?_
 refine AWp.seq ?_
 refine AWp.start [0,1] [] [] [0,1,2] 0 ⟨[(0,.rp (c50 v1)),(1,tI v2),(2,.fn 69 [])],[]⟩ rfl ?_ z0 trivial ?_
 ·kernel_rfl
 refine AOps.nil ?_
 refine AWp.seq ?_
 refine AWp.block ?_
 refine AWp.seq ?_
 refine AWp.start [0] [1,2] [] [0,1,2,9] 0 ⟨[(0,.rp (c50 v1)),(1,tI v2),(2,.fn 69 []),(9,.rp (c50 v1))],[]⟩ rfl ?_ z0 trivial ?_
 ·kernel_rfl
 obtain ⟨v3,hv3,h⟩:=of_bind h
 refine AOps.cons (AOne.callP (F:=(FF 25 0)) _ rfl rfl rfl _ rfl rfl _ _ rfl Try.call39 [.rp (c50 v1)] rfl rfl (f39_ok v1 hv3) rfl) ?_
 refine AOps.go [2] [] [] [0,1,2,8] 0 ⟨[(0,.rp (c50 v1)),(1,tI v2),(2,.fn 69 []),(8,tB v3)],[]⟩ ?_ z0 trivial ?_
 ·kernel_rfl
 refine AOps.nil ?_
 refine AWp.cond rfl (fun hb=>?_) fun hb=>?_
 ·replace h:=of_true h hb
  refine AWp.keepTo [] 0 ⟨[],[]⟩ ?_ z0 ?_
  ·kernel_rfl
  refine AWp.seq ?_
  refine AWp.start [0,1] [] [] [6,7] 0 ⟨[(6,.tv (.sc (.slice none 0 0))),(7,tI (7:Int))],[]⟩ rfl ?_ z0 trivial ?_
  ·kernel_rfl
  refine AOps.nil ?_
  refine AWp.nilOwn 6 1 3 (fun i=>(cInt .i64) (([]:List Int).getD i default)) rfl ?_
  refine AWp.keepTo [6,7] 0 ⟨[(6,q1 ([]:List Int)),(7,tI (7:Int))],[]⟩ ?_ z0 ?_
  ·kernel_rfl
  refine AWp.ret ?_
  cases h
  exact ⟨.inr rfl,rfl⟩
 ·replace h:=of_false h hb
  refine AWp.keepTo [0,1,2] 0 ⟨[(0,.rp (c50 v1)),(1,tI v2),(2,.fn 69 [])],[]⟩ ?_ z0 ?_
  ·kernel_rfl
  refine AWp.seq ?_
  refine AWp.start [0,1] [2,3,4] [] [0,1,2,12,13] 0 ⟨[(0,.rp (c50 v1)),(1,tI v2),(2,.fn 69 []),(12,.rp (c50 v1)),(13,tI v2)],[]⟩ rfl ?_ z0 trivial ?_
  ·kernel_rfl
  obtain ⟨v4,hv4,h⟩:=of_bind h
  refine AOps.cons (AOne.callP (F:=(FF 25 0)) _ rfl rfl rfl _ rfl rfl _ _ rfl Try.call42 [.rp (c50 v1),tI v2] rfl rfl (f42_ok v1 v2 hv4) rfl) ?_
  refine AOps.go [3,4] [] [] [0,1,2,11] 0 ⟨[(0,.rp (c50 v1)),(1,tI v2),(2,.fn 69 []),(11,tB (!v4))],[]⟩ ?_ z0 trivial ?_
  ·kernel_rfl
  refine AOps.nil ?_
  refine AWp.cond rfl (fun hb=>?_) fun hb=>?_
  ·replace h:=of_true h hb
   refine AWp.keepTo [] 0 ⟨[],[]⟩ ?_ z0 ?_
   ·kernel_rfl
   refine AWp.seq ?_
   refine AWp.start [0,1] [] [] [6,7] 0 ⟨[(6,.tv (.sc (.slice none 0 0))),(7,tI (2:Int))],[]⟩ rfl ?_ z0 trivial ?_
   ·kernel_rfl
   refine AOps.nil ?_
   refine AWp.nilOwn 6 1 3 (fun i=>(cInt .i64) (([]:List Int).getD i default)) rfl ?_
   refine AWp.keepTo [6,7] 0 ⟨[(6,q1 ([]:List Int)),(7,tI (2:Int))],[]⟩ ?_ z0 ?_
   ·kernel_rfl
   refine AWp.ret ?_
   cases h
   exact ⟨.inr rfl,rfl⟩
  ·replace h:=of_false h hb
   refine AWp.keepTo [0,1,2] 0 ⟨[(0,.rp (c50 v1)),(1,tI v2),(2,.fn 69 [])],[]⟩ ?_ z0 ?_
   ·kernel_rfl
   refine AWp.skip ?_
   refine AWp.seq ?_
   obtain ⟨hg,h⟩:=of_guard h
   refine AWp.start [0,1,2,3,4,5,6] [7,8,9,10] [(0:Int) ≤ v2,v2 < (v1.f0.length:Int)] [16,22] 0 ⟨[(16,.fn 69 []),(22,.rp (c60 (gD v1.f0 v2)))],[]⟩ rfl ?_ z0 ⟨hg.1,hg.2⟩ ?_
   ·kernel_rfl
   obtain ⟨v5,hv5,h⟩:=of_bind h
   refine AOps.cons (AOne.callP (F:=(FF 25 0)) _ rfl rfl rfl _ rfl rfl _ _ rfl Try.call69 [.rp (c60 (gD v1.f0 v2))] rfl rfl (f69_ok (gD v1.f0 v2) hv5) rfl) ?_
   obtain ⟨v6,hv6,h⟩:=of_bind h
   refine AOps.cons (AOne.callP (F:=(FF 25 0)) _ rfl rfl rfl _ rfl rfl _ _ rfl Try.call31 [q0 v5] rfl rfl (f31_ok v5 hv6) rfl) ?_
   refine AOps.go [9,10] [] [] [6,7] 0 ⟨[(6,q1 v6),(7,tI (0:Int))],[]⟩ ?_ z0 trivial ?_
   ·kernel_rfl
   refine AOps.nil ?_
   refine AWp.ret ?_
   cases h
   exact ⟨.inr rfl,rfl⟩

noncomputable def f30 (v1:T50) (v2:Int):Option ((List Int) × Int) :=
 (f67_69 v1 v2).bind fun v3=>some (v3.1,v3.2)

theorem f30_ok (v1:T50) (v2:Int) {r:(List Int) × Int} (h:f30 v1 v2 = some r):ACall Try.prog 30 [.rp [fzL 27 c60 v1.f0,.int .i64 v1.f1,fzL 2 c43 v1.f2],.tv (.int .i64 v2)] [] (.tup [.tv (ownL 1 3 (cInt .i64) r.1),.tv (.int .i64 r.2)]) []:=by
 refine ACall.ofN (FF 11 0) (rs:=[4,5]) (env:=[(4,q1 r.1),(5,tI r.2)]) Try.func30 rfl Try.ntmps30 Try.results30 (by decide) (by decide) rfl (zz rfl) rfl (get_ofN _ _ _ rfl) (ok_ofN _ rfl) ?_
 refine AWp.seq ?_
 refine AWp.start [0,1] [] [] [0,1] 0 ⟨[(0,.rp (c50 v1)),(1,tI v2)],[]⟩ rfl ?_ z0 trivial ?_
 ·kernel_rfl
 refine AOps.nil ?_
 refine AWp.seq ?_
 refine AWp.start [0,1] [2,3,4,5,6] [] [6,7] 0 ⟨[(6,.rp (c50 v1)),(7,tI v2)],[]⟩ rfl ?_ z0 trivial ?_
 ·kernel_rfl
 obtain ⟨v3,hv3,h⟩:=of_bind h
 refine AOps.cons (AOne.callP (F:=(FF 11 0)) _ rfl rfl rfl _ rfl rfl _ _ rfl Try.call67 [.rp (c50 v1),tI v2,.fn 69 []] rfl rfl (f67_69_ok v1 v2 hv3) rfl) ?_
 refine AOps.go [3,4,5,6] [] [] [4,5,8] 0 ⟨[(4,.al (.slot 8 0,[])),(5,tI v3.2),(8,.tup [q1 v3.1,tI v3.2])],[]⟩ ?_ z0 trivial ?_
 ·kernel_rfl
 refine AOps.nil ?_
 refine AWp.claim 4 (.slot 8 0) (k5 v3.1) rfl rfl rfl rfl ?_
 refine AWp.keepTo [4,5] 0 ⟨[(4,q1 v3.1),(5,tI v3.2)],[]⟩ ?_ z0 ?_
 ·kernel_rfl
 refine AWp.ret ?_
 cases h
 exact ⟨.inr rfl,rfl⟩

end Go.Sx.img
