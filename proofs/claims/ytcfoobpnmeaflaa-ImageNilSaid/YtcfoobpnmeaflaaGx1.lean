/- Printed by program (wip/gen): plain functions and their walks; no condition. -/
import Derived.Test.YtcfoobpnmeaflaaGx0
namespace Go.Sx.img
open Go Go.Sx Go.Proofs

abbrev hp1 (v1:Int) (v3:T50):List AObj:=[.cells 51 [k0 (v3.f0.set v1.toNat (T60.mk ((gD v3.f0 v1).f0) ((gD v3.f0 v1).f1) ([119,97,105,116,115]:List UInt8) ((gD v3.f0 v1).f3) ((gD v3.f0 v1).f4) ((gD v3.f0 v1).f5) ((gD v3.f0 v1).f6) ((gD v3.f0 v1).f7) ((gD v3.f0 v1).f8))),.int .i64 v3.f1,k1 v3.f2]]

noncomputable def f77o_j1 (v3:T50) (v7:List T60):Option (Bool × T50) :=
 some (true,T50.mk v7 v3.f1 v3.f2)

noncomputable def f77o_b2 (v2:T54):Option (Unit ⊕ Out (Bool × T50) Unit) :=
 cond (decide ((0:Int) < (v2.f1.length:Int))) (if (0:Int) < (v2.f1.length:Int) then none else none) (some (.inr (.go ())))

noncomputable def f77o (v1:Int) (v2:T54) (v3:T50):Option (Bool × T50) :=
 if (0:Int) ≤ v1 ∧ v1 < (v3.f0.length:Int) then (f93 v2).bind fun v4=>(cond v4 (if (0:Int) < (v2.f1.length:Int) then (f78 v3 (v2.f1.getD 0 default)).bind fun v6=>some v6 else none) (some false)).bind fun v5=>cond v5 none (cond (v2.f0 == ([112,117,116]:List UInt8)) (if (0:Int) < (v2.f1.length:Int) ∧ (1:Int) < (v2.f1.length:Int) ∧ (2:Int) < (v2.f1.length:Int) then if (0:Int) ≤ v2.f1.getD 0 default ∧ v2.f1.getD 0 default < (v3.f0.length:Int) ∧ (0:Int) ≤ v2.f1.getD 1 default ∧ v2.f1.getD 1 default < (10:Int) then f77o_j1 v3 (v3.f0.set (Int.toNat (v2.f1.getD 0 default)) (T60.mk (v3.f0.getD (Int.toNat (v2.f1.getD 0 default)) default).f0 (v3.f0.getD (Int.toNat (v2.f1.getD 0 default)) default).f1 (v3.f0.getD (Int.toNat (v2.f1.getD 0 default)) default).f2 (setN 10 (v3.f0.getD (Int.toNat (v2.f1.getD 0 default)) default).f3 (Int.toNat (v2.f1.getD 1 default)) (v2.f1.getD 2 default)) (v3.f0.getD (Int.toNat (v2.f1.getD 0 default)) default).f4 (v3.f0.getD (Int.toNat (v2.f1.getD 0 default)) default).f5 (v3.f0.getD (Int.toNat (v2.f1.getD 0 default)) default).f6 (v3.f0.getD (Int.toNat (v2.f1.getD 0 default)) default).f7 (v3.f0.getD (Int.toNat (v2.f1.getD 0 default)) default).f8)) else none else none) (cond (v2.f0 == ([97,100,100]:List UInt8)) (if (0:Int) < (v2.f1.length:Int) ∧ (1:Int) < (v2.f1.length:Int) ∧ (2:Int) < (v2.f1.length:Int) ∧ (0:Int) ≤ v2.f1.getD 2 default ∧ v2.f1.getD 2 default < (4:Int) then if (0:Int) ≤ v2.f1.getD 0 default ∧ v2.f1.getD 0 default < (v3.f0.length:Int) ∧ (0:Int) ≤ v2.f1.getD 1 default ∧ v2.f1.getD 1 default < (10:Int) then (f37 (w64 (((arrL 10 ((v3.f0.getD (Int.toNat (v2.f1.getD 0 default)) default).f3)).getD (Int.toNat (v2.f1.getD 1 default)) 0) + ((arrL 4 ((v3.f0.getD v1.toNat default).f4)).getD (Int.toNat (v2.f1.getD 2 default)) 0))) (-2147483648:Int) (2147483648:Int)).bind fun v8=>cond (!v8) (some (false,T50.mk v3.f0 v3.f1 v3.f2)) (if (0:Int) < (v2.f1.length:Int) ∧ (1:Int) < (v2.f1.length:Int) then if (0:Int) ≤ v2.f1.getD 0 default ∧ v2.f1.getD 0 default < (v3.f0.length:Int) ∧ (0:Int) ≤ v2.f1.getD 1 default ∧ v2.f1.getD 1 default < (10:Int) then f77o_j1 v3 (v3.f0.set (Int.toNat (v2.f1.getD 0 default)) (T60.mk (v3.f0.getD (Int.toNat (v2.f1.getD 0 default)) default).f0 (v3.f0.getD (Int.toNat (v2.f1.getD 0 default)) default).f1 (v3.f0.getD (Int.toNat (v2.f1.getD 0 default)) default).f2 (setN 10 (v3.f0.getD (Int.toNat (v2.f1.getD 0 default)) default).f3 (Int.toNat (v2.f1.getD 1 default)) (w64 (((arrL 10 ((v3.f0.getD (Int.toNat (v2.f1.getD 0 default)) default).f3)).getD (Int.toNat (v2.f1.getD 1 default)) 0) + ((arrL 4 ((v3.f0.getD v1.toNat default).f4)).getD (Int.toNat (v2.f1.getD 2 default)) 0)))) (v3.f0.getD (Int.toNat (v2.f1.getD 0 default)) default).f4 (v3.f0.getD (Int.toNat (v2.f1.getD 0 default)) default).f5 (v3.f0.getD (Int.toNat (v2.f1.getD 0 default)) default).f6 (v3.f0.getD (Int.toNat (v2.f1.getD 0 default)) default).f7 (v3.f0.getD (Int.toNat (v2.f1.getD 0 default)) default).f8)) else none else none) else none else none) (cond (v2.f0 == ([103,101,116]:List UInt8)) (if (2:Int) < (v2.f1.length:Int) ∧ (0:Int) < (v2.f1.length:Int) ∧ (1:Int) < (v2.f1.length:Int) then if (0:Int) ≤ v2.f1.getD 0 default ∧ v2.f1.getD 0 default < (v3.f0.length:Int) ∧ (0:Int) ≤ v2.f1.getD 1 default ∧ v2.f1.getD 1 default < (10:Int) then if (0:Int) ≤ v2.f1.getD 2 default ∧ v2.f1.getD 2 default < (4:Int) then f77o_j1 v3 (v3.f0.set v1.toNat (T60.mk (v3.f0.getD v1.toNat default).f0 (v3.f0.getD v1.toNat default).f1 (v3.f0.getD v1.toNat default).f2 (v3.f0.getD v1.toNat default).f3 (setN 4 (v3.f0.getD v1.toNat default).f4 (Int.toNat (v2.f1.getD 2 default)) ((arrL 10 ((v3.f0.getD (Int.toNat (v2.f1.getD 0 default)) default).f3)).getD (Int.toNat (v2.f1.getD 1 default)) 0)) (v3.f0.getD v1.toNat default).f5 (v3.f0.getD v1.toNat default).f6 (v3.f0.getD v1.toNat default).f7 (v3.f0.getD v1.toNat default).f8)) else none else none else none) (cond (v2.f0 == ([115,116,111,114,101]:List UInt8)) (if (0:Int) < (v2.f1.length:Int) ∧ (1:Int) < (v2.f1.length:Int) ∧ (2:Int) < (v2.f1.length:Int) ∧ (0:Int) ≤ v2.f1.getD 2 default ∧ v2.f1.getD 2 default < (4:Int) then if (0:Int) ≤ v2.f1.getD 0 default ∧ v2.f1.getD 0 default < (v3.f0.length:Int) then if (0:Int) ≤ v2.f1.getD 1 default ∧ v2.f1.getD 1 default < (10:Int) then f77o_j1 v3 (v3.f0.set (Int.toNat (v2.f1.getD 0 default)) (T60.mk (v3.f0.getD (Int.toNat (v2.f1.getD 0 default)) default).f0 (v3.f0.getD (Int.toNat (v2.f1.getD 0 default)) default).f1 (v3.f0.getD (Int.toNat (v2.f1.getD 0 default)) default).f2 (setN 10 (v3.f0.getD (Int.toNat (v2.f1.getD 0 default)) default).f3 (Int.toNat (v2.f1.getD 1 default)) ((arrL 4 ((v3.f0.getD v1.toNat default).f4)).getD (Int.toNat (v2.f1.getD 2 default)) 0)) (v3.f0.getD (Int.toNat (v2.f1.getD 0 default)) default).f4 (v3.f0.getD (Int.toNat (v2.f1.getD 0 default)) default).f5 (v3.f0.getD (Int.toNat (v2.f1.getD 0 default)) default).f6 (v3.f0.getD (Int.toNat (v2.f1.getD 0 default)) default).f7 (v3.f0.getD (Int.toNat (v2.f1.getD 0 default)) default).f8)) else none else none else none) (cond (v2.f0 == ([115,101,116]:List UInt8)) (if (0:Int) < (v2.f1.length:Int) ∧ (1:Int) < (v2.f1.length:Int) ∧ (0:Int) ≤ v2.f1.getD 0 default ∧ v2.f1.getD 0 default < (4:Int) then f77o_j1 v3 (v3.f0.set v1.toNat (T60.mk (v3.f0.getD v1.toNat default).f0 (v3.f0.getD v1.toNat default).f1 (v3.f0.getD v1.toNat default).f2 (v3.f0.getD v1.toNat default).f3 (setN 4 (v3.f0.getD v1.toNat default).f4 (Int.toNat (v2.f1.getD 0 default)) (v2.f1.getD 1 default)) (v3.f0.getD v1.toNat default).f5 (v3.f0.getD v1.toNat default).f6 (v3.f0.getD v1.toNat default).f7 (v3.f0.getD v1.toNat default).f8)) else none) (cond (v2.f0 == ([97,108,108]:List UInt8)) (f77o_j1 v3 (v3.f0.set v1.toNat (T60.mk ((v3.f0.getD v1.toNat default).f0) ((v3.f0.getD v1.toNat default).f1) ([119,97,105,116,115]:List UInt8) ((v3.f0.getD v1.toNat default).f3) ((v3.f0.getD v1.toNat default).f4) ((v3.f0.getD v1.toNat default).f5) ((v3.f0.getD v1.toNat default).f6) ((v3.f0.getD v1.toNat default).f7) ((v3.f0.getD v1.toNat default).f8)))) (cond (v2.f0 == ([119,105,116,104]:List UInt8)) ((iter (fun _=>f77o_b2 v2) ()).bind fun y=>match y with | .ret v9=>some v9 | .go _=>f77o_j1 v3 (v3.f0.set v1.toNat (T60.mk ((v3.f0.getD v1.toNat default).f0) ((v3.f0.getD v1.toNat default).f1) ([119,97,105,116,115]:List UInt8) ((v3.f0.getD v1.toNat default).f3) ((v3.f0.getD v1.toNat default).f4) ((v3.f0.getD v1.toNat default).f5) ((v3.f0.getD v1.toNat default).f6) ((v3.f0.getD v1.toNat default).f7) ((v3.f0.getD v1.toNat default).f8)))) (cond (v2.f0 == ([112,111,115,116]:List UInt8)) (if (0:Int) < (v2.f1.length:Int) ∧ (1:Int) < (v2.f1.length:Int) then if (0:Int) ≤ v2.f1.getD 0 default ∧ v2.f1.getD 0 default < (v3.f0.length:Int) ∧ (0:Int) ≤ v2.f1.getD 1 default ∧ v2.f1.getD 1 default < (4:Int) ∧ (0:Int) ≤ v2.f1.getD 0 default ∧ v2.f1.getD 0 default < (v3.f0.length:Int) then if (0:Int) ≤ v2.f1.getD 1 default ∧ v2.f1.getD 1 default < (4:Int) then f77o_j1 v3 (v3.f0.set (Int.toNat (v2.f1.getD 0 default)) (T60.mk (v3.f0.getD (Int.toNat (v2.f1.getD 0 default)) default).f0 (v3.f0.getD (Int.toNat (v2.f1.getD 0 default)) default).f1 (v3.f0.getD (Int.toNat (v2.f1.getD 0 default)) default).f2 (v3.f0.getD (Int.toNat (v2.f1.getD 0 default)) default).f3 (v3.f0.getD (Int.toNat (v2.f1.getD 0 default)) default).f4 (setN 4 (v3.f0.getD (Int.toNat (v2.f1.getD 0 default)) default).f5 (Int.toNat (v2.f1.getD 1 default)) (w64 (((arrL 4 ((v3.f0.getD (Int.toNat (v2.f1.getD 0 default)) default).f5)).getD (Int.toNat (v2.f1.getD 1 default)) 0) + (1:Int)))) (v3.f0.getD (Int.toNat (v2.f1.getD 0 default)) default).f6 (v3.f0.getD (Int.toNat (v2.f1.getD 0 default)) default).f7 (v3.f0.getD (Int.toNat (v2.f1.getD 0 default)) default).f8)) else none else none else none) (cond (v2.f0 == ([119,97,105,116]:List UInt8)) (if (0:Int) < (v2.f1.length:Int) ∧ (0:Int) ≤ v2.f1.getD 0 default ∧ v2.f1.getD 0 default < (4:Int) ∧ (1:Int) < (v2.f1.length:Int) then if (0:Int) ≤ v2.f1.getD 0 default ∧ v2.f1.getD 0 default < (4:Int) then f77o_j1 v3 (v3.f0.set v1.toNat (T60.mk (v3.f0.getD v1.toNat default).f0 (v3.f0.getD v1.toNat default).f1 (v3.f0.getD v1.toNat default).f2 (v3.f0.getD v1.toNat default).f3 (v3.f0.getD v1.toNat default).f4 (setN 4 (v3.f0.getD v1.toNat default).f5 (Int.toNat (v2.f1.getD 0 default)) (w64 (((arrL 4 ((v3.f0.getD v1.toNat default).f5)).getD (Int.toNat (v2.f1.getD 0 default)) 0) - (v2.f1.getD 1 default)))) (v3.f0.getD v1.toNat default).f6 (v3.f0.getD v1.toNat default).f7 (v3.f0.getD v1.toNat default).f8)) else none else none) (cond (v2.f0 == ([102,97,105,108]:List UInt8)) (f77o_j1 v3 (v3.f0.set v1.toNat (T60.mk ((v3.f0.getD v1.toNat default).f0) ((v3.f0.getD v1.toNat default).f1) ([102,97,105,108,101,100]:List UInt8) ((v3.f0.getD v1.toNat default).f3) ((v3.f0.getD v1.toNat default).f4) ((v3.f0.getD v1.toNat default).f5) ((v3.f0.getD v1.toNat default).f6) ((v3.f0.getD v1.toNat default).f7) ((v3.f0.getD v1.toNat default).f8)))) (cond (v2.f0 == ([115,116,111,112]:List UInt8)) (f77o_j1 v3 (v3.f0.set v1.toNat (T60.mk ((v3.f0.getD v1.toNat default).f0) ((v3.f0.getD v1.toNat default).f1) ([101,110,100,101,100]:List UInt8) ((v3.f0.getD v1.toNat default).f3) ((v3.f0.getD v1.toNat default).f4) ((v3.f0.getD v1.toNat default).f5) ((v3.f0.getD v1.toNat default).f6) ((v3.f0.getD v1.toNat default).f7) ((v3.f0.getD v1.toNat default).f8)))) ((f94o v1 v2 (T50.mk v3.f0 v3.f1 v3.f2)).bind fun v10=>some (v10,T50.mk v3.f0 v3.f1 v3.f2))))))))))))) else none

theorem f77o_ok (v1:Int) (v2:T54) (v3:T50) {r:Bool × T50} (h:f77o v1 v2 v3 = some r):ACall Try.prog 77 [.pc 0 0,.tv (.int .i64 v1),.agg [.str v2.f0,fzL 1 (cInt .i64) v2.f1,.str v2.f2]] [.cells 51 [ownL 27 61 o60 v3.f0,.int .i64 v3.f1,ownL 2 44 c43 v3.f2]] (.tv (.bool r.1)) [.cells 51 [ownL 27 61 o60 r.2.f0,.int .i64 r.2.f1,ownL 2 44 c43 r.2.f2]]:=by
 refine ACall.of1 (FF 265 1) Try.func77 rfl Try.ntmps77 Try.results77 (zz rfl) rfl rfl ?_
 refine AWp.seq ?_
 refine AWp.start [0,1] [] [] [0,1,5] 2 ⟨[(0,.pc 0 0),(1,tI v1),(5,.pc 1 0)],[.cells 51 [k0 v3.f0,.int .i64 v3.f1,k1 v3.f2],.cells 55 (c54 v2)]⟩ rfl ?_ (zz rfl) trivial ?_
 ·kernel_rfl
 refine AOps.nil ?_
 refine AWp.seq ?_
 refine AWp.pin 1 rfl rfl ?_
 refine AWp.keepTo [0,1,5] 1 ⟨[(0,.pc 0 0),(1,tI v1),(5,.rp (c54 v2))],[.cells 51 [k0 v3.f0,.int .i64 v3.f1,k1 v3.f2]]⟩ ?_ (zz rfl) ?_
 ·kernel_rfl
 obtain ⟨hg,h⟩:=of_guard h
 refine AWp.start [0,1,2,3,4,5,6] [] [(0:Int) ≤ v1,v1 < (v3.f0.length:Int)] [0,1,5,7] 1 ⟨[(0,.pc 0 0),(1,tI v1),(5,.rp (c54 v2)),(7,.pe (.cell 0 0,[]) v1.toNat 0 27)],[.cells 51 [k0 v3.f0,.int .i64 v3.f1,k1 v3.f2]]⟩ rfl ?_ (zz rfl) ⟨hg.1,hg.2⟩ ?_
 ·kernel_rfl
 refine AOps.nil ?_
 refine AWp.seq ?_
 refine AWp.seq ?_
 refine AWp.start [0] [1,2,3,4,5,6,7,8,9] [] [0,1,5,7,17] 1 ⟨[(0,.pc 0 0),(1,tI v1),(5,.rp (c54 v2)),(7,.pe (.cell 0 0,[]) v1.toNat 0 27),(17,.agg (c54 v2))],[.cells 51 [k0 v3.f0,.int .i64 v3.f1,k1 v3.f2]]⟩ rfl ?_ (zz rfl) trivial ?_
 ·kernel_rfl
 obtain ⟨v4,hv4,h⟩:=of_bind h
 refine AOps.cons (AOne.callP (F:=(FF 265 1)) _ rfl rfl rfl _ rfl rfl _ _ rfl Try.call93 [.agg (c54 v2)] rfl rfl (f93_ok v2 hv4) rfl) ?_
 refine AOps.go [2] [3,4,5,6,7,8,9] [] [0,1,5,7,19] 1 ⟨[(0,.pc 0 0),(1,tI v1),(5,.rp (c54 v2)),(7,.pe (.cell 0 0,[]) v1.toNat 0 27),(19,tB v4)],[.cells 51 [k0 v3.f0,.int .i64 v3.f1,k1 v3.f2]]⟩ ?_ (zz rfl) trivial ?_
 ·kernel_rfl
 obtain ⟨v5,hc3,h⟩:=of_bind h
 refine AOps.cut [3,4,5,6,7,8,9] [] (fun σ=>σ = ⟨[(0,.pc 0 0),(1,tI v1),(5,.rp (c54 v2)),(7,.pe (.cell 0 0,[]) v1.toNat 0 27),(26,tB v5)],[.cells 51 [k0 v3.f0,.int .i64 v3.f1,k1 v3.f2]]⟩) ?_ fun σ' hJ=>?_
 ·refine AOps.split (fun b=>⟨[(0,.pc 0 0),(1,tI v1),(5,.rp (c54 v2)),(7,.pe (.cell 0 0,[]) v1.toNat 0 27),(19,tB b)],[.cells 51 [k0 v3.f0,.int .i64 v3.f1,k1 v3.f2]]⟩) _ (fun hb=>?_) fun hb=>?_
  ·replace hc3:=of_true hc3 hb
   obtain ⟨hg,hc3⟩:=of_guard hc3
   refine AOps.go [3,4,5,6,7] [8,9] [(0:Int) ≤ (0:Int),(0:Int) < (v2.f1.length:Int)] [0,1,5,7,19,20,24] 1 ⟨[(0,.pc 0 0),(1,tI v1),(5,.rp (c54 v2)),(7,.pe (.cell 0 0,[]) v1.toNat 0 27),(19,tB true),(20,.pc 0 0),(24,tI (v2.f1.getD 0 default))],[.cells 51 [k0 v3.f0,.int .i64 v3.f1,k1 v3.f2]]⟩ ?_ (zz rfl) ⟨(by decide:(0:Int) ≤ (0:Int)),hg⟩ ?_
   ·kernel_rfl
   obtain ⟨v6,hv6,hc3⟩:=of_bind hc3
   refine AOps.cons (AOne.callV (F:=(FF 265 1)) _ rfl rfl rfl 25 rfl rfl 78 [] rfl Try.call78 [.pc 0 0,tI (v2.f1.getD 0 default)] [.rp (c50 v3),tI (v2.f1.getD 0 default)] rfl (.cons (.pc rfl (.cons (.ownL seen60) (.keep rfl (.cons (.ownL (fun _=>.plain rfl)) .nil)))) (.cons (.old rfl) .nil)) (f78_ok v3 (v2.f1.getD 0 default) hv6) (ind_of rfl) rfl) ?_
   refine AOps.go [9] [] [] [0,1,5,7,26] 1 ⟨[(0,.pc 0 0),(1,tI v1),(5,.rp (c54 v2)),(7,.pe (.cell 0 0,[]) v1.toNat 0 27),(26,tB v6)],[.cells 51 [k0 v3.f0,.int .i64 v3.f1,k1 v3.f2]]⟩ ?_ (zz rfl) trivial ?_
   ·kernel_rfl
   cases hc3
   exact AOps.nil rfl
  ·replace hc3:=of_false hc3 hb
   refine AOps.go [3,4,5,6,7,8,9] [] [] [0,1,5,7,26] 1 ⟨[(0,.pc 0 0),(1,tI v1),(5,.rp (c54 v2)),(7,.pe (.cell 0 0,[]) v1.toNat 0 27),(26,tB false)],[.cells 51 [k0 v3.f0,.int .i64 v3.f1,k1 v3.f2]]⟩ ?_ (zz rfl) trivial ?_
   ·kernel_rfl
   cases hc3
   exact AOps.nil rfl
 subst hJ
 refine AOps.nil ?_
 refine AWp.cond rfl (fun hb=>?_) fun hb=>?_
 ·replace h:=of_true h hb
  refine AWp.keepTo [5,7] 1 ⟨[(5,.rp (c54 v2)),(7,.pe (.cell 0 0,[]) v1.toNat 0 27)],[.cells 51 [k0 v3.f0,.int .i64 v3.f1,k1 v3.f2]]⟩ ?_ (zz rfl) ?_
  ·kernel_rfl
  refine AWp.seq ?_
  cases h
 ·replace h:=of_false h hb
  refine AWp.keepTo [0,1,5,7] 1 ⟨[(0,.pc 0 0),(1,tI v1),(5,.rp (c54 v2)),(7,.pe (.cell 0 0,[]) v1.toNat 0 27)],[.cells 51 [k0 v3.f0,.int .i64 v3.f1,k1 v3.f2]]⟩ ?_ (zz rfl) ?_
  ·kernel_rfl
  refine AWp.skip ?_
  refine AWp.join (V:=(List T60)) (fun w=>⟨[],[.cells 51 [k0 w,.int .i64 v3.f1,k1 v3.f2]]⟩) (fun w=>f77o_j1 v3 w = some r) ?_ ?_
  ·refine AWp.seq ?_
   refine AWp.start [0,1] [] [] [0,1,5,7,50] 1 ⟨[(0,.pc 0 0),(1,tI v1),(5,.rp (c54 v2)),(7,.pe (.cell 0 0,[]) v1.toNat 0 27),(50,tS v2.f0)],[.cells 51 [k0 v3.f0,.int .i64 v3.f1,k1 v3.f2]]⟩ rfl ?_ (zz rfl) trivial ?_
   ·kernel_rfl
   refine AOps.nil ?_
   refine AWp.block ?_
   refine AWp.seq ?_
   refine AWp.start [0,1] [] [] [0,1,5,7,50,55] 1 ⟨[(0,.pc 0 0),(1,tI v1),(5,.rp (c54 v2)),(7,.pe (.cell 0 0,[]) v1.toNat 0 27),(50,tS v2.f0),(55,tB (v2.f0 == ([112,117,116]:List UInt8)))],[.cells 51 [k0 v3.f0,.int .i64 v3.f1,k1 v3.f2]]⟩ rfl ?_ (zz rfl) trivial ?_
   ·kernel_rfl
   refine AOps.nil ?_
   refine AWp.cond rfl (fun hb=>?_) fun hb=>?_
   ·replace h:=of_true h hb
    refine AWp.keepTo [0,5] 1 ⟨[(0,.pc 0 0),(5,.rp (c54 v2))],[.cells 51 [k0 v3.f0,.int .i64 v3.f1,k1 v3.f2]]⟩ ?_ (zz rfl) ?_
    ·kernel_rfl
    refine AWp.draw FFm _ (n:=20) rfl (ls:=#[n1,n1,n1,n1,n1,n1,n1,n1,n1,n1,n1,n1,n1,n1,n1,n1,n1,n1,n1,n1]) rfl ?_ (fun _ h=>h)
    obtain ⟨hg,h⟩:=of_guard h
    refine AAny.go (by kernel_rfl) [0,1,2,4,5,6,7,8,9,10,11,12,13,14,15] (fuel':=5) rfl [(0:Int) ≤ (0:Int),(0:Int) < (v2.f1.length:Int),(0:Int) ≤ (1:Int),(1:Int) < (v2.f1.length:Int),(0:Int) ≤ (2:Int),(2:Int) < (v2.f1.length:Int)] #[y1,y1,y1,n1,y1,y1,y1,y1,y1,y1,y1,y1,y1,y1,y1,y1,n1,n1,n1,n1] [59,64,68,72] 1 ⟨[(59,.pc 0 0),(64,tI (v2.f1.getD 0 default)),(68,tI (v2.f1.getD 1 default)),(72,tI (v2.f1.getD 2 default))],[.cells 51 [k0 v3.f0,.int .i64 v3.f1,k1 v3.f2]]⟩ ?_ (zz rfl) ⟨(by decide:(0:Int) ≤ (0:Int)),hg.1,(by decide:(0:Int) ≤ (1:Int)),hg.2.1,(by decide:(0:Int) ≤ (2:Int)),hg.2.2⟩ ?_
    ·kernel_rfl
    refine AAny.step (i:=3) (fuel':=4) rfl (by kernel_rfl) [] #[y1,y1,y1,y1,y1,y1,y1,y1,y1,y1,y1,y1,y1,y1,y1,y1,n1,n1,n1,n1] rfl [60,64,68,72] 1 ⟨[(60,.al (.cell 0 0,[])),(64,tI (v2.f1.getD 0 default)),(68,tI (v2.f1.getD 1 default)),(72,tI (v2.f1.getD 2 default))],[.cells 51 [k0 v3.f0,.int .i64 v3.f1,k1 v3.f2]]⟩ ?_ (zz rfl) trivial ?_
    ·kernel_rfl
    obtain ⟨hg,h⟩:=of_guard h
    refine AAny.go (by kernel_rfl) [16,17,18] (fuel':=1) rfl [(0:Int) ≤ v2.f1.getD 0 default,v2.f1.getD 0 default < (v3.f0.length:Int),(0:Int) ≤ v2.f1.getD 1 default,v2.f1.getD 1 default < (10:Int)] #[y1,y1,y1,y1,y1,y1,y1,y1,y1,y1,y1,y1,y1,y1,y1,y1,y1,y1,y1,n1] [72,75] 1 ⟨[(72,tI (v2.f1.getD 2 default)),(75,.pa (.cell 0 0,[]) (Int.toNat (v2.f1.getD 0 default)) 3 10 (Int.toNat (v2.f1.getD 1 default)) 27)],[.cells 51 [k0 v3.f0,.int .i64 v3.f1,k1 v3.f2]]⟩ ?_ (zz rfl) ⟨hg.1,hg.2.1,hg.2.2.1,hg.2.2.2⟩ ?_
    ·kernel_rfl
    refine AAny.serial (i:=19) (fuel:=0) (by kernel_rfl) (AOne.storeN (F:=(FF 265 1)) (i:=(Int.toNat (v2.f1.getD 0 default))) (n2:=(v3.f0.set (Int.toNat (v2.f1.getD 0 default)) (T60.mk (v3.f0.getD (Int.toNat (v2.f1.getD 0 default)) default).f0 (v3.f0.getD (Int.toNat (v2.f1.getD 0 default)) default).f1 (v3.f0.getD (Int.toNat (v2.f1.getD 0 default)) default).f2 (setN 10 (v3.f0.getD (Int.toNat (v2.f1.getD 0 default)) default).f3 (Int.toNat (v2.f1.getD 1 default)) (v2.f1.getD 2 default)) (v3.f0.getD (Int.toNat (v2.f1.getD 0 default)) default).f4 (v3.f0.getD (Int.toNat (v2.f1.getD 0 default)) default).f5 (v3.f0.getD (Int.toNat (v2.f1.getD 0 default)) default).f6 (v3.f0.getD (Int.toNat (v2.f1.getD 0 default)) default).f7 (v3.f0.getD (Int.toNat (v2.f1.getD 0 default)) default).f8)).length) (n':=v3.f0.length) (f:=(fun i=>o60 (v3.f0.getD i default))) (f':=(fun i=>o60 ((v3.f0.set (Int.toNat (v2.f1.getD 0 default)) (T60.mk (v3.f0.getD (Int.toNat (v2.f1.getD 0 default)) default).f0 (v3.f0.getD (Int.toNat (v2.f1.getD 0 default)) default).f1 (v3.f0.getD (Int.toNat (v2.f1.getD 0 default)) default).f2 (setN 10 (v3.f0.getD (Int.toNat (v2.f1.getD 0 default)) default).f3 (Int.toNat (v2.f1.getD 1 default)) (v2.f1.getD 2 default)) (v3.f0.getD (Int.toNat (v2.f1.getD 0 default)) default).f4 (v3.f0.getD (Int.toNat (v2.f1.getD 0 default)) default).f5 (v3.f0.getD (Int.toNat (v2.f1.getD 0 default)) default).f6 (v3.f0.getD (Int.toNat (v2.f1.getD 0 default)) default).f7 (v3.f0.getD (Int.toNat (v2.f1.getD 0 default)) default).f8)).getD i default))) _ rfl rfl rfl rfl rfl rfl rfl rfl rfl (set_at o60 v3.f0 (Int.toNat (v2.f1.getD 0 default)) (3 + (Int.toNat (v2.f1.getD 1 default))) [.int .i64 (v2.f1.getD 2 default)] (T60.mk (v3.f0.getD (Int.toNat (v2.f1.getD 0 default)) default).f0 (v3.f0.getD (Int.toNat (v2.f1.getD 0 default)) default).f1 (v3.f0.getD (Int.toNat (v2.f1.getD 0 default)) default).f2 (setN 10 (v3.f0.getD (Int.toNat (v2.f1.getD 0 default)) default).f3 (Int.toNat (v2.f1.getD 1 default)) (v2.f1.getD 2 default)) (v3.f0.getD (Int.toNat (v2.f1.getD 0 default)) default).f4 (v3.f0.getD (Int.toNat (v2.f1.getD 0 default)) default).f5 (v3.f0.getD (Int.toNat (v2.f1.getD 0 default)) default).f6 (v3.f0.getD (Int.toNat (v2.f1.getD 0 default)) default).f7 (v3.f0.getD (Int.toNat (v2.f1.getD 0 default)) default).f8) (put60_3 (v3.f0.getD (Int.toNat (v2.f1.getD 0 default)) default) (Int.toNat (v2.f1.getD 1 default)) (v2.f1.getD 2 default) (by omega))) List.length_set.symm rfl) ?_
    refine AAny.keepTo [] 1 ⟨[],[.cells 51 [k0 (v3.f0.set (Int.toNat (v2.f1.getD 0 default)) (T60.mk (v3.f0.getD (Int.toNat (v2.f1.getD 0 default)) default).f0 (v3.f0.getD (Int.toNat (v2.f1.getD 0 default)) default).f1 (v3.f0.getD (Int.toNat (v2.f1.getD 0 default)) default).f2 (setN 10 (v3.f0.getD (Int.toNat (v2.f1.getD 0 default)) default).f3 (Int.toNat (v2.f1.getD 1 default)) (v2.f1.getD 2 default)) (v3.f0.getD (Int.toNat (v2.f1.getD 0 default)) default).f4 (v3.f0.getD (Int.toNat (v2.f1.getD 0 default)) default).f5 (v3.f0.getD (Int.toNat (v2.f1.getD 0 default)) default).f6 (v3.f0.getD (Int.toNat (v2.f1.getD 0 default)) default).f7 (v3.f0.getD (Int.toNat (v2.f1.getD 0 default)) default).f8)),.int .i64 v3.f1,k1 v3.f2]]⟩ #[y1,y1,y1,y1,y1,y1,y1,y1,y1,y1,y1,y1,y1,y1,y1,y1,y1,y1,y1,y1] ?_ rfl (zz rfl) ?_
    ·kernel_rfl
    refine AAny.keepTo [] 1 ⟨[],[.cells 51 [k0 (v3.f0.set (Int.toNat (v2.f1.getD 0 default)) (T60.mk (v3.f0.getD (Int.toNat (v2.f1.getD 0 default)) default).f0 (v3.f0.getD (Int.toNat (v2.f1.getD 0 default)) default).f1 (v3.f0.getD (Int.toNat (v2.f1.getD 0 default)) default).f2 (setN 10 (v3.f0.getD (Int.toNat (v2.f1.getD 0 default)) default).f3 (Int.toNat (v2.f1.getD 1 default)) (v2.f1.getD 2 default)) (v3.f0.getD (Int.toNat (v2.f1.getD 0 default)) default).f4 (v3.f0.getD (Int.toNat (v2.f1.getD 0 default)) default).f5 (v3.f0.getD (Int.toNat (v2.f1.getD 0 default)) default).f6 (v3.f0.getD (Int.toNat (v2.f1.getD 0 default)) default).f7 (v3.f0.getD (Int.toNat (v2.f1.getD 0 default)) default).f8)),.int .i64 v3.f1,k1 v3.f2]]⟩ _ ?_ rfl (zz rfl) (AAny.done (by kernel_rfl) ?_)
    ·kernel_rfl
    exact ⟨v3.f0.set (Int.toNat (v2.f1.getD 0 default)) (T60.mk (v3.f0.getD (Int.toNat (v2.f1.getD 0 default)) default).f0 (v3.f0.getD (Int.toNat (v2.f1.getD 0 default)) default).f1 (v3.f0.getD (Int.toNat (v2.f1.getD 0 default)) default).f2 (setN 10 (v3.f0.getD (Int.toNat (v2.f1.getD 0 default)) default).f3 (Int.toNat (v2.f1.getD 1 default)) (v2.f1.getD 2 default)) (v3.f0.getD (Int.toNat (v2.f1.getD 0 default)) default).f4 (v3.f0.getD (Int.toNat (v2.f1.getD 0 default)) default).f5 (v3.f0.getD (Int.toNat (v2.f1.getD 0 default)) default).f6 (v3.f0.getD (Int.toNat (v2.f1.getD 0 default)) default).f7 (v3.f0.getD (Int.toNat (v2.f1.getD 0 default)) default).f8),h,rfl⟩
   ·replace h:=of_false h hb
    refine AWp.keepTo [0,1,5,7,50] 1 ⟨[(0,.pc 0 0),(1,tI v1),(5,.rp (c54 v2)),(7,.pe (.cell 0 0,[]) v1.toNat 0 27),(50,tS v2.f0)],[.cells 51 [k0 v3.f0,.int .i64 v3.f1,k1 v3.f2]]⟩ ?_ (zz rfl) ?_
    ·kernel_rfl
    refine AWp.seq ?_
    refine AWp.start [0,1] [] [] [0,1,5,7,50,76] 1 ⟨[(0,.pc 0 0),(1,tI v1),(5,.rp (c54 v2)),(7,.pe (.cell 0 0,[]) v1.toNat 0 27),(50,tS v2.f0),(76,tB (v2.f0 == ([97,100,100]:List UInt8)))],[.cells 51 [k0 v3.f0,.int .i64 v3.f1,k1 v3.f2]]⟩ rfl ?_ (zz rfl) trivial ?_
    ·kernel_rfl
    refine AOps.nil ?_
    refine AWp.cond rfl (fun hb=>?_) fun hb=>?_
    ·replace h:=of_true h hb
     refine AWp.keepTo [0,5,7] 1 ⟨[(0,.pc 0 0),(5,.rp (c54 v2)),(7,.pe (.cell 0 0,[]) v1.toNat 0 27)],[.cells 51 [k0 v3.f0,.int .i64 v3.f1,k1 v3.f2]]⟩ ?_ (zz rfl) ?_
     ·kernel_rfl
     refine AWp.seq ?_
     refine AWp.draw FFm _ (n:=27) rfl (ls:=#[n1,n1,n1,n1,n1,n1,n1,n1,n1,n1,n1,n1,n1,n1,n1,n1,n1,n1,n1,n1,n1,n1,n1,n1,n1,n1,n1]) rfl ?_ (fun _ h=>h)
     obtain ⟨hg,h⟩:=of_guard h
     refine AAny.go (by kernel_rfl) [0,1,2,4,5,6,7,8,9,10,11,16,17,18,19,20,21,22,23] (fuel':=8) rfl [(0:Int) ≤ (0:Int),(0:Int) < (v2.f1.length:Int),(0:Int) ≤ (1:Int),(1:Int) < (v2.f1.length:Int),(0:Int) ≤ (2:Int),(2:Int) < (v2.f1.length:Int),(0:Int) ≤ v2.f1.getD 2 default,v2.f1.getD 2 default < (4:Int)] #[y1,y1,y1,n1,y1,y1,y1,y1,y1,y1,y1,y1,n1,n1,n1,n1,y1,y1,y1,y1,y1,y1,y1,y1,n1,n1,n1] [0,5,80,85,89,101] 1 ⟨[(0,.pc 0 0),(5,.rp (c54 v2)),(80,.pc 0 0),(85,tI (v2.f1.getD 0 default)),(89,tI (v2.f1.getD 1 default)),(101,.pa (.cell 0 0,[]) v1.toNat 13 4 (Int.toNat (v2.f1.getD 2 default)) 27)],[.cells 51 [k0 v3.f0,.int .i64 v3.f1,k1 v3.f2]]⟩ ?_ (zz rfl) ⟨(by decide:(0:Int) ≤ (0:Int)),hg.1,(by decide:(0:Int) ≤ (1:Int)),hg.2.1,(by decide:(0:Int) ≤ (2:Int)),hg.2.2.1,hg.2.2.2.1,hg.2.2.2.2⟩ ?_
     ·kernel_rfl
     refine AAny.goR (by kernel_rfl) (i:=3) (fuel':=7) [12,13,14,15,25,26] rfl (by kernel_rfl) (by kernel_rfl) [] #[y1,y1,y1,y1,y1,y1,y1,y1,y1,y1,y1,y1,n1,n1,n1,n1,y1,y1,y1,y1,y1,y1,y1,y1,n1,n1,n1] rfl [0,5,81,85,89,101] 1 ⟨[(0,.pc 0 0),(5,.rp (c54 v2)),(81,.al (.cell 0 0,[])),(85,tI (v2.f1.getD 0 default)),(89,tI (v2.f1.getD 1 default)),(101,.pa (.cell 0 0,[]) v1.toNat 13 4 (Int.toNat (v2.f1.getD 2 default)) 27)],[.cells 51 [k0 v3.f0,.int .i64 v3.f1,k1 v3.f2]]⟩ ?_ (zz rfl) trivial ?_
     ·kernel_rfl
     obtain ⟨hg,h⟩:=of_guard h
     refine AAny.go (by kernel_rfl) [12,13,14] (fuel':=4) rfl [(0:Int) ≤ v2.f1.getD 0 default,v2.f1.getD 0 default < (v3.f0.length:Int),(0:Int) ≤ v2.f1.getD 1 default,v2.f1.getD 1 default < (10:Int)] #[y1,y1,y1,y1,y1,y1,y1,y1,y1,y1,y1,y1,y1,y1,y1,n1,y1,y1,y1,y1,y1,y1,y1,y1,n1,n1,n1] [0,5,92,101] 1 ⟨[(0,.pc 0 0),(5,.rp (c54 v2)),(92,.pa (.cell 0 0,[]) (Int.toNat (v2.f1.getD 0 default)) 3 10 (Int.toNat (v2.f1.getD 1 default)) 27),(101,.pa (.cell 0 0,[]) v1.toNat 13 4 (Int.toNat (v2.f1.getD 2 default)) 27)],[.cells 51 [k0 v3.f0,.int .i64 v3.f1,k1 v3.f2]]⟩ ?_ (zz rfl) ⟨hg.1,hg.2.1,hg.2.2.1,hg.2.2.2⟩ ?_
     ·kernel_rfl
     refine AAny.goR (by kernel_rfl) (i:=15) (fuel':=3) [25,26] rfl (by kernel_rfl) (by kernel_rfl) [] #[y1,y1,y1,y1,y1,y1,y1,y1,y1,y1,y1,y1,y1,y1,y1,y1,y1,y1,y1,y1,y1,y1,y1,y1,n1,n1,n1] rfl [0,5,93,101] 1 ⟨[(0,.pc 0 0),(5,.rp (c54 v2)),(93,tI ((arrL 10 ((v3.f0.getD (Int.toNat (v2.f1.getD 0 default)) default).f3)).getD (Int.toNat (v2.f1.getD 1 default)) 0)),(101,.pa (.cell 0 0,[]) v1.toNat 13 4 (Int.toNat (v2.f1.getD 2 default)) 27)],[.cells 51 [k0 v3.f0,.int .i64 v3.f1,k1 v3.f2]]⟩ ?_ (zz rfl) trivial ?_
     ·kernel_rfl
     refine AAny.step (i:=24) (fuel':=2) rfl (by kernel_rfl) [] #[y1,y1,y1,y1,y1,y1,y1,y1,y1,y1,y1,y1,y1,y1,y1,y1,y1,y1,y1,y1,y1,y1,y1,y1,y1,n1,n1] rfl [0,5,93,102] 1 ⟨[(0,.pc 0 0),(5,.rp (c54 v2)),(93,tI ((arrL 10 ((v3.f0.getD (Int.toNat (v2.f1.getD 0 default)) default).f3)).getD (Int.toNat (v2.f1.getD 1 default)) 0)),(102,tI ((arrL 4 ((gD v3.f0 v1).f4)).getD (Int.toNat (v2.f1.getD 2 default)) 0))],[.cells 51 [k0 v3.f0,.int .i64 v3.f1,k1 v3.f2]]⟩ ?_ (zz rfl) trivial ?_
     ·kernel_rfl
     refine AAny.go (by kernel_rfl) [25,26] (fuel':=0) rfl [] #[y1,y1,y1,y1,y1,y1,y1,y1,y1,y1,y1,y1,y1,y1,y1,y1,y1,y1,y1,y1,y1,y1,y1,y1,y1,y1,y1] [0,5,8] 1 ⟨[(0,.pc 0 0),(5,.rp (c54 v2)),(8,tI (w64 (((arrL 10 ((v3.f0.getD (Int.toNat (v2.f1.getD 0 default)) default).f3)).getD (Int.toNat (v2.f1.getD 1 default)) 0) + ((arrL 4 ((gD v3.f0 v1).f4)).getD (Int.toNat (v2.f1.getD 2 default)) 0))))],[.cells 51 [k0 v3.f0,.int .i64 v3.f1,k1 v3.f2]]⟩ ?_ (zz rfl) trivial ?_
     ·kernel_rfl
     refine AAny.keepTo [0,5,8] 1 ⟨[(0,.pc 0 0),(5,.rp (c54 v2)),(8,tI (w64 (((arrL 10 ((v3.f0.getD (Int.toNat (v2.f1.getD 0 default)) default).f3)).getD (Int.toNat (v2.f1.getD 1 default)) 0) + ((arrL 4 ((gD v3.f0 v1).f4)).getD (Int.toNat (v2.f1.getD 2 default)) 0))))],[.cells 51 [k0 v3.f0,.int .i64 v3.f1,k1 v3.f2]]⟩ _ ?_ rfl (zz rfl) (AAny.done (by kernel_rfl) ?_)
     ·kernel_rfl
     refine AWp.seq ?_
     refine AWp.seq ?_
     refine AWp.start [0] [1,2] [] [0,5,8,104] 1 ⟨[(0,.pc 0 0),(5,.rp (c54 v2)),(8,tI (w64 (((arrL 10 ((v3.f0.getD (Int.toNat (v2.f1.getD 0 default)) default).f3)).getD (Int.toNat (v2.f1.getD 1 default)) 0) + ((arrL 4 ((gD v3.f0 v1).f4)).getD (Int.toNat (v2.f1.getD 2 default)) 0)))),(104,tI (w64 (((arrL 10 ((v3.f0.getD (Int.toNat (v2.f1.getD 0 default)) default).f3)).getD (Int.toNat (v2.f1.getD 1 default)) 0) + ((arrL 4 ((gD v3.f0 v1).f4)).getD (Int.toNat (v2.f1.getD 2 default)) 0))))],[.cells 51 [k0 v3.f0,.int .i64 v3.f1,k1 v3.f2]]⟩ rfl ?_ (zz rfl) trivial ?_
     ·kernel_rfl
     obtain ⟨v8,hv8,h⟩:=of_bind h
     refine AOps.cons (AOne.callP (F:=(FF 265 1)) _ rfl rfl rfl _ rfl rfl _ _ rfl Try.call37 [tI (w64 (((arrL 10 ((v3.f0.getD (Int.toNat (v2.f1.getD 0 default)) default).f3)).getD (Int.toNat (v2.f1.getD 1 default)) 0) + ((arrL 4 ((gD v3.f0 v1).f4)).getD (Int.toNat (v2.f1.getD 2 default)) 0))),tI (-2147483648:Int),tI (2147483648:Int)] rfl rfl (f37_ok (w64 (((arrL 10 ((v3.f0.getD (Int.toNat (v2.f1.getD 0 default)) default).f3)).getD (Int.toNat (v2.f1.getD 1 default)) 0) + ((arrL 4 ((gD v3.f0 v1).f4)).getD (Int.toNat (v2.f1.getD 2 default)) 0))) (-2147483648:Int) (2147483648:Int) hv8) rfl) ?_
     refine AOps.go [2] [] [] [0,5,8,106] 1 ⟨[(0,.pc 0 0),(5,.rp (c54 v2)),(8,tI (w64 (((arrL 10 ((v3.f0.getD (Int.toNat (v2.f1.getD 0 default)) default).f3)).getD (Int.toNat (v2.f1.getD 1 default)) 0) + ((arrL 4 ((gD v3.f0 v1).f4)).getD (Int.toNat (v2.f1.getD 2 default)) 0)))),(106,tB (!v8))],[.cells 51 [k0 v3.f0,.int .i64 v3.f1,k1 v3.f2]]⟩ ?_ (zz rfl) trivial ?_
     ·kernel_rfl
     refine AOps.nil ?_
     refine AWp.cond rfl (fun hb=>?_) fun hb=>?_
     ·replace h:=of_true h hb
      refine AWp.keepTo [] 1 ⟨[],[.cells 51 [k0 v3.f0,.int .i64 v3.f1,k1 v3.f2]]⟩ ?_ (zz rfl) ?_
      ·kernel_rfl
      refine AWp.seq ?_
      refine AWp.start [0] [] [] [6] 1 ⟨[(6,tB false)],[.cells 51 [k0 v3.f0,.int .i64 v3.f1,k1 v3.f2]]⟩ rfl ?_ (zz rfl) trivial ?_
      ·kernel_rfl
      refine AOps.nil ?_
      refine AWp.ret ?_
      cases h
      exact ⟨.inr rfl,rfl⟩
     ·replace h:=of_false h hb
      refine AWp.keepTo [0,5,8] 1 ⟨[(0,.pc 0 0),(5,.rp (c54 v2)),(8,tI (w64 (((arrL 10 ((v3.f0.getD (Int.toNat (v2.f1.getD 0 default)) default).f3)).getD (Int.toNat (v2.f1.getD 1 default)) 0) + ((arrL 4 ((gD v3.f0 v1).f4)).getD (Int.toNat (v2.f1.getD 2 default)) 0))))],[.cells 51 [k0 v3.f0,.int .i64 v3.f1,k1 v3.f2]]⟩ ?_ (zz rfl) ?_
      ·kernel_rfl
      refine AWp.skip ?_
      refine AWp.draw FFm _ (n:=17) rfl (ls:=#[n1,n1,n1,n1,n1,n1,n1,n1,n1,n1,n1,n1,n1,n1,n1,n1,n1]) rfl ?_ (fun _ h=>h)
      obtain ⟨hg,h⟩:=of_guard h
      refine AAny.go (by kernel_rfl) [0,1,2,4,5,6,7,8,9,10,11,12] (fuel':=5) rfl [(0:Int) ≤ (0:Int),(0:Int) < (v2.f1.length:Int),(0:Int) ≤ (1:Int),(1:Int) < (v2.f1.length:Int)] #[y1,y1,y1,n1,y1,y1,y1,y1,y1,y1,y1,y1,y1,n1,n1,n1,n1] [109,114,118,119] 1 ⟨[(109,.pc 0 0),(114,tI (v2.f1.getD 0 default)),(118,tI (v2.f1.getD 1 default)),(119,tI (w64 (((arrL 10 ((v3.f0.getD (Int.toNat (v2.f1.getD 0 default)) default).f3)).getD (Int.toNat (v2.f1.getD 1 default)) 0) + ((arrL 4 ((gD v3.f0 v1).f4)).getD (Int.toNat (v2.f1.getD 2 default)) 0))))],[.cells 51 [k0 v3.f0,.int .i64 v3.f1,k1 v3.f2]]⟩ ?_ (zz rfl) ⟨(by decide:(0:Int) ≤ (0:Int)),hg.1,(by decide:(0:Int) ≤ (1:Int)),hg.2⟩ ?_
      ·kernel_rfl
      refine AAny.step (i:=3) (fuel':=4) rfl (by kernel_rfl) [] #[y1,y1,y1,y1,y1,y1,y1,y1,y1,y1,y1,y1,y1,n1,n1,n1,n1] rfl [110,114,118,119] 1 ⟨[(110,.al (.cell 0 0,[])),(114,tI (v2.f1.getD 0 default)),(118,tI (v2.f1.getD 1 default)),(119,tI (w64 (((arrL 10 ((v3.f0.getD (Int.toNat (v2.f1.getD 0 default)) default).f3)).getD (Int.toNat (v2.f1.getD 1 default)) 0) + ((arrL 4 ((gD v3.f0 v1).f4)).getD (Int.toNat (v2.f1.getD 2 default)) 0))))],[.cells 51 [k0 v3.f0,.int .i64 v3.f1,k1 v3.f2]]⟩ ?_ (zz rfl) trivial ?_
      ·kernel_rfl
      obtain ⟨hg,h⟩:=of_guard h
      refine AAny.go (by kernel_rfl) [13,14,15] (fuel':=1) rfl [(0:Int) ≤ v2.f1.getD 0 default,v2.f1.getD 0 default < (v3.f0.length:Int),(0:Int) ≤ v2.f1.getD 1 default,v2.f1.getD 1 default < (10:Int)] #[y1,y1,y1,y1,y1,y1,y1,y1,y1,y1,y1,y1,y1,y1,y1,y1,n1] [119,122] 1 ⟨[(119,tI (w64 (((arrL 10 ((v3.f0.getD (Int.toNat (v2.f1.getD 0 default)) default).f3)).getD (Int.toNat (v2.f1.getD 1 default)) 0) + ((arrL 4 ((gD v3.f0 v1).f4)).getD (Int.toNat (v2.f1.getD 2 default)) 0)))),(122,.pa (.cell 0 0,[]) (Int.toNat (v2.f1.getD 0 default)) 3 10 (Int.toNat (v2.f1.getD 1 default)) 27)],[.cells 51 [k0 v3.f0,.int .i64 v3.f1,k1 v3.f2]]⟩ ?_ (zz rfl) ⟨hg.1,hg.2.1,hg.2.2.1,hg.2.2.2⟩ ?_
      ·kernel_rfl
      refine AAny.serial (i:=16) (fuel:=0) (by kernel_rfl) (AOne.storeN (F:=(FF 265 1)) (i:=(Int.toNat (v2.f1.getD 0 default))) (n2:=(v3.f0.set (Int.toNat (v2.f1.getD 0 default)) (T60.mk (v3.f0.getD (Int.toNat (v2.f1.getD 0 default)) default).f0 (v3.f0.getD (Int.toNat (v2.f1.getD 0 default)) default).f1 (v3.f0.getD (Int.toNat (v2.f1.getD 0 default)) default).f2 (setN 10 (v3.f0.getD (Int.toNat (v2.f1.getD 0 default)) default).f3 (Int.toNat (v2.f1.getD 1 default)) (w64 (((arrL 10 ((v3.f0.getD (Int.toNat (v2.f1.getD 0 default)) default).f3)).getD (Int.toNat (v2.f1.getD 1 default)) 0) + ((arrL 4 ((v3.f0.getD v1.toNat default).f4)).getD (Int.toNat (v2.f1.getD 2 default)) 0)))) (v3.f0.getD (Int.toNat (v2.f1.getD 0 default)) default).f4 (v3.f0.getD (Int.toNat (v2.f1.getD 0 default)) default).f5 (v3.f0.getD (Int.toNat (v2.f1.getD 0 default)) default).f6 (v3.f0.getD (Int.toNat (v2.f1.getD 0 default)) default).f7 (v3.f0.getD (Int.toNat (v2.f1.getD 0 default)) default).f8)).length) (n':=v3.f0.length) (f:=(fun i=>o60 (v3.f0.getD i default))) (f':=(fun i=>o60 ((v3.f0.set (Int.toNat (v2.f1.getD 0 default)) (T60.mk (v3.f0.getD (Int.toNat (v2.f1.getD 0 default)) default).f0 (v3.f0.getD (Int.toNat (v2.f1.getD 0 default)) default).f1 (v3.f0.getD (Int.toNat (v2.f1.getD 0 default)) default).f2 (setN 10 (v3.f0.getD (Int.toNat (v2.f1.getD 0 default)) default).f3 (Int.toNat (v2.f1.getD 1 default)) (w64 (((arrL 10 ((v3.f0.getD (Int.toNat (v2.f1.getD 0 default)) default).f3)).getD (Int.toNat (v2.f1.getD 1 default)) 0) + ((arrL 4 ((v3.f0.getD v1.toNat default).f4)).getD (Int.toNat (v2.f1.getD 2 default)) 0)))) (v3.f0.getD (Int.toNat (v2.f1.getD 0 default)) default).f4 (v3.f0.getD (Int.toNat (v2.f1.getD 0 default)) default).f5 (v3.f0.getD (Int.toNat (v2.f1.getD 0 default)) default).f6 (v3.f0.getD (Int.toNat (v2.f1.getD 0 default)) default).f7 (v3.f0.getD (Int.toNat (v2.f1.getD 0 default)) default).f8)).getD i default))) _ rfl rfl rfl rfl rfl rfl rfl rfl rfl (set_at o60 v3.f0 (Int.toNat (v2.f1.getD 0 default)) (3 + (Int.toNat (v2.f1.getD 1 default))) [.int .i64 (w64 (((arrL 10 ((v3.f0.getD (Int.toNat (v2.f1.getD 0 default)) default).f3)).getD (Int.toNat (v2.f1.getD 1 default)) 0) + ((arrL 4 ((v3.f0.getD v1.toNat default).f4)).getD (Int.toNat (v2.f1.getD 2 default)) 0)))] (T60.mk (v3.f0.getD (Int.toNat (v2.f1.getD 0 default)) default).f0 (v3.f0.getD (Int.toNat (v2.f1.getD 0 default)) default).f1 (v3.f0.getD (Int.toNat (v2.f1.getD 0 default)) default).f2 (setN 10 (v3.f0.getD (Int.toNat (v2.f1.getD 0 default)) default).f3 (Int.toNat (v2.f1.getD 1 default)) (w64 (((arrL 10 ((v3.f0.getD (Int.toNat (v2.f1.getD 0 default)) default).f3)).getD (Int.toNat (v2.f1.getD 1 default)) 0) + ((arrL 4 ((v3.f0.getD v1.toNat default).f4)).getD (Int.toNat (v2.f1.getD 2 default)) 0)))) (v3.f0.getD (Int.toNat (v2.f1.getD 0 default)) default).f4 (v3.f0.getD (Int.toNat (v2.f1.getD 0 default)) default).f5 (v3.f0.getD (Int.toNat (v2.f1.getD 0 default)) default).f6 (v3.f0.getD (Int.toNat (v2.f1.getD 0 default)) default).f7 (v3.f0.getD (Int.toNat (v2.f1.getD 0 default)) default).f8) (put60_3 (v3.f0.getD (Int.toNat (v2.f1.getD 0 default)) default) (Int.toNat (v2.f1.getD 1 default)) (w64 (((arrL 10 ((v3.f0.getD (Int.toNat (v2.f1.getD 0 default)) default).f3)).getD (Int.toNat (v2.f1.getD 1 default)) 0) + ((arrL 4 ((v3.f0.getD v1.toNat default).f4)).getD (Int.toNat (v2.f1.getD 2 default)) 0))) (by omega))) List.length_set.symm rfl) ?_
      refine AAny.keepTo [] 1 ⟨[],[.cells 51 [k0 (v3.f0.set (Int.toNat (v2.f1.getD 0 default)) (T60.mk (v3.f0.getD (Int.toNat (v2.f1.getD 0 default)) default).f0 (v3.f0.getD (Int.toNat (v2.f1.getD 0 default)) default).f1 (v3.f0.getD (Int.toNat (v2.f1.getD 0 default)) default).f2 (setN 10 (v3.f0.getD (Int.toNat (v2.f1.getD 0 default)) default).f3 (Int.toNat (v2.f1.getD 1 default)) (w64 (((arrL 10 ((v3.f0.getD (Int.toNat (v2.f1.getD 0 default)) default).f3)).getD (Int.toNat (v2.f1.getD 1 default)) 0) + ((arrL 4 ((gD v3.f0 v1).f4)).getD (Int.toNat (v2.f1.getD 2 default)) 0)))) (v3.f0.getD (Int.toNat (v2.f1.getD 0 default)) default).f4 (v3.f0.getD (Int.toNat (v2.f1.getD 0 default)) default).f5 (v3.f0.getD (Int.toNat (v2.f1.getD 0 default)) default).f6 (v3.f0.getD (Int.toNat (v2.f1.getD 0 default)) default).f7 (v3.f0.getD (Int.toNat (v2.f1.getD 0 default)) default).f8)),.int .i64 v3.f1,k1 v3.f2]]⟩ #[y1,y1,y1,y1,y1,y1,y1,y1,y1,y1,y1,y1,y1,y1,y1,y1,y1] ?_ rfl (zz rfl) ?_
      ·kernel_rfl
      refine AAny.keepTo [] 1 ⟨[],[.cells 51 [k0 (v3.f0.set (Int.toNat (v2.f1.getD 0 default)) (T60.mk (v3.f0.getD (Int.toNat (v2.f1.getD 0 default)) default).f0 (v3.f0.getD (Int.toNat (v2.f1.getD 0 default)) default).f1 (v3.f0.getD (Int.toNat (v2.f1.getD 0 default)) default).f2 (setN 10 (v3.f0.getD (Int.toNat (v2.f1.getD 0 default)) default).f3 (Int.toNat (v2.f1.getD 1 default)) (w64 (((arrL 10 ((v3.f0.getD (Int.toNat (v2.f1.getD 0 default)) default).f3)).getD (Int.toNat (v2.f1.getD 1 default)) 0) + ((arrL 4 ((gD v3.f0 v1).f4)).getD (Int.toNat (v2.f1.getD 2 default)) 0)))) (v3.f0.getD (Int.toNat (v2.f1.getD 0 default)) default).f4 (v3.f0.getD (Int.toNat (v2.f1.getD 0 default)) default).f5 (v3.f0.getD (Int.toNat (v2.f1.getD 0 default)) default).f6 (v3.f0.getD (Int.toNat (v2.f1.getD 0 default)) default).f7 (v3.f0.getD (Int.toNat (v2.f1.getD 0 default)) default).f8)),.int .i64 v3.f1,k1 v3.f2]]⟩ _ ?_ rfl (zz rfl) (AAny.done (by kernel_rfl) ?_)
      ·kernel_rfl
      exact ⟨v3.f0.set (Int.toNat (v2.f1.getD 0 default)) (T60.mk (v3.f0.getD (Int.toNat (v2.f1.getD 0 default)) default).f0 (v3.f0.getD (Int.toNat (v2.f1.getD 0 default)) default).f1 (v3.f0.getD (Int.toNat (v2.f1.getD 0 default)) default).f2 (setN 10 (v3.f0.getD (Int.toNat (v2.f1.getD 0 default)) default).f3 (Int.toNat (v2.f1.getD 1 default)) (w64 (((arrL 10 ((v3.f0.getD (Int.toNat (v2.f1.getD 0 default)) default).f3)).getD (Int.toNat (v2.f1.getD 1 default)) 0) + ((arrL 4 ((gD v3.f0 v1).f4)).getD (Int.toNat (v2.f1.getD 2 default)) 0)))) (v3.f0.getD (Int.toNat (v2.f1.getD 0 default)) default).f4 (v3.f0.getD (Int.toNat (v2.f1.getD 0 default)) default).f5 (v3.f0.getD (Int.toNat (v2.f1.getD 0 default)) default).f6 (v3.f0.getD (Int.toNat (v2.f1.getD 0 default)) default).f7 (v3.f0.getD (Int.toNat (v2.f1.getD 0 default)) default).f8),h,rfl⟩
    ·replace h:=of_false h hb
     refine AWp.keepTo [0,1,5,7,50] 1 ⟨[(0,.pc 0 0),(1,tI v1),(5,.rp (c54 v2)),(7,.pe (.cell 0 0,[]) v1.toNat 0 27),(50,tS v2.f0)],[.cells 51 [k0 v3.f0,.int .i64 v3.f1,k1 v3.f2]]⟩ ?_ (zz rfl) ?_
     ·kernel_rfl
     refine AWp.seq ?_
     refine AWp.start [0,1] [] [] [0,1,5,7,50,123] 1 ⟨[(0,.pc 0 0),(1,tI v1),(5,.rp (c54 v2)),(7,.pe (.cell 0 0,[]) v1.toNat 0 27),(50,tS v2.f0),(123,tB (v2.f0 == ([103,101,116]:List UInt8)))],[.cells 51 [k0 v3.f0,.int .i64 v3.f1,k1 v3.f2]]⟩ rfl ?_ (zz rfl) trivial ?_
     ·kernel_rfl
     refine AOps.nil ?_
     refine AWp.cond rfl (fun hb=>?_) fun hb=>?_
     ·replace h:=of_true h hb
      refine AWp.keepTo [0,5,7] 1 ⟨[(0,.pc 0 0),(5,.rp (c54 v2)),(7,.pe (.cell 0 0,[]) v1.toNat 0 27)],[.cells 51 [k0 v3.f0,.int .i64 v3.f1,k1 v3.f2]]⟩ ?_ (zz rfl) ?_
      ·kernel_rfl
      refine AWp.draw FFm _ (n:=25) rfl (ls:=#[n1,n1,n1,n1,n1,n1,n1,n1,n1,n1,n1,n1,n1,n1,n1,n1,n1,n1,n1,n1,n1,n1,n1,n1,n1]) rfl ?_ (fun _ h=>h)
      obtain ⟨hg,h⟩:=of_guard h
      refine AAny.go (by kernel_rfl) [0,1,2,3,4,5,6,7,9,10,11,12,13,14,15,16,21,22] (fuel':=7) rfl [(0:Int) ≤ (2:Int),(2:Int) < (v2.f1.length:Int),(0:Int) ≤ (0:Int),(0:Int) < (v2.f1.length:Int),(0:Int) ≤ (1:Int),(1:Int) < (v2.f1.length:Int)] #[y1,y1,y1,y1,y1,y1,y1,y1,n1,y1,y1,y1,y1,y1,y1,y1,y1,n1,n1,n1,n1,y1,y1,n1,n1] [129,132,137,141,147] 1 ⟨[(129,tI (v2.f1.getD 2 default)),(132,.pc 0 0),(137,tI (v2.f1.getD 0 default)),(141,tI (v2.f1.getD 1 default)),(147,.pe (.cell 0 0,[]) v1.toNat 13 27)],[.cells 51 [k0 v3.f0,.int .i64 v3.f1,k1 v3.f2]]⟩ ?_ (zz rfl) ⟨(by decide:(0:Int) ≤ (2:Int)),hg.1,(by decide:(0:Int) ≤ (0:Int)),hg.2.1,(by decide:(0:Int) ≤ (1:Int)),hg.2.2⟩ ?_
      ·kernel_rfl
      refine AAny.step (i:=8) (fuel':=6) rfl (by kernel_rfl) [] #[y1,y1,y1,y1,y1,y1,y1,y1,y1,y1,y1,y1,y1,y1,y1,y1,y1,n1,n1,n1,n1,y1,y1,n1,n1] rfl [129,133,137,141,147] 1 ⟨[(129,tI (v2.f1.getD 2 default)),(133,.al (.cell 0 0,[])),(137,tI (v2.f1.getD 0 default)),(141,tI (v2.f1.getD 1 default)),(147,.pe (.cell 0 0,[]) v1.toNat 13 27)],[.cells 51 [k0 v3.f0,.int .i64 v3.f1,k1 v3.f2]]⟩ ?_ (zz rfl) trivial ?_
      ·kernel_rfl
      obtain ⟨hg,h⟩:=of_guard h
      refine AAny.go (by kernel_rfl) [17,18,19] (fuel':=3) rfl [(0:Int) ≤ v2.f1.getD 0 default,v2.f1.getD 0 default < (v3.f0.length:Int),(0:Int) ≤ v2.f1.getD 1 default,v2.f1.getD 1 default < (10:Int)] #[y1,y1,y1,y1,y1,y1,y1,y1,y1,y1,y1,y1,y1,y1,y1,y1,y1,y1,y1,y1,n1,y1,y1,n1,n1] [129,144,147] 1 ⟨[(129,tI (v2.f1.getD 2 default)),(144,.pa (.cell 0 0,[]) (Int.toNat (v2.f1.getD 0 default)) 3 10 (Int.toNat (v2.f1.getD 1 default)) 27),(147,.pe (.cell 0 0,[]) v1.toNat 13 27)],[.cells 51 [k0 v3.f0,.int .i64 v3.f1,k1 v3.f2]]⟩ ?_ (zz rfl) ⟨hg.1,hg.2.1,hg.2.2.1,hg.2.2.2⟩ ?_
      ·kernel_rfl
      refine AAny.step (i:=20) (fuel':=2) rfl (by kernel_rfl) [] #[y1,y1,y1,y1,y1,y1,y1,y1,y1,y1,y1,y1,y1,y1,y1,y1,y1,y1,y1,y1,y1,y1,y1,n1,n1] rfl [129,145,147] 1 ⟨[(129,tI (v2.f1.getD 2 default)),(145,tI ((arrL 10 ((v3.f0.getD (Int.toNat (v2.f1.getD 0 default)) default).f3)).getD (Int.toNat (v2.f1.getD 1 default)) 0)),(147,.pe (.cell 0 0,[]) v1.toNat 13 27)],[.cells 51 [k0 v3.f0,.int .i64 v3.f1,k1 v3.f2]]⟩ ?_ (zz rfl) trivial ?_
      ·kernel_rfl
      obtain ⟨hg,h⟩:=of_guard h
      refine AAny.go (by kernel_rfl) [23] (fuel':=1) rfl [(0:Int) ≤ v2.f1.getD 2 default,v2.f1.getD 2 default < (4:Int)] #[y1,y1,y1,y1,y1,y1,y1,y1,y1,y1,y1,y1,y1,y1,y1,y1,y1,y1,y1,y1,y1,y1,y1,y1,n1] [145,148] 1 ⟨[(145,tI ((arrL 10 ((v3.f0.getD (Int.toNat (v2.f1.getD 0 default)) default).f3)).getD (Int.toNat (v2.f1.getD 1 default)) 0)),(148,.pa (.cell 0 0,[]) v1.toNat 13 4 (Int.toNat (v2.f1.getD 2 default)) 27)],[.cells 51 [k0 v3.f0,.int .i64 v3.f1,k1 v3.f2]]⟩ ?_ (zz rfl) ⟨hg.1,hg.2⟩ ?_
      ·kernel_rfl
      refine AAny.serial (i:=24) (fuel:=0) (by kernel_rfl) (AOne.storeN (F:=(FF 265 1)) (i:=v1.toNat) (n2:=(v3.f0.set v1.toNat (T60.mk (v3.f0.getD v1.toNat default).f0 (v3.f0.getD v1.toNat default).f1 (v3.f0.getD v1.toNat default).f2 (v3.f0.getD v1.toNat default).f3 (setN 4 (v3.f0.getD v1.toNat default).f4 (Int.toNat (v2.f1.getD 2 default)) ((arrL 10 ((v3.f0.getD (Int.toNat (v2.f1.getD 0 default)) default).f3)).getD (Int.toNat (v2.f1.getD 1 default)) 0)) (v3.f0.getD v1.toNat default).f5 (v3.f0.getD v1.toNat default).f6 (v3.f0.getD v1.toNat default).f7 (v3.f0.getD v1.toNat default).f8)).length) (n':=v3.f0.length) (f:=(fun i=>o60 (v3.f0.getD i default))) (f':=(fun i=>o60 ((v3.f0.set v1.toNat (T60.mk (v3.f0.getD v1.toNat default).f0 (v3.f0.getD v1.toNat default).f1 (v3.f0.getD v1.toNat default).f2 (v3.f0.getD v1.toNat default).f3 (setN 4 (v3.f0.getD v1.toNat default).f4 (Int.toNat (v2.f1.getD 2 default)) ((arrL 10 ((v3.f0.getD (Int.toNat (v2.f1.getD 0 default)) default).f3)).getD (Int.toNat (v2.f1.getD 1 default)) 0)) (v3.f0.getD v1.toNat default).f5 (v3.f0.getD v1.toNat default).f6 (v3.f0.getD v1.toNat default).f7 (v3.f0.getD v1.toNat default).f8)).getD i default))) _ rfl rfl rfl rfl rfl rfl rfl rfl rfl (set_at o60 v3.f0 v1.toNat (13 + (Int.toNat (v2.f1.getD 2 default))) [.int .i64 ((arrL 10 ((v3.f0.getD (Int.toNat (v2.f1.getD 0 default)) default).f3)).getD (Int.toNat (v2.f1.getD 1 default)) 0)] (T60.mk (v3.f0.getD v1.toNat default).f0 (v3.f0.getD v1.toNat default).f1 (v3.f0.getD v1.toNat default).f2 (v3.f0.getD v1.toNat default).f3 (setN 4 (v3.f0.getD v1.toNat default).f4 (Int.toNat (v2.f1.getD 2 default)) ((arrL 10 ((v3.f0.getD (Int.toNat (v2.f1.getD 0 default)) default).f3)).getD (Int.toNat (v2.f1.getD 1 default)) 0)) (v3.f0.getD v1.toNat default).f5 (v3.f0.getD v1.toNat default).f6 (v3.f0.getD v1.toNat default).f7 (v3.f0.getD v1.toNat default).f8) (put60_4 (v3.f0.getD v1.toNat default) (Int.toNat (v2.f1.getD 2 default)) ((arrL 10 ((v3.f0.getD (Int.toNat (v2.f1.getD 0 default)) default).f3)).getD (Int.toNat (v2.f1.getD 1 default)) 0) (by omega))) List.length_set.symm rfl) ?_
      refine AAny.keepTo [] 1 ⟨[],[.cells 51 [k0 (v3.f0.set v1.toNat (T60.mk (gD v3.f0 v1).f0 (gD v3.f0 v1).f1 (gD v3.f0 v1).f2 (gD v3.f0 v1).f3 (setN 4 (gD v3.f0 v1).f4 (Int.toNat (v2.f1.getD 2 default)) ((arrL 10 ((v3.f0.getD (Int.toNat (v2.f1.getD 0 default)) default).f3)).getD (Int.toNat (v2.f1.getD 1 default)) 0)) (gD v3.f0 v1).f5 (gD v3.f0 v1).f6 (gD v3.f0 v1).f7 (gD v3.f0 v1).f8)),.int .i64 v3.f1,k1 v3.f2]]⟩ #[y1,y1,y1,y1,y1,y1,y1,y1,y1,y1,y1,y1,y1,y1,y1,y1,y1,y1,y1,y1,y1,y1,y1,y1,y1] ?_ rfl (zz rfl) ?_
      ·kernel_rfl
      refine AAny.keepTo [] 1 ⟨[],[.cells 51 [k0 (v3.f0.set v1.toNat (T60.mk (gD v3.f0 v1).f0 (gD v3.f0 v1).f1 (gD v3.f0 v1).f2 (gD v3.f0 v1).f3 (setN 4 (gD v3.f0 v1).f4 (Int.toNat (v2.f1.getD 2 default)) ((arrL 10 ((v3.f0.getD (Int.toNat (v2.f1.getD 0 default)) default).f3)).getD (Int.toNat (v2.f1.getD 1 default)) 0)) (gD v3.f0 v1).f5 (gD v3.f0 v1).f6 (gD v3.f0 v1).f7 (gD v3.f0 v1).f8)),.int .i64 v3.f1,k1 v3.f2]]⟩ _ ?_ rfl (zz rfl) (AAny.done (by kernel_rfl) ?_)
      ·kernel_rfl
      exact ⟨v3.f0.set v1.toNat (T60.mk (gD v3.f0 v1).f0 (gD v3.f0 v1).f1 (gD v3.f0 v1).f2 (gD v3.f0 v1).f3 (setN 4 (gD v3.f0 v1).f4 (Int.toNat (v2.f1.getD 2 default)) ((arrL 10 ((v3.f0.getD (Int.toNat (v2.f1.getD 0 default)) default).f3)).getD (Int.toNat (v2.f1.getD 1 default)) 0)) (gD v3.f0 v1).f5 (gD v3.f0 v1).f6 (gD v3.f0 v1).f7 (gD v3.f0 v1).f8),h,rfl⟩
     ·replace h:=of_false h hb
      refine AWp.keepTo [0,1,5,7,50] 1 ⟨[(0,.pc 0 0),(1,tI v1),(5,.rp (c54 v2)),(7,.pe (.cell 0 0,[]) v1.toNat 0 27),(50,tS v2.f0)],[.cells 51 [k0 v3.f0,.int .i64 v3.f1,k1 v3.f2]]⟩ ?_ (zz rfl) ?_
      ·kernel_rfl
      refine AWp.seq ?_
      refine AWp.start [0,1] [] [] [0,1,5,7,50,149] 1 ⟨[(0,.pc 0 0),(1,tI v1),(5,.rp (c54 v2)),(7,.pe (.cell 0 0,[]) v1.toNat 0 27),(50,tS v2.f0),(149,tB (v2.f0 == ([115,116,111,114,101]:List UInt8)))],[.cells 51 [k0 v3.f0,.int .i64 v3.f1,k1 v3.f2]]⟩ rfl ?_ (zz rfl) trivial ?_
      ·kernel_rfl
      refine AOps.nil ?_
      refine AWp.cond rfl (fun hb=>?_) fun hb=>?_
      ·replace h:=of_true h hb
       refine AWp.keepTo [0,5,7] 1 ⟨[(0,.pc 0 0),(5,.rp (c54 v2)),(7,.pe (.cell 0 0,[]) v1.toNat 0 27)],[.cells 51 [k0 v3.f0,.int .i64 v3.f1,k1 v3.f2]]⟩ ?_ (zz rfl) ?_
       ·kernel_rfl
       refine AWp.draw FFm _ (n:=25) rfl (ls:=#[n1,n1,n1,n1,n1,n1,n1,n1,n1,n1,n1,n1,n1,n1,n1,n1,n1,n1,n1,n1,n1,n1,n1,n1,n1]) rfl ?_ (fun _ h=>h)
       obtain ⟨hg,h⟩:=of_guard h
       refine AAny.go (by kernel_rfl) [0,1,2,4,5,6,7,8,9,10,11,12,13,14,15,16,17,18,19] (fuel':=6) rfl [(0:Int) ≤ (0:Int),(0:Int) < (v2.f1.length:Int),(0:Int) ≤ (1:Int),(1:Int) < (v2.f1.length:Int),(0:Int) ≤ (2:Int),(2:Int) < (v2.f1.length:Int),(0:Int) ≤ v2.f1.getD 2 default,v2.f1.getD 2 default < (4:Int)] #[y1,y1,y1,n1,y1,y1,y1,y1,y1,y1,y1,y1,y1,y1,y1,y1,y1,y1,y1,y1,n1,n1,n1,n1,n1] [153,158,162,170] 1 ⟨[(153,.pc 0 0),(158,tI (v2.f1.getD 0 default)),(162,tI (v2.f1.getD 1 default)),(170,.pa (.cell 0 0,[]) v1.toNat 13 4 (Int.toNat (v2.f1.getD 2 default)) 27)],[.cells 51 [k0 v3.f0,.int .i64 v3.f1,k1 v3.f2]]⟩ ?_ (zz rfl) ⟨(by decide:(0:Int) ≤ (0:Int)),hg.1,(by decide:(0:Int) ≤ (1:Int)),hg.2.1,(by decide:(0:Int) ≤ (2:Int)),hg.2.2.1,hg.2.2.2.1,hg.2.2.2.2⟩ ?_
       ·kernel_rfl
       refine AAny.goR (by kernel_rfl) (i:=3) (fuel':=5) [21,22,23,24] rfl (by kernel_rfl) (by kernel_rfl) [] #[y1,y1,y1,y1,y1,y1,y1,y1,y1,y1,y1,y1,y1,y1,y1,y1,y1,y1,y1,y1,n1,n1,n1,n1,n1] rfl [154,158,162,170] 1 ⟨[(154,.al (.cell 0 0,[])),(158,tI (v2.f1.getD 0 default)),(162,tI (v2.f1.getD 1 default)),(170,.pa (.cell 0 0,[]) v1.toNat 13 4 (Int.toNat (v2.f1.getD 2 default)) 27)],[.cells 51 [k0 v3.f0,.int .i64 v3.f1,k1 v3.f2]]⟩ ?_ (zz rfl) trivial ?_
       ·kernel_rfl
       obtain ⟨hg,h⟩:=of_guard h
       refine AAny.go (by kernel_rfl) [21,22] (fuel':=3) rfl [(0:Int) ≤ v2.f1.getD 0 default,v2.f1.getD 0 default < (v3.f0.length:Int)] #[y1,y1,y1,y1,y1,y1,y1,y1,y1,y1,y1,y1,y1,y1,y1,y1,y1,y1,y1,y1,n1,y1,y1,n1,n1] [162,170,173] 1 ⟨[(162,tI (v2.f1.getD 1 default)),(170,.pa (.cell 0 0,[]) v1.toNat 13 4 (Int.toNat (v2.f1.getD 2 default)) 27),(173,.pe (.cell 0 0,[]) (Int.toNat (v2.f1.getD 0 default)) 3 27)],[.cells 51 [k0 v3.f0,.int .i64 v3.f1,k1 v3.f2]]⟩ ?_ (zz rfl) ⟨hg.1,hg.2⟩ ?_
       ·kernel_rfl
       refine AAny.step (i:=20) (fuel':=2) rfl (by kernel_rfl) [] #[y1,y1,y1,y1,y1,y1,y1,y1,y1,y1,y1,y1,y1,y1,y1,y1,y1,y1,y1,y1,y1,y1,y1,n1,n1] rfl [162,171,173] 1 ⟨[(162,tI (v2.f1.getD 1 default)),(171,tI ((arrL 4 ((gD v3.f0 v1).f4)).getD (Int.toNat (v2.f1.getD 2 default)) 0)),(173,.pe (.cell 0 0,[]) (Int.toNat (v2.f1.getD 0 default)) 3 27)],[.cells 51 [k0 v3.f0,.int .i64 v3.f1,k1 v3.f2]]⟩ ?_ (zz rfl) trivial ?_
       ·kernel_rfl
       obtain ⟨hg,h⟩:=of_guard h
       refine AAny.go (by kernel_rfl) [23] (fuel':=1) rfl [(0:Int) ≤ v2.f1.getD 1 default,v2.f1.getD 1 default < (10:Int)] #[y1,y1,y1,y1,y1,y1,y1,y1,y1,y1,y1,y1,y1,y1,y1,y1,y1,y1,y1,y1,y1,y1,y1,y1,n1] [171,174] 1 ⟨[(171,tI ((arrL 4 ((gD v3.f0 v1).f4)).getD (Int.toNat (v2.f1.getD 2 default)) 0)),(174,.pa (.cell 0 0,[]) (Int.toNat (v2.f1.getD 0 default)) 3 10 (Int.toNat (v2.f1.getD 1 default)) 27)],[.cells 51 [k0 v3.f0,.int .i64 v3.f1,k1 v3.f2]]⟩ ?_ (zz rfl) ⟨hg.1,hg.2⟩ ?_
       ·kernel_rfl
       refine AAny.serial (i:=24) (fuel:=0) (by kernel_rfl) (AOne.storeN (F:=(FF 265 1)) (i:=(Int.toNat (v2.f1.getD 0 default))) (n2:=(v3.f0.set (Int.toNat (v2.f1.getD 0 default)) (T60.mk (v3.f0.getD (Int.toNat (v2.f1.getD 0 default)) default).f0 (v3.f0.getD (Int.toNat (v2.f1.getD 0 default)) default).f1 (v3.f0.getD (Int.toNat (v2.f1.getD 0 default)) default).f2 (setN 10 (v3.f0.getD (Int.toNat (v2.f1.getD 0 default)) default).f3 (Int.toNat (v2.f1.getD 1 default)) ((arrL 4 ((v3.f0.getD v1.toNat default).f4)).getD (Int.toNat (v2.f1.getD 2 default)) 0)) (v3.f0.getD (Int.toNat (v2.f1.getD 0 default)) default).f4 (v3.f0.getD (Int.toNat (v2.f1.getD 0 default)) default).f5 (v3.f0.getD (Int.toNat (v2.f1.getD 0 default)) default).f6 (v3.f0.getD (Int.toNat (v2.f1.getD 0 default)) default).f7 (v3.f0.getD (Int.toNat (v2.f1.getD 0 default)) default).f8)).length) (n':=v3.f0.length) (f:=(fun i=>o60 (v3.f0.getD i default))) (f':=(fun i=>o60 ((v3.f0.set (Int.toNat (v2.f1.getD 0 default)) (T60.mk (v3.f0.getD (Int.toNat (v2.f1.getD 0 default)) default).f0 (v3.f0.getD (Int.toNat (v2.f1.getD 0 default)) default).f1 (v3.f0.getD (Int.toNat (v2.f1.getD 0 default)) default).f2 (setN 10 (v3.f0.getD (Int.toNat (v2.f1.getD 0 default)) default).f3 (Int.toNat (v2.f1.getD 1 default)) ((arrL 4 ((v3.f0.getD v1.toNat default).f4)).getD (Int.toNat (v2.f1.getD 2 default)) 0)) (v3.f0.getD (Int.toNat (v2.f1.getD 0 default)) default).f4 (v3.f0.getD (Int.toNat (v2.f1.getD 0 default)) default).f5 (v3.f0.getD (Int.toNat (v2.f1.getD 0 default)) default).f6 (v3.f0.getD (Int.toNat (v2.f1.getD 0 default)) default).f7 (v3.f0.getD (Int.toNat (v2.f1.getD 0 default)) default).f8)).getD i default))) _ rfl rfl rfl rfl rfl rfl rfl rfl rfl (set_at o60 v3.f0 (Int.toNat (v2.f1.getD 0 default)) (3 + (Int.toNat (v2.f1.getD 1 default))) [.int .i64 ((arrL 4 ((v3.f0.getD v1.toNat default).f4)).getD (Int.toNat (v2.f1.getD 2 default)) 0)] (T60.mk (v3.f0.getD (Int.toNat (v2.f1.getD 0 default)) default).f0 (v3.f0.getD (Int.toNat (v2.f1.getD 0 default)) default).f1 (v3.f0.getD (Int.toNat (v2.f1.getD 0 default)) default).f2 (setN 10 (v3.f0.getD (Int.toNat (v2.f1.getD 0 default)) default).f3 (Int.toNat (v2.f1.getD 1 default)) ((arrL 4 ((v3.f0.getD v1.toNat default).f4)).getD (Int.toNat (v2.f1.getD 2 default)) 0)) (v3.f0.getD (Int.toNat (v2.f1.getD 0 default)) default).f4 (v3.f0.getD (Int.toNat (v2.f1.getD 0 default)) default).f5 (v3.f0.getD (Int.toNat (v2.f1.getD 0 default)) default).f6 (v3.f0.getD (Int.toNat (v2.f1.getD 0 default)) default).f7 (v3.f0.getD (Int.toNat (v2.f1.getD 0 default)) default).f8) (put60_3 (v3.f0.getD (Int.toNat (v2.f1.getD 0 default)) default) (Int.toNat (v2.f1.getD 1 default)) ((arrL 4 ((v3.f0.getD v1.toNat default).f4)).getD (Int.toNat (v2.f1.getD 2 default)) 0) (by omega))) List.length_set.symm rfl) ?_
       refine AAny.keepTo [] 1 ⟨[],[.cells 51 [k0 (v3.f0.set (Int.toNat (v2.f1.getD 0 default)) (T60.mk (v3.f0.getD (Int.toNat (v2.f1.getD 0 default)) default).f0 (v3.f0.getD (Int.toNat (v2.f1.getD 0 default)) default).f1 (v3.f0.getD (Int.toNat (v2.f1.getD 0 default)) default).f2 (setN 10 (v3.f0.getD (Int.toNat (v2.f1.getD 0 default)) default).f3 (Int.toNat (v2.f1.getD 1 default)) ((arrL 4 ((gD v3.f0 v1).f4)).getD (Int.toNat (v2.f1.getD 2 default)) 0)) (v3.f0.getD (Int.toNat (v2.f1.getD 0 default)) default).f4 (v3.f0.getD (Int.toNat (v2.f1.getD 0 default)) default).f5 (v3.f0.getD (Int.toNat (v2.f1.getD 0 default)) default).f6 (v3.f0.getD (Int.toNat (v2.f1.getD 0 default)) default).f7 (v3.f0.getD (Int.toNat (v2.f1.getD 0 default)) default).f8)),.int .i64 v3.f1,k1 v3.f2]]⟩ #[y1,y1,y1,y1,y1,y1,y1,y1,y1,y1,y1,y1,y1,y1,y1,y1,y1,y1,y1,y1,y1,y1,y1,y1,y1] ?_ rfl (zz rfl) ?_
       ·kernel_rfl
       refine AAny.keepTo [] 1 ⟨[],[.cells 51 [k0 (v3.f0.set (Int.toNat (v2.f1.getD 0 default)) (T60.mk (v3.f0.getD (Int.toNat (v2.f1.getD 0 default)) default).f0 (v3.f0.getD (Int.toNat (v2.f1.getD 0 default)) default).f1 (v3.f0.getD (Int.toNat (v2.f1.getD 0 default)) default).f2 (setN 10 (v3.f0.getD (Int.toNat (v2.f1.getD 0 default)) default).f3 (Int.toNat (v2.f1.getD 1 default)) ((arrL 4 ((gD v3.f0 v1).f4)).getD (Int.toNat (v2.f1.getD 2 default)) 0)) (v3.f0.getD (Int.toNat (v2.f1.getD 0 default)) default).f4 (v3.f0.getD (Int.toNat (v2.f1.getD 0 default)) default).f5 (v3.f0.getD (Int.toNat (v2.f1.getD 0 default)) default).f6 (v3.f0.getD (Int.toNat (v2.f1.getD 0 default)) default).f7 (v3.f0.getD (Int.toNat (v2.f1.getD 0 default)) default).f8)),.int .i64 v3.f1,k1 v3.f2]]⟩ _ ?_ rfl (zz rfl) (AAny.done (by kernel_rfl) ?_)
       ·kernel_rfl
       exact ⟨v3.f0.set (Int.toNat (v2.f1.getD 0 default)) (T60.mk (v3.f0.getD (Int.toNat (v2.f1.getD 0 default)) default).f0 (v3.f0.getD (Int.toNat (v2.f1.getD 0 default)) default).f1 (v3.f0.getD (Int.toNat (v2.f1.getD 0 default)) default).f2 (setN 10 (v3.f0.getD (Int.toNat (v2.f1.getD 0 default)) default).f3 (Int.toNat (v2.f1.getD 1 default)) ((arrL 4 ((gD v3.f0 v1).f4)).getD (Int.toNat (v2.f1.getD 2 default)) 0)) (v3.f0.getD (Int.toNat (v2.f1.getD 0 default)) default).f4 (v3.f0.getD (Int.toNat (v2.f1.getD 0 default)) default).f5 (v3.f0.getD (Int.toNat (v2.f1.getD 0 default)) default).f6 (v3.f0.getD (Int.toNat (v2.f1.getD 0 default)) default).f7 (v3.f0.getD (Int.toNat (v2.f1.getD 0 default)) default).f8),h,rfl⟩
      ·replace h:=of_false h hb
       refine AWp.keepTo [0,1,5,7,50] 1 ⟨[(0,.pc 0 0),(1,tI v1),(5,.rp (c54 v2)),(7,.pe (.cell 0 0,[]) v1.toNat 0 27),(50,tS v2.f0)],[.cells 51 [k0 v3.f0,.int .i64 v3.f1,k1 v3.f2]]⟩ ?_ (zz rfl) ?_
       ·kernel_rfl
       refine AWp.seq ?_
       refine AWp.start [0,1] [] [] [0,1,5,7,50,175] 1 ⟨[(0,.pc 0 0),(1,tI v1),(5,.rp (c54 v2)),(7,.pe (.cell 0 0,[]) v1.toNat 0 27),(50,tS v2.f0),(175,tB (v2.f0 == ([115,101,116]:List UInt8)))],[.cells 51 [k0 v3.f0,.int .i64 v3.f1,k1 v3.f2]]⟩ rfl ?_ (zz rfl) trivial ?_
       ·kernel_rfl
       refine AOps.nil ?_
       refine AWp.cond rfl (fun hb=>?_) fun hb=>?_
       ·replace h:=of_true h hb
        refine AWp.keepTo [5,7] 1 ⟨[(5,.rp (c54 v2)),(7,.pe (.cell 0 0,[]) v1.toNat 0 27)],[.cells 51 [k0 v3.f0,.int .i64 v3.f1,k1 v3.f2]]⟩ ?_ (zz rfl) ?_
        ·kernel_rfl
        refine AWp.draw FFm _ (n:=13) rfl (ls:=#[n1,n1,n1,n1,n1,n1,n1,n1,n1,n1,n1,n1,n1]) rfl ?_ (fun _ h=>h)
        obtain ⟨hg,h⟩:=of_guard h
        refine AAny.go (by kernel_rfl) [0,1,2,3,4,5,6,7,8,9,10,11] (fuel':=1) rfl [(0:Int) ≤ (0:Int),(0:Int) < (v2.f1.length:Int),(0:Int) ≤ (1:Int),(1:Int) < (v2.f1.length:Int),(0:Int) ≤ v2.f1.getD 0 default,v2.f1.getD 0 default < (4:Int)] #[y1,y1,y1,y1,y1,y1,y1,y1,y1,y1,y1,y1,n1] [185,188] 1 ⟨[(185,tI (v2.f1.getD 1 default)),(188,.pa (.cell 0 0,[]) v1.toNat 13 4 (Int.toNat (v2.f1.getD 0 default)) 27)],[.cells 51 [k0 v3.f0,.int .i64 v3.f1,k1 v3.f2]]⟩ ?_ (zz rfl) ⟨(by decide:(0:Int) ≤ (0:Int)),hg.1,(by decide:(0:Int) ≤ (1:Int)),hg.2.1,hg.2.2.1,hg.2.2.2⟩ ?_
        ·kernel_rfl
        refine AAny.serial (i:=12) (fuel:=0) (by kernel_rfl) (AOne.storeN (F:=(FF 265 1)) (i:=v1.toNat) (n2:=(v3.f0.set v1.toNat (T60.mk (v3.f0.getD v1.toNat default).f0 (v3.f0.getD v1.toNat default).f1 (v3.f0.getD v1.toNat default).f2 (v3.f0.getD v1.toNat default).f3 (setN 4 (v3.f0.getD v1.toNat default).f4 (Int.toNat (v2.f1.getD 0 default)) (v2.f1.getD 1 default)) (v3.f0.getD v1.toNat default).f5 (v3.f0.getD v1.toNat default).f6 (v3.f0.getD v1.toNat default).f7 (v3.f0.getD v1.toNat default).f8)).length) (n':=v3.f0.length) (f:=(fun i=>o60 (v3.f0.getD i default))) (f':=(fun i=>o60 ((v3.f0.set v1.toNat (T60.mk (v3.f0.getD v1.toNat default).f0 (v3.f0.getD v1.toNat default).f1 (v3.f0.getD v1.toNat default).f2 (v3.f0.getD v1.toNat default).f3 (setN 4 (v3.f0.getD v1.toNat default).f4 (Int.toNat (v2.f1.getD 0 default)) (v2.f1.getD 1 default)) (v3.f0.getD v1.toNat default).f5 (v3.f0.getD v1.toNat default).f6 (v3.f0.getD v1.toNat default).f7 (v3.f0.getD v1.toNat default).f8)).getD i default))) _ rfl rfl rfl rfl rfl rfl rfl rfl rfl (set_at o60 v3.f0 v1.toNat (13 + (Int.toNat (v2.f1.getD 0 default))) [.int .i64 (v2.f1.getD 1 default)] (T60.mk (v3.f0.getD v1.toNat default).f0 (v3.f0.getD v1.toNat default).f1 (v3.f0.getD v1.toNat default).f2 (v3.f0.getD v1.toNat default).f3 (setN 4 (v3.f0.getD v1.toNat default).f4 (Int.toNat (v2.f1.getD 0 default)) (v2.f1.getD 1 default)) (v3.f0.getD v1.toNat default).f5 (v3.f0.getD v1.toNat default).f6 (v3.f0.getD v1.toNat default).f7 (v3.f0.getD v1.toNat default).f8) (put60_4 (v3.f0.getD v1.toNat default) (Int.toNat (v2.f1.getD 0 default)) (v2.f1.getD 1 default) (by omega))) List.length_set.symm rfl) ?_
        refine AAny.keepTo [] 1 ⟨[],[.cells 51 [k0 (v3.f0.set v1.toNat (T60.mk (gD v3.f0 v1).f0 (gD v3.f0 v1).f1 (gD v3.f0 v1).f2 (gD v3.f0 v1).f3 (setN 4 (gD v3.f0 v1).f4 (Int.toNat (v2.f1.getD 0 default)) (v2.f1.getD 1 default)) (gD v3.f0 v1).f5 (gD v3.f0 v1).f6 (gD v3.f0 v1).f7 (gD v3.f0 v1).f8)),.int .i64 v3.f1,k1 v3.f2]]⟩ #[y1,y1,y1,y1,y1,y1,y1,y1,y1,y1,y1,y1,y1] ?_ rfl (zz rfl) ?_
        ·kernel_rfl
        refine AAny.keepTo [] 1 ⟨[],[.cells 51 [k0 (v3.f0.set v1.toNat (T60.mk (gD v3.f0 v1).f0 (gD v3.f0 v1).f1 (gD v3.f0 v1).f2 (gD v3.f0 v1).f3 (setN 4 (gD v3.f0 v1).f4 (Int.toNat (v2.f1.getD 0 default)) (v2.f1.getD 1 default)) (gD v3.f0 v1).f5 (gD v3.f0 v1).f6 (gD v3.f0 v1).f7 (gD v3.f0 v1).f8)),.int .i64 v3.f1,k1 v3.f2]]⟩ _ ?_ rfl (zz rfl) (AAny.done (by kernel_rfl) ?_)
        ·kernel_rfl
        exact ⟨v3.f0.set v1.toNat (T60.mk (gD v3.f0 v1).f0 (gD v3.f0 v1).f1 (gD v3.f0 v1).f2 (gD v3.f0 v1).f3 (setN 4 (gD v3.f0 v1).f4 (Int.toNat (v2.f1.getD 0 default)) (v2.f1.getD 1 default)) (gD v3.f0 v1).f5 (gD v3.f0 v1).f6 (gD v3.f0 v1).f7 (gD v3.f0 v1).f8),h,rfl⟩
       ·replace h:=of_false h hb
        refine AWp.keepTo [0,1,5,7,50] 1 ⟨[(0,.pc 0 0),(1,tI v1),(5,.rp (c54 v2)),(7,.pe (.cell 0 0,[]) v1.toNat 0 27),(50,tS v2.f0)],[.cells 51 [k0 v3.f0,.int .i64 v3.f1,k1 v3.f2]]⟩ ?_ (zz rfl) ?_
        ·kernel_rfl
        refine AWp.seq ?_
        refine AWp.start [0,1] [] [] [0,1,5,7,50,189] 1 ⟨[(0,.pc 0 0),(1,tI v1),(5,.rp (c54 v2)),(7,.pe (.cell 0 0,[]) v1.toNat 0 27),(50,tS v2.f0),(189,tB (v2.f0 == ([97,108,108]:List UInt8)))],[.cells 51 [k0 v3.f0,.int .i64 v3.f1,k1 v3.f2]]⟩ rfl ?_ (zz rfl) trivial ?_
        ·kernel_rfl
        refine AOps.nil ?_
        refine AWp.cond rfl (fun hb=>?_) fun hb=>?_
        ·replace h:=of_true h hb
         refine AWp.keepTo [7] 1 ⟨[(7,.pe (.cell 0 0,[]) v1.toNat 0 27)],[.cells 51 [k0 v3.f0,.int .i64 v3.f1,k1 v3.f2]]⟩ ?_ (zz rfl) ?_
         ·kernel_rfl
         refine AWp.start [0,1,2] [3] [] [193] 1 ⟨[(193,.pe (.cell 0 0,[]) v1.toNat 2 27)],[.cells 51 [k0 v3.f0,.int .i64 v3.f1,k1 v3.f2]]⟩ rfl ?_ (zz rfl) trivial ?_
         ·kernel_rfl
         refine AOps.cons (AOne.storeN (F:=(FF 265 1)) (i:=v1.toNat) (n2:=(v3.f0.set v1.toNat (T60.mk ((gD v3.f0 v1).f0) ((gD v3.f0 v1).f1) ([119,97,105,116,115]:List UInt8) ((gD v3.f0 v1).f3) ((gD v3.f0 v1).f4) ((gD v3.f0 v1).f5) ((gD v3.f0 v1).f6) ((gD v3.f0 v1).f7) ((gD v3.f0 v1).f8))).length) (n':=v3.f0.length) (f:=(fun i=>o60 (v3.f0.getD i default))) (f':=(fun i=>o60 ((v3.f0.set v1.toNat (T60.mk ((gD v3.f0 v1).f0) ((gD v3.f0 v1).f1) ([119,97,105,116,115]:List UInt8) ((gD v3.f0 v1).f3) ((gD v3.f0 v1).f4) ((gD v3.f0 v1).f5) ((gD v3.f0 v1).f6) ((gD v3.f0 v1).f7) ((gD v3.f0 v1).f8))).getD i default))) _ rfl rfl rfl rfl rfl rfl rfl rfl rfl (set_at o60 v3.f0 v1.toNat 2 [.str ([119,97,105,116,115]:List UInt8)] (T60.mk ((gD v3.f0 v1).f0) ((gD v3.f0 v1).f1) ([119,97,105,116,115]:List UInt8) ((gD v3.f0 v1).f3) ((gD v3.f0 v1).f4) ((gD v3.f0 v1).f5) ((gD v3.f0 v1).f6) ((gD v3.f0 v1).f7) ((gD v3.f0 v1).f8)) rfl) List.length_set.symm rfl) ?_
         refine AOps.keepTo [] 1 ⟨[],hp1 v1 v3⟩ ?_ (zz rfl) ?_
         ·kernel_rfl
         refine AOps.nil ?_
         exact ⟨v3.f0.set v1.toNat (T60.mk ((gD v3.f0 v1).f0) ((gD v3.f0 v1).f1) ([119,97,105,116,115]:List UInt8) ((gD v3.f0 v1).f3) ((gD v3.f0 v1).f4) ((gD v3.f0 v1).f5) ((gD v3.f0 v1).f6) ((gD v3.f0 v1).f7) ((gD v3.f0 v1).f8)),h,rfl⟩
        ·replace h:=of_false h hb
         refine AWp.keepTo [0,1,5,7,50] 1 ⟨[(0,.pc 0 0),(1,tI v1),(5,.rp (c54 v2)),(7,.pe (.cell 0 0,[]) v1.toNat 0 27),(50,tS v2.f0)],[.cells 51 [k0 v3.f0,.int .i64 v3.f1,k1 v3.f2]]⟩ ?_ (zz rfl) ?_
         ·kernel_rfl
         refine AWp.seq ?_
         refine AWp.start [0,1] [] [] [0,1,5,7,50,194] 1 ⟨[(0,.pc 0 0),(1,tI v1),(5,.rp (c54 v2)),(7,.pe (.cell 0 0,[]) v1.toNat 0 27),(50,tS v2.f0),(194,tB (v2.f0 == ([119,105,116,104]:List UInt8)))],[.cells 51 [k0 v3.f0,.int .i64 v3.f1,k1 v3.f2]]⟩ rfl ?_ (zz rfl) trivial ?_
         ·kernel_rfl
         refine AOps.nil ?_
         refine AWp.cond rfl (fun hb=>?_) fun hb=>?_
         ·replace h:=of_true h hb
          refine AWp.keepTo [5,7] 1 ⟨[(5,.rp (c54 v2)),(7,.pe (.cell 0 0,[]) v1.toNat 0 27)],[.cells 51 [k0 v3.f0,.int .i64 v3.f1,k1 v3.f2]]⟩ ?_ (zz rfl) ?_
          ·kernel_rfl
          refine AWp.seq ?_
          refine AWp.start [0,1,2] [3] [] [5,7,198] 1 ⟨[(5,.rp (c54 v2)),(7,.pe (.cell 0 0,[]) v1.toNat 0 27),(198,.pe (.cell 0 0,[]) v1.toNat 2 27)],[.cells 51 [k0 v3.f0,.int .i64 v3.f1,k1 v3.f2]]⟩ rfl ?_ (zz rfl) trivial ?_
          ·kernel_rfl
          refine AOps.cons (AOne.storeN (F:=(FF 265 1)) (i:=v1.toNat) (n2:=(v3.f0.set v1.toNat (T60.mk ((gD v3.f0 v1).f0) ((gD v3.f0 v1).f1) ([119,97,105,116,115]:List UInt8) ((gD v3.f0 v1).f3) ((gD v3.f0 v1).f4) ((gD v3.f0 v1).f5) ((gD v3.f0 v1).f6) ((gD v3.f0 v1).f7) ((gD v3.f0 v1).f8))).length) (n':=v3.f0.length) (f:=(fun i=>o60 (v3.f0.getD i default))) (f':=(fun i=>o60 ((v3.f0.set v1.toNat (T60.mk ((gD v3.f0 v1).f0) ((gD v3.f0 v1).f1) ([119,97,105,116,115]:List UInt8) ((gD v3.f0 v1).f3) ((gD v3.f0 v1).f4) ((gD v3.f0 v1).f5) ((gD v3.f0 v1).f6) ((gD v3.f0 v1).f7) ((gD v3.f0 v1).f8))).getD i default))) _ rfl rfl rfl rfl rfl rfl rfl rfl rfl (set_at o60 v3.f0 v1.toNat 2 [.str ([119,97,105,116,115]:List UInt8)] (T60.mk ((gD v3.f0 v1).f0) ((gD v3.f0 v1).f1) ([119,97,105,116,115]:List UInt8) ((gD v3.f0 v1).f3) ((gD v3.f0 v1).f4) ((gD v3.f0 v1).f5) ((gD v3.f0 v1).f6) ((gD v3.f0 v1).f7) ((gD v3.f0 v1).f8)) rfl) List.length_set.symm rfl) ?_
          refine AOps.keepTo [5,7] 1 ⟨[(5,.rp (c54 v2)),(7,.pe (.cell 0 0,[]) v1.toNat 0 27)],hp1 v1 v3⟩ ?_ (zz rfl) ?_
          ·kernel_rfl
          refine AOps.nil ?_
          refine AWp.seq ?_
          refine AWp.start [0,1,2,3] [] [] [7,200,201,202] 1 ⟨[(7,.pe (.cell 0 0,[]) v1.toNat 0 27),(200,q0 v2.f1),(201,tI (v2.f1.length:Int)),(202,tI (0:Int))],hp1 v1 v3⟩ rfl ?_ (zz rfl) trivial ?_
          ·kernel_rfl
          refine AOps.nil ?_
          refine AWp.block ?_
          obtain ⟨y,hy,h⟩:=of_bind h
          refine AWp.mono (AWp.loop (S:=Unit) (Y:=Out (Bool × T50) Unit) (fun _=>⟨[(7,.pe (.cell 0 0,[]) v1.toNat 0 27),(200,q0 v2.f1),(201,tI (v2.f1.length:Int)),(202,tI (0:Int))],hp1 v1 v3⟩) (fun _=>f77o_b2 v2) (fun y e σ=>match y with | .ret r=>e = .ret ∧ σ = ⟨[(6,tB r.1)],[.cells 51 [k0 r.2.f0,.int .i64 r.2.f1,k1 r.2.f2]]⟩ | .go v=>e = .exit 1 ∧ σ = ⟨[],hp1 v1 v3⟩) ?_ hy) ?_
          ·rintro ⟨⟩ o h
           refine AWp.seq ?_
           refine AWp.start [0] [] [] [7,200,201,202,203] 1 ⟨[(7,.pe (.cell 0 0,[]) v1.toNat 0 27),(200,q0 v2.f1),(201,tI (v2.f1.length:Int)),(202,tI (0:Int)),(203,tB (decide ((0:Int) < (v2.f1.length:Int))))],hp1 v1 v3⟩ rfl ?_ (zz rfl) trivial ?_
           ·kernel_rfl
           refine AOps.nil ?_
           refine AWp.seq ?_
           refine AWp.cond rfl (fun hb=>?_) fun hb=>?_
           ·replace h:=of_true h hb
            refine AWp.keepTo [7,200,201,202] 1 ⟨[(7,.pe (.cell 0 0,[]) v1.toNat 0 27),(200,q0 v2.f1),(201,tI (v2.f1.length:Int)),(202,tI (0:Int))],hp1 v1 v3⟩ ?_ (zz rfl) ?_
            ·kernel_rfl
            refine AWp.skip ?_
            refine AWp.seq ?_
            refine AWp.block ?_
            refine AWp.seq ?_
            obtain ⟨hg,h⟩:=of_guard h
            refine AWp.start [0,1,2] [] [(0:Int) ≤ (0:Int),(0:Int) < (v2.f1.length:Int)] [7,10,200,201,202] 1 ⟨[(7,.pe (.cell 0 0,[]) v1.toNat 0 27),(10,tI (v2.f1.getD 0 default)),(200,q0 v2.f1),(201,tI (v2.f1.length:Int)),(202,tI (0:Int))],hp1 v1 v3⟩ rfl ?_ (zz rfl) ⟨(by decide:(0:Int) ≤ (0:Int)),hg⟩ ?_
            ·kernel_rfl
            refine AOps.nil ?_
            cases h
           ·replace h:=of_false h hb
            refine AWp.keepTo [] 1 ⟨[],hp1 v1 v3⟩ ?_ (zz rfl) ?_
            ·kernel_rfl
            refine AWp.exit ?_
            cases h
            exact Or.inr ⟨_,rfl,by simp,rfl,rfl⟩
          ·intro e σ hp
           rcases y with v9 | _
           ·obtain ⟨rfl,rfl⟩:=hp
            cases h
            exact ⟨.inr rfl,rfl⟩
           ·obtain ⟨rfl,rfl⟩:=hp
            exact ⟨v3.f0.set v1.toNat (T60.mk ((gD v3.f0 v1).f0) ((gD v3.f0 v1).f1) ([119,97,105,116,115]:List UInt8) ((gD v3.f0 v1).f3) ((gD v3.f0 v1).f4) ((gD v3.f0 v1).f5) ((gD v3.f0 v1).f6) ((gD v3.f0 v1).f7) ((gD v3.f0 v1).f8)),h,rfl⟩
         ·replace h:=of_false h hb
          refine AWp.keepTo [0,1,5,7,50] 1 ⟨[(0,.pc 0 0),(1,tI v1),(5,.rp (c54 v2)),(7,.pe (.cell 0 0,[]) v1.toNat 0 27),(50,tS v2.f0)],[.cells 51 [k0 v3.f0,.int .i64 v3.f1,k1 v3.f2]]⟩ ?_ (zz rfl) ?_
          ·kernel_rfl
          refine AWp.seq ?_
          refine AWp.start [0,1] [] [] [0,1,5,7,50,214] 1 ⟨[(0,.pc 0 0),(1,tI v1),(5,.rp (c54 v2)),(7,.pe (.cell 0 0,[]) v1.toNat 0 27),(50,tS v2.f0),(214,tB (v2.f0 == ([112,111,115,116]:List UInt8)))],[.cells 51 [k0 v3.f0,.int .i64 v3.f1,k1 v3.f2]]⟩ rfl ?_ (zz rfl) trivial ?_
          ·kernel_rfl
          refine AOps.nil ?_
          refine AWp.cond rfl (fun hb=>?_) fun hb=>?_
          ·replace h:=of_true h hb
           refine AWp.keepTo [0,5] 1 ⟨[(0,.pc 0 0),(5,.rp (c54 v2))],[.cells 51 [k0 v3.f0,.int .i64 v3.f1,k1 v3.f2]]⟩ ?_ (zz rfl) ?_
           ·kernel_rfl
           refine AWp.draw FFm _ (n:=21) rfl (ls:=#[n1,n1,n1,n1,n1,n1,n1,n1,n1,n1,n1,n1,n1,n1,n1,n1,n1,n1,n1,n1,n1]) rfl ?_ (fun _ h=>h)
           obtain ⟨hg,h⟩:=of_guard h
           refine AAny.go (by kernel_rfl) [0,1,2,4,5,6,7,8,9,10,11] (fuel':=10) rfl [(0:Int) ≤ (0:Int),(0:Int) < (v2.f1.length:Int),(0:Int) ≤ (1:Int),(1:Int) < (v2.f1.length:Int)] #[y1,y1,y1,n1,y1,y1,y1,y1,y1,y1,y1,y1,n1,n1,n1,n1,n1,n1,n1,n1,n1] [218,223,227] 1 ⟨[(218,.pc 0 0),(223,tI (v2.f1.getD 0 default)),(227,tI (v2.f1.getD 1 default))],[.cells 51 [k0 v3.f0,.int .i64 v3.f1,k1 v3.f2]]⟩ ?_ (zz rfl) ⟨(by decide:(0:Int) ≤ (0:Int)),hg.1,(by decide:(0:Int) ≤ (1:Int)),hg.2⟩ ?_
           ·kernel_rfl
           refine AAny.step (i:=3) (fuel':=9) rfl (by kernel_rfl) [] #[y1,y1,y1,y1,y1,y1,y1,y1,y1,y1,y1,y1,n1,n1,n1,n1,n1,n1,n1,n1,n1] rfl [219,223,227] 1 ⟨[(219,.al (.cell 0 0,[])),(223,tI (v2.f1.getD 0 default)),(227,tI (v2.f1.getD 1 default))],[.cells 51 [k0 v3.f0,.int .i64 v3.f1,k1 v3.f2]]⟩ ?_ (zz rfl) trivial ?_
           ·kernel_rfl
           obtain ⟨hg,h⟩:=of_guard h
           refine AAny.go (by kernel_rfl) [12,13,14,17,18] (fuel':=4) rfl [(0:Int) ≤ v2.f1.getD 0 default,v2.f1.getD 0 default < (v3.f0.length:Int),(0:Int) ≤ v2.f1.getD 1 default,v2.f1.getD 1 default < (4:Int),(0:Int) ≤ v2.f1.getD 0 default,v2.f1.getD 0 default < (v3.f0.length:Int)] #[y1,y1,y1,y1,y1,y1,y1,y1,y1,y1,y1,y1,y1,y1,y1,n1,n1,y1,y1,n1,n1] [227,230,234] 1 ⟨[(227,tI (v2.f1.getD 1 default)),(230,.pa (.cell 0 0,[]) (Int.toNat (v2.f1.getD 0 default)) 17 4 (Int.toNat (v2.f1.getD 1 default)) 27),(234,.pe (.cell 0 0,[]) (Int.toNat (v2.f1.getD 0 default)) 17 27)],[.cells 51 [k0 v3.f0,.int .i64 v3.f1,k1 v3.f2]]⟩ ?_ (zz rfl) ⟨hg.1,hg.2.1,hg.2.2.1,hg.2.2.2.1,hg.2.2.2.2.1,hg.2.2.2.2.2⟩ ?_
           ·kernel_rfl
           refine AAny.step (i:=15) (fuel':=3) rfl (by kernel_rfl) [] #[y1,y1,y1,y1,y1,y1,y1,y1,y1,y1,y1,y1,y1,y1,y1,y1,n1,y1,y1,n1,n1] rfl [227,231,234] 1 ⟨[(227,tI (v2.f1.getD 1 default)),(231,tI ((arrL 4 ((v3.f0.getD (Int.toNat (v2.f1.getD 0 default)) default).f5)).getD (Int.toNat (v2.f1.getD 1 default)) 0)),(234,.pe (.cell 0 0,[]) (Int.toNat (v2.f1.getD 0 default)) 17 27)],[.cells 51 [k0 v3.f0,.int .i64 v3.f1,k1 v3.f2]]⟩ ?_ (zz rfl) trivial ?_
           ·kernel_rfl
           obtain ⟨hg,h⟩:=of_guard h
           refine AAny.go (by kernel_rfl) [16,19] (fuel':=1) rfl [(0:Int) ≤ v2.f1.getD 1 default,v2.f1.getD 1 default < (4:Int)] #[y1,y1,y1,y1,y1,y1,y1,y1,y1,y1,y1,y1,y1,y1,y1,y1,y1,y1,y1,y1,n1] [232,235] 1 ⟨[(232,tI (w64 (((arrL 4 ((v3.f0.getD (Int.toNat (v2.f1.getD 0 default)) default).f5)).getD (Int.toNat (v2.f1.getD 1 default)) 0) + (1:Int)))),(235,.pa (.cell 0 0,[]) (Int.toNat (v2.f1.getD 0 default)) 17 4 (Int.toNat (v2.f1.getD 1 default)) 27)],[.cells 51 [k0 v3.f0,.int .i64 v3.f1,k1 v3.f2]]⟩ ?_ (zz rfl) ⟨hg.1,hg.2⟩ ?_
           ·kernel_rfl
           refine AAny.serial (i:=20) (fuel:=0) (by kernel_rfl) (AOne.storeN (F:=(FF 265 1)) (i:=(Int.toNat (v2.f1.getD 0 default))) (n2:=(v3.f0.set (Int.toNat (v2.f1.getD 0 default)) (T60.mk (v3.f0.getD (Int.toNat (v2.f1.getD 0 default)) default).f0 (v3.f0.getD (Int.toNat (v2.f1.getD 0 default)) default).f1 (v3.f0.getD (Int.toNat (v2.f1.getD 0 default)) default).f2 (v3.f0.getD (Int.toNat (v2.f1.getD 0 default)) default).f3 (v3.f0.getD (Int.toNat (v2.f1.getD 0 default)) default).f4 (setN 4 (v3.f0.getD (Int.toNat (v2.f1.getD 0 default)) default).f5 (Int.toNat (v2.f1.getD 1 default)) (w64 (((arrL 4 ((v3.f0.getD (Int.toNat (v2.f1.getD 0 default)) default).f5)).getD (Int.toNat (v2.f1.getD 1 default)) 0) + (1:Int)))) (v3.f0.getD (Int.toNat (v2.f1.getD 0 default)) default).f6 (v3.f0.getD (Int.toNat (v2.f1.getD 0 default)) default).f7 (v3.f0.getD (Int.toNat (v2.f1.getD 0 default)) default).f8)).length) (n':=v3.f0.length) (f:=(fun i=>o60 (v3.f0.getD i default))) (f':=(fun i=>o60 ((v3.f0.set (Int.toNat (v2.f1.getD 0 default)) (T60.mk (v3.f0.getD (Int.toNat (v2.f1.getD 0 default)) default).f0 (v3.f0.getD (Int.toNat (v2.f1.getD 0 default)) default).f1 (v3.f0.getD (Int.toNat (v2.f1.getD 0 default)) default).f2 (v3.f0.getD (Int.toNat (v2.f1.getD 0 default)) default).f3 (v3.f0.getD (Int.toNat (v2.f1.getD 0 default)) default).f4 (setN 4 (v3.f0.getD (Int.toNat (v2.f1.getD 0 default)) default).f5 (Int.toNat (v2.f1.getD 1 default)) (w64 (((arrL 4 ((v3.f0.getD (Int.toNat (v2.f1.getD 0 default)) default).f5)).getD (Int.toNat (v2.f1.getD 1 default)) 0) + (1:Int)))) (v3.f0.getD (Int.toNat (v2.f1.getD 0 default)) default).f6 (v3.f0.getD (Int.toNat (v2.f1.getD 0 default)) default).f7 (v3.f0.getD (Int.toNat (v2.f1.getD 0 default)) default).f8)).getD i default))) _ rfl rfl rfl rfl rfl rfl rfl rfl rfl (set_at o60 v3.f0 (Int.toNat (v2.f1.getD 0 default)) (17 + (Int.toNat (v2.f1.getD 1 default))) [.int .i64 (w64 (((arrL 4 ((v3.f0.getD (Int.toNat (v2.f1.getD 0 default)) default).f5)).getD (Int.toNat (v2.f1.getD 1 default)) 0) + (1:Int)))] (T60.mk (v3.f0.getD (Int.toNat (v2.f1.getD 0 default)) default).f0 (v3.f0.getD (Int.toNat (v2.f1.getD 0 default)) default).f1 (v3.f0.getD (Int.toNat (v2.f1.getD 0 default)) default).f2 (v3.f0.getD (Int.toNat (v2.f1.getD 0 default)) default).f3 (v3.f0.getD (Int.toNat (v2.f1.getD 0 default)) default).f4 (setN 4 (v3.f0.getD (Int.toNat (v2.f1.getD 0 default)) default).f5 (Int.toNat (v2.f1.getD 1 default)) (w64 (((arrL 4 ((v3.f0.getD (Int.toNat (v2.f1.getD 0 default)) default).f5)).getD (Int.toNat (v2.f1.getD 1 default)) 0) + (1:Int)))) (v3.f0.getD (Int.toNat (v2.f1.getD 0 default)) default).f6 (v3.f0.getD (Int.toNat (v2.f1.getD 0 default)) default).f7 (v3.f0.getD (Int.toNat (v2.f1.getD 0 default)) default).f8) (put60_5 (v3.f0.getD (Int.toNat (v2.f1.getD 0 default)) default) (Int.toNat (v2.f1.getD 1 default)) (w64 (((arrL 4 ((v3.f0.getD (Int.toNat (v2.f1.getD 0 default)) default).f5)).getD (Int.toNat (v2.f1.getD 1 default)) 0) + (1:Int))) (by omega))) List.length_set.symm rfl) ?_
           refine AAny.keepTo [] 1 ⟨[],[.cells 51 [k0 (v3.f0.set (Int.toNat (v2.f1.getD 0 default)) (T60.mk (v3.f0.getD (Int.toNat (v2.f1.getD 0 default)) default).f0 (v3.f0.getD (Int.toNat (v2.f1.getD 0 default)) default).f1 (v3.f0.getD (Int.toNat (v2.f1.getD 0 default)) default).f2 (v3.f0.getD (Int.toNat (v2.f1.getD 0 default)) default).f3 (v3.f0.getD (Int.toNat (v2.f1.getD 0 default)) default).f4 (setN 4 (v3.f0.getD (Int.toNat (v2.f1.getD 0 default)) default).f5 (Int.toNat (v2.f1.getD 1 default)) (w64 (((arrL 4 ((v3.f0.getD (Int.toNat (v2.f1.getD 0 default)) default).f5)).getD (Int.toNat (v2.f1.getD 1 default)) 0) + (1:Int)))) (v3.f0.getD (Int.toNat (v2.f1.getD 0 default)) default).f6 (v3.f0.getD (Int.toNat (v2.f1.getD 0 default)) default).f7 (v3.f0.getD (Int.toNat (v2.f1.getD 0 default)) default).f8)),.int .i64 v3.f1,k1 v3.f2]]⟩ #[y1,y1,y1,y1,y1,y1,y1,y1,y1,y1,y1,y1,y1,y1,y1,y1,y1,y1,y1,y1,y1] ?_ rfl (zz rfl) ?_
           ·kernel_rfl
           refine AAny.keepTo [] 1 ⟨[],[.cells 51 [k0 (v3.f0.set (Int.toNat (v2.f1.getD 0 default)) (T60.mk (v3.f0.getD (Int.toNat (v2.f1.getD 0 default)) default).f0 (v3.f0.getD (Int.toNat (v2.f1.getD 0 default)) default).f1 (v3.f0.getD (Int.toNat (v2.f1.getD 0 default)) default).f2 (v3.f0.getD (Int.toNat (v2.f1.getD 0 default)) default).f3 (v3.f0.getD (Int.toNat (v2.f1.getD 0 default)) default).f4 (setN 4 (v3.f0.getD (Int.toNat (v2.f1.getD 0 default)) default).f5 (Int.toNat (v2.f1.getD 1 default)) (w64 (((arrL 4 ((v3.f0.getD (Int.toNat (v2.f1.getD 0 default)) default).f5)).getD (Int.toNat (v2.f1.getD 1 default)) 0) + (1:Int)))) (v3.f0.getD (Int.toNat (v2.f1.getD 0 default)) default).f6 (v3.f0.getD (Int.toNat (v2.f1.getD 0 default)) default).f7 (v3.f0.getD (Int.toNat (v2.f1.getD 0 default)) default).f8)),.int .i64 v3.f1,k1 v3.f2]]⟩ _ ?_ rfl (zz rfl) (AAny.done (by kernel_rfl) ?_)
           ·kernel_rfl
           exact ⟨v3.f0.set (Int.toNat (v2.f1.getD 0 default)) (T60.mk (v3.f0.getD (Int.toNat (v2.f1.getD 0 default)) default).f0 (v3.f0.getD (Int.toNat (v2.f1.getD 0 default)) default).f1 (v3.f0.getD (Int.toNat (v2.f1.getD 0 default)) default).f2 (v3.f0.getD (Int.toNat (v2.f1.getD 0 default)) default).f3 (v3.f0.getD (Int.toNat (v2.f1.getD 0 default)) default).f4 (setN 4 (v3.f0.getD (Int.toNat (v2.f1.getD 0 default)) default).f5 (Int.toNat (v2.f1.getD 1 default)) (w64 (((arrL 4 ((v3.f0.getD (Int.toNat (v2.f1.getD 0 default)) default).f5)).getD (Int.toNat (v2.f1.getD 1 default)) 0) + (1:Int)))) (v3.f0.getD (Int.toNat (v2.f1.getD 0 default)) default).f6 (v3.f0.getD (Int.toNat (v2.f1.getD 0 default)) default).f7 (v3.f0.getD (Int.toNat (v2.f1.getD 0 default)) default).f8),h,rfl⟩
          ·replace h:=of_false h hb
           refine AWp.keepTo [0,1,5,7,50] 1 ⟨[(0,.pc 0 0),(1,tI v1),(5,.rp (c54 v2)),(7,.pe (.cell 0 0,[]) v1.toNat 0 27),(50,tS v2.f0)],[.cells 51 [k0 v3.f0,.int .i64 v3.f1,k1 v3.f2]]⟩ ?_ (zz rfl) ?_
           ·kernel_rfl
           refine AWp.seq ?_
           refine AWp.start [0,1] [] [] [0,1,5,7,50,236] 1 ⟨[(0,.pc 0 0),(1,tI v1),(5,.rp (c54 v2)),(7,.pe (.cell 0 0,[]) v1.toNat 0 27),(50,tS v2.f0),(236,tB (v2.f0 == ([119,97,105,116]:List UInt8)))],[.cells 51 [k0 v3.f0,.int .i64 v3.f1,k1 v3.f2]]⟩ rfl ?_ (zz rfl) trivial ?_
           ·kernel_rfl
           refine AOps.nil ?_
           refine AWp.cond rfl (fun hb=>?_) fun hb=>?_
           ·replace h:=of_true h hb
            refine AWp.keepTo [5,7] 1 ⟨[(5,.rp (c54 v2)),(7,.pe (.cell 0 0,[]) v1.toNat 0 27)],[.cells 51 [k0 v3.f0,.int .i64 v3.f1,k1 v3.f2]]⟩ ?_ (zz rfl) ?_
            ·kernel_rfl
            refine AWp.draw FFm _ (n:=18) rfl (ls:=#[n1,n1,n1,n1,n1,n1,n1,n1,n1,n1,n1,n1,n1,n1,n1,n1,n1,n1]) rfl ?_ (fun _ h=>h)
            obtain ⟨hg,h⟩:=of_guard h
            refine AAny.go (by kernel_rfl) [0,1,2,3,4,5,6,7,9,10,11,12,14,15] (fuel':=4) rfl [(0:Int) ≤ (0:Int),(0:Int) < (v2.f1.length:Int),(0:Int) ≤ v2.f1.getD 0 default,v2.f1.getD 0 default < (4:Int),(0:Int) ≤ (1:Int),(1:Int) < (v2.f1.length:Int)] #[y1,y1,y1,y1,y1,y1,y1,y1,n1,y1,y1,y1,y1,n1,y1,y1,n1,n1] [242,245,250,253] 1 ⟨[(242,tI (v2.f1.getD 0 default)),(245,.pa (.cell 0 0,[]) v1.toNat 17 4 (Int.toNat (v2.f1.getD 0 default)) 27),(250,tI (v2.f1.getD 1 default)),(253,.pe (.cell 0 0,[]) v1.toNat 17 27)],[.cells 51 [k0 v3.f0,.int .i64 v3.f1,k1 v3.f2]]⟩ ?_ (zz rfl) ⟨(by decide:(0:Int) ≤ (0:Int)),hg.1,hg.2.1,hg.2.2.1,(by decide:(0:Int) ≤ (1:Int)),hg.2.2.2⟩ ?_
            ·kernel_rfl
            refine AAny.step (i:=8) (fuel':=3) rfl (by kernel_rfl) [] #[y1,y1,y1,y1,y1,y1,y1,y1,y1,y1,y1,y1,y1,n1,y1,y1,n1,n1] rfl [242,246,250,253] 1 ⟨[(242,tI (v2.f1.getD 0 default)),(246,tI ((arrL 4 ((gD v3.f0 v1).f5)).getD (Int.toNat (v2.f1.getD 0 default)) 0)),(250,tI (v2.f1.getD 1 default)),(253,.pe (.cell 0 0,[]) v1.toNat 17 27)],[.cells 51 [k0 v3.f0,.int .i64 v3.f1,k1 v3.f2]]⟩ ?_ (zz rfl) trivial ?_
            ·kernel_rfl
            obtain ⟨hg,h⟩:=of_guard h
            refine AAny.go (by kernel_rfl) [13,16] (fuel':=1) rfl [(0:Int) ≤ v2.f1.getD 0 default,v2.f1.getD 0 default < (4:Int)] #[y1,y1,y1,y1,y1,y1,y1,y1,y1,y1,y1,y1,y1,y1,y1,y1,y1,n1] [251,254] 1 ⟨[(251,tI (w64 (((arrL 4 ((gD v3.f0 v1).f5)).getD (Int.toNat (v2.f1.getD 0 default)) 0) - (v2.f1.getD 1 default)))),(254,.pa (.cell 0 0,[]) v1.toNat 17 4 (Int.toNat (v2.f1.getD 0 default)) 27)],[.cells 51 [k0 v3.f0,.int .i64 v3.f1,k1 v3.f2]]⟩ ?_ (zz rfl) ⟨hg.1,hg.2⟩ ?_
            ·kernel_rfl
            refine AAny.serial (i:=17) (fuel:=0) (by kernel_rfl) (AOne.storeN (F:=(FF 265 1)) (i:=v1.toNat) (n2:=(v3.f0.set v1.toNat (T60.mk (v3.f0.getD v1.toNat default).f0 (v3.f0.getD v1.toNat default).f1 (v3.f0.getD v1.toNat default).f2 (v3.f0.getD v1.toNat default).f3 (v3.f0.getD v1.toNat default).f4 (setN 4 (v3.f0.getD v1.toNat default).f5 (Int.toNat (v2.f1.getD 0 default)) (w64 (((arrL 4 ((v3.f0.getD v1.toNat default).f5)).getD (Int.toNat (v2.f1.getD 0 default)) 0) - (v2.f1.getD 1 default)))) (v3.f0.getD v1.toNat default).f6 (v3.f0.getD v1.toNat default).f7 (v3.f0.getD v1.toNat default).f8)).length) (n':=v3.f0.length) (f:=(fun i=>o60 (v3.f0.getD i default))) (f':=(fun i=>o60 ((v3.f0.set v1.toNat (T60.mk (v3.f0.getD v1.toNat default).f0 (v3.f0.getD v1.toNat default).f1 (v3.f0.getD v1.toNat default).f2 (v3.f0.getD v1.toNat default).f3 (v3.f0.getD v1.toNat default).f4 (setN 4 (v3.f0.getD v1.toNat default).f5 (Int.toNat (v2.f1.getD 0 default)) (w64 (((arrL 4 ((v3.f0.getD v1.toNat default).f5)).getD (Int.toNat (v2.f1.getD 0 default)) 0) - (v2.f1.getD 1 default)))) (v3.f0.getD v1.toNat default).f6 (v3.f0.getD v1.toNat default).f7 (v3.f0.getD v1.toNat default).f8)).getD i default))) _ rfl rfl rfl rfl rfl rfl rfl rfl rfl (set_at o60 v3.f0 v1.toNat (17 + (Int.toNat (v2.f1.getD 0 default))) [.int .i64 (w64 (((arrL 4 ((v3.f0.getD v1.toNat default).f5)).getD (Int.toNat (v2.f1.getD 0 default)) 0) - (v2.f1.getD 1 default)))] (T60.mk (v3.f0.getD v1.toNat default).f0 (v3.f0.getD v1.toNat default).f1 (v3.f0.getD v1.toNat default).f2 (v3.f0.getD v1.toNat default).f3 (v3.f0.getD v1.toNat default).f4 (setN 4 (v3.f0.getD v1.toNat default).f5 (Int.toNat (v2.f1.getD 0 default)) (w64 (((arrL 4 ((v3.f0.getD v1.toNat default).f5)).getD (Int.toNat (v2.f1.getD 0 default)) 0) - (v2.f1.getD 1 default)))) (v3.f0.getD v1.toNat default).f6 (v3.f0.getD v1.toNat default).f7 (v3.f0.getD v1.toNat default).f8) (put60_5 (v3.f0.getD v1.toNat default) (Int.toNat (v2.f1.getD 0 default)) (w64 (((arrL 4 ((v3.f0.getD v1.toNat default).f5)).getD (Int.toNat (v2.f1.getD 0 default)) 0) - (v2.f1.getD 1 default))) (by omega))) List.length_set.symm rfl) ?_
            refine AAny.keepTo [] 1 ⟨[],[.cells 51 [k0 (v3.f0.set v1.toNat (T60.mk (gD v3.f0 v1).f0 (gD v3.f0 v1).f1 (gD v3.f0 v1).f2 (gD v3.f0 v1).f3 (gD v3.f0 v1).f4 (setN 4 (gD v3.f0 v1).f5 (Int.toNat (v2.f1.getD 0 default)) (w64 (((arrL 4 ((gD v3.f0 v1).f5)).getD (Int.toNat (v2.f1.getD 0 default)) 0) - (v2.f1.getD 1 default)))) (gD v3.f0 v1).f6 (gD v3.f0 v1).f7 (gD v3.f0 v1).f8)),.int .i64 v3.f1,k1 v3.f2]]⟩ #[y1,y1,y1,y1,y1,y1,y1,y1,y1,y1,y1,y1,y1,y1,y1,y1,y1,y1] ?_ rfl (zz rfl) ?_
            ·kernel_rfl
            refine AAny.keepTo [] 1 ⟨[],[.cells 51 [k0 (v3.f0.set v1.toNat (T60.mk (gD v3.f0 v1).f0 (gD v3.f0 v1).f1 (gD v3.f0 v1).f2 (gD v3.f0 v1).f3 (gD v3.f0 v1).f4 (setN 4 (gD v3.f0 v1).f5 (Int.toNat (v2.f1.getD 0 default)) (w64 (((arrL 4 ((gD v3.f0 v1).f5)).getD (Int.toNat (v2.f1.getD 0 default)) 0) - (v2.f1.getD 1 default)))) (gD v3.f0 v1).f6 (gD v3.f0 v1).f7 (gD v3.f0 v1).f8)),.int .i64 v3.f1,k1 v3.f2]]⟩ _ ?_ rfl (zz rfl) (AAny.done (by kernel_rfl) ?_)
            ·kernel_rfl
            exact ⟨v3.f0.set v1.toNat (T60.mk (gD v3.f0 v1).f0 (gD v3.f0 v1).f1 (gD v3.f0 v1).f2 (gD v3.f0 v1).f3 (gD v3.f0 v1).f4 (setN 4 (gD v3.f0 v1).f5 (Int.toNat (v2.f1.getD 0 default)) (w64 (((arrL 4 ((gD v3.f0 v1).f5)).getD (Int.toNat (v2.f1.getD 0 default)) 0) - (v2.f1.getD 1 default)))) (gD v3.f0 v1).f6 (gD v3.f0 v1).f7 (gD v3.f0 v1).f8),h,rfl⟩
           ·replace h:=of_false h hb
            refine AWp.keepTo [0,1,5,7,50] 1 ⟨[(0,.pc 0 0),(1,tI v1),(5,.rp (c54 v2)),(7,.pe (.cell 0 0,[]) v1.toNat 0 27),(50,tS v2.f0)],[.cells 51 [k0 v3.f0,.int .i64 v3.f1,k1 v3.f2]]⟩ ?_ (zz rfl) ?_
            ·kernel_rfl
            refine AWp.seq ?_
            refine AWp.start [0,1] [] [] [0,1,5,7,50,255] 1 ⟨[(0,.pc 0 0),(1,tI v1),(5,.rp (c54 v2)),(7,.pe (.cell 0 0,[]) v1.toNat 0 27),(50,tS v2.f0),(255,tB (v2.f0 == ([102,97,105,108]:List UInt8)))],[.cells 51 [k0 v3.f0,.int .i64 v3.f1,k1 v3.f2]]⟩ rfl ?_ (zz rfl) trivial ?_
            ·kernel_rfl
            refine AOps.nil ?_
            refine AWp.cond rfl (fun hb=>?_) fun hb=>?_
            ·replace h:=of_true h hb
             refine AWp.keepTo [7] 1 ⟨[(7,.pe (.cell 0 0,[]) v1.toNat 0 27)],[.cells 51 [k0 v3.f0,.int .i64 v3.f1,k1 v3.f2]]⟩ ?_ (zz rfl) ?_
             ·kernel_rfl
             refine AWp.start [0,1,2] [3] [] [259] 1 ⟨[(259,.pe (.cell 0 0,[]) v1.toNat 2 27)],[.cells 51 [k0 v3.f0,.int .i64 v3.f1,k1 v3.f2]]⟩ rfl ?_ (zz rfl) trivial ?_
             ·kernel_rfl
             refine AOps.cons (AOne.storeN (F:=(FF 265 1)) (i:=v1.toNat) (n2:=(v3.f0.set v1.toNat (T60.mk ((gD v3.f0 v1).f0) ((gD v3.f0 v1).f1) ([102,97,105,108,101,100]:List UInt8) ((gD v3.f0 v1).f3) ((gD v3.f0 v1).f4) ((gD v3.f0 v1).f5) ((gD v3.f0 v1).f6) ((gD v3.f0 v1).f7) ((gD v3.f0 v1).f8))).length) (n':=v3.f0.length) (f:=(fun i=>o60 (v3.f0.getD i default))) (f':=(fun i=>o60 ((v3.f0.set v1.toNat (T60.mk ((gD v3.f0 v1).f0) ((gD v3.f0 v1).f1) ([102,97,105,108,101,100]:List UInt8) ((gD v3.f0 v1).f3) ((gD v3.f0 v1).f4) ((gD v3.f0 v1).f5) ((gD v3.f0 v1).f6) ((gD v3.f0 v1).f7) ((gD v3.f0 v1).f8))).getD i default))) _ rfl rfl rfl rfl rfl rfl rfl rfl rfl (set_at o60 v3.f0 v1.toNat 2 [.str ([102,97,105,108,101,100]:List UInt8)] (T60.mk ((gD v3.f0 v1).f0) ((gD v3.f0 v1).f1) ([102,97,105,108,101,100]:List UInt8) ((gD v3.f0 v1).f3) ((gD v3.f0 v1).f4) ((gD v3.f0 v1).f5) ((gD v3.f0 v1).f6) ((gD v3.f0 v1).f7) ((gD v3.f0 v1).f8)) rfl) List.length_set.symm rfl) ?_
             refine AOps.keepTo [] 1 ⟨[],[.cells 51 [k0 (v3.f0.set v1.toNat (T60.mk ((gD v3.f0 v1).f0) ((gD v3.f0 v1).f1) ([102,97,105,108,101,100]:List UInt8) ((gD v3.f0 v1).f3) ((gD v3.f0 v1).f4) ((gD v3.f0 v1).f5) ((gD v3.f0 v1).f6) ((gD v3.f0 v1).f7) ((gD v3.f0 v1).f8))),.int .i64 v3.f1,k1 v3.f2]]⟩ ?_ (zz rfl) ?_
             ·kernel_rfl
             refine AOps.nil ?_
             exact ⟨v3.f0.set v1.toNat (T60.mk ((gD v3.f0 v1).f0) ((gD v3.f0 v1).f1) ([102,97,105,108,101,100]:List UInt8) ((gD v3.f0 v1).f3) ((gD v3.f0 v1).f4) ((gD v3.f0 v1).f5) ((gD v3.f0 v1).f6) ((gD v3.f0 v1).f7) ((gD v3.f0 v1).f8)),h,rfl⟩
            ·replace h:=of_false h hb
             refine AWp.keepTo [0,1,5,7,50] 1 ⟨[(0,.pc 0 0),(1,tI v1),(5,.rp (c54 v2)),(7,.pe (.cell 0 0,[]) v1.toNat 0 27),(50,tS v2.f0)],[.cells 51 [k0 v3.f0,.int .i64 v3.f1,k1 v3.f2]]⟩ ?_ (zz rfl) ?_
             ·kernel_rfl
             refine AWp.seq ?_
             refine AWp.start [0,1] [] [] [0,1,5,7,260] 1 ⟨[(0,.pc 0 0),(1,tI v1),(5,.rp (c54 v2)),(7,.pe (.cell 0 0,[]) v1.toNat 0 27),(260,tB (v2.f0 == ([115,116,111,112]:List UInt8)))],[.cells 51 [k0 v3.f0,.int .i64 v3.f1,k1 v3.f2]]⟩ rfl ?_ (zz rfl) trivial ?_
             ·kernel_rfl
             refine AOps.nil ?_
             refine AWp.cond rfl (fun hb=>?_) fun hb=>?_
             ·replace h:=of_true h hb
              refine AWp.keepTo [7] 1 ⟨[(7,.pe (.cell 0 0,[]) v1.toNat 0 27)],[.cells 51 [k0 v3.f0,.int .i64 v3.f1,k1 v3.f2]]⟩ ?_ (zz rfl) ?_
              ·kernel_rfl
              refine AWp.start [0,1,2] [3] [] [264] 1 ⟨[(264,.pe (.cell 0 0,[]) v1.toNat 2 27)],[.cells 51 [k0 v3.f0,.int .i64 v3.f1,k1 v3.f2]]⟩ rfl ?_ (zz rfl) trivial ?_
              ·kernel_rfl
              refine AOps.cons (AOne.storeN (F:=(FF 265 1)) (i:=v1.toNat) (n2:=(v3.f0.set v1.toNat (T60.mk ((gD v3.f0 v1).f0) ((gD v3.f0 v1).f1) ([101,110,100,101,100]:List UInt8) ((gD v3.f0 v1).f3) ((gD v3.f0 v1).f4) ((gD v3.f0 v1).f5) ((gD v3.f0 v1).f6) ((gD v3.f0 v1).f7) ((gD v3.f0 v1).f8))).length) (n':=v3.f0.length) (f:=(fun i=>o60 (v3.f0.getD i default))) (f':=(fun i=>o60 ((v3.f0.set v1.toNat (T60.mk ((gD v3.f0 v1).f0) ((gD v3.f0 v1).f1) ([101,110,100,101,100]:List UInt8) ((gD v3.f0 v1).f3) ((gD v3.f0 v1).f4) ((gD v3.f0 v1).f5) ((gD v3.f0 v1).f6) ((gD v3.f0 v1).f7) ((gD v3.f0 v1).f8))).getD i default))) _ rfl rfl rfl rfl rfl rfl rfl rfl rfl (set_at o60 v3.f0 v1.toNat 2 [.str ([101,110,100,101,100]:List UInt8)] (T60.mk ((gD v3.f0 v1).f0) ((gD v3.f0 v1).f1) ([101,110,100,101,100]:List UInt8) ((gD v3.f0 v1).f3) ((gD v3.f0 v1).f4) ((gD v3.f0 v1).f5) ((gD v3.f0 v1).f6) ((gD v3.f0 v1).f7) ((gD v3.f0 v1).f8)) rfl) List.length_set.symm rfl) ?_
              refine AOps.keepTo [] 1 ⟨[],[.cells 51 [k0 (v3.f0.set v1.toNat (T60.mk ((gD v3.f0 v1).f0) ((gD v3.f0 v1).f1) ([101,110,100,101,100]:List UInt8) ((gD v3.f0 v1).f3) ((gD v3.f0 v1).f4) ((gD v3.f0 v1).f5) ((gD v3.f0 v1).f6) ((gD v3.f0 v1).f7) ((gD v3.f0 v1).f8))),.int .i64 v3.f1,k1 v3.f2]]⟩ ?_ (zz rfl) ?_
              ·kernel_rfl
              refine AOps.nil ?_
              exact ⟨v3.f0.set v1.toNat (T60.mk ((gD v3.f0 v1).f0) ((gD v3.f0 v1).f1) ([101,110,100,101,100]:List UInt8) ((gD v3.f0 v1).f3) ((gD v3.f0 v1).f4) ((gD v3.f0 v1).f5) ((gD v3.f0 v1).f6) ((gD v3.f0 v1).f7) ((gD v3.f0 v1).f8)),h,rfl⟩
             ·replace h:=of_false h hb
              refine AWp.keepTo [0,1,5] 1 ⟨[(0,.pc 0 0),(1,tI v1),(5,.rp (c54 v2))],[.cells 51 [k0 v3.f0,.int .i64 v3.f1,k1 v3.f2]]⟩ ?_ (zz rfl) ?_
              ·kernel_rfl
              refine AWp.seq ?_
              refine AWp.start [0,1,2] [3,4] [] [51,52,53] 1 ⟨[(51,.pc 0 0),(52,tI v1),(53,.agg (c54 v2))],[.cells 51 [k0 v3.f0,.int .i64 v3.f1,k1 v3.f2]]⟩ rfl ?_ (zz rfl) trivial ?_
              ·kernel_rfl
              obtain ⟨v10,hv10,h⟩:=of_bind h
              refine AOps.cons (AOne.callO (F:=(FF 265 1)) _ rfl rfl rfl 54 rfl rfl 94 [] rfl Try.call94 [0] (by decide) [.pc 0 0,tI v1,.agg (c54 v2)] (by kernel_rfl) [.cells 51 [k0 v3.f0,.int .i64 v3.f1,k1 v3.f2]] (by kernel_rfl) (f94o_ok v1 v2 (T50.mk v3.f0 v3.f1 v3.f2) hv10) (by kernel_rfl) (by kernel_rfl) _ rfl) ?_
              refine AOps.go [4] [] [] [6] 1 ⟨[(6,tB v10)],[.cells 51 [k0 v3.f0,.int .i64 v3.f1,k1 v3.f2]]⟩ ?_ (zz rfl) trivial ?_
              ·kernel_rfl
              refine AOps.nil ?_
              refine AWp.ret ?_
              cases h
              exact ⟨.inr rfl,rfl⟩
  ·rintro v7 h
   refine AWp.seq ?_
   refine AWp.start [0] [] [] [6] 1 ⟨[(6,tB true)],[.cells 51 [k0 v7,.int .i64 v3.f1,k1 v3.f2]]⟩ rfl ?_ (zz rfl) trivial ?_
   ·kernel_rfl
   refine AOps.nil ?_
   refine AWp.ret ?_
   cases h
   exact ⟨.inr rfl,rfl⟩

noncomputable def f79o_b1 :Option (Unit ⊕ Out T50 Unit) :=
 cond (decide ((0:Int) < (4:Int))) none (some (.inr (.go ())))

noncomputable def f79o_b2 (v2:T50) (v3:Int):Option (Int ⊕ Out T50 Unit) :=
 cond (decide (v3 < (v2.f0.length:Int))) (if (0:Int) ≤ v3 ∧ v3 < (v2.f0.length:Int) then (iter (fun _=>f79o_b1) ()).bind fun y=>match y with | .ret v4=>some (.inr (.ret v4)) | .go _=>some (.inl (w64 (v3 + (1:Int)))) else none) (some (.inr (.go ())))

noncomputable def f79o (v1:Int) (v2:T50):Option T50 :=
 (iter (fun s=>f79o_b2 v2 s) (0:Int)).bind fun y=>match y with | .ret v5=>some v5 | .go _=>cond (v2.f1 == v1) (some (T50.mk v2.f0 (0:Int) v2.f2)) (some (T50.mk v2.f0 v2.f1 v2.f2))

theorem f79o_ok (v1:Int) (v2:T50) {r:T50} (h:f79o v1 v2 = some r):ACall Try.prog 79 [.pc 0 0,.tv (.int .i64 v1)] [.cells 51 [ownL 27 61 o60 v2.f0,.int .i64 v2.f1,ownL 2 44 c43 v2.f2]] (.tup []) [.cells 51 [ownL 27 61 o60 r.f0,.int .i64 r.f1,ownL 2 44 c43 r.f2]]:=by
 refine ACall.ofN (FF 50 1) (rs:=[]) (env:=[]) Try.func79 rfl Try.ntmps79 Try.results79 (by decide) (by decide) rfl (zz rfl) rfl (get_ofN _ _ _ rfl) (ok_ofN _ rfl) ?_
 refine AWp.seq ?_
 refine AWp.seq ?_
 refine AWp.start [0,1,2,3,4,5] [] [] [0,1,11,12] 1 ⟨[(0,.pc 0 0),(1,tI v1),(11,tI (v2.f0.length:Int)),(12,tI (0:Int))],[.cells 51 [k0 v2.f0,.int .i64 v2.f1,k1 v2.f2]]⟩ rfl ?_ (zz rfl) trivial ?_
 ·kernel_rfl
 refine AOps.nil ?_
 refine AWp.block ?_
 obtain ⟨y,hy,h⟩:=of_bind h
 refine AWp.mono (AWp.loop (S:=Int) (Y:=Out T50 Unit) (fun s=>⟨[(0,.pc 0 0),(1,tI v1),(11,tI (v2.f0.length:Int)),(12,tI s)],[.cells 51 [k0 v2.f0,.int .i64 v2.f1,k1 v2.f2]]⟩) (fun s=>f79o_b2 v2 s) (fun y e σ=>match y with | .ret r=>e = .ret ∧ σ = ⟨[],[.cells 51 [k0 r.f0,.int .i64 r.f1,k1 r.f2]]⟩ | .go v=>e = .exit 0 ∧ σ = ⟨[(0,.pc 0 0),(1,tI v1)],[.cells 51 [k0 v2.f0,.int .i64 v2.f1,k1 v2.f2]]⟩) ?_ hy) ?_
 ·rintro v3 o h
  refine AWp.seq ?_
  refine AWp.start [0] [] [] [0,1,11,12,13] 1 ⟨[(0,.pc 0 0),(1,tI v1),(11,tI (v2.f0.length:Int)),(12,tI v3),(13,tB (decide (v3 < (v2.f0.length:Int))))],[.cells 51 [k0 v2.f0,.int .i64 v2.f1,k1 v2.f2]]⟩ rfl ?_ (zz rfl) trivial ?_
  ·kernel_rfl
  refine AOps.nil ?_
  refine AWp.seq ?_
  refine AWp.cond rfl (fun hb=>?_) fun hb=>?_
  ·replace h:=of_true h hb
   refine AWp.keepTo [0,1,11,12] 1 ⟨[(0,.pc 0 0),(1,tI v1),(11,tI (v2.f0.length:Int)),(12,tI v3)],[.cells 51 [k0 v2.f0,.int .i64 v2.f1,k1 v2.f2]]⟩ ?_ (zz rfl) ?_
   ·kernel_rfl
   refine AWp.skip ?_
   refine AWp.seq ?_
   refine AWp.block ?_
   refine AWp.seq ?_
   refine AWp.start [0,1] [] [] [0,1,4,11,12] 1 ⟨[(0,.pc 0 0),(1,tI v1),(4,tI v3),(11,tI (v2.f0.length:Int)),(12,tI v3)],[.cells 51 [k0 v2.f0,.int .i64 v2.f1,k1 v2.f2]]⟩ rfl ?_ (zz rfl) trivial ?_
   ·kernel_rfl
   refine AOps.nil ?_
   refine AWp.seq ?_
   obtain ⟨hg,h⟩:=of_guard h
   refine AWp.start [0,1,2,3,4,5,6,7,8] [] [(0:Int) ≤ v3,v3 < (v2.f0.length:Int)] [0,1,4,11,12,22,23] 1 ⟨[(0,.pc 0 0),(1,tI v1),(4,tI v3),(11,tI (v2.f0.length:Int)),(12,tI v3),(22,.agg [.int .i64 (((gD v2.f0 v3).f6).getD 0 0),.int .i64 (((gD v2.f0 v3).f6).getD 1 0),.int .i64 (((gD v2.f0 v3).f6).getD 2 0),.int .i64 (((gD v2.f0 v3).f6).getD 3 0)]),(23,tI (0:Int))],[.cells 51 [k0 v2.f0,.int .i64 v2.f1,k1 v2.f2]]⟩ rfl ?_ (zz rfl) ⟨hg.1,hg.2⟩ ?_
   ·kernel_rfl
   refine AOps.nil ?_
   refine AWp.block ?_
   obtain ⟨y,hy,h⟩:=of_bind h
   refine AWp.mono (AWp.loop (S:=Unit) (Y:=Out T50 Unit) (fun _=>⟨[(0,.pc 0 0),(1,tI v1),(4,tI v3),(11,tI (v2.f0.length:Int)),(12,tI v3),(22,.agg [.int .i64 (((gD v2.f0 v3).f6).getD 0 0),.int .i64 (((gD v2.f0 v3).f6).getD 1 0),.int .i64 (((gD v2.f0 v3).f6).getD 2 0),.int .i64 (((gD v2.f0 v3).f6).getD 3 0)]),(23,tI (0:Int))],[.cells 51 [k0 v2.f0,.int .i64 v2.f1,k1 v2.f2]]⟩) (fun _=>f79o_b1) (fun y e σ=>match y with | .ret r=>e = .ret ∧ σ = ⟨[],[.cells 51 [k0 r.f0,.int .i64 r.f1,k1 r.f2]]⟩ | .go v=>e = .exit 2 ∧ σ = ⟨[(0,.pc 0 0),(1,tI v1),(11,tI (v2.f0.length:Int)),(12,tI v3)],[.cells 51 [k0 v2.f0,.int .i64 v2.f1,k1 v2.f2]]⟩) ?_ hy) ?_
   ·rintro ⟨⟩ o h
    refine AWp.seq ?_
    refine AWp.start [0] [] [] [0,1,4,11,12,22,23,24] 1 ⟨[(0,.pc 0 0),(1,tI v1),(4,tI v3),(11,tI (v2.f0.length:Int)),(12,tI v3),(22,.agg [.int .i64 (((gD v2.f0 v3).f6).getD 0 0),.int .i64 (((gD v2.f0 v3).f6).getD 1 0),.int .i64 (((gD v2.f0 v3).f6).getD 2 0),.int .i64 (((gD v2.f0 v3).f6).getD 3 0)]),(23,tI (0:Int)),(24,tB (decide ((0:Int) < (4:Int))))],[.cells 51 [k0 v2.f0,.int .i64 v2.f1,k1 v2.f2]]⟩ rfl ?_ (zz rfl) trivial ?_
    ·kernel_rfl
    refine AOps.nil ?_
    refine AWp.seq ?_
    refine AWp.cond rfl (fun hb=>?_) fun hb=>?_
    ·replace h:=of_true h hb
     refine AWp.keepTo [0,1,4,11,12,22,23] 1 ⟨[(0,.pc 0 0),(1,tI v1),(4,tI v3),(11,tI (v2.f0.length:Int)),(12,tI v3),(22,.agg [.int .i64 (((gD v2.f0 v3).f6).getD 0 0),.int .i64 (((gD v2.f0 v3).f6).getD 1 0),.int .i64 (((gD v2.f0 v3).f6).getD 2 0),.int .i64 (((gD v2.f0 v3).f6).getD 3 0)]),(23,tI (0:Int))],[.cells 51 [k0 v2.f0,.int .i64 v2.f1,k1 v2.f2]]⟩ ?_ (zz rfl) ?_
     ·kernel_rfl
     refine AWp.skip ?_
     refine AWp.seq ?_
     refine AWp.block ?_
     refine AWp.seq ?_
     cases h
    ·replace h:=of_false h hb
     refine AWp.keepTo [0,1,11,12] 1 ⟨[(0,.pc 0 0),(1,tI v1),(11,tI (v2.f0.length:Int)),(12,tI v3)],[.cells 51 [k0 v2.f0,.int .i64 v2.f1,k1 v2.f2]]⟩ ?_ (zz rfl) ?_
     ·kernel_rfl
     refine AWp.exit ?_
     cases h
     exact Or.inr ⟨_,rfl,by simp,rfl,rfl⟩
   ·intro e σ hp
    rcases y with v4 | _
    ·obtain ⟨rfl,rfl⟩:=hp
     cases h
     exact Or.inr ⟨_,rfl,by simp,rfl,rfl⟩
    ·obtain ⟨rfl,rfl⟩:=hp
     refine AWp.start [0,1] [] [] [0,1,11,12] 1 ⟨[(0,.pc 0 0),(1,tI v1),(11,tI (v2.f0.length:Int)),(12,tI (w64 (v3 + (1:Int))))],[.cells 51 [k0 v2.f0,.int .i64 v2.f1,k1 v2.f2]]⟩ rfl ?_ (zz rfl) trivial ?_
     ·kernel_rfl
     refine AOps.nil ?_
     cases h
     exact Or.inl ⟨_,rfl,rfl,rfl⟩
  ·replace h:=of_false h hb
   refine AWp.keepTo [0,1] 1 ⟨[(0,.pc 0 0),(1,tI v1)],[.cells 51 [k0 v2.f0,.int .i64 v2.f1,k1 v2.f2]]⟩ ?_ (zz rfl) ?_
   ·kernel_rfl
   refine AWp.exit ?_
   cases h
   exact Or.inr ⟨_,rfl,by simp,rfl,rfl⟩
 ·intro e σ hp
  rcases y with v5 | _
  ·obtain ⟨rfl,rfl⟩:=hp
   cases h
   exact ⟨.inr rfl,rfl⟩
  ·obtain ⟨rfl,rfl⟩:=hp
   refine AWp.seq ?_
   refine AWp.start [0,1,2,3,4,5] [] [] [0,46] 1 ⟨[(0,.pc 0 0),(46,tB (v2.f1 == v1))],[.cells 51 [k0 v2.f0,.int .i64 v2.f1,k1 v2.f2]]⟩ rfl ?_ (zz rfl) trivial ?_
   ·kernel_rfl
   refine AOps.nil ?_
   refine AWp.cond rfl (fun hb=>?_) fun hb=>?_
   ·replace h:=of_true h hb
    refine AWp.keepTo [0] 1 ⟨[(0,.pc 0 0)],[.cells 51 [k0 v2.f0,.int .i64 v2.f1,k1 v2.f2]]⟩ ?_ (zz rfl) ?_
    ·kernel_rfl
    refine AWp.start [0,1,2,3] [] [] [] 1 ⟨[],[.cells 51 [k0 v2.f0,.int .i64 (0:Int),k1 v2.f2]]⟩ rfl ?_ (zz rfl) trivial ?_
    ·kernel_rfl
    refine AOps.nil ?_
    cases h
    exact ⟨.inl rfl,rfl⟩
   ·replace h:=of_false h hb
    refine AWp.keepTo [] 1 ⟨[],[.cells 51 [k0 v2.f0,.int .i64 v2.f1,k1 v2.f2]]⟩ ?_ (zz rfl) ?_
    ·kernel_rfl
    refine AWp.skip ?_
    cases h
    exact ⟨.inl rfl,rfl⟩

noncomputable def f46 (v1:T50) (v2:Int):Option Bool :=
 if (0:Int) ≤ v2 ∧ v2 < (v1.f0.length:Int) then (cond (((v1.f0.getD v2.toNat default).f2) == ([101,110,100,101,100]:List UInt8)) (some true) (some (((v1.f0.getD v2.toNat default).f2) == ([102,97,105,108,101,100]:List UInt8)))).bind fun v3=>(cond v3 (some true) (some (((v1.f0.getD v2.toNat default).f2) == ([101,114,114,111,114]:List UInt8)))).bind fun v4=>some v4 else none

theorem f46_ok (v1:T50) (v2:Int) {r:Bool} (h:f46 v1 v2 = some r):ACall Try.prog 46 [.rp [fzL 27 c60 v1.f0,.int .i64 v1.f1,fzL 2 c43 v1.f2],.tv (.int .i64 v2)] [] (.tv (.bool r)) []:=by
 refine ACall.of1 (FF 24 0) Try.func46 rfl Try.ntmps46 Try.results46 (zz rfl) rfl rfl ?_
 refine AWp.seq ?_
 refine AWp.start [0] [] [] [0,1] 0 ⟨[(0,.rp (c50 v1)),(1,tI v2)],[]⟩ rfl ?_ z0 trivial ?_
 ·kernel_rfl
 refine AOps.nil ?_
 refine AWp.seq ?_
 obtain ⟨hg,h⟩:=of_guard h
 refine AWp.start [0,1,2,3,4,5,6,7,8] [] [(0:Int) ≤ v2,v2 < (v1.f0.length:Int)] [5] 0 ⟨[(5,tS ((gD v1.f0 v2).f2))],[]⟩ rfl ?_ z0 ⟨hg.1,hg.2⟩ ?_
 ·kernel_rfl
 refine AOps.nil ?_
 refine AWp.seq ?_
 refine AWp.start [0,1,2] [3,4,5,6,7,8,9,10] [] [5,16] 0 ⟨[(5,tS ((gD v1.f0 v2).f2)),(16,tB (((gD v1.f0 v2).f2) == ([101,110,100,101,100]:List UInt8)))],[]⟩ rfl ?_ z0 trivial ?_
 ·kernel_rfl
 obtain ⟨v3,hc3,h⟩:=of_bind h
 refine AOps.cut [3,4,5] [6,7,8,9,10] (fun σ=>σ = ⟨[(5,tS ((gD v1.f0 v2).f2)),(19,tB v3)],[]⟩) ?_ fun σ' hJ=>?_
 ·refine AOps.split (fun b=>⟨[(5,tS ((gD v1.f0 v2).f2)),(16,tB b)],[]⟩) _ (fun hb=>?_) fun hb=>?_
  ·replace hc3:=of_true hc3 hb
   refine AOps.go [3,4,5] [] [] [5,19] 0 ⟨[(5,tS ((gD v1.f0 v2).f2)),(19,tB true)],[]⟩ ?_ z0 trivial ?_
   ·kernel_rfl
   cases hc3
   exact AOps.nil rfl
  ·replace hc3:=of_false hc3 hb
   refine AOps.go [3,4,5] [] [] [5,19] 0 ⟨[(5,tS ((gD v1.f0 v2).f2)),(19,tB (((gD v1.f0 v2).f2) == ([102,97,105,108,101,100]:List UInt8)))],[]⟩ ?_ z0 trivial ?_
   ·kernel_rfl
   cases hc3
   exact AOps.nil rfl
 subst hJ
 refine AOps.go [6] [7,8,9,10] [] [5,20] 0 ⟨[(5,tS ((gD v1.f0 v2).f2)),(20,tB v3)],[]⟩ ?_ z0 trivial ?_
 ·kernel_rfl
 obtain ⟨v4,hc7,h⟩:=of_bind h
 refine AOps.cut [7,8,9] [10] (fun σ=>σ = ⟨[(23,tB v4)],[]⟩) ?_ fun σ' hJ=>?_
 ·refine AOps.split (fun b=>⟨[(5,tS ((gD v1.f0 v2).f2)),(20,tB b)],[]⟩) _ (fun hb=>?_) fun hb=>?_
  ·replace hc7:=of_true hc7 hb
   refine AOps.go [7,8,9] [] [] [23] 0 ⟨[(23,tB true)],[]⟩ ?_ z0 trivial ?_
   ·kernel_rfl
   cases hc7
   exact AOps.nil rfl
  ·replace hc7:=of_false hc7 hb
   refine AOps.go [7,8,9] [] [] [23] 0 ⟨[(23,tB (((gD v1.f0 v2).f2) == ([101,114,114,111,114]:List UInt8)))],[]⟩ ?_ z0 trivial ?_
   ·kernel_rfl
   cases hc7
   exact AOps.nil rfl
 subst hJ
 refine AOps.go [10] [] [] [4] 0 ⟨[(4,tB v4)],[]⟩ ?_ z0 trivial ?_
 ·kernel_rfl
 refine AOps.nil ?_
 refine AWp.ret ?_
 cases h
 exact ⟨.inr rfl,rfl⟩

noncomputable def f92_b1 (v1:List Int) (v2:Int) (v3:Int):Option (Int ⊕ Out Int Unit) :=
 cond (decide (v3 < (v1.length:Int))) (if (0:Int) ≤ v3 ∧ v3 < (v1.length:Int) then cond (v2 == v1.getD v3.toNat default) (some (.inr (.ret v3))) (some (.inl (w64 (v3 + (1:Int))))) else none) (some (.inr (.go ())))

noncomputable def f92 (v1:List Int) (v2:Int):Option Int :=
 (iter (fun s=>f92_b1 v1 v2 s) (0:Int)).bind fun y=>match y with | .ret v4=>some v4 | .go _=>some (-1:Int)

theorem f92_ok (v1:List Int) (v2:Int) {r:Int} (h:f92 v1 v2 = some r):ACall Try.prog 92 [.tv (fzL 1 (cInt .i64) v1),.tv (.int .i64 v2)] [] (.tv (.int .i64 r)) []:=by
 refine ACall.of1 (FF 19 0) Try.func92 rfl Try.ntmps92 Try.results92 (zz rfl) rfl rfl ?_
 refine AWp.seq ?_
 refine AWp.start [0] [] [] [0,1] 0 ⟨[(0,q0 v1),(1,tI v2)],[]⟩ rfl ?_ z0 trivial ?_
 ·kernel_rfl
 refine AOps.nil ?_
 refine AWp.seq ?_
 refine AWp.seq ?_
 refine AWp.start [0,1,2] [] [] [0,1,7,8] 0 ⟨[(0,q0 v1),(1,tI v2),(7,tI (v1.length:Int)),(8,tI (0:Int))],[]⟩ rfl ?_ z0 trivial ?_
 ·kernel_rfl
 refine AOps.nil ?_
 refine AWp.block ?_
 obtain ⟨y,hy,h⟩:=of_bind h
 refine AWp.mono (AWp.loop (S:=Int) (Y:=Out Int Unit) (fun s=>⟨[(0,q0 v1),(1,tI v2),(7,tI (v1.length:Int)),(8,tI s)],[]⟩) (fun s=>f92_b1 v1 v2 s) (fun y e σ=>match y with | .ret r=>e = .ret ∧ σ = ⟨[(4,tI r)],[]⟩ | .go v=>e = .exit 0 ∧ σ = ⟨[],[]⟩) ?_ hy) ?_
 ·rintro v3 o h
  refine AWp.seq ?_
  refine AWp.start [0] [] [] [0,1,7,8,9] 0 ⟨[(0,q0 v1),(1,tI v2),(7,tI (v1.length:Int)),(8,tI v3),(9,tB (decide (v3 < (v1.length:Int))))],[]⟩ rfl ?_ z0 trivial ?_
  ·kernel_rfl
  refine AOps.nil ?_
  refine AWp.seq ?_
  refine AWp.cond rfl (fun hb=>?_) fun hb=>?_
  ·replace h:=of_true h hb
   refine AWp.keepTo [0,1,7,8] 0 ⟨[(0,q0 v1),(1,tI v2),(7,tI (v1.length:Int)),(8,tI v3)],[]⟩ ?_ z0 ?_
   ·kernel_rfl
   refine AWp.skip ?_
   refine AWp.seq ?_
   refine AWp.block ?_
   refine AWp.seq ?_
   refine AWp.start [0,1] [] [] [0,1,5,7,8] 0 ⟨[(0,q0 v1),(1,tI v2),(5,tI v3),(7,tI (v1.length:Int)),(8,tI v3)],[]⟩ rfl ?_ z0 trivial ?_
   ·kernel_rfl
   refine AOps.nil ?_
   refine AWp.seq ?_
   obtain ⟨hg,h⟩:=of_guard h
   refine AWp.start [0,1,2,3,4,5] [] [(0:Int) ≤ v3,v3 < (v1.length:Int)] [0,1,5,7,8,16] 0 ⟨[(0,q0 v1),(1,tI v2),(5,tI v3),(7,tI (v1.length:Int)),(8,tI v3),(16,tB (v2 == gD v1 v3))],[]⟩ rfl ?_ z0 ⟨hg.1,hg.2⟩ ?_
   ·kernel_rfl
   refine AOps.nil ?_
   refine AWp.cond rfl (fun hb=>?_) fun hb=>?_
   ·replace h:=of_true h hb
    refine AWp.keepTo [5] 0 ⟨[(5,tI v3)],[]⟩ ?_ z0 ?_
    ·kernel_rfl
    refine AWp.seq ?_
    refine AWp.start [0,1] [] [] [4] 0 ⟨[(4,tI v3)],[]⟩ rfl ?_ z0 trivial ?_
    ·kernel_rfl
    refine AOps.nil ?_
    refine AWp.ret ?_
    cases h
    exact Or.inr ⟨_,rfl,by simp,rfl,rfl⟩
   ·replace h:=of_false h hb
    refine AWp.keepTo [0,1,7,8] 0 ⟨[(0,q0 v1),(1,tI v2),(7,tI (v1.length:Int)),(8,tI v3)],[]⟩ ?_ z0 ?_
    ·kernel_rfl
    refine AWp.skip ?_
    refine AWp.start [0,1] [] [] [0,1,7,8] 0 ⟨[(0,q0 v1),(1,tI v2),(7,tI (v1.length:Int)),(8,tI (w64 (v3 + (1:Int))))],[]⟩ rfl ?_ z0 trivial ?_
    ·kernel_rfl
    refine AOps.nil ?_
    cases h
    exact Or.inl ⟨_,rfl,rfl,rfl⟩
  ·replace h:=of_false h hb
   refine AWp.keepTo [] 0 ⟨[],[]⟩ ?_ z0 ?_
   ·kernel_rfl
   refine AWp.exit ?_
   cases h
   exact Or.inr ⟨_,rfl,by simp,rfl,rfl⟩
 ·intro e σ hp
  rcases y with v4 | _
  ·obtain ⟨rfl,rfl⟩:=hp
   cases h
   exact ⟨.inr rfl,rfl⟩
  ·obtain ⟨rfl,rfl⟩:=hp
   refine AWp.seq ?_
   refine AWp.start [0] [] [] [4] 0 ⟨[(4,tI (-1:Int))],[]⟩ rfl ?_ z0 trivial ?_
   ·kernel_rfl
   refine AOps.nil ?_
   refine AWp.ret ?_
   cases h
   exact ⟨.inr rfl,rfl⟩

noncomputable def f73 (v1:List Int) (v2:Int):Option Bool :=
 (f92 v1 v2).bind fun v3=>some (decide (v3 ≥ (0:Int)))

theorem f73_ok (v1:List Int) (v2:Int) {r:Bool} (h:f73 v1 v2 = some r):ACall Try.prog 73 [.tv (fzL 1 (cInt .i64) v1),.tv (.int .i64 v2)] [] (.tv (.bool r)) []:=by
 refine ACall.of1 (FF 9 0) Try.func73 rfl Try.ntmps73 Try.results73 (zz rfl) rfl rfl ?_
 refine AWp.seq ?_
 refine AWp.start [0] [] [] [0,1] 0 ⟨[(0,q0 v1),(1,tI v2)],[]⟩ rfl ?_ z0 trivial ?_
 ·kernel_rfl
 refine AOps.nil ?_
 refine AWp.seq ?_
 refine AWp.start [0,1] [2,3,4] [] [5,6] 0 ⟨[(5,q0 v1),(6,tI v2)],[]⟩ rfl ?_ z0 trivial ?_
 ·kernel_rfl
 obtain ⟨v3,hv3,h⟩:=of_bind h
 refine AOps.cons (AOne.callP (F:=(FF 9 0)) _ rfl rfl rfl _ rfl rfl _ _ rfl Try.call92 [q0 v1,tI v2] rfl rfl (f92_ok v1 v2 hv3) rfl) ?_
 refine AOps.go [3,4] [] [] [4] 0 ⟨[(4,tB (decide (v3 ≥ (0:Int))))],[]⟩ ?_ z0 trivial ?_
 ·kernel_rfl
 refine AOps.nil ?_
 refine AWp.ret ?_
 cases h
 exact ⟨.inr rfl,rfl⟩

noncomputable def f44_j1 (v5:Int) (v7:List Int):Option (((List Int) × Int) ⊕ Out (List Int) (List Int)) :=
 some (.inl (v7,w64 (v5 + (1:Int))))

noncomputable def f44_b2 (v1:T50) (v2:Int) (v3:T54) (v4:List Int) (v5:Int):Option (((List Int) × Int) ⊕ Out (List Int) (List Int)) :=
 cond (decide (v5 < (v1.f0.length:Int))) ((f46 v1 v5).bind fun v8=>(cond v8 (some true) (some (v5 == v2))).bind fun v9=>cond v9 (f44_j1 v5 v4) (cond (v3.f0 == ([97,108,108]:List UInt8)) (if (0:Int) ≤ v5 ∧ v5 < (v1.f0.length:Int) then (cond (!(((v1.f0.getD v5.toNat default).f2) == ([119,97,105,116,115]:List UInt8))) (some true) ((f80 v1 v5).bind fun v11=>some (!(v11.f0 == ([97,108,108]:List UInt8))))).bind fun v10=>cond v10 (if (v4.length + [v5].length) * 8 ≤ 140737488355328 then f44_j1 v5 (v4 ++ [v5]) else none) (f44_j1 v5 v4) else none) none)) (some (.inr (.go v4)))

noncomputable def f44 (v1:T50) (v2:Int):Option (List Int) :=
 (f80 v1 v2).bind fun v3=>(iter (fun s=>f44_b2 v1 v2 v3 s.1 s.2) ([],(1:Int))).bind fun y=>match y with | .ret v12=>some v12 | .go v6=>some v6

theorem f44_ok (v1:T50) (v2:Int) {r:(List Int)} (h:f44 v1 v2 = some r):ACall Try.prog 44 [.rp [fzL 27 c60 v1.f0,.int .i64 v1.f1,fzL 2 c43 v1.f2],.tv (.int .i64 v2)] [] (.tv (ownL 1 3 (cInt .i64) r)) []:=by
 refine ACall.of1 (FF 86 0) Try.func44 rfl Try.ntmps44 Try.results44 (zz rfl) rfl rfl ?_
 refine AWp.seq ?_
 refine AWp.start [0] [] [] [0,1] 0 ⟨[(0,.rp (c50 v1)),(1,tI v2)],[]⟩ rfl ?_ z0 trivial ?_
 ·kernel_rfl
 refine AOps.nil ?_
 refine AWp.seq ?_
 refine AWp.start [0] [] [] [0,1,5] 0 ⟨[(0,.rp (c50 v1)),(1,tI v2),(5,.tv (.sc (.slice none 0 0)))],[]⟩ rfl ?_ z0 trivial ?_
 ·kernel_rfl
 refine AOps.nil ?_
 refine AWp.seq ?_
 refine AWp.start [0,1] [2,3,4] [] [0,1,5,8,9] 0 ⟨[(0,.rp (c50 v1)),(1,tI v2),(5,.tv (.sc (.slice none 0 0))),(8,.rp (c50 v1)),(9,tI v2)],[]⟩ rfl ?_ z0 trivial ?_
 ·kernel_rfl
 obtain ⟨v3,hv3,h⟩:=of_bind h
 refine AOps.cons (AOne.callP (F:=(FF 86 0)) _ rfl rfl rfl _ rfl rfl _ _ rfl Try.call80 [.rp (c50 v1),tI v2] rfl rfl (f80_ok v1 v2 hv3) rfl) ?_
 refine AOps.go [3,4] [] [] [0,1,5,6] 1 ⟨[(0,.rp (c50 v1)),(1,tI v2),(5,.tv (.sc (.slice none 0 0))),(6,.pc 0 0)],[.cells 55 (c54 v3)]⟩ ?_ z0 trivial ?_
 ·kernel_rfl
 refine AOps.nil ?_
 refine AWp.seq ?_
 refine AWp.seq ?_
 refine AWp.pin 0 rfl rfl ?_
 refine AWp.keepTo [0,1,5,6] 0 ⟨[(0,.rp (c50 v1)),(1,tI v2),(5,.tv (.sc (.slice none 0 0))),(6,.rp (c54 v3))],[]⟩ ?_ z0 ?_
 ·kernel_rfl
 refine AWp.start [0] [] [] [0,1,5,6,7] 0 ⟨[(0,.rp (c50 v1)),(1,tI v2),(5,.tv (.sc (.slice none 0 0))),(6,.rp (c54 v3)),(7,tI (1:Int))],[]⟩ rfl ?_ z0 trivial ?_
 ·kernel_rfl
 refine AOps.nil ?_
 refine AWp.block ?_
 refine AWp.nilOwn 5 1 3 (fun i=>(cInt .i64) (([]:List Int).getD i default)) rfl ?_
 refine AWp.keepTo [0,1,5,6,7] 0 ⟨[(0,.rp (c50 v1)),(1,tI v2),(5,q1 ([]:List Int)),(6,.rp (c54 v3)),(7,tI (1:Int))],[]⟩ ?_ z0 ?_
 ·kernel_rfl
 obtain ⟨y,hy,h⟩:=of_bind h
 refine AWp.mono (AWp.loop (S:=(List Int) × Int) (Y:=Out (List Int) (List Int)) (fun s=>⟨[(0,.rp (c50 v1)),(1,tI v2),(5,q1 s.1),(6,.rp (c54 v3)),(7,tI s.2)],[]⟩) (fun s=>f44_b2 v1 v2 v3 s.1 s.2) (fun y e σ=>match y with | .ret r=>e = .ret ∧ σ = ⟨[(4,q1 r)],[]⟩ | .go v=>e = .exit 0 ∧ σ = ⟨[(5,q1 v)],[]⟩) ?_ hy) ?_
 ·rintro ⟨v4,v5⟩ o h
  refine AWp.seq ?_
  refine AWp.seq ?_
  refine AWp.start [0,1,2,3,4,5,6] [] [] [0,1,5,6,7,17] 0 ⟨[(0,.rp (c50 v1)),(1,tI v2),(5,q1 v4),(6,.rp (c54 v3)),(7,tI v5),(17,tB (decide (v5 < (v1.f0.length:Int))))],[]⟩ rfl ?_ z0 trivial ?_
  ·kernel_rfl
  refine AOps.nil ?_
  refine AWp.cond rfl (fun hb=>?_) fun hb=>?_
  ·replace h:=of_true h hb
   refine AWp.keepTo [0,1,5,6,7] 0 ⟨[(0,.rp (c50 v1)),(1,tI v2),(5,q1 v4),(6,.rp (c54 v3)),(7,tI v5)],[]⟩ ?_ z0 ?_
   ·kernel_rfl
   refine AWp.skip ?_
   refine AWp.join (V:=(List Int)) (fun w=>⟨[(0,.rp (c50 v1)),(1,tI v2),(5,q1 w),(6,.rp (c54 v3)),(7,tI v5)],[]⟩) (fun w=>f44_j1 v5 w = some o) ?_ ?_
   ·refine AWp.block ?_
    refine AWp.block ?_
    refine AWp.seq ?_
    refine AWp.start [0,1] [2,3,4,5,6,7,8] [] [0,1,5,6,7,21,22] 0 ⟨[(0,.rp (c50 v1)),(1,tI v2),(5,q1 v4),(6,.rp (c54 v3)),(7,tI v5),(21,.rp (c50 v1)),(22,tI v5)],[]⟩ rfl ?_ z0 trivial ?_
    ·kernel_rfl
    obtain ⟨v8,hv8,h⟩:=of_bind h
    refine AOps.cons (AOne.callP (F:=(FF 86 0)) _ rfl rfl rfl _ rfl rfl _ _ rfl Try.call46 [.rp (c50 v1),tI v5] rfl rfl (f46_ok v1 v5 hv8) rfl) ?_
    refine AOps.go [3] [4,5,6,7,8] [] [0,1,5,6,7,24] 0 ⟨[(0,.rp (c50 v1)),(1,tI v2),(5,q1 v4),(6,.rp (c54 v3)),(7,tI v5),(24,tB v8)],[]⟩ ?_ z0 trivial ?_
    ·kernel_rfl
    obtain ⟨v9,hc4,h⟩:=of_bind h
    refine AOps.cut [4,5,6,7] [8] (fun σ=>σ = ⟨[(0,.rp (c50 v1)),(1,tI v2),(5,q1 v4),(6,.rp (c54 v3)),(7,tI v5),(28,tB v9)],[]⟩) ?_ fun σ' hJ=>?_
    ·refine AOps.split (fun b=>⟨[(0,.rp (c50 v1)),(1,tI v2),(5,q1 v4),(6,.rp (c54 v3)),(7,tI v5),(24,tB b)],[]⟩) _ (fun hb=>?_) fun hb=>?_
     ·replace hc4:=of_true hc4 hb
      refine AOps.go [4,5,6,7] [] [] [0,1,5,6,7,28] 0 ⟨[(0,.rp (c50 v1)),(1,tI v2),(5,q1 v4),(6,.rp (c54 v3)),(7,tI v5),(28,tB true)],[]⟩ ?_ z0 trivial ?_
      ·kernel_rfl
      cases hc4
      exact AOps.nil rfl
     ·replace hc4:=of_false hc4 hb
      refine AOps.go [4,5,6,7] [] [] [0,1,5,6,7,28] 0 ⟨[(0,.rp (c50 v1)),(1,tI v2),(5,q1 v4),(6,.rp (c54 v3)),(7,tI v5),(28,tB (v5 == v2))],[]⟩ ?_ z0 trivial ?_
      ·kernel_rfl
      cases hc4
      exact AOps.nil rfl
    subst hJ
    refine AOps.go [8] [] [] [0,1,5,6,7,20] 0 ⟨[(0,.rp (c50 v1)),(1,tI v2),(5,q1 v4),(6,.rp (c54 v3)),(7,tI v5),(20,tB v9)],[]⟩ ?_ z0 trivial ?_
    ·kernel_rfl
    refine AOps.nil ?_
    refine AWp.cond rfl (fun hb=>?_) fun hb=>?_
    ·replace h:=of_true h hb
     refine AWp.keepTo [0,1,5,6,7] 0 ⟨[(0,.rp (c50 v1)),(1,tI v2),(5,q1 v4),(6,.rp (c54 v3)),(7,tI v5)],[]⟩ ?_ z0 ?_
     ·kernel_rfl
     refine AWp.skip ?_
     exact ⟨v4,h,rfl⟩
    ·replace h:=of_false h hb
     refine AWp.keepTo [0,1,5,6,7] 0 ⟨[(0,.rp (c50 v1)),(1,tI v2),(5,q1 v4),(6,.rp (c54 v3)),(7,tI v5)],[]⟩ ?_ z0 ?_
     ·kernel_rfl
     refine AWp.seq ?_
     refine AWp.start [0,1,2,3] [] [] [0,1,5,6,7,29] 0 ⟨[(0,.rp (c50 v1)),(1,tI v2),(5,q1 v4),(6,.rp (c54 v3)),(7,tI v5),(29,tB (v3.f0 == ([97,108,108]:List UInt8)))],[]⟩ rfl ?_ z0 trivial ?_
     ·kernel_rfl
     refine AOps.nil ?_
     refine AWp.cond rfl (fun hb=>?_) fun hb=>?_
     ·replace h:=of_true h hb
      refine AWp.keepTo [0,1,5,6,7] 0 ⟨[(0,.rp (c50 v1)),(1,tI v2),(5,q1 v4),(6,.rp (c54 v3)),(7,tI v5)],[]⟩ ?_ z0 ?_
      ·kernel_rfl
      refine AWp.seq ?_
      obtain ⟨hg,h⟩:=of_guard h
      refine AWp.start [0,1,2,3,4,5,6,7,8,9] [10,11,12,13,14,15] [(0:Int) ≤ v5,v5 < (v1.f0.length:Int)] [0,1,5,6,7,42] 0 ⟨[(0,.rp (c50 v1)),(1,tI v2),(5,q1 v4),(6,.rp (c54 v3)),(7,tI v5),(42,tB (!(((gD v1.f0 v5).f2) == ([119,97,105,116,115]:List UInt8))))],[]⟩ rfl ?_ z0 ⟨hg.1,hg.2⟩ ?_
      ·kernel_rfl
      obtain ⟨v10,hc10,h⟩:=of_bind h
      refine AOps.cut [10,11,12,13,14,15] [] (fun σ=>σ = ⟨[(0,.rp (c50 v1)),(1,tI v2),(5,q1 v4),(6,.rp (c54 v3)),(7,tI v5),(48,tB v10)],[]⟩) ?_ fun σ' hJ=>?_
      ·refine AOps.split (fun b=>⟨[(0,.rp (c50 v1)),(1,tI v2),(5,q1 v4),(6,.rp (c54 v3)),(7,tI v5),(42,tB b)],[]⟩) _ (fun hb=>?_) fun hb=>?_
       ·replace hc10:=of_true hc10 hb
        refine AOps.go [10,11,12,13,14,15] [] [] [0,1,5,6,7,48] 0 ⟨[(0,.rp (c50 v1)),(1,tI v2),(5,q1 v4),(6,.rp (c54 v3)),(7,tI v5),(48,tB true)],[]⟩ ?_ z0 trivial ?_
        ·kernel_rfl
        cases hc10
        exact AOps.nil rfl
       ·replace hc10:=of_false hc10 hb
        refine AOps.go [10,11] [12,13,14,15] [] [0,1,5,6,7,42,43,44] 0 ⟨[(0,.rp (c50 v1)),(1,tI v2),(5,q1 v4),(6,.rp (c54 v3)),(7,tI v5),(42,tB false),(43,.rp (c50 v1)),(44,tI v5)],[]⟩ ?_ z0 trivial ?_
        ·kernel_rfl
        obtain ⟨v11,hv11,hc10⟩:=of_bind hc10
        refine AOps.cons (AOne.callP (F:=(FF 86 0)) _ rfl rfl rfl _ rfl rfl _ _ rfl Try.call80 [.rp (c50 v1),tI v5] rfl rfl (f80_ok v1 v5 hv11) rfl) ?_
        refine AOps.go [13,14,15] [] [] [0,1,5,6,7,48] 0 ⟨[(0,.rp (c50 v1)),(1,tI v2),(5,q1 v4),(6,.rp (c54 v3)),(7,tI v5),(48,tB (!(v11.f0 == ([97,108,108]:List UInt8))))],[]⟩ ?_ z0 trivial ?_
        ·kernel_rfl
        cases hc10
        exact AOps.nil rfl
      subst hJ
      refine AOps.nil ?_
      refine AWp.cond rfl (fun hb=>?_) fun hb=>?_
      ·replace h:=of_true h hb
       refine AWp.keepTo [0,1,5,6,7] 0 ⟨[(0,.rp (c50 v1)),(1,tI v2),(5,q1 v4),(6,.rp (c54 v3)),(7,tI v5)],[]⟩ ?_ z0 ?_
       ·kernel_rfl
       refine AWp.start [0,1,2] [3,4] [] [0,1,5,6,7,49,51] 0 ⟨[(0,.rp (c50 v1)),(1,tI v2),(5,q1 v4),(6,.rp (c54 v3)),(7,tI v5),(49,.al (.slot 5 0,[])),(51,.tv (.own 1 3 1 (newRowF [.int .i64 v5] 1)))],[]⟩ rfl ?_ z0 trivial ?_
       ·kernel_rfl
       refine AOps.extL 51 (cInt .i64) [v5] rfl rfl (row_at (cInt .i64) 1 (fun _=>rfl) [v5] _ rfl) ?_
       obtain ⟨hg,h⟩:=of_guard h
       refine AOps.go [3] [4] [(v4.length + [v5].length) * 8 ≤ 140737488355328,PlainTo v4.length (fun i=>(cInt .i64) (v4.getD i default)),PlainTo ([v5].length) (fun i=>(cInt .i64) ([v5].getD i default))] [0,1,6,7,52] 0 ⟨[(0,.rp (c50 v1)),(1,tI v2),(6,.rp (c54 v3)),(7,tI v5),(52,.tv (.own 1 3 (v4.length + [v5].length) (appF v4.length (fun i=>(cInt .i64) (v4.getD i default)) (fun i=>(cInt .i64) ([v5].getD i default)))))],[]⟩ ?_ z0 ⟨hg,(fun _ _=>rfl),(fun _ _=>rfl)⟩ ?_
       ·kernel_rfl
       refine AOps.extL 52 (cInt .i64) (v4 ++ [v5]) rfl List.length_append.symm (app_at (cInt .i64) v4 [v5]) ?_
       refine AOps.go [4] [] [] [0,1,5,6,7] 0 ⟨[(0,.rp (c50 v1)),(1,tI v2),(5,q1 (v4 ++ [v5])),(6,.rp (c54 v3)),(7,tI v5)],[]⟩ ?_ z0 trivial ?_
       ·kernel_rfl
       refine AOps.nil ?_
       exact ⟨v4 ++ [v5],h,rfl⟩
      ·replace h:=of_false h hb
       refine AWp.keepTo [0,1,5,6,7] 0 ⟨[(0,.rp (c50 v1)),(1,tI v2),(5,q1 v4),(6,.rp (c54 v3)),(7,tI v5)],[]⟩ ?_ z0 ?_
       ·kernel_rfl
       refine AWp.skip ?_
       exact ⟨v4,h,rfl⟩
     ·replace h:=of_false h hb
      refine AWp.keepTo [0,1,5,6,7] 0 ⟨[(0,.rp (c50 v1)),(1,tI v2),(5,q1 v4),(6,.rp (c54 v3)),(7,tI v5)],[]⟩ ?_ z0 ?_
      ·kernel_rfl
      refine AWp.seq ?_
      cases h
   ·rintro v7 h
    refine AWp.start [0,1,2] [] [] [0,1,5,6,7] 0 ⟨[(0,.rp (c50 v1)),(1,tI v2),(5,q1 v7),(6,.rp (c54 v3)),(7,tI (w64 (v5 + (1:Int))))],[]⟩ rfl ?_ z0 trivial ?_
    ·kernel_rfl
    refine AOps.nil ?_
    cases h
    exact Or.inl ⟨_,rfl,rfl,rfl⟩
  ·replace h:=of_false h hb
   refine AWp.keepTo [5] 0 ⟨[(5,q1 v4)],[]⟩ ?_ z0 ?_
   ·kernel_rfl
   refine AWp.exit ?_
   cases h
   exact Or.inr ⟨_,rfl,by simp,rfl,rfl⟩
 ·intro e σ hp
  rcases y with v12 | v6
  ·obtain ⟨rfl,rfl⟩:=hp
   cases h
   exact ⟨.inr rfl,rfl⟩
  ·obtain ⟨rfl,rfl⟩:=hp
   refine AWp.seq ?_
   refine AWp.start [0,1] [] [] [4,5] 0 ⟨[(4,.al (.slot 5 0,[])),(5,q1 v6)],[]⟩ rfl ?_ z0 trivial ?_
   ·kernel_rfl
   refine AOps.nil ?_
   refine AWp.claim 4 (.slot 5 0) (k5 v6) rfl rfl rfl rfl ?_
   refine AWp.keepTo [4] 0 ⟨[(4,q1 v6)],[]⟩ ?_ z0 ?_
   ·kernel_rfl
   refine AWp.ret ?_
   cases h
   exact ⟨.inr rfl,rfl⟩

abbrev hp2 (v1:Int) (v2:T50):List AObj:=[.cells 51 [k0 (v2.f0.set v1.toNat (T60.mk ((gD v2.f0 v1).f0) ((gD v2.f0 v1).f1) ([114,117,110,115]:List UInt8) ((gD v2.f0 v1).f3) ((gD v2.f0 v1).f4) ((gD v2.f0 v1).f5) ((gD v2.f0 v1).f6) ((gD v2.f0 v1).f7) ((gD v2.f0 v1).f8))),.int .i64 v2.f1,k1 v2.f2]]

noncomputable def f70o_b1 (v3:T54):Option (Unit ⊕ Out T50 Unit) :=
 cond (decide ((0:Int) < (v3.f1.length:Int))) (if (0:Int) < (v3.f1.length:Int) then none else none) (some (.inr (.go ())))

noncomputable def f70o (v1:Int) (v2:T50):Option T50 :=
 if (0:Int) ≤ v1 ∧ v1 < (v2.f0.length:Int) then (f80 v2 v1).bind fun v3=>(iter (fun _=>f70o_b1 v3) ()).bind fun y=>match y with | .ret v4=>some v4 | .go _=>some (T50.mk (v2.f0.set v1.toNat (T60.mk ((v2.f0.getD v1.toNat default).f0) ((v2.f0.getD v1.toNat default).f1) ([114,117,110,115]:List UInt8) ((v2.f0.getD v1.toNat default).f3) ((v2.f0.getD v1.toNat default).f4) ((v2.f0.getD v1.toNat default).f5) ((v2.f0.getD v1.toNat default).f6) ((v2.f0.getD v1.toNat default).f7) ((v2.f0.getD v1.toNat default).f8))) v2.f1 v2.f2) else none

theorem f70o_ok (v1:Int) (v2:T50) {r:T50} (h:f70o v1 v2 = some r):ACall Try.prog 70 [.pc 0 0,.tv (.int .i64 v1)] [.cells 51 [ownL 27 61 o60 v2.f0,.int .i64 v2.f1,ownL 2 44 c43 v2.f2]] (.tup []) [.cells 51 [ownL 27 61 o60 r.f0,.int .i64 r.f1,ownL 2 44 c43 r.f2]]:=by
 refine ACall.ofN (FF 61 1) (rs:=[]) (env:=[]) Try.func70 rfl Try.ntmps70 Try.results70 (by decide) (by decide) rfl (zz rfl) rfl (get_ofN _ _ _ rfl) (ok_ofN _ rfl) ?_
 refine AWp.seq ?_
 obtain ⟨hg,h⟩:=of_guard h
 refine AWp.start [0,1,2,3,4,5,6] [] [(0:Int) ≤ v1,v1 < (v2.f0.length:Int)] [0,1,4] 1 ⟨[(0,.pc 0 0),(1,tI v1),(4,.pe (.cell 0 0,[]) v1.toNat 0 27)],[.cells 51 [k0 v2.f0,.int .i64 v2.f1,k1 v2.f2]]⟩ rfl ?_ (zz rfl) ⟨hg.1,hg.2⟩ ?_
 ·kernel_rfl
 refine AOps.nil ?_
 refine AWp.seq ?_
 refine AWp.start [0,1] [2,3,4] [] [0,1,4,14,15] 1 ⟨[(0,.pc 0 0),(1,tI v1),(4,.pe (.cell 0 0,[]) v1.toNat 0 27),(14,.pc 0 0),(15,tI v1)],[.cells 51 [k0 v2.f0,.int .i64 v2.f1,k1 v2.f2]]⟩ rfl ?_ (zz rfl) trivial ?_
 ·kernel_rfl
 obtain ⟨v3,hv3,h⟩:=of_bind h
 refine AOps.cons (call80 (F:=(FF 61 1)) rfl _ rfl rfl rfl 16 rfl rfl rfl Try.call80 rfl rfl rfl hv3) ?_
 refine AOps.go [3,4] [] [] [0,1,4,5] 2 ⟨[(0,.pc 0 0),(1,tI v1),(4,.pe (.cell 0 0,[]) v1.toNat 0 27),(5,.pc 1 0)],[.cells 51 [k0 v2.f0,.int .i64 v2.f1,k1 v2.f2],.cells 55 (c54 v3)]⟩ ?_ (zz rfl) trivial ?_
 ·kernel_rfl
 refine AOps.nil ?_
 refine AWp.seq ?_
 refine AWp.pin 1 rfl rfl ?_
 refine AWp.keepTo [0,1,4,5] 1 ⟨[(0,.pc 0 0),(1,tI v1),(4,.pe (.cell 0 0,[]) v1.toNat 0 27),(5,.rp (c54 v3))],[.cells 51 [k0 v2.f0,.int .i64 v2.f1,k1 v2.f2]]⟩ ?_ (zz rfl) ?_
 ·kernel_rfl
 refine AWp.start [0,1,2] [3] [] [0,1,4,5,19] 1 ⟨[(0,.pc 0 0),(1,tI v1),(4,.pe (.cell 0 0,[]) v1.toNat 0 27),(5,.rp (c54 v3)),(19,.pe (.cell 0 0,[]) v1.toNat 2 27)],[.cells 51 [k0 v2.f0,.int .i64 v2.f1,k1 v2.f2]]⟩ rfl ?_ (zz rfl) trivial ?_
 ·kernel_rfl
 refine AOps.cons (AOne.storeN (F:=(FF 61 1)) (i:=v1.toNat) (n2:=(v2.f0.set v1.toNat (T60.mk ((gD v2.f0 v1).f0) ((gD v2.f0 v1).f1) ([114,117,110,115]:List UInt8) ((gD v2.f0 v1).f3) ((gD v2.f0 v1).f4) ((gD v2.f0 v1).f5) ((gD v2.f0 v1).f6) ((gD v2.f0 v1).f7) ((gD v2.f0 v1).f8))).length) (n':=v2.f0.length) (f:=(fun i=>o60 (v2.f0.getD i default))) (f':=(fun i=>o60 ((v2.f0.set v1.toNat (T60.mk ((gD v2.f0 v1).f0) ((gD v2.f0 v1).f1) ([114,117,110,115]:List UInt8) ((gD v2.f0 v1).f3) ((gD v2.f0 v1).f4) ((gD v2.f0 v1).f5) ((gD v2.f0 v1).f6) ((gD v2.f0 v1).f7) ((gD v2.f0 v1).f8))).getD i default))) _ rfl rfl rfl rfl rfl rfl rfl rfl rfl (set_at o60 v2.f0 v1.toNat 2 [.str ([114,117,110,115]:List UInt8)] (T60.mk ((gD v2.f0 v1).f0) ((gD v2.f0 v1).f1) ([114,117,110,115]:List UInt8) ((gD v2.f0 v1).f3) ((gD v2.f0 v1).f4) ((gD v2.f0 v1).f5) ((gD v2.f0 v1).f6) ((gD v2.f0 v1).f7) ((gD v2.f0 v1).f8)) rfl) List.length_set.symm rfl) ?_
 refine AOps.keepTo [0,1,4,5] 1 ⟨[(0,.pc 0 0),(1,tI v1),(4,.pe (.cell 0 0,[]) v1.toNat 0 27),(5,.rp (c54 v3))],hp2 v1 v2⟩ ?_ (zz rfl) ?_
 ·kernel_rfl
 refine AOps.nil ?_
 refine AWp.seq ?_
 refine AWp.start [0,1,2,3] [] [] [0,1,4,21,22,23] 1 ⟨[(0,.pc 0 0),(1,tI v1),(4,.pe (.cell 0 0,[]) v1.toNat 0 27),(21,q0 v3.f1),(22,tI (v3.f1.length:Int)),(23,tI (0:Int))],hp2 v1 v2⟩ rfl ?_ (zz rfl) trivial ?_
 ·kernel_rfl
 refine AOps.nil ?_
 refine AWp.block ?_
 obtain ⟨y,hy,h⟩:=of_bind h
 refine AWp.mono (AWp.loop (S:=Unit) (Y:=Out T50 Unit) (fun _=>⟨[(0,.pc 0 0),(1,tI v1),(4,.pe (.cell 0 0,[]) v1.toNat 0 27),(21,q0 v3.f1),(22,tI (v3.f1.length:Int)),(23,tI (0:Int))],hp2 v1 v2⟩) (fun _=>f70o_b1 v3) (fun y e σ=>match y with | .ret r=>e = .ret ∧ σ = ⟨[],[.cells 51 [k0 r.f0,.int .i64 r.f1,k1 r.f2]]⟩ | .go v=>e = .exit 0 ∧ σ = ⟨[],hp2 v1 v2⟩) ?_ hy) ?_
 ·rintro ⟨⟩ o h
  refine AWp.seq ?_
  refine AWp.start [0] [] [] [0,1,4,21,22,23,24] 1 ⟨[(0,.pc 0 0),(1,tI v1),(4,.pe (.cell 0 0,[]) v1.toNat 0 27),(21,q0 v3.f1),(22,tI (v3.f1.length:Int)),(23,tI (0:Int)),(24,tB (decide ((0:Int) < (v3.f1.length:Int))))],hp2 v1 v2⟩ rfl ?_ (zz rfl) trivial ?_
  ·kernel_rfl
  refine AOps.nil ?_
  refine AWp.seq ?_
  refine AWp.cond rfl (fun hb=>?_) fun hb=>?_
  ·replace h:=of_true h hb
   refine AWp.keepTo [0,1,4,21,22,23] 1 ⟨[(0,.pc 0 0),(1,tI v1),(4,.pe (.cell 0 0,[]) v1.toNat 0 27),(21,q0 v3.f1),(22,tI (v3.f1.length:Int)),(23,tI (0:Int))],hp2 v1 v2⟩ ?_ (zz rfl) ?_
   ·kernel_rfl
   refine AWp.skip ?_
   refine AWp.seq ?_
   refine AWp.block ?_
   refine AWp.seq ?_
   obtain ⟨hg,h⟩:=of_guard h
   refine AWp.start [0,1,2] [] [(0:Int) ≤ (0:Int),(0:Int) < (v3.f1.length:Int)] [0,1,4,7,21,22,23] 1 ⟨[(0,.pc 0 0),(1,tI v1),(4,.pe (.cell 0 0,[]) v1.toNat 0 27),(7,tI (v3.f1.getD 0 default)),(21,q0 v3.f1),(22,tI (v3.f1.length:Int)),(23,tI (0:Int))],hp2 v1 v2⟩ rfl ?_ (zz rfl) ⟨(by decide:(0:Int) ≤ (0:Int)),hg⟩ ?_
   ·kernel_rfl
   refine AOps.nil ?_
   refine AWp.seq ?_
   cases h
  ·replace h:=of_false h hb
   refine AWp.keepTo [] 1 ⟨[],hp2 v1 v2⟩ ?_ (zz rfl) ?_
   ·kernel_rfl
   refine AWp.exit ?_
   cases h
   exact Or.inr ⟨_,rfl,by simp,rfl,rfl⟩
 ·intro e σ hp
  rcases y with v4 | _
  ·obtain ⟨rfl,rfl⟩:=hp
   cases h
   exact ⟨.inr rfl,rfl⟩
  ·obtain ⟨rfl,rfl⟩:=hp
   cases h
   exact ⟨.inl rfl,rfl⟩

end Go.Sx.img
