/- Printed by program (wip/gen): plain functions and their walks; no condition. -/
import Derived.Test.YtdmpmbcnfoionaaGx6
namespace Go.Sx.unit
open Go Go.Sx Go.Proofs

abbrev hp23 (v40 : (List Int) × Int × T64) (v41 : (List Int) × Int × T78) : List AObj := [.cells 65 [.str v40.2.2.f0,.int .i64 v40.2.2.f1,k0 v40.2.2.f2,.int .i64 v40.2.2.f3,.bool v40.2.2.f4],.cells 79 [.str v41.2.2.f0,.int .i64 v41.2.2.f1,fzL 1 (cSl 1 (cInt .u8)) v41.2.2.f2,.bool v41.2.2.f3,.int .i64 v41.2.2.f4,.bool v41.2.2.f5,k1 v41.2.2.f6]]
abbrev hp24 (v6 : T64) (v16 : T78) : List AObj := [.cells 65 (c64 v6),.cells 79 [.str v16.f0,.int .i64 v16.f1,fzL 1 (cSl 1 (cInt .u8)) v16.f2,.bool v16.f3,.int .i64 v16.f4,.bool v16.f5,k1 v16.f6]]
abbrev hp25 (v9 : T78) : List AObj := [.cells 79 [.str v9.f0,.int .i64 v9.f1,fzL 1 (cSl 1 (cInt .u8)) v9.f2,.bool v9.f3,.int .i64 v9.f4,.bool v9.f5,k1 v9.f6]]
abbrev hp26 (v28 : List UInt8) (v29 : Int) (v30 : List Int) (v31 : Int) (v32 : Bool) (v33 : List UInt8) (v34 : Int) (v35 : List (List Int)) (v36 : Bool) (v37 : Int) (v38 : Bool) (v39 : List Int) : List AObj := [.cells 65 [.str v28,.int .i64 v29,k0 v30,.int .i64 v31,.bool v32],.cells 79 [.str v33,.int .i64 v34,fzL 1 (cSl 1 (cInt .u8)) v35,.bool v36,.int .i64 v37,.bool v38,k1 v39]]

noncomputable def f6_b1 (v2 : List T46) (v6 : T64) : Option (Unit ⊕ Out Bool Unit) :=
 cond (decide ((0 : Int) < (v2.length : Int))) (if (0 : Int) < (v2.length : Int) then (f28o (v2.getD 0 default) v6).bind fun v21 => none else none) (some (.inr (.go ())))

noncomputable def f6_b2 (v2 : List T46) (v27 : Int) (v28 : List UInt8) (v29 : Int) (v30 : List Int) (v31 : Int) (v32 : Bool) (v33 : List UInt8) (v34 : Int) (v35 : List (List Int)) (v36 : Bool) (v37 : Int) (v38 : Bool) (v39 : List Int) : Option ((Int × (List UInt8) × Int × (List Int) × Int × Bool × (List UInt8) × Int × (List (List Int)) × Bool × Int × Bool × (List Int)) ⊕ Out Bool Unit) :=
 cond (decide (v27 < (v2.length : Int))) (if (0 : Int) ≤ v27 ∧ v27 < (v2.length : Int) then (f28o (v2.getD v27.toNat default) (T64.mk v28 v29 v30 v31 v32)).bind fun v40 => if (0 : Int) ≤ v27 ∧ v27 < (v2.length : Int) then (f29o (v2.getD v27.toNat default) (T78.mk v33 v34 v35 v36 v37 v38 v39)).bind fun v41 => (cond (!((v40.1.map (fun n => UInt8.ofNat n.toNat)) == (v41.1.map (fun n => UInt8.ofNat n.toNat)))) (some true) (some (v40.2.1 != v41.2.1))).bind fun v42 => (cond v42 (some true) ((f27 v40.2.2 v41.2.2).bind fun v44 => some (!v44))).bind fun v43 => cond v43 (some (.inr (.ret false))) (some (.inl (w64 (v27 + (1 : Int)),v40.2.2.f0,v40.2.2.f1,v40.2.2.f2,v40.2.2.f3,v40.2.2.f4,v41.2.2.f0,v41.2.2.f1,v41.2.2.f2,v41.2.2.f3,v41.2.2.f4,v41.2.2.f5,v41.2.2.f6))) else none else none) (some (.inr (.go ())))

noncomputable def f6 (v1 : T32) (v2 : List T46) : Option Bool :=
 (f15 v1 v2).bind fun v3 => cond v3 ((f9 ).bind fun v4 => some v4) ((f16 v1.f0 v1.f1 v1.f2).bind fun v5 => match v5 with | (none,v7) => ((f26 v1.f0 v1.f1 v1.f2).bind fun v8 => match v8 with | (none,v10) => (cond (v7 != v10) (some true) (some (!((v7 == (0 : Int)) == false)))).bind fun v11 => cond v11 (some false) (cond (v7 != (0 : Int)) ((f9 ).bind fun v12 => some v12) none) | (some v9,v10) => (cond (v7 != v10) (some true) (some (!((v7 == (0 : Int)) == false)))).bind fun v13 => cond v13 (some false) (cond (v7 != (0 : Int)) ((f9 ).bind fun v14 => some v14) none)) | (some v6,v7) => (f26 v1.f0 v1.f1 v1.f2).bind fun v15 => match v15 with | (none,v17) => ((cond (v7 != v17) (some true) (some (!((v7 == (0 : Int)) == true)))).bind fun v18 => cond v18 (some false) (cond (v7 != (0 : Int)) ((f9 ).bind fun v19 => some v19) ((f27_z1 v6).bind fun v20 => cond (!v20) (some false) ((iter (fun _ => f6_b1 v2 v6) ()).bind fun y => match y with | .ret v22 => some v22 | .go _ => (f9 ).bind fun v23 => some v23)))) | (some v16,v17) => (cond (v7 != v17) (some true) (some (!((v7 == (0 : Int)) == true)))).bind fun v24 => cond v24 (some false) (cond (v7 != (0 : Int)) ((f9 ).bind fun v25 => some v25) ((f27 v6 v16).bind fun v26 => cond (!v26) (some false) ((iter (fun s => f6_b2 v2 s.1 s.2.1 s.2.2.1 s.2.2.2.1 s.2.2.2.2.1 s.2.2.2.2.2.1 s.2.2.2.2.2.2.1 s.2.2.2.2.2.2.2.1 s.2.2.2.2.2.2.2.2.1 s.2.2.2.2.2.2.2.2.2.1 s.2.2.2.2.2.2.2.2.2.2.1 s.2.2.2.2.2.2.2.2.2.2.2.1 s.2.2.2.2.2.2.2.2.2.2.2.2) ((0 : Int),v6.f0,v6.f1,v6.f2,v6.f3,v6.f4,v16.f0,v16.f1,v16.f2,v16.f3,v16.f4,v16.f5,v16.f6)).bind fun y => match y with | .ret v45 => some v45 | .go _ => (f9 ).bind fun v46 => some v46))))

theorem f6_ok (v1 : T32) (v2 : List T46) {r : Bool} (h : f6 v1 v2 = some r) : ACall Try.prog 6 [.agg [.str v1.f0,.int .i64 v1.f1,fzL 1 (cInt .u8) v1.f2],.tv (fzL 4 c46 v2)] [] (.tv (.bool r)) [] := by
 refine ACall.of1 (FF 96 0) Try.func6 rfl Try.ntmps6 Try.results6 (Nat.le_of_ble_eq_true rfl) rfl rfl ?_
 refine AWp.seq ?_
 refine AWp.start [0,1] [] [] [1,2] 1 ⟨[(1,q3 v2),(2,.pc 0 0)],[.cells 33 (c32 v1)]⟩ rfl ?_ z0 trivial ?_
 ·kernel_rfl
 refine AOps.nil ?_
 refine AWp.seq ?_
 refine AWp.seq ?_
 refine AWp.pin 0 rfl rfl ?_
 refine AWp.keepTo [1,2] 0 ⟨[(1,q3 v2),(2,.rp (c32 v1))],[]⟩ ?_ z0 ?_
 ·kernel_rfl
 refine AWp.start [0,1] [2] [] [1,2,14,15] 0 ⟨[(1,q3 v2),(2,.rp (c32 v1)),(14,.agg (c32 v1)),(15,q3 v2)],[]⟩ rfl ?_ z0 trivial ?_
 ·kernel_rfl
 obtain ⟨v3,hv3,h⟩ := of_bind h
 refine AOps.cons (AOne.callP (F := (FF 96 0)) _ rfl rfl rfl _ rfl rfl _ _ rfl Try.call15 [.agg (c32 v1),q3 v2] rfl rfl (f15_ok v1 v2 hv3) rfl) ?_
 refine AOps.keepTo [1,2,16] 0 ⟨[(1,q3 v2),(2,.rp (c32 v1)),(16,tB v3)],[]⟩ ?_ z0 ?_
 ·kernel_rfl
 refine AOps.nil ?_
 refine AWp.cond rfl (fun hb => ?_) fun hb => ?_
 ·replace h := of_true h hb
  refine AWp.keepTo [] 0 ⟨[],[]⟩ ?_ z0 ?_
  ·kernel_rfl
  refine AWp.seq ?_
  refine AWp.start [] [0,1] [] [] 0 ⟨[],[]⟩ rfl ?_ z0 trivial ?_
  ·kernel_rfl
  obtain ⟨v4,hv4,h⟩ := of_bind h
  refine AOps.cons (AOne.callP (F := (FF 96 0)) _ rfl rfl rfl _ rfl rfl _ _ rfl Try.call9 [] rfl rfl (f9_ok  hv4) rfl) ?_
  refine AOps.go [1] [] [] [4] 0 ⟨[(4,tB v4)],[]⟩ ?_ z0 trivial ?_
  ·kernel_rfl
  refine AOps.nil ?_
  refine AWp.ret ?_
  cases h
  exact ⟨.inr rfl,rfl⟩
 ·replace h := of_false h hb
  refine AWp.keepTo [1,2] 0 ⟨[(1,q3 v2),(2,.rp (c32 v1))],[]⟩ ?_ z0 ?_
  ·kernel_rfl
  refine AWp.skip ?_
  refine AWp.seq ?_
  refine AWp.start [0,1,2,3,4,5] [6,7,8,9,10,11] [] [1,2,20,22,24] 0 ⟨[(1,q3 v2),(2,.rp (c32 v1)),(20,tS v1.f0),(22,tI v1.f1),(24,q0 v1.f2)],[]⟩ rfl ?_ z0 trivial ?_
  ·kernel_rfl
  obtain ⟨v5,hv5,h⟩ := of_bind h
  rcases v5 with ⟨(_ | v6),v7⟩
  ·replace h : ((f26 v1.f0 v1.f1 v1.f2).bind fun v8 => match v8 with | (none,v10) => (cond (v7 != v10) (some true) (some (!((v7 == (0 : Int)) == false)))).bind fun v11 => cond v11 (some false) (cond (v7 != (0 : Int)) ((f9 ).bind fun v12 => some v12) none) | (some v9,v10) => (cond (v7 != v10) (some true) (some (!((v7 == (0 : Int)) == false)))).bind fun v13 => cond v13 (some false) (cond (v7 != (0 : Int)) ((f9 ).bind fun v14 => some v14) none)) = some r := h
   refine AOps.cons (AOne.callO (F := (FF 96 0)) _ rfl rfl rfl 25 rfl rfl 16 [] rfl Try.call16 [] (by decide) [tS v1.f0,tI v1.f1,q0 v1.f2] (by kernel_rfl) [] (by kernel_rfl) (f16_ok v1.f0 v1.f1 v1.f2 hv5) (by kernel_rfl) (by kernel_rfl) _ rfl) ?_
   refine AOps.go [7,8,9,10,11] [] [] [1,2,5,6] 0 ⟨[(1,q3 v2),(2,.rp (c32 v1)),(5,.tv (.sc (.pointer none))),(6,tI v7)],[]⟩ ?_ z0 trivial ?_
   ·kernel_rfl
   refine AOps.nil ?_
   refine AWp.seq ?_
   refine AWp.start [0,1,2,3,4,5] [6,7,8,9,10,11] [] [1,5,6,30,32,34] 0 ⟨[(1,q3 v2),(5,.tv (.sc (.pointer none))),(6,tI v7),(30,tS v1.f0),(32,tI v1.f1),(34,q0 v1.f2)],[]⟩ rfl ?_ z0 trivial ?_
   ·kernel_rfl
   obtain ⟨v8,hv8,h⟩ := of_bind h
   rcases v8 with ⟨(_ | v9),v10⟩
   ·replace h : ((cond (v7 != v10) (some true) (some (!((v7 == (0 : Int)) == false)))).bind fun v11 => cond v11 (some false) (cond (v7 != (0 : Int)) ((f9 ).bind fun v12 => some v12) none)) = some r := h
    refine AOps.cons (AOne.callO (F := (FF 96 0)) _ rfl rfl rfl 35 rfl rfl 26 [] rfl Try.call26 [] (by decide) [tS v1.f0,tI v1.f1,q0 v1.f2] (by kernel_rfl) [] (by kernel_rfl) (f26_ok v1.f0 v1.f1 v1.f2 hv8) (by kernel_rfl) (by kernel_rfl) _ rfl) ?_
    refine AOps.go [7,8,9,10,11] [] [] [1,5,6,7,8] 0 ⟨[(1,q3 v2),(5,.tv (.sc (.pointer none))),(6,tI v7),(7,.tv (.sc (.pointer none))),(8,tI v10)],[]⟩ ?_ z0 trivial ?_
    ·kernel_rfl
    refine AOps.nil ?_
    refine AWp.seq ?_
    refine AWp.seq ?_
    refine AWp.start [0,1,2,3] [4,5,6,7,8,9] [] [1,5,6,7,41] 0 ⟨[(1,q3 v2),(5,.tv (.sc (.pointer none))),(6,tI v7),(7,.tv (.sc (.pointer none))),(41,tB (v7 != v10))],[]⟩ rfl ?_ z0 trivial ?_
    ·kernel_rfl
    obtain ⟨v11,hc4,h⟩ := of_bind h
    refine AOps.cut [4,5,6,7,8,9] [] (fun σ => σ = ⟨[(1,q3 v2),(5,.tv (.sc (.pointer none))),(6,tI v7),(7,.tv (.sc (.pointer none))),(47,tB v11)],[]⟩) ?_ fun σ' hJ => ?_
    ·refine AOps.split (fun b => ⟨[(1,q3 v2),(5,.tv (.sc (.pointer none))),(6,tI v7),(7,.tv (.sc (.pointer none))),(41,tB b)],[]⟩) _ (fun hb => ?_) fun hb => ?_
     ·replace hc4 := of_true hc4 hb
      refine AOps.go [4,5,6,7,8,9] [] [] [1,5,6,7,47] 0 ⟨[(1,q3 v2),(5,.tv (.sc (.pointer none))),(6,tI v7),(7,.tv (.sc (.pointer none))),(47,tB true)],[]⟩ ?_ z0 trivial ?_
      ·kernel_rfl
      cases hc4
      exact AOps.nil rfl
     ·replace hc4 := of_false hc4 hb
      refine AOps.go [4,5,6,7,8,9] [] [] [1,5,6,7,47] 0 ⟨[(1,q3 v2),(5,.tv (.sc (.pointer none))),(6,tI v7),(7,.tv (.sc (.pointer none))),(47,tB (!((v7 == (0 : Int)) == false)))],[]⟩ ?_ z0 trivial ?_
      ·kernel_rfl
      cases hc4
      exact AOps.nil rfl
    subst hJ
    refine AOps.nil ?_
    refine AWp.cond rfl (fun hb => ?_) fun hb => ?_
    ·replace h := of_true h hb
     refine AWp.keepTo [] 0 ⟨[],[]⟩ ?_ z0 ?_
     ·kernel_rfl
     refine AWp.seq ?_
     refine AWp.start [0] [] [] [4] 0 ⟨[(4,tB false)],[]⟩ rfl ?_ z0 trivial ?_
     ·kernel_rfl
     refine AOps.nil ?_
     refine AWp.ret ?_
     cases h
     exact ⟨.inr rfl,rfl⟩
    ·replace h := of_false h hb
     refine AWp.keepTo [1,5,6,7] 0 ⟨[(1,q3 v2),(5,.tv (.sc (.pointer none))),(6,tI v7),(7,.tv (.sc (.pointer none)))],[]⟩ ?_ z0 ?_
     ·kernel_rfl
     refine AWp.skip ?_
     refine AWp.seq ?_
     refine AWp.seq ?_
     refine AWp.start [0,1] [] [] [1,5,7,49] 0 ⟨[(1,q3 v2),(5,.tv (.sc (.pointer none))),(7,.tv (.sc (.pointer none))),(49,tB (v7 != (0 : Int)))],[]⟩ rfl ?_ z0 trivial ?_
     ·kernel_rfl
     refine AOps.nil ?_
     refine AWp.cond rfl (fun hb => ?_) fun hb => ?_
     ·replace h := of_true h hb
      refine AWp.keepTo [] 0 ⟨[],[]⟩ ?_ z0 ?_
      ·kernel_rfl
      refine AWp.seq ?_
      refine AWp.start [] [0,1] [] [] 0 ⟨[],[]⟩ rfl ?_ z0 trivial ?_
      ·kernel_rfl
      obtain ⟨v12,hv12,h⟩ := of_bind h
      refine AOps.cons (AOne.callP (F := (FF 96 0)) _ rfl rfl rfl _ rfl rfl _ _ rfl Try.call9 [] rfl rfl (f9_ok  hv12) rfl) ?_
      refine AOps.go [1] [] [] [4] 0 ⟨[(4,tB v12)],[]⟩ ?_ z0 trivial ?_
      ·kernel_rfl
      refine AOps.nil ?_
      refine AWp.ret ?_
      cases h
      exact ⟨.inr rfl,rfl⟩
     ·replace h := of_false h hb
      refine AWp.keepTo [1,5,7] 0 ⟨[(1,q3 v2),(5,.tv (.sc (.pointer none))),(7,.tv (.sc (.pointer none)))],[]⟩ ?_ z0 ?_
      ·kernel_rfl
      refine AWp.skip ?_
      refine AWp.seq ?_
      refine AWp.seq ?_
      cases h
   ·replace h : ((cond (v7 != v10) (some true) (some (!((v7 == (0 : Int)) == false)))).bind fun v13 => cond v13 (some false) (cond (v7 != (0 : Int)) ((f9 ).bind fun v14 => some v14) none)) = some r := h
    refine AOps.cons (AOne.callO (F := (FF 96 0)) _ rfl rfl rfl 35 rfl rfl 26 [] rfl Try.call26 [] (by decide) [tS v1.f0,tI v1.f1,q0 v1.f2] (by kernel_rfl) [] (by kernel_rfl) (f26_ok v1.f0 v1.f1 v1.f2 hv8) (by kernel_rfl) (by kernel_rfl) _ rfl) ?_
    refine AOps.go [7,8,9,10,11] [] [] [1,5,6,7,8] 1 ⟨[(1,q3 v2),(5,.tv (.sc (.pointer none))),(6,tI v7),(7,.pc 0 0),(8,tI v10)],hp25 v9⟩ ?_ z0 trivial ?_
    ·kernel_rfl
    refine AOps.nil ?_
    refine AWp.seq ?_
    refine AWp.seq ?_
    refine AWp.start [0,1,2,3] [4,5,6,7,8,9] [] [1,5,6,7,41] 1 ⟨[(1,q3 v2),(5,.tv (.sc (.pointer none))),(6,tI v7),(7,.pc 0 0),(41,tB (v7 != v10))],hp25 v9⟩ rfl ?_ z0 trivial ?_
    ·kernel_rfl
    obtain ⟨v13,hc4,h⟩ := of_bind h
    refine AOps.cut [4,5,6,7,8,9] [] (fun σ => σ = ⟨[(1,q3 v2),(5,.tv (.sc (.pointer none))),(6,tI v7),(7,.pc 0 0),(47,tB v13)],hp25 v9⟩) ?_ fun σ' hJ => ?_
    ·refine AOps.split (fun b => ⟨[(1,q3 v2),(5,.tv (.sc (.pointer none))),(6,tI v7),(7,.pc 0 0),(41,tB b)],hp25 v9⟩) _ (fun hb => ?_) fun hb => ?_
     ·replace hc4 := of_true hc4 hb
      refine AOps.go [4,5,6,7,8,9] [] [] [1,5,6,7,47] 1 ⟨[(1,q3 v2),(5,.tv (.sc (.pointer none))),(6,tI v7),(7,.pc 0 0),(47,tB true)],hp25 v9⟩ ?_ z0 trivial ?_
      ·kernel_rfl
      cases hc4
      exact AOps.nil rfl
     ·replace hc4 := of_false hc4 hb
      refine AOps.go [4,5,6,7,8,9] [] [] [1,5,6,7,47] 1 ⟨[(1,q3 v2),(5,.tv (.sc (.pointer none))),(6,tI v7),(7,.pc 0 0),(47,tB (!((v7 == (0 : Int)) == false)))],hp25 v9⟩ ?_ z0 trivial ?_
      ·kernel_rfl
      cases hc4
      exact AOps.nil rfl
    subst hJ
    refine AOps.nil ?_
    refine AWp.cond rfl (fun hb => ?_) fun hb => ?_
    ·replace h := of_true h hb
     refine AWp.keepTo [] 0 ⟨[],[]⟩ ?_ z0 ?_
     ·kernel_rfl
     refine AWp.seq ?_
     refine AWp.start [0] [] [] [4] 0 ⟨[(4,tB false)],[]⟩ rfl ?_ z0 trivial ?_
     ·kernel_rfl
     refine AOps.nil ?_
     refine AWp.ret ?_
     cases h
     exact ⟨.inr rfl,rfl⟩
    ·replace h := of_false h hb
     refine AWp.keepTo [1,5,6,7] 1 ⟨[(1,q3 v2),(5,.tv (.sc (.pointer none))),(6,tI v7),(7,.pc 0 0)],hp25 v9⟩ ?_ z0 ?_
     ·kernel_rfl
     refine AWp.skip ?_
     refine AWp.seq ?_
     refine AWp.seq ?_
     refine AWp.start [0,1] [] [] [1,5,7,49] 1 ⟨[(1,q3 v2),(5,.tv (.sc (.pointer none))),(7,.pc 0 0),(49,tB (v7 != (0 : Int)))],hp25 v9⟩ rfl ?_ z0 trivial ?_
     ·kernel_rfl
     refine AOps.nil ?_
     refine AWp.cond rfl (fun hb => ?_) fun hb => ?_
     ·replace h := of_true h hb
      refine AWp.keepTo [] 0 ⟨[],[]⟩ ?_ z0 ?_
      ·kernel_rfl
      refine AWp.seq ?_
      refine AWp.start [] [0,1] [] [] 0 ⟨[],[]⟩ rfl ?_ z0 trivial ?_
      ·kernel_rfl
      obtain ⟨v14,hv14,h⟩ := of_bind h
      refine AOps.cons (AOne.callP (F := (FF 96 0)) _ rfl rfl rfl _ rfl rfl _ _ rfl Try.call9 [] rfl rfl (f9_ok  hv14) rfl) ?_
      refine AOps.go [1] [] [] [4] 0 ⟨[(4,tB v14)],[]⟩ ?_ z0 trivial ?_
      ·kernel_rfl
      refine AOps.nil ?_
      refine AWp.ret ?_
      cases h
      exact ⟨.inr rfl,rfl⟩
     ·replace h := of_false h hb
      refine AWp.keepTo [1,5,7] 1 ⟨[(1,q3 v2),(5,.tv (.sc (.pointer none))),(7,.pc 0 0)],hp25 v9⟩ ?_ z0 ?_
      ·kernel_rfl
      refine AWp.skip ?_
      refine AWp.seq ?_
      refine AWp.seq ?_
      cases h
  ·replace h : ((f26 v1.f0 v1.f1 v1.f2).bind fun v15 => match v15 with | (none,v17) => ((cond (v7 != v17) (some true) (some (!((v7 == (0 : Int)) == true)))).bind fun v18 => cond v18 (some false) (cond (v7 != (0 : Int)) ((f9 ).bind fun v19 => some v19) ((f27_z1 v6).bind fun v20 => cond (!v20) (some false) ((iter (fun _ => f6_b1 v2 v6) ()).bind fun y => match y with | .ret v22 => some v22 | .go _ => (f9 ).bind fun v23 => some v23)))) | (some v16,v17) => (cond (v7 != v17) (some true) (some (!((v7 == (0 : Int)) == true)))).bind fun v24 => cond v24 (some false) (cond (v7 != (0 : Int)) ((f9 ).bind fun v25 => some v25) ((f27 v6 v16).bind fun v26 => cond (!v26) (some false) ((iter (fun s => f6_b2 v2 s.1 s.2.1 s.2.2.1 s.2.2.2.1 s.2.2.2.2.1 s.2.2.2.2.2.1 s.2.2.2.2.2.2.1 s.2.2.2.2.2.2.2.1 s.2.2.2.2.2.2.2.2.1 s.2.2.2.2.2.2.2.2.2.1 s.2.2.2.2.2.2.2.2.2.2.1 s.2.2.2.2.2.2.2.2.2.2.2.1 s.2.2.2.2.2.2.2.2.2.2.2.2) ((0 : Int),v6.f0,v6.f1,v6.f2,v6.f3,v6.f4,v16.f0,v16.f1,v16.f2,v16.f3,v16.f4,v16.f5,v16.f6)).bind fun y => match y with | .ret v45 => some v45 | .go _ => (f9 ).bind fun v46 => some v46)))) = some r := h
   refine AOps.cons (AOne.callO (F := (FF 96 0)) _ rfl rfl rfl 25 rfl rfl 16 [] rfl Try.call16 [] (by decide) [tS v1.f0,tI v1.f1,q0 v1.f2] (by kernel_rfl) [] (by kernel_rfl) (f16_ok v1.f0 v1.f1 v1.f2 hv5) (by kernel_rfl) (by kernel_rfl) _ rfl) ?_
   refine AOps.go [7,8,9,10,11] [] [] [1,2,5,6] 1 ⟨[(1,q3 v2),(2,.rp (c32 v1)),(5,.pc 0 0),(6,tI v7)],[.cells 65 (c64 v6)]⟩ ?_ z0 trivial ?_
   ·kernel_rfl
   refine AOps.nil ?_
   refine AWp.seq ?_
   refine AWp.start [0,1,2,3,4,5] [6,7,8,9,10,11] [] [1,5,6,30,32,34] 1 ⟨[(1,q3 v2),(5,.pc 0 0),(6,tI v7),(30,tS v1.f0),(32,tI v1.f1),(34,q0 v1.f2)],[.cells 65 (c64 v6)]⟩ rfl ?_ z0 trivial ?_
   ·kernel_rfl
   obtain ⟨v15,hv15,h⟩ := of_bind h
   rcases v15 with ⟨(_ | v16),v17⟩
   ·replace h : ((cond (v7 != v17) (some true) (some (!((v7 == (0 : Int)) == true)))).bind fun v18 => cond v18 (some false) (cond (v7 != (0 : Int)) ((f9 ).bind fun v19 => some v19) ((f27_z1 v6).bind fun v20 => cond (!v20) (some false) ((iter (fun _ => f6_b1 v2 v6) ()).bind fun y => match y with | .ret v22 => some v22 | .go _ => (f9 ).bind fun v23 => some v23)))) = some r := h
    refine AOps.cons (AOne.callO (F := (FF 96 0)) _ rfl rfl rfl 35 rfl rfl 26 [] rfl Try.call26 [] (by decide) [tS v1.f0,tI v1.f1,q0 v1.f2] (by kernel_rfl) [] (by kernel_rfl) (f26_ok v1.f0 v1.f1 v1.f2 hv15) (by kernel_rfl) (by kernel_rfl) _ rfl) ?_
    refine AOps.go [7,8,9,10,11] [] [] [1,5,6,7,8] 1 ⟨[(1,q3 v2),(5,.pc 0 0),(6,tI v7),(7,.tv (.sc (.pointer none))),(8,tI v17)],[.cells 65 (c64 v6)]⟩ ?_ z0 trivial ?_
    ·kernel_rfl
    refine AOps.nil ?_
    refine AWp.seq ?_
    refine AWp.seq ?_
    refine AWp.start [0,1,2,3] [4,5,6,7,8,9] [] [1,5,6,7,41] 1 ⟨[(1,q3 v2),(5,.pc 0 0),(6,tI v7),(7,.tv (.sc (.pointer none))),(41,tB (v7 != v17))],[.cells 65 (c64 v6)]⟩ rfl ?_ z0 trivial ?_
    ·kernel_rfl
    obtain ⟨v18,hc4,h⟩ := of_bind h
    refine AOps.cut [4,5,6,7,8,9] [] (fun σ => σ = ⟨[(1,q3 v2),(5,.pc 0 0),(6,tI v7),(7,.tv (.sc (.pointer none))),(47,tB v18)],[.cells 65 (c64 v6)]⟩) ?_ fun σ' hJ => ?_
    ·refine AOps.split (fun b => ⟨[(1,q3 v2),(5,.pc 0 0),(6,tI v7),(7,.tv (.sc (.pointer none))),(41,tB b)],[.cells 65 (c64 v6)]⟩) _ (fun hb => ?_) fun hb => ?_
     ·replace hc4 := of_true hc4 hb
      refine AOps.go [4,5,6,7,8,9] [] [] [1,5,6,7,47] 1 ⟨[(1,q3 v2),(5,.pc 0 0),(6,tI v7),(7,.tv (.sc (.pointer none))),(47,tB true)],[.cells 65 (c64 v6)]⟩ ?_ z0 trivial ?_
      ·kernel_rfl
      cases hc4
      exact AOps.nil rfl
     ·replace hc4 := of_false hc4 hb
      refine AOps.go [4,5,6,7,8,9] [] [] [1,5,6,7,47] 1 ⟨[(1,q3 v2),(5,.pc 0 0),(6,tI v7),(7,.tv (.sc (.pointer none))),(47,tB (!((v7 == (0 : Int)) == true)))],[.cells 65 (c64 v6)]⟩ ?_ z0 trivial ?_
      ·kernel_rfl
      cases hc4
      exact AOps.nil rfl
    subst hJ
    refine AOps.nil ?_
    refine AWp.cond rfl (fun hb => ?_) fun hb => ?_
    ·replace h := of_true h hb
     refine AWp.keepTo [] 0 ⟨[],[]⟩ ?_ z0 ?_
     ·kernel_rfl
     refine AWp.seq ?_
     refine AWp.start [0] [] [] [4] 0 ⟨[(4,tB false)],[]⟩ rfl ?_ z0 trivial ?_
     ·kernel_rfl
     refine AOps.nil ?_
     refine AWp.ret ?_
     cases h
     exact ⟨.inr rfl,rfl⟩
    ·replace h := of_false h hb
     refine AWp.keepTo [1,5,6,7] 1 ⟨[(1,q3 v2),(5,.pc 0 0),(6,tI v7),(7,.tv (.sc (.pointer none)))],[.cells 65 (c64 v6)]⟩ ?_ z0 ?_
     ·kernel_rfl
     refine AWp.skip ?_
     refine AWp.seq ?_
     refine AWp.seq ?_
     refine AWp.start [0,1] [] [] [1,5,7,49] 1 ⟨[(1,q3 v2),(5,.pc 0 0),(7,.tv (.sc (.pointer none))),(49,tB (v7 != (0 : Int)))],[.cells 65 (c64 v6)]⟩ rfl ?_ z0 trivial ?_
     ·kernel_rfl
     refine AOps.nil ?_
     refine AWp.cond rfl (fun hb => ?_) fun hb => ?_
     ·replace h := of_true h hb
      refine AWp.keepTo [] 0 ⟨[],[]⟩ ?_ z0 ?_
      ·kernel_rfl
      refine AWp.seq ?_
      refine AWp.start [] [0,1] [] [] 0 ⟨[],[]⟩ rfl ?_ z0 trivial ?_
      ·kernel_rfl
      obtain ⟨v19,hv19,h⟩ := of_bind h
      refine AOps.cons (AOne.callP (F := (FF 96 0)) _ rfl rfl rfl _ rfl rfl _ _ rfl Try.call9 [] rfl rfl (f9_ok  hv19) rfl) ?_
      refine AOps.go [1] [] [] [4] 0 ⟨[(4,tB v19)],[]⟩ ?_ z0 trivial ?_
      ·kernel_rfl
      refine AOps.nil ?_
      refine AWp.ret ?_
      cases h
      exact ⟨.inr rfl,rfl⟩
     ·replace h := of_false h hb
      refine AWp.keepTo [1,5,7] 1 ⟨[(1,q3 v2),(5,.pc 0 0),(7,.tv (.sc (.pointer none)))],[.cells 65 (c64 v6)]⟩ ?_ z0 ?_
      ·kernel_rfl
      refine AWp.skip ?_
      refine AWp.seq ?_
      refine AWp.seq ?_
      refine AWp.start [0,1] [2,3] [] [1,5,7,51,52] 1 ⟨[(1,q3 v2),(5,.pc 0 0),(7,.tv (.sc (.pointer none))),(51,.pc 0 0),(52,.tv (.sc (.pointer none)))],[.cells 65 (c64 v6)]⟩ rfl ?_ z0 trivial ?_
      ·kernel_rfl
      obtain ⟨v20,hv20,h⟩ := of_bind h
      refine AOps.cons (AOne.callR (F := (FF 96 0)) _ rfl rfl rfl _ rfl rfl _ _ rfl Try.call27 [] [.rp (c64 v6),.tv (.sc (.pointer none))] rfl trivial (f27_z1_ok v6 hv20) (ind_of rfl) rfl) ?_
      refine AOps.go [3] [] [] [1,5,7,54] 1 ⟨[(1,q3 v2),(5,.pc 0 0),(7,.tv (.sc (.pointer none))),(54,tB (!v20))],[.cells 65 (c64 v6)]⟩ ?_ z0 trivial ?_
      ·kernel_rfl
      refine AOps.nil ?_
      refine AWp.cond rfl (fun hb => ?_) fun hb => ?_
      ·replace h := of_true h hb
       refine AWp.keepTo [] 0 ⟨[],[]⟩ ?_ z0 ?_
       ·kernel_rfl
       refine AWp.seq ?_
       refine AWp.start [0] [] [] [4] 0 ⟨[(4,tB false)],[]⟩ rfl ?_ z0 trivial ?_
       ·kernel_rfl
       refine AOps.nil ?_
       refine AWp.ret ?_
       cases h
       exact ⟨.inr rfl,rfl⟩
      ·replace h := of_false h hb
       refine AWp.keepTo [1,5,7] 1 ⟨[(1,q3 v2),(5,.pc 0 0),(7,.tv (.sc (.pointer none)))],[.cells 65 (c64 v6)]⟩ ?_ z0 ?_
       ·kernel_rfl
       refine AWp.skip ?_
       refine AWp.seq ?_
       refine AWp.seq ?_
       refine AWp.start [0] [] [] [1,5,7,9] 1 ⟨[(1,q3 v2),(5,.pc 0 0),(7,.tv (.sc (.pointer none))),(9,tI (0 : Int))],[.cells 65 (c64 v6)]⟩ rfl ?_ z0 trivial ?_
       ·kernel_rfl
       refine AOps.nil ?_
       refine AWp.block ?_
       obtain ⟨y,hy,h⟩ := of_bind h
       refine AWp.mono (AWp.loop (S := Unit) (Y := Out Bool Unit) (fun _ => ⟨[(1,q3 v2),(5,.pc 0 0),(7,.tv (.sc (.pointer none))),(9,tI (0 : Int))],[.cells 65 (c64 v6)]⟩) (fun _ => f6_b1 v2 v6) (fun y e σ => match y with | .ret r => e = .ret ∧ σ = ⟨[(4,tB r)],[]⟩ | .go v => e = .exit 0 ∧ σ = ⟨[],[]⟩) ?_ hy) ?_
       ·rintro ⟨⟩ o h
        refine AWp.seq ?_
        refine AWp.seq ?_
        refine AWp.start [0,1,2,3] [] [] [1,5,7,9,58] 1 ⟨[(1,q3 v2),(5,.pc 0 0),(7,.tv (.sc (.pointer none))),(9,tI (0 : Int)),(58,tB (decide ((0 : Int) < (v2.length : Int))))],[.cells 65 (c64 v6)]⟩ rfl ?_ z0 trivial ?_
        ·kernel_rfl
        refine AOps.nil ?_
        refine AWp.cond rfl (fun hb => ?_) fun hb => ?_
        ·replace h := of_true h hb
         refine AWp.keepTo [1,5,7,9] 1 ⟨[(1,q3 v2),(5,.pc 0 0),(7,.tv (.sc (.pointer none))),(9,tI (0 : Int))],[.cells 65 (c64 v6)]⟩ ?_ z0 ?_
         ·kernel_rfl
         refine AWp.skip ?_
         refine AWp.seq ?_
         refine AWp.block ?_
         refine AWp.seq ?_
         obtain ⟨hg,h⟩ := of_guard h
         refine AWp.start [0,1,2,3,4] [5,6,7,8,9,10] [(0 : Int) ≤ (0 : Int),(0 : Int) < (v2.length : Int)] [1,5,7,9,62,66] 1 ⟨[(1,q3 v2),(5,.pc 0 0),(7,.tv (.sc (.pointer none))),(9,tI (0 : Int)),(62,.pc 0 0),(66,.agg (c46 (v2.getD 0 default)))],[.cells 65 (c64 v6)]⟩ rfl ?_ z0 ⟨(by decide : (0 : Int) ≤ (0 : Int)),hg⟩ ?_
         ·kernel_rfl
         obtain ⟨v21,hv21,h⟩ := of_bind h
         refine AOps.cons (AOne.callO (F := (FF 96 0)) _ rfl rfl rfl 67 rfl rfl 28 [] rfl Try.call28 [0] (by decide) [.pc 0 0,.agg (c46 (v2.getD 0 default))] (by kernel_rfl) [.cells 65 (c64 v6)] (by kernel_rfl) (f28o_ok (v2.getD 0 default) v6 hv21) (by kernel_rfl) (by kernel_rfl) _ rfl) ?_
         refine AOps.go [6,7,8,9,10] [] [] [1,5,7,9,10,11] 1 ⟨[(1,q3 v2),(5,.pc 0 0),(7,.tv (.sc (.pointer none))),(9,tI (0 : Int)),(10,q0 v21.1),(11,tI v21.2.1)],[.cells 65 [.str v21.2.2.f0,.int .i64 v21.2.2.f1,k0 v21.2.2.f2,.int .i64 v21.2.2.f3,.bool v21.2.2.f4]]⟩ ?_ z0 trivial ?_
         ·kernel_rfl
         refine AOps.nil ?_
         refine AWp.seq ?_
         cases h
        ·replace h := of_false h hb
         refine AWp.keepTo [] 0 ⟨[],[]⟩ ?_ z0 ?_
         ·kernel_rfl
         refine AWp.exit ?_
         cases h
         exact Or.inr ⟨_,rfl,by simp,rfl,rfl⟩
       ·intro e σ hp
        rcases y with v22 | _
        ·obtain ⟨rfl,rfl⟩ := hp
         cases h
         exact ⟨.inr rfl,rfl⟩
        ·obtain ⟨rfl,rfl⟩ := hp
         refine AWp.seq ?_
         refine AWp.start [] [0,1] [] [] 0 ⟨[],[]⟩ rfl ?_ z0 trivial ?_
         ·kernel_rfl
         obtain ⟨v23,hv23,h⟩ := of_bind h
         refine AOps.cons (AOne.callP (F := (FF 96 0)) _ rfl rfl rfl _ rfl rfl _ _ rfl Try.call9 [] rfl rfl (f9_ok  hv23) rfl) ?_
         refine AOps.go [1] [] [] [4] 0 ⟨[(4,tB v23)],[]⟩ ?_ z0 trivial ?_
         ·kernel_rfl
         refine AOps.nil ?_
         refine AWp.ret ?_
         cases h
         exact ⟨.inr rfl,rfl⟩
   ·replace h : ((cond (v7 != v17) (some true) (some (!((v7 == (0 : Int)) == true)))).bind fun v24 => cond v24 (some false) (cond (v7 != (0 : Int)) ((f9 ).bind fun v25 => some v25) ((f27 v6 v16).bind fun v26 => cond (!v26) (some false) ((iter (fun s => f6_b2 v2 s.1 s.2.1 s.2.2.1 s.2.2.2.1 s.2.2.2.2.1 s.2.2.2.2.2.1 s.2.2.2.2.2.2.1 s.2.2.2.2.2.2.2.1 s.2.2.2.2.2.2.2.2.1 s.2.2.2.2.2.2.2.2.2.1 s.2.2.2.2.2.2.2.2.2.2.1 s.2.2.2.2.2.2.2.2.2.2.2.1 s.2.2.2.2.2.2.2.2.2.2.2.2) ((0 : Int),v6.f0,v6.f1,v6.f2,v6.f3,v6.f4,v16.f0,v16.f1,v16.f2,v16.f3,v16.f4,v16.f5,v16.f6)).bind fun y => match y with | .ret v45 => some v45 | .go _ => (f9 ).bind fun v46 => some v46)))) = some r := h
    refine AOps.cons (AOne.callO (F := (FF 96 0)) _ rfl rfl rfl 35 rfl rfl 26 [] rfl Try.call26 [] (by decide) [tS v1.f0,tI v1.f1,q0 v1.f2] (by kernel_rfl) [] (by kernel_rfl) (f26_ok v1.f0 v1.f1 v1.f2 hv15) (by kernel_rfl) (by kernel_rfl) _ rfl) ?_
    refine AOps.go [7,8,9,10,11] [] [] [1,5,6,7,8] 2 ⟨[(1,q3 v2),(5,.pc 0 0),(6,tI v7),(7,.pc 1 0),(8,tI v17)],hp24 v6 v16⟩ ?_ z0 trivial ?_
    ·kernel_rfl
    refine AOps.nil ?_
    refine AWp.seq ?_
    refine AWp.seq ?_
    refine AWp.start [0,1,2,3] [4,5,6,7,8,9] [] [1,5,6,7,41] 2 ⟨[(1,q3 v2),(5,.pc 0 0),(6,tI v7),(7,.pc 1 0),(41,tB (v7 != v17))],hp24 v6 v16⟩ rfl ?_ z0 trivial ?_
    ·kernel_rfl
    obtain ⟨v24,hc4,h⟩ := of_bind h
    refine AOps.cut [4,5,6,7,8,9] [] (fun σ => σ = ⟨[(1,q3 v2),(5,.pc 0 0),(6,tI v7),(7,.pc 1 0),(47,tB v24)],hp24 v6 v16⟩) ?_ fun σ' hJ => ?_
    ·refine AOps.split (fun b => ⟨[(1,q3 v2),(5,.pc 0 0),(6,tI v7),(7,.pc 1 0),(41,tB b)],hp24 v6 v16⟩) _ (fun hb => ?_) fun hb => ?_
     ·replace hc4 := of_true hc4 hb
      refine AOps.go [4,5,6,7,8,9] [] [] [1,5,6,7,47] 2 ⟨[(1,q3 v2),(5,.pc 0 0),(6,tI v7),(7,.pc 1 0),(47,tB true)],hp24 v6 v16⟩ ?_ z0 trivial ?_
      ·kernel_rfl
      cases hc4
      exact AOps.nil rfl
     ·replace hc4 := of_false hc4 hb
      refine AOps.go [4,5,6,7,8,9] [] [] [1,5,6,7,47] 2 ⟨[(1,q3 v2),(5,.pc 0 0),(6,tI v7),(7,.pc 1 0),(47,tB (!((v7 == (0 : Int)) == true)))],hp24 v6 v16⟩ ?_ z0 trivial ?_
      ·kernel_rfl
      cases hc4
      exact AOps.nil rfl
    subst hJ
    refine AOps.nil ?_
    refine AWp.cond rfl (fun hb => ?_) fun hb => ?_
    ·replace h := of_true h hb
     refine AWp.keepTo [] 0 ⟨[],[]⟩ ?_ z0 ?_
     ·kernel_rfl
     refine AWp.seq ?_
     refine AWp.start [0] [] [] [4] 0 ⟨[(4,tB false)],[]⟩ rfl ?_ z0 trivial ?_
     ·kernel_rfl
     refine AOps.nil ?_
     refine AWp.ret ?_
     cases h
     exact ⟨.inr rfl,rfl⟩
    ·replace h := of_false h hb
     refine AWp.keepTo [1,5,6,7] 2 ⟨[(1,q3 v2),(5,.pc 0 0),(6,tI v7),(7,.pc 1 0)],hp24 v6 v16⟩ ?_ z0 ?_
     ·kernel_rfl
     refine AWp.skip ?_
     refine AWp.seq ?_
     refine AWp.seq ?_
     refine AWp.start [0,1] [] [] [1,5,7,49] 2 ⟨[(1,q3 v2),(5,.pc 0 0),(7,.pc 1 0),(49,tB (v7 != (0 : Int)))],hp24 v6 v16⟩ rfl ?_ z0 trivial ?_
     ·kernel_rfl
     refine AOps.nil ?_
     refine AWp.cond rfl (fun hb => ?_) fun hb => ?_
     ·replace h := of_true h hb
      refine AWp.keepTo [] 0 ⟨[],[]⟩ ?_ z0 ?_
      ·kernel_rfl
      refine AWp.seq ?_
      refine AWp.start [] [0,1] [] [] 0 ⟨[],[]⟩ rfl ?_ z0 trivial ?_
      ·kernel_rfl
      obtain ⟨v25,hv25,h⟩ := of_bind h
      refine AOps.cons (AOne.callP (F := (FF 96 0)) _ rfl rfl rfl _ rfl rfl _ _ rfl Try.call9 [] rfl rfl (f9_ok  hv25) rfl) ?_
      refine AOps.go [1] [] [] [4] 0 ⟨[(4,tB v25)],[]⟩ ?_ z0 trivial ?_
      ·kernel_rfl
      refine AOps.nil ?_
      refine AWp.ret ?_
      cases h
      exact ⟨.inr rfl,rfl⟩
     ·replace h := of_false h hb
      refine AWp.keepTo [1,5,7] 2 ⟨[(1,q3 v2),(5,.pc 0 0),(7,.pc 1 0)],hp24 v6 v16⟩ ?_ z0 ?_
      ·kernel_rfl
      refine AWp.skip ?_
      refine AWp.seq ?_
      refine AWp.seq ?_
      refine AWp.start [0,1] [2,3] [] [1,5,7,51,52] 2 ⟨[(1,q3 v2),(5,.pc 0 0),(7,.pc 1 0),(51,.pc 0 0),(52,.pc 1 0)],hp24 v6 v16⟩ rfl ?_ z0 trivial ?_
      ·kernel_rfl
      obtain ⟨v26,hv26,h⟩ := of_bind h
      refine AOps.cons (AOne.callR (F := (FF 96 0)) _ rfl rfl rfl _ rfl rfl _ _ rfl Try.call27 [PlainTo v16.f6.length (fun i => (cInt .u8) (v16.f6.getD i default))] [.rp (c64 v6),.rp (c78 v16)] rfl (fun _ _ => rfl) (f27_ok v6 v16 hv26) (ind_of rfl) rfl) ?_
      refine AOps.go [3] [] [] [1,5,7,54] 2 ⟨[(1,q3 v2),(5,.pc 0 0),(7,.pc 1 0),(54,tB (!v26))],hp24 v6 v16⟩ ?_ z0 trivial ?_
      ·kernel_rfl
      refine AOps.nil ?_
      refine AWp.cond rfl (fun hb => ?_) fun hb => ?_
      ·replace h := of_true h hb
       refine AWp.keepTo [] 0 ⟨[],[]⟩ ?_ z0 ?_
       ·kernel_rfl
       refine AWp.seq ?_
       refine AWp.start [0] [] [] [4] 0 ⟨[(4,tB false)],[]⟩ rfl ?_ z0 trivial ?_
       ·kernel_rfl
       refine AOps.nil ?_
       refine AWp.ret ?_
       cases h
       exact ⟨.inr rfl,rfl⟩
      ·replace h := of_false h hb
       refine AWp.keepTo [1,5,7] 2 ⟨[(1,q3 v2),(5,.pc 0 0),(7,.pc 1 0)],hp24 v6 v16⟩ ?_ z0 ?_
       ·kernel_rfl
       refine AWp.skip ?_
       refine AWp.seq ?_
       refine AWp.seq ?_
       refine AWp.start [0] [] [] [1,5,7,9] 2 ⟨[(1,q3 v2),(5,.pc 0 0),(7,.pc 1 0),(9,tI (0 : Int))],hp24 v6 v16⟩ rfl ?_ z0 trivial ?_
       ·kernel_rfl
       refine AOps.nil ?_
       refine AWp.block ?_
       obtain ⟨y,hy,h⟩ := of_bind h
       refine AWp.mono (AWp.loop (S := Int × (List UInt8) × Int × (List Int) × Int × Bool × (List UInt8) × Int × (List (List Int)) × Bool × Int × Bool × (List Int)) (Y := Out Bool Unit) (fun s => ⟨[(1,q3 v2),(5,.pc 0 0),(7,.pc 1 0),(9,tI s.1)],[.cells 65 [.str s.2.1,.int .i64 s.2.2.1,k0 s.2.2.2.1,.int .i64 s.2.2.2.2.1,.bool s.2.2.2.2.2.1],.cells 79 [.str s.2.2.2.2.2.2.1,.int .i64 s.2.2.2.2.2.2.2.1,fzL 1 (cSl 1 (cInt .u8)) s.2.2.2.2.2.2.2.2.1,.bool s.2.2.2.2.2.2.2.2.2.1,.int .i64 s.2.2.2.2.2.2.2.2.2.2.1,.bool s.2.2.2.2.2.2.2.2.2.2.2.1,k1 s.2.2.2.2.2.2.2.2.2.2.2.2]]⟩) (fun s => f6_b2 v2 s.1 s.2.1 s.2.2.1 s.2.2.2.1 s.2.2.2.2.1 s.2.2.2.2.2.1 s.2.2.2.2.2.2.1 s.2.2.2.2.2.2.2.1 s.2.2.2.2.2.2.2.2.1 s.2.2.2.2.2.2.2.2.2.1 s.2.2.2.2.2.2.2.2.2.2.1 s.2.2.2.2.2.2.2.2.2.2.2.1 s.2.2.2.2.2.2.2.2.2.2.2.2) (fun y e σ => match y with | .ret r => e = .ret ∧ σ = ⟨[(4,tB r)],[]⟩ | .go v => e = .exit 0 ∧ σ = ⟨[],[]⟩) ?_ hy) ?_
       ·rintro ⟨v27,v28,v29,v30,v31,v32,v33,v34,v35,v36,v37,v38,v39⟩ o h
        refine AWp.seq ?_
        refine AWp.seq ?_
        refine AWp.start [0,1,2,3] [] [] [1,5,7,9,58] 2 ⟨[(1,q3 v2),(5,.pc 0 0),(7,.pc 1 0),(9,tI v27),(58,tB (decide (v27 < (v2.length : Int))))],hp26 v28 v29 v30 v31 v32 v33 v34 v35 v36 v37 v38 v39⟩ rfl ?_ z0 trivial ?_
        ·kernel_rfl
        refine AOps.nil ?_
        refine AWp.cond rfl (fun hb => ?_) fun hb => ?_
        ·replace h := of_true h hb
         refine AWp.keepTo [1,5,7,9] 2 ⟨[(1,q3 v2),(5,.pc 0 0),(7,.pc 1 0),(9,tI v27)],hp26 v28 v29 v30 v31 v32 v33 v34 v35 v36 v37 v38 v39⟩ ?_ z0 ?_
         ·kernel_rfl
         refine AWp.skip ?_
         refine AWp.seq ?_
         refine AWp.block ?_
         refine AWp.seq ?_
         obtain ⟨hg,h⟩ := of_guard h
         refine AWp.start [0,1,2,3,4] [5,6,7,8,9,10] [(0 : Int) ≤ v27,v27 < (v2.length : Int)] [1,5,7,9,62,66] 2 ⟨[(1,q3 v2),(5,.pc 0 0),(7,.pc 1 0),(9,tI v27),(62,.pc 0 0),(66,.agg (c46 (gD v2 v27)))],hp26 v28 v29 v30 v31 v32 v33 v34 v35 v36 v37 v38 v39⟩ rfl ?_ z0 ⟨hg.1,hg.2⟩ ?_
         ·kernel_rfl
         obtain ⟨v40,hv40,h⟩ := of_bind h
         refine AOps.cons (AOne.callO (F := (FF 96 0)) _ rfl rfl rfl 67 rfl rfl 28 [] rfl Try.call28 [0] (by decide) [.pc 0 0,.agg (c46 (gD v2 v27))] (by kernel_rfl) [.cells 65 [.str v28,.int .i64 v29,k0 v30,.int .i64 v31,.bool v32]] (by kernel_rfl) (f28o_ok (gD v2 v27) (T64.mk v28 v29 v30 v31 v32) hv40) (by kernel_rfl) (by kernel_rfl) _ rfl) ?_
         refine AOps.go [6,7,8,9,10] [] [] [1,5,7,9,10,11] 2 ⟨[(1,q3 v2),(5,.pc 0 0),(7,.pc 1 0),(9,tI v27),(10,q0 v40.1),(11,tI v40.2.1)],[.cells 65 [.str v40.2.2.f0,.int .i64 v40.2.2.f1,k0 v40.2.2.f2,.int .i64 v40.2.2.f3,.bool v40.2.2.f4],.cells 79 [.str v33,.int .i64 v34,fzL 1 (cSl 1 (cInt .u8)) v35,.bool v36,.int .i64 v37,.bool v38,k1 v39]]⟩ ?_ z0 trivial ?_
         ·kernel_rfl
         refine AOps.nil ?_
         refine AWp.seq ?_
         obtain ⟨hg,h⟩ := of_guard h
         refine AWp.start [0,1,2,3,4] [5,6,7,8,9,10] [(0 : Int) ≤ v27,v27 < (v2.length : Int)] [1,5,7,9,10,11,71,75] 2 ⟨[(1,q3 v2),(5,.pc 0 0),(7,.pc 1 0),(9,tI v27),(10,q0 v40.1),(11,tI v40.2.1),(71,.pc 1 0),(75,.agg (c46 (gD v2 v27)))],[.cells 65 [.str v40.2.2.f0,.int .i64 v40.2.2.f1,k0 v40.2.2.f2,.int .i64 v40.2.2.f3,.bool v40.2.2.f4],.cells 79 [.str v33,.int .i64 v34,fzL 1 (cSl 1 (cInt .u8)) v35,.bool v36,.int .i64 v37,.bool v38,k1 v39]]⟩ rfl ?_ z0 ⟨hg.1,hg.2⟩ ?_
         ·kernel_rfl
         obtain ⟨v41,hv41,h⟩ := of_bind h
         refine AOps.cons (AOne.callO (F := (FF 96 0)) _ rfl rfl rfl 76 rfl rfl 29 [] rfl Try.call29 [1] (by decide) [.pc 0 0,.agg (c46 (gD v2 v27))] (by kernel_rfl) [.cells 79 [.str v33,.int .i64 v34,fzL 1 (cSl 1 (cInt .u8)) v35,.bool v36,.int .i64 v37,.bool v38,k1 v39]] (by kernel_rfl) (f29o_ok (gD v2 v27) (T78.mk v33 v34 v35 v36 v37 v38 v39) hv41) (by kernel_rfl) (by kernel_rfl) _ rfl) ?_
         refine AOps.go [6,7,8,9,10] [] [] [1,5,7,9,10,11,12,13] 2 ⟨[(1,q3 v2),(5,.pc 0 0),(7,.pc 1 0),(9,tI v27),(10,q0 v40.1),(11,tI v40.2.1),(12,q0 v41.1),(13,tI v41.2.1)],hp23 v40 v41⟩ ?_ z0 trivial ?_
         ·kernel_rfl
         refine AOps.nil ?_
         refine AWp.seq ?_
         refine AWp.start [0] [1,2,3,4,5,6,7,8,9,10,11,12,13,14,15] [] [1,5,7,9,11,12,13,79] 2 ⟨[(1,q3 v2),(5,.pc 0 0),(7,.pc 1 0),(9,tI v27),(11,tI v40.2.1),(12,q0 v41.1),(13,tI v41.2.1),(79,q0 v40.1)],hp23 v40 v41⟩ rfl ?_ z0 trivial ?_
         ·kernel_rfl
         refine AOps.cons (AOne.str (F := (FF 96 0)) _ rfl rfl rfl _ rfl rfl rfl rfl rfl (n := v40.1.length) (f := (fun i => (cInt .u8) (v40.1.getD i default))) rfl v40.1 rfl (fun _ _ => rfl)) ?_
         refine AOps.go [2] [3,4,5,6,7,8,9,10,11,12,13,14,15] [] [1,5,7,9,11,13,80,81] 2 ⟨[(1,q3 v2),(5,.pc 0 0),(7,.pc 1 0),(9,tI v27),(11,tI v40.2.1),(13,tI v41.2.1),(80,tS (v40.1.map (fun n => UInt8.ofNat n.toNat))),(81,q0 v41.1)],hp23 v40 v41⟩ ?_ z0 trivial ?_
         ·kernel_rfl
         refine AOps.cons (AOne.str (F := (FF 96 0)) _ rfl rfl rfl _ rfl rfl rfl rfl rfl (n := v41.1.length) (f := (fun i => (cInt .u8) (v41.1.getD i default))) rfl v41.1 rfl (fun _ _ => rfl)) ?_
         refine AOps.go [4,5] [6,7,8,9,10,11,12,13,14,15] [] [1,5,7,9,11,13,84] 2 ⟨[(1,q3 v2),(5,.pc 0 0),(7,.pc 1 0),(9,tI v27),(11,tI v40.2.1),(13,tI v41.2.1),(84,tB (!((v40.1.map (fun n => UInt8.ofNat n.toNat)) == (v41.1.map (fun n => UInt8.ofNat n.toNat)))))],hp23 v40 v41⟩ ?_ z0 trivial ?_
         ·kernel_rfl
         obtain ⟨v42,hc6,h⟩ := of_bind h
         refine AOps.cut [6,7,8,9] [10,11,12,13,14,15] (fun σ => σ = ⟨[(1,q3 v2),(5,.pc 0 0),(7,.pc 1 0),(9,tI v27),(88,tB v42)],hp23 v40 v41⟩) ?_ fun σ' hJ => ?_
         ·refine AOps.split (fun b => ⟨[(1,q3 v2),(5,.pc 0 0),(7,.pc 1 0),(9,tI v27),(11,tI v40.2.1),(13,tI v41.2.1),(84,tB b)],hp23 v40 v41⟩) _ (fun hb => ?_) fun hb => ?_
          ·replace hc6 := of_true hc6 hb
           refine AOps.go [6,7,8,9] [] [] [1,5,7,9,88] 2 ⟨[(1,q3 v2),(5,.pc 0 0),(7,.pc 1 0),(9,tI v27),(88,tB true)],hp23 v40 v41⟩ ?_ z0 trivial ?_
           ·kernel_rfl
           cases hc6
           exact AOps.nil rfl
          ·replace hc6 := of_false hc6 hb
           refine AOps.go [6,7,8,9] [] [] [1,5,7,9,88] 2 ⟨[(1,q3 v2),(5,.pc 0 0),(7,.pc 1 0),(9,tI v27),(88,tB (v40.2.1 != v41.2.1))],hp23 v40 v41⟩ ?_ z0 trivial ?_
           ·kernel_rfl
           cases hc6
           exact AOps.nil rfl
         subst hJ
         refine AOps.go [10] [11,12,13,14,15] [] [1,5,7,9,89] 2 ⟨[(1,q3 v2),(5,.pc 0 0),(7,.pc 1 0),(9,tI v27),(89,tB v42)],hp23 v40 v41⟩ ?_ z0 trivial ?_
         ·kernel_rfl
         obtain ⟨v43,hc11,h⟩ := of_bind h
         refine AOps.cut [11,12,13,14,15] [] (fun σ => σ = ⟨[(1,q3 v2),(5,.pc 0 0),(7,.pc 1 0),(9,tI v27),(94,tB v43)],hp23 v40 v41⟩) ?_ fun σ' hJ => ?_
         ·refine AOps.split (fun b => ⟨[(1,q3 v2),(5,.pc 0 0),(7,.pc 1 0),(9,tI v27),(89,tB b)],hp23 v40 v41⟩) _ (fun hb => ?_) fun hb => ?_
          ·replace hc11 := of_true hc11 hb
           refine AOps.go [11,12,13,14,15] [] [] [1,5,7,9,94] 2 ⟨[(1,q3 v2),(5,.pc 0 0),(7,.pc 1 0),(9,tI v27),(94,tB true)],hp23 v40 v41⟩ ?_ z0 trivial ?_
           ·kernel_rfl
           cases hc11
           exact AOps.nil rfl
          ·replace hc11 := of_false hc11 hb
           refine AOps.go [11,12] [13,14,15] [] [1,5,7,9,89,90,91] 2 ⟨[(1,q3 v2),(5,.pc 0 0),(7,.pc 1 0),(9,tI v27),(89,tB false),(90,.pc 0 0),(91,.pc 1 0)],hp23 v40 v41⟩ ?_ z0 trivial ?_
           ·kernel_rfl
           obtain ⟨v44,hv44,hc11⟩ := of_bind hc11
           refine AOps.cons (AOne.callR (F := (FF 96 0)) _ rfl rfl rfl _ rfl rfl _ _ rfl Try.call27 [PlainTo v41.2.2.f6.length (fun i => (cInt .u8) (v41.2.2.f6.getD i default))] [.rp [.str v40.2.2.f0,.int .i64 v40.2.2.f1,k0 v40.2.2.f2,.int .i64 v40.2.2.f3,.bool v40.2.2.f4],.rp [.str v41.2.2.f0,.int .i64 v41.2.2.f1,fzL 1 (cSl 1 (cInt .u8)) v41.2.2.f2,.bool v41.2.2.f3,.int .i64 v41.2.2.f4,.bool v41.2.2.f5,k0 v41.2.2.f6]] rfl (fun _ _ => rfl) (f27_ok v40.2.2 v41.2.2 hv44) (ind_of rfl) rfl) ?_
           refine AOps.go [14,15] [] [] [1,5,7,9,94] 2 ⟨[(1,q3 v2),(5,.pc 0 0),(7,.pc 1 0),(9,tI v27),(94,tB (!v44))],hp23 v40 v41⟩ ?_ z0 trivial ?_
           ·kernel_rfl
           cases hc11
           exact AOps.nil rfl
         subst hJ
         refine AOps.nil ?_
         refine AWp.cond rfl (fun hb => ?_) fun hb => ?_
         ·replace h := of_true h hb
          refine AWp.keepTo [] 0 ⟨[],[]⟩ ?_ z0 ?_
          ·kernel_rfl
          refine AWp.seq ?_
          refine AWp.start [0] [] [] [4] 0 ⟨[(4,tB false)],[]⟩ rfl ?_ z0 trivial ?_
          ·kernel_rfl
          refine AOps.nil ?_
          refine AWp.ret ?_
          cases h
          exact Or.inr ⟨_,rfl,by simp,rfl,rfl⟩
         ·replace h := of_false h hb
          refine AWp.keepTo [1,5,7,9] 2 ⟨[(1,q3 v2),(5,.pc 0 0),(7,.pc 1 0),(9,tI v27)],hp23 v40 v41⟩ ?_ z0 ?_
          ·kernel_rfl
          refine AWp.skip ?_
          refine AWp.start [0,1,2] [] [] [1,5,7,9] 2 ⟨[(1,q3 v2),(5,.pc 0 0),(7,.pc 1 0),(9,tI (w64 (v27 + (1 : Int))))],hp23 v40 v41⟩ rfl ?_ z0 trivial ?_
          ·kernel_rfl
          refine AOps.nil ?_
          cases h
          exact Or.inl ⟨_,rfl,rfl,rfl⟩
        ·replace h := of_false h hb
         refine AWp.keepTo [] 0 ⟨[],[]⟩ ?_ z0 ?_
         ·kernel_rfl
         refine AWp.exit ?_
         cases h
         exact Or.inr ⟨_,rfl,by simp,rfl,rfl⟩
       ·intro e σ hp
        rcases y with v45 | _
        ·obtain ⟨rfl,rfl⟩ := hp
         cases h
         exact ⟨.inr rfl,rfl⟩
        ·obtain ⟨rfl,rfl⟩ := hp
         refine AWp.seq ?_
         refine AWp.start [] [0,1] [] [] 0 ⟨[],[]⟩ rfl ?_ z0 trivial ?_
         ·kernel_rfl
         obtain ⟨v46,hv46,h⟩ := of_bind h
         refine AOps.cons (AOne.callP (F := (FF 96 0)) _ rfl rfl rfl _ rfl rfl _ _ rfl Try.call9 [] rfl rfl (f9_ok  hv46) rfl) ?_
         refine AOps.go [1] [] [] [4] 0 ⟨[(4,tB v46)],[]⟩ ?_ z0 trivial ?_
         ·kernel_rfl
         refine AOps.nil ?_
         refine AWp.ret ?_
         cases h
         exact ⟨.inr rfl,rfl⟩

end Go.Sx.unit
