/- Printed by program (wip/gen): plain functions and their walks; no condition. -/
import Derived.Test.YtdmpmbcnfoionaaProg
import Derived.KernelRfl
import Derived.Test.YtdmpmbcnfoionaaSxD
namespace Go.Sx.unit
open Go Go.Sx Go.Proofs

structure T32 where
 f0:List UInt8
 f1:Int
 f2:List Int
 deriving Inhabited

def c32 (x:T32):List TV:=[.str x.f0,.int .i64 x.f1,fzL 1 (cInt .u8) x.f2]

structure T46 where
 f0:Int
 f1:Int
 f2:Int
 f3:List Int
 deriving Inhabited

def c46 (x:T46):List TV:=[.int .i64 x.f0,.int .i64 x.f1,.int .i64 x.f2,fzL 1 (cInt .u8) x.f3]

structure T64 where
 f0:List UInt8
 f1:Int
 f2:List Int
 f3:Int
 f4:Bool
 deriving Inhabited

def c64 (x:T64):List TV:=[.str x.f0,.int .i64 x.f1,fzL 1 (cInt .u8) x.f2,.int .i64 x.f3,.bool x.f4]

structure T78 where
 f0:List UInt8
 f1:Int
 f2:List (List Int)
 f3:Bool
 f4:Int
 f5:Bool
 f6:List Int
 deriving Inhabited

def c78 (x:T78):List TV:=[.str x.f0,.int .i64 x.f1,fzL 1 (cSl 1 (cInt .u8)) x.f2,.bool x.f3,.int .i64 x.f4,.bool x.f5,fzL 1 (cInt .u8) x.f6]

noncomputable def ti3:TI:=⟨Try.t3.desc,1,8,[(.int .i64 (0))],false⟩
theorem tiok3:TIOk Try.prog 3 ti3:=⟨by kernel_rfl,Try.t3,(.int .i64 (0)),by kernel_rfl,by kernel_rfl,by kernel_rfl,by kernel_rfl,by kernel_rfl,by kernel_rfl,by kernel_rfl,(fun _=>⟨rfl,fun _ h=>Value.noConfusion h⟩),(fun h=>Bool.noConfusion (show false = true from h))⟩
noncomputable def ti4:TI:=⟨Try.t4.desc,1,1,[(.bool false)],false⟩
theorem tiok4:TIOk Try.prog 4 ti4:=⟨by kernel_rfl,Try.t4,(.bool false),by kernel_rfl,by kernel_rfl,by kernel_rfl,by kernel_rfl,by kernel_rfl,by kernel_rfl,by kernel_rfl,(fun _=>⟨rfl,fun _ h=>Value.noConfusion h⟩),(fun h=>Bool.noConfusion (show false = true from h))⟩
noncomputable def ti5:TI:=⟨Try.t5.desc,1,1,[(.int .u8 (0))],false⟩
theorem tiok5:TIOk Try.prog 5 ti5:=⟨by kernel_rfl,Try.t5,(.int .u8 (0)),by kernel_rfl,by kernel_rfl,by kernel_rfl,by kernel_rfl,by kernel_rfl,by kernel_rfl,by kernel_rfl,(fun _=>⟨rfl,fun _ h=>Value.noConfusion h⟩),(fun h=>Bool.noConfusion (show false = true from h))⟩
noncomputable def ti9:TI:=⟨Try.t9.desc,1,16,[(.string ⟨#[]⟩)],false⟩
theorem tiok9:TIOk Try.prog 9 ti9:=⟨by kernel_rfl,Try.t9,(.string ⟨#[]⟩),by kernel_rfl,by kernel_rfl,by kernel_rfl,by kernel_rfl,by kernel_rfl,by kernel_rfl,by kernel_rfl,(fun _=>⟨rfl,fun _ h=>Value.noConfusion h⟩),(fun h=>Bool.noConfusion (show false = true from h))⟩
noncomputable def ti22:TI:=⟨Try.t22.desc,1,24,[(.slice none 0 0)],false⟩
theorem tiok22:TIOk Try.prog 22 ti22:=⟨by kernel_rfl,Try.t22,(.slice none 0 0),by kernel_rfl,by kernel_rfl,by kernel_rfl,by kernel_rfl,by kernel_rfl,by kernel_rfl,by kernel_rfl,(fun _=>⟨rfl,fun _ h=>Value.noConfusion h⟩),(fun h=>Bool.noConfusion (show false = true from h))⟩
noncomputable def ti23:TI:=⟨Try.t23.desc,1,24,[(.slice none 0 0)],false⟩
theorem tiok23:TIOk Try.prog 23 ti23:=⟨by kernel_rfl,Try.t23,(.slice none 0 0),by kernel_rfl,by kernel_rfl,by kernel_rfl,by kernel_rfl,by kernel_rfl,by kernel_rfl,by kernel_rfl,(fun _=>⟨rfl,fun _ h=>Value.noConfusion h⟩),(fun h=>Bool.noConfusion (show false = true from h))⟩
noncomputable def ti25:TI:=⟨Try.t3.desc,1,8,[(.int .i64 (0))],false⟩
theorem tiok25:TIOk Try.prog 25 ti25:=⟨by kernel_rfl,Try.t25,(.int .i64 (0)),by kernel_rfl,by kernel_rfl,by kernel_rfl,by kernel_rfl,by kernel_rfl,by kernel_rfl,by kernel_rfl,(fun _=>⟨rfl,fun _ h=>Value.noConfusion h⟩),(fun h=>Bool.noConfusion (show false = true from h))⟩
noncomputable def ti33:TI:=⟨Try.t32.desc,3,48,[(.string ⟨#[]⟩),(.int .i64 (0)),(.slice none 0 0)],false⟩
theorem tiok33:TIOk Try.prog 33 ti33:=⟨by kernel_rfl,Try.t33,(.agg #[(.string ⟨#[]⟩),(.int .i64 (0)),(.slice none 0 0)]),by kernel_rfl,by kernel_rfl,by kernel_rfl,by kernel_rfl,by kernel_rfl,by kernel_rfl,by kernel_rfl,(fun h=>Bool.noConfusion (show true = false from h)),(fun h=>Bool.noConfusion (show false = true from h))⟩
noncomputable def ti35:TI:=⟨Try.t35.desc,1,8,[(.pointer none)],false⟩
theorem tiok35:TIOk Try.prog 35 ti35:=⟨by kernel_rfl,Try.t35,(.pointer none),by kernel_rfl,by kernel_rfl,by kernel_rfl,by kernel_rfl,by kernel_rfl,by kernel_rfl,by kernel_rfl,(fun _=>⟨rfl,fun _ h=>Value.noConfusion h⟩),(fun h=>Bool.noConfusion (show false = true from h))⟩
noncomputable def ti47:TI:=⟨Try.t46.desc,4,48,[(.int .i64 (0)),(.int .i64 (0)),(.int .i64 (0)),(.slice none 0 0)],false⟩
theorem tiok47:TIOk Try.prog 47 ti47:=⟨by kernel_rfl,Try.t47,(.agg #[(.int .i64 (0)),(.int .i64 (0)),(.int .i64 (0)),(.slice none 0 0)]),by kernel_rfl,by kernel_rfl,by kernel_rfl,by kernel_rfl,by kernel_rfl,by kernel_rfl,by kernel_rfl,(fun h=>Bool.noConfusion (show true = false from h)),(fun h=>Bool.noConfusion (show false = true from h))⟩
noncomputable def ti48:TI:=⟨Try.t48.desc,1,24,[(.slice none 0 0)],false⟩
theorem tiok48:TIOk Try.prog 48 ti48:=⟨by kernel_rfl,Try.t48,(.slice none 0 0),by kernel_rfl,by kernel_rfl,by kernel_rfl,by kernel_rfl,by kernel_rfl,by kernel_rfl,by kernel_rfl,(fun _=>⟨rfl,fun _ h=>Value.noConfusion h⟩),(fun h=>Bool.noConfusion (show false = true from h))⟩
noncomputable def ti65:TI:=⟨Try.t64.desc,5,64,[(.string ⟨#[]⟩),(.int .i64 (0)),(.slice none 0 0),(.int .i64 (0)),(.bool false)],false⟩
theorem tiok65:TIOk Try.prog 65 ti65:=⟨by kernel_rfl,Try.t65,(.agg #[(.string ⟨#[]⟩),(.int .i64 (0)),(.slice none 0 0),(.int .i64 (0)),(.bool false)]),by kernel_rfl,by kernel_rfl,by kernel_rfl,by kernel_rfl,by kernel_rfl,by kernel_rfl,by kernel_rfl,(fun h=>Bool.noConfusion (show true = false from h)),(fun h=>Bool.noConfusion (show false = true from h))⟩
noncomputable def ti67:TI:=⟨Try.t67.desc,1,24,[(.slice none 0 0)],false⟩
theorem tiok67:TIOk Try.prog 67 ti67:=⟨by kernel_rfl,Try.t67,(.slice none 0 0),by kernel_rfl,by kernel_rfl,by kernel_rfl,by kernel_rfl,by kernel_rfl,by kernel_rfl,by kernel_rfl,(fun _=>⟨rfl,fun _ h=>Value.noConfusion h⟩),(fun h=>Bool.noConfusion (show false = true from h))⟩
noncomputable def ti79:TI:=⟨Try.t78.desc,7,96,[(.string ⟨#[]⟩),(.int .i64 (0)),(.slice none 0 0),(.bool false),(.int .i64 (0)),(.bool false),(.slice none 0 0)],false⟩
theorem tiok79:TIOk Try.prog 79 ti79:=⟨by kernel_rfl,Try.t79,(.agg #[(.string ⟨#[]⟩),(.int .i64 (0)),(.slice none 0 0),(.bool false),(.int .i64 (0)),(.bool false),(.slice none 0 0)]),by kernel_rfl,by kernel_rfl,by kernel_rfl,by kernel_rfl,by kernel_rfl,by kernel_rfl,by kernel_rfl,(fun h=>Bool.noConfusion (show true = false from h)),(fun h=>Bool.noConfusion (show false = true from h))⟩
noncomputable def TT:Tab:=[(3,ti3),(4,ti4),(5,ti5),(9,ti9),(22,ti22),(23,ti23),(25,ti25),(33,ti33),(35,ti35),(47,ti47),(48,ti48),(65,ti65),(67,ti67),(79,ti79)]
theorem hT:TabOk Try.prog TT:=TabOk.cons tiok3 (TabOk.cons tiok4 (TabOk.cons tiok5 (TabOk.cons tiok9 (TabOk.cons tiok22 (TabOk.cons tiok23 (TabOk.cons tiok25 (TabOk.cons tiok33 (TabOk.cons tiok35 (TabOk.cons tiok47 (TabOk.cons tiok48 (TabOk.cons tiok65 (TabOk.cons tiok67 (TabOk.cons tiok79 (TabOk.nil _))))))))))))))
noncomputable def FF (n h0:Nat):Cfg:=⟨Try.prog,TT,n,h0,hT⟩
theorem FFm:Try.prog.follows .mixedOrders = true:=by kernel_rfl

abbrev tI (n:Int):SV:=.tv (.int .i64 n)
abbrev tB (b:Bool):SV:=.tv (.bool b)
abbrev tS (s:List UInt8):SV:=.tv (.str s)
theorem z0 {n:Nat}:0 ≤ n:=Nat.zero_le n
theorem zz {n m:Nat} (h:Nat.ble n m = true):n ≤ m:=Nat.le_of_ble_eq_true h
abbrev gD {A:Type} [Inhabited A] (l:List A) (i:Int):A:=l.getD i.toNat default
abbrev q0 (l:List Int):SV:=.tv (fzL 1 (cInt .u8) l)
abbrev q1 (l:List Int):SV:=.tv (ownL 1 5 (cInt .u8) l)
abbrev q2 (l:List T46):SV:=.tv (fzL 4 c46 l)
abbrev k0 (l:List Int):TV:=fzL 1 (cInt .u8) l
abbrev k1 (l:List Int):TV:=ownL 1 5 (cInt .u8) l
abbrev k2 (l:List T46):TV:=fzL 4 c46 l
abbrev nS:TV:=.sc (.slice none 0 0)
abbrev y1:Bool:=true
abbrev n1:Bool:=false

noncomputable def f15_b1 (v2:List T46) (v3:Int):Option (Int ⊕ Out Bool Unit) :=
 cond (decide (v3 < (v2.length:Int))) (if (0:Int) ≤ v3 ∧ v3 < (v2.length:Int) then cond (decide ((((v2.getD v3.toNat default).f3).length:Int) > (21000:Int))) (some (.inr (.ret true))) (some (.inl (w64 (v3 + (1:Int))))) else none) (some (.inr (.go ())))

noncomputable def f15 (v1:T32) (v2:List T46):Option Bool :=
 (iter (fun s=>f15_b1 v2 s) (0:Int)).bind fun y=>match y with | .ret v4=>some v4 | .go _=>(cond (decide ((v2.length:Int) > (60:Int))) (some true) (some (decide ((v1.f2.length:Int) > (21000:Int))))).bind fun v5=>some v5

theorem f15_ok (v1:T32) (v2:List T46) {r:Bool} (h:f15 v1 v2 = some r):ACall Try.prog 15 [.agg [.str v1.f0,.int .i64 v1.f1,fzL 1 (cInt .u8) v1.f2],.tv (fzL 4 c46 v2)] [] (.tv (.bool r)) []:=by
 refine ACall.of1 (FF 28 0) Try.func15 rfl Try.ntmps15 Try.results15 (zz rfl) rfl rfl ?_
 refine AWp.seq ?_
 refine AWp.start [0,1] [] [] [1,2] 1 ⟨[(1,q2 v2),(2,.pc 0 0)],[.cells 33 (c32 v1)]⟩ rfl ?_ z0 trivial ?_
 ·kernel_rfl
 refine AOps.nil ?_
 refine AWp.seq ?_
 refine AWp.seq ?_
 refine AWp.pin 0 rfl rfl ?_
 refine AWp.keepTo [1,2] 0 ⟨[(1,q2 v2),(2,.rp (c32 v1))],[]⟩ ?_ z0 ?_
 ·kernel_rfl
 refine AWp.start [0] [] [] [1,2,5] 0 ⟨[(1,q2 v2),(2,.rp (c32 v1)),(5,tI (0:Int))],[]⟩ rfl ?_ z0 trivial ?_
 ·kernel_rfl
 refine AOps.nil ?_
 refine AWp.block ?_
 obtain ⟨y,hy,h⟩:=of_bind h
 refine AWp.mono (AWp.loop (S:=Int) (Y:=Out Bool Unit) (fun s=>⟨[(1,q2 v2),(2,.rp (c32 v1)),(5,tI s)],[]⟩) (fun s=>f15_b1 v2 s) (fun y e σ=>match y with | .ret r=>e = .ret ∧ σ = ⟨[(4,tB r)],[]⟩ | .go v=>e = .exit 0 ∧ σ = ⟨[(1,q2 v2),(2,.rp (c32 v1))],[]⟩) ?_ hy) ?_
 ·rintro v3 o h
  refine AWp.seq ?_
  refine AWp.seq ?_
  refine AWp.start [0,1,2,3] [] [] [1,2,5,9] 0 ⟨[(1,q2 v2),(2,.rp (c32 v1)),(5,tI v3),(9,tB (decide (v3 < (v2.length:Int))))],[]⟩ rfl ?_ z0 trivial ?_
  ·kernel_rfl
  refine AOps.nil ?_
  refine AWp.cond rfl (fun hb=>?_) fun hb=>?_
  ·replace h:=of_true h hb
   refine AWp.keepTo [1,2,5] 0 ⟨[(1,q2 v2),(2,.rp (c32 v1)),(5,tI v3)],[]⟩ ?_ z0 ?_
   ·kernel_rfl
   refine AWp.skip ?_
   refine AWp.seq ?_
   refine AWp.block ?_
   refine AWp.seq ?_
   obtain ⟨hg,h⟩:=of_guard h
   refine AWp.start [0,1,2,3,4,5,6] [] [(0:Int) ≤ v3,v3 < (v2.length:Int)] [1,2,5,18] 0 ⟨[(1,q2 v2),(2,.rp (c32 v1)),(5,tI v3),(18,tB (decide ((((gD v2 v3).f3).length:Int) > (21000:Int))))],[]⟩ rfl ?_ z0 ⟨hg.1,hg.2⟩ ?_
   ·kernel_rfl
   refine AOps.nil ?_
   refine AWp.cond rfl (fun hb=>?_) fun hb=>?_
   ·replace h:=of_true h hb
    refine AWp.keepTo [] 0 ⟨[],[]⟩ ?_ z0 ?_
    ·kernel_rfl
    refine AWp.seq ?_
    refine AWp.start [0] [] [] [4] 0 ⟨[(4,tB true)],[]⟩ rfl ?_ z0 trivial ?_
    ·kernel_rfl
    refine AOps.nil ?_
    refine AWp.ret ?_
    cases h
    exact Or.inr ⟨_,rfl,by simp,rfl,rfl⟩
   ·replace h:=of_false h hb
    refine AWp.keepTo [1,2,5] 0 ⟨[(1,q2 v2),(2,.rp (c32 v1)),(5,tI v3)],[]⟩ ?_ z0 ?_
    ·kernel_rfl
    refine AWp.skip ?_
    refine AWp.start [0,1,2] [] [] [1,2,5] 0 ⟨[(1,q2 v2),(2,.rp (c32 v1)),(5,tI (w64 (v3 + (1:Int))))],[]⟩ rfl ?_ z0 trivial ?_
    ·kernel_rfl
    refine AOps.nil ?_
    cases h
    exact Or.inl ⟨_,rfl,rfl,rfl⟩
  ·replace h:=of_false h hb
   refine AWp.keepTo [1,2] 0 ⟨[(1,q2 v2),(2,.rp (c32 v1))],[]⟩ ?_ z0 ?_
   ·kernel_rfl
   refine AWp.exit ?_
   cases h
   exact Or.inr ⟨_,rfl,by simp,rfl,rfl⟩
 ·intro e σ hp
  rcases y with v4 | _
  ·obtain ⟨rfl,rfl⟩:=hp
   cases h
   exact ⟨.inr rfl,rfl⟩
  ·obtain ⟨rfl,rfl⟩:=hp
   refine AWp.seq ?_
   refine AWp.start [0,1,2,3] [4,5,6,7,8,9] [] [2,22] 0 ⟨[(2,.rp (c32 v1)),(22,tB (decide ((v2.length:Int) > (60:Int))))],[]⟩ rfl ?_ z0 trivial ?_
   ·kernel_rfl
   obtain ⟨v5,hc4,h⟩:=of_bind h
   refine AOps.cut [4,5,6,7,8] [9] (fun σ=>σ = ⟨[(27,tB v5)],[]⟩) ?_ fun σ' hJ=>?_
   ·refine AOps.split (fun b=>⟨[(2,.rp (c32 v1)),(22,tB b)],[]⟩) _ (fun hb=>?_) fun hb=>?_
    ·replace hc4:=of_true hc4 hb
     refine AOps.go [4,5,6,7,8] [] [] [27] 0 ⟨[(27,tB true)],[]⟩ ?_ z0 trivial ?_
     ·kernel_rfl
     cases hc4
     exact AOps.nil rfl
    ·replace hc4:=of_false hc4 hb
     refine AOps.go [4,5,6,7,8] [] [] [27] 0 ⟨[(27,tB (decide ((v1.f2.length:Int) > (21000:Int))))],[]⟩ ?_ z0 trivial ?_
     ·kernel_rfl
     cases hc4
     exact AOps.nil rfl
   subst hJ
   refine AOps.go [9] [] [] [4] 0 ⟨[(4,tB v5)],[]⟩ ?_ z0 trivial ?_
   ·kernel_rfl
   refine AOps.nil ?_
   refine AWp.ret ?_
   cases h
   exact ⟨.inr rfl,rfl⟩

noncomputable def f43 (v1:List Int) (v2:Int):Option Int :=
 some (idxB v1 v2)

theorem f43_ok (v1:List Int) (v2:Int) {r:Int} (h:f43 v1 v2 = some r):ACall Try.prog 43 [.tv (fzL 1 (cInt .u8) v1),.tv (.int .u8 v2)] [] (.tv (.int .i64 r)) []:=by
 refine ACall.of1 (FF 8 0) Try.func43 rfl Try.ntmps43 Try.results43 (zz rfl) rfl rfl ?_
 refine AWp.seq ?_
 refine AWp.start [0] [] [] [0,1] 0 ⟨[(0,q0 v1),(1,.tv (.int .u8 v2))],[]⟩ rfl ?_ z0 trivial ?_
 ·kernel_rfl
 refine AOps.nil ?_
 refine AWp.seq ?_
 refine AWp.start [0,1] [2,3] [] [5,6] 0 ⟨[(5,q0 v1),(6,.tv (.int .u8 v2))],[]⟩ rfl ?_ z0 trivial ?_
 ·kernel_rfl
 refine AOps.cons (AOne.indexByte (F:=(FF 8 0)) _ rfl rfl rfl 7 rfl rfl rfl (fn:=Try.f62) (by kernel_rfl) (by kernel_rfl) rfl (by kernel_rfl) (by kernel_rfl) (n:=v1.length) (g0:=(fun i=>(cInt .u8) (v1.getD i default))) rfl rfl v1 rfl (fun _ _=>rfl)) ?_
 refine AOps.go [3] [] [] [4] 0 ⟨[(4,tI (idxB v1 v2))],[]⟩ ?_ z0 trivial ?_
 ·kernel_rfl
 refine AOps.nil ?_
 refine AWp.ret ?_
 cases h
 exact ⟨.inr rfl,rfl⟩

noncomputable def f60 (v1:List Int):Option Int :=
 if (0:Int) < (v1.length:Int) ∧ (1:Int) < (v1.length:Int) ∧ (2:Int) < (v1.length:Int) ∧ (3:Int) < (v1.length:Int) then some (w64 ((BitVec.ofInt (IntKind.bits .i64) (w64 ((BitVec.ofInt (IntKind.bits .i64) (w64 ((BitVec.ofInt (IntKind.bits .i64) (w64 ((w64 (v1.getD 0 default)) * (2:Int) ^ (min (Int.toNat (24:Int)) (IntKind.bits .i64)))) ||| BitVec.ofInt (IntKind.bits .i64) (w64 ((w64 (v1.getD 1 default)) * (2:Int) ^ (min (Int.toNat (16:Int)) (IntKind.bits .i64))))).toNat:Int)) ||| BitVec.ofInt (IntKind.bits .i64) (w64 ((w64 (v1.getD 2 default)) * (2:Int) ^ (min (Int.toNat (8:Int)) (IntKind.bits .i64))))).toNat:Int)) ||| BitVec.ofInt (IntKind.bits .i64) (w64 (v1.getD 3 default))).toNat:Int)) else none

theorem f60_ok (v1:List Int) {r:Int} (h:f60 v1 = some r):ACall Try.prog 60 [.tv (fzL 1 (cInt .u8) v1)] [] (.tv (.int .i64 r)) []:=by
 refine ACall.of1 (FF 25 0) Try.func60 rfl Try.ntmps60 Try.results60 (zz rfl) rfl rfl ?_
 refine AWp.seq ?_
 refine AWp.start [0] [] [] [0] 0 ⟨[(0,q0 v1)],[]⟩ rfl ?_ z0 trivial ?_
 ·kernel_rfl
 refine AOps.nil ?_
 refine AWp.seq ?_
 refine AWp.draw FFm _ (n:=23) rfl (ls:=#[n1,n1,n1,n1,n1,n1,n1,n1,n1,n1,n1,n1,n1,n1,n1,n1,n1,n1,n1,n1,n1,n1,n1]) rfl ?_ (fun _ h=>h)
 obtain ⟨hg,h⟩:=of_guard h
 refine AAny.go (by kernel_rfl) [0,1,2,3,4,5,6,7,8,9,10,11,12,13,14,15,16,17,18,19,20,21,22] (fuel':=0) rfl [(0:Int) ≤ (0:Int),(0:Int) < (v1.length:Int),(0:Int) ≤ (24:Int),(0:Int) ≤ (1:Int),(1:Int) < (v1.length:Int),(0:Int) ≤ (16:Int),(0:Int) ≤ (2:Int),(2:Int) < (v1.length:Int),(0:Int) ≤ (8:Int),(0:Int) ≤ (3:Int),(3:Int) < (v1.length:Int)] #[y1,y1,y1,y1,y1,y1,y1,y1,y1,y1,y1,y1,y1,y1,y1,y1,y1,y1,y1,y1,y1,y1,y1] [2] 0 ⟨[(2,tI (w64 ((BitVec.ofInt (IntKind.bits .i64) (w64 ((BitVec.ofInt (IntKind.bits .i64) (w64 ((BitVec.ofInt (IntKind.bits .i64) (w64 ((w64 (v1.getD 0 default)) * (2:Int) ^ (min (Int.toNat (24:Int)) (IntKind.bits .i64)))) ||| BitVec.ofInt (IntKind.bits .i64) (w64 ((w64 (v1.getD 1 default)) * (2:Int) ^ (min (Int.toNat (16:Int)) (IntKind.bits .i64))))).toNat:Int)) ||| BitVec.ofInt (IntKind.bits .i64) (w64 ((w64 (v1.getD 2 default)) * (2:Int) ^ (min (Int.toNat (8:Int)) (IntKind.bits .i64))))).toNat:Int)) ||| BitVec.ofInt (IntKind.bits .i64) (w64 (v1.getD 3 default))).toNat:Int)))],[]⟩ ?_ z0 ⟨(by decide:(0:Int) ≤ (0:Int)),hg.1,(by decide:(0:Int) ≤ (24:Int)),(by decide:(0:Int) ≤ (1:Int)),hg.2.1,(by decide:(0:Int) ≤ (16:Int)),(by decide:(0:Int) ≤ (2:Int)),hg.2.2.1,(by decide:(0:Int) ≤ (8:Int)),(by decide:(0:Int) ≤ (3:Int)),hg.2.2.2⟩ ?_
 ·kernel_rfl
 refine AAny.keepTo [2] 0 ⟨[(2,tI (w64 ((BitVec.ofInt (IntKind.bits .i64) (w64 ((BitVec.ofInt (IntKind.bits .i64) (w64 ((BitVec.ofInt (IntKind.bits .i64) (w64 ((w64 (v1.getD 0 default)) * (2:Int) ^ (min (Int.toNat (24:Int)) (IntKind.bits .i64)))) ||| BitVec.ofInt (IntKind.bits .i64) (w64 ((w64 (v1.getD 1 default)) * (2:Int) ^ (min (Int.toNat (16:Int)) (IntKind.bits .i64))))).toNat:Int)) ||| BitVec.ofInt (IntKind.bits .i64) (w64 ((w64 (v1.getD 2 default)) * (2:Int) ^ (min (Int.toNat (8:Int)) (IntKind.bits .i64))))).toNat:Int)) ||| BitVec.ofInt (IntKind.bits .i64) (w64 (v1.getD 3 default))).toNat:Int)))],[]⟩ _ ?_ rfl z0 (AAny.done (by kernel_rfl) ?_)
 ·kernel_rfl
 refine AWp.ret ?_
 cases h
 exact ⟨.inr rfl,rfl⟩

noncomputable def f36 (v1:List UInt8) (v2:List Int):Option ((List Int) × Int × Bool) :=
 cond ((v2.length:Int) == (0:Int)) (some (([]:List Int),(0:Int),false)) (cond (v1 == ([108,105,110,101,115]:List UInt8)) ((f43 v2 (10:Int)).bind fun v3=>cond (decide (v3 ≥ (0:Int))) (if (0:Int) ≤ v3 ∧ v3 ≤ (v2.length:Int) then some ((v2.take v3.toNat).drop 0,w64 (v3 + (1:Int)),true) else none) (some (v2,(v2.length:Int),true))) (cond (decide ((v2.length:Int) < (8:Int))) (some (([]:List Int),(0:Int),false)) ((f60 v2).bind fun v4=>(cond (decide (v4 > (1000:Int))) (some true) (some (decide ((v2.length:Int) < w64 (v4 + (8:Int)))))).bind fun v5=>(cond v5 (some true) (if (0:Int) ≤ w64 ((4:Int) + v4) ∧ w64 ((4:Int) + v4) ≤ (v2.length:Int) then (f60 ((v2.take (Int.toNat (v2.length:Int))).drop (Int.toNat (w64 ((4:Int) + v4))))).bind fun v7=>some (v7 != v4) else none)).bind fun v6=>cond v6 (some (([]:List Int),(0:Int),false)) (if (4:Int) ≤ w64 ((4:Int) + v4) ∧ w64 ((4:Int) + v4) ≤ (v2.length:Int) then some ((v2.take (Int.toNat (w64 ((4:Int) + v4)))).drop 4,w64 (v4 + (8:Int)),true) else none))))

theorem f36_ok (v1:List UInt8) (v2:List Int) {r:(List Int) × Int × Bool} (h:f36 v1 v2 = some r):ACall Try.prog 36 [.tv (.str v1),.tv (fzL 1 (cInt .u8) v2)] [] (.tup [.tv (fzL 1 (cInt .u8) r.1),.tv (.int .i64 r.2.1),.tv (.bool r.2.2)]) []:=by
 refine ACall.ofN (FF 54 0) (rs:=[4,5,6]) (env:=[(4,q0 r.1),(5,tI r.2.1),(6,tB r.2.2)]) Try.func36 rfl Try.ntmps36 Try.results36 (by decide) (by decide) rfl (zz rfl) rfl (get_ofN _ _ _ rfl) (ok_ofN _ rfl) ?_
 refine AWp.seq ?_
 refine AWp.start [0,1,2] [] [] [0,1] 0 ⟨[(0,tS v1),(1,q0 v2)],[]⟩ rfl ?_ z0 trivial ?_
 ·kernel_rfl
 refine AOps.nil ?_
 refine AWp.seq ?_
 refine AWp.seq ?_
 refine AWp.start [0,1,2] [] [] [0,1,10] 0 ⟨[(0,tS v1),(1,q0 v2),(10,tB ((v2.length:Int) == (0:Int)))],[]⟩ rfl ?_ z0 trivial ?_
 ·kernel_rfl
 refine AOps.nil ?_
 refine AWp.cond rfl (fun hb=>?_) fun hb=>?_
 ·replace h:=of_true h hb
  refine AWp.keepTo [] 0 ⟨[],[]⟩ ?_ z0 ?_
  ·kernel_rfl
  refine AWp.seq ?_
  refine AWp.start [0,1,2] [] [] [4,5,6] 0 ⟨[(4,.tv (.sc (.slice none 0 0))),(5,tI (0:Int)),(6,tB false)],[]⟩ rfl ?_ z0 trivial ?_
  ·kernel_rfl
  refine AOps.nil ?_
  refine AWp.nilFz 4 1 (fun i=>(cInt .u8) (([]:List Int).getD i default)) rfl ?_
  refine AWp.keepTo [4,5,6] 0 ⟨[(4,q0 ([]:List Int)),(5,tI (0:Int)),(6,tB false)],[]⟩ ?_ z0 ?_
  ·kernel_rfl
  refine AWp.ret ?_
  cases h
  exact ⟨.inr rfl,rfl⟩
 ·replace h:=of_false h hb
  refine AWp.keepTo [0,1] 0 ⟨[(0,tS v1),(1,q0 v2)],[]⟩ ?_ z0 ?_
  ·kernel_rfl
  refine AWp.skip ?_
  refine AWp.seq ?_
  refine AWp.seq ?_
  refine AWp.start [0,1] [] [] [1,12] 0 ⟨[(1,q0 v2),(12,tB (v1 == ([108,105,110,101,115]:List UInt8)))],[]⟩ rfl ?_ z0 trivial ?_
  ·kernel_rfl
  refine AOps.nil ?_
  refine AWp.cond rfl (fun hb=>?_) fun hb=>?_
  ·replace h:=of_true h hb
   refine AWp.keepTo [1] 0 ⟨[(1,q0 v2)],[]⟩ ?_ z0 ?_
   ·kernel_rfl
   refine AWp.seq ?_
   refine AWp.seq ?_
   refine AWp.start [0] [1,2] [] [1,13] 0 ⟨[(1,q0 v2),(13,q0 v2)],[]⟩ rfl ?_ z0 trivial ?_
   ·kernel_rfl
   obtain ⟨v3,hv3,h⟩:=of_bind h
   refine AOps.cons (AOne.callP (F:=(FF 54 0)) _ rfl rfl rfl _ rfl rfl _ _ rfl Try.call43 [q0 v2,.tv (.int .u8 (10:Int))] rfl rfl (f43_ok v2 (10:Int) hv3) rfl) ?_
   refine AOps.go [2] [] [] [1,7] 0 ⟨[(1,q0 v2),(7,tI v3)],[]⟩ ?_ z0 trivial ?_
   ·kernel_rfl
   refine AOps.nil ?_
   refine AWp.seq ?_
   refine AWp.start [0,1] [] [] [1,7,16] 0 ⟨[(1,q0 v2),(7,tI v3),(16,tB (decide (v3 ≥ (0:Int))))],[]⟩ rfl ?_ z0 trivial ?_
   ·kernel_rfl
   refine AOps.nil ?_
   refine AWp.cond rfl (fun hb=>?_) fun hb=>?_
   ·replace h:=of_true h hb
    refine AWp.keepTo [1,7] 0 ⟨[(1,q0 v2),(7,tI v3)],[]⟩ ?_ z0 ?_
    ·kernel_rfl
    refine AWp.seq ?_
    obtain ⟨hg,h⟩:=of_guard h
    refine AWp.start [0,1,2] [3,4,5,6,7] [(0:Int) ≤ (0:Int),(0:Int) ≤ v3,v3 ≤ (v2.length:Int)] [7,19] 0 ⟨[(7,tI v3),(19,.tv (.fz 1 (v3.toNat - 0) (fun i=>(cInt .u8) (v2.getD (0 + i) default))))],[]⟩ rfl ?_ z0 ⟨(by decide:(0:Int) ≤ (0:Int)),hg.1,hg.2⟩ ?_
    ·kernel_rfl
    have hb:v3.toNat ≤ v2.length:=by have hh:v3 ≤ (v2.length:Int):=hg.2; omega
    refine AOps.extFzL (s:=19) rfl (sub_len v2 0 v3.toNat hb) (sub_at (cInt .u8) v2 0 v3.toNat hb) ?_
    refine AOps.go [3,4,5,6,7] [] [] [4,5,6] 0 ⟨[(4,q0 ((v2.take v3.toNat).drop 0)),(5,tI (w64 (v3 + (1:Int)))),(6,tB true)],[]⟩ ?_ z0 trivial ?_
    ·kernel_rfl
    refine AOps.nil ?_
    refine AWp.ret ?_
    cases h
    exact ⟨.inr rfl,rfl⟩
   ·replace h:=of_false h hb
    refine AWp.keepTo [1] 0 ⟨[(1,q0 v2)],[]⟩ ?_ z0 ?_
    ·kernel_rfl
    refine AWp.skip ?_
    refine AWp.seq ?_
    refine AWp.start [0,1,2,3,4,5] [] [] [4,5,6] 0 ⟨[(4,q0 v2),(5,tI (v2.length:Int)),(6,tB true)],[]⟩ rfl ?_ z0 trivial ?_
    ·kernel_rfl
    refine AOps.nil ?_
    refine AWp.ret ?_
    cases h
    exact ⟨.inr rfl,rfl⟩
  ·replace h:=of_false h hb
   refine AWp.keepTo [1] 0 ⟨[(1,q0 v2)],[]⟩ ?_ z0 ?_
   ·kernel_rfl
   refine AWp.skip ?_
   refine AWp.seq ?_
   refine AWp.seq ?_
   refine AWp.start [0,1,2] [] [] [1,27] 0 ⟨[(1,q0 v2),(27,tB (decide ((v2.length:Int) < (8:Int))))],[]⟩ rfl ?_ z0 trivial ?_
   ·kernel_rfl
   refine AOps.nil ?_
   refine AWp.cond rfl (fun hb=>?_) fun hb=>?_
   ·replace h:=of_true h hb
    refine AWp.keepTo [] 0 ⟨[],[]⟩ ?_ z0 ?_
    ·kernel_rfl
    refine AWp.seq ?_
    refine AWp.start [0,1,2] [] [] [4,5,6] 0 ⟨[(4,.tv (.sc (.slice none 0 0))),(5,tI (0:Int)),(6,tB false)],[]⟩ rfl ?_ z0 trivial ?_
    ·kernel_rfl
    refine AOps.nil ?_
    refine AWp.nilFz 4 1 (fun i=>(cInt .u8) (([]:List Int).getD i default)) rfl ?_
    refine AWp.keepTo [4,5,6] 0 ⟨[(4,q0 ([]:List Int)),(5,tI (0:Int)),(6,tB false)],[]⟩ ?_ z0 ?_
    ·kernel_rfl
    refine AWp.ret ?_
    cases h
    exact ⟨.inr rfl,rfl⟩
   ·replace h:=of_false h hb
    refine AWp.keepTo [1] 0 ⟨[(1,q0 v2)],[]⟩ ?_ z0 ?_
    ·kernel_rfl
    refine AWp.skip ?_
    refine AWp.seq ?_
    refine AWp.start [0] [1,2] [] [1,28] 0 ⟨[(1,q0 v2),(28,q0 v2)],[]⟩ rfl ?_ z0 trivial ?_
    ·kernel_rfl
    obtain ⟨v4,hv4,h⟩:=of_bind h
    refine AOps.cons (AOne.callP (F:=(FF 54 0)) _ rfl rfl rfl _ rfl rfl _ _ rfl Try.call60 [q0 v2] rfl rfl (f60_ok v2 hv4) rfl) ?_
    refine AOps.go [2] [] [] [1,5] 0 ⟨[(1,q0 v2),(5,tI v4)],[]⟩ ?_ z0 trivial ?_
    ·kernel_rfl
    refine AOps.nil ?_
    refine AWp.seq ?_
    refine AWp.seq ?_
    refine AWp.start [0,1,2] [3,4,5,6,7,8,9,10,11,12,13,14,15,16,17] [] [1,5,32] 0 ⟨[(1,q0 v2),(5,tI v4),(32,tB (decide (v4 > (1000:Int))))],[]⟩ rfl ?_ z0 trivial ?_
    ·kernel_rfl
    obtain ⟨v5,hc3,h⟩:=of_bind h
    refine AOps.cut [3,4,5,6,7,8] [9,10,11,12,13,14,15,16,17] (fun σ=>σ = ⟨[(1,q0 v2),(5,tI v4),(38,tB v5)],[]⟩) ?_ fun σ' hJ=>?_
    ·refine AOps.split (fun b=>⟨[(1,q0 v2),(5,tI v4),(32,tB b)],[]⟩) _ (fun hb=>?_) fun hb=>?_
     ·replace hc3:=of_true hc3 hb
      refine AOps.go [3,4,5,6,7,8] [] [] [1,5,38] 0 ⟨[(1,q0 v2),(5,tI v4),(38,tB true)],[]⟩ ?_ z0 trivial ?_
      ·kernel_rfl
      cases hc3
      exact AOps.nil rfl
     ·replace hc3:=of_false hc3 hb
      refine AOps.go [3,4,5,6,7,8] [] [] [1,5,38] 0 ⟨[(1,q0 v2),(5,tI v4),(38,tB (decide ((v2.length:Int) < w64 (v4 + (8:Int)))))],[]⟩ ?_ z0 trivial ?_
      ·kernel_rfl
      cases hc3
      exact AOps.nil rfl
    subst hJ
    refine AOps.go [9] [10,11,12,13,14,15,16,17] [] [1,5,39] 0 ⟨[(1,q0 v2),(5,tI v4),(39,tB v5)],[]⟩ ?_ z0 trivial ?_
    ·kernel_rfl
    obtain ⟨v6,hc10,h⟩:=of_bind h
    refine AOps.cut [10,11,12,13,14,15,16,17] [] (fun σ=>σ = ⟨[(1,q0 v2),(5,tI v4),(47,tB v6)],[]⟩) ?_ fun σ' hJ=>?_
    ·refine AOps.split (fun b=>⟨[(1,q0 v2),(5,tI v4),(39,tB b)],[]⟩) _ (fun hb=>?_) fun hb=>?_
     ·replace hc10:=of_true hc10 hb
      refine AOps.go [10,11,12,13,14,15,16,17] [] [] [1,5,47] 0 ⟨[(1,q0 v2),(5,tI v4),(47,tB true)],[]⟩ ?_ z0 trivial ?_
      ·kernel_rfl
      cases hc10
      exact AOps.nil rfl
     ·replace hc10:=of_false hc10 hb
      obtain ⟨hg,hc10⟩:=of_guard hc10
      refine AOps.go [10,11,12,13] [14,15,16,17] [(0:Int) ≤ w64 ((4:Int) + v4),w64 ((4:Int) + v4) ≤ (v2.length:Int),(v2.length:Int) ≤ (v2.length:Int)] [1,5,39,43] 0 ⟨[(1,q0 v2),(5,tI v4),(39,tB false),(43,.tv (.fz 1 ((Int.toNat (v2.length:Int)) - (Int.toNat (w64 ((4:Int) + v4)))) (fun i=>(cInt .u8) (v2.getD ((Int.toNat (w64 ((4:Int) + v4))) + i) default))))],[]⟩ ?_ z0 ⟨hg.1,hg.2,(Int.le_refl (v2.length:Int))⟩ ?_
      ·kernel_rfl
      have hb:(Int.toNat (v2.length:Int)) ≤ v2.length:=by have hh:(v2.length:Int) ≤ (v2.length:Int):=(Int.le_refl (v2.length:Int)); omega
      refine AOps.extFzL (s:=43) rfl (sub_len v2 (Int.toNat (w64 ((4:Int) + v4))) (Int.toNat (v2.length:Int)) hb) (sub_at (cInt .u8) v2 (Int.toNat (w64 ((4:Int) + v4))) (Int.toNat (v2.length:Int)) hb) ?_
      obtain ⟨v7,hv7,hc10⟩:=of_bind hc10
      refine AOps.cons (AOne.callP (F:=(FF 54 0)) _ rfl rfl rfl _ rfl rfl _ _ rfl Try.call60 [q0 ((v2.take (Int.toNat (v2.length:Int))).drop (Int.toNat (w64 ((4:Int) + v4))))] rfl rfl (f60_ok ((v2.take (Int.toNat (v2.length:Int))).drop (Int.toNat (w64 ((4:Int) + v4)))) hv7) rfl) ?_
      refine AOps.go [15,16,17] [] [] [1,5,47] 0 ⟨[(1,q0 v2),(5,tI v4),(47,tB (v7 != v4))],[]⟩ ?_ z0 trivial ?_
      ·kernel_rfl
      cases hc10
      exact AOps.nil rfl
    subst hJ
    refine AOps.nil ?_
    refine AWp.cond rfl (fun hb=>?_) fun hb=>?_
    ·replace h:=of_true h hb
     refine AWp.keepTo [] 0 ⟨[],[]⟩ ?_ z0 ?_
     ·kernel_rfl
     refine AWp.seq ?_
     refine AWp.start [0,1,2] [] [] [4,5,6] 0 ⟨[(4,.tv (.sc (.slice none 0 0))),(5,tI (0:Int)),(6,tB false)],[]⟩ rfl ?_ z0 trivial ?_
     ·kernel_rfl
     refine AOps.nil ?_
     refine AWp.nilFz 4 1 (fun i=>(cInt .u8) (([]:List Int).getD i default)) rfl ?_
     refine AWp.keepTo [4,5,6] 0 ⟨[(4,q0 ([]:List Int)),(5,tI (0:Int)),(6,tB false)],[]⟩ ?_ z0 ?_
     ·kernel_rfl
     refine AWp.ret ?_
     cases h
     exact ⟨.inr rfl,rfl⟩
    ·replace h:=of_false h hb
     refine AWp.keepTo [1,5] 0 ⟨[(1,q0 v2),(5,tI v4)],[]⟩ ?_ z0 ?_
     ·kernel_rfl
     refine AWp.skip ?_
     refine AWp.seq ?_
     obtain ⟨hg,h⟩:=of_guard h
     refine AWp.start [0,1,2,3] [4,5,6,7,8] [(0:Int) ≤ (4:Int),(4:Int) ≤ w64 ((4:Int) + v4),w64 ((4:Int) + v4) ≤ (v2.length:Int)] [5,51] 0 ⟨[(5,tI v4),(51,.tv (.fz 1 ((Int.toNat (w64 ((4:Int) + v4))) - 4) (fun i=>(cInt .u8) (v2.getD (4 + i) default))))],[]⟩ rfl ?_ z0 ⟨(by decide:(0:Int) ≤ (4:Int)),hg.1,hg.2⟩ ?_
     ·kernel_rfl
     have hb:(Int.toNat (w64 ((4:Int) + v4))) ≤ v2.length:=by have hh:w64 ((4:Int) + v4) ≤ (v2.length:Int):=hg.2; omega
     refine AOps.extFzL (s:=51) rfl (sub_len v2 4 (Int.toNat (w64 ((4:Int) + v4))) hb) (sub_at (cInt .u8) v2 4 (Int.toNat (w64 ((4:Int) + v4))) hb) ?_
     refine AOps.go [4,5,6,7,8] [] [] [4,5,6] 0 ⟨[(4,q0 ((v2.take (Int.toNat (w64 ((4:Int) + v4)))).drop 4)),(5,tI (w64 (v4 + (8:Int)))),(6,tB true)],[]⟩ ?_ z0 trivial ?_
     ·kernel_rfl
     refine AOps.nil ?_
     refine AWp.ret ?_
     cases h
     exact ⟨.inr rfl,rfl⟩

noncomputable def f35_b1 (v1:List UInt8) (v2:List Int) (v3:List Int) (v4:Int):Option (((List Int) × Int) ⊕ Out ((List Int) × Bool) (List Int)) :=
 cond (decide (v4 < (v2.length:Int))) (if (0:Int) ≤ v4 ∧ v4 ≤ (v2.length:Int) then (f36 v1 ((v2.take (Int.toNat (v2.length:Int))).drop v4.toNat)).bind fun v6=>cond (!v6.2.2) (some (.inr (.ret (([]:List Int),false)))) (if (v3.length + [v4].length) * 8 ≤ 140737488355328 then some (.inl (v3 ++ [v4],w64 (v4 + v6.2.1))) else none) else none) (some (.inr (.go v3)))

noncomputable def f35 (v1:List UInt8) (v2:List Int):Option ((List Int) × Bool) :=
 (iter (fun s=>f35_b1 v1 v2 s.1 s.2) ([],(0:Int))).bind fun y=>match y with | .ret v7=>some (v7.1,v7.2) | .go v5=>some (v5,true)

theorem f35_ok (v1:List UInt8) (v2:List Int) {r:(List Int) × Bool} (h:f35 v1 v2 = some r):ACall Try.prog 35 [.tv (.str v1),.tv (fzL 1 (cInt .u8) v2)] [] (.tup [.tv (fzL 1 (cInt .i64) r.1),.tv (.bool r.2)]) []:=by
 refine ACall.ofN (FF 33 0) (rs:=[4,5]) (env:=[(4,.tv (fzL 1 (cInt .i64) r.1)),(5,tB r.2)]) Try.func35 rfl Try.ntmps35 Try.results35 (by decide) (by decide) rfl (zz rfl) rfl (get_ofN _ _ _ rfl) (ok_ofN _ rfl) ?_
 refine AWp.seq ?_
 refine AWp.start [0,1] [] [] [0,1,4] 0 ⟨[(0,tS v1),(1,q0 v2),(4,.tv (.sc (.slice none 0 0)))],[]⟩ rfl ?_ z0 trivial ?_
 ·kernel_rfl
 refine AOps.nil ?_
 refine AWp.seq ?_
 refine AWp.seq ?_
 refine AWp.start [0] [] [] [0,1,4,6] 0 ⟨[(0,tS v1),(1,q0 v2),(4,.tv (.sc (.slice none 0 0))),(6,tI (0:Int))],[]⟩ rfl ?_ z0 trivial ?_
 ·kernel_rfl
 refine AOps.nil ?_
 refine AWp.block ?_
 refine AWp.nilOwn 4 1 3 (fun i=>(cInt .i64) (([]:List Int).getD i default)) rfl ?_
 refine AWp.keepTo [0,1,4,6] 0 ⟨[(0,tS v1),(1,q0 v2),(4,.tv (ownL 1 3 (cInt .i64) ([]:List Int))),(6,tI (0:Int))],[]⟩ ?_ z0 ?_
 ·kernel_rfl
 obtain ⟨y,hy,h⟩:=of_bind h
 refine AWp.mono (AWp.loop (S:=(List Int) × Int) (Y:=Out ((List Int) × Bool) (List Int)) (fun s=>⟨[(0,tS v1),(1,q0 v2),(4,.tv (ownL 1 3 (cInt .i64) s.1)),(6,tI s.2)],[]⟩) (fun s=>f35_b1 v1 v2 s.1 s.2) (fun y e σ=>match y with | .ret r=>e = .ret ∧ σ = ⟨[(4,.tv (fzL 1 (cInt .i64) r.1)),(5,tB r.2)],[]⟩ | .go v=>e = .exit 0 ∧ σ = ⟨[(4,.tv (ownL 1 3 (cInt .i64) v))],[]⟩) ?_ hy) ?_
 ·rintro ⟨v3,v4⟩ o h
  refine AWp.seq ?_
  refine AWp.seq ?_
  refine AWp.start [0,1,2,3] [] [] [0,1,4,6,13] 0 ⟨[(0,tS v1),(1,q0 v2),(4,.tv (ownL 1 3 (cInt .i64) v3)),(6,tI v4),(13,tB (decide (v4 < (v2.length:Int))))],[]⟩ rfl ?_ z0 trivial ?_
  ·kernel_rfl
  refine AOps.nil ?_
  refine AWp.cond rfl (fun hb=>?_) fun hb=>?_
  ·replace h:=of_true h hb
   refine AWp.keepTo [0,1,4,6] 0 ⟨[(0,tS v1),(1,q0 v2),(4,.tv (ownL 1 3 (cInt .i64) v3)),(6,tI v4)],[]⟩ ?_ z0 ?_
   ·kernel_rfl
   refine AWp.skip ?_
   refine AWp.block ?_
   refine AWp.seq ?_
   obtain ⟨hg,h⟩:=of_guard h
   refine AWp.start [0,1,2,3] [4,5,6,7,8,9,10,11] [(0:Int) ≤ v4,v4 ≤ (v2.length:Int),(v2.length:Int) ≤ (v2.length:Int)] [0,1,4,6,15,18] 0 ⟨[(0,tS v1),(1,q0 v2),(4,.tv (ownL 1 3 (cInt .i64) v3)),(6,tI v4),(15,tS v1),(18,.tv (.fz 1 ((Int.toNat (v2.length:Int)) - v4.toNat) (fun i=>(cInt .u8) (v2.getD (v4.toNat + i) default))))],[]⟩ rfl ?_ z0 ⟨hg.1,hg.2,(Int.le_refl (v2.length:Int))⟩ ?_
   ·kernel_rfl
   have hb:(Int.toNat (v2.length:Int)) ≤ v2.length:=by have hh:(v2.length:Int) ≤ (v2.length:Int):=(Int.le_refl (v2.length:Int)); omega
   refine AOps.extFzL (s:=18) rfl (sub_len v2 v4.toNat (Int.toNat (v2.length:Int)) hb) (sub_at (cInt .u8) v2 v4.toNat (Int.toNat (v2.length:Int)) hb) ?_
   obtain ⟨v6,hv6,h⟩:=of_bind h
   refine AOps.cons (AOne.callP (F:=(FF 33 0)) _ rfl rfl rfl _ rfl rfl _ _ rfl Try.call36 [tS v1,q0 ((v2.take (Int.toNat (v2.length:Int))).drop v4.toNat)] rfl rfl (f36_ok v1 ((v2.take (Int.toNat (v2.length:Int))).drop v4.toNat) hv6) rfl) ?_
   refine AOps.go [5,6,7,8,9,10,11] [] [] [0,1,4,6,8,9] 0 ⟨[(0,tS v1),(1,q0 v2),(4,.tv (ownL 1 3 (cInt .i64) v3)),(6,tI v4),(8,tI v6.2.1),(9,tB v6.2.2)],[]⟩ ?_ z0 trivial ?_
   ·kernel_rfl
   refine AOps.nil ?_
   refine AWp.seq ?_
   refine AWp.seq ?_
   refine AWp.start [0,1] [] [] [0,1,4,6,8,24] 0 ⟨[(0,tS v1),(1,q0 v2),(4,.tv (ownL 1 3 (cInt .i64) v3)),(6,tI v4),(8,tI v6.2.1),(24,tB (!v6.2.2))],[]⟩ rfl ?_ z0 trivial ?_
   ·kernel_rfl
   refine AOps.nil ?_
   refine AWp.cond rfl (fun hb=>?_) fun hb=>?_
   ·replace h:=of_true h hb
    refine AWp.keepTo [] 0 ⟨[],[]⟩ ?_ z0 ?_
    ·kernel_rfl
    refine AWp.seq ?_
    refine AWp.start [0,1] [] [] [4,5] 0 ⟨[(4,.tv (.sc (.slice none 0 0))),(5,tB false)],[]⟩ rfl ?_ z0 trivial ?_
    ·kernel_rfl
    refine AOps.nil ?_
    refine AWp.nilFz 4 1 (fun i=>(cInt .i64) (([]:List Int).getD i default)) rfl ?_
    refine AWp.keepTo [4,5] 0 ⟨[(4,.tv (fzL 1 (cInt .i64) ([]:List Int))),(5,tB false)],[]⟩ ?_ z0 ?_
    ·kernel_rfl
    refine AWp.ret ?_
    cases h
    exact Or.inr ⟨_,rfl,by simp,rfl,rfl⟩
   ·replace h:=of_false h hb
    refine AWp.keepTo [0,1,4,6,8] 0 ⟨[(0,tS v1),(1,q0 v2),(4,.tv (ownL 1 3 (cInt .i64) v3)),(6,tI v4),(8,tI v6.2.1)],[]⟩ ?_ z0 ?_
    ·kernel_rfl
    refine AWp.skip ?_
    refine AWp.seq ?_
    refine AWp.start [0,1,2] [3,4] [] [0,1,4,6,8,25,27] 0 ⟨[(0,tS v1),(1,q0 v2),(4,.tv (ownL 1 3 (cInt .i64) v3)),(6,tI v4),(8,tI v6.2.1),(25,.al (.slot 4 0,[])),(27,.tv (.own 1 3 1 (newRowF [.int .i64 v4] 1)))],[]⟩ rfl ?_ z0 trivial ?_
    ·kernel_rfl
    refine AOps.extL 27 (cInt .i64) [v4] rfl rfl (row_at (cInt .i64) 1 (fun _=>rfl) [v4] _ rfl) ?_
    obtain ⟨hg,h⟩:=of_guard h
    refine AOps.go [3] [4] [(v3.length + [v4].length) * 8 ≤ 140737488355328,PlainTo v3.length (fun i=>(cInt .i64) (v3.getD i default)),PlainTo ([v4].length) (fun i=>(cInt .i64) ([v4].getD i default))] [0,1,6,8,28] 0 ⟨[(0,tS v1),(1,q0 v2),(6,tI v4),(8,tI v6.2.1),(28,.tv (.own 1 3 (v3.length + [v4].length) (appF v3.length (fun i=>(cInt .i64) (v3.getD i default)) (fun i=>(cInt .i64) ([v4].getD i default)))))],[]⟩ ?_ z0 ⟨hg,(fun _ _=>rfl),(fun _ _=>rfl)⟩ ?_
    ·kernel_rfl
    refine AOps.extL 28 (cInt .i64) (v3 ++ [v4]) rfl List.length_append.symm (app_at (cInt .i64) v3 [v4]) ?_
    refine AOps.go [4] [] [] [0,1,4,6,8] 0 ⟨[(0,tS v1),(1,q0 v2),(4,.tv (ownL 1 3 (cInt .i64) (v3 ++ [v4]))),(6,tI v4),(8,tI v6.2.1)],[]⟩ ?_ z0 trivial ?_
    ·kernel_rfl
    refine AOps.nil ?_
    refine AWp.start [0,1,2,3] [] [] [0,1,4,6] 0 ⟨[(0,tS v1),(1,q0 v2),(4,.tv (ownL 1 3 (cInt .i64) (v3 ++ [v4]))),(6,tI (w64 (v4 + v6.2.1)))],[]⟩ rfl ?_ z0 trivial ?_
    ·kernel_rfl
    refine AOps.nil ?_
    cases h
    exact Or.inl ⟨_,rfl,rfl,rfl⟩
  ·replace h:=of_false h hb
   refine AWp.keepTo [4] 0 ⟨[(4,.tv (ownL 1 3 (cInt .i64) v3))],[]⟩ ?_ z0 ?_
   ·kernel_rfl
   refine AWp.exit ?_
   cases h
   exact Or.inr ⟨_,rfl,by simp,rfl,rfl⟩
 ·intro e σ hp
  rcases y with v7 | v5
  ·obtain ⟨rfl,rfl⟩:=hp
   cases h
   exact ⟨.inr rfl,rfl⟩
  ·obtain ⟨rfl,rfl⟩:=hp
   refine AWp.seq ?_
   refine AWp.freezeL 4 (cInt .i64) v5 rfl (fun _=>rfl) ?_
   refine AWp.start [0,1,2] [] [] [4,5] 0 ⟨[(4,.tv (fzL 1 (cInt .i64) v5)),(5,tB true)],[]⟩ rfl ?_ z0 trivial ?_
   ·kernel_rfl
   refine AOps.nil ?_
   refine AWp.ret ?_
   cases h
   exact ⟨.inr rfl,rfl⟩

noncomputable def f37 (v1:List Int):Option (List Int) :=
 if (([]:List Int).length + v1.length) * 1 ≤ 140737488355328 then some (([]:List Int) ++ v1) else none

theorem f37_ok (v1:List Int) {r:(List Int)} (h:f37 v1 = some r):ACall Try.prog 37 [.tv (fzL 1 (cInt .u8) v1)] [] (.tv (ownL 1 5 (cInt .u8) r)) []:=by
 refine ACall.of1 (FF 8 0) Try.func37 rfl Try.ntmps37 Try.results37 (zz rfl) rfl rfl ?_
 refine AWp.seq ?_
 refine AWp.start [0] [] [] [0] 0 ⟨[(0,q0 v1)],[]⟩ rfl ?_ z0 trivial ?_
 ·kernel_rfl
 refine AOps.nil ?_
 refine AWp.seq ?_
 refine AWp.seq ?_
 refine AWp.start [0] [1] [] [0,3] 0 ⟨[(0,q0 v1),(3,q0 v1)],[]⟩ rfl ?_ z0 trivial ?_
 ·kernel_rfl
 refine AOps.nilEq (F:=(FF 8 0)) _ rfl rfl 4 rfl rfl rfl rfl v1.length rfl fun v2 hnil=>?_
 refine AOps.keepTo [0,4] 0 ⟨[(0,q0 v1),(4,tB v2)],[]⟩ ?_ z0 ?_
 ·kernel_rfl
 refine AOps.nil ?_
 refine AWp.cond rfl (fun hb=>?_) fun hb=>?_
 ·have hz:=List.eq_nil_of_length_eq_zero (hnil hb)
  subst hz
  have h2:(if (([]:List Int).length + ([]:List Int).length) * 1 ≤ 140737488355328 then some (([]:List Int) ++ ([]:List Int)) else none) = some r:=h
  replace h:(some ([]:List Int)) = some r:=by simpa using h2
  refine AWp.keepTo [] 0 ⟨[],[]⟩ ?_ z0 ?_
  ·kernel_rfl
  refine AWp.seq ?_
  refine AWp.start [0] [] [] [2] 0 ⟨[(2,.tv (.sc (.slice none 0 0)))],[]⟩ rfl ?_ z0 trivial ?_
  ·kernel_rfl
  refine AOps.nil ?_
  refine AWp.nilOwn 2 1 5 (fun i=>(cInt .u8) (([]:List Int).getD i default)) rfl ?_
  refine AWp.keepTo [2] 0 ⟨[(2,q1 ([]:List Int))],[]⟩ ?_ z0 ?_
  ·kernel_rfl
  refine AWp.ret ?_
  cases h
  exact ⟨.inr rfl,rfl⟩
 ·refine AWp.keepTo [0] 0 ⟨[(0,q0 v1)],[]⟩ ?_ z0 ?_
  ·kernel_rfl
  refine AWp.skip ?_
  refine AWp.seq ?_
  refine AWp.start [0] [1,2,3] [] [0,5] 0 ⟨[(0,q0 v1),(5,.tv (.own 1 5 0 (newRowF [] 1)))],[]⟩ rfl ?_ z0 trivial ?_
  ·kernel_rfl
  refine AOps.extL 5 (cInt .u8) ([]:List Int) rfl rfl (row_at (cInt .u8) 1 (fun _=>rfl) ([]:List Int) _ rfl) ?_
  obtain ⟨hg,h⟩:=of_guard h
  refine AOps.go [1,2] [3] [(([]:List Int).length + v1.length) * 1 ≤ 140737488355328,PlainTo (([]:List Int).length) (fun i=>(cInt .u8) (([]:List Int).getD i default)),PlainTo v1.length (fun i=>(cInt .u8) (v1.getD i default))] [7] 0 ⟨[(7,.tv (.own 1 5 (([]:List Int).length + v1.length) (appF (([]:List Int).length) (fun i=>(cInt .u8) (([]:List Int).getD i default)) (fun i=>(cInt .u8) (v1.getD i default)))))],[]⟩ ?_ z0 ⟨hg,(fun _ _=>rfl),(fun _ _=>rfl)⟩ ?_
  ·kernel_rfl
  refine AOps.extL 7 (cInt .u8) (([]:List Int) ++ v1) rfl List.length_append.symm (app_at (cInt .u8) ([]:List Int) v1) ?_
  refine AOps.go [3] [] [] [2] 0 ⟨[(2,q1 (([]:List Int) ++ v1))],[]⟩ ?_ z0 trivial ?_
  ·kernel_rfl
  refine AOps.nil ?_
  refine AWp.ret ?_
  cases h
  exact ⟨.inr rfl,rfl⟩

noncomputable def f16_j1 (v1:List UInt8) (v2:Int) (v3:List Int):Option ((Option T64) × Int) :=
 (f37 v3).bind fun v4=>some (some (T64.mk v1 v2 v4 (0:Int) false),(0:Int))

noncomputable def f16_j2 (v1:List UInt8) (v2:Int) (v3:List Int):Option ((Option T64) × Int) :=
 cond (decide ((v3.length:Int) > (20000:Int))) (some (none,(4:Int))) (cond (v1 == ([114,101,99,111,114,100,115]:List UInt8)) ((f35 v1 v3).bind fun v5=>cond (!v5.2) (some (none,(3:Int))) (f16_j1 v1 v2 v3 )) (f16_j1 v1 v2 v3 ))

noncomputable def f16_j3 (v1:List UInt8) (v2:Int) (v3:List Int) (v6:Bool):Option ((Option T64) × Int) :=
 cond v6 (cond (v2 != (0:Int)) (some (none,(2:Int))) (f16_j2 v1 v2 v3 )) (cond (v1 == ([100,105,114,101,99,116]:List UInt8)) ((cond (decide (v2 < (1:Int))) (some true) (some (decide (v2 > (1000:Int))))).bind fun v7=>cond v7 (some (none,(2:Int))) (f16_j2 v1 v2 v3 )) (some (none,(2:Int))))

noncomputable def f16 (v1:List UInt8) (v2:Int) (v3:List Int):Option ((Option T64) × Int) :=
 cond (v1 == ([108,105,110,101,115]:List UInt8)) (f16_j3 v1 v2 v3 (v1 == ([108,105,110,101,115]:List UInt8))) (cond (v1 == ([114,101,99,111,114,100,115]:List UInt8)) (f16_j3 v1 v2 v3 (v1 == ([114,101,99,111,114,100,115]:List UInt8))) (f16_j3 v1 v2 v3 (v1 == ([115,116,114,101,97,109]:List UInt8))))

theorem f16_ok (v1:List UInt8) (v2:Int) (v3:List Int) {r:(Option T64) × Int} (h:f16 v1 v2 v3 = some r):ACall Try.prog 16 [.tv (.str v1),.tv (.int .i64 v2),.tv (fzL 1 (cInt .u8) v3)] [] (.tup [(match r.1 with | none=>.tv (.sc (.pointer none)) | some _=>.pc 0 0),.tv (.int .i64 r.2)]) ([] ++ (match r.1 with | none=>[] | some u=>[.cells 65 [.str u.f0,.int .i64 u.f1,fzL 1 (cInt .u8) u.f2,.int .i64 u.f3,.bool u.f4]])):=by
 refine ACall.ofN (FF 44 0) (rs:=[6,7]) (env:=[(6,(match r.1 with | none=>.tv (.sc (.pointer none)) | some _=>.pc 0 0)),(7,tI r.2)]) Try.func16 rfl Try.ntmps16 Try.results16 (by decide) (by decide) rfl (zz rfl) rfl (get_ofN _ _ _ rfl) (ok_ofN _ (by obtain ⟨r,r2⟩:=r; cases r <;> rfl)) ?_
 refine AWp.seq ?_
 refine AWp.start [0,1] [] [] [0,1,2] 0 ⟨[(0,tS v1),(1,tI v2),(2,q0 v3)],[]⟩ rfl ?_ z0 trivial ?_
 ·kernel_rfl
 refine AOps.nil ?_
 refine AWp.join (V:=Unit) (fun w=>⟨[(0,tS v1),(1,tI v2),(2,q0 v3)],[]⟩) (fun w=>f16_j2 v1 v2 v3 = some r) ?_ ?_
 ·refine AWp.seq ?_
  refine AWp.start [0] [] [] [0,1,2,10] 0 ⟨[(0,tS v1),(1,tI v2),(2,q0 v3),(10,tS v1)],[]⟩ rfl ?_ z0 trivial ?_
  ·kernel_rfl
  refine AOps.nil ?_
  refine AWp.block ?_
  refine AWp.join (V:=Bool) (fun w=>⟨[(0,tS v1),(1,tI v2),(2,q0 v3),(10,tS v1),(11,tB w)],[]⟩) (fun w=>f16_j3 v1 v2 v3 w = some r) ?_ ?_
  ·refine AWp.seq ?_
   refine AWp.start [0,1] [] [] [0,1,2,10,11] 0 ⟨[(0,tS v1),(1,tI v2),(2,q0 v3),(10,tS v1),(11,tB (v1 == ([108,105,110,101,115]:List UInt8)))],[]⟩ rfl ?_ z0 trivial ?_
   ·kernel_rfl
   refine AOps.nil ?_
   refine AWp.cond rfl (fun hb=>?_) fun hb=>?_
   ·replace h:=of_true h hb
    refine AWp.skip ?_
    exact ⟨(v1 == ([108,105,110,101,115]:List UInt8)),h,rfl⟩
   ·replace h:=of_false h hb
    refine AWp.keepTo [0,1,2,10] 0 ⟨[(0,tS v1),(1,tI v2),(2,q0 v3),(10,tS v1)],[]⟩ ?_ z0 ?_
    ·kernel_rfl
    refine AWp.seq ?_
    refine AWp.start [0,1] [] [] [0,1,2,10,11] 0 ⟨[(0,tS v1),(1,tI v2),(2,q0 v3),(10,tS v1),(11,tB (v1 == ([114,101,99,111,114,100,115]:List UInt8)))],[]⟩ rfl ?_ z0 trivial ?_
    ·kernel_rfl
    refine AOps.nil ?_
    refine AWp.cond rfl (fun hb=>?_) fun hb=>?_
    ·replace h:=of_true h hb
     refine AWp.skip ?_
     exact ⟨(v1 == ([114,101,99,111,114,100,115]:List UInt8)),h,rfl⟩
    ·replace h:=of_false h hb
     refine AWp.keepTo [0,1,2,10] 0 ⟨[(0,tS v1),(1,tI v2),(2,q0 v3),(10,tS v1)],[]⟩ ?_ z0 ?_
     ·kernel_rfl
     refine AWp.start [0,1] [] [] [0,1,2,10,11] 0 ⟨[(0,tS v1),(1,tI v2),(2,q0 v3),(10,tS v1),(11,tB (v1 == ([115,116,114,101,97,109]:List UInt8)))],[]⟩ rfl ?_ z0 trivial ?_
     ·kernel_rfl
     refine AOps.nil ?_
     exact ⟨(v1 == ([115,116,114,101,97,109]:List UInt8)),h,rfl⟩
  ·rintro v6 h
   refine AWp.cond rfl (fun hb=>?_) fun hb=>?_
   ·replace h:=of_true h hb
    refine AWp.keepTo [0,1,2] 0 ⟨[(0,tS v1),(1,tI v2),(2,q0 v3)],[]⟩ ?_ z0 ?_
    ·kernel_rfl
    refine AWp.seq ?_
    refine AWp.start [0,1] [] [] [0,1,2,16] 0 ⟨[(0,tS v1),(1,tI v2),(2,q0 v3),(16,tB (v2 != (0:Int)))],[]⟩ rfl ?_ z0 trivial ?_
    ·kernel_rfl
    refine AOps.nil ?_
    refine AWp.cond rfl (fun hb=>?_) fun hb=>?_
    ·replace h:=of_true h hb
     refine AWp.keepTo [] 0 ⟨[],[]⟩ ?_ z0 ?_
     ·kernel_rfl
     refine AWp.seq ?_
     refine AWp.start [0,1] [] [] [6,7] 0 ⟨[(6,.tv (.sc (.pointer none))),(7,tI (2:Int))],[]⟩ rfl ?_ z0 trivial ?_
     ·kernel_rfl
     refine AOps.nil ?_
     refine AWp.ret ?_
     cases h
     exact ⟨.inr rfl,rfl⟩
    ·replace h:=of_false h hb
     refine AWp.keepTo [0,1,2] 0 ⟨[(0,tS v1),(1,tI v2),(2,q0 v3)],[]⟩ ?_ z0 ?_
     ·kernel_rfl
     refine AWp.skip ?_
     exact ⟨(),h,rfl⟩
   ·replace h:=of_false h hb
    refine AWp.keepTo [0,1,2,10] 0 ⟨[(0,tS v1),(1,tI v2),(2,q0 v3),(10,tS v1)],[]⟩ ?_ z0 ?_
    ·kernel_rfl
    refine AWp.seq ?_
    refine AWp.start [0,1] [] [] [0,1,2,17] 0 ⟨[(0,tS v1),(1,tI v2),(2,q0 v3),(17,tB (v1 == ([100,105,114,101,99,116]:List UInt8)))],[]⟩ rfl ?_ z0 trivial ?_
    ·kernel_rfl
    refine AOps.nil ?_
    refine AWp.cond rfl (fun hb=>?_) fun hb=>?_
    ·replace h:=of_true h hb
     refine AWp.keepTo [0,1,2] 0 ⟨[(0,tS v1),(1,tI v2),(2,q0 v3)],[]⟩ ?_ z0 ?_
     ·kernel_rfl
     refine AWp.seq ?_
     refine AWp.start [0,1,2] [3,4,5] [] [0,1,2,21] 0 ⟨[(0,tS v1),(1,tI v2),(2,q0 v3),(21,tB (decide (v2 < (1:Int))))],[]⟩ rfl ?_ z0 trivial ?_
     ·kernel_rfl
     obtain ⟨v7,hc3,h⟩:=of_bind h
     refine AOps.cut [3,4,5] [] (fun σ=>σ = ⟨[(0,tS v1),(1,tI v2),(2,q0 v3),(24,tB v7)],[]⟩) ?_ fun σ' hJ=>?_
     ·refine AOps.split (fun b=>⟨[(0,tS v1),(1,tI v2),(2,q0 v3),(21,tB b)],[]⟩) _ (fun hb=>?_) fun hb=>?_
      ·replace hc3:=of_true hc3 hb
       refine AOps.go [3,4,5] [] [] [0,1,2,24] 0 ⟨[(0,tS v1),(1,tI v2),(2,q0 v3),(24,tB true)],[]⟩ ?_ z0 trivial ?_
       ·kernel_rfl
       cases hc3
       exact AOps.nil rfl
      ·replace hc3:=of_false hc3 hb
       refine AOps.go [3,4,5] [] [] [0,1,2,24] 0 ⟨[(0,tS v1),(1,tI v2),(2,q0 v3),(24,tB (decide (v2 > (1000:Int))))],[]⟩ ?_ z0 trivial ?_
       ·kernel_rfl
       cases hc3
       exact AOps.nil rfl
     subst hJ
     refine AOps.nil ?_
     refine AWp.cond rfl (fun hb=>?_) fun hb=>?_
     ·replace h:=of_true h hb
      refine AWp.keepTo [] 0 ⟨[],[]⟩ ?_ z0 ?_
      ·kernel_rfl
      refine AWp.seq ?_
      refine AWp.start [0,1] [] [] [6,7] 0 ⟨[(6,.tv (.sc (.pointer none))),(7,tI (2:Int))],[]⟩ rfl ?_ z0 trivial ?_
      ·kernel_rfl
      refine AOps.nil ?_
      refine AWp.ret ?_
      cases h
      exact ⟨.inr rfl,rfl⟩
     ·replace h:=of_false h hb
      refine AWp.keepTo [0,1,2] 0 ⟨[(0,tS v1),(1,tI v2),(2,q0 v3)],[]⟩ ?_ z0 ?_
      ·kernel_rfl
      refine AWp.skip ?_
      exact ⟨(),h,rfl⟩
    ·replace h:=of_false h hb
     refine AWp.keepTo [] 0 ⟨[],[]⟩ ?_ z0 ?_
     ·kernel_rfl
     refine AWp.seq ?_
     refine AWp.start [0,1] [] [] [6,7] 0 ⟨[(6,.tv (.sc (.pointer none))),(7,tI (2:Int))],[]⟩ rfl ?_ z0 trivial ?_
     ·kernel_rfl
     refine AOps.nil ?_
     refine AWp.ret ?_
     cases h
     exact ⟨.inr rfl,rfl⟩
 ·rintro ⟨⟩ h
  refine AWp.seq ?_
  refine AWp.seq ?_
  refine AWp.start [0,1,2] [] [] [0,1,2,27] 0 ⟨[(0,tS v1),(1,tI v2),(2,q0 v3),(27,tB (decide ((v3.length:Int) > (20000:Int))))],[]⟩ rfl ?_ z0 trivial ?_
  ·kernel_rfl
  refine AOps.nil ?_
  refine AWp.cond rfl (fun hb=>?_) fun hb=>?_
  ·replace h:=of_true h hb
   refine AWp.keepTo [] 0 ⟨[],[]⟩ ?_ z0 ?_
   ·kernel_rfl
   refine AWp.seq ?_
   refine AWp.start [0,1] [] [] [6,7] 0 ⟨[(6,.tv (.sc (.pointer none))),(7,tI (4:Int))],[]⟩ rfl ?_ z0 trivial ?_
   ·kernel_rfl
   refine AOps.nil ?_
   refine AWp.ret ?_
   cases h
   exact ⟨.inr rfl,rfl⟩
  ·replace h:=of_false h hb
   refine AWp.keepTo [0,1,2] 0 ⟨[(0,tS v1),(1,tI v2),(2,q0 v3)],[]⟩ ?_ z0 ?_
   ·kernel_rfl
   refine AWp.skip ?_
   refine AWp.join (V:=Unit) (fun w=>⟨[(0,tS v1),(1,tI v2),(2,q0 v3)],[]⟩) (fun w=>f16_j1 v1 v2 v3 = some r) ?_ ?_
   ·refine AWp.seq ?_
    refine AWp.start [0,1] [] [] [0,1,2,29] 0 ⟨[(0,tS v1),(1,tI v2),(2,q0 v3),(29,tB (v1 == ([114,101,99,111,114,100,115]:List UInt8)))],[]⟩ rfl ?_ z0 trivial ?_
    ·kernel_rfl
    refine AOps.nil ?_
    refine AWp.cond rfl (fun hb=>?_) fun hb=>?_
    ·replace h:=of_true h hb
     refine AWp.keepTo [0,1,2] 0 ⟨[(0,tS v1),(1,tI v2),(2,q0 v3)],[]⟩ ?_ z0 ?_
     ·kernel_rfl
     refine AWp.seq ?_
     refine AWp.start [0,1] [2,3,4,5,6,7] [] [0,1,2,31,32] 0 ⟨[(0,tS v1),(1,tI v2),(2,q0 v3),(31,tS v1),(32,q0 v3)],[]⟩ rfl ?_ z0 trivial ?_
     ·kernel_rfl
     obtain ⟨v5,hv5,h⟩:=of_bind h
     refine AOps.cons (AOne.callP (F:=(FF 44 0)) _ rfl rfl rfl _ rfl rfl _ _ rfl Try.call35 [tS v1,q0 v3] rfl rfl (f35_ok v1 v3 hv5) rfl) ?_
     refine AOps.go [3,4,5,6,7] [] [] [0,1,2,9] 0 ⟨[(0,tS v1),(1,tI v2),(2,q0 v3),(9,tB v5.2)],[]⟩ ?_ z0 trivial ?_
     ·kernel_rfl
     refine AOps.nil ?_
     refine AWp.seq ?_
     refine AWp.start [0,1] [] [] [0,1,2,37] 0 ⟨[(0,tS v1),(1,tI v2),(2,q0 v3),(37,tB (!v5.2))],[]⟩ rfl ?_ z0 trivial ?_
     ·kernel_rfl
     refine AOps.nil ?_
     refine AWp.cond rfl (fun hb=>?_) fun hb=>?_
     ·replace h:=of_true h hb
      refine AWp.keepTo [] 0 ⟨[],[]⟩ ?_ z0 ?_
      ·kernel_rfl
      refine AWp.seq ?_
      refine AWp.start [0,1] [] [] [6,7] 0 ⟨[(6,.tv (.sc (.pointer none))),(7,tI (3:Int))],[]⟩ rfl ?_ z0 trivial ?_
      ·kernel_rfl
      refine AOps.nil ?_
      refine AWp.ret ?_
      cases h
      exact ⟨.inr rfl,rfl⟩
     ·replace h:=of_false h hb
      refine AWp.keepTo [0,1,2] 0 ⟨[(0,tS v1),(1,tI v2),(2,q0 v3)],[]⟩ ?_ z0 ?_
      ·kernel_rfl
      refine AWp.skip ?_
      exact ⟨(),h,rfl⟩
    ·replace h:=of_false h hb
     refine AWp.keepTo [0,1,2] 0 ⟨[(0,tS v1),(1,tI v2),(2,q0 v3)],[]⟩ ?_ z0 ?_
     ·kernel_rfl
     refine AWp.skip ?_
     exact ⟨(),h,rfl⟩
   ·rintro ⟨⟩ h
    refine AWp.seq ?_
    refine AWp.start [0,1,2] [3,4,5,6,7] [] [38,39,40] 0 ⟨[(38,tS v1),(39,tI v2),(40,q0 v3)],[]⟩ rfl ?_ z0 trivial ?_
    ·kernel_rfl
    obtain ⟨v4,hv4,h⟩:=of_bind h
    refine AOps.cons (AOne.callP (F:=(FF 44 0)) _ rfl rfl rfl _ rfl rfl _ _ rfl Try.call37 [q0 v3] rfl rfl (f37_ok v3 hv4) rfl) ?_
    refine AOps.freezeL 41 (cInt .u8) v4 rfl (fun _=>rfl) ?_
    refine AOps.go [4,5,6,7] [] [] [6,7] 1 ⟨[(6,.pc 0 0),(7,tI (0:Int))],[.cells 65 [.str v1,.int .i64 v2,k0 v4,.int .i64 (0:Int),.bool false]]⟩ ?_ z0 trivial ?_
    ·kernel_rfl
    refine AOps.nil ?_
    refine AWp.ret ?_
    cases h
    exact ⟨.inr rfl,rfl⟩

noncomputable def f41 (v1:T64):Option Bool :=
 some (v1.f0 == ([]:List UInt8))

theorem f41_ok (v1:T64) {r:Bool} (h:f41 v1 = some r):ACall Try.prog 41 [.rp [.str v1.f0,.int .i64 v1.f1,fzL 1 (cInt .u8) v1.f2,.int .i64 v1.f3,.bool v1.f4]] [] (.tv (.bool r)) []:=by
 refine ACall.of1 (FF 12 0) Try.func41 rfl Try.ntmps41 Try.results41 (zz rfl) rfl rfl ?_
 refine AWp.seq ?_
 refine AWp.start [0] [] [] [0] 0 ⟨[(0,.rp (c64 v1))],[]⟩ rfl ?_ z0 trivial ?_
 ·kernel_rfl
 refine AOps.nil ?_
 refine AWp.seq ?_
 refine AWp.start [0,1,2,3,4,5,6,7,8,9] [] [] [2] 0 ⟨[(2,tB (v1.f0 == ([]:List UInt8)))],[]⟩ rfl ?_ z0 trivial ?_
 ·kernel_rfl
 refine AOps.nil ?_
 refine AWp.ret ?_
 cases h
 exact ⟨.inr rfl,rfl⟩

noncomputable def f42 (v1:T64):Option Bool :=
 (cond (v1.f0 == ([108,105,110,101,115]:List UInt8)) (some true) (some (v1.f0 == ([114,101,99,111,114,100,115]:List UInt8)))).bind fun v2=>some v2

theorem f42_ok (v1:T64) {r:Bool} (h:f42 v1 = some r):ACall Try.prog 42 [.rp [.str v1.f0,.int .i64 v1.f1,fzL 1 (cInt .u8) v1.f2,.int .i64 v1.f3,.bool v1.f4]] [] (.tv (.bool r)) []:=by
 refine ACall.of1 (FF 15 0) Try.func42 rfl Try.ntmps42 Try.results42 (zz rfl) rfl rfl ?_
 refine AWp.seq ?_
 refine AWp.start [0] [] [] [0] 0 ⟨[(0,.rp (c64 v1))],[]⟩ rfl ?_ z0 trivial ?_
 ·kernel_rfl
 refine AOps.nil ?_
 refine AWp.seq ?_
 refine AWp.start [0,1,2,3,4,5] [6,7,8,9,10,11,12] [] [0,8] 0 ⟨[(0,.rp (c64 v1)),(8,tB (v1.f0 == ([108,105,110,101,115]:List UInt8)))],[]⟩ rfl ?_ z0 trivial ?_
 ·kernel_rfl
 obtain ⟨v2,hc6,h⟩:=of_bind h
 refine AOps.cut [6,7,8,9,10,11] [12] (fun σ=>σ = ⟨[(14,tB v2)],[]⟩) ?_ fun σ' hJ=>?_
 ·refine AOps.split (fun b=>⟨[(0,.rp (c64 v1)),(8,tB b)],[]⟩) _ (fun hb=>?_) fun hb=>?_
  ·replace hc6:=of_true hc6 hb
   refine AOps.go [6,7,8,9,10,11] [] [] [14] 0 ⟨[(14,tB true)],[]⟩ ?_ z0 trivial ?_
   ·kernel_rfl
   cases hc6
   exact AOps.nil rfl
  ·replace hc6:=of_false hc6 hb
   refine AOps.go [6,7,8,9,10,11] [] [] [14] 0 ⟨[(14,tB (v1.f0 == ([114,101,99,111,114,100,115]:List UInt8)))],[]⟩ ?_ z0 trivial ?_
   ·kernel_rfl
   cases hc6
   exact AOps.nil rfl
 subst hJ
 refine AOps.go [12] [] [] [2] 0 ⟨[(2,tB v2)],[]⟩ ?_ z0 trivial ?_
 ·kernel_rfl
 refine AOps.nil ?_
 refine AWp.ret ?_
 cases h
 exact ⟨.inr rfl,rfl⟩

abbrev hp0 (v1:T64):List AObj:=[.cells 65 [.str v1.f0,.int .i64 v1.f1,k0 v1.f2,.int .i64 v1.f3,.bool true]]

noncomputable def f22o (v1:T64):Option ((List Int) × Int × T64) :=
 (f41 v1).bind fun v2=>cond v2 (some (([]:List Int),(7:Int),v1)) ((f42 v1).bind fun v3=>(cond (!v3) (some true) (some v1.f4)).bind fun v4=>cond v4 (some (([]:List Int),(110:Int),v1)) (if (0:Int) ≤ v1.f3 ∧ v1.f3 ≤ (v1.f2.length:Int) then (f36 v1.f0 ((v1.f2.take (Int.toNat (v1.f2.length:Int))).drop (Int.toNat v1.f3))).bind fun v5=>cond (!v5.2.2) (some (([]:List Int),(6:Int),T64.mk v1.f0 v1.f1 v1.f2 v1.f3 true)) ((f37 v5.1).bind fun v6=>some (v6,(0:Int),T64.mk v1.f0 v1.f1 v1.f2 (w64 (v1.f3 + v5.2.1)) v1.f4)) else none))

theorem f22o_ok (v1:T64) {r:(List Int) × Int × T64} (h:f22o v1 = some r):ACall Try.prog 22 [.pc 0 0] [.cells 65 [.str v1.f0,.int .i64 v1.f1,fzL 1 (cInt .u8) v1.f2,.int .i64 v1.f3,.bool v1.f4]] (.tup [.tv (fzL 1 (cInt .u8) r.1),.tv (.int .i64 r.2.1)]) [.cells 65 [.str r.2.2.f0,.int .i64 r.2.2.f1,fzL 1 (cInt .u8) r.2.2.f2,.int .i64 r.2.2.f3,.bool r.2.2.f4]]:=by
 refine ACall.ofN (FF 53 1) (rs:=[2,3]) (env:=[(2,q0 r.1),(3,tI r.2.1)]) Try.func22 rfl Try.ntmps22 Try.results22 (by decide) (by decide) rfl (zz rfl) rfl (get_ofN _ _ _ rfl) (ok_ofN _ rfl) ?_
 refine AWp.seq ?_
 refine AWp.start [0,1] [] [] [0] 1 ⟨[(0,.pc 0 0)],[.cells 65 (c64 v1)]⟩ rfl ?_ (zz rfl) trivial ?_
 ·kernel_rfl
 refine AOps.nil ?_
 refine AWp.seq ?_
 refine AWp.block ?_
 refine AWp.seq ?_
 refine AWp.start [0] [1,2] [] [0,8] 1 ⟨[(0,.pc 0 0),(8,.pc 0 0)],[.cells 65 (c64 v1)]⟩ rfl ?_ (zz rfl) trivial ?_
 ·kernel_rfl
 obtain ⟨v2,hv2,h⟩:=of_bind h
 refine AOps.cons (AOne.callR (F:=(FF 53 1)) _ rfl rfl rfl _ rfl rfl _ _ rfl Try.call41 [] [.rp (c64 v1)] rfl trivial (f41_ok v1 hv2) (ind_of rfl) rfl) ?_
 refine AOps.go [2] [] [] [0,7] 1 ⟨[(0,.pc 0 0),(7,tB v2)],[.cells 65 (c64 v1)]⟩ ?_ (zz rfl) trivial ?_
 ·kernel_rfl
 refine AOps.nil ?_
 refine AWp.cond rfl (fun hb=>?_) fun hb=>?_
 ·replace h:=of_true h hb
  refine AWp.keepTo [] 1 ⟨[],[.cells 65 (c64 v1)]⟩ ?_ (zz rfl) ?_
  ·kernel_rfl
  refine AWp.seq ?_
  refine AWp.start [0,1] [] [] [2,3] 1 ⟨[(2,.tv (.sc (.slice none 0 0))),(3,tI (7:Int))],[.cells 65 (c64 v1)]⟩ rfl ?_ (zz rfl) trivial ?_
  ·kernel_rfl
  refine AOps.nil ?_
  refine AWp.nilFz 2 1 (fun i=>(cInt .u8) (([]:List Int).getD i default)) rfl ?_
  refine AWp.keepTo [2,3] 1 ⟨[(2,q0 ([]:List Int)),(3,tI (7:Int))],[.cells 65 (c64 v1)]⟩ ?_ (zz rfl) ?_
  ·kernel_rfl
  refine AWp.ret ?_
  cases h
  exact ⟨.inr rfl,rfl⟩
 ·replace h:=of_false h hb
  refine AWp.keepTo [0] 1 ⟨[(0,.pc 0 0)],[.cells 65 (c64 v1)]⟩ ?_ (zz rfl) ?_
  ·kernel_rfl
  refine AWp.seq ?_
  refine AWp.start [0] [1,2,3,4,5,6,7,8,9] [] [0,11] 1 ⟨[(0,.pc 0 0),(11,.pc 0 0)],[.cells 65 (c64 v1)]⟩ rfl ?_ (zz rfl) trivial ?_
  ·kernel_rfl
  obtain ⟨v3,hv3,h⟩:=of_bind h
  refine AOps.cons (AOne.callR (F:=(FF 53 1)) _ rfl rfl rfl _ rfl rfl _ _ rfl Try.call42 [] [.rp (c64 v1)] rfl trivial (f42_ok v1 hv3) (ind_of rfl) rfl) ?_
  refine AOps.go [2,3] [4,5,6,7,8,9] [] [0,14] 1 ⟨[(0,.pc 0 0),(14,tB (!v3))],[.cells 65 (c64 v1)]⟩ ?_ (zz rfl) trivial ?_
  ·kernel_rfl
  obtain ⟨v4,hc4,h⟩:=of_bind h
  refine AOps.cut [4,5,6,7,8] [9] (fun σ=>σ = ⟨[(0,.pc 0 0),(19,tB v4)],[.cells 65 (c64 v1)]⟩) ?_ fun σ' hJ=>?_
  ·refine AOps.split (fun b=>⟨[(0,.pc 0 0),(14,tB b)],[.cells 65 (c64 v1)]⟩) _ (fun hb=>?_) fun hb=>?_
   ·replace hc4:=of_true hc4 hb
    refine AOps.go [4,5,6,7,8] [] [] [0,19] 1 ⟨[(0,.pc 0 0),(19,tB true)],[.cells 65 (c64 v1)]⟩ ?_ (zz rfl) trivial ?_
    ·kernel_rfl
    cases hc4
    exact AOps.nil rfl
   ·replace hc4:=of_false hc4 hb
    refine AOps.go [4,5,6,7,8] [] [] [0,19] 1 ⟨[(0,.pc 0 0),(19,tB v1.f4)],[.cells 65 (c64 v1)]⟩ ?_ (zz rfl) trivial ?_
    ·kernel_rfl
    cases hc4
    exact AOps.nil rfl
  subst hJ
  refine AOps.go [9] [] [] [0,10] 1 ⟨[(0,.pc 0 0),(10,tB v4)],[.cells 65 (c64 v1)]⟩ ?_ (zz rfl) trivial ?_
  ·kernel_rfl
  refine AOps.nil ?_
  refine AWp.cond rfl (fun hb=>?_) fun hb=>?_
  ·replace h:=of_true h hb
   refine AWp.keepTo [] 1 ⟨[],[.cells 65 (c64 v1)]⟩ ?_ (zz rfl) ?_
   ·kernel_rfl
   refine AWp.seq ?_
   refine AWp.start [0,1] [] [] [2,3] 1 ⟨[(2,.tv (.sc (.slice none 0 0))),(3,tI (110:Int))],[.cells 65 (c64 v1)]⟩ rfl ?_ (zz rfl) trivial ?_
   ·kernel_rfl
   refine AOps.nil ?_
   refine AWp.nilFz 2 1 (fun i=>(cInt .u8) (([]:List Int).getD i default)) rfl ?_
   refine AWp.keepTo [2,3] 1 ⟨[(2,q0 ([]:List Int)),(3,tI (110:Int))],[.cells 65 (c64 v1)]⟩ ?_ (zz rfl) ?_
   ·kernel_rfl
   refine AWp.ret ?_
   cases h
   exact ⟨.inr rfl,rfl⟩
  ·replace h:=of_false h hb
   refine AWp.keepTo [0] 1 ⟨[(0,.pc 0 0)],[.cells 65 (c64 v1)]⟩ ?_ (zz rfl) ?_
   ·kernel_rfl
   refine AWp.skip ?_
   refine AWp.seq ?_
   refine AWp.draw FFm _ (n:=21) rfl (ls:=#[n1,n1,n1,n1,n1,n1,n1,n1,n1,n1,n1,n1,n1,n1,n1,n1,n1,n1,n1,n1,n1]) rfl ?_ (fun _ h=>h)
   refine AAny.go (by kernel_rfl) [0,1,2,4,5,6,8,9,10] (fuel':=12) rfl [] #[y1,y1,y1,n1,y1,y1,y1,n1,y1,y1,y1,n1,n1,n1,n1,n1,n1,n1,n1,n1,n1] [0,23,27,31] 1 ⟨[(0,.pc 0 0),(23,.pc 0 0),(27,.pc 0 2),(31,.pc 0 3)],[.cells 65 (c64 v1)]⟩ ?_ (zz rfl) trivial ?_
   ·kernel_rfl
   refine AAny.goR (by kernel_rfl) (i:=7) (fuel':=11) [12,13,14,15,16,17,18,19,20] rfl (by kernel_rfl) (by kernel_rfl) [] #[y1,y1,y1,n1,y1,y1,y1,y1,y1,y1,y1,n1,n1,n1,n1,n1,n1,n1,n1,n1,n1] rfl [0,23,28,31] 1 ⟨[(0,.pc 0 0),(23,.pc 0 0),(28,q0 v1.f2),(31,.pc 0 3)],[.cells 65 (c64 v1)]⟩ ?_ (zz rfl) trivial ?_
   ·kernel_rfl
   refine AAny.goR (by kernel_rfl) (i:=11) (fuel':=10) [12,13,14,15,16,17,18,19,20] rfl (by kernel_rfl) (by kernel_rfl) [] #[y1,y1,y1,n1,y1,y1,y1,y1,y1,y1,y1,y1,n1,n1,n1,n1,n1,n1,n1,n1,n1] rfl [0,23,28,32] 1 ⟨[(0,.pc 0 0),(23,.pc 0 0),(28,q0 v1.f2),(32,tI v1.f3)],[.cells 65 (c64 v1)]⟩ ?_ (zz rfl) trivial ?_
   ·kernel_rfl
   obtain ⟨hg,h⟩:=of_guard h
   refine AAny.go (by kernel_rfl) [12] (fuel':=9) rfl [(0:Int) ≤ v1.f3,v1.f3 ≤ (v1.f2.length:Int),(v1.f2.length:Int) ≤ (v1.f2.length:Int)] #[y1,y1,y1,n1,y1,y1,y1,y1,y1,y1,y1,y1,y1,n1,n1,n1,n1,n1,n1,n1,n1] [0,23,33] 1 ⟨[(0,.pc 0 0),(23,.pc 0 0),(33,.tv (.fz 1 ((Int.toNat (v1.f2.length:Int)) - (Int.toNat v1.f3)) (fun i=>(cInt .u8) (v1.f2.getD ((Int.toNat v1.f3) + i) default))))],[.cells 65 (c64 v1)]⟩ ?_ (zz rfl) ⟨hg.1,hg.2,(Int.le_refl (v1.f2.length:Int))⟩ ?_
   ·kernel_rfl
   have hb:(Int.toNat (v1.f2.length:Int)) ≤ v1.f2.length:=by have hh:(v1.f2.length:Int) ≤ (v1.f2.length:Int):=(Int.le_refl (v1.f2.length:Int)); omega
   refine AAny.extFzL (s:=33) rfl (sub_len v1.f2 (Int.toNat v1.f3) (Int.toNat (v1.f2.length:Int)) hb) (sub_at (cInt .u8) v1.f2 (Int.toNat v1.f3) (Int.toNat (v1.f2.length:Int)) hb) ?_
   refine AAny.step (i:=3) (fuel':=8) rfl (by kernel_rfl) [] #[y1,y1,y1,y1,y1,y1,y1,y1,y1,y1,y1,y1,y1,n1,n1,n1,n1,n1,n1,n1,n1] rfl [0,24,33] 1 ⟨[(0,.pc 0 0),(24,tS v1.f0),(33,q0 ((v1.f2.take (Int.toNat (v1.f2.length:Int))).drop (Int.toNat v1.f3)))],[.cells 65 (c64 v1)]⟩ ?_ (zz rfl) trivial ?_
   ·kernel_rfl
   obtain ⟨v5,hv5,h⟩:=of_bind h
   refine AAny.serial (i:=13) (fuel:=7) (by kernel_rfl) (AOne.callP (F:=(FF 53 1)) _ rfl rfl rfl _ rfl rfl _ _ rfl Try.call36 [tS v1.f0,q0 ((v1.f2.take (Int.toNat (v1.f2.length:Int))).drop (Int.toNat v1.f3))] rfl rfl (f36_ok v1.f0 ((v1.f2.take (Int.toNat (v1.f2.length:Int))).drop (Int.toNat v1.f3)) hv5) rfl) ?_
   refine AAny.keepTo [0,34] 1 ⟨[(0,.pc 0 0),(34,.tup [q0 v5.1,tI v5.2.1,tB v5.2.2])],[.cells 65 (c64 v1)]⟩ #[y1,y1,y1,y1,y1,y1,y1,y1,y1,y1,y1,y1,y1,y1,n1,n1,n1,n1,n1,n1,n1] ?_ rfl (zz rfl) ?_
   ·kernel_rfl
   refine AAny.go (by kernel_rfl) [14,15,16,17,18,19,20] (fuel':=0) rfl [] #[y1,y1,y1,y1,y1,y1,y1,y1,y1,y1,y1,y1,y1,y1,y1,y1,y1,y1,y1,y1,y1] [0,4,5,6] 1 ⟨[(0,.pc 0 0),(4,q0 v5.1),(5,tI v5.2.1),(6,tB v5.2.2)],[.cells 65 (c64 v1)]⟩ ?_ (zz rfl) trivial ?_
   ·kernel_rfl
   refine AAny.keepTo [0,4,5,6] 1 ⟨[(0,.pc 0 0),(4,q0 v5.1),(5,tI v5.2.1),(6,tB v5.2.2)],[.cells 65 (c64 v1)]⟩ _ ?_ rfl (zz rfl) (AAny.done (by kernel_rfl) ?_)
   ·kernel_rfl
   refine AWp.seq ?_
   refine AWp.seq ?_
   refine AWp.start [0,1] [] [] [0,4,5,39] 1 ⟨[(0,.pc 0 0),(4,q0 v5.1),(5,tI v5.2.1),(39,tB (!v5.2.2))],[.cells 65 (c64 v1)]⟩ rfl ?_ (zz rfl) trivial ?_
   ·kernel_rfl
   refine AOps.nil ?_
   refine AWp.cond rfl (fun hb=>?_) fun hb=>?_
   ·replace h:=of_true h hb
    refine AWp.keepTo [0] 1 ⟨[(0,.pc 0 0)],[.cells 65 (c64 v1)]⟩ ?_ (zz rfl) ?_
    ·kernel_rfl
    refine AWp.seq ?_
    refine AWp.start [0,1,2,3] [] [] [] 1 ⟨[],hp0 v1⟩ rfl ?_ (zz rfl) trivial ?_
    ·kernel_rfl
    refine AOps.nil ?_
    refine AWp.seq ?_
    refine AWp.start [0,1] [] [] [2,3] 1 ⟨[(2,.tv (.sc (.slice none 0 0))),(3,tI (6:Int))],hp0 v1⟩ rfl ?_ (zz rfl) trivial ?_
    ·kernel_rfl
    refine AOps.nil ?_
    refine AWp.nilFz 2 1 (fun i=>(cInt .u8) (([]:List Int).getD i default)) rfl ?_
    refine AWp.keepTo [2,3] 1 ⟨[(2,q0 ([]:List Int)),(3,tI (6:Int))],hp0 v1⟩ ?_ (zz rfl) ?_
    ·kernel_rfl
    refine AWp.ret ?_
    cases h
    exact ⟨.inr rfl,rfl⟩
   ·replace h:=of_false h hb
    refine AWp.keepTo [0,4,5] 1 ⟨[(0,.pc 0 0),(4,q0 v5.1),(5,tI v5.2.1)],[.cells 65 (c64 v1)]⟩ ?_ (zz rfl) ?_
    ·kernel_rfl
    refine AWp.skip ?_
    refine AWp.seq ?_
    refine AWp.start [0,1,2,3,4,5,6,7,8] [] [] [4] 1 ⟨[(4,q0 v5.1)],[.cells 65 [.str v1.f0,.int .i64 v1.f1,k0 v1.f2,.int .i64 (w64 (v1.f3 + v5.2.1)),.bool v1.f4]]⟩ rfl ?_ (zz rfl) trivial ?_
    ·kernel_rfl
    refine AOps.nil ?_
    refine AWp.seq ?_
    refine AWp.start [0] [1,2,3] [] [51] 1 ⟨[(51,q0 v5.1)],[.cells 65 [.str v1.f0,.int .i64 v1.f1,k0 v1.f2,.int .i64 (w64 (v1.f3 + v5.2.1)),.bool v1.f4]]⟩ rfl ?_ (zz rfl) trivial ?_
    ·kernel_rfl
    obtain ⟨v6,hv6,h⟩:=of_bind h
    refine AOps.cons (AOne.callP (F:=(FF 53 1)) _ rfl rfl rfl _ rfl rfl _ _ rfl Try.call37 [q0 v5.1] rfl rfl (f37_ok v5.1 hv6) rfl) ?_
    refine AOps.go [2,3] [] [] [2,3] 1 ⟨[(2,q1 v6),(3,tI (0:Int))],[.cells 65 [.str v1.f0,.int .i64 v1.f1,k0 v1.f2,.int .i64 (w64 (v1.f3 + v5.2.1)),.bool v1.f4]]⟩ ?_ (zz rfl) trivial ?_
    ·kernel_rfl
    refine AOps.nil ?_
    refine AWp.freezeL 2 (cInt .u8) v6 rfl (fun _=>rfl) ?_
    refine AWp.keepTo [2,3] 1 ⟨[(2,q0 v6),(3,tI (0:Int))],[.cells 65 [.str v1.f0,.int .i64 v1.f1,k0 v1.f2,.int .i64 (w64 (v1.f3 + v5.2.1)),.bool v1.f4]]⟩ ?_ (zz rfl) ?_
    ·kernel_rfl
    refine AWp.ret ?_
    cases h
    exact ⟨.inr rfl,rfl⟩

noncomputable def f64_e_j1 (v2:List Int):Option (List Int) :=
 some v2

noncomputable def f64_e (v1:Int):Option (List Int) :=
 cond (decide (v1 < (0:Int))) none (cond (decide (w64 (v1 - (w64 ((0:Int) - (0:Int)))) > (0:Int))) (if (0:Int) ≤ w64 (v1 - (w64 ((0:Int) - (0:Int)))) ∧ (Int.toNat (w64 (v1 - (w64 ((0:Int) - (0:Int)))))) * 1 ≤ 140737488355328 then f64_e_j1 ((List.replicate (Int.toNat (w64 (v1 - (w64 ((0:Int) - (0:Int)))))) (0:Int)).take 0) else none) (f64_e_j1 []))

theorem f64_e_ok (v1:Int) {r:(List Int)} (h:f64_e v1 = some r):ACall Try.prog 64 [.tv (.sc (.slice none 0 0)),.tv (.int .i64 v1)] [] (.tv (ownL 1 5 (cInt .u8) r)) []:=by
 refine ACall.of1 (FF 27 0) Try.func64 rfl Try.ntmps64 Try.results64 (zz rfl) rfl rfl ?_
 refine AWp.seq ?_
 refine AWp.start [0] [] [] [0,1] 0 ⟨[(0,.tv (.sc (.slice none 0 0))),(1,tI v1)],[]⟩ rfl ?_ z0 trivial ?_
 ·kernel_rfl
 refine AOps.nil ?_
 refine AWp.seq ?_
 refine AWp.seq ?_
 refine AWp.start [0,1] [] [] [0,1,6] 0 ⟨[(0,.tv (.sc (.slice none 0 0))),(1,tI v1),(6,tB (decide (v1 < (0:Int))))],[]⟩ rfl ?_ z0 trivial ?_
 ·kernel_rfl
 refine AOps.nil ?_
 refine AWp.cond rfl (fun hb=>?_) fun hb=>?_
 ·replace h:=of_true h hb
  refine AWp.keepTo [0,1] 0 ⟨[(0,.tv (.sc (.slice none 0 0))),(1,tI v1)],[]⟩ ?_ z0 ?_
  ·kernel_rfl
  cases h
 ·replace h:=of_false h hb
  refine AWp.keepTo [0,1] 0 ⟨[(0,.tv (.sc (.slice none 0 0))),(1,tI v1)],[]⟩ ?_ z0 ?_
  ·kernel_rfl
  refine AWp.skip ?_
  refine AWp.join (V:=(List Int)) (fun w=>⟨[(0,q1 w)],[]⟩) (fun w=>f64_e_j1  w = some r) ?_ ?_
  ·refine AWp.seq ?_
   refine AWp.start [0,1] [2,3,4,5,6,7] [] [0,8,9] 0 ⟨[(0,.tv (.sc (.slice none 0 0))),(8,tI v1),(9,.tv (.sc (.slice none 0 0)))],[]⟩ rfl ?_ z0 trivial ?_
   ·kernel_rfl
   refine AOps.cons (AOne.grow (F:=(FF 27 0)) [] _ rfl rfl rfl rfl trivial) ?_
   refine AOps.go [3,4,5,6,7] [] [] [0,1] 0 ⟨[(0,.tv (.sc (.slice none 0 0))),(1,tI (w64 (v1 - (w64 ((0:Int) - (0:Int))))))],[]⟩ ?_ z0 trivial ?_
   ·kernel_rfl
   refine AOps.nil ?_
   refine AWp.seq ?_
   refine AWp.start [0,1] [] [] [0,1,16] 0 ⟨[(0,.tv (.sc (.slice none 0 0))),(1,tI (w64 (v1 - (w64 ((0:Int) - (0:Int)))))),(16,tB (decide (w64 (v1 - (w64 ((0:Int) - (0:Int)))) > (0:Int))))],[]⟩ rfl ?_ z0 trivial ?_
   ·kernel_rfl
   refine AOps.nil ?_
   refine AWp.cond rfl (fun hb=>?_) fun hb=>?_
   ·replace h:=of_true h hb
    refine AWp.keepTo [0,1] 0 ⟨[(0,.tv (.sc (.slice none 0 0))),(1,tI (w64 (v1 - (w64 ((0:Int) - (0:Int))))))],[]⟩ ?_ z0 ?_
    ·kernel_rfl
    refine AWp.start [0,1] [2,3,4,5,6,7,8,9] [] [0,1,17,18] 0 ⟨[(0,.tv (.sc (.slice none 0 0))),(1,tI (w64 (v1 - (w64 ((0:Int) - (0:Int)))))),(17,.tv (.sc (.slice none 0 0))),(18,.tv (.sc (.slice none 0 0)))],[]⟩ rfl ?_ z0 trivial ?_
    ·kernel_rfl
    refine AOps.cons (AOne.grow (F:=(FF 27 0)) [] _ rfl rfl rfl rfl trivial) ?_
    refine AOps.cons (AOne.grow (F:=(FF 27 0)) [(0:Int) = (0:Int)] _ rfl rfl rfl rfl rfl) ?_
    refine AOps.go [4] [5,6,7,8,9] [] [0,20,21] 0 ⟨[(0,.tv (.sc (.slice none 0 0))),(20,.tv (.sc (.slice none 0 0))),(21,tI (w64 (v1 - (w64 ((0:Int) - (0:Int))))))],[]⟩ ?_ z0 trivial ?_
    ·kernel_rfl
    obtain ⟨hg,h⟩:=of_guard h
    refine AOps.cons (AOne.grow (F:=(FF 27 0)) [(0:Int) ≤ w64 (v1 - (w64 ((0:Int) - (0:Int)))),(Int.toNat (w64 (v1 - (w64 ((0:Int) - (0:Int)))))) * 1 ≤ 140737488355328] _ rfl rfl rfl rfl ⟨hg.1,hg.2⟩) ?_
    refine AOps.keepTo [0,22] 0 ⟨[(0,.tv (.sc (.slice none 0 0))),(22,.tv (.own 1 5 (Int.toNat (w64 (v1 - (w64 ((0:Int) - (0:Int)))))) (zerosF [.int .u8 (0:Int)])))],[]⟩ ?_ z0 ?_
    ·kernel_rfl
    refine AOps.extL 22 (cInt .u8) (List.replicate (Int.toNat (w64 (v1 - (w64 ((0:Int) - (0:Int)))))) (0:Int)) rfl (by simp) (zero_at (cInt .u8) _ (0:Int) rfl _) ?_
    refine AOps.go [6,7] [8,9] [] [22,24] 0 ⟨[(22,q1 (List.replicate (Int.toNat (w64 (v1 - (w64 ((0:Int) - (0:Int)))))) (0:Int))),(24,tI (0:Int))],[]⟩ ?_ z0 trivial ?_
    ·kernel_rfl
    refine AOps.cons (AOne.grow (F:=(FF 27 0)) [(0:Int) ≤ (0:Int),(0:Int) ≤ ((List.replicate (Int.toNat (w64 (v1 - (w64 ((0:Int) - (0:Int)))))) (0:Int)).length:Int)] _ rfl rfl rfl rfl ⟨(by decide:(0:Int) ≤ (0:Int)),(Int.natCast_nonneg ((List.replicate (Int.toNat (w64 (v1 - (w64 ((0:Int) - (0:Int)))))) (0:Int)).length))⟩) ?_
    refine AOps.keepTo [25] 0 ⟨[(25,.tv (.own 1 5 0 (fun i=>(cInt .u8) ((List.replicate (Int.toNat (w64 (v1 - (w64 ((0:Int) - (0:Int)))))) (0:Int)).getD i default))))],[]⟩ ?_ z0 ?_
    ·kernel_rfl
    have HB:0 ≤ (List.replicate (Int.toNat (w64 (v1 - (w64 ((0:Int) - (0:Int)))))) (0:Int)).length:=by have hh:(0:Int) ≤ ((List.replicate (Int.toNat (w64 (v1 - (w64 ((0:Int) - (0:Int)))))) (0:Int)).length:Int):=(Int.natCast_nonneg ((List.replicate (Int.toNat (w64 (v1 - (w64 ((0:Int) - (0:Int)))))) (0:Int)).length)); omega
    refine AOps.extL 25 (cInt .u8) ((List.replicate (Int.toNat (w64 (v1 - (w64 ((0:Int) - (0:Int)))))) (0:Int)).take 0) rfl (take_len _ _ HB) (take_at (cInt .u8) (List.replicate (Int.toNat (w64 (v1 - (w64 ((0:Int) - (0:Int)))))) (0:Int)) _ HB) ?_
    refine AOps.go [9] [] [] [0] 0 ⟨[(0,q1 ((List.replicate (Int.toNat (w64 (v1 - (w64 ((0:Int) - (0:Int)))))) (0:Int)).take 0))],[]⟩ ?_ z0 trivial ?_
    ·kernel_rfl
    refine AOps.nil ?_
    exact ⟨(List.replicate (Int.toNat (w64 (v1 - (w64 ((0:Int) - (0:Int)))))) (0:Int)).take 0,h,rfl⟩
   ·replace h:=of_false h hb
    refine AWp.keepTo [0] 0 ⟨[(0,.tv (.sc (.slice none 0 0)))],[]⟩ ?_ z0 ?_
    ·kernel_rfl
    refine AWp.nilOwn 0 1 5 (fun i=>(cInt .u8) (([]:List Int).getD i default)) rfl ?_
    refine AWp.keepTo [0] 0 ⟨[(0,q1 ([]:List Int))],[]⟩ ?_ z0 ?_
    ·kernel_rfl
    refine AWp.skip ?_
    exact ⟨[],h,rfl⟩
  ·rintro v2 h
   refine AWp.seq ?_
   refine AWp.start [0,1] [] [] [0,4] 0 ⟨[(0,q1 v2),(4,.al (.slot 0 0,[]))],[]⟩ rfl ?_ z0 trivial ?_
   ·kernel_rfl
   refine AOps.nil ?_
   refine AWp.claim 4 (.slot 0 0) (k1 v2) rfl rfl rfl rfl ?_
   refine AWp.keepTo [4] 0 ⟨[(4,q1 v2)],[]⟩ ?_ z0 ?_
   ·kernel_rfl
   refine AWp.ret ?_
   cases h
   exact ⟨.inr rfl,rfl⟩

noncomputable def f61_b1 (v1:List (List Int)) (v2:Int) (v3:Int):Option ((Int × Int) ⊕ Out (List Int) Int) :=
 cond (decide (v3 < (v1.length:Int))) (if (0:Int) ≤ v3 ∧ v3 < (v1.length:Int) then cond (decide (w64 (v2 + ((v1.getD v3.toNat default).length:Int)) < (0:Int))) none (some (.inl (w64 (v2 + ((v1.getD v3.toNat default).length:Int)),w64 (v3 + (1:Int))))) else none) (some (.inr (.go v2)))

noncomputable def f61_b2 (v1:List (List Int)) (v7:List Int) (v8:Int):Option (((List Int) × Int) ⊕ Out (List Int) (List Int)) :=
 cond (decide (v8 < (v1.length:Int))) (if (0:Int) ≤ v8 ∧ v8 < (v1.length:Int) then if (v7.length + (v1.getD v8.toNat default).length) * 1 ≤ 140737488355328 then some (.inl (v7 ++ (v1.getD v8.toNat default),w64 (v8 + (1:Int)))) else none else none) (some (.inr (.go v7)))

noncomputable def f61 (v1:List (List Int)):Option (List Int) :=
 (iter (fun s=>f61_b1 v1 s.1 s.2) ((0:Int),(0:Int))).bind fun y=>match y with | .ret v5=>some v5 | .go v4=>(f64_e v4).bind fun v6=>(iter (fun s=>f61_b2 v1 s.1 s.2) (v6,(0:Int))).bind fun y=>match y with | .ret v10=>some v10 | .go v9=>some v9

theorem f61_ok (v1:List (List Int)) {r:(List Int)} (h:f61 v1 = some r):ACall Try.prog 61 [.tv (fzL 1 (cSl 1 (cInt .u8)) v1)] [] (.tv (ownL 1 5 (cInt .u8) r)) []:=by
 refine ACall.of1 (FF 36 0) Try.func61 rfl Try.ntmps61 Try.results61 (zz rfl) rfl rfl ?_
 refine AWp.seq ?_
 refine AWp.start [0] [] [] [0] 0 ⟨[(0,.tv (fzL 1 (cSl 1 (cInt .u8)) v1))],[]⟩ rfl ?_ z0 trivial ?_
 ·kernel_rfl
 refine AOps.nil ?_
 refine AWp.seq ?_
 refine AWp.start [0] [] [] [0,3] 0 ⟨[(0,.tv (fzL 1 (cSl 1 (cInt .u8)) v1)),(3,tI (0:Int))],[]⟩ rfl ?_ z0 trivial ?_
 ·kernel_rfl
 refine AOps.nil ?_
 refine AWp.seq ?_
 refine AWp.seq ?_
 refine AWp.start [0,1,2] [] [] [0,3,9,10,11] 0 ⟨[(0,.tv (fzL 1 (cSl 1 (cInt .u8)) v1)),(3,tI (0:Int)),(9,.tv (fzL 1 (cSl 1 (cInt .u8)) v1)),(10,tI (v1.length:Int)),(11,tI (0:Int))],[]⟩ rfl ?_ z0 trivial ?_
 ·kernel_rfl
 refine AOps.nil ?_
 refine AWp.block ?_
 obtain ⟨y,hy,h⟩:=of_bind h
 refine AWp.mono (AWp.loop (S:=Int × Int) (Y:=Out (List Int) Int) (fun s=>⟨[(0,.tv (fzL 1 (cSl 1 (cInt .u8)) v1)),(3,tI s.1),(9,.tv (fzL 1 (cSl 1 (cInt .u8)) v1)),(10,tI (v1.length:Int)),(11,tI s.2)],[]⟩) (fun s=>f61_b1 v1 s.1 s.2) (fun y e σ=>match y with | .ret r=>e = .ret ∧ σ = ⟨[(2,q1 r)],[]⟩ | .go v=>e = .exit 0 ∧ σ = ⟨[(0,.tv (fzL 1 (cSl 1 (cInt .u8)) v1)),(3,tI v)],[]⟩) ?_ hy) ?_
 ·rintro ⟨v2,v3⟩ o h
  refine AWp.seq ?_
  refine AWp.start [0] [] [] [0,3,9,10,11,12] 0 ⟨[(0,.tv (fzL 1 (cSl 1 (cInt .u8)) v1)),(3,tI v2),(9,.tv (fzL 1 (cSl 1 (cInt .u8)) v1)),(10,tI (v1.length:Int)),(11,tI v3),(12,tB (decide (v3 < (v1.length:Int))))],[]⟩ rfl ?_ z0 trivial ?_
  ·kernel_rfl
  refine AOps.nil ?_
  refine AWp.seq ?_
  refine AWp.cond rfl (fun hb=>?_) fun hb=>?_
  ·replace h:=of_true h hb
   refine AWp.keepTo [0,3,9,10,11] 0 ⟨[(0,.tv (fzL 1 (cSl 1 (cInt .u8)) v1)),(3,tI v2),(9,.tv (fzL 1 (cSl 1 (cInt .u8)) v1)),(10,tI (v1.length:Int)),(11,tI v3)],[]⟩ ?_ z0 ?_
   ·kernel_rfl
   refine AWp.skip ?_
   refine AWp.seq ?_
   refine AWp.block ?_
   refine AWp.seq ?_
   obtain ⟨hg,h⟩:=of_guard h
   refine AWp.start [0,1,2] [] [(0:Int) ≤ v3,v3 < (v1.length:Int)] [0,3,5,9,10,11] 0 ⟨[(0,.tv (fzL 1 (cSl 1 (cInt .u8)) v1)),(3,tI v2),(5,q0 (gD v1 v3)),(9,.tv (fzL 1 (cSl 1 (cInt .u8)) v1)),(10,tI (v1.length:Int)),(11,tI v3)],[]⟩ rfl ?_ z0 ⟨hg.1,hg.2⟩ ?_
   ·kernel_rfl
   refine AOps.nil ?_
   refine AWp.seq ?_
   refine AWp.start [0,1,2,3,4] [] [] [0,3,9,10,11] 0 ⟨[(0,.tv (fzL 1 (cSl 1 (cInt .u8)) v1)),(3,tI (w64 (v2 + ((gD v1 v3).length:Int)))),(9,.tv (fzL 1 (cSl 1 (cInt .u8)) v1)),(10,tI (v1.length:Int)),(11,tI v3)],[]⟩ rfl ?_ z0 trivial ?_
   ·kernel_rfl
   refine AOps.nil ?_
   refine AWp.seq ?_
   refine AWp.start [0,1] [] [] [0,3,9,10,11,20] 0 ⟨[(0,.tv (fzL 1 (cSl 1 (cInt .u8)) v1)),(3,tI (w64 (v2 + ((gD v1 v3).length:Int)))),(9,.tv (fzL 1 (cSl 1 (cInt .u8)) v1)),(10,tI (v1.length:Int)),(11,tI v3),(20,tB (decide (w64 (v2 + ((gD v1 v3).length:Int)) < (0:Int))))],[]⟩ rfl ?_ z0 trivial ?_
   ·kernel_rfl
   refine AOps.nil ?_
   refine AWp.cond rfl (fun hb=>?_) fun hb=>?_
   ·replace h:=of_true h hb
    refine AWp.keepTo [0,3,9,10,11] 0 ⟨[(0,.tv (fzL 1 (cSl 1 (cInt .u8)) v1)),(3,tI (w64 (v2 + ((gD v1 v3).length:Int)))),(9,.tv (fzL 1 (cSl 1 (cInt .u8)) v1)),(10,tI (v1.length:Int)),(11,tI v3)],[]⟩ ?_ z0 ?_
    ·kernel_rfl
    cases h
   ·replace h:=of_false h hb
    refine AWp.keepTo [0,3,9,10,11] 0 ⟨[(0,.tv (fzL 1 (cSl 1 (cInt .u8)) v1)),(3,tI (w64 (v2 + ((gD v1 v3).length:Int)))),(9,.tv (fzL 1 (cSl 1 (cInt .u8)) v1)),(10,tI (v1.length:Int)),(11,tI v3)],[]⟩ ?_ z0 ?_
    ·kernel_rfl
    refine AWp.skip ?_
    refine AWp.start [0,1] [] [] [0,3,9,10,11] 0 ⟨[(0,.tv (fzL 1 (cSl 1 (cInt .u8)) v1)),(3,tI (w64 (v2 + ((gD v1 v3).length:Int)))),(9,.tv (fzL 1 (cSl 1 (cInt .u8)) v1)),(10,tI (v1.length:Int)),(11,tI (w64 (v3 + (1:Int))))],[]⟩ rfl ?_ z0 trivial ?_
    ·kernel_rfl
    refine AOps.nil ?_
    cases h
    exact Or.inl ⟨_,rfl,rfl,rfl⟩
  ·replace h:=of_false h hb
   refine AWp.keepTo [0,3] 0 ⟨[(0,.tv (fzL 1 (cSl 1 (cInt .u8)) v1)),(3,tI v2)],[]⟩ ?_ z0 ?_
   ·kernel_rfl
   refine AWp.exit ?_
   cases h
   exact Or.inr ⟨_,rfl,by simp,rfl,rfl⟩
 ·intro e σ hp
  rcases y with v5 | v4
  ·obtain ⟨rfl,rfl⟩:=hp
   cases h
   exact ⟨.inr rfl,rfl⟩
  ·obtain ⟨rfl,rfl⟩:=hp
   refine AWp.seq ?_
   refine AWp.start [0] [1,2] [] [0,23] 0 ⟨[(0,.tv (fzL 1 (cSl 1 (cInt .u8)) v1)),(23,tI v4)],[]⟩ rfl ?_ z0 trivial ?_
   ·kernel_rfl
   obtain ⟨v6,hv6,h⟩:=of_bind h
   refine AOps.cons (AOne.callP (F:=(FF 36 0)) _ rfl rfl rfl _ rfl rfl _ _ rfl Try.call64 [.tv (.sc (.slice none 0 0)),tI v4] rfl rfl (f64_e_ok v4 hv6) rfl) ?_
   refine AOps.go [2] [] [] [0,6] 0 ⟨[(0,.tv (fzL 1 (cSl 1 (cInt .u8)) v1)),(6,q1 v6)],[]⟩ ?_ z0 trivial ?_
   ·kernel_rfl
   refine AOps.nil ?_
   refine AWp.seq ?_
   refine AWp.seq ?_
   refine AWp.start [0,1,2] [] [] [6,25,26,27] 0 ⟨[(6,q1 v6),(25,.tv (fzL 1 (cSl 1 (cInt .u8)) v1)),(26,tI (v1.length:Int)),(27,tI (0:Int))],[]⟩ rfl ?_ z0 trivial ?_
   ·kernel_rfl
   refine AOps.nil ?_
   refine AWp.block ?_
   obtain ⟨y,hy,h⟩:=of_bind h
   refine AWp.mono (AWp.loop (S:=(List Int) × Int) (Y:=Out (List Int) (List Int)) (fun s=>⟨[(6,q1 s.1),(25,.tv (fzL 1 (cSl 1 (cInt .u8)) v1)),(26,tI (v1.length:Int)),(27,tI s.2)],[]⟩) (fun s=>f61_b2 v1 s.1 s.2) (fun y e σ=>match y with | .ret r=>e = .ret ∧ σ = ⟨[(2,q1 r)],[]⟩ | .go v=>e = .exit 2 ∧ σ = ⟨[(6,q1 v)],[]⟩) ?_ hy) ?_
   ·rintro ⟨v7,v8⟩ o h
    refine AWp.seq ?_
    refine AWp.start [0] [] [] [6,25,26,27,28] 0 ⟨[(6,q1 v7),(25,.tv (fzL 1 (cSl 1 (cInt .u8)) v1)),(26,tI (v1.length:Int)),(27,tI v8),(28,tB (decide (v8 < (v1.length:Int))))],[]⟩ rfl ?_ z0 trivial ?_
    ·kernel_rfl
    refine AOps.nil ?_
    refine AWp.seq ?_
    refine AWp.cond rfl (fun hb=>?_) fun hb=>?_
    ·replace h:=of_true h hb
     refine AWp.keepTo [6,25,26,27] 0 ⟨[(6,q1 v7),(25,.tv (fzL 1 (cSl 1 (cInt .u8)) v1)),(26,tI (v1.length:Int)),(27,tI v8)],[]⟩ ?_ z0 ?_
     ·kernel_rfl
     refine AWp.skip ?_
     refine AWp.seq ?_
     refine AWp.block ?_
     refine AWp.seq ?_
     obtain ⟨hg,h⟩:=of_guard h
     refine AWp.start [0,1,2] [] [(0:Int) ≤ v8,v8 < (v1.length:Int)] [6,8,25,26,27] 0 ⟨[(6,q1 v7),(8,q0 (gD v1 v8)),(25,.tv (fzL 1 (cSl 1 (cInt .u8)) v1)),(26,tI (v1.length:Int)),(27,tI v8)],[]⟩ rfl ?_ z0 ⟨hg.1,hg.2⟩ ?_
     ·kernel_rfl
     refine AOps.nil ?_
     obtain ⟨hg,h⟩:=of_guard h
     refine AWp.start [0,1,2] [3] [(v7.length + (gD v1 v8).length) * 1 ≤ 140737488355328,PlainTo v7.length (fun i=>(cInt .u8) (v7.getD i default)),PlainTo ((gD v1 v8).length) (fun i=>(cInt .u8) ((gD v1 v8).getD i default))] [25,26,27,33] 0 ⟨[(25,.tv (fzL 1 (cSl 1 (cInt .u8)) v1)),(26,tI (v1.length:Int)),(27,tI v8),(33,.tv (.own 1 5 (v7.length + (gD v1 v8).length) (appF v7.length (fun i=>(cInt .u8) (v7.getD i default)) (fun i=>(cInt .u8) ((gD v1 v8).getD i default)))))],[]⟩ rfl ?_ z0 ⟨hg,(fun _ _=>rfl),(fun _ _=>rfl)⟩ ?_
     ·kernel_rfl
     refine AOps.extL 33 (cInt .u8) (v7 ++ (gD v1 v8)) rfl List.length_append.symm (app_at (cInt .u8) v7 (gD v1 v8)) ?_
     refine AOps.go [3] [] [] [6,25,26,27] 0 ⟨[(6,q1 (v7 ++ (gD v1 v8))),(25,.tv (fzL 1 (cSl 1 (cInt .u8)) v1)),(26,tI (v1.length:Int)),(27,tI v8)],[]⟩ ?_ z0 trivial ?_
     ·kernel_rfl
     refine AOps.nil ?_
     refine AWp.start [0,1] [] [] [6,25,26,27] 0 ⟨[(6,q1 (v7 ++ (gD v1 v8))),(25,.tv (fzL 1 (cSl 1 (cInt .u8)) v1)),(26,tI (v1.length:Int)),(27,tI (w64 (v8 + (1:Int))))],[]⟩ rfl ?_ z0 trivial ?_
     ·kernel_rfl
     refine AOps.nil ?_
     cases h
     exact Or.inl ⟨_,rfl,rfl,rfl⟩
    ·replace h:=of_false h hb
     refine AWp.keepTo [6] 0 ⟨[(6,q1 v7)],[]⟩ ?_ z0 ?_
     ·kernel_rfl
     refine AWp.exit ?_
     cases h
     exact Or.inr ⟨_,rfl,by simp,rfl,rfl⟩
   ·intro e σ hp
    rcases y with v10 | v9
    ·obtain ⟨rfl,rfl⟩:=hp
     cases h
     exact ⟨.inr rfl,rfl⟩
    ·obtain ⟨rfl,rfl⟩:=hp
     refine AWp.seq ?_
     refine AWp.start [0,1] [] [] [2,6] 0 ⟨[(2,.al (.slot 6 0,[])),(6,q1 v9)],[]⟩ rfl ?_ z0 trivial ?_
     ·kernel_rfl
     refine AOps.nil ?_
     refine AWp.claim 2 (.slot 6 0) (k1 v9) rfl rfl rfl rfl ?_
     refine AWp.keepTo [2] 0 ⟨[(2,q1 v9)],[]⟩ ?_ z0 ?_
     ·kernel_rfl
     refine AWp.ret ?_
     cases h
     exact ⟨.inr rfl,rfl⟩

noncomputable def f39 (v1:List Int):Option (List Int) :=
 (f61 ([[IntKind.wrap .u8 (Int.fdiv (v1.length:Int) ((2:Int) ^ (min (Int.toNat (24:Int)) (IntKind.bits .i64)))),IntKind.wrap .u8 (Int.fdiv (v1.length:Int) ((2:Int) ^ (min (Int.toNat (16:Int)) (IntKind.bits .i64)))),IntKind.wrap .u8 (Int.fdiv (v1.length:Int) ((2:Int) ^ (min (Int.toNat (8:Int)) (IntKind.bits .i64)))),IntKind.wrap .u8 (v1.length:Int)],v1,[IntKind.wrap .u8 (Int.fdiv (v1.length:Int) ((2:Int) ^ (min (Int.toNat (24:Int)) (IntKind.bits .i64)))),IntKind.wrap .u8 (Int.fdiv (v1.length:Int) ((2:Int) ^ (min (Int.toNat (16:Int)) (IntKind.bits .i64)))),IntKind.wrap .u8 (Int.fdiv (v1.length:Int) ((2:Int) ^ (min (Int.toNat (8:Int)) (IntKind.bits .i64)))),IntKind.wrap .u8 (v1.length:Int)]])).bind fun v2=>some v2

theorem f39_ok (v1:List Int) {r:(List Int)} (h:f39 v1 = some r):ACall Try.prog 39 [.tv (fzL 1 (cInt .u8) v1)] [] (.tv (ownL 1 5 (cInt .u8) r)) []:=by
 refine ACall.of1 (FF 24 0) Try.func39 rfl Try.ntmps39 Try.results39 (zz rfl) rfl rfl ?_
 refine AWp.seq ?_
 refine AWp.start [0] [] [] [0] 0 ⟨[(0,q0 v1)],[]⟩ rfl ?_ z0 trivial ?_
 ·kernel_rfl
 refine AOps.nil ?_
 refine AWp.seq ?_
 refine AWp.start [0,1,2] [] [] [0,3] 0 ⟨[(0,q0 v1),(3,tI (v1.length:Int))],[]⟩ rfl ?_ z0 trivial ?_
 ·kernel_rfl
 refine AOps.nil ?_
 refine AWp.seq ?_
 refine AWp.start [0,1,2,3,4,5,6,7,8,9,10,11] [12] [(0:Int) ≤ (24:Int),(0:Int) ≤ (16:Int),(0:Int) ≤ (8:Int)] [0,18] 0 ⟨[(0,q0 v1),(18,.tv (.own 1 5 4 (newRowF [.int .u8 (IntKind.wrap .u8 (Int.fdiv (v1.length:Int) ((2:Int) ^ (min (Int.toNat (24:Int)) (IntKind.bits .i64))))),.int .u8 (IntKind.wrap .u8 (Int.fdiv (v1.length:Int) ((2:Int) ^ (min (Int.toNat (16:Int)) (IntKind.bits .i64))))),.int .u8 (IntKind.wrap .u8 (Int.fdiv (v1.length:Int) ((2:Int) ^ (min (Int.toNat (8:Int)) (IntKind.bits .i64))))),.int .u8 (IntKind.wrap .u8 (v1.length:Int))] 1)))],[]⟩ rfl ?_ z0 ⟨(by decide:(0:Int) ≤ (24:Int)),(by decide:(0:Int) ≤ (16:Int)),(by decide:(0:Int) ≤ (8:Int))⟩ ?_
 ·kernel_rfl
 refine AOps.extL 18 (cInt .u8) [IntKind.wrap .u8 (Int.fdiv (v1.length:Int) ((2:Int) ^ (min (Int.toNat (24:Int)) (IntKind.bits .i64)))),IntKind.wrap .u8 (Int.fdiv (v1.length:Int) ((2:Int) ^ (min (Int.toNat (16:Int)) (IntKind.bits .i64)))),IntKind.wrap .u8 (Int.fdiv (v1.length:Int) ((2:Int) ^ (min (Int.toNat (8:Int)) (IntKind.bits .i64)))),IntKind.wrap .u8 (v1.length:Int)] rfl rfl (row_at (cInt .u8) 1 (fun _=>rfl) [IntKind.wrap .u8 (Int.fdiv (v1.length:Int) ((2:Int) ^ (min (Int.toNat (24:Int)) (IntKind.bits .i64)))),IntKind.wrap .u8 (Int.fdiv (v1.length:Int) ((2:Int) ^ (min (Int.toNat (16:Int)) (IntKind.bits .i64)))),IntKind.wrap .u8 (Int.fdiv (v1.length:Int) ((2:Int) ^ (min (Int.toNat (8:Int)) (IntKind.bits .i64)))),IntKind.wrap .u8 (v1.length:Int)] _ rfl) ?_
 refine AOps.go [12] [] [] [0,4] 0 ⟨[(0,q0 v1),(4,q1 [IntKind.wrap .u8 (Int.fdiv (v1.length:Int) ((2:Int) ^ (min (Int.toNat (24:Int)) (IntKind.bits .i64)))),IntKind.wrap .u8 (Int.fdiv (v1.length:Int) ((2:Int) ^ (min (Int.toNat (16:Int)) (IntKind.bits .i64)))),IntKind.wrap .u8 (Int.fdiv (v1.length:Int) ((2:Int) ^ (min (Int.toNat (8:Int)) (IntKind.bits .i64)))),IntKind.wrap .u8 (v1.length:Int)])],[]⟩ ?_ z0 trivial ?_
 ·kernel_rfl
 refine AOps.nil ?_
 refine AWp.seq ?_
 refine AWp.freezeL 4 (cInt .u8) [IntKind.wrap .u8 (Int.fdiv (v1.length:Int) ((2:Int) ^ (min (Int.toNat (24:Int)) (IntKind.bits .i64)))),IntKind.wrap .u8 (Int.fdiv (v1.length:Int) ((2:Int) ^ (min (Int.toNat (16:Int)) (IntKind.bits .i64)))),IntKind.wrap .u8 (Int.fdiv (v1.length:Int) ((2:Int) ^ (min (Int.toNat (8:Int)) (IntKind.bits .i64)))),IntKind.wrap .u8 (v1.length:Int)] rfl (fun _=>rfl) ?_
 refine AWp.start [0,1,2,3] [4,5] [] [22] 0 ⟨[(22,.tv (.own 1 22 3 (newRowF [k0 [IntKind.wrap .u8 (Int.fdiv (v1.length:Int) ((2:Int) ^ (min (Int.toNat (24:Int)) (IntKind.bits .i64)))),IntKind.wrap .u8 (Int.fdiv (v1.length:Int) ((2:Int) ^ (min (Int.toNat (16:Int)) (IntKind.bits .i64)))),IntKind.wrap .u8 (Int.fdiv (v1.length:Int) ((2:Int) ^ (min (Int.toNat (8:Int)) (IntKind.bits .i64)))),IntKind.wrap .u8 (v1.length:Int)],k0 v1,k0 [IntKind.wrap .u8 (Int.fdiv (v1.length:Int) ((2:Int) ^ (min (Int.toNat (24:Int)) (IntKind.bits .i64)))),IntKind.wrap .u8 (Int.fdiv (v1.length:Int) ((2:Int) ^ (min (Int.toNat (16:Int)) (IntKind.bits .i64)))),IntKind.wrap .u8 (Int.fdiv (v1.length:Int) ((2:Int) ^ (min (Int.toNat (8:Int)) (IntKind.bits .i64)))),IntKind.wrap .u8 (v1.length:Int)]] 1)))],[]⟩ rfl ?_ z0 trivial ?_
 ·kernel_rfl
 refine AOps.extL 22 (cSl 1 (cInt .u8)) ([[IntKind.wrap .u8 (Int.fdiv (v1.length:Int) ((2:Int) ^ (min (Int.toNat (24:Int)) (IntKind.bits .i64)))),IntKind.wrap .u8 (Int.fdiv (v1.length:Int) ((2:Int) ^ (min (Int.toNat (16:Int)) (IntKind.bits .i64)))),IntKind.wrap .u8 (Int.fdiv (v1.length:Int) ((2:Int) ^ (min (Int.toNat (8:Int)) (IntKind.bits .i64)))),IntKind.wrap .u8 (v1.length:Int)],v1,[IntKind.wrap .u8 (Int.fdiv (v1.length:Int) ((2:Int) ^ (min (Int.toNat (24:Int)) (IntKind.bits .i64)))),IntKind.wrap .u8 (Int.fdiv (v1.length:Int) ((2:Int) ^ (min (Int.toNat (16:Int)) (IntKind.bits .i64)))),IntKind.wrap .u8 (Int.fdiv (v1.length:Int) ((2:Int) ^ (min (Int.toNat (8:Int)) (IntKind.bits .i64)))),IntKind.wrap .u8 (v1.length:Int)]]) rfl rfl (row_at (cSl 1 (cInt .u8)) 1 (fun _=>rfl) [[IntKind.wrap .u8 (Int.fdiv (v1.length:Int) ((2:Int) ^ (min (Int.toNat (24:Int)) (IntKind.bits .i64)))),IntKind.wrap .u8 (Int.fdiv (v1.length:Int) ((2:Int) ^ (min (Int.toNat (16:Int)) (IntKind.bits .i64)))),IntKind.wrap .u8 (Int.fdiv (v1.length:Int) ((2:Int) ^ (min (Int.toNat (8:Int)) (IntKind.bits .i64)))),IntKind.wrap .u8 (v1.length:Int)],v1,[IntKind.wrap .u8 (Int.fdiv (v1.length:Int) ((2:Int) ^ (min (Int.toNat (24:Int)) (IntKind.bits .i64)))),IntKind.wrap .u8 (Int.fdiv (v1.length:Int) ((2:Int) ^ (min (Int.toNat (16:Int)) (IntKind.bits .i64)))),IntKind.wrap .u8 (Int.fdiv (v1.length:Int) ((2:Int) ^ (min (Int.toNat (8:Int)) (IntKind.bits .i64)))),IntKind.wrap .u8 (v1.length:Int)]] _ rfl) ?_
 refine AOps.freezeL 22 (cSl 1 (cInt .u8)) ([[IntKind.wrap .u8 (Int.fdiv (v1.length:Int) ((2:Int) ^ (min (Int.toNat (24:Int)) (IntKind.bits .i64)))),IntKind.wrap .u8 (Int.fdiv (v1.length:Int) ((2:Int) ^ (min (Int.toNat (16:Int)) (IntKind.bits .i64)))),IntKind.wrap .u8 (Int.fdiv (v1.length:Int) ((2:Int) ^ (min (Int.toNat (8:Int)) (IntKind.bits .i64)))),IntKind.wrap .u8 (v1.length:Int)],v1,[IntKind.wrap .u8 (Int.fdiv (v1.length:Int) ((2:Int) ^ (min (Int.toNat (24:Int)) (IntKind.bits .i64)))),IntKind.wrap .u8 (Int.fdiv (v1.length:Int) ((2:Int) ^ (min (Int.toNat (16:Int)) (IntKind.bits .i64)))),IntKind.wrap .u8 (Int.fdiv (v1.length:Int) ((2:Int) ^ (min (Int.toNat (8:Int)) (IntKind.bits .i64)))),IntKind.wrap .u8 (v1.length:Int)]]) rfl (fun _=>rfl) ?_
 obtain ⟨v2,hv2,h⟩:=of_bind h
 refine AOps.cons (AOne.callP (F:=(FF 24 0)) _ rfl rfl rfl _ rfl rfl _ _ rfl Try.call61 [.tv (fzL 1 (cSl 1 (cInt .u8)) ([[IntKind.wrap .u8 (Int.fdiv (v1.length:Int) ((2:Int) ^ (min (Int.toNat (24:Int)) (IntKind.bits .i64)))),IntKind.wrap .u8 (Int.fdiv (v1.length:Int) ((2:Int) ^ (min (Int.toNat (16:Int)) (IntKind.bits .i64)))),IntKind.wrap .u8 (Int.fdiv (v1.length:Int) ((2:Int) ^ (min (Int.toNat (8:Int)) (IntKind.bits .i64)))),IntKind.wrap .u8 (v1.length:Int)],v1,[IntKind.wrap .u8 (Int.fdiv (v1.length:Int) ((2:Int) ^ (min (Int.toNat (24:Int)) (IntKind.bits .i64)))),IntKind.wrap .u8 (Int.fdiv (v1.length:Int) ((2:Int) ^ (min (Int.toNat (16:Int)) (IntKind.bits .i64)))),IntKind.wrap .u8 (Int.fdiv (v1.length:Int) ((2:Int) ^ (min (Int.toNat (8:Int)) (IntKind.bits .i64)))),IntKind.wrap .u8 (v1.length:Int)]]))] rfl rfl (f61_ok ([[IntKind.wrap .u8 (Int.fdiv (v1.length:Int) ((2:Int) ^ (min (Int.toNat (24:Int)) (IntKind.bits .i64)))),IntKind.wrap .u8 (Int.fdiv (v1.length:Int) ((2:Int) ^ (min (Int.toNat (16:Int)) (IntKind.bits .i64)))),IntKind.wrap .u8 (Int.fdiv (v1.length:Int) ((2:Int) ^ (min (Int.toNat (8:Int)) (IntKind.bits .i64)))),IntKind.wrap .u8 (v1.length:Int)],v1,[IntKind.wrap .u8 (Int.fdiv (v1.length:Int) ((2:Int) ^ (min (Int.toNat (24:Int)) (IntKind.bits .i64)))),IntKind.wrap .u8 (Int.fdiv (v1.length:Int) ((2:Int) ^ (min (Int.toNat (16:Int)) (IntKind.bits .i64)))),IntKind.wrap .u8 (Int.fdiv (v1.length:Int) ((2:Int) ^ (min (Int.toNat (8:Int)) (IntKind.bits .i64)))),IntKind.wrap .u8 (v1.length:Int)]]) hv2) rfl) ?_
 refine AOps.go [5] [] [] [2] 0 ⟨[(2,q1 v2)],[]⟩ ?_ z0 trivial ?_
 ·kernel_rfl
 refine AOps.nil ?_
 refine AWp.ret ?_
 cases h
 exact ⟨.inr rfl,rfl⟩

noncomputable def f17o_j1 (v2:T64) (v9:List Int):Option (Int × T64) :=
 cond (decide ((v9.length:Int) > (20000:Int))) (some ((4:Int),v2)) (some ((0:Int),T64.mk v2.f0 v2.f1 v9 (v9.length:Int) v2.f4))

noncomputable def f17o_j2 (v1:List Int) (v2:T64) (v10:List Int):Option (Int × T64) :=
 if (v10.length + v1.length) * 1 ≤ 140737488355328 then if ((v10 ++ v1).length + [(10:Int)].length) * 1 ≤ 140737488355328 then f17o_j1 v2 ((v10 ++ v1) ++ [(10:Int)]) else none else none

noncomputable def f17o (v1:List Int) (v2:T64):Option (Int × T64) :=
 (f41 v2).bind fun v3=>cond v3 (some ((7:Int),v2)) ((f42 v2).bind fun v4=>cond (!v4) (some ((110:Int),v2)) ((cond (decide ((v1.length:Int) > (1000:Int))) (some true) ((cond (v2.f0 == ([108,105,110,101,115]:List UInt8)) ((f43 v1 (10:Int)).bind fun v7=>some (decide (v7 ≥ (0:Int)))) (some false)).bind fun v6=>some v6)).bind fun v5=>cond v5 (some ((2:Int),v2)) (cond v2.f4 (some ((110:Int),v2)) (if (0:Int) ≤ v2.f3 ∧ v2.f3 ≤ (v2.f2.length:Int) then (f37 ((v2.f2.take (Int.toNat v2.f3)).drop 0)).bind fun v8=>cond (v2.f0 == ([108,105,110,101,115]:List UInt8)) ((cond (decide ((v8.length:Int) > (0:Int))) (if (0:Int) ≤ w64 ((v8.length:Int) - (1:Int)) ∧ w64 ((v8.length:Int) - (1:Int)) < (v8.length:Int) then some (v8.getD (Int.toNat (w64 ((v8.length:Int) - (1:Int)))) default != (10:Int)) else none) (some false)).bind fun v11=>cond v11 (if (v8.length + [(10:Int)].length) * 1 ≤ 140737488355328 then f17o_j2 v1 v2 (v8 ++ [(10:Int)]) else none) (f17o_j2 v1 v2 v8)) ((f39 v1).bind fun v12=>if (v8.length + v12.length) * 1 ≤ 140737488355328 then f17o_j1 v2 (v8 ++ v12) else none) else none))))

theorem f17o_ok (v1:List Int) (v2:T64) {r:Int × T64} (h:f17o v1 v2 = some r):ACall Try.prog 17 [.pc 0 0,.tv (fzL 1 (cInt .u8) v1)] [.cells 65 [.str v2.f0,.int .i64 v2.f1,fzL 1 (cInt .u8) v2.f2,.int .i64 v2.f3,.bool v2.f4]] (.tv (.int .i64 r.1)) [.cells 65 [.str r.2.f0,.int .i64 r.2.f1,fzL 1 (cInt .u8) r.2.f2,.int .i64 r.2.f3,.bool r.2.f4]]:=by
 refine ACall.of1 (FF 85 1) Try.func17 rfl Try.ntmps17 Try.results17 (zz rfl) rfl rfl ?_
 refine AWp.seq ?_
 refine AWp.start [0] [] [] [0,1] 1 ⟨[(0,.pc 0 0),(1,q0 v1)],[.cells 65 (c64 v2)]⟩ rfl ?_ (zz rfl) trivial ?_
 ·kernel_rfl
 refine AOps.nil ?_
 refine AWp.seq ?_
 refine AWp.block ?_
 refine AWp.seq ?_
 refine AWp.start [0] [1,2] [] [0,1,7] 1 ⟨[(0,.pc 0 0),(1,q0 v1),(7,.pc 0 0)],[.cells 65 (c64 v2)]⟩ rfl ?_ (zz rfl) trivial ?_
 ·kernel_rfl
 obtain ⟨v3,hv3,h⟩:=of_bind h
 refine AOps.cons (AOne.callR (F:=(FF 85 1)) _ rfl rfl rfl _ rfl rfl _ _ rfl Try.call41 [] [.rp (c64 v2)] rfl trivial (f41_ok v2 hv3) (ind_of rfl) rfl) ?_
 refine AOps.go [2] [] [] [0,1,6] 1 ⟨[(0,.pc 0 0),(1,q0 v1),(6,tB v3)],[.cells 65 (c64 v2)]⟩ ?_ (zz rfl) trivial ?_
 ·kernel_rfl
 refine AOps.nil ?_
 refine AWp.cond rfl (fun hb=>?_) fun hb=>?_
 ·replace h:=of_true h hb
  refine AWp.keepTo [] 1 ⟨[],[.cells 65 (c64 v2)]⟩ ?_ (zz rfl) ?_
  ·kernel_rfl
  refine AWp.seq ?_
  refine AWp.start [0] [] [] [4] 1 ⟨[(4,tI (7:Int))],[.cells 65 (c64 v2)]⟩ rfl ?_ (zz rfl) trivial ?_
  ·kernel_rfl
  refine AOps.nil ?_
  refine AWp.ret ?_
  cases h
  exact ⟨.inr rfl,rfl⟩
 ·replace h:=of_false h hb
  refine AWp.keepTo [0,1] 1 ⟨[(0,.pc 0 0),(1,q0 v1)],[.cells 65 (c64 v2)]⟩ ?_ (zz rfl) ?_
  ·kernel_rfl
  refine AWp.seq ?_
  refine AWp.start [0] [1,2,3] [] [0,1,10] 1 ⟨[(0,.pc 0 0),(1,q0 v1),(10,.pc 0 0)],[.cells 65 (c64 v2)]⟩ rfl ?_ (zz rfl) trivial ?_
  ·kernel_rfl
  obtain ⟨v4,hv4,h⟩:=of_bind h
  refine AOps.cons (AOne.callR (F:=(FF 85 1)) _ rfl rfl rfl _ rfl rfl _ _ rfl Try.call42 [] [.rp (c64 v2)] rfl trivial (f42_ok v2 hv4) (ind_of rfl) rfl) ?_
  refine AOps.go [2,3] [] [] [0,1,9] 1 ⟨[(0,.pc 0 0),(1,q0 v1),(9,tB (!v4))],[.cells 65 (c64 v2)]⟩ ?_ (zz rfl) trivial ?_
  ·kernel_rfl
  refine AOps.nil ?_
  refine AWp.cond rfl (fun hb=>?_) fun hb=>?_
  ·replace h:=of_true h hb
   refine AWp.keepTo [] 1 ⟨[],[.cells 65 (c64 v2)]⟩ ?_ (zz rfl) ?_
   ·kernel_rfl
   refine AWp.seq ?_
   refine AWp.start [0] [] [] [4] 1 ⟨[(4,tI (110:Int))],[.cells 65 (c64 v2)]⟩ rfl ?_ (zz rfl) trivial ?_
   ·kernel_rfl
   refine AOps.nil ?_
   refine AWp.ret ?_
   cases h
   exact ⟨.inr rfl,rfl⟩
  ·replace h:=of_false h hb
   refine AWp.keepTo [0,1] 1 ⟨[(0,.pc 0 0),(1,q0 v1)],[.cells 65 (c64 v2)]⟩ ?_ (zz rfl) ?_
   ·kernel_rfl
   refine AWp.seq ?_
   refine AWp.start [0,1,2,3] [4,5,6,7,8,9,10,11,12,13,14,15] [] [0,1,17] 1 ⟨[(0,.pc 0 0),(1,q0 v1),(17,tB (decide ((v1.length:Int) > (1000:Int))))],[.cells 65 (c64 v2)]⟩ rfl ?_ (zz rfl) trivial ?_
   ·kernel_rfl
   obtain ⟨v5,hc4,h⟩:=of_bind h
   refine AOps.cut [4,5,6,7,8,9,10,11,12,13,14] [15] (fun σ=>σ = ⟨[(0,.pc 0 0),(1,q0 v1),(28,tB v5)],[.cells 65 (c64 v2)]⟩) ?_ fun σ' hJ=>?_
   ·refine AOps.split (fun b=>⟨[(0,.pc 0 0),(1,q0 v1),(17,tB b)],[.cells 65 (c64 v2)]⟩) _ (fun hb=>?_) fun hb=>?_
    ·replace hc4:=of_true hc4 hb
     refine AOps.go [4,5,6,7,8,9,10,11,12,13,14] [] [] [0,1,28] 1 ⟨[(0,.pc 0 0),(1,q0 v1),(28,tB true)],[.cells 65 (c64 v2)]⟩ ?_ (zz rfl) trivial ?_
     ·kernel_rfl
     cases hc4
     exact AOps.nil rfl
    ·replace hc4:=of_false hc4 hb
     refine AOps.go [4,5,6,7,8,9] [10,11,12,13,14] [] [0,1,17,23] 1 ⟨[(0,.pc 0 0),(1,q0 v1),(17,tB false),(23,tB (v2.f0 == ([108,105,110,101,115]:List UInt8)))],[.cells 65 (c64 v2)]⟩ ?_ (zz rfl) trivial ?_
     ·kernel_rfl
     obtain ⟨v6,hc10,hc4⟩:=of_bind hc4
     refine AOps.cut [10,11,12,13] [14] (fun σ=>σ = ⟨[(0,.pc 0 0),(1,q0 v1),(17,tB false),(27,tB v6)],[.cells 65 (c64 v2)]⟩) ?_ fun σ' hJ=>?_
     ·refine AOps.split (fun b=>⟨[(0,.pc 0 0),(1,q0 v1),(17,tB false),(23,tB b)],[.cells 65 (c64 v2)]⟩) _ (fun hb=>?_) fun hb=>?_
      ·replace hc10:=of_true hc10 hb
       refine AOps.go [10] [11,12,13] [] [0,1,17,23,24] 1 ⟨[(0,.pc 0 0),(1,q0 v1),(17,tB false),(23,tB true),(24,q0 v1)],[.cells 65 (c64 v2)]⟩ ?_ (zz rfl) trivial ?_
       ·kernel_rfl
       obtain ⟨v7,hv7,hc10⟩:=of_bind hc10
       refine AOps.cons (AOne.callP (F:=(FF 85 1)) _ rfl rfl rfl _ rfl rfl _ _ rfl Try.call43 [q0 v1,.tv (.int .u8 (10:Int))] rfl rfl (f43_ok v1 (10:Int) hv7) rfl) ?_
       refine AOps.go [12,13] [] [] [0,1,17,27] 1 ⟨[(0,.pc 0 0),(1,q0 v1),(17,tB false),(27,tB (decide (v7 ≥ (0:Int))))],[.cells 65 (c64 v2)]⟩ ?_ (zz rfl) trivial ?_
       ·kernel_rfl
       cases hc10
       exact AOps.nil rfl
      ·replace hc10:=of_false hc10 hb
       refine AOps.go [10,11,12,13] [] [] [0,1,17,27] 1 ⟨[(0,.pc 0 0),(1,q0 v1),(17,tB false),(27,tB false)],[.cells 65 (c64 v2)]⟩ ?_ (zz rfl) trivial ?_
       ·kernel_rfl
       cases hc10
       exact AOps.nil rfl
     subst hJ
     refine AOps.go [14] [] [] [0,1,28] 1 ⟨[(0,.pc 0 0),(1,q0 v1),(28,tB v6)],[.cells 65 (c64 v2)]⟩ ?_ (zz rfl) trivial ?_
     ·kernel_rfl
     cases hc4
     exact AOps.nil rfl
   subst hJ
   refine AOps.go [15] [] [] [0,1,13] 1 ⟨[(0,.pc 0 0),(1,q0 v1),(13,tB v5)],[.cells 65 (c64 v2)]⟩ ?_ (zz rfl) trivial ?_
   ·kernel_rfl
   refine AOps.nil ?_
   refine AWp.cond rfl (fun hb=>?_) fun hb=>?_
   ·replace h:=of_true h hb
    refine AWp.keepTo [] 1 ⟨[],[.cells 65 (c64 v2)]⟩ ?_ (zz rfl) ?_
    ·kernel_rfl
    refine AWp.seq ?_
    refine AWp.start [0] [] [] [4] 1 ⟨[(4,tI (2:Int))],[.cells 65 (c64 v2)]⟩ rfl ?_ (zz rfl) trivial ?_
    ·kernel_rfl
    refine AOps.nil ?_
    refine AWp.ret ?_
    cases h
    exact ⟨.inr rfl,rfl⟩
   ·replace h:=of_false h hb
    refine AWp.keepTo [0,1] 1 ⟨[(0,.pc 0 0),(1,q0 v1)],[.cells 65 (c64 v2)]⟩ ?_ (zz rfl) ?_
    ·kernel_rfl
    refine AWp.seq ?_
    refine AWp.start [0,1,2,3,4] [] [] [0,1,29] 1 ⟨[(0,.pc 0 0),(1,q0 v1),(29,tB v2.f4)],[.cells 65 (c64 v2)]⟩ rfl ?_ (zz rfl) trivial ?_
    ·kernel_rfl
    refine AOps.nil ?_
    refine AWp.cond rfl (fun hb=>?_) fun hb=>?_
    ·replace h:=of_true h hb
     refine AWp.keepTo [] 1 ⟨[],[.cells 65 (c64 v2)]⟩ ?_ (zz rfl) ?_
     ·kernel_rfl
     refine AWp.seq ?_
     refine AWp.start [0] [] [] [4] 1 ⟨[(4,tI (110:Int))],[.cells 65 (c64 v2)]⟩ rfl ?_ (zz rfl) trivial ?_
     ·kernel_rfl
     refine AOps.nil ?_
     refine AWp.ret ?_
     cases h
     exact ⟨.inr rfl,rfl⟩
    ·replace h:=of_false h hb
     refine AWp.keepTo [0,1] 1 ⟨[(0,.pc 0 0),(1,q0 v1)],[.cells 65 (c64 v2)]⟩ ?_ (zz rfl) ?_
     ·kernel_rfl
     refine AWp.skip ?_
     refine AWp.seq ?_
     refine AWp.draw FFm _ (n:=11) rfl (ls:=#[n1,n1,n1,n1,n1,n1,n1,n1,n1,n1,n1]) rfl ?_ (fun _ h=>h)
     refine AAny.go (by kernel_rfl) [0,1,2,4,5,6] (fuel':=5) rfl [] #[y1,y1,y1,n1,y1,y1,y1,n1,n1,n1,n1] [0,1,36,40] 1 ⟨[(0,.pc 0 0),(1,q0 v1),(36,.pc 0 2),(40,.pc 0 3)],[.cells 65 (c64 v2)]⟩ ?_ (zz rfl) trivial ?_
     ·kernel_rfl
     refine AAny.goR (by kernel_rfl) (i:=3) (fuel':=4) [8,9,10] rfl (by kernel_rfl) (by kernel_rfl) [] #[y1,y1,y1,y1,y1,y1,y1,n1,n1,n1,n1] rfl [0,1,37,40] 1 ⟨[(0,.pc 0 0),(1,q0 v1),(37,q0 v2.f2),(40,.pc 0 3)],[.cells 65 (c64 v2)]⟩ ?_ (zz rfl) trivial ?_
     ·kernel_rfl
     refine AAny.step (i:=7) (fuel':=3) rfl (by kernel_rfl) [] #[y1,y1,y1,y1,y1,y1,y1,y1,n1,n1,n1] rfl [0,1,37,41] 1 ⟨[(0,.pc 0 0),(1,q0 v1),(37,q0 v2.f2),(41,tI v2.f3)],[.cells 65 (c64 v2)]⟩ ?_ (zz rfl) trivial ?_
     ·kernel_rfl
     obtain ⟨hg,h⟩:=of_guard h
     refine AAny.go (by kernel_rfl) [8] (fuel':=2) rfl [(0:Int) ≤ (0:Int),(0:Int) ≤ v2.f3,v2.f3 ≤ (v2.f2.length:Int)] #[y1,y1,y1,y1,y1,y1,y1,y1,y1,n1,n1] [0,1,42] 1 ⟨[(0,.pc 0 0),(1,q0 v1),(42,.tv (.fz 1 ((Int.toNat v2.f3) - 0) (fun i=>(cInt .u8) (v2.f2.getD (0 + i) default))))],[.cells 65 (c64 v2)]⟩ ?_ (zz rfl) ⟨(by decide:(0:Int) ≤ (0:Int)),hg.1,hg.2⟩ ?_
     ·kernel_rfl
     have hb:(Int.toNat v2.f3) ≤ v2.f2.length:=by have hh:v2.f3 ≤ (v2.f2.length:Int):=hg.2; omega
     refine AAny.extFzL (s:=42) rfl (sub_len v2.f2 0 (Int.toNat v2.f3) hb) (sub_at (cInt .u8) v2.f2 0 (Int.toNat v2.f3) hb) ?_
     obtain ⟨v8,hv8,h⟩:=of_bind h
     refine AAny.serial (i:=9) (fuel:=1) (by kernel_rfl) (AOne.callP (F:=(FF 85 1)) _ rfl rfl rfl _ rfl rfl _ _ rfl Try.call37 [q0 ((v2.f2.take (Int.toNat v2.f3)).drop 0)] rfl rfl (f37_ok ((v2.f2.take (Int.toNat v2.f3)).drop 0) hv8) rfl) ?_
     refine AAny.keepTo [0,1,43] 1 ⟨[(0,.pc 0 0),(1,q0 v1),(43,q1 v8)],[.cells 65 (c64 v2)]⟩ #[y1,y1,y1,y1,y1,y1,y1,y1,y1,y1,n1] ?_ rfl (zz rfl) ?_
     ·kernel_rfl
     refine AAny.step (i:=10) (fuel':=0) rfl (by kernel_rfl) [] #[y1,y1,y1,y1,y1,y1,y1,y1,y1,y1,y1] rfl [0,1,5] 1 ⟨[(0,.pc 0 0),(1,q0 v1),(5,q1 v8)],[.cells 65 (c64 v2)]⟩ ?_ (zz rfl) trivial ?_
     ·kernel_rfl
     refine AAny.keepTo [0,1,5] 1 ⟨[(0,.pc 0 0),(1,q0 v1),(5,q1 v8)],[.cells 65 (c64 v2)]⟩ _ ?_ rfl (zz rfl) (AAny.done (by kernel_rfl) ?_)
     ·kernel_rfl
     refine AWp.join (V:=(List Int)) (fun w=>⟨[(0,.pc 0 0),(5,q1 w)],[.cells 65 (c64 v2)]⟩) (fun w=>f17o_j1 v2 w = some r) ?_ ?_
     ·refine AWp.seq ?_
      refine AWp.start [0,1,2,3,4] [] [] [0,1,5,48] 1 ⟨[(0,.pc 0 0),(1,q0 v1),(5,q1 v8),(48,tB (v2.f0 == ([108,105,110,101,115]:List UInt8)))],[.cells 65 (c64 v2)]⟩ rfl ?_ (zz rfl) trivial ?_
      ·kernel_rfl
      refine AOps.nil ?_
      refine AWp.cond rfl (fun hb=>?_) fun hb=>?_
      ·replace h:=of_true h hb
       refine AWp.keepTo [0,1,5] 1 ⟨[(0,.pc 0 0),(1,q0 v1),(5,q1 v8)],[.cells 65 (c64 v2)]⟩ ?_ (zz rfl) ?_
       ·kernel_rfl
       refine AWp.join (V:=(List Int)) (fun w=>⟨[(0,.pc 0 0),(1,q0 v1),(5,q1 w)],[.cells 65 (c64 v2)]⟩) (fun w=>f17o_j2 v1 v2 w = some r) ?_ ?_
       ·refine AWp.seq ?_
        refine AWp.start [0,1,2,3] [4,5,6,7,8,9,10,11] [] [0,1,5,52] 1 ⟨[(0,.pc 0 0),(1,q0 v1),(5,q1 v8),(52,tB (decide ((v8.length:Int) > (0:Int))))],[.cells 65 (c64 v2)]⟩ rfl ?_ (zz rfl) trivial ?_
        ·kernel_rfl
        obtain ⟨v11,hc4,h⟩:=of_bind h
        refine AOps.cut [4,5,6,7,8,9,10,11] [] (fun σ=>σ = ⟨[(0,.pc 0 0),(1,q0 v1),(5,q1 v8),(60,tB v11)],[.cells 65 (c64 v2)]⟩) ?_ fun σ' hJ=>?_
        ·refine AOps.split (fun b=>⟨[(0,.pc 0 0),(1,q0 v1),(5,q1 v8),(52,tB b)],[.cells 65 (c64 v2)]⟩) _ (fun hb=>?_) fun hb=>?_
         ·replace hc4:=of_true hc4 hb
          obtain ⟨hg,hc4⟩:=of_guard hc4
          refine AOps.go [4,5,6,7,8,9,10,11] [] [(0:Int) ≤ w64 ((v8.length:Int) - (1:Int)),w64 ((v8.length:Int) - (1:Int)) < (v8.length:Int)] [0,1,5,60] 1 ⟨[(0,.pc 0 0),(1,q0 v1),(5,q1 v8),(60,tB (v8.getD (Int.toNat (w64 ((v8.length:Int) - (1:Int)))) default != (10:Int)))],[.cells 65 (c64 v2)]⟩ ?_ (zz rfl) ⟨hg.1,hg.2⟩ ?_
          ·kernel_rfl
          cases hc4
          exact AOps.nil rfl
         ·replace hc4:=of_false hc4 hb
          refine AOps.go [4,5,6,7,8,9,10,11] [] [] [0,1,5,60] 1 ⟨[(0,.pc 0 0),(1,q0 v1),(5,q1 v8),(60,tB false)],[.cells 65 (c64 v2)]⟩ ?_ (zz rfl) trivial ?_
          ·kernel_rfl
          cases hc4
          exact AOps.nil rfl
        subst hJ
        refine AOps.nil ?_
        refine AWp.cond rfl (fun hb=>?_) fun hb=>?_
        ·replace h:=of_true h hb
         refine AWp.keepTo [0,1,5] 1 ⟨[(0,.pc 0 0),(1,q0 v1),(5,q1 v8)],[.cells 65 (c64 v2)]⟩ ?_ (zz rfl) ?_
         ·kernel_rfl
         refine AWp.start [0,1] [2,3] [] [0,1,5,61,62] 1 ⟨[(0,.pc 0 0),(1,q0 v1),(5,q1 v8),(61,.al (.slot 5 0,[])),(62,.tv (.own 1 5 1 (newRowF [.int .u8 (10:Int)] 1)))],[.cells 65 (c64 v2)]⟩ rfl ?_ (zz rfl) trivial ?_
         ·kernel_rfl
         refine AOps.extL 62 (cInt .u8) [(10:Int)] rfl rfl (row_at (cInt .u8) 1 (fun _=>rfl) [(10:Int)] _ rfl) ?_
         obtain ⟨hg,h⟩:=of_guard h
         refine AOps.go [2] [3] [(v8.length + [(10:Int)].length) * 1 ≤ 140737488355328,PlainTo v8.length (fun i=>(cInt .u8) (v8.getD i default)),PlainTo ([(10:Int)].length) (fun i=>(cInt .u8) ([(10:Int)].getD i default))] [0,1,63] 1 ⟨[(0,.pc 0 0),(1,q0 v1),(63,.tv (.own 1 5 (v8.length + [(10:Int)].length) (appF v8.length (fun i=>(cInt .u8) (v8.getD i default)) (fun i=>(cInt .u8) ([(10:Int)].getD i default)))))],[.cells 65 (c64 v2)]⟩ ?_ (zz rfl) ⟨hg,(fun _ _=>rfl),(fun _ _=>rfl)⟩ ?_
         ·kernel_rfl
         refine AOps.extL 63 (cInt .u8) (v8 ++ [(10:Int)]) rfl List.length_append.symm (app_at (cInt .u8) v8 [(10:Int)]) ?_
         refine AOps.go [3] [] [] [0,1,5] 1 ⟨[(0,.pc 0 0),(1,q0 v1),(5,q1 (v8 ++ [(10:Int)]))],[.cells 65 (c64 v2)]⟩ ?_ (zz rfl) trivial ?_
         ·kernel_rfl
         refine AOps.nil ?_
         exact ⟨v8 ++ [(10:Int)],h,rfl⟩
        ·replace h:=of_false h hb
         refine AWp.keepTo [0,1,5] 1 ⟨[(0,.pc 0 0),(1,q0 v1),(5,q1 v8)],[.cells 65 (c64 v2)]⟩ ?_ (zz rfl) ?_
         ·kernel_rfl
         refine AWp.skip ?_
         exact ⟨v8,h,rfl⟩
       ·rintro v10 h
        obtain ⟨hg,h⟩:=of_guard h
        refine AWp.start [0,1,2] [3,4,5] [(v10.length + v1.length) * 1 ≤ 140737488355328,PlainTo v10.length (fun i=>(cInt .u8) (v10.getD i default)),PlainTo v1.length (fun i=>(cInt .u8) (v1.getD i default))] [0,66] 1 ⟨[(0,.pc 0 0),(66,.tv (.own 1 5 (v10.length + v1.length) (appF v10.length (fun i=>(cInt .u8) (v10.getD i default)) (fun i=>(cInt .u8) (v1.getD i default)))))],[.cells 65 (c64 v2)]⟩ rfl ?_ (zz rfl) ⟨hg,(fun _ _=>rfl),(fun _ _=>rfl)⟩ ?_
        ·kernel_rfl
        refine AOps.extL 66 (cInt .u8) (v10 ++ v1) rfl List.length_append.symm (app_at (cInt .u8) v10 v1) ?_
        refine AOps.go [3] [4,5] [] [0,66,67] 1 ⟨[(0,.pc 0 0),(66,q1 (v10 ++ v1)),(67,.tv (.own 1 5 1 (newRowF [.int .u8 (10:Int)] 1)))],[.cells 65 (c64 v2)]⟩ ?_ (zz rfl) trivial ?_
        ·kernel_rfl
        refine AOps.extL 67 (cInt .u8) [(10:Int)] rfl rfl (row_at (cInt .u8) 1 (fun _=>rfl) [(10:Int)] _ rfl) ?_
        obtain ⟨hg,h⟩:=of_guard h
        refine AOps.go [4] [5] [((v10 ++ v1).length + [(10:Int)].length) * 1 ≤ 140737488355328,PlainTo ((v10 ++ v1).length) (fun i=>(cInt .u8) ((v10 ++ v1).getD i default)),PlainTo ([(10:Int)].length) (fun i=>(cInt .u8) ([(10:Int)].getD i default))] [0,68] 1 ⟨[(0,.pc 0 0),(68,.tv (.own 1 5 ((v10 ++ v1).length + [(10:Int)].length) (appF ((v10 ++ v1).length) (fun i=>(cInt .u8) ((v10 ++ v1).getD i default)) (fun i=>(cInt .u8) ([(10:Int)].getD i default)))))],[.cells 65 (c64 v2)]⟩ ?_ (zz rfl) ⟨hg,(fun _ _=>rfl),(fun _ _=>rfl)⟩ ?_
        ·kernel_rfl
        refine AOps.extL 68 (cInt .u8) ((v10 ++ v1) ++ [(10:Int)]) rfl List.length_append.symm (app_at (cInt .u8) (v10 ++ v1) [(10:Int)]) ?_
        refine AOps.go [5] [] [] [0,5] 1 ⟨[(0,.pc 0 0),(5,q1 ((v10 ++ v1) ++ [(10:Int)]))],[.cells 65 (c64 v2)]⟩ ?_ (zz rfl) trivial ?_
        ·kernel_rfl
        refine AOps.nil ?_
        exact ⟨(v10 ++ v1) ++ [(10:Int)],h,rfl⟩
      ·replace h:=of_false h hb
       refine AWp.keepTo [0,1,5] 1 ⟨[(0,.pc 0 0),(1,q0 v1),(5,q1 v8)],[.cells 65 (c64 v2)]⟩ ?_ (zz rfl) ?_
       ·kernel_rfl
       refine AWp.start [0,1] [2,3,4] [] [0,5,69,70] 1 ⟨[(0,.pc 0 0),(5,q1 v8),(69,.al (.slot 5 0,[])),(70,q0 v1)],[.cells 65 (c64 v2)]⟩ rfl ?_ (zz rfl) trivial ?_
       ·kernel_rfl
       obtain ⟨v12,hv12,h⟩:=of_bind h
       refine AOps.cons (AOne.callP (F:=(FF 85 1)) _ rfl rfl rfl _ rfl rfl _ _ rfl Try.call39 [q0 v1] rfl rfl (f39_ok v1 hv12) rfl) ?_
       obtain ⟨hg,h⟩:=of_guard h
       refine AOps.go [3] [4] [(v8.length + v12.length) * 1 ≤ 140737488355328,PlainTo v8.length (fun i=>(cInt .u8) (v8.getD i default)),PlainTo v12.length (fun i=>(cInt .u8) (v12.getD i default))] [0,72] 1 ⟨[(0,.pc 0 0),(72,.tv (.own 1 5 (v8.length + v12.length) (appF v8.length (fun i=>(cInt .u8) (v8.getD i default)) (fun i=>(cInt .u8) (v12.getD i default)))))],[.cells 65 (c64 v2)]⟩ ?_ (zz rfl) ⟨hg,(fun _ _=>rfl),(fun _ _=>rfl)⟩ ?_
       ·kernel_rfl
       refine AOps.extL 72 (cInt .u8) (v8 ++ v12) rfl List.length_append.symm (app_at (cInt .u8) v8 v12) ?_
       refine AOps.go [4] [] [] [0,5] 1 ⟨[(0,.pc 0 0),(5,q1 (v8 ++ v12))],[.cells 65 (c64 v2)]⟩ ?_ (zz rfl) trivial ?_
       ·kernel_rfl
       refine AOps.nil ?_
       exact ⟨v8 ++ v12,h,rfl⟩
     ·rintro v9 h
      refine AWp.seq ?_
      refine AWp.seq ?_
      refine AWp.start [0,1,2] [] [] [0,5,75] 1 ⟨[(0,.pc 0 0),(5,q1 v9),(75,tB (decide ((v9.length:Int) > (20000:Int))))],[.cells 65 (c64 v2)]⟩ rfl ?_ (zz rfl) trivial ?_
      ·kernel_rfl
      refine AOps.nil ?_
      refine AWp.cond rfl (fun hb=>?_) fun hb=>?_
      ·replace h:=of_true h hb
       refine AWp.keepTo [] 1 ⟨[],[.cells 65 (c64 v2)]⟩ ?_ (zz rfl) ?_
       ·kernel_rfl
       refine AWp.seq ?_
       refine AWp.start [0] [] [] [4] 1 ⟨[(4,tI (4:Int))],[.cells 65 (c64 v2)]⟩ rfl ?_ (zz rfl) trivial ?_
       ·kernel_rfl
       refine AOps.nil ?_
       refine AWp.ret ?_
       cases h
       exact ⟨.inr rfl,rfl⟩
      ·replace h:=of_false h hb
       refine AWp.keepTo [0,5] 1 ⟨[(0,.pc 0 0),(5,q1 v9)],[.cells 65 (c64 v2)]⟩ ?_ (zz rfl) ?_
       ·kernel_rfl
       refine AWp.skip ?_
       refine AWp.seq ?_
       refine AWp.freezeL 5 (cInt .u8) v9 rfl (fun _=>rfl) ?_
       refine AWp.start [0,1,2,3,4,5,6,7,8,9,10] [] [] [] 1 ⟨[],[.cells 65 [.str v2.f0,.int .i64 v2.f1,k0 v9,.int .i64 (v9.length:Int),.bool v2.f4]]⟩ rfl ?_ (zz rfl) trivial ?_
       ·kernel_rfl
       refine AOps.nil ?_
       refine AWp.seq ?_
       refine AWp.start [0] [] [] [4] 1 ⟨[(4,tI (0:Int))],[.cells 65 [.str v2.f0,.int .i64 v2.f1,k0 v9,.int .i64 (v9.length:Int),.bool v2.f4]]⟩ rfl ?_ (zz rfl) trivial ?_
       ·kernel_rfl
       refine AOps.nil ?_
       refine AWp.ret ?_
       cases h
       exact ⟨.inr rfl,rfl⟩

noncomputable def f21o (v1:T64):Option (List Int) :=
 (f41 v1).bind fun v2=>cond v2 (some ([]:List Int)) ((f37 v1.f2).bind fun v3=>some v3)

theorem f21o_ok (v1:T64) {r:(List Int)} (h:f21o v1 = some r):ACall Try.prog 21 [.pc 0 0] [.cells 65 [.str v1.f0,.int .i64 v1.f1,fzL 1 (cInt .u8) v1.f2,.int .i64 v1.f3,.bool v1.f4]] (.tv (ownL 1 5 (cInt .u8) r)) [.cells 65 [.str v1.f0,.int .i64 v1.f1,fzL 1 (cInt .u8) v1.f2,.int .i64 v1.f3,.bool v1.f4]]:=by
 refine ACall.of1 (FF 10 1) Try.func21 rfl Try.ntmps21 Try.results21 (zz rfl) rfl rfl ?_
 refine AWp.seq ?_
 refine AWp.start [0] [] [] [0] 1 ⟨[(0,.pc 0 0)],[.cells 65 (c64 v1)]⟩ rfl ?_ (zz rfl) trivial ?_
 ·kernel_rfl
 refine AOps.nil ?_
 refine AWp.seq ?_
 refine AWp.seq ?_
 refine AWp.start [0] [1] [] [0,3] 1 ⟨[(0,.pc 0 0),(3,.pc 0 0)],[.cells 65 (c64 v1)]⟩ rfl ?_ (zz rfl) trivial ?_
 ·kernel_rfl
 obtain ⟨v2,hv2,h⟩:=of_bind h
 refine AOps.cons (AOne.callR (F:=(FF 10 1)) _ rfl rfl rfl _ rfl rfl _ _ rfl Try.call41 [] [.rp (c64 v1)] rfl trivial (f41_ok v1 hv2) (ind_of rfl) rfl) ?_
 refine AOps.keepTo [0,4] 1 ⟨[(0,.pc 0 0),(4,tB v2)],[.cells 65 (c64 v1)]⟩ ?_ (zz rfl) ?_
 ·kernel_rfl
 refine AOps.nil ?_
 refine AWp.cond rfl (fun hb=>?_) fun hb=>?_
 ·replace h:=of_true h hb
  refine AWp.keepTo [] 1 ⟨[],[.cells 65 (c64 v1)]⟩ ?_ (zz rfl) ?_
  ·kernel_rfl
  refine AWp.seq ?_
  refine AWp.start [0] [] [] [2] 1 ⟨[(2,.tv (.sc (.slice none 0 0)))],[.cells 65 (c64 v1)]⟩ rfl ?_ (zz rfl) trivial ?_
  ·kernel_rfl
  refine AOps.nil ?_
  refine AWp.nilOwn 2 1 5 (fun i=>(cInt .u8) (([]:List Int).getD i default)) rfl ?_
  refine AWp.keepTo [2] 1 ⟨[(2,q1 ([]:List Int))],[.cells 65 (c64 v1)]⟩ ?_ (zz rfl) ?_
  ·kernel_rfl
  refine AWp.ret ?_
  cases h
  exact ⟨.inr rfl,rfl⟩
 ·replace h:=of_false h hb
  refine AWp.keepTo [0] 1 ⟨[(0,.pc 0 0)],[.cells 65 (c64 v1)]⟩ ?_ (zz rfl) ?_
  ·kernel_rfl
  refine AWp.skip ?_
  refine AWp.seq ?_
  refine AWp.start [0,1,2,3] [4,5] [] [8] 1 ⟨[(8,q0 v1.f2)],[.cells 65 (c64 v1)]⟩ rfl ?_ (zz rfl) trivial ?_
  ·kernel_rfl
  obtain ⟨v3,hv3,h⟩:=of_bind h
  refine AOps.cons (AOne.callP (F:=(FF 10 1)) _ rfl rfl rfl _ rfl rfl _ _ rfl Try.call37 [q0 v1.f2] rfl rfl (f37_ok v1.f2 hv3) rfl) ?_
  refine AOps.go [5] [] [] [2] 1 ⟨[(2,q1 v3)],[.cells 65 (c64 v1)]⟩ ?_ (zz rfl) trivial ?_
  ·kernel_rfl
  refine AOps.nil ?_
  refine AWp.ret ?_
  cases h
  exact ⟨.inr rfl,rfl⟩

abbrev hp1 (v7:Int × T64):List AObj:=[.cells 65 [.str v7.2.f0,.int .i64 v7.2.f1,k0 v7.2.f2,.int .i64 v7.2.f3,.bool v7.2.f4]]

noncomputable def f9 :Option Bool :=
 (f16 ([108,105,110,101,115]:List UInt8) (0:Int) [(97:Int),(10:Int),(98:Int)]).bind fun v1=>match v1 with | (none,v3)=>(cond (v3 != (0:Int)) (some true) (some true)).bind fun v4=>cond v4 (some false) none | (some v2,v3)=>(cond (v3 != (0:Int)) (some true) (some false)).bind fun v5=>cond v5 (some false) ((f22o v2).bind fun v6=>(f17o [(120:Int)] v6.2.2).bind fun v7=>(cond (v6.2.1 == (0:Int)) (some ((v6.1.map (fun n=>UInt8.ofNat n.toNat)) == ([97]:List UInt8))) (some false)).bind fun v8=>(cond v8 (some (v7.1 == (0:Int))) (some false)).bind fun v9=>(cond v9 ((f21o v7.2).bind fun v11=>some ((v11.map (fun n=>UInt8.ofNat n.toNat)) == ([97,10,120,10]:List UInt8))) (some false)).bind fun v10=>some v10)

theorem f9_ok  {r:Bool} (h:f9  = some r):ACall Try.prog 9 [] [] (.tv (.bool r)) []:=by
 refine ACall.of1 (FF 44 0) Try.func9 rfl Try.ntmps9 Try.results9 (zz rfl) rfl rfl ?_
 refine AWp.seq ?_
 refine AWp.start [0] [] [] [] 0 ⟨[],[]⟩ rfl ?_ z0 trivial ?_
 ·kernel_rfl
 refine AOps.nil ?_
 refine AWp.seq ?_
 refine AWp.start [0] [1,2,3,4,5,6,7] [] [7] 0 ⟨[(7,.tv (.own 1 5 3 (newRowF [.int .u8 (97:Int),.int .u8 (10:Int),.int .u8 (98:Int)] 1)))],[]⟩ rfl ?_ z0 trivial ?_
 ·kernel_rfl
 refine AOps.extL 7 (cInt .u8) [(97:Int),(10:Int),(98:Int)] rfl rfl (row_at (cInt .u8) 1 (fun _=>rfl) [(97:Int),(10:Int),(98:Int)] _ rfl) ?_
 refine AOps.cons (AOne.litConv (F:=(FF 44 0)) _ rfl rfl 8 rfl rfl rfl rfl rfl (fun _ _=>rfl) (Nat.zero_lt_succ _) rfl rfl) ?_
 refine AOps.freezeL 8 (cInt .u8) [(97:Int),(10:Int),(98:Int)] rfl (fun _=>rfl) ?_
 obtain ⟨v1,hv1,h⟩:=of_bind h
 rcases v1 with ⟨(_ | v2),v3⟩
 ·replace h:((cond (v3 != (0:Int)) (some true) (some true)).bind fun v4=>cond v4 (some false) none) = some r:=h
  refine AOps.cons (AOne.callO (F:=(FF 44 0)) _ rfl rfl rfl 9 rfl rfl 16 [] rfl Try.call16 [] (by decide) [tS ([108,105,110,101,115]:List UInt8),tI (0:Int),q0 [(97:Int),(10:Int),(98:Int)]] (by kernel_rfl) [] (by kernel_rfl) (f16_ok ([108,105,110,101,115]:List UInt8) (0:Int) [(97:Int),(10:Int),(98:Int)] hv1) (by kernel_rfl) (by kernel_rfl) _ rfl) ?_
  refine AOps.go [3,4,5,6,7] [] [] [1,2] 0 ⟨[(1,.tv (.sc (.pointer none))),(2,tI v3)],[]⟩ ?_ z0 trivial ?_
  ·kernel_rfl
  refine AOps.nil ?_
  refine AWp.seq ?_
  refine AWp.seq ?_
  refine AWp.start [0,1,2] [3,4,5] [] [1,14] 0 ⟨[(1,.tv (.sc (.pointer none))),(14,tB (v3 != (0:Int)))],[]⟩ rfl ?_ z0 trivial ?_
  ·kernel_rfl
  obtain ⟨v4,hc3,h⟩:=of_bind h
  refine AOps.cut [3,4,5] [] (fun σ=>σ = ⟨[(1,.tv (.sc (.pointer none))),(17,tB v4)],[]⟩) ?_ fun σ' hJ=>?_
  ·refine AOps.split (fun b=>⟨[(1,.tv (.sc (.pointer none))),(14,tB b)],[]⟩) _ (fun hb=>?_) fun hb=>?_
   ·replace hc3:=of_true hc3 hb
    refine AOps.go [3,4,5] [] [] [1,17] 0 ⟨[(1,.tv (.sc (.pointer none))),(17,tB true)],[]⟩ ?_ z0 trivial ?_
    ·kernel_rfl
    cases hc3
    exact AOps.nil rfl
   ·replace hc3:=of_false hc3 hb
    refine AOps.go [3,4,5] [] [] [1,17] 0 ⟨[(1,.tv (.sc (.pointer none))),(17,tB true)],[]⟩ ?_ z0 trivial ?_
    ·kernel_rfl
    cases hc3
    exact AOps.nil rfl
  subst hJ
  refine AOps.nil ?_
  refine AWp.cond rfl (fun hb=>?_) fun hb=>?_
  ·replace h:=of_true h hb
   refine AWp.keepTo [] 0 ⟨[],[]⟩ ?_ z0 ?_
   ·kernel_rfl
   refine AWp.seq ?_
   refine AWp.start [0] [] [] [0] 0 ⟨[(0,tB false)],[]⟩ rfl ?_ z0 trivial ?_
   ·kernel_rfl
   refine AOps.nil ?_
   refine AWp.ret ?_
   cases h
   exact ⟨.inr rfl,rfl⟩
  ·replace h:=of_false h hb
   refine AWp.keepTo [1] 0 ⟨[(1,.tv (.sc (.pointer none)))],[]⟩ ?_ z0 ?_
   ·kernel_rfl
   refine AWp.skip ?_
   refine AWp.seq ?_
   cases h
 ·replace h:((cond (v3 != (0:Int)) (some true) (some false)).bind fun v5=>cond v5 (some false) ((f22o v2).bind fun v6=>(f17o [(120:Int)] v6.2.2).bind fun v7=>(cond (v6.2.1 == (0:Int)) (some ((v6.1.map (fun n=>UInt8.ofNat n.toNat)) == ([97]:List UInt8))) (some false)).bind fun v8=>(cond v8 (some (v7.1 == (0:Int))) (some false)).bind fun v9=>(cond v9 ((f21o v7.2).bind fun v11=>some ((v11.map (fun n=>UInt8.ofNat n.toNat)) == ([97,10,120,10]:List UInt8))) (some false)).bind fun v10=>some v10)) = some r:=h
  refine AOps.cons (AOne.callO (F:=(FF 44 0)) _ rfl rfl rfl 9 rfl rfl 16 [] rfl Try.call16 [] (by decide) [tS ([108,105,110,101,115]:List UInt8),tI (0:Int),q0 [(97:Int),(10:Int),(98:Int)]] (by kernel_rfl) [] (by kernel_rfl) (f16_ok ([108,105,110,101,115]:List UInt8) (0:Int) [(97:Int),(10:Int),(98:Int)] hv1) (by kernel_rfl) (by kernel_rfl) _ rfl) ?_
  refine AOps.go [3,4,5,6,7] [] [] [1,2] 1 ⟨[(1,.pc 0 0),(2,tI v3)],[.cells 65 (c64 v2)]⟩ ?_ z0 trivial ?_
  ·kernel_rfl
  refine AOps.nil ?_
  refine AWp.seq ?_
  refine AWp.seq ?_
  refine AWp.start [0,1,2] [3,4,5] [] [1,14] 1 ⟨[(1,.pc 0 0),(14,tB (v3 != (0:Int)))],[.cells 65 (c64 v2)]⟩ rfl ?_ z0 trivial ?_
  ·kernel_rfl
  obtain ⟨v5,hc3,h⟩:=of_bind h
  refine AOps.cut [3,4,5] [] (fun σ=>σ = ⟨[(1,.pc 0 0),(17,tB v5)],[.cells 65 (c64 v2)]⟩) ?_ fun σ' hJ=>?_
  ·refine AOps.split (fun b=>⟨[(1,.pc 0 0),(14,tB b)],[.cells 65 (c64 v2)]⟩) _ (fun hb=>?_) fun hb=>?_
   ·replace hc3:=of_true hc3 hb
    refine AOps.go [3,4,5] [] [] [1,17] 1 ⟨[(1,.pc 0 0),(17,tB true)],[.cells 65 (c64 v2)]⟩ ?_ z0 trivial ?_
    ·kernel_rfl
    cases hc3
    exact AOps.nil rfl
   ·replace hc3:=of_false hc3 hb
    refine AOps.go [3,4,5] [] [] [1,17] 1 ⟨[(1,.pc 0 0),(17,tB false)],[.cells 65 (c64 v2)]⟩ ?_ z0 trivial ?_
    ·kernel_rfl
    cases hc3
    exact AOps.nil rfl
  subst hJ
  refine AOps.nil ?_
  refine AWp.cond rfl (fun hb=>?_) fun hb=>?_
  ·replace h:=of_true h hb
   refine AWp.keepTo [] 0 ⟨[],[]⟩ ?_ z0 ?_
   ·kernel_rfl
   refine AWp.seq ?_
   refine AWp.start [0] [] [] [0] 0 ⟨[(0,tB false)],[]⟩ rfl ?_ z0 trivial ?_
   ·kernel_rfl
   refine AOps.nil ?_
   refine AWp.ret ?_
   cases h
   exact ⟨.inr rfl,rfl⟩
  ·replace h:=of_false h hb
   refine AWp.keepTo [1] 1 ⟨[(1,.pc 0 0)],[.cells 65 (c64 v2)]⟩ ?_ z0 ?_
   ·kernel_rfl
   refine AWp.skip ?_
   refine AWp.seq ?_
   refine AWp.start [0] [1,2,3,4,5,6] [] [1,19] 1 ⟨[(1,.pc 0 0),(19,.pc 0 0)],[.cells 65 (c64 v2)]⟩ rfl ?_ z0 trivial ?_
   ·kernel_rfl
   obtain ⟨v6,hv6,h⟩:=of_bind h
   refine AOps.cons (AOne.callO (F:=(FF 44 0)) _ rfl rfl rfl 20 rfl rfl 22 [] rfl Try.call22 [0] (by decide) [.pc 0 0] (by kernel_rfl) [.cells 65 (c64 v2)] (by kernel_rfl) (f22o_ok v2 hv6) (by kernel_rfl) (by kernel_rfl) _ rfl) ?_
   refine AOps.go [2,3,4,5,6] [] [] [1,3,4] 1 ⟨[(1,.pc 0 0),(3,q0 v6.1),(4,tI v6.2.1)],[.cells 65 [.str v6.2.2.f0,.int .i64 v6.2.2.f1,k0 v6.2.2.f2,.int .i64 v6.2.2.f3,.bool v6.2.2.f4]]⟩ ?_ z0 trivial ?_
   ·kernel_rfl
   refine AOps.nil ?_
   refine AWp.seq ?_
   refine AWp.start [0,1] [2,3,4] [] [1,3,4,23,24] 1 ⟨[(1,.pc 0 0),(3,q0 v6.1),(4,tI v6.2.1),(23,.pc 0 0),(24,.tv (.own 1 5 1 (newRowF [.int .u8 (120:Int)] 1)))],[.cells 65 [.str v6.2.2.f0,.int .i64 v6.2.2.f1,k0 v6.2.2.f2,.int .i64 v6.2.2.f3,.bool v6.2.2.f4]]⟩ rfl ?_ z0 trivial ?_
   ·kernel_rfl
   refine AOps.extL 24 (cInt .u8) [(120:Int)] rfl rfl (row_at (cInt .u8) 1 (fun _=>rfl) [(120:Int)] _ rfl) ?_
   refine AOps.cons (AOne.litConv (F:=(FF 44 0)) _ rfl rfl 25 rfl rfl rfl rfl rfl (fun _ _=>rfl) (Nat.zero_lt_succ _) rfl rfl) ?_
   refine AOps.freezeL 25 (cInt .u8) [(120:Int)] rfl (fun _=>rfl) ?_
   obtain ⟨v7,hv7,h⟩:=of_bind h
   refine AOps.cons (AOne.callO (F:=(FF 44 0)) _ rfl rfl rfl 26 rfl rfl 17 [] rfl Try.call17 [0] (by decide) [.pc 0 0,q0 [(120:Int)]] (by kernel_rfl) [.cells 65 [.str v6.2.2.f0,.int .i64 v6.2.2.f1,k0 v6.2.2.f2,.int .i64 v6.2.2.f3,.bool v6.2.2.f4]] (by kernel_rfl) (f17o_ok [(120:Int)] v6.2.2 hv7) (by kernel_rfl) (by kernel_rfl) _ rfl) ?_
   refine AOps.go [4] [] [] [1,3,4,5] 1 ⟨[(1,.pc 0 0),(3,q0 v6.1),(4,tI v6.2.1),(5,tI v7.1)],hp1 v7⟩ ?_ z0 trivial ?_
   ·kernel_rfl
   refine AOps.nil ?_
   refine AWp.seq ?_
   refine AWp.start [0,1,2] [3,4,5,6,7,8,9,10,11,12,13,14,15,16,17] [] [1,3,5,29] 1 ⟨[(1,.pc 0 0),(3,q0 v6.1),(5,tI v7.1),(29,tB (v6.2.1 == (0:Int)))],hp1 v7⟩ rfl ?_ z0 trivial ?_
   ·kernel_rfl
   obtain ⟨v8,hc3,h⟩:=of_bind h
   refine AOps.cut [3,4,5,6] [7,8,9,10,11,12,13,14,15,16,17] (fun σ=>σ = ⟨[(1,.pc 0 0),(5,tI v7.1),(33,tB v8)],hp1 v7⟩) ?_ fun σ' hJ=>?_
   ·refine AOps.split (fun b=>⟨[(1,.pc 0 0),(3,q0 v6.1),(5,tI v7.1),(29,tB b)],hp1 v7⟩) _ (fun hb=>?_) fun hb=>?_
    ·replace hc3:=of_true hc3 hb
     refine AOps.go [3] [4,5,6] [] [1,5,29,30] 1 ⟨[(1,.pc 0 0),(5,tI v7.1),(29,tB true),(30,q0 v6.1)],hp1 v7⟩ ?_ z0 trivial ?_
     ·kernel_rfl
     refine AOps.cons (AOne.str (F:=(FF 44 0)) _ rfl rfl rfl _ rfl rfl rfl rfl rfl (n:=v6.1.length) (f:=(fun i=>(cInt .u8) (v6.1.getD i default))) rfl v6.1 rfl (fun _ _=>rfl)) ?_
     refine AOps.go [5,6] [] [] [1,5,33] 1 ⟨[(1,.pc 0 0),(5,tI v7.1),(33,tB ((v6.1.map (fun n=>UInt8.ofNat n.toNat)) == ([97]:List UInt8)))],hp1 v7⟩ ?_ z0 trivial ?_
     ·kernel_rfl
     cases hc3
     exact AOps.nil rfl
    ·replace hc3:=of_false hc3 hb
     refine AOps.go [3,4,5,6] [] [] [1,5,33] 1 ⟨[(1,.pc 0 0),(5,tI v7.1),(33,tB false)],hp1 v7⟩ ?_ z0 trivial ?_
     ·kernel_rfl
     cases hc3
     exact AOps.nil rfl
   subst hJ
   refine AOps.go [7] [8,9,10,11,12,13,14,15,16,17] [] [1,5,34] 1 ⟨[(1,.pc 0 0),(5,tI v7.1),(34,tB v8)],hp1 v7⟩ ?_ z0 trivial ?_
   ·kernel_rfl
   obtain ⟨v9,hc8,h⟩:=of_bind h
   refine AOps.cut [8,9,10] [11,12,13,14,15,16,17] (fun σ=>σ = ⟨[(1,.pc 0 0),(37,tB v9)],hp1 v7⟩) ?_ fun σ' hJ=>?_
   ·refine AOps.split (fun b=>⟨[(1,.pc 0 0),(5,tI v7.1),(34,tB b)],hp1 v7⟩) _ (fun hb=>?_) fun hb=>?_
    ·replace hc8:=of_true hc8 hb
     refine AOps.go [8,9,10] [] [] [1,37] 1 ⟨[(1,.pc 0 0),(37,tB (v7.1 == (0:Int)))],hp1 v7⟩ ?_ z0 trivial ?_
     ·kernel_rfl
     cases hc8
     exact AOps.nil rfl
    ·replace hc8:=of_false hc8 hb
     refine AOps.go [8,9,10] [] [] [1,37] 1 ⟨[(1,.pc 0 0),(37,tB false)],hp1 v7⟩ ?_ z0 trivial ?_
     ·kernel_rfl
     cases hc8
     exact AOps.nil rfl
   subst hJ
   refine AOps.go [11] [12,13,14,15,16,17] [] [1,38] 1 ⟨[(1,.pc 0 0),(38,tB v9)],hp1 v7⟩ ?_ z0 trivial ?_
   ·kernel_rfl
   obtain ⟨v10,hc12,h⟩:=of_bind h
   refine AOps.cut [12,13,14,15,16] [17] (fun σ=>σ = ⟨[(43,tB v10)],[]⟩) ?_ fun σ' hJ=>?_
   ·refine AOps.split (fun b=>⟨[(1,.pc 0 0),(38,tB b)],hp1 v7⟩) _ (fun hb=>?_) fun hb=>?_
    ·replace hc12:=of_true hc12 hb
     refine AOps.go [12] [13,14,15,16] [] [38,39] 1 ⟨[(38,tB true),(39,.pc 0 0)],hp1 v7⟩ ?_ z0 trivial ?_
     ·kernel_rfl
     obtain ⟨v11,hv11,hc12⟩:=of_bind hc12
     refine AOps.cons (AOne.callO (F:=(FF 44 0)) _ rfl rfl rfl 40 rfl rfl 21 [] rfl Try.call21 [0] (by decide) [.pc 0 0] (by kernel_rfl) [.cells 65 [.str v7.2.f0,.int .i64 v7.2.f1,k0 v7.2.f2,.int .i64 v7.2.f3,.bool v7.2.f4]] (by kernel_rfl) (f21o_ok v7.2 hv11) (by kernel_rfl) (by kernel_rfl) _ rfl) ?_
     refine AOps.cons (AOne.str (F:=(FF 44 0)) _ rfl rfl rfl _ rfl rfl rfl rfl rfl (n:=v11.length) (f:=(fun i=>(cInt .u8) (v11.getD i default))) rfl v11 rfl (fun _ _=>rfl)) ?_
     refine AOps.go [15,16] [] [] [43] 0 ⟨[(43,tB ((v11.map (fun n=>UInt8.ofNat n.toNat)) == ([97,10,120,10]:List UInt8)))],[]⟩ ?_ z0 trivial ?_
     ·kernel_rfl
     cases hc12
     exact AOps.nil rfl
    ·replace hc12:=of_false hc12 hb
     refine AOps.go [12,13,14,15,16] [] [] [43] 0 ⟨[(43,tB false)],[]⟩ ?_ z0 trivial ?_
     ·kernel_rfl
     cases hc12
     exact AOps.nil rfl
   subst hJ
   refine AOps.go [17] [] [] [0] 0 ⟨[(0,tB v10)],[]⟩ ?_ z0 trivial ?_
   ·kernel_rfl
   refine AOps.nil ?_
   refine AWp.ret ?_
   cases h
   exact ⟨.inr rfl,rfl⟩

noncomputable def f46 (v1:T78):Option Bool :=
 (cond (v1.f0 == ([108,105,110,101,115]:List UInt8)) (some true) (some (v1.f0 == ([114,101,99,111,114,100,115]:List UInt8)))).bind fun v2=>some v2

theorem f46_ok (v1:T78) {r:Bool} (h:f46 v1 = some r):ACall Try.prog 46 [.rp [.str v1.f0,.int .i64 v1.f1,fzL 1 (cSl 1 (cInt .u8)) v1.f2,.bool v1.f3,.int .i64 v1.f4,.bool v1.f5,fzL 1 (cInt .u8) v1.f6]] [] (.tv (.bool r)) []:=by
 refine ACall.of1 (FF 15 0) Try.func46 rfl Try.ntmps46 Try.results46 (zz rfl) rfl rfl ?_
 refine AWp.seq ?_
 refine AWp.start [0] [] [] [0] 0 ⟨[(0,.rp (c78 v1))],[]⟩ rfl ?_ z0 trivial ?_
 ·kernel_rfl
 refine AOps.nil ?_
 refine AWp.seq ?_
 refine AWp.start [0,1,2,3,4,5] [6,7,8,9,10,11,12] [] [0,8] 0 ⟨[(0,.rp (c78 v1)),(8,tB (v1.f0 == ([108,105,110,101,115]:List UInt8)))],[]⟩ rfl ?_ z0 trivial ?_
 ·kernel_rfl
 obtain ⟨v2,hc6,h⟩:=of_bind h
 refine AOps.cut [6,7,8,9,10,11] [12] (fun σ=>σ = ⟨[(14,tB v2)],[]⟩) ?_ fun σ' hJ=>?_
 ·refine AOps.split (fun b=>⟨[(0,.rp (c78 v1)),(8,tB b)],[]⟩) _ (fun hb=>?_) fun hb=>?_
  ·replace hc6:=of_true hc6 hb
   refine AOps.go [6,7,8,9,10,11] [] [] [14] 0 ⟨[(14,tB true)],[]⟩ ?_ z0 trivial ?_
   ·kernel_rfl
   cases hc6
   exact AOps.nil rfl
  ·replace hc6:=of_false hc6 hb
   refine AOps.go [6,7,8,9,10,11] [] [] [14] 0 ⟨[(14,tB (v1.f0 == ([114,101,99,111,114,100,115]:List UInt8)))],[]⟩ ?_ z0 trivial ?_
   ·kernel_rfl
   cases hc6
   exact AOps.nil rfl
 subst hJ
 refine AOps.go [12] [] [] [2] 0 ⟨[(2,tB v2)],[]⟩ ?_ z0 trivial ?_
 ·kernel_rfl
 refine AOps.nil ?_
 refine AWp.ret ?_
 cases h
 exact ⟨.inr rfl,rfl⟩

noncomputable def f47_j1 (v4:Int) (v7:List (List Int)) (v8:Int):Option (((List (List Int)) × Int × Int) ⊕ Out ((List (List Int)) × Bool) ((List (List Int)) × Int)) :=
 some (.inl (v7,v8,w64 (v4 + (1:Int))))

noncomputable def f47_b2 (v1:List Int) (v2:List (List Int)) (v3:Int) (v4:Int):Option (((List (List Int)) × Int × Int) ⊕ Out ((List (List Int)) × Bool) ((List (List Int)) × Int)) :=
 cond (decide (v4 < (v1.length:Int))) (if (0:Int) ≤ v4 ∧ v4 < (v1.length:Int) then cond (v1.getD v4.toNat default == (10:Int)) (if (0:Int) ≤ v3 ∧ v3 ≤ v4 ∧ v4 ≤ (v1.length:Int) then if (([]:List Int).length + ((v1.take v4.toNat).drop v3.toNat).length) * 1 ≤ 140737488355328 then if (v2.length + ([([]:List Int) ++ ((v1.take v4.toNat).drop v3.toNat)]).length) * 24 ≤ 140737488355328 then f47_j1 v4 (v2 ++ ([([]:List Int) ++ ((v1.take v4.toNat).drop v3.toNat)])) (w64 (v4 + (1:Int))) else none else none else none) (f47_j1 v4 v2 v3) else none) (some (.inr (.go (v2,v3))))

noncomputable def f47 (v1:List Int):Option ((List (List Int)) × Bool) :=
 (iter (fun s=>f47_b2 v1 s.1 s.2.1 s.2.2) ([],(0:Int),(0:Int))).bind fun y=>match y with | .ret v9=>some (v9.1,v9.2) | .go (v5,v6)=>cond (v6 == (v1.length:Int)) (some (v5,false)) (if (0:Int) ≤ v6 ∧ v6 ≤ (v1.length:Int) then if (([]:List Int).length + ((v1.take (Int.toNat (v1.length:Int))).drop v6.toNat).length) * 1 ≤ 140737488355328 then if (v5.length + ([([]:List Int) ++ ((v1.take (Int.toNat (v1.length:Int))).drop v6.toNat)]).length) * 24 ≤ 140737488355328 then some (v5 ++ ([([]:List Int) ++ ((v1.take (Int.toNat (v1.length:Int))).drop v6.toNat)]),true) else none else none else none)

theorem f47_ok (v1:List Int) {r:(List (List Int)) × Bool} (h:f47 v1 = some r):ACall Try.prog 47 [.tv (fzL 1 (cInt .u8) v1)] [] (.tup [.tv (fzL 1 (cSl 1 (cInt .u8)) r.1),.tv (.bool r.2)]) []:=by
 refine ACall.ofN (FF 42 0) (rs:=[2,3]) (env:=[(2,.tv (fzL 1 (cSl 1 (cInt .u8)) r.1)),(3,tB r.2)]) Try.func47 rfl Try.ntmps47 Try.results47 (by decide) (by decide) rfl (zz rfl) rfl (get_ofN _ _ _ rfl) (ok_ofN _ rfl) ?_
 refine AWp.seq ?_
 refine AWp.start [0,1] [] [] [0] 0 ⟨[(0,q0 v1)],[]⟩ rfl ?_ z0 trivial ?_
 ·kernel_rfl
 refine AOps.nil ?_
 refine AWp.seq ?_
 refine AWp.start [0] [] [] [0,4] 0 ⟨[(0,q0 v1),(4,.tv (.sc (.slice none 0 0)))],[]⟩ rfl ?_ z0 trivial ?_
 ·kernel_rfl
 refine AOps.nil ?_
 refine AWp.seq ?_
 refine AWp.start [0] [] [] [0,4,5] 0 ⟨[(0,q0 v1),(4,.tv (.sc (.slice none 0 0))),(5,tI (0:Int))],[]⟩ rfl ?_ z0 trivial ?_
 ·kernel_rfl
 refine AOps.nil ?_
 refine AWp.seq ?_
 refine AWp.seq ?_
 refine AWp.start [0] [] [] [0,4,5,6] 0 ⟨[(0,q0 v1),(4,.tv (.sc (.slice none 0 0))),(5,tI (0:Int)),(6,tI (0:Int))],[]⟩ rfl ?_ z0 trivial ?_
 ·kernel_rfl
 refine AOps.nil ?_
 refine AWp.block ?_
 refine AWp.nilOwn 4 1 22 (fun i=>(cSl 1 (cInt .u8)) (([]:List (List Int)).getD i default)) rfl ?_
 refine AWp.keepTo [0,4,5,6] 0 ⟨[(0,q0 v1),(4,.tv (ownL 1 22 (cSl 1 (cInt .u8)) ([]:List (List Int)))),(5,tI (0:Int)),(6,tI (0:Int))],[]⟩ ?_ z0 ?_
 ·kernel_rfl
 obtain ⟨y,hy,h⟩:=of_bind h
 refine AWp.mono (AWp.loop (S:=(List (List Int)) × Int × Int) (Y:=Out ((List (List Int)) × Bool) ((List (List Int)) × Int)) (fun s=>⟨[(0,q0 v1),(4,.tv (ownL 1 22 (cSl 1 (cInt .u8)) s.1)),(5,tI s.2.1),(6,tI s.2.2)],[]⟩) (fun s=>f47_b2 v1 s.1 s.2.1 s.2.2) (fun y e σ=>match y with | .ret r=>e = .ret ∧ σ = ⟨[(2,.tv (fzL 1 (cSl 1 (cInt .u8)) r.1)),(3,tB r.2)],[]⟩ | .go v=>e = .exit 0 ∧ σ = ⟨[(0,q0 v1),(4,.tv (ownL 1 22 (cSl 1 (cInt .u8)) v.1)),(5,tI v.2)],[]⟩) ?_ hy) ?_
 ·rintro ⟨v2,v3,v4⟩ o h
  refine AWp.seq ?_
  refine AWp.seq ?_
  refine AWp.start [0,1,2,3] [] [] [0,4,5,6,10] 0 ⟨[(0,q0 v1),(4,.tv (ownL 1 22 (cSl 1 (cInt .u8)) v2)),(5,tI v3),(6,tI v4),(10,tB (decide (v4 < (v1.length:Int))))],[]⟩ rfl ?_ z0 trivial ?_
  ·kernel_rfl
  refine AOps.nil ?_
  refine AWp.cond rfl (fun hb=>?_) fun hb=>?_
  ·replace h:=of_true h hb
   refine AWp.keepTo [0,4,5,6] 0 ⟨[(0,q0 v1),(4,.tv (ownL 1 22 (cSl 1 (cInt .u8)) v2)),(5,tI v3),(6,tI v4)],[]⟩ ?_ z0 ?_
   ·kernel_rfl
   refine AWp.skip ?_
   refine AWp.join (V:=(List (List Int)) × Int) (fun w=>⟨[(0,q0 v1),(4,.tv (ownL 1 22 (cSl 1 (cInt .u8)) w.1)),(5,tI w.2),(6,tI v4)],[]⟩) (fun w=>f47_j1 v4 w.1 w.2 = some o) ?_ ?_
   ·refine AWp.block ?_
    refine AWp.seq ?_
    obtain ⟨hg,h⟩:=of_guard h
    refine AWp.start [0,1,2,3,4] [] [(0:Int) ≤ v4,v4 < (v1.length:Int)] [0,4,5,6,17] 0 ⟨[(0,q0 v1),(4,.tv (ownL 1 22 (cSl 1 (cInt .u8)) v2)),(5,tI v3),(6,tI v4),(17,tB (gD v1 v4 == (10:Int)))],[]⟩ rfl ?_ z0 ⟨hg.1,hg.2⟩ ?_
    ·kernel_rfl
    refine AOps.nil ?_
    refine AWp.cond rfl (fun hb=>?_) fun hb=>?_
    ·replace h:=of_true h hb
     refine AWp.keepTo [0,4,5,6] 0 ⟨[(0,q0 v1),(4,.tv (ownL 1 22 (cSl 1 (cInt .u8)) v2)),(5,tI v3),(6,tI v4)],[]⟩ ?_ z0 ?_
     ·kernel_rfl
     refine AWp.seq ?_
     refine AWp.start [0,1] [2,3,4,5,6,7,8,9] [] [0,4,5,6,18,19] 0 ⟨[(0,q0 v1),(4,.tv (ownL 1 22 (cSl 1 (cInt .u8)) v2)),(5,tI v3),(6,tI v4),(18,.al (.slot 4 0,[])),(19,.tv (.own 1 5 0 (newRowF [] 1)))],[]⟩ rfl ?_ z0 trivial ?_
     ·kernel_rfl
     refine AOps.extL 19 (cInt .u8) ([]:List Int) rfl rfl (row_at (cInt .u8) 1 (fun _=>rfl) ([]:List Int) _ rfl) ?_
     obtain ⟨hg,h⟩:=of_guard h
     refine AOps.go [2,3,4,5] [6,7,8,9] [(0:Int) ≤ v3,v3 ≤ v4,v4 ≤ (v1.length:Int)] [0,4,6,18,19,23] 0 ⟨[(0,q0 v1),(4,.tv (ownL 1 22 (cSl 1 (cInt .u8)) v2)),(6,tI v4),(18,.al (.slot 4 0,[])),(19,q1 ([]:List Int)),(23,.tv (.fz 1 (v4.toNat - v3.toNat) (fun i=>(cInt .u8) (v1.getD (v3.toNat + i) default))))],[]⟩ ?_ z0 ⟨hg.1,hg.2.1,hg.2.2⟩ ?_
     ·kernel_rfl
     have hb:v4.toNat ≤ v1.length:=by have hh:v4 ≤ (v1.length:Int):=hg.2.2; omega
     refine AOps.extFzL (s:=23) rfl (sub_len v1 v3.toNat v4.toNat hb) (sub_at (cInt .u8) v1 v3.toNat v4.toNat hb) ?_
     obtain ⟨hg,h⟩:=of_guard h
     refine AOps.go [6] [7,8,9] [(([]:List Int).length + ((v1.take v4.toNat).drop v3.toNat).length) * 1 ≤ 140737488355328,PlainTo (([]:List Int).length) (fun i=>(cInt .u8) (([]:List Int).getD i default)),PlainTo (((v1.take v4.toNat).drop v3.toNat).length) (fun i=>(cInt .u8) (((v1.take v4.toNat).drop v3.toNat).getD i default))] [0,4,6,18,24] 0 ⟨[(0,q0 v1),(4,.tv (ownL 1 22 (cSl 1 (cInt .u8)) v2)),(6,tI v4),(18,.al (.slot 4 0,[])),(24,.tv (.own 1 5 (([]:List Int).length + ((v1.take v4.toNat).drop v3.toNat).length) (appF (([]:List Int).length) (fun i=>(cInt .u8) (([]:List Int).getD i default)) (fun i=>(cInt .u8) (((v1.take v4.toNat).drop v3.toNat).getD i default)))))],[]⟩ ?_ z0 ⟨hg,(fun _ _=>rfl),(fun _ _=>rfl)⟩ ?_
     ·kernel_rfl
     refine AOps.extL 24 (cInt .u8) (([]:List Int) ++ ((v1.take v4.toNat).drop v3.toNat)) rfl List.length_append.symm (app_at (cInt .u8) ([]:List Int) ((v1.take v4.toNat).drop v3.toNat)) ?_
     refine AOps.freezeL 24 (cInt .u8) (([]:List Int) ++ ((v1.take v4.toNat).drop v3.toNat)) rfl (fun _=>rfl) ?_
     refine AOps.go [7] [8,9] [] [0,4,6,18,25] 0 ⟨[(0,q0 v1),(4,.tv (ownL 1 22 (cSl 1 (cInt .u8)) v2)),(6,tI v4),(18,.al (.slot 4 0,[])),(25,.tv (.own 1 22 1 (newRowF [k0 (([]:List Int) ++ ((v1.take v4.toNat).drop v3.toNat))] 1)))],[]⟩ ?_ z0 trivial ?_
     ·kernel_rfl
     refine AOps.extL 25 (cSl 1 (cInt .u8)) ([([]:List Int) ++ ((v1.take v4.toNat).drop v3.toNat)]) rfl rfl (row_at (cSl 1 (cInt .u8)) 1 (fun _=>rfl) [([]:List Int) ++ ((v1.take v4.toNat).drop v3.toNat)] _ rfl) ?_
     obtain ⟨hg,h⟩:=of_guard h
     refine AOps.go [8] [9] [(v2.length + ([([]:List Int) ++ ((v1.take v4.toNat).drop v3.toNat)]).length) * 24 ≤ 140737488355328,PlainTo v2.length (fun i=>(cSl 1 (cInt .u8)) (v2.getD i default)),PlainTo (([([]:List Int) ++ ((v1.take v4.toNat).drop v3.toNat)]).length) (fun i=>(cSl 1 (cInt .u8)) (([([]:List Int) ++ ((v1.take v4.toNat).drop v3.toNat)]).getD i default))] [0,6,26] 0 ⟨[(0,q0 v1),(6,tI v4),(26,.tv (.own 1 22 (v2.length + ([([]:List Int) ++ ((v1.take v4.toNat).drop v3.toNat)]).length) (appF v2.length (fun i=>(cSl 1 (cInt .u8)) (v2.getD i default)) (fun i=>(cSl 1 (cInt .u8)) (([([]:List Int) ++ ((v1.take v4.toNat).drop v3.toNat)]).getD i default)))))],[]⟩ ?_ z0 ⟨hg,(fun _ _=>rfl),(fun _ _=>rfl)⟩ ?_
     ·kernel_rfl
     refine AOps.extL 26 (cSl 1 (cInt .u8)) (v2 ++ ([([]:List Int) ++ ((v1.take v4.toNat).drop v3.toNat)])) rfl List.length_append.symm (app_at (cSl 1 (cInt .u8)) v2 ([([]:List Int) ++ ((v1.take v4.toNat).drop v3.toNat)])) ?_
     refine AOps.go [9] [] [] [0,4,6] 0 ⟨[(0,q0 v1),(4,.tv (ownL 1 22 (cSl 1 (cInt .u8)) (v2 ++ ([([]:List Int) ++ ((v1.take v4.toNat).drop v3.toNat)])))),(6,tI v4)],[]⟩ ?_ z0 trivial ?_
     ·kernel_rfl
     refine AOps.nil ?_
     refine AWp.start [0,1,2] [] [] [0,4,5,6] 0 ⟨[(0,q0 v1),(4,.tv (ownL 1 22 (cSl 1 (cInt .u8)) (v2 ++ ([([]:List Int) ++ ((v1.take v4.toNat).drop v3.toNat)])))),(5,tI (w64 (v4 + (1:Int)))),(6,tI v4)],[]⟩ rfl ?_ z0 trivial ?_
     ·kernel_rfl
     refine AOps.nil ?_
     exact ⟨(v2 ++ ([([]:List Int) ++ ((v1.take v4.toNat).drop v3.toNat)]),w64 (v4 + (1:Int))),h,rfl⟩
    ·replace h:=of_false h hb
     refine AWp.keepTo [0,4,5,6] 0 ⟨[(0,q0 v1),(4,.tv (ownL 1 22 (cSl 1 (cInt .u8)) v2)),(5,tI v3),(6,tI v4)],[]⟩ ?_ z0 ?_
     ·kernel_rfl
     refine AWp.skip ?_
     exact ⟨(v2,v3),h,rfl⟩
   ·rintro ⟨v7,v8⟩ h
    refine AWp.start [0,1,2] [] [] [0,4,5,6] 0 ⟨[(0,q0 v1),(4,.tv (ownL 1 22 (cSl 1 (cInt .u8)) v7)),(5,tI v8),(6,tI (w64 (v4 + (1:Int))))],[]⟩ rfl ?_ z0 trivial ?_
    ·kernel_rfl
    refine AOps.nil ?_
    cases h
    exact Or.inl ⟨_,rfl,rfl,rfl⟩
  ·replace h:=of_false h hb
   refine AWp.keepTo [0,4,5] 0 ⟨[(0,q0 v1),(4,.tv (ownL 1 22 (cSl 1 (cInt .u8)) v2)),(5,tI v3)],[]⟩ ?_ z0 ?_
   ·kernel_rfl
   refine AWp.exit ?_
   cases h
   exact Or.inr ⟨_,rfl,by simp,rfl,rfl⟩
 ·intro e σ hp
  rcases y with v9 | ⟨v5,v6⟩
  ·obtain ⟨rfl,rfl⟩:=hp
   cases h
   exact ⟨.inr rfl,rfl⟩
  ·obtain ⟨rfl,rfl⟩:=hp
   refine AWp.seq ?_
   refine AWp.seq ?_
   refine AWp.start [0,1,2,3] [] [] [0,4,5,32] 0 ⟨[(0,q0 v1),(4,.tv (ownL 1 22 (cSl 1 (cInt .u8)) v5)),(5,tI v6),(32,tB (v6 == (v1.length:Int)))],[]⟩ rfl ?_ z0 trivial ?_
   ·kernel_rfl
   refine AOps.nil ?_
   refine AWp.cond rfl (fun hb=>?_) fun hb=>?_
   ·replace h:=of_true h hb
    refine AWp.keepTo [4] 0 ⟨[(4,.tv (ownL 1 22 (cSl 1 (cInt .u8)) v5))],[]⟩ ?_ z0 ?_
    ·kernel_rfl
    refine AWp.seq ?_
    refine AWp.freezeL 4 (cSl 1 (cInt .u8)) v5 rfl (fun _=>rfl) ?_
    refine AWp.start [0,1,2] [] [] [2,3] 0 ⟨[(2,.tv (fzL 1 (cSl 1 (cInt .u8)) v5)),(3,tB false)],[]⟩ rfl ?_ z0 trivial ?_
    ·kernel_rfl
    refine AOps.nil ?_
    refine AWp.ret ?_
    cases h
    exact ⟨.inr rfl,rfl⟩
   ·replace h:=of_false h hb
    refine AWp.keepTo [0,4,5] 0 ⟨[(0,q0 v1),(4,.tv (ownL 1 22 (cSl 1 (cInt .u8)) v5)),(5,tI v6)],[]⟩ ?_ z0 ?_
    ·kernel_rfl
    refine AWp.skip ?_
    refine AWp.seq ?_
    refine AWp.start [0,1] [2,3,4,5,6,7,8,9] [] [0,4,5,34,35] 0 ⟨[(0,q0 v1),(4,.tv (ownL 1 22 (cSl 1 (cInt .u8)) v5)),(5,tI v6),(34,.al (.slot 4 0,[])),(35,.tv (.own 1 5 0 (newRowF [] 1)))],[]⟩ rfl ?_ z0 trivial ?_
    ·kernel_rfl
    refine AOps.extL 35 (cInt .u8) ([]:List Int) rfl rfl (row_at (cInt .u8) 1 (fun _=>rfl) ([]:List Int) _ rfl) ?_
    obtain ⟨hg,h⟩:=of_guard h
    refine AOps.go [2,3,4] [5,6,7,8,9] [(0:Int) ≤ v6,v6 ≤ (v1.length:Int),(v1.length:Int) ≤ (v1.length:Int)] [4,34,35,38] 0 ⟨[(4,.tv (ownL 1 22 (cSl 1 (cInt .u8)) v5)),(34,.al (.slot 4 0,[])),(35,q1 ([]:List Int)),(38,.tv (.fz 1 ((Int.toNat (v1.length:Int)) - v6.toNat) (fun i=>(cInt .u8) (v1.getD (v6.toNat + i) default))))],[]⟩ ?_ z0 ⟨hg.1,hg.2,(Int.le_refl (v1.length:Int))⟩ ?_
    ·kernel_rfl
    have hb:(Int.toNat (v1.length:Int)) ≤ v1.length:=by have hh:(v1.length:Int) ≤ (v1.length:Int):=(Int.le_refl (v1.length:Int)); omega
    refine AOps.extFzL (s:=38) rfl (sub_len v1 v6.toNat (Int.toNat (v1.length:Int)) hb) (sub_at (cInt .u8) v1 v6.toNat (Int.toNat (v1.length:Int)) hb) ?_
    obtain ⟨hg,h⟩:=of_guard h
    refine AOps.go [5] [6,7,8,9] [(([]:List Int).length + ((v1.take (Int.toNat (v1.length:Int))).drop v6.toNat).length) * 1 ≤ 140737488355328,PlainTo (([]:List Int).length) (fun i=>(cInt .u8) (([]:List Int).getD i default)),PlainTo (((v1.take (Int.toNat (v1.length:Int))).drop v6.toNat).length) (fun i=>(cInt .u8) (((v1.take (Int.toNat (v1.length:Int))).drop v6.toNat).getD i default))] [4,34,39] 0 ⟨[(4,.tv (ownL 1 22 (cSl 1 (cInt .u8)) v5)),(34,.al (.slot 4 0,[])),(39,.tv (.own 1 5 (([]:List Int).length + ((v1.take (Int.toNat (v1.length:Int))).drop v6.toNat).length) (appF (([]:List Int).length) (fun i=>(cInt .u8) (([]:List Int).getD i default)) (fun i=>(cInt .u8) (((v1.take (Int.toNat (v1.length:Int))).drop v6.toNat).getD i default)))))],[]⟩ ?_ z0 ⟨hg,(fun _ _=>rfl),(fun _ _=>rfl)⟩ ?_
    ·kernel_rfl
    refine AOps.extL 39 (cInt .u8) (([]:List Int) ++ ((v1.take (Int.toNat (v1.length:Int))).drop v6.toNat)) rfl List.length_append.symm (app_at (cInt .u8) ([]:List Int) ((v1.take (Int.toNat (v1.length:Int))).drop v6.toNat)) ?_
    refine AOps.freezeL 39 (cInt .u8) (([]:List Int) ++ ((v1.take (Int.toNat (v1.length:Int))).drop v6.toNat)) rfl (fun _=>rfl) ?_
    refine AOps.go [6] [7,8,9] [] [4,34,40] 0 ⟨[(4,.tv (ownL 1 22 (cSl 1 (cInt .u8)) v5)),(34,.al (.slot 4 0,[])),(40,.tv (.own 1 22 1 (newRowF [k0 (([]:List Int) ++ ((v1.take (Int.toNat (v1.length:Int))).drop v6.toNat))] 1)))],[]⟩ ?_ z0 trivial ?_
    ·kernel_rfl
    refine AOps.extL 40 (cSl 1 (cInt .u8)) ([([]:List Int) ++ ((v1.take (Int.toNat (v1.length:Int))).drop v6.toNat)]) rfl rfl (row_at (cSl 1 (cInt .u8)) 1 (fun _=>rfl) [([]:List Int) ++ ((v1.take (Int.toNat (v1.length:Int))).drop v6.toNat)] _ rfl) ?_
    obtain ⟨hg,h⟩:=of_guard h
    refine AOps.go [7] [8,9] [(v5.length + ([([]:List Int) ++ ((v1.take (Int.toNat (v1.length:Int))).drop v6.toNat)]).length) * 24 ≤ 140737488355328,PlainTo v5.length (fun i=>(cSl 1 (cInt .u8)) (v5.getD i default)),PlainTo (([([]:List Int) ++ ((v1.take (Int.toNat (v1.length:Int))).drop v6.toNat)]).length) (fun i=>(cSl 1 (cInt .u8)) (([([]:List Int) ++ ((v1.take (Int.toNat (v1.length:Int))).drop v6.toNat)]).getD i default))] [41] 0 ⟨[(41,.tv (.own 1 22 (v5.length + ([([]:List Int) ++ ((v1.take (Int.toNat (v1.length:Int))).drop v6.toNat)]).length) (appF v5.length (fun i=>(cSl 1 (cInt .u8)) (v5.getD i default)) (fun i=>(cSl 1 (cInt .u8)) (([([]:List Int) ++ ((v1.take (Int.toNat (v1.length:Int))).drop v6.toNat)]).getD i default)))))],[]⟩ ?_ z0 ⟨hg,(fun _ _=>rfl),(fun _ _=>rfl)⟩ ?_
    ·kernel_rfl
    refine AOps.extL 41 (cSl 1 (cInt .u8)) (v5 ++ ([([]:List Int) ++ ((v1.take (Int.toNat (v1.length:Int))).drop v6.toNat)])) rfl List.length_append.symm (app_at (cSl 1 (cInt .u8)) v5 ([([]:List Int) ++ ((v1.take (Int.toNat (v1.length:Int))).drop v6.toNat)])) ?_
    refine AOps.go [8,9] [] [] [2,3] 0 ⟨[(2,.tv (ownL 1 22 (cSl 1 (cInt .u8)) (v5 ++ ([([]:List Int) ++ ((v1.take (Int.toNat (v1.length:Int))).drop v6.toNat)])))),(3,tB true)],[]⟩ ?_ z0 trivial ?_
    ·kernel_rfl
    refine AOps.nil ?_
    refine AWp.freezeL 2 (cSl 1 (cInt .u8)) (v5 ++ ([([]:List Int) ++ ((v1.take (Int.toNat (v1.length:Int))).drop v6.toNat)])) rfl (fun _=>rfl) ?_
    refine AWp.keepTo [2,3] 0 ⟨[(2,.tv (fzL 1 (cSl 1 (cInt .u8)) (v5 ++ ([([]:List Int) ++ ((v1.take (Int.toNat (v1.length:Int))).drop v6.toNat)])))),(3,tB true)],[]⟩ ?_ z0 ?_
    ·kernel_rfl
    refine AWp.ret ?_
    cases h
    exact ⟨.inr rfl,rfl⟩

end Go.Sx.unit
