/- Printed by program (wip/gen): plain functions and their walks; no condition. -/
import Derived.Test.YtcfoobpnmeaflaaProg
import Derived.KernelRfl
import Derived.Test.YtcfoobpnmeaflaaSxD
import Derived.Test.YtcfoobpnmeaflaaSxA
import Derived.Test.YtcfoobpnmeaflaaSxB
import Derived.Test.YtcfoobpnmeaflaaSxC
import Derived.Test.YtcfoobpnmeaflaaSxD
import Derived.Test.YtcfoobpnmeaflaaSxE
namespace Go.Sx.img
open Go Go.Sx Go.Proofs

structure T54 where
 f0:List UInt8
 f1:List Int
 f2:List UInt8
 deriving Inhabited

def c54 (x:T54):List TV:=[.str x.f0,fzL 1 (cInt .i64) x.f1,.str x.f2]

structure T60 where
 f0:List T54
 f1:Int
 f2:List UInt8
 f3:List Int
 f4:List Int
 f5:List Int
 f6:List Int
 f7:List Int
 f8:Option (List (Int × Int))
 deriving Inhabited

def c60 (x:T60):List TV:=[fzL 3 c54 x.f0,.int .i64 x.f1,.str x.f2,.int .i64 (x.f3.getD 0 0),.int .i64 (x.f3.getD 1 0),.int .i64 (x.f3.getD 2 0),.int .i64 (x.f3.getD 3 0),.int .i64 (x.f3.getD 4 0),.int .i64 (x.f3.getD 5 0),.int .i64 (x.f3.getD 6 0),.int .i64 (x.f3.getD 7 0),.int .i64 (x.f3.getD 8 0),.int .i64 (x.f3.getD 9 0),.int .i64 (x.f4.getD 0 0),.int .i64 (x.f4.getD 1 0),.int .i64 (x.f4.getD 2 0),.int .i64 (x.f4.getD 3 0),.int .i64 (x.f5.getD 0 0),.int .i64 (x.f5.getD 1 0),.int .i64 (x.f5.getD 2 0),.int .i64 (x.f5.getD 3 0),.int .i64 (x.f6.getD 0 0),.int .i64 (x.f6.getD 1 0),.int .i64 (x.f6.getD 2 0),.int .i64 (x.f6.getD 3 0),fzL 1 (cInt .i64) x.f7,fmO .i64 (some .i64) x.f8]

def o60 (x:T60):List TV:=[fzL 3 c54 x.f0,.int .i64 x.f1,.str x.f2,.int .i64 (x.f3.getD 0 0),.int .i64 (x.f3.getD 1 0),.int .i64 (x.f3.getD 2 0),.int .i64 (x.f3.getD 3 0),.int .i64 (x.f3.getD 4 0),.int .i64 (x.f3.getD 5 0),.int .i64 (x.f3.getD 6 0),.int .i64 (x.f3.getD 7 0),.int .i64 (x.f3.getD 8 0),.int .i64 (x.f3.getD 9 0),.int .i64 (x.f4.getD 0 0),.int .i64 (x.f4.getD 1 0),.int .i64 (x.f4.getD 2 0),.int .i64 (x.f4.getD 3 0),.int .i64 (x.f5.getD 0 0),.int .i64 (x.f5.getD 1 0),.int .i64 (x.f5.getD 2 0),.int .i64 (x.f5.getD 3 0),.int .i64 (x.f6.getD 0 0),.int .i64 (x.f6.getD 1 0),.int .i64 (x.f6.getD 2 0),.int .i64 (x.f6.getD 3 0),ownL 1 3 (cInt .i64) x.f7,mpO .i64 (some .i64) x.f8]

theorem seen60 (x:T60):SeenL (o60 x) (c60 x):=(.keep rfl (.keep rfl (.keep rfl (.keep rfl (.keep rfl (.keep rfl (.keep rfl (.keep rfl (.keep rfl (.keep rfl (.keep rfl (.keep rfl (.keep rfl (.keep rfl (.keep rfl (.keep rfl (.keep rfl (.keep rfl (.keep rfl (.keep rfl (.keep rfl (.keep rfl (.keep rfl (.keep rfl (.keep rfl (.cons (.ownL (fun _=>.plain rfl)) (.cons .mpO .nil)))))))))))))))))))))))))))

theorem nohole60 (x:T60):noHole (o60 x) = true:=by
 obtain ⟨a0,a1,a2,a3,a4,a5,a6,a7,a8⟩:=x
 cases a8 <;> rfl

theorem put60_3 (y:T60):∀ (q:Nat) (v:Int),q < 10 → putAt (o60 y) (3 + q) [.int .i64 v] = o60 (T60.mk y.f0 y.f1 y.f2 (setN 10 y.f3 q v) y.f4 y.f5 y.f6 y.f7 y.f8)
 | 0,_,_=>rfl
 | 1,_,_=>rfl
 | 2,_,_=>rfl
 | 3,_,_=>rfl
 | 4,_,_=>rfl
 | 5,_,_=>rfl
 | 6,_,_=>rfl
 | 7,_,_=>rfl
 | 8,_,_=>rfl
 | 9,_,_=>rfl
 | q + 10,_,h=>absurd h (by omega)

theorem put60_4 (y:T60):∀ (q:Nat) (v:Int),q < 4 → putAt (o60 y) (13 + q) [.int .i64 v] = o60 (T60.mk y.f0 y.f1 y.f2 y.f3 (setN 4 y.f4 q v) y.f5 y.f6 y.f7 y.f8)
 | 0,_,_=>rfl
 | 1,_,_=>rfl
 | 2,_,_=>rfl
 | 3,_,_=>rfl
 | q + 4,_,h=>absurd h (by omega)

theorem put60_5 (y:T60):∀ (q:Nat) (v:Int),q < 4 → putAt (o60 y) (17 + q) [.int .i64 v] = o60 (T60.mk y.f0 y.f1 y.f2 y.f3 y.f4 (setN 4 y.f5 q v) y.f6 y.f7 y.f8)
 | 0,_,_=>rfl
 | 1,_,_=>rfl
 | 2,_,_=>rfl
 | 3,_,_=>rfl
 | q + 4,_,h=>absurd h (by omega)

structure T43 where
 f0:Int
 f1:Int
 deriving Inhabited

def c43 (x:T43):List TV:=[.int .i64 x.f0,.int .i64 x.f1]

structure T50 where
 f0:List T60
 f1:Int
 f2:List T43
 deriving Inhabited

def c50 (x:T50):List TV:=[fzL 27 c60 x.f0,.int .i64 x.f1,fzL 2 c43 x.f2]

noncomputable def ti3:TI:=⟨Try.t3.desc,1,8,[(.int .i64 (0))],false⟩
theorem tiok3:TIOk Try.prog 3 ti3:=⟨by kernel_rfl,Try.t3,(.int .i64 (0)),by kernel_rfl,by kernel_rfl,by kernel_rfl,by kernel_rfl,by kernel_rfl,by kernel_rfl,by kernel_rfl,(fun _=>⟨rfl,fun _ h=>Value.noConfusion h⟩),(fun h=>Bool.noConfusion (show false = true from h))⟩
noncomputable def ti5:TI:=⟨Try.t5.desc,1,1,[(.int .u8 (0))],false⟩
theorem tiok5:TIOk Try.prog 5 ti5:=⟨by kernel_rfl,Try.t5,(.int .u8 (0)),by kernel_rfl,by kernel_rfl,by kernel_rfl,by kernel_rfl,by kernel_rfl,by kernel_rfl,by kernel_rfl,(fun _=>⟨rfl,fun _ h=>Value.noConfusion h⟩),(fun h=>Bool.noConfusion (show false = true from h))⟩
noncomputable def ti9:TI:=⟨Try.t9.desc,1,16,[(.string ⟨#[]⟩)],false⟩
theorem tiok9:TIOk Try.prog 9 ti9:=⟨by kernel_rfl,Try.t9,(.string ⟨#[]⟩),by kernel_rfl,by kernel_rfl,by kernel_rfl,by kernel_rfl,by kernel_rfl,by kernel_rfl,by kernel_rfl,(fun _=>⟨rfl,fun _ h=>Value.noConfusion h⟩),(fun h=>Bool.noConfusion (show false = true from h))⟩
noncomputable def ti22:TI:=⟨Try.t22.desc,1,24,[(.slice none 0 0)],false⟩
theorem tiok22:TIOk Try.prog 22 ti22:=⟨by kernel_rfl,Try.t22,(.slice none 0 0),by kernel_rfl,by kernel_rfl,by kernel_rfl,by kernel_rfl,by kernel_rfl,by kernel_rfl,by kernel_rfl,(fun _=>⟨rfl,fun _ h=>Value.noConfusion h⟩),(fun h=>Bool.noConfusion (show false = true from h))⟩
noncomputable def ti25:TI:=⟨Try.t25.desc,1,8,[(.pointer none)],false⟩
theorem tiok25:TIOk Try.prog 25 ti25:=⟨by kernel_rfl,Try.t25,(.pointer none),by kernel_rfl,by kernel_rfl,by kernel_rfl,by kernel_rfl,by kernel_rfl,by kernel_rfl,by kernel_rfl,(fun _=>⟨rfl,fun _ h=>Value.noConfusion h⟩),(fun h=>Bool.noConfusion (show false = true from h))⟩
noncomputable def ti26:TI:=⟨Try.t3.desc,1,8,[(.int .i64 (0))],false⟩
theorem tiok26:TIOk Try.prog 26 ti26:=⟨by kernel_rfl,Try.t26,(.int .i64 (0)),by kernel_rfl,by kernel_rfl,by kernel_rfl,by kernel_rfl,by kernel_rfl,by kernel_rfl,by kernel_rfl,(fun _=>⟨rfl,fun _ h=>Value.noConfusion h⟩),(fun h=>Bool.noConfusion (show false = true from h))⟩
noncomputable def ti32:TI:=⟨Try.t32.desc,1,24,[(.slice none 0 0)],false⟩
theorem tiok32:TIOk Try.prog 32 ti32:=⟨by kernel_rfl,Try.t32,(.slice none 0 0),by kernel_rfl,by kernel_rfl,by kernel_rfl,by kernel_rfl,by kernel_rfl,by kernel_rfl,by kernel_rfl,(fun _=>⟨rfl,fun _ h=>Value.noConfusion h⟩),(fun h=>Bool.noConfusion (show false = true from h))⟩
noncomputable def ti41:TI:=⟨Try.t41.desc,1,24,[(.slice none 0 0)],false⟩
theorem tiok41:TIOk Try.prog 41 ti41:=⟨by kernel_rfl,Try.t41,(.slice none 0 0),by kernel_rfl,by kernel_rfl,by kernel_rfl,by kernel_rfl,by kernel_rfl,by kernel_rfl,by kernel_rfl,(fun _=>⟨rfl,fun _ h=>Value.noConfusion h⟩),(fun h=>Bool.noConfusion (show false = true from h))⟩
noncomputable def ti44:TI:=⟨Try.t43.desc,2,16,[(.int .i64 (0)),(.int .i64 (0))],false⟩
theorem tiok44:TIOk Try.prog 44 ti44:=⟨by kernel_rfl,Try.t44,(.agg #[(.int .i64 (0)),(.int .i64 (0))]),by kernel_rfl,by kernel_rfl,by kernel_rfl,by kernel_rfl,by kernel_rfl,by kernel_rfl,by kernel_rfl,(fun h=>Bool.noConfusion (show true = false from h)),(fun h=>Bool.noConfusion (show false = true from h))⟩
noncomputable def ti49:TI:=⟨Try.t49.desc,1,24,[(.slice none 0 0)],false⟩
theorem tiok49:TIOk Try.prog 49 ti49:=⟨by kernel_rfl,Try.t49,(.slice none 0 0),by kernel_rfl,by kernel_rfl,by kernel_rfl,by kernel_rfl,by kernel_rfl,by kernel_rfl,by kernel_rfl,(fun _=>⟨rfl,fun _ h=>Value.noConfusion h⟩),(fun h=>Bool.noConfusion (show false = true from h))⟩
noncomputable def ti51:TI:=⟨Try.t50.desc,3,56,[(.slice none 0 0),(.int .i64 (0)),(.slice none 0 0)],false⟩
theorem tiok51:TIOk Try.prog 51 ti51:=⟨by kernel_rfl,Try.t51,(.agg #[(.slice none 0 0),(.int .i64 (0)),(.slice none 0 0)]),by kernel_rfl,by kernel_rfl,by kernel_rfl,by kernel_rfl,by kernel_rfl,by kernel_rfl,by kernel_rfl,(fun h=>Bool.noConfusion (show true = false from h)),(fun h=>Bool.noConfusion (show false = true from h))⟩
noncomputable def ti53:TI:=⟨Try.t53.desc,1,24,[(.slice none 0 0)],false⟩
theorem tiok53:TIOk Try.prog 53 ti53:=⟨by kernel_rfl,Try.t53,(.slice none 0 0),by kernel_rfl,by kernel_rfl,by kernel_rfl,by kernel_rfl,by kernel_rfl,by kernel_rfl,by kernel_rfl,(fun _=>⟨rfl,fun _ h=>Value.noConfusion h⟩),(fun h=>Bool.noConfusion (show false = true from h))⟩
noncomputable def ti55:TI:=⟨Try.t54.desc,3,56,[(.string ⟨#[]⟩),(.slice none 0 0),(.string ⟨#[]⟩)],false⟩
theorem tiok55:TIOk Try.prog 55 ti55:=⟨by kernel_rfl,Try.t55,(.agg #[(.string ⟨#[]⟩),(.slice none 0 0),(.string ⟨#[]⟩)]),by kernel_rfl,by kernel_rfl,by kernel_rfl,by kernel_rfl,by kernel_rfl,by kernel_rfl,by kernel_rfl,(fun h=>Bool.noConfusion (show true = false from h)),(fun h=>Bool.noConfusion (show false = true from h))⟩
noncomputable def ti57:TI:=⟨Try.t57.desc,1,8,[(.map none)],false⟩
theorem tiok57:TIOk Try.prog 57 ti57:=⟨by kernel_rfl,Try.t57,(.map none),by kernel_rfl,by kernel_rfl,by kernel_rfl,by kernel_rfl,by kernel_rfl,by kernel_rfl,by kernel_rfl,(fun _=>⟨rfl,fun _ h=>Value.noConfusion h⟩),(fun h=>Bool.noConfusion (show false = true from h))⟩
noncomputable def ti58:TI:=⟨Try.t58.desc,10,80,[(.int .i64 (0)),(.int .i64 (0)),(.int .i64 (0)),(.int .i64 (0)),(.int .i64 (0)),(.int .i64 (0)),(.int .i64 (0)),(.int .i64 (0)),(.int .i64 (0)),(.int .i64 (0))],false⟩
theorem tiok58:TIOk Try.prog 58 ti58:=⟨by kernel_rfl,Try.t58,(.agg #[(.int .i64 (0)),(.int .i64 (0)),(.int .i64 (0)),(.int .i64 (0)),(.int .i64 (0)),(.int .i64 (0)),(.int .i64 (0)),(.int .i64 (0)),(.int .i64 (0)),(.int .i64 (0))]),by kernel_rfl,by kernel_rfl,by kernel_rfl,by kernel_rfl,by kernel_rfl,by kernel_rfl,by kernel_rfl,(fun h=>Bool.noConfusion (show true = false from h)),(fun h=>Bool.noConfusion (show false = true from h))⟩
noncomputable def ti59:TI:=⟨Try.t59.desc,4,32,[(.int .i64 (0)),(.int .i64 (0)),(.int .i64 (0)),(.int .i64 (0))],false⟩
theorem tiok59:TIOk Try.prog 59 ti59:=⟨by kernel_rfl,Try.t59,(.agg #[(.int .i64 (0)),(.int .i64 (0)),(.int .i64 (0)),(.int .i64 (0))]),by kernel_rfl,by kernel_rfl,by kernel_rfl,by kernel_rfl,by kernel_rfl,by kernel_rfl,by kernel_rfl,(fun h=>Bool.noConfusion (show true = false from h)),(fun h=>Bool.noConfusion (show false = true from h))⟩
noncomputable def ti61:TI:=⟨Try.t60.desc,27,256,[(.slice none 0 0),(.int .i64 (0)),(.string ⟨#[]⟩),(.int .i64 (0)),(.int .i64 (0)),(.int .i64 (0)),(.int .i64 (0)),(.int .i64 (0)),(.int .i64 (0)),(.int .i64 (0)),(.int .i64 (0)),(.int .i64 (0)),(.int .i64 (0)),(.int .i64 (0)),(.int .i64 (0)),(.int .i64 (0)),(.int .i64 (0)),(.int .i64 (0)),(.int .i64 (0)),(.int .i64 (0)),(.int .i64 (0)),(.int .i64 (0)),(.int .i64 (0)),(.int .i64 (0)),(.int .i64 (0)),(.slice none 0 0),(.map none)],false⟩
theorem tiok61:TIOk Try.prog 61 ti61:=⟨by kernel_rfl,Try.t61,(.agg #[(.slice none 0 0),(.int .i64 (0)),(.string ⟨#[]⟩),(.int .i64 (0)),(.int .i64 (0)),(.int .i64 (0)),(.int .i64 (0)),(.int .i64 (0)),(.int .i64 (0)),(.int .i64 (0)),(.int .i64 (0)),(.int .i64 (0)),(.int .i64 (0)),(.int .i64 (0)),(.int .i64 (0)),(.int .i64 (0)),(.int .i64 (0)),(.int .i64 (0)),(.int .i64 (0)),(.int .i64 (0)),(.int .i64 (0)),(.int .i64 (0)),(.int .i64 (0)),(.int .i64 (0)),(.int .i64 (0)),(.slice none 0 0),(.map none)]),by kernel_rfl,by kernel_rfl,by kernel_rfl,by kernel_rfl,by kernel_rfl,by kernel_rfl,by kernel_rfl,(fun h=>Bool.noConfusion (show true = false from h)),(fun h=>Bool.noConfusion (show false = true from h))⟩
noncomputable def ti101:TI:=⟨Try.t101.desc,1,8,[(.map none)],false⟩
theorem tiok101:TIOk Try.prog 101 ti101:=⟨by kernel_rfl,Try.t101,(.map none),by kernel_rfl,by kernel_rfl,by kernel_rfl,by kernel_rfl,by kernel_rfl,by kernel_rfl,by kernel_rfl,(fun _=>⟨rfl,fun _ h=>Value.noConfusion h⟩),(fun h=>Bool.noConfusion (show false = true from h))⟩
def tbl74:List (List UInt8 × List UInt8):=[([112,117,116],[105,99,118]),([97,100,100],[105,99,114]),([103,101,116],[105,99,114]),([115,116,111,114,101],[105,99,114]),([115,101,116],[114,118]),([112,111,115,116],[105,114]),([119,97,105,116],[114,119]),([108,111,99,107],[105,114]),([117,110,108,111,99,107],[105,114]),([97,108,108],[]),([99,114,105,116,105,99,97,108],[]),([100,111,110,101],[]),([102,97,105,108],[]),([115,116,111,112],[])]

noncomputable def TT:Tab:=[(3,ti3),(5,ti5),(9,ti9),(22,ti22),(25,ti25),(26,ti26),(32,ti32),(41,ti41),(44,ti44),(49,ti49),(51,ti51),(53,ti53),(55,ti55),(57,ti57),(58,ti58),(59,ti59),(61,ti61),(101,ti101)]
theorem hT:TabOk Try.prog TT:=TabOk.cons tiok3 (TabOk.cons tiok5 (TabOk.cons tiok9 (TabOk.cons tiok22 (TabOk.cons tiok25 (TabOk.cons tiok26 (TabOk.cons tiok32 (TabOk.cons tiok41 (TabOk.cons tiok44 (TabOk.cons tiok49 (TabOk.cons tiok51 (TabOk.cons tiok53 (TabOk.cons tiok55 (TabOk.cons tiok57 (TabOk.cons tiok58 (TabOk.cons tiok59 (TabOk.cons tiok61 (TabOk.cons tiok101 (TabOk.nil _))))))))))))))))))
noncomputable def FF (n h0:Nat):Cfg:=⟨Try.prog,TT,n,h0,hT⟩
theorem FFm:Try.prog.follows .mixedOrders = true:=by kernel_rfl

abbrev tI (n:Int):SV:=.tv (.int .i64 n)
abbrev tB (b:Bool):SV:=.tv (.bool b)
abbrev tS (s:List UInt8):SV:=.tv (.str s)
theorem z0 {n:Nat}:0 ≤ n:=Nat.zero_le n
theorem zz {n m:Nat} (h:Nat.ble n m = true):n ≤ m:=Nat.le_of_ble_eq_true h
abbrev gD {A:Type} [Inhabited A] (l:List A) (i:Int):A:=l.getD i.toNat default
abbrev q0 (l:List Int):SV:=.tv (fzL 1 (cInt .i64) l)
abbrev q1 (l:List Int):SV:=.tv (ownL 1 3 (cInt .i64) l)
abbrev q2 (l:List T54):SV:=.tv (fzL 3 c54 l)
abbrev k0 (l:List T60):TV:=ownL 27 61 o60 l
abbrev k1 (l:List T43):TV:=ownL 2 44 c43 l
abbrev k2 (l:List Int):TV:=fzL 1 (cInt .i64) l
abbrev k3 (l:List T43):TV:=fzL 2 c43 l
abbrev k4 (l:List T60):TV:=fzL 27 c60 l
abbrev k5 (l:List Int):TV:=ownL 1 3 (cInt .i64) l
abbrev k6 (l:List T54):TV:=fzL 3 c54 l
abbrev nS:TV:=.sc (.slice none 0 0)
abbrev y1:Bool:=true
abbrev n1:Bool:=false

noncomputable def f39_z :Option Bool :=
 some true

theorem f39_z_ok  {r:Bool} (h:f39_z  = some r):ACall Try.prog 39 [.tv (.sc (.pointer none))] [] (.tv (.bool r)) []:=by
 refine ACall.of1 (FF 13 0) Try.func39 rfl Try.ntmps39 Try.results39 (zz rfl) rfl rfl ?_
 refine AWp.seq ?_
 refine AWp.start [0] [] [] [0] 0 ⟨[(0,.tv (.sc (.pointer none)))],[]⟩ rfl ?_ z0 trivial ?_
 ·kernel_rfl
 refine AOps.nil ?_
 refine AWp.seq ?_
 refine AWp.start [0,1,2,3,4,5,6,7,8,9,10] [] [] [2] 0 ⟨[(2,tB true)],[]⟩ rfl ?_ z0 trivial ?_
 ·kernel_rfl
 refine AOps.nil ?_
 refine AWp.ret ?_
 cases h
 exact ⟨.inr rfl,rfl⟩

noncomputable def f42_z (v1:Int):Option Bool :=
 (cond (decide (v1 > (0:Int))) none (some false)).bind fun v2=>some v2

theorem f42_z_ok (v1:Int) {r:Bool} (h:f42_z v1 = some r):ACall Try.prog 42 [.tv (.sc (.pointer none)),.tv (.int .i64 v1)] [] (.tv (.bool r)) []:=by
 refine ACall.of1 (FF 16 0) Try.func42 rfl Try.ntmps42 Try.results42 (zz rfl) rfl rfl ?_
 refine AWp.seq ?_
 refine AWp.start [0] [] [] [0,1] 0 ⟨[(0,.tv (.sc (.pointer none))),(1,tI v1)],[]⟩ rfl ?_ z0 trivial ?_
 ·kernel_rfl
 refine AOps.nil ?_
 refine AWp.seq ?_
 refine AWp.start [0,1,2] [3,4,5,6,7,8,9,10,11] [] [0,1,7] 0 ⟨[(0,.tv (.sc (.pointer none))),(1,tI v1),(7,tB (decide (v1 > (0:Int))))],[]⟩ rfl ?_ z0 trivial ?_
 ·kernel_rfl
 obtain ⟨v2,hc3,h⟩:=of_bind h
 refine AOps.cut [3,4,5,6,7,8,9,10] [11] (fun σ=>σ = ⟨[(15,tB v2)],[]⟩) ?_ fun σ' hJ=>?_
 ·refine AOps.split (fun b=>⟨[(0,.tv (.sc (.pointer none))),(1,tI v1),(7,tB b)],[]⟩) _ (fun hb=>?_) fun hb=>?_
  ·replace hc3:=of_true hc3 hb
   cases hc3
  ·replace hc3:=of_false hc3 hb
   refine AOps.go [3,4,5,6,7,8,9,10] [] [] [15] 0 ⟨[(15,tB false)],[]⟩ ?_ z0 trivial ?_
   ·kernel_rfl
   cases hc3
   exact AOps.nil rfl
 subst hJ
 refine AOps.go [11] [] [] [4] 0 ⟨[(4,tB v2)],[]⟩ ?_ z0 trivial ?_
 ·kernel_rfl
 refine AOps.nil ?_
 refine AWp.ret ?_
 cases h
 exact ⟨.inr rfl,rfl⟩

noncomputable def f43_z (v1:Int):Option Bool :=
 none

theorem f43_z_ok (v1:Int) {r:Bool} (h:f43_z v1 = some r):ACall Try.prog 43 [.tv (.sc (.pointer none)),.tv (.int .i64 v1)] [] (.tv (.bool r)) []:=by
 refine ACall.of1 (FF 81 0) Try.func43 rfl Try.ntmps43 Try.results43 (zz rfl) rfl rfl ?_
 refine AWp.seq ?_
 refine AWp.start [0] [] [] [0,1] 0 ⟨[(0,.tv (.sc (.pointer none))),(1,tI v1)],[]⟩ rfl ?_ z0 trivial ?_
 ·kernel_rfl
 refine AOps.nil ?_
 refine AWp.seq ?_
 cases h

noncomputable def f22_z (v1:Int):Option (Bool × Int) :=
 (f39_z ).bind fun v2=>cond v2 (some (false,(7:Int))) ((f42_z v1).bind fun v3=>cond (!v3) (some (false,(2:Int))) ((f43_z v1).bind fun v4=>some (v4,(0:Int))))

theorem f22_z_ok (v1:Int) {r:Bool × Int} (h:f22_z v1 = some r):ACall Try.prog 22 [.tv (.sc (.pointer none)),.tv (.int .i64 v1)] [] (.tup [.tv (.bool r.1),.tv (.int .i64 r.2)]) []:=by
 refine ACall.ofN (FF 17 0) (rs:=[4,5]) (env:=[(4,tB r.1),(5,tI r.2)]) Try.func22 rfl Try.ntmps22 Try.results22 (by decide) (by decide) rfl (zz rfl) rfl (get_ofN _ _ _ rfl) (ok_ofN _ rfl) ?_
 refine AWp.seq ?_
 refine AWp.start [0,1] [] [] [0,1] 0 ⟨[(0,.tv (.sc (.pointer none))),(1,tI v1)],[]⟩ rfl ?_ z0 trivial ?_
 ·kernel_rfl
 refine AOps.nil ?_
 refine AWp.seq ?_
 refine AWp.block ?_
 refine AWp.seq ?_
 refine AWp.start [0] [1,2] [] [0,1,7] 0 ⟨[(0,.tv (.sc (.pointer none))),(1,tI v1),(7,.tv (.sc (.pointer none)))],[]⟩ rfl ?_ z0 trivial ?_
 ·kernel_rfl
 obtain ⟨v2,hv2,h⟩:=of_bind h
 refine AOps.cons (AOne.callP (F:=(FF 17 0)) _ rfl rfl rfl _ rfl rfl _ _ rfl Try.call39 [.tv (.sc (.pointer none))] rfl rfl (f39_z_ok  hv2) rfl) ?_
 refine AOps.go [2] [] [] [0,1,6] 0 ⟨[(0,.tv (.sc (.pointer none))),(1,tI v1),(6,tB v2)],[]⟩ ?_ z0 trivial ?_
 ·kernel_rfl
 refine AOps.nil ?_
 refine AWp.cond rfl (fun hb=>?_) fun hb=>?_
 ·replace h:=of_true h hb
  refine AWp.keepTo [] 0 ⟨[],[]⟩ ?_ z0 ?_
  ·kernel_rfl
  refine AWp.seq ?_
  refine AWp.start [0,1] [] [] [4,5] 0 ⟨[(4,tB false),(5,tI (7:Int))],[]⟩ rfl ?_ z0 trivial ?_
  ·kernel_rfl
  refine AOps.nil ?_
  refine AWp.ret ?_
  cases h
  exact ⟨.inr rfl,rfl⟩
 ·replace h:=of_false h hb
  refine AWp.keepTo [0,1] 0 ⟨[(0,.tv (.sc (.pointer none))),(1,tI v1)],[]⟩ ?_ z0 ?_
  ·kernel_rfl
  refine AWp.seq ?_
  refine AWp.start [0,1] [2,3,4] [] [0,1,10,11] 0 ⟨[(0,.tv (.sc (.pointer none))),(1,tI v1),(10,.tv (.sc (.pointer none))),(11,tI v1)],[]⟩ rfl ?_ z0 trivial ?_
  ·kernel_rfl
  obtain ⟨v3,hv3,h⟩:=of_bind h
  refine AOps.cons (AOne.callP (F:=(FF 17 0)) _ rfl rfl rfl _ rfl rfl _ _ rfl Try.call42 [.tv (.sc (.pointer none)),tI v1] rfl rfl (f42_z_ok v1 hv3) rfl) ?_
  refine AOps.go [3,4] [] [] [0,1,9] 0 ⟨[(0,.tv (.sc (.pointer none))),(1,tI v1),(9,tB (!v3))],[]⟩ ?_ z0 trivial ?_
  ·kernel_rfl
  refine AOps.nil ?_
  refine AWp.cond rfl (fun hb=>?_) fun hb=>?_
  ·replace h:=of_true h hb
   refine AWp.keepTo [] 0 ⟨[],[]⟩ ?_ z0 ?_
   ·kernel_rfl
   refine AWp.seq ?_
   refine AWp.start [0,1] [] [] [4,5] 0 ⟨[(4,tB false),(5,tI (2:Int))],[]⟩ rfl ?_ z0 trivial ?_
   ·kernel_rfl
   refine AOps.nil ?_
   refine AWp.ret ?_
   cases h
   exact ⟨.inr rfl,rfl⟩
  ·replace h:=of_false h hb
   refine AWp.keepTo [0,1] 0 ⟨[(0,.tv (.sc (.pointer none))),(1,tI v1)],[]⟩ ?_ z0 ?_
   ·kernel_rfl
   refine AWp.skip ?_
   refine AWp.seq ?_
   refine AWp.start [0,1] [2,3,4] [] [14,15] 0 ⟨[(14,.tv (.sc (.pointer none))),(15,tI v1)],[]⟩ rfl ?_ z0 trivial ?_
   ·kernel_rfl
   obtain ⟨v4,hv4,h⟩:=of_bind h
   refine AOps.cons (AOne.callP (F:=(FF 17 0)) _ rfl rfl rfl _ rfl rfl _ _ rfl Try.call43 [.tv (.sc (.pointer none)),tI v1] rfl rfl (f43_z_ok v1 hv4) rfl) ?_
   refine AOps.go [3,4] [] [] [4,5] 0 ⟨[(4,tB v4),(5,tI (0:Int))],[]⟩ ?_ z0 trivial ?_
   ·kernel_rfl
   refine AOps.nil ?_
   refine AWp.ret ?_
   cases h
   exact ⟨.inr rfl,rfl⟩

noncomputable def f39 (v1:T50):Option Bool :=
 some ((v1.f0.length:Int) == (0:Int))

theorem f39_ok (v1:T50) {r:Bool} (h:f39 v1 = some r):ACall Try.prog 39 [.rp [fzL 27 c60 v1.f0,.int .i64 v1.f1,fzL 2 c43 v1.f2]] [] (.tv (.bool r)) []:=by
 refine ACall.of1 (FF 13 0) Try.func39 rfl Try.ntmps39 Try.results39 (zz rfl) rfl rfl ?_
 refine AWp.seq ?_
 refine AWp.start [0] [] [] [0] 0 ⟨[(0,.rp (c50 v1))],[]⟩ rfl ?_ z0 trivial ?_
 ·kernel_rfl
 refine AOps.nil ?_
 refine AWp.seq ?_
 refine AWp.start [0,1,2,3,4,5,6,7,8,9,10] [] [] [2] 0 ⟨[(2,tB ((v1.f0.length:Int) == (0:Int)))],[]⟩ rfl ?_ z0 trivial ?_
 ·kernel_rfl
 refine AOps.nil ?_
 refine AWp.ret ?_
 cases h
 exact ⟨.inr rfl,rfl⟩

noncomputable def f42 (v1:T50) (v2:Int):Option Bool :=
 (cond (decide (v2 > (0:Int))) (some (decide (v2 < (v1.f0.length:Int)))) (some false)).bind fun v3=>some v3

theorem f42_ok (v1:T50) (v2:Int) {r:Bool} (h:f42 v1 v2 = some r):ACall Try.prog 42 [.rp [fzL 27 c60 v1.f0,.int .i64 v1.f1,fzL 2 c43 v1.f2],.tv (.int .i64 v2)] [] (.tv (.bool r)) []:=by
 refine ACall.of1 (FF 16 0) Try.func42 rfl Try.ntmps42 Try.results42 (zz rfl) rfl rfl ?_
 refine AWp.seq ?_
 refine AWp.start [0] [] [] [0,1] 0 ⟨[(0,.rp (c50 v1)),(1,tI v2)],[]⟩ rfl ?_ z0 trivial ?_
 ·kernel_rfl
 refine AOps.nil ?_
 refine AWp.seq ?_
 refine AWp.start [0,1,2] [3,4,5,6,7,8,9,10,11] [] [0,1,7] 0 ⟨[(0,.rp (c50 v1)),(1,tI v2),(7,tB (decide (v2 > (0:Int))))],[]⟩ rfl ?_ z0 trivial ?_
 ·kernel_rfl
 obtain ⟨v3,hc3,h⟩:=of_bind h
 refine AOps.cut [3,4,5,6,7,8,9,10] [11] (fun σ=>σ = ⟨[(15,tB v3)],[]⟩) ?_ fun σ' hJ=>?_
 ·refine AOps.split (fun b=>⟨[(0,.rp (c50 v1)),(1,tI v2),(7,tB b)],[]⟩) _ (fun hb=>?_) fun hb=>?_
  ·replace hc3:=of_true hc3 hb
   refine AOps.go [3,4,5,6,7,8,9,10] [] [] [15] 0 ⟨[(15,tB (decide (v2 < (v1.f0.length:Int))))],[]⟩ ?_ z0 trivial ?_
   ·kernel_rfl
   cases hc3
   exact AOps.nil rfl
  ·replace hc3:=of_false hc3 hb
   refine AOps.go [3,4,5,6,7,8,9,10] [] [] [15] 0 ⟨[(15,tB false)],[]⟩ ?_ z0 trivial ?_
   ·kernel_rfl
   cases hc3
   exact AOps.nil rfl
 subst hJ
 refine AOps.go [11] [] [] [4] 0 ⟨[(4,tB v3)],[]⟩ ?_ z0 trivial ?_
 ·kernel_rfl
 refine AOps.nil ?_
 refine AWp.ret ?_
 cases h
 exact ⟨.inr rfl,rfl⟩

abbrev hp0:List AObj:=[.cells 55 [.str ([]:List UInt8),nS,.str ([]:List UInt8)]]

noncomputable def f80 (v1:T50) (v2:Int):Option T54 :=
 if (0:Int) ≤ v2 ∧ v2 < (v1.f0.length:Int) then cond (((v1.f0.getD v2.toNat default).f2) == ([119,97,105,116,115]:List UInt8)) (if (0:Int) ≤ w64 (((v1.f0.getD v2.toNat default).f1) - (1:Int)) ∧ w64 (((v1.f0.getD v2.toNat default).f1) - (1:Int)) < (((v1.f0.getD v2.toNat default).f0).length:Int) then some (((v1.f0.getD v2.toNat default).f0).getD (Int.toNat (w64 (((v1.f0.getD v2.toNat default).f1) - (1:Int)))) default) else none) (if (0:Int) ≤ (v1.f0.getD v2.toNat default).f1 ∧ (v1.f0.getD v2.toNat default).f1 < (((v1.f0.getD v2.toNat default).f0).length:Int) then some (((v1.f0.getD v2.toNat default).f0).getD (Int.toNat ((v1.f0.getD v2.toNat default).f1)) default) else none) else none

theorem f80_ok (v1:T50) (v2:Int) {r:T54} (h:f80 v1 v2 = some r):ACall Try.prog 80 [.rp [fzL 27 c60 v1.f0,.int .i64 v1.f1,fzL 2 c43 v1.f2],.tv (.int .i64 v2)] [] (.agg [.str r.f0,fzL 1 (cInt .i64) r.f1,.str r.f2]) []:=by
 refine ACall.of1c (r:=4) (t:=55) (cells0:=(c54 r)) (FF 38 0) Try.func80 rfl Try.ntmps80 (by kernel_rfl) (zz rfl) rfl rfl rfl (by kernel_rfl) rfl [4] 0 z0 rfl ?_
 refine AWp.seq ?_
 refine AWp.start [0] [] [] [0,1,4] 1 ⟨[(0,.rp (c50 v1)),(1,tI v2),(4,.pc 0 0)],hp0⟩ rfl ?_ z0 trivial ?_
 ·kernel_rfl
 refine AOps.nil ?_
 refine AWp.seq ?_
 obtain ⟨hg,h⟩:=of_guard h
 refine AWp.start [0,1,2,3,4,5,6] [] [(0:Int) ≤ v2,v2 < (v1.f0.length:Int)] [4,5] 1 ⟨[(4,.pc 0 0),(5,.rp (c60 (gD v1.f0 v2)))],hp0⟩ rfl ?_ z0 ⟨hg.1,hg.2⟩ ?_
 ·kernel_rfl
 refine AOps.nil ?_
 refine AWp.seq ?_
 refine AWp.seq ?_
 refine AWp.start [0,1,2,3,4] [] [] [4,5,16] 1 ⟨[(4,.pc 0 0),(5,.rp (c60 (gD v1.f0 v2))),(16,tB (((gD v1.f0 v2).f2) == ([119,97,105,116,115]:List UInt8)))],hp0⟩ rfl ?_ z0 trivial ?_
 ·kernel_rfl
 refine AOps.nil ?_
 refine AWp.cond rfl (fun hb=>?_) fun hb=>?_
 ·replace h:=of_true h hb
  refine AWp.keepTo [4,5] 1 ⟨[(4,.pc 0 0),(5,.rp (c60 (gD v1.f0 v2)))],hp0⟩ ?_ z0 ?_
  ·kernel_rfl
  refine AWp.seq ?_
  refine AWp.draw FFm _ (n:=12) rfl (ls:=#[n1,n1,n1,n1,n1,n1,n1,n1,n1,n1,n1,n1]) rfl ?_ (fun _ h=>h)
  obtain ⟨hg,h⟩:=of_guard h
  refine AAny.go (by kernel_rfl) [0,1,2,3,4,5,6,7,8,9,10] (fuel':=1) rfl [(0:Int) ≤ w64 (((gD v1.f0 v2).f1) - (1:Int)),w64 (((gD v1.f0 v2).f1) - (1:Int)) < (((gD v1.f0 v2).f0).length:Int)] #[y1,y1,y1,y1,y1,y1,y1,y1,y1,y1,y1,n1] [4,27] 1 ⟨[(4,.pc 0 0),(27,.agg (c54 (((gD v1.f0 v2).f0).getD (Int.toNat (w64 (((gD v1.f0 v2).f1) - (1:Int)))) default)))],hp0⟩ ?_ z0 ⟨hg.1,hg.2⟩ ?_
  ·kernel_rfl
  refine AAny.step (i:=11) (fuel':=0) rfl (by kernel_rfl) [] #[y1,y1,y1,y1,y1,y1,y1,y1,y1,y1,y1,y1] rfl [4] 1 ⟨[(4,.pc 0 0)],[.cells 55 (c54 (((gD v1.f0 v2).f0).getD (Int.toNat (w64 (((gD v1.f0 v2).f1) - (1:Int)))) default))]⟩ ?_ z0 trivial ?_
  ·kernel_rfl
  refine AAny.keepTo [4] 1 ⟨[(4,.pc 0 0)],[.cells 55 (c54 (((gD v1.f0 v2).f0).getD (Int.toNat (w64 (((gD v1.f0 v2).f1) - (1:Int)))) default))]⟩ _ ?_ rfl z0 (AAny.done (by kernel_rfl) ?_)
  ·kernel_rfl
  refine AWp.pin 0 rfl rfl ?_
  refine AWp.keepTo [4] 0 ⟨[(4,.rp (c54 (((gD v1.f0 v2).f0).getD (Int.toNat (w64 (((gD v1.f0 v2).f1) - (1:Int)))) default)))],[]⟩ ?_ z0 ?_
  ·kernel_rfl
  refine AWp.ret ?_
  cases h
  exact ⟨.inr rfl,rfl⟩
 ·replace h:=of_false h hb
  refine AWp.keepTo [4,5] 1 ⟨[(4,.pc 0 0),(5,.rp (c60 (gD v1.f0 v2)))],hp0⟩ ?_ z0 ?_
  ·kernel_rfl
  refine AWp.skip ?_
  refine AWp.seq ?_
  refine AWp.draw FFm _ (n:=11) rfl (ls:=#[n1,n1,n1,n1,n1,n1,n1,n1,n1,n1,n1]) rfl ?_ (fun _ h=>h)
  obtain ⟨hg,h⟩:=of_guard h
  refine AAny.go (by kernel_rfl) [0,1,2,3,4,5,6,7,8,9] (fuel':=1) rfl [(0:Int) ≤ (gD v1.f0 v2).f1,(gD v1.f0 v2).f1 < (((gD v1.f0 v2).f0).length:Int)] #[y1,y1,y1,y1,y1,y1,y1,y1,y1,y1,n1] [4,37] 1 ⟨[(4,.pc 0 0),(37,.agg (c54 (((gD v1.f0 v2).f0).getD (Int.toNat ((gD v1.f0 v2).f1)) default)))],hp0⟩ ?_ z0 ⟨hg.1,hg.2⟩ ?_
  ·kernel_rfl
  refine AAny.step (i:=10) (fuel':=0) rfl (by kernel_rfl) [] #[y1,y1,y1,y1,y1,y1,y1,y1,y1,y1,y1] rfl [4] 1 ⟨[(4,.pc 0 0)],[.cells 55 (c54 (((gD v1.f0 v2).f0).getD (Int.toNat ((gD v1.f0 v2).f1)) default))]⟩ ?_ z0 trivial ?_
  ·kernel_rfl
  refine AAny.keepTo [4] 1 ⟨[(4,.pc 0 0)],[.cells 55 (c54 (((gD v1.f0 v2).f0).getD (Int.toNat ((gD v1.f0 v2).f1)) default))]⟩ _ ?_ rfl z0 (AAny.done (by kernel_rfl) ?_)
  ·kernel_rfl
  refine AWp.pin 0 rfl rfl ?_
  refine AWp.keepTo [4] 0 ⟨[(4,.rp (c54 (((gD v1.f0 v2).f0).getD (Int.toNat ((gD v1.f0 v2).f1)) default)))],[]⟩ ?_ z0 ?_
  ·kernel_rfl
  refine AWp.ret ?_
  cases h
  exact ⟨.inr rfl,rfl⟩

/-- A deed, whose numbers are told as the very value; an image and a world of such. -/
structure T54v where
 f0:List UInt8
 f1:Value
 f2:List UInt8
 deriving Inhabited
def c54v (x:T54v):List TV:=[.str x.f0,.sc (x.f1),.str x.f2]
structure T60v where
 f0:List T54v
 f1:Int
 f2:List UInt8
 f3:List Int
 f4:List Int
 f5:List Int
 f6:List Int
 f7:List Int
 f8:Option (List (Int × Int))
 deriving Inhabited
def c60v (x:T60v):List TV:=[fzL 3 c54v x.f0,.int .i64 x.f1,.str x.f2,.int .i64 (x.f3.getD 0 0),.int .i64 (x.f3.getD 1 0),.int .i64 (x.f3.getD 2 0),.int .i64 (x.f3.getD 3 0),.int .i64 (x.f3.getD 4 0),.int .i64 (x.f3.getD 5 0),.int .i64 (x.f3.getD 6 0),.int .i64 (x.f3.getD 7 0),.int .i64 (x.f3.getD 8 0),.int .i64 (x.f3.getD 9 0),.int .i64 (x.f4.getD 0 0),.int .i64 (x.f4.getD 1 0),.int .i64 (x.f4.getD 2 0),.int .i64 (x.f4.getD 3 0),.int .i64 (x.f5.getD 0 0),.int .i64 (x.f5.getD 1 0),.int .i64 (x.f5.getD 2 0),.int .i64 (x.f5.getD 3 0),.int .i64 (x.f6.getD 0 0),.int .i64 (x.f6.getD 1 0),.int .i64 (x.f6.getD 2 0),.int .i64 (x.f6.getD 3 0),fzL 1 (cInt .i64) x.f7,fmO .i64 (some .i64) x.f8]
structure T50v where
 f0:List T60v
 f1:Int
 f2:List T43

noncomputable def f80v (v1:T50v) (v2:Int):Option T54v :=
 if (0:Int) ≤ v2 ∧ v2 < (v1.f0.length:Int) then cond (((v1.f0.getD v2.toNat default).f2) == ([119,97,105,116,115]:List UInt8)) (if (0:Int) ≤ w64 (((v1.f0.getD v2.toNat default).f1) - (1:Int)) ∧ w64 (((v1.f0.getD v2.toNat default).f1) - (1:Int)) < (((v1.f0.getD v2.toNat default).f0).length:Int) then some (((v1.f0.getD v2.toNat default).f0).getD (Int.toNat (w64 (((v1.f0.getD v2.toNat default).f1) - (1:Int)))) default) else none) (if (0:Int) ≤ (v1.f0.getD v2.toNat default).f1 ∧ (v1.f0.getD v2.toNat default).f1 < (((v1.f0.getD v2.toNat default).f0).length:Int) then some (((v1.f0.getD v2.toNat default).f0).getD (Int.toNat ((v1.f0.getD v2.toNat default).f1)) default) else none) else none

theorem f80v_ok (v1:T50v) (v2:Int) {r:T54v} (h:f80v v1 v2 = some r):ACall Try.prog 80 [.rp [fzL 27 c60v v1.f0,.int .i64 v1.f1,fzL 2 c43 v1.f2],.tv (.int .i64 v2)] [] (.agg [.str r.f0,.sc r.f1,.str r.f2]) []:=by
 refine ACall.of1c (r:=4) (t:=55) (cells0:=[.str r.f0,.sc r.f1,.str r.f2]) (FF 38 0) Try.func80 rfl Try.ntmps80 (by kernel_rfl) (Nat.le_of_ble_eq_true rfl) rfl rfl rfl (by kernel_rfl) rfl [4] 0 (Nat.zero_le _) rfl ?_
 refine AWp.seq ?_
 refine AWp.start [0] [] [] [0,1,4] 1 ⟨[(0,.rp [fzL 27 c60v v1.f0,.int .i64 v1.f1,fzL 2 c43 v1.f2]),(1,.tv (.int .i64 v2)),(4,.pc 0 0)],[.cells 55 [.str ([]:List UInt8),.sc (.slice none 0 0),.str ([]:List UInt8)]]⟩ rfl ?_ (Nat.zero_le _) trivial ?_
 ·kernel_rfl
 refine AOps.nil ?_
 refine AWp.seq ?_
 obtain ⟨hg,h⟩:=of_guard h
 refine AWp.start [0,1,2,3,4,5,6] [] [(0:Int) ≤ v2,v2 < (v1.f0.length:Int)] [4,5] 1 ⟨[(4,.pc 0 0),(5,.rp [fzL 3 c54v ((v1.f0.getD v2.toNat default).f0),.int .i64 ((v1.f0.getD v2.toNat default).f1),.str ((v1.f0.getD v2.toNat default).f2),.int .i64 (((v1.f0.getD v2.toNat default).f3).getD 0 0),.int .i64 (((v1.f0.getD v2.toNat default).f3).getD 1 0),.int .i64 (((v1.f0.getD v2.toNat default).f3).getD 2 0),.int .i64 (((v1.f0.getD v2.toNat default).f3).getD 3 0),.int .i64 (((v1.f0.getD v2.toNat default).f3).getD 4 0),.int .i64 (((v1.f0.getD v2.toNat default).f3).getD 5 0),.int .i64 (((v1.f0.getD v2.toNat default).f3).getD 6 0),.int .i64 (((v1.f0.getD v2.toNat default).f3).getD 7 0),.int .i64 (((v1.f0.getD v2.toNat default).f3).getD 8 0),.int .i64 (((v1.f0.getD v2.toNat default).f3).getD 9 0),.int .i64 (((v1.f0.getD v2.toNat default).f4).getD 0 0),.int .i64 (((v1.f0.getD v2.toNat default).f4).getD 1 0),.int .i64 (((v1.f0.getD v2.toNat default).f4).getD 2 0),.int .i64 (((v1.f0.getD v2.toNat default).f4).getD 3 0),.int .i64 (((v1.f0.getD v2.toNat default).f5).getD 0 0),.int .i64 (((v1.f0.getD v2.toNat default).f5).getD 1 0),.int .i64 (((v1.f0.getD v2.toNat default).f5).getD 2 0),.int .i64 (((v1.f0.getD v2.toNat default).f5).getD 3 0),.int .i64 (((v1.f0.getD v2.toNat default).f6).getD 0 0),.int .i64 (((v1.f0.getD v2.toNat default).f6).getD 1 0),.int .i64 (((v1.f0.getD v2.toNat default).f6).getD 2 0),.int .i64 (((v1.f0.getD v2.toNat default).f6).getD 3 0),fzL 1 (cInt .i64) ((v1.f0.getD v2.toNat default).f7),fmO .i64 (some .i64) ((v1.f0.getD v2.toNat default).f8)])],[.cells 55 [.str ([]:List UInt8),.sc (.slice none 0 0),.str ([]:List UInt8)]]⟩ rfl ?_ (Nat.zero_le _) ⟨hg.1,hg.2⟩ ?_
 ·kernel_rfl
 refine AOps.nil ?_
 refine AWp.seq ?_
 refine AWp.seq ?_
 refine AWp.start [0,1,2,3,4] [] [] [4,5,16] 1 ⟨[(4,.pc 0 0),(5,.rp [fzL 3 c54v ((v1.f0.getD v2.toNat default).f0),.int .i64 ((v1.f0.getD v2.toNat default).f1),.str ((v1.f0.getD v2.toNat default).f2),.int .i64 (((v1.f0.getD v2.toNat default).f3).getD 0 0),.int .i64 (((v1.f0.getD v2.toNat default).f3).getD 1 0),.int .i64 (((v1.f0.getD v2.toNat default).f3).getD 2 0),.int .i64 (((v1.f0.getD v2.toNat default).f3).getD 3 0),.int .i64 (((v1.f0.getD v2.toNat default).f3).getD 4 0),.int .i64 (((v1.f0.getD v2.toNat default).f3).getD 5 0),.int .i64 (((v1.f0.getD v2.toNat default).f3).getD 6 0),.int .i64 (((v1.f0.getD v2.toNat default).f3).getD 7 0),.int .i64 (((v1.f0.getD v2.toNat default).f3).getD 8 0),.int .i64 (((v1.f0.getD v2.toNat default).f3).getD 9 0),.int .i64 (((v1.f0.getD v2.toNat default).f4).getD 0 0),.int .i64 (((v1.f0.getD v2.toNat default).f4).getD 1 0),.int .i64 (((v1.f0.getD v2.toNat default).f4).getD 2 0),.int .i64 (((v1.f0.getD v2.toNat default).f4).getD 3 0),.int .i64 (((v1.f0.getD v2.toNat default).f5).getD 0 0),.int .i64 (((v1.f0.getD v2.toNat default).f5).getD 1 0),.int .i64 (((v1.f0.getD v2.toNat default).f5).getD 2 0),.int .i64 (((v1.f0.getD v2.toNat default).f5).getD 3 0),.int .i64 (((v1.f0.getD v2.toNat default).f6).getD 0 0),.int .i64 (((v1.f0.getD v2.toNat default).f6).getD 1 0),.int .i64 (((v1.f0.getD v2.toNat default).f6).getD 2 0),.int .i64 (((v1.f0.getD v2.toNat default).f6).getD 3 0),fzL 1 (cInt .i64) ((v1.f0.getD v2.toNat default).f7),fmO .i64 (some .i64) ((v1.f0.getD v2.toNat default).f8)]),(16,.tv (.bool (((v1.f0.getD v2.toNat default).f2) == ([119,97,105,116,115]:List UInt8))))],[.cells 55 [.str ([]:List UInt8),.sc (.slice none 0 0),.str ([]:List UInt8)]]⟩ rfl ?_ (Nat.zero_le _) trivial ?_
 ·kernel_rfl
 refine AOps.nil ?_
 refine AWp.cond rfl (fun hb=>?_) fun hb=>?_
 ·replace h:=of_true h hb
  refine AWp.keepTo [4,5] 1 ⟨[(4,.pc 0 0),(5,.rp [fzL 3 c54v ((v1.f0.getD v2.toNat default).f0),.int .i64 ((v1.f0.getD v2.toNat default).f1),.str ((v1.f0.getD v2.toNat default).f2),.int .i64 (((v1.f0.getD v2.toNat default).f3).getD 0 0),.int .i64 (((v1.f0.getD v2.toNat default).f3).getD 1 0),.int .i64 (((v1.f0.getD v2.toNat default).f3).getD 2 0),.int .i64 (((v1.f0.getD v2.toNat default).f3).getD 3 0),.int .i64 (((v1.f0.getD v2.toNat default).f3).getD 4 0),.int .i64 (((v1.f0.getD v2.toNat default).f3).getD 5 0),.int .i64 (((v1.f0.getD v2.toNat default).f3).getD 6 0),.int .i64 (((v1.f0.getD v2.toNat default).f3).getD 7 0),.int .i64 (((v1.f0.getD v2.toNat default).f3).getD 8 0),.int .i64 (((v1.f0.getD v2.toNat default).f3).getD 9 0),.int .i64 (((v1.f0.getD v2.toNat default).f4).getD 0 0),.int .i64 (((v1.f0.getD v2.toNat default).f4).getD 1 0),.int .i64 (((v1.f0.getD v2.toNat default).f4).getD 2 0),.int .i64 (((v1.f0.getD v2.toNat default).f4).getD 3 0),.int .i64 (((v1.f0.getD v2.toNat default).f5).getD 0 0),.int .i64 (((v1.f0.getD v2.toNat default).f5).getD 1 0),.int .i64 (((v1.f0.getD v2.toNat default).f5).getD 2 0),.int .i64 (((v1.f0.getD v2.toNat default).f5).getD 3 0),.int .i64 (((v1.f0.getD v2.toNat default).f6).getD 0 0),.int .i64 (((v1.f0.getD v2.toNat default).f6).getD 1 0),.int .i64 (((v1.f0.getD v2.toNat default).f6).getD 2 0),.int .i64 (((v1.f0.getD v2.toNat default).f6).getD 3 0),fzL 1 (cInt .i64) ((v1.f0.getD v2.toNat default).f7),fmO .i64 (some .i64) ((v1.f0.getD v2.toNat default).f8)])],[.cells 55 [.str ([]:List UInt8),.sc (.slice none 0 0),.str ([]:List UInt8)]]⟩ ?_ (Nat.zero_le _) ?_
  ·kernel_rfl
  refine AWp.seq ?_
  refine AWp.draw FFm _ (n:=12) rfl (ls:=#[false,false,false,false,false,false,false,false,false,false,false,false]) rfl ?_ (fun _ h=>h)
  obtain ⟨hg,h⟩:=of_guard h
  refine AAny.go (by kernel_rfl) [0,1,2,3,4,5,6,7,8,9,10] (fuel':=1) rfl [(0:Int) ≤ w64 (((v1.f0.getD v2.toNat default).f1) - (1:Int)),w64 (((v1.f0.getD v2.toNat default).f1) - (1:Int)) < (((v1.f0.getD v2.toNat default).f0).length:Int)] #[true,true,true,true,true,true,true,true,true,true,true,false] [4,27] 1 ⟨[(4,.pc 0 0),(27,.agg [.str ((((v1.f0.getD v2.toNat default).f0).getD (Int.toNat (w64 (((v1.f0.getD v2.toNat default).f1) - (1:Int)))) default).f0),.sc ((((v1.f0.getD v2.toNat default).f0).getD (Int.toNat (w64 (((v1.f0.getD v2.toNat default).f1) - (1:Int)))) default).f1),.str ((((v1.f0.getD v2.toNat default).f0).getD (Int.toNat (w64 (((v1.f0.getD v2.toNat default).f1) - (1:Int)))) default).f2)])],[.cells 55 [.str ([]:List UInt8),.sc (.slice none 0 0),.str ([]:List UInt8)]]⟩ ?_ (Nat.zero_le _) ⟨hg.1,hg.2⟩ ?_
  ·kernel_rfl
  refine AAny.step (i:=11) (fuel':=0) rfl (by kernel_rfl) [] #[true,true,true,true,true,true,true,true,true,true,true,true] rfl [4] 1 ⟨[(4,.pc 0 0)],[.cells 55 [.str ((((v1.f0.getD v2.toNat default).f0).getD (Int.toNat (w64 (((v1.f0.getD v2.toNat default).f1) - (1:Int)))) default).f0),.sc ((((v1.f0.getD v2.toNat default).f0).getD (Int.toNat (w64 (((v1.f0.getD v2.toNat default).f1) - (1:Int)))) default).f1),.str ((((v1.f0.getD v2.toNat default).f0).getD (Int.toNat (w64 (((v1.f0.getD v2.toNat default).f1) - (1:Int)))) default).f2)]]⟩ ?_ (Nat.zero_le _) trivial ?_
  ·kernel_rfl
  refine AAny.keepTo [4] 1 ⟨[(4,.pc 0 0)],[.cells 55 [.str ((((v1.f0.getD v2.toNat default).f0).getD (Int.toNat (w64 (((v1.f0.getD v2.toNat default).f1) - (1:Int)))) default).f0),.sc ((((v1.f0.getD v2.toNat default).f0).getD (Int.toNat (w64 (((v1.f0.getD v2.toNat default).f1) - (1:Int)))) default).f1),.str ((((v1.f0.getD v2.toNat default).f0).getD (Int.toNat (w64 (((v1.f0.getD v2.toNat default).f1) - (1:Int)))) default).f2)]]⟩ _ ?_ rfl (Nat.zero_le _) (AAny.done (by kernel_rfl) ?_)
  ·kernel_rfl
  refine AWp.pin 0 rfl rfl ?_
  refine AWp.keepTo [4] 0 ⟨[(4,.rp [.str ((((v1.f0.getD v2.toNat default).f0).getD (Int.toNat (w64 (((v1.f0.getD v2.toNat default).f1) - (1:Int)))) default).f0),.sc ((((v1.f0.getD v2.toNat default).f0).getD (Int.toNat (w64 (((v1.f0.getD v2.toNat default).f1) - (1:Int)))) default).f1),.str ((((v1.f0.getD v2.toNat default).f0).getD (Int.toNat (w64 (((v1.f0.getD v2.toNat default).f1) - (1:Int)))) default).f2)])],[]⟩ ?_ (Nat.zero_le _) ?_
  ·kernel_rfl
  refine AWp.ret ?_
  cases h
  exact ⟨.inr rfl,rfl⟩
 ·replace h:=of_false h hb
  refine AWp.keepTo [4,5] 1 ⟨[(4,.pc 0 0),(5,.rp [fzL 3 c54v ((v1.f0.getD v2.toNat default).f0),.int .i64 ((v1.f0.getD v2.toNat default).f1),.str ((v1.f0.getD v2.toNat default).f2),.int .i64 (((v1.f0.getD v2.toNat default).f3).getD 0 0),.int .i64 (((v1.f0.getD v2.toNat default).f3).getD 1 0),.int .i64 (((v1.f0.getD v2.toNat default).f3).getD 2 0),.int .i64 (((v1.f0.getD v2.toNat default).f3).getD 3 0),.int .i64 (((v1.f0.getD v2.toNat default).f3).getD 4 0),.int .i64 (((v1.f0.getD v2.toNat default).f3).getD 5 0),.int .i64 (((v1.f0.getD v2.toNat default).f3).getD 6 0),.int .i64 (((v1.f0.getD v2.toNat default).f3).getD 7 0),.int .i64 (((v1.f0.getD v2.toNat default).f3).getD 8 0),.int .i64 (((v1.f0.getD v2.toNat default).f3).getD 9 0),.int .i64 (((v1.f0.getD v2.toNat default).f4).getD 0 0),.int .i64 (((v1.f0.getD v2.toNat default).f4).getD 1 0),.int .i64 (((v1.f0.getD v2.toNat default).f4).getD 2 0),.int .i64 (((v1.f0.getD v2.toNat default).f4).getD 3 0),.int .i64 (((v1.f0.getD v2.toNat default).f5).getD 0 0),.int .i64 (((v1.f0.getD v2.toNat default).f5).getD 1 0),.int .i64 (((v1.f0.getD v2.toNat default).f5).getD 2 0),.int .i64 (((v1.f0.getD v2.toNat default).f5).getD 3 0),.int .i64 (((v1.f0.getD v2.toNat default).f6).getD 0 0),.int .i64 (((v1.f0.getD v2.toNat default).f6).getD 1 0),.int .i64 (((v1.f0.getD v2.toNat default).f6).getD 2 0),.int .i64 (((v1.f0.getD v2.toNat default).f6).getD 3 0),fzL 1 (cInt .i64) ((v1.f0.getD v2.toNat default).f7),fmO .i64 (some .i64) ((v1.f0.getD v2.toNat default).f8)])],[.cells 55 [.str ([]:List UInt8),.sc (.slice none 0 0),.str ([]:List UInt8)]]⟩ ?_ (Nat.zero_le _) ?_
  ·kernel_rfl
  refine AWp.skip ?_
  refine AWp.seq ?_
  refine AWp.draw FFm _ (n:=11) rfl (ls:=#[false,false,false,false,false,false,false,false,false,false,false]) rfl ?_ (fun _ h=>h)
  obtain ⟨hg,h⟩:=of_guard h
  refine AAny.go (by kernel_rfl) [0,1,2,3,4,5,6,7,8,9] (fuel':=1) rfl [(0:Int) ≤ (v1.f0.getD v2.toNat default).f1,(v1.f0.getD v2.toNat default).f1 < (((v1.f0.getD v2.toNat default).f0).length:Int)] #[true,true,true,true,true,true,true,true,true,true,false] [4,37] 1 ⟨[(4,.pc 0 0),(37,.agg [.str ((((v1.f0.getD v2.toNat default).f0).getD (Int.toNat ((v1.f0.getD v2.toNat default).f1)) default).f0),.sc ((((v1.f0.getD v2.toNat default).f0).getD (Int.toNat ((v1.f0.getD v2.toNat default).f1)) default).f1),.str ((((v1.f0.getD v2.toNat default).f0).getD (Int.toNat ((v1.f0.getD v2.toNat default).f1)) default).f2)])],[.cells 55 [.str ([]:List UInt8),.sc (.slice none 0 0),.str ([]:List UInt8)]]⟩ ?_ (Nat.zero_le _) ⟨hg.1,hg.2⟩ ?_
  ·kernel_rfl
  refine AAny.step (i:=10) (fuel':=0) rfl (by kernel_rfl) [] #[true,true,true,true,true,true,true,true,true,true,true] rfl [4] 1 ⟨[(4,.pc 0 0)],[.cells 55 [.str ((((v1.f0.getD v2.toNat default).f0).getD (Int.toNat ((v1.f0.getD v2.toNat default).f1)) default).f0),.sc ((((v1.f0.getD v2.toNat default).f0).getD (Int.toNat ((v1.f0.getD v2.toNat default).f1)) default).f1),.str ((((v1.f0.getD v2.toNat default).f0).getD (Int.toNat ((v1.f0.getD v2.toNat default).f1)) default).f2)]]⟩ ?_ (Nat.zero_le _) trivial ?_
  ·kernel_rfl
  refine AAny.keepTo [4] 1 ⟨[(4,.pc 0 0)],[.cells 55 [.str ((((v1.f0.getD v2.toNat default).f0).getD (Int.toNat ((v1.f0.getD v2.toNat default).f1)) default).f0),.sc ((((v1.f0.getD v2.toNat default).f0).getD (Int.toNat ((v1.f0.getD v2.toNat default).f1)) default).f1),.str ((((v1.f0.getD v2.toNat default).f0).getD (Int.toNat ((v1.f0.getD v2.toNat default).f1)) default).f2)]]⟩ _ ?_ rfl (Nat.zero_le _) (AAny.done (by kernel_rfl) ?_)
  ·kernel_rfl
  refine AWp.pin 0 rfl rfl ?_
  refine AWp.keepTo [4] 0 ⟨[(4,.rp [.str ((((v1.f0.getD v2.toNat default).f0).getD (Int.toNat ((v1.f0.getD v2.toNat default).f1)) default).f0),.sc ((((v1.f0.getD v2.toNat default).f0).getD (Int.toNat ((v1.f0.getD v2.toNat default).f1)) default).f1),.str ((((v1.f0.getD v2.toNat default).f0).getD (Int.toNat ((v1.f0.getD v2.toNat default).f1)) default).f2)])],[]⟩ ?_ (Nat.zero_le _) ?_
  ·kernel_rfl
  refine AWp.ret ?_
  cases h
  exact ⟨.inr rfl,rfl⟩

/-- The same image, as such a one. -/
def as60v (x:T60) (p:List T54v):T60v:=⟨p,x.f1,x.f2,x.f3,x.f4,x.f5,x.f6,x.f7,x.f8⟩

theorem frel_str {P P':Nat → Prop} {w w':World} {v:Value} {s:List UInt8} (h:FRel P w v (.str s)):FRel P' w' v (.str s):=by cases h; exact .str _

theorem progs_of {P:Nat → Prop} {w:World} {v:Value} {l:List T54} (h:FRel P w v (fzL 3 c54 l)) {P':Nat → Prop} (hP:∀ b,P b → P' b) :
  ∃ p:List T54v,p.length = l.length ∧ FRel P' w v (fzL 3 c54v p) ∧ ∀ k,k < l.length → (p.getD k default).f0 = (l.getD k default).f0 ∧ (p.getD k default).f2 = (l.getD k default).f2 ∧ FRel P w (p.getD k default).f1 (fzL 1 (cInt .i64) (l.getD k default).f1):=by
 rcases fz_inv h with ⟨⟨A,c,rfl⟩,hn⟩ | ⟨b,off,cap,ds,h1,rfl,h3,h4,h5,h6,h7⟩
 ·refine ⟨[],hn.symm,.nil _ _ _ _,fun k hk=>by omega⟩
 ·have key:∀ k,k < l.length → FRel P w (ds k 1) (fzL 1 (cInt .i64) (l.getD k default).f1):=fun k hk=>h7 k 1 _ hk rfl
  refine ⟨(List.range l.length).map fun k=>⟨(l.getD k default).f0,ds k 1,(l.getD k default).f2⟩,by simp,?_,fun k hk=>?_⟩
  ·have hg:∀ k,k < l.length → ((List.range l.length).map fun k=>(⟨(l.getD k default).f0,ds k 1,(l.getD k default).f2⟩:T54v)).getD k default = ⟨(l.getD k default).f0,ds k 1,(l.getD k default).f2⟩:=fun k hk=>by
    simp [List.getD_eq_getElem?_getD,hk]
   have hlen:((List.range l.length).map fun k=>(⟨(l.getD k default).f0,ds k 1,(l.getD k default).f2⟩:T54v)).length = l.length:=by simp
   unfold fzL
   rw [hlen]
   refine .row b off cap 3 _ _ ds (hP b h1) h3 h4 (fun i hi=>rfl) (fun i j y hi hy=>?_) fun i j y hi hy=>?_
   ·rcases j with _ | _ | _ | j
    ·exact h6 i 0 _ hi rfl
    ·exact h6 i 1 _ hi rfl
    ·exact h6 i 2 _ hi rfl
    ·simp [c54v] at hy
   ·rw [hg i hi] at hy
    rcases j with _ | _ | _ | j
    ·simp only [c54v,List.getElem?_cons_zero,Option.some.injEq] at hy; subst hy; exact frel_str (h7 i 0 _ hi rfl)
    ·simp only [c54v,List.getElem?_cons_succ,List.getElem?_cons_zero,Option.some.injEq] at hy; subst hy; exact .sc _ (key i hi).one
    ·simp only [c54v,List.getElem?_cons_succ,List.getElem?_cons_zero,Option.some.injEq] at hy; subst hy; exact frel_str (h7 i 2 _ hi rfl)
    ·simp [c54v] at hy
  ·have hg:((List.range l.length).map fun k=>(⟨(l.getD k default).f0,ds k 1,(l.getD k default).f2⟩:T54v)).getD k default = ⟨(l.getD k default).f0,ds k 1,(l.getD k default).f2⟩:=by
    simp [List.getD_eq_getElem?_getD,hk]
   rw [hg]
   exact ⟨rfl,rfl,key k hk⟩

theorem f80_view (l:List T60) (lv:List T60v) (c:Int) (lg:List T43) (i:Int) {d:T54} (h:f80 ⟨l,c,lg⟩ i = some d) (hl:lv.length = l.length) (pv:Nat → List T54v) (hv:∀ k,k < l.length → lv.getD k default = as60v (l.getD k default) (pv k)) (hp:∀ k,k < l.length → (pv k).length = (l.getD k default).f0.length) :
  ∃ k q,k < l.length ∧ q < (l.getD k default).f0.length ∧ d = (l.getD k default).f0.getD q default ∧ f80v ⟨lv,c,lg⟩ i = some ((pv k).getD q default):=by
 unfold f80 at h
 obtain ⟨hi,h⟩:=of_guard h
 simp only at hi h
 have hk:i.toNat < l.length:=by omega
 have e:=hv _ hk
 cases hs:((l.getD i.toNat default).f2 == ([119,97,105,116,115]:List UInt8)) with
 | true =>
  rw [hs] at h
  obtain ⟨hg,h⟩:=of_guard h
  refine ⟨i.toNat,(w64 ((l.getD i.toNat default).f1 - 1)).toNat,hk,by omega,by cases h; rfl,?_⟩
  unfold f80v
  simp only [hl,e,as60v,hs,hp _ hk]
  rw [if_pos hi]
  simp only [cond_true]
  rw [if_pos hg]
 | false =>
  rw [hs] at h
  obtain ⟨hg,h⟩:=of_guard h
  refine ⟨i.toNat,((l.getD i.toNat default).f1).toNat,hk,by omega,by cases h; rfl,?_⟩
  unfold f80v
  simp only [hl,e,as60v,hs,hp _ hk]
  rw [if_pos hi]
  simp only [cond_false]
  rw [if_pos hg]

/-- The next deed of an image of a world that one may write. -/
theorem call80 {F:Cfg} (hF:F.P = Try.prog) {σ:AState} {ops:Array Oper} {i0:Nat} {x y z:Operand} {ts:Array TypeId} (o:Oper) (ho:ops[i0]? = some o) (hop:o.op = .call { callee:=.value z,args:=#[x,y],argTypes:=ts }) (hg:guardV ops σ o = some true)
  (dd:Nat) (hd:o.dst = some dd) (hlt:Nat.blt dd F.n = true) (hz:σ.ev z = .fn 80 []) (hf:Fn F.P 80) {ob:Nat} {l:List T60} {c:Int} {lg:List T43} {i:Int} (hx:σ.ev x = .pc ob 0) (hy:σ.ev y = .tv (.int .i64 i))
  (hob:σ.heap[ob]? = some (.cells 51 [ownL 27 61 o60 l,.int .i64 c,ownL 2 44 c43 lg])) {d:T54} (h80:f80 ⟨l,c,lg⟩ i = some d):AOne F ops i0 σ (σ.put dd (.agg [.str d.f0,fzL 1 (cInt .i64) d.f1,.str d.f2])):=fun w0 g0 g a w hs K Q h=>by
 simp only [wpOp,ho]
 rw [if_pos (guardV_sound hs hg)]
 left
 obtain ⟨us,hxv,hsz,hr⟩:=@args_rel _ _ _ _ _ hs #[x,y] _ _ _ hz
 have hP:∀ b,g.P b → (Gh.still w).P b:=fun b hb=>(hs.frozen b hb).2
 have hO:∀ b q,g.ow b = some q → (Gh.still w).P b:=fun b q hb=>(hs.lt b q hb).1
 obtain ⟨cc,c1,c2,c3,c4⟩:=hs.heap ob 51 _ hob
 obtain ⟨u0,hu0,hr0⟩:=c4 0 _ rfl
 obtain ⟨u1,hu1,hr1⟩:=c4 1 _ rfl
 obtain ⟨u2,hu2,hr2⟩:=c4 2 _ rfl
 -- the images, seen
 have seen:∃ (lv:List T60v) (pv:Nat → List T54v),lv.length = l.length ∧ (∀ k,k < l.length → lv.getD k default = as60v (l.getD k default) (pv k)) ∧ (∀ k,k < l.length → (pv k).length = (l.getD k default).f0.length) ∧
   (∀ k q,k < l.length → q < (l.getD k default).f0.length → ((pv k).getD q default).f0 = ((l.getD k default).f0.getD q default).f0 ∧ ((pv k).getD q default).f2 = ((l.getD k default).f0.getD q default).f2 ∧ FRel g.P w ((pv k).getD q default).f1 (fzL 1 (cInt .i64) ((l.getD k default).f0.getD q default).f1)) ∧ FRel (Gh.still w).P w u0 (fzL 27 c60v lv):=by
  rcases own_inv hr0 with ⟨rfl,hn⟩ | ⟨b,cap,cr,cs,h1,rfl,h3,h4,h5,h6,h7,h8,h9⟩
  ·exact ⟨[],fun _=>[],hn.symm,fun k hk=>by omega,fun k hk=>by omega,fun k q hk=>by omega,.nil _ _ _ _⟩
  ·have hp:∀ k,∃ p:List T54v,k < l.length → p.length = (l.getD k default).f0.length ∧ FRel (Gh.still w).P w (cs k 0) (fzL 3 c54v p) ∧ ∀ q,q < (l.getD k default).f0.length → (p.getD q default).f0 = ((l.getD k default).f0.getD q default).f0 ∧ (p.getD q default).f2 = ((l.getD k default).f0.getD q default).f2 ∧ FRel g.P w (p.getD q default).f1 (fzL 1 (cInt .i64) ((l.getD k default).f0.getD q default).f1):=fun k=>by
    by_cases hk:k < l.length
    ·obtain ⟨p,e1,e2,e3⟩:=progs_of ((h9 k 0 _ hk rfl).plain rfl) hP
     exact ⟨p,fun _=>⟨e1,e2,e3⟩⟩
    ·exact ⟨[],fun hh=>absurd hh hk⟩
   obtain ⟨pv,hpv⟩:=Classical.axiomOfChoice hp
   have hlen:((List.range l.length).map fun k=>as60v (l.getD k default) (pv k)).length = l.length:=by simp
   have hget:∀ k,k < l.length → ((List.range l.length).map fun k=>as60v (l.getD k default) (pv k)).getD k default = as60v (l.getD k default) (pv k):=fun k hk=>by
    simp [List.getD_eq_getElem?_getD,hk]
   refine ⟨(List.range l.length).map fun k=>as60v (l.getD k default) (pv k),pv,hlen,hget,fun k hk=>(hpv k hk).1,fun k q hk hq=>(hpv k hk).2.2 q hq,?_⟩
   unfold fzL
   rw [hlen]
   refine .row b 0 cap 27 _ _ cs (hO b _ h1) h5 h6 (fun i hi=>rfl) (fun i j y hi hy=>?_) fun i j y hi hy=>?_
   ·have hj:j < (o60 (l.getD i default)).length:=(List.getElem?_eq_some_iff.1 hy).1
    rw [Nat.zero_add]
    exact (h3.cell _).trans (h8 i j _ hi (List.getElem?_eq_getElem hj))
   ·rw [hget i hi] at hy
    rcases j with _ | j
    ·simp only [c60v,as60v,List.getElem?_cons_zero,Option.some.injEq] at hy
     subst hy
     exact (hpv i hi).2.1
    ·have hs2:=(seen60 (l.getD i default)).2 (j + 1)
     have hj:j + 1 < (o60 (l.getD i default)).length:=(List.getElem?_eq_some_iff.1 hy).1
     have hy':(c60 (l.getD i default))[j + 1]? = some y:=by rw [← hy]; rfl
     exact (hs2 _ y (List.getElem?_eq_getElem hj) hy').rel hP hO (h9 i (j + 1) _ hi (List.getElem?_eq_getElem hj))
 obtain ⟨lv,pv,v1,v2,v3,v4,v5⟩:=seen
 obtain ⟨k,q,hk,hq,hd80,h80v⟩:=f80_view l lv c lg i h80 v1 pv v2 v3
 obtain ⟨e0,e2,e1⟩:=v4 k q hk hq
 rw [← hd80] at e0 e2 e1
 have hcall:=f80v_ok ⟨lv,c,lg⟩ i h80v
 rw [← hF] at hcall
 -- what the callee is handed
 have hent:Ent (Gh.still w) w (#[x,y].map a.eval ++ us) [.rp [fzL 27 c60v lv,.int .i64 c,fzL 2 c43 lg],.tv (.int .i64 i)] []:=by
  obtain ⟨k0,hk0⟩:=ev_rel hs z
  refine ⟨by have:=hsz; simpa [evs] using this,fun q sv hq=>?_,fun o t cs ho=>(by simp at ho),fun b b' p hb _=>(by cases hb),fun b hb=>⟨rfl,hb⟩,fun b p hb=>(by cases hb),fun b p hb=>(by cases hb)⟩
  rcases q with _ | _ | q
  ·simp only [List.getElem?_cons_zero,Option.some.injEq] at hq
   subst hq
   obtain ⟨k1,hk1⟩:=ev_rel hs x
   rw [hx] at hk1
   obtain ⟨hv1,_⟩:=hk1
   have e:(#[x,y].map a.eval ++ us).getD 0 undef = a.eval x:=by rw [Array.getD_eq_getD_getElem?,Array.getElem?_append_left (by simp)]; simp
   rw [e,hv1]
   refine ⟨g.m ob,0,rfl,hO _ _ c2,fun j y hy=>?_⟩
   have cell:∀ j,w.cell? ⟨g.m ob,0 + j,none⟩ = cc[j]?:=fun j=>by rw [Nat.zero_add]; exact cell_obj c1
   rcases j with _ | _ | _ | j
   ·simp only [List.getElem?_cons_zero,Option.some.injEq] at hy; subst hy; exact ⟨u0,(cell 0).trans hu0,v5⟩
   ·simp only [List.getElem?_cons_succ,List.getElem?_cons_zero,Option.some.injEq] at hy; subst hy; exact ⟨u1,(cell 1).trans hu1,(hr1.plain rfl).mono fun b hb=>⟨hP b hb,rfl⟩⟩
   ·simp only [List.getElem?_cons_succ,List.getElem?_cons_zero,Option.some.injEq] at hy; subst hy
    exact ⟨u2,(cell 2).trans hu2,(Seen.ownL (fun _=>.plain rfl)).rel hP hO hr2⟩
   ·simp at hy
  ·simp only [List.getElem?_cons_succ,List.getElem?_cons_zero,Option.some.injEq] at hq
   subst hq
   have e:(#[x,y].map a.eval ++ us).getD 1 undef = a.eval y:=by rw [Array.getD_eq_getD_getElem?,Array.getElem?_append_left (by simp)]; simp
   obtain ⟨k2,hk2⟩:=ev_tv hs hy
   rw [e]
   exact .fr ((hk2.plain rfl).mono fun b hb=>⟨hP b hb,rfl⟩)
  ·simp at hq
 unfold Oper.wp
 rw [run_call hf hop hxv,Oper.upon_enter]
 refine Calls.mono (hcall _ w _ hent) ?_
 rintro e w' ⟨v,g',rfl,hE⟩
 have hd':dd < (F.ctx w0 g0).n:=Nat.le_of_ble_eq_true hlt
 rw [hd]
 have hkept:∀ b,b < w.heap.size → w'.heap[b]? = w.heap[b]?:=fun b hb=>hE.kept b hb rfl
 obtain ⟨vs,rfl,hvsz,hvc⟩:=hE.res
 have hrel:∀ (g2:Gh) (σ2:AState),(∀ b,g.P b → g2.P b) → SR g2 w' σ2 0 (.agg vs) (.agg [.str d.f0,fzL 1 (cInt .i64) d.f1,.str d.f2]):=fun g2 σ2 hg2=>by
  refine ⟨vs,rfl,hvsz,fun j y hy=>?_⟩
  rcases j with _ | _ | _ | j
  ·obtain ⟨u,hu,hr'⟩:=hvc 0 _ rfl
   simp only [List.getElem?_cons_zero,Option.some.injEq] at hy; subst hy
   refine ⟨u,hu,?_⟩
   rw [← e0]
   exact .fr (frel_str (hr'.plain rfl))
  ·obtain ⟨u,hu,hr'⟩:=hvc 1 _ rfl
   simp only [List.getElem?_cons_succ,List.getElem?_cons_zero,Option.some.injEq] at hy; subst hy
   have hu':u = ((pv k).getD q default).f1:=rel_sc hr'
   subst hu'
   exact ⟨_,hu,.fr (e1.mono fun b hb=>⟨hg2 b hb,hkept b (hs.frozen b hb).2⟩)⟩
  ·obtain ⟨u,hu,hr'⟩:=hvc 2 _ rfl
   simp only [List.getElem?_cons_succ,List.getElem?_cons_zero,Option.some.injEq] at hy; subst hy
   refine ⟨u,hu,?_⟩
   rw [← e2]
   exact .fr (frel_str (hr'.plain rfl))
  ·simp at hy
 have hE2:Ext (Gh.still w) w g' w' (.agg vs) (.agg [.str d.f0,fzL 1 (cInt .i64) d.f1,.str d.f2]) 0 [] :=
  ⟨hrel _ _ fun b hb=>hE.P1 b (hP b hb),hE.heap,hE.inj,hE.frozen,hE.lt,hE.ids,hE.P0,hE.P1,hE.kept,hE.os,hE.tape,hE.output,hE.mono,hE.m0,hE.h0⟩
 exact h _ _ w' (hs.callPut hd' hE2 (fun _=>rfl) g.P (fun _ hb=>hb) (fun _ hb=>.inl hb) (hrel _ _ fun _ hb=>hb) rfl)


noncomputable def f78 (v1:T50) (v2:Int):Option Bool :=
 if (0:Int) ≤ v2 ∧ v2 < (v1.f0.length:Int) then (cond (((v1.f0.getD v2.toNat default).f2) == ([102,97,105,108,101,100]:List UInt8)) (some true) (if (0:Int) ≤ v2 ∧ v2 < (v1.f0.length:Int) then some (((v1.f0.getD v2.toNat default).f2) == ([101,114,114,111,114]:List UInt8)) else none)).bind fun v3=>some v3 else none

theorem f78_ok (v1:T50) (v2:Int) {r:Bool} (h:f78 v1 v2 = some r):ACall Try.prog 78 [.rp [fzL 27 c60 v1.f0,.int .i64 v1.f1,fzL 2 c43 v1.f2],.tv (.int .i64 v2)] [] (.tv (.bool r)) []:=by
 refine ACall.of1 (FF 25 0) Try.func78 rfl Try.ntmps78 Try.results78 (zz rfl) rfl rfl ?_
 refine AWp.seq ?_
 refine AWp.start [0] [] [] [0,1] 0 ⟨[(0,.rp (c50 v1)),(1,tI v2)],[]⟩ rfl ?_ z0 trivial ?_
 ·kernel_rfl
 refine AOps.nil ?_
 refine AWp.seq ?_
 obtain ⟨hg,h⟩:=of_guard h
 refine AWp.start [0,1,2,3,4,5,6,7,8,9] [10,11,12,13,14,15,16,17,18,19,20] [(0:Int) ≤ v2,v2 < (v1.f0.length:Int)] [0,1,14] 0 ⟨[(0,.rp (c50 v1)),(1,tI v2),(14,tB (((gD v1.f0 v2).f2) == ([102,97,105,108,101,100]:List UInt8)))],[]⟩ rfl ?_ z0 ⟨hg.1,hg.2⟩ ?_
 ·kernel_rfl
 obtain ⟨v3,hc10,h⟩:=of_bind h
 refine AOps.cut [10,11,12,13,14,15,16,17,18,19] [20] (fun σ=>σ = ⟨[(24,tB v3)],[]⟩) ?_ fun σ' hJ=>?_
 ·refine AOps.split (fun b=>⟨[(0,.rp (c50 v1)),(1,tI v2),(14,tB b)],[]⟩) _ (fun hb=>?_) fun hb=>?_
  ·replace hc10:=of_true hc10 hb
   refine AOps.go [10,11,12,13,14,15,16,17,18,19] [] [] [24] 0 ⟨[(24,tB true)],[]⟩ ?_ z0 trivial ?_
   ·kernel_rfl
   cases hc10
   exact AOps.nil rfl
  ·replace hc10:=of_false hc10 hb
   obtain ⟨hg,hc10⟩:=of_guard hc10
   refine AOps.go [10,11,12,13,14,15,16,17,18,19] [] [(0:Int) ≤ v2,v2 < (v1.f0.length:Int)] [24] 0 ⟨[(24,tB (((gD v1.f0 v2).f2) == ([101,114,114,111,114]:List UInt8)))],[]⟩ ?_ z0 ⟨hg.1,hg.2⟩ ?_
   ·kernel_rfl
   cases hc10
   exact AOps.nil rfl
 subst hJ
 refine AOps.go [20] [] [] [4] 0 ⟨[(4,tB v3)],[]⟩ ?_ z0 trivial ?_
 ·kernel_rfl
 refine AOps.nil ?_
 refine AWp.ret ?_
 cases h
 exact ⟨.inr rfl,rfl⟩

noncomputable def f45_j1 (v2:Int) (v4:Int):Option Int :=
 cond (v4 == v2) (some (0:Int)) (some v4)

noncomputable def f45 (v1:T50) (v2:Int):Option Int :=
 (f80 v1 v2).bind fun v3=>cond (v3.f0 == ([119,97,105,116]:List UInt8)) (if (0:Int) < (v3.f1.length:Int) ∧ (0:Int) ≤ v2 ∧ v2 < (v1.f0.length:Int) ∧ (0:Int) ≤ v3.f1.getD 0 default ∧ v3.f1.getD 0 default < (4:Int) ∧ (1:Int) < (v3.f1.length:Int) then cond (decide ((arrL 4 ((v1.f0.getD v2.toNat default).f5)).getD (Int.toNat (v3.f1.getD 0 default)) 0 < v3.f1.getD 1 default)) (some (-1:Int)) (f45_j1 v2 (0:Int)) else none) (cond (v3.f0 == ([108,111,99,107]:List UInt8)) (if (0:Int) < (v3.f1.length:Int) then (f78 v1 (v3.f1.getD 0 default)).bind fun v5=>cond (!v5) (if (0:Int) < (v3.f1.length:Int) ∧ (1:Int) < (v3.f1.length:Int) ∧ (0:Int) ≤ v3.f1.getD 0 default ∧ v3.f1.getD 0 default < (v1.f0.length:Int) ∧ (0:Int) ≤ v3.f1.getD 1 default ∧ v3.f1.getD 1 default < (4:Int) then f45_j1 v2 ((arrL 4 ((v1.f0.getD (Int.toNat (v3.f1.getD 0 default)) default).f6)).getD (Int.toNat (v3.f1.getD 1 default)) 0) else none) (f45_j1 v2 (0:Int)) else none) (cond (v3.f0 == ([99,114,105,116,105,99,97,108]:List UInt8)) (f45_j1 v2 v1.f1) (f45_j1 v2 (0:Int))))

theorem f45_ok (v1:T50) (v2:Int) {r:Int} (h:f45 v1 v2 = some r):ACall Try.prog 45 [.rp [fzL 27 c60 v1.f0,.int .i64 v1.f1,fzL 2 c43 v1.f2],.tv (.int .i64 v2)] [] (.tv (.int .i64 r)) []:=by
 refine ACall.of1 (FF 67 0) Try.func45 rfl Try.ntmps45 Try.results45 (zz rfl) rfl rfl ?_
 refine AWp.seq ?_
 refine AWp.start [0] [] [] [0,1] 0 ⟨[(0,.rp (c50 v1)),(1,tI v2)],[]⟩ rfl ?_ z0 trivial ?_
 ·kernel_rfl
 refine AOps.nil ?_
 refine AWp.seq ?_
 refine AWp.start [0,1] [2,3,4] [] [0,1,7,8] 0 ⟨[(0,.rp (c50 v1)),(1,tI v2),(7,.rp (c50 v1)),(8,tI v2)],[]⟩ rfl ?_ z0 trivial ?_
 ·kernel_rfl
 obtain ⟨v3,hv3,h⟩:=of_bind h
 refine AOps.cons (AOne.callP (F:=(FF 67 0)) _ rfl rfl rfl _ rfl rfl _ _ rfl Try.call80 [.rp (c50 v1),tI v2] rfl rfl (f80_ok v1 v2 hv3) rfl) ?_
 refine AOps.go [3,4] [] [] [0,1,5] 1 ⟨[(0,.rp (c50 v1)),(1,tI v2),(5,.pc 0 0)],[.cells 55 (c54 v3)]⟩ ?_ z0 trivial ?_
 ·kernel_rfl
 refine AOps.nil ?_
 refine AWp.seq ?_
 refine AWp.pin 0 rfl rfl ?_
 refine AWp.keepTo [0,1,5] 0 ⟨[(0,.rp (c50 v1)),(1,tI v2),(5,.rp (c54 v3))],[]⟩ ?_ z0 ?_
 ·kernel_rfl
 refine AWp.start [0] [] [] [0,1,5,6] 0 ⟨[(0,.rp (c50 v1)),(1,tI v2),(5,.rp (c54 v3)),(6,tI (0:Int))],[]⟩ rfl ?_ z0 trivial ?_
 ·kernel_rfl
 refine AOps.nil ?_
 refine AWp.join (V:=Int) (fun w=>⟨[(1,tI v2),(6,tI w)],[]⟩) (fun w=>f45_j1 v2 w = some r) ?_ ?_
 ·refine AWp.seq ?_
  refine AWp.start [0,1] [] [] [0,1,5,6,11] 0 ⟨[(0,.rp (c50 v1)),(1,tI v2),(5,.rp (c54 v3)),(6,tI (0:Int)),(11,tS v3.f0)],[]⟩ rfl ?_ z0 trivial ?_
  ·kernel_rfl
  refine AOps.nil ?_
  refine AWp.block ?_
  refine AWp.seq ?_
  refine AWp.start [0,1] [] [] [0,1,5,6,11,12] 0 ⟨[(0,.rp (c50 v1)),(1,tI v2),(5,.rp (c54 v3)),(6,tI (0:Int)),(11,tS v3.f0),(12,tB (v3.f0 == ([119,97,105,116]:List UInt8)))],[]⟩ rfl ?_ z0 trivial ?_
  ·kernel_rfl
  refine AOps.nil ?_
  refine AWp.cond rfl (fun hb=>?_) fun hb=>?_
  ·replace h:=of_true h hb
   refine AWp.keepTo [0,1,5,6] 0 ⟨[(0,.rp (c50 v1)),(1,tI v2),(5,.rp (c54 v3)),(6,tI (0:Int))],[]⟩ ?_ z0 ?_
   ·kernel_rfl
   refine AWp.seq ?_
   refine AWp.draw FFm _ (n:=18) rfl (ls:=#[n1,n1,n1,n1,n1,n1,n1,n1,n1,n1,n1,n1,n1,n1,n1,n1,n1,n1]) rfl ?_ (fun _ h=>h)
   obtain ⟨hg,h⟩:=of_guard h
   refine AAny.go (by kernel_rfl) [0,1,2,3,4,5,6,7,8,9,10,11,12,13,14,15,16,17] (fuel':=0) rfl [(0:Int) ≤ (0:Int),(0:Int) < (v3.f1.length:Int),(0:Int) ≤ v2,v2 < (v1.f0.length:Int),(0:Int) ≤ v3.f1.getD 0 default,v3.f1.getD 0 default < (4:Int),(0:Int) ≤ (1:Int),(1:Int) < (v3.f1.length:Int)] #[y1,y1,y1,y1,y1,y1,y1,y1,y1,y1,y1,y1,y1,y1,y1,y1,y1,y1] [1,6,31] 0 ⟨[(1,tI v2),(6,tI (0:Int)),(31,tB (decide ((arrL 4 ((gD v1.f0 v2).f5)).getD (Int.toNat (v3.f1.getD 0 default)) 0 < v3.f1.getD 1 default)))],[]⟩ ?_ z0 ⟨(by decide:(0:Int) ≤ (0:Int)),hg.1,hg.2.1,hg.2.2.1,hg.2.2.2.1,hg.2.2.2.2.1,(by decide:(0:Int) ≤ (1:Int)),hg.2.2.2.2.2⟩ ?_
   ·kernel_rfl
   refine AAny.keepTo [1,6,31] 0 ⟨[(1,tI v2),(6,tI (0:Int)),(31,tB (decide ((arrL 4 ((gD v1.f0 v2).f5)).getD (Int.toNat (v3.f1.getD 0 default)) 0 < v3.f1.getD 1 default)))],[]⟩ _ ?_ rfl z0 (AAny.done (by kernel_rfl) ?_)
   ·kernel_rfl
   refine AWp.cond rfl (fun hb=>?_) fun hb=>?_
   ·replace h:=of_true h hb
    refine AWp.keepTo [] 0 ⟨[],[]⟩ ?_ z0 ?_
    ·kernel_rfl
    refine AWp.seq ?_
    refine AWp.start [0] [] [] [4] 0 ⟨[(4,tI (-1:Int))],[]⟩ rfl ?_ z0 trivial ?_
    ·kernel_rfl
    refine AOps.nil ?_
    refine AWp.ret ?_
    cases h
    exact ⟨.inr rfl,rfl⟩
   ·replace h:=of_false h hb
    refine AWp.keepTo [1,6] 0 ⟨[(1,tI v2),(6,tI (0:Int))],[]⟩ ?_ z0 ?_
    ·kernel_rfl
    refine AWp.skip ?_
    exact ⟨(0:Int),h,rfl⟩
  ·replace h:=of_false h hb
   refine AWp.keepTo [0,1,5,6,11] 0 ⟨[(0,.rp (c50 v1)),(1,tI v2),(5,.rp (c54 v3)),(6,tI (0:Int)),(11,tS v3.f0)],[]⟩ ?_ z0 ?_
   ·kernel_rfl
   refine AWp.seq ?_
   refine AWp.start [0,1] [] [] [0,1,5,6,11,32] 0 ⟨[(0,.rp (c50 v1)),(1,tI v2),(5,.rp (c54 v3)),(6,tI (0:Int)),(11,tS v3.f0),(32,tB (v3.f0 == ([108,111,99,107]:List UInt8)))],[]⟩ rfl ?_ z0 trivial ?_
   ·kernel_rfl
   refine AOps.nil ?_
   refine AWp.cond rfl (fun hb=>?_) fun hb=>?_
   ·replace h:=of_true h hb
    refine AWp.keepTo [0,1,5,6] 0 ⟨[(0,.rp (c50 v1)),(1,tI v2),(5,.rp (c54 v3)),(6,tI (0:Int))],[]⟩ ?_ z0 ?_
    ·kernel_rfl
    refine AWp.seq ?_
    obtain ⟨hg,h⟩:=of_guard h
    refine AWp.start [0,1,2,3,4] [5,6] [(0:Int) ≤ (0:Int),(0:Int) < (v3.f1.length:Int)] [0,1,5,6,34,38] 0 ⟨[(0,.rp (c50 v1)),(1,tI v2),(5,.rp (c54 v3)),(6,tI (0:Int)),(34,.rp (c50 v1)),(38,tI (v3.f1.getD 0 default))],[]⟩ rfl ?_ z0 ⟨(by decide:(0:Int) ≤ (0:Int)),hg⟩ ?_
    ·kernel_rfl
    obtain ⟨v5,hv5,h⟩:=of_bind h
    refine AOps.cons (AOne.callP (F:=(FF 67 0)) _ rfl rfl rfl _ rfl rfl _ _ rfl Try.call78 [.rp (c50 v1),tI (v3.f1.getD 0 default)] rfl rfl (f78_ok v1 (v3.f1.getD 0 default) hv5) rfl) ?_
    refine AOps.go [6] [] [] [0,1,5,6,40] 0 ⟨[(0,.rp (c50 v1)),(1,tI v2),(5,.rp (c54 v3)),(6,tI (0:Int)),(40,tB (!v5))],[]⟩ ?_ z0 trivial ?_
    ·kernel_rfl
    refine AOps.nil ?_
    refine AWp.cond rfl (fun hb=>?_) fun hb=>?_
    ·replace h:=of_true h hb
     refine AWp.keepTo [0,1,5] 0 ⟨[(0,.rp (c50 v1)),(1,tI v2),(5,.rp (c54 v3))],[]⟩ ?_ z0 ?_
     ·kernel_rfl
     refine AWp.draw FFm _ (n:=17) rfl (ls:=#[n1,n1,n1,n1,n1,n1,n1,n1,n1,n1,n1,n1,n1,n1,n1,n1,n1]) rfl ?_ (fun _ h=>h)
     obtain ⟨hg,h⟩:=of_guard h
     refine AAny.go (by kernel_rfl) [0,1,2,3,4,5,6,7,8,9,10,11,12,13,14,15,16] (fuel':=0) rfl [(0:Int) ≤ (0:Int),(0:Int) < (v3.f1.length:Int),(0:Int) ≤ (1:Int),(1:Int) < (v3.f1.length:Int),(0:Int) ≤ v3.f1.getD 0 default,v3.f1.getD 0 default < (v1.f0.length:Int),(0:Int) ≤ v3.f1.getD 1 default,v3.f1.getD 1 default < (4:Int)] #[y1,y1,y1,y1,y1,y1,y1,y1,y1,y1,y1,y1,y1,y1,y1,y1,y1] [1,6] 0 ⟨[(1,tI v2),(6,tI ((arrL 4 ((v1.f0.getD (Int.toNat (v3.f1.getD 0 default)) default).f6)).getD (Int.toNat (v3.f1.getD 1 default)) 0))],[]⟩ ?_ z0 ⟨(by decide:(0:Int) ≤ (0:Int)),hg.1,(by decide:(0:Int) ≤ (1:Int)),hg.2.1,hg.2.2.1,hg.2.2.2.1,hg.2.2.2.2.1,hg.2.2.2.2.2⟩ ?_
     ·kernel_rfl
     refine AAny.keepTo [1,6] 0 ⟨[(1,tI v2),(6,tI ((arrL 4 ((v1.f0.getD (Int.toNat (v3.f1.getD 0 default)) default).f6)).getD (Int.toNat (v3.f1.getD 1 default)) 0))],[]⟩ _ ?_ rfl z0 (AAny.done (by kernel_rfl) ?_)
     ·kernel_rfl
     exact ⟨(arrL 4 ((v1.f0.getD (Int.toNat (v3.f1.getD 0 default)) default).f6)).getD (Int.toNat (v3.f1.getD 1 default)) 0,h,rfl⟩
    ·replace h:=of_false h hb
     refine AWp.keepTo [1,6] 0 ⟨[(1,tI v2),(6,tI (0:Int))],[]⟩ ?_ z0 ?_
     ·kernel_rfl
     refine AWp.skip ?_
     exact ⟨(0:Int),h,rfl⟩
   ·replace h:=of_false h hb
    refine AWp.keepTo [0,1,6,11] 0 ⟨[(0,.rp (c50 v1)),(1,tI v2),(6,tI (0:Int)),(11,tS v3.f0)],[]⟩ ?_ z0 ?_
    ·kernel_rfl
    refine AWp.seq ?_
    refine AWp.start [0,1] [] [] [0,1,6,57] 0 ⟨[(0,.rp (c50 v1)),(1,tI v2),(6,tI (0:Int)),(57,tB (v3.f0 == ([99,114,105,116,105,99,97,108]:List UInt8)))],[]⟩ rfl ?_ z0 trivial ?_
    ·kernel_rfl
    refine AOps.nil ?_
    refine AWp.cond rfl (fun hb=>?_) fun hb=>?_
    ·replace h:=of_true h hb
     refine AWp.keepTo [0,1] 0 ⟨[(0,.rp (c50 v1)),(1,tI v2)],[]⟩ ?_ z0 ?_
     ·kernel_rfl
     refine AWp.start [0,1,2,3,4] [] [] [1,6] 0 ⟨[(1,tI v2),(6,tI v1.f1)],[]⟩ rfl ?_ z0 trivial ?_
     ·kernel_rfl
     refine AOps.nil ?_
     exact ⟨v1.f1,h,rfl⟩
    ·replace h:=of_false h hb
     refine AWp.keepTo [1,6] 0 ⟨[(1,tI v2),(6,tI (0:Int))],[]⟩ ?_ z0 ?_
     ·kernel_rfl
     refine AWp.skip ?_
     exact ⟨(0:Int),h,rfl⟩
 ·rintro v4 h
  refine AWp.seq ?_
  refine AWp.seq ?_
  refine AWp.start [0,1,2] [] [] [6,65] 0 ⟨[(6,tI v4),(65,tB (v4 == v2))],[]⟩ rfl ?_ z0 trivial ?_
  ·kernel_rfl
  refine AOps.nil ?_
  refine AWp.cond rfl (fun hb=>?_) fun hb=>?_
  ·replace h:=of_true h hb
   refine AWp.keepTo [] 0 ⟨[],[]⟩ ?_ z0 ?_
   ·kernel_rfl
   refine AWp.seq ?_
   refine AWp.start [0] [] [] [4] 0 ⟨[(4,tI (0:Int))],[]⟩ rfl ?_ z0 trivial ?_
   ·kernel_rfl
   refine AOps.nil ?_
   refine AWp.ret ?_
   cases h
   exact ⟨.inr rfl,rfl⟩
  ·replace h:=of_false h hb
   refine AWp.keepTo [6] 0 ⟨[(6,tI v4)],[]⟩ ?_ z0 ?_
   ·kernel_rfl
   refine AWp.skip ?_
   refine AWp.seq ?_
   refine AWp.start [0,1] [] [] [4] 0 ⟨[(4,tI v4)],[]⟩ rfl ?_ z0 trivial ?_
   ·kernel_rfl
   refine AOps.nil ?_
   refine AWp.ret ?_
   cases h
   exact ⟨.inr rfl,rfl⟩

noncomputable def f74 (v1:List UInt8):Option ((List UInt8) × Bool) :=
 some (sval tbl74 v1,shas tbl74 v1)

theorem f74_ok (v1:List UInt8) {r:(List UInt8) × Bool} (h:f74 v1 = some r):ACall Try.prog 74 [.tv (.str v1)] [] (.tup [.tv (.str r.1),.tv (.bool r.2)]) []:=by
 refine ACall.ofN (FF 15 0) (rs:=[2,3]) (env:=[(2,tS r.1),(3,tB r.2)]) Try.func74 rfl Try.ntmps74 Try.results74 (by decide) (by decide) rfl (zz rfl) rfl (get_ofN _ _ _ rfl) (ok_ofN _ rfl) ?_
 refine AWp.seq ?_
 refine AWp.start [0,1] [] [] [0] 0 ⟨[(0,tS v1)],[]⟩ rfl ?_ z0 trivial ?_
 ·kernel_rfl
 refine AOps.nil ?_
 refine AWp.seq ?_
 refine AWp.start [] [0,1,2,3,4,5,6,7,8,9,10,11,12,13,14,15,16,17,18,19,20,21,22] [] [0] 0 ⟨[(0,tS v1)],[]⟩ rfl ?_ z0 trivial ?_
 ·kernel_rfl
 refine AOps.litMap (F:=(FF 15 0)) (k:=v1) [(1,[112,117,116],[105,99,118]),(2,[97,100,100],[105,99,114]),(3,[103,101,116],[105,99,114]),(4,[115,116,111,114,101],[105,99,114]),(5,[115,101,116],[114,118]),(6,[112,111,115,116],[105,114]),(7,[119,97,105,116],[114,119]),(8,[108,111,99,107],[105,114]),(9,[117,110,108,111,99,107],[105,114]),(10,[97,108,108],[]),(11,[99,114,105,116,105,99,97,108],[]),(12,[100,111,110,101],[]),(13,[102,97,105,108],[]),(14,[115,116,111,112],[])] _ _ _ _ rfl rfl rfl rfl (by intro e he; simp only [List.mem_cons,List.not_mem_nil,or_false] at he; rcases he with rfl | rfl | rfl | rfl | rfl | rfl | rfl | rfl | rfl | rfl | rfl | rfl | rfl | rfl <;> exact ⟨_,rfl,rfl,rfl,rfl⟩) (by decide) rfl rfl rfl rfl rfl rfl rfl rfl rfl rfl rfl rfl rfl rfl rfl rfl rfl rfl rfl ?_
 refine AOps.keepTo [10] 0 ⟨[(10,.tup [tS (sval tbl74 v1),tB (shas tbl74 v1)])],[]⟩ ?_ z0 ?_
 ·kernel_rfl
 refine AOps.go [18,19,20,21,22] [] [] [4,5] 0 ⟨[(4,tS (sval tbl74 v1)),(5,tB (shas tbl74 v1))],[]⟩ ?_ z0 trivial ?_
 ·kernel_rfl
 refine AOps.nil ?_
 refine AWp.seq ?_
 refine AWp.start [0,1,2,3] [] [] [2,3] 0 ⟨[(2,tS (sval tbl74 v1)),(3,tB (shas tbl74 v1))],[]⟩ rfl ?_ z0 trivial ?_
 ·kernel_rfl
 refine AOps.nil ?_
 refine AWp.ret ?_
 cases h
 exact ⟨.inr rfl,rfl⟩

noncomputable def f93 (v1:T54):Option Bool :=
 (f74 v1.f0).bind fun v2=>(cond (!(v2.1 == ([]:List UInt8))) (if (0:Int) < (v2.1.length:Int) then some ((((v2.1.getD 0 0).toNat:Nat):Int) == (105:Int)) else none) (some false)).bind fun v3=>some v3

theorem f93_ok (v1:T54) {r:Bool} (h:f93 v1 = some r):ACall Try.prog 93 [.agg [.str v1.f0,fzL 1 (cInt .i64) v1.f1,.str v1.f2]] [] (.tv (.bool r)) []:=by
 refine ACall.of1 (FF 18 0) Try.func93 rfl Try.ntmps93 Try.results93 (zz rfl) rfl rfl ?_
 refine AWp.seq ?_
 refine AWp.start [0,1] [] [] [1] 1 ⟨[(1,.pc 0 0)],[.cells 55 (c54 v1)]⟩ rfl ?_ z0 trivial ?_
 ·kernel_rfl
 refine AOps.nil ?_
 refine AWp.seq ?_
 refine AWp.pin 0 rfl rfl ?_
 refine AWp.keepTo [1] 0 ⟨[(1,.rp (c54 v1))],[]⟩ ?_ z0 ?_
 ·kernel_rfl
 refine AWp.start [0,1] [2,3,4,5,6,7] [] [7] 0 ⟨[(7,tS v1.f0)],[]⟩ rfl ?_ z0 trivial ?_
 ·kernel_rfl
 obtain ⟨v2,hv2,h⟩:=of_bind h
 refine AOps.cons (AOne.callP (F:=(FF 18 0)) _ rfl rfl rfl _ rfl rfl _ _ rfl Try.call74 [tS v1.f0] rfl rfl (f74_ok v1.f0 hv2) rfl) ?_
 refine AOps.go [3,4,5,6,7] [] [] [3] 0 ⟨[(3,tS v2.1)],[]⟩ ?_ z0 trivial ?_
 ·kernel_rfl
 refine AOps.nil ?_
 refine AWp.seq ?_
 refine AWp.start [0,1,2] [3,4,5,6,7] [] [3,13] 0 ⟨[(3,tS v2.1),(13,tB (!(v2.1 == ([]:List UInt8))))],[]⟩ rfl ?_ z0 trivial ?_
 ·kernel_rfl
 obtain ⟨v3,hc3,h⟩:=of_bind h
 refine AOps.cut [3,4,5,6] [7] (fun σ=>σ = ⟨[(17,tB v3)],[]⟩) ?_ fun σ' hJ=>?_
 ·refine AOps.split (fun b=>⟨[(3,tS v2.1),(13,tB b)],[]⟩) _ (fun hb=>?_) fun hb=>?_
  ·replace hc3:=of_true hc3 hb
   obtain ⟨hg,hc3⟩:=of_guard hc3
   refine AOps.go [3,4,5,6] [] [(0:Int) ≤ (0:Int),(0:Int) < (v2.1.length:Int)] [17] 0 ⟨[(17,tB ((((v2.1.getD 0 0).toNat:Nat):Int) == (105:Int)))],[]⟩ ?_ z0 ⟨(by decide:(0:Int) ≤ (0:Int)),hg⟩ ?_
   ·kernel_rfl
   cases hc3
   exact AOps.nil rfl
  ·replace hc3:=of_false hc3 hb
   refine AOps.go [3,4,5,6] [] [] [17] 0 ⟨[(17,tB false)],[]⟩ ?_ z0 trivial ?_
   ·kernel_rfl
   cases hc3
   exact AOps.nil rfl
 subst hJ
 refine AOps.go [7] [] [] [2] 0 ⟨[(2,tB v3)],[]⟩ ?_ z0 trivial ?_
 ·kernel_rfl
 refine AOps.nil ?_
 refine AWp.ret ?_
 cases h
 exact ⟨.inr rfl,rfl⟩

noncomputable def f37 (v1:Int) (v2:Int) (v3:Int):Option Bool :=
 (cond (decide (v1 ≥ v2)) (some (decide (v1 ≤ v3))) (some false)).bind fun v4=>some v4

theorem f37_ok (v1:Int) (v2:Int) (v3:Int) {r:Bool} (h:f37 v1 v2 v3 = some r):ACall Try.prog 37 [.tv (.int .i64 v1),.tv (.int .i64 v2),.tv (.int .i64 v3)] [] (.tv (.bool r)) []:=by
 refine ACall.of1 (FF 15 0) Try.func37 rfl Try.ntmps37 Try.results37 (zz rfl) rfl rfl ?_
 refine AWp.seq ?_
 refine AWp.start [0] [] [] [0,1,2] 0 ⟨[(0,tI v1),(1,tI v2),(2,tI v3)],[]⟩ rfl ?_ z0 trivial ?_
 ·kernel_rfl
 refine AOps.nil ?_
 refine AWp.seq ?_
 refine AWp.start [0,1,2,3] [4,5,6,7,8] [] [0,2,10] 0 ⟨[(0,tI v1),(2,tI v3),(10,tB (decide (v1 ≥ v2)))],[]⟩ rfl ?_ z0 trivial ?_
 ·kernel_rfl
 obtain ⟨v4,hc4,h⟩:=of_bind h
 refine AOps.cut [4,5,6,7] [8] (fun σ=>σ = ⟨[(14,tB v4)],[]⟩) ?_ fun σ' hJ=>?_
 ·refine AOps.split (fun b=>⟨[(0,tI v1),(2,tI v3),(10,tB b)],[]⟩) _ (fun hb=>?_) fun hb=>?_
  ·replace hc4:=of_true hc4 hb
   refine AOps.go [4,5,6,7] [] [] [14] 0 ⟨[(14,tB (decide (v1 ≤ v3)))],[]⟩ ?_ z0 trivial ?_
   ·kernel_rfl
   cases hc4
   exact AOps.nil rfl
  ·replace hc4:=of_false hc4 hb
   refine AOps.go [4,5,6,7] [] [] [14] 0 ⟨[(14,tB false)],[]⟩ ?_ z0 trivial ?_
   ·kernel_rfl
   cases hc4
   exact AOps.nil rfl
 subst hJ
 refine AOps.go [8] [] [] [6] 0 ⟨[(6,tB v4)],[]⟩ ?_ z0 trivial ?_
 ·kernel_rfl
 refine AOps.nil ?_
 refine AWp.ret ?_
 cases h
 exact ⟨.inr rfl,rfl⟩

noncomputable def f94o (v1:Int) (v2:T54) (v3:T50):Option Bool :=
 none

theorem f94o_ok (v1:Int) (v2:T54) (v3:T50) {r:Bool} (h:f94o v1 v2 v3 = some r):ACall Try.prog 94 [.pc 0 0,.tv (.int .i64 v1),.agg [.str v2.f0,fzL 1 (cInt .i64) v2.f1,.str v2.f2]] [.cells 51 [ownL 27 61 o60 v3.f0,.int .i64 v3.f1,ownL 2 44 c43 v3.f2]] (.tv (.bool r)) [.cells 51 [ownL 27 61 o60 v3.f0,.int .i64 v3.f1,ownL 2 44 c43 v3.f2]]:=by
 refine ACall.of1 (FF 52 1) Try.func94 rfl Try.ntmps94 Try.results94 (zz rfl) rfl rfl ?_
 refine AWp.seq ?_
 refine AWp.start [0,1] [] [] [0,1,5] 2 ⟨[(0,.pc 0 0),(1,tI v1),(5,.pc 1 0)],[.cells 51 [k0 v3.f0,.int .i64 v3.f1,k1 v3.f2],.cells 55 (c54 v2)]⟩ rfl ?_ (zz rfl) trivial ?_
 ·kernel_rfl
 refine AOps.nil ?_
 refine AWp.seq ?_
 cases h

end Go.Sx.img
