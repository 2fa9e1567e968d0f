/- Printed by program (wip/gen): plain functions and their walks; no condition. -/
import Derived.Test.YtlfaghcnnlifmaaGreatProg
import Derived.KernelRfl
import Derived.Test.YtlfaghcnnlifmaaGreatSxD
import Derived.Test.YtlfaghcnnlifmaaGreatSxR
namespace Go.Sx.top
open Go Go.Sx Go.Proofs

structure T86 where
 f0:List UInt8
 f1:List UInt8
 f2:Int
 deriving Inhabited

def c86 (x:T86):List TV:=[.str x.f0,.str x.f1,.int .i64 x.f2]

structure T107 where
 f0:List UInt8
 f1:List UInt8
 deriving Inhabited

def c107 (x:T107):List TV:=[.str x.f0,.str x.f1]

structure T80 where
 f0:List UInt8
 f1:List UInt8
 f2:Bool
 f3:List T86
 f4:List T107
 f5:List UInt8
 deriving Inhabited

def c80 (x:T80):List TV:=[.str x.f0,.str x.f1,.bool x.f2,fzL 3 c86 x.f3,fzL 2 c107 x.f4,.str x.f5]

structure T59 where
 f0:Int
 f1:List Int
 f2:List Int
 deriving Inhabited

def c59 (x:T59):List TV:=[.int .i64 x.f0,fzL 1 (cInt .i64) x.f1,fzL 1 (cInt .i64) x.f2]

structure T148 where
 f0:Int
 f1:List Int
 f2:List Int
 deriving Inhabited

def c148 (x:T148):List TV:=[.int .i64 x.f0,fzL 1 (cInt .i64) x.f1,fzL 1 (cInt .i64) x.f2]

structure T128 where
 f0:Int
 f1:Int
 deriving Inhabited

def c128 (x:T128):List TV:=[.int .i64 x.f0,.int .i64 x.f1]

structure T52 where
 f0:Bool
 f1:List UInt8
 deriving Inhabited

def c52 (x:T52):List TV:=[.bool x.f0,.str x.f1]

structure T37 where
 f0:List UInt8
 f1:Int
 deriving Inhabited

def c37 (x:T37):List TV:=[.str x.f0,.int .i64 x.f1]

noncomputable def ti3:TI:=⟨Tryz.t3.desc,1,8,[(.int .i64 (0))],false⟩
theorem tiok3:TIOk Tryz.prog 3 ti3:=⟨by kernel_rfl,Tryz.t3,(.int .i64 (0)),by kernel_rfl,by kernel_rfl,by kernel_rfl,by kernel_rfl,by kernel_rfl,by kernel_rfl,by kernel_rfl,(fun _=>⟨rfl,fun _ h=>Value.noConfusion h⟩),(fun h=>Bool.noConfusion (show false = true from h))⟩
noncomputable def ti4:TI:=⟨Tryz.t4.desc,1,1,[(.bool false)],false⟩
theorem tiok4:TIOk Tryz.prog 4 ti4:=⟨by kernel_rfl,Tryz.t4,(.bool false),by kernel_rfl,by kernel_rfl,by kernel_rfl,by kernel_rfl,by kernel_rfl,by kernel_rfl,by kernel_rfl,(fun _=>⟨rfl,fun _ h=>Value.noConfusion h⟩),(fun h=>Bool.noConfusion (show false = true from h))⟩
noncomputable def ti5:TI:=⟨Tryz.t5.desc,1,1,[(.int .u8 (0))],false⟩
theorem tiok5:TIOk Tryz.prog 5 ti5:=⟨by kernel_rfl,Tryz.t5,(.int .u8 (0)),by kernel_rfl,by kernel_rfl,by kernel_rfl,by kernel_rfl,by kernel_rfl,by kernel_rfl,by kernel_rfl,(fun _=>⟨rfl,fun _ h=>Value.noConfusion h⟩),(fun h=>Bool.noConfusion (show false = true from h))⟩
noncomputable def ti9:TI:=⟨Tryz.t9.desc,1,16,[(.string ⟨#[]⟩)],false⟩
theorem tiok9:TIOk Tryz.prog 9 ti9:=⟨by kernel_rfl,Tryz.t9,(.string ⟨#[]⟩),by kernel_rfl,by kernel_rfl,by kernel_rfl,by kernel_rfl,by kernel_rfl,by kernel_rfl,by kernel_rfl,(fun _=>⟨rfl,fun _ h=>Value.noConfusion h⟩),(fun h=>Bool.noConfusion (show false = true from h))⟩
noncomputable def ti28:TI:=⟨Tryz.t28.desc,1,24,[(.slice none 0 0)],false⟩
theorem tiok28:TIOk Tryz.prog 28 ti28:=⟨by kernel_rfl,Tryz.t28,(.slice none 0 0),by kernel_rfl,by kernel_rfl,by kernel_rfl,by kernel_rfl,by kernel_rfl,by kernel_rfl,by kernel_rfl,(fun _=>⟨rfl,fun _ h=>Value.noConfusion h⟩),(fun h=>Bool.noConfusion (show false = true from h))⟩
noncomputable def ti29:TI:=⟨Tryz.t3.desc,1,8,[(.int .i64 (0))],false⟩
theorem tiok29:TIOk Tryz.prog 29 ti29:=⟨by kernel_rfl,Tryz.t29,(.int .i64 (0)),by kernel_rfl,by kernel_rfl,by kernel_rfl,by kernel_rfl,by kernel_rfl,by kernel_rfl,by kernel_rfl,(fun _=>⟨rfl,fun _ h=>Value.noConfusion h⟩),(fun h=>Bool.noConfusion (show false = true from h))⟩
noncomputable def ti32:TI:=⟨Tryz.t32.desc,1,24,[(.slice none 0 0)],false⟩
theorem tiok32:TIOk Tryz.prog 32 ti32:=⟨by kernel_rfl,Tryz.t32,(.slice none 0 0),by kernel_rfl,by kernel_rfl,by kernel_rfl,by kernel_rfl,by kernel_rfl,by kernel_rfl,by kernel_rfl,(fun _=>⟨rfl,fun _ h=>Value.noConfusion h⟩),(fun h=>Bool.noConfusion (show false = true from h))⟩
noncomputable def ti38:TI:=⟨Tryz.t37.desc,2,24,[(.string ⟨#[]⟩),(.int .i64 (0))],false⟩
theorem tiok38:TIOk Tryz.prog 38 ti38:=⟨by kernel_rfl,Tryz.t38,(.agg #[(.string ⟨#[]⟩),(.int .i64 (0))]),by kernel_rfl,by kernel_rfl,by kernel_rfl,by kernel_rfl,by kernel_rfl,by kernel_rfl,by kernel_rfl,(fun h=>Bool.noConfusion (show true = false from h)),(fun h=>Bool.noConfusion (show false = true from h))⟩
noncomputable def ti40:TI:=⟨Tryz.t40.desc,1,24,[(.slice none 0 0)],false⟩
theorem tiok40:TIOk Tryz.prog 40 ti40:=⟨by kernel_rfl,Tryz.t40,(.slice none 0 0),by kernel_rfl,by kernel_rfl,by kernel_rfl,by kernel_rfl,by kernel_rfl,by kernel_rfl,by kernel_rfl,(fun _=>⟨rfl,fun _ h=>Value.noConfusion h⟩),(fun h=>Bool.noConfusion (show false = true from h))⟩
noncomputable def ti41:TI:=⟨Tryz.t41.desc,1,24,[(.slice none 0 0)],false⟩
theorem tiok41:TIOk Tryz.prog 41 ti41:=⟨by kernel_rfl,Tryz.t41,(.slice none 0 0),by kernel_rfl,by kernel_rfl,by kernel_rfl,by kernel_rfl,by kernel_rfl,by kernel_rfl,by kernel_rfl,(fun _=>⟨rfl,fun _ h=>Value.noConfusion h⟩),(fun h=>Bool.noConfusion (show false = true from h))⟩
noncomputable def ti48:TI:=⟨Tryz.t48.desc,1,24,[(.slice none 0 0)],false⟩
theorem tiok48:TIOk Tryz.prog 48 ti48:=⟨by kernel_rfl,Tryz.t48,(.slice none 0 0),by kernel_rfl,by kernel_rfl,by kernel_rfl,by kernel_rfl,by kernel_rfl,by kernel_rfl,by kernel_rfl,(fun _=>⟨rfl,fun _ h=>Value.noConfusion h⟩),(fun h=>Bool.noConfusion (show false = true from h))⟩
noncomputable def ti51:TI:=⟨Tryz.t51.desc,1,24,[(.slice none 0 0)],false⟩
theorem tiok51:TIOk Tryz.prog 51 ti51:=⟨by kernel_rfl,Tryz.t51,(.slice none 0 0),by kernel_rfl,by kernel_rfl,by kernel_rfl,by kernel_rfl,by kernel_rfl,by kernel_rfl,by kernel_rfl,(fun _=>⟨rfl,fun _ h=>Value.noConfusion h⟩),(fun h=>Bool.noConfusion (show false = true from h))⟩
noncomputable def ti53:TI:=⟨Tryz.t52.desc,2,24,[(.bool false),(.string ⟨#[]⟩)],true⟩
theorem tiok53:TIOk Tryz.prog 53 ti53:=⟨by kernel_rfl,Tryz.t53,(.agg #[(.bool false),(.string ⟨#[]⟩)]),by kernel_rfl,by kernel_rfl,by kernel_rfl,by kernel_rfl,by kernel_rfl,by kernel_rfl,by kernel_rfl,(fun h=>Bool.noConfusion (show true = false from h)),(fun _=>eq_flat (fs:=(match Tryz.t52.desc with | .struct fs=>fs | _=>#[])) (zs:=ti53.zero.map cTV) (by kernel_rfl) (by kernel_rfl) (by kernel_rfl) ⟨by decide,rfl,leafBool (by kernel_rfl),by decide,rfl,leafStr (by kernel_rfl),trivial⟩)⟩
noncomputable def ti60:TI:=⟨Tryz.t59.desc,3,56,[(.int .i64 (0)),(.slice none 0 0),(.slice none 0 0)],false⟩
theorem tiok60:TIOk Tryz.prog 60 ti60:=⟨by kernel_rfl,Tryz.t60,(.agg #[(.int .i64 (0)),(.slice none 0 0),(.slice none 0 0)]),by kernel_rfl,by kernel_rfl,by kernel_rfl,by kernel_rfl,by kernel_rfl,by kernel_rfl,by kernel_rfl,(fun h=>Bool.noConfusion (show true = false from h)),(fun h=>Bool.noConfusion (show false = true from h))⟩
noncomputable def ti63:TI:=⟨Tryz.t63.desc,1,24,[(.slice none 0 0)],false⟩
theorem tiok63:TIOk Tryz.prog 63 ti63:=⟨by kernel_rfl,Tryz.t63,(.slice none 0 0),by kernel_rfl,by kernel_rfl,by kernel_rfl,by kernel_rfl,by kernel_rfl,by kernel_rfl,by kernel_rfl,(fun _=>⟨rfl,fun _ h=>Value.noConfusion h⟩),(fun h=>Bool.noConfusion (show false = true from h))⟩
noncomputable def ti79:TI:=⟨Tryz.t79.desc,1,24,[(.slice none 0 0)],false⟩
theorem tiok79:TIOk Tryz.prog 79 ti79:=⟨by kernel_rfl,Tryz.t79,(.slice none 0 0),by kernel_rfl,by kernel_rfl,by kernel_rfl,by kernel_rfl,by kernel_rfl,by kernel_rfl,by kernel_rfl,(fun _=>⟨rfl,fun _ h=>Value.noConfusion h⟩),(fun h=>Bool.noConfusion (show false = true from h))⟩
noncomputable def ti81:TI:=⟨Tryz.t80.desc,6,104,[(.string ⟨#[]⟩),(.string ⟨#[]⟩),(.bool false),(.slice none 0 0),(.slice none 0 0),(.string ⟨#[]⟩)],false⟩
theorem tiok81:TIOk Tryz.prog 81 ti81:=⟨by kernel_rfl,Tryz.t81,(.agg #[(.string ⟨#[]⟩),(.string ⟨#[]⟩),(.bool false),(.slice none 0 0),(.slice none 0 0),(.string ⟨#[]⟩)]),by kernel_rfl,by kernel_rfl,by kernel_rfl,by kernel_rfl,by kernel_rfl,by kernel_rfl,by kernel_rfl,(fun h=>Bool.noConfusion (show true = false from h)),(fun h=>Bool.noConfusion (show false = true from h))⟩
noncomputable def ti87:TI:=⟨Tryz.t86.desc,3,40,[(.string ⟨#[]⟩),(.string ⟨#[]⟩),(.int .i64 (0))],true⟩
theorem tiok87:TIOk Tryz.prog 87 ti87:=⟨by kernel_rfl,Tryz.t87,(.agg #[(.string ⟨#[]⟩),(.string ⟨#[]⟩),(.int .i64 (0))]),by kernel_rfl,by kernel_rfl,by kernel_rfl,by kernel_rfl,by kernel_rfl,by kernel_rfl,by kernel_rfl,(fun h=>Bool.noConfusion (show true = false from h)),(fun _=>eq_flat (fs:=(match Tryz.t86.desc with | .struct fs=>fs | _=>#[])) (zs:=ti87.zero.map cTV) (by kernel_rfl) (by kernel_rfl) (by kernel_rfl) ⟨by decide,rfl,leafStr (by kernel_rfl),by decide,rfl,leafStr (by kernel_rfl),by decide,rfl,leafInt .i64 (by kernel_rfl),trivial⟩)⟩
noncomputable def ti108:TI:=⟨Tryz.t107.desc,2,32,[(.string ⟨#[]⟩),(.string ⟨#[]⟩)],false⟩
theorem tiok108:TIOk Tryz.prog 108 ti108:=⟨by kernel_rfl,Tryz.t108,(.agg #[(.string ⟨#[]⟩),(.string ⟨#[]⟩)]),by kernel_rfl,by kernel_rfl,by kernel_rfl,by kernel_rfl,by kernel_rfl,by kernel_rfl,by kernel_rfl,(fun h=>Bool.noConfusion (show true = false from h)),(fun h=>Bool.noConfusion (show false = true from h))⟩
noncomputable def ti129:TI:=⟨Tryz.t128.desc,2,16,[(.int .i64 (0)),(.int .i64 (0))],false⟩
theorem tiok129:TIOk Tryz.prog 129 ti129:=⟨by kernel_rfl,Tryz.t129,(.agg #[(.int .i64 (0)),(.int .i64 (0))]),by kernel_rfl,by kernel_rfl,by kernel_rfl,by kernel_rfl,by kernel_rfl,by kernel_rfl,by kernel_rfl,(fun h=>Bool.noConfusion (show true = false from h)),(fun h=>Bool.noConfusion (show false = true from h))⟩
noncomputable def ti149:TI:=⟨Tryz.t148.desc,3,56,[(.int .i64 (0)),(.slice none 0 0),(.slice none 0 0)],false⟩
theorem tiok149:TIOk Tryz.prog 149 ti149:=⟨by kernel_rfl,Tryz.t149,(.agg #[(.int .i64 (0)),(.slice none 0 0),(.slice none 0 0)]),by kernel_rfl,by kernel_rfl,by kernel_rfl,by kernel_rfl,by kernel_rfl,by kernel_rfl,by kernel_rfl,(fun h=>Bool.noConfusion (show true = false from h)),(fun h=>Bool.noConfusion (show false = true from h))⟩
noncomputable def ti179:TI:=⟨Tryz.t179.desc,1,8,[.nilFunc],false⟩
theorem tiok179:TIOk Tryz.prog 179 ti179:=⟨by kernel_rfl,Tryz.t179,.nilFunc,by kernel_rfl,by kernel_rfl,by kernel_rfl,by kernel_rfl,by kernel_rfl,by kernel_rfl,by kernel_rfl,(fun _=>⟨rfl,fun _ h=>Value.noConfusion h⟩),(fun h=>Bool.noConfusion (show false = true from h))⟩
noncomputable def ti197:TI:=⟨Tryz.t197.desc,1,24,[(.slice none 0 0)],false⟩
theorem tiok197:TIOk Tryz.prog 197 ti197:=⟨by kernel_rfl,Tryz.t197,(.slice none 0 0),by kernel_rfl,by kernel_rfl,by kernel_rfl,by kernel_rfl,by kernel_rfl,by kernel_rfl,by kernel_rfl,(fun _=>⟨rfl,fun _ h=>Value.noConfusion h⟩),(fun h=>Bool.noConfusion (show false = true from h))⟩
noncomputable def ti209:TI:=⟨Tryz.t209.desc,1,8,[(.map none)],false⟩
theorem tiok209:TIOk Tryz.prog 209 ti209:=⟨by kernel_rfl,Tryz.t209,(.map none),by kernel_rfl,by kernel_rfl,by kernel_rfl,by kernel_rfl,by kernel_rfl,by kernel_rfl,by kernel_rfl,(fun _=>⟨rfl,fun _ h=>Value.noConfusion h⟩),(fun h=>Bool.noConfusion (show false = true from h))⟩
noncomputable def TT:Tab:=[(3,ti3),(4,ti4),(5,ti5),(9,ti9),(28,ti28),(29,ti29),(32,ti32),(38,ti38),(40,ti40),(41,ti41),(48,ti48),(51,ti51),(53,ti53),(60,ti60),(63,ti63),(79,ti79),(81,ti81),(87,ti87),(108,ti108),(129,ti129),(149,ti149),(179,ti179),(197,ti197),(209,ti209)]
theorem hT:TabOk Tryz.prog TT:=TabOk.cons tiok3 (TabOk.cons tiok4 (TabOk.cons tiok5 (TabOk.cons tiok9 (TabOk.cons tiok28 (TabOk.cons tiok29 (TabOk.cons tiok32 (TabOk.cons tiok38 (TabOk.cons tiok40 (TabOk.cons tiok41 (TabOk.cons tiok48 (TabOk.cons tiok51 (TabOk.cons tiok53 (TabOk.cons tiok60 (TabOk.cons tiok63 (TabOk.cons tiok79 (TabOk.cons tiok81 (TabOk.cons tiok87 (TabOk.cons tiok108 (TabOk.cons tiok129 (TabOk.cons tiok149 (TabOk.cons tiok179 (TabOk.cons tiok197 (TabOk.cons tiok209 (TabOk.nil _))))))))))))))))))))))))
noncomputable def FF (n h0:Nat):Cfg:=⟨Tryz.prog,TT,n,h0,hT⟩
theorem FFm:Tryz.prog.follows .mixedOrders = true:=by kernel_rfl

abbrev tI (n:Int):SV:=.tv (.int .i64 n)
abbrev tB (b:Bool):SV:=.tv (.bool b)
abbrev tS (s:List UInt8):SV:=.tv (.str s)
theorem z0 {n:Nat}:0 ≤ n:=Nat.zero_le n
theorem zz {n m:Nat} (h:Nat.ble n m = true):n ≤ m:=Nat.le_of_ble_eq_true h
abbrev gD {A:Type} [Inhabited A] (l:List A) (i:Int):A:=l.getD i.toNat default
abbrev q0 (l:List T80):SV:=.tv (fzL 6 c80 l)
abbrev q1 (l:List T86):SV:=.tv (fzL 3 c86 l)
abbrev q2 (l:List Int):SV:=.tv (ownL 1 3 (cInt .i64) l)
abbrev q3 (l:List Int):SV:=.tv (fzL 1 (cInt .i64) l)
abbrev q4 (l:List (List UInt8)):SV:=.tv (fzL 1 cStr l)
abbrev q5 (l:List T59):SV:=.tv (fzL 3 c59 l)
abbrev q6 (l:List T52):SV:=.tv (fzL 2 c52 l)
abbrev q7 (l:List (List UInt8)):SV:=.tv (ownL 1 9 cStr l)
abbrev k0 (l:List Int):TV:=fzL 1 (cInt .i64) l
abbrev k1 (l:List T80):TV:=fzL 6 c80 l
abbrev k2 (l:List T86):TV:=fzL 3 c86 l
abbrev k3 (l:List Int):TV:=ownL 1 3 (cInt .i64) l
abbrev k4 (l:List T107):TV:=fzL 2 c107 l
abbrev k5 (l:List (List UInt8)):TV:=fzL 1 cStr l
abbrev k6 (l:List T59):TV:=fzL 3 c59 l
abbrev k7 (l:List T52):TV:=fzL 2 c52 l
abbrev nS:TV:=.sc (.slice none 0 0)
abbrev y1:Bool:=true
abbrev n1:Bool:=false

noncomputable def f59 :Option (List (List UInt8)) :=
 some ([([97,98,115]:List UInt8),([97,108,108]:List UInt8),([97,110,121]:List UInt8),([99,111,117,110,116]:List UInt8),([99,115,104,105,102,116]:List UInt8),([100,98,108,101]:List UInt8),([105,110,116]:List UInt8),([109,97,116,109,117,108]:List UInt8),([109,97,120]:List UInt8),([109,97,120,108,111,99]:List UInt8),([109,97,120,118,97,108]:List UInt8),([109,101,114,103,101]:List UInt8),([109,105,110]:List UInt8),([109,105,110,108,111,99]:List UInt8),([109,105,110,118,97,108]:List UInt8),([109,111,100]:List UInt8),([112,97,99,107]:List UInt8),([112,114,111,100,117,99,116]:List UInt8),([114,101,97,108]:List UInt8),([114,101,115,104,97,112,101]:List UInt8),([115,104,97,112,101]:List UInt8),([115,105,122,101]:List UInt8),([115,112,114,101,97,100]:List UInt8),([115,113,114,116]:List UInt8),([115,117,109]:List UInt8),([116,114,97,110,115,112,111,115,101]:List UInt8)])

theorem f59_ok  {r:(List (List UInt8))} (h:f59  = some r):ACall Tryz.prog 59 [] [] (.tv (ownL 1 9 cStr r)) []:=by
 refine ACall.of1 (FF 2 0) Tryz.func59 rfl Tryz.ntmps59 Tryz.results59 (zz rfl) rfl rfl ?_
 refine AWp.seq ?_
 refine AWp.start [0] [] [] [] 0 ⟨[],[]⟩ rfl ?_ z0 trivial ?_
 ·kernel_rfl
 refine AOps.nil ?_
 refine AWp.seq ?_
 refine AWp.start [0] [1] [] [1] 0 ⟨[(1,.tv (.own 1 9 26 (newRowF [.str ([97,98,115]:List UInt8),.str ([97,108,108]:List UInt8),.str ([97,110,121]:List UInt8),.str ([99,111,117,110,116]:List UInt8),.str ([99,115,104,105,102,116]:List UInt8),.str ([100,98,108,101]:List UInt8),.str ([105,110,116]:List UInt8),.str ([109,97,116,109,117,108]:List UInt8),.str ([109,97,120]:List UInt8),.str ([109,97,120,108,111,99]:List UInt8),.str ([109,97,120,118,97,108]:List UInt8),.str ([109,101,114,103,101]:List UInt8),.str ([109,105,110]:List UInt8),.str ([109,105,110,108,111,99]:List UInt8),.str ([109,105,110,118,97,108]:List UInt8),.str ([109,111,100]:List UInt8),.str ([112,97,99,107]:List UInt8),.str ([112,114,111,100,117,99,116]:List UInt8),.str ([114,101,97,108]:List UInt8),.str ([114,101,115,104,97,112,101]:List UInt8),.str ([115,104,97,112,101]:List UInt8),.str ([115,105,122,101]:List UInt8),.str ([115,112,114,101,97,100]:List UInt8),.str ([115,113,114,116]:List UInt8),.str ([115,117,109]:List UInt8),.str ([116,114,97,110,115,112,111,115,101]:List UInt8)] 1)))],[]⟩ rfl ?_ z0 trivial ?_
 ·kernel_rfl
 refine AOps.extL 1 cStr ([([97,98,115]:List UInt8),([97,108,108]:List UInt8),([97,110,121]:List UInt8),([99,111,117,110,116]:List UInt8),([99,115,104,105,102,116]:List UInt8),([100,98,108,101]:List UInt8),([105,110,116]:List UInt8),([109,97,116,109,117,108]:List UInt8),([109,97,120]:List UInt8),([109,97,120,108,111,99]:List UInt8),([109,97,120,118,97,108]:List UInt8),([109,101,114,103,101]:List UInt8),([109,105,110]:List UInt8),([109,105,110,108,111,99]:List UInt8),([109,105,110,118,97,108]:List UInt8),([109,111,100]:List UInt8),([112,97,99,107]:List UInt8),([112,114,111,100,117,99,116]:List UInt8),([114,101,97,108]:List UInt8),([114,101,115,104,97,112,101]:List UInt8),([115,104,97,112,101]:List UInt8),([115,105,122,101]:List UInt8),([115,112,114,101,97,100]:List UInt8),([115,113,114,116]:List UInt8),([115,117,109]:List UInt8),([116,114,97,110,115,112,111,115,101]:List UInt8)]) rfl rfl (row_at cStr 1 (fun _=>rfl) [([97,98,115]:List UInt8),([97,108,108]:List UInt8),([97,110,121]:List UInt8),([99,111,117,110,116]:List UInt8),([99,115,104,105,102,116]:List UInt8),([100,98,108,101]:List UInt8),([105,110,116]:List UInt8),([109,97,116,109,117,108]:List UInt8),([109,97,120]:List UInt8),([109,97,120,108,111,99]:List UInt8),([109,97,120,118,97,108]:List UInt8),([109,101,114,103,101]:List UInt8),([109,105,110]:List UInt8),([109,105,110,108,111,99]:List UInt8),([109,105,110,118,97,108]:List UInt8),([109,111,100]:List UInt8),([112,97,99,107]:List UInt8),([112,114,111,100,117,99,116]:List UInt8),([114,101,97,108]:List UInt8),([114,101,115,104,97,112,101]:List UInt8),([115,104,97,112,101]:List UInt8),([115,105,122,101]:List UInt8),([115,112,114,101,97,100]:List UInt8),([115,113,114,116]:List UInt8),([115,117,109]:List UInt8),([116,114,97,110,115,112,111,115,101]:List UInt8)] _ rfl) ?_
 refine AOps.go [1] [] [] [0] 0 ⟨[(0,q7 ([([97,98,115]:List UInt8),([97,108,108]:List UInt8),([97,110,121]:List UInt8),([99,111,117,110,116]:List UInt8),([99,115,104,105,102,116]:List UInt8),([100,98,108,101]:List UInt8),([105,110,116]:List UInt8),([109,97,116,109,117,108]:List UInt8),([109,97,120]:List UInt8),([109,97,120,108,111,99]:List UInt8),([109,97,120,118,97,108]:List UInt8),([109,101,114,103,101]:List UInt8),([109,105,110]:List UInt8),([109,105,110,108,111,99]:List UInt8),([109,105,110,118,97,108]:List UInt8),([109,111,100]:List UInt8),([112,97,99,107]:List UInt8),([112,114,111,100,117,99,116]:List UInt8),([114,101,97,108]:List UInt8),([114,101,115,104,97,112,101]:List UInt8),([115,104,97,112,101]:List UInt8),([115,105,122,101]:List UInt8),([115,112,114,101,97,100]:List UInt8),([115,113,114,116]:List UInt8),([115,117,109]:List UInt8),([116,114,97,110,115,112,111,115,101]:List UInt8)]))],[]⟩ ?_ z0 trivial ?_
 ·kernel_rfl
 refine AOps.nil ?_
 refine AWp.ret ?_
 cases h
 exact ⟨.inr rfl,rfl⟩

noncomputable def f90_b1 (v1:List (List UInt8)) (v2:List UInt8) (v3:Int):Option (Int ⊕ Out Int Unit) :=
 cond (decide (v3 < (v1.length:Int))) (if (0:Int) ≤ v3 ∧ v3 < (v1.length:Int) then cond (v2 == (v1.getD v3.toNat default)) (some (.inr (.ret v3))) (some (.inl (w64 (v3 + (1:Int))))) else none) (some (.inr (.go ())))

noncomputable def f90 (v1:List (List UInt8)) (v2:List UInt8):Option Int :=
 (iter (fun s=>f90_b1 v1 v2 s) (0:Int)).bind fun y=>match y with | .ret v4=>some v4 | .go _=>some (-1:Int)

theorem f90_ok (v1:List (List UInt8)) (v2:List UInt8) {r:Int} (h:f90 v1 v2 = some r):ACall Tryz.prog 90 [.tv (fzL 1 cStr v1),.tv (.str v2)] [] (.tv (.int .i64 r)) []:=by
 refine ACall.of1 (FF 19 0) Tryz.func90 rfl Tryz.ntmps90 Tryz.results90 (zz rfl) rfl rfl ?_
 refine AWp.seq ?_
 refine AWp.start [0] [] [] [0,1] 0 ⟨[(0,q4 v1),(1,tS v2)],[]⟩ rfl ?_ z0 trivial ?_
 ·kernel_rfl
 refine AOps.nil ?_
 refine AWp.seq ?_
 refine AWp.seq ?_
 refine AWp.start [0,1,2] [] [] [0,1,7,8] 0 ⟨[(0,q4 v1),(1,tS v2),(7,tI (v1.length:Int)),(8,tI (0:Int))],[]⟩ rfl ?_ z0 trivial ?_
 ·kernel_rfl
 refine AOps.nil ?_
 refine AWp.block ?_
 obtain ⟨y,hy,h⟩:=of_bind h
 refine AWp.mono (AWp.loop (S:=Int) (Y:=Out Int Unit) (fun s=>⟨[(0,q4 v1),(1,tS v2),(7,tI (v1.length:Int)),(8,tI s)],[]⟩) (fun s=>f90_b1 v1 v2 s) (fun y e σ=>match y with | .ret r=>e = .ret ∧ σ = ⟨[(4,tI r)],[]⟩ | .go v=>e = .exit 0 ∧ σ = ⟨[],[]⟩) ?_ hy) ?_
 ·rintro v3 o h
  refine AWp.seq ?_
  refine AWp.start [0] [] [] [0,1,7,8,9] 0 ⟨[(0,q4 v1),(1,tS v2),(7,tI (v1.length:Int)),(8,tI v3),(9,tB (decide (v3 < (v1.length:Int))))],[]⟩ rfl ?_ z0 trivial ?_
  ·kernel_rfl
  refine AOps.nil ?_
  refine AWp.seq ?_
  refine AWp.cond rfl (fun hb=>?_) fun hb=>?_
  ·replace h:=of_true h hb
   refine AWp.keepTo [0,1,7,8] 0 ⟨[(0,q4 v1),(1,tS v2),(7,tI (v1.length:Int)),(8,tI v3)],[]⟩ ?_ z0 ?_
   ·kernel_rfl
   refine AWp.skip ?_
   refine AWp.seq ?_
   refine AWp.block ?_
   refine AWp.seq ?_
   refine AWp.start [0,1] [] [] [0,1,5,7,8] 0 ⟨[(0,q4 v1),(1,tS v2),(5,tI v3),(7,tI (v1.length:Int)),(8,tI v3)],[]⟩ rfl ?_ z0 trivial ?_
   ·kernel_rfl
   refine AOps.nil ?_
   refine AWp.seq ?_
   obtain ⟨hg,h⟩:=of_guard h
   refine AWp.start [0,1,2,3,4,5] [] [(0:Int) ≤ v3,v3 < (v1.length:Int)] [0,1,5,7,8,16] 0 ⟨[(0,q4 v1),(1,tS v2),(5,tI v3),(7,tI (v1.length:Int)),(8,tI v3),(16,tB (v2 == (gD v1 v3)))],[]⟩ rfl ?_ z0 ⟨hg.1,hg.2⟩ ?_
   ·kernel_rfl
   refine AOps.nil ?_
   refine AWp.cond rfl (fun hb=>?_) fun hb=>?_
   ·replace h:=of_true h hb
    refine AWp.keepTo [5] 0 ⟨[(5,tI v3)],[]⟩ ?_ z0 ?_
    ·kernel_rfl
    refine AWp.seq ?_
    refine AWp.start [0,1] [] [] [4] 0 ⟨[(4,tI v3)],[]⟩ rfl ?_ z0 trivial ?_
    ·kernel_rfl
    refine AOps.nil ?_
    refine AWp.ret ?_
    cases h
    exact Or.inr ⟨_,rfl,by simp,rfl,rfl⟩
   ·replace h:=of_false h hb
    refine AWp.keepTo [0,1,7,8] 0 ⟨[(0,q4 v1),(1,tS v2),(7,tI (v1.length:Int)),(8,tI v3)],[]⟩ ?_ z0 ?_
    ·kernel_rfl
    refine AWp.skip ?_
    refine AWp.start [0,1] [] [] [0,1,7,8] 0 ⟨[(0,q4 v1),(1,tS v2),(7,tI (v1.length:Int)),(8,tI (w64 (v3 + (1:Int))))],[]⟩ rfl ?_ z0 trivial ?_
    ·kernel_rfl
    refine AOps.nil ?_
    cases h
    exact Or.inl ⟨_,rfl,rfl,rfl⟩
  ·replace h:=of_false h hb
   refine AWp.keepTo [] 0 ⟨[],[]⟩ ?_ z0 ?_
   ·kernel_rfl
   refine AWp.exit ?_
   cases h
   exact Or.inr ⟨_,rfl,by simp,rfl,rfl⟩
 ·intro e σ hp
  rcases y with v4 | _
  ·obtain ⟨rfl,rfl⟩:=hp
   cases h
   exact ⟨.inr rfl,rfl⟩
  ·obtain ⟨rfl,rfl⟩:=hp
   refine AWp.seq ?_
   refine AWp.start [0] [] [] [4] 0 ⟨[(4,tI (-1:Int))],[]⟩ rfl ?_ z0 trivial ?_
   ·kernel_rfl
   refine AOps.nil ?_
   refine AWp.ret ?_
   cases h
   exact ⟨.inr rfl,rfl⟩

noncomputable def f58 (v1:List (List UInt8)) (v2:List UInt8):Option Bool :=
 (f90 v1 v2).bind fun v3=>some (decide (v3 ≥ (0:Int)))

theorem f58_ok (v1:List (List UInt8)) (v2:List UInt8) {r:Bool} (h:f58 v1 v2 = some r):ACall Tryz.prog 58 [.tv (fzL 1 cStr v1),.tv (.str v2)] [] (.tv (.bool r)) []:=by
 refine ACall.of1 (FF 9 0) Tryz.func58 rfl Tryz.ntmps58 Tryz.results58 (zz rfl) rfl rfl ?_
 refine AWp.seq ?_
 refine AWp.start [0] [] [] [0,1] 0 ⟨[(0,q4 v1),(1,tS v2)],[]⟩ rfl ?_ z0 trivial ?_
 ·kernel_rfl
 refine AOps.nil ?_
 refine AWp.seq ?_
 refine AWp.start [0,1] [2,3,4] [] [5,6] 0 ⟨[(5,q4 v1),(6,tS v2)],[]⟩ rfl ?_ z0 trivial ?_
 ·kernel_rfl
 obtain ⟨v3,hv3,h⟩:=of_bind h
 refine AOps.cons (AOne.callP (F:=(FF 9 0)) _ rfl rfl rfl _ rfl rfl _ _ rfl Tryz.call90 [q4 v1,tS v2] rfl rfl (f90_ok v1 v2 hv3) rfl) ?_
 refine AOps.go [3,4] [] [] [4] 0 ⟨[(4,tB (decide (v3 ≥ (0:Int))))],[]⟩ ?_ z0 trivial ?_
 ·kernel_rfl
 refine AOps.nil ?_
 refine AWp.ret ?_
 cases h
 exact ⟨.inr rfl,rfl⟩

noncomputable def f35_j1 (v1:List UInt8) (v2:Bool):Option (Int × Int) :=
 cond v2 (some ((2:Int),(2:Int))) (cond (v1 == ([109,101,114,103,101]:List UInt8)) (some ((3:Int),(3:Int))) ((f59 ).bind fun v3=>(f58 v3 v1).bind fun v4=>cond v4 (some ((1:Int),(1:Int))) (some ((0:Int),(0:Int)))))

noncomputable def f35 (v1:List UInt8):Option (Int × Int) :=
 cond (v1 == ([109,97,120]:List UInt8)) (f35_j1 v1 (v1 == ([109,97,120]:List UInt8))) (cond (v1 == ([109,105,110]:List UInt8)) (f35_j1 v1 (v1 == ([109,105,110]:List UInt8))) (cond (v1 == ([109,111,100]:List UInt8)) (f35_j1 v1 (v1 == ([109,111,100]:List UInt8))) (cond (v1 == ([99,115,104,105,102,116]:List UInt8)) (f35_j1 v1 (v1 == ([99,115,104,105,102,116]:List UInt8))) (cond (v1 == ([109,97,116,109,117,108]:List UInt8)) (f35_j1 v1 (v1 == ([109,97,116,109,117,108]:List UInt8))) (cond (v1 == ([112,97,99,107]:List UInt8)) (f35_j1 v1 (v1 == ([112,97,99,107]:List UInt8))) (cond (v1 == ([114,101,115,104,97,112,101]:List UInt8)) (f35_j1 v1 (v1 == ([114,101,115,104,97,112,101]:List UInt8))) (f35_j1 v1 (v1 == ([115,112,114,101,97,100]:List UInt8)))))))))

theorem f35_ok (v1:List UInt8) {r:Int × Int} (h:f35 v1 = some r):ACall Tryz.prog 35 [.tv (.str v1)] [] (.tup [.tv (.int .i64 r.1),.tv (.int .i64 r.2)]) []:=by
 refine ACall.ofN (FF 19 0) (rs:=[2,3]) (env:=[(2,tI r.1),(3,tI r.2)]) Tryz.func35 rfl Tryz.ntmps35 Tryz.results35 (by decide) (by decide) rfl (zz rfl) rfl (get_ofN _ _ _ rfl) (ok_ofN _ rfl) ?_
 refine AWp.seq ?_
 refine AWp.start [0,1] [] [] [0] 0 ⟨[(0,tS v1)],[]⟩ rfl ?_ z0 trivial ?_
 ·kernel_rfl
 refine AOps.nil ?_
 refine AWp.seq ?_
 refine AWp.seq ?_
 refine AWp.start [0] [] [] [0,4] 0 ⟨[(0,tS v1),(4,tS v1)],[]⟩ rfl ?_ z0 trivial ?_
 ·kernel_rfl
 refine AOps.nil ?_
 refine AWp.block ?_
 refine AWp.join (V:=Bool) (fun w=>⟨[(0,tS v1),(4,tS v1),(5,tB w)],[]⟩) (fun w=>f35_j1 v1 w = some r) ?_ ?_
 ·refine AWp.seq ?_
  refine AWp.start [0,1] [] [] [0,4,5] 0 ⟨[(0,tS v1),(4,tS v1),(5,tB (v1 == ([109,97,120]:List UInt8)))],[]⟩ rfl ?_ z0 trivial ?_
  ·kernel_rfl
  refine AOps.nil ?_
  refine AWp.cond rfl (fun hb=>?_) fun hb=>?_
  ·replace h:=of_true h hb
   refine AWp.skip ?_
   exact ⟨(v1 == ([109,97,120]:List UInt8)),h,rfl⟩
  ·replace h:=of_false h hb
   refine AWp.keepTo [0,4] 0 ⟨[(0,tS v1),(4,tS v1)],[]⟩ ?_ z0 ?_
   ·kernel_rfl
   refine AWp.seq ?_
   refine AWp.start [0,1] [] [] [0,4,5] 0 ⟨[(0,tS v1),(4,tS v1),(5,tB (v1 == ([109,105,110]:List UInt8)))],[]⟩ rfl ?_ z0 trivial ?_
   ·kernel_rfl
   refine AOps.nil ?_
   refine AWp.cond rfl (fun hb=>?_) fun hb=>?_
   ·replace h:=of_true h hb
    refine AWp.skip ?_
    exact ⟨(v1 == ([109,105,110]:List UInt8)),h,rfl⟩
   ·replace h:=of_false h hb
    refine AWp.keepTo [0,4] 0 ⟨[(0,tS v1),(4,tS v1)],[]⟩ ?_ z0 ?_
    ·kernel_rfl
    refine AWp.seq ?_
    refine AWp.start [0,1] [] [] [0,4,5] 0 ⟨[(0,tS v1),(4,tS v1),(5,tB (v1 == ([109,111,100]:List UInt8)))],[]⟩ rfl ?_ z0 trivial ?_
    ·kernel_rfl
    refine AOps.nil ?_
    refine AWp.cond rfl (fun hb=>?_) fun hb=>?_
    ·replace h:=of_true h hb
     refine AWp.skip ?_
     exact ⟨(v1 == ([109,111,100]:List UInt8)),h,rfl⟩
    ·replace h:=of_false h hb
     refine AWp.keepTo [0,4] 0 ⟨[(0,tS v1),(4,tS v1)],[]⟩ ?_ z0 ?_
     ·kernel_rfl
     refine AWp.seq ?_
     refine AWp.start [0,1] [] [] [0,4,5] 0 ⟨[(0,tS v1),(4,tS v1),(5,tB (v1 == ([99,115,104,105,102,116]:List UInt8)))],[]⟩ rfl ?_ z0 trivial ?_
     ·kernel_rfl
     refine AOps.nil ?_
     refine AWp.cond rfl (fun hb=>?_) fun hb=>?_
     ·replace h:=of_true h hb
      refine AWp.skip ?_
      exact ⟨(v1 == ([99,115,104,105,102,116]:List UInt8)),h,rfl⟩
     ·replace h:=of_false h hb
      refine AWp.keepTo [0,4] 0 ⟨[(0,tS v1),(4,tS v1)],[]⟩ ?_ z0 ?_
      ·kernel_rfl
      refine AWp.seq ?_
      refine AWp.start [0,1] [] [] [0,4,5] 0 ⟨[(0,tS v1),(4,tS v1),(5,tB (v1 == ([109,97,116,109,117,108]:List UInt8)))],[]⟩ rfl ?_ z0 trivial ?_
      ·kernel_rfl
      refine AOps.nil ?_
      refine AWp.cond rfl (fun hb=>?_) fun hb=>?_
      ·replace h:=of_true h hb
       refine AWp.skip ?_
       exact ⟨(v1 == ([109,97,116,109,117,108]:List UInt8)),h,rfl⟩
      ·replace h:=of_false h hb
       refine AWp.keepTo [0,4] 0 ⟨[(0,tS v1),(4,tS v1)],[]⟩ ?_ z0 ?_
       ·kernel_rfl
       refine AWp.seq ?_
       refine AWp.start [0,1] [] [] [0,4,5] 0 ⟨[(0,tS v1),(4,tS v1),(5,tB (v1 == ([112,97,99,107]:List UInt8)))],[]⟩ rfl ?_ z0 trivial ?_
       ·kernel_rfl
       refine AOps.nil ?_
       refine AWp.cond rfl (fun hb=>?_) fun hb=>?_
       ·replace h:=of_true h hb
        refine AWp.skip ?_
        exact ⟨(v1 == ([112,97,99,107]:List UInt8)),h,rfl⟩
       ·replace h:=of_false h hb
        refine AWp.keepTo [0,4] 0 ⟨[(0,tS v1),(4,tS v1)],[]⟩ ?_ z0 ?_
        ·kernel_rfl
        refine AWp.seq ?_
        refine AWp.start [0,1] [] [] [0,4,5] 0 ⟨[(0,tS v1),(4,tS v1),(5,tB (v1 == ([114,101,115,104,97,112,101]:List UInt8)))],[]⟩ rfl ?_ z0 trivial ?_
        ·kernel_rfl
        refine AOps.nil ?_
        refine AWp.cond rfl (fun hb=>?_) fun hb=>?_
        ·replace h:=of_true h hb
         refine AWp.skip ?_
         exact ⟨(v1 == ([114,101,115,104,97,112,101]:List UInt8)),h,rfl⟩
        ·replace h:=of_false h hb
         refine AWp.keepTo [0,4] 0 ⟨[(0,tS v1),(4,tS v1)],[]⟩ ?_ z0 ?_
         ·kernel_rfl
         refine AWp.start [0,1] [] [] [0,4,5] 0 ⟨[(0,tS v1),(4,tS v1),(5,tB (v1 == ([115,112,114,101,97,100]:List UInt8)))],[]⟩ rfl ?_ z0 trivial ?_
         ·kernel_rfl
         refine AOps.nil ?_
         exact ⟨(v1 == ([115,112,114,101,97,100]:List UInt8)),h,rfl⟩
 ·rintro v2 h
  refine AWp.cond rfl (fun hb=>?_) fun hb=>?_
  ·replace h:=of_true h hb
   refine AWp.keepTo [] 0 ⟨[],[]⟩ ?_ z0 ?_
   ·kernel_rfl
   refine AWp.seq ?_
   refine AWp.start [0,1] [] [] [2,3] 0 ⟨[(2,tI (2:Int)),(3,tI (2:Int))],[]⟩ rfl ?_ z0 trivial ?_
   ·kernel_rfl
   refine AOps.nil ?_
   refine AWp.ret ?_
   cases h
   exact ⟨.inr rfl,rfl⟩
  ·replace h:=of_false h hb
   refine AWp.keepTo [0,4] 0 ⟨[(0,tS v1),(4,tS v1)],[]⟩ ?_ z0 ?_
   ·kernel_rfl
   refine AWp.seq ?_
   refine AWp.start [0,1] [] [] [0,14] 0 ⟨[(0,tS v1),(14,tB (v1 == ([109,101,114,103,101]:List UInt8)))],[]⟩ rfl ?_ z0 trivial ?_
   ·kernel_rfl
   refine AOps.nil ?_
   refine AWp.cond rfl (fun hb=>?_) fun hb=>?_
   ·replace h:=of_true h hb
    refine AWp.keepTo [] 0 ⟨[],[]⟩ ?_ z0 ?_
    ·kernel_rfl
    refine AWp.seq ?_
    refine AWp.start [0,1] [] [] [2,3] 0 ⟨[(2,tI (3:Int)),(3,tI (3:Int))],[]⟩ rfl ?_ z0 trivial ?_
    ·kernel_rfl
    refine AOps.nil ?_
    refine AWp.ret ?_
    cases h
    exact ⟨.inr rfl,rfl⟩
   ·replace h:=of_false h hb
    refine AWp.keepTo [0] 0 ⟨[(0,tS v1)],[]⟩ ?_ z0 ?_
    ·kernel_rfl
    refine AWp.skip ?_
    refine AWp.seq ?_
    refine AWp.seq ?_
    refine AWp.start [] [0,1,2] [] [0] 0 ⟨[(0,tS v1)],[]⟩ rfl ?_ z0 trivial ?_
    ·kernel_rfl
    obtain ⟨v3,hv3,h⟩:=of_bind h
    refine AOps.cons (AOne.callP (F:=(FF 19 0)) _ rfl rfl rfl _ rfl rfl _ _ rfl Tryz.call59 [] rfl rfl (f59_ok  hv3) rfl) ?_
    refine AOps.freezeL 16 cStr v3 rfl (fun _=>rfl) ?_
    refine AOps.go [1] [2] [] [16,17] 0 ⟨[(16,q4 v3),(17,tS v1)],[]⟩ ?_ z0 trivial ?_
    ·kernel_rfl
    obtain ⟨v4,hv4,h⟩:=of_bind h
    refine AOps.cons (AOne.callP (F:=(FF 19 0)) _ rfl rfl rfl _ rfl rfl _ _ rfl Tryz.call58 [q4 v3,tS v1] rfl rfl (f58_ok v3 v1 hv4) rfl) ?_
    refine AOps.keepTo [18] 0 ⟨[(18,tB v4)],[]⟩ ?_ z0 ?_
    ·kernel_rfl
    refine AOps.nil ?_
    refine AWp.cond rfl (fun hb=>?_) fun hb=>?_
    ·replace h:=of_true h hb
     refine AWp.keepTo [] 0 ⟨[],[]⟩ ?_ z0 ?_
     ·kernel_rfl
     refine AWp.seq ?_
     refine AWp.start [0,1] [] [] [2,3] 0 ⟨[(2,tI (1:Int)),(3,tI (1:Int))],[]⟩ rfl ?_ z0 trivial ?_
     ·kernel_rfl
     refine AOps.nil ?_
     refine AWp.ret ?_
     cases h
     exact ⟨.inr rfl,rfl⟩
    ·replace h:=of_false h hb
     refine AWp.keepTo [] 0 ⟨[],[]⟩ ?_ z0 ?_
     ·kernel_rfl
     refine AWp.skip ?_
     refine AWp.seq ?_
     refine AWp.start [0,1] [] [] [2,3] 0 ⟨[(2,tI (0:Int)),(3,tI (0:Int))],[]⟩ rfl ?_ z0 trivial ?_
     ·kernel_rfl
     refine AOps.nil ?_
     refine AWp.ret ?_
     cases h
     exact ⟨.inr rfl,rfl⟩

noncomputable def f143 (v1:Int):Option Bool :=
 (cond (decide (v1 < (0:Int))) (some true) (some (decide (v1 > (4000:Int))))).bind fun v2=>some v2

theorem f143_ok (v1:Int) {r:Bool} (h:f143 v1 = some r):ACall Tryz.prog 143 [.tv (.int .i64 v1)] [] (.tv (.bool r)) []:=by
 refine ACall.of1 (FF 9 0) Tryz.func143 rfl Tryz.ntmps143 Tryz.results143 (zz rfl) rfl rfl ?_
 refine AWp.seq ?_
 refine AWp.start [0] [] [] [0] 0 ⟨[(0,tI v1)],[]⟩ rfl ?_ z0 trivial ?_
 ·kernel_rfl
 refine AOps.nil ?_
 refine AWp.seq ?_
 refine AWp.start [0,1,2] [3,4,5,6] [] [0,5] 0 ⟨[(0,tI v1),(5,tB (decide (v1 < (0:Int))))],[]⟩ rfl ?_ z0 trivial ?_
 ·kernel_rfl
 obtain ⟨v2,hc3,h⟩:=of_bind h
 refine AOps.cut [3,4,5] [6] (fun σ=>σ = ⟨[(8,tB v2)],[]⟩) ?_ fun σ' hJ=>?_
 ·refine AOps.split (fun b=>⟨[(0,tI v1),(5,tB b)],[]⟩) _ (fun hb=>?_) fun hb=>?_
  ·replace hc3:=of_true hc3 hb
   refine AOps.go [3,4,5] [] [] [8] 0 ⟨[(8,tB true)],[]⟩ ?_ z0 trivial ?_
   ·kernel_rfl
   cases hc3
   exact AOps.nil rfl
  ·replace hc3:=of_false hc3 hb
   refine AOps.go [3,4,5] [] [] [8] 0 ⟨[(8,tB (decide (v1 > (4000:Int))))],[]⟩ ?_ z0 trivial ?_
   ·kernel_rfl
   cases hc3
   exact AOps.nil rfl
 subst hJ
 refine AOps.go [6] [] [] [2] 0 ⟨[(2,tB v2)],[]⟩ ?_ z0 trivial ?_
 ·kernel_rfl
 refine AOps.nil ?_
 refine AWp.ret ?_
 cases h
 exact ⟨.inr rfl,rfl⟩

noncomputable def f87_143_b1 (v1:List Int) (v2:Int):Option (Int ⊕ Out Int Unit) :=
 cond (decide (v2 < (v1.length:Int))) (if (0:Int) ≤ v2 ∧ v2 < (v1.length:Int) then (f143 (v1.getD v2.toNat default)).bind fun v3=>cond v3 (some (.inr (.ret v2))) (some (.inl (w64 (v2 + (1:Int))))) else none) (some (.inr (.go ())))

noncomputable def f87_143 (v1:List Int):Option Int :=
 (iter (fun s=>f87_143_b1 v1 s) (0:Int)).bind fun y=>match y with | .ret v4=>some v4 | .go _=>some (-1:Int)

theorem f87_143_ok (v1:List Int) {r:Int} (h:f87_143 v1 = some r):ACall Tryz.prog 87 [.tv (fzL 1 (cInt .i64) v1),.fn 143 []] [] (.tv (.int .i64 r)) []:=by
 refine ACall.of1 (FF 19 0) Tryz.func87 rfl Tryz.ntmps87 Tryz.results87 (zz rfl) rfl rfl ?_
 refine AWp.seq ?_
 refine AWp.start [0] [] [] [0,1] 0 ⟨[(0,q3 v1),(1,.fn 143 [])],[]⟩ rfl ?_ z0 trivial ?_
 ·kernel_rfl
 refine AOps.nil ?_
 refine AWp.seq ?_
 refine AWp.seq ?_
 refine AWp.start [0,1,2] [] [] [0,1,7,8] 0 ⟨[(0,q3 v1),(1,.fn 143 []),(7,tI (v1.length:Int)),(8,tI (0:Int))],[]⟩ rfl ?_ z0 trivial ?_
 ·kernel_rfl
 refine AOps.nil ?_
 refine AWp.block ?_
 obtain ⟨y,hy,h⟩:=of_bind h
 refine AWp.mono (AWp.loop (S:=Int) (Y:=Out Int Unit) (fun s=>⟨[(0,q3 v1),(1,.fn 143 []),(7,tI (v1.length:Int)),(8,tI s)],[]⟩) (fun s=>f87_143_b1 v1 s) (fun y e σ=>match y with | .ret r=>e = .ret ∧ σ = ⟨[(4,tI r)],[]⟩ | .go v=>e = .exit 0 ∧ σ = ⟨[],[]⟩) ?_ hy) ?_
 ·rintro v2 o h
  refine AWp.seq ?_
  refine AWp.start [0] [] [] [0,1,7,8,9] 0 ⟨[(0,q3 v1),(1,.fn 143 []),(7,tI (v1.length:Int)),(8,tI v2),(9,tB (decide (v2 < (v1.length:Int))))],[]⟩ rfl ?_ z0 trivial ?_
  ·kernel_rfl
  refine AOps.nil ?_
  refine AWp.seq ?_
  refine AWp.cond rfl (fun hb=>?_) fun hb=>?_
  ·replace h:=of_true h hb
   refine AWp.keepTo [0,1,7,8] 0 ⟨[(0,q3 v1),(1,.fn 143 []),(7,tI (v1.length:Int)),(8,tI v2)],[]⟩ ?_ z0 ?_
   ·kernel_rfl
   refine AWp.skip ?_
   refine AWp.seq ?_
   refine AWp.block ?_
   refine AWp.seq ?_
   refine AWp.start [0,1] [] [] [0,1,5,7,8] 0 ⟨[(0,q3 v1),(1,.fn 143 []),(5,tI v2),(7,tI (v1.length:Int)),(8,tI v2)],[]⟩ rfl ?_ z0 trivial ?_
   ·kernel_rfl
   refine AOps.nil ?_
   refine AWp.seq ?_
   obtain ⟨hg,h⟩:=of_guard h
   refine AWp.start [0,1,2,3,4] [5] [(0:Int) ≤ v2,v2 < (v1.length:Int)] [0,1,5,7,8,11,15] 0 ⟨[(0,q3 v1),(1,.fn 143 []),(5,tI v2),(7,tI (v1.length:Int)),(8,tI v2),(11,.fn 143 []),(15,tI (gD v1 v2))],[]⟩ rfl ?_ z0 ⟨hg.1,hg.2⟩ ?_
   ·kernel_rfl
   obtain ⟨v3,hv3,h⟩:=of_bind h
   refine AOps.cons (AOne.callP (F:=(FF 19 0)) _ rfl rfl rfl _ rfl rfl _ _ rfl Tryz.call143 [tI (gD v1 v2)] rfl rfl (f143_ok (gD v1 v2) hv3) rfl) ?_
   refine AOps.keepTo [0,1,5,7,8,16] 0 ⟨[(0,q3 v1),(1,.fn 143 []),(5,tI v2),(7,tI (v1.length:Int)),(8,tI v2),(16,tB v3)],[]⟩ ?_ z0 ?_
   ·kernel_rfl
   refine AOps.nil ?_
   refine AWp.cond rfl (fun hb=>?_) fun hb=>?_
   ·replace h:=of_true h hb
    refine AWp.keepTo [5] 0 ⟨[(5,tI v2)],[]⟩ ?_ z0 ?_
    ·kernel_rfl
    refine AWp.seq ?_
    refine AWp.start [0,1] [] [] [4] 0 ⟨[(4,tI v2)],[]⟩ rfl ?_ z0 trivial ?_
    ·kernel_rfl
    refine AOps.nil ?_
    refine AWp.ret ?_
    cases h
    exact Or.inr ⟨_,rfl,by simp,rfl,rfl⟩
   ·replace h:=of_false h hb
    refine AWp.keepTo [0,1,7,8] 0 ⟨[(0,q3 v1),(1,.fn 143 []),(7,tI (v1.length:Int)),(8,tI v2)],[]⟩ ?_ z0 ?_
    ·kernel_rfl
    refine AWp.skip ?_
    refine AWp.start [0,1] [] [] [0,1,7,8] 0 ⟨[(0,q3 v1),(1,.fn 143 []),(7,tI (v1.length:Int)),(8,tI (w64 (v2 + (1:Int))))],[]⟩ rfl ?_ z0 trivial ?_
    ·kernel_rfl
    refine AOps.nil ?_
    cases h
    exact Or.inl ⟨_,rfl,rfl,rfl⟩
  ·replace h:=of_false h hb
   refine AWp.keepTo [] 0 ⟨[],[]⟩ ?_ z0 ?_
   ·kernel_rfl
   refine AWp.exit ?_
   cases h
   exact Or.inr ⟨_,rfl,by simp,rfl,rfl⟩
 ·intro e σ hp
  rcases y with v4 | _
  ·obtain ⟨rfl,rfl⟩:=hp
   cases h
   exact ⟨.inr rfl,rfl⟩
  ·obtain ⟨rfl,rfl⟩:=hp
   refine AWp.seq ?_
   refine AWp.start [0] [] [] [4] 0 ⟨[(4,tI (-1:Int))],[]⟩ rfl ?_ z0 trivial ?_
   ·kernel_rfl
   refine AOps.nil ?_
   refine AWp.ret ?_
   cases h
   exact ⟨.inr rfl,rfl⟩

noncomputable def f49_143 (v1:List Int):Option Bool :=
 (f87_143 v1).bind fun v2=>some (decide (v2 ≥ (0:Int)))

theorem f49_143_ok (v1:List Int) {r:Bool} (h:f49_143 v1 = some r):ACall Tryz.prog 49 [.tv (fzL 1 (cInt .i64) v1),.fn 143 []] [] (.tv (.bool r)) []:=by
 refine ACall.of1 (FF 9 0) Tryz.func49 rfl Tryz.ntmps49 Tryz.results49 (zz rfl) rfl rfl ?_
 refine AWp.seq ?_
 refine AWp.start [0] [] [] [0,1] 0 ⟨[(0,q3 v1),(1,.fn 143 [])],[]⟩ rfl ?_ z0 trivial ?_
 ·kernel_rfl
 refine AOps.nil ?_
 refine AWp.seq ?_
 refine AWp.start [0,1] [2,3,4] [] [5,6] 0 ⟨[(5,q3 v1),(6,.fn 143 [])],[]⟩ rfl ?_ z0 trivial ?_
 ·kernel_rfl
 obtain ⟨v2,hv2,h⟩:=of_bind h
 refine AOps.cons (AOne.callP (F:=(FF 9 0)) _ rfl rfl rfl _ rfl rfl _ _ rfl Tryz.call87 [q3 v1,.fn 143 []] rfl rfl (f87_143_ok v1 hv2) rfl) ?_
 refine AOps.go [3,4] [] [] [4] 0 ⟨[(4,tB (decide (v2 ≥ (0:Int))))],[]⟩ ?_ z0 trivial ?_
 ·kernel_rfl
 refine AOps.nil ?_
 refine AWp.ret ?_
 cases h
 exact ⟨.inr rfl,rfl⟩

noncomputable def f116_b1 (v1:List Int) (v4:Int) (v5:Int):Option ((Int × Int) ⊕ Out Int Int) :=
 cond (decide (v5 < (v1.length:Int))) (if (0:Int) ≤ v5 ∧ v5 < (v1.length:Int) then some (.inl (w64 (v4 * (v1.getD v5.toNat default)),w64 (v5 + (1:Int)))) else none) (some (.inr (.go v4)))

noncomputable def f116 (v1:List Int):Option Int :=
 (cond (decide ((v1.length:Int) > (3:Int))) (some true) ((f49_143 v1).bind fun v3=>some v3)).bind fun v2=>cond v2 (some (-1:Int)) ((iter (fun s=>f116_b1 v1 s.1 s.2) ((1:Int),(0:Int))).bind fun y=>match y with | .ret v7=>some v7 | .go v6=>cond (decide (v6 > (4000:Int))) (some (-1:Int)) (some v6))

theorem f116_ok (v1:List Int) {r:Int} (h:f116 v1 = some r):ACall Tryz.prog 116 [.tv (fzL 1 (cInt .i64) v1)] [] (.tv (.int .i64 r)) []:=by
 refine ACall.of1 (FF 26 0) Tryz.func116 rfl Tryz.ntmps116 Tryz.results116 (zz rfl) rfl rfl ?_
 refine AWp.seq ?_
 refine AWp.start [0] [] [] [0] 0 ⟨[(0,q3 v1)],[]⟩ rfl ?_ z0 trivial ?_
 ·kernel_rfl
 refine AOps.nil ?_
 refine AWp.seq ?_
 refine AWp.seq ?_
 refine AWp.start [0,1,2,3] [4,5,6] [] [0,9] 0 ⟨[(0,q3 v1),(9,tB (decide ((v1.length:Int) > (3:Int))))],[]⟩ rfl ?_ z0 trivial ?_
 ·kernel_rfl
 obtain ⟨v2,hc4,h⟩:=of_bind h
 refine AOps.cut [4,5,6] [] (fun σ=>σ = ⟨[(0,q3 v1),(12,tB v2)],[]⟩) ?_ fun σ' hJ=>?_
 ·refine AOps.split (fun b=>⟨[(0,q3 v1),(9,tB b)],[]⟩) _ (fun hb=>?_) fun hb=>?_
  ·replace hc4:=of_true hc4 hb
   refine AOps.go [4,5,6] [] [] [0,12] 0 ⟨[(0,q3 v1),(12,tB true)],[]⟩ ?_ z0 trivial ?_
   ·kernel_rfl
   cases hc4
   exact AOps.nil rfl
  ·replace hc4:=of_false hc4 hb
   refine AOps.go [4] [5,6] [] [0,9,10] 0 ⟨[(0,q3 v1),(9,tB false),(10,q3 v1)],[]⟩ ?_ z0 trivial ?_
   ·kernel_rfl
   obtain ⟨v3,hv3,hc4⟩:=of_bind hc4
   refine AOps.cons (AOne.callP (F:=(FF 26 0)) _ rfl rfl rfl _ rfl rfl _ _ rfl Tryz.call49 [q3 v1,.fn 143 []] rfl rfl (f49_143_ok v1 hv3) rfl) ?_
   refine AOps.go [6] [] [] [0,12] 0 ⟨[(0,q3 v1),(12,tB v3)],[]⟩ ?_ z0 trivial ?_
   ·kernel_rfl
   cases hc4
   exact AOps.nil rfl
 subst hJ
 refine AOps.nil ?_
 refine AWp.cond rfl (fun hb=>?_) fun hb=>?_
 ·replace h:=of_true h hb
  refine AWp.keepTo [] 0 ⟨[],[]⟩ ?_ z0 ?_
  ·kernel_rfl
  refine AWp.seq ?_
  refine AWp.start [0] [] [] [2] 0 ⟨[(2,tI (-1:Int))],[]⟩ rfl ?_ z0 trivial ?_
  ·kernel_rfl
  refine AOps.nil ?_
  refine AWp.ret ?_
  cases h
  exact ⟨.inr rfl,rfl⟩
 ·replace h:=of_false h hb
  refine AWp.keepTo [0] 0 ⟨[(0,q3 v1)],[]⟩ ?_ z0 ?_
  ·kernel_rfl
  refine AWp.skip ?_
  refine AWp.seq ?_
  refine AWp.start [0] [] [] [0,3] 0 ⟨[(0,q3 v1),(3,tI (1:Int))],[]⟩ rfl ?_ z0 trivial ?_
  ·kernel_rfl
  refine AOps.nil ?_
  refine AWp.seq ?_
  refine AWp.seq ?_
  refine AWp.start [0,1,2] [] [] [3,13,14,15] 0 ⟨[(3,tI (1:Int)),(13,q3 v1),(14,tI (v1.length:Int)),(15,tI (0:Int))],[]⟩ rfl ?_ z0 trivial ?_
  ·kernel_rfl
  refine AOps.nil ?_
  refine AWp.block ?_
  obtain ⟨y,hy,h⟩:=of_bind h
  refine AWp.mono (AWp.loop (S:=Int × Int) (Y:=Out Int Int) (fun s=>⟨[(3,tI s.1),(13,q3 v1),(14,tI (v1.length:Int)),(15,tI s.2)],[]⟩) (fun s=>f116_b1 v1 s.1 s.2) (fun y e σ=>match y with | .ret r=>e = .ret ∧ σ = ⟨[(2,tI r)],[]⟩ | .go v=>e = .exit 0 ∧ σ = ⟨[(3,tI v)],[]⟩) ?_ hy) ?_
  ·rintro ⟨v4,v5⟩ o h
   refine AWp.seq ?_
   refine AWp.start [0] [] [] [3,13,14,15,16] 0 ⟨[(3,tI v4),(13,q3 v1),(14,tI (v1.length:Int)),(15,tI v5),(16,tB (decide (v5 < (v1.length:Int))))],[]⟩ rfl ?_ z0 trivial ?_
   ·kernel_rfl
   refine AOps.nil ?_
   refine AWp.seq ?_
   refine AWp.cond rfl (fun hb=>?_) fun hb=>?_
   ·replace h:=of_true h hb
    refine AWp.keepTo [3,13,14,15] 0 ⟨[(3,tI v4),(13,q3 v1),(14,tI (v1.length:Int)),(15,tI v5)],[]⟩ ?_ z0 ?_
    ·kernel_rfl
    refine AWp.skip ?_
    refine AWp.seq ?_
    refine AWp.block ?_
    refine AWp.seq ?_
    obtain ⟨hg,h⟩:=of_guard h
    refine AWp.start [0,1,2] [] [(0:Int) ≤ v5,v5 < (v1.length:Int)] [3,5,13,14,15] 0 ⟨[(3,tI v4),(5,tI (gD v1 v5)),(13,q3 v1),(14,tI (v1.length:Int)),(15,tI v5)],[]⟩ rfl ?_ z0 ⟨hg.1,hg.2⟩ ?_
    ·kernel_rfl
    refine AOps.nil ?_
    refine AWp.start [0,1,2,3] [] [] [3,13,14,15] 0 ⟨[(3,tI (w64 (v4 * (gD v1 v5)))),(13,q3 v1),(14,tI (v1.length:Int)),(15,tI v5)],[]⟩ rfl ?_ z0 trivial ?_
    ·kernel_rfl
    refine AOps.nil ?_
    refine AWp.start [0,1] [] [] [3,13,14,15] 0 ⟨[(3,tI (w64 (v4 * (gD v1 v5)))),(13,q3 v1),(14,tI (v1.length:Int)),(15,tI (w64 (v5 + (1:Int))))],[]⟩ rfl ?_ z0 trivial ?_
    ·kernel_rfl
    refine AOps.nil ?_
    cases h
    exact Or.inl ⟨_,rfl,rfl,rfl⟩
   ·replace h:=of_false h hb
    refine AWp.keepTo [3] 0 ⟨[(3,tI v4)],[]⟩ ?_ z0 ?_
    ·kernel_rfl
    refine AWp.exit ?_
    cases h
    exact Or.inr ⟨_,rfl,by simp,rfl,rfl⟩
  ·intro e σ hp
   rcases y with v7 | v6
   ·obtain ⟨rfl,rfl⟩:=hp
    cases h
    exact ⟨.inr rfl,rfl⟩
   ·obtain ⟨rfl,rfl⟩:=hp
    refine AWp.seq ?_
    refine AWp.seq ?_
    refine AWp.start [0,1] [] [] [3,24] 0 ⟨[(3,tI v6),(24,tB (decide (v6 > (4000:Int))))],[]⟩ rfl ?_ z0 trivial ?_
    ·kernel_rfl
    refine AOps.nil ?_
    refine AWp.cond rfl (fun hb=>?_) fun hb=>?_
    ·replace h:=of_true h hb
     refine AWp.keepTo [] 0 ⟨[],[]⟩ ?_ z0 ?_
     ·kernel_rfl
     refine AWp.seq ?_
     refine AWp.start [0] [] [] [2] 0 ⟨[(2,tI (-1:Int))],[]⟩ rfl ?_ z0 trivial ?_
     ·kernel_rfl
     refine AOps.nil ?_
     refine AWp.ret ?_
     cases h
     exact ⟨.inr rfl,rfl⟩
    ·replace h:=of_false h hb
     refine AWp.keepTo [3] 0 ⟨[(3,tI v6)],[]⟩ ?_ z0 ?_
     ·kernel_rfl
     refine AWp.skip ?_
     refine AWp.seq ?_
     refine AWp.start [0,1] [] [] [2] 0 ⟨[(2,tI v6)],[]⟩ rfl ?_ z0 trivial ?_
     ·kernel_rfl
     refine AOps.nil ?_
     refine AWp.ret ?_
     cases h
     exact ⟨.inr rfl,rfl⟩

noncomputable def f20 (v1:List Int):Option (List Int) :=
 if (([]:List Int).length + v1.length) * 8 ≤ 140737488355328 then some (([]:List Int) ++ v1) else none

theorem f20_ok (v1:List Int) {r:(List Int)} (h:f20 v1 = some r):ACall Tryz.prog 20 [.tv (fzL 1 (cInt .i64) v1)] [] (.tv (ownL 1 3 (cInt .i64) r)) []:=by
 refine ACall.of1 (FF 8 0) Tryz.func20 rfl Tryz.ntmps20 Tryz.results20 (zz rfl) rfl rfl ?_
 refine AWp.seq ?_
 refine AWp.start [0] [] [] [0] 0 ⟨[(0,q3 v1)],[]⟩ rfl ?_ z0 trivial ?_
 ·kernel_rfl
 refine AOps.nil ?_
 refine AWp.seq ?_
 refine AWp.seq ?_
 refine AWp.start [0] [1] [] [0,3] 0 ⟨[(0,q3 v1),(3,q3 v1)],[]⟩ rfl ?_ z0 trivial ?_
 ·kernel_rfl
 refine AOps.nilEq (F:=(FF 8 0)) _ rfl rfl 4 rfl rfl rfl rfl v1.length rfl fun v2 hnil=>?_
 refine AOps.keepTo [0,4] 0 ⟨[(0,q3 v1),(4,tB v2)],[]⟩ ?_ z0 ?_
 ·kernel_rfl
 refine AOps.nil ?_
 refine AWp.cond rfl (fun hb=>?_) fun hb=>?_
 ·have hz:=List.eq_nil_of_length_eq_zero (hnil hb)
  subst hz
  have h2:(if (([]:List Int).length + ([]:List Int).length) * 8 ≤ 140737488355328 then some (([]:List Int) ++ ([]:List Int)) else none) = some r:=h
  replace h:(some ([]:List Int)) = some r:=by simpa using h2
  refine AWp.keepTo [] 0 ⟨[],[]⟩ ?_ z0 ?_
  ·kernel_rfl
  refine AWp.seq ?_
  refine AWp.start [0] [] [] [2] 0 ⟨[(2,.tv (.sc (.slice none 0 0)))],[]⟩ rfl ?_ z0 trivial ?_
  ·kernel_rfl
  refine AOps.nil ?_
  refine AWp.nilOwn 2 1 3 (fun i=>(cInt .i64) (([]:List Int).getD i default)) rfl ?_
  refine AWp.keepTo [2] 0 ⟨[(2,q2 ([]:List Int))],[]⟩ ?_ z0 ?_
  ·kernel_rfl
  refine AWp.ret ?_
  cases h
  exact ⟨.inr rfl,rfl⟩
 ·refine AWp.keepTo [0] 0 ⟨[(0,q3 v1)],[]⟩ ?_ z0 ?_
  ·kernel_rfl
  refine AWp.skip ?_
  refine AWp.seq ?_
  refine AWp.start [0] [1,2,3] [] [0,5] 0 ⟨[(0,q3 v1),(5,.tv (.own 1 3 0 (newRowF [] 1)))],[]⟩ rfl ?_ z0 trivial ?_
  ·kernel_rfl
  refine AOps.extL 5 (cInt .i64) ([]:List Int) rfl rfl (row_at (cInt .i64) 1 (fun _=>rfl) ([]:List Int) _ rfl) ?_
  obtain ⟨hg,h⟩:=of_guard h
  refine AOps.go [1,2] [3] [(([]:List Int).length + v1.length) * 8 ≤ 140737488355328,PlainTo (([]:List Int).length) (fun i=>(cInt .i64) (([]:List Int).getD i default)),PlainTo v1.length (fun i=>(cInt .i64) (v1.getD i default))] [7] 0 ⟨[(7,.tv (.own 1 3 (([]:List Int).length + v1.length) (appF (([]:List Int).length) (fun i=>(cInt .i64) (([]:List Int).getD i default)) (fun i=>(cInt .i64) (v1.getD i default)))))],[]⟩ ?_ z0 ⟨hg,(fun _ _=>rfl),(fun _ _=>rfl)⟩ ?_
  ·kernel_rfl
  refine AOps.extL 7 (cInt .i64) (([]:List Int) ++ v1) rfl List.length_append.symm (app_at (cInt .i64) ([]:List Int) v1) ?_
  refine AOps.go [3] [] [] [2] 0 ⟨[(2,q2 (([]:List Int) ++ v1))],[]⟩ ?_ z0 trivial ?_
  ·kernel_rfl
  refine AOps.nil ?_
  refine AWp.ret ?_
  cases h
  exact ⟨.inr rfl,rfl⟩

abbrev hp0 (v3:(List Int)) (v6:List Int):List AObj:=[.cells 149 [.int .i64 (0:Int),nS,nS],.cells 149 [.int .i64 (0:Int),k0 v3,k3 v6]]
abbrev hp1 (v3:(List Int)):List AObj:=[.cells 149 [.int .i64 (0:Int),nS,nS],.cells 149 [.int .i64 (0:Int),k0 v3,nS]]
abbrev hp2 (v3:(List Int)) (v4:Int) (v6:List Int):List AObj:=[.cells 149 [.int .i64 (0:Int),nS,nS],.cells 149 [.int .i64 (0:Int),k0 v3,k3 (v6 ++ [v4])]]

noncomputable def f91_b1 (v1:List Int) (v4:Int) (v5:Int) (v6:List Int):Option ((Int × Int × (List Int)) ⊕ Out (T148 × Int) (List Int)) :=
 cond (decide (v5 < (v1.length:Int))) (if (0:Int) ≤ v5 ∧ v5 < (v1.length:Int) then if (v6.length + [v4].length) * 8 ≤ 140737488355328 then some (.inl (w64 (v4 * (v1.getD v5.toNat default)),w64 (v5 + (1:Int)),v6 ++ [v4])) else none else none) (some (.inr (.go v6)))

noncomputable def f91 (v1:List Int):Option (T148 × Int) :=
 (f116 v1).bind fun v2=>cond (decide (v2 < (0:Int))) (some (T148.mk (0:Int) ([]:List Int) ([]:List Int),(2:Int))) ((f20 v1).bind fun v3=>(iter (fun s=>f91_b1 v1 s.1 s.2.1 s.2.2) ((1:Int),(0:Int),[])).bind fun y=>match y with | .ret v8=>some (v8.1,v8.2) | .go v7=>some (T148.mk (0:Int) v3 v7,(0:Int)))

theorem f91_ok (v1:List Int) {r:T148 × Int} (h:f91 v1 = some r):ACall Tryz.prog 91 [.tv (fzL 1 (cInt .i64) v1)] [] (.tup [.agg [.int .i64 r.1.f0,fzL 1 (cInt .i64) r.1.f1,fzL 1 (cInt .i64) r.1.f2],.tv (.int .i64 r.2)]) []:=by
 refine ACall.ofNc (FF 32 0) (rs:=[2,3]) (sv:=(.agg [.int .i64 r.1.f0,k0 r.1.f1,k0 r.1.f2])) (cells0:=[.int .i64 r.1.f0,k0 r.1.f1,k0 r.1.f2]) 2 149 (env0:=[(2,.rp [.int .i64 r.1.f0,k0 r.1.f1,k0 r.1.f2]),(3,tI r.2)]) (env:=[(2,.agg [.int .i64 r.1.f0,k0 r.1.f1,k0 r.1.f2]),(3,tI r.2)]) Tryz.func91 rfl Tryz.ntmps91 (by kernel_rfl) (by decide) (by decide) rfl (zz rfl) rfl rfl rfl (by kernel_rfl) rfl [2,3] 0 z0 rfl (get_ofN _ _ _ rfl) (ok_ofN _ rfl) ?_
 refine AWp.seq ?_
 refine AWp.start [0,1] [] [] [0,2] 1 ⟨[(0,q3 v1),(2,.pc 0 0)],[.cells 149 [.int .i64 (0:Int),nS,nS]]⟩ rfl ?_ z0 trivial ?_
 ·kernel_rfl
 refine AOps.nil ?_
 refine AWp.seq ?_
 refine AWp.seq ?_
 refine AWp.start [0] [1,2] [] [0,2,8] 1 ⟨[(0,q3 v1),(2,.pc 0 0),(8,q3 v1)],[.cells 149 [.int .i64 (0:Int),nS,nS]]⟩ rfl ?_ z0 trivial ?_
 ·kernel_rfl
 obtain ⟨v2,hv2,h⟩:=of_bind h
 refine AOps.cons (AOne.callP (F:=(FF 32 0)) _ rfl rfl rfl _ rfl rfl _ _ rfl Tryz.call116 [q3 v1] rfl rfl (f116_ok v1 hv2) rfl) ?_
 refine AOps.go [2] [] [] [0,2,10] 1 ⟨[(0,q3 v1),(2,.pc 0 0),(10,tB (decide (v2 < (0:Int))))],[.cells 149 [.int .i64 (0:Int),nS,nS]]⟩ ?_ z0 trivial ?_
 ·kernel_rfl
 refine AOps.nil ?_
 refine AWp.cond rfl (fun hb=>?_) fun hb=>?_
 ·replace h:=of_true h hb
  refine AWp.keepTo [2] 1 ⟨[(2,.pc 0 0)],[.cells 149 [.int .i64 (0:Int),nS,nS]]⟩ ?_ z0 ?_
  ·kernel_rfl
  refine AWp.seq ?_
  refine AWp.start [0,1,2] [] [] [2,3] 1 ⟨[(2,.pc 0 0),(3,tI (2:Int))],[.cells 149 [.int .i64 (0:Int),nS,nS]]⟩ rfl ?_ z0 trivial ?_
  ·kernel_rfl
  refine AOps.nil ?_
  refine AWp.retell 0 1 rfl (.nilFz 1 (fun i=>(cInt .i64) (([]:List Int).getD i default))) ?_
  refine AWp.retell 0 2 rfl (.nilFz 1 (fun i=>(cInt .i64) (([]:List Int).getD i default))) ?_
  refine AWp.pin 0 rfl rfl ?_
  refine AWp.keepTo [2,3] 0 ⟨[(2,.rp [.int .i64 (0:Int),k0 ([]:List Int),k0 ([]:List Int)]),(3,tI (2:Int))],[]⟩ ?_ z0 ?_
  ·kernel_rfl
  refine AWp.ret ?_
  cases h
  exact ⟨.inr rfl,rfl⟩
 ·replace h:=of_false h hb
  refine AWp.keepTo [0,2] 1 ⟨[(0,q3 v1),(2,.pc 0 0)],[.cells 149 [.int .i64 (0:Int),nS,nS]]⟩ ?_ z0 ?_
  ·kernel_rfl
  refine AWp.skip ?_
  refine AWp.seq ?_
  refine AWp.start [0] [1,2,3,4] [] [0,2,12] 1 ⟨[(0,q3 v1),(2,.pc 0 0),(12,q3 v1)],[.cells 149 [.int .i64 (0:Int),nS,nS]]⟩ rfl ?_ z0 trivial ?_
  ·kernel_rfl
  obtain ⟨v3,hv3,h⟩:=of_bind h
  refine AOps.cons (AOne.callP (F:=(FF 32 0)) _ rfl rfl rfl _ rfl rfl _ _ rfl Tryz.call20 [q3 v1] rfl rfl (f20_ok v1 hv3) rfl) ?_
  refine AOps.freezeL 13 (cInt .i64) v3 rfl (fun _=>rfl) ?_
  refine AOps.go [2,3,4] [] [] [0,2,4] 2 ⟨[(0,q3 v1),(2,.pc 0 0),(4,.pc 1 0)],hp1 v3⟩ ?_ z0 trivial ?_
  ·kernel_rfl
  refine AOps.nil ?_
  refine AWp.seq ?_
  refine AWp.start [0] [] [] [0,2,4,5] 2 ⟨[(0,q3 v1),(2,.pc 0 0),(4,.pc 1 0),(5,tI (1:Int))],hp1 v3⟩ rfl ?_ z0 trivial ?_
  ·kernel_rfl
  refine AOps.nil ?_
  refine AWp.seq ?_
  refine AWp.seq ?_
  refine AWp.start [0,1,2] [] [] [2,4,5,15,16,17] 2 ⟨[(2,.pc 0 0),(4,.pc 1 0),(5,tI (1:Int)),(15,q3 v1),(16,tI (v1.length:Int)),(17,tI (0:Int))],hp1 v3⟩ rfl ?_ z0 trivial ?_
  ·kernel_rfl
  refine AOps.nil ?_
  refine AWp.block ?_
  refine AWp.retell 1 2 rfl (.nilOwn 1 3 (fun i=>(cInt .i64) (([]:List Int).getD i default))) ?_
  refine AWp.keepTo [2,4,5,15,16,17] 2 ⟨[(2,.pc 0 0),(4,.pc 1 0),(5,tI (1:Int)),(15,q3 v1),(16,tI (v1.length:Int)),(17,tI (0:Int))],[.cells 149 [.int .i64 (0:Int),nS,nS],.cells 149 [.int .i64 (0:Int),k0 v3,k3 ([]:List Int)]]⟩ ?_ z0 ?_
  ·kernel_rfl
  obtain ⟨y,hy,h⟩:=of_bind h
  refine AWp.mono (AWp.loop (S:=Int × Int × (List Int)) (Y:=Out (T148 × Int) (List Int)) (fun s=>⟨[(2,.pc 0 0),(4,.pc 1 0),(5,tI s.1),(15,q3 v1),(16,tI (v1.length:Int)),(17,tI s.2.1)],[.cells 149 [.int .i64 (0:Int),nS,nS],.cells 149 [.int .i64 (0:Int),k0 v3,k3 s.2.2]]⟩) (fun s=>f91_b1 v1 s.1 s.2.1 s.2.2) (fun y e σ=>match y with | .ret r=>e = .ret ∧ σ = ⟨[(2,.rp [.int .i64 r.1.f0,k0 r.1.f1,k0 r.1.f2]),(3,tI r.2)],[]⟩ | .go v=>e = .exit 0 ∧ σ = ⟨[(2,.pc 0 0),(4,.pc 1 0)],[.cells 149 [.int .i64 (0:Int),nS,nS],.cells 149 [.int .i64 (0:Int),k0 v3,k3 v]]⟩) ?_ hy) ?_
  ·rintro ⟨v4,v5,v6⟩ o h
   refine AWp.seq ?_
   refine AWp.start [0] [] [] [2,4,5,15,16,17,18] 2 ⟨[(2,.pc 0 0),(4,.pc 1 0),(5,tI v4),(15,q3 v1),(16,tI (v1.length:Int)),(17,tI v5),(18,tB (decide (v5 < (v1.length:Int))))],hp0 v3 v6⟩ rfl ?_ z0 trivial ?_
   ·kernel_rfl
   refine AOps.nil ?_
   refine AWp.seq ?_
   refine AWp.cond rfl (fun hb=>?_) fun hb=>?_
   ·replace h:=of_true h hb
    refine AWp.keepTo [2,4,5,15,16,17] 2 ⟨[(2,.pc 0 0),(4,.pc 1 0),(5,tI v4),(15,q3 v1),(16,tI (v1.length:Int)),(17,tI v5)],hp0 v3 v6⟩ ?_ z0 ?_
    ·kernel_rfl
    refine AWp.skip ?_
    refine AWp.seq ?_
    refine AWp.block ?_
    refine AWp.seq ?_
    obtain ⟨hg,h⟩:=of_guard h
    refine AWp.start [0,1,2] [] [(0:Int) ≤ v5,v5 < (v1.length:Int)] [2,4,5,7,15,16,17] 2 ⟨[(2,.pc 0 0),(4,.pc 1 0),(5,tI v4),(7,tI (gD v1 v5)),(15,q3 v1),(16,tI (v1.length:Int)),(17,tI v5)],hp0 v3 v6⟩ rfl ?_ z0 ⟨hg.1,hg.2⟩ ?_
    ·kernel_rfl
    refine AOps.nil ?_
    refine AWp.seq ?_
    refine AWp.start [0,1,2,3] [4,5,6] [] [2,4,5,7,15,16,17,22,24] 2 ⟨[(2,.pc 0 0),(4,.pc 1 0),(5,tI v4),(7,tI (gD v1 v5)),(15,q3 v1),(16,tI (v1.length:Int)),(17,tI v5),(22,.al (.cell 1 2,[])),(24,.tv (.own 1 3 1 (newRowF [.int .i64 v4] 1)))],hp0 v3 v6⟩ rfl ?_ z0 trivial ?_
    ·kernel_rfl
    refine AOps.extL 24 (cInt .i64) [v4] rfl rfl (row_at (cInt .i64) 1 (fun _=>rfl) [v4] _ rfl) ?_
    obtain ⟨hg,h⟩:=of_guard h
    refine AOps.go [4] [5,6] [(v6.length + [v4].length) * 8 ≤ 140737488355328,PlainTo v6.length (fun i=>(cInt .i64) (v6.getD i default)),PlainTo ([v4].length) (fun i=>(cInt .i64) ([v4].getD i default))] [2,4,5,7,15,16,17,25] 2 ⟨[(2,.pc 0 0),(4,.pc 1 0),(5,tI v4),(7,tI (gD v1 v5)),(15,q3 v1),(16,tI (v1.length:Int)),(17,tI v5),(25,.tv (.own 1 3 (v6.length + [v4].length) (appF v6.length (fun i=>(cInt .i64) (v6.getD i default)) (fun i=>(cInt .i64) ([v4].getD i default)))))],[.cells 149 [.int .i64 (0:Int),nS,nS],.cells 149 [.int .i64 (0:Int),k0 v3,.hole]]⟩ ?_ z0 ⟨hg,(fun _ _=>rfl),(fun _ _=>rfl)⟩ ?_
    ·kernel_rfl
    refine AOps.extL 25 (cInt .i64) (v6 ++ [v4]) rfl List.length_append.symm (app_at (cInt .i64) v6 [v4]) ?_
    refine AOps.go [5] [6] [] [2,4,5,7,15,16,17,25,26] 2 ⟨[(2,.pc 0 0),(4,.pc 1 0),(5,tI v4),(7,tI (gD v1 v5)),(15,q3 v1),(16,tI (v1.length:Int)),(17,tI v5),(25,q2 (v6 ++ [v4])),(26,.pc 1 2)],[.cells 149 [.int .i64 (0:Int),nS,nS],.cells 149 [.int .i64 (0:Int),k0 v3,.hole]]⟩ ?_ z0 trivial ?_
    ·kernel_rfl
    refine AOps.cons (AOne.own (F:=(FF 32 0)) _ rfl rfl rfl rfl) ?_
    refine AOps.keepTo [2,4,5,7,15,16,17] 2 ⟨[(2,.pc 0 0),(4,.pc 1 0),(5,tI v4),(7,tI (gD v1 v5)),(15,q3 v1),(16,tI (v1.length:Int)),(17,tI v5)],hp2 v3 v4 v6⟩ ?_ z0 ?_
    ·kernel_rfl
    refine AOps.nil ?_
    refine AWp.start [0,1,2,3] [] [] [2,4,5,15,16,17] 2 ⟨[(2,.pc 0 0),(4,.pc 1 0),(5,tI (w64 (v4 * (gD v1 v5)))),(15,q3 v1),(16,tI (v1.length:Int)),(17,tI v5)],hp2 v3 v4 v6⟩ rfl ?_ z0 trivial ?_
    ·kernel_rfl
    refine AOps.nil ?_
    refine AWp.start [0,1] [] [] [2,4,5,15,16,17] 2 ⟨[(2,.pc 0 0),(4,.pc 1 0),(5,tI (w64 (v4 * (gD v1 v5)))),(15,q3 v1),(16,tI (v1.length:Int)),(17,tI (w64 (v5 + (1:Int))))],hp2 v3 v4 v6⟩ rfl ?_ z0 trivial ?_
    ·kernel_rfl
    refine AOps.nil ?_
    cases h
    exact Or.inl ⟨_,rfl,rfl,rfl⟩
   ·replace h:=of_false h hb
    refine AWp.keepTo [2,4] 2 ⟨[(2,.pc 0 0),(4,.pc 1 0)],hp0 v3 v6⟩ ?_ z0 ?_
    ·kernel_rfl
    refine AWp.exit ?_
    cases h
    exact Or.inr ⟨_,rfl,by simp,rfl,rfl⟩
  ·intro e σ hp
   rcases y with v8 | v7
   ·obtain ⟨rfl,rfl⟩:=hp
    cases h
    exact ⟨.inr rfl,rfl⟩
   ·obtain ⟨rfl,rfl⟩:=hp
    refine AWp.seq ?_
    refine AWp.freezeC 1 2 (cInt .i64) v7 rfl (fun _=>rfl) ?_
    refine AWp.pin 1 rfl rfl ?_
    refine AWp.keepTo [2,4] 1 ⟨[(2,.pc 0 0),(4,.rp [.int .i64 (0:Int),k0 v3,k0 v7])],[.cells 149 [.int .i64 (0:Int),nS,nS]]⟩ ?_ z0 ?_
    ·kernel_rfl
    refine AWp.start [0,1,2] [] [] [2,3] 1 ⟨[(2,.pc 0 0),(3,tI (0:Int))],[.cells 149 [.int .i64 (0:Int),k0 v3,k0 v7]]⟩ rfl ?_ z0 trivial ?_
    ·kernel_rfl
    refine AOps.nil ?_
    refine AWp.pin 0 rfl rfl ?_
    refine AWp.keepTo [2,3] 0 ⟨[(2,.rp [.int .i64 (0:Int),k0 v3,k0 v7]),(3,tI (0:Int))],[]⟩ ?_ z0 ?_
    ·kernel_rfl
    refine AWp.ret ?_
    cases h
    exact ⟨.inr rfl,rfl⟩

noncomputable def f145 (v1:Int):Option Bool :=
 (cond (decide (v1 ≥ (-2147483648:Int))) (some (decide (v1 ≤ (2147483648:Int)))) (some false)).bind fun v2=>some v2

theorem f145_ok (v1:Int) {r:Bool} (h:f145 v1 = some r):ACall Tryz.prog 145 [.tv (.int .i64 v1)] [] (.tv (.bool r)) []:=by
 refine ACall.of1 (FF 9 0) Tryz.func145 rfl Tryz.ntmps145 Tryz.results145 (zz rfl) rfl rfl ?_
 refine AWp.seq ?_
 refine AWp.start [0] [] [] [0] 0 ⟨[(0,tI v1)],[]⟩ rfl ?_ z0 trivial ?_
 ·kernel_rfl
 refine AOps.nil ?_
 refine AWp.seq ?_
 refine AWp.start [0,1,2] [3,4,5,6] [] [0,5] 0 ⟨[(0,tI v1),(5,tB (decide (v1 ≥ (-2147483648:Int))))],[]⟩ rfl ?_ z0 trivial ?_
 ·kernel_rfl
 obtain ⟨v2,hc3,h⟩:=of_bind h
 refine AOps.cut [3,4,5] [6] (fun σ=>σ = ⟨[(8,tB v2)],[]⟩) ?_ fun σ' hJ=>?_
 ·refine AOps.split (fun b=>⟨[(0,tI v1),(5,tB b)],[]⟩) _ (fun hb=>?_) fun hb=>?_
  ·replace hc3:=of_true hc3 hb
   refine AOps.go [3,4,5] [] [] [8] 0 ⟨[(8,tB (decide (v1 ≤ (2147483648:Int))))],[]⟩ ?_ z0 trivial ?_
   ·kernel_rfl
   cases hc3
   exact AOps.nil rfl
  ·replace hc3:=of_false hc3 hb
   refine AOps.go [3,4,5] [] [] [8] 0 ⟨[(8,tB false)],[]⟩ ?_ z0 trivial ?_
   ·kernel_rfl
   cases hc3
   exact AOps.nil rfl
 subst hJ
 refine AOps.go [6] [] [] [2] 0 ⟨[(2,tB v2)],[]⟩ ?_ z0 trivial ?_
 ·kernel_rfl
 refine AOps.nil ?_
 refine AWp.ret ?_
 cases h
 exact ⟨.inr rfl,rfl⟩

noncomputable def f144 (v1:Int):Option Bool :=
 (f145 v1).bind fun v2=>some (!v2)

theorem f144_ok (v1:Int) {r:Bool} (h:f144 v1 = some r):ACall Tryz.prog 144 [.tv (.int .i64 v1)] [] (.tv (.bool r)) []:=by
 refine ACall.of1 (FF 6 0) Tryz.func144 rfl Tryz.ntmps144 Tryz.results144 (zz rfl) rfl rfl ?_
 refine AWp.seq ?_
 refine AWp.start [0] [] [] [0] 0 ⟨[(0,tI v1)],[]⟩ rfl ?_ z0 trivial ?_
 ·kernel_rfl
 refine AOps.nil ?_
 refine AWp.seq ?_
 refine AWp.start [0] [1,2,3] [] [3] 0 ⟨[(3,tI v1)],[]⟩ rfl ?_ z0 trivial ?_
 ·kernel_rfl
 obtain ⟨v2,hv2,h⟩:=of_bind h
 refine AOps.cons (AOne.callP (F:=(FF 6 0)) _ rfl rfl rfl _ rfl rfl _ _ rfl Tryz.call145 [tI v1] rfl rfl (f145_ok v1 hv2) rfl) ?_
 refine AOps.go [2,3] [] [] [2] 0 ⟨[(2,tB (!v2))],[]⟩ ?_ z0 trivial ?_
 ·kernel_rfl
 refine AOps.nil ?_
 refine AWp.ret ?_
 cases h
 exact ⟨.inr rfl,rfl⟩

noncomputable def f87_144_b1 (v1:List Int) (v2:Int):Option (Int ⊕ Out Int Unit) :=
 cond (decide (v2 < (v1.length:Int))) (if (0:Int) ≤ v2 ∧ v2 < (v1.length:Int) then (f144 (v1.getD v2.toNat default)).bind fun v3=>cond v3 (some (.inr (.ret v2))) (some (.inl (w64 (v2 + (1:Int))))) else none) (some (.inr (.go ())))

noncomputable def f87_144 (v1:List Int):Option Int :=
 (iter (fun s=>f87_144_b1 v1 s) (0:Int)).bind fun y=>match y with | .ret v4=>some v4 | .go _=>some (-1:Int)

theorem f87_144_ok (v1:List Int) {r:Int} (h:f87_144 v1 = some r):ACall Tryz.prog 87 [.tv (fzL 1 (cInt .i64) v1),.fn 144 []] [] (.tv (.int .i64 r)) []:=by
 refine ACall.of1 (FF 19 0) Tryz.func87 rfl Tryz.ntmps87 Tryz.results87 (zz rfl) rfl rfl ?_
 refine AWp.seq ?_
 refine AWp.start [0] [] [] [0,1] 0 ⟨[(0,q3 v1),(1,.fn 144 [])],[]⟩ rfl ?_ z0 trivial ?_
 ·kernel_rfl
 refine AOps.nil ?_
 refine AWp.seq ?_
 refine AWp.seq ?_
 refine AWp.start [0,1,2] [] [] [0,1,7,8] 0 ⟨[(0,q3 v1),(1,.fn 144 []),(7,tI (v1.length:Int)),(8,tI (0:Int))],[]⟩ rfl ?_ z0 trivial ?_
 ·kernel_rfl
 refine AOps.nil ?_
 refine AWp.block ?_
 obtain ⟨y,hy,h⟩:=of_bind h
 refine AWp.mono (AWp.loop (S:=Int) (Y:=Out Int Unit) (fun s=>⟨[(0,q3 v1),(1,.fn 144 []),(7,tI (v1.length:Int)),(8,tI s)],[]⟩) (fun s=>f87_144_b1 v1 s) (fun y e σ=>match y with | .ret r=>e = .ret ∧ σ = ⟨[(4,tI r)],[]⟩ | .go v=>e = .exit 0 ∧ σ = ⟨[],[]⟩) ?_ hy) ?_
 ·rintro v2 o h
  refine AWp.seq ?_
  refine AWp.start [0] [] [] [0,1,7,8,9] 0 ⟨[(0,q3 v1),(1,.fn 144 []),(7,tI (v1.length:Int)),(8,tI v2),(9,tB (decide (v2 < (v1.length:Int))))],[]⟩ rfl ?_ z0 trivial ?_
  ·kernel_rfl
  refine AOps.nil ?_
  refine AWp.seq ?_
  refine AWp.cond rfl (fun hb=>?_) fun hb=>?_
  ·replace h:=of_true h hb
   refine AWp.keepTo [0,1,7,8] 0 ⟨[(0,q3 v1),(1,.fn 144 []),(7,tI (v1.length:Int)),(8,tI v2)],[]⟩ ?_ z0 ?_
   ·kernel_rfl
   refine AWp.skip ?_
   refine AWp.seq ?_
   refine AWp.block ?_
   refine AWp.seq ?_
   refine AWp.start [0,1] [] [] [0,1,5,7,8] 0 ⟨[(0,q3 v1),(1,.fn 144 []),(5,tI v2),(7,tI (v1.length:Int)),(8,tI v2)],[]⟩ rfl ?_ z0 trivial ?_
   ·kernel_rfl
   refine AOps.nil ?_
   refine AWp.seq ?_
   obtain ⟨hg,h⟩:=of_guard h
   refine AWp.start [0,1,2,3,4] [5] [(0:Int) ≤ v2,v2 < (v1.length:Int)] [0,1,5,7,8,11,15] 0 ⟨[(0,q3 v1),(1,.fn 144 []),(5,tI v2),(7,tI (v1.length:Int)),(8,tI v2),(11,.fn 144 []),(15,tI (gD v1 v2))],[]⟩ rfl ?_ z0 ⟨hg.1,hg.2⟩ ?_
   ·kernel_rfl
   obtain ⟨v3,hv3,h⟩:=of_bind h
   refine AOps.cons (AOne.callP (F:=(FF 19 0)) _ rfl rfl rfl _ rfl rfl _ _ rfl Tryz.call144 [tI (gD v1 v2)] rfl rfl (f144_ok (gD v1 v2) hv3) rfl) ?_
   refine AOps.keepTo [0,1,5,7,8,16] 0 ⟨[(0,q3 v1),(1,.fn 144 []),(5,tI v2),(7,tI (v1.length:Int)),(8,tI v2),(16,tB v3)],[]⟩ ?_ z0 ?_
   ·kernel_rfl
   refine AOps.nil ?_
   refine AWp.cond rfl (fun hb=>?_) fun hb=>?_
   ·replace h:=of_true h hb
    refine AWp.keepTo [5] 0 ⟨[(5,tI v2)],[]⟩ ?_ z0 ?_
    ·kernel_rfl
    refine AWp.seq ?_
    refine AWp.start [0,1] [] [] [4] 0 ⟨[(4,tI v2)],[]⟩ rfl ?_ z0 trivial ?_
    ·kernel_rfl
    refine AOps.nil ?_
    refine AWp.ret ?_
    cases h
    exact Or.inr ⟨_,rfl,by simp,rfl,rfl⟩
   ·replace h:=of_false h hb
    refine AWp.keepTo [0,1,7,8] 0 ⟨[(0,q3 v1),(1,.fn 144 []),(7,tI (v1.length:Int)),(8,tI v2)],[]⟩ ?_ z0 ?_
    ·kernel_rfl
    refine AWp.skip ?_
    refine AWp.start [0,1] [] [] [0,1,7,8] 0 ⟨[(0,q3 v1),(1,.fn 144 []),(7,tI (v1.length:Int)),(8,tI (w64 (v2 + (1:Int))))],[]⟩ rfl ?_ z0 trivial ?_
    ·kernel_rfl
    refine AOps.nil ?_
    cases h
    exact Or.inl ⟨_,rfl,rfl,rfl⟩
  ·replace h:=of_false h hb
   refine AWp.keepTo [] 0 ⟨[],[]⟩ ?_ z0 ?_
   ·kernel_rfl
   refine AWp.exit ?_
   cases h
   exact Or.inr ⟨_,rfl,by simp,rfl,rfl⟩
 ·intro e σ hp
  rcases y with v4 | _
  ·obtain ⟨rfl,rfl⟩:=hp
   cases h
   exact ⟨.inr rfl,rfl⟩
  ·obtain ⟨rfl,rfl⟩:=hp
   refine AWp.seq ?_
   refine AWp.start [0] [] [] [4] 0 ⟨[(4,tI (-1:Int))],[]⟩ rfl ?_ z0 trivial ?_
   ·kernel_rfl
   refine AOps.nil ?_
   refine AWp.ret ?_
   cases h
   exact ⟨.inr rfl,rfl⟩

noncomputable def f49_144 (v1:List Int):Option Bool :=
 (f87_144 v1).bind fun v2=>some (decide (v2 ≥ (0:Int)))

theorem f49_144_ok (v1:List Int) {r:Bool} (h:f49_144 v1 = some r):ACall Tryz.prog 49 [.tv (fzL 1 (cInt .i64) v1),.fn 144 []] [] (.tv (.bool r)) []:=by
 refine ACall.of1 (FF 9 0) Tryz.func49 rfl Tryz.ntmps49 Tryz.results49 (zz rfl) rfl rfl ?_
 refine AWp.seq ?_
 refine AWp.start [0] [] [] [0,1] 0 ⟨[(0,q3 v1),(1,.fn 144 [])],[]⟩ rfl ?_ z0 trivial ?_
 ·kernel_rfl
 refine AOps.nil ?_
 refine AWp.seq ?_
 refine AWp.start [0,1] [2,3,4] [] [5,6] 0 ⟨[(5,q3 v1),(6,.fn 144 [])],[]⟩ rfl ?_ z0 trivial ?_
 ·kernel_rfl
 obtain ⟨v2,hv2,h⟩:=of_bind h
 refine AOps.cons (AOne.callP (F:=(FF 9 0)) _ rfl rfl rfl _ rfl rfl _ _ rfl Tryz.call87 [q3 v1,.fn 144 []] rfl rfl (f87_144_ok v1 hv2) rfl) ?_
 refine AOps.go [3,4] [] [] [4] 0 ⟨[(4,tB (decide (v2 ≥ (0:Int))))],[]⟩ ?_ z0 trivial ?_
 ·kernel_rfl
 refine AOps.nil ?_
 refine AWp.ret ?_
 cases h
 exact ⟨.inr rfl,rfl⟩

noncomputable def f146_b1 (v1:T148) (v2:Int) (v3:Int) (v4:Int):Option ((Int × Int × Int) ⊕ Out (Int × Int) (Int × Int)) :=
 cond (decide (v4 < (v1.f2.length:Int))) (if (0:Int) ≤ v4 ∧ v4 < (v1.f2.length:Int) then if (0:Int) ≤ v4 ∧ v4 < (v1.f1.length:Int) then some (.inl (w64 (v2 + (if (0:Int) < w64 ((v1.f2.getD v4.toNat default) * (w64 ((v1.f1.getD v4.toNat default) - (1:Int)))) then (0:Int) else w64 ((v1.f2.getD v4.toNat default) * (w64 ((v1.f1.getD v4.toNat default) - (1:Int)))))),w64 (v3 + (if (0:Int) > w64 ((v1.f2.getD v4.toNat default) * (w64 ((v1.f1.getD v4.toNat default) - (1:Int)))) then (0:Int) else w64 ((v1.f2.getD v4.toNat default) * (w64 ((v1.f1.getD v4.toNat default) - (1:Int)))))),w64 (v4 + (1:Int)))) else none else none) (some (.inr (.go (v2,v3))))

noncomputable def f146 (v1:T148):Option (Int × Int) :=
 (iter (fun s=>f146_b1 v1 s.1 s.2.1 s.2.2) (v1.f0,v1.f0,(0:Int))).bind fun y=>match y with | .ret v7=>some (v7.1,v7.2) | .go (v5,v6)=>some (v5,v6)

theorem f146_ok (v1:T148) {r:Int × Int} (h:f146 v1 = some r):ACall Tryz.prog 146 [.agg [.int .i64 v1.f0,fzL 1 (cInt .i64) v1.f1,fzL 1 (cInt .i64) v1.f2]] [] (.tup [.tv (.int .i64 r.1),.tv (.int .i64 r.2)]) []:=by
 refine ACall.ofN (FF 38 0) (rs:=[2,3]) (env:=[(2,tI r.1),(3,tI r.2)]) Tryz.func146 rfl Tryz.ntmps146 Tryz.results146 (by decide) (by decide) rfl (zz rfl) rfl (get_ofN _ _ _ rfl) (ok_ofN _ rfl) ?_
 refine AWp.seq ?_
 refine AWp.start [0,1,2] [] [] [1] 1 ⟨[(1,.pc 0 0)],[.cells 149 [.int .i64 v1.f0,k0 v1.f1,k0 v1.f2]]⟩ rfl ?_ z0 trivial ?_
 ·kernel_rfl
 refine AOps.nil ?_
 refine AWp.seq ?_
 refine AWp.pin 0 rfl rfl ?_
 refine AWp.keepTo [1] 0 ⟨[(1,.rp [.int .i64 v1.f0,k0 v1.f1,k0 v1.f2])],[]⟩ ?_ z0 ?_
 ·kernel_rfl
 refine AWp.draw FFm _ (n:=6) rfl (ls:=#[n1,n1,n1,n1,n1,n1]) rfl ?_ (fun _ h=>h)
 refine AAny.go (by kernel_rfl) [0,1,2,3,4,5] (fuel':=0) rfl [] #[y1,y1,y1,y1,y1,y1] [1,2,3] 0 ⟨[(1,.rp [.int .i64 v1.f0,k0 v1.f1,k0 v1.f2]),(2,tI v1.f0),(3,tI v1.f0)],[]⟩ ?_ z0 trivial ?_
 ·kernel_rfl
 refine AAny.keepTo [1,2,3] 0 ⟨[(1,.rp [.int .i64 v1.f0,k0 v1.f1,k0 v1.f2]),(2,tI v1.f0),(3,tI v1.f0)],[]⟩ _ ?_ rfl z0 (AAny.done (by kernel_rfl) ?_)
 ·kernel_rfl
 refine AWp.seq ?_
 refine AWp.seq ?_
 refine AWp.start [0,1,2,3] [] [] [1,2,3,12,13,14] 0 ⟨[(1,.rp [.int .i64 v1.f0,k0 v1.f1,k0 v1.f2]),(2,tI v1.f0),(3,tI v1.f0),(12,q3 v1.f2),(13,tI (v1.f2.length:Int)),(14,tI (0:Int))],[]⟩ rfl ?_ z0 trivial ?_
 ·kernel_rfl
 refine AOps.nil ?_
 refine AWp.block ?_
 obtain ⟨y,hy,h⟩:=of_bind h
 refine AWp.mono (AWp.loop (S:=Int × Int × Int) (Y:=Out (Int × Int) (Int × Int)) (fun s=>⟨[(1,.rp [.int .i64 v1.f0,k0 v1.f1,k0 v1.f2]),(2,tI s.1),(3,tI s.2.1),(12,q3 v1.f2),(13,tI (v1.f2.length:Int)),(14,tI s.2.2)],[]⟩) (fun s=>f146_b1 v1 s.1 s.2.1 s.2.2) (fun y e σ=>match y with | .ret r=>e = .ret ∧ σ = ⟨[(2,tI r.1),(3,tI r.2)],[]⟩ | .go v=>e = .exit 0 ∧ σ = ⟨[(2,tI v.1),(3,tI v.2)],[]⟩) ?_ hy) ?_
 ·rintro ⟨v2,v3,v4⟩ o h
  refine AWp.seq ?_
  refine AWp.start [0] [] [] [1,2,3,12,13,14,15] 0 ⟨[(1,.rp [.int .i64 v1.f0,k0 v1.f1,k0 v1.f2]),(2,tI v2),(3,tI v3),(12,q3 v1.f2),(13,tI (v1.f2.length:Int)),(14,tI v4),(15,tB (decide (v4 < (v1.f2.length:Int))))],[]⟩ rfl ?_ z0 trivial ?_
  ·kernel_rfl
  refine AOps.nil ?_
  refine AWp.seq ?_
  refine AWp.cond rfl (fun hb=>?_) fun hb=>?_
  ·replace h:=of_true h hb
   refine AWp.keepTo [1,2,3,12,13,14] 0 ⟨[(1,.rp [.int .i64 v1.f0,k0 v1.f1,k0 v1.f2]),(2,tI v2),(3,tI v3),(12,q3 v1.f2),(13,tI (v1.f2.length:Int)),(14,tI v4)],[]⟩ ?_ z0 ?_
   ·kernel_rfl
   refine AWp.skip ?_
   refine AWp.seq ?_
   refine AWp.block ?_
   refine AWp.seq ?_
   obtain ⟨hg,h⟩:=of_guard h
   refine AWp.start [0,1,2,3,4] [] [(0:Int) ≤ v4,v4 < (v1.f2.length:Int)] [1,2,3,4,5,12,13,14] 0 ⟨[(1,.rp [.int .i64 v1.f0,k0 v1.f1,k0 v1.f2]),(2,tI v2),(3,tI v3),(4,tI v4),(5,tI (gD v1.f2 v4)),(12,q3 v1.f2),(13,tI (v1.f2.length:Int)),(14,tI v4)],[]⟩ rfl ?_ z0 ⟨hg.1,hg.2⟩ ?_
   ·kernel_rfl
   refine AOps.nil ?_
   refine AWp.seq ?_
   obtain ⟨hg,h⟩:=of_guard h
   refine AWp.start [0,1,2,3,4,5,6,7,8] [] [(0:Int) ≤ v4,v4 < (v1.f1.length:Int)] [1,2,3,6,12,13,14] 0 ⟨[(1,.rp [.int .i64 v1.f0,k0 v1.f1,k0 v1.f2]),(2,tI v2),(3,tI v3),(6,tI (w64 ((gD v1.f2 v4) * (w64 ((gD v1.f1 v4) - (1:Int)))))),(12,q3 v1.f2),(13,tI (v1.f2.length:Int)),(14,tI v4)],[]⟩ rfl ?_ z0 ⟨hg.1,hg.2⟩ ?_
   ·kernel_rfl
   refine AOps.nil ?_
   refine AWp.seq ?_
   refine AWp.start [0,1,2,3,4] [] [] [1,2,3,6,12,13,14] 0 ⟨[(1,.rp [.int .i64 v1.f0,k0 v1.f1,k0 v1.f2]),(2,tI (w64 (v2 + (if (0:Int) < w64 ((gD v1.f2 v4) * (w64 ((gD v1.f1 v4) - (1:Int)))) then (0:Int) else w64 ((gD v1.f2 v4) * (w64 ((gD v1.f1 v4) - (1:Int)))))))),(3,tI v3),(6,tI (w64 ((gD v1.f2 v4) * (w64 ((gD v1.f1 v4) - (1:Int)))))),(12,q3 v1.f2),(13,tI (v1.f2.length:Int)),(14,tI v4)],[]⟩ rfl ?_ z0 trivial ?_
   ·kernel_rfl
   refine AOps.nil ?_
   refine AWp.start [0,1,2,3,4] [] [] [1,2,3,12,13,14] 0 ⟨[(1,.rp [.int .i64 v1.f0,k0 v1.f1,k0 v1.f2]),(2,tI (w64 (v2 + (if (0:Int) < w64 ((gD v1.f2 v4) * (w64 ((gD v1.f1 v4) - (1:Int)))) then (0:Int) else w64 ((gD v1.f2 v4) * (w64 ((gD v1.f1 v4) - (1:Int)))))))),(3,tI (w64 (v3 + (if (0:Int) > w64 ((gD v1.f2 v4) * (w64 ((gD v1.f1 v4) - (1:Int)))) then (0:Int) else w64 ((gD v1.f2 v4) * (w64 ((gD v1.f1 v4) - (1:Int)))))))),(12,q3 v1.f2),(13,tI (v1.f2.length:Int)),(14,tI v4)],[]⟩ rfl ?_ z0 trivial ?_
   ·kernel_rfl
   refine AOps.nil ?_
   refine AWp.start [0,1] [] [] [1,2,3,12,13,14] 0 ⟨[(1,.rp [.int .i64 v1.f0,k0 v1.f1,k0 v1.f2]),(2,tI (w64 (v2 + (if (0:Int) < w64 ((gD v1.f2 v4) * (w64 ((gD v1.f1 v4) - (1:Int)))) then (0:Int) else w64 ((gD v1.f2 v4) * (w64 ((gD v1.f1 v4) - (1:Int)))))))),(3,tI (w64 (v3 + (if (0:Int) > w64 ((gD v1.f2 v4) * (w64 ((gD v1.f1 v4) - (1:Int)))) then (0:Int) else w64 ((gD v1.f2 v4) * (w64 ((gD v1.f1 v4) - (1:Int)))))))),(12,q3 v1.f2),(13,tI (v1.f2.length:Int)),(14,tI (w64 (v4 + (1:Int))))],[]⟩ rfl ?_ z0 trivial ?_
   ·kernel_rfl
   refine AOps.nil ?_
   cases h
   exact Or.inl ⟨_,rfl,rfl,rfl⟩
  ·replace h:=of_false h hb
   refine AWp.keepTo [2,3] 0 ⟨[(2,tI v2),(3,tI v3)],[]⟩ ?_ z0 ?_
   ·kernel_rfl
   refine AWp.exit ?_
   cases h
   exact Or.inr ⟨_,rfl,by simp,rfl,rfl⟩
 ·intro e σ hp
  rcases y with v7 | ⟨v5,v6⟩
  ·obtain ⟨rfl,rfl⟩:=hp
   cases h
   exact ⟨.inr rfl,rfl⟩
  ·obtain ⟨rfl,rfl⟩:=hp
   refine AWp.seq ?_
   refine AWp.start [0,1,2,3] [] [] [2,3] 0 ⟨[(2,tI v5),(3,tI v6)],[]⟩ rfl ?_ z0 trivial ?_
   ·kernel_rfl
   refine AOps.nil ?_
   refine AWp.ret ?_
   cases h
   exact ⟨.inr rfl,rfl⟩

noncomputable def f117 (v1:T148):Option Bool :=
 (f116 v1.f1).bind fun v2=>(cond (decide (v2 < (0:Int))) (some true) (some ((v1.f2.length:Int) != (v1.f1.length:Int)))).bind fun v3=>(cond v3 (some true) (some (decide (v1.f0 < (0:Int))))).bind fun v4=>(cond v4 (some true) ((f49_144 v1.f2).bind fun v6=>some v6)).bind fun v5=>cond v5 (some false) (cond (v2 == (0:Int)) (some true) (cond (decide (v1.f0 > (2147483648:Int))) (some false) ((f146 v1).bind fun v7=>(cond (decide (v7.1 ≥ (0:Int))) (some (decide (v7.2 ≤ (2147483648:Int)))) (some false)).bind fun v8=>some v8)))

theorem f117_ok (v1:T148) {r:Bool} (h:f117 v1 = some r):ACall Tryz.prog 117 [.agg [.int .i64 v1.f0,fzL 1 (cInt .i64) v1.f1,fzL 1 (cInt .i64) v1.f2]] [] (.tv (.bool r)) []:=by
 refine ACall.of1 (FF 46 0) Tryz.func117 rfl Tryz.ntmps117 Tryz.results117 (zz rfl) rfl rfl ?_
 refine AWp.seq ?_
 refine AWp.start [0,1] [] [] [1] 1 ⟨[(1,.pc 0 0)],[.cells 149 [.int .i64 v1.f0,k0 v1.f1,k0 v1.f2]]⟩ rfl ?_ z0 trivial ?_
 ·kernel_rfl
 refine AOps.nil ?_
 refine AWp.seq ?_
 refine AWp.pin 0 rfl rfl ?_
 refine AWp.keepTo [1] 0 ⟨[(1,.rp [.int .i64 v1.f0,k0 v1.f1,k0 v1.f2])],[]⟩ ?_ z0 ?_
 ·kernel_rfl
 refine AWp.start [0,1] [2,3] [] [1,7] 0 ⟨[(1,.rp [.int .i64 v1.f0,k0 v1.f1,k0 v1.f2]),(7,q3 v1.f1)],[]⟩ rfl ?_ z0 trivial ?_
 ·kernel_rfl
 obtain ⟨v2,hv2,h⟩:=of_bind h
 refine AOps.cons (AOne.callP (F:=(FF 46 0)) _ rfl rfl rfl _ rfl rfl _ _ rfl Tryz.call116 [q3 v1.f1] rfl rfl (f116_ok v1.f1 hv2) rfl) ?_
 refine AOps.go [3] [] [] [1,3] 0 ⟨[(1,.rp [.int .i64 v1.f0,k0 v1.f1,k0 v1.f2]),(3,tI v2)],[]⟩ ?_ z0 trivial ?_
 ·kernel_rfl
 refine AOps.nil ?_
 refine AWp.seq ?_
 refine AWp.seq ?_
 refine AWp.start [0,1,2] [3,4,5,6,7,8,9,10,11,12,13,14,15,16,17,18,19,20] [] [1,3,11] 0 ⟨[(1,.rp [.int .i64 v1.f0,k0 v1.f1,k0 v1.f2]),(3,tI v2),(11,tB (decide (v2 < (0:Int))))],[]⟩ rfl ?_ z0 trivial ?_
 ·kernel_rfl
 obtain ⟨v3,hc3,h⟩:=of_bind h
 refine AOps.cut [3,4,5,6,7,8,9,10] [11,12,13,14,15,16,17,18,19,20] (fun σ=>σ = ⟨[(1,.rp [.int .i64 v1.f0,k0 v1.f1,k0 v1.f2]),(3,tI v2),(19,tB v3)],[]⟩) ?_ fun σ' hJ=>?_
 ·refine AOps.split (fun b=>⟨[(1,.rp [.int .i64 v1.f0,k0 v1.f1,k0 v1.f2]),(3,tI v2),(11,tB b)],[]⟩) _ (fun hb=>?_) fun hb=>?_
  ·replace hc3:=of_true hc3 hb
   refine AOps.go [3,4,5,6,7,8,9,10] [] [] [1,3,19] 0 ⟨[(1,.rp [.int .i64 v1.f0,k0 v1.f1,k0 v1.f2]),(3,tI v2),(19,tB true)],[]⟩ ?_ z0 trivial ?_
   ·kernel_rfl
   cases hc3
   exact AOps.nil rfl
  ·replace hc3:=of_false hc3 hb
   refine AOps.go [3,4,5,6,7,8,9,10] [] [] [1,3,19] 0 ⟨[(1,.rp [.int .i64 v1.f0,k0 v1.f1,k0 v1.f2]),(3,tI v2),(19,tB ((v1.f2.length:Int) != (v1.f1.length:Int)))],[]⟩ ?_ z0 trivial ?_
   ·kernel_rfl
   cases hc3
   exact AOps.nil rfl
 subst hJ
 refine AOps.go [11] [12,13,14,15,16,17,18,19,20] [] [1,3,20] 0 ⟨[(1,.rp [.int .i64 v1.f0,k0 v1.f1,k0 v1.f2]),(3,tI v2),(20,tB v3)],[]⟩ ?_ z0 trivial ?_
 ·kernel_rfl
 obtain ⟨v4,hc12,h⟩:=of_bind h
 refine AOps.cut [12,13,14,15] [16,17,18,19,20] (fun σ=>σ = ⟨[(1,.rp [.int .i64 v1.f0,k0 v1.f1,k0 v1.f2]),(3,tI v2),(24,tB v4)],[]⟩) ?_ fun σ' hJ=>?_
 ·refine AOps.split (fun b=>⟨[(1,.rp [.int .i64 v1.f0,k0 v1.f1,k0 v1.f2]),(3,tI v2),(20,tB b)],[]⟩) _ (fun hb=>?_) fun hb=>?_
  ·replace hc12:=of_true hc12 hb
   refine AOps.go [12,13,14,15] [] [] [1,3,24] 0 ⟨[(1,.rp [.int .i64 v1.f0,k0 v1.f1,k0 v1.f2]),(3,tI v2),(24,tB true)],[]⟩ ?_ z0 trivial ?_
   ·kernel_rfl
   cases hc12
   exact AOps.nil rfl
  ·replace hc12:=of_false hc12 hb
   refine AOps.go [12,13,14,15] [] [] [1,3,24] 0 ⟨[(1,.rp [.int .i64 v1.f0,k0 v1.f1,k0 v1.f2]),(3,tI v2),(24,tB (decide (v1.f0 < (0:Int))))],[]⟩ ?_ z0 trivial ?_
   ·kernel_rfl
   cases hc12
   exact AOps.nil rfl
 subst hJ
 refine AOps.go [16] [17,18,19,20] [] [1,3,25] 0 ⟨[(1,.rp [.int .i64 v1.f0,k0 v1.f1,k0 v1.f2]),(3,tI v2),(25,tB v4)],[]⟩ ?_ z0 trivial ?_
 ·kernel_rfl
 obtain ⟨v5,hc17,h⟩:=of_bind h
 refine AOps.cut [17,18,19,20] [] (fun σ=>σ = ⟨[(1,.rp [.int .i64 v1.f0,k0 v1.f1,k0 v1.f2]),(3,tI v2),(29,tB v5)],[]⟩) ?_ fun σ' hJ=>?_
 ·refine AOps.split (fun b=>⟨[(1,.rp [.int .i64 v1.f0,k0 v1.f1,k0 v1.f2]),(3,tI v2),(25,tB b)],[]⟩) _ (fun hb=>?_) fun hb=>?_
  ·replace hc17:=of_true hc17 hb
   refine AOps.go [17,18,19,20] [] [] [1,3,29] 0 ⟨[(1,.rp [.int .i64 v1.f0,k0 v1.f1,k0 v1.f2]),(3,tI v2),(29,tB true)],[]⟩ ?_ z0 trivial ?_
   ·kernel_rfl
   cases hc17
   exact AOps.nil rfl
  ·replace hc17:=of_false hc17 hb
   refine AOps.go [17,18] [19,20] [] [1,3,25,27] 0 ⟨[(1,.rp [.int .i64 v1.f0,k0 v1.f1,k0 v1.f2]),(3,tI v2),(25,tB false),(27,q3 v1.f2)],[]⟩ ?_ z0 trivial ?_
   ·kernel_rfl
   obtain ⟨v6,hv6,hc17⟩:=of_bind hc17
   refine AOps.cons (AOne.callP (F:=(FF 46 0)) _ rfl rfl rfl _ rfl rfl _ _ rfl Tryz.call49 [q3 v1.f2,.fn 144 []] rfl rfl (f49_144_ok v1.f2 hv6) rfl) ?_
   refine AOps.go [20] [] [] [1,3,29] 0 ⟨[(1,.rp [.int .i64 v1.f0,k0 v1.f1,k0 v1.f2]),(3,tI v2),(29,tB v6)],[]⟩ ?_ z0 trivial ?_
   ·kernel_rfl
   cases hc17
   exact AOps.nil rfl
 subst hJ
 refine AOps.nil ?_
 refine AWp.cond rfl (fun hb=>?_) fun hb=>?_
 ·replace h:=of_true h hb
  refine AWp.keepTo [] 0 ⟨[],[]⟩ ?_ z0 ?_
  ·kernel_rfl
  refine AWp.seq ?_
  refine AWp.start [0] [] [] [2] 0 ⟨[(2,tB false)],[]⟩ rfl ?_ z0 trivial ?_
  ·kernel_rfl
  refine AOps.nil ?_
  refine AWp.ret ?_
  cases h
  exact ⟨.inr rfl,rfl⟩
 ·replace h:=of_false h hb
  refine AWp.keepTo [1,3] 0 ⟨[(1,.rp [.int .i64 v1.f0,k0 v1.f1,k0 v1.f2]),(3,tI v2)],[]⟩ ?_ z0 ?_
  ·kernel_rfl
  refine AWp.skip ?_
  refine AWp.seq ?_
  refine AWp.seq ?_
  refine AWp.start [0,1] [] [] [1,31] 0 ⟨[(1,.rp [.int .i64 v1.f0,k0 v1.f1,k0 v1.f2]),(31,tB (v2 == (0:Int)))],[]⟩ rfl ?_ z0 trivial ?_
  ·kernel_rfl
  refine AOps.nil ?_
  refine AWp.cond rfl (fun hb=>?_) fun hb=>?_
  ·replace h:=of_true h hb
   refine AWp.keepTo [] 0 ⟨[],[]⟩ ?_ z0 ?_
   ·kernel_rfl
   refine AWp.seq ?_
   refine AWp.start [0] [] [] [2] 0 ⟨[(2,tB true)],[]⟩ rfl ?_ z0 trivial ?_
   ·kernel_rfl
   refine AOps.nil ?_
   refine AWp.ret ?_
   cases h
   exact ⟨.inr rfl,rfl⟩
  ·replace h:=of_false h hb
   refine AWp.keepTo [1] 0 ⟨[(1,.rp [.int .i64 v1.f0,k0 v1.f1,k0 v1.f2])],[]⟩ ?_ z0 ?_
   ·kernel_rfl
   refine AWp.skip ?_
   refine AWp.seq ?_
   refine AWp.seq ?_
   refine AWp.start [0,1,2] [] [] [1,34] 0 ⟨[(1,.rp [.int .i64 v1.f0,k0 v1.f1,k0 v1.f2]),(34,tB (decide (v1.f0 > (2147483648:Int))))],[]⟩ rfl ?_ z0 trivial ?_
   ·kernel_rfl
   refine AOps.nil ?_
   refine AWp.cond rfl (fun hb=>?_) fun hb=>?_
   ·replace h:=of_true h hb
    refine AWp.keepTo [] 0 ⟨[],[]⟩ ?_ z0 ?_
    ·kernel_rfl
    refine AWp.seq ?_
    refine AWp.start [0] [] [] [2] 0 ⟨[(2,tB false)],[]⟩ rfl ?_ z0 trivial ?_
    ·kernel_rfl
    refine AOps.nil ?_
    refine AWp.ret ?_
    cases h
    exact ⟨.inr rfl,rfl⟩
   ·replace h:=of_false h hb
    refine AWp.keepTo [1] 0 ⟨[(1,.rp [.int .i64 v1.f0,k0 v1.f1,k0 v1.f2])],[]⟩ ?_ z0 ?_
    ·kernel_rfl
    refine AWp.skip ?_
    refine AWp.seq ?_
    refine AWp.start [0] [1,2,3,4,5,6] [] [36] 0 ⟨[(36,.agg [.int .i64 v1.f0,k0 v1.f1,k0 v1.f2])],[]⟩ rfl ?_ z0 trivial ?_
    ·kernel_rfl
    obtain ⟨v7,hv7,h⟩:=of_bind h
    refine AOps.cons (AOne.callP (F:=(FF 46 0)) _ rfl rfl rfl _ rfl rfl _ _ rfl Tryz.call146 [.agg [.int .i64 v1.f0,k0 v1.f1,k0 v1.f2]] rfl rfl (f146_ok v1 hv7) rfl) ?_
    refine AOps.go [2,3,4,5,6] [] [] [4,5] 0 ⟨[(4,tI v7.1),(5,tI v7.2)],[]⟩ ?_ z0 trivial ?_
    ·kernel_rfl
    refine AOps.nil ?_
    refine AWp.seq ?_
    refine AWp.start [0,1,2] [3,4,5,6] [] [5,42] 0 ⟨[(5,tI v7.2),(42,tB (decide (v7.1 ≥ (0:Int))))],[]⟩ rfl ?_ z0 trivial ?_
    ·kernel_rfl
    obtain ⟨v8,hc3,h⟩:=of_bind h
    refine AOps.cut [3,4,5] [6] (fun σ=>σ = ⟨[(45,tB v8)],[]⟩) ?_ fun σ' hJ=>?_
    ·refine AOps.split (fun b=>⟨[(5,tI v7.2),(42,tB b)],[]⟩) _ (fun hb=>?_) fun hb=>?_
     ·replace hc3:=of_true hc3 hb
      refine AOps.go [3,4,5] [] [] [45] 0 ⟨[(45,tB (decide (v7.2 ≤ (2147483648:Int))))],[]⟩ ?_ z0 trivial ?_
      ·kernel_rfl
      cases hc3
      exact AOps.nil rfl
     ·replace hc3:=of_false hc3 hb
      refine AOps.go [3,4,5] [] [] [45] 0 ⟨[(45,tB false)],[]⟩ ?_ z0 trivial ?_
      ·kernel_rfl
      cases hc3
      exact AOps.nil rfl
    subst hJ
    refine AOps.go [6] [] [] [2] 0 ⟨[(2,tB v8)],[]⟩ ?_ z0 trivial ?_
    ·kernel_rfl
    refine AOps.nil ?_
    refine AWp.ret ?_
    cases h
    exact ⟨.inr rfl,rfl⟩

noncomputable def f92 (v1:T148):Option (Int × Int) :=
 (f117 v1).bind fun v2=>cond (!v2) (some ((0:Int),(2:Int))) ((f116 v1.f1).bind fun v3=>some (v3,(0:Int)))

theorem f92_ok (v1:T148) {r:Int × Int} (h:f92 v1 = some r):ACall Tryz.prog 92 [.agg [.int .i64 v1.f0,fzL 1 (cInt .i64) v1.f1,fzL 1 (cInt .i64) v1.f2]] [] (.tup [.tv (.int .i64 r.1),.tv (.int .i64 r.2)]) []:=by
 refine ACall.ofN (FF 10 0) (rs:=[2,3]) (env:=[(2,tI r.1),(3,tI r.2)]) Tryz.func92 rfl Tryz.ntmps92 Tryz.results92 (by decide) (by decide) rfl (zz rfl) rfl (get_ofN _ _ _ rfl) (ok_ofN _ rfl) ?_
 refine AWp.seq ?_
 refine AWp.start [0,1,2] [] [] [1] 1 ⟨[(1,.pc 0 0)],[.cells 149 [.int .i64 v1.f0,k0 v1.f1,k0 v1.f2]]⟩ rfl ?_ z0 trivial ?_
 ·kernel_rfl
 refine AOps.nil ?_
 refine AWp.seq ?_
 refine AWp.seq ?_
 refine AWp.pin 0 rfl rfl ?_
 refine AWp.keepTo [1] 0 ⟨[(1,.rp [.int .i64 v1.f0,k0 v1.f1,k0 v1.f2])],[]⟩ ?_ z0 ?_
 ·kernel_rfl
 refine AWp.start [0] [1,2] [] [1,4] 0 ⟨[(1,.rp [.int .i64 v1.f0,k0 v1.f1,k0 v1.f2]),(4,.agg [.int .i64 v1.f0,k0 v1.f1,k0 v1.f2])],[]⟩ rfl ?_ z0 trivial ?_
 ·kernel_rfl
 obtain ⟨v2,hv2,h⟩:=of_bind h
 refine AOps.cons (AOne.callP (F:=(FF 10 0)) _ rfl rfl rfl _ rfl rfl _ _ rfl Tryz.call117 [.agg [.int .i64 v1.f0,k0 v1.f1,k0 v1.f2]] rfl rfl (f117_ok v1 hv2) rfl) ?_
 refine AOps.go [2] [] [] [1,6] 0 ⟨[(1,.rp [.int .i64 v1.f0,k0 v1.f1,k0 v1.f2]),(6,tB (!v2))],[]⟩ ?_ z0 trivial ?_
 ·kernel_rfl
 refine AOps.nil ?_
 refine AWp.cond rfl (fun hb=>?_) fun hb=>?_
 ·replace h:=of_true h hb
  refine AWp.keepTo [] 0 ⟨[],[]⟩ ?_ z0 ?_
  ·kernel_rfl
  refine AWp.seq ?_
  refine AWp.start [0,1] [] [] [2,3] 0 ⟨[(2,tI (0:Int)),(3,tI (2:Int))],[]⟩ rfl ?_ z0 trivial ?_
  ·kernel_rfl
  refine AOps.nil ?_
  refine AWp.ret ?_
  cases h
  exact ⟨.inr rfl,rfl⟩
 ·replace h:=of_false h hb
  refine AWp.keepTo [1] 0 ⟨[(1,.rp [.int .i64 v1.f0,k0 v1.f1,k0 v1.f2])],[]⟩ ?_ z0 ?_
  ·kernel_rfl
  refine AWp.skip ?_
  refine AWp.seq ?_
  refine AWp.start [0,1] [2,3,4] [] [8] 0 ⟨[(8,q3 v1.f1)],[]⟩ rfl ?_ z0 trivial ?_
  ·kernel_rfl
  obtain ⟨v3,hv3,h⟩:=of_bind h
  refine AOps.cons (AOne.callP (F:=(FF 10 0)) _ rfl rfl rfl _ rfl rfl _ _ rfl Tryz.call116 [q3 v1.f1] rfl rfl (f116_ok v1.f1 hv3) rfl) ?_
  refine AOps.go [3,4] [] [] [2,3] 0 ⟨[(2,tI v3),(3,tI (0:Int))],[]⟩ ?_ z0 trivial ?_
  ·kernel_rfl
  refine AOps.nil ?_
  refine AWp.ret ?_
  cases h
  exact ⟨.inr rfl,rfl⟩

noncomputable def f61 (v1:List Int):Option Int :=
 (f91 v1).bind fun v2=>cond (v2.2 != (0:Int)) (some (-1:Int)) ((f92 v2.1).bind fun v3=>some v3.1)

theorem f61_ok (v1:List Int) {r:Int} (h:f61 v1 = some r):ACall Tryz.prog 61 [.tv (fzL 1 (cInt .i64) v1)] [] (.tv (.int .i64 r)) []:=by
 refine ACall.of1 (FF 20 0) Tryz.func61 rfl Tryz.ntmps61 Tryz.results61 (zz rfl) rfl rfl ?_
 refine AWp.seq ?_
 refine AWp.start [0] [] [] [0] 0 ⟨[(0,q3 v1)],[]⟩ rfl ?_ z0 trivial ?_
 ·kernel_rfl
 refine AOps.nil ?_
 refine AWp.seq ?_
 refine AWp.start [0] [1,2,3,4,5,6,7] [] [8] 0 ⟨[(8,q3 v1)],[]⟩ rfl ?_ z0 trivial ?_
 ·kernel_rfl
 obtain ⟨v2,hv2,h⟩:=of_bind h
 refine AOps.cons (AOne.callP (F:=(FF 20 0)) _ rfl rfl rfl _ rfl rfl _ _ rfl Tryz.call91 [q3 v1] rfl rfl (f91_ok v1 hv2) rfl) ?_
 refine AOps.go [2,3,4,5,6,7] [] [] [3,4] 1 ⟨[(3,.pc 0 0),(4,tI v2.2)],[.cells 149 [.int .i64 v2.1.f0,k0 v2.1.f1,k0 v2.1.f2]]⟩ ?_ z0 trivial ?_
 ·kernel_rfl
 refine AOps.nil ?_
 refine AWp.seq ?_
 refine AWp.seq ?_
 refine AWp.pin 0 rfl rfl ?_
 refine AWp.keepTo [3,4] 0 ⟨[(3,.rp [.int .i64 v2.1.f0,k0 v2.1.f1,k0 v2.1.f2]),(4,tI v2.2)],[]⟩ ?_ z0 ?_
 ·kernel_rfl
 refine AWp.start [0,1] [] [] [3,13] 0 ⟨[(3,.rp [.int .i64 v2.1.f0,k0 v2.1.f1,k0 v2.1.f2]),(13,tB (v2.2 != (0:Int)))],[]⟩ rfl ?_ z0 trivial ?_
 ·kernel_rfl
 refine AOps.nil ?_
 refine AWp.cond rfl (fun hb=>?_) fun hb=>?_
 ·replace h:=of_true h hb
  refine AWp.keepTo [] 0 ⟨[],[]⟩ ?_ z0 ?_
  ·kernel_rfl
  refine AWp.seq ?_
  refine AWp.start [0] [] [] [2] 0 ⟨[(2,tI (-1:Int))],[]⟩ rfl ?_ z0 trivial ?_
  ·kernel_rfl
  refine AOps.nil ?_
  refine AWp.ret ?_
  cases h
  exact ⟨.inr rfl,rfl⟩
 ·replace h:=of_false h hb
  refine AWp.keepTo [3] 0 ⟨[(3,.rp [.int .i64 v2.1.f0,k0 v2.1.f1,k0 v2.1.f2])],[]⟩ ?_ z0 ?_
  ·kernel_rfl
  refine AWp.skip ?_
  refine AWp.seq ?_
  refine AWp.start [0] [1,2,3,4,5,6] [] [15] 0 ⟨[(15,.agg [.int .i64 v2.1.f0,k0 v2.1.f1,k0 v2.1.f2])],[]⟩ rfl ?_ z0 trivial ?_
  ·kernel_rfl
  obtain ⟨v3,hv3,h⟩:=of_bind h
  refine AOps.cons (AOne.callP (F:=(FF 20 0)) _ rfl rfl rfl _ rfl rfl _ _ rfl Tryz.call92 [.agg [.int .i64 v2.1.f0,k0 v2.1.f1,k0 v2.1.f2]] rfl rfl (f92_ok v2.1 hv3) rfl) ?_
  refine AOps.go [2,3,4,5,6] [] [] [5] 0 ⟨[(5,tI v3.1)],[]⟩ ?_ z0 trivial ?_
  ·kernel_rfl
  refine AOps.nil ?_
  refine AWp.seq ?_
  refine AWp.start [0,1] [] [] [2] 0 ⟨[(2,tI v3.1)],[]⟩ rfl ?_ z0 trivial ?_
  ·kernel_rfl
  refine AOps.nil ?_
  refine AWp.ret ?_
  cases h
  exact ⟨.inr rfl,rfl⟩

noncomputable def f94 (v1:Int):Option Int :=
 cond (v1 == (3:Int)) (some (4:Int)) (cond (v1 == (4:Int)) (some (8:Int)) (some (0:Int)))

theorem f94_ok (v1:Int) {r:Int} (h:f94 v1 = some r):ACall Tryz.prog 94 [.tv (.int .i64 v1)] [] (.tv (.int .i64 r)) []:=by
 refine ACall.of1 (FF 8 0) Tryz.func94 rfl Tryz.ntmps94 Tryz.results94 (zz rfl) rfl rfl ?_
 refine AWp.seq ?_
 refine AWp.start [0] [] [] [0] 0 ⟨[(0,tI v1)],[]⟩ rfl ?_ z0 trivial ?_
 ·kernel_rfl
 refine AOps.nil ?_
 refine AWp.seq ?_
 refine AWp.seq ?_
 refine AWp.start [0] [] [] [3] 0 ⟨[(3,tI v1)],[]⟩ rfl ?_ z0 trivial ?_
 ·kernel_rfl
 refine AOps.nil ?_
 refine AWp.block ?_
 refine AWp.seq ?_
 refine AWp.start [0,1] [] [] [3,4] 0 ⟨[(3,tI v1),(4,tB (v1 == (3:Int)))],[]⟩ rfl ?_ z0 trivial ?_
 ·kernel_rfl
 refine AOps.nil ?_
 refine AWp.cond rfl (fun hb=>?_) fun hb=>?_
 ·replace h:=of_true h hb
  refine AWp.keepTo [] 0 ⟨[],[]⟩ ?_ z0 ?_
  ·kernel_rfl
  refine AWp.seq ?_
  refine AWp.start [0] [] [] [2] 0 ⟨[(2,tI (4:Int))],[]⟩ rfl ?_ z0 trivial ?_
  ·kernel_rfl
  refine AOps.nil ?_
  refine AWp.ret ?_
  cases h
  exact ⟨.inr rfl,rfl⟩
 ·replace h:=of_false h hb
  refine AWp.keepTo [3] 0 ⟨[(3,tI v1)],[]⟩ ?_ z0 ?_
  ·kernel_rfl
  refine AWp.seq ?_
  refine AWp.start [0,1] [] [] [6] 0 ⟨[(6,tB (v1 == (4:Int)))],[]⟩ rfl ?_ z0 trivial ?_
  ·kernel_rfl
  refine AOps.nil ?_
  refine AWp.cond rfl (fun hb=>?_) fun hb=>?_
  ·replace h:=of_true h hb
   refine AWp.keepTo [] 0 ⟨[],[]⟩ ?_ z0 ?_
   ·kernel_rfl
   refine AWp.seq ?_
   refine AWp.start [0] [] [] [2] 0 ⟨[(2,tI (8:Int))],[]⟩ rfl ?_ z0 trivial ?_
   ·kernel_rfl
   refine AOps.nil ?_
   refine AWp.ret ?_
   cases h
   exact ⟨.inr rfl,rfl⟩
  ·replace h:=of_false h hb
   refine AWp.keepTo [] 0 ⟨[],[]⟩ ?_ z0 ?_
   ·kernel_rfl
   refine AWp.skip ?_
   refine AWp.seq ?_
   refine AWp.start [0] [] [] [2] 0 ⟨[(2,tI (0:Int))],[]⟩ rfl ?_ z0 trivial ?_
   ·kernel_rfl
   refine AOps.nil ?_
   refine AWp.ret ?_
   cases h
   exact ⟨.inr rfl,rfl⟩

noncomputable def f63_j1 (v5:Bool):Option Bool :=
 cond v5 none (some false)

noncomputable def f63 (v1:Int) (v2:Int):Option Bool :=
 cond (v1 == (1:Int)) ((cond (decide (v2 ≥ (-2147483647:Int))) (some (decide (v2 ≤ (2147483647:Int)))) (some false)).bind fun v3=>some v3) (cond (v1 == (2:Int)) ((cond (v2 == (0:Int)) (some true) (some (v2 == (1:Int)))).bind fun v4=>some v4) (cond (v1 == (3:Int)) (f63_j1 (v1 == (3:Int))) (f63_j1 (v1 == (4:Int)))))

theorem f63_ok (v1:Int) (v2:Int) {r:Bool} (h:f63 v1 v2 = some r):ACall Tryz.prog 63 [.tv (.int .i64 v1),.tv (.int .i64 v2)] [] (.tv (.bool r)) []:=by
 refine ACall.of1 (FF 29 0) Tryz.func63 rfl Tryz.ntmps63 Tryz.results63 (zz rfl) rfl rfl ?_
 refine AWp.seq ?_
 refine AWp.start [0] [] [] [0,1] 0 ⟨[(0,tI v1),(1,tI v2)],[]⟩ rfl ?_ z0 trivial ?_
 ·kernel_rfl
 refine AOps.nil ?_
 refine AWp.seq ?_
 refine AWp.seq ?_
 refine AWp.start [0] [] [] [0,1,5] 0 ⟨[(0,tI v1),(1,tI v2),(5,tI v1)],[]⟩ rfl ?_ z0 trivial ?_
 ·kernel_rfl
 refine AOps.nil ?_
 refine AWp.block ?_
 refine AWp.seq ?_
 refine AWp.start [0,1] [] [] [0,1,5,6] 0 ⟨[(0,tI v1),(1,tI v2),(5,tI v1),(6,tB (v1 == (1:Int)))],[]⟩ rfl ?_ z0 trivial ?_
 ·kernel_rfl
 refine AOps.nil ?_
 refine AWp.cond rfl (fun hb=>?_) fun hb=>?_
 ·replace h:=of_true h hb
  refine AWp.keepTo [1] 0 ⟨[(1,tI v2)],[]⟩ ?_ z0 ?_
  ·kernel_rfl
  refine AWp.seq ?_
  refine AWp.start [0,1,2] [3,4,5,6] [] [1,10] 0 ⟨[(1,tI v2),(10,tB (decide (v2 ≥ (-2147483647:Int))))],[]⟩ rfl ?_ z0 trivial ?_
  ·kernel_rfl
  obtain ⟨v3,hc3,h⟩:=of_bind h
  refine AOps.cut [3,4,5] [6] (fun σ=>σ = ⟨[(13,tB v3)],[]⟩) ?_ fun σ' hJ=>?_
  ·refine AOps.split (fun b=>⟨[(1,tI v2),(10,tB b)],[]⟩) _ (fun hb=>?_) fun hb=>?_
   ·replace hc3:=of_true hc3 hb
    refine AOps.go [3,4,5] [] [] [13] 0 ⟨[(13,tB (decide (v2 ≤ (2147483647:Int))))],[]⟩ ?_ z0 trivial ?_
    ·kernel_rfl
    cases hc3
    exact AOps.nil rfl
   ·replace hc3:=of_false hc3 hb
    refine AOps.go [3,4,5] [] [] [13] 0 ⟨[(13,tB false)],[]⟩ ?_ z0 trivial ?_
    ·kernel_rfl
    cases hc3
    exact AOps.nil rfl
  subst hJ
  refine AOps.go [6] [] [] [4] 0 ⟨[(4,tB v3)],[]⟩ ?_ z0 trivial ?_
  ·kernel_rfl
  refine AOps.nil ?_
  refine AWp.ret ?_
  cases h
  exact ⟨.inr rfl,rfl⟩
 ·replace h:=of_false h hb
  refine AWp.keepTo [0,1,5] 0 ⟨[(0,tI v1),(1,tI v2),(5,tI v1)],[]⟩ ?_ z0 ?_
  ·kernel_rfl
  refine AWp.seq ?_
  refine AWp.start [0,1] [] [] [0,1,5,14] 0 ⟨[(0,tI v1),(1,tI v2),(5,tI v1),(14,tB (v1 == (2:Int)))],[]⟩ rfl ?_ z0 trivial ?_
  ·kernel_rfl
  refine AOps.nil ?_
  refine AWp.cond rfl (fun hb=>?_) fun hb=>?_
  ·replace h:=of_true h hb
   refine AWp.keepTo [1] 0 ⟨[(1,tI v2)],[]⟩ ?_ z0 ?_
   ·kernel_rfl
   refine AWp.seq ?_
   refine AWp.start [0,1,2] [3,4,5,6] [] [1,18] 0 ⟨[(1,tI v2),(18,tB (v2 == (0:Int)))],[]⟩ rfl ?_ z0 trivial ?_
   ·kernel_rfl
   obtain ⟨v4,hc3,h⟩:=of_bind h
   refine AOps.cut [3,4,5] [6] (fun σ=>σ = ⟨[(21,tB v4)],[]⟩) ?_ fun σ' hJ=>?_
   ·refine AOps.split (fun b=>⟨[(1,tI v2),(18,tB b)],[]⟩) _ (fun hb=>?_) fun hb=>?_
    ·replace hc3:=of_true hc3 hb
     refine AOps.go [3,4,5] [] [] [21] 0 ⟨[(21,tB true)],[]⟩ ?_ z0 trivial ?_
     ·kernel_rfl
     cases hc3
     exact AOps.nil rfl
    ·replace hc3:=of_false hc3 hb
     refine AOps.go [3,4,5] [] [] [21] 0 ⟨[(21,tB (v2 == (1:Int)))],[]⟩ ?_ z0 trivial ?_
     ·kernel_rfl
     cases hc3
     exact AOps.nil rfl
   subst hJ
   refine AOps.go [6] [] [] [4] 0 ⟨[(4,tB v4)],[]⟩ ?_ z0 trivial ?_
   ·kernel_rfl
   refine AOps.nil ?_
   refine AWp.ret ?_
   cases h
   exact ⟨.inr rfl,rfl⟩
  ·replace h:=of_false h hb
   refine AWp.keepTo [0,1,5] 0 ⟨[(0,tI v1),(1,tI v2),(5,tI v1)],[]⟩ ?_ z0 ?_
   ·kernel_rfl
   refine AWp.join (V:=Bool) (fun w=>⟨[(0,tI v1),(1,tI v2),(22,tB w)],[]⟩) (fun w=>f63_j1  w = some r) ?_ ?_
   ·refine AWp.seq ?_
    refine AWp.start [0,1] [] [] [0,1,5,22] 0 ⟨[(0,tI v1),(1,tI v2),(5,tI v1),(22,tB (v1 == (3:Int)))],[]⟩ rfl ?_ z0 trivial ?_
    ·kernel_rfl
    refine AOps.nil ?_
    refine AWp.cond rfl (fun hb=>?_) fun hb=>?_
    ·replace h:=of_true h hb
     refine AWp.keepTo [0,1,22] 0 ⟨[(0,tI v1),(1,tI v2),(22,tB (v1 == (3:Int)))],[]⟩ ?_ z0 ?_
     ·kernel_rfl
     refine AWp.skip ?_
     exact ⟨(v1 == (3:Int)),h,rfl⟩
    ·replace h:=of_false h hb
     refine AWp.keepTo [0,1,5] 0 ⟨[(0,tI v1),(1,tI v2),(5,tI v1)],[]⟩ ?_ z0 ?_
     ·kernel_rfl
     refine AWp.start [0,1] [] [] [0,1,22] 0 ⟨[(0,tI v1),(1,tI v2),(22,tB (v1 == (4:Int)))],[]⟩ rfl ?_ z0 trivial ?_
     ·kernel_rfl
     refine AOps.nil ?_
     exact ⟨(v1 == (4:Int)),h,rfl⟩
   ·rintro v5 h
    refine AWp.cond rfl (fun hb=>?_) fun hb=>?_
    ·replace h:=of_true h hb
     refine AWp.keepTo [0,1] 0 ⟨[(0,tI v1),(1,tI v2)],[]⟩ ?_ z0 ?_
     ·kernel_rfl
     refine AWp.seq ?_
     cases h
    ·replace h:=of_false h hb
     refine AWp.keepTo [] 0 ⟨[],[]⟩ ?_ z0 ?_
     ·kernel_rfl
     refine AWp.skip ?_
     refine AWp.seq ?_
     refine AWp.start [0] [] [] [4] 0 ⟨[(4,tB false)],[]⟩ rfl ?_ z0 trivial ?_
     ·kernel_rfl
     refine AOps.nil ?_
     refine AWp.ret ?_
     cases h
     exact ⟨.inr rfl,rfl⟩

noncomputable def f62 (v1:Int) (v2:T59):Option Bool :=
 (f63 v2.f0 v1).bind fun v3=>some (!v3)

theorem f62_ok (v1:Int) (v2:T59) {r:Bool} (h:f62 v1 v2 = some r):ACall Tryz.prog 62 [.tv (.int .i64 v1),.rp [.int .i64 v2.f0,fzL 1 (cInt .i64) v2.f1,fzL 1 (cInt .i64) v2.f2]] [] (.tv (.bool r)) []:=by
 refine ACall.of1 (FF 9 0) Tryz.func62 rfl Tryz.ntmps62 Tryz.results62 (zz rfl) rfl rfl ?_
 refine AWp.seq ?_
 refine AWp.start [0] [] [] [0,1] 0 ⟨[(0,tI v1),(1,.rp [.int .i64 v2.f0,k0 v2.f1,k0 v2.f2])],[]⟩ rfl ?_ z0 trivial ?_
 ·kernel_rfl
 refine AOps.nil ?_
 refine AWp.seq ?_
 refine AWp.start [0,1,2] [3,4,5] [] [5,6] 0 ⟨[(5,tI v2.f0),(6,tI v1)],[]⟩ rfl ?_ z0 trivial ?_
 ·kernel_rfl
 obtain ⟨v3,hv3,h⟩:=of_bind h
 refine AOps.cons (AOne.callP (F:=(FF 9 0)) _ rfl rfl rfl _ rfl rfl _ _ rfl Tryz.call63 [tI v2.f0,tI v1] rfl rfl (f63_ok v2.f0 v1 hv3) rfl) ?_
 refine AOps.go [4,5] [] [] [3] 0 ⟨[(3,tB (!v3))],[]⟩ ?_ z0 trivial ?_
 ·kernel_rfl
 refine AOps.nil ?_
 refine AWp.ret ?_
 cases h
 exact ⟨.inr rfl,rfl⟩

noncomputable def f87_62_b1 (v1:List Int) (v2:T59) (v3:Int):Option (Int ⊕ Out Int Unit) :=
 cond (decide (v3 < (v1.length:Int))) (if (0:Int) ≤ v3 ∧ v3 < (v1.length:Int) then (f62 (v1.getD v3.toNat default) v2).bind fun v4=>cond v4 (some (.inr (.ret v3))) (some (.inl (w64 (v3 + (1:Int))))) else none) (some (.inr (.go ())))

noncomputable def f87_62 (v1:List Int) (v2:T59):Option Int :=
 (iter (fun s=>f87_62_b1 v1 v2 s) (0:Int)).bind fun y=>match y with | .ret v5=>some v5 | .go _=>some (-1:Int)

theorem f87_62_ok (v1:List Int) (v2:T59) {r:Int} (h:f87_62 v1 v2 = some r):ACall Tryz.prog 87 [.tv (fzL 1 (cInt .i64) v1),.fn 62 [.rp [.int .i64 v2.f0,fzL 1 (cInt .i64) v2.f1,fzL 1 (cInt .i64) v2.f2]]] [] (.tv (.int .i64 r)) []:=by
 refine ACall.of1 (FF 19 0) Tryz.func87 rfl Tryz.ntmps87 Tryz.results87 (zz rfl) rfl rfl ?_
 refine AWp.seq ?_
 refine AWp.start [0] [] [] [0,1] 0 ⟨[(0,q3 v1),(1,.fn 62 [.rp [.int .i64 v2.f0,k0 v2.f1,k0 v2.f2]])],[]⟩ rfl ?_ z0 trivial ?_
 ·kernel_rfl
 refine AOps.nil ?_
 refine AWp.seq ?_
 refine AWp.seq ?_
 refine AWp.start [0,1,2] [] [] [0,1,7,8] 0 ⟨[(0,q3 v1),(1,.fn 62 [.rp [.int .i64 v2.f0,k0 v2.f1,k0 v2.f2]]),(7,tI (v1.length:Int)),(8,tI (0:Int))],[]⟩ rfl ?_ z0 trivial ?_
 ·kernel_rfl
 refine AOps.nil ?_
 refine AWp.block ?_
 obtain ⟨y,hy,h⟩:=of_bind h
 refine AWp.mono (AWp.loop (S:=Int) (Y:=Out Int Unit) (fun s=>⟨[(0,q3 v1),(1,.fn 62 [.rp [.int .i64 v2.f0,k0 v2.f1,k0 v2.f2]]),(7,tI (v1.length:Int)),(8,tI s)],[]⟩) (fun s=>f87_62_b1 v1 v2 s) (fun y e σ=>match y with | .ret r=>e = .ret ∧ σ = ⟨[(4,tI r)],[]⟩ | .go v=>e = .exit 0 ∧ σ = ⟨[],[]⟩) ?_ hy) ?_
 ·rintro v3 o h
  refine AWp.seq ?_
  refine AWp.start [0] [] [] [0,1,7,8,9] 0 ⟨[(0,q3 v1),(1,.fn 62 [.rp [.int .i64 v2.f0,k0 v2.f1,k0 v2.f2]]),(7,tI (v1.length:Int)),(8,tI v3),(9,tB (decide (v3 < (v1.length:Int))))],[]⟩ rfl ?_ z0 trivial ?_
  ·kernel_rfl
  refine AOps.nil ?_
  refine AWp.seq ?_
  refine AWp.cond rfl (fun hb=>?_) fun hb=>?_
  ·replace h:=of_true h hb
   refine AWp.keepTo [0,1,7,8] 0 ⟨[(0,q3 v1),(1,.fn 62 [.rp [.int .i64 v2.f0,k0 v2.f1,k0 v2.f2]]),(7,tI (v1.length:Int)),(8,tI v3)],[]⟩ ?_ z0 ?_
   ·kernel_rfl
   refine AWp.skip ?_
   refine AWp.seq ?_
   refine AWp.block ?_
   refine AWp.seq ?_
   refine AWp.start [0,1] [] [] [0,1,5,7,8] 0 ⟨[(0,q3 v1),(1,.fn 62 [.rp [.int .i64 v2.f0,k0 v2.f1,k0 v2.f2]]),(5,tI v3),(7,tI (v1.length:Int)),(8,tI v3)],[]⟩ rfl ?_ z0 trivial ?_
   ·kernel_rfl
   refine AOps.nil ?_
   refine AWp.seq ?_
   obtain ⟨hg,h⟩:=of_guard h
   refine AWp.start [0,1,2,3,4] [5] [(0:Int) ≤ v3,v3 < (v1.length:Int)] [0,1,5,7,8,11,15] 0 ⟨[(0,q3 v1),(1,.fn 62 [.rp [.int .i64 v2.f0,k0 v2.f1,k0 v2.f2]]),(5,tI v3),(7,tI (v1.length:Int)),(8,tI v3),(11,.fn 62 [.rp [.int .i64 v2.f0,k0 v2.f1,k0 v2.f2]]),(15,tI (gD v1 v3))],[]⟩ rfl ?_ z0 ⟨hg.1,hg.2⟩ ?_
   ·kernel_rfl
   obtain ⟨v4,hv4,h⟩:=of_bind h
   refine AOps.cons (AOne.callP (F:=(FF 19 0)) _ rfl rfl rfl _ rfl rfl _ _ rfl Tryz.call62 [tI (gD v1 v3),.rp [.int .i64 v2.f0,k0 v2.f1,k0 v2.f2]] rfl rfl (f62_ok (gD v1 v3) v2 hv4) rfl) ?_
   refine AOps.keepTo [0,1,5,7,8,16] 0 ⟨[(0,q3 v1),(1,.fn 62 [.rp [.int .i64 v2.f0,k0 v2.f1,k0 v2.f2]]),(5,tI v3),(7,tI (v1.length:Int)),(8,tI v3),(16,tB v4)],[]⟩ ?_ z0 ?_
   ·kernel_rfl
   refine AOps.nil ?_
   refine AWp.cond rfl (fun hb=>?_) fun hb=>?_
   ·replace h:=of_true h hb
    refine AWp.keepTo [5] 0 ⟨[(5,tI v3)],[]⟩ ?_ z0 ?_
    ·kernel_rfl
    refine AWp.seq ?_
    refine AWp.start [0,1] [] [] [4] 0 ⟨[(4,tI v3)],[]⟩ rfl ?_ z0 trivial ?_
    ·kernel_rfl
    refine AOps.nil ?_
    refine AWp.ret ?_
    cases h
    exact Or.inr ⟨_,rfl,by simp,rfl,rfl⟩
   ·replace h:=of_false h hb
    refine AWp.keepTo [0,1,7,8] 0 ⟨[(0,q3 v1),(1,.fn 62 [.rp [.int .i64 v2.f0,k0 v2.f1,k0 v2.f2]]),(7,tI (v1.length:Int)),(8,tI v3)],[]⟩ ?_ z0 ?_
    ·kernel_rfl
    refine AWp.skip ?_
    refine AWp.start [0,1] [] [] [0,1,7,8] 0 ⟨[(0,q3 v1),(1,.fn 62 [.rp [.int .i64 v2.f0,k0 v2.f1,k0 v2.f2]]),(7,tI (v1.length:Int)),(8,tI (w64 (v3 + (1:Int))))],[]⟩ rfl ?_ z0 trivial ?_
    ·kernel_rfl
    refine AOps.nil ?_
    cases h
    exact Or.inl ⟨_,rfl,rfl,rfl⟩
  ·replace h:=of_false h hb
   refine AWp.keepTo [] 0 ⟨[],[]⟩ ?_ z0 ?_
   ·kernel_rfl
   refine AWp.exit ?_
   cases h
   exact Or.inr ⟨_,rfl,by simp,rfl,rfl⟩
 ·intro e σ hp
  rcases y with v5 | _
  ·obtain ⟨rfl,rfl⟩:=hp
   cases h
   exact ⟨.inr rfl,rfl⟩
  ·obtain ⟨rfl,rfl⟩:=hp
   refine AWp.seq ?_
   refine AWp.start [0] [] [] [4] 0 ⟨[(4,tI (-1:Int))],[]⟩ rfl ?_ z0 trivial ?_
   ·kernel_rfl
   refine AOps.nil ?_
   refine AWp.ret ?_
   cases h
   exact ⟨.inr rfl,rfl⟩

noncomputable def f49_62 (v1:List Int) (v2:T59):Option Bool :=
 (f87_62 v1 v2).bind fun v3=>some (decide (v3 ≥ (0:Int)))

theorem f49_62_ok (v1:List Int) (v2:T59) {r:Bool} (h:f49_62 v1 v2 = some r):ACall Tryz.prog 49 [.tv (fzL 1 (cInt .i64) v1),.fn 62 [.rp [.int .i64 v2.f0,fzL 1 (cInt .i64) v2.f1,fzL 1 (cInt .i64) v2.f2]]] [] (.tv (.bool r)) []:=by
 refine ACall.of1 (FF 9 0) Tryz.func49 rfl Tryz.ntmps49 Tryz.results49 (zz rfl) rfl rfl ?_
 refine AWp.seq ?_
 refine AWp.start [0] [] [] [0,1] 0 ⟨[(0,q3 v1),(1,.fn 62 [.rp [.int .i64 v2.f0,k0 v2.f1,k0 v2.f2]])],[]⟩ rfl ?_ z0 trivial ?_
 ·kernel_rfl
 refine AOps.nil ?_
 refine AWp.seq ?_
 refine AWp.start [0,1] [2,3,4] [] [5,6] 0 ⟨[(5,q3 v1),(6,.fn 62 [.rp [.int .i64 v2.f0,k0 v2.f1,k0 v2.f2]])],[]⟩ rfl ?_ z0 trivial ?_
 ·kernel_rfl
 obtain ⟨v3,hv3,h⟩:=of_bind h
 refine AOps.cons (AOne.callP (F:=(FF 9 0)) _ rfl rfl rfl _ rfl rfl _ _ rfl Tryz.call87 [q3 v1,.fn 62 [.rp [.int .i64 v2.f0,k0 v2.f1,k0 v2.f2]]] rfl rfl (f87_62_ok v1 v2 hv3) rfl) ?_
 refine AOps.go [3,4] [] [] [4] 0 ⟨[(4,tB (decide (v3 ≥ (0:Int))))],[]⟩ ?_ z0 trivial ?_
 ·kernel_rfl
 refine AOps.nil ?_
 refine AWp.ret ?_
 cases h
 exact ⟨.inr rfl,rfl⟩

noncomputable def f38 (v1:T59):Option Bool :=
 (cond (decide (v1.f0 ≥ (1:Int))) (cond (decide (v1.f0 ≤ (4:Int))) ((f61 v1.f1).bind fun v3=>cond (v3 == (v1.f2.length:Int)) ((f49_62 v1.f2 v1).bind fun v4=>some (!v4)) (some false)) (some false)) (some false)).bind fun v2=>some v2

theorem f38_ok (v1:T59) {r:Bool} (h:f38 v1 = some r):ACall Tryz.prog 38 [.agg [.int .i64 v1.f0,fzL 1 (cInt .i64) v1.f1,fzL 1 (cInt .i64) v1.f2]] [] (.tv (.bool r)) []:=by
 refine ACall.of1 (FF 27 0) Tryz.func38 rfl Tryz.ntmps38 Tryz.results38 (zz rfl) rfl rfl ?_
 refine AWp.seq ?_
 refine AWp.start [0,1] [] [] [1] 1 ⟨[(1,.pc 0 0)],[.cells 60 [.int .i64 v1.f0,k0 v1.f1,k0 v1.f2]]⟩ rfl ?_ z0 trivial ?_
 ·kernel_rfl
 refine AOps.nil ?_
 refine AWp.seq ?_
 refine AWp.pin 0 rfl rfl ?_
 refine AWp.keepTo [1] 0 ⟨[(1,.rp [.int .i64 v1.f0,k0 v1.f1,k0 v1.f2])],[]⟩ ?_ z0 ?_
 ·kernel_rfl
 obtain ⟨v2,hd,h⟩:=of_bind h
 refine AWp.draw FFm (fun σ=>σ = ⟨[(2,tB v2)],[]⟩) (n:=25) rfl (ls:=#[n1,n1,n1,n1,n1,n1,n1,n1,n1,n1,n1,n1,n1,n1,n1,n1,n1,n1,n1,n1,n1,n1,n1,n1,n1]) rfl ?_ ?_
 ·refine AAny.go (by kernel_rfl) [0,1,2,3] (fuel':=21) rfl [] #[y1,y1,y1,y1,n1,n1,n1,n1,n1,n1,n1,n1,n1,n1,n1,n1,n1,n1,n1,n1,n1,n1,n1,n1,n1] [1,6] 0 ⟨[(1,.rp [.int .i64 v1.f0,k0 v1.f1,k0 v1.f2]),(6,tB (decide (v1.f0 ≥ (1:Int))))],[]⟩ ?_ z0 trivial ?_
  ·kernel_rfl
  refine AAny.split (fun b=>⟨[(1,.rp [.int .i64 v1.f0,k0 v1.f1,k0 v1.f2]),(6,tB b)],[]⟩) _ (fun hb=>?_) fun hb=>?_
  ·replace hd:=of_true hd hb
   refine AAny.go (by kernel_rfl) [4,5,6,7,8] (fuel':=16) rfl [] #[y1,y1,y1,y1,y1,y1,y1,y1,y1,n1,n1,n1,n1,n1,n1,n1,n1,n1,n1,n1,n1,n1,n1,n1,n1] [1,11] 0 ⟨[(1,.rp [.int .i64 v1.f0,k0 v1.f1,k0 v1.f2]),(11,tB (decide (v1.f0 ≤ (4:Int))))],[]⟩ ?_ z0 trivial ?_
   ·kernel_rfl
   refine AAny.split (fun b=>⟨[(1,.rp [.int .i64 v1.f0,k0 v1.f1,k0 v1.f2]),(11,tB b)],[]⟩) _ (fun hb=>?_) fun hb=>?_
   ·replace hd:=of_true hd hb
    refine AAny.go (by kernel_rfl) [9,10,12,13,14] (fuel':=11) rfl [] #[y1,y1,y1,y1,y1,y1,y1,y1,y1,y1,y1,n1,y1,y1,y1,n1,n1,n1,n1,n1,n1,n1,n1,n1,n1] [1,11,13,17] 0 ⟨[(1,.rp [.int .i64 v1.f0,k0 v1.f1,k0 v1.f2]),(11,tB true),(13,q3 v1.f1),(17,tI (v1.f2.length:Int))],[]⟩ ?_ z0 trivial ?_
    ·kernel_rfl
    obtain ⟨v3,hv3,hd⟩:=of_bind hd
    refine AAny.serial (i:=11) (fuel:=10) (by kernel_rfl) (AOne.callP (F:=(FF 27 0)) _ rfl rfl rfl _ rfl rfl _ _ rfl Tryz.call61 [q3 v1.f1] rfl rfl (f61_ok v1.f1 hv3) rfl) ?_
    refine AAny.keepTo [1,11,14,17] 0 ⟨[(1,.rp [.int .i64 v1.f0,k0 v1.f1,k0 v1.f2]),(11,tB true),(14,tI v3),(17,tI (v1.f2.length:Int))],[]⟩ #[y1,y1,y1,y1,y1,y1,y1,y1,y1,y1,y1,y1,y1,y1,y1,n1,n1,n1,n1,n1,n1,n1,n1,n1,n1] ?_ rfl z0 ?_
    ·kernel_rfl
    refine AAny.go (by kernel_rfl) [15,16,17] (fuel':=7) rfl [] #[y1,y1,y1,y1,y1,y1,y1,y1,y1,y1,y1,y1,y1,y1,y1,y1,y1,y1,n1,n1,n1,n1,n1,n1,n1] [1,20] 0 ⟨[(1,.rp [.int .i64 v1.f0,k0 v1.f1,k0 v1.f2]),(20,tB (v3 == (v1.f2.length:Int)))],[]⟩ ?_ z0 trivial ?_
    ·kernel_rfl
    refine AAny.split (fun b=>⟨[(1,.rp [.int .i64 v1.f0,k0 v1.f1,k0 v1.f2]),(20,tB b)],[]⟩) _ (fun hb=>?_) fun hb=>?_
    ·replace hd:=of_true hd hb
     refine AAny.go (by kernel_rfl) [18,19,20] (fuel':=4) rfl [] #[y1,y1,y1,y1,y1,y1,y1,y1,y1,y1,y1,y1,y1,y1,y1,y1,y1,y1,y1,y1,y1,n1,n1,n1,n1] [20,22,23] 0 ⟨[(20,tB true),(22,q3 v1.f2),(23,.fn 62 [.rp [.int .i64 v1.f0,k0 v1.f1,k0 v1.f2]])],[]⟩ ?_ z0 trivial ?_
     ·kernel_rfl
     obtain ⟨v4,hv4,hd⟩:=of_bind hd
     refine AAny.serial (i:=21) (fuel:=3) (by kernel_rfl) (AOne.callP (F:=(FF 27 0)) _ rfl rfl rfl _ rfl rfl _ _ rfl Tryz.call49 [q3 v1.f2,.fn 62 [.rp [.int .i64 v1.f0,k0 v1.f1,k0 v1.f2]]] rfl rfl (f49_62_ok v1.f2 v1 hv4) rfl) ?_
     refine AAny.keepTo [20,24] 0 ⟨[(20,tB true),(24,tB v4)],[]⟩ #[y1,y1,y1,y1,y1,y1,y1,y1,y1,y1,y1,y1,y1,y1,y1,y1,y1,y1,y1,y1,y1,y1,n1,n1,n1] ?_ rfl z0 ?_
     ·kernel_rfl
     refine AAny.go (by kernel_rfl) [22,23,24] (fuel':=0) rfl [] #[y1,y1,y1,y1,y1,y1,y1,y1,y1,y1,y1,y1,y1,y1,y1,y1,y1,y1,y1,y1,y1,y1,y1,y1,y1] [2] 0 ⟨[(2,tB (!v4))],[]⟩ ?_ z0 trivial ?_
     ·kernel_rfl
     refine AAny.keepTo [2] 0 ⟨[(2,tB (!v4))],[]⟩ _ ?_ rfl z0 (AAny.done (by kernel_rfl) ?_)
     ·kernel_rfl
     cases hd
     exact rfl
    ·replace hd:=of_false hd hb
     refine AAny.go (by kernel_rfl) [18,19,20,21,22,23,24] (fuel':=0) rfl [] #[y1,y1,y1,y1,y1,y1,y1,y1,y1,y1,y1,y1,y1,y1,y1,y1,y1,y1,y1,y1,y1,y1,y1,y1,y1] [2] 0 ⟨[(2,tB false)],[]⟩ ?_ z0 trivial ?_
     ·kernel_rfl
     refine AAny.keepTo [2] 0 ⟨[(2,tB false)],[]⟩ _ ?_ rfl z0 (AAny.done (by kernel_rfl) ?_)
     ·kernel_rfl
     cases hd
     exact rfl
   ·replace hd:=of_false hd hb
    refine AAny.go (by kernel_rfl) [9,10,11,12,13,14,15,16,17,18,19,20,21,22,23,24] (fuel':=0) rfl [] #[y1,y1,y1,y1,y1,y1,y1,y1,y1,y1,y1,y1,y1,y1,y1,y1,y1,y1,y1,y1,y1,y1,y1,y1,y1] [2] 0 ⟨[(2,tB false)],[]⟩ ?_ z0 trivial ?_
    ·kernel_rfl
    refine AAny.keepTo [2] 0 ⟨[(2,tB false)],[]⟩ _ ?_ rfl z0 (AAny.done (by kernel_rfl) ?_)
    ·kernel_rfl
    cases hd
    exact rfl
  ·replace hd:=of_false hd hb
   refine AAny.go (by kernel_rfl) [4,5,6,7,8,9,10,11,12,13,14,15,16,17,18,19,20,21,22,23,24] (fuel':=0) rfl [] #[y1,y1,y1,y1,y1,y1,y1,y1,y1,y1,y1,y1,y1,y1,y1,y1,y1,y1,y1,y1,y1,y1,y1,y1,y1] [2] 0 ⟨[(2,tB false)],[]⟩ ?_ z0 trivial ?_
   ·kernel_rfl
   refine AAny.keepTo [2] 0 ⟨[(2,tB false)],[]⟩ _ ?_ rfl z0 (AAny.done (by kernel_rfl) ?_)
   ·kernel_rfl
   cases hd
   exact rfl
 rintro σ' rfl
 refine AWp.ret ?_
 cases h
 exact ⟨.inr rfl,rfl⟩

noncomputable def f37 (v1:T59):Option Bool :=
 (f38 v1).bind fun v2=>some (!v2)

theorem f37_ok (v1:T59) {r:Bool} (h:f37 v1 = some r):ACall Tryz.prog 37 [.agg [.int .i64 v1.f0,fzL 1 (cInt .i64) v1.f1,fzL 1 (cInt .i64) v1.f2]] [] (.tv (.bool r)) []:=by
 refine ACall.of1 (FF 6 0) Tryz.func37 rfl Tryz.ntmps37 Tryz.results37 (zz rfl) rfl rfl ?_
 refine AWp.seq ?_
 refine AWp.start [0,1] [] [] [1] 1 ⟨[(1,.pc 0 0)],[.cells 60 [.int .i64 v1.f0,k0 v1.f1,k0 v1.f2]]⟩ rfl ?_ z0 trivial ?_
 ·kernel_rfl
 refine AOps.nil ?_
 refine AWp.seq ?_
 refine AWp.pin 0 rfl rfl ?_
 refine AWp.keepTo [1] 0 ⟨[(1,.rp [.int .i64 v1.f0,k0 v1.f1,k0 v1.f2])],[]⟩ ?_ z0 ?_
 ·kernel_rfl
 refine AWp.start [0] [1,2,3] [] [3] 0 ⟨[(3,.agg [.int .i64 v1.f0,k0 v1.f1,k0 v1.f2])],[]⟩ rfl ?_ z0 trivial ?_
 ·kernel_rfl
 obtain ⟨v2,hv2,h⟩:=of_bind h
 refine AOps.cons (AOne.callP (F:=(FF 6 0)) _ rfl rfl rfl _ rfl rfl _ _ rfl Tryz.call38 [.agg [.int .i64 v1.f0,k0 v1.f1,k0 v1.f2]] rfl rfl (f38_ok v1 hv2) rfl) ?_
 refine AOps.go [2,3] [] [] [2] 0 ⟨[(2,tB (!v2))],[]⟩ ?_ z0 trivial ?_
 ·kernel_rfl
 refine AOps.nil ?_
 refine AWp.ret ?_
 cases h
 exact ⟨.inr rfl,rfl⟩

noncomputable def f60_37_b1 (v1:List T59) (v2:Int):Option (Int ⊕ Out Int Unit) :=
 cond (decide (v2 < (v1.length:Int))) (if (0:Int) ≤ v2 ∧ v2 < (v1.length:Int) then (f37 (v1.getD v2.toNat default)).bind fun v3=>cond v3 (some (.inr (.ret v2))) (some (.inl (w64 (v2 + (1:Int))))) else none) (some (.inr (.go ())))

noncomputable def f60_37 (v1:List T59):Option Int :=
 (iter (fun s=>f60_37_b1 v1 s) (0:Int)).bind fun y=>match y with | .ret v4=>some v4 | .go _=>some (-1:Int)

theorem f60_37_ok (v1:List T59) {r:Int} (h:f60_37 v1 = some r):ACall Tryz.prog 60 [.tv (fzL 3 c59 v1),.fn 37 []] [] (.tv (.int .i64 r)) []:=by
 refine ACall.of1 (FF 19 0) Tryz.func60 rfl Tryz.ntmps60 Tryz.results60 (zz rfl) rfl rfl ?_
 refine AWp.seq ?_
 refine AWp.start [0] [] [] [0,1] 0 ⟨[(0,q5 v1),(1,.fn 37 [])],[]⟩ rfl ?_ z0 trivial ?_
 ·kernel_rfl
 refine AOps.nil ?_
 refine AWp.seq ?_
 refine AWp.seq ?_
 refine AWp.start [0,1,2] [] [] [0,1,7,8] 0 ⟨[(0,q5 v1),(1,.fn 37 []),(7,tI (v1.length:Int)),(8,tI (0:Int))],[]⟩ rfl ?_ z0 trivial ?_
 ·kernel_rfl
 refine AOps.nil ?_
 refine AWp.block ?_
 obtain ⟨y,hy,h⟩:=of_bind h
 refine AWp.mono (AWp.loop (S:=Int) (Y:=Out Int Unit) (fun s=>⟨[(0,q5 v1),(1,.fn 37 []),(7,tI (v1.length:Int)),(8,tI s)],[]⟩) (fun s=>f60_37_b1 v1 s) (fun y e σ=>match y with | .ret r=>e = .ret ∧ σ = ⟨[(4,tI r)],[]⟩ | .go v=>e = .exit 0 ∧ σ = ⟨[],[]⟩) ?_ hy) ?_
 ·rintro v2 o h
  refine AWp.seq ?_
  refine AWp.start [0] [] [] [0,1,7,8,9] 0 ⟨[(0,q5 v1),(1,.fn 37 []),(7,tI (v1.length:Int)),(8,tI v2),(9,tB (decide (v2 < (v1.length:Int))))],[]⟩ rfl ?_ z0 trivial ?_
  ·kernel_rfl
  refine AOps.nil ?_
  refine AWp.seq ?_
  refine AWp.cond rfl (fun hb=>?_) fun hb=>?_
  ·replace h:=of_true h hb
   refine AWp.keepTo [0,1,7,8] 0 ⟨[(0,q5 v1),(1,.fn 37 []),(7,tI (v1.length:Int)),(8,tI v2)],[]⟩ ?_ z0 ?_
   ·kernel_rfl
   refine AWp.skip ?_
   refine AWp.seq ?_
   refine AWp.block ?_
   refine AWp.seq ?_
   refine AWp.start [0,1] [] [] [0,1,5,7,8] 0 ⟨[(0,q5 v1),(1,.fn 37 []),(5,tI v2),(7,tI (v1.length:Int)),(8,tI v2)],[]⟩ rfl ?_ z0 trivial ?_
   ·kernel_rfl
   refine AOps.nil ?_
   refine AWp.seq ?_
   obtain ⟨hg,h⟩:=of_guard h
   refine AWp.start [0,1,2,3,4] [5] [(0:Int) ≤ v2,v2 < (v1.length:Int)] [0,1,5,7,8,11,15] 0 ⟨[(0,q5 v1),(1,.fn 37 []),(5,tI v2),(7,tI (v1.length:Int)),(8,tI v2),(11,.fn 37 []),(15,.agg [.int .i64 ((gD v1 v2).f0),k0 ((gD v1 v2).f1),k0 ((gD v1 v2).f2)])],[]⟩ rfl ?_ z0 ⟨hg.1,hg.2⟩ ?_
   ·kernel_rfl
   obtain ⟨v3,hv3,h⟩:=of_bind h
   refine AOps.cons (AOne.callP (F:=(FF 19 0)) _ rfl rfl rfl _ rfl rfl _ _ rfl Tryz.call37 [.agg [.int .i64 ((gD v1 v2).f0),k0 ((gD v1 v2).f1),k0 ((gD v1 v2).f2)]] rfl rfl (f37_ok (gD v1 v2) hv3) rfl) ?_
   refine AOps.keepTo [0,1,5,7,8,16] 0 ⟨[(0,q5 v1),(1,.fn 37 []),(5,tI v2),(7,tI (v1.length:Int)),(8,tI v2),(16,tB v3)],[]⟩ ?_ z0 ?_
   ·kernel_rfl
   refine AOps.nil ?_
   refine AWp.cond rfl (fun hb=>?_) fun hb=>?_
   ·replace h:=of_true h hb
    refine AWp.keepTo [5] 0 ⟨[(5,tI v2)],[]⟩ ?_ z0 ?_
    ·kernel_rfl
    refine AWp.seq ?_
    refine AWp.start [0,1] [] [] [4] 0 ⟨[(4,tI v2)],[]⟩ rfl ?_ z0 trivial ?_
    ·kernel_rfl
    refine AOps.nil ?_
    refine AWp.ret ?_
    cases h
    exact Or.inr ⟨_,rfl,by simp,rfl,rfl⟩
   ·replace h:=of_false h hb
    refine AWp.keepTo [0,1,7,8] 0 ⟨[(0,q5 v1),(1,.fn 37 []),(7,tI (v1.length:Int)),(8,tI v2)],[]⟩ ?_ z0 ?_
    ·kernel_rfl
    refine AWp.skip ?_
    refine AWp.start [0,1] [] [] [0,1,7,8] 0 ⟨[(0,q5 v1),(1,.fn 37 []),(7,tI (v1.length:Int)),(8,tI (w64 (v2 + (1:Int))))],[]⟩ rfl ?_ z0 trivial ?_
    ·kernel_rfl
    refine AOps.nil ?_
    cases h
    exact Or.inl ⟨_,rfl,rfl,rfl⟩
  ·replace h:=of_false h hb
   refine AWp.keepTo [] 0 ⟨[],[]⟩ ?_ z0 ?_
   ·kernel_rfl
   refine AWp.exit ?_
   cases h
   exact Or.inr ⟨_,rfl,by simp,rfl,rfl⟩
 ·intro e σ hp
  rcases y with v4 | _
  ·obtain ⟨rfl,rfl⟩:=hp
   cases h
   exact ⟨.inr rfl,rfl⟩
  ·obtain ⟨rfl,rfl⟩:=hp
   refine AWp.seq ?_
   refine AWp.start [0] [] [] [4] 0 ⟨[(4,tI (-1:Int))],[]⟩ rfl ?_ z0 trivial ?_
   ·kernel_rfl
   refine AOps.nil ?_
   refine AWp.ret ?_
   cases h
   exact ⟨.inr rfl,rfl⟩

noncomputable def f36_37 (v1:List T59):Option Bool :=
 (f60_37 v1).bind fun v2=>some (decide (v2 ≥ (0:Int)))

theorem f36_37_ok (v1:List T59) {r:Bool} (h:f36_37 v1 = some r):ACall Tryz.prog 36 [.tv (fzL 3 c59 v1),.fn 37 []] [] (.tv (.bool r)) []:=by
 refine ACall.of1 (FF 9 0) Tryz.func36 rfl Tryz.ntmps36 Tryz.results36 (zz rfl) rfl rfl ?_
 refine AWp.seq ?_
 refine AWp.start [0] [] [] [0,1] 0 ⟨[(0,q5 v1),(1,.fn 37 [])],[]⟩ rfl ?_ z0 trivial ?_
 ·kernel_rfl
 refine AOps.nil ?_
 refine AWp.seq ?_
 refine AWp.start [0,1] [2,3,4] [] [5,6] 0 ⟨[(5,q5 v1),(6,.fn 37 [])],[]⟩ rfl ?_ z0 trivial ?_
 ·kernel_rfl
 obtain ⟨v2,hv2,h⟩:=of_bind h
 refine AOps.cons (AOne.callP (F:=(FF 9 0)) _ rfl rfl rfl _ rfl rfl _ _ rfl Tryz.call60 [q5 v1,.fn 37 []] rfl rfl (f60_37_ok v1 hv2) rfl) ?_
 refine AOps.go [3,4] [] [] [4] 0 ⟨[(4,tB (decide (v2 ≥ (0:Int))))],[]⟩ ?_ z0 trivial ?_
 ·kernel_rfl
 refine AOps.nil ?_
 refine AWp.ret ?_
 cases h
 exact ⟨.inr rfl,rfl⟩

noncomputable def f70 (v1:Int):Option Bool :=
 (cond (v1 == (1:Int)) (some true) ((f94 v1).bind fun v3=>some (decide (v3 > (0:Int))))).bind fun v2=>some v2

theorem f70_ok (v1:Int) {r:Bool} (h:f70 v1 = some r):ACall Tryz.prog 70 [.tv (.int .i64 v1)] [] (.tv (.bool r)) []:=by
 refine ACall.of1 (FF 10 0) Tryz.func70 rfl Tryz.ntmps70 Tryz.results70 (zz rfl) rfl rfl ?_
 refine AWp.seq ?_
 refine AWp.start [0] [] [] [0] 0 ⟨[(0,tI v1)],[]⟩ rfl ?_ z0 trivial ?_
 ·kernel_rfl
 refine AOps.nil ?_
 refine AWp.seq ?_
 refine AWp.start [0,1,2] [3,4,5,6,7] [] [0,5] 0 ⟨[(0,tI v1),(5,tB (v1 == (1:Int)))],[]⟩ rfl ?_ z0 trivial ?_
 ·kernel_rfl
 obtain ⟨v2,hc3,h⟩:=of_bind h
 refine AOps.cut [3,4,5,6] [7] (fun σ=>σ = ⟨[(9,tB v2)],[]⟩) ?_ fun σ' hJ=>?_
 ·refine AOps.split (fun b=>⟨[(0,tI v1),(5,tB b)],[]⟩) _ (fun hb=>?_) fun hb=>?_
  ·replace hc3:=of_true hc3 hb
   refine AOps.go [3,4,5,6] [] [] [9] 0 ⟨[(9,tB true)],[]⟩ ?_ z0 trivial ?_
   ·kernel_rfl
   cases hc3
   exact AOps.nil rfl
  ·replace hc3:=of_false hc3 hb
   refine AOps.go [3] [4,5,6] [] [5,6] 0 ⟨[(5,tB false),(6,tI v1)],[]⟩ ?_ z0 trivial ?_
   ·kernel_rfl
   obtain ⟨v3,hv3,hc3⟩:=of_bind hc3
   refine AOps.cons (AOne.callP (F:=(FF 10 0)) _ rfl rfl rfl _ rfl rfl _ _ rfl Tryz.call94 [tI v1] rfl rfl (f94_ok v1 hv3) rfl) ?_
   refine AOps.go [5,6] [] [] [9] 0 ⟨[(9,tB (decide (v3 > (0:Int))))],[]⟩ ?_ z0 trivial ?_
   ·kernel_rfl
   cases hc3
   exact AOps.nil rfl
 subst hJ
 refine AOps.go [7] [] [] [2] 0 ⟨[(2,tB v2)],[]⟩ ?_ z0 trivial ?_
 ·kernel_rfl
 refine AOps.nil ?_
 refine AWp.ret ?_
 cases h
 exact ⟨.inr rfl,rfl⟩

noncomputable def f95 (v1:List UInt8) (v2:Int) (v3:Int):Option Int :=
 (cond (v3 == (0:Int)) ((cond (v1 == ([43]:List UInt8)) (some true) (some (v1 == ([45]:List UInt8)))).bind fun v5=>some v5) (some false)).bind fun v4=>(cond v4 ((f70 v2).bind fun v7=>some v7) (some false)).bind fun v6=>cond v6 (some v2) ((cond (v3 == (0:Int)) (some (v1 == ([46,110,111,116,46]:List UInt8))) (some false)).bind fun v8=>(cond v8 (some (v2 == (2:Int))) (some false)).bind fun v9=>cond v9 (some v2) (cond (v3 == (0:Int)) (some (0:Int)) ((f58 ([([43]:List UInt8),([45]:List UInt8),([42]:List UInt8),([47]:List UInt8)]) v1).bind fun v10=>(cond v10 ((f70 v2).bind fun v12=>some v12) (some false)).bind fun v11=>(cond v11 ((f70 v3).bind fun v14=>some v14) (some false)).bind fun v13=>cond v13 (some (if v3 > v2 then v3 else v2)) ((f58 ([([61,61]:List UInt8),([47,61]:List UInt8),([60]:List UInt8),([60,61]:List UInt8),([62]:List UInt8),([62,61]:List UInt8)]) v1).bind fun v15=>(cond v15 ((f70 v2).bind fun v17=>some v17) (some false)).bind fun v16=>(cond v16 ((f70 v3).bind fun v19=>some v19) (some false)).bind fun v18=>cond v18 (some (2:Int)) ((f58 ([([61,61]:List UInt8),([47,61]:List UInt8),([46,97,110,100,46]:List UInt8),([46,111,114,46]:List UInt8)]) v1).bind fun v20=>(cond v20 (some (v2 == (2:Int))) (some false)).bind fun v21=>(cond v21 (some (v3 == (2:Int))) (some false)).bind fun v22=>cond v22 (some (2:Int)) (some (0:Int)))))))

theorem f95_ok (v1:List UInt8) (v2:Int) (v3:Int) {r:Int} (h:f95 v1 v2 v3 = some r):ACall Tryz.prog 95 [.tv (.str v1),.tv (.int .i64 v2),.tv (.int .i64 v3)] [] (.tv (.int .i64 r)) []:=by
 refine ACall.of1 (FF 77 0) Tryz.func95 rfl Tryz.ntmps95 Tryz.results95 (zz rfl) rfl rfl ?_
 refine AWp.seq ?_
 refine AWp.start [0] [] [] [0,1,2] 0 ⟨[(0,tS v1),(1,tI v2),(2,tI v3)],[]⟩ rfl ?_ z0 trivial ?_
 ·kernel_rfl
 refine AOps.nil ?_
 refine AWp.seq ?_
 refine AWp.block ?_
 refine AWp.seq ?_
 refine AWp.start [0,1,2] [3,4,5,6,7,8,9,10,11,12,13,14] [] [0,1,2,10] 0 ⟨[(0,tS v1),(1,tI v2),(2,tI v3),(10,tB (v3 == (0:Int)))],[]⟩ rfl ?_ z0 trivial ?_
 ·kernel_rfl
 obtain ⟨v4,hc3,h⟩:=of_bind h
 refine AOps.cut [3,4,5,6,7,8,9] [10,11,12,13,14] (fun σ=>σ = ⟨[(0,tS v1),(1,tI v2),(2,tI v3),(17,tB v4)],[]⟩) ?_ fun σ' hJ=>?_
 ·refine AOps.split (fun b=>⟨[(0,tS v1),(1,tI v2),(2,tI v3),(10,tB b)],[]⟩) _ (fun hb=>?_) fun hb=>?_
  ·replace hc3:=of_true hc3 hb
   refine AOps.go [3,4,5] [6,7,8,9] [] [0,1,2,10,13] 0 ⟨[(0,tS v1),(1,tI v2),(2,tI v3),(10,tB true),(13,tB (v1 == ([43]:List UInt8)))],[]⟩ ?_ z0 trivial ?_
   ·kernel_rfl
   obtain ⟨v5,hc6,hc3⟩:=of_bind hc3
   refine AOps.cut [6,7,8] [9] (fun σ=>σ = ⟨[(0,tS v1),(1,tI v2),(2,tI v3),(10,tB true),(16,tB v5)],[]⟩) ?_ fun σ' hJ=>?_
   ·refine AOps.split (fun b=>⟨[(0,tS v1),(1,tI v2),(2,tI v3),(10,tB true),(13,tB b)],[]⟩) _ (fun hb=>?_) fun hb=>?_
    ·replace hc6:=of_true hc6 hb
     refine AOps.go [6,7,8] [] [] [0,1,2,10,16] 0 ⟨[(0,tS v1),(1,tI v2),(2,tI v3),(10,tB true),(16,tB true)],[]⟩ ?_ z0 trivial ?_
     ·kernel_rfl
     cases hc6
     exact AOps.nil rfl
    ·replace hc6:=of_false hc6 hb
     refine AOps.go [6,7,8] [] [] [0,1,2,10,16] 0 ⟨[(0,tS v1),(1,tI v2),(2,tI v3),(10,tB true),(16,tB (v1 == ([45]:List UInt8)))],[]⟩ ?_ z0 trivial ?_
     ·kernel_rfl
     cases hc6
     exact AOps.nil rfl
   subst hJ
   refine AOps.go [9] [] [] [0,1,2,17] 0 ⟨[(0,tS v1),(1,tI v2),(2,tI v3),(17,tB v5)],[]⟩ ?_ z0 trivial ?_
   ·kernel_rfl
   cases hc3
   exact AOps.nil rfl
  ·replace hc3:=of_false hc3 hb
   refine AOps.go [3,4,5,6,7,8,9] [] [] [0,1,2,17] 0 ⟨[(0,tS v1),(1,tI v2),(2,tI v3),(17,tB false)],[]⟩ ?_ z0 trivial ?_
   ·kernel_rfl
   cases hc3
   exact AOps.nil rfl
 subst hJ
 refine AOps.go [10] [11,12,13,14] [] [0,1,2,18] 0 ⟨[(0,tS v1),(1,tI v2),(2,tI v3),(18,tB v4)],[]⟩ ?_ z0 trivial ?_
 ·kernel_rfl
 obtain ⟨v6,hc11,h⟩:=of_bind h
 refine AOps.cut [11,12,13] [14] (fun σ=>σ = ⟨[(0,tS v1),(1,tI v2),(2,tI v3),(21,tB v6)],[]⟩) ?_ fun σ' hJ=>?_
 ·refine AOps.split (fun b=>⟨[(0,tS v1),(1,tI v2),(2,tI v3),(18,tB b)],[]⟩) _ (fun hb=>?_) fun hb=>?_
  ·replace hc11:=of_true hc11 hb
   refine AOps.go [11] [12,13] [] [0,1,2,18,19] 0 ⟨[(0,tS v1),(1,tI v2),(2,tI v3),(18,tB true),(19,tI v2)],[]⟩ ?_ z0 trivial ?_
   ·kernel_rfl
   obtain ⟨v7,hv7,hc11⟩:=of_bind hc11
   refine AOps.cons (AOne.callP (F:=(FF 77 0)) _ rfl rfl rfl _ rfl rfl _ _ rfl Tryz.call70 [tI v2] rfl rfl (f70_ok v2 hv7) rfl) ?_
   refine AOps.go [13] [] [] [0,1,2,21] 0 ⟨[(0,tS v1),(1,tI v2),(2,tI v3),(21,tB v7)],[]⟩ ?_ z0 trivial ?_
   ·kernel_rfl
   cases hc11
   exact AOps.nil rfl
  ·replace hc11:=of_false hc11 hb
   refine AOps.go [11,12,13] [] [] [0,1,2,21] 0 ⟨[(0,tS v1),(1,tI v2),(2,tI v3),(21,tB false)],[]⟩ ?_ z0 trivial ?_
   ·kernel_rfl
   cases hc11
   exact AOps.nil rfl
 subst hJ
 refine AOps.go [14] [] [] [0,1,2,7] 0 ⟨[(0,tS v1),(1,tI v2),(2,tI v3),(7,tB v6)],[]⟩ ?_ z0 trivial ?_
 ·kernel_rfl
 refine AOps.nil ?_
 refine AWp.cond rfl (fun hb=>?_) fun hb=>?_
 ·replace h:=of_true h hb
  refine AWp.keepTo [1] 0 ⟨[(1,tI v2)],[]⟩ ?_ z0 ?_
  ·kernel_rfl
  refine AWp.seq ?_
  refine AWp.start [0,1] [] [] [6] 0 ⟨[(6,tI v2)],[]⟩ rfl ?_ z0 trivial ?_
  ·kernel_rfl
  refine AOps.nil ?_
  refine AWp.ret ?_
  cases h
  exact ⟨.inr rfl,rfl⟩
 ·replace h:=of_false h hb
  refine AWp.keepTo [0,1,2] 0 ⟨[(0,tS v1),(1,tI v2),(2,tI v3)],[]⟩ ?_ z0 ?_
  ·kernel_rfl
  refine AWp.seq ?_
  refine AWp.start [0,1,2] [3,4,5,6,7,8,9,10] [] [0,1,2,26] 0 ⟨[(0,tS v1),(1,tI v2),(2,tI v3),(26,tB (v3 == (0:Int)))],[]⟩ rfl ?_ z0 trivial ?_
  ·kernel_rfl
  obtain ⟨v8,hc3,h⟩:=of_bind h
  refine AOps.cut [3,4,5] [6,7,8,9,10] (fun σ=>σ = ⟨[(0,tS v1),(1,tI v2),(2,tI v3),(29,tB v8)],[]⟩) ?_ fun σ' hJ=>?_
  ·refine AOps.split (fun b=>⟨[(0,tS v1),(1,tI v2),(2,tI v3),(26,tB b)],[]⟩) _ (fun hb=>?_) fun hb=>?_
   ·replace hc3:=of_true hc3 hb
    refine AOps.go [3,4,5] [] [] [0,1,2,29] 0 ⟨[(0,tS v1),(1,tI v2),(2,tI v3),(29,tB (v1 == ([46,110,111,116,46]:List UInt8)))],[]⟩ ?_ z0 trivial ?_
    ·kernel_rfl
    cases hc3
    exact AOps.nil rfl
   ·replace hc3:=of_false hc3 hb
    refine AOps.go [3,4,5] [] [] [0,1,2,29] 0 ⟨[(0,tS v1),(1,tI v2),(2,tI v3),(29,tB false)],[]⟩ ?_ z0 trivial ?_
    ·kernel_rfl
    cases hc3
    exact AOps.nil rfl
  subst hJ
  refine AOps.go [6] [7,8,9,10] [] [0,1,2,30] 0 ⟨[(0,tS v1),(1,tI v2),(2,tI v3),(30,tB v8)],[]⟩ ?_ z0 trivial ?_
  ·kernel_rfl
  obtain ⟨v9,hc7,h⟩:=of_bind h
  refine AOps.cut [7,8,9] [10] (fun σ=>σ = ⟨[(0,tS v1),(1,tI v2),(2,tI v3),(33,tB v9)],[]⟩) ?_ fun σ' hJ=>?_
  ·refine AOps.split (fun b=>⟨[(0,tS v1),(1,tI v2),(2,tI v3),(30,tB b)],[]⟩) _ (fun hb=>?_) fun hb=>?_
   ·replace hc7:=of_true hc7 hb
    refine AOps.go [7,8,9] [] [] [0,1,2,33] 0 ⟨[(0,tS v1),(1,tI v2),(2,tI v3),(33,tB (v2 == (2:Int)))],[]⟩ ?_ z0 trivial ?_
    ·kernel_rfl
    cases hc7
    exact AOps.nil rfl
   ·replace hc7:=of_false hc7 hb
    refine AOps.go [7,8,9] [] [] [0,1,2,33] 0 ⟨[(0,tS v1),(1,tI v2),(2,tI v3),(33,tB false)],[]⟩ ?_ z0 trivial ?_
    ·kernel_rfl
    cases hc7
    exact AOps.nil rfl
  subst hJ
  refine AOps.go [10] [] [] [0,1,2,23] 0 ⟨[(0,tS v1),(1,tI v2),(2,tI v3),(23,tB v9)],[]⟩ ?_ z0 trivial ?_
  ·kernel_rfl
  refine AOps.nil ?_
  refine AWp.cond rfl (fun hb=>?_) fun hb=>?_
  ·replace h:=of_true h hb
   refine AWp.keepTo [1] 0 ⟨[(1,tI v2)],[]⟩ ?_ z0 ?_
   ·kernel_rfl
   refine AWp.seq ?_
   refine AWp.start [0,1] [] [] [6] 0 ⟨[(6,tI v2)],[]⟩ rfl ?_ z0 trivial ?_
   ·kernel_rfl
   refine AOps.nil ?_
   refine AWp.ret ?_
   cases h
   exact ⟨.inr rfl,rfl⟩
  ·replace h:=of_false h hb
   refine AWp.keepTo [0,1,2] 0 ⟨[(0,tS v1),(1,tI v2),(2,tI v3)],[]⟩ ?_ z0 ?_
   ·kernel_rfl
   refine AWp.seq ?_
   refine AWp.start [0,1,2] [] [] [0,1,2,35] 0 ⟨[(0,tS v1),(1,tI v2),(2,tI v3),(35,tB (v3 == (0:Int)))],[]⟩ rfl ?_ z0 trivial ?_
   ·kernel_rfl
   refine AOps.nil ?_
   refine AWp.cond rfl (fun hb=>?_) fun hb=>?_
   ·replace h:=of_true h hb
    refine AWp.keepTo [] 0 ⟨[],[]⟩ ?_ z0 ?_
    ·kernel_rfl
    refine AWp.seq ?_
    refine AWp.start [0] [] [] [6] 0 ⟨[(6,tI (0:Int))],[]⟩ rfl ?_ z0 trivial ?_
    ·kernel_rfl
    refine AOps.nil ?_
    refine AWp.ret ?_
    cases h
    exact ⟨.inr rfl,rfl⟩
   ·replace h:=of_false h hb
    refine AWp.keepTo [0,1,2] 0 ⟨[(0,tS v1),(1,tI v2),(2,tI v3)],[]⟩ ?_ z0 ?_
    ·kernel_rfl
    refine AWp.seq ?_
    refine AWp.start [0] [1,2,3,4,5,6,7,8,9,10,11] [] [0,1,2,39] 0 ⟨[(0,tS v1),(1,tI v2),(2,tI v3),(39,.tv (.own 1 9 4 (newRowF [.str ([43]:List UInt8),.str ([45]:List UInt8),.str ([42]:List UInt8),.str ([47]:List UInt8)] 1)))],[]⟩ rfl ?_ z0 trivial ?_
    ·kernel_rfl
    refine AOps.extL 39 cStr ([([43]:List UInt8),([45]:List UInt8),([42]:List UInt8),([47]:List UInt8)]) rfl rfl (row_at cStr 1 (fun _=>rfl) [([43]:List UInt8),([45]:List UInt8),([42]:List UInt8),([47]:List UInt8)] _ rfl) ?_
    refine AOps.freezeL 39 cStr ([([43]:List UInt8),([45]:List UInt8),([42]:List UInt8),([47]:List UInt8)]) rfl (fun _=>rfl) ?_
    refine AOps.go [1] [2,3,4,5,6,7,8,9,10,11] [] [0,1,2,39,40] 0 ⟨[(0,tS v1),(1,tI v2),(2,tI v3),(39,q4 ([([43]:List UInt8),([45]:List UInt8),([42]:List UInt8),([47]:List UInt8)])),(40,tS v1)],[]⟩ ?_ z0 trivial ?_
    ·kernel_rfl
    obtain ⟨v10,hv10,h⟩:=of_bind h
    refine AOps.cons (AOne.callP (F:=(FF 77 0)) _ rfl rfl rfl _ rfl rfl _ _ rfl Tryz.call58 [q4 ([([43]:List UInt8),([45]:List UInt8),([42]:List UInt8),([47]:List UInt8)]),tS v1] rfl rfl (f58_ok ([([43]:List UInt8),([45]:List UInt8),([42]:List UInt8),([47]:List UInt8)]) v1 hv10) rfl) ?_
    refine AOps.go [3] [4,5,6,7,8,9,10,11] [] [0,1,2,42] 0 ⟨[(0,tS v1),(1,tI v2),(2,tI v3),(42,tB v10)],[]⟩ ?_ z0 trivial ?_
    ·kernel_rfl
    obtain ⟨v11,hc4,h⟩:=of_bind h
    refine AOps.cut [4,5,6] [7,8,9,10,11] (fun σ=>σ = ⟨[(0,tS v1),(1,tI v2),(2,tI v3),(45,tB v11)],[]⟩) ?_ fun σ' hJ=>?_
    ·refine AOps.split (fun b=>⟨[(0,tS v1),(1,tI v2),(2,tI v3),(42,tB b)],[]⟩) _ (fun hb=>?_) fun hb=>?_
     ·replace hc4:=of_true hc4 hb
      refine AOps.go [4] [5,6] [] [0,1,2,42,43] 0 ⟨[(0,tS v1),(1,tI v2),(2,tI v3),(42,tB true),(43,tI v2)],[]⟩ ?_ z0 trivial ?_
      ·kernel_rfl
      obtain ⟨v12,hv12,hc4⟩:=of_bind hc4
      refine AOps.cons (AOne.callP (F:=(FF 77 0)) _ rfl rfl rfl _ rfl rfl _ _ rfl Tryz.call70 [tI v2] rfl rfl (f70_ok v2 hv12) rfl) ?_
      refine AOps.go [6] [] [] [0,1,2,45] 0 ⟨[(0,tS v1),(1,tI v2),(2,tI v3),(45,tB v12)],[]⟩ ?_ z0 trivial ?_
      ·kernel_rfl
      cases hc4
      exact AOps.nil rfl
     ·replace hc4:=of_false hc4 hb
      refine AOps.go [4,5,6] [] [] [0,1,2,45] 0 ⟨[(0,tS v1),(1,tI v2),(2,tI v3),(45,tB false)],[]⟩ ?_ z0 trivial ?_
      ·kernel_rfl
      cases hc4
      exact AOps.nil rfl
    subst hJ
    refine AOps.go [7] [8,9,10,11] [] [0,1,2,46] 0 ⟨[(0,tS v1),(1,tI v2),(2,tI v3),(46,tB v11)],[]⟩ ?_ z0 trivial ?_
    ·kernel_rfl
    obtain ⟨v13,hc8,h⟩:=of_bind h
    refine AOps.cut [8,9,10] [11] (fun σ=>σ = ⟨[(0,tS v1),(1,tI v2),(2,tI v3),(49,tB v13)],[]⟩) ?_ fun σ' hJ=>?_
    ·refine AOps.split (fun b=>⟨[(0,tS v1),(1,tI v2),(2,tI v3),(46,tB b)],[]⟩) _ (fun hb=>?_) fun hb=>?_
     ·replace hc8:=of_true hc8 hb
      refine AOps.go [8] [9,10] [] [0,1,2,46,47] 0 ⟨[(0,tS v1),(1,tI v2),(2,tI v3),(46,tB true),(47,tI v3)],[]⟩ ?_ z0 trivial ?_
      ·kernel_rfl
      obtain ⟨v14,hv14,hc8⟩:=of_bind hc8
      refine AOps.cons (AOne.callP (F:=(FF 77 0)) _ rfl rfl rfl _ rfl rfl _ _ rfl Tryz.call70 [tI v3] rfl rfl (f70_ok v3 hv14) rfl) ?_
      refine AOps.go [10] [] [] [0,1,2,49] 0 ⟨[(0,tS v1),(1,tI v2),(2,tI v3),(49,tB v14)],[]⟩ ?_ z0 trivial ?_
      ·kernel_rfl
      cases hc8
      exact AOps.nil rfl
     ·replace hc8:=of_false hc8 hb
      refine AOps.go [8,9,10] [] [] [0,1,2,49] 0 ⟨[(0,tS v1),(1,tI v2),(2,tI v3),(49,tB false)],[]⟩ ?_ z0 trivial ?_
      ·kernel_rfl
      cases hc8
      exact AOps.nil rfl
    subst hJ
    refine AOps.go [11] [] [] [0,1,2,38] 0 ⟨[(0,tS v1),(1,tI v2),(2,tI v3),(38,tB v13)],[]⟩ ?_ z0 trivial ?_
    ·kernel_rfl
    refine AOps.nil ?_
    refine AWp.cond rfl (fun hb=>?_) fun hb=>?_
    ·replace h:=of_true h hb
     refine AWp.keepTo [1,2] 0 ⟨[(1,tI v2),(2,tI v3)],[]⟩ ?_ z0 ?_
     ·kernel_rfl
     refine AWp.seq ?_
     refine AWp.start [0,1,2,3] [] [] [6] 0 ⟨[(6,tI (if v3 > v2 then v3 else v2))],[]⟩ rfl ?_ z0 trivial ?_
     ·kernel_rfl
     refine AOps.nil ?_
     refine AWp.ret ?_
     cases h
     exact ⟨.inr rfl,rfl⟩
    ·replace h:=of_false h hb
     refine AWp.keepTo [0,1,2] 0 ⟨[(0,tS v1),(1,tI v2),(2,tI v3)],[]⟩ ?_ z0 ?_
     ·kernel_rfl
     refine AWp.seq ?_
     refine AWp.start [0] [1,2,3,4,5,6,7,8,9,10,11] [] [0,1,2,54] 0 ⟨[(0,tS v1),(1,tI v2),(2,tI v3),(54,.tv (.own 1 9 6 (newRowF [.str ([61,61]:List UInt8),.str ([47,61]:List UInt8),.str ([60]:List UInt8),.str ([60,61]:List UInt8),.str ([62]:List UInt8),.str ([62,61]:List UInt8)] 1)))],[]⟩ rfl ?_ z0 trivial ?_
     ·kernel_rfl
     refine AOps.extL 54 cStr ([([61,61]:List UInt8),([47,61]:List UInt8),([60]:List UInt8),([60,61]:List UInt8),([62]:List UInt8),([62,61]:List UInt8)]) rfl rfl (row_at cStr 1 (fun _=>rfl) [([61,61]:List UInt8),([47,61]:List UInt8),([60]:List UInt8),([60,61]:List UInt8),([62]:List UInt8),([62,61]:List UInt8)] _ rfl) ?_
     refine AOps.freezeL 54 cStr ([([61,61]:List UInt8),([47,61]:List UInt8),([60]:List UInt8),([60,61]:List UInt8),([62]:List UInt8),([62,61]:List UInt8)]) rfl (fun _=>rfl) ?_
     refine AOps.go [1] [2,3,4,5,6,7,8,9,10,11] [] [0,1,2,54,55] 0 ⟨[(0,tS v1),(1,tI v2),(2,tI v3),(54,q4 ([([61,61]:List UInt8),([47,61]:List UInt8),([60]:List UInt8),([60,61]:List UInt8),([62]:List UInt8),([62,61]:List UInt8)])),(55,tS v1)],[]⟩ ?_ z0 trivial ?_
     ·kernel_rfl
     obtain ⟨v15,hv15,h⟩:=of_bind h
     refine AOps.cons (AOne.callP (F:=(FF 77 0)) _ rfl rfl rfl _ rfl rfl _ _ rfl Tryz.call58 [q4 ([([61,61]:List UInt8),([47,61]:List UInt8),([60]:List UInt8),([60,61]:List UInt8),([62]:List UInt8),([62,61]:List UInt8)]),tS v1] rfl rfl (f58_ok ([([61,61]:List UInt8),([47,61]:List UInt8),([60]:List UInt8),([60,61]:List UInt8),([62]:List UInt8),([62,61]:List UInt8)]) v1 hv15) rfl) ?_
     refine AOps.go [3] [4,5,6,7,8,9,10,11] [] [0,1,2,57] 0 ⟨[(0,tS v1),(1,tI v2),(2,tI v3),(57,tB v15)],[]⟩ ?_ z0 trivial ?_
     ·kernel_rfl
     obtain ⟨v16,hc4,h⟩:=of_bind h
     refine AOps.cut [4,5,6] [7,8,9,10,11] (fun σ=>σ = ⟨[(0,tS v1),(1,tI v2),(2,tI v3),(60,tB v16)],[]⟩) ?_ fun σ' hJ=>?_
     ·refine AOps.split (fun b=>⟨[(0,tS v1),(1,tI v2),(2,tI v3),(57,tB b)],[]⟩) _ (fun hb=>?_) fun hb=>?_
      ·replace hc4:=of_true hc4 hb
       refine AOps.go [4] [5,6] [] [0,1,2,57,58] 0 ⟨[(0,tS v1),(1,tI v2),(2,tI v3),(57,tB true),(58,tI v2)],[]⟩ ?_ z0 trivial ?_
       ·kernel_rfl
       obtain ⟨v17,hv17,hc4⟩:=of_bind hc4
       refine AOps.cons (AOne.callP (F:=(FF 77 0)) _ rfl rfl rfl _ rfl rfl _ _ rfl Tryz.call70 [tI v2] rfl rfl (f70_ok v2 hv17) rfl) ?_
       refine AOps.go [6] [] [] [0,1,2,60] 0 ⟨[(0,tS v1),(1,tI v2),(2,tI v3),(60,tB v17)],[]⟩ ?_ z0 trivial ?_
       ·kernel_rfl
       cases hc4
       exact AOps.nil rfl
      ·replace hc4:=of_false hc4 hb
       refine AOps.go [4,5,6] [] [] [0,1,2,60] 0 ⟨[(0,tS v1),(1,tI v2),(2,tI v3),(60,tB false)],[]⟩ ?_ z0 trivial ?_
       ·kernel_rfl
       cases hc4
       exact AOps.nil rfl
     subst hJ
     refine AOps.go [7] [8,9,10,11] [] [0,1,2,61] 0 ⟨[(0,tS v1),(1,tI v2),(2,tI v3),(61,tB v16)],[]⟩ ?_ z0 trivial ?_
     ·kernel_rfl
     obtain ⟨v18,hc8,h⟩:=of_bind h
     refine AOps.cut [8,9,10] [11] (fun σ=>σ = ⟨[(0,tS v1),(1,tI v2),(2,tI v3),(64,tB v18)],[]⟩) ?_ fun σ' hJ=>?_
     ·refine AOps.split (fun b=>⟨[(0,tS v1),(1,tI v2),(2,tI v3),(61,tB b)],[]⟩) _ (fun hb=>?_) fun hb=>?_
      ·replace hc8:=of_true hc8 hb
       refine AOps.go [8] [9,10] [] [0,1,2,61,62] 0 ⟨[(0,tS v1),(1,tI v2),(2,tI v3),(61,tB true),(62,tI v3)],[]⟩ ?_ z0 trivial ?_
       ·kernel_rfl
       obtain ⟨v19,hv19,hc8⟩:=of_bind hc8
       refine AOps.cons (AOne.callP (F:=(FF 77 0)) _ rfl rfl rfl _ rfl rfl _ _ rfl Tryz.call70 [tI v3] rfl rfl (f70_ok v3 hv19) rfl) ?_
       refine AOps.go [10] [] [] [0,1,2,64] 0 ⟨[(0,tS v1),(1,tI v2),(2,tI v3),(64,tB v19)],[]⟩ ?_ z0 trivial ?_
       ·kernel_rfl
       cases hc8
       exact AOps.nil rfl
      ·replace hc8:=of_false hc8 hb
       refine AOps.go [8,9,10] [] [] [0,1,2,64] 0 ⟨[(0,tS v1),(1,tI v2),(2,tI v3),(64,tB false)],[]⟩ ?_ z0 trivial ?_
       ·kernel_rfl
       cases hc8
       exact AOps.nil rfl
     subst hJ
     refine AOps.go [11] [] [] [0,1,2,53] 0 ⟨[(0,tS v1),(1,tI v2),(2,tI v3),(53,tB v18)],[]⟩ ?_ z0 trivial ?_
     ·kernel_rfl
     refine AOps.nil ?_
     refine AWp.cond rfl (fun hb=>?_) fun hb=>?_
     ·replace h:=of_true h hb
      refine AWp.keepTo [] 0 ⟨[],[]⟩ ?_ z0 ?_
      ·kernel_rfl
      refine AWp.seq ?_
      refine AWp.start [0] [] [] [6] 0 ⟨[(6,tI (2:Int))],[]⟩ rfl ?_ z0 trivial ?_
      ·kernel_rfl
      refine AOps.nil ?_
      refine AWp.ret ?_
      cases h
      exact ⟨.inr rfl,rfl⟩
     ·replace h:=of_false h hb
      refine AWp.keepTo [0,1,2] 0 ⟨[(0,tS v1),(1,tI v2),(2,tI v3)],[]⟩ ?_ z0 ?_
      ·kernel_rfl
      refine AWp.seq ?_
      refine AWp.start [0] [1,2,3,4,5,6,7,8,9,10,11] [] [0,1,2,66] 0 ⟨[(0,tS v1),(1,tI v2),(2,tI v3),(66,.tv (.own 1 9 4 (newRowF [.str ([61,61]:List UInt8),.str ([47,61]:List UInt8),.str ([46,97,110,100,46]:List UInt8),.str ([46,111,114,46]:List UInt8)] 1)))],[]⟩ rfl ?_ z0 trivial ?_
      ·kernel_rfl
      refine AOps.extL 66 cStr ([([61,61]:List UInt8),([47,61]:List UInt8),([46,97,110,100,46]:List UInt8),([46,111,114,46]:List UInt8)]) rfl rfl (row_at cStr 1 (fun _=>rfl) [([61,61]:List UInt8),([47,61]:List UInt8),([46,97,110,100,46]:List UInt8),([46,111,114,46]:List UInt8)] _ rfl) ?_
      refine AOps.freezeL 66 cStr ([([61,61]:List UInt8),([47,61]:List UInt8),([46,97,110,100,46]:List UInt8),([46,111,114,46]:List UInt8)]) rfl (fun _=>rfl) ?_
      refine AOps.go [1] [2,3,4,5,6,7,8,9,10,11] [] [1,2,66,67] 0 ⟨[(1,tI v2),(2,tI v3),(66,q4 ([([61,61]:List UInt8),([47,61]:List UInt8),([46,97,110,100,46]:List UInt8),([46,111,114,46]:List UInt8)])),(67,tS v1)],[]⟩ ?_ z0 trivial ?_
      ·kernel_rfl
      obtain ⟨v20,hv20,h⟩:=of_bind h
      refine AOps.cons (AOne.callP (F:=(FF 77 0)) _ rfl rfl rfl _ rfl rfl _ _ rfl Tryz.call58 [q4 ([([61,61]:List UInt8),([47,61]:List UInt8),([46,97,110,100,46]:List UInt8),([46,111,114,46]:List UInt8)]),tS v1] rfl rfl (f58_ok ([([61,61]:List UInt8),([47,61]:List UInt8),([46,97,110,100,46]:List UInt8),([46,111,114,46]:List UInt8)]) v1 hv20) rfl) ?_
      refine AOps.go [3] [4,5,6,7,8,9,10,11] [] [1,2,69] 0 ⟨[(1,tI v2),(2,tI v3),(69,tB v20)],[]⟩ ?_ z0 trivial ?_
      ·kernel_rfl
      obtain ⟨v21,hc4,h⟩:=of_bind h
      refine AOps.cut [4,5,6] [7,8,9,10,11] (fun σ=>σ = ⟨[(2,tI v3),(72,tB v21)],[]⟩) ?_ fun σ' hJ=>?_
      ·refine AOps.split (fun b=>⟨[(1,tI v2),(2,tI v3),(69,tB b)],[]⟩) _ (fun hb=>?_) fun hb=>?_
       ·replace hc4:=of_true hc4 hb
        refine AOps.go [4,5,6] [] [] [2,72] 0 ⟨[(2,tI v3),(72,tB (v2 == (2:Int)))],[]⟩ ?_ z0 trivial ?_
        ·kernel_rfl
        cases hc4
        exact AOps.nil rfl
       ·replace hc4:=of_false hc4 hb
        refine AOps.go [4,5,6] [] [] [2,72] 0 ⟨[(2,tI v3),(72,tB false)],[]⟩ ?_ z0 trivial ?_
        ·kernel_rfl
        cases hc4
        exact AOps.nil rfl
      subst hJ
      refine AOps.go [7] [8,9,10,11] [] [2,73] 0 ⟨[(2,tI v3),(73,tB v21)],[]⟩ ?_ z0 trivial ?_
      ·kernel_rfl
      obtain ⟨v22,hc8,h⟩:=of_bind h
      refine AOps.cut [8,9,10] [11] (fun σ=>σ = ⟨[(76,tB v22)],[]⟩) ?_ fun σ' hJ=>?_
      ·refine AOps.split (fun b=>⟨[(2,tI v3),(73,tB b)],[]⟩) _ (fun hb=>?_) fun hb=>?_
       ·replace hc8:=of_true hc8 hb
        refine AOps.go [8,9,10] [] [] [76] 0 ⟨[(76,tB (v3 == (2:Int)))],[]⟩ ?_ z0 trivial ?_
        ·kernel_rfl
        cases hc8
        exact AOps.nil rfl
       ·replace hc8:=of_false hc8 hb
        refine AOps.go [8,9,10] [] [] [76] 0 ⟨[(76,tB false)],[]⟩ ?_ z0 trivial ?_
        ·kernel_rfl
        cases hc8
        exact AOps.nil rfl
      subst hJ
      refine AOps.go [11] [] [] [65] 0 ⟨[(65,tB v22)],[]⟩ ?_ z0 trivial ?_
      ·kernel_rfl
      refine AOps.nil ?_
      refine AWp.cond rfl (fun hb=>?_) fun hb=>?_
      ·replace h:=of_true h hb
       refine AWp.keepTo [] 0 ⟨[],[]⟩ ?_ z0 ?_
       ·kernel_rfl
       refine AWp.seq ?_
       refine AWp.start [0] [] [] [6] 0 ⟨[(6,tI (2:Int))],[]⟩ rfl ?_ z0 trivial ?_
       ·kernel_rfl
       refine AOps.nil ?_
       refine AWp.ret ?_
       cases h
       exact ⟨.inr rfl,rfl⟩
      ·replace h:=of_false h hb
       refine AWp.keepTo [] 0 ⟨[],[]⟩ ?_ z0 ?_
       ·kernel_rfl
       refine AWp.skip ?_
       refine AWp.seq ?_
       refine AWp.start [0] [] [] [6] 0 ⟨[(6,tI (0:Int))],[]⟩ rfl ?_ z0 trivial ?_
       ·kernel_rfl
       refine AOps.nil ?_
       refine AWp.ret ?_
       cases h
       exact ⟨.inr rfl,rfl⟩

abbrev hp3:List AObj:=[.dead,.cells 129 [.int .i64 (0:Int),.int .i64 (0:Int)]]

noncomputable def f97 (v1:Int) (v2:T128):Option (T128 × Int) :=
 cond (v1 == v2.f0) (some (v2,(0:Int))) ((f70 v1).bind fun v3=>(cond (!v3) (some true) ((f70 v2.f0).bind fun v5=>some (!v5))).bind fun v4=>cond v4 (some (T128.mk (0:Int) (0:Int),(70:Int))) (cond (v2.f0 == (1:Int)) none (cond (v1 == (1:Int)) none none)))

theorem f97_ok (v1:Int) (v2:T128) {r:T128 × Int} (h:f97 v1 v2 = some r):ACall Tryz.prog 97 [.tv (.int .i64 v1),.agg [.int .i64 v2.f0,.int .i64 v2.f1]] [] (.tup [.agg [.int .i64 r.1.f0,.int .i64 r.1.f1],.tv (.int .i64 r.2)]) []:=by
 refine ACall.ofNc (FF 87 0) (rs:=[4,5]) (sv:=(.agg [.int .i64 r.1.f0,.int .i64 r.1.f1])) (cells0:=[.int .i64 r.1.f0,.int .i64 r.1.f1]) 4 129 (env0:=[(4,.rp [.int .i64 r.1.f0,.int .i64 r.1.f1]),(5,tI r.2)]) (env:=[(4,.agg [.int .i64 r.1.f0,.int .i64 r.1.f1]),(5,tI r.2)]) Tryz.func97 rfl Tryz.ntmps97 (by kernel_rfl) (by decide) (by decide) rfl (zz rfl) rfl rfl rfl (by kernel_rfl) rfl [4,5] 0 z0 rfl (get_ofN _ _ _ rfl) (ok_ofN _ rfl) ?_
 refine AWp.seq ?_
 refine AWp.start [0,1,2] [] [] [0,3,4] 2 ⟨[(0,tI v1),(3,.pc 0 0),(4,.pc 1 0)],[.cells 129 (c128 v2),.cells 129 [.int .i64 (0:Int),.int .i64 (0:Int)]]⟩ rfl ?_ z0 trivial ?_
 ·kernel_rfl
 refine AOps.nil ?_
 refine AWp.seq ?_
 refine AWp.pin 0 rfl rfl ?_
 refine AWp.keepTo [0,3,4] 2 ⟨[(0,tI v1),(3,.rp (c128 v2)),(4,.pc 1 0)],hp3⟩ ?_ z0 ?_
 ·kernel_rfl
 refine AWp.block ?_
 refine AWp.seq ?_
 refine AWp.start [0,1,2,3,4] [] [] [0,3,4,15] 2 ⟨[(0,tI v1),(3,.rp (c128 v2)),(4,.pc 1 0),(15,tB (v1 == v2.f0))],hp3⟩ rfl ?_ z0 trivial ?_
 ·kernel_rfl
 refine AOps.nil ?_
 refine AWp.cond rfl (fun hb=>?_) fun hb=>?_
 ·replace h:=of_true h hb
  refine AWp.keepTo [3,4] 2 ⟨[(3,.rp (c128 v2)),(4,.pc 1 0)],hp3⟩ ?_ z0 ?_
  ·kernel_rfl
  refine AWp.seq ?_
  refine AWp.start [0,1,2] [] [] [4,5] 2 ⟨[(4,.pc 1 0),(5,tI (0:Int))],[.dead,.cells 129 (c128 v2)]⟩ rfl ?_ z0 trivial ?_
  ·kernel_rfl
  refine AOps.nil ?_
  refine AWp.pin 1 rfl rfl ?_
  refine AWp.keepTo [4,5] 0 ⟨[(4,.rp (c128 v2)),(5,tI (0:Int))],[]⟩ ?_ z0 ?_
  ·kernel_rfl
  refine AWp.ret ?_
  cases h
  exact ⟨.inr rfl,rfl⟩
 ·replace h:=of_false h hb
  refine AWp.keepTo [0,3,4] 2 ⟨[(0,tI v1),(3,.rp (c128 v2)),(4,.pc 1 0)],hp3⟩ ?_ z0 ?_
  ·kernel_rfl
  refine AWp.seq ?_
  refine AWp.start [0] [1,2,3,4,5,6,7,8,9] [] [0,3,4,22] 2 ⟨[(0,tI v1),(3,.rp (c128 v2)),(4,.pc 1 0),(22,tI v1)],hp3⟩ rfl ?_ z0 trivial ?_
  ·kernel_rfl
  obtain ⟨v3,hv3,h⟩:=of_bind h
  refine AOps.cons (AOne.callP (F:=(FF 87 0)) _ rfl rfl rfl _ rfl rfl _ _ rfl Tryz.call70 [tI v1] rfl rfl (f70_ok v1 hv3) rfl) ?_
  refine AOps.go [2,3] [4,5,6,7,8,9] [] [0,3,4,25] 2 ⟨[(0,tI v1),(3,.rp (c128 v2)),(4,.pc 1 0),(25,tB (!v3))],hp3⟩ ?_ z0 trivial ?_
  ·kernel_rfl
  obtain ⟨v4,hc4,h⟩:=of_bind h
  refine AOps.cut [4,5,6,7,8] [9] (fun σ=>σ = ⟨[(0,tI v1),(3,.rp (c128 v2)),(4,.pc 1 0),(30,tB v4)],hp3⟩) ?_ fun σ' hJ=>?_
  ·refine AOps.split (fun b=>⟨[(0,tI v1),(3,.rp (c128 v2)),(4,.pc 1 0),(25,tB b)],hp3⟩) _ (fun hb=>?_) fun hb=>?_
   ·replace hc4:=of_true hc4 hb
    refine AOps.go [4,5,6,7,8] [] [] [0,3,4,30] 2 ⟨[(0,tI v1),(3,.rp (c128 v2)),(4,.pc 1 0),(30,tB true)],hp3⟩ ?_ z0 trivial ?_
    ·kernel_rfl
    cases hc4
    exact AOps.nil rfl
   ·replace hc4:=of_false hc4 hb
    refine AOps.go [4,5] [6,7,8] [] [0,3,4,25,27] 2 ⟨[(0,tI v1),(3,.rp (c128 v2)),(4,.pc 1 0),(25,tB false),(27,tI v2.f0)],hp3⟩ ?_ z0 trivial ?_
    ·kernel_rfl
    obtain ⟨v5,hv5,hc4⟩:=of_bind hc4
    refine AOps.cons (AOne.callP (F:=(FF 87 0)) _ rfl rfl rfl _ rfl rfl _ _ rfl Tryz.call70 [tI v2.f0] rfl rfl (f70_ok v2.f0 hv5) rfl) ?_
    refine AOps.go [7,8] [] [] [0,3,4,30] 2 ⟨[(0,tI v1),(3,.rp (c128 v2)),(4,.pc 1 0),(30,tB (!v5))],hp3⟩ ?_ z0 trivial ?_
    ·kernel_rfl
    cases hc4
    exact AOps.nil rfl
  subst hJ
  refine AOps.go [9] [] [] [0,3,4,21] 2 ⟨[(0,tI v1),(3,.rp (c128 v2)),(4,.pc 1 0),(21,tB v4)],hp3⟩ ?_ z0 trivial ?_
  ·kernel_rfl
  refine AOps.nil ?_
  refine AWp.cond rfl (fun hb=>?_) fun hb=>?_
  ·replace h:=of_true h hb
   refine AWp.keepTo [4] 2 ⟨[(4,.pc 1 0)],hp3⟩ ?_ z0 ?_
   ·kernel_rfl
   refine AWp.seq ?_
   refine AWp.start [0,1,2] [] [] [4,5] 2 ⟨[(4,.pc 1 0),(5,tI (70:Int))],hp3⟩ rfl ?_ z0 trivial ?_
   ·kernel_rfl
   refine AOps.nil ?_
   refine AWp.pin 1 rfl rfl ?_
   refine AWp.keepTo [4,5] 0 ⟨[(4,.rp [.int .i64 (0:Int),.int .i64 (0:Int)]),(5,tI (70:Int))],[]⟩ ?_ z0 ?_
   ·kernel_rfl
   refine AWp.ret ?_
   cases h
   exact ⟨.inr rfl,rfl⟩
  ·replace h:=of_false h hb
   refine AWp.keepTo [0,3,4] 2 ⟨[(0,tI v1),(3,.rp (c128 v2)),(4,.pc 1 0)],hp3⟩ ?_ z0 ?_
   ·kernel_rfl
   refine AWp.seq ?_
   refine AWp.start [0,1,2,3] [] [] [0,3,4,32] 2 ⟨[(0,tI v1),(3,.rp (c128 v2)),(4,.pc 1 0),(32,tB (v2.f0 == (1:Int)))],hp3⟩ rfl ?_ z0 trivial ?_
   ·kernel_rfl
   refine AOps.nil ?_
   refine AWp.cond rfl (fun hb=>?_) fun hb=>?_
   ·replace h:=of_true h hb
    refine AWp.keepTo [0,3,4] 2 ⟨[(0,tI v1),(3,.rp (c128 v2)),(4,.pc 1 0)],hp3⟩ ?_ z0 ?_
    ·kernel_rfl
    refine AWp.seq ?_
    cases h
   ·replace h:=of_false h hb
    refine AWp.keepTo [0,3,4] 2 ⟨[(0,tI v1),(3,.rp (c128 v2)),(4,.pc 1 0)],hp3⟩ ?_ z0 ?_
    ·kernel_rfl
    refine AWp.seq ?_
    refine AWp.start [0,1,2] [] [] [0,3,4,48] 2 ⟨[(0,tI v1),(3,.rp (c128 v2)),(4,.pc 1 0),(48,tB (v1 == (1:Int)))],hp3⟩ rfl ?_ z0 trivial ?_
    ·kernel_rfl
    refine AOps.nil ?_
    refine AWp.cond rfl (fun hb=>?_) fun hb=>?_
    ·replace h:=of_true h hb
     refine AWp.keepTo [0,3,4] 2 ⟨[(0,tI v1),(3,.rp (c128 v2)),(4,.pc 1 0)],hp3⟩ ?_ z0 ?_
     ·kernel_rfl
     refine AWp.seq ?_
     cases h
    ·replace h:=of_false h hb
     refine AWp.keepTo [0,3,4] 2 ⟨[(0,tI v1),(3,.rp (c128 v2)),(4,.pc 1 0)],hp3⟩ ?_ z0 ?_
     ·kernel_rfl
     refine AWp.skip ?_
     refine AWp.seq ?_
     cases h

noncomputable def f101 (v1:Int) (v2:Int):Option T128 :=
 (f97 v1 (T128.mk (1:Int) v2)).bind fun v3=>some v3.1

theorem f101_ok (v1:Int) (v2:Int) {r:T128} (h:f101 v1 v2 = some r):ACall Tryz.prog 101 [.tv (.int .i64 v1),.tv (.int .i64 v2)] [] (.agg [.int .i64 r.f0,.int .i64 r.f1]) []:=by
 refine ACall.of1c (r:=4) (t:=129) (cells0:=(c128 r)) (FF 15 0) Tryz.func101 rfl Tryz.ntmps101 (by kernel_rfl) (zz rfl) rfl rfl rfl (by kernel_rfl) rfl [4] 0 z0 rfl ?_
 refine AWp.seq ?_
 refine AWp.start [0] [] [] [0,1,4] 1 ⟨[(0,tI v1),(1,tI v2),(4,.pc 0 0)],[.cells 129 [.int .i64 (0:Int),.int .i64 (0:Int)]]⟩ rfl ?_ z0 trivial ?_
 ·kernel_rfl
 refine AOps.nil ?_
 refine AWp.seq ?_
 refine AWp.start [0,1,2] [3,4,5,6,7,8,9] [] [4,8,10] 1 ⟨[(4,.pc 0 0),(8,tI v1),(10,.agg [.int .i64 (1:Int),.int .i64 v2])],[.cells 129 [.int .i64 (0:Int),.int .i64 (0:Int)]]⟩ rfl ?_ z0 trivial ?_
 ·kernel_rfl
 obtain ⟨v3,hv3,h⟩:=of_bind h
 refine AOps.cons (AOne.callP (F:=(FF 15 0)) _ rfl rfl rfl _ rfl rfl _ _ rfl Tryz.call97 [tI v1,.agg [.int .i64 (1:Int),.int .i64 v2]] rfl rfl (f97_ok v1 (T128.mk (1:Int) v2) hv3) rfl) ?_
 refine AOps.go [4,5,6,7,8,9] [] [] [4,5] 2 ⟨[(4,.pc 0 0),(5,.pc 1 0)],[.cells 129 [.int .i64 (0:Int),.int .i64 (0:Int)],.cells 129 [.int .i64 v3.1.f0,.int .i64 v3.1.f1]]⟩ ?_ z0 trivial ?_
 ·kernel_rfl
 refine AOps.nil ?_
 refine AWp.seq ?_
 refine AWp.pin 1 rfl rfl ?_
 refine AWp.keepTo [4,5] 1 ⟨[(4,.pc 0 0),(5,.rp [.int .i64 v3.1.f0,.int .i64 v3.1.f1])],[.cells 129 [.int .i64 (0:Int),.int .i64 (0:Int)]]⟩ ?_ z0 ?_
 ·kernel_rfl
 refine AWp.start [0,1] [] [] [4] 1 ⟨[(4,.pc 0 0)],[.cells 129 [.int .i64 v3.1.f0,.int .i64 v3.1.f1]]⟩ rfl ?_ z0 trivial ?_
 ·kernel_rfl
 refine AOps.nil ?_
 refine AWp.pin 0 rfl rfl ?_
 refine AWp.keepTo [4] 0 ⟨[(4,.rp [.int .i64 v3.1.f0,.int .i64 v3.1.f1])],[]⟩ ?_ z0 ?_
 ·kernel_rfl
 refine AWp.ret ?_
 cases h
 exact ⟨.inr rfl,rfl⟩

noncomputable def f71 (v1:T59):Option Bool :=
 some ((v1.f1.length:Int) == (0:Int))

theorem f71_ok (v1:T59) {r:Bool} (h:f71 v1 = some r):ACall Tryz.prog 71 [.agg [.int .i64 v1.f0,fzL 1 (cInt .i64) v1.f1,fzL 1 (cInt .i64) v1.f2]] [] (.tv (.bool r)) []:=by
 refine ACall.of1 (FF 7 0) Tryz.func71 rfl Tryz.ntmps71 Tryz.results71 (zz rfl) rfl rfl ?_
 refine AWp.seq ?_
 refine AWp.start [0,1] [] [] [1] 1 ⟨[(1,.pc 0 0)],[.cells 60 [.int .i64 v1.f0,k0 v1.f1,k0 v1.f2]]⟩ rfl ?_ z0 trivial ?_
 ·kernel_rfl
 refine AOps.nil ?_
 refine AWp.seq ?_
 refine AWp.pin 0 rfl rfl ?_
 refine AWp.keepTo [1] 0 ⟨[(1,.rp [.int .i64 v1.f0,k0 v1.f1,k0 v1.f2])],[]⟩ ?_ z0 ?_
 ·kernel_rfl
 refine AWp.start [0,1,2,3,4] [] [] [2] 0 ⟨[(2,tB ((v1.f1.length:Int) == (0:Int)))],[]⟩ rfl ?_ z0 trivial ?_
 ·kernel_rfl
 refine AOps.nil ?_
 refine AWp.ret ?_
 cases h
 exact ⟨.inr rfl,rfl⟩

end Go.Sx.top
