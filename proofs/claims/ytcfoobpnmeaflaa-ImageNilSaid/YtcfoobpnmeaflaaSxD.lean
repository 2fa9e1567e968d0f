
/- Comparing with nil, growing of nothing, cutting a slice of the call's own short; no condition. -/
import Derived.Test.YtcfoobpnmeaflaaSxC
import Derived.Laws.CopyRow
import Derived.Laws.IdiomCopy
import Derived.Laws.BytesArg
import Derived.Laws.Externs
import Derived.ChangeArms
import Derived.Below
namespace Go.Sx
open Go

section
variable {X:Ctx} {g:Gh} {σ:AState} {a:Act} {w:World} {T:Tab}

theorem nilEq_run (hT:TabOk X.P T) (hs:Sat X g σ a w) {t yt:Nat} {x:Operand} {o:Oper} (ho:o.op = .binOp .eql t x (.const (.slice none 0 0)) yt) {e:TypeId} (hu:(T.get t).map TI.und = some (.slice e)) {n:Nat} (hn:σ.lenOf (σ.ev x) = some n) :
  ∃ b:Bool,(execOp a.eval o).run X.P w = .ok (.value (.bool b)) w ∧ (b = true → n = 0):=by
 obtain ⟨k1,h1⟩:=ev_rel hs x
 obtain ⟨A,cap,ex,hA⟩:=lenOf_rel h1 hn
 have ey:a.eval (.const (.slice none 0 0)) = .slice none 0 0:=rfl
 refine ⟨A.isNone,?_,fun hb=>?_⟩
 ·simp only [execOp,ho]
  rw [ex,ey,Sem.run_bind,Sem.run_bind,guard_plain (by simp) (by simp),Result.andThen_ok,run_eql rfl (equal_slice w (hT.und hu) A n cap)]
  rfl
 ·rcases Nat.eq_zero_or_pos n with h | h
  ·exact h
  ·rw [hA h] at hb; cases hb

theorem wrap64 {m:Nat} (h:m ≤ 140737488355328):IntKind.i64.wrap (m:Int) = (m:Int):=by
 simp only [IntKind.wrap,IntKind.signed,IntKind.bits]
 simp
 omega

/-- Nothing grown by so many zero elements. -/
theorem run_grow {P:Program} {w:World} {t t2 ty e:TypeId} {i:TypeInfo} {zv:Value} {k:IntKind} {m:Nat} (ht:P.underlying t = some (.slice e)) (ht2:P.underlying t2 = some (.int k)) (hi:P.info? e = some i) (hz:i.zero = some zv) (hzs:zv.cells.size = i.size)
  (hz0:0 < i.size) (hb0:0 < i.bytes) (hbytes:m * i.bytes ≤ 140737488355328) {k':IntKind} :
  ∃ v w',(Builtin.append_ #[t,t2] ty #[.slice none 0 0,.int k' (m:Int)]).run P w = .ok v w' ∧
   ((v = .slice none 0 0 ∧ m = 0 ∧ w' = w) ∨ ∃ cap c,v = .slice (some ⟨w.heap.size,0,none⟩) m cap ∧ w' = w.drew.alloc (.cells c e) ∧ c.size = cap * i.size ∧ m ≤ cap ∧ cap ≤ maxLen ∧ ∀ q,q < m * zv.cells.size → c[q]? = some zv.cells[q % zv.cells.size]!):=by
 have hnm:m ≤ 140737488355328:=by
  have:m * 1 ≤ m * i.bytes:=Nat.mul_le_mul_left _ hb0
  omega
 have hm:m ≤ maxLen:=by unfold maxLen; omega
 have hw:=wrap64 hnm
 have hneg:¬ ((m:Int) < 0):=by omega
 have hbig:¬ ((281474976710656:Int) < (m:Int) * (i.bytes:Int)):=by
  have h1:=Int.ofNat_le.2 hbytes
  rw [← Int.natCast_mul]
  generalize m * i.bytes = q at h1
  omega
 by_cases hm0:m = 0
 ·subst hm0
  refine ⟨.slice none 0 0,w,?_,.inl ⟨rfl,rfl,rfl⟩⟩
  have hw0:IntKind.i64.wrap 0 = 0:=hw
  have hz':((0:Nat):Int) = 0:=rfl
  rw [hz']
  have hng:¬ ((0:Int) * (i.bytes:Int) > 281474976710656):=by rw [Int.zero_mul]; decide
  simp [Builtin.append_,run_underlying ht,run_underlying ht2,sizeOf,typeInfo,hi,asInt,asIntOf,hw0]
 ·have h63:¬ (9223372036854775807 < (m:Int)):=by omega
  have h48:¬ (281474976710656 < Builtin.nextslicecap m 0 * i.bytes):=by
   have:=growslice_fits (need:=0 + m) (old:=0) (by omega) (by rw [Nat.zero_add]; exact hbytes)
   rw [Nat.zero_add] at this
   omega
  have hge:=grownCap_ge w m 0 e
  have hle:=grownCap_le_maxLen w m 0 e hm
  have hms:¬ (m * i.size = 0):=by
   have:0 < m * i.size:=Nat.mul_pos (by omega) hz0
   omega
  refine ⟨_,_,?_,.inr ⟨grownCap w m 0 e,Builtin.zeroCells zv.cells m ++ Builtin.zeroCells zv.cells (grownCap w m 0 e - m),rfl,rfl,?_,hge,hle,fun q hq=>?_⟩⟩
  ·have hms':¬ (m = 0 ∨ i.size = 0):=by omega
   simp [Builtin.append_,run_underlying ht,run_underlying ht2,sizeOf,typeInfo,zeroValue,hi,hz,asInt,asIntOf,hw,hneg,hbig,hm0,h63,h48,Question.forced,run_firstCells_none,newRow,grownCap]
   intro h0
   exact absurd h0 hms
  ·simp only [Array.size_append,size_zeroCells,hzs,← Nat.add_mul]
   congr 1
   omega
  ·rw [Array.getElem?_append_left (by rw [size_zeroCells]; exact hq)]
   simp [Builtin.zeroCells,hq]

end

section
variable {F:Cfg} {Q:Exit → AState → Prop} {σ:AState} {ops:Array Oper}

/-- Whether a slice is nil is not known, but if it is it is empty. -/
theorem AOps.nilEq {i:Nat} {l:List Nat} (o:Oper) (ho:ops[i]? = some o) (hg:guardV ops σ o = some true) (d:Nat) (hdst:o.dst = some d) (hlt:Nat.blt d F.n = true) {t yt:Nat} {x:Operand} (hop:o.op = .binOp .eql t x (.const (.slice none 0 0)) yt) {e:TypeId} (hu:(F.T.get t).map TI.und = some (.slice e)) (n:Nat) (hn:σ.lenOf (σ.ev x) = some n)
  (h:∀ b:Bool,(b = true → n = 0) → AOps F ops Q l (σ.put d (.tv (.bool b)))):AOps F ops Q (i :: l) σ:=fun w0 g0 g a w hs=>by
 rw [wpOps_cons]
 simp only [wpOp,ho]
 rw [if_pos (guardV_sound hs hg)]
 left
 obtain ⟨b,hrun,hb⟩:=nilEq_run (X:=F.ctx w0 g0) F.ok hs hop hu hn
 have hrun':(execOp a.eval o).run F.P w = .ok (.value (.bool b)) w:=hrun
 unfold Oper.wp
 rw [hrun',Oper.upon_value,hdst]
 exact h b hb w0 g0 _ _ w (hs.put (Nat.le_of_ble_eq_true hlt) (sv:=.tv (.bool b)) (k:=0) rfl rfl (.fr (.bool b)))

def evalGrow (T:Tab) (σ:AState) (o:Oper):Option (List Prop × AState):=match o.op,o.dst with
 | .call { callee:=.builtin .append,args:=as,argTypes:=ts },some d=>match as.toList,ts.toList with
  | [x,y],[t,t2]=>(match (T.get t).map TI.und,(T.get t2).map TI.und,σ.ev x,iv (σ.ev y) with
   | some (.slice e),some (.int _),.tv (.sc (.slice none 0 0)),some n=>(match T.get e with
    | some ei=>(match Nat.blt 0 ei.size && Nat.blt 0 ei.bytes with
     | true=>some ([0 ≤ n,n.toNat * ei.bytes ≤ 140737488355328],σ.put d (.tv (.own ei.size e n.toNat (zerosF (ei.zero.map cTV)))))
     | false=>none)
    | none=>none)
   | _,_,_,_=>none)
  | _,_=>none
 | .call { callee:=.builtin .cap,args:=as,argTypes:=ts },some d=>match as.toList,ts.toList with
  | [x],[t]=>(match (T.get t).map TI.und,σ.ev x with
   | some (.slice _),.tv (.sc (.slice none 0 0))=>some ([],σ.put d (.tv (.int .i64 0)))
   | _,_=>none)
  | _,_=>none
 | .slice t x none hi none,some d=>match (T.get t).map TI.und,σ.ev x with
  | some (.slice e),.tv (.sc (.slice none 0 0))=>(match σ.bound 0 hi,T.size e with
   | some h,some _=>some ([h = 0],σ.put d (.tv (.sc (.slice none 0 0))))
   | _,_=>none)
  | some (.slice e),.tv (.own z e' n f)=>(match x,T.size e,σ.bound (n:Int) hi with
   | .tmp s,some _,some h=>(match Nat.beq s d with | false=>some ([0 ≤ h,h ≤ (n:Int)],(σ.put d .junk).give (.slot s 0) (.slot d 0) (.own z e' h.toNat f)) | true=>none)
   | _,_,_=>none)
  | _,_=>none
 | _,_=>none

end
end Go.Sx

namespace Go.Sx
open Go

def nilToo:SV → SV → Bool
 | .tv (.sc (.slice none 0 0)),.tv (.fz _ 0 _)=>true
 | _,_=>false

/-- Where a slice is told that lies still, nil may be handed. -/
def nilLike:List SV → List SV → List Bool → Bool
 | [],[],[]=>true
 | s :: r,s' :: r',b :: l=>(match b with | true=>nilToo s s' | false=>true) && nilLike r r' l
 | _,_,_=>false

def noPlaces (s:SV):Bool:=!(s.names fun p=>match p.1 with | .obj _=>false | _=>true)

theorem ACall.weaken {P:Program} {f:FuncId} {args args':List SV} {hin:List AObj} {res:SV} {hout:List AObj} (hl:args.length = args'.length)
  (hw:∀ (k:Nat) s s',args[k]? = some s → args'[k]? = some s' → (s = s' ∧ noPlaces s = true) ∨ nilToo s s' = true) (h:ACall P f args' hin res hout):ACall P f args hin res hout:=fun g w vs he=>by
 refine h g w vs ⟨by rw [he.size,hl],fun k s' hk=>?_,he.heap,he.inj,he.frozen,he.lt,he.ids⟩
 have hlt:k < args.length:=by rw [hl]; exact (List.getElem?_eq_some_iff.1 hk).1
 have hs:=List.getElem?_eq_getElem hlt
 have hr:=he.args k _ hs
 rcases hw k _ s' hs hk with ⟨rfl,hn⟩ | hn
 ·refine hr.mono ⟨fun b hb=>⟨hb,rfl⟩,fun j b st hb=>⟨hb,rfl⟩⟩ fun p hp=>?_
  obtain ⟨o,ho⟩:=closed_obj (s:=args[k]) hn hp
  refine ⟨fun b hb=>⟨hb,fun c e hc=>⟨c,hc,rfl⟩⟩,fun z e n f hl=>?_,fun _ _ hlt=>⟨rfl,hlt⟩⟩
  rw [show p = (.obj o,p.2) from by rw [← ho],look_obj] at hl
  cases hl
 ·generalize args[k] = s at hr hn
  unfold nilToo at hn
  split at hn
  ·rename_i z f
   have hv:vs.getD k undef = .slice none 0 0:=rel_sc (show TRel g w (.slot k 0,[]) (vs.getD k undef) (.sc (.slice none 0 0)) from hr)
   rw [hv]
   exact .fr (.nil none 0 z f)
  ·cases hn
end Go.Sx

namespace Go.Sx
open Go

inductive WeakL:List SV → List SV → Prop
 | done:WeakL [] []
 | keep {s:SV} {r r':List SV} (hn:noPlaces s = true) (h:WeakL r r'):WeakL (s :: r) (s :: r')
 | nil {z:Nat} {f:Nat → List TV} {r r':List SV} (h:WeakL r r'):WeakL (.tv (.sc (.slice none 0 0)) :: r) (.tv (.fz z 0 f) :: r')

theorem WeakL.at {args args':List SV} (h:WeakL args args'):args.length = args'.length ∧ ∀ (k:Nat) s s',args[k]? = some s → args'[k]? = some s' → (s = s' ∧ noPlaces s = true) ∨ nilToo s s' = true:=by
 induction h with
 | done=>exact ⟨rfl,fun k s s' h=>by simp at h⟩
 | keep hn _ ih =>
  refine ⟨by simp [ih.1],fun k s s' h1 h2=>?_⟩
  cases k with
  | zero=>simp only [List.getElem?_cons_zero,Option.some.injEq] at h1 h2; subst h1 h2; exact .inl ⟨rfl,hn⟩
  | succ k=>simp only [List.getElem?_cons_succ] at h1 h2; exact ih.2 k s s' h1 h2
 | nil _ ih =>
  refine ⟨by simp [ih.1],fun k s s' h1 h2=>?_⟩
  cases k with
  | zero=>simp only [List.getElem?_cons_zero,Option.some.injEq] at h1 h2; subst h1 h2; exact .inr rfl
  | succ k=>simp only [List.getElem?_cons_succ] at h1 h2; exact ih.2 k s s' h1 h2

theorem ACall.nils {P:Program} {f:FuncId} {args args':List SV} {hin:List AObj} {res:SV} {hout:List AObj} (hw:WeakL args args') (h:ACall P f args' hin res hout):ACall P f args hin res hout :=
 ACall.weaken hw.at.1 hw.at.2 h
end Go.Sx

namespace Go.Sx
open Go

/-- What the callee owns: what lay under slot k, under its argument q. -/
def Gh.hand (g:Gh) (k q:Nat):Gh where
 ow:=fun b=>match g.ow b with | some (.slot k' j,st)=>if k' = k then some (.slot q j,st) else none | _=>none
 P:=g.P
 m:=fun o=>o

theorem hand_some {g:Gh} {k q b:Nat} {p:Path} (h:(g.hand k q).ow b = some p):∃ j st,g.ow b = some (.slot k j,st) ∧ p = (.slot q j,st):=by
 simp only [Gh.hand] at h
 split at h
 ·rename_i k' j st hb
  split at h
  ·rename_i e
   cases h
   subst e
   exact ⟨j,st,hb,rfl⟩
  ·cases h
 ·cases h

theorem hand_of {g:Gh} {k q b j:Nat} {st:Steps} (h:g.ow b = some (.slot k j,st)):(g.hand k q).ow b = some (.slot q j,st):=by
 simp only [Gh.hand,h,if_true]

theorem hand_none {g:Gh} {k q b:Nat} (h:g.ow b = none):(g.hand k q).ow b = none:=by simp only [Gh.hand,h]

/-- All but one lie still. -/
def pureBut (q0:Nat):List SV → Nat → Bool
 | [],_=>true
 | s :: r,i=>(Nat.beq i q0 || (s.pure && s.nameless)) && pureBut q0 r (i + 1)

theorem pureBut_at {q0:Nat}:∀ {l:List SV} {i q:Nat} {s:SV},pureBut q0 l i = true → l[q]? = some s → i + q ≠ q0 → s.pure = true ∧ s.nameless = true
 | [],_,_,_,_,h,_=>by simp at h
 | x :: r,i,0,s,h,hq,hne=>by
  simp only [List.getElem?_cons_zero,Option.some.injEq] at hq
  subst hq
  simp only [pureBut,Bool.and_eq_true,Bool.or_eq_true] at h
  rcases h.1 with h1 | h1
  ·exact absurd (Nat.eq_of_beq_eq_true h1) (by simpa using hne)
  ·exact h1
 | x :: r,i,q + 1,s,h,hq,hne=>by
  simp only [List.getElem?_cons_succ] at hq
  simp only [pureBut,Bool.and_eq_true] at h
  exact pureBut_at h.2 hq (by omega)

section
variable {X:Ctx} {g:Gh} {σ:AState} {a:Act} {w:World}

theorem Ent.hand (hs:Sat X g σ a w) {vs:Array Value} {ss:List SV} (hsz:vs.size = ss.length) {k q0:Nat} {x:TV} (hr:∀ (q:Nat) s,ss[q]? = some s → AR g w σ (vs.getD q undef) s)
  (hq:ss[q0]? = some (.tv x)) (hv:TRel g w (.slot k 0,[]) (vs.getD q0 undef) x) (hp:pureBut q0 ss 0 = true):Ent (g.hand k q0) w vs ss []:=by
 refine ⟨hsz,fun q sv hk=>?_,fun o t cs ho=>(by simp at ho),fun b b' p hb hb'=>?_,fun b hb=>⟨hand_none (hs.frozen b hb).1,(hs.frozen b hb).2⟩,fun b p hb=>?_,fun b p hb=>?_⟩
 ·by_cases he:q = q0
  ·subst he
   rw [hq] at hk
   cases hk
   exact TRel.mono (g':=g.hand k q) (p:=(.slot k 0,[])) (r':=.slot q 0) hv (fun b hb=>⟨hb,rfl⟩) fun b st hb=>⟨hand_of hb,rfl⟩
  ·obtain ⟨h1,h2⟩:=pureBut_at hp hk (by omega)
   exact (hr q sv hk).calm h1 h2 rfl
 ·obtain ⟨j,st,h1,rfl⟩:=hand_some hb
  obtain ⟨j',st',h2,e⟩:=hand_some hb'
  cases e
  exact hs.inj b b' _ h1 h2
 ·obtain ⟨j,st,h1,_⟩:=hand_some hb
  exact (hs.lt b _ h1).1
 ·obtain ⟨j,st,h1,rfl⟩:=hand_some hb
  trivial

/-- Behind such a call: the old blocks as they were, but for those that were given; the callee's under slot d. -/
def Gh.backG (g g' gc:Gh) (n d:Nat):Gh where
 ow:=fun b=>match gc.ow b with | some _=>relab d (g'.ow b) | none=>if b < n then (g.clr (under d)).ow b else relab d (g'.ow b)
 P:=g'.P
 m:=g.m

end

section
variable {F:Cfg} {Q:Exit → AState → Prop} {σ:AState}

end

/-! ### A nil slice as an own argument -/

inductive OwnL:List SV → List SV → Prop
 | done:OwnL [] []
 | keep {s:SV} {r r':List SV} (hn:noPlaces s = true) (h:OwnL r r'):OwnL (s :: r) (s :: r')
 | nil {z:Nat} {e:TypeId} {f:Nat → List TV} {r r':List SV} (h:OwnL r r'):OwnL (.tv (.sc (.slice none 0 0)) :: r) (.tv (.own z e 0 f) :: r')

theorem OwnL.at {args args':List SV} (h:OwnL args args'):args.length = args'.length ∧ ∀ (k:Nat) s s',args[k]? = some s → args'[k]? = some s' → (s = s' ∧ noPlaces s = true) ∨ (s = .tv (.sc (.slice none 0 0)) ∧ ∃ z e f,s' = .tv (.own z e 0 f)):=by
 induction h with
 | done=>exact ⟨rfl,fun k s s' h=>by simp at h⟩
 | keep hn _ ih =>
  refine ⟨by simp [ih.1],fun k s s' h1 h2=>?_⟩
  cases k with
  | zero=>simp only [List.getElem?_cons_zero,Option.some.injEq] at h1 h2; subst h1 h2; exact .inl ⟨rfl,hn⟩
  | succ k=>simp only [List.getElem?_cons_succ] at h1 h2; exact ih.2 k s s' h1 h2
 | nil _ ih =>
  refine ⟨by simp [ih.1],fun k s s' h1 h2=>?_⟩
  cases k with
  | zero=>simp only [List.getElem?_cons_zero,Option.some.injEq] at h1 h2; subst h1 h2; exact .inr ⟨rfl,_,_,_,rfl⟩
  | succ k=>simp only [List.getElem?_cons_succ] at h1 h2; exact ih.2 k s s' h1 h2

end Go.Sx

namespace Go.Sx
open Go

theorem drop1_of_names {R:Path → Bool} {sv:SV} (h:sv.names1 R = false):sv.drop1 R = sv:=by
 unfold SV.drop1; rw [h]

theorem drop_of_names {R:Path → Bool} {sv:SV} (h:sv.names R = false):sv.drop R = sv:=by
 rcases sv.three with ⟨vs,rfl⟩ | ⟨f,vs,rfl⟩ | hf
 ·simp only [SV.names,List.any_eq_false] at h
  simp only [SV.drop]; congr 1
  exact (List.map_congr_left fun x hx=>drop1_of_names (by simpa using h x hx)).trans (List.map_id' vs)
 ·simp only [SV.names,List.any_eq_false] at h
  simp only [SV.drop]; congr 1
  exact (List.map_congr_left fun x hx=>drop1_of_names (by simpa using h x hx)).trans (List.map_id' vs)
 ·rw [drop_flat hf,drop1_of_names (by rw [← names_flat hf]; exact h)]

theorem names_none (sv:SV):sv.names (fun _=>false) = false:=by
 have h1:∀ sv:SV,sv.names1 (fun _=>false) = false:=fun sv=>by cases sv <;> rfl
 rcases sv.three with ⟨vs,rfl⟩ | ⟨f,vs,rfl⟩ | hf
 ·simp only [SV.names,List.any_eq_false]; exact fun x _=>by simp [h1 x]
 ·simp only [SV.names,List.any_eq_false]; exact fun x _=>by simp [h1 x]
 ·rw [names_flat hf]; exact h1 sv

def AState.pads (σ:AState) (n:Nat):AState:={ σ with heap:=σ.heap ++ List.replicate n .dead }

/-- The places of an object. -/
def inObj (o:Nat) (p:Path):Bool:=match p.1 with
 | .cell o' _=>Nat.beq o o'
 | .obj o'=>Nat.beq o o'
 | _=>false

def AState.unnamed (σ:AState) (o:Nat):Bool:=σ.env.all fun e=>!e.2.names (inObj o)

def AState.newAt (σ:AState) (o:Nat) (t:TypeId) (cs:List TV):AState:={ σ with heap:=σ.heap.set o (.cells t cs) }

section
variable {X:Ctx} {g:Gh} {σ:AState} {a:Act} {w:World} {T:Tab}

theorem Root.idOk_mono {n m:Nat} (h:n ≤ m) {r:Root} (hr:r.idOk n):r.idOk m:=by
 cases r with
 | slot=>trivial
 | cell o off=>exact Nat.lt_of_lt_of_le (show o < n from hr) h
 | obj o=>exact Nat.lt_of_lt_of_le (show o < n from hr) h

theorem Sat.pads (h:Sat X g σ a w) (n:Nat):Sat X g (σ.pads n) a w:=by
 have hlen:σ.heap.length ≤ (σ.pads n).heap.length:=by simp [AState.pads]
 have hget:∀ o,o < σ.heap.length → (σ.pads n).heap[o]? = σ.heap[o]?:=fun o ho=>by simp only [AState.pads,List.getElem?_append_left ho]
 have hdead:∀ (o:Nat) (t:TypeId) (cs:List TV),(σ.pads n).heap[o]? = some (AObj.cells t cs) → σ.heap[o]? = some (AObj.cells t cs):=fun o t cs ho=>by
  rcases Nat.lt_or_ge o σ.heap.length with hl | hl
  ·rw [← hget o hl]; exact ho
  ·simp only [AState.pads,List.getElem?_append_right hl,List.getElem?_replicate] at ho
   split at ho <;> cases ho
 have hroot:∀ r,(σ.pads n).rootTV r = σ.rootTV r:=fun r=>by
  cases r with
  | slot k j=>rfl
  | obj o=>rfl
  | cell o off =>
   simp only [AState.rootTV]
   rcases Nat.lt_or_ge o σ.heap.length with hl | hl
   ·rw [hget o hl]
   ·rw [List.getElem?_eq_none hl]
    cases hh:(σ.pads n).heap[o]? with
    | none=>rfl
    | some x =>
     cases x with
     | dead=>rfl
     | cells t cs=>exact absurd (hdead o t cs hh) (by rw [List.getElem?_eq_none hl]; simp)
 have U:Up g g σ (σ.pads n) w w (fun _=>false) :=
  ⟨fun b hb=>⟨hb,rfl⟩,fun b p hb _=>⟨hb,rfl⟩,fun p _ z e m f hl=>by rw [look_eq (σ:=σ) (hroot p.1)]; exact hl,fun o _ ho=>⟨rfl,Nat.lt_of_lt_of_le ho hlen⟩⟩
 refine ⟨h.defers,h.size,fun k=>?_,fun o t cs ho=>h.heap o t cs (hdead o t cs ho),h.inj,h.frozen,h.lt,fun b p hb=>Root.idOk_mono hlen (h.ids b p hb),h.P0,h.P1,h.kept,h.os,h.tape,h.output,h.mono,h.m0,Nat.le_trans h.h0 hlen⟩
 have:=U.slot (fun j st=>rfl) (h.env k)
 rw [drop_of_names (names_none _)] at this
 exact this

theorem lookS_mem:∀ (env:List (Nat × SV)) (k:Nat),lookS env k = .junk ∨ ∃ e ∈ env,e.2 = lookS env k
 | [],_=>.inl rfl
 | e :: r,k=>by
  simp only [lookS]
  cases hb:Nat.beq e.1 k with
  | true=>exact .inr ⟨e,List.mem_cons_self ..,rfl⟩
  | false =>
   rcases lookS_mem r k with h | ⟨x,hx,he⟩
   ·exact .inl h
   ·exact .inr ⟨x,List.mem_cons_of_mem _ hx,he⟩

theorem unnamed_get {o:Nat} (h:σ.unnamed o = true) (k:Nat):(σ.get k).names (inObj o) = false:=by
 rcases lookS_mem σ.env k with hk | ⟨e,he,hk⟩
 ·rw [show σ.get k = .junk from hk]; rfl
 ·rw [show σ.get k = e.2 from hk.symm]
  simp only [AState.unnamed,List.all_eq_true,Bool.not_eq_true'] at h
  exact h e he

theorem Sat.newAt (h0:Sat X g σ a w) {o:Nat} (hd:σ.heap[o]? = some .dead) (hx:X.h0 ≤ o) (hn:σ.unnamed o = true) (t:TypeId) {c:Array Value} {cs:List TV} (hc:CellsRel g.P w c cs) :
  Sat X ((g.clr (inObj o)).obj w.heap.size o) (σ.newAt o t cs) a (w.alloc (.cells c t)):=by
 have hlt:o < σ.heap.length:=(List.getElem?_eq_some_iff.1 hd).1
 have hdr:∀ k,(σ.get k).drop (inObj o) = σ.get k:=fun k=>drop_of_names (unnamed_get hn k)
 have h:Sat X (g.clr (inObj o)) σ a w:=by
  refine h0.less (inObj o) (fun k=>.inr ⟨(hdr k).symm,fun _ _=>rfl⟩) (fun o' t' cs' ho'=>?_) (fun _ _ _ _ _ _ hl=>hl) (fun _ _ hi=>hi) (fun _ _ hl=>hl) h0.h0
  have hne:o ≠ o':=fun e=>by subst e; rw [hd] at ho'; cases ho'
  have hb:Nat.beq o o' = false:=beq_ne hne
  exact ⟨cs',ho',rfl,hb,fun i y hy=>.inr ⟨hy,fun _=>hb⟩⟩
 have hclean:∀ b p,(g.clr (inObj o)).ow b = some p → inObj o p = false:=fun b p hb=>(clr_some.1 hb).2
 generalize hg1:g.clr (inObj o) = g1 at *
 have hP:g1.P = g.P:=by rw [← hg1]; rfl
 have hold:∀ b,b < w.heap.size → (w.alloc (.cells c t)).heap[b]? = w.heap[b]?:=fun b hb=>heap_alloc_old w _ hb
 have how:∀ b p,g1.ow b = some p → (g1.obj w.heap.size o).ow b = some p:=fun b p hb=>by
  simp only [Gh.obj,beq_ne (Nat.ne_of_lt (h.lt b p hb).1)]; exact hb
 have hm:∀ o',o' ≠ o → (g1.obj w.heap.size o).m o' = g1.m o':=fun o' hne=>by simp only [Gh.obj,beq_ne hne]
 have hset:∀ o',o' ≠ o → (σ.newAt o t cs).heap[o']? = σ.heap[o']?:=fun o' hne=>by simp only [AState.newAt,List.getElem?_set_ne (Ne.symm hne)]
 have hself:(σ.newAt o t cs).heap[o]? = some (.cells t cs):=by simp only [AState.newAt,List.getElem?_set_self hlt]
 have hlen:(σ.newAt o t cs).heap.length = σ.heap.length:=by simp [AState.newAt]
 have hne_of:∀ {o'},Nat.beq o o' = false → o' ≠ o:=fun hb e=>by subst e; simp at hb
 have U:Up g1 (g1.obj w.heap.size o) σ (σ.newAt o t cs) w (w.alloc (.cells c t)) (inObj o) :=
  ⟨fun b hb=>⟨hb,hold b (h.frozen b hb).2⟩,fun b p hb _=>⟨how b p hb,hold b (h.lt b p hb).1⟩,fun p hp z e m f hl=>by
   obtain ⟨r,st⟩:=p
   rw [look_eq (σ:=σ)]
   ·exact hl
   ·cases r with
    | slot k j=>rfl
    | cell o' off=>simp only [AState.rootTV]; rw [hset o' (hne_of hp)]
    | obj o'=>rfl,fun o' ho' hl=>⟨hm o' (hne_of ho'),by rw [hlen]; exact hl⟩⟩
 refine ⟨h.defers,h.size,fun k=>?_,fun o' t' cs' ho'=>?_,fun b b' p hb hb'=>?_,fun b hb=>?_,fun b p hb=>?_,fun b p hb=>?_,h.P0,h.P1,fun b hb h0=>?_,h.os,h.tape,h.output,?_,fun o' ho'=>?_,by rw [hlen]; exact h.h0⟩
 ·have:=U.slot (fun j st=>rfl) (h.env k)
  rw [hdr] at this
  exact this
 ·by_cases e:o' = o
  ·subst e
   rw [hself] at ho'
   cases ho'
   refine ⟨c,?_,?_,hc.1,fun i y hy=>?_⟩
   ·have:(g1.obj w.heap.size o').m o' = w.heap.size:=by simp [Gh.obj]
    rw [this]; exact Go.heap_alloc_new w _
   ·have:(g1.obj w.heap.size o').m o' = w.heap.size:=by simp [Gh.obj]
    rw [this]; simp [Gh.obj]
   ·obtain ⟨u,hu,hr⟩:=hc.2 i y hy
    exact ⟨u,hu,.fr (hr.mono fun b hb=>⟨by rw [← hP] at hb; exact hb,hold b (h.frozen b (by rw [hP]; exact hb)).2⟩)⟩
  ·rw [hset o' e] at ho'
   obtain ⟨c',h1,h2,h3,h4⟩:=h.heap o' t' cs' ho'
   rw [hm o' e]
   refine ⟨c',by rw [hold _ (h.lt _ _ h2).1]; exact h1,how _ _ h2,h3,fun i y hy=>?_⟩
   obtain ⟨u,hu,hr⟩:=h4 i y hy
   exact ⟨u,hu,U.tv (fun _=>beq_ne (Ne.symm e)) hr⟩
 ·have inv:∀ b p,b ≠ w.heap.size → (g1.obj w.heap.size o).ow b = some p → g1.ow b = some p:=fun b p hne hb=>by
   simp only [Gh.obj,beq_ne hne] at hb; exact hb
  by_cases e1:b = w.heap.size
  ·subst e1
   simp only [Gh.obj,Nat.beq_refl,Option.some.injEq] at hb
   subst hb
   by_cases e2:b' = w.heap.size
   ·exact e2.symm
   ·have:=hclean b' _ (inv b' _ e2 hb')
    simp [inObj] at this
  ·by_cases e2:b' = w.heap.size
   ·subst e2
    simp only [Gh.obj,Nat.beq_refl,Option.some.injEq] at hb'
    subst hb'
    have:=hclean b _ (inv b _ e1 hb)
    simp [inObj] at this
   ·exact h.inj b b' p (inv b p e1 hb) (inv b' p e2 hb')
 ·obtain ⟨h1,h2⟩:=h.frozen b hb
  exact ⟨by simp only [Gh.obj,beq_ne (Nat.ne_of_lt h2)]; exact h1,by simp; omega⟩
 ·by_cases e1:b = w.heap.size
  ·subst e1; exact ⟨by simp,.inl h.mono⟩
  ·simp only [Gh.obj,beq_ne e1] at hb
   obtain ⟨h1,h2⟩:=h.lt b p hb
   exact ⟨by simp; omega,h2⟩
 ·by_cases e1:b = w.heap.size
  ·subst e1
   simp only [Gh.obj,Nat.beq_refl,Option.some.injEq] at hb
   subst hb
   rw [hlen]; exact hlt
  ·simp only [Gh.obj,beq_ne e1] at hb
   rw [hlen]; exact h.ids b p hb
 ·rw [hold b (by have:=h.mono; omega)]; exact h.kept b hb h0
 ·have:=h.mono; simp; omega
 ·rw [hm o' (by omega)]; exact h.m0 o' ho'

end

section
variable {F:Cfg} {Q:Exit → AState → Prop} {σ:AState} {ops:Array Oper}

end
end Go.Sx

namespace Go.Sx
open Go

/-- A slice of one's own, or nil, grown by so many zero elements. -/
theorem run_appendZ {P:Program} {w:World} {t t2 ty e:TypeId} {i:TypeInfo} {zv:Value} {k:IntKind} {m:Nat} (ht:P.underlying t = some (.slice e)) (ht2:P.underlying t2 = some (.int k)) (hi:P.info? e = some i) (hz:i.zero = some zv) (hzs:zv.cells.size = i.size)
  (hz0:0 < i.size) (hz1:∀ v ∈ (Builtin.zeroCells zv.cells m).toList,v.oneCell' = true) {k':IntKind}
  {s:Value} {n:Nat} {olds:List Value} (hb0:0 < i.bytes) (hbytes:(n + m) * i.bytes ≤ 140737488355328)
  (hs:∃ b cap c,s = .slice (some ⟨b,0,none⟩) n cap ∧ Row w b e c ∧ c.size = cap * i.size ∧ n ≤ cap ∧ cap ≤ maxLen ∧ olds.length = n * i.size ∧ ∀ (j:Nat) v,olds[j]? = some v → c[j]? = some v) :
  ∃ v w',(Builtin.append_ #[t,t2] ty #[s,.int k' (m:Int)]).run P w = .ok v w' ∧
   ∃ nb cap c,v = .slice (some ⟨nb,0,none⟩) (n + m) cap ∧ Row w' nb e c ∧ c.size = cap * i.size ∧ n + m ≤ cap ∧ cap ≤ maxLen ∧ Goes w w' nb ∧
    (∀ (j:Nat) v,(olds ++ (Builtin.zeroCells zv.cells m).toList)[j]? = some v → c[j]? = some v) ∧ ((∃ n cap,s = .slice (some ⟨nb,0,none⟩) n cap) ∨ nb = w.heap.size):=by
 have hnm:n + m ≤ 140737488355328:=by
  have:(n + m) * 1 ≤ (n + m) * i.bytes:=Nat.mul_le_mul_left _ hb0
  omega
 have hm:n + m ≤ maxLen:=by unfold maxLen; omega
 have hw:=wrap64 (m:=m) (by omega)
 have hneg:¬ ((m:Int) < 0):=by omega
 have hmb:m * i.bytes ≤ 140737488355328:=Nat.le_trans (Nat.mul_le_mul_right _ (Nat.le_add_left m n)) hbytes
 have hbig:¬ ((281474976710656:Int) < (m:Int) * (i.bytes:Int)):=by
  have h1:=Int.ofNat_le.2 hmb
  rw [← Int.natCast_mul]
  generalize m * i.bytes = q at h1
  omega
 have hge:∀ old,n + m ≤ grownCap w (n + m) old e:=fun old=>grownCap_ge w (n + m) old e
 have hle:∀ old,grownCap w (n + m) old e ≤ maxLen:=fun old=>grownCap_le_maxLen w (n + m) old e hm
 obtain ⟨news,hnews⟩:∃ news,(Builtin.zeroCells zv.cells m).toList = news:=⟨_,rfl⟩
 rw [hnews] at hz1 ⊢
 have hnz:news.length = m * i.size:=by rw [← hnews,Array.length_toList,size_zeroCells,hzs]
 have hza:Builtin.zeroCells zv.cells m = news.toArray:=by rw [← hnews]
 obtain ⟨b,cap,c,rfl,hrow,hcs,hnc,hcm,hol,hold⟩:=hs
 by_cases hroom:n + m ≤ cap
 ·obtain ⟨fr,hb1,hb2⟩:=hrow
  have hfit:n * i.size + news.length ≤ c.size:=by rw [hnz,hcs,← Nat.add_mul]; exact Nat.mul_le_mul_right _ hroom
  obtain ⟨w',hrun,hw',hg⟩:=run_store_row (P:=P) news (n * i.size) 0 c w hb1 hb2.no (by omega) hz1
  rw [Nat.add_zero] at hw'
  refine ⟨.slice (some ⟨b,0,none⟩) (n + m) cap,w',?_,b,cap,_,rfl,⟨fr,hw',by rw [writeA_size]; exact hb2⟩,by rw [writeA_size]; exact hcs,hroom,hcm,hg,fun j u hu=>?_,.inl ⟨n,cap,rfl⟩⟩
  ·by_cases hm0:m = 0
   ·subst hm0
    have hn0:news = []:=List.eq_nil_of_length_eq_zero (by rw [hnz]; simp)
    subst hn0
    have hw0:IntKind.i64.wrap 0 = 0:=hw
    simp [Builtin.append_,run_underlying ht,run_underlying ht2,sizeOf,typeInfo,hi,asInt,asIntOf,hw0,hnc,add_mk]
    rw [Nat.add_zero] at *
    simp [show (storeCells (⟨b,n * i.size,none⟩:Addr) []).run P w = .ok () w' from by simpa [add_mk] using hrun]
   ·have hms:¬ (m = 0 ∨ i.size = 0):=by omega
    simp [Builtin.append_,run_underlying ht,run_underlying ht2,sizeOf,typeInfo,zeroValue,hi,hz,asInt,asIntOf,hw,hneg,hbig,hroom,hms,hza,add_mk,hrun]
    intro h0
    have:=Nat.mul_pos (show 0 < m by omega) hz0
    omega
  ·rcases Nat.lt_or_ge j (n * i.size) with hj | hj
   ·rw [List.getElem?_append_left (by omega)] at hu
    rw [writeA_lt _ _ _ _ hj]
    exact hold j u hu
   ·obtain ⟨q,rfl⟩:∃ q,j = n * i.size + q:=⟨j - n * i.size,by omega⟩
    rw [List.getElem?_append_right (by omega),hol,Nat.add_sub_cancel_left] at hu
    have hq:q < news.length:=(List.getElem?_eq_some_iff.1 hu).1
    rw [writeA_in _ _ _ _ hq (by omega)]
    exact hu
 ·have hm0:¬ m = 0:=by omega
  have h63:¬ (9223372036854775807 < ((n:Int) + (m:Int))):=by omega
  have h48:¬ (281474976710656 < Builtin.nextslicecap (n + m) cap * i.bytes):=by
   have:=growslice_fits (need:=n + m) (old:=cap) (by omega) hbytes
   omega
  have hms:¬ (m = 0 ∨ i.size = 0):=by omega
  have hfo:=run_firstCells_some (P:=P) w.drew i.size n ⟨b,0,none⟩ n cap olds hol (fun j v hj=>by
   rw [add_mk,Nat.zero_add]
   exact (hrow.cell j).trans (hold j v hj))
  refine ⟨.slice (some ⟨w.heap.size,0,none⟩) (n + m) (grownCap w (n + m) cap e),w.drew.alloc (.cells (olds.toArray ++ news.toArray ++ Builtin.zeroCells zv.cells (grownCap w (n + m) cap e - (n + m))) e),?_,
   w.heap.size,_,_,rfl,Row.of (Go.heap_alloc_new w.drew _),?_,hge cap,hle cap,goes_alloc w _,fun j u hu=>?_,.inr rfl⟩
  ·simp [Builtin.append_,run_underlying ht,run_underlying ht2,sizeOf,typeInfo,zeroValue,hi,hz,asInt,asIntOf,hw,hneg,hbig,hroom,h63,h48,Question.forced,hms,hza,hfo,newRow,grownCap]
   rw [if_neg (by have:=Nat.mul_pos (show 0 < m by omega) hz0; omega)]
   congr 3
   apply Array.ext'
   simp [List.append_assoc]
  ·simp only [Array.size_append,List.size_toArray,size_zeroCells,hzs,hol,hnz,← Nat.add_mul]
   congr 1
   have:=hge cap
   omega
  ·have hj:j < (olds ++ news).length:=(List.getElem?_eq_some_iff.1 hu).1
   rw [Array.getElem?_append_left (by simpa using hj)]
   simpa using hu

section
variable {X:Ctx} {g:Gh} {σ:AState} {a:Act} {w:World} {T:Tab}

/-- Zero elements appended to a slice of one's own (or to nil, told as one's own). -/
theorem appendZ_sound (hT:TabOk X.P T) (hs:Sat X g σ a w) {x y:Operand} {t t2 e:TypeId} {d:Nat} (hd:d < X.n) {k:IntKind} {r:Root} {n z e':Nat} {f:Nat → List TV} {ei:TI} {q:Int}
  (hu:(T.get t).map TI.und = some (.slice e)) (hu2:(T.get t2).map TI.und = some (.int k)) (hx:σ.appOf x = some (some r,n,f,z,e')) (hei:T.get e = some ei) (hok:okRoot z e' ei.size e (some r) = true) (hz0:0 < ei.size) (hb0:0 < ei.bytes)
  (hy:iv (σ.ev y) = some q) (hq:0 ≤ q) (hbytes:(n + q.toNat) * ei.bytes ≤ 140737488355328) (hp1:PlainTo n f)
  {o:Oper} (ho:o.op = .call { callee:=.builtin .append,args:=#[x,y],argTypes:=#[t,t2] }) (hdst:o.dst = some d) :
  Comes2 X ((killO σ (some r)).put d (.tv (.own ei.size e (n + q.toNat) (appF n f (zerosF (ei.zero.map cTV)))))) a w o:=by
 obtain ⟨hu0,i,zv,hi,hsz,hby,hz,hzc,hzl,hz1,hag,_⟩:=hT e ei hei
 have hzs:zv.cells.size = ei.size:=by rw [← Array.length_toList,hzc,hzl]
 obtain ⟨k2,ey⟩:=iv_rel hs hy
 obtain ⟨m,rfl⟩:∃ m:Nat,q = (m:Int):=⟨q.toNat,by omega⟩
 rw [Int.toNat_natCast] at hbytes ⊢
 have hat:∀ i' j y,i' < m → (zerosF (ei.zero.map cTV) i')[j]? = some y → ∃ u,(Builtin.zeroCells zv.cells m).toList[i' * ei.size + j]? = some u ∧ FRel g.P w u y:=fun i' j y hi' hy=>by
  simp only [zerosF,List.getElem?_map] at hy
  obtain ⟨u,hu',rfl⟩:=Option.map_eq_some_iff.1 hy
  have hj:j < ei.zero.length:=(List.getElem?_eq_some_iff.1 hu').1
  have hj':j < ei.size:=by omega
  have hlt:i' * ei.size + j < m * zv.cells.size:=by
   have:(i' + 1) * ei.size ≤ m * ei.size:=Nat.mul_le_mul_right _ hi'
   rw [Nat.add_mul,Nat.one_mul] at this
   rw [hzs]; omega
  refine ⟨u,?_,cTV_rel ?_⟩
  ·have hm:(i' * ei.size + j) % ei.size = j:=by
    rw [Nat.add_comm,Nat.add_mul_mod_self_right]; exact Nat.mod_eq_of_lt hj'
   have hcell:zv.cells[j]! = u:=by
    rw [getElem!_pos zv.cells j (by omega)]
    have e1:zv.cells.toList[j]? = some u:=by rw [hzc]; exact hu'
    rw [Array.getElem?_toList] at e1
    exact (Array.getElem?_eq_some_iff.1 e1).2
   rw [Array.getElem?_toList]
   unfold Builtin.zeroCells
   rw [Array.getElem?_map,Array.getElem?_range,if_pos hlt]
   simp only [Option.map_some,hzs,hm,hcell]
  ·rw [List.all_eq_true] at hz1
   exact hz1 u (List.mem_of_getElem? hu')
 have hone:∀ v ∈ (Builtin.zeroCells zv.cells m).toList,v.oneCell' = true:=fun v hv=>by
  rw [Array.mem_toList_iff] at hv
  unfold Builtin.zeroCells at hv
  rw [Array.mem_map] at hv
  obtain ⟨q,_,rfl⟩:=hv
  have hlt:q % zv.cells.size < zv.cells.size:=Nat.mod_lt _ (by rw [hzs]; exact hz0)
  rw [getElem!_pos zv.cells _ hlt]
  rw [List.all_eq_true] at hz1
  exact hz1 _ (by rw [← hzc]; exact Array.getElem_mem_toList hlt)
 have hplain1:∀ (q t:Nat) (y:TV),q < n → (f q)[t]? = some y → y.plain = true:=fun q t y hq hyq=>by
  have:=hp1 q hq
  rw [List.all_eq_true] at this
  exact this y (List.mem_of_getElem? hyq)
 have hlenz:∀ i',(zerosF (ei.zero.map cTV) i').length = ei.size:=fun i'=>by simp [zerosF,hzl]
 rcases appOf_rel hs hx with ⟨e0,_⟩ | ⟨r0,e0,hr0,hv⟩
 ·cases e0
 ·cases e0
  simp only [okRoot,Bool.and_eq_true,Nat.beq_eq] at hok
  obtain ⟨rfl,he'⟩:=hok
  have he2:=he'.symm
  subst he2
  have hkill:=hs.kill hr0
  rcases hv with ⟨hv,rfl⟩ | ⟨b,cap,c,cs',hb,hv,hrow,hcs,hn,hm,hl,hc⟩
  ·-- nothing yet
   obtain ⟨v,w',hrun,hv'⟩:=run_grow (P:=X.P) (w:=w) (ty:=o.type) (hT.und hu) (hT.und hu2) hi hz (by rw [hzs,hsz]) (by rw [hsz]; exact hz0) (by rw [hby]; exact hb0) (by rw [hby]; rw [Nat.zero_add] at hbytes; exact hbytes) (k':=k2)
   have hexec:(execOp a.eval o).run X.P w = .ok (.value v) w':=by
    simp only [execOp,ho,resolve,invoke,builtin,Sem.run_bind,Sem.run_pure,Result.andThen_ok,List.map_toArray,List.map_cons,List.map_nil,hv,ey,hrun]
   rw [Nat.zero_add]
   rcases hv' with ⟨rfl,rfl,rfl⟩ | ⟨cap,c,rfl,rfl,hcs,hn,hm,hc⟩
   ·exact ⟨_,_,_,hexec,.inl ⟨_,rfl,by rw [hdst]; exact hkill.putNil hd ei.size e _⟩⟩
   ·obtain ⟨k1,k2,k3⟩:=hkill.fresh
    have hat2:∀ i' j y,i' < m → (appF 0 f (zerosF (ei.zero.map cTV)) i')[j]? = some y → ∃ u,c[i' * ei.size + j]? = some u ∧ FRel g.P w u y:=fun i' j y hi' hy=>by
     rw [appF_ge (Nat.zero_le _),Nat.sub_zero] at hy
     obtain ⟨u,hu1,hr⟩:=hat i' j y hi' hy
     refine ⟨u,?_,hr⟩
     rw [Array.getElem?_toList] at hu1
     have hlt:i' * ei.size + j < m * zv.cells.size:=by
      have:=(Array.getElem?_eq_some_iff.1 hu1).1
      rwa [size_zeroCells] at this
     rw [hc _ hlt,← hu1]
     unfold Builtin.zeroCells
     rw [Array.getElem?_map,Array.getElem?_range,if_pos hlt]
     rfl
    have h':=hkill.putOwn hd (nb:=w.heap.size) (w':=w.drew.alloc (.cells c e)) (goes_alloc w _) k1 k2 k3 (by simp) (z:=ei.size) (n:=m) (cap:=cap) (e:=e) (f:=appF 0 f (zerosF (ei.zero.map cTV))) (c:=c) (cs:=fun i' j=>(c[i' * ei.size + j]?).getD undef) (Row.of (heap_alloc_new w.drew _)) (by rw [← hsz]; exact hcs) hn hm (fun i hi=>by rw [appF_ge (Nat.zero_le _)]; exact hlenz _)
     (fun i' j y hi' hy=>by
      obtain ⟨u,hu,_⟩:=hat2 i' j y hi' hy
      rw [hu]; rfl)
     (fun i' j y hi' hy=>by
      obtain ⟨u,hu,hr⟩:=hat2 i' j y hi' hy
      rw [hu]; exact hr)
    exact ⟨_,_,_,hexec,.inl ⟨_,rfl,by rw [hdst]; exact h'⟩⟩
  ·obtain ⟨olds,ho1,ho2,ho3⟩:=flat_cells (P:=g.P) (w:=w) (b:=b) (off:=0) (cs:=cs') hl fun i' j y hi' hy=>⟨by rw [Nat.zero_add]; exact (hrow.cell _).trans (hc i' j y hi' hy).1,(hc i' j y hi' hy).2 (hplain1 i' j y hi' hy)⟩
   obtain ⟨v,w',hrun,nb,cap2,c2,rfl,hrow2,hcs2,hn2,hm2,hg,hcells,hnb⟩:=run_appendZ (P:=X.P) (w:=w) (ty:=o.type) (hT.und hu) (hT.und hu2) hi hz (by rw [hzs,hsz]) (by rw [hsz]; exact hz0) hone (k':=k2) (by rw [hby]; exact hb0) (by rw [hby]; exact hbytes) (s:=a.eval x) (n:=n) (olds:=olds)
    ⟨b,cap,c,hv,hrow,by rw [hsz]; exact hcs,hn,hm,by rw [hsz]; exact ho1,fun j v hj=>by
     have:=(ho2 j v hj).1
     rw [Nat.zero_add] at this
     exact (hrow.cell j).symm.trans this⟩
   have hexec:(execOp a.eval o).run X.P w = .ok (.value (.slice (some ⟨nb,0,none⟩) (n + m) cap2)) w':=by
    simp only [execOp,ho,resolve,invoke,builtin,Sem.run_bind,Sem.run_pure,Result.andThen_ok,List.map_toArray,List.map_cons,List.map_nil,ey,hrun]
   have hnew:(g.clr (rootR r)).ow nb = none ∧ ¬ (g.clr (rootR r)).P nb ∧ (X.w0.heap.size ≤ nb ∨ X.g0.ow nb ≠ none):=by
    rcases hnb with ⟨n',cap',e1⟩ | rfl
    ·rw [hv] at e1
     cases e1
     refine ⟨?_,fun hp=>?_,(hs.lt b _ hb).2⟩
     ·cases hg:(g.clr (rootR r)).ow b with
      | none=>rfl
      | some p =>
       obtain ⟨e1,e2⟩:=clr_some.1 hg
       rw [hb] at e1
       cases e1
       cases r with
       | slot k j=>simp [rootR,under] at e2
       | cell o off=>simp [rootR] at e2
       | obj o=>exact absurd rfl (hr0 o)
     ·have:=(hs.frozen b hp).1
      rw [hb] at this
      cases this
    ·exact hkill.fresh
   have hall:∀ (i' j:Nat) y,i' < n + m → (appF n f (zerosF (ei.zero.map cTV)) i')[j]? = some y → ∃ u,(olds ++ (Builtin.zeroCells zv.cells m).toList)[i' * ei.size + j]? = some u ∧ FRel g.P w u y:=fun i' j y hi' hy=>by
    rcases Nat.lt_or_ge i' n with h | h
    ·rw [appF_lt h] at hy
     obtain ⟨u,hu,hr⟩:=ho3 i' j y h hy
     exact ⟨u,by rw [List.getElem?_append_left (List.getElem?_eq_some_iff.1 hu).1]; exact hu,hr⟩
    ·rw [appF_ge h] at hy
     obtain ⟨u,hu,hr⟩:=hat (i' - n) j y (by omega) hy
     refine ⟨u,?_,hr⟩
     have e1:i' * ei.size + j = n * ei.size + ((i' - n) * ei.size + j):=by
      have:i' * ei.size = n * ei.size + (i' - n) * ei.size:=by rw [← Nat.add_mul]; congr 1; omega
      omega
     rw [e1,List.getElem?_append_right (by omega),ho1,Nat.add_sub_cancel_left]
     exact hu
   have h':=hkill.putOwn hd hg hnew.1 hnew.2.1 hnew.2.2 hrow2.lt (z:=ei.size) (n:=n + m) (cap:=cap2) (e:=e) (f:=appF n f (zerosF (ei.zero.map cTV))) (c:=c2) (cs:=fun i' j=>(c2[i' * ei.size + j]?).getD undef) hrow2 (by rw [← hsz]; exact hcs2) hn2 hm2
    (fun i' hi'=>by
     rcases Nat.lt_or_ge i' n with h | h
     ·rw [appF_lt h]; exact hl i' h
     ·rw [appF_ge h]; exact hlenz _)
    (fun i' j y hi' hy=>by
     obtain ⟨u,hu,_⟩:=hall i' j y hi' hy
     rw [hcells _ u hu]; rfl)
    (fun i' j y hi' hy=>by
     obtain ⟨u,hu,hr⟩:=hall i' j y hi' hy
     rw [hcells _ u hu]; exact hr)
   exact ⟨_,w',_,hexec,.inl ⟨_,rfl,by rw [hdst]; exact h'⟩⟩
end


def evalZero (T:Tab) (σ:AState) (o:Oper):Option (List Prop × AState):=match o.op,o.dst with
 | .call { callee:=.builtin .append,args:=as,argTypes:=ts },some d=>match as.toList,ts.toList with
  | [x,y],[t,t2]=>(match (T.get t).map TI.und,(T.get t2).map TI.und,σ.appOf x,iv (σ.ev y) with
   | some (.slice e),some (.int _),some (some r,n,f,z,e'),some q=>(match T.get e with
    | some ei=>(match okRoot z e' ei.size e (some r) && (Nat.blt 0 ei.size && Nat.blt 0 ei.bytes) with
     | true=>some ([0 ≤ q,(n + q.toNat) * ei.bytes ≤ 140737488355328,PlainTo n f],(killO σ (some r)).put d (.tv (.own ei.size e (n + q.toNat) (appF n f (zerosF (ei.zero.map cTV))))))
     | false=>none)
    | none=>none)
   | _,_,_,_=>none)
  | _,_=>none
 | _,_=>none

theorem evalZero_sound {X:Ctx} {g:Gh} {σ:AState} {a:Act} {w:World} {T:Tab} (hT:TabOk X.P T) (hs:Sat X g σ a w) {o:Oper} {cs:List Prop} {σ':AState} (h:evalZero T σ o = some (cs,σ')) (hc:∀ c ∈ cs,c) (hd:∀ d,o.dst = some d → d < X.n):Comes2 X σ' a w o:=by
 unfold evalZero at h
 split at h
 ·rename_i as ts d ho hdst
  split at h
  ·rename_i x y t t2 hx hy
   split at h
   ·rename_i e k r n f z e' q hu hu2 ex ey
    split at h
    ·rename_i ei hei
     split at h
     ·rename_i hb
      cases h
      rw [Bool.and_eq_true,Bool.and_eq_true] at hb
      have hx':as = #[x,y]:=by rw [← hx]
      have hy':ts = #[t,t2]:=by rw [← hy]
      subst hx' hy'
      exact appendZ_sound hT hs (hd d hdst) hu hu2 ex hei hb.1 (Nat.le_of_ble_eq_true hb.2.1) (Nat.le_of_ble_eq_true hb.2.2) ey (hc _ (by simp)) (hc _ (by simp)) (hc _ (by simp)) ho hdst
     ·cases h
    ·cases h
   ·cases h
  ·cases h
 ·cases h

theorem AOne.zero {F:Cfg} {σ:AState} {ops:Array Oper} {i:Nat} (cs:List Prop) {σ':AState} (o:Oper) (ho:ops[i]? = some o) (hg:guardV ops σ o = some true) (hd:dstOk F.n o = true) (he:evalZero F.T σ o = some (cs,σ')) (hc:AllP cs):AOne F ops i σ σ' :=
 AOne.comes o ho hg fun w0 g0 g a w hs=>evalZero_sound (X:=F.ctx w0 g0) F.ok hs he hc.mem fun d h=>dstOk_lt hd d h

end Go.Sx

namespace Go.Sx
open Go

section
variable {X:Ctx} {g:Gh} {σ:AState} {a:Act} {w:World} {T:Tab}

/-- Elements written anew from a place on. -/
def copyF (f:Nat → List TV) (lo m:Nat) (y:Nat → List TV):Nat → List TV:=fun q=>if lo ≤ q ∧ q < lo + m then y (q - lo) else f q

def AState.storeR (σ:AState) (r:Root) (e:TypeId) (n:Nat) (F:Nat → List TV):AState :=
 (σ.drop (deepR r)).setRoot r (.own 1 e n F)

/-- Elements of one cell are written into a slice of the call's own. -/
theorem Sat.storeR (h:Sat X g σ a w) {r:Root} {e:TypeId} {n:Nat} {f:Nat → List TV} (hown:σ.ownAt r = some (.own 1 e n f)) (hpl:PlainTo n f)
  {lo m:Nat} (hn0:0 < n) (hfit:lo + m ≤ n) {vs:List Value} {yf:Nat → List TV} (hl:vs.length = m) (hy1:∀ q,q < m → (yf q).length = 1)
  (hy:∀ (q:Nat) y,q < m → (yf q)[0]? = some y → ∃ u,vs[q]? = some u ∧ FRel g.P w u y) {b:Nat} (hb:g.ow b = some (r,[])) :
  ∃ w' g',(storeCells ⟨b,lo,none⟩ vs).run X.P w = .ok () w' ∧ Sat X g' (σ.storeR r e n (copyF f lo m yf)) a w':=by
 obtain ⟨hr,hroot,hs⟩:=ownAt_root hown
 obtain ⟨v0,hv0⟩:=h.root hroot
 rcases own_inv hv0 with ⟨_,h0⟩ | ⟨b',cap,c,cs,h1,hv,h3,h4,h5,h6,h7,h8,h9⟩
 ·omega
 obtain rfl:=h.inj b b' _ hb h1
 have hyat:∀ q,q < m → ∃ y u,(yf q)[0]? = some y ∧ vs[q]? = some u ∧ FRel g.P w u y:=fun q hq=>by
  have h1:=hy1 q hq
  have h2:(yf q)[0]? = some ((yf q)[0]'(by omega)):=List.getElem?_eq_getElem (by omega)
  obtain ⟨u,hu,hr⟩:=hy q _ hq h2
  exact ⟨_,u,h2,hu,hr⟩
 have hone:∀ v ∈ vs,v.oneCell' = true:=fun v hv=>by
  obtain ⟨q,hq⟩:=List.getElem?_of_mem hv
  have hq':q < m:=by rw [← hl]; exact (List.getElem?_eq_some_iff.1 hq).1
  obtain ⟨y,u,_,hu,hru⟩:=hyat q hq'
  rw [hq] at hu; cases hu
  exact hru.one
 obtain ⟨fr,hb1,hb2⟩:=h3
 obtain ⟨w',hrun,hw',hg⟩:=run_store_row (P:=X.P) vs lo 0 c w hb1 hb2.no (by omega) hone
 rw [Nat.add_zero] at hw'
 have hRow':Row w' b e (writeA c lo vs):=⟨fr,hw',by rw [writeA_size]; exact hb2⟩
 have hnP:¬ g.P b:=fun hp=>by rw [(h.frozen _ hp).1] at hb; cases hb
 have hPs:∀ k,g.P k → g.P k ∧ w'.heap[k]? = w.heap[k]?:=fun k hk=>⟨hk,hg.heap k (h.frozen k hk).2 (fun e=>hnP (e ▸ hk))⟩
 have hKs:∀ k p,g.ow k = some p → p ≠ (r,[]) → w'.heap[k]? = w.heap[k]?:=fun k p hk hp =>
  hg.heap k (h.lt k p hk).1 (fun e=>by subst e; rw [hb] at hk; cases hk; exact hp rfl)
 have hroot':(σ.drop (deepR r)).rootTV r = some (.own 1 e n f):=by rw [rootTV_drop]; exact hroot
 have hs':∀ k,r = .slot k 0 → (σ.drop (deepR r)).get k = .tv (.own 1 e n f):=fun k hk=>by rw [get_drop]; exact drop_tv (hs k hk)
 have hplain:∀ (q t:Nat) (y:TV),q < n → (f q)[t]? = some y → y.plain = true:=fun q t y hq hyq=>by
  have:=hpl q hq
  rw [List.all_eq_true] at this
  exact this y (List.mem_of_getElem? hyq)
 have hnew:∀ v,TRel g w (r,[]) v (.own 1 e n f) → TRel (g.clr (deepR r)) w' (r,[]) v (.own 1 e n (copyF f lo m yf)):=by
  intro v hv
  rcases own_inv hv with ⟨_,h0⟩ | ⟨b2,cap,c2,cs,h1,rfl,h3',h4,h5,h6,h7,h8,h9⟩
  ·omega
  obtain rfl:=h.inj b b2 _ hb h1
  obtain ⟨fr2,q6,_⟩:=h3'
  rw [hb1] at q6
  injection q6 with q6
  injection q6 with q7 _ _
  subst q7
  refine .own b cap 1 e n _ (writeA c lo vs) (fun q t=>if lo ≤ q ∧ q < lo + m then (vs[q - lo]?).getD undef else cs q t) (clr_some.2 ⟨hb,rfl⟩) hRow' (by rw [writeA_size]; exact h4) h5 h6
   (fun q hq=>?_) (fun q t y hq hyq=>?_) (fun q t y hq hyq=>?_)
  ·by_cases hqi:lo ≤ q ∧ q < lo + m
   ·simp only [copyF,if_pos hqi]; exact hy1 _ (by omega)
   ·simp only [copyF,if_neg hqi]; exact h7 q hq
  ·by_cases hqi:lo ≤ q ∧ q < lo + m
   ·simp only [copyF,if_pos hqi] at hyq
    have ht:t < 1:=by rw [← hy1 (q - lo) (by omega)]; exact (List.getElem?_eq_some_iff.1 hyq).1
    obtain rfl:t = 0:=by omega
    have hk:q - lo < vs.length:=by omega
    rw [if_pos hqi,show q * 1 + 0 = lo + (q - lo) by omega,writeA_in _ _ _ _ hk (by omega)]
    simp [List.getElem?_eq_getElem hk]
   ·simp only [copyF,if_neg hqi] at hyq
    have ht:t < 1:=by rw [← h7 q hq]; exact (List.getElem?_eq_some_iff.1 hyq).1
    rw [if_neg hqi]
    have:(writeA c lo vs)[q * 1 + t]? = c[q * 1 + t]?:=by
     rcases Nat.lt_or_ge q lo with hlt | hge
     ·exact writeA_lt _ _ _ _ (by omega)
     ·exact writeA_ge _ _ _ _ (by omega)
    rw [this]
    exact h8 q t y hq hyq
  ·refine .fr ?_
   by_cases hqi:lo ≤ q ∧ q < lo + m
   ·simp only [copyF,if_pos hqi] at hyq
    have ht:t < 1:=by rw [← hy1 (q - lo) (by omega)]; exact (List.getElem?_eq_some_iff.1 hyq).1
    obtain rfl:t = 0:=by omega
    obtain ⟨u,hu,hru⟩:=hy (q - lo) y (by omega) hyq
    rw [if_pos hqi,hu]
    exact hru.mono hPs
   ·simp only [copyF,if_neg hqi] at hyq
    rw [if_neg hqi]
    exact ((h9 q t y hq hyq).plain (hplain q t y hq hyq)).mono hPs
 have hlook:∀ q st,q ≠ r → (σ.storeR r e n (copyF f lo m yf)).look (q,st) = σ.look (q,st):=fun q st hq=>by
  rw [AState.storeR,look_ne hr hroot' hs' hq,look_drop]
 have hlook0:(σ.storeR r e n (copyF f lo m yf)).look (r,[]) = some (.own 1 e n (copyF f lo m yf)):=rootTV_setRoot hr hroot'
 have hheaplen:(σ.storeR r e n (copyF f lo m yf)).heap.length = σ.heap.length:=by
  cases r with
  | slot k j=>rfl
  | cell o off=>exact setCells_length _ _ _
  | obj o=>cases hr
 have U:Up g (g.clr (deepR r)) σ (σ.storeR r e n (copyF f lo m yf)) w w' (fun p=>decide (p.1 = r)):=by
  refine ⟨hPs,fun k p hk hp=>?_,fun p hp z e n f hl=>?_,fun q _ hlt=>⟨rfl,by rw [hheaplen]; exact hlt⟩⟩
  ·simp only [decide_eq_false_iff_not] at hp
   refine ⟨clr_some.2 ⟨hk,?_⟩,hKs k p hk (fun e=>hp (by rw [e]))⟩
   unfold deepR
   split
   ·rfl
   ·simp [hp]
  ·simp only [decide_eq_false_iff_not] at hp
   obtain ⟨q,st⟩:=p
   rw [hlook q st hp]; exact hl
 have hN:∀ p,deepR r p = false → Names g (g.clr (deepR r)) w w' σ (σ.storeR r e n (copyF f lo m yf)) p:=fun p hp=>by
  refine ⟨fun k hk=>⟨clr_some.2 ⟨hk,hp⟩,fun c' e' hc'=>?_⟩,fun z1 e1 n1 f1 hl=>?_,fun q _ hlt=>⟨rfl,by rw [hheaplen]; exact hlt⟩⟩
  ·by_cases hpr:p = (r,[])
   ·have:k = b:=h.inj k b p hk (by rw [hpr]; exact hb)
    subst this
    obtain ⟨fr',hc1,hc2⟩:=hc'
    rw [hb1] at hc1
    injection hc1 with hc1
    injection hc1 with e1 e2 e3
    subst e1 e2 e3
    exact ⟨_,hRow',writeA_size _ _ _⟩
   ·exact ⟨c',hc'.eq (hKs k p hk hpr),rfl⟩
  ·obtain ⟨q,st⟩:=p
   by_cases hq:q = r
   ·subst hq
    cases st with
    | nil =>
     have:σ.look (q,[]) = some (.own 1 e n f):=hroot
     rw [hl] at this
     cases this
     exact ⟨_,hlook0⟩
    | cons ij st=>simp [deepR] at hp
   ·exact ⟨f1,by rw [hlook q st hq]; exact hl⟩
 refine ⟨w',g.clr (deepR r),hrun,h.defers,h.size,fun k=>?_,fun o t cs' ho=>?_,fun k k' p hk hk'=>h.inj k k' p (clr_some.1 hk).1 (clr_some.1 hk').1,fun k hk=>⟨clr_none (h.frozen k hk).1,Nat.lt_of_lt_of_le (h.frozen k hk).2 hg.size⟩,
  fun k p hk=>?_,fun k p hk=>?_,h.P0,h.P1,fun k hk h0=>?_,hg.os.trans h.os,hg.tape.trans h.tape,hg.output.trans h.output,Nat.le_trans h.mono hg.size,h.m0,by rw [hheaplen]; exact h.h0⟩
 ·by_cases hk:r = .slot k 0
  ·have hg2:(σ.storeR r e n (copyF f lo m yf)).get k = .tv (.own 1 e n (copyF f lo m yf)):=by
    subst hk
    simp only [AState.storeR,AState.setRoot,get_set,if_true]
   rw [hg2]
   have hk0:=h.env k
   rw [hs k hk] at hk0
   subst hk
   exact hnew _ hk0
  ·have hgk:(σ.storeR r e n (copyF f lo m yf)).get k = (σ.get k).drop (deepR r):=by
    cases r with
    | slot k' j' =>
     cases j' with
     | succ j'=>cases hr
     | zero =>
      have hne:k ≠ k':=by rintro rfl; exact hk rfl
      simp only [AState.storeR,AState.setRoot,get_set,if_neg hne,get_drop]
    | cell o off=>exact get_drop σ _ k
    | obj o=>cases hr
   rw [hgk]
   refine ((h.env k).drop _).mono ⟨hPs,fun j' k' st hk'=>?_⟩ fun p hp=>?_
   ·have hne:Root.slot k j' ≠ r:=by
     rintro rfl
     cases j' with
     | zero=>exact hk rfl
     | succ j'=>cases hr
    refine ⟨clr_some.2 ⟨hk',?_⟩,hKs k' _ hk' (fun e=>hne (by injection e))⟩
    unfold deepR
    split
    ·rfl
    ·simp [hne]
   ·obtain ⟨x,hx,he⟩:=(names_drop hp).2
    obtain rfl:x = p:=by simpa using he
    exact hN x hx
 ·-- objects
  have hobj:∀ (i:Nat) u y,(Root.cell o i) ≠ r → TRel g w (.cell o i,[]) u y → TRel (g.clr (deepR r)) w' (.cell o i,[]) u y:=fun i u y hne hru =>
   U.tv (fun st=>by simp only [decide_eq_false_iff_not]; exact hne) hru
  have hkeep:∀ {t':TypeId} {cs0:List TV},σ.heap[o]? = some (.cells t' cs0) → ∃ c,w'.heap[g.m o]? = some (.cells c t' (0,0)) ∧ (g.clr (deepR r)).ow (g.m o) = some (.obj o,[]) ∧ c.size = cs0.length ∧
    ∀ (i:Nat) y,cs0[i]? = some y → ∃ u,c[i]? = some u ∧ TRel g w (.cell o i,[]) u y:=fun {t' cs0} ho0=>by
   obtain ⟨c',k1,k2,k3,k4⟩:=h.heap o t' cs0 ho0
   have hne:((Root.obj o,[]):Path) ≠ (r,[]):=fun e=>by injection e with e1 _; subst e1; cases hr
   exact ⟨c',(hKs _ _ k2 hne).trans k1,clr_some.2 ⟨k2,rfl⟩,k3,k4⟩
  cases r with
  | slot k' j' =>
   obtain ⟨c',k1,k2,k3,k4⟩:=hkeep ho
   refine ⟨c',k1,k2,k3,fun i y hy'=>?_⟩
   obtain ⟨u,hu,hru⟩:=k4 i y hy'
   exact ⟨u,hu,hobj i u y (by simp) hru⟩
  | obj o'=>cases hr
  | cell o' off =>
   by_cases hoo:o = o'
   ·subst hoo
    have ho':(setCells σ.heap o (fun cs=>cs.set off (.own 1 e n (copyF f lo m yf))))[o]? = some (.cells t cs'):=ho
    obtain ⟨cs0,ho0,rfl⟩:=setCells_some _ ho'
    obtain ⟨c',k1,k2,k3,k4⟩:=hkeep ho0
    have hoff:cs0[off]? = some (.own 1 e n f):=by
     simp only [AState.rootTV,ho0] at hroot
     exact hroot
    refine ⟨c',k1,k2,by rw [List.length_set]; exact k3,fun q y hy'=>?_⟩
    rw [List.getElem?_set] at hy'
    by_cases hq:off = q
    ·subst hq
     rw [if_pos rfl,if_pos (List.getElem?_eq_some_iff.1 hoff).1] at hy'
     cases hy'
     obtain ⟨u,hu,hru⟩:=k4 off _ hoff
     exact ⟨u,hu,hnew u hru⟩
    ·rw [if_neg hq] at hy'
     obtain ⟨u,hu,hru⟩:=k4 q y hy'
     exact ⟨u,hu,hobj q u y (by simp; exact fun e=>hq e.symm) hru⟩
   ·have ho':(setCells σ.heap o' (fun cs=>cs.set off (.own 1 e n (copyF f lo m yf))))[o]? = some (.cells t cs'):=ho
    rw [setCells_ne _ _ _ _ hoo] at ho'
    obtain ⟨c',k1,k2,k3,k4⟩:=hkeep ho'
    refine ⟨c',k1,k2,k3,fun q y hy'=>?_⟩
    obtain ⟨u,hu,hru⟩:=k4 q y hy'
    exact ⟨u,hu,hobj q u y (by simp [hoo]) hru⟩
 ·obtain ⟨k1,k2⟩:=h.lt k p (clr_some.1 hk).1
  exact ⟨Nat.lt_of_lt_of_le k1 hg.size,k2⟩
 ·have:=h.ids k p (clr_some.1 hk).1
  rw [hheaplen]; exact this
 ·have hne:k ≠ b:=by
   rintro rfl
   rcases (h.lt _ _ hb).2 with q | q
   ·omega
   ·exact q h0
  exact (hg.heap k (by have:=h.mono; omega) hne).trans (h.kept k hk h0)
end

section
variable {F:Cfg} {Q:Exit → AState → Prop} {σ:AState} {ops:Array Oper}

theorem wpOp_value {P:Program} {Q:Exit → Act → World → Prop} {i:Nat} {K:Act → World → Prop} {a:Act} {w w':World} {o:Oper} {v:Value} (ho:ops[i]? = some o) (hg:o.guard = none) (hrun:(execOp a.eval o).run P w = .ok (.value v) w') (hK:K (a.put o.dst v) w'):wpOp P ops Q i K a w:=by
 simp only [wpOp,ho,Region.wanted,hg,if_true]
 left
 unfold Oper.wp
 rw [hrun]
 exact hK

theorem eval_put {a:Act} {d s:Nat} {v:Value} (hne:s ≠ d):(a.put (some d) v).eval (.tmp s) = a.eval (.tmp s):=by
 by_cases hd:d < a.tmps.size
 ·show (a.put (some d) v).tmps.getD s undef = a.tmps.getD s undef
  rw [tmps_put _ _ _ _ hd,if_neg hne]
 ·show (a.put (some d) v).tmps.getD s undef = a.tmps.getD s undef
  simp [Act.put,Array.setIfInBounds,hd]

theorem eval_put_same {a:Act} {d:Nat} {v:Value} (hd:d < a.tmps.size):(a.put (some d) v).eval (.tmp d) = v:=by
 show (a.put (some d) v).tmps.getD d undef = v
 rw [tmps_put _ _ _ _ hd,if_pos rfl]

theorem size_put {a:Act} {d:Nat} {v:Value}:(a.put (some d) v).tmps.size = a.tmps.size:=by
 simp [Act.put]

end

section
variable {F:Cfg} {K:AState → Prop} {σ:AState} {ops:Array Oper}

end

section
variable {X:Ctx} {g:Gh} {σ:AState} {a:Act} {w:World} {T:Tab}

end

section
variable {F:Cfg} {Q:Exit → AState → Prop} {σ:AState} {ops:Array Oper}

end

/-- So many elements, and others from a place on. -/
def putL {A:Type} (l:List A) (lo:Nat) (y:List A):List A:=l.take lo ++ y ++ l.drop (lo + y.length)

section
variable {F:Cfg} {Q:Exit → AState → Prop} {σ:AState} {ops:Array Oper}

theorem cell_obj {w:World} {b j:Nat} {c:Array Value} {t:TypeId} (h:w.heap[b]? = some (.cells c t (0,0))):w.cell? ⟨b,j,none⟩ = c[j]?:=by
 rw [(Row.of h).cell]

end

end Go.Sx

namespace Go.Sx
open Go

section
variable {F:Cfg} {σ:AState}

theorem AOne.str {ops:Array Oper} {i:Nat} {s t e:TypeId} {x:Operand} (o:Oper) (ho:ops[i]? = some o) (hop:o.op = .convert s t x) (hg:guardV ops σ o = some true) (d:Nat) (hd:o.dst = some d) (hlt:Nat.blt d F.n = true)
  (h1:(F.T.get s).map TI.und = some (.slice e)) (h2:(F.T.get e).map TI.und = some (.int .u8)) (h3:(F.T.get t).map TI.und = some .string) {n:Nat} {f:Nat → List TV} {b:Bool} (hsl:σ.slOf (σ.ev x) = some (1,n,f,b))
  (xs:List Int) (hn:n = xs.length) (hf:∀ i,i < n → f i = cInt .u8 (xs.getD i default)):AOne F ops i σ (σ.put d (.tv (.str (xs.map fun n=>UInt8.ofNat n.toNat)))):=fun w0 g0 g a w hs K Q h=>by
 simp only [wpOp,ho]
 rw [if_pos (guardV_sound hs hg)]
 left
 have hp:PlainTo n f:=fun i hi=>by rw [hf i hi]; rfl
 have hrun:(convert s t (a.eval x)).run F.P w = .ok (.string (strOfNums xs)) w:=by
  rcases slOf_rel hs hsl hp with ⟨⟨A,c,hv⟩,h0⟩ | ⟨b',off,cap,cs,hv,hz,hc⟩
  ·subst h0
   obtain rfl:xs = []:=List.eq_nil_of_length_eq_zero hn.symm
   rw [hv]
   cases A with
   | none=>exact run_convert_bytes_nil w s e (F.ok.und h1) (F.ok.und h2) 0 c t (F.ok.und h3)
   | some A =>
    have hl:(loadCells A 0).run F.P w = .ok (([]:List Int).map (Value.int .u8)).toArray w:=run_loadCells_list (P:=F.P) w A [] fun j v hj=>by simp at hj
    rw [run_convert_bytes_string w s t e _ 0 c (F.ok.und h1) (F.ok.und h2) (F.ok.und h3),run_bytesToString w A 0 c [] hl]
    rfl
  ·rw [hv]
   refine run_convert_bytes_arg w s e (F.ok.und h1) (F.ok.und h2) b' off n cap xs hn.symm (fun i hi=>?_) t (F.ok.und h3)
   have hy:(f i)[0]? = some (.int .u8 (xs.getD i default)):=by rw [hf i hi]; rfl
   obtain ⟨this,hrel⟩:=hc i 0 _ hi hy
   rw [Nat.mul_one,Nat.add_zero] at this
   rw [this,rel_int (g:=g) (p:=(.slot 0 0,[])) (.fr hrel)]
   rfl
 have hrun':(execOp a.eval o).run F.P w = .ok (.value (.string (strOfNums xs))) w:=by
  simp only [execOp,hop]
  rw [Sem.run_bind,hrun]
  rfl
 unfold Oper.wp
 rw [hrun',Oper.upon_value,hd]
 exact h _ _ w (hs.put (Nat.le_of_ble_eq_true hlt) (sv:=.tv (.str _)) rfl rfl (k:=0) (.fr (.str _)))

theorem set_at {A:Type} [Inhabited A] (enc:A → List TV) (l:List A) (k j:Nat) (ys:List TV) (v:A) (hv:putAt (enc (l.getD k default)) j ys = enc v):∀ i,i < l.length → setElem (fun i=>enc (l.getD i default)) k (putAt (enc (l.getD k default)) j ys) i = enc ((l.set k v).getD i default):=by
 refine setElem_at enc l k v _ (fun i _ hne=>?_) fun _=>?_
 ·simp only [setElem,beq_ne hne]
 ·simp only [setElem,Nat.beq_refl]; exact hv

end
end Go.Sx

namespace Go.Sx
open Go

section
variable {F:Cfg} {K:AState → Prop} {σ:AState} {ops:Array Oper}

end
end Go.Sx

namespace Go.Sx
open Go

/-- The place of the first byte c, or -1. -/
def idxB (xs:List Int) (c:Int):Int:=firstIdx ⟨(xs.map fun n=>UInt8.ofNat n.toNat).toArray⟩ c.toNat.toUInt8

section
variable {F:Cfg} {σ:AState}

end
end Go.Sx

namespace Go.Sx
open Go

def LeafOk (P:Program) (t:TypeId):TV → Prop
 | .int _ _=>∃ k,P.underlying t = some (.int k)
 | .bool _=>P.underlying t = some .bool
 | .str _=>P.underlying t = some .string
 | _=>False

def FlatOk (P:Program):List Field → Nat → List TV → Prop
 | [],_,[]=>True
 | f :: fs, i, z :: zs => f.name ≠ "_" ∧ f.offset = i ∧ LeafOk P f.type z ∧ FlatOk P fs (i + 1) zs
 | _,_,_=>False

end Go.Sx

namespace Go.Sx
open Go

/-- Where x tells something, y tells the same. -/
def Le {A:Type} (x y:Option A):Prop:=∀ r,x = some r → y = some r

theorem Le.refl {A:Type} (x:Option A):Le x x:=fun _ h=>h

theorem Le.bind {A B:Type} {x y:Option A} {f g:A → Option B} (h:Le x y) (hf:∀ a,Le (f a) (g a)):Le (x.bind f) (y.bind g):=fun r hr=>by
 obtain ⟨a,ha,hb⟩:=Option.bind_eq_some_iff.1 hr
 exact Option.bind_eq_some_iff.2 ⟨a,h a ha,hf a r hb⟩

theorem Le.cond {A:Type} {b:Bool} {x y x' y':Option A} (h:Le x x') (h':Le y y'):Le (cond b x y) (cond b x' y'):=by
 cases b
 ·exact h'
 ·exact h

theorem Le.ite {A:Type} {p:Prop} [Decidable p] {x x':Option A} (h:Le x x'):Le (if p then x else none) (if p then x' else none):=by
 by_cases hp:p
 ·simp only [if_pos hp]; exact h
 ·simp only [if_neg hp]; exact Le.refl _

theorem rounds_mono {S X:Type} {b b':S → Option (S ⊕ X)} (h:∀ s,Le (b s) (b' s)):∀ (n:Nat) (s:S) (x:X),rounds b n s = some x → rounds b' n s = some x
 | 0,_,_,hx=>by cases hx
 | n + 1,s,x,hx=>by
  simp only [rounds] at hx ⊢
  cases hb:b s with
  | none=>rw [hb] at hx; cases hx
  | some o =>
   rw [hb] at hx
   rw [h s o hb]
   cases o with
   | inl s'=>exact rounds_mono h n s' x hx
   | inr y=>exact hx

/-- So many rounds. -/
abbrev itN {S X:Type} (n:Nat) (b:S → Option (S ⊕ X)) (s:S):Option X:=rounds b n s

theorem Le.iter {S X:Type} {b b':S → Option (S ⊕ X)} {n:Nat} {s:S} (h:∀ s,Le (b s) (b' s)):Le (rounds b n s) (iter b' s):=fun x hx=>iter_some.2 ⟨n,rounds_mono h n s x hx⟩

end Go.Sx

namespace Go.Sx
open Go Go.RowKit

/-- Cells one behind the other. -/
def CR (w:World) (cs:List Value) (ys:List TV):Prop :=
 ∀ (j:Nat) y,ys[j]? = some y → ∃ u,cs[j]? = some u ∧ FRel (fun b=>b < w.heap.size) w u y

structure Rd (P:Program) (t:TypeId) {A:Type} (z:Nat) (enc:A → List TV) (G:A → Prop):Prop where
 len:∀ a,(enc a).length = z
 cells:P.cellsOf t = z
 rd:∀ {H:Type} (eH:TypeId × Value → H) (w:World) (base:Nat) (spare:Nat → Bool) (held:Bool) (fuel:Nat) (cs:List Value) (x:DataW H × List MemPlace),DataW.trod eH P w base spare held fuel t cs = some x → ∃ a,G a ∧ cs.length = z ∧ CR w cs (enc a)

theorem CR.one {w:World} {v:Value} {y:TV} (h:FRel (fun b=>b < w.heap.size) w v y):CR w [v] [y]:=fun j y' hy=>by
 cases j with
 | zero=>simp only [List.getElem?_cons_zero,Option.some.injEq] at hy; subst hy; exact ⟨v,rfl,h⟩
 | succ j=>simp at hy

theorem Rd.int {P:Program} {t:TypeId} (k:IntKind) (hu:P.underlying t = some (.int k)) (hc:P.cellsOf t = 1):Rd P t 1 (cInt k) (fun n=>(Lit.int k n).wf = true) :=
 ⟨fun _=>rfl,hc,fun eH w base spare held fuel cs x h=>by
  obtain ⟨n,rfl,_,hw⟩:=DataW.trod_int hu h
  exact ⟨n,hw,rfl,CR.one (.int k n)⟩⟩

theorem Rd.bool {P:Program} {t:TypeId} (hu:P.underlying t = some .bool) (hc:P.cellsOf t = 1):Rd P t 1 cBool (fun _=>True) :=
 ⟨fun _=>rfl,hc,fun eH w base spare held fuel cs x h=>by
  obtain ⟨b,rfl,_⟩:=DataW.trod_bool hu h
  exact ⟨b,trivial,rfl,CR.one (.bool b)⟩⟩

theorem Rd.str {P:Program} {t:TypeId} (hu:P.underlying t = some .string) (hc:P.cellsOf t = 1):Rd P t 1 cStr (fun s=>s.length ≤ maxLen) :=
 ⟨fun _=>rfl,hc,fun eH w base spare held fuel cs x h=>by
  obtain ⟨s,rfl,_,hs⟩:=DataW.trod_string hu h
  refine ⟨s.data.toList,hs,rfl,CR.one ?_⟩
  have:=FRel.str (P:=fun b=>b < w.heap.size) (w:=w) s.data.toList
  rwa [Array.toArray_toList] at this⟩

theorem choose_list {A:Type} [Inhabited A] {p:Nat → A → Prop}:∀ (n:Nat),(∀ i,i < n → ∃ a,p i a) → ∃ l:List A,l.length = n ∧ ∀ i,i < n → p i (l.getD i default)
 | 0,_=>⟨[],rfl,fun i h=>by omega⟩
 | n + 1,h=>by
  obtain ⟨l,hl,hp⟩:=choose_list n fun i hi=>h i (by omega)
  obtain ⟨a,ha⟩:=h n (by omega)
  refine ⟨l ++ [a],by simp [hl],fun i hi=>?_⟩
  by_cases hin:i < n
  ·simp only [List.getD_eq_getElem?_getD,List.getElem?_append_left (show i < l.length by omega)]
   simpa [List.getD_eq_getElem?_getD] using hp i hin
  ·obtain rfl:i = n:=by omega
   simp only [List.getD_eq_getElem?_getD,List.getElem?_append_right (show l.length ≤ i by omega),hl,Nat.sub_self,List.getElem?_cons_zero,Option.getD_some]
   exact ha

theorem cell_spot {w:World} {a:Addr} {v:Value} (h:w.cell? a = some v):a = ⟨a.block,a.off,none⟩ ∧ a.block < w.heap.size:=by
 refine ⟨?_,World.block_lt_of_cell? w _ h⟩
 unfold World.cell? at h
 split at h
 ·cases hs:a.spot with
  | none=>cases a; simp_all
  | some q=>simp [hs] at h
 ·cases h

theorem Rd.slice {P:Program} {t e:TypeId} {A:Type} [Inhabited A] {z:Nat} {enc:A → List TV} {G:A → Prop} (hu:P.underlying t = some (.slice e)) (hc:P.cellsOf t = 1) (hz:0 < z) (he:Rd P e z enc G) :
  Rd P t 1 (cSl z enc) (fun l=>l.length ≤ maxLen ∧ ∀ x ∈ l,G x) :=
 ⟨fun _=>rfl,hc,fun eH w base spare held fuel cs x h=>by
  rcases DataW.trod_slice hu h with ⟨rfl,_⟩ | ⟨a,len,cap,elems,rest,n,_,rfl,rfl,hb,hl,hm,hlen,hel,_⟩
  ·exact ⟨[],⟨Nat.zero_le _,fun x hx=>by simp at hx⟩,rfl,CR.one (.nil none 0 z _)⟩
  ·have key:∀ i,i < len → ∃ y:A,G y ∧ ∃ cs',w.cells? base (a.add (i * z)) z = some cs' ∧ cs'.length = z ∧ CR w cs' (enc y):=by
    intro i hi
    have h1:=hel i hi
    rw [he.cells] at h1
    have h2:elems[i]? = some (elems[i]'(by omega)):=List.getElem?_eq_getElem (by omega)
    rw [h2] at h1
    obtain ⟨cs',h3,h4⟩:=Option.bind_eq_some_iff.1 h1
    obtain ⟨y,hy,hyl,hyr⟩:=he.rd eH w base spare held n cs' _ h4
    exact ⟨y,hy,cs',h3,hyl,hyr⟩
   obtain ⟨l,hll,hp⟩:=choose_list len key
   refine ⟨l,⟨by omega,fun x hx=>?_⟩,rfl,CR.one ?_⟩
   ·obtain ⟨i,hi⟩:=List.getElem?_of_mem hx
    have hlt:i < l.length:=(List.getElem?_eq_some_iff.1 hi).1
    have:=(hp i (by omega)).1
    rwa [List.getD_eq_getElem?_getD,hi] at this
   ·by_cases h0:len = 0
    ·subst h0
     obtain rfl:=List.eq_nil_of_length_eq_zero hll
     exact .nil (some a) cap z _
    ·obtain ⟨_,cs0,hc0,_,_⟩:=hp 0 (by omega)
     obtain ⟨_,hl0,hcell⟩:=World.cells?_some hc0
     have h00:=hcell 0 hz
     have hlt0:0 < cs0.length:=by omega
     rw [List.getElem?_eq_getElem hlt0,Nat.zero_mul] at h00
     have hadd:(a.add 0).add 0 = a:=by simp [Addr.add]
     rw [hadd] at h00
     obtain ⟨hsp,hblk⟩:=cell_spot h00
     rw [hsp]
     subst hll
     have hat:∀ i,i < l.length → ∃ cs':List Value,w.cells? base (a.add (i * z)) z = some cs' ∧ cs'.length = z ∧ CR w cs' (enc (l.getD i default)):=fun i hi=>(hp i hi).2
     refine .row a.block a.off cap z l.length _ (fun i j=>(w.cell? ⟨a.block,a.off + i * z + j,none⟩).getD undef) hblk hl hm (fun i _=>he.len _) (fun i j y hi hy=>?_) fun i j y hi hy=>?_
     all_goals
      obtain ⟨cs',h1,h2,h3⟩:=hat i hi
      obtain ⟨_,_,hcl⟩:=World.cells?_some h1
      obtain ⟨u,hu',hr⟩:=h3 j y hy
      have hj:j < z:=by have:=(List.getElem?_eq_some_iff.1 hu').1; omega
      have h4:=hcl j hj
      rw [hu',hsp,add_mk,add_mk] at h4
      rw [h4]
     ·rfl
     ·exact hr⟩

/-- Fields one behind the other. -/
def RdFs (P:Program) (fs:List Field) (o:Nat) {A:Type} (enc:A → List TV) (G:A → Prop):Prop :=
 ∀ {H:Type} (eH:TypeId × Value → H) (w:World) (base:Nat) (spare:Nat → Bool) (held:Bool) (fuel:Nat) (cs:List Value) (xs:List (DataW H × List MemPlace)),
  fs.mapM (fun f=>DataW.trod eH P w base spare held fuel f.type ((cs.drop f.offset).take (P.cellsOf f.type))) = some xs → ∃ a,G a ∧ CR w (cs.drop o) (enc a)

theorem RdFs.nil {P:Program} {o:Nat}:RdFs P [] o (A:=Unit) (fun _=>[]) (fun _=>True):=fun _ _ _ _ _ _ _ _ _=>⟨(),trivial,fun j y hy=>by simp at hy⟩

theorem RdFs.cons {P:Program} {f:Field} {fs:List Field} {o z:Nat} {A B:Type} {enc:A → List TV} {enc':B → List TV} {G:A → Prop} {G':B → Prop} (hf:f.offset = o) (h:Rd P f.type z enc G) (hs:RdFs P fs (o + z) enc' G') :
  RdFs P (f :: fs) o (fun p:A × B=>enc p.1 ++ enc' p.2) (fun p=>G p.1 ∧ G' p.2):=fun eH w base spare held fuel cs xs hm=>by
 rw [List.mapM_cons] at hm
 cases hx:DataW.trod eH P w base spare held fuel f.type ((cs.drop f.offset).take (P.cellsOf f.type)) with
 | none=>rw [hx] at hm; cases hm
 | some x =>
  cases hr:fs.mapM (fun f=>DataW.trod eH P w base spare held fuel f.type ((cs.drop f.offset).take (P.cellsOf f.type))) with
  | none=>rw [hx,hr] at hm; cases hm
  | some xs' =>
   obtain ⟨a,ga,_,ra⟩:=h.rd eH w base spare held fuel _ x hx
   obtain ⟨b,gb,rb⟩:=hs eH w base spare held fuel cs xs' hr
   refine ⟨(a,b),⟨ga,gb⟩,fun j y hy=>?_⟩
   by_cases hj:j < z
   ·rw [List.getElem?_append_left (by rw [h.len]; exact hj)] at hy
    obtain ⟨u,hu,hr⟩:=ra j y hy
    rw [List.getElem?_take] at hu
    split at hu
    ·exact ⟨u,by rw [← hf]; exact hu,hr⟩
    ·cases hu
   ·rw [List.getElem?_append_right (by rw [h.len]; omega),h.len] at hy
    obtain ⟨u,hu,hr⟩:=rb _ y hy
    rw [List.getElem?_drop] at hu ⊢
    exact ⟨u,by rw [show o + j = o + z + (j - z) by omega]; exact hu,hr⟩

theorem Rd.struct {P:Program} {t:TypeId} {fs:Array Field} {z:Nat} {A B:Type} {enc:A → List TV} {G:A → Prop} {encB:B → List TV} {GB:B → Prop} (hu:P.underlying t = some (.struct fs)) (hc:P.cellsOf t = z) (hlen:∀ b,(encB b).length = z) (hs:RdFs P fs.toList 0 enc G) (f:A → B) (he:∀ a,encB (f a) = enc a) (hG:∀ a,G a → GB (f a)) :
  Rd P t z encB GB :=
 ⟨hlen,hc,fun eH w base spare held fuel cs x h=>by
  cases fuel with
  | zero=>simp [DataW.trod] at h
  | succ n =>
   unfold DataW.trod at h
   rw [hu] at h
   have h':(if cs.length = P.cellsOf t then (fs.toList.mapM fun f=>DataW.trod eH P w base spare held n f.type ((cs.drop f.offset).take (P.cellsOf f.type))).map fun xs=>(DataW.agg (xs.map (·.1)),xs.flatMap (·.2)) else none) = some x:=by
    split at h <;> first | exact h | (simp_all; done)
   split at h'
   ·rename_i hl
    obtain ⟨xs,hxs,_⟩:=Option.map_eq_some_iff.1 h'
    obtain ⟨a,ga,ra⟩:=hs eH w base spare held n cs xs hxs
    exact ⟨f a,hG a ga,by rw [hl,hc],by rw [he]; simpa using ra⟩
   ·cases h'⟩

/-! ### What a law's contract gives -/

/-- What an argument reads as, whatever stands beside it. -/
def ArgOk (w:World) (v:Value) (s:SV):Prop:=∀ σ k,SR (Gh.still w) w σ k v s

inductive ArgsOk (w:World):List Value → List SV → Prop
 | nil:ArgsOk w [] []
 | cons {v s vs ss}:ArgOk w v s → ArgsOk w vs ss → ArgsOk w (v :: vs) (s :: ss)

theorem ArgsOk.at {w:World}:∀ {vs:List Value} {ss:List SV},ArgsOk w vs ss → vs.length = ss.length ∧ ∀ (k:Nat) s,ss[k]? = some s → ∃ v,vs[k]? = some v ∧ ArgOk w v s
 | _,_,.nil=>⟨rfl,fun k s h=>by simp at h⟩
 | _,_,.cons h1 h2=>by
  obtain ⟨e,ha⟩:=h2.at
  refine ⟨by simp [e],fun k s hk=>?_⟩
  cases k with
  | zero=>simp only [List.getElem?_cons_zero,Option.some.injEq] at hk; subst hk; exact ⟨_,rfl,h1⟩
  | succ k=>simp only [List.getElem?_cons_succ] at hk ⊢; exact ha k s hk

theorem ACall.law {P:Program} {f:FuncId} {ss:List SV} {W:World} {vs:Array Value} (h:ACall P f ss [] (.tv (.bool true)) []) (ha:ArgsOk W vs.toList ss) :
  Calls P f vs W fun e W'=>e = .returned (.bool true) ∧ Below W.heap.size W W':=by
 obtain ⟨hl,hat⟩:=ha.at
 have he:Ent (Gh.still W) W vs ss []:=by
  refine ⟨by simpa using hl,fun k sv hk=>?_,fun o t cs ho=>(by simp at ho),fun b b' p hb _=>(by cases hb),fun b hb=>⟨rfl,hb⟩,fun b p hb=>(by cases hb),fun b p hb=>(by cases hb)⟩
  obtain ⟨v,hv,hr⟩:=hat k sv hk
  have:vs.getD k undef = v:=by rw [Array.getD_eq_getD_getElem?,← Array.getElem?_toList,hv]; rfl
  rw [this]
  exact hr _ _
 refine (h _ W vs he).mono ?_
 rintro e W' ⟨v,g',rfl,hE⟩
 have hv:v = .bool true:=rel_bool (show TRel g' W' (.slot 0 0,[]) v (.bool true) from hE.res)
 exact ⟨by rw [hv],hE.os,hE.tape,hE.output,hE.mono,fun k hk=>hE.kept k hk rfl⟩

theorem ArgOk.one {w:World} {v:Value} {y:TV} (h:FRel (fun b=>b < w.heap.size) w v y):ArgOk w v (.tv y):=fun _ _=>.fr h

theorem ArgOk.agg {w:World} {cs:Array Value} {ys:List TV} (hl:cs.size = ys.length) (h:CR w cs.toList ys):ArgOk w (.agg cs) (.agg ys):=fun _ _ =>
 ⟨cs,rfl,hl,fun i y hy=>by
  obtain ⟨u,hu,hr⟩:=h i y hy
  exact ⟨u,by rw [← Array.getElem?_toList]; exact hu,.fr hr⟩⟩

theorem CR.get {w:World} {v:Value} {y:TV} (h:CR w [v] [y]):FRel (fun b=>b < w.heap.size) w v y:=by
 obtain ⟨u,hu,hr⟩:=h 0 y rfl
 cases hu
 exact hr

end Go.Sx

namespace Go.Sx
open Go

end Go.Sx

namespace Go.Sx
open Go

section
variable {X:Ctx} {g:Gh} {σ:AState} {a:Act} {w:World} {T:Tab}

/-- Places below a root, by the steps that lead there. -/
def deepD (r:Root) (D:Steps → Bool) (p:Path):Bool:=D p.2 && decide (p.1 = r)

theorem deepD_ne {r:Root} {D:Steps → Bool} {q:Root} {st:Steps} (h:q ≠ r):deepD r D (q,st) = false:=by simp [deepD,h]
theorem deepD_at {r:Root} {D:Steps → Bool} {st:Steps}:deepD r D (r,st) = D st:=by simp [deepD]

/-- A slice of one's own is told anew, as its blocks, or those within it, have been written. -/
theorem Sat.rootNewG (h:Sat X g σ a w) {r:Root} {z:Nat} {e:TypeId} {n:Nat} {f f':Nat → List TV} (hown:σ.ownAt r = some (.own z e n f)) {D:Steps → Bool} (hD:D [] = false) {w':World} {g':Gh} (hgm:g'.m = g.m) (hgP:g'.P = g.P) (hkp:∀ k p,g.ow k = some p → deepD r D p = false → g'.ow k = some p)
  (hback:∀ k p,g'.ow k = some p → (g.ow k = some p ∧ deepD r D p = false) ∨ (deepD r D p = true ∧ k < w'.heap.size ∧ (X.w0.heap.size ≤ k ∨ X.g0.ow k ≠ none) ∧ ¬ g.P k)) (hinj:∀ k k' p,g'.ow k = some p → g'.ow k' = some p → deepD r D p = true → k = k')
  (hP:∀ k,g.P k → w'.heap[k]? = w.heap[k]?) (hK:∀ k p,g.ow k = some p → p.1 ≠ r → w'.heap[k]? = w.heap[k]?)
  (hnew:∀ v,TRel g w (r,[]) v (.own z e n f) → TRel g' w' (r,[]) v (.own z e n f'))
  (hrow:∀ k st,D st = false → g.ow k = some (r,st) → ∀ c e,Row w k e c → ∃ c',Row w' k e c' ∧ c'.size = c.size)
  (hlk:∀ st,D st = false → ∀ z1 e1 n1 f1,st.foldr (fun ij acc=>acc.bind (elemTV ij)) (some (.own z e n f)) = some (.own z1 e1 n1 f1) → ∃ f2,st.foldr (fun ij acc=>acc.bind (elemTV ij)) (some (.own z e n f')) = some (.own z1 e1 n1 f2))
  (hsz:w.heap.size ≤ w'.heap.size) (hkept:∀ k,k < X.w0.heap.size → X.g0.ow k = none → w'.heap[k]? = w.heap[k]?) (h1:w'.os = w.os) (h2:w'.tape = w.tape) (h3:w'.output = w.output) :
  Sat X g' ((σ.drop (deepD r D)).setRoot r (.own z e n f')) a w':=by
 obtain ⟨hr,hroot,hs⟩:=ownAt_root hown
 have hPs:∀ k,g.P k → g'.P k ∧ w'.heap[k]? = w.heap[k]?:=fun k hk=>⟨by rw [hgP]; exact hk,hP k hk⟩
 have hroot':(σ.drop (deepD r D)).rootTV r = some (.own z e n f):=by rw [rootTV_drop]; exact hroot
 have hs':∀ k,r = .slot k 0 → (σ.drop (deepD r D)).get k = .tv (.own z e n f):=fun k hk=>by rw [get_drop]; exact drop_tv (hs k hk)
 generalize hσ':(σ.drop (deepD r D)).setRoot r (.own z e n f') = σ'
 have hlook:∀ q st,q ≠ r → σ'.look (q,st) = σ.look (q,st):=fun q st hq=>by
  rw [← hσ',look_ne hr hroot' hs' hq,look_drop]
 have hlook0:σ'.rootTV r = some (.own z e n f'):=by rw [← hσ']; exact rootTV_setRoot hr hroot'
 have hheaplen:σ'.heap.length = σ.heap.length:=by
  rw [← hσ']
  cases r with
  | slot k j=>rfl
  | cell o off=>exact setCells_length _ _ _
  | obj o=>cases hr
 have U:Up g g' σ σ' w w' (fun p=>decide (p.1 = r)):=by
  refine ⟨hPs,fun k p hk hp=>?_,fun p hp z e n f hl=>?_,fun q _ hlt=>⟨by rw [hgm],by rw [hheaplen]; exact hlt⟩⟩
  ·simp only [decide_eq_false_iff_not] at hp
   obtain ⟨q,st⟩:=p
   exact ⟨hkp _ _ hk (deepD_ne hp),hK k _ hk hp⟩
  ·simp only [decide_eq_false_iff_not] at hp
   obtain ⟨q,st⟩:=p
   rw [hlook q st hp]; exact hl
 have hN:∀ p,deepD r D p = false → Names g g' w w' σ σ' p:=fun p hp=>by
  obtain ⟨q,st⟩:=p
  refine ⟨fun k hk=>⟨hkp _ _ hk hp,fun c' e' hc'=>?_⟩,fun z1 e1 n1 f1 hl=>?_,fun q _ hlt=>⟨by rw [hgm],by rw [hheaplen]; exact hlt⟩⟩
  ·by_cases hq:q = r
   ·subst hq
    rw [deepD_at] at hp
    exact hrow k st hp hk c' e' hc'
   ·exact ⟨c',hc'.eq (hK k _ hk hq),rfl⟩
  ·by_cases hq:q = r
   ·subst hq
    rw [deepD_at] at hp
    simp only [AState.look] at hl ⊢
    rw [hlook0]
    rw [hroot] at hl
    exact hlk st hp z1 e1 n1 f1 hl
   ·exact ⟨f1,by rw [hlook q st hq]; exact hl⟩
 refine ⟨h.defers,h.size,fun k=>?_,fun o t cs' ho=>?_,fun k k' p hk hk'=>?_,fun k hk=>?_,
  fun k p hk=>?_,fun k p hk=>?_,fun k hk=>h.P0 k (by rw [← hgP]; exact hk),fun k hk=>(by rw [hgP]; exact h.P1 k hk),fun k hk h0=>?_,h1.trans h.os,h2.trans h.tape,h3.trans h.output,Nat.le_trans h.mono hsz,fun o ho=>by rw [hgm]; exact h.m0 o ho,by rw [hheaplen]; exact h.h0⟩
 ·by_cases hk:r = .slot k 0
  ·have hg2:σ'.get k = .tv (.own z e n f'):=by
    rw [← hσ']
    subst hk
    simp only [AState.setRoot,get_set,if_true]
   rw [hg2]
   have hk0:=h.env k
   rw [hs k hk] at hk0
   subst hk
   exact hnew _ hk0
  ·have hgk:σ'.get k = (σ.get k).drop (deepD r D):=by
    rw [← hσ']
    cases r with
    | slot k' j' =>
     cases j' with
     | succ j'=>cases hr
     | zero =>
      have hne:k ≠ k':=by rintro rfl; exact hk rfl
      simp only [AState.setRoot,get_set,if_neg hne,get_drop]
    | cell o off=>exact get_drop σ _ k
    | obj o=>cases hr
   rw [hgk]
   refine ((h.env k).drop _).mono ⟨hPs,fun j' k' st hk'=>?_⟩ fun p hp=>?_
   ·have hne:Root.slot k j' ≠ r:=by
     rintro rfl
     cases j' with
     | zero=>exact hk rfl
     | succ j'=>cases hr
    exact ⟨hkp _ _ hk' (deepD_ne hne),hK k' _ hk' hne⟩
   ·obtain ⟨x,hx,he⟩:=(names_drop hp).2
    obtain rfl:x = p:=by simpa using he
    exact hN x hx
 ·-- objects
  have hobj:∀ (i:Nat) u y,(Root.cell o i) ≠ r → TRel g w (.cell o i,[]) u y → TRel g' w' (.cell o i,[]) u y:=fun i u y hne hru =>
   U.tv (fun st=>by simp only [decide_eq_false_iff_not]; exact hne) hru
  have hkeep:∀ {t':TypeId} {cs0:List TV},σ.heap[o]? = some (.cells t' cs0) → ∃ c,w'.heap[g'.m o]? = some (.cells c t' (0,0)) ∧ g'.ow (g'.m o) = some (.obj o,[]) ∧ c.size = cs0.length ∧
    ∀ (i:Nat) y,cs0[i]? = some y → ∃ u,c[i]? = some u ∧ TRel g w (.cell o i,[]) u y:=fun {t' cs0} ho0=>by
   obtain ⟨c',k1,k2,k3,k4⟩:=h.heap o t' cs0 ho0
   have hne:Root.obj o ≠ r:=fun e=>by subst e; cases hr
   rw [hgm]
   exact ⟨c',(hK _ _ k2 hne).trans k1,hkp _ _ k2 (deepD_ne hne),k3,k4⟩
  rw [← hσ'] at ho
  cases r with
  | slot k' j' =>
   obtain ⟨c',k1,k2,k3,k4⟩:=hkeep ho
   refine ⟨c',k1,k2,k3,fun i y hy'=>?_⟩
   obtain ⟨u,hu,hru⟩:=k4 i y hy'
   exact ⟨u,hu,hobj i u y (by simp) hru⟩
  | obj o'=>cases hr
  | cell o' off =>
   by_cases hoo:o = o'
   ·subst hoo
    have ho':(setCells σ.heap o (fun cs=>cs.set off (.own z e n f')))[o]? = some (.cells t cs'):=ho
    obtain ⟨cs0,ho0,rfl⟩:=setCells_some _ ho'
    obtain ⟨c',k1,k2,k3,k4⟩:=hkeep ho0
    have hoff:cs0[off]? = some (.own z e n f):=by
     simp only [AState.rootTV,ho0] at hroot
     exact hroot
    refine ⟨c',k1,k2,by rw [List.length_set]; exact k3,fun q y hy'=>?_⟩
    rw [List.getElem?_set] at hy'
    by_cases hq:off = q
    ·subst hq
     rw [if_pos rfl,if_pos (List.getElem?_eq_some_iff.1 hoff).1] at hy'
     cases hy'
     obtain ⟨u,hu,hru⟩:=k4 off _ hoff
     exact ⟨u,hu,hnew u hru⟩
    ·rw [if_neg hq] at hy'
     obtain ⟨u,hu,hru⟩:=k4 q y hy'
     exact ⟨u,hu,hobj q u y (by simp; exact fun e=>hq e.symm) hru⟩
   ·have ho':(setCells σ.heap o' (fun cs=>cs.set off (.own z e n f')))[o]? = some (.cells t cs'):=ho
    rw [setCells_ne _ _ _ _ hoo] at ho'
    obtain ⟨c',k1,k2,k3,k4⟩:=hkeep ho'
    refine ⟨c',k1,k2,k3,fun q y hy'=>?_⟩
    obtain ⟨u,hu,hru⟩:=k4 q y hy'
    exact ⟨u,hu,hobj q u y (by simp [hoo]) hru⟩
 ·rcases hback k p hk with ⟨e1,e2⟩ | ⟨e1,_⟩
  ·rcases hback k' p hk' with ⟨e3,_⟩ | ⟨e3,_⟩
   ·exact h.inj k k' p e1 e3
   ·rw [e2] at e3; cases e3
  ·exact hinj k k' p hk hk' e1
 ·rw [hgP] at hk
  refine ⟨?_,Nat.lt_of_lt_of_le (h.frozen k hk).2 hsz⟩
  cases hq:g'.ow k with
  | none=>rfl
  | some p =>
   rcases hback k p hq with ⟨e1,_⟩ | ⟨_,_,_,e1⟩
   ·rw [(h.frozen k hk).1] at e1; cases e1
   ·exact absurd hk e1
 ·rcases hback k p hk with ⟨e1,_⟩ | ⟨_,e2,e3,_⟩
  ·obtain ⟨k1,k2⟩:=h.lt k p e1
   exact ⟨Nat.lt_of_lt_of_le k1 hsz,k2⟩
  ·exact ⟨e2,e3⟩
 ·rw [hheaplen]
  rcases hback k p hk with ⟨e1,_⟩ | ⟨e1,_⟩
  ·exact h.ids k p e1
  ·obtain ⟨q,st⟩:=p
   obtain rfl:q = r:=by simp only [deepD,Bool.and_eq_true,decide_eq_true_eq] at e1; exact e1.2
   cases q with
   | slot=>trivial
   | obj=>cases hr
   | cell o off =>
    simp only [AState.rootTV] at hroot
    split at hroot
    ·rename_i hh; exact (List.getElem?_eq_some_iff.1 hh).1
    ·cases hroot
 ·exact (hkept k hk h0).trans (h.kept k hk h0)

/-- The same, where the labels below go. -/
theorem Sat.rootNew (h:Sat X g σ a w) {r:Root} {z:Nat} {e:TypeId} {n:Nat} {f f':Nat → List TV} (hown:σ.ownAt r = some (.own z e n f)) {D:Steps → Bool} (hD:D [] = false) {w':World}
  (hP:∀ k,g.P k → w'.heap[k]? = w.heap[k]?) (hK:∀ k p,g.ow k = some p → p.1 ≠ r → w'.heap[k]? = w.heap[k]?)
  (hnew:∀ v,TRel g w (r,[]) v (.own z e n f) → TRel (g.clr (deepD r D)) w' (r,[]) v (.own z e n f'))
  (hrow:∀ k st,D st = false → g.ow k = some (r,st) → ∀ c e,Row w k e c → ∃ c',Row w' k e c' ∧ c'.size = c.size)
  (hlk:∀ st,D st = false → ∀ z1 e1 n1 f1,st.foldr (fun ij acc=>acc.bind (elemTV ij)) (some (.own z e n f)) = some (.own z1 e1 n1 f1) → ∃ f2,st.foldr (fun ij acc=>acc.bind (elemTV ij)) (some (.own z e n f')) = some (.own z1 e1 n1 f2))
  (hsz:w.heap.size ≤ w'.heap.size) (hkept:∀ k,k < X.w0.heap.size → X.g0.ow k = none → w'.heap[k]? = w.heap[k]?) (h1:w'.os = w.os) (h2:w'.tape = w.tape) (h3:w'.output = w.output) :
  Sat X (g.clr (deepD r D)) ((σ.drop (deepD r D)).setRoot r (.own z e n f')) a w' :=
 h.rootNewG hown hD rfl rfl (fun _ _ hk hp=>clr_some.2 ⟨hk,hp⟩) (fun _ _ hk=>.inl (clr_some.1 hk)) (fun _ _ _ hk _ hp=>by rw [(clr_some.1 hk).2] at hp; cases hp) hP hK hnew hrow hlk hsz hkept h1 h2 h3

/-- A relation hangs on what is labelled below its place. -/
theorem TRel.under {g g':Gh} {w w':World} {p p':Path} {v:Value} {x:TV} (h:TRel g w p v x) (hP:∀ b,g.P b → g'.P b ∧ w'.heap[b]? = w.heap[b]?)
  (hr:∀ b st,g.ow b = some (p.1,st ++ p.2) → g'.ow b = some (p'.1,st ++ p'.2) ∧ w'.heap[b]? = w.heap[b]?):TRel g' w' p' v x:=by
 induction h generalizing p' with
 | fr h=>exact .fr (h.mono hP)
 | hole=>exact .hole
 | nil z e f=>exact .nil z e f
 | @own p b cap z e n f c cs ho hb hc hl hm hz hcs _ ih =>
  obtain ⟨h1,h2⟩:=hr b [] ho
  exact .own b cap z e n f c cs h1 (hb.eq h2) hc hl hm hz hcs fun i j y hi hy=>ih i j y hi hy (p':=(p'.1,(i,j) :: p'.2)) fun b st hb=>by
   have:=hr b (st ++ [(i,j)]) (by simpa using hb)
   simpa using this
 | @mp p b kk vk l es clock ho hb hl =>
  obtain ⟨h1,h2⟩:=hr b [] ho
  exact .mp b kk vk l es clock h1 (h2.trans hb) hl

/-- The outermost step is one to cells j and on of element i. -/
def lastIn (i j m:Nat) (st:Steps):Bool:=match st.getLast? with
 | some (q,t)=>Nat.beq q i && (Nat.ble j t && Nat.blt t (j + m))
 | none=>false

theorem lastIn_snoc {i j m q t:Nat} {st:Steps}:lastIn i j m (st ++ [(q,t)]) = (Nat.beq q i && (Nat.ble j t && Nat.blt t (j + m))):=by simp [lastIn]
theorem lastIn_false {i j m q t:Nat} {st:Steps} (h:¬ (q = i ∧ j ≤ t ∧ t < j + m)):lastIn i j m (st ++ [(q,t)]) = false:=by
 rw [lastIn_snoc]
 cases h1:Nat.beq q i && (Nat.ble j t && Nat.blt t (j + m)) with
 | false=>rfl
 | true =>
  simp only [Bool.and_eq_true] at h1
  exact absurd ⟨Nat.eq_of_beq_eq_true h1.1,Nat.le_of_ble_eq_true h1.2.1,Nat.le_of_ble_eq_true h1.2.2⟩ h
theorem lastIn_not {i j m q t:Nat} {st:Steps} (h:lastIn i j m (st ++ [(q,t)]) = false):¬ (q = i ∧ j ≤ t ∧ t < j + m):=by
 rintro ⟨rfl,h1,h2⟩
 rw [lastIn_snoc,Nat.ble_eq_true_of_le h1,show Nat.blt t (j + m) = true from Nat.ble_eq_true_of_le h2] at h
 simp at h

theorem st_cases (st:Steps):st = [] ∨ ∃ st0 q t,st = st0 ++ [(q,t)]:=by
 rcases List.eq_nil_or_concat st with h | ⟨a,b,h⟩
 ·exact .inl h
 ·exact .inr ⟨a,b.1,b.2,by rw [h]; simp⟩

/-- Cells of one element are written, whatever other elements' cells own. -/
theorem Sat.storeEN (h:Sat X g σ a w) {r:Root} {z:Nat} {e:TypeId} {n:Nat} {f:Nat → List TV} (hown:σ.ownAt r = some (.own z e n f))
  {i j:Nat} (hi:i < n) {ys:List TV} {vs:List Value} (hl:vs.length = ys.length) (hfit:j + ys.length ≤ z)
  (hy:∀ (q:Nat) y,ys[q]? = some y → ∃ u,vs[q]? = some u ∧ u.oneCell' = true ∧ (y = .hole ∨ FRel g.P w u y)) {b:Nat} (hb:g.ow b = some (r,[])) {f':Nat → List TV} (hf':∀ q,q < n → setElem f i (putAt (f i) j ys) q = f' q) :
  ∃ w',(storeCells ⟨b,i * z + j,none⟩ vs).run X.P w = .ok () w' ∧ Sat X (g.clr (deepD r (lastIn i j ys.length))) ((σ.drop (deepD r (lastIn i j ys.length))).setRoot r (.own z e n f')) a w' ∧ Goes w w' b ∧ ∀ (q:Nat) u,vs[q]? = some u → w'.cell? ⟨b,i * z + j + q,none⟩ = some u:=by
 obtain ⟨hr,hroot,hs⟩:=ownAt_root hown
 obtain ⟨v0,hv0⟩:=h.root hroot
 rcases own_inv hv0 with ⟨_,h0⟩ | ⟨b',cap,c,cs,h1,hv,h3,h4,h5,h6,h7,h8,h9⟩
 ·omega
 obtain rfl:=h.inj b b' _ hb h1
 have hone:∀ v ∈ vs,v.oneCell' = true:=fun v hv=>by
  obtain ⟨q,hq⟩:=List.getElem?_of_mem hv
  have hq':q < ys.length:=by rw [← hl]; exact (List.getElem?_eq_some_iff.1 hq).1
  obtain ⟨u,hu,hru,_⟩:=hy q ys[q] (by simp [hq'])
  rw [hq] at hu; cases hu
  exact hru
 have hcell:∀ q,q < n → q * z + z ≤ c.size:=fun q hq=>by
  rw [h4]
  have:(q + 1) * z ≤ cap * z:=Nat.mul_le_mul_right _ (by omega)
  rw [Nat.add_mul,Nat.one_mul] at this
  exact this
 obtain ⟨fr,hb1,hb2⟩:=h3
 have hci:=hcell i hi
 obtain ⟨w',hrun,hw',hg⟩:=run_store_row (P:=X.P) vs (i * z + j) 0 c w hb1 hb2.no (by omega) hone
 rw [Nat.add_zero] at hw'
 have hRow':Row w' b e (writeA c (i * z + j) vs):=⟨fr,hw',by rw [writeA_size]; exact hb2⟩
 have hnP:¬ g.P b:=fun hp=>by rw [(h.frozen _ hp).1] at hb; cases hb
 have hP:∀ k,g.P k → w'.heap[k]? = w.heap[k]?:=fun k hk=>hg.heap k (h.frozen k hk).2 (fun e=>hnP (e ▸ hk))
 have hKs:∀ k p,g.ow k = some p → p ≠ (r,[]) → w'.heap[k]? = w.heap[k]?:=fun k p hk hp =>
  hg.heap k (h.lt k p hk).1 (fun e=>by subst e; rw [hb] at hk; cases hk; exact hp rfl)
 have hlen:(f i).length = z:=h7 i hi
 refine ⟨w',hrun,h.rootNew hown rfl hP (fun k p hk hp=>hKs k p hk fun e=>hp (by rw [e])) ?_ ?_ ?_ hg.size (fun k hk h0=>?_) hg.os hg.tape hg.output,hg,fun q u hu=>?_⟩
 ·intro v hv
  rcases own_inv hv with ⟨_,h0⟩ | ⟨b2,cap,c2,cs,h1,rfl,h3',h4,h5,h6,h7,h8,h9⟩
  ·omega
  obtain rfl:=h.inj b b2 _ hb h1
  obtain ⟨fr2,q6,_⟩:=h3'
  rw [hb1] at q6
  injection q6 with q6
  injection q6 with q7 _ _
  subst q7
  -- other cells stay
  have stay:∀ (q t:Nat) (y:TV),¬ (q = i ∧ j ≤ t ∧ t < j + ys.length) → q < n → (f q)[t]? = some y → TRel (g.clr (deepD r (lastIn i j ys.length))) w' (r,[(q,t)]) (cs q t) y:=fun q t y hn hq hyq =>
   (h9 q t y hq hyq).under (fun k hk=>⟨hk,hP k hk⟩) fun k st hk=>⟨clr_some.2 ⟨hk,by rw [deepD_at]; exact lastIn_false hn⟩,hKs k _ hk (by simp)⟩
  refine TRel.ext (f:=setElem f i (putAt (f i) j ys)) ?_ rfl hf'
  refine .own b cap z e n _ (writeA c (i * z + j) vs) (fun q t=>if q = i ∧ j ≤ t ∧ t < j + ys.length then (vs[t - j]?).getD undef else cs q t) (clr_some.2 ⟨hb,by rw [deepD_at]; rfl⟩) hRow' (by rw [writeA_size]; exact h4) h5 h6
   (fun q hq=>?_) (fun q t y hq hyq=>?_) (fun q t y hq hyq=>?_)
  ·by_cases hqi:q = i
   ·subst hqi; rw [setElem_eq,putAt_length]; exact hlen
   ·rw [setElem_ne _ _ hqi]; exact h7 q hq
  ·by_cases hqi:q = i
   ·subst hqi
    rw [setElem_eq] at hyq
    have ht:t < z:=by rw [← hlen,← putAt_length ys (f q) j]; exact (List.getElem?_eq_some_iff.1 hyq).1
    rcases Nat.lt_or_ge t j with hlt | hge
    ·rw [putAt_lt _ _ _ _ hlt] at hyq
     rw [writeA_lt _ _ _ _ (by omega),if_neg (by omega)]
     exact h8 q t y hq hyq
    ·rcases Nat.lt_or_ge t (j + ys.length) with hlt | hge'
     ·obtain ⟨k,rfl⟩:∃ k,t = j + k:=⟨t - j,by omega⟩
      rw [if_pos ⟨rfl,by omega,hlt⟩,show j + k - j = k by omega]
      have hk:k < vs.length:=by omega
      rw [show q * z + (j + k) = q * z + j + k by omega,writeA_in _ _ _ _ hk (by omega)]
      simp [List.getElem?_eq_getElem hk]
     ·rw [putAt_ge _ _ _ _ hge'] at hyq
      rw [writeA_ge _ _ _ _ (by omega),if_neg (by omega)]
      exact h8 q t y hq hyq
   ·rw [setElem_ne _ _ hqi] at hyq
    have ht:t < z:=by rw [← h7 q hq]; exact (List.getElem?_eq_some_iff.1 hyq).1
    rw [if_neg (by omega)]
    have:(writeA c (i * z + j) vs)[q * z + t]? = c[q * z + t]?:=by
     rcases Nat.lt_or_ge q i with hlt | hge
     ·apply writeA_lt
      have:(q + 1) * z ≤ i * z:=Nat.mul_le_mul_right _ (by omega)
      rw [Nat.add_mul,Nat.one_mul] at this
      omega
     ·apply writeA_ge
      have:(i + 1) * z ≤ q * z:=Nat.mul_le_mul_right _ (by omega)
      rw [Nat.add_mul,Nat.one_mul] at this
      omega
    rw [this]
    exact h8 q t y hq hyq
  ·by_cases hin:q = i ∧ j ≤ t ∧ t < j + ys.length
   ·rw [if_pos hin]
    obtain ⟨rfl,hge,hlt⟩:=hin
    rw [setElem_eq] at hyq
    obtain ⟨k,rfl⟩:∃ k,t = j + k:=⟨t - j,by omega⟩
    rw [show j + k - j = k by omega]
    rw [putAt_in _ _ _ _ (by omega) (by omega)] at hyq
    obtain ⟨u,hu,_,hru⟩:=hy k y hyq
    rw [hu]
    rcases hru with rfl | hru
    ·exact .hole
    ·exact .fr (hru.mono fun k hk=>⟨hk,hP k hk⟩)
   ·rw [if_neg hin]
    refine stay q t y hin hq ?_
    by_cases hqi:q = i
    ·subst hqi
     rw [setElem_eq] at hyq
     rcases Nat.lt_or_ge t j with hlt | hge
     ·rw [putAt_lt _ _ _ _ hlt] at hyq; exact hyq
     ·rw [putAt_ge _ _ _ _ (by omega)] at hyq; exact hyq
    ·rw [setElem_ne _ _ hqi] at hyq; exact hyq
 ·intro k st hst hk c' e' hc'
  by_cases hnil:st = []
  ·subst hnil
   have:k = b:=h.inj k b _ hk hb
   subst this
   obtain ⟨fr',hc1,hc2⟩:=hc'
   rw [hb1] at hc1
   injection hc1 with hc1
   injection hc1 with e1 e2 e3
   subst e1 e2 e3
   exact ⟨_,hRow',writeA_size _ _ _⟩
  ·exact ⟨c',hc'.eq (hKs k _ hk fun e=>hnil (by injection e)),rfl⟩
 ·intro st hst z1 e1 n1 f1 hl1
  rcases st_cases st with rfl | ⟨st0,q,t,rfl⟩
  ·cases hl1; exact ⟨_,rfl⟩
  ·rw [List.foldr_append] at hl1 ⊢
   have hn:=lastIn_not hst
   have e1:elemTV (q,t) (.own z e n f') = elemTV (q,t) (.own z e n f):=by
    simp only [elemTV]
    by_cases hqn:q < n
    case neg=>simp only [hqn,decide_false]
    rw [← hf' q hqn]
    by_cases hqi:q = i
    ·subst hqi
     rw [setElem_eq]
     rcases Nat.lt_or_ge t j with hlt | hge
     ·rw [putAt_lt _ _ _ _ hlt]
     ·rw [putAt_ge _ _ _ _ (by omega)]
    ·rw [setElem_ne _ _ hqi]
   simp only [List.foldr_cons,List.foldr_nil,Option.bind_some,e1] at hl1 ⊢
   exact ⟨f1,hl1⟩
 ·have hne:k ≠ b:=by
   rintro rfl
   rcases (h.lt _ _ hb).2 with q | q
   ·omega
   ·exact q h0
  exact hg.heap k (by have:=h.mono; omega) hne
 ·rw [hRow'.cell]
  have hq:q < vs.length:=(List.getElem?_eq_some_iff.1 hu).1
  rw [writeA_in _ _ _ _ hq (by omega)]
  exact hu

/-- One cell of one element is told anew, as who owns what has changed. -/
theorem Sat.cellN (h:Sat X g σ a w) {r:Root} {z:Nat} {e:TypeId} {n:Nat} {f:Nat → List TV} (hown:σ.ownAt r = some (.own z e n f)) {i j:Nat} (hi:i < n) (hj:j < z) {x:TV} {f':Nat → List TV} (hf':∀ q,q < n → setElem f i ((f i).set j x) q = f' q)
  {g':Gh} (hgm:g'.m = g.m) (hgP:g'.P = g.P) (hkp:∀ k p,g.ow k = some p → deepD r (lastIn i j 1) p = false → g'.ow k = some p)
  (hback:∀ k p,g'.ow k = some p → (g.ow k = some p ∧ deepD r (lastIn i j 1) p = false) ∨ (deepD r (lastIn i j 1) p = true ∧ k < w.heap.size ∧ (X.w0.heap.size ≤ k ∨ X.g0.ow k ≠ none) ∧ ¬ g.P k)) (hinj:∀ k k' p,g'.ow k = some p → g'.ow k' = some p → deepD r (lastIn i j 1) p = true → k = k')
  (hx:∀ b u,g.ow b = some (r,[]) → w.cell? ⟨b,i * z + j,none⟩ = some u → TRel g' w (r,[(i,j)]) u x) :
  Sat X g' ((σ.drop (deepD r (lastIn i j 1))).setRoot r (.own z e n f')) a w:=by
 have hlast:∀ {q t:Nat},lastIn i j 1 ([] ++ [(q,t)]) = false → ¬ (q = i ∧ t = j):=fun {q t} hq ⟨e1,e2⟩=>lastIn_not hq ⟨e1,by omega,by omega⟩
 refine h.rootNewG hown rfl hgm hgP hkp hback hinj (fun _ _=>rfl) (fun _ _ _ _=>rfl) ?_ (fun _ _ _ _ c e hc=>⟨c,hc,rfl⟩) ?_ (Nat.le_refl _) (fun _ _ _=>rfl) rfl rfl rfl
 ·intro v hv
  refine TRel.ext (f:=setElem f i ((f i).set j x)) ?_ rfl hf'
  rcases own_inv hv with ⟨_,h0⟩ | ⟨b,cap,c,cs,h1,rfl,h3,h4,h5,h6,h7,h8,h9⟩
  ·omega
  have hlen:=h7 i hi
  refine .own b cap z e n _ c cs (hkp _ _ h1 (by rw [deepD_at]; rfl)) h3 h4 h5 h6 (fun q hq=>?_) (fun q t y hq hyq=>?_) (fun q t y hq hyq=>?_)
  ·by_cases hqi:q = i
   ·subst hqi; rw [setElem_eq,List.length_set]; exact hlen
   ·rw [setElem_ne _ _ hqi]; exact h7 q hq
  ·by_cases hqi:q = i
   ·subst hqi
    rw [setElem_eq] at hyq
    have ht:t < (f q).length:=by rw [← List.length_set (i:=j) (a:=x)]; exact (List.getElem?_eq_some_iff.1 hyq).1
    exact h8 q t _ hq (List.getElem?_eq_getElem ht)
   ·rw [setElem_ne _ _ hqi] at hyq; exact h8 q t y hq hyq
  ·by_cases hin:q = i ∧ t = j
   ·obtain ⟨rfl,rfl⟩:=hin
    rw [setElem_eq,List.getElem?_set_self (by omega)] at hyq
    cases hyq
    refine hx b _ h1 ?_
    rw [h3.cell]
    exact h8 q t _ hq (List.getElem?_eq_getElem (by omega))
   ·have hyq':(f q)[t]? = some y:=by
     by_cases hqi:q = i
     ·subst hqi
      rw [setElem_eq,List.getElem?_set_ne (fun e=>hin ⟨rfl,e.symm⟩)] at hyq
      exact hyq
     ·rw [setElem_ne _ _ hqi] at hyq; exact hyq
    refine (h9 q t y hq hyq').under (fun k hk=>⟨by rw [hgP]; exact hk,rfl⟩) fun k st hk=>⟨hkp _ _ hk ?_,rfl⟩
    rw [deepD_at]
    exact lastIn_false fun ⟨e1,e2,e3⟩=>hin ⟨e1,by omega⟩
 ·intro st hst z1 e1 n1 f1 hl1
  rcases st_cases st with rfl | ⟨st0,q,t,rfl⟩
  ·cases hl1; exact ⟨_,rfl⟩
  ·rw [List.foldr_append] at hl1 ⊢
   have hn:=lastIn_not hst
   have e1:elemTV (q,t) (.own z e n f') = elemTV (q,t) (.own z e n f):=by
    simp only [elemTV]
    by_cases hqn:q < n
    case neg=>simp only [hqn,decide_false]
    rw [← hf' q hqn]
    by_cases hqi:q = i
    ·subst hqi
     rw [setElem_eq,List.getElem?_set_ne (fun e=>hn ⟨rfl,by omega,by omega⟩)]
    ·rw [setElem_ne _ _ hqi]
   simp only [List.foldr_cons,List.foldr_nil,Option.bind_some,e1] at hl1 ⊢
   exact ⟨f1,hl1⟩

end
end Go.Sx
