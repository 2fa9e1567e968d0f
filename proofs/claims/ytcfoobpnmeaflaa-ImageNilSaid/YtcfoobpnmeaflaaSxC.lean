
/- A region that asks the tape: every order comes to the same; no condition. -/
import Derived.Test.YtcfoobpnmeaflaaSxB
import Derived.OrdersHeld
import Derived.LoopN
namespace Go.Sx
open Go

/-- It ends, so. -/
def NQ (K:AState → Prop):Exit → AState → Prop:=fun e σ=>e = .normal ∧ K σ

/-- What lay still lies still. -/
def StillW (g:Gh) (w:World):World → Prop:=fun w'=>∀ b,g.P b → w'.heap[b]? = w.heap[b]?

def Begun (g:Gh) (w:World):Prop:=∀ b,g.P b → g.ow b = none ∧ b < w.heap.size

/-- From here on, in whatever order. -/
def AAny (F:Cfg) (ops:Array Oper) (K:AState → Prop) (fuel:Nat) (listed:Array Bool) (σ:AState):Prop :=
 ∀ w0 g0 g a w,Begun g0 w0 → Sat (F.ctx w0 g0) g σ a w → wpAnyH F.P .any ops (QQ (F.ctx w0 g0) (NQ K)) (StillW g0 w0) fuel listed a w

section
variable {F:Cfg} {K:AState → Prop} {σ:AState} {ops:Array Oper}

theorem Sat.still {w0:World} {g0 g:Gh} {a:Act} {w:World} (hb:Begun g0 w0) (h:Sat (F.ctx w0 g0) g σ a w):StillW g0 w0 w :=
 fun b hP=>h.kept b (hb b hP).2 (hb b hP).1

theorem Sat.begun {X:Ctx} {g:Gh} {a:Act} {w:World} (h:Sat X g σ a w):Begun g w:=h.frozen

theorem Sat.rebase {w0:World} {g0 g:Gh} {a:Act} {w:World} (h:Sat (F.ctx w0 g0) g σ a w):Sat (F.ctx w g) g σ a w :=
 ⟨h.defers,h.size,h.env,h.heap,h.inj,h.frozen,fun b p hb=>⟨(h.lt b p hb).1,.inr (by show g.ow b ≠ none; rw [hb]; simp)⟩,h.ids,fun b hb=>.inl hb,fun b hb=>hb,fun _ _ _=>rfl,rfl,rfl,rfl,Nat.le_refl _,fun _ _=>rfl,h.h0⟩

theorem Sat.trans {w0:World} {g0 g g1:Gh} {a a1:Act} {w w1:World} {σ1:AState} (h:Sat (F.ctx w0 g0) g σ a w) (h1:Sat (F.ctx w g) g1 σ1 a1 w1):Sat (F.ctx w0 g0) g1 σ1 a1 w1:=by
 refine ⟨h1.defers,h1.size,h1.env,h1.heap,h1.inj,h1.frozen,fun b p hb=>⟨(h1.lt b p hb).1,?_⟩,h1.ids,fun b hb=>?_,fun b hb=>h1.P1 b (h.P1 b hb),fun b hb h0=>?_,h1.os.trans h.os,h1.tape.trans h.tape,h1.output.trans h.output,Nat.le_trans h.mono h1.mono,fun o ho=>(h1.m0 o ho).trans (h.m0 o ho),h1.h0⟩
 ·rcases (h1.lt b p hb).2 with h2 | h2
  ·exact .inl (Nat.le_trans h.mono h2)
  ·cases hg:g.ow b with
   | none=>exact absurd hg h2
   | some q=>exact (h.lt b q hg).2
 ·rcases h1.P0 b hb with h2 | h2 | h2
  ·exact h.P0 b h2
  ·exact .inr (.inl (Nat.le_trans h.mono h2))
  ·cases hg:g.ow b with
   | none=>exact absurd hg h2
   | some q=>exact .inr (h.lt b q hg).2
 ·have hg:g.ow b = none:=by
   cases hg:g.ow b with
   | none=>rfl
   | some q =>
    rcases (h.lt b q hg).2 with h2 | h2
    ·exact absurd hb (Nat.not_lt.2 h2)
    ·exact absurd h0 h2
  exact (h1.kept b (Nat.lt_of_lt_of_le hb h.mono) hg).trans (h.kept b hb h0)

theorem wpAnyH_mono {P:Program} {md:Region.Mode} {Q1 Q2:Exit → Act → World → Prop} {S1 S2:World → Prop} (hq:∀ e a w,Q1 e a w → Q2 e a w) (hs:∀ w,S1 w → S2 w) :
  ∀ (fuel:Nat) (listed:Array Bool) (a:Act) (w:World),wpAnyH P md ops Q1 S1 fuel listed a w → wpAnyH P md ops Q2 S2 fuel listed a w
 | 0,_,_,_,h=>⟨h.1,hq _ _ _ h.2⟩
 | fuel + 1,_,_,_,h=>⟨fun h0=>hq _ _ _ (h.1 h0),fun i hi=>by
   have:=h.2 i hi
   unfold wpOp at this ⊢
   split
   ·rename_i ho; rw [ho] at this; exact ⟨hs _ this.1,wpAnyH_mono hq hs fuel _ _ _ this.2⟩
   ·rename_i o ho
    rw [ho] at this
    simp only at this
    split
    ·rename_i hw
     rw [if_pos hw] at this
     rcases this with h | ⟨h1,a',w',h2⟩
     ·exact .inl (upon_mono2 (fun a w hh=>⟨hs _ hh.1,wpAnyH_mono hq hs fuel _ _ _ hh.2⟩) (fun e a w _=>hq e a w) h)
     ·exact .inr ⟨h1,a',w',hq _ _ _ h2⟩
    ·rename_i hw
     rw [if_neg hw] at this
     exact ⟨hs _ this.1,wpAnyH_mono hq hs fuel _ _ _ this.2⟩⟩

/-- It is enough to look at it from this moment on. -/
theorem AAny.now {fuel:Nat} {listed:Array Bool} (h:∀ g a w,Sat (F.ctx w g) g σ a w → wpAnyH F.P .any ops (QQ (F.ctx w g) (NQ K)) (StillW g w) fuel listed a w):AAny F ops K fuel listed σ:=fun w0 g0 g a w hb hs=>by
 refine wpAnyH_mono ?_ ?_ _ _ _ _ (h g a w hs.rebase)
 ·rintro e a' w' ⟨σ',g',hq,hs'⟩
  exact ⟨σ',g',hq,hs.trans hs'⟩
 ·intro w' hw b hP
  exact (hw b (hs.P1 b hP)).trans (hs.still hb b hP)

/-- An operation whose value hangs on nothing that may change is taken first. -/
def takes (T:Tab) (n:Nat) (ops:Array Oper) (σ:AState) (i:Nat):Option (List Prop × AState) :=
 match ops[i]? with
 | none=>none
 | some o=>match guardV ops σ o,o.dst with
  | some true,some d=>(match Nat.blt d n with
   | true=>(match evalPure T σ o.op with
    | some (cs,sv)=>(match sv.names (under d),(match o.op with | .load _ x=>(match σ.ev x with | .rp _=>true | _=>false) | _=>true) with | false,true=>some (cs,σ.put d sv) | _,_=>none)
    | none=>none)
   | false=>none)
  | some false,some d=>(match Nat.blt d n with | true=>some ([],σ.put d (.tup [])) | false=>none)
  | _,_=>none

theorem AAny.take {fuel:Nat} {listed:Array Bool} {i:Nat} {cs:List Prop} {σ':AState} (he:takes F.T F.n ops σ i = some (cs,σ')) (hc:∀ c ∈ cs,c)
  (hs:Region.noSelect ops = true) (hf:Region.free .any ops listed i = true) (hr:(Region.ready .any ops listed).contains i = true)
  (h:AAny F ops K fuel (listed.setIfInBounds i true) σ'):AAny F ops K (fuel + 1) listed σ:=by
 refine AAny.now fun g a w hsat=>?_
 unfold takes at he
 split at he
 ·cases he
 ·rename_i o ho
  have hQ:∀ (v:Value) c a' w',QQ (F.ctx w g) (NQ K) (.panic c) (a'.put o.dst v) w' → QQ (F.ctx w g) (NQ K) (.panic c) a' w':=by
   rintro v c a' w' ⟨σ1,g1,⟨h1,_⟩,_⟩
   cases h1
  split at he
  ·rename_i d hg hdst
   split at he
   ·rename_i hlt
    have hd:d < F.n:=Nat.le_of_ble_eq_true hlt
    split at he
    ·rename_i cs0 sv hp
     split at he
     ·rename_i hnm hld
      cases he
      have key:∃ v,(∀ w',StillW g w w' → (execOp a.eval o).run F.P w' = .ok (.value v) w') ∧ (∃ k,SR g w σ k v sv) ∧ sv.pure = true:=by
       by_cases hl:∃ t x,o.op = .load t x
       ·obtain ⟨t,x,hop⟩:=hl
        rw [hop] at hp hld
        simp only at hld
        split at hld
        ·rename_i cells hx
         obtain ⟨v,h1,h2⟩:=load_still (X:=F.ctx w g) F.ok hsat hop hp hx
         exact ⟨v,fun w' hw=>h1 w' hw,h2⟩
        ·cases hld
       ·obtain ⟨v,h1,h2⟩:=evalPure_still (X:=F.ctx w g) F.ok hsat hp hc hl
        exact ⟨v,fun w' _=>h1 w',h2⟩
      obtain ⟨v,hrun,⟨k,hrel⟩,hpu⟩:=key
      refine wpAnyH_take ho hs hf hr (hQ v) (.inl ⟨guardV_sound hsat hg,hrun⟩) (hsat.still hsat.begun) ?_
      rw [hdst]
      exact h w g _ _ w hsat.begun (hsat.put hd hpu hnm hrel)
     ·cases he
    ·cases he
   ·cases he
  ·rename_i d hg hdst
   split at he
   ·rename_i hlt
    cases he
    refine wpAnyH_take ho hs hf hr (hQ undef) (.inr ⟨guardV_sound hsat hg,rfl⟩) (hsat.still hsat.begun) ?_
    rw [hdst]
    exact h w g _ _ w hsat.begun (hsat.put (Nat.le_of_ble_eq_true hlt) (v:=undef) (sv:=.tup []) rfl rfl (k:=0) ⟨#[],rfl,rfl,fun j sv h=>by simp at h⟩)
   ·cases he
  ·cases he

/-- Whichever comes up. -/
theorem AAny.all {fuel:Nat} {listed:Array Bool} (rs:List Nat) (hr:Region.ready .any ops listed = rs) (hne:rs ≠ [])
  (h:∀ i ∈ rs,∃ σ',AOne F ops i σ σ' ∧ AAny F ops K fuel (listed.setIfInBounds i true) σ'):AAny F ops K (fuel + 1) listed σ:=fun w0 g0 g a w hb hs=>by
 refine wpAnyH_all hr hne fun i hi=>?_
 obtain ⟨σ',h1,h2⟩:=h i hi
 exact h1 w0 g0 g a w hs _ _ fun g' a' w' hs'=>⟨hs'.still hb,h2 w0 g0 g' a' w' hb hs'⟩

theorem AAny.serial {fuel:Nat} {listed:Array Bool} {i:Nat} {σ':AState} (hr:Region.ready .any ops listed = [i]) (h1:AOne F ops i σ σ') (h:AAny F ops K fuel (listed.setIfInBounds i true) σ'):AAny F ops K (fuel + 1) listed σ :=
 AAny.all [i] hr (by simp) fun j hj=>by rw [List.mem_singleton.1 hj]; exact ⟨σ',h1,h⟩

theorem AAny.done {fuel:Nat} {listed:Array Bool} (hr:Region.ready .any ops listed = []) (h:K σ):AAny F ops K fuel listed σ:=fun _ _ g _ _ _ hs =>
 wpAnyH_done hr ⟨σ,g,⟨rfl,h⟩,hs⟩ fuel

theorem AAny.split {fuel:Nat} {listed:Array Bool} (s:Bool → AState) (b:Bool) (h1:b = true → AAny F ops K fuel listed (s true)) (h2:b = false → AAny F ops K fuel listed (s false)):AAny F ops K fuel listed (s b):=by
 cases b with
 | true=>exact h1 rfl
 | false=>exact h2 rfl

theorem AAny.keep {fuel:Nat} {listed:Array Bool} (ks:List Nat) (n:Nat) (hn:F.h0 ≤ n) (h:AAny F ops K fuel listed (σ.keep ks n)):AAny F ops K fuel listed σ:=fun w0 g0 _ a w hb hs =>
 h w0 g0 _ a w hb (hs.keep ks n hn hs.h0)

theorem AAny.freeze {fuel:Nat} {listed:Array Bool} {s z:Nat} {e:TypeId} {n:Nat} {f:Nat → List TV} (hx:σ.get s = .tv (.own z e n f)) (hp:PlainTo n f) (h:AAny F ops K fuel listed (σ.fix s (.fz z n f))):AAny F ops K fuel listed σ:=fun w0 g0 _ a w hb hs=>by
 obtain ⟨g',h'⟩:=hs.freeze hx hp
 exact h w0 g0 g' a w hb h'

theorem AAny.ext {fuel:Nat} {listed:Array Bool} {s z:Nat} {e:TypeId} {n n':Nat} {f f':Nat → List TV} (hx:σ.get s = .tv (.own z e n f)) (hn:n = n') (hf:∀ i,i < n → f i = f' i) (h:AAny F ops K fuel listed (σ.set s (.tv (.own z e n' f')))):AAny F ops K fuel listed σ:=fun w0 g0 _ a w hb hs =>
 h w0 g0 _ a w hb (hs.ext hx hn hf)

theorem AAny.mono {fuel:Nat} {listed:Array Bool} {σ':AState} (h:AAny F ops K fuel listed σ') (e:σ' = σ):AAny F ops K fuel listed σ:=e ▸ h

/-- So many taken one after the other, by evaluation. -/
def takesN (T:Tab) (n:Nat) (ops:Array Oper):List Nat → Array Bool → AState → Option (List Prop × Array Bool × AState)
 | [],ls,σ=>some ([],ls,σ)
 | i :: r,ls,σ=>match Region.free .any ops ls i && (Region.ready .any ops ls).contains i,takes T n ops σ i with
  | true,some (cs,σ1)=>(match takesN T n ops r (ls.setIfInBounds i true) σ1 with
   | some (cs',ls',σ')=>some (cs ++ cs',ls',σ')
   | none=>none)
  | _,_=>none

theorem AAny.takesN (hs:Region.noSelect ops = true):∀ {l:List Nat} {ls ls':Array Bool} {fuel:Nat} {cs:List Prop} {σ σ':AState},takesN F.T F.n ops l ls σ = some (cs,ls',σ') → (∀ c ∈ cs,c) → AAny F ops K fuel ls' σ' → AAny F ops K (l.length + fuel) ls σ
 | [],ls,ls',fuel,cs,σ,σ',he,_,h=>by cases he; rw [List.length_nil,Nat.zero_add]; exact h
 | i :: r,ls,ls',fuel,cs,σ,σ',he,hc,h=>by
  simp only [Go.Sx.takesN] at he
  split at he
  ·rename_i cs1 σ1 hb h1
   rw [Bool.and_eq_true] at hb
   split at he
   ·rename_i cs2 ls2 σ2 h2
    cases he
    rw [List.length_cons,Nat.add_right_comm]
    exact AAny.take h1 (fun c hc'=>hc c (List.mem_append_left _ hc')) hs hb.1 hb.2 (AAny.takesN hs h2 (fun c hc'=>hc c (List.mem_append_right _ hc')) h)
   ·cases he
  ·cases he

theorem AAny.go (hs:Region.noSelect ops = true) (l:List Nat) {ls:Array Bool} {fuel fuel':Nat} (hfu:fuel = l.length + fuel') (cs:List Prop) (ls':Array Bool) (ks:List Nat) (nh:Nat) (σ':AState) (he:(Go.Sx.takesN F.T F.n ops l ls σ).map (fun r=>(r.1,r.2.1,r.2.2.keep ks nh)) = some (cs,ls',σ')) (hn:F.h0 ≤ nh) (hc:AllP cs) (h:AAny F ops K fuel' ls' σ'):AAny F ops K fuel ls σ:=by
 obtain ⟨⟨cs',ls1,σ1⟩,h1,h2⟩:=Option.map_eq_some_iff.1 he
 cases h2
 subst hfu
 exact AAny.takesN hs h1 hc.mem (AAny.keep ks nh hn h)

/-- One that may be the only one to come up. -/
theorem AAny.step {i:Nat} {ls:Array Bool} {fuel fuel':Nat} (hfu:fuel = fuel' + 1) (hr:Region.ready .any ops ls = [i]) (cs:List Prop) (ls':Array Bool) (hls:ls.setIfInBounds i true = ls') (ks:List Nat) (nh:Nat) (σ':AState) (he:(stepOp F.T F.n ops σ i).map (fun r=>(r.1,r.2.keep ks nh)) = some (cs,σ')) (hn:F.h0 ≤ nh) (hc:AllP cs) (h:AAny F ops K fuel' ls' σ'):AAny F ops K fuel ls σ:=by
 obtain ⟨⟨cs',σ1⟩,h1,h2⟩:=Option.map_eq_some_iff.1 he
 cases h2
 subst hfu hls
 exact AAny.serial hr (AOne.step h1 hc.mem) (AAny.keep ks nh hn h)

theorem AWp.draw {id:Nat} {Q:Exit → AState → Prop} (hm:F.P.follows .mixedOrders = true) (J:AState → Prop) {n:Nat} (hn:ops.size = n) {ls:Array Bool} (hls:Array.replicate n false = ls) (h:AAny F ops J n ls σ) (hJ:∀ σ',J σ' → Q .normal σ'):AWp F (.region id ops true) Q σ:=fun w0 g0 g a w hs=>by
 subst hn hls
 have hs':Sat (F.ctx w g) g σ a { w with drawn:=w.drawn + 1 }:=hs.rebase.world (SameW.drew w)
 refine wp_mono (wp_region_held (S:=StillW g w) hm (h w g g a _ hs.begun hs')) fun e a' w' hq=>?_
 obtain ⟨σ',g',⟨rfl,hk⟩,hsat⟩:=hq
 exact ⟨σ',g',hJ σ' hk,hs.trans hsat⟩

end
end Go.Sx

namespace Go.Sx
open Go

def SV.pin1 (o:Nat) (cs:List TV):SV → SV
 | .pc o' off=>match Nat.beq o' o with | true=>.rp (cs.drop off) | false=>.pc o' off
 | s=>s

def SV.pin (o:Nat) (cs:List TV):SV → SV
 | .tup vs=>.tup (vs.map (SV.pin1 o cs))
 | .fn f vs=>.fn f (vs.map (SV.pin1 o cs))
 | s=>s.pin1 o cs

theorem pin_flat {o:Nat} {cs:List TV} {s:SV} (h:s.flat = true):s.pin o cs = s.pin1 o cs:=by cases s <;> first | rfl | cases h

def setDead:List AObj → Nat → List AObj
 | [],_=>[]
 | _ :: r,0=>.dead :: r
 | x :: r,o + 1=>x :: setDead r o

theorem setDead_length:∀ (h:List AObj) (o:Nat),(setDead h o).length = h.length
 | [],_=>rfl
 | _ :: _,0=>rfl
 | _ :: r,o + 1=>by simp [setDead,setDead_length r o]

theorem setDead_ne:∀ (h:List AObj) (o k:Nat),k ≠ o → (setDead h o)[k]? = h[k]?
 | [],_,_,_=>rfl
 | x :: r,0,k,hk=>by
  cases k with
  | zero=>exact absurd rfl hk
  | succ k=>rfl
 | x :: r,o + 1,k,hk=>by
  cases k with
  | zero=>rfl
  | succ k =>
   simp only [setDead,List.getElem?_cons_succ]
   exact setDead_ne r o k (by omega)

theorem setDead_eq:∀ (h:List AObj) (o:Nat) {t:TypeId} {cs:List TV},(setDead h o)[o]? ≠ some (.cells t cs)
 | [],_,_,_=>by simp [setDead]
 | _ :: _,0,_,_=>by simp [setDead]
 | x :: r,o + 1,t,cs=>by simp only [setDead,List.getElem?_cons_succ]; exact setDead_eq r o

def AState.pin (σ:AState) (o:Nat) (cs:List TV):AState:=⟨σ.env.map fun e=>(e.1,e.2.pin o cs),setDead σ.heap o⟩

theorem get_pin (σ:AState) (o:Nat) (cs:List TV) (k:Nat):(σ.pin o cs).get k = (σ.get k).pin o cs:=by
 simp only [AState.get,AState.pin]
 induction σ.env with
 | nil=>rfl
 | cons e l ih =>
  simp only [List.map_cons,lookS]
  cases Nat.beq e.1 k <;> simp [ih]

theorem rootTV_pin (σ:AState) (o:Nat) (cs:List TV) (r:Root) (h:∀ off,r ≠ .cell o off):(σ.pin o cs).rootTV r = σ.rootTV r:=by
 cases r with
 | slot k j =>
  simp only [AState.rootTV,get_pin]
  cases σ.get k with
  | pc o' off=>simp only [SV.pin,SV.pin1]; cases Nat.beq o' o <;> rfl
  | tup vs =>
   simp only [SV.pin,tupAt,List.getElem?_map]
   cases vs[j]? with
   | none=>rfl
   | some s =>
    simp only [Option.map_some]
    cases s with
    | pc o' off=>simp only [SV.pin1]; cases Nat.beq o' o <;> rfl
    | _=>rfl
  | _=>rfl
 | cell o' off =>
  have:o' ≠ o:=by rintro rfl; exact h off rfl
  simp only [AState.rootTV,AState.pin,setDead_ne _ _ _ this]
 | obj o'=>rfl

section
variable {X:Ctx} {g:Gh} {σ:AState} {a:Act} {w:World}

theorem look_cell {o:Nat} {t:TypeId} {cs:List TV} (ho:σ.heap[o]? = some (.cells t cs)) (hp:cs.all TV.plain = true) (off:Nat):∀ (st:Steps) {x:TV},σ.look (.cell o off,st) = some x → x.plain = true
 | [],x,h=>by
  have h':σ.rootTV (.cell o off) = some x:=h
  simp only [AState.rootTV,ho] at h'
  rw [List.all_eq_true] at hp
  exact hp x (List.mem_of_getElem? h')
 | ij :: st,x,h=>by
  rw [look_cons] at h
  obtain ⟨y,hy,he⟩:=Option.bind_eq_some_iff.1 h
  have:=look_cell ho hp off st hy
  cases y with
  | own=>cases this
  | hole=>cases this
  | _=>cases he

theorem Sat.pin (h:Sat X g σ a w) {o:Nat} {t:TypeId} {cs:List TV} (ho:σ.heap[o]? = some (.cells t cs)) (hp:cs.all TV.plain = true):Sat X (g.frz (g.m o)) (σ.pin o cs) a w:=by
 obtain ⟨c0,h1,h2,h3,h4⟩:=h.heap o t cs ho
 have hne:∀ b p,g.ow b = some p → p ≠ (.obj o,[]) → b ≠ g.m o:=by
  rintro b p hb hpn rfl
  rw [h2] at hb
  cases hb
  exact hpn rfl
 have hK:∀ b p,g.ow b = some p → p ≠ (.obj o,[]) → (g.frz (g.m o)).ow b = some p:=fun b p hb hpn=>by
  rw [frz_ne (hne b p hb hpn)]; exact hb
 have hO':∀ b p,(g.frz (g.m o)).ow b = some p → g.ow b = some p ∧ b ≠ g.m o:=fun b p hb=>by
  by_cases e:b = g.m o
  ·subst e; simp [Gh.frz] at hb
  ·rw [frz_ne e] at hb; exact ⟨hb,e⟩
 have hP:∀ b,g.P b → (g.frz (g.m o)).P b ∧ w.heap[b]? = w.heap[b]?:=fun b hb=>⟨.inl hb,rfl⟩
 have htv:∀ {p:Path} {v:Value} {x:TV},p.1 ≠ .obj o → TRel g w p v x → TRel (g.frz (g.m o)) w p v x:=fun {p v x} hr hx =>
  hx.mono hP fun b st hb=>⟨hK b _ hb (fun e=>hr (congrArg Prod.fst e)),rfl⟩
 have hlook:∀ p:Path,∀ z e n f,σ.look p = some (.own z e n f) → (σ.pin o cs).look p = some (.own z e n f):=fun p z e n f hl=>by
  rw [← hl]
  refine look_eq (rootTV_pin σ o cs p.1 fun off he=>?_)
  have:=look_cell ho hp off p.2 (x:=.own z e n f) (by rw [← he]; exact hl)
  cases this
 have hs1:∀ {k j:Nat} {v:Value} {s:SV},S1 g w σ k j v s → S1 (g.frz (g.m o)) w (σ.pin o cs) k j v (s.pin1 o cs):=by
  intro k j v s hs
  cases s with
  | junk=>trivial
  | tv x=>exact htv (p:=(.slot k j,[])) (by simp) hs
  | agg xs =>
   obtain ⟨vs,rfl,hsz,hc⟩:=hs
   refine ⟨vs,rfl,hsz,fun i y hy=>?_⟩
   obtain ⟨u,hu,hr⟩:=hc i y hy
   exact ⟨u,hu,htv (by simp) hr⟩
  | tup vs=>exact hs.elim
  | fn f vs=>exact hs.elim
  | pc o' off =>
   obtain ⟨hv,hl⟩:=hs
   simp only [SV.pin1]
   cases hb:Nat.beq o' o with
   | false=>exact ⟨hv,by rw [AState.pin,setDead_length]; exact hl⟩
   | true =>
    obtain rfl:=Nat.eq_of_beq_eq_true hb
    refine ⟨g.m o',off,hv,.inr rfl,fun i y hy=>?_⟩
    rw [List.getElem?_drop] at hy
    obtain ⟨u,hu,hr⟩:=h4 (off + i) y hy
    rw [List.all_eq_true] at hp
    exact ⟨u,(cell_of_row w (g.m o') (off + i) c0 t (0,0) h1).trans hu,(hr.plain (hp y (List.mem_of_getElem? hy))).mono hP⟩
  | rpc o' off =>
   obtain ⟨b,hv,hb,hc,hl⟩:=hs
   exact ⟨b,hv,.inl hb,hc,by rw [AState.pin,setDead_length]; exact hl⟩
  | pe p i j z =>
   obtain ⟨b,e,n,f,hl,hi,hb,hv⟩:=hs
   have hl':=hlook p z e n f hl
   refine ⟨b,e,n,f,hl',hi,hK b p hb ?_,hv⟩
   rintro rfl
   rw [look_obj] at hl; cases hl
  | pa p i j m q z =>
   obtain ⟨b,e,n,f,hl,hi,hb,hv⟩:=hs
   have hl':=hlook p z e n f hl
   refine ⟨b,e,n,f,hl',hi,hK b p hb ?_,hv⟩
   rintro rfl
   rw [look_obj] at hl; cases hl
  | rp xs =>
   obtain ⟨b,off,hv,hb,hc⟩:=hs
   refine ⟨b,off,hv,.inl hb,fun i y hy=>?_⟩
   obtain ⟨u,hu,hr⟩:=hc i y hy
   exact ⟨u,hu,hr.mono hP⟩
  | ml p =>
   obtain ⟨b,hb,hv,hp⟩:=hs
   exact ⟨b,hK b p hb (by rintro rfl; exact hp _ rfl),hv,hp⟩
  | cut p lo m =>
   obtain ⟨z,e,n,f,A,cap,hl,hle,hv,hm⟩:=hs
   have hl':=hlook p z e n f hl
   refine ⟨z,e,n,f,A,cap,hl',hle,hv,?_⟩
   rcases hm with hm | ⟨b,cap0,c,hb,hA⟩
   ·exact .inl hm
   ·refine .inr ⟨b,cap0,c,hK b p hb ?_,hA⟩
    rintro rfl
    rw [look_obj] at hl; cases hl
  | al p =>
   obtain ⟨z,e,n,f,hl,hv⟩:=hs
   have hl':=hlook p z e n f hl
   refine ⟨z,e,n,f,hl',?_⟩
   rcases hv with hv | ⟨b,cap,c,hb,hv⟩
   ·exact .inl hv
   ·refine .inr ⟨b,cap,c,hK b p hb ?_,hv⟩
    rintro rfl
    rw [look_obj] at hl; cases hl
 refine ⟨h.defers,h.size,fun k=>?_,fun o' t' cs' ho'=>?_,fun b b' p hb hb'=>h.inj b b' p (hO' _ _ hb).1 (hO' _ _ hb').1,fun b hb=>?_,fun b p hb=>h.lt b p (hO' _ _ hb).1,fun b p hb=>?_,fun b hb=>?_,fun b hb=>.inl (h.P1 b hb),h.kept,h.os,h.tape,h.output,h.mono,h.m0,?_⟩
 ·have hk:=h.env k
  rw [get_pin]
  rcases (σ.get k).three with ⟨vs,hv⟩ | ⟨f,vs,hv⟩ | hf
  ·rw [hv] at hk ⊢
   obtain ⟨us,hu,hsz,hc⟩:=hk
   refine ⟨us,hu,by simpa using hsz,fun j sv hj=>?_⟩
   rw [List.getElem?_map] at hj
   obtain ⟨s0,hs0,rfl⟩:=Option.map_eq_some_iff.1 hj
   obtain ⟨u,hu',hr⟩:=hc j s0 hs0
   exact ⟨u,hu',hs1 hr⟩
  ·rw [hv] at hk ⊢
   obtain ⟨us,hu,hsz,hc⟩:=hk
   refine ⟨us,hu,by simpa using hsz,fun j sv hj=>?_⟩
   rw [List.getElem?_map] at hj
   obtain ⟨s0,hs0,rfl⟩:=Option.map_eq_some_iff.1 hj
   obtain ⟨u,hu',hr⟩:=hc j s0 hs0
   exact ⟨u,hu',hs1 hr⟩
  ·rw [pin_flat hf]
   rw [SR_flat hf] at hk
   have:=hs1 hk
   rw [SR_flat this.flat]
   exact this
 ·have hoo:o' ≠ o:=by
   rintro rfl
   exact setDead_eq σ.heap o' ho'
  have ho'':σ.heap[o']? = some (.cells t' cs'):=by rw [← setDead_ne σ.heap o o' hoo]; exact ho'
  obtain ⟨c,k1,k2,k3,k4⟩:=h.heap o' t' cs' ho''
  refine ⟨c,k1,hK _ _ k2 (by simp [hoo]),k3,fun i y hy=>?_⟩
  obtain ⟨u,hu,hr⟩:=k4 i y hy
  exact ⟨u,hu,htv (by simp) hr⟩
 ·rcases hb with hb | rfl
  ·have:=h.frozen b hb
   refine ⟨?_,this.2⟩
   by_cases e:b = g.m o
   ·subst e; simp [Gh.frz]
   ·rw [frz_ne e]; exact this.1
  ·exact ⟨by simp [Gh.frz],(Array.getElem?_eq_some_iff.1 h1).1⟩
 ·have:=h.ids b p (hO' _ _ hb).1
  simp only [AState.pin,setDead_length]
  exact this
 ·rcases hb with hb | rfl
  ·exact h.P0 b hb
  ·exact .inr (h.lt _ _ h2).2
 ·simp only [AState.pin,setDead_length]; exact h.h0

end

section
variable {F:Cfg} {Q:Exit → AState → Prop} {σ:AState}

theorem AWp.pin {c:Code} (o:Nat) {t:TypeId} {cs:List TV} (ho:σ.heap[o]? = some (.cells t cs)) (hp:cs.all TV.plain = true) (h:AWp F c Q (σ.pin o cs)):AWp F c Q σ:=fun w0 g0 _ a w hs =>
 h w0 g0 _ a w (hs.pin ho hp)

theorem AOps.pin {ops:Array Oper} {l:List Nat} (o:Nat) {t:TypeId} {cs:List TV} (ho:σ.heap[o]? = some (.cells t cs)) (hp:cs.all TV.plain = true) (h:AOps F ops Q l (σ.pin o cs)):AOps F ops Q l σ:=fun w0 g0 _ a w hs =>
 h w0 g0 _ a w (hs.pin ho hp)

end
end Go.Sx

namespace Go.Sx
open Go

abbrev cInt (k:IntKind) (n:Int):List TV:=[.int k n]
abbrev cBool (b:Bool):List TV:=[.bool b]
abbrev cStr (s:List UInt8):List TV:=[.str s]
abbrev cSl {A:Type} [Inhabited A] (z:Nat) (enc:A → List TV) (l:List A):List TV:=[fzL z enc l]

theorem get_ofN (rs:List Nat) (ss:List SV) (env:List (Nat × SV)) (h:rs.map (lookS env) = ss) (q r:Nat) (s:SV) (h1:rs[q]? = some r) (h2:ss[q]? = some s):lookS env r = s:=by
 subst h
 rw [List.getElem?_map,h1] at h2
 exact Option.some.inj h2

theorem ok_ofN (ss:List SV) (h:ss.all (fun s=>s.tvOrPure && s.closed) = true) (s:SV) (hs:s ∈ ss):s.tvOrPure = true ∧ s.closed = true:=by
 rw [List.all_eq_true] at h
 have:=h s hs
 rwa [Bool.and_eq_true] at this

def SV.indB1:SV → Bool
 | .tv x=>x.scal
 | .agg cs=>cs.all TV.scal
 | _=>false

def SV.indB:SV → Bool
 | .tup vs=>vs.all SV.indB1
 | s=>s.indB1

theorem ind1_of {s:SV} (h:s.indB1 = true):s.ind1:=by
 cases s <;> first | exact .scal h | exact h | cases h

theorem ind_of {s:SV} (h:s.indB = true):s.ind:=by
 rcases s.three with ⟨vs,rfl⟩ | ⟨f,vs,rfl⟩ | hf
 ·intro s hs
  simp only [SV.indB,List.all_eq_true] at h
  exact ind1_of (h s hs)
 ·cases h
 ·have h':s.indB1 = true:=by cases s <;> first | exact h | cases hf
  have:=ind1_of h'
  cases s <;> first | exact this | cases hf

theorem app_at {A:Type} [Inhabited A] (enc:A → List TV) (l l':List A):∀ i,i < l.length + l'.length → appF l.length (fun i=>enc (l.getD i default)) (fun i=>enc (l'.getD i default)) i = enc ((l ++ l').getD i default):=by
 intro i hi
 by_cases h:i < l.length
 ·rw [appF_lt h]; simp only [List.getD_eq_getElem?_getD,List.getElem?_append_left h]
 ·rw [appF_ge (Nat.le_of_not_lt h)]; simp only [List.getD_eq_getElem?_getD,List.getElem?_append_right (Nat.le_of_not_lt h)]

theorem row_at {A:Type} [Inhabited A] (enc:A → List TV) (z:Nat) (hz:∀ x,(enc x).length = z) (l:List A) (cells:List TV) (hc:cells = l.flatMap enc):∀ i,i < l.length → newRowF cells z i = enc (l.getD i default):=by
 subst hc
 induction l with
 | nil=>intro i hi; simp at hi
 | cons x r ih =>
  intro i hi
  have hx:=hz x
  cases i with
  | zero=>simp only [newRowF,Nat.zero_mul,List.drop_zero,List.flatMap_cons,← hx,List.take_left,List.getD_cons_zero]
  | succ i =>
   have:=ih i (by simpa using hi)
   simp only [newRowF,List.flatMap_cons,List.getD_cons_succ] at this ⊢
   rw [← this,Nat.succ_mul,Nat.add_comm,← List.drop_drop,← hx,List.drop_left]

theorem zero_at {A:Type} [Inhabited A] (enc:A → List TV) (zs:List TV) (x:A) (hz:zs = enc x) (n:Nat):∀ i,i < n → zerosF zs i = enc ((List.replicate n x).getD i default):=by
 intro i hi
 subst hz
 simp only [zerosF,List.getD_eq_getElem?_getD,List.getElem?_replicate,hi,if_true,Option.getD_some]

theorem setElem_at {A:Type} [Inhabited A] (enc:A → List TV) (l:List A) (k:Nat) (x:A) (f:Nat → List TV) (h1:∀ i,i < l.length → i ≠ k → f i = enc (l.getD i default)) (h2:k < l.length → f k = enc x):∀ i,i < l.length → f i = enc ((l.set k x).getD i default):=by
 intro i hi
 by_cases h:i = k
 ·subst h; rw [h2 hi]; simp [List.getD_eq_getElem?_getD,hi]
 ·rw [h1 i hi h]; simp [List.getD_eq_getElem?_getD,List.getElem?_set_ne (Ne.symm h)]

theorem sub_at {A:Type} [Inhabited A] (enc:A → List TV) (l:List A) (a b:Nat) (hb:b ≤ l.length):∀ i,i < b - a → enc (l.getD (a + i) default) = enc (((l.take b).drop a).getD i default):=by
 intro i hi
 simp only [List.getD_eq_getElem?_getD,List.getElem?_drop,List.getElem?_take]
 rw [if_pos (by omega)]

theorem sub_len {A:Type} (l:List A) (a b:Nat) (hb:b ≤ l.length):b - a = ((l.take b).drop a).length:=by simp; omega

section
variable {X:Ctx} {g:Gh} {σ:AState} {a:Act} {w:World}

/-- The nil slice, told otherwise. -/
theorem Sat.nil (h:Sat X g σ a w) {s:Nat} {y:TV} (hx:σ.get s = .tv (.sc (.slice none 0 0))) (hy:∀ g w p,TRel g w p (.slice none 0 0) y):Sat X g (σ.set s (.tv y)) a w:=by
 have hno:∀ st,∀ z e n f,σ.look (.slot s 0,st) ≠ some (.own z e n f):=by
  have key:∀ st x,σ.look (.slot s 0,st) = some x → st = [] ∧ x = .sc (.slice none 0 0):=by
   intro st
   induction st with
   | nil=>intro x hx'; simp only [AState.look,AState.rootTV,hx,List.foldr_nil,Option.some.injEq] at hx'; exact ⟨rfl,hx'.symm⟩
   | cons ij st ih =>
    intro x hx'
    rw [look_cons] at hx'
    obtain ⟨y,hy,he⟩:=Option.bind_eq_some_iff.1 hx'
    obtain ⟨_,rfl⟩:=ih y hy
    cases he
  intro st z e n f hl
  have:=(key st _ hl).2
  cases this
 have hno2:∀ j st,∀ z e n f,σ.look (.slot s (j + 1),st) ≠ some (.own z e n f):=by
  have key:∀ j st x,σ.look (.slot s (j + 1),st) ≠ some x:=by
   intro j st
   induction st with
   | nil=>intro x hx'; simp [AState.look,AState.rootTV,hx] at hx'
   | cons ij st ih =>
    intro x hx'
    rw [look_cons] at hx'
    obtain ⟨y,hy,_⟩:=Option.bind_eq_some_iff.1 hx'
    exact ih y hy
  intro j st z e n f; exact key j st _
 have N:∀ p,Names g g w w σ (σ.set s (.tv y)) p:=fun p=>⟨fun b hb=>⟨hb,fun c e hc=>⟨c,hc,rfl⟩⟩,fun z e n f hl=>⟨f,by
  cases hu:under s p with
  | false=>rw [look_set _ _ _ _ hu]; exact hl
  | true =>
   obtain ⟨j,hj⟩:=under_iff.1 hu
   obtain ⟨r,st⟩:=p
   simp only at hj
   subst hj
   cases j with
   | zero=>exact absurd hl (hno st z e n f)
   | succ j=>exact absurd hl (hno2 j st z e n f)⟩,fun o _ ho=>⟨rfl,ho⟩⟩
 refine ⟨h.defers,h.size,fun k=>?_,h.heap,h.inj,h.frozen,h.lt,h.ids,h.P0,h.P1,h.kept,h.os,h.tape,h.output,h.mono,h.m0,h.h0⟩
 rw [get_set]
 by_cases hk:k = s
 ·subst hk
  rw [if_pos rfl]
  have:=h.env k
  rw [hx] at this
  rw [rel_sc this]
  exact hy g w _
 ·rw [if_neg hk]
  exact (h.env k).mono ⟨fun b hb=>⟨hb,rfl⟩,fun j b st hb=>⟨hb,rfl⟩⟩ fun r _=>N r

end

section
variable {F:Cfg} {Q:Exit → AState → Prop} {σ:AState}

theorem AWp.keepTo {c:Code} (ks:List Nat) (n:Nat) (σ':AState) (he:σ.keep ks n = σ') (hn:F.h0 ≤ n) (h:AWp F c Q σ'):AWp F c Q σ:=AWp.keep ks n hn (by rw [he]; exact h)

theorem AOps.keepTo {ops:Array Oper} {l:List Nat} (ks:List Nat) (n:Nat) (σ':AState) (he:σ.keep ks n = σ') (hn:F.h0 ≤ n) (h:AOps F ops Q l σ'):AOps F ops Q l σ:=AOps.keep ks n hn (by rw [he]; exact h)

theorem AWp.nilOwn {c:Code} (s z:Nat) (e:TypeId) (f:Nat → List TV) (hx:σ.get s = .tv (.sc (.slice none 0 0))) (h:AWp F c Q (σ.set s (.tv (.own z e 0 f)))):AWp F c Q σ:=fun w0 g0 g a w hs =>
 h w0 g0 g a w (hs.nil hx fun _ _ _=>.nil z e f)

theorem AAny.keepTo {ops:Array Oper} {K:AState → Prop} {fuel:Nat} {ls:Array Bool} (ks:List Nat) (n:Nat) (σ':AState) (ls':Array Bool) (he:σ.keep ks n = σ') (hls:ls = ls') (hn:F.h0 ≤ n) (h:AAny F ops K fuel ls' σ'):AAny F ops K fuel ls σ:=by
 subst hls
 exact AAny.keep ks n hn (by rw [he]; exact h)

theorem AOps.nilOwn {ops:Array Oper} {l:List Nat} (s z:Nat) (e:TypeId) (f:Nat → List TV) (hx:σ.get s = .tv (.sc (.slice none 0 0))) (h:AOps F ops Q l (σ.set s (.tv (.own z e 0 f)))):AOps F ops Q l σ:=fun w0 g0 g a w hs =>
 h w0 g0 g a w (hs.nil hx fun _ _ _=>.nil z e f)

theorem AOps.extL {A:Type} [Inhabited A] {ops:Array Oper} {l:List Nat} (s:Nat) {z n:Nat} {e:TypeId} {f:Nat → List TV} (enc:A → List TV) (xs:List A) (hx:σ.get s = .tv (.own z e n f)) (hn:n = xs.length) (hf:∀ i,i < n → f i = enc (xs.getD i default)) (h:AOps F ops Q l (σ.set s (.tv (ownL z e enc xs)))):AOps F ops Q l σ :=
 AOps.ext hx hn hf h

theorem AAny.extL {A:Type} [Inhabited A] {ops:Array Oper} {K:AState → Prop} {fuel:Nat} {listed:Array Bool} (s:Nat) {z n:Nat} {e:TypeId} {f:Nat → List TV} (enc:A → List TV) (xs:List A) (hx:σ.get s = .tv (.own z e n f)) (hn:n = xs.length) (hf:∀ i,i < n → f i = enc (xs.getD i default)) (h:AAny F ops K fuel listed (σ.set s (.tv (ownL z e enc xs)))):AAny F ops K fuel listed σ :=
 AAny.ext hx hn hf h

theorem AWp.freezeL {A:Type} [Inhabited A] {c:Code} (s:Nat) {z:Nat} {e:TypeId} (enc:A → List TV) (xs:List A) (hx:σ.get s = .tv (ownL z e enc xs)) (hp:∀ x,(enc x).all TV.plain = true) (h:AWp F c Q (σ.fix s (fzL z enc xs))):AWp F c Q σ :=
 AWp.freeze hx (fun _ _=>hp _) h

theorem AOps.freezeL {A:Type} [Inhabited A] {ops:Array Oper} {l:List Nat} (s:Nat) {z:Nat} {e:TypeId} (enc:A → List TV) (xs:List A) (hx:σ.get s = .tv (ownL z e enc xs)) (hp:∀ x,(enc x).all TV.plain = true) (h:AOps F ops Q l (σ.fix s (fzL z enc xs))):AOps F ops Q l σ :=
 AOps.freeze hx (fun _ _=>hp _) h

theorem AAny.freezeL {A:Type} [Inhabited A] {ops:Array Oper} {K:AState → Prop} {fuel:Nat} {listed:Array Bool} (s:Nat) {z:Nat} {e:TypeId} (enc:A → List TV) (xs:List A) (hx:σ.get s = .tv (ownL z e enc xs)) (hp:∀ x,(enc x).all TV.plain = true) (h:AAny F ops K fuel listed (σ.fix s (fzL z enc xs))):AAny F ops K fuel listed σ :=
 AAny.freeze hx (fun _ _=>hp _) h

theorem AOps.extFzL {ops:Array Oper} {l:List Nat} {s z n n':Nat} {f f':Nat → List TV} (hx:σ.get s = .tv (.fz z n f)) (hn:n = n') (hf:∀ i,i < n → f i = f' i) (h:AOps F ops Q l (σ.fix s (.fz z n' f'))):AOps F ops Q l σ :=
 AOps.extFz hx rfl (fun _ _ _ hr=>hr.ext hn hf) h

theorem AAny.extFzL {ops:Array Oper} {K:AState → Prop} {fuel:Nat} {listed:Array Bool} {s z n n':Nat} {f f':Nat → List TV} (hx:σ.get s = .tv (.fz z n f)) (hn:n = n') (hf:∀ i,i < n → f i = f' i) (h:AAny F ops K fuel listed (σ.fix s (.fz z n' f'))):AAny F ops K fuel listed σ:=fun w0 g0 _ a w hb hs =>
 h w0 g0 _ a w hb (hs.extFz hx (fun _ hr=>hr.ext hn hf) rfl)

end
end Go.Sx

namespace Go.Sx
open Go

/-- It ends in no value. -/
def NoOk {α:Type}:Sem α → Prop
 | .pure _=>False
 | .load _ _ k=>∀ v,NoOk (k v)
 | .store _ _ _ k=>NoOk k
 | .new _ k=>∀ v,NoOk (k v)
 | .shape _ k=>∀ v,NoOk (k v)
 | .freeze _ _ k=>NoOk k
 | .frozen _ k=>∀ v,NoOk (k v)
 | .getObj _ k=>∀ v,NoOk (k v)
 | .setObj _ _ k=>NoOk k
 | .choose _ k=>∀ v,NoOk (k v)
 | .sys _ k=>∀ v,NoOk (k v)
 | .program k=>∀ v,NoOk (k v)
 | .mark _ k=>NoOk k
 | .halt _=>True

theorem NoOk.bind {α β:Type} {s:Sem α} {f:α → Sem β} (h:NoOk s):NoOk (s >>= f):=by
 show NoOk (s.bind f)
 induction s with
 | pure a=>exact h.elim
 | load m a k ih=>exact fun v=>ih v (h v)
 | store m a v k ih=>exact ih h
 | new o k ih=>exact fun v=>ih v (h v)
 | shape r k ih=>exact fun v=>ih v (h v)
 | freeze a n k ih=>exact ih h
 | frozen a k ih=>exact fun v=>ih v (h v)
 | getObj r k ih=>exact fun v=>ih v (h v)
 | setObj r o k ih=>exact ih h
 | choose q k ih=>exact fun v=>ih v (h v)
 | sys c k ih=>exact fun v=>ih v (h v)
 | program k ih=>exact fun v=>ih v (h v)
 | mark m k ih=>exact ih h
 | halt=>trivial

theorem NoOk.run {α:Type} {P:Program} {s:Sem α} (h:NoOk s):∀ {w w':World} {x:α},s.run P w ≠ .ok x w':=by
 induction s with
 | pure a=>exact h.elim
 | load m a k ih =>
  intro w w' x e
  simp only [Sem.run] at e
  split at e
  ·exact ih _ (h _) e
  ·split at e
   ·exact ih _ (h _) e
   ·cases e
 | store m a v k ih =>
  intro w w' x e
  have:∀ w0,k.run P w0 ≠ .ok x w':=fun w0=>ih h
  unfold Sem.run at e
  split at e <;> rename_i heq <;> first | (cases heq; done) | skip
  all_goals (cases heq)
  all_goals first | (cases e; done) | skip
  split at e
  ·split at e
   ·cases e
   ·exact this _ e
  ·split at e
   ·exact this _ e
   ·cases e
 | new o k ih=>intro w w' x e; exact ih _ (h _) e
 | shape r k ih=>intro w w' x e; exact ih _ (h _) e
 | freeze a n k ih=>intro w w' x e; exact ih h e
 | frozen a k ih=>intro w w' x e; exact ih _ (h _) e
 | getObj r k ih =>
  intro w w' x e
  simp only [Sem.run] at e
  split at e
  ·cases e
  ·exact ih _ (h _) e
  ·cases e
 | setObj r o k ih =>
  intro w w' x e
  simp only [Sem.run] at e
  split at e
  ·cases e
  ·exact ih h e
  ·cases e
 | choose q k ih =>
  intro w w' x e
  simp only [Sem.run] at e
  split at e
  ·exact ih _ (h _) e
  ·exact ih _ (h _) e
 | sys c k ih=>intro w w' x e; exact ih _ (h _) e
 | program k ih=>intro w w' x e; exact ih _ (h _) e
 | mark m k ih=>intro w w' x e; exact ih h e
 | halt=>intro w w' x e; cases e

/-- It leaves the world as it is. -/
def Qt {α:Type}:Sem α → Prop
 | .pure _=>True
 | .load _ _ k=>∀ v,Qt (k v)
 | .store _ _ _ _=>False
 | .new _ _=>False
 | .shape _ k=>∀ v,Qt (k v)
 | .freeze _ _ _=>False
 | .frozen _ k=>∀ v,Qt (k v)
 | .getObj _ k=>∀ v,Qt (k v)
 | .setObj _ _ _=>False
 | .choose _ k=>∀ v,NoOk (k v)
 | .sys _ _=>False
 | .program k=>∀ v,Qt (k v)
 | .mark _ k=>Qt k
 | .halt _=>True

theorem Qt.bind {α β:Type} {s:Sem α} {f:α → Sem β} (h:Qt s) (hf:∀ a,Qt (f a)):Qt (s >>= f):=by
 show Qt (s.bind f)
 induction s with
 | pure a=>exact hf a
 | load m a k ih=>exact fun v=>ih v (h v)
 | store=>exact h.elim
 | new=>exact h.elim
 | shape r k ih=>exact fun v=>ih v (h v)
 | freeze=>exact h.elim
 | frozen a k ih=>exact fun v=>ih v (h v)
 | getObj r k ih=>exact fun v=>ih v (h v)
 | setObj=>exact h.elim
 | choose q k ih=>exact fun v=>NoOk.bind (h v)
 | sys=>exact h.elim
 | program k ih=>exact fun v=>ih v (h v)
 | mark m k ih=>exact ih h
 | halt=>trivial

theorem Qt.pure {α:Type} (a:α):Qt (Pure.pure a:Sem α):=trivial

theorem Qt.run {α:Type} {P:Program} {s:Sem α} (h:Qt s):∀ {w w':World} {x:α},s.run P w = .ok x w' → w' = w:=by
 induction s with
 | pure a=>intro w w' x e; cases e; rfl
 | load m a k ih =>
  intro w w' x e
  simp only [Sem.run] at e
  split at e
  ·exact ih _ (h _) e
  ·split at e
   ·exact ih _ (h _) e
   ·cases e
 | store=>exact h.elim
 | new=>exact h.elim
 | shape r k ih=>intro w w' x e; exact ih _ (h _) e
 | freeze=>exact h.elim
 | frozen a k ih=>intro w w' x e; exact ih _ (h _) e
 | getObj r k ih =>
  intro w w' x e
  simp only [Sem.run] at e
  split at e
  ·cases e
  ·exact ih _ (h _) e
  ·cases e
 | setObj=>exact h.elim
 | choose q k ih =>
  intro w w' x e
  simp only [Sem.run] at e
  split at e
  ·exact absurd e (NoOk.run (h _))
  ·exact absurd e (NoOk.run (h _))
 | sys=>exact h.elim
 | program k ih=>intro w w' x e; exact ih _ (h _) e
 | mark m k ih=>intro w w' x e; exact ih h e
 | halt=>intro w w' x e; cases e

theorem Qt.stuck {α:Type} (s:String):Qt (Go.stuck s:Sem α):=trivial
theorem Qt.program:Qt Go.program:=fun _=>trivial
theorem Qt.load1 (a:Addr):Qt (Go.load a):=fun _=>trivial
theorem Qt.sureAddr (v:Value):Qt (Instr.sureAddr v):=by unfold Instr.sureAddr; split <;> trivial
theorem Qt.typeInfo (t:TypeId):Qt (Go.typeInfo t):=by
 unfold Go.typeInfo
 refine Qt.bind Qt.program fun p=>?_
 split <;> trivial
theorem Qt.underlying (t:TypeId):Qt (Go.underlying t):=by
 unfold Go.underlying
 refine Qt.bind Qt.program fun p=>?_
 split <;> trivial
theorem Qt.sizeOf (t:TypeId):Qt (Go.sizeOf t):=Qt.bind (Qt.typeInfo t) fun _=>trivial
theorem Qt.isAgg (t:TypeId):Qt (Go.isAgg t):=by
 unfold Go.isAgg
 refine Qt.bind (Qt.underlying t) fun p=>?_
 split <;> trivial
theorem Qt.loadCellsFrom (a:Addr):∀ (n i:Nat) (acc:Array Value),Qt (Go.loadCellsFrom a i n acc)
 | 0,_,_=>trivial
 | n + 1,i,acc=>Qt.bind (Qt.load1 _) fun v=>Qt.loadCellsFrom a n (i + 1) (acc.push v)
theorem Qt.loadVar (t:TypeId) (a:Addr):Qt (Go.loadVar t a):=by
 unfold Go.loadVar
 refine Qt.bind (Qt.isAgg t) fun b=>?_
 split
 ·exact Qt.bind (Qt.sizeOf t) fun n=>Qt.bind (Qt.loadCellsFrom _ _ _ _) fun _=>trivial
 ·exact Qt.load1 a

theorem Qt.asBool (v:Value):Qt (Go.asBool v):=by unfold Go.asBool; split <;> trivial
theorem Qt.extract (v:Value) (i:Nat):Qt (Instr.extract v i):=by
 unfold Instr.extract
 split
 ·split <;> trivial
 ·trivial
theorem Qt.asIntOf (v:Value):Qt (Go.asIntOf v):=by unfold Go.asIntOf; split <;> trivial
theorem NoOk.runtimePanicB {α:Type} (x y:Int) (b:Bool) (c:BoundsCode):NoOk (Go.runtimePanic (.bounds x y b c):Sem α):=fun _=>trivial
theorem NoOk.boundsPanic {α:Type} (k:IntKind) (x y:Int) (c:BoundsCode):NoOk (Go.boundsPanic k x y c:Sem α):=by
 unfold Go.boundsPanic
 split
 ·exact fun _=>NoOk.runtimePanicB _ _ _ _
 ·exact NoOk.runtimePanicB _ _ _ _
theorem Qt.boundsPanic {α:Type} (k:IntKind) (x y:Int) (c:BoundsCode):Qt (Go.boundsPanic k x y c:Sem α):=by
 unfold Go.boundsPanic
 split
 ·exact fun _=>NoOk.runtimePanicB _ _ _ _
 ·exact fun _=>trivial

theorem Qt.indexAt (t:TypeId) (x i:Value):Qt (Instr.indexAt t x i):=by
 unfold Instr.indexAt
 refine Qt.bind (Qt.asIntOf i) fun ki=>Qt.bind (Qt.underlying t) fun u=>?_
 repeat' first
  | exact trivial
  | exact Qt.boundsPanic _ _ _ _
  | exact Qt.pure _
  | exact Qt.underlying _
  | exact Qt.sizeOf _
  | exact Qt.sureAddr _
  | refine Qt.bind ?_ fun _=>?_
  | split
  | (dsimp only; split)

/-- What reads alone. -/
def readOp:Op → Bool
 | .move _ | .assign _ | .pick _ _ _ | .load _ _ | .extract _ _ | .indexAddr _ _ _=>true
 | _=>false

theorem Qt.value {s:Sem Value} (h:Qt s):Qt (do let x ← s; Pure.pure (Next.value x):Sem Next):=Qt.bind h fun _=>trivial

theorem qt_of_readOp {o:Oper} (h:readOp o.op = true) (ρ:Operand → Value):Qt (execOp ρ o):=by
 unfold execOp
 cases ho:o.op <;> rw [ho] at h <;> first | (cases h; done) | simp only
 ·exact Qt.pure _
 ·exact Qt.pure _
 ·exact Qt.bind (Qt.asBool _) fun _=>trivial
 ·exact Qt.value (Qt.bind (Qt.sureAddr _) fun _=>Qt.loadVar _ _)
 ·exact Qt.value (Qt.indexAt _ _ _)
 ·exact Qt.value (Qt.extract _ _)

theorem readOp_value {P:Program} {o:Oper} {a:Operand → Value} {n:Next} {w w':World} (h:readOp o.op = true) (hr:(execOp a o).run P w = .ok n w'):∃ v,n = .value v:=by
 have key:∀ s:Sem Value,(do let x ← s; Pure.pure (Next.value x):Sem Next).run P w = .ok n w' → ∃ v,n = .value v:=fun s hs=>by
  rw [Sem.run_bind] at hs
  cases hx:s.run P w with
  | ok x w1=>rw [hx] at hs; cases hs; exact ⟨_,rfl⟩
  | halt x w1=>rw [hx] at hs; cases hs
 unfold execOp at hr
 cases ho:o.op <;> rw [ho] at h hr <;> first | (cases h; done) | simp only at hr
 ·cases hr; exact ⟨_,rfl⟩
 ·cases hr; exact ⟨_,rfl⟩
 ·rw [Sem.run_bind] at hr
  cases hx:(asBool _).run P w with
  | ok x w1=>rw [hx] at hr; cases hr; exact ⟨_,rfl⟩
  | halt x w1=>rw [hx] at hr; cases hr
 ·exact key _ hr
 ·exact key _ hr
 ·exact key _ hr

section
variable {P:Program} {ops:Array Oper} {Q:Exit → Act → World → Prop} {md:Region.Mode} {S:World → Prop}

theorem wpOp_qt {j:Nat} {oj:Oper} (hj:ops[j]? = some oj) (hq:readOp oj.op = true) {K:Act → World → Prop} {a:Act} {w:World} (h:wpOp P ops Q j K a w) :
  wpOp P ops Q j (fun a' w'=>w' = w ∧ K a' w') a w:=by
 unfold wpOp at *
 simp only [hj] at *
 split
 ·rename_i hw
  simp only [hw,if_true] at h
  refine h.imp (fun h=>?_) id
  have hqt:=qt_of_readOp hq a.eval
  unfold Oper.wp at *
  cases hr:(execOp a.eval oj).run P w with
  | ok n w' =>
   rw [hr] at h
   have he:=hqt.run hr
   have hv:=readOp_value hq hr
   obtain ⟨v,rfl⟩:=hv
   exact ⟨he,h⟩
  | halt x w' =>
   rw [hr] at h
   cases x <;> exact h
 ·rename_i hw
  simp only [hw] at h
  exact ⟨trivial,h⟩

/-- Those behind i, and behind one another, while i waits. -/
structure Behind (ops:Array Oper) (md:Region.Mode) (i:Nat) (ws:List Nat):Prop where
 on:∀ k ∈ ws,∃ ok,ops[k]? = some ok ∧ ∃ e ∈ ok.after,Region.binds md e = true ∧ (e.on = i ∨ e.on ∈ ws)

theorem wpAnyH_firstR {i:Nat} {oi:Oper} {v:Value} {ws:List Nat} (hi:ops[i]? = some oi) (hsel:∀ (j:Nat) (o:Oper) cs b,ops[j]? = some o → o.op ≠ .select cs b)
  (hQ:∀ c a w,Q (.panic c) (a.put oi.dst v) w → Q (.panic c) a w) (w0:World) (hS0:S w0) (hB:Behind ops md i ws) :
  ∀ (fuel:Nat) (listed:Array Bool) (a:Act) (w:World),w = w0 →
   (∀ j oj,ops[j]? = some oj → j ≠ i → listed.getD j true = false → j ∉ ws → oi.apart ops oj = true ∧ readOp oj.op = true) → (∀ k ∈ ws,listed.getD k true = false) →
   i ∈ Region.ready md ops listed → YieldsIf P ops (fun w=>w = w0) oi v a →
   wpAnyH P md ops Q S fuel (listed.setIfInBounds i true) (a.put oi.dst v) w → wpAnyH P md ops Q S (fuel + 1) listed a w:=by
 intro fuel
 induction fuel with
 | zero =>
  intro listed a w hw _ _ hr hy H
  refine ⟨fun h=>(by rw [h] at hr; cases hr),fun j hj=>?_⟩
  by_cases hji:j = i
  ·subst hji; exact hy.wpOp hi hw ⟨by rw [hw]; exact hS0,H⟩
  ·have:=ready_mono hj hji
   rw [H.1] at this
   cases this
 | succ fuel ih =>
  intro listed a w hw hfree hun hr hy H
  refine ⟨fun h=>(by rw [h] at hr; cases hr),fun j hj=>?_⟩
  by_cases hji:j = i
  ·subst hji; exact hy.wpOp hi hw ⟨by rw [hw]; exact hS0,H⟩
  ·have h1:=H.2 j (ready_mono hj hji)
   obtain ⟨hjun,oj,hoj,hall⟩:=mem_ready.1 hj
   have clash:∀ k,listed.getD k true = false → listed.getD k false = true → False:=fun k h0 h1=>by
    rcases Nat.lt_or_ge k listed.size with h' | h'
    ·simp [h'] at h0 h1; rw [h0] at h1; cases h1
    ·simp [Array.getElem?_eq_none h'] at h1
   have hnot:j ∉ ws:=fun hjw=>by
    obtain ⟨ok,hok,e,he,hb,hon⟩:=hB.on j hjw
    rw [hoj] at hok
    cases hok
    have h1:=hall e he hb
    rcases hon with hon | hon
    ·rw [hon] at h1; exact clash i (mem_ready.1 hr).1 h1
    ·exact clash _ (hun _ hon) h1
   obtain ⟨hap,hro⟩:=hfree j oj hoj hji hjun hnot
   have h2:=wpOp_putIf hoj hap (fun cs b=>hsel i oi cs b hi) (fun cs b=>hsel j oj cs b hoj) hQ hy h1
   have hset:∀ k,(listed.setIfInBounds j true).getD k true = false → listed.getD k true = false:=fun k hk=>by
    by_cases hjk:j = k
    ·subst hjk; exact hjun
    ·rw [getD_set_ne true hjk] at hk; exact hk
   refine wpOp_mono (fun a' w' h3=>?_) (wpOp_qt hoj hro h2)
   obtain ⟨h4,h5,h6,h7⟩:=h3
   have hw':=h4.trans hw
   refine ⟨h6,ih (listed.setIfInBounds j true) a' w' hw' (fun k ok hk hki hu hno=>hfree k ok hk hki (hset k hu) hno) (fun k hk=>?_) (ready_mono hr (Ne.symm hji)) h5 ?_⟩
   ·have hjk:j ≠ k:=fun e=>hnot (e ▸ hk)
    rw [getD_set_ne true hjk]; exact hun k hk
   ·rw [Array.setIfInBounds_comm _ _ hji]
    exact h7

/-- Beside it only such stand that read; those of ws wait for it, or for one another. -/
def freeR (ops:Array Oper) (listed:Array Bool) (i:Nat) (ws:List Nat):Bool:=match ops[i]? with
 | none=>false
 | some oi=>((List.range ops.size).all fun j=>match ops[j]? with
  | none=>true
  | some oj=>j == i || listed.getD j true || ws.contains j || (oi.apart ops oj && readOp oj.op)) && (ws.all fun k=>!listed.getD k true && (match ops[k]? with
  | none=>false
  | some ok=>ok.after.any fun e=>Region.binds .any e && (e.on == i || ws.contains e.on)))

theorem freeR_spec {listed:Array Bool} {i:Nat} {oi:Oper} {ws:List Nat} (hi:ops[i]? = some oi) (h:freeR ops listed i ws = true) :
  (∀ j oj,ops[j]? = some oj → j ≠ i → listed.getD j true = false → j ∉ ws → oi.apart ops oj = true ∧ readOp oj.op = true) ∧ (∀ k ∈ ws,listed.getD k true = false) ∧ Behind ops .any i ws:=by
 unfold freeR at h
 rw [hi] at h
 simp only [Bool.and_eq_true,List.all_eq_true,List.mem_range,Bool.not_eq_true'] at h
 obtain ⟨hA,hB⟩:=h
 refine ⟨fun j oj hj hne hl hw=>?_,fun k hk=>(hB k hk).1,⟨fun k hk=>?_⟩⟩
 ·have hlt:j < ops.size:=by
   rcases Nat.lt_or_ge j ops.size with h' | h'
   ·exact h'
   ·rw [Array.getElem?_eq_none h'] at hj; cases hj
  have:=hA j hlt
  rw [hj] at this
  simp only [Bool.or_eq_true,Bool.and_eq_true,beq_iff_eq,hl,List.contains_iff_mem] at this
  rcases this with ((h1 | h1) | h1) | h1
  ·exact absurd h1 hne
  ·cases h1
  ·exact absurd h1 hw
  ·exact h1
 ·have:=(hB k hk).2
  split at this
  ·cases this
  ·rename_i ok hok
   rw [Array.any_eq_true] at this
   obtain ⟨q,hq,h1⟩:=this
   simp only [Bool.and_eq_true,Bool.or_eq_true,beq_iff_eq,List.contains_iff_mem] at h1
   exact ⟨ok,hok,ok.after[q],Array.getElem_mem hq,h1.1,h1.2⟩
end

section
variable {F:Cfg} {K:AState → Prop} {σ:AState} {ops:Array Oper}

/-- A reading operation is taken first. -/
def takeR (T:Tab) (n:Nat) (ops:Array Oper) (σ:AState) (i:Nat):Option (List Prop × AState) :=
 match ops[i]? with
 | none=>none
 | some o=>match guardV ops σ o,o.dst with
  | some true,some d=>(match Nat.blt d n with
   | true=>(match evalPure T σ o.op with
    | some (cs,sv)=>(match sv.names (under d) with | false=>some (cs,σ.put d sv) | true=>none)
    | none=>none)
   | false=>none)
  | _,_=>none

theorem AAny.takeR {fuel:Nat} {listed:Array Bool} {i:Nat} {cs:List Prop} {σ':AState} (he:Go.Sx.takeR F.T F.n ops σ i = some (cs,σ')) (hc:∀ c ∈ cs,c)
  (ws:List Nat) (hs:Region.noSelect ops = true) (hf:freeR ops listed i ws = true) (hr:(Region.ready .any ops listed).contains i = true)
  (h:AAny F ops K fuel (listed.setIfInBounds i true) σ'):AAny F ops K (fuel + 1) listed σ:=by
 refine AAny.now fun g a w hsat=>?_
 unfold Go.Sx.takeR at he
 split at he
 ·cases he
 ·rename_i o ho
  have hQ:∀ (v:Value) c a' w',QQ (F.ctx w g) (NQ K) (.panic c) (a'.put o.dst v) w' → QQ (F.ctx w g) (NQ K) (.panic c) a' w':=by
   rintro v c a' w' ⟨σ1,g1,⟨h1,_⟩,_⟩
   cases h1
  split at he
  ·rename_i d hg hdst
   split at he
   ·rename_i hlt
    have hd:d < F.n:=Nat.le_of_ble_eq_true hlt
    split at he
    ·rename_i cs0 sv hp
     split at he
     ·rename_i hnm
      cases he
      obtain ⟨v,hrun,⟨k,hrel⟩,hpu⟩:=evalPure_sound (X:=F.ctx w g) F.ok hsat hp hc
      obtain ⟨f1,f2,f3⟩:=freeR_spec ho hf
      refine wpAnyH_firstR ho (Region.noSelect_spec hs) (hQ v) w (hsat.still hsat.begun) f3 fuel listed a w rfl f1 f2 (by simpa using hr) (.inl ⟨guardV_sound hsat hg,fun w' hw'=>by rw [hw']; exact hrun⟩) ?_
      rw [hdst]
      exact h w g _ _ w hsat.begun (hsat.put hd hpu hnm hrel)
     ·cases he
    ·cases he
   ·cases he
  ·cases he

theorem AAny.goR (hs:Region.noSelect ops = true) {i:Nat} {fuel fuel':Nat} {listed:Array Bool} (ws:List Nat) (hfu:fuel = fuel' + 1) (hf:freeR ops listed i ws = true) (hr:(Region.ready .any ops listed).contains i = true) (cs:List Prop) (ls':Array Bool) (hls:listed.setIfInBounds i true = ls') (ks:List Nat) (nh:Nat) (σ':AState) (he:(Go.Sx.takeR F.T F.n ops σ i).map (fun r=>(r.1,r.2.keep ks nh)) = some (cs,σ')) (hn:F.h0 ≤ nh) (hc:AllP cs) (h:AAny F ops K fuel' ls' σ'):AAny F ops K fuel listed σ:=by
 obtain ⟨⟨cs',σ1⟩,h1,h2⟩:=Option.map_eq_some_iff.1 he
 cases h2
 subst hfu hls
 exact AAny.takeR h1 hc.mem ws hs hf hr (AAny.keep ks nh hn h)
end
theorem look_imp {σ σ':AState} {r:Root} (h:∀ y,σ.rootTV r = some y → σ'.rootTV r = some y):∀ (st:Steps) {x:TV},σ.look (r,st) = some x → σ'.look (r,st) = some x
 | [],x,hx=>h x hx
 | ij :: st,x,hx=>by
  rw [look_cons] at hx ⊢
  obtain ⟨y,hy,he⟩:=Option.bind_eq_some_iff.1 hx
  rw [look_imp h st hy]
  exact he

end Go.Sx

namespace Go.Sx
open Go

def Root.into (os:List Nat):Root → Option Root
 | .cell o off=>(idxOf os o).map fun q=>.cell q off
 | .obj o=>(idxOf os o).map .obj
 | .slot _ _=>none

def pathInto (os:List Nat) (p:Path):Option Path:=(p.1.into os).map fun r=>(r,p.2)

/-- The callee's labels: of the objects that are handed over alone. -/
def Gh.into (g:Gh) (os:List Nat):Gh:=⟨fun b=>(g.ow b).bind (pathInto os),g.P,fun q=>g.m (os.getD q 0)⟩

/-- Object q of the callee's end is this one of the caller's. -/
def backO (os:List Nat) (n0 q:Nat):Nat:=match os[q]? with | some o=>o | none=>n0 + (q - os.length)

def Root.outof (os:List Nat) (n0 d:Nat):Root → Option Root
 | .slot k j=>match k with | 0=>some (.slot d j) | _=>none
 | .cell q off=>some (.cell (backO os n0 q) off)
 | .obj q=>some (.obj (backO os n0 q))

def pathOut (os:List Nat) (n0 d:Nat) (p:Path):Option Path:=(p.1.outof os n0 d).map fun r=>(r,p.2)

def Gh.outof (g g':Gh) (os:List Nat) (n0 d:Nat):Gh where
 ow:=fun b=>match g'.ow b with
  | some p=>pathOut os n0 d p
  | none=>match (g.into os).ow b with
   | some _=>none
   | none=>(g.clr (under d)).ow b
 P:=g'.P
 m:=fun o=>match Nat.blt o n0 with | true=>g.m o | false=>g'.m (os.length + (o - n0))

def mapO {A B:Type} (f:A → Option B):List A → Option (List B)
 | []=>some []
 | x :: r=>match f x,mapO f r with | some y,some ys=>some (y :: ys) | _,_=>none

def intoSV1 (os:List Nat):SV → Option SV
 | .pc o off=>(idxOf os o).map fun q=>.pc q off
 | s=>match s.pure1,s.names1 (fun _=>true) with | true,false=>some s | _,_=>none

def intoSV (os:List Nat):SV → Option SV
 | .fn f caps=>(mapO (intoSV1 os) caps).map (.fn f)
 | .tup _=>none
 | s=>intoSV1 os s

def outSV1 (os:List Nat) (n0:Nat):SV → SV
 | .pc q off=>.pc (backO os n0 q) off
 | .rpc _ _=>.junk
 | s=>s

def outSV (os:List Nat) (n0:Nat):SV → SV
 | .tup vs=>.tup (vs.map (outSV1 os n0))
 | .fn f vs=>.fn f (vs.map (outSV1 os n0))
 | s=>outSV1 os n0 s

/-- Places that a call may have changed. -/
def goneR (os:List Nat) (d:Nat) (p:Path):Bool :=
 match p with
 | (.cell o _,_)=>inL os o
 | (.obj _,_ :: _)=>true
 | (.obj _,[])=>false
 | (.slot k _,_)=>Nat.beq k d

def backHeap (os:List Nat) (hout:List AObj):List AObj → Nat → List AObj
 | [],_=>[]
 | x :: r,k=>(match idxOf os k with | some q=>(match hout[q]? with | some y=>y | none=>.dead) | none=>x) :: backHeap os hout r (k + 1)

def AState.callBack (σ:AState) (os:List Nat) (d:Nat) (res:SV) (hout:List AObj):AState :=
 { env:=(d,outSV os σ.heap.length res) :: (σ.drop (goneR os d)).env,heap:=backHeap os hout σ.heap 0 ++ hout.drop os.length }

def sameS:List AObj → List AObj → Bool
 | [],_=>true
 | .cells t cs :: r,.cells t' cs' :: r'=>Nat.beq t t' && (Nat.beq cs.length cs'.length && sameS r r')
 | _,_=>false

theorem sameS_at:∀ {h h':List AObj},sameS h h' = true → ∀ (q:Nat) t cs,h[q]? = some (.cells t cs) → ∃ cs',h'[q]? = some (.cells t cs') ∧ cs'.length = cs.length
 | [],_,_,q,t,cs,hq=>by simp at hq
 | x :: r,[],hs,q,t,cs,hq=>by cases x <;> cases hs
 | .dead :: r,y :: r',hs,q,t,cs,hq=>by cases hs
 | .cells t0 c0 :: r,.dead :: r',hs,q,t,cs,hq=>by cases hs
 | .cells t0 c0 :: r,.cells t1 c1 :: r',hs,q,t,cs,hq=>by
  simp only [sameS,Bool.and_eq_true] at hs
  obtain ⟨h1,h2,h3⟩:=hs
  cases q with
  | zero =>
   simp only [List.getElem?_cons_zero,Option.some.injEq,AObj.cells.injEq] at hq ⊢
   obtain ⟨rfl,rfl⟩:=hq
   exact ⟨c1,⟨(Nat.eq_of_beq_eq_true h1).symm,rfl⟩,(Nat.eq_of_beq_eq_true h2).symm⟩
  | succ q=>simp only [List.getElem?_cons_succ] at hq ⊢; exact sameS_at h3 q t cs hq

theorem backHeap_length (os:List Nat) (hout:List AObj):∀ (h:List AObj) (k:Nat),(backHeap os hout h k).length = h.length
 | [],_=>rfl
 | x :: r,k=>by simp only [backHeap,List.length_cons,backHeap_length os hout r (k + 1)]

theorem backHeap_get (os:List Nat) (hout:List AObj):∀ (h:List AObj) (k i:Nat),(backHeap os hout h k)[i]? = (h[i]?).map fun x=>match idxOf os (k + i) with | some q=>(match hout[q]? with | some y=>y | none=>.dead) | none=>x
 | [],_,_=>by simp [backHeap]
 | x :: r,k,0=>by simp [backHeap]
 | x :: r,k,i + 1=>by
  simp only [backHeap,List.getElem?_cons_succ]
  rw [backHeap_get os hout r (k + 1) i,Nat.add_assoc,Nat.add_comm 1 i]

theorem mem_of_idxOf {l:List Nat} {k q:Nat} (h:idxOf l k = some q):k ∈ l:=List.mem_of_getElem? (idxOf_some h)

theorem pathInto_some {os:List Nat} {p p':Path} (h:pathInto os p = some p') :
  p'.2 = p.2 ∧ ((∃ o off q,p.1 = .cell o off ∧ idxOf os o = some q ∧ p'.1 = .cell q off) ∨ ∃ o q,p.1 = .obj o ∧ idxOf os o = some q ∧ p'.1 = .obj q):=by
 obtain ⟨r,st⟩:=p
 unfold pathInto at h
 obtain ⟨r',h1,rfl⟩:=Option.map_eq_some_iff.1 h
 refine ⟨rfl,?_⟩
 cases r with
 | slot k j=>cases h1
 | cell o off=>obtain ⟨q,h2,rfl⟩:=Option.map_eq_some_iff.1 h1; exact .inl ⟨o,off,q,rfl,h2,rfl⟩
 | obj o=>obtain ⟨q,h2,rfl⟩:=Option.map_eq_some_iff.1 h1; exact .inr ⟨o,q,rfl,h2,rfl⟩

theorem pathInto_inj {os:List Nat} {p p' q:Path} (h:pathInto os p = some q) (h':pathInto os p' = some q):p = p':=by
 obtain ⟨r,st⟩:=p
 obtain ⟨r',st'⟩:=p'
 obtain ⟨e1,h1⟩:=pathInto_some h
 obtain ⟨e2,h2⟩:=pathInto_some h'
 simp only at e1 e2 h1 h2
 obtain rfl:st = st':=by rw [← e1,← e2]
 rcases h1 with ⟨o,off,k,rfl,i1,k1⟩ | ⟨o,k,rfl,i1,k1⟩ <;> rcases h2 with ⟨o',off',k',rfl,i2,k2⟩ | ⟨o',k',rfl,i2,k2⟩ <;> rw [k1] at k2 <;> injection k2
 ·rename_i a b; subst a b; have:=idxOf_some i1; rw [idxOf_some i2] at this; cases this; rfl
 ·rename_i a; subst a; have:=idxOf_some i1; rw [idxOf_some i2] at this; cases this; rfl

theorem backO_some {os:List Nat} {n0 q o:Nat} (h:os[q]? = some o):backO os n0 q = o:=by simp only [backO,h]
theorem backO_none {os:List Nat} {n0 q:Nat} (h:os.length ≤ q):backO os n0 q = n0 + (q - os.length):=by simp only [backO,List.getElem?_eq_none h]

theorem backO_inj {os:List Nat} {n0 q q':Nat} (hnd:os.Nodup) (hos:∀ o ∈ os,o < n0) (h:backO os n0 q = backO os n0 q'):q = q':=by
 have key:∀ q,(∃ o,os[q]? = some o ∧ backO os n0 q = o ∧ o < n0 ∧ idxOf os o = some q) ∨ (os.length ≤ q ∧ backO os n0 q = n0 + (q - os.length)):=fun q=>by
  rcases Nat.lt_or_ge q os.length with hq | hq
  ·have:=List.getElem?_eq_getElem hq
   exact .inl ⟨_,this,backO_some this,hos _ (List.mem_of_getElem? this),idxOf_at hnd this⟩
  ·exact .inr ⟨hq,backO_none hq⟩
 rcases key q with ⟨o,_,e,l,i⟩ | ⟨l,e⟩ <;> rcases key q' with ⟨o',_,e',l',i'⟩ | ⟨l',e'⟩ <;> rw [e,e'] at h
 ·subst h; rw [i] at i'; cases i'; rfl
 ·omega
 ·omega
 ·omega

theorem pathOut_some {os:List Nat} {n0 d:Nat} {p p':Path} (h:pathOut os n0 d p = some p') :
  p'.2 = p.2 ∧ ((∃ j,p.1 = .slot 0 j ∧ p'.1 = .slot d j) ∨ (∃ q off,p.1 = .cell q off ∧ p'.1 = .cell (backO os n0 q) off) ∨ ∃ q,p.1 = .obj q ∧ p'.1 = .obj (backO os n0 q)):=by
 obtain ⟨r,st⟩:=p
 unfold pathOut at h
 obtain ⟨r',h1,rfl⟩:=Option.map_eq_some_iff.1 h
 refine ⟨rfl,?_⟩
 cases r with
 | slot k j=>cases k with
  | zero=>cases h1; exact .inl ⟨j,rfl,rfl⟩
  | succ k=>cases h1
 | cell q off=>cases h1; exact .inr (.inl ⟨q,off,rfl,rfl⟩)
 | obj q=>cases h1; exact .inr (.inr ⟨q,rfl,rfl⟩)

theorem pathOut_inj {os:List Nat} {n0 d:Nat} (hnd:os.Nodup) (hos:∀ o ∈ os,o < n0) {p p' q:Path} (h:pathOut os n0 d p = some q) (h':pathOut os n0 d p' = some q):p = p':=by
 obtain ⟨r,st⟩:=p
 obtain ⟨r',st'⟩:=p'
 obtain ⟨e1,h1⟩:=pathOut_some h
 obtain ⟨e2,h2⟩:=pathOut_some h'
 simp only at e1 e2 h1 h2
 obtain rfl:st = st':=by rw [← e1,← e2]
 rcases h1 with ⟨j,rfl,k1⟩ | ⟨j,off,rfl,k1⟩ | ⟨j,rfl,k1⟩ <;> rcases h2 with ⟨j',rfl,k2⟩ | ⟨j',off',rfl,k2⟩ | ⟨j',rfl,k2⟩ <;> rw [k1] at k2 <;> injection k2
 ·rename_i a b; subst b; rfl
 ·rename_i a b; subst b; rw [backO_inj hnd hos a]
 ·rename_i a; rw [backO_inj hnd hos a]

theorem mapO_at {A B:Type} {f:A → Option B}:∀ {l:List A} {l':List B},mapO f l = some l' → l'.length = l.length ∧ ∀ (q:Nat) y,l'[q]? = some y → ∃ x,l[q]? = some x ∧ f x = some y
 | [],l',h=>by cases h; exact ⟨rfl,fun q y hy=>by simp at hy⟩
 | x :: r,l',h=>by
  simp only [mapO] at h
  split at h
  ·rename_i y ys h1 h2
   cases h
   obtain ⟨k1,k2⟩:=mapO_at h2
   refine ⟨by simp [k1],fun q z hz=>?_⟩
   cases q with
   | zero=>simp only [List.getElem?_cons_zero,Option.some.injEq] at hz ⊢; subst hz; exact ⟨x,rfl,h1⟩
   | succ q=>simp only [List.getElem?_cons_succ] at hz ⊢; exact k2 q z hz
  ·cases h

section
variable {X:Ctx} {g:Gh} {σ:AState} {a:Act} {w:World}

theorem into_ow {os:List Nat} {b:Nat} {p':Path} (h:(g.into os).ow b = some p'):∃ p,g.ow b = some p ∧ pathInto os p = some p':=Option.bind_eq_some_iff.1 h

theorem into_m {os:List Nat} {q o:Nat} (h:os[q]? = some o):(g.into os).m q = g.m o:=by simp [Gh.into,List.getD_eq_getElem?_getD,h]

/-- What a handed argument reads as, in the callee. -/
theorem intoSV1_sound {os:List Nat} {k j:Nat} {v:Value} {s s':SV} (h:S1 g w σ k j v s) (hi:intoSV1 os s = some s') (σ0:AState) (hl:σ0.heap.length = os.length) (k' j':Nat):S1 (g.into os) w σ0 k' j' v s':=by
 unfold intoSV1 at hi
 split at hi
 ·rename_i o off
  obtain ⟨q,hq,rfl⟩:=Option.map_eq_some_iff.1 hi
  have:=idxOf_some hq
  exact ⟨by rw [into_m this]; exact h.1,by rw [hl]; exact (List.getElem?_eq_some_iff.1 this).1⟩
 ·split at hi
  ·rename_i h1 h2
   cases hi
   exact h.calm h1 h2 rfl
  ·cases hi

theorem AR.into {os:List Nat} {v:Value} {s s':SV} (h:AR g w σ v s) (hi:intoSV os s = some s') (σ0:AState) (hl:σ0.heap.length = os.length) (k':Nat):SR (g.into os) w σ0 k' v s':=by
 rcases h with ⟨k,h⟩ | ⟨k,j,h⟩
 ·rcases s.three with ⟨vs,rfl⟩ | ⟨f,vs,rfl⟩ | hf
  ·cases hi
  ·obtain ⟨cs,rfl,hs,hc⟩:=h
   obtain ⟨vs',hvs,rfl⟩:=Option.map_eq_some_iff.1 hi
   obtain ⟨e1,e2⟩:=mapO_at hvs
   refine ⟨cs,rfl,by rw [hs,e1],fun j sv hj=>?_⟩
   obtain ⟨x,hx,he⟩:=e2 j sv hj
   obtain ⟨u,hu,hr⟩:=hc j x hx
   exact ⟨u,hu,intoSV1_sound hr he σ0 hl _ _⟩
  ·have hi':intoSV1 os s = some s':=by cases s <;> first | exact hi | cases hf
   rw [SR_flat hf] at h
   have hf':s'.flat = true:=by
    unfold intoSV1 at hi'
    split at hi'
    ·obtain ⟨q,hq,rfl⟩:=Option.map_eq_some_iff.1 hi'; rfl
    ·split at hi'
     ·cases hi'; exact hf
     ·cases hi'
   rw [SR_flat hf']
   exact intoSV1_sound h hi' σ0 hl _ _
 ·have hf:=h.flat
  have hi':intoSV1 os s = some s':=by cases s <;> first | exact hi | cases hf
  have hf':s'.flat = true:=by
   unfold intoSV1 at hi'
   split at hi'
   ·obtain ⟨q,hq,rfl⟩:=Option.map_eq_some_iff.1 hi'; rfl
   ·split at hi'
    ·cases hi'; exact hf
    ·cases hi'
  rw [SR_flat hf']
  exact intoSV1_sound h hi' σ0 hl _ _

/-- The objects that are handed over. -/
def HandedO (σ:AState) (os:List Nat) (hin:List AObj):Prop:=hin.length = os.length ∧ ∀ (q o:Nat),os[q]? = some o → ∃ t cs,σ.heap[o]? = some (.cells t cs) ∧ hin[q]? = some (.cells t cs)

theorem Ent.into (hs:Sat X g σ a w) {vs:Array Value} {ss args:List SV} {os:List Nat} {hin:List AObj} (hsz:vs.size = ss.length) (hr:∀ (q:Nat) s,ss[q]? = some s → AR g w σ (vs.getD q undef) s)
  (hm:mapO (intoSV os) ss = some args) (hnd:os.Nodup) (hh:HandedO σ os hin):Ent (g.into os) w vs args hin:=by
 obtain ⟨e1,e2⟩:=mapO_at hm
 have hown:∀ {b p q},g.ow b = some p → pathInto os p = some q → (g.into os).ow b = some q:=fun h1 h2=>by simp only [Gh.into,h1,Option.bind_some,h2]
 refine ⟨by rw [hsz,e1],fun k sv hk=>?_,fun q t cs hq=>?_,fun b b' p hb hb'=>?_,fun b hb=>?_,fun b p hb=>?_,fun b p hb=>?_⟩
 ·obtain ⟨s,hs0,hi⟩:=e2 k sv hk
  exact (hr k s hs0).into hi _ hh.1 _
 ·have hlt:q < os.length:=by rw [← hh.1]; exact (List.getElem?_eq_some_iff.1 hq).1
  have ho:=List.getElem?_eq_getElem hlt
  obtain ⟨t',cs',h1,h2⟩:=hh.2 q _ ho
  rw [hq] at h2
  cases h2
  have hix:=idxOf_at hnd ho
  obtain ⟨c,k1,k2,k3,k4⟩:=hs.heap _ t cs h1
  rw [into_m ho]
  refine ⟨c,k1,hown k2 (by simp [pathInto,Root.into,hix]),k3,fun i y hy=>?_⟩
  obtain ⟨u,hu,hru⟩:=k4 i y hy
  exact ⟨u,hu,TRel.mono (g':=g.into os) (w':=w) (p:=(.cell os[q] i,[])) (r':=.cell q i) hru (fun b hb=>⟨hb,rfl⟩) fun b st hb=>⟨hown hb (by simp [pathInto,Root.into,hix]),rfl⟩⟩
 ·obtain ⟨p1,h1,h2⟩:=into_ow hb
  obtain ⟨p2,h3,h4⟩:=into_ow hb'
  rw [pathInto_inj h2 h4] at h1
  exact hs.inj b b' p2 h1 h3
 ·refine ⟨?_,(hs.frozen b hb).2⟩
  simp only [Gh.into,(hs.frozen b hb).1,Option.bind_none]
 ·obtain ⟨p1,h1,h2⟩:=into_ow hb
  exact (hs.lt b p1 h1).1
 ·obtain ⟨p1,h1,h2⟩:=into_ow hb
  rw [hh.1]
  obtain ⟨_,h3⟩:=pathInto_some h2
  rcases h3 with ⟨o,off,q,_,h4,h5⟩ | ⟨o,q,_,h4,h5⟩ <;> rw [h5] <;> exact (List.getElem?_eq_some_iff.1 (idxOf_some h4)).1

theorem goneR_names {os:List Nat} {d:Nat} {p:Path} (h:goneR os d p = false):under d p = false ∧ (pathInto os p = none ∨ ∃ o q,p = (.obj o,[]) ∧ idxOf os o = some q):=by
 obtain ⟨r,st⟩:=p
 cases r with
 | slot k j=>exact ⟨h,.inl rfl⟩
 | cell o off =>
  refine ⟨rfl,.inl ?_⟩
  have:idxOf os o = none:=by
   cases hi:idxOf os o with
   | none=>rfl
   | some q=>have:=inL_iff.2 (mem_of_idxOf hi); simp only [goneR] at h; rw [this] at h; cases h
  simp [pathInto,Root.into,this]
 | obj o =>
  refine ⟨rfl,?_⟩
  cases st with
  | cons=>cases h
  | nil =>
   cases hi:idxOf os o with
   | none=>exact .inl (by simp [pathInto,Root.into,hi])
   | some q=>exact .inr ⟨o,q,rfl,hi⟩

theorem Sat.callBack (h:Sat X g σ a w) {d:Nat} (hd:d < X.n) {os:List Nat} (hnd:os.Nodup) {hin:List AObj} (hh:HandedO σ os hin) {g':Gh} {w':World} {v:Value} {res:SV} {hout:List AObj}
  (hE:Ext (g.into os) w g' w' v res hin.length hout) (hsame:sameS hin hout = true) (hc:res.closed = true):Sat X (g.outof g' os σ.heap.length d) (σ.callBack os d res hout) (a.put (some d) v) w':=by
 have hos:∀ o ∈ os,o < σ.heap.length:=fun o ho=>by
  obtain ⟨q,hq⟩:=List.getElem?_of_mem ho
  obtain ⟨t,cs,h1,_⟩:=hh.2 q o hq
  exact (List.getElem?_eq_some_iff.1 h1).1
 have hnin:hin.length ≤ hout.length:=hE.h0
 rw [hh.1] at hnin
 have hm:∀ q o,os[q]? = some o → g'.m q = g.m o:=fun q o hq=>by
  rw [hE.m0 q (by rw [hh.1]; exact (List.getElem?_eq_some_iff.1 hq).1),into_m hq]
 have hold:∀ b,b < w.heap.size → (g.into os).ow b = none → w'.heap[b]? = w.heap[b]? ∧ g'.ow b = none:=fun b hb hn=>by
  refine ⟨hE.kept b hb hn,?_⟩
  cases hg:g'.ow b with
  | none=>rfl
  | some p =>
    rcases (hE.lt b p hg).2 with h1 | h1
    ·omega
    ·exact absurd hn h1
 have hnone:∀ {b p},g.ow b = some p → pathInto os p = none → (g.into os).ow b = none:=fun h1 h2=>by simp only [Gh.into,h1,Option.bind_some,h2]
 have hK:∀ b p,g.ow b = some p → under d p = false → pathInto os p = none → (g.outof g' os σ.heap.length d).ow b = some p ∧ w'.heap[b]? = w.heap[b]?:=fun b p hb hp hn=>by
  have h1:=hnone hb hn
  obtain ⟨h2,h3⟩:=hold b (h.lt b p hb).1 h1
  refine ⟨?_,h2⟩
  simp only [Gh.outof,h3,h1]
  exact clr_some.2 ⟨hb,hp⟩
 have hPs:∀ b,g.P b → (g.outof g' os σ.heap.length d).P b ∧ w'.heap[b]? = w.heap[b]?:=fun b hb=>by
  obtain ⟨k1,k2⟩:=h.frozen b hb
  exact ⟨hE.P1 b hb,(hold b k2 (by simp only [Gh.into,k1,Option.bind_none])).1⟩
 have hOut:∀ {b p q},g'.ow b = some p → pathOut os σ.heap.length d p = some q → (g.outof g' os σ.heap.length d).ow b = some q:=fun h1 h2=>by simp only [Gh.outof,h1,h2]
 have hmo:∀ o,o < σ.heap.length → (g.outof g' os σ.heap.length d).m o = g.m o:=fun o ho=>by
  have:Nat.blt o σ.heap.length = true:=Nat.ble_eq_true_of_le ho
  simp only [Gh.outof,this]
 have hmn:∀ q,os.length ≤ q → (g.outof g' os σ.heap.length d).m (σ.heap.length + (q - os.length)) = g'.m q:=fun q hq=>by
  have:Nat.blt (σ.heap.length + (q - os.length)) σ.heap.length = false:=by
   cases hb:Nat.blt (σ.heap.length + (q - os.length)) σ.heap.length with
   | false=>rfl
   | true=>have:=Nat.le_of_ble_eq_true hb; omega
  simp only [Gh.outof,this]
  congr 1
  omega
 have hback:∀ q,(g.outof g' os σ.heap.length d).m (backO os σ.heap.length q) = g'.m q:=fun q=>by
  rcases Nat.lt_or_ge q os.length with hq | hq
  ·have ho:=List.getElem?_eq_getElem hq
   rw [backO_some ho,hm q _ ho,hmo _ (hos _ (List.mem_of_getElem? ho))]
  ·rw [backO_none hq,hmn q hq]
 have hlen:(σ.callBack os d res hout).heap.length = σ.heap.length + (hout.length - os.length):=by
  simp only [AState.callBack,List.length_append,backHeap_length,List.length_drop]
 have hget:∀ k,(σ.callBack os d res hout).get k = if k = d then outSV os σ.heap.length res else (σ.get k).drop (goneR os d):=fun k=>by
  show lookS ((d,outSV os σ.heap.length res) :: (σ.drop (goneR os d)).env) k = _
  simp only [lookS]
  by_cases hk:k = d
  ·subst hk; simp
  ·rw [if_neg hk]
   rw [beq_ne (fun e=>hk e.symm)]
   exact get_drop σ (goneR os d) k
 have hheapO:∀ o,o < σ.heap.length → (σ.callBack os d res hout).heap[o]? = (backHeap os hout σ.heap 0)[o]?:=fun o ho=>by
  simp only [AState.callBack]
  rw [List.getElem?_append_left (by rw [backHeap_length]; exact ho)]
 have hroot:∀ p:Path,goneR os d p = false → ∀ y,σ.rootTV p.1 = some y → (σ.callBack os d res hout).rootTV p.1 = some y:=fun p hp y hy=>by
  obtain ⟨r,st⟩:=p
  cases r with
  | slot k j =>
   have hk:k ≠ d:=by rintro rfl; simp [goneR] at hp
   have:=rootTV_of_drop (σ:=σ) (σ':=σ.callBack os d res hout) (R:=goneR os d) (k:=k) (j:=j) (by rw [hget,if_neg hk])
   rw [← hy]; exact this
  | cell o off =>
   have hi:idxOf os o = none:=by
    cases hi:idxOf os o with
    | none=>rfl
    | some q=>have:=inL_iff.2 (mem_of_idxOf hi); simp only [goneR] at hp; rw [this] at hp; cases hp
   simp only [AState.rootTV] at hy ⊢
   split at hy
   ·rename_i t cs hh0
    rw [hheapO o (List.getElem?_eq_some_iff.1 hh0).1,backHeap_get,hh0]
    simp only [Nat.zero_add,hi,Option.map_some]
    exact hy
   ·cases hy
  | obj o=>exact hy
 have hO:∀ q o,os[q]? = some o → ∃ t c c',w.heap[g.m o]? = some (.cells c t (0,0)) ∧ g.ow (g.m o) = some (.obj o,[]) ∧ w'.heap[g.m o]? = some (.cells c' t (0,0)) ∧ c'.size = c.size ∧ (g.outof g' os σ.heap.length d).ow (g.m o) = some (.obj o,[]):=fun q o hq=>by
  obtain ⟨t,cs,h1,h2⟩:=hh.2 q o hq
  obtain ⟨cs',h3,h4⟩:=sameS_at hsame q t cs h2
  obtain ⟨c,k1,k2,k3,_⟩:=h.heap o t cs h1
  obtain ⟨c',l1,l2,l3,_⟩:=hE.heap q t cs' h3
  rw [hm q o hq] at l1 l2
  exact ⟨t,c,c',k1,k2,l1,by rw [k3,l3,h4],hOut l2 (by simp [pathOut,Root.outof,backO_some hq])⟩
 have hinv:∀ b p,(g.outof g' os σ.heap.length d).ow b = some p → (∃ p',g'.ow b = some p' ∧ pathOut os σ.heap.length d p' = some p) ∨ (g.ow b = some p ∧ under d p = false ∧ pathInto os p = none):=fun b p hb=>by
  simp only [Gh.outof] at hb
  split at hb
  ·rename_i p' hp'; exact .inl ⟨p',hp',hb⟩
  ·split at hb
   ·cases hb
   ·rename_i h1
    obtain ⟨h2,h3⟩:=clr_some.1 hb
    refine .inr ⟨h2,h3,?_⟩
    simp only [Gh.into,h2,Option.bind_some] at h1
    exact h1
 have hclash:∀ p' p,pathOut os σ.heap.length d p' = some p → under d p = false → pathInto os p = none → p.1.idOk σ.heap.length → False:=fun p' p h1 h2 h3 h4=>by
  obtain ⟨r,st⟩:=p
  have key:∀ q,(∃ o,os[q]? = some o ∧ backO os σ.heap.length q = o ∧ idxOf os o = some q) ∨ σ.heap.length ≤ backO os σ.heap.length q:=fun q=>by
   rcases Nat.lt_or_ge q os.length with hq | hq
   ·have ho:=List.getElem?_eq_getElem hq
    exact .inl ⟨_,ho,backO_some ho,idxOf_at hnd ho⟩
   ·exact .inr (by rw [backO_none hq]; omega)
  rcases (pathOut_some h1).2 with ⟨j,_,e⟩ | ⟨q,off,_,e⟩ | ⟨q,_,e⟩
  ·simp only at e; subst e; simp [under] at h2
  ·simp only at e; subst e
   rcases key q with ⟨o,k1,k2,k3⟩ | k1
   ·rw [k2] at h3; simp [pathInto,Root.into,k3] at h3
   ·simp only [Root.idOk] at h4; omega
  ·simp only at e; subst e
   rcases key q with ⟨o,k1,k2,k3⟩ | k1
   ·rw [k2] at h3; simp [pathInto,Root.into,k3] at h3
   ·simp only [Root.idOk] at h4; omega
 have hts:a.tmps.size = X.n:=h.size
 refine ⟨h.defers,by simp only [Act.put,Array.size_setIfInBounds]; exact hts,fun k=>?_,fun o t cs ho=>?_,fun b b' p hb hb'=>?_,fun b hb=>?_,fun b p hb=>?_,fun b p hb=>?_,fun b hb=>?_,fun b hb=>hE.P1 b (h.P1 b hb),fun b hb h0=>?_,hE.os.trans h.os,hE.tape.trans h.tape,hE.output.trans h.output,Nat.le_trans h.mono hE.mono,fun o ho=>?_,?_⟩
 ·-- slots
  rw [tmps_put _ _ _ _ (by omega),hget]
  by_cases hk:k = d
  ·subst hk
   simp only [if_true]
   have one:∀ j u s,S1 g' w' ⟨[(0,res)],hout⟩ 0 j u s → (∀ p,s.names1 (· = p) = true → ∃ o,p.1 = .obj o) → S1 (g.outof g' os σ.heap.length k) w' (σ.callBack os k res hout) k j u (outSV1 os σ.heap.length s):=fun j u s hs hcl=>by
    cases s with
    | junk=>trivial
    | tv x=>exact TRel.mono (g':=g.outof g' os σ.heap.length k) (w':=w') (p:=(.slot 0 j,[])) (r':=.slot k j) hs (fun b hb=>⟨hb,rfl⟩) fun b st hb=>⟨hOut hb rfl,rfl⟩
    | agg cs =>
     obtain ⟨vs,rfl,hsz,hcs⟩:=hs
     refine ⟨vs,rfl,hsz,fun i y hy=>?_⟩
     obtain ⟨u,hu,hr⟩:=hcs i y hy
     exact ⟨u,hu,TRel.mono (g':=g.outof g' os σ.heap.length k) (w':=w') (p:=(.slot 0 i,[])) (r':=.slot k i) hr (fun b hb=>⟨hb,rfl⟩) fun b st hb=>⟨hOut hb rfl,rfl⟩⟩
    | tup=>exact hs.elim
    | fn=>exact hs.elim
    | pc q off =>
     obtain ⟨h1,h2⟩:=hs
     refine ⟨by rw [hback]; exact h1,?_⟩
     rw [hlen]
     simp only at h2
     rcases Nat.lt_or_ge q os.length with hq | hq
     ·have ho:=List.getElem?_eq_getElem hq
      rw [backO_some ho]
      have:=hos _ (List.mem_of_getElem? ho)
      omega
     ·rw [backO_none hq]; omega
    | rp cs=>exact hs
    | rpc q off=>trivial
    | pe p i j z=>obtain ⟨o,ho⟩:=hcl p (by simp [SV.names1]); obtain ⟨b,e,n,f,hl,_⟩:=hs; rw [show p = (.obj o,p.2) from by rw [← ho],look_obj] at hl; cases hl
    | pa p i j m q z=>obtain ⟨o,ho⟩:=hcl p (by simp [SV.names1]); obtain ⟨b,e,n,f,hl,_⟩:=hs; rw [show p = (.obj o,p.2) from by rw [← ho],look_obj] at hl; cases hl
    | cut p lo m=>obtain ⟨o,ho⟩:=hcl p (by simp [SV.names1]); obtain ⟨z,e,n,f,A,cap,hl,_⟩:=hs; rw [show p = (.obj o,p.2) from by rw [← ho],look_obj] at hl; cases hl
    | ml p=>obtain ⟨o,ho⟩:=hcl p (by simp [SV.names1]); obtain ⟨b,_,_,hl⟩:=hs; exact absurd ho (hl o)
    | al p=>obtain ⟨o,ho⟩:=hcl p (by simp [SV.names1]); obtain ⟨z,e,n,f,hl,_⟩:=hs; rw [show p = (.obj o,p.2) from by rw [← ho],look_obj] at hl; cases hl
   have hres:=hE.res
   rcases res.three with ⟨vs,rfl⟩ | ⟨f,vs,rfl⟩ | hf
   ·obtain ⟨us,rfl,hsz,hcs⟩:=hres
    refine ⟨us,rfl,by simp [hsz],fun j sv hj=>?_⟩
    rw [List.getElem?_map] at hj
    obtain ⟨s,hs0,rfl⟩:=Option.map_eq_some_iff.1 hj
    obtain ⟨u,hu,hr⟩:=hcs j s hs0
    exact ⟨u,hu,one j u s hr fun p hp=>closed_obj hc (by simp only [SV.names,List.any_eq_true]; exact ⟨s,List.mem_of_getElem? hs0,hp⟩)⟩
   ·obtain ⟨us,rfl,hsz,hcs⟩:=hres
    refine ⟨us,rfl,by simp [hsz],fun j sv hj=>?_⟩
    rw [List.getElem?_map] at hj
    obtain ⟨s,hs0,rfl⟩:=Option.map_eq_some_iff.1 hj
    obtain ⟨u,hu,hr⟩:=hcs j s hs0
    exact ⟨u,hu,one j u s hr fun p hp=>closed_obj hc (by simp only [SV.names,List.any_eq_true]; exact ⟨s,List.mem_of_getElem? hs0,hp⟩)⟩
   ·rw [SR_flat hf] at hres
    have e1:outSV os σ.heap.length res = outSV1 os σ.heap.length res:=by cases res <;> first | rfl | cases hf
    have hf':(outSV1 os σ.heap.length res).flat = true:=by cases res <;> first | rfl | cases hf
    rw [e1,SR_flat hf']
    exact one 0 v res hres fun p hp=>closed_obj hc (by rw [names_flat hf]; exact hp)
  ·rw [if_neg hk,if_neg hk]
   refine ((h.env k).drop (goneR os d)).mono ⟨hPs,fun j b st hb=>hK b _ hb (under_slot hk j st) rfl⟩ fun p hp=>?_
   obtain ⟨x,hx,he⟩:=(names_drop hp).2
   obtain rfl:x = p:=by simpa using he
   obtain ⟨hu,hi⟩:=goneR_names hx
   refine ⟨fun b hb=>?_,fun z e n f hl=>⟨f,look_imp (hroot x hx) x.2 hl⟩,fun o he' hlt=>⟨hmo o hlt,by rw [hlen]; omega⟩⟩
   rcases hi with hi | ⟨o,q,rfl,hi⟩
   ·obtain ⟨k1,k2⟩:=hK b x hb hu hi
    exact ⟨k1,fun c e hc'=>⟨c,hc'.eq k2,rfl⟩⟩
   ·obtain ⟨t,c,c',k1,k2,k3,k4,k5⟩:=hO q o (idxOf_some hi)
    obtain rfl:b = g.m o:=h.inj b (g.m o) _ hb k2
    refine ⟨k5,fun c0 e hc'=>?_⟩
    obtain ⟨fr,hc1,hc2⟩:=hc'
    rw [k1] at hc1
    injection hc1 with hc1
    injection hc1 with e1 e2 e3
    subst e1 e2 e3
    exact ⟨c',Row.of k3,k4⟩
 ·-- objects
  by_cases hlt:o < σ.heap.length
  ·rw [hheapO o hlt,backHeap_get,Nat.zero_add] at ho
   obtain ⟨x,hx,he⟩:=Option.map_eq_some_iff.1 ho
   cases hi:idxOf os o with
   | some q =>
    have hq:=idxOf_some hi
    rw [hi] at he
    simp only at he
    split at he
    ·rename_i y hy
     subst he
     obtain ⟨c,k1,k2,k3,k4⟩:=hE.heap q t cs hy
     rw [hm q o hq] at k1 k2
     rw [hmo o hlt]
     refine ⟨c,k1,hOut k2 (by simp [pathOut,Root.outof,backO_some hq]),k3,fun i y hy=>?_⟩
     obtain ⟨u,hu,hr⟩:=k4 i y hy
     exact ⟨u,hu,TRel.mono (g':=g.outof g' os σ.heap.length d) (w':=w') (p:=(.cell q i,[])) (r':=.cell o i) hr (fun b hb=>⟨hb,rfl⟩) fun b st hb=>⟨hOut hb (by simp [pathOut,Root.outof,backO_some hq]),rfl⟩⟩
    ·cases he
   | none =>
    rw [hi] at he
    simp only at he
    subst he
    obtain ⟨c,k1,k2,k3,k4⟩:=h.heap o t cs hx
    rw [hmo o hlt]
    have hn1:∀ st,pathInto os (.obj o,st) = none:=fun st=>by simp [pathInto,Root.into,hi]
    have hn2:∀ i st,pathInto os (.cell o i,st) = none:=fun i st=>by simp [pathInto,Root.into,hi]
    obtain ⟨l1,l2⟩:=hK _ _ k2 rfl (hn1 [])
    refine ⟨c,l2.trans k1,l1,k3,fun i y hy=>?_⟩
    obtain ⟨u,hu,hr⟩:=k4 i y hy
    exact ⟨u,hu,TRel.mono (p:=(.cell o i,[])) hr hPs fun b st hb=>hK b _ hb rfl (hn2 i st)⟩
  ·have hge:=Nat.le_of_not_lt hlt
   simp only [AState.callBack] at ho
   rw [List.getElem?_append_right (by rw [backHeap_length]; exact hge),backHeap_length,List.getElem?_drop] at ho
   obtain ⟨q,rfl,hq⟩:∃ q,o = σ.heap.length + (q - os.length) ∧ os.length ≤ q:=⟨os.length + (o - σ.heap.length),by omega,by omega⟩
   rw [show os.length + (σ.heap.length + (q - os.length) - σ.heap.length) = q by omega] at ho
   obtain ⟨c,k1,k2,k3,k4⟩:=hE.heap q t cs ho
   rw [hmn q hq]
   refine ⟨c,k1,hOut k2 (by simp [pathOut,Root.outof,backO_none hq]),k3,fun i y hy=>?_⟩
   obtain ⟨u,hu,hr⟩:=k4 i y hy
   exact ⟨u,hu,TRel.mono (g':=g.outof g' os σ.heap.length d) (w':=w') (p:=(.cell q i,[])) (r':=.cell (σ.heap.length + (q - os.length)) i) hr (fun b hb=>⟨hb,rfl⟩) fun b st hb=>⟨hOut hb (by simp [pathOut,Root.outof,backO_none hq]),rfl⟩⟩
 ·rcases hinv b p hb with ⟨p1,h1,h2⟩ | ⟨h1,h2,h3⟩ <;> rcases hinv b' p hb' with ⟨p2,h4,h5⟩ | ⟨h4,h5,h6⟩
  ·rw [pathOut_inj hnd hos h2 h5] at h1
   exact hE.inj b b' p2 h1 h4
  ·exact (hclash p1 p h2 h5 h6 (h.ids _ _ h4)).elim
  ·exact (hclash p2 p h5 h2 h3 (h.ids _ _ h1)).elim
  ·exact h.inj b b' p h1 h4
 ·obtain ⟨k1,k2⟩:=hE.frozen b hb
  refine ⟨?_,k2⟩
  simp only [Gh.outof,k1]
  split
  ·rfl
  ·rename_i h1
   refine clr_none ?_
   rcases hE.P0 b hb with h2 | h2 | h2
   ·exact (h.frozen b h2).1
   ·cases hg:g.ow b with
    | none=>rfl
    | some p=>have:=(h.lt b p hg).1; omega
   ·exact absurd h1 h2
 ·rcases hinv b p hb with ⟨p1,h1,h2⟩ | ⟨h1,h2,h3⟩
  ·obtain ⟨k1,k2⟩:=hE.lt b p1 h1
   refine ⟨k1,?_⟩
   rcases k2 with k2 | k2
   ·exact .inl (Nat.le_trans h.mono k2)
   ·cases hg:(g.into os).ow b with
    | none=>exact absurd hg k2
    | some p0=>obtain ⟨p2,h3,_⟩:=into_ow hg; exact (h.lt b p2 h3).2
  ·exact ⟨Nat.lt_of_lt_of_le (h.lt b p h1).1 hE.mono,(h.lt b p h1).2⟩
 ·rw [hlen]
  rcases hinv b p hb with ⟨p1,h1,h2⟩ | ⟨h1,h2,h3⟩
  ·have hid:=hE.ids b p1 h1
   have key:∀ q,q < hout.length → backO os σ.heap.length q < σ.heap.length + (hout.length - os.length):=fun q hq0=>by
    rcases Nat.lt_or_ge q os.length with hq | hq
    ·have ho:=List.getElem?_eq_getElem hq
     rw [backO_some ho]
     have:=hos _ (List.mem_of_getElem? ho)
     omega
    ·rw [backO_none hq]; omega
   rcases (pathOut_some h2).2 with ⟨j,_,e⟩ | ⟨q,off,e0,e⟩ | ⟨q,e0,e⟩ <;> rw [e]
   ·trivial
   ·rw [e0] at hid; exact key q hid
   ·rw [e0] at hid; exact key q hid
  ·have:=h.ids b p h1
   cases hp:p.1 with
   | slot=>trivial
   | cell o off=>rw [hp] at this; simp only [Root.idOk] at this ⊢; omega
   | obj o=>rw [hp] at this; simp only [Root.idOk] at this ⊢; omega
 ·rcases hE.P0 b hb with h1 | h1 | h1
  ·exact h.P0 b h1
  ·exact .inr (.inl (Nat.le_trans h.mono h1))
  ·cases hg:(g.into os).ow b with
   | none=>exact absurd hg h1
   | some p0=>obtain ⟨p2,h3,_⟩:=into_ow hg; exact .inr (h.lt b p2 h3).2
 ·have hg:g.ow b = none:=by
   cases hg:g.ow b with
   | none=>rfl
   | some q =>
    rcases (h.lt b q hg).2 with h2 | h2
    ·exact absurd hb (Nat.not_lt.2 h2)
    ·exact absurd h0 h2
  exact (hE.kept b (Nat.lt_of_lt_of_le hb h.mono) (by simp only [Gh.into,hg,Option.bind_none])).trans (h.kept b hb h0)
 ·rw [hmo o (Nat.lt_of_lt_of_le ho h.h0)]; exact h.m0 o ho
 ·rw [hlen]; have:=h.h0; omega
end

def handed (σ:AState):List Nat → Option (List AObj)
 | []=>some []
 | o :: r=>match σ.heap[o]?,handed σ r with | some (.cells t cs),some l=>some (.cells t cs :: l) | _,_=>none

theorem handed_at {σ:AState}:∀ {os:List Nat} {hin:List AObj},handed σ os = some hin → HandedO σ os hin
 | [],hin,h=>by cases h; exact ⟨rfl,fun q o hq=>by simp at hq⟩
 | o :: r,hin,h=>by
  simp only [handed] at h
  split at h
  ·rename_i t cs l h1 h2
   cases h
   obtain ⟨k1,k2⟩:=handed_at h2
   refine ⟨by simp [k1],fun q o' hq=>?_⟩
   cases q with
   | zero=>simp only [List.getElem?_cons_zero,Option.some.injEq] at hq ⊢; subst hq; exact ⟨t,cs,h1,rfl⟩
   | succ q=>simp only [List.getElem?_cons_succ] at hq ⊢; exact k2 q o' hq
  ·cases h

section
variable {F:Cfg} {Q:Exit → AState → Prop} {σ:AState}

/-- A call that is handed objects, or hands back new ones. -/
theorem AOne.callO {ops:Array Oper} {i:Nat} {as:Array Operand} {ts:Array TypeId} {x:Operand} (o:Oper) (ho:ops[i]? = some o) (hop:o.op = .call { callee:=.value x,args:=as,argTypes:=ts }) (hg:guardV ops σ o = some true)
  (d:Nat) (hd:o.dst = some d) (hlt:Nat.blt d F.n = true) (f:FuncId) (caps:List SV) (hx:σ.ev x = .fn f caps) (hf:Fn F.P f) (os:List Nat) (hnd:os.Nodup) (args:List SV) (ha:mapO (intoSV os) (evs σ as.toList ++ caps) = some args) (hin:List AObj) (hh:handed σ os = some hin) {res:SV} {hout:List AObj}
  (hcall:ACall F.P f args hin res hout) (hsame:sameS hin hout = true) (hc:res.closed = true) (σ':AState) (he:σ.callBack os d res hout = σ'):AOne F ops i σ σ':=fun w0 g0 g a w hs K Q h=>by
 subst he
 simp only [wpOp,ho]
 rw [if_pos (guardV_sound hs hg)]
 left
 obtain ⟨us,hxv,hsz,hr⟩:=args_rel hs (as:=as) hx
 unfold Oper.wp
 rw [run_call hf hop hxv,Oper.upon_enter]
 refine Calls.mono (hcall _ w _ (Ent.into hs hsz hr ha hnd (handed_at hh))) ?_
 rintro e w' ⟨v,g',rfl,hE⟩
 have hd':d < (F.ctx w0 g0).n:=Nat.le_of_ble_eq_true hlt
 rw [hd]
 exact h _ _ w' (hs.callBack hd' hnd (handed_at hh) hE hsame hc)
end
end Go.Sx

namespace Go.Sx
open Go

/-- The value that lies at a root. -/
def VAt (g:Gh) (σ:AState) (a:Act) (w:World) (u:Value):Root → Prop
 | .slot k j=>match σ.get k with
  | .agg _=>∃ vs,a.tmps.getD k undef = .agg vs ∧ vs[j]? = some u
  | .tup _=>∃ us,a.tmps.getD k undef = .tuple us ∧ us[j]? = some u
  | .fn _ _=>False
  | _=>j = 0 ∧ a.tmps.getD k undef = u
 | .cell o i=>o < σ.heap.length ∧ ∃ c t fr,w.heap[g.m o]? = some (.cells c t fr) ∧ c[i]? = some u
 | .obj _=>False

def Root.beq:Root → Root → Bool
 | .slot k j,.slot k' j'=>Nat.beq k k' && Nat.beq j j'
 | .cell o i,.cell o' i'=>Nat.beq o o' && Nat.beq i i'
 | .obj o,.obj o'=>Nat.beq o o'
 | _,_=>false

theorem Root.beq_iff {r r':Root}:r.beq r' = true ↔ r = r':=by
 cases r <;> cases r' <;> simp [Root.beq]

theorem Root.beq_false {r r':Root}:r.beq r' = false ↔ r ≠ r':=by
 rw [← Bool.not_eq_true,Root.beq_iff]

/-- The labels at r go to r'. -/
def Gh.mvR (g:Gh) (r r':Root):Gh :=
 { g with ow:=fun b=>match g.ow b with
  | some p=>(match p.1.beq r with | true=>some (r',p.2) | false=>(match p.1.beq r' with | true=>none | false=>some p))
  | none=>none }

theorem mvR_from {g:Gh} {r r':Root} {b:Nat} {st:Steps} (h:g.ow b = some (r,st)):(g.mvR r r').ow b = some (r',st):=by
 have:r.beq r = true:=Root.beq_iff.2 rfl
 simp only [Gh.mvR,h,this]

theorem mvR_else {g:Gh} {r r':Root} {b:Nat} {p:Path} (h:g.ow b = some p) (h1:p.1 ≠ r) (h2:p.1 ≠ r'):(g.mvR r r').ow b = some p:=by
 simp only [Gh.mvR,h,Root.beq_false.2 h1,Root.beq_false.2 h2]

theorem mvR_inv {g:Gh} {r r':Root} {b:Nat} {p:Path} (h:(g.mvR r r').ow b = some p):(g.ow b = some (r,p.2) ∧ p.1 = r') ∨ (g.ow b = some p ∧ p.1 ≠ r ∧ p.1 ≠ r'):=by
 simp only [Gh.mvR] at h
 split at h
 ·rename_i q hq
  split at h
  ·rename_i e
   cases h
   obtain ⟨q1,q2⟩:=q
   have:=Root.beq_iff.1 e
   simp only at this
   subst this
   exact .inl ⟨hq,rfl⟩
  ·rename_i e
   split at h
   ·cases h
   ·rename_i e'
    cases h
    exact .inr ⟨hq,Root.beq_false.1 e,Root.beq_false.1 e'⟩
 ·cases h

def atR (r r':Root) (p:Path):Bool:=p.1.beq r || p.1.beq r'

theorem atR_false {r r':Root} {p:Path} (h:atR r r' p = false):p.1 ≠ r ∧ p.1 ≠ r':=by
 simp only [atR,Bool.or_eq_false_iff] at h
 exact ⟨Root.beq_false.1 h.1,Root.beq_false.1 h.2⟩

/-- A slot's value without component j. -/
def voidSV (j:Nat):SV → SV
 | .agg cs=>.agg (cs.set j .hole)
 | .tup vs=>match vs.all SV.tvOrPure with | true=>.tup (vs.set j .junk) | false=>.junk
 | _=>.junk

/-- A slot's value with x as component j. -/
def fillSV (j:Nat) (x:TV):SV → SV
 | .agg cs=>.agg (cs.set j x)
 | .tup _=>.junk
 | .fn _ _=>.junk
 | _=>match j with | 0=>.tv x | _=>.junk

def AState.void (σ:AState):Root → AState
 | .slot k j=>σ.set k (voidSV j (σ.get k))
 | .cell o i=>{ σ with heap:=setCells σ.heap o (fun cs=>cs.set i .hole) }
 | .obj _=>σ

def AState.fill (σ:AState) (x:TV):Root → AState
 | .slot k j=>σ.set k (fillSV j x (σ.get k))
 | .cell o i=>{ σ with heap:=setCells σ.heap o (fun cs=>cs.set i x) }
 | .obj _=>σ

def AState.give (σ:AState) (r r':Root) (x:TV):AState:=((σ.drop (atR r r')).void r).fill x r'

def apartR:Root → Root → Bool
 | .slot k _,.slot k' _=>!Nat.beq k k'
 | .cell o i,.cell o' i'=>!(Nat.beq o o' && Nat.beq i i')
 | .obj _,_=>false
 | _,.obj _=>false
 | _,_=>true

theorem apartR_ne {r r':Root} (h:apartR r r' = true):r ≠ r':=by
 rintro rfl
 cases r <;> simp [apartR] at h

section
variable {X:Ctx} {g:Gh} {σ:AState} {a:Act} {w:World}

theorem get_void (σ:AState) (r:Root) (k:Nat):(σ.void r).get k = match r with | .slot s j=>if k = s then voidSV j (σ.get s) else σ.get k | _=>σ.get k:=by
 cases r with
 | slot s j=>simp only [AState.void,get_set]
 | cell o i=>rfl
 | obj o=>rfl

theorem get_fill (σ:AState) (x:TV) (r:Root) (k:Nat):(σ.fill x r).get k = match r with | .slot s j=>if k = s then fillSV j x (σ.get s) else σ.get k | _=>σ.get k:=by
 cases r with
 | slot s j=>simp only [AState.fill,get_set]
 | cell o i=>rfl
 | obj o=>rfl

theorem TRel.else (g:Gh) {w:World} {r r':Root} {p:Path} {v:Value} {y:TV} (h:TRel g w p v y) (h1:p.1 ≠ r) (h2:p.1 ≠ r'):TRel (g.mvR r r') w p v y:=by
 obtain ⟨q,st⟩:=p
 exact TRel.mono (g':=g.mvR r r') (w':=w) (p:=(q,st)) (r':=q) h (fun b hb=>⟨hb,rfl⟩) fun b st' hb=>⟨mvR_else hb h1 h2,rfl⟩

theorem TRel.moved (g:Gh) {w:World} {r r':Root} {v:Value} {y:TV} (h:TRel g w (r,[]) v y):TRel (g.mvR r r') w (r',[]) v y :=
 TRel.mono (g':=g.mvR r r') (w':=w) (p:=(r,[])) (r':=r') h (fun b hb=>⟨hb,rfl⟩) fun b st' hb=>⟨mvR_from hb,rfl⟩

/-- A slot's value at a place. -/
def SV.at (sv:SV) (j:Nat):Option TV:=match sv with
 | .tv x=>match j with | 0=>some x | _=>none
 | .agg cs=>cs[j]?
 | .tup vs=>tupAt vs j
 | _=>none

theorem rootTV_slot (σ:AState) (k j:Nat):σ.rootTV (.slot k j) = (σ.get k).at j:=rfl

def okV (j0:Nat):SV → Prop
 | .tv _=>j0 = 0 | .agg _=>True | .tup vs=>vs.all SV.tvOrPure = true | _=>False

def okF (j0:Nat):SV → Prop
 | .agg _=>True | .tup _=>False | .fn _ _=>False | _=>j0 = 0

def okVoid (σ:AState):Root → Prop
 | .slot s j=>okV j (σ.get s)
 | .cell _ _=>True
 | .obj _=>False

def okFill (σ:AState):Root → Prop
 | .slot d j=>okF j (σ.get d)
 | .cell _ _=>True
 | .obj _=>False

theorem at_drop {R:Path → Bool} {sv:SV} {j:Nat}:(sv.drop R).at j = sv.at j:=by
 rcases sv.three with ⟨vs,rfl⟩ | ⟨f,vs,rfl⟩ | hf
 ·exact tupAt_drop R vs j
 ·rfl
 ·rw [drop_flat hf]
  unfold SV.drop1
  split
  ·rename_i h; cases sv <;> simp [SV.names1] at h <;> rfl
  ·rfl

theorem void_at {j j0:Nat} {sv:SV} {y:TV} (hj:j ≠ j0) (h:sv.at j = some y) (hok:okV j0 sv):(voidSV j0 sv).at j = some y:=by
 cases sv with
 | agg cs=>simp only [voidSV,SV.at] at h ⊢; rw [List.getElem?_set_ne (Ne.symm hj)]; exact h
 | tup vs =>
  simp only [okV,okF] at hok
  simp only [voidSV,hok,SV.at,tupAt] at h ⊢
  rw [List.getElem?_set_ne (Ne.symm hj)]; exact h
 | tv z =>
  simp only [okV,okF] at hok
  subst hok
  cases j with
  | zero=>exact absurd rfl hj
  | succ j=>cases h
 | _=>exact hok.elim

theorem fill_at {j j0:Nat} {sv:SV} {x y:TV} (hj:j ≠ j0) (h:sv.at j = some y) (hok:okF j0 sv):(fillSV j0 x sv).at j = some y:=by
 cases sv with
 | agg cs=>simp only [fillSV,SV.at] at h ⊢; rw [List.getElem?_set_ne (Ne.symm hj)]; exact h
 | tup vs=>exact hok.elim
 | tv z =>
  simp only [okV,okF] at hok
  subst hok
  cases j with
  | zero=>exact absurd rfl hj
  | succ j=>cases h
 | _=>cases h

theorem okV_drop {R:Path → Bool} {sv:SV} {j0:Nat} (hok:okV j0 sv):okV j0 (sv.drop R):=by
 cases sv with
 | agg cs=>exact hok
 | tv z=>exact hok
 | tup vs =>
  simp only [okV,SV.drop,List.all_eq_true,List.mem_map] at hok ⊢
  rintro s ⟨s0,hs0,rfl⟩
  unfold SV.drop1
  split
  ·rfl
  ·exact hok s0 hs0
 | _=>exact hok.elim

theorem okF_drop {R:Path → Bool} {sv:SV} {j0:Nat} (hok:okF j0 sv):okF j0 (sv.drop R):=by
 cases sv with
 | tup vs=>exact hok.elim
 | fn f vs=>exact hok.elim
 | agg cs=>exact hok
 | tv z=>exact hok
 | junk=>exact hok
 | rp cs=>exact hok
 | pc o off=>unfold SV.drop SV.drop1; simp only; split <;> exact hok
 | rpc o off=>unfold SV.drop SV.drop1; simp only; split <;> exact hok
 | pe p i j z=>unfold SV.drop SV.drop1; simp only; split <;> exact hok
 | pa p i j m q z=>unfold SV.drop SV.drop1; simp only; split <;> exact hok
 | al p=>unfold SV.drop SV.drop1; simp only; split <;> exact hok
 | ml p=>unfold SV.drop SV.drop1; simp only; split <;> exact hok
 | cut p lo m=>unfold SV.drop SV.drop1; simp only; split <;> exact hok

def cellAt (h:List AObj) (o i:Nat):Option TV:=match h[o]? with | some (.cells _ cs)=>cs[i]? | _=>none

theorem rootTV_cell (σ:AState) (o i:Nat):σ.rootTV (.cell o i) = cellAt σ.heap o i:=rfl

def setRootH (h:List AObj) (z:TV):Root → List AObj
 | .cell o1 i1=>setCells h o1 (fun cs=>cs.set i1 z)
 | _=>h

theorem cellAt_set {h:List AObj} {q:Root} {z y:TV} {o i:Nat} (hq:q ≠ .cell o i) (hh:cellAt h o i = some y):cellAt (setRootH h z q) o i = some y:=by
 cases q with
 | slot s j=>exact hh
 | obj o=>exact hh
 | cell o1 i1 =>
  simp only [setRootH]
  unfold cellAt at hh ⊢
  by_cases hoo:o = o1
  ·subst hoo
   split at hh
   ·rename_i t1 c1 hc1
    rw [setCells_eq _ hc1]
    simp only
    rw [List.getElem?_set_ne (fun e=>hq (by rw [e]))]
    exact hh
   ·cases hh
  ·rw [setCells_ne _ _ _ _ hoo]; exact hh

theorem give_heap (σ:AState) (r r':Root) (x:TV):(σ.give r r' x).heap = setRootH (setRootH σ.heap .hole r) x r':=by cases r <;> cases r' <;> rfl

theorem S1.named {g':Gh} {w':World} {σ':AState} {k j k' j':Nat} {v:Value} {s:SV} (h:S1 g w σ k j v s) (hs:match s with | .pc .. | .pe .. | .pa .. | .al _ | .ml _ | .cut ..=>True | _=>False) (N:∀ r,s.names1 (· = r) = true → Names g g' w w' σ σ' r):S1 g' w' σ' k' j' v s:=by
 cases s with
 | pc o off =>
  obtain ⟨h1,h2⟩:=(N (.obj o,[]) (by simp [SV.names1])).2.2 o rfl h.2
  exact ⟨by rw [h1]; exact h.1,h2⟩
 | pe p i j z =>
  obtain ⟨b,e,n,f,hl,hi,hb,hv⟩:=h
  obtain ⟨N1,N2,_⟩:=N p (by simp [SV.names1])
  obtain ⟨f',hl'⟩:=N2 z e n f hl
  exact ⟨b,e,n,f',hl',hi,(N1 b hb).1,hv⟩
 | pa p i j m q z =>
  obtain ⟨b,e,n,f,hl,hi,hb,hv⟩:=h
  obtain ⟨N1,N2,_⟩:=N p (by simp [SV.names1])
  obtain ⟨f',hl'⟩:=N2 z e n f hl
  exact ⟨b,e,n,f',hl',hi,(N1 b hb).1,hv⟩
 | ml p =>
  obtain ⟨b,hb,hv⟩:=h
  exact ⟨b,((N p (by simp [SV.names1])).1 b hb).1,hv⟩
 | cut p lo m =>
  obtain ⟨z,e,n,f,A,cap,hl,hle,hv,hm⟩:=h
  obtain ⟨N1,N2,_⟩:=N p (by simp [SV.names1])
  obtain ⟨f',hl'⟩:=N2 z e n f hl
  refine ⟨z,e,n,f',A,cap,hl',hle,hv,?_⟩
  rcases hm with hm | ⟨b,cap0,c,hb,hA,hh,hc,h1,h2⟩
  ·exact .inl hm
  ·obtain ⟨hb',hc'⟩:=N1 b hb
   obtain ⟨c',hh',hs'⟩:=hc' c e hh
   exact .inr ⟨b,cap0,c',hb',hA,hh',by rw [hs',hc],h1,h2⟩
 | al p =>
  obtain ⟨z,e,n,f,hl,hv⟩:=h
  obtain ⟨N1,N2,_⟩:=N p (by simp [SV.names1])
  obtain ⟨f',hl'⟩:=N2 z e n f hl
  refine ⟨z,e,n,f',hl',?_⟩
  rcases hv with hv | ⟨b,cap,c,hb,hv,hh,hc,h1,h2⟩
  ·exact .inl hv
  ·obtain ⟨hb',hc'⟩:=N1 b hb
   obtain ⟨c',hh',hs'⟩:=hc' c e hh
   exact .inr ⟨b,cap,c',hb',hv,hh',by rw [hs',hc],h1,h2⟩
 | _=>exact hs.elim

theorem root_val (h:Sat X g σ a w) {r:Root} {x:TV} {u:Value} (hx:σ.rootTV r = some x) (hv:VAt g σ a w u r):TRel g w (r,[]) u x:=by
 cases r with
 | obj o=>exact hv.elim
 | cell o i =>
  obtain ⟨_,c,t,fr,hc1,hc2⟩:=hv
  rw [rootTV_cell] at hx
  unfold cellAt at hx
  split at hx
  ·rename_i t1 c1 hh1
   obtain ⟨c',k1,k2,k3,k4⟩:=h.heap o t1 c1 hh1
   obtain ⟨u',k5,k6⟩:=k4 i x hx
   rw [k1] at hc1
   cases hc1
   rw [k5] at hc2
   cases hc2
   exact k6
  ·cases hx
 | slot s j =>
  have hk:=h.env s
  rw [rootTV_slot] at hx
  simp only [VAt] at hv
  revert hk hx hv
  generalize σ.get s = sv
  intro hx hv hk
  cases sv with
  | tv y =>
   obtain ⟨rfl,rfl⟩:=hv
   simp only [SV.at,Option.some.injEq] at hx
   subst hx
   exact hk
  | agg cs =>
   obtain ⟨vs,e1,e2⟩:=hv
   obtain ⟨vs',e3,_,hc⟩:=hk
   rw [e1] at e3
   cases e3
   obtain ⟨u',hu,hr⟩:=hc j x hx
   rw [e2] at hu
   cases hu
   exact hr
  | tup vs =>
   obtain ⟨us,e1,e2⟩:=hv
   obtain ⟨us',e3,_,hc⟩:=hk
   rw [e1] at e3
   cases e3
   simp only [SV.at,tupAt] at hx
   split at hx
   ·rename_i x' hx'
    cases hx
    obtain ⟨u',hu,hr⟩:=hc j _ hx'
    rw [e2] at hu
    cases hu
    exact hr
   ·cases hx
  | _=>cases hx

theorem Sat.giveT (h:Sat X g σ a w) {r r':Root} {x:TV} {u:Value} (hne:apartR r r' = true) (hT:TRel g w (r,[]) u x) (hv':VAt g σ a w u r') (ov:okVoid σ r) (of:okFill σ r'):Sat X (g.mvR r r') (σ.give r r' x) a w:=by
 have hrr:=apartR_ne hne
 have hlen:(σ.give r r' x).heap.length = σ.heap.length:=by
  cases r <;> cases r' <;> simp only [AState.give,AState.fill,AState.void,AState.set,setCells_length,AState.drop]
 -- slots
 have hgd:∀ d j',r' = .slot d j' → (σ.give r r' x).get d = fillSV j' x ((σ.get d).drop (atR r r')):=fun d j' e=>by
  subst e
  simp only [AState.give,get_fill,if_true,get_void,get_drop]
  cases r with
  | slot s j =>
   have hds:d ≠ s:=by rintro rfl; simp [apartR] at hne
   simp only [if_neg hds]
  | cell o i=>rfl
  | obj o=>rfl
 have hgs:∀ s j,r = .slot s j → (σ.give r r' x).get s = voidSV j ((σ.get s).drop (atR r r')):=fun s j e=>by
  subst e
  simp only [AState.give,get_fill]
  cases r' with
  | slot d j' =>
   have hds:s ≠ d:=by rintro rfl; simp [apartR] at hne
   simp only [if_neg hds,get_void,if_true,get_drop]
  | cell o i=>simp only [get_void,if_true,get_drop]
  | obj o=>simp only [get_void,if_true,get_drop]
 have hgo:∀ k,(∀ j,r ≠ .slot k j) → (∀ j,r' ≠ .slot k j) → (σ.give r r' x).get k = (σ.get k).drop (atR r r'):=fun k h1 h2=>by
  simp only [AState.give,get_fill,get_void,get_drop]
  cases r' with
  | slot d j' =>
   have hkd:k ≠ d:=fun e=>h2 j' (by rw [e])
   simp only [if_neg hkd]
   cases r with
   | slot s j =>
     have hks:k ≠ s:=fun e=>h1 j (by rw [e])
     simp only [if_neg hks]
   | cell o i=>rfl
   | obj o=>rfl
  | cell o i =>
   cases r with
   | slot s j =>
     have hks:k ≠ s:=fun e=>h1 j (by rw [e])
     simp only [if_neg hks]
   | cell o i=>rfl
   | obj o=>rfl
  | obj o=>exact of.elim
 -- objects
 have hob:∀ (o:Nat) t cs',(σ.give r r' x).heap[o]? = some (.cells t cs') → ∃ cs,σ.heap[o]? = some (.cells t cs) ∧ cs'.length = cs.length ∧ ∀ i y,cs'[i]? = some y → (cs[i]? = some y ∧ r ≠ .cell o i ∧ r' ≠ .cell o i) ∨ y = .hole ∨ (r' = .cell o i ∧ y = x):=fun o t cs' ho=>by
  have step1:∀ cs',((σ.drop (atR r r')).void r).heap[o]? = some (.cells t cs') → ∃ cs,σ.heap[o]? = some (.cells t cs) ∧ cs'.length = cs.length ∧ ∀ i y,cs'[i]? = some y → (cs[i]? = some y ∧ r ≠ .cell o i) ∨ y = .hole:=fun cs' ho=>by
   cases r with
   | slot s j=>exact ⟨cs',ho,rfl,fun i y hy=>.inl ⟨hy,by simp⟩⟩
   | obj o=>exact ov.elim
   | cell o1 i1 =>
    simp only [AState.void] at ho
    by_cases hoo:o = o1
    ·subst hoo
     obtain ⟨cs0,e0,rfl⟩:=setCells_some _ ho
     refine ⟨cs0,e0,by simp,fun i y hy=>?_⟩
     rw [List.getElem?_set] at hy
     split at hy
     ·split at hy
      ·cases hy; exact .inr rfl
      ·cases hy
     ·rename_i hne; exact .inl ⟨hy,by simp only [ne_eq,Root.cell.injEq,true_and]; exact hne⟩
    ·rw [setCells_ne _ _ _ _ hoo] at ho
     exact ⟨cs',ho,rfl,fun i y hy=>.inl ⟨hy,by simp only [ne_eq,Root.cell.injEq,not_and]; exact fun e=>absurd e.symm hoo⟩⟩
  cases r' with
  | slot d j =>
   obtain ⟨cs,e1,e2,e3⟩:=step1 cs' ho
   exact ⟨cs,e1,e2,fun i y hy=>by rcases e3 i y hy with ⟨k1,k2⟩ | k; exact .inl ⟨k1,k2,by simp⟩; exact .inr (.inl k)⟩
  | obj o=>exact of.elim
  | cell o1 i1 =>
   simp only [AState.give,AState.fill] at ho
   by_cases hoo:o = o1
   ·subst hoo
    obtain ⟨cs0,e0,rfl⟩:=setCells_some _ ho
    obtain ⟨cs,e1,e2,e3⟩:=step1 cs0 e0
    refine ⟨cs,e1,by simp [e2],fun i y hy=>?_⟩
    rw [List.getElem?_set] at hy
    split at hy
    ·rename_i e
     subst e
     split at hy
     ·cases hy; exact .inr (.inr ⟨rfl,rfl⟩)
     ·cases hy
    ·rename_i hni
     rcases e3 i y hy with ⟨k1,k2⟩ | k
     ·exact .inl ⟨k1,k2,by simp only [ne_eq,Root.cell.injEq,true_and]; exact hni⟩
     ·exact .inr (.inl k)
   ·rw [setCells_ne _ _ _ _ hoo] at ho
    obtain ⟨cs,e1,e2,e3⟩:=step1 cs' ho
    refine ⟨cs,e1,e2,fun i y hy=>?_⟩
    rcases e3 i y hy with ⟨k1,k2⟩ | k
    ·exact .inl ⟨k1,k2,by simp only [ne_eq,Root.cell.injEq,not_and]; exact fun e=>absurd e.symm hoo⟩
    ·exact .inr (.inl k)
 have hroot:∀ q:Root,q ≠ r → q ≠ r' → ∀ y,σ.rootTV q = some y → (σ.give r r' x).rootTV q = some y:=fun q h1 h2 y hy=>by
  cases q with
  | slot k j =>
   rw [rootTV_slot] at hy ⊢
   rw [← at_drop (R:=atR r r')] at hy
   by_cases e1:∃ j',r' = .slot k j'
   ·obtain ⟨j',rfl⟩:=e1
    rw [hgd k j' rfl]
    exact fill_at (fun e=>h2 (by rw [e])) hy (okF_drop of)
   ·by_cases e2:∃ j0,r = .slot k j0
    ·obtain ⟨j0,rfl⟩:=e2
     rw [hgs k j0 rfl]
     exact void_at (fun e=>h1 (by rw [e])) hy (okV_drop ov)
    ·rw [hgo k (fun j e=>e2 ⟨j,e⟩) (fun j e=>e1 ⟨j,e⟩)]; exact hy
  | cell o i =>
   rw [rootTV_cell] at hy ⊢
   rw [give_heap]
   exact cellAt_set (Ne.symm h2) (cellAt_set (Ne.symm h1) hy)
  | obj o=>cases hy
 have hnames:∀ p,atR r r' p = false → Names g (g.mvR r r') w w σ (σ.give r r' x) p:=fun p hp=>by
  obtain ⟨h1,h2⟩:=atR_false hp
  exact ⟨fun b hb=>⟨mvR_else hb h1 h2,fun c e hc=>⟨c,hc,rfl⟩⟩,fun z e n f hl=>⟨f,look_imp (hroot p.1 h1 h2) p.2 hl⟩,fun o he hlt=>⟨rfl,by rw [hlen]; exact hlt⟩⟩
 have hdn:∀ {s:SV} {p:Path},(s.drop1 (atR r r')).names1 (· = p) = true → atR r r' p = false:=fun hp=>by
  obtain ⟨y,hy,he⟩:=(names_drop1 hp).2
  obtain rfl:y = _:=by simpa using he
  exact hy
 -- one component
 have comp:∀ k i v s,S1 g w σ k i v s → (Root.slot k i ≠ r) → (Root.slot k i ≠ r') → (∀ cs,s = .agg cs → cs.all TV.plain = true) → S1 (g.mvR r r') w (σ.give r r' x) k i v (s.drop1 (atR r r')):=fun k i v s hs h1 h2 hag=>by
  have hd:=hs.drop (atR r r')
  have hag':∀ cs,s.drop1 (atR r r') = .agg cs → cs.all TV.plain = true:=fun cs e=>by
   unfold SV.drop1 at e
   split at e
   ·cases e
   ·exact hag cs e
  have hn:∀ p,(s.drop1 (atR r r')).names1 (· = p) = true → Names g (g.mvR r r') w w σ (σ.give r r' x) p:=fun p hp=>hnames p (hdn hp)
  revert hd hag' hn
  generalize s.drop1 (atR r r') = s'
  intro hd hag' hn
  cases s' with
  | tv y=>exact TRel.else g (p:=(.slot k i,[])) hd h1 h2
  | agg cs =>
   obtain ⟨vs,rfl,hsz,hc⟩:=hd
   refine ⟨vs,rfl,hsz,fun q y hy=>?_⟩
   obtain ⟨u',hu,hr⟩:=hc q y hy
   have hp:=hag' cs rfl
   rw [List.all_eq_true] at hp
   exact ⟨u',hu,.fr (hr.plain (hp y (List.mem_of_getElem? hy)))⟩
  | tup=>exact hd.elim
  | fn=>exact hd.elim
  | junk=>trivial
  | rp cs=>exact hd
  | pc o off=>exact hd.named trivial hn
  | rpc o off =>
   obtain ⟨b,hv,hb,hc,hl⟩:=hd
   obtain ⟨h1,h2⟩:=(hn (.obj o,[]) (by simp [SV.names1])).2.2 o rfl hl
   exact ⟨b,hv,hb,by rw [h1]; exact hc,h2⟩
  | pe p i j z=>exact hd.named trivial hn
  | pa p i j m q z=>exact hd.named trivial hn
  | al p=>exact hd.named trivial hn
  | ml p=>exact hd.named trivial hn
  | cut p lo m=>exact hd.named trivial hn
 have cellne:∀ {k i},(∀ j,r ≠ .slot k j) → Root.slot k i ≠ r:=fun hk e=>hk _ e.symm
 refine ⟨h.defers,h.size,fun k=>?_,fun o t cs' ho=>?_,fun b b' p hb hb'=>?_,fun b hb=>⟨?_,(h.frozen b hb).2⟩,fun b p hb=>?_,fun b p hb=>?_,h.P0,h.P1,h.kept,h.os,h.tape,h.output,h.mono,h.m0,by rw [hlen]; exact h.h0⟩
 ·by_cases e1:∃ j',r' = .slot k j'
  ·-- what is filled
   obtain ⟨j',rfl⟩:=e1
   have hnr:∀ j,r ≠ .slot k j:=fun j e=>by subst e; simp [apartR] at hne
   rw [hgd k j' rfl]
   have hk:=(h.env k).drop (atR r (.slot k j'))
   have hxr:=TRel.moved g (r':=.slot k j') hT
   have of':okF j' (σ.get k):=of
   have hv2:VAt g σ a w u (.slot k j'):=hv'
   simp only [VAt] at hv2
   have hgk:∀ cs,σ.get k = .agg cs → (σ.get k).drop (atR r (.slot k j')) = .agg cs:=fun cs e=>by rw [e]; rfl
   cases hsv:σ.get k with
   | agg cs =>
    rw [hsv] at hk hv2
    obtain ⟨vs,e1,e2⟩:=hv2
    obtain ⟨vs',e3,e4,hc⟩:=hk
    rw [e1] at e3
    cases e3
    refine ⟨vs,e1,by simpa using e4,fun i y hy=>?_⟩
    rw [List.getElem?_set] at hy
    split at hy
    ·rename_i e
     subst e
     split at hy
     ·cases hy; exact ⟨u,e2,hxr⟩
     ·cases hy
    ·rename_i hni
     obtain ⟨u',hu,hr⟩:=hc i y hy
     exact ⟨u',hu,TRel.else g (p:=(.slot k i,[])) hr (fun e=>hnr i e.symm) (by simp only [ne_eq,Root.slot.injEq,true_and]; exact fun e=>hni e.symm)⟩
   | tup vs=>rw [hsv] at of'; exact (show False from of').elim
   | fn f vs=>rw [hsv] at of'; exact (show False from of').elim
   | tv y =>
    rw [hsv] at hv2
    obtain ⟨rfl,rfl⟩:=hv2
    exact hxr
   | junk=>rw [hsv] at hv2; obtain ⟨rfl,rfl⟩:=hv2; exact hxr
   | rp cs=>rw [hsv] at hv2; obtain ⟨rfl,rfl⟩:=hv2; exact hxr
   | pc o off=>rw [hsv] at hv2; obtain ⟨rfl,rfl⟩:=hv2; unfold SV.drop SV.drop1; simp only; split <;> exact hxr
   | rpc o off=>rw [hsv] at hv2; obtain ⟨rfl,rfl⟩:=hv2; unfold SV.drop SV.drop1; simp only; split <;> exact hxr
   | pe p i j z=>rw [hsv] at hv2; obtain ⟨rfl,rfl⟩:=hv2; unfold SV.drop SV.drop1; simp only; split <;> exact hxr
   | pa p i j m q z=>rw [hsv] at hv2; obtain ⟨rfl,rfl⟩:=hv2; unfold SV.drop SV.drop1; simp only; split <;> exact hxr
   | al p=>rw [hsv] at hv2; obtain ⟨rfl,rfl⟩:=hv2; unfold SV.drop SV.drop1; simp only; split <;> exact hxr
   | ml p=>rw [hsv] at hv2; obtain ⟨rfl,rfl⟩:=hv2; unfold SV.drop SV.drop1; simp only; split <;> exact hxr
   | cut p lo m=>rw [hsv] at hv2; obtain ⟨rfl,rfl⟩:=hv2; unfold SV.drop SV.drop1; simp only; split <;> exact hxr
  ·by_cases e2:∃ j0,r = .slot k j0
   ·-- what is given
    obtain ⟨j0,rfl⟩:=e2
    rw [hgs k j0 rfl]
    have hk:=h.env k
    have ov':okV j0 (σ.get k):=ov
    cases hsv:σ.get k with
    | agg cs =>
     rw [hsv] at hk
     obtain ⟨vs,e1',e4,hc⟩:=hk
     refine ⟨vs,e1',by simpa using e4,fun i y hy=>?_⟩
     rw [List.getElem?_set] at hy
     split at hy
     ·rename_i e
      subst e
      split at hy
      ·rename_i hlt
       cases hy
       obtain ⟨u',hu,hr⟩:=hc j0 cs[j0] (List.getElem?_eq_getElem hlt)
       exact ⟨u',hu,.hole⟩
      ·cases hy
     ·rename_i hni
      obtain ⟨u',hu,hr⟩:=hc i y hy
      exact ⟨u',hu,TRel.else g (p:=(.slot k i,[])) hr (by simp only [ne_eq,Root.slot.injEq,true_and]; exact fun e=>hni e.symm) (fun e=>e1 ⟨i,e.symm⟩)⟩
    | tup vs =>
     rw [hsv] at hk ov'
     obtain ⟨us,e1',e4,hc⟩:=hk
     have hall:(vs.map (SV.drop1 (atR (.slot k j0) r'))).all SV.tvOrPure = true:=okV_drop (sv:=.tup vs) (R:=atR (.slot k j0) r') ov'
     simp only [SV.drop,voidSV,hall]
     refine ⟨us,e1',by simpa using e4,fun i s hs=>?_⟩
     rw [List.getElem?_set] at hs
     split at hs
     ·rename_i e
      subst e
      split at hs
      ·rename_i hlt
       cases hs
       have hlt':j0 < vs.length:=by simpa using hlt
       obtain ⟨u',hu,_⟩:=hc j0 vs[j0] (List.getElem?_eq_getElem hlt')
       exact ⟨u',hu,trivial⟩
      ·cases hs
     ·rename_i hni
      rw [List.getElem?_map] at hs
      obtain ⟨s0,hs0,rfl⟩:=Option.map_eq_some_iff.1 hs
      obtain ⟨u',hu,hr⟩:=hc i s0 hs0
      refine ⟨u',hu,comp k i u' s0 hr (by simp only [ne_eq,Root.slot.injEq,true_and]; exact fun e=>hni e.symm) (fun e=>e1 ⟨i,e.symm⟩) fun cs e=>?_⟩
      have:vs.all SV.tvOrPure = true:=ov'
      rw [List.all_eq_true] at this
      have:=this s0 (List.mem_of_getElem? hs0)
      rw [e] at this
      exact this
    | tv y=>trivial
    | _=>rw [hsv] at ov'; exact (show False from ov').elim
   ·-- any other slot
    rw [hgo k (fun j e=>e2 ⟨j,e⟩) (fun j e=>e1 ⟨j,e⟩)]
    refine ((h.env k).drop _).mono ⟨fun b hb=>⟨hb,rfl⟩,fun j b st hb=>⟨mvR_else hb (fun e=>e2 ⟨j,e.symm⟩) (fun e=>e1 ⟨j,e.symm⟩),rfl⟩⟩ fun p hp=>?_
    obtain ⟨y,hy,he⟩:=(names_drop hp).2
    obtain rfl:y = p:=by simpa using he
    exact hnames y hy
 ·obtain ⟨cs,e1,e2,e3⟩:=hob o t cs' ho
  obtain ⟨c,k1,k2,k3,k4⟩:=h.heap o t cs e1
  have n1:Root.obj o ≠ r:=fun e=>by subst e; exact ov
  have n2:Root.obj o ≠ r':=fun e=>by subst e; exact of
  refine ⟨c,k1,mvR_else k2 n1 n2,by rw [k3,e2],fun i y hy=>?_⟩
  rcases e3 i y hy with ⟨l1,l2,l3⟩ | rfl | ⟨rfl,rfl⟩
  ·obtain ⟨u',hu,hr⟩:=k4 i y l1
   exact ⟨u',hu,TRel.else g (p:=(.cell o i,[])) hr (Ne.symm l2) (Ne.symm l3)⟩
  ·have hi:i < c.size:=by rw [k3,← e2]; exact (List.getElem?_eq_some_iff.1 hy).1
   exact ⟨c[i],by simp [hi],.hole⟩
  ·obtain ⟨_,c1,t1,fr,hc1,hc2⟩:=hv'
   rw [k1] at hc1
   cases hc1
   exact ⟨u,hc2,TRel.moved g hT⟩
 ·rcases mvR_inv hb with ⟨h1,h2⟩ | ⟨h1,h2,h3⟩ <;> rcases mvR_inv hb' with ⟨h4,h5⟩ | ⟨h4,h5,h6⟩
  ·exact h.inj b b' _ h1 h4
  ·exact absurd h2 h6
  ·exact absurd h5 h3
  ·exact h.inj b b' p h1 h4
 ·simp only [Gh.mvR,(h.frozen b hb).1]
 ·rcases mvR_inv hb with ⟨h1,_⟩ | ⟨h1,_⟩
  ·exact h.lt b _ h1
  ·exact h.lt b p h1
 ·rw [hlen]
  rcases mvR_inv hb with ⟨h1,h2⟩ | ⟨h1,_⟩
  ·rw [h2]
   cases r' with
   | slot=>trivial
   | cell o i=>exact hv'.1
   | obj o=>exact of.elim
  ·exact h.ids b p h1

theorem Sat.give (h:Sat X g σ a w) {r r':Root} {x:TV} {u:Value} (hne:apartR r r' = true) (hx:σ.rootTV r = some x) (hv:VAt g σ a w u r) (hv':VAt g σ a w u r') (ov:okVoid σ r) (of:okFill σ r'):Sat X (g.mvR r r') (σ.give r r' x) a w :=
 h.giveT hne (root_val h hx hv) hv' ov of
end
end Go.Sx

namespace Go.Sx
open Go

def holeOwn:TV → TV
 | .own ..=>.hole
 | .mp ..=>.hole
 | x=>x

def ownPos:List TV → Nat → List Nat
 | [],_=>[]
 | .own .. :: r,j=>j :: ownPos r (j + 1)
 | .mp .. :: r,j=>j :: ownPos r (j + 1)
 | _ :: r,j=>ownPos r (j + 1)

def noHole:List TV → Bool
 | []=>true
 | .hole :: _=>false
 | _ :: r=>noHole r

def SV.cellsAll:SV → Option (List TV)
 | .tv x=>some [x]
 | .agg cs=>some cs
 | _=>none

def givesC (s o off:Nat) (ys:List TV):List Nat → AState → AState
 | [],σ=>σ
 | j :: r,σ=>givesC s o off ys r (σ.give (.slot s j) (.cell o (off + j)) (ys.getD j .hole))

theorem ownPos_ge:∀ {ys:List TV} {k j:Nat},j ∈ ownPos ys k → k ≤ j ∧ ∃ y,ys[j - k]? = some y
 | [],_,_,h=>by cases h
 | y :: r,k,j,h=>by
  have step:j ∈ ownPos r (k + 1) → k ≤ j ∧ ∃ y',(y :: r)[j - k]? = some y':=fun h=>by
   obtain ⟨h1,y',h2⟩:=ownPos_ge h
   refine ⟨by omega,y',?_⟩
   rw [show j - k = (j - (k + 1)) + 1 by omega,List.getElem?_cons_succ]; exact h2
  cases y with
  | own z e n f =>
   simp only [ownPos,List.mem_cons] at h
   rcases h with rfl | h
   ·exact ⟨Nat.le_refl _,_,by rw [Nat.sub_self]; rfl⟩
   ·exact step h
  | mp kk vk l =>
   simp only [ownPos,List.mem_cons] at h
   rcases h with rfl | h
   ·exact ⟨Nat.le_refl _,_,by rw [Nat.sub_self]; rfl⟩
   ·exact step h
  | _=>exact step h

theorem ownPos_nodup:∀ (ys:List TV) (k:Nat),(ownPos ys k).Nodup
 | [],_=>List.nodup_nil
 | y :: r,k=>by
  cases y with
  | own z e n f =>
   simp only [ownPos,List.nodup_cons]
   exact ⟨fun h=>by have:=(ownPos_ge h).1; omega,ownPos_nodup r (k + 1)⟩
  | mp kk vk l =>
   simp only [ownPos,List.nodup_cons]
   exact ⟨fun h=>by have:=(ownPos_ge h).1; omega,ownPos_nodup r (k + 1)⟩
  | _=>exact ownPos_nodup r (k + 1)

theorem noHole_at:∀ {ys:List TV},noHole ys = true → ∀ y ∈ ys,y ≠ .hole
 | [],_,_,h=>by cases h
 | x :: r,h,y,hy=>by
  rcases List.mem_cons.1 hy with rfl | hy
  ·rintro rfl; cases h
  ·refine noHole_at (ys:=r) ?_ y hy
   cases x <;> first | exact h | cases h

section
variable {X:Ctx} {g:Gh} {σ:AState} {a:Act} {w:World} {T:Tab}

theorem get_give_src {σ:AState} {s j o i:Nat} {x:TV}:(σ.give (.slot s j) (.cell o i) x).get s = voidSV j ((σ.get s).drop (atR (.slot s j) (.cell o i))):=by
 simp only [AState.give,get_fill,get_void,if_true,get_drop]

theorem give_cell_len {σ:AState} {r:Root} {o i:Nat} {x:TV}:(σ.give r (.cell o i) x).heap.length = σ.heap.length:=by
 rw [give_heap]
 cases r <;> simp only [setRootH,setCells_length]

/-- What one struct in a slot owns goes into an object that has the same cells. -/
theorem Sat.givesC {s o off:Nat} {ys:List TV}:∀ (l:List Nat) {g:Gh} {σ:AState} {cs:List TV},Sat X g σ a w → l.Nodup → σ.get s = .agg cs → (∀ j ∈ l,cs[j]? = some (ys.getD j .hole)) →
  (∃ vs,a.tmps.getD s undef = .agg vs ∧ ∀ j ∈ l,∃ u,vs[j]? = some u ∧ VAt g σ a w u (.cell o (off + j))) → ∃ g',Sat X g' (Go.Sx.givesC s o off ys l σ) a w
 | [],g,σ,cs,h,_,_,_,_=>⟨g,h⟩
 | j :: r,g,σ,cs,h,hn,hs,hc,hv=>by
  rw [List.nodup_cons] at hn
  obtain ⟨vs,hvs,hv⟩:=hv
  obtain ⟨u,hu,hcell⟩:=hv j (List.mem_cons_self ..)
  have hx:σ.rootTV (.slot s j) = some (ys.getD j .hole):=by rw [rootTV_slot,hs]; exact hc j (List.mem_cons_self ..)
  have h1:=h.give (r:=.slot s j) (r':=.cell o (off + j)) rfl hx (by simp only [VAt,hs]; exact ⟨vs,hvs,hu⟩) hcell (by simp only [okVoid,hs,okV]) trivial
  have hg:(σ.give (.slot s j) (.cell o (off + j)) (ys.getD j .hole)).get s = .agg (cs.set j .hole):=by rw [get_give_src,hs]; rfl
  refine Sat.givesC r h1 hn.2 hg (fun j' hj'=>?_) ⟨vs,hvs,fun j' hj'=>?_⟩
  ·have hne:j ≠ j':=fun e=>hn.1 (e ▸ hj')
   rw [List.getElem?_set_ne hne]
   exact hc j' (List.mem_cons_of_mem _ hj')
  ·obtain ⟨u',hu',hlt,c,t,fr,k1,k2⟩:=hv j' (List.mem_cons_of_mem _ hj')
   exact ⟨u',hu',by rw [give_cell_len]; exact hlt,c,t,fr,k1,k2⟩

/-- The cells of a slot, and their values. -/
theorem slot_cells (hs:Sat X g σ a w) {s:Nat} {ys:List TV} (hy:(σ.get s).cellsAll = some ys) (hh:noHole ys = true) :
  (a.tmps.getD s undef).cells.size = ys.length ∧ (∀ v ∈ (a.tmps.getD s undef).cells.toList,v.oneCell' = true) ∧ (∀ (i:Nat) y,ys[i]? = some y → ∃ u,(a.tmps.getD s undef).cells[i]? = some u ∧ (holeOwn y = .hole ∨ FRel g.P w u (holeOwn y))) ∧
   ((∃ x,σ.get s = .tv x ∧ ys = [x] ∧ (a.tmps.getD s undef).cells = #[a.tmps.getD s undef]) ∨ (σ.get s = .agg ys ∧ a.tmps.getD s undef = .agg (a.tmps.getD s undef).cells)):=by
 have fr:∀ {p:Path} {u:Value} {y:TV},TRel g w p u y → y ≠ .hole → holeOwn y = .hole ∨ FRel g.P w u (holeOwn y):=fun h hy=>by
  cases h with
  | hole=>exact absurd rfl hy
  | nil=>exact .inl rfl
  | own=>exact .inl rfl
  | mp=>exact .inl rfl
  | fr h=>right; cases h <;> (simp only [holeOwn]; first | exact .int _ _ | exact .bool _ | exact .str _ | exact .sc _ (by assumption) | exact .nil _ _ _ _ | exact .fm _ _ _ _ _ _ (by assumption) (by assumption) (by assumption) | exact .ptr _ _ _ _ (by assumption) (by assumption) (by assumption) | exact .row _ _ _ _ _ _ _ (by assumption) (by assumption) (by assumption) (by assumption) (by assumption) (by assumption))
 have hk:=hs.env s
 cases hsv:σ.get s with
 | tv x =>
  rw [hsv] at hy hk
  simp only [SV.cellsAll,Option.some.injEq] at hy
  subst hy
  have hx:x ≠ .hole:=noHole_at hh x (by simp)
  have hk':TRel g w (.slot s 0,[]) (a.tmps.getD s undef) x:=hk
  have hone:=hk'.one hx
  have hc:(a.tmps.getD s undef).cells = #[a.tmps.getD s undef]:=by
   revert hone
   generalize a.tmps.getD s undef = v
   intro hone
   cases v <;> first | rfl | cases hone
  rw [hc]
  refine ⟨rfl,fun v hv=>?_,fun i y hy=>?_,.inl ⟨x,rfl,rfl,rfl⟩⟩
  ·simp only [List.mem_singleton] at hv; rw [hv]; exact hone
  ·cases i with
   | zero=>simp only [List.getElem?_cons_zero,Option.some.injEq] at hy; subst hy; exact ⟨_,rfl,fr hk' hx⟩
   | succ i=>simp at hy
 | agg cs =>
  rw [hsv] at hy hk
  simp only [SV.cellsAll,Option.some.injEq] at hy
  subst hy
  obtain ⟨vs,hv,hsz,hc⟩:=hk
  rw [hv]
  refine ⟨hsz,fun v hv'=>?_,fun i y hy=>?_,.inr ⟨rfl,rfl⟩⟩
  ·obtain ⟨i,hi⟩:=List.getElem?_of_mem hv'
   have hi':i < cs.length:=by rw [← hsz]; have:=(List.getElem?_eq_some_iff.1 hi).1; simpa [Value.cells] using this
   obtain ⟨u,hu,hr⟩:=hc i cs[i] (List.getElem?_eq_getElem hi')
   have:vs[i]? = some v:=by rw [← Array.getElem?_toList]; exact hi
   rw [this] at hu
   cases hu
   exact hr.one (noHole_at hh _ (List.getElem_mem hi'))
  ·obtain ⟨u,hu,hr⟩:=hc i y hy
   exact ⟨u,hu,fr hr (noHole_at hh y (List.mem_of_getElem? hy))⟩
 | _=>rw [hsv] at hy; cases hy

/-- The last step, for both: a single value, or a struct. -/
theorem gives_last {s o off:Nat} {ys:List TV} (h:Sat X g σ a w) (hs:((∃ x,σ.get s = .tv x ∧ ys = [x] ∧ (a.tmps.getD s undef).cells = #[a.tmps.getD s undef]) ∨ (σ.get s = .agg ys ∧ a.tmps.getD s undef = .agg (a.tmps.getD s undef).cells)))
  (hcell:∀ (j:Nat) u,(a.tmps.getD s undef).cells[j]? = some u → VAt g σ a w u (.cell o (off + j))) (hsz:(a.tmps.getD s undef).cells.size = ys.length):∃ g',Sat X g' (Go.Sx.givesC s o off ys (ownPos ys 0) σ) a w:=by
 rcases hs with ⟨x,h1,rfl,h3⟩ | ⟨h1,h2⟩
 ·cases x with
  | mp kk vk l =>
   refine ⟨_,h.give (r:=.slot s 0) (r':=.cell o (off + 0)) (u:=a.tmps.getD s undef) rfl (by rw [rootTV_slot,h1]; rfl) (by simp only [VAt,h1,true_and]) (hcell 0 _ (by rw [h3]; rfl)) (by simp only [okVoid,h1,okV]) trivial⟩
  | own z e n f =>
   refine ⟨_,h.give (r:=.slot s 0) (r':=.cell o (off + 0)) (u:=a.tmps.getD s undef) rfl (by rw [rootTV_slot,h1]; rfl) (by simp only [VAt,h1,true_and]) (hcell 0 _ (by rw [h3]; rfl)) (by simp only [okVoid,h1,okV]) trivial⟩
  | _=>exact ⟨g,h⟩
 ·refine Sat.givesC _ h (ownPos_nodup ys 0) h1 (fun j hj=>?_) ⟨_,h2,fun j hj=>?_⟩
  ·obtain ⟨_,y',hh⟩:=ownPos_ge hj
   rw [Nat.sub_zero] at hh
   simp [List.getD_eq_getElem?_getD,hh]
  ·obtain ⟨_,y',hh⟩:=ownPos_ge hj
   rw [Nat.sub_zero] at hh
   have hlt:j < (a.tmps.getD s undef).cells.size:=by rw [hsz]; exact (List.getElem?_eq_some_iff.1 hh).1
   exact ⟨_,Array.getElem?_eq_getElem hlt,hcell j _ (Array.getElem?_eq_getElem hlt)⟩

/-- A store of what a slot owns, into an object. -/
def evalStoreOwn (T:Tab) (σ:AState) (o:Oper):Option AState :=
 match o.op,o.dst with
 | .store t p (.tmp s),none=>match T.size t,(σ.get s).cellsAll,σ.ev p with
  | some n,some ys,.pc o' off=>(match σ.heap[o']? with
   | some (.cells _ cs0)=>(match noHole ys && (Nat.beq ys.length n && Nat.ble (off + ys.length) cs0.length) with
    | true=>some (givesC s o' off ys (ownPos ys 0) (σ.storeC o' off (ys.map holeOwn)))
    | false=>none)
   | _=>none)
  | _,_,_=>none
 | _,_=>none

theorem storeOwn_sound (hT:TabOk X.P T) (hs:Sat X g σ a w) {o:Oper} {σ':AState} (h:evalStoreOwn T σ o = some σ'):Comes2 X σ' a w o:=by
 unfold evalStoreOwn at h
 split at h
 ·rename_i t p s ho hdst
  split at h
  ·rename_i n ys o' off hn hy hp
   split at h
   ·rename_i t' cs0 hh
    split at h
    ·rename_i hb
     cases h
     simp only [Bool.and_eq_true] at hb
     obtain ⟨b1,b2,b3⟩:=hb
     have b2:=Nat.eq_of_beq_eq_true b2
     have b3:=Nat.le_of_ble_eq_true b3
     obtain ⟨k1,k2,k3,k4⟩:=slot_cells hs hy b1
     obtain ⟨i0,hi0,hsz0⟩:=hT.info hn
     obtain ⟨k,hk⟩:=ev_rel hs p
     rw [hp] at hk
     obtain ⟨hv,_⟩:=hk
     have hlen:(a.tmps.getD s undef).cells.toList.length = (ys.map holeOwn).length:=by rw [Array.length_toList,List.length_map]; exact k1
     obtain ⟨w',hrun,hsat,c',hc',hcv⟩:=hs.storeCH hh (ys:=ys.map holeOwn) (vs:=(a.tmps.getD s undef).cells.toList) hlen (by simpa using b3) k2 fun i y hy=>by
      rw [List.getElem?_map] at hy
      obtain ⟨y0,hy0,rfl⟩:=Option.map_eq_some_iff.1 hy
      obtain ⟨u,hu,hr⟩:=k3 i y0 hy0
      exact ⟨u,by rw [Array.getElem?_toList]; exact hu,hr⟩
     have hget:(σ.storeC o' off (ys.map holeOwn)).get s = (σ.get s).drop (cellsR o' off (ys.map holeOwn).length):=get_drop σ _ s
     obtain ⟨g',hfin⟩:=gives_last (o:=o') (off:=off) hsat (ys:=ys) (s:=s) (by
      rcases k4 with ⟨x,e1,e2,e3⟩ | ⟨e1,e2⟩
      ·exact .inl ⟨x,by rw [hget,e1]; rfl,e2,e3⟩
      ·exact .inr ⟨by rw [hget,e1]; rfl,e2⟩) (fun j u hu=>⟨by simp only [AState.storeC,setCells_length]; exact (List.getElem?_eq_some_iff.1 hh).1,c',t',(0,0),hc',hcv j u (by rw [Array.getElem?_toList]; exact hu)⟩) k1
     refine ⟨.skip,w',g',?_,.inr ⟨rfl,by rw [hdst]; exact hfin⟩⟩
     have he:a.eval (.tmp s) = a.tmps.getD s undef:=rfl
     simp only [execOp,ho,Instr.storeAt,hv,Instr.sureAddr,pure_bind,storeVar,Sem.run_bind,run_size hi0,Result.andThen_ok,he]
     rw [if_neg (by rw [k1,b2,hsz0]; simp)]
     simp only [hrun,Result.andThen_ok,Sem.run_pure]
    ·cases h
   ·cases h
  ·cases h
 ·cases h

/-- A box of what a slot owns. -/
def evalBoxOwn (σ:AState) (o:Oper):Option AState :=
 match o.op,o.dst with
 | .box t (.tmp s),some d=>match (σ.get s).cellsAll with
  | some ys=>(match noHole ys && !Nat.beq s d with
   | true=>some (givesC s σ.heap.length 0 ys (ownPos ys 0) ((σ.new t (ys.map holeOwn)).put d (.pc σ.heap.length 0)))
   | false=>none)
  | none=>none
 | _,_=>none

theorem boxOwn_sound (hs:Sat X g σ a w) {o:Oper} {σ':AState} (h:evalBoxOwn σ o = some σ') (hd:∀ d,o.dst = some d → d < X.n):Comes2 X σ' a w o:=by
 unfold evalBoxOwn at h
 split at h
 ·rename_i t s d ho hdst
  split at h
  ·rename_i ys hy
   split at h
   ·rename_i hb
    cases h
    simp only [Bool.and_eq_true,Bool.not_eq_true'] at hb
    obtain ⟨b1,b2⟩:=hb
    have hsd:s ≠ d:=by rintro rfl; simp at b2
    have hd':=hd d hdst
    obtain ⟨k1,k2,k3,k4⟩:=slot_cells hs hy b1
    have h1:=hs.newObjH t (c:=(a.tmps.getD s undef).cells) (cs:=ys.map holeOwn) (by rw [List.length_map]; exact k1) fun i y hy=>by
     rw [List.getElem?_map] at hy
     obtain ⟨y0,hy0,rfl⟩:=Option.map_eq_some_iff.1 hy
     exact k3 i y0 hy0
    have hm:(g.obj w.heap.size σ.heap.length).m σ.heap.length = w.heap.size:=by simp [Gh.obj]
    have hpc:=pc_rel (g:=g.obj w.heap.size σ.heap.length) (w:=w.alloc (.cells (a.tmps.getD s undef).cells t)) (σ:=σ.new t (ys.map holeOwn)) (k:=0) (o:=σ.heap.length) (off:=0) (by simp [AState.new])
    rw [hm] at hpc
    have h2:=Sat.put (σ:=σ.new t (ys.map holeOwn)) h1 hd' rfl rfl (k:=0) hpc
    have hts:a.tmps.size = X.n:=hs.size
    have htmp:(a.put (some d) (.pointer (some ⟨w.heap.size,0,none⟩))).tmps.getD s undef = a.tmps.getD s undef:=by rw [tmps_put _ _ _ _ (by rw [hts]; exact hd'),if_neg hsd]
    have hget:((σ.new t (ys.map holeOwn)).put d (.pc σ.heap.length 0)).get s = (σ.get s).drop (under d):=by
     rw [get_put,if_neg hsd]; rfl
    obtain ⟨g',hfin⟩:=gives_last (o:=σ.heap.length) (off:=0) h2 (ys:=ys) (s:=s) (by
     rw [htmp]
     rcases k4 with ⟨x,e1,e2,e3⟩ | ⟨e1,e2⟩
     ·exact .inl ⟨x,by rw [hget,e1]; rfl,e2,e3⟩
     ·exact .inr ⟨by rw [hget,e1]; rfl,e2⟩) (fun j u hu=>by
      rw [htmp] at hu
      refine ⟨by simp [AState.put,AState.set,AState.drop,AState.new],(a.tmps.getD s undef).cells,t,(0,0),?_,by rw [Nat.zero_add]; exact hu⟩
      have:((g.obj w.heap.size σ.heap.length).clr (under d)).m σ.heap.length = w.heap.size:=hm
      rw [this]
      exact heap_alloc_new w _) (by rw [htmp]; exact k1)
    refine ⟨_,_,g',?_,.inl ⟨_,rfl,by rw [hdst]; exact hfin⟩⟩
    have he:a.eval (.tmp s) = a.tmps.getD s undef:=rfl
    simp [execOp,ho,Instr.box,newVar,newRow,he]
   ·cases h
  ·cases h
 ·cases h

/-! ### An alias that becomes the owner -/

theorem claim_rel (hs:Sat X g σ a w) {d:Nat} {r:Root} {x:TV} (hd:σ.get d = .al (r,[])) (hx:σ.rootTV r = some x) (hr:∀ o,r ≠ .obj o):TRel g w (r,[]) (a.tmps.getD d undef) x:=by
 have hk:=hs.env d
 rw [hd] at hk
 obtain ⟨z,e,n,f,hl,hv⟩:=hk
 have:σ.look (r,[]) = some x:=hx
 rw [this] at hl
 cases hl
 obtain ⟨v',hr'⟩:=look_rel hs (st:=[]) (r:=r) this hr
 rcases hv with ⟨h1,rfl⟩ | ⟨b,cap,c,hb,hv,hrow,hc,h1,h2⟩
 ·rw [h1]; exact .nil z e f
 ·rw [hv]
  rcases own_inv hr' with ⟨_,rfl⟩ | ⟨b',cap',c',cs,k1,k2,k3,k4,k5,k6,k7,k8,k9⟩
  ·exact .own b cap z e 0 f c (fun _ _=>undef) hb hrow hc (Nat.zero_le _) h2 (fun i hi=>absurd hi (Nat.not_lt_zero _)) (fun i j y hi=>absurd hi (Nat.not_lt_zero _)) (fun i j y hi=>absurd hi (Nat.not_lt_zero _))
  ·obtain rfl:b' = b:=hs.inj b' b _ k1 hb
   obtain ⟨fr,e1,e1'⟩:=k3
   obtain ⟨fr',e2,_⟩:=hrow
   rw [e1] at e2
   cases e2
   exact .own b' cap z e n f _ cs hb ⟨fr,e1,e1'⟩ hc h1 h2 k7 k8 k9

theorem Sat.claim (h:Sat X g σ a w) {d:Nat} {r:Root} {x:TV} (hd:σ.get d = .al (r,[])) (hx:σ.rootTV r = some x) (hne:apartR r (.slot d 0) = true) (ov:okVoid σ r):Sat X (g.mvR r (.slot d 0)) (σ.give r (.slot d 0) x) a w:=by
 have hr:∀ o,r ≠ .obj o:=by rintro o rfl; exact ov
 refine h.giveT hne (claim_rel h hd hx hr) ?_ ov ?_
 ·simp only [VAt,hd,true_and]
 ·simp only [okFill,hd,okF]

/-! ### A cell told otherwise -/

def fromTV (st:Steps) (x:Option TV):Option TV:=st.foldr (fun ij acc=>acc.bind (elemTV ij)) x

/-- What a cell may be told as instead. -/
structure Retell (y y':TV):Prop where
 rel:∀ g w p v,TRel g w p v y → TRel g w p v y'
 look:∀ st z e n f,fromTV st (some y) = some (.own z e n f) → ∃ f',fromTV st (some y') = some (.own z e n f')

theorem fromTV_cons (ij:Nat × Nat) (st:Steps) (x:Option TV):fromTV (ij :: st) x = (fromTV st x).bind (elemTV ij):=rfl

theorem fromTV_sc (v:Value):∀ (st:Steps) {y:TV},fromTV st (some (.sc v)) = some y → st = [] ∧ y = .sc v
 | [],y,h=>by cases h; exact ⟨rfl,rfl⟩
 | ij :: st,y,h=>by
  rw [fromTV_cons] at h
  obtain ⟨y0,h0,he⟩:=Option.bind_eq_some_iff.1 h
  obtain ⟨_,rfl⟩:=fromTV_sc v st h0
  cases he

theorem Retell.nilOwn (z:Nat) (e:TypeId) (f:Nat → List TV):Retell (.sc (.slice none 0 0)) (.own z e 0 f) :=
 ⟨fun g w p v h=>by rw [rel_sc h]; exact .nil z e f,fun st z e n f h=>by have:=(fromTV_sc _ st h).2; cases this⟩

theorem Retell.own {z:Nat} {e:TypeId} {n n':Nat} {f f':Nat → List TV} (hn:n = n') (hf:∀ i,i < n → f i = f' i):Retell (.own z e n f) (.own z e n' f'):=by
 subst hn
 refine ⟨fun g w p v h=>h.ext rfl hf,fun st=>?_⟩
 have key:∀ (st:Steps),st ≠ [] → fromTV st (some (.own z e n f)) = fromTV st (some (.own z e n f')):=by
  intro st
  induction st with
  | nil=>intro h; exact absurd rfl h
  | cons ij st ih =>
   intro _
   rw [fromTV_cons,fromTV_cons]
   by_cases hst:st = []
   ·subst hst
    simp only [fromTV,List.foldr_nil,Option.bind_some,elemTV]
    by_cases hi:ij.1 < n
    ·simp only [hi,decide_true,hf _ hi]
    ·simp only [hi,decide_false]
   ·rw [ih hst]
 intro z2 e2 n2 f2 hl
 by_cases hst:st = []
 ·subst hst
  cases hl
  exact ⟨f',rfl⟩
 ·exact ⟨f2,by rw [← key st hst]; exact hl⟩

theorem Retell.fz {z n n':Nat} {f f':Nat → List TV} (hn:n = n') (hf:∀ i,i < n → f i = f' i):Retell (.fz z n f) (.fz z n' f'):=by
 refine ⟨fun g w p v h=>?_,fun st=>?_⟩
 ·cases h with
  | fr h=>exact .fr (h.ext hn hf)
 ·intro z2 e2 n2 f2 hl
  have:∀ (st:Steps) {y:TV},fromTV st (some (.fz z n f)) = some y → y = .fz z n f:=by
   intro st
   induction st with
   | nil=>intro y h; cases h; rfl
   | cons ij st ih =>
    intro y h
    rw [fromTV_cons] at h
    obtain ⟨y0,h0,he⟩:=Option.bind_eq_some_iff.1 h
    rw [ih h0] at he
    cases he
  have:=this st hl
  cases this

def AState.setCell (σ:AState) (o i:Nat) (y:TV):AState:={ σ with heap:=setCells σ.heap o (fun cs=>cs.set i y) }

theorem Sat.retell (h:Sat X g σ a w) {o i:Nat} {y y':TV} (hy:σ.rootTV (.cell o i) = some y) (R:Retell y y'):Sat X g (σ.setCell o i y') a w:=by
 have hlen:(σ.setCell o i y').heap.length = σ.heap.length:=by simp only [AState.setCell,setCells_length]
 have hroot:∀ q:Root,q ≠ .cell o i → (σ.setCell o i y').rootTV q = σ.rootTV q:=fun q hq=>by
  cases q with
  | slot k j=>rfl
  | obj o=>rfl
  | cell o' i' =>
   simp only [AState.rootTV,AState.setCell]
   by_cases hoo:o' = o
   ·subst hoo
    cases hh:σ.heap[o']? with
    | none=>rw [List.getElem?_eq_none (by rw [setCells_length]; exact List.getElem?_eq_none_iff.1 hh)]
    | some ob =>
     cases ob with
     | cells t cs =>
      rw [setCells_eq _ hh]
      simp only
      rw [List.getElem?_set_ne (fun e=>hq (by rw [e]))]
     | dead =>
      have:∀ (h:List AObj) (o:Nat),h[o]? = some .dead → (setCells h o (fun cs=>cs.set i y'))[o]? = some .dead:=by
       intro h
       induction h with
       | nil=>intro o h; simp at h
       | cons x r ih =>
        intro o h
        cases o with
        | zero=>simp only [List.getElem?_cons_zero,Option.some.injEq] at h; subst h; rfl
        | succ o=>cases x <;> (simp only [setCells,List.getElem?_cons_succ] at h ⊢; exact ih o h)
      rw [this _ _ hh]
   ·rw [setCells_ne _ _ _ _ hoo]
 have hrooti:(σ.setCell o i y').rootTV (.cell o i) = some y':=by
  simp only [AState.rootTV] at hy ⊢
  split at hy
  ·rename_i t cs hh
   simp only [AState.setCell]
   rw [setCells_eq _ hh]
   simp only
   rw [List.getElem?_set,if_pos rfl,if_pos (List.getElem?_eq_some_iff.1 hy).1]
  ·cases hy
 have hlook:∀ (p:Path) z e n f,σ.look p = some (.own z e n f) → ∃ f',(σ.setCell o i y').look p = some (.own z e n f'):=fun p z e n f hl=>by
  obtain ⟨q,st⟩:=p
  by_cases hq:q = .cell o i
  ·subst hq
   have e1:σ.look (.cell o i,st) = fromTV st (some y):=by simp only [AState.look,fromTV,hy]
   have e2:(σ.setCell o i y').look (.cell o i,st) = fromTV st (some y'):=by simp only [AState.look,fromTV,hrooti]
   rw [e1] at hl
   rw [e2]
   exact R.look st z e n f hl
  ·exact ⟨f,by simp only [AState.look,hroot q hq]; exact hl⟩
 refine ⟨h.defers,h.size,fun k=>?_,fun o' t cs' ho'=>?_,h.inj,h.frozen,h.lt,fun b p hb=>by rw [hlen]; exact h.ids b p hb,h.P0,h.P1,h.kept,h.os,h.tape,h.output,h.mono,h.m0,by rw [hlen]; exact h.h0⟩
 ·exact (h.env k).mono ⟨fun b hb=>⟨hb,rfl⟩,fun j b st hb=>⟨hb,rfl⟩⟩ fun p _=>⟨fun b hb=>⟨hb,fun c e hc=>⟨c,hc,rfl⟩⟩,hlook p,fun o' _ hlt=>⟨rfl,by rw [hlen]; exact hlt⟩⟩
 ·by_cases hoo:o' = o
  ·subst hoo
   simp only [AState.setCell] at ho'
   obtain ⟨cs,e0,rfl⟩:=setCells_some _ ho'
   obtain ⟨c,k1,k2,k3,k4⟩:=h.heap o' t cs e0
   refine ⟨c,k1,k2,by simp [k3],fun q z hz=>?_⟩
   rw [List.getElem?_set] at hz
   split at hz
   ·rename_i e
    subst e
    split at hz
    ·cases hz
     have:cs[i]? = some y:=by simp only [AState.rootTV,e0] at hy; exact hy
     obtain ⟨u,hu,hr⟩:=k4 i y this
     exact ⟨u,hu,R.rel _ _ _ _ hr⟩
    ·cases hz
   ·exact k4 q z hz
  ·simp only [AState.setCell] at ho'
   rw [setCells_ne _ _ _ _ hoo] at ho'
   exact h.heap o' t cs' ho'
end
end Go.Sx

namespace Go.Sx
open Go

def givesB (d:Nat):List (Nat × Nat × TV) → AState → AState
 | [],σ=>σ
 | (s,off,x) :: r,σ=>givesB d r (σ.give (.slot s 0) (.slot d off) x)

def forgets (U:Nat → Value):List (Nat × Nat × TV) → AState → AState
 | [],σ=>σ
 | (s,_,_) :: r,σ=>forgets U r (σ.fix s (.sc (U s)))

section
variable {X:Ctx} {g:Gh} {σ:AState} {a:Act} {w:World} {T:Tab}

theorem Sat.forget (h:Sat X g σ a w) {s:Nat} {x:TV} (hx:σ.get s = .tv x) (hn:x ≠ .hole):Sat X g (σ.fix s (.sc (a.tmps.getD s undef))) a w:=by
 have hk:=h.env s
 rw [hx] at hk
 have hk':TRel g w (.slot s 0,[]) (a.tmps.getD s undef) x:=hk
 exact h.refix rfl (fun _ hb=>hb) (fun _ _ hb _=>hb) (fun _ _ hb=>hb) (fun _ hb=>.inl hb) (fun b hb=>(h.frozen b hb).1) (.fr (.sc _ (hk'.one hn))) rfl

theorem fix_other {σ:AState} {s s':Nat} {x y:TV} (hne:s' ≠ s) (h:σ.get s' = .tv y):(σ.fix s x).get s' = .tv y:=by rw [get_fix,if_neg hne,h]; rfl

theorem Sat.forgets:∀ (ss:List (Nat × Nat × TV)) {σ:AState},Sat X g σ a w → (ss.map (·.1)).Nodup → (∀ p ∈ ss,σ.get p.1 = .tv p.2.2 ∧ p.2.2 ≠ .hole) → Sat X g (Go.Sx.forgets (fun s=>a.tmps.getD s undef) ss σ) a w
 | [],_,h,_,_=>h
 | (s,off,x) :: r,σ,h,hn,hs=>by
  rw [List.map_cons,List.nodup_cons] at hn
  obtain ⟨h1,h2⟩:=hs _ (List.mem_cons_self ..)
  refine Sat.forgets r (h.forget h1 h2) hn.2 fun p hp=>?_
  obtain ⟨k1,k2⟩:=hs p (List.mem_cons_of_mem _ hp)
  exact ⟨fix_other (fun e=>hn.1 (List.mem_map.2 ⟨p,hp,e⟩)) k1,k2⟩

theorem Sat.givesB {d:Nat}:∀ (ss:List (Nat × Nat × TV)) {g:Gh} {σ:AState} {cs:List TV},Sat X g σ a w → (ss.map (·.1)).Nodup → σ.get d = .agg cs → (∀ p ∈ ss,p.1 ≠ d ∧ σ.get p.1 = .tv p.2.2 ∧ ∃ vs,a.tmps.getD d undef = .agg vs ∧ vs[p.2.1]? = some (a.tmps.getD p.1 undef)) → ∃ g',Sat X g' (Go.Sx.givesB d ss σ) a w
 | [],g,_,_,h,_,_,_=>⟨g,h⟩
 | (s,off,x) :: r,g,σ,cs,h,hn,hd,hs=>by
  rw [List.map_cons,List.nodup_cons] at hn
  obtain ⟨h1,h2,h3⟩:=hs _ (List.mem_cons_self ..)
  have hb:Nat.beq s d = false:=beq_ne h1
  have k:=h.give (r:=.slot s 0) (r':=.slot d off) (x:=x) (u:=a.tmps.getD s undef) (by simp only [apartR,hb]; rfl) (by rw [rootTV_slot,h2]; rfl) (by simp only [VAt,h2,true_and]) (by simp only [VAt,hd]; exact h3) (by simp only [okVoid,h2,okV]) (by simp only [okFill,hd,okF])
  have gd:(σ.give (.slot s 0) (.slot d off) x).get d = .agg (cs.set off x):=by
   simp only [AState.give,get_fill,if_true,get_void,if_neg (Ne.symm h1),get_drop,hd]; rfl
  refine Sat.givesB r k hn.2 gd fun p hp=>?_
  obtain ⟨k1,k2,k3⟩:=hs p (List.mem_cons_of_mem _ hp)
  refine ⟨k1,?_,k3⟩
  have hps:p.1 ≠ s:=fun e=>hn.1 (List.mem_map.2 ⟨p,hp,e⟩)
  simp only [AState.give,get_fill,if_neg k1,get_void,if_neg hps,get_drop,k2]; rfl

/-- A struct is built of parts some of which are owned. -/
theorem buildOwn_sound (hT:TabOk X.P T) (hs:Sat X g σ a w) {o:Oper} {t:TypeId} {parts:Array (Nat × Operand)} (ho:o.op = .build t parts) {d:Nat} (hdst:o.dst = some d) (hd:d < X.n) (ss:List (Nat × Nat × TV)) (hn:(ss.map (·.1)).Nodup)
  (hss:∀ p ∈ ss,p.1 ≠ d ∧ σ.get p.1 = .tv p.2.2 ∧ p.2.2 ≠ .hole) (cells:(Nat → Value) → List TV)
  (he:∀ U,(evalPure T (forgets U ss σ) o.op) = some ([],.agg (cells U))) (hu:∀ U,∀ p ∈ ss,(cells U)[p.2.1]? = some (.sc (U p.1))) {σ':AState} (ks:List Nat) (nh:Nat) (hn0:X.h0 ≤ nh) (hf:∀ U,(givesB d ss (σ.put d (.agg (cells U)))).keep ks nh = σ'):Comes2 X σ' a w o:=by
 have h0:=hs.forgets ss hn fun p hp=>(hss p hp).2
 obtain ⟨v,hrun,⟨k,hr⟩,hpu⟩:=evalPure_sound hT h0 (he _) (fun c hc=>by cases hc)
 have hr':SR g w σ k v (.agg (cells fun s=>a.tmps.getD s undef)):=hr
 have h1:=hs.put hd hpu rfl hr'
 have hts:a.tmps.size = X.n:=hs.size
 have htd:(a.put (some d) v).tmps.getD d undef = v:=by rw [tmps_put _ _ _ _ (by rw [hts]; exact hd),if_pos rfl]
 obtain ⟨vs,hv,hsz,hc⟩:=hr
 obtain ⟨g',h2⟩:=Sat.givesB (d:=d) ss h1 hn (by rw [get_put,if_pos rfl]) fun p hp=>by
  obtain ⟨e1,e2,_⟩:=hss p hp
  refine ⟨e1,by rw [get_put,if_neg e1,e2]; rfl,vs,by rw [htd,hv],?_⟩
  obtain ⟨u,hu',hru⟩:=hc _ _ (hu _ p hp)
  rw [tmps_put _ _ _ _ (by rw [hts]; exact hd),if_neg e1,hu',rel_sc hru]
 replace h2:=h2.keep ks nh hn0 h2.h0
 rw [hf] at h2
 exact ⟨_,w,_,hrun,.inl ⟨v,rfl,by rw [hdst]; exact h2⟩⟩
end

section
variable {F:Cfg} {Q:Exit → AState → Prop} {σ:AState} {ops:Array Oper}

theorem AOne.comes {i:Nat} {σ':AState} (o:Oper) (ho:ops[i]? = some o) (hg:guardV ops σ o = some true) (hc:∀ w0 g0 g a w,Sat (F.ctx w0 g0) g σ a w → Comes2 (F.ctx w0 g0) σ' a w o):AOne F ops i σ σ':=fun w0 g0 g a w hs K Q h=>by
 simp only [wpOp,ho]
 rw [if_pos (guardV_sound hs hg)]
 left
 obtain ⟨n,w',g',hrun,hn⟩:=hc w0 g0 g a w hs
 have hrun':(execOp a.eval o).run F.P w = .ok n w':=hrun
 unfold Oper.wp
 rw [hrun']
 rcases hn with ⟨v,rfl,hs'⟩ | ⟨rfl,hs'⟩
 ·exact h g' _ w' hs'
 ·exact h g' _ w' hs'

def dstOk (n:Nat) (o:Oper):Bool:=match o.dst with | some d=>Nat.blt d n | none=>true

theorem dstOk_lt {n:Nat} {o:Oper} (h:dstOk n o = true) (d:Nat) (hd:o.dst = some d):d < n:=by
 unfold dstOk at h
 rw [hd] at h
 exact Nat.le_of_ble_eq_true h

/-- A store or a box of what a slot owns; less is kept behind it. -/
def evalOwn (T:Tab) (σ:AState) (o:Oper):Option AState:=match evalStoreOwn T σ o with | some x=>some x | none=>evalBoxOwn σ o

theorem AOne.own {i:Nat} {σ':AState} (o:Oper) (ho:ops[i]? = some o) (hg:guardV ops σ o = some true) (hd:dstOk F.n o = true) (he:evalOwn F.T σ o = some σ'):AOne F ops i σ σ' :=
 AOne.comes o ho hg fun w0 g0 g a w hs=>by
  unfold evalOwn at he
  split at he
  ·rename_i x hx
   cases he
   exact storeOwn_sound F.ok hs hx
  ·exact boxOwn_sound hs he fun d h=>dstOk_lt hd d h

theorem AOne.buildOwn {i:Nat} {σ':AState} (o:Oper) (ho:ops[i]? = some o) (hg:guardV ops σ o = some true) {t:TypeId} {parts:Array (Nat × Operand)} (hop:o.op = .build t parts) (d:Nat) (hdst:o.dst = some d) (hlt:Nat.blt d F.n = true) (ss:List (Nat × Nat × TV)) (hn:(ss.map (·.1)).Nodup)
  (hss:∀ p ∈ ss,p.1 ≠ d ∧ σ.get p.1 = .tv p.2.2 ∧ p.2.2 ≠ .hole) (cells:(Nat → Value) → List TV)
  (he:∀ U,(evalPure F.T (forgets U ss σ) o.op) = some ([],.agg (cells U))) (hu:∀ U,∀ p ∈ ss,(cells U)[p.2.1]? = some (.sc (U p.1))) (ks:List Nat) (nh:Nat) (hn0:F.h0 ≤ nh) (hf:∀ U,(givesB d ss (σ.put d (.agg (cells U)))).keep ks nh = σ'):AOne F ops i σ σ' :=
 AOne.comes o ho hg fun w0 g0 g a w hs=>buildOwn_sound F.ok hs hop hdst (Nat.le_of_ble_eq_true hlt) ss hn hss cells he hu ks nh hn0 hf

/-! ### An alias becomes the owner -/

def okVoidB (σ:AState):Root → Bool
 | .slot s j=>match σ.get s with | .tv _=>Nat.beq j 0 | .agg _=>true | .tup vs=>vs.all SV.tvOrPure | _=>false
 | .cell _ _=>true
 | .obj _=>false

theorem okVoid_of {r:Root} (h:okVoidB σ r = true):okVoid σ r:=by
 cases r with
 | cell=>trivial
 | obj=>cases h
 | slot s j =>
  simp only [okVoidB,okVoid] at h ⊢
  revert h
  generalize σ.get s = sv
  intro h
  cases sv with
  | tv x=>exact Nat.eq_of_beq_eq_true h
  | agg cs=>trivial
  | tup vs=>exact h
  | _=>cases h

theorem AWp.claim {c:Code} (d:Nat) (r:Root) (x:TV) (hd:σ.get d = .al (r,[])) (hx:σ.rootTV r = some x) (hne:apartR r (.slot d 0) = true) (ov:okVoidB σ r = true) (h:AWp F c Q (σ.give r (.slot d 0) x)):AWp F c Q σ:=fun w0 g0 _ a w hs =>
 h w0 g0 _ a w (hs.claim hd hx hne (okVoid_of ov))

theorem AOps.claim {l:List Nat} (d:Nat) (r:Root) (x:TV) (hd:σ.get d = .al (r,[])) (hx:σ.rootTV r = some x) (hne:apartR r (.slot d 0) = true) (ov:okVoidB σ r = true) (h:AOps F ops Q l (σ.give r (.slot d 0) x)):AOps F ops Q l σ:=fun w0 g0 _ a w hs =>
 h w0 g0 _ a w (hs.claim hd hx hne (okVoid_of ov))

theorem AAny.claim {K:AState → Prop} {fuel:Nat} {ls:Array Bool} (d:Nat) (r:Root) (x:TV) (hd:σ.get d = .al (r,[])) (hx:σ.rootTV r = some x) (hne:apartR r (.slot d 0) = true) (ov:okVoidB σ r = true) (h:AAny F ops K fuel ls (σ.give r (.slot d 0) x)):AAny F ops K fuel ls σ:=fun w0 g0 _ a w hb hs =>
 h w0 g0 _ a w hb (hs.claim hd hx hne (okVoid_of ov))

theorem AWp.retell {c:Code} (o i:Nat) {y y':TV} (hy:σ.rootTV (.cell o i) = some y) (R:Retell y y') (h:AWp F c Q (σ.setCell o i y')):AWp F c Q σ:=fun w0 g0 _ a w hs =>
 h w0 g0 _ a w (hs.retell hy R)

theorem AOps.retell {l:List Nat} (o i:Nat) {y y':TV} (hy:σ.rootTV (.cell o i) = some y) (R:Retell y y') (h:AOps F ops Q l (σ.setCell o i y')):AOps F ops Q l σ:=fun w0 g0 _ a w hs =>
 h w0 g0 _ a w (hs.retell hy R)

theorem AAny.retell {K:AState → Prop} {fuel:Nat} {ls:Array Bool} (o i:Nat) {y y':TV} (hy:σ.rootTV (.cell o i) = some y) (R:Retell y y') (h:AAny F ops K fuel ls (σ.setCell o i y')):AAny F ops K fuel ls σ:=fun w0 g0 _ a w hb hs =>
 h w0 g0 _ a w hb (hs.retell hy R)

end
end Go.Sx

namespace Go.Sx
open Go

section
variable {F:Cfg} {K:AState → Prop} {σ:AState} {ops:Array Oper} {fuel:Nat} {listed:Array Bool}

/-- Each of these may come up. -/
def AEach (F:Cfg) (ops:Array Oper) (K:AState → Prop) (fuel:Nat) (listed:Array Bool) (σ:AState) (rs:List Nat):Prop :=
 ∀ i ∈ rs,∃ σ',AOne F ops i σ σ' ∧ AAny F ops K fuel (listed.setIfInBounds i true) σ'

theorem AAny.each (rs:List Nat) (hr:Region.ready .any ops listed = rs) (hne:rs.isEmpty = false) (h:AEach F ops K fuel listed σ rs):AAny F ops K (fuel + 1) listed σ :=
 AAny.all rs hr (by intro e; rw [e] at hne; cases hne) h

theorem AEach.nil:AEach F ops K fuel listed σ []:=fun _ hi=>nomatch hi

theorem AEach.one {i:Nat} {rs:List Nat} {σ1:AState} (h1:AOne F ops i σ σ1) (h:AAny F ops K fuel (listed.setIfInBounds i true) σ1) (hr:AEach F ops K fuel listed σ rs):AEach F ops K fuel listed σ (i :: rs):=fun j hj=>by
 rcases List.mem_cons.1 hj with rfl | hj
 ·exact ⟨σ1,h1,h⟩
 ·exact hr j hj

theorem AEach.step {i:Nat} {rs:List Nat} (cs:List Prop) (ls':Array Bool) (hls:listed.setIfInBounds i true = ls') (ks:List Nat) (nh:Nat) (σ':AState) (he:(stepOp F.T F.n ops σ i).map (fun r=>(r.1,r.2.keep ks nh)) = some (cs,σ')) (hn:F.h0 ≤ nh) (hc:AllP cs) (h:AAny F ops K fuel ls' σ') (hr:AEach F ops K fuel listed σ rs):AEach F ops K fuel listed σ (i :: rs):=by
 obtain ⟨⟨cs',σ1⟩,h1,h2⟩:=Option.map_eq_some_iff.1 he
 cases h2
 subst hls
 exact AEach.one (AOne.step h1 hc.mem) (AAny.keep ks nh hn h) hr

/-- What is reached in more than one way. -/
theorem AAny.share (fuel1:Nat) (ls1:Array Bool) (σ1:AState) (h:AAny F ops K fuel1 ls1 σ1) (c:AAny F ops K fuel1 ls1 σ1 → AAny F ops K fuel listed σ):AAny F ops K fuel listed σ:=c h
end
end Go.Sx

namespace Go.Sx
open Go

theorem run_mapM {P:Program} (G:ResultVar → Sem Value) (R:Nat → ResultVar) (φ:Nat → Value) (w:World):∀ l:List Nat,(∀ r ∈ l,(G (R r)).run P w = .ok (φ r) w) → (((l.map R).toArray.mapM G:Sem (Array Value))).run P w = .ok (l.map φ).toArray w:=by
 intro l h
 rw [List.mapM_toArray]
 have:∀ l:List Nat,(∀ r ∈ l,(G (R r)).run P w = .ok (φ r) w) → ((l.map R).mapM G:Sem (List Value)).run P w = .ok (l.map φ) w:=by
  intro l
  induction l with
  | nil=>intro _; rfl
  | cons x r ih =>
   intro h
   rw [List.map_cons,List.mapM_cons,Sem.run_bind,h x (by simp)]
   simp only [Result.andThen]
   rw [Sem.run_bind,ih fun r hr=>h r (by simp [hr])]
   rfl
 rw [map_eq_pure_bind,Sem.run_bind,this l h]
 rfl

theorem load_cell {F:Cfg} {w0:World} {g0 g:Gh} {a:Act} {w:World} {σ:AState} (hs:Sat (F.ctx w0 g0) g σ a w) {rc t:Nat} {cells0:List TV} {sv:SV} (hx:σ.ev (.tmp rc) = .rp cells0) (hld:evalPure F.T σ (.load t (.tmp rc)) = some ([],sv)) :
  ∃ v,(do loadVar t (← asAddr (a.tmps.getD rc undef)):Sem Value).run F.P w = .ok v w ∧ (∃ k,SR g w σ k v sv) ∧ sv.pure = true:=by
 obtain ⟨v,h1,h2⟩:=load_still (X:=F.ctx w0 g0) F.ok hs (o:={ (default:Oper) with op:=.load t (.tmp rc) }) rfl hld hx
 refine ⟨v,?_,h2⟩
 have h3:=h1 w fun _ _=>rfl
 simp only [execOp] at h3
 obtain ⟨k,hk⟩:=ev_rel hs (.tmp rc)
 rw [hx] at hk
 obtain ⟨b,off,hvp,_⟩:=hk
 have e:a.eval (.tmp rc) = a.tmps.getD rc undef:=rfl
 rw [e] at h3 hvp
 rw [hvp] at h3 ⊢
 have key:∀ s:Sem Value,((do let x ← s; pure (Next.value x)):Sem Next).run F.P w = .ok (.value v) w → s.run F.P w = .ok v w:=by
  intro s hs
  rw [Sem.run_bind] at hs
  cases hr:s.run F.P w with
  | ok x w' =>
   rw [hr] at hs
   simp only [Result.andThen,Sem.run_pure] at hs
   cases hs
   rfl
  | halt x w'=>rw [hr] at hs; simp only [Result.andThen] at hs; cases hs
 exact key _ h3

/-- One result, in a cell. -/
theorem ACall.of1c (F:Cfg) {f:FuncId} {fn:Func} {c:Code} {r t:Nat} {args:List SV} {hin:List AObj} {res:SV} {cells0:List TV} {hout:List AObj} (hf:F.P.funcs[f]? = some fn) (hb:fn.body = some c) (hn:fn.ntmps = F.n) (hr:fn.results = #[.cell r t])
  (ha:args.length ≤ F.n) (hh:F.h0 = hin.length) (hc:res.closed = true) (hlt:Nat.blt r F.n = true) (hld:evalPure F.T ⟨[(r,.rp cells0)],hout⟩ (.load t (.tmp r)) = some ([],res)) (hnm:res.names (under r) = false) (ks:List Nat) (nh:Nat) (hnh:F.h0 ≤ nh) (hput:((⟨[(r,.rp cells0)],hout⟩:AState).put r res).keep ks nh = ⟨[(r,res)],hout⟩)
  (h:AWp F c (fun e σ=>(e = .normal ∨ e = .ret) ∧ σ = ⟨[(r,.rp cells0)],hout⟩) (start args hin)):ACall F.P f args hin res hout:=by
 intro g w vs he
 refine calls_of_wp hf hb ?_
 rw [hn]
 refine wp_mono (h w g g _ w (he.sat ha hh)) fun e a' w' hQ=>?_
 obtain ⟨σ',g',⟨hq,hσ⟩,hs⟩:=hQ
 subst hσ
 obtain ⟨v,hv,⟨k,hrel⟩,hpu⟩:=load_cell hs (show (⟨[(r,.rp cells0)],hout⟩:AState).ev (.tmp r) = .rp cells0 by simp [AState.ev,AState.get,lookS]) hld
 have hres:(results fn a'.tmps).run F.P w' = .ok v w':=by
  unfold results
  rw [hr]
  have e:(#[ResultVar.cell r t]:Array ResultVar) = ([r].map fun r=>.cell r t).toArray:=rfl
  rw [e,Sem.run_bind,run_mapM (P:=F.P) _ (fun r=>.cell r t) (fun _=>v) w' [r] (by intro q hq; rw [List.mem_singleton.1 hq]; exact hv)]
  rfl
 have hs1:=hs.put (Nat.le_of_ble_eq_true hlt) hpu hnm hrel
 have hs2:=hs1.keep ks nh hnh hs1.h0
 rw [hput] at hs2
 have hext:=hs2.toExt hc
 have hsz:r < a'.tmps.size:=by rw [hs.size]; exact Nat.le_of_ble_eq_true hlt
 have hg:(a'.put (some r) v).tmps.getD r undef = v:=by simp [Act.put,hsz]
 rw [hg,hh] at hext
 rcases hq with rfl | rfl
 ·exact ⟨hs.defers,_,hres,_,_,rfl,hext⟩
 ·exact ⟨hs.defers,_,hres,_,_,rfl,hext⟩

end Go.Sx

namespace Go.Sx
open Go

section
variable {X:Ctx} {g:Gh} {σ:AState} {a:Act} {w:World}

theorem Sat.retellAt (h:Sat X g σ a w) {o i:Nat} {y y':TV} (hy:σ.rootTV (.cell o i) = some y) (hlk:∀ st z e n f,fromTV st (some y) = some (.own z e n f) → ∃ f',fromTV st (some y') = some (.own z e n f'))
  (hrel:∀ c t u,w.heap[g.m o]? = some (.cells c t (0,0)) → c[i]? = some u → TRel g w (.cell o i,[]) u y → TRel g w (.cell o i,[]) u y'):Sat X g (σ.setCell o i y') a w:=by
 have hlen:(σ.setCell o i y').heap.length = σ.heap.length:=by simp only [AState.setCell,setCells_length]
 have hroot:∀ q:Root,q ≠ .cell o i → (σ.setCell o i y').rootTV q = σ.rootTV q:=fun q hq=>by
  cases q with
  | slot k j=>rfl
  | obj o=>rfl
  | cell o' i' =>
   simp only [AState.rootTV,AState.setCell]
   by_cases hoo:o' = o
   ·subst hoo
    cases hh:σ.heap[o']? with
    | none=>rw [List.getElem?_eq_none (by rw [setCells_length]; exact List.getElem?_eq_none_iff.1 hh)]
    | some ob =>
     cases ob with
     | cells t cs =>
      rw [setCells_eq _ hh]
      simp only
      rw [List.getElem?_set_ne (fun e=>hq (by rw [e]))]
     | dead =>
      have:∀ (h:List AObj) (o:Nat),h[o]? = some .dead → (setCells h o (fun cs=>cs.set i y'))[o]? = some .dead:=by
       intro h
       induction h with
       | nil=>intro o h; simp at h
       | cons x r ih =>
        intro o h
        cases o with
        | zero=>simp only [List.getElem?_cons_zero,Option.some.injEq] at h; subst h; rfl
        | succ o=>cases x <;> (simp only [setCells,List.getElem?_cons_succ] at h ⊢; exact ih o h)
      rw [this _ _ hh]
   ·rw [setCells_ne _ _ _ _ hoo]
 have hrooti:(σ.setCell o i y').rootTV (.cell o i) = some y':=by
  simp only [AState.rootTV] at hy ⊢
  split at hy
  ·rename_i t cs hh
   simp only [AState.setCell]
   rw [setCells_eq _ hh]
   simp only
   rw [List.getElem?_set,if_pos rfl,if_pos (List.getElem?_eq_some_iff.1 hy).1]
  ·cases hy
 have hlook:∀ (p:Path) z e n f,σ.look p = some (.own z e n f) → ∃ f',(σ.setCell o i y').look p = some (.own z e n f'):=fun p z e n f hl=>by
  obtain ⟨q,st⟩:=p
  by_cases hq:q = .cell o i
  ·subst hq
   have e1:σ.look (.cell o i,st) = fromTV st (some y):=by simp only [AState.look,fromTV,hy]
   have e2:(σ.setCell o i y').look (.cell o i,st) = fromTV st (some y'):=by simp only [AState.look,fromTV,hrooti]
   rw [e1] at hl
   rw [e2]
   exact hlk st z e n f hl
  ·exact ⟨f,by simp only [AState.look,hroot q hq]; exact hl⟩
 refine ⟨h.defers,h.size,fun k=>?_,fun o' t cs' ho'=>?_,h.inj,h.frozen,h.lt,fun b p hb=>by rw [hlen]; exact h.ids b p hb,h.P0,h.P1,h.kept,h.os,h.tape,h.output,h.mono,h.m0,by rw [hlen]; exact h.h0⟩
 ·exact (h.env k).mono ⟨fun b hb=>⟨hb,rfl⟩,fun j b st hb=>⟨hb,rfl⟩⟩ fun p _=>⟨fun b hb=>⟨hb,fun c e hc=>⟨c,hc,rfl⟩⟩,hlook p,fun o' _ hlt=>⟨rfl,by rw [hlen]; exact hlt⟩⟩
 ·by_cases hoo:o' = o
  ·subst hoo
   simp only [AState.setCell] at ho'
   obtain ⟨cs,e0,rfl⟩:=setCells_some _ ho'
   obtain ⟨c,k1,k2,k3,k4⟩:=h.heap o' t cs e0
   refine ⟨c,k1,k2,by simp [k3],fun q z hz=>?_⟩
   rw [List.getElem?_set] at hz
   split at hz
   ·rename_i e
    subst e
    split at hz
    ·cases hz
     have:cs[i]? = some y:=by simp only [AState.rootTV,e0] at hy; exact hy
     obtain ⟨u,hu,hr⟩:=k4 i y this
     exact ⟨u,hu,hrel _ _ _ k1 hu hr⟩
    ·cases hz
   ·exact k4 q z hz
  ·simp only [AState.setCell] at ho'
   rw [setCells_ne _ _ _ _ hoo] at ho'
   exact h.heap o' t cs' ho'

/-- A block that nobody owns lies still from here on. -/
theorem Sat.addP (h:Sat X g σ a w) {b:Nat} (h1:g.ow b = none) (h2:b < w.heap.size) (h3:X.w0.heap.size ≤ b ∨ X.g0.ow b ≠ none):Sat X (g.frz b) σ a w:=by
 have how:(g.frz b).ow = g.ow:=by
  funext k
  by_cases e:k = b
  ·subst e; simp [Gh.frz,h1]
  ·exact frz_ne e
 refine ⟨h.defers,h.size,fun k=>?_,fun o t cs ho=>?_,fun b1 b2 p hb hb'=>h.inj b1 b2 p (how ▸ hb) (how ▸ hb'),fun b1 hb=>?_,fun b1 p hb=>h.lt b1 p (how ▸ hb),fun b1 p hb=>h.ids b1 p (how ▸ hb),fun b1 hb=>?_,fun b1 hb=>.inl (h.P1 b1 hb),h.kept,h.os,h.tape,h.output,h.mono,h.m0,h.h0⟩
 ·exact (h.env k).mono (g':=g.frz b) ⟨fun b hb=>⟨.inl hb,rfl⟩,fun j b st hb=>⟨by rw [how]; exact hb,rfl⟩⟩ fun p _=>⟨fun b hb=>⟨by rw [how]; exact hb,fun c e hc=>⟨c,hc,rfl⟩⟩,fun z e n f hl=>⟨f,hl⟩,fun o' _ hlt=>⟨rfl,hlt⟩⟩
 ·obtain ⟨c,k1,k2,k3,k4⟩:=h.heap o t cs ho
  refine ⟨c,k1,by rw [how]; exact k2,k3,fun i y hy=>?_⟩
  obtain ⟨u,hu,hr⟩:=k4 i y hy
  exact ⟨u,hu,hr.mono (g':=g.frz b) (fun b hb=>⟨.inl hb,rfl⟩) fun b st hb=>⟨by rw [how]; exact hb,rfl⟩⟩
 ·rw [how]
  rcases hb with hb | rfl
  ·exact h.frozen b1 hb
  ·exact ⟨h1,h2⟩
 ·rcases hb with hb | rfl
  ·exact h.P0 b1 hb
  ·exact .inr h3

theorem fromTV_hole:∀ (st:Steps) {y:TV},fromTV st (some .hole) = some y → y = .hole
 | [],y,h=>by cases h; rfl
 | ij :: st,y,h=>by
  rw [fromTV_cons] at h
  obtain ⟨y0,h0,he⟩:=Option.bind_eq_some_iff.1 h
  rw [fromTV_hole st h0] at he
  cases he

/-- What freezing an object's own cell leaves. -/
def AState.frzCell (σ:AState) (o i:Nat) (y:TV):AState:=(σ.kill (.cell o i)).setCell o i y

theorem Sat.freezeCell (h:Sat X g σ a w) {o i:Nat} {z:Nat} {e:TypeId} {n:Nat} {f:Nat → List TV} (hx:σ.rootTV (.cell o i) = some (.own z e n f)) (hp:PlainTo n f) :
  ∃ g',Sat X g' (σ.frzCell o i (.fz z n f)) a w:=by
 obtain ⟨t,cs,ho,hc⟩:∃ t cs,σ.heap[o]? = some (.cells t cs) ∧ cs[i]? = some (.own z e n f):=by
  simp only [AState.rootTV] at hx
  split at hx
  ·rename_i t cs ho; exact ⟨t,cs,ho,hx⟩
  ·cases hx
 obtain ⟨c,k1,k2,k3,k4⟩:=h.heap o t cs ho
 obtain ⟨u,hu,hr⟩:=k4 i _ hc
 have hk:=h.kill (r:=.cell o i) (by intro o h; cases h)
 have hroot:(σ.kill (.cell o i)).rootTV (.cell o i) = some .hole:=by
  simp only [AState.rootTV,AState.kill]
  rw [setCells_eq _ ho]
  simp only [holeAt]
  rw [List.getElem?_set,if_pos rfl,if_pos (List.getElem?_eq_some_iff.1 hc).1]
 have hlk:∀ st z' e' n' f',fromTV st (some .hole) = some (.own z' e' n' f') → ∃ f'',fromTV st (some (.fz z n f)) = some (.own z' e' n' f''):=fun st z' e' n' f' hh=>by cases fromTV_hole st hh
 rcases own_inv hr with ⟨hv,hn⟩ | ⟨b,cap,c',cs',h1,hv,h3,h4,h5,h6,h7,h8,h9⟩
 ·subst hn
  refine ⟨_,hk.retellAt hroot hlk fun c0 t0 u0 hc0 hu0 _=>?_⟩
  have e1:(g.clr (rootR (.cell o i))).m o = g.m o:=rfl
  rw [e1,k1] at hc0
  cases hc0
  rw [hu] at hu0
  cases hu0
  rw [hv]
  exact .fr (.nil _ _ _ _)
 ·have hb1:(g.clr (rootR (.cell o i))).ow b = none:=by
   cases hq:(g.clr (rootR (.cell o i))).ow b with
   | none=>rfl
   | some p =>
    obtain ⟨q1,q2⟩:=clr_some.1 hq
    rw [h1] at q1
    cases q1
    simp [rootR] at q2
  have hl:=h.lt b _ h1
  refine ⟨_,(hk.addP hb1 hl.1 hl.2).retellAt hroot hlk fun c0 t0 u0 hc0 hu0 _=>?_⟩
  have e1:((g.clr (rootR (.cell o i))).frz b).m o = g.m o:=rfl
  rw [e1,k1] at hc0
  cases hc0
  rw [hu] at hu0
  cases hu0
  rw [hv]
  refine .fr (.row b 0 cap z n f cs' (.inr rfl) h5 h6 h7 (fun i j y hi hy=>?_) fun i j y hi hy=>?_)
  ·rw [Nat.zero_add]
   exact (h3.cell (i * z + j)).trans (h8 i j y hi hy)
  ·have hpl:y.plain = true:=by
    have:=hp i hi
    rw [List.all_eq_true] at this
    exact this y (List.mem_of_getElem? hy)
   exact ((h9 i j y hi hy).plain hpl).mono fun b' hb'=>⟨.inl hb',rfl⟩
end

section
variable {F:Cfg} {Q:Exit → AState → Prop} {σ:AState} {ops:Array Oper}

theorem getL_plain {A:Type} [Inhabited A] (enc:A → List TV) (xs:List A) (h:∀ x,(enc x).all TV.plain = true) (n:Nat):PlainTo n (fun i=>enc (xs.getD i default)):=fun _ _=>h _

theorem AWp.freezeC {c:Code} (o i:Nat) {z:Nat} {e:TypeId} {A:Type} [Inhabited A] (enc:A → List TV) (xs:List A) (hx:σ.rootTV (.cell o i) = some (ownL z e enc xs)) (hp:∀ x,(enc x).all TV.plain = true) (h:AWp F c Q (σ.frzCell o i (fzL z enc xs))):AWp F c Q σ:=fun w0 g0 _ a w hs=>by
 obtain ⟨g',hs'⟩:=hs.freezeCell hx (getL_plain enc xs hp _)
 exact h w0 g0 g' a w hs'

theorem AOps.freezeC {l:List Nat} (o i:Nat) {z:Nat} {e:TypeId} {A:Type} [Inhabited A] (enc:A → List TV) (xs:List A) (hx:σ.rootTV (.cell o i) = some (ownL z e enc xs)) (hp:∀ x,(enc x).all TV.plain = true) (h:AOps F ops Q l (σ.frzCell o i (fzL z enc xs))):AOps F ops Q l σ:=fun w0 g0 _ a w hs=>by
 obtain ⟨g',hs'⟩:=hs.freezeCell hx (getL_plain enc xs hp _)
 exact h w0 g0 g' a w hs'

theorem AAny.freezeC {K:AState → Prop} {fuel:Nat} {ls:Array Bool} (o i:Nat) {z:Nat} {e:TypeId} {A:Type} [Inhabited A] (enc:A → List TV) (xs:List A) (hx:σ.rootTV (.cell o i) = some (ownL z e enc xs)) (hp:∀ x,(enc x).all TV.plain = true) (h:AAny F ops K fuel ls (σ.frzCell o i (fzL z enc xs))):AAny F ops K fuel ls σ:=fun w0 g0 _ a w hb hs=>by
 obtain ⟨g',hs'⟩:=hs.freezeCell hx (getL_plain enc xs hp _)
 exact h w0 g0 g' a w hb hs'
end
end Go.Sx

namespace Go.Sx
open Go

/-- The same cells, but that nil slices may be told as slices that hold nothing and lie still. -/
inductive NilL:List TV → List TV → Prop
 | done:NilL [] []
 | keep {x:TV} {r r':List TV}:NilL r r' → NilL (x :: r) (x :: r')
 | nil {z:Nat} {f:Nat → List TV} {r r':List TV}:NilL r r' → NilL (.sc (.slice none 0 0) :: r) (.fz z 0 f :: r')
 | own {z:Nat} {e:TypeId} {f:Nat → List TV} {r r':List TV}:NilL r r' → NilL (.sc (.slice none 0 0) :: r) (.own z e 0 f :: r')

theorem NilL.len {r r':List TV} (h:NilL r r'):r'.length = r.length:=by
 induction h with
 | done=>rfl
 | keep _ ih=>simp [ih]
 | nil _ ih=>simp [ih]
 | own _ ih=>simp [ih]

theorem NilL.at {r r':List TV} (h:NilL r r'):∀ {j:Nat} {y':TV},r'[j]? = some y' → ∃ y,r[j]? = some y ∧ (y = y' ∨ y = .sc (.slice none 0 0) ∧ ((∃ z f,y' = .fz z 0 f) ∨ ∃ z e f,y' = .own z e 0 f)):=by
 induction h with
 | done=>intro j y' h; simp at h
 | keep _ ih =>
  intro j y' h
  cases j with
  | zero=>exact ⟨_,rfl,.inl (by simpa using h)⟩
  | succ j=>exact ih h
 | nil _ ih =>
  intro j y' h
  cases j with
  | zero=>exact ⟨_,rfl,.inr ⟨rfl,.inl ⟨_,_,by simpa using h.symm⟩⟩⟩
  | succ j=>exact ih h
 | own _ ih =>
  intro j y' h
  cases j with
  | zero=>exact ⟨_,rfl,.inr ⟨rfl,.inr ⟨_,_,_,by simpa using h.symm⟩⟩⟩
  | succ j=>exact ih h

theorem NilL.back {r r':List TV} (h:NilL r r'):∀ {j:Nat} {y:TV},r[j]? = some y → ∃ y',r'[j]? = some y' ∧ (y = y' ∨ y = .sc (.slice none 0 0)):=by
 induction h with
 | done=>intro j y h; simp at h
 | keep _ ih =>
  intro j y h
  cases j with
  | zero=>exact ⟨_,rfl,.inl (by simpa using h.symm)⟩
  | succ j=>exact ih h
 | nil _ ih =>
  intro j y h
  cases j with
  | zero=>exact ⟨_,rfl,.inr (by simpa using h.symm)⟩
  | succ j=>exact ih h
 | own _ ih =>
  intro j y h
  cases j with
  | zero=>exact ⟨_,rfl,.inr (by simpa using h.symm)⟩
  | succ j=>exact ih h

theorem NilL.drop {r r':List TV} (h:NilL r r'):∀ n,NilL (r.drop n) (r'.drop n):=by
 induction h with
 | done=>intro n; simp; exact .done
 | keep h ih =>
  intro n
  cases n with
  | zero=>exact .keep h
  | succ n=>exact ih n
 | nil h ih =>
  intro n
  cases n with
  | zero=>exact .nil h
  | succ n=>exact ih n
 | own h ih =>
  intro n
  cases n with
  | zero=>exact .own h
  | succ n=>exact ih n

theorem NilL.take {r r':List TV} (h:NilL r r'):∀ n,NilL (r.take n) (r'.take n):=by
 induction h with
 | done=>intro n; simp; exact .done
 | keep h ih =>
  intro n
  cases n with
  | zero=>exact .done
  | succ n=>exact .keep (ih n)
 | nil h ih =>
  intro n
  cases n with
  | zero=>exact .done
  | succ n=>exact .nil (ih n)
 | own h ih =>
  intro n
  cases n with
  | zero=>exact .done
  | succ n=>exact .own (ih n)

theorem Retell.nilRow {z:Nat} {e:TypeId} {n:Nat} {f f':Nat → List TV} (hf:∀ i,i < n → NilL (f i) (f' i)):Retell (.own z e n f) (.own z e n f'):=by
 refine ⟨fun g w p v h=>?_,fun st=>?_⟩
 ·rcases own_inv h with ⟨rfl,rfl⟩ | ⟨b,cap,c,cs,h1,rfl,h3,h4,h5,h6,h7,h8,h9⟩
  ·exact .nil _ _ _
  ·refine .own b cap z e n f' c cs h1 h3 h4 h5 h6 (fun i hi=>(hf i hi).len.trans (h7 i hi)) (fun i j y hi hy=>?_) (fun i j y hi hy=>?_)
   ·obtain ⟨y0,hy0,_⟩:=(hf i hi).at hy
    exact h8 i j y0 hi hy0
   ·obtain ⟨y0,hy0,rfl | ⟨rfl,⟨z',f0,rfl⟩ | ⟨z',e',f0,rfl⟩⟩⟩:=(hf i hi).at hy
    ·exact h9 i j y0 hi hy0
    ·have:=h9 i j _ hi hy0
     rw [rel_sc this]
     exact .fr (.nil none 0 z' f0)
    ·have:=h9 i j _ hi hy0
     rw [rel_sc this]
     exact .nil z' e' f0
 ·intro z2 e2 n2 f2 hl
  have key:∀ (st:Steps) {y:TV},fromTV st (some (.own z e n f)) = some y → (∃ f0 f0' ,y = .own z e n f0 ∧ st = [] ∧ f0 = f ∧ f0' = f') ∨ (∃ y',fromTV st (some (.own z e n f')) = some y' ∧ (y = y' ∨ y = .sc (.slice none 0 0))):=by
   intro st
   induction st with
   | nil=>intro y h; cases h; exact .inl ⟨f,f',rfl,rfl,rfl,rfl⟩
   | cons ij st ih =>
    intro y h
    rw [fromTV_cons] at h
    obtain ⟨y0,h0,he⟩:=Option.bind_eq_some_iff.1 h
    right
    rw [fromTV_cons]
    rcases ih h0 with ⟨f0,f0',rfl,rfl,rfl,rfl⟩ | ⟨y',h1,rfl | rfl⟩
    ·simp only [elemTV] at he
     by_cases hi:ij.1 < n
     ·rw [decide_eq_true hi] at he
      obtain ⟨y',hy',h2⟩:=(hf _ hi).back he
      refine ⟨y',?_,h2⟩
      simp only [fromTV,List.foldr_nil,Option.bind_some,elemTV]
      rw [decide_eq_true hi]
      exact hy'
     ·rw [decide_eq_false hi] at he
      cases he
    ·exact ⟨y,by rw [h1,Option.bind_some]; exact he,.inl rfl⟩
    ·cases he
  rcases key st hl with ⟨f0,f0',h0,rfl,_,_⟩ | ⟨y',h1,rfl | h2⟩
  ·cases h0
   exact ⟨f',rfl⟩
  ·exact ⟨f2,h1⟩
  ·cases h2

section
variable {X:Ctx} {g:Gh} {σ:AState} {a:Act} {w:World}

/-- What a slot holds told otherwise. -/
theorem Sat.retellS (h:Sat X g σ a w) {s:Nat} {y y':TV} (hx:σ.get s = .tv y) (R:Retell y y'):Sat X g (σ.set s (.tv y')) a w:=by
 have hlook:∀ (p:Path) z e n f,σ.look p = some (.own z e n f) → ∃ f',(σ.set s (.tv y')).look p = some (.own z e n f'):=fun p z e n f hl=>by
  obtain ⟨q,st⟩:=p
  by_cases hq:q = .slot s 0
  ·subst hq
   have r0:σ.rootTV (.slot s 0) = some y:=by simp only [AState.rootTV,hx]
   have r1:(σ.set s (.tv y')).rootTV (.slot s 0) = some y':=by simp only [AState.rootTV,get_set,if_true]
   have e1:σ.look (.slot s 0,st) = fromTV st (some y):=by simp only [AState.look,fromTV,r0]
   have e2:(σ.set s (.tv y')).look (.slot s 0,st) = fromTV st (some y'):=by simp only [AState.look,fromTV,r1]
   rw [e1] at hl
   rw [e2]
   exact R.look st z e n f hl
  ·refine ⟨f,?_⟩
   have:(σ.set s (.tv y')).rootTV q = σ.rootTV q:=by
    cases q with
    | slot k j =>
     simp only [AState.rootTV,get_set]
     by_cases hk:k = s
     ·subst hk
      cases j with
      | zero=>exact absurd rfl hq
      | succ j=>simp only [if_true,hx]
     ·rw [if_neg hk]
    | cell o i=>rfl
    | obj o=>rfl
   simp only [AState.look,this]
   exact hl
 refine ⟨h.defers,h.size,fun q=>?_,h.heap,h.inj,h.frozen,h.lt,h.ids,h.P0,h.P1,h.kept,h.os,h.tape,h.output,h.mono,h.m0,h.h0⟩
 rw [get_set]
 by_cases hq:q = s
 ·subst hq
  simp only [if_true]
  have hs:=h.env q
  rw [hx] at hs
  exact R.rel _ _ _ _ hs
 ·rw [if_neg hq]
  exact (h.env q).mono ⟨fun _ hb=>⟨hb,rfl⟩,fun _ _ _ hb=>⟨hb,rfl⟩⟩ fun p _=>⟨fun b hb=>⟨hb,fun c e hc=>⟨c,hc,rfl⟩⟩,hlook p,fun o _ ho=>⟨rfl,ho⟩⟩
end

section
variable {F:Cfg} {Q:Exit → AState → Prop} {σ:AState} {ops:Array Oper}

theorem nilRowF {l l':List TV} (h:NilL l l') (z n:Nat):∀ i,i < n → NilL (newRowF l z i) (newRowF l' z i):=fun _ _=>(h.drop _).take _

theorem AOps.nilRow {l:List Nat} (s:Nat) {z n:Nat} {e:TypeId} {cs cs':List TV} (hx:σ.get s = .tv (.own z e n (newRowF cs z))) (hl:NilL cs cs') (h:AOps F ops Q l (σ.set s (.tv (.own z e n (newRowF cs' z))))):AOps F ops Q l σ:=fun w0 g0 g a w hs =>
 h w0 g0 g a w (hs.retellS hx (.nilRow (nilRowF hl z n)))

theorem AOps.nilZeros {l:List Nat} (s:Nat) {z n:Nat} {e:TypeId} {cs cs':List TV} (hx:σ.get s = .tv (.own z e n (zerosF cs))) (hl:NilL cs cs') (h:AOps F ops Q l (σ.set s (.tv (.own z e n (zerosF cs'))))):AOps F ops Q l σ:=fun w0 g0 g a w hs =>
 h w0 g0 g a w (hs.retellS hx (.nilRow fun _ _=>hl))

theorem AAny.nilRow {K:AState → Prop} {fuel:Nat} {ls:Array Bool} (s:Nat) {z n:Nat} {e:TypeId} {cs cs':List TV} (hx:σ.get s = .tv (.own z e n (newRowF cs z))) (hl:NilL cs cs') (h:AAny F ops K fuel ls (σ.set s (.tv (.own z e n (newRowF cs' z))))):AAny F ops K fuel ls σ:=fun w0 g0 g a w hb hs =>
 h w0 g0 g a w hb (hs.retellS hx (.nilRow (nilRowF hl z n)))
end
end Go.Sx

namespace Go.Sx
open Go

section
variable {F:Cfg} {Q:Exit → AState → Prop} {σ:AState}

def ARounds (F:Cfg) (c:Code) (Q:Exit → AState → Prop):Nat → AState → Prop
 | 0,_=>False
 | n + 1,σ=>AWp F c (thenQ (ARounds F c Q n) Q) σ

theorem ARounds.step {c:Code} {n:Nat} (h:AWp F c (thenQ (ARounds F c Q n) Q) σ):ARounds F c Q (n + 1) σ:=h

theorem ARounds.rounds {c:Code} (w0:World) (g0:Gh):∀ (n:Nat) (σ:AState) (g:Gh) (a:Act) (w:World),ARounds F c Q n σ → Sat (F.ctx w0 g0) g σ a w → Code.rounds F.P c (QQ (F.ctx w0 g0) Q) n a w
 | 0,_,_,_,_,h,_=>h.elim
 | n + 1,σ,g,a,w,h,hs=>wp_mono (h w0 g0 g a w hs) (QQ_then fun σ' g' a' w' hk hs'=>ARounds.rounds w0 g0 n σ' g' a' w' hk hs')

theorem AWp.rounds {c:Code} (n:Nat) (h:ARounds F c Q n σ):AWp F (.loop c) Q σ:=fun w0 g0 g a w hs =>
 wp_loop_rounds n (ARounds.rounds w0 g0 n σ g a w h hs)
end

end Go.Sx
