
/- What a loop over an iterator wants: operations in a round; a world in which other things than cells turn; no condition. -/
import Derived.Test.YtlfaghcnnlifmaaGreatSxC
import Derived.RangeFuncBox
import Derived.RangeFuncWrites
import Derived.RangeFuncLeaves
import Derived.RangeFuncCalls
import Derived.Shelf.Abstract
import Derived.WalkKit
import Derived.OwnWalkIn
import Derived.TacticsInMore
import Derived.LoopNIn
import Derived.LoopIn
namespace Go.Sx
open Go Go.RowKit

/-- The fence that fences nothing, in a round or in none. -/
def wideR (r:Option Nat):Fence:={ Fence.wide with round:=r }

theorem callsIn_wideR {r:Option Nat} {n:Nat} {P:Program} {f:FuncId} {args:Array Value} {w:World} {R:Ending → World → Prop} (h:Calls P f args w R):CallsIn (wideR r) n P f args w R:=by
 cases r with
 | none=>exact callsIn_wide.2 h
 | some l=>exact CallsIn.inRound l (callsIn_wide.2 h)

theorem rowsIn_wideR {r:Option Nat} {n:Nat} {P:Program} {row:String} {args:Array Value} {w:World} {R:Value → World → Prop} (h:Rows P row args w R):RowsIn (wideR r) n P row args w R:=fun c cs _=>by
 obtain ⟨v,w',hr,hs⟩:=h c cs
 refine ⟨v,w',hr,?_⟩
 cases r with
 | none=>exact stepsIn_wide.2 hs
 | some l=>exact (show StepsIn (Machine.fenced P Fence.wide) P _ _ from stepsIn_wide.2 hs)

/-- No operation is a 'defer' statement. -/
def noDefer (ops:Array Oper):Bool:=ops.all fun o=>match o.op with | .defer _=>false | _=>true

theorem semAt_noDefer {r:Option Nat} {o:Oper} {ρ:Operand → Value} (h:∀ c,o.op ≠ .defer c):o.semAt r ρ = execOp ρ o:=by
 cases r with
 | none=>rfl
 | some l=>exact Oper.semAt_some l ρ o h

section
variable {P:Program} {ops:Array Oper} {Q:Exit → Act → World → Prop}

/-- The same act, with these deferred calls more. -/
def Act.plusD (a:Act) (ds:List Deferred):Act:={ a with defers:=a.defers ++ ds }

theorem plusD_put (a:Act) (ds:List Deferred) (d:Option Tmp) (v:Value):(Act.plusD a ds).put d v = Act.plusD (a.put d v) ds:=by
 cases d <;> rfl

theorem wpOps_in (hnd:noDefer ops = true) (hQ:¬ LetsOut Q) (r:Option Nat) (ds:List Deferred) (n:Nat):∀ (l:List Nat) (a:Act) (w:World),wpOps P ops Q l a w →
  wpOpsIn (wideR r) n P ops (fun e a' w'=>∃ a0,a' = Act.plusD a0 ds ∧ Q e a0 w') l (Act.plusD a ds) w
 | [],a,w,h=>⟨a,rfl,h⟩
 | i :: rest,a,w,h=>by
  simp only [wpOps,wpOpsIn] at h ⊢
  cases ho:ops[i]? with
  | none=>rw [ho] at h; exact wpOps_in hnd hQ r ds n rest a w h
  | some o =>
   rw [ho] at h
   simp only at h ⊢
   have hd:∀ c,o.op ≠ .defer c:=fun c hc=>by
    obtain ⟨hi,he⟩:=Array.getElem?_eq_some_iff.1 ho
    have:=Array.all_eq_true.1 hnd i hi
    rw [he,hc] at this
    cases this
   have ht:(Act.plusD a ds).tmps = a.tmps:=rfl
   have hev:(Act.plusD a ds).eval = a.eval:=rfl
   rw [ht]
   split
   ·rename_i hw
    rw [if_pos hw] at h
    rcases h with h | ⟨_,h⟩
    ·refine ⟨fun _ _=>trivial,?_⟩
     rw [semAt_noDefer hd,hev]
     unfold Oper.wp at h
     cases hr:(execOp a.eval o).run P w with
     | ok x w' =>
      rw [hr] at h
      cases x with
      | value v =>
       show wpOpsIn _ _ _ _ _ _ ((Act.plusD a ds).put o.dst v) w'
       rw [plusD_put]
       exact wpOps_in hnd hQ r ds n rest _ w' h
      | skip =>
       show wpOpsIn _ _ _ _ _ _ ((Act.plusD a ds).put o.dst undef) w'
       rw [plusD_put]
       exact wpOps_in hnd hQ r ds n rest _ w' h
      | defer d =>
       have:=wpOps_in hnd hQ r ds n rest _ w' h
       show wpOpsIn _ _ _ _ _ _ (({ Act.plusD a ds with defers:=d :: (Act.plusD a ds).defers }:Act).put o.dst undef) w'
       have e:(({ Act.plusD a ds with defers:=d :: (Act.plusD a ds).defers }:Act).put o.dst undef) = Act.plusD (({ a with defers:=d :: a.defers }:Act).put o.dst undef) ds:=by
        cases o.dst <;> rfl
       rw [e]
       exact this
      | enter f args =>
       refine ⟨fun h=>(by cases h),callsIn_wideR (Calls.mono h fun e w'' he=>?_)⟩
       cases e with
       | returned v =>
        show wpOpsIn _ _ _ _ _ _ ((Act.plusD a ds).put o.dst v) w''
        rw [plusD_put]
        exact wpOps_in hnd hQ r ds n rest _ w'' he
       | panicked c=>exact ⟨a,rfl,he⟩
       | outgrown=>exact absurd he hQ
      | row row args =>
       refine ⟨fun h=>(by cases h),rowsIn_wideR (Rows.mono h fun v w'' he=>?_)⟩
       show wpOpsIn _ _ _ _ _ _ ((Act.plusD a ds).put o.dst v) w''
       rw [plusD_put]
       exact wpOps_in hnd hQ r ds n rest _ w'' he
      | _=>exact h.elim
     | halt x w' =>
      rw [hr] at h
      cases x <;> first | exact ⟨a,rfl,h⟩ | exact h.elim
    ·exact absurd h hQ
   ·rename_i hw
    rw [if_neg hw] at h
    refine ⟨fun _ _=>trivial,?_⟩
    rw [plusD_put]
    exact wpOps_in hnd hQ r ds n rest _ w h
end

/-! ### Regions in a round -/

section
variable {F:Cfg} {σ:AState} {ops:Array Oper}

theorem notOut {X:Ctx} {J:AState → Prop}:¬ LetsOut (QQ X (NQ J)):=by
 rintro ⟨a,w,σ,g,⟨h,_⟩,_⟩
 cases h

/-- A region that draws its order, in a round (or in an act that has deferred calls). -/
theorem draw_in {id:Nat} (hm:F.P.follows .mixedOrders = true) (hnd:noDefer ops = true) (J:AState → Prop) {m:Nat} (hn:ops.size = m) {ls:Array Bool} (hls:Array.replicate m false = ls) (h:AAny F ops J m ls σ)
  (r:Option Nat) (ds:List Deferred) (n:Nat) {g:Gh} {a:Act} {w:World} (hs:Sat (F.ctx w g) g σ a w) :
  (Code.region id ops true).wpIn (wideR r) n F.P (fun e a' w'=>∃ a0,a' = Act.plusD a0 ds ∧ QQ (F.ctx w g) (NQ J) e a0 w') (Act.plusD a ds) w:=by
 subst hn hls
 have hs':Sat (F.ctx w g) g σ a { w with drawn:=w.drawn + 1 }:=hs.world (SameW.drew w)
 refine wpIn_region_draw fun t=>wpOps_in hnd notOut r ds n _ a _ ?_
 have:=wpAny_of_held (S:=StillW g w) _ _ _ _ (h w g g a _ hs.begun hs')
 simp only [Region.schedule,hm,Bool.true_or,if_true]
 exact wpAny_sound ops.size t _ a _ this

/-- A region that does not. -/
theorem region_in {id:Nat} (hnd:noDefer ops = true) (J:AState → Prop) (h:AOps F ops (NQ J) (List.range ops.size) σ) (r:Option Nat) (ds:List Deferred) (n:Nat) {g:Gh} {a:Act} {w:World} (hs:Sat (F.ctx w g) g σ a w) :
  (Code.region id ops false).wpIn (wideR r) n F.P (fun e a' w'=>∃ a0,a' = Act.plusD a0 ds ∧ QQ (F.ctx w g) (NQ J) e a0 w') (Act.plusD a ds) w :=
 wpIn_region (wpOps_in hnd notOut r ds n _ a _ (h w g g a w hs))
end

/-! ### A world in which other things than cells turn -/

/-- Cells lie as they lay. -/
def CellsKept (w w':World):Prop:=∀ (b:Nat) (o:Obj),w.heap[b]? = some o → o.isCells = true → w'.heap[b]? = some o

theorem CellsKept.cell {w w':World} (h:CellsKept w w') {p:Addr} {u:Value} (hc:w.cell? p = some u):w'.cell? p = some u:=by
 obtain ⟨o,ho,hcc⟩:=cells_of_cell hc
 exact (World.cell?_of_block (a:=p) ((h _ o ho hcc).trans ho.symm)).trans hc

theorem CellsKept.row {w w':World} (h:CellsKept w w') {b:Nat} {e:TypeId} {c:Array Value} (hr:Row w b e c):Row w' b e c:=by
 obtain ⟨fr,h1,h2⟩:=hr
 exact ⟨fr,h _ _ h1 rfl,h2⟩

theorem FRel.kept {P:Nat → Prop} {w w':World} (h:CellsKept w w') {v:Value} {x:TV} (hr:FRel P w v x):FRel P w' v x:=by
 induction hr with
 | int k n=>exact .int k n
 | bool b=>exact .bool b
 | str s=>exact .str s
 | sc v hv=>exact .sc v hv
 | nil A c z f=>exact .nil A c z f
 | row b off cap z n f cs hb hl hm hz hc _ ih=>exact .row b off cap z n f cs hb hl hm hz (fun i j y hi hy=>h.cell (hc i j y hi hy)) ih

/-- No map is in it. -/
inductive NoMp:TV → Prop
 | plain {x:TV}:x.plain = true → NoMp x
 | hole:NoMp .hole
 | own {z e n f}:(∀ (i j:Nat) (y:TV),i < n → (f i)[j]? = some y → NoMp y) → NoMp (.own z e n f)

theorem NoMp.ownL {z e:Nat} {A:Type} [Inhabited A] {enc:A → List TV} {xs:List A} (h:∀ x,(enc x).all TV.plain = true):NoMp (ownL z e enc xs) :=
 .own fun i j y _ hy=>.plain (List.all_eq_true.1 (h _) y (List.mem_of_getElem? hy))

theorem TRel.kept {g:Gh} {w w':World} (h:CellsKept w w') {p:Path} {v:Value} {x:TV} (hx:NoMp x) (hr:TRel g w p v x):TRel g w' p v x:=by
 induction hr with
 | fr hr=>exact .fr (hr.kept h)
 | hole=>exact .hole
 | nil z e f=>exact .nil z e f
 | own b cap z e n f c cs h1 h2 h3 h4 h5 h6 h7 _ ih =>
  refine .own b cap z e n f c cs h1 (h.row h2) h3 h4 h5 h6 h7 fun i j y hi hy=>ih i j y hi hy ?_
  cases hx with
  | plain hp=>cases hp
  | own hn=>exact hn i j y hi hy
 | mp =>
  cases hx with
  | plain hp=>cases hp

/-- What may be told of a slot over a loop. -/
def SV.noMp:SV → Prop
 | .tv x=>NoMp x
 | .junk | .pc _ _ | .pe _ _ _ _ | .rp _=>True
 | _=>False

theorem S1.kept {g:Gh} {w w':World} (h:CellsKept w w') {σ:AState} {k j:Nat} {v:Value} {sv:SV} (hm:sv.noMp) (hr:S1 g w σ k j v sv):S1 g w' σ k j v sv:=by
 cases sv with
 | junk=>trivial
 | tv x=>exact TRel.kept h hm hr
 | pc o off=>exact hr
 | pe p i j z=>exact hr
 | rp cs =>
  obtain ⟨b,off,hv,hb,hc⟩:=hr
  refine ⟨b,off,hv,hb,fun i y hy=>?_⟩
  obtain ⟨u,hu,h1⟩:=hc i y hy
  exact ⟨u,h.cell hu,h1.kept h⟩
 | _=>exact hm.elim

theorem SR.kept {g:Gh} {w w':World} (h:CellsKept w w') {σ:AState} {k:Nat} {v:Value} {sv:SV} (hm:sv.noMp) (hr:SR g w σ k v sv):SR g w' σ k v sv:=by
 rcases sv.three with ⟨vs,rfl⟩ | ⟨f,vs,rfl⟩ | hf
 ·exact hm.elim
 ·exact hm.elim
 ·rw [SR_flat hf] at hr ⊢
  exact hr.kept h hm

theorem Sat.keptCells {X:Ctx} {g:Gh} {σ:AState} {a:Act} {w w':World} (h:Sat X g σ a w) (hk:CellsKept w w') (hsz:w.heap.size ≤ w'.heap.size) (hold:∀ b,b < X.w0.heap.size → w'.heap[b]? = w.heap[b]?) (h1:w'.os = w.os) (h2:w'.tape = w.tape) (h3:w'.output = w.output) (hn:∀ k,(σ.get k).noMp) (hh:∀ (o:Nat) t cs,σ.heap[o]? = some (.cells t cs) → ∀ y ∈ cs,NoMp y):Sat X g σ a w':=by
 refine ⟨h.defers,h.size,fun k=>(h.env k).kept hk (hn k),fun o t cs ho=>?_,h.inj,fun b hb=>⟨(h.frozen b hb).1,Nat.lt_of_lt_of_le (h.frozen b hb).2 hsz⟩,fun b p hb=>⟨Nat.lt_of_lt_of_le (h.lt b p hb).1 hsz,(h.lt b p hb).2⟩,h.ids,h.P0,h.P1,fun b hb h0=>(hold b hb).trans (h.kept b hb h0),h1.trans h.os,h2.trans h.tape,h3.trans h.output,Nat.le_trans h.mono hsz,h.m0,h.h0⟩
 obtain ⟨c,k1,k2,k3,k4⟩:=h.heap o t cs ho
 refine ⟨c,hk _ _ k1 rfl,k2,k3,fun i y hy=>?_⟩
 obtain ⟨u,hu,hr⟩:=k4 i y hy
 exact ⟨u,hu,hr.kept hk (hh o t cs ho y (List.mem_of_getElem? hy))⟩

/-! ### Only cells are owned -/

def Gh.tidy (g:Gh) (w:World):Gh:={ g with ow:=fun b=>match w.heap[b]? with | some o=>(match o.isCells with | true=>g.ow b | false=>none) | none=>none }

theorem tidy_some {g:Gh} {w:World} {b:Nat} {p:Path} (h:(g.tidy w).ow b = some p):g.ow b = some p ∧ ∃ o,w.heap[b]? = some o ∧ o.isCells = true:=by
 simp only [Gh.tidy] at h
 split at h
 ·rename_i o ho
  split at h
  ·rename_i hc; exact ⟨h,o,ho,hc⟩
  ·cases h
 ·cases h

theorem tidy_of {g:Gh} {w:World} {b:Nat} {p:Path} {o:Obj} (h:g.ow b = some p) (ho:w.heap[b]? = some o) (hc:o.isCells = true):(g.tidy w).ow b = some p:=by
 simp only [Gh.tidy,ho,hc]
 exact h

theorem TRel.tidy {g:Gh} {w:World} {p:Path} {v:Value} {x:TV} (hx:NoMp x) (hr:TRel g w p v x):TRel (g.tidy w) w p v x:=by
 induction hr with
 | fr hr=>exact .fr hr
 | hole=>exact .hole
 | nil z e f=>exact .nil z e f
 | own b cap z e n f c cs h1 h2 h3 h4 h5 h6 h7 _ ih =>
  obtain ⟨fr,k1,k2⟩:=h2
  refine .own b cap z e n f c cs (tidy_of h1 k1 rfl) ⟨fr,k1,k2⟩ h3 h4 h5 h6 h7 fun i j y hi hy=>ih i j y hi hy ?_
  cases hx with
  | plain hp=>cases hp
  | own hn=>exact hn i j y hi hy
 | mp =>
  cases hx with
  | plain hp=>cases hp

theorem Sat.tidy {X:Ctx} {g:Gh} {σ:AState} {a:Act} {w:World} (h:Sat X g σ a w) (he:∀ k,(σ.get k).noMp ∧ ∀ p i j z,σ.get k ≠ .pe p i j z) (hh:∀ (o:Nat) t cs,σ.heap[o]? = some (.cells t cs) → ∀ y ∈ cs,NoMp y):Sat X (g.tidy w) σ a w:=by
 refine ⟨h.defers,h.size,fun k=>?_,fun o t cs ho=>?_,fun b b' p hb hb'=>h.inj b b' p (tidy_some hb).1 (tidy_some hb').1,fun b hb=>⟨?_,(h.frozen b hb).2⟩,fun b p hb=>h.lt b p (tidy_some hb).1,fun b p hb=>h.ids b p (tidy_some hb).1,h.P0,h.P1,h.kept,h.os,h.tape,h.output,h.mono,h.m0,h.h0⟩
 ·have h1:=h.env k
  have h2:=he k
  cases hk:σ.get k with
  | junk=>trivial
  | tv x=>rw [hk] at h1 h2; exact TRel.tidy h2.1 h1
  | rp cs=>rw [hk] at h1; exact h1
  | pc o off=>rw [hk] at h1; exact h1
  | pe p i j z=>exact absurd hk (h2.2 p i j z)
  | _=>rw [hk] at h2; exact h2.1.elim
 ·obtain ⟨c,k1,k2,k3,k4⟩:=h.heap o t cs ho
  refine ⟨c,k1,tidy_of k2 k1 rfl,k3,fun i y hy=>?_⟩
  obtain ⟨u,hu,hr⟩:=k4 i y hy
  exact ⟨u,hu,hr.tidy (hh o t cs ho y (List.mem_of_getElem? hy))⟩
 ·have:=(h.frozen b hb).1
  simp only [Gh.tidy]
  split
  ·split
   ·exact this
   ·rfl
  ·rfl

/-- A piece of code ahead of another, outside of rounds. -/
theorem pre_in {F:Cfg} {σ:AState} {J:AState → Prop} {x y:Code} {n:Nat} {Q:Exit → Act → World → Prop} {w0:World} {g0 g:Gh} {a:Act} {w:World} (h:AWp F x (NQ J) σ) (hs:Sat (F.ctx w0 g0) g σ a w)
  (hk:∀ σ' g' a' w',J σ' → Sat (F.ctx w0 g0) g' σ' a' w' → y.wpIn Fence.wide n F.P Q a' w'):(Code.seq x y).wpIn Fence.wide n F.P Q a w:=by
 refine wpIn_seq (wpIn_wide.2 (wp_mono (h w0 g0 g a w hs) fun e a' w' hq=>?_))
 obtain ⟨σ',g',⟨rfl,hJ⟩,hs'⟩:=hq
 exact hk σ' g' a' w' hJ hs'

/-! ### An act kept over a loop -/

/-- What another act reads, where nothing is known but what lies still. -/
theorem Sat.actOf {F:Cfg} {w1 W:World} {g1 g2:Gh} {σ1 σ2:AState} {a a2:Act} (h1:Sat (F.ctx w1 g1) g1 σ1 a w1) (h2:Sat (F.ctx w1 g1) g2 σ2 a2 W)
  (he:∀ k,σ2.get k = .junk ∨ (σ2.get k = σ1.get k ∧ ((∃ cs,σ1.get k = .rp cs) ∨ ∃ o off,σ1.get k = .pc o off ∧ o < F.h0))):Sat (F.ctx w1 g1) g2 σ2 a W:=by
 refine ⟨h1.defers,h1.size,fun k=>?_,h2.heap,h2.inj,h2.frozen,h2.lt,h2.ids,h2.P0,h2.P1,h2.kept,h2.os,h2.tape,h2.output,h2.mono,h2.m0,h2.h0⟩
 rcases he k with e | ⟨e,⟨cs,hc⟩ | ⟨o,off,hc,ho⟩⟩
 ·rw [e]; trivial
 ·have h:=h1.env k
  rw [e]
  rw [hc] at h ⊢
  obtain ⟨b,off,hv,hb,hcells⟩:=h
  have hst:∀ b,g1.P b → W.heap[b]? = w1.heap[b]?:=fun b hb=>h2.kept b (h1.frozen b hb).2 (h1.frozen b hb).1
  refine ⟨b,off,hv,h2.P1 b hb,fun i y hy=>?_⟩
  obtain ⟨u,hu,hr⟩:=hcells i y hy
  exact ⟨u,(World.cell?_of_block (a:=⟨b,off + i,none⟩) (hst b hb)).trans hu,hr.mono fun b hb=>⟨h2.P1 b hb,hst b hb⟩⟩
 ·have h:=h1.env k
  rw [e]
  rw [hc] at h ⊢
  exact ⟨h.1.trans (by rw [h2.m0 o ho]; rfl),Nat.lt_of_lt_of_le ho h2.h0⟩

theorem Sat.rebaseTo {F:Cfg} {w0:World} {g0 g:Gh} {σ:AState} {a:Act} {w:World} (h:Sat (F.ctx w0 g0) g σ a w) (F1:Cfg) (hn:F1.n = F.n) (hh:F1.h0 ≤ σ.heap.length):Sat (F1.ctx w g) g σ a w :=
 ⟨h.defers,h.size.trans hn.symm,h.env,h.heap,h.inj,h.frozen,fun b p hb=>⟨(h.lt b p hb).1,.inr (by show g.ow b ≠ none; rw [hb]; simp)⟩,h.ids,fun b hb=>.inl hb,fun b hb=>hb,fun _ _ _=>rfl,rfl,rfl,rfl,Nat.le_refl _,fun _ _=>rfl,hh⟩

theorem Sat.less0 {F1:Cfg} {w0:World} {g0 g:Gh} {σ:AState} {a:Act} {w:World} (h:Sat (F1.ctx w0 g0) g σ a w) (F:Cfg) (hn:F1.n = F.n) (hh:F.h0 ≤ F1.h0):Sat (F.ctx w0 g0) g σ a w :=
 ⟨h.defers,h.size.trans hn,h.env,h.heap,h.inj,h.frozen,h.lt,h.ids,h.P0,h.P1,h.kept,h.os,h.tape,h.output,h.mono,fun o ho=>h.m0 o (Nat.lt_of_lt_of_le ho hh),Nat.le_trans hh h.h0⟩

theorem Sat.tmps {X:Ctx} {g:Gh} {σ:AState} {a:Act} {w:World} (h:Sat X g σ a w) (t:Array Value) (hs:t.size = X.n) (he:∀ k,σ.get k = .junk ∨ t.getD k undef = a.tmps.getD k undef):Sat X g σ { tmps:=t,defers:=[] } w:=by
 refine ⟨rfl,hs,fun k=>?_,h.heap,h.inj,h.frozen,h.lt,h.ids,h.P0,h.P1,h.kept,h.os,h.tape,h.output,h.mono,h.m0,h.h0⟩
 rcases he k with e | e
 ·rw [e]; trivial
 ·show SR g w σ k (t.getD k undef) _
  rw [e]; exact h.env k

theorem grown_cells {B:Nat} {W W':World} {row:Option Nat} (hg:W.grownBy W' row) (hr:∀ r,row = some r → B ≤ r ∧ ∃ o:Obj,W.heap[r]? = some o ∧ o.isCells = false):CellsKept W W':=fun _ _ hb hc =>
 (grownBy_keeps_cells hg (fun r e=>(hr r e).2) hb hc).trans hb

end Go.Sx
