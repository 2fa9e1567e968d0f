
/- Stores: into an object's cells, and into an element of a slice of the call's own; no condition. -/
import Derived.Test.YtcfoobpnmeaflaaSxA
import Derived.Laws.IdiomStrings
import Derived.Laws.MakeOwn
import Derived.Deep.LoopGhost
import Derived.KernelRfl
namespace Go.Sx
open Go

def writeA (c:Array Value) (o:Nat):List Value → Array Value
 | []=>c
 | v :: r=>writeA (c.setIfInBounds o v) (o + 1) r

theorem writeA_size (vs:List Value):∀ (c:Array Value) (o:Nat),(writeA c o vs).size = c.size:=by
 induction vs with
 | nil=>intro c o; rfl
 | cons v r ih=>intro c o; simp only [writeA,ih,Array.size_setIfInBounds]

theorem writeA_lt (vs:List Value):∀ (c:Array Value) (o i:Nat),i < o → (writeA c o vs)[i]? = c[i]?:=by
 induction vs with
 | nil=>intro c o i _; rfl
 | cons v r ih =>
  intro c o i hi
  simp only [writeA]
  rw [ih _ _ _ (by omega),Array.getElem?_setIfInBounds,if_neg (by omega)]

theorem writeA_in (vs:List Value):∀ (c:Array Value) (o i:Nat),i < vs.length → o + i < c.size → (writeA c o vs)[o + i]? = vs[i]?:=by
 induction vs with
 | nil=>intro c o i h; simp at h
 | cons v r ih =>
  intro c o i hi hc
  simp only [writeA]
  cases i with
  | zero =>
   rw [writeA_lt _ _ _ _ (by omega),Array.getElem?_setIfInBounds,if_pos (Nat.add_zero o).symm,if_pos (by omega)]
   rfl
  | succ i =>
   have:=ih (c.setIfInBounds o v) (o + 1) i (by simpa using hi) (by simp; omega)
   rw [show o + (i + 1) = o + 1 + i by omega,this]
   rfl

theorem writeA_ge (vs:List Value):∀ (c:Array Value) (o i:Nat),o + vs.length ≤ i → (writeA c o vs)[i]? = c[i]?:=by
 induction vs with
 | nil=>intro c o i _; rfl
 | cons v r ih =>
  intro c o i hi
  simp only [writeA,List.length_cons] at hi ⊢
  rw [ih _ _ _ (by omega),Array.getElem?_setIfInBounds,if_neg (by omega)]

/-- Cells that are stored one behind the other. -/
theorem run_store_row {P:Program} {b:Nat} {e:TypeId} {fr:Nat × Nat}:∀ (vs:List Value) (o i:Nat) (c:Array Value) (w:World),w.heap[b]? = some (.cells c e fr) → (∀ i,i < c.size → ¬ (fr.1 ≤ i ∧ i < fr.2)) →
  o + i + vs.length ≤ c.size → (∀ v ∈ vs,v.oneCell' = true) →
  ∃ w',(storeCells ⟨b,o,none⟩ vs i).run P w = .ok () w' ∧ w'.heap[b]? = some (.cells (writeA c (o + i) vs) e fr) ∧ Goes w w' b
 | [],o,i,c,w,hb,_,_,_=>⟨w,rfl,hb,⟨fun _ _ _=>rfl,Nat.le_refl _,rfl,rfl,rfl⟩⟩
 | v :: r,o,i,c,w,hb,hf,hl,h1=>by
  simp only [List.length_cons] at hl
  have hlt:o + i < c.size:=by omega
  have hcell:w.cell? ⟨b,o + i,none⟩ = some c[o + i]:=by rw [cell_of_row w b (o + i) c e fr hb]; simp [hlt]
  have hfr:w.frozen? ⟨b,o + i,none⟩ = false:=by
   simp only [World.frozen?,hb]
   have:=hf (o + i) hlt
   simp only [Bool.and_eq_false_iff,decide_eq_false_iff_not]
   by_cases h1:fr.1 ≤ o + i
   ·exact .inr fun h2=>this ⟨h1,h2⟩
   ·exact .inl h1
  have hset:(w.setCell ⟨b,o + i,none⟩ v).heap[b]? = some (.cells (c.setIfInBounds (o + i) v) e fr):=by
   simp only [World.setCell,Array.getElem?_modify,if_true,hb,Option.map_some]
   rfl
  obtain ⟨w',hrun,hw',hg⟩:=run_store_row r o (i + 1) (c.setIfInBounds (o + i) v) (w.setCell ⟨b,o + i,none⟩ v) hset (by simpa using hf) (by simp; omega) (fun x hx=>h1 x (by simp [hx]))
  refine ⟨w',?_,by simpa [writeA,Nat.add_assoc] using hw',⟨fun k hk hne=>?_,?_,hg.os,hg.tape,hg.output⟩⟩
  ·simp only [storeCells]
   rw [Sem.run_bind,add_mk,run_store P w _ v .plain (h1 v (by simp))]
   simp only [hcell,hfr]
   exact hrun
  ·rw [hg.heap k (by simpa using hk) hne]
   simp only [World.setCell,Array.getElem?_modify]
   rw [if_neg (Ne.symm hne)]
  ·simpa using hg.size

theorem putAt_length:∀ (ys cs:List TV) (off:Nat),(putAt cs off ys).length = cs.length
 | [],_,_=>rfl
 | y :: r,cs,off=>by simp only [putAt,putAt_length r,List.length_set]

theorem putAt_lt:∀ (ys cs:List TV) (off i:Nat),i < off → (putAt cs off ys)[i]? = cs[i]?
 | [],_,_,_,_=>rfl
 | y :: r,cs,off,i,h=>by
  simp only [putAt]
  rw [putAt_lt r _ _ _ (by omega),List.getElem?_set,if_neg (by omega)]

theorem putAt_in:∀ (ys cs:List TV) (off i:Nat),i < ys.length → off + i < cs.length → (putAt cs off ys)[off + i]? = ys[i]?
 | [],_,_,_,h,_=>by simp at h
 | y :: r,cs,off,i,h,hc=>by
  simp only [putAt]
  cases i with
  | zero=>rw [putAt_lt r _ _ _ (by omega),List.getElem?_set,if_pos (Nat.add_zero off).symm,if_pos (by omega)]; rfl
  | succ i =>
   have:=putAt_in r (cs.set off y) (off + 1) i (by simpa using h) (by simp; omega)
   rw [show off + (i + 1) = off + 1 + i by omega,this]
   rfl

theorem putAt_ge:∀ (ys cs:List TV) (off i:Nat),off + ys.length ≤ i → (putAt cs off ys)[i]? = cs[i]?
 | [],_,_,_,_=>rfl
 | y :: r,cs,off,i,h=>by
  simp only [putAt,List.length_cons] at h ⊢
  rw [putAt_ge r _ _ _ (by omega),List.getElem?_set,if_neg (by omega)]

section
variable {X:Ctx} {g:Gh} {σ:AState} {a:Act} {w:World} {T:Tab}

/-- The places of cells off .. off + n - 1 of object o. -/
def cellsR (o off n:Nat) (p:Path):Bool :=
 match p.1 with
 | .cell o' f=>Nat.beq o o' && (Nat.ble off f && Nat.blt f (off + n))
 | _=>false

def AState.storeC (σ:AState) (o off:Nat) (ys:List TV):AState :=
 { (σ.drop (cellsR o off ys.length)) with heap:=setCells σ.heap o (fun cs=>putAt cs off ys) }

theorem cellsR_false {o off n o' i:Nat} {st:Steps}:cellsR o off n (.cell o' i,st) = false ↔ ¬ (o = o' ∧ off ≤ i ∧ i < off + n):=by
 simp only [cellsR,Bool.and_eq_false_iff]
 constructor
 ·rintro h ⟨rfl,h1,h2⟩
  rcases h with h | h | h
  ·simp at h
  ·rw [Nat.ble_eq_true_of_le h1] at h; cases h
  ·rw [show Nat.blt i (off + n) = true from Nat.ble_eq_true_of_le h2] at h; cases h
 ·intro h
  by_cases h0:o = o'
  ·right
   by_cases h1:off ≤ i
   ·right
    cases hb:Nat.blt i (off + n) with
    | false=>rfl
    | true=>exact absurd ⟨h0,h1,Nat.le_of_ble_eq_true hb⟩ h
   ·left
    cases hb:Nat.ble off i with
    | false=>rfl
    | true=>exact absurd (Nat.le_of_ble_eq_true hb) h1
  ·exact .inl (beq_ne h0)

/-- Cells are stored into an object; of some nothing is known. -/
theorem Sat.storeCH (h:Sat X g σ a w) {o off:Nat} {t:TypeId} {cs0:List TV} (ho:σ.heap[o]? = some (.cells t cs0)) {ys:List TV} {vs:List Value} (hl:vs.length = ys.length) (hfit:off + ys.length ≤ cs0.length)
  (hone:∀ v ∈ vs,v.oneCell' = true) (hr:∀ (i:Nat) y,ys[i]? = some y → ∃ u,vs[i]? = some u ∧ (y = .hole ∨ FRel g.P w u y)) :
  ∃ w',(storeCells ⟨g.m o,off,none⟩ vs).run X.P w = .ok () w' ∧ Sat X (g.clr (cellsR o off ys.length)) (σ.storeC o off ys) a w' ∧ ∃ c',w'.heap[g.m o]? = some (.cells c' t (0,0)) ∧ ∀ (i:Nat) u,vs[i]? = some u → c'[off + i]? = some u:=by
 obtain ⟨c,h1,h2,h3,h4⟩:=h.heap o t cs0 ho
 obtain ⟨w',hrun,hw',hg⟩:=run_store_row (P:=X.P) vs off 0 c w h1 (fun i _ hh=>by simp at hh) (by omega) hone
 rw [Nat.add_zero] at hw'
 have hnP:¬ g.P (g.m o):=fun hp=>by rw [(h.frozen _ hp).1] at h2; cases h2
 have hPs:∀ b,g.P b → g.P b ∧ w'.heap[b]? = w.heap[b]?:=fun b hb=>⟨hb,hg.heap b (h.frozen b hb).2 (fun e=>hnP (e ▸ hb))⟩
 have hKs:∀ b p,g.ow b = some p → p ≠ (.obj o,[]) → w'.heap[b]? = w.heap[b]?:=fun b p hb hp =>
  hg.heap b (h.lt b p hb).1 (fun e=>by subst e; rw [h2] at hb; cases hb; exact hp rfl)
 refine ⟨w',hrun,?_,_,hw',fun i u hu=>by
  have hi:=(List.getElem?_eq_some_iff.1 hu).1
  rw [writeA_in _ _ _ _ hi (by omega)]; exact hu⟩
 have hlook:∀ p,cellsR o off ys.length p = false → (σ.storeC o off ys).rootTV p.1 = σ.rootTV p.1:=fun p hp=>by
  obtain ⟨r,st⟩:=p
  cases r with
  | slot k j=>exact rootTV_drop σ _ (.slot k j)
  | cell o' i =>
   have hne:=cellsR_false.1 hp
   simp only [AState.rootTV,AState.storeC]
   by_cases hoo:o' = o
   ·subst hoo
    rw [setCells_eq _ ho,ho]
    simp only
    rcases Nat.lt_or_ge i off with hi | hi
    ·exact putAt_lt _ _ _ _ hi
    ·refine putAt_ge _ _ _ _ ?_
     rcases Nat.lt_or_ge i (off + ys.length) with hh | hh
     ·exact absurd ⟨rfl,hi,hh⟩ hne
     ·exact hh
   ·rw [setCells_ne _ _ _ _ hoo]
  | obj o'=>rfl
 have U:Up g (g.clr (cellsR o off ys.length)) σ (σ.storeC o off ys) w w' (fun p=>cellsR o off ys.length p || decide (p = (.obj o,[]))):=by
  refine ⟨hPs,fun b p hb hp=>?_,fun p hp z e n f hl=>?_,fun q hq hlt=>⟨rfl,by simp only [AState.storeC,setCells_length]; exact hlt⟩⟩
  ·simp only [Bool.or_eq_false_iff,decide_eq_false_iff_not] at hp
   exact ⟨clr_some.2 ⟨hb,hp.1⟩,hKs b p hb hp.2⟩
  ·simp only [Bool.or_eq_false_iff,decide_eq_false_iff_not] at hp
   rw [look_eq (hlook p hp.1)]; exact hl
 -- what names the object itself stays
 have hslot:∀ k,SR (g.clr (cellsR o off ys.length)) w' (σ.storeC o off ys) k (a.tmps.getD k undef) ((σ.get k).drop (cellsR o off ys.length)):=fun k=>by
  refine ((h.env k).drop _).mono ⟨hPs,fun j b st hb=>⟨clr_some.2 ⟨hb,rfl⟩,hKs b _ hb (by simp)⟩⟩ fun p hp=>?_
  obtain ⟨x,hx,he⟩:=(names_drop hp).2
  obtain rfl:x = p:=by simpa using he
  refine ⟨fun b hb=>⟨clr_some.2 ⟨hb,hx⟩,fun c' e hc'=>?_⟩,fun z e n f hl=>⟨f,by rw [look_eq (hlook x hx)]; exact hl⟩,fun q hq hlt=>⟨rfl,by simp only [AState.storeC,setCells_length]; exact hlt⟩⟩
  by_cases hxo:x = (.obj o,[])
  ·have:b = g.m o:=h.inj b (g.m o) x hb (by rw [hxo]; exact h2)
   subst this
   obtain ⟨fr,hc1,hc2⟩:=hc'
   rw [h1] at hc1
   injection hc1 with hc1
   injection hc1 with e1 e2 e3
   subst e1 e2 e3
   exact ⟨_,Row.of hw',writeA_size _ _ _⟩
  ·exact ⟨c',hc'.eq (hKs b x hb hxo),rfl⟩
 refine ⟨h.defers,h.size,fun k=>?_,fun o' t' cs' ho'=>?_,fun b b' p hb hb'=>h.inj b b' p (clr_some.1 hb).1 (clr_some.1 hb').1,fun b hb=>⟨clr_none (h.frozen b hb).1,Nat.lt_of_lt_of_le (h.frozen b hb).2 hg.size⟩,
  fun b p hb=>?_,fun b p hb=>?_,h.P0,h.P1,fun b hb h0=>?_,hg.os.trans h.os,hg.tape.trans h.tape,hg.output.trans h.output,Nat.le_trans h.mono hg.size,h.m0,?_⟩
 ·have:(σ.storeC o off ys).get k = (σ.get k).drop (cellsR o off ys.length):=get_drop σ _ k
  rw [this]; exact hslot k
 ·by_cases hoo:o' = o
  ·subst hoo
   simp only [AState.storeC] at ho'
   obtain ⟨cs1,e0,rfl⟩:=setCells_some _ ho'
   rw [ho] at e0
   cases e0
   refine ⟨_,hw',clr_some.2 ⟨h2,rfl⟩,by rw [writeA_size,putAt_length,h3],fun i y hy=>?_⟩
   rcases Nat.lt_or_ge i off with hi | hi
   ·rw [putAt_lt _ _ _ _ hi] at hy
    obtain ⟨u,hu,hru⟩:=h4 i y hy
    exact ⟨u,by rw [writeA_lt _ _ _ _ hi]; exact hu,U.tv (fun st=>by simp only [Bool.or_eq_false_iff]; exact ⟨cellsR_false.2 (by omega),by simp⟩) hru⟩
   ·rcases Nat.lt_or_ge i (off + ys.length) with hh | hh
    ·obtain ⟨q,rfl⟩:∃ q,i = off + q:=⟨i - off,by omega⟩
     rw [putAt_in _ _ _ _ (by omega) (by omega)] at hy
     obtain ⟨u,hu,hru⟩:=hr q y hy
     refine ⟨u,?_,?_⟩
     ·rw [writeA_in _ _ _ _ (by omega) (by omega)]
      exact hu
     ·rcases hru with rfl | hru
      ·exact .hole
      ·exact .fr (hru.mono hPs)
    ·rw [putAt_ge _ _ _ _ hh] at hy
     obtain ⟨u,hu,hru⟩:=h4 i y hy
     exact ⟨u,by rw [writeA_ge _ _ _ _ (by omega)]; exact hu,U.tv (fun st=>by simp only [Bool.or_eq_false_iff]; exact ⟨cellsR_false.2 (by omega),by simp⟩) hru⟩
  ·simp only [AState.storeC] at ho'
   rw [setCells_ne _ _ _ _ hoo] at ho'
   obtain ⟨c',k1,k2,k3,k4⟩:=h.heap o' t' cs' ho'
   refine ⟨c',(hKs _ _ k2 (by simp [hoo])).trans k1,clr_some.2 ⟨k2,rfl⟩,k3,fun i y hy=>?_⟩
   obtain ⟨u,hu,hru⟩:=k4 i y hy
   exact ⟨u,hu,U.tv (fun st=>by simp only [Bool.or_eq_false_iff]; exact ⟨cellsR_false.2 (by rintro ⟨e,_⟩; exact hoo e.symm),by simp⟩) hru⟩
 ·obtain ⟨k1,k2⟩:=h.lt b p (clr_some.1 hb).1
  exact ⟨Nat.lt_of_lt_of_le k1 hg.size,k2⟩
 ·have:=h.ids b p (clr_some.1 hb).1
  simp only [AState.storeC,setCells_length]; exact this
 ·have hne:b ≠ g.m o:=by
   rintro rfl
   rcases (h.lt _ _ h2).2 with k | k
   ·omega
   ·exact k h0
  exact (hg.heap b (by have:=h.mono; omega) hne).trans (h.kept b hb h0)
 ·simp only [AState.storeC,setCells_length]; exact h.h0

/-- Plain cells are stored into an object. -/
theorem Sat.storeC (h:Sat X g σ a w) {o off:Nat} {t:TypeId} {cs0:List TV} (ho:σ.heap[o]? = some (.cells t cs0)) {ys:List TV} {vs:List Value} (hl:vs.length = ys.length) (hfit:off + ys.length ≤ cs0.length)
  (hr:∀ (i:Nat) y,ys[i]? = some y → ∃ u,vs[i]? = some u ∧ FRel g.P w u y) :
  ∃ w' g',(storeCells ⟨g.m o,off,none⟩ vs).run X.P w = .ok () w' ∧ Sat X g' (σ.storeC o off ys) a w':=by
 have hone:∀ v ∈ vs,v.oneCell' = true:=fun v hv=>by
  obtain ⟨i,hi⟩:=List.getElem?_of_mem hv
  have hi':i < ys.length:=by rw [← hl]; exact (List.getElem?_eq_some_iff.1 hi).1
  obtain ⟨u,hu,hru⟩:=hr i ys[i] (by simp [hi'])
  rw [hi] at hu; cases hu
  exact hru.one
 obtain ⟨w',h1,h2,_⟩:=h.storeCH ho hl hfit hone fun i y hy=>(hr i y hy).imp fun _ hu=>⟨hu.1,.inr hu.2⟩
 exact ⟨w',_,h1,h2⟩

end
end Go.Sx

namespace Go.Sx
open Go

section
variable {X:Ctx} {g:Gh} {σ:AState} {a:Act} {w:World} {T:Tab}

/-- Places below a root. -/
def deepR (r:Root) (p:Path):Bool :=
 match p.2 with
 | []=>false
 | _ :: _=>decide (p.1 = r)

def AState.setRoot (σ:AState) (r:Root) (x:TV):AState :=
 match r with
 | .slot k _=>σ.set k (.tv x)
 | .cell o off=>{ σ with heap:=setCells σ.heap o (fun cs=>cs.set off x) }
 | .obj _=>σ

/-- An element that is written anew. -/
def setElem (f:Nat → List TV) (i:Nat) (y:List TV):Nat → List TV:=fun q=>match Nat.beq q i with | true=>y | false=>f q

def AState.storeE (σ:AState) (r:Root) (z:Nat) (e:TypeId) (n:Nat) (f:Nat → List TV) (i j:Nat) (ys:List TV):AState :=
 (σ.drop (deepR r)).setRoot r (.own z e n (setElem f i (putAt (f i) j ys)))

/-- Is it the root of a slot's single value, or of a cell? -/
def Root.simple:Root → Bool
 | .slot _ 0=>true
 | .cell _ _=>true
 | _=>false

theorem rootTV_setRoot {r:Root} {x y:TV} (hr:r.simple = true) (hy:σ.rootTV r = some y):(σ.setRoot r x).rootTV r = some x:=by
 cases r with
 | slot k j =>
  cases j with
  | zero=>simp only [AState.rootTV,AState.setRoot,get_set,if_true]
  | succ j=>cases hr
 | cell o off =>
  simp only [AState.rootTV] at hy
  split at hy
  ·rename_i t cs ho
   simp only [AState.rootTV,AState.setRoot]
   rw [setCells_eq _ ho]
   have:off < cs.length:=(List.getElem?_eq_some_iff.1 hy).1
   simp [this]
  ·cases hy
 | obj o=>cases hr

theorem rootTV_setRoot_ne {r q:Root} {x y:TV} (hr:r.simple = true) (hy:σ.rootTV r = some y) (hs:∀ k,r = .slot k 0 → σ.get k = .tv y) (hq:q ≠ r):(σ.setRoot r x).rootTV q = σ.rootTV q:=by
 cases r with
 | slot k j =>
  cases j with
  | succ j=>cases hr
  | zero =>
   cases q with
   | slot k' j' =>
    simp only [AState.rootTV,AState.setRoot,get_set]
    by_cases hk:k' = k
    ·subst hk
     rw [if_pos rfl,hs k' rfl]
     cases j' with
     | zero=>exact absurd rfl hq
     | succ j'=>rfl
    ·rw [if_neg hk]
   | cell o off=>rfl
   | obj o=>rfl
 | cell o off =>
  cases q with
  | slot k' j'=>rfl
  | cell o' off' =>
   simp only [AState.rootTV,AState.setRoot]
   by_cases hoo:o' = o
   ·subst hoo
    have hne:off ≠ off':=by rintro rfl; exact hq rfl
    cases ho:σ.heap[o']? with
    | none=>rw [List.getElem?_eq_none (by rw [setCells_length]; exact List.getElem?_eq_none_iff.1 ho)]
    | some x =>
     cases x with
     | cells t cs=>rw [setCells_eq _ ho]; simp only [List.getElem?_set,if_neg hne]
     | dead=>simp only [AState.rootTV,ho] at hy; cases hy
   ·rw [setCells_ne _ _ _ _ hoo]
  | obj o=>rfl
 | obj o=>cases hr

theorem look_cons (σ:AState) (r:Root) (ij:Nat × Nat) (st:Steps):σ.look (r,ij :: st) = (σ.look (r,st)).bind (elemTV ij):=rfl

theorem look_ne {r q:Root} {x y:TV} (hr:r.simple = true) (hy:σ.rootTV r = some y) (hs:∀ k,r = .slot k 0 → σ.get k = .tv y) (hq:q ≠ r) (st:Steps):(σ.setRoot r x).look (q,st) = σ.look (q,st) :=
 look_eq (rootTV_setRoot_ne hr hy hs hq)

theorem drop_tv {R:Path → Bool} {sv:SV} {y:TV} (h:sv = .tv y):sv.drop R = .tv y:=by subst h; rfl

/-- The own slice at a root: a slot's single value, or a cell. -/
def AState.ownAt (σ:AState):Root → Option TV
 | .slot k 0=>match σ.get k with | .tv x=>some x | _=>none
 | .slot _ _=>none
 | .cell o off=>σ.rootTV (.cell o off)
 | .obj _=>none

theorem ownAt_root {r:Root} {x:TV} (h:σ.ownAt r = some x):r.simple = true ∧ σ.rootTV r = some x ∧ ∀ k,r = .slot k 0 → σ.get k = .tv x:=by
 cases r with
 | slot k j =>
  cases j with
  | zero =>
   simp only [AState.ownAt] at h
   split at h
   ·rename_i y hy
    cases h
    exact ⟨rfl,by simp only [AState.rootTV,hy],fun k' hk=>by injection hk with hk; subst hk; exact hy⟩
   ·cases h
  | succ j=>cases h
 | cell o off=>exact ⟨rfl,h,fun k hk=>by cases hk⟩
 | obj o=>cases h

theorem setElem_eq (f:Nat → List TV) (i:Nat) (y:List TV):setElem f i y i = y:=by simp [setElem]
theorem setElem_ne (f:Nat → List TV) {i q:Nat} (y:List TV) (h:q ≠ i):setElem f i y q = f q:=by simp only [setElem,beq_ne h]

/-- Cells of one element of a slice of the call's own are written. -/
theorem Sat.storeE (h:Sat X g σ a w) {r:Root} {z:Nat} {e:TypeId} {n:Nat} {f:Nat → List TV} (hown:σ.ownAt r = some (.own z e n f)) (hpl:PlainTo n f)
  {i j:Nat} (hi:i < n) {ys:List TV} {vs:List Value} (hl:vs.length = ys.length) (hfit:j + ys.length ≤ z)
  (hy:∀ (q:Nat) y,ys[q]? = some y → ∃ u,vs[q]? = some u ∧ FRel g.P w u y) {b:Nat} (hb:g.ow b = some (r,[])) :
  ∃ w' g',(storeCells ⟨b,i * z + j,none⟩ vs).run X.P w = .ok () w' ∧ Sat X g' (σ.storeE r z e n f i j ys) a w':=by
 obtain ⟨hr,hroot,hs⟩:=ownAt_root hown
 obtain ⟨v0,hv0⟩:=h.root hroot
 rcases own_inv hv0 with ⟨_,h0⟩ | ⟨b',cap,c,cs,h1,hv,h3,h4,h5,h6,h7,h8,h9⟩
 ·omega
 obtain rfl:=h.inj b b' _ hb h1
 have hone:∀ v ∈ vs,v.oneCell' = true:=fun v hv=>by
  obtain ⟨q,hq⟩:=List.getElem?_of_mem hv
  have hq':q < ys.length:=by rw [← hl]; exact (List.getElem?_eq_some_iff.1 hq).1
  obtain ⟨u,hu,hru⟩:=hy q ys[q] (by simp [hq'])
  rw [hq] at hu; cases hu
  exact hru.one
 have hcell:∀ q,q < n → q * z + z ≤ c.size:=fun q hq=>by
  rw [h4]
  have:(q + 1) * z ≤ cap * z:=Nat.mul_le_mul_right _ (by omega)
  rw [Nat.add_mul,Nat.one_mul] at this
  exact this
 obtain ⟨fr,hb1,hb2⟩:=h3
 have hci:=hcell i hi
 obtain ⟨w',hrun,hw',hg⟩:=run_store_row (P:=X.P) vs (i * z + j) 0 c w hb1 hb2.no (by omega) hone
 rw [Nat.add_zero] at hw'
 have hRow':Row w' b e (writeA c (i * z + j) vs):=⟨fr,hw',by rw [writeA_size]; exact hb2⟩
 have hnP:¬ g.P b:=fun hp=>by rw [(h.frozen _ hp).1] at hb; cases hb
 have hPs:∀ k,g.P k → g.P k ∧ w'.heap[k]? = w.heap[k]?:=fun k hk=>⟨hk,hg.heap k (h.frozen k hk).2 (fun e=>hnP (e ▸ hk))⟩
 have hKs:∀ k p,g.ow k = some p → p ≠ (r,[]) → w'.heap[k]? = w.heap[k]?:=fun k p hk hp =>
  hg.heap k (h.lt k p hk).1 (fun e=>by subst e; rw [hb] at hk; cases hk; exact hp rfl)
 have hroot':(σ.drop (deepR r)).rootTV r = some (.own z e n f):=by rw [rootTV_drop]; exact hroot
 have hs':∀ k,r = .slot k 0 → (σ.drop (deepR r)).get k = .tv (.own z e n f):=fun k hk=>by rw [get_drop]; exact drop_tv (hs k hk)
 -- the element's cells, anew
 have hplain:∀ (q t:Nat) (y:TV),q < n → (f q)[t]? = some y → y.plain = true:=fun q t y hq hyq=>by
  have:=hpl q hq
  rw [List.all_eq_true] at this
  exact this y (List.mem_of_getElem? hyq)
 have hlen:(f i).length = z:=h7 i hi
 have hnew:∀ v,TRel g w (r,[]) v (.own z e n f) → TRel (g.clr (deepR r)) w' (r,[]) v (.own z e n (setElem f i (putAt (f i) j ys))):=by
  intro v hv
  rcases own_inv hv with ⟨_,h0⟩ | ⟨b2,cap,c2,cs,h1,rfl,h3',h4,h5,h6,h7,h8,h9⟩
  ·omega
  obtain rfl:=h.inj b b2 _ hb h1
  obtain ⟨fr2,q6,_⟩:=h3'
  rw [hb1] at q6
  injection q6 with q6
  injection q6 with q7 _ _
  subst q7
  refine .own b cap z e n _ (writeA c (i * z + j) vs) (fun q t=>if q = i ∧ j ≤ t ∧ t < j + ys.length then (vs[t - j]?).getD undef else cs q t) (clr_some.2 ⟨hb,rfl⟩) hRow' (by rw [writeA_size]; exact h4) h5 h6
   (fun q hq=>?_) (fun q t y hq hyq=>?_) (fun q t y hq hyq=>?_)
  ·by_cases hqi:q = i
   ·subst hqi; rw [setElem_eq,putAt_length]; exact hlen
   ·rw [setElem_ne _ _ hqi]; exact h7 q hq
  ·by_cases hqi:q = i
   ·subst hqi
    rw [setElem_eq] at hyq
    have ht:t < z:=by rw [← hlen,← putAt_length ys (f q) j]; exact (List.getElem?_eq_some_iff.1 hyq).1
    rcases Nat.lt_or_ge t j with hlt | hge
    ·rw [putAt_lt _ _ _ _ hlt] at hyq
     rw [writeA_lt _ _ _ _ (by omega),if_neg (by omega)]
     exact h8 q t y hq hyq
    ·rcases Nat.lt_or_ge t (j + ys.length) with hlt | hge'
     ·obtain ⟨k,rfl⟩:∃ k,t = j + k:=⟨t - j,by omega⟩
      rw [if_pos ⟨rfl,by omega,hlt⟩,show j + k - j = k by omega]
      have hk:k < vs.length:=by omega
      rw [show q * z + (j + k) = q * z + j + k by omega,writeA_in _ _ _ _ hk (by omega)]
      simp [List.getElem?_eq_getElem hk]
     ·rw [putAt_ge _ _ _ _ hge'] at hyq
      rw [writeA_ge _ _ _ _ (by omega),if_neg (by omega)]
      exact h8 q t y hq hyq
   ·rw [setElem_ne _ _ hqi] at hyq
    have ht:t < z:=by rw [← h7 q hq]; exact (List.getElem?_eq_some_iff.1 hyq).1
    rw [if_neg (by omega)]
    have:(writeA c (i * z + j) vs)[q * z + t]? = c[q * z + t]?:=by
     rcases Nat.lt_or_ge q i with hlt | hge
     ·apply writeA_lt
      have:(q + 1) * z ≤ i * z:=Nat.mul_le_mul_right _ (by omega)
      rw [Nat.add_mul,Nat.one_mul] at this
      omega
     ·apply writeA_ge
      have:(i + 1) * z ≤ q * z:=Nat.mul_le_mul_right _ (by omega)
      rw [Nat.add_mul,Nat.one_mul] at this
      omega
    rw [this]
    exact h8 q t y hq hyq
  ·refine .fr ?_
   by_cases hqi:q = i
   ·subst hqi
    rw [setElem_eq] at hyq
    have ht:t < z:=by rw [← hlen,← putAt_length ys (f q) j]; exact (List.getElem?_eq_some_iff.1 hyq).1
    rcases Nat.lt_or_ge t j with hlt | hge
    ·rw [putAt_lt _ _ _ _ hlt] at hyq
     rw [if_neg (by omega)]
     exact ((h9 q t y hq hyq).plain (hplain q t y hq hyq)).mono hPs
    ·rcases Nat.lt_or_ge t (j + ys.length) with hlt | hge'
     ·obtain ⟨k,rfl⟩:∃ k,t = j + k:=⟨t - j,by omega⟩
      rw [if_pos ⟨rfl,by omega,hlt⟩,show j + k - j = k by omega]
      rw [putAt_in _ _ _ _ (by omega) (by omega)] at hyq
      obtain ⟨u,hu,hru⟩:=hy k y hyq
      rw [hu]
      exact hru.mono hPs
     ·rw [putAt_ge _ _ _ _ hge'] at hyq
      rw [if_neg (by omega)]
      exact ((h9 q t y hq hyq).plain (hplain q t y hq hyq)).mono hPs
   ·rw [setElem_ne _ _ hqi] at hyq
    rw [if_neg (by omega)]
    exact ((h9 q t y hq hyq).plain (hplain q t y hq hyq)).mono hPs
 have hlook:∀ q st,q ≠ r → (σ.storeE r z e n f i j ys).look (q,st) = σ.look (q,st):=fun q st hq=>by
  rw [AState.storeE,look_ne hr hroot' hs' hq,look_drop]
 have hlook0:(σ.storeE r z e n f i j ys).look (r,[]) = some (.own z e n (setElem f i (putAt (f i) j ys))):=rootTV_setRoot hr hroot'
 have hheaplen:(σ.storeE r z e n f i j ys).heap.length = σ.heap.length:=by
  cases r with
  | slot k j=>rfl
  | cell o off=>exact setCells_length _ _ _
  | obj o=>cases hr
 have U:Up g (g.clr (deepR r)) σ (σ.storeE r z e n f i j ys) w w' (fun p=>decide (p.1 = r)):=by
  refine ⟨hPs,fun k p hk hp=>?_,fun p hp z e n f hl=>?_,fun q _ hlt=>⟨rfl,by rw [hheaplen]; exact hlt⟩⟩
  ·simp only [decide_eq_false_iff_not] at hp
   refine ⟨clr_some.2 ⟨hk,?_⟩,hKs k p hk (fun e=>hp (by rw [e]))⟩
   unfold deepR
   split
   ·rfl
   ·simp [hp]
  ·simp only [decide_eq_false_iff_not] at hp
   obtain ⟨q,st⟩:=p
   rw [hlook q st hp]; exact hl
 have hN:∀ p,deepR r p = false → Names g (g.clr (deepR r)) w w' σ (σ.storeE r z e n f i j ys) p:=fun p hp=>by
  refine ⟨fun k hk=>⟨clr_some.2 ⟨hk,hp⟩,fun c' e' hc'=>?_⟩,fun z1 e1 n1 f1 hl=>?_,fun q _ hlt=>⟨rfl,by rw [hheaplen]; exact hlt⟩⟩
  ·by_cases hpr:p = (r,[])
   ·have:k = b:=h.inj k b p hk (by rw [hpr]; exact hb)
    subst this
    obtain ⟨fr',hc1,hc2⟩:=hc'
    rw [hb1] at hc1
    injection hc1 with hc1
    injection hc1 with e1 e2 e3
    subst e1 e2 e3
    exact ⟨_,hRow',writeA_size _ _ _⟩
   ·exact ⟨c',hc'.eq (hKs k p hk hpr),rfl⟩
  ·obtain ⟨q,st⟩:=p
   by_cases hq:q = r
   ·subst hq
    cases st with
    | nil =>
     have:σ.look (q,[]) = some (.own z e n f):=hroot
     rw [hl] at this
     cases this
     exact ⟨_,hlook0⟩
    | cons ij st=>simp [deepR] at hp
   ·exact ⟨f1,by rw [hlook q st hq]; exact hl⟩
 refine ⟨w',g.clr (deepR r),hrun,h.defers,h.size,fun k=>?_,fun o t cs' ho=>?_,fun k k' p hk hk'=>h.inj k k' p (clr_some.1 hk).1 (clr_some.1 hk').1,fun k hk=>⟨clr_none (h.frozen k hk).1,Nat.lt_of_lt_of_le (h.frozen k hk).2 hg.size⟩,
  fun k p hk=>?_,fun k p hk=>?_,h.P0,h.P1,fun k hk h0=>?_,hg.os.trans h.os,hg.tape.trans h.tape,hg.output.trans h.output,Nat.le_trans h.mono hg.size,h.m0,by rw [hheaplen]; exact h.h0⟩
 ·by_cases hk:r = .slot k 0
  ·have hg2:(σ.storeE r z e n f i j ys).get k = .tv (.own z e n (setElem f i (putAt (f i) j ys))):=by
    subst hk
    simp only [AState.storeE,AState.setRoot,get_set,if_true]
   rw [hg2]
   have hk0:=h.env k
   rw [hs k hk] at hk0
   subst hk
   exact hnew _ hk0
  ·have hgk:(σ.storeE r z e n f i j ys).get k = (σ.get k).drop (deepR r):=by
    cases r with
    | slot k' j' =>
     cases j' with
     | succ j'=>cases hr
     | zero =>
      have hne:k ≠ k':=by rintro rfl; exact hk rfl
      simp only [AState.storeE,AState.setRoot,get_set,if_neg hne,get_drop]
    | cell o off=>exact get_drop σ _ k
    | obj o=>cases hr
   rw [hgk]
   refine ((h.env k).drop _).mono ⟨hPs,fun j' k' st hk'=>?_⟩ fun p hp=>?_
   ·have hne:Root.slot k j' ≠ r:=by
     rintro rfl
     cases j' with
     | zero=>exact hk rfl
     | succ j'=>cases hr
    refine ⟨clr_some.2 ⟨hk',?_⟩,hKs k' _ hk' (fun e=>hne (by injection e))⟩
    unfold deepR
    split
    ·rfl
    ·simp [hne]
   ·obtain ⟨x,hx,he⟩:=(names_drop hp).2
    obtain rfl:x = p:=by simpa using he
    exact hN x hx
 ·-- objects
  have hobj:∀ (i:Nat) u y,(Root.cell o i) ≠ r → TRel g w (.cell o i,[]) u y → TRel (g.clr (deepR r)) w' (.cell o i,[]) u y:=fun i u y hne hru =>
   U.tv (fun st=>by simp only [decide_eq_false_iff_not]; exact hne) hru
  have hkeep:∀ {t':TypeId} {cs0:List TV},σ.heap[o]? = some (.cells t' cs0) → ∃ c,w'.heap[g.m o]? = some (.cells c t' (0,0)) ∧ (g.clr (deepR r)).ow (g.m o) = some (.obj o,[]) ∧ c.size = cs0.length ∧
    ∀ (i:Nat) y,cs0[i]? = some y → ∃ u,c[i]? = some u ∧ TRel g w (.cell o i,[]) u y:=fun {t' cs0} ho0=>by
   obtain ⟨c',k1,k2,k3,k4⟩:=h.heap o t' cs0 ho0
   have hne:((Root.obj o,[]):Path) ≠ (r,[]):=fun e=>by injection e with e1 _; subst e1; cases hr
   exact ⟨c',(hKs _ _ k2 hne).trans k1,clr_some.2 ⟨k2,rfl⟩,k3,k4⟩
  cases r with
  | slot k' j' =>
   obtain ⟨c',k1,k2,k3,k4⟩:=hkeep ho
   refine ⟨c',k1,k2,k3,fun i y hy'=>?_⟩
   obtain ⟨u,hu,hru⟩:=k4 i y hy'
   exact ⟨u,hu,hobj i u y (by simp) hru⟩
  | obj o'=>cases hr
  | cell o' off =>
   by_cases hoo:o = o'
   ·subst hoo
    have ho':(setCells σ.heap o (fun cs=>cs.set off (.own z e n (setElem f i (putAt (f i) j ys)))))[o]? = some (.cells t cs'):=ho
    obtain ⟨cs0,ho0,rfl⟩:=setCells_some _ ho'
    obtain ⟨c',k1,k2,k3,k4⟩:=hkeep ho0
    have hoff:cs0[off]? = some (.own z e n f):=by
     simp only [AState.rootTV,ho0] at hroot
     exact hroot
    refine ⟨c',k1,k2,by rw [List.length_set]; exact k3,fun q y hy'=>?_⟩
    rw [List.getElem?_set] at hy'
    by_cases hq:off = q
    ·subst hq
     rw [if_pos rfl,if_pos (List.getElem?_eq_some_iff.1 hoff).1] at hy'
     cases hy'
     obtain ⟨u,hu,hru⟩:=k4 off _ hoff
     exact ⟨u,hu,hnew u hru⟩
    ·rw [if_neg hq] at hy'
     obtain ⟨u,hu,hru⟩:=k4 q y hy'
     exact ⟨u,hu,hobj q u y (by simp; exact fun e=>hq e.symm) hru⟩
   ·have ho':(setCells σ.heap o' (fun cs=>cs.set off (.own z e n (setElem f i (putAt (f i) j ys)))))[o]? = some (.cells t cs'):=ho
    rw [setCells_ne _ _ _ _ hoo] at ho'
    obtain ⟨c',k1,k2,k3,k4⟩:=hkeep ho'
    refine ⟨c',k1,k2,k3,fun q y hy'=>?_⟩
    obtain ⟨u,hu,hru⟩:=k4 q y hy'
    exact ⟨u,hu,hobj q u y (by simp [hoo]) hru⟩
 ·obtain ⟨k1,k2⟩:=h.lt k p (clr_some.1 hk).1
  exact ⟨Nat.lt_of_lt_of_le k1 hg.size,k2⟩
 ·have:=h.ids k p (clr_some.1 hk).1
  rw [hheaplen]; exact this
 ·have hne:k ≠ b:=by
   rintro rfl
   rcases (h.lt _ _ hb).2 with q | q
   ·omega
   ·exact q h0
  exact (hg.heap k (by have:=h.mono; omega) hne).trans (h.kept k hk h0)

end
end Go.Sx

namespace Go.Sx
open Go

/-- What append finds behind its second operand: m elements, whose cells are news. -/
structure Second (P:Program) (w:World) (t2:TypeId) (z:Nat) (x:Value) (m:Nat) (news:List Value):Prop where
 len:∀ w':World,w'.heap = w.heap → (Builtin.lenOf x).run P w' = .ok m w'
 und:(∃ e,P.underlying t2 = some (.slice e)) ∨ P.underlying t2 = some .string
 cells:∀ w':World,w'.heap = w.heap → (Builtin.firstCells z m x).run P w' = .ok news.toArray w'
 size:news.length = m * z
 one:∀ v ∈ news,v.oneCell' = true

theorem heap_alloc_drew (w:World) (o:Obj) (b:Nat) (hb:b < w.heap.size):(w.drew.alloc o).heap[b]? = w.heap[b]? :=
 Go.heap_alloc_old w.drew o hb

/-- Memory grows. -/
theorem goes_alloc (w:World) (o:Obj):Goes w (w.drew.alloc o) w.heap.size :=
 ⟨fun b hb _=>heap_alloc_drew w o b hb,by simp,rfl,rfl,rfl⟩

/-- An appended slice: where it lies, and what stays. -/
theorem run_append {P:Program} {w:World} {t t2 ty e:TypeId} {i:TypeInfo} {zv:Value} (ht:P.underlying t = some (.slice e)) (hi:P.info? e = some i) (hz:i.zero = some zv) (hzs:zv.cells.size = i.size)
  {x:Value} {m:Nat} {news:List Value} (hx:Second P w t2 i.size x m news)
  {s:Value} {n:Nat} {olds:List Value} (hb0:0 < i.bytes) (hbytes:(n + m) * i.bytes ≤ 140737488355328)
  (hs:(s = .slice none 0 0 ∧ n = 0 ∧ olds = []) ∨ ∃ b cap c,s = .slice (some ⟨b,0,none⟩) n cap ∧ Row w b e c ∧ c.size = cap * i.size ∧ n ≤ cap ∧ cap ≤ maxLen ∧ olds.length = n * i.size ∧ ∀ (j:Nat) v,olds[j]? = some v → c[j]? = some v) :
  ∃ v w',(Builtin.append_ #[t,t2] ty #[s,x]).run P w = .ok v w' ∧
   ((v = .slice none 0 0 ∧ n + m = 0 ∧ w' = w) ∨ ∃ nb cap c,v = .slice (some ⟨nb,0,none⟩) (n + m) cap ∧ Row w' nb e c ∧ c.size = cap * i.size ∧ n + m ≤ cap ∧ cap ≤ maxLen ∧ Goes w w' nb ∧
    (∀ (j:Nat) v,(olds ++ news)[j]? = some v → c[j]? = some v) ∧ ((∃ n cap,s = .slice (some ⟨nb,0,none⟩) n cap) ∨ nb = w.heap.size)):=by
 have hnm:n + m ≤ 140737488355328:=by
  have:(n + m) * 1 ≤ (n + m) * i.bytes:=Nat.mul_le_mul_left _ hb0
  omega
 have hm:n + m ≤ maxLen:=by unfold maxLen; omega
 have hlen:=hx.len w rfl
 have hcells:=hx.cells w rfl
 have hcells':=hx.cells w.drew rfl
 have hu:∃ d,P.underlying t2 = some d ∧ ((∃ e,d = .slice e) ∨ d = .string):=by
  rcases hx.und with ⟨e',h⟩ | h
  ·exact ⟨_,h,.inl ⟨e',rfl⟩⟩
  ·exact ⟨_,h,.inr rfl⟩
 obtain ⟨d,hd,hdd⟩:=hu
 have hge:∀ old,n + m ≤ grownCap w (n + m) old e:=fun old=>grownCap_ge w (n + m) old e
 have hle:∀ old,grownCap w (n + m) old e ≤ maxLen:=fun old=>grownCap_le_maxLen w (n + m) old e hm
 -- the new row
 have fresh:∀ old,olds.length = n * i.size → (∀ (v:Value) (w':World),v = .slice (some ⟨w.heap.size,0,none⟩) (n + m) (grownCap w (n + m) old e) → w' = (w.drew.alloc (.cells (olds.toArray ++ news.toArray ++ Builtin.zeroCells zv.cells (grownCap w (n + m) old e - (n + m))) e)) →
   (v = .slice none 0 0 ∧ n + m = 0 ∧ w' = w) ∨ ∃ nb cap c,v = .slice (some ⟨nb,0,none⟩) (n + m) cap ∧ Row w' nb e c ∧ c.size = cap * i.size ∧ n + m ≤ cap ∧ cap ≤ maxLen ∧ Goes w w' nb ∧
    (∀ (j:Nat) v,(olds ++ news)[j]? = some v → c[j]? = some v) ∧ ((∃ n cap,s = .slice (some ⟨nb,0,none⟩) n cap) ∨ nb = w.heap.size)):=by
  intro old hol v w' hv hw'
  subst hv hw'
  refine .inr ⟨w.heap.size,_,_,rfl,Row.of (Go.heap_alloc_new w.drew _),?_,hge old,hle old,goes_alloc w _,fun j u hu=>?_,.inr rfl⟩
  ·simp only [Array.size_append,List.size_toArray,size_zeroCells,hzs,hol,hx.size,← Nat.add_mul]
   congr 1
   have:=hge old
   omega
  ·have hj:j < (olds ++ news).length:=(List.getElem?_eq_some_iff.1 hu).1
   rw [Array.getElem?_append_left (by simpa using hj)]
   simpa using hu
 rcases hs with ⟨rfl,rfl,rfl⟩ | ⟨b,cap,c,rfl,hrow,hcs,hnc,hcm,hol,hold⟩
 ·by_cases hm0:m = 0
  ·subst hm0
   have hn0:news = []:=List.eq_nil_of_length_eq_zero (by simpa using hx.size)
   subst hn0
   refine ⟨.slice none 0 0,w,?_,.inl ⟨rfl,rfl,rfl⟩⟩
   rcases hdd with ⟨e',rfl⟩ | rfl
   ·simp [Builtin.append_,run_underlying ht,run_underlying hd,sizeOf,typeInfo,hi,hlen,hcells]
   ·simp [Builtin.append_,run_underlying ht,run_underlying hd,sizeOf,typeInfo,hi,hlen,hcells]
  ·have h63:¬ (9223372036854775807 < (m:Int)):=by omega
   have h48:¬ (281474976710656 < Builtin.nextslicecap m 0 * i.bytes):=by
    have:=growslice_fits (need:=0 + m) (old:=0) (by omega) hbytes
    rw [Nat.zero_add] at this
    omega
   have hf:=fresh 0 (by simp) _ _ rfl rfl
   refine ⟨_,_,?_,hf⟩
   rcases hdd with ⟨e',rfl⟩ | rfl
   ·simp [Builtin.append_,run_underlying ht,run_underlying hd,sizeOf,typeInfo,zeroValue,hi,hz,hlen,hm0,h63,h48,Question.forced,run_firstCells_none,hcells',newRow,grownCap]
   ·simp [Builtin.append_,run_underlying ht,run_underlying hd,sizeOf,typeInfo,zeroValue,hi,hz,hlen,hm0,h63,h48,Question.forced,run_firstCells_none,hcells',newRow,grownCap]
 ·have hlo:Builtin.lenOf (.slice (some ⟨b,0,none⟩) n cap) = pure n:=rfl
  by_cases hroom:n + m ≤ cap
  ·obtain ⟨fr,hb1,hb2⟩:=hrow
   have hfit:n * i.size + news.length ≤ c.size:=by rw [hx.size,hcs,← Nat.add_mul]; exact Nat.mul_le_mul_right _ hroom
   obtain ⟨w',hrun,hw',hg⟩:=run_store_row (P:=P) news (n * i.size) 0 c w hb1 hb2.no (by omega) hx.one
   rw [Nat.add_zero] at hw'
   refine ⟨.slice (some ⟨b,0,none⟩) (n + m) cap,w',?_,.inr ⟨b,cap,_,rfl,⟨fr,hw',by rw [writeA_size]; exact hb2⟩,by rw [writeA_size]; exact hcs,hroom,hcm,hg,fun j u hu=>?_,.inl ⟨n,cap,rfl⟩⟩⟩
   ·rcases hdd with ⟨e',rfl⟩ | rfl
    ·simp [Builtin.append_,run_underlying ht,run_underlying hd,sizeOf,typeInfo,hi,hlen,hroom,hcells,add_mk,hrun]
    ·simp [Builtin.append_,run_underlying ht,run_underlying hd,sizeOf,typeInfo,hi,hlen,hroom,hcells,add_mk,hrun]
   ·rcases Nat.lt_or_ge j (n * i.size) with hj | hj
    ·rw [List.getElem?_append_left (by omega)] at hu
     rw [writeA_lt _ _ _ _ hj]
     exact hold j u hu
    ·obtain ⟨q,rfl⟩:∃ q,j = n * i.size + q:=⟨j - n * i.size,by omega⟩
     rw [List.getElem?_append_right (by omega),hol,Nat.add_sub_cancel_left] at hu
     have hq:q < news.length:=(List.getElem?_eq_some_iff.1 hu).1
     rw [writeA_in _ _ _ _ hq (by omega)]
     exact hu
  ·have h63:¬ (9223372036854775807 < ((n:Int) + (m:Int))):=by omega
   have h48:¬ (281474976710656 < Builtin.nextslicecap (n + m) cap * i.bytes):=by
    have:=growslice_fits (need:=n + m) (old:=cap) (by omega) hbytes
    omega
   have hf:=fresh cap hol _ _ rfl rfl
   have hfo:=run_firstCells_some (P:=P) w.drew i.size n ⟨b,0,none⟩ n cap olds hol (fun j v hj=>by
    rw [add_mk,Nat.zero_add]
    exact (hrow.cell j).trans (hold j v hj))
   refine ⟨_,_,?_,hf⟩
   rcases hdd with ⟨e',rfl⟩ | rfl
   ·simp [Builtin.append_,run_underlying ht,run_underlying hd,sizeOf,typeInfo,zeroValue,hi,hz,hlen,hroom,h63,h48,Question.forced,hcells',hfo,newRow,grownCap]
    congr 2
    apply Array.ext'
    simp [List.append_assoc]
   ·simp [Builtin.append_,run_underlying ht,run_underlying hd,sizeOf,typeInfo,zeroValue,hi,hz,hlen,hroom,h63,h48,Question.forced,hcells',hfo,newRow,grownCap]
    congr 2
    apply Array.ext'
    simp [List.append_assoc]

end Go.Sx

namespace Go.Sx
open Go

def mget:List (Int × Int) → Int → Int
 | [],_=>0
 | e :: r,n=>match e.1 == n with | true=>e.2 | false=>mget r n

def mhas:List (Int × Int) → Int → Bool
 | [],_=>false
 | e :: r,n=>match e.1 == n with | true=>true | false=>mhas r n

def mset:List (Int × Int) → Int → Int → List (Int × Int)
 | [],n,v=>[(n,v)]
 | e :: r,n,v=>match e.1 == n with | true=>(n,v) :: r | false=>e :: mset r n v

/-- Where a key stands first. -/
def midx:List (Int × Int) → Int → Nat
 | [],_=>0
 | e :: r,n=>match e.1 == n with | true=>0 | false=>midx r n + 1

/-- What a map's value reads as. -/
def mvT:Option IntKind → Int → TV
 | some k,n=>.int k n
 | none,n=>.bool (n != 0)

theorem mvT_rel {P:Nat → Prop} {w:World} (vk:Option IntKind) (n:Int):FRel P w (mvV vk n) (mvT vk n):=by
 cases vk with
 | some k=>exact .int k n
 | none=>exact .bool _

theorem mvT_plain (vk:Option IntKind) (n:Int):(mvT vk n).plain = true:=by cases vk <;> rfl

/-- A value as a map's number. -/
def mvN (vk:Option IntKind):SV → Option Int
 | .tv (.int k n)=>match vk with | some k'=>(match decide (k = k') with | true=>some n | false=>none) | none=>none
 | .tv (.bool b)=>match vk with | none=>some (match b with | true=>1 | false=>0) | some _=>none
 | _=>none

def vkOf (ti:TI):Option (Option IntKind) :=
 match ti.und,ti.zero with
 | .int k,[.int k' 0]=>match decide (k = k') with | true=>some (some k) | false=>none
 | .bool,[.bool false]=>some none
 | _,_=>none

def AState.mapAt (σ:AState):SV → Option (Root × IntKind × Option IntKind × List (Int × Int))
 | .ml (r,[])=>match σ.ownAt r with | some (.mp kk vk l)=>some (r,kk,vk,l) | _=>none
 | _=>none

/-- A map's type: the kind of its keys, and of its values. -/
def mapKinds (T:Tab) (t:Nat):Option (IntKind × Option IntKind) :=
 match (T.get t).map TI.und with
 | some (.map kt vt)=>(match (T.get kt).map TI.und,T.get vt with
  | some (.int kk),some vi=>(match vkOf vi with | some vk=>some (kk,vk) | none=>none)
  | _,_=>none)
 | _=>none

abbrev rows (kk:IntKind) (vk:Option IntKind) (l:List (Int × Int)):List (Value × Value):=l.map fun e=>(Value.int kk e.1,mvV vk e.2)

theorem findNow_rows {kk:IntKind} {vk:Option IntKind} (n:Int):∀ (l:List (Int × Int)) (es:List MapEntry) (i:Nat),es.map (fun m=>(m.key,m.val)) = rows kk vk l →
  Instr.findNow (.int kk) (.int kk n) es i = some (match mhas l n with | true=>some (i + midx l n,mvV vk (mget l n)) | false=>none)
 | [],[],i,_=>rfl
 | [],_ :: _,_,h=>by cases h
 | _ :: _,[],_,h=>by cases h
 | e :: l,m :: es,i,h=>by
  simp only [rows,List.map_cons,List.cons.injEq,Prod.mk.injEq] at h
  obtain ⟨⟨h1,h2⟩,h3⟩:=h
  simp only [Instr.findNow,h1,Instr.sameNow,if_true,mhas,midx,mget]
  by_cases hn:n = e.1
  ·subst hn
   simp [h2]
  ·have h4:(n == e.1) = false:=by simpa using hn
   have h5:(e.1 == n) = false:=by simpa using fun e=>hn e.symm
   rw [h4,h5]
   simp only
   rw [findNow_rows n l es (i + 1) h3]
   cases mhas l n
   ·rfl
   ·simp only [Option.some.injEq,Prod.mk.injEq,and_true]; omega

theorem mset_new:∀ {l:List (Int × Int)} {n v:Int},mhas l n = false → mset l n v = l ++ [(n,v)]
 | [],_,_,_=>rfl
 | e :: l,n,v,h=>by
  simp only [mhas] at h
  simp only [mset]
  cases hb:e.1 == n with
  | true=>rw [hb] at h; cases h
  | false=>rw [hb] at h; simp only; rw [mset_new h]; rfl

theorem midx_at:∀ {l:List (Int × Int)} {n:Int},mhas l n = true → ∃ v,l[midx l n]? = some (n,v)
 | [],_,h=>by cases h
 | e :: l,n,h=>by
  simp only [mhas] at h
  simp only [midx]
  cases hb:e.1 == n with
  | true=>exact ⟨e.2,by
    have:e.1 = n:=by simpa using hb
    subst this; rfl⟩
  | false=>rw [hb] at h; obtain ⟨v,hv⟩:=midx_at h; exact ⟨v,by simpa using hv⟩

theorem mset_old:∀ {l:List (Int × Int)} {n v:Int},mhas l n = true → mset l n v = l.set (midx l n) (n,v)
 | [],_,_,h=>by cases h
 | e :: l,n,v,h=>by
  simp only [mhas] at h
  simp only [mset,midx]
  cases hb:e.1 == n with
  | true=>rfl
  | false=>rw [hb] at h; simp only; rw [mset_old h]; rfl

section
variable {X:Ctx} {g:Gh} {σ:AState} {a:Act} {w:World} {T:Tab}

theorem mapAt_rel (hs:Sat X g σ a w) {k:Nat} {v:Value} {s:SV} {r:Root} {kk:IntKind} {vk:Option IntKind} {l:List (Int × Int)} (hm:SR g w σ k v s) (h:σ.mapAt s = some (r,kk,vk,l)) :
  ∃ b es clock,s = .ml (r,[]) ∧ σ.ownAt r = some (.mp kk vk l) ∧ v = .map (some b) ∧ g.ow b = some (r,[]) ∧ w.heap[b]? = some (.map es clock) ∧ es.toList.map (fun m=>(m.key,m.val)) = rows kk vk l:=by
 unfold AState.mapAt at h
 split at h
 ·rename_i r'
  split at h
  ·rename_i kk' vk' l' hown
   cases h
   obtain ⟨b,hb,hv,_⟩:=(show S1 g w σ k 0 v (.ml (r,[])) from hm)
   obtain ⟨v0,hv0⟩:=hs.root (ownAt_root hown).2.1
   cases hv0 with
   | fr h=>cases h
   | mp b' _ _ _ es clock h1 h2 h3 =>
    obtain rfl:=hs.inj b b' _ hb h1
    exact ⟨b,es,clock,rfl,hown,hv,hb,h2,h3⟩
  ·cases h
 ·cases h

theorem kinds_spec (hT:TabOk X.P T) {t:Nat} {kk:IntKind} {vk:Option IntKind} (h:mapKinds T t = some (kk,vk)) :
  ∃ kt vt,X.P.underlying t = some (.map kt vt) ∧ X.P.underlying kt = some (.int kk) ∧ ∀ w,(zeroValue vt).run X.P w = .ok (mvV vk 0) w:=by
 unfold mapKinds at h
 split at h
 ·rename_i kt vt hu
  split at h
  ·rename_i kk' vi hk hv
   split at h
   ·rename_i vk' hvk
    cases h
    refine ⟨kt,vt,hT.und hu,hT.und hk,fun w=>?_⟩
    obtain ⟨hu0,i,z,hi,hsz,hby,hz,hzc,hzl,hz1,hag,_⟩:=hT vt vi hv
    have hzv:(zeroValue vt).run X.P w = .ok z w:=by
     simp only [zeroValue,typeInfo,Sem.run_bind,run_program,Result.andThen_ok,hi,Sem.run_pure,hz]
    rw [hzv]
    unfold vkOf at hvk
    have key:∀ u:Value,isAggD vi.und = false → vi.zero = [u] → z = u:=fun u h1 h2=>by
     have h3:=(hag h1).2
     rw [h2] at hzc
     cases z <;> first | (exact absurd rfl (h3 _)) | (simp only [Value.cells,List.cons.injEq,and_true] at hzc; exact hzc)
    split at hvk
    ·rename_i k k' hund hzero
     split at hvk
     ·rename_i hkk
      cases hvk
      have:k = k':=of_decide_eq_true hkk
      subst this
      rw [key _ (by rw [hund]; rfl) hzero]; rfl
     ·cases hvk
    ·rename_i hund hzero
     cases hvk
     rw [key _ (by rw [hund]; rfl) hzero]; rfl
    ·cases hvk
   ·cases h
  ·cases h
 ·cases h

theorem run_getMap {P:Program} {r:Nat} {es:Array MapEntry} {clock:Nat} (hb:w.heap[r]? = some (.map es clock)):(getObj r).run P w = .ok (.map es clock) w:=by
 simp [getObj,Sem.run,hb]

theorem run_setMap {P:Program} {r:Nat} {es:Array MapEntry} {clock:Nat} (o:Obj) (hb:w.heap[r]? = some (.map es clock)):(setObj r o).run P w = .ok () { w with heap:=w.heap.setIfInBounds r o }:=by
 simp [setObj,Sem.run,hb]

theorem run_keyInt {P:Program} {kt:TypeId} {kk:IntKind} {n:Int} (hd:P.underlying kt = some (.int kk)) (e:Bool):(Instr.checkKey e 10000 kt (.int kk n)).run P w = .ok () w:=by
 rw [show (10000:Nat) = 9999 + 1 from rfl]
 unfold Instr.checkKey
 simp only [Sem.run_bind,run_underlying hd,Result.andThen_ok]
 rfl

theorem run_findInt {P:Program} {kt:TypeId} {kk:IntKind} {n:Int} {l:List MapEntry} {x:Option (Nat × Value)} (hd:P.underlying kt = some (.int kk)) (h:Instr.findNow (.int kk) (.int kk n) l 0 = some x):(Instr.findKey kt (.int kk n) l).run P w = .ok x w:=by
 simp [Instr.findKey,run_underlying hd,h]

/-- A map that is made goes into a slot. -/
theorem Sat.putMap (h:Sat X g σ a w) {d:Nat} (hd:d < X.n) (kk:IntKind) (vk:Option IntKind) :
  ∃ g',Sat X g' (σ.put d (.tv (.mp kk vk []))) (a.put (some d) (.map (some w.heap.size))) (w.alloc (.map #[] 0)):=by
 have ho:g.ow w.heap.size = none:=by
  cases h':g.ow w.heap.size with
  | none=>rfl
  | some p=>have:=(h.lt _ p h').1; omega
 have hP:¬ g.P w.heap.size:=fun h'=>by have:=(h.frozen _ h').2; omega
 have hold:∀ b,b < w.heap.size → (w.alloc (.map #[] 0)).heap[b]? = w.heap[b]?:=fun b hb=>Go.heap_alloc_old w _ hb
 have hsz:w.heap.size < (w.alloc (.map #[] 0)).heap.size:=by simp
 have hPs:∀ b,g.P b → g.P b ∧ (w.alloc (.map #[] 0)).heap[b]? = w.heap[b]?:=fun b hb=>⟨hb,hold b (h.frozen b hb).2⟩
 have hK:∀ b p,g.ow b = some p → under d p = false → ((g.clr (under d)).give w.heap.size (.slot d 0,[])).ow b = some p ∧ (w.alloc (.map #[] 0)).heap[b]? = w.heap[b]?:=fun b p hb hp=>by
  have hne:b ≠ w.heap.size:=by rintro rfl; rw [ho] at hb; cases hb
  exact ⟨by rw [give_ne hne]; exact clr_some.2 ⟨hb,hp⟩,hold b (h.lt b p hb).1⟩
 have U:Up g ((g.clr (under d)).give w.heap.size (.slot d 0,[])) σ (σ.put d (.tv (.mp kk vk []))) w (w.alloc (.map #[] 0)) (under d) :=
  ⟨hPs,hK,fun p hp z e m f hl=>by rw [look_put _ _ _ _ hp]; exact hl,fun _ _ ho=>⟨rfl,ho⟩⟩
 have hts:a.tmps.size = X.n:=h.size
 refine ⟨(g.clr (under d)).give w.heap.size (.slot d 0,[]),h.defers,by simp only [Act.put,Array.size_setIfInBounds]; exact hts,fun q=>?_,fun o t cs' ho'=>?_,fun b b' p hb hb'=>?_,fun b hb=>?_,fun b p hb=>?_,fun b p hb=>?_,h.P0,h.P1,fun b hb h0=>?_,h.os,h.tape,h.output,Nat.le_trans h.mono (Nat.le_of_lt hsz),h.m0,h.h0⟩
 ·rw [tmps_put _ _ _ _ (by omega),get_put]
  by_cases hq:q = d
  ·subst hq
   simp only [if_true]
   exact TRel.mp (p:=(.slot q 0,[])) w.heap.size kk vk [] #[] 0 give_eq (Go.heap_alloc_new w _) rfl
  ·rw [if_neg hq,if_neg hq]
   exact U.slot (fun j st=>under_slot hq j st) (h.env q)
 ·obtain ⟨c',h1,h2,h3,h4⟩:=h.heap o t cs' ho'
  obtain ⟨k1,k2⟩:=hK _ _ h2 rfl
  refine ⟨c',k2.trans h1,k1,h3,fun i y hy=>?_⟩
  obtain ⟨u,hu,hr⟩:=h4 i y hy
  exact ⟨u,hu,U.tv (fun _=>rfl) hr⟩
 ·have no:∀ b p,b ≠ w.heap.size → ((g.clr (under d)).give w.heap.size (.slot d 0,[])).ow b = some p → g.ow b = some p ∧ under d p = false:=fun b p hne hb=>by
   rw [give_ne hne] at hb; exact clr_some.1 hb
  by_cases e1:b = w.heap.size
  ·subst e1
   rw [give_eq] at hb
   cases hb
   by_cases e2:b' = w.heap.size
   ·exact e2.symm
   ·have:=(no b' _ e2 hb').2
    simp [under] at this
  ·by_cases e2:b' = w.heap.size
   ·subst e2
    rw [give_eq] at hb'
    cases hb'
    have:=(no b _ e1 hb).2
    simp [under] at this
   ·exact h.inj b b' p (no b p e1 hb).1 (no b' p e2 hb').1
 ·have hne:b ≠ w.heap.size:=fun e=>hP (e ▸ hb)
  obtain ⟨h1,h2⟩:=h.frozen b hb
  exact ⟨by rw [give_ne hne]; exact clr_none h1,Nat.lt_trans h2 hsz⟩
 ·by_cases e1:b = w.heap.size
  ·subst e1; exact ⟨hsz,.inl h.mono⟩
  ·rw [give_ne e1] at hb
   obtain ⟨h1,h2⟩:=h.lt b p (clr_some.1 hb).1
   exact ⟨Nat.lt_trans h1 hsz,h2⟩
 ·by_cases e1:b = w.heap.size
  ·subst e1; rw [give_eq] at hb; cases hb; trivial
  ·rw [give_ne e1] at hb
   exact h.ids b p (clr_some.1 hb).1
 ·exact (hold b (by have:=h.mono; omega)).trans (h.kept b hb h0)

/-- A map that is written. -/
theorem Sat.updMap (h:Sat X g σ a w) {r:Root} {kk:IntKind} {vk:Option IntKind} {l l':List (Int × Int)} (hown:σ.ownAt r = some (.mp kk vk l)) {b:Nat} (hb:g.ow b = some (r,[]))
  {es es':Array MapEntry} {clock clock':Nat} (hb1:w.heap[b]? = some (.map es clock)) (hl:es'.toList.map (fun m=>(m.key,m.val)) = rows kk vk l')
  {w':World} (hw':w'.heap[b]? = some (.map es' clock')) (hwo:∀ k,k ≠ b → w'.heap[k]? = w.heap[k]?) (hsz:w'.heap.size = w.heap.size) (h1:w'.os = w.os) (h2:w'.tape = w.tape) (h3:w'.output = w.output) :
  Sat X g (σ.setRoot r (.mp kk vk l')) a w':=by
 obtain ⟨hr,hroot,hs⟩:=ownAt_root hown
 have hnP:¬ g.P b:=fun hp=>by rw [(h.frozen _ hp).1] at hb; cases hb
 have hPs:∀ k,g.P k → g.P k ∧ w'.heap[k]? = w.heap[k]?:=fun k hk=>⟨hk,hwo k (fun e=>hnP (e ▸ hk))⟩
 have hKs:∀ k p,g.ow k = some p → p ≠ (r,[]) → w'.heap[k]? = w.heap[k]?:=fun k p hk hp =>
  hwo k (fun e=>by subst e; rw [hb] at hk; cases hk; exact hp rfl)
 have hheaplen:(σ.setRoot r (.mp kk vk l')).heap.length = σ.heap.length:=by
  cases r with
  | slot k j=>rfl
  | cell o off=>exact setCells_length _ _ _
  | obj o=>cases hr
 have hlook:∀ q st,q ≠ r → (σ.setRoot r (.mp kk vk l')).look (q,st) = σ.look (q,st):=fun q st hq=>look_ne hr hroot hs hq st
 have hnew:∀ v,TRel g w (r,[]) v (.mp kk vk l) → TRel g w' (r,[]) v (.mp kk vk l'):=fun v hv=>by
  cases hv with
  | fr h=>cases h
  | mp b2 _ _ _ es2 clock2 k1 k2 k3 =>
   obtain rfl:=h.inj b b2 _ hb k1
   exact .mp b kk vk l' es' clock' hb hw' hl
 have hother:∀ q v y,q ≠ r → TRel g w (q,[]) v y → TRel g w' (q,[]) v y:=fun q v y hq hv =>
  hv.mono (r':=q) hPs fun k st hk=>⟨hk,hKs k _ hk (fun e=>hq (by injection e))⟩
 have hN:∀ p,Names g g w w' σ (σ.setRoot r (.mp kk vk l')) p:=fun p=>by
  refine ⟨fun k hk=>⟨hk,fun c' e' hc'=>?_⟩,fun z1 e1 n1 f1 hl=>?_,fun q _ hlt=>⟨rfl,by rw [hheaplen]; exact hlt⟩⟩
  ·by_cases hkb:k = b
   ·subst hkb
    obtain ⟨fr',hc1,hc2⟩:=hc'
    rw [hb1] at hc1
    injection hc1 with hc1
    cases hc1
   ·exact ⟨c',hc'.eq (hwo k hkb),rfl⟩
  ·obtain ⟨q,st⟩:=p
   by_cases hq:q = r
   ·subst hq
    exfalso
    cases st with
    | nil =>
     have:σ.look (q,[]) = some (.mp kk vk l):=hroot
     rw [hl] at this
     cases this
    | cons ij st =>
     rw [look_cons] at hl
     have key:∀ st:Steps,st ≠ [] → σ.look (q,st) = none:=by
      intro st
      induction st with
      | nil=>intro h; exact absurd rfl h
      | cons ij st ih =>
       intro _
       rw [look_cons]
       cases st with
       | nil =>
        have:σ.look (q,[]) = some (.mp kk vk l):=hroot
        rw [this]; rfl
       | cons ij' st'=>rw [ih (by simp)]; rfl
     rw [← look_cons,key _ (by simp)] at hl
     cases hl
   ·exact ⟨f1,by rw [hlook q st hq]; exact hl⟩
 refine ⟨h.defers,h.size,fun k=>?_,fun o t cs' ho=>?_,h.inj,fun k hk=>⟨(h.frozen k hk).1,by rw [hsz]; exact (h.frozen k hk).2⟩,
  fun k p hk=>by rw [hsz]; exact h.lt k p hk,fun k p hk=>by rw [hheaplen]; exact h.ids k p hk,h.P0,h.P1,fun k hk h0=>?_,h1.trans h.os,h2.trans h.tape,h3.trans h.output,by rw [hsz]; exact h.mono,h.m0,by rw [hheaplen]; exact h.h0⟩
 ·by_cases hk:r = .slot k 0
  ·have hg2:(σ.setRoot r (.mp kk vk l')).get k = .tv (.mp kk vk l'):=by
    subst hk
    simp only [AState.setRoot,get_set,if_true]
   rw [hg2]
   have hk0:=h.env k
   rw [hs k hk] at hk0
   subst hk
   exact hnew _ hk0
  ·have hgk:(σ.setRoot r (.mp kk vk l')).get k = σ.get k:=by
    cases r with
    | slot k' j' =>
     cases j' with
     | succ j'=>cases hr
     | zero =>
      have hne:k ≠ k':=by rintro rfl; exact hk rfl
      simp only [AState.setRoot,get_set,if_neg hne]
    | cell o off=>rfl
    | obj o=>cases hr
   rw [hgk]
   refine (h.env k).mono ⟨hPs,fun j' k' st hk'=>?_⟩ fun p _=>hN p
   have hne:Root.slot k j' ≠ r:=by
    rintro rfl
    cases j' with
    | zero=>exact hk rfl
    | succ j'=>cases hr
   exact ⟨hk',hKs k' _ hk' (fun e=>hne (by injection e))⟩
 ·have hkeep:∀ {t':TypeId} {cs0:List TV},σ.heap[o]? = some (.cells t' cs0) → ∃ c,w'.heap[g.m o]? = some (.cells c t' (0,0)) ∧ g.ow (g.m o) = some (.obj o,[]) ∧ c.size = cs0.length ∧
    ∀ (i:Nat) y,cs0[i]? = some y → ∃ u,c[i]? = some u ∧ TRel g w (.cell o i,[]) u y:=fun {t' cs0} ho0=>by
   obtain ⟨c',k1,k2,k3,k4⟩:=h.heap o t' cs0 ho0
   have hne:((Root.obj o,[]):Path) ≠ (r,[]):=fun e=>by injection e with e1 _; subst e1; cases hr
   exact ⟨c',(hKs _ _ k2 hne).trans k1,k2,k3,k4⟩
  cases r with
  | slot k' j' =>
   obtain ⟨c',k1,k2,k3,k4⟩:=hkeep ho
   refine ⟨c',k1,k2,k3,fun i y hy'=>?_⟩
   obtain ⟨u,hu,hru⟩:=k4 i y hy'
   exact ⟨u,hu,hother _ u y (by simp) hru⟩
  | obj o'=>cases hr
  | cell o' off =>
   by_cases hoo:o = o'
   ·subst hoo
    have ho':(setCells σ.heap o (fun cs=>cs.set off (.mp kk vk l')))[o]? = some (.cells t cs'):=ho
    obtain ⟨cs0,ho0,rfl⟩:=setCells_some _ ho'
    obtain ⟨c',k1,k2,k3,k4⟩:=hkeep ho0
    have hoff:cs0[off]? = some (.mp kk vk l):=by
     simp only [AState.rootTV,ho0] at hroot
     exact hroot
    refine ⟨c',k1,k2,by rw [List.length_set]; exact k3,fun q y hy'=>?_⟩
    rw [List.getElem?_set] at hy'
    by_cases hq:off = q
    ·subst hq
     rw [if_pos rfl,if_pos (List.getElem?_eq_some_iff.1 hoff).1] at hy'
     cases hy'
     obtain ⟨u,hu,hru⟩:=k4 off _ hoff
     exact ⟨u,hu,hnew u hru⟩
    ·rw [if_neg hq] at hy'
     obtain ⟨u,hu,hru⟩:=k4 q y hy'
     exact ⟨u,hu,hother _ u y (by simp; exact fun e=>hq e.symm) hru⟩
   ·have ho':(setCells σ.heap o' (fun cs=>cs.set off (.mp kk vk l')))[o]? = some (.cells t cs'):=ho
    rw [setCells_ne _ _ _ _ hoo] at ho'
    obtain ⟨c',k1,k2,k3,k4⟩:=hkeep ho'
    refine ⟨c',k1,k2,k3,fun q y hy'=>?_⟩
    obtain ⟨u,hu,hru⟩:=k4 q y hy'
    exact ⟨u,hu,hother _ u y (by simp [hoo]) hru⟩
 ·have hne:k ≠ b:=by
   rintro rfl
   rcases (h.lt _ _ hb).2 with q | q
   ·omega
   ·exact q h0
  exact (hwo k hne).trans (h.kept k hk h0)

theorem mvN_rel (hs:Sat X g σ a w) {x:Operand} {vk:Option IntKind} {v:Int} (h:mvN vk (σ.ev x) = some v):a.eval x = mvV vk v:=by
 unfold mvN at h
 split at h
 ·rename_i k n hx
  split at h
  ·rename_i k'
   split at h
   ·rename_i hk
    cases h
    have:k = k':=of_decide_eq_true hk
    subst this
    exact ev_int hs hx
   ·cases h
  ·cases h
 ·rename_i b hx
  split at h
  ·cases h
   rw [ev_bool hs hx]
   cases b <;> rfl
  ·cases h
 ·cases h

def lookV (vk:Option IntKind) (l:List (Int × Int)) (n:Int):Bool → Value
 | true=>.tuple #[mvV vk (mget l n),.bool (mhas l n)]
 | false=>mvV vk (mget l n)

/-- What a lookup comes to. -/
def lookSV (vk:Option IntKind) (l:List (Int × Int)) (n:Int):Bool → SV
 | true=>.tup [.tv (mvT vk (mget l n)),.tv (.bool (mhas l n))]
 | false=>.tv (mvT vk (mget l n))

theorem mget_no:∀ {l:List (Int × Int)} {n:Int},mhas l n = false → mget l n = 0
 | [],_,_=>rfl
 | e :: l,n,h=>by
  simp only [mhas] at h
  simp only [mget]
  cases hb:e.1 == n with
  | true=>rw [hb] at h; cases h
  | false=>rw [hb] at h; exact mget_no h

theorem run_lookup (hT:TabOk X.P T) {t:Nat} {kk:IntKind} {vk:Option IntKind} (hk:mapKinds T t = some (kk,vk)) {b:Nat} {es:Array MapEntry} {clock:Nat} (hb:w.heap[b]? = some (.map es clock)) {l:List (Int × Int)} (hl:es.toList.map (fun m=>(m.key,m.val)) = rows kk vk l) (n:Int) (c:Bool) :
  (Instr.lookup t (.map (some b)) (.int kk n) c).run X.P w = .ok (lookV vk l n c) w:=by
 obtain ⟨kt,vt,h1,h2,h3⟩:=kinds_spec hT hk
 have hf:=findNow_rows n l es.toList 0 hl
 simp only [Instr.lookup,Sem.run_bind,run_underlying h1,Result.andThen_ok,run_getMap hb,Sem.run_pure,run_keyInt h2,run_findInt h2 hf]
 cases hh:mhas l n with
 | true=>cases c <;> simp [lookV,hh]
 | false =>
  cases c <;> simp [lookV,h3,mget_no hh,hh]

theorem run_mapUpdate (hT:TabOk X.P T) {t:Nat} {kk:IntKind} {vk:Option IntKind} (hk:mapKinds T t = some (kk,vk)) {b:Nat} {es:Array MapEntry} {clock:Nat} (hb:w.heap[b]? = some (.map es clock)) {l:List (Int × Int)} (hl:es.toList.map (fun m=>(m.key,m.val)) = rows kk vk l) (n v:Int) :
  ∃ es' clock',(Instr.mapUpdate t (.map (some b)) (.int kk n) (mvV vk v)).run X.P w = .ok () { w with heap:=w.heap.setIfInBounds b (.map es' clock') } ∧ es'.toList.map (fun m=>(m.key,m.val)) = rows kk vk (mset l n v):=by
 obtain ⟨kt,vt,h1,h2,h3⟩:=kinds_spec hT hk
 have hf:=findNow_rows n l es.toList 0 hl
 have hlen:es.toList.length = l.length:=by have:=congrArg List.length hl; simpa using this
 cases hh:mhas l n with
 | true =>
  rw [hh] at hf
  simp only [Nat.zero_add] at hf
  obtain ⟨v0,hv0⟩:=midx_at hh
  have hlt:midx l n < es.size:=by
   have:=(List.getElem?_eq_some_iff.1 hv0).1
   rw [← hlen] at this; simpa using this
  have hkey:es[midx l n].key = .int kk n:=by
   have:=congrArg (fun q=>q[midx l n]?) hl
   simp only [List.getElem?_map,hv0,Option.map_some] at this
   rw [Array.getElem?_toList,Array.getElem?_eq_getElem hlt] at this
   simp only [Option.map_some,Option.some.injEq,Prod.mk.injEq] at this
   exact this.1
  refine ⟨es.modify (midx l n) fun e=>{ e with key:=.int kk n,val:=mvV vk v },clock,?_,?_⟩
  ·simp only [Instr.mapUpdate,Sem.run_bind,run_underlying h1,Result.andThen_ok,run_getMap hb,run_keyInt h2,run_findInt h2 hf]
   rw [Array.getElem?_eq_getElem hlt]
   simp only [Option.map_some,Option.getD_some,hkey,Instr.keyThatStays]
   have hsb:Instr.sameBits 10000 (.int kk n) (.int kk n) = true:=by
    rw [show (10000:Nat) = 9999 + 1 from rfl]
    simp [Instr.sameBits]
   rw [if_pos hsb]
   simp only [Sem.run_pure,Result.andThen_ok,run_setMap _ hb]
  ·rw [mset_old hh]
   apply List.ext_getElem?
   intro i
   have hi:=congrArg (fun q=>q[i]?) hl
   simp only [rows,List.getElem?_map,Array.getElem?_toList,Array.getElem?_modify,List.getElem?_set] at hi ⊢
   by_cases e:midx l n = i
   ·subst e
    rw [if_pos rfl,if_pos rfl,if_pos (List.getElem?_eq_some_iff.1 hv0).1,Array.getElem?_eq_getElem hlt]
    rfl
   ·rw [if_neg e,if_neg e]
    exact hi
 | false =>
  rw [hh] at hf
  refine ⟨es.push { key:=.int kk n,val:=mvV vk v,born:=clock },clock + 1,?_,?_⟩
  ·simp only [Instr.mapUpdate,Sem.run_bind,run_underlying h1,Result.andThen_ok,run_getMap hb,run_keyInt h2,run_findInt h2 hf,run_setMap _ hb]
  ·rw [mset_new hh]
   simp only [rows,Array.toList_push,List.map_append,hl]
   rfl

end
end Go.Sx

namespace Go.Sx
open Go

def AState.new (σ:AState) (t:TypeId) (cs:List TV):AState:={ σ with heap:=σ.heap ++ [.cells t cs] }

def newRowF (cells:List TV) (z:Nat):Nat → List TV:=fun i=>(cells.drop (i * z)).take z

def appF (n:Nat) (f f':Nat → List TV):Nat → List TV:=fun i=>match Nat.blt i n with | true=>f i | false=>f' (i - n)

def cellsOf:SV → Option (List TV)
 | .tv y=>match y.plain with | true=>some [y] | false=>none
 | .agg cs=>match cs.all TV.plain with | true=>some cs | false=>none
 | _=>none

/-- A slice that is read: its elements' size, how many, their cells; and whether they must be shown plain. -/
def AState.slOf (σ:AState):SV → Option (Nat × Nat × (Nat → List TV) × Bool)
 | .tv (.fz z n f)=>some (z,n,f,false)
 | .tv (.own z _ n f)=>some (z,n,f,true)
 | .al p=>match σ.look p with | some (.own z _ n f)=>some (z,n,f,true) | _=>none
 | .cut p lo m=>match σ.look p with | some (.own z _ _ f)=>some (z,m,fun i=>f (lo + i),true) | _=>none
 | _=>none

def zerosF (zs:List TV):Nat → List TV:=fun _=>zs

/-- Where the first operand of an append lies: its root, its length and elements. -/
def AState.appOf (σ:AState):Operand → Option (Option Root × Nat × (Nat → List TV) × Nat × TypeId)
 | .const (.slice none 0 0)=>some (none,0,fun _=>[],0,0)
 | .tmp s=>match σ.get s with
  | .al (r,[])=>match σ.ownAt r with | some (.own z e n f)=>some (some r,n,f,z,e) | _=>none
  | .tv (.own z e n f)=>some (some (.slot s 0),n,f,z,e)
  | .tv (.sc (.slice none 0 0))=>some (none,0,fun _=>[],0,0)
  | _=>none
 | _=>none

def killO (σ:AState):Option Root → AState
 | some r=>σ.kill r
 | none=>σ

def okRoot (z e z' e':Nat):Option Root → Bool
 | some _=>Nat.beq z z' && Nat.beq e e'
 | none=>true

/-- What a state comes to by an operation that makes or changes memory. -/
def evalEff (T:Tab) (σ:AState) (o:Oper):Option (List Prop × AState) :=
 match o.op,o.dst with
 | .alloc t,some d=>match T.get t with
  | some ti=>some ([],(σ.new t (ti.zero.map cTV)).put d (.pc σ.heap.length 0))
  | none=>none
 | .box t x,some d=>match cellsOf (σ.ev x) with
  | some cs=>some ([],(σ.new t cs).put d (.pc σ.heap.length 0))
  | none=>none
 | .assign (.tmp s),some d=>match σ.get s,Nat.beq s d with
  | .tv (.own z e n f),false=>some ([],σ.mv s d (.own z e n f))
  | .tv (.mp kk vk l),false=>some ([],σ.mv s d (.mp kk vk l))
  | _,_=>none
 | .store t a x,none=>match T.size t,cellsOf (σ.ev x) with
  | some n,some ys=>(match Nat.beq ys.length n with
   | true=>(match σ.ev a with
    | .pc o' off=>(match σ.heap[o']? with
     | some (.cells _ cs0)=>(match Nat.ble (off + ys.length) cs0.length with | true=>some ([],σ.storeC o' off ys) | false=>none)
     | _=>none)
    | .pe (r,[]) i j z=>(match σ.ownAt r with
     | some (.own z' e n' f)=>(match Nat.beq z z' && Nat.ble (j + ys.length) z with | true=>some ([PlainTo n' f],σ.storeE r z' e n' f i j ys) | false=>none)
     | _=>none)
    | _=>none)
   | false=>none)
  | _,_=>none
 | .buildSlice t len parts,some d=>match (T.get t).map TI.und,partsOf σ parts.toList with
  | some (.slice e),some ps=>(match T.get e with
   | some ei=>(match Nat.ble (len * ei.size) 16777216 && Nat.blt 0 ei.size,fillTV (fun i=>some (i * ei.size,ei.size)) ((List.range (len * ei.size)).map fun i=>((ei.zero.map cTV)[i % ei.zero.length]?).getD .hole) ps with
    | true,some cells=>some ([],σ.put d (.tv (.own ei.size e len (newRowF cells ei.size))))
    | _,_=>none)
   | none=>none)
  | _,_=>none
 | .makeSlice t l c,some d=>match (T.get t).map TI.und,iv (σ.ev l),iv (σ.ev c) with
  | some (.slice e),some n,some n'=>(match T.get e with
   | some ei=>some ([n = n',0 ≤ n,(ei.bytes:Int) * n ≤ 281474976710656,n ≤ 9223372036854775807],σ.put d (.tv (.own ei.size e n.toNat (zerosF (ei.zero.map cTV)))))
   | none=>none)
  | _,_,_=>none
 | .convert s t x,some d=>match (T.get s).map TI.und,(T.get t).map TI.und,σ.ev x with
  | some .string,some (.slice e),.tv (.str l)=>(match (T.get e).map TI.und,T.size e with
   | some (.int .u8),some 1=>some ([(l.length:Int) ≤ 9223372036854775807],σ.put d (.tv (.own 1 e l.length (fun i=>[.int .u8 ((l.getD i 0).toNat:Int)]))))
   | _,_=>none)
  | _,_,_=>none
 | .call { callee:=.builtin .append,args:=as,argTypes:=ts },some d=>match as.toList,ts.toList with
  | [x,y],[t,t2]=>(match (T.get t).map TI.und,(T.get t2).map TI.und,σ.appOf x with
   | some (.slice e),some u2,some (r,n,f,z,e')=>(match T.get e with
    | some ei=>(match okRoot z e' ei.size e r && Nat.blt 0 ei.bytes,u2,σ.ev y with
     | true,.slice _,s=>(match σ.slOf s with
      | some (z2,m,f2,_)=>(match Nat.beq z2 ei.size with
       | true=>some ([(n + m) * ei.bytes ≤ 140737488355328,PlainTo n f,PlainTo m f2],(killO σ r).put d (.tv (.own ei.size e (n + m) (appF n f f2))))
       | false=>none)
      | none=>none)
     | _,_,_=>none)
    | none=>none)
   | _,_,_=>none)
  | _,_=>none
 | .makeMap t none,some d=>match mapKinds T t with
  | some (kk,vk)=>some ([],σ.put d (.tv (.mp kk vk [])))
  | none=>none
 | .lookup t m k c,some d=>match mapKinds T t,σ.mapAt (σ.ev m),σ.ev k with
  | some (kk,vk),some (_,kk',vk',l),.tv (.int kk2 n)=>(match decide (kk = kk' ∧ vk = vk' ∧ kk = kk2) with | true=>some ([],σ.put d (lookSV vk l n c)) | false=>none)
  | _,_,_=>none
 | .mapUpdate t m k x,none=>match mapKinds T t,σ.mapAt (σ.ev m),σ.ev k with
  | some (kk,vk),some (r,kk',vk',l),.tv (.int kk2 n)=>(match decide (kk = kk' ∧ vk = vk' ∧ kk = kk2),mvN vk (σ.ev x) with | true,some v=>some ([],σ.setRoot r (.mp kk vk (mset l n v))) | _,_=>none)
  | _,_,_=>none
 | _,_=>none

section
variable {X:Ctx} {g:Gh} {σ:AState} {a:Act} {w:World} {T:Tab}

/-- An operation leads to a state. -/
def Comes2 (X:Ctx) (σ':AState) (a:Act) (w:World) (o:Oper):Prop :=
 ∃ n w' g',(execOp a.eval o).run X.P w = .ok n w' ∧ ((∃ v,n = .value v ∧ Sat X g' σ' (a.put o.dst v) w') ∨ (n = .skip ∧ Sat X g' σ' (a.put o.dst undef) w'))

theorem cellsOf_rel (hs:Sat X g σ a w) {x:Operand} {cs:List TV} (h:cellsOf (σ.ev x) = some cs):CellsRel g.P w (a.eval x).cells cs:=by
 obtain ⟨k,hk⟩:=ev_rel hs x
 unfold cellsOf at h
 split at h
 ·rename_i y hx
  split at h
  ·rename_i hp
   cases h
   rw [hx] at hk
   have hr:=TRel.plain (g:=g) (p:=(.slot k 0,[])) (x:=y) hk hp
   have hc:(a.eval x).cells = #[a.eval x]:=by
    have:=hr.one
    cases hv:a.eval x <;> first | rfl | (rw [hv] at this; cases this)
   rw [hc]
   refine ⟨rfl,fun q y' hy'=>?_⟩
   cases q with
   | zero=>simp only [List.getElem?_cons_zero,Option.some.injEq] at hy'; subst hy'; exact ⟨_,rfl,hr⟩
   | succ q=>simp at hy'
  ·cases h
 ·rename_i cs' hx
  split at h
  ·rename_i hp
   cases h
   rw [hx] at hk
   obtain ⟨vs,hv,hsz,hc⟩:=agg_plain hk hp
   rw [hv]
   exact ⟨hsz,hc⟩
  ·cases h
 ·cases h

theorem pc_rel {g:Gh} {w:World} {σ:AState} {k o off:Nat} (ho:o < σ.heap.length):SR g w σ k (.pointer (some ⟨g.m o,off,none⟩)) (.pc o off):=⟨rfl,ho⟩

theorem Sat.newPut (hs:Sat X g σ a w) {d:Nat} (hd:d < X.n) (t:TypeId) {c:Array Value} {cs:List TV} (hc:CellsRel g.P w c cs) :
  ∃ g',Sat X g' ((σ.new t cs).put d (.pc σ.heap.length 0)) (a.put (some d) (.pointer (some ⟨w.heap.size,0,none⟩))) (w.alloc (.cells c t)):=by
 have h1:=hs.newObj t hc
 refine ⟨_,h1.put hd rfl rfl (k:=0) ?_⟩
 have hm:(g.obj w.heap.size σ.heap.length).m σ.heap.length = w.heap.size:=by simp [Gh.obj]
 have:=pc_rel (g:=g.obj w.heap.size σ.heap.length) (w:=w.alloc (.cells c t)) (σ:=σ.new t cs) (k:=0) (o:=σ.heap.length) (off:=0) (by simp [AState.new])
 rw [hm] at this
 exact this

theorem alloc_sound (hT:TabOk X.P T) (hs:Sat X g σ a w) {t:TypeId} {d:Nat} (hd:d < X.n) {ti:TI} (hti:T.get t = some ti) {o:Oper} (ho:o.op = .alloc t) (hdst:o.dst = some d) :
  Comes2 X ((σ.new t (ti.zero.map cTV)).put d (.pc σ.heap.length 0)) a w o:=by
 obtain ⟨hu,i,z,hi,hsz,hby,hz,hzc,hzl,hz1,_⟩:=hT t ti hti
 have hzero:CellsRel g.P w z.cells (ti.zero.map cTV):=by
  refine ⟨by rw [← Array.length_toList,hzc]; simp,fun q y hy=>?_⟩
  rw [List.getElem?_map] at hy
  obtain ⟨u,hu',rfl⟩:=Option.map_eq_some_iff.1 hy
  refine ⟨u,by rw [← Array.getElem?_toList,hzc]; exact hu',cTV_rel ?_⟩
  rw [List.all_eq_true] at hz1
  exact hz1 u (List.mem_of_getElem? hu')
 obtain ⟨g',h'⟩:=hs.newPut hd t hzero
 refine ⟨_,_,g',?_,.inl ⟨_,rfl,by rw [hdst]; exact h'⟩⟩
 simp [execOp,ho,Instr.alloc,zeroValue,typeInfo,hi,hz,newVar,newRow]

theorem box_sound (hs:Sat X g σ a w) {t:TypeId} {x:Operand} {d:Nat} (hd:d < X.n) {cs:List TV} (hx:cellsOf (σ.ev x) = some cs) {o:Oper} (ho:o.op = .box t x) (hdst:o.dst = some d) :
  Comes2 X ((σ.new t cs).put d (.pc σ.heap.length 0)) a w o:=by
 obtain ⟨g',h'⟩:=hs.newPut hd t (cellsOf_rel hs hx)
 refine ⟨_,_,g',?_,.inl ⟨_,rfl,by rw [hdst]; exact h'⟩⟩
 simp [execOp,ho,Instr.box,newVar,newRow]

theorem assignOwn_sound (hs:Sat X g σ a w) {s d:Nat} (hd:d < X.n) (hne:s ≠ d) {x:TV} (hx:σ.get s = .tv x) {o:Oper} (ho:o.op = .assign (.tmp s)) (hdst:o.dst = some d) :
  Comes2 X (σ.mv s d x) a w o:=by
 refine ⟨_,w,_,?_,.inl ⟨_,rfl,by rw [hdst]; exact hs.mv hne hd hx⟩⟩
 simp only [execOp,ho]; rfl

theorem store_sound (hT:TabOk X.P T) (hs:Sat X g σ a w) {t:TypeId} {p x:Operand} {n:Nat} (hn:T.size t = some n) {ys:List TV} (hx:cellsOf (σ.ev x) = some ys) (hl:ys.length = n)
  {o:Oper} (ho:o.op = .store t p x) (hdst:o.dst = none) {σ':AState}
  (h:(∃ o' off t' cs0,σ.ev p = .pc o' off ∧ σ.heap[o']? = some (.cells t' cs0) ∧ off + ys.length ≤ cs0.length ∧ σ' = σ.storeC o' off ys) ∨
   (∃ r i j z e n' f,σ.ev p = .pe (r,[]) i j z ∧ σ.ownAt r = some (.own z e n' f) ∧ j + ys.length ≤ z ∧ PlainTo n' f ∧ σ' = σ.storeE r z e n' f i j ys)):Comes2 X σ' a w o:=by
 have hc:=cellsOf_rel hs hx
 obtain ⟨i0,hi0,hsz0⟩:=hT.info hn
 obtain ⟨k,hk⟩:=ev_rel hs p
 have hlen:(a.eval x).cells.toList.length = ys.length:=by rw [Array.length_toList]; exact hc.1
 have hrel:∀ (i:Nat) y,ys[i]? = some y → ∃ u,(a.eval x).cells.toList[i]? = some u ∧ FRel g.P w u y:=fun i y hy=>by
  obtain ⟨u,hu,hr⟩:=hc.2 i y hy
  exact ⟨u,by rw [Array.getElem?_toList]; exact hu,hr⟩
 have run:∀ {A:Addr} {w':World},a.eval p = .pointer (some A) → (storeCells A (a.eval x).cells.toList).run X.P w = .ok () w' → (execOp a.eval o).run X.P w = .ok .skip w':=by
  intro A w' hp hrun
  simp only [execOp,ho,Instr.storeAt,hp,Instr.sureAddr,pure_bind,storeVar,Sem.run_bind,run_size hi0,Result.andThen_ok]
  rw [if_neg (by rw [hc.1,hl,hsz0]; simp)]
  simp only [hrun,Result.andThen_ok,Sem.run_pure]
 rcases h with ⟨o',off,t',cs0,hp,hh,hfit,rfl⟩ | ⟨r,i,j,z,e,n',f,hp,hown,hfit,hpl,rfl⟩
 ·rw [hp] at hk
  obtain ⟨hv,_⟩:=hk
  obtain ⟨w',g',hrun,hs'⟩:=hs.storeC hh hlen hfit hrel
  exact ⟨.skip,w',g',run hv hrun,.inr ⟨rfl,by rw [hdst]; exact hs'⟩⟩
 ·rw [hp] at hk
  obtain ⟨b,e2,n2,f2,hl2,hi,hb,hv⟩:=hk
  have hroot:=(ownAt_root hown).2.1
  have:σ.look (r,[]) = some (.own z e n' f):=hroot
  rw [this] at hl2
  cases hl2
  obtain ⟨w',g',hrun,hs'⟩:=hs.storeE hown hpl hi hlen hfit hrel hb
  exact ⟨.skip,w',g',run hv hrun,.inr ⟨rfl,by rw [hdst]; exact hs'⟩⟩


theorem goes_new (w:World) (o:Obj):Goes w (w.alloc o) w.heap.size :=
 ⟨fun _ hb _=>Go.heap_alloc_old w o hb,by simp,rfl,rfl,rfl⟩

theorem Sat.fresh (hs:Sat X g σ a w):g.ow w.heap.size = none ∧ ¬ g.P w.heap.size ∧ (X.w0.heap.size ≤ w.heap.size ∨ X.g0.ow w.heap.size ≠ none):=by
 refine ⟨?_,fun h=>?_,.inl hs.mono⟩
 ·cases h:g.ow w.heap.size with
  | none=>rfl
  | some p=>have:=(hs.lt _ p h).1; omega
 ·have:=(hs.frozen _ h).2; omega

theorem newRowF_at {cells:List TV} {z i j:Nat} {y:TV} (hy:(newRowF cells z i)[j]? = some y):cells[i * z + j]? = some y:=by
 simp only [newRowF,List.getElem?_take] at hy
 split at hy
 ·rw [List.getElem?_drop] at hy; exact hy
 ·cases hy

theorem newRowF_length {cells:List TV} {z n i:Nat} (hlen:cells.length = n * z) (hi:i < n):(newRowF cells z i).length = z:=by
 simp only [newRowF,List.length_take,List.length_drop,hlen]
 have:(i + 1) * z ≤ n * z:=Nat.mul_le_mul_right _ hi
 rw [Nat.add_mul,Nat.one_mul] at this
 omega

/-- A row of cells that is laid new, as a slice. -/
theorem Sat.rowPut (hs:Sat X g σ a w) {d:Nat} (hd:d < X.n) (e:TypeId) {c:Array Value} {z n:Nat} {f:Nat → List TV} (hn:n ≤ maxLen) (hsz:c.size = n * z) (hz:∀ i,i < n → (f i).length = z)
  (hc:∀ (i j:Nat) y,i < n → (f i)[j]? = some y → ∃ u,c[i * z + j]? = some u ∧ FRel g.P w u y) :
  ∃ g',Sat X g' (σ.put d (.tv (.own z e n f))) (a.put (some d) (.slice (some ⟨w.heap.size,0,none⟩) n n)) (w.alloc (.cells c e)):=by
 obtain ⟨h1,h2,h3⟩:=hs.fresh
 have hlt:∀ (i j:Nat) y,i < n → (f i)[j]? = some y → i * z + j < c.size:=fun i j y hi hy=>by
  have hj:j < z:=by rw [← hz i hi]; exact (List.getElem?_eq_some_iff.1 hy).1
  have:(i + 1) * z ≤ n * z:=Nat.mul_le_mul_right _ hi
  rw [Nat.add_mul,Nat.one_mul] at this
  omega
 refine ⟨_,hs.putOwn hd (goes_new w _) h1 h2 h3 (by simp) (c:=c) (cs:=fun i j=>(c[i * z + j]?).getD undef) (Row.of (Go.heap_alloc_new w _)) hsz (Nat.le_refl _) hn hz (fun i j y hi hy=>?_) (fun i j y hi hy=>?_)⟩
 ·simp [hlt i j y hi hy]
 ·obtain ⟨u,hu,hr⟩:=hc i j y hi hy
  rw [hu]; exact hr

theorem buildSlice_run (hT:TabOk X.P T) (hs:Sat X g σ a w) {t e:TypeId} {len:Nat} {parts:Array (Nat × Operand)} {ps:List (Nat × List TV)} {ei:TI} {cells:List TV}
  (hu:(T.get t).map TI.und = some (.slice e)) (hps:partsOf σ parts.toList = some ps) (hei:T.get e = some ei) (hmax:len * ei.size ≤ 16777216) (hpos:0 < ei.size)
  (hfill:fillTV (fun i=>some (i * ei.size,ei.size)) ((List.range (len * ei.size)).map fun i=>((ei.zero.map cTV)[i % ei.zero.length]?).getD .hole) ps = some cells)
  {o:Oper} (ho:o.op = .buildSlice t len parts) :
  ∃ vs,CellsRel g.P w vs cells ∧ cells.length = len * ei.size ∧ len ≤ maxLen ∧ (execOp a.eval o).run X.P w = .ok (.value (.slice (some ⟨w.heap.size,0,none⟩) len len)) (w.alloc (.cells vs e)):=by
 obtain ⟨hu0,i,z,hi,hsz,hby,hz,hzc,hzl,hz1,hag,_⟩:=hT e ei hei
 obtain ⟨h1,h2⟩:=parts_rel hs hps
 have hund:=hT.und hu
 have hzs:z.cells.size = ei.size:=by rw [← Array.length_toList,hzc,hzl]
 have hmod:∀ q,q % ei.size < ei.size:=fun q=>Nat.mod_lt _ hpos
 have hbase:CellsRel g.P w ((Array.range (len * ei.size)).map (z.cells[· % z.cells.size]!)) ((List.range (len * ei.size)).map fun i=>((ei.zero.map cTV)[i % ei.zero.length]?).getD .hole):=by
  refine ⟨by simp,fun q y hy=>?_⟩
  have hq:q < len * ei.size:=by
   have:=(List.getElem?_eq_some_iff.1 hy).1
   simpa using this
  rw [List.getElem?_map,List.getElem?_range hq] at hy
  simp only [Option.map_some,Option.some.injEq] at hy
  have hz0:q % ei.zero.length < ei.zero.length:=by rw [hzl]; exact hmod q
  have hz1':q % z.cells.size < z.cells.size:=by rw [hzs]; exact hmod q
  refine ⟨z.cells[q % z.cells.size],by simp [hq,hz1'],?_⟩
  rw [List.getElem?_map,List.getElem?_eq_getElem hz0] at hy
  simp only [Option.map_some,Option.getD_some] at hy
  subst hy
  have:z.cells[q % z.cells.size] = ei.zero[q % ei.zero.length]:=by
   have e1:z.cells.toList[q % z.cells.size]'(by simpa using hz1') = z.cells[q % z.cells.size]:=by simp
   rw [← e1]
   simp only [hzc,hzs,hzl]
  rw [this]
  rw [List.all_eq_true] at hz1
  exact cTV_rel (hz1 _ (List.getElem_mem hz0))
 obtain ⟨vs,hvs,hrel⟩:=fill_rel (P:=g.P) (w:=w) (us:=(parts.toList.map fun (p:Nat × Operand)=>(p.1,a.eval p.2))) hfill (by simp [h1]) (fun j p hj=>by
  obtain ⟨x,hx,e1,e2⟩:=h2 j p hj
  exact ⟨(x.1,a.eval x.2),by rw [List.getElem?_map,hx]; rfl,e1,e2⟩) hbase
 have hfl:∀ (ps:List (Nat × List TV)) (c0 c1:List TV),fillTV (fun i=>some (i * ei.size,ei.size)) c0 ps = some c1 → c1.length = c0.length:=by
  intro ps
  induction ps with
  | nil=>intro c0 c1 h; simp only [fillTV,Option.some.injEq] at h; rw [← h]
  | cons p ps ih =>
   intro c0 c1 h
   obtain ⟨k,ys⟩:=p
   simp only [fillTV] at h
   split at h
   ·rw [ih _ _ h,putAt_length]
   ·cases h
 have hclen:cells.length = len * ei.size:=by rw [hfl _ _ _ hfill]; simp
 have hlenmax:len ≤ maxLen:=by
  have:len * 1 ≤ len * ei.size:=Nat.mul_le_mul_left _ hpos
  unfold maxLen; omega
 refine ⟨vs,hrel,hclen,hlenmax,?_⟩
 have hpt:(parts.map fun (x:Nat × Operand)=>(x.1,a.eval x.2)).toList = parts.toList.map fun (p:Nat × Operand)=>(p.1,a.eval p.2):=by simp
 simp only [execOp,ho,Instr.buildSlice,Sem.run_bind,run_underlying hund,Result.andThen_ok,run_size hi,hsz]
 rw [if_neg (by omega)]
 have hzv:(zeroValue e).run X.P w = .ok z w:=by
  simp only [zeroValue,typeInfo,Sem.run_bind,run_program,Result.andThen_ok,hi,Sem.run_pure,hz]
 by_cases hl0:len * ei.size = 0
 ·have hvs':Instr.fill (fun i=>some (i * ei.size,ei.size)) ((Array.range (len * ei.size)).map ((#[]:Array Value)[· % (#[]:Array Value).size]!)) (parts.toList.map fun (p:Nat × Operand)=>(p.1,a.eval p.2)) = some vs:=by
   rw [← hvs,hl0]
   congr 1
   apply Array.ext <;> simp
  simp only [hl0,if_true,pure_bind,hpt] at hvs' ⊢
  simp only [hvs',newRow,Sem.run_bind,run_newObj,Result.andThen_ok,Sem.run_pure]
  rfl
 ·rw [if_neg hl0]
  simp only [Sem.run_bind,hzv,Result.andThen_ok,Sem.run_pure,hpt,hvs,newRow,run_newObj]
  rfl

theorem buildSlice_sound (hT:TabOk X.P T) (hs:Sat X g σ a w) {t e:TypeId} {len:Nat} {parts:Array (Nat × Operand)} {d:Nat} (hd:d < X.n) {ps:List (Nat × List TV)} {ei:TI} {cells:List TV}
  (hu:(T.get t).map TI.und = some (.slice e)) (hps:partsOf σ parts.toList = some ps) (hei:T.get e = some ei) (hmax:len * ei.size ≤ 16777216) (hpos:0 < ei.size)
  (hfill:fillTV (fun i=>some (i * ei.size,ei.size)) ((List.range (len * ei.size)).map fun i=>((ei.zero.map cTV)[i % ei.zero.length]?).getD .hole) ps = some cells)
  {o:Oper} (ho:o.op = .buildSlice t len parts) (hdst:o.dst = some d):Comes2 X (σ.put d (.tv (.own ei.size e len (newRowF cells ei.size)))) a w o:=by
 obtain ⟨vs,hrel,hclen,hlenmax,hrun⟩:=buildSlice_run hT hs hu hps hei hmax hpos hfill ho
 obtain ⟨g',h'⟩:=hs.rowPut hd e (c:=vs) (n:=len) (f:=newRowF cells ei.size) hlenmax (by rw [hrel.1,hclen]) (fun i hi=>newRowF_length hclen hi) (fun i j y hi hy=>hrel.2 _ y (newRowF_at hy))
 exact ⟨_,_,g',hrun,.inl ⟨_,rfl,by rw [hdst]; exact h'⟩⟩

theorem madeCells_at (zs:Array Value) (n q:Nat) (h:q < n):(madeCells zs n)[q]? = some zs[q % zs.size]!:=by
 simp [madeCells,h]

theorem makeSlice_sound (hT:TabOk X.P T) (hs:Sat X g σ a w) {t e:TypeId} {l c:Operand} {d:Nat} (hd:d < X.n) {ei:TI} {n n':Int}
  (hu:(T.get t).map TI.und = some (.slice e)) (hl:iv (σ.ev l) = some n) (hc:iv (σ.ev c) = some n') (hei:T.get e = some ei) (hnn:n = n') (h0:0 ≤ n) (hb:(ei.bytes:Int) * n ≤ 281474976710656) (h63:n ≤ 9223372036854775807)
  {o:Oper} (ho:o.op = .makeSlice t l c) (hdst:o.dst = some d):Comes2 X (σ.put d (.tv (.own ei.size e n.toNat (zerosF (ei.zero.map cTV))))) a w o:=by
 subst hnn
 obtain ⟨hu0,i,z,hi,hsz,hby,hz,hzc,hzl,hz1,hag,_⟩:=hT e ei hei
 have hund:=hT.und hu
 obtain ⟨k1,e1⟩:=iv_rel hs hl
 obtain ⟨k2,e2⟩:=iv_rel hs hc
 have hrun:=run_make (P:=X.P) w t e i z hund hi hz k1 k2 n n h0 (Int.le_refl _) (by rw [hby]; exact hb) h63
 have hzs:z.cells.size = ei.size:=by rw [← Array.length_toList,hzc,hzl]
 obtain ⟨g',h'⟩:=hs.rowPut hd e (c:=madeCells z.cells (n.toNat * i.size)) (z:=ei.size) (n:=n.toNat) (f:=zerosF (ei.zero.map cTV)) (by unfold maxLen; omega) (by simp [madeCells,hsz]) (fun i hi=>by simp [zerosF,hzl]) (fun i' j y hi' hy=>by
  simp only [zerosF,List.getElem?_map] at hy
  obtain ⟨u,hu',rfl⟩:=Option.map_eq_some_iff.1 hy
  have hj:j < ei.zero.length:=(List.getElem?_eq_some_iff.1 hu').1
  have hj':j < ei.size:=by omega
  have hlt:i' * ei.size + j < n.toNat * i.size:=by
   have:(i' + 1) * ei.size ≤ n.toNat * ei.size:=Nat.mul_le_mul_right _ hi'
   rw [Nat.add_mul,Nat.one_mul] at this
   rw [hsz]; omega
  refine ⟨u,?_,cTV_rel ?_⟩
  ·rw [madeCells_at _ _ _ hlt,hzs]
   have hm:(i' * ei.size + j) % ei.size = j:=by
    rw [Nat.add_comm,Nat.add_mul_mod_self_right]; exact Nat.mod_eq_of_lt hj'
   rw [hm]
   have:z.cells[j]! = u:=by
    rw [getElem!_pos z.cells j (by omega)]
    have e1:z.cells.toList[j]? = some u:=by rw [hzc]; exact hu'
    rw [Array.getElem?_toList] at e1
    exact (Array.getElem?_eq_some_iff.1 e1).2
   rw [this]
  ·rw [List.all_eq_true] at hz1
   exact hz1 u (List.mem_of_getElem? hu'))
 refine ⟨_,_,g',?_,.inl ⟨_,rfl,by rw [hdst]; exact h'⟩⟩
 simp only [execOp,ho,e1,e2,Sem.run_bind,hrun,Result.andThen_ok,Sem.run_pure]


theorem bytes_sound (hT:TabOk X.P T) (hs:Sat X g σ a w) {s t e:TypeId} {x:Operand} {d:Nat} (hd:d < X.n) {l:List UInt8}
  (hsu:(T.get s).map TI.und = some .string) (hu:(T.get t).map TI.und = some (.slice e)) (hx:σ.ev x = .tv (.str l)) (heu:(T.get e).map TI.und = some (.int .u8)) (hmax:(l.length:Int) ≤ 9223372036854775807)
  {o:Oper} (ho:o.op = .convert s t x) (hdst:o.dst = some d):Comes2 X (σ.put d (.tv (.own 1 e l.length (fun i=>[.int .u8 ((l.getD i 0).toNat:Int)])))) a w o:=by
 have hrun:=run_bytes_of_string (P:=X.P) w s t e ⟨l.toArray⟩ (hT.und hsu) (hT.und hu) (hT.und heu)
 have hsz:(⟨l.toArray⟩:ByteArray).size = l.length:=rfl
 rw [hsz] at hrun
 have hge:=grownCap_ge w l.length 0 e
 have hle:=grownCap_le_maxLen w l.length 0 e (by unfold maxLen; omega)
 have hbs:(bytesRow ⟨l.toArray⟩ (grownCap w l.length 0 e)).size = grownCap w l.length 0 e:=by
  simp only [bytesRow,Array.size_append,Array.size_map,Array.size_replicate,hsz,List.size_toArray]
  omega
 obtain ⟨h1,h2,h3⟩:=hs.fresh
 have hcell:∀ i,i < l.length → (bytesRow ⟨l.toArray⟩ (grownCap w l.length 0 e))[i]? = some (.int .u8 ((l.getD i 0).toNat:Int)):=fun i hi=>by
  simp only [bytesRow]
  rw [Array.getElem?_append_left (by simpa using hi)]
  simp [hi]
 have h':=hs.putOwn hd (nb:=w.heap.size) (w':=w.drew.alloc (.cells (bytesRow ⟨l.toArray⟩ (grownCap w l.length 0 e)) e ((bytesRow ⟨l.toArray⟩ (grownCap w l.length 0 e)).size,(bytesRow ⟨l.toArray⟩ (grownCap w l.length 0 e)).size + 1)))
  (goes_alloc w _) h1 h2 h3 (by simp) (z:=1) (n:=l.length) (cap:=grownCap w l.length 0 e) (e:=e) (f:=fun i=>[.int .u8 ((l.getD i 0).toNat:Int)]) (c:=bytesRow ⟨l.toArray⟩ (grownCap w l.length 0 e)) (cs:=fun i _=>.int .u8 ((l.getD i 0).toNat:Int))
  ⟨_,Go.heap_alloc_new w.drew _,.inr (Nat.le_refl _)⟩ (by rw [hbs]; omega) hge hle (fun _ _=>rfl) (fun i j y hi hy=>by
   cases j with
   | zero=>rw [Nat.mul_one,Nat.add_zero]; exact hcell i hi
   | succ j=>simp at hy) (fun i j y _ hy=>by
   cases j with
   | zero=>simp only [List.getElem?_cons_zero,Option.some.injEq] at hy; subst hy; exact .int _ _
   | succ j=>simp at hy)
 refine ⟨_,_,_,?_,.inl ⟨_,rfl,by rw [hdst]; exact h'⟩⟩
 simp only [execOp,ho,ev_str hs hx,Sem.run_bind,hrun,Result.andThen_ok,Sem.run_pure]

/-- What a slice that is read says of its cells. -/
theorem slOf_rel (hs:Sat X g σ a w) {x:Operand} {z n:Nat} {f:Nat → List TV} {b:Bool} (h:σ.slOf (σ.ev x) = some (z,n,f,b)) (hp:PlainTo n f) :
  ((∃ A c,a.eval x = .slice A 0 c) ∧ n = 0) ∨ ∃ bk off cap,∃ cs:Nat → Nat → Value,a.eval x = .slice (some ⟨bk,off,none⟩) n cap ∧ (∀ i,i < n → (f i).length = z) ∧
   ∀ (i j:Nat) y,i < n → (f i)[j]? = some y → w.cell? ⟨bk,off + i * z + j,none⟩ = some (cs i j) ∧ FRel g.P w (cs i j) y:=by
 obtain ⟨k,hk⟩:=ev_rel hs x
 have hplain:∀ (q t:Nat) (y:TV),q < n → (f q)[t]? = some y → y.plain = true:=fun q t y hq hyq=>by
  have:=hp q hq
  rw [List.all_eq_true] at this
  exact this y (List.mem_of_getElem? hyq)
 have own:∀ {p:Path} {v:Value} {e:TypeId},TRel g w p v (.own z e n f) → ((∃ A c,v = .slice A 0 c) ∧ n = 0) ∨ ∃ bk off cap,∃ cs:Nat → Nat → Value,v = .slice (some ⟨bk,off,none⟩) n cap ∧ (∀ i,i < n → (f i).length = z) ∧
   ∀ (i j:Nat) y,i < n → (f i)[j]? = some y → w.cell? ⟨bk,off + i * z + j,none⟩ = some (cs i j) ∧ FRel g.P w (cs i j) y:=by
  intro p v e hv
  rcases own_inv hv with h | ⟨b',cap,c,cs,h1,hv,h3,h4,h5,h6,h7,h8,h9⟩
  ·exact .inl ⟨⟨none,0,h.1⟩,h.2⟩
  ·refine .inr ⟨b',0,cap,cs,hv,h7,fun i j y hi hy=>⟨?_,(h9 i j y hi hy).plain (hplain i j y hi hy)⟩⟩
   rw [Nat.zero_add]
   exact (h3.cell _).trans (h8 i j y hi hy)
 unfold AState.slOf at h
 split at h
 ·rename_i z' n' f' hx
  cases h
  rw [hx] at hk
  rcases fz_inv (TRel.plain (g:=g) (p:=(.slot k 0,[])) (x:=.fz z n f) hk rfl) with h | ⟨b',off,cap,cs,h1,hv,h3,h4,h5,h6,h7⟩
  ·exact .inl h
  ·exact .inr ⟨b',off,cap,cs,hv,h5,fun i j y hi hy=>⟨h6 i j y hi hy,h7 i j y hi hy⟩⟩
 ·rename_i z' e n' f' hx
  cases h
  rw [hx] at hk
  exact own (p:=(.slot k 0,[])) (e:=e) hk
 ·rename_i p hx
  split at h
  ·rename_i z' e n' f' hl
   cases h
   rw [hx] at hk
   obtain ⟨z2,e2,n2,f2,hl2,hv⟩:=hk
   rw [hl] at hl2
   cases hl2
   obtain ⟨v',hv'⟩:=hs.own_at hl
   rcases hv with ⟨hv,h0⟩ | ⟨b',cap,c,hb,hv,hrow,hcs,hn,hm⟩
   ·exact .inl ⟨⟨none,0,hv⟩,h0⟩
   ·rcases own_inv hv' with ⟨_,h0⟩ | ⟨b2,cap2,c2,cs,h1,hv2,h3,h4,h5,h6,h7,h8,h9⟩
    ·refine .inr ⟨b',0,cap,fun _ _=>undef,hv,fun i hi=>by omega,fun i j y hi=>by omega⟩
    ·obtain rfl:=hs.inj b' b2 _ hb h1
     refine .inr ⟨b',0,cap,cs,hv,h7,fun i j y hi hy=>⟨?_,(h9 i j y hi hy).plain (hplain i j y hi hy)⟩⟩
     rw [Nat.zero_add]
     exact (h3.cell _).trans (h8 i j y hi hy)
  ·cases h
 ·rename_i p lo m hx
  split at h
  ·rename_i z' e n' f' hl
   cases h
   rw [hx] at hk
   obtain ⟨z2,e2,n2,f2,A,cap,hl2,hle,hv,hm⟩:=hk
   rw [hl] at hl2
   cases hl2
   rcases hm with h0 | ⟨b',cap0,c,hb,rfl,hrow,hcs,hn,hm⟩
   ·subst h0
    exact .inl ⟨⟨A,cap,hv⟩,rfl⟩
   ·obtain ⟨v',hv'⟩:=hs.own_at hl
    rcases own_inv hv' with ⟨_,h0⟩ | ⟨b2,cap2,c2,cs,h1,hv2,h3,h4,h5,h6,h7,h8,h9⟩
    ·have:n = 0:=by omega
     subst this
     exact .inl ⟨⟨_,cap,hv⟩,rfl⟩
    ·obtain rfl:=hs.inj b' b2 _ hb h1
     refine .inr ⟨b',lo * z,cap,fun i j=>cs (lo + i) j,hv,fun i hi=>h7 _ (by omega),fun i j y hi hy=>⟨?_,(h9 (lo + i) j y (by omega) hy).plain (hplain i j y hi hy)⟩⟩
     rw [← Nat.add_mul]
     exact (h3.cell _).trans (h8 (lo + i) j y (by omega) hy)
  ·cases h
 ·cases h

/-- The cells of so many elements, one list. -/
theorem flat_cells {P:Nat → Prop} {w:World} {n z b off:Nat} {f:Nat → List TV} {cs:Nat → Nat → Value} (hz:∀ i,i < n → (f i).length = z)
  (hc:∀ (i j:Nat) y,i < n → (f i)[j]? = some y → w.cell? ⟨b,off + i * z + j,none⟩ = some (cs i j) ∧ FRel P w (cs i j) y) :
  ∃ vs:List Value,vs.length = n * z ∧ (∀ (q:Nat) v,vs[q]? = some v → w.cell? ⟨b,off + q,none⟩ = some v ∧ v.oneCell' = true) ∧
   ∀ (i j:Nat) y,i < n → (f i)[j]? = some y → ∃ u,vs[i * z + j]? = some u ∧ FRel P w u y:=by
 refine ⟨(List.range (n * z)).map fun q=>cs (q / z) (q % z),by simp,fun q v hq=>?_,fun i j y hi hy=>?_⟩
 ·have hq':q < n * z:=by have:=(List.getElem?_eq_some_iff.1 hq).1; simpa using this
  rw [List.getElem?_map,List.getElem?_range hq'] at hq
  simp only [Option.map_some,Option.some.injEq] at hq
  subst hq
  have hz0:0 < z:=by
    rcases Nat.eq_zero_or_pos z with h | h
    ·subst h; simp at hq'
    ·exact h
  have hi:q / z < n:=(Nat.div_lt_iff_lt_mul hz0).2 hq'
  have hj:q % z < (f (q / z)).length:=by rw [hz _ hi]; exact Nat.mod_lt _ hz0
  obtain ⟨h1,h2⟩:=hc (q / z) (q % z) _ hi (List.getElem?_eq_getElem hj)
  have e:q / z * z + q % z = q:=Nat.div_add_mod' q z
  rw [Nat.add_assoc,e] at h1
  exact ⟨h1,h2.one⟩
 ·have hj:j < z:=by rw [← hz i hi]; exact (List.getElem?_eq_some_iff.1 hy).1
  have hlt:i * z + j < n * z:=by
   have:(i + 1) * z ≤ n * z:=Nat.mul_le_mul_right _ hi
   rw [Nat.add_mul,Nat.one_mul] at this
   omega
  have e1:(i * z + j) / z = i:=by
   rw [Nat.add_comm,Nat.add_mul_div_right _ _ (by omega),Nat.div_eq_of_lt hj,Nat.zero_add]
  have e2:(i * z + j) % z = j:=by rw [Nat.add_comm,Nat.add_mul_mod_self_right]; exact Nat.mod_eq_of_lt hj
  refine ⟨cs i j,?_,(hc i j y hi hy).2⟩
  rw [List.getElem?_map,List.getElem?_range hlt,Option.map_some,e1,e2]

/-- What the second operand of an append is. -/
theorem second_of (hT:TabOk X.P T) (hs:Sat X g σ a w) {x:Operand} {z m:Nat} {f:Nat → List TV} {b:Bool} (h:σ.slOf (σ.ev x) = some (z,m,f,b)) (hp:PlainTo m f) {t2 e2:TypeId} (hu:(T.get t2).map TI.und = some (.slice e2)) :
  ∃ news:List Value,Second X.P w t2 z (a.eval x) m news ∧ (∀ i,i < m → (f i).length = z) ∧ ∀ (i j:Nat) y,i < m → (f i)[j]? = some y → ∃ u,news[i * z + j]? = some u ∧ FRel g.P w u y:=by
 rcases slOf_rel hs h hp with ⟨hv,h0⟩ | ⟨bk,off,cap,cs,hv,hz,hc⟩
 ·subst h0
  obtain ⟨A,c,hv⟩:=hv
  rw [hv]
  refine ⟨[],⟨fun _ _=>rfl,.inl ⟨e2,hT.und hu⟩,fun w' _=>?_,by simp,fun v hv=>by simp at hv⟩,fun i hi=>by omega,fun i j y hi=>by omega⟩
  cases A with
  | none=>rfl
  | some A=>exact run_firstCells_some (P:=X.P) w' z 0 A 0 c [] (by simp) fun j v hj=>by simp at hj
 ·rw [hv]
  obtain ⟨vs,hl,h1,h2⟩:=flat_cells hz hc
  refine ⟨vs,⟨fun _ _=>rfl,.inl ⟨e2,hT.und hu⟩,fun w' hw'=>?_,hl,fun v hv=>?_⟩,hz,h2⟩
  ·refine run_firstCells_some (P:=X.P) w' z m ⟨bk,off,none⟩ m cap vs hl fun j v hj=>?_
   rw [add_mk,World.cell?_of_block (w:=w) (by rw [hw'])]
   exact (h1 j v hj).1
  ·obtain ⟨q,hq⟩:=List.getElem?_of_mem hv
   exact (h1 q v hq).2

theorem appF_lt {n i:Nat} {f f':Nat → List TV} (h:i < n):appF n f f' i = f i:=by
 simp only [appF,show Nat.blt i n = true from Nat.ble_eq_true_of_le h]

theorem appF_ge {n i:Nat} {f f':Nat → List TV} (h:n ≤ i):appF n f f' i = f' (i - n):=by
 have:Nat.blt i n = false:=by
  cases hb:Nat.blt i n with
  | false=>rfl
  | true=>have:=Nat.le_of_ble_eq_true hb; omega
 simp only [appF,this]

/-- What the first operand of an append says. -/
theorem appOf_rel (hs:Sat X g σ a w) {x:Operand} {r:Option Root} {n:Nat} {f:Nat → List TV} {z:Nat} {e:TypeId} (h:σ.appOf x = some (r,n,f,z,e)) :
  (r = none ∧ n = 0 ∧ a.eval x = .slice none 0 0) ∨ ∃ r0,r = some r0 ∧ (∀ o,r0 ≠ .obj o) ∧ ((a.eval x = .slice none 0 0 ∧ n = 0) ∨
   ∃ b cap c,∃ cs':Nat → Nat → Value,g.ow b = some (r0,[]) ∧ a.eval x = .slice (some ⟨b,0,none⟩) n cap ∧ Row w b e c ∧ c.size = cap * z ∧ n ≤ cap ∧ cap ≤ maxLen ∧ (∀ i,i < n → (f i).length = z) ∧
    ∀ (i j:Nat) y,i < n → (f i)[j]? = some y → c[i * z + j]? = some (cs' i j) ∧ (y.plain = true → FRel g.P w (cs' i j) y)):=by
 have ofOwn:∀ {p:Path} {v:Value},TRel g w p v (.own z e n f) → (v = .slice none 0 0 ∧ n = 0) ∨
   ∃ b cap c,∃ cs':Nat → Nat → Value,g.ow b = some p ∧ v = .slice (some ⟨b,0,none⟩) n cap ∧ Row w b e c ∧ c.size = cap * z ∧ n ≤ cap ∧ cap ≤ maxLen ∧ (∀ i,i < n → (f i).length = z) ∧
    ∀ (i j:Nat) y,i < n → (f i)[j]? = some y → c[i * z + j]? = some (cs' i j) ∧ (y.plain = true → FRel g.P w (cs' i j) y):=by
  intro p v hv
  rcases own_inv hv with h | ⟨b',cap,c,cs,h1,hv,h3,h4,h5,h6,h7,h8,h9⟩
  ·exact .inl h
  ·exact .inr ⟨b',cap,c,cs,h1,hv,h3,h4,h5,h6,h7,fun i j y hi hy=>⟨h8 i j y hi hy,fun hp=>(h9 i j y hi hy).plain hp⟩⟩
 unfold AState.appOf at h
 split at h
 ·cases h
  exact .inl ⟨rfl,rfl,rfl⟩
 ·rename_i s
  have hk:=hs.env s
  split at h
  ·rename_i r0 hg
   split at h
   ·rename_i z' e' n' f' hown
    cases h
    rw [hg] at hk
    obtain ⟨hsim,hroot,_⟩:=ownAt_root hown
    refine .inr ⟨r0,rfl,(fun o e=>by subst e; cases hsim),?_⟩
    obtain ⟨z2,e2,n2,f2,hl2,hv⟩:=hk
    have:σ.look (r0,[]) = some (.own z e n f):=hroot
    rw [this] at hl2
    cases hl2
    rcases hv with hv | ⟨b',cap,c,hb,hv,hrow,hcs,hn,hm⟩
    ·exact .inl hv
    ·obtain ⟨v',hv'⟩:=hs.root hroot
     rcases ofOwn hv' with ⟨_,h0⟩ | ⟨b2,cap2,c2,cs',h1,hv2,h3,h4,h5,h6,h7,h8⟩
     ·exact .inr ⟨b',cap,c,fun _ _=>undef,hb,hv,hrow,hcs,hn,hm,fun i hi=>by omega,fun i j y hi=>by omega⟩
     ·obtain rfl:=hs.inj b' b2 _ hb h1
      obtain ⟨fr,q1,q2⟩:=hrow
      obtain ⟨fr2,q3,_⟩:=h3
      rw [q1] at q3
      injection q3 with q3
      injection q3 with q4 _ _
      subst q4
      exact .inr ⟨b',cap,c,cs',hb,hv,⟨fr,q1,q2⟩,hcs,hn,hm,h7,h8⟩
   ·cases h
  ·rename_i z' e' n' f' hg
   cases h
   rw [hg] at hk
   exact .inr ⟨_,rfl,(fun o e=>by cases e),ofOwn (p:=(.slot s 0,[])) hk⟩
  ·rename_i hg
   cases h
   rw [hg] at hk
   exact .inl ⟨rfl,rfl,rel_sc (p:=(.slot s 0,[])) hk⟩
  ·cases h
 ·cases h

theorem append_sec (hT:TabOk X.P T) (hs:Sat X g σ a w) {x y:Operand} {t t2 e:TypeId} {d:Nat} (hd:d < X.n) {r:Option Root} {n m z e':Nat} {f f2:Nat → List TV} {ei:TI}
  (hu:(T.get t).map TI.und = some (.slice e)) (hx:σ.appOf x = some (r,n,f,z,e')) (hei:T.get e = some ei) (hok:okRoot z e' ei.size e r = true) (hb0:0 < ei.bytes)
  (hsecond:∃ news:List Value,Second X.P w t2 ei.size (a.eval y) m news ∧ (∀ i,i < m → (f2 i).length = ei.size) ∧ ∀ (i j:Nat) y,i < m → (f2 i)[j]? = some y → ∃ u,news[i * ei.size + j]? = some u ∧ FRel g.P w u y)
  (hbytes:(n + m) * ei.bytes ≤ 140737488355328) (hp1:PlainTo n f)
  {o:Oper} (ho:o.op = .call { callee:=.builtin .append,args:=#[x,y],argTypes:=#[t,t2] }) (hdst:o.dst = some d) :
  Comes2 X ((killO σ r).put d (.tv (.own ei.size e (n + m) (appF n f f2)))) a w o:=by
 obtain ⟨hu0,i,zv,hi,hsz,hby,hz,hzc,hzl,hz1,hag,_⟩:=hT e ei hei
 have hzs:zv.cells.size = ei.size:=by rw [← Array.length_toList,hzc,hzl]
 obtain ⟨news,hsec,hlen2,hnews⟩:=hsecond
 rw [← hsz] at hsec
 have hplain1:∀ (q t:Nat) (y:TV),q < n → (f q)[t]? = some y → y.plain = true:=fun q t y hq hyq=>by
  have:=hp1 q hq
  rw [List.all_eq_true] at this
  exact this y (List.mem_of_getElem? hyq)
 -- the first operand
 have first:∃ olds:List Value,((a.eval x = .slice none 0 0 ∧ n = 0 ∧ olds = []) ∨ ∃ b cap c,a.eval x = .slice (some ⟨b,0,none⟩) n cap ∧ Row w b e c ∧ c.size = cap * i.size ∧ n ≤ cap ∧ cap ≤ maxLen ∧ olds.length = n * i.size ∧ ∀ (j:Nat) v,olds[j]? = some v → c[j]? = some v) ∧
   (∀ i',i' < n → (f i').length = ei.size) ∧ (∀ (i' j:Nat) y,i' < n → (f i')[j]? = some y → ∃ u,olds[i' * ei.size + j]? = some u ∧ FRel g.P w u y) ∧ olds.length = n * ei.size ∧
   ∃ g1,Sat X g1 (killO σ r) a w ∧ g1.P = g.P ∧ ∀ b n' cap,a.eval x = .slice (some ⟨b,0,none⟩) n' cap → g1.ow b = none ∧ ¬ g1.P b ∧ (X.w0.heap.size ≤ b ∨ X.g0.ow b ≠ none):=by
  rcases appOf_rel hs hx with ⟨rfl,rfl,hv⟩ | ⟨r0,rfl,hr0,hv⟩
  ·exact ⟨[],.inl ⟨hv,rfl,rfl⟩,fun i' hi'=>by omega,fun i' j y hi'=>by omega,by simp,g,hs,rfl,fun b n' cap e=>by rw [hv] at e; cases e⟩
  ·simp only [okRoot,Bool.and_eq_true,Nat.beq_eq] at hok
   obtain ⟨rfl,rfl⟩:=hok
   have hkill:=hs.kill hr0
   rcases hv with ⟨hv,rfl⟩ | ⟨b,cap,c,cs',hb,hv,hrow,hcs,hn,hm,hl,hc⟩
   ·exact ⟨[],.inl ⟨hv,rfl,rfl⟩,fun i' hi'=>by omega,fun i' j y hi'=>by omega,by simp,_,hkill,rfl,fun b n' cap e=>by rw [hv] at e; cases e⟩
   ·obtain ⟨olds,ho1,ho2,ho3⟩:=flat_cells (P:=g.P) (w:=w) (b:=b) (off:=0) (cs:=cs') hl fun i' j y hi' hy=>⟨by rw [Nat.zero_add]; exact (hrow.cell _).trans (hc i' j y hi' hy).1,(hc i' j y hi' hy).2 (hplain1 i' j y hi' hy)⟩
    refine ⟨olds,.inr ⟨b,cap,c,hv,hrow,by rw [hsz]; exact hcs,hn,hm,by rw [hsz]; exact ho1,fun j v hj=>?_⟩,hl,ho3,ho1,_,hkill,rfl,fun b' n' cap' e=>?_⟩
    ·have:=(ho2 j v hj).1
     rw [Nat.zero_add] at this
     exact (hrow.cell j).symm.trans this
    ·rw [hv] at e
     cases e
     refine ⟨?_,fun hp=>?_,(hs.lt b _ hb).2⟩
     ·cases hg:(g.clr (rootR r0)).ow b with
      | none=>rfl
      | some p =>
       obtain ⟨e1,e2⟩:=clr_some.1 hg
       rw [hb] at e1
       cases e1
       cases r0 with
       | slot k j=>simp [rootR,under] at e2
       | cell o off=>simp [rootR] at e2
       | obj o=>exact absurd rfl (hr0 o)
     ·have:=(hs.frozen b hp).1
      rw [hb] at this
      cases this
 obtain ⟨olds,hfirst,hlen1,hold,holen,g1,hkill,hgP,hunown⟩:=first
 obtain ⟨v,w',hrun,hv⟩:=run_append (ty:=o.type) (hT.und hu) hi hz (by rw [hzs,hsz]) hsec (by rw [hby]; exact hb0) (by rw [hby]; exact hbytes) hfirst
 have hexec:(execOp a.eval o).run X.P w = .ok (.value v) w':=by
  simp only [execOp,ho,resolve,invoke,builtin,Sem.run_bind,Sem.run_pure,Result.andThen_ok,List.map_toArray,List.map_cons,List.map_nil,hrun]
 rcases hv with ⟨rfl,hnm,rfl⟩ | ⟨nb,cap,c,rfl,hrow,hcs,hn,hm,hg,hcells,hnb⟩
 ·have h':=hkill.putNil hd ei.size e (appF n f f2)
  exact ⟨_,w',_,hexec,.inl ⟨_,rfl,by rw [hdst,hnm]; exact h'⟩⟩
 ·have hnew:g1.ow nb = none ∧ ¬ g1.P nb ∧ (X.w0.heap.size ≤ nb ∨ X.g0.ow nb ≠ none):=by
   rcases hnb with ⟨n',cap',e⟩ | rfl
   ·exact hunown nb n' cap' e
   ·exact hkill.fresh
  have hall:∀ (i' j:Nat) y,i' < n + m → (appF n f f2 i')[j]? = some y → ∃ u,(olds ++ news)[i' * ei.size + j]? = some u ∧ FRel g.P w u y:=fun i' j y hi' hy=>by
   rcases Nat.lt_or_ge i' n with h | h
   ·rw [appF_lt h] at hy
    obtain ⟨u,hu,hr⟩:=hold i' j y h hy
    exact ⟨u,by rw [List.getElem?_append_left (List.getElem?_eq_some_iff.1 hu).1]; exact hu,hr⟩
   ·rw [appF_ge h] at hy
    obtain ⟨u,hu,hr⟩:=hnews (i' - n) j y (by omega) hy
    refine ⟨u,?_,hr⟩
    have e1:i' * ei.size + j = n * ei.size + ((i' - n) * ei.size + j):=by
     have:i' * ei.size = n * ei.size + (i' - n) * ei.size:=by rw [← Nat.add_mul]; congr 1; omega
     omega
    rw [e1,List.getElem?_append_right (by omega),holen,Nat.add_sub_cancel_left]
    exact hu
  have h':=hkill.putOwn hd hg hnew.1 hnew.2.1 hnew.2.2 hrow.lt (z:=ei.size) (n:=n + m) (cap:=cap) (e:=e) (f:=appF n f f2) (c:=c) (cs:=fun i' j=>(c[i' * ei.size + j]?).getD undef) hrow (by rw [← hsz]; exact hcs) hn hm
   (fun i' hi'=>by
    rcases Nat.lt_or_ge i' n with h | h
    ·rw [appF_lt h]; exact hlen1 i' h
    ·rw [appF_ge h]; exact hlen2 _ (by omega))
   (fun i' j y hi' hy=>by
    obtain ⟨u,hu,_⟩:=hall i' j y hi' hy
    rw [hcells _ u hu]; rfl)
   (fun i' j y hi' hy=>by
    obtain ⟨u,hu,hr⟩:=hall i' j y hi' hy
    rw [hcells _ u hu,hgP]; exact hr)
  exact ⟨_,w',_,hexec,.inl ⟨_,rfl,by rw [hdst]; exact h'⟩⟩

theorem append_sound (hT:TabOk X.P T) (hs:Sat X g σ a w) {x y:Operand} {t t2 e e2:TypeId} {d:Nat} (hd:d < X.n) {r:Option Root} {n m z e':Nat} {f f2:Nat → List TV} {b2:Bool} {ei:TI}
  (hu:(T.get t).map TI.und = some (.slice e)) (hu2:(T.get t2).map TI.und = some (.slice e2)) (hx:σ.appOf x = some (r,n,f,z,e')) (hei:T.get e = some ei) (hok:okRoot z e' ei.size e r = true) (hb0:0 < ei.bytes)
  (hy:σ.slOf (σ.ev y) = some (ei.size,m,f2,b2)) (hbytes:(n + m) * ei.bytes ≤ 140737488355328) (hp1:PlainTo n f) (hp2:PlainTo m f2)
  {o:Oper} (ho:o.op = .call { callee:=.builtin .append,args:=#[x,y],argTypes:=#[t,t2] }) (hdst:o.dst = some d) :
  Comes2 X ((killO σ r).put d (.tv (.own ei.size e (n + m) (appF n f f2)))) a w o :=
 append_sec hT hs hd hu hx hei hok hb0 (second_of hT hs hy hp2 hu2) hbytes hp1 ho hdst

/-- What the evaluation of an operation says of the state behind it. -/
theorem evalEff_sound (hT:TabOk X.P T) (hs:Sat X g σ a w) {o:Oper} {cs:List Prop} {σ':AState} (h:evalEff T σ o = some (cs,σ')) (hc:∀ c ∈ cs,c) (hd:∀ d,o.dst = some d → d < X.n):Comes2 X σ' a w o:=by
 unfold evalEff at h
 split at h
 ·rename_i t d ho hdst
  split at h
  ·rename_i ti hti
   cases h
   exact alloc_sound hT hs (hd d hdst) hti ho hdst
  ·cases h
 ·rename_i t x d ho hdst
  split at h
  ·rename_i cells hx
   cases h
   exact box_sound hs (hd d hdst) hx ho hdst
  ·cases h
 ·rename_i s d ho hdst
  split at h
  ·rename_i z e n f hg hne
   cases h
   exact assignOwn_sound hs (hd d hdst) (fun e=>by subst e; simp at hne) hg ho hdst
  ·rename_i kk vk l hg hne
   cases h
   exact assignOwn_sound hs (hd d hdst) (fun e=>by subst e; simp at hne) hg ho hdst
  ·cases h
 ·rename_i t p x ho hdst
  split at h
  ·rename_i n ys hn hx
   split at h
   ·rename_i hl
    have hl':ys.length = n:=Nat.eq_of_beq_eq_true hl
    split at h
    ·rename_i o' off hp
     split at h
     ·rename_i t' cs0 hh
      split at h
      ·rename_i hfit
       cases h
       exact store_sound hT hs hn hx hl' ho hdst (.inl ⟨o',off,t',cs0,hp,hh,Nat.le_of_ble_eq_true hfit,rfl⟩)
      ·cases h
     ·cases h
    ·rename_i r i j z hp
     split at h
     ·rename_i z' e n' f hown
      split at h
      ·rename_i hb
       rw [Bool.and_eq_true] at hb
       cases h
       have hz:=Nat.eq_of_beq_eq_true hb.1
       subst hz
       exact store_sound hT hs hn hx hl' ho hdst (.inr ⟨r,i,j,z,e,n',f,hp,hown,Nat.le_of_ble_eq_true hb.2,hc _ (by simp),rfl⟩)
      ·cases h
     ·cases h
    ·cases h
   ·cases h
  ·cases h
 ·rename_i t len parts d ho hdst
  split at h
  ·rename_i e ps hu hps
   split at h
   ·rename_i ei hei
    split at h
    ·rename_i cells hb hfill
     cases h
     rw [Bool.and_eq_true] at hb
     exact buildSlice_sound hT hs (hd d hdst) hu hps hei (Nat.le_of_ble_eq_true hb.1) (Nat.le_of_ble_eq_true hb.2) hfill ho hdst
    ·cases h
   ·cases h
  ·cases h
 ·rename_i t l c d ho hdst
  split at h
  ·rename_i e n n' hu hl hcc
   split at h
   ·rename_i ei hei
    cases h
    exact makeSlice_sound hT hs (hd d hdst) hu hl hcc hei (hc _ (by simp)) (hc (0 ≤ n) (by simp)) (hc ((ei.bytes:Int) * n ≤ 281474976710656) (by simp)) (hc (n ≤ 9223372036854775807) (by simp)) ho hdst
   ·cases h
  ·cases h
 ·rename_i s t x d ho hdst
  split at h
  ·rename_i e l hsu hu hx
   split at h
   ·rename_i heu hsz
    cases h
    exact bytes_sound hT hs (hd d hdst) hsu hu hx heu (hc _ (by simp)) ho hdst
   ·cases h
  ·cases h
 ·rename_i as ts d ho hdst
  split at h
  ·rename_i x y t t2 has hts
   obtain rfl:as = #[x,y]:=by rw [← Array.toArray_toList (xs:=as),has]
   obtain rfl:ts = #[t,t2]:=by rw [← Array.toArray_toList (xs:=ts),hts]
   split at h
   ·rename_i e u2 r n f z e' hu hu2 hx
    split at h
    ·rename_i ei hei
     split at h
     ·rename_i e2 hb
      split at h
      ·rename_i z2 m f2 b2 hy
       split at h
       ·rename_i hz2
        cases h
        have hz:=Nat.eq_of_beq_eq_true hz2
        subst hz
        rw [Bool.and_eq_true] at hb
        exact append_sound hT hs (hd d hdst) hu hu2 hx hei hb.1 (Nat.le_of_ble_eq_true hb.2) hy (hc _ (by simp)) (hc (PlainTo n f) (by simp)) (hc (PlainTo m f2) (by simp)) ho hdst
       ·cases h
      ·cases h
     ·cases h
    ·cases h
   ·cases h
  ·cases h
 ·rename_i t d ho hdst
  split at h
  ·rename_i kk vk hk
   cases h
   obtain ⟨g',h'⟩:=hs.putMap (hd d hdst) kk vk
   refine ⟨_,_,g',?_,.inl ⟨_,rfl,by rw [hdst]; exact h'⟩⟩
   simp [execOp,ho,Instr.makeMap]
  ·cases h
 ·rename_i t m k c d ho hdst
  split at h
  ·rename_i kk vk r kk' vk' l kk2 n hk hm hx
   split at h
   ·rename_i hd'
    cases h
    obtain ⟨rfl,rfl,rfl⟩:=of_decide_eq_true hd'
    obtain ⟨q,hq⟩:=ev_rel hs m
    obtain ⟨b,es,clock,_,hown,hv,hb,hb1,hl⟩:=mapAt_rel hs hq hm
    have hrun:=run_lookup hT hk hb1 hl n c
    refine ⟨.value (lookV vk l n c),w,g.clr (under d),?_,.inl ⟨_,rfl,?_⟩⟩
    ·simp only [execOp,ho,hv,ev_int hs hx,Sem.run_bind,hrun,Result.andThen_ok,Sem.run_pure]
    ·rw [hdst]
     refine hs.put (hd d hdst) (k:=0) ?_ ?_ ?_
     ·cases c
      ·exact mvT_plain _ _
      ·simp only [lookSV,SV.pure,List.all_cons,SV.pure1,mvT_plain,List.all_nil]; rfl
     ·cases c <;> rfl
     ·cases c
      ·exact .fr (mvT_rel _ _)
      ·refine ⟨_,rfl,rfl,fun j sv hj=>?_⟩
       match j,hj with
       | 0,hj=>cases hj; exact ⟨_,rfl,.fr (mvT_rel _ _)⟩
       | 1,hj=>cases hj; exact ⟨_,rfl,.fr (.bool _)⟩
       | j + 2,hj=>cases hj
   ·cases h
  ·cases h
 ·rename_i t m k x ho hdst
  split at h
  ·rename_i kk vk r kk' vk' l kk2 n hk hm hx
   split at h
   ·rename_i v hd' hvx
    cases h
    obtain ⟨rfl,rfl,rfl⟩:=of_decide_eq_true hd'
    obtain ⟨q,hq⟩:=ev_rel hs m
    obtain ⟨b,es,clock,_,hown,hv,hb,hb1,hl⟩:=mapAt_rel hs hq hm
    obtain ⟨es',clock',hrun,hl'⟩:=run_mapUpdate hT hk hb1 hl n v
    have hlt:b < w.heap.size:=(Array.getElem?_eq_some_iff.1 hb1).1
    have h':=hs.updMap (clock':=clock') hown hb hb1 hl' (w':={ w with heap:=w.heap.setIfInBounds b (.map es' clock') }) (by simp [hlt]) (fun k hk=>by simp [Ne.symm hk]) (by simp) rfl rfl rfl
    refine ⟨_,_,_,?_,.inr ⟨rfl,by rw [hdst]; exact h'⟩⟩
    simp only [execOp,ho,hv,ev_int hs hx,mvN_rel hs hvx,Sem.run_bind,hrun,Result.andThen_ok,Sem.run_pure]
   ·cases h
  ·cases h
 ·cases h

end
end Go.Sx

namespace Go.Sx
open Go

/-- What stays the same in a function: the program, its types, how many slots, how many objects came in. -/
structure Cfg where
 P:Program
 T:Tab
 n:Nat
 h0:Nat
 ok:TabOk P T

def Cfg.ctx (F:Cfg) (w0:World) (g0:Gh):Ctx:=⟨F.P,F.n,w0,g0,F.h0⟩

def QQ (X:Ctx) (Q:Exit → AState → Prop):Exit → Act → World → Prop:=fun e a w=>∃ σ g,Q e σ ∧ Sat X g σ a w

def AWp (F:Cfg) (c:Code) (Q:Exit → AState → Prop) (σ:AState):Prop :=
 ∀ w0 g0 g a w,Sat (F.ctx w0 g0) g σ a w → c.wp F.P (QQ (F.ctx w0 g0) Q) a w

def AOps (F:Cfg) (ops:Array Oper) (Q:Exit → AState → Prop) (l:List Nat) (σ:AState):Prop :=
 ∀ w0 g0 g a w,Sat (F.ctx w0 g0) g σ a w → wpOps F.P ops (QQ (F.ctx w0 g0) Q) l a w

def AllP:List Prop → Prop
 | []=>True
 | [c]=>c
 | c :: r=>c ∧ AllP r

theorem AllP.mem:∀ {l:List Prop},AllP l → ∀ c ∈ l,c
 | [],_,c,h=>by simp at h
 | [c'],h,c,hc=>by rw [List.mem_singleton.1 hc]; exact h
 | c' :: d :: r,h,c,hc=>by
  rcases List.mem_cons.1 hc with rfl | hc
  ·exact h.1
  ·exact AllP.mem h.2 c hc

section
variable {F:Cfg} {Q:Exit → AState → Prop} {σ:AState}

def thenQ (K:AState → Prop) (Q:Exit → AState → Prop):Exit → AState → Prop
 | .normal,σ=>K σ
 | e,σ=>Q e σ

theorem QQ_then {X:Ctx} {K:AState → Prop} {Q:Exit → AState → Prop} {next:Act → World → Prop} (h:∀ σ g a w,K σ → Sat X g σ a w → next a w) (e:Exit) (a:Act) (w:World)
  (hq:QQ X (thenQ K Q) e a w):Exit.then next (QQ X Q) e a w:=by
 obtain ⟨σ,g,hq,hs⟩:=hq
 cases e with
 | normal=>exact h σ g a w hq hs
 | _=>exact ⟨σ,g,hq,hs⟩

theorem AWp.seq {x y:Code} (h:AWp F x (thenQ (AWp F y Q) Q) σ):AWp F (.seq x y) Q σ:=fun w0 g0 g a w hs =>
 wp_seq (wp_mono (h w0 g0 g a w hs) (QQ_then fun _ g' a' w' hk hs'=>hk w0 g0 g' a' w' hs'))

theorem AWp.skip (h:Q .normal σ):AWp F .skip Q σ:=fun _ _ g _ _ hs=>wp_skip ⟨σ,g,h,hs⟩
theorem AWp.exit {i:Nat} (h:Q (.exit i) σ):AWp F (.exit i) Q σ:=fun _ _ g _ _ hs=>wp_exit ⟨σ,g,h,hs⟩
theorem AWp.ret (h:Q .ret σ):AWp F .ret Q σ:=fun _ _ g _ _ hs=>wp_ret ⟨σ,g,h,hs⟩

theorem AWp.cond {c:Operand} {x y:Code} {b:Bool} (hc:σ.ev c = .tv (.bool b)) (h1:b = true → AWp F x Q σ) (h2:b = false → AWp F y Q σ):AWp F (.cond c x y) Q σ:=fun w0 g0 g a w hs =>
 wp_cond_split (ev_bool hs hc) (fun hb=>h1 hb w0 g0 g a w hs) (fun hb=>h2 hb w0 g0 g a w hs)

def blockQ (i:Nat) (Q:Exit → AState → Prop):Exit → AState → Prop
 | .exit j,σ=>if j = i then Q .normal σ else Q (.exit j) σ
 | e,σ=>Q e σ

theorem AWp.block {i:Nat} {c:Code} (h:AWp F c (blockQ i Q) σ):AWp F (.block i c) Q σ:=fun w0 g0 g a w hs =>
 wp_block (wp_mono (h w0 g0 g a w hs) fun e a' w' ⟨σ',g',hq,hs'⟩=>by
  cases e with
  | exit j =>
   simp only [Exit.inBlock,blockQ] at hq ⊢
   split at hq
   ·rename_i hj; rw [if_pos hj]; exact ⟨σ',g',hq,hs'⟩
   ·rename_i hj; rw [if_neg hj]; exact ⟨σ',g',hq,hs'⟩
  | _=>exact ⟨σ',g',hq,hs'⟩)

theorem AWp.mono {c:Code} {Q':Exit → AState → Prop} (h:AWp F c Q' σ) (hq:∀ e σ,Q' e σ → Q e σ):AWp F c Q σ:=fun w0 g0 g a w hs =>
 wp_mono (h w0 g0 g a w hs) fun _ _ _ ⟨σ',g',q,s⟩=>⟨σ',g',hq _ _ q,s⟩

/-- Less may be known ahead of some code. -/
theorem AWp.keep {c:Code} (ks:List Nat) (n:Nat) (hn:F.h0 ≤ n) (h:AWp F c Q (σ.keep ks n)):AWp F c Q σ:=fun w0 g0 _ a w hs =>
 h w0 g0 _ a w (hs.keep ks n hn hs.h0)

theorem AWp.freeze {c:Code} {s z:Nat} {e:TypeId} {n:Nat} {f:Nat → List TV} (hx:σ.get s = .tv (.own z e n f)) (hp:PlainTo n f) (h:AWp F c Q (σ.fix s (.fz z n f))):AWp F c Q σ:=fun w0 g0 _ a w hs=>by
 obtain ⟨g',h'⟩:=hs.freeze hx hp
 exact h w0 g0 g' a w h'

theorem AWp.ext {c:Code} {s z:Nat} {e:TypeId} {n n':Nat} {f f':Nat → List TV} (hx:σ.get s = .tv (.own z e n f)) (hn:n = n') (hf:∀ i,i < n → f i = f' i) (h:AWp F c Q (σ.set s (.tv (.own z e n' f')))):AWp F c Q σ:=fun w0 g0 _ a w hs =>
 h w0 g0 _ a w (hs.ext hx hn hf)

theorem AWp.region {id:Nat} {ops:Array Oper} (h:AOps F ops Q (List.range ops.size) σ):AWp F (.region id ops false) Q σ:=fun w0 g0 g a w hs=>wp_region (h w0 g0 g a w hs)

/-! ### Operations one behind the other -/

theorem AOps.nil {ops:Array Oper} (h:Q .normal σ):AOps F ops Q [] σ:=fun _ _ g _ _ hs=>⟨σ,g,h,hs⟩

theorem AOps.keep {ops:Array Oper} {l:List Nat} (ks:List Nat) (n:Nat) (hn:F.h0 ≤ n) (h:AOps F ops Q l (σ.keep ks n)):AOps F ops Q l σ:=fun w0 g0 _ a w hs =>
 h w0 g0 _ a w (hs.keep ks n hn hs.h0)

theorem AOps.freeze {ops:Array Oper} {l:List Nat} {s z:Nat} {e:TypeId} {n:Nat} {f:Nat → List TV} (hx:σ.get s = .tv (.own z e n f)) (hp:PlainTo n f) (h:AOps F ops Q l (σ.fix s (.fz z n f))):AOps F ops Q l σ:=fun w0 g0 _ a w hs=>by
 obtain ⟨g',h'⟩:=hs.freeze hx hp
 exact h w0 g0 g' a w h'

theorem AOps.ext {ops:Array Oper} {l:List Nat} {s z:Nat} {e:TypeId} {n n':Nat} {f f':Nat → List TV} (hx:σ.get s = .tv (.own z e n f)) (hn:n = n') (hf:∀ i,i < n → f i = f' i) (h:AOps F ops Q l (σ.set s (.tv (.own z e n' f')))):AOps F ops Q l σ:=fun w0 g0 _ a w hs =>
 h w0 g0 _ a w (hs.ext hx hn hf)

theorem AOps.extFz {ops:Array Oper} {l:List Nat} {s:Nat} {x y:TV} (hx:σ.get s = .tv x) (hp:x.plain = true) (hxy:∀ P w v,FRel P w v x → FRel P w v y) (h:AOps F ops Q l (σ.fix s y)):AOps F ops Q l σ:=fun w0 g0 _ a w hs =>
 h w0 g0 _ a w (hs.extFz hx (fun v=>hxy _ _ v) hp)

def guardV (ops:Array Oper) (σ:AState) (o:Oper):Option Bool :=
 match o.guard with
 | none=>some true
 | some (j,want)=>match ops[j]? with
  | some oj=>match oj.dst with
   | some t=>match σ.get t with
    | .tv (.bool b)=>some (b == want)
    | .tup _=>some false
    | _=>none
   | none=>none
  | none=>none

theorem guardV_sound {X:Ctx} {g:Gh} {a:Act} {w:World} (hs:Sat X g σ a w) {ops:Array Oper} {o:Oper} {b:Bool} (h:guardV ops σ o = some b):Region.wanted o (yielded ops a.tmps) = b:=by
 unfold guardV at h
 unfold Region.wanted
 cases hg:o.guard with
 | none=>rw [hg] at h; simp only [Option.some.injEq] at h; exact h
 | some jw =>
  obtain ⟨j,want⟩:=jw
  rw [hg] at h
  simp only at h ⊢
  split at h
  ·rename_i oj hoj
   split at h
   ·rename_i t ht
    split at h
    ·rename_i v hv
     simp only [Option.some.injEq] at h
     have hk:=hs.env t
     rw [hv] at hk
     have:=rel_bool (show TRel g w (.slot t 0,[]) (a.tmps.getD t undef) (.bool v) from hk)
     have hy:yielded ops a.tmps j = some v:=by
      unfold yielded
      simp only [hoj,ht,Option.bind_some]
      have hlt:t < a.tmps.size:=by
       rcases Nat.lt_or_ge t a.tmps.size with hh | hh
       ·exact hh
       ·rw [Array.getD_eq_getD_getElem?,Array.getElem?_eq_none hh] at this
        cases this
      have:a.tmps[t]? = some (.bool v):=by
       simp only [Array.getD_eq_getD_getElem?,Array.getElem?_eq_getElem hlt,Option.getD_some] at this
       rw [Array.getElem?_eq_getElem hlt,this]
      rw [this]
     rw [hy,← h]
     cases v <;> cases want <;> rfl
    ·rename_i vs hv
     simp only [Option.some.injEq] at h
     subst h
     have hk:=hs.env t
     rw [hv] at hk
     obtain ⟨us,hu,_⟩:=hk
     have hy:yielded ops a.tmps j = none:=by
      unfold yielded
      simp only [hoj,ht,Option.bind_some]
      cases hq:a.tmps[t]? with
      | none=>rfl
      | some u =>
       have:a.tmps.getD t undef = u:=by rw [Array.getD_eq_getD_getElem?,hq]; rfl
       rw [this] at hu
       subst hu
       rfl
     rw [hy]
     cases want <;> rfl
    ·cases h
   ·cases h
  ·cases h

/-- One operation. -/
def stepOp (T:Tab) (n:Nat) (ops:Array Oper) (σ:AState) (i:Nat):Option (List Prop × AState) :=
 match ops[i]? with
 | none=>none
 | some o=>match guardV ops σ o,o.dst with
  | some true,some d=>(match Nat.blt d n with
   | true=>(match evalPure T σ o.op with
    | some (cs,sv)=>(match sv.names (under d) with | false=>some (cs,σ.put d sv) | true=>none)
    | none=>evalEff T σ o)
   | false=>none)
  | some true,none=>evalEff T σ o
  | some false,some d=>(match Nat.blt d n with | true=>some ([],σ.put d (.tup [])) | false=>none)
  | some false,none=>some ([],σ)
  | none,_=>none

def evalN (T:Tab) (n:Nat) (ops:Array Oper):List Nat → AState → Option (List Prop × AState)
 | [],σ=>some ([],σ)
 | i :: r,σ=>match stepOp T n ops σ i with
  | some (cs,σ1)=>match evalN T n ops r σ1 with
   | some (cs',σ')=>some (cs ++ cs',σ')
   | none=>none
  | none=>none

/-- One operation leads from what σ says to what σ' says. -/
def AOne (F:Cfg) (ops:Array Oper) (i:Nat) (σ σ':AState):Prop :=
 ∀ w0 g0 g a w,Sat (F.ctx w0 g0) g σ a w → ∀ (K:Act → World → Prop) (Q:Exit → Act → World → Prop),(∀ g' a' w',Sat (F.ctx w0 g0) g' σ' a' w' → K a' w') → wpOp F.P ops Q i K a w

theorem AOps.cons {ops:Array Oper} {i:Nat} {l:List Nat} {σ':AState} (h1:AOne F ops i σ σ') (h:AOps F ops Q l σ'):AOps F ops Q (i :: l) σ:=fun w0 g0 g a w hs=>by
 rw [wpOps_cons]
 exact h1 w0 g0 g a w hs _ _ fun g' a' w' hs'=>h w0 g0 g' a' w' hs'

theorem AOne.step {ops:Array Oper} {i:Nat} {cs:List Prop} {σ':AState} (he:stepOp F.T F.n ops σ i = some (cs,σ')) (hc:∀ c ∈ cs,c):AOne F ops i σ σ':=fun w0 g0 g a w hs K Q h=>by
 unfold stepOp at he
 unfold wpOp
 split at he
 ·cases he
 ·rename_i o ho
  rw [ho]
  simp only
  have eff:∀ {cs:List Prop} {σ':AState},(∀ d,o.dst = some d → d < F.n) → (∀ c ∈ cs,c) → evalEff F.T σ o = some (cs,σ') → (∀ g' a' w',Sat (F.ctx w0 g0) g' σ' a' w' → K a' w') → Oper.wp F.P o a w K Q:=by
   intro cs σ' hd hc he h
   obtain ⟨n,w',g',hrun,hn⟩:=evalEff_sound (X:=F.ctx w0 g0) F.ok hs he hc hd
   have hrun':(execOp a.eval o).run F.P w = .ok n w':=hrun
   unfold Oper.wp
   rw [hrun']
   rcases hn with ⟨v,rfl,hs'⟩ | ⟨rfl,hs'⟩
   ·exact h g' _ w' hs'
   ·exact h g' _ w' hs'
  split at he
  ·rename_i d hg hdst
   split at he
   ·rename_i hlt
    have hd:d < F.n:=Nat.le_of_ble_eq_true hlt
    rw [if_pos (guardV_sound hs hg)]
    left
    split at he
    ·rename_i cs0 sv hp
     split at he
     ·rename_i hnm
      cases he
      obtain ⟨v,hrun,⟨k,hr⟩,hpu⟩:=evalPure_sound (X:=F.ctx w0 g0) F.ok hs hp hc
      have hrun':(execOp a.eval o).run F.P w = .ok (.value v) w:=hrun
      unfold Oper.wp
      rw [hrun',Oper.upon_value,hdst]
      exact h _ _ w (hs.put hd hpu hnm hr)
     ·cases he
    ·exact eff (fun d' hd'=>by rw [hdst] at hd'; cases hd'; exact hd) hc he h
   ·cases he
  ·rename_i hg hdst
   rw [if_pos (guardV_sound hs hg)]
   exact .inl (eff (fun d' hd'=>by rw [hdst] at hd'; cases hd') hc he h)
  ·rename_i d hg hdst
   split at he
   ·rename_i hlt
    cases he
    rw [if_neg (by rw [guardV_sound hs hg]; simp),hdst]
    exact h _ _ w (hs.put (Nat.le_of_ble_eq_true hlt) (v:=undef) (sv:=.tup []) rfl rfl (k:=0) ⟨#[],rfl,rfl,fun j sv h=>by simp at h⟩)
   ·cases he
  ·rename_i hg hdst
   cases he
   rw [if_neg (by rw [guardV_sound hs hg]; simp),hdst]
   exact h g _ w hs
  ·cases he

theorem AOps.one {ops:Array Oper} {i:Nat} {l:List Nat} {cs:List Prop} {σ':AState} (he:stepOp F.T F.n ops σ i = some (cs,σ')) (hc:∀ c ∈ cs,c) (h:AOps F ops Q l σ'):AOps F ops Q (i :: l) σ :=
 AOps.cons (AOne.step he hc) h

theorem AOps.many {ops:Array Oper}:∀ {l1:List Nat} {l2:List Nat} {cs:List Prop} {σ σ':AState},evalN F.T F.n ops l1 σ = some (cs,σ') → (∀ c ∈ cs,c) → AOps F ops Q l2 σ' → AOps F ops Q (l1 ++ l2) σ
 | [],l2,cs,σ,σ',he,_,h=>by simp only [evalN,Option.some.injEq,Prod.mk.injEq] at he; obtain ⟨_,rfl⟩:=he; exact h
 | i :: r,l2,cs,σ,σ',he,hc,h=>by
  simp only [evalN] at he
  split at he
  ·rename_i cs1 σ1 h1
   split at he
   ·rename_i cs2 σ2 h2
    cases he
    exact AOps.one h1 (fun c hc'=>hc c (List.mem_append_left _ hc')) (AOps.many h2 (fun c hc'=>hc c (List.mem_append_right _ hc')) h)
   ·cases he
  ·cases he

/-- So many operations by evaluation, and less is known behind them. -/
theorem AOps.run {ops:Array Oper} (l1 l2:List Nat) (cs:List Prop) (ks:List Nat) (nh:Nat) (σ':AState) {σ1:AState} (he:evalN F.T F.n ops l1 σ = some (cs,σ1)) (hk:σ1.keep ks nh = σ') (hn:F.h0 ≤ nh) (hc:AllP cs) (h:AOps F ops Q l2 σ'):AOps F ops Q (l1 ++ l2) σ :=
 AOps.many he hc.mem (AOps.keep ks nh hn (by rw [hk]; exact h))

/-- A region from its begin: so many operations by evaluation. -/
theorem AWp.run {id:Nat} {ops:Array Oper} (l1 l2:List Nat) (hl:List.range ops.size = l1 ++ l2) (cs:List Prop) (ks:List Nat) (nh:Nat) (σ':AState) {σ1:AState} (he:evalN F.T F.n ops l1 σ = some (cs,σ1)) (hk:σ1.keep ks nh = σ') (hn:F.h0 ≤ nh) (hc:AllP cs) (h:AOps F ops Q l2 σ'):AWp F (.region id ops false) Q σ :=
 .region (by rw [hl]; exact AOps.run l1 l2 cs ks nh σ' he hk hn hc h)

/-- The same, to the region's end. -/
theorem AWp.all {id:Nat} {ops:Array Oper} (cs:List Prop) (ks:List Nat) (nh:Nat) (σ':AState) (he:(evalN F.T F.n ops (List.range ops.size) σ).map (fun r=>(r.1,r.2.keep ks nh)) = some (cs,σ')) (hn:F.h0 ≤ nh) (hc:AllP cs) (h:Q .normal σ'):AWp F (.region id ops false) Q σ:=by
 obtain ⟨⟨cs',σ1⟩,h1,h2⟩:=Option.map_eq_some_iff.1 he
 cases h2
 exact .run (List.range ops.size) [] (by simp) _ ks nh _ h1 rfl hn hc (AOps.nil h)

/-- So many operations by evaluation, and less is known behind them. -/
theorem AOps.go {ops:Array Oper} (l1 l2:List Nat) (cs:List Prop) (ks:List Nat) (nh:Nat) (σ':AState) (he:(evalN F.T F.n ops l1 σ).map (fun r=>(r.1,r.2.keep ks nh)) = some (cs,σ')) (hn:F.h0 ≤ nh) (hc:AllP cs) (h:AOps F ops Q l2 σ'):AOps F ops Q (l1 ++ l2) σ:=by
 obtain ⟨⟨cs',σ1⟩,h1,h2⟩:=Option.map_eq_some_iff.1 he
 cases h2
 exact .run l1 l2 _ ks nh _ h1 rfl hn hc h

theorem AWp.start {id:Nat} {ops:Array Oper} (l1 l2:List Nat) (cs:List Prop) (ks:List Nat) (nh:Nat) (σ':AState) (hl:List.range ops.size = l1 ++ l2) (he:(evalN F.T F.n ops l1 σ).map (fun r=>(r.1,r.2.keep ks nh)) = some (cs,σ')) (hn:F.h0 ≤ nh) (hc:AllP cs) (h:AOps F ops Q l2 σ'):AWp F (.region id ops false) Q σ :=
 .region (by rw [hl]; exact AOps.go l1 l2 cs ks nh σ' he hn hc h)

/-! ### A cut between operations -/

theorem upon_mono2 {P:Program} {o:Oper} {a:Act} {w:World} {K K':Act → World → Prop} {Q1 Q2:Exit → Act → World → Prop} (h:∀ a w,K a w → K' a w) (hq:∀ e a w,e ≠ .normal → Q1 e a w → Q2 e a w)
  (hh:o.wp P a w K Q1):o.wp P a w K' Q2:=by
 have hl:LetsOut Q1 → LetsOut Q2:=fun ⟨a,w,h⟩=>⟨a,w,hq _ a w (by simp) h⟩
 unfold Oper.wp at *
 generalize (execOp a.eval o).run P w = r at *
 cases r with
 | ok n w' =>
  cases n <;> simp only [Oper.upon] at hh ⊢ <;>
   first
    | exact h _ _ hh
    | exact Calls.mono hh (fun e w'' he=>by cases e <;> first | exact h _ _ he | exact hq _ _ _ (by simp) he | exact hl he)
    | exact Rows.mono hh (fun _ _ he=>h _ _ he)
 | halt x w'=>cases x <;> simp only [Oper.upon] at hh ⊢ <;> exact hq _ _ _ (by simp) hh

theorem wpOps_cut {P:Program} {ops:Array Oper} {Q1 Q2:Exit → Act → World → Prop} {l2:List Nat} (hn:∀ a w,Q1 .normal a w → wpOps P ops Q2 l2 a w) (hq:∀ e a w,e ≠ .normal → Q1 e a w → Q2 e a w) :
  ∀ (l1:List Nat) (a:Act) (w:World),wpOps P ops Q1 l1 a w → wpOps P ops Q2 (l1 ++ l2) a w
 | [],a,w,h=>hn a w h
 | i :: r,a,w,h=>by
  simp only [List.cons_append,wpOps] at h ⊢
  split
  ·rename_i ho
   rw [ho] at h
   exact wpOps_cut hn hq r a w h
  ·rename_i o ho
   rw [ho] at h
   simp only at h
   split
   ·rename_i hw
    rw [if_pos hw] at h
    rcases h with h | ⟨h1,a',w',h2⟩
    ·exact .inl (upon_mono2 (fun a w hh=>wpOps_cut hn hq r a w hh) hq h)
    ·exact .inr ⟨h1,a',w',hq _ a' w' (by simp) h2⟩
   ·rename_i hw
    rw [if_neg hw] at h
    exact wpOps_cut hn hq r _ _ h

/-- Some operations come to one of several states; the rest from each of them. -/
theorem AOps.cut {ops:Array Oper} (l1 l2:List Nat) (J:AState → Prop) (h1:AOps F ops (thenQ J Q) l1 σ) (h2:∀ σ',J σ' → AOps F ops Q l2 σ'):AOps F ops Q (l1 ++ l2) σ:=fun w0 g0 g a w hs=>by
 refine wpOps_cut (Q1:=QQ (F.ctx w0 g0) (thenQ J Q)) ?_ ?_ l1 a w (h1 w0 g0 g a w hs)
 ·rintro a w ⟨σ',g',hq,hs'⟩
  exact h2 σ' hq w0 g0 g' a w hs'
 ·rintro e a w he ⟨σ',g',hq,hs'⟩
  refine ⟨σ',g',?_,hs'⟩
  cases e <;> first | exact hq | exact absurd rfl he

theorem AOps.split {ops:Array Oper} {l:List Nat} (s:Bool → AState) (b:Bool) (h1:b = true → AOps F ops Q l (s true)) (h2:b = false → AOps F ops Q l (s false)):AOps F ops Q l (s b):=by
 cases b with
 | true=>exact h1 rfl
 | false=>exact h2 rfl

theorem AWp.split {c:Code} (s:Bool → AState) (b:Bool) (h1:b = true → AWp F c Q (s true)) (h2:b = false → AWp F c Q (s false)):AWp F c Q (s b):=by
 cases b with
 | true=>exact h1 rfl
 | false=>exact h2 rfl

/-- Two roads that meet. -/
theorem AWp.join {V:Type} {x y:Code} (shape:V → AState) (J:V → Prop) (hx:AWp F x (thenQ (fun σ'=>∃ v,J v ∧ σ' = shape v) Q) σ) (hj:∀ v,J v → AWp F y Q (shape v)):AWp F (.seq x y) Q σ :=
 AWp.seq (hx.mono fun e σ' h=>by
  cases e with
  | normal=>obtain ⟨v,h1,rfl⟩:=h; exact hj v h1
  | _=>exact h)

end
end Go.Sx

namespace Go.Sx
open Go

/-- So many rounds: a round goes on, or leaves. -/
def rounds {S X:Type} (body:S → Option (S ⊕ X)):Nat → S → Option X
 | 0,_=>none
 | n + 1,s=>match body s with
  | none=>none
  | some (.inl s')=>rounds body n s'
  | some (.inr x)=>some x

theorem rounds_succ {S X:Type} {body:S → Option (S ⊕ X)}:∀ {n:Nat} {s:S} {x:X},rounds body n s = some x → rounds body (n + 1) s = some x
 | 0,_,_,h=>by cases h
 | n + 1,s,x,h=>by
  simp only [rounds] at h ⊢
  split at h
  ·cases h
  ·rename_i s' hs; exact rounds_succ (n:=n) h
  ·exact h

theorem rounds_le {S X:Type} {body:S → Option (S ⊕ X)} {n m:Nat} {s:S} {x:X} (h:rounds body n s = some x) (hm:n ≤ m):rounds body m s = some x:=by
 induction hm with
 | refl=>exact h
 | step _ ih=>exact rounds_succ ih

/-- What a loop comes to, if it ends. -/
noncomputable def iter {S X:Type} (body:S → Option (S ⊕ X)) (s:S):Option X :=
 open Classical in if h:∃ n,(rounds body n s).isSome = true then rounds body h.choose s else none

theorem iter_some {S X:Type} {body:S → Option (S ⊕ X)} {s:S} {x:X}:iter body s = some x ↔ ∃ n,rounds body n s = some x:=by
 constructor
 ·intro h
  unfold iter at h
  split at h
  ·exact ⟨_,h⟩
  ·cases h
 ·rintro ⟨n,hn⟩
  have hex:∃ n,(rounds body n s).isSome = true:=⟨n,by rw [hn]; rfl⟩
  unfold iter
  rw [dif_pos hex]
  obtain ⟨y,hy⟩:=Option.isSome_iff_exists.1 hex.choose_spec
  have h1:=rounds_le hy (Nat.le_max_left hex.choose n)
  have h2:=rounds_le hn (Nat.le_max_right hex.choose n)
  rw [h1] at h2
  rw [hy]; exact h2

/-- How a piece of code ends: it returns, or goes on. -/
inductive Out (R S:Type) where
 | ret (r:R)
 | go (s:S)

theorem least_one {p:Nat → Prop} (h:∃ n,p n):∃ n,p n ∧ ∀ m,p m → n ≤ m:=by
 obtain ⟨n,hn⟩:=h
 induction n using Nat.strongRecOn with
 | _ n ih =>
  by_cases hm:∃ m,m < n ∧ p m
  ·obtain ⟨m,hlt,hp⟩:=hm
   exact ih m hlt hp
  ·exact ⟨n,hn,fun m hp=>Nat.le_of_not_lt fun h=>hm ⟨m,h,hp⟩⟩

section
variable {F:Cfg}

theorem AWp.loop {S Y:Type} {c:Code} (shape:S → AState) (body:S → Option (S ⊕ Y)) (Post:Y → Exit → AState → Prop)
  (hb:∀ s o,body s = some o → AWp F c (fun e σ=>(∃ s',o = .inl s' ∧ e = .normal ∧ σ = shape s') ∨ ∃ y,o = .inr y ∧ e ≠ .normal ∧ Post y e σ) (shape s))
  {s:S} {y:Y} (h:iter body s = some y):AWp F (.loop c) (Post y) (shape s):=fun w0 g0 g a w hs=>by
 obtain ⟨n0,hn0⟩:=iter_some.1 h
 let X:=F.ctx w0 g0
 let good:Nat → Act → World → Prop:=fun n a w=>∃ s g,rounds body n s = some y ∧ Sat X g (shape s) a w
 have:=Classical.propDecidable
 let μ:Act → World → Nat:=fun a w=>if h:∃ n,good n a w then (least_one h).choose else 0
 refine wp_loop (fun a w=>∃ n,good n a w) μ ⟨n0,s,g,hn0,hs⟩ fun a w hI=>?_
 have hμ:μ a w = (least_one hI).choose:=dif_pos hI
 obtain ⟨s1,g1,hr,hs1⟩:=(least_one hI).choose_spec.1
 generalize hm:(least_one hI).choose = m at hr hμ
 cases m with
 | zero=>cases hr
 | succ m =>
  cases hbs:body s1 with
  | none=>simp only [rounds,hbs] at hr; cases hr
  | some o =>
   refine wp_mono (hb s1 o hbs w0 g0 g1 a w hs1) fun e a' w' ⟨σ',g',hq,hs'⟩=>?_
   rcases hq with ⟨s',rfl,rfl,rfl⟩ | ⟨y',rfl,hne,hp⟩
   ·simp only [rounds,hbs] at hr
    have hg:good m a' w':=⟨s',g',hr,hs'⟩
    refine ⟨⟨m,hg⟩,?_⟩
    have hex:∃ n,good n a' w':=⟨m,hg⟩
    have:μ a' w' = (least_one hex).choose:=dif_pos hex
    rw [this,hμ]
    exact Nat.lt_succ_of_le ((least_one hex).choose_spec.2 m hg)
   ·simp only [rounds,hbs,Option.some.injEq] at hr
    subst hr
    cases e with
    | normal=>exact absurd rfl hne
    | _=>exact ⟨σ',g',hp,hs'⟩

end
end Go.Sx

namespace Go.Sx
open Go

def argsEnv:List SV → Nat → List (Nat × SV)
 | [],_=>[]
 | s :: r,k=>(k,s) :: argsEnv r (k + 1)

theorem lookS_argsEnv:∀ (l:List SV) (k q:Nat),lookS (argsEnv l k) q = if q < k then .junk else (l[q - k]?).getD .junk
 | [],k,q=>by simp [argsEnv,lookS]
 | s :: r,k,q=>by
  simp only [argsEnv,lookS]
  by_cases h:k = q
  ·subst h; simp
  ·rw [beq_ne h]
   simp only
   rw [lookS_argsEnv r (k + 1) q]
   by_cases h1:q < k
   ·rw [if_pos (by omega),if_pos h1]
   ·rw [if_neg (by omega),if_neg h1,show q - k = q - (k + 1) + 1 by omega,List.getElem?_cons_succ]

/-- The state in which a function begins. -/
def start (args:List SV) (hin:List AObj):AState:=⟨argsEnv args 0,hin⟩

theorem get_start (args:List SV) (hin:List AObj) (k:Nat):(start args hin).get k = (args[k]?).getD .junk:=by
 simp only [AState.get,start,lookS_argsEnv,Nat.not_lt_zero,if_false,Nat.sub_zero]

/-- Objects in memory. -/
def HeapRel (g:Gh) (w:World) (h:List AObj):Prop :=
 ∀ (o:Nat) t cs,h[o]? = some (.cells t cs) → ∃ c,w.heap[g.m o]? = some (.cells c t (0,0)) ∧ g.ow (g.m o) = some (.obj o,[]) ∧ c.size = cs.length ∧
  ∀ (i:Nat) y,cs[i]? = some y → ∃ u,c[i]? = some u ∧ TRel g w (.cell o i,[]) u y

structure Ent (g:Gh) (w:World) (vs:Array Value) (args:List SV) (hin:List AObj):Prop where
 size:vs.size = args.length
 args:∀ (k:Nat) sv,args[k]? = some sv → SR g w (start args hin) k (vs.getD k undef) sv
 heap:HeapRel g w hin
 inj:∀ b b' p,g.ow b = some p → g.ow b' = some p → b = b'
 frozen:∀ b,g.P b → g.ow b = none ∧ b < w.heap.size
 lt:∀ b p,g.ow b = some p → b < w.heap.size
 ids:∀ b p,g.ow b = some p → p.1.idOk hin.length

structure Ext (g:Gh) (w:World) (g':Gh) (w':World) (v:Value) (res:SV) (nin:Nat) (hout:List AObj):Prop where
 res:SR g' w' ⟨[(0,res)],hout⟩ 0 v res
 heap:HeapRel g' w' hout
 inj:∀ b b' p,g'.ow b = some p → g'.ow b' = some p → b = b'
 frozen:∀ b,g'.P b → g'.ow b = none ∧ b < w'.heap.size
 lt:∀ b p,g'.ow b = some p → b < w'.heap.size ∧ (w.heap.size ≤ b ∨ g.ow b ≠ none)
 ids:∀ b p,g'.ow b = some p → p.1.idOk hout.length
 P0:∀ b,g'.P b → g.P b ∨ w.heap.size ≤ b ∨ g.ow b ≠ none
 P1:∀ b,g.P b → g'.P b
 kept:∀ b,b < w.heap.size → g.ow b = none → w'.heap[b]? = w.heap[b]?
 os:w'.os = w.os
 tape:w'.tape = w.tape
 output:w'.output = w.output
 mono:w.heap.size ≤ w'.heap.size
 m0:∀ o,o < nin → g'.m o = g.m o
 h0:nin ≤ hout.length

/-- A function's contract: called with what reads as 'args', where objects 'hin' lie, it returns what reads as 'res', and leaves the objects 'hout'. -/
def ACall (P:Program) (f:FuncId) (args:List SV) (hin:List AObj) (res:SV) (hout:List AObj):Prop :=
 ∀ (g:Gh) (w:World) (vs:Array Value),Ent g w vs args hin →
  Calls P f vs w fun e w'=>∃ v g',e = .returned v ∧ Ext g w g' w' v res hin.length hout

/-- What lies under slot r lies under slot 0: a function's one result. -/
def Gh.toRes (g:Gh) (r:Nat):Gh :=
 { g with ow:=fun b=>match g.ow b with
  | some (.slot k j,st)=>if k = r then some (.slot 0 j,st) else none
  | some p=>some p
  | none=>none }

theorem toRes_slot {g:Gh} {r b j:Nat} {st:Steps} (h:g.ow b = some (.slot r j,st)):(g.toRes r).ow b = some (.slot 0 j,st):=by
 simp only [Gh.toRes,h,if_true]

theorem toRes_other {g:Gh} {r b:Nat} {p:Path} (h:g.ow b = some p) (hp:∀ k j,p.1 ≠ .slot k j):(g.toRes r).ow b = some p:=by
 obtain ⟨q,st⟩:=p
 simp only [Gh.toRes,h]
 cases q with
 | slot k j=>exact absurd rfl (hp k j)
 | cell o off=>rfl
 | obj o=>rfl

theorem toRes_inv {g:Gh} {r b:Nat} {p:Path} (h:(g.toRes r).ow b = some p):(g.ow b = some p ∧ ∀ k j,p.1 ≠ .slot k j) ∨ ∃ j st,p = (.slot 0 j,st) ∧ g.ow b = some (.slot r j,st):=by
 simp only [Gh.toRes] at h
 split at h
 ·rename_i k j st hb
  split at h
  ·rename_i hk; cases h; subst hk; exact .inr ⟨j,st,rfl,hb⟩
  ·cases h
 ·rename_i q hnot hb
  cases h
  exact .inl ⟨hb,fun k j e=>hnot k j p.2 (by rw [← e])⟩
 ·cases h

def SV.closed (s:SV):Bool:=!(s.names fun p=>match p.1 with | .obj _=>false | _=>true)

/-- One result, in a slot. -/
theorem Sat.toExt {F:Cfg} {w0:World} {g0 g:Gh} {a:Act} {w:World} {r:Nat} {res:SV} {h:List AObj} (hs:Sat (F.ctx w0 g0) g ⟨[(r,res)],h⟩ a w) (hc:res.closed = true) :
  Ext g0 w0 (g.toRes r) w (a.tmps.getD r undef) res F.h0 h:=by
 have hget:(⟨[(r,res)],h⟩:AState).get r = res:=by simp [AState.get,lookS]
 refine ⟨?_,fun o t cs ho=>?_,fun b b' p hb hb'=>?_,fun b hb=>⟨?_,(hs.frozen b hb).2⟩,fun b p hb=>?_,fun b p hb=>?_,hs.P0,hs.P1,hs.kept,hs.os,hs.tape,hs.output,hs.mono,hs.m0,hs.h0⟩
 ·have:=hs.env r
  rw [hget] at this
  refine this.mono ⟨fun b hb=>⟨hb,rfl⟩,fun j b st hb=>⟨toRes_slot hb,rfl⟩⟩ fun p hp=>?_
  -- a result names no place but objects
  have hobj:∃ o,p.1 = .obj o:=by
   cases hq:p.1 with
   | obj o=>exact ⟨o,rfl⟩
   | _ =>
    exfalso
    have hn:res.names (fun p=>match p.1 with | .obj _=>false | _=>true) = true:=by
     cases hh:res.names (fun p=>match p.1 with | .obj _=>false | _=>true) with
     | true=>rfl
     | false=>have:=names_of hh hp; simp [hq] at this
    simp [SV.closed,hn] at hc
  obtain ⟨o,ho⟩:=hobj
  refine ⟨fun b hb=>⟨toRes_other hb (by rw [ho]; simp),fun c e hc=>⟨c,hc,rfl⟩⟩,fun z e n f hl=>?_,fun _ _ hlt=>⟨rfl,hlt⟩⟩
  obtain ⟨q,st⟩:=p
  simp only at ho
  subst ho
  exfalso
  have:∀ st,(⟨[(r,res)],h⟩:AState).look (.obj o,st) = none:=by
   intro st
   induction st with
   | nil=>rfl
   | cons ij st ih=>rw [look_cons,ih]; rfl
  rw [this] at hl
  cases hl
 ·obtain ⟨c,h1,h2,h3,h4⟩:=hs.heap o t cs ho
  refine ⟨c,h1,toRes_other h2 (by simp),h3,fun i y hy=>?_⟩
  obtain ⟨u,hu,hr⟩:=h4 i y hy
  exact ⟨u,hu,TRel.mono (g':=g.toRes r) (w':=w) (p:=(.cell o i,[])) (r':=.cell o i) hr (fun b hb=>⟨hb,rfl⟩) fun b st hb=>⟨toRes_other hb (by simp),rfl⟩⟩
 ·rcases toRes_inv hb with ⟨h1,h1'⟩ | ⟨j,st,rfl,h1⟩
  ·rcases toRes_inv hb' with ⟨h2,_⟩ | ⟨j',st',rfl,h2⟩
   ·exact hs.inj b b' p h1 h2
   ·exact absurd rfl (h1' 0 j')
  ·rcases toRes_inv hb' with ⟨h2,h2'⟩ | ⟨j',st',e,h2⟩
   ·exact absurd rfl (h2' 0 j)
   ·injection e with e1 e2
    injection e1 with _ e3
    subst e2 e3
    exact hs.inj b b' _ h1 h2
 ·simp only [Gh.toRes,(hs.frozen b hb).1]
 ·rcases toRes_inv hb with ⟨h1,_⟩ | ⟨j,st,rfl,h1⟩
  ·exact hs.lt b p h1
  ·exact hs.lt b _ h1
 ·rcases toRes_inv hb with ⟨h1,_⟩ | ⟨j,st,rfl,h1⟩
  ·exact hs.ids b p h1
  ·trivial

theorem Ent.sat {F:Cfg} {g:Gh} {w:World} {vs:Array Value} {args:List SV} {hin:List AObj} (h:Ent g w vs args hin) (hn:args.length ≤ F.n) (hh:F.h0 = hin.length) :
  Sat (F.ctx w g) g (start args hin) { tmps:=vs ++ Array.replicate (F.n - vs.size) undef,defers:=[] } w:=by
 refine ⟨rfl,by simp [Cfg.ctx,h.size]; omega,fun k=>?_,h.heap,h.inj,h.frozen,fun b p hb=>⟨h.lt b p hb,.inr (by simp only [Cfg.ctx]; rw [hb]; simp)⟩,h.ids,fun b hb=>.inl hb,fun b hb=>hb,fun b _ _=>rfl,rfl,rfl,rfl,Nat.le_refl _,fun _ _=>rfl,by simp only [Cfg.ctx,hh,start]; exact Nat.le_refl _⟩
 rw [get_start]
 cases hk:args[k]? with
 | none=>trivial
 | some sv =>
  have hlt:k < vs.size:=by rw [h.size]; exact (List.getElem?_eq_some_iff.1 hk).1
  have:=h.args k sv hk
  simp only [Option.getD_some]
  have e:(vs ++ Array.replicate (F.n - vs.size) undef).getD k undef = vs.getD k undef:=by
   simp only [Array.getD_eq_getD_getElem?,Array.getElem?_append_left hlt]
  rw [e]
  exact this

/-- A function with one result, in a slot. -/
theorem ACall.of1 (F:Cfg) {f:FuncId} {fn:Func} {c:Code} {r:Nat} {args:List SV} {hin:List AObj} {res:SV} {hout:List AObj} (hf:F.P.funcs[f]? = some fn) (hb:fn.body = some c) (hn:fn.ntmps = F.n) (hr:fn.results = #[.tmp r])
  (ha:args.length ≤ F.n) (hh:F.h0 = hin.length) (hc:res.closed = true) (h:AWp F c (fun e σ=>(e = .normal ∨ e = .ret) ∧ σ = ⟨[(r,res)],hout⟩) (start args hin)):ACall F.P f args hin res hout:=by
 intro g w vs he
 refine calls_of_wp hf hb ?_
 rw [hn]
 refine wp_mono (h w g g _ w (he.sat ha hh)) fun e a' w' hQ=>?_
 obtain ⟨σ',g',⟨hq,hσ⟩,hs⟩:=hQ
 subst hσ
 have hres:(results fn a'.tmps).run F.P w' = .ok (a'.tmps.getD r undef) w':=by
  unfold results
  rw [hr]
  simp
 have hext:=hs.toExt hc
 rw [hh] at hext
 rcases hq with rfl | rfl
 ·exact ⟨hs.defers,_,hres,_,_,rfl,hext⟩
 ·exact ⟨hs.defers,_,hres,_,_,rfl,hext⟩

/-! ### Several results -/

def idxOf:List Nat → Nat → Option Nat
 | [],_=>none
 | x :: r,k=>if x = k then some 0 else (idxOf r k).map (· + 1)

theorem idxOf_some:∀ {l:List Nat} {k q:Nat},idxOf l k = some q → l[q]? = some k
 | [],_,_,h=>by cases h
 | x :: r,k,q,h=>by
  simp only [idxOf] at h
  split at h
  ·rename_i e; cases h; subst e; rfl
  ·obtain ⟨q',hq,rfl⟩:=Option.map_eq_some_iff.1 h
   simp only [List.getElem?_cons_succ]
   exact idxOf_some hq

theorem idxOf_at:∀ {l:List Nat} {q k:Nat},l.Nodup → l[q]? = some k → idxOf l k = some q
 | [],_,_,_,h=>by simp at h
 | x :: r,q,k,hn,h=>by
  rw [List.nodup_cons] at hn
  cases q with
  | zero=>simp only [List.getElem?_cons_zero,Option.some.injEq] at h; subst h; simp [idxOf]
  | succ q =>
   simp only [List.getElem?_cons_succ] at h
   have hne:x ≠ k:=by rintro rfl; exact hn.1 (List.mem_of_getElem? h)
   simp only [idxOf,if_neg hne,idxOf_at hn.2 h,Option.map_some]

def Gh.toTup (g:Gh) (rs:List Nat):Gh :=
 { g with ow:=fun b=>match g.ow b with
  | some (.slot k j,st)=>if j = 0 then (match idxOf rs k with | some q=>some (.slot 0 q,st) | none=>none) else none
  | some p=>some p
  | none=>none }

theorem toTup_slot {g:Gh} {rs:List Nat} {b k q:Nat} {st:Steps} (h:g.ow b = some (.slot k 0,st)) (hq:idxOf rs k = some q):(g.toTup rs).ow b = some (.slot 0 q,st):=by
 simp only [Gh.toTup,h,if_true,hq]

theorem toTup_other {g:Gh} {rs:List Nat} {b:Nat} {p:Path} (h:g.ow b = some p) (hp:∀ k j,p.1 ≠ .slot k j):(g.toTup rs).ow b = some p:=by
 obtain ⟨q,st⟩:=p
 simp only [Gh.toTup,h]
 cases q with
 | slot k j=>exact absurd rfl (hp k j)
 | cell o off=>rfl
 | obj o=>rfl

theorem toTup_inv {g:Gh} {rs:List Nat} {b:Nat} {p:Path} (h:(g.toTup rs).ow b = some p):(g.ow b = some p ∧ ∀ k j,p.1 ≠ .slot k j) ∨ ∃ k q st,p = (.slot 0 q,st) ∧ g.ow b = some (.slot k 0,st) ∧ idxOf rs k = some q:=by
 simp only [Gh.toTup] at h
 split at h
 ·rename_i k j st hb
  split at h
  ·rename_i hj
   subst hj
   split at h
   ·rename_i q hq; cases h; exact .inr ⟨k,q,st,rfl,hb,hq⟩
   ·cases h
  ·cases h
 ·rename_i q hnot hb
  cases h
  exact .inl ⟨hb,fun k j e=>hnot k j p.2 (by rw [← e])⟩
 ·cases h

def SV.tvOrPure:SV → Bool
 | .tv _=>true
 | s=>s.pure1

theorem look_obj (σ:AState) (o:Nat) (st:Steps):σ.look (.obj o,st) = none:=by
 induction st with
 | nil=>rfl
 | cons ij st ih=>rw [look_cons,ih]; rfl

/-- What names only objects, where these stay. -/
theorem closed_obj {s:SV} (hc:s.closed = true) {p:Path} (hp:s.names (· = p) = true):∃ o,p.1 = .obj o:=by
 cases hq:p.1 with
 | obj o=>exact ⟨o,rfl⟩
 | _ =>
  exfalso
  have hn:s.names (fun p=>match p.1 with | .obj _=>false | _=>true) = true:=by
   cases hh:s.names (fun p=>match p.1 with | .obj _=>false | _=>true) with
   | true=>rfl
   | false=>have:=names_of hh hp; simp [hq] at this
  simp [SV.closed,hn] at hc

theorem Sat.toExts {F:Cfg} {w0:World} {g0 g:Gh} {a:Act} {w:World} {rs:List Nat} {ss:List SV} {env:List (Nat × SV)} {h:List AObj} (hs:Sat (F.ctx w0 g0) g ⟨env,h⟩ a w) (hnd:rs.Nodup) (hl:rs.length = ss.length)
  (hget:∀ (q r:Nat) s,rs[q]? = some r → ss[q]? = some s → lookS env r = s) (hok:∀ s ∈ ss,s.tvOrPure = true ∧ s.closed = true) {vs:Array Value} (hvl:vs.size = rs.length) (hvs:∀ (q r:Nat),rs[q]? = some r → vs[q]? = some (a.tmps.getD r undef)) :
  Ext g0 w0 (g.toTup rs) w (.tuple vs) (.tup ss) F.h0 h:=by
 refine ⟨⟨vs,rfl,by rw [hvl,hl],fun q s hq=>?_⟩,fun o t cs ho=>?_,fun b b' p hb hb'=>?_,fun b hb=>⟨?_,(hs.frozen b hb).2⟩,fun b p hb=>?_,fun b p hb=>?_,hs.P0,hs.P1,hs.kept,hs.os,hs.tape,hs.output,hs.mono,hs.m0,hs.h0⟩
 ·have hlt:q < rs.length:=by rw [hl]; exact (List.getElem?_eq_some_iff.1 hq).1
  have hr:rs[q]? = some rs[q]:=List.getElem?_eq_getElem hlt
  refine ⟨_,hvs q _ hr,?_⟩
  have hk:=hs.env rs[q]
  rw [show (⟨env,h⟩:AState).get rs[q] = s from hget q _ s hr hq] at hk
  obtain ⟨ht,hcl⟩:=hok s (List.mem_of_getElem? hq)
  have hi:=idxOf_at hnd hr
  cases s with
  | tv x=>exact TRel.mono (g':=g.toTup rs) (w':=w) (p:=(.slot rs[q] 0,[])) (r':=.slot 0 q) hk (fun b hb=>⟨hb,rfl⟩) fun b st hb=>⟨toTup_slot hb hi,rfl⟩
  | tup _=>cases ht
  | fn _ _=>cases ht
  | junk=>trivial
  | agg cs =>
   obtain ⟨us,hv,hsz,hc⟩:=agg_plain (g:=g) hk ht
   exact ⟨us,hv,hsz,fun i y hy=>by obtain ⟨u,hu,hr⟩:=hc i y hy; exact ⟨u,hu,.fr hr⟩⟩
  | pc o off=>exact hk
  | rpc o off=>exact hk
  | rp cs=>exact hk
  | pe p i j z=>obtain ⟨o,ho⟩:=closed_obj hcl (p:=p) (by simp [SV.names,SV.names1]); obtain ⟨b,e,n,f,hl,_⟩:=hk; rw [show p = (.obj o,p.2) from by rw [← ho],look_obj] at hl; cases hl
  | pa p i j m q z=>obtain ⟨o,ho⟩:=closed_obj hcl (p:=p) (by simp [SV.names,SV.names1]); obtain ⟨b,e,n,f,hl,_⟩:=hk; rw [show p = (.obj o,p.2) from by rw [← ho],look_obj] at hl; cases hl
  | cut p lo m=>obtain ⟨o,ho⟩:=closed_obj hcl (p:=p) (by simp [SV.names,SV.names1]); obtain ⟨z,e,n,f,A,cap,hl,_⟩:=hk; rw [show p = (.obj o,p.2) from by rw [← ho],look_obj] at hl; cases hl
  | ml p=>obtain ⟨o,ho⟩:=closed_obj hcl (p:=p) (by simp [SV.names,SV.names1]); obtain ⟨b,_,_,hl⟩:=hk; exact absurd ho (hl o)
  | al p=>obtain ⟨o,ho⟩:=closed_obj hcl (p:=p) (by simp [SV.names,SV.names1]); obtain ⟨z,e,n,f,hl,_⟩:=hk; rw [show p = (.obj o,p.2) from by rw [← ho],look_obj] at hl; cases hl
 ·obtain ⟨c,h1,h2,h3,h4⟩:=hs.heap o t cs ho
  refine ⟨c,h1,toTup_other h2 (by simp),h3,fun i y hy=>?_⟩
  obtain ⟨u,hu,hr⟩:=h4 i y hy
  exact ⟨u,hu,TRel.mono (g':=g.toTup rs) (w':=w) (p:=(.cell o i,[])) (r':=.cell o i) hr (fun b hb=>⟨hb,rfl⟩) fun b st hb=>⟨toTup_other hb (by simp),rfl⟩⟩
 ·rcases toTup_inv hb with ⟨h1,h1'⟩ | ⟨k,q,st,rfl,h1,hi⟩
  ·rcases toTup_inv hb' with ⟨h2,_⟩ | ⟨k',q',st',rfl,h2,_⟩
   ·exact hs.inj b b' p h1 h2
   ·exact absurd rfl (h1' 0 q')
  ·rcases toTup_inv hb' with ⟨h2,h2'⟩ | ⟨k',q',st',e,h2,hi'⟩
   ·exact absurd rfl (h2' 0 q)
   ·injection e with e1 e2
    injection e1 with _ e3
    subst e2 e3
    have e4:=idxOf_some hi
    rw [idxOf_some hi'] at e4
    cases e4
    exact hs.inj b b' _ h1 h2
 ·simp only [Gh.toTup,(hs.frozen b hb).1]
 ·rcases toTup_inv hb with ⟨h1,_⟩ | ⟨k,q,st,rfl,h1,_⟩
  ·exact hs.lt b p h1
  ·exact hs.lt b _ h1
 ·rcases toTup_inv hb with ⟨h1,_⟩ | ⟨k,q,st,rfl,h1,_⟩
  ·exact hs.ids b p h1
  ·trivial

theorem mapM_tmp (G:ResultVar → Sem Value) (φ:Nat → Value) (h:∀ t,G (.tmp t) = pure (φ t)) (l:List Nat):(l.map ResultVar.tmp).toArray.mapM G = pure (l.map φ).toArray:=by
 rw [List.mapM_toArray]
 have:∀ l:List Nat,(l.map ResultVar.tmp).mapM G = pure (l.map φ):=by
  intro l
  induction l with
  | nil=>rfl
  | cons x r ih=>rw [List.map_cons,List.mapM_cons,ih,h]; simp
 rw [this]
 simp

/-- A function with several results, each in a slot. -/
theorem ACall.ofN (F:Cfg) {f:FuncId} {fn:Func} {c:Code} {rs:List Nat} {args:List SV} {hin:List AObj} {ss:List SV} {env:List (Nat × SV)} {hout:List AObj} (hf:F.P.funcs[f]? = some fn) (hb:fn.body = some c) (hn:fn.ntmps = F.n)
  (hr:fn.results = (rs.map ResultVar.tmp).toArray) (h1:rs.length ≠ 1) (hnd:rs.Nodup) (hl:rs.length = ss.length) (ha:args.length ≤ F.n) (hh:F.h0 = hin.length)
  (hget:∀ (q r:Nat) s,rs[q]? = some r → ss[q]? = some s → lookS env r = s) (hok:∀ s ∈ ss,s.tvOrPure = true ∧ s.closed = true)
  (h:AWp F c (fun e σ=>(e = .normal ∨ e = .ret) ∧ σ = ⟨env,hout⟩) (start args hin)):ACall F.P f args hin (.tup ss) hout:=by
 intro g w vs he
 refine calls_of_wp hf hb ?_
 rw [hn]
 refine wp_mono (h w g g _ w (he.sat ha hh)) fun e a' w' hQ=>?_
 obtain ⟨σ',g',⟨hq,hσ⟩,hs⟩:=hQ
 subst hσ
 have hres:(results fn a'.tmps).run F.P w' = .ok (.tuple (rs.map fun r=>a'.tmps.getD r undef).toArray) w':=by
  unfold results
  rw [hr]
  rw [mapM_tmp _ (fun r=>a'.tmps.getD r undef) (fun _=>rfl)]
  simp only [pure_bind]
  rw [dif_neg (by simp; exact h1)]
  rfl
 have hext:=hs.toExts hnd hl hget hok (vs:=(rs.map fun r=>a'.tmps.getD r undef).toArray) (by simp) fun q r hq=>by simp [hq]
 rw [hh] at hext
 rcases hq with rfl | rfl
 ·exact ⟨hs.defers,_,hres,_,_,rfl,hext⟩
 ·exact ⟨hs.defers,_,hres,_,_,rfl,hext⟩

end Go.Sx

namespace Go.Sx
open Go

def TV.scal:TV → Bool
 | .int _ _ | .bool _ | .str _ | .sc _=>true
 | _=>false

/-- What reads the same whatever memory is held still. -/
inductive Ind:TV → Prop
 | scal {x}:x.scal = true → Ind x
 | own (z:Nat) (e:TypeId) (n:Nat) (f:Nat → List TV):(∀ (i j:Nat) (y:TV),i < n → (f i)[j]? = some y → Ind y) → Ind (.own z e n f)

def SV.ind1:SV → Prop
 | .tv x=>Ind x
 | .agg cs=>cs.all TV.scal = true
 | _=>False

def SV.ind:SV → Prop
 | .tup vs=>∀ s ∈ vs,s.ind1
 | s=>s.ind1

theorem FRel.scal {P P':Nat → Prop} {w:World} {v:Value} {x:TV} (h:FRel P w v x) (hx:x.scal = true):FRel P' w v x:=by
 cases h with
 | int k n=>exact .int k n
 | bool b=>exact .bool b
 | str s=>exact .str s
 | sc v hv=>exact .sc v hv
 | nil=>cases hx
 | row=>cases hx
 | fm=>cases hx
 | ptr=>cases hx

theorem TRel.ind {g:Gh} {w:World} {p:Path} {v:Value} {x:TV} (h:TRel g w p v x) (P':Nat → Prop) (hx:Ind x):TRel { g with P:=P' } w p v x:=by
 induction h with
 | @fr p v x h =>
  cases hx with
  | scal hx=>exact .fr (h.scal hx)
  | own=>cases h
 | hole=>exact .hole
 | nil z e f=>exact .nil z e f
 | @own p b cap z e n f c cs ho hb hc hl hm hz hcs _ ih =>
  cases hx with
  | scal hx=>cases hx
  | own _ _ _ _ hx=>exact .own b cap z e n f c cs ho hb hc hl hm hz hcs fun i j y hi hy=>ih i j y hi hy (hx i j y hi hy)
 | mp b kk vk l es clock ho hb hl=>exact .mp b kk vk l es clock ho hb hl

theorem S1.ind {g:Gh} {w:World} {σ:AState} {k j:Nat} {v:Value} {sv:SV} (h:S1 g w σ k j v sv) (P':Nat → Prop) (hx:sv.ind1):S1 { g with P:=P' } w σ k j v sv:=by
 cases sv with
 | tv x=>exact TRel.ind h P' hx
 | agg cs =>
  obtain ⟨vs,rfl,hs,hc⟩:=h
  refine ⟨vs,rfl,hs,fun i y hy=>?_⟩
  obtain ⟨u,hu,hr⟩:=hc i y hy
  simp only [SV.ind1,List.all_eq_true] at hx
  exact ⟨u,hu,hr.ind P' (.scal (hx y (List.mem_of_getElem? hy)))⟩
 | _=>exact hx.elim

theorem SR.ind {g:Gh} {w:World} {σ:AState} {k:Nat} {v:Value} {sv:SV} (h:SR g w σ k v sv) (P':Nat → Prop) (hx:sv.ind):SR { g with P:=P' } w σ k v sv:=by
 rcases sv.three with ⟨vs,rfl⟩ | ⟨f,vs,rfl⟩ | hf
 ·obtain ⟨us,rfl,hs,hc⟩:=h
  refine ⟨us,rfl,hs,fun j sv hj=>?_⟩
  obtain ⟨u,hu,hr⟩:=hc j sv hj
  exact ⟨u,hu,hr.ind P' (hx sv (List.mem_of_getElem? hj))⟩
 ·exact hx.elim
 ·rw [SR_flat hf] at h ⊢
  exact h.ind P' (by cases sv <;> first | exact hx | cases hf)

def SV.nameless (s:SV):Bool:=!(s.names fun _=>true)

theorem nameless_of {s:SV} (h:s.nameless = true) {p:Path} (hp:s.names (· = p) = true):False:=by
 have h':s.names (fun _=>true) = false:=by
  simp only [SV.nameless,Bool.not_eq_true'] at h
  exact h
 have:=names_of h' hp
 cases this

def relab (d:Nat):Option Path → Option Path
 | some (.slot 0 j,st)=>some (.slot d j,st)
 | _=>none

theorem relab_some {d:Nat} {q:Option Path} {p:Path} (h:relab d q = some p):∃ j st,q = some (.slot 0 j,st) ∧ p = (.slot d j,st):=by
 unfold relab at h
 split at h
 ·rename_i j st; cases h; exact ⟨j,st,rfl,rfl⟩
 ·cases h

/-- Behind a call: the old blocks as they were, the new ones under slot d. -/
def Gh.back (g g':Gh) (n d:Nat) (P:Nat → Prop):Gh where
 ow:=fun b=>if b < n then (g.clr (under d)).ow b else relab d (g'.ow b)
 P:=P
 m:=g.m

theorem Sat.callPut {X:Ctx} {g:Gh} {σ:AState} {a:Act} {w:World} (h:Sat X g σ a w) {d:Nat} (hd:d < X.n) {gc g':Gh} {w':World} {v:Value} {res:SV} {nin:Nat} {hout:List AObj}
  (hE:Ext gc w g' w' v res nin hout) (hgc:∀ b,gc.ow b = none) (P:Nat → Prop) (hP0:∀ b,g.P b → P b) (hP1:∀ b,P b → g.P b ∨ (w.heap.size ≤ b ∧ g'.P b))
  (hr:SR { g' with P:=P } w' ⟨[(0,res)],hout⟩ 0 v res) (hn:res.nameless = true):Sat X (g.back g' w.heap.size d P) (σ.put d res) (a.put (some d) v) w':=by
 have hold:∀ b,b < w.heap.size → w'.heap[b]? = w.heap[b]?:=fun b hb=>hE.kept b hb (hgc b)
 have hnew:∀ b p,g'.ow b = some p → w.heap.size ≤ b:=fun b p hb=>(hE.lt b p hb).2.resolve_right fun hh=>hh (hgc b)
 have hK:∀ b p,g.ow b = some p → under d p = false → (g.back g' w.heap.size d P).ow b = some p ∧ w'.heap[b]? = w.heap[b]?:=fun b p hb hp=>by
  have hlt:=(h.lt b p hb).1
  exact ⟨by simp only [Gh.back,if_pos hlt]; exact clr_some.2 ⟨hb,hp⟩,hold b hlt⟩
 have U:Up g (g.back g' w.heap.size d P) σ (σ.put d res) w w' (under d) :=
  ⟨fun b hb=>⟨hP0 b hb,hold b (h.frozen b hb).2⟩,hK,fun p hp z e m f hl=>by rw [look_put _ _ _ _ hp]; exact hl,fun _ _ ho=>⟨rfl,ho⟩⟩
 have hts:a.tmps.size = X.n:=h.size
 have hinv:∀ b p,(g.back g' w.heap.size d P).ow b = some p → (b < w.heap.size ∧ g.ow b = some p ∧ under d p = false) ∨ (w.heap.size ≤ b ∧ ∃ j st,g'.ow b = some (.slot 0 j,st) ∧ p = (.slot d j,st)):=fun b p hb=>by
  simp only [Gh.back] at hb
  split at hb
  ·rename_i hlt; exact .inl ⟨hlt,clr_some.1 hb⟩
  ·rename_i hlt
   obtain ⟨j,st,h1,h2⟩:=relab_some hb
   exact .inr ⟨Nat.le_of_not_lt hlt,j,st,h1,h2⟩
 refine ⟨h.defers,by simp only [Act.put,Array.size_setIfInBounds]; exact hts,fun q=>?_,fun o t cs ho=>?_,fun b b' p hb hb'=>?_,fun b hb=>?_,fun b p hb=>?_,fun b p hb=>?_,fun b hb=>?_,fun b hb=>hP0 b (h.P1 b hb),fun b hb h0=>?_,hE.os.trans h.os,hE.tape.trans h.tape,hE.output.trans h.output,Nat.le_trans h.mono hE.mono,h.m0,h.h0⟩
 ·rw [tmps_put _ _ _ _ (by omega),get_put]
  by_cases hq:q = d
  ·subst hq
   simp only [if_true]
   refine hr.mono ⟨fun b hb=>⟨hb,rfl⟩,fun j b st hb=>⟨?_,rfl⟩⟩ fun p hp=>(nameless_of hn hp).elim
   have hlt:=hnew b _ hb
   have hb':g'.ow b = some (.slot 0 j,st):=hb
   simp only [Gh.back,if_neg (Nat.not_lt.2 hlt),hb',relab]
  ·rw [if_neg hq,if_neg hq]
   exact U.slot (fun j st=>under_slot hq j st) (h.env q)
 ·obtain ⟨c',h1,h2,h3,h4⟩:=h.heap o t cs ho
  obtain ⟨k1,k2⟩:=hK _ _ h2 rfl
  refine ⟨c',k2.trans h1,k1,h3,fun i y hy=>?_⟩
  obtain ⟨u,hu,hr⟩:=h4 i y hy
  exact ⟨u,hu,U.tv (fun _=>rfl) hr⟩
 ·rcases hinv b p hb with ⟨h1,h2,h3⟩ | ⟨h1,j,st,h2,rfl⟩
  ·rcases hinv b' p hb' with ⟨k1,k2,_⟩ | ⟨k1,j,st,k2,rfl⟩
   ·exact h.inj b b' p h2 k2
   ·simp [under] at h3
  ·rcases hinv b' _ hb' with ⟨k1,k2,k3⟩ | ⟨k1,j',st',k2,e⟩
   ·simp [under] at k3
   ·cases e
    exact hE.inj b b' _ h2 k2
 ·have hg:g.P b ∨ (w.heap.size ≤ b ∧ g'.P b):=hP1 b hb
  rcases hg with h1 | ⟨h1,h2⟩
  ·obtain ⟨k1,k2⟩:=h.frozen b h1
   exact ⟨by simp only [Gh.back,if_pos k2]; exact clr_none k1,Nat.lt_of_lt_of_le k2 hE.mono⟩
  ·obtain ⟨k1,k2⟩:=hE.frozen b h2
   exact ⟨by simp only [Gh.back,if_neg (Nat.not_lt.2 h1),k1,relab],k2⟩
 ·rcases hinv b p hb with ⟨h1,h2,_⟩ | ⟨h1,j,st,h2,rfl⟩
  ·exact ⟨Nat.lt_of_lt_of_le h1 hE.mono,(h.lt b p h2).2⟩
  ·exact ⟨(hE.lt b _ h2).1,.inl (Nat.le_trans h.mono h1)⟩
 ·rcases hinv b p hb with ⟨h1,h2,_⟩ | ⟨h1,j,st,h2,rfl⟩
  ·exact h.ids b p h2
  ·trivial
 ·rcases hP1 b hb with h1 | ⟨h1,_⟩
  ·exact h.P0 b h1
  ·exact .inr (.inl (Nat.le_trans h.mono h1))
 ·exact (hold b (Nat.lt_of_lt_of_le hb h.mono)).trans (h.kept b hb h0)

/-! ### What a callee sees of a caller's arguments -/

/-- A cell, seen by who only reads. -/
def viewTV:TV → Option (List Prop × TV)
 | .own z _ n f=>some ([PlainTo n f],.fz z n f)
 | .hole=>none
 | .mp ..=>none
 | x=>some ([],x)

def viewTVs:List TV → Option (List Prop × List TV)
 | []=>some ([],[])
 | x :: r=>match viewTV x,viewTVs r with
  | some (a,y),some (b,l)=>some (a ++ b,y :: l)
  | _,_=>none

def AState.view1 (σ:AState):SV → Option (List Prop × SV)
 | .tv x=>match x.plain with | true=>some ([],.tv x) | false=>none
 | .agg cs=>match cs.all TV.plain with | true=>some ([],.agg cs) | false=>none
 | .rp cs=>some ([],.rp cs)
 | .al p=>match σ.look p with | some (.own z _ n f)=>some ([PlainTo n f],.tv (.fz z n f)) | _=>none
 | .pc o off=>match σ.heap[o]? with
  | some (.cells _ cs)=>(match viewTVs (cs.drop off) with | some (l,ys)=>some (l,.rp ys) | none=>none)
  | _=>none
 | .pe p i j z=>match σ.look p with
  | some (.own z' _ n f)=>(match Nat.beq z z' with | true=>some ([PlainTo n f],.rp ((f i).drop j)) | false=>none)
  | _=>none
 | _=>none

def AState.views1 (σ:AState):List SV → Option (List Prop × List SV)
 | []=>some ([],[])
 | x :: r=>match σ.view1 x,σ.views1 r with
  | some (a,y),some (b,l)=>some (a ++ b,y :: l)
  | _,_=>none

def AState.view (σ:AState):SV → Option (List Prop × SV)
 | .fn f caps=>match σ.views1 caps with | some (l,ys)=>some (l,.fn f ys) | none=>none
 | s=>σ.view1 s

def AState.views (σ:AState):List SV → Option (List Prop × List SV)
 | []=>some ([],[])
 | x :: r=>match σ.view x,σ.views r with
  | some (a,y),some (b,l)=>some (a ++ b,y :: l)
  | _,_=>none

theorem plainTo_at {n:Nat} {f:Nat → List TV} (hp:PlainTo n f) {i j:Nat} {y:TV} (hi:i < n) (hy:(f i)[j]? = some y):y.plain = true:=by
 have:=hp i hi
 rw [List.all_eq_true] at this
 exact this y (List.mem_of_getElem? hy)

/-- Own, as one who reads it sees it. -/
theorem own_view {g:Gh} {w:World} {p:Path} {v:Value} {z:Nat} {e:TypeId} {n:Nat} {f:Nat → List TV} (h:TRel g w p v (.own z e n f)) (hp:PlainTo n f) {P:Nat → Prop} (hP:∀ b,g.P b → P b) (hO:∀ b q,g.ow b = some q → P b) :
  FRel P w v (.fz z n f):=by
 rcases own_inv h with ⟨rfl,rfl⟩ | ⟨b,cap,c,cs,h1,rfl,h3,h4,h5,h6,h7,h8,h9⟩
 ·exact .nil _ _ _ _
 ·refine .row b 0 cap z n f cs (hO b _ h1) h5 h6 h7 (fun i j y hi hy=>?_) fun i j y hi hy=>?_
  ·rw [Nat.zero_add]
   exact (h3.cell (i * z + j)).trans (h8 i j y hi hy)
  ·exact ((h9 i j y hi hy).plain (plainTo_at hp hi hy)).mono fun b' hb'=>⟨hP b' hb',rfl⟩

theorem viewTV_sound {g:Gh} {w:World} {p:Path} {v:Value} {x y:TV} {l:List Prop} (h:TRel g w p v x) (hv:viewTV x = some (l,y)) (hl:∀ c ∈ l,c) {P:Nat → Prop} (hP:∀ b,g.P b → P b) (hO:∀ b q,g.ow b = some q → P b):FRel P w v y:=by
 cases x with
 | own z e n f=>cases hv; exact own_view h (hl _ (by simp)) hP hO
 | hole=>cases hv
 | mp=>cases hv
 | _=>cases hv; exact (h.plain rfl).mono fun b hb=>⟨hP b hb,rfl⟩

theorem viewTVs_sound:∀ {cs:List TV} {l:List Prop} {ys:List TV},viewTVs cs = some (l,ys) → (∀ c ∈ l,c) → ∀ (i:Nat) y,ys[i]? = some y → ∃ x l',cs[i]? = some x ∧ viewTV x = some (l',y) ∧ ∀ c ∈ l',c
 | [],l,ys,h,_,i,y,hy=>by cases h; simp at hy
 | x :: r,l,ys,h,hl,i,y,hy=>by
  simp only [viewTVs] at h
  split at h
  ·rename_i a y0 b l0 h1 h2
   cases h
   cases i with
   | zero=>simp only [List.getElem?_cons_zero,Option.some.injEq] at hy; subst hy; exact ⟨x,a,rfl,h1,fun c hc=>hl c (List.mem_append_left _ hc)⟩
   | succ i =>
    simp only [List.getElem?_cons_succ] at hy ⊢
    exact viewTVs_sound h2 (fun c hc=>hl c (List.mem_append_right _ hc)) i y hy
  ·cases h

/-- The whole of memory held still. -/
def Gh.still (w:World):Gh:=⟨fun _=>none,fun b=>b < w.heap.size,fun o=>o⟩

section
variable {X:Ctx} {g:Gh} {σ:AState} {a:Act} {w:World}

theorem look_rel (hs:Sat X g σ a w):∀ {st:Steps} {r:Root} {x:TV},σ.look (r,st) = some x → (∀ o,r ≠ .obj o) → ∃ v,TRel g w (r,st) v x
 | [],r,x,h,hr=>by
  have h':σ.rootTV r = some x:=h
  cases r with
  | obj o=>exact absurd rfl (hr o)
  | cell o off =>
   simp only [AState.rootTV] at h'
   split at h'
   ·rename_i t cs ho
    obtain ⟨c,_,_,_,h4⟩:=hs.heap o t cs ho
    obtain ⟨u,_,hu⟩:=h4 off x h'
    exact ⟨u,hu⟩
   ·cases h'
  | slot k j =>
   simp only [AState.rootTV] at h'
   have he:=hs.env k
   split at h'
   ·rename_i y hy
    rw [hy] at he
    split at h'
    ·cases h'; exact ⟨_,he⟩
    ·cases h'
   ·rename_i cs hy
    rw [hy] at he
    obtain ⟨vs,_,_,hc⟩:=he
    obtain ⟨u,_,hu⟩:=hc j x h'
    exact ⟨u,hu⟩
   ·rename_i vs hy
    rw [hy] at he
    obtain ⟨us,_,_,hc⟩:=he
    cases hj:vs[j]? with
    | none=>simp only [tupAt,hj] at h'; cases h'
    | some y =>
     obtain ⟨u,_,hu⟩:=hc j _ hj
     simp only [tupAt,hj] at h'
     cases y with
     | tv y'=>cases h'; exact ⟨u,hu⟩
     | _=>cases h'
   ·cases h'
 | ij :: st,r,x,h,hr=>by
  rw [look_cons] at h
  cases hl:σ.look (r,st) with
  | none=>rw [hl] at h; cases h
  | some y =>
   rw [hl] at h
   simp only [Option.bind_some] at h
   obtain ⟨v,hv⟩:=look_rel hs hl hr
   cases y with
   | own z e n f =>
    simp only [elemTV] at h
    split at h
    ·rename_i hi
     have hi':ij.1 < n:=of_decide_eq_true hi
     rcases own_inv hv with ⟨_,rfl⟩ | ⟨b,cap,c,cs,h1,_,h3,h4,h5,h6,h7,h8,h9⟩
     ·omega
     ·exact ⟨cs ij.1 ij.2,h9 ij.1 ij.2 x hi' h⟩
    ·cases h
   | _=>cases h

theorem view1_sound (hs:Sat X g σ a w) {k j:Nat} {v:Value} {s s':SV} {l:List Prop} (h:S1 g w σ k j v s) (hv:σ.view1 s = some (l,s')) (hl:∀ c ∈ l,c) (σ0:AState) (k' j':Nat):S1 (Gh.still w) w σ0 k' j' v s':=by
 have hP:∀ b,g.P b → b < w.heap.size:=fun b hb=>(hs.frozen b hb).2
 have hO:∀ b q,g.ow b = some q → b < w.heap.size:=fun b q hb=>(hs.lt b q hb).1
 have hm:∀ {v x},FRel g.P w v x → FRel (Gh.still w).P w v x:=fun hx=>hx.mono fun b hb=>⟨hP b hb,rfl⟩
 cases s with
 | tv x =>
  simp only [AState.view1] at hv
  split at hv
  ·rename_i hp; cases hv; exact .fr (hm (TRel.plain h hp))
  ·cases hv
 | agg cs =>
  simp only [AState.view1] at hv
  split at hv
  ·rename_i hp
   cases hv
   obtain ⟨vs,rfl,hsz,hc⟩:=h
   refine ⟨vs,rfl,hsz,fun i y hy=>?_⟩
   obtain ⟨u,hu,hr⟩:=hc i y hy
   rw [List.all_eq_true] at hp
   exact ⟨u,hu,.fr (hm (hr.plain (hp y (List.mem_of_getElem? hy))))⟩
  ·cases hv
 | rp cs =>
  cases hv
  obtain ⟨b,off,rfl,hb,hc⟩:=h
  refine ⟨b,off,rfl,hP b hb,fun i y hy=>?_⟩
  obtain ⟨u,hu,hr⟩:=hc i y hy
  exact ⟨u,hu,hm hr⟩
 | ml p=>cases hv
 | pa p i j m q z=>cases hv
 | rpc o off=>cases hv
 | cut p lo m=>cases hv
 | al p =>
  simp only [AState.view1] at hv
  split at hv
  ·rename_i z e n f hlook
   cases hv
   have hpl:PlainTo n f:=hl _ (by simp)
   obtain ⟨z',e',n',f',hl',hval⟩:=h
   rw [hlook] at hl'
   cases hl'
   rcases hval with ⟨rfl,rfl⟩ | ⟨b,cap,c,hb,rfl,hrow,hc,h5,h6⟩
   ·exact .fr (.nil _ _ _ _)
   ·have hr:∀ o,p.1 ≠ .obj o:=by
     intro o ho
     rw [show p = (.obj o,p.2) from by rw [← ho],look_obj] at hlook
     cases hlook
    obtain ⟨r,st⟩:=p
    obtain ⟨v',hv'⟩:=look_rel hs hlook hr
    rcases own_inv hv' with ⟨_,rfl⟩ | ⟨b',cap',c',cs,k1,_,k3,k4,k5,k6,k7,k8,k9⟩
    ·exact .fr (.row b 0 cap z 0 f (fun _ _=>undef) (hO b _ hb) h5 h6 (fun i hi=>by omega) (fun i j y hi _=>by omega) fun i j y hi _=>by omega)
    ·obtain rfl:=hs.inj b b' _ hb k1
     refine .fr (.row b 0 cap z n f cs (hO b _ hb) h5 h6 k7 (fun i j y hi hy=>?_) fun i j y hi hy=>?_)
     ·rw [Nat.zero_add]
      exact (k3.cell (i * z + j)).trans (k8 i j y hi hy)
     ·exact hm ((k9 i j y hi hy).plain (plainTo_at hpl hi hy))
  ·cases hv
 | pc o off =>
  simp only [AState.view1] at hv
  split at hv
  ·rename_i t cs ho
   split at hv
   ·rename_i l' ys hys
    cases hv
    obtain ⟨rfl,_⟩:=h
    obtain ⟨c,h1,h2,h3,h4⟩:=hs.heap o t cs ho
    refine ⟨g.m o,off,rfl,hO _ _ h2,fun i y hy=>?_⟩
    obtain ⟨x,l'',hx,hxv,hl''⟩:=viewTVs_sound hys hl i y hy
    rw [List.getElem?_drop] at hx
    obtain ⟨u,hu,hr⟩:=h4 (off + i) x hx
    exact ⟨u,by rw [cell_of_row w (g.m o) (off + i) c t (0,0) h1]; exact hu,viewTV_sound hr hxv hl'' hP hO⟩
   ·cases hv
  ·cases hv
 | pe p i j z =>
  simp only [AState.view1] at hv
  split at hv
  ·rename_i z' e n f hlook
   split at hv
   ·rename_i hz
    obtain rfl:=Nat.eq_of_beq_eq_true hz
    cases hv
    have hpl:PlainTo n f:=hl _ (by simp)
    obtain ⟨b,e',n',f',hl',hi,hb,rfl⟩:=h
    rw [hlook] at hl'
    cases hl'
    have hr:∀ o,p.1 ≠ .obj o:=by
     intro o ho
     rw [show p = (.obj o,p.2) from by rw [← ho],look_obj] at hlook
     cases hlook
    obtain ⟨r,st⟩:=p
    obtain ⟨v',hv'⟩:=look_rel hs hlook hr
    rcases own_inv hv' with ⟨_,rfl⟩ | ⟨b',cap',c',cs,k1,_,k3,k4,k5,k6,k7,k8,k9⟩
    ·omega
    ·obtain rfl:=hs.inj b b' _ hb k1
     refine ⟨b,i * z + j,rfl,hO _ _ hb,fun q y hy=>?_⟩
     rw [List.getElem?_drop] at hy
     refine ⟨cs i (j + q),?_,hm ((k9 i (j + q) y hi hy).plain (plainTo_at hpl hi hy))⟩
     rw [Nat.add_assoc,k3.cell]
     exact k8 i (j + q) y hi hy
   ·cases hv
  ·cases hv
 | junk=>cases hv
 | tup=>cases hv
 | fn=>cases hv

theorem views1_at:∀ {ss ss':List SV} {l:List Prop},σ.views1 ss = some (l,ss') → (∀ c ∈ l,c) → ss'.length = ss.length ∧ ∀ (q:Nat) s',ss'[q]? = some s' → ∃ s l',ss[q]? = some s ∧ σ.view1 s = some (l',s') ∧ ∀ c ∈ l',c
 | [],ss',l,h,_=>by cases h; exact ⟨rfl,fun q s' hq=>by simp at hq⟩
 | x :: r,ss',l,h,hl=>by
  simp only [AState.views1] at h
  split at h
  ·rename_i a' y b l0 h1 h2
   cases h
   obtain ⟨k1,k2⟩:=views1_at h2 (fun c hc=>hl c (List.mem_append_right _ hc))
   refine ⟨by simp [k1],fun q s' hq=>?_⟩
   cases q with
   | zero=>simp only [List.getElem?_cons_zero,Option.some.injEq] at hq; subst hq; exact ⟨x,a',rfl,h1,fun c hc=>hl c (List.mem_append_left _ hc)⟩
   | succ q=>simp only [List.getElem?_cons_succ] at hq ⊢; exact k2 q s' hq
  ·cases h

theorem views_at:∀ {ss ss':List SV} {l:List Prop},σ.views ss = some (l,ss') → (∀ c ∈ l,c) → ss'.length = ss.length ∧ ∀ (q:Nat) s',ss'[q]? = some s' → ∃ s l',ss[q]? = some s ∧ σ.view s = some (l',s') ∧ ∀ c ∈ l',c
 | [],ss',l,h,_=>by cases h; exact ⟨rfl,fun q s' hq=>by simp at hq⟩
 | x :: r,ss',l,h,hl=>by
  simp only [AState.views] at h
  split at h
  ·rename_i a' y b l0 h1 h2
   cases h
   obtain ⟨k1,k2⟩:=views_at h2 (fun c hc=>hl c (List.mem_append_right _ hc))
   refine ⟨by simp [k1],fun q s' hq=>?_⟩
   cases q with
   | zero=>simp only [List.getElem?_cons_zero,Option.some.injEq] at hq; subst hq; exact ⟨x,a',rfl,h1,fun c hc=>hl c (List.mem_append_left _ hc)⟩
   | succ q=>simp only [List.getElem?_cons_succ] at hq ⊢; exact k2 q s' hq
  ·cases h

theorem view_flat {s:SV} (h:∀ f caps,s ≠ .fn f caps):σ.view s = σ.view1 s:=by
 cases s <;> first | rfl | exact absurd rfl (h _ _)

theorem view1_flat {s s':SV} {l:List Prop} (h:σ.view1 s = some (l,s')):s'.flat = true ∧ s.flat = true:=by
 cases s <;> simp only [AState.view1] at h <;> repeat' (first | (cases h; done) | split at h)
 all_goals first | (cases h; exact ⟨rfl,rfl⟩) | cases h

theorem view_sound (hs:Sat X g σ a w) {k:Nat} {v:Value} {s s':SV} {l:List Prop} (h:SR g w σ k v s) (hv:σ.view s = some (l,s')) (hl:∀ c ∈ l,c) (σ0:AState) (k':Nat):SR (Gh.still w) w σ0 k' v s':=by
 by_cases hf:∃ f caps,s = .fn f caps
 ·obtain ⟨f,caps,rfl⟩:=hf
  simp only [AState.view] at hv
  split at hv
  ·rename_i l' ys hys
   cases hv
   obtain ⟨h1,h2⟩:=views1_at hys hl
   obtain ⟨us,rfl,hsz,hc⟩:=h
   refine ⟨us,rfl,by rw [hsz,h1],fun j sv hj=>?_⟩
   obtain ⟨s0,l0,hs0,hv0,hl0⟩:=h2 j sv hj
   obtain ⟨u,hu,hr⟩:=hc j s0 hs0
   exact ⟨u,hu,view1_sound hs hr hv0 hl0 σ0 k' j⟩
  ·cases hv
 ·rw [view_flat fun f caps e=>hf ⟨f,caps,e⟩] at hv
  obtain ⟨h1,h2⟩:=view1_flat hv
  rw [SR_flat h1]
  rw [SR_flat h2] at h
  exact view1_sound hs h hv hl σ0 k' 0

end
end Go.Sx

namespace Go.Sx
open Go

/-- A function that is called by its text. -/
def Fn (P:Program) (f:FuncId):Prop:=∀ args w,(callFunc f args).run P w = .ok (.enter f args) w

theorem run_call {P:Program} {f:FuncId} (h:Fn P f) {o:Oper} {x:Operand} {as:Array Operand} {ts:Array TypeId} (ho:o.op = .call { callee:=.value x,args:=as,argTypes:=ts }) {ρ:Operand → Value} {cs:Array Value} (hx:ρ x = .func (.func f) #[] cs) (w:World) :
  (execOp ρ o).run P w = .ok (.enter f (as.map ρ ++ cs)) w:=by
 unfold execOp
 simp only [ho,resolve,hx,Deferred.ofValue]
 simp only [Array.empty_append,pure_bind,invoke]
 exact h _ w

def evs (σ:AState) (l:List Operand):List SV:=l.map σ.ev

section
variable {X:Ctx} {g:Gh} {σ:AState} {a:Act} {w:World}

theorem S1.calm {g g':Gh} {w:World} {σ σ0:AState} {k j k' j':Nat} {v:Value} {sv:SV} (h:S1 g w σ k j v sv) (hp:sv.pure1 = true) (hn:sv.names1 (fun _=>true) = false) (hP:g'.P = g.P):S1 g' w σ0 k' j' v sv:=by
 cases sv with
 | junk=>trivial
 | tv x=>exact .fr (by rw [hP]; exact TRel.plain h hp)
 | agg cs =>
  obtain ⟨vs,rfl,hs,hc⟩:=h
  refine ⟨vs,rfl,hs,fun i y hy=>?_⟩
  obtain ⟨u,hu,hr⟩:=hc i y hy
  simp only [SV.pure1,List.all_eq_true] at hp
  exact ⟨u,hu,.fr (by rw [hP]; exact hr.plain (hp y (List.mem_of_getElem? hy)))⟩
 | rp cs =>
  obtain ⟨b,off,hv,hb,hc⟩:=h
  refine ⟨b,off,hv,by rw [hP]; exact hb,fun i y hy=>?_⟩
  obtain ⟨u,hu,hr⟩:=hc i y hy
  exact ⟨u,hu,by rw [hP]; exact hr⟩
 | tup=>cases hp
 | fn=>cases hp
 | _=>cases hn

theorem SR.calm {g g':Gh} {w:World} {σ σ0:AState} {k k':Nat} {v:Value} {sv:SV} (h:SR g w σ k v sv) (hp:sv.pure = true) (hn:sv.nameless = true) (hP:g'.P = g.P):SR g' w σ0 k' v sv:=by
 have hn':sv.names (fun _=>true) = false:=by simpa [SV.nameless] using hn
 rcases sv.three with ⟨vs,rfl⟩ | ⟨f,vs,rfl⟩ | hf
 ·obtain ⟨us,rfl,hs,hc⟩:=h
  refine ⟨us,rfl,hs,fun j sv hj=>?_⟩
  obtain ⟨u,hu,hr⟩:=hc j sv hj
  simp only [SV.pure,List.all_eq_true] at hp
  simp only [SV.names,List.any_eq_false] at hn'
  exact ⟨u,hu,hr.calm (hp sv (List.mem_of_getElem? hj)) (by simpa using hn' sv (List.mem_of_getElem? hj)) hP⟩
 ·obtain ⟨us,rfl,hs,hc⟩:=h
  refine ⟨us,rfl,hs,fun j sv hj=>?_⟩
  obtain ⟨u,hu,hr⟩:=hc j sv hj
  simp only [SV.pure,List.all_eq_true] at hp
  simp only [SV.names,List.any_eq_false] at hn'
  exact ⟨u,hu,hr.calm (hp sv (List.mem_of_getElem? hj)) (by simpa using hn' sv (List.mem_of_getElem? hj)) hP⟩
 ·rw [SR_flat hf] at h ⊢
  exact h.calm (by cases sv <;> first | exact hp | cases hf) (by rw [names_flat hf] at hn'; exact hn') hP

/-- What an argument reads as. -/
def AR (g:Gh) (w:World) (σ:AState) (v:Value) (s:SV):Prop:=(∃ k,SR g w σ k v s) ∨ ∃ k j,S1 g w σ k j v s

theorem S1.flat {g:Gh} {w:World} {σ:AState} {k j:Nat} {v:Value} {s:SV} (h:S1 g w σ k j v s):s.flat = true:=by
 cases s <;> first | rfl | exact h.elim

theorem AR.view (hs:Sat X g σ a w) {v:Value} {s s':SV} {l:List Prop} (h:AR g w σ v s) (hv:σ.view s = some (l,s')) (hl:∀ c ∈ l,c) (σ0:AState) (k':Nat):SR (Gh.still w) w σ0 k' v s':=by
 rcases h with ⟨k,h⟩ | ⟨k,j,h⟩
 ·exact view_sound hs h hv hl σ0 k'
 ·have hf:=h.flat
  rw [view_flat fun f caps e=>by rw [e] at hf; cases hf] at hv
  rw [SR_flat (view1_flat hv).1]
  exact view1_sound hs h hv hl σ0 k' 0

theorem AR.calm {g':Gh} {σ0:AState} {k':Nat} {v:Value} {s:SV} (h:AR g w σ v s) (hp:s.pure = true) (hn:s.nameless = true) (hP:g'.P = g.P):SR g' w σ0 k' v s:=by
 rcases h with ⟨k,h⟩ | ⟨k,j,h⟩
 ·exact h.calm hp hn hP
 ·have hf:=h.flat
  rw [SR_flat hf]
  have hn':s.names (fun _=>true) = false:=by simpa [SV.nameless] using hn
  exact h.calm (by cases s <;> first | exact hp | cases hf) (by rw [names_flat hf] at hn'; exact hn') hP

/-- The arguments' values, the closure's last. -/
theorem args_rel (hs:Sat X g σ a w) {as:Array Operand} {f:FuncId} {x:Operand} {caps:List SV} (hx:σ.ev x = .fn f caps) :
  ∃ cs,a.eval x = .func (.func f) #[] cs ∧ (as.map a.eval ++ cs).size = (evs σ as.toList ++ caps).length ∧
   ∀ (q:Nat) s,(evs σ as.toList ++ caps)[q]? = some s → AR g w σ ((as.map a.eval ++ cs).getD q undef) s:=by
 obtain ⟨k0,hk0⟩:=ev_rel hs x
 rw [hx] at hk0
 obtain ⟨cs,hv,hsz,hc⟩:=hk0
 refine ⟨cs,hv,by simp [evs,hsz],fun q s hq=>?_⟩
 rw [Array.getD_eq_getD_getElem?]
 by_cases hlt:q < as.size
 ·rw [List.getElem?_append_left (by simpa [evs] using hlt)] at hq
  simp only [evs,List.getElem?_map,Array.getElem?_toList] at hq
  rw [Array.getElem?_append_left (by simpa using hlt),Array.getElem?_map]
  obtain ⟨y,hy,rfl⟩:=Option.map_eq_some_iff.1 hq
  rw [hy]
  exact .inl (ev_rel hs y)
 ·rw [List.getElem?_append_right (by simpa [evs] using Nat.le_of_not_lt hlt)] at hq
  rw [Array.getElem?_append_right (by simpa using Nat.le_of_not_lt hlt)]
  simp only [evs,List.length_map,Array.length_toList] at hq
  obtain ⟨u,hu,hr⟩:=hc _ s hq
  simp only [Array.size_map]
  rw [hu]
  exact .inr ⟨_,_,hr⟩

theorem Ent.view (hs:Sat X g σ a w) {vs:Array Value} {ss ss':List SV} {l:List Prop} (hsz:vs.size = ss.length) (hr:∀ (q:Nat) s,ss[q]? = some s → AR g w σ (vs.getD q undef) s) (hv:σ.views ss = some (l,ss')) (hl:∀ c ∈ l,c) :
  Ent (Gh.still w) w vs ss' []:=by
 obtain ⟨h1,h2⟩:=views_at hv hl
 refine ⟨by rw [hsz,h1],fun k sv hk=>?_,fun o t cs ho=>(by simp at ho),fun b b' p hb _=>(by cases hb),fun b hb=>⟨rfl,hb⟩,fun b p hb=>(by cases hb),fun b p hb=>(by cases hb)⟩
 obtain ⟨s,l',hs0,hv0,hl0⟩:=h2 k sv hk
 exact (hr k s hs0).view hs hv0 hl0 _ _

theorem Ent.calm (hs:Sat X g σ a w) {vs:Array Value} {ss:List SV} (hsz:vs.size = ss.length) (hr:∀ (q:Nat) s,ss[q]? = some s → AR g w σ (vs.getD q undef) s) (hp:ss.all (fun s=>s.pure && s.nameless) = true) :
  Ent ⟨fun _=>none,g.P,fun o=>o⟩ w vs ss []:=by
 refine ⟨hsz,fun k sv hk=>?_,fun o t cs ho=>(by simp at ho),fun b b' p hb _=>(by cases hb),fun b hb=>⟨rfl,(hs.frozen b hb).2⟩,fun b p hb=>(by cases hb),fun b p hb=>(by cases hb)⟩
 rw [List.all_eq_true] at hp
 have:=hp sv (List.mem_of_getElem? hk)
 rw [Bool.and_eq_true] at this
 exact (hr k sv hk).calm this.1 this.2 rfl

end

section
variable {F:Cfg} {Q:Exit → AState → Prop} {σ:AState}

/-- Arguments that lie still: any result. -/
theorem AOne.callP {ops:Array Oper} {i:Nat} {as:Array Operand} {ts:Array TypeId} {x:Operand} (o:Oper) (ho:ops[i]? = some o) (hop:o.op = .call { callee:=.value x,args:=as,argTypes:=ts }) (hg:guardV ops σ o = some true)
  (d:Nat) (hd:o.dst = some d) (hlt:Nat.blt d F.n = true) (f:FuncId) (caps:List SV) (hx:σ.ev x = .fn f caps) (hf:Fn F.P f) (args:List SV) (ha:evs σ as.toList ++ caps = args) (hp:args.all (fun s=>s.pure && s.nameless) = true) {res:SV}
  (hcall:ACall F.P f args [] res []) (hn:res.nameless = true):AOne F ops i σ (σ.put d res):=fun w0 g0 g a w hs K Q h=>by
 subst ha
 simp only [wpOp,ho]
 rw [if_pos (guardV_sound hs hg)]
 left
 obtain ⟨us,hxv,hsz,hr⟩:=args_rel hs (as:=as) hx
 unfold Oper.wp
 rw [run_call hf hop hxv,Oper.upon_enter]
 refine Calls.mono (hcall _ w _ (Ent.calm hs hsz hr hp)) ?_
 rintro e w' ⟨v,g',rfl,hE⟩
 have hd':d < (F.ctx w0 g0).n:=Nat.le_of_ble_eq_true hlt
 rw [hd]
 refine h _ _ w' (hs.callPut hd' hE (fun _=>rfl) g'.P hE.P1 (fun b hb=>?_) hE.res hn)
 rcases hE.P0 b hb with h1 | h1 | h1
 ·exact .inl h1
 ·exact .inr ⟨h1,hb⟩
 ·exact absurd rfl h1

end
end Go.Sx

namespace Go.Sx
open Go

/-- A list as a slice that lies still. -/
def fzL {A:Type} [Inhabited A] (z:Nat) (enc:A → List TV) (l:List A):TV:=.fz z l.length (fun i=>enc (l.getD i default))
/-- A list as a slice of one's own. -/
def ownL {A:Type} [Inhabited A] (z:Nat) (e:TypeId) (enc:A → List TV) (l:List A):TV:=.own z e l.length (fun i=>enc (l.getD i default))

theorem of_guard {A:Type} {p:Prop} [Decidable p] {x:Option A} {r:A} (h:(if p then x else none) = some r):p ∧ x = some r:=by
 by_cases hp:p
 ·rw [if_pos hp] at h; exact ⟨hp,h⟩
 ·rw [if_neg hp] at h; cases h

theorem of_bind {A B:Type} {x:Option A} {f:A → Option B} {r:B} (h:x.bind f = some r):∃ a,x = some a ∧ f a = some r:=Option.bind_eq_some_iff.1 h

theorem of_true {A:Type} {b:Bool} {x y:Option A} {r:A} (h:cond b x y = some r) (hb:b = true):x = some r:=by rw [hb] at h; exact h
theorem of_false {A:Type} {b:Bool} {x y:Option A} {r:A} (h:cond b x y = some r) (hb:b = false):y = some r:=by rw [hb] at h; exact h

end Go.Sx
