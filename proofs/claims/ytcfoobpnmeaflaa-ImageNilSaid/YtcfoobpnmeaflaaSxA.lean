
/- The abstract values of the executor, and what they say of memory: no condition. -/
import Derived.WalkKit
import Derived.Orders
import Derived.ChangeKeysEq
namespace Go.Sx
open Go

/-- What a cell holds. -/
inductive TV where
 | int (k:IntKind) (n:Int)
 | bool (b:Bool)
 | str (s:List UInt8)
 | sc (v:Value)
 | fz (z n:Nat) (f:Nat → List TV)
 | own (z:Nat) (e:TypeId) (n:Nat) (f:Nat → List TV)
 | mp (kk:IntKind) (vk:Option IntKind) (l:List (Int × Int))
 | fm (kk:IntKind) (vk:Option IntKind) (l:List (Int × Int))
 | pr (cs:List TV)
 | hole

inductive Root where
 | slot (k j:Nat)
 | cell (o off:Nat)
 | obj (o:Nat)
 deriving DecidableEq

abbrev Steps:=List (Nat × Nat)
abbrev Path:=Root × Steps

/-- What a slot holds. -/
inductive SV where
 | junk
 | tv (x:TV)
 | agg (cs:List TV)
 | tup (vs:List SV)
 | pc (o off:Nat)
 | rpc (o off:Nat)
 | pe (p:Path) (i j z:Nat)
 | pa (p:Path) (i j m q z:Nat)
 | rp (cs:List TV)
 | al (p:Path)
 | ml (p:Path)
 | cut (p:Path) (lo m:Nat)
 | fn (f:FuncId) (caps:List SV)

structure Gh where
 ow:Nat → Option Path
 P:Nat → Prop
 m:Nat → Nat

/-- None of the first n cells is held fast. -/
def FrOk (fr:Nat × Nat) (n:Nat):Prop:=fr.1 = fr.2 ∨ n ≤ fr.1

theorem FrOk.no {fr:Nat × Nat} {n:Nat} (h:FrOk fr n):∀ i,i < n → ¬ (fr.1 ≤ i ∧ i < fr.2):=fun i hi ⟨h1,h2⟩=>by
 rcases h with h | h <;> omega

/-- A block of cells that may be written. -/
def Row (w:World) (b:Nat) (e:TypeId) (c:Array Value):Prop :=
 ∃ fr:Nat × Nat,w.heap[b]? = some (.cells c e fr) ∧ FrOk fr c.size

theorem Row.of {w:World} {b:Nat} {e:TypeId} {c:Array Value} (h:w.heap[b]? = some (.cells c e (0,0))):Row w b e c :=
 ⟨(0,0),h,.inl rfl⟩

theorem Row.eq {w w':World} {b:Nat} {e:TypeId} {c:Array Value} (h:Row w b e c) (hb:w'.heap[b]? = w.heap[b]?):Row w' b e c:=by
 obtain ⟨fr,h1,h2⟩:=h
 exact ⟨fr,hb.trans h1,h2⟩

theorem Row.cell {w:World} {b:Nat} {e:TypeId} {c:Array Value} (h:Row w b e c) (j:Nat):w.cell? ⟨b,j,none⟩ = c[j]?:=by
 obtain ⟨fr,h1,_⟩:=h
 exact cell_of_row w b j c e fr h1

theorem Row.lt {w:World} {b:Nat} {e:TypeId} {c:Array Value} (h:Row w b e c):b < w.heap.size:=by
 obtain ⟨fr,h1,_⟩:=h
 exact (Array.getElem?_eq_some_iff.1 h1).1

/-- What a map's number is: a number of a kind, or a bool. -/
def mvV:Option IntKind → Int → Value
 | some k,n=>.int k n
 | none,n=>.bool (n != 0)

/-- Frozen: what a value reads as in memory that nobody writes. -/
inductive FRel (P:Nat → Prop) (w:World):Value → TV → Prop
 | int (k n):FRel P w (.int k n) (.int k n)
 | bool (b):FRel P w (.bool b) (.bool b)
 | str (s:List UInt8):FRel P w (.string ⟨s.toArray⟩) (.str s)
 | sc (v):v.oneCell' = true → FRel P w v (.sc v)
 | nil (A:Option Addr) (c z:Nat) (f:Nat → List TV):FRel P w (.slice A 0 c) (.fz z 0 f)
 | row (b off cap z n:Nat) (f:Nat → List TV) (cs:Nat → Nat → Value) :
   P b → n ≤ cap → cap ≤ maxLen → (∀ i,i < n → (f i).length = z) →
   (∀ i j y,i < n → (f i)[j]? = some y → w.cell? ⟨b,off + i * z + j,none⟩ = some (cs i j)) →
   (∀ i j y,i < n → (f i)[j]? = some y → FRel P w (cs i j) y) →
   FRel P w (.slice (some ⟨b,off,none⟩) n cap) (.fz z n f)
 | fm (b:Nat) (kk:IntKind) (vk:Option IntKind) (l:List (Int × Int)) (es:Array MapEntry) (clock:Nat) :
   P b → w.heap[b]? = some (.map es clock) → es.toList.map (fun m=>(m.key,m.val)) = l.map (fun e=>(Value.int kk e.1,mvV vk e.2)) →
   FRel P w (.map (some b)) (.fm kk vk l)
 | ptr (b off:Nat) (cs:List TV) (ds:Nat → Value):P b → (∀ (i:Nat) (y:TV),cs[i]? = some y → w.cell? ⟨b,off + i,none⟩ = some (ds i)) → (∀ (i:Nat) (y:TV),cs[i]? = some y → FRel P w (ds i) y) →
   FRel P w (.pointer (some ⟨b,off,none⟩)) (.pr cs)

/-- What a value reads as; 'own' is in a block that this place alone has. -/
inductive TRel (g:Gh) (w:World):Path → Value → TV → Prop
 | fr {p v x}:FRel g.P w v x → TRel g w p v x
 | hole {p v}:TRel g w p v .hole
 | nil {p} (z e f):TRel g w p (.slice none 0 0) (.own z e 0 f)
 | own {p} (b cap z:Nat) (e:TypeId) (n:Nat) (f:Nat → List TV) (c:Array Value) (cs:Nat → Nat → Value) :
   g.ow b = some p → Row w b e c → c.size = cap * z → n ≤ cap → cap ≤ maxLen →
   (∀ i,i < n → (f i).length = z) →
   (∀ i j y,i < n → (f i)[j]? = some y → c[i * z + j]? = some (cs i j)) →
   (∀ i j y,i < n → (f i)[j]? = some y → TRel g w (p.1,(i,j) :: p.2) (cs i j) y) →
   TRel g w p (.slice (some ⟨b,0,none⟩) n cap) (.own z e n f)
 | mp {p} (b:Nat) (kk:IntKind) (vk:Option IntKind) (l:List (Int × Int)) (es:Array MapEntry) (clock:Nat) :
   g.ow b = some p → w.heap[b]? = some (.map es clock) → es.toList.map (fun m=>(m.key,m.val)) = l.map (fun e=>(Value.int kk e.1,mvV vk e.2)) →
   TRel g w p (.map (some b)) (.mp kk vk l)

theorem FRel.mono {P P':Nat → Prop} {w w':World} {v:Value} {x:TV} (h:FRel P w v x)
  (hP:∀ b,P b → P' b ∧ w'.heap[b]? = w.heap[b]?):FRel P' w' v x:=by
 induction h with
 | int k n=>exact .int k n
 | bool b=>exact .bool b
 | str s=>exact .str s
 | sc v hv=>exact .sc v hv
 | nil A c z f=>exact .nil A c z f
 | row b off cap z n f cs hb hl hm hz hc _ ih =>
  refine .row b off cap z n f cs (hP b hb).1 hl hm hz (fun i j y hi hy=>?_) ih
  rw [← hc i j y hi hy]
  exact World.cell?_of_block (w:=w) (a:=⟨b,off + i * z + j,none⟩) (hP b hb).2
 | fm b kk vk l es clock hb he hl=>exact .fm b kk vk l es clock (hP b hb).1 ((hP b hb).2.trans he) hl
 | ptr b off cs ds hb hc _ ih =>
  refine .ptr b off cs ds (hP b hb).1 (fun i y hy=>?_) ih
  rw [← hc i y hy]
  exact World.cell?_of_block (w:=w) (a:=⟨b,off + i,none⟩) (hP b hb).2

theorem TRel.mono {g g':Gh} {w w':World} {p:Path} {v:Value} {x:TV} (h:TRel g w p v x)
  (hP:∀ b,g.P b → g'.P b ∧ w'.heap[b]? = w.heap[b]?) {r':Root}
  (hr:∀ b st,g.ow b = some (p.1,st) → g'.ow b = some (r',st) ∧ w'.heap[b]? = w.heap[b]?):TRel g' w' (r',p.2) v x:=by
 induction h with
 | fr h=>exact .fr (h.mono hP)
 | hole=>exact .hole
 | nil z e f=>exact .nil z e f
 | @own p b cap z e n f c cs ho hb hc hl hm hz hcs _ ih =>
  obtain ⟨h1,h2⟩:=hr b p.2 ho
  exact .own b cap z e n f c cs h1 (hb.eq h2) hc hl hm hz hcs fun i j y hi hy=>ih i j y hi hy hr
 | @mp p b kk vk l es clock ho hb hl =>
  obtain ⟨h1,h2⟩:=hr b p.2 ho
  exact .mp b kk vk l es clock h1 (h2.trans hb) hl

/-- Neither owned nor a hole: it may be copied. -/
def TV.plain:TV → Bool
 | .own .. | .hole | .mp ..=>false
 | _=>true

theorem TRel.plain {g:Gh} {w:World} {p:Path} {v:Value} {x:TV} (h:TRel g w p v x) (hx:x.plain = true):FRel g.P w v x:=by
 cases h with
 | fr h=>exact h
 | hole=>cases hx
 | nil=>cases hx
 | own=>cases hx
 | mp=>cases hx

theorem FRel.one {P:Nat → Prop} {w:World} {v:Value} {x:TV} (h:FRel P w v x):v.oneCell' = true:=by
 cases h <;> first | rfl | assumption

theorem TRel.one {g:Gh} {w:World} {p:Path} {v:Value} {x:TV} (h:TRel g w p v x) (hx:x ≠ .hole):v.oneCell' = true:=by
 cases h with
 | fr h=>exact h.one
 | hole=>exact absurd rfl hx
 | nil=>rfl
 | own=>rfl
 | mp=>rfl

theorem FRel.ext {P:Nat → Prop} {w:World} {v:Value} {z n n':Nat} {f f':Nat → List TV} (h:FRel P w v (.fz z n f)) (hn:n = n') (hf:∀ i,i < n → f i = f' i):FRel P w v (.fz z n' f'):=by
 subst hn
 cases h with
 | nil=>exact .nil _ _ z f'
 | row b off cap _ _ _ cs hb hl hm hz hc hr =>
  exact .row b off cap z n f' cs hb hl hm (fun i hi=>by rw [← hf i hi]; exact hz i hi) (fun i j y hi hy=>hc i j y hi (by rw [hf i hi]; exact hy)) (fun i j y hi hy=>hr i j y hi (by rw [hf i hi]; exact hy))

theorem TRel.ext {g:Gh} {w:World} {p:Path} {v:Value} {z n n':Nat} {e:TypeId} {f f':Nat → List TV} (h:TRel g w p v (.own z e n f)) (hn:n = n') (hf:∀ i,i < n → f i = f' i):TRel g w p v (.own z e n' f'):=by
 subst hn
 cases h with
 | fr h=>cases h
 | nil=>exact .nil z e f'
 | own b cap _ _ _ _ c cs ho hb hc hl hm hz hcs hr =>
  exact .own b cap z e n f' c cs ho hb hc hl hm (fun i hi=>by rw [← hf i hi]; exact hz i hi) (fun i j y hi hy=>hcs i j y hi (by rw [hf i hi]; exact hy)) (fun i j y hi hy=>hr i j y hi (by rw [hf i hi]; exact hy))

theorem own_inv {g:Gh} {w:World} {p:Path} {v:Value} {z:Nat} {e:TypeId} {n:Nat} {f:Nat → List TV} (h:TRel g w p v (.own z e n f)) :
  (v = .slice none 0 0 ∧ n = 0) ∨ ∃ b cap c,∃ cs:Nat → Nat → Value,g.ow b = some p ∧ v = .slice (some ⟨b,0,none⟩) n cap ∧ Row w b e c ∧ c.size = cap * z ∧ n ≤ cap ∧ cap ≤ maxLen ∧
   (∀ i,i < n → (f i).length = z) ∧ (∀ i j y,i < n → (f i)[j]? = some y → c[i * z + j]? = some (cs i j)) ∧ (∀ i j y,i < n → (f i)[j]? = some y → TRel g w (p.1,(i,j) :: p.2) (cs i j) y):=by
 cases h with
 | fr h=>cases h
 | nil=>exact .inl ⟨rfl,rfl⟩
 | own b cap _ _ _ _ c cs h1 h2 h3 h4 h5 h6 h7 h8=>exact .inr ⟨b,cap,c,cs,h1,rfl,h2,h3,h4,h5,h6,h7,h8⟩

theorem fz_inv {P:Nat → Prop} {w:World} {v:Value} {z n:Nat} {f:Nat → List TV} (h:FRel P w v (.fz z n f)) :
  ((∃ A c,v = .slice A 0 c) ∧ n = 0) ∨ ∃ b off cap,∃ cs:Nat → Nat → Value,P b ∧ v = .slice (some ⟨b,off,none⟩) n cap ∧ n ≤ cap ∧ cap ≤ maxLen ∧
   (∀ i,i < n → (f i).length = z) ∧ (∀ i j y,i < n → (f i)[j]? = some y → w.cell? ⟨b,off + i * z + j,none⟩ = some (cs i j)) ∧ (∀ i j y,i < n → (f i)[j]? = some y → FRel P w (cs i j) y):=by
 cases h with
 | nil A c=>exact .inl ⟨⟨A,c,rfl⟩,rfl⟩
 | row b off cap _ _ _ cs h1 h2 h3 h4 h5 h6=>exact .inr ⟨b,off,cap,cs,h1,rfl,h2,h3,h4,h5,h6⟩

end Go.Sx

namespace Go.Sx
open Go

inductive AObj where
 | dead
 | cells (t:TypeId) (cs:List TV)

structure AState where
 env:List (Nat × SV)
 heap:List AObj

def lookS:List (Nat × SV) → Nat → SV
 | [],_=>.junk
 | e :: r,k=>match Nat.beq e.1 k with | true=>e.2 | false=>lookS r k

def AState.get (σ:AState) (k:Nat):SV:=lookS σ.env k

def tupAt:List SV → Nat → Option TV
 | vs,j=>match vs[j]? with | some (.tv x)=>some x | _=>none

def AState.rootTV (σ:AState):Root → Option TV
 | .slot k j=>match σ.get k with
  | .tv x=>match j with | 0=>some x | _=>none
  | .agg cs=>cs[j]?
  | .tup vs=>tupAt vs j
  | _=>none
 | .cell o off=>match σ.heap[o]? with | some (.cells _ cs)=>cs[off]? | _=>none
 | .obj _=>none

def elemTV (ij:Nat × Nat):TV → Option TV
 | .own _ _ n f=>match decide (ij.1 < n) with | true=>(f ij.1)[ij.2]? | false=>none
 | _=>none

def AState.look (σ:AState) (p:Path):Option TV:=p.2.foldr (fun ij acc=>acc.bind (elemTV ij)) (σ.rootTV p.1)

def S1 (g:Gh) (w:World) (σ:AState) (k j:Nat) (v:Value):SV → Prop
 | .junk=>True
 | .tv x=>TRel g w (.slot k j,[]) v x
 | .agg cs=>∃ vs,v = .agg vs ∧ vs.size = cs.length ∧ ∀ (i:Nat) y,cs[i]? = some y → ∃ u,vs[i]? = some u ∧ TRel g w (.slot k i,[]) u y
 | .pc o off=>v = .pointer (some ⟨g.m o,off,none⟩) ∧ o < σ.heap.length
 | .rpc o off=>∃ b,v = .pointer (some ⟨b,0,none⟩) ∧ g.P b ∧ w.cell? ⟨b,0,none⟩ = some (.pointer (some ⟨g.m o,off,none⟩)) ∧ o < σ.heap.length
 | .pe p i j z=>∃ b e n f,σ.look p = some (.own z e n f) ∧ i < n ∧ g.ow b = some p ∧ v = .pointer (some ⟨b,i * z + j,none⟩)
 | .pa p i j m q z=>∃ b e n f,σ.look p = some (.own z e n f) ∧ i < n ∧ g.ow b = some p ∧ v = .pointer (some ⟨b,i * z + (j + q),none⟩) ∧ q < m
 | .rp cs=>∃ b off,v = .pointer (some ⟨b,off,none⟩) ∧ g.P b ∧ ∀ (i:Nat) y,cs[i]? = some y → ∃ u,w.cell? ⟨b,off + i,none⟩ = some u ∧ FRel g.P w u y
 | .al p=>∃ z e n f,σ.look p = some (.own z e n f) ∧ ((v = .slice none 0 0 ∧ n = 0) ∨
   ∃ b cap c,g.ow b = some p ∧ v = .slice (some ⟨b,0,none⟩) n cap ∧ Row w b e c ∧ c.size = cap * z ∧ n ≤ cap ∧ cap ≤ maxLen)
 | .ml p=>∃ b,g.ow b = some p ∧ v = .map (some b) ∧ ∀ o,p.1 ≠ .obj o
 | .cut p lo m=>∃ z e n f A cap,σ.look p = some (.own z e n f) ∧ lo + m ≤ n ∧ v = .slice A m cap ∧ (m = 0 ∨
   ∃ b cap0 c,g.ow b = some p ∧ A = some ⟨b,lo * z,none⟩ ∧ Row w b e c ∧ c.size = cap0 * z ∧ n ≤ cap0 ∧ cap0 ≤ maxLen)
 | .tup _ | .fn ..=>False

def SR (g:Gh) (w:World) (σ:AState) (k:Nat) (v:Value):SV → Prop
 | .tup vs=>∃ us,v = .tuple us ∧ us.size = vs.length ∧ ∀ (j:Nat) sv,vs[j]? = some sv → ∃ u,us[j]? = some u ∧ S1 g w σ k j u sv
 | .fn f caps=>∃ cs,v = .func (.func f) #[] cs ∧ cs.size = caps.length ∧ ∀ (j:Nat) sv,caps[j]? = some sv → ∃ u,cs[j]? = some u ∧ S1 g w σ k j u sv
 | sv=>S1 g w σ k 0 v sv

/-- Does a place lie under slot d? -/
def under (d:Nat) (p:Path):Bool :=
 match p.1 with
 | .slot k _=>Nat.beq k d
 | _=>false

def SV.names1 (r:Path → Bool):SV → Bool
 | .pe p _ _ _=>r p
 | .pa p _ _ _ _ _=>r p
 | .al p=>r p
 | .ml p=>r p
 | .cut p _ _=>r p
 | .pc o _=>r (.obj o,[])
 | .rpc o _=>r (.obj o,[])
 | _=>false

def SV.names (r:Path → Bool):SV → Bool
 | .tup vs=>vs.any (SV.names1 r)
 | .fn _ vs=>vs.any (SV.names1 r)
 | sv=>sv.names1 r

def SV.drop1 (r:Path → Bool) (sv:SV):SV:=match sv.names1 r with | true=>.junk | false=>sv

def SV.drop (r:Path → Bool):SV → SV
 | .tup vs=>.tup (vs.map (SV.drop1 r))
 | .fn f vs=>.fn f (vs.map (SV.drop1 r))
 | sv=>sv.drop1 r

/-- Nothing in it is owned by the slot, and nothing is missing. -/
def SV.pure1:SV → Bool
 | .tv x=>x.plain
 | .agg cs=>cs.all TV.plain
 | .tup _=>false
 | .fn _ _=>false
 | _=>true

def SV.pure:SV → Bool
 | .tup vs=>vs.all SV.pure1
 | .fn _ vs=>vs.all SV.pure1
 | sv=>sv.pure1

def SV.flat:SV → Bool
 | .tup _=>false
 | .fn _ _=>false
 | _=>true

theorem SV.three (sv:SV):(∃ vs,sv = .tup vs) ∨ (∃ f vs,sv = .fn f vs) ∨ sv.flat = true:=by
 cases sv <;> first | exact .inl ⟨_,rfl⟩ | exact .inr (.inl ⟨_,_,rfl⟩) | exact .inr (.inr rfl)

theorem SR_flat {g:Gh} {w:World} {σ:AState} {k:Nat} {v:Value} {sv:SV} (h:sv.flat = true):SR g w σ k v sv = S1 g w σ k 0 v sv:=by
 cases sv <;> first | rfl | cases h

theorem drop_flat {r:Path → Bool} {sv:SV} (h:sv.flat = true):sv.drop r = sv.drop1 r:=by cases sv <;> first | rfl | cases h

theorem names_flat {r:Path → Bool} {sv:SV} (h:sv.flat = true):sv.names r = sv.names1 r:=by cases sv <;> first | rfl | cases h

theorem flat_drop1 {r:Path → Bool} {sv:SV} (h:sv.flat = true):(sv.drop1 r).flat = true:=by
 unfold SV.drop1
 split
 ·rfl
 ·exact h

def AState.drop (σ:AState) (r:Path → Bool):AState:={ σ with env:=σ.env.map fun e=>(e.1,e.2.drop r) }

def AState.set (σ:AState) (d:Nat) (sv:SV):AState:={ σ with env:=(d,sv) :: σ.env }

def AState.put (σ:AState) (d:Nat) (sv:SV):AState:=(σ.drop (under d)).set d sv

theorem get_set (σ:AState) (d:Nat) (sv:SV) (k:Nat):(σ.set d sv).get k = if k = d then sv else σ.get k:=by
 simp only [AState.get,AState.set,lookS]
 by_cases h:k = d
 ·subst h; simp
 ·have:Nat.beq d k = false:=by
   cases hb:Nat.beq d k with
   | false=>rfl
   | true=>exact absurd (Nat.eq_of_beq_eq_true hb).symm h
  simp [this,h]

theorem get_drop (σ:AState) (r:Path → Bool) (k:Nat):(σ.drop r).get k = (σ.get k).drop r:=by
 simp only [AState.get,AState.drop]
 induction σ.env with
 | nil=>rfl
 | cons e l ih =>
  simp only [List.map_cons,lookS]
  cases Nat.beq e.1 k <;> simp [ih]

theorem get_put (σ:AState) (d:Nat) (sv:SV) (k:Nat):(σ.put d sv).get k = if k = d then sv else (σ.get k).drop (under d):=by
 rw [AState.put,get_set,get_drop]

theorem tupAt_drop (r:Path → Bool) (vs:List SV) (j:Nat):tupAt (vs.map (SV.drop1 r)) j = tupAt vs j:=by
 simp only [tupAt,List.getElem?_map]
 cases h:vs[j]? with
 | none=>rfl
 | some sv =>
  simp only [Option.map_some]
  cases sv with
  | pe p i j z=>simp only [SV.drop1,SV.names1]; cases r p <;> rfl
  | pa p i j m q z=>simp only [SV.drop1,SV.names1]; cases r p <;> rfl
  | al p=>simp only [SV.drop1,SV.names1]; cases r p <;> rfl
  | ml p=>simp only [SV.drop1,SV.names1]; cases r p <;> rfl
  | cut p lo m=>simp only [SV.drop1,SV.names1]; cases r p <;> rfl
  | pc o off=>simp only [SV.drop1,SV.names1]; cases r (.obj o,[]) <;> rfl
  | rpc o off=>simp only [SV.drop1,SV.names1]; cases r (.obj o,[]) <;> rfl
  | _=>rfl

theorem rootTV_drop (σ:AState) (r:Path → Bool) (x:Root):(σ.drop r).rootTV x = σ.rootTV x:=by
 cases x with
 | slot k j =>
  simp only [AState.rootTV,get_drop]
  cases σ.get k with
  | pe p i j z=>simp only [SV.drop,SV.drop1,SV.names1]; cases r p <;> rfl
  | pa p i j m q z=>simp only [SV.drop,SV.drop1,SV.names1]; cases r p <;> rfl
  | al p=>simp only [SV.drop,SV.drop1,SV.names1]; cases r p <;> rfl
  | ml p=>simp only [SV.drop,SV.drop1,SV.names1]; cases r p <;> rfl
  | cut p lo m=>simp only [SV.drop,SV.drop1,SV.names1]; cases r p <;> rfl
  | pc o off=>simp only [SV.drop,SV.drop1,SV.names1]; cases r (.obj o,[]) <;> rfl
  | rpc o off=>simp only [SV.drop,SV.drop1,SV.names1]; cases r (.obj o,[]) <;> rfl
  | tup vs=>exact tupAt_drop r vs j
  | _=>rfl
 | cell o off=>rfl
 | obj o=>rfl

theorem look_drop (σ:AState) (r:Path → Bool) (p:Path):(σ.drop r).look p = σ.look p:=by
 simp only [AState.look,rootTV_drop]

structure Ctx where
 P:Program
 n:Nat
 w0:World
 g0:Gh
 h0:Nat

def Root.idOk (n:Nat):Root → Prop
 | .slot ..=>True
 | .cell o _=>o < n
 | .obj o=>o < n

structure Sat (X:Ctx) (g:Gh) (σ:AState) (a:Act) (w:World):Prop where
 defers:a.defers = []
 size:a.tmps.size = X.n
 env:∀ k,SR g w σ k (a.tmps.getD k undef) (σ.get k)
 heap:∀ (o:Nat) t cs,σ.heap[o]? = some (.cells t cs) → ∃ c,w.heap[g.m o]? = some (.cells c t (0,0)) ∧ g.ow (g.m o) = some (.obj o,[]) ∧ c.size = cs.length ∧
  ∀ (i:Nat) y,cs[i]? = some y → ∃ u,c[i]? = some u ∧ TRel g w (.cell o i,[]) u y
 inj:∀ b b' p,g.ow b = some p → g.ow b' = some p → b = b'
 frozen:∀ b,g.P b → g.ow b = none ∧ b < w.heap.size
 lt:∀ b p,g.ow b = some p → b < w.heap.size ∧ (X.w0.heap.size ≤ b ∨ X.g0.ow b ≠ none)
 ids:∀ b p,g.ow b = some p → p.1.idOk σ.heap.length
 P0:∀ b,g.P b → X.g0.P b ∨ X.w0.heap.size ≤ b ∨ X.g0.ow b ≠ none
 P1:∀ b,X.g0.P b → g.P b
 kept:∀ b,b < X.w0.heap.size → X.g0.ow b = none → w.heap[b]? = X.w0.heap[b]?
 os:w.os = X.w0.os
 tape:w.tape = X.w0.tape
 output:w.output = X.w0.output
 mono:X.w0.heap.size ≤ w.heap.size
 m0:∀ o,o < X.h0 → g.m o = X.g0.m o
 h0:X.h0 ≤ σ.heap.length

/-- What one slot's relation hangs on. -/
structure Hangs (g g':Gh) (w w':World) (k k':Nat):Prop where
 P:∀ b,g.P b → g'.P b ∧ w'.heap[b]? = w.heap[b]?
 slot:∀ j b st,g.ow b = some (.slot k j,st) → g'.ow b = some (.slot k' j,st) ∧ w'.heap[b]? = w.heap[b]?

/-- What a name of a place hangs on. -/
def Names (g g':Gh) (w w':World) (σ σ':AState) (p:Path):Prop :=
 (∀ b,g.ow b = some p → g'.ow b = some p ∧ ∀ c e,Row w b e c → ∃ c',Row w' b e c' ∧ c'.size = c.size) ∧
 (∀ z e n f,σ.look p = some (.own z e n f) → ∃ f',σ'.look p = some (.own z e n f')) ∧
 ∀ o,p = (.obj o,[]) → o < σ.heap.length → g'.m o = g.m o ∧ o < σ'.heap.length

theorem S1.mono {g g':Gh} {w w':World} {σ σ':AState} {k k' j:Nat} {v:Value} {sv:SV} (h:S1 g w σ k j v sv) (H:Hangs g g' w w' k k')
  (N:∀ r,sv.names1 (· = r) = true → Names g g' w w' σ σ' r):S1 g' w' σ' k' j v sv:=by
 cases sv with
 | junk=>trivial
 | tv x=>exact TRel.mono (p:=(.slot k j,[])) h H.P (H.slot j)
 | agg cs =>
  obtain ⟨vs,rfl,hs,hc⟩:=h
  refine ⟨vs,rfl,hs,fun i y hy=>?_⟩
  obtain ⟨u,hu,hr⟩:=hc i y hy
  exact ⟨u,hu,TRel.mono (p:=(.slot k i,[])) hr H.P (H.slot i)⟩
 | tup vs=>exact h.elim
 | fn f caps=>exact h.elim
 | pc o off =>
  obtain ⟨h1,h2⟩:=(N (.obj o,[]) (by simp [SV.names1])).2.2 o rfl h.2
  exact ⟨by rw [h1]; exact h.1,h2⟩
 | rpc o off =>
  obtain ⟨b,hv,hb,hc,ho⟩:=h
  obtain ⟨h1,h2⟩:=(N (.obj o,[]) (by simp [SV.names1])).2.2 o rfl ho
  obtain ⟨k1,k2⟩:=H.P b hb
  refine ⟨b,hv,k1,?_,h2⟩
  rw [h1,← hc]
  exact World.cell?_of_block (w:=w) (a:=⟨b,0,none⟩) k2
 | pe p i j z =>
  obtain ⟨b,e,n,f,hl,hi,hb,hv⟩:=h
  obtain ⟨N1,N2,_⟩:=N p (by simp [SV.names1])
  obtain ⟨f',hl'⟩:=N2 z e n f hl
  exact ⟨b,e,n,f',hl',hi,(N1 b hb).1,hv⟩
 | pa p i j m q z =>
  obtain ⟨b,e,n,f,hl,hi,hb,hv⟩:=h
  obtain ⟨N1,N2,_⟩:=N p (by simp [SV.names1])
  obtain ⟨f',hl'⟩:=N2 z e n f hl
  exact ⟨b,e,n,f',hl',hi,(N1 b hb).1,hv⟩
 | rp cs =>
  obtain ⟨b,off,hv,hb,hc⟩:=h
  refine ⟨b,off,hv,(H.P b hb).1,fun i y hy=>?_⟩
  obtain ⟨u,hu,hr⟩:=hc i y hy
  refine ⟨u,?_,hr.mono H.P⟩
  rw [← hu]
  exact World.cell?_of_block (w:=w) (a:=⟨b,off + i,none⟩) (H.P b hb).2
 | ml p =>
  obtain ⟨b,hb,hv⟩:=h
  exact ⟨b,((N p (by simp [SV.names1])).1 b hb).1,hv⟩
 | cut p lo m =>
  obtain ⟨z,e,n,f,A,cap,hl,hle,hv,hm⟩:=h
  obtain ⟨N1,N2,_⟩:=N p (by simp [SV.names1])
  obtain ⟨f',hl'⟩:=N2 z e n f hl
  refine ⟨z,e,n,f',A,cap,hl',hle,hv,?_⟩
  rcases hm with hm | ⟨b,cap0,c,hb,hA,hh,hc,h1,h2⟩
  ·exact .inl hm
  ·obtain ⟨hb',hc'⟩:=N1 b hb
   obtain ⟨c',hh',hs'⟩:=hc' c e hh
   exact .inr ⟨b,cap0,c',hb',hA,hh',by rw [hs',hc],h1,h2⟩
 | al p =>
  obtain ⟨z,e,n,f,hl,hv⟩:=h
  obtain ⟨N1,N2,_⟩:=N p (by simp [SV.names1])
  obtain ⟨f',hl'⟩:=N2 z e n f hl
  refine ⟨z,e,n,f',hl',?_⟩
  rcases hv with hv | ⟨b,cap,c,hb,hv,hh,hc,h1,h2⟩
  ·exact .inl hv
  ·obtain ⟨hb',hc'⟩:=N1 b hb
   obtain ⟨c',hh',hs'⟩:=hc' c e hh
   exact .inr ⟨b,cap,c',hb',hv,hh',by rw [hs',hc],h1,h2⟩

theorem SR.mono {g g':Gh} {w w':World} {σ σ':AState} {k k':Nat} {v:Value} {sv:SV} (h:SR g w σ k v sv) (H:Hangs g g' w w' k k')
  (N:∀ r,sv.names (· = r) = true → Names g g' w w' σ σ' r):SR g' w' σ' k' v sv:=by
 rcases sv.three with ⟨vs,rfl⟩ | ⟨f,vs,rfl⟩ | hf
 ·obtain ⟨us,rfl,hs,hc⟩:=h
  refine ⟨us,rfl,hs,fun j sv hj=>?_⟩
  obtain ⟨u,hu,hr⟩:=hc j sv hj
  exact ⟨u,hu,hr.mono H fun r hr=>N r (by simp only [SV.names,List.any_eq_true]; exact ⟨sv,List.mem_of_getElem? hj,hr⟩)⟩
 ·obtain ⟨us,rfl,hs,hc⟩:=h
  refine ⟨us,rfl,hs,fun j sv hj=>?_⟩
  obtain ⟨u,hu,hr⟩:=hc j sv hj
  exact ⟨u,hu,hr.mono H fun r hr=>N r (by simp only [SV.names,List.any_eq_true]; exact ⟨sv,List.mem_of_getElem? hj,hr⟩)⟩
 ·rw [SR_flat hf] at h ⊢
  exact h.mono H fun r hr=>N r (by rw [names_flat hf]; exact hr)

theorem S1.drop {g:Gh} {w:World} {σ:AState} {k j:Nat} {v:Value} {sv:SV} (h:S1 g w σ k j v sv) (r:Path → Bool):S1 g w σ k j v (sv.drop1 r):=by
 unfold SV.drop1
 split
 ·trivial
 ·exact h

theorem SR.drop {g:Gh} {w:World} {σ:AState} {k:Nat} {v:Value} {sv:SV} (h:SR g w σ k v sv) (r:Path → Bool):SR g w σ k v (sv.drop r):=by
 rcases sv.three with ⟨vs,rfl⟩ | ⟨f,vs,rfl⟩ | hf
 ·obtain ⟨us,rfl,hs,hc⟩:=h
  refine ⟨us,rfl,by simpa using hs,fun j sv hj=>?_⟩
  rw [List.getElem?_map] at hj
  obtain ⟨sv0,h0,rfl⟩:=Option.map_eq_some_iff.1 hj
  obtain ⟨u,hu,hr⟩:=hc j sv0 h0
  exact ⟨u,hu,hr.drop r⟩
 ·obtain ⟨us,rfl,hs,hc⟩:=h
  refine ⟨us,rfl,by simpa using hs,fun j sv hj=>?_⟩
  rw [List.getElem?_map] at hj
  obtain ⟨sv0,h0,rfl⟩:=Option.map_eq_some_iff.1 hj
  obtain ⟨u,hu,hr⟩:=hc j sv0 h0
  exact ⟨u,hu,hr.drop r⟩
 ·rw [drop_flat hf,SR_flat (flat_drop1 hf)]
  rw [SR_flat hf] at h
  exact h.drop r

/-- Behind a drop nothing names a place that r takes. -/
theorem names_drop1 {r q:Path → Bool} {sv:SV} (h:(sv.drop1 r).names1 q = true):sv.names1 q = true ∧ ∃ x,r x = false ∧ q x = true:=by
 unfold SV.drop1 at h
 split at h
 ·cases h
 ·rename_i hn
  refine ⟨h,?_⟩
  cases sv <;> simp only [SV.names1] at h hn
  all_goals first | cases h | exact ⟨_,hn,h⟩

theorem names_drop {r q:Path → Bool} {sv:SV} (h:(sv.drop r).names q = true):sv.names q = true ∧ ∃ x,r x = false ∧ q x = true:=by
 rcases sv.three with ⟨vs,rfl⟩ | ⟨f,vs,rfl⟩ | hf
 ·simp only [SV.drop,SV.names,List.any_map,List.any_eq_true] at h ⊢
  obtain ⟨sv,hm,hn⟩:=h
  obtain ⟨h1,h2⟩:=names_drop1 hn
  exact ⟨⟨sv,hm,h1⟩,h2⟩
 ·simp only [SV.drop,SV.names,List.any_map,List.any_eq_true] at h ⊢
  obtain ⟨sv,hm,hn⟩:=h
  obtain ⟨h1,h2⟩:=names_drop1 hn
  exact ⟨⟨sv,hm,h1⟩,h2⟩
 ·rw [drop_flat hf,names_flat (flat_drop1 hf)] at h
  rw [names_flat hf]
  exact names_drop1 h

end Go.Sx

namespace Go.Sx
open Go

/-- What stays: all but what lies at the places that R takes. -/
structure Up (g g':Gh) (σ σ':AState) (w w':World) (R:Path → Bool):Prop where
 P:∀ b,g.P b → g'.P b ∧ w'.heap[b]? = w.heap[b]?
 K:∀ b p,g.ow b = some p → R p = false → g'.ow b = some p ∧ w'.heap[b]? = w.heap[b]?
 look:∀ p,R p = false → ∀ z e n f,σ.look p = some (.own z e n f) → σ'.look p = some (.own z e n f)
 obj:∀ o,R (.obj o,[]) = false → o < σ.heap.length → g'.m o = g.m o ∧ o < σ'.heap.length

theorem Up.slot {g g':Gh} {σ σ':AState} {w w':World} {R:Path → Bool} (U:Up g g' σ σ' w w' R) {k:Nat} {v:Value} {sv:SV}
  (hk:∀ j st,R (.slot k j,st) = false) (h:SR g w σ k v sv):SR g' w' σ' k v (sv.drop R):=by
 refine (h.drop R).mono ⟨U.P,fun j b st hb=>U.K b _ hb (hk j st)⟩ fun p hp=>?_
 obtain ⟨x,hx,he⟩:=(names_drop hp).2
 obtain rfl:x = p:=by simpa using he
 refine ⟨fun b hb=>?_,fun z e n f hl=>⟨f,U.look x hx z e n f hl⟩,fun o he=>U.obj o (by rw [← he]; exact hx)⟩
 obtain ⟨h1,h2⟩:=U.K b _ hb hx
 exact ⟨h1,fun c e hc=>⟨c,hc.eq h2,rfl⟩⟩

theorem Up.tv {g g':Gh} {σ σ':AState} {w w':World} {R:Path → Bool} (U:Up g g' σ σ' w w' R) {p:Path} {v:Value} {x:TV}
  (hp:∀ st,R (p.1,st) = false) (h:TRel g w p v x):TRel g' w' p v x :=
 h.mono U.P fun b st hb=>U.K b _ hb (hp st)

theorem look_eq {σ σ':AState} {p:Path} (h:σ'.rootTV p.1 = σ.rootTV p.1):σ'.look p = σ.look p:=by
 simp only [AState.look,h]

theorem rootTV_set (σ:AState) (d:Nat) (sv:SV) (p:Path) (h:under d p = false):(σ.set d sv).rootTV p.1 = σ.rootTV p.1:=by
 obtain ⟨r,st⟩:=p
 cases r with
 | slot k j =>
  have hk:k ≠ d:=by rintro rfl; simp [under] at h
  simp only [AState.rootTV,get_set,if_neg hk]
 | cell o off=>rfl
 | obj o=>rfl

theorem look_set (σ:AState) (d:Nat) (sv:SV) (p:Path) (h:under d p = false):(σ.set d sv).look p = σ.look p:=look_eq (rootTV_set _ _ _ _ h)

theorem look_put (σ:AState) (d:Nat) (sv:SV) (p:Path) (h:under d p = false):(σ.put d sv).look p = σ.look p:=by
 rw [AState.put,look_set _ _ _ _ h,look_drop]

/-- The labels at the places that R takes go. -/
def Gh.clr (g:Gh) (R:Path → Bool):Gh :=
 { g with ow:=fun b=>match g.ow b with | some p=>(match R p with | true=>none | false=>some p) | none=>none }

theorem clr_some {g:Gh} {R:Path → Bool} {b:Nat} {p:Path}:(g.clr R).ow b = some p ↔ g.ow b = some p ∧ R p = false:=by
 simp only [Gh.clr]
 cases h:g.ow b with
 | none=>simp
 | some q =>
  simp only
  cases hq:R q
  ·simp only [Option.some.injEq]
   exact ⟨fun e=>⟨e,by rw [← e]; exact hq⟩,fun e=>e.1⟩
  ·simp only [reduceCtorEq,Option.some.injEq,false_iff,not_and,Bool.not_eq_false]
   rintro rfl
   exact hq

theorem clr_none {g:Gh} {R:Path → Bool} {b:Nat} (h:g.ow b = none):(g.clr R).ow b = none:=by simp [Gh.clr,h]

theorem tmps_put (a:Act) (d:Nat) (v:Value) (k:Nat) (hd:d < a.tmps.size):(a.put (some d) v).tmps.getD k undef = if k = d then v else a.tmps.getD k undef:=by
 simp only [Act.put,Array.getD_eq_getD_getElem?,Array.getElem?_setIfInBounds]
 by_cases h:d = k
 ·subst h; simp [hd]
 ·rw [if_neg h,if_neg (fun e=>h e.symm)]

/-- The heap, the streams and the tape are the same. -/
structure SameW (w w':World):Prop where
 heap:w'.heap = w.heap
 os:w'.os = w.os
 tape:w'.tape = w.tape
 output:w'.output = w.output

theorem SameW.refl (w:World):SameW w w:=⟨rfl,rfl,rfl,rfl⟩
theorem SameW.drew (w:World):SameW w w.drew:=⟨rfl,rfl,rfl,rfl⟩
theorem SameW.trans {a b c:World} (h:SameW a b) (k:SameW b c):SameW a c :=
 ⟨k.heap.trans h.heap,k.os.trans h.os,k.tape.trans h.tape,k.output.trans h.output⟩

theorem SR.world {g:Gh} {w w':World} {σ:AState} {k:Nat} {v:Value} {sv:SV} (h:SR g w σ k v sv) (hw:SameW w w'):SR g w' σ k v sv :=
 h.mono ⟨fun _ hb=>⟨hb,by rw [hw.heap]⟩,fun _ _ _ hb=>⟨hb,by rw [hw.heap]⟩⟩ fun _ _ =>
  ⟨fun _ hb=>⟨hb,fun c e hc=>⟨c,hc.eq (by rw [hw.heap]),rfl⟩⟩,fun _ _ _ f hl=>⟨f,hl⟩,fun _ _ ho=>⟨rfl,ho⟩⟩

theorem Sat.world {X:Ctx} {g:Gh} {σ:AState} {a:Act} {w w':World} (h:Sat X g σ a w) (hw:SameW w w'):Sat X g σ a w' where
 defers:=h.defers
 size:=h.size
 env k:=(h.env k).world hw
 heap o t cs ho:=by
  obtain ⟨c,h1,h2,h3,h4⟩:=h.heap o t cs ho
  refine ⟨c,by rw [hw.heap]; exact h1,h2,h3,fun i y hy=>?_⟩
  obtain ⟨u,hu,hr⟩:=h4 i y hy
  exact ⟨u,hu,hr.mono (fun _ hb=>⟨hb,by rw [hw.heap]⟩) fun _ _ hb=>⟨hb,by rw [hw.heap]⟩⟩
 inj:=h.inj
 frozen:=by rw [hw.heap]; exact h.frozen
 lt:=by rw [hw.heap]; exact h.lt
 ids:=h.ids
 P0:=h.P0
 P1:=h.P1
 kept:=by rw [hw.heap]; exact h.kept
 os:=hw.os.trans h.os
 tape:=hw.tape.trans h.tape
 output:=hw.output.trans h.output
 mono:=by rw [hw.heap]; exact h.mono
 m0:=h.m0
 h0:=h.h0

theorem under_iff {d:Nat} {p:Path}:under d p = true ↔ ∃ j,p.1 = .slot d j:=by
 obtain ⟨r,st⟩:=p
 cases r with
 | slot k j=>simp only [under,Nat.beq_eq,Root.slot.injEq]; exact ⟨fun h=>⟨j,h,rfl⟩,fun ⟨_,h,_⟩=>h⟩
 | cell o f=>simp [under]
 | obj o=>simp [under]

theorem under_slot {d k:Nat} (h:k ≠ d) (j:Nat) (st:Steps):under d (.slot k j,st) = false:=by
 cases hb:under d (.slot k j,st) with
 | false=>rfl
 | true=>obtain ⟨j',e⟩:=under_iff.1 hb; injection e with e1; exact absurd e1 h

/-- Of what a value names nothing is under R, if it names nothing there. -/
theorem names_of {sv:SV} {R:Path → Bool} (h:sv.names R = false) {p:Path} (hp:sv.names (· = p) = true):R p = false:=by
 cases hu:R p with
 | false=>rfl
 | true =>
  have:sv.names R = true:=by
   rcases sv.three with ⟨vs,rfl⟩ | ⟨f,vs,rfl⟩ | hf
   ·simp only [SV.names,List.any_eq_true] at hp ⊢
    obtain ⟨s1,hm,hn⟩:=hp
    refine ⟨s1,hm,?_⟩
    cases s1 <;> simp_all [SV.names1]
   ·simp only [SV.names,List.any_eq_true] at hp ⊢
    obtain ⟨s1,hm,hn⟩:=hp
    refine ⟨s1,hm,?_⟩
    cases s1 <;> simp_all [SV.names1]
   ·rw [names_flat hf] at hp ⊢
    cases sv <;> simp_all [SV.names1]
  rw [this] at h
  cases h

/-- A value that owns nothing may stand in any slot, where all that it names stays. -/
theorem S1.move {g g':Gh} {w w':World} {σ σ':AState} {R:Path → Bool} (U:Up g g' σ σ' w w' R) {k j k' j':Nat} {v:Value} {sv:SV} (hp:sv.pure1 = true)
  (hn:∀ p,sv.names1 (· = p) = true → R p = false) (h:S1 g w σ k j v sv):S1 g' w' σ' k' j' v sv:=by
 cases sv with
 | junk=>trivial
 | tv x=>exact .fr (show FRel g'.P w' v x from (TRel.plain (g:=g) (p:=(.slot k j,[])) h hp).mono U.P)
 | agg cs =>
  obtain ⟨vs,rfl,hs,hc⟩:=h
  refine ⟨vs,rfl,hs,fun i y hy=>?_⟩
  obtain ⟨u,hu,hr⟩:=hc i y hy
  exact ⟨u,hu,.fr (show FRel g'.P w' u y from (hr.plain (by simp only [SV.pure1,List.all_eq_true] at hp; exact hp y (List.mem_of_getElem? hy))).mono U.P)⟩
 | tup vs=>exact h.elim
 | fn f vs=>exact h.elim
 | pc o off =>
  obtain ⟨h1,h2⟩:=U.obj o (hn (.obj o,[]) (by simp [SV.names1])) h.2
  exact ⟨by rw [h1]; exact h.1,h2⟩
 | rpc o off =>
  obtain ⟨b,hv,hb,hc,ho⟩:=h
  obtain ⟨h1,h2⟩:=U.obj o (hn (.obj o,[]) (by simp [SV.names1])) ho
  obtain ⟨k1,k2⟩:=U.P b hb
  refine ⟨b,hv,k1,?_,h2⟩
  rw [h1,← hc]
  exact World.cell?_of_block (w:=w) (a:=⟨b,0,none⟩) k2
 | pe p i j z =>
  obtain ⟨b,e,n,f,hl,hi,hb,hv⟩:=h
  have hp':=hn p (by simp [SV.names1])
  exact ⟨b,e,n,f,U.look p hp' z e n f hl,hi,(U.K b p hb hp').1,hv⟩
 | pa p i j m q z =>
  obtain ⟨b,e,n,f,hl,hi,hb,hv⟩:=h
  have hp':=hn p (by simp [SV.names1])
  exact ⟨b,e,n,f,U.look p hp' z e n f hl,hi,(U.K b p hb hp').1,hv⟩
 | rp cs =>
  obtain ⟨b,off,hv,hb,hc⟩:=h
  refine ⟨b,off,hv,(U.P b hb).1,fun i y hy=>?_⟩
  obtain ⟨u,hu,hr⟩:=hc i y hy
  refine ⟨u,?_,hr.mono U.P⟩
  rw [← hu]
  exact World.cell?_of_block (w:=w) (a:=⟨b,off + i,none⟩) (U.P b hb).2
 | ml p =>
  obtain ⟨b,hb,hv⟩:=h
  exact ⟨b,(U.K b p hb (hn p (by simp [SV.names1]))).1,hv⟩
 | cut p lo m =>
  obtain ⟨z,e,n,f,A,cap,hl,hle,hv,hm⟩:=h
  have hp':=hn p (by simp [SV.names1])
  refine ⟨z,e,n,f,A,cap,U.look p hp' z e n f hl,hle,hv,?_⟩
  rcases hm with hm | ⟨b,cap0,c,hb,hA,hh,rest⟩
  ·exact .inl hm
  ·obtain ⟨h1,h2⟩:=U.K b p hb hp'
   exact .inr ⟨b,cap0,c,h1,hA,hh.eq h2,rest⟩
 | al p =>
  obtain ⟨z,e,n,f,hl,hv⟩:=h
  have hp':=hn p (by simp [SV.names1])
  refine ⟨z,e,n,f,U.look p hp' z e n f hl,?_⟩
  rcases hv with hv | ⟨b,cap,c,hb,hv,hh,rest⟩
  ·exact .inl hv
  ·obtain ⟨h1,h2⟩:=U.K b p hb hp'
   exact .inr ⟨b,cap,c,h1,hv,hh.eq h2,rest⟩

theorem SR.move {g g':Gh} {w w':World} {σ σ':AState} {R:Path → Bool} (U:Up g g' σ σ' w w' R) {k k':Nat} {v:Value} {sv:SV} (hp:sv.pure = true)
  (hn:sv.names R = false) (h:SR g w σ k v sv):SR g' w' σ' k' v sv:=by
 rcases sv.three with ⟨vs,rfl⟩ | ⟨f,vs,rfl⟩ | hf
 ·obtain ⟨us,rfl,hs,hc⟩:=h
  refine ⟨us,rfl,hs,fun j s1 hj=>?_⟩
  obtain ⟨u,hu,hr⟩:=hc j s1 hj
  simp only [SV.pure,List.all_eq_true] at hp
  exact ⟨u,hu,hr.move U (hp s1 (List.mem_of_getElem? hj)) fun p hq=>names_of hn (by simp only [SV.names,List.any_eq_true]; exact ⟨s1,List.mem_of_getElem? hj,hq⟩)⟩
 ·obtain ⟨us,rfl,hs,hc⟩:=h
  refine ⟨us,rfl,hs,fun j s1 hj=>?_⟩
  obtain ⟨u,hu,hr⟩:=hc j s1 hj
  simp only [SV.pure,List.all_eq_true] at hp
  exact ⟨u,hu,hr.move U (hp s1 (List.mem_of_getElem? hj)) fun p hq=>names_of hn (by simp only [SV.names,List.any_eq_true]; exact ⟨s1,List.mem_of_getElem? hj,hq⟩)⟩
 ·rw [SR_flat hf] at h ⊢
  exact h.move U (by cases sv <;> first | exact hp | cases hf) fun p hq=>names_of hn (by rw [names_flat hf]; exact hq)

theorem Up.put (g:Gh) (σ:AState) (w:World) (d:Nat) (sv:SV):Up g (g.clr (under d)) σ (σ.put d sv) w w (under d) :=
 ⟨fun _ hb=>⟨hb,rfl⟩,fun _ _ hb hp=>⟨clr_some.2 ⟨hb,hp⟩,rfl⟩,fun p hp z e n f hl=>by rw [look_put _ _ _ _ hp]; exact hl,fun _ _ ho=>⟨rfl,ho⟩⟩

/-- A value goes into a slot. -/
theorem Sat.putAny {X:Ctx} {g:Gh} {σ:AState} {a:Act} {w:World} (h:Sat X g σ a w) {d:Nat} (hd:d < X.n) {v:Value} {sv:SV}
  (hv:SR (g.clr (under d)) w (σ.put d sv) d v sv) :
  Sat X (g.clr (under d)) (σ.put d sv) (a.put (some d) v) w:=by
 have U:=Up.put g σ w d sv
 have hsz:a.tmps.size = X.n:=h.size
 refine ⟨h.defers,by simp only [Act.put,Array.size_setIfInBounds]; exact hsz,fun q=>?_,fun o t cs ho=>?_,fun b b' p hb hb'=>?_,fun b hb=>?_,fun b p hb=>?_,fun b p hb=>?_,h.P0,h.P1,h.kept,h.os,h.tape,h.output,h.mono,h.m0,h.h0⟩
 ·rw [tmps_put _ _ _ _ (by omega),get_put]
  by_cases hq:q = d
  ·subst hq
   simp only [if_true]
   exact hv
  ·rw [if_neg hq,if_neg hq]
   exact U.slot (fun j st=>under_slot hq j st) (h.env q)
 ·obtain ⟨c,h1,h2,h3,h4⟩:=h.heap o t cs ho
  refine ⟨c,h1,clr_some.2 ⟨h2,rfl⟩,h3,fun i y hy=>?_⟩
  obtain ⟨u,hu,hr⟩:=h4 i y hy
  exact ⟨u,hu,U.tv (fun _=>rfl) hr⟩
 ·exact h.inj b b' p (clr_some.1 hb).1 (clr_some.1 hb').1
 ·exact ⟨clr_none (h.frozen b hb).1,(h.frozen b hb).2⟩
 ·exact h.lt b p (clr_some.1 hb).1
 ·exact h.ids b p (clr_some.1 hb).1

/-- A value that owns nothing goes into a slot. -/
theorem Sat.put {X:Ctx} {g:Gh} {σ:AState} {a:Act} {w:World} (h:Sat X g σ a w) {d:Nat} (hd:d < X.n) {v:Value} {sv:SV}
  (hpure:sv.pure = true) (hrefs:sv.names (under d) = false) {k:Nat} (hv:SR g w σ k v sv) :
  Sat X (g.clr (under d)) (σ.put d sv) (a.put (some d) v) w :=
 h.putAny hd (hv.move (Up.put g σ w d sv) hpure hrefs)

/-- Less is known: what R takes is not known any more. -/
theorem Sat.less {X:Ctx} {g:Gh} {σ σ':AState} {a:Act} {w:World} (h:Sat X g σ a w) (R:Path → Bool)
  (henv:∀ k,σ'.get k = .junk ∨ (σ'.get k = (σ.get k).drop R ∧ ∀ j st,R (.slot k j,st) = false))
  (hheap:∀ (o:Nat) t cs,σ'.heap[o]? = some (.cells t cs) → ∃ cs0,σ.heap[o]? = some (.cells t cs0) ∧ cs0.length = cs.length ∧ R (.obj o,[]) = false ∧
   ∀ (i:Nat) y,cs[i]? = some y → y = .hole ∨ (cs0[i]? = some y ∧ ∀ st,R (.cell o i,st) = false))
  (hlook:∀ p,R p = false → ∀ z e n f,σ.look p = some (.own z e n f) → σ'.look p = some (.own z e n f))
  (hids:∀ p:Path,R p = false → p.1.idOk σ.heap.length → p.1.idOk σ'.heap.length)
  (hobj:∀ o,R (.obj o,[]) = false → o < σ.heap.length → o < σ'.heap.length)
  (hlen:X.h0 ≤ σ'.heap.length):Sat X (g.clr R) σ' a w:=by
 have U:Up g (g.clr R) σ σ' w w R :=
  ⟨fun b hb=>⟨hb,rfl⟩,fun b p hb hp=>⟨clr_some.2 ⟨hb,hp⟩,rfl⟩,hlook,fun o ho hl=>⟨rfl,hobj o ho hl⟩⟩
 refine ⟨h.defers,h.size,fun k=>?_,fun o t cs ho=>?_,fun b b' p hb hb'=>?_,fun b hb=>?_,fun b p hb=>?_,fun b p hb=>?_,h.P0,h.P1,h.kept,h.os,h.tape,h.output,h.mono,h.m0,hlen⟩
 ·rcases henv k with hk | ⟨hk,hR⟩
  ·rw [hk]; trivial
  ·rw [hk]; exact U.slot hR (h.env k)
 ·obtain ⟨cs0,h0,hl,hob,hc⟩:=hheap o t cs ho
  obtain ⟨c,h1,h2,h3,h4⟩:=h.heap o t cs0 h0
  refine ⟨c,h1,clr_some.2 ⟨h2,hob⟩,by rw [h3,hl],fun i y hy=>?_⟩
  have hi:i < c.size:=by
   rw [h3,hl]
   by_cases hi:i < cs.length
   ·exact hi
   ·rw [List.getElem?_eq_none (by omega)] at hy; cases hy
  rcases hc i y hy with rfl | ⟨hy0,hR⟩
  ·exact ⟨c[i],by simp [hi],.hole⟩
  ·obtain ⟨u,hu,hr⟩:=h4 i y hy0
   exact ⟨u,hu,U.tv hR hr⟩
 ·exact h.inj b b' p (clr_some.1 hb).1 (clr_some.1 hb').1
 ·exact ⟨clr_none (h.frozen b hb).1,(h.frozen b hb).2⟩
 ·exact h.lt b p (clr_some.1 hb).1
 ·obtain ⟨h1,h2⟩:=clr_some.1 hb
  exact hids p h2 (h.ids b p h1)

end Go.Sx

namespace Go.Sx
open Go

structure TI where
 und:TypeDesc
 size:Nat
 bytes:Nat
 zero:List Value
 eq:Bool:=false

abbrev Tab:=List (Nat × TI)

def Tab.get:Tab → Nat → Option TI
 | [],_=>none
 | e :: r,k=>match Nat.beq e.1 k with | true=>some e.2 | false=>Tab.get r k

/-- '==' of one cell. -/
def eqTV:TV → TV → Option Bool
 | .int k a,.int k' b=>match decide (k = k') with | true=>some (a == b) | false=>none
 | .bool a,.bool b=>some (a == b)
 | .str a,.str b=>some (a == b)
 | _,_=>none

def eqTVs:List TV → List TV → Option Bool
 | [x],[y]=>eqTV x y
 | x :: xs,y :: ys=>match eqTV x y,eqTVs xs ys with
  | some a,some b=>some (a && b)
  | _,_=>none
 | _,_=>none

/-- Of one kind? -/
def likeTV:TV → TV → Bool
 | .int _ _,.int _ _=>true
 | .bool _,.bool _=>true
 | .str _,.str _=>true
 | _,_=>false

def likes:List TV → List TV → Bool
 | [],[]=>true
 | x :: xs,y :: ys=>likeTV x y && likes xs ys
 | _,_=>false

def isAggD:TypeDesc → Bool
 | .struct _=>true
 | .array _ _=>true
 | _=>false

def cTV:Value → TV
 | .int k n=>.int k n
 | .bool b=>.bool b
 | .string s=>.str s.data.toList
 | v=>.sc v

def TIOk (P:Program) (t:Nat) (ti:TI):Prop :=
 P.underlying t = some ti.und ∧ ∃ i z,P.info? t = some i ∧ i.size = ti.size ∧ i.bytes = ti.bytes ∧ i.zero = some z ∧ z.cells.toList = ti.zero ∧
  ti.zero.length = ti.size ∧ (ti.zero.all Value.oneCell' = true) ∧ (isAggD ti.und = false → ti.size = 1 ∧ ∀ cs,z ≠ .agg cs) ∧
  (ti.eq = true → P.eqGuardType P.depth t = false ∧ ∀ (w w':World) (Pr:Nat → Prop) (xs ys:Array Value) (cx cy:List TV) (r:Bool),xs.size = cx.length → ys.size = cy.length →
   (∀ (i:Nat) y,cx[i]? = some y → ∃ u,xs[i]? = some u ∧ FRel Pr w u y) → (∀ (i:Nat) y,cy[i]? = some y → ∃ u,ys[i]? = some u ∧ FRel Pr w u y) →
   likes cx (ti.zero.map cTV) = true → eqTVs cx cy = some r → (Op.equal t (.agg xs) (.agg ys)).run P w' = .ok r w')

def TabOk (P:Program) (T:Tab):Prop:=∀ t ti,T.get t = some ti → TIOk P t ti

theorem TabOk.nil (P:Program):TabOk P []:=by intro t ti h; cases h

theorem TabOk.cons {P:Program} {t:Nat} {ti:TI} {T:Tab} (h:TIOk P t ti) (hT:TabOk P T):TabOk P ((t,ti) :: T):=by
 intro k tk hk
 simp only [Tab.get] at hk
 split at hk
 ·rename_i hb
  obtain rfl:t = k:=Nat.eq_of_beq_eq_true hb
  obtain rfl:=Option.some.inj hk
  exact h
 ·exact hT k tk hk

theorem cTV_rel {P:Nat → Prop} {w:World} {v:Value} (h:v.oneCell' = true):FRel P w v (cTV v):=by
 cases v with
 | int k n=>exact .int k n
 | bool b=>exact .bool b
 | string s=>exact .str s.data.toList
 | _=>exact .sc _ h

def cSV:Value → SV
 | .agg cs=>match cs.toList.all Value.oneCell' with | true=>.agg (cs.toList.map cTV) | false=>.junk
 | .tuple _=>.junk
 | v=>.tv (cTV v)

def AState.ev (σ:AState):Operand → SV
 | .tmp t=>σ.get t
 | .const v=>cSV v
 | .global _=>.junk
 | .func f=>.fn f []

abbrev w64 (n:Int):Int:=IntKind.wrap .i64 n

/-- Numbers. -/
def intTV (op:BinOp) (k:IntKind) (a b:Int):Option (List Prop × TV) :=
 match op with
 | .add=>some ([],.int k (k.wrap (a + b)))
 | .sub=>some ([],.int k (k.wrap (a - b)))
 | .mul=>some ([],.int k (k.wrap (a * b)))
 | .quo=>some ([b ≠ 0],.int k (k.wrap (a.tdiv b)))
 | .rem=>some ([b ≠ 0],.int k (a.tmod b))
 | .and=>some ([],.int k (k.wrap (BitVec.ofInt k.bits a &&& BitVec.ofInt k.bits b).toNat))
 | .or=>some ([],.int k (k.wrap (BitVec.ofInt k.bits a ||| BitVec.ofInt k.bits b).toNat))
 | .eql=>some ([],.bool (a == b))
 | .neq=>some ([],.bool (a != b))
 | .lss=>some ([],.bool (decide (a < b)))
 | .leq=>some ([],.bool (decide (a ≤ b)))
 | .gtr=>some ([],.bool (decide (a > b)))
 | .geq=>some ([],.bool (decide (a ≥ b)))
 | _=>none

def shiftTV (op:BinOp) (k:IntKind) (a b:Int):Option (List Prop × TV) :=
 match op with
 | .shl=>some ([0 ≤ b],.int k (k.wrap (a * 2 ^ (min b.toNat k.bits))))
 | .shr=>some ([0 ≤ b],.int k (a.fdiv (2 ^ (min b.toNat k.bits))))
 | _=>none

def strTV (op:BinOp) (x y:List UInt8):Option (List Prop × TV) :=
 match op with
 | .add=>some ([((x.length + y.length:Nat):Int) ≤ 9223372036854775807],.str (x ++ y))
 | .eql=>some ([],.bool (x == y))
 | .neq=>some ([],.bool (!(x == y)))
 | .lss=>some ([],.bool (Op.bytesLess x y))
 | _=>none

def isShift:BinOp → Bool
 | .shl=>true
 | .shr=>true
 | _=>false

def nilV:Value:=.slice none 0 0

/-- Is it a value that reads as a slice, and of what length? -/
def AState.lenOf (σ:AState):SV → Option Nat
 | .tv (.fz _ n _)=>some n
 | .tv (.own _ _ n _)=>some n
 | .tv (.sc (.slice none 0 0))=>some 0
 | .al p=>match σ.look p with | some (.own _ _ n _)=>some n | _=>none
 | .cut _ _ m=>some m
 | _=>none

def isNilTV:TV → Bool
 | .sc (.slice none 0 0)=>true
 | _=>false

def binSV (T:Tab) (σ:AState) (op:BinOp) (t:Nat) (x y:SV):Option (List Prop × SV) :=
 match x,y with
 | .tv (.int k a),.tv (.int k' b) =>
  match isShift op with
  | true=>(shiftTV op k a b).map fun r=>(r.1,.tv r.2)
  | false=>match decide (k = k') with | true=>(intTV op k a b).map fun r=>(r.1,.tv r.2) | false=>none
 | .tv (.str a),.tv (.str b)=>(strTV op a b).map fun r=>(r.1,.tv r.2)
 | .tv (.bool a),.tv (.bool b)=>match op,(T.get t).map TI.und with
  | .eql,some .bool=>some ([],.tv (.bool (a == b)))
  | .neq,some .bool=>some ([],.tv (.bool (!(a == b))))
  | _,_=>none
 | .agg xs,.agg ys=>match op,(T.get t).map (fun ti=>ti.eq && likes xs (ti.zero.map cTV)),xs.all TV.plain && ys.all TV.plain,eqTVs xs ys with
  | .eql,some true,true,some r=>some ([],.tv (.bool r))
  | .neq,some true,true,some r=>some ([],.tv (.bool (!r)))
  | _,_,_,_=>none
 | .pc _ _,.tv (.sc (.pointer none))=>match op,(T.get t).map TI.und with
  | .eql,some (.pointer _)=>some ([],.tv (.bool false))
  | .neq,some (.pointer _)=>some ([],.tv (.bool true))
  | _,_=>none
 | .rp _,.tv (.sc (.pointer none))=>match op,(T.get t).map TI.und with
  | .eql,some (.pointer _)=>some ([],.tv (.bool false))
  | .neq,some (.pointer _)=>some ([],.tv (.bool true))
  | _,_=>none
 | .tv (.sc (.slice none 0 0)),.tv (.sc (.slice none 0 0))=>match op,(T.get t).map TI.und with
  | .eql,some (.slice _)=>some ([],.tv (.bool true))
  | .neq,some (.slice _)=>some ([],.tv (.bool false))
  | _,_=>none
 | .tv (.sc (.pointer none)),.tv (.sc (.pointer none))=>match op,(T.get t).map TI.und with
  | .eql,some (.pointer _)=>some ([],.tv (.bool true))
  | .neq,some (.pointer _)=>some ([],.tv (.bool false))
  | _,_=>none
 | x,.tv (.sc (.slice none 0 0))=>match op,(T.get t).map TI.und,σ.lenOf x with
  | .eql,some (.slice _),some n=>some ([0 < n],.tv (.bool false))
  | .neq,some (.slice _),some n=>some ([0 < n],.tv (.bool true))
  | _,_,_=>none
 | _,_=>none

def unSV (op:UnOp) (x:SV):Option (List Prop × SV) :=
 match op,x with
 | .not,.tv (.bool b)=>some ([],.tv (.bool (!b)))
 | .neg,.tv (.int k n)=>some ([],.tv (.int k (k.wrap (0 - n))))
 | _,_=>none

/-- One of two values. -/
def pickSV (b:Bool) (x y:SV):SV :=
 match x,y with
 | .tv (.bool x),.tv (.bool y)=>.tv (.bool (cond b x y))
 | .tv (.int k x),.tv (.int k' y)=>match decide (k = k') with | true=>.tv (.int k (cond b x y)) | false=>cond b (.tv (.int k x)) (.tv (.int k' y))
 | .tv (.str x),.tv (.str y)=>.tv (.str (cond b x y))
 | x,y=>cond b x y

/-- Cells as a value. -/
def ofCells (ag:Bool) (n:Nat) (cs:List TV):Option SV :=
 match Nat.beq cs.length n && cs.all TV.plain with
 | true=>(match ag with
  | true=>some (.agg cs)
  | false=>match cs with
   | [x]=>some (.tv x)
   | _=>none)
 | false=>none

/-- Cells that are numbers of one kind. -/
def selInt:List TV → Option (IntKind × List Int)
 | [.int k n]=>some (k,[n])
 | .int k n :: r=>match selInt r with
  | some (k',l)=>(match decide (k = k') with | true=>some (k,n :: l) | false=>none)
  | none=>none
 | _=>none

def AState.cellsAt (σ:AState) (n:Nat):SV → Option (List TV)
 | .rp cs=>some (cs.take n)
 | .pc o off=>match σ.heap[o]? with | some (.cells _ cs)=>some ((cs.drop off).take n) | _=>none
 | .pe p i j z=>match σ.look p with | some (.own z' _ _ f)=>(match Nat.beq z z' with | true=>some (((f i).drop j).take n) | false=>none) | _=>none
 | .pa p i j m q z=>match σ.look p with | some (.own z' _ _ f)=>(match Nat.beq z z' && Nat.beq n 1,selInt (((f i).drop j).take m) with | true,some (k,l)=>(match Nat.beq l.length m with | true=>some [.int k (l.getD q 0)] | false=>none) | _,_=>none) | _=>none
 | _=>none


def partsOf (σ:AState):List (Nat × Operand) → Option (List (Nat × List TV))
 | []=>some []
 | (i,x) :: r=>match σ.ev x,partsOf σ r with
  | .tv y,some ps=>(match y.plain with | true=>some ((i,[y]) :: ps) | false=>none)
  | .agg cs,some ps=>(match cs.all TV.plain with | true=>some ((i,cs) :: ps) | false=>none)
  | _,_=>none

/-- Cells into cells from a place on. -/
def putAt (cs:List TV) (off:Nat):List TV → List TV
 | []=>cs
 | y :: r=>putAt (cs.set off y) (off + 1) r

def fillTV (place:Nat → Option (Nat × Nat)) (cells:List TV):List (Nat × List TV) → Option (List TV)
 | []=>some cells
 | (i,ys) :: rest=>match place i with
  | none=>none
  | some (off,size)=>match Nat.beq ys.length size && Nat.ble (off + ys.length) cells.length with
   | true=>fillTV place (putAt cells off ys) rest
   | false=>none

def Tab.size (T:Tab) (t:Nat):Option Nat:=(T.get t).map (·.size)

/-- Fields' places and sizes. -/
def placesOf (T:Tab):List Field → Option (List (Nat × Nat))
 | []=>some []
 | f :: r=>match T.size f.type,placesOf T r with
  | some n,some l=>some ((f.offset,n) :: l)
  | _,_=>none

def capsOf (σ:AState):List Operand → Option (List SV)
 | []=>some []
 | x :: r=>match capsOf σ r with
  | some l=>let s:=σ.ev x; (match s.pure1 with | true=>some (s :: l) | false=>none)
  | none=>none

def maxTV (σ:AState) (less:Bool):SV → List Operand → Option SV
 | s,[]=>some s
 | .tv (.int k a),x :: r=>match σ.ev x with
  | .tv (.int _ b)=>maxTV σ less (.tv (.int k (cond less (if b < a then b else a) (if b > a then b else a)))) r
  | _=>none
 | _,_=>none

def iv:SV → Option Int
 | .tv (.int _ n)=>some n
 | _=>none

def AState.bound (σ:AState) (d:Int):Option Operand → Option Int
 | none=>some d
 | some l=>iv (σ.ev l)

def someCs (x:Option SV):Option (List Prop × SV):=match x with | some s=>some ([],s) | none=>none

def SV.isMap:SV → Bool
 | .tv (.mp ..)=>true
 | _=>false

def SV.isOwn:SV → Bool
 | .tv (.own _ _ _ _)=>true
 | _=>false

def ownCell:List TV → Bool
 | [.own _ _ _ _]=>true
 | _=>false

/-- A pointer that lies still, as what it leads to. -/
def unref:SV → SV
 | .tv (.pr cs)=>.rp cs
 | s=>s

/-- What an operation comes to that makes no memory. -/
def evalPure (T:Tab) (σ:AState):Op → Option (List Prop × SV)
 | .move x=>let s:=σ.ev x; (match s.pure with
  | true=>some ([],s)
  | false=>match x,s.isOwn with
   | .tmp t,true=>some ([],.al (.slot t 0,[]))
   | .tmp t,false=>(match s.isMap with | true=>some ([],.ml (.slot t 0,[])) | false=>none)
   | _,_=>none)
 | .assign x=>let s:=σ.ev x; (match s.pure with
  | true=>some ([],s)
  | false=>none)
 | .pick c a b=>match σ.ev c with
  | .tv (.bool e)=>let s:=pickSV e (σ.ev a) (σ.ev b); (match s.pure with | true=>some ([],s) | false=>none)
  | _=>none
 | .load t a=>match T.get t with
  | some ti=>match σ.cellsAt ti.size (σ.ev a) with
   | some cs=>match ofCells (isAggD ti.und) ti.size cs with
    | some s=>some ([],unref s)
    | none=>match σ.ev a,isAggD ti.und,ownCell cs with
     | .pc o off,false,true=>some ([],.al (.cell o off,[]))
     | .pe p i j _,false,true=>some ([],.al (p.1,(i,j) :: p.2))
     | _,_,_=>none
   | none=>match σ.ev a,ti.und with
    | .rpc o off,.pointer _=>some ([],.pc o off)
    | _,_=>none
  | none=>none
 | .fieldAddr t x f=>match T.get t with
  | some ti=>match ti.und with
   | .struct fs=>match fs[f]? with
    | some fd=>match T.size fd.type,σ.ev x with
     | some (_ + 1),.rp cs=>some ([],.rp (cs.drop fd.offset))
     | some (_ + 1),.pc o off=>some ([],.pc o (off + fd.offset))
     | some (_ + 1),.pe p i j z=>some ([],.pe p i (j + fd.offset) z)
     | _,_=>none
    | none=>none
   | _=>none
  | none=>none
 | .field t x f=>match T.get t with
  | some ti=>match ti.und with
   | .struct fs=>match fs[f]? with
    | some fd=>match T.get fd.type,σ.ev x with
     | some fi,.agg cs=>someCs (ofCells (isAggD fi.und) fi.size ((cs.drop fd.offset).take fi.size))
     | _,_=>none
    | none=>none
   | _=>none
  | none=>none
 | .indexAddr t x i=>match T.get t,iv (σ.ev i) with
  | some ti,some n=>match ti.und,σ.ev x with
   | .slice e,.tv (.fz z len f)=>(match T.size e with
    | some z'=>match Nat.beq z z' with | true=>some ([0 ≤ n,n < (len:Int)],.rp (f n.toNat)) | false=>none
    | none=>none)
   | .slice e,.al p=>(match T.size e,σ.look p with
    | some z',some (.own z _ len _)=>(match Nat.beq z z' with | true=>some ([0 ≤ n,n < (len:Int)],.pe p n.toNat 0 z) | false=>none)
    | _,_=>none)
   | .array m e,.pe p i j z=>(match T.size e with
    | some 1=>some ([0 ≤ n,n < (m:Int)],.pa p i j m n.toNat z)
    | _=>none)
   | .array m e,.rp cs=>(match T.size e,selInt (cs.take m) with
    | some 1,some (k,l)=>(match Nat.beq l.length m with | true=>some ([0 ≤ n,n < (m:Int)],.rp [.int k (l.getD n.toNat 0)]) | false=>none)
    | _,_=>none)
   | _,_=>none
  | _,_=>none
 | .index t x i=>match T.get t,iv (σ.ev i) with
  | some ti,some n=>match ti.und,σ.ev x with
   | .string,.tv (.str s)=>some ([0 ≤ n,n < (s.length:Int)],.tv (.int .u8 ((s.getD n.toNat 0).toNat:Int)))
   | .array m e,.agg cells=>(match selInt cells,(T.get e).map (fun ei=>Nat.beq ei.size 1 && !isAggD ei.und) with
    | some (k,l),some true=>(match Nat.beq l.length m && Nat.beq cells.length m with | true=>some ([0 ≤ n,n < (m:Int)],.tv (.int k (l.getD n.toNat 0))) | false=>none)
    | _,_=>none)
   | _,_=>none
  | _,_=>none
 | .binOp op t x y _=>binSV T σ op t (σ.ev x) (σ.ev y)
 | .unOp op _ x=>unSV op (σ.ev x)
 | .convert s d x=>match T.get s,T.get d,σ.ev x with
  | some si,some di,.tv (.int _ n)=>(match si.und,di.und with
   | .int _,.int k=>some ([],.tv (.int k (k.wrap n)))
   | _,_=>none)
  | some _,some di,.tv (.str l)=>(match di.und with
   | .string=>some ([],.tv (.str l))
   | _=>none)
  | _,_,_=>none
 | .makeFunc (.func f) fs caps=>match fs.toList,capsOf σ caps.toList with
  | [],some l=>some ([],.fn f l)
  | _,_=>none
 | .slice t x lo hi none=>match (T.get t).map TI.und,σ.ev x with
  | some .string,.tv (.str s)=>(match σ.bound 0 lo,σ.bound (s.length:Int) hi with
   | some l,some h=>some ([0 ≤ l,l ≤ h,h ≤ (s.length:Int)],.tv (.str ((s.take h.toNat).drop l.toNat)))
   | _,_=>none)
  | some (.slice e),.tv (.fz z n f)=>(match σ.bound 0 lo,σ.bound (n:Int) hi,T.size e with
   | some l,some h,some z'=>(match Nat.beq z z' with | true=>some ([0 ≤ l,l ≤ h,h ≤ (n:Int)],.tv (.fz z (h.toNat - l.toNat) (fun i=>f (l.toNat + i)))) | false=>none)
   | _,_,_=>none)
  | some (.slice e),.al p=>(match σ.look p with
   | some (.own z _ n _)=>(match σ.bound 0 lo,σ.bound (n:Int) hi,T.size e with
    | some l,some h,some z'=>(match Nat.beq z z' with | true=>some ([0 ≤ l,l ≤ h,h ≤ (n:Int)],.cut p l.toNat (h.toNat - l.toNat)) | false=>none)
    | _,_,_=>none)
   | _=>none)
  | some (.array m e),.rp cs=>(match lo,hi,selInt (cs.take m),T.size e with
   | none,none,some (k,l),some 1=>(match Nat.beq l.length m && Nat.ble 1 m && Nat.ble m 1000 with | true=>some ([],.tv (.fz 1 m (fun i=>[.int k (l.getD i 0)]))) | false=>none)
   | _,_,_,_=>none)
  | _,_=>none
 | .extract x i=>match σ.ev x with
  | .tup vs=>match vs[i]? with
   | some s=>match s.pure1,x,s.isOwn with
    | true,_,_=>some ([],s)
    | false,.tmp t,true=>some ([],.al (.slot t i,[]))
    | _,_,_=>none
   | none=>none
  | _=>none
 | .build t parts=>match T.get t with
  | some ti=>match ti.und,partsOf σ parts.toList with
   | .struct fs,some ps=>match placesOf T fs.toList with
    | some pl=>match fillTV (fun i=>pl[i]?) (ti.zero.map cTV) ps with
     | some cs=>some ([],.agg cs)
     | none=>none
    | none=>none
   | _,_=>none
  | none=>none
 | .call { callee:=.builtin .len,args:=as,argTypes:=ts }=>match as.toList,ts.toList with
  | [x],[t]=>match (T.get t).map TI.und,σ.ev x,σ.lenOf (σ.ev x) with
   | some .string,.tv (.str l),_=>some ([],.tv (.int .i64 (l.length:Int)))
   | some (.slice _),_,some n=>some ([],.tv (.int .i64 (n:Int)))
   | _,_,_=>none
  | _,_=>none
 | .call { callee:=.builtin .max,args:=as,.. }=>match as.toList with
  | x :: r=>(match σ.ev x with | .tv (.int k a)=>someCs (maxTV σ false (.tv (.int k a)) r) | _=>none)
  | []=>none
 | .call { callee:=.builtin .min,args:=as,.. }=>match as.toList with
  | x :: r=>(match σ.ev x with | .tv (.int k a)=>someCs (maxTV σ true (.tv (.int k a)) r) | _=>none)
  | []=>none
 | .nilCheck x=>match σ.ev x with
  | .pc o off=>some ([],.pc o off)
  | .rp cs=>some ([],.rp cs)
  | .pe p i j z=>some ([],.pe p i j z)
  | .pa p i j m q z=>some ([],.pa p i j m q z)
  | _=>none
 | _=>none

end Go.Sx

namespace Go.Sx
open Go

section
variable {X:Ctx} {g:Gh} {σ:AState} {a:Act} {w:World} {T:Tab}

theorem cSV_rel (v:Value) (k:Nat):SR g w σ k v (cSV v):=by
 cases v with
 | agg cs =>
  show SR g w σ k (.agg cs) (match cs.toList.all Value.oneCell' with | true=>.agg (cs.toList.map cTV) | false=>.junk)
  cases h:cs.toList.all Value.oneCell'
  ·trivial
  ·refine ⟨cs,rfl,by simp,fun i y hy=>?_⟩
   rw [List.getElem?_map] at hy
   obtain ⟨u,hu,rfl⟩:=Option.map_eq_some_iff.1 hy
   exact ⟨u,by rw [← Array.getElem?_toList]; exact hu,.fr (cTV_rel (by rw [List.all_eq_true] at h; exact h u (List.mem_of_getElem? hu)))⟩
 | tuple vs=>trivial
 | _=>exact .fr (cTV_rel rfl)

theorem ev_rel (hs:Sat X g σ a w) (x:Operand):∃ k,SR g w σ k (a.eval x) (σ.ev x):=by
 cases x with
 | tmp t=>exact ⟨t,hs.env t⟩
 | const v=>exact ⟨0,cSV_rel v 0⟩
 | global b=>exact ⟨0,trivial⟩
 | func f=>exact ⟨0,⟨#[],rfl,rfl,fun j sv h=>by simp at h⟩⟩

theorem rel_int {p:Path} {v:Value} {k:IntKind} {n:Int} (h:TRel g w p v (.int k n)):v = .int k n:=by
 cases h with | fr h=>cases h; rfl

theorem rel_bool {p:Path} {v:Value} {b:Bool} (h:TRel g w p v (.bool b)):v = .bool b:=by
 cases h with | fr h=>cases h; rfl

theorem rel_str {p:Path} {v:Value} {s:List UInt8} (h:TRel g w p v (.str s)):v = .string ⟨s.toArray⟩:=by
 cases h with | fr h=>cases h; rfl

theorem rel_sc {p:Path} {v u:Value} (h:TRel g w p v (.sc u)):v = u:=by
 cases h with | fr h=>cases h; rfl

theorem ev_tv (hs:Sat X g σ a w) {x:Operand} {y:TV} (h:σ.ev x = .tv y):∃ k,TRel g w (.slot k 0,[]) (a.eval x) y:=by
 obtain ⟨k,hk⟩:=ev_rel hs x
 rw [h] at hk
 exact ⟨k,hk⟩

theorem ev_int (hs:Sat X g σ a w) {x:Operand} {k:IntKind} {n:Int} (h:σ.ev x = .tv (.int k n)):a.eval x = .int k n:=by
 obtain ⟨q,hk⟩:=ev_tv hs h; exact rel_int hk

theorem ev_bool (hs:Sat X g σ a w) {x:Operand} {b:Bool} (h:σ.ev x = .tv (.bool b)):a.eval x = .bool b:=by
 obtain ⟨q,hk⟩:=ev_tv hs h; exact rel_bool hk

theorem ev_str (hs:Sat X g σ a w) {x:Operand} {s:List UInt8} (h:σ.ev x = .tv (.str s)):a.eval x = .string ⟨s.toArray⟩:=by
 obtain ⟨q,hk⟩:=ev_tv hs h; exact rel_str hk

theorem ev_sc (hs:Sat X g σ a w) {x:Operand} {v:Value} (h:σ.ev x = .tv (.sc v)):a.eval x = v:=by
 obtain ⟨q,hk⟩:=ev_tv hs h; exact rel_sc hk

/-- What an operand that reads as a slice is. -/
theorem lenOf_rel {k:Nat} {v:Value} {s:SV} {n:Nat} (h:SR g w σ k v s) (hn:σ.lenOf s = some n) :
  ∃ A cap,v = .slice A n cap ∧ (0 < n → A.isNone = false):=by
 cases s with
 | tv x =>
  have hx:TRel g w (.slot k 0,[]) v x:=h
  cases x with
  | fz z m f =>
   simp only [AState.lenOf,Option.some.injEq] at hn; subst hn
   cases hx with
   | fr h=>cases h with
    | nil=>exact ⟨_,_,rfl,by simp⟩
    | row=>exact ⟨_,_,rfl,fun _=>rfl⟩
  | own z e m f =>
   simp only [AState.lenOf,Option.some.injEq] at hn; subst hn
   cases hx with
   | fr h=>cases h
   | nil=>exact ⟨_,_,rfl,by simp⟩
   | own=>exact ⟨_,_,rfl,fun _=>rfl⟩
  | sc u =>
   have:=rel_sc hx
   subst this
   simp only [AState.lenOf] at hn
   split at hn
   ·rename_i e; cases e
   ·rename_i e; cases e
   ·rename_i e; cases e; cases hn; exact ⟨none,0,rfl,by simp⟩
   ·rename_i e; cases e
   ·rename_i e; cases e
   ·cases hn
  | str l=>cases hn
  | int k n=>cases hn
  | bool b=>cases hn
  | hole=>cases hn
  | mp kk vk l=>cases hn
  | fm kk vk l=>cases hn
  | pr l=>cases hn
 | al p =>
  obtain ⟨z,e,m,f,hl,hv⟩:=h
  simp only [AState.lenOf,hl,Option.some.injEq] at hn; subst hn
  rcases hv with ⟨rfl,rfl⟩ | ⟨b,cap,c,_,rfl,_⟩
  ·exact ⟨_,_,rfl,by simp⟩
  ·exact ⟨_,_,rfl,fun _=>rfl⟩
 | cut p lo m =>
  obtain ⟨z,e,n2,f,A,cap,hl,hle,rfl,hm⟩:=h
  simp only [AState.lenOf,Option.some.injEq] at hn; subst hn
  refine ⟨A,cap,rfl,fun h0=>?_⟩
  rcases hm with hm | ⟨b,c0,c,_,rfl,_⟩
  ·omega
  ·rfl
 | _=>cases hn

/-- An operation comes to a value, and memory is as it was. -/
def Comes1 (X:Ctx) (g:Gh) (σ:AState) (a:Act) (w:World) (o:Oper) (sv:SV):Prop :=
 ∃ v,(execOp a.eval o).run X.P w = .ok (.value v) w ∧ (∃ k,SR g w σ k v sv) ∧ sv.pure = true

/-- The same, in whatever world. -/
def Comes0 (X:Ctx) (g:Gh) (σ:AState) (a:Act) (w:World) (o:Oper) (sv:SV):Prop :=
 ∃ v,(∀ w',(execOp a.eval o).run X.P w' = .ok (.value v) w') ∧ (∃ k,SR g w σ k v sv) ∧ sv.pure = true

theorem Comes0.one {o:Oper} {sv:SV} (h:Comes0 X g σ a w o sv):Comes1 X g σ a w o sv:=by
 obtain ⟨v,h1,h2⟩:=h
 exact ⟨v,h1 w,h2⟩

theorem intTV_sound {op:BinOp} {k:IntKind} {x y:Int} {cs:List Prop} {r:TV} (h:intTV op k x y = some (cs,r)) (hc:∀ c ∈ cs,c) :
  ∃ v, (∀ w', (if k ≠ k then (stuck "BinOp: operands of different kinds" : Sem Value) else
   match op with
   | .add | .sub | .mul=>Op.intArith op k x y
   | .quo | .rem=>Op.intDiv op k x y
   | .and | .or | .xor | .andNot=>Op.intBits op k x y
   | _=>Op.intCmp op x y).run X.P w' = .ok v w') ∧ FRel g.P w v r ∧ r.plain = true:=by
 simp only [ne_eq,not_true_eq_false,if_false]
 cases op <;> simp only [intTV,Option.some.injEq,Prod.mk.injEq,reduceCtorEq] at h
 all_goals first
  | (obtain ⟨rfl,rfl⟩:=h)
  | skip
 case quo=>exact ⟨_,fun w'=>by simp [Op.intDiv,hc (y ≠ 0) (by simp)],.int _ _,rfl⟩
 case rem=>exact ⟨_,fun w'=>by simp [Op.intDiv,hc (y ≠ 0) (by simp)],.int _ _,rfl⟩
 all_goals first
  | exact ⟨_,fun _=>rfl,.int _ _,rfl⟩
  | exact ⟨_,fun _=>rfl,.bool _,rfl⟩


theorem shiftTV_sound {op:BinOp} {k yk:IntKind} {x y:Int} {cs:List Prop} {r:TV} (h:shiftTV op k x y = some (cs,r)) (hc:∀ c ∈ cs,c) :
  ∃ v,(∀ w',(Op.shift op k x yk y).run X.P w' = .ok v w') ∧ FRel g.P w v r ∧ r.plain = true:=by
 cases op <;> simp only [shiftTV,Option.some.injEq,Prod.mk.injEq,reduceCtorEq] at h
 all_goals
  obtain ⟨rfl,rfl⟩:=h
  have h0:=hc (0 ≤ y) (by simp)
  exact ⟨_,fun w'=>by rw [Op.shift,if_neg (by omega)]; rfl,.int _ _,rfl⟩

theorem strTV_sound {op:BinOp} {x y:List UInt8} {cs:List Prop} {r:TV} (h:strTV op x y = some (cs,r)) (hc:∀ c ∈ cs,c) :
  ∃ v,(∀ w',(Op.stringOp op ⟨x.toArray⟩ ⟨y.toArray⟩).run X.P w' = .ok v w') ∧ FRel g.P w v r ∧ r.plain = true:=by
 cases op <;> simp only [strTV,Option.some.injEq,Prod.mk.injEq,reduceCtorEq] at h
 case add =>
  obtain ⟨rfl,rfl⟩:=h
  have h0:=hc _ (List.mem_singleton.2 rfl)
  refine ⟨.string (⟨x.toArray⟩ ++ ⟨y.toArray⟩),fun w'=>?_,?_,rfl⟩
  ·simp only [Op.stringOp]
   rw [if_neg (by simp only [ByteArray.size,List.size_toArray,IntKind.max,IntKind.signed,IntKind.bits]; simp; omega)]
   rfl
  ·have:((⟨x.toArray⟩ ++ ⟨y.toArray⟩:ByteArray)) = ⟨(x ++ y).toArray⟩:=by
    rw [ByteArray.ext_iff]; simp [ByteArray.data_append]
   rw [this]
   exact .str _
 all_goals
  obtain ⟨rfl,rfl⟩:=h
  simp only [Op.stringOp,ByteArray.toList_mk]
  exact ⟨_,fun _=>rfl,.bool _,rfl⟩


theorem TabOk.und {P:Program} (hT:TabOk P T) {t:Nat} {d:TypeDesc} (h:(T.get t).map TI.und = some d):P.underlying t = some d:=by
 cases ht:T.get t with
 | none=>simp [ht] at h
 | some ti=>simp [ht] at h; subst h; exact (hT t ti ht).1

theorem agg_plain {k:Nat} {v:Value} {cs:List TV} (h:SR g w σ k v (.agg cs)) (hp:cs.all TV.plain = true) :
  ∃ vs,v = .agg vs ∧ vs.size = cs.length ∧ ∀ (i:Nat) y,cs[i]? = some y → ∃ u,vs[i]? = some u ∧ FRel g.P w u y:=by
 obtain ⟨vs,rfl,hs,hc⟩:=h
 refine ⟨vs,rfl,hs,fun i y hy=>?_⟩
 obtain ⟨u,hu,hr⟩:=hc i y hy
 rw [List.all_eq_true] at hp
 exact ⟨u,hu,hr.plain (hp y (List.mem_of_getElem? hy))⟩

theorem guard_plain {op:BinOp} {t:Nat} {x y:Operand} {u v:Value} (h:∀ xs,u ≠ .agg xs) (h':u ≠ .nilIface) :
  (eqGuard op t x y u v).run X.P w = .ok () w:=by
 unfold eqGuard
 have e:∀ z:Sem Unit,z = pure () → (if (!(match op with | .eql | .neq=>true | _=>false)) = true then pure () else z).run X.P w = .ok () w:=by
  intro z hz
  subst hz
  split <;> rfl
 refine e _ ?_
 cases u <;> first | rfl | exact absurd rfl h' | exact absurd rfl (h _)

theorem equal_bool {P:Program} {t:Nat} (w:World) (h:P.underlying t = some .bool) (p q:Bool):(Op.equal t (.bool p) (.bool q)).run P w = .ok (p == q) w:=by
 show (Op.equalIn (9999 + 1) t (.bool p) (.bool q)).run P w = _
 rw [Op.equalIn,Sem.run_bind,run_underlying h]; rfl

theorem equal_ptr {P:Program} {t e:Nat} (w:World) (h:P.underlying t = some (.pointer e)) (A:Option Addr):(Op.equal t (.pointer A) (.pointer none)).run P w = .ok A.isNone w:=by
 show (Op.equalIn (9999 + 1) t (.pointer A) (.pointer none)).run P w = _
 rw [Op.equalIn,Sem.run_bind,run_underlying h]
 cases A <;> rfl

theorem equal_slice {P:Program} {t e:Nat} (w:World) (h:P.underlying t = some (.slice e)) (A:Option Addr) (n c:Nat):(Op.equal t (.slice A n c) (.slice none 0 0)).run P w = .ok A.isNone w:=by
 show (Op.equalIn (9999 + 1) t (.slice A n c) (.slice none 0 0)).run P w = _
 rw [Op.equalIn,Sem.run_bind,run_underlying h]
 cases A <;> rfl

theorem run_eql {P:Program} {t:Nat} {w:World} {u v:Value} {r:Bool} (hb:binOp .eql t u v = (do pure (.bool (← Op.equal t u v)):Sem Value)) (h:(Op.equal t u v).run P w = .ok r w):(binOp .eql t u v).run P w = .ok (.bool r) w:=by
 rw [hb,Sem.run_bind,h]; rfl

theorem run_neq {P:Program} {t:Nat} {w:World} {u v:Value} {r:Bool} (hb:binOp .neq t u v = (do pure (.bool (!(← Op.equal t u v))):Sem Value)) (h:(Op.equal t u v).run P w = .ok r w):(binOp .neq t u v).run P w = .ok (.bool (!r)) w:=by
 rw [hb,Sem.run_bind,h]; rfl

theorem guard_agg {P:Program} {op:BinOp} {t:Nat} {x y:Operand} {us vs:Array Value} {w:World} (h:P.eqGuardType P.depth t = false) :
  (eqGuard op t x y (.agg us) (.agg vs)).run P w = .ok () w:=by
 cases op <;> simp [eqGuard,h]

theorem binSV_sound (hT:TabOk X.P T) (hs:Sat X g σ a w) {op:BinOp} {t yt:Nat} {x y:Operand} {cs:List Prop} {sv:SV} {o:Oper} (ho:o.op = .binOp op t x y yt)
  (h:binSV T σ op t (σ.ev x) (σ.ev y) = some (cs,sv)) (hc:∀ c ∈ cs,c):Comes0 X g σ a w o sv:=by
 unfold binSV at h
 have fin:∀ {v:Value} {r:TV},(∀ w',((do eqGuard op t x y (a.eval x) (a.eval y); binOp op t (a.eval x) (a.eval y)):Sem Value).run X.P w' = .ok v w') → FRel g.P w v r → r.plain = true → sv = .tv r → Comes0 X g σ a w o sv:=by
  intro v r h1 h2 h3 h4
  subst h4
  refine ⟨v,fun w'=>?_,⟨0,.fr h2⟩,h3⟩
  simp only [execOp,ho]
  rw [Sem.run_bind,h1]
  rfl
 split at h
 ·rename_i k p k' q hx hy
  have ex:=ev_int hs hx
  have ey:=ev_int hs hy
  rw [ex,ey] at fin
  have hg:∀ w,(eqGuard op t x y (.int k p) (.int k' q)).run X.P w = .ok () w:=fun w=>guard_plain (by simp) (by simp)
  split at h
  ·rename_i hsh
   obtain ⟨⟨cs',r⟩,h1,h2⟩:=Option.map_eq_some_iff.1 h
   cases h2
   obtain ⟨v,hv,hr,hp⟩:=shiftTV_sound (X:=X) (g:=g) (w:=w) (yk:=k') h1 hc
   refine fin (v:=v) (r:=r) (fun w=>?_) hr hp rfl
   rw [Sem.run_bind,hg,Result.andThen_ok]
   cases op <;> first | exact hv w | cases hsh
  ·rename_i hsh
   split at h
   ·rename_i hk
    obtain rfl:=of_decide_eq_true hk
    obtain ⟨⟨cs',r⟩,h1,h2⟩:=Option.map_eq_some_iff.1 h
    cases h2
    obtain ⟨v,hv,hr,hp⟩:=intTV_sound (X:=X) (g:=g) (w:=w) h1 hc
    refine fin (v:=v) (r:=r) (fun w=>?_) hr hp rfl
    rw [Sem.run_bind,hg,Result.andThen_ok]
    cases op <;> first | exact hv w | cases hsh
   ·cases h
 ·rename_i p q hx hy
  have ex:=ev_str hs hx
  have ey:=ev_str hs hy
  rw [ex,ey] at fin
  obtain ⟨⟨cs',r⟩,h1,h2⟩:=Option.map_eq_some_iff.1 h
  cases h2
  obtain ⟨v,hv,hr,hp⟩:=strTV_sound (X:=X) (g:=g) (w:=w) h1 hc
  refine fin (v:=v) (r:=r) (fun w=>?_) hr hp rfl
  rw [Sem.run_bind,guard_plain (by simp) (by simp),Result.andThen_ok]
  cases op <;> first | exact hv w | (simp only [strTV] at h1; cases h1)
 ·rename_i p q hx hy
  have ex:=ev_bool hs hx
  have ey:=ev_bool hs hy
  rw [ex,ey] at fin
  split at h
  ·rename_i hu
   cases h
   refine fin (v:=.bool (p == q)) (r:=.bool (p == q)) (fun w=>?_) (.bool _) rfl rfl
   rw [Sem.run_bind,guard_plain (by simp) (by simp),Result.andThen_ok]
   exact run_eql rfl (equal_bool w (hT.und hu) p q)
  ·rename_i hu
   cases h
   refine fin (v:=.bool (!(p == q))) (r:=.bool (!(p == q))) (fun w=>?_) (.bool _) rfl rfl
   rw [Sem.run_bind,guard_plain (by simp) (by simp),Result.andThen_ok]
   exact run_neq rfl (equal_bool w (hT.und hu) p q)
  ·cases h
 ·rename_i xs ys hx hy
  have key:∀ r,(T.get t).map (fun ti=>ti.eq && likes xs (ti.zero.map cTV)) = some true → (xs.all TV.plain && ys.all TV.plain) = true → eqTVs xs ys = some r →
    ∃ us vs,a.eval x = .agg us ∧ a.eval y = .agg vs ∧ (∀ w,(Op.equal t (.agg us) (.agg vs)).run X.P w = .ok r w) ∧ ∀ w,(eqGuard op t x y (.agg us) (.agg vs)).run X.P w = .ok () w:=by
   intro r he hp hr
   rw [Bool.and_eq_true] at hp
   obtain ⟨k1,h1⟩:=ev_rel hs x
   obtain ⟨k2,h2⟩:=ev_rel hs y
   rw [hx] at h1
   rw [hy] at h2
   obtain ⟨us,e1,s1,c1⟩:=agg_plain h1 hp.1
   obtain ⟨vs,e2,s2,c2⟩:=agg_plain h2 hp.2
   cases ht:T.get t with
   | none=>simp [ht] at he
   | some ti =>
    simp only [ht,Option.map_some,Option.some.injEq,Bool.and_eq_true] at he
    obtain ⟨_,i,z,_,_,_,_,_,_,_,_,heq⟩:=hT t ti ht
    obtain ⟨hgd,hrun⟩:=heq he.1
    exact ⟨us,vs,e1,e2,fun w'=>hrun w w' g.P us vs xs ys r s1 s2 c1 c2 he.2 hr,fun _=>guard_agg hgd⟩
  split at h
  ·rename_i he hp hr
   cases h
   obtain ⟨us,vs,e1,e2,hrun,hg⟩:=key _ he hp hr
   rw [e1,e2] at fin
   refine fin (v:=.bool _) (r:=.bool _) (fun w=>?_) (.bool _) rfl rfl
   rw [Sem.run_bind,hg,Result.andThen_ok]
   exact run_eql rfl (hrun w)
  ·rename_i he hp hr
   cases h
   obtain ⟨us,vs,e1,e2,hrun,hg⟩:=key _ he hp hr
   rw [e1,e2] at fin
   refine fin (v:=.bool _) (r:=.bool _) (fun w=>?_) (.bool _) rfl rfl
   rw [Sem.run_bind,hg,Result.andThen_ok]
   exact run_neq rfl (hrun w)
  ·cases h
 ·rename_i ob off hx hy
  have ey:=ev_sc hs hy
  obtain ⟨k1,h1⟩:=ev_rel hs x
  rw [hx] at h1
  obtain ⟨ex,_⟩:=(show S1 g w σ k1 0 (a.eval x) (.pc ob off) from h1)
  rw [ex,ey] at fin
  split at h
  ·rename_i e hu
   cases h
   refine fin (v:=.bool false) (r:=.bool false) (fun w=>?_) (.bool _) rfl rfl
   rw [Sem.run_bind,guard_plain (by simp) (by simp),Result.andThen_ok]
   exact run_eql rfl (equal_ptr w (hT.und hu) _)
  ·rename_i e hu
   cases h
   refine fin (v:=.bool true) (r:=.bool true) (fun w=>?_) (.bool _) rfl rfl
   rw [Sem.run_bind,guard_plain (by simp) (by simp),Result.andThen_ok]
   exact run_neq rfl (equal_ptr w (hT.und hu) _)
  ·cases h
 ·rename_i cells hx hy
  have ey:=ev_sc hs hy
  obtain ⟨k1,h1⟩:=ev_rel hs x
  rw [hx] at h1
  obtain ⟨b0,off0,ex,_⟩:=(show S1 g w σ k1 0 (a.eval x) (.rp cells) from h1)
  rw [ex,ey] at fin
  split at h
  ·rename_i e hu
   cases h
   refine fin (v:=.bool false) (r:=.bool false) (fun w=>?_) (.bool _) rfl rfl
   rw [Sem.run_bind,guard_plain (by simp) (by simp),Result.andThen_ok]
   exact run_eql rfl (equal_ptr w (hT.und hu) _)
  ·rename_i e hu
   cases h
   refine fin (v:=.bool true) (r:=.bool true) (fun w=>?_) (.bool _) rfl rfl
   rw [Sem.run_bind,guard_plain (by simp) (by simp),Result.andThen_ok]
   exact run_neq rfl (equal_ptr w (hT.und hu) _)
  ·cases h
 ·rename_i hx hy
  have ex:=ev_sc hs hx
  have ey:=ev_sc hs hy
  rw [ex,ey] at fin
  split at h
  ·rename_i e hu
   cases h
   refine fin (v:=.bool true) (r:=.bool true) (fun w=>?_) (.bool _) rfl rfl
   rw [Sem.run_bind,guard_plain (by simp) (by simp),Result.andThen_ok]
   exact run_eql rfl (equal_slice w (hT.und hu) none 0 0)
  ·rename_i e hu
   cases h
   refine fin (v:=.bool false) (r:=.bool false) (fun w=>?_) (.bool _) rfl rfl
   rw [Sem.run_bind,guard_plain (by simp) (by simp),Result.andThen_ok]
   exact run_neq rfl (equal_slice w (hT.und hu) none 0 0)
  ·cases h
 ·rename_i hx hy
  have ex:=ev_sc hs hx
  have ey:=ev_sc hs hy
  rw [ex,ey] at fin
  split at h
  ·rename_i e hu
   cases h
   refine fin (v:=.bool true) (r:=.bool true) (fun w=>?_) (.bool _) rfl rfl
   rw [Sem.run_bind,guard_plain (by simp) (by simp),Result.andThen_ok]
   exact run_eql rfl (equal_ptr w (hT.und hu) _)
  ·rename_i e hu
   cases h
   refine fin (v:=.bool false) (r:=.bool false) (fun w=>?_) (.bool _) rfl rfl
   rw [Sem.run_bind,guard_plain (by simp) (by simp),Result.andThen_ok]
   exact run_neq rfl (equal_ptr w (hT.und hu) _)
  ·cases h
 ·rename_i hy _
  have ey:=ev_sc hs hy
  obtain ⟨k1,h1⟩:=ev_rel hs x
  split at h
  ·rename_i e n hu hn
   cases h
   have hpos:=hc (0 < n) (by simp)
   obtain ⟨A,cap,ex,hA⟩:=lenOf_rel h1 hn
   rw [ex,ey] at fin
   cases A with
   | none=>exact absurd (hA hpos) (by simp)
   | some A =>
    refine fin (v:=.bool false) (r:=.bool false) (fun w=>?_) (.bool _) rfl rfl
    rw [Sem.run_bind,guard_plain (by simp) (by simp),Result.andThen_ok]
    exact run_eql rfl (equal_slice w (hT.und hu) _ _ _)
  ·rename_i e n hu hn
   cases h
   have hpos:=hc (0 < n) (by simp)
   obtain ⟨A,cap,ex,hA⟩:=lenOf_rel h1 hn
   rw [ex,ey] at fin
   cases A with
   | none=>exact absurd (hA hpos) (by simp)
   | some A =>
    refine fin (v:=.bool true) (r:=.bool true) (fun w=>?_) (.bool _) rfl rfl
    rw [Sem.run_bind,guard_plain (by simp) (by simp),Result.andThen_ok]
    exact run_neq rfl (equal_slice w (hT.und hu) _ _ _)
  ·cases h
 ·cases h

end
end Go.Sx

namespace Go.Sx
open Go

section
variable {X:Ctx} {g:Gh} {σ:AState} {a:Act} {w:World} {T:Tab}

/-- A name of an owned slice reads as it does. -/
theorem al_of_own {p:Path} {v:Value} {z:Nat} {e:TypeId} {n:Nat} {f:Nat → List TV} (hl:σ.look p = some (.own z e n f)) (h:TRel g w p v (.own z e n f)) (k j:Nat):S1 g w σ k j v (.al p):=by
 refine ⟨z,e,n,f,hl,?_⟩
 rcases own_inv h with h | ⟨b,cap,c,cs,h1,h2,h3,h4,h5,h6,_⟩
 ·exact .inl h
 ·exact .inr ⟨b,cap,c,h1,h2,h3,h4,h5,h6⟩

theorem isOwn_iff {s:SV}:s.isOwn = true ↔ ∃ z e n f,s = .tv (.own z e n f):=by
 constructor
 ·intro h
  unfold SV.isOwn at h
  split at h
  ·exact ⟨_,_,_,_,rfl⟩
  ·cases h
 ·rintro ⟨z,e,n,f,rfl⟩; rfl

theorem move_sound (hs:Sat X g σ a w) {x:Operand} {cs:List Prop} {sv:SV} {o:Oper} (ho:o.op = .move x)
  (h:evalPure T σ (.move x) = some (cs,sv)):Comes0 X g σ a w o sv:=by
 have hrun:∀ w,(execOp a.eval o).run X.P w = .ok (.value (a.eval x)) w:=fun w=>by simp only [execOp,ho]; rfl
 simp only [evalPure] at h
 split at h
 ·rename_i hp
  cases h
  exact ⟨_,hrun,ev_rel hs x,hp⟩
 ·split at h
  ·rename_i t _ ho
   cases h
   obtain ⟨z,e,n,f,hx'⟩:=isOwn_iff.1 ho
   have ht:=hs.env t
   rw [show σ.get t = .tv (.own z e n f) from hx'] at ht
   have hl:σ.look (.slot t 0,[]) = some (.own z e n f):=by simp only [AState.look,AState.rootTV,show σ.get t = .tv (.own z e n f) from hx',List.foldr_nil]
   exact ⟨_,hrun,⟨0,al_of_own hl ht 0 0⟩,rfl⟩
  ·rename_i t _ ho
   split at h
   ·rename_i hm
    cases h
    have ht:=hs.env t
    have hx':∃ kk vk l,σ.get t = .tv (.mp kk vk l):=by
     have hm':SV.isMap (σ.get t) = true:=hm
     revert hm'
     generalize σ.get t = s
     intro hm'
     cases s with
     | tv y=>cases y with
      | mp kk vk l=>exact ⟨kk,vk,l,rfl⟩
      | _=>cases hm'
     | _=>cases hm'
    obtain ⟨kk,vk,l,hx'⟩:=hx'
    rw [hx'] at ht
    have ht':TRel g w (.slot t 0,[]) (a.eval (.tmp t)) (.mp kk vk l):=ht
    revert hrun
    generalize a.eval (.tmp t) = v at ht'
    intro hrun
    cases ht' with
    | fr h=>cases h
    | mp b _ _ _ es clock h1 h2 h3=>exact ⟨_,hrun,⟨0,⟨b,h1,rfl,fun o e=>by cases e⟩⟩,rfl⟩
   ·cases h
  ·cases h

theorem assign_sound (hs:Sat X g σ a w) {x:Operand} {cs:List Prop} {sv:SV} {o:Oper} (ho:o.op = .assign x)
  (h:evalPure T σ (.assign x) = some (cs,sv)):Comes0 X g σ a w o sv:=by
 have hrun:∀ w,(execOp a.eval o).run X.P w = .ok (.value (a.eval x)) w:=fun w=>by simp only [execOp,ho]; rfl
 simp only [evalPure] at h
 split at h
 ·rename_i hp
  cases h
  exact ⟨_,hrun,ev_rel hs x,hp⟩
 ·cases h

theorem pickSV_true (x y:SV):pickSV true x y = x:=by
 unfold pickSV
 split <;> first | rfl | (split <;> rfl)

theorem pickSV_false (x y:SV):pickSV false x y = y:=by
 unfold pickSV
 split
 ·rfl
 ·split
  ·rename_i h; obtain rfl:=of_decide_eq_true h; rfl
  ·rfl
 ·rfl
 ·rfl

theorem pickSV_rel {b:Bool} {x y:SV} {u v:Value} {k1 k2:Nat} (hx:SR g w σ k1 u x) (hy:SR g w σ k2 v y) :
  ∃ k,SR g w σ k (if b then u else v) (pickSV b x y):=by
 cases b
 ·rw [pickSV_false]; exact ⟨k2,hy⟩
 ·rw [pickSV_true]; exact ⟨k1,hx⟩

theorem pick_sound (hs:Sat X g σ a w) {c x y:Operand} {cs:List Prop} {sv:SV} {o:Oper} (ho:o.op = .pick c x y)
  (h:evalPure T σ (.pick c x y) = some (cs,sv)):Comes0 X g σ a w o sv:=by
 simp only [evalPure] at h
 split at h
 ·rename_i e hc
  split at h
  ·rename_i hp
   cases h
   have ec:=ev_bool hs hc
   obtain ⟨k1,h1⟩:=ev_rel hs x
   obtain ⟨k2,h2⟩:=ev_rel hs y
   refine ⟨_,fun _=>?_,pickSV_rel h1 h2,hp⟩
   simp only [execOp,ho,ec]
   rfl
  ·cases h
 ·cases h

/-- Cells that lie one behind the other in memory. -/
def CellsAt (g:Gh) (w:World) (A:Addr) (cs:List TV):Prop :=
 ∀ (i:Nat) y,cs[i]? = some y → y.plain = true → ∃ u,w.cell? (A.add i) = some u ∧ FRel g.P w u y

theorem add_mk (b off i:Nat):(⟨b,off,none⟩:Addr).add i = ⟨b,off + i,none⟩:=by
 unfold Addr.add
 split <;> simp_all

theorem Sat.root (hs:Sat X g σ a w) {r:Root} {x:TV} (h:σ.rootTV r = some x):∃ v,TRel g w (r,[]) v x:=by
 cases r with
 | slot k j =>
  have hk:=hs.env k
  simp only [AState.rootTV] at h
  split at h
  ·rename_i y hy
   rw [hy] at hk
   split at h
   ·cases h; exact ⟨_,hk⟩
   ·cases h
  ·rename_i cs hy
   rw [hy] at hk
   obtain ⟨vs,_,_,hc⟩:=hk
   obtain ⟨u,_,hr⟩:=hc j x h
   exact ⟨u,hr⟩
  ·rename_i vs hy
   rw [hy] at hk
   obtain ⟨us,_,_,hc⟩:=hk
   simp only [tupAt] at h
   split at h
   ·rename_i y hj
    cases h
    obtain ⟨u,_,hr⟩:=hc j _ hj
    exact ⟨u,hr⟩
   ·cases h
  ·cases h
 | cell o off =>
  simp only [AState.rootTV] at h
  split at h
  ·rename_i t cs ho
   obtain ⟨c,_,_,_,hc⟩:=hs.heap o t cs ho
   obtain ⟨u,_,hr⟩:=hc off x h
   exact ⟨u,hr⟩
  ·cases h
 | obj o=>cases h

theorem Sat.own_at (hs:Sat X g σ a w) {p:Path} {x:TV} (h:σ.look p = some x):∃ v,TRel g w p v x:=by
 obtain ⟨r,st⟩:=p
 induction st generalizing x with
 | nil=>exact hs.root h
 | cons ij st ih =>
  have h':((σ.look (r,st)).bind (elemTV ij)) = some x:=h
  obtain ⟨y,hy,he⟩:=Option.bind_eq_some_iff.1 h'
  obtain ⟨v,hv⟩:=ih hy
  unfold elemTV at he
  split at he
  ·rename_i z e n f
   split at he
   ·rename_i hi
    have hi':=of_decide_eq_true hi
    rcases own_inv hv with ⟨_,h0⟩ | ⟨b,cap,c,cs,_,_,_,_,_,_,_,_,h9⟩
    ·omega
    ·exact ⟨_,h9 ij.1 ij.2 x hi' he⟩
   ·cases he
  ·cases he

/-- What an address that can be read says. -/
theorem selInt_at:∀ {cs:List TV} {k:IntKind} {l:List Int},selInt cs = some (k,l) → ∀ q,q < l.length → cs[q]? = some (.int k (l.getD q 0))
 | [],k,l,h,q,hq=>by simp [selInt] at h
 | [x],k,l,h,q,hq=>by
  cases x <;> simp only [selInt] at h <;> try (cases h; done)
  cases h
  have:q = 0:=by simpa using hq
  subst this; rfl
 | x :: y :: r,k,l,h,q,hq=>by
  cases x <;> simp only [selInt] at h <;> try (cases h; done)
  split at h
  ·rename_i k' l' hs
   split at h
   ·rename_i hk
    cases h
    obtain rfl:=of_decide_eq_true hk
    cases q with
    | zero=>rfl
    | succ q =>
     have:=selInt_at hs q (by simpa using hq)
     simpa using this
   ·cases h
  ·cases h

theorem cellsAt_rel (hs:Sat X g σ a w) {k:Nat} {v:Value} {s:SV} {n:Nat} {cs:List TV} (h:SR g w σ k v s) (hc:σ.cellsAt n s = some cs) :
  ∃ b off,v = .pointer (some ⟨b,off,none⟩) ∧ CellsAt g w ⟨b,off,none⟩ cs:=by
 cases s with
 | rp cs0 =>
  simp only [AState.cellsAt,Option.some.injEq] at hc
  subst hc
  obtain ⟨b,off,hv,_,hcell⟩:=h
  refine ⟨b,off,hv,fun i y hy _=>?_⟩
  rw [add_mk]
  exact hcell i y (by rw [List.getElem?_take] at hy; split at hy <;> simp_all)
 | pc o off =>
  simp only [AState.cellsAt] at hc
  split at hc
  ·rename_i t cells hh
   simp only [Option.some.injEq] at hc
   subst hc
   obtain ⟨hv,_⟩:=h
   refine ⟨g.m o,off,hv,fun i y hy hp=>?_⟩
   obtain ⟨c,h1,_,_,h4⟩:=hs.heap o t cells hh
   have hy':cells[off + i]? = some y:=by
    rw [List.getElem?_take] at hy
    split at hy
    ·rw [List.getElem?_drop] at hy; exact hy
    ·cases hy
   obtain ⟨u,hu,hr⟩:=h4 _ y hy'
   refine ⟨u,?_,hr.plain hp⟩
   rw [add_mk]
   exact (cell_of_row w (g.m o) (off + i) c t (0,0) h1).trans hu
  ·cases hc
 | pe p i j z =>
  simp only [AState.cellsAt] at hc
  split at hc
  ·rename_i z' e n' f hl
   split at hc
   ·rename_i hz
    obtain rfl:z = z':=Nat.eq_of_beq_eq_true hz
    simp only [Option.some.injEq] at hc
    subst hc
    obtain ⟨b,e2,n2,f2,hl2,hi,hb,hv⟩:=h
    rw [hl] at hl2
    cases hl2
    refine ⟨b,i * z + j,hv,fun q y hy hp=>?_⟩
    have hy':(f i)[j + q]? = some y:=by
     rw [List.getElem?_take] at hy
     split at hy
     ·rw [List.getElem?_drop] at hy; exact hy
     ·cases hy
    obtain ⟨v',hr⟩:=(show ∃ v',TRel g w p v' (.own z e n' f) from hs.own_at hl)
    rcases own_inv hr with ⟨_,h0⟩ | ⟨b',cap,c,cs',h1,_,h3,_,_,_,_,h8,h9⟩
    ·omega
    ·obtain rfl:=hs.inj b b' p hb h1
     refine ⟨cs' i (j + q),?_,(h9 i (j + q) y hi hy').plain hp⟩
     rw [add_mk,Nat.add_assoc]
     exact (h3.cell (i * z + (j + q))).trans (h8 i (j + q) y hi hy')
   ·cases hc
  ·cases hc
 | pa p i j m qq z =>
  simp only [AState.cellsAt] at hc
  split at hc
  ·rename_i z' e n' f hl
   split at hc
   ·rename_i k l hz hsel
    split at hc
    ·rename_i hlen
     simp only [Bool.and_eq_true] at hz
     obtain rfl:z = z':=Nat.eq_of_beq_eq_true hz.1
     have hlen:=Nat.eq_of_beq_eq_true hlen
     simp only [Option.some.injEq] at hc
     subst hc
     obtain ⟨b,e2,n2,f2,hl2,hi,hb,hv,hqm⟩:=h
     rw [hl] at hl2
     cases hl2
     refine ⟨b,i * z + (j + qq),hv,fun q y hy hp=>?_⟩
     cases q with
     | succ q=>simp at hy
     | zero =>
      simp only [List.getElem?_cons_zero,Option.some.injEq] at hy
      subst hy
      have hy':(f i)[j + qq]? = some (.int k (l.getD qq 0)):=by
       have:=selInt_at hsel qq (by omega)
       rw [List.getElem?_take,if_pos hqm,List.getElem?_drop] at this
       exact this
      obtain ⟨v',hr⟩:=(show ∃ v',TRel g w p v' (.own z e n' f) from hs.own_at hl)
      rcases own_inv hr with ⟨_,h0⟩ | ⟨b',cap,c,cs',h1,_,h3,_,_,_,_,h8,h9⟩
      ·omega
      ·obtain rfl:=hs.inj b b' p hb h1
       refine ⟨cs' i (j + qq),?_,(h9 i (j + qq) _ hi hy').plain hp⟩
       rw [add_mk,Nat.add_zero]
       exact (h3.cell (i * z + (j + qq))).trans (h8 i (j + qq) _ hi hy')
    ·cases hc
   ·cases hc
  ·cases hc
 | _=>cases hc

end
end Go.Sx

namespace Go.Sx
open Go

section
variable {X:Ctx} {g:Gh} {σ:AState} {a:Act} {w:World} {T:Tab}

theorem exists_list {p:Nat → Value → Prop}:∀ (n:Nat),(∀ i,i < n → ∃ v,p i v) → ∃ vs:List Value,vs.length = n ∧ ∀ (i:Nat) v,vs[i]? = some v → p i v
 | 0,_=>⟨[],rfl,fun i v h=>by simp at h⟩
 | n + 1,h=>by
  obtain ⟨vs,hl,hv⟩:=exists_list n fun i hi=>h i (by omega)
  obtain ⟨v,hp⟩:=h n (by omega)
  refine ⟨vs ++ [v],by simp [hl],fun i u hu=>?_⟩
  by_cases hi:i < vs.length
  ·rw [List.getElem?_append_left hi] at hu; exact hv i u hu
  ·rw [List.getElem?_append_right (by omega)] at hu
   obtain rfl:i = n:=by
    have:i - vs.length < 1:=by
     by_cases h1:i - vs.length < 1
     ·exact h1
     ·rw [List.getElem?_eq_none (by simp; omega)] at hu; cases hu
    omega
   rw [hl,Nat.sub_self] at hu
   cases hu
   exact hp

theorem run_isAgg {P:Program} {t:TypeId} {d:TypeDesc} (h:P.underlying t = some d) (w:World):(isAgg t).run P w = .ok (isAggD d) w:=by
 unfold isAgg
 rw [Sem.run_bind,run_underlying h]
 cases d <;> rfl

theorem run_size {P:Program} {t:TypeId} {i:TypeInfo} (h:P.info? t = some i) (w:World):(sizeOf t).run P w = .ok i.size w:=by
 rw [run_sizeOf w h]; simp [Program.cellsOf,h]

/-- Cells that can be read, as a value. -/
theorem loadVar_sound {P:Program} {t:TypeId} {ti:TI} (hti:TIOk P t ti) {A:Addr} {cs:List TV} {s:SV} (hA:CellsAt g w A cs) (hc:ofCells (isAggD ti.und) ti.size cs = some s) :
  ∃ v,(∀ w',(∀ i,w'.cell? (A.add i) = w.cell? (A.add i)) → (loadVar t A).run P w' = .ok v w') ∧ SR g w σ 0 v s ∧ s.pure = true:=by
 obtain ⟨hu,i,z,hi,hsz,hby,hz,hzc,hzl,hz1,hag,_⟩:=hti
 unfold loadVar
 simp only [Sem.run_bind,run_isAgg hu,Result.andThen_ok]
 unfold ofCells at hc
 cases hb:Nat.beq cs.length ti.size && cs.all TV.plain with
 | false=>rw [hb] at hc; cases hc
 | true =>
  rw [hb] at hc
  rw [Bool.and_eq_true] at hb
  obtain ⟨hlen,hp⟩:=hb
  have hl:cs.length = ti.size:=Nat.eq_of_beq_eq_true hlen
  have hp':=hp
  rw [List.all_eq_true] at hp'
  cases hagg:isAggD ti.und with
  | true =>
   rw [hagg] at hc
   cases hc
   simp only [if_true]
   obtain ⟨vs,hvl,hvs⟩:=exists_list (p:=fun i v=>w.cell? (A.add i) = some v ∧ ∀ y,cs[i]? = some y → FRel g.P w v y) cs.length fun i hi=>by
    obtain ⟨u,hu,hr⟩:=hA i cs[i] (by simp [hi]) (hp' _ (List.getElem_mem hi))
    exact ⟨u,hu,fun y hy=>by rw [List.getElem?_eq_getElem hi] at hy; cases hy; exact hr⟩
   refine ⟨.agg vs.toArray,fun w' hw=>?_,⟨vs.toArray,rfl,by simp [hvl],fun i y hy=>?_⟩,hp⟩
   ·rw [Sem.run_bind,run_size hi,Result.andThen_ok,hsz,← hl,← hvl,Sem.run_bind,run_loadCells_list w' A vs fun j v hv=>(hw j).trans (hvs j v hv).1]
    rfl
   ·have hi':i < cs.length:=by
     by_cases h:i < cs.length
     ·exact h
     ·rw [List.getElem?_eq_none (by omega)] at hy; cases hy
    have hv:vs[i]? = some vs[i]:=List.getElem?_eq_getElem (by omega)
    exact ⟨vs[i],by simp,.fr ((hvs i _ hv).2 y hy)⟩
  | false =>
   rw [hagg] at hc
   simp only at hc
   split at hc
   ·rename_i x
    cases hc
    have hpx:x.plain = true:=hp' x (by simp)
    obtain ⟨u,hu,hr⟩:=hA 0 x rfl hpx
    refine ⟨u,fun w' hw=>?_,.fr hr,hpx⟩
    have h0:A.add 0 = A:=by simp [Addr.add]
    have hw0:=hw 0
    rw [h0] at hu hw0
    simp only [Bool.false_eq_true,if_false]
    rw [run_load,hw0,hu]
   ·cases hc

theorem unref_rel {k:Nat} {v:Value} {s:SV} (h:SR g w σ k v s):SR g w σ k v (unref s):=by
 unfold unref
 split
 ·rename_i cs
  cases (TRel.plain (g:=g) (p:=(.slot k 0,[])) (x:=.pr cs) h rfl) with
  | ptr b off _ ds h1 h2 h3=>exact ⟨b,off,rfl,h1,fun i y hy=>⟨ds i,h2 i y hy,h3 i y hy⟩⟩
 ·exact h

theorem unref_pure {s:SV} (h:s.pure = true):(unref s).pure = true:=by
 unfold unref
 split
 ·rfl
 ·exact h

theorem load_sound (hT:TabOk X.P T) (hs:Sat X g σ a w) {t:TypeId} {x:Operand} {cs:List Prop} {sv:SV} {o:Oper} (ho:o.op = .load t x)
  (h:evalPure T σ (.load t x) = some (cs,sv)):Comes1 X g σ a w o sv:=by
 simp only [evalPure] at h
 split at h
 ·rename_i ti hti
  split at h
  ·rename_i cells hcells
   obtain ⟨k,hk⟩:=ev_rel hs x
   obtain ⟨b,off,hv,hA⟩:=cellsAt_rel hs hk hcells
   split at h
   ·rename_i s hof
    cases h
    obtain ⟨v,hrun,hr,hp⟩:=loadVar_sound (σ:=σ) (hT t ti hti) hA hof
    refine ⟨v,?_,⟨0,unref_rel hr⟩,unref_pure hp⟩
    simp only [execOp,ho,Instr.loadAt,hv,Instr.sureAddr,pure_bind]
    rw [Sem.run_bind,hrun w fun _=>rfl]; rfl
   ·split at h
    ·rename_i o' off' hx hag how
     cases h
     have hx':=hk
     rw [hx] at hx'
     obtain ⟨hv',_⟩:=(show S1 g w σ k 0 (a.eval x) (.pc o' off') from hx')
     simp only [hx,AState.cellsAt] at hcells
     split at hcells
     ·rename_i t' cs' hh
      simp only [Option.some.injEq] at hcells
      obtain ⟨c,h1,_,_,h4⟩:=hs.heap o' t' cs' hh
      unfold ownCell at how
      split at how
      ·rename_i z e n f _
       have hy:cs'[off']? = some (.own z e n f):=by
        have:((cs'.drop off').take ti.size)[0]? = some (.own z e n f):=by rw [hcells]; rfl
        rw [List.getElem?_take] at this
        split at this
        ·rw [List.getElem?_drop,Nat.add_zero] at this; exact this
        ·cases this
       obtain ⟨u,hu,hr⟩:=h4 off' _ hy
       have hl:σ.look (.cell o' off',[]) = some (.own z e n f):=by simp only [AState.look,AState.rootTV,hh,List.foldr_nil]; exact hy
       refine ⟨u,?_,⟨0,al_of_own hl hr 0 0⟩,rfl⟩
       obtain ⟨hu',_⟩:=hT t ti hti
       simp only [execOp,ho,Instr.loadAt,hv',Instr.sureAddr,pure_bind,loadVar]
       rw [Sem.run_bind,Sem.run_bind,run_isAgg hu',Result.andThen_ok,hag]
       simp only [Bool.false_eq_true,if_false]
       rw [run_load,cell_of_row w (g.m o') off' c t' (0,0) h1,hu]
       rfl
      ·cases how
     ·cases hcells
    ·rename_i p i j zz hx hag how
     cases h
     have hx':=hk
     rw [hx] at hx'
     obtain ⟨bb,e,n,f,hl,hi,hb,hv'⟩:=(show S1 g w σ k 0 (a.eval x) (.pe p i j zz) from hx')
     simp only [hx,AState.cellsAt,hl] at hcells
     split at hcells
     ·rename_i hzz
      simp only [Option.some.injEq] at hcells
      unfold ownCell at how
      split at how
      ·rename_i z1 e1 n1 f1 _
       have hy:(f i)[j]? = some (.own z1 e1 n1 f1):=by
        have:(((f i).drop j).take ti.size)[0]? = some (.own z1 e1 n1 f1):=by rw [hcells]; rfl
        rw [List.getElem?_take] at this
        split at this
        ·rw [List.getElem?_drop,Nat.add_zero] at this; exact this
        ·cases this
       obtain ⟨v0,hr0⟩:=(show ∃ v',TRel g w p v' (.own zz e n f) from hs.own_at hl)
       rcases own_inv hr0 with ⟨_,h0⟩ | ⟨b',cap,c,cs',h1,_,h3,_,_,_,_,h8,h9⟩
       ·omega
       obtain rfl:=hs.inj bb b' p hb h1
       obtain ⟨r,st⟩:=p
       have hl2:σ.look (r,(i,j) :: st) = some (.own z1 e1 n1 f1):=by
        have hl':σ.look (r,st) = some (.own zz e n f):=hl
        show (σ.look (r,st)).bind (elemTV (i,j)) = _
        rw [hl',Option.bind_some]
        simp only [elemTV,hi,decide_true]
        exact hy
       refine ⟨cs' i j,?_,⟨0,al_of_own hl2 (h9 i j _ hi hy) 0 0⟩,rfl⟩
       obtain ⟨hu',_⟩:=hT t ti hti
       simp only [execOp,ho,Instr.loadAt,hv',Instr.sureAddr,pure_bind,loadVar]
       rw [Sem.run_bind,Sem.run_bind,run_isAgg hu',Result.andThen_ok,hag]
       simp only [Bool.false_eq_true,if_false]
       rw [run_load,(h3.cell (i * zz + j)).trans (h8 i j _ hi hy)]
       rfl
      ·cases how
     ·cases hcells
    ·cases h
  ·split at h
   ·rename_i o' off' _ hx hund
    cases h
    obtain ⟨k,hk⟩:=ev_rel hs x
    rw [hx] at hk
    obtain ⟨b,hv,hb,hc,hl⟩:=(show S1 g w σ k 0 (a.eval x) (.rpc o' off') from hk)
    refine ⟨.pointer (some ⟨g.m o',off',none⟩),?_,⟨0,rfl,hl⟩,rfl⟩
    obtain ⟨hu',_⟩:=hT t ti hti
    simp only [execOp,ho,Instr.loadAt,hv,Instr.sureAddr,pure_bind,loadVar]
    rw [Sem.run_bind,Sem.run_bind,run_isAgg hu',Result.andThen_ok,hund]
    simp only [isAggD,Bool.false_eq_true,if_false]
    rw [run_load,hc]
    rfl
   ·cases h
 ·cases h

/-- A load of what lies still, in whatever world that holds it still. -/
theorem load_still (hT:TabOk X.P T) (hs:Sat X g σ a w) {t:TypeId} {x:Operand} {cs:List Prop} {sv:SV} {o:Oper} (ho:o.op = .load t x)
  (h:evalPure T σ (.load t x) = some (cs,sv)) {cells0:List TV} (hx:σ.ev x = .rp cells0) :
  ∃ v,(∀ w',(∀ b,g.P b → w'.heap[b]? = w.heap[b]?) → (execOp a.eval o).run X.P w' = .ok (.value v) w') ∧ (∃ k,SR g w σ k v sv) ∧ sv.pure = true:=by
 simp only [evalPure] at h
 split at h
 ·rename_i ti hti
  split at h
  ·rename_i cells hcells
   obtain ⟨k,hk⟩:=ev_rel hs x
   obtain ⟨b,off,hv,hA⟩:=cellsAt_rel hs hk hcells
   rw [hx] at hk
   obtain ⟨b',off',hv',hb',_⟩:=hk
   rw [hv] at hv'
   injection hv' with hv'
   injection hv' with hv'
   injection hv' with e1 e2
   subst e1
   split at h
   ·rename_i s hof
    cases h
    obtain ⟨v,hrun,hr,hp⟩:=loadVar_sound (σ:=σ) (hT t ti hti) hA hof
    refine ⟨v,fun w' hw=>?_,⟨0,unref_rel hr⟩,unref_pure hp⟩
    simp only [execOp,ho,Instr.loadAt,hv,Instr.sureAddr,pure_bind]
    rw [Sem.run_bind,hrun w' fun i=>?_]; rfl
    rw [add_mk]
    exact World.cell?_of_block (w:=w) (w':=w') (a:=⟨b,off + i,none⟩) (hw b hb')
   ·split at h
    ·rename_i o' off' hx' _ _
     rw [hx] at hx'
     cases hx'
    ·rename_i p' i' j' z' hx' _ _
     rw [hx] at hx'
     cases hx'
    ·cases h
  ·split at h
   ·rename_i o' off' _ hx' _
    rw [hx] at hx'
    cases hx'
   ·cases h
 ·cases h

end
end Go.Sx

namespace Go.Sx
open Go

section
variable {X:Ctx} {g:Gh} {σ:AState} {a:Act} {w:World} {T:Tab}

theorem TabOk.info {P:Program} (hT:TabOk P T) {t n:Nat} (h:T.size t = some n):∃ i,P.info? t = some i ∧ i.size = n:=by
 unfold Tab.size at h
 cases ht:T.get t with
 | none=>simp [ht] at h
 | some ti =>
  simp [ht] at h
  obtain ⟨_,i,_,hi,hs,_⟩:=hT t ti ht
  exact ⟨i,hi,hs.trans h⟩

theorem fieldAt_run {P:Program} {t:TypeId} {fs:Array Field} {f:Nat} {fd:Field} {b off:Nat} (hu:P.underlying t = some (.struct fs)) (hf:fs[f]? = some fd)
  {i:TypeInfo} (hi:P.info? fd.type = some i) (h0:i.size ≠ 0) (w:World) :
  (Instr.fieldAt t (.pointer (some ⟨b,off,none⟩)) f).run P w = .ok (.pointer (some ⟨b,off + fd.offset,none⟩)) w:=by
 unfold Instr.fieldAt
 rw [Sem.run_bind,run_underlying hu,Result.andThen_ok]
 simp only [hf,Instr.sureAddr,pure_bind,fieldPlace]
 rw [Sem.run_bind,Sem.run_bind,run_size hi,Result.andThen_ok,if_neg h0,Sem.run_pure,Result.andThen_ok,add_mk]
 rfl

theorem fieldAddr_sound (hT:TabOk X.P T) (hs:Sat X g σ a w) {t:TypeId} {x:Operand} {f:Nat} {cs:List Prop} {sv:SV} {o:Oper} (ho:o.op = .fieldAddr t x f)
  (h:evalPure T σ (.fieldAddr t x f) = some (cs,sv)):Comes0 X g σ a w o sv:=by
 simp only [evalPure] at h
 split at h
 ·rename_i ti hti
  split at h
  ·rename_i fs hund
   split at h
   ·rename_i fd hfd
    have hu:X.P.underlying t = some (.struct fs):=by rw [← hund]; exact (hT t ti hti).1
    obtain ⟨k,hk⟩:=ev_rel hs x
    have fin:∀ {b off:Nat} {s:SV} {n:Nat},T.size fd.type = some (n + 1) → a.eval x = .pointer (some ⟨b,off,none⟩) →
      (∃ k,SR g w σ k (.pointer (some ⟨b,off + fd.offset,none⟩)) s) → s.pure = true → Comes0 X g σ a w o s:=by
     intro b off s n hn hx hr hp
     obtain ⟨i,hi,hsz⟩:=hT.info hn
     refine ⟨_,fun _=>?_,hr,hp⟩
     simp only [execOp,ho,hx]
     rw [Sem.run_bind,fieldAt_run hu hfd hi (by omega)]
     rfl
    split at h
    ·rename_i n cells hn hx
     cases h
     rw [hx] at hk
     obtain ⟨b,off,hv,hb,hc⟩:=hk
     exact fin hn hv ⟨0,b,off + fd.offset,rfl,hb,fun i y hy=>by
      rw [List.getElem?_drop] at hy
      obtain ⟨u,hu,hr⟩:=hc _ y hy
      exact ⟨u,by rw [Nat.add_assoc]; exact hu,hr⟩⟩ rfl
    ·rename_i n o' off hn hx
     cases h
     rw [hx] at hk
     obtain ⟨hv,hl⟩:=hk
     exact fin hn hv ⟨0,rfl,hl⟩ rfl
    ·rename_i n p i j z hn hx
     cases h
     rw [hx] at hk
     obtain ⟨b,e,m,f',hl,hi,hb,hv⟩:=hk
     exact fin hn hv ⟨0,b,e,m,f',hl,hi,hb,by rw [Nat.add_assoc]⟩ rfl
    ·cases h
   ·cases h
  ·cases h
 ·cases h

theorem unOp_sound (hs:Sat X g σ a w) {op:UnOp} {t:TypeId} {x:Operand} {cs:List Prop} {sv:SV} {o:Oper} (ho:o.op = .unOp op t x)
  (h:evalPure T σ (.unOp op t x) = some (cs,sv)):Comes0 X g σ a w o sv:=by
 simp only [evalPure] at h
 unfold unSV at h
 split at h
 ·rename_i b hx
  cases h
  refine ⟨.bool (!b),fun _=>?_,⟨0,.fr (.bool _)⟩,rfl⟩
  simp only [execOp,ho,ev_bool hs hx]
  rfl
 ·rename_i k n hx
  cases h
  refine ⟨.int k (k.wrap (0 - n)),fun _=>?_,⟨0,.fr (.int _ _)⟩,rfl⟩
  simp only [execOp,ho,ev_int hs hx]
  rfl
 ·cases h

theorem iv_rel (hs:Sat X g σ a w) {x:Operand} {n:Int} (h:iv (σ.ev x) = some n):∃ k,a.eval x = .int k n:=by
 unfold iv at h
 split at h
 ·rename_i k m hx
  cases h
  exact ⟨k,ev_int hs hx⟩
 ·cases h

theorem index_sound (hT:TabOk X.P T) (hs:Sat X g σ a w) {t:TypeId} {x i:Operand} {cs:List Prop} {sv:SV} {o:Oper} (ho:o.op = .index t x i)
  (h:evalPure T σ (.index t x i) = some (cs,sv)) (hc:∀ c ∈ cs,c):Comes0 X g σ a w o sv:=by
 simp only [evalPure] at h
 split at h
 ·rename_i ti n hti hn
  obtain ⟨k,hi⟩:=iv_rel hs hn
  split at h
  ·rename_i s hund hx
   cases h
   have h0:=hc (0 ≤ n) (by simp)
   have h1:=hc (n < (s.length:Int)) (by simp)
   have hu:X.P.underlying t = some .string:=by rw [← hund]; exact (hT t ti hti).1
   have hlt:n.toNat < s.length:=by omega
   refine ⟨_,fun _=>?_,⟨0,.fr (.int _ _)⟩,rfl⟩
   simp only [execOp,ho,ev_str hs hx,hi,Instr.index,asIntOf,pure_bind]
   rw [Sem.run_bind,Sem.run_bind,run_underlying hu,Result.andThen_ok]
   simp only [h0,if_true]
   have:(⟨s.toArray⟩:ByteArray)[n.toNat]? = some (s.getD n.toNat 0):=by
    rw [getElem?_pos (⟨s.toArray⟩:ByteArray) n.toNat (by simpa [ByteArray.size] using hlt)]
    simp only [List.getD_eq_getElem?_getD,List.getElem?_eq_getElem hlt,Option.getD_some]
    rfl
   rw [this]
   rfl
  ·rename_i m e cells hund hx
   split at h
   ·rename_i k' l hsel hte
    split at h
    ·rename_i hb
     simp only [Bool.and_eq_true] at hb
     have hlen:=Nat.eq_of_beq_eq_true hb.1
     have hcl:=Nat.eq_of_beq_eq_true hb.2
     cases h
     have h0:=hc (0 ≤ n) (by simp)
     have h1:=hc (n < (m:Int)) (by simp)
     have hu:X.P.underlying t = some (.array m e):=by rw [← hund]; exact (hT t ti hti).1
     obtain ⟨ei,hei,hee⟩:=Option.map_eq_some_iff.1 hte
     simp only [Bool.and_eq_true,Bool.not_eq_true'] at hee
     have hes:=Nat.eq_of_beq_eq_true hee.1
     obtain ⟨hue,i1,z1,hi1,hsz,_⟩:=hT e ei hei
     obtain ⟨q,hk⟩:=ev_rel hs x
     rw [hx] at hk
     obtain ⟨vs,hv,hvs,hvc⟩:=hk
     have hsel':=selInt_at hsel n.toNat (by omega)
     obtain ⟨u,hu',hr⟩:=hvc _ _ hsel'
     have hur:u = .int k' (l.getD n.toNat 0):=rel_int hr
     subst hur
     have hagg:∀ w',(isAgg e).run X.P w' = .ok false w':=fun w'=>by rw [run_isAgg hue,hee.2]
     have hpart:∀ w',(part e vs (n.toNat * 1)).run X.P w' = .ok (.int k' (l.getD n.toNat 0)) w':=fun w'=>by
      unfold part
      rw [Sem.run_bind,hagg,Result.andThen_ok]
      simp only [Bool.false_eq_true,if_false,Nat.mul_one,hu',Sem.run_pure]
     refine ⟨_,fun w'=>?_,⟨0,.fr (.int _ _)⟩,rfl⟩
     simp only [execOp,ho,hv,hi,Instr.index,asIntOf,pure_bind]
     rw [Sem.run_bind,Sem.run_bind,run_underlying hu,Result.andThen_ok]
     simp only [h0,h1,and_self,if_true,Sem.run_bind,run_size hi1,hsz,hes,Result.andThen_ok,hpart,Sem.run_pure]
    ·cases h
   ·cases h
  ·cases h
 ·cases h

theorem indexAddr_sound (hT:TabOk X.P T) (hs:Sat X g σ a w) {t:TypeId} {x i:Operand} {cs:List Prop} {sv:SV} {o:Oper} (ho:o.op = .indexAddr t x i)
  (h:evalPure T σ (.indexAddr t x i) = some (cs,sv)) (hc:∀ c ∈ cs,c):Comes0 X g σ a w o sv:=by
 simp only [evalPure] at h
 split at h
 ·rename_i ti n hti hn
  obtain ⟨k,hi⟩:=iv_rel hs hn
  obtain ⟨q,hk⟩:=ev_rel hs x
  have fin:∀ {e z b off len cap:Nat} {s:SV},ti.und = .slice e → T.size e = some z → a.eval x = .slice (some ⟨b,off,none⟩) len cap → 0 ≤ n → n < (len:Int) →
    (∃ k,SR g w σ k (.pointer (some ⟨b,off + n.toNat * z,none⟩)) s) → s.pure = true → Comes0 X g σ a w o s:=by
   intro e z b off len cap s hund hz hx h0 h1 hr hp
   have hu:X.P.underlying t = some (.slice e):=by rw [← hund]; exact (hT t ti hti).1
   obtain ⟨i',hi',hsz⟩:=hT.info hz
   refine ⟨_,fun _=>?_,hr,hp⟩
   simp only [execOp,ho,hx,hi,Instr.indexAt,asIntOf,pure_bind,Sem.run_bind,run_underlying hu,Result.andThen_ok,h0,h1,and_self,if_true,run_size hi',hsz,Sem.run_pure,add_mk]
  split at h
  ·rename_i e z len f hund hx
   rw [hx] at hk
   split at h
   ·rename_i z' hz
    split at h
    ·rename_i hzz
     obtain rfl:z = z':=Nat.eq_of_beq_eq_true hzz
     cases h
     have h0:=hc (0 ≤ n) (by simp)
     have h1:=hc (n < (len:Int)) (by simp)
     have hk':=TRel.plain (g:=g) (p:=(.slot q 0,[])) (x:=.fz z len f) hk rfl
     rcases fz_inv hk' with ⟨_,hl⟩ | ⟨b,off,cap,ds,hb,hv,_,_,hlen,h5,h6⟩
     ·omega
     ·refine fin hund hz hv h0 h1 ⟨0,b,off + n.toNat * z,rfl,hb,fun j y hy=>?_⟩ rfl
      have hlt:n.toNat < len:=by omega
      exact ⟨_,h5 n.toNat j y hlt hy,h6 n.toNat j y hlt hy⟩
    ·cases h
   ·cases h
  ·rename_i e p hund hx
   rw [hx] at hk
   split at h
   ·rename_i z' z e' len f hz hl
    split at h
    ·rename_i hzz
     obtain rfl:z = z':=Nat.eq_of_beq_eq_true hzz
     cases h
     have h0:=hc (0 ≤ n) (by simp)
     have h1:=hc (n < (len:Int)) (by simp)
     obtain ⟨z2,e2,n2,f2,hl2,hv⟩:=hk
     rw [hl] at hl2
     cases hl2
     rcases hv with ⟨_,hl0⟩ | ⟨b,cap,c,hb,hv,_⟩
     ·omega
     ·refine fin hund hz hv h0 h1 ⟨0,b,e',len,f,hl,by omega,hb,by simp⟩ rfl
    ·cases h
   ·cases h
  ·rename_i m e p i' j' z' hund hx
   rw [hx] at hk
   split at h
   ·rename_i hz
    cases h
    have h0:=hc (0 ≤ n) (by simp)
    have h1:=hc (n < (m:Int)) (by simp)
    obtain ⟨b,e2,n2,f2,hl2,hi2,hb,hv⟩:=(show S1 g w σ q 0 (a.eval x) (.pe p i' j' z') from hk)
    have hu:X.P.underlying t = some (.array m e):=by rw [← hund]; exact (hT t ti hti).1
    obtain ⟨i1,hi1,hsz⟩:=hT.info hz
    refine ⟨.pointer (some ⟨b,i' * z' + (j' + n.toNat),none⟩),fun _=>?_,⟨0,b,e2,n2,f2,hl2,hi2,hb,rfl,by omega⟩,rfl⟩
    simp only [execOp,ho,hv,hi,Instr.indexAt,asIntOf,pure_bind,Sem.run_bind,run_underlying hu,Result.andThen_ok,Instr.sureAddr,Sem.run_pure,h0,h1,and_self,if_true,run_size hi1,hsz,add_mk]
    simp [Nat.add_assoc]
   ·cases h
  ·rename_i m e cells hund hx
   rw [hx] at hk
   split at h
   ·rename_i k' l hz hsel
    split at h
    ·rename_i hlen
     have hlen:=Nat.eq_of_beq_eq_true hlen
     cases h
     have h0:=hc (0 ≤ n) (by simp)
     have h1:=hc (n < (m:Int)) (by simp)
     obtain ⟨b,off,hv,hb,hcell⟩:=(show S1 g w σ q 0 (a.eval x) (.rp cells) from hk)
     have hu:X.P.underlying t = some (.array m e):=by rw [← hund]; exact (hT t ti hti).1
     obtain ⟨i1,hi1,hsz⟩:=hT.info hz
     refine ⟨.pointer (some ⟨b,off + n.toNat,none⟩),fun _=>?_,⟨0,b,off + n.toNat,rfl,hb,fun j y hy=>?_⟩,rfl⟩
     ·simp only [execOp,ho,hv,hi,Instr.indexAt,asIntOf,pure_bind,Sem.run_bind,run_underlying hu,Result.andThen_ok,Instr.sureAddr,Sem.run_pure,h0,h1,and_self,if_true,run_size hi1,hsz,add_mk]
      simp
     ·cases j with
      | succ j=>simp at hy
      | zero =>
       simp only [List.getElem?_cons_zero,Option.some.injEq] at hy
       subst hy
       have:=selInt_at hsel n.toNat (by omega)
       rw [List.getElem?_take,if_pos (by omega)] at this
       exact hcell _ _ this
    ·cases h
   ·cases h
  ·cases h
 ·cases h

end
end Go.Sx

namespace Go.Sx
open Go

section
variable {X:Ctx} {g:Gh} {σ:AState} {a:Act} {w:World} {T:Tab}

theorem convert_sound (hT:TabOk X.P T) (hs:Sat X g σ a w) {s d:TypeId} {x:Operand} {cs:List Prop} {sv:SV} {o:Oper} (ho:o.op = .convert s d x)
  (h:evalPure T σ (.convert s d x) = some (cs,sv)):Comes0 X g σ a w o sv:=by
 simp only [evalPure] at h
 split at h
 ·rename_i si di k n hsi hdi hx
  split at h
  ·rename_i j q hsu hdu
   cases h
   have h1:X.P.underlying s = some (.int j):=by rw [← hsu]; exact (hT s si hsi).1
   have h2:X.P.underlying d = some (.int q):=by rw [← hdu]; exact (hT d di hdi).1
   refine ⟨_,fun _=>?_,⟨0,.fr (.int _ _)⟩,rfl⟩
   simp only [execOp,ho,ev_int hs hx,convert,Sem.run_bind,run_underlying h1,run_underlying h2,Result.andThen_ok,Conv.intToInt,Sem.run_pure]
  ·cases h
 ·rename_i si di l hsi hdi hx
  split at h
  ·rename_i hdu
   cases h
   have h1:=(hT s si hsi).1
   have h2:X.P.underlying d = some .string:=by rw [← hdu]; exact (hT d di hdi).1
   refine ⟨.string ⟨l.toArray⟩,fun _=>?_,⟨0,.fr (.str _)⟩,rfl⟩
   simp only [execOp,ho,ev_str hs hx,convert,Sem.run_bind,run_underlying h1,run_underlying h2,Result.andThen_ok]
   cases si.und <;> rfl
  ·cases h
 ·cases h

theorem S1.pure {k j k' j':Nat} {v:Value} {sv:SV} (hp:sv.pure1 = true) (h:S1 g w σ k j v sv):S1 g w σ k' j' v sv:=by
 cases sv with
 | tv y=>exact .fr (show FRel g.P w _ y from TRel.plain (g:=g) (p:=(.slot k j,[])) h hp)
 | agg cs =>
  obtain ⟨vs,hv,hs,hc⟩:=h
  refine ⟨vs,hv,hs,fun i y hy=>?_⟩
  obtain ⟨u,hu,hr⟩:=hc i y hy
  exact ⟨u,hu,.fr (show FRel g.P w _ y from hr.plain (by simp only [SV.pure1,List.all_eq_true] at hp; exact hp y (List.mem_of_getElem? hy)))⟩
 | tup vs=>cases hp
 | fn f caps=>cases hp
 | junk=>trivial
 | pc o off=>exact h
 | rpc o off=>exact h
 | pe p i j z=>exact h
 | pa p i j m q z=>exact h
 | rp cs=>exact h
 | al p=>exact h
 | ml p=>exact h
 | cut p lo m=>exact h

theorem pure1_flat {sv:SV} (hp:sv.pure1 = true):sv.flat = true:=by cases sv <;> first | rfl | cases hp

theorem pure1_pure {sv:SV} (hp:sv.pure1 = true):sv.pure = true:=by cases sv <;> first | exact hp | cases hp

theorem caps_rel (hs:Sat X g σ a w):∀ {xs:List Operand} {l:List SV},capsOf σ xs = some l → l.all SV.pure1 = true ∧ l.length = xs.length ∧
  ∀ (j:Nat) sv,l[j]? = some sv → ∃ x,xs[j]? = some x ∧ S1 g w σ 0 j (a.eval x) sv
 | [],l,h=>by
  simp only [capsOf,Option.some.injEq] at h; subst h
  exact ⟨rfl,rfl,fun j sv h=>by simp at h⟩
 | x :: r,l,h=>by
  simp only [capsOf] at h
  split at h
  ·rename_i l' hl'
   split at h
   ·rename_i hp
    cases h
    obtain ⟨h1,h2,h3⟩:=caps_rel hs hl'
    refine ⟨by simp [hp,h1],by simp [h2],fun j sv hj=>?_⟩
    cases j with
    | zero =>
     simp only [List.getElem?_cons_zero,Option.some.injEq] at hj
     subst hj
     refine ⟨x,rfl,?_⟩
     obtain ⟨k,hk⟩:=ev_rel hs x
     rw [SR_flat (pure1_flat hp)] at hk
     exact hk.pure hp
    | succ j =>
     simp only [List.getElem?_cons_succ] at hj
     obtain ⟨y,hy,hr⟩:=h3 j sv hj
     refine ⟨y,hy,hr.pure ?_⟩
     rw [List.all_eq_true] at h1; exact h1 sv (List.mem_of_getElem? hj)
   ·cases h
  ·cases h

theorem makeFunc_sound (hs:Sat X g σ a w) {fn:Fn} {fs caps:Array Operand} {cs:List Prop} {sv:SV} {o:Oper} (ho:o.op = .makeFunc fn fs caps)
  (h:evalPure T σ (.makeFunc fn fs caps) = some (cs,sv)):Comes0 X g σ a w o sv:=by
 cases fn with
 | func f =>
  simp only [evalPure] at h
  split at h
  ·rename_i l hfs hcaps
   cases h
   obtain ⟨h1,h2,h3⟩:=caps_rel hs hcaps
   have hfs':fs = #[]:=by rw [← Array.toArray_toList (xs:=fs),hfs]
   subst hfs'
   refine ⟨.func (.func f) #[] (caps.map a.eval),fun _=>?_,⟨0,caps.map a.eval,rfl,by simp [h2],fun j sv hj=>?_⟩,h1⟩
   ·simp only [execOp,ho,Instr.makeFunc]
    simp
   ·obtain ⟨x,hx,hr⟩:=h3 j sv hj
    exact ⟨a.eval x,by rw [Array.getElem?_map,← Array.getElem?_toList,hx]; rfl,hr⟩
  ·cases h
 | _=>simp only [evalPure] at h; cases h

theorem extract_sound (hs:Sat X g σ a w) {x:Operand} {i:Nat} {cs:List Prop} {sv:SV} {o:Oper} (ho:o.op = .extract x i)
  (h:evalPure T σ (.extract x i) = some (cs,sv)):Comes0 X g σ a w o sv:=by
 simp only [evalPure] at h
 split at h
 ·rename_i vs hx
  obtain ⟨k,hk⟩:=ev_rel hs x
  have hk':=hk
  rw [hx] at hk'
  obtain ⟨us,hv,hsz,hc⟩:=hk'
  split at h
  ·rename_i s hi
   obtain ⟨u,hu,hr⟩:=hc i s hi
   have hrun:∀ w,(execOp a.eval o).run X.P w = .ok (.value u) w:=fun w=>by
    simp only [execOp,ho,hv,Instr.extract,hu]
    rfl
   split at h
   ·rename_i hp
    cases h
    exact ⟨u,hrun,⟨0,by rw [SR_flat (pure1_flat hp)]; exact hr.pure hp⟩,pure1_pure hp⟩
   ·rename_i t _ hown
    cases h
    obtain ⟨z,e,n,f,rfl⟩:=isOwn_iff.1 hown
    have hx':σ.get t = .tup vs:=hx
    have ht:=hs.env t
    rw [hx'] at ht
    obtain ⟨us',hv',_,hc'⟩:=ht
    obtain ⟨u',hu',hr'⟩:=hc' i _ hi
    have e1:us' = us:=by
     have:a.eval (.tmp t) = .tuple us':=hv'
     rw [hv] at this
     injection this with this
     exact this.symm
    subst e1
    rw [hu] at hu'
    cases hu'
    have hl:σ.look (.slot t i,[]) = some (.own z e n f):=by
     simp only [AState.look,AState.rootTV,hx',List.foldr_nil,tupAt,hi]
    exact ⟨u,hrun,⟨0,al_of_own hl hr' 0 0⟩,rfl⟩
   ·cases h
  ·cases h
 ·cases h

theorem len_sound (hT:TabOk X.P T) (hs:Sat X g σ a w) {as:Array Operand} {ts:Array TypeId} {cs:List Prop} {sv:SV} {o:Oper} (ho:o.op = .call { callee:=.builtin .len,args:=as,argTypes:=ts })
  (h:evalPure T σ (.call { callee:=.builtin .len,args:=as,argTypes:=ts }) = some (cs,sv)):Comes0 X g σ a w o sv:=by
 simp only [evalPure] at h
 split at h
 ·rename_i x t has hts
  obtain rfl:as = #[x]:=by rw [← Array.toArray_toList (xs:=as),has]
  obtain rfl:ts = #[t]:=by rw [← Array.toArray_toList (xs:=ts),hts]
  split at h
  ·rename_i l hu hx
   cases h
   refine ⟨.int .i64 (l.length:Int),fun _=>?_,⟨0,.fr (.int _ _)⟩,rfl⟩
   simp only [execOp,ho,resolve,invoke,builtin,Sem.run_bind,Sem.run_pure,Result.andThen_ok,List.map_toArray,List.map_cons,List.map_nil,ev_str hs hx]
   simp only [Builtin.len_,List.getElem?_toArray,List.getElem?_cons_zero,Sem.run_bind,run_underlying (hT.und hu),Result.andThen_ok,Sem.run_pure,goInt]
   rfl
  ·rename_i e n hu hn
   cases h
   obtain ⟨k,hk⟩:=ev_rel hs x
   obtain ⟨A,cap,hv,_⟩:=lenOf_rel hk hn
   refine ⟨.int .i64 (n:Int),fun _=>?_,⟨0,.fr (.int _ _)⟩,rfl⟩
   simp only [execOp,ho,resolve,invoke,builtin,Sem.run_bind,Sem.run_pure,Result.andThen_ok,List.map_toArray,List.map_cons,List.map_nil,hv]
   simp only [Builtin.len_,List.getElem?_toArray,List.getElem?_cons_zero,Sem.run_bind,run_underlying (hT.und hu),Result.andThen_ok,Sem.run_pure,goInt]
  ·cases h
 ·cases h

end
end Go.Sx

namespace Go.Sx
open Go

/-- Cells side by side. -/
def CellsRel (P:Nat → Prop) (w:World) (vs:Array Value) (cs:List TV):Prop :=
 vs.size = cs.length ∧ ∀ (i:Nat) y,cs[i]? = some y → ∃ u,vs[i]? = some u ∧ FRel P w u y

theorem CellsRel.set {P:Nat → Prop} {w:World} {vs:Array Value} {cs:List TV} (h:CellsRel P w vs cs) {v:Value} {y:TV} (hv:FRel P w v y) (i:Nat) :
  CellsRel P w (vs.setIfInBounds i v) (cs.set i y):=by
 refine ⟨by simp [h.1],fun j x hx=>?_⟩
 rw [List.getElem?_set] at hx
 rw [Array.getElem?_setIfInBounds]
 by_cases hij:i = j
 ·rw [if_pos hij] at hx ⊢
  split at hx
  ·rename_i hlt
   cases hx
   rw [if_pos (by rw [h.1]; omega)]
   exact ⟨v,rfl,hv⟩
  ·cases hx
 ·rw [if_neg hij] at hx ⊢
  exact h.2 j x hx

theorem CellsRel.putAt {P:Nat → Prop} {w:World}:∀ (ys:List TV) (us:List Value) (off:Nat) {vs:Array Value} {cs:List TV},CellsRel P w vs cs → us.length = ys.length →
  (∀ (i:Nat) y,ys[i]? = some y → ∃ u,us[i]? = some u ∧ FRel P w u y) → CellsRel P w (us.zipIdx.foldl (fun cs (p:Value × Nat)=>cs.setIfInBounds (off + p.2) p.1) vs) (putAt cs off ys):=by
 have key:∀ (ys:List TV) (us:List Value) (off k:Nat) {vs:Array Value} {cs:List TV},CellsRel P w vs cs → us.length = ys.length →
  (∀ (i:Nat) y,ys[i]? = some y → ∃ u,us[i]? = some u ∧ FRel P w u y) → CellsRel P w ((us.zipIdx k).foldl (fun cs (p:Value × Nat)=>cs.setIfInBounds (off + p.2) p.1) vs) (Sx.putAt cs (off + k) ys):=by
  intro ys
  induction ys with
  | nil =>
   intro us off k vs cs h hl _
   obtain rfl:=List.eq_nil_of_length_eq_zero hl
   exact h
  | cons y ys ih =>
   intro us off k vs cs h hl hr
   cases us with
   | nil=>simp at hl
   | cons u us =>
    obtain ⟨u',hu',hr0⟩:=hr 0 y rfl
    simp only [List.getElem?_cons_zero,Option.some.injEq] at hu'
    subst hu'
    simp only [List.zipIdx_cons,List.foldl_cons,Sx.putAt]
    have:=ih us off (k + 1) (h.set hr0 (off + k)) (by simpa using hl) fun i x hx=>hr (i + 1) x (by simpa using hx)
    rw [Nat.add_assoc] 
    exact this
 intro ys us off vs cs h hl hr
 exact key ys us off 0 h hl hr

section
variable {X:Ctx} {g:Gh} {σ:AState} {a:Act} {w:World} {T:Tab}

theorem parts_rel (hs:Sat X g σ a w):∀ {xs:List (Nat × Operand)} {ps:List (Nat × List TV)},partsOf σ xs = some ps →
  ps.length = xs.length ∧ ∀ (j:Nat) p,ps[j]? = some p → ∃ x,xs[j]? = some x ∧ x.1 = p.1 ∧ CellsRel g.P w (a.eval x.2).cells p.2
 | [],ps,h=>by
  simp only [partsOf,Option.some.injEq] at h; subst h
  exact ⟨rfl,fun j p h=>by simp at h⟩
 | (i,x) :: r,ps,h=>by
  simp only [partsOf] at h
  obtain ⟨k,hk⟩:=ev_rel hs x
  split at h
  ·rename_i y ps' hx hps'
   split at h
   ·rename_i hp
    cases h
    obtain ⟨h1,h2⟩:=parts_rel hs hps'
    refine ⟨by simp [h1],fun j p hj=>?_⟩
    cases j with
    | zero =>
     simp only [List.getElem?_cons_zero,Option.some.injEq] at hj
     subst hj
     rw [hx] at hk
     have hr:=TRel.plain (g:=g) (p:=(.slot k 0,[])) (x:=y) hk hp
     have hc:(a.eval x).cells = #[a.eval x]:=by
      have:=hr.one
      cases hv:a.eval x <;> first | rfl | (rw [hv] at this; cases this)
     refine ⟨(i,x),rfl,rfl,?_⟩
     simp only [hc]
     refine ⟨rfl,fun q y' hy'=>?_⟩
     cases q with
     | zero=>simp only [List.getElem?_cons_zero,Option.some.injEq] at hy'; subst hy'; exact ⟨_,rfl,hr⟩
     | succ q=>simp at hy'
    | succ j=>simp only [List.getElem?_cons_succ] at hj ⊢; exact h2 j p hj
   ·cases h
  ·rename_i cs ps' hx hps'
   split at h
   ·rename_i hp
    cases h
    obtain ⟨h1,h2⟩:=parts_rel hs hps'
    refine ⟨by simp [h1],fun j p hj=>?_⟩
    cases j with
    | zero =>
     simp only [List.getElem?_cons_zero,Option.some.injEq] at hj
     subst hj
     rw [hx] at hk
     obtain ⟨vs,hv,hsz,hc⟩:=agg_plain hk hp
     refine ⟨(i,x),rfl,rfl,?_⟩
     simp only [hv,Value.cells]
     exact ⟨hsz,hc⟩
    | succ j=>simp only [List.getElem?_cons_succ] at hj ⊢; exact h2 j p hj
   ·cases h
  ·cases h

theorem fill_rel {P:Nat → Prop} {place:Nat → Option (Nat × Nat)}:∀ {ps:List (Nat × List TV)} {us:List (Nat × Value)} {vs:Array Value} {cs cs':List TV},fillTV place cs ps = some cs' → us.length = ps.length →
  (∀ (j:Nat) p,ps[j]? = some p → ∃ u,us[j]? = some u ∧ u.1 = p.1 ∧ CellsRel P w u.2.cells p.2) → CellsRel P w vs cs → ∃ vs',Instr.fill place vs us = some vs' ∧ CellsRel P w vs' cs'
 | [],us,vs,cs,cs',h,hl,_,hc=>by
  simp only [fillTV,Option.some.injEq] at h; subst h
  obtain rfl:=List.eq_nil_of_length_eq_zero hl
  exact ⟨vs,rfl,hc⟩
 | (i,ys) :: ps,us,vs,cs,cs',h,hl,hr,hc=>by
  cases us with
  | nil=>simp at hl
  | cons u us =>
   obtain ⟨u',hu',h1,h2⟩:=hr 0 _ rfl
   simp only [List.getElem?_cons_zero,Option.some.injEq] at hu'
   subst hu'
   obtain ⟨ui,uv⟩:=u
   simp only at h1 h2
   subst h1
   simp only [fillTV] at h
   simp only [Instr.fill]
   split at h
   ·cases h
   ·rename_i off size hpl
    split at h
    ·rename_i hb
     rw [Bool.and_eq_true] at hb
     have hb1:ys.length = size:=Nat.eq_of_beq_eq_true hb.1
     have hb2:off + ys.length ≤ cs.length:=Nat.le_of_ble_eq_true hb.2
     rw [hpl]
     simp only
     rw [if_neg (by simp only [Bool.or_eq_true,decide_eq_true_eq,not_or]; exact ⟨by simp [h2.1,hb1],by rw [h2.1,hc.1]; omega⟩)]
     have hput:=CellsRel.putAt ys uv.cells.toList off hc (by simpa using h2.1) fun q y hy=>by
      obtain ⟨u,hu,hr'⟩:=h2.2 q y hy
      exact ⟨u,by rw [Array.getElem?_toList]; exact hu,hr'⟩
     rw [show uv.cells.zipIdx.foldl (fun cs (c,j)=>cs.setIfInBounds (off + j) c) vs = uv.cells.toList.zipIdx.foldl (fun cs (p:Value × Nat)=>cs.setIfInBounds (off + p.2) p.1) vs by
      rw [← Array.foldl_toList,Array.toList_zipIdx]]
     exact fill_rel h (by simpa using hl) (fun j p hj=>hr (j + 1) p (by simpa using hj)) hput
    ·cases h

theorem places_run (hT:TabOk X.P T):∀ {fs:List Field} {pl:List (Nat × Nat)},placesOf T fs = some pl →
  (fs.mapM (fun f=>do pure (f.offset,← sizeOf f.type)):Sem (List (Nat × Nat))).run X.P w = .ok pl w
 | [],pl,h=>by simp only [placesOf,Option.some.injEq] at h; subst h; rfl
 | f :: r,pl,h=>by
  simp only [placesOf] at h
  split at h
  ·rename_i n l hn hl
   cases h
   obtain ⟨i,hi,hsz⟩:=hT.info hn
   rw [List.mapM_cons]
   simp only [Sem.run_bind,run_size hi,Result.andThen_ok,Sem.run_pure,places_run hT hl,hsz]
  ·cases h

theorem build_sound (hT:TabOk X.P T) (hs:Sat X g σ a w) {t:TypeId} {parts:Array (Nat × Operand)} {cs:List Prop} {sv:SV} {o:Oper} (ho:o.op = .build t parts)
  (h:evalPure T σ (.build t parts) = some (cs,sv)):Comes0 X g σ a w o sv:=by
 simp only [evalPure] at h
 split at h
 ·rename_i ti hti
  split at h
  ·rename_i fs ps hund hps
   split at h
   ·rename_i pl hpl
    split at h
    ·rename_i cells hfill
     cases h
     obtain ⟨hu0,i,z,hi,hsz,hby,hz,hzc,hzl,hz1,hag,_⟩:=hT t ti hti
     have hu:X.P.underlying t = some (.struct fs):=by rw [← hund]; exact hu0
     obtain ⟨h1,h2⟩:=parts_rel hs hps
     have hzero:CellsRel g.P w z.cells (ti.zero.map cTV):=by
      refine ⟨by rw [← Array.length_toList,hzc]; simp,fun q y hy=>?_⟩
      rw [List.getElem?_map] at hy
      obtain ⟨u,hu',rfl⟩:=Option.map_eq_some_iff.1 hy
      refine ⟨u,by rw [← Array.getElem?_toList,hzc]; exact hu',cTV_rel ?_⟩
      rw [List.all_eq_true] at hz1
      exact hz1 u (List.mem_of_getElem? hu')
     obtain ⟨vs,hvs,hrel⟩:=fill_rel (P:=g.P) (w:=w) (us:=(parts.toList.map fun (p:Nat × Operand)=>(p.1,a.eval p.2))) (vs:=z.cells) hfill (by simp [h1]) (fun j p hj=>by
      obtain ⟨x,hx,e1,e2⟩:=h2 j p hj
      exact ⟨(x.1,a.eval x.2),by rw [List.getElem?_map,hx]; rfl,e1,e2⟩) hzero
     have hplain:cells.all TV.plain = true:=by
      rw [List.all_eq_true]
      intro y hy
      obtain ⟨q,hq⟩:=List.getElem?_of_mem hy
      obtain ⟨u,_,hr⟩:=hrel.2 q y hq
      cases hr <;> rfl
     refine ⟨.agg vs,fun w'=>?_,⟨0,vs,rfl,hrel.1,fun q y hy=>by obtain ⟨u,hu',hr⟩:=hrel.2 q y hy; exact ⟨u,hu',.fr hr⟩⟩,hplain⟩
     simp only [execOp,ho,Instr.build]
     have hzv:(zeroValue t).run X.P w' = .ok z w':=by
      simp only [zeroValue,typeInfo,Sem.run_bind,run_program,Result.andThen_ok,hi,Sem.run_pure,hz]
     have hm:(fs.mapM (fun f=>do pure (f.offset,← sizeOf f.type)):Sem (Array (Nat × Nat))).run X.P w' = .ok pl.toArray w':=by
      rw [← Array.toArray_toList (xs:=fs),List.mapM_toArray,Sem.run_map,places_run hT hpl]
      rfl
     simp only [Sem.run_bind,hzv,Result.andThen_ok,run_underlying hu,hm]
     have hpt:(parts.map fun (x:Nat × Operand)=>(x.1,a.eval x.2)).toList = parts.toList.map fun (p:Nat × Operand)=>(p.1,a.eval p.2):=by simp
     rw [show (fun x=>pl.toArray[x]?) = fun i=>pl[i]? from funext fun i=>by simp]
     simp only [hpt,hvs,Sem.run_pure,Result.andThen_ok]
    ·cases h
   ·cases h
  ·cases h
 ·cases h

end
end Go.Sx

namespace Go.Sx
open Go

section
variable {X:Ctx} {g:Gh} {σ:AState} {a:Act} {w:World} {T:Tab}

theorem part_sound (hT:TabOk X.P T) {t:TypeId} {ti:TI} (hti:T.get t = some ti) {vs:Array Value} {cs:List TV} {off:Nat} {s:SV} {n:Nat}
  (hr:CellsRel g.P w vs cs) (hn:n = ti.size) (hc:ofCells (isAggD ti.und) ti.size ((cs.drop off).take n) = some s) :
  ∃ v,(∀ w',(part t vs off).run X.P w' = .ok v w') ∧ SR g w σ 0 v s ∧ s.pure = true:=by
 subst hn
 obtain ⟨hu,i,z,hi,hsz,_⟩:=hT t ti hti
 unfold part
 simp only [Sem.run_bind,run_isAgg hu,Result.andThen_ok]
 unfold ofCells at hc
 cases hb:Nat.beq ((cs.drop off).take ti.size).length ti.size && ((cs.drop off).take ti.size).all TV.plain with
 | false=>rw [hb] at hc; cases hc
 | true =>
  rw [hb] at hc
  rw [Bool.and_eq_true] at hb
  obtain ⟨hlen,hp⟩:=hb
  have hl:((cs.drop off).take ti.size).length = ti.size:=Nat.eq_of_beq_eq_true hlen
  have hl':ti.size ≤ cs.length - off:=by
   rw [List.length_take,List.length_drop] at hl
   omega
  cases hagg:isAggD ti.und with
  | true =>
   rw [hagg] at hc
   cases hc
   simp only [if_true]
   refine ⟨.agg (vs.extract off (off + ti.size)),fun w'=>?_,⟨_,rfl,?_,fun j y hy=>?_⟩,hp⟩
   ·rw [Sem.run_bind,run_size hi,Result.andThen_ok,hsz]; rfl
   ·rw [hl,Array.size_extract,hr.1]; omega
   ·rw [List.getElem?_take] at hy
    split at hy
    ·rw [List.getElem?_drop] at hy
     obtain ⟨u,hu',hr'⟩:=hr.2 _ y hy
     refine ⟨u,?_,.fr hr'⟩
     rw [Array.getElem?_extract,if_pos (by rw [hr.1]; omega)]
     exact hu'
    ·cases hy
  | false =>
   rw [hagg] at hc
   simp only at hc
   split at hc
   ·rename_i x hx
    cases hc
    have hy:((cs.drop off).take ti.size)[0]? = some x:=by rw [hx]; rfl
    rw [List.getElem?_take] at hy
    split at hy
    ·rw [List.getElem?_drop,Nat.add_zero] at hy
     obtain ⟨u,hu',hr'⟩:=hr.2 _ x hy
     rw [hx] at hp
     refine ⟨u,fun w'=>?_,.fr hr',show x.plain = true by simpa using hp⟩
     simp only [Bool.false_eq_true,if_false,hu']
     rfl
    ·cases hy
   ·cases hc

theorem field_sound (hT:TabOk X.P T) (hs:Sat X g σ a w) {t:TypeId} {x:Operand} {f:Nat} {cs:List Prop} {sv:SV} {o:Oper} (ho:o.op = .field t x f)
  (h:evalPure T σ (.field t x f) = some (cs,sv)):Comes0 X g σ a w o sv:=by
 simp only [evalPure] at h
 split at h
 ·rename_i ti hti
  split at h
  ·rename_i fs hund
   split at h
   ·rename_i fd hfd
    split at h
    ·rename_i fi cells hfi hx
     unfold someCs at h
     split at h
     ·rename_i s hof
      cases h
      obtain ⟨k,hk⟩:=ev_rel hs x
      rw [hx] at hk
      obtain ⟨vs,hv,hsz,hc⟩:=hk
      have hu:X.P.underlying t = some (.struct fs):=by rw [← hund]; exact (hT t ti hti).1
      -- the part's own cells are plain; the others don't count
      have hof':=hof
      unfold ofCells at hof'
      cases hb:Nat.beq ((cells.drop fd.offset).take fi.size).length fi.size && ((cells.drop fd.offset).take fi.size).all TV.plain with
      | false=>rw [hb] at hof'; cases hof'
      | true =>
       rw [Bool.and_eq_true] at hb
       have hp:=hb.2
       rw [List.all_eq_true] at hp
       let cells':List TV:=cells.map fun y=>if y.plain then y else .int .i64 0
       let vs':Array Value:=vs.mapIdx fun i v=>match cells[i]? with | some y=>if y.plain then v else .int .i64 0 | none=>v
       have hrel:CellsRel g.P w vs' cells':=by
        refine ⟨by simp [vs',cells',hsz],fun i y hy=>?_⟩
        simp only [cells',List.getElem?_map] at hy
        obtain ⟨y0,hy0,rfl⟩:=Option.map_eq_some_iff.1 hy
        obtain ⟨u,hu',hr⟩:=hc i y0 hy0
        simp only [vs',Array.getElem?_mapIdx,hu',Option.map_some,hy0]
        by_cases hpl:y0.plain = true
        ·simp only [hpl,if_true]; exact ⟨u,rfl,hr.plain hpl⟩
        ·simp only [hpl,if_false,Bool.false_eq_true]; exact ⟨_,rfl,.int _ _⟩
       have same:(cells'.drop fd.offset).take fi.size = (cells.drop fd.offset).take fi.size:=by
        apply List.ext_getElem?
        intro i
        simp only [cells',List.getElem?_take,List.getElem?_drop,List.getElem?_map]
        split
        ·rename_i hi
         cases hy:cells[fd.offset + i]? with
         | none=>rfl
         | some y =>
          have:y.plain = true:=hp y (by
           have:((cells.drop fd.offset).take fi.size)[i]? = some y:=by rw [List.getElem?_take,if_pos hi,List.getElem?_drop,hy]
           exact List.mem_of_getElem? this)
          simp [this]
        ·rfl
       obtain ⟨v,hrun,hr,hpu⟩:=part_sound (σ:=σ) hT hfi hrel rfl (by rw [same]; exact hof)
       have hpart:∀ w,(part fd.type vs fd.offset).run X.P w = .ok v w:=fun w=>by
        rw [← hrun w]
        obtain ⟨hu2,i2,z2,hi2,hsz2,_⟩:=hT fd.type fi hfi
        unfold part
        rw [Sem.run_bind,run_isAgg hu2,Result.andThen_ok,Sem.run_bind,run_isAgg hu2,Result.andThen_ok]
        have hlen:((cells.drop fd.offset).take fi.size).length = fi.size:=Nat.eq_of_beq_eq_true hb.1
        have hl':fi.size ≤ cells.length - fd.offset:=by
         rw [List.length_take,List.length_drop] at hlen
         omega
        have cell:∀ i,fd.offset ≤ i → i < fd.offset + fi.size → vs'[i]? = vs[i]?:=by
         intro i h1 h2
         have hic:i < cells.length:=by omega
         simp only [vs',Array.getElem?_mapIdx]
         have hy:cells[i]? = some cells[i]:=List.getElem?_eq_getElem hic
         have hpl:cells[i].plain = true:=hp _ (by
          have:((cells.drop fd.offset).take fi.size)[i - fd.offset]? = some cells[i]:=by
           rw [List.getElem?_take,if_pos (by omega),List.getElem?_drop,show fd.offset + (i - fd.offset) = i by omega,hy]
          exact List.mem_of_getElem? this)
         rw [hy]
         simp only [hpl,if_true]
         cases vs[i]? <;> rfl
        cases hag:isAggD fi.und with
        | true =>
         simp only [if_true,Sem.run_bind,run_size hi2,Result.andThen_ok,Sem.run_pure,hsz2]
         congr 2
         apply Array.ext_getElem?
         intro i
         rw [Array.getElem?_extract,Array.getElem?_extract]
         have hss:vs'.size = vs.size:=by simp [vs']
         rw [hss]
         split
         ·rw [cell _ (by omega) (by omega)]
         ·rfl
        | false =>
         have h1:fi.size = 1:=by
          obtain ⟨_,_,_,_,_,_,_,_,_,_,hag',_⟩:=hT fd.type fi hfi
          exact (hag' hag).1
         simp only [Bool.false_eq_true,if_false]
         rw [cell _ (Nat.le_refl _) (by omega)]
       refine ⟨v,fun _=>?_,⟨0,hr⟩,hpu⟩
       simp only [execOp,ho,Instr.field,hv,asAgg,pure_bind,Sem.run_bind,run_underlying hu,Result.andThen_ok,hfd,hpart,Sem.run_pure]
     ·cases h
    ·cases h
   ·cases h
  ·cases h
 ·cases h


theorem maxTV_sound (hs:Sat X g σ a w) (less:Bool):∀ {xs:List Operand} {k:IntKind} {n:Int} {s:SV},maxTV σ less (.tv (.int k n)) xs = some s →
  ∃ m,s = .tv (.int k m) ∧ ∀ w',((xs.map a.eval).foldlM (if less then Builtin.min2 else Builtin.max2) (.int k n):Sem Value).run X.P w' = .ok (.int k m) w'
 | [],k,n,s,h=>by simp only [maxTV,Option.some.injEq] at h; subst h; exact ⟨n,rfl,fun _=>rfl⟩
 | x :: r,k,n,s,h=>by
  simp only [maxTV] at h
  split at h
  ·rename_i k' b hx
   obtain ⟨m,hm,hrun⟩:=maxTV_sound hs less h
   refine ⟨m,hm,fun w'=>?_⟩
   rw [List.map_cons,List.foldlM_cons,ev_int hs hx]
   cases less
   ·exact hrun w'
   ·exact hrun w'
  ·cases h

theorem max_sound (hs:Sat X g σ a w) {as:Array Operand} {ts:Array TypeId} {cs:List Prop} {sv:SV} {o:Oper} (ho:o.op = .call { callee:=.builtin .max,args:=as,argTypes:=ts })
  (h:evalPure T σ (.call { callee:=.builtin .max,args:=as,argTypes:=ts }) = some (cs,sv)):Comes0 X g σ a w o sv:=by
 simp only [evalPure] at h
 split at h
 ·rename_i x r has
  obtain rfl:as = (x :: r).toArray:=by rw [← Array.toArray_toList (xs:=as),has]
  split at h
  ·rename_i k n hx
   unfold someCs at h
   split at h
   ·rename_i s hs'
    cases h
    obtain ⟨m,rfl,hrun⟩:=maxTV_sound hs false hs'
    refine ⟨_,fun w'=>?_,⟨0,.fr (.int _ _)⟩,rfl⟩
    simp only [execOp,ho,resolve,invoke,builtin,Sem.run_bind,Sem.run_pure,Result.andThen_ok,List.map_toArray,List.map_cons,ev_int hs hx,Builtin.max_]
    have:(List.foldlM Builtin.max2 (Value.int k n) (r.map a.eval):Sem Value).run X.P w' = .ok (.int k m) w':=hrun w'
    simp only [this,Result.andThen_ok]
   ·cases h
  ·cases h
 ·cases h

theorem min_sound (hs:Sat X g σ a w) {as:Array Operand} {ts:Array TypeId} {cs:List Prop} {sv:SV} {o:Oper} (ho:o.op = .call { callee:=.builtin .min,args:=as,argTypes:=ts })
  (h:evalPure T σ (.call { callee:=.builtin .min,args:=as,argTypes:=ts }) = some (cs,sv)):Comes0 X g σ a w o sv:=by
 simp only [evalPure] at h
 split at h
 ·rename_i x r has
  obtain rfl:as = (x :: r).toArray:=by rw [← Array.toArray_toList (xs:=as),has]
  split at h
  ·rename_i k n hx
   unfold someCs at h
   split at h
   ·rename_i s hs'
    cases h
    obtain ⟨m,rfl,hrun⟩:=maxTV_sound hs true hs'
    refine ⟨_,fun w'=>?_,⟨0,.fr (.int _ _)⟩,rfl⟩
    simp only [execOp,ho,resolve,invoke,builtin,Sem.run_bind,Sem.run_pure,Result.andThen_ok,List.map_toArray,List.map_cons,ev_int hs hx,Builtin.min_]
    have:(List.foldlM Builtin.min2 (Value.int k n) (r.map a.eval):Sem Value).run X.P w' = .ok (.int k m) w':=hrun w'
    simp only [this,Result.andThen_ok]
   ·cases h
  ·cases h
 ·cases h

theorem bound_rel (hs:Sat X g σ a w) {d:Int} {lo:Option Operand} {l:Int} (h:σ.bound d lo = some l) :
  (lo = none ∧ l = d) ∨ ∃ x k,lo = some x ∧ a.eval x = .int k l:=by
 cases lo with
 | none=>simp only [AState.bound,Option.some.injEq] at h; exact .inl ⟨rfl,h.symm⟩
 | some x=>obtain ⟨k,hk⟩:=iv_rel hs h; exact .inr ⟨x,k,rfl,hk⟩

theorem sliceBounds_run (hs:Sat X g σ a w) {b:Bool} {len cap:Nat} {lo hi:Option Operand} {l h:Int} (hl:σ.bound 0 lo = some l) (hh:σ.bound (len:Int) hi = some h)
  (h0:0 ≤ l) (h1:l ≤ h) (h2:h ≤ (len:Int)) (hc:len ≤ cap) (w':World):(Instr.sliceBounds b len cap (lo.map a.eval) (hi.map a.eval) none).run X.P w' = .ok (l.toNat,h.toNat,cap) w':=by
 unfold Instr.sliceBounds
 rcases bound_rel hs hl with ⟨rfl,rfl⟩ | ⟨x,k,rfl,hx⟩
 ·rcases bound_rel hs hh with ⟨rfl,rfl⟩ | ⟨y,k',rfl,hy⟩
  ·simp
  ·simp [Instr.sliceBound,hy,asIntOf,show 0 ≤ h by omega,show h ≤ (cap:Int) by omega]
 ·rcases bound_rel hs hh with ⟨rfl,rfl⟩ | ⟨y,k',rfl,hy⟩
  ·simp [Instr.sliceBound,hx,asIntOf,h0,h1]
  ·simp [Instr.sliceBound,hx,hy,asIntOf,show 0 ≤ h by omega,show h ≤ (cap:Int) by omega,h0,show l ≤ max h 0 by omega]

theorem slice_sound (hT:TabOk X.P T) (hs:Sat X g σ a w) {t:TypeId} {x:Operand} {lo hi mx:Option Operand} {cs:List Prop} {sv:SV} {o:Oper} (ho:o.op = .slice t x lo hi mx)
  (h:evalPure T σ (.slice t x lo hi mx) = some (cs,sv)) (hc:∀ c ∈ cs,c):Comes0 X g σ a w o sv:=by
 cases mx with
 | some m=>simp only [evalPure] at h; cases h
 | none =>
 simp only [evalPure] at h
 split at h
 ·rename_i s hu hx
  split at h
  ·rename_i l h' hl hh
   cases h
   have h0:=hc (0 ≤ l) (by simp)
   have h1:=hc (l ≤ h') (by simp)
   have h2:=hc (h' ≤ (s.length:Int)) (by simp)
   refine ⟨.string ⟨((s.take h'.toNat).drop l.toNat).toArray⟩,fun _=>?_,⟨0,.fr (.str _)⟩,rfl⟩
   have hb:=sliceBounds_run (X:=X) hs (b:=false) hl hh h0 h1 h2 (Nat.le_refl _)
   have hund:=hT.und hu
   simp only [execOp,ho,Instr.sliceAt,Instr.slice,ev_str hs hx,Sem.run_bind,run_underlying hund,Result.andThen_ok,Option.map_none]
   have e:(⟨s.toArray⟩:ByteArray).size = s.length:=rfl
   simp only [Option.isSome_none,Bool.false_eq_true,if_false,Sem.run_bind,Sem.run_pure,Result.andThen_ok,e,hb]
   congr 3
   rw [ByteArray.ext_iff]
   rw [ByteArray.data_extract]
   simp [List.extract_toArray,List.extract_eq_take_drop,List.drop_take]
  ·cases h
 ·rename_i e z n f hu hx
  split at h
  ·rename_i l h' z' hl hh hz
   split at h
   ·rename_i hzz
    obtain rfl:z = z':=Nat.eq_of_beq_eq_true hzz
    cases h
    have h0:=hc (0 ≤ l) (by simp)
    have h1:=hc (l ≤ h') (by simp)
    have h2:=hc (h' ≤ (n:Int)) (by simp)
    have hund:=hT.und hu
    obtain ⟨k,hk⟩:=ev_rel hs x
    rw [hx] at hk
    have hk':=TRel.plain (g:=g) (p:=(.slot k 0,[])) (x:=.fz z n f) hk rfl
    obtain ⟨i,hi',hsz⟩:=hT.info hz
    rcases fz_inv hk' with ⟨hv,hn⟩ | ⟨b,off,cap,ds,hb,hv,hcap,hm,hlen,h5,h6⟩
    ·subst hn
     have hl0:l = 0:=by omega
     have hh0:h' = 0:=by omega
     subst hl0 hh0
     obtain ⟨A,c,hv⟩:=hv
     have hb:=sliceBounds_run (X:=X) hs (b:=true) (cap:=c) hl hh h0 h1 h2 (Nat.zero_le _)
     refine ⟨.slice (if c = 0 then A else A.map fun a=>a.add (0 * i.size)) 0 (c - 0),fun _=>?_,⟨0,.fr (.nil _ _ _ _)⟩,rfl⟩
     simp only [execOp,ho,Instr.sliceAt,Instr.slice,hv,Sem.run_bind,run_underlying hund,Result.andThen_ok,Option.map_none,hb,run_size hi',Sem.run_pure,Int.toNat_zero,Nat.sub_self]
    ·have hb':=sliceBounds_run (X:=X) hs (b:=true) (cap:=cap) hl hh h0 h1 h2 hcap
     have hrun:∀ w,(execOp a.eval o).run X.P w = .ok (.value (.slice (if cap = l.toNat then some ⟨b,off,none⟩ else some ⟨b,off + l.toNat * z,none⟩) (h'.toNat - l.toNat) (cap - l.toNat))) w:=fun w=>by
      simp only [execOp,ho,Instr.sliceAt,Instr.slice,hv,Sem.run_bind,run_underlying hund,Result.andThen_ok,Option.map_none,hb',run_size hi',Sem.run_pure,Option.map_some,add_mk,hsz]
     refine ⟨_,hrun,⟨0,.fr ?_⟩,rfl⟩
     by_cases hcl:cap = l.toNat
     ·rw [if_pos hcl]
      have hn0:h'.toNat - l.toNat = 0:=by omega
      rw [hn0]
      exact .row b off _ z 0 _ ds hb (Nat.zero_le _) (by omega) (fun i hi=>by omega) (fun i j y hi=>by omega) (fun i j y hi=>by omega)
     ·rw [if_neg hcl]
      refine .row b _ _ z _ _ (fun i j=>ds (l.toNat + i) j) hb (by omega) (by omega) (fun i hi=>hlen _ (by omega)) (fun i j y hi hy=>?_) (fun i j y hi hy=>h6 _ _ _ (by omega) hy)
      rw [← h5 (l.toNat + i) j y (by omega) hy,Nat.add_mul,Nat.add_assoc off]
   ·cases h
  ·cases h
 ·rename_i e p hu hx
  split at h
  ·rename_i z e' n f hlook
   split at h
   ·rename_i l h' z' hl hh hz
    split at h
    ·rename_i hzz
     obtain rfl:z = z':=Nat.eq_of_beq_eq_true hzz
     cases h
     have h0:=hc (0 ≤ l) (by simp)
     have h1:=hc (l ≤ h') (by simp)
     have h2:=hc (h' ≤ (n:Int)) (by simp)
     have hund:=hT.und hu
     obtain ⟨k,hk⟩:=ev_rel hs x
     rw [hx] at hk
     obtain ⟨i,hi',hsz⟩:=hT.info hz
     obtain ⟨z2,e2,n2,f2,hl2,hv⟩:=hk
     rw [hlook] at hl2
     cases hl2
     rcases hv with ⟨hv,hn⟩ | ⟨b,cap,c,hb,hv,hrow,hcs,hn,hm⟩
     ·subst hn
      have hl0:l = 0:=by omega
      have hh0:h' = 0:=by omega
      subst hl0 hh0
      have hb:=sliceBounds_run (X:=X) hs (b:=true) (cap:=0) hl hh h0 h1 h2 (Nat.zero_le _)
      refine ⟨.slice (if 0 = 0 then none else none) 0 (0 - 0),fun _=>?_,⟨0,⟨z,e',0,f,_,_,hlook,by simp,rfl,.inl rfl⟩⟩,rfl⟩
      simp only [execOp,ho,Instr.sliceAt,Instr.slice,hv,Sem.run_bind,run_underlying hund,Result.andThen_ok,Option.map_none,hb,run_size hi',Sem.run_pure,Int.toNat_zero,Nat.sub_self]
     ·have hb':=sliceBounds_run (X:=X) hs (b:=true) (cap:=cap) hl hh h0 h1 h2 hn
      have hrun:∀ w,(execOp a.eval o).run X.P w = .ok (.value (.slice (if cap = l.toNat then some ⟨b,0,none⟩ else some ⟨b,0 + l.toNat * z,none⟩) (h'.toNat - l.toNat) (cap - l.toNat))) w:=fun w=>by
       simp only [execOp,ho,Instr.sliceAt,Instr.slice,hv,Sem.run_bind,run_underlying hund,Result.andThen_ok,Option.map_none,hb',run_size hi',Sem.run_pure,Option.map_some,add_mk,hsz]
      refine ⟨_,hrun,⟨0,⟨z,e',n,f,_,_,hlook,by omega,rfl,?_⟩⟩,rfl⟩
      by_cases hcl:cap = l.toNat
      ·left; omega
      ·right
       rw [if_neg hcl,Nat.zero_add]
       exact ⟨b,cap,c,hb,rfl,hrow,hcs,hn,hm⟩
    ·cases h
   ·cases h
  ·cases h
 ·rename_i m e cells hu hx
  split at h
  ·rename_i k' l hsel hz
   split at h
   ·rename_i hb3
    cases h
    simp only [Bool.and_eq_true] at hb3
    have hlen:=Nat.eq_of_beq_eq_true hb3.1.1
    have hm1:=Nat.le_of_ble_eq_true hb3.1.2
    have hm2:=Nat.le_of_ble_eq_true hb3.2
    have hund:=hT.und hu
    obtain ⟨k,hk⟩:=ev_rel hs x
    rw [hx] at hk
    obtain ⟨b,off,hv,hb,hcell⟩:=(show S1 g w σ k 0 (a.eval x) (.rp cells) from hk)
    obtain ⟨i1,hi1,hsz⟩:=hT.info hz
    refine ⟨.slice (some ⟨b,off,none⟩) m m,fun w'=>?_,⟨0,.fr (.row b off m 1 m _ (fun i _=>.int k' (l.getD i 0)) hb (Nat.le_refl _) (by unfold maxLen; omega) (fun _ _=>rfl) (fun i j y hi hy=>?_) fun i j y hi hy=>?_)⟩,rfl⟩
    ·have hbd:=sliceBounds_run (X:=X) hs (b:=false) (len:=m) (cap:=m) (lo:=none) (hi:=none) (l:=0) (h:=(m:Int)) rfl rfl (Int.le_refl _) (by omega) (Int.le_refl _) (Nat.le_refl _) w'
     simp only [Option.map_none] at hbd
     simp only [execOp,ho,hv,Instr.sliceAt,Sem.run_bind,run_underlying hund,Result.andThen_ok,Instr.sureAddr,Sem.run_pure,Option.map_none,hbd,run_size hi1,hsz]
     have hne:¬ (m = (0:Int).toNat):=by simp; omega
     rw [if_neg hne]
     simp [add_mk]
    ·cases j with
     | succ j=>simp at hy
     | zero =>
      have:=selInt_at hsel i (by omega)
      rw [List.getElem?_take,if_pos hi] at this
      obtain ⟨u,hu',hr⟩:=hcell _ _ this
      cases hr
      rw [Nat.mul_one,Nat.add_zero]
      exact hu'
    ·cases j with
     | succ j=>simp at hy
     | zero =>
      simp only [List.getElem?_cons_zero,Option.some.injEq] at hy
      subst hy
      exact .int _ _
   ·cases h
  ·cases h
 ·cases h

theorem nilCheck_sound (hs:Sat X g σ a w) {x:Operand} {cs:List Prop} {sv:SV} {o:Oper} (ho:o.op = .nilCheck x) (h:evalPure T σ (.nilCheck x) = some (cs,sv)):Comes0 X g σ a w o sv:=by
 simp only [evalPure] at h
 obtain ⟨k,hk⟩:=ev_rel hs x
 have fin:∀ A,a.eval x = .pointer (some A) → sv = σ.ev x → sv.pure = true → Comes0 X g σ a w o sv:=fun A hA hsv hp=>by
  refine ⟨.pointer (some A),fun w'=>?_,⟨k,?_⟩,hp⟩
  ·simp only [execOp,ho,hA]; rfl
  ·rw [hsv,← hA]; exact hk
 split at h
 ·rename_i o' off hx
  cases h
  rw [hx] at hk
  exact fin _ (show S1 g w σ k 0 (a.eval x) (.pc o' off) from hk).1 hx.symm rfl
 ·rename_i cells hx
  cases h
  rw [hx] at hk
  obtain ⟨b,off,hv,_⟩:=(show S1 g w σ k 0 (a.eval x) (.rp cells) from hk)
  exact fin _ hv hx.symm rfl
 ·rename_i p i j z hx
  cases h
  rw [hx] at hk
  obtain ⟨b,e,n,f,_,_,_,hv⟩:=(show S1 g w σ k 0 (a.eval x) (.pe p i j z) from hk)
  exact fin _ hv hx.symm rfl
 ·rename_i p i j m q z hx
  cases h
  rw [hx] at hk
  obtain ⟨b,e,n,f,_,_,_,hv,_⟩:=(show S1 g w σ k 0 (a.eval x) (.pa p i j m q z) from hk)
  exact fin _ hv hx.symm rfl
 ·cases h

/-- What the evaluation of an operation that is no load says of its run, in whatever world. -/
theorem evalPure_still (hT:TabOk X.P T) (hs:Sat X g σ a w) {o:Oper} {cs:List Prop} {sv:SV} (h:evalPure T σ o.op = some (cs,sv)) (hc:∀ c ∈ cs,c) (hl:¬ ∃ t x,o.op = .load t x):Comes0 X g σ a w o sv:=by
 cases ho:o.op with
 | move x=>rw [ho] at h; exact move_sound hs ho h
 | assign x=>rw [ho] at h; exact assign_sound hs ho h
 | pick c x y=>rw [ho] at h; exact pick_sound hs ho h
 | load t x=>exact absurd ⟨t,x,ho⟩ hl
 | fieldAddr t x f=>rw [ho] at h; exact fieldAddr_sound hT hs ho h
 | field t x f=>rw [ho] at h; exact field_sound hT hs ho h
 | indexAddr t x i=>rw [ho] at h; exact indexAddr_sound hT hs ho h hc
 | index t x i=>rw [ho] at h; exact index_sound hT hs ho h hc
 | binOp op t x y yt=>rw [ho] at h; exact binSV_sound hT hs ho h hc
 | unOp op t x=>rw [ho] at h; exact unOp_sound hs ho h
 | convert s d x=>rw [ho] at h; exact convert_sound hT hs ho h
 | makeFunc fn fs caps=>rw [ho] at h; exact makeFunc_sound hs ho h
 | slice t x lo hi mx=>rw [ho] at h; exact slice_sound hT hs ho h hc
 | extract x i=>rw [ho] at h; exact extract_sound hs ho h
 | build t parts=>rw [ho] at h; exact build_sound hT hs ho h
 | nilCheck x=>rw [ho] at h; exact nilCheck_sound hs ho h
 | call c =>
  rw [ho] at h
  obtain ⟨callee,as,ts⟩:=c
  cases callee with
  | builtin b =>
   cases b <;> first
    | exact len_sound hT hs ho h
    | exact max_sound hs ho h
    | exact min_sound hs ho h
    | (simp only [evalPure] at h; cases h)
  | _=>simp only [evalPure] at h; cases h
 | _=>rw [ho] at h; simp only [evalPure] at h; cases h


/-- What the evaluation of an operation says of its run. -/
theorem evalPure_sound (hT:TabOk X.P T) (hs:Sat X g σ a w) {o:Oper} {cs:List Prop} {sv:SV} (h:evalPure T σ o.op = some (cs,sv)) (hc:∀ c ∈ cs,c):Comes1 X g σ a w o sv:=by
 by_cases hl:∃ t x,o.op = .load t x
 ·obtain ⟨t,x,ho⟩:=hl
  rw [ho] at h; exact load_sound hT hs ho h
 ·exact (evalPure_still hT hs h hc hl).one

end
end Go.Sx

namespace Go.Sx
open Go

section
variable {X:Ctx} {g:Gh} {σ:AState} {a:Act} {w:World} {T:Tab}

def inL:List Nat → Nat → Bool
 | [],_=>false
 | x :: r,k=>Nat.beq x k || inL r k

theorem inL_iff {l:List Nat} {k:Nat}:inL l k = true ↔ k ∈ l:=by
 induction l with
 | nil=>simp [inL]
 | cons x r ih=>simp only [inL,Bool.or_eq_true,Nat.beq_eq,ih,List.mem_cons]; exact ⟨fun h=>h.imp Eq.symm id,fun h=>h.imp Eq.symm id⟩

/-- Places outside the slots ks and the first n objects. -/
def outside (ks:List Nat) (n:Nat) (p:Path):Bool :=
 match p.1 with
 | .slot k _=>!inL ks k
 | .cell o _=>Nat.ble n o
 | .obj o=>Nat.ble n o

/-- Only the slots ks and the first n objects are kept. -/
def AState.keep (σ:AState) (ks:List Nat) (n:Nat):AState :=
 { env:=ks.map fun k=>(k,(σ.get k).drop (outside ks n)),heap:=σ.heap.take n }

theorem get_keep (σ:AState) (ks:List Nat) (n k:Nat):(σ.keep ks n).get k = if k ∈ ks then (σ.get k).drop (outside ks n) else .junk:=by
 have key:∀ (l:List Nat),lookS (l.map fun k=>(k,(σ.get k).drop (outside ks n))) k = if k ∈ l then (σ.get k).drop (outside ks n) else .junk:=by
  intro l
  induction l with
  | nil=>simp [lookS]
  | cons x r ih =>
   simp only [List.map_cons,lookS]
   cases hb:Nat.beq x k with
   | true=>obtain rfl:=Nat.eq_of_beq_eq_true hb; simp
   | false =>
    have hne:k ≠ x:=by rintro rfl; simp at hb
    simp only [ih,List.mem_cons,hne,false_or]
 exact key ks

theorem rootTV_of_drop {σ σ':AState} {R:Path → Bool} {k j:Nat} (h:σ'.get k = (σ.get k).drop R):σ'.rootTV (.slot k j) = σ.rootTV (.slot k j):=by
 have:=rootTV_drop σ R (.slot k j)
 simp only [AState.rootTV,get_drop] at this ⊢
 rw [h]
 exact this

theorem Sat.keep (h:Sat X g σ a w) (ks:List Nat) (n:Nat) (hn:X.h0 ≤ n) (hn':X.h0 ≤ σ.heap.length):Sat X (g.clr (outside ks n)) (σ.keep ks n) a w:=by
 refine h.less (outside ks n) (fun k=>?_) (fun o t cs ho=>?_) (fun p hp z e m f hl=>?_) (fun p hp hi=>?_) (fun o ho hl=>?_) ?_
 ·by_cases hk:k ∈ ks
  ·refine .inr ⟨by rw [get_keep,if_pos hk],fun j st=>?_⟩
   simp only [outside,inL_iff.2 hk,Bool.not_true]
  ·exact .inl (by rw [get_keep,if_neg hk])
 ·simp only [AState.keep,List.getElem?_take] at ho
  split at ho
  ·rename_i hlt
   have hb:Nat.ble n o = false:=by cases hb:Nat.ble n o with | false=>rfl | true=>have:=Nat.le_of_ble_eq_true hb; omega
   exact ⟨cs,ho,rfl,hb,fun i y hy=>.inr ⟨hy,fun st=>hb⟩⟩
  ·cases ho
 ·rw [look_eq (σ:=σ)]
  ·exact hl
  ·obtain ⟨r,st⟩:=p
   cases r with
   | slot k j =>
    simp only [outside,Bool.not_eq_false'] at hp
    exact rootTV_of_drop (by rw [get_keep,if_pos (inL_iff.1 hp)])
   | cell o off =>
    simp only [outside] at hp
    have:o < n:=by
     rcases Nat.lt_or_ge o n with h | h
     ·exact h
     ·rw [Nat.ble_eq_true_of_le h] at hp; cases hp
    simp only [AState.rootTV,AState.keep,List.getElem?_take,if_pos this]
   | obj o=>rfl
 ·obtain ⟨r,st⟩:=p
  cases r with
  | slot k j=>trivial
  | cell o off =>
   simp only [outside] at hp
   simp only [Root.idOk,AState.keep,List.length_take] at hi ⊢
   rcases Nat.lt_or_ge o n with h | h
   ·omega
   ·rw [Nat.ble_eq_true_of_le h] at hp; cases hp
  | obj o =>
   simp only [outside] at hp
   simp only [Root.idOk,AState.keep,List.length_take] at hi ⊢
   rcases Nat.lt_or_ge o n with h | h
   ·omega
   ·rw [Nat.ble_eq_true_of_le h] at hp; cases hp
 ·simp only [outside] at ho
  simp only [AState.keep,List.length_take]
  rcases Nat.lt_or_ge o n with h | h
  ·omega
  ·rw [Nat.ble_eq_true_of_le h] at ho; cases ho
 ·simp only [AState.keep,List.length_take]; omega

/-- A new object. -/
def Gh.obj (g:Gh) (b o:Nat):Gh :=
 { ow:=fun k=>match Nat.beq k b with | true=>some (.obj o,[]) | false=>g.ow k,P:=g.P,m:=fun k=>match Nat.beq k o with | true=>b | false=>g.m k }

theorem beq_ne {a b:Nat} (h:a ≠ b):Nat.beq a b = false:=by
 cases hb:Nat.beq a b with
 | false=>rfl
 | true=>exact absurd (Nat.eq_of_beq_eq_true hb) h

/-- The same, where nothing is known of some cells. -/
theorem Sat.newObjH (h:Sat X g σ a w) {c:Array Value} {cs:List TV} (t:TypeId) (hc1:c.size = cs.length) (hc2:∀ (i:Nat) y,cs[i]? = some y → ∃ u,c[i]? = some u ∧ (y = .hole ∨ FRel g.P w u y)) :
  Sat X (g.obj w.heap.size σ.heap.length) { σ with heap:=σ.heap ++ [.cells t cs] } a (w.alloc (.cells c t)):=by
 have hold:∀ b,b < w.heap.size → (w.alloc (.cells c t)).heap[b]? = w.heap[b]?:=fun b hb=>heap_alloc_old w _ hb
 have how:∀ b p,g.ow b = some p → (g.obj w.heap.size σ.heap.length).ow b = some p:=fun b p hb=>by
  simp only [Gh.obj,beq_ne (Nat.ne_of_lt (h.lt b p hb).1)]; exact hb
 have U:Up g (g.obj w.heap.size σ.heap.length) σ { σ with heap:=σ.heap ++ [.cells t cs] } w (w.alloc (.cells c t)) (fun _=>false) :=
  ⟨fun b hb=>⟨hb,hold b (h.frozen b hb).2⟩,fun b p hb _=>⟨how b p hb,hold b (h.lt b p hb).1⟩,fun p _ z e m f hl=>by
   obtain ⟨r,st⟩:=p
   rw [look_eq (σ:=σ)]
   ·exact hl
   ·cases r with
    | slot k j=>rfl
    | cell o off =>
     simp only [AState.rootTV]
     by_cases ho:o < σ.heap.length
     ·rw [List.getElem?_append_left ho]
     ·-- the old place did not exist: nothing was looked up there
      exfalso
      have hnone:σ.rootTV (.cell o off) = none:=by simp [AState.rootTV,List.getElem?_eq_none (show σ.heap.length ≤ o by omega)]
      have hl':σ.look (.cell o off,st) = none:=by
       simp only [AState.look,hnone]
       clear hl
       induction st with
       | nil=>rfl
       | cons x r ih=>simp only [List.foldr_cons,ih,Option.bind_none]
      rw [hl'] at hl; cases hl
    | obj o=>rfl,fun o _ ho=>⟨by simp only [Gh.obj,beq_ne (Nat.ne_of_lt ho)],by simp; omega⟩⟩
 have drop0:∀ sv:SV,sv.drop (fun _=>false) = sv:=by
  have d1:∀ sv:SV,sv.drop1 (fun _=>false) = sv:=by
   intro sv
   unfold SV.drop1
   cases sv <;> rfl
  intro sv
  rcases sv.three with ⟨vs,rfl⟩ | ⟨f,vs,rfl⟩ | hf
  ·simp only [SV.drop]; congr 1; exact (List.map_congr_left fun x _=>d1 x).trans (List.map_id' vs)
  ·simp only [SV.drop]; congr 1; exact (List.map_congr_left fun x _=>d1 x).trans (List.map_id' vs)
  ·rw [drop_flat hf,d1]
 refine ⟨h.defers,h.size,fun k=>?_,fun o t' cs' ho=>?_,fun b b' p hb hb'=>?_,fun b hb=>?_,fun b p hb=>?_,fun b p hb=>?_,h.P0,h.P1,fun b hb h0=>?_,h.os,h.tape,h.output,?_,fun o ho=>?_,?_⟩
 ·have:=U.slot (fun j st=>rfl) (h.env k)
  rw [drop0] at this
  exact this
 ·by_cases hlt:o < σ.heap.length
  ·simp only [List.getElem?_append_left hlt] at ho
   obtain ⟨c',h1,h2,h3,h4⟩:=h.heap o t' cs' ho
   have hm:(g.obj w.heap.size σ.heap.length).m o = g.m o:=by simp only [Gh.obj,beq_ne (Nat.ne_of_lt hlt)]
   rw [hm]
   refine ⟨c',by rw [hold _ (h.lt _ _ h2).1]; exact h1,how _ _ h2,h3,fun i y hy=>?_⟩
   obtain ⟨u,hu,hr⟩:=h4 i y hy
   exact ⟨u,hu,U.tv (fun _=>rfl) hr⟩
  ·rw [List.getElem?_append_right (by omega)] at ho
   have ho':o = σ.heap.length:=by
    rcases Nat.lt_or_ge (o - σ.heap.length) 1 with hh | hh
    ·omega
    ·rw [List.getElem?_eq_none (by simpa using hh)] at ho; cases ho
   subst ho'
   simp only [Nat.sub_self,List.getElem?_cons_zero,Option.some.injEq,AObj.cells.injEq] at ho
   obtain ⟨rfl,rfl⟩:=ho
   have hm:(g.obj w.heap.size σ.heap.length).m σ.heap.length = w.heap.size:=by simp [Gh.obj]
   rw [hm]
   refine ⟨c,heap_alloc_new w _,by simp [Gh.obj],hc1,fun i y hy=>?_⟩
   obtain ⟨u,hu,hr⟩:=hc2 i y hy
   rcases hr with rfl | hr
   ·exact ⟨u,hu,.hole⟩
   ·exact ⟨u,hu,.fr (hr.mono fun b hb=>⟨hb,hold b (h.frozen b hb).2⟩)⟩
 ·simp only [Gh.obj] at hb hb'
  have hnew:∀ b,g.ow b ≠ some (.obj σ.heap.length,[]):=fun b hb=>by
   have:=h.ids b _ hb
   simp only [Root.idOk] at this
   omega
  split at hb
  ·rename_i e1
   split at hb'
   ·rename_i e2
    exact (Nat.eq_of_beq_eq_true e1).trans (Nat.eq_of_beq_eq_true e2).symm
   ·cases hb; exact absurd hb' (hnew b')
  ·split at hb'
   ·cases hb'; exact absurd hb (hnew b)
   ·exact h.inj b b' p hb hb'
 ·obtain ⟨h1,h2⟩:=h.frozen b hb
  exact ⟨by simp only [Gh.obj,beq_ne (Nat.ne_of_lt h2)]; exact h1,by simp; omega⟩
 ·simp only [Gh.obj] at hb
  split at hb
  ·rename_i e1
   have:=Nat.eq_of_beq_eq_true e1
   subst this
   exact ⟨by simp,.inl h.mono⟩
  ·obtain ⟨h1,h2⟩:=h.lt b p hb
   exact ⟨by simp; omega,h2⟩
 ·simp only [Gh.obj] at hb
  split at hb
  ·cases hb; simp [Root.idOk]
  ·have:=h.ids b p hb
   obtain ⟨r,st⟩:=p
   cases r <;> simp only [Root.idOk,List.length_append,List.length_singleton] at this ⊢ <;> omega
 ·exact (hold b (by have:=h.mono; omega)).trans (h.kept b hb h0)
 ·have:=h.mono; simp; omega
 ·have:=h.h0
  simp only [Gh.obj,beq_ne (show o ≠ σ.heap.length by omega)]
  exact h.m0 o ho
 ·have:=h.h0; simp; omega

theorem Sat.newObj (h:Sat X g σ a w) {c:Array Value} {cs:List TV} (t:TypeId) (hc:CellsRel g.P w c cs) :
  Sat X (g.obj w.heap.size σ.heap.length) { σ with heap:=σ.heap ++ [.cells t cs] } a (w.alloc (.cells c t)) :=
 h.newObjH t hc.1 fun i y hy=>(hc.2 i y hy).imp fun _ hu=>⟨hu.1,.inr hu.2⟩


/-- A block is a slot's own. -/
def Gh.give (g:Gh) (b:Nat) (p:Path):Gh :=
 { g with ow:=fun k=>match Nat.beq k b with | true=>some p | false=>g.ow k }

theorem give_ne {g:Gh} {b k:Nat} {p:Path} (h:k ≠ b):(g.give b p).ow k = g.ow k:=by simp only [Gh.give,beq_ne h]
theorem give_eq {g:Gh} {b:Nat} {p:Path}:(g.give b p).ow b = some p:=by simp [Gh.give]

/-- What a world that goes on keeps, but for one block. -/
structure Goes (w w':World) (nb:Nat):Prop where
 heap:∀ b,b < w.heap.size → b ≠ nb → w'.heap[b]? = w.heap[b]?
 size:w.heap.size ≤ w'.heap.size
 os:w'.os = w.os
 tape:w'.tape = w.tape
 output:w'.output = w.output

/-- A slice that the call makes, or that it has made anew, goes into a slot. -/
theorem Sat.putOwn (h:Sat X g σ a w) {d:Nat} (hd:d < X.n) {nb:Nat} {w':World} (hw:Goes w w' nb) (ho:g.ow nb = none) (hP:¬ g.P nb)
  (hnew:X.w0.heap.size ≤ nb ∨ X.g0.ow nb ≠ none) (hlt:nb < w'.heap.size) {z n cap:Nat} {e:TypeId} {f:Nat → List TV} {c:Array Value} {cs:Nat → Nat → Value}
  (hc:Row w' nb e c) (hsz:c.size = cap * z) (hn:n ≤ cap) (hm:cap ≤ maxLen) (hz:∀ i,i < n → (f i).length = z)
  (hcs:∀ i j y,i < n → (f i)[j]? = some y → c[i * z + j]? = some (cs i j)) (hr:∀ i j y,i < n → (f i)[j]? = some y → FRel g.P w (cs i j) y) :
  Sat X ((g.clr (under d)).give nb (.slot d 0,[])) (σ.put d (.tv (.own z e n f))) (a.put (some d) (.slice (some ⟨nb,0,none⟩) n cap)) w':=by
 have hPs:∀ b,g.P b → g.P b ∧ w'.heap[b]? = w.heap[b]?:=fun b hb=>⟨hb,hw.heap b (h.frozen b hb).2 (fun e=>hP (e ▸ hb))⟩
 have hK:∀ b p,g.ow b = some p → under d p = false → ((g.clr (under d)).give nb (.slot d 0,[])).ow b = some p ∧ w'.heap[b]? = w.heap[b]?:=fun b p hb hp=>by
  have hne:b ≠ nb:=by rintro rfl; rw [ho] at hb; cases hb
  exact ⟨by rw [give_ne hne]; exact clr_some.2 ⟨hb,hp⟩,hw.heap b (h.lt b p hb).1 hne⟩
 have U:Up g ((g.clr (under d)).give nb (.slot d 0,[])) σ (σ.put d (.tv (.own z e n f))) w w' (under d) :=
  ⟨hPs,hK,fun p hp z e m f hl=>by rw [look_put _ _ _ _ hp]; exact hl,fun _ _ ho=>⟨rfl,ho⟩⟩
 have hts:a.tmps.size = X.n:=h.size
 refine ⟨h.defers,by simp only [Act.put,Array.size_setIfInBounds]; exact hts,fun q=>?_,fun o t cs' ho'=>?_,fun b b' p hb hb'=>?_,fun b hb=>?_,fun b p hb=>?_,fun b p hb=>?_,h.P0,h.P1,fun b hb h0=>?_,hw.os.trans h.os,hw.tape.trans h.tape,hw.output.trans h.output,Nat.le_trans h.mono hw.size,h.m0,h.h0⟩
 ·rw [tmps_put _ _ _ _ (by omega),get_put]
  by_cases hq:q = d
  ·subst hq
   simp only [if_true]
   exact TRel.own (p:=(.slot q 0,[])) nb cap z e n f c cs give_eq hc hsz hn hm hz hcs fun i j y hi hy=>.fr ((hr i j y hi hy).mono hPs)
  ·rw [if_neg hq,if_neg hq]
   exact U.slot (fun j st=>under_slot hq j st) (h.env q)
 ·obtain ⟨c',h1,h2,h3,h4⟩:=h.heap o t cs' ho'
  obtain ⟨k1,k2⟩:=hK _ _ h2 rfl
  refine ⟨c',k2.trans h1,k1,h3,fun i y hy=>?_⟩
  obtain ⟨u,hu,hr⟩:=h4 i y hy
  exact ⟨u,hu,U.tv (fun _=>rfl) hr⟩
 ·have no:∀ b p,b ≠ nb → ((g.clr (under d)).give nb (.slot d 0,[])).ow b = some p → g.ow b = some p ∧ under d p = false:=fun b p hne hb=>by
   rw [give_ne hne] at hb; exact clr_some.1 hb
  by_cases e1:b = nb
  ·subst e1
   rw [give_eq] at hb
   cases hb
   by_cases e2:b' = b
   ·exact e2.symm
   ·have:=(no b' _ e2 hb').2
    simp [under] at this
  ·by_cases e2:b' = nb
   ·subst e2
    rw [give_eq] at hb'
    cases hb'
    have:=(no b _ e1 hb).2
    simp [under] at this
   ·exact h.inj b b' p (no b p e1 hb).1 (no b' p e2 hb').1
 ·have hne:b ≠ nb:=fun e=>hP (e ▸ hb)
  obtain ⟨h1,h2⟩:=h.frozen b hb
  exact ⟨by rw [give_ne hne]; exact clr_none h1,Nat.lt_of_lt_of_le h2 hw.size⟩
 ·by_cases e1:b = nb
  ·subst e1; exact ⟨hlt,hnew⟩
  ·rw [give_ne e1] at hb
   obtain ⟨h1,h2⟩:=h.lt b p (clr_some.1 hb).1
   exact ⟨Nat.lt_of_lt_of_le h1 hw.size,h2⟩
 ·by_cases e1:b = nb
  ·subst e1; rw [give_eq] at hb; cases hb; trivial
  ·rw [give_ne e1] at hb
   exact h.ids b p (clr_some.1 hb).1
 ·have hne:b ≠ nb:=by
   rintro rfl
   rcases hnew with h1 | h1
   ·omega
   ·exact h1 h0
  exact (hw.heap b (by have:=h.mono; omega) hne).trans (h.kept b hb h0)

/-- The nil slice as a slice of the call's own. -/
theorem Sat.putNil (h:Sat X g σ a w) {d:Nat} (hd:d < X.n) (z:Nat) (e:TypeId) (f:Nat → List TV) :
  Sat X (g.clr (under d)) (σ.put d (.tv (.own z e 0 f))) (a.put (some d) (.slice none 0 0)) w :=
 h.putAny hd (.nil z e f)

/-- The places of a root. -/
def rootR:Root → Path → Bool
 | .slot k _=>under k
 | .cell o off=>fun p=>match p.1 with | .cell o' f=>Nat.beq o o' && Nat.beq off f | _=>false
 | .obj _=>fun _=>true

def holeAt (cs:List TV) (off:Nat):List TV:=cs.set off .hole

def setCells (h:List AObj) (o:Nat) (f:List TV → List TV):List AObj :=
 match h,o with
 | [],_=>[]
 | .cells t cs :: r,0=>.cells t (f cs) :: r
 | .dead :: r,0=>.dead :: r
 | x :: r,o + 1=>x :: setCells r o f

theorem setCells_length (f:List TV → List TV):∀ (h:List AObj) (o:Nat),(setCells h o f).length = h.length
 | [],_=>rfl
 | .cells _ _ :: r,0=>rfl
 | .dead :: r,0=>rfl
 | .cells _ _ :: r,o + 1=>by simp only [setCells,List.length_cons,setCells_length f r o]
 | .dead :: r,o + 1=>by simp only [setCells,List.length_cons,setCells_length f r o]

theorem setCells_ne (f:List TV → List TV):∀ (h:List AObj) (o o':Nat),o' ≠ o → (setCells h o f)[o']? = h[o']?
 | [],_,_,_=>rfl
 | .cells _ _ :: r,0,o',ho=>by cases o' with | zero=>exact absurd rfl ho | succ o'=>rfl
 | .dead :: r,0,o',ho=>rfl
 | .cells _ _ :: r,o + 1,o',ho=>by
  cases o' with
  | zero=>rfl
  | succ o'=>simp only [setCells,List.getElem?_cons_succ]; exact setCells_ne f r o o' (by omega)
 | .dead :: r,o + 1,o',ho=>by
  cases o' with
  | zero=>rfl
  | succ o'=>simp only [setCells,List.getElem?_cons_succ]; exact setCells_ne f r o o' (by omega)

theorem setCells_eq (f:List TV → List TV):∀ {h:List AObj} {o:Nat} {t:TypeId} {cs:List TV},h[o]? = some (.cells t cs) → (setCells h o f)[o]? = some (.cells t (f cs))
 | [],_,_,_,h=>by simp at h
 | .cells _ _ :: r,0,_,_,h=>by simp only [List.getElem?_cons_zero,Option.some.injEq,AObj.cells.injEq] at h; obtain ⟨rfl,rfl⟩:=h; rfl
 | .dead :: r,0,_,_,h=>by simp at h
 | .cells _ _ :: r,o + 1,_,_,h=>by simp only [setCells,List.getElem?_cons_succ] at h ⊢; exact setCells_eq f h
 | .dead :: r,o + 1,_,_,h=>by simp only [setCells,List.getElem?_cons_succ] at h ⊢; exact setCells_eq f h

theorem setCells_some (f:List TV → List TV) {h:List AObj} {o:Nat} {t:TypeId} {cs:List TV} (hs:(setCells h o f)[o]? = some (.cells t cs)):∃ cs0,h[o]? = some (.cells t cs0) ∧ cs = f cs0:=by
 cases hh:h[o]? with
 | none =>
  rw [List.getElem?_eq_none (by rw [setCells_length]; exact List.getElem?_eq_none_iff.1 hh)] at hs
  cases hs
 | some x =>
  cases x with
  | cells t' cs0 =>
   rw [setCells_eq f hh] at hs
   simp only [Option.some.injEq,AObj.cells.injEq] at hs
   obtain ⟨rfl,rfl⟩:=hs
   exact ⟨cs0,rfl,rfl⟩
  | dead =>
   exfalso
   have key:∀ (h:List AObj) (o:Nat),h[o]? = some .dead → (setCells h o f)[o]? = some .dead:=by
    intro h
    induction h with
    | nil=>intro o h; simp at h
    | cons x r ih =>
     intro o ho
     cases o with
     | zero=>simp only [List.getElem?_cons_zero,Option.some.injEq] at ho; subst ho; rfl
     | succ o=>simp only [List.getElem?_cons_succ] at ho; cases x <;> simp only [setCells,List.getElem?_cons_succ] <;> exact ih o ho
   rw [key h o hh] at hs
   cases hs

/-- What is at a root is known no more. -/
def AState.kill (σ:AState):Root → AState
 | .slot k _=>(σ.drop (under k)).set k .junk
 | .cell o off=>{ (σ.drop (rootR (.cell o off))) with heap:=setCells σ.heap o (holeAt · off) }
 | .obj _=>σ

theorem Sat.kill (h:Sat X g σ a w) {r:Root} (hr:∀ o,r ≠ .obj o):Sat X (g.clr (rootR r)) (σ.kill r) a w:=by
 cases r with
 | slot s j =>
  refine h.less (under s) (fun k=>?_) (fun o t cs ho=>⟨cs,ho,rfl,rfl,fun i y hy=>.inr ⟨hy,fun _=>rfl⟩⟩) (fun p hp z e n f hl=>?_) (fun _ _ hi=>hi) (fun _ _ ho=>ho) h.h0
  ·by_cases hk:k = s
   ·exact .inl (by simp only [AState.kill,get_set,if_pos hk])
   ·exact .inr ⟨by simp only [AState.kill,get_set,if_neg hk,get_drop],fun j st=>under_slot hk j st⟩
  ·simp only [AState.kill]
   rw [look_set _ _ _ _ hp,look_drop]
   exact hl
 | cell ob off =>
  have hcell:∀ {o i:Nat} {st:Steps},rootR (.cell ob off) (.cell o i,st) = false → ¬ (o = ob ∧ i = off):=by
   intro o i st hp hh
   obtain ⟨rfl,rfl⟩:=hh
   simp [rootR] at hp
  refine h.less (rootR (.cell ob off)) (fun k=>.inr ⟨get_drop σ _ k,fun _ _=>rfl⟩) (fun o t cs ho=>?_) (fun p hp z e n f hl=>?_) (fun p _ hi=>?_) (fun o _ ho=>?_) ?_
  ·by_cases hoo:o = ob
   ·subst hoo
    obtain ⟨cs0,h0,rfl⟩:=setCells_some _ ho
    refine ⟨cs0,h0,by simp [holeAt],rfl,fun i y hy=>?_⟩
    simp only [holeAt,List.getElem?_set] at hy
    split at hy
    ·split at hy
     ·cases hy; exact .inl rfl
     ·cases hy
    ·rename_i hne
     exact .inr ⟨hy,fun st=>by simp only [rootR,beq_ne hne,Bool.and_false]⟩
   ·simp only [AState.kill] at ho
    rw [setCells_ne _ _ _ _ hoo] at ho
    exact ⟨cs,ho,rfl,rfl,fun i y hy=>.inr ⟨hy,fun st=>by simp only [rootR,beq_ne (Ne.symm hoo),Bool.false_and]⟩⟩
  ·rw [look_eq (σ:=σ)]
   ·exact hl
   ·obtain ⟨r,st⟩:=p
    cases r with
    | slot k j=>exact rootTV_drop σ _ (.slot k j)
    | cell o i =>
     have hne:=hcell hp
     simp only [AState.rootTV,AState.kill]
     by_cases hoo:o = ob
     ·subst hoo
      cases hh:σ.heap[o]? with
      | none=>rw [List.getElem?_eq_none (by rw [setCells_length]; exact List.getElem?_eq_none_iff.1 hh)]
      | some x =>
       cases x with
       | cells t cs =>
        rw [setCells_eq _ hh]
        simp only [holeAt,List.getElem?_set]
        rw [if_neg (fun e=>hne ⟨rfl,e.symm⟩)]
       | dead =>
        cases hh':(setCells σ.heap o (holeAt · off))[o]? with
        | none=>rfl
        | some y =>
         cases y with
         | dead=>rfl
         | cells t cs=>obtain ⟨cs0,h0,_⟩:=setCells_some _ hh'; rw [hh] at h0; cases h0
     ·rw [setCells_ne _ _ _ _ hoo]
    | obj o=>rfl
  ·have e:(σ.kill (.cell ob off)).heap.length = σ.heap.length:=setCells_length _ _ _
   rw [e]; exact hi
  ·have e:(σ.kill (.cell ob off)).heap.length = σ.heap.length:=setCells_length _ _ _
   rw [e]; exact ho
  ·have e:(σ.kill (.cell ob off)).heap.length = σ.heap.length:=setCells_length _ _ _
   rw [e]; exact h.h0
 | obj o=>exact absurd rfl (hr o)

end
end Go.Sx

namespace Go.Sx
open Go

section
variable {X:Ctx} {g:Gh} {σ:AState} {a:Act} {w:World} {T:Tab}

/-- What was under slot s is under slot d. -/
def Gh.mv (g:Gh) (s d:Nat):Gh :=
 { g with ow:=fun b=>match g.ow b with
  | some (.slot k j,st)=>if k = d then none else if k = s then (if j = 0 then some (.slot d 0,st) else none) else some (.slot k j,st)
  | some p=>some p
  | none=>none }

theorem mv_other {s d:Nat} {b:Nat} {p:Path} (h:g.ow b = some p) (h1:under d p = false) (h2:under s p = false):(g.mv s d).ow b = some p:=by
 obtain ⟨r,st⟩:=p
 simp only [Gh.mv,h]
 cases r with
 | slot k j =>
  have e1:k ≠ d:=by rintro rfl; simp [under] at h1
  have e2:k ≠ s:=by rintro rfl; simp [under] at h2
  simp only [if_neg e1,if_neg e2]
 | cell o off=>rfl
 | obj o=>rfl

theorem mv_slot {s d:Nat} (hne:s ≠ d) {b:Nat} {st:Steps} (h:g.ow b = some (.slot s 0,st)):(g.mv s d).ow b = some (.slot d 0,st):=by
 simp only [Gh.mv,h,if_neg hne,if_true]

theorem mv_inv {s d:Nat} {b:Nat} {p:Path} (h:(g.mv s d).ow b = some p):(g.ow b = some p ∧ under d p = false ∧ under s p = false) ∨ ∃ st,p = (.slot d 0,st) ∧ g.ow b = some (.slot s 0,st):=by
 simp only [Gh.mv] at h
 split at h
 ·rename_i k j st hb
  split at h
  ·cases h
  ·rename_i hd
   split at h
   ·rename_i hs
    split at h
    ·rename_i hj
     cases h
     subst hs hj
     exact .inr ⟨st,rfl,hb⟩
    ·cases h
   ·rename_i hs
    cases h
    exact .inl ⟨hb,under_slot hd _ _,under_slot hs _ _⟩
 ·rename_i p' hnot hb
  cases h
  refine .inl ⟨hb,?_,?_⟩
  ·obtain ⟨r,st⟩:=p
   cases r with
   | slot k j=>exact absurd rfl (hnot k j st)
   | _=>rfl
  ·obtain ⟨r,st⟩:=p
   cases r with
   | slot k j=>exact absurd rfl (hnot k j st)
   | _=>rfl
 ·cases h

def AState.mv (σ:AState) (s d:Nat) (x:TV):AState:=(((σ.drop (under d)).drop (under s)).set s .junk).set d (.tv x)

def either (p q:Path → Bool):Path → Bool:=fun x=>p x || q x

theorem drop1_drop1 (p q:Path → Bool) (sv:SV):(sv.drop1 p).drop1 q = sv.drop1 (either p q):=by
 unfold SV.drop1
 cases sv <;> simp only [SV.names1,either] <;> first | rfl | (rename_i x _ _ _ _ _; cases hp:p x <;> simp; done) | (rename_i x _ _ _; cases hp:p x <;> simp; done) | (rename_i x _ _; cases hp:p x <;> simp) | (rename_i x; cases hp:p x <;> simp) | (rename_i o _; cases hp:p (.obj o,[]) <;> simp)

theorem drop_drop (p q:Path → Bool) (sv:SV):(sv.drop p).drop q = sv.drop (either p q):=by
 rcases sv.three with ⟨vs,rfl⟩ | ⟨f,vs,rfl⟩ | hf
 ·simp only [SV.drop,List.map_map]; congr 1; exact List.map_congr_left fun x _=>drop1_drop1 p q x
 ·simp only [SV.drop,List.map_map]; congr 1; exact List.map_congr_left fun x _=>drop1_drop1 p q x
 ·rw [drop_flat hf,drop_flat (flat_drop1 hf),drop_flat hf,drop1_drop1]

theorem get_mv (σ:AState) (s d:Nat) (x:TV) (k:Nat):(σ.mv s d x).get k = if k = d then .tv x else if k = s then .junk else (σ.get k).drop (either (under d) (under s)):=by
 rw [AState.mv,get_set,get_set,get_drop,get_drop,drop_drop]

theorem look_mv (σ:AState) (s d:Nat) (x:TV) (p:Path) (h1:under d p = false) (h2:under s p = false):(σ.mv s d x).look p = σ.look p:=by
 rw [AState.mv,look_set _ _ _ _ h1,look_set _ _ _ _ h2,look_drop,look_drop]

theorem Sat.mv (h:Sat X g σ a w) {s d:Nat} (hne:s ≠ d) (hd:d < X.n) {x:TV} (hx:σ.get s = .tv x) :
  Sat X (g.mv s d) (σ.mv s d x) (a.put (some d) (a.tmps.getD s undef)) w:=by
 have or1:∀ {p:Path},either (under d) (under s) p = false → under d p = false ∧ under s p = false:=fun {p} hp=>by
  simpa [either] using hp
 have U:Up g (g.mv s d) σ (σ.mv s d x) w w (either (under d) (under s)) :=
  ⟨fun _ hb=>⟨hb,rfl⟩,fun _ _ hb hp=>⟨mv_other hb (or1 hp).1 (or1 hp).2,rfl⟩,fun p hp z e n f hl=>by rw [look_mv _ _ _ _ _ (or1 hp).1 (or1 hp).2]; exact hl,fun _ _ ho=>⟨rfl,ho⟩⟩
 have hsz:a.tmps.size = X.n:=h.size
 refine ⟨h.defers,by simp only [Act.put,Array.size_setIfInBounds]; exact hsz,fun q=>?_,fun o t cs ho=>?_,fun b b' p hb hb'=>?_,fun b hb=>?_,fun b p hb=>?_,fun b p hb=>?_,h.P0,h.P1,h.kept,h.os,h.tape,h.output,h.mono,h.m0,h.h0⟩
 ·rw [tmps_put _ _ _ _ (by omega),get_mv]
  by_cases hq:q = d
  ·subst hq
   simp only [if_true]
   have hs:=h.env s
   rw [hx] at hs
   exact TRel.mono (g':=g.mv s q) (w':=w) (p:=(.slot s 0,[])) (r':=.slot q 0) hs (fun _ hb=>⟨hb,rfl⟩) fun b st hb=>⟨mv_slot hne hb,rfl⟩
  ·rw [if_neg hq,if_neg hq]
   by_cases hqs:q = s
   ·rw [if_pos hqs]; trivial
   ·rw [if_neg hqs]
    exact U.slot (fun j st=>by simp only [either,under_slot hq,under_slot hqs,Bool.or_false]) (h.env q)
 ·obtain ⟨c,h1,h2,h3,h4⟩:=h.heap o t cs ho
  refine ⟨c,h1,mv_other h2 rfl rfl,h3,fun i y hy=>?_⟩
  obtain ⟨u,hu,hr⟩:=h4 i y hy
  exact ⟨u,hu,U.tv (fun _=>rfl) hr⟩
 ·rcases mv_inv hb with ⟨h1,h2,h3⟩ | ⟨st,rfl,h1⟩
  ·rcases mv_inv hb' with ⟨k1,_,_⟩ | ⟨st',rfl,k1⟩
   ·exact h.inj b b' p h1 k1
   ·simp [under] at h2
  ·rcases mv_inv hb' with ⟨k1,k2,_⟩ | ⟨st',e,k1⟩
   ·simp [under] at k2
   ·injection e with _ e2
    subst e2
    exact h.inj b b' _ h1 k1
 ·obtain ⟨h1,h2⟩:=h.frozen b hb
  exact ⟨by simp only [Gh.mv,h1],h2⟩
 ·rcases mv_inv hb with ⟨h1,_,_⟩ | ⟨st,rfl,h1⟩
  ·exact h.lt b p h1
  ·exact h.lt b _ h1
 ·rcases mv_inv hb with ⟨h1,_,_⟩ | ⟨st,rfl,h1⟩
  ·exact h.ids b p h1
  ·trivial

/-! ### Freezing -/

/-- What is at a root is frozen: nobody writes it any more. -/
def Gh.frz (g:Gh) (b:Nat):Gh :=
 { ow:=fun k=>match Nat.beq k b with | true=>none | false=>g.ow k,P:=fun k=>g.P k ∨ k = b,m:=g.m }

/-- Owned cells that are plain may be frozen. -/
def PlainTo (n:Nat) (f:Nat → List TV):Prop:=∀ i,i < n → (f i).all TV.plain = true

theorem frz_ne {b k:Nat} (h:k ≠ b):(g.frz b).ow k = g.ow k:=by simp only [Gh.frz,beq_ne h]

def AState.fix (σ:AState) (s:Nat) (x:TV):AState:=(σ.drop (under s)).set s (.tv x)

theorem get_fix (σ:AState) (s:Nat) (x:TV) (k:Nat):(σ.fix s x).get k = if k = s then .tv x else (σ.get k).drop (under s):=by
 rw [AState.fix,get_set,get_drop]

theorem look_fix (σ:AState) (s:Nat) (x:TV) (p:Path) (h:under s p = false):(σ.fix s x).look p = σ.look p:=by
 rw [AState.fix,look_set _ _ _ _ h,look_drop]

/-- A slot's value anew, where the frame and memory are as they were. -/
theorem Sat.refix (h:Sat X g σ a w) {s:Nat} {x:TV} {g':Gh} (hm:g'.m = g.m)
  (hP:∀ b,g.P b → g'.P b) (hO:∀ b p,g.ow b = some p → under s p = false → g'.ow b = some p) (hO':∀ b p,g'.ow b = some p → g.ow b = some p)
  (hPn:∀ b,g'.P b → g.P b ∨ (g'.ow b = none ∧ ∃ p,g.ow b = some p)) (hd:∀ b,g'.P b → g'.ow b = none)
  (hx:TRel g' w (.slot s 0,[]) (a.tmps.getD s undef) x):∀ (hz:X.P = X.P),Sat X g' (σ.fix s x) a w:=by
 intro _
 have U:Up g g' σ (σ.fix s x) w w (under s) :=
  ⟨fun b hb=>⟨hP b hb,rfl⟩,fun b p hb hp=>⟨hO b p hb hp,rfl⟩,fun p hp z e n f hl=>by rw [look_fix _ _ _ _ hp]; exact hl,fun o _ ho=>⟨by rw [hm],ho⟩⟩
 refine ⟨h.defers,h.size,fun q=>?_,fun o t cs ho=>?_,fun b b' p hb hb'=>h.inj b b' p (hO' _ _ hb) (hO' _ _ hb'),fun b hb=>⟨hd b hb,?_⟩,fun b p hb=>h.lt b p (hO' _ _ hb),fun b p hb=>h.ids b p (hO' _ _ hb),fun b hb=>?_,fun b hb=>hP b (h.P1 b hb),h.kept,h.os,h.tape,h.output,h.mono,fun o ho=>by rw [hm]; exact h.m0 o ho,h.h0⟩
 ·rw [get_fix]
  by_cases hq:q = s
  ·subst hq; simp only [if_true]; exact hx
  ·rw [if_neg hq]; exact U.slot (fun j st=>under_slot hq j st) (h.env q)
 ·obtain ⟨c,h1,h2,h3,h4⟩:=h.heap o t cs ho
  rw [hm]
  refine ⟨c,h1,hO _ _ h2 rfl,h3,fun i y hy=>?_⟩
  obtain ⟨u,hu,hr⟩:=h4 i y hy
  exact ⟨u,hu,U.tv (fun _=>rfl) hr⟩
 ·rcases hPn b hb with h1 | ⟨_,p,hp⟩
  ·exact (h.frozen b h1).2
  ·exact (h.lt b p hp).1
 ·rcases hPn b hb with h1 | ⟨_,p,hp⟩
  ·exact h.P0 b h1
  ·exact .inr (h.lt b p hp).2

/-- A slot's own slice is frozen. -/
theorem Sat.freeze (h:Sat X g σ a w) {s:Nat} {z:Nat} {e:TypeId} {n:Nat} {f:Nat → List TV} (hx:σ.get s = .tv (.own z e n f)) (hp:PlainTo n f) :
  ∃ g',Sat X g' (σ.fix s (.fz z n f)) a w:=by
 have hs:=h.env s
 rw [hx] at hs
 rcases own_inv (show TRel g w (.slot s 0,[]) (a.tmps.getD s undef) (.own z e n f) from hs) with ⟨hv,hn⟩ | ⟨b,cap,c,cs,h1,hv,h3,h4,h5,h6,h7,h8,h9⟩
 ·subst hn
  refine ⟨g.clr (under s),h.refix rfl (fun b hb=>hb) (fun b p hb hp=>clr_some.2 ⟨hb,hp⟩) (fun b p hb=>(clr_some.1 hb).1) (fun b hb=>.inl hb) (fun b hb=>clr_none (h.frozen b hb).1) ?_ rfl⟩
  rw [hv]; exact .fr (.nil _ _ _ _)
 ·refine ⟨(g.clr (under s)).frz b,h.refix rfl (fun b hb=>.inl hb) (fun b' p hb hp=>?_) (fun b' p hb=>?_) (fun b' hb=>?_) (fun b' hb=>?_) ?_ rfl⟩
  ·have:b' ≠ b:=by rintro rfl; rw [h1] at hb; cases hb; simp [under] at hp
   rw [frz_ne this]; exact clr_some.2 ⟨hb,hp⟩
  ·by_cases e1:b' = b
   ·subst e1; simp [Gh.frz] at hb
   ·rw [frz_ne e1] at hb; exact (clr_some.1 hb).1
  ·rcases hb with hb | rfl
   ·exact .inl hb
   ·exact .inr ⟨by simp [Gh.frz],_,h1⟩
  ·by_cases e1:b' = b
   ·subst e1; simp [Gh.frz]
   ·rw [frz_ne e1]
    rcases hb with hb | rfl
    ·exact clr_none (h.frozen b' hb).1
    ·exact absurd rfl e1
  ·rw [hv]
   refine .fr (.row b 0 cap z n f cs (.inr rfl) h5 h6 h7 (fun i j y hi hy=>?_) fun i j y hi hy=>?_)
   ·rw [Nat.zero_add]
    exact (h3.cell (i * z + j)).trans (h8 i j y hi hy)
   ·have hpl:y.plain = true:=by
     have:=hp i hi
     rw [List.all_eq_true] at this
     exact this y (List.mem_of_getElem? hy)
    exact ((h9 i j y hi hy).plain hpl).mono fun b' hb'=>⟨.inl hb',rfl⟩

/-- A slot's own slice told otherwise. -/
theorem Sat.ext (h:Sat X g σ a w) {s:Nat} {z:Nat} {e:TypeId} {n n':Nat} {f f':Nat → List TV} (hx:σ.get s = .tv (.own z e n f)) (hn:n = n') (hf:∀ i,i < n → f i = f' i) :
  Sat X g (σ.set s (.tv (.own z e n' f'))) a w:=by
 subst hn
 have hroot:∀ q,(σ.set s (.tv (.own z e n f'))).look q = σ.look q ∨ ∃ st,q = (.slot s 0,st):=fun q=>by
  obtain ⟨r,st⟩:=q
  cases r with
  | slot k j =>
   by_cases hk:k = s
   ·subst hk
    cases j with
    | zero=>exact .inr ⟨st,rfl⟩
    | succ j=>left; apply look_eq; simp only [AState.rootTV,get_set,if_true,hx]
   ·left; exact look_set _ _ _ _ (under_slot hk j st)
  | cell o off=>exact .inl rfl
  | obj o=>exact .inl rfl
 have hN:∀ p,Names g g w w σ (σ.set s (.tv (.own z e n f'))) p:=fun p=>by
  refine ⟨fun b hb=>⟨hb,fun c e hc=>⟨c,hc,rfl⟩⟩,fun z1 e1 n1 f1 hl=>?_,fun o _ ho=>⟨rfl,ho⟩⟩
  rcases hroot p with hr | ⟨st,rfl⟩
  ·exact ⟨f1,hr.trans hl⟩
  ·have r0:σ.rootTV (.slot s 0) = some (.own z e n f):=by simp only [AState.rootTV,hx]
   have r1:(σ.set s (.tv (.own z e n f'))).rootTV (.slot s 0) = some (.own z e n f'):=by simp only [AState.rootTV,get_set,if_true]
   have key:∀ st x,σ.look (.slot s 0,st) = some x → (st = [] ∧ x = .own z e n f) ∨ (st ≠ [] ∧ (σ.set s (.tv (.own z e n f'))).look (.slot s 0,st) = some x):=by
    intro st
    induction st with
    | nil =>
     intro x hl
     simp only [AState.look,List.foldr_nil,r0,Option.some.injEq] at hl
     exact .inl ⟨rfl,hl.symm⟩
    | cons ij st ih =>
     intro x hl
     refine .inr ⟨by simp,?_⟩
     have hl':(σ.look (.slot s 0,st)).bind (elemTV ij) = some x:=hl
     show ((σ.set s (.tv (.own z e n f'))).look (.slot s 0,st)).bind (elemTV ij) = some x
     obtain ⟨y,hy,he⟩:=Option.bind_eq_some_iff.1 hl'
     rcases ih y hy with ⟨rfl,rfl⟩ | ⟨_,hy'⟩
     ·simp only [AState.look,List.foldr_nil,r1,Option.bind_some]
      simp only [elemTV] at he ⊢
      split at he
      ·rename_i hi
       rw [← hf ij.1 (of_decide_eq_true hi)]
       exact he
      ·cases he
     ·rw [hy',Option.bind_some]; exact he
   rcases key st _ hl with ⟨rfl,e1⟩ | ⟨_,hl'⟩
   ·cases e1
    exact ⟨f',by simp only [AState.look,List.foldr_nil,r1]⟩
   ·exact ⟨f1,hl'⟩
 refine ⟨h.defers,h.size,fun q=>?_,h.heap,h.inj,h.frozen,h.lt,h.ids,h.P0,h.P1,h.kept,h.os,h.tape,h.output,h.mono,h.m0,h.h0⟩
 rw [get_set]
 by_cases hq:q = s
 ·subst hq
  simp only [if_true]
  have hs:=h.env q
  rw [hx] at hs
  exact TRel.ext (p:=(.slot q 0,[])) hs rfl hf
 ·rw [if_neg hq]
  exact (h.env q).mono ⟨fun _ hb=>⟨hb,rfl⟩,fun _ _ _ hb=>⟨hb,rfl⟩⟩ fun p _=>hN p

/-- A frozen slice told otherwise; the nil slice as a frozen one. -/
theorem Sat.extFz (h:Sat X g σ a w) {s:Nat} {x y:TV} (hx:σ.get s = .tv x) (hxy:∀ v,FRel g.P w v x → FRel g.P w v y) (hp:x.plain = true) :
  Sat X (g.clr (under s)) (σ.fix s y) a w:=by
 refine h.refix rfl (fun b hb=>hb) (fun b p hb hp=>clr_some.2 ⟨hb,hp⟩) (fun b p hb=>(clr_some.1 hb).1) (fun b hb=>.inl hb) (fun b hb=>clr_none (h.frozen b hb).1) ?_ rfl
 have hs:=h.env s
 rw [hx] at hs
 exact .fr (hxy _ (TRel.plain (g:=g) (p:=(.slot s 0,[])) hs hp))

end
end Go.Sx
