/- Plain laws of the printed functions of storage: the check of sanity, names, the first that is so; no condition. -/
import Derived.Test.YtlfaghcnnlifmaaGreatGxG
import Derived.Test.YtlfaghcnnlifmaaGreatGxM
import Derived.Test.YtlfaghcnnlifmaaGreatSxD
namespace Go.Sx.top
open Go Go.Sx

def isLetterI (c:Int):Bool:=(decide (c ≥ 97) && decide (c ≤ 122)) || (decide (c ≥ 65) && decide (c ≤ 90))
def isDigitI (c:Int):Bool:=decide (c ≥ 48) && decide (c ≤ 57)
def isPartI (c:Int):Bool:=(isLetterI c || isDigitI c) || c == 95
def isUpperI (c:Int):Bool:=decide (c ≥ 65) && decide (c ≤ 90)

theorem f58_eq (c:Int):f108 c = some (isLetterI c):=by simp only [f108,cond_and,Option.bind_some,cond_or,isLetterI]
theorem f63_eq (c:Int):f137 c = some (isDigitI c):=by simp only [f137,cond_and,Option.bind_some,isDigitI]
theorem f60_eq (c:Int):f110 c = some (isPartI c):=by simp only [f110,f58_eq,f63_eq,cond_or,Option.bind_some,isPartI]
def byteI (b:UInt8):Int:=((b.toNat:Nat):Int)

/-- How many parts of a name stand in front. -/
def runLen:List UInt8 → Nat
 | []=>0
 | b :: r=>if isPartI (byteI b) then runLen r + 1 else 0

theorem f59_eq (s:List UInt8) (h:s.length ≤ maxLen):f109_110 s = some ((runLen s:Nat):Int):=by
 have:=iter_list s h (fun i=>f109_110_b1 s i) (fun r i=>(Out.go ((i + runLen r:Nat):Int):Out Int Int)) ?_ ?_
 ·unfold f109_110
  rw [this]
  simp
 ·intro i x r hi hx _
  have h1:(0:Int) ≤ i ∧ (i:Int) < (s.length:Int):=⟨by omega,by omega⟩
  have hx':s.getD i 0 = x:=hx
  simp only [f109_110_b1,Int.toNat_natCast,hx',h1,and_self,if_true,decide_true,cond_true,f60_eq,Option.bind_some]
  cases hb:isPartI ((x.toNat:Nat):Int) with
  | true=>right; simp [runLen,byteI,hb]; omega
  | false=>left; simp [runLen,byteI,hb]
 ·simp [f109_110_b1,runLen]

def low (n:Int):Int:=if isUpperI n then n + 32 else n

theorem wrap_u8 {n:Int} (h0:0 ≤ n) (h1:n ≤ 255):IntKind.wrap .u8 n = n:=by
 simp only [IntKind.wrap,IntKind.min,IntKind.max,IntKind.signed,IntKind.bits]
 simp
 omega

theorem f61_eq (s:List UInt8) (h:s.length ≤ maxLen):f111 s = some (s.map fun b=>UInt8.ofNat (low (byteI b)).toNat):=by
 have hm:=maxLen_le
 have key:=iter_ind (fun q=>f111_b2 s q.1 q.2) (fun q=>∃ i,i ≤ s.length ∧ q.2 = ((i:Nat):Int) ∧ q.1 = ((s.map byteI).take i).map low ++ (s.map byteI).drop i) (fun q=>s.length - q.2.toNat) (fun _ x=>x = Out.go ((s.map byteI).map low)) ?_ (s.map byteI,0) ⟨0,Nat.zero_le _,rfl,by simp⟩
 ·obtain ⟨x,hx,rfl⟩:=key
  unfold f111
  rw [if_pos (by omega)]
  have hx':iter (fun q=>f111_b2 s q.1 q.2) (s.map (fun b=>((b.toNat:Nat):Int)),(0:Int)) = some (Out.go ((s.map byteI).map low)):=hx
  rw [hx']
  simp [List.map_map,Function.comp_def]
 ·rintro ⟨b,k⟩ ⟨i,hi,hk,hb⟩
  simp only at hk hb
  subst hk hb
  have hlen:(((s.map byteI).take i).map low ++ (s.map byteI).drop i).length = s.length:=by simp; omega
  by_cases hlt:i < s.length
  ·left
   have h1:(0:Int) ≤ i ∧ (i:Int) < ((((s.map byteI).take i).map low ++ (s.map byteI).drop i).length:Int):=⟨by omega,by rw [hlen]; omega⟩
   have h2:((i:Int) < ((s.map (fun b=>((b.toNat:Nat):Int))).length:Int)):=by simp; omega
   have hget:(((s.map byteI).take i).map low ++ (s.map byteI).drop i).getD i default = byteI s[i]:=by
    simp only [List.getD_eq_getElem?_getD]
    rw [List.getElem?_append_right (by simp; omega)]
    simp [Nat.min_eq_left hi,hlt]
   have hset:(((s.map byteI).take i).map low ++ (s.map byteI).drop i).set i (low (byteI s[i])) = ((s.map byteI).take (i + 1)).map low ++ (s.map byteI).drop (i + 1):=by
    have e1:(s.map byteI).drop i = byteI s[i] :: (s.map byteI).drop (i + 1):=by
     rw [List.drop_eq_getElem_cons (by simpa using hlt)]; simp
    have e2:(s.map byteI).take (i + 1) = (s.map byteI).take i ++ [byteI s[i]]:=by
     rw [List.take_succ_eq_append_getElem (by simpa using hlt)]; simp
    rw [e1,e2,List.set_append_right _ _ (by simp; omega)]
    simp [Nat.min_eq_left hi]
   have hlow:isUpperI (byteI s[i]) = false → (((s.map byteI).take i).map low ++ (s.map byteI).drop i) = ((s.map byteI).take (i + 1)).map low ++ (s.map byteI).drop (i + 1):=by
    intro hu
    rw [← hset]
    have:low (byteI s[i]) = byteI s[i]:=by simp [low,hu]
    rw [this]
    apply List.ext_getElem?
    intro j
    by_cases hj:j = i
    ·subst hj
     rw [List.getElem?_set_self (by omega)]
     have:=hget
     rw [List.getD_eq_getElem?_getD] at this
     have hs:(((s.map byteI).take j).map low ++ (s.map byteI).drop j)[j]? = some ((((s.map byteI).take j).map low ++ (s.map byteI).drop j)[j]'(by omega)):=List.getElem?_eq_getElem (by omega)
     rw [hs] at this ⊢
     simp only [Option.getD_some] at this
     rw [this]
    ·rw [List.getElem?_set_ne (by omega)]
   have hw:w64 ((i:Int) + 1) = ((i + 1:Nat):Int):=w64_succ hlt h
   have h0:0 ≤ byteI s[i] ∧ byteI s[i] ≤ 255:=by
    have:=s[i].toNat_lt
    simp only [byteI]; omega
   cases hu:isUpperI (byteI s[i]) with
   | true =>
    have hu':byteI s[i] ≥ 65 ∧ byteI s[i] ≤ 90:=by simpa [isUpperI] using hu
    have hv:IntKind.wrap .u8 (IntKind.wrap .u8 (byteI s[i] - 65) + 97) = low (byteI s[i]):=by
     rw [wrap_u8 (n:=byteI s[i] - 65) (by omega) (by omega),wrap_u8 (by omega) (by omega)]
     simp only [low,hu,if_true]; omega
    refine ⟨(((s.map byteI).take (i + 1)).map low ++ (s.map byteI).drop (i + 1),((i + 1:Nat):Int)),?_,⟨i + 1,hlt,rfl,rfl⟩,by simp; omega,fun x hx=>hx⟩
    simp only [f111_b2,f111_j1,Int.toNat_natCast,hget,h1,h2,and_self,if_true,decide_true,cond_true,hu'.1,hu'.2,Option.bind_some,hv,hset,hw]
   | false =>
    refine ⟨(((s.map byteI).take (i + 1)).map low ++ (s.map byteI).drop (i + 1),((i + 1:Nat):Int)),?_,⟨i + 1,hlt,rfl,rfl⟩,by simp; omega,fun x hx=>hx⟩
    have hu':(decide (byteI s[i] ≥ 65) && decide (byteI s[i] ≤ 90)) = false:=hu
    simp only [f111_b2,f111_j1,Int.toNat_natCast,hget,h1,h2,and_self,if_true,decide_true,cond_true,cond_and,hu',cond_false,Option.bind_some,hw,← hlow hu]
  ·right
   obtain rfl:i = s.length:=by omega
   refine ⟨_,?_,rfl⟩
   simp only [f111_b2]
   rw [show decide (((s.length:Nat):Int) < ((s.map (fun b=>((b.toNat:Nat):Int))).length:Int)) = false from by simp]
   have e1:(s.map byteI).take s.length = s.map byteI:=List.take_of_length_le (by simp)
   have e2:(s.map byteI).drop s.length = []:=List.drop_of_length_le (by simp)
   simp only [cond_false,e1,e2,List.append_nil]

/-! ### Names -/

def innerB (b:UInt8):Bool:=isPartI (byteI b) && !isUpperI (byteI b)

def nameOk (s:List UInt8):Bool:=(!(s == ([]:List UInt8)) && decide ((s.length:Int) ≤ 12)) && (s.all innerB && (isLetterI (byteI (s.getD 0 0))))

theorem runLen_le:∀ (s:List UInt8),runLen s ≤ s.length
 | []=>Nat.le_refl _
 | b :: r=>by
  have:=runLen_le r
  simp only [runLen,List.length_cons]
  split <;> omega

theorem runLen_all:∀ (s:List UInt8),(((runLen s:Nat):Int) == (s.length:Int)) = s.all (fun b=>isPartI (byteI b))
 | []=>rfl
 | b :: r=>by
  have h:=runLen_all r
  have hle:=runLen_le r
  simp only [runLen,List.all_cons,List.length_cons]
  cases hb:isPartI (byteI b) with
  | true =>
   simp only [if_true,Bool.true_and,← h]
   by_cases he:runLen r = r.length
   ·simp [he]
   ·have:((runLen r:Nat):Int) ≠ (r.length:Int):=by omega
    have h2:(((runLen r + 1:Nat)):Int) ≠ ((r.length + 1:Nat):Int):=by omega
    rw [beq_eq_false_iff_ne.2 this,beq_eq_false_iff_ne.2 h2]
  | false =>
   simp only [Bool.false_eq_true,if_false,Bool.false_and]
   exact beq_eq_false_iff_ne.2 (by omega)

theorem low_one (b:UInt8):(b == UInt8.ofNat (low (byteI b)).toNat) = !isUpperI (byteI b):=by
 have hb:=b.toNat_lt
 cases hu:isUpperI (byteI b) with
 | true =>
  have hu':byteI b ≥ 65 ∧ byteI b ≤ 90:=by simpa [isUpperI] using hu
  simp only [low,hu,if_true,Bool.not_true]
  refine beq_eq_false_iff_ne.2 fun e=>?_
  have:=congrArg UInt8.toNat e
  simp only [byteI] at hu' this
  rw [UInt8.toNat_ofNat'] at this
  omega
 | false =>
  have hl:low (byteI b) = byteI b:=by simp [low,hu]
  rw [hl]
  simp [byteI]

theorem low_all:∀ (s:List UInt8),(s == s.map fun b=>UInt8.ofNat (low (byteI b)).toNat) = s.all (fun b=>!isUpperI (byteI b))
 | []=>rfl
 | b :: r=>by
  rw [List.map_cons,List.all_cons,← low_one b,← low_all r]
  rfl

theorem all_inner (s:List UInt8):s.all innerB = (s.all (fun b=>isPartI (byteI b)) && s.all (fun b=>!isUpperI (byteI b))):=by
 induction s with
 | nil=>rfl
 | cons b r ih =>
  simp only [List.all_cons,ih,innerB]
  cases isPartI (byteI b) <;> cases isUpperI (byteI b) <;> simp

theorem f53_eq (s:List UInt8) (h:s.length ≤ maxLen):f86 s = some (nameOk s):=by
 unfold f86 nameOk
 rw [cond_and,all_inner]
 simp only [Option.bind_some,f58_eq,f59_eq s h,f61_eq s h,runLen_all,low_all]
 cases hs:(!(s == ([]:List UInt8)) && decide ((s.length:Int) ≤ 12)) with
 | false=>simp
 | true =>
  have hpos:(0:Int) < (s.length:Int):=by
   cases s with
   | nil=>simp at hs
   | cons b r=>simp
  simp only [cond_true,if_pos hpos,cond_and,Option.bind_some,Bool.true_and,byteI]
  cases isLetterI ((((s.getD 0 0).toNat:Nat)):Int) <;> simp

/-- The first that p takes, from i on. -/
def findFrom {A:Type} (p:A → Bool):List A → Nat → Option Nat
 | [],_=>none
 | x :: r,i=>if p x then some i else findFrom p r (i + 1)

def outOf:Option Nat → Out Int Unit
 | some i=>.ret ((i:Nat):Int)
 | none=>.go ()

def idx:Option Nat → Int
 | some i=>((i:Nat):Int)
 | none=>-1

theorem index_eq {A:Type} [Inhabited A] (l:List A) (h:l.length ≤ maxLen) (f:A → Option Bool) (p:A → Bool) (hp:∀ x,f x = some (p x)) (b:Int → Option (Int ⊕ Out Int Unit))
  (hb:∀ i,b i = cond (decide (i < (l.length:Int))) (if (0:Int) ≤ i ∧ i < (l.length:Int) then (f (l.getD i.toNat default)).bind fun v3=>cond v3 (some (.inr (.ret i))) (some (.inl (w64 (i + (1:Int))))) else none) (some (.inr (.go ())))) :
  iter b 0 = some (outOf (findFrom p l 0)):=by
 refine iter_list l h b (fun r i=>outOf (findFrom p r i)) ?_ ?_
 ·intro i x r hi hx _
  have h1:(0:Int) ≤ i ∧ (i:Int) < (l.length:Int):=⟨by omega,by omega⟩
  simp only [hb,Int.toNat_natCast,hx,h1,and_self,if_true,decide_true,cond_true,hp,Option.bind_some]
  cases hpx:p x with
  | true=>left; simp [findFrom,hpx,outOf]
  | false=>right; simp [findFrom,hpx]
 ·simp [hb,findFrom,outOf]

theorem findFrom_any {A:Type} (p:A → Bool):∀ (l:List A) (i:Nat),decide (idx (findFrom p l i) ≥ 0) = l.any p
 | [],i=>by simp [findFrom,idx]
 | x :: r,i=>by
  simp only [findFrom,List.any_cons]
  by_cases hp:p x = true
  ·simp [idx,hp]
  ·simp only [hp,if_false,Bool.false_or,Bool.false_eq_true]
   exact findFrom_any p r (i + 1)


/-! ### The document's names -/

theorem getD_lt {A:Type} [Inhabited A] {l:List A} {i:Nat} (h:i < l.length):l.getD i default = l[i]:=by
 rw [List.getD_eq_getElem?_getD,List.getElem?_eq_getElem h,Option.getD_some]

theorem getD_mem {A:Type} [Inhabited A] {l:List A} {i:Nat} (h:i < l.length):l.getD i default ∈ l:=by
 rw [getD_lt h]; exact List.getElem_mem h

end Go.Sx.top

namespace Go.Sx.top
open Go Go.Sx

def fd (l:List T25) (s:List UInt8):Option Nat:=findFrom (fun t=>t.f0 == s) l 0

theorem f34_eq (l:List T25) (h:l.length ≤ maxLen) (s:List UInt8):f44 l s = some (idx (fd l s)):=by
 unfold f44 f84_85
 rw [index_eq l h (fun t=>f85 t s) (fun t=>t.f0 == s) (fun _=>rfl) (fun i=>f84_85_b1 l s i) (fun i=>rfl)]
 unfold fd
 cases findFrom (fun t=>t.f0 == s) l 0 <;> rfl

theorem findFrom_append {A:Type} (p:A → Bool):∀ (a b:List A) (i:Nat),findFrom p (a ++ b) i = match findFrom p a i with | some j=>some j | none=>findFrom p b (i + a.length)
 | [],b,i=>by simp [findFrom]
 | x :: a,b,i=>by
  simp only [List.cons_append,findFrom]
  split
  ·rfl
  ·rw [findFrom_append p a b (i + 1)]
   simp only [List.length_cons,show i + 1 + a.length = i + (a.length + 1) by omega]

theorem findFrom_lt {A:Type} {p:A → Bool}:∀ {l:List A} {i j:Nat},findFrom p l i = some j → i ≤ j ∧ j < i + l.length
 | [],_,_,h=>by cases h
 | x :: r,i,j,h=>by
  simp only [findFrom] at h
  split at h
  ·cases h; simp
  ·have:=findFrom_lt h
   simp only [List.length_cons]; omega

theorem fd_lt {l:List T25} {s:List UInt8} {j:Nat} (h:fd l s = some j):j < l.length:=by
 have:=findFrom_lt h; omega

/-- The first of a name is the one at i, just if none is ahead of it. -/
theorem fd_at {l:List T25} {i:Nat} {x:T25} {r:List T25} (hd:l.drop i = x :: r) (hi:i < l.length):(fd l x.f0 = some i) ↔ fd (l.take i) x.f0 = none:=by
 have e:fd l x.f0 = match fd (l.take i) x.f0 with | some j=>some j | none=>some i:=by
  have h1:l = l.take i ++ x :: r:=by rw [← hd,List.take_append_drop]
  unfold fd
  conv=>lhs; rw [h1]
  rw [findFrom_append]
  cases findFrom (fun t=>t.f0 == x.f0) (l.take i) 0 with
  | some j=>rfl
  | none=>simp [findFrom,Nat.min_eq_left (Nat.le_of_lt hi)]
 constructor
 ·intro h
  cases hn:fd (l.take i) x.f0 with
  | none=>rfl
  | some j =>
   rw [h,hn] at e
   have:=fd_lt hn
   simp only [Option.some.injEq] at e
   simp at this; omega
 ·intro h
  rw [e,h]

def okV (x:T25):Bool:=(nameOk x.f0 && ((x.f1 == 1 || x.f1 == 2) || x.f1 == 4)) && (!decide (x.f2 < 1) && !decide (x.f2 > 1000))

def goodAt (l:List T25):List T25 → Nat → Bool
 | [],_=>true
 | x :: r,i=>(okV x && (fd (l.take i) x.f0).isNone) && goodAt l r (i + 1)

def are (l:List T25):Bool:=goodAt l l 0 && decide ((l.length:Int) ≤ 60)

theorem idx_ge (o:Option Nat):decide (idx o ≥ 0) = o.isSome:=by
 cases o <;> simp [idx]

/-- Variables that have been read. -/
structure Vs (l:List T25):Prop where
 len:l.length ≤ maxLen
 each:∀ y ∈ l,y.f0.length ≤ maxLen

theorem Vs.of {l:List T25} (h:l.length ≤ maxLen ∧ ∀ y ∈ l,G25 y):Vs l:=⟨h.1,fun y hy=>(h.2 y hy).1⟩

theorem f42_eq (l:List T25) (h:Vs l):f48 l = some (are l):=by
 have:=iter_list l h.len (fun i=>f48_b1 l i) (fun r i=>cond (goodAt l r i) (Out.go ():Out Bool Unit) (Out.ret false)) ?_ ?_
 ·unfold f48 are
  rw [this]
  cases goodAt l l 0 <;> simp
 ·intro i x r hi hx hd
  have h1:(0:Int) ≤ i ∧ (i:Int) < (l.length:Int):=⟨by omega,by omega⟩
  have h2:(0:Int) ≤ i ∧ (i:Int) ≤ (l.length:Int):=⟨by omega,by omega⟩
  have hm:=getD_mem hi
  rw [hx] at hm
  have hlen:(l.take i).length ≤ maxLen:=by have:=h.len; simp only [List.length_take]; omega
  simp only [f48_b1,Int.toNat_natCast,hx,h1,h2,and_self,if_true,decide_true,cond_true,cond_or,Option.bind_some,f53_eq _ (h.each x hm),List.drop_zero,f34_eq _ hlen,idx_ge,goodAt]
  have e:(nameOk x.f0).not.or ((((x.f1 == 1).or (x.f1 == 2)).or (x.f1 == 4)).not.or ((decide (x.f2 < 1)).or ((decide (x.f2 > 1000)).or (fd (l.take i) x.f0).isSome))) = !(okV x && (fd (l.take i) x.f0).isNone):=by
   unfold okV
   cases fd (l.take i) x.f0 <;> cases nameOk x.f0 <;> cases x.f1 == 1 <;> cases x.f1 == 2 <;> cases x.f1 == 4 <;> cases decide (x.f2 < 1) <;> cases decide (x.f2 > 1000) <;> rfl
  change (cond ((!nameOk x.f0) || (!((x.f1 == 1 || x.f1 == 2) || x.f1 == 4) || (decide (x.f2 < 1) || (decide (x.f2 > 1000) || (fd (l.take i) x.f0).isSome)))) _ _ = _) ∨ (cond ((!nameOk x.f0) || (!((x.f1 == 1 || x.f1 == 2) || x.f1 == 4) || (decide (x.f2 < 1) || (decide (x.f2 > 1000) || (fd (l.take i) x.f0).isSome)))) _ _ = _) ∧ _
  rw [show ((!nameOk x.f0) || (!((x.f1 == 1 || x.f1 == 2) || x.f1 == 4) || (decide (x.f2 < 1) || (decide (x.f2 > 1000) || (fd (l.take i) x.f0).isSome)))) = _ from e]
  cases hb:(okV x && (fd (l.take i) x.f0).isNone) with
  | true=>right; simp
  | false=>left; simp
 ·simp [f48_b1,goodAt]

/-! ### Layouts that fit -/

def isLaid (l:List T25) (g o:List Int):Bool:=((are l && (g.length:Int) == l.length) && (o.length:Int) == l.length) && (!g.any (fun n=>decide (n < 0)) && !o.any (fun n=>decide (n < 0)))

theorem f43_eq (g:List Int) (h:g.length ≤ maxLen):f49_47 g = some (g.any fun n=>decide (n < 0)):=by
 unfold f49_47 f87_47
 rw [index_eq g h (fun t=>f47 t) (fun n=>decide (n < 0)) (fun _=>rfl) (fun i=>f87_47_b1 g i) (fun i=>rfl)]
 rw [← findFrom_any _ g 0]
 cases findFrom (fun n=>decide (n < 0)) g 0 <;> rfl

theorem f28_eq (l:List T25) (g o:List Int) (h:Vs l) (hg:g.length ≤ maxLen) (ho:o.length ≤ maxLen):f21 l g o = some (isLaid l g o):=by
 unfold f21 isLaid
 rw [f42_eq l h,f43_eq g hg,f43_eq o ho]
 cases are l <;> cases (g.length:Int) == l.length <;> cases (o.length:Int) == l.length <;> cases g.any (fun n=>decide (n < 0)) <;> cases o.any (fun n=>decide (n < 0)) <;> rfl

theorem isLaid_iff {l:List T25} {g o:List Int} (h:isLaid l g o = true):are l = true ∧ g.length = l.length ∧ o.length = l.length ∧ (∀ x ∈ g,0 ≤ x) ∧ ∀ x ∈ o,0 ≤ x:=by
 simp only [isLaid,Bool.and_eq_true,beq_iff_eq,Bool.not_eq_true',List.any_eq_false,decide_eq_true_eq] at h
 obtain ⟨⟨⟨h1,h2⟩,h3⟩,h4,h5⟩:=h
 exact ⟨h1,by omega,by omega,fun x hx=>by have:=h4 x hx; omega,fun x hx=>by have:=h5 x hx; omega⟩

theorem goodAt_ok {l:List T25}:∀ {r:List T25} {i:Nat},goodAt l r i = true → ∀ x ∈ r,okV x = true
 | [],_,_,x,hx=>by cases hx
 | y :: r,i,h,x,hx=>by
  simp only [goodAt,Bool.and_eq_true] at h
  rcases List.mem_cons.1 hx with rfl | hx
  ·exact h.1.1
  ·exact goodAt_ok h.2 x hx

theorem are_ok {l:List T25} (h:are l = true):l.length ≤ 60 ∧ ∀ x ∈ l,(x.f1 = 1 ∨ x.f1 = 2 ∨ x.f1 = 4) ∧ 1 ≤ x.f2 ∧ x.f2 ≤ 1000:=by
 simp only [are,Bool.and_eq_true,decide_eq_true_eq] at h
 refine ⟨by omega,fun x hx=>?_⟩
 have:=goodAt_ok h.1 x hx
 simp only [okV,Bool.and_eq_true,Bool.or_eq_true,beq_iff_eq,Bool.not_eq_true',decide_eq_false_iff_not] at this
 omega

end Go.Sx.top

namespace Go.Sx.top
open Go Go.Sx

theorem w64_mul {a b:Int} (ha:a = 1 ∨ a = 2 ∨ a = 4) (h0:0 ≤ b) (h1:b ≤ 1000):w64 (a * b) = a * b:=by
 apply w64_id <;> rcases ha with rfl | rfl | rfl <;> omega

theorem tdiv_range {n u:Int} (h0:0 ≤ n) (h1:n ≤ 9223372036854775807) (hu:u = 1 ∨ u = 2 ∨ u = 4):w64 (Int.tdiv n u) = Int.tdiv n u:=by
 rw [Int.tdiv_eq_ediv_of_nonneg h0]
 apply w64_id <;> rcases hu with rfl | rfl | rfl <;> omega

end Go.Sx.top

namespace Go.Sx.top
open Go Go.Sx

def isPl (l:List T25) (p:T37):Bool:=match fd l p.f0 with
 | some i=>decide (p.f1 ≥ 0) && decide (p.f1 < (l.getD i default).f2)
 | none=>false

theorem f30_eq (l:List T25) (h:l.length ≤ maxLen) (p:T37):f22 l p = some (isPl l p):=by
 unfold f22 isPl
 rw [f34_eq l h]
 cases hf:fd l p.f0 with
 | none=>rfl
 | some i =>
  have hi:=fd_lt hf
  have h0:decide (idx (some i) ≥ 0) = true:=by simp [idx]
  have h1:(0:Int) ≤ idx (some i) ∧ idx (some i) < (l.length:Int):=by simp only [idx]; omega
  simp only [Option.bind_some,h0,cond_true,if_pos h1,cond_and]
  rfl

theorem isPl_iff {l:List T25} {p:T37} (h:isPl l p = true):∃ i,fd l p.f0 = some i ∧ i < l.length ∧ 0 ≤ p.f1 ∧ p.f1 < (l.getD i default).f2:=by
 unfold isPl at h
 split at h
 ·rename_i i hf
  simp only [Bool.and_eq_true,decide_eq_true_eq] at h
  exact ⟨i,hf,fd_lt hf,h.1,h.2⟩
 ·cases h

abbrev Nm:=List UInt8

def longB {A:Type} (l:List (List A)):Bool:=l.any fun x=>decide ((x.length:Int) > 60)

def badP (l:List T25) (e:List (List T37)):Option T37:=e.flatten.find? fun p=>!isPl l p

def badN (l:List T25) (ns:List Nm):Option Nm:=ns.find? fun s=>(fd l s).isNone

def dupN:List Nm → List Nm → Option Nm
 | [],_=>none
 | s :: r,met=>if met.contains s then some s else dupN r (met ++ [s])

def argB (l:List T25) (e:List (List T37)) (b:List (List Nm)):Bool :=
 ((are l && !decide ((e.length:Int) > 60)) && !decide ((b.length:Int) > 60)) && (!longB e && !longB b)

/-- What is wrong with what is asked. -/
def ask (l:List T25) (e:List (List T37)) (b:List (List Nm)):Nm × Int :=
 match argB l e b with
 | false=>([],2)
 | true=>match badP l e with
  | some p=>(p.f0,5)
  | none=>match badN l b.flatten with
   | some s=>(s,5)
   | none=>match dupN b.flatten [] with
    | some s=>(s,8)
    | none=>([],0)

/-- Small enough to be looked at. -/
structure Sm (e:List (List T37)) (b:List (List Nm)):Prop where
 el:e.length ≤ 500
 bl:b.length ≤ 500
 ee:∀ x ∈ e,x.length ≤ 500
 be:∀ x ∈ b,x.length ≤ 500

theorem small_max {n:Nat} (h:n ≤ 1000000):n ≤ maxLen:=Nat.le_trans h (by decide)

theorem long_loop {A X:Type} (l:List (List A)) (hl:l.length ≤ 500) (body:Int → Option (Int ⊕ Out X Unit)) (x:X)
  (hb:∀ i:Int,body i = cond (decide (i < (l.length:Int))) (if (0:Int) ≤ i ∧ i < (l.length:Int) then cond (decide (((l.getD i.toNat default).length:Int) > (60:Int))) (some (.inr (.ret x))) (some (.inl (w64 (i + (1:Int))))) else none) (some (.inr (.go ())))) :
  iter body 0 = some (cond (longB l) (.ret x) (.go ())):=by
 refine iter_list l (small_max (by omega)) body (fun r _=>cond (longB r) (Out.ret x) (.go ())) ?_ ?_
 ·intro i y r hi hy _
  have h1:(0:Int) ≤ i ∧ (i:Int) < (l.length:Int):=⟨by omega,by omega⟩
  simp only [hb,Int.toNat_natCast,hy,h1,and_self,if_true,decide_true,cond_true,longB,List.any_cons]
  cases hq:decide ((y.length:Int) > 60) with
  | true=>left; rfl
  | false=>right; exact ⟨rfl,rfl⟩
 ·simp [hb,longB]

theorem flat_len {A:Type}:∀ (r:List (List A)),(∀ x ∈ r,x.length ≤ 500) → r.flatten.length ≤ 500 * r.length
 | [],_=>by simp
 | x :: r,h=>by
  have:=flat_len r fun y hy=>h y (List.mem_cons_of_mem _ hy)
  have h2:=h x (List.mem_cons_self ..)
  simp only [List.flatten_cons,List.length_append,List.length_cons]
  omega

theorem f48_eq (b:List (List Nm)) (hb:b.length ≤ 500) (he:∀ x ∈ b,x.length ≤ 500):f83 b = some b.flatten:=by
 have e1:=iter_listI b (small_max (by omega)) (fun s=>f83_b1 b s.1 s.2) (fun r _ n=>(Out.go (n + (r.flatten.length:Int)):Out (List Nm) Int)) (fun i n=>0 ≤ n ∧ n ≤ 500 * i) (fun i x r n ⟨h0,h1⟩ hi hx hd=>by
  have g1:(0:Int) ≤ i ∧ (i:Int) < (b.length:Int):=⟨by omega,by omega⟩
  have hm:=he _ (getD_mem hi)
  rw [hx] at hm
  have e2:w64 (n + (x.length:Int)) = n + (x.length:Int):=w64_id (by omega) (by omega)
  have e3:decide (n + (x.length:Int) < 0) = false:=decide_eq_false (by omega)
  right
  refine ⟨n + x.length,?_,⟨by omega,by simp only [Int.natCast_add,Int.natCast_one]; omega⟩,by simp only [List.flatten_cons,List.length_append]; congr 1; omega⟩
  simp only [f83_b1,Int.toNat_natCast,hx,if_pos g1,show decide ((i:Int) < (b.length:Int)) = true from by simpa using hi,cond_true,e2,e3,cond_false]) (fun n _=>by simp [f83_b1]) 0 ⟨by omega,by omega⟩
 have e4:∀ n:Int,0 ≤ n → n ≤ 250000 → f107_e n = some []:=fun n h0 h1=>by
  have w0:w64 ((0:Int) - 0) = 0:=by decide
  unfold f107_e
  rw [w0,w64_id (n:=n - 0) (by omega) (by omega),decide_eq_false (show ¬ n < 0 by omega),cond_false]
  by_cases hp:n - 0 > 0
  ·rw [decide_eq_true hp,cond_true,if_pos ⟨by omega,by omega⟩]; rfl
  ·rw [decide_eq_false hp]; rfl
 have e5:=iter_listI b (small_max (by omega)) (fun s=>f83_b2 b s.1 s.2) (fun r _ acc=>(Out.go (acc ++ r.flatten):Out (List Nm) (List Nm))) (fun i acc=>acc.length ≤ 500 * i) (fun i x r acc h1 hi hx hd=>by
  have g1:(0:Int) ≤ i ∧ (i:Int) < (b.length:Int):=⟨by omega,by omega⟩
  have hm:=he _ (getD_mem hi)
  rw [hx] at hm
  right
  refine ⟨acc ++ x,?_,by simp only [List.length_append]; omega,by simp⟩
  simp only [f83_b2,Int.toNat_natCast,hx,if_pos g1,show decide ((i:Int) < (b.length:Int)) = true from by simpa using hi,cond_true,if_pos (show (acc.length + x.length) * 16 ≤ 140737488355328 by omega)]) (fun acc _=>by simp [f83_b2]) [] (by simp)
 have hbd:=flat_len b he
 unfold f83
 rw [e1]
 simp only [Option.bind_some]
 rw [e4 _ (by omega) (by omega)]
 simp only [Option.bind_some]
 rw [e5]
 rfl

theorem f49_eq (met:List Nm) (hm:met.length ≤ maxLen) (s:Nm):f58 met s = some (met.contains s):=by
 unfold f58 f90
 rw [index_eq met hm (fun t=>some (s == t)) (fun t=>s == t) (fun _=>rfl) (fun i=>f90_b1 met s i) (fun i=>rfl)]
 have e:met.contains s = met.any (fun t=>s == t):=by
  induction met with
  | nil=>rfl
  | cons x r ih=>simp only [List.contains_cons,List.any_cons,ih (by simp only [List.length_cons] at hm; omega)]
 rw [e,← findFrom_any _ met 0]
 cases findFrom (fun t=>s == t) met 0 <;> rfl

theorem f35_eq (l:List T25) (e:List (List T37)) (b:List (List Nm)) (h:Vs l) (hs:Sm e b):f43 l e b = some (ask l e b):=by
 have hfl:b.flatten.length ≤ maxLen:=by
  have h1:=flat_len b hs.be
  have h2:=hs.bl
  exact small_max (by omega)
 have i1:=long_loop e hs.el (fun s=>f43_b1 e s) (([]:Nm),(2:Int)) (fun i=>rfl)
 have i2:=long_loop b hs.bl (fun s=>f43_b2 b s) (([]:Nm),(2:Int)) (fun i=>rfl)
 have inner:∀ k,k < e.length → iter (fun s=>f43_b3 l e (k:Int) s) 0 = some (match (e.getD k default).find? (fun p=>!isPl l p) with | some p=>Out.ret (p.f0,(5:Int)) | none=>Out.go ()):=fun k hk=>by
  have hel:=hs.ee _ (getD_mem hk)
  refine iter_list (e.getD k default) (small_max (by omega)) (fun s=>f43_b3 l e (k:Int) s) (fun r _=>match r.find? (fun p=>!isPl l p) with | some p=>Out.ret (p.f0,(5:Int)) | none=>Out.go ()) ?_ ?_
  ·intro i x r hi hx _
   have h1:(0:Int) ≤ i ∧ (i:Int) < ((e.getD k default).length:Int):=⟨by omega,by omega⟩
   simp only [f43_b3,Int.toNat_natCast,hx,h1,and_self,if_true,decide_true,cond_true,f30_eq l h.len,Option.bind_some,List.find?_cons]
   cases isPl l x with
   | true=>right; exact ⟨rfl,rfl⟩
   | false=>left; rfl
  ·simp [f43_b3]
 have i3:iter (fun s=>f43_b4 l e s) 0 = some (match badP l e with | some p=>Out.ret (p.f0,(5:Int)) | none=>Out.go ()):=by
  refine iter_list e (small_max (by have:=hs.el; omega)) (fun s=>f43_b4 l e s) (fun r _=>match badP l r with | some p=>Out.ret (p.f0,(5:Int)) | none=>Out.go ()) ?_ ?_
  ·intro i x r hi hx _
   have h1:(0:Int) ≤ i ∧ (i:Int) < (e.length:Int):=⟨by omega,by omega⟩
   simp only [f43_b4,h1,and_self,if_true,decide_true,cond_true]
   rw [inner i hi,hx]
   simp only [badP,List.flatten_cons,List.find?_append]
   cases x.find? (fun p=>!isPl l p) with
   | some p=>left; rfl
   | none=>right; exact ⟨rfl,rfl⟩
  ·simp [f43_b4,badP]
 have i4:iter (fun s=>f43_b5 l b.flatten s) 0 = some (match badN l b.flatten with | some s=>Out.ret (s,(5:Int)) | none=>Out.go ()):=by
  refine iter_list b.flatten hfl (fun s=>f43_b5 l b.flatten s) (fun r _=>match badN l r with | some s=>Out.ret (s,(5:Int)) | none=>Out.go ()) ?_ ?_
  ·intro i x r hi hx _
   have h1:(0:Int) ≤ i ∧ (i:Int) < (b.flatten.length:Int):=⟨by omega,by omega⟩
   simp only [f43_b5,Int.toNat_natCast,hx,h1,and_self,if_true,decide_true,cond_true,f34_eq l h.len,Option.bind_some,badN,List.find?_cons]
   cases hf:fd l x with
   | none=>left; rfl
   | some j =>
    right
    have:decide (idx (some j) < 0) = false:=decide_eq_false (by simp only [idx]; omega)
    rw [this]
    exact ⟨rfl,rfl⟩
  ·simp [f43_b5,badN]
 have i5:iter (fun s=>f43_b6 b.flatten s.1 s.2) ([],0) = some (match dupN b.flatten [] with | some s=>Out.ret (s,(8:Int)) | none=>Out.go ()):=by
  refine iter_listI b.flatten hfl (fun s=>f43_b6 b.flatten s.1 s.2) (fun r _ met=>match dupN r met with | some s=>Out.ret (s,(8:Int)) | none=>Out.go ()) (fun i met=>met.length ≤ i) ?_ ?_ [] (by simp)
  ·intro i x r met hm hi hx _
   have h1:(0:Int) ≤ i ∧ (i:Int) < (b.flatten.length:Int):=⟨by omega,by omega⟩
   have hbd:(met.length + [x].length) * 16 ≤ 140737488355328:=by
    have:b.flatten.length ≤ 250000:=by
     have h1:=flat_len b hs.be
     have h2:=hs.bl
     omega
    simp only [List.length_cons,List.length_nil]; omega
   simp only [f43_b6,Int.toNat_natCast,hx,h1,and_self,if_true,decide_true,cond_true,f49_eq met (by omega),Option.bind_some,dupN]
   cases hq:met.contains x with
   | true=>left; rfl
   | false =>
    right
    refine ⟨met ++ [x],by rw [cond_false,if_pos hbd],by simp; omega,rfl⟩
  ·intro met hm
   simp [f43_b6,dupN]
 unfold f43 ask argB
 rw [f42_eq l h,f48_eq b hs.bl hs.be]
 simp only [Option.bind_some,f82,cond_or]
 rw [i1,i2,i3,i4,i5]
 cases are l with
 | false=>rfl
 | true =>
  cases decide ((e.length:Int) > 60) with
  | true=>rfl
  | false =>
   cases decide ((b.length:Int) > 60) with
   | true=>rfl
   | false =>
    cases longB e with
    | true=>rfl
    | false =>
     cases longB b with
     | true=>rfl
     | false =>
      simp only [Bool.not_true,Bool.not_false,Bool.or_false,cond_false,Option.bind_some,Bool.and_true]
      cases badP l e with
      | some p=>rfl
      | none =>
       cases badN l b.flatten with
       | some p=>rfl
       | none =>
        cases dupN b.flatten [] <;> rfl

end Go.Sx.top

namespace Go.Sx.top
open Go Go.Sx

theorem badN_none {l:List T25} {ns:List Nm} (h:badN l ns = none):∀ t ∈ ns,(fd l t).isSome:=fun t ht=>by
 have:=List.find?_eq_none.1 h t ht
 cases hf:fd l t with
 | none=>rw [hf] at this; simp at this
 | some _=>rfl

end Go.Sx.top

namespace Go.Sx.top
open Go Go.Sx

theorem w64_mod (x:Int):∃ k:Int,w64 x = x + k * 18446744073709551616:=by
 simp only [w64,IntKind.wrap,IntKind.min,IntKind.max,IntKind.signed,IntKind.bits]
 simp
 exact ⟨-((x + 9223372036854775808) / 18446744073709551616),by omega⟩

theorem w64_congr {x y k:Int} (h:x = y + k * 18446744073709551616):w64 x = w64 y:=by
 subst h
 simp only [w64,IntKind.wrap,IntKind.min,IntKind.max,IntKind.signed,IntKind.bits]
 simp

theorem w64_inl (x y:Int):w64 (w64 x + y) = w64 (x + y):=by
 obtain ⟨k,hk⟩:=w64_mod x
 exact w64_congr (k:=k) (by rw [hk]; omega)

theorem w64_subl (x y:Int):w64 (w64 x - y) = w64 (x - y):=by
 obtain ⟨k,hk⟩:=w64_mod x
 exact w64_congr (k:=k) (by rw [hk]; omega)

/-- Over a list, by its index, from any place on; the index first. -/
theorem iter_listJ {A B X:Type} [Inhabited A] (l:List A) (hl:l.length ≤ maxLen) (body:Int × B → Option ((Int × B) ⊕ X)) (F:List A → Nat → B → X) (I:Nat → B → Prop)
  (hs:∀ (i:Nat) (x:A) (r:List A) (b:B),I i b → i < l.length → l.getD i default = x → l.drop i = x :: r → (body ((i:Int),b) = some (.inr (F (x :: r) i b))) ∨ ∃ b',body ((i:Int),b) = some (.inl (w64 ((i:Int) + 1),b')) ∧ I (i + 1) b' ∧ F (x :: r) i b = F r (i + 1) b')
  (he:∀ b,I l.length b → body ((l.length:Int),b) = some (.inr (F [] l.length b))) (i0:Nat) (hi0:i0 ≤ l.length) (b0:B) (h0:I i0 b0):iter body ((i0:Int),b0) = some (F (l.drop i0) i0 b0):=by
 have key:∀ n i b,i + n = l.length → I i b → iter body ((i:Int),b) = some (F (l.drop i) i b):=by
  intro n
  induction n with
  | zero =>
   intro i b hi hI
   obtain rfl:i = l.length:=by omega
   rw [iter_inr (he b hI),List.drop_length]
  | succ n ih =>
   intro i b hi hI
   have hlt:i < l.length:=by omega
   have hd:l.drop i = l[i] :: l.drop (i + 1):=List.drop_eq_getElem_cons hlt
   rcases hs i l[i] (l.drop (i + 1)) b hI hlt (by simp [List.getD_eq_getElem?_getD,hlt]) hd with hb | ⟨b',hb,hI',hF⟩
   ·rw [iter_inr hb,hd]
   ·rw [iter_inl hb,w64_succ hlt hl,hd,hF]
    exact ih (i + 1) b' (by omega) hI'
 exact key (l.length - i0) i0 b0 (by omega) h0

abbrev LS:=List Int × List Int

/-- A group goes into another one, from a variable on. -/
def mvF (fr to by_:Int):Nat → Nat → LS → LS
 | 0,_,s=>s
 | n + 1,i,s=>mvF fr to by_ n (i + 1) (if s.1.getD i default == fr then (s.1.set i to,s.2.set i (w64 (s.2.getD i default + by_))) else s)

/-- Where d units lie between a's begin and b's. -/
def tie (a b:Nat) (d:Int) (s:LS):Bool × LS :=
 if s.1.getD a default == s.1.getD b default then (w64 (s.2.getD a default + d - s.2.getD b default) == 0,s)
 else (true,mvF (s.1.getD b default) (s.1.getD a default) (w64 (s.2.getD a default + d - s.2.getD b default)) s.1.length 0 s)

theorem mvF_len {fr to by_:Int}:∀ (n i:Nat) (s:LS),(mvF fr to by_ n i s).1.length = s.1.length ∧ (mvF fr to by_ n i s).2.length = s.2.length
 | 0,_,s=>⟨rfl,rfl⟩
 | n + 1,i,s=>by
  simp only [mvF]
  obtain ⟨h1,h2⟩:=mvF_len (fr:=fr) (to:=to) (by_:=by_) n (i + 1) (if s.1.getD i default == fr then (s.1.set i to,s.2.set i (w64 (s.2.getD i default + by_))) else s)
  rw [h1,h2]
  split <;> simp

theorem tie_len (a b:Nat) (d:Int) (s:LS):(tie a b d s).2.1.length = s.1.length ∧ (tie a b d s).2.2.length = s.2.length:=by
 unfold tie
 split
 ·exact ⟨rfl,rfl⟩
 ·exact mvF_len _ _ _

structure Ls (n:Nat) (s:LS):Prop where
 g:s.1.length = n
 o:s.2.length = n

theorem Ls.tie {n:Nat} {s:LS} (h:Ls n s) (a b:Nat) (d:Int):Ls n (tie a b d s).2 :=
 ⟨(tie_len a b d s).1.trans h.g,(tie_len a b d s).2.trans h.o⟩

theorem f36o_eq (l:List T25) (hl:l.length ≤ maxLen) (s:LS) (h:Ls l.length s) (a b:Nat) (ha:a < l.length) (hb:b < l.length) (p q:Int) :
  f45o (a:Int) p (b:Int) q (T68.mk l s.1 s.2) = some ((tie a b (p - q) s).1,T68.mk l (tie a b (p - q) s).2.1 (tie a b (p - q) s).2.2):=by
 obtain ⟨hg,ho⟩:=h
 have c1:(0:Int) ≤ a ∧ (a:Int) < (s.2.length:Int):=by omega
 have c2:(0:Int) ≤ b ∧ (b:Int) < (s.2.length:Int):=by omega
 have c3:(0:Int) ≤ a ∧ (a:Int) < (s.1.length:Int):=by omega
 have c4:(0:Int) ≤ b ∧ (b:Int) < (s.1.length:Int):=by omega
 have ew:w64 (w64 (w64 (s.2.getD a default + p) - s.2.getD b default) - q) = w64 (s.2.getD a default + (p - q) - s.2.getD b default):=by
  rw [w64_subl,Int.sub_sub,w64_subl]
  congr 1; omega
 unfold f45o
 simp only [Int.toNat_natCast,if_pos c1,if_pos c2,if_pos c3,if_pos c4,ew]
 have key:=iter_listJ l hl (fun x=>f45o_b2 (a:Int) p (b:Int) q (T68.mk l s.1 s.2) x.1 x.2.1 x.2.2)
  (fun r i x=>(Out.go (mvF (s.1.getD b default) (s.1.getD a default) (w64 (s.2.getD a default + (p - q) - s.2.getD b default)) r.length i x):Out (Bool × T68) (List Int × List Int)))
  (fun _ x=>Ls l.length x) (fun i x r st hst hi hx hd=>by
   obtain ⟨k1,k2⟩:=hst
   have g1:(0:Int) ≤ i ∧ (i:Int) < (st.1.length:Int):=by omega
   have g2:(0:Int) ≤ i ∧ (i:Int) < (st.2.length:Int) ∧ (0:Int) ≤ i ∧ (i:Int) < (st.2.length:Int):=by omega
   have hd1:decide ((i:Int) < (l.length:Int)) = true:=by simpa using hi
   right
   simp only [f45o_b2,Int.toNat_natCast,if_pos g1,if_pos g2,hd1,cond_true,ew,List.length_cons,mvF]
   cases hq:st.1.getD i default == s.1.getD b default with
   | true=>exact ⟨_,rfl,⟨by simpa using k1,by simpa using k2⟩,rfl⟩
   | false=>exact ⟨st,rfl,⟨k1,k2⟩,rfl⟩) (fun st _=>by simp [f45o_b2,mvF]) 0 (Nat.zero_le _) s ⟨hg,ho⟩
 simp only [Int.natCast_zero,List.drop_zero] at key
 unfold tie
 cases hq:s.1.getD a default == s.1.getD b default with
 | true=>simp only [cond_true,if_true]
 | false =>
  simp only [cond_false,Bool.false_eq_true,if_false]
  rw [show ((0:Int),s.1,s.2) = ((0:Int),s) from rfl,key,hg]
  rfl

end Go.Sx.top

namespace Go.Sx.top
open Go Go.Sx

theorem getD_set {A:Type} [Inhabited A] {l:List A} {i j:Nat} {x:A} (hi:i < l.length):(l.set i x).getD j default = if i = j then x else l.getD j default:=by
 simp only [List.getD_eq_getElem?_getD,List.getElem?_set]
 split
 ·rename_i h
  subst h
  simp [hi]
 ·rfl

theorem mvF_at {fr to by_:Int} (hne:to ≠ fr):∀ (n i:Nat) (s:LS) (j:Nat),i + n ≤ s.1.length → s.2.length = s.1.length →
  (mvF fr to by_ n i s).1.getD j default = (if i ≤ j ∧ j < i + n ∧ s.1.getD j default = fr then to else s.1.getD j default) ∧
  (mvF fr to by_ n i s).2.getD j default = (if i ≤ j ∧ j < i + n ∧ s.1.getD j default = fr then w64 (s.2.getD j default + by_) else s.2.getD j default)
 | 0,i,s,j,_,_=>by
  have:¬ (i ≤ j ∧ j < i + 0 ∧ s.1.getD j default = fr):=by omega
  simp only [mvF,if_neg this,and_self]
 | n + 1,i,s,j,h,h2=>by
  simp only [mvF]
  by_cases he:s.1.getD i default = fr
  ·have he':(s.1.getD i default == fr) = true:=by simpa using he
   rw [if_pos he']
   obtain ⟨k1,k2⟩:=mvF_at hne n (i + 1) (s.1.set i to,s.2.set i (w64 (s.2.getD i default + by_))) j (by simp only [List.length_set]; omega) (by simpa using h2)
   rw [k1,k2]
   simp only [getD_set (show i < s.1.length by omega),getD_set (show i < s.2.length by omega)]
   by_cases e:i = j
   ·subst e
    have c1:¬ (i + 1 ≤ i ∧ i < i + 1 + n ∧ (if i = i then to else s.1.getD i default) = fr):=by rintro ⟨q,_⟩; omega
    rw [if_neg c1,if_neg c1,if_pos rfl,if_pos rfl,if_pos ⟨by omega,by omega,he⟩,if_pos ⟨by omega,by omega,he⟩]
    exact ⟨rfl,rfl⟩
   ·rw [if_neg e,if_neg e]
    by_cases hc:i + 1 ≤ j ∧ j < i + 1 + n ∧ s.1.getD j default = fr
    ·rw [if_pos hc,if_pos hc,if_pos ⟨by omega,by omega,hc.2.2⟩,if_pos ⟨by omega,by omega,hc.2.2⟩]; exact ⟨rfl,rfl⟩
    ·have hc':¬ (i ≤ j ∧ j < i + (n + 1) ∧ s.1.getD j default = fr):=by rintro ⟨q1,q2,q3⟩; exact hc ⟨by omega,by omega,q3⟩
     rw [if_neg hc,if_neg hc,if_neg hc',if_neg hc']; exact ⟨rfl,rfl⟩
  ·have he':(s.1.getD i default == fr) = false:=by simpa using he
   rw [if_neg (by rw [he']; exact Bool.false_ne_true)]
   obtain ⟨k1,k2⟩:=mvF_at hne n (i + 1) s j (by omega) h2
   rw [k1,k2]
   by_cases hc:i + 1 ≤ j ∧ j < i + 1 + n ∧ s.1.getD j default = fr
   ·rw [if_pos hc,if_pos hc,if_pos ⟨by omega,by omega,hc.2.2⟩,if_pos ⟨by omega,by omega,hc.2.2⟩]; exact ⟨rfl,rfl⟩
   ·have hc':¬ (i ≤ j ∧ j < i + (n + 1) ∧ s.1.getD j default = fr):=by
     rintro ⟨q1,q2,q3⟩
     have:i ≠ j:=by rintro rfl; exact he q3
     exact hc ⟨by omega,by omega,q3⟩
    rw [if_neg hc,if_neg hc,if_neg hc',if_neg hc']; exact ⟨rfl,rfl⟩

abbrev gr (s:LS) (i:Nat):Int:=s.1.getD i default
abbrev of (s:LS) (i:Nat):Int:=s.2.getD i default

theorem tie_same {a b:Nat} {d:Int} {s:LS} (h:gr s a = gr s b):tie a b d s = (w64 (of s a + d - of s b) == 0,s):=by
 unfold tie
 rw [if_pos (by simpa using h)]

theorem tie_other {n:Nat} {a b:Nat} {d:Int} {s:LS} (hs:Ls n s) (h:gr s a ≠ gr s b) :
  (tie a b d s).1 = true ∧ ∀ j,j < n → gr (tie a b d s).2 j = (if gr s j = gr s b then gr s a else gr s j) ∧ of (tie a b d s).2 j = (if gr s j = gr s b then w64 (of s j + w64 (of s a + d - of s b)) else of s j):=by
 have e:(s.1.getD a default == s.1.getD b default) = false:=by simpa using h
 unfold tie
 rw [if_neg (by rw [e]; exact Bool.false_ne_true)]
 refine ⟨rfl,fun j hj=>?_⟩
 have hg:=hs.g
 obtain ⟨k1,k2⟩:=mvF_at (by_:=w64 (s.2.getD a default + d - s.2.getD b default)) h s.1.length 0 s j (by omega) (by rw [hs.o,hs.g])
 have hc:(0 ≤ j ∧ j < 0 + s.1.length ∧ s.1.getD j default = s.1.getD b default) ↔ gr s j = gr s b:=⟨fun h=>h.2.2,fun h=>⟨by omega,by omega,h⟩⟩
 refine ⟨k1.trans ?_,k2.trans ?_⟩
 ·by_cases hq:gr s j = gr s b
  ·rw [if_pos (hc.2 hq),if_pos hq]
  ·rw [if_neg (fun h=>hq (hc.1 h)),if_neg hq]
 ·by_cases hq:gr s j = gr s b
  ·rw [if_pos (hc.2 hq),if_pos hq]
  ·rw [if_neg (fun h=>hq (hc.1 h)),if_neg hq]

/-- What has not been met lies alone. -/
def Fr (n:Nat) (met:List Nat) (s:LS):Prop:=∀ j,j < n → j ∉ met → gr s j = (j:Int) ∧ ∀ i,i < n → i ≠ j → gr s i ≠ (j:Int)

theorem Fr.tie {n:Nat} {met:List Nat} {s:LS} (h:Fr n met s) (hs:Ls n s) {a b:Nat} (ha:a < n) (hb:b < n) (hbm:b ∉ met) (ham:a ∈ met) (d:Int) :
  (tie a b d s).1 = true ∧ Fr n (b :: met) (Go.Sx.top.tie a b d s).2:=by
 have hne:a ≠ b:=fun e=>hbm (e ▸ ham)
 obtain ⟨h1,h2⟩:=h b hb hbm
 have hg:gr s a ≠ gr s b:=by rw [h1]; exact h2 a ha hne
 obtain ⟨k1,k2⟩:=tie_other (d:=d) hs hg
 refine ⟨k1,fun j hj hjm=>?_⟩
 have hjb:j ≠ b:=fun e=>hjm (by rw [e]; exact List.mem_cons_self ..)
 have hjm':j ∉ met:=fun hx=>hjm (List.mem_cons_of_mem _ hx)
 have hja:j ≠ a:=fun e=>hjm' (by rw [e]; exact ham)
 obtain ⟨q1,q2⟩:=h j hj hjm'
 refine ⟨?_,fun i hi hij=>?_⟩
 ·rw [(k2 j hj).1,if_neg (by rw [q1,h1]; omega),q1]
 ·rw [(k2 i hi).1]
  split
  ·exact q2 a ha (Ne.symm hja)
  ·exact q2 i hi hij

/-! ### Blocks -/

def ix (l:List T25) (s:Nm):Nat:=(fd l s).getD 0

theorem ix_of {l:List T25} {s:Nm} (h:(fd l s).isSome = true):fd l s = some (ix l s) ∧ ix l s < l.length:=by
 cases hf:fd l s with
 | none=>rw [hf] at h; cases h
 | some j=>simp only [ix,hf,Option.getD_some,true_and]; exact fd_lt hf

/-- How many units a variable has. -/
def un (l:List T25) (i:Nat):Int:=w64 ((l.getD i default).f1 * (l.getD i default).f2)

def tiesB (l:List T25):Nm → List Nm → LS → LS
 | _,[],s=>s
 | p,q :: r,s=>tiesB l q r (tie (ix l p) (ix l q) (un l (ix l p)) s).2

def blkB (l:List T25):List Nm → LS → LS
 | [],s=>s
 | p :: r,s=>tiesB l p r s

def allB (l:List T25) (bs:List (List Nm)) (s:LS):LS:=bs.foldl (fun s b=>blkB l b s) s

theorem tiesB_ls {l:List T25} {n:Nat}:∀ (r:List Nm) (p:Nm) (s:LS),Ls n s → Ls n (tiesB l p r s)
 | [],_,_,h=>h
 | q :: r,p,s,h=>tiesB_ls r q _ (h.tie _ _ _)

theorem blkB_ls {l:List T25} {n:Nat} (b:List Nm) {s:LS} (h:Ls n s):Ls n (blkB l b s):=by
 cases b with
 | nil=>exact h
 | cons p r=>exact tiesB_ls r p s h

theorem allB_ls {l:List T25} {n:Nat}:∀ (bs:List (List Nm)) {s:LS},Ls n s → Ls n (allB l bs s)
 | [],_,h=>h
 | b :: bs,s,h=>by
  show Ls n (allB l bs (blkB l b s))
  exact allB_ls bs (blkB_ls b h)

theorem nat_pred {i:Nat} (h:1 ≤ i) (hm:i ≤ 1000):w64 ((i:Int) - 1) = ((i - 1:Nat):Int):=by
 rw [w64_id (by omega) (by omega)]; omega

theorem f24_block (l:List T25) (b:List (List Nm)) (h:Vs l) (hbe:∀ x ∈ b,x.length ≤ 500) (hfound:∀ t ∈ b.flatten,(fd l t).isSome) (k:Nat) (hk:k < b.length) (s:LS) (hs:Ls l.length s) :
  iter (fun x=>f18_b2 l b (k:Int) x.1 x.2.1 x.2.2.1 x.2.2.2) ((1:Int),l,s.1,s.2) = some (Out.go (l,blkB l (b.getD k default) s)):=by
 have hlen:=hbe _ (getD_mem hk)
 have hf:∀ t ∈ b.getD k default,(fd l t).isSome:=fun t ht=>hfound t (by rw [List.mem_flatten]; exact ⟨_,getD_mem hk,ht⟩)
 cases hblk:b.getD k default with
 | nil =>
  refine iter_inr ?_
  have hd:decide ((1:Int) < (((b.getD k default).length:Nat):Int)) = false:=by rw [hblk]; rfl
  simp only [f18_b2,Int.toNat_natCast,hd,cond_false,blkB]
 | cons p r =>
  have key:=iter_listJ (b.getD k default) (small_max (by omega)) (fun (x:Int × List T25 × LS)=>f18_b2 l b (k:Int) x.1 x.2.1 x.2.2.1 x.2.2.2)
   (fun r i x=>(Out.go (l,tiesB l ((b.getD k default).getD (i - 1) default) r x.2):Out ((Option T68) × (List UInt8) × Int) (List T25 × List Int × List Int)))
   (fun i x=>1 ≤ i ∧ x.1 = l ∧ Ls l.length x.2) (fun i x r st hI hi hx hd=>by
    obtain ⟨h1,h2,h3⟩:=hI
    obtain ⟨v,st⟩:=st
    simp only at h2 h3
    subst h2
    have hpm:(b.getD k default).getD (i - 1) default ∈ b.getD k default:=getD_mem (by omega)
    have hxm:x ∈ b.getD k default:=by rw [← hx]; exact getD_mem hi
    obtain ⟨p1,p2⟩:=ix_of (hf _ hpm)
    obtain ⟨x1,x2⟩:=ix_of (hf _ hxm)
    have hd1:decide ((i:Int) < ((b.getD k default).length:Int)) = true:=by simpa using hi
    have ep:=nat_pred h1 (by omega)
    have g1:(0:Int) ≤ ((i - 1:Nat):Int) ∧ (((i - 1:Nat):Int)) < ((b.getD k default).length:Int):=by omega
    have g2:(0:Int) ≤ ((ix v ((b.getD k default).getD (i - 1) default):Nat):Int) ∧ ((ix v ((b.getD k default).getD (i - 1) default):Nat):Int) < (v.length:Int) ∧ (0:Int) ≤ i ∧ (i:Int) < ((b.getD k default).length:Int):=by omega
    right
    refine ⟨(v,(tie (ix v ((b.getD k default).getD (i - 1) default)) (ix v x) (un v (ix v ((b.getD k default).getD (i - 1) default))) st).2),?_,⟨by omega,rfl,h3.tie _ _ _⟩,?_⟩
    ·simp only [f18_b2,Int.toNat_natCast,ep,hd1,cond_true,if_pos g1,f34_eq v h.len,p1,idx,Option.bind_some,if_pos g2,f19,hx,x1]
     rw [show w64 ((v.getD (ix v ((b.getD k default).getD (i - 1) default)) default).f1 * (v.getD (ix v ((b.getD k default).getD (i - 1) default)) default).f2) = un v (ix v ((b.getD k default).getD (i - 1) default)) from rfl,f36o_eq v h.len st h3 _ _ p2 x2,Int.sub_zero]
     rfl
    ·simp only [tiesB,Nat.add_sub_cancel,hx]) (fun st hI=>by
    have hd:decide ((((b.getD k default).length:Nat):Int) < (((b.getD k default).length:Nat):Int)) = false:=by simp
    simp only [f18_b2,Int.toNat_natCast,hd,cond_false,tiesB]; rw [hI.2.1]) 1 (by rw [hblk]; simp) (l,s) ⟨Nat.le_refl _,rfl,hs⟩
  rw [show (((1:Nat):Int),l,s) = ((1:Int),l,s.1,s.2) from rfl] at key
  rw [key,hblk]
  rfl

theorem f24_blocks (l:List T25) (b:List (List Nm)) (h:Vs l) (hbl:b.length ≤ 500) (hbe:∀ x ∈ b,x.length ≤ 500) (hfound:∀ t ∈ b.flatten,(fd l t).isSome) (s:LS) (hs:Ls l.length s) :
  iter (fun x=>f18_b3 l b x.1 x.2.1 x.2.2.1 x.2.2.2) ((0:Int),l,s.1,s.2) = some (Out.go (l,allB l b s)):=by
 have key:=iter_listJ b (small_max (by omega)) (fun (x:Int × List T25 × LS)=>f18_b3 l b x.1 x.2.1 x.2.2.1 x.2.2.2)
  (fun r _ x=>(Out.go (l,allB l r x.2):Out ((Option T68) × (List UInt8) × Int) (List T25 × List Int × List Int)))
  (fun _ x=>x.1 = l ∧ Ls l.length x.2) (fun i x r st hI hi hx hd=>by
   obtain ⟨h2,h3⟩:=hI
   obtain ⟨v,st⟩:=st
   simp only at h2 h3
   subst h2
   have hd1:decide ((i:Int) < (b.length:Int)) = true:=by simpa using hi
   have g1:(0:Int) ≤ i ∧ (i:Int) < (b.length:Int):=by omega
   right
   refine ⟨(v,blkB v x st),?_,⟨rfl,blkB_ls x h3⟩,rfl⟩
   simp only [f18_b3,hd1,cond_true,if_pos g1]
   rw [f24_block v b h hbe hfound i hi st h3,hx]
   rfl) (fun st hI=>by simp only [f18_b3,show decide ((b.length:Int) < (b.length:Int)) = false from by simp,cond_false,allB,List.foldl_nil]; rw [hI.1]) 0 (Nat.zero_le _) (l,s) ⟨rfl,hs⟩
 exact key

end Go.Sx.top

namespace Go.Sx.top
open Go Go.Sx

/-! ### Equivalences -/

def pu (l:List T25) (p:T37):Int:=w64 (p.f1 * (l.getD (ix l p.f0) default).f1)

def dE (l:List T25) (p q:T37):Int:=pu l p - pu l q

def tiesE (l:List T25) (p:T37):List T37 → LS → Option T37 × LS
 | [],s=>(none,s)
 | q :: r,s=>match tie (ix l p.f0) (ix l q.f0) (dE l p q) s with
  | (true,s')=>tiesE l p r s'
  | (false,s')=>(some q,s')

def eqE (l:List T25):List T37 → LS → Option T37 × LS
 | [],s=>(none,s)
 | p :: r,s=>tiesE l p r s

def allE (l:List T25):List (List T37) → LS → Option T37 × LS
 | [],s=>(none,s)
 | e :: r,s=>match eqE l e s with
  | (some q,s')=>(some q,s')
  | (none,s')=>allE l r s'

theorem tiesE_ls {l:List T25} {n:Nat} {p:T37}:∀ (r:List T37) (s:LS),Ls n s → Ls n (tiesE l p r s).2
 | [],_,h=>h
 | q :: r,s,h=>by
  have ht:=h.tie (ix l p.f0) (ix l q.f0) (dE l p q)
  simp only [tiesE]
  cases hq:tie (ix l p.f0) (ix l q.f0) (dE l p q) s with
  | mk b s' =>
   rw [hq] at ht
   cases b with
   | true=>exact tiesE_ls r s' ht
   | false=>exact ht

theorem eqE_ls {l:List T25} {n:Nat} (e:List T37) {s:LS} (h:Ls n s):Ls n (eqE l e s).2:=by
 cases e with
 | nil=>exact h
 | cons p r=>exact tiesE_ls r s h

theorem allE_ls {l:List T25} {n:Nat}:∀ (es:List (List T37)) {s:LS},Ls n s → Ls n (allE l es s).2
 | [],_,h=>h
 | e :: es,s,h=>by
  have:=eqE_ls (l:=l) e h
  simp only [allE]
  cases hq:eqE l e s with
  | mk b s' =>
   rw [hq] at this
   cases b with
   | some q=>exact this
   | none=>exact allE_ls es this

/-- Places that are there. -/
def Pl (l:List T25) (p:T37):Prop:=(fd l p.f0).isSome = true ∧ 0 ≤ pu l p ∧ pu l p ≤ 4000

theorem pl_of {l:List T25} (ha:are l = true) {p:T37} (h:isPl l p = true):Pl l p:=by
 obtain ⟨i,h1,h2,h3,h4⟩:=isPl_iff h
 obtain ⟨_,hok⟩:=are_ok ha
 obtain ⟨k1,k2,k3⟩:=hok _ (getD_mem h2)
 have e:ix l p.f0 = i:=by simp [ix,h1]
 have hb:0 ≤ p.f1 * (l.getD i default).f1 ∧ p.f1 * (l.getD i default).f1 ≤ 4000:=by rcases k1 with h | h | h <;> rw [h] <;> omega
 refine ⟨by rw [h1]; rfl,?_⟩
 unfold pu
 rw [e,w64_id (by omega) (by omega)]
 exact hb

theorem f24_eq1 (l:List T25) (e:List (List T37)) (h:Vs l) (hee:∀ x ∈ e,x.length ≤ 500) (hpl:∀ x ∈ e,∀ p ∈ x,Pl l p) (k:Nat) (hk:k < e.length) (s:LS) (hs:Ls l.length s) :
  iter (fun x=>f18_b4 l e (k:Int) x.1 x.2.1 x.2.2.1 x.2.2.2) ((1:Int),l,s.1,s.2) = some (match eqE l (e.getD k default) s with | (some q,_)=>Out.ret (none,q.f0,(110:Int)) | (none,s')=>Out.go (l,s')):=by
 have hlen:=hee _ (getD_mem hk)
 have hp:=hpl _ (getD_mem hk)
 cases heq:e.getD k default with
 | nil =>
  refine iter_inr ?_
  have hd:decide ((1:Int) < (((e.getD k default).length:Nat):Int)) = false:=by rw [heq]; rfl
  simp only [f18_b4,Int.toNat_natCast,hd,cond_false,eqE]
 | cons p r =>
  have h0:(e.getD k default).getD 0 default = p:=by rw [heq]; rfl
  have key:=iter_listJ (e.getD k default) (small_max (by omega)) (fun (x:Int × List T25 × LS)=>f18_b4 l e (k:Int) x.1 x.2.1 x.2.2.1 x.2.2.2)
   (fun r i x=>(match tiesE l p r x.2 with | (some q,_)=>Out.ret (none,q.f0,(110:Int)) | (none,s')=>Out.go (l,s'):Out ((Option T68) × (List UInt8) × Int) (List T25 × List Int × List Int)))
   (fun i x=>1 ≤ i ∧ x.1 = l ∧ Ls l.length x.2) (fun i x r st hI hi hx hd=>by
    obtain ⟨h1,h2,h3⟩:=hI
    obtain ⟨v,st⟩:=st
    simp only at h2 h3
    subst h2
    have hxm:x ∈ e.getD k default:=by rw [← hx]; exact getD_mem hi
    have hpm:p ∈ e.getD k default:=by rw [heq]; exact List.mem_cons_self ..
    obtain ⟨p1,p2⟩:=ix_of (hp p hpm).1
    obtain ⟨x1,x2⟩:=ix_of (hp x hxm).1
    have hd1:decide ((i:Int) < ((e.getD k default).length:Int)) = true:=by simpa using hi
    have g1:(0:Int) < ((e.getD k default).length:Int) ∧ (0:Int) ≤ i ∧ (i:Int) < ((e.getD k default).length:Int):=by omega
    have g2:(0:Int) < ((e.getD k default).length:Int) ∧ (0:Int) ≤ ((ix v p.f0:Nat):Int) ∧ ((ix v p.f0:Nat):Int) < (v.length:Int) ∧ (0:Int) ≤ i ∧ (i:Int) < ((e.getD k default).length:Int) ∧ (0:Int) ≤ ((ix v x.f0:Nat):Int) ∧ ((ix v x.f0:Nat):Int) < (v.length:Int):=by omega
    have g3:(0:Int) ≤ i ∧ (i:Int) < ((e.getD k default).length:Int):=by omega
    have step:f18_b4 v e (k:Int) (i:Int) v st.1 st.2 = cond (!(tie (ix v p.f0) (ix v x.f0) (dE v p x) st).1) (some (.inr (.ret (none,x.f0,(110:Int))))) (some (.inl (w64 ((i:Int) + 1),v,(tie (ix v p.f0) (ix v x.f0) (dE v p x) st).2.1,(tie (ix v p.f0) (ix v x.f0) (dE v p x) st).2.2))):=by
     simp only [f18_b4,Int.toNat_natCast,hd1,cond_true,if_pos g1,if_pos g2,if_pos g3,f34_eq v h.len,h0,hx,p1,x1,idx,Option.bind_some]
     rw [show w64 (p.f1 * (v.getD (ix v p.f0) default).f1) = pu v p from rfl,show w64 (x.f1 * (v.getD (ix v x.f0) default).f1) = pu v x from rfl,f36o_eq v h.len st h3 _ _ p2 x2,Option.bind_some]
     rfl
    have ht:=h3.tie (ix v p.f0) (ix v x.f0) (dE v p x)
    show f18_b4 v e (k:Int) (i:Int) v st.1 st.2 = _ ∨ ∃ b',f18_b4 v e (k:Int) (i:Int) v st.1 st.2 = _ ∧ _
    rw [step]
    simp only [tiesE]
    cases hq:tie (ix v p.f0) (ix v x.f0) (dE v p x) st with
    | mk b st' =>
     rw [hq] at ht
     cases b with
     | true=>right; exact ⟨(v,st'),rfl,⟨by omega,rfl,ht⟩,rfl⟩
     | false=>left; rfl) (fun st hI=>by
    have hd:decide ((((e.getD k default).length:Nat):Int) < (((e.getD k default).length:Nat):Int)) = false:=by simp
    simp only [f18_b4,Int.toNat_natCast,hd,cond_false,tiesE]; rw [hI.2.1]) 1 (by rw [heq]; simp) (l,s) ⟨Nat.le_refl _,rfl,hs⟩
  rw [show (((1:Nat):Int),l,s) = ((1:Int),l,s.1,s.2) from rfl] at key
  rw [key,heq]
  rfl

theorem f24_eqs (l:List T25) (e:List (List T37)) (h:Vs l) (hel:e.length ≤ 500) (hee:∀ x ∈ e,x.length ≤ 500) (hpl:∀ x ∈ e,∀ p ∈ x,Pl l p) (s:LS) (hs:Ls l.length s) :
  iter (fun x=>f18_b5 l e x.1 x.2.1 x.2.2.1 x.2.2.2) ((0:Int),l,s.1,s.2) = some (match allE l e s with | (some q,_)=>Out.ret (none,q.f0,(110:Int)) | (none,s')=>Out.go (l,s')):=by
 have key:=iter_listJ e (small_max (by omega)) (fun (x:Int × List T25 × LS)=>f18_b5 l e x.1 x.2.1 x.2.2.1 x.2.2.2)
  (fun r _ x=>(match allE l r x.2 with | (some q,_)=>Out.ret (none,q.f0,(110:Int)) | (none,s')=>Out.go (l,s'):Out ((Option T68) × (List UInt8) × Int) (List T25 × List Int × List Int)))
  (fun _ x=>x.1 = l ∧ Ls l.length x.2) (fun i x r st hI hi hx hd=>by
   obtain ⟨h2,h3⟩:=hI
   obtain ⟨v,st⟩:=st
   simp only at h2 h3
   subst h2
   have hd1:decide ((i:Int) < (e.length:Int)) = true:=by simpa using hi
   have g1:(0:Int) ≤ i ∧ (i:Int) < (e.length:Int):=by omega
   have ht:=eqE_ls (l:=v) x h3
   simp only [f18_b5,hd1,cond_true,if_pos g1]
   rw [f24_eq1 v e h hee hpl i hi st h3,hx]
   simp only [allE]
   cases hq:eqE v x st with
   | mk b st' =>
    rw [hq] at ht
    cases b with
    | some q=>left; rfl
    | none=>right; exact ⟨(v,st'),rfl,⟨rfl,ht⟩,rfl⟩) (fun st hI=>by simp only [f18_b5,show decide ((e.length:Int) < (e.length:Int)) = false from by simp,cond_false,allE]; rw [hI.1]) 0 (Nat.zero_le _) (l,s) ⟨rfl,hs⟩
 exact key

/-! ### The beginning -/

def start (n:Nat):LS:=((List.range n).map fun i:Nat=>(i:Int),List.replicate n 0)

theorem start_ls (n:Nat):Ls n (start n):=⟨by simp [start],by simp [start]⟩

theorem start_gr {n i:Nat} (h:i < n):gr (start n) i = (i:Int):=by
 unfold gr start
 rw [getD_lt (by simpa using h)]
 simp

theorem start_of {n i:Nat}:of (start n) i = 0:=by
 unfold of start
 simp only [List.getD_eq_getElem?_getD,List.getElem?_replicate]
 split <;> rfl

theorem range_succ_map (k:Nat):(List.range (k + 1)).map (fun i:Nat=>(i:Int)) = (List.range k).map (fun i:Nat=>(i:Int)) ++ [(k:Int)]:=by
 rw [List.range_succ,List.map_append]; rfl

theorem f24_start (l:List T25) (h:l.length ≤ 60):iter (fun s=>f18_b1 l s.1 s.2) ((0:Int),[]) = some (Out.go (start l.length).1):=by
 have key:=iter_listJ l (small_max (by omega)) (fun (x:Int × List Int)=>f18_b1 l x.1 x.2) (fun _ _ _=>(Out.go (start l.length).1:Out ((Option T68) × (List UInt8) × Int) (List Int)))
  (fun i x=>x = (List.range i).map fun i:Nat=>(i:Int)) (fun i x r st hI hi hx hd=>by
   right
   subst hI
   refine ⟨(List.range (i + 1)).map fun i:Nat=>(i:Int),?_,rfl,rfl⟩
   have hb:(((List.range i).map fun i:Nat=>(i:Int)).length + [(i:Int)].length) * 8 ≤ 140737488355328:=by simp; omega
   simp only [f18_b1,show decide ((i:Int) < (l.length:Int)) = true from by simpa using hi,cond_true,if_pos hb,range_succ_map]) (fun st hI=>by
   subst hI
   simp only [f18_b1,show decide ((l.length:Int) < (l.length:Int)) = false from by simp,cond_false]; rfl) 0 (Nat.zero_le _) [] rfl
 exact key

end Go.Sx.top

namespace Go.Sx.top
open Go Go.Sx

/-- Over a list, by its index, which stands anywhere in the state. -/
theorem iter_listG {A B S X:Type} [Inhabited A] (mk:Int → B → S) (l:List A) (hl:l.length ≤ maxLen) (body:S → Option (S ⊕ X)) (F:List A → Nat → B → X) (I:Nat → B → Prop)
  (hs:∀ (i:Nat) (x:A) (r:List A) (b:B),I i b → i < l.length → l.getD i default = x → l.drop i = x :: r → (body (mk i b) = some (.inr (F (x :: r) i b))) ∨ ∃ b',body (mk i b) = some (.inl (mk (w64 ((i:Int) + 1)) b')) ∧ I (i + 1) b' ∧ F (x :: r) i b = F r (i + 1) b')
  (he:∀ b,I l.length b → body (mk l.length b) = some (.inr (F [] l.length b))) (b0:B) (h0:I 0 b0):iter body (mk 0 b0) = some (F l 0 b0):=by
 have key:∀ n i b,i + n = l.length → I i b → iter body (mk (i:Int) b) = some (F (l.drop i) i b):=by
  intro n
  induction n with
  | zero =>
   intro i b hi hI
   obtain rfl:i = l.length:=by omega
   rw [iter_inr (he b hI),List.drop_length]
  | succ n ih =>
   intro i b hi hI
   have hlt:i < l.length:=by omega
   have hd:l.drop i = l[i] :: l.drop (i + 1):=List.drop_eq_getElem_cons hlt
   rcases hs i l[i] (l.drop (i + 1)) b hI hlt (by simp [List.getD_eq_getElem?_getD,hlt]) hd with hb | ⟨b',hb,hI',hF⟩
   ·rw [iter_inr hb,hd]
   ·rw [iter_inl hb,w64_succ hlt hl,hd,hF]
    exact ih (i + 1) b' (by omega) hI'
 have:=key l.length 0 b0 (by omega) h0
 simpa using this

abbrev M:=List (Int × Int)

theorem mget_mset:∀ (m:M) (k v g:Int),mget (mset m k v) g = if k = g then v else mget m g
 | [],k,v,g=>by
  simp only [mset,mget]
  by_cases h:k = g
  ·rw [if_pos h,beq_iff_eq.2 h]
  ·rw [if_neg h,beq_eq_false_iff_ne.2 h]
 | e :: m,k,v,g=>by
  simp only [mset]
  cases hb:e.1 == k with
  | true =>
   have hk:e.1 = k:=by simpa using hb
   simp only [mget]
   by_cases h:k = g
   ·rw [if_pos h,beq_iff_eq.2 h]
   ·rw [if_neg h,beq_eq_false_iff_ne.2 h,hk,beq_eq_false_iff_ne.2 h]
  | false =>
   simp only [mget]
   cases hg:e.1 == g with
   | true =>
    have h1:e.1 = g:=by simpa using hg
    have h2:e.1 ≠ k:=by simpa using hb
    rw [if_neg (fun h=>h2 (by rw [h1,h]))]
   | false=>exact mget_mset m k v g

theorem mhas_mset:∀ (m:M) (k v g:Int),mhas (mset m k v) g = ((k == g) || mhas m g)
 | [],k,v,g=>by
  simp only [mset,mhas]
  cases k == g <;> rfl
 | e :: m,k,v,g=>by
  simp only [mset]
  cases hb:e.1 == k with
  | true =>
   have hk:e.1 = k:=by simpa using hb
   simp only [mhas,hk]
   cases k == g <;> rfl
  | false =>
   simp only [mhas]
   cases hg:e.1 == g with
   | true=>simp
   | false=>exact mhas_mset m k v g

/-- The blocks' groups, and where these begin; or the first block whose group another one has. -/
def bdm (l:List T25) (s:LS):List (List Nm) → M × M → Option Nm × (M × M)
 | [],m=>(none,m)
 | [] :: r,m=>bdm l s r m
 | (p :: _) :: r,m=>match mhas m.1 (gr s (ix l p)) with
  | true=>(some p,m)
  | false=>bdm l s r (mset m.1 (gr s (ix l p)) (of s (ix l p)),mset m.2 (gr s (ix l p)) 1)

def Agree (m:M × M):Prop:=∀ g,(mget m.2 g != 0) = mhas m.1 g

theorem Agree.set {m:M × M} (h:Agree m) (k v:Int):Agree (mset m.1 k v,mset m.2 k 1):=fun g=>by
 rw [mget_mset,mhas_mset]
 by_cases e:k = g
 ·rw [if_pos e,beq_iff_eq.2 e]; rfl
 ·rw [if_neg e,beq_eq_false_iff_ne.2 e,Bool.false_or]; exact h g

theorem bdm_agree {l:List T25} {s:LS}:∀ (b:List (List Nm)) {m:M × M},Agree m → Agree (bdm l s b m).2
 | [],_,h=>h
 | [] :: r,_,h=>bdm_agree r h
 | (p :: q) :: r,m,h=>by
  simp only [bdm]
  cases mhas m.1 (gr s (ix l p)) with
  | true=>exact h
  | false=>exact bdm_agree r (h.set _ _)

theorem f37_blocks (l:List T25) (b:List (List Nm)) (h:Vs l) (hbl:b.length ≤ 500) (hfound:∀ t ∈ b.flatten,(fd l t).isSome) (s:LS) (hs:Ls l.length s) :
  iter (fun x=>f46o_b2 b (T68.mk l s.1 s.2) x.1 x.2.1 x.2.2) (([]:M),([]:M),(0:Int)) = some (match bdm l s b ([],[]) with | (some p,_)=>Out.ret (false,p,(110:Int),T68.mk l s.1 s.2) | (none,m)=>Out.go m):=by
 refine iter_listG (fun i (m:M × M)=>(m.1,m.2,i)) b (small_max (by omega)) (fun x=>f46o_b2 b (T68.mk l s.1 s.2) x.1 x.2.1 x.2.2)
  (fun r _ m=>(match bdm l s r m with | (some p,_)=>Out.ret (false,p,(110:Int),T68.mk l s.1 s.2) | (none,m)=>Out.go m:Out (Bool × Nm × Int × T68) (M × M)))
  (fun _ m=>Agree m) (fun i x r m hI hi hx hd=>?_) (fun m _=>?_) ([],[]) (fun g=>rfl)
 ·have hd1:decide ((i:Int) < (b.length:Int)) = true:=by simpa using hi
  have g1:(0:Int) ≤ i ∧ (i:Int) < (b.length:Int):=by omega
  cases x with
  | nil =>
   right
   refine ⟨m,?_,hI,rfl⟩
   have e0:((([]:List Nm).length:Int) == 0) = true:=rfl
   simp only [f46o_b2,hd1,cond_true,if_pos g1,Int.toNat_natCast,hx,e0]
   rfl
  | cons p q =>
   have hp:(fd l p).isSome:=hfound p (by rw [List.mem_flatten]; exact ⟨p :: q,by rw [← hx]; exact getD_mem hi,List.mem_cons_self ..⟩)
   obtain ⟨p1,p2⟩:=ix_of hp
   have e0:(((p :: q).length:Int) == 0) = false:=beq_eq_false_iff_ne.2 (by simp only [List.length_cons]; omega)
   have g2:(0:Int) < ((p :: q).length:Int):=by simp only [List.length_cons]; omega
   have g3:(0:Int) ≤ ((ix l p:Nat):Int) ∧ ((ix l p:Nat):Int) < (s.1.length:Int):=by rw [hs.g]; omega
   have g4:(0:Int) ≤ ((ix l p:Nat):Int) ∧ ((ix l p:Nat):Int) < (s.2.length:Int):=by rw [hs.o]; omega
   have e1:(p :: q).getD 0 default = p:=rfl
   have e2:=hI (gr s (ix l p))
   have step:f46o_b2 b (T68.mk l s.1 s.2) m.1 m.2 (i:Int) = cond (mhas m.1 (gr s (ix l p))) (some (.inr (.ret (false,p,(110:Int),T68.mk l s.1 s.2)))) (some (.inl (mset m.1 (gr s (ix l p)) (of s (ix l p)),mset m.2 (gr s (ix l p)) 1,w64 ((i:Int) + 1)))):=by
    rw [← e2]
    simp only [f46o_b2,f46o_j1,hd1,cond_true,if_pos g1,Int.toNat_natCast,hx,e0,cond_false,if_pos g2,f34_eq l h.len,e1,p1,idx,Option.bind_some,if_pos g3,if_pos g4]
   show f46o_b2 b (T68.mk l s.1 s.2) m.1 m.2 (i:Int) = _ ∨ ∃ b',f46o_b2 b (T68.mk l s.1 s.2) m.1 m.2 (i:Int) = _ ∧ _
   rw [step]
   simp only [bdm]
   cases hm:mhas m.1 (gr s (ix l p)) with
   | true=>left; rfl
   | false=>right; exact ⟨(mset m.1 (gr s (ix l p)) (of s (ix l p)),mset m.2 (gr s (ix l p)) 1),rfl,hI.set _ _,rfl⟩
 ·simp only [f46o_b2,show decide ((b.length:Int) < (b.length:Int)) = false from by simp,cond_false,bdm]

/-- The least offset of each group that no block has. -/
def mnF (s:LS) (blk:M):Nat → Nat → M → M
 | 0,_,m=>m
 | n + 1,i,m=>mnF s blk n (i + 1) (match mget blk (gr s i) != 0 with
  | true=>m
  | false=>match !mhas m (gr s i) || decide (of s i < mget m (gr s i)) with
   | true=>mset m (gr s i) (of s i)
   | false=>m)

theorem f37_least (l:List T25) (n:Nat) (hn:n ≤ maxLen) (s:LS) (hs:Ls n s) (blk m0:M) :
  iter (fun x=>f46o_b4 (T68.mk l s.1 s.2) blk x.1 x.2) (m0,(0:Int)) = some (Out.go (mnF s blk n 0 m0)):=by
 have key:=iter_listG (fun i (m:M)=>(m,i)) s.1 (by rw [hs.g]; exact hn) (fun x=>f46o_b4 (T68.mk l s.1 s.2) blk x.1 x.2)
  (fun r i m=>(Out.go (mnF s blk r.length i m):Out (Bool × Nm × Int × T68) M))
  (fun _ _=>True) (fun i x r m hI hi hx hd=>by
   have hd1:decide ((i:Int) < (s.1.length:Int)) = true:=by simpa using hi
   have g1:(0:Int) ≤ i ∧ (i:Int) < (s.1.length:Int):=by omega
   have g2:(0:Int) ≤ i ∧ (i:Int) < (s.2.length:Int):=by rw [hs.o]; have:=hs.g; omega
   right
   refine ⟨_,?_,trivial,rfl⟩
   simp only [f46o_b4,f46o_j3,hd1,cond_true,if_pos g1,if_pos g2,Int.toNat_natCast,cond_or,Option.bind_some]
   cases hb:mget blk (gr s i) != 0 with
   | true=>simp only [Bool.not_true,cond_false]
   | false =>
    simp only [Bool.not_false,cond_true]
    cases hc:!mhas m (gr s i) || decide (of s i < mget m (gr s i)) <;> rfl) (fun m _=>by
   simp only [f46o_b4,show decide ((s.1.length:Int) < (s.1.length:Int)) = false from by simp,cond_false,List.length_nil,mnF]) m0 trivial
 rw [hs.g] at key
 exact key

/-- Where a variable lies in its group. -/
def val (s:LS) (m:M) (i:Nat):Int:=w64 (of s i - mget m (gr s i))

def adjF (s:LS) (m:M):Nat → Nat → List Int → Option Nat × List Int
 | 0,_,o=>(none,o)
 | n + 1,i,o=>match decide (val s m i < 0) with
  | true=>(some i,o.set i (val s m i))
  | false=>adjF s m n (i + 1) (o.set i (val s m i))

theorem f37_adj (l:List T25) (hl:l.length ≤ maxLen) (s:LS) (hs:Ls l.length s) (m:M) :
  iter (fun x=>f46o_b5 (T68.mk l s.1 s.2) m x.1 x.2) ((0:Int),s.2) = some (match adjF s m l.length 0 s.2 with | (some i,o)=>Out.ret (false,(l.getD i default).f0,(10:Int),T68.mk l s.1 o) | (none,o)=>Out.go o):=by
 have key:=iter_listG (fun i (o:List Int)=>(i,o)) s.1 (by rw [hs.g]; exact hl) (fun x=>f46o_b5 (T68.mk l s.1 s.2) m x.1 x.2)
  (fun r i o=>(match adjF s m r.length i o with | (some i,o)=>Out.ret (false,(l.getD i default).f0,(10:Int),T68.mk l s.1 o) | (none,o)=>Out.go o:Out (Bool × Nm × Int × T68) (List Int)))
  (fun i o=>o.length = l.length ∧ ∀ j,i ≤ j → o.getD j default = of s j) (fun i x r o ⟨hI,hJ⟩ hi hx hd=>by
   have hd1:decide ((i:Int) < (s.1.length:Int)) = true:=by simpa using hi
   have hg:=hs.g
   have g1:(0:Int) ≤ i ∧ (i:Int) < (s.1.length:Int):=by omega
   have g2:(0:Int) ≤ i ∧ (i:Int) < (o.length:Int):=by omega
   have g3:(0:Int) ≤ i ∧ (i:Int) < (l.length:Int):=by omega
   have e1:w64 (o.getD i default - mget m (gr s i)) = val s m i:=by rw [hJ i (Nat.le_refl _)]; rfl
   have g4:(0:Int) ≤ i ∧ (i:Int) < ((o.set i (val s m i)).length:Int):=by rw [List.length_set]; omega
   have e2:(o.set i (val s m i)).getD i default = val s m i:=by rw [getD_set (by omega),if_pos rfl]
   have step:f46o_b5 (T68.mk l s.1 s.2) m (i:Int) o = cond (decide (val s m i < 0)) (some (.inr (.ret (false,(l.getD i default).f0,(10:Int),T68.mk l s.1 (o.set i (val s m i)))))) (some (.inl (w64 ((i:Int) + 1),o.set i (val s m i)))):=by
    have e1':w64 (o.getD i default - mget m (s.1.getD i default)) = val s m i:=e1
    simp only [f46o_b5,hd1,cond_true,if_pos g1,if_pos g2,Int.toNat_natCast,e1',if_pos g4,e2,if_pos g3]
   show f46o_b5 (T68.mk l s.1 s.2) m (i:Int) o = _ ∨ ∃ b',f46o_b5 (T68.mk l s.1 s.2) m (i:Int) o = _ ∧ _
   rw [step]
   simp only [List.length_cons,adjF]
   cases hc:decide (val s m i < 0) with
   | true=>left; rfl
   | false =>
    right
    refine ⟨o.set i (val s m i),rfl,⟨by simpa using hI,fun j hj=>?_⟩,rfl⟩
    rw [getD_set (by omega),if_neg (by omega)]
    exact hJ j (by omega)) (fun o _=>by
   simp only [f46o_b5,show decide ((s.1.length:Int) < (s.1.length:Int)) = false from by simp,cond_false,List.length_nil,adjF]) s.2 ⟨hs.o,fun _ _=>rfl⟩
 rw [hs.g] at key
 exact key

/-- All of the settling. -/
def sett (l:List T25) (b:List (List Nm)) (s:LS):Bool × Nm × Int × T68 :=
 match bdm l s b ([],[]) with
 | (some p,_)=>(false,p,110,T68.mk l s.1 s.2)
 | (none,m)=>match adjF s (mnF s m.2 l.length 0 m.1) l.length 0 s.2 with
  | (some i,o)=>(false,(l.getD i default).f0,10,T68.mk l s.1 o)
  | (none,o)=>(true,[],0,T68.mk l s.1 o)

theorem f37_eq (l:List T25) (b:List (List Nm)) (h:Vs l) (hbl:b.length ≤ 500) (hfound:∀ t ∈ b.flatten,(fd l t).isSome) (s:LS) (hs:Ls l.length s) :
  f46o b (T68.mk l s.1 s.2) = some (sett l b s):=by
 unfold f46o sett
 rw [f37_blocks l b h hbl hfound s hs]
 cases bdm l s b ([],[]) with
 | mk o m =>
  cases o with
  | some p=>rfl
  | none =>
   simp only [Option.bind_some]
   rw [f37_least l l.length h.len s hs m.2 m.1]
   simp only [Option.bind_some]
   rw [f37_adj l h.len s hs]
   cases adjF s (mnF s m.2 l.length 0 m.1) l.length 0 s.2 with
   | mk o2 o3=>cases o2 <;> rfl

end Go.Sx.top

namespace Go.Sx.top
open Go Go.Sx

theorem longB_le {A:Type} {l:List (List A)} (h:longB l = false):∀ x ∈ l,x.length ≤ 60:=fun x hx=>by
 have:=List.any_eq_false.1 h x hx
 simp only [decide_eq_true_eq] at this
 omega

theorem argB_iff {l:List T25} {e:List (List T37)} {b:List (List Nm)} (h:argB l e b = true):are l = true ∧ e.length ≤ 60 ∧ b.length ≤ 60 ∧ (∀ x ∈ e,x.length ≤ 60) ∧ ∀ x ∈ b,x.length ≤ 60:=by
 simp only [argB,Bool.and_eq_true,Bool.not_eq_true',decide_eq_false_iff_not] at h
 obtain ⟨⟨⟨h1,h2⟩,h3⟩,h4,h5⟩:=h
 exact ⟨h1,by omega,by omega,longB_le h4,longB_le h5⟩

theorem argB_sm {l:List T25} {e:List (List T37)} {b:List (List Nm)} (h:argB l e b = true):Sm e b:=by
 obtain ⟨_,h2,h3,h4,h5⟩:=argB_iff h
 exact ⟨by omega,by omega,fun x hx=>by have:=h4 x hx; omega,fun x hx=>by have:=h5 x hx; omega⟩

theorem ask_bad {l:List T25} {e:List (List T37)} {b:List (List Nm)} (h:argB l e b = false):ask l e b = ([],2):=by
 unfold ask; rw [h]

theorem f35_any (l:List T25) (e:List (List T37)) (b:List (List Nm)) (h:Vs l):f43 l e b = some (ask l e b):=by
 cases ha:argB l e b with
 | true=>exact f35_eq l e b h (argB_sm ha)
 | false =>
  rw [ask_bad ha]
  by_cases h1:e.length ≤ 500
  ·by_cases h2:b.length ≤ 500
   ·have i1:=long_loop e h1 (fun s=>f43_b1 e s) (([]:Nm),(2:Int)) (fun i=>rfl)
    have i2:=long_loop b h2 (fun s=>f43_b2 b s) (([]:Nm),(2:Int)) (fun i=>rfl)
    unfold argB at ha
    unfold f43
    rw [f42_eq l h]
    simp only [Option.bind_some,f82,cond_or]
    rw [i1,i2]
    cases hl:are l with
    | false=>rfl
    | true =>
     cases he:decide ((e.length:Int) > 60) with
     | true=>rfl
     | false =>
      cases hb:decide ((b.length:Int) > 60) with
      | true=>rfl
      | false =>
       rw [hl,he,hb] at ha
       cases h3:longB e with
       | true=>rfl
       | false =>
        cases h4:longB b with
        | true=>rfl
        | false=>rw [h3,h4] at ha; cases ha
   ·unfold f43
    rw [f42_eq l h]
    simp only [Option.bind_some,f82,decide_eq_true (show (b.length:Int) > 60 by omega)]
    cases are l <;> cases decide ((e.length:Int) > 60) <;> rfl
  ·unfold f43
   rw [f42_eq l h]
   simp only [Option.bind_some,f82,decide_eq_true (show (e.length:Int) > 60 by omega)]
   cases are l <;> rfl

/-- What is asked is right. -/
structure Ok (l:List T25) (e:List (List T37)) (b:List (List Nm)):Prop where
 arg:argB l e b = true
 pl:badP l e = none
 nm:badN l b.flatten = none
 du:dupN b.flatten [] = none

theorem ask_ok {l:List T25} {e:List (List T37)} {b:List (List Nm)} (h:(ask l e b).2 = 0):Ok l e b:=by
 unfold ask at h
 cases h1:argB l e b with
 | false=>rw [h1] at h; cases h
 | true =>
  rw [h1] at h
  cases h2:badP l e with
  | some p=>rw [h2] at h; cases h
  | none =>
   rw [h2] at h
   cases h3:badN l b.flatten with
   | some p=>rw [h3] at h; cases h
   | none =>
    rw [h3] at h
    cases h4:dupN b.flatten [] with
    | some p=>rw [h4] at h; cases h
    | none=>exact ⟨h1,h2,h3,h4⟩

theorem Ok.ask {l:List T25} {e:List (List T37)} {b:List (List Nm)} (h:Ok l e b):ask l e b = ([],0):=by
 unfold Go.Sx.top.ask; rw [h.arg,h.pl,h.nm,h.du]

theorem Ok.pls {l:List T25} {e:List (List T37)} {b:List (List Nm)} (h:Ok l e b):∀ x ∈ e,∀ p ∈ x,Pl l p:=fun x hx p hp=>by
 have h2:=List.find?_eq_none.1 h.pl p (List.mem_flatten.2 ⟨x,hx,hp⟩)
 exact pl_of (argB_iff h.arg).1 (by simpa using h2)

theorem Ok.found {l:List T25} {e:List (List T37)} {b:List (List Nm)} (h:Ok l e b):∀ t ∈ b.flatten,(fd l t).isSome:=badN_none h.nm

/-- The state after all ties, or the place that does not agree. -/
def tied (l:List T25) (e:List (List T37)) (b:List (List Nm)):Option T37 × LS:=allE l e (allB l b (start l.length))

theorem tied_ls (l:List T25) (e:List (List T37)) (b:List (List Nm)):Ls l.length (tied l e b).2:=allE_ls e (allB_ls b (start_ls _))

def lay (l:List T25) (e:List (List T37)) (b:List (List Nm)):(Option T68) × Nm × Int :=
 match (ask l e b).2 == 0 with
 | false=>(none,(ask l e b).1,(ask l e b).2)
 | true=>match tied l e b with
  | (some q,_)=>(none,q.f0,110)
  | (none,s)=>match sett l b s with
   | (false,p,c,_)=>(none,p,c)
   | (true,p,c,x)=>(some x,p,c)

theorem f24_eq (l:List T25) (e:List (List T37)) (b:List (List Nm)) (h:Vs l):f18 l e b = some (lay l e b):=by
 unfold f18 lay
 rw [f35_any l e b h]
 simp only [Option.bind_some]
 have bn:((ask l e b).2 != (0:Int)) = !((ask l e b).2 == 0):=rfl
 rw [bn]
 cases hq:(ask l e b).2 == 0 with
 | false=>rfl
 | true =>
  have ok:=ask_ok (by simpa using hq)
  have hsm:=argB_sm ok.arg
  have h60:=(are_ok (argB_iff ok.arg).1).1
  have g1:(8:Int) * (l.length:Int) ≤ 281474976710656 ∧ (l.length:Int) ≤ 9223372036854775807:=by omega
  have hls:=tied_ls l e b
  simp only [Bool.not_true,cond_false,if_pos g1]
  rw [f24_start l h60]
  simp only [Option.bind_some,Int.toNat_natCast]
  have hb:=f24_blocks l b h hsm.bl hsm.be ok.found (start l.length) (start_ls _)
  have hb':iter (fun s=>f18_b3 l b s.1 s.2.1 s.2.2.1 s.2.2.2) ((0:Int),l,(start l.length).1,List.replicate l.length (0:Int)) = some (Out.go (l,allB l b (start l.length))):=hb
  rw [hb']
  simp only [Option.bind_some]
  rw [f24_eqs l e h hsm.el hsm.ee ok.pls _ (allB_ls b (start_ls _))]
  unfold tied at hls ⊢
  cases hw:allE l e (allB l b (start l.length)) with
  | mk o s =>
   rw [hw] at hls
   cases o with
   | some q=>rfl
   | none =>
    simp only [Option.bind_some]
    rw [f37_eq l b h hsm.bl ok.found s hls]
    simp only [Option.bind_some]
    cases sett l b s with
    | mk k r=>cases k <;> rfl

end Go.Sx.top

namespace Go.Sx.top
open Go Go.Sx

/-- The block begins in this group. -/
def bh (l:List T25) (s:LS) (g:Int):List Nm → Bool
 | []=>false
 | p :: _=>gr s (ix l p) == g

theorem bdm_none {l:List T25} {s:LS}:∀ (b:List (List Nm)) {m m':M × M},bdm l s b m = (none,m') →
  (∀ g,mhas m'.1 g = (mhas m.1 g || b.any (bh l s g))) ∧ ∀ g,mget m'.1 g = (match mhas m.1 g with | true=>mget m.1 g | false=>match b.find? (bh l s g) with | some (p :: _)=>of s (ix l p) | _=>mget m.1 g)
 | [],m,m',h=>by
  cases h
  exact ⟨fun g=>by simp,fun g=>by cases mhas m.1 g <;> rfl⟩
 | [] :: r,m,m',h=>by
  obtain ⟨h1,h2⟩:=bdm_none r (m:=m) (m':=m') h
  refine ⟨fun g=>?_,fun g=>?_⟩
  ·rw [h1 g]; rfl
  ·rw [h2 g]; rfl
 | (p :: q) :: r,m,m',h=>by
  simp only [bdm] at h
  cases hm:mhas m.1 (gr s (ix l p)) with
  | true=>rw [hm] at h; cases h
  | false =>
   rw [hm] at h
   obtain ⟨h1,h2⟩:=bdm_none r h
   refine ⟨fun g=>?_,fun g=>?_⟩
   ·rw [h1 g,mhas_mset]
    simp only [List.any_cons,bh]
    cases mhas m.1 g <;> cases gr s (ix l p) == g <;> simp
   ·rw [h2 g,mhas_mset,mget_mset]
    simp only [List.find?_cons,bh]
    by_cases e:gr s (ix l p) = g
    ·rw [beq_iff_eq.2 e,if_pos e,← e,hm]; rfl
    ·rw [beq_eq_false_iff_ne.2 e,if_neg e,Bool.false_or]

end Go.Sx.top

namespace Go.Sx.top
open Go Go.Sx

/-! ### What ties keep -/

def Kp (n:Nat) (P:LS → Prop):Prop:=∀ a b d s,a < n → b < n → Ls n s → P s → P (tie a b d s).2

theorem tiesB_keep {l:List T25} {P:LS → Prop} (hk:Kp l.length P):∀ (r:List Nm) (p:Nm) (s:LS),(∀ t ∈ p :: r,(fd l t).isSome) → Ls l.length s → P s → P (tiesB l p r s)
 | [],_,_,_,_,h=>h
 | q :: r,p,s,hf,hs,h=>tiesB_keep hk r q _ (fun t ht=>hf t (List.mem_cons_of_mem _ ht)) (hs.tie _ _ _) (hk _ _ _ _ (ix_of (hf p (List.mem_cons_self ..))).2 (ix_of (hf q (List.mem_cons_of_mem _ (List.mem_cons_self ..)))).2 hs h)

theorem allB_keep {l:List T25} {P:LS → Prop} (hk:Kp l.length P):∀ (b:List (List Nm)) (s:LS),(∀ t ∈ b.flatten,(fd l t).isSome) → Ls l.length s → P s → P (allB l b s)
 | [],_,_,_,h=>h
 | x :: b,s,hf,hs,h=>by
  show P (allB l b (blkB l x s))
  refine allB_keep hk b _ (fun t ht=>hf t (by simp only [List.flatten_cons,List.mem_append]; exact .inr ht)) (blkB_ls x hs) ?_
  cases x with
  | nil=>exact h
  | cons p r=>exact tiesB_keep hk r p s (fun t ht=>hf t (by simp only [List.flatten_cons,List.mem_append]; exact .inl ht)) hs h

theorem tiesE_keep {l:List T25} {P:LS → Prop} (hk:Kp l.length P) {p:T37} (hp:Pl l p):∀ (r:List T37) (s:LS),(∀ q ∈ r,Pl l q) → Ls l.length s → P s → P (tiesE l p r s).2
 | [],_,_,_,h=>h
 | q :: r,s,hf,hs,h=>by
  have h1:=hk (ix l p.f0) (ix l q.f0) (dE l p q) s (ix_of hp.1).2 (ix_of (hf q (List.mem_cons_self ..)).1).2 hs h
  have h2:=hs.tie (ix l p.f0) (ix l q.f0) (dE l p q)
  simp only [tiesE]
  cases hq:tie (ix l p.f0) (ix l q.f0) (dE l p q) s with
  | mk k s' =>
   rw [hq] at h1 h2
   cases k with
   | true=>exact tiesE_keep hk hp r s' (fun u hu=>hf u (List.mem_cons_of_mem _ hu)) h2 h1
   | false=>exact h1

theorem allE_keep {l:List T25} {P:LS → Prop} (hk:Kp l.length P):∀ (e:List (List T37)) (s:LS),(∀ x ∈ e,∀ p ∈ x,Pl l p) → Ls l.length s → P s → P (allE l e s).2
 | [],_,_,_,h=>h
 | x :: e,s,hf,hs,h=>by
  have h1:P (eqE l x s).2:=by
   cases x with
   | nil=>exact h
   | cons p r=>exact tiesE_keep hk (hf _ (List.mem_cons_self ..) p (List.mem_cons_self ..)) r s (fun q hq=>hf _ (List.mem_cons_self ..) q (List.mem_cons_of_mem _ hq)) hs h
  have h2:=eqE_ls (l:=l) x hs
  simp only [allE]
  cases hq:eqE l x s with
  | mk k s' =>
   rw [hq] at h1 h2
   cases k with
   | some q=>exact h1
   | none=>exact allE_keep hk e s' (fun y hy=>hf y (List.mem_cons_of_mem _ hy)) h2 h1

theorem tied_keep {l:List T25} {e:List (List T37)} {b:List (List Nm)} (ok:Ok l e b) (P:LS → Prop) (hk:Kp l.length P) (h0:P (start l.length)):P (tied l e b).2 :=
 allE_keep hk e _ ok.pls (allB_ls b (start_ls _)) (allB_keep hk b _ ok.found (start_ls _) h0)

/-- Each group's first one lies at 0. -/
def Rt (n:Nat) (s:LS):Prop:=∀ i,i < n → ∃ r,r < n ∧ gr s i = (r:Int) ∧ gr s r = (r:Int) ∧ of s r = 0

theorem Rt.start (n:Nat):Rt n (start n):=fun i hi=>⟨i,hi,start_gr hi,start_gr hi,start_of⟩

theorem Rt.keep (n:Nat):Kp n (Rt n):=fun a b d s ha hb hs h=>by
 by_cases hg:gr s a = gr s b
 ·rw [tie_same hg]; exact h
 ·obtain ⟨_,k⟩:=tie_other (d:=d) hs hg
  have key:∀ i,i < n → gr s i ≠ gr s b → ∃ r,r < n ∧ gr s i = (r:Int) ∧ gr (tie a b d s).2 r = (r:Int) ∧ of (tie a b d s).2 r = 0:=fun i hi hib=>by
   obtain ⟨r,r1,r2,r3,r4⟩:=h i hi
   obtain ⟨k1,k2⟩:=k r r1
   have hne:gr s r ≠ gr s b:=by rw [r3,← r2]; exact hib
   rw [if_neg hne] at k1 k2
   exact ⟨r,r1,r2,by rw [k1,r3],by rw [k2,r4]⟩
  intro i hi
  obtain ⟨k1,k2⟩:=k i hi
  by_cases hib:gr s i = gr s b
  ·rw [if_pos hib] at k1
   obtain ⟨r,r1,r2,r3,r4⟩:=key a ha hg
   exact ⟨r,r1,by rw [k1,r2],r3,r4⟩
  ·rw [if_neg hib] at k1
   obtain ⟨r,r1,r2,r3,r4⟩:=key i hi hib
   exact ⟨r,r1,by rw [k1,r2],r3,r4⟩

theorem tied_rt {l:List T25} {e:List (List T37)} {b:List (List Nm)} (ok:Ok l e b):Rt l.length (tied l e b).2:=tied_keep ok _ (Rt.keep _) (Rt.start _)

/-! ### The least offset -/

def mn2 (v x:Int):Int:=if x < v then x else v

def vsF (s:LS) (g:Int):Nat → Nat → List Int
 | 0,_=>[]
 | n + 1,i=>if gr s i == g then of s i :: vsF s g n (i + 1) else vsF s g n (i + 1)

theorem mem_vsF {s:LS} {g:Int} {x:Int}:∀ {n i:Nat},x ∈ vsF s g n i ↔ ∃ j,i ≤ j ∧ j < i + n ∧ gr s j = g ∧ of s j = x
 | 0,i=>⟨fun h=>(by cases h),fun ⟨j,h1,h2,_⟩=>(by omega)⟩
 | n + 1,i=>by
  simp only [vsF]
  cases hg:gr s i == g with
  | true =>
   simp only [if_true,List.mem_cons,mem_vsF]
   constructor
   ·rintro (h | ⟨j,h1,h2,h3⟩)
    ·exact ⟨i,Nat.le_refl _,by omega,by simpa using hg,h.symm⟩
    ·exact ⟨j,by omega,by omega,h3⟩
   ·rintro ⟨j,h1,h2,h3,h4⟩
    by_cases e:j = i
    ·left; rw [← h4,e]
    ·right; exact ⟨j,by omega,by omega,h3,h4⟩
  | false =>
   simp only [Bool.false_eq_true,if_false,mem_vsF]
   constructor
   ·rintro ⟨j,h1,h2,h3⟩
    exact ⟨j,by omega,by omega,h3⟩
   ·rintro ⟨j,h1,h2,h3,h4⟩
    have e:j ≠ i:=fun e=>by rw [← e,h3,beq_self_eq_true] at hg; cases hg
    exact ⟨j,by omega,by omega,h3,h4⟩

theorem mn2_le:∀ (r:List Int) (v:Int),r.foldl mn2 v ≤ v ∧ (∀ x ∈ r,r.foldl mn2 v ≤ x) ∧ (r.foldl mn2 v = v ∨ r.foldl mn2 v ∈ r)
 | [],v=>⟨Int.le_refl _,by simp,.inl rfl⟩
 | x :: r,v=>by
  obtain ⟨h1,h2,h3⟩:=mn2_le r (mn2 v x)
  have k:mn2 v x ≤ v ∧ mn2 v x ≤ x ∧ (mn2 v x = v ∨ mn2 v x = x):=by unfold mn2; split <;> omega
  simp only [List.foldl_cons]
  refine ⟨by omega,fun y hy=>?_,?_⟩
  ·rcases List.mem_cons.1 hy with rfl | hy
   ·omega
   ·exact h2 y hy
  ·rcases h3 with h3 | h3
   ·rcases k.2.2 with k3 | k3
    ·left; rw [h3,k3]
    ·right; rw [h3,k3]; exact List.mem_cons_self ..
   ·right; exact List.mem_cons_of_mem _ h3

def ov (m:M) (g:Int):Option Int:=match mhas m g with | true=>some (mget m g) | false=>none

def mnO:Option Int → Int → Option Int
 | none,x=>some x
 | some v,x=>some (mn2 v x)

theorem mnO_some:∀ (r:List Int) (v:Int),r.foldl mnO (some v) = some (r.foldl mn2 v)
 | [],_=>rfl
 | x :: r,v=>mnO_some r (mn2 v x)

/-- The document's least, with its large start, is the least. -/
theorem mn_big (c:Int) (r:List Int) (h:∃ x ∈ r,x ≤ c):r.foldl mnO none = some (r.foldl mn2 c):=by
 cases r with
 | nil=>obtain ⟨x,hx,_⟩:=h; cases hx
 | cons y r =>
  show r.foldl mnO (some y) = _
  rw [mnO_some,List.foldl_cons]
  congr 1
  obtain ⟨x,hx,hc⟩:=h
  obtain ⟨a1,a2,a3⟩:=mn2_le r y
  obtain ⟨b1,b2,b3⟩:=mn2_le r (mn2 c y)
  have k:mn2 c y ≤ c ∧ mn2 c y ≤ y ∧ (mn2 c y = c ∨ mn2 c y = y):=by unfold mn2; split <;> omega
  have ha:r.foldl mn2 y ≤ x:=by
   rcases List.mem_cons.1 hx with rfl | hx
   ·exact a1
   ·exact a2 x hx
  have hb:r.foldl mn2 (mn2 c y) ≤ x:=by
   rcases List.mem_cons.1 hx with rfl | hx
   ·omega
   ·exact b2 x hx
  have l1:r.foldl mn2 y ≤ r.foldl mn2 (mn2 c y):=by
   rcases b3 with b3 | b3
   ·rcases k.2.2 with k3 | k3
    ·omega
    ·rw [b3,k3]; exact a1
   ·exact a2 _ b3
  have l2:r.foldl mn2 (mn2 c y) ≤ r.foldl mn2 y:=by
   rcases a3 with a3 | a3
   ·omega
   ·exact b2 _ a3
  omega

theorem ov_mset {m:M} {k v g:Int}:ov (mset m k v) g = if k = g then some v else ov m g:=by
 unfold ov
 rw [mhas_mset,mget_mset]
 by_cases e:k = g
 ·rw [beq_iff_eq.2 e,if_pos e,if_pos e]; rfl
 ·rw [beq_eq_false_iff_ne.2 e,if_neg e,if_neg e,Bool.false_or]

theorem mnF_ov {s:LS} {blk:M}:∀ (n i:Nat) (m:M) (g:Int),ov (mnF s blk n i m) g = match mget blk g != 0 with | true=>ov m g | false=>(vsF s g n i).foldl mnO (ov m g)
 | 0,i,m,g=>by simp only [mnF,vsF,List.foldl_nil]; cases mget blk g != 0 <;> rfl
 | n + 1,i,m,g=>by
  simp only [mnF]
  rw [mnF_ov n (i + 1) _ g]
  by_cases e:gr s i = g
  ·simp only [vsF,e,beq_self_eq_true,if_true]
   cases hb:mget blk g != 0 with
   | true=>rfl
   | false =>
    simp only [List.foldl_cons]
    congr 1
    unfold ov
    cases hm:mhas m g with
    | false =>
     simp only [Bool.not_false,Bool.true_or,mhas_mset,mget_mset,beq_self_eq_true,if_true]; rfl
    | true =>
     cases hd:decide (of s i < mget m g) with
     | true =>
      simp only [Bool.not_true,Bool.false_or,mhas_mset,mget_mset,beq_self_eq_true,Bool.true_or,if_true,mnO,mn2]
      rw [if_pos (by simpa using hd)]
     | false =>
      simp only [Bool.not_true,Bool.false_or,hm,mnO,mn2]
      rw [if_neg (by simpa using hd)]
  ·have e':(gr s i == g) = false:=by simpa using e
   have hv:vsF s g (n + 1) i = vsF s g n (i + 1):=by simp only [vsF,e',Bool.false_eq_true,if_false]
   rw [hv]
   have ho:∀ v,ov (mset m (gr s i) v) g = ov m g:=fun v=>by rw [ov_mset,if_neg e]
   cases mget blk (gr s i) != 0 with
   | true=>rfl
   | false =>
    cases !mhas m (gr s i) || decide (of s i < mget m (gr s i)) with
    | true=>simp only [ho]
    | false=>rfl

/-- Where a group begins. -/
def stF (l:List T25) (b:List (List Nm)) (s:LS) (g:Int):Int:=match b.find? (bh l s g) with
 | some (p :: _)=>of s (ix l p)
 | _=>(vsF s g l.length 0).foldl mn2 1099511627776

theorem stF_eq {l:List T25} {b:List (List Nm)} {s:LS} {m:M × M} (hrt:Rt l.length s) (hm:bdm l s b ([],[]) = (none,m)) {i:Nat} (hi:i < l.length):mget (mnF s m.2 l.length 0 m.1) (gr s i) = stF l b s (gr s i):=by
 obtain ⟨h1,h2⟩:=bdm_none b hm
 have hag:Agree m:=by have:=bdm_agree (l:=l) (s:=s) b (m:=([],[])) (fun g=>rfl); rw [hm] at this; exact this
 have ho:=mnF_ov (s:=s) (blk:=m.2) l.length 0 m.1 (gr s i)
 rw [hag] at ho
 have e1:=h1 (gr s i)
 have e2:=h2 (gr s i)
 simp only [show mhas ([]:M) (gr s i) = false from rfl,Bool.false_or] at e1 e2
 cases hf:b.find? (bh l s (gr s i)) with
 | some x =>
  have hx:=List.find?_some hf
  have ha:b.any (bh l s (gr s i)) = true:=List.any_eq_true.2 ⟨x,List.mem_of_find?_eq_some hf,hx⟩
  cases x with
  | nil=>cases hx
  | cons p q =>
   rw [hf] at e2
   simp only at e2
   rw [ha] at e1
   rw [e1] at ho
   simp only [ov,e1] at ho
   unfold stF
   rw [hf]
   simp only
   rw [← e2]
   cases hh:mhas (mnF s m.2 l.length 0 m.1) (gr s i) with
   | true=>rw [hh] at ho; simpa using ho
   | false=>rw [hh] at ho; cases ho
 | none =>
  have ha:b.any (bh l s (gr s i)) = false:=by
   rw [List.any_eq_false]; intro x hx; exact List.find?_eq_none.1 hf x hx
  rw [ha] at e1
  rw [e1] at ho
  simp only [ov,e1] at ho
  obtain ⟨r,r1,r2,r3,r4⟩:=hrt i hi
  rw [mn_big 1099511627776 _ ⟨0,mem_vsF.2 ⟨r,by omega,by omega,by rw [r3,r2],r4⟩,by decide⟩] at ho
  unfold stF
  rw [hf]
  simp only
  cases hh:mhas (mnF s m.2 l.length 0 m.1) (gr s i) with
  | true=>rw [hh] at ho; simpa using ho
  | false=>rw [hh] at ho; cases ho

end Go.Sx.top

namespace Go.Sx.top
open Go Go.Sx

def fI (l:List Int) (g:Int):Option Nat:=findFrom (fun t=>t == g) l 0

theorem fI_lt {l:List Int} {g:Int} {k:Nat} (h:fI l g = some k):k < l.length:=by
 have:=findFrom_lt h; omega

theorem fI_snoc (l:List Int) (x g:Int):fI (l ++ [x]) g = match fI l g with | some j=>some j | none=>if x = g then some l.length else none:=by
 unfold fI
 rw [findFrom_append]
 cases findFrom (fun t=>t == g) l 0 with
 | some j=>rfl
 | none =>
  simp only [findFrom,Nat.zero_add]
  by_cases e:x = g
  ·rw [if_pos e,if_pos (beq_iff_eq.2 e)]
  ·rw [if_neg e,if_neg (by simpa using e)]

/-- The groups of the first i variables, as they stand. -/
def ids (s:LS):Nat → List Int
 | 0=>[]
 | i + 1=>match fI (ids s i) (gr s i) with
  | some _=>ids s i
  | none=>ids s i ++ [gr s i]

/-- A variable's group's number. -/
def kx (s:LS) (i:Nat):Nat:=match fI (ids s i) (gr s i) with
 | some k=>k
 | none=>(ids s i).length

theorem ids_succ (s:LS) (i:Nat):(ids s i).length ≤ (ids s (i + 1)).length ∧ (ids s (i + 1)).length ≤ (ids s i).length + 1:=by
 simp only [ids]
 cases fI (ids s i) (gr s i) <;> simp

theorem ids_le (s:LS):∀ i,(ids s i).length ≤ i
 | 0=>Nat.le_refl _
 | i + 1=>by have:=ids_le s i; have:=ids_succ s i; omega

theorem ids_mono (s:LS) (i:Nat):∀ k,(ids s i).length ≤ (ids s (i + k)).length
 | 0=>Nat.le_refl _
 | k + 1=>Nat.le_trans (ids_mono s i k) (ids_succ s (i + k)).1

theorem kx_lt (s:LS) (i:Nat):kx s i < (ids s (i + 1)).length:=by
 simp only [kx,ids]
 cases h:fI (ids s i) (gr s i) with
 | some k=>exact fI_lt h
 | none=>simp

def mx2 (a c:Int):Int:=if a > c then a else c

def szz (s:LS) (i:Nat) (z:List Int):List Int:=match fI (ids s i) (gr s i) with
 | some _=>z
 | none=>z ++ [0]

/-- How large the groups are after the first i variables. -/
def szF (l:List T25) (s:LS) (V:Nat → Int):Nat → List Int
 | 0=>[]
 | i + 1=>(szz s i (szF l s V i)).set (kx s i) (mx2 (w64 (V i + un l i)) ((szz s i (szF l s V i)).getD (kx s i) default))

theorem szz_len {s:LS} {i:Nat} {z:List Int} (h:z.length = (ids s i).length):(szz s i z).length = (ids s (i + 1)).length:=by
 simp only [szz,ids]
 cases fI (ids s i) (gr s i) <;> simp [h]

theorem szF_len (l:List T25) (s:LS) (V:Nat → Int):∀ i,(szF l s V i).length = (ids s i).length
 | 0=>rfl
 | i + 1=>by
  simp only [szF,List.length_set]
  exact szz_len (szF_len l s V i)

def gsF (s:LS) (i:Nat):List Int:=(List.range i).map fun j=>((kx s j:Nat):Int)

theorem range_map_snoc (f:Nat → Int) (i:Nat):(List.range (i + 1)).map f = (List.range i).map f ++ [f i]:=by
 rw [List.range_succ,List.map_append]; rfl

theorem range_map_get (f:Nat → Int) {n i:Nat} (h:i < n):((List.range n).map f).getD i default = f i:=by
 rw [getD_lt (by simpa using h)]; simp

theorem f11_loop (l:List T25) (hn:l.length ≤ 60) (s:LS) (hs:Ls l.length s) (V:Nat → Int) (x0:List T25) :
  iter (fun x=>f6_b2 l (T68.mk x0 s.1 ((List.range l.length).map V)) x.1 x.2.1 x.2.2.1 x.2.2.2) (([]:List Int),([]:List Int),([]:M),(0:Int)) = some (Out.go (gsF s l.length,szF l s V l.length)):=by
 refine iter_listG (fun i (b:List Int × List Int × M)=>(b.1,b.2.1,b.2.2,i)) l (small_max (by omega)) (fun x=>f6_b2 l (T68.mk x0 s.1 ((List.range l.length).map V)) x.1 x.2.1 x.2.2.1 x.2.2.2)
  (fun _ _ _=>(Out.go (gsF s l.length,szF l s V l.length):Out ((List Int) × (List Int) × (List Int) × Int) ((List Int) × (List Int))))
  (fun i b=>b.1 = gsF s i ∧ b.2.1 = szF l s V i ∧ ∀ g,ov b.2.2 g = Option.map (fun k:Nat=>(k:Int)) (fI (ids s i) g)) (fun i x r b hI hi hx hd=>?_) (fun b hI=>?_) ([],[],[]) ⟨rfl,rfl,fun g=>rfl⟩
 ·obtain ⟨b1,b2,m⟩:=b
  obtain ⟨rfl,rfl,hm⟩:=hI
  right
  have hd1:decide ((i:Int) < (s.1.length:Int)) = true:=by rw [hs.g]; simpa using hi
  have g1:(0:Int) ≤ i ∧ (i:Int) < (s.1.length:Int):=by rw [hs.g]; omega
  have hlen:(gsF s i).length = i:=by simp [gsF]
  have hsl:=szF_len l s V i
  have hil:=ids_le s i
  have hmi:=hm (gr s i)
  have k1:((szF l s V i).length + [(0:Int)].length) * 8 ≤ 140737488355328:=by simp only [List.length_cons,List.length_nil]; omega
  have k2:∀ v:Int,((gsF s i).length + [v].length) * 8 ≤ 140737488355328:=fun v=>by simp only [List.length_cons,List.length_nil]; omega
  have hkx:=kx_lt s i
  have hzl:=szz_len (s:=s) (i:=i) hsl
  have g2:(0:Int) ≤ ((kx s i:Nat):Int) ∧ ((kx s i:Nat):Int) < ((szz s i (szF l s V i)).length:Int) ∧ (0:Int) ≤ i ∧ (i:Int) < (l.length:Int):=by omega
  have g3:(0:Int) ≤ i ∧ (i:Int) < (((List.range l.length).map V).length:Int):=by simp only [List.length_map,List.length_range]; omega
  have g4:(0:Int) ≤ ((kx s i:Nat):Int) ∧ ((kx s i:Nat):Int) < ((szz s i (szF l s V i)).length:Int):=by omega
  have step:∀ m',f6_j1 l (T68.mk x0 s.1 ((List.range l.length).map V)) (gsF s i) (i:Int) (szz s i (szF l s V i)) m' ((kx s i:Nat):Int) = some (.inl (gsF s (i + 1),szF l s V (i + 1),m',w64 ((i:Int) + 1))):=fun m'=>by
   simp only [f6_j1,if_pos (k2 _),if_pos g2,if_pos g3,if_pos g4,Int.toNat_natCast,f19,Option.bind_some,range_map_get V hi]
   rw [show gsF s (i + 1) = gsF s i ++ [((kx s i:Nat):Int)] from range_map_snoc _ i]
   rfl
  show ∃ b',f6_b2 l (T68.mk x0 s.1 ((List.range l.length).map V)) (gsF s i) (szF l s V i) m (i:Int) = _ ∧ _
  simp only [f6_b2,hd1,cond_true,if_pos g1,Int.toNat_natCast]
  cases hf:fI (ids s i) (gr s i) with
  | some k =>
   rw [hf] at hmi
   have hh:mhas m (gr s i) = true:=by unfold ov at hmi; cases h:mhas m (gr s i) with | true=>rfl | false=>rw [h] at hmi; cases hmi
   have hg:mget m (gr s i) = ((kx s i:Nat):Int):=by unfold ov at hmi; rw [hh] at hmi; simp only [kx,hf]; simpa using hmi
   have hz:szz s i (szF l s V i) = szF l s V i:=by simp only [szz,hf]
   refine ⟨(gsF s (i + 1),szF l s V (i + 1),m),?_,⟨rfl,rfl,fun g=>?_⟩,by trivial⟩
   ·have:=step m
    rw [hz] at this
    simp only [hh,Bool.not_true,cond_false,hg]
    exact this
   ·rw [hm g]; simp only [ids,hf]
  | none =>
   rw [hf] at hmi
   have hh:mhas m (gr s i) = false:=by unfold ov at hmi; cases h:mhas m (gr s i) with | false=>rfl | true=>rw [h] at hmi; cases hmi
   have hz:szz s i (szF l s V i) = szF l s V i ++ [0]:=by simp only [szz,hf]
   have hk:(((szF l s V i).length:Nat):Int) = ((kx s i:Nat):Int):=by simp only [kx,hf]; omega
   refine ⟨(gsF s (i + 1),szF l s V (i + 1),mset m (gr s i) ((szF l s V i).length:Int)),?_,⟨rfl,rfl,fun g=>?_⟩,by trivial⟩
   ·have:=step (mset m (gr s i) ((szF l s V i).length:Int))
    rw [hz,← hk] at this
    simp only [hh,Bool.not_false,cond_true,if_pos k1]
    exact this
   ·show ov (mset m (gr s i) ((szF l s V i).length:Int)) g = _
    rw [ov_mset]
    simp only [ids,hf]
    rw [fI_snoc,hm g]
    by_cases e:gr s i = g
    ·rw [if_pos e,← e,hf]
     simp only [if_true,Option.map_some,hsl]
    ·rw [if_neg e]
     cases fI (ids s i) g with
     | some j=>rfl
     | none=>simp only [if_neg e]
 ·simp only [f6_b2,hs.g,show decide ((l.length:Int) < (l.length:Int)) = false from by simp,cond_false]
  rw [hI.1,hI.2.1]

theorem getD_left {a c:List Int} {k:Nat} (h:k < a.length):(a ++ c).getD k default = a.getD k default:=by
 rw [getD_lt (by rw [List.length_append]; omega),getD_lt h,List.getElem_append_left h]

end Go.Sx.top

namespace Go.Sx.top
open Go Go.Sx

/-- Where a variable lies in its group. -/
def Vn (l:List T25) (b:List (List Nm)) (s:LS) (i:Nat):Int:=w64 (of s i - stF l b s (gr s i))

theorem list_of_get {o:List Int} {n:Nat} {f:Nat → Int} (hl:o.length = n) (h:∀ j,j < n → o.getD j default = f j):o = (List.range n).map f:=by
 apply List.ext_getElem (by simpa using hl)
 intro j h1 h2
 have:=h j (by omega)
 rw [getD_lt h1] at this
 simpa using this

theorem adjF_eq {s:LS} {m:M}:∀ (n i:Nat) (o:List Int),o.length = i + n → (∀ j,j < i → o.getD j default = val s m j) →
  (adjF s m n i o).1 = (List.range' i n).find? (fun j=>decide (val s m j < 0)) ∧ ((adjF s m n i o).1 = none → (adjF s m n i o).2 = (List.range (i + n)).map (val s m))
 | 0,i,o,hl,h=>⟨rfl,fun _=>list_of_get hl h⟩
 | n + 1,i,o,hl,h=>by
  have ih:=adjF_eq (s:=s) (m:=m) n (i + 1) (o.set i (val s m i)) (by rw [List.length_set]; omega) (fun j hj=>by
   rw [getD_set (by omega)]
   split
   ·rename_i e; rw [← e]
   ·exact h j (by omega))
  rw [show i + 1 + n = i + (n + 1) by omega] at ih
  simp only [adjF,List.range'_succ,List.find?_cons]
  cases decide (val s m i < 0) with
  | true=>exact ⟨rfl,fun h=>by cases h⟩
  | false=>exact ih

theorem find_congr {p q:Nat → Bool} {l:List Nat} (h:∀ x ∈ l,p x = q x):l.find? p = l.find? q:=by
 induction l with
 | nil=>rfl
 | cons x r ih =>
  simp only [List.find?_cons,h x (List.mem_cons_self ..),ih fun y hy=>h y (List.mem_cons_of_mem _ hy)]

/-- What is wrong with where variables lie. -/
def fin (l:List T25) (b:List (List Nm)) (s:LS):Option (Nm × Int) :=
 match (bdm l s b ([],[])).1 with
 | some p=>some (p,110)
 | none=>match (List.range' 0 l.length).find? (fun j=>decide (Vn l b s j < 0)) with
  | some i=>some ((l.getD i default).f0,10)
  | none=>none

theorem sett_fin {l:List T25} {b:List (List Nm)} {s:LS} (hs:Ls l.length s) (hrt:Rt l.length s) :
  (match sett l b s with | (false,p,c,_)=>(none,p,c) | (true,p,c,x)=>(some x,p,c):(Option T68) × Nm × Int) = match fin l b s with | some (p,c)=>(none,p,c) | none=>(some (T68.mk l s.1 ((List.range l.length).map (Vn l b s))),[],0):=by
 unfold sett fin
 cases hb:bdm l s b ([],[]) with
 | mk o m =>
  cases o with
  | some p=>rfl
  | none =>
   simp only
   have hv:∀ i,i < l.length → val s (mnF s m.2 l.length 0 m.1) i = Vn l b s i:=fun i hi=>by
    unfold val Vn; rw [stF_eq hrt hb hi]
   obtain ⟨k1,k2⟩:=adjF_eq (s:=s) (m:=mnF s m.2 l.length 0 m.1) l.length 0 s.2 (by rw [hs.o]; omega) (fun j hj=>by omega)
   have e1:(List.range' 0 l.length).find? (fun j=>decide (val s (mnF s m.2 l.length 0 m.1) j < 0)) = (List.range' 0 l.length).find? (fun j=>decide (Vn l b s j < 0)):=find_congr fun x hx=>by
    rw [List.mem_range'_1] at hx; rw [hv x (by omega)]
   rw [e1] at k1
   cases ha:adjF s (mnF s m.2 l.length 0 m.1) l.length 0 s.2 with
   | mk a o =>
    rw [ha] at k1 k2
    rw [← k1]
    cases a with
    | some i=>rfl
    | none =>
     have e2:=k2 rfl
     simp only [Nat.zero_add] at e2
     simp only
     rw [e2]
     have e3:(List.range l.length).map (val s (mnF s m.2 l.length 0 m.1)) = (List.range l.length).map (Vn l b s):=List.map_congr_left fun x hx=>hv x (by simpa using hx)
     rw [e3]

/-- What is wrong, if anything. -/
def err (l:List T25) (e:List (List T37)) (b:List (List Nm)):Option (Nm × Int) :=
 match (ask l e b).2 == 0 with
 | false=>some (ask l e b)
 | true=>match (tied l e b).1 with
  | some q=>some (q.f0,110)
  | none=>fin l b (tied l e b).2

theorem lay_err (l:List T25) (e:List (List T37)) (b:List (List Nm)):lay l e b = match err l e b with
  | some (p,c)=>(none,p,c)
  | none=>(some (T68.mk l (tied l e b).2.1 ((List.range l.length).map (Vn l b (tied l e b).2))),[],0):=by
 unfold lay err
 cases hq:(ask l e b).2 == 0 with
 | false=>rfl
 | true =>
  have ok:=ask_ok (by simpa using hq)
  have hls:=tied_ls l e b
  have hrt:=tied_rt ok
  cases hw:tied l e b with
  | mk o s =>
   rw [hw] at hls hrt
   cases o with
   | some q=>rfl
   | none=>exact sett_fin hls hrt

theorem err_code {l:List T25} {e:List (List T37)} {b:List (List Nm)} {p:Nm} {c:Int} (h:err l e b = some (p,c)):c ≠ 0:=by
 unfold err at h
 cases hq:(ask l e b).2 == 0 with
 | false =>
  rw [hq] at h
  simp only [Option.some.injEq] at h
  rw [h] at hq
  simpa using hq
 | true =>
  rw [hq] at h
  cases hw:(tied l e b).1 with
  | some q=>rw [hw] at h; cases h; decide
  | none =>
   rw [hw] at h
   unfold fin at h
   simp only at h
   cases hb:(bdm l (tied l e b).2 b ([],[])).1 with
   | some p=>rw [hb] at h; cases h; decide
   | none =>
    rw [hb] at h
    simp only at h
    cases hf:(List.range' 0 l.length).find? (fun j=>decide (Vn l b (tied l e b).2 j < 0)) with
    | some i=>rw [hf] at h; cases h; decide
    | none=>rw [hf] at h; cases h

theorem err_ok {l:List T25} {e:List (List T37)} {b:List (List Nm)} (h:err l e b = none):Ok l e b ∧ (tied l e b).1 = none ∧ fin l b (tied l e b).2 = none:=by
 unfold err at h
 cases hq:(ask l e b).2 == 0 with
 | false=>rw [hq] at h; cases h
 | true =>
  rw [hq] at h
  cases hw:(tied l e b).1 with
  | some q=>rw [hw] at h; cases h
  | none=>rw [hw] at h; exact ⟨ask_ok (by simpa using hq),rfl,h⟩

abbrev L3:=List Int × List Int × List Int

/-- Where variables lie. -/
def laid (l:List T25) (e:List (List T37)) (b:List (List Nm)):L3 :=
 (gsF (tied l e b).2 l.length,(List.range l.length).map (Vn l b (tied l e b).2),szF l (tied l e b).2 (Vn l b (tied l e b).2) l.length)

theorem f11_eq (l:List T25) (e:List (List T37)) (b:List (List Nm)) (h:Vs l):f6 l e b = some (match err l e b with
  | some (_,c)=>([],[],[],c)
  | none=>((laid l e b).1,(laid l e b).2.1,(laid l e b).2.2,0)):=by
 unfold f6
 rw [f24_eq l e b h,lay_err]
 cases he:err l e b with
 | some pc =>
  obtain ⟨p,c⟩:=pc
  have hc:(c != (0:Int)) = true:=by simpa using err_code he
  simp only [Option.bind_some,hc,cond_true]
 | none =>
  obtain ⟨ok,h1,h2⟩:=err_ok he
  have h60:=(are_ok (argB_iff ok.arg).1).1
  simp only [Option.bind_some,show ((0:Int) != 0) = false from rfl,cond_false]
  rw [f11_loop l h60 _ (tied_ls l e b)]
  have k:(([]:List Int).length + ((List.range l.length).map (Vn l b (tied l e b).2)).length) * 8 ≤ 140737488355328:=by simp only [List.length_nil,List.length_map,List.length_range]; omega
  simp only [Option.bind_some,f20,if_pos k,List.nil_append]
  rfl

end Go.Sx.top

namespace Go.Sx.top
open Go Go.Sx

/-- b lies d units behind a, in a's group. -/
def Rel (s:LS) (a b:Nat) (d:Int):Prop:=gr s a = gr s b ∧ w64 (of s a + d - of s b) = 0

theorem rel_moved {x y d by_:Int} (h:w64 (x + d - y) = 0):w64 (w64 (x + by_) + d - w64 (y + by_)) = 0:=by
 obtain ⟨k1,h1⟩:=w64_mod (x + by_)
 obtain ⟨k2,h2⟩:=w64_mod (y + by_)
 rw [← h]
 exact w64_congr (k:=k1 - k2) (by rw [h1,h2]; omega)

theorem Rel.keep {n a b:Nat} {d:Int} (ha:a < n) (hb:b < n):Kp n (fun s=>Rel s a b d):=fun a' b' d' s ha' hb' hs h=>by
 by_cases hg:gr s a' = gr s b'
 ·rw [tie_same hg]; exact h
 ·obtain ⟨_,k⟩:=tie_other (d:=d') hs hg
  obtain ⟨h1,h2⟩:=h
  obtain ⟨p1,p2⟩:=k a ha
  obtain ⟨q1,q2⟩:=k b hb
  unfold Rel
  rw [p1,p2,q1,q2,← h1]
  refine ⟨rfl,?_⟩
  by_cases hm:gr s a = gr s b'
  ·rw [if_pos hm,if_pos hm]; exact rel_moved h2
  ·rw [if_neg hm,if_neg hm]; exact h2

/-! ### Equivalences -/

/-! ### Blocks -/

/-- Each lies behind the one ahead of it. -/
def Ch (l:List T25) (s:LS):Nm → List Nm → Prop
 | _,[]=>True
 | p,q :: r=>Rel s (ix l p) (ix l q) (un l (ix l p)) ∧ Ch l s q r

theorem Ch.keep {l:List T25}:∀ (r:List Nm) (p:Nm),(∀ t ∈ p :: r,(fd l t).isSome) → Kp l.length (fun s=>Ch l s p r)
 | [],_,_=>fun _ _ _ _ _ _ _ h=>h
 | q :: r,p,hf=>fun a b d s ha hb hs h =>
  ⟨Rel.keep (ix_of (hf p (List.mem_cons_self ..))).2 (ix_of (hf q (List.mem_cons_of_mem _ (List.mem_cons_self ..)))).2 a b d s ha hb hs h.1,
   Ch.keep r q (fun t ht=>hf t (List.mem_cons_of_mem _ ht)) a b d s ha hb hs h.2⟩

end Go.Sx.top

namespace Go.Sx.top
open Go Go.Sx

theorem w64_zero {x:Int} (h:w64 x = 0):∃ k:Int,x = k * 18446744073709551616:=by
 obtain ⟨k,hk⟩:=w64_mod x
 exact ⟨-k,by omega⟩

theorem Rel.V {l:List T25} {bs:List (List Nm)} {s:LS} {a b:Nat} {d:Int} (h:Rel s a b d):Vn l bs s b = w64 (Vn l bs s a + d):=by
 obtain ⟨h1,h2⟩:=h
 obtain ⟨k,hk⟩:=w64_zero h2
 unfold Vn
 rw [w64_inl,h1]
 exact w64_congr (k:=-k) (by omega)

theorem Ch.at {l:List T25} {s:LS}:∀ {r:List Nm} {p:Nm},Ch l s p r → ∀ i,i + 1 < (p :: r).length → Rel s (ix l ((p :: r).getD i default)) (ix l ((p :: r).getD (i + 1) default)) (un l (ix l ((p :: r).getD i default)))
 | [],p,_,i,hi=>by simp only [List.length_cons,List.length_nil] at hi; omega
 | q :: r,p,h,0,_=>h.1
 | q :: r,p,h,i + 1,hi=>Ch.at h.2 i (by simp only [List.length_cons] at hi ⊢; omega)

theorem Ch.gr {l:List T25} {s:LS} {r:List Nm} {p:Nm} (h:Ch l s p r):∀ i,i < (p :: r).length → Go.Sx.top.gr s (ix l ((p :: r).getD i default)) = Go.Sx.top.gr s (ix l p)
 | 0,_=>rfl
 | i + 1,hi=>by rw [← (Ch.at h i hi).1]; exact Ch.gr h i (by omega)

/-! ### Numbers of groups -/

theorem fin_none {l:List T25} {b:List (List Nm)} {s:LS} (h:fin l b s = none):(bdm l s b ([],[])).1 = none ∧ ∀ i,i < l.length → 0 ≤ Vn l b s i:=by
 unfold fin at h
 cases hb:(bdm l s b ([],[])).1 with
 | some p=>rw [hb] at h; cases h
 | none =>
  rw [hb] at h
  simp only at h
  cases hf:(List.range' 0 l.length).find? (fun j=>decide (Vn l b s j < 0)) with
  | some i=>rw [hf] at h; cases h
  | none =>
   refine ⟨rfl,fun i hi=>?_⟩
   have:=List.find?_eq_none.1 hf i (by rw [List.mem_range'_1]; omega)
   simp only [decide_eq_true_eq] at this
   omega

end Go.Sx.top

namespace Go.Sx.top
open Go Go.Sx

/-! ### What some ties keep -/

def KpC (n:Nat) (C:Nat → Nat → Int → Prop) (P:LS → Prop):Prop:=∀ a b d s,C a b d → a < n → b < n → Ls n s → P s → P (tie a b d s).2

def ChC (l:List T25) (C:Nat → Nat → Int → Prop):Nm → List Nm → Prop
 | _,[]=>True
 | p,q :: r=>C (ix l p) (ix l q) (un l (ix l p)) ∧ ChC l C q r

theorem tiesB_keepC {l:List T25} {C:Nat → Nat → Int → Prop} {P:LS → Prop} (hk:KpC l.length C P):∀ (r:List Nm) (p:Nm) (s:LS),(∀ t ∈ p :: r,(fd l t).isSome) → ChC l C p r → Ls l.length s → P s → P (tiesB l p r s)
 | [],_,_,_,_,_,h=>h
 | q :: r,p,s,hf,hc,hs,h=>tiesB_keepC hk r q _ (fun t ht=>hf t (List.mem_cons_of_mem _ ht)) hc.2 (hs.tie _ _ _) (hk _ _ _ _ hc.1 (ix_of (hf p (List.mem_cons_self ..))).2 (ix_of (hf q (List.mem_cons_of_mem _ (List.mem_cons_self ..)))).2 hs h)

theorem allB_keepC {l:List T25} {C:Nat → Nat → Int → Prop} {P:LS → Prop} (hk:KpC l.length C P):∀ (b:List (List Nm)) (s:LS),(∀ t ∈ b.flatten,(fd l t).isSome) → (∀ p r,p :: r ∈ b → ChC l C p r) → Ls l.length s → P s → P (allB l b s)
 | [],_,_,_,_,h=>h
 | x :: b,s,hf,hc,hs,h=>by
  show P (allB l b (blkB l x s))
  refine allB_keepC hk b _ (fun t ht=>hf t (by simp only [List.flatten_cons,List.mem_append]; exact .inr ht)) (fun p r hp=>hc p r (List.mem_cons_of_mem _ hp)) (blkB_ls x hs) ?_
  cases x with
  | nil=>exact h
  | cons p r=>exact tiesB_keepC hk r p s (fun t ht=>hf t (by simp only [List.flatten_cons,List.mem_append]; exact .inl ht)) (hc p r (List.mem_cons_self ..)) hs h

theorem tiesE_keepC {l:List T25} {C:Nat → Nat → Int → Prop} {P:LS → Prop} (hk:KpC l.length C P) {p:T37} (hp:Pl l p):∀ (r:List T37) (s:LS),(∀ q ∈ r,Pl l q ∧ C (ix l p.f0) (ix l q.f0) (dE l p q)) → Ls l.length s → P s → P (tiesE l p r s).2
 | [],_,_,_,h=>h
 | q :: r,s,hf,hs,h=>by
  have hq0:=hf q (List.mem_cons_self ..)
  have h1:=hk (ix l p.f0) (ix l q.f0) (dE l p q) s hq0.2 (ix_of hp.1).2 (ix_of hq0.1.1).2 hs h
  have h2:=hs.tie (ix l p.f0) (ix l q.f0) (dE l p q)
  simp only [tiesE]
  cases hq:tie (ix l p.f0) (ix l q.f0) (dE l p q) s with
  | mk k s' =>
   rw [hq] at h1 h2
   cases k with
   | true=>exact tiesE_keepC hk hp r s' (fun u hu=>hf u (List.mem_cons_of_mem _ hu)) h2 h1
   | false=>exact h1

/-- Any two places of an equivalence are as C says. -/
def AllC (l:List T25) (e:List (List T37)) (C:Nat → Nat → Int → Prop):Prop:=∀ x ∈ e,∀ p ∈ x,∀ q ∈ x,Pl l q ∧ C (ix l p.f0) (ix l q.f0) (dE l p q)

theorem eqE_keepC {l:List T25} {C:Nat → Nat → Int → Prop} {P:LS → Prop} (hk:KpC l.length C P) (x:List T37) (s:LS) (hf:∀ p ∈ x,∀ q ∈ x,Pl l q ∧ C (ix l p.f0) (ix l q.f0) (dE l p q)) (hs:Ls l.length s) (h:P s):P (eqE l x s).2:=by
 cases x with
 | nil=>exact h
 | cons p r=>exact tiesE_keepC hk (hf p (List.mem_cons_self ..) p (List.mem_cons_self ..)).1 r s (fun q hq=>hf p (List.mem_cons_self ..) q (List.mem_cons_of_mem _ hq)) hs h

theorem allE_keepC {l:List T25} {C:Nat → Nat → Int → Prop} {P:LS → Prop} (hk:KpC l.length C P):∀ (e:List (List T37)) (s:LS),AllC l e C → Ls l.length s → P s → P (allE l e s).2
 | [],_,_,_,h=>h
 | x :: e,s,hf,hs,h=>by
  have h1:=eqE_keepC hk x s (hf x (List.mem_cons_self ..)) hs h
  have h2:=eqE_ls (l:=l) x hs
  simp only [allE]
  cases hq:eqE l x s with
  | mk k s' =>
   rw [hq] at h1 h2
   cases k with
   | some q=>exact h1
   | none=>exact allE_keepC hk e s' (fun y hy=>hf y (List.mem_cons_of_mem _ hy)) h2 h1

/-! ### Offsets stay small -/

def Near (_ _:Nat) (d:Int):Prop:=-4000 ≤ d ∧ d ≤ 4000

def cn (s:LS) (g:Int) (n:Nat):Nat:=(List.range n).countP fun j=>gr s j == g

theorem cn_le (s:LS) (g:Int) (n:Nat):cn s g n ≤ n:=by
 have:=List.countP_le_length (p:=fun j=>gr s j == g) (l:=List.range n)
 simpa [cn] using this

theorem cn_pos {s:LS} {n i:Nat} (hi:i < n):1 ≤ cn s (gr s i) n:=by
 unfold cn
 exact List.countP_pos_iff.2 ⟨i,by simpa using hi,by simp⟩

theorem count_join (f:Nat → Int) {ga gb:Int} (hne:ga ≠ gb):∀ L:List Nat,L.countP (fun j=>(if f j = gb then ga else f j) == ga) = L.countP (fun j=>f j == ga) + L.countP (fun j=>f j == gb)
 | []=>rfl
 | j :: L=>by
  simp only [List.countP_cons,count_join f hne L]
  by_cases h1:f j = gb
  ·rw [if_pos h1]
   have e2:(f j == ga) = false:=by simp only [beq_eq_false_iff_ne,h1]; exact Ne.symm hne
   have e3:(f j == gb) = true:=beq_iff_eq.2 h1
   rw [e2,e3]; simp only [beq_self_eq_true,if_true,Bool.false_eq_true,if_false]; omega
  ·rw [if_neg h1]
   have e3:(f j == gb) = false:=by simpa using h1
   rw [e3]; simp only [Bool.false_eq_true,if_false]; omega

theorem count_else (f:Nat → Int) {ga gb g:Int} (h1:g ≠ ga) (h2:g ≠ gb):∀ L:List Nat,L.countP (fun j=>(if f j = gb then ga else f j) == g) = L.countP (fun j=>f j == g)
 | []=>rfl
 | j :: L=>by
  simp only [List.countP_cons,count_else f h1 h2 L]
  by_cases h3:f j = gb
  ·have e2:(ga == g) = false:=by simp only [beq_eq_false_iff_ne]; exact Ne.symm h1
   have e3:(gb == g) = false:=by simp only [beq_eq_false_iff_ne]; exact Ne.symm h2
   rw [if_pos h3,e2,h3,e3]
  ·rw [if_neg h3]

def Bd (n:Nat) (s:LS):Prop:=∀ i j,i < n → j < n → gr s i = gr s j → of s i - of s j ≤ 4000 * ((cn s (gr s i) n:Nat):Int) - 4000

def BR (n:Nat) (s:LS):Prop:=Rt n s ∧ Bd n s

theorem BR.small {n:Nat} {s:LS} (hn:n ≤ 60) (h:BR n s) {i:Nat} (hi:i < n):-240000 ≤ of s i ∧ of s i ≤ 240000:=by
 obtain ⟨r,r1,r2,r3,r4⟩:=h.1 i hi
 have e:gr s i = gr s r:=by rw [r2,r3]
 have h1:=h.2 i r hi r1 e
 have h2:=h.2 r i r1 hi e.symm
 have h3:=cn_le s (gr s i) n
 have h4:=cn_le s (gr s r) n
 rw [r4] at h1 h2
 omega

theorem BR.start (n:Nat):BR n (start n):=⟨Rt.start n,fun i j hi hj _=>by
 rw [start_of,start_of]
 have:=cn_pos (s:=Go.Sx.top.start n) hi
 omega⟩

theorem BR.keep {n:Nat} (hn:n ≤ 60):KpC n Near (BR n):=fun a b d s hd ha hb hs h=>by
 refine ⟨Rt.keep n a b d s ha hb hs h.1,?_⟩
 by_cases hg:gr s a = gr s b
 ·rw [tie_same hg]; exact h.2
 ·obtain ⟨_,k⟩:=tie_other (d:=d) hs hg
  unfold Near at hd
  have sm:∀ i,i < n → -240000 ≤ of s i ∧ of s i ≤ 240000:=fun i hi=>h.small hn hi
  have sa:=sm a ha
  have sb:=sm b hb
  have ew:w64 (of s a + d - of s b) = of s a + d - of s b:=w64_id (by omega) (by omega)
  rw [ew] at k
  have ev:∀ j,j < n → w64 (of s j + (of s a + d - of s b)) = of s j + (of s a + d - of s b):=fun j hj=>by
   have:=sm j hj
   exact w64_id (by omega) (by omega)
  -- how many are in a group
  have cg:∀ g,cn (tie a b d s).2 g n = (List.range n).countP fun j=>(if gr s j = gr s b then gr s a else gr s j) == g:=fun g=>by
   unfold cn
   refine List.countP_congr fun j hj=>?_
   rw [(k j (by simpa using hj)).1]
  have cj:cn (tie a b d s).2 (gr s a) n = cn s (gr s a) n + cn s (gr s b) n:=by rw [cg]; exact count_join (gr s) hg _
  have ce:∀ g,g ≠ gr s a → g ≠ gr s b → cn (tie a b d s).2 g n = cn s g n:=fun g h1 h2=>by rw [cg]; exact count_else (gr s) h1 h2 _
  have pa:=cn_pos (s:=s) ha
  have pb:=cn_pos (s:=s) hb
  intro i j hi hj hij
  obtain ⟨i1,i2⟩:=k i hi
  obtain ⟨j1,j2⟩:=k j hj
  rw [i1,j1] at hij
  rw [i2,j2,i1]
  by_cases hib:gr s i = gr s b
  ·rw [if_pos hib] at hij
   rw [if_pos hib,if_pos hib,cj,ev i hi]
   by_cases hjb:gr s j = gr s b
   ·rw [if_pos hjb,ev j hj]
    have:=h.2 i j hi hj (hib.trans hjb.symm)
    rw [hib] at this
    omega
   ·rw [if_neg hjb] at hij ⊢
    have h1:=h.2 i b hi hb hib
    have h2:=h.2 a j ha hj hij
    rw [hib] at h1
    omega
  ·rw [if_neg hib] at hij
   rw [if_neg hib,if_neg hib]
   by_cases hjb:gr s j = gr s b
   ·rw [if_pos hjb] at hij
    rw [if_pos hjb,hij,cj,ev j hj]
    have h1:=h.2 i a hi ha hij
    have h2:=h.2 b j hb hj hjb.symm
    rw [hij] at h1
    omega
   ·rw [if_neg hjb] at hij ⊢
    have h1:=h.2 i j hi hj hij
    by_cases hia:gr s i = gr s a
    ·rw [hia] at h1 ⊢
     rw [cj]
     omega
    ·rw [ce _ hia hib]
     exact h1

theorem un_near {l:List T25} (ha:are l = true) {i:Nat} (hi:i < l.length):0 ≤ un l i ∧ un l i ≤ 4000:=by
 obtain ⟨k1,k2,k3⟩:=(are_ok ha).2 _ (getD_mem hi)
 have hb:0 ≤ (l.getD i default).f1 * (l.getD i default).f2 ∧ (l.getD i default).f1 * (l.getD i default).f2 ≤ 4000:=by rcases k1 with h | h | h <;> rw [h] <;> omega
 unfold un
 rw [w64_id (by omega) (by omega)]
 exact hb

theorem ch_near {l:List T25} (ha:are l = true):∀ (r:List Nm) (p:Nm),(∀ t ∈ p :: r,(fd l t).isSome) → ChC l Near p r
 | [],_,_=>trivial
 | q :: r,p,hf=>by
  have:=un_near ha (ix_of (hf p (List.mem_cons_self ..))).2
  exact ⟨⟨by omega,this.2⟩,ch_near ha r q fun t ht=>hf t (List.mem_cons_of_mem _ ht)⟩

theorem tied_keepC {l:List T25} {e:List (List T37)} {b:List (List Nm)} (ok:Ok l e b) {C:Nat → Nat → Int → Prop} {P:LS → Prop} (hk:KpC l.length C P) (hc:∀ p r,p :: r ∈ b → ChC l C p r) (he:AllC l e C) (h0:P (start l.length)):P (tied l e b).2 :=
 allE_keepC hk e _ he (allB_ls b (start_ls _)) (allB_keepC hk b _ ok.found hc (start_ls _) h0)

theorem tied_br {l:List T25} {e:List (List T37)} {b:List (List Nm)} (ok:Ok l e b):BR l.length (tied l e b).2:=by
 have ha:=(argB_iff ok.arg).1
 refine tied_keepC ok (BR.keep (are_ok ha).1) (fun p r hp=>ch_near ha r p fun t ht=>ok.found t (List.mem_flatten.2 ⟨_,hp,ht⟩)) (fun x hx p hp q hq=>?_) (BR.start _)
 have h1:=ok.pls x hx p hp
 have h2:=ok.pls x hx q hq
 obtain ⟨_,a1,a2⟩:=h1
 refine ⟨h2,?_⟩
 obtain ⟨_,b1,b2⟩:=h2
 unfold Near dE
 omega

/-! ### What a state of ties holds at most -/

theorem Rel.refl (t:LS) (i:Nat):Rel t i i 0:=⟨rfl,by rw [show of t i + 0 - of t i = 0 by omega]; rfl⟩

theorem Rel.eq {t:LS} {i j:Nat} {d d' k:Int} (h:Rel t i j d) (e:d' = d + k * 18446744073709551616):Rel t i j d':=⟨h.1,by rw [← h.2]; exact w64_congr (k:=k) (by omega)⟩

theorem Rel.symm {t:LS} {i j:Nat} {d:Int} (h:Rel t i j d):Rel t j i (-d):=by
 refine ⟨h.1.symm,?_⟩
 obtain ⟨k,hk⟩:=w64_zero h.2
 rw [w64_congr (x:=of t j + -d - of t i) (y:=0) (k:=-k) (by omega)]; rfl

theorem Rel.trans {t:LS} {i j k:Nat} {d d':Int} (h:Rel t i j d) (h':Rel t j k d'):Rel t i k (d + d'):=by
 refine ⟨h.1.trans h'.1,?_⟩
 obtain ⟨q,hq⟩:=w64_zero h.2
 obtain ⟨q',hq'⟩:=w64_zero h'.2
 rw [w64_congr (x:=of t i + (d + d') - of t k) (y:=0) (k:=q + q') (by omega)]; rfl

/-- What s ties, t ties alike. -/
def Cl (t:LS) (n:Nat) (s:LS):Prop:=∀ i j,i < n → j < n → gr s i = gr s j → Rel t i j (of s j - of s i)

theorem Cl.start (t:LS) (n:Nat):Cl t n (start n):=fun i j hi hj h=>by
 rw [start_gr hi,start_gr hj] at h
 obtain rfl:i = j:=by omega
 rw [start_of,Int.sub_self]
 exact Rel.refl t i

theorem Cl.keep (t:LS) (n:Nat):KpC n (Rel t) (Cl t n):=fun a b d s hd ha hb hs h=>by
 by_cases hg:gr s a = gr s b
 ·rw [tie_same hg]; exact h
 ·obtain ⟨_,k⟩:=tie_other (d:=d) hs hg
  intro i j hi hj hij
  obtain ⟨i1,i2⟩:=k i hi
  obtain ⟨j1,j2⟩:=k j hj
  obtain ⟨w,hw⟩:=w64_mod (of s a + d - of s b)
  obtain ⟨u,hu⟩:=w64_mod (of s i + w64 (of s a + d - of s b))
  obtain ⟨v,hv⟩:=w64_mod (of s j + w64 (of s a + d - of s b))
  rw [i1,j1] at hij
  rw [i2,j2]
  by_cases hib:gr s i = gr s b
  ·rw [if_pos hib] at hij ⊢
   by_cases hjb:gr s j = gr s b
   ·rw [if_pos hjb]
    exact (h i j hi hj (hib.trans hjb.symm)).eq (k:=v - u) (by rw [hu,hv]; omega)
   ·rw [if_neg hjb] at hij ⊢
    have h1:=h i b hi hb hib
    have h2:=h a j ha hj hij
    exact ((h1.trans hd.symm).trans h2).eq (k:=-u - w) (by rw [hu,hw]; omega)
  ·rw [if_neg hib] at hij ⊢
   by_cases hjb:gr s j = gr s b
   ·rw [if_pos hjb] at hij ⊢
    have h1:=h i a hi ha hij
    have h2:=h b j hb hj hjb.symm
    exact ((h1.trans hd).trans h2).eq (k:=v + w) (by rw [hv,hw]; omega)
   ·rw [if_neg hjb] at hij ⊢
    exact h i j hi hj hij

end Go.Sx.top

namespace Go.Sx.top
open Go Go.Sx

/-- What an element of a variable at i hits of a unit. -/
def hit (g o:List Int) (at_ unit:Int) (x:T25) (i:Nat):Bool:=((g.getD i default == at_) && decide (unit ≥ o.getD i default)) && decide (unit - o.getD i default < x.f1 * x.f2)

def hits (g o:List Int) (at_ unit:Int):List T25 → Nat → List T37
 | [],_=>[]
 | x :: r,i=>(if hit g o at_ unit x i then [T37.mk x.f0 (Int.tdiv (unit - o.getD i default) x.f1)] else []) ++ hits g o at_ unit r (i + 1)

theorem f18_eq (l:List T25) (g o:List Int) (at_ unit:Int) (h:Vs l) (hg:g.length ≤ maxLen) (ho:o.length ≤ maxLen) (hu:-9223372036854775808 ≤ unit ∧ unit ≤ 9223372036854775807) :
  f7 l g o at_ unit = some (if isLaid l g o then (hits g o at_ unit l 0,0) else ([],2)):=by
 unfold f7
 rw [f28_eq l g o h hg ho]
 cases hl:isLaid l g o with
 | false=>rfl
 | true =>
  obtain ⟨ha,h1,h2,h3,h4⟩:=isLaid_iff hl
  obtain ⟨hlen,hok⟩:=are_ok ha
  have key:=iter_listI l h.len (fun s=>f7_b2 l g o at_ unit s.1 s.2) (fun r i b=>(Out.go (b ++ hits g o at_ unit r i):Out ((List T37) × Int) (List T37))) (fun i b=>b.length ≤ i) ?_ ?_ [] (Nat.le_refl _)
  ·simp only [Option.bind_some,Bool.not_true,cond_false]
   rw [key]
   simp
  ·intro i x r b hb hi hx hd
   right
   have g1:(0:Int) ≤ i ∧ (i:Int) < (l.length:Int):=⟨by omega,by omega⟩
   have g2:(0:Int) ≤ i ∧ (i:Int) < (g.length:Int):=⟨by omega,by omega⟩
   have g3:(0:Int) ≤ i ∧ (i:Int) < (o.length:Int):=⟨by omega,by omega⟩
   have hm:=getD_mem hi
   rw [hx] at hm
   obtain ⟨k1,k2,k3⟩:=hok x hm
   have k4:0 ≤ o.getD i default:=h4 _ (getD_mem (by omega))
   have hx1:x.f1 ≠ 0:=by omega
   simp only [f7_b2,Int.toNat_natCast,hx,g1,g2,g3,and_self,if_true,decide_true,cond_true,cond_and,Option.bind_some,f19,hits]
   cases hh:((g.getD i default == at_) && decide (unit ≥ o.getD i default)) with
   | false =>
    have:hit g o at_ unit x i = false:=by unfold hit; rw [hh]; rfl
    refine ⟨b,?_,by omega,by rw [this]; simp⟩
    rfl
   | true =>
    have hge:o.getD i default ≤ unit:=by
     simp only [Bool.and_eq_true,decide_eq_true_eq] at hh; exact hh.2
    have e1:w64 (unit - o.getD i default) = unit - o.getD i default:=w64_id (by omega) (by omega)
    have e2:w64 (x.f1 * x.f2) = x.f1 * x.f2:=w64_mul k1 (by omega) k3
    have e3:=tdiv_range (n:=unit - o.getD i default) (by omega) (by omega) k1
    simp only [Bool.true_and,e1,e2,e3,cond_true]
    have eh:hit g o at_ unit x i = decide (unit - o.getD i default < x.f1 * x.f2):=by unfold hit; rw [hh]; rfl
    rw [← eh]
    cases hit g o at_ unit x i with
    | false=>exact ⟨b,rfl,by omega,by simp⟩
    | true =>
     have hbd:(b.length + [T37.mk x.f0 (Int.tdiv (unit - o.getD i default) x.f1)].length) * 24 ≤ 140737488355328:=by simp only [List.length_cons,List.length_nil]; omega
     refine ⟨b ++ [T37.mk x.f0 (Int.tdiv (unit - o.getD i default) x.f1)],?_,by simp; omega,by simp⟩
     rw [cond_true,if_pos hx1,if_pos hbd]; rfl
  ·intro b hb
   simp [f7_b2,hits]

theorem wrap_u64 {n:Int} (h0:0 ≤ n) (h1:n ≤ 18446744073709551615):IntKind.wrap .u64 n = n:=by
 simp only [IntKind.wrap,IntKind.signed,IntKind.bits]
 simp
 omega

/-- Where an element begins. -/
def bg (l:List T25) (o:List Int) (i:Nat) (n:Int):Int:=o.getD i default + n * (l.getD i default).f1

theorem f31_eq {l:List T25} {g o:List Int} (hl:isLaid l g o = true) (hlen:l.length ≤ maxLen) (ho:∀ x ∈ o,x ≤ 9223372036854775807) {p:T37} {i:Nat} (hf:fd l p.f0 = some i) (h0:0 ≤ p.f1) (h1:p.f1 < (l.getD i default).f2) :
  f23 l g o p = some (g.getD i default,bg l o i p.f1,bg l o i p.f1 + (l.getD i default).f1):=by
 obtain ⟨ha,e1,e2,e3,e4⟩:=isLaid_iff hl
 obtain ⟨_,hok⟩:=are_ok ha
 have hi:=fd_lt hf
 obtain ⟨k1,k2,k3⟩:=hok _ (getD_mem hi)
 have o1:=e4 _ (getD_mem (l:=o) (i:=i) (by omega))
 have o2:=ho _ (getD_mem (l:=o) (i:=i) (by omega))
 unfold f23
 rw [f34_eq l hlen,hf]
 have g1:(0:Int) ≤ idx (some i) ∧ idx (some i) < (o.length:Int) ∧ (0:Int) ≤ idx (some i) ∧ idx (some i) < (l.length:Int):=by simp only [idx]; omega
 have g2:(0:Int) ≤ idx (some i) ∧ idx (some i) < (g.length:Int) ∧ (0:Int) ≤ idx (some i) ∧ idx (some i) < (l.length:Int):=by simp only [idx]; omega
 have hn:(idx (some i)).toNat = i:=by simp [idx]
 have hb:0 ≤ p.f1 * (l.getD i default).f1 ∧ p.f1 * (l.getD i default).f1 ≤ 4000:=by rcases k1 with h | h | h <;> rw [h] <;> omega
 have w1:w64 (p.f1 * (l.getD i default).f1) = p.f1 * (l.getD i default).f1:=w64_id (by omega) (by omega)
 simp only [Option.bind_some,if_pos g1,if_pos g2,hn,w1]
 rw [wrap_u64 (n:=p.f1 * (l.getD i default).f1) hb.1 (by omega),wrap_u64 (n:=o.getD i default) o1 (by omega),wrap_u64 (n:=(l.getD i default).f1) (by omega) (by omega),wrap_u64 (n:=o.getD i default + p.f1 * (l.getD i default).f1) (by omega) (by omega),wrap_u64 (by omega) (by omega)]
 rfl

def ovl (l:List T25) (g o:List Int) (a b:T37):Bool × Int :=
 if isLaid l g o then (if isPl l a && isPl l b then (match fd l a.f0,fd l b.f0 with
  | some i,some k=>((g.getD i default == g.getD k default) && (decide (bg l o i a.f1 < bg l o k b.f1 + (l.getD k default).f1) && decide (bg l o k b.f1 < bg l o i a.f1 + (l.getD i default).f1)),0)
  | _,_=>(false,0)) else (false,5)) else (false,2)

theorem f20_eq (l:List T25) (g o:List Int) (a b:T37) (h:Vs l) (hg:g.length ≤ maxLen) (ho:o.length ≤ maxLen) (hw:∀ x ∈ o,x ≤ 9223372036854775807):f8 l g o a b = some (ovl l g o a b):=by
 unfold f8 ovl
 rw [f28_eq l g o h hg ho]
 cases hl:isLaid l g o with
 | false=>rfl
 | true =>
  simp only [Option.bind_some,Bool.not_true,cond_false,f30_eq l h.len,if_true]
  cases ha:isPl l a with
  | false=>simp
  | true =>
   cases hb:isPl l b with
   | false=>simp
   | true =>
    obtain ⟨i,fi,li,a0,a1⟩:=isPl_iff ha
    obtain ⟨k,fk,lk,b0,b1⟩:=isPl_iff hb
    obtain ⟨hv,e1,e2,e3,e4⟩:=isLaid_iff hl
    obtain ⟨_,hok⟩:=are_ok hv
    obtain ⟨i1,i2,i3⟩:=hok _ (getD_mem li)
    obtain ⟨k1,k2,k3⟩:=hok _ (getD_mem lk)
    simp only [Bool.not_true,cond_false,Option.bind_some,f31_eq hl h.len hw fi a0 a1,f31_eq hl h.len hw fk b0 b1,Bool.and_self,if_true,fi,fk,cond_and]
    congr 2
    congr 1
    rw [Bool.eq_iff_iff]
    simp only [decide_eq_true_eq,Bool.and_eq_true]
    split <;> split <;> omega

theorem mn_at {n:Nat} {s:LS} (hrt:Rt n s) {i:Nat} (hi:i < n):∃ j,j < n ∧ gr s j = gr s i ∧ of s j = (vsF s (gr s i) n 0).foldl mn2 1099511627776 ∧ ∀ k,k < n → gr s k = gr s i → of s j ≤ of s k:=by
 obtain ⟨h1,h2,h3⟩:=mn2_le (vsF s (gr s i) n 0) 1099511627776
 obtain ⟨r,r1,r2,r3,r4⟩:=hrt i hi
 have hr:=h2 0 (mem_vsF.2 ⟨r,by omega,by omega,by rw [r3,r2],r4⟩)
 rcases h3 with h3 | h3
 ·omega
 ·obtain ⟨j,_,j1,j2,j3⟩:=mem_vsF.1 h3
  exact ⟨j,by omega,j2,j3,fun k hk hg=>by rw [j3]; exact h2 _ (mem_vsF.2 ⟨k,by omega,by omega,hg,rfl⟩)⟩

end Go.Sx.top

namespace Go.Sx.top
open Go Go.Sx

theorem awake7:f5 = some true:=f5_le 60 true (by kernel_rfl)

end Go.Sx.top

namespace Go.Sx.top
open Go Go.Sx

theorem iter_inv {S X:Type} (body:S → Option (S ⊕ X)) (I:Nat → S → Prop) (Q:X → Prop) (n:Nat)
  (hs:∀ i s,i < n → I i s → ∃ s',body s = some (.inl s') ∧ I (i + 1) s')
  (he:∀ s,I n s → ∃ x,body s = some (.inr x) ∧ Q x) (s0:S) (h0:I 0 s0):∃ x,iter body s0 = some x ∧ Q x:=by
 have key:∀ k i s,i + k = n → I i s → ∃ x,iter body s = some x ∧ Q x:=by
  intro k
  induction k with
  | zero =>
   intro i s hi hI
   obtain rfl:i = n:=by omega
   obtain ⟨x,hx,hq⟩:=he s hI
   exact ⟨x,iter_inr hx,hq⟩
  | succ k ih =>
   intro i s hi hI
   obtain ⟨s',hx,hI'⟩:=hs i s (by omega) hI
   obtain ⟨x,hx',hq⟩:=ih (i + 1) s' (by omega) hI'
   exact ⟨x,by rw [iter_inl hx]; exact hx',hq⟩
 exact key n 0 s0 (by omega) h0

/-! ### Sums -/

def tot (f:Nat → Int):Nat → Int
 | 0=>0
 | n + 1=>tot f n + f n

theorem tot_congr {f h:Nat → Int}:∀ n,(∀ i,i < n → f i = h i) → tot f n = tot h n
 | 0,_=>rfl
 | n + 1,e=>by simp only [tot]; rw [tot_congr n (fun i hi=>e i (by omega)),e n (by omega)]

theorem tot_add (f h:Nat → Int):∀ n,tot (fun i=>f i + h i) n = tot f n + tot h n
 | 0=>rfl
 | n + 1=>by simp only [tot]; rw [tot_add f h n]; omega

theorem tot_le {f:Nat → Int}:∀ n,(∀ i,i < n → 0 ≤ f i ∧ f i ≤ 4000) → 0 ≤ tot f n ∧ tot f n ≤ 4000 * (n:Int)
 | 0,_=>⟨Int.le_refl _,by simp [tot]⟩
 | n + 1,h=>by
  have h1:=tot_le n fun i hi=>h i (by omega)
  have h2:=h n (by omega)
  simp only [tot]
  omega

theorem tot_zero {f:Nat → Int} (n:Nat) (h:∀ i,i < n → f i = 0):tot f n = 0:=by
 induction n with
 | zero=>rfl
 | succ n ih=>simp only [tot]; rw [ih fun i hi=>h i (by omega),h n (by omega)]; rfl

/-- How many hit a unit. -/
theorem hits_tot {l:List T25} (g o:List Int) (k u:Int):∀ (r:List T25) (i:Nat),l.drop i = r → tot (fun j=>if hit g o k u (l.getD j default) j then 1 else 0) (i + r.length) = tot (fun j=>if hit g o k u (l.getD j default) j then 1 else 0) i + ((hits g o k u r i).length:Int)
 | [],i,_=>by simp [hits]
 | x :: r,i,h=>by
  have hi:i < l.length:=by
   have:=congrArg List.length h
   rw [List.length_drop,List.length_cons] at this; omega
  have hx:l.getD i default = x:=by
   rw [getD_lt hi]
   rw [List.drop_eq_getElem_cons hi] at h
   injection h
  have hr:l.drop (i + 1) = r:=by
   rw [List.drop_eq_getElem_cons hi] at h
   injection h
  have:=hits_tot g o k u r (i + 1) hr
  rw [show i + (x :: r).length = i + 1 + r.length by simp only [List.length_cons]; omega,this]
  simp only [tot,hits,hx,List.length_append]
  split <;> simp <;> omega

theorem hits_mem {g o:List Int} {k u:Int} {l:List T25}:∀ (r:List T25) (i:Nat),l.drop i = r → ∀ t ∈ hits g o k u r i,∃ j,j < l.length ∧ hit g o k u (l.getD j default) j = true ∧ t = T37.mk (l.getD j default).f0 (Int.tdiv (u - o.getD j default) (l.getD j default).f1)
 | [],i,_,t,ht=>by cases ht
 | x :: r,i,h,t,ht=>by
  have hi:i < l.length:=by
   have:=congrArg List.length h
   rw [List.length_drop,List.length_cons] at this; omega
  rw [List.drop_eq_getElem_cons hi] at h
  injection h with h1 h2
  have hx:l.getD i default = x:=by rw [getD_lt hi]; exact h1
  simp only [hits] at ht
  rcases List.mem_append.1 ht with ht | ht
  ·split at ht
   ·rename_i hh
    rw [List.mem_singleton] at ht
    exact ⟨i,hi,by rw [hx]; exact hh,by rw [hx]; exact ht⟩
   ·cases ht
  ·exact hits_mem r (i + 1) h2 t ht

theorem goodAt_fd {l:List T25}:∀ {r:List T25} {i:Nat},l.drop i = r → goodAt l r i = true → ∀ j,i ≤ j → j < l.length → fd l (l.getD j default).f0 = some j
 | [],i,h,_,j,h1,h2=>by
  have:=congrArg List.length h
  rw [List.length_drop,List.length_nil] at this; omega
 | x :: r,i,h,hg,j,h1,h2=>by
  have hi:i < l.length:=by
   have:=congrArg List.length h
   rw [List.length_drop,List.length_cons] at this; omega
  simp only [goodAt,Bool.and_eq_true] at hg
  have hd:=h
  rw [List.drop_eq_getElem_cons hi] at h
  injection h with k1 k2
  by_cases e:i = j
  ·subst e
   have hx:l.getD i default = x:=by rw [getD_lt hi]; exact k1
   rw [hx]
   refine (fd_at hd hi).2 ?_
   have:=hg.1.2
   cases hq:fd (l.take i) x.f0 with
   | none=>rfl
   | some q=>rw [hq] at this; cases this
  ·exact goodAt_fd k2 hg.2 j (by omega) h2

theorem are_fd {l:List T25} (h:are l = true) {j:Nat} (hj:j < l.length):fd l (l.getD j default).f0 = some j:=by
 simp only [are,Bool.and_eq_true] at h
 exact goodAt_fd (i:=0) rfl h.1 j (Nat.zero_le _) hj

/-! ### The sizes of groups -/

theorem sz_bound {l:List T25} {s:LS} {V:Nat → Int} {c:Int} (hc:c ≤ 9223372036854775807):∀ i,(∀ j,j < i → 0 ≤ V j ∧ 0 ≤ un l j ∧ V j + un l j ≤ c) →
  (∀ x ∈ szF l s V i,0 ≤ x ∧ (x ≤ c ∨ x = 0)) ∧ ∀ j,j < i → V j + un l j ≤ (szF l s V i).getD (kx s j) default
 | 0,_=>⟨fun x hx=>(by cases hx),fun j hj=>by omega⟩
 | i + 1,h=>by
  obtain ⟨b1,b2⟩:=sz_bound hc i fun j hj=>h j (by omega)
  obtain ⟨v1,v2,v3⟩:=h i (by omega)
  have ew:w64 (V i + un l i) = V i + un l i:=w64_id (by omega) (by omega)
  have hzl:=szF_len l s V i
  have hz:∀ x ∈ szz s i (szF l s V i),0 ≤ x ∧ (x ≤ c ∨ x = 0):=fun x hx=>by
   unfold szz at hx
   split at hx
   ·exact b1 x hx
   ·rcases List.mem_append.1 hx with hx | hx
    ·exact b1 x hx
    ·rw [List.mem_singleton] at hx; omega
  have hlen:=szz_len (s:=s) (i:=i) hzl
  have hk:=kx_lt s i
  have hold:0 ≤ (szz s i (szF l s V i)).getD (kx s i) default ∧ ((szz s i (szF l s V i)).getD (kx s i) default ≤ c ∨ (szz s i (szF l s V i)).getD (kx s i) default = 0):=hz _ (getD_mem (by omega))
  have hm:mx2 (w64 (V i + un l i)) ((szz s i (szF l s V i)).getD (kx s i) default) = if V i + un l i > (szz s i (szF l s V i)).getD (kx s i) default then V i + un l i else (szz s i (szF l s V i)).getD (kx s i) default:=by rw [ew]; rfl
  simp only [szF]
  rw [hm]
  constructor
  ·intro x hx
   rcases List.mem_or_eq_of_mem_set hx with hx | hx
   ·exact hz x hx
   ·rw [hx]; split <;> omega
  ·intro j hj
   rw [getD_set (by omega)]
   by_cases e:j = i
   ·subst e
    rw [if_pos rfl]; split <;> omega
   ·have hj':j < i:=by omega
    have:=b2 j hj'
    have hkj:kx s j < (szF l s V i).length:=by
     have h1:=kx_lt s j
     have h2:=ids_mono s (j + 1) (i - (j + 1))
     rw [show j + 1 + (i - (j + 1)) = i by omega] at h2
     omega
    have hsame:(szz s i (szF l s V i)).getD (kx s j) default = (szF l s V i).getD (kx s j) default:=by
     unfold szz
     split
     ·rfl
     ·exact getD_left hkj
    split
    ·rename_i e2
     rw [e2,hsame]
     split <;> omega
    ·rw [hsame]; exact this

theorem stF_small {l:List T25} {e:List (List T37)} {b:List (List Nm)} (ok:Ok l e b) {i:Nat} (hi:i < l.length) :
  -240000 ≤ stF l b (tied l e b).2 (gr (tied l e b).2 i) ∧ stF l b (tied l e b).2 (gr (tied l e b).2 i) ≤ 240000:=by
 have h60:=(are_ok (argB_iff ok.arg).1).1
 have hbr:=tied_br ok
 unfold stF
 split
 ·rename_i p q hf
  have hm:=List.mem_of_find?_eq_some hf
  have hp:=ok.found p (List.mem_flatten.2 ⟨_,hm,List.mem_cons_self ..⟩)
  exact hbr.small h60 (ix_of hp).2
 ·obtain ⟨j,hj,_,h3,_⟩:=mn_at hbr.1 hi
  rw [← h3]
  exact hbr.small h60 hj

theorem V_small {l:List T25} {e:List (List T37)} {b:List (List Nm)} (ok:Ok l e b) {i:Nat} (hi:i < l.length):Vn l b (tied l e b).2 i ≤ 480000:=by
 have h60:=(are_ok (argB_iff ok.arg).1).1
 have h1:=stF_small ok hi
 have h2:=(tied_br ok).small h60 hi
 unfold Vn
 rw [w64_id (by omega) (by omega)]
 omega

end Go.Sx.top
