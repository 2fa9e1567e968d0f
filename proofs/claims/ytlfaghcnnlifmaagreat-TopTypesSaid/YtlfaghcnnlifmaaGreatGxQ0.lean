/- Plain laws of the printed functions of types: the check of sanity, names, the first that is so; no condition. -/
import Derived.Test.YtlfaghcnnlifmaaGreatGxG
import Derived.Test.YtlfaghcnnlifmaaGreatGxM
import Derived.Test.YtlfaghcnnlifmaaGreatSxD
namespace Go.Sx.top
open Go Go.Sx

def isLetterI (c:Int):Bool:=(decide (c ≥ 97) && decide (c ≤ 122)) || (decide (c ≥ 65) && decide (c ≤ 90))
def isDigitI (c:Int):Bool:=decide (c ≥ 48) && decide (c ≤ 57)
def isPartI (c:Int):Bool:=(isLetterI c || isDigitI c) || c == 95
def isUpperI (c:Int):Bool:=decide (c ≥ 65) && decide (c ≤ 90)

theorem f85_eq (c:Int):f108 c = some (isLetterI c):=by simp only [f108,cond_and,Option.bind_some,cond_or,isLetterI]
theorem f93_eq (c:Int):f137 c = some (isDigitI c):=by simp only [f137,cond_and,Option.bind_some,isDigitI]
theorem f87_eq (c:Int):f110 c = some (isPartI c):=by simp only [f110,f85_eq,f93_eq,cond_or,Option.bind_some,isPartI]
def byteI (b:UInt8):Int:=((b.toNat:Nat):Int)

/-- How many parts of a name stand in front. -/
def runLen:List UInt8 → Nat
 | []=>0
 | b :: r=>if isPartI (byteI b) then runLen r + 1 else 0

theorem f86_eq (s:List UInt8) (h:s.length ≤ maxLen):f109_110 s = some ((runLen s:Nat):Int):=by
 have:=iter_list s h (fun i=>f109_110_b1 s i) (fun r i=>(Out.go ((i + runLen r:Nat):Int):Out Int Int)) ?_ ?_
 ·unfold f109_110
  rw [this]
  simp
 ·intro i x r hi hx _
  have h1:(0:Int) ≤ i ∧ (i:Int) < (s.length:Int):=⟨by omega,by omega⟩
  have hx':s.getD i 0 = x:=hx
  simp only [f109_110_b1,Int.toNat_natCast,hx',h1,and_self,if_true,decide_true,cond_true,f87_eq,Option.bind_some]
  cases hb:isPartI ((x.toNat:Nat):Int) with
  | true=>right; simp [runLen,byteI,hb]; omega
  | false=>left; simp [runLen,byteI,hb]
 ·simp [f109_110_b1,runLen]

def low (n:Int):Int:=if isUpperI n then n + 32 else n

theorem wrap_u8 {n:Int} (h0:0 ≤ n) (h1:n ≤ 255):IntKind.wrap .u8 n = n:=by
 simp only [IntKind.wrap,IntKind.min,IntKind.max,IntKind.signed,IntKind.bits]
 simp
 omega

theorem f88_eq (s:List UInt8) (h:s.length ≤ maxLen):f111 s = some (s.map fun b=>UInt8.ofNat (low (byteI b)).toNat):=by
 have hm:=maxLen_le
 have key:=iter_ind (fun q=>f111_b2 s q.1 q.2) (fun q=>∃ i,i ≤ s.length ∧ q.2 = ((i:Nat):Int) ∧ q.1 = ((s.map byteI).take i).map low ++ (s.map byteI).drop i) (fun q=>s.length - q.2.toNat) (fun _ x=>x = Out.go ((s.map byteI).map low)) ?_ (s.map byteI,0) ⟨0,Nat.zero_le _,rfl,by simp⟩
 ·obtain ⟨x,hx,rfl⟩:=key
  unfold f111
  rw [if_pos (by omega)]
  have hx':iter (fun q=>f111_b2 s q.1 q.2) (s.map (fun b=>((b.toNat:Nat):Int)),(0:Int)) = some (Out.go ((s.map byteI).map low)):=hx
  rw [hx']
  simp [List.map_map,Function.comp_def]
 ·rintro ⟨b,k⟩ ⟨i,hi,hk,hb⟩
  simp only at hk hb
  subst hk hb
  have hlen:(((s.map byteI).take i).map low ++ (s.map byteI).drop i).length = s.length:=by simp; omega
  by_cases hlt:i < s.length
  ·left
   have h1:(0:Int) ≤ i ∧ (i:Int) < ((((s.map byteI).take i).map low ++ (s.map byteI).drop i).length:Int):=⟨by omega,by rw [hlen]; omega⟩
   have h2:((i:Int) < ((s.map (fun b=>((b.toNat:Nat):Int))).length:Int)):=by simp; omega
   have hget:(((s.map byteI).take i).map low ++ (s.map byteI).drop i).getD i default = byteI s[i]:=by
    simp only [List.getD_eq_getElem?_getD]
    rw [List.getElem?_append_right (by simp; omega)]
    simp [Nat.min_eq_left hi,hlt]
   have hset:(((s.map byteI).take i).map low ++ (s.map byteI).drop i).set i (low (byteI s[i])) = ((s.map byteI).take (i + 1)).map low ++ (s.map byteI).drop (i + 1):=by
    have e1:(s.map byteI).drop i = byteI s[i] :: (s.map byteI).drop (i + 1):=by
     rw [List.drop_eq_getElem_cons (by simpa using hlt)]; simp
    have e2:(s.map byteI).take (i + 1) = (s.map byteI).take i ++ [byteI s[i]]:=by
     rw [List.take_succ_eq_append_getElem (by simpa using hlt)]; simp
    rw [e1,e2,List.set_append_right _ _ (by simp; omega)]
    simp [Nat.min_eq_left hi]
   have hlow:isUpperI (byteI s[i]) = false → (((s.map byteI).take i).map low ++ (s.map byteI).drop i) = ((s.map byteI).take (i + 1)).map low ++ (s.map byteI).drop (i + 1):=by
    intro hu
    rw [← hset]
    have:low (byteI s[i]) = byteI s[i]:=by simp [low,hu]
    rw [this]
    apply List.ext_getElem?
    intro j
    by_cases hj:j = i
    ·subst hj
     rw [List.getElem?_set_self (by omega)]
     have:=hget
     rw [List.getD_eq_getElem?_getD] at this
     have hs:(((s.map byteI).take j).map low ++ (s.map byteI).drop j)[j]? = some ((((s.map byteI).take j).map low ++ (s.map byteI).drop j)[j]'(by omega)):=List.getElem?_eq_getElem (by omega)
     rw [hs] at this ⊢
     simp only [Option.getD_some] at this
     rw [this]
    ·rw [List.getElem?_set_ne (by omega)]
   have hw:w64 ((i:Int) + 1) = ((i + 1:Nat):Int):=w64_succ hlt h
   have h0:0 ≤ byteI s[i] ∧ byteI s[i] ≤ 255:=by
    have:=s[i].toNat_lt
    simp only [byteI]; omega
   cases hu:isUpperI (byteI s[i]) with
   | true =>
    have hu':byteI s[i] ≥ 65 ∧ byteI s[i] ≤ 90:=by simpa [isUpperI] using hu
    have hv:IntKind.wrap .u8 (IntKind.wrap .u8 (byteI s[i] - 65) + 97) = low (byteI s[i]):=by
     rw [wrap_u8 (n:=byteI s[i] - 65) (by omega) (by omega),wrap_u8 (by omega) (by omega)]
     simp only [low,hu,if_true]; omega
    refine ⟨(((s.map byteI).take (i + 1)).map low ++ (s.map byteI).drop (i + 1),((i + 1:Nat):Int)),?_,⟨i + 1,hlt,rfl,rfl⟩,by simp; omega,fun x hx=>hx⟩
    simp only [f111_b2,f111_j1,Int.toNat_natCast,hget,h1,h2,and_self,if_true,decide_true,cond_true,hu'.1,hu'.2,Option.bind_some,hv,hset,hw]
   | false =>
    refine ⟨(((s.map byteI).take (i + 1)).map low ++ (s.map byteI).drop (i + 1),((i + 1:Nat):Int)),?_,⟨i + 1,hlt,rfl,rfl⟩,by simp; omega,fun x hx=>hx⟩
    have hu':(decide (byteI s[i] ≥ 65) && decide (byteI s[i] ≤ 90)) = false:=hu
    simp only [f111_b2,f111_j1,Int.toNat_natCast,hget,h1,h2,and_self,if_true,decide_true,cond_true,cond_and,hu',cond_false,Option.bind_some,hw,← hlow hu]
  ·right
   obtain rfl:i = s.length:=by omega
   refine ⟨_,?_,rfl⟩
   simp only [f111_b2]
   rw [show decide (((s.length:Nat):Int) < ((s.map (fun b=>((b.toNat:Nat):Int))).length:Int)) = false from by simp]
   have e1:(s.map byteI).take s.length = s.map byteI:=List.take_of_length_le (by simp)
   have e2:(s.map byteI).drop s.length = []:=List.drop_of_length_le (by simp)
   simp only [cond_false,e1,e2,List.append_nil]

/-! ### Names -/

def innerB (b:UInt8):Bool:=isPartI (byteI b) && !isUpperI (byteI b)

def nameOk (s:List UInt8):Bool:=(!(s == ([]:List UInt8)) && decide ((s.length:Int) ≤ 12)) && (s.all innerB && (isLetterI (byteI (s.getD 0 0))))

theorem runLen_le:∀ (s:List UInt8),runLen s ≤ s.length
 | []=>Nat.le_refl _
 | b :: r=>by
  have:=runLen_le r
  simp only [runLen,List.length_cons]
  split <;> omega

theorem runLen_all:∀ (s:List UInt8),(((runLen s:Nat):Int) == (s.length:Int)) = s.all (fun b=>isPartI (byteI b))
 | []=>rfl
 | b :: r=>by
  have h:=runLen_all r
  have hle:=runLen_le r
  simp only [runLen,List.all_cons,List.length_cons]
  cases hb:isPartI (byteI b) with
  | true =>
   simp only [if_true,Bool.true_and,← h]
   by_cases he:runLen r = r.length
   ·simp [he]
   ·have:((runLen r:Nat):Int) ≠ (r.length:Int):=by omega
    have h2:(((runLen r + 1:Nat)):Int) ≠ ((r.length + 1:Nat):Int):=by omega
    rw [beq_eq_false_iff_ne.2 this,beq_eq_false_iff_ne.2 h2]
  | false =>
   simp only [Bool.false_eq_true,if_false,Bool.false_and]
   exact beq_eq_false_iff_ne.2 (by omega)

theorem low_one (b:UInt8):(b == UInt8.ofNat (low (byteI b)).toNat) = !isUpperI (byteI b):=by
 have hb:=b.toNat_lt
 cases hu:isUpperI (byteI b) with
 | true =>
  have hu':byteI b ≥ 65 ∧ byteI b ≤ 90:=by simpa [isUpperI] using hu
  simp only [low,hu,if_true,Bool.not_true]
  refine beq_eq_false_iff_ne.2 fun e=>?_
  have:=congrArg UInt8.toNat e
  simp only [byteI] at hu' this
  rw [UInt8.toNat_ofNat'] at this
  omega
 | false =>
  have hl:low (byteI b) = byteI b:=by simp [low,hu]
  rw [hl]
  simp [byteI]

theorem low_all:∀ (s:List UInt8),(s == s.map fun b=>UInt8.ofNat (low (byteI b)).toNat) = s.all (fun b=>!isUpperI (byteI b))
 | []=>rfl
 | b :: r=>by
  rw [List.map_cons,List.all_cons,← low_one b,← low_all r]
  rfl

theorem all_inner (s:List UInt8):s.all innerB = (s.all (fun b=>isPartI (byteI b)) && s.all (fun b=>!isUpperI (byteI b))):=by
 induction s with
 | nil=>rfl
 | cons b r ih =>
  simp only [List.all_cons,ih,innerB]
  cases isPartI (byteI b) <;> cases isUpperI (byteI b) <;> simp

theorem f77_eq (s:List UInt8) (h:s.length ≤ maxLen):f86 s = some (nameOk s):=by
 unfold f86 nameOk
 rw [cond_and,all_inner]
 simp only [Option.bind_some,f85_eq,f86_eq s h,f88_eq s h,runLen_all,low_all]
 cases hs:(!(s == ([]:List UInt8)) && decide ((s.length:Int) ≤ 12)) with
 | false=>simp
 | true =>
  have hpos:(0:Int) < (s.length:Int):=by
   cases s with
   | nil=>simp at hs
   | cons b r=>simp
  simp only [cond_true,if_pos hpos,cond_and,Option.bind_some,Bool.true_and,byteI]
  cases isLetterI ((((s.getD 0 0).toNat:Nat)):Int) <;> simp

/-- The first that p takes, from i on. -/
def findFrom {A:Type} (p:A → Bool):List A → Nat → Option Nat
 | [],_=>none
 | x :: r,i=>if p x then some i else findFrom p r (i + 1)

def outOf:Option Nat → Out Int Unit
 | some i=>.ret ((i:Nat):Int)
 | none=>.go ()

def idx:Option Nat → Int
 | some i=>((i:Nat):Int)
 | none=>-1

theorem index_eq {A:Type} [Inhabited A] (l:List A) (h:l.length ≤ maxLen) (f:A → Option Bool) (p:A → Bool) (hp:∀ x,f x = some (p x)) (b:Int → Option (Int ⊕ Out Int Unit))
  (hb:∀ i,b i = cond (decide (i < (l.length:Int))) (if (0:Int) ≤ i ∧ i < (l.length:Int) then (f (l.getD i.toNat default)).bind fun v3=>cond v3 (some (.inr (.ret i))) (some (.inl (w64 (i + (1:Int))))) else none) (some (.inr (.go ())))) :
  iter b 0 = some (outOf (findFrom p l 0)):=by
 refine iter_list l h b (fun r i=>outOf (findFrom p r i)) ?_ ?_
 ·intro i x r hi hx _
  have h1:(0:Int) ≤ i ∧ (i:Int) < (l.length:Int):=⟨by omega,by omega⟩
  simp only [hb,Int.toNat_natCast,hx,h1,and_self,if_true,decide_true,cond_true,hp,Option.bind_some]
  cases hpx:p x with
  | true=>left; simp [findFrom,hpx,outOf]
  | false=>right; simp [findFrom,hpx]
 ·simp [hb,findFrom,outOf]

theorem findFrom_any {A:Type} (p:A → Bool):∀ (l:List A) (i:Nat),decide (idx (findFrom p l i) ≥ 0) = l.any p
 | [],i=>by simp [findFrom,idx]
 | x :: r,i=>by
  simp only [findFrom,List.any_cons]
  by_cases hp:p x = true
  ·simp [idx,hp]
  ·simp only [hp,if_false,Bool.false_or,Bool.false_eq_true]
   exact findFrom_any p r (i + 1)


end Go.Sx.top

namespace Go.Sx.top
open Go Go.Sx

/-- A table that is small enough to be looked at. -/
structure Small (l:List T80):Prop where
 len:l.length ≤ 40
 each:∀ t ∈ l,t.f3.length ≤ 4398046511104 ∧ t.f4.length ≤ 4398046511104

theorem maxLen_big:(4398046520000:Nat) ≤ maxLen:=by decide

theorem Small.max {l:List T80} (h:Small l):l.length ≤ maxLen:=Nat.le_trans h.len (Nat.le_trans (by decide) maxLen_big)

theorem Small.take {l:List T80} (h:Small l) (n:Nat):Small (l.take n):=⟨by simp only [List.length_take]; have:=h.len; omega,fun t ht=>h.each t (List.mem_of_mem_take ht)⟩

theorem getD_lt {A:Type} [Inhabited A] {l:List A} {i:Nat} (h:i < l.length):l.getD i default = l[i]:=by
 rw [List.getD_eq_getElem?_getD,List.getElem?_eq_getElem h,Option.getD_some]

theorem getD_mem {A:Type} [Inhabited A] {l:List A} {i:Nat} (h:i < l.length):l.getD i default ∈ l:=by
 rw [getD_lt h]; exact List.getElem_mem h

theorem getD_take {A:Type} [Inhabited A] {l:List A} {i n:Nat} (h:i < n):(l.take n).getD i default = l.getD i default:=by
 simp only [List.getD_eq_getElem?_getD,List.getElem?_take,if_pos h]

theorem Small.at {l:List T80} (h:Small l) (i:Nat):(l.getD i default).f3.length ≤ 4398046511104 ∧ (l.getD i default).f4.length ≤ 4398046511104:=by
 by_cases hi:i < l.length
 ·exact h.each _ (getD_mem hi)
 ·rw [List.getD_eq_getElem?_getD,List.getElem?_eq_none (by omega)]
  exact ⟨by decide,by decide⟩

/-! ### The first of a name -/

def fd (l:List T80) (s:List UInt8):Option Nat:=findFrom (fun t=>t.f0 == s) l 0

theorem f45_eq (l:List T80) (h:l.length ≤ maxLen) (s:List UInt8):f29 l s = some (idx (fd l s)):=by
 unfold f29 f53_54
 rw [index_eq l h (fun t=>f54 t s) (fun t=>t.f0 == s) (fun _=>rfl) (fun i=>f53_54_b1 l s i) (fun i=>rfl)]
 unfold fd
 cases findFrom (fun t=>t.f0 == s) l 0 <;> rfl

theorem findFrom_some {A:Type} [Inhabited A] {p:A → Bool}:∀ {l:List A} {i j:Nat},findFrom p l i = some j → i ≤ j ∧ j < i + l.length ∧ p (l.getD (j - i) default) = true ∧ ∀ k,i ≤ k → k < j → p (l.getD (k - i) default) = false
 | [],_,_,h=>by cases h
 | x :: r,i,j,h=>by
  simp only [findFrom] at h
  split at h
  ·rename_i hp
   cases h
   refine ⟨Nat.le_refl _,by simp,by simpa using hp,fun k h1 h2=>by omega⟩
  ·rename_i hp
   obtain ⟨h1,h2,h3,h4⟩:=findFrom_some h
   refine ⟨by omega,by simp only [List.length_cons]; omega,?_,fun k hk1 hk2=>?_⟩
   ·rw [show j - i = (j - (i + 1)) + 1 by omega,List.getD_cons_succ]; exact h3
   ·by_cases he:k = i
    ·subst he; simpa using hp
    ·rw [show k - i = (k - (i + 1)) + 1 by omega,List.getD_cons_succ]; exact h4 k (by omega) hk2

theorem findFrom_none {A:Type} [Inhabited A] {p:A → Bool}:∀ {l:List A} {i:Nat},findFrom p l i = none → ∀ k,k < l.length → p (l.getD k default) = false
 | [],_,_,k,hk=>by simp at hk
 | x :: r,i,h,k,hk=>by
  simp only [findFrom] at h
  split at h
  ·cases h
  ·rename_i hp
   cases k with
   | zero=>simpa using hp
   | succ k=>rw [List.getD_cons_succ]; exact findFrom_none h k (by simpa using hk)

theorem findFrom_first {A:Type} [Inhabited A] {p:A → Bool}:∀ {l:List A} {i j:Nat},j < l.length → p (l.getD j default) = true → (∀ k,k < j → p (l.getD k default) = false) → findFrom p l i = some (i + j)
 | [],_,_,h,_,_=>by simp at h
 | x :: r,i,j,h,hp,hk=>by
  simp only [findFrom]
  cases j with
  | zero=>rw [if_pos (by simpa using hp)]; rfl
  | succ j =>
   rw [if_neg (by have:=hk 0 (by omega); simpa using this),findFrom_first (by simpa using h) (by simpa using hp) (fun k h1=>by have:=hk (k + 1) (by omega); simpa using this)]
   congr 1; omega

theorem fd_some {l:List T80} {s:List UInt8} {j:Nat} (h:fd l s = some j):j < l.length ∧ (l.getD j default).f0 = s ∧ ∀ k,k < j → (l.getD k default).f0 ≠ s:=by
 obtain ⟨_,h2,h3,h4⟩:=findFrom_some h
 refine ⟨by omega,by simpa using h3,fun k hk=>by simpa using h4 k (Nat.zero_le _) hk⟩

theorem fd_none {l:List T80} {s:List UInt8} (h:fd l s = none):∀ k,k < l.length → (l.getD k default).f0 ≠ s:=fun k hk=>by
 have:=findFrom_none h k hk
 simpa using this

theorem fd_first {l:List T80} {s:List UInt8} {j:Nat} (h:j < l.length) (hs:(l.getD j default).f0 = s) (hk:∀ k,k < j → (l.getD k default).f0 ≠ s):fd l s = some j:=by
 have:=findFrom_first (p:=fun t:T80=>t.f0 == s) (l:=l) (i:=0) h (by simpa using hs) (fun k h1=>by simpa using hk k h1)
 simpa [fd] using this

theorem fd_take {l:List T80} {s:List UInt8} {j n:Nat}:fd (l.take n) s = some j ↔ fd l s = some j ∧ j < n:=by
 constructor
 ·intro h
  obtain ⟨h1,h2,h3⟩:=fd_some h
  have hj:j < n ∧ j < l.length:=by simp only [List.length_take] at h1; omega
  refine ⟨fd_first hj.2 (by rw [← h2,getD_take hj.1]) (fun k hk=>?_),hj.1⟩
  have:=h3 k hk
  rwa [getD_take (by omega)] at this
 ·rintro ⟨h,hn⟩
  obtain ⟨h1,h2,h3⟩:=fd_some h
  refine fd_first (by simp only [List.length_take]; omega) (by rw [getD_take hn]; exact h2) (fun k hk=>?_)
  rw [getD_take (by omega)]
  exact h3 k hk

theorem fd_take_take {l:List T80} {s:List UInt8} {m n:Nat} (h:m ≤ n):fd ((l.take n).take m) s = fd (l.take m) s:=by
 rw [List.take_take,Nat.min_eq_left h]

/-! ### A type and its ancestors -/

abbrev par (l:List T80) (i:Nat):List UInt8:=(l.getD i default).f1

def upF (l:List T80):Nat → Nat → List Nat
 | 0,_=>[]
 | k + 1,i=>i :: (if par l i = [] then [] else match fd (l.take i) (par l i) with | some j=>upF l k j | none=>[])

def up (l:List T80) (i:Nat):List Nat:=upF l (i + 1) i

theorem upF_eq (l:List T80):∀ (k i:Nat),i < k → upF l k i = up l i:=by
 intro k
 induction k using Nat.strongRecOn with
 | _ k ih =>
  intro i hi
  obtain ⟨k,rfl⟩:∃ k',k = k' + 1:=⟨k - 1,by omega⟩
  simp only [up,upF]
  congr 1
  split
  ·rfl
  ·cases hf:fd (l.take i) (par l i) with
   | none=>rfl
   | some j =>
    have hj:=(fd_take.1 hf).2
    simp only
    rw [ih k (by omega) j (by omega),ih i (by omega) j hj]

theorem up_eq (l:List T80) (i:Nat):up l i = i :: (if par l i = [] then [] else match fd (l.take i) (par l i) with | some j=>up l j | none=>[]):=by
 have h:up l i = i :: (if par l i = [] then [] else match fd (l.take i) (par l i) with | some j=>upF l i j | none=>[]):=rfl
 rw [h]
 congr 1
 split
 ·rfl
 ·cases hf:fd (l.take i) (par l i) with
  | none=>rfl
  | some j=>exact upF_eq l i j (fd_take.1 hf).2

theorem up_le (l:List T80):∀ (i:Nat),∀ k ∈ up l i,k ≤ i:=by
 intro i
 induction i using Nat.strongRecOn with
 | _ i ih =>
  intro k hk
  rw [up_eq,List.mem_cons] at hk
  rcases hk with rfl | hk
  ·exact Nat.le_refl _
  ·split at hk
   ·cases hk
   ·cases hf:fd (l.take i) (par l i) with
    | none=>rw [hf] at hk; cases hk
    | some j =>
     rw [hf] at hk
     have hj:=(fd_take.1 hf).2
     have:=ih j hj k hk
     omega

theorem up_length (l:List T80):∀ (i:Nat),(up l i).length ≤ i + 1:=by
 intro i
 induction i using Nat.strongRecOn with
 | _ i ih =>
  rw [up_eq,List.length_cons]
  split
  ·simp
  ·cases hf:fd (l.take i) (par l i) with
   | none=>simp
   | some j =>
    have hj:=(fd_take.1 hf).2
    have:=ih j hj
    simp only
    omega

theorem up_take (l:List T80) (n:Nat):∀ (i:Nat),i < n → up (l.take n) i = up l i:=by
 intro i
 induction i using Nat.strongRecOn with
 | _ i ih =>
  intro hi
  have hp:par (l.take n) i = par l i:=by simp only [par,getD_take hi]
  rw [up_eq,up_eq l,hp,fd_take_take (by omega)]
  congr 1
  split
  ·rfl
  ·cases hf:fd (l.take i) (par l i) with
   | none=>rfl
   | some j =>
    have hj:=(fd_take.1 hf).2
    exact ih j hj (by omega)

/-- The parents of the first n are ahead of them. -/
def Ahead (l:List T80) (n:Nat):Prop:=∀ k,k < n → par l k ≠ [] → ∃ j,fd (l.take k) (par l k) = some j

theorem Ahead.take {l:List T80} {n m:Nat} (h:Ahead l n) (hm:n ≤ m):Ahead (l.take m) n:=fun k hk hp=>by
 have e:par (l.take m) k = par l k:=by simp only [par,getD_take (show k < m by omega)]
 rw [e] at hp ⊢
 rw [fd_take_take (by omega)]
 exact h k hk hp

def ints (l:List Nat):List Int:=l.map fun (k:Nat)=>(k:Int)

theorem f56_loop (l:List T80) (hs:Small l) {n:Nat} (hA:Ahead l n):∀ (i:Nat),i < n → i < l.length → ∀ acc:List Int,acc.length + i ≤ 1000 → iter (fun s=>f25_b1 l s.1 s.2) ((i:Int),acc) = some (.go (acc ++ ints (up l i))):=by
 intro i
 induction i using Nat.strongRecOn with
 | _ i ih =>
  intro hn hi acc hacc
  have h1:(0:Int) ≤ i ∧ (i:Int) < (l.length:Int):=⟨by omega,by omega⟩
  have hd:decide ((i:Int) ≥ 0) = true:=by simp
  have hb:(acc.length + [(i:Int)].length) * 8 ≤ 140737488355328:=by simp only [List.length_cons,List.length_nil]; omega
  rw [up_eq]
  by_cases hp:par l i = []
  ·refine iter_inr ?_
   simp only [f25_b1,hd,cond_true,if_pos hb,if_pos h1,Int.toNat_natCast]
   rw [show ((l.getD i default).f1 == ([]:List UInt8)) = true from beq_iff_eq.2 hp,cond_true,if_pos hp]
   rfl
  ·obtain ⟨j,hf⟩:=hA i hn hp
   have hj:=fd_take.1 hf
   have hstep:f25_b1 l (i:Int) acc = some (.inl ((j:Int),acc ++ [(i:Int)])):=by
    simp only [f25_b1,hd,cond_true,if_pos hb,if_pos h1,Int.toNat_natCast]
    rw [show ((l.getD i default).f1 == ([]:List UInt8)) = false from beq_eq_false_iff_ne.2 hp,cond_false,f45_eq l hs.max,show fd l (l.getD i default).f1 = some j from hj.1]
    rfl
   rw [iter_inl hstep,if_neg hp,hf]
   have:=ih j hj.2 (by omega) (by omega) (acc ++ [(i:Int)]) (by simp only [List.length_append,List.length_cons,List.length_nil]; omega)
   rw [this]
   simp [ints]

theorem f56_eq (l:List T80) (hs:Small l) {n:Nat} (hA:Ahead l n) (i:Nat) (hn:i < n) (hi:i < l.length):f25 l (i:Int) = some (ints (up l i)):=by
 have hl:=hs.len
 unfold f25
 rw [f56_loop l hs hA i hn hi [] (by simp; omega)]
 rfl

/-! ### Fields -/

/-- The first n have few fields. -/
def Few (l:List T80) (n:Nat):Prop:=∀ k,k < n → (l.getD k default).f3.length ≤ 40

def allF (l:List T80) (i:Nat):List T86:=(up l i).reverse.flatMap fun k=>(l.getD k default).f3

theorem f53_eq (l:List T80) (hs:Small l) {n:Nat} (hA:Ahead l n) (hF:Few l n) (i:Nat) (hn:i < n) (hi:i < l.length):f28 l (i:Int) = some (allF l i):=by
 have hl:=hs.len
 have hul:=up_length l i
 unfold f28
 rw [f56_eq l hs hA i hn hi,Option.bind_some,if_pos]
 ·congr 1
  simp only [ints,allF,← List.map_reverse,List.flatMap_map,Int.toNat_natCast]
 ·refine ⟨fun k hk=>?_,fun k hk=>?_,by simp only [ints,List.length_map]; omega⟩
  ·simp only [ints,List.mem_map] at hk
   obtain ⟨m,hm,rfl⟩:=hk
   have:=up_le l i m hm
   omega
  ·simp only [ints,List.mem_map] at hk
   obtain ⟨m,hm,rfl⟩:=hk
   have:=hF m (by have:=up_le l i m hm; omega)
   rw [Int.toNat_natCast]
   omega

end Go.Sx.top

namespace Go.Sx.top
open Go Go.Sx

theorem iter_listP {A X:Type} [Inhabited A] (l:List A) (hl:l.length ≤ maxLen) (body:Int → Option (Int ⊕ X)) (F:List A → Nat → X) (I:Nat → Prop)
  (hs:∀ (i:Nat) (x:A) (r:List A),I i → i < l.length → l.getD i default = x → l.drop i = x :: r → (body i = some (.inr (F (x :: r) i))) ∨ (body i = some (.inl (w64 ((i:Int) + 1))) ∧ I (i + 1) ∧ F (x :: r) i = F r (i + 1)))
  (he:I l.length → body (l.length:Int) = some (.inr (F [] l.length))) (h0:I 0):iter body 0 = some (F l 0):=by
 have key:∀ n i,i + n = l.length → I i → iter body (i:Int) = some (F (l.drop i) i):=by
  intro n
  induction n with
  | zero =>
   intro i hi hI
   obtain rfl:i = l.length:=by omega
   rw [iter_inr (he hI),List.drop_length]
  | succ n ih =>
   intro i hi hI
   have hlt:i < l.length:=by omega
   have hd:l.drop i = l[i] :: l.drop (i + 1):=List.drop_eq_getElem_cons hlt
   rcases hs i l[i] (l.drop (i + 1)) hI hlt (by simp [List.getD_eq_getElem?_getD,hlt]) hd with hb | ⟨hb,hI',hF⟩
   ·rw [iter_inr hb,hd]
   ·rw [iter_inl hb,w64_succ hlt hl,hd,hF]
    exact ih (i + 1) (by omega) hI'
 have:=key l.length 0 (by omega) h0
 simpa using this

/-! ### Which are formed -/

def nmOk (s:List UInt8):Bool:=s == ([]:List UInt8) || nameOk s

theorem f78_eq (s:List UInt8) (h:s.length ≤ maxLen):f138 s = some (nmOk s):=by
 unfold f138 nmOk
 rw [f77_eq s h]
 cases (s == ([]:List UInt8)) <;> rfl

def fieldOk (f:T86):Bool:=((nameOk f.f0 && nmOk f.f1) && decide (f.f2 ≥ 0)) && decide (f.f2 ≤ 100)
def bindOk (b:T107):Bool:=nameOk b.f0 && nmOk b.f1
def formedB (t:T80):Bool:=(((nameOk t.f0 && nmOk t.f1) && nmOk t.f5) && t.f3.all fieldOk) && t.f4.all bindOk

theorem G80.parts {t:T80} (h:G80 t):t.f0.length ≤ maxLen ∧ t.f1.length ≤ maxLen ∧ t.f5.length ≤ maxLen ∧ (t.f3.length ≤ maxLen ∧ ∀ f ∈ t.f3,f.f0.length ≤ maxLen ∧ f.f1.length ≤ maxLen) ∧ (t.f4.length ≤ maxLen ∧ ∀ b ∈ t.f4,b.f0.length ≤ maxLen ∧ b.f1.length ≤ maxLen):=by
 obtain ⟨h0,h1,_,⟨h3,h3'⟩,⟨h4,h4'⟩,h5,_⟩:=h
 exact ⟨h0,h1,h5,⟨h3,fun f hf=>⟨(h3' f hf).1,(h3' f hf).2.1⟩⟩,⟨h4,fun b hb=>⟨(h4' b hb).1,(h4' b hb).2.1⟩⟩⟩

theorem f66_eq (t:T80) (h:G80 t):f112 t = some (formedB t):=by
 obtain ⟨h0,h1,h5,⟨h3,h3'⟩,⟨h4,h4'⟩⟩:=h.parts
 have e1:iter (fun s=>f112_b1 t s) 0 = some (if t.f3.all fieldOk then (Out.go ():Out Bool Unit) else Out.ret false):=by
  refine iter_list t.f3 h3 (fun s=>f112_b1 t s) (fun r _=>if r.all fieldOk then (Out.go ():Out Bool Unit) else Out.ret false) ?_ ?_
  ·intro i x r hi hx _
   have hm:=getD_mem hi
   rw [hx] at hm
   have g1:(0:Int) ≤ i ∧ (i:Int) < (t.f3.length:Int):=⟨by omega,by omega⟩
   simp only [f112_b1,Int.toNat_natCast,hx,g1,and_self,if_true,decide_true,cond_true,f77_eq _ (h3' x hm).1,f78_eq _ (h3' x hm).2,Option.bind_some,cond_or]
   have:(((!nameOk x.f0 || !nmOk x.f1) || decide (x.f2 < 0)) || decide (x.f2 > 100)) = !fieldOk x:=by
    simp only [fieldOk,Bool.not_and]
    rw [show decide (x.f2 < 0) = !decide (x.f2 ≥ 0) by rw [← decide_not]; congr 1; simp,show decide (x.f2 > 100) = !decide (x.f2 ≤ 100) by rw [← decide_not]; congr 1; simp]
   rw [this]
   cases hb:fieldOk x with
   | true=>right; simp [hb]
   | false=>left; simp [hb]
  ·simp [f112_b1]
 have e2:iter (fun s=>f112_b2 t s) 0 = some (if t.f4.all bindOk then (Out.go ():Out Bool Unit) else Out.ret false):=by
  refine iter_list t.f4 h4 (fun s=>f112_b2 t s) (fun r _=>if r.all bindOk then (Out.go ():Out Bool Unit) else Out.ret false) ?_ ?_
  ·intro i x r hi hx _
   have hm:=getD_mem hi
   rw [hx] at hm
   have g1:(0:Int) ≤ i ∧ (i:Int) < (t.f4.length:Int):=⟨by omega,by omega⟩
   simp only [f112_b2,Int.toNat_natCast,hx,g1,and_self,if_true,decide_true,cond_true,f77_eq _ (h4' x hm).1,f78_eq _ (h4' x hm).2,Option.bind_some,cond_or]
   have:(!nameOk x.f0 || !nmOk x.f1) = !bindOk x:=by simp only [bindOk,Bool.not_and]
   rw [this]
   cases hb:bindOk x with
   | true=>right; simp [hb]
   | false=>left; simp [hb]
  ·simp [f112_b2]
 unfold f112 formedB
 rw [e1,e2,f77_eq _ h0,f78_eq _ h1,f78_eq _ h5]
 cases nameOk t.f0 <;> cases nmOk t.f1 <;> cases nmOk t.f5 <;> cases t.f3.all fieldOk <;> cases t.f4.all bindOk <;> rfl

def outB (b:Bool):Out Bool Unit:=cond b (.ret true) (.go ())
/-! ### What is there twice -/

def anyDup:List (List UInt8) → List (List UInt8) → Bool
 | _,[]=>false
 | pre,x :: r=>pre.contains x || anyDup (pre ++ [x]) r

theorem f94_eq (l:List (List UInt8)) (h:l.length ≤ maxLen) (s:List UInt8):f90 l s = some (idx (findFrom (fun x=>s == x) l 0)):=by
 unfold f90
 rw [index_eq l h (fun x=>some (s == x)) (fun x=>s == x) (fun _=>rfl) (fun i=>f90_b1 l s i) (fun i=>rfl)]
 cases findFrom (fun x=>s == x) l 0 <;> rfl

theorem f89_eq (l:List (List UInt8)) (h:l.length ≤ maxLen) (s:List UInt8):f58 l s = some (l.contains s):=by
 unfold f58
 rw [f94_eq l h,Option.bind_some,findFrom_any]
 congr 1
 rw [Bool.eq_iff_iff]
 simp [List.any_eq_true,List.contains_iff_mem]

theorem take_succ {A:Type} {l:List A} {i:Nat} {x:A} {r:List A} (h:l.drop i = x :: r):l.take (i + 1) = l.take i ++ [x]:=by
 have hi:i < l.length:=by
  rcases Nat.lt_or_ge i l.length with h1 | h1
  ·exact h1
  ·rw [List.drop_of_length_le h1] at h; cases h
 rw [List.drop_eq_getElem_cons hi] at h
 injection h with h1 _
 rw [List.take_succ_eq_append_getElem hi,h1]

theorem f79_eq (l:List (List UInt8)) (h:l.length ≤ maxLen):f139 l = some (anyDup [] l):=by
 have:=iter_list l h (fun i=>f139_b1 l i) (fun r i=>outB (anyDup (l.take i) r)) ?_ ?_
 ·unfold f139
  rw [this]
  simp only [Option.bind_some,List.take_zero]
  cases anyDup [] l <;> rfl
 ·intro i x r hi hx hd
  have g1:(0:Int) ≤ i ∧ (i:Int) < (l.length:Int):=⟨by omega,by omega⟩
  have g2:(0:Int) ≤ i ∧ (i:Int) ≤ (l.length:Int):=⟨by omega,by omega⟩
  have hlt:(l.take i).length ≤ maxLen:=by simp only [List.length_take]; omega
  simp only [f139_b1,Int.toNat_natCast,hx,g1,g2,and_self,if_true,decide_true,cond_true,List.drop_zero,f89_eq _ hlt,Option.bind_some,anyDup,take_succ hd]
  cases (l.take i).contains x with
  | true=>exact .inl rfl
  | false=>exact .inr ⟨rfl,rfl⟩
 ·simp [f139_b1,anyDup,outB]

/-- The names of types are there. -/
def Named (l:List T80) (n:Nat):Prop:=∀ k,k < n → (l.getD k default).f0 ≠ []

def prt (l:List T80) (k:Nat):Option Nat:=fd (l.take k) (par l k)

theorem prt_nil {l:List T80} {k:Nat} (hN:Named l k) (h:par l k = []):prt l k = none:=by
 unfold prt
 rw [h]
 cases hf:fd (l.take k) [] with
 | none=>rfl
 | some j =>
  have:=fd_take.1 hf
  exact absurd (fd_some this.1).2.1 (hN j this.2)

theorem prt_lt {l:List T80} {k j:Nat} (h:prt l k = some j):j < k ∧ j < l.length:=⟨(fd_take.1 h).2,(fd_some (fd_take.1 h).1).1⟩

def upP (l:List T80) (k:Nat):List Nat:=match prt l k with | some j=>up l j | none=>[]

theorem up_eqP {l:List T80} {k:Nat} (hN:Named l k):up l k = k :: upP l k:=by
 rw [up_eq]
 unfold upP
 congr 1
 by_cases hp:par l k = []
 ·rw [if_pos hp,prt_nil hN hp]
 ·rw [if_neg hp]; rfl

/-- The fields of a type's ancestors. -/
def anc (l:List T80) (k:Nat):List T86:=match prt l k with | some j=>allF l j | none=>[]

theorem allF_eq {l:List T80} {k:Nat} (hN:Named l k):allF l k = anc l k ++ (l.getD k default).f3:=by
 unfold allF anc
 rw [up_eqP hN]
 unfold upP
 cases prt l k with
 | none=>simp
 | some j=>simp [allF]

theorem anc_length (l:List T80) (hs:Small l) (k:Nat) (hF:Few l k) (hk:k < l.length):(anc l k).length ≤ 1600:=by
 unfold anc
 cases hp:prt l k with
 | none=>simp
 | some j =>
  simp only [allF]
  have hj:=prt_lt hp
  have h1:=up_length l j
  have hl:=hs.len
  have key:∀ us:List Nat,(∀ u ∈ us,u < k) → (us.flatMap fun k=>(l.getD k default).f3).length ≤ 40 * us.length:=by
   intro us
   induction us with
   | nil=>simp
   | cons u us ih =>
    intro hu
    have ih:=ih fun x hx=>hu x (List.mem_cons_of_mem _ hx)
    have:=hF u (hu u (List.mem_cons_self ..))
    simp only [List.flatMap_cons,List.length_append,List.length_cons]
    omega
  have:=key (up l j).reverse fun u hu=>by have:=up_le l j u (List.mem_reverse.1 hu); omega
  simp only [List.length_reverse] at this
  omega

def dbl (l:List T80) (k:Nat):Bool :=
 (fd (l.take k) (l.getD k default).f0).isSome || (anyDup [] ((anc l k ++ (l.getD k default).f3).map T86.f0) || anyDup [] ((l.getD k default).f4.map T107.f0))

theorem idx_nonneg (o:Option Nat):decide (idx o ≥ 0) = o.isSome:=by cases o <;> simp [idx]
theorem idx_neg (o:Option Nat):decide (idx o < 0) = o.isNone:=by
 cases o with
 | none=>rfl
 | some j=>exact decide_eq_false (by simp only [idx]; omega)

theorem names1 (l:List T80) (hs:Small l) (k:Nat) (ns:List (List UInt8)) (hn:ns.length ≤ 2000) :
  iter (fun s=>f113_b1 l (k:Int) s.1 s.2) (ns,(0:Int)) = some (.go (ns ++ (l.getD k default).f3.map T86.f0)):=by
 have h40:=(hs.at k).1
 refine iter_listI (l.getD k default).f3 (by have:=maxLen_big; omega) (fun s=>f113_b1 l (k:Int) s.1 s.2) (fun r _ b=>(Out.go (b ++ r.map T86.f0):Out Bool (List (List UInt8)))) (fun i b=>b.length ≤ 2000 + i) ?_ ?_ ns (by omega)
 ·intro i x r b hI hi hx _
  right
  have g1:(0:Int) ≤ i ∧ (i:Int) < (((l.getD k default).f3).length:Int):=⟨by omega,by omega⟩
  have hb:(b.length + [x.f0].length) * 16 ≤ 140737488355328:=by simp only [List.length_cons,List.length_nil]; omega
  refine ⟨b ++ [x.f0],?_,by simp only [List.length_append,List.length_cons,List.length_nil]; omega,by simp⟩
  simp only [f113_b1,Int.toNat_natCast,hx,g1,and_self,if_true,decide_true,cond_true]
  rw [if_pos hb]
 ·intro b _
  simp [f113_b1]

theorem names2 (l:List T80) (hs:Small l) (k:Nat) :
  iter (fun s=>f113_b2 l (k:Int) s.1 s.2) ([],(0:Int)) = some (.go ((l.getD k default).f4.map T107.f0)):=by
 have h40:=(hs.at k).2
 refine iter_listI (l.getD k default).f4 (by have:=maxLen_big; omega) (fun s=>f113_b2 l (k:Int) s.1 s.2) (fun r _ b=>(Out.go (b ++ r.map T107.f0):Out Bool (List (List UInt8)))) (fun i b=>b.length ≤ 2000 + i) ?_ ?_ [] (by simp)
 ·intro i x r b hI hi hx _
  right
  have g1:(0:Int) ≤ i ∧ (i:Int) < (((l.getD k default).f4).length:Int):=⟨by omega,by omega⟩
  have hb:(b.length + [x.f0].length) * 16 ≤ 140737488355328:=by simp only [List.length_cons,List.length_nil]; omega
  refine ⟨b ++ [x.f0],?_,by simp only [List.length_append,List.length_cons,List.length_nil]; omega,by simp⟩
  simp only [f113_b2,Int.toNat_natCast,hx,g1,and_self,if_true,decide_true,cond_true]
  rw [if_pos hb]
 ·intro b _
  simp [f113_b2]

theorem names4 (fs:List T86) (h:fs.length ≤ 1700) :
  iter (fun s=>f113_b4 fs s.1 s.2) ([],(0:Int)) = some (.go (fs.map T86.f0)):=by
 refine iter_listI fs (by have:=maxLen_big; omega) (fun s=>f113_b4 fs s.1 s.2) (fun r _ b=>(Out.go (b ++ r.map T86.f0):Out Bool (List (List UInt8)))) (fun i b=>b.length ≤ 2000 + i) ?_ ?_ [] (by simp)
 ·intro i x r b hI hi hx _
  right
  have g1:(0:Int) ≤ i ∧ (i:Int) < (fs.length:Int):=⟨by omega,by omega⟩
  have hb:(b.length + [x.f0].length) * 16 ≤ 140737488355328:=by simp only [List.length_cons,List.length_nil]; omega
  refine ⟨b ++ [x.f0],?_,by simp only [List.length_append,List.length_cons,List.length_nil]; omega,by simp⟩
  simp only [f113_b4,Int.toNat_natCast,hx,g1,and_self,if_true,decide_true,cond_true]
  rw [if_pos hb]
 ·intro b _
  simp [f113_b4]

theorem f67_j3_eq (l:List T80) (hs:Small l) (k:Nat) (hk:k < l.length) (ns:List (List UInt8)) (hn:ns.length ≤ 2000) :
  f113_j3 l (k:Int) ns = some ((fd (l.take k) (l.getD k default).f0).isSome || (anyDup [] (ns ++ (l.getD k default).f3.map T86.f0) || anyDup [] ((l.getD k default).f4.map T107.f0))):=by
 have hmx:=maxLen_big
 have h40:=hs.at k
 have g2:(0:Int) ≤ k ∧ (k:Int) ≤ (l.length:Int):=⟨by omega,by omega⟩
 unfold f113_j3
 rw [names1 l hs k ns hn]
 simp only [Option.bind_some]
 rw [names2 l hs k]
 simp only [Option.bind_some]
 rw [if_pos g2,List.drop_zero,Int.toNat_natCast,f45_eq _ (by have:=(hs.take k).max; exact this),f79_eq _ (by simp only [List.length_append,List.length_map]; omega),f79_eq _ (by simp only [List.length_map]; omega)]
 simp only [Option.bind_some,idx_nonneg,cond_or]

theorem f67_eq (l:List T80) (hs:Small l) (k:Nat) (hk:k < l.length) (hA:Ahead l k) (hF:Few l k):f113 l (k:Int) = some (dbl l k):=by
 have g1:(0:Int) ≤ k ∧ (k:Int) < (l.length:Int):=⟨by omega,by omega⟩
 have g2:(0:Int) ≤ k ∧ (k:Int) ≤ (l.length:Int):=⟨by omega,by omega⟩
 unfold f113
 rw [if_pos g1,if_pos g2,List.drop_zero,Int.toNat_natCast,f45_eq _ (hs.take k).max]
 simp only [Option.bind_some]
 have hal:=anc_length l hs k hF hk
 unfold dbl
 simp only [idx_nonneg]
 cases hp:fd (l.take k) (l.getD k default).f1 with
 | none =>
  have e:anc l k = []:=by unfold anc; rw [show prt l k = none from hp]
  rw [e,Option.isSome_none,cond_false,f67_j3_eq l hs k hk [] (by simp)]
  simp
 | some j =>
  have hj:=prt_lt hp
  have e:anc l k = allF l j:=by unfold anc; rw [show prt l k = some j from hp]
  rw [e] at hal ⊢
  rw [Option.isSome_some,cond_true,show idx (some j) = (j:Int) from rfl,f53_eq l hs hA hF j hj.1 hj.2,Option.bind_some,names4 _ (by omega)]
  simp only [Option.bind_some]
  rw [f67_j3_eq l hs k hk _ (by simp only [List.length_map]; omega),List.map_append]

/-! the reference's -/

theorem ints_getD {us:List Nat} {i:Nat} (h:i < us.length):(ints us).getD i default = ((us.getD i default:Nat):Int):=by
 simp only [ints,List.getD_eq_getElem?_getD,List.getElem?_map,List.getElem?_eq_getElem h]
 rfl

theorem ints_length (us:List Nat):(ints us).length = us.length:=by simp [ints]

/-! ### What is missing -/

def misF (l:List T80) (k:Nat) (f:T86):Bool:=!(f.f1 == ([]:List UInt8)) && (fd (l.take k) f.f1).isNone

def mis (l:List T80) (k:Nat):Bool:=(!(par l k == ([]:List UInt8)) && (prt l k).isNone) || (l.getD k default).f3.any (misF l k)

theorem f80_81_eq (l:List T80) (hs:Small l) (k:Nat) (hk:k < l.length) (fs:List T86) (hfs:fs.length ≤ maxLen):f140_141 fs l (k:Int) = some (fs.any (misF l k)):=by
 have g2:(0:Int) ≤ k ∧ (k:Int) ≤ (l.length:Int):=⟨by omega,by omega⟩
 have h81:∀ f,f141 f l (k:Int) = some (misF l k f):=fun f=>by
  unfold f141 misF
  rw [if_pos g2,List.drop_zero,Int.toNat_natCast,f45_eq _ (hs.take k).max]
  simp only [Option.bind_some,idx_neg,cond_and]
 unfold f140_141 f167_141
 rw [index_eq fs hfs (fun f=>f141 f l (k:Int)) (misF l k) h81 (fun i=>f167_141_b1 fs l (k:Int) i) (fun i=>rfl)]
 simp only [Option.bind_some]
 rw [← findFrom_any (misF l k) fs 0]
 cases findFrom (misF l k) fs 0 <;> rfl

theorem f68_eq (l:List T80) (hs:Small l) (k:Nat) (hk:k < l.length):f114 l (k:Int) = some (mis l k):=by
 have g1:(0:Int) ≤ k ∧ (k:Int) < (l.length:Int):=⟨by omega,by omega⟩
 have g2:(0:Int) ≤ k ∧ (k:Int) ≤ (l.length:Int):=⟨by omega,by omega⟩
 have h40:=(hs.at k).1
 unfold f114 mis prt
 rw [if_pos g1,if_pos g2,List.drop_zero,Int.toNat_natCast,f45_eq _ (hs.take k).max,f80_81_eq l hs k hk _ (by have:=maxLen_big; omega)]
 simp only [Option.bind_some,idx_neg]
 cases (par l k == ([]:List UInt8)) <;> cases (fd (l.take k) (par l k)).isNone <;> cases (l.getD k default).f3.any (misF l k) <;> rfl

end Go.Sx.top

namespace Go.Sx.top
open Go Go.Sx

theorem iter_listG {A B S X:Type} [Inhabited A] (l:List A) (hl:l.length ≤ maxLen) (body:S → Option (S ⊕ X)) (st:B → Int → S) (F:List A → Nat → B → X) (I:Nat → B → Prop)
  (hs:∀ (i:Nat) (x:A) (r:List A) (b:B),I i b → i < l.length → l.getD i default = x → l.drop i = x :: r → (body (st b (i:Int)) = some (.inr (F (x :: r) i b))) ∨ ∃ b',body (st b (i:Int)) = some (.inl (st b' (w64 ((i:Int) + 1)))) ∧ I (i + 1) b' ∧ F (x :: r) i b = F r (i + 1) b')
  (he:∀ b,I l.length b → body (st b (l.length:Int)) = some (.inr (F [] l.length b))) (b0:B) (h0:I 0 b0):iter body (st b0 0) = some (F l 0 b0):=by
 have key:∀ n i b,i + n = l.length → I i b → iter body (st b (i:Int)) = some (F (l.drop i) i b):=by
  intro n
  induction n with
  | zero =>
   intro i b hi hI
   obtain rfl:i = l.length:=by omega
   rw [iter_inr (he b hI),List.drop_length]
  | succ n ih =>
   intro i b hi hI
   have hlt:i < l.length:=by omega
   have hd:l.drop i = l[i] :: l.drop (i + 1):=List.drop_eq_getElem_cons hlt
   rcases hs i l[i] (l.drop (i + 1)) b hI hlt (by simp [List.getD_eq_getElem?_getD,hlt]) hd with hb | ⟨b',hb,hI',hF⟩
   ·rw [iter_inr hb,hd]
   ·rw [iter_inl hb,w64_succ hlt hl,hd,hF]
    exact ih (i + 1) b' (by omega) hI'
 have:=key l.length 0 b0 (by omega) h0
 simpa using this

theorem index_eqM {A:Type} [Inhabited A] (l:List A) (h:l.length ≤ maxLen) (f:A → Option Bool) (p:A → Bool) (hp:∀ x ∈ l,f x = some (p x)) (b:Int → Option (Int ⊕ Out Int Unit))
  (hb:∀ i,b i = cond (decide (i < (l.length:Int))) (if (0:Int) ≤ i ∧ i < (l.length:Int) then (f (l.getD i.toNat default)).bind fun v3=>cond v3 (some (.inr (.ret i))) (some (.inl (w64 (i + (1:Int))))) else none) (some (.inr (.go ())))) :
  iter b 0 = some (outOf (findFrom p l 0)):=by
 refine iter_list l h b (fun r i=>outOf (findFrom p r i)) ?_ ?_
 ·intro i x r hi hx _
  have hm:=getD_mem hi
  rw [hx] at hm
  have h1:(0:Int) ≤ i ∧ (i:Int) < (l.length:Int):=⟨by omega,by omega⟩
  simp only [hb,Int.toNat_natCast,hx,h1,and_self,if_true,decide_true,cond_true,hp x hm,Option.bind_some]
  cases hpx:p x with
  | true=>left; simp [findFrom,hpx,outOf]
  | false=>right; simp [findFrom,hpx]
 ·simp [hb,findFrom,outOf]

/-! ### Bindings -/

def bs (l:List T80) (us:List Nat):List T107:=us.flatMap fun k=>(l.getD k default).f4
def fst (b:List T107) (s:List UInt8):Option (List UInt8):=(b.find? fun b=>b.f0 == s).map T107.f1
def bnd (l:List T80) (us:List Nat) (s:List UInt8):Option (List UInt8):=fst (bs l us) s
def pairB:Option (List UInt8) → List UInt8 × Bool
 | some n=>(n,true)
 | none=>([],false)
def outP:Option (List UInt8) → Out (List UInt8 × Bool) Unit
 | some n=>.ret (n,true)
 | none=>.go ()

theorem fst_cons (b:T107) (r:List T107) (s:List UInt8):fst (b :: r) s = if b.f0 == s then some b.f1 else fst r s:=by
 unfold fst
 rw [List.find?_cons]
 cases b.f0 == s <;> rfl

theorem fst_append (a b:List T107) (s:List UInt8):fst (a ++ b) s = match fst a s with | some n=>some n | none=>fst b s:=by
 unfold fst
 rw [List.find?_append]
 cases a.find? fun b=>b.f0 == s <;> rfl

theorem f62_b1_eq (l:List T80) (hs:Small l) (us:List Nat) (m:Nat) (hm:m < us.length) (s:List UInt8) :
  iter (fun i=>f26_b1 l s (ints us) (m:Int) i) 0 = some (outP (fst (((l.getD (us.getD m default) default).f4)) s)):=by
 have h40:=(hs.at (us.getD m default)).2
 have hg:=ints_getD hm
 refine iter_list (((l.getD (us.getD m default) default).f4)) (by have:=maxLen_big; omega) (fun i=>f26_b1 l s (ints us) (m:Int) i) (fun r _=>outP (fst r s)) ?_ ?_
 ·intro i x r hi hx _
  have g1:(0:Int) ≤ i ∧ (i:Int) < (((l.getD (us.getD m default) default).f4).length:Int):=⟨by omega,by omega⟩
  simp only [f26_b1,Int.toNat_natCast,hg,hx,g1,and_self,if_true,decide_true,cond_true,fst_cons]
  cases hb:x.f0 == s with
  | true=>left; simp [outP]
  | false=>right; simp
 ·simp only [f26_b1,Int.toNat_natCast,hg]
  simp [fst,outP]

theorem bnd_cons (l:List T80) (u:Nat) (us:List Nat) (s:List UInt8):bnd l (u :: us) s = match fst (((l.getD u default).f4)) s with | some n=>some n | none=>bnd l us s:=by
 unfold bnd bs
 rw [List.flatMap_cons,fst_append]

theorem f62_eq (l:List T80) (hs:Small l) {n:Nat} (hA:Ahead l n) (i:Nat) (hn:i < n) (hi:i < l.length) (s:List UInt8):f26 l (i:Int) s = some (pairB (bnd l (up l i) s)):=by
 have hl:=hs.len
 have hul:=up_length l i
 have key:iter (fun j=>f26_b2 l s (ints (up l i)) j) 0 = some (outP (bnd l (up l i) s)):=by
  refine iter_list (up l i) (by have:=maxLen_big; omega) (fun j=>f26_b2 l s (ints (up l i)) j) (fun r _=>outP (bnd l r s)) ?_ ?_
  ·intro m x r hm hx _
   have hb:=f62_b1_eq l hs (up l i) m hm s
   rw [hx] at hb
   have hxm:=getD_mem hm
   rw [hx] at hxm
   have hle:=up_le l i x hxm
   have hg:=ints_getD hm
   rw [hx] at hg
   simp only [f26_b2,Int.toNat_natCast,hg]
   rw [show decide ((m:Int) < ((ints (up l i)).length:Int)) = true from by rw [ints_length]; simpa using hm,cond_true,if_pos ⟨by omega,by rw [ints_length]; omega⟩,if_pos ⟨by omega,by omega⟩,hb,bnd_cons]
   cases fst (((l.getD x default).f4)) s with
   | some n=>exact .inl rfl
   | none=>exact .inr ⟨rfl,rfl⟩
  ·simp only [f26_b2,ints_length]
   simp [bnd,bs,fst,outP]
 unfold f26
 rw [f56_eq l hs hA i hn hi,Option.bind_some,key]
 cases bnd l (up l i) s <;> rfl

/-! ### What is unsuited -/

def absF (l:List T80) (k:Nat) (f:T86):Bool:=!(f.f1 == ([]:List UInt8)) && (match fd (l.take k) f.f1 with | some j=>(l.getD j default).f2 | none=>false)

def ownBad (l:List T80) (k:Nat) (b:T107):Bool:=(b.f1 == ([]:List UInt8)) && ((pairB (bnd l (upP l k) b.f0)).2 && !((pairB (bnd l (upP l k) b.f0)).1 == ([]:List UInt8)))

def lineBad (l:List T80) (k:Nat) (b:T107):Bool:=(pairB (bnd l (up l k) b.f0)).1 == ([]:List UInt8)

def uns (l:List T80) (k:Nat):Bool:=(l.getD k default).f3.any (absF l k) || ((((l.getD k default).f4)).any (ownBad l k) || (!(l.getD k default).f2 && (bs l (up l k)).any (lineBad l k)))

/-- Nothing is missing: what is found. -/
theorem mis_parts {l:List T80} {k:Nat} (h:mis l k = false):(par l k ≠ [] → ∃ j,prt l k = some j) ∧ ∀ f ∈ (l.getD k default).f3,f.f1 ≠ [] → ∃ j,fd (l.take k) f.f1 = some j:=by
 simp only [mis,Bool.or_eq_false_iff,List.any_eq_false] at h
 refine ⟨fun hp=>?_,fun f hf hn=>?_⟩
 ·have h1:=h.1
  rw [show (par l k == ([]:List UInt8)) = false from beq_eq_false_iff_ne.2 hp] at h1
  cases hc:prt l k with
  | some j=>exact ⟨j,rfl⟩
  | none=>rw [hc] at h1; cases h1
 ·have h1:=h.2 f hf
  simp only [misF,show (f.f1 == ([]:List UInt8)) = false from beq_eq_false_iff_ne.2 hn] at h1
  cases hc:fd (l.take k) f.f1 with
  | some j=>exact ⟨j,rfl⟩
  | none=>rw [hc] at h1; exact absurd rfl h1

theorem f80_82_eq (l:List T80) (hs:Small l) (k:Nat) (hm:mis l k = false):f140_142 (l.getD k default).f3 l = some ((l.getD k default).f3.any (absF l k)):=by
 have h40:=(hs.at k).1
 have h82:∀ f ∈ (l.getD k default).f3,f142 f l = some (absF l k f):=fun f hf=>by
  unfold f142 absF
  by_cases hn:f.f1 = []
  ·rw [show (f.f1 == ([]:List UInt8)) = true from beq_iff_eq.2 hn]; rfl
  ·obtain ⟨j,hj⟩:=(mis_parts hm).2 f hf hn
   have hj2:=fd_take.1 hj
   have hlt:=(fd_some hj2.1).1
   rw [show (f.f1 == ([]:List UInt8)) = false from beq_eq_false_iff_ne.2 hn,f45_eq l hs.max,hj2.1,hj]
   simp only [Bool.not_false,cond_true,Option.bind_some,idx,Int.toNat_natCast,Bool.true_and]
   rw [if_pos ⟨by omega,by omega⟩]
   rfl
 unfold f140_142 f167_142
 rw [index_eqM _ (by have:=maxLen_big; omega) (fun f=>f142 f l) (absF l k) h82 (fun i=>f167_142_b1 (l.getD k default).f3 l i) (fun i=>rfl)]
 simp only [Option.bind_some]
 rw [← findFrom_any (absF l k) (l.getD k default).f3 0]
 cases findFrom (absF l k) (l.getD k default).f3 0 <;> rfl

theorem Ahead.succ {l:List T80} {k:Nat} (hA:Ahead l k) (hm:mis l k = false):Ahead l (k + 1):=fun j hj hp=>by
 by_cases he:j = k
 ·subst he; exact (mis_parts hm).1 hp
 ·exact hA j (by omega) hp

theorem f69_own (l:List T80) (hs:Small l) (k:Nat) (hA:Ahead l k) (hN:Named l k) (hm:mis l k = false) :
  iter (fun i=>f115_b2 l (k:Int) i) 0 = some (outB ((((l.getD k default).f4)).any (ownBad l k))):=by
 have h40:=(hs.at k).2
 refine iter_list (((l.getD k default).f4)) (by have:=maxLen_big; omega) (fun i=>f115_b2 l (k:Int) i) (fun r _=>outB (r.any (ownBad l k))) ?_ ?_
 ·intro i x r hi hx _
  have g1:(0:Int) ≤ i ∧ (i:Int) < (((l.getD k default).f4).length:Int):=⟨by omega,by omega⟩
  simp only [f115_b2,f115_j1,Int.toNat_natCast,hx,g1,and_self,if_true,decide_true,cond_true,List.any_cons,ownBad]
  by_cases hb:x.f1 = []
  ·rw [show (x.f1 == ([]:List UInt8)) = true from beq_iff_eq.2 hb]
   by_cases hp:par l k = []
   ·rw [show ((l.getD k default).f1 == ([]:List UInt8)) = true from beq_iff_eq.2 hp]
    have:upP l k = []:=by unfold upP; rw [prt_nil hN hp]
    rw [this]
    exact .inr ⟨rfl,rfl⟩
   ·rw [show ((l.getD k default).f1 == ([]:List UInt8)) = false from beq_eq_false_iff_ne.2 hp]
    obtain ⟨j,hj⟩:=(mis_parts hm).1 hp
    have hj2:=prt_lt hj
    have hu:upP l k = up l j:=by unfold upP; rw [hj]
    rw [f45_eq l hs.max,show fd l (l.getD k default).f1 = some j from (fd_take.1 hj).1,hu]
    simp only [Bool.not_true,cond_false,Option.bind_some,idx,f62_eq l hs hA j hj2.1 hj2.2,cond_and,Bool.true_and]
    cases ((pairB (bnd l (up l j) x.f0)).2 && !((pairB (bnd l (up l j) x.f0)).1 == ([]:List UInt8))) with
    | true=>exact .inl rfl
    | false=>exact .inr ⟨rfl,rfl⟩
  ·rw [show (x.f1 == ([]:List UInt8)) = false from beq_eq_false_iff_ne.2 hb]
   exact .inr ⟨rfl,rfl⟩
 ·simp [f115_b2,outB]

theorem f69_line1 (l:List T80) (hs:Small l) (k:Nat) (hk:k < l.length) (hA:Ahead l (k + 1)) (us:List Nat) (m:Nat) (hm:m < us.length) :
  iter (fun i=>f115_b3 l (k:Int) (ints us) (m:Int) i) 0 = some (outB ((((l.getD (us.getD m default) default).f4)).any (lineBad l k))):=by
 have h40:=(hs.at (us.getD m default)).2
 have hg:=ints_getD hm
 refine iter_list (((l.getD (us.getD m default) default).f4)) (by have:=maxLen_big; omega) (fun i=>f115_b3 l (k:Int) (ints us) (m:Int) i) (fun r _=>outB (r.any (lineBad l k))) ?_ ?_
 ·intro i x r hi hx _
  have g1:(0:Int) ≤ i ∧ (i:Int) < (((l.getD (us.getD m default) default).f4).length:Int):=⟨by omega,by omega⟩
  simp only [f115_b3,Int.toNat_natCast,hg,hx,g1,and_self,if_true,decide_true,cond_true,f62_eq l hs hA k (Nat.lt_succ_self k) hk,Option.bind_some,List.any_cons]
  rw [show ((pairB (bnd l (up l k) x.f0)).1 == ([]:List UInt8)) = lineBad l k x from rfl]
  cases lineBad l k x with
  | true=>exact .inl rfl
  | false=>exact .inr ⟨rfl,rfl⟩
 ·simp only [f115_b3,Int.toNat_natCast,hg]
  simp [outB]

theorem f69_line (l:List T80) (hs:Small l) (k:Nat) (hk:k < l.length) (hA:Ahead l (k + 1)) :
  iter (fun i=>f115_b4 l (k:Int) (ints (up l k)) i) 0 = some (outB ((bs l (up l k)).any (lineBad l k))):=by
 have hl:=hs.len
 have hul:=up_length l k
 refine iter_list (up l k) (by have:=maxLen_big; omega) (fun i=>f115_b4 l (k:Int) (ints (up l k)) i) (fun r _=>outB ((bs l r).any (lineBad l k))) ?_ ?_
 ·intro m x r hm hx _
  have hb:=f69_line1 l hs k hk hA (up l k) m hm
  rw [hx] at hb
  have hxm:=getD_mem hm
  rw [hx] at hxm
  have hle:=up_le l k x hxm
  have hg:=ints_getD hm
  rw [hx] at hg
  simp only [f115_b4,Int.toNat_natCast,hg]
  rw [show decide ((m:Int) < ((ints (up l k)).length:Int)) = true from by rw [ints_length]; simpa using hm,cond_true,if_pos ⟨by omega,by rw [ints_length]; omega⟩,if_pos ⟨by omega,by omega⟩,hb]
  simp only [bs,List.flatMap_cons,List.any_append]
  cases (((l.getD x default).f4)).any (lineBad l k) with
  | true=>exact .inl rfl
  | false=>exact .inr ⟨rfl,rfl⟩
 ·simp only [f115_b4,ints_length]
  simp [bs,outB]

theorem f69_eq (l:List T80) (hs:Small l) (k:Nat) (hk:k < l.length) (hA:Ahead l k) (hN:Named l k) (hm:mis l k = false):f115 l (k:Int) = some (uns l k):=by
 have g1:(0:Int) ≤ k ∧ (k:Int) < (l.length:Int):=⟨by omega,by omega⟩
 have hA1:=hA.succ hm
 unfold f115 uns
 rw [if_pos g1,Int.toNat_natCast,f80_82_eq l hs k hm,f69_own l hs k hA hN hm,f56_eq l hs hA1 k (Nat.lt_succ_self k) hk]
 simp only [Option.bind_some]
 rw [f69_line l hs k hk hA1]
 cases (l.getD k default).f3.any (absF l k) <;> cases (((l.getD k default).f4)).any (ownBad l k) <;> cases (l.getD k default).f2 <;> cases (bs l (up l k)).any (lineBad l k) <;> rfl

/-! the reference's -/

theorem upP_le (l:List T80) (k:Nat):∀ j ∈ upP l k,j < k:=fun j hj=>by
 unfold upP at hj
 cases hp:prt l k with
 | none=>rw [hp] at hj; cases hj
 | some m =>
  rw [hp] at hj
  have:=up_le l m j hj
  have:=(prt_lt hp).1
  omega

end Go.Sx.top

namespace Go.Sx.top
open Go Go.Sx

def tm (f:T86):Nat:=(if (1:Int) > f.f2 then (1:Int) else f.f2).toNat

theorem tm_int (f:T86):(if (1:Int) > f.f2 then (1:Int) else f.f2) = ((tm f:Nat):Int):=by
 unfold tm
 split <;> omega

theorem tm_le {f:T86} (h:f.f2 ≤ 100):tm f ≤ 100:=by
 unfold tm
 split <;> omega

theorem f46_eq (f:T86):f57 f = some ((tm f:Nat):Int):=by unfold f57; rw [tm_int]

/-- Where a field's type stands among the first k. -/
def typ (l:List T80) (k:Nat) (f:T86):Nat:=(fd (l.take k) f.f1).getD 0

def wd (prev:List Nat) (l:List T80) (k:Nat) (f:T86):Nat:=tm f * (if f.f1 == ([]:List UInt8) then 1 else prev.getD (typ l k f) 0)
def pw (prev:List Nat) (l:List T80) (k:Nat) (f:T86):Nat:=tm f * (1 + (if f.f1 == ([]:List UInt8) then 0 else prev.getD (typ l k f) 0))

def base (prev:List Nat) (l:List T80) (k:Nat):Nat:=match prt l k with | some p=>prev.getD p 0 | none=>0
def baseP (prev:List Nat) (l:List T80) (k:Nat):Nat:=match prt l k with | some p=>1 + prev.getD p 0 | none=>0

def un (prev:List Nat) (l:List T80) (k:Nat):Nat:=base prev l k + ((l.getD k default).f3.map (wd prev l k)).sum
def pn (prev:List Nat) (l:List T80) (k:Nat):Nat:=baseP prev l k + ((l.getD k default).f3.map (pw prev l k)).sum

def us (l:List T80):Nat → List Nat
 | 0=>[]
 | k + 1=>us l k ++ [un (us l k) l k]
def ps (l:List T80):Nat → List Nat
 | 0=>[]
 | k + 1=>ps l k ++ [pn (ps l k) l k]

theorem us_length (l:List T80):∀ k,(us l k).length = k
 | 0=>rfl
 | k + 1=>by simp [us,us_length l k]
theorem ps_length (l:List T80):∀ k,(ps l k).length = k
 | 0=>rfl
 | k + 1=>by simp [ps,ps_length l k]

theorem us_at (l:List T80):∀ (n k:Nat),k < n → (us l n).getD k 0 = un (us l k) l k
 | n + 1,k,h=>by
  simp only [us,List.getD_eq_getElem?_getD]
  by_cases he:k = n
  ·subst he
   rw [List.getElem?_append_right (by rw [us_length]; exact Nat.le_refl _),us_length]
   simp
  ·rw [List.getElem?_append_left (by rw [us_length]; omega),← List.getD_eq_getElem?_getD,us_at l n k (by omega)]
theorem ps_at (l:List T80):∀ (n k:Nat),k < n → (ps l n).getD k 0 = pn (ps l k) l k
 | n + 1,k,h=>by
  simp only [ps,List.getD_eq_getElem?_getD]
  by_cases he:k = n
  ·subst he
   rw [List.getElem?_append_right (by rw [ps_length]; exact Nat.le_refl _),ps_length]
   simp
  ·rw [List.getElem?_append_left (by rw [ps_length]; omega),← List.getD_eq_getElem?_getD,ps_at l n k (by omega)]

/-- All of these are within the bound. -/
def Low (prev:List Nat):Prop:=∀ j,prev.getD j 0 ≤ 100000

theorem low_us {l:List T80} {n:Nat} (h:∀ k,k < n → un (us l k) l k ≤ 100000):Low (us l n):=fun j=>by
 by_cases hj:j < n
 ·rw [us_at l n j hj]; exact h j hj
 ·rw [List.getD_eq_getElem?_getD,List.getElem?_eq_none (by rw [us_length]; omega)]; exact Nat.zero_le _
theorem low_ps {l:List T80} {n:Nat} (h:∀ k,k < n → pn (ps l k) l k ≤ 100000):Low (ps l n):=fun j=>by
 by_cases hj:j < n
 ·rw [ps_at l n j hj]; exact h j hj
 ·rw [List.getD_eq_getElem?_getD,List.getElem?_eq_none (by rw [ps_length]; omega)]; exact Nat.zero_le _

theorem wd_le {prev:List Nat} (hp:Low prev) {l:List T80} {k:Nat} {f:T86} (h:f.f2 ≤ 100):wd prev l k f ≤ 10000000:=by
 have h1:=tm_le h
 have h2:(if f.f1 == ([]:List UInt8) then 1 else prev.getD (typ l k f) 0) ≤ 100000:=by
  split
  ·omega
  ·exact hp _
 calc wd prev l k f ≤ 100 * 100000:=Nat.mul_le_mul h1 h2
  _ = 10000000:=rfl
theorem pw_le {prev:List Nat} (hp:Low prev) {l:List T80} {k:Nat} {f:T86} (h:f.f2 ≤ 100):pw prev l k f ≤ 10000100:=by
 have h1:=tm_le h
 have h2:1 + (if f.f1 == ([]:List UInt8) then 0 else prev.getD (typ l k f) 0) ≤ 100001:=by
  split
  ·omega
  ·have:=hp (typ l k f); omega
 calc pw prev l k f ≤ 100 * 100001:=Nat.mul_le_mul h1 h2
  _ = 10000100:=rfl

theorem intsD {v:List Nat} {j:Nat} (h:j < v.length):(ints v).getD j default = ((v.getD j 0:Nat):Int):=ints_getD h

/-- What the fields' numbers and types want. -/
def Fit (l:List T80) (k:Nat):Prop:=(∀ f ∈ (l.getD k default).f3,f.f2 ≤ 100) ∧ mis l k = false

theorem typ_of {l:List T80} {k:Nat} (h:mis l k = false) {f:T86} (hf:f ∈ (l.getD k default).f3) (hn:f.f1 ≠ []):fd (l.take k) f.f1 = some (typ l k f) ∧ typ l k f < k:=by
 obtain ⟨j,hj⟩:=(mis_parts h).2 f hf hn
 have:typ l k f = j:=by simp [typ,hj]
 rw [this]
 exact ⟨hj,(fd_take.1 hj).2⟩

theorem f70_b2_eq (l:List T80) (hs:Small l) (k:Nat) (h40:(l.getD k default).f3.length ≤ 40) (hk:k < l.length) (pu pp:List Nat) (hpu:pu.length = k) (hpp:pp.length = k) (hlu:Low pu) (hlp:Low pp) (hf:Fit l k) (a b:Nat) (ha:a ≤ 100001) (hb:b ≤ 100001) :
  iter (fun s=>f51_b2 l (ints pu) (ints pp) (k:Int) s.1 s.2.1 s.2.2) ((a:Int),(b:Int),(0:Int)) = some (.go (((a + ((l.getD k default).f3.map (wd pu l k)).sum:Nat):Int),((b + ((l.getD k default).f3.map (pw pp l k)).sum:Nat):Int))):=by
 refine iter_listG (l.getD k default).f3 (by have:=maxLen_big; omega) (fun s=>f51_b2 l (ints pu) (ints pp) (k:Int) s.1 s.2.1 s.2.2) (fun (b:Nat × Nat) i=>((b.1:Int),(b.2:Int),i))
  (fun r _ b=>(Out.go (((b.1 + (r.map (wd pu l k)).sum:Nat):Int),((b.2 + (r.map (pw pp l k)).sum:Nat):Int)):Out ((List Int) × (List Int)) (Int × Int))) (fun i b=>b.1 ≤ 100001 + i * 10000100 ∧ b.2 ≤ 100001 + i * 10000100) ?_ ?_ (a,b) (by simp; omega)
 ·rintro i x r ⟨n,m⟩ ⟨hn,hm⟩ hi hx _
  simp only at hn hm
  right
  have g1:(0:Int) ≤ i ∧ (i:Int) < (((l.getD k default).f3).length:Int):=⟨by omega,by omega⟩
  have hxm:=getD_mem hi
  rw [hx] at hxm
  have h2:=hf.1 x hxm
  have hw:=wd_le hlu (l:=l) (k:=k) h2
  have hp:=pw_le hlp (l:=l) (k:=k) h2
  refine ⟨(n + wd pu l k x,m + pw pp l k x),?_,by simp only; omega,by simp only [List.map_cons,List.sum_cons,Nat.add_assoc]⟩
  simp only [f51_b2,f51_j1,Int.toNat_natCast,hx,g1,and_self,if_true,decide_true,cond_true,f46_eq,Option.bind_some]
  by_cases he:x.f1 = []
  ·have e1:wd pu l k x = tm x:=by simp [wd,he]
   have e2:pw pp l k x = tm x:=by simp [pw,he]
   rw [e1] at hw ⊢
   rw [e2]
   rw [show (x.f1 == ([]:List UInt8)) = true from beq_iff_eq.2 he,cond_true,w64_id (n:=(n:Int) + (tm x:Int)) (by omega) (by omega),w64_id (n:=(m:Int) + (tm x:Int)) (by omega) (by omega)]
   simp
  ·obtain ⟨ht,htk⟩:=typ_of hf.2 hxm he
   have e1:wd pu l k x = tm x * pu.getD (typ l k x) 0:=by simp [wd,he]
   have e2:pw pp l k x = tm x * (1 + pp.getD (typ l k x) 0):=by simp [pw,he]
   have q1:=hlu (typ l k x)
   have q2:=hlp (typ l k x)
   rw [show (x.f1 == ([]:List UInt8)) = false from beq_eq_false_iff_ne.2 he,cond_false,List.drop_zero,if_pos ⟨by omega,by omega⟩,f45_eq _ (hs.take k).max,ht]
   simp only [Option.bind_some,idx,Int.toNat_natCast]
   rw [if_pos ⟨by omega,by rw [ints_length]; omega,by omega,by rw [ints_length]; omega⟩,intsD (by omega),intsD (by omega)]
   have c1:((tm x:Nat):Int) * ((pu.getD (typ l k x) 0:Nat):Int) = ((wd pu l k x:Nat):Int):=by rw [e1]; simp
   have c2:((tm x:Nat):Int) * (1 + ((pp.getD (typ l k x) 0:Nat):Int)) = ((pw pp l k x:Nat):Int):=by rw [e2]; simp
   rw [w64_id (n:=(1:Int) + ((pp.getD (typ l k x) 0:Nat):Int)) (by omega) (by omega),c1,c2,w64_id (n:=((wd pu l k x:Nat):Int)) (by omega) (by omega),w64_id (n:=((pw pp l k x:Nat):Int)) (by omega) (by omega),
    w64_id (n:=(n:Int) + ((wd pu l k x:Nat):Int)) (by omega) (by omega),w64_id (n:=(m:Int) + ((pw pp l k x:Nat):Int)) (by omega) (by omega)]
   simp
 ·rintro ⟨n,m⟩ _
  simp [f51_b2]

theorem ints_snoc (v:List Nat) (n:Nat):ints v ++ [(n:Int)] = ints (v ++ [n]):=by simp [ints]

theorem prt_of {l:List T80} {k:Nat} (hm:mis l k = false) (hp:par l k ≠ []):∃ j,prt l k = some j:=(mis_parts hm).1 hp

theorem f70_step (l:List T80) (hs:Small l) (hN:Named l l.length) (hf:∀ k,k < l.length → Fit l k) (hu:∀ k,k + 1 < l.length → un (us l k) l k ≤ 100000 ∧ pn (ps l k) l k ≤ 100000) (k:Nat) (hk:k < l.length) (h40:Few l (k + 1)) :
  f51_b4 l (ints (us l k)) (ints (ps l k)) (k:Int) = some (.inl (ints (us l (k + 1)),ints (ps l (k + 1)),w64 ((k:Int) + 1))):=by
 have hlen:=hs.len
 have g1:(0:Int) ≤ k ∧ (k:Int) < (l.length:Int):=⟨by omega,by omega⟩
 have hlu:Low (us l k):=low_us fun j hj=>(hu j (by omega)).1
 have hlp:Low (ps l k):=low_ps fun j hj=>(hu j (by omega)).2
 have hfk:=hf k hk
 have hj3:∀ a b:Nat,a ≤ 100001 → b ≤ 100001 → f51_j3 l (ints (us l k)) (ints (ps l k)) (k:Int) (a:Int) (b:Int) = some (.inl (ints (us l k) ++ [((a + ((l.getD k default).f3.map (wd (us l k) l k)).sum:Nat):Int)],ints (ps l k) ++ [((b + ((l.getD k default).f3.map (pw (ps l k) l k)).sum:Nat):Int)],w64 ((k:Int) + 1))):=fun a b ha hb=>by
  unfold f51_j3
  rw [f70_b2_eq l hs k (h40 k (by omega)) hk (us l k) (ps l k) (us_length l k) (ps_length l k) hlu hlp hfk a b ha hb]
  simp only [Option.bind_some]
  rw [if_pos (by simp only [ints_length,us_length,List.length_cons,List.length_nil]; omega),if_pos (by simp only [ints_length,ps_length,List.length_cons,List.length_nil]; omega)]
 simp only [f51_b4,Int.toNat_natCast,g1,and_self,if_true,decide_true,cond_true]
 by_cases hp:par l k = []
 ·have hpn:=prt_nil (fun j hj=>hN j (by omega)) hp
  rw [show ((l.getD k default).f1 == ([]:List UInt8)) = true from beq_iff_eq.2 hp,Bool.not_true,cond_false]
  have:=hj3 0 0 (by omega) (by omega)
  rw [show ((0:Nat):Int) = (0:Int) from rfl] at this
  rw [this]
  simp only [us,ps,un,pn,base,baseP,hpn,ints_snoc]
 ·obtain ⟨j,hj⟩:=prt_of hfk.2 hp
  have hjk:=prt_lt hj
  have q1:=hlu j
  have q2:=hlp j
  rw [show ((l.getD k default).f1 == ([]:List UInt8)) = false from beq_eq_false_iff_ne.2 hp,Bool.not_false,cond_true,if_pos ⟨trivial,by omega⟩,List.drop_zero,f45_eq _ (hs.take k).max,show fd (l.take k) (l.getD k default).f1 = some j from hj]
  simp only [Option.bind_some,idx,Int.toNat_natCast]
  rw [if_pos ⟨by omega,by rw [ints_length,us_length]; omega,by omega,by rw [ints_length,ps_length]; omega⟩,intsD (by simp only [us_length,ps_length]; omega),intsD (by simp only [us_length,ps_length]; omega),w64_id (n:=(1:Int) + (((ps l k).getD j 0:Nat):Int)) (by omega) (by omega)]
  have:=hj3 ((us l k).getD j 0) (1 + (ps l k).getD j 0) (by omega) (by omega)
  rw [show ((1 + (ps l k).getD j 0:Nat):Int) = (1:Int) + (((ps l k).getD j 0:Nat):Int) by omega] at this
  rw [this]
  simp only [us,ps,un,pn,base,baseP,hj,ints_snoc]

theorem f70_eq (l:List T80) (hs:Small l) (h40:Few l l.length) (hN:Named l l.length) (hf:∀ k,k < l.length → Fit l k) (hu:∀ k,k + 1 < l.length → un (us l k) l k ≤ 100000 ∧ pn (ps l k) l k ≤ 100000) :
  f51 l = some (ints (us l l.length),ints (ps l l.length)):=by
 have hlen:=hs.len
 have key:=iter_listG l hs.max (fun s=>f51_b4 l s.1 s.2.1 s.2.2) (fun (b:List Int × List Int) i=>(b.1,b.2,i)) (fun _ _ _=>(Out.go (ints (us l l.length),ints (ps l l.length)):Out ((List Int) × (List Int)) ((List Int) × (List Int)))) (fun i b=>b = (ints (us l i),ints (ps l i))) ?_ ?_ ([],[]) rfl
 ·unfold f51
  rw [key]; rfl
 ·rintro k x r b rfl hk hx _
  right
  exact ⟨(ints (us l (k + 1)),ints (ps l (k + 1))),f70_step l hs hN hf hu k hk fun j hj=>h40 j (by omega),rfl,rfl⟩
 ·rintro b rfl
  simp [f51_b4]

theorem iter_inv {S X:Type} (body:S → Option (S ⊕ X)) (I:Nat → S → Prop) (Q:X → Prop) (n:Nat)
  (hs:∀ i s,i < n → I i s → ∃ s',body s = some (.inl s') ∧ I (i + 1) s')
  (he:∀ s,I n s → ∃ x,body s = some (.inr x) ∧ Q x) (s0:S) (h0:I 0 s0):∃ x,iter body s0 = some x ∧ Q x:=by
 have key:∀ k i s,i + k = n → I i s → ∃ x,iter body s = some x ∧ Q x:=by
  intro k
  induction k with
  | zero =>
   intro i s hi hI
   obtain rfl:i = n:=by omega
   obtain ⟨x,hx,hq⟩:=he s hI
   exact ⟨x,iter_inr hx,hq⟩
  | succ k ih =>
   intro i s hi hI
   obtain ⟨s',hx,hI'⟩:=hs i s (by omega) hI
   obtain ⟨x,hx',hq⟩:=ih (i + 1) s' (by omega) hI'
   exact ⟨x,by rw [iter_inl hx]; exact hx',hq⟩
 exact key n 0 s0 (by omega) h0

/-- The fields of a type, however many there are: something comes. -/
theorem f70_b2_some (l:List T80) (hs:Small l) (k:Nat) (hk:k < l.length) (pu pp:List Int) (hpu:pu.length = k) (hpp:pp.length = k) (hf:Fit l k) (a b:Int) :
  ∃ n m,iter (fun s=>f51_b2 l pu pp (k:Int) s.1 s.2.1 s.2.2) (a,b,(0:Int)) = some (.go (n,m)):=by
 have hM:=(hs.at k).1
 have hmx:=maxLen_big
 have hm2:=maxLen_le
 obtain ⟨x,hx,n,m,rfl⟩:=iter_inv (fun s:Int × Int × Int=>f51_b2 l pu pp (k:Int) s.1 s.2.1 s.2.2) (fun i s=>∃ n m:Int,s = (n,m,(i:Int))) (fun y=>∃ n m:Int,y = (Out.go (n,m):Out ((List Int) × (List Int)) (Int × Int))) ((l.getD k default).f3).length
  (by
   rintro i s hi ⟨n,m,rfl⟩
   have g1:(0:Int) ≤ i ∧ (i:Int) < (((l.getD k default).f3).length:Int):=⟨by omega,by omega⟩
   have hxm:=getD_mem hi
   have e2:w64 ((i:Int) + 1) = ((i + 1:Nat):Int):=by rw [w64_id (by omega) (by omega)]; omega
   generalize hx:(l.getD k default).f3.getD i default = x at hxm
   show ∃ s',f51_b2 l pu pp (k:Int) n m (i:Int) = some (.inl s') ∧ _
   simp only [f51_b2,f51_j1,Int.toNat_natCast,hx,g1,and_self,if_true,decide_true,cond_true,f46_eq,Option.bind_some,e2]
   by_cases he:x.f1 = []
   ·rw [show (x.f1 == ([]:List UInt8)) = true from beq_iff_eq.2 he,cond_true]
    exact ⟨_,rfl,_,_,rfl⟩
   ·obtain ⟨ht,htk⟩:=typ_of hf.2 hxm he
    rw [show (x.f1 == ([]:List UInt8)) = false from beq_eq_false_iff_ne.2 he,cond_false,List.drop_zero,if_pos ⟨by omega,by omega⟩,f45_eq _ (hs.take k).max,ht]
    simp only [Option.bind_some,idx,Int.toNat_natCast]
    rw [if_pos ⟨by omega,by omega,by omega,by omega⟩]
    exact ⟨_,rfl,_,_,rfl⟩)
  (by
   rintro s ⟨n,m,rfl⟩
   refine ⟨.go (n,m),?_,n,m,rfl⟩
   show f51_b2 l pu pp (k:Int) n m (((l.getD k default).f3).length:Int) = _
   simp [f51_b2])
  (a,b,(0:Int)) ⟨a,b,rfl⟩
 exact ⟨n,m,hx⟩

theorem f70_some (l:List T80) (hs:Small l) (k:Nat) (hl:l.length = k + 1) (h40:Few l k) (hN:Named l l.length) (hf:∀ k,k < l.length → Fit l k) (hu:∀ k,k + 1 < l.length → un (us l k) l k ≤ 100000 ∧ pn (ps l k) l k ≤ 100000):∃ r,f51 l = some r:=by
 have hlen:=hs.len
 have hmx:=maxLen_le
 have hk:k < l.length:=by omega
 obtain ⟨x,hx,n,m,rfl⟩:=iter_inv (fun s:List Int × List Int × Int=>f51_b4 l s.1 s.2.1 s.2.2) (fun i s=>(i ≤ k → s = (ints (us l i),ints (ps l i),(i:Int))) ∧ s.2.2 = (i:Int)) (fun y=>∃ n m:List Int,y = (Out.go (n,m):Out ((List Int) × (List Int)) ((List Int) × (List Int)))) l.length
  (by
   rintro i s hi ⟨hI,_⟩
   have e:=hI (by omega)
   subst e
   have e2:w64 ((i:Int) + 1) = ((i + 1:Nat):Int):=by rw [w64_id (by omega) (by omega)]; omega
   by_cases hik:i < k
   ·refine ⟨_,f70_step l hs hN hf hu i hi fun j hj=>h40 j (by omega),fun _=>by rw [e2],e2⟩
   ·obtain rfl:i = k:=by omega
    have g1:(0:Int) ≤ i ∧ (i:Int) < (l.length:Int):=⟨by omega,by omega⟩
    have hj3:∀ a b:Int,∃ n m,f51_j3 l (ints (us l i)) (ints (ps l i)) (i:Int) a b = some (.inl (ints (us l i) ++ [n],ints (ps l i) ++ [m],w64 ((i:Int) + 1))):=fun a b=>by
     obtain ⟨n,m,h⟩:=f70_b2_some l hs i hi (ints (us l i)) (ints (ps l i)) (by rw [ints_length,us_length]) (by rw [ints_length,ps_length]) (hf i hi) a b
     refine ⟨n,m,?_⟩
     unfold f51_j3
     rw [h]
     simp only [Option.bind_some]
     rw [if_pos (by simp only [ints_length,us_length,List.length_cons,List.length_nil]; omega),if_pos (by simp only [ints_length,ps_length,List.length_cons,List.length_nil]; omega)]
    show ∃ s',f51_b4 l (ints (us l i)) (ints (ps l i)) (i:Int) = some (.inl s') ∧ _
    simp only [f51_b4,Int.toNat_natCast,g1,and_self,if_true,decide_true,cond_true]
    by_cases hp:par l i = []
    ·rw [show ((l.getD i default).f1 == ([]:List UInt8)) = true from beq_iff_eq.2 hp,Bool.not_true,cond_false]
     obtain ⟨n,m,h⟩:=hj3 0 0
     rw [h]
     exact ⟨_,rfl,fun h=>by omega,e2⟩
    ·obtain ⟨j,hj⟩:=prt_of (hf i hi).2 hp
     have hjk:=prt_lt hj
     rw [show ((l.getD i default).f1 == ([]:List UInt8)) = false from beq_eq_false_iff_ne.2 hp,Bool.not_false,cond_true,if_pos ⟨trivial,by omega⟩,List.drop_zero,f45_eq _ (hs.take i).max,show fd (l.take i) (l.getD i default).f1 = some j from hj]
     simp only [Option.bind_some,idx,Int.toNat_natCast]
     rw [if_pos ⟨by omega,by rw [ints_length,us_length]; omega,by omega,by rw [ints_length,ps_length]; omega⟩]
     obtain ⟨n,m,h⟩:=hj3 ((ints (us l i)).getD j default) (w64 ((1:Int) + (ints (ps l i)).getD j default))
     rw [h]
     exact ⟨_,rfl,fun h=>by omega,e2⟩)
  (by
   rintro ⟨n,m,i⟩ ⟨_,hi⟩
   simp only at hi
   subst hi
   refine ⟨.go (n,m),?_,n,m,rfl⟩
   show f51_b4 l n m (l.length:Int) = _
   simp [f51_b4])
  ([],[],(0:Int)) ⟨fun _=>rfl,rfl⟩
 unfold f51
 rw [hx]
 exact ⟨_,rfl⟩

/-! ### The reference's, kept a little above the limit -/

end Go.Sx.top

namespace Go.Sx.top
open Go Go.Sx

def lim (l:List T80) (k:Nat):Bool:=((decide ((k:Int) ≥ 30) || decide ((((l.getD k default).f3).length:Int) > 20)) || decide (un (us l k) l k > 100000)) || decide (pn (ps l k) l k > 100000)

def errAt (l:List T80) (k:Nat):Int:=cond (!formedB (l.getD k default)) 2 (cond (dbl l k) 8 (cond (mis l k) 5 (cond (uns l k) 70 (cond (lim l k) 4 0))))

def Right (l:List T80) (n:Nat):Prop:=∀ k,k < n → errAt l k = 0

theorem errAt_parts {l:List T80} {k:Nat} (h:errAt l k = 0):formedB (l.getD k default) = true ∧ dbl l k = false ∧ mis l k = false ∧ uns l k = false ∧ lim l k = false:=by
 unfold errAt at h
 cases h1:formedB (l.getD k default) <;> cases h2:dbl l k <;> cases h3:mis l k <;> cases h4:uns l k <;> cases h5:lim l k <;> rw [h1,h2,h3,h4,h5] at h <;> first | exact ⟨rfl,rfl,rfl,rfl,rfl⟩ | exact absurd h (by decide)

theorem formed_named {t:T80} (h:formedB t = true):t.f0 ≠ []:=by
 intro e
 simp only [formedB,Bool.and_eq_true] at h
 have h1:=h.1.1.1.1
 rw [e] at h1
 simp [nameOk] at h1

theorem formed_many {t:T80} (h:formedB t = true):∀ f ∈ t.f3,f.f2 ≤ 100:=fun f hf=>by
 simp only [formedB,Bool.and_eq_true,List.all_eq_true] at h
 have h1:=h.1.2 f hf
 simp only [fieldOk,Bool.and_eq_true,decide_eq_true_eq] at h1
 exact h1.2

theorem lim_parts {l:List T80} {k:Nat} (h:lim l k = false):un (us l k) l k ≤ 100000 ∧ pn (ps l k) l k ≤ 100000:=by
 simp only [lim,Bool.or_eq_false_iff,decide_eq_false_iff_not] at h
 omega

theorem Right.named {l:List T80} {n:Nat} (h:Right l n):Named l n:=fun k hk=>formed_named (errAt_parts (h k hk)).1
theorem Right.ahead {l:List T80} {n:Nat} (h:Right l n):Ahead l n:=fun k hk hp=>(mis_parts (errAt_parts (h k hk)).2.2.1).1 hp
theorem Right.fit {l:List T80} {n:Nat} (h:Right l n):∀ k,k < n → Fit l k:=fun k hk=>⟨formed_many (errAt_parts (h k hk)).1,(errAt_parts (h k hk)).2.2.1⟩
theorem Right.low {l:List T80} {n:Nat} (h:Right l n):∀ k,k < n → un (us l k) l k ≤ 100000 ∧ pn (ps l k) l k ≤ 100000:=fun k hk=>lim_parts (errAt_parts (h k hk)).2.2.2.2

theorem lim_few {l:List T80} {k:Nat} (h:lim l k = false):(l.getD k default).f3.length ≤ 20:=by
 simp only [lim,Bool.or_eq_false_iff,decide_eq_false_iff_not] at h
 omega
theorem Right.few {l:List T80} {n:Nat} (h:Right l n):Few l n:=fun k hk=>by have:=lim_few (errAt_parts (h k hk)).2.2.2.2; omega

/-! ### What is said of the front alone -/

theorem flatMap_same {A B:Type} {f g:A → List B}:∀ {v:List A},(∀ k ∈ v,f k = g k) → v.flatMap f = v.flatMap g
 | [],_=>rfl
 | x :: v,h=>by
  rw [List.flatMap_cons,List.flatMap_cons,h x (List.mem_cons_self ..),flatMap_same fun k hk=>h k (List.mem_cons_of_mem _ hk)]

theorem prt_take {l:List T80} {n k:Nat} (h:k < n):prt (l.take n) k = prt l k:=by
 simp only [prt,par,getD_take h,fd_take_take (Nat.le_of_lt h)]

theorem allF_take {l:List T80} {n k:Nat} (h:k < n):allF (l.take n) k = allF l k:=by
 unfold allF
 rw [up_take l n k h]
 refine flatMap_same fun j hj=>?_
 have:=up_le l k j (List.mem_reverse.1 hj)
 rw [getD_take (by omega)]

theorem anc_take {l:List T80} {n k:Nat} (h:k < n):anc (l.take n) k = anc l k:=by
 unfold anc
 rw [prt_take h]
 cases hp:prt l k with
 | none=>rfl
 | some j=>exact allF_take (Nat.lt_trans (prt_lt hp).1 h)

theorem dbl_take {l:List T80} {n k:Nat} (h:k < n):dbl (l.take n) k = dbl l k:=by
 simp only [dbl,getD_take h,fd_take_take (Nat.le_of_lt h),anc_take h]

theorem mis_take {l:List T80} {n k:Nat} (h:k < n):mis (l.take n) k = mis l k:=by
 have:misF (l.take n) k = misF l k:=by
  funext f
  simp only [misF,fd_take_take (Nat.le_of_lt h)]
 simp only [mis,par,prt_take h,getD_take h,this]

theorem bs_take {l:List T80} {n:Nat} {v:List Nat} (h:∀ k ∈ v,k < n):bs (l.take n) v = bs l v:=flatMap_same fun k hk=>by rw [getD_take (h k hk)]

theorem upP_take {l:List T80} {n k:Nat} (h:k < n):upP (l.take n) k = upP l k:=by
 unfold upP
 rw [prt_take h]
 cases hp:prt l k with
 | none=>rfl
 | some j=>exact up_take l n j (Nat.lt_trans (prt_lt hp).1 h)

theorem uns_take {l:List T80} {n k:Nat} (h:k < n):uns (l.take n) k = uns l k:=by
 have h1:absF (l.take n) k = absF l k:=by
  funext f
  simp only [absF,fd_take_take (Nat.le_of_lt h)]
  cases hf:fd (l.take k) f.f1 with
  | none=>rfl
  | some j =>
   have:=(fd_take.1 hf).2
   simp only [getD_take (show j < n by omega)]
 have h2:ownBad (l.take n) k = ownBad l k:=by
  funext b
  simp only [ownBad,bnd,upP_take h,bs_take (v:=upP l k) fun j hj=>Nat.lt_trans (upP_le l k j hj) h]
 have h3:lineBad (l.take n) k = lineBad l k:=by
  funext b
  simp only [lineBad,bnd,up_take l n k h,bs_take (v:=up l k) fun j hj=>Nat.lt_of_le_of_lt (up_le l k j hj) h]
 simp only [uns,getD_take h,h1,h2,h3,up_take l n k h,bs_take (v:=up l k) fun j hj=>Nat.lt_of_le_of_lt (up_le l k j hj) h]

theorem un_take {l:List T80} {n k:Nat} (h:k < n) (v:List Nat):un v (l.take n) k = un v l k ∧ pn v (l.take n) k = pn v l k:=by
 have h1:wd v (l.take n) k = wd v l k:=by
  funext f
  simp only [wd,typ,fd_take_take (Nat.le_of_lt h)]
 have h2:pw v (l.take n) k = pw v l k:=by
  funext f
  simp only [pw,typ,fd_take_take (Nat.le_of_lt h)]
 exact ⟨by simp only [un,base,prt_take h,getD_take h,h1],by simp only [pn,baseP,prt_take h,getD_take h,h2]⟩

theorem us_take {l:List T80} {n:Nat}:∀ {k:Nat},k ≤ n → us (l.take n) k = us l k ∧ ps (l.take n) k = ps l k
 | 0,_=>⟨rfl,rfl⟩
 | k + 1,h=>by
  obtain ⟨h1,h2⟩:=us_take (l:=l) (n:=n) (k:=k) (by omega)
  exact ⟨by simp only [us,h1,(un_take (l:=l) (show k < n by omega) _).1],by simp only [ps,h2,(un_take (l:=l) (show k < n by omega) _).2]⟩

theorem errAt_take {l:List T80} {n k:Nat} (h:k < n):errAt (l.take n) k = errAt l k:=by
 obtain ⟨h1,h2⟩:=us_take (l:=l) (n:=n) (k:=k) (by omega)
 have hl:lim (l.take n) k = lim l k:=by simp only [lim,getD_take h,h1,h2,(un_take (l:=l) h _).1,(un_take (l:=l) h _).2]
 simp only [errAt,getD_take h,dbl_take h,mis_take h,uns_take h,hl]

/-! ### What is wrong at a type -/

def Gs (l:List T80):Prop:=∀ t ∈ l,G80 t
theorem Gs.take {l:List T80} (h:Gs l) (n:Nat):Gs (l.take n):=fun t ht=>h t (List.mem_of_mem_take ht)

theorem f37_eq (l:List T80) (hs:Small l) (hg:Gs l) (k:Nat) (hk:l.length = k + 1) (hR:Right l k):f88 l (k:Int) = some (errAt l k):=by
 have g1:(0:Int) ≤ k ∧ (k:Int) < (l.length:Int):=⟨by omega,by omega⟩
 have hkl:k < l.length:=by omega
 unfold f88 errAt
 rw [if_pos g1,Int.toNat_natCast,f66_eq _ (hg _ (getD_mem hkl)),f67_eq l hs k hkl hR.ahead hR.few,f68_eq l hs k hkl]
 simp only [Option.bind_some]
 cases h1:formedB (l.getD k default) with
 | false=>rfl
 | true =>
  cases h2:dbl l k with
  | true=>rfl
  | false =>
   cases h3:mis l k with
   | true=>rfl
   | false =>
    rw [f69_eq l hs k hkl hR.ahead hR.named h3]
    simp only [Option.bind_some]
    cases h4:uns l k with
    | true=>rfl
    | false =>
     have hN:Named l l.length:=fun j hj=>by
      by_cases he:j = k
      ·subst he; exact formed_named h1
      ·exact hR.named j (by omega)
     have hF:∀ j,j < l.length → Fit l j:=fun j hj=>by
      by_cases he:j = k
      ·subst he; exact ⟨formed_many h1,h3⟩
      ·exact hR.fit j (by omega)
     by_cases h20:(l.getD k default).f3.length ≤ 20
     case neg =>
      obtain ⟨r,hr⟩:=f70_some l hs k hk hR.few hN hF (fun j hj=>hR.low j (by omega))
      have hl:lim l k = true:=by
       unfold lim
       rw [decide_eq_true (show (((l.getD k default).f3).length:Int) > 20 by omega),Bool.or_true]
       rfl
      rw [hr,hl]
      simp only [Option.bind_some,if_pos g1,decide_eq_true (show (((l.getD k default).f3).length:Int) > 20 by omega),Bool.not_true,cond_false]
      cases decide ((k:Int) ≥ 30) <;> rfl
     have h40:Few l l.length:=fun j hj=>by
      by_cases he:j = k
      ·subst he; omega
      ·exact hR.few j (by omega)
     rw [f70_eq l hs h40 hN hF (fun j hj=>hR.low j (by omega)),hk]
     have e1:(ints (us l (k + 1))).getD k default = ((un (us l k) l k:Nat):Int):=by rw [intsD (by rw [us_length]; omega),us_at l (k + 1) k (by omega)]
     have e2:(ints (ps l (k + 1))).getD k default = ((pn (ps l k) l k:Nat):Int):=by rw [intsD (by rw [ps_length]; omega),ps_at l (k + 1) k (by omega)]
     have g2:(0:Int) ≤ k ∧ (k:Int) < (((k + 1:Nat)):Int):=⟨by omega,by omega⟩
     have g3:(0:Int) ≤ k ∧ (k:Int) < ((ints (us l (k + 1))).length:Int):=⟨by omega,by rw [ints_length,us_length]; omega⟩
     have g4:(0:Int) ≤ k ∧ (k:Int) < ((ints (ps l (k + 1))).length:Int):=⟨by omega,by rw [ints_length,ps_length]; omega⟩
     have d1:decide (((un (us l k) l k:Nat):Int) > 100000) = decide (un (us l k) l k > 100000):=by rw [Bool.eq_iff_iff,decide_eq_true_eq,decide_eq_true_eq]; omega
     have d2:decide (((pn (ps l k) l k:Nat):Int) > 100000) = decide (pn (ps l k) l k > 100000):=by rw [Bool.eq_iff_iff,decide_eq_true_eq,decide_eq_true_eq]; omega
     simp only [Option.bind_some,if_pos g2,if_pos g3,if_pos g4,e1,e2,cond_or,d1,d2,Bool.not_true,cond_false]
     rw [show (((decide ((k:Int) ≥ 30) || decide ((((l.getD k default).f3).length:Int) > 20)) || decide (un (us l k) l k > 100000)) || decide (pn (ps l k) l k > 100000)) = lim l k from rfl]
     cases lim l k <;> rfl

def chkF (l:List T80):List T80 → Nat → Out (List UInt8 × Int) Unit
 | [],_=>.go ()
 | x :: r,i=>cond (errAt l i != 0) (.ret (x.f0,errAt l i)) (chkF l r (i + 1))

def chk (l:List T80):List UInt8 × Int:=match chkF l l 0 with | .ret v=>v | .go _=>([],0)

theorem chkF_right {l:List T80}:∀ {r:List T80} {i:Nat},(match chkF l r i with | .ret v=>v | .go _=>(([]:List UInt8),(0:Int))).2 = 0 → ∀ k,i ≤ k → k < i + r.length → errAt l k = 0
 | [],i,_,k,h1,h2=>by simp at h2; omega
 | x :: r,i,h,k,h1,h2=>by
  simp only [chkF] at h
  cases hb:errAt l i != 0 with
  | true=>rw [hb] at h; simp only [cond_true] at h; rw [h] at hb; cases hb
  | false =>
   rw [hb,cond_false] at h
   by_cases he:k = i
   ·subst he; simpa using hb
   ·exact chkF_right h k (by omega) (by simp only [List.length_cons] at h2; omega)

theorem chk_right {l:List T80} (h:(chk l).2 = 0):Right l l.length:=fun k hk=>chkF_right (l:=l) (r:=l) (i:=0) h k (Nat.zero_le _) (by omega)

theorem f14_eq (l:List T80) (hs:Small l) (hg:Gs l):f50 l = some (chk l):=by
 have key:=iter_listP l hs.max (fun i=>f50_b1 l i) (fun r i=>chkF l r i) (fun i=>Right l i) ?_ ?_ (fun k hk=>absurd hk (Nat.not_lt_zero _))
 ·unfold f50 chk
  rw [key]
  simp only [Option.bind_some]
  cases chkF l l 0 <;> rfl
 ·intro k x r hR hk hx _
  have g1:(0:Int) ≤ k ∧ (k:Int) < (l.length:Int):=⟨by omega,by omega⟩
  have hw:=w64_succ hk hs.max
  have hT:(l.take (k + 1)).length = k + 1:=by simp only [List.length_take]; omega
  have hRT:Right (l.take (k + 1)) k:=fun j hj=>by rw [errAt_take (by omega)]; exact hR j hj
  have h37:=f37_eq (l.take (k + 1)) (hs.take _) (hg.take _) k hT hRT
  rw [errAt_take (Nat.lt_succ_self k)] at h37
  simp only [f50_b1,Int.toNat_natCast,hx,g1,and_self,if_true,decide_true,cond_true]
  rw [hw,if_pos ⟨by omega,by omega⟩,List.drop_zero,Int.toNat_natCast,h37]
  simp only [Option.bind_some,chkF]
  cases hb:errAt l k != 0 with
  | true=>exact .inl rfl
  | false =>
   refine .inr ⟨rfl,fun j hj=>?_,rfl⟩
   by_cases he:j = k
   ·subst he; simpa using hb
   ·exact hR j (by omega)
 ·intro _
  simp [f50_b1,chkF]

end Go.Sx.top

namespace Go.Sx.top
open Go Go.Sx

def askd (l:List T80) (s:List UInt8):Int × Int:=cond ((chk l).2 != 0) (0,2) (match fd l s with | some i=>((i:Int),0) | none=>(0,5))

theorem f43_eq (l:List T80) (hs:Small l) (hg:Gs l) (s:List UInt8):f24 l s = some (askd l s):=by
 unfold f24 askd
 rw [f14_eq l hs hg,Option.bind_some,f45_eq l hs.max]
 simp only [Option.bind_some,idx_neg]
 cases (chk l).2 != 0 with
 | true=>rfl
 | false=>cases fd l s <;> rfl

theorem askd_cases (l:List T80) (s:List UInt8):((chk l).2 ≠ 0 ∧ askd l s = (0,2)) ∨ (Right l l.length ∧ (chk l).2 = 0 ∧ fd l s = none ∧ askd l s = (0,5)) ∨ ∃ i,Right l l.length ∧ (chk l).2 = 0 ∧ fd l s = some i ∧ askd l s = ((i:Int),0):=by
 unfold askd
 by_cases h:(chk l).2 = 0
 ·rw [show ((chk l).2 != 0) = false by simp [h],cond_false]
  cases hf:fd l s with
  | none=>exact .inr (.inl ⟨chk_right h,h,rfl,rfl⟩)
  | some i=>exact .inr (.inr ⟨i,chk_right h,h,rfl,rfl⟩)
 ·exact .inl ⟨h,by rw [show ((chk l).2 != 0) = true by simpa using h]; rfl⟩

end Go.Sx.top

namespace Go.Sx.top
open Go Go.Sx

theorem f54_eq (l:List T80) (hs:Small l) (hR:Right l l.length) (i:Nat) (hi:i < l.length):f27 l (i:Int) = some ((un (us l i) l i:Nat):Int):=by
 have hlen:=hs.len
 have hw:=w64_succ hi hs.max
 have hT:(l.take (i + 1)).length = i + 1:=by simp only [List.length_take]; omega
 have hRT:Right (l.take (i + 1)) (i + 1):=fun j hj=>by rw [errAt_take hj]; exact hR j (by omega)
 unfold f27
 rw [hw,if_pos ⟨by omega,by omega⟩,List.drop_zero,Int.toNat_natCast,f70_eq (l.take (i + 1)) (hs.take _) (by rw [hT]; exact hRT.few) (by rw [hT]; exact hRT.named) (by rw [hT]; exact hRT.fit) (by rw [hT]; exact fun k hk=>hRT.low k (by omega)),hT]
 simp only [Option.bind_some]
 rw [(us_take (l:=l) (n:=i + 1) (k:=i + 1) (Nat.le_refl _)).1,if_pos ⟨by omega,by rw [ints_length,us_length]; omega⟩,Int.toNat_natCast,intsD (by rw [us_length]; omega),us_at l (i + 1) i (by omega)]

/-- How many units an element of a field has. -/
def oneG (l:List T80) (f:T86):Nat:=if f.f1 == ([]:List UInt8) then 1 else (us l l.length).getD ((fd l f.f1).getD 0) 0
/-- A field of a table: its number and its type. -/
def FOk (l:List T80) (f:T86):Prop:=f.f2 ≤ 100 ∧ (f.f1 ≠ [] → ∃ j,fd l f.f1 = some j)

theorem us_low {l:List T80} (hR:Right l l.length):Low (us l l.length):=low_us fun k hk=>(hR.low k hk).1

theorem oneG_le {l:List T80} (hR:Right l l.length) (f:T86):oneG l f ≤ 100000:=by
 unfold oneG
 split
 ·omega
 ·exact us_low hR _

theorem f47_eq (l:List T80) (hs:Small l) (hR:Right l l.length) (f:T86) (h:FOk l f):f56 l f = some ((oneG l f:Nat):Int):=by
 unfold f56 oneG
 by_cases hn:f.f1 = []
 ·rw [show (f.f1 == ([]:List UInt8)) = true from beq_iff_eq.2 hn]; rfl
 ·obtain ⟨j,hj⟩:=h.2 hn
  have hjl:=(fd_some hj).1
  rw [show (f.f1 == ([]:List UInt8)) = false from beq_eq_false_iff_ne.2 hn,cond_false,f45_eq l hs.max,hj,if_neg (by decide)]
  simp only [Option.bind_some,idx,f54_eq l hs hR j hjl,Option.getD_some]
  rw [us_at l l.length j hjl]

theorem allF_length (l:List T80) (hs:Small l) (hF:Few l l.length) (i:Nat) (hi:i < l.length):(allF l i).length ≤ 1600:=by
 have h1:=up_length l i
 have hl:=hs.len
 have key:∀ us:List Nat,(∀ u ∈ us,u < l.length) → (us.flatMap fun k=>(l.getD k default).f3).length ≤ 40 * us.length:=by
  intro us
  induction us with
  | nil=>simp
  | cons u us ih =>
   intro hu
   have ih:=ih fun x hx=>hu x (List.mem_cons_of_mem _ hx)
   have:=hF u (hu u (List.mem_cons_self ..))
   simp only [List.flatMap_cons,List.length_append,List.length_cons]
   omega
 have:=key (up l i).reverse fun u hu=>by have:=up_le l i u (List.mem_reverse.1 hu); omega
 simp only [List.length_reverse] at this
 unfold allF
 omega

end Go.Sx.top

namespace Go.Sx.top
open Go Go.Sx

/-- The calls for the elements of fields. -/
def fpart (rec:Nat → Nat → List T37) (l:List T80) (off:Nat):List T86 → Nat → List T37
 | [],_=>[]
 | f :: r,a=>(cond (f.f1 == ([]:List UInt8)) [] ((List.range (tm f)).flatMap fun q=>rec ((fd l f.f1).getD 0) (off + a + q * oneG l f))) ++ fpart rec l off r (a + tm f * oneG l f)

def finF (l:List T80):Nat → Nat → Nat → List T37
 | 0,_,_=>[]
 | n + 1,k,off=>cond ((l.getD k default).f5 == ([]:List UInt8)) [] [T37.mk (l.getD k default).f5 (off:Int)] ++
   (fpart (finF l n) l off (l.getD k default).f3 (base (us l k) l k) ++ (match prt l k with | some p=>finF l n p off | none=>[]))

theorem typ_lt {l:List T80} (hR:Right l l.length) {k:Nat} (hk:k < l.length) {f:T86} (hf:f ∈ (l.getD k default).f3) (hn:f.f1 ≠ []):∃ j,fd l f.f1 = some j ∧ j < k:=by
 obtain ⟨j,hj⟩:=(mis_parts (hR.fit k hk).2).2 f hf hn
 exact ⟨j,(fd_take.1 hj).1,(fd_take.1 hj).2⟩

theorem flatMap_len {A B:Type} {g:A → List B} {c:Nat}:∀ {v:List A},(∀ x ∈ v,(g x).length ≤ c) → (v.flatMap g).length ≤ v.length * c
 | [],_=>by simp
 | x :: v,h=>by
  have h1:=h x (List.mem_cons_self ..)
  have h2:=flatMap_len (v:=v) fun y hy=>h y (List.mem_cons_of_mem _ hy)
  simp only [List.flatMap_cons,List.length_append,List.length_cons,Nat.succ_mul]
  omega

theorem finF_len (l:List T80) (hR:Right l l.length):∀ (n k off:Nat),k < l.length → (finF l n k off).length ≤ 1 + pn (ps l k) l k
 | 0,_,_,_=>Nat.zero_le _
 | n + 1,k,off,hk=>by
  have hF:=hR.fit k hk
  have hpart:∀ (fs:List T86) (a:Nat),(∀ f ∈ fs,f ∈ (l.getD k default).f3) → (fpart (finF l n) l off fs a).length ≤ (fs.map (pw (ps l k) l k)).sum:=by
   intro fs
   induction fs with
   | nil=>intro _ _; exact Nat.zero_le _
   | cons f fs ih =>
    intro a hfs
    have h1:=ih (a + tm f * oneG l f) fun x hx=>hfs x (List.mem_cons_of_mem _ hx)
    simp only [fpart,List.length_append,List.map_cons,List.sum_cons]
    have h2:(cond (f.f1 == ([]:List UInt8)) [] ((List.range (tm f)).flatMap fun q=>finF l n ((fd l f.f1).getD 0) (off + a + q * oneG l f))).length ≤ pw (ps l k) l k f:=by
     by_cases hn:f.f1 = []
     ·rw [show (f.f1 == ([]:List UInt8)) = true from beq_iff_eq.2 hn]; exact Nat.zero_le _
     ·obtain ⟨ht,htk⟩:=typ_of hF.2 (hfs f (List.mem_cons_self ..)) hn
      rw [show (f.f1 == ([]:List UInt8)) = false from beq_eq_false_iff_ne.2 hn,cond_false,(fd_take.1 ht).1,Option.getD_some]
      have h3:=flatMap_len (v:=List.range (tm f)) (g:=fun q=>finF l n (typ l k f) (off + a + q * oneG l f)) (c:=1 + pn (ps l (typ l k f)) l (typ l k f)) fun q _=>finF_len l hR n _ _ (by omega)
      rw [List.length_range] at h3
      unfold pw
      rw [show (f.f1 == ([]:List UInt8)) = false from beq_eq_false_iff_ne.2 hn,if_neg (by decide),ps_at l k _ htk]
      exact h3
    omega
  have h1:=hpart (l.getD k default).f3 (base (us l k) l k) fun _ h=>h
  have h2:(match prt l k with | some p=>finF l n p off | none=>[]).length ≤ baseP (ps l k) l k:=by
   unfold baseP
   cases hp:prt l k with
   | none=>exact Nat.le_refl _
   | some p =>
    have hlt:=prt_lt hp
    have:=finF_len l hR n p off hlt.2
    simp only
    rw [ps_at l k p hlt.1]
    exact this
  have h3:(cond ((l.getD k default).f5 == ([]:List UInt8)) [] [T37.mk (l.getD k default).f5 (off:Int)]).length ≤ 1:=by
   cases (l.getD k default).f5 == ([]:List UInt8) <;> simp
  simp only [finF,List.length_append]
  unfold pn
  omega

theorem finF_len2 {l:List T80} (hR:Right l l.length) (n k off:Nat) (hk:k < l.length):(finF l n k off).length ≤ 100001:=by
 have:=finF_len l hR n k off hk
 have:=(hR.low k hk).2
 omega

/-! ### The program's -/

theorem off_id {n:Int} (h0:0 ≤ n) (h1:n ≤ 9000000000000000):w64 n = n:=w64_id (by omega) (by omega)

theorem oneG_at {l:List T80} {k:Nat} (hk:k < l.length) {f:T86} (hm:mis l k = false) (hf:f ∈ (l.getD k default).f3):wd (us l k) l k f = tm f * oneG l f:=by
 unfold wd oneG
 by_cases hn:f.f1 = []
 ·rw [show (f.f1 == ([]:List UInt8)) = true from beq_iff_eq.2 hn,if_pos rfl,if_pos rfl]
 ·obtain ⟨ht,htk⟩:=typ_of hm hf hn
  rw [show (f.f1 == ([]:List UInt8)) = false from beq_eq_false_iff_ne.2 hn,if_neg (by decide),if_neg (by decide),(fd_take.1 ht).1,Option.getD_some,us_at l k _ htk,us_at l l.length _ (by omega)]

theorem f64_inner (l:List T80) (hs:Small l) (hR:Right l l.length) (n:Nat) (rc:List T80 → Int → Int → Option (List T37)) (k off a i:Nat) (hk:k < l.length) (hi:i < ((l.getD k default).f3).length) (j:Nat) (hj:fd l (((l.getD k default).f3).getD i default).f1 = some j) (hn:(((l.getD k default).f3).getD i default).f1 ≠ [])
  (ih:∀ q:Nat,q ≤ 100 → rc l (j:Int) ((off + a + q * oneG l (((l.getD k default).f3).getD i default):Nat):Int) = some (finF l n j (off + a + q * oneG l (((l.getD k default).f3).getD i default)))) (hoff:off ≤ 1000000000000) (ha:a ≤ 1000000000000) (acc:List T37) (hacc:acc.length ≤ 1000000000) :
  iter (fun s=>f34_b1 rc l (k:Int) (off:Int) (a:Int) (i:Int) ((oneG l (((l.getD k default).f3).getD i default):Nat):Int) s.1 s.2) (acc,(0:Int)) =
   some (.go (acc ++ (List.range (tm (((l.getD k default).f3).getD i default))).flatMap fun q=>finF l n j (off + a + q * oneG l (((l.getD k default).f3).getD i default)))):=by
 have hjl:=(fd_some hj).1
 have htm:=tm_le ((hR.fit k hk).1 _ (getD_mem hi))
 have hone:=oneG_le hR (((l.getD k default).f3).getD i default)
 generalize hf:((l.getD k default).f3).getD i default = f at *
 have hmx:=maxLen_big
 refine iter_listI (List.range (tm f)) (by rw [List.length_range]; omega) (fun s=>f34_b1 rc l (k:Int) (off:Int) (a:Int) (i:Int) ((oneG l f:Nat):Int) s.1 s.2)
  (fun r _ b=>(Out.go (b ++ r.flatMap fun q=>finF l n j (off + a + q * oneG l f)):Out (List T37) (List T37))) (fun q b=>b.length ≤ 1000000000 + q * 100001) ?_ ?_ acc (by omega)
 ·intro q x r b hI hq hx _
  right
  rw [List.length_range] at hq
  have hxq:x = q:=by
   rw [List.getD_eq_getElem?_getD,List.getElem?_range hq] at hx
   exact hx.symm
  subst hxq
  have hlen:=finF_len2 hR n j (off + a + x * oneG l f) hjl
  have hmul:x * oneG l f ≤ 100 * 100000:=Nat.mul_le_mul (by omega) hone
  refine ⟨b ++ finF l n j (off + a + x * oneG l f),?_,by simp only [List.length_append]; omega,by simp⟩
  simp only [f34_b1,Int.toNat_natCast,hf]
  rw [show (f.f1 == ([]:List UInt8)) = false from beq_eq_false_iff_ne.2 hn]
  simp only [Bool.not_false,cond_true,f46_eq,Option.bind_some]
  rw [show decide ((x:Int) < ((tm f:Nat):Int)) = true from decide_eq_true (by omega),cond_true,f45_eq l hs.max,hj]
  have e1:(x:Int) * ((oneG l f:Nat):Int) = ((x * oneG l f:Nat):Int):=by simp
  have e2:(off:Int) + (a:Int) + ((x * oneG l f:Nat):Int) = ((off + a + x * oneG l f:Nat):Int):=by omega
  simp only [Option.bind_some,idx]
  rw [e1,off_id (n:=((x * oneG l f:Nat):Int)) (by omega) (by omega),off_id (n:=(off:Int) + (a:Int)) (by omega) (by omega),off_id (n:=(off:Int) + (a:Int) + ((x * oneG l f:Nat):Int)) (by omega) (by omega),e2,ih x (by omega)]
  simp only [Option.bind_some]
  rw [if_pos (by omega)]
 ·intro b _
  simp only [f34_b1,Int.toNat_natCast,hf,List.length_range]
  rw [show (f.f1 == ([]:List UInt8)) = false from beq_eq_false_iff_ne.2 hn]
  simp [f46_eq]

theorem f64_inner_nil (l:List T80) (rc:List T80 → Int → Int → Option (List T37)) (k off a i:Nat) (one:Int) (hn:(((l.getD k default).f3).getD i default).f1 = []) (acc:List T37) :
  iter (fun s=>f34_b1 rc l (k:Int) off a (i:Int) one s.1 s.2) (acc,(0:Int)) = some (.go acc):=by
 refine iter_inr ?_
 simp only [f34_b1,Int.toNat_natCast]
 rw [show ((((l.getD k default).f3).getD i default).f1 == ([]:List UInt8)) = true from beq_iff_eq.2 hn]
 rfl

theorem f64_fields (l:List T80) (hs:Small l) (hR:Right l l.length) (n:Nat) (rc:List T80 → Int → Int → Option (List T37)) (k off:Nat) (hk:k < l.length) (hoff:off + k * 1000000000 ≤ 1000000000000)
  (ih:∀ (j o:Nat),j < k → o + j * 1000000000 ≤ 1000000000000 → rc l (j:Int) (o:Int) = some (finF l n j o)) (acc:List T37) (hacc:acc.length ≤ 1) (b0:Nat) (hb0:b0 ≤ 100000) :
  iter (fun s=>f34_b2 rc l (k:Int) (off:Int) s.1 s.2.1 s.2.2) (acc,(b0:Int),(0:Int)) = some (.go (acc ++ fpart (finF l n) l off (l.getD k default).f3 b0)):=by
 have h40:=hR.few k hk
 have hmx:=maxLen_big
 have key:=iter_listG (l.getD k default).f3 (by omega) (fun s=>f34_b2 rc l (k:Int) (off:Int) s.1 s.2.1 s.2.2) (fun (b:List T37 × Nat) i=>(b.1,(b.2:Int),i))
  (fun r _ b=>(Out.go (b.1 ++ fpart (finF l n) l off r b.2):Out (List T37) (List T37))) (fun i b=>b.1.length ≤ 1 + i * 10000100 ∧ b.2 ≤ 100000 + i * 10000000) ?_ ?_ (acc,b0) ⟨by simpa using hacc,by simpa using hb0⟩
 ·exact key
 ·rintro i f r ⟨b,a⟩ ⟨hb,ha⟩ hi hf _
  simp only at hb ha
  right
  have g1:(0:Int) ≤ i ∧ (i:Int) < (((l.getD k default).f3).length:Int):=⟨by omega,by omega⟩
  have hfm:=getD_mem hi
  rw [hf] at hfm
  have hF:=hR.fit k hk
  have htm:=tm_le (hF.1 f hfm)
  have hone:=oneG_le hR f
  have hw:tm f * oneG l f ≤ 100 * 100000:=Nat.mul_le_mul htm hone
  have hfo:FOk l f:=⟨hF.1 f hfm,fun hn=>by obtain ⟨j,hj,_⟩:=typ_lt hR hk hfm hn; exact ⟨j,hj⟩⟩
  have hin:iter (fun s=>f34_b1 rc l (k:Int) (off:Int) (a:Int) (i:Int) ((oneG l f:Nat):Int) s.1 s.2) (b,(0:Int)) =
    some (.go (b ++ cond (f.f1 == ([]:List UInt8)) [] ((List.range (tm f)).flatMap fun q=>finF l n ((fd l f.f1).getD 0) (off + a + q * oneG l f)))):=by
   by_cases hn:f.f1 = []
   ·have:=f64_inner_nil l rc k off a i ((oneG l f:Nat):Int) (by rw [hf]; exact hn) b
    rw [this,show (f.f1 == ([]:List UInt8)) = true from beq_iff_eq.2 hn]
    simp
   ·obtain ⟨j,hj,hjk⟩:=typ_lt hR hk hfm hn
    have:=f64_inner l hs hR n rc k off a i hk hi j (by rw [hf]; exact hj) (by rw [hf]; exact hn) (fun q hq=>by
     rw [hf]
     have h1:q * oneG l f ≤ 100 * 100000:=Nat.mul_le_mul hq hone
     have h2:j * 1000000000 + 1000000000 ≤ k * 1000000000:=by omega
     exact ih j _ hjk (by omega)) (by omega) (by omega) b (by omega)
    rw [hf] at this
    rw [this,show (f.f1 == ([]:List UInt8)) = false from beq_eq_false_iff_ne.2 hn,hj]
    rfl
  have hlen:(cond (f.f1 == ([]:List UInt8)) [] ((List.range (tm f)).flatMap fun q=>finF l n ((fd l f.f1).getD 0) (off + a + q * oneG l f))).length ≤ 10000100:=by
   by_cases hn:f.f1 = []
   ·rw [show (f.f1 == ([]:List UInt8)) = true from beq_iff_eq.2 hn]; simp
   ·obtain ⟨j,hj,hjk⟩:=typ_lt hR hk hfm hn
    rw [show (f.f1 == ([]:List UInt8)) = false from beq_eq_false_iff_ne.2 hn,hj,cond_false,Option.getD_some]
    have h3:=flatMap_len (v:=List.range (tm f)) (g:=fun q=>finF l n j (off + a + q * oneG l f)) (c:=100001) fun q _=>finF_len2 hR n j _ (by omega)
    rw [List.length_range] at h3
    have:tm f * 100001 ≤ 100 * 100001:=Nat.mul_le_mul_right _ htm
    omega
  refine ⟨(b ++ cond (f.f1 == ([]:List UInt8)) [] ((List.range (tm f)).flatMap fun q=>finF l n ((fd l f.f1).getD 0) (off + a + q * oneG l f)),a + tm f * oneG l f),?_,⟨by simp only [List.length_append]; omega,by simp only; omega⟩,by simp only [fpart,List.append_assoc]⟩
  simp only [f34_b2,Int.toNat_natCast,hf,g1,and_self,if_true,decide_true,cond_true,f47_eq l hs hR f hfo,Option.bind_some]
  rw [hin]
  simp only [Option.bind_some,f46_eq]
  have e1:((tm f:Nat):Int) * ((oneG l f:Nat):Int) = ((tm f * oneG l f:Nat):Int):=by simp
  rw [e1,off_id (n:=((tm f * oneG l f:Nat):Int)) (by omega) (by omega),off_id (n:=(a:Int) + ((tm f * oneG l f:Nat):Int)) (by omega) (by omega)]
  simp
 ·rintro ⟨b,a⟩ _
  simp [f34_b2,fpart]

theorem fpart_len (l:List T80) (hs:Small l) (hR:Right l l.length) (n k off a:Nat) (hk:k < l.length):(fpart (finF l n) l off (l.getD k default).f3 a).length ≤ 500000000:=by
 have h40:=hR.few k hk
 have hpart:∀ (fs:List T86) (a:Nat),(∀ f ∈ fs,f ∈ (l.getD k default).f3) → (fpart (finF l n) l off fs a).length ≤ fs.length * 10000100:=by
  intro fs
  induction fs with
  | nil=>intro _ _; exact Nat.zero_le _
  | cons f fs ih =>
   intro a hfs
   have h1:=ih (a + tm f * oneG l f) fun x hx=>hfs x (List.mem_cons_of_mem _ hx)
   have hfm:=hfs f (List.mem_cons_self ..)
   have htm:=tm_le ((hR.fit k hk).1 f hfm)
   have h2:(cond (f.f1 == ([]:List UInt8)) [] ((List.range (tm f)).flatMap fun q=>finF l n ((fd l f.f1).getD 0) (off + a + q * oneG l f))).length ≤ 10000100:=by
    by_cases hn:f.f1 = []
    ·rw [show (f.f1 == ([]:List UInt8)) = true from beq_iff_eq.2 hn]; simp
    ·obtain ⟨j,hj,hjk⟩:=typ_lt hR hk hfm hn
     rw [show (f.f1 == ([]:List UInt8)) = false from beq_eq_false_iff_ne.2 hn,hj,cond_false,Option.getD_some]
     have h3:=flatMap_len (v:=List.range (tm f)) (g:=fun q=>finF l n j (off + a + q * oneG l f)) (c:=100001) fun q _=>finF_len2 hR n j _ (by omega)
     rw [List.length_range] at h3
     have:tm f * 100001 ≤ 100 * 100001:=Nat.mul_le_mul_right _ htm
     omega
   simp only [fpart,List.length_append,List.length_cons]
   omega
 have:=hpart (l.getD k default).f3 a fun _ h=>h
 omega

theorem base_le {l:List T80} (hR:Right l l.length) {k:Nat} (hk:k < l.length):base (us l k) l k ≤ 100000:=by
 have h:=(hR.low k hk).1
 unfold un at h
 omega

theorem f64R_eq (l:List T80) (hs:Small l) (hR:Right l l.length):∀ (n k off:Nat),k < n → k < l.length → off + k * 1000000000 ≤ 1000000000000 → f34R n l (k:Int) (off:Int) = some (finF l n k off):=by
 intro n
 induction n with
 | zero=>intro k off h; omega
 | succ n ihn =>
  intro k off hkn hk hoff
  have hlen:=hs.len
  have ih:∀ (j o:Nat),j < k → o + j * 1000000000 ≤ 1000000000000 → f34R n l (j:Int) (o:Int) = some (finF l n j o):=fun j o hj ho=>ihn j o (by omega) (by omega) ho
  have g1:(0:Int) ≤ k ∧ (k:Int) < (l.length:Int):=⟨by omega,by omega⟩
  have hb:=base_le hR hk
  have hj4:∀ acc:List T37,acc.length ≤ 1 → f34_j4 (f34R n) l (k:Int) (off:Int) acc ((base (us l k) l k:Nat):Int) = some (acc ++ (fpart (finF l n) l off (l.getD k default).f3 (base (us l k) l k) ++ (match prt l k with | some p=>finF l n p off | none=>[]))):=fun acc hacc=>by
   unfold f34_j4
   rw [f64_fields l hs hR n (f34R n) k off hk hoff ih acc hacc _ hb]
   simp only [Option.bind_some,Int.toNat_natCast,f34_j3]
   have hN:Named l k:=fun j hj=>hR.named j (by omega)
   by_cases hp:par l k = []
   ·rw [show ((l.getD k default).f1 == ([]:List UInt8)) = true from beq_iff_eq.2 hp,prt_nil hN hp]
    simp
   ·obtain ⟨p,hpp⟩:=prt_of (hR.fit k hk).2 hp
    have hlt:=prt_lt hpp
    have hl2:=finF_len2 hR n p off hlt.2
    have hl3:=fpart_len l hs hR n k off (base (us l k) l k) hk
    rw [show ((l.getD k default).f1 == ([]:List UInt8)) = false from beq_eq_false_iff_ne.2 hp,hpp,f45_eq l hs.max,show fd l (l.getD k default).f1 = some p from (fd_take.1 hpp).1]
    simp only [Bool.not_false,cond_true,Option.bind_some,idx]
    rw [ih p off hlt.1 (Nat.le_trans (Nat.add_le_add_left (Nat.mul_le_mul_right _ (Nat.le_of_lt hlt.1)) _) hoff)]
    simp only [Option.bind_some]
    rw [if_pos (by simp only [List.length_append]; omega),List.append_assoc]
  have hj5:∀ acc:List T37,acc.length ≤ 1 → f34_j5 (f34R n) l (k:Int) (off:Int) acc = some (acc ++ (fpart (finF l n) l off (l.getD k default).f3 (base (us l k) l k) ++ (match prt l k with | some p=>finF l n p off | none=>[]))):=fun acc hacc=>by
   have hN:Named l k:=fun j hj=>hR.named j (by omega)
   rw [← hj4 acc hacc]
   unfold f34_j5
   rw [Int.toNat_natCast]
   by_cases hp:par l k = []
   ·rw [show ((l.getD k default).f1 == ([]:List UInt8)) = true from beq_iff_eq.2 hp]
    unfold base
    rw [prt_nil hN hp]
    rfl
   ·obtain ⟨p,hpp⟩:=prt_of (hR.fit k hk).2 hp
    have hlt:=prt_lt hpp
    rw [show ((l.getD k default).f1 == ([]:List UInt8)) = false from beq_eq_false_iff_ne.2 hp,f45_eq l hs.max,show fd l (l.getD k default).f1 = some p from (fd_take.1 hpp).1]
    simp only [Bool.not_false,cond_true,Option.bind_some,idx,f54_eq l hs hR p hlt.2]
    unfold base
    rw [hpp]
    simp only
    rw [us_at l k p hlt.1]
  show f34F (f34R n) l (k:Int) (off:Int) = _
  unfold f34F
  rw [if_pos g1,Int.toNat_natCast]
  simp only [finF]
  cases hf5:(l.getD k default).f5 == ([]:List UInt8) with
  | true=>rw [Bool.not_true,cond_false,hj5 [] (by simp)]; rfl
  | false=>rw [Bool.not_false,cond_true,if_pos (by simp),hj5 [T37.mk (l.getD k default).f5 (off:Int)] (by simp)]; rfl

theorem f64_eq (l:List T80) (hs:Small l) (hR:Right l l.length) (k:Nat) (hk:k < l.length):f34 l (k:Int) 0 = some (finF l 100 k 0):=by
 have hlen:=hs.len
 have:=f64R_eq l hs hR 100 k 0 (by omega) hk (by omega)
 unfold f34
 rw [← this]
 rfl

end Go.Sx.top

namespace Go.Sx.top
open Go Go.Sx

theorem f55_eq (v:List Int) (h:v.length ≤ maxLen) (x:Int):f30 v x = some (v.contains x):=by
 unfold f30 f55
 rw [index_eq v h (fun y=>some (x == y)) (fun y=>x == y) (fun _=>rfl) (fun i=>f55_b1 v x i) (fun i=>rfl)]
 have e:v.any (fun y=>x == y) = v.contains x:=by
  rw [Bool.eq_iff_iff]
  simp [List.any_eq_true,List.contains_iff_mem]
 rw [← e,← findFrom_any (fun y=>x == y) v 0]
 cases findFrom (fun y=>x == y) v 0 <;> rfl

theorem up_max (l:List T80) (hs:Small l) (i:Nat) (hi:i < l.length):(ints (up l i)).length ≤ maxLen:=by
 have:=up_length l i
 have:=hs.len
 have:=maxLen_big
 rw [ints_length]
 omega

theorem up_lt {l:List T80} {i:Nat} (hi:i < l.length):∀ j ∈ up l i,j < l.length:=fun j hj=>Nat.lt_of_le_of_lt (up_le l i j hj) hi

theorem up_trans (l:List T80):∀ (k:Nat),∀ i ∈ up l k,∀ j ∈ up l i,j ∈ up l k:=by
 intro k
 induction k using Nat.strongRecOn with
 | _ k ih =>
  intro i hi j hj
  by_cases he:i = k
  ·subst he; exact hj
  ·rw [up_eq,List.mem_cons] at hi
   rw [up_eq,List.mem_cons]
   rcases hi with hi | hi
   ·exact absurd hi he
   ·right
    split at hi
    ·cases hi
    ·rename_i hp
     rw [if_neg hp]
     cases hf:fd (l.take k) (par l k) with
     | none=>rw [hf] at hi; cases hi
     | some m =>
      rw [hf] at hi
      exact ih m (fd_take.1 hf).2 i hi j hj

theorem fst_isSome (b:List T107) (s:List UInt8):(fst b s).isSome = b.any fun x=>x.f0 == s:=by
 induction b with
 | nil=>rfl
 | cons x r ih =>
  rw [fst_cons,List.any_cons]
  cases x.f0 == s with
  | true=>rfl
  | false=>exact ih

theorem bnd_up {l:List T80} {k i:Nat} (h:i ∈ up l k) {s:List UInt8} (hb:(bnd l (up l i) s).isSome = true):(bnd l (up l k) s).isSome = true:=by
 unfold bnd at hb ⊢
 rw [fst_isSome,List.any_eq_true] at hb ⊢
 obtain ⟨x,hx,hxs⟩:=hb
 refine ⟨x,?_,hxs⟩
 unfold bs at hx ⊢
 rw [List.mem_flatMap] at hx ⊢
 obtain ⟨j,hj,hxj⟩:=hx
 exact ⟨j,up_trans l k i h j hj,hxj⟩

theorem ints_contains (v:List Nat) (i:Nat):(ints v).contains (i:Int) = v.contains i:=by
 rw [Bool.eq_iff_iff,List.contains_iff_mem,List.contains_iff_mem]
 simp only [ints,List.mem_map]
 constructor
 ·rintro ⟨k,hk,e⟩
  have:k = i:=by omega
  subst this; exact hk
 ·exact fun h=>⟨i,h,rfl⟩

def lineN (l:List T80) (us:List Nat):List (List UInt8):=us.map fun k=>(l.getD k default).f0

theorem f24_loop (l:List T80) (us:List Nat) (hu:∀ j ∈ us,j < l.length) (hul:us.length ≤ 100):iter (fun s=>f9_b1 l (ints us) s.1 s.2) ([],(0:Int)) = some (.go (lineN l us)):=by
 refine iter_listI us (by have:=maxLen_big; omega) (fun s=>f9_b1 l (ints us) s.1 s.2) (fun r _ b=>(Out.go (b ++ lineN l r):Out ((List (List UInt8)) × Int) (List (List UInt8)))) (fun i b=>b.length ≤ i) ?_ ?_ [] (by simp)
 ·intro m x r b hI hm hx _
  right
  have hxm:=getD_mem hm
  rw [hx] at hxm
  have hlt:=hu x hxm
  have hgx:=ints_getD hm
  rw [hx] at hgx
  refine ⟨b ++ [(l.getD x default).f0],?_,by simp only [List.length_append,List.length_cons,List.length_nil]; omega,by simp [lineN]⟩
  simp only [f9_b1,Int.toNat_natCast,hgx]
  rw [show decide ((m:Int) < ((ints us).length:Int)) = true from by rw [ints_length]; simpa using hm,cond_true,if_pos ⟨by omega,by rw [ints_length]; omega⟩,if_pos ⟨by omega,by omega⟩,if_pos (by simp only [List.length_cons,List.length_nil]; omega)]
 ·intro b _
  simp only [f9_b1,ints_length]
  simp [lineN]

theorem f26_refl (v:List T86) (h:v.length ≤ maxLen):f13 v v = some true:=by
 have key:=iter_list v h (fun i=>f13_b1 v v i) (fun _ _=>(Out.go ():Out Bool Unit)) ?_ ?_
 ·unfold f13
  rw [key]; simp
 ·intro i x r hi hx _
  have g1:(0:Int) ≤ i ∧ (i:Int) < (v.length:Int):=⟨by omega,by omega⟩
  right
  simp only [f13_b1,Int.toNat_natCast,hx,g1,and_self,if_true,decide_true,cond_true,beq_self_eq_true,Bool.and_self,Bool.not_true,cond_false]
 ·simp [f13_b1]

def gBad (l:List T80) (g:T52):Bool:=!(g.f1 == ([]:List UInt8)) && (fd l g.f1).isNone

def outE (b:Bool):Out (Int × Int) Unit:=cond b (.ret (0,5)) (.go ())

theorem f28_b1_eq (l:List T80) (hs:Small l) (gs:List T52) (hgs:gs.length ≤ maxLen):iter (fun i=>f15_b1 l gs i) 0 = some (outE (gs.any (gBad l))):=by
 refine iter_list gs hgs (fun i=>f15_b1 l gs i) (fun r _=>outE (r.any (gBad l))) ?_ ?_
 ·intro i x r hi hx _
  have g1:(0:Int) ≤ i ∧ (i:Int) < (gs.length:Int):=⟨by omega,by omega⟩
  simp only [f15_b1,Int.toNat_natCast,hx,g1,and_self,if_true,decide_true,cond_true,f45_eq l hs.max,Option.bind_some,idx_neg,cond_and,List.any_cons]
  rw [show (!(x.f1 == ([]:List UInt8)) && (fd l x.f1).isNone) = gBad l x from rfl]
  cases gBad l x with
  | true=>exact .inl rfl
  | false=>exact .inr ⟨rfl,rfl⟩
 ·simp [f15_b1,outE]

def isG (c:Bool) (s:List UInt8) (g:T52):Bool:=(c == g.f0) && (s == g.f1)

theorem f59_eq (gs:List T52) (hgs:gs.length ≤ maxLen) (c:Bool) (s:List UInt8):f31 gs (T52.mk c s) = some (idx (findFrom (isG c s) gs 0)):=by
 unfold f31
 rw [index_eq gs hgs (fun g=>some (isG c s g)) (isG c s) (fun _=>rfl) (fun i=>f31_b1 gs (T52.mk c s) i) (fun i=>rfl)]
 cases findFrom (isG c s) gs 0 <;> rfl

/-- The first guard of the nearest class. -/
def near (l:List T80) (gs:List T52):List Nat → Option Nat
 | []=>none
 | k :: r=>match findFrom (isG true (l.getD k default).f0) gs 0 with | some i=>some i | none=>near l gs r

def outG:Option Nat → Out (Int × Int) Unit
 | some i=>.ret ((i:Int),0)
 | none=>.go ()

theorem f28_b2_eq (l:List T80) (gs:List T52) (hgs:gs.length ≤ maxLen) (us:List Nat) (hu:∀ j ∈ us,j < l.length) (hul:us.length ≤ 100):iter (fun i=>f15_b2 l gs (ints us) i) 0 = some (outG (near l gs us)):=by
 refine iter_list us (by have:=maxLen_big; omega) (fun i=>f15_b2 l gs (ints us) i) (fun r _=>outG (near l gs r)) ?_ ?_
 ·intro m x r hm hx _
  have hxm:=getD_mem hm
  rw [hx] at hxm
  have hlt:=hu x hxm
  have hgx:=ints_getD hm
  rw [hx] at hgx
  simp only [f15_b2,Int.toNat_natCast,hgx]
  rw [show decide ((m:Int) < ((ints us).length:Int)) = true from by rw [ints_length]; simpa using hm,cond_true,if_pos ⟨by omega,by rw [ints_length]; omega⟩,if_pos ⟨by omega,by omega⟩,f59_eq gs hgs]
  simp only [Option.bind_some,idx_nonneg,near]
  cases findFrom (isG true (l.getD x default).f0) gs 0 with
  | some i=>exact .inl rfl
  | none=>exact .inr ⟨rfl,rfl⟩
 ·simp only [f15_b2,ints_length]
  simp [near,outG]

/-- An ancestor's fields stand at the front. -/
theorem allF_prefix (l:List T80) (hR:Right l l.length):∀ (k u:Nat),k < l.length → u ∈ up l k → ∃ r,allF l k = allF l u ++ r:=by
 intro k
 induction k using Nat.strongRecOn with
 | _ k ih =>
  intro u hk hu
  have hN:Named l k:=fun j hj=>hR.named j (by omega)
  by_cases he:u = k
  ·subst he; exact ⟨[],by simp⟩
  ·rw [up_eqP hN,List.mem_cons] at hu
   rcases hu with hu | hu
   ·exact absurd hu he
   ·unfold upP at hu
    cases hp:prt l k with
    | none=>rw [hp] at hu; cases hu
    | some p =>
     rw [hp] at hu
     have hlt:=prt_lt hp
     obtain ⟨r,hr⟩:=ih p hlt.1 u hlt.2 hu
     rw [allF_eq hN]
     unfold anc
     rw [hp]
     simp only
     rw [hr]
     exact ⟨r ++ (l.getD k default).f3,by simp only [List.append_assoc]⟩

theorem own_name {l:List T80} {n k:Nat} (hR:Right l n) (hk:k < n) (hl:k < l.length):fd l (l.getD k default).f0 = some k:=by
 have h2:=(errAt_parts (hR k hk)).2.1
 simp only [dbl,Bool.or_eq_false_iff] at h2
 have h3:=h2.1
 refine fd_first hl rfl fun j hj he=>?_
 cases hf:fd (l.take k) (l.getD k default).f0 with
 | some m=>rw [hf] at h3; cases h3
 | none =>
  have:=fd_none hf j (by simp only [List.length_take]; omega)
  rw [getD_take hj] at this
  exact this he

theorem f34_eq (l:List T80) (hs:Small l) (hg:Gs l) (s:List UInt8) (i:Nat) (hR:Right l l.length) (h:(chk l).2 = 0) (hf:fd l s = some i):f16 l s = some (finF l 100 i 0,0):=by
 have hi:=(fd_some hf).1
 have e:askd l s = ((i:Int),0):=by
  unfold askd
  rw [show ((chk l).2 != 0) = false by simp [h],cond_false,hf]
 unfold f16
 rw [f43_eq l hs hg,e]
 simp only [Option.bind_some,bne_self_eq_false,cond_false,f64_eq l hs hR i hi]

end Go.Sx.top

namespace Go.Sx.top
open Go Go.Sx

section
variable {l:List T80} {s:List UInt8} {i:Nat}

theorem askd_at (h:(chk l).2 = 0) (hf:fd l s = some i):askd l s = ((i:Int),0):=by
 unfold askd
 rw [show ((chk l).2 != 0) = false by simp [h],cond_false,hf]

theorem anc9 (hs:Small l) (hg:Gs l) (hR:Right l l.length) (h:(chk l).2 = 0) (hf:fd l s = some i):f9 l s = some (lineN l (up l i),0):=by
 have hi:=(fd_some hf).1
 have hul:=up_length l i
 have hlen:=hs.len
 unfold f9
 rw [f43_eq l hs hg,askd_at h hf]
 simp only [Option.bind_some,bne_self_eq_false,cond_false,f56_eq l hs hR.ahead i hi hi]
 rw [f24_loop l (up l i) (up_lt hi) (by omega)]
 rfl

theorem bind10 (hs:Small l) (hg:Gs l) (hR:Right l l.length) (h:(chk l).2 = 0) (hf:fd l s = some i) (o:List UInt8):f10 l s o = some (match bnd l (up l i) o with | some n=>(n,0) | none=>([],5)):=by
 have hi:=(fd_some hf).1
 unfold f10
 rw [f43_eq l hs hg,askd_at h hf]
 simp only [Option.bind_some,bne_self_eq_false,cond_false,f62_eq l hs hR.ahead i hi hi]
 cases bnd l (up l i) o <;> rfl

theorem size11 (hs:Small l) (hg:Gs l) (hR:Right l l.length) (h:(chk l).2 = 0) (hf:fd l s = some i):f11 l s = some (((un (us l i) l i:Nat):Int),0):=by
 have hi:=(fd_some hf).1
 unfold f11
 rw [f43_eq l hs hg,askd_at h hf]
 simp only [Option.bind_some,bne_self_eq_false,cond_false,f54_eq l hs hR i hi]

theorem fields12 (hs:Small l) (hg:Gs l) (hR:Right l l.length) (h:(chk l).2 = 0) (hf:fd l s = some i):f12 l s = some (allF l i,0):=by
 have hi:=(fd_some hf).1
 unfold f12
 rw [f43_eq l hs hg,askd_at h hf]
 simp only [Option.bind_some,bne_self_eq_false,cond_false,f53_eq l hs hR.ahead hR.few i hi hi]

theorem disp14 (hs:Small l) (hg:Gs l) (hR:Right l l.length) (h:(chk l).2 = 0) (hf:fd l s = some i) {t:List UInt8} {u:Nat} (ht:fd l t = some u) (hu:u ∈ up l i) (o:List UInt8) :
  f14 l t s o = some (match bnd l (up l u) o with | none=>([],5) | some _=>cond (l.getD i default).f2 ([],70) ((pairB (bnd l (up l i) o)).1,0)):=by
 have hi:=(fd_some hf).1
 have hul:=(fd_some ht).1
 unfold f14
 rw [f43_eq l hs hg,askd_at h ht,f45_eq l hs.max,hf]
 simp only [Option.bind_some,bne_self_eq_false,cond_false,idx_neg,Option.isNone_some,f62_eq l hs hR.ahead u hul hul]
 cases hb:bnd l (up l u) o with
 | none=>rfl
 | some n =>
  have g1:(0:Int) ≤ idx (some i) ∧ idx (some i) < (l.length:Int):=by simp only [idx]; omega
  simp only [pairB,Bool.not_true,cond_false,if_pos g1]
  simp only [idx,Int.toNat_natCast,f56_eq l hs hR.ahead i hi hi,f62_eq l hs hR.ahead i hi hi,Option.bind_some]
  unfold f30
  have hc:=f55_eq (ints (up l i)) (up_max l hs i hi) (u:Int)
  unfold f30 at hc
  rw [hc,ints_contains,List.contains_iff_mem.2 hu]
  cases (l.getD i default).f2 <;> rfl

theorem fin16 (hs:Small l) (hg:Gs l) (hR:Right l l.length) (h:(chk l).2 = 0) (hf:fd l s = some i):f16 l s = some (finF l 100 i 0,0):=f34_eq l hs hg s i hR h hf

theorem getD_snoc {A:Type} [Inhabited A] (a:List A) (x:A):(a ++ [x]).getD a.length default = x:=by simp [List.getD_eq_getElem?_getD]
theorem getD_front {A:Type} [Inhabited A] {a b:List A} {k:Nat} (h:k < a.length):(a ++ b).getD k default = a[k]:=by
 rw [List.getD_eq_getElem?_getD,List.getElem?_append_left h,List.getElem?_eq_getElem h,Option.getD_some]

/-- The guards for a type and its ancestors, the last one's first. -/
def gds (l:List T80) (i:Nat):List T52:=(lineN l (up l i)).reverse.map (T52.mk true)

theorem up_head (l:List T80) (i:Nat):∃ r,up l i = i :: r ∧ ∀ u ∈ r,u < i:=by
 refine ⟨_,up_eq l i,fun u hu=>?_⟩
 split at hu
 ·cases hu
 ·cases hf:fd (l.take i) (par l i) with
  | none=>rw [hf] at hu; cases hu
  | some j =>
   rw [hf] at hu
   have:=(fd_take.1 hf).2
   have:=up_le l j u hu
   omega

theorem gds_last (hR:Right l l.length) (hi:i < l.length):findFrom (isG true (l.getD i default).f0) (gds l i) 0 = some ((gds l i).length - 1):=by
 obtain ⟨r,hr,hlt⟩:=up_head l i
 have e:gds l i = ((lineN l r).reverse.map (T52.mk true)) ++ [T52.mk true (l.getD i default).f0]:=by
  unfold gds
  rw [hr]
  simp [lineN]
 have hlen:(gds l i).length = r.length + 1:=by rw [e]; simp [lineN]
 have hk:((lineN l r).reverse.map (T52.mk true)).length = r.length:=by simp [lineN]
 have:=findFrom_first (l:=gds l i) (i:=0) (j:=r.length) (p:=isG true (l.getD i default).f0) (by omega) (by
  rw [e,← hk,getD_snoc]
  simp only [isG,beq_self_eq_true,Bool.and_self]) (fun k hk'=>by
  have hlt2:k < ((lineN l r).reverse.map (T52.mk true)).length:=by omega
  rw [e,getD_front hlt2]
  have hm:=List.getElem_mem hlt2
  generalize ((lineN l r).reverse.map (T52.mk true))[k] = x at hm
  obtain ⟨n,hn,rfl⟩:=List.mem_map.1 hm
  rw [List.mem_reverse] at hn
  obtain ⟨u,hu,rfl⟩:=List.mem_map.1 hn
  have hui:=hlt u hu
  have h1:=own_name hR (show u < l.length by omega) (by omega)
  have h2:=own_name hR hi hi
  simp only [isG,beq_self_eq_true,Bool.true_and,beq_eq_false_iff_ne]
  intro he
  rw [he,h1] at h2
  have:=Option.some.inj h2
  omega)
 rw [this,hlen]
 simp

theorem sel15 (hs:Small l) (hg:Gs l) (hR:Right l l.length) (h:(chk l).2 = 0) (hf:fd l s = some i) :
  f15 l s (gds l i) = some (cond (l.getD i default).f2 (0,70) ((((gds l i).length - 1:Nat):Int),0)):=by
 have hi:=(fd_some hf).1
 have hul:=up_length l i
 have hlen:=hs.len
 have hmx:=maxLen_big
 have hgl:(gds l i).length = (up l i).length:=by simp [gds,lineN]
 have hgm:(gds l i).length ≤ maxLen:=by omega
 have hb:(gds l i).any (gBad l) = false:=by
  rw [List.any_eq_false]
  intro g hgm
  obtain ⟨n,hn,rfl⟩:=List.mem_map.1 hgm
  rw [List.mem_reverse] at hn
  obtain ⟨u,hu,rfl⟩:=List.mem_map.1 hn
  have hul:=up_lt hi u hu
  simp only [gBad,own_name hR hul hul,Option.isNone_some,Bool.and_false]
  exact Bool.false_ne_true
 unfold f15
 rw [f43_eq l hs hg,askd_at h hf]
 simp only [Option.bind_some,bne_self_eq_false,cond_false]
 rw [f28_b1_eq l hs (gds l i) hgm,hb]
 simp only [outE,cond_false,Option.bind_some,Int.toNat_natCast]
 rw [if_pos ⟨by omega,by omega⟩]
 cases hab:(l.getD i default).f2 with
 | true=>rfl
 | false =>
  have hno:findFrom (isG false s) (gds l i) 0 = none:=by
   have:(gds l i).any (isG false s) = false:=by
    rw [List.any_eq_false]
    intro g hgm
    obtain ⟨n,_,rfl⟩:=List.mem_map.1 hgm
    simp [isG]
   rw [← findFrom_any (isG false s) (gds l i) 0,idx_nonneg] at this
   cases hq:findFrom (isG false s) (gds l i) 0 with
   | none=>rfl
   | some j=>rw [hq] at this; cases this
  rw [f59_eq (gds l i) hgm,hno]
  simp only [cond_false,Option.bind_some,idx_nonneg,Option.isSome_none,f56_eq l hs hR.ahead i hi hi]
  rw [f28_b2_eq l (gds l i) hgm (up l i) (up_lt hi) (by omega)]
  have hnear:near l (gds l i) (up l i) = some ((gds l i).length - 1):=by
   obtain ⟨r,hr,_⟩:=up_head l i
   rw [hr]
   simp only [near]
   rw [gds_last hR hi]
  rw [hnear]
  rfl

/-! ### Sizes, and where finalisers are called -/

theorem un_up (hR:Right l l.length):∀ (k u:Nat),k < l.length → u ∈ up l k → un (us l u) l u ≤ un (us l k) l k:=by
 intro k
 induction k using Nat.strongRecOn with
 | _ k ih =>
  intro u hk hu
  have hN:Named l k:=fun j hj=>hR.named j (by omega)
  by_cases he:u = k
  ·subst he; exact Nat.le_refl _
  ·rw [up_eqP hN,List.mem_cons] at hu
   rcases hu with hu | hu
   ·exact absurd hu he
   ·unfold upP at hu
    cases hp:prt l k with
    | none=>rw [hp] at hu; cases hu
    | some p =>
     rw [hp] at hu
     have hlt:=prt_lt hp
     refine Nat.le_trans (ih p hlt.1 u hlt.2 hu) ?_
     rw [← us_at l k p hlt.1]
     unfold un base
     rw [hp]
     exact Nat.le_add_right _ _

theorem fin_in (hR:Right l l.length):∀ (n k off:Nat),k < l.length → ∀ p ∈ finF l n k off,(off:Int) ≤ p.f1 ∧ p.f1 ≤ ((off + un (us l k) l k:Nat):Int)
 | 0,_,_,_,p,hp=>by cases hp
 | n + 1,k,off,hk,p,hp=>by
  have hF:=hR.fit k hk
  have hpart:∀ (fs:List T86) (a:Nat),(∀ f ∈ fs,f ∈ (l.getD k default).f3) → ∀ p ∈ fpart (finF l n) l off fs a,(off:Int) ≤ p.f1 ∧ p.f1 ≤ ((off + a + (fs.map (wd (us l k) l k)).sum:Nat):Int):=by
   intro fs
   induction fs with
   | nil=>intro _ _ p hp; cases hp
   | cons f fs ih =>
    intro a hfs p hp
    simp only [fpart] at hp
    have hwd:=oneG_at hk hF.2 (hfs f (List.mem_cons_self ..))
    simp only [List.map_cons,List.sum_cons]
    rcases List.mem_append.1 hp with hp | hp
    ·by_cases hn:f.f1 = []
     ·rw [show (f.f1 == ([]:List UInt8)) = true from beq_iff_eq.2 hn] at hp; cases hp
     ·rw [show (f.f1 == ([]:List UInt8)) = false from beq_eq_false_iff_ne.2 hn,cond_false] at hp
      obtain ⟨q,hq,hp⟩:=List.mem_flatMap.1 hp
      rw [List.mem_range] at hq
      obtain ⟨ht,htk⟩:=typ_of hF.2 (hfs f (List.mem_cons_self ..)) hn
      rw [(fd_take.1 ht).1,Option.getD_some] at hp
      obtain ⟨h1,h2⟩:=fin_in hR n (typ l k f) _ (by omega) p hp
      have h3:oneG l f = un (us l (typ l k f)) l (typ l k f):=by
       unfold oneG
       rw [show (f.f1 == ([]:List UInt8)) = false from beq_eq_false_iff_ne.2 hn,if_neg (by decide),(fd_take.1 ht).1,Option.getD_some,us_at l l.length _ (by omega)]
      rw [← h3] at h2
      have h4:q * oneG l f + oneG l f ≤ tm f * oneG l f:=by
       rw [← Nat.succ_mul]
       exact Nat.mul_le_mul_right _ hq
      rw [← hwd] at h4
      generalize q * oneG l f = x at *
      generalize wd (us l k) l k f = y at *
      omega
    ·obtain ⟨h1,h2⟩:=ih (a + tm f * oneG l f) (fun x hx=>hfs x (List.mem_cons_of_mem _ hx)) p hp
     rw [← hwd] at h2
     omega
  simp only [finF] at hp
  have hun:un (us l k) l k = base (us l k) l k + ((l.getD k default).f3.map (wd (us l k) l k)).sum:=rfl
  rcases List.mem_append.1 hp with hp | hp
  ·cases hq:(l.getD k default).f5 == ([]:List UInt8) with
   | true=>rw [hq] at hp; cases hp
   | false =>
    rw [hq,cond_false,List.mem_singleton] at hp
    subst hp
    constructor
    ·exact Int.le_refl _
    ·show (off:Int) ≤ _
     omega
  ·rcases List.mem_append.1 hp with hp | hp
   ·have:=hpart (l.getD k default).f3 (base (us l k) l k) (fun _ h=>h) p hp
    omega
   ·cases hq:prt l k with
    | none=>rw [hq] at hp; cases hp
    | some j =>
     rw [hq] at hp
     have hlt:=prt_lt hq
     obtain ⟨h1,h2⟩:=fin_in hR n j off hlt.2 p hp
     have h3:base (us l k) l k = un (us l j) l j:=by
      unfold base
      rw [hq]
      exact us_at l k j hlt.1
     omega
end

end Go.Sx.top

namespace Go.Sx.top
open Go Go.Sx

theorem awake7:f5 = some true:=f5_le 60 true (by kernel_rfl)

end Go.Sx.top

namespace Go.Sx.top
open Go Go.Sx

/-- What a call by way of any ancestor means. -/
def own (l:List T80) (i:Nat) (o:List UInt8):List UInt8 × Int:=match bnd l (up l i) o with | some n=>(n,0) | none=>([],5)

theorem types_loop {l:List T80} {s o:List UInt8} {i:Nat} (hs:Small l) (hg:Gs l) (hR:Right l l.length) (h:(chk l).2 = 0) (hf:fd l s = some i) :
  iter (fun x=>f4_b1 l s o (lineN l (up l i),0) (own l i o) (((un (us l i) l i:Nat):Int),0) (allF l i,0) x.1 x.2) ([],w64 (((lineN l (up l i)).length:Int) - 1)) = some (Out.go (gds l i)):=by
 have hi:=(fd_some hf).1
 have hul:=up_length l i
 have hlen:=hs.len
 have hnl:(lineN l (up l i)).length = (up l i).length:=by simp [lineN]
 have hal:=allF_length l hs hR.few i hi
 obtain ⟨r,hr,_⟩:=up_head l i
 have hpos:0 < (up l i).length:=by rw [hr]; simp
 obtain ⟨x,hx,rfl⟩:=iter_inv (fun x:List T52 × Int=>f4_b1 l s o (lineN l (up l i),0) (own l i o) (((un (us l i) l i:Nat):Int),0) (allF l i,0) x.1 x.2)
  (fun c x=>x = (((lineN l (up l i)).reverse.take c).map (T52.mk true),((up l i).length:Int) - 1 - (c:Int))) (fun y=>y = (Out.go (gds l i):Out Bool (List T52))) (up l i).length
  (by
   rintro c x hc rfl
   refine ⟨(((lineN l (up l i)).reverse.take (c + 1)).map (T52.mk true),((up l i).length:Int) - 1 - ((c + 1:Nat):Int)),?_,rfl⟩
   obtain ⟨j,hj⟩:∃ j:Nat,((up l i).length:Int) - 1 - (c:Int) = (j:Int):=⟨(up l i).length - 1 - c,by omega⟩
   have hjn:j < (up l i).length:=by omega
   have hju:(up l i).getD j default ∈ up l i:=getD_mem hjn
   generalize hu:(up l i).getD j default = u at hju
   have hul2:=up_lt hi u hju
   have hname:(lineN l (up l i)).getD j default = (l.getD u default).f0:=by
    rw [← hu]
    simp only [lineN,List.getD_eq_getElem?_getD,List.getElem?_map,List.getElem?_eq_getElem hjn]
    rfl
   have hfu:=own_name hR hul2 hul2
   have hd:decide ((j:Int) ≥ 0) = true:=by simp
   have gj:(0:Int) ≤ (j:Int) ∧ (j:Int) < ((lineN l (up l i)).length:Int):=by omega
   have hcl:(((lineN l (up l i)).reverse.take c).map (T52.mk true)).length = c:=by simp; omega
   have hb:((((lineN l (up l i)).reverse.take c).map (T52.mk true)).length + [T52.mk true (l.getD u default).f0].length) * 24 ≤ 140737488355328:=by rw [hcl]; simp only [List.length_cons,List.length_nil]; omega
   have hun:=un_up hR i u hi hju
   obtain ⟨q,hq⟩:=allF_prefix l hR i u hi hju
   have hql:(allF l u).length ≤ (allF l i).length:=by rw [hq]; simp
   have htk:(allF l i).take (allF l u).length = allF l u:=by rw [hq]; exact List.take_left' rfl
   have hsame:=f26_refl (allF l u) (by have:=maxLen_big; omega)
   have hdisp:=disp14 hs hg hR h hf hfu hju o
   have hsnoc:((lineN l (up l i)).reverse.take c).map (T52.mk true) ++ [T52.mk true (l.getD u default).f0] = ((lineN l (up l i)).reverse.take (c + 1)).map (T52.mk true):=by
    have hrc:c < (lineN l (up l i)).reverse.length:=by simp only [List.length_reverse]; omega
    rw [List.take_succ_eq_append_getElem hrc,List.map_append,List.map_cons,List.map_nil]
    congr 3
    rw [List.getElem_reverse,← hname,getD_lt (by omega)]
    congr 1
    omega
   have ew:w64 ((j:Int) - 1) = ((up l i).length:Int) - 1 - ((c + 1:Nat):Int):=by rw [w64_id (by omega) (by omega)]; omega
   have d1:decide (((un (us l u) l u:Nat):Int) > ((un (us l i) l i:Nat):Int)) = false:=decide_eq_false (by omega)
   have d2:decide (((allF l u).length:Int) > ((allF l i).length:Int)) = false:=decide_eq_false (by omega)
   have gle:((allF l u).length:Int) ≤ ((allF l i).length:Int):=by omega
   show f4_b1 l s o (lineN l (up l i),0) (own l i o) (((un (us l i) l i:Nat):Int),0) (allF l i,0) (((lineN l (up l i)).reverse.take c).map (T52.mk true)) (((up l i).length:Int) - 1 - (c:Int)) = _
   rw [hj]
   simp only [f4_b1,hd,cond_true,if_pos gj,Int.toNat_natCast,hname,if_pos hb]
   rw [size11 hs hg hR h hfu,fields12 hs hg hR h hfu]
   simp only [Option.bind_some,bne_self_eq_false,cond_false,d1,d2,if_pos gle,Int.toNat_natCast,htk,List.drop_zero,hsame,Bool.not_true,hdisp]
   cases hbu:bnd l (up l u) o with
   | none =>
    simp only [show ((5:Int) == 0) = false from rfl,cond_false,Option.bind_some,hsnoc,ew]
   | some n =>
    have hbi:=bnd_up hju (s:=o) (by rw [hbu]; rfl)
    cases hbq:bnd l (up l i) o with
    | none=>rw [hbq] at hbi; cases hbi
    | some m =>
     have ho:own l i o = (m,0):=by unfold own; rw [hbq]
     rw [ho]
     cases (l.getD i default).f2 with
     | true=>simp only [cond_true,show ((70:Int) == 0) = false from rfl,cond_false,Option.bind_some,hsnoc,ew]
     | false=>simp only [cond_false,pairB,show ((0:Int) == 0) = true from rfl,cond_true,bne_self_eq_false,beq_self_eq_true,Bool.not_true,Option.bind_some,hsnoc,ew])
  (by
   rintro x rfl
   refine ⟨.go (gds l i),?_,rfl⟩
   show f4_b1 l s o (lineN l (up l i),0) (own l i o) (((un (us l i) l i:Nat):Int),0) (allF l i,0) (((lineN l (up l i)).reverse.take (up l i).length).map (T52.mk true)) (((up l i).length:Int) - 1 - ((up l i).length:Int)) = _
   have hd:decide (((up l i).length:Int) - 1 - ((up l i).length:Int) ≥ 0) = false:=decide_eq_false (by omega)
   simp only [f4_b1,hd,cond_false]
   rw [List.take_of_length_le (by simp only [List.length_reverse]; omega)]
   rfl)
  ([],w64 (((lineN l (up l i)).length:Int) - 1)) (by
   rw [w64_id (by omega) (by omega),hnl]
   simp)
 exact hx

theorem calls_loop {l:List T80} {i:Nat} (hR:Right l l.length) (hi:i < l.length) :
  iter (fun x=>f4_b2 (((un (us l i) l i:Nat):Int),0) (finF l 100 i 0,0) x) (0:Int) = some (Out.go ()):=by
 have hlen:=finF_len2 hR 100 i 0 hi
 refine iter_list (finF l 100 i 0) (by have:=maxLen_big; omega) (fun x=>f4_b2 (((un (us l i) l i:Nat):Int),0) (finF l 100 i 0,0) x) (fun _ _=>(Out.go ():Out Bool Unit)) (fun q x r hq hx hd=>?_) ?_
 ·right
  refine ⟨?_,rfl⟩
  have hm:=getD_mem hq
  rw [hx] at hm
  obtain ⟨h1,h2⟩:=fin_in hR 100 i 0 hi x hm
  have g1:(0:Int) ≤ q ∧ (q:Int) < ((finF l 100 i 0).length:Int):=by omega
  have d1:decide (x.f1 < 0) = false:=decide_eq_false (by omega)
  have d2:decide (x.f1 > ((un (us l i) l i:Nat):Int)) = false:=decide_eq_false (by omega)
  simp only [f4_b2,show decide ((q:Int) < ((finF l 100 i 0).length:Int)) = true from by simpa using hq,cond_true,if_pos g1,Int.toNat_natCast,hx,d1,d2,cond_false,Option.bind_some]
 ·simp only [f4_b2,show decide (((finF l 100 i 0).length:Int) < ((finF l 100 i 0).length:Int)) = false from by simp,cond_false]

theorem anc_bad {l:List T80} {s:List UInt8} (hs:Small l) (hg:Gs l) {c:Int} (hc:c ≠ 0) {k:Int} (h:askd l s = (k,c)):f9 l s = some ([],c):=by
 unfold f9
 rw [f43_eq l hs hg,h]
 have:(c != 0) = true:=by simpa using hc
 simp only [Option.bind_some,this,cond_true]

theorem Pure.TopTypes:LawTopTypes:=fun l s o hl hsn ho=>by
 unfold f4
 rw [awake7]
 by_cases h40:l.length ≤ 40
 ·have hs:Small l:=⟨h40,fun t ht=>by
   have h:=hl.2 t ht
   have h3:=h.2.2.2.1.1.2
   have h4:=h.2.2.2.2.1.1.2
   have hr:reachBytes = 140737488351232:=rfl
   rw [hr] at h3 h4
   omega⟩
  have hg:Gs l:=fun t ht=>by
   have h:=hl.2 t ht
   exact ⟨h.1,h.2.1,h.2.2.1,⟨h.2.2.2.1.1.1,h.2.2.2.1.2⟩,⟨h.2.2.2.2.1.1.1,h.2.2.2.2.1.2⟩,h.2.2.2.2.2.1,trivial⟩
  rw [decide_eq_false (show ¬ (l.length:Int) > 40 by omega),cond_false]
  rcases askd_cases l s with ⟨_,e⟩ | ⟨_,_,_,e⟩ | ⟨i,hR,h,hf,_⟩
  ·rw [anc_bad hs hg (by decide) e]; rfl
  ·rw [anc_bad hs hg (by decide) e]; rfl
  ·have hi:=(fd_some hf).1
   have hbd:f10 l s o = some (own l i o):=by
    rw [bind10 hs hg hR h hf]
    unfold own
    cases bnd l (up l i) o <;> rfl
   rw [anc9 hs hg hR h hf,hbd,size11 hs hg hR h hf,fields12 hs hg hR h hf,fin16 hs hg hR h hf]
   simp only [Option.bind_some,bne_self_eq_false,cond_false]
   have h1:=types_loop (o:=o) hs hg hR h hf
   rw [h1]
   simp only [Option.bind_some]
   rw [sel15 hs hg hR h hf]
   have hgl:(gds l i).length = (up l i).length:=by simp [gds,lineN]
   have hul:=up_length l i
   obtain ⟨r,hr,_⟩:=up_head l i
   have hpos:0 < (up l i).length:=by rw [hr]; simp
   have ew:w64 (((gds l i).length:Int) - 1) = (((gds l i).length - 1:Nat):Int):=by rw [w64_id (by omega) (by omega)]; omega
   have h2:=calls_loop hR hi
   cases (l.getD i default).f2 with
   | true =>
    simp only [cond_true,bne_self_eq_false,cond_false,Option.bind_some]
    rw [h2]
    rfl
   | false =>
    simp only [cond_false,show ((0:Int) != 70) = true from rfl,cond_true,bne_self_eq_false,ew,Option.bind_some]
    rw [h2]
    rfl
 ·rw [decide_eq_true (show (l.length:Int) > 40 by omega)]
  rfl

end Go.Sx.top
