
/- A slice of bytes as a string; no condition. -/
import Derived.Test.YtlfaghcnnlifmaaGreatSxC
import Derived.Laws.BytesArg
import Derived.Laws.Externs
import Derived.ChangeArms
import Derived.Below
import Derived.SizedLaws
namespace Go.Sx
open Go

section
variable {F:Cfg} {σ:AState}

theorem AOne.str {ops:Array Oper} {i:Nat} {s t e:TypeId} {x:Operand} (o:Oper) (ho:ops[i]? = some o) (hop:o.op = .convert s t x) (hg:guardV ops σ o = some true) (d:Nat) (hd:o.dst = some d) (hlt:Nat.blt d F.n = true)
  (h1:(F.T.get s).map TI.und = some (.slice e)) (h2:(F.T.get e).map TI.und = some (.int .u8)) (h3:(F.T.get t).map TI.und = some .string) {n:Nat} {f:Nat → List TV} {b:Bool} (hsl:σ.slOf (σ.ev x) = some (1,n,f,b))
  (xs:List Int) (hn:n = xs.length) (hf:∀ i,i < n → f i = cInt .u8 (xs.getD i default)):AOne F ops i σ (σ.put d (.tv (.str (xs.map fun n=>UInt8.ofNat n.toNat)))):=fun w0 g0 g a w hs K Q h=>by
 simp only [wpOp,ho]
 rw [if_pos (guardV_sound hs hg)]
 left
 have hp:PlainTo n f:=fun i hi=>by rw [hf i hi]; rfl
 have hrun:(convert s t (a.eval x)).run F.P w = .ok (.string (strOfNums xs)) w:=by
  rcases slOf_rel hs hsl hp with ⟨⟨A,c,hv⟩,h0⟩ | ⟨b',off,cap,cs,hv,hz,hc⟩
  ·subst h0
   obtain rfl:xs = []:=List.eq_nil_of_length_eq_zero hn.symm
   rw [hv]
   cases A with
   | none=>exact run_convert_bytes_nil w s e (F.ok.und h1) (F.ok.und h2) 0 c t (F.ok.und h3)
   | some A =>
    have hl:(loadCells A 0).run F.P w = .ok (([]:List Int).map (Value.int .u8)).toArray w:=run_loadCells_list (P:=F.P) w A [] fun j v hj=>by simp at hj
    rw [run_convert_bytes_string w s t e _ 0 c (F.ok.und h1) (F.ok.und h2) (F.ok.und h3),run_bytesToString w A 0 c [] hl]
    rfl
  ·rw [hv]
   refine run_convert_bytes_arg w s e (F.ok.und h1) (F.ok.und h2) b' off n cap xs hn.symm (fun i hi=>?_) t (F.ok.und h3)
   have hy:(f i)[0]? = some (.int .u8 (xs.getD i default)):=by rw [hf i hi]; rfl
   obtain ⟨this,hrel⟩:=hc i 0 _ hi hy
   rw [Nat.mul_one,Nat.add_zero] at this
   rw [this,rel_int (g:=g) (p:=(.slot 0 0,[])) (.fr hrel)]
   rfl
 have hrun':(execOp a.eval o).run F.P w = .ok (.value (.string (strOfNums xs))) w:=by
  simp only [execOp,hop]
  rw [Sem.run_bind,hrun]
  rfl
 unfold Oper.wp
 rw [hrun',Oper.upon_value,hd]
 exact h _ _ w (hs.put (Nat.le_of_ble_eq_true hlt) (sv:=.tv (.str _)) rfl rfl (k:=0) (.fr (.str _)))

theorem set_at {A:Type} [Inhabited A] (enc:A → List TV) (l:List A) (k j:Nat) (ys:List TV) (v:A) (hv:putAt (enc (l.getD k default)) j ys = enc v):∀ i,i < l.length → setElem (fun i=>enc (l.getD i default)) k (putAt (enc (l.getD k default)) j ys) i = enc ((l.set k v).getD i default):=by
 refine setElem_at enc l k v _ (fun i _ hne=>?_) fun _=>?_
 ·simp only [setElem,beq_ne hne]
 ·simp only [setElem,Nat.beq_refl]; exact hv

end
end Go.Sx

namespace Go.Sx
open Go

section
variable {F:Cfg} {K:AState → Prop} {σ:AState} {ops:Array Oper}

end
end Go.Sx

namespace Go.Sx
open Go

/-- The place of the first byte c, or -1. -/
def idxB (xs:List Int) (c:Int):Int:=firstIdx ⟨(xs.map fun n=>UInt8.ofNat n.toNat).toArray⟩ c.toNat.toUInt8

section
variable {F:Cfg} {σ:AState}

end
end Go.Sx

namespace Go.Sx
open Go

def LeafOk (P:Program) (t:TypeId):TV → Prop
 | .int _ _=>∃ k,P.underlying t = some (.int k)
 | .bool _=>P.underlying t = some .bool
 | .str _=>P.underlying t = some .string
 | _=>False

theorem leafInt {P:Program} {t:TypeId} (k:IntKind) {k':IntKind} {n:Int} (h:P.underlying t = some (.int k)):LeafOk P t (.int k' n):=⟨k,h⟩
theorem leafBool {P:Program} {t:TypeId} {b:Bool} (h:P.underlying t = some .bool):LeafOk P t (.bool b):=h
theorem leafStr {P:Program} {t:TypeId} {s:List UInt8} (h:P.underlying t = some .string):LeafOk P t (.str s):=h

def FlatOk (P:Program):List Field → Nat → List TV → Prop
 | [],_,[]=>True
 | f :: fs, i, z :: zs => f.name ≠ "_" ∧ f.offset = i ∧ LeafOk P f.type z ∧ FlatOk P fs (i + 1) zs
 | _,_,_=>False

theorem bytes_beq (x y:List UInt8):((⟨x.toArray⟩:ByteArray) == (⟨y.toArray⟩:ByteArray)) = (x == y):=by
 have h:((⟨x.toArray⟩:ByteArray) == (⟨y.toArray⟩:ByteArray)) = (x.toArray == y.toArray):=rfl
 rw [h]
 simp

theorem leaf_part {P:Program} {t:TypeId} {z:TV} (h:LeafOk P t z) {xs:Array Value} {i:Nat} {u:Value} (hx:xs[i]? = some u) (w:World):(part t xs i).run P w = .ok u w:=by
 unfold part
 cases z with
 | int k n=>obtain ⟨k',hu⟩:=h; rw [Sem.run_bind,run_isAgg hu,Result.andThen_ok]; simp only [isAggD,Bool.false_eq_true,if_false,hx]; rfl
 | bool b=>have hu:P.underlying t = some .bool:=h; rw [Sem.run_bind,run_isAgg hu,Result.andThen_ok]; simp only [isAggD,Bool.false_eq_true,if_false,hx]; rfl
 | str s=>have hu:P.underlying t = some .string:=h; rw [Sem.run_bind,run_isAgg hu,Result.andThen_ok]; simp only [isAggD,Bool.false_eq_true,if_false,hx]; rfl
 | _=>exact h.elim

theorem leaf_eq {P:Program} {t:TypeId} {z x y:TV} (h:LeafOk P t z) (hl:likeTV x z = true) {a:Bool} (ha:eqTV x y = some a) {Pr:Nat → Prop} {w:World} {u v:Value} (hu:FRel Pr w u x) (hv:FRel Pr w v y) (d:Nat) (w':World) :
  (Op.equalIn (d + 1) t u v).run P w' = .ok a w':=by
 cases x with
 | int k n =>
  cases y with
  | int k' m =>
   simp only [eqTV] at ha
   split at ha
   ·rename_i hk
    obtain rfl:=of_decide_eq_true hk
    cases ha
    rw [rel_int (g:=⟨fun _=>none,Pr,fun o=>o⟩) (p:=(.slot 0 0,[])) (.fr hu),rel_int (g:=⟨fun _=>none,Pr,fun o=>o⟩) (p:=(.slot 0 0,[])) (.fr hv)]
    cases z with
    | int _ _=>obtain ⟨k',hund⟩:=h; rw [Op.equalIn,Sem.run_bind,run_underlying hund]; simp
    | _=>cases hl
   ·cases ha
  | _=>cases ha
 | bool b =>
  cases y with
  | bool c =>
   cases ha
   rw [rel_bool (g:=⟨fun _=>none,Pr,fun o=>o⟩) (p:=(.slot 0 0,[])) (.fr hu),rel_bool (g:=⟨fun _=>none,Pr,fun o=>o⟩) (p:=(.slot 0 0,[])) (.fr hv)]
   cases z with
   | bool _=>rw [Op.equalIn,Sem.run_bind,run_underlying h]; rfl
   | _=>cases hl
  | _=>cases ha
 | str b =>
  cases y with
  | str c =>
   cases ha
   rw [rel_str (g:=⟨fun _=>none,Pr,fun o=>o⟩) (p:=(.slot 0 0,[])) (.fr hu),rel_str (g:=⟨fun _=>none,Pr,fun o=>o⟩) (p:=(.slot 0 0,[])) (.fr hv)]
   cases z with
   | str _ =>
    rw [Op.equalIn,Sem.run_bind,run_underlying h]
    simp only [Result.andThen_ok,Sem.run_pure,bytes_beq]
   | _=>cases hl
  | _=>cases ha
 | _=>cases ha

theorem flat_loop {P:Program} {xs ys:Array Value} {Pr:Nat → Prop} {w:World} (w':World) (d:Nat):∀ (fs:List Field) (i:Nat) (zs cx cy:List TV) (r:Bool),FlatOk P fs i zs → likes cx zs = true → eqTVs cx cy = some r →
  (∀ (j:Nat) y,cx[j]? = some y → ∃ u,xs[i + j]? = some u ∧ FRel Pr w u y) → (∀ (j:Nat) y,cy[j]? = some y → ∃ u,ys[i + j]? = some u ∧ FRel Pr w u y) →
  (forIn fs ((none,()):Option Bool × Unit) (fun f __s =>
       if f.name ≠ "_" then do
        let __do_lift ← part f.type xs f.offset
        let __do_lift_1 ← part f.type ys f.offset
        let __do_lift ← Op.equalIn (d + 1) f.type __do_lift __do_lift_1
        if (!__do_lift) = true then pure (ForInStep.done (some false,()))
         else pure (ForInStep.yield (none,()))
       else pure (ForInStep.yield (none,()))):Sem (Option Bool × Unit)).run P w' = .ok (if r then (none,()) else (some false,())) w'
 | [],i,zs,cx,cy,r,hf,hl,he,_,_=>by
  cases zs with
  | nil=>cases cx with
   | nil=>cases he
   | cons=>cases hl
  | cons=>exact hf.elim
 | f :: fs,i,zs,cx,cy,r,hf,hl,he,hx,hy=>by
  cases zs with
  | nil=>exact hf.elim
  | cons z zs =>
   cases cx with
   | nil=>cases hl
   | cons x cx =>
    cases cy with
    | nil=>cases cx <;> cases he
    | cons y cy =>
     obtain ⟨hn,ho,hlf,hrest⟩:=hf
     simp only [likes,Bool.and_eq_true] at hl
     obtain ⟨u,hu,hur⟩:=hx 0 x rfl
     obtain ⟨v,hv,hvr⟩:=hy 0 y rfl
     rw [Nat.add_zero] at hu hv
     have key:∀ a,eqTV x y = some a → (Op.equalIn (d + 1) f.type u v).run P w' = .ok a w':=fun a ha=>leaf_eq hlf hl.1 ha hur hvr d w'
     have hp1:=leaf_part hlf hu w'
     have hp2:=leaf_part hlf hv w'
     rw [List.forIn_cons]
     have hstep:∀ a,eqTV x y = some a → ∀ (K:ForInStep (Option Bool × Unit) → Sem (Option Bool × Unit)),
       ((if f.name ≠ "_" then do
        let __do_lift ← part f.type xs f.offset
        let __do_lift_1 ← part f.type ys f.offset
        let __do_lift ← Op.equalIn (d + 1) f.type __do_lift __do_lift_1
        if (!__do_lift) = true then pure (ForInStep.done (some false,()))
         else pure (ForInStep.yield (none,()))
       else pure (ForInStep.yield (none,()))) >>= K:Sem _).run P w' = (K (if a then ForInStep.yield (none,()) else ForInStep.done (some false,()))).run P w':=by
      intro a ha K
      rw [if_pos hn,ho]
      simp only [Sem.run_bind,hp1,hp2,Result.andThen_ok,key a ha]
      cases a <;> rfl
     by_cases hone:cx = [] ∧ cy = []
     ·obtain ⟨rfl,rfl⟩:=hone
      simp only [eqTVs] at he
      rw [hstep r he]
      cases zs with
      | cons=>cases hl.2
      | nil =>
       cases fs with
       | cons=>exact hrest.elim
       | nil=>cases r <;> rfl
     ·have he':∃ a b,eqTV x y = some a ∧ eqTVs cx cy = some b ∧ r = (a && b):=by
       cases cx with
       | nil=>cases cy with
        | nil=>exact absurd ⟨rfl,rfl⟩ hone
        | cons c cy=>cases hxy:eqTV x y <;> simp [eqTVs,hxy] at he
       | cons c cx =>
        simp only [eqTVs] at he
        split at he
        ·rename_i a b h1 h2; cases he; exact ⟨a,b,h1,h2,rfl⟩
        ·cases he
      obtain ⟨a,b,h1,h2,rfl⟩:=he'
      rw [hstep a h1]
      cases a with
      | false=>rfl
      | true =>
       simp only [if_true,Bool.true_and]
       exact flat_loop w' d fs (i + 1) zs cx cy b hrest hl.2 h2 (fun j y hj=>by have:=hx (j + 1) y hj; rwa [show i + (j + 1) = i + 1 + j by omega] at this) (fun j y hj=>by have:=hy (j + 1) y hj; rwa [show i + (j + 1) = i + 1 + j by omega] at this)

theorem eq_flat {P:Program} {t:TypeId} {fs:Array Field} {zs:List TV} (hu:P.underlying t = some (.struct fs)) (hs:P.stoodInHeld t = false) (hg:P.eqGuardType P.depth t = false) (hf:FlatOk P fs.toList 0 zs) :
  P.eqGuardType P.depth t = false ∧ ∀ (w w':World) (Pr:Nat → Prop) (xs ys:Array Value) (cx cy:List TV) (r:Bool),xs.size = cx.length → ys.size = cy.length →
   (∀ (i:Nat) y,cx[i]? = some y → ∃ u,xs[i]? = some u ∧ FRel Pr w u y) → (∀ (i:Nat) y,cy[i]? = some y → ∃ u,ys[i]? = some u ∧ FRel Pr w u y) →
   likes cx zs = true → eqTVs cx cy = some r → (Op.equal t (.agg xs) (.agg ys)).run P w' = .ok r w':=by
 refine ⟨hg,fun w w' Pr xs ys cx cy r _ _ hx hy hl he=>?_⟩
 show (Op.equalIn (9999 + 1) t (.agg xs) (.agg ys)).run P w' = _
 rw [Op.equalIn,Sem.run_bind,run_underlying hu]
 simp only [Result.andThen_ok,Sem.run_bind,run_program,hs,Bool.false_eq_true,if_false]
 rw [← Array.toArray_toList (xs:=fs),List.forIn_toArray]
 have:=flat_loop (P:=P) (xs:=xs) (ys:=ys) w' 9998 fs.toList 0 zs cx cy r hf hl he (by simpa using hx) (by simpa using hy)
 rw [this]
 cases r <;> rfl

end Go.Sx

namespace Go.Sx
open Go

/-- Where x tells something, y tells the same. -/
def Le {A:Type} (x y:Option A):Prop:=∀ r,x = some r → y = some r

theorem Le.refl {A:Type} (x:Option A):Le x x:=fun _ h=>h

theorem Le.bind {A B:Type} {x y:Option A} {f g:A → Option B} (h:Le x y) (hf:∀ a,Le (f a) (g a)):Le (x.bind f) (y.bind g):=fun r hr=>by
 obtain ⟨a,ha,hb⟩:=Option.bind_eq_some_iff.1 hr
 exact Option.bind_eq_some_iff.2 ⟨a,h a ha,hf a r hb⟩

theorem Le.cond {A:Type} {b:Bool} {x y x' y':Option A} (h:Le x x') (h':Le y y'):Le (cond b x y) (cond b x' y'):=by
 cases b
 ·exact h'
 ·exact h

theorem Le.ite {A:Type} {p:Prop} [Decidable p] {x x':Option A} (h:Le x x'):Le (if p then x else none) (if p then x' else none):=by
 by_cases hp:p
 ·simp only [if_pos hp]; exact h
 ·simp only [if_neg hp]; exact Le.refl _

theorem rounds_mono {S X:Type} {b b':S → Option (S ⊕ X)} (h:∀ s,Le (b s) (b' s)):∀ (n:Nat) (s:S) (x:X),rounds b n s = some x → rounds b' n s = some x
 | 0,_,_,hx=>by cases hx
 | n + 1,s,x,hx=>by
  simp only [rounds] at hx ⊢
  cases hb:b s with
  | none=>rw [hb] at hx; cases hx
  | some o =>
   rw [hb] at hx
   rw [h s o hb]
   cases o with
   | inl s'=>exact rounds_mono h n s' x hx
   | inr y=>exact hx

/-- So many rounds. -/
abbrev itN {S X:Type} (n:Nat) (b:S → Option (S ⊕ X)) (s:S):Option X:=rounds b n s

theorem Le.iter {S X:Type} {b b':S → Option (S ⊕ X)} {n:Nat} {s:S} (h:∀ s,Le (b s) (b' s)):Le (rounds b n s) (iter b' s):=fun x hx=>iter_some.2 ⟨n,rounds_mono h n s x hx⟩

end Go.Sx

namespace Go.Sx
open Go Go.RowKit

/-- Cells one behind the other. -/
def CR (w:World) (cs:List Value) (ys:List TV):Prop :=
 ∀ (j:Nat) y,ys[j]? = some y → ∃ u,cs[j]? = some u ∧ FRel (fun b=>b < w.heap.size) w u y

structure Rd (P:Program) (t:TypeId) {A:Type} (z:Nat) (enc:A → List TV) (G:A → Prop):Prop where
 len:∀ a,(enc a).length = z
 cells:P.cellsOf t = z
 rd:∀ {H:Type} (eH:TypeId × Value → H) (w:World) (base:Nat) (spare:Nat → Bool) (held:Bool) (fuel:Nat) (cs:List Value) (x:DataW H × List MemPlace),DataW.trod eH P w base spare held fuel t cs = some x → ∃ a,G a ∧ cs.length = z ∧ CR w cs (enc a)

theorem CR.one {w:World} {v:Value} {y:TV} (h:FRel (fun b=>b < w.heap.size) w v y):CR w [v] [y]:=fun j y' hy=>by
 cases j with
 | zero=>simp only [List.getElem?_cons_zero,Option.some.injEq] at hy; subst hy; exact ⟨v,rfl,h⟩
 | succ j=>simp at hy

theorem Rd.int {P:Program} {t:TypeId} (k:IntKind) (hu:P.underlying t = some (.int k)) (hc:P.cellsOf t = 1):Rd P t 1 (cInt k) (fun n=>(Lit.int k n).wf = true) :=
 ⟨fun _=>rfl,hc,fun eH w base spare held fuel cs x h=>by
  obtain ⟨n,rfl,_,hw⟩:=DataW.trod_int hu h
  exact ⟨n,hw,rfl,CR.one (.int k n)⟩⟩

theorem Rd.bool {P:Program} {t:TypeId} (hu:P.underlying t = some .bool) (hc:P.cellsOf t = 1):Rd P t 1 cBool (fun _=>True) :=
 ⟨fun _=>rfl,hc,fun eH w base spare held fuel cs x h=>by
  obtain ⟨b,rfl,_⟩:=DataW.trod_bool hu h
  exact ⟨b,trivial,rfl,CR.one (.bool b)⟩⟩

theorem Rd.str {P:Program} {t:TypeId} (hu:P.underlying t = some .string) (hc:P.cellsOf t = 1):Rd P t 1 cStr (fun s=>s.length ≤ maxLen) :=
 ⟨fun _=>rfl,hc,fun eH w base spare held fuel cs x h=>by
  obtain ⟨s,rfl,_,hs⟩:=DataW.trod_string hu h
  refine ⟨s.data.toList,hs,rfl,CR.one ?_⟩
  have:=FRel.str (P:=fun b=>b < w.heap.size) (w:=w) s.data.toList
  rwa [Array.toArray_toList] at this⟩

theorem choose_list {A:Type} [Inhabited A] {p:Nat → A → Prop}:∀ (n:Nat),(∀ i,i < n → ∃ a,p i a) → ∃ l:List A,l.length = n ∧ ∀ i,i < n → p i (l.getD i default)
 | 0,_=>⟨[],rfl,fun i h=>by omega⟩
 | n + 1,h=>by
  obtain ⟨l,hl,hp⟩:=choose_list n fun i hi=>h i (by omega)
  obtain ⟨a,ha⟩:=h n (by omega)
  refine ⟨l ++ [a],by simp [hl],fun i hi=>?_⟩
  by_cases hin:i < n
  ·simp only [List.getD_eq_getElem?_getD,List.getElem?_append_left (show i < l.length by omega)]
   simpa [List.getD_eq_getElem?_getD] using hp i hin
  ·obtain rfl:i = n:=by omega
   simp only [List.getD_eq_getElem?_getD,List.getElem?_append_right (show l.length ≤ i by omega),hl,Nat.sub_self,List.getElem?_cons_zero,Option.getD_some]
   exact ha

theorem cell_spot {w:World} {a:Addr} {v:Value} (h:w.cell? a = some v):a = ⟨a.block,a.off,none⟩ ∧ a.block < w.heap.size:=by
 refine ⟨?_,World.block_lt_of_cell? w _ h⟩
 unfold World.cell? at h
 split at h
 ·cases hs:a.spot with
  | none=>cases a; simp_all
  | some q=>simp [hs] at h
 ·cases h

theorem Rd.slice {P:Program} {t e:TypeId} {A:Type} [Inhabited A] {z:Nat} {enc:A → List TV} {G:A → Prop} (hu:P.underlying t = some (.slice e)) (hc:P.cellsOf t = 1) (hz:0 < z) (he:Rd P e z enc G) :
  Rd P t 1 (cSl z enc) (fun l=>l.length ≤ maxLen ∧ ∀ x ∈ l,G x) :=
 ⟨fun _=>rfl,hc,fun eH w base spare held fuel cs x h=>by
  rcases DataW.trod_slice hu h with ⟨rfl,_⟩ | ⟨a,len,cap,elems,rest,n,_,rfl,rfl,hb,hl,hm,hlen,hel,_⟩
  ·exact ⟨[],⟨Nat.zero_le _,fun x hx=>by simp at hx⟩,rfl,CR.one (.nil none 0 z _)⟩
  ·have key:∀ i,i < len → ∃ y:A,G y ∧ ∃ cs',w.cells? base (a.add (i * z)) z = some cs' ∧ cs'.length = z ∧ CR w cs' (enc y):=by
    intro i hi
    have h1:=hel i hi
    rw [he.cells] at h1
    have h2:elems[i]? = some (elems[i]'(by omega)):=List.getElem?_eq_getElem (by omega)
    rw [h2] at h1
    obtain ⟨cs',h3,h4⟩:=Option.bind_eq_some_iff.1 h1
    obtain ⟨y,hy,hyl,hyr⟩:=he.rd eH w base spare held n cs' _ h4
    exact ⟨y,hy,cs',h3,hyl,hyr⟩
   obtain ⟨l,hll,hp⟩:=choose_list len key
   refine ⟨l,⟨by omega,fun x hx=>?_⟩,rfl,CR.one ?_⟩
   ·obtain ⟨i,hi⟩:=List.getElem?_of_mem hx
    have hlt:i < l.length:=(List.getElem?_eq_some_iff.1 hi).1
    have:=(hp i (by omega)).1
    rwa [List.getD_eq_getElem?_getD,hi] at this
   ·by_cases h0:len = 0
    ·subst h0
     obtain rfl:=List.eq_nil_of_length_eq_zero hll
     exact .nil (some a) cap z _
    ·obtain ⟨_,cs0,hc0,_,_⟩:=hp 0 (by omega)
     obtain ⟨_,hl0,hcell⟩:=World.cells?_some hc0
     have h00:=hcell 0 hz
     have hlt0:0 < cs0.length:=by omega
     rw [List.getElem?_eq_getElem hlt0,Nat.zero_mul] at h00
     have hadd:(a.add 0).add 0 = a:=by simp [Addr.add]
     rw [hadd] at h00
     obtain ⟨hsp,hblk⟩:=cell_spot h00
     rw [hsp]
     subst hll
     have hat:∀ i,i < l.length → ∃ cs':List Value,w.cells? base (a.add (i * z)) z = some cs' ∧ cs'.length = z ∧ CR w cs' (enc (l.getD i default)):=fun i hi=>(hp i hi).2
     refine .row a.block a.off cap z l.length _ (fun i j=>(w.cell? ⟨a.block,a.off + i * z + j,none⟩).getD undef) hblk hl hm (fun i _=>he.len _) (fun i j y hi hy=>?_) fun i j y hi hy=>?_
     all_goals
      obtain ⟨cs',h1,h2,h3⟩:=hat i hi
      obtain ⟨_,_,hcl⟩:=World.cells?_some h1
      obtain ⟨u,hu',hr⟩:=h3 j y hy
      have hj:j < z:=by have:=(List.getElem?_eq_some_iff.1 hu').1; omega
      have h4:=hcl j hj
      rw [hu',hsp,add_mk,add_mk] at h4
      rw [h4]
     ·rfl
     ·exact hr⟩

/-- Fields one behind the other. -/
def RdFs (P:Program) (fs:List Field) (o:Nat) {A:Type} (enc:A → List TV) (G:A → Prop):Prop :=
 ∀ {H:Type} (eH:TypeId × Value → H) (w:World) (base:Nat) (spare:Nat → Bool) (held:Bool) (fuel:Nat) (cs:List Value) (xs:List (DataW H × List MemPlace)),
  fs.mapM (fun f=>DataW.trod eH P w base spare held fuel f.type ((cs.drop f.offset).take (P.cellsOf f.type))) = some xs → ∃ a,G a ∧ CR w (cs.drop o) (enc a)

theorem RdFs.nil {P:Program} {o:Nat}:RdFs P [] o (A:=Unit) (fun _=>[]) (fun _=>True):=fun _ _ _ _ _ _ _ _ _=>⟨(),trivial,fun j y hy=>by simp at hy⟩

theorem RdFs.cons {P:Program} {f:Field} {fs:List Field} {o z:Nat} {A B:Type} {enc:A → List TV} {enc':B → List TV} {G:A → Prop} {G':B → Prop} (hf:f.offset = o) (h:Rd P f.type z enc G) (hs:RdFs P fs (o + z) enc' G') :
  RdFs P (f :: fs) o (fun p:A × B=>enc p.1 ++ enc' p.2) (fun p=>G p.1 ∧ G' p.2):=fun eH w base spare held fuel cs xs hm=>by
 rw [List.mapM_cons] at hm
 cases hx:DataW.trod eH P w base spare held fuel f.type ((cs.drop f.offset).take (P.cellsOf f.type)) with
 | none=>rw [hx] at hm; cases hm
 | some x =>
  cases hr:fs.mapM (fun f=>DataW.trod eH P w base spare held fuel f.type ((cs.drop f.offset).take (P.cellsOf f.type))) with
  | none=>rw [hx,hr] at hm; cases hm
  | some xs' =>
   obtain ⟨a,ga,_,ra⟩:=h.rd eH w base spare held fuel _ x hx
   obtain ⟨b,gb,rb⟩:=hs eH w base spare held fuel cs xs' hr
   refine ⟨(a,b),⟨ga,gb⟩,fun j y hy=>?_⟩
   by_cases hj:j < z
   ·rw [List.getElem?_append_left (by rw [h.len]; exact hj)] at hy
    obtain ⟨u,hu,hr⟩:=ra j y hy
    rw [List.getElem?_take] at hu
    split at hu
    ·exact ⟨u,by rw [← hf]; exact hu,hr⟩
    ·cases hu
   ·rw [List.getElem?_append_right (by rw [h.len]; omega),h.len] at hy
    obtain ⟨u,hu,hr⟩:=rb _ y hy
    rw [List.getElem?_drop] at hu ⊢
    exact ⟨u,by rw [show o + j = o + z + (j - z) by omega]; exact hu,hr⟩

theorem Rd.struct {P:Program} {t:TypeId} {fs:Array Field} {z:Nat} {A B:Type} {enc:A → List TV} {G:A → Prop} {encB:B → List TV} {GB:B → Prop} (hu:P.underlying t = some (.struct fs)) (hc:P.cellsOf t = z) (hlen:∀ b,(encB b).length = z) (hs:RdFs P fs.toList 0 enc G) (f:A → B) (he:∀ a,encB (f a) = enc a) (hG:∀ a,G a → GB (f a)) :
  Rd P t z encB GB :=
 ⟨hlen,hc,fun eH w base spare held fuel cs x h=>by
  cases fuel with
  | zero=>simp [DataW.trod] at h
  | succ n =>
   unfold DataW.trod at h
   rw [hu] at h
   have h':(if cs.length = P.cellsOf t then (fs.toList.mapM fun f=>DataW.trod eH P w base spare held n f.type ((cs.drop f.offset).take (P.cellsOf f.type))).map fun xs=>(DataW.agg (xs.map (·.1)),xs.flatMap (·.2)) else none) = some x:=by
    split at h <;> first | exact h | (simp_all; done)
   split at h'
   ·rename_i hl
    obtain ⟨xs,hxs,_⟩:=Option.map_eq_some_iff.1 h'
    obtain ⟨a,ga,ra⟩:=hs eH w base spare held n cs xs hxs
    exact ⟨f a,hG a ga,by rw [hl,hc],by rw [he]; simpa using ra⟩
   ·cases h'⟩

/-! ### What a law's contract gives -/

/-- What an argument reads as, whatever stands beside it. -/
def ArgOk (w:World) (v:Value) (s:SV):Prop:=∀ σ k,SR (Gh.still w) w σ k v s

inductive ArgsOk (w:World):List Value → List SV → Prop
 | nil:ArgsOk w [] []
 | cons {v s vs ss}:ArgOk w v s → ArgsOk w vs ss → ArgsOk w (v :: vs) (s :: ss)

theorem ArgsOk.at {w:World}:∀ {vs:List Value} {ss:List SV},ArgsOk w vs ss → vs.length = ss.length ∧ ∀ (k:Nat) s,ss[k]? = some s → ∃ v,vs[k]? = some v ∧ ArgOk w v s
 | _,_,.nil=>⟨rfl,fun k s h=>by simp at h⟩
 | _,_,.cons h1 h2=>by
  obtain ⟨e,ha⟩:=h2.at
  refine ⟨by simp [e],fun k s hk=>?_⟩
  cases k with
  | zero=>simp only [List.getElem?_cons_zero,Option.some.injEq] at hk; subst hk; exact ⟨_,rfl,h1⟩
  | succ k=>simp only [List.getElem?_cons_succ] at hk ⊢; exact ha k s hk

theorem ACall.law {P:Program} {f:FuncId} {ss:List SV} {W:World} {vs:Array Value} (h:ACall P f ss [] (.tv (.bool true)) []) (ha:ArgsOk W vs.toList ss) :
  Calls P f vs W fun e W'=>e = .returned (.bool true) ∧ Below W.heap.size W W':=by
 obtain ⟨hl,hat⟩:=ha.at
 have he:Ent (Gh.still W) W vs ss []:=by
  refine ⟨by simpa using hl,fun k sv hk=>?_,fun o t cs ho=>(by simp at ho),fun b b' p hb _=>(by cases hb),fun b hb=>⟨rfl,hb⟩,fun b p hb=>(by cases hb),fun b p hb=>(by cases hb)⟩
  obtain ⟨v,hv,hr⟩:=hat k sv hk
  have:vs.getD k undef = v:=by rw [Array.getD_eq_getD_getElem?,← Array.getElem?_toList,hv]; rfl
  rw [this]
  exact hr _ _
 refine (h _ W vs he).mono ?_
 rintro e W' ⟨v,g',rfl,hE⟩
 have hv:v = .bool true:=rel_bool (show TRel g' W' (.slot 0 0,[]) v (.bool true) from hE.res)
 exact ⟨by rw [hv],hE.os,hE.tape,hE.output,hE.mono,fun k hk=>hE.kept k hk rfl⟩

theorem ArgOk.one {w:World} {v:Value} {y:TV} (h:FRel (fun b=>b < w.heap.size) w v y):ArgOk w v (.tv y):=fun _ _=>.fr h

theorem ArgOk.agg {w:World} {cs:Array Value} {ys:List TV} (hl:cs.size = ys.length) (h:CR w cs.toList ys):ArgOk w (.agg cs) (.agg ys):=fun _ _ =>
 ⟨cs,rfl,hl,fun i y hy=>by
  obtain ⟨u,hu,hr⟩:=h i y hy
  exact ⟨u,by rw [← Array.getElem?_toList]; exact hu,.fr hr⟩⟩

theorem CR.get {w:World} {v:Value} {y:TV} (h:CR w [v] [y]):FRel (fun b=>b < w.heap.size) w v y:=by
 obtain ⟨u,hu,hr⟩:=h 0 y rfl
 cases hu
 exact hr

end Go.Sx

namespace Go.Sx
open Go Go.RowKit

/-- As Rd, of what is not too heavy. -/
structure RdZ (P:Program) (t:TypeId) {A:Type} (z:Nat) (enc:A → List TV) (G:A → Prop):Prop where
 len:∀ a,(enc a).length = z
 cells:P.cellsOf t = z
 rd:∀ {H:Type} (eH:TypeId × Value → H) (w:World) (base:Nat) (spare:Nat → Bool) (held:Bool) (fuel:Nat) (cs:List Value) (x:DataW H × List MemPlace),DataW.trod eH P w base spare held fuel t cs = some x → (∀ n ∈ x.1.weights P t,n ≤ reachBytes) → ∃ a,G a ∧ cs.length = z ∧ CR w cs (enc a)

theorem RdZ.of {P:Program} {t:TypeId} {A:Type} {z:Nat} {enc:A → List TV} {G:A → Prop} (h:Rd P t z enc G):RdZ P t z enc G :=
 ⟨h.len,h.cells,fun eH w base spare held fuel cs x hx _=>h.rd eH w base spare held fuel cs x hx⟩

theorem weights_all {H:Type} {P:Program} {e:TypeId}:∀ {ds:List (DataW H)} {i:Nat} {d:DataW H},ds[i]? = some d → ∀ n ∈ d.weights P e,n ∈ DataW.weightsAll P e ds
 | [],_,_,h=>by simp at h
 | d0 :: ds,0,d,h=>fun n hn=>by
  simp only [List.getElem?_cons_zero,Option.some.injEq] at h
  subst h
  simp only [DataW.weightsAll,List.mem_append]; exact .inl hn
 | d0 :: ds,i + 1,d,h=>fun n hn=>by
  simp only [List.getElem?_cons_succ] at h
  simp only [DataW.weightsAll,List.mem_append]; exact .inr (weights_all h n hn)

theorem RdZ.slice {P:Program} {t e:TypeId} {A:Type} [Inhabited A] {z B:Nat} {enc:A → List TV} {G:A → Prop} (hu:P.underlying t = some (.slice e)) (hc:P.cellsOf t = 1) (hz:0 < z) (hB:P.bytesOf e = B) (he:RdZ P e z enc G) :
  RdZ P t 1 (cSl z enc) (fun l=>(l.length ≤ maxLen ∧ l.length * B ≤ reachBytes) ∧ ∀ x ∈ l,G x) :=
 ⟨fun _=>rfl,hc,fun eH w base spare held fuel cs x h hwt=>by
  rcases DataW.trod_slice hu h with ⟨rfl,_⟩ | ⟨a,len,cap,elems,rest,n,hx,rfl,rfl,hb,hl,hm,hlen,hel,hx2⟩
  ·exact ⟨[],⟨⟨Nat.zero_le _,by simp⟩,fun x hx=>by simp at hx⟩,rfl,CR.one (.nil none 0 z _)⟩
  ·have hwt':(elems.length + rest.length) * P.bytesOf e ≤ reachBytes ∧ ∀ (i:Nat) (d:_),elems[i]? = some d → ∀ n ∈ d.1.weights P e,n ≤ reachBytes:=by

    simp only [DataW.weights,hu,List.mem_cons,List.mem_append,List.length_map] at hwt
    refine ⟨hwt _ (.inl rfl),fun i d hd n hn=>hwt n (.inr (.inl (weights_all (i:=i) (d:=d.1) ?_ n hn)))⟩
    rw [List.getElem?_map,hd]; rfl
   obtain ⟨hwt1,hwt2⟩:=hwt'
   have key:∀ i,i < len → ∃ y:A,G y ∧ ∃ cs',w.cells? base (a.add (i * z)) z = some cs' ∧ cs'.length = z ∧ CR w cs' (enc y):=by
    intro i hi
    have h1:=hel i hi
    rw [he.cells] at h1
    have h2:elems[i]? = some (elems[i]'(by omega)):=List.getElem?_eq_getElem (by omega)
    rw [h2] at h1
    obtain ⟨cs',h3,h4⟩:=Option.bind_eq_some_iff.1 h1
    obtain ⟨y,hy,hyl,hyr⟩:=he.rd eH w base spare held n cs' _ h4 (hwt2 i _ h2)
    exact ⟨y,hy,cs',h3,hyl,hyr⟩
   obtain ⟨l,hll,hp⟩:=choose_list len key
   have hBl:l.length * B ≤ reachBytes:=by
    rw [hB] at hwt1
    refine Nat.le_trans (Nat.mul_le_mul_right B ?_) hwt1
    omega
   refine ⟨l,⟨⟨by omega,hBl⟩,fun x hx=>?_⟩,rfl,CR.one ?_⟩
   ·obtain ⟨i,hi⟩:=List.getElem?_of_mem hx
    have hlt:i < l.length:=(List.getElem?_eq_some_iff.1 hi).1
    have:=(hp i (by omega)).1
    rwa [List.getD_eq_getElem?_getD,hi] at this
   ·by_cases h0:len = 0
    ·subst h0
     obtain rfl:=List.eq_nil_of_length_eq_zero hll
     exact .nil (some a) cap z _
    ·obtain ⟨_,cs0,hc0,_,_⟩:=hp 0 (by omega)
     obtain ⟨_,hl0,hcell⟩:=World.cells?_some hc0
     have h00:=hcell 0 hz
     have hlt0:0 < cs0.length:=by omega
     rw [List.getElem?_eq_getElem hlt0,Nat.zero_mul] at h00
     have hadd:(a.add 0).add 0 = a:=by simp [Addr.add]
     rw [hadd] at h00
     obtain ⟨hsp,hblk⟩:=cell_spot h00
     rw [hsp]
     subst hll
     have hat:∀ i,i < l.length → ∃ cs':List Value,w.cells? base (a.add (i * z)) z = some cs' ∧ cs'.length = z ∧ CR w cs' (enc (l.getD i default)):=fun i hi=>(hp i hi).2
     refine .row a.block a.off cap z l.length _ (fun i j=>(w.cell? ⟨a.block,a.off + i * z + j,none⟩).getD undef) hblk hl hm (fun i _=>he.len _) (fun i j y hi hy=>?_) fun i j y hi hy=>?_
     all_goals
      obtain ⟨cs',h1,h2,h3⟩:=hat i hi
      obtain ⟨_,_,hcl⟩:=World.cells?_some h1
      obtain ⟨u,hu',hr⟩:=h3 j y hy
      have hj:j < z:=by have:=(List.getElem?_eq_some_iff.1 hu').1; omega
      have h4:=hcl j hj
      rw [hu',hsp,add_mk,add_mk] at h4
      rw [h4]
     ·rfl
     ·exact hr⟩

/-- Fields of a struct, of which nothing is too heavy. -/
def RdFsZ (P:Program) (fs:List Field) (o:Nat) {A:Type} (enc:A → List TV) (G:A → Prop):Prop :=
 ∀ {H:Type} (eH:TypeId × Value → H) (w:World) (base:Nat) (spare:Nat → Bool) (held:Bool) (fuel:Nat) (cs:List Value) (xs:List (DataW H × List MemPlace)),
  fs.mapM (fun f=>DataW.trod eH P w base spare held fuel f.type ((cs.drop f.offset).take (P.cellsOf f.type))) = some xs → (∀ n ∈ DataW.weightsEach P (fs.map (·.type)) (xs.map (·.1)),n ≤ reachBytes) → ∃ a,G a ∧ CR w (cs.drop o) (enc a)

theorem RdFsZ.nil {P:Program} {o:Nat}:RdFsZ P [] o (A:=Unit) (fun _=>[]) (fun _=>True):=fun _ _ _ _ _ _ _ _ _ _=>⟨(),trivial,fun j y hy=>by simp at hy⟩

theorem RdFsZ.cons {P:Program} {f:Field} {fs:List Field} {o z:Nat} {A B:Type} {enc:A → List TV} {enc':B → List TV} {G:A → Prop} {G':B → Prop} (hf:f.offset = o) (h:RdZ P f.type z enc G) (hs:RdFsZ P fs (o + z) enc' G') :
  RdFsZ P (f :: fs) o (fun p:A × B=>enc p.1 ++ enc' p.2) (fun p=>G p.1 ∧ G' p.2):=fun eH w base spare held fuel cs xs hm hw=>by
 rw [List.mapM_cons] at hm
 cases hx:DataW.trod eH P w base spare held fuel f.type ((cs.drop f.offset).take (P.cellsOf f.type)) with
 | none=>rw [hx] at hm; cases hm
 | some x =>
  cases hr:fs.mapM (fun f=>DataW.trod eH P w base spare held fuel f.type ((cs.drop f.offset).take (P.cellsOf f.type))) with
  | none=>rw [hx,hr] at hm; cases hm
  | some xs' =>
   have hxs:x :: xs' = xs:=by
    rw [hx,hr] at hm
    exact Option.some.inj hm
   subst hxs
   simp only [List.map_cons,DataW.weightsEach,List.mem_append] at hw
   obtain ⟨a,ga,_,ra⟩:=h.rd eH w base spare held fuel _ x hx fun n hn=>hw n (.inl hn)
   obtain ⟨b,gb,rb⟩:=hs eH w base spare held fuel cs xs' hr fun n hn=>hw n (.inr hn)
   refine ⟨(a,b),⟨ga,gb⟩,fun j y hy=>?_⟩
   by_cases hj:j < z
   ·rw [List.getElem?_append_left (by rw [h.len]; exact hj)] at hy
    obtain ⟨u,hu,hr⟩:=ra j y hy
    rw [List.getElem?_take] at hu
    split at hu
    ·exact ⟨u,by rw [← hf]; exact hu,hr⟩
    ·cases hu
   ·rw [List.getElem?_append_right (by rw [h.len]; omega),h.len] at hy
    obtain ⟨u,hu,hr⟩:=rb _ y hy
    rw [List.getElem?_drop] at hu ⊢
    exact ⟨u,by rw [show o + j = o + z + (j - z) by omega]; exact hu,hr⟩

theorem RdZ.struct {P:Program} {t:TypeId} {fs:Array Field} {z:Nat} {A B:Type} {enc:A → List TV} {G:A → Prop} {encB:B → List TV} {GB:B → Prop} (hu:P.underlying t = some (.struct fs)) (hc:P.cellsOf t = z) (hlen:∀ b,(encB b).length = z) (hs:RdFsZ P fs.toList 0 enc G) (f:A → B) (he:∀ a,encB (f a) = enc a) (hG:∀ a,G a → GB (f a)) :
  RdZ P t z encB GB :=
 ⟨hlen,hc,fun eH w base spare held fuel cs x h hw=>by
  cases fuel with
  | zero=>simp [DataW.trod] at h
  | succ n =>
   unfold DataW.trod at h
   rw [hu] at h
   have h':(if cs.length = P.cellsOf t then (fs.toList.mapM fun f=>DataW.trod eH P w base spare held n f.type ((cs.drop f.offset).take (P.cellsOf f.type))).map fun xs=>(DataW.agg (xs.map (·.1)),xs.flatMap (·.2)) else none) = some x:=by
    split at h <;> first | exact h | (simp_all; done)
   split at h'
   ·rename_i hl
    obtain ⟨xs,hxs,hx⟩:=Option.map_eq_some_iff.1 h'
    subst hx
    simp only [DataW.weights,hu] at hw
    obtain ⟨a,ga,ra⟩:=hs eH w base spare held n cs xs hxs hw
    exact ⟨f a,hG a ga,by rw [hl,hc],by rw [he]; simpa using ra⟩
   ·cases h'⟩

end Go.Sx

namespace Go.Sx
open Go

theorem w64_id {n:Int} (h0:-9223372036854775808 ≤ n) (h1:n ≤ 9223372036854775807):w64 n = n:=by
 simp only [w64,IntKind.wrap,IntKind.min,IntKind.max,IntKind.signed,IntKind.bits]
 simp
 omega

theorem maxLen_le:maxLen ≤ 9223372036854775807:=by decide

theorem w64_succ {i n:Nat} (h:i < n) (hn:n ≤ maxLen):w64 ((i:Int) + 1) = ((i + 1:Nat):Int):=by
 have:=maxLen_le
 rw [w64_id (by omega) (by omega)]; omega

theorem iter_inl {S X:Type} {body:S → Option (S ⊕ X)} {s s':S} (h:body s = some (.inl s')):iter body s = iter body s':=by rw [iter_eq,h]
theorem iter_inr {S X:Type} {body:S → Option (S ⊕ X)} {s:S} {x:X} (h:body s = some (.inr x)):iter body s = some x:=by rw [iter_eq,h]

/-- A loop that ends, and what it comes to. -/
theorem iter_ind {S X:Type} (body:S → Option (S ⊕ X)) (I:S → Prop) (μ:S → Nat) (Q:S → X → Prop)
  (h:∀ s,I s → (∃ s',body s = some (.inl s') ∧ I s' ∧ μ s' < μ s ∧ ∀ x,Q s' x → Q s x) ∨ ∃ x,body s = some (.inr x) ∧ Q s x):∀ s,I s → ∃ x,iter body s = some x ∧ Q s x:=by
 have key:∀ n s,μ s = n → I s → ∃ x,iter body s = some x ∧ Q s x:=by
  intro n
  induction n using Nat.strongRecOn with
  | _ n ih =>
   intro s hn hI
   rcases h s hI with ⟨s',hb,hI',hm,hq⟩ | ⟨x,hb,hq⟩
   ·obtain ⟨x,hx,hqx⟩:=ih (μ s') (by omega) s' rfl hI'
    exact ⟨x,by rw [iter_inl hb]; exact hx,hq x hqx⟩
   ·exact ⟨x,iter_inr hb,hq⟩
 exact fun s hI=>key _ s rfl hI

/-- Over a list, by its index: F tells what is come to from the rest of the list on. -/
theorem iter_list {A X:Type} [Inhabited A] (l:List A) (hl:l.length ≤ maxLen) (body:Int → Option (Int ⊕ X)) (F:List A → Nat → X)
  (hs:∀ (i:Nat) (x:A) (r:List A),i < l.length → l.getD i default = x → l.drop i = x :: r → (body i = some (.inr (F (x :: r) i))) ∨ (body i = some (.inl (w64 ((i:Int) + 1))) ∧ F (x :: r) i = F r (i + 1)))
  (he:body (l.length:Int) = some (.inr (F [] l.length))):iter body 0 = some (F l 0):=by
 have key:∀ n i,i + n = l.length → iter body (i:Int) = some (F (l.drop i) i):=by
  intro n
  induction n with
  | zero =>
   intro i hi
   obtain rfl:i = l.length:=by omega
   rw [iter_inr he,List.drop_length]
  | succ n ih =>
   intro i hi
   have hlt:i < l.length:=by omega
   have hd:l.drop i = l[i] :: l.drop (i + 1):=List.drop_eq_getElem_cons hlt
   rcases hs i l[i] (l.drop (i + 1)) hlt (by simp [List.getD_eq_getElem?_getD,hlt]) hd with hb | ⟨hb,hF⟩
   ·rw [iter_inr hb,hd]
   ·rw [iter_inl hb,w64_succ hlt hl,hd,hF]
    exact ih (i + 1) (by omega)
 have:=key l.length 0 (by omega)
 simpa using this

/-- The same, with what holds of the state ahead of each round. -/
theorem iter_listI {A B X:Type} [Inhabited A] (l:List A) (hl:l.length ≤ maxLen) (body:B × Int → Option ((B × Int) ⊕ X)) (F:List A → Nat → B → X) (I:Nat → B → Prop)
  (hs:∀ (i:Nat) (x:A) (r:List A) (b:B),I i b → i < l.length → l.getD i default = x → l.drop i = x :: r → (body (b,(i:Int)) = some (.inr (F (x :: r) i b))) ∨ ∃ b',body (b,(i:Int)) = some (.inl (b',w64 ((i:Int) + 1))) ∧ I (i + 1) b' ∧ F (x :: r) i b = F r (i + 1) b')
  (he:∀ b,I l.length b → body (b,(l.length:Int)) = some (.inr (F [] l.length b))) (b0:B) (h0:I 0 b0):iter body (b0,0) = some (F l 0 b0):=by
 have key:∀ n i b,i + n = l.length → I i b → iter body (b,(i:Int)) = some (F (l.drop i) i b):=by
  intro n
  induction n with
  | zero =>
   intro i b hi hI
   obtain rfl:i = l.length:=by omega
   rw [iter_inr (he b hI),List.drop_length]
  | succ n ih =>
   intro i b hi hI
   have hlt:i < l.length:=by omega
   have hd:l.drop i = l[i] :: l.drop (i + 1):=List.drop_eq_getElem_cons hlt
   rcases hs i l[i] (l.drop (i + 1)) b hI hlt (by simp [List.getD_eq_getElem?_getD,hlt]) hd with hb | ⟨b',hb,hI',hF⟩
   ·rw [iter_inr hb,hd]
   ·rw [iter_inl hb,w64_succ hlt hl,hd,hF]
    exact ih (i + 1) b' (by omega) hI'
 have:=key l.length 0 b0 (by omega) h0
 simpa using this

theorem cond_or {b c:Bool}:cond b (some true) (some c) = some (b || c):=by cases b <;> rfl
theorem cond_and {b c:Bool}:cond b (some c) (some false) = some (b && c):=by cases b <;> rfl
end Go.Sx
