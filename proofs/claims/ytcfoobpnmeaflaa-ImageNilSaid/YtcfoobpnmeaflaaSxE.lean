
/- Operations on slices whose elements own: stores; no condition. -/
import Derived.Test.YtcfoobpnmeaflaaSxD
import Derived.Test.YtcfoobpnmeaflaaSxC
import Derived.Test.YtcfoobpnmeaflaaSxB
namespace Go.Sx
open Go

/-- Where a pointer into an element leads, if k cells lie there. -/
def peAt (k:Nat):SV → Option (Root × Nat × Nat × Nat)
 | .pe (r,[]) i j z=>match Nat.ble (j + k) z with | true=>some (r,i,j,z) | false=>none
 | .pa (r,[]) i j m q z=>match Nat.beq k 1 && Nat.ble (j + m) z with | true=>some (r,i,j + q,z) | false=>none
 | _=>none

section
variable {X:Ctx} {g:Gh} {σ:AState} {a:Act} {w:World} {T:Tab}

theorem peAt_rel {k:Nat} {s:SV} {r:Root} {i j z:Nat} (h:peAt k s = some (r,i,j,z)) {q:Nat} {v:Value} (hr:SR g w σ q v s) :
  ∃ b e n f,σ.look (r,[]) = some (.own z e n f) ∧ i < n ∧ g.ow b = some (r,[]) ∧ v = .pointer (some ⟨b,i * z + j,none⟩) ∧ j + k ≤ z:=by
 unfold peAt at h
 split at h
 ·split at h
  ·rename_i hb
   cases h
   obtain ⟨b,e,n,f,hl,hi,hb',hv⟩:=hr
   exact ⟨b,e,n,f,hl,hi,hb',hv,Nat.le_of_ble_eq_true hb⟩
  ·cases h
 ·rename_i r' i' j' m q' z'
  split at h
  ·rename_i hb
   cases h
   simp only [Bool.and_eq_true] at hb
   obtain ⟨b,e,n,f,hl,hi,hb',hv,hq⟩:=hr
   have h1:=Nat.eq_of_beq_eq_true hb.1
   have h2:=Nat.le_of_ble_eq_true hb.2
   exact ⟨b,e,n,f,hl,hi,hb',hv,by omega⟩
  ·cases h
 ·cases h

theorem storeN_sound (hT:TabOk X.P T) (hs:Sat X g σ a w) {t:TypeId} {p x:Operand} {n:Nat} (hn:T.size t = some n) {ys:List TV} (hx:cellsOf (σ.ev x) = some ys) (hl:ys.length = n)
  {o:Oper} (ho:o.op = .store t p x) (hdst:o.dst = none) {r:Root} {i j z:Nat} {e:TypeId} {n':Nat} {f f':Nat → List TV} (hp:peAt ys.length (σ.ev p) = some (r,i,j,z)) (hown:σ.ownAt r = some (.own z e n' f))
  (hf:∀ q,q < n' → setElem f i (putAt (f i) j ys) q = f' q):Comes2 X ((σ.drop (deepD r (lastIn i j ys.length))).setRoot r (.own z e n' f')) a w o:=by
 have hc:=cellsOf_rel hs hx
 obtain ⟨i0,hi0,hsz0⟩:=hT.info hn
 obtain ⟨k,hk⟩:=ev_rel hs p
 have hlen:(a.eval x).cells.toList.length = ys.length:=by rw [Array.length_toList]; exact hc.1
 have hrel:∀ (i:Nat) y,ys[i]? = some y → ∃ u,(a.eval x).cells.toList[i]? = some u ∧ u.oneCell' = true ∧ (y = .hole ∨ FRel g.P w u y):=fun i y hy=>by
  obtain ⟨u,hu,hr⟩:=hc.2 i y hy
  exact ⟨u,by rw [Array.getElem?_toList]; exact hu,hr.one,.inr hr⟩
 obtain ⟨b,e2,n2,f2,hl2,hi,hb,hv,hfit⟩:=peAt_rel hp hk
 have hroot:=(ownAt_root hown).2.1
 have:σ.look (r,[]) = some (.own z e n' f):=hroot
 rw [this] at hl2
 cases hl2
 obtain ⟨w',hrun,hs',_⟩:=hs.storeEN hown hi hlen hfit hrel hb hf
 refine ⟨.skip,w',_,?_,.inr ⟨rfl,by rw [hdst]; exact hs'⟩⟩
 simp only [execOp,ho,Instr.storeAt,hv,Instr.sureAddr,pure_bind,storeVar,Sem.run_bind,run_size hi0,Result.andThen_ok]
 rw [if_neg (by rw [hc.1,hl,hsz0]; simp)]
 simp only [hrun,Result.andThen_ok,Sem.run_pure]
/-- A slot's value anew, by other labels. -/
theorem Sat.slotNew (h:Sat X g σ a w) {d:Nat} {x:TV} {g':Gh} (hgm:g'.m = g.m) (hgP:g'.P = g.P) (hkp:∀ b p,g.ow b = some p → under d p = false → g'.ow b = some p)
  (hback:∀ b p,g'.ow b = some p → (g.ow b = some p ∧ under d p = false) ∨ (under d p = true ∧ b < w.heap.size ∧ (X.w0.heap.size ≤ b ∨ X.g0.ow b ≠ none) ∧ ¬ g.P b)) (hinj:∀ b b' p,g'.ow b = some p → g'.ow b' = some p → under d p = true → b = b')
  (hx:TRel g' w (.slot d 0,[]) (a.tmps.getD d undef) x):Sat X g' (σ.fix d x) a w:=by
 have U:Up g g' σ (σ.fix d x) w w (under d) :=
  ⟨fun b hb=>⟨by rw [hgP]; exact hb,rfl⟩,fun b p hb hp=>⟨hkp b p hb hp,rfl⟩,fun p hp z e n f hl=>by rw [look_fix _ _ _ _ hp]; exact hl,fun o _ ho=>⟨by rw [hgm],ho⟩⟩
 refine ⟨h.defers,h.size,fun q=>?_,fun o t cs ho=>?_,fun b b' p hb hb'=>?_,fun b hb=>?_,fun b p hb=>?_,fun b p hb=>?_,fun b hb=>h.P0 b (by rw [← hgP]; exact hb),fun b hb=>(by rw [hgP]; exact h.P1 b hb),h.kept,h.os,h.tape,h.output,h.mono,fun o ho=>by rw [hgm]; exact h.m0 o ho,h.h0⟩
 ·rw [get_fix]
  by_cases hq:q = d
  ·subst hq; simp only [if_true]; exact hx
  ·rw [if_neg hq]; exact U.slot (fun j st=>under_slot hq j st) (h.env q)
 ·obtain ⟨c,h1,h2,h3,h4⟩:=h.heap o t cs ho
  rw [hgm]
  refine ⟨c,h1,hkp _ _ h2 rfl,h3,fun i y hy=>?_⟩
  obtain ⟨u,hu,hr⟩:=h4 i y hy
  exact ⟨u,hu,U.tv (fun _=>rfl) hr⟩
 ·rcases hback b p hb with ⟨e1,e2⟩ | ⟨e1,_⟩
  ·rcases hback b' p hb' with ⟨e3,_⟩ | ⟨e3,_⟩
   ·exact h.inj b b' p e1 e3
   ·rw [e2] at e3; cases e3
  ·exact hinj b b' p hb hb' e1
 ·rw [hgP] at hb
  refine ⟨?_,(h.frozen b hb).2⟩
  cases hq:g'.ow b with
  | none=>rfl
  | some p =>
   rcases hback b p hq with ⟨e1,_⟩ | ⟨_,_,_,e1⟩
   ·rw [(h.frozen b hb).1] at e1; cases e1
   ·exact absurd hb e1
 ·rcases hback b p hb with ⟨e1,_⟩ | ⟨_,e2,e3,_⟩
  ·exact h.lt b p e1
  ·exact ⟨e2,e3⟩
 ·rcases hback b p hb with ⟨e1,_⟩ | ⟨e1,_⟩
  ·exact h.ids b p e1
  ·obtain ⟨j,e⟩:=under_iff.1 e1
   rw [e]; trivial

/-- What an alias reads as, if it is the owner. -/
theorem claim_relP (hs:Sat X g σ a w) {d:Nat} {p:Path} {z:Nat} {e:TypeId} {n:Nat} {f:Nat → List TV} (hd:σ.get d = .al p) (hx:σ.look p = some (.own z e n f)) (hr:∀ o,p.1 ≠ .obj o):TRel g w p (a.tmps.getD d undef) (.own z e n f):=by
 have hk:=hs.env d
 rw [hd] at hk
 obtain ⟨z',e',n',f',hl,hv⟩:=hk
 rw [hx] at hl
 cases hl
 obtain ⟨r,st⟩:=p
 obtain ⟨v',hr'⟩:=look_rel hs hx hr
 rcases hv with ⟨h1,rfl⟩ | ⟨b,cap,c,hb,hv,hrow,hc,h1,h2⟩
 ·rw [h1]; exact .nil z e f
 ·rw [hv]
  rcases own_inv hr' with ⟨_,rfl⟩ | ⟨b',cap',c',cs,k1,k2,k3,k4,k5,k6,k7,k8,k9⟩
  ·exact .own b cap z e 0 f c (fun _ _=>undef) hb hrow hc (Nat.zero_le _) h2 (fun i hi=>absurd hi (Nat.not_lt_zero _)) (fun i j y hi=>absurd hi (Nat.not_lt_zero _)) (fun i j y hi=>absurd hi (Nat.not_lt_zero _))
  ·obtain rfl:b' = b:=hs.inj b' b _ k1 hb
   obtain ⟨fr,e1,e1'⟩:=k3
   obtain ⟨fr',e2,_⟩:=hrow
   rw [e1] at e2
   cases e2
   exact .own b' cap z e n f _ cs hb ⟨fr,e1,e1'⟩ hc h1 h2 k7 k8 k9

theorem lastIn_one {i j:Nat} {st:Steps} (h:lastIn i j 1 st = true):∃ st0,st = st0 ++ [(i,j)]:=by
 rcases st_cases st with rfl | ⟨st0,q,t,rfl⟩
 ·cases h
 ·rw [lastIn_snoc] at h
  simp only [Bool.and_eq_true] at h
  have h1:=Nat.eq_of_beq_eq_true h.1
  have h2:=Nat.le_of_ble_eq_true h.2.1
  have h3:t < j + 1:=Nat.le_of_ble_eq_true h.2.2
  obtain rfl:t = j:=by omega
  exact ⟨st0,by rw [h1]⟩

theorem lastIn_self {i j:Nat} {st:Steps}:lastIn i j 1 (st ++ [(i,j)]) = true:=by
 rw [lastIn_snoc]
 simp only [Bool.and_eq_true]
 exact ⟨Nat.beq_refl i,Nat.ble_eq_true_of_le (Nat.le_refl _),Nat.ble_eq_true_of_le (Nat.lt_succ_self _)⟩

/-- What a cell of an element owns goes to a slot. -/
def Gh.upN (g:Gh) (r:Root) (i j d:Nat):Gh :=
 { g with ow:=fun b=>match g.ow b with
  | some p=>(match deepD r (lastIn i j 1) p with | true=>some (.slot d 0,p.2.dropLast) | false=>(match under d p with | true=>none | false=>some p))
  | none=>none }

/-- An alias of what an element owns becomes the owner. -/
theorem Sat.claimN (h:Sat X g σ a w) {d:Nat} {r:Root} {i j z:Nat} {e:TypeId} {n:Nat} {f f':Nat → List TV} {z1:Nat} {e1:TypeId} {n1:Nat} {f1:Nat → List TV} (hd:σ.get d = .al (r,[(i,j)])) (hown:σ.ownAt r = some (.own z e n f)) (hj:j < z) (hx:(f i)[j]? = some (.own z1 e1 n1 f1))
  (hr:under d (r,[]) = false) (hf':∀ q,q < n → setElem f i ((f i).set j .hole) q = f' q):Sat X (g.upN r i j d) (((σ.drop (deepD r (lastIn i j 1))).setRoot r (.own z e n f')).fix d (.own z1 e1 n1 f1)) a w:=by
 have hroot:=(ownAt_root hown).2.1
 have hsim:=(ownAt_root hown).1
 have hi:i < n:=by
  have hk:=h.env d
  rw [hd] at hk
  obtain ⟨z',e',n',f0,hl,_⟩:=hk
  have hl':(σ.look (r,[])).bind (elemTV (i,j)) = some (.own z' e' n' f0):=hl
  have hr':σ.look (r,[]) = some (.own z e n f):=hroot
  rw [hr',Option.bind_some] at hl'
  simp only [elemTV] at hl'
  split at hl'
  ·rename_i hd'; exact of_decide_eq_true hd'
  ·cases hl'
 have hlook:σ.look (r,[(i,j)]) = some (.own z1 e1 n1 f1):=by
  have hl':σ.look (r,[]) = some (.own z e n f):=hroot
  show (σ.look (r,[])).bind (elemTV (i,j)) = _
  rw [hl',Option.bind_some]
  simp only [elemTV,hi,decide_true]
  exact hx
 have hrel:=claim_relP h hd hlook (by rintro o rfl; cases hsim)
 have h1:=h.cellN hown hi hj (x:=.hole) hf' (g':=g.clr (deepD r (lastIn i j 1))) rfl rfl (fun _ _ hk hp=>clr_some.2 ⟨hk,hp⟩) (fun _ _ hk=>.inl (clr_some.1 hk)) (fun _ _ _ hk _ hp=>by rw [(clr_some.1 hk).2] at hp; cases hp) fun _ _ _ _=>.hole
 have key:∀ b p,(g.upN r i j d).ow b = some p → (∃ st0,p = (.slot d 0,st0) ∧ g.ow b = some (r,st0 ++ [(i,j)])) ∨ (g.ow b = some p ∧ deepD r (lastIn i j 1) p = false ∧ under d p = false):=fun b p hb=>by
  simp only [Gh.upN] at hb
  split at hb
  ·rename_i q hq
   split at hb
   ·rename_i hD
    cases hb
    obtain ⟨q0,st⟩:=q
    simp only [deepD,Bool.and_eq_true,decide_eq_true_eq] at hD
    obtain ⟨st0,rfl⟩:=lastIn_one hD.1
    refine .inl ⟨st0,by simp,?_⟩
    rw [hq,hD.2]
   ·rename_i hD
    split at hb
    ·cases hb
    ·rename_i hu
     cases hb
     exact .inr ⟨hq,hD,hu⟩
  ·cases hb
 have hup:∀ b st,g.ow b = some (r,st ++ [(i,j)]) → (g.upN r i j d).ow b = some (.slot d 0,st):=fun b st hb=>by
  simp only [Gh.upN,hb,deepD_at,lastIn_self,List.dropLast_concat]
 refine h1.slotNew rfl rfl (fun b p hb hu=>?_) (fun b p hb=>?_) (fun b b' p hb hb' hu=>?_) ?_
 ·obtain ⟨k1,k2⟩:=clr_some.1 hb
  simp only [Gh.upN,k1,k2,hu]
 ·rcases key b p hb with ⟨st0,rfl,hb0⟩ | ⟨k1,k2,k3⟩
  ·exact .inr ⟨under_iff.2 ⟨0,rfl⟩,(h.lt _ _ hb0).1,(h.lt _ _ hb0).2,fun hp=>by rw [(h.frozen _ hp).1] at hb0; cases hb0⟩
  ·exact .inl ⟨clr_some.2 ⟨k1,k2⟩,k3⟩
 ·rcases key b p hb with ⟨st0,rfl,hb0⟩ | ⟨k1,k2,k3⟩
  ·rcases key b' _ hb' with ⟨st1,e,hb1⟩ | ⟨k1,k2,k3⟩
   ·cases e
    exact h.inj b b' _ hb0 hb1
   ·rw [k3] at hu; cases hu
  ·rw [k3] at hu; cases hu
 ·exact hrel.under (fun b hb=>⟨hb,rfl⟩) fun b st hb=>⟨by rw [hup b st hb]; simp,rfl⟩

/-- What a slot owns goes into a cell of an element. -/
def Gh.downN (g:Gh) (r:Root) (i j s:Nat):Gh :=
 { g with ow:=fun b=>match g.ow b with
  | some p=>(match under s p with | true=>(match decide (p.1 = .slot s 0) with | true=>some (r,p.2 ++ [(i,j)]) | false=>none) | false=>(match deepD r (lastIn i j 1) p with | true=>none | false=>some p))
  | none=>none }

/-- A store of what a slot owns into a cell of an element. -/
theorem storeNO_sound (hT:TabOk X.P T) (hs:Sat X g σ a w) {t:TypeId} {p:Operand} {s:Nat} (hn:T.size t = some 1) {x:TV} (hx:σ.get s = .tv x) (hxh:x ≠ .hole)
  {o:Oper} (ho:o.op = .store t p (.tmp s)) (hdst:o.dst = none) {r:Root} {i j z:Nat} {e:TypeId} {n':Nat} {f f':Nat → List TV} (hp:peAt 1 (σ.ev p) = some (r,i,j,z)) (hown:σ.ownAt r = some (.own z e n' f))
  (hrs:under s (r,[]) = false) (hf:∀ q,q < n' → setElem f i (putAt (f i) j [x]) q = f' q) {V:Value} (hV:V = a.tmps.getD s undef) :
  Comes2 X (((((σ.drop (deepD r (lastIn i j 1))).setRoot r (.own z e n' (setElem f i (putAt (f i) j [.hole])))).fix s (.sc V)).drop (deepD r (lastIn i j 1))).setRoot r (.own z e n' f')) a w o:=by
 subst hV
 obtain ⟨i0,hi0,hsz0⟩:=hT.info hn
 obtain ⟨k,hk⟩:=ev_rel hs p
 obtain ⟨b,e2,n2,f2,hl2,hi,hb,hv,hfit⟩:=peAt_rel hp hk
 obtain ⟨hsim,hroot,hsl⟩:=ownAt_root hown
 have:σ.look (r,[]) = some (.own z e n' f):=hroot
 rw [this] at hl2
 cases hl2
 have hrel:TRel g w (.slot s 0,[]) (a.tmps.getD s undef) x:=by have:=hs.env s; rw [hx] at this; exact this
 have hone:=hrel.one hxh
 obtain ⟨w',hrun,h1,hgo,hcell⟩:=hs.storeEN (ys:=[.hole]) (vs:=[a.tmps.getD s undef]) hown hi rfl hfit (fun q y hy=>by
  cases q with
  | zero=>exact ⟨_,rfl,hone,.inl (by simpa using hy.symm)⟩
  | succ q=>simp at hy) hb (f':=setElem f i (putAt (f i) j [.hole])) (fun _ _=>rfl)
 have hrs':∀ st,under s (r,st) = false:=fun st=>hrs
 have hget:((σ.drop (deepD r (lastIn i j 1))).setRoot r (.own z e n' (setElem f i (putAt (f i) j [.hole])))).get s = .tv x:=by
  have e1:(σ.drop (deepD r (lastIn i j 1))).get s = .tv x:=by rw [get_drop,hx]; rfl
  cases r with
  | slot k' j' =>
   have hne:s ≠ k':=by rintro rfl; rw [under_iff.2 ⟨j',rfl⟩] at hrs; cases hrs
   simp only [AState.setRoot,get_set,if_neg hne]; exact e1
  | cell o off=>exact e1
  | obj o=>cases hsim
 have hrel1:TRel (g.clr (deepD r (lastIn i j 1))) w' (.slot s 0,[]) (a.tmps.getD s undef) x:=by have:=h1.env s; erw [hget] at this; exact this
 have h2:=h1.refix (s:=s) (x:=.sc (a.tmps.getD s undef)) (g':=(g.clr (deepD r (lastIn i j 1))).clr (under s)) rfl (fun _ hb=>hb) (fun b p hb hp=>clr_some.2 ⟨hb,hp⟩) (fun b p hb=>(clr_some.1 hb).1) (fun b hb=>.inl hb) (fun b hb=>clr_none (h1.frozen b hb).1) (.fr (.sc _ hone)) rfl
 have hown2:(((σ.drop (deepD r (lastIn i j 1))).setRoot r (.own z e n' (setElem f i (putAt (f i) j [.hole])))).fix s (.sc (a.tmps.getD s undef))).ownAt r = some (.own z e n' (setElem f i (putAt (f i) j [.hole]))):=by
  have hroot':(σ.drop (deepD r (lastIn i j 1))).rootTV r = some (.own z e n' f):=by rw [rootTV_drop]; exact hroot
  have e0:=rootTV_setRoot (σ:=σ.drop (deepD r (lastIn i j 1))) (x:=.own z e n' (setElem f i (putAt (f i) j [.hole]))) hsim hroot'
  cases r with
  | slot k' j' =>
   have hne:k' ≠ s:=by rintro rfl; rw [under_iff.2 ⟨j',rfl⟩] at hrs; cases hrs
   cases j' with
   | succ j'=>cases hsim
   | zero =>
    simp only [AState.ownAt,get_fix,if_neg hne,AState.setRoot,get_set,if_true]
    rfl
  | cell o off=>exact e0
  | obj o=>cases hsim
 have h3:=h2.cellN (j:=j) hown2 hi (by omega) (x:=x) (f':=f') (fun q hq=>by
  rw [← hf q hq]
  by_cases hqi:q = i
  ·subst hqi; rw [setElem_eq,setElem_eq,setElem_eq]; simp [putAt]
  ·rw [setElem_ne _ _ hqi,setElem_ne _ _ hqi,setElem_ne _ _ hqi]) (g':=g.downN r i j s) rfl rfl ?k1 ?k2 ?k3 ?k4
 case k1 =>
  intro b p hb hp
  obtain ⟨hb,hu⟩:=clr_some.1 hb
  obtain ⟨hb,hD⟩:=clr_some.1 hb
  simp only [Gh.downN,hb,hu,hD]
 case k2 =>
  intro b p hb
  simp only [Gh.downN] at hb
  split at hb
  ·rename_i q hq
   split at hb
   ·split at hb
    ·cases hb
     have hb0:=(hs.lt _ _ hq)
     refine .inr ⟨by rw [deepD_at]; exact lastIn_self,Nat.lt_of_lt_of_le hb0.1 hgo.size,hb0.2,fun hP=>by have hP':g.P b:=hP; rw [(hs.frozen _ hP').1] at hq; cases hq⟩
    ·cases hb
   ·rename_i hu
    split at hb
    ·cases hb
    ·rename_i hD
     cases hb
     exact .inl ⟨clr_some.2 ⟨clr_some.2 ⟨hq,hD⟩,hu⟩,hD⟩
  ·cases hb
 case k3 =>
  have key:∀ b p,(g.downN r i j s).ow b = some p → deepD r (lastIn i j 1) p = true → ∃ st,p = (r,st ++ [(i,j)]) ∧ g.ow b = some (.slot s 0,st):=fun b p hb hD=>by
   simp only [Gh.downN] at hb
   split at hb
   ·rename_i q hq
    split at hb
    ·split at hb
     ·rename_i hd
      cases hb
      obtain ⟨q0,st⟩:=q
      have hd:=of_decide_eq_true hd
      simp only at hd
      subst hd
      exact ⟨st,rfl,hq⟩
     ·cases hb
    ·split at hb
     ·cases hb
     ·rename_i hD'
      cases hb
      rw [hD] at hD'; cases hD'
   ·cases hb
  intro b b' p hb hb' hD
  obtain ⟨st,rfl,e1⟩:=key b p hb hD
  obtain ⟨st',e3,e2⟩:=key b' _ hb' hD
  have:st = st':=by have:=congrArg Prod.snd e3; simpa using this
  subst this
  exact hs.inj b b' _ e1 e2
 case k4 =>
  intro b2 u hb2 hu
  have:b2 = b:=by
   obtain ⟨hb2,_⟩:=clr_some.1 hb2
   obtain ⟨hb2,_⟩:=clr_some.1 hb2
   exact hs.inj _ _ _ hb2 hb
  subst this
  have hc:=hcell 0 _ rfl
  rw [Nat.add_zero] at hc
  rw [hc] at hu
  cases hu
  refine hrel1.under (fun b hb=>⟨hb,rfl⟩) fun b st hb=>⟨?_,rfl⟩
  obtain ⟨hb,_⟩:=clr_some.1 hb
  rw [List.append_nil] at hb
  have hu:under s ((Root.slot s 0,st):Path) = true:=under_iff.2 ⟨0,rfl⟩
  simp only [Gh.downN,hb,hu,decide_true]
 refine ⟨.skip,w',_,?_,.inr ⟨rfl,by rw [hdst]; exact h3⟩⟩
 have hce:(a.tmps.getD s undef).cells = #[a.tmps.getD s undef]:=by
  revert hone
  generalize a.tmps.getD s undef = v
  intro hone
  cases v <;> first | rfl | cases hone
 have he:a.eval (.tmp s) = a.tmps.getD s undef:=rfl
 simp only [execOp,ho,Instr.storeAt,hv,Instr.sureAddr,pure_bind,storeVar,Sem.run_bind,run_size hi0,Result.andThen_ok,he,hce]
 rw [if_neg (by rw [hsz0]; simp)]
 simp only [hrun,Result.andThen_ok,Sem.run_pure]
end

section
variable {F:Cfg} {σ:AState} {ops:Array Oper}

/-- A store into an element, or into an array in it. -/
theorem AOne.storeN {i0:Nat} {t:TypeId} {p x:Operand} (o:Oper) (ho:ops[i0]? = some o) (hop:o.op = .store t p x) (hdst:o.dst = none) (hg:guardV ops σ o = some true) {ys:List TV} {n:Nat} (hn:F.T.size t = some n) (hx:cellsOf (σ.ev x) = some ys) (hl:ys.length = n)
  {r:Root} {i j z:Nat} {e:TypeId} {n' n2:Nat} {f f':Nat → List TV} (hp:peAt ys.length (σ.ev p) = some (r,i,j,z)) (hown:σ.ownAt r = some (.own z e n' f)) (hf:∀ q,q < n' → setElem f i (putAt (f i) j ys) q = f' q) (hnn:n' = n2)
  {σ':AState} (hσ:(σ.drop (deepD r (lastIn i j ys.length))).setRoot r (.own z e n2 f') = σ'):AOne F ops i0 σ σ' :=
 AOne.comes o ho hg fun w0 g0 g a w hs=>hσ ▸ hnn ▸ storeN_sound F.ok hs hn hx hl hop hdst hp hown hf

/-- A store of what a slot owns into a cell of an element; less is kept behind it. -/
theorem AOne.storeNO {i0:Nat} {t:TypeId} {p:Operand} {s:Nat} (o:Oper) (ho:ops[i0]? = some o) (hop:o.op = .store t p (.tmp s)) (hdst:o.dst = none) (hg:guardV ops σ o = some true) (hn:F.T.size t = some 1) {x:TV} (hx:σ.get s = .tv x) (hxh:x ≠ .hole)
  {r:Root} {i j z:Nat} {e:TypeId} {n' n2:Nat} {f f':Nat → List TV} (hp:peAt 1 (σ.ev p) = some (r,i,j,z)) (hown:σ.ownAt r = some (.own z e n' f)) (hrs:under s (r,[]) = false) (hf:∀ q,q < n' → setElem f i (putAt (f i) j [x]) q = f' q) (hnn:n' = n2)
  {σ':AState} (ks:List Nat) (nh:Nat) (hn0:F.h0 ≤ nh)
  (hσ:∀ V,(((((σ.drop (deepD r (lastIn i j 1))).setRoot r (.own z e n' (setElem f i (putAt (f i) j [.hole])))).fix s (.sc V)).drop (deepD r (lastIn i j 1))).setRoot r (.own z e n2 f')).keep ks nh = σ'):AOne F ops i0 σ σ' :=
 AOne.comes o ho hg fun w0 g0 g a w hs=>by
  subst hnn
  obtain ⟨n,w',g',h1,h2⟩:=storeNO_sound F.ok hs hn hx hxh hop hdst hp hown hrs hf rfl
  rcases h2 with ⟨v,e1,h2⟩ | ⟨e1,h2⟩
  ·have h3:=h2.keep ks nh hn0 h2.h0
   rw [hσ] at h3
   exact ⟨n,w',_,h1,.inl ⟨v,e1,h3⟩⟩
  ·have h3:=h2.keep ks nh hn0 h2.h0
   rw [hσ] at h3
   exact ⟨n,w',_,h1,.inr ⟨e1,h3⟩⟩

variable {Q:Exit → AState → Prop}

/-- An alias of what an element owns becomes the owner. -/
theorem AOps.claimN {l:List Nat} (d:Nat) (r:Root) (i j:Nat) {z:Nat} {e:TypeId} {n:Nat} {f f':Nat → List TV} {z1:Nat} {e1:TypeId} {n1:Nat} {f1:Nat → List TV} (hd:σ.get d = .al (r,[(i,j)])) (hown:σ.ownAt r = some (.own z e n f)) (hj:Nat.blt j z = true) (hx:(f i)[j]? = some (.own z1 e1 n1 f1))
  (hr:under d (r,[]) = false) (hf':∀ q,q < n → setElem f i ((f i).set j .hole) q = f' q) (h:AOps F ops Q l (((σ.drop (deepD r (lastIn i j 1))).setRoot r (.own z e n f')).fix d (.own z1 e1 n1 f1))):AOps F ops Q l σ:=fun w0 g0 _ a w hs =>
 h w0 g0 _ a w (hs.claimN hd hown (Nat.le_of_ble_eq_true hj) hx hr hf')

theorem AAny.claimN {K:AState → Prop} {fuel:Nat} {ls:Array Bool} (d:Nat) (r:Root) (i j:Nat) {z:Nat} {e:TypeId} {n:Nat} {f f':Nat → List TV} {z1:Nat} {e1:TypeId} {n1:Nat} {f1:Nat → List TV} (hd:σ.get d = .al (r,[(i,j)])) (hown:σ.ownAt r = some (.own z e n f)) (hj:Nat.blt j z = true) (hx:(f i)[j]? = some (.own z1 e1 n1 f1))
  (hr:under d (r,[]) = false) (hf':∀ q,q < n → setElem f i ((f i).set j .hole) q = f' q) (h:AAny F ops K fuel ls (((σ.drop (deepD r (lastIn i j 1))).setRoot r (.own z e n f')).fix d (.own z1 e1 n1 f1))):AAny F ops K fuel ls σ:=fun w0 g0 _ a w hb hs =>
 h w0 g0 _ a w hb (hs.claimN hd hown (Nat.le_of_ble_eq_true hj) hx hr hf')
end
end Go.Sx

namespace Go.Sx
open Go

theorem frel_sc {P:Nat → Prop} {w:World} {v u:Value} (h:FRel P w v (.sc u)):v = u:=by cases h; rfl

def objR (ob:Nat) (p:Path):Bool:=match p.1 with
 | .obj o=>Nat.beq o ob
 | .cell o _=>Nat.beq o ob
 | .slot ..=>false

def setGone:List AObj → Nat → List AObj
 | [],_=>[]
 | _ :: r,0=>.dead :: r
 | x :: r,o + 1=>x :: setGone r o

theorem setGone_length:∀ (h:List AObj) (o:Nat),(setGone h o).length = h.length
 | [],_=>rfl
 | _ :: _,0=>rfl
 | _ :: r,o + 1=>by simp [setGone,setGone_length r o]

theorem setGone_ne:∀ (h:List AObj) (o k:Nat),k ≠ o → (setGone h o)[k]? = h[k]?
 | [],_,_,_=>rfl
 | _ :: _,0,0,h=>absurd rfl h
 | _ :: _,0,k + 1,_=>rfl
 | _ :: _,_ + 1,0,_=>rfl
 | _ :: r,o + 1,k + 1,h=>by simpa [setGone] using setGone_ne r o k (fun e=>h (by omega))

theorem setGone_some:∀ (h:List AObj) (o k:Nat) {t:TypeId} {cs:List TV},(setGone h o)[k]? = some (.cells t cs) → k ≠ o ∧ h[k]? = some (.cells t cs)
 | [],_,_,_,_,h=>by simp [setGone] at h
 | _ :: _,0,0,_,_,h=>by simp [setGone] at h
 | _ :: _,0,k + 1,_,_,h=>⟨by omega,by simpa [setGone] using h⟩
 | _ :: _,_ + 1,0,_,_,h=>⟨by omega,by simpa [setGone] using h⟩
 | _ :: r,o + 1,k + 1,_,_,h=>by
  have:=setGone_some r o k (by simpa [setGone] using h)
  exact ⟨by omega,by simpa using this.2⟩

/-- An object is known no more. -/
def AState.bury (σ:AState) (ob:Nat):AState:={ (σ.drop (objR ob)) with heap:=setGone σ.heap ob }

section
variable {X:Ctx} {g:Gh} {σ:AState} {a:Act} {w:World} {T:Tab}

theorem Sat.bury (h:Sat X g σ a w) (ob:Nat):Sat X (g.clr (objR ob)) (σ.bury ob) a w:=by
 refine h.less (objR ob) (fun k=>.inr ⟨get_drop σ _ k,fun _ _=>rfl⟩) (fun o t cs ho=>?_) (fun p hp z e n f hl=>?_) (fun p _ hi=>?_) (fun o _ ho=>?_) ?_
 ·obtain ⟨hne,h0⟩:=setGone_some _ _ _ ho
  have hb:Nat.beq o ob = false:=beq_ne hne
  exact ⟨cs,h0,rfl,by simp only [objR,hb],fun i y hy=>.inr ⟨hy,fun st=>by simp only [objR,hb]⟩⟩
 ·rw [look_eq (σ:=σ)]
  ·exact hl
  ·obtain ⟨r,st⟩:=p
   cases r with
   | slot k j=>exact rootTV_drop σ _ (.slot k j)
   | cell o i =>
    have hne:o ≠ ob:=by rintro rfl; simp [objR] at hp
    simp only [AState.rootTV,AState.bury]
    rw [setGone_ne _ _ _ hne]
   | obj o=>rfl
 ·have e:(σ.bury ob).heap.length = σ.heap.length:=setGone_length _ _
  rw [e]; exact hi
 ·have e:(σ.bury ob).heap.length = σ.heap.length:=setGone_length _ _
  rw [e]; exact ho
 ·have e:(σ.bury ob).heap.length = σ.heap.length:=setGone_length _ _
  rw [e]; exact h.h0

/-- Memory that nobody owns or sees is written. -/
theorem Sat.goes (h:Sat X g σ a w) {nb:Nat} {w':World} (hw:Goes w w' nb) (ho:g.ow nb = none) (hP:¬ g.P nb) (hnew:X.w0.heap.size ≤ nb ∨ X.g0.ow nb ≠ none):Sat X g σ a w':=by
 have hPs:∀ b,g.P b → g.P b ∧ w'.heap[b]? = w.heap[b]?:=fun b hb=>⟨hb,hw.heap b (h.frozen b hb).2 (fun e=>hP (e ▸ hb))⟩
 have hK:∀ b p,g.ow b = some p → w'.heap[b]? = w.heap[b]?:=fun b p hb=>hw.heap b (h.lt b p hb).1 (by rintro rfl; rw [ho] at hb; cases hb)
 refine ⟨h.defers,h.size,fun k=>(h.env k).mono ⟨hPs,fun j b st hb=>⟨hb,hK b _ hb⟩⟩ fun p _=>⟨fun b hb=>⟨hb,fun c e hc=>⟨c,hc.eq (hK b _ hb),rfl⟩⟩,fun z e n f hl=>⟨f,hl⟩,fun _ _ ho=>⟨rfl,ho⟩⟩,fun o t cs ho'=>?_,h.inj,fun b hb=>⟨(h.frozen b hb).1,Nat.lt_of_lt_of_le (h.frozen b hb).2 hw.size⟩,
  fun b p hb=>⟨Nat.lt_of_lt_of_le (h.lt b p hb).1 hw.size,(h.lt b p hb).2⟩,h.ids,h.P0,h.P1,fun b hb h0=>?_,hw.os.trans h.os,hw.tape.trans h.tape,hw.output.trans h.output,Nat.le_trans h.mono hw.size,h.m0,h.h0⟩
 ·obtain ⟨c,h1,h2,h3,h4⟩:=h.heap o t cs ho'
  refine ⟨c,(hK _ _ h2).trans h1,h2,h3,fun i y hy=>?_⟩
  obtain ⟨u,hu,hr⟩:=h4 i y hy
  exact ⟨u,hu,hr.mono hPs fun b st hb=>⟨hb,hK b _ hb⟩⟩
 ·have hne:b ≠ nb:=by
   rintro rfl
   rcases hnew with h1 | h1
   ·omega
   ·exact h1 h0
  exact (hw.heap b (by have:=h.mono; omega) hne).trans (h.kept b hb h0)

/-- Labels, as an object's cells go into the n-th element of what goes from r to slot d. -/
def Gh.appO (g gB:Gh) (r:Root) (ob n d nb:Nat):Gh :=
 { gB with ow:=fun b=>match decide (b = nb) with
  | true=>some (.slot d 0,[])
  | false=>match g.ow b with
   | some (.cell o j,st)=>(match Nat.beq o ob with
    | true=>some (.slot d 0,st ++ [(n,j)])
    | false=>match decide (Root.cell o j = r),st.getLast? with
     | true,some (i,_)=>(match Nat.blt i n with | true=>some (.slot d 0,st) | false=>none)
     | _,_=>gB.ow b)
   | some (q,st)=>(match decide (q = r),st.getLast? with
     | true,some (i,_)=>(match Nat.blt i n with | true=>some (.slot d 0,st) | false=>none)
     | _,_=>gB.ow b)
   | none=>none }

theorem appObj_sound (hT:TabOk X.P T) (hs:Sat X g σ a w) {x:Operand} {t t2 t3 t' e:TypeId} {d4 d5 d6 d7 ob:Nat} {cs:List TV} {ei:TI} {r:Root} {n:Nat} {f:Nat → List TV} {o5 o6 o7:Oper}
  (p5:o5.op = .load e x) (p6:o6.op = .buildSlice t3 1 #[(0,.tmp d5)]) (p7:o7.op = .call { callee:=.builtin .append,args:=#[.tmp d4,.tmp d6],argTypes:=#[t,t2] })
  (hei:T.get e = some ei) (hu:(T.get t).map TI.und = some (.slice e)) (hu2:(T.get t2).map TI.und = some (.slice e)) (hu3:(T.get t3).map TI.und = some (.slice e))
  (hd4:σ.get d4 = .al (r,[])) (hown:σ.ownAt r = some (.own ei.size e n f)) (hnh:∀ i,i < n → noHole (f i) = true) (hx:σ.ev x = .pc ob 0) (ho:σ.heap[ob]? = some (.cells t' cs))
  (l5:d5 < X.n) (l6:d6 < X.n) (l7:d7 < X.n) (n45:d4 ≠ d5) (n46:d4 ≠ d6) (n56:d5 ≠ d6) (hr5:under d5 (r,[]) = false) (hr6:under d6 (r,[]) = false) (hrob:objR ob (r,[]) = false)
  (hh:noHole cs = true) (hlen:cs.length = ei.size) (hagg:isAggD ei.und = true) (hmax:ei.size ≤ 16777216) (hpos:0 < ei.size) (hb0:0 < ei.bytes) (hbytes:(n + 1) * ei.bytes ≤ 140737488355328) :
  ∃ v5 v6 w6 v7 w7 g',(execOp a.eval o5).run X.P w = .ok (.value v5) w ∧ (execOp (a.put (some d5) v5).eval o6).run X.P w = .ok (.value v6) w6 ∧ (execOp ((a.put (some d5) v5).put (some d6) v6).eval o7).run X.P w6 = .ok (.value v7) w7 ∧ (∀ b,b < w.heap.size → w6.heap[b]? = w.heap[b]?) ∧
   Sat X g' ((((((σ.bury ob).kill r).put d5 .junk).put d6 .junk).put d7 .junk).fix d7 (.own ei.size e (n + 1) (appF n f (fun _=>cs)))) (((a.put (some d5) v5).put (some d6) v6).put (some d7) v7) w7:=by
 obtain ⟨hsim,hroot,hsl⟩:=ownAt_root hown
 have hrobj:∀ o,r ≠ .obj o:=by rintro o rfl; cases hsim
 obtain ⟨k,hk⟩:=ev_rel hs x
 rw [hx] at hk
 obtain ⟨hv,_⟩:=hk
 obtain ⟨c,c1,c2,c3,c4⟩:=hs.heap ob t' cs ho
 obtain ⟨hue,i,z,hi,hsz,hby,hz,hzc,hzl,hz1,_⟩:=hT e ei hei
 have hzs:z.cells.size = ei.size:=by rw [← Array.length_toList,hzc,hzl]
 -- the load
 have hload:(loadVar e ⟨g.m ob,0,none⟩).run X.P w = .ok (.agg c) w:=by
  unfold loadVar
  have hl:=run_loadCells_list (P:=X.P) w ⟨g.m ob,0,none⟩ c.toList fun j v hj=>by
   rw [add_mk,Nat.zero_add,cell_obj c1,← Array.getElem?_toList]; exact hj
  rw [Array.length_toList,c3,hlen] at hl
  simp only [Sem.run_bind,run_isAgg hue,Result.andThen_ok,hagg,if_true,run_size hi,hsz,hl,Sem.run_pure,Array.toArray_toList]
 have hrun5:(execOp a.eval o5).run X.P w = .ok (.value (.agg c)) w:=by
  simp only [execOp,p5,Instr.loadAt,hv,Instr.sureAddr,pure_bind,Sem.run_bind,hload,Result.andThen_ok,Sem.run_pure]
 have hone:∀ (q:Nat) u,c[q]? = some u → u.oneCell' = true:=fun q u hq=>by
  have hq':q < cs.length:=by rw [← c3]; exact (Array.getElem?_eq_some_iff.1 hq).1
  obtain ⟨u',hu',hr⟩:=c4 q cs[q] (List.getElem?_eq_getElem hq')
  rw [hq] at hu'
  cases hu'
  exact hr.one (noHole_at hh _ (List.getElem_mem hq'))
 -- the new row
 let ys:List TV:=c.toList.map TV.sc
 have hyl:ys.length = ei.size:=by simp only [ys,List.length_map,Array.length_toList]; rw [c3,hlen]
 have hyp:ys.all TV.plain = true:=by simp [ys,TV.plain]
 have hs5:Sat X (g.clr (under d5)) (σ.put d5 (.agg ys)) (a.put (some d5) (.agg c)) w:=hs.put l5 (v:=.agg c) (sv:=.agg ys) (k:=0) (by simpa [SV.pure,SV.pure1] using hyp) rfl
  (show S1 g w σ 0 0 (.agg c) (.agg ys) from ⟨c,rfl,by rw [c3,hlen,hyl],fun q y hy=>by
   simp only [ys,List.getElem?_map] at hy
   obtain ⟨u,hu',rfl⟩:=Option.map_eq_some_iff.1 hy
   rw [Array.getElem?_toList] at hu'
   exact ⟨u,hu',.fr (.sc _ (hone q u hu'))⟩⟩)
 have hg5:(σ.put d5 (.agg ys)).get d5 = .agg ys:=by rw [get_put,if_pos rfl]
 have hput:∀ (zs:List TV) (l m:List TV) ,putAt zs 0 l = m → l.length = zs.length → m = l:=by
  intro zs l m h1 h2
  subst h1
  apply List.ext_getElem?
  intro q
  rcases Nat.lt_or_ge q l.length with hq | hq
  ·have:=putAt_in l zs 0 q hq (by omega)
   rw [Nat.zero_add] at this
   rw [this,List.getElem?_eq_getElem hq]
  ·rw [List.getElem?_eq_none (by rw [putAt_length]; omega),List.getElem?_eq_none hq]
 obtain ⟨vs,hvs,hyl2,_,hrun6⟩:=buildSlice_run (len:=1) (parts:=#[(0,.tmp d5)]) (ps:=[(0,ys)]) (cells:=ys) hT hs5 (e:=e) hu3 (by
   simp only [partsOf,AState.ev,hg5,hyp]) hei (by rw [Nat.one_mul]; exact hmax) hpos (by
   simp only [fillTV,Nat.zero_mul,Nat.zero_add,hyl,Nat.one_mul]
   have e1:(((List.range ei.size).map fun i=>((ei.zero.map cTV)[i % ei.zero.length]?).getD .hole)).length = ei.size:=by simp
   rw [show (Nat.beq ei.size ei.size && Nat.ble ei.size (((List.range ei.size).map fun i=>((ei.zero.map cTV)[i % ei.zero.length]?).getD .hole)).length) = true from by rw [e1,Nat.beq_refl,Nat.ble_eq_true_of_le (Nat.le_refl _)]; rfl]
   simp only
   rw [hput _ ys _ rfl (by rw [e1,hyl])]) p6
 have hvc:vs = c:=by
  apply Array.ext_getElem?
  intro q
  rcases Nat.lt_or_ge q c.size with hq | hq
  ·obtain ⟨u,hu',hr⟩:=hvs.2 q (.sc c[q]) (by simp [ys,hq])
   have:=frel_sc hr
   rw [hu',this,Array.getElem?_eq_getElem hq]
  ·rw [Array.getElem?_eq_none hq,Array.getElem?_eq_none]
   rw [hvs.1,hyl,← hlen,← c3]; exact hq
 subst hvc
 refine ⟨.agg vs,.slice (some ⟨w.heap.size,0,none⟩) 1 1,w.alloc (.cells vs e),?_⟩
 have hts:a.tmps.size = X.n:=hs.size
 have e4:∀ v5 v6,((a.put (some d5) v5).put (some d6) v6).eval (.tmp d4) = a.tmps.getD d4 undef:=fun v5 v6=>by rw [eval_put n46,eval_put n45]; rfl
 have e6:∀ v5 v6,((a.put (some d5) v5).put (some d6) v6).eval (.tmp d6) = v6:=fun v5 v6=>eval_put_same (by rw [size_put,hts]; exact l6)
 have hcz:vs.size = 1 * ei.size:=by rw [c3,hlen,Nat.one_mul]
 -- the second operand
 have hsec:Second X.P (w.alloc (.cells vs e)) t2 i.size (.slice (some ⟨w.heap.size,0,none⟩) 1 1) 1 vs.toList:=by
  refine ⟨fun _ _=>rfl,.inl ⟨e,hT.und hu2⟩,fun w' hw'=>?_,by rw [Array.length_toList,hsz]; exact hcz,fun v hv'=>?_⟩
  ·refine run_firstCells_some (P:=X.P) w' i.size 1 ⟨w.heap.size,0,none⟩ 1 1 vs.toList (by rw [Array.length_toList,hsz]; exact hcz) fun j v hj=>?_
   rw [add_mk,Nat.zero_add,World.cell?_of_block (w:=w.alloc (.cells vs e)) (by rw [hw']),(Row.of (Go.heap_alloc_new w _)).cell,← Array.getElem?_toList]
   exact hj
  ·obtain ⟨q,hq⟩:=List.getElem?_of_mem hv'
   rw [Array.getElem?_toList] at hq
   exact hone q v hq
 -- the first operand
 have hbase:TRel g w (r,[]) (a.tmps.getD d4 undef) (.own ei.size e n f):=claim_relP hs hd4 hroot hrobj
 have hgw:Goes w (w.alloc (.cells vs e)) w.heap.size:=goes_new w _
 have first:∃ (olds:List Value) (csB:Nat → Nat → Value),((a.tmps.getD d4 undef = .slice none 0 0 ∧ n = 0 ∧ olds = []) ∨ ∃ b cap c,a.tmps.getD d4 undef = .slice (some ⟨b,0,none⟩) n cap ∧ g.ow b = some (r,[]) ∧ Row (w.alloc (.cells vs e)) b e c ∧ c.size = cap * i.size ∧ n ≤ cap ∧ cap ≤ maxLen ∧ olds.length = n * i.size ∧ ∀ (j:Nat) v,olds[j]? = some v → c[j]? = some v) ∧ olds.length = n * ei.size ∧
   (∀ i,i < n → (f i).length = ei.size) ∧ (∀ (i' j:Nat) y,i' < n → (f i')[j]? = some y → olds[i' * ei.size + j]? = some (csB i' j)) ∧ ∀ (i' j:Nat) y,i' < n → (f i')[j]? = some y → TRel g w (r,[(i',j)]) (csB i' j) y:=by
  rcases own_inv hbase with ⟨hv0,rfl⟩ | ⟨b,cap,c,csB,h1,hv0,h3,h4,h5,h6,h7,h8,h9⟩
  ·exact ⟨[],fun _ _=>undef,.inl ⟨hv0,rfl,rfl⟩,by simp,fun i' hi'=>by omega,fun i' j y hi'=>by omega,fun i' j y hi'=>by omega⟩
  ·obtain ⟨olds,q1,q2,q3⟩:=flat_cells (P:=fun _=>True) (w:=w) (b:=b) (off:=0) (n:=n) (z:=ei.size) (f:=fun i'=>(List.range ei.size).map fun j=>.sc (csB i' j)) (cs:=csB) (fun i' _=>by simp) fun i' j y hi' hy=>by
    have hj:j < ei.size:=by have:=(List.getElem?_eq_some_iff.1 hy).1; simpa using this
    rw [List.getElem?_map,List.getElem?_range hj] at hy
    simp only [Option.map_some,Option.some.injEq] at hy
    subst hy
    have hfj:(f i')[j]? = some ((f i')[j]'(by rw [h7 i' hi']; exact hj)):=List.getElem?_eq_getElem _
    refine ⟨by rw [Nat.zero_add]; exact (h3.cell _).trans (h8 i' j _ hi' hfj),.sc _ ((h9 i' j _ hi' hfj).one (noHole_at (hnh i' hi') _ (List.getElem_mem _)))⟩
   have hblt:b < w.heap.size:=(hs.lt b _ h1).1
   refine ⟨olds,csB,.inr ⟨b,cap,c,hv0,h1,h3.eq (heap_alloc_old w _ hblt),by rw [hsz]; exact h4,h5,h6,by rw [hsz]; exact q1,fun j v hj=>?_⟩,q1,h7,fun i' j y hi' hy=>?_,h9⟩
   ·have:=(q2 j v hj).1
    rw [Nat.zero_add] at this
    exact (h3.cell j).symm.trans this
   ·have hj:j < ei.size:=by rw [← h7 i' hi']; exact (List.getElem?_eq_some_iff.1 hy).1
    obtain ⟨u,hu',hr⟩:=q3 i' j (.sc (csB i' j)) hi' (by rw [List.getElem?_map,List.getElem?_range hj]; rfl)
    have:=frel_sc hr
    rw [hu',this]
 obtain ⟨olds,csB,hfirst,holen,hflen,holdsat,hkids⟩:=first
 have hfirst':(a.tmps.getD d4 undef = .slice none 0 0 ∧ n = 0 ∧ olds = []) ∨ ∃ b cap c,a.tmps.getD d4 undef = .slice (some ⟨b,0,none⟩) n cap ∧ Row (w.alloc (.cells vs e)) b e c ∧ c.size = cap * i.size ∧ n ≤ cap ∧ cap ≤ maxLen ∧ olds.length = n * i.size ∧ ∀ (j:Nat) v,olds[j]? = some v → c[j]? = some v:=by
  rcases hfirst with h | ⟨b,cap,c,k1,_,k2⟩
  ·exact .inl h
  ·exact .inr ⟨b,cap,c,k1,k2⟩
 obtain ⟨v7,w7,hrun7,hv7⟩:=run_append (ty:=o7.type) (hT.und hu) hi hz (by rw [hzs,hsz]) hsec (by rw [hby]; exact hb0) (by rw [hby]; exact hbytes) hfirst'
 rcases hv7 with ⟨_,h0,_⟩ | ⟨nb,cap,c7,rfl,hrow7,hcs7,hn7,hm7,hg7,hcells7,hnb⟩
 ·omega
 have hexec7:(execOp ((a.put (some d5) (.agg vs)).put (some d6) (.slice (some ⟨w.heap.size,0,none⟩) 1 1)).eval o7).run X.P (w.alloc (.cells vs e)) = .ok (.value (.slice (some ⟨nb,0,none⟩) (n + 1) cap)) w7:=by
  simp only [execOp,p7,resolve,invoke,builtin,Sem.run_bind,Sem.run_pure,Result.andThen_ok,List.map_toArray,List.map_cons,List.map_nil,e4,e6,hrun7]
 -- who owned the block
 have hnbo:(g.ow nb = some (r,[]) ∧ nb < w.heap.size) ∨ w.heap.size < nb ∧ g.ow nb = none:=by
  rcases hnb with ⟨n',cap',hv0⟩ | rfl
  ·rcases hfirst with ⟨hv1,_⟩ | ⟨b,cap,c,hv1,hb,_⟩
   ·rw [hv1] at hv0; cases hv0
   ·rw [hv1] at hv0; cases hv0; exact .inl ⟨hb,(hs.lt _ _ hb).1⟩
  ·refine .inr ⟨by simp,?_⟩
   cases hq:g.ow (w.alloc (.cells vs e)).heap.size with
   | none=>rfl
   | some p=>have:=(hs.lt _ _ hq).1; simp at this; omega
 have hnP:¬ g.P nb:=fun hp=>by
  rcases hnbo with ⟨h1,_⟩ | ⟨h1,_⟩
  ·rw [(hs.frozen _ hp).1] at h1; cases h1
  ·have:=(hs.frozen _ hp).2; omega
 have hnew:X.w0.heap.size ≤ nb ∨ X.g0.ow nb ≠ none:=by
  rcases hnbo with ⟨h1,_⟩ | ⟨h1,_⟩
  ·exact (hs.lt _ _ h1).2
  ·exact .inl (by have:=hs.mono; omega)
 -- forget, write, and tell anew
 have hA:=(hs.bury ob).kill hrobj
 have hB:=((hA.put l5 (v:=.agg vs) (sv:=.junk) (k:=0) rfl rfl trivial).put l6 (v:=.slice (some ⟨w.heap.size,0,none⟩) 1 1) (sv:=.junk) (k:=0) rfl rfl trivial).put l7 (v:=.slice (some ⟨nb,0,none⟩) (n + 1) cap) (sv:=.junk) (k:=0) rfl rfl trivial
 generalize hgB:((((g.clr (objR ob)).clr (rootR r)).clr (under d5)).clr (under d6)).clr (under d7) = gB at hB
 have hBow:∀ b p,gB.ow b = some p ↔ g.ow b = some p ∧ objR ob p = false ∧ rootR r p = false ∧ under d5 p = false ∧ under d6 p = false ∧ under d7 p = false:=fun b p=>by
  rw [← hgB]
  constructor
  ·intro hb
   obtain ⟨hb,k7⟩:=clr_some.1 hb
   obtain ⟨hb,k6⟩:=clr_some.1 hb
   obtain ⟨hb,k5⟩:=clr_some.1 hb
   obtain ⟨hb,k4⟩:=clr_some.1 hb
   obtain ⟨hb,k3⟩:=clr_some.1 hb
   exact ⟨hb,k3,k4,k5,k6,k7⟩
  ·rintro ⟨hb,k3,k4,k5,k6,k7⟩
   exact clr_some.2 ⟨clr_some.2 ⟨clr_some.2 ⟨clr_some.2 ⟨clr_some.2 ⟨hb,k3⟩,k4⟩,k5⟩,k6⟩,k7⟩
 have hBP:gB.P = g.P:=by rw [← hgB]; rfl
 have hBm:gB.m = g.m:=by rw [← hgB]; rfl
 have hrr:∀ st,rootR r (r,st) = true:=fun st=>by
  cases r with
  | slot k j=>simp [rootR,under]
  | cell o off=>simp [rootR]
  | obj o=>exact absurd rfl (hrobj o)
 have hBnb:gB.ow nb = none:=by
  cases hq:gB.ow nb with
  | none=>rfl
  | some p =>
   obtain ⟨h1,_,h2,_⟩:=(hBow _ _).1 hq
   rcases hnbo with ⟨h3,_⟩ | ⟨_,h3⟩
   ·rw [h3] at h1; cases h1; rw [hrr] at h2; cases h2
   ·rw [h3] at h1; cases h1
 have hfr:=hB.fresh
 have hC:=(hB.goes hgw hfr.1 hfr.2.1 hfr.2.2).goes hg7 hBnb (by rw [hBP]; exact hnP) hnew
 have hwle:w.heap.size ≤ w7.heap.size:=Nat.le_trans hgw.size hg7.size
 have hstay:∀ b,b < w.heap.size → b ≠ nb → w7.heap[b]? = w.heap[b]?:=fun b hb hne=>(hg7.heap b (Nat.lt_of_lt_of_le hb hgw.size) hne).trans (hgw.heap b hb (Nat.ne_of_lt hb))
 have hPst:∀ b,g.P b → gB.P b ∧ w7.heap[b]? = w.heap[b]?:=fun b hb=>⟨by rw [hBP]; exact hb,hstay b (hs.frozen b hb).2 (fun e=>hnP (e ▸ hb))⟩
 have hnbst:∀ b q st,g.ow b = some (q,st) → (q ≠ r ∨ st ≠ []) → b ≠ nb:=fun b q st hb hq e=>by
  subst e
  rcases hnbo with ⟨h3,_⟩ | ⟨_,h3⟩
  ·rw [h3] at hb; cases hb; rcases hq with hq | hq <;> exact hq rfl
  ·rw [h3] at hb; cases hb
 -- the new labels
 have hr_ob:∀ j,r ≠ .cell ob j:=by rintro j rfl; simp [objR] at hrob
 have labR:∀ b st i' j,g.ow b = some (r,st ++ [(i',j)]) → i' < n → (g.appO gB r ob n d7 nb).ow b = some (.slot d7 0,st ++ [(i',j)]):=fun b st i' j hb hi'=>by
  have hne:=hnbst b _ _ hb (.inr (by simp))
  have hlt:Nat.blt i' n = true:=Nat.ble_eq_true_of_le hi'
  simp only [Gh.appO,hne,decide_false,hb]
  cases r with
  | slot k j'=>simp [hlt]
  | cell o off =>
   have:Nat.beq o ob = false:=by cases hq:Nat.beq o ob with | false=>rfl | true=>exact absurd (by rw [Nat.eq_of_beq_eq_true hq]) (hr_ob off)
   simp [this,hlt]
  | obj o=>exact absurd rfl (hrobj o)
 have labO:∀ b st j,g.ow b = some (.cell ob j,st) → (g.appO gB r ob n d7 nb).ow b = some (.slot d7 0,st ++ [(n,j)]):=fun b st j hb=>by
  have hne:=hnbst b _ _ hb (.inl fun e=>hr_ob j e.symm)
  simp only [Gh.appO,hne,decide_false,hb,Nat.beq_refl]
 have labInv:∀ b p,(g.appO gB r ob n d7 nb).ow b = some p → (b = nb ∧ p = (.slot d7 0,[])) ∨ (∃ st i' j,g.ow b = some (r,st ++ [(i',j)]) ∧ i' < n ∧ p = (.slot d7 0,st ++ [(i',j)])) ∨ (∃ st j,g.ow b = some (.cell ob j,st) ∧ p = (.slot d7 0,st ++ [(n,j)])) ∨ gB.ow b = some p:=fun b p hb=>by
  by_cases hne:b = nb
  ·subst hne
   simp only [Gh.appO,decide_true,Option.some.injEq] at hb
   exact .inl ⟨rfl,hb.symm⟩
  ·simp only [Gh.appO,hne,decide_false] at hb
   have fin:∀ q st,g.ow b = some (q,st) → (match decide (q = r),st.getLast? with
     | true,some (i,_)=>(match Nat.blt i n with | true=>some (Root.slot d7 0,st) | false=>none)
     | _,_=>gB.ow b) = some p → (∃ st i' j,g.ow b = some (r,st ++ [(i',j)]) ∧ i' < n ∧ p = (.slot d7 0,st ++ [(i',j)])) ∨ gB.ow b = some p:=fun q st hq hb=>by
    split at hb
    ·rename_i i' j' hd hl
     obtain rfl:=of_decide_eq_true hd
     rcases st_cases st with rfl | ⟨st0,i2,j2,rfl⟩
     ·simp at hl
     ·simp only [List.getLast?_append,List.getLast?_singleton,Option.some_or,Option.some.injEq,Prod.mk.injEq] at hl
      obtain ⟨rfl,rfl⟩:=hl
      split at hb
      ·rename_i hlt
       cases hb
       exact .inl ⟨st0,i2,j2,hq,Nat.le_of_ble_eq_true hlt,rfl⟩
      ·cases hb
    ·exact .inr hb
   obtain ⟨og,hq⟩:∃ og,g.ow b = og:=⟨_,rfl⟩
   rw [hq] at hb
   cases og with
   | none=>cases hb
   | some p0 =>
    obtain ⟨q,st⟩:=p0
    cases q with
    | slot k j=>rcases fin _ _ hq hb with h | h; exact .inr (.inl h); exact .inr (.inr (.inr h))
    | obj o=>rcases fin _ _ hq hb with h | h; exact .inr (.inl h); exact .inr (.inr (.inr h))
    | cell o j =>
     simp only at hb
     cases hob:Nat.beq o ob with
     | true =>
      rw [hob] at hb
      cases hb
      obtain rfl:=Nat.eq_of_beq_eq_true hob
      exact .inr (.inr (.inl ⟨st,j,hq,rfl⟩))
     | false =>
      rw [hob] at hb
      rcases fin _ _ hq hb with h | h; exact .inr (.inl h); exact .inr (.inr (.inr h))
 refine ⟨.slice (some ⟨nb,0,none⟩) (n + 1) cap,w7,g.appO gB r ob n d7 nb,hrun5,hrun6,hexec7,fun b hb=>heap_alloc_old w _ hb,hC.slotNew rfl rfl (fun b p hb hp=>?_) (fun b p hb=>?_) (fun b b' p hb hb' hu=>?_) ?_⟩
 ·obtain ⟨h1,h2,h3,_⟩:=(hBow _ _).1 hb
  have hne:b ≠ nb:=by rintro rfl; rw [hBnb] at hb; cases hb
  obtain ⟨q,st⟩:=p
  simp only [Gh.appO,hne,decide_false,h1]
  have hqr:q ≠ r:=by rintro rfl; rw [hrr] at h3; cases h3
  cases q with
  | slot k j=>simp only [hqr,decide_false]; exact hb
  | obj o=>simp only [hqr,decide_false]; exact hb
  | cell o j =>
   have:Nat.beq o ob = false:=by simpa [objR] using h2
   simp only [this,hqr,decide_false]; exact hb
 ·rcases labInv b p hb with ⟨rfl,rfl⟩ | ⟨st,i',j,h1,h2,rfl⟩ | ⟨st,j,h1,rfl⟩ | h1
  ·exact .inr ⟨under_iff.2 ⟨0,rfl⟩,hrow7.lt,hnew,by rw [hBP]; exact hnP⟩
  ·exact .inr ⟨under_iff.2 ⟨0,rfl⟩,Nat.lt_of_lt_of_le (hs.lt _ _ h1).1 hwle,(hs.lt _ _ h1).2,fun hp=>by rw [hBP] at hp; rw [(hs.frozen _ hp).1] at h1; cases h1⟩
  ·exact .inr ⟨under_iff.2 ⟨0,rfl⟩,Nat.lt_of_lt_of_le (hs.lt _ _ h1).1 hwle,(hs.lt _ _ h1).2,fun hp=>by rw [hBP] at hp; rw [(hs.frozen _ hp).1] at h1; cases h1⟩
  ·exact .inl ⟨h1,((hBow _ _).1 h1).2.2.2.2.2⟩
 ·rcases labInv b p hb with ⟨rfl,rfl⟩ | ⟨st,i',j,h1,h2,rfl⟩ | ⟨st,j,h1,rfl⟩ | h1
  ·rcases labInv b' _ hb' with ⟨rfl,_⟩ | ⟨st',i2,j2,k1,k2,e⟩ | ⟨st',j2,k1,e⟩ | k1
   ·rfl
   ·simp at e
   ·simp at e
   ·rw [((hBow _ _).1 k1).2.2.2.2.2] at hu; cases hu
  ·rcases labInv b' _ hb' with ⟨rfl,e⟩ | ⟨st',i2,j2,k1,k2,e⟩ | ⟨st',j2,k1,e⟩ | k1
   ·simp at e
   ·have e:=congrArg Prod.snd e
    simp only at e
    obtain ⟨rfl,e2⟩:=List.append_inj' e rfl
    cases e2
    exact hs.inj b b' _ h1 k1
   ·have e:=congrArg Prod.snd e
    simp only at e
    obtain ⟨_,e2⟩:=List.append_inj' e rfl
    cases e2
    omega
   ·rw [((hBow _ _).1 k1).2.2.2.2.2] at hu; cases hu
  ·rcases labInv b' _ hb' with ⟨rfl,e⟩ | ⟨st',i2,j2,k1,k2,e⟩ | ⟨st',j2,k1,e⟩ | k1
   ·simp at e
   ·have e:=congrArg Prod.snd e
    simp only at e
    obtain ⟨_,e2⟩:=List.append_inj' e rfl
    cases e2
    omega
   ·have e:=congrArg Prod.snd e
    simp only at e
    obtain ⟨rfl,e2⟩:=List.append_inj' e rfl
    cases e2
    exact hs.inj b b' _ h1 k1
   ·rw [((hBow _ _).1 k1).2.2.2.2.2] at hu; cases hu
  ·rw [((hBow _ _).1 h1).2.2.2.2.2] at hu; cases hu
 ·have etm:(((a.put (some d5) (.agg vs)).put (some d6) (.slice (some ⟨w.heap.size,0,none⟩) 1 1)).put (some d7) (.slice (some ⟨nb,0,none⟩) (n + 1) cap)).tmps.getD d7 undef = .slice (some ⟨nb,0,none⟩) (n + 1) cap:=by
   rw [tmps_put _ _ _ _ (by simp only [size_put,hts]; exact l7),if_pos rfl]
  rw [etm]
  have hnbl:(g.appO gB r ob n d7 nb).ow nb = some (.slot d7 0,[]):=by simp only [Gh.appO,decide_true]
  have hvl:∀ j,j < ei.size → (olds ++ vs.toList)[n * ei.size + j]? = vs[j]?:=fun j hj=>by
   rw [List.getElem?_append_right (by omega),holen,Nat.add_sub_cancel_left,Array.getElem?_toList]
  refine .own nb cap ei.size e (n + 1) _ c7 (fun i' j=>(c7[i' * ei.size + j]?).getD undef) hnbl hrow7 (by rw [← hsz]; exact hcs7) hn7 hm7 (fun i' hi'=>?_) (fun i' j y hi' hy=>?_) (fun i' j y hi' hy=>?_)
  ·rcases Nat.lt_or_ge i' n with h | h
   ·rw [appF_lt h]; exact hflen i' h
   ·rw [appF_ge h]; exact hlen
  ·rcases Nat.lt_or_ge i' n with h | h
   ·rw [appF_lt h] at hy
    have h1:=holdsat i' j y h hy
    have h2:=hcells7 (i' * ei.size + j) _ (by rw [List.getElem?_append_left (List.getElem?_eq_some_iff.1 h1).1]; exact h1)
    rw [h2]; rfl
   ·obtain rfl:i' = n:=by omega
    rw [appF_ge h] at hy
    have hj:j < cs.length:=(List.getElem?_eq_some_iff.1 hy).1
    have h1:=hvl j (by omega)
    have hjv:j < vs.size:=by rw [c3]; exact hj
    rw [Array.getElem?_eq_getElem hjv] at h1
    rw [hcells7 _ _ h1]; rfl
  ·rcases Nat.lt_or_ge i' n with h | h
   ·rw [appF_lt h] at hy
    have h1:=holdsat i' j y h hy
    have h2:=hcells7 (i' * ei.size + j) _ (by rw [List.getElem?_append_left (List.getElem?_eq_some_iff.1 h1).1]; exact h1)
    rw [h2]
    refine (hkids i' j y h hy).under hPst fun b st hb=>⟨labR b st i' j hb h,hstay b (hs.lt _ _ hb).1 (hnbst b _ _ hb (.inr (by simp)))⟩
   ·obtain rfl:i' = n:=by omega
    rw [appF_ge h] at hy
    have hj:j < cs.length:=(List.getElem?_eq_some_iff.1 hy).1
    have h1:=hvl j (by omega)
    obtain ⟨u,hu',hr⟩:=c4 j y hy
    rw [hu'] at h1
    rw [hcells7 _ _ h1]
    refine hr.under hPst fun b st hb=>?_
    rw [List.append_nil] at hb
    exact ⟨labO b st j hb,hstay b (hs.lt _ _ hb).1 (hnbst b _ _ hb (.inl fun e=>hr_ob j e.symm))⟩
end

section
variable {F:Cfg} {K:AState → Prop} {σ:AState} {ops:Array Oper}

theorem put_comm {a:Act} {d d':Nat} {v v':Value} (h:d ≠ d'):(a.put (some d) v).put (some d') v' = (a.put (some d') v').put (some d) v:=by
 simp only [Act.put]
 rw [Array.setIfInBounds_comm _ _ h]

theorem exec_load {ρ ρ':Operand → Value} {o:Oper} {t:TypeId} {s:Nat} (p:o.op = .load t (.tmp s)) (h:ρ (.tmp s) = ρ' (.tmp s)):execOp ρ o = execOp ρ' o:=by simp only [execOp,p,h]
theorem exec_bs {ρ ρ':Operand → Value} {o:Oper} {t:TypeId} {s:Nat} (p:o.op = .buildSlice t 1 #[(0,.tmp s)]) (h:ρ (.tmp s) = ρ' (.tmp s)):execOp ρ o = execOp ρ' o:=by
 simp only [execOp,p,List.map_toArray,List.map_cons,List.map_nil,h]

/-- The same, in whatever order the slice and the object are looked at. -/
theorem AAny.appObj {fuel:Nat} {ls L:Array Bool} {i4 i5 i6 i7:Nat} {t t2 t3 t4 t' e:TypeId} {s4 s5 d4 d5 d6 d7 ob o4' off4:Nat} {cs:List TV} {ei ti4:TI} {r:Root} {n:Nat} {f:Nat → List TV} {σ4:AState} (o4 o5 o6 o7:Oper)
  (r0:Region.ready .any ops ls = [i4,i5]) (r4:Region.ready .any ops (ls.setIfInBounds i4 true) = [i5]) (r45:Region.ready .any ops ((ls.setIfInBounds i4 true).setIfInBounds i5 true) = [i6])
  (r5:Region.ready .any ops (ls.setIfInBounds i5 true) = [i4,i6]) (r54:Region.ready .any ops ((ls.setIfInBounds i5 true).setIfInBounds i4 true) = [i6]) (r56:Region.ready .any ops ((ls.setIfInBounds i5 true).setIfInBounds i6 true) = [i4])
  (L1:((ls.setIfInBounds i4 true).setIfInBounds i5 true).setIfInBounds i6 true = L) (L2:((ls.setIfInBounds i5 true).setIfInBounds i4 true).setIfInBounds i6 true = L) (L3:((ls.setIfInBounds i5 true).setIfInBounds i6 true).setIfInBounds i4 true = L) (r7:Region.ready .any ops L = [i7])
  (h4:ops[i4]? = some o4) (g4:o4.guard = none) (p4:o4.op = .load t4 (.tmp s4)) (k4:o4.dst = some d4)
  (h5:ops[i5]? = some o5) (g5:o5.guard = none) (p5:o5.op = .load e (.tmp s5)) (k5:o5.dst = some d5)
  (h6:ops[i6]? = some o6) (g6:o6.guard = none) (p6:o6.op = .buildSlice t3 1 #[(0,.tmp d5)]) (k6:o6.dst = some d6)
  (h7:ops[i7]? = some o7) (g7:o7.guard = none) (p7:o7.op = .call { callee:=.builtin .append,args:=#[.tmp d4,.tmp d6],argTypes:=#[t,t2] }) (k7:o7.dst = some d7)
  (he4:evalPure F.T σ o4.op = some ([],.al (r,[]))) (hσ4:σ.put d4 (.al (r,[])) = σ4) (hp4:σ.ev (.tmp s4) = .pc o4' off4) (hti4:F.T.get t4 = some ti4) (ha4:isAggD ti4.und = false) {t44:TypeId} {cs4:List TV} (hh4:σ.heap[o4']? = some (.cells t44 cs4)) (hl4:Nat.blt off4 cs4.length = true)
  (hei:F.T.get e = some ei) (hu:(F.T.get t).map TI.und = some (.slice e)) (hu2:(F.T.get t2).map TI.und = some (.slice e)) (hu3:(F.T.get t3).map TI.und = some (.slice e))
  (hown:σ4.ownAt r = some (.own ei.size e n f)) (hnh:∀ i,i < n → noHole (f i) = true) (hx:σ4.ev (.tmp s5) = .pc ob 0) (ho:σ4.heap[ob]? = some (.cells t' cs))
  (hlt:(Nat.blt d4 F.n && Nat.blt d5 F.n && Nat.blt d6 F.n && Nat.blt d7 F.n && !Nat.beq d4 d5 && !Nat.beq d4 d6 && !Nat.beq d5 d6 && !Nat.beq s4 d5 && !Nat.beq s4 d6 && !Nat.beq s5 d4 && !under d4 (r,[]) && !under d5 (r,[]) && !under d6 (r,[]) && !objR ob (r,[]) && noHole cs && Nat.beq cs.length ei.size && isAggD ei.und && Nat.ble ei.size 16777216 && Nat.blt 0 ei.size && Nat.blt 0 ei.bytes) = true)
  (hbytes:(n + 1) * ei.bytes ≤ 140737488355328) {σ':AState} (ks:List Nat) (nh:Nat) (hn0:F.h0 ≤ nh)
  (hσ':((((((σ4.bury ob).kill r).put d5 .junk).put d6 .junk).put d7 .junk).fix d7 (.own ei.size e (n + 1) (appF n f (fun _=>cs)))).keep ks nh = σ')
  (h:AAny F ops K fuel (L.setIfInBounds i7 true) σ'):AAny F ops K (fuel + 4) ls σ:=fun w0 g0 g a w hb hs=>by
 simp only [Bool.and_eq_true,Bool.not_eq_true'] at hlt
 obtain ⟨⟨⟨⟨⟨⟨⟨⟨⟨⟨⟨⟨⟨⟨⟨⟨⟨⟨⟨l4,l5⟩,l6⟩,l7⟩,n45⟩,n46⟩,n56⟩,ns45⟩,ns46⟩,ns54⟩,hr4⟩,hr5⟩,hr6⟩,hrob⟩,hh⟩,hlen⟩,hagg⟩,hmax⟩,hpos⟩,hb0⟩:=hlt
 have l4:d4 < F.n:=Nat.le_of_ble_eq_true l4
 have l5:d5 < F.n:=Nat.le_of_ble_eq_true l5
 have l6:d6 < F.n:=Nat.le_of_ble_eq_true l6
 have l7:d7 < F.n:=Nat.le_of_ble_eq_true l7
 have n45:=Nat.ne_of_beq_eq_false n45
 have n46:=Nat.ne_of_beq_eq_false n46
 have n56:=Nat.ne_of_beq_eq_false n56
 have ns45:=Nat.ne_of_beq_eq_false ns45
 have ns46:=Nat.ne_of_beq_eq_false ns46
 have ns54:=Nat.ne_of_beq_eq_false ns54
 have hts:a.tmps.size = F.n:=hs.size
 -- the slice
 obtain ⟨v4,hrun4,⟨k,hrel4⟩,_⟩:=evalPure_sound (X:=F.ctx w0 g0) F.ok hs he4 (fun c hc=>by cases hc)
 have hal:SR g w σ k v4 (.al (r,[])):=hrel4
 have hs4:=hs.put (d:=d4) l4 (v:=v4) (sv:=.al (r,[])) rfl (by simp only [SV.names,SV.names1]; exact hr4) hal
 rw [hσ4] at hs4
 have hs4':Sat (F.ctx w0 g0) (g.clr (under d4)) σ4 (a.put (some d4) v4) w:=hs4
 obtain ⟨v5,v6,w6,v7,w7,g',e5,e6,e7,hst,hfin⟩:=appObj_sound (X:=F.ctx w0 g0) F.ok hs4' p5 p6 p7 hei hu hu2 hu3 (by rw [← hσ4,get_put,if_pos rfl]) hown hnh hx ho l5 l6 l7 n45 n46 n56 hr5 hr6 hrob hh (Nat.eq_of_beq_eq_true hlen) hagg (Nat.le_of_ble_eq_true hmax) (Nat.le_of_ble_eq_true hpos) (Nat.le_of_ble_eq_true hb0) hbytes
 -- the slice's cell, later
 obtain ⟨k',hk'⟩:=ev_rel hs (.tmp s4)
 rw [hp4] at hk'
 obtain ⟨hv4,hlt4⟩:=hk'
 have hload4:∀ w',(∀ b,b < w.heap.size → w'.heap[b]? = w.heap[b]?) → (execOp a.eval o4).run F.P w' = .ok (.value v4) w':=fun w' hw'=>by
  obtain ⟨hu4,_⟩:=F.ok t4 ti4 hti4
  have ex:∀ w2,(execOp a.eval o4).run F.P w2 = (do let x ← load ⟨g.m o4',off4,none⟩; Pure.pure (Next.value x):Sem Next).run F.P w2:=fun w2=>by
   simp only [execOp,p4,Instr.loadAt,hv4,Instr.sureAddr,pure_bind,loadVar,Sem.run_bind,run_isAgg hu4,Result.andThen_ok,ha4]
   simp
  have h0:(execOp a.eval o4).run F.P w = .ok (.value v4) w:=hrun4
  rw [ex] at h0 ⊢
  rw [Sem.run_bind,run_load] at h0 ⊢
  obtain ⟨c,m1,m2,m3,m4⟩:=hs.heap o4' t44 cs4 hh4
  have hl4':off4 < cs4.length:=Nat.le_of_ble_eq_true hl4
  obtain ⟨u,hq,_⟩:=m4 off4 cs4[off4] (List.getElem?_eq_getElem hl4')
  have hq:w.cell? ⟨g.m o4',off4,none⟩ = some u:=(cell_obj m1).trans hq
  have hc:w'.cell? ⟨g.m o4',off4,none⟩ = some u:=(World.cell?_of_block (w:=w) (w':=w') (a:=⟨g.m o4',off4,none⟩) (hw' _ (hs.lt _ _ m2).1)).trans hq
  rw [hq] at h0
  rw [hc]
  simp only [Result.andThen_ok,Sem.run_pure,Result.ok.injEq,Next.value.injEq,and_true] at h0 ⊢
  exact h0
 have hstill6:StillW g0 w0 w6:=fun b hP=>by
  rw [← hs.still hb b hP]
  exact hst b (Nat.lt_of_lt_of_le (hb b hP).2 hs.mono)
 have q4:(execOp a.eval o4).run F.P w = .ok (.value v4) w:=hload4 w fun _ _=>rfl
 have q5:(execOp a.eval o5).run F.P w = .ok (.value v5) w:=by
  have:execOp (a.put (some d4) v4).eval o5 = execOp a.eval o5:=exec_load p5 (eval_put ns54)
  rw [← this]; exact e5
 have q54:(execOp (a.put (some d5) v5).eval o4).run F.P w = .ok (.value v4) w:=by
  have:execOp (a.put (some d5) v5).eval o4 = execOp a.eval o4:=exec_load p4 (eval_put ns45)
  rw [this]; exact q4
 have q56:(execOp (a.put (some d5) v5).eval o6).run F.P w = .ok (.value v6) w6:=by
  have:execOp ((a.put (some d4) v4).put (some d5) v5).eval o6 = execOp (a.put (some d5) v5).eval o6:=exec_bs p6 (by rw [eval_put_same (by rw [size_put,hts]; exact l5),eval_put_same (by rw [hts]; exact l5)])
  rw [← this]; exact e6
 have q564:(execOp ((a.put (some d5) v5).put (some d6) v6).eval o4).run F.P w6 = .ok (.value v4) w6:=by
  have:execOp ((a.put (some d5) v5).put (some d6) v6).eval o4 = execOp a.eval o4:=exec_load p4 (by rw [eval_put ns46,eval_put ns45])
  rw [this]; exact hload4 w6 hst
 have last:wpAnyH F.P .any ops (QQ (F.ctx w0 g0) (NQ K)) (StillW g0 w0) (fuel + 1) L (((a.put (some d4) v4).put (some d5) v5).put (some d6) v6) w6:=by
  refine wpAnyH_all r7 (by simp) fun j hj=>?_
  rw [List.mem_singleton.1 hj]
  refine wpOp_value h7 g7 e7 ⟨hfin.still hb,?_⟩
  rw [k7]
  have h3:=hfin.keep ks nh hn0 hfin.h0
  rw [hσ'] at h3
  exact h w0 g0 _ _ w7 hb h3
 refine wpAnyH_all r0 (by simp) fun j hj=>?_
 rcases List.mem_cons.1 hj with rfl | hj
 ·refine wpOp_value h4 g4 q4 ⟨hs.still hb,?_⟩
  rw [k4]
  refine wpAnyH_all r4 (by simp) fun j hj=>?_
  rw [List.mem_singleton.1 hj]
  refine wpOp_value h5 g5 e5 ⟨hs.still hb,?_⟩
  rw [k5]
  refine wpAnyH_all r45 (by simp) fun j hj=>?_
  rw [List.mem_singleton.1 hj]
  refine wpOp_value h6 g6 e6 ⟨hstill6,?_⟩
  rw [k6,L1]
  exact last
 ·rw [List.mem_singleton.1 hj]
  refine wpOp_value h5 g5 q5 ⟨hs.still hb,?_⟩
  rw [k5]
  refine wpAnyH_all r5 (by simp) fun j hj=>?_
  rcases List.mem_cons.1 hj with rfl | hj
  ·refine wpOp_value h4 g4 q54 ⟨hs.still hb,?_⟩
   rw [k4]
   refine wpAnyH_all r54 (by simp) fun j hj=>?_
   rw [List.mem_singleton.1 hj]
   rw [put_comm (Ne.symm n45)]
   refine wpOp_value h6 g6 e6 ⟨hstill6,?_⟩
   rw [k6,L2]
   exact last
  ·rw [List.mem_singleton.1 hj]
   refine wpOp_value h6 g6 q56 ⟨hstill6,?_⟩
   rw [k6]
   refine wpAnyH_all r56 (by simp) fun j hj=>?_
   rw [List.mem_singleton.1 hj]
   refine wpOp_value h4 g4 q564 ⟨hstill6,?_⟩
   rw [k4,L3,put_comm (d:=d6) (Ne.symm n46),put_comm (d:=d5) (Ne.symm n45)]
   exact last
end
end Go.Sx

namespace Go.Sx
open Go

/-- A value that is owned, as one that lies still. -/
inductive Seen:TV → TV → Prop
 | plain {x}:x.plain = true → Seen x x
 | own {z:Nat} {e:TypeId} {n:Nat} {f f':Nat → List TV}:(∀ i,i < n → (f' i).length = (f i).length) → (∀ (i j:Nat) (x y:TV),i < n → (f i)[j]? = some x → (f' i)[j]? = some y → Seen x y) → Seen (.own z e n f) (.fz z n f')
 | mp {kk vk l}:Seen (.mp kk vk l) (.fm kk vk l)

def SeenL (cs ys:List TV):Prop:=ys.length = cs.length ∧ ∀ (j:Nat) x y,cs[j]? = some x → ys[j]? = some y → Seen x y

theorem SeenL.nil:SeenL [] []:=⟨rfl,fun j x y h=>by simp at h⟩
theorem SeenL.cons {x y:TV} {cs ys:List TV} (h:Seen x y) (hr:SeenL cs ys):SeenL (x :: cs) (y :: ys):=by
 refine ⟨by simp [hr.1],fun j a b ha hb=>?_⟩
 cases j with
 | zero=>simp only [List.getElem?_cons_zero,Option.some.injEq] at ha hb; subst ha hb; exact h
 | succ j=>exact hr.2 j a b ha hb
theorem SeenL.keep {x:TV} {cs ys:List TV} (h:x.plain = true) (hr:SeenL cs ys):SeenL (x :: cs) (x :: ys):=.cons (.plain h) hr
theorem SeenL.plain {cs:List TV} (h:cs.all TV.plain = true):SeenL cs cs:=⟨rfl,fun j x y hx hy=>by
 rw [hx] at hy; cases hy
 rw [List.all_eq_true] at h
 exact .plain (h x (List.mem_of_getElem? hx))⟩

theorem Seen.ownL {A:Type} [Inhabited A] {z:Nat} {e:TypeId} {enc enc':A → List TV} {xs:List A} (h:∀ a,SeenL (enc a) (enc' a)):Seen (ownL z e enc xs) (fzL z enc' xs) :=
 .own (fun _ _=>(h _).1) fun _ j x y _ hx hy=>(h _).2 j x y hx hy

theorem Seen.rel {x y:TV} (h:Seen x y) {g:Gh} {w:World} {P:Nat → Prop} (hP:∀ b,g.P b → P b) (hO:∀ b q,g.ow b = some q → P b):∀ {p:Path} {v:Value},TRel g w p v x → FRel P w v y:=by
 induction h with
 | plain hp=>intro p v hr; exact (hr.plain hp).mono fun b hb=>⟨hP b hb,rfl⟩
 | own hl _ ih =>
  intro p v hr
  rcases own_inv hr with ⟨rfl,rfl⟩ | ⟨b,cap,c,cs,h1,rfl,h3,h4,h5,h6,h7,h8,h9⟩
  ·exact .nil _ _ _ _
  ·rename_i z e n f f' _
   have back:∀ (i j:Nat) (y:TV),i < n → (f' i)[j]? = some y → ∃ x,(f i)[j]? = some x:=fun i j y hi hy=>by
    have hj:j < (f i).length:=by rw [← hl i hi]; exact (List.getElem?_eq_some_iff.1 hy).1
    exact ⟨_,List.getElem?_eq_getElem hj⟩
   refine .row b 0 cap z n f' cs (hO b _ h1) h5 h6 (fun i hi=>(hl i hi).trans (h7 i hi)) (fun i j y hi hy=>?_) fun i j y hi hy=>?_
   ·obtain ⟨x,hx⟩:=back i j y hi hy
    rw [Nat.zero_add]
    exact (h3.cell (i * z + j)).trans (h8 i j x hi hx)
   ·obtain ⟨x,hx⟩:=back i j y hi hy
    exact ih i j x y hi hx hy (h9 i j x hi hx)
 | mp =>
  intro p v hr
  cases hr with
  | fr h=>cases h
  | mp b kk vk l es clock h1 h2 h3=>exact .fm b _ _ _ es clock (hO b _ h1) h2 h3

/-- What a callee that only reads sees of an argument. -/
inductive SeeS (σ:AState):SV → SV → Prop
 | old {s s':SV}:σ.view s = some ([],s') → SeeS σ s s'
 | al {p:Path} {z:Nat} {e:TypeId} {n:Nat} {f f':Nat → List TV}:σ.look p = some (.own z e n f) → Seen (.own z e n f) (.fz z n f') → SeeS σ (.al p) (.tv (.fz z n f'))
 | pe {p:Path} {i j z:Nat} {e:TypeId} {n:Nat} {f f':Nat → List TV}:σ.look p = some (.own z e n f) → Seen (.own z e n f) (.fz z n f') → SeeS σ (.pe p i j z) (.rp ((f' i).drop j))
 | pc {o off:Nat} {t:TypeId} {cs ys:List TV}:σ.heap[o]? = some (.cells t cs) → SeenL (cs.drop off) ys → SeeS σ (.pc o off) (.rp ys)
 | rpc {o off:Nat} {t:TypeId} {cs ys:List TV}:σ.heap[o]? = some (.cells t cs) → SeenL (cs.drop off) ys → SeeS σ (.rpc o off) (.rp [.pr ys])
 | fn {f:FuncId} {caps caps':List SV}:caps'.length = caps.length → (∀ (q:Nat) (s s':SV),caps[q]? = some s → caps'[q]? = some s' → s.flat = true) → (∀ (q:Nat) (s s':SV),caps[q]? = some s → caps'[q]? = some s' → s'.flat = true) → (∀ (q:Nat) (s s':SV),caps[q]? = some s → caps'[q]? = some s' → SeeS σ s s') → SeeS σ (.fn f caps) (.fn f caps')

inductive SeesL (σ:AState):List SV → List SV → Prop
 | nil:SeesL σ [] []
 | cons {s s':SV} {l l':List SV}:SeeS σ s s' → SeesL σ l l' → SeesL σ (s :: l) (s' :: l')

section
variable {X:Ctx} {g:Gh} {σ:AState} {a:Act} {w:World}

theorem own_see (hs:Sat X g σ a w) {p:Path} {z:Nat} {e:TypeId} {n:Nat} {f f':Nat → List TV} (hlook:σ.look p = some (.own z e n f)) (hS:Seen (.own z e n f) (.fz z n f')) :
  ∃ v,TRel g w p v (.own z e n f) ∧ FRel (Gh.still w).P w v (.fz z n f'):=by
 have hr:∀ o,p.1 ≠ .obj o:=by
  intro o ho
  rw [show p = (.obj o,p.2) from by rw [← ho],look_obj] at hlook
  cases hlook
 obtain ⟨r,st⟩:=p
 obtain ⟨v',hv'⟩:=look_rel hs hlook hr
 exact ⟨v',hv',hS.rel (fun b hb=>(hs.frozen b hb).2) (fun b q hb=>(hs.lt b q hb).1) hv'⟩

theorem SeeS.s1 (hs:Sat X g σ a w) {k j:Nat} {v:Value} {s s':SV} (h:S1 g w σ k j v s) (hS:SeeS σ s s') (hno:∀ t t',s = t → s' = t' → σ.view t = some ([],t') → S1 (Gh.still w) w ⟨[],[]⟩ 0 0 v s') (σ0:AState) (k' j':Nat) (hn:∀ σ1 k1 j1,S1 (Gh.still w) w ⟨[],[]⟩ 0 0 v s' → S1 (Gh.still w) w σ1 k1 j1 v s'):S1 (Gh.still w) w σ0 k' j' v s':=by
 cases hS with
 | old hv=>exact hn _ _ _ (hno _ _ rfl rfl hv)
 | @al p z e n f f' hlook hse =>
  obtain ⟨z',e',n',f0,hl',hval⟩:=h
  rw [hlook] at hl'
  cases hl'
  obtain ⟨v',hr,hf⟩:=own_see hs hlook hse
  rcases hval with ⟨rfl,rfl⟩ | ⟨b,cap,c,hb,rfl,hrow,hc,h5,h6⟩
  ·exact .fr (.nil _ _ _ _)
  ·rcases own_inv hr with ⟨_,rfl⟩ | ⟨b',cap',c',cs,k1,rfl,k3,k4,k5,k6,k7,k8,k9⟩
   ·exact .fr (.row b 0 cap z 0 f' (fun _ _=>undef) (hs.lt b _ hb).1 h5 h6 (fun i hi=>by omega) (fun i j y hi _=>by omega) fun i j y hi _=>by omega)
   ·obtain rfl:=hs.inj b b' _ hb k1
    rcases fz_inv hf with ⟨⟨A,c0,e1⟩,rfl⟩ | ⟨b2,off,cap2,ds,q1,q2,q3,q4,q5,q6,q7⟩
    ·exact .fr (.row b 0 cap z 0 f' (fun _ _=>undef) (hs.lt b _ hb).1 h5 h6 (fun i hi=>by omega) (fun i j y hi _=>by omega) fun i j y hi _=>by omega)
    ·cases q2
     exact .fr (.row b 0 cap z n f' ds q1 h5 h6 q5 q6 q7)
 | @pe p i j0 z e n f f' hlook hse =>
  obtain ⟨b,e',n',f0,hl',hi,hb,rfl⟩:=h
  rw [hlook] at hl'
  cases hl'
  obtain ⟨v',hr,hf⟩:=own_see hs hlook hse
  rcases own_inv hr with ⟨_,rfl⟩ | ⟨b',cap',c',cs,k1,rfl,k3,k4,k5,k6,k7,k8,k9⟩
  ·omega
  ·obtain rfl:=hs.inj b b' _ hb k1
   rcases fz_inv hf with ⟨_,rfl⟩ | ⟨b2,off,cap2,ds,q1,q2,q3,q4,q5,q6,q7⟩
   ·omega
   ·cases q2
    refine ⟨b,i * z + j0,rfl,q1,fun q y hy=>?_⟩
    rw [List.getElem?_drop] at hy
    refine ⟨ds i (j0 + q),?_,q7 i (j0 + q) y hi hy⟩
    have:=q6 i (j0 + q) y hi hy
    rw [Nat.zero_add] at this
    rw [Nat.add_assoc]
    exact this
 | @pc o off t cs ys ho hse =>
  obtain ⟨rfl,_⟩:=h
  obtain ⟨c,h1,h2,h3,h4⟩:=hs.heap o t cs ho
  refine ⟨g.m o,off,rfl,(hs.lt _ _ h2).1,fun i y hy=>?_⟩
  have hj:i < (cs.drop off).length:=by rw [← hse.1]; exact (List.getElem?_eq_some_iff.1 hy).1
  have hx:(cs.drop off)[i]? = some (cs.drop off)[i]:=List.getElem?_eq_getElem hj
  have hse':=hse.2 i _ y hx hy
  rw [List.getElem?_drop] at hx
  obtain ⟨u,hu,hr⟩:=h4 (off + i) _ hx
  exact ⟨u,by rw [cell_of_row w (g.m o) (off + i) c t (0,0) h1]; exact hu,hse'.rel (fun b hb=>(hs.frozen b hb).2) (fun b q hb=>(hs.lt b q hb).1) hr⟩
 | @rpc o off t cs ys ho hse =>
  obtain ⟨b0,rfl,hb0,hcell,_⟩:=h
  obtain ⟨c,h1,h2,h3,h4⟩:=hs.heap o t cs ho
  have back:∀ (i:Nat) (y:TV),ys[i]? = some y → ∃ u,w.cell? ⟨g.m o,off + i,none⟩ = some u ∧ FRel (Gh.still w).P w u y:=fun i y hy=>by
   have hj:i < (cs.drop off).length:=by rw [← hse.1]; exact (List.getElem?_eq_some_iff.1 hy).1
   have hx:(cs.drop off)[i]? = some (cs.drop off)[i]:=List.getElem?_eq_getElem hj
   have hse':=hse.2 i _ y hx hy
   rw [List.getElem?_drop] at hx
   obtain ⟨u,hu,hr⟩:=h4 (off + i) _ hx
   exact ⟨u,by rw [cell_of_row w (g.m o) (off + i) c t (0,0) h1]; exact hu,hse'.rel (fun b hb=>(hs.frozen b hb).2) (fun b q hb=>(hs.lt b q hb).1) hr⟩
  refine ⟨b0,0,rfl,(hs.frozen _ hb0).2,fun i y hy=>?_⟩
  cases i with
  | succ i=>simp at hy
  | zero =>
   simp only [List.getElem?_cons_zero,Option.some.injEq] at hy
   subst hy
   refine ⟨_,hcell,.ptr (g.m o) off ys (fun i=>(w.cell? ⟨g.m o,off + i,none⟩).getD undef) (hs.lt _ _ h2).1 (fun i y hy=>?_) fun i y hy=>?_⟩
   ·obtain ⟨u,hu,_⟩:=back i y hy
    rw [hu]; rfl
   ·obtain ⟨u,hu,hr⟩:=back i y hy
    rw [hu]; exact hr
 | fn=>exact h.elim

theorem still_any {w:World} {σ0:AState} {k j:Nat} {v:Value} {s:SV} (h:S1 (Gh.still w) w σ0 k j v s) (j':Nat):S1 (Gh.still w) w σ0 k j' v s:=by
 cases s with
 | tv x=>exact TRel.mono (g':=Gh.still w) (w':=w) (p:=(.slot k j,[])) (r':=.slot k j') h (fun b hb=>⟨hb,rfl⟩) fun b st hb=>(by cases hb)
 | agg cs =>
  obtain ⟨vs,rfl,h1,h2⟩:=h
  exact ⟨vs,rfl,h1,h2⟩
 | tup=>exact h.elim
 | fn=>exact h.elim
 | _=>exact h

theorem seeFlat (hs:Sat X g σ a w) {k j:Nat} {v:Value} {s s':SV} (hflat:s.flat = true) (hflat':s'.flat = true) (h1:S1 g w σ k j v s) (hS:SeeS σ s s') (σ0:AState) (k':Nat):SR (Gh.still w) w σ0 k' v s':=by
 by_cases hv:σ.view s = some ([],s')
 ·exact (show AR g w σ v s from .inr ⟨k,j,h1⟩).view hs hv (fun c hc=>by cases hc) σ0 k'
 ·rw [SR_flat hflat']
  refine hS.s1 hs h1 (fun t t' e1 e2 hv'=>absurd (by rw [e1,e2]; exact hv') hv) σ0 k' 0 fun σ1 k1 j1 h2=>?_
  cases hS with
  | old hv'=>exact absurd hv' hv
  | al=>exact TRel.fr (TRel.plain (g:=Gh.still w) (p:=(.slot 0 0,[])) h2 rfl)
  | pe=>exact h2
  | pc=>exact h2
  | rpc=>exact h2
  | fn=>cases hflat

theorem AR.see (hs:Sat X g σ a w) {v:Value} {s s':SV} (h:AR g w σ v s) (hS:SeeS σ s s') (σ0:AState) (k':Nat):SR (Gh.still w) w σ0 k' v s':=by
 by_cases hv:σ.view s = some ([],s')
 ·exact h.view hs hv (fun c hc=>by cases hc) σ0 k'
 by_cases hfn:∃ f caps,s = .fn f caps
 ·obtain ⟨f,caps,rfl⟩:=hfn
  cases hS with
  | old hv'=>exact absurd hv' hv
  | @fn _ _ caps' hl hc1 hc2 hc =>
   rcases h with ⟨k,cs,rfl,hsz,hcs⟩ | ⟨k,j,h⟩
   ·refine ⟨cs,rfl,hsz.trans hl.symm,fun q s' hq=>?_⟩
    have hlt:q < caps.length:=by rw [← hl]; exact (List.getElem?_eq_some_iff.1 hq).1
    obtain ⟨u,hu,hr⟩:=hcs q _ (List.getElem?_eq_getElem hlt)
    have f1:=hc1 q _ s' (List.getElem?_eq_getElem hlt) hq
    have f2:=hc2 q _ s' (List.getElem?_eq_getElem hlt) hq
    have hS':=hc q _ s' (List.getElem?_eq_getElem hlt) hq
    refine ⟨u,hu,?_⟩
    have h2:SR (Gh.still w) w σ0 k' u s':=seeFlat hs f1 f2 hr hS' σ0 k'
    rw [SR_flat f2] at h2
    exact still_any h2 q
   ·exact h.elim
 ·have hflat:s.flat = true:=by
   cases hS with
   | old hv'=>exact absurd hv' hv
   | fn=>exact absurd ⟨_,_,rfl⟩ hfn
   | _=>rfl
  have hflat':s'.flat = true:=by
   cases hS with
   | old hv'=>exact absurd hv' hv
   | fn=>exact absurd ⟨_,_,rfl⟩ hfn
   | _=>rfl
  have h1:∃ k j,S1 g w σ k j v s:=by
   rcases h with ⟨k,h⟩ | ⟨k,j,h⟩
   ·rw [SR_flat hflat] at h; exact ⟨k,0,h⟩
   ·exact ⟨k,j,h⟩
  obtain ⟨k,j,h1⟩:=h1
  exact seeFlat hs hflat hflat' h1 hS σ0 k'

theorem SeesL.at:∀ {l l':List SV},SeesL σ l l' → l'.length = l.length ∧ ∀ (q:Nat) s',l'[q]? = some s' → ∃ s,l[q]? = some s ∧ SeeS σ s s'
 | _,_,.nil=>⟨rfl,fun q s' h=>by simp at h⟩
 | _,_,.cons h hr=>by
  obtain ⟨h1,h2⟩:=hr.at
  refine ⟨by simp [h1],fun q s' hq=>?_⟩
  cases q with
  | zero=>simp only [List.getElem?_cons_zero,Option.some.injEq] at hq; subst hq; exact ⟨_,rfl,h⟩
  | succ q=>exact h2 q s' hq

theorem Ent.see (hs:Sat X g σ a w) {vs:Array Value} {ss ss':List SV} (hsz:vs.size = ss.length) (hr:∀ (q:Nat) s,ss[q]? = some s → AR g w σ (vs.getD q undef) s) (hv:SeesL σ ss ss') :
  Ent (Gh.still w) w vs ss' []:=by
 obtain ⟨h1,h2⟩:=hv.at
 refine ⟨by rw [hsz,h1],fun k sv hk=>?_,fun o t cs ho=>(by simp at ho),fun b b' p hb _=>(by cases hb),fun b hb=>⟨rfl,hb⟩,fun b p hb=>(by cases hb),fun b p hb=>(by cases hb)⟩
 obtain ⟨s,hs0,hv0⟩:=h2 k sv hk
 exact (hr k s hs0).see hs hv0 _ _
end

section
variable {F:Cfg} {Q:Exit → AState → Prop} {σ:AState}

/-- Arguments that are only read, however much they own. -/
theorem AOne.callV {ops:Array Oper} {i:Nat} {as:Array Operand} {ts:Array TypeId} {x:Operand} (o:Oper) (ho:ops[i]? = some o) (hop:o.op = .call { callee:=.value x,args:=as,argTypes:=ts }) (hg:guardV ops σ o = some true)
  (d:Nat) (hd:o.dst = some d) (hlt:Nat.blt d F.n = true) (f:FuncId) (caps:List SV) (hx:σ.ev x = .fn f caps) (hf:Fn F.P f) (ss args:List SV) (he:evs σ as.toList ++ caps = ss) (hv:SeesL σ ss args) {res:SV}
  (hcall:ACall F.P f args [] res []) (hi:res.ind) (hn:res.nameless = true):AOne F ops i σ (σ.put d res):=fun w0 g0 g a w hs K Q h=>by
 subst he
 simp only [wpOp,ho]
 rw [if_pos (guardV_sound hs hg)]
 left
 obtain ⟨us,hxv,hsz,hr⟩:=args_rel hs (as:=as) hx
 unfold Oper.wp
 rw [run_call hf hop hxv,Oper.upon_enter]
 refine Calls.mono (hcall _ w _ (Ent.see hs hsz hr hv)) ?_
 rintro e w' ⟨v,g',rfl,hE⟩
 have hd':d < (F.ctx w0 g0).n:=Nat.le_of_ble_eq_true hlt
 rw [hd]
 exact h _ _ w' (hs.callPut hd' hE (fun _=>rfl) g.P (fun _ hb=>hb) (fun _ hb=>.inl hb) (hE.res.ind g.P hi) hn)
end

theorem SeeS.fnL {σ:AState} {f:FuncId} {caps caps':List SV} (h:SeesL σ caps caps') (h1:caps.all SV.flat = true) (h2:caps'.all SV.flat = true):SeeS σ (.fn f caps) (.fn f caps'):=by
 obtain ⟨e1,e2⟩:=h.at
 rw [List.all_eq_true] at h1 h2
 refine .fn e1 (fun q s s' hs hs'=>h1 _ (List.mem_of_getElem? hs)) (fun q s s' hs hs'=>h2 _ (List.mem_of_getElem? hs')) fun q s s' hs hs'=>?_
 obtain ⟨t,ht,hS⟩:=e2 q s' hs'
 rw [hs] at ht
 cases ht
 exact hS

/-- A map, or none. -/
def mpO (kk:IntKind) (vk:Option IntKind):Option (List (Int × Int)) → TV
 | none=>.sc (.map none)
 | some l=>.mp kk vk l
def fmO (kk:IntKind) (vk:Option IntKind):Option (List (Int × Int)) → TV
 | none=>.sc (.map none)
 | some l=>.fm kk vk l
theorem Seen.mpO {kk:IntKind} {vk:Option IntKind} {o:Option (List (Int × Int))}:Seen (mpO kk vk o) (fmO kk vk o):=by
 cases o with
 | none=>exact .plain rfl
 | some l=>exact .mp
end Go.Sx

namespace Go.Sx
open Go

/-- So many numbers of a list. -/
def arrL (n:Nat) (l:List Int):List Int:=(List.range n).map fun i=>l.getD i 0
/-- An array with one number anew. -/
def setN (n:Nat) (l:List Int) (q:Nat) (v:Int):List Int:=(arrL n l).set q v

theorem arrL_length (n:Nat) (l:List Int):(arrL n l).length = n:=by simp [arrL]
theorem setN_at {A:Type} [Inhabited A] (enc:A → List TV) (l:List A) (k j:Nat) (x:TV) (v:A) (hv:(enc (l.getD k default)).set j x = enc v) :
  ∀ q,q < l.length → setElem (setElem (fun i=>enc (l.getD i default)) k ((enc (l.getD k default)).set j .hole)) k (putAt ((setElem (fun i=>enc (l.getD i default)) k ((enc (l.getD k default)).set j .hole)) k) j [x]) q = enc ((l.set k v).getD q default):=fun q hq=>by
 by_cases hqk:q = k
 ·subst hqk
  rw [setElem_eq,setElem_eq]
  simp only [putAt,List.set_set,hv]
  simp [List.getD_eq_getElem?_getD,hq]
 ·rw [setElem_ne _ _ hqk,setElem_ne _ _ hqk]
  simp [List.getD_eq_getElem?_getD,List.getElem?_set_ne (Ne.symm hqk)]

theorem ind_ownL {A:Type} [Inhabited A] {z:Nat} {e:TypeId} {enc:A → List TV} {xs:List A} (h:∀ a,(enc a).all TV.scal = true):Ind (ownL z e enc xs) :=
 .own _ _ _ _ fun i j y _ hy=>.scal (by have:=h (xs.getD i default); rw [List.all_eq_true] at this; exact this y (List.mem_of_getElem? hy))

theorem ind_nil:∀ s ∈ ([]:List SV),s.ind1:=fun s hs=>by cases hs
theorem ind_cons {s:SV} {l:List SV} (h:s.ind1) (hr:∀ s ∈ l,s.ind1):∀ x ∈ s :: l,x.ind1:=fun x hx=>by
 rcases List.mem_cons.1 hx with rfl | hx
 ·exact h
 ·exact hr x hx

theorem app1_at {A:Type} [Inhabited A] (enc:A → List TV) (l:List A) (cs:List TV) (v:A) (hv:cs = enc v):∀ i,i < l.length + 1 → appF l.length (fun i=>enc (l.getD i default)) (fun _=>cs) i = enc ((l ++ [v]).getD i default):=fun i hi=>by
 rcases Nat.lt_or_ge i l.length with h | h
 ·rw [appF_lt h]; simp [List.getD_eq_getElem?_getD,List.getElem?_append_left h]
 ·obtain rfl:i = l.length:=by omega
  rw [appF_ge h,hv]; simp [List.getD_eq_getElem?_getD]

/-- A pointer to an object goes into a new cell that lies still. -/
theorem AOne.boxP {F:Cfg} {σ:AState} {ops:Array Oper} {i:Nat} {t:TypeId} {x:Operand} (o:Oper) (ho:ops[i]? = some o) (hop:o.op = .box t x) (hg:guardV ops σ o = some true) (d:Nat) (hd:o.dst = some d) (hlt:Nat.blt d F.n = true) {o' off:Nat} (hx:σ.ev x = .pc o' off):AOne F ops i σ (σ.put d (.rpc o' off)) :=
 AOne.comes o ho hg fun w0 g0 g a w hs=>by
  obtain ⟨k,hk⟩:=ev_rel hs x
  rw [hx] at hk
  obtain ⟨hv,hl⟩:=hk
  have hfr:=hs.fresh
  have h1:=hs.goes (goes_new w (.cells #[.pointer (some ⟨g.m o',off,none⟩)] t)) hfr.1 hfr.2.1 hfr.2.2
  have h2:=h1.addP (b:=w.heap.size) hfr.1 (by simp) hfr.2.2
  have hrel:SR (g.frz w.heap.size) (w.alloc (.cells #[.pointer (some ⟨g.m o',off,none⟩)] t)) σ 0 (.pointer (some ⟨w.heap.size,0,none⟩)) (.rpc o' off) :=
   ⟨w.heap.size,rfl,.inr rfl,by rw [cell_obj (t:=t) (Go.heap_alloc_new w _)]; rfl,hl⟩
  have h3:=h2.put (d:=d) (Nat.le_of_ble_eq_true hlt) (sv:=.rpc o' off) rfl rfl hrel
  refine ⟨.value (.pointer (some ⟨w.heap.size,0,none⟩)),_,_,?_,.inl ⟨_,rfl,by rw [hd]; exact h3⟩⟩
  simp [execOp,hop,Instr.box,newVar,newRow,hv,Value.cells]
end Go.Sx

namespace Go.Sx
open Go

abbrev bs (l:List UInt8):Value:=.string ⟨l.toArray⟩

def sfind:List (List UInt8 × List UInt8) → List UInt8 → Nat → Option (Nat × List UInt8)
 | [],_,_=>none
 | e :: r,k,i=>match e.1 == k with | true=>some (i,e.2) | false=>sfind r k (i + 1)

def sval (L:List (List UInt8 × List UInt8)) (k:List UInt8):List UInt8:=match sfind L k 0 with | some q=>q.2 | none=>[]
def shas (L:List (List UInt8 × List UInt8)) (k:List UInt8):Bool:=(sfind L k 0).isSome

abbrev rowsS (L:List (List UInt8 × List UInt8)):List (Value × Value):=L.map fun e=>(bs e.1,bs e.2)

theorem lit_beq (a b:List UInt8):((⟨a.toArray⟩:ByteArray) == (⟨b.toArray⟩:ByteArray)) = (a == b):=by
 have h:((⟨a.toArray⟩:ByteArray) == (⟨b.toArray⟩:ByteArray)) = (a.toArray == b.toArray):=rfl
 rw [h]; simp

theorem findNow_strs (k:List UInt8):∀ (L:List (List UInt8 × List UInt8)) (es:List MapEntry) (i:Nat),es.map (fun m=>(m.key,m.val)) = rowsS L →
  Instr.findNow .string (bs k) es i = some ((sfind L k i).map fun q=>(q.1,bs q.2))
 | [],[],i,_=>rfl
 | [],_ :: _,_,h=>by cases h
 | _ :: _,[],_,h=>by cases h
 | e :: L,m :: es,i,h=>by
  simp only [rowsS,List.map_cons,List.cons.injEq,Prod.mk.injEq] at h
  obtain ⟨⟨h1,h2⟩,h3⟩:=h
  simp only [Instr.findNow,h1,Instr.sameNow,lit_beq,sfind]
  by_cases hn:e.1 = k
  ·subst hn
   simp [h2]
  ·have h4:(k == e.1) = false:=by simpa using fun e=>hn e.symm
   have h5:(e.1 == k) = false:=by simpa using hn
   rw [h4,h5]
   simp only
   exact findNow_strs k L es (i + 1) h3

theorem sfind_no:∀ (L:List (List UInt8 × List UInt8)) (k:List UInt8) (i:Nat),k ∉ L.map (·.1) → sfind L k i = none
 | [],_,_,_=>rfl
 | e :: L,k,i,h=>by
  simp only [List.map_cons,List.mem_cons,not_or] at h
  have h5:(e.1 == k) = false:=by simpa using fun e=>h.1 e.symm
  simp only [sfind,h5]
  exact sfind_no L k (i + 1) h.2

theorem run_keyStr {P:Program} {w:World} {kt:TypeId} {s:ByteArray} (hd:P.underlying kt = some .string) (e:Bool):(Instr.checkKey e 10000 kt (.string s)).run P w = .ok () w:=by
 rw [show (10000:Nat) = 9999 + 1 from rfl]
 unfold Instr.checkKey
 simp only [Sem.run_bind,run_underlying hd,Result.andThen_ok]
 rfl

theorem run_findStr {P:Program} {w:World} {kt:TypeId} {k:List UInt8} {l:List MapEntry} {x:Option (Nat × Value)} (hd:P.underlying kt = some .string) (h:Instr.findNow .string (bs k) l 0 = some x):(Instr.findKey kt (bs k) l).run P w = .ok x w:=by
 simp [Instr.findKey,run_underlying hd,h]

/-- A map's block, as it grows. -/
structure Lit (w1 w':World) (b:Nat) (L:List (List UInt8 × List UInt8)):Prop where
 map:∃ es clock,w'.heap[b]? = some (.map es clock) ∧ es.toList.map (fun m=>(m.key,m.val)) = rowsS L
 goes:Goes w1 w' b

theorem run_insert {P:Program} {w1 w':World} {b:Nat} {L:List (List UInt8 × List UInt8)} (h:Lit w1 w' b L) {t kt vt:TypeId} (h1:P.underlying t = some (.map kt vt)) (h2:P.underlying kt = some .string) (k v:List UInt8) (hk:k ∉ L.map (·.1)) :
  ∃ w2,(Instr.mapUpdate t (.map (some b)) (bs k) (bs v)).run P w' = .ok () w2 ∧ Lit w1 w2 b (L ++ [(k,v)]):=by
 obtain ⟨⟨es,clock,hb,hl⟩,hg⟩:=h
 have hf:=findNow_strs k L es.toList 0 hl
 rw [sfind_no L k 0 hk] at hf
 refine ⟨{ w' with heap:=w'.heap.setIfInBounds b (.map (es.push { key:=bs k,val:=bs v,born:=clock }) (clock + 1)) },?_,⟨⟨es.push { key:=bs k,val:=bs v,born:=clock },clock + 1,?_,?_⟩,?_⟩⟩
 ·simp only [Instr.mapUpdate,Sem.run_bind,run_underlying h1,Result.andThen_ok,run_getMap hb,run_keyStr h2,run_findStr h2 hf,Option.map_none,run_setMap _ hb]
 ·have:b < w'.heap.size:=(Array.getElem?_eq_some_iff.1 hb).1
  simp [this]
 ·simp only [rowsS,Array.toList_push,List.map_append,hl]; rfl
 ·refine ⟨fun q hq hne=>?_,by simpa using hg.size,hg.os,hg.tape,hg.output⟩
  simp only [Array.getElem?_setIfInBounds]
  rw [if_neg (Ne.symm hne)]
  exact hg.heap q hq hne

section
variable {P:Program} {ops:Array Oper} {Q:Exit → Act → World → Prop}

theorem wpOps_inserts {t kt vt:TypeId} (h1:P.underlying t = some (.map kt vt)) (h2:P.underlying kt = some .string) {dm b:Nat} {a:Act} (ha:a.eval (.tmp dm) = .map (some b)) {w1:World} {rest:List Nat} :
  ∀ (ins:List (Nat × List UInt8 × List UInt8)) (L:List (List UInt8 × List UInt8)) (w':World),(∀ e ∈ ins,∃ o,ops[e.1]? = some o ∧ o.guard = none ∧ o.dst = none ∧ o.op = .insert t (.tmp dm) (.const (bs e.2.1)) (.const (bs e.2.2))) →
   (L.map (·.1) ++ ins.map (·.2.1)).Nodup → Lit w1 w' b L → (∀ w2,Lit w1 w2 b (L ++ ins.map (·.2)) → wpOps P ops Q rest a w2) → wpOps P ops Q (ins.map (·.1) ++ rest) a w'
 | [],L,w',_,_,hl,h=>h w' (by simpa using hl)
 | e :: ins,L,w',hop,hnd,hl,h=>by
  obtain ⟨o,ho,hg,hd,hop'⟩:=hop e (List.mem_cons_self ..)
  have hk:e.2.1 ∉ L.map (·.1):=fun hm=>by
   rw [List.nodup_append] at hnd
   exact hnd.2.2 _ hm _ (by simp) rfl
  obtain ⟨w2,hrun,hl2⟩:=run_insert (P:=P) hl h1 h2 e.2.1 e.2.2 hk
  rw [List.map_cons,List.cons_append,wpOps_cons]
  simp only [wpOp,ho,Region.wanted,hg,if_true]
  left
  unfold Oper.wp
  have hex:(execOp a.eval o).run P w' = .ok .skip w2:=by
   have hrun':(Instr.mapUpdate t (.map (some b)) (a.eval (.const (bs e.2.1))) (a.eval (.const (bs e.2.2)))).run P w' = .ok () w2:=hrun
   simp only [execOp,hop',ha,Sem.run_bind,hrun',Result.andThen_ok,Sem.run_pure]
  rw [hex,Oper.upon_skip,hd]
  refine wpOps_inserts h1 h2 ha ins (L ++ [e.2]) w2 (fun q hq=>hop q (List.mem_cons_of_mem _ hq)) (by simpa using hnd) (by simpa using hl2) fun w3 hl3=>h w3 (by simpa using hl3)
end

section
variable {F:Cfg} {Q:Exit → AState → Prop} {σ:AState} {ops:Array Oper}

/-- A literal of a map of strings is made, and looked into. -/
theorem AOps.litMap {i0 i1 i2 i3:Nat} {l:List Nat} {t kt vt:TypeId} {dm d1 d2 d3:Nat} {x:Operand} {k:List UInt8} {vi:TI} (ins:List (Nat × List UInt8 × List UInt8)) (o0 o1 o2 o3:Oper)
  (h0:ops[i0]? = some o0) (g0:o0.guard = none) (p0:o0.op = .makeMap t none) (k0:o0.dst = some dm)
  (hins:∀ e ∈ ins,∃ o,ops[e.1]? = some o ∧ o.guard = none ∧ o.dst = none ∧ o.op = .insert t (.tmp dm) (.const (bs e.2.1)) (.const (bs e.2.2))) (hnd:(ins.map (·.2.1)).Nodup)
  (h1:ops[i1]? = some o1) (g1:o1.guard = none) (p1:o1.op = .move (.tmp dm)) (k1:o1.dst = some d1)
  (h2:ops[i2]? = some o2) (g2:o2.guard = none) (p2:o2.op = .move x) (k2:o2.dst = some d2)
  (h3:ops[i3]? = some o3) (g3:o3.guard = none) (p3:o3.op = .lookup t (.tmp d1) (.tmp d2) true) (k3:o3.dst = some d3)
  (hu:(F.T.get t).map TI.und = some (.map kt vt)) (hk:(F.T.get kt).map TI.und = some .string) (hv:F.T.get vt = some vi) (hz:vi.zero = [bs []]) (hza:isAggD vi.und = false)
  (hlt:(Nat.blt dm F.n && Nat.blt d1 F.n && Nat.blt d2 F.n && Nat.blt d3 F.n && !Nat.beq d1 d2) = true) (hx:((σ.put dm .junk).put d1 .junk).ev x = .tv (.str k))
  (h:AOps F ops Q l ((((σ.put dm .junk).put d1 .junk).put d2 (.tv (.str k))).put d3 (.tup [.tv (.str (sval (ins.map (·.2)) k)),.tv (.bool (shas (ins.map (·.2)) k))]))):AOps F ops Q (i0 :: (ins.map (·.1) ++ (i1 :: i2 :: i3 :: l))) σ:=fun w0 g00 g a w hs=>by
 simp only [Bool.and_eq_true,Bool.not_eq_true'] at hlt
 obtain ⟨⟨⟨⟨lm,l1⟩,l2⟩,l3⟩,n12⟩:=hlt
 have lm:dm < F.n:=Nat.le_of_ble_eq_true lm
 have l1:d1 < F.n:=Nat.le_of_ble_eq_true l1
 have l2:d2 < F.n:=Nat.le_of_ble_eq_true l2
 have l3:d3 < F.n:=Nat.le_of_ble_eq_true l3
 have n12:=Nat.ne_of_beq_eq_false n12
 have hts:a.tmps.size = F.n:=hs.size
 have hund:=F.ok.und hu
 have hundk:=F.ok.und hk
 obtain ⟨_,vinf,vz,hvi,hvs,_,hvz,hvc,hvl,_,hvag,_⟩:=F.ok vt vi hv
 have hfr:=hs.fresh
 have s0:=hs.goes (goes_new w (.map #[] 0)) hfr.1 hfr.2.1 hfr.2.2
 have hb:g.ow w.heap.size = none:=hfr.1
 rw [wpOps_cons]
 refine wpOp_value h0 g0 (v:=.map (some w.heap.size)) (w':=w.alloc (.map #[] 0)) ?_ ?_
 ·simp [execOp,p0,Instr.makeMap]
 rw [k0]
 have ha:(a.put (some dm) (.map (some w.heap.size))).eval (.tmp dm) = .map (some w.heap.size):=eval_put_same (by rw [hts]; exact lm)
 have hlit:Lit (w.alloc (.map #[] 0)) (w.alloc (.map #[] 0)) w.heap.size []:=⟨⟨#[],0,Go.heap_alloc_new w _,rfl⟩,⟨fun _ _ _=>rfl,Nat.le_refl _,rfl,rfl,rfl⟩⟩
 refine wpOps_inserts hund hundk ha ins [] _ hins (by simpa using hnd) hlit fun w2 hl2=>?_
 rw [List.nil_append] at hl2
 obtain ⟨⟨es,clock,hmb,hml⟩,hgo⟩:=hl2
 have s1:=s0.goes hgo hb hfr.2.1 hfr.2.2
 have s2:=(s1.put lm (v:=.map (some w.heap.size)) (sv:=.junk) (k:=0) rfl rfl trivial).put l1 (v:=.map (some w.heap.size)) (sv:=.junk) (k:=0) rfl rfl trivial
 have hxv:=ev_str s2 hx
 have s3:=s2.put l2 (v:=bs k) (sv:=.tv (.str k)) (k:=0) rfl rfl (.fr (.str k))
 have hf:=findNow_strs k (ins.map (·.2)) es.toList 0 hml
 have s4:=s3.put l3 (v:=.tuple #[bs (sval (ins.map (·.2)) k),.bool (shas (ins.map (·.2)) k)]) (sv:=.tup [.tv (.str (sval (ins.map (·.2)) k)),.tv (.bool (shas (ins.map (·.2)) k))]) (k:=0) rfl rfl
  ⟨#[bs (sval (ins.map (·.2)) k),.bool (shas (ins.map (·.2)) k)],rfl,rfl,fun j sv hj=>by
   rcases j with _ | _ | j
   ·simp only [List.getElem?_cons_zero,Option.some.injEq] at hj; subst hj; exact ⟨_,rfl,.fr (.str _)⟩
   ·simp only [List.getElem?_cons_succ,List.getElem?_cons_zero,Option.some.injEq] at hj; subst hj; exact ⟨_,rfl,.fr (.bool _)⟩
   ·simp at hj⟩
 rw [wpOps_cons]
 refine wpOp_value h1 g1 (v:=.map (some w.heap.size)) (w':=w2) ?_ ?_
 ·simp only [execOp,p1,ha]; rfl
 rw [k1,wpOps_cons]
 refine wpOp_value h2 g2 (v:=bs k) (w':=w2) ?_ ?_
 ·simp only [execOp,p2,hxv]; rfl
 rw [k2,wpOps_cons]
 refine wpOp_value h3 g3 (v:=.tuple #[bs (sval (ins.map (·.2)) k),.bool (shas (ins.map (·.2)) k)]) (w':=w2) ?_ ?_
 ·have e1:(((a.put (some dm) (.map (some w.heap.size))).put (some d1) (.map (some w.heap.size))).put (some d2) (bs k)).eval (.tmp d1) = .map (some w.heap.size):=by
   rw [eval_put n12,eval_put_same (by rw [size_put,hts]; exact l1)]
  have e2:(((a.put (some dm) (.map (some w.heap.size))).put (some d1) (.map (some w.heap.size))).put (some d2) (bs k)).eval (.tmp d2) = bs k:=eval_put_same (by rw [size_put,size_put,hts]; exact l2)
  have hzv:(zeroValue vt).run F.P w2 = .ok (bs []) w2:=by
   have hvz':vz = bs []:=by
    rw [hz] at hvc
    cases vz with
    | string s=>simpa [Value.cells] using hvc
    | agg cs=>exact absurd rfl ((hvag hza).2 cs)
    | _=>simp [Value.cells] at hvc
   subst hvz'
   simp only [zeroValue,typeInfo,Sem.run_bind,run_program,Result.andThen_ok,hvi,Sem.run_pure,hvz]
  simp only [execOp,p3,e1,e2,Instr.lookup,Sem.run_bind,run_underlying hund,Result.andThen_ok,run_getMap hmb,Sem.run_pure,run_keyStr hundk,run_findStr hundk hf]
  cases hq:sfind (ins.map (·.2)) k 0 with
  | none=>simp [hzv,sval,shas,hq]
  | some q=>simp [sval,shas,hq]
 rw [k3]
 exact h w0 g00 _ _ w2 s4
end
end Go.Sx

namespace Go.Sx
open Go
section
variable {X:Ctx} {g:Gh} {σ:AState} {a:Act} {w:World}

/-- What a slot holds anew, where the frame and memory are as they were. -/
theorem Sat.reslot (h:Sat X g σ a w) {s:Nat} {sv:SV} {g':Gh} (hm:g'.m = g.m)
  (hP:∀ b,g.P b → g'.P b) (hO:∀ b p,g.ow b = some p → under s p = false → g'.ow b = some p) (hO':∀ b p,g'.ow b = some p → g.ow b = some p)
  (hPn:∀ b,g'.P b → g.P b ∨ (g'.ow b = none ∧ ∃ p,g.ow b = some p)) (hd:∀ b,g'.P b → g'.ow b = none)
  (hx:SR g' w ((σ.drop (under s)).set s sv) s (a.tmps.getD s undef) sv):Sat X g' ((σ.drop (under s)).set s sv) a w:=by
 have U:Up g g' σ ((σ.drop (under s)).set s sv) w w (under s) :=
  ⟨fun b hb=>⟨hP b hb,rfl⟩,fun b p hb hp=>⟨hO b p hb hp,rfl⟩,fun p hp z e n f hl=>by rw [look_set _ _ _ _ hp,look_drop]; exact hl,fun o _ ho=>⟨by rw [hm],ho⟩⟩
 refine ⟨h.defers,h.size,fun q=>?_,fun o t cs ho=>?_,fun b b' p hb hb'=>h.inj b b' p (hO' _ _ hb) (hO' _ _ hb'),fun b hb=>⟨hd b hb,?_⟩,fun b p hb=>h.lt b p (hO' _ _ hb),fun b p hb=>h.ids b p (hO' _ _ hb),fun b hb=>?_,fun b hb=>hP b (h.P1 b hb),h.kept,h.os,h.tape,h.output,h.mono,fun o ho=>by rw [hm]; exact h.m0 o ho,h.h0⟩
 ·rw [get_set,get_drop]
  by_cases hq:q = s
  ·subst hq; simp only [if_true]; exact hx
  ·rw [if_neg hq]; exact U.slot (fun j st=>under_slot hq j st) (h.env q)
 ·obtain ⟨c,h1,h2,h3,h4⟩:=h.heap o t cs ho
  rw [hm]
  refine ⟨c,h1,hO _ _ h2 rfl,h3,fun i y hy=>?_⟩
  obtain ⟨u,hu,hr⟩:=h4 i y hy
  exact ⟨u,hu,U.tv (fun _=>rfl) hr⟩
 ·rcases hPn b hb with h1 | ⟨_,p,hp⟩
  ·exact (h.frozen b h1).2
  ·exact (h.lt b p hp).1
 ·rcases hPn b hb with h1 | ⟨_,p,hp⟩
  ·exact h.P0 b h1
  ·exact .inr (h.lt b p hp).2

/-- A slice of one's own that is handed back beside plain values, frozen. -/
theorem Sat.freezeT (h:Sat X g σ a w) {s j:Nat} {vs:List SV} {z:Nat} {e:TypeId} {n:Nat} {f:Nat → List TV} (hx:σ.get s = .tup vs) (hj:vs[j]? = some (.tv (.own z e n f))) (hp:PlainTo n f)
  (hoth:∀ (q:Nat) sv,vs[q]? = some sv → q ≠ j → ∃ x,sv = .tv x ∧ x.plain = true):∃ g',Sat X g' ((σ.drop (under s)).set s (.tup (vs.set j (.tv (.fz z n f))))) a w:=by
 have hs:=h.env s
 rw [hx] at hs
 obtain ⟨us,hv,hsz,hc⟩:=hs
 obtain ⟨u,hu,hr⟩:=hc j _ hj
 have hjl:j < vs.length:=(List.getElem?_eq_some_iff.1 hj).1
 have fin:∀ g':Gh,(∀ b,g.P b → g'.P b) → FRel g'.P w u (.fz z n f) → SR g' w ((σ.drop (under s)).set s (.tup (vs.set j (.tv (.fz z n f))))) s (a.tmps.getD s undef) (.tup (vs.set j (.tv (.fz z n f)))):=fun g' hP hf=>by
  refine ⟨us,hv,by rw [List.length_set]; exact hsz,fun q sv hq=>?_⟩
  rw [List.getElem?_set] at hq
  by_cases hqj:j = q
  ·subst hqj
   rw [if_pos rfl,if_pos hjl] at hq
   cases hq
   exact ⟨u,hu,.fr hf⟩
  ·rw [if_neg hqj] at hq
   obtain ⟨u',hu',hr'⟩:=hc q sv hq
   obtain ⟨x,rfl,hpl⟩:=hoth q sv hq (Ne.symm hqj)
   exact ⟨u',hu',.fr ((TRel.plain (g:=g) (p:=(.slot s q,[])) hr' hpl).mono fun b hb=>⟨hP b hb,rfl⟩)⟩
 rcases own_inv (show TRel g w (.slot s j,[]) u (.own z e n f) from hr) with ⟨hv0,hn⟩ | ⟨b,cap,c,cs,h1,hv0,h3,h4,h5,h6,h7,h8,h9⟩
 ·subst hn
  refine ⟨g.clr (under s),h.reslot rfl (fun b hb=>hb) (fun b p hb hp=>clr_some.2 ⟨hb,hp⟩) (fun b p hb=>(clr_some.1 hb).1) (fun b hb=>.inl hb) (fun b hb=>clr_none (h.frozen b hb).1) (fin _ (fun b hb=>hb) ?_)⟩
  rw [hv0]; exact .nil _ _ _ _
 ·refine ⟨(g.clr (under s)).frz b,h.reslot rfl (fun b hb=>.inl hb) (fun b' p hb hp=>?_) (fun b' p hb=>?_) (fun b' hb=>?_) (fun b' hb=>?_) (fin _ (fun b' hb=>.inl hb) ?_)⟩
  ·have:b' ≠ b:=by rintro rfl; rw [h1] at hb; cases hb; simp [under] at hp
   rw [frz_ne this]; exact clr_some.2 ⟨hb,hp⟩
  ·by_cases e1:b' = b
   ·subst e1; simp [Gh.frz] at hb
   ·rw [frz_ne e1] at hb; exact (clr_some.1 hb).1
  ·rcases hb with hb | rfl
   ·exact .inl hb
   ·exact .inr ⟨by simp [Gh.frz],_,h1⟩
  ·by_cases e1:b' = b
   ·subst e1; simp [Gh.frz]
   ·rw [frz_ne e1]
    rcases hb with hb | rfl
    ·exact clr_none (h.frozen b' hb).1
    ·exact absurd rfl e1
  ·rw [hv0]
   refine .row b 0 cap z n f cs (.inr rfl) h5 h6 h7 (fun i q y hi hy=>?_) fun i q y hi hy=>?_
   ·rw [Nat.zero_add]
    exact (h3.cell (i * z + q)).trans (h8 i q y hi hy)
   ·have hpl:y.plain = true:=by
     have:=hp i hi
     rw [List.all_eq_true] at this
     exact this y (List.mem_of_getElem? hy)
    exact ((h9 i q y hi hy).plain hpl).mono fun b' hb'=>⟨.inl hb',rfl⟩
end

section
variable {F:Cfg} {Q:Exit → AState → Prop} {σ:AState} {ops:Array Oper}

theorem AOps.freezeT {l:List Nat} (s j:Nat) {vs:List SV} {z:Nat} {e:TypeId} {n:Nat} {f:Nat → List TV} (hx:σ.get s = .tup vs) (hj:vs[j]? = some (.tv (.own z e n f))) (hp:PlainTo n f)
  (hoth:∀ (q:Nat) sv,vs[q]? = some sv → q ≠ j → ∃ x,sv = .tv x ∧ x.plain = true) (h:AOps F ops Q l ((σ.drop (under s)).set s (.tup (vs.set j (.tv (.fz z n f)))))):AOps F ops Q l σ:=fun w0 g0 _ a w hs=>by
 obtain ⟨g',h'⟩:=hs.freezeT hx hj hp hoth
 exact h w0 g0 g' a w h'

theorem AAny.freezeT {K:AState → Prop} {fuel:Nat} {ls:Array Bool} (s j:Nat) {vs:List SV} {z:Nat} {e:TypeId} {n:Nat} {f:Nat → List TV} (hx:σ.get s = .tup vs) (hj:vs[j]? = some (.tv (.own z e n f))) (hp:PlainTo n f)
  (hoth:∀ (q:Nat) sv,vs[q]? = some sv → q ≠ j → ∃ x,sv = .tv x ∧ x.plain = true) (h:AAny F ops K fuel ls ((σ.drop (under s)).set s (.tup (vs.set j (.tv (.fz z n f)))))):AAny F ops K fuel ls σ:=fun w0 g0 _ a w hb hs=>by
 obtain ⟨g',h'⟩:=hs.freezeT hx hj hp hoth
 exact h w0 g0 g' a w hb h'
end
end Go.Sx

namespace Go.Sx
open Go
theorem two_oth {a:SV} {x:TV} (hx:x.plain = true:=by rfl) {q:Nat} {sv:SV} (hq:([a,.tv x]:List SV)[q]? = some sv) (hne:q ≠ 0):∃ x,sv = .tv x ∧ x.plain = true:=by
 rcases q with _ | _ | q
 ·exact absurd rfl hne
 ·simp only [List.getElem?_cons_succ,List.getElem?_cons_zero,Option.some.injEq] at hq
  exact ⟨_,hq.symm,hx⟩
 ·simp at hq
end Go.Sx
