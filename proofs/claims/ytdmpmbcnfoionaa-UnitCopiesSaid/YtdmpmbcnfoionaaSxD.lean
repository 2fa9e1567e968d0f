
/- Zero elements appended to a slice of the call's own; no condition. -/
import Derived.Test.YtdmpmbcnfoionaaSxC
import Derived.Laws.CopyRow
import Derived.Laws.IdiomCopy
import Derived.Laws.BytesArg
import Derived.Laws.Externs
import Derived.ChangeArms
import Derived.Below
namespace Go.Sx
open Go

/-- A slice of one's own, or nil, grown by so many zero elements. -/
theorem run_appendZ {P:Program} {w:World} {t t2 ty e:TypeId} {i:TypeInfo} {zv:Value} {k:IntKind} {m:Nat} (ht:P.underlying t = some (.slice e)) (ht2:P.underlying t2 = some (.int k)) (hi:P.info? e = some i) (hz:i.zero = some zv) (hzs:zv.cells.size = i.size)
  (hz0:0 < i.size) (hz1:∀ v ∈ (Builtin.zeroCells zv.cells m).toList,v.oneCell' = true) {k':IntKind}
  {s:Value} {n:Nat} {olds:List Value} (hb0:0 < i.bytes) (hbytes:(n + m) * i.bytes ≤ 140737488355328)
  (hs:∃ b cap c,s = .slice (some ⟨b,0,none⟩) n cap ∧ Row w b e c ∧ c.size = cap * i.size ∧ n ≤ cap ∧ cap ≤ maxLen ∧ olds.length = n * i.size ∧ ∀ (j:Nat) v,olds[j]? = some v → c[j]? = some v) :
  ∃ v w',(Builtin.append_ #[t,t2] ty #[s,.int k' (m:Int)]).run P w = .ok v w' ∧
   ∃ nb cap c,v = .slice (some ⟨nb,0,none⟩) (n + m) cap ∧ Row w' nb e c ∧ c.size = cap * i.size ∧ n + m ≤ cap ∧ cap ≤ maxLen ∧ Goes w w' nb ∧
    (∀ (j:Nat) v,(olds ++ (Builtin.zeroCells zv.cells m).toList)[j]? = some v → c[j]? = some v) ∧ ((∃ n cap,s = .slice (some ⟨nb,0,none⟩) n cap) ∨ nb = w.heap.size):=by
 have hnm:n + m ≤ 140737488355328:=by
  have:(n + m) * 1 ≤ (n + m) * i.bytes:=Nat.mul_le_mul_left _ hb0
  omega
 have hm:n + m ≤ maxLen:=by unfold maxLen; omega
 have hw:=wrap64 (m:=m) (by omega)
 have hneg:¬ ((m:Int) < 0):=by omega
 have hmb:m * i.bytes ≤ 140737488355328:=Nat.le_trans (Nat.mul_le_mul_right _ (Nat.le_add_left m n)) hbytes
 have hbig:¬ ((281474976710656:Int) < (m:Int) * (i.bytes:Int)):=by
  have h1:=Int.ofNat_le.2 hmb
  rw [← Int.natCast_mul]
  generalize m * i.bytes = q at h1
  omega
 have hge:∀ old,n + m ≤ grownCap w (n + m) old e:=fun old=>grownCap_ge w (n + m) old e
 have hle:∀ old,grownCap w (n + m) old e ≤ maxLen:=fun old=>grownCap_le_maxLen w (n + m) old e hm
 obtain ⟨news,hnews⟩:∃ news,(Builtin.zeroCells zv.cells m).toList = news:=⟨_,rfl⟩
 rw [hnews] at hz1 ⊢
 have hnz:news.length = m * i.size:=by rw [← hnews,Array.length_toList,size_zeroCells,hzs]
 have hza:Builtin.zeroCells zv.cells m = news.toArray:=by rw [← hnews]
 obtain ⟨b,cap,c,rfl,hrow,hcs,hnc,hcm,hol,hold⟩:=hs
 by_cases hroom:n + m ≤ cap
 ·obtain ⟨fr,hb1,hb2⟩:=hrow
  have hfit:n * i.size + news.length ≤ c.size:=by rw [hnz,hcs,← Nat.add_mul]; exact Nat.mul_le_mul_right _ hroom
  obtain ⟨w',hrun,hw',hg⟩:=run_store_row (P:=P) news (n * i.size) 0 c w hb1 hb2.no (by omega) hz1
  rw [Nat.add_zero] at hw'
  refine ⟨.slice (some ⟨b,0,none⟩) (n + m) cap,w',?_,b,cap,_,rfl,⟨fr,hw',by rw [writeA_size]; exact hb2⟩,by rw [writeA_size]; exact hcs,hroom,hcm,hg,fun j u hu=>?_,.inl ⟨n,cap,rfl⟩⟩
  ·by_cases hm0:m = 0
   ·subst hm0
    have hn0:news = []:=List.eq_nil_of_length_eq_zero (by rw [hnz]; simp)
    subst hn0
    have hw0:IntKind.i64.wrap 0 = 0:=hw
    simp [Builtin.append_,run_underlying ht,run_underlying ht2,sizeOf,typeInfo,hi,asInt,asIntOf,hw0,hnc,add_mk]
    rw [Nat.add_zero] at *
    simp [show (storeCells (⟨b,n * i.size,none⟩:Addr) []).run P w = .ok () w' from by simpa [add_mk] using hrun]
   ·have hms:¬ (m = 0 ∨ i.size = 0):=by omega
    simp [Builtin.append_,run_underlying ht,run_underlying ht2,sizeOf,typeInfo,zeroValue,hi,hz,asInt,asIntOf,hw,hneg,hbig,hroom,hms,hza,add_mk,hrun]
    intro h0
    have:=Nat.mul_pos (show 0 < m by omega) hz0
    omega
  ·rcases Nat.lt_or_ge j (n * i.size) with hj | hj
   ·rw [List.getElem?_append_left (by omega)] at hu
    rw [writeA_lt _ _ _ _ hj]
    exact hold j u hu
   ·obtain ⟨q,rfl⟩:∃ q,j = n * i.size + q:=⟨j - n * i.size,by omega⟩
    rw [List.getElem?_append_right (by omega),hol,Nat.add_sub_cancel_left] at hu
    have hq:q < news.length:=(List.getElem?_eq_some_iff.1 hu).1
    rw [writeA_in _ _ _ _ hq (by omega)]
    exact hu
 ·have hm0:¬ m = 0:=by omega
  have h63:¬ (9223372036854775807 < ((n:Int) + (m:Int))):=by omega
  have h48:¬ (281474976710656 < Builtin.nextslicecap (n + m) cap * i.bytes):=by
   have:=growslice_fits (need:=n + m) (old:=cap) (by omega) hbytes
   omega
  have hms:¬ (m = 0 ∨ i.size = 0):=by omega
  have hfo:=run_firstCells_some (P:=P) w.drew i.size n ⟨b,0,none⟩ n cap olds hol (fun j v hj=>by
   rw [add_mk,Nat.zero_add]
   exact (hrow.cell j).trans (hold j v hj))
  refine ⟨.slice (some ⟨w.heap.size,0,none⟩) (n + m) (grownCap w (n + m) cap e),w.drew.alloc (.cells (olds.toArray ++ news.toArray ++ Builtin.zeroCells zv.cells (grownCap w (n + m) cap e - (n + m))) e),?_,
   w.heap.size,_,_,rfl,Row.of (Go.heap_alloc_new w.drew _),?_,hge cap,hle cap,goes_alloc w _,fun j u hu=>?_,.inr rfl⟩
  ·simp [Builtin.append_,run_underlying ht,run_underlying ht2,sizeOf,typeInfo,zeroValue,hi,hz,asInt,asIntOf,hw,hneg,hbig,hroom,h63,h48,Question.forced,hms,hza,hfo,newRow,grownCap]
   rw [if_neg (by have:=Nat.mul_pos (show 0 < m by omega) hz0; omega)]
   congr 3
   apply Array.ext'
   simp [List.append_assoc]
  ·simp only [Array.size_append,List.size_toArray,size_zeroCells,hzs,hol,hnz,← Nat.add_mul]
   congr 1
   have:=hge cap
   omega
  ·have hj:j < (olds ++ news).length:=(List.getElem?_eq_some_iff.1 hu).1
   rw [Array.getElem?_append_left (by simpa using hj)]
   simpa using hu

section
variable {X:Ctx} {g:Gh} {σ:AState} {a:Act} {w:World} {T:Tab}

/-- Zero elements appended to a slice of one's own (or to nil, told as one's own). -/
theorem appendZ_sound (hT:TabOk X.P T) (hs:Sat X g σ a w) {x y:Operand} {t t2 e:TypeId} {d:Nat} (hd:d < X.n) {k:IntKind} {r:Root} {n z e':Nat} {f:Nat → List TV} {ei:TI} {q:Int}
  (hu:(T.get t).map TI.und = some (.slice e)) (hu2:(T.get t2).map TI.und = some (.int k)) (hx:σ.appOf x = some (some r,n,f,z,e')) (hei:T.get e = some ei) (hok:okRoot z e' ei.size e (some r) = true) (hz0:0 < ei.size) (hb0:0 < ei.bytes)
  (hy:iv (σ.ev y) = some q) (hq:0 ≤ q) (hbytes:(n + q.toNat) * ei.bytes ≤ 140737488355328) (hp1:PlainTo n f)
  {o:Oper} (ho:o.op = .call { callee:=.builtin .append,args:=#[x,y],argTypes:=#[t,t2] }) (hdst:o.dst = some d) :
  Comes2 X ((killO σ (some r)).put d (.tv (.own ei.size e (n + q.toNat) (appF n f (zerosF (ei.zero.map cTV)))))) a w o:=by
 obtain ⟨hu0,i,zv,hi,hsz,hby,hz,hzc,hzl,hz1,hag,_⟩:=hT e ei hei
 have hzs:zv.cells.size = ei.size:=by rw [← Array.length_toList,hzc,hzl]
 obtain ⟨k2,ey⟩:=iv_rel hs hy
 obtain ⟨m,rfl⟩:∃ m:Nat,q = (m:Int):=⟨q.toNat,by omega⟩
 rw [Int.toNat_natCast] at hbytes ⊢
 have hat:∀ i' j y,i' < m → (zerosF (ei.zero.map cTV) i')[j]? = some y → ∃ u,(Builtin.zeroCells zv.cells m).toList[i' * ei.size + j]? = some u ∧ FRel g.P w u y:=fun i' j y hi' hy=>by
  simp only [zerosF,List.getElem?_map] at hy
  obtain ⟨u,hu',rfl⟩:=Option.map_eq_some_iff.1 hy
  have hj:j < ei.zero.length:=(List.getElem?_eq_some_iff.1 hu').1
  have hj':j < ei.size:=by omega
  have hlt:i' * ei.size + j < m * zv.cells.size:=by
   have:(i' + 1) * ei.size ≤ m * ei.size:=Nat.mul_le_mul_right _ hi'
   rw [Nat.add_mul,Nat.one_mul] at this
   rw [hzs]; omega
  refine ⟨u,?_,cTV_rel ?_⟩
  ·have hm:(i' * ei.size + j) % ei.size = j:=by
    rw [Nat.add_comm,Nat.add_mul_mod_self_right]; exact Nat.mod_eq_of_lt hj'
   have hcell:zv.cells[j]! = u:=by
    rw [getElem!_pos zv.cells j (by omega)]
    have e1:zv.cells.toList[j]? = some u:=by rw [hzc]; exact hu'
    rw [Array.getElem?_toList] at e1
    exact (Array.getElem?_eq_some_iff.1 e1).2
   rw [Array.getElem?_toList]
   unfold Builtin.zeroCells
   rw [Array.getElem?_map,Array.getElem?_range,if_pos hlt]
   simp only [Option.map_some,hzs,hm,hcell]
  ·rw [List.all_eq_true] at hz1
   exact hz1 u (List.mem_of_getElem? hu')
 have hone:∀ v ∈ (Builtin.zeroCells zv.cells m).toList,v.oneCell' = true:=fun v hv=>by
  rw [Array.mem_toList_iff] at hv
  unfold Builtin.zeroCells at hv
  rw [Array.mem_map] at hv
  obtain ⟨q,_,rfl⟩:=hv
  have hlt:q % zv.cells.size < zv.cells.size:=Nat.mod_lt _ (by rw [hzs]; exact hz0)
  rw [getElem!_pos zv.cells _ hlt]
  rw [List.all_eq_true] at hz1
  exact hz1 _ (by rw [← hzc]; exact Array.getElem_mem_toList hlt)
 have hplain1:∀ (q t:Nat) (y:TV),q < n → (f q)[t]? = some y → y.plain = true:=fun q t y hq hyq=>by
  have:=hp1 q hq
  rw [List.all_eq_true] at this
  exact this y (List.mem_of_getElem? hyq)
 have hlenz:∀ i',(zerosF (ei.zero.map cTV) i').length = ei.size:=fun i'=>by simp [zerosF,hzl]
 rcases appOf_rel hs hx with ⟨e0,_⟩ | ⟨r0,e0,hr0,hv⟩
 ·cases e0
 ·cases e0
  simp only [okRoot,Bool.and_eq_true,Nat.beq_eq] at hok
  obtain ⟨rfl,he'⟩:=hok
  have he2:=he'.symm
  subst he2
  have hkill:=hs.kill hr0
  rcases hv with ⟨hv,rfl⟩ | ⟨b,cap,c,cs',hb,hv,hrow,hcs,hn,hm,hl,hc⟩
  ·-- nothing yet
   obtain ⟨v,w',hrun,hv'⟩:=run_grow (P:=X.P) (w:=w) (ty:=o.type) (hT.und hu) (hT.und hu2) hi hz (by rw [hzs,hsz]) (by rw [hsz]; exact hz0) (by rw [hby]; exact hb0) (by rw [hby]; rw [Nat.zero_add] at hbytes; exact hbytes) (k':=k2)
   have hexec:(execOp a.eval o).run X.P w = .ok (.value v) w':=by
    simp only [execOp,ho,resolve,invoke,builtin,Sem.run_bind,Sem.run_pure,Result.andThen_ok,List.map_toArray,List.map_cons,List.map_nil,hv,ey,hrun]
   rw [Nat.zero_add]
   rcases hv' with ⟨rfl,rfl,rfl⟩ | ⟨cap,c,rfl,rfl,hcs,hn,hm,hc⟩
   ·exact ⟨_,_,_,hexec,.inl ⟨_,rfl,by rw [hdst]; exact hkill.putNil hd ei.size e _⟩⟩
   ·obtain ⟨k1,k2,k3⟩:=hkill.fresh
    have hat2:∀ i' j y,i' < m → (appF 0 f (zerosF (ei.zero.map cTV)) i')[j]? = some y → ∃ u,c[i' * ei.size + j]? = some u ∧ FRel g.P w u y:=fun i' j y hi' hy=>by
     rw [appF_ge (Nat.zero_le _),Nat.sub_zero] at hy
     obtain ⟨u,hu1,hr⟩:=hat i' j y hi' hy
     refine ⟨u,?_,hr⟩
     rw [Array.getElem?_toList] at hu1
     have hlt:i' * ei.size + j < m * zv.cells.size:=by
      have:=(Array.getElem?_eq_some_iff.1 hu1).1
      rwa [size_zeroCells] at this
     rw [hc _ hlt,← hu1]
     unfold Builtin.zeroCells
     rw [Array.getElem?_map,Array.getElem?_range,if_pos hlt]
     rfl
    have h':=hkill.putOwn hd (nb:=w.heap.size) (w':=w.drew.alloc (.cells c e)) (goes_alloc w _) k1 k2 k3 (by simp) (z:=ei.size) (n:=m) (cap:=cap) (e:=e) (f:=appF 0 f (zerosF (ei.zero.map cTV))) (c:=c) (cs:=fun i' j=>(c[i' * ei.size + j]?).getD undef) (Row.of (heap_alloc_new w.drew _)) (by rw [← hsz]; exact hcs) hn hm (fun i hi=>by rw [appF_ge (Nat.zero_le _)]; exact hlenz _)
     (fun i' j y hi' hy=>by
      obtain ⟨u,hu,_⟩:=hat2 i' j y hi' hy
      rw [hu]; rfl)
     (fun i' j y hi' hy=>by
      obtain ⟨u,hu,hr⟩:=hat2 i' j y hi' hy
      rw [hu]; exact hr)
    exact ⟨_,_,_,hexec,.inl ⟨_,rfl,by rw [hdst]; exact h'⟩⟩
  ·obtain ⟨olds,ho1,ho2,ho3⟩:=flat_cells (P:=g.P) (w:=w) (b:=b) (off:=0) (cs:=cs') hl fun i' j y hi' hy=>⟨by rw [Nat.zero_add]; exact (hrow.cell _).trans (hc i' j y hi' hy).1,(hc i' j y hi' hy).2 (hplain1 i' j y hi' hy)⟩
   obtain ⟨v,w',hrun,nb,cap2,c2,rfl,hrow2,hcs2,hn2,hm2,hg,hcells,hnb⟩:=run_appendZ (P:=X.P) (w:=w) (ty:=o.type) (hT.und hu) (hT.und hu2) hi hz (by rw [hzs,hsz]) (by rw [hsz]; exact hz0) hone (k':=k2) (by rw [hby]; exact hb0) (by rw [hby]; exact hbytes) (s:=a.eval x) (n:=n) (olds:=olds)
    ⟨b,cap,c,hv,hrow,by rw [hsz]; exact hcs,hn,hm,by rw [hsz]; exact ho1,fun j v hj=>by
     have:=(ho2 j v hj).1
     rw [Nat.zero_add] at this
     exact (hrow.cell j).symm.trans this⟩
   have hexec:(execOp a.eval o).run X.P w = .ok (.value (.slice (some ⟨nb,0,none⟩) (n + m) cap2)) w':=by
    simp only [execOp,ho,resolve,invoke,builtin,Sem.run_bind,Sem.run_pure,Result.andThen_ok,List.map_toArray,List.map_cons,List.map_nil,ey,hrun]
   have hnew:(g.clr (rootR r)).ow nb = none ∧ ¬ (g.clr (rootR r)).P nb ∧ (X.w0.heap.size ≤ nb ∨ X.g0.ow nb ≠ none):=by
    rcases hnb with ⟨n',cap',e1⟩ | rfl
    ·rw [hv] at e1
     cases e1
     refine ⟨?_,fun hp=>?_,(hs.lt b _ hb).2⟩
     ·cases hg:(g.clr (rootR r)).ow b with
      | none=>rfl
      | some p =>
       obtain ⟨e1,e2⟩:=clr_some.1 hg
       rw [hb] at e1
       cases e1
       cases r with
       | slot k j=>simp [rootR,under] at e2
       | cell o off=>simp [rootR] at e2
       | obj o=>exact absurd rfl (hr0 o)
     ·have:=(hs.frozen b hp).1
      rw [hb] at this
      cases this
    ·exact hkill.fresh
   have hall:∀ (i' j:Nat) y,i' < n + m → (appF n f (zerosF (ei.zero.map cTV)) i')[j]? = some y → ∃ u,(olds ++ (Builtin.zeroCells zv.cells m).toList)[i' * ei.size + j]? = some u ∧ FRel g.P w u y:=fun i' j y hi' hy=>by
    rcases Nat.lt_or_ge i' n with h | h
    ·rw [appF_lt h] at hy
     obtain ⟨u,hu,hr⟩:=ho3 i' j y h hy
     exact ⟨u,by rw [List.getElem?_append_left (List.getElem?_eq_some_iff.1 hu).1]; exact hu,hr⟩
    ·rw [appF_ge h] at hy
     obtain ⟨u,hu,hr⟩:=hat (i' - n) j y (by omega) hy
     refine ⟨u,?_,hr⟩
     have e1:i' * ei.size + j = n * ei.size + ((i' - n) * ei.size + j):=by
      have:i' * ei.size = n * ei.size + (i' - n) * ei.size:=by rw [← Nat.add_mul]; congr 1; omega
      omega
     rw [e1,List.getElem?_append_right (by omega),ho1,Nat.add_sub_cancel_left]
     exact hu
   have h':=hkill.putOwn hd hg hnew.1 hnew.2.1 hnew.2.2 hrow2.lt (z:=ei.size) (n:=n + m) (cap:=cap2) (e:=e) (f:=appF n f (zerosF (ei.zero.map cTV))) (c:=c2) (cs:=fun i' j=>(c2[i' * ei.size + j]?).getD undef) hrow2 (by rw [← hsz]; exact hcs2) hn2 hm2
    (fun i' hi'=>by
     rcases Nat.lt_or_ge i' n with h | h
     ·rw [appF_lt h]; exact hl i' h
     ·rw [appF_ge h]; exact hlenz _)
    (fun i' j y hi' hy=>by
     obtain ⟨u,hu,_⟩:=hall i' j y hi' hy
     rw [hcells _ u hu]; rfl)
    (fun i' j y hi' hy=>by
     obtain ⟨u,hu,hr⟩:=hall i' j y hi' hy
     rw [hcells _ u hu]; exact hr)
   exact ⟨_,w',_,hexec,.inl ⟨_,rfl,by rw [hdst]; exact h'⟩⟩
end


def evalZero (T:Tab) (σ:AState) (o:Oper):Option (List Prop × AState):=match o.op,o.dst with
 | .call { callee:=.builtin .append,args:=as,argTypes:=ts },some d=>match as.toList,ts.toList with
  | [x,y],[t,t2]=>(match (T.get t).map TI.und,(T.get t2).map TI.und,σ.appOf x,iv (σ.ev y) with
   | some (.slice e),some (.int _),some (some r,n,f,z,e'),some q=>(match T.get e with
    | some ei=>(match okRoot z e' ei.size e (some r) && (Nat.blt 0 ei.size && Nat.blt 0 ei.bytes) with
     | true=>some ([0 ≤ q,(n + q.toNat) * ei.bytes ≤ 140737488355328,PlainTo n f],(killO σ (some r)).put d (.tv (.own ei.size e (n + q.toNat) (appF n f (zerosF (ei.zero.map cTV))))))
     | false=>none)
    | none=>none)
   | _,_,_,_=>none)
  | _,_=>none
 | _,_=>none

theorem evalZero_sound {X:Ctx} {g:Gh} {σ:AState} {a:Act} {w:World} {T:Tab} (hT:TabOk X.P T) (hs:Sat X g σ a w) {o:Oper} {cs:List Prop} {σ':AState} (h:evalZero T σ o = some (cs,σ')) (hc:∀ c ∈ cs,c) (hd:∀ d,o.dst = some d → d < X.n):Comes2 X σ' a w o:=by
 unfold evalZero at h
 split at h
 ·rename_i as ts d ho hdst
  split at h
  ·rename_i x y t t2 hx hy
   split at h
   ·rename_i e k r n f z e' q hu hu2 ex ey
    split at h
    ·rename_i ei hei
     split at h
     ·rename_i hb
      cases h
      rw [Bool.and_eq_true,Bool.and_eq_true] at hb
      have hx':as = #[x,y]:=by rw [← hx]
      have hy':ts = #[t,t2]:=by rw [← hy]
      subst hx' hy'
      exact appendZ_sound hT hs (hd d hdst) hu hu2 ex hei hb.1 (Nat.le_of_ble_eq_true hb.2.1) (Nat.le_of_ble_eq_true hb.2.2) ey (hc _ (by simp)) (hc _ (by simp)) (hc _ (by simp)) ho hdst
     ·cases h
    ·cases h
   ·cases h
  ·cases h
 ·cases h

theorem AOne.zero {F:Cfg} {σ:AState} {ops:Array Oper} {i:Nat} (cs:List Prop) {σ':AState} (o:Oper) (ho:ops[i]? = some o) (hg:guardV ops σ o = some true) (hd:dstOk F.n o = true) (he:evalZero F.T σ o = some (cs,σ')) (hc:AllP cs):AOne F ops i σ σ' :=
 AOne.comes o ho hg fun w0 g0 g a w hs=>evalZero_sound (X:=F.ctx w0 g0) F.ok hs he hc.mem fun d h=>dstOk_lt hd d h

theorem appz_at {A:Type} [Inhabited A] (enc:A → List TV) (l:List A) (k:Nat) (zs:List TV) (zv:A) (hz:enc zv = zs):∀ i,i < l.length + k → appF l.length (fun i=>enc (l.getD i default)) (zerosF zs) i = enc ((l ++ List.replicate k zv).getD i default):=by
 intro i hi
 simp only [List.getD_eq_getElem?_getD]
 rcases Nat.lt_or_ge i l.length with h | h
 ·rw [appF_lt h,List.getElem?_append_left h]
 ·rw [appF_ge h,List.getElem?_append_right h,List.getElem?_replicate,if_pos (by omega)]
  simp only [zerosF,Option.getD_some,hz]

end Go.Sx

namespace Go.Sx
open Go

section
variable {X:Ctx} {g:Gh} {σ:AState} {a:Act} {w:World} {T:Tab}

/-- Elements written anew from a place on. -/
def copyF (f:Nat → List TV) (lo m:Nat) (y:Nat → List TV):Nat → List TV:=fun q=>if lo ≤ q ∧ q < lo + m then y (q - lo) else f q

def AState.storeR (σ:AState) (r:Root) (e:TypeId) (n:Nat) (F:Nat → List TV):AState :=
 (σ.drop (deepR r)).setRoot r (.own 1 e n F)

/-- Elements of one cell are written into a slice of the call's own. -/
theorem Sat.storeR (h:Sat X g σ a w) {r:Root} {e:TypeId} {n:Nat} {f:Nat → List TV} (hown:σ.ownAt r = some (.own 1 e n f)) (hpl:PlainTo n f)
  {lo m:Nat} (hn0:0 < n) (hfit:lo + m ≤ n) {vs:List Value} {yf:Nat → List TV} (hl:vs.length = m) (hy1:∀ q,q < m → (yf q).length = 1)
  (hy:∀ (q:Nat) y,q < m → (yf q)[0]? = some y → ∃ u,vs[q]? = some u ∧ FRel g.P w u y) {b:Nat} (hb:g.ow b = some (r,[])) :
  ∃ w' g',(storeCells ⟨b,lo,none⟩ vs).run X.P w = .ok () w' ∧ Sat X g' (σ.storeR r e n (copyF f lo m yf)) a w':=by
 obtain ⟨hr,hroot,hs⟩:=ownAt_root hown
 obtain ⟨v0,hv0⟩:=h.root hroot
 rcases own_inv hv0 with ⟨_,h0⟩ | ⟨b',cap,c,cs,h1,hv,h3,h4,h5,h6,h7,h8,h9⟩
 ·omega
 obtain rfl:=h.inj b b' _ hb h1
 have hyat:∀ q,q < m → ∃ y u,(yf q)[0]? = some y ∧ vs[q]? = some u ∧ FRel g.P w u y:=fun q hq=>by
  have h1:=hy1 q hq
  have h2:(yf q)[0]? = some ((yf q)[0]'(by omega)):=List.getElem?_eq_getElem (by omega)
  obtain ⟨u,hu,hr⟩:=hy q _ hq h2
  exact ⟨_,u,h2,hu,hr⟩
 have hone:∀ v ∈ vs,v.oneCell' = true:=fun v hv=>by
  obtain ⟨q,hq⟩:=List.getElem?_of_mem hv
  have hq':q < m:=by rw [← hl]; exact (List.getElem?_eq_some_iff.1 hq).1
  obtain ⟨y,u,_,hu,hru⟩:=hyat q hq'
  rw [hq] at hu; cases hu
  exact hru.one
 obtain ⟨fr,hb1,hb2⟩:=h3
 obtain ⟨w',hrun,hw',hg⟩:=run_store_row (P:=X.P) vs lo 0 c w hb1 hb2.no (by omega) hone
 rw [Nat.add_zero] at hw'
 have hRow':Row w' b e (writeA c lo vs):=⟨fr,hw',by rw [writeA_size]; exact hb2⟩
 have hnP:¬ g.P b:=fun hp=>by rw [(h.frozen _ hp).1] at hb; cases hb
 have hPs:∀ k,g.P k → g.P k ∧ w'.heap[k]? = w.heap[k]?:=fun k hk=>⟨hk,hg.heap k (h.frozen k hk).2 (fun e=>hnP (e ▸ hk))⟩
 have hKs:∀ k p,g.ow k = some p → p ≠ (r,[]) → w'.heap[k]? = w.heap[k]?:=fun k p hk hp =>
  hg.heap k (h.lt k p hk).1 (fun e=>by subst e; rw [hb] at hk; cases hk; exact hp rfl)
 have hroot':(σ.drop (deepR r)).rootTV r = some (.own 1 e n f):=by rw [rootTV_drop]; exact hroot
 have hs':∀ k,r = .slot k 0 → (σ.drop (deepR r)).get k = .tv (.own 1 e n f):=fun k hk=>by rw [get_drop]; exact drop_tv (hs k hk)
 have hplain:∀ (q t:Nat) (y:TV),q < n → (f q)[t]? = some y → y.plain = true:=fun q t y hq hyq=>by
  have:=hpl q hq
  rw [List.all_eq_true] at this
  exact this y (List.mem_of_getElem? hyq)
 have hnew:∀ v,TRel g w (r,[]) v (.own 1 e n f) → TRel (g.clr (deepR r)) w' (r,[]) v (.own 1 e n (copyF f lo m yf)):=by
  intro v hv
  rcases own_inv hv with ⟨_,h0⟩ | ⟨b2,cap,c2,cs,h1,rfl,h3',h4,h5,h6,h7,h8,h9⟩
  ·omega
  obtain rfl:=h.inj b b2 _ hb h1
  obtain ⟨fr2,q6,_⟩:=h3'
  rw [hb1] at q6
  injection q6 with q6
  injection q6 with q7 _ _
  subst q7
  refine .own b cap 1 e n _ (writeA c lo vs) (fun q t=>if lo ≤ q ∧ q < lo + m then (vs[q - lo]?).getD undef else cs q t) (clr_some.2 ⟨hb,rfl⟩) hRow' (by rw [writeA_size]; exact h4) h5 h6
   (fun q hq=>?_) (fun q t y hq hyq=>?_) (fun q t y hq hyq=>?_)
  ·by_cases hqi:lo ≤ q ∧ q < lo + m
   ·simp only [copyF,if_pos hqi]; exact hy1 _ (by omega)
   ·simp only [copyF,if_neg hqi]; exact h7 q hq
  ·by_cases hqi:lo ≤ q ∧ q < lo + m
   ·simp only [copyF,if_pos hqi] at hyq
    have ht:t < 1:=by rw [← hy1 (q - lo) (by omega)]; exact (List.getElem?_eq_some_iff.1 hyq).1
    obtain rfl:t = 0:=by omega
    have hk:q - lo < vs.length:=by omega
    rw [if_pos hqi,show q * 1 + 0 = lo + (q - lo) by omega,writeA_in _ _ _ _ hk (by omega)]
    simp [List.getElem?_eq_getElem hk]
   ·simp only [copyF,if_neg hqi] at hyq
    have ht:t < 1:=by rw [← h7 q hq]; exact (List.getElem?_eq_some_iff.1 hyq).1
    rw [if_neg hqi]
    have:(writeA c lo vs)[q * 1 + t]? = c[q * 1 + t]?:=by
     rcases Nat.lt_or_ge q lo with hlt | hge
     ·exact writeA_lt _ _ _ _ (by omega)
     ·exact writeA_ge _ _ _ _ (by omega)
    rw [this]
    exact h8 q t y hq hyq
  ·refine .fr ?_
   by_cases hqi:lo ≤ q ∧ q < lo + m
   ·simp only [copyF,if_pos hqi] at hyq
    have ht:t < 1:=by rw [← hy1 (q - lo) (by omega)]; exact (List.getElem?_eq_some_iff.1 hyq).1
    obtain rfl:t = 0:=by omega
    obtain ⟨u,hu,hru⟩:=hy (q - lo) y (by omega) hyq
    rw [if_pos hqi,hu]
    exact hru.mono hPs
   ·simp only [copyF,if_neg hqi] at hyq
    rw [if_neg hqi]
    exact ((h9 q t y hq hyq).plain (hplain q t y hq hyq)).mono hPs
 have hlook:∀ q st,q ≠ r → (σ.storeR r e n (copyF f lo m yf)).look (q,st) = σ.look (q,st):=fun q st hq=>by
  rw [AState.storeR,look_ne hr hroot' hs' hq,look_drop]
 have hlook0:(σ.storeR r e n (copyF f lo m yf)).look (r,[]) = some (.own 1 e n (copyF f lo m yf)):=rootTV_setRoot hr hroot'
 have hheaplen:(σ.storeR r e n (copyF f lo m yf)).heap.length = σ.heap.length:=by
  cases r with
  | slot k j=>rfl
  | cell o off=>exact setCells_length _ _ _
  | obj o=>cases hr
 have U:Up g (g.clr (deepR r)) σ (σ.storeR r e n (copyF f lo m yf)) w w' (fun p=>decide (p.1 = r)):=by
  refine ⟨hPs,fun k p hk hp=>?_,fun p hp z e n f hl=>?_,fun q _ hlt=>⟨rfl,by rw [hheaplen]; exact hlt⟩⟩
  ·simp only [decide_eq_false_iff_not] at hp
   refine ⟨clr_some.2 ⟨hk,?_⟩,hKs k p hk (fun e=>hp (by rw [e]))⟩
   unfold deepR
   split
   ·rfl
   ·simp [hp]
  ·simp only [decide_eq_false_iff_not] at hp
   obtain ⟨q,st⟩:=p
   rw [hlook q st hp]; exact hl
 have hN:∀ p,deepR r p = false → Names g (g.clr (deepR r)) w w' σ (σ.storeR r e n (copyF f lo m yf)) p:=fun p hp=>by
  refine ⟨fun k hk=>⟨clr_some.2 ⟨hk,hp⟩,fun c' e' hc'=>?_⟩,fun z1 e1 n1 f1 hl=>?_,fun q _ hlt=>⟨rfl,by rw [hheaplen]; exact hlt⟩⟩
  ·by_cases hpr:p = (r,[])
   ·have:k = b:=h.inj k b p hk (by rw [hpr]; exact hb)
    subst this
    obtain ⟨fr',hc1,hc2⟩:=hc'
    rw [hb1] at hc1
    injection hc1 with hc1
    injection hc1 with e1 e2 e3
    subst e1 e2 e3
    exact ⟨_,hRow',writeA_size _ _ _⟩
   ·exact ⟨c',hc'.eq (hKs k p hk hpr),rfl⟩
  ·obtain ⟨q,st⟩:=p
   by_cases hq:q = r
   ·subst hq
    cases st with
    | nil =>
     have:σ.look (q,[]) = some (.own 1 e n f):=hroot
     rw [hl] at this
     cases this
     exact ⟨_,hlook0⟩
    | cons ij st=>simp [deepR] at hp
   ·exact ⟨f1,by rw [hlook q st hq]; exact hl⟩
 refine ⟨w',g.clr (deepR r),hrun,h.defers,h.size,fun k=>?_,fun o t cs' ho=>?_,fun k k' p hk hk'=>h.inj k k' p (clr_some.1 hk).1 (clr_some.1 hk').1,fun k hk=>⟨clr_none (h.frozen k hk).1,Nat.lt_of_lt_of_le (h.frozen k hk).2 hg.size⟩,
  fun k p hk=>?_,fun k p hk=>?_,h.P0,h.P1,fun k hk h0=>?_,hg.os.trans h.os,hg.tape.trans h.tape,hg.output.trans h.output,Nat.le_trans h.mono hg.size,h.m0,by rw [hheaplen]; exact h.h0⟩
 ·by_cases hk:r = .slot k 0
  ·have hg2:(σ.storeR r e n (copyF f lo m yf)).get k = .tv (.own 1 e n (copyF f lo m yf)):=by
    subst hk
    simp only [AState.storeR,AState.setRoot,get_set,if_true]
   rw [hg2]
   have hk0:=h.env k
   rw [hs k hk] at hk0
   subst hk
   exact hnew _ hk0
  ·have hgk:(σ.storeR r e n (copyF f lo m yf)).get k = (σ.get k).drop (deepR r):=by
    cases r with
    | slot k' j' =>
     cases j' with
     | succ j'=>cases hr
     | zero =>
      have hne:k ≠ k':=by rintro rfl; exact hk rfl
      simp only [AState.storeR,AState.setRoot,get_set,if_neg hne,get_drop]
    | cell o off=>exact get_drop σ _ k
    | obj o=>cases hr
   rw [hgk]
   refine ((h.env k).drop _).mono ⟨hPs,fun j' k' st hk'=>?_⟩ fun p hp=>?_
   ·have hne:Root.slot k j' ≠ r:=by
     rintro rfl
     cases j' with
     | zero=>exact hk rfl
     | succ j'=>cases hr
    refine ⟨clr_some.2 ⟨hk',?_⟩,hKs k' _ hk' (fun e=>hne (by injection e))⟩
    unfold deepR
    split
    ·rfl
    ·simp [hne]
   ·obtain ⟨x,hx,he⟩:=(names_drop hp).2
    obtain rfl:x = p:=by simpa using he
    exact hN x hx
 ·-- objects
  have hobj:∀ (i:Nat) u y,(Root.cell o i) ≠ r → TRel g w (.cell o i,[]) u y → TRel (g.clr (deepR r)) w' (.cell o i,[]) u y:=fun i u y hne hru =>
   U.tv (fun st=>by simp only [decide_eq_false_iff_not]; exact hne) hru
  have hkeep:∀ {t':TypeId} {cs0:List TV},σ.heap[o]? = some (.cells t' cs0) → ∃ c,w'.heap[g.m o]? = some (.cells c t' (0,0)) ∧ (g.clr (deepR r)).ow (g.m o) = some (.obj o,[]) ∧ c.size = cs0.length ∧
    ∀ (i:Nat) y,cs0[i]? = some y → ∃ u,c[i]? = some u ∧ TRel g w (.cell o i,[]) u y:=fun {t' cs0} ho0=>by
   obtain ⟨c',k1,k2,k3,k4⟩:=h.heap o t' cs0 ho0
   have hne:((Root.obj o,[]):Path) ≠ (r,[]):=fun e=>by injection e with e1 _; subst e1; cases hr
   exact ⟨c',(hKs _ _ k2 hne).trans k1,clr_some.2 ⟨k2,rfl⟩,k3,k4⟩
  cases r with
  | slot k' j' =>
   obtain ⟨c',k1,k2,k3,k4⟩:=hkeep ho
   refine ⟨c',k1,k2,k3,fun i y hy'=>?_⟩
   obtain ⟨u,hu,hru⟩:=k4 i y hy'
   exact ⟨u,hu,hobj i u y (by simp) hru⟩
  | obj o'=>cases hr
  | cell o' off =>
   by_cases hoo:o = o'
   ·subst hoo
    have ho':(setCells σ.heap o (fun cs=>cs.set off (.own 1 e n (copyF f lo m yf))))[o]? = some (.cells t cs'):=ho
    obtain ⟨cs0,ho0,rfl⟩:=setCells_some _ ho'
    obtain ⟨c',k1,k2,k3,k4⟩:=hkeep ho0
    have hoff:cs0[off]? = some (.own 1 e n f):=by
     simp only [AState.rootTV,ho0] at hroot
     exact hroot
    refine ⟨c',k1,k2,by rw [List.length_set]; exact k3,fun q y hy'=>?_⟩
    rw [List.getElem?_set] at hy'
    by_cases hq:off = q
    ·subst hq
     rw [if_pos rfl,if_pos (List.getElem?_eq_some_iff.1 hoff).1] at hy'
     cases hy'
     obtain ⟨u,hu,hru⟩:=k4 off _ hoff
     exact ⟨u,hu,hnew u hru⟩
    ·rw [if_neg hq] at hy'
     obtain ⟨u,hu,hru⟩:=k4 q y hy'
     exact ⟨u,hu,hobj q u y (by simp; exact fun e=>hq e.symm) hru⟩
   ·have ho':(setCells σ.heap o' (fun cs=>cs.set off (.own 1 e n (copyF f lo m yf))))[o]? = some (.cells t cs'):=ho
    rw [setCells_ne _ _ _ _ hoo] at ho'
    obtain ⟨c',k1,k2,k3,k4⟩:=hkeep ho'
    refine ⟨c',k1,k2,k3,fun q y hy'=>?_⟩
    obtain ⟨u,hu,hru⟩:=k4 q y hy'
    exact ⟨u,hu,hobj q u y (by simp [hoo]) hru⟩
 ·obtain ⟨k1,k2⟩:=h.lt k p (clr_some.1 hk).1
  exact ⟨Nat.lt_of_lt_of_le k1 hg.size,k2⟩
 ·have:=h.ids k p (clr_some.1 hk).1
  rw [hheaplen]; exact this
 ·have hne:k ≠ b:=by
   rintro rfl
   rcases (h.lt _ _ hb).2 with q | q
   ·omega
   ·exact q h0
  exact (hg.heap k (by have:=h.mono; omega) hne).trans (h.kept k hk h0)
/-- The same of one that has no element. -/
theorem Sat.storeR0 (h:Sat X g σ a w) {r:Root} {e:TypeId} {f F':Nat → List TV} (hown:σ.ownAt r = some (.own 1 e 0 f)):Sat X (g.clr (deepR r)) (σ.storeR r e 0 F') a w:=by
 obtain ⟨hr,hroot,hs⟩:=ownAt_root hown
 have hPs:∀ k,g.P k → g.P k ∧ w.heap[k]? = w.heap[k]?:=fun k hk=>⟨hk,rfl⟩
 have hKs:∀ k p,g.ow k = some p → p ≠ (r,[]) → w.heap[k]? = w.heap[k]?:=fun _ _ _ _=>rfl
 have hroot':(σ.drop (deepR r)).rootTV r = some (.own 1 e 0 f):=by rw [rootTV_drop]; exact hroot
 have hs':∀ k,r = .slot k 0 → (σ.drop (deepR r)).get k = .tv (.own 1 e 0 f):=fun k hk=>by rw [get_drop]; exact drop_tv (hs k hk)
 have hnew:∀ v,TRel g w (r,[]) v (.own 1 e 0 f) → TRel (g.clr (deepR r)) w (r,[]) v (.own 1 e 0 F'):=by
  intro v hv
  rcases own_inv hv with ⟨rfl,_⟩ | ⟨b2,cap,c2,cs,h1,rfl,h3',h4,h5,h6,h7,h8,h9⟩
  ·exact .nil _ _ _
  ·exact .own b2 cap 1 e 0 _ c2 cs (clr_some.2 ⟨h1,rfl⟩) h3' h4 h5 h6 (fun q hq=>by omega) (fun q t y hq=>by omega) (fun q t y hq=>by omega)
 have hlook:∀ q st,q ≠ r → (σ.storeR r e 0 F').look (q,st) = σ.look (q,st):=fun q st hq=>by
  rw [AState.storeR,look_ne hr hroot' hs' hq,look_drop]
 have hlook0:(σ.storeR r e 0 F').look (r,[]) = some (.own 1 e 0 F'):=rootTV_setRoot hr hroot'
 have hheaplen:(σ.storeR r e 0 F').heap.length = σ.heap.length:=by
  cases r with
  | slot k j=>rfl
  | cell o off=>exact setCells_length _ _ _
  | obj o=>cases hr
 have U:Up g (g.clr (deepR r)) σ (σ.storeR r e 0 F') w w (fun p=>decide (p.1 = r)):=by
  refine ⟨hPs,fun k p hk hp=>?_,fun p hp z e n f hl=>?_,fun q _ hlt=>⟨rfl,by rw [hheaplen]; exact hlt⟩⟩
  ·simp only [decide_eq_false_iff_not] at hp
   refine ⟨clr_some.2 ⟨hk,?_⟩,hKs k p hk (fun e=>hp (by rw [e]))⟩
   unfold deepR
   split
   ·rfl
   ·simp [hp]
  ·simp only [decide_eq_false_iff_not] at hp
   obtain ⟨q,st⟩:=p
   rw [hlook q st hp]; exact hl
 have hN:∀ p,deepR r p = false → Names g (g.clr (deepR r)) w w σ (σ.storeR r e 0 F') p:=fun p hp=>by
  refine ⟨fun k hk=>⟨clr_some.2 ⟨hk,hp⟩,fun c' e' hc'=>?_⟩,fun z1 e1 n1 f1 hl=>?_,fun q _ hlt=>⟨rfl,by rw [hheaplen]; exact hlt⟩⟩
  ·exact ⟨c',hc',rfl⟩
  ·obtain ⟨q,st⟩:=p
   by_cases hq:q = r
   ·subst hq
    cases st with
    | nil =>
     have:σ.look (q,[]) = some (.own 1 e 0 f):=hroot
     rw [hl] at this
     cases this
     exact ⟨_,hlook0⟩
    | cons ij st=>simp [deepR] at hp
   ·exact ⟨f1,by rw [hlook q st hq]; exact hl⟩
 refine ⟨h.defers,h.size,fun k=>?_,fun o t cs' ho=>?_,fun k k' p hk hk'=>h.inj k k' p (clr_some.1 hk).1 (clr_some.1 hk').1,fun k hk=>⟨clr_none (h.frozen k hk).1,(h.frozen k hk).2⟩,
  fun k p hk=>?_,fun k p hk=>?_,h.P0,h.P1,fun k hk h0=>?_,h.os,h.tape,h.output,h.mono,h.m0,by rw [hheaplen]; exact h.h0⟩
 ·by_cases hk:r = .slot k 0
  ·have hg2:(σ.storeR r e 0 F').get k = .tv (.own 1 e 0 F'):=by
    subst hk
    simp only [AState.storeR,AState.setRoot,get_set,if_true]
   rw [hg2]
   have hk0:=h.env k
   rw [hs k hk] at hk0
   subst hk
   exact hnew _ hk0
  ·have hgk:(σ.storeR r e 0 F').get k = (σ.get k).drop (deepR r):=by
    cases r with
    | slot k' j' =>
     cases j' with
     | succ j'=>cases hr
     | zero =>
      have hne:k ≠ k':=by rintro rfl; exact hk rfl
      simp only [AState.storeR,AState.setRoot,get_set,if_neg hne,get_drop]
    | cell o off=>exact get_drop σ _ k
    | obj o=>cases hr
   rw [hgk]
   refine ((h.env k).drop _).mono ⟨hPs,fun j' k' st hk'=>?_⟩ fun p hp=>?_
   ·have hne:Root.slot k j' ≠ r:=by
     rintro rfl
     cases j' with
     | zero=>exact hk rfl
     | succ j'=>cases hr
    refine ⟨clr_some.2 ⟨hk',?_⟩,hKs k' _ hk' (fun e=>hne (by injection e))⟩
    unfold deepR
    split
    ·rfl
    ·simp [hne]
   ·obtain ⟨x,hx,he⟩:=(names_drop hp).2
    obtain rfl:x = p:=by simpa using he
    exact hN x hx
 ·-- objects
  have hobj:∀ (i:Nat) u y,(Root.cell o i) ≠ r → TRel g w (.cell o i,[]) u y → TRel (g.clr (deepR r)) w (.cell o i,[]) u y:=fun i u y hne hru =>
   U.tv (fun st=>by simp only [decide_eq_false_iff_not]; exact hne) hru
  have hkeep:∀ {t':TypeId} {cs0:List TV},σ.heap[o]? = some (.cells t' cs0) → ∃ c,w.heap[g.m o]? = some (.cells c t' (0,0)) ∧ (g.clr (deepR r)).ow (g.m o) = some (.obj o,[]) ∧ c.size = cs0.length ∧
    ∀ (i:Nat) y,cs0[i]? = some y → ∃ u,c[i]? = some u ∧ TRel g w (.cell o i,[]) u y:=fun {t' cs0} ho0=>by
   obtain ⟨c',k1,k2,k3,k4⟩:=h.heap o t' cs0 ho0
   have hne:((Root.obj o,[]):Path) ≠ (r,[]):=fun e=>by injection e with e1 _; subst e1; cases hr
   exact ⟨c',(hKs _ _ k2 hne).trans k1,clr_some.2 ⟨k2,rfl⟩,k3,k4⟩
  cases r with
  | slot k' j' =>
   obtain ⟨c',k1,k2,k3,k4⟩:=hkeep ho
   refine ⟨c',k1,k2,k3,fun i y hy'=>?_⟩
   obtain ⟨u,hu,hru⟩:=k4 i y hy'
   exact ⟨u,hu,hobj i u y (by simp) hru⟩
  | obj o'=>cases hr
  | cell o' off =>
   by_cases hoo:o = o'
   ·subst hoo
    have ho':(setCells σ.heap o (fun cs=>cs.set off (.own 1 e 0 F')))[o]? = some (.cells t cs'):=ho
    obtain ⟨cs0,ho0,rfl⟩:=setCells_some _ ho'
    obtain ⟨c',k1,k2,k3,k4⟩:=hkeep ho0
    have hoff:cs0[off]? = some (.own 1 e 0 f):=by
     simp only [AState.rootTV,ho0] at hroot
     exact hroot
    refine ⟨c',k1,k2,by rw [List.length_set]; exact k3,fun q y hy'=>?_⟩
    rw [List.getElem?_set] at hy'
    by_cases hq:off = q
    ·subst hq
     rw [if_pos rfl,if_pos (List.getElem?_eq_some_iff.1 hoff).1] at hy'
     cases hy'
     obtain ⟨u,hu,hru⟩:=k4 off _ hoff
     exact ⟨u,hu,hnew u hru⟩
    ·rw [if_neg hq] at hy'
     obtain ⟨u,hu,hru⟩:=k4 q y hy'
     exact ⟨u,hu,hobj q u y (by simp; exact fun e=>hq e.symm) hru⟩
   ·have ho':(setCells σ.heap o' (fun cs=>cs.set off (.own 1 e 0 F')))[o]? = some (.cells t cs'):=ho
    rw [setCells_ne _ _ _ _ hoo] at ho'
    obtain ⟨c',k1,k2,k3,k4⟩:=hkeep ho'
    refine ⟨c',k1,k2,k3,fun q y hy'=>?_⟩
    obtain ⟨u,hu,hru⟩:=k4 q y hy'
    exact ⟨u,hu,hobj q u y (by simp [hoo]) hru⟩
 ·obtain ⟨k1,k2⟩:=h.lt k p (clr_some.1 hk).1
  exact ⟨k1,k2⟩
 ·have:=h.ids k p (clr_some.1 hk).1
  rw [hheaplen]; exact this
 ·exact h.kept k hk h0


/-- What is to be cut and copied into: what comes of cutting it, and of copying into that. -/
theorem cutCopy_sound (hT:TabOk X.P T) (hs:Sat X g σ a w) {x lo y:Operand} {t t2 e e2:TypeId} {r:Root} {n m:Nat} {f fy:Nat → List TV} {q:Int} {b:Bool}
  (hu:(T.get t).map TI.und = some (.slice e)) (hz:T.size e = some 1) (hu2:(T.get t2).map TI.und = some (.slice e2)) (hx:σ.appOf x = some (some r,n,f,1,e)) (hown:σ.ownAt r = some (.own 1 e n f)) (hpf:PlainTo n f)
  (hlo:iv (σ.ev lo) = some q) (h0:0 ≤ q) (hy:σ.slOf (σ.ev y) = some (1,m,fy,b)) (hpy:PlainTo m fy) (hfit:q + (m:Int) ≤ (n:Int))
  {o:Oper} (ho:o.op = .slice t x (some lo) none none) :
  ∃ v1,(execOp a.eval o).run X.P w = .ok (.value v1) w ∧ ∃ w' g',(∀ ty,(Builtin.copy_ #[t,t2] ty #[v1,a.eval y]).run X.P w = .ok (goInt m) w') ∧ Sat X g' (σ.storeR r e n (copyF f q.toNat m fy)) a w':=by
 obtain ⟨news,hsec,hfy1,hfy⟩:=second_of hT hs hy hpy hu2
 obtain ⟨i,hi',hsz⟩:=hT.info hz
 have hund:=hT.und hu
 have hl:σ.bound 0 (some lo) = some q:=hlo
 have hh:σ.bound (n:Int) (none:Option Operand) = some (n:Int):=rfl
 rcases appOf_rel hs hx with ⟨e0,_⟩ | ⟨r0,e0,_,hv⟩
 ·cases e0
 cases e0
 rcases hv with ⟨hv,rfl⟩ | ⟨bk,cap,c,cs',hb,hv,hrow,hcs,hn,hm,hlf,hc⟩
 ·-- nothing
  have hq0:q = 0:=by omega
  have hm0:m = 0:=by omega
  subst hq0 hm0
  have hbd:=sliceBounds_run (X:=X) hs (b:=true) (cap:=0) hl hh (Int.le_refl _) (by omega) (Int.le_refl _) (Nat.zero_le _)
  simp only [Option.map_none,Option.map_some] at hbd
  refine ⟨.slice none 0 0,?_,w,_,fun ty=>?_,hs.storeR0 hown⟩
  ·simp only [execOp,ho,Instr.sliceAt,Instr.slice,hv,Sem.run_bind,run_underlying hund,Result.andThen_ok,Option.map_none,Option.map_some,hbd,run_size hi',Sem.run_pure]
   rfl
  ·have h1:=hsec.len w rfl
   have h2:=hsec.cells w rfl
   have hmin:Nat.min 0 0 = 0:=rfl
   simp only [Builtin.copy_,List.getElem?_toArray,List.getElem?_cons_zero,List.getElem?_cons_succ,Sem.run_bind,run_underlying hund,Result.andThen_ok,h1,hmin,run_size hi',hsz,h2,Sem.run_pure]
 ·have hqn:q ≤ (n:Int):=by omega
  have hbd:=sliceBounds_run (X:=X) hs (b:=true) (cap:=cap) hl hh h0 hqn (Int.le_refl _) hn
  simp only [Option.map_none,Option.map_some] at hbd
  have hnl:news.length = m:=by have:=hsec.size; omega
  have hmin:Nat.min m (n - q.toNat) = m:=Nat.min_eq_left (by omega)
  have hy':∀ (k:Nat) y,k < m → (fy k)[0]? = some y → ∃ u,news[k]? = some u ∧ FRel g.P w u y:=fun k y hk hky=>by
   obtain ⟨u,hu,hr⟩:=hfy k 0 y hk hky
   exact ⟨u,by simpa using hu,hr⟩
  have hexec:(execOp a.eval o).run X.P w = .ok (.value (.slice (if cap = q.toNat then some ⟨bk,0,none⟩ else some ⟨bk,0 + q.toNat * 1,none⟩) ((n:Int).toNat - q.toNat) (cap - q.toNat))) w:=by
   simp only [execOp,ho,Instr.sliceAt,Instr.slice,hv,Sem.run_bind,run_underlying hund,Result.andThen_ok,Option.map_none,Option.map_some,hbd,run_size hi',Sem.run_pure,add_mk,hsz,Int.toNat_natCast]
  rw [Int.toNat_natCast] at hexec
  rcases Nat.eq_zero_or_pos n with h00 | hn0
  ·subst h00
   have hm0:m = 0:=by omega
   subst hm0
   have hnil:news = []:=List.eq_nil_of_length_eq_zero hnl
   subst hnil
   refine ⟨_,hexec,w,_,fun ty=>?_,hs.storeR0 hown⟩
   have h1:=hsec.len w rfl
   have h2:=hsec.cells w rfl
   have hmin':Nat.min 0 (0 - q.toNat) = 0:=by simp
   split <;> simp [Builtin.copy_,run_underlying hund,h1,hmin',sizeOf,typeInfo,hi',hsz,h2,storeCells]
  ·obtain ⟨w',g',hrun,hsat⟩:=hs.storeR hown hpf (lo:=q.toNat) (m:=m) hn0 (by omega) hnl hfy1 hy' hb
   refine ⟨_,hexec,w',g',fun ty=>?_,hsat⟩
   have h1:=hsec.len w rfl
   have h2:=hsec.cells w rfl
   by_cases hcl:cap = q.toNat
   ·have hm0:m = 0:=by omega
    subst hm0
    have hnil:news = []:=List.eq_nil_of_length_eq_zero hnl
    subst hnil
    have hw:w' = w:=by
     simp only [storeCells,Sem.run_pure] at hrun
     injection hrun with _ h2
     exact h2.symm
    subst hw
    rw [if_pos hcl]
    simp [Builtin.copy_,run_underlying hund,h1,sizeOf,typeInfo,hi',hsz,h2,storeCells]
   ·rw [if_neg hcl]
    have hst:(storeCells ⟨bk,0 + q.toNat * 1,none⟩ news).run X.P w = .ok () w':=by
     rw [Nat.zero_add,Nat.mul_one]; exact hrun
    simp [Builtin.copy_,run_underlying hund,h1,hmin,sizeOf,typeInfo,hi',hsz,h2,hst,hrun]

end

section
variable {F:Cfg} {Q:Exit → AState → Prop} {σ:AState} {ops:Array Oper}

theorem wpOp_value {P:Program} {Q:Exit → Act → World → Prop} {i:Nat} {K:Act → World → Prop} {a:Act} {w w':World} {o:Oper} {v:Value} (ho:ops[i]? = some o) (hg:o.guard = none) (hrun:(execOp a.eval o).run P w = .ok (.value v) w') (hK:K (a.put o.dst v) w'):wpOp P ops Q i K a w:=by
 simp only [wpOp,ho,Region.wanted,hg,if_true]
 left
 unfold Oper.wp
 rw [hrun]
 exact hK

theorem eval_put {a:Act} {d s:Nat} {v:Value} (hne:s ≠ d):(a.put (some d) v).eval (.tmp s) = a.eval (.tmp s):=by
 by_cases hd:d < a.tmps.size
 ·show (a.put (some d) v).tmps.getD s undef = a.tmps.getD s undef
  rw [tmps_put _ _ _ _ hd,if_neg hne]
 ·show (a.put (some d) v).tmps.getD s undef = a.tmps.getD s undef
  simp [Act.put,Array.setIfInBounds,hd]

theorem eval_put_same {a:Act} {d:Nat} {v:Value} (hd:d < a.tmps.size):(a.put (some d) v).eval (.tmp d) = v:=by
 show (a.put (some d) v).tmps.getD d undef = v
 rw [tmps_put _ _ _ _ hd,if_pos rfl]

theorem size_put {a:Act} {d:Nat} {v:Value}:(a.put (some d) v).tmps.size = a.tmps.size:=by
 simp [Act.put]

/-- A slice of one's own, cut at a place, and something copied into that. -/
theorem AOps.cutCopy {i1 i2 i3:Nat} {l:List Nat} {x lo:Operand} {t t2 e e2:TypeId} {d1 s2 d2 d3:Nat} {r:Root} {n m:Nat} {f fy:Nat → List TV} {q:Int} {b:Bool} (o1 o2 o3:Oper)
  (h1:ops[i1]? = some o1) (g1:o1.guard = none) (p1:o1.op = .slice t x (some lo) none none) (k1:o1.dst = some d1)
  (h2:ops[i2]? = some o2) (g2:o2.guard = none) (p2:o2.op = .move (.tmp s2)) (k2:o2.dst = some d2)
  (h3:ops[i3]? = some o3) (g3:o3.guard = none) (p3:o3.op = .call { callee:=.builtin .copy,args:=#[.tmp d1,.tmp d2],argTypes:=#[t,t2] }) (k3:o3.dst = some d3)
  (hlt:(Nat.blt d1 F.n && Nat.blt d2 F.n && Nat.blt d3 F.n && !Nat.beq s2 d1 && !Nat.beq d1 d2) = true)
  (hu:(F.T.get t).map TI.und = some (.slice e)) (hz:F.T.size e = some 1) (hu2:(F.T.get t2).map TI.und = some (.slice e2)) (hx:σ.appOf x = some (some r,n,f,1,e)) (hown:σ.ownAt r = some (.own 1 e n f)) (hpf:PlainTo n f)
  (hlo:iv (σ.ev lo) = some q) (h0:0 ≤ q) (hy:σ.slOf (σ.ev (.tmp s2)) = some (1,m,fy,b)) (hpy:PlainTo m fy) (hfit:q + (m:Int) ≤ (n:Int))
  (h:AOps F ops Q l ((((σ.storeR r e n (copyF f q.toNat m fy)).put d1 .junk).put d2 .junk).put d3 .junk)):AOps F ops Q (i1 :: i2 :: i3 :: l) σ:=fun w0 g0 g a w hs=>by
 simp only [Bool.and_eq_true,Bool.not_eq_true'] at hlt
 obtain ⟨⟨⟨⟨l1,l2⟩,l3⟩,n1⟩,n2⟩:=hlt
 have l1:d1 < F.n:=Nat.le_of_ble_eq_true l1
 have l2:d2 < F.n:=Nat.le_of_ble_eq_true l2
 have l3:d3 < F.n:=Nat.le_of_ble_eq_true l3
 have n1:s2 ≠ d1:=Nat.ne_of_beq_eq_false n1
 have n2:d1 ≠ d2:=Nat.ne_of_beq_eq_false n2
 obtain ⟨v1,hrun1,w',g',hrun3,hsat⟩:=cutCopy_sound (X:=F.ctx w0 g0) F.ok hs hu hz hu2 hx hown hpf hlo h0 hy hpy hfit p1
 have hsz:a.tmps.size = F.n:=hs.size
 rw [wpOps_cons]
 refine wpOp_value h1 g1 hrun1 ?_
 rw [wpOps_cons,k1]
 refine wpOp_value (v:=a.eval (.tmp s2)) (w':=w) h2 g2 ?_ ?_
 ·simp only [execOp,p2,eval_put n1,Sem.run_pure]
 rw [wpOps_cons,k2]
 refine wpOp_value (v:=goInt m) (w':=w') h3 g3 ?_ ?_
 ·have e1:((a.put (some d1) v1).put (some d2) (a.eval (.tmp s2))).eval (.tmp d1) = v1:=by
   rw [eval_put n2,eval_put_same (by rw [hsz]; exact l1)]
  have e2:((a.put (some d1) v1).put (some d2) (a.eval (.tmp s2))).eval (.tmp d2) = a.eval (.tmp s2):=eval_put_same (by rw [size_put,hsz]; exact l2)
  simp only [execOp,p3,resolve,invoke,builtin,Sem.run_bind,Sem.run_pure,Result.andThen_ok,List.map_toArray,List.map_cons,List.map_nil,e1,e2]
  have hr3:=hrun3 o3.type
  have hr3':(Builtin.copy_ #[t,t2] o3.type #[v1,a.eval (.tmp s2)]).run F.P w = .ok (goInt m) w':=hr3
  rw [hr3']
  rfl
 ·rw [k3]
  have s1:=hsat.put (d:=d1) l1 (v:=v1) (sv:=.junk) (k:=0) rfl rfl trivial
  have s2':=s1.put (d:=d2) l2 (v:=a.eval (.tmp s2)) (sv:=.junk) (k:=0) rfl rfl trivial
  exact h w0 g0 _ _ w' (s2'.put (d:=d3) l3 (v:=goInt m) (sv:=.junk) (k:=0) rfl rfl trivial)
end

section
variable {F:Cfg} {K:AState → Prop} {σ:AState} {ops:Array Oper}

/-- The same in an open order, where nothing else is left. -/
theorem AAny.cutCopy {fuel:Nat} {listed:Array Bool} {i1 i3:Nat} {x lo:Operand} {t t2 e e2:TypeId} {d1 d2 d3:Nat} {r:Root} {n m:Nat} {f fy:Nat → List TV} {q:Int} {b:Bool} (o1 o3:Oper)
  (hr1:Region.ready .any ops listed = [i1]) (hr2:Region.ready .any ops (listed.setIfInBounds i1 true) = [i3])
  (h1:ops[i1]? = some o1) (g1:o1.guard = none) (p1:o1.op = .slice t x (some lo) none none) (k1:o1.dst = some d1)
  (h3:ops[i3]? = some o3) (g3:o3.guard = none) (p3:o3.op = .call { callee:=.builtin .copy,args:=#[.tmp d1,.tmp d2],argTypes:=#[t,t2] }) (k3:o3.dst = some d3)
  (hlt:(Nat.blt d1 F.n && Nat.blt d3 F.n && !Nat.beq d2 d1) = true)
  (hu:(F.T.get t).map TI.und = some (.slice e)) (hz:F.T.size e = some 1) (hu2:(F.T.get t2).map TI.und = some (.slice e2)) (hx:σ.appOf x = some (some r,n,f,1,e)) (hown:σ.ownAt r = some (.own 1 e n f)) (hpf:PlainTo n f)
  (hlo:iv (σ.ev lo) = some q) (h0:0 ≤ q) (hy:σ.slOf (σ.ev (.tmp d2)) = some (1,m,fy,b)) (hpy:PlainTo m fy) (hfit:q + (m:Int) ≤ (n:Int))
  (h:AAny F ops K fuel ((listed.setIfInBounds i1 true).setIfInBounds i3 true) (((σ.storeR r e n (copyF f q.toNat m fy)).put d1 .junk).put d3 .junk)):AAny F ops K (fuel + 2) listed σ:=fun w0 g0 g a w hb hs=>by
 simp only [Bool.and_eq_true,Bool.not_eq_true'] at hlt
 obtain ⟨⟨l1,l3⟩,n1⟩:=hlt
 have l1:d1 < F.n:=Nat.le_of_ble_eq_true l1
 have l3:d3 < F.n:=Nat.le_of_ble_eq_true l3
 have n1:d2 ≠ d1:=Nat.ne_of_beq_eq_false n1
 obtain ⟨v1,hrun1,w',g',hrun3,hsat⟩:=cutCopy_sound (X:=F.ctx w0 g0) F.ok hs hu hz hu2 hx hown hpf hlo h0 hy hpy hfit p1
 have hsz:a.tmps.size = F.n:=hs.size
 refine wpAnyH_all hr1 (by simp) fun j hj=>?_
 rw [List.mem_singleton.1 hj]
 refine wpOp_value h1 g1 hrun1 ⟨hs.still hb,?_⟩
 rw [k1]
 refine wpAnyH_all hr2 (by simp) fun j hj=>?_
 rw [List.mem_singleton.1 hj]
 have s1:=hsat.put (d:=d1) l1 (v:=v1) (sv:=.junk) (k:=0) rfl rfl trivial
 have s3:=s1.put (d:=d3) l3 (v:=goInt m) (sv:=.junk) (k:=0) rfl rfl trivial
 refine wpOp_value (v:=goInt m) (w':=w') h3 g3 ?_ ⟨s3.still hb,?_⟩
 ·have e1:(a.put (some d1) v1).eval (.tmp d1) = v1:=eval_put_same (by rw [hsz]; exact l1)
  have e2:(a.put (some d1) v1).eval (.tmp d2) = a.eval (.tmp d2):=eval_put n1
  simp only [execOp,p3,resolve,invoke,builtin,Sem.run_bind,Sem.run_pure,Result.andThen_ok,List.map_toArray,List.map_cons,List.map_nil,e1,e2]
  have hr3':(Builtin.copy_ #[t,t2] o3.type #[v1,a.eval (.tmp d2)]).run F.P w = .ok (goInt m) w':=hrun3 o3.type
  rw [hr3']
  rfl
 ·rw [k3]
  exact h w0 g0 _ _ w' hb s3
end

section
variable {X:Ctx} {g:Gh} {σ:AState} {a:Act} {w:World} {T:Tab}

/-- A part of a slice of one's own, to be appended elsewhere. -/
theorem cutPart (hT:TabOk X.P T) (hs:Sat X g σ a w) {x lo hi:Operand} {t t2 e e2:TypeId} {r:Root} {n:Nat} {f:Nat → List TV} {q q2:Int}
  (hu:(T.get t).map TI.und = some (.slice e)) (hz:T.size e = some 1) (hu2:(T.get t2).map TI.und = some (.slice e2)) (hx:σ.appOf x = some (some r,n,f,1,e)) (hpf:PlainTo n f)
  (hlo:iv (σ.ev lo) = some q) (hhi:iv (σ.ev hi) = some q2) (h0:0 ≤ q) (h1:q ≤ q2) (h2:q2 ≤ (n:Int)) {o:Oper} (ho:o.op = .slice t x (some lo) (some hi) none) :
  ∃ v1,(execOp a.eval o).run X.P w = .ok (.value v1) w ∧ ∃ news:List Value,Second X.P w t2 1 v1 (q2.toNat - q.toNat) news ∧ (∀ i,i < q2.toNat - q.toNat → (f (q.toNat + i)).length = 1) ∧
   ∀ (i j:Nat) y,i < q2.toNat - q.toNat → (f (q.toNat + i))[j]? = some y → ∃ u,news[i * 1 + j]? = some u ∧ FRel g.P w u y:=by
 obtain ⟨i,hi',hsz⟩:=hT.info hz
 have hund:=hT.und hu
 have hl:σ.bound 0 (some lo) = some q:=hlo
 have hh:σ.bound (n:Int) (some hi) = some q2:=hhi
 have none_:∀ (A:Option Addr) (c:Nat),Second X.P w t2 1 (.slice A 0 c) 0 []:=fun A c=>by
  refine ⟨fun _ _=>rfl,.inl ⟨e2,hT.und hu2⟩,fun w' _=>?_,by simp,fun v hv=>by simp at hv⟩
  cases A with
  | none=>rfl
  | some A=>exact run_firstCells_some (P:=X.P) w' 1 0 A 0 c [] (by simp) fun j v hj=>by simp at hj
 rcases appOf_rel hs hx with ⟨e0,_⟩ | ⟨r0,e0,_,hv⟩
 ·cases e0
 cases e0
 rcases hv with ⟨hv,rfl⟩ | ⟨bk,cap,c,cs',hb,hv,hrow,hcs,hn,hm,hlf,hc⟩
 ·have hq0:q = 0:=by omega
  have hq2:q2 = 0:=by omega
  subst hq0 hq2
  have hbd:=sliceBounds_run (X:=X) hs (b:=true) (cap:=0) hl hh (Int.le_refl _) (by omega) (Int.le_refl _) (Nat.zero_le _)
  simp only [Option.map_some] at hbd
  refine ⟨.slice none 0 0,?_,[],none_ _ _,fun i hi=>by simp at hi,fun i j y hi=>by simp at hi⟩
  simp only [execOp,ho,Instr.sliceAt,Instr.slice,hv,Sem.run_bind,run_underlying hund,Result.andThen_ok,Option.map_none,Option.map_some,hbd,run_size hi',Sem.run_pure]
  rfl
 ·have hbd:=sliceBounds_run (X:=X) hs (b:=true) (cap:=cap) hl hh h0 h1 h2 hn
  simp only [Option.map_some] at hbd
  have hexec:(execOp a.eval o).run X.P w = .ok (.value (.slice (if cap = q.toNat then some ⟨bk,0,none⟩ else some ⟨bk,0 + q.toNat * 1,none⟩) (q2.toNat - q.toNat) (cap - q.toNat))) w:=by
   simp only [execOp,ho,Instr.sliceAt,Instr.slice,hv,Sem.run_bind,run_underlying hund,Result.andThen_ok,Option.map_none,Option.map_some,hbd,run_size hi',Sem.run_pure,add_mk,hsz]
  refine ⟨_,hexec,?_⟩
  rcases Nat.eq_zero_or_pos (q2.toNat - q.toNat) with hz0 | hpos
  ·rw [hz0]
   exact ⟨[],none_ _ _,fun i hi=>by omega,fun i j y hi=>by omega⟩
  ·have hcl:¬ cap = q.toNat:=by omega
   rw [if_neg hcl,Nat.zero_add,Nat.mul_one]
   have hplain:∀ (k t:Nat) (y:TV),k < n → (f k)[t]? = some y → y.plain = true:=fun k t y hk hyk=>by
    have:=hpf k hk
    rw [List.all_eq_true] at this
    exact this y (List.mem_of_getElem? hyk)
   have hlen:∀ i,i < q2.toNat - q.toNat → (f (q.toNat + i)).length = 1:=fun i hi=>hlf _ (by omega)
   obtain ⟨vs,hvl,hv1,hv2⟩:=flat_cells (P:=g.P) (w:=w) (b:=bk) (off:=q.toNat) (f:=fun i=>f (q.toNat + i)) (cs:=fun i j=>cs' (q.toNat + i) j) hlen fun i j y hi hy=>by
    obtain ⟨k1,k2⟩:=hc (q.toNat + i) j y (by omega) hy
    refine ⟨?_,k2 (hplain _ j y (by omega) hy)⟩
    rw [hrow.cell,← k1]
    congr 1
    omega
   refine ⟨vs,⟨fun _ _=>rfl,.inl ⟨e2,hT.und hu2⟩,fun w' hw'=>?_,hvl,fun v hv=>?_⟩,hlen,hv2⟩
   ·refine run_firstCells_some (P:=X.P) w' 1 (q2.toNat - q.toNat) ⟨bk,q.toNat,none⟩ (q2.toNat - q.toNat) (cap - q.toNat) vs hvl fun j v hj=>?_
    rw [add_mk,World.cell?_of_block (w:=w) (by rw [hw'])]
    exact (hv1 j v hj).1
   ·obtain ⟨k,hk⟩:=List.getElem?_of_mem hv
    exact (hv1 k v hk).2
end

section
variable {F:Cfg} {Q:Exit → AState → Prop} {σ:AState} {ops:Array Oper}

/-- A part of a slice of one's own is appended elsewhere. -/
theorem AOps.cutApp {i1 i2:Nat} {l:List Nat} {x lo hi:Operand} {t t2 t3 e e2 e3 e':TypeId} {s d1 d2:Nat} {r r':Root} {n n' z':Nat} {f f':Nat → List TV} {q q2:Int} {ei:TI} (o1 o2:Oper)
  (h1:ops[i1]? = some o1) (g1:o1.guard = none) (p1:o1.op = .slice t x (some lo) (some hi) none) (k1:o1.dst = some d1)
  (h2:ops[i2]? = some o2) (g2:o2.guard = none) (p2:o2.op = .call { callee:=.builtin .append,args:=#[.tmp s,.tmp d1],argTypes:=#[t3,t2] }) (k2:o2.dst = some d2)
  (hlt:(Nat.blt d1 F.n && Nat.blt d2 F.n) = true)
  (hu:(F.T.get t).map TI.und = some (.slice e)) (hz:F.T.size e = some 1) (hu2:(F.T.get t2).map TI.und = some (.slice e2)) (hx:σ.appOf x = some (some r,n,f,1,e)) (hpf:PlainTo n f)
  (hlo:iv (σ.ev lo) = some q) (hhi:iv (σ.ev hi) = some q2)
  (hu3:(F.T.get t3).map TI.und = some (.slice e3)) (hei:F.T.get e3 = some ei) (hx':(σ.put d1 .junk).appOf (.tmp s) = some (some r',n',f',z',e')) (hok:okRoot z' e' ei.size e3 (some r') = true) (hz1:ei.size = 1) (hb0:Nat.blt 0 ei.bytes = true) (hpf':PlainTo n' f')
  (c0:0 ≤ q) (c1:q ≤ q2) (c2:q2 ≤ (n:Int)) (c3:(n' + (q2.toNat - q.toNat)) * ei.bytes ≤ 140737488355328)
  (h:AOps F ops Q l ((killO (σ.put d1 .junk) (some r')).put d2 (.tv (.own ei.size e3 (n' + (q2.toNat - q.toNat)) (appF n' f' (fun i=>f (q.toNat + i))))))):AOps F ops Q (i1 :: i2 :: l) σ:=fun w0 g0 g a w hs=>by
 simp only [Bool.and_eq_true] at hlt
 have l1:d1 < F.n:=Nat.le_of_ble_eq_true hlt.1
 have l2:d2 < F.n:=Nat.le_of_ble_eq_true hlt.2
 obtain ⟨v1,hrun1,news,hsec,hlen,hnews⟩:=cutPart (X:=F.ctx w0 g0) F.ok hs hu hz hu2 hx hpf hlo hhi c0 c1 c2 p1
 have hsz:a.tmps.size = F.n:=hs.size
 have s1:=hs.put (d:=d1) l1 (v:=v1) (sv:=.junk) (k:=0) rfl rfl trivial
 rw [wpOps_cons]
 refine wpOp_value h1 g1 hrun1 ?_
 rw [wpOps_cons,k1]
 have e1:(a.put (some d1) v1).eval (.tmp d1) = v1:=eval_put_same (by rw [hsz]; exact l1)
 obtain ⟨nx,w',g',hrun,hn⟩:=append_sec (X:=F.ctx w0 g0) (y:=.tmp d1) F.ok s1 l2 hu3 hx' hei hok (Nat.le_of_ble_eq_true hb0) ⟨news,by rw [e1,hz1]; exact hsec,by rw [hz1]; exact hlen,fun i j y hi hy=>by rw [hz1]; exact hnews i j y hi hy⟩ c3 hpf' p2 k2
 rcases hn with ⟨v,rfl,hs'⟩ | ⟨rfl,hs'⟩
 ·exact wpOp_value h2 g2 hrun (h w0 g0 _ _ w' hs')
 ·simp only [wpOp,h2,Region.wanted,g2,if_true]
  left
  unfold Oper.wp
  have hrun':(execOp (a.put (some d1) v1).eval o2).run F.P w = .ok .skip w':=hrun
  rw [hrun']
  exact h w0 g0 _ _ w' hs'
end

theorem cutApp_at {A:Type} [Inhabited A] (enc:A → List TV) (l l':List A) (lo hi:Nat) (h:hi ≤ l.length) :
  ∀ i,i < l'.length + (hi - lo) → appF l'.length (fun i=>enc (l'.getD i default)) (fun i=>enc (l.getD (lo + i) default)) i = enc ((l' ++ (l.take hi).drop lo).getD i default):=by
 intro i hi'
 simp only [List.getD_eq_getElem?_getD]
 rcases Nat.lt_or_ge i l'.length with h1 | h1
 ·rw [appF_lt h1,List.getElem?_append_left h1]
 ·rw [appF_ge h1,List.getElem?_append_right h1,List.getElem?_drop,List.getElem?_take,if_pos (by omega)]

theorem cutApp_len {A:Type} (l l':List A) (lo hi:Nat) (h:hi ≤ l.length):l'.length + (hi - lo) = (l' ++ (l.take hi).drop lo).length:=by
 simp only [List.length_append,List.length_drop,List.length_take]; omega

/-- So many elements, and others from a place on. -/
def putL {A:Type} (l:List A) (lo:Nat) (y:List A):List A:=l.take lo ++ y ++ l.drop (lo + y.length)

theorem putL_len {A:Type} (l:List A) (lo:Nat) (y:List A) (h:lo + y.length ≤ l.length):l.length = (putL l lo y).length:=by
 simp only [putL,List.length_append,List.length_take,List.length_drop]; omega

theorem putL_at {A:Type} [Inhabited A] (enc:A → List TV) (l:List A) (lo:Nat) (y:List A) (h:lo + y.length ≤ l.length) :
  ∀ i,i < l.length → copyF (fun i=>enc (l.getD i default)) lo y.length (fun i=>enc (y.getD i default)) i = enc ((putL l lo y).getD i default):=by
 intro i hi
 unfold copyF putL
 simp only [List.getD_eq_getElem?_getD]
 by_cases h1:lo ≤ i ∧ i < lo + y.length
 ·rw [if_pos h1,List.getElem?_append_left (by simp only [List.length_append,List.length_take]; omega),List.getElem?_append_right (by simp only [List.length_take]; omega)]
  congr 3
  simp only [List.length_take]
  rw [Nat.min_eq_left (by omega)]
 ·rw [if_neg h1]
  rcases Nat.lt_or_ge i lo with h2 | h2
  ·rw [List.getElem?_append_left (by simp only [List.length_append,List.length_take]; omega),List.getElem?_append_left (by simp only [List.length_take]; omega),List.getElem?_take,if_pos h2]
  ·rw [List.getElem?_append_right (by simp only [List.length_append,List.length_take]; omega),List.getElem?_drop]
   congr 3
   simp only [List.length_append,List.length_take]
   rw [Nat.min_eq_left (by omega)]
   omega


section
variable {F:Cfg} {Q:Exit → AState → Prop} {σ:AState} {ops:Array Oper}

theorem cell_obj {w:World} {b j:Nat} {c:Array Value} {t:TypeId} (h:w.heap[b]? = some (.cells c t (0,0))):w.cell? ⟨b,j,none⟩ = c[j]?:=by
 rw [(Row.of h).cell]

/-- A given object is copied into a new one; what it owns is open there, to be written at once. -/
theorem AOps.copyObj {i1 i2 i3:Nat} {l:List Nat} {x:Operand} {t t':TypeId} {d1 d2 ob:Nat} {cs:List TV} {ti:TI} (o1 o2 o3:Oper)
  (h1:ops[i1]? = some o1) (g1:o1.guard = none) (p1:o1.op = .load t x) (k1:o1.dst = some d1)
  (h2:ops[i2]? = some o2) (g2:o2.guard = none) (p2:o2.op = .alloc t) (k2:o2.dst = some d2)
  (h3:ops[i3]? = some o3) (g3:o3.guard = none) (p3:o3.op = .store t (.tmp d2) (.tmp d1)) (k3:o3.dst = none)
  (hti:F.T.get t = some ti) (hx:σ.ev x = .pc ob 0) (ho:σ.heap[ob]? = some (.cells t' cs))
  (hlt:(Nat.blt d1 F.n && Nat.blt d2 F.n && !Nat.beq d1 d2 && noHole cs && Nat.beq cs.length ti.size && Nat.beq ti.zero.length ti.size && isAggD ti.und) = true)
  (h:AOps F ops Q l ((((σ.put d1 .junk).new t (ti.zero.map cTV)).put d2 (.pc (σ.put d1 .junk).heap.length 0)).storeC (σ.put d1 .junk).heap.length 0 (cs.map holeOwn))):AOps F ops Q (i1 :: i2 :: i3 :: l) σ:=fun w0 g0 g a w hs=>by
 simp only [Bool.and_eq_true,Bool.not_eq_true'] at hlt
 obtain ⟨⟨⟨⟨⟨⟨l1,l2⟩,n1⟩,hh⟩,hlen⟩,hzlen⟩,hagg⟩:=hlt
 have l1:d1 < F.n:=Nat.le_of_ble_eq_true l1
 have l2:d2 < F.n:=Nat.le_of_ble_eq_true l2
 have n1:d1 ≠ d2:=Nat.ne_of_beq_eq_false n1
 have hlen:cs.length = ti.size:=Nat.eq_of_beq_eq_true hlen
 have hzlen:ti.zero.length = ti.size:=Nat.eq_of_beq_eq_true hzlen
 obtain ⟨k,hk⟩:=ev_rel hs x
 rw [hx] at hk
 obtain ⟨hv,_⟩:=hk
 obtain ⟨c,c1,c2,c3,c4⟩:=hs.heap ob t' cs ho
 obtain ⟨hu,i,z,hi,hsz,hby,hz,hzc,hzl,hz1,_⟩:=F.ok t ti hti
 have hload:(loadVar t ⟨g.m ob,0,none⟩).run F.P w = .ok (.agg c) w:=by
  unfold loadVar
  have hl:=run_loadCells_list (P:=F.P) w ⟨g.m ob,0,none⟩ c.toList fun j v hj=>by
   rw [add_mk,Nat.zero_add,cell_obj c1,← Array.getElem?_toList]; exact hj
  rw [Array.length_toList,c3,hlen] at hl
  simp only [Sem.run_bind,run_isAgg hu,Result.andThen_ok,hagg,if_true,run_size hi,hsz,hl,Sem.run_pure,Array.toArray_toList]
 have fr:∀ {p:Path} {u:Value} {y:TV},TRel g w p u y → y ≠ .hole → holeOwn y = .hole ∨ FRel g.P w u (holeOwn y):=fun h hy=>by
  cases h with
  | hole=>exact absurd rfl hy
  | nil=>exact .inl rfl
  | own=>exact .inl rfl
  | mp=>exact .inl rfl
  | fr h=>right; cases h <;> (simp only [holeOwn]; first | exact .int _ _ | exact .bool _ | exact .str _ | exact .sc _ (by assumption) | exact .nil _ _ _ _ | exact .row _ _ _ _ _ _ _ (by assumption) (by assumption) (by assumption) (by assumption) (by assumption) (by assumption))
 have s1:=hs.put (d:=d1) l1 (v:=.agg c) (sv:=.junk) (k:=0) rfl rfl trivial
 have hzero:CellsRel g.P w z.cells (ti.zero.map cTV):=by
  refine ⟨by rw [← Array.length_toList,hzc]; simp,fun q y hy=>?_⟩
  rw [List.getElem?_map] at hy
  obtain ⟨u,hu',rfl⟩:=Option.map_eq_some_iff.1 hy
  refine ⟨u,by rw [← Array.getElem?_toList,hzc]; exact hu',cTV_rel ?_⟩
  rw [List.all_eq_true] at hz1
  exact hz1 u (List.mem_of_getElem? hu')
 have s2:=s1.newObj t hzero
 have hm:((g.clr (under d1)).obj w.heap.size (σ.put d1 .junk).heap.length).m (σ.put d1 .junk).heap.length = w.heap.size:=by simp [Gh.obj]
 have hpc:=pc_rel (g:=(g.clr (under d1)).obj w.heap.size (σ.put d1 .junk).heap.length) (w:=w.alloc (.cells z.cells t)) (σ:=(σ.put d1 .junk).new t (ti.zero.map cTV)) (k:=0) (o:=(σ.put d1 .junk).heap.length) (off:=0) (by simp [AState.new])
 rw [hm] at hpc
 have s3:=Sat.put (σ:=(σ.put d1 .junk).new t (ti.zero.map cTV)) s2 (d:=d2) l2 rfl rfl (k:=0) hpc
 have hm3:(((g.clr (under d1)).obj w.heap.size (σ.put d1 .junk).heap.length).clr (under d2)).m (σ.put d1 .junk).heap.length = w.heap.size:=hm
 have hob:(((σ.put d1 .junk).new t (ti.zero.map cTV)).put d2 (.pc (σ.put d1 .junk).heap.length 0)).heap[(σ.put d1 .junk).heap.length]? = some (.cells t (ti.zero.map cTV)):=by
  simp [AState.put,AState.set,AState.drop,AState.new]
 have hone:∀ v ∈ c.toList,v.oneCell' = true:=fun v hv'=>by
  obtain ⟨q,hq⟩:=List.getElem?_of_mem hv'
  have hq':q < cs.length:=by rw [← c3]; have:=(List.getElem?_eq_some_iff.1 hq).1; simpa using this
  obtain ⟨u,hu,hr⟩:=c4 q cs[q] (List.getElem?_eq_getElem hq')
  rw [Array.getElem?_toList] at hq
  rw [hq] at hu
  cases hu
  exact hr.one (noHole_at hh _ (List.getElem_mem hq'))
 obtain ⟨w4,hrun4,s4,_⟩:=s3.storeCH hob (ys:=cs.map holeOwn) (off:=0) (vs:=c.toList) (by simp [c3]) (by simp [hlen,hzlen]) hone fun q y hy=>by
  rw [List.getElem?_map] at hy
  obtain ⟨y0,hy0,rfl⟩:=Option.map_eq_some_iff.1 hy
  obtain ⟨u,hu,hr⟩:=c4 q y0 hy0
  refine ⟨u,by rw [Array.getElem?_toList]; exact hu,?_⟩
  rcases fr hr (noHole_at hh y0 (List.mem_of_getElem? hy0)) with e | e
  ·exact .inl e
  ·exact .inr (e.mono fun k hk=>⟨hk,heap_alloc_old w _ (hs.frozen k hk).2⟩)
 have hts:a.tmps.size = F.n:=hs.size
 rw [wpOps_cons]
 refine wpOp_value h1 g1 (v:=.agg c) (w':=w) ?_ ?_
 ·simp only [execOp,p1,Instr.loadAt,hv,Instr.sureAddr,pure_bind,Sem.run_bind,hload,Result.andThen_ok,Sem.run_pure]
 rw [wpOps_cons,k1]
 refine wpOp_value h2 g2 (v:=.pointer (some ⟨w.heap.size,0,none⟩)) (w':=w.alloc (.cells z.cells t)) ?_ ?_
 ·simp [execOp,p2,Instr.alloc,zeroValue,typeInfo,hi,hz,newVar,newRow]
 rw [wpOps_cons,k2]
 have e1:((a.put (some d1) (.agg c)).put (some d2) (.pointer (some ⟨w.heap.size,0,none⟩))).eval (.tmp d1) = .agg c:=by
  rw [eval_put n1,eval_put_same (by rw [hts]; exact l1)]
 have e2:((a.put (some d1) (.agg c)).put (some d2) (.pointer (some ⟨w.heap.size,0,none⟩))).eval (.tmp d2) = .pointer (some ⟨w.heap.size,0,none⟩):=eval_put_same (by rw [size_put,hts]; exact l2)
 rw [hm3] at hrun4
 have hrun3:(execOp ((a.put (some d1) (.agg c)).put (some d2) (.pointer (some ⟨w.heap.size,0,none⟩))).eval o3).run F.P (w.alloc (.cells z.cells t)) = .ok .skip w4:=by
  simp only [execOp,p3,Instr.storeAt,e1,e2,Instr.sureAddr,pure_bind,storeVar,Sem.run_bind,run_size hi,Result.andThen_ok]
  rw [if_neg (by show ¬ c.size ≠ i.size; rw [c3,hlen,hsz]; simp)]
  have hrun4':(storeCells ⟨w.heap.size,0,none⟩ (Value.agg c).cells.toList).run F.P (w.alloc (.cells z.cells t)) = .ok () w4:=hrun4
  simp only [hrun4',Result.andThen_ok,Sem.run_pure]
 have hgo:=h w0 g0 _ _ w4 s4
 simp only [wpOp,h3,Region.wanted,g3,if_true]
 left
 unfold Oper.wp
 rw [hrun3]
 show wpOps F.P ops _ l (Act.put _ o3.dst undef) w4
 rw [k3]
 exact hgo

end

end Go.Sx

namespace Go.Sx
open Go

section
variable {F:Cfg} {σ:AState}

theorem AOne.str {ops:Array Oper} {i:Nat} {s t e:TypeId} {x:Operand} (o:Oper) (ho:ops[i]? = some o) (hop:o.op = .convert s t x) (hg:guardV ops σ o = some true) (d:Nat) (hd:o.dst = some d) (hlt:Nat.blt d F.n = true)
  (h1:(F.T.get s).map TI.und = some (.slice e)) (h2:(F.T.get e).map TI.und = some (.int .u8)) (h3:(F.T.get t).map TI.und = some .string) {n:Nat} {f:Nat → List TV} {b:Bool} (hsl:σ.slOf (σ.ev x) = some (1,n,f,b))
  (xs:List Int) (hn:n = xs.length) (hf:∀ i,i < n → f i = cInt .u8 (xs.getD i default)):AOne F ops i σ (σ.put d (.tv (.str (xs.map fun n=>UInt8.ofNat n.toNat)))):=fun w0 g0 g a w hs K Q h=>by
 simp only [wpOp,ho]
 rw [if_pos (guardV_sound hs hg)]
 left
 have hp:PlainTo n f:=fun i hi=>by rw [hf i hi]; rfl
 have hrun:(convert s t (a.eval x)).run F.P w = .ok (.string (strOfNums xs)) w:=by
  rcases slOf_rel hs hsl hp with ⟨⟨A,c,hv⟩,h0⟩ | ⟨b',off,cap,cs,hv,hz,hc⟩
  ·subst h0
   obtain rfl:xs = []:=List.eq_nil_of_length_eq_zero hn.symm
   rw [hv]
   cases A with
   | none=>exact run_convert_bytes_nil w s e (F.ok.und h1) (F.ok.und h2) 0 c t (F.ok.und h3)
   | some A =>
    have hl:(loadCells A 0).run F.P w = .ok (([]:List Int).map (Value.int .u8)).toArray w:=run_loadCells_list (P:=F.P) w A [] fun j v hj=>by simp at hj
    rw [run_convert_bytes_string w s t e _ 0 c (F.ok.und h1) (F.ok.und h2) (F.ok.und h3),run_bytesToString w A 0 c [] hl]
    rfl
  ·rw [hv]
   refine run_convert_bytes_arg w s e (F.ok.und h1) (F.ok.und h2) b' off n cap xs hn.symm (fun i hi=>?_) t (F.ok.und h3)
   have hy:(f i)[0]? = some (.int .u8 (xs.getD i default)):=by rw [hf i hi]; rfl
   obtain ⟨this,hrel⟩:=hc i 0 _ hi hy
   rw [Nat.mul_one,Nat.add_zero] at this
   rw [this,rel_int (g:=g) (p:=(.slot 0 0,[])) (.fr hrel)]
   rfl
 have hrun':(execOp a.eval o).run F.P w = .ok (.value (.string (strOfNums xs))) w:=by
  simp only [execOp,hop]
  rw [Sem.run_bind,hrun]
  rfl
 unfold Oper.wp
 rw [hrun',Oper.upon_value,hd]
 exact h _ _ w (hs.put (Nat.le_of_ble_eq_true hlt) (sv:=.tv (.str _)) rfl rfl (k:=0) (.fr (.str _)))

end
end Go.Sx

namespace Go.Sx
open Go

section
variable {F:Cfg} {K:AState → Prop} {σ:AState} {ops:Array Oper}

end
end Go.Sx

namespace Go.Sx
open Go

theorem run_bytesOf {P:Program} (w:World) (b:Nat):∀ (xs:List Int) (off:Nat) (acc:ByteArray),(∀ i,i < xs.length → w.cell? ⟨b,off + i,none⟩ = some (.int .u8 (xs.getD i default))) →
  (Extern.Bytes.loadBytes ⟨b,off,none⟩ xs.length acc).run P w = .ok ⟨acc.data ++ (xs.map fun n=>UInt8.ofNat n.toNat).toArray⟩ w
 | [],off,acc,_=>by simp [Extern.Bytes.loadBytes]
 | x :: r,off,acc,h=>by
  have h0:=h 0 (by simp)
  rw [Nat.add_zero] at h0
  simp only [List.length_cons,Extern.Bytes.loadBytes]
  rw [Sem.run_bind,run_load,h0]
  simp only [Result.andThen_ok,List.getD_cons_zero,add_mk]
  rw [run_bytesOf w b r (off + 1) _ fun i hi=>by
   have:=h (i + 1) (by simp; omega)
   rw [List.getD_cons_succ] at this
   rw [← this,Nat.add_assoc,Nat.add_comm 1 i]]
  simp

theorem run_indexByte {P:Program} {w w':World} {v:Value} {bs:ByteArray} (c:Int) (h:(Extern.Bytes.bytesOf v).run P w = .ok bs w') :
  (Extern.BytealgIndexByte.indexByte #[v,.int .u8 c]).run P w = .ok (.int .i64 (firstIdx bs c.toNat.toUInt8)) w':=by
 change Sem.run P (do
  let b ← Extern.Bytes.bytesOf v
  let c' ← Extern.Bytes.asByte (.int .u8 c)
  match (List.range b.size).find? fun i=>b[i]! == c' with
  | some i=>pure (goInt i)
  | none=>pure (goInt (-1))) w = _
 rw [Sem.run_bind,h]
 simp only [Extern.Bytes.asByte,firstIdx,Sem.run_bind,Sem.run_pure,Result.andThen]
 cases (List.range bs.size).find? fun i=>bs[i]! == c.toNat.toUInt8 <;> rfl

/-- The place of the first byte c, or -1. -/
def idxB (xs:List Int) (c:Int):Int:=firstIdx ⟨(xs.map fun n=>UInt8.ofNat n.toNat).toArray⟩ c.toNat.toUInt8

section
variable {F:Cfg} {σ:AState}

theorem AOne.indexByte {ops:Array Oper} {i:Nat} {y z:Operand} {ts:Array TypeId} {x:Operand} (o:Oper) (ho:ops[i]? = some o) (hop:o.op = .call { callee:=.value x,args:=#[y,z],argTypes:=ts }) (hg:guardV ops σ o = some true) (d:Nat) (hd:o.dst = some d) (hlt:Nat.blt d F.n = true)
  {f : FuncId} (hx : σ.ev x = .fn f []) {fn : Func} (hf : F.P.funcs[f]? = some fn) (hname : (fn.name == "runtime.NumGoroutine") = false) (hb : fn.body.isNone = true) (hnx : Extern.findNext fn = none) (he : Extern.find fn = some Extern.BytealgIndexByte.indexByte)
  {n:Nat} {g0:Nat → List TV} {b:Bool} (hsl:σ.slOf (σ.ev y) = some (1,n,g0,b)) {k:Int} (hz:σ.ev z = .tv (.int .u8 k)) (xs:List Int) (hn:n = xs.length) (hcs:∀ i,i < n → g0 i = cInt .u8 (xs.getD i default)):AOne F ops i σ (σ.put d (.tv (.int .i64 (idxB xs k)))):=fun w0 g1 g a w hs K Q h=>by
 simp only [wpOp,ho]
 rw [if_pos (guardV_sound hs hg)]
 left
 have hp:PlainTo n g0:=fun i hi=>by rw [hcs i hi]; rfl
 have hbytes:(Extern.Bytes.bytesOf (a.eval y)).run F.P w = .ok ⟨(xs.map fun n=>UInt8.ofNat n.toNat).toArray⟩ w:=by
  rcases slOf_rel hs hsl hp with ⟨⟨A,c,hv⟩,h0⟩ | ⟨b',off,cap,cs,hv,hz',hc⟩
  ·subst h0
   obtain rfl:xs = []:=List.eq_nil_of_length_eq_zero hn.symm
   rw [hv]
   cases A with
   | none=>rfl
   | some A=>rfl
  ·rw [hv]
   subst hn
   have:=run_bytesOf (P:=F.P) w b' xs off .empty fun i hi=>by
    have hy:(g0 i)[0]? = some (.int .u8 (xs.getD i default)):=by rw [hcs i hi]; rfl
    obtain ⟨this,hrel⟩:=hc i 0 _ hi hy
    rw [Nat.mul_one,Nat.add_zero] at this
    rw [this,rel_int (g:=g) (p:=(.slot 0 0,[])) (.fr hrel)]
   simp only [Extern.Bytes.bytesOf]
   rw [this]
   simp
 obtain ⟨k1,hk1⟩:=ev_rel hs x
 rw [hx] at hk1
 obtain ⟨cs1,hfv,hsz,_⟩:=hk1
 obtain rfl:cs1 = #[]:=Array.eq_empty_of_size_eq_zero (by simpa using hsz)
 have hrun:(execOp a.eval o).run F.P w = .ok (.value (.int .i64 (idxB xs k))) w:=by
  unfold execOp
  simp only [hop,resolve,hfv,Deferred.ofValue]
  simp only [Array.empty_append,pure_bind,invoke,Array.append_empty]
  have e:(#[y,z].map a.eval) = #[a.eval y,.int .u8 k]:=by rw [← ev_int hs hz]; simp
  rw [e]
  have hc:=run_callFunc_extern hf hname hb hnx he #[a.eval y,.int .u8 k] w
  rw [run_indexByte k hbytes] at hc
  exact hc
 unfold Oper.wp
 rw [hrun,Oper.upon_value,hd]
 exact h _ _ w (hs.put (Nat.le_of_ble_eq_true hlt) (sv:=.tv (.int .i64 _)) rfl rfl (k:=0) (.fr (.int _ _)))

theorem freeze_at {w:World} {b n:Nat} {c:Array Value} {e:TypeId} {fr:Nat × Nat} (h:w.heap[b]? = some (.cells c e fr)) (hf:FrOk fr n) :
  ∃ fr',(w.freeze ⟨b,n,none⟩ 1).heap[b]? = some (.cells c e fr') ∧ FrOk fr' n ∧ ∀ b',b' ≠ b → (w.freeze ⟨b,n,none⟩ 1).heap[b']? = w.heap[b']?:=by
 obtain ⟨lo,hi⟩:=fr
 refine ⟨if lo == hi then (n,n + 1) else (min lo n,max hi (n + 1)),?_,?_,fun b' hb=>?_⟩
 ·simp only [World.freeze,Nat.one_ne_zero,if_false,Array.getElem?_modify,if_true,h,Option.map_some]
 ·split
  ·exact .inr (Nat.le_refl _)
  ·rename_i hne
   rcases hf with h1 | h1
   ·simp only at h1; exact absurd (by simp [h1]) hne
   ·right; simp only at h1 ⊢; omega
 ·simp only [World.freeze,Nat.one_ne_zero,if_false,Array.getElem?_modify]
  rw [if_neg (Ne.symm hb)]

theorem litConv_sound {X:Ctx} {g:Gh} {a:Act} {w:World} {T:Tab} (hT:TabOk X.P T) (hs:Sat X g σ a w) {t e':TypeId} {s d:Nat} (hd:d < X.n) (hne:s ≠ d) {z:Nat} {e:TypeId} {n:Nat} {f:Nat → List TV} (hx:σ.get s = .tv (.own z e n f)) (hp:PlainTo n f) (hn:0 < n)
  (hu:(T.get t).map TI.und = some (.slice e')) (hu2:(T.get e').map TI.und = some (.int .u8)) {o:Oper} (ho:o.op = .convert t t (.tmp s)) (hdst:o.dst = some d) :
  Comes2 X ((σ.kill (.slot s 0)).put d (.tv (.own z e n f))) a w o:=by
 have hk:=hs.env s
 rw [hx] at hk
 rcases own_inv (show TRel g w (.slot s 0,[]) (a.tmps.getD s undef) (.own z e n f) from hk) with ⟨_,h0⟩ | ⟨b,cap,c,cs,h1,hv,⟨fr,h3,h3'⟩,h4,h5,h6,h7,h8,h9⟩
 ·omega
 obtain ⟨fr',k1,k2,k3⟩:=freeze_at (w:=w) (b:=b) (n:=c.size) h3 h3'
 have hgoes:Goes w (w.freeze ⟨b,c.size,none⟩ 1) b:=⟨fun b' _ hb=>k3 b' hb,by simp [World.freeze],rfl,rfl,rfl⟩
 have hkill:=hs.kill (r:=.slot s 0) (by simp)
 have hlt:=(hs.lt b _ h1)
 have hP:¬ g.P b:=fun hp=>by rw [(hs.frozen b hp).1] at h1; cases h1
 have hnone:(g.clr (rootR (.slot s 0))).ow b = none:=by
  cases hg:(g.clr (rootR (.slot s 0))).ow b with
  | none=>rfl
  | some p =>
   obtain ⟨e1,e2⟩:=clr_some.1 hg
   rw [h1] at e1
   cases e1
   simp [rootR,under] at e2
 have hfin:=hkill.putOwn hd hgoes hnone hP hlt.2 (by simp [World.freeze]; exact hlt.1) (z:=z) (n:=n) (cap:=cap) (e:=e) (f:=f) (c:=c) (cs:=cs) ⟨fr',k1,k2⟩ h4 h5 h6 h7 h8 (fun i j y hi hy=>(h9 i j y hi hy).plain (by
  have:=hp i hi
  rw [List.all_eq_true] at this
  exact this y (List.mem_of_getElem? hy)))
 have he:a.eval (.tmp s) = a.tmps.getD s undef:=rfl
 refine ⟨_,_,_,?_,.inl ⟨_,rfl,by rw [hdst]; exact hfin⟩⟩
 have hshape:w.shape? b = some (e,c.size):=by simp only [World.shape?,h3]
 simp only [execOp,ho,he,hv,convert,Sem.run_bind,run_underlying (hT.und hu),run_underlying (hT.und hu2),Result.andThen_ok,beq_self_eq_true]
 simp [markStringish,shape,Sem.run,hshape,freeze]

theorem AOne.litConv {ops:Array Oper} {i:Nat} (o:Oper) (ho:ops[i]? = some o) (hg:guardV ops σ o = some true) (d:Nat) (hdst:o.dst = some d) (hlt:Nat.blt d F.n = true) {t e':TypeId} {s:Nat} (hop:o.op = .convert t t (.tmp s)) (hne:Nat.beq s d = false) {z:Nat} {e:TypeId} {n:Nat} {f:Nat → List TV} (hx:σ.get s = .tv (.own z e n f)) (hp:PlainTo n f) (hn:0 < n)
  (hu:(F.T.get t).map TI.und = some (.slice e')) (hu2:(F.T.get e').map TI.und = some (.int .u8)):AOne F ops i σ ((σ.kill (.slot s 0)).put d (.tv (.own z e n f))) :=
 AOne.comes o ho hg fun w0 g0 g a w hs=>litConv_sound (X:=F.ctx w0 g0) F.ok hs (Nat.le_of_ble_eq_true hlt) (by rintro rfl; simp at hne) hx hp hn hu hu2 hop hdst
end
end Go.Sx

namespace Go.Sx
open Go

def LeafOk (P:Program) (t:TypeId):TV → Prop
 | .int _ _=>∃ k,P.underlying t = some (.int k)
 | .bool _=>P.underlying t = some .bool
 | .str _=>P.underlying t = some .string
 | _=>False

def FlatOk (P:Program):List Field → Nat → List TV → Prop
 | [],_,[]=>True
 | f :: fs, i, z :: zs => f.name ≠ "_" ∧ f.offset = i ∧ LeafOk P f.type z ∧ FlatOk P fs (i + 1) zs
 | _,_,_=>False

end Go.Sx

namespace Go.Sx
open Go

/-- Where x tells something, y tells the same. -/
def Le {A:Type} (x y:Option A):Prop:=∀ r,x = some r → y = some r

theorem Le.refl {A:Type} (x:Option A):Le x x:=fun _ h=>h

theorem Le.bind {A B:Type} {x y:Option A} {f g:A → Option B} (h:Le x y) (hf:∀ a,Le (f a) (g a)):Le (x.bind f) (y.bind g):=fun r hr=>by
 obtain ⟨a,ha,hb⟩:=Option.bind_eq_some_iff.1 hr
 exact Option.bind_eq_some_iff.2 ⟨a,h a ha,hf a r hb⟩

theorem Le.cond {A:Type} {b:Bool} {x y x' y':Option A} (h:Le x x') (h':Le y y'):Le (cond b x y) (cond b x' y'):=by
 cases b
 ·exact h'
 ·exact h

theorem Le.ite {A:Type} {p:Prop} [Decidable p] {x x':Option A} (h:Le x x'):Le (if p then x else none) (if p then x' else none):=by
 by_cases hp:p
 ·simp only [if_pos hp]; exact h
 ·simp only [if_neg hp]; exact Le.refl _

theorem rounds_mono {S X:Type} {b b':S → Option (S ⊕ X)} (h:∀ s,Le (b s) (b' s)):∀ (n:Nat) (s:S) (x:X),rounds b n s = some x → rounds b' n s = some x
 | 0,_,_,hx=>by cases hx
 | n + 1,s,x,hx=>by
  simp only [rounds] at hx ⊢
  cases hb:b s with
  | none=>rw [hb] at hx; cases hx
  | some o =>
   rw [hb] at hx
   rw [h s o hb]
   cases o with
   | inl s'=>exact rounds_mono h n s' x hx
   | inr y=>exact hx

/-- So many rounds. -/
abbrev itN {S X:Type} (n:Nat) (b:S → Option (S ⊕ X)) (s:S):Option X:=rounds b n s

theorem Le.iter {S X:Type} {b b':S → Option (S ⊕ X)} {n:Nat} {s:S} (h:∀ s,Le (b s) (b' s)):Le (rounds b n s) (iter b' s):=fun x hx=>iter_some.2 ⟨n,rounds_mono h n s x hx⟩

end Go.Sx

namespace Go.Sx
open Go Go.RowKit

/-- Cells one behind the other. -/
def CR (w:World) (cs:List Value) (ys:List TV):Prop :=
 ∀ (j:Nat) y,ys[j]? = some y → ∃ u,cs[j]? = some u ∧ FRel (fun b=>b < w.heap.size) w u y

structure Rd (P:Program) (t:TypeId) {A:Type} (z:Nat) (enc:A → List TV) (G:A → Prop):Prop where
 len:∀ a,(enc a).length = z
 cells:P.cellsOf t = z
 rd:∀ {H:Type} (eH:TypeId × Value → H) (w:World) (base:Nat) (spare:Nat → Bool) (held:Bool) (fuel:Nat) (cs:List Value) (x:DataW H × List MemPlace),DataW.trod eH P w base spare held fuel t cs = some x → ∃ a,G a ∧ cs.length = z ∧ CR w cs (enc a)

theorem CR.one {w:World} {v:Value} {y:TV} (h:FRel (fun b=>b < w.heap.size) w v y):CR w [v] [y]:=fun j y' hy=>by
 cases j with
 | zero=>simp only [List.getElem?_cons_zero,Option.some.injEq] at hy; subst hy; exact ⟨v,rfl,h⟩
 | succ j=>simp at hy

theorem Rd.int {P:Program} {t:TypeId} (k:IntKind) (hu:P.underlying t = some (.int k)) (hc:P.cellsOf t = 1):Rd P t 1 (cInt k) (fun n=>(Lit.int k n).wf = true) :=
 ⟨fun _=>rfl,hc,fun eH w base spare held fuel cs x h=>by
  obtain ⟨n,rfl,_,hw⟩:=DataW.trod_int hu h
  exact ⟨n,hw,rfl,CR.one (.int k n)⟩⟩

theorem Rd.bool {P:Program} {t:TypeId} (hu:P.underlying t = some .bool) (hc:P.cellsOf t = 1):Rd P t 1 cBool (fun _=>True) :=
 ⟨fun _=>rfl,hc,fun eH w base spare held fuel cs x h=>by
  obtain ⟨b,rfl,_⟩:=DataW.trod_bool hu h
  exact ⟨b,trivial,rfl,CR.one (.bool b)⟩⟩

theorem Rd.str {P:Program} {t:TypeId} (hu:P.underlying t = some .string) (hc:P.cellsOf t = 1):Rd P t 1 cStr (fun s=>s.length ≤ maxLen) :=
 ⟨fun _=>rfl,hc,fun eH w base spare held fuel cs x h=>by
  obtain ⟨s,rfl,_,hs⟩:=DataW.trod_string hu h
  refine ⟨s.data.toList,hs,rfl,CR.one ?_⟩
  have:=FRel.str (P:=fun b=>b < w.heap.size) (w:=w) s.data.toList
  rwa [Array.toArray_toList] at this⟩

theorem choose_list {A:Type} [Inhabited A] {p:Nat → A → Prop}:∀ (n:Nat),(∀ i,i < n → ∃ a,p i a) → ∃ l:List A,l.length = n ∧ ∀ i,i < n → p i (l.getD i default)
 | 0,_=>⟨[],rfl,fun i h=>by omega⟩
 | n + 1,h=>by
  obtain ⟨l,hl,hp⟩:=choose_list n fun i hi=>h i (by omega)
  obtain ⟨a,ha⟩:=h n (by omega)
  refine ⟨l ++ [a],by simp [hl],fun i hi=>?_⟩
  by_cases hin:i < n
  ·simp only [List.getD_eq_getElem?_getD,List.getElem?_append_left (show i < l.length by omega)]
   simpa [List.getD_eq_getElem?_getD] using hp i hin
  ·obtain rfl:i = n:=by omega
   simp only [List.getD_eq_getElem?_getD,List.getElem?_append_right (show l.length ≤ i by omega),hl,Nat.sub_self,List.getElem?_cons_zero,Option.getD_some]
   exact ha

theorem cell_spot {w:World} {a:Addr} {v:Value} (h:w.cell? a = some v):a = ⟨a.block,a.off,none⟩ ∧ a.block < w.heap.size:=by
 refine ⟨?_,World.block_lt_of_cell? w _ h⟩
 unfold World.cell? at h
 split at h
 ·cases hs:a.spot with
  | none=>cases a; simp_all
  | some q=>simp [hs] at h
 ·cases h

theorem Rd.slice {P:Program} {t e:TypeId} {A:Type} [Inhabited A] {z:Nat} {enc:A → List TV} {G:A → Prop} (hu:P.underlying t = some (.slice e)) (hc:P.cellsOf t = 1) (hz:0 < z) (he:Rd P e z enc G) :
  Rd P t 1 (cSl z enc) (fun l=>l.length ≤ maxLen ∧ ∀ x ∈ l,G x) :=
 ⟨fun _=>rfl,hc,fun eH w base spare held fuel cs x h=>by
  rcases DataW.trod_slice hu h with ⟨rfl,_⟩ | ⟨a,len,cap,elems,rest,n,_,rfl,rfl,hb,hl,hm,hlen,hel,_⟩
  ·exact ⟨[],⟨Nat.zero_le _,fun x hx=>by simp at hx⟩,rfl,CR.one (.nil none 0 z _)⟩
  ·have key:∀ i,i < len → ∃ y:A,G y ∧ ∃ cs',w.cells? base (a.add (i * z)) z = some cs' ∧ cs'.length = z ∧ CR w cs' (enc y):=by
    intro i hi
    have h1:=hel i hi
    rw [he.cells] at h1
    have h2:elems[i]? = some (elems[i]'(by omega)):=List.getElem?_eq_getElem (by omega)
    rw [h2] at h1
    obtain ⟨cs',h3,h4⟩:=Option.bind_eq_some_iff.1 h1
    obtain ⟨y,hy,hyl,hyr⟩:=he.rd eH w base spare held n cs' _ h4
    exact ⟨y,hy,cs',h3,hyl,hyr⟩
   obtain ⟨l,hll,hp⟩:=choose_list len key
   refine ⟨l,⟨by omega,fun x hx=>?_⟩,rfl,CR.one ?_⟩
   ·obtain ⟨i,hi⟩:=List.getElem?_of_mem hx
    have hlt:i < l.length:=(List.getElem?_eq_some_iff.1 hi).1
    have:=(hp i (by omega)).1
    rwa [List.getD_eq_getElem?_getD,hi] at this
   ·by_cases h0:len = 0
    ·subst h0
     obtain rfl:=List.eq_nil_of_length_eq_zero hll
     exact .nil (some a) cap z _
    ·obtain ⟨_,cs0,hc0,_,_⟩:=hp 0 (by omega)
     obtain ⟨_,hl0,hcell⟩:=World.cells?_some hc0
     have h00:=hcell 0 hz
     have hlt0:0 < cs0.length:=by omega
     rw [List.getElem?_eq_getElem hlt0,Nat.zero_mul] at h00
     have hadd:(a.add 0).add 0 = a:=by simp [Addr.add]
     rw [hadd] at h00
     obtain ⟨hsp,hblk⟩:=cell_spot h00
     rw [hsp]
     subst hll
     have hat:∀ i,i < l.length → ∃ cs':List Value,w.cells? base (a.add (i * z)) z = some cs' ∧ cs'.length = z ∧ CR w cs' (enc (l.getD i default)):=fun i hi=>(hp i hi).2
     refine .row a.block a.off cap z l.length _ (fun i j=>(w.cell? ⟨a.block,a.off + i * z + j,none⟩).getD undef) hblk hl hm (fun i _=>he.len _) (fun i j y hi hy=>?_) fun i j y hi hy=>?_
     all_goals
      obtain ⟨cs',h1,h2,h3⟩:=hat i hi
      obtain ⟨_,_,hcl⟩:=World.cells?_some h1
      obtain ⟨u,hu',hr⟩:=h3 j y hy
      have hj:j < z:=by have:=(List.getElem?_eq_some_iff.1 hu').1; omega
      have h4:=hcl j hj
      rw [hu',hsp,add_mk,add_mk] at h4
      rw [h4]
     ·rfl
     ·exact hr⟩

/-- Fields one behind the other. -/
def RdFs (P:Program) (fs:List Field) (o:Nat) {A:Type} (enc:A → List TV) (G:A → Prop):Prop :=
 ∀ {H:Type} (eH:TypeId × Value → H) (w:World) (base:Nat) (spare:Nat → Bool) (held:Bool) (fuel:Nat) (cs:List Value) (xs:List (DataW H × List MemPlace)),
  fs.mapM (fun f=>DataW.trod eH P w base spare held fuel f.type ((cs.drop f.offset).take (P.cellsOf f.type))) = some xs → ∃ a,G a ∧ CR w (cs.drop o) (enc a)

theorem RdFs.nil {P:Program} {o:Nat}:RdFs P [] o (A:=Unit) (fun _=>[]) (fun _=>True):=fun _ _ _ _ _ _ _ _ _=>⟨(),trivial,fun j y hy=>by simp at hy⟩

theorem RdFs.cons {P:Program} {f:Field} {fs:List Field} {o z:Nat} {A B:Type} {enc:A → List TV} {enc':B → List TV} {G:A → Prop} {G':B → Prop} (hf:f.offset = o) (h:Rd P f.type z enc G) (hs:RdFs P fs (o + z) enc' G') :
  RdFs P (f :: fs) o (fun p:A × B=>enc p.1 ++ enc' p.2) (fun p=>G p.1 ∧ G' p.2):=fun eH w base spare held fuel cs xs hm=>by
 rw [List.mapM_cons] at hm
 cases hx:DataW.trod eH P w base spare held fuel f.type ((cs.drop f.offset).take (P.cellsOf f.type)) with
 | none=>rw [hx] at hm; cases hm
 | some x =>
  cases hr:fs.mapM (fun f=>DataW.trod eH P w base spare held fuel f.type ((cs.drop f.offset).take (P.cellsOf f.type))) with
  | none=>rw [hx,hr] at hm; cases hm
  | some xs' =>
   obtain ⟨a,ga,_,ra⟩:=h.rd eH w base spare held fuel _ x hx
   obtain ⟨b,gb,rb⟩:=hs eH w base spare held fuel cs xs' hr
   refine ⟨(a,b),⟨ga,gb⟩,fun j y hy=>?_⟩
   by_cases hj:j < z
   ·rw [List.getElem?_append_left (by rw [h.len]; exact hj)] at hy
    obtain ⟨u,hu,hr⟩:=ra j y hy
    rw [List.getElem?_take] at hu
    split at hu
    ·exact ⟨u,by rw [← hf]; exact hu,hr⟩
    ·cases hu
   ·rw [List.getElem?_append_right (by rw [h.len]; omega),h.len] at hy
    obtain ⟨u,hu,hr⟩:=rb _ y hy
    rw [List.getElem?_drop] at hu ⊢
    exact ⟨u,by rw [show o + j = o + z + (j - z) by omega]; exact hu,hr⟩

theorem Rd.struct {P:Program} {t:TypeId} {fs:Array Field} {z:Nat} {A B:Type} {enc:A → List TV} {G:A → Prop} {encB:B → List TV} {GB:B → Prop} (hu:P.underlying t = some (.struct fs)) (hc:P.cellsOf t = z) (hlen:∀ b,(encB b).length = z) (hs:RdFs P fs.toList 0 enc G) (f:A → B) (he:∀ a,encB (f a) = enc a) (hG:∀ a,G a → GB (f a)) :
  Rd P t z encB GB :=
 ⟨hlen,hc,fun eH w base spare held fuel cs x h=>by
  cases fuel with
  | zero=>simp [DataW.trod] at h
  | succ n =>
   unfold DataW.trod at h
   rw [hu] at h
   have h':(if cs.length = P.cellsOf t then (fs.toList.mapM fun f=>DataW.trod eH P w base spare held n f.type ((cs.drop f.offset).take (P.cellsOf f.type))).map fun xs=>(DataW.agg (xs.map (·.1)),xs.flatMap (·.2)) else none) = some x:=by
    split at h <;> first | exact h | (simp_all; done)
   split at h'
   ·rename_i hl
    obtain ⟨xs,hxs,_⟩:=Option.map_eq_some_iff.1 h'
    obtain ⟨a,ga,ra⟩:=hs eH w base spare held n cs xs hxs
    exact ⟨f a,hG a ga,by rw [hl,hc],by rw [he]; simpa using ra⟩
   ·cases h'⟩

/-! ### What a law's contract gives -/

/-- What an argument reads as, whatever stands beside it. -/
def ArgOk (w:World) (v:Value) (s:SV):Prop:=∀ σ k,SR (Gh.still w) w σ k v s

inductive ArgsOk (w:World):List Value → List SV → Prop
 | nil:ArgsOk w [] []
 | cons {v s vs ss}:ArgOk w v s → ArgsOk w vs ss → ArgsOk w (v :: vs) (s :: ss)

theorem ArgsOk.at {w:World}:∀ {vs:List Value} {ss:List SV},ArgsOk w vs ss → vs.length = ss.length ∧ ∀ (k:Nat) s,ss[k]? = some s → ∃ v,vs[k]? = some v ∧ ArgOk w v s
 | _,_,.nil=>⟨rfl,fun k s h=>by simp at h⟩
 | _,_,.cons h1 h2=>by
  obtain ⟨e,ha⟩:=h2.at
  refine ⟨by simp [e],fun k s hk=>?_⟩
  cases k with
  | zero=>simp only [List.getElem?_cons_zero,Option.some.injEq] at hk; subst hk; exact ⟨_,rfl,h1⟩
  | succ k=>simp only [List.getElem?_cons_succ] at hk ⊢; exact ha k s hk

theorem ACall.law {P:Program} {f:FuncId} {ss:List SV} {W:World} {vs:Array Value} (h:ACall P f ss [] (.tv (.bool true)) []) (ha:ArgsOk W vs.toList ss) :
  Calls P f vs W fun e W'=>e = .returned (.bool true) ∧ Below W.heap.size W W':=by
 obtain ⟨hl,hat⟩:=ha.at
 have he:Ent (Gh.still W) W vs ss []:=by
  refine ⟨by simpa using hl,fun k sv hk=>?_,fun o t cs ho=>(by simp at ho),fun b b' p hb _=>(by cases hb),fun b hb=>⟨rfl,hb⟩,fun b p hb=>(by cases hb),fun b p hb=>(by cases hb)⟩
  obtain ⟨v,hv,hr⟩:=hat k sv hk
  have:vs.getD k undef = v:=by rw [Array.getD_eq_getD_getElem?,← Array.getElem?_toList,hv]; rfl
  rw [this]
  exact hr _ _
 refine (h _ W vs he).mono ?_
 rintro e W' ⟨v,g',rfl,hE⟩
 have hv:v = .bool true:=rel_bool (show TRel g' W' (.slot 0 0,[]) v (.bool true) from hE.res)
 exact ⟨by rw [hv],hE.os,hE.tape,hE.output,hE.mono,fun k hk=>hE.kept k hk rfl⟩

theorem ArgOk.one {w:World} {v:Value} {y:TV} (h:FRel (fun b=>b < w.heap.size) w v y):ArgOk w v (.tv y):=fun _ _=>.fr h

theorem ArgOk.agg {w:World} {cs:Array Value} {ys:List TV} (hl:cs.size = ys.length) (h:CR w cs.toList ys):ArgOk w (.agg cs) (.agg ys):=fun _ _ =>
 ⟨cs,rfl,hl,fun i y hy=>by
  obtain ⟨u,hu,hr⟩:=h i y hy
  exact ⟨u,by rw [← Array.getElem?_toList]; exact hu,.fr hr⟩⟩

theorem CR.get {w:World} {v:Value} {y:TV} (h:CR w [v] [y]):FRel (fun b=>b < w.heap.size) w v y:=by
 obtain ⟨u,hu,hr⟩:=h 0 y rfl
 cases hu
 exact hr

end Go.Sx

namespace Go.Sx
open Go

theorem w64_id {n:Int} (h0:-9223372036854775808 ≤ n) (h1:n ≤ 9223372036854775807):w64 n = n:=by
 simp only [w64,IntKind.wrap,IntKind.min,IntKind.max,IntKind.signed,IntKind.bits]
 simp
 omega

theorem maxLen_le:maxLen ≤ 9223372036854775807:=by decide

theorem w64_succ {i n:Nat} (h:i < n) (hn:n ≤ maxLen):w64 ((i:Int) + 1) = ((i + 1:Nat):Int):=by
 have:=maxLen_le
 rw [w64_id (by omega) (by omega)]; omega

theorem iter_inl {S X:Type} {body:S → Option (S ⊕ X)} {s s':S} (h:body s = some (.inl s')):iter body s = iter body s':=by rw [iter_eq,h]
theorem iter_inr {S X:Type} {body:S → Option (S ⊕ X)} {s:S} {x:X} (h:body s = some (.inr x)):iter body s = some x:=by rw [iter_eq,h]

/-- Over a list, by its index: F tells what is come to from the rest of the list on. -/
theorem iter_list {A X:Type} [Inhabited A] (l:List A) (hl:l.length ≤ maxLen) (body:Int → Option (Int ⊕ X)) (F:List A → Nat → X)
  (hs:∀ (i:Nat) (x:A) (r:List A),i < l.length → l.getD i default = x → l.drop i = x :: r → (body i = some (.inr (F (x :: r) i))) ∨ (body i = some (.inl (w64 ((i:Int) + 1))) ∧ F (x :: r) i = F r (i + 1)))
  (he:body (l.length:Int) = some (.inr (F [] l.length))):iter body 0 = some (F l 0):=by
 have key:∀ n i,i + n = l.length → iter body (i:Int) = some (F (l.drop i) i):=by
  intro n
  induction n with
  | zero =>
   intro i hi
   obtain rfl:i = l.length:=by omega
   rw [iter_inr he,List.drop_length]
  | succ n ih =>
   intro i hi
   have hlt:i < l.length:=by omega
   have hd:l.drop i = l[i] :: l.drop (i + 1):=List.drop_eq_getElem_cons hlt
   rcases hs i l[i] (l.drop (i + 1)) hlt (by simp [List.getD_eq_getElem?_getD,hlt]) hd with hb | ⟨hb,hF⟩
   ·rw [iter_inr hb,hd]
   ·rw [iter_inl hb,w64_succ hlt hl,hd,hF]
    exact ih (i + 1) (by omega)
 have:=key l.length 0 (by omega)
 simpa using this

/-- The same, with what holds of the state ahead of each round. -/
theorem iter_listI {A B X:Type} [Inhabited A] (l:List A) (hl:l.length ≤ maxLen) (body:B × Int → Option ((B × Int) ⊕ X)) (F:List A → Nat → B → X) (I:Nat → B → Prop)
  (hs:∀ (i:Nat) (x:A) (r:List A) (b:B),I i b → i < l.length → l.getD i default = x → l.drop i = x :: r → (body (b,(i:Int)) = some (.inr (F (x :: r) i b))) ∨ ∃ b',body (b,(i:Int)) = some (.inl (b',w64 ((i:Int) + 1))) ∧ I (i + 1) b' ∧ F (x :: r) i b = F r (i + 1) b')
  (he:∀ b,I l.length b → body (b,(l.length:Int)) = some (.inr (F [] l.length b))) (b0:B) (h0:I 0 b0):iter body (b0,0) = some (F l 0 b0):=by
 have key:∀ n i b,i + n = l.length → I i b → iter body (b,(i:Int)) = some (F (l.drop i) i b):=by
  intro n
  induction n with
  | zero =>
   intro i b hi hI
   obtain rfl:i = l.length:=by omega
   rw [iter_inr (he b hI),List.drop_length]
  | succ n ih =>
   intro i b hi hI
   have hlt:i < l.length:=by omega
   have hd:l.drop i = l[i] :: l.drop (i + 1):=List.drop_eq_getElem_cons hlt
   rcases hs i l[i] (l.drop (i + 1)) b hI hlt (by simp [List.getD_eq_getElem?_getD,hlt]) hd with hb | ⟨b',hb,hI',hF⟩
   ·rw [iter_inr hb,hd]
   ·rw [iter_inl hb,w64_succ hlt hl,hd,hF]
    exact ih (i + 1) b' (by omega) hI'
 have:=key l.length 0 b0 (by omega) h0
 simpa using this

theorem cond_or {b c:Bool}:cond b (some true) (some c) = some (b || c):=by cases b <;> rfl
end Go.Sx
