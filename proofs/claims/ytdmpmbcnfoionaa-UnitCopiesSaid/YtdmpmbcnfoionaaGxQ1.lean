/- UnitCopies, the plain law, joined; no condition. -/
import Derived.Test.YtdmpmbcnfoionaaGxQ0
namespace Go.Sx.unit
open Go Go.Sx

theorem acts_ok {l:List T46} (hl:∀ y ∈ l,G46 y) (g:∀ x ∈ l,x.f3.length ≤ 21000):∀ x ∈ l,Ac x:=fun x hx=>by
 have h:=hl x hx
 refine ⟨by_wf h.2.2.2.1.2,g x hx,?_⟩
 have:=h.2.1
 simp only [Lit.wf,Bool.and_eq_true,decide_eq_true_eq] at this
 exact this.2

theorem copies_one {l:List T46} (hl:l.length ≤ 60) (hac:∀ x ∈ l,Ac x) (m:Mo) (hm:m.Ok) :
  ∃ m':Mo,m'.Ok ∧ iter (fun s:S13=>f7_b4 l s.1 s.2.1 s.2.2.1 s.2.2.2.1 s.2.2.2.2.1 s.2.2.2.2.2.1 s.2.2.2.2.2.2.1 s.2.2.2.2.2.2.2.1 s.2.2.2.2.2.2.2.2.1 s.2.2.2.2.2.2.2.2.2.1 s.2.2.2.2.2.2.2.2.2.2.1 s.2.2.2.2.2.2.2.2.2.2.2.1 s.2.2.2.2.2.2.2.2.2.2.2.2) (both 0 m.u m.r) = some (Out.go (both 0 m'.u m'.r).2):=by
 have loop:=iter_inv (fun s:S13=>f7_b4 l s.1 s.2.1 s.2.2.1 s.2.2.2.1 s.2.2.2.2.1 s.2.2.2.2.2.1 s.2.2.2.2.2.2.1 s.2.2.2.2.2.2.2.1 s.2.2.2.2.2.2.2.2.1 s.2.2.2.2.2.2.2.2.2.1 s.2.2.2.2.2.2.2.2.2.2.1 s.2.2.2.2.2.2.2.2.2.2.2.1 s.2.2.2.2.2.2.2.2.2.2.2.2)
  (fun i s=>∃ m:Mo,m.Ok ∧ s = both i m.u m.r) (fun y=>∃ m':Mo,m'.Ok ∧ y = Out.go (both 0 m'.u m'.r).2) l.length
  (by
   rintro i s hi ⟨m,hm,rfl⟩
   right
   have hd1:decide ((i:Int) < (l.length:Int)) = true:=by simpa using hi
   have gi:(0:Int) ≤ i ∧ (i:Int) < (l.length:Int):=by omega
   have hx:l.getD i default ∈ l:=by
    rw [List.getD_eq_getElem?_getD,List.getElem?_eq_getElem hi]; exact List.getElem_mem hi
   obtain ⟨out,c,m',w1,w2,hm'⟩:=play_one m hm (l.getD i default) (hac _ hx)
   refine ⟨both ((i + 1:Nat):Int) m'.u m'.r,?_,m',hm',rfl⟩
   have ei:w64 ((i:Int) + 1) = ((i + 1:Nat):Int):=by rw [w64_id (by omega) (by omega)]; omega
   have w1':f28o (l.getD i default) (T64.mk m.u.f0 m.u.f1 m.u.f2 m.u.f3 m.u.f4) = some (out,c,m'.u):=w1
   have w2':f29o (l.getD i default) (T78.mk m.r.f0 m.r.f1 m.r.f2 m.r.f3 m.r.f4 m.r.f5 m.r.f6) = some (out,c,m'.r):=w2
   show f7_b4 l (i:Int) m.u.f0 m.u.f1 m.u.f2 m.u.f3 m.u.f4 m.r.f0 m.r.f1 m.r.f2 m.r.f3 m.r.f4 m.r.f5 m.r.f6 = _
   unfold f7_b4
   rw [hd1,cond_true,if_pos gi,Int.toNat_natCast,w1']
   simp only [Option.bind_some]
   rw [if_pos gi,w2']
   simp only [Option.bind_some,ei,both])
  (by
   rintro s ⟨m,hm,rfl⟩
   refine ⟨_,?_,m,hm,rfl⟩
   show f7_b4 l (l.length:Int) m.u.f0 m.u.f1 m.u.f2 m.u.f3 m.u.f4 m.r.f0 m.r.f1 m.r.f2 m.r.f3 m.r.f4 m.r.f5 m.r.f6 = _
   simp only [f7_b4,show decide ((l.length:Int) < (l.length:Int)) = false from by simp,cond_false]
   rfl)
  (both 0 m.u m.r) ⟨m,hm,rfl⟩
 obtain ⟨y,hy,m',hm',rfl⟩:=loop
 exact ⟨m',hm',hy⟩

theorem copies_two {l:List T46} (hl:l.length ≤ 60) (hac:∀ x ∈ l,Ac x) (q:Mo) (hq:q.Ok) (m:Mo) (hm:m.Ok) :
  iter (fun s:S13=>f7_b8 l q.u.f0 q.u.f1 q.u.f2 q.u.f3 q.u.f4 q.r.f0 q.r.f1 q.r.f2 q.r.f3 q.r.f4 q.r.f5 q.r.f6 s.1 s.2.1 s.2.2.1 s.2.2.2.1 s.2.2.2.2.1 s.2.2.2.2.2.1 s.2.2.2.2.2.2.1 s.2.2.2.2.2.2.2.1 s.2.2.2.2.2.2.2.2.1 s.2.2.2.2.2.2.2.2.2.1 s.2.2.2.2.2.2.2.2.2.2.1 s.2.2.2.2.2.2.2.2.2.2.2.1 s.2.2.2.2.2.2.2.2.2.2.2.2) (both 0 m.u m.r) = some (Out.go ()):=by
 have loop:=iter_inv (fun s:S13=>f7_b8 l q.u.f0 q.u.f1 q.u.f2 q.u.f3 q.u.f4 q.r.f0 q.r.f1 q.r.f2 q.r.f3 q.r.f4 q.r.f5 q.r.f6 s.1 s.2.1 s.2.2.1 s.2.2.2.1 s.2.2.2.2.1 s.2.2.2.2.2.1 s.2.2.2.2.2.2.1 s.2.2.2.2.2.2.2.1 s.2.2.2.2.2.2.2.2.1 s.2.2.2.2.2.2.2.2.2.1 s.2.2.2.2.2.2.2.2.2.2.1 s.2.2.2.2.2.2.2.2.2.2.2.1 s.2.2.2.2.2.2.2.2.2.2.2.2)
  (fun i s=>∃ m:Mo,m.Ok ∧ s = both i m.u m.r) (fun y=>y = (Out.go ():Out Bool Unit)) l.length
  (by
   rintro i s hi ⟨m,hm,rfl⟩
   right
   have hd1:decide ((i:Int) < (l.length:Int)) = true:=by simpa using hi
   have gi:(0:Int) ≤ i ∧ (i:Int) < (l.length:Int):=by omega
   have hx:l.getD i default ∈ l:=by
    rw [List.getD_eq_getElem?_getD,List.getElem?_eq_getElem hi]; exact List.getElem_mem hi
   obtain ⟨out,c,m',w1,w2,hm'⟩:=play_one m hm (l.getD i default) (hac _ hx)
   refine ⟨both ((i + 1:Nat):Int) m'.u m'.r,?_,m',hm',rfl⟩
   have ei:w64 ((i:Int) + 1) = ((i + 1:Nat):Int):=by rw [w64_id (by omega) (by omega)]; omega
   have w1':f28o (l.getD i default) (T64.mk m.u.f0 m.u.f1 m.u.f2 m.u.f3 m.u.f4) = some (out,c,m'.u):=w1
   have w2':f29o (l.getD i default) (T78.mk m.r.f0 m.r.f1 m.r.f2 m.r.f3 m.r.f4 m.r.f5 m.r.f6) = some (out,c,m'.r):=w2
   obtain ⟨v,w4,w5⟩:=same_both q m' hq hm'
   have w4':f32 (T64.mk q.u.f0 q.u.f1 q.u.f2 q.u.f3 q.u.f4) m'.u = some v:=w4
   have w5':f33 (T78.mk q.r.f0 q.r.f1 q.r.f2 q.r.f3 q.r.f4 q.r.f5 q.r.f6) m'.r = some v:=w5
   have w6:f27 (T64.mk q.u.f0 q.u.f1 q.u.f2 q.u.f3 q.u.f4) (T78.mk q.r.f0 q.r.f1 q.r.f2 q.r.f3 q.r.f4 q.r.f5 q.r.f6) = some true:=play_same q hq
   have w3:=play_same m' hm'
   show f7_b8 l q.u.f0 q.u.f1 q.u.f2 q.u.f3 q.u.f4 q.r.f0 q.r.f1 q.r.f2 q.r.f3 q.r.f4 q.r.f5 q.r.f6 (i:Int) m.u.f0 m.u.f1 m.u.f2 m.u.f3 m.u.f4 m.r.f0 m.r.f1 m.r.f2 m.r.f3 m.r.f4 m.r.f5 m.r.f6 = _
   have c1:(v == v) = true:=by simp
   unfold f7_b8
   rw [hd1,cond_true,if_pos gi,Int.toNat_natCast,w1']
   simp only [Option.bind_some]
   rw [if_pos gi,w2']
   simp only [Option.bind_some]
   rw [w4',w5',w6]
   simp only [Option.bind_some,c1,Bool.not_true,cond_false]
   rw [w3]
   simp only [Option.bind_some,Bool.not_true,cond_false,ei,both])
  (by
   rintro s ⟨m,hm,rfl⟩
   refine ⟨.go (),?_,rfl⟩
   show f7_b8 l q.u.f0 q.u.f1 q.u.f2 q.u.f3 q.u.f4 q.r.f0 q.r.f1 q.r.f2 q.r.f3 q.r.f4 q.r.f5 q.r.f6 (l.length:Int) m.u.f0 m.u.f1 m.u.f2 m.u.f3 m.u.f4 m.r.f0 m.r.f1 m.r.f2 m.r.f3 m.r.f4 m.r.f5 m.r.f6 = _
   simp only [f7_b8,show decide ((l.length:Int) < (l.length:Int)) = false from by simp,cond_false])
  (both 0 m.u m.r) ⟨m,hm,rfl⟩
 obtain ⟨y,hy,rfl⟩:=loop
 exact hy

theorem Pure.UnitCopies:LawUnitCopies:=fun f l1 l2 hf hl1 hl2=>by
 obtain ⟨v,hv,hg⟩:=guard_acts f l1 hl1.1
 obtain ⟨v',hv',hg'⟩:=guard_acts f l2 hl2.1
 unfold f7
 rw [hv,hv',awakeV]
 simp only [Option.bind_some]
 cases v with
 | true=>rfl
 | false =>
  cases v' with
  | true=>rfl
  | false =>
   obtain ⟨g1,g2,g3⟩:=hg rfl
   obtain ⟨g1',_,g3'⟩:=hg' rfl
   simp only [cond_false,Option.bind_some]
   rcases open_both f.f0 f.f1 f.f2 (by_wf hf.2.2.1.2) g2 with ⟨k,hk,o1,o2⟩ | ⟨m,hm,o1,o2⟩
   ·rw [o1]
    have e3:(k != 0) = true:=by simpa using hk
    simp only [Option.bind_some,e3,cond_true]
   ·rw [o1,o2]
    simp only [Option.bind_some,show ((0:Int) != 0) = false from rfl,cond_false]
    obtain ⟨q,hq,l1'⟩:=copies_one g1 (acts_ok hl1.2 g3) m hm
    have l1'':iter (fun s:S13=>f7_b4 l1 s.1 s.2.1 s.2.2.1 s.2.2.2.1 s.2.2.2.2.1 s.2.2.2.2.2.1 s.2.2.2.2.2.2.1 s.2.2.2.2.2.2.2.1 s.2.2.2.2.2.2.2.2.1 s.2.2.2.2.2.2.2.2.2.1 s.2.2.2.2.2.2.2.2.2.2.1 s.2.2.2.2.2.2.2.2.2.2.2.1 s.2.2.2.2.2.2.2.2.2.2.2.2) ((0:Int),m.u.f0,m.u.f1,m.u.f2,m.u.f3,m.u.f4,m.r.f0,m.r.f1,m.r.f2,m.r.f3,m.r.f4,m.r.f5,m.r.f6) = some (Out.go (both 0 q.u q.r).2):=l1'
    rw [l1'']
    have k1:f30o (T64.mk q.u.f0 q.u.f1 q.u.f2 q.u.f3 q.u.f4) = some (some q.u):=copy_u q hq
    have k2:f31o (T78.mk q.r.f0 q.r.f1 q.r.f2 q.r.f3 q.r.f4 q.r.f5 q.r.f6) = some (some q.r):=copy_r q hq
    have k3:f32 (T64.mk q.u.f0 q.u.f1 q.u.f2 q.u.f3 q.u.f4) q.u = some true:=same_self q
    have k5:=copies_two g1' (acts_ok hl2.2 g3') q hq q hq
    have k5':iter (fun s:S13=>f7_b8 l2 q.u.f0 q.u.f1 q.u.f2 q.u.f3 q.u.f4 q.r.f0 q.r.f1 q.r.f2 q.r.f3 q.r.f4 q.r.f5 q.r.f6 s.1 s.2.1 s.2.2.1 s.2.2.2.1 s.2.2.2.2.1 s.2.2.2.2.2.1 s.2.2.2.2.2.2.1 s.2.2.2.2.2.2.2.1 s.2.2.2.2.2.2.2.2.1 s.2.2.2.2.2.2.2.2.2.1 s.2.2.2.2.2.2.2.2.2.2.1 s.2.2.2.2.2.2.2.2.2.2.2.1 s.2.2.2.2.2.2.2.2.2.2.2.2) ((0:Int),q.u.f0,q.u.f1,q.u.f2,q.u.f3,q.u.f4,q.r.f0,q.r.f1,q.r.f2,q.r.f3,q.r.f4,q.r.f5,q.r.f6) = some (Out.go ()):=k5
    simp only [Option.bind_some,both]
    rw [k1]
    simp only [Option.bind_some]
    rw [k2]
    simp only [Option.bind_some]
    rw [k3]
    simp only [Option.bind_some,Bool.not_true,cond_false]
    rw [k5']
    rfl

end Go.Sx.unit

