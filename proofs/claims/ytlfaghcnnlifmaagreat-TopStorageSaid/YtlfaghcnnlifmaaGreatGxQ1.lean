/- TopStorage, the plain law, joined; no condition. -/
import Derived.Test.YtlfaghcnnlifmaaGreatGxQ0
namespace Go.Sx.top
open Go Go.Sx

/-- What a layout tells. -/
structure Lay (l:List T25) (g o z:List Int):Prop where
 ar:Go.Sx.top.are l = true
 gl:g.length = l.length
 ol:o.length = l.length
 zl:z.length ≤ l.length
 gr':∀ j,j < l.length → 0 ≤ g.getD j default ∧ g.getD j default < (z.length:Int)
 of':∀ j,j < l.length → 0 ≤ o.getD j default ∧ o.getD j default ≤ 480000
 sz:∀ x ∈ z,0 ≤ x ∧ x ≤ 500000
 fit:∀ j,j < l.length → o.getD j default + (l.getD j default).f1 * (l.getD j default).f2 ≤ z.getD (g.getD j default).toNat default

theorem laid_lay {l:List T25} {e:List (List T37)} {b:List (List Nm)} (h:err l e b = none):Lay l (laid l e b).1 (laid l e b).2.1 (laid l e b).2.2:=by
 obtain ⟨ok,ht,hfin⟩:=err_ok h
 obtain ⟨h0,hge⟩:=fin_none hfin
 have ha:=(argB_iff ok.arg).1
 obtain ⟨h60,hok⟩:=are_ok ha
 have hV:∀ j,j < l.length → 0 ≤ Vn l b (tied l e b).2 j ∧ Vn l b (tied l e b).2 j ≤ 480000:=fun j hj=>⟨hge j hj,V_small ok hj⟩
 have hU:∀ j,j < l.length → 0 ≤ un l j ∧ un l j ≤ 4000:=fun j hj=>un_near ha hj
 obtain ⟨b1,b2⟩:=sz_bound (l:=l) (s:=(tied l e b).2) (V:=Vn l b (tied l e b).2) (c:=500000) (by omega) l.length fun j hj=>by
  have:=hV j hj
  have:=hU j hj
  omega
 have hg:∀ j,j < l.length → (laid l e b).1.getD j default = ((kx (tied l e b).2 j:Nat):Int):=fun j hj=>range_map_get _ hj
 have hO:∀ j,j < l.length → (laid l e b).2.1.getD j default = Vn l b (tied l e b).2 j:=fun j hj=>range_map_get _ hj
 have hzl:(laid l e b).2.2.length = (ids (tied l e b).2 l.length).length:=szF_len _ _ _ _
 have hkl:∀ j,j < l.length → kx (tied l e b).2 j < (ids (tied l e b).2 l.length).length:=fun j hj=>by
  have h1:=kx_lt (tied l e b).2 j
  have h2:=ids_mono (tied l e b).2 (j + 1) (l.length - (j + 1))
  rw [show j + 1 + (l.length - (j + 1)) = l.length by omega] at h2
  omega
 refine ⟨ha,by simp [laid,gsF],by simp [laid],by rw [hzl]; exact ids_le _ _,fun j hj=>?_,fun j hj=>?_,fun x hx=>?_,fun j hj=>?_⟩
 ·rw [hg j hj,hzl]
  have:=hkl j hj
  omega
 ·rw [hO j hj]; exact hV j hj
 ·have:=b1 x hx; omega
 ·rw [hg j hj,hO j hj,Int.toNat_natCast]
  have:=b2 j hj
  have e:un l j = (l.getD j default).f1 * (l.getD j default).f2:=by
   obtain ⟨k1,k2,k3⟩:=hok _ (getD_mem hj)
   exact w64_mul k1 (by omega) k3
  rw [← e]; exact this

section
variable {l:List T25} {g o z:List Int}

/-- How many units a variable has. -/
def uu (l:List T25) (j:Nat):Int:=(l.getD j default).f1 * (l.getD j default).f2

def clp (x u:Int):Int:=if x < 0 then 0 else if x > u then u else x

/-- How many units of variables are ahead of unit u of group k, or in groups ahead of it. -/
def ahd (l:List T25) (g o:List Int) (k u:Int) (j:Nat):Int:=if g.getD j default < k then uu l j else if g.getD j default = k then clp (u - o.getD j default) (uu l j) else 0

theorem uu_le (h:Lay l g o z) {j:Nat} (hj:j < l.length):1 ≤ uu l j ∧ uu l j ≤ 4000:=by
 obtain ⟨k1,k2,k3⟩:=(are_ok h.ar).2 _ (getD_mem hj)
 unfold uu
 rcases k1 with e | e | e <;> rw [e] <;> omega

theorem ahd_le (h:Lay l g o z) (k u:Int) {j:Nat} (hj:j < l.length):0 ≤ ahd l g o k u j ∧ ahd l g o k u j ≤ 4000:=by
 have:=uu_le h hj
 unfold ahd clp
 split
 ·omega
 ·split
  ·split
   ·omega
   ·split <;> omega
  ·omega

theorem hit_iff (k u:Int) (j:Nat):hit g o k u (l.getD j default) j = true ↔ g.getD j default = k ∧ o.getD j default ≤ u ∧ u - o.getD j default < uu l j:=by
 unfold hit uu
 simp only [Bool.and_eq_true,beq_iff_eq,decide_eq_true_eq]
 constructor
 ·rintro ⟨⟨h1,h2⟩,h3⟩; exact ⟨h1,h2,h3⟩
 ·rintro ⟨h1,h2,h3⟩; exact ⟨⟨h1,h2⟩,h3⟩

theorem ahd_lt {k u:Int} {j:Nat} (h:g.getD j default < k):ahd l g o k u j = uu l j:=by unfold ahd; rw [if_pos h]
theorem ahd_at {k u:Int} {j:Nat} (h:g.getD j default = k):ahd l g o k u j = clp (u - o.getD j default) (uu l j):=by unfold ahd; rw [if_neg (by omega),if_pos h]
theorem ahd_gt {k u:Int} {j:Nat} (h:k < g.getD j default):ahd l g o k u j = 0:=by unfold ahd; rw [if_neg (by omega),if_neg (by omega)]

theorem clp_step {v u w:Int} (hw:1 ≤ w):clp (u + 1 - v) w = clp (u - v) w + (if v ≤ u ∧ u - v < w then 1 else 0):=by
 unfold clp
 by_cases h:v ≤ u ∧ u - v < w
 ·rw [if_pos h]; repeat' split <;> try omega
 ·rw [if_neg h]; repeat' split <;> try omega

theorem ahd_step (k u:Int) (j:Nat) (hu:1 ≤ uu l j):ahd l g o k (u + 1) j = ahd l g o k u j + (if hit g o k u (l.getD j default) j then 1 else 0):=by
 by_cases h1:g.getD j default < k
 ·rw [ahd_lt h1,ahd_lt h1,if_neg (fun e=>by have:=((hit_iff k u j).1 e).1; omega)]; omega
 ·by_cases h2:g.getD j default = k
  ·rw [ahd_at h2,ahd_at h2,clp_step hu]
   by_cases hh:o.getD j default ≤ u ∧ u - o.getD j default < uu l j
   ·rw [if_pos hh,if_pos ((hit_iff k u j).2 ⟨h2,hh.1,hh.2⟩)]
   ·rw [if_neg hh,if_neg (fun e=>hh ((hit_iff k u j).1 e).2)]
  ·rw [ahd_gt (by omega),ahd_gt (by omega),if_neg (fun e=>h2 ((hit_iff k u j).1 e).1)]; rfl

theorem tot_step (h:Lay l g o z) (k u:Int):tot (ahd l g o k (u + 1)) l.length = tot (ahd l g o k u) l.length + ((hits g o k u l 0).length:Int):=by
 have h1:=hits_tot g o k u l 0 rfl
 rw [Nat.zero_add] at h1
 simp only [tot,Int.zero_add] at h1
 rw [← h1,← tot_add]
 exact tot_congr _ fun j hj=>ahd_step k u j (uu_le h hj).1

theorem tot_group (h:Lay l g o z) {k:Nat} (hk:k < z.length):tot (ahd l g o k (z.getD k default)) l.length = tot (ahd l g o (k + 1) 0) l.length:=by
 refine tot_congr _ fun j hj=>?_
 have h1:=h.of' j hj
 have h2:=uu_le h hj
 have h3:=h.fit j hj
 have h4:o.getD j default + uu l j ≤ z.getD (g.getD j default).toNat default:=h3
 by_cases e1:g.getD j default < k
 ·rw [ahd_lt e1,ahd_lt (by omega)]
 ·by_cases e2:g.getD j default = k
  ·rw [ahd_at e2,ahd_lt (by omega)]
   rw [e2,Int.toNat_natCast] at h4
   unfold clp
   repeat' split <;> try omega
  ·rw [ahd_gt (by omega)]
   by_cases e3:g.getD j default = k + 1
   ·rw [ahd_at e3]
    unfold clp
    repeat' split <;> try omega
   ·rw [ahd_gt (by omega)]

theorem tot_first (h:Lay l g o z):tot (ahd l g o 0 0) l.length = 0:=by
 refine tot_zero _ fun j hj=>?_
 have h1:=h.of' j hj
 have h2:=h.gr' j hj
 have h3:=uu_le h hj
 by_cases e:g.getD j default = 0
 ·rw [ahd_at e]
  unfold clp
  repeat' split <;> try omega
 ·rw [ahd_gt (by omega)]

theorem tot_last (h:Lay l g o z):tot (ahd l g o z.length 0) l.length = tot (uu l) l.length:=by
 refine tot_congr _ fun j hj=>?_
 have h2:=h.gr' j hj
 unfold ahd
 rw [if_pos h2.2]

theorem lay_laid (h:Lay l g o z):isLaid l g o = true:=by
 unfold isLaid
 rw [h.ar,h.gl,h.ol]
 have h1:g.any (fun n=>decide (n < 0)) = false:=by
  rw [List.any_eq_false]
  intro x hx
  obtain ⟨i,hi,rfl⟩:=List.mem_iff_getElem.1 hx
  have:=(h.gr' i (by rw [← h.gl]; exact hi)).1
  rw [getD_lt hi] at this
  simp only [decide_eq_true_eq]; omega
 have h2:o.any (fun n=>decide (n < 0)) = false:=by
  rw [List.any_eq_false]
  intro x hx
  obtain ⟨i,hi,rfl⟩:=List.mem_iff_getElem.1 hx
  have:=(h.of' i (by rw [← h.ol]; exact hi)).1
  rw [getD_lt hi] at this
  simp only [decide_eq_true_eq]; omega
 rw [h1,h2]
 simp

/-- Two that hit a unit overlap. -/
theorem hit_ovl (h:Lay l g o z) {k u:Int} {a c:T37} (ha:a ∈ hits g o k u l 0) (hc:c ∈ hits g o k u l 0):ovl l g o a c = (true,0):=by
 obtain ⟨i,hi,i1,rfl⟩:=hits_mem l 0 rfl a ha
 obtain ⟨j,hj,j1,rfl⟩:=hits_mem l 0 rfl c hc
 obtain ⟨p1,p2,p3⟩:=(hit_iff k u i).1 i1
 obtain ⟨q1,q2,q3⟩:=(hit_iff k u j).1 j1
 have fi:=are_fd h.ar hi
 have fj:=are_fd h.ar hj
 have hoi:=(are_ok h.ar).2 _ (getD_mem hi)
 have hoj:=(are_ok h.ar).2 _ (getD_mem hj)
 have key:∀ {i:Nat},i < l.length → o.getD i default ≤ u → u - o.getD i default < uu l i → 0 ≤ Int.tdiv (u - o.getD i default) (l.getD i default).f1 ∧ Int.tdiv (u - o.getD i default) (l.getD i default).f1 < (l.getD i default).f2 ∧
   bg l o i (Int.tdiv (u - o.getD i default) (l.getD i default).f1) ≤ u ∧ u < bg l o i (Int.tdiv (u - o.getD i default) (l.getD i default).f1) + (l.getD i default).f1:=fun {i} hi k1 k2=>by
  have hk:=(are_ok h.ar).2 _ (getD_mem hi)
  unfold uu at k2
  unfold bg
  rw [Int.tdiv_eq_ediv_of_nonneg (by omega)]
  generalize (l.getD i default).f2 = m at *
  generalize o.getD i default = v at *
  obtain ⟨e,_,_⟩:=hk
  generalize (l.getD i default).f1 = w at *
  rcases e with rfl | rfl | rfl <;> refine ⟨?_,?_,?_,?_⟩ <;> omega
 obtain ⟨a1,a2,a3,a4⟩:=key hi p2 p3
 obtain ⟨c1,c2,c3,c4⟩:=key hj q2 q3
 have pi:isPl l (T37.mk (l.getD i default).f0 (Int.tdiv (u - o.getD i default) (l.getD i default).f1)) = true:=by
  unfold isPl
  rw [fi]
  simp only [Bool.and_eq_true,decide_eq_true_eq]
  exact ⟨a1,a2⟩
 have pj:isPl l (T37.mk (l.getD j default).f0 (Int.tdiv (u - o.getD j default) (l.getD j default).f1)) = true:=by
  unfold isPl
  rw [fj]
  simp only [Bool.and_eq_true,decide_eq_true_eq]
  exact ⟨c1,c2⟩
 unfold ovl
 rw [lay_laid h,pi,pj]
 simp only [if_true,Bool.and_self,fi,fj,p1,q1,beq_self_eq_true,Bool.true_and]
 rw [decide_eq_true (show bg l o i (Int.tdiv (u - o.getD i default) (l.getD i default).f1) < bg l o j (Int.tdiv (u - o.getD j default) (l.getD j default).f1) + (l.getD j default).f1 by omega),decide_eq_true (show bg l o j (Int.tdiv (u - o.getD j default) (l.getD j default).f1) < bg l o i (Int.tdiv (u - o.getD i default) (l.getD i default).f1) + (l.getD i default).f1 by omega)]
 rfl

theorem who_eq (h:Lay l g o z) (hv:Vs l) {k u:Int} (hu:0 ≤ u ∧ u ≤ 500000):f7 l g o k u = some (hits g o k u l 0,0):=by
 have:=hv.len
 have h1:=h.gl
 have h2:=h.ol
 rw [f18_eq l g o k u hv (by omega) (by omega) (by omega),lay_laid h,if_pos rfl]

theorem hits_le (g o:List Int) (a u:Int):∀ (l:List T25) (i:Nat),(hits g o a u l i).length ≤ l.length
 | [],_=>Nat.le_refl _
 | x :: r,i=>by
  have:=hits_le g o a u r (i + 1)
  simp only [hits,List.length_append,List.length_cons]
  split <;> simp <;> omega

end

theorem top_pairs (l:List T25) (v:List Int × List Int × List Int × Int) (h:Lay l v.1 v.2.1 v.2.2.1) (hv:Vs l) (k u:Int) (c:Int) :
  iter (fun s=>f3_b2 l v (hits v.1 v.2.1 k u l 0,c) s) (0:Int) = some (Out.go ()):=by
 have hlen:=hits_le v.1 v.2.1 k u l 0
 have hl:=hv.len
 have hg:=h.gl
 have ho:=h.ol
 refine iter_list (hits v.1 v.2.1 k u l 0) (by omega) (fun s=>f3_b2 l v (hits v.1 v.2.1 k u l 0,c) s) (fun _ _=>(Out.go ():Out Bool Unit)) (fun i x r hi hx hd=>?_) ?_
 ·right
  refine ⟨?_,rfl⟩
  have g1:(0:Int) < ((hits v.1 v.2.1 k u l 0).length:Int) ∧ (0:Int) ≤ i ∧ (i:Int) < ((hits v.1 v.2.1 k u l 0).length:Int):=by omega
  have hw:∀ x ∈ v.2.1,x ≤ 9223372036854775807:=fun x hx=>by
   obtain ⟨j,hj,rfl⟩:=List.mem_iff_getElem.1 hx
   have:=(h.of' j (by rw [← h.ol]; exact hj)).2
   rw [getD_lt hj] at this
   omega
  have h1:(hits v.1 v.2.1 k u l 0).getD 0 default ∈ hits v.1 v.2.1 k u l 0:=getD_mem (by omega)
  have h2:(hits v.1 v.2.1 k u l 0).getD i default ∈ hits v.1 v.2.1 k u l 0:=getD_mem hi
  simp only [f3_b2,show decide ((i:Int) < ((hits v.1 v.2.1 k u l 0).length:Int)) = true from by simpa using hi,cond_true,if_pos g1,Int.toNat_natCast]
  rw [f20_eq l v.1 v.2.1 _ _ hv (by omega) (by omega) hw,hit_ovl h h1 h2]
  rfl
 ·simp only [f3_b2,show decide (((hits v.1 v.2.1 k u l 0).length:Int) < ((hits v.1 v.2.1 k u l 0).length:Int)) = false from by simp,cond_false]

theorem top_group (l:List T25) (v:List Int × List Int × List Int × Int) (h:Lay l v.1 v.2.1 v.2.2.1) (hv:Vs l) {k:Nat} (hk:k < v.2.2.1.length) :
  iter (fun s=>f3_b3 l v (k:Int) s.1 s.2) (tot (ahd l v.1 v.2.1 k 0) l.length,(0:Int)) = some (Out.go (tot (ahd l v.1 v.2.1 (k + 1) 0) l.length)):=by
 have hz:=h.sz _ (getD_mem hk)
 have h60:=(are_ok h.ar).1
 obtain ⟨n,hn⟩:∃ n:Nat,v.2.2.1.getD k default = (n:Int):=⟨(v.2.2.1.getD k default).toNat,by omega⟩
 have gk:(0:Int) ≤ (k:Int) ∧ (k:Int) < (v.2.2.1.length:Int):=by omega
 obtain ⟨x,hx,rfl⟩:=iter_inv (fun s:Int × Int=>f3_b3 l v (k:Int) s.1 s.2) (fun i s=>s = (tot (ahd l v.1 v.2.1 k i) l.length,(i:Int))) (fun y=>y = (Out.go (tot (ahd l v.1 v.2.1 (k + 1) 0) l.length):Out Bool Int)) n
  (by
   rintro i s hi rfl
   refine ⟨(tot (ahd l v.1 v.2.1 k ((i + 1:Nat):Int)) l.length,((i + 1:Nat):Int)),?_,rfl⟩
   have hd:decide ((i:Int) < v.2.2.1.getD k default) = true:=by rw [hn]; simpa using hi
   have hst:=tot_step h (k:Int) (i:Int)
   have hb:=tot_le (f:=ahd l v.1 v.2.1 (k:Int) ((i:Int) + 1)) l.length fun j hj=>ahd_le h (k:Int) ((i:Int) + 1) hj
   have e1:w64 (tot (ahd l v.1 v.2.1 k i) l.length + ((hits v.1 v.2.1 k i l 0).length:Int)) = tot (ahd l v.1 v.2.1 k ((i + 1:Nat):Int)) l.length:=by
    rw [← hst,w64_id (by omega) (by omega)]
    rfl
   have e2:w64 ((i:Int) + 1) = ((i + 1:Nat):Int):=by rw [w64_id (by omega) (by omega)]; omega
   show f3_b3 l v (k:Int) (tot (ahd l v.1 v.2.1 k i) l.length) (i:Int) = _
   simp only [f3_b3,if_pos gk,Int.toNat_natCast,hd,cond_true]
   rw [who_eq h hv (by omega)]
   simp only [Option.bind_some,show ((0:Int) != 0) = false from rfl,cond_false]
   rw [top_pairs l v h hv]
   simp only [Option.bind_some,e1,e2])
  (by
   rintro s rfl
   refine ⟨_,?_,rfl⟩
   show f3_b3 l v (k:Int) (tot (ahd l v.1 v.2.1 k n) l.length) (n:Int) = _
   have hd:decide ((n:Int) < v.2.2.1.getD k default) = false:=by rw [hn]; simp
   simp only [f3_b3,if_pos gk,Int.toNat_natCast,hd,cond_false]
   have:=tot_group h hk
   rw [hn] at this
   rw [this])
  (tot (ahd l v.1 v.2.1 k 0) l.length,(0:Int)) rfl
 exact hx

theorem top_end {l:List T25} {g o z:List Int} (h:Lay l g o z) {k:Nat} (_:k < z.length):hits g o k (z.getD k default) l 0 = []:=by
 cases hq:hits g o k (z.getD k default) l 0 with
 | nil=>rfl
 | cons t r =>
  have ht:t ∈ hits g o k (z.getD k default) l 0:=by rw [hq]; exact List.mem_cons_self ..
  obtain ⟨j,hj,j1,_⟩:=hits_mem l 0 rfl t ht
  obtain ⟨p1,p2,p3⟩:=(hit_iff _ _ j).1 j1
  have h4:o.getD j default + uu l j ≤ z.getD (g.getD j default).toNat default:=h.fit j hj
  rw [p1,Int.toNat_natCast] at h4
  omega

theorem top_groups (l:List T25) (v:List Int × List Int × List Int × Int) (h:Lay l v.1 v.2.1 v.2.2.1) (hv:Vs l) :
  iter (fun s=>f3_b4 l v s.1 s.2) ((0:Int),(0:Int)) = some (Out.go (tot (uu l) l.length)):=by
 have h60:=(are_ok h.ar).1
 have hzl:=h.zl
 obtain ⟨x,hx,rfl⟩:=iter_inv (fun s:Int × Int=>f3_b4 l v s.1 s.2) (fun i s=>s = (tot (ahd l v.1 v.2.1 i 0) l.length,(i:Int))) (fun y=>y = (Out.go (tot (uu l) l.length):Out Bool Int)) v.2.2.1.length
  (by
   rintro k s hk rfl
   refine ⟨(tot (ahd l v.1 v.2.1 ((k + 1:Nat):Int) 0) l.length,((k + 1:Nat):Int)),?_,rfl⟩
   have hz:=h.sz _ (getD_mem hk)
   have gk:(0:Int) ≤ (k:Int) ∧ (k:Int) < (v.2.2.1.length:Int):=by omega
   have hd:decide ((k:Int) < (v.2.2.1.length:Int)) = true:=by simpa using hk
   have e2:w64 ((k:Int) + 1) = ((k + 1:Nat):Int):=by rw [w64_id (by omega) (by omega)]; omega
   show f3_b4 l v (tot (ahd l v.1 v.2.1 k 0) l.length) (k:Int) = _
   simp only [f3_b4,hd,cond_true]
   rw [top_group l v h hv hk]
   simp only [Option.bind_some,if_pos gk,Int.toNat_natCast]
   rw [who_eq h hv (by omega),top_end h hk]
   simp only [Option.bind_some,show ((0:Int) != 0) = false from rfl,cond_false,List.length_nil,show decide (((0:Nat):Int) > 0) = false from rfl,e2]
   rfl)
  (by
   rintro s rfl
   refine ⟨_,?_,rfl⟩
   show f3_b4 l v (tot (ahd l v.1 v.2.1 v.2.2.1.length 0) l.length) (v.2.2.1.length:Int) = _
   simp only [f3_b4,show decide ((v.2.2.1.length:Int) < (v.2.2.1.length:Int)) = false from by simp,cond_false]
   rw [tot_last h])
  ((0:Int),(0:Int)) (by rw [show (((0:Nat):Int)) = 0 from rfl,tot_first h])
 exact hx

theorem top_all (l:List T25) {g o z:List Int} (h:Lay l g o z):iter (fun s=>f3_b5 l s.1 s.2) ((0:Int),(0:Int)) = some (Out.go (tot (uu l) l.length)):=by
 have h60:=(are_ok h.ar).1
 obtain ⟨x,hx,rfl⟩:=iter_inv (fun s:Int × Int=>f3_b5 l s.1 s.2) (fun i s=>s = (tot (uu l) i,(i:Int))) (fun y=>y = (Out.go (tot (uu l) l.length):Out Bool Int)) l.length
  (by
   rintro i s hi rfl
   refine ⟨(tot (uu l) (i + 1),((i + 1:Nat):Int)),?_,rfl⟩
   have gi:(0:Int) ≤ (i:Int) ∧ (i:Int) < (l.length:Int) ∧ (0:Int) ≤ (i:Int) ∧ (i:Int) < (l.length:Int):=by omega
   have hd:decide ((i:Int) < (l.length:Int)) = true:=by simpa using hi
   have e2:w64 ((i:Int) + 1) = ((i + 1:Nat):Int):=by rw [w64_id (by omega) (by omega)]; omega
   obtain ⟨k1,k2,k3⟩:=(are_ok h.ar).2 _ (getD_mem hi)
   have e3:w64 ((l.getD i default).f1 * (l.getD i default).f2) = uu l i:=w64_mul k1 (by omega) k3
   have hb:=tot_le (f:=uu l) i fun j hj=>by have:=uu_le h (show j < l.length by omega); omega
   have hu:=uu_le h hi
   show f3_b5 l (tot (uu l) i) (i:Int) = _
   simp only [f3_b5,hd,cond_true,if_pos gi,Int.toNat_natCast,e3,e2]
   rw [w64_id (by omega) (by omega)]
   rfl)
  (by
   rintro s rfl
   refine ⟨_,?_,rfl⟩
   show f3_b5 l (tot (uu l) l.length) (l.length:Int) = _
   simp only [f3_b5,show decide ((l.length:Int) < (l.length:Int)) = false from by simp,cond_false])
  ((0:Int),(0:Int)) rfl
 exact hx

theorem top_units (l:List T25) (hl:l.length ≤ maxLen):∃ n,iter (fun s=>f3_b1 l s.1 s.2) ((0:Int),(0:Int)) = some (Out.go n):=by
 have hm:=maxLen_le
 obtain ⟨x,hx,n,rfl⟩:=iter_inv (fun s:Int × Int=>f3_b1 l s.1 s.2) (fun i s=>∃ n:Int,s = (n,(i:Int))) (fun y=>∃ n,y = (Out.go n:Out Bool Int)) (min l.length 70)
  (by
   rintro i s hi ⟨n,rfl⟩
   have gi:(0:Int) ≤ (i:Int) ∧ (i:Int) < (l.length:Int):=by omega
   have hd:decide ((i:Int) < (l.length:Int)) = true:=by simp; omega
   have hd2:decide ((i:Int) < 70) = true:=by simp; omega
   have e2:w64 ((i:Int) + 1) = ((i + 1:Nat):Int):=by rw [w64_id (by omega) (by omega)]; omega
   show ∃ s',f3_b1 l n (i:Int) = some (.inl s') ∧ _
   simp only [f3_b1,hd,hd2,cond_true,if_pos gi,Option.bind_some,e2]
   exact ⟨_,rfl,_,rfl⟩)
  (by
   rintro s ⟨n,rfl⟩
   refine ⟨.go n,?_,n,rfl⟩
   show f3_b1 l n ((min l.length 70:Nat):Int) = _
   by_cases h:l.length ≤ 70
   ·have hd:decide (((min l.length 70:Nat):Int) < (l.length:Int)) = false:=by simp; omega
    simp only [f3_b1,hd,cond_false,Option.bind_some]
   ·have hd:decide (((min l.length 70:Nat):Int) < (l.length:Int)) = true:=by simp; omega
    have hd2:decide (((min l.length 70:Nat):Int) < 70) = false:=by simp; omega
    simp only [f3_b1,hd,hd2,cond_true,cond_false,Option.bind_some])
  ((0:Int),(0:Int)) ⟨0,rfl⟩
 exact ⟨n,hx⟩

theorem Pure.TopStorage:LawTopStorage:=fun l e b hl he hb=>by
 have h:=Vs.of hl
 obtain ⟨n,hn⟩:=top_units l hl.1
 unfold f3
 rw [hn,awake7,f11_eq l e b h]
 cases hq:err l e b with
 | some pc =>
  obtain ⟨p,c⟩:=pc
  have hc:(c != (0:Int)) = true:=by simpa using err_code hq
  simp only [Option.bind_some,hc,cond_true]
  cases decide ((l.length:Int) > 60) <;> cases decide ((e.length:Int) > 60) <;> cases decide ((b.length:Int) > 60) <;> cases decide (n > 160) <;> rfl
 | none =>
  have hlay:=laid_lay hq
  have i1:=top_groups l ((laid l e b).1,(laid l e b).2.1,(laid l e b).2.2,0) hlay h
  have i2:=top_all l hlay
  simp only [Option.bind_some,show ((0:Int) != 0) = false from rfl,cond_false]
  rw [i1,i2]
  simp only [Option.bind_some,beq_self_eq_true,cond_true]
  cases decide ((l.length:Int) > 60) <;> cases decide ((e.length:Int) > 60) <;> cases decide ((b.length:Int) > 60) <;> cases decide (n > 160) <;> rfl

end Go.Sx.top

