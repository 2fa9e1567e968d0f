/- Plain laws of the printed functions of units: the check of sanity, bytes and numbers; no condition. -/
import Derived.Test.YtdmpmbcnfoionaaGxG
import Derived.Test.YtdmpmbcnfoionaaGxM
import Derived.Test.YtdmpmbcnfoionaaSxD
namespace Go.Sx.unit
open Go Go.Sx

/-- Bytes. -/
def By (l:List Int):Prop:=∀ x ∈ l,0 ≤ x ∧ x < 256

theorem By.drop {l:List Int} (h:By l) (n:Nat):By (l.drop n):=fun x hx=>h x (List.mem_of_mem_drop hx)
theorem By.take {l:List Int} (h:By l) (n:Nat):By (l.take n):=fun x hx=>h x (List.mem_of_mem_take hx)
theorem By.append {l m:List Int} (h:By l) (h':By m):By (l ++ m):=fun x hx=>by rcases List.mem_append.1 hx with hx | hx; exact h x hx; exact h' x hx
theorem By.at {l:List Int} (h:By l) (i:Nat):0 ≤ l.getD i default ∧ l.getD i default < 256:=by
 rw [List.getD_eq_getElem?_getD]
 cases hi:l[i]? with
 | none=>exact ⟨by decide,by decide⟩
 | some x=>exact h x (List.mem_of_getElem? hi)

/-- The number of the first four bytes. -/
def num (l:List Int):Int:=16777216 * l.getD 0 default + 65536 * l.getD 1 default + 256 * l.getD 2 default + l.getD 3 default

theorem num_bound {l:List Int} (h:By l):0 ≤ num l ∧ num l < 4294967296:=by
 have h0:=h.at 0
 have h1:=h.at 1
 have h2:=h.at 2
 have h3:=h.at 3
 unfold num
 omega

theorem orW (x y:Nat) (hx:x < 4294967296) (hy:y < 4294967296):(BitVec.ofInt (IntKind.bits .i64) (x:Int) ||| BitVec.ofInt (IntKind.bits .i64) (y:Int)).toNat = x ||| y:=by
 show (BitVec.ofInt 64 (x:Int) ||| BitVec.ofInt 64 (y:Int)).toNat = x ||| y
 simp only [BitVec.toNat_or,BitVec.ofInt_natCast,BitVec.toNat_ofNat]
 rw [Nat.mod_eq_of_lt (by omega),Nat.mod_eq_of_lt (by omega)]

theorem or_low (a b k:Nat) (h:b < 2 ^ k):2 ^ k * a ||| b = 2 ^ k * a + b:=(Nat.two_pow_add_eq_or_of_lt h a).symm

theorem w64_nat {n:Nat} (h:n ≤ 9223372036854775807):w64 (n:Int) = (n:Int):=w64_id (by omega) (by omega)

theorem f60_eq {l:List Int} (h:By l) (hl:4 ≤ l.length):f60 l = some (num l):=by
 unfold f60 num
 rw [if_pos ⟨by omega,by omega,by omega,by omega⟩]
 obtain ⟨a0,a1⟩:=h.at 0
 obtain ⟨b0,b1⟩:=h.at 1
 obtain ⟨c0,c1⟩:=h.at 2
 obtain ⟨d0,d1⟩:=h.at 3
 generalize l.getD 0 default = a at a0 a1 ⊢
 generalize l.getD 1 default = b at b0 b1 ⊢
 generalize l.getD 2 default = c at c0 c1 ⊢
 generalize l.getD 3 default = d at d0 d1 ⊢
 obtain ⟨a,rfl⟩:=Int.eq_ofNat_of_zero_le a0
 obtain ⟨b,rfl⟩:=Int.eq_ofNat_of_zero_le b0
 obtain ⟨c,rfl⟩:=Int.eq_ofNat_of_zero_le c0
 obtain ⟨d,rfl⟩:=Int.eq_ofNat_of_zero_le d0
 have m24:min (Int.toNat (24:Int)) (IntKind.bits .i64) = 24:=rfl
 have m16:min (Int.toNat (16:Int)) (IntKind.bits .i64) = 16:=rfl
 have m8:min (Int.toNat (8:Int)) (IntKind.bits .i64) = 8:=rfl
 rw [m24,m16,m8,w64_nat (n:=a) (by omega),w64_nat (n:=b) (by omega),w64_nat (n:=c) (by omega),w64_nat (n:=d) (by omega)]
 have e24:(a:Int) * (2:Int) ^ 24 = ((a * 16777216:Nat):Int):=by simp
 have e16:(b:Int) * (2:Int) ^ 16 = ((b * 65536:Nat):Int):=by simp
 have e8:(c:Int) * (2:Int) ^ 8 = ((c * 256:Nat):Int):=by simp
 have g1:a * 16777216 ||| b * 65536 = a * 16777216 + b * 65536:=by
  have:=or_low a (b * 65536) 24 (by omega)
  rw [Nat.mul_comm a]; exact this
 have g2:(a * 16777216 + b * 65536) ||| c * 256 = a * 16777216 + b * 65536 + c * 256:=by
  have:=or_low (a * 256 + b) (c * 256) 16 (by omega)
  rw [show a * 16777216 + b * 65536 = 2 ^ 16 * (a * 256 + b) by omega]; exact this
 have g3:(a * 16777216 + b * 65536 + c * 256) ||| d = a * 16777216 + b * 65536 + c * 256 + d:=by
  have:=or_low (a * 65536 + b * 256 + c) d 8 (by omega)
  rw [show a * 16777216 + b * 65536 + c * 256 = 2 ^ 8 * (a * 65536 + b * 256 + c) by omega]; exact this
 rw [e24,e16,e8,w64_nat (n:=a * 16777216) (by omega),w64_nat (n:=b * 65536) (by omega),w64_nat (n:=c * 256) (by omega),orW _ _ (by omega) (by omega),g1,
  w64_nat (n:=a * 16777216 + b * 65536) (by omega),orW _ _ (by omega) (by omega),g2,w64_nat (n:=a * 16777216 + b * 65536 + c * 256) (by omega),orW _ _ (by omega) (by omega),g3,w64_nat (by omega)]
 refine congrArg some ?_
 omega

/-- What stands at a place. -/
theorem getD_drop (l:List Int) (n i:Nat):(l.drop n).getD i default = l.getD (n + i) default:=by
 simp only [List.getD_eq_getElem?_getD,List.getElem?_drop]

theorem f38_eq {l:List Int} (h:By l) (n:Nat) (hn:n ≤ 1100000):f38 l (n:Int) = some (if n + 4 ≤ l.length then num (l.drop n) else -1):=by
 have e1:w64 ((n:Int) + 1) = ((n + 1:Nat):Int):=by rw [w64_id (by omega) (by omega)]; omega
 have e2:w64 ((n:Int) + 2) = ((n + 2:Nat):Int):=by rw [w64_id (by omega) (by omega)]; omega
 have e3:w64 ((n:Int) + 3) = ((n + 3:Nat):Int):=by rw [w64_id (by omega) (by omega)]; omega
 have e4:w64 ((n:Int) + 4) = ((n + 4:Nat):Int):=by rw [w64_id (by omega) (by omega)]; omega
 unfold f38
 rw [e1,e2,e3,e4]
 by_cases hc:n + 4 ≤ l.length
 ·have hd:decide (((n + 4:Nat):Int) > (l.length:Int)) = false:=by simp; omega
  rw [hd,cond_false,if_pos ⟨by omega,by omega,by omega,by omega,by omega,by omega,by omega,by omega⟩,if_pos hc]
  simp only [Int.toNat_natCast,num,getD_drop,Nat.add_zero]
  obtain ⟨a0,a1⟩:=h.at n
  obtain ⟨b0,b1⟩:=h.at (n + 1)
  obtain ⟨c0,c1⟩:=h.at (n + 2)
  obtain ⟨d0,d1⟩:=h.at (n + 3)
  generalize l.getD n default = a at a0 a1 ⊢
  generalize l.getD (n + 1) default = b at b0 b1 ⊢
  generalize l.getD (n + 2) default = c at c0 c1 ⊢
  generalize l.getD (n + 3) default = d at d0 d1 ⊢
  rw [w64_id (n:=a) (by omega) (by omega),w64_id (n:=b) (by omega) (by omega),w64_id (n:=c) (by omega) (by omega),w64_id (n:=d) (by omega) (by omega),w64_id (n:=16777216 * a) (by omega) (by omega),w64_id (n:=65536 * b) (by omega) (by omega),w64_id (n:=256 * c) (by omega) (by omega),
   w64_id (n:=16777216 * a + 65536 * b) (by omega) (by omega),w64_id (n:=16777216 * a + 65536 * b + 256 * c) (by omega) (by omega),w64_id (by omega) (by omega)]
 ·have hd:decide (((n + 4:Nat):Int) > (l.length:Int)) = true:=by simp; omega
  rw [hd,if_neg hc]; rfl

/-- The four bytes of a length. -/
def mark (n:Nat):List Int:=[0,0,((n / 256:Nat):Int),((n % 256:Nat):Int)]

theorem mark_by {n:Nat} (h:n ≤ 1000):By (mark n):=fun x hx=>by
 simp only [mark,List.mem_cons,List.not_mem_nil,or_false] at hx
 omega

theorem wrap_small {x:Int} (h0:0 ≤ x) (h1:x < 256):IntKind.wrap .u8 x = x:=by
 simp only [IntKind.wrap,IntKind.signed,IntKind.bits]
 simp
 omega

theorem wrap_mod (n:Nat):IntKind.wrap .u8 (n:Int) = ((n % 256:Nat):Int):=by
 simp only [IntKind.wrap,IntKind.signed,IntKind.bits]
 simp

theorem f40_eq (n:Nat) (h:n ≤ 1000):f40 (n:Int) = some (mark n):=by
 have e1:Int.tdiv (n:Int) 16777216 = 0:=by rw [Int.tdiv_eq_ediv_of_nonneg (by omega)]; omega
 have e2:Int.tdiv (n:Int) 65536 = 0:=by rw [Int.tdiv_eq_ediv_of_nonneg (by omega)]; omega
 have e3:Int.tdiv (n:Int) 256 = ((n / 256:Nat):Int):=by rw [Int.tdiv_eq_ediv_of_nonneg (by omega)]; omega
 have e0:w64 0 = 0:=w64_id (by omega) (by omega)
 have e4:Int.tmod (n:Int) 256 = ((n % 256:Nat):Int):=by rw [Int.tmod_eq_emod_of_nonneg (by omega)]; omega
 have e5:Int.tmod ((n / 256:Nat):Int) 256 = ((n / 256:Nat):Int):=by rw [Int.tmod_eq_emod_of_nonneg (by omega)]; omega
 have e6:Int.tmod 0 256 = 0:=rfl
 unfold f40 mark
 rw [e1,e2,e3,e0,w64_nat (n:=n / 256) (by omega),e4,e5,e6,wrap_small (by omega) (by omega),wrap_small (by omega) (by omega),wrap_small (x:=((n % 256:Nat):Int)) (by omega) (by omega)]

end Go.Sx.unit

namespace Go.Sx.unit
open Go Go.Sx

theorem small:(1100000:Nat) ≤ maxLen:=by decide

theorem f64_eq (n:Nat) (h:n ≤ 1000000):f64_e (n:Int) = some []:=by
 have e0:w64 ((0:Int) - 0) = 0:=w64_id (by omega) (by omega)
 have e1:w64 ((n:Int) - 0) = (n:Int):=by rw [w64_id (by omega) (by omega)]; omega
 unfold f64_e
 rw [e0,e1]
 have h0:decide ((n:Int) < 0) = false:=by simp
 rw [h0,cond_false]
 rcases Bool.eq_false_or_eq_true (decide ((n:Int) > 0)) with hb | hb
 ·rw [hb,cond_true,if_pos ⟨by omega,by omega⟩]; rfl
 ·rw [hb]; rfl

theorem flatten_drop {A:Type} {l:List (List A)} {i:Nat} {x:List A} {r:List (List A)} (h:l.drop i = x :: r):(l.drop i).flatten.length = x.length + r.flatten.length:=by rw [h]; simp

theorem f61_eq (l:List (List Int)) (hl:l.length ≤ 1000000) (hs:l.flatten.length ≤ 1000000):f61 l = some l.flatten:=by
 have hsm:=small
 have e1:iter (fun s=>f61_b1 l s.1 s.2) ((0:Int),(0:Int)) = some (.go ((l.flatten.length:Nat):Int)):=by
  have:=iter_listI l (by omega) (fun s=>f61_b1 l s.1 s.2) (fun r _ b=>(Out.go (b + (r.flatten.length:Int)):Out (List Int) Int)) (fun i b=>0 ≤ b ∧ b + ((l.drop i).flatten.length:Int) ≤ 1000000) ?_ ?_ 0 ⟨by omega,by simp only [List.drop_zero]; omega⟩
  ·rw [this]; simp
  ·intro i x r b hI hi hx hd
   right
   have h1:(0:Int) ≤ i ∧ (i:Int) < (l.length:Int):=⟨by omega,by omega⟩
   have hdec:decide ((i:Int) < (l.length:Int)) = true:=by simpa using hi
   have hfl:=flatten_drop hd
   have hr:l.drop (i + 1) = r:=by rw [← List.tail_drop,hd]; rfl
   have hw:w64 (b + (x.length:Int)) = b + (x.length:Int):=w64_id (by omega) (by omega)
   have hneg:decide (b + (x.length:Int) < 0) = false:=by simp; omega
   simp only [f61_b1,hdec,cond_true]
   rw [if_pos h1]
   simp only [Int.toNat_natCast,hx,hw,hneg,cond_false]
   refine ⟨_,rfl,⟨by omega,by rw [hr]; omega⟩,?_⟩
   simp only [List.flatten_cons,List.length_append]
   congr 1
   omega
  ·intro b _
   simp [f61_b1]
 have e2:iter (fun s=>f61_b2 l s.1 s.2) (([]:List Int),(0:Int)) = some (.go l.flatten):=by
  have:=iter_listI l (by omega) (fun s=>f61_b2 l s.1 s.2) (fun r _ b=>(Out.go (b ++ r.flatten):Out (List Int) (List Int))) (fun i b=>b.length + (l.drop i).flatten.length ≤ 1000000) ?_ ?_ [] (by simp only [List.drop_zero,List.length_nil]; omega)
  ·rw [this]; simp
  ·intro i x r b hI hi hx hd
   right
   have h1:(0:Int) ≤ i ∧ (i:Int) < (l.length:Int):=⟨by omega,by omega⟩
   have hdec:decide ((i:Int) < (l.length:Int)) = true:=by simpa using hi
   have hfl:=flatten_drop hd
   have hr:l.drop (i + 1) = r:=by rw [← List.tail_drop,hd]; rfl
   simp only [f61_b2,hdec,cond_true]
   rw [if_pos h1]
   simp only [Int.toNat_natCast,hx]
   rw [if_pos (by omega)]
   exact ⟨_,rfl,by rw [hr,List.length_append]; omega,by simp only [List.flatten_cons,List.append_assoc]⟩
  ·intro b _
   simp [f61_b2]
 unfold f61
 rw [e1]
 simp only [Option.bind_some,f64_eq _ hs,e2]

/-- A record between its lengths. -/
def wrapR (r:List Int):List Int:=mark r.length ++ (r ++ mark r.length)

theorem f39_eq (r:List Int) (h:r.length ≤ 1000):f39 r = some (wrapR r):=by
 have m24:min (Int.toNat (24:Int)) (IntKind.bits .i64) = 24:=rfl
 have m16:min (Int.toNat (16:Int)) (IntKind.bits .i64) = 16:=rfl
 have m8:min (Int.toNat (8:Int)) (IntKind.bits .i64) = 8:=rfl
 have d24:Int.fdiv (r.length:Int) ((2:Int) ^ 24) = 0:=by rw [Int.fdiv_eq_ediv_of_nonneg _ (by omega)]; omega
 have d16:Int.fdiv (r.length:Int) ((2:Int) ^ 16) = 0:=by rw [Int.fdiv_eq_ediv_of_nonneg _ (by omega)]; omega
 have d8:Int.fdiv (r.length:Int) ((2:Int) ^ 8) = ((r.length / 256:Nat):Int):=by rw [Int.fdiv_eq_ediv_of_nonneg _ (by omega)]; omega
 unfold f39
 rw [m24,m16,m8,d24,d16,d8,wrap_small (x:=0) (by omega) (by omega),wrap_small (x:=((r.length / 256:Nat):Int)) (by omega) (by omega),wrap_mod]
 rw [f61_eq _ (by simp) (by simp; omega)]
 simp [wrapR,mark]

/-- The record at the front, and how many bytes it takes. -/
def front (l:List Int):Option (List Int × Nat) :=
 if 8 ≤ l.length ∧ num l ≤ 1000 ∧ (num l).toNat + 8 ≤ l.length ∧ num (l.drop (4 + (num l).toNat)) = num l then some ((l.drop 4).take (num l).toNat,(num l).toNat + 8) else none

theorem front_some {l r:List Int} {k:Nat} (h:front l = some (r,k)):8 ≤ l.length ∧ num l ≤ 1000 ∧ (num l).toNat + 8 ≤ l.length ∧ num (l.drop (4 + (num l).toNat)) = num l ∧ r = (l.drop 4).take (num l).toNat ∧ k = (num l).toNat + 8:=by
 unfold front at h
 split at h
 ·rename_i hc
  cases h
  exact ⟨hc.1,hc.2.1,hc.2.2.1,hc.2.2.2,rfl,rfl⟩
 ·cases h

theorem front_pos {l:List Int} {n:Nat} (hn:num l = (n:Int)) (h1:8 ≤ l.length) (h2:n ≤ 1000) (h3:n + 8 ≤ l.length) (h4:num (l.drop (4 + n)) = (n:Int)):front l = some ((l.drop 4).take n,n + 8):=by
 unfold front
 rw [hn,Int.toNat_natCast,if_pos ⟨h1,by omega,h3,h4⟩]

theorem front_neg {l:List Int} {n:Nat} (hn:num l = (n:Int)) (h:¬ (n ≤ 1000 ∧ n + 8 ≤ l.length ∧ num (l.drop (4 + n)) = (n:Int))):front l = none:=by
 unfold front
 rw [hn,Int.toNat_natCast,if_neg (by rintro ⟨a1,a2,a3,a4⟩; exact h ⟨by omega,a3,a4⟩)]

theorem front_short {l:List Int} (h:l.length < 8):front l = none:=by
 unfold front
 rw [if_neg (by rintro ⟨a1,_⟩; omega)]

abbrev recs:List UInt8:=[114,101,99,111,114,100,115]

def outF:Option (List Int × Nat) → List Int × Int × Bool
 | some (r,k)=>(r,(k:Int),true)
 | none=>([],0,false)

theorem f36_eq {l:List Int} (h:By l) (hl:l.length ≤ 1000000):f36 recs l = some (outF (front l)):=by
 have hb:=num_bound h
 have hn1:(recs == ([108,105,110,101,115]:List UInt8)) = false:=by decide
 unfold f36
 rw [hn1]
 simp only [cond_false]
 by_cases h8:8 ≤ l.length
 ·have c1:((l.length:Int) == 0) = false:=beq_eq_false_iff_ne.mpr (by omega)
  have c2:decide ((l.length:Int) < 8) = false:=decide_eq_false (by omega)
  rw [c1,c2,cond_false,cond_false,f60_eq h (by omega)]
  simp only [Option.bind_some,cond_or]
  obtain ⟨n,hn⟩:∃ n:Nat,num l = (n:Int):=⟨(num l).toNat,by omega⟩
  have e8:w64 ((n:Int) + 8) = ((n + 8:Nat):Int):=by rw [w64_id (by omega) (by omega)]; omega
  have e4:w64 ((4:Int) + n) = ((4 + n:Nat):Int):=by rw [w64_id (by omega) (by omega)]; omega
  rw [hn,e8,e4]
  simp only [Int.toNat_natCast,List.take_length]
  rcases Bool.eq_false_or_eq_true (decide ((n:Int) > 1000) || decide ((l.length:Int) < ((n + 8:Nat):Int))) with hc | hc
  ·rw [hc,front_neg hn (by simp only [Bool.or_eq_true,decide_eq_true_eq] at hc; omega)]
   rfl
  ·rw [hc]
   simp only [Bool.or_eq_false_iff,decide_eq_false_iff_not] at hc
   rw [cond_false,if_pos ⟨by omega,by omega⟩,f60_eq (h.drop _) (by simp; omega)]
   simp only [Option.bind_some]
   rcases Bool.eq_false_or_eq_true (num (l.drop (4 + n)) != (n:Int)) with hd | hd
   ·have:num (l.drop (4 + n)) ≠ (n:Int):=by simpa using hd
    rw [hd,front_neg hn (by rintro ⟨_,_,h4⟩; exact this h4)]
    rfl
   ·have:num (l.drop (4 + n)) = (n:Int):=by simpa using hd
    rw [hd,cond_false,if_pos ⟨by omega,by omega⟩,front_pos hn h8 (by omega) (by omega) this]
    simp only [outF,List.take_drop]
 ·rw [front_short (by omega)]
  by_cases h0:l.length = 0
  ·have c1:((l.length:Int) == 0) = true:=by simp [h0]
   rw [c1]; rfl
  ·have c1:((l.length:Int) == 0) = false:=beq_eq_false_iff_ne.mpr (by omega)
   have c2:decide ((l.length:Int) < 8) = true:=decide_eq_true (by omega)
   rw [c1,c2]; rfl

/-- The records from a place on, each with its place. -/
def parse:Nat → List Int → Nat → Option (List (Nat × List Int))
 | 0,_,_=>none
 | k + 1,b,at_=>if at_ < b.length then (match front (b.drop at_) with
  | none=>none
  | some (r,s)=>(parse k b (at_ + s)).map fun l=>(at_,r) :: l) else some []

theorem f35_loop {b:List Int} (h:By b) (hb:b.length ≤ 1000000):∀ (k at_:Nat) (bs:List Int),b.length - at_ < k → at_ ≤ b.length → bs.length ≤ at_ →
  iter (fun s=>f35_b1 recs b s.1 s.2) (bs,(at_:Int)) = some (match parse k b at_ with | none=>.ret ([],false) | some l=>.go (bs ++ l.map fun p=>((p.1:Nat):Int)))
 | 0,_,_,hk,_,_=>by omega
 | k + 1,at_,bs,hk,ha,hbs=>by
  by_cases hlt:at_ < b.length
  ·have hd:decide ((at_:Int) < (b.length:Int)) = true:=by simpa using hlt
   have step:f35_b1 recs b bs (at_:Int) = match front (b.drop at_) with | none=>some (.inr (.ret ([],false))) | some (_,s)=>some (.inl (bs ++ [(at_:Int)],((at_ + s:Nat):Int))):=by
    simp only [f35_b1,hd,cond_true]
    rw [if_pos ⟨by omega,by omega⟩]
    simp only [Int.toNat_natCast,List.take_length]
    rw [f36_eq (h.drop _) (by simp; omega)]
    simp only [Option.bind_some]
    cases hf:front (b.drop at_) with
    | none=>rfl
    | some p =>
     obtain ⟨r,s⟩:=p
     obtain ⟨fr1,fr2,fr3,_,_,fr6⟩:=front_some hf
     have hn:=num_bound (h.drop at_)
     simp only [outF,Bool.not_true,cond_false]
     rw [if_pos (by simp; omega),w64_id (by omega) (by omega)]
     rfl
   simp only [parse,hlt,if_true]
   cases hf:front (b.drop at_) with
   | none =>
    rw [hf] at step
    rw [iter_inr (show (fun s:List Int × Int=>f35_b1 recs b s.1 s.2) (bs,(at_:Int)) = _ from step)]
   | some p =>
    obtain ⟨r,s⟩:=p
    rw [hf] at step
    obtain ⟨fr1,fr2,fr3,_,_,fr6⟩:=front_some hf
    rw [List.length_drop] at fr1 fr3
    rw [iter_inl (show (fun s:List Int × Int=>f35_b1 recs b s.1 s.2) (bs,(at_:Int)) = _ from step),f35_loop h hb k (at_ + s) (bs ++ [(at_:Int)]) (by omega) (by omega) (by simp; omega)]
    cases hp:parse k b (at_ + s) <;> simp [hp]
  ·have hd:decide ((at_:Int) < (b.length:Int)) = false:=by simpa using hlt
   have step:f35_b1 recs b bs (at_:Int) = some (.inr (.go bs)):=by simp only [f35_b1,hd,cond_false]
   rw [iter_inr (show (fun s:List Int × Int=>f35_b1 recs b s.1 s.2) (bs,(at_:Int)) = _ from step)]
   simp [parse,hlt]

def parsed (b:List Int):Option (List (Nat × List Int)):=parse (b.length + 1) b 0

theorem f35_eq {b:List Int} (h:By b) (hb:b.length ≤ 1000000):f35 recs b = some (match parsed b with | none=>([],false) | some l=>(l.map fun p=>((p.1:Nat):Int),true)):=by
 have:=f35_loop h hb (b.length + 1) 0 [] (by omega) (Nat.zero_le _) (by simp)
 unfold f35
 rw [show ((0:Int)) = ((0:Nat):Int) from rfl,this]
 unfold parsed
 cases parse (b.length + 1) b 0 <;> simp

theorem f11_loop {b:List Int} (h:By b) (hb:b.length ≤ 1000000):∀ (k at_:Nat) (out:List (List Int)),b.length - at_ < k → at_ ≤ b.length → out.length ≤ at_ →
  iter (fun s=>f11_b1 b s.1 s.2) (out,(at_:Int)) = some (match parse k b at_ with | none=>.ret ([],3) | some l=>.go (out ++ l.map (·.2)))
 | 0,_,_,hk,_,_=>by omega
 | k + 1,at_,out,hk,ha,hbs=>by
  by_cases hlt:at_ < b.length
  ·have hd:decide ((at_:Int) < (b.length:Int)) = true:=by simpa using hlt
   have hn:=num_bound (h.drop at_)
   have step:f11_b1 b out (at_:Int) = match front (b.drop at_) with | none=>some (.inr (.ret ([],3))) | some (r,s)=>some (.inl (out ++ [r],((at_ + s:Nat):Int))):=by
    simp only [f11_b1,hd,cond_true]
    rw [f38_eq h at_ (by omega)]
    simp only [Option.bind_some,cond_or]
    have e4:w64 ((at_:Int) + 4) = ((at_ + 4:Nat):Int):=by rw [w64_id (by omega) (by omega)]; omega
    have e8:w64 ((at_:Int) + 8) = ((at_ + 8:Nat):Int):=by rw [w64_id (by omega) (by omega)]; omega
    rw [e4,e8]
    by_cases h4:at_ + 4 ≤ b.length
    ·rw [if_pos h4]
     obtain ⟨n,hnn⟩:∃ n:Nat,num (b.drop at_) = (n:Int):=⟨(num (b.drop at_)).toNat,by omega⟩
     have e9:w64 (((at_ + 8:Nat):Int) + n) = ((at_ + 8 + n:Nat):Int):=by rw [w64_id (by omega) (by omega)]; omega
     have e5:w64 (((at_ + 4:Nat):Int) + n) = ((at_ + 4 + n:Nat):Int):=by rw [w64_id (by omega) (by omega)]; omega
     have e10:w64 ((8:Int) + n) = ((8 + n:Nat):Int):=by rw [w64_id (by omega) (by omega)]; omega
     have e11:w64 ((at_:Int) + ((8 + n:Nat):Int)) = ((at_ + (n + 8):Nat):Int):=by rw [w64_id (by omega) (by omega)]; omega
     rw [hnn,e9,e5,e10,e11]
     simp only [Int.toNat_natCast]
     rcases Bool.eq_false_or_eq_true ((decide ((n:Int) < 0) || decide ((n:Int) > 1000)) || decide (((at_ + 8 + n:Nat):Int) > (b.length:Int))) with hc | hc
     ·rw [hc,front_neg hnn (by simp only [Bool.or_eq_true,decide_eq_true_eq] at hc; simp only [List.length_drop]; omega)]
      rfl
     ·rw [hc]
      simp only [Bool.or_eq_false_iff,decide_eq_false_iff_not] at hc
      rw [cond_false,f38_eq h (at_ + 4 + n) (by omega),if_pos (by omega)]
      simp only [Option.bind_some]
      have hdd:(b.drop at_).drop (4 + n) = b.drop (at_ + 4 + n):=by rw [List.drop_drop]; congr 1; omega
      rcases Bool.eq_false_or_eq_true (num (b.drop (at_ + 4 + n)) != (n:Int)) with hd2 | hd2
      ·have:num (b.drop (at_ + 4 + n)) ≠ (n:Int):=by simpa using hd2
       rw [hd2,front_neg hnn (by rw [hdd]; rintro ⟨_,_,h4⟩; exact this h4)]
       rfl
      ·have:num (b.drop (at_ + 4 + n)) = (n:Int):=by simpa using hd2
       rw [hd2,cond_false,if_pos ⟨by omega,by omega,by omega⟩,front_pos hnn (by simp only [List.length_drop]; omega) (by omega) (by simp only [List.length_drop]; omega) (by rw [hdd]; exact this)]
       simp only [List.length_nil,Nat.zero_add,List.nil_append,List.length_drop,List.length_take,List.length_cons,List.take_drop,List.drop_drop]
       rw [if_pos (by omega),if_pos (by omega)]
    ·rw [if_neg h4,front_short (by simp only [List.length_drop]; omega)]
     rfl
   simp only [parse,hlt,if_true]
   cases hf:front (b.drop at_) with
   | none =>
    rw [hf] at step
    rw [iter_inr (show (fun s:List (List Int) × Int=>f11_b1 b s.1 s.2) (out,(at_:Int)) = _ from step)]
   | some p =>
    obtain ⟨r,s⟩:=p
    rw [hf] at step
    obtain ⟨fr1,fr2,fr3,_,_,fr6⟩:=front_some hf
    rw [List.length_drop] at fr1 fr3
    rw [iter_inl (show (fun s:List (List Int) × Int=>f11_b1 b s.1 s.2) (out,(at_:Int)) = _ from step),f11_loop h hb k (at_ + s) (out ++ [r]) (by omega) (by omega) (by simp; omega)]
    cases hp:parse k b (at_ + s) <;> simp [hp]
  ·have hd:decide ((at_:Int) < (b.length:Int)) = false:=by simpa using hlt
   have step:f11_b1 b out (at_:Int) = some (.inr (.go out)):=by simp only [f11_b1,hd,cond_false]
   rw [iter_inr (show (fun s:List (List Int) × Int=>f11_b1 b s.1 s.2) (out,(at_:Int)) = _ from step)]
   simp [parse,hlt]

/-- What both answer. -/
def splitAns (b:List Int):List (List Int) × Int:=match parsed b with | none=>([],3) | some l=>(l.map (·.2),0)

theorem f11_eq {b:List Int} (h:By b) (hb:b.length ≤ 1000000):f11 b = some (splitAns b):=by
 have:=f11_loop h hb (b.length + 1) 0 [] (by omega) (Nat.zero_le _) (by simp)
 unfold f11 splitAns
 rw [show ((0:Int)) = ((0:Nat):Int) from rfl,this]
 unfold parsed
 cases parse (b.length + 1) b 0 <;> simp
end Go.Sx.unit

namespace Go.Sx.unit
open Go Go.Sx

theorem f37_eq (l:List Int) (h:l.length ≤ 1000000):f37 l = some l:=by
 unfold f37
 rw [if_pos (by simp; omega)]; rfl

theorem wrapR_len (r:List Int):(wrapR r).length = r.length + 8:=by simp [wrapR,mark]

theorem mark_of {l:List Int} (h:By l) {n:Nat} (hl:4 ≤ l.length) (hn:num l = (n:Int)) (h1:n ≤ 1000):l = mark n ++ l.drop 4:=by
 match l,hl with
 | a :: b :: c :: d :: r,_ =>
  have h0:=h a (by simp)
  have h1:=h b (by simp)
  have h2:=h c (by simp)
  have h3:=h d (by simp)
  simp only [num,List.getD_cons_zero,List.getD_cons_succ] at hn
  simp only [mark,List.drop_succ_cons,List.drop_zero,List.cons_append,List.nil_append,List.cons.injEq,and_true]
  omega

theorem front_wrap {l r:List Int} {s:Nat} (h:By l) (hf:front l = some (r,s)):l = wrapR r ++ l.drop s ∧ r.length ≤ 1000:=by
 obtain ⟨fr1,fr2,fr3,fr4,fr5,fr6⟩:=front_some hf
 have hb:=num_bound h
 obtain ⟨n,hn⟩:∃ n:Nat,num l = (n:Int):=⟨(num l).toNat,by omega⟩
 rw [hn] at fr2 fr3 fr4 fr5 fr6
 rw [Int.toNat_natCast] at fr3 fr4 fr5 fr6
 have hr:r.length = n:=by rw [fr5]; simp; omega
 have m1:=mark_of h (by omega) hn (by omega)
 have m2:=mark_of (h.drop (4 + n)) (by simp; omega) fr4 (by omega)
 refine ⟨?_,by omega⟩
 have e:l.drop 4 = r ++ l.drop (4 + n):=by
  have:=(List.take_append_drop n (l.drop 4)).symm
  rw [List.drop_drop,← fr5] at this
  exact this
 rw [List.drop_drop] at m2
 unfold wrapR
 rw [hr]
 calc l = mark n ++ l.drop 4:=m1
  _ = mark n ++ (r ++ l.drop (4 + n)):=by rw [e]
  _ = mark n ++ (r ++ (mark n ++ l.drop (4 + n + 4))):=by rw [← m2]
  _ = mark n ++ (r ++ mark n) ++ l.drop s:=by rw [show s = 4 + n + 4 by omega]; simp

theorem parse_wraps {b:List Int} (h:By b):∀ (k at_:Nat) {l:List (Nat × List Int)},parse k b at_ = some l → at_ ≤ b.length → b.drop at_ = (l.map (·.2)).flatMap wrapR ∧ ((l.map (·.2)).all fun r=>decide (r.length ≤ 1000)) = true
 | 0,_,_,h,_=>by cases h
 | k + 1,at_,l,hp,ha=>by
  unfold parse at hp
  split at hp
  ·split at hp
   ·cases hp
   ·rename_i r s hf
    obtain ⟨fr1,fr2,fr3,_,_,fr6⟩:=front_some hf
    rw [List.length_drop] at fr1 fr3
    cases hp':parse k b (at_ + s) with
    | none=>rw [hp'] at hp; cases hp
    | some l' =>
     rw [hp'] at hp
     cases hp
     obtain ⟨g1,g2⟩:=parse_wraps h k (at_ + s) hp' (by omega)
     obtain ⟨w1,w2⟩:=front_wrap (h.drop at_) hf
     rw [List.drop_drop] at w1
     refine ⟨?_,by simp [w2]; simpa using g2⟩
     rw [List.map_cons,List.flatMap_cons,← g1]
     exact w1
  ·cases hp
   exact ⟨by simp; omega,rfl⟩

theorem num_mark {n:Nat} (t:List Int):num (mark n ++ t) = (n:Int):=by
 simp only [num,mark,List.cons_append,List.nil_append,List.getD_cons_zero,List.getD_cons_succ]
 omega

theorem wrap_front (r t:List Int) (h:r.length ≤ 1000):front (wrapR r ++ t) = some (r,r.length + 8):=by
 have e:wrapR r ++ t = mark r.length ++ (r ++ (mark r.length ++ t)):=by simp [wrapR]
 have hm:(mark r.length).length = 4:=rfl
 have hd:(wrapR r ++ t).drop 4 = r ++ (mark r.length ++ t):=by
  rw [e]; exact List.drop_left' hm
 have hd2:(wrapR r ++ t).drop (4 + r.length) = mark r.length ++ t:=by
  rw [← List.drop_drop,hd]; exact List.drop_left' rfl
 have:=front_pos (l:=wrapR r ++ t) (n:=r.length) (by rw [e]; exact num_mark _) (by simp [wrapR_len]; omega) h (by simp [wrapR_len]) (by rw [hd2]; exact num_mark _)
 rw [this,hd,List.take_left' rfl]

end Go.Sx.unit

namespace Go.Sx.unit
open Go Go.Sx

theorem iter_inv {S X:Type} (body:S → Option (S ⊕ X)) (I:Nat → S → Prop) (Q:X → Prop) (n:Nat)
  (hs:∀ i s,i < n → I i s → (∃ x,body s = some (.inr x) ∧ Q x) ∨ ∃ s',body s = some (.inl s') ∧ I (i + 1) s')
  (he:∀ s,I n s → ∃ x,body s = some (.inr x) ∧ Q x) (s0:S) (h0:I 0 s0):∃ x,iter body s0 = some x ∧ Q x:=by
 have key:∀ k i s,i + k = n → I i s → ∃ x,iter body s = some x ∧ Q x:=by
  intro k
  induction k with
  | zero =>
   intro i s hi hI
   obtain rfl:i = n:=by omega
   obtain ⟨x,h1,h2⟩:=he s hI
   exact ⟨x,iter_inr h1,h2⟩
  | succ k ih =>
   intro i s hi hI
   rcases hs i s (by omega) hI with ⟨x,h1,h2⟩ | ⟨s',h1,h2⟩
   ·exact ⟨x,iter_inr h1,h2⟩
   ·obtain ⟨x,h3,h4⟩:=ih (i + 1) s' (by omega) h2
    exact ⟨x,by rw [iter_inl h1,h3],h4⟩
 exact key n 0 s0 (by omega) h0

theorem firstIdx_at (xs:List Int) (i:Nat) (hi:i < xs.length):(ByteArray.mk (xs.map fun n=>UInt8.ofNat n.toNat).toArray)[i]! = UInt8.ofNat (xs[i]).toNat:=by
 rw [getElem!_pos _ i (by simpa [ByteArray.size] using hi)]
 show ((xs.map fun n=>UInt8.ofNat n.toNat).toArray)[i]'(by simpa using hi) = _
 simp

theorem byte_eq {x:Int} (h:0 ≤ x ∧ x < 256):(UInt8.ofNat x.toNat == (Int.toNat 10).toUInt8) = (x == 10):=by
 obtain ⟨n,rfl⟩:=Int.eq_ofNat_of_zero_le h.1
 have hn:n < 256:=by omega
 rw [Int.toNat_natCast]
 have:(UInt8.ofNat n == (10:UInt8)) = (n == 10):=by
  rw [Bool.eq_iff_iff]
  simp only [beq_iff_eq,← UInt8.toNat_inj,UInt8.toNat_ofNat']
  rw [Nat.mod_eq_of_lt (by omega)]
  rfl
 rw [show (Int.toNat 10).toUInt8 = (10:UInt8) from rfl,this]
 rw [Bool.eq_iff_iff]
 simp only [beq_iff_eq]
 omega

theorem idxB_miss {xs:List Int} (h:By xs) (hm:(10:Int) ∉ xs):idxB xs 10 = -1:=by
 unfold idxB firstIdx
 have:((List.range (ByteArray.mk (xs.map fun n=>UInt8.ofNat n.toNat).toArray).size).find? fun i=>(ByteArray.mk (xs.map fun n=>UInt8.ofNat n.toNat).toArray)[i]! == (Int.toNat 10).toUInt8) = none:=by
  rw [List.find?_eq_none]
  intro i hi
  have hi:i < xs.length:=by simpa [ByteArray.size] using hi
  rw [firstIdx_at xs i hi,byte_eq (h _ (List.getElem_mem hi))]
  intro hc
  exact hm (by rw [← (beq_iff_eq.1 hc)]; exact List.getElem_mem hi)
 rw [this]

theorem idxB_hit {r t:List Int} (h:By (r ++ 10 :: t)) (hm:(10:Int) ∉ r):idxB (r ++ 10 :: t) 10 = (r.length:Int):=by
 unfold idxB firstIdx
 have:((List.range (ByteArray.mk ((r ++ 10 :: t).map fun n=>UInt8.ofNat n.toNat).toArray).size).find? fun i=>(ByteArray.mk ((r ++ 10 :: t).map fun n=>UInt8.ofNat n.toNat).toArray)[i]! == (Int.toNat 10).toUInt8) = some r.length:=by
  rw [List.find?_range_eq_some]
  refine ⟨?_,by simp [ByteArray.size],fun j hj=>?_⟩
  ·rw [firstIdx_at _ _ (by simp)]
   simp
  ·have hj':j < (r ++ 10 :: t).length:=by simp; omega
   rw [firstIdx_at _ _ hj',byte_eq (h _ (List.getElem_mem hj')),List.getElem_append_left hj]
   simp only [Bool.not_eq_true',beq_eq_false_iff_ne]
   intro hc
   exact hm (hc ▸ List.getElem_mem hj)
 rw [this]

def formOf:Bool → List UInt8
 | true=>[108,105,110,101,115]
 | false=>recs

/-- A record as it stands in a file. -/
def wrapF (fm:Bool) (r:List Int):List Int:=if fm then r ++ [10] else wrapR r
/-- A record that can be written. -/
def okF (fm:Bool) (r:List Int):Prop:=r.length ≤ 1000 ∧ By r ∧ (fm = true → (10:Int) ∉ r)

theorem wrapF_by {fm:Bool} {r:List Int} (h:okF fm r):By (wrapF fm r):=by
 unfold wrapF
 split
 ·exact h.2.1.append fun x hx=>by simp at hx; omega
 ·exact (mark_by h.1).append (h.2.1.append (mark_by h.1))

theorem wrapF_len (fm:Bool) (r:List Int):0 < (wrapF fm r).length ∧ (wrapF fm r).length ≤ r.length + 8:=by
 unfold wrapF
 split
 ·simp
 ·rw [wrapR_len]; omega

theorem f36_wrap {fm:Bool} {r:List Int} (h:okF fm r) (t:List Int) (ht:By t) (hl:t.length ≤ 900000):f36 (formOf fm) (wrapF fm r ++ t) = some (r,((wrapF fm r).length:Int),true):=by
 have hb:=(wrapF_by h).append ht
 have hw:=wrapF_len fm r
 have h1:=h.1
 cases fm with
 | false =>
  show f36 recs _ = _
  rw [f36_eq hb (by simp only [List.length_append]; omega)]
  show some (outF (front (wrapR r ++ t))) = _
  rw [wrap_front r t h.1]
  simp only [outF,wrapF,Bool.false_eq_true,if_false,wrapR_len]
 | true =>
  have e:wrapF true r ++ t = r ++ 10 :: t:=by simp [wrapF]
  rw [e] at hb ⊢
  unfold f36 f43
  rw [idxB_hit hb (h.2.2 rfl)]
  have c1:(((r ++ 10 :: t).length:Int) == 0) = false:=beq_eq_false_iff_ne.mpr (by simp; omega)
  rw [c1]
  simp only [formOf,beq_self_eq_true,cond_true,cond_false,Option.bind_some]
  rw [decide_eq_true (by omega),cond_true,if_pos ⟨by omega,by simp; omega⟩,w64_id (by omega) (by omega)]
  simp [wrapF]

theorem f36_nil (fm:Bool):f36 (formOf fm) [] = some ([],0,false):=by
 unfold f36
 rfl

/-- Records in a file. -/
def W (fm:Bool) (l:List (List Int)):List Int:=l.flatMap (wrapF fm)
theorem W_append (fm:Bool) (l m:List (List Int)):W fm (l ++ m) = W fm l ++ W fm m:=List.flatMap_append
theorem W_cons (fm:Bool) (r:List Int) (m:List (List Int)):W fm (r :: m) = wrapF fm r ++ W fm m:=List.flatMap_cons
theorem W_one (fm:Bool) (r:List Int):W fm [r] = wrapF fm r:=by rw [W_cons]; simp [W]
theorem W_len (fm:Bool):∀ l:List (List Int),l.length ≤ (W fm l).length
 | []=>by simp
 | r :: l=>by have:=W_len fm l; have:=wrapF_len fm r; rw [W_cons,List.length_append,List.length_cons]; omega

/-- Where records begin. -/
def begs (fm:Bool):List (List Int) → Nat → List Int
 | [],_=>[]
 | r :: l,n=>(n:Int) :: begs fm l (n + (wrapF fm r).length)

theorem begs_len (fm:Bool):∀ (l:List (List Int)) (n:Nat),(begs fm l n).length = l.length
 | [],_=>rfl
 | r :: l,n=>by simp [begs,begs_len fm l]

theorem begs_append (fm:Bool):∀ (l m:List (List Int)) (n:Nat),begs fm (l ++ m) n = begs fm l n ++ begs fm m (n + (W fm l).length)
 | [],m,n=>by simp [begs,W]
 | r :: l,m,n=>by simp [begs,begs_append fm l,W_cons,Nat.add_assoc]

end Go.Sx.unit

namespace Go.Sx.unit
open Go Go.Sx

theorem W_take_le (fm:Bool) (l:List (List Int)) (i:Nat):(W fm (l.take i)).length ≤ (W fm l).length:=by
 have:l.take i ++ l.drop i = l:=List.take_append_drop i l
 rw [← this,W_append,this,List.length_append]
 omega

theorem W_take (fm:Bool) (l:List (List Int)) (i:Nat):(W fm l).take (W fm (l.take i)).length = W fm (l.take i):=by
 have:l.take i ++ l.drop i = l:=List.take_append_drop i l
 conv=>lhs; rw [← this,W_append,this]
 exact List.take_left' rfl

theorem W_drop (fm:Bool) (l:List (List Int)) (i:Nat):(W fm l).drop (W fm (l.take i)).length = W fm (l.drop i):=by
 have:l.take i ++ l.drop i = l:=List.take_append_drop i l
 conv=>lhs; rw [← this,W_append,this]
 exact List.drop_left' rfl

theorem W_take_succ (fm:Bool) (l:List (List Int)) (i:Nat) (hi:i < l.length):W fm (l.take (i + 1)) = W fm (l.take i) ++ wrapF fm l[i]:=by
 rw [List.take_succ_eq_append_getElem hi,W_append,W_one]

theorem form_ne (fm:Bool):(formOf fm == ([]:List UInt8)) = false:=by cases fm <;> rfl
theorem form_seq (fm:Bool):(cond (formOf fm == ([108,105,110,101,115]:List UInt8)) (some true) (some (formOf fm == ([114,101,99,111,114,100,115]:List UInt8)))) = some true:=by cases fm <;> rfl
theorem form_dir (fm:Bool):(formOf fm == ([100,105,114,101,99,116]:List UInt8)) = false:=by cases fm <;> rfl
theorem form_str (fm:Bool):(formOf fm == ([115,116,114,101,97,109]:List UInt8)) = false:=by cases fm <;> rfl

theorem f41_form (fm:Bool) (n:Int) (b:List Int) (a:Int) (p:Bool):f41 (T64.mk (formOf fm) n b a p) = some false:=by
 show some (formOf fm == []) = _
 rw [form_ne]
theorem f42_form (fm:Bool) (n:Int) (b:List Int) (a:Int) (p:Bool):f42 (T64.mk (formOf fm) n b a p) = some true:=by
 show (cond (formOf fm == ([108,105,110,101,115]:List UInt8)) (some true) (some (formOf fm == ([114,101,99,111,114,100,115]:List UInt8)))).bind _ = _
 rw [form_seq]
 rfl

section
variable {fm:Bool} {n:Int} {l:List (List Int)}

theorem begs_last (i:Nat) (hi:i < l.length):(begs fm (l.take (i + 1)) 0).getD i default = ((W fm (l.take i)).length:Int):=by
 rw [List.take_succ_eq_append_getElem hi,begs_append]
 have hb:(begs fm (l.take i) 0).length = i:=by rw [begs_len]; simp; omega
 rw [List.getD_eq_getElem?_getD,List.getElem?_append_right (by omega),hb]
 simp [begs]

end
end Go.Sx.unit

namespace Go.Sx.unit
open Go Go.Sx

theorem awakeV:f9 = some true:=f9_le 30 true (by kernel_rfl)

theorem clone_eq (l:List Int) (h:l.length ≤ 1000000):f37 l = some l:=by
 unfold f37
 rw [if_pos (by simp; omega)]; rfl

end Go.Sx.unit

namespace Go.Sx.unit
open Go Go.Sx

/-- Zeros behind, up to so many. -/
def padTo (d:List Int) (n:Nat):List Int:=d ++ List.replicate (n - d.length) 0

def put (d:List Int) (a:Nat) (b:List Int):List Int:=putL (padTo d (a + b.length)) a b

theorem padTo_len (d:List Int) (n:Nat):(padTo d n).length = max d.length n:=by
 simp only [padTo,List.length_append,List.length_replicate]; omega

theorem put_len (d:List Int) (a:Nat) (b:List Int):(put d a b).length = max d.length (a + b.length):=by
 unfold put
 rw [← putL_len _ _ _ (by rw [padTo_len]; omega),padTo_len]

/-- Growing, and copying into it. -/
theorem grown_eq (a:Nat) (b d:List Int) (h0:List UInt8) (l p:Int) (q:Bool) (hb:b.length ≤ 30000) (hd:d.length ≤ 20000) (ha:a ≤ 100000000) :
  f44o (a:Int) b (T64.mk h0 l d p q) = some (if a + b.length ≤ 20000 then (put d a b,0) else ([],4)):=by
 have ew:w64 ((a:Int) + (b.length:Int)) = ((a + b.length:Nat):Int):=by rw [w64_id (by omega) (by omega)]; omega
 have loop:a + b.length ≤ 20000 → ∀ (k:Nat) (v:List Int),a + b.length - v.length = k → v.length ≤ 20000 → iter (fun s=>f44o_b1 (a:Int) b s) v = some (Out.go (padTo v (a + b.length))):=by
  intro hab k
  induction k with
  | zero =>
   intro v hk hv
   apply iter_inr
   have:decide ((v.length:Int) < ((a + b.length:Nat):Int)) = false:=decide_eq_false (by omega)
   simp only [f44o_b1,ew,this,cond_false,padTo,hk,List.replicate_zero,List.append_nil]
  | succ k ih =>
   intro v hk hv
   have h1:decide ((v.length:Int) < ((a + b.length:Nat):Int)) = true:=decide_eq_true (by omega)
   have h2:(v.length + [(0:Int)].length) * 1 ≤ 140737488355328:=by simp only [List.length_cons,List.length_nil]; omega
   rw [iter_inl (s':=v ++ [0]) (by simp only [f44o_b1,ew,h1,cond_true,if_pos h2]),ih (v ++ [0]) (by simp only [List.length_append,List.length_cons,List.length_nil]; omega) (by simp only [List.length_append,List.length_cons,List.length_nil]; omega)]
   unfold padTo
   rw [List.append_assoc,List.singleton_append,← List.replicate_succ]
   congr 4
   simp only [List.length_append,List.length_cons,List.length_nil]; omega
 unfold f44o
 rw [ew]
 by_cases hab:a + b.length ≤ 20000
 ·have c1:decide ((a:Int) > 20000) = false:=decide_eq_false (by omega)
  have c2:decide (((a + b.length:Nat):Int) > 20000) = false:=decide_eq_false (by omega)
  have g:(0:Int) ≤ a ∧ (a:Int) + (b.length:Int) ≤ ((padTo d (a + b.length)).length:Int):=by rw [padTo_len]; omega
  simp only [c1,c2,cond_false,Option.bind_some]
  rw [clone_eq d (by omega)]
  simp only [Option.bind_some]
  rw [loop hab _ d rfl hd,if_pos hab]
  simp only [Option.bind_some,if_pos g,Int.toNat_natCast]
  rfl
 ·have c2:decide (((a + b.length:Nat):Int) > 20000) = true:=decide_eq_true (by omega)
  rw [c2,if_neg hab]
  cases decide ((a:Int) > 20000) <;> rfl

abbrev dir:List UInt8:=[100,105,114,101,99,116]
abbrev str:List UInt8:=[115,116,114,101,97,109]

/-- What is filled up to a record's length. -/
def full (l:Nat) (b:List Int):List Int:=b ++ List.replicate (l - b.length) 0

theorem full_len {l:Nat} {b:List Int} (h:b.length ≤ l):(full l b).length = l:=by
 simp only [full,List.length_append,List.length_replicate]; omega

end Go.Sx.unit

namespace Go.Sx.unit
open Go Go.Sx

/-- A record that may stand in a file. -/
def okR (fm:Bool) (r:List Int):Prop:=(fm = false → r.length ≤ 1000) ∧ By r ∧ (fm = true → (10:Int) ∉ r)

theorem wrapR_by {fm:Bool} {r:List Int} (h:okR fm r):By (wrapF fm r):=by
 cases fm with
 | true=>exact h.2.1.append fun x hx=>by simp at hx; omega
 | false=>exact (mark_by (h.1 rfl)).append (h.2.1.append (mark_by (h.1 rfl)))

theorem WR_by {fm:Bool} {l:List (List Int)} (h:∀ r ∈ l,okR fm r):By (W fm l):=fun x hx=>by
 obtain ⟨r,hr,hx⟩:=List.mem_flatMap.1 hx
 exact wrapR_by (h r hr) x hx

theorem first_wrap {fm:Bool} {r:List Int} (h:okR fm r) (hr:r.length ≤ 100000) (t:List Int) (ht:By t) (hl:t.length ≤ 800000):f36 (formOf fm) (wrapF fm r ++ t) = some (r,((wrapF fm r).length:Int),true):=by
 cases fm with
 | false=>exact f36_wrap (fm:=false) ⟨h.1 rfl,h.2.1,fun e=>(by cases e)⟩ t ht (by omega)
 | true =>
  have hb:=(wrapR_by h).append ht
  have hw:=wrapF_len true r
  have e:wrapF true r ++ t = r ++ 10 :: t:=by simp [wrapF]
  rw [e] at hb ⊢
  unfold f36 f43
  rw [idxB_hit hb (h.2.2 rfl)]
  have c1:(((r ++ 10 :: t).length:Int) == 0) = false:=beq_eq_false_iff_ne.mpr (by simp; omega)
  rw [c1]
  simp only [formOf,beq_self_eq_true,cond_true,cond_false,Option.bind_some]
  rw [decide_eq_true (by omega),cond_true,if_pos ⟨by omega,by simp; omega⟩,w64_id (by omega) (by omega)]
  simp [wrapF]

/-- A last line without an end. -/
theorem first_tail {t:List Int} (h:By t) (hm:(10:Int) ∉ t) (hn:t ≠ []) (hl:t.length ≤ 100000):f36 (formOf true) t = some (t,(t.length:Int),true):=by
 unfold f36 f43
 have hp:0 < t.length:=List.length_pos_iff.2 hn
 have c1:((t.length:Int) == 0) = false:=beq_eq_false_iff_ne.mpr (by omega)
 rw [c1,idxB_miss h hm]
 rfl

/-- A file: whole records, and perhaps a last line without an end. -/
structure Fil where
 fm:Bool
 ini:List (List Int)
 tl:Option (List Int)

def Fil.recs (s:Fil):List (List Int):=s.ini ++ s.tl.toList
def Fil.bytes (s:Fil):List Int:=W s.fm s.ini ++ s.tl.getD []
/-- Where so many records end. -/
def Fil.off (s:Fil) (p:Nat):Nat:=if p ≤ s.ini.length then (W s.fm (s.ini.take p)).length else s.bytes.length

structure Fil.Ok (s:Fil):Prop where
 ini:∀ r ∈ s.ini,okR s.fm r
 tl:∀ t,s.tl = some t → s.fm = true ∧ By t ∧ (10:Int) ∉ t ∧ t ≠ []
 len:s.bytes.length ≤ 20000

theorem Fil.Ok.by {s:Fil} (h:s.Ok):By s.bytes:=by
 unfold Fil.bytes
 refine (WR_by h.ini).append ?_
 cases ht:s.tl with
 | none=>exact fun x hx=>by simp at hx
 | some t=>exact (h.tl t ht).2.1

theorem Fil.Ok.each {s:Fil} (h:s.Ok):∀ r ∈ s.recs,okR s.fm r:=fun r hr=>by
 rcases List.mem_append.1 hr with hr | hr
 ·exact h.ini r hr
 ·obtain ⟨h1,h2,h3,_⟩:=h.tl r (by simpa using hr)
  exact ⟨fun e=>(by rw [h1] at e; cases e),h2,fun _=>h3⟩

theorem Fil.recs_len (s:Fil):s.recs.length = s.ini.length + (if s.tl.isSome then 1 else 0):=by
 unfold Fil.recs
 cases s.tl <;> simp

theorem Fil.bytes_len (s:Fil):s.bytes.length = (W s.fm s.ini).length + (s.tl.getD []).length:=by
 unfold Fil.bytes; rw [List.length_append]

theorem Fil.off_le (s:Fil) (p:Nat):s.off p ≤ s.bytes.length:=by
 unfold Fil.off
 split
 ·have:=W_take_le s.fm s.ini p
  have:=s.bytes_len
  omega
 ·exact Nat.le_refl _

theorem Fil.off_zero (s:Fil):s.off 0 = 0:=by
 unfold Fil.off; rw [if_pos (Nat.zero_le _)]; rfl

theorem Fil.off_end (s:Fil):s.off s.recs.length = s.bytes.length:=by
 unfold Fil.off
 rw [s.recs_len,s.bytes_len]
 cases ht:s.tl with
 | none=>simp
 | some t=>simp; intro h; omega

theorem Fil.take_off (s:Fil) (p:Nat):s.bytes.take (s.off p) = if p ≤ s.ini.length then W s.fm (s.ini.take p) else s.bytes:=by
 unfold Fil.off
 split
 ·unfold Fil.bytes
  rw [List.take_append_of_le_length (W_take_le s.fm s.ini p),W_take]
 ·exact List.take_length

theorem Fil.drop_off {s:Fil} {p:Nat} (h:p ≤ s.ini.length):s.bytes.drop (s.off p) = W s.fm (s.ini.drop p) ++ s.tl.getD []:=by
 unfold Fil.off
 rw [if_pos h]
 unfold Fil.bytes
 rw [List.drop_append_of_le_length (W_take_le s.fm s.ini p),W_drop]

theorem Fil.recs_at {s:Fil} {p:Nat} (h:p < s.ini.length):s.recs.getD p default = s.ini[p]:=by
 unfold Fil.recs
 rw [List.getD_eq_getElem?_getD,List.getElem?_append_left h,List.getElem?_eq_getElem h]; rfl

theorem Fil.off_succ {s:Fil} {p:Nat} (h:p < s.ini.length):s.off (p + 1) = s.off p + (wrapF s.fm s.ini[p]).length:=by
 unfold Fil.off
 rw [if_pos (by omega),if_pos (by omega),W_take_succ s.fm s.ini p h,List.length_append]

theorem rec_len {s:Fil} (h:s.Ok) {p:Nat} (hp:p < s.ini.length):(s.ini[p]).length ≤ 20000:=by
 have h1:=s.off_succ hp
 have h2:=s.off_le (p + 1)
 have h3:=h.len
 have hw:(s.ini[p]).length ≤ (wrapF s.fm s.ini[p]).length:=by
  unfold wrapF; split
  ·simp
  ·rw [wrapR_len]; omega
 omega

/-- The next record. -/
theorem first_at {s:Fil} (h:s.Ok) {p:Nat} (hp:p < s.recs.length):f36 (formOf s.fm) (s.bytes.drop (s.off p)) = some (s.recs.getD p default,((s.off (p + 1):Nat):Int) - ((s.off p:Nat):Int),true):=by
 have hl:=h.len
 by_cases hi:p < s.ini.length
 ·rw [Fil.drop_off (by omega),s.recs_at hi,List.drop_eq_getElem_cons hi,W_cons,List.append_assoc]
  have hby:By (W s.fm (s.ini.drop (p + 1)) ++ s.tl.getD []):=by
   have:=h.by
   have:=this.drop (s.off (p + 1))
   rwa [Fil.drop_off (by omega)] at this
  have hle:(W s.fm (s.ini.drop (p + 1)) ++ s.tl.getD []).length ≤ 20000:=by
   rw [← Fil.drop_off (s:=s) (p:=p + 1) (by omega),List.length_drop]; omega
  rw [first_wrap (h.ini _ (List.getElem_mem hi)) (by have:=rec_len h hi; omega) _ hby (by omega),s.off_succ hi]
  congr 3
  omega
 ·have hrl:=s.recs_len
  cases ht:s.tl with
  | none=>rw [ht] at hrl; simp at hrl; omega
  | some t =>
   obtain ⟨h1,h2,h3,h4⟩:=h.tl t ht
   rw [ht] at hrl
   simp at hrl
   obtain rfl:p = s.ini.length:=by omega
   have hd:s.bytes.drop (s.off s.ini.length) = t:=by
    rw [Fil.drop_off (Nat.le_refl _),List.drop_length,ht]; rfl
   have hg:s.recs.getD s.ini.length default = t:=by
    unfold Fil.recs
    rw [List.getD_eq_getElem?_getD,List.getElem?_append_right (Nat.le_refl _),ht]; simp
   have hbl:=s.bytes_len
   rw [ht] at hbl
   have ho:s.off (s.ini.length + 1) = s.bytes.length:=by unfold Fil.off; rw [if_neg (by omega)]
   have ho2:s.off s.ini.length = (W s.fm s.ini).length:=by unfold Fil.off; rw [if_pos (Nat.le_refl _),List.take_length]
   rw [hd,hg,ho,ho2,h1,first_tail h2 h3 h4 (by simp at hbl; omega)]
   simp at hbl
   congr 3
   rw [h1] at hbl
   omega

theorem first_end {s:Fil}:f36 (formOf s.fm) (s.bytes.drop (s.off s.recs.length)) = some ([],0,false):=by
 rw [s.off_end,List.drop_length]
 exact f36_nil _

/-- Where records begin. -/
theorem begins_loop {fm:Bool}:∀ (l:List (List Int)) (pre rest:List Int) (bs:List Int),(∀ r ∈ l,okR fm r) → By rest → (pre ++ (W fm l ++ rest)).length ≤ 90000 → bs.length ≤ pre.length →
  iter (fun s=>f35_b1 (formOf fm) (pre ++ (W fm l ++ rest)) s.1 s.2) (bs,(pre.length:Int)) = iter (fun s=>f35_b1 (formOf fm) (pre ++ (W fm l ++ rest)) s.1 s.2) (bs ++ begs fm l pre.length,((pre.length + (W fm l).length:Nat):Int))
 | [],pre,rest,bs,_,_,_,_=>by simp [begs,W]
 | r :: l,pre,rest,bs,h,hb,hl,hbs=>by
  have hr:=h r (by simp)
  have hW:By (W fm l ++ rest):=(WR_by fun r hr=>h r (by simp [hr])).append hb
  have hw:=wrapF_len fm r
  have e:pre ++ (W fm (r :: l) ++ rest) = (pre ++ wrapF fm r) ++ (W fm l ++ rest):=by rw [W_cons,List.append_assoc,List.append_assoc]
  have hl2:pre.length + ((wrapF fm r).length + ((W fm l).length + rest.length)) ≤ 90000:=by rw [e] at hl; simpa [Nat.add_assoc] using hl
  have hrl:r.length ≤ (wrapF fm r).length:=by
   unfold wrapF; split
   ·simp
   ·rw [wrapR_len]; omega
  have step:f35_b1 (formOf fm) ((pre ++ wrapF fm r) ++ (W fm l ++ rest)) bs (pre.length:Int) = some (.inl (bs ++ [(pre.length:Int)],((pre ++ wrapF fm r).length:Int))):=by
   have hd:decide ((pre.length:Int) < (((pre ++ wrapF fm r) ++ (W fm l ++ rest)).length:Int)) = true:=decide_eq_true (by simp only [List.length_append]; omega)
   simp only [f35_b1,hd,cond_true]
   rw [if_pos ⟨by omega,by simp only [List.length_append]; omega⟩]
   simp only [Int.toNat_natCast,List.take_length]
   rw [List.append_assoc,List.drop_left' rfl]
   rw [first_wrap hr (by omega) _ hW (by simp only [List.length_append]; omega)]
   simp only [Option.bind_some,Bool.not_true,cond_false]
   rw [if_pos (by simp; omega),w64_id (by omega) (by omega)]
   simp
  rw [e]
  rw [iter_inl (show (fun s:List Int × Int=>f35_b1 (formOf fm) ((pre ++ wrapF fm r) ++ (W fm l ++ rest)) s.1 s.2) (bs,(pre.length:Int)) = _ from step)]
  rw [begins_loop l (pre ++ wrapF fm r) rest _ (fun r hr=>h r (by simp [hr])) hb (by simp only [List.length_append]; omega) (by simp; omega)]
  simp [begs,W_cons,Nat.add_assoc]

theorem begins_W {fm:Bool} {l:List (List Int)} (h:∀ r ∈ l,okR fm r) (hl:(W fm l).length ≤ 90000):f35 (formOf fm) (W fm l) = some (begs fm l 0,true):=by
 have:=begins_loop l [] [] [] h (fun x hx=>by simp at hx) (by simpa using hl) (by simp)
 simp only [List.nil_append,List.append_nil,List.length_nil,Nat.zero_add] at this
 unfold f35
 rw [show ((0:Int)) = ((0:Nat):Int) from rfl,this,iter_inr (x:=.go (begs fm l 0))]
 ·rfl
 ·show f35_b1 (formOf fm) (W fm l) (begs fm l 0) ((W fm l).length:Int) = _
  simp only [f35_b1,show decide (((W fm l).length:Int) < ((W fm l).length:Int)) = false from by simp,cond_false]

/-- The begins of so many records. -/
def Fil.begs (s:Fil) (p:Nat):List Int:=if p ≤ s.ini.length then Go.Sx.unit.begs s.fm (s.ini.take p) 0 else Go.Sx.unit.begs s.fm s.ini 0 ++ [((W s.fm s.ini).length:Int)]

theorem Fil.begs_len {s:Fil} {p:Nat} (hp:p ≤ s.recs.length):(s.begs p).length = p:=by
 have hrl:=s.recs_len
 unfold Fil.begs
 split
 ·rw [Go.Sx.unit.begs_len,List.length_take]; omega
 ·rw [List.length_append,Go.Sx.unit.begs_len]
  cases ht:s.tl with
  | none=>rw [ht] at hrl; simp at hrl; omega
  | some t=>rw [ht] at hrl; simp at hrl ⊢; omega

theorem Fil.begs_last {s:Fil} {p:Nat} (hp:p < s.recs.length):(s.begs (p + 1)).getD p default = ((s.off p:Nat):Int):=by
 have hrl:=s.recs_len
 unfold Fil.begs
 split
 ·rw [Go.Sx.unit.begs_last p (by omega)]
  unfold Fil.off
  rw [if_pos (by omega)]
 ·obtain rfl:p = s.ini.length:=by split at hrl <;> omega
  have hb:=Go.Sx.unit.begs_len s.fm s.ini 0
  rw [List.getD_eq_getElem?_getD,List.getElem?_append_right (by omega),hb]
  unfold Fil.off
  rw [if_pos (Nat.le_refl _),List.take_length]
  simp

theorem Fil.f35_off {s:Fil} (h:s.Ok) {p:Nat} (hp:p ≤ s.recs.length):f35 (formOf s.fm) (s.bytes.take (s.off p)) = some (s.begs p,true):=by
 have hl:=h.len
 have hbl:=s.bytes_len
 rw [s.take_off]
 unfold Fil.begs
 split
 ·refine begins_W (fun r hr=>h.ini r (List.mem_of_mem_take hr)) ?_
  have:=W_take_le s.fm s.ini p
  omega
 ·have hrl:=s.recs_len
  cases ht:s.tl with
  | none=>rw [ht] at hrl; simp at hrl; omega
  | some t =>
   obtain ⟨h1,h2,h3,h4⟩:=h.tl t ht
   have hb:s.bytes = W s.fm s.ini ++ t:=by unfold Fil.bytes; rw [ht]; rfl
   rw [ht] at hbl
   simp at hbl
   have hp0:0 < t.length:=List.length_pos_iff.2 h4
   have:=begins_loop s.ini [] t [] h.ini h2 (by simp; omega) (by simp)
   simp only [List.nil_append,List.length_nil,Nat.zero_add] at this
   have hWl:=W_len s.fm s.ini
   unfold f35
   rw [hb,show ((0:Int)) = ((0:Nat):Int) from rfl,this]
   have step:f35_b1 (formOf s.fm) (W s.fm s.ini ++ t) (Go.Sx.unit.begs s.fm s.ini 0) ((W s.fm s.ini).length:Int) = some (.inl (Go.Sx.unit.begs s.fm s.ini 0 ++ [((W s.fm s.ini).length:Int)],((W s.fm s.ini ++ t).length:Int))):=by
    have hd:decide (((W s.fm s.ini).length:Int) < ((W s.fm s.ini ++ t).length:Int)) = true:=decide_eq_true (by simp only [List.length_append]; omega)
    simp only [f35_b1,hd,cond_true]
    rw [if_pos ⟨by omega,by simp only [List.length_append]; omega⟩]
    simp only [Int.toNat_natCast,List.take_length,List.drop_left' rfl]
    rw [h1,first_tail h2 h3 h4 (by omega)]
    simp only [Option.bind_some,Bool.not_true,cond_false]
    have hbg:=Go.Sx.unit.begs_len true s.ini 0
    have hbl':=hbl
    have hl':=hl
    rw [hbl] at hl'
    rw [h1] at hWl hl'
    rw [if_pos (by simp; omega),w64_id (by omega) (by omega)]
    simp
   rw [iter_inl (show (fun x:List Int × Int=>f35_b1 (formOf s.fm) (W s.fm s.ini ++ t) x.1 x.2) (Go.Sx.unit.begs s.fm s.ini 0,((W s.fm s.ini).length:Int)) = _ from step)]
   rw [iter_inr (x:=.go (Go.Sx.unit.begs s.fm s.ini 0 ++ [((W s.fm s.ini).length:Int)]))]
   ·rfl
   ·show f35_b1 (formOf s.fm) (W s.fm s.ini ++ t) _ ((W s.fm s.ini ++ t).length:Int) = _
    simp only [f35_b1,show decide (((W s.fm s.ini ++ t).length:Int) < ((W s.fm s.ini ++ t).length:Int)) = false from by simp,cond_false]

end Go.Sx.unit

namespace Go.Sx.unit
open Go Go.Sx

abbrev Uf (s:Fil) (p:Nat) (b:Bool):T64:=T64.mk (formOf s.fm) 0 s.bytes ((s.off p:Nat):Int) b
abbrev Rf (s:Fil) (p:Nat) (b:Bool):T78:=T78.mk (formOf s.fm) 0 s.recs s.tl.isSome (p:Int) b []

theorem f46_form (fm:Bool) (n:Int) (l:List (List Int)) (g:Bool) (p:Int) (b:Bool) (r:List Int):f46 (T78.mk (formOf fm) n l g p b r) = some true:=by
 show (cond (formOf fm == ([108,105,110,101,115]:List UInt8)) (some true) (some (formOf fm == ([114,101,99,111,114,100,115]:List UInt8)))).bind _ = _
 rw [form_seq]
 rfl

section
variable {s:Fil}

theorem recs_le (h:s.Ok):s.recs.length ≤ 20000:=by
 have h1:=s.recs_len
 have h2:=W_len s.fm s.ini
 have h3:=s.bytes_len
 have h4:=h.len
 cases ht:s.tl with
 | none=>rw [ht] at h1; simp at h1; omega
 | some t =>
  rw [ht] at h1 h3
  have:=List.length_pos_iff.2 (h.tl t ht).2.2.2
  simp at h1 h3
  omega

theorem rec_le (h:s.Ok) {p:Nat} (hp:p < s.recs.length):(s.recs.getD p default).length ≤ 20000:=by
 by_cases hi:p < s.ini.length
 ·rw [s.recs_at hi]; exact rec_len h hi
 ·have hrl:=s.recs_len
  have hbl:=s.bytes_len
  have hl:=h.len
  cases ht:s.tl with
  | none=>rw [ht] at hrl; simp at hrl; omega
  | some t =>
   rw [ht] at hrl hbl
   simp at hrl hbl
   obtain rfl:p = s.ini.length:=by omega
   have hg:s.recs.getD s.ini.length default = t:=by
    unfold Fil.recs
    rw [List.getD_eq_getElem?_getD,List.getElem?_append_right (Nat.le_refl _),ht]; simp
   rw [hg]; omega

theorem off_mono (h:s.Ok) {p:Nat} (hp:p < s.recs.length):s.off p ≤ s.off (p + 1):=by
 by_cases hi:p < s.ini.length
 ·rw [s.off_succ hi]; omega
 ·unfold Fil.off
  rw [if_neg (show ¬ p + 1 ≤ s.ini.length by omega)]
  exact Fil.off_le s p

theorem play_read (h:s.Ok) {p:Nat} (hp:p ≤ s.recs.length) (b:Bool) :
  ∃ out c p' b',f22o (Uf s p b) = some (out,c,Uf s p' b') ∧ f53o (Rf s p b) = some (out,c,Rf s p' b') ∧ p' ≤ s.recs.length ∧ (b' = true → p' = s.recs.length) ∨ b = true ∧ f22o (Uf s p b) = some ([],110,Uf s p b) ∧ f53o (Rf s p b) = some ([],110,Rf s p b):=by
 have hl:=h.len
 have hrl:=recs_le h
 have ho:=s.off_le p
 cases b with
 | true =>
  refine ⟨[],110,p,true,.inr ⟨rfl,?_,?_⟩⟩
  ·unfold f22o; rw [f41_form,f42_form]; rfl
  ·unfold f53o; rw [f46_form]; rfl
 | false =>
  by_cases hlt:p < s.recs.length
  ·have hr:=rec_le h hlt
   have ho2:=s.off_le (p + 1)
   have hm:=off_mono h hlt
   refine ⟨s.recs.getD p default,0,p + 1,false,.inl ⟨?_,?_,by omega,nofun⟩⟩
   ·unfold f22o
    rw [f41_form,f42_form]
    simp only [Option.bind_some,cond_false,Bool.not_true]
    rw [if_pos ⟨by omega,by omega⟩]
    simp only [Int.toNat_natCast,List.take_length]
    rw [first_at h hlt]
    simp only [Option.bind_some,Bool.not_true,cond_false]
    rw [f37_eq _ (by omega)]
    simp only [Option.bind_some]
    rw [w64_id (by omega) (by omega),show ((s.off p:Nat):Int) + (((s.off (p + 1):Nat):Int) - ((s.off p:Nat):Int)) = ((s.off (p + 1):Nat):Int) by omega]
   ·unfold f53o
    rw [f46_form]
    have e1:((p:Int) == (s.recs.length:Int)) = false:=beq_eq_false_iff_ne.2 (by omega)
    have e2:w64 ((p:Int) + 1) = ((p + 1:Nat):Int):=by rw [w64_id (by omega) (by omega)]; omega
    have e3:w64 (((p + 1:Nat):Int) - 1) = (p:Int):=by rw [w64_id (by omega) (by omega)]; omega
    have g:(0:Int) ≤ (p:Int) ∧ (p:Int) < (s.recs.length:Int):=by omega
    have k:(([]:List Int).length + (s.recs.getD p default).length) * 1 ≤ 140737488355328:=by simp only [List.length_nil]; omega
    simp only [Option.bind_some,Bool.not_true,cond_false,e1,e2,e3,if_pos g,Int.toNat_natCast,if_pos k,List.nil_append]
  ·obtain rfl:p = s.recs.length:=by omega
   refine ⟨[],6,s.recs.length,true,.inl ⟨?_,?_,Nat.le_refl _,fun _=>rfl⟩⟩
   ·unfold f22o
    rw [f41_form,f42_form]
    simp only [Option.bind_some,cond_false,Bool.not_true]
    rw [if_pos ⟨by omega,by omega⟩]
    simp only [Int.toNat_natCast,List.take_length]
    rw [first_end]
    rfl
   ·unfold f53o
    rw [f46_form]
    simp only [Option.bind_some,Bool.not_true,cond_false,beq_self_eq_true,cond_true]

theorem play_rewind (p:Nat) (b:Bool):f20o (Uf s p b) = some (0,Uf s 0 false) ∧ f56o (Rf s p b) = some (0,Rf s 0 false):=by
 refine ⟨?_,?_⟩
 ·unfold f20o
  rw [f41_form]
  simp only [Option.bind_some,cond_false]
  show _ = some ((0:Int),T64.mk (formOf s.fm) 0 s.bytes ((s.off 0:Nat):Int) false)
  rw [s.off_zero]
  rfl
 ·unfold f56o f56o_j1
  rw [form_str]
  rfl

theorem play_back (h:s.Ok) {p:Nat} (hp:p ≤ s.recs.length) (b:Bool):f23o (Uf s p b) = some (0,Uf s (if b = true then p else p - 1) false) ∧ f57o (Rf s p b) = some (0,Rf s (if b = true then p else p - 1) false):=by
 have hl:=h.len
 have hrl:=recs_le h
 have ho:=s.off_le p
 cases b with
 | true =>
  refine ⟨?_,?_⟩
  ·unfold f23o; rw [f41_form,f42_form]; rfl
  ·unfold f57o; rw [f46_form]; rfl
 | false =>
  simp only [Bool.false_eq_true,if_false]
  refine ⟨?_,?_⟩
  ·unfold f23o
   rw [f41_form,f42_form]
   simp only [Option.bind_some,cond_false,Bool.not_true]
   rw [if_pos ⟨by omega,by omega⟩]
   simp only [Int.toNat_natCast,List.drop_zero]
   rw [Fil.f35_off h hp]
   simp only [Option.bind_some,Fil.begs_len hp]
   by_cases h0:p = 0
   ·subst h0
    rfl
   ·obtain ⟨q,rfl⟩:∃ q,p = q + 1:=⟨p - 1,by omega⟩
    have e:w64 (((q + 1:Nat):Int) - 1) = (q:Int):=by rw [w64_id (by omega) (by omega)]; omega
    rw [decide_eq_true (by omega),cond_true,e,if_pos ⟨by omega,by omega⟩,Int.toNat_natCast,Fil.begs_last (by omega)]
    rfl
  ·unfold f57o
   rw [f46_form]
   simp only [Option.bind_some,Bool.not_true,cond_false]
   by_cases h0:p = 0
   ·subst h0
    rfl
   ·obtain ⟨q,rfl⟩:∃ q,p = q + 1:=⟨p - 1,by omega⟩
    have e:w64 (((q + 1:Nat):Int) - 1) = (q:Int):=by rw [w64_id (by omega) (by omega)]; omega
    rw [decide_eq_true (show ((q + 1:Nat):Int) > 0 by omega),cond_true,e]
    rfl

/-- Only so many records. -/
def Fil.cut (s:Fil) (p:Nat):Fil:=if p < s.recs.length then ⟨s.fm,s.recs.take p,none⟩ else s

theorem recs_take {p:Nat} (hp:p ≤ s.ini.length):s.recs.take p = s.ini.take p:=by
 unfold Fil.recs
 rw [List.take_append_of_le_length hp]

theorem ini_lt {p:Nat} (hp:p < s.recs.length):p ≤ s.ini.length:=by
 have:=s.recs_len
 split at this <;> omega

theorem cut_bytes {p:Nat} (hp:p ≤ s.recs.length):(s.cut p).bytes = s.bytes.take (s.off p):=by
 unfold Fil.cut
 split
 ·rename_i hlt
  rw [s.take_off,if_pos (ini_lt hlt),recs_take (ini_lt hlt)]
  simp [Fil.bytes]
 ·obtain rfl:p = s.recs.length:=by omega
  rw [s.off_end,List.take_length]

theorem cut_ok (h:s.Ok) {p:Nat} (hp:p ≤ s.recs.length):(s.cut p).Ok:=by
 have hb:=cut_bytes hp
 have hl:=h.len
 refine ⟨?_,?_,by rw [hb,List.length_take]; omega⟩
 ·unfold Fil.cut
  split
  ·exact fun r hr=>h.each r (List.mem_of_mem_take hr)
  ·exact h.ini
 ·unfold Fil.cut
  split
  ·exact fun t ht=>by cases ht
  ·exact h.tl

theorem cut_fm (p:Nat):(s.cut p).fm = s.fm:=by unfold Fil.cut; split <;> rfl

theorem cut_len {p:Nat} (hp:p ≤ s.recs.length):(s.cut p).recs.length = p:=by
 unfold Fil.cut
 split
 ·simp [Fil.recs] at *; omega
 ·omega

theorem cut_off {p:Nat} (hp:p ≤ s.recs.length):(s.cut p).off p = s.off p:=by
 have h1:=(s.cut p).off_end
 rw [cut_len hp,cut_bytes hp,List.length_take] at h1
 have:=s.off_le p
 rw [h1]; omega

theorem play_end (h:s.Ok) {p:Nat} (hp:p ≤ s.recs.length):f51o (Uf s p false) = some (0,Uf (s.cut p) p true) ∧ f58o (Rf s p false) = some (0,Rf (s.cut p) p true):=by
 have hl:=h.len
 have hrl:=recs_le h
 have ho:=s.off_le p
 refine ⟨?_,?_⟩
 ·unfold f51o
  rw [f41_form,f42_form]
  simp only [Option.bind_some,cond_false,Bool.not_true]
  rw [if_pos ⟨by omega,by omega⟩]
  simp only [Int.toNat_natCast,List.drop_zero]
  rw [f37_eq _ (by rw [List.length_take]; omega)]
  simp only [Option.bind_some]
  unfold Uf
  rw [cut_fm,cut_bytes hp,cut_off hp]
 ·unfold f58o
  rw [f46_form]
  simp only [Option.bind_some,Bool.not_true,cond_false]
  unfold Rf
  rw [cut_fm]
  unfold Fil.cut
  by_cases hlt:p < s.recs.length
  ·rw [decide_eq_true (show (p:Int) < (s.recs.length:Int) by omega),cond_true,if_pos ⟨by omega,by omega⟩,if_pos hlt]
   simp only [Int.toNat_natCast,List.drop_zero,f58o_j1,Fil.recs]
   simp
  ·rw [decide_eq_false (show ¬ (p:Int) < (s.recs.length:Int) by omega),cond_false,if_neg hlt]
   rfl

theorem end_past (p:Nat):f51o (Uf s p true) = some (110,Uf s p true) ∧ f58o (Rf s p true) = some (110,Rf s p true):=by
 refine ⟨?_,?_⟩
 ·unfold f51o; rw [f41_form,f42_form]; rfl
 ·unfold f58o; rw [f46_form]; rfl

theorem play_wat (n:Int) (x:List Int) (p:Nat) (b:Bool):f24o n x (Uf s p b) = some (110,Uf s p b) ∧ f54o n x (Rf s p b) = some (110,Rf s p b):=by
 refine ⟨?_,?_⟩
 ·unfold f24o; rw [f41_form,f42_form]; rfl
 ·unfold f54o; rw [form_dir,form_str]; rfl

theorem play_rat (n m:Int) (p:Nat) (b:Bool):f25o n m (Uf s p b) = some ([],110,Uf s p b) ∧ f55o n m (Rf s p b) = some ([],110,Rf s p b):=by
 refine ⟨?_,?_⟩
 ·unfold f25o; rw [f41_form,f42_form]; rfl
 ·unfold f55o; rw [form_dir,form_str]; rfl

end
end Go.Sx.unit

namespace Go.Sx.unit
open Go Go.Sx

/-- Records' bytes, with a last line that may have no end. -/
def Wg (fm:Bool):List (List Int) → Bool → List Int
 | [],_=>[]
 | [r],true=>r
 | r :: l,g=>wrapF fm r ++ Wg fm l g

theorem Wg_false (fm:Bool):∀ l,Wg fm l false = W fm l
 | []=>rfl
 | [r]=>by simp [Wg,W]
 | r :: q :: l=>by
  show wrapF fm r ++ Wg fm (q :: l) false = _
  rw [Wg_false fm (q :: l),W_cons fm r]

theorem Wg_tail (fm:Bool) (t:List Int):∀ l,Wg fm (l ++ [t]) true = W fm l ++ t
 | []=>rfl
 | r :: l=>by
  have:(r :: l) ++ [t] = r :: (l ++ [t]):=rfl
  rw [this]
  cases hl:l ++ [t] with
  | nil=>simp at hl
  | cons x y =>
   show wrapF fm r ++ Wg fm (x :: y) true = _
   rw [← hl,Wg_tail fm t l,W_cons,List.append_assoc]

theorem Wg_fil (s:Fil):Wg s.fm s.recs s.tl.isSome = s.bytes:=by
 unfold Fil.recs Fil.bytes
 cases s.tl with
 | none=>simp [Wg_false]
 | some t=>exact Wg_tail s.fm t s.ini

/-- The bytes of records, by the document's function. -/
theorem bytes_loop1 (v:T78) (hl:v.f2.length ≤ 1000000) (hr:∀ r ∈ v.f2,r.length ≤ 1000) (hW:(W false v.f2).length ≤ 100000):iter (fun s=>f50_b1 v s.1 s.2) (([]:List Int),(0:Int)) = some (Out.go (W false v.f2)):=by
 have hm:(1000000:Nat) ≤ maxLen:=by decide
 have key:=iter_listI v.f2 (by omega) (fun s=>f50_b1 v s.1 s.2) (fun r _ b=>(Out.go (b ++ W false r):Out (List Int) (List Int))) (fun i b=>b = W false (v.f2.take i)) (fun i x r b hb hi hx hd=>by
  subst hb
  right
  have hd1:decide ((i:Int) < (v.f2.length:Int)) = true:=by simpa using hi
  have g1:(0:Int) ≤ i ∧ (i:Int) < (v.f2.length:Int):=by omega
  have hxm:x ∈ v.f2:=by
   rw [← hx,List.getD_eq_getElem?_getD,List.getElem?_eq_getElem hi]; exact List.getElem_mem hi
  have hxl:=hr x hxm
  have hgx:v.f2[i] = x:=by rw [← hx,List.getD_eq_getElem?_getD,List.getElem?_eq_getElem hi]; rfl
  have hle:=W_take_le false v.f2 i
  have hml:(mark x.length).length = 4:=rfl
  have k1:((W false (v.f2.take i)).length + (mark x.length).length) * 1 ≤ 140737488355328:=by omega
  have k2:(0:Int) ≤ i ∧ (i:Int) < (v.f2.length:Int) ∧ ((W false (v.f2.take i) ++ mark x.length).length + x.length) * 1 ≤ 140737488355328:=by rw [List.length_append]; omega
  have k3:(((W false (v.f2.take i) ++ mark x.length) ++ x).length + (mark x.length).length) * 1 ≤ 140737488355328:=by simp only [List.length_append]; omega
  have e:((W false (v.f2.take i) ++ mark x.length) ++ x) ++ mark x.length = W false (v.f2.take (i + 1)):=by
   rw [W_take_succ false v.f2 i hi,hgx]
   simp [wrapF,wrapR,List.append_assoc]
  refine ⟨W false (v.f2.take (i + 1)),?_,rfl,?_⟩
  ·simp only [f50_b1,hd1,cond_true,if_pos g1,Int.toNat_natCast,hx,f40_eq x.length hxl,Option.bind_some,if_pos k1,if_pos k2,if_pos k3,e]
  ·rw [W_take_succ false v.f2 i hi,hgx,W_cons,List.append_assoc]) (fun b hb=>by
  subst hb
  simp only [f50_b1,show decide ((v.f2.length:Int) < (v.f2.length:Int)) = false from by simp,cond_false,W,List.flatMap_nil,List.append_nil]) [] rfl
 simpa using key

theorem bytes_loop3 (v:T78) (hl:v.f2.length ≤ 1000000) (hW:(Wg true v.f2 v.f3).length ≤ 100000):iter (fun s=>f50_b3 v s.1 s.2) (([]:List Int),(0:Int)) = some (Out.go (Wg true v.f2 v.f3)):=by
 have hm:(1000000:Nat) ≤ maxLen:=by decide
 have key:=iter_listI v.f2 (by omega) (fun s=>f50_b3 v s.1 s.2) (fun r _ b=>(Out.go (b ++ Wg true r v.f3):Out (List Int) (List Int))) (fun i b=>b ++ Wg true (v.f2.drop i) v.f3 = Wg true v.f2 v.f3) (fun i x r b hb hi hx hd=>by
  right
  have hd1:decide ((i:Int) < (v.f2.length:Int)) = true:=by simpa using hi
  rw [hd] at hb
  have hrl:r.length = v.f2.length - (i + 1):=by
   have:=congrArg List.length hd
   rw [List.length_drop,List.length_cons] at this
   omega
  have hlen:=congrArg List.length hb
  rw [List.length_append] at hlen
  have e9:w64 ((v.f2.length:Int) - 1) = (v.f2.length:Int) - 1:=w64_id (by omega) (by omega)
  have hdr:v.f2.drop (i + 1) = r:=by
   have:v.f2.drop (i + 1) = (v.f2.drop i).drop 1:=by rw [List.drop_drop]
   rw [this,hd]; rfl
  cases r with
  | nil =>
   simp at hrl
   have c1:decide ((i:Int) < (v.f2.length:Int) - 1) = false:=decide_eq_false (by omega)
   cases hg:v.f3 with
   | true =>
    have ex:Wg true [x] true = x:=rfl
    rw [hg,ex] at hb hlen
    have g1:(0:Int) ≤ i ∧ (i:Int) < (v.f2.length:Int) ∧ (b.length + x.length) * 1 ≤ 140737488355328:=by rw [hg] at hW; omega
    refine ⟨b ++ x,?_,?_,?_⟩
    ·simp only [f50_b3,hd1,cond_true,Int.toNat_natCast,hx,if_pos g1,e9,c1,cond_false,Option.bind_some,hg,Bool.not_true,f50_j2]
    ·rw [hdr]; simp only [Wg,List.append_nil]; exact hb
    ·simp [Wg]
   | false =>
    have ex:Wg true [x] false = x ++ [10]:=by simp [Wg,wrapF]
    rw [hg,ex] at hb hlen
    rw [List.length_append] at hlen
    have hW':=hW
    rw [hg] at hW'
    have g1:(0:Int) ≤ i ∧ (i:Int) < (v.f2.length:Int) ∧ (b.length + x.length) * 1 ≤ 140737488355328:=by rw [hg] at hW; omega
    have k:((b ++ x).length + [(10:Int)].length) * 1 ≤ 140737488355328:=by simp only [List.length_append,List.length_cons,List.length_nil]; omega
    refine ⟨b ++ x ++ [10],?_,?_,?_⟩
    ·simp only [f50_b3,hd1,cond_true,Int.toNat_natCast,hx,if_pos g1,e9,c1,cond_false,Option.bind_some,hg,Bool.not_false,if_pos k,f50_j2]
    ·rw [hdr]; simp only [Wg,List.append_nil]; rw [List.append_assoc]; exact hb
    ·simp [Wg,wrapF]
  | cons y q =>
   have ex:Wg true (x :: y :: q) v.f3 = (x ++ [10]) ++ Wg true (y :: q) v.f3:=rfl
   rw [ex] at hb hlen
   rw [List.length_append,List.length_append] at hlen
   simp only [List.length_cons] at hrl
   have c1:decide ((i:Int) < (v.f2.length:Int) - 1) = true:=decide_eq_true (by omega)
   have g1:(0:Int) ≤ i ∧ (i:Int) < (v.f2.length:Int) ∧ (b.length + x.length) * 1 ≤ 140737488355328:=by omega
   have k:((b ++ x).length + [(10:Int)].length) * 1 ≤ 140737488355328:=by simp only [List.length_append,List.length_cons,List.length_nil]; omega
   refine ⟨b ++ x ++ [10],?_,?_,?_⟩
   ·simp only [f50_b3,hd1,cond_true,Int.toNat_natCast,hx,if_pos g1,e9,c1,Option.bind_some,if_pos k,f50_j2]
   ·rw [hdr,← hb]; simp only [List.append_assoc]
   ·rw [ex]; simp only [List.append_assoc]) (fun b hb=>by
  simp only [f50_b3,show decide ((v.f2.length:Int) < (v.f2.length:Int)) = false from by simp,cond_false,Wg,List.append_nil]) [] (by simp)
 simpa using key

theorem bytes_form (fm:Bool) (n:Int) (l:List (List Int)) (g:Bool) (p:Int) (b:Bool) (raw:List Int) (hl:l.length ≤ 1000000) (hr:fm = false → ∀ r ∈ l,r.length ≤ 1000) (hg:fm = false → g = false) (hW:(Wg fm l g).length ≤ 100000) :
  f50 (T78.mk (formOf fm) n l g p b raw) = some (Wg fm l g):=by
 unfold f50
 cases fm with
 | false =>
  have h1:=hg rfl
  subst h1
  rw [Wg_false] at hW ⊢
  have c:(formOf false == ([114,101,99,111,114,100,115]:List UInt8)) = true:=rfl
  have:=bytes_loop1 (T78.mk (formOf false) n l false p b raw) hl (hr rfl) hW
  simp only [c,cond_true]
  rw [this]
  rfl
 | true =>
  have c:(formOf true == ([114,101,99,111,114,100,115]:List UInt8)) = false:=rfl
  have c2:(formOf true == ([108,105,110,101,115]:List UInt8)) = true:=rfl
  have:=bytes_loop3 (T78.mk (formOf true) n l g p b raw) hl hW
  simp only [c,c2,cond_false,cond_true]
  rw [this]
  rfl

section
variable {s:Fil}

theorem tl_false (h:s.Ok) (hf:s.fm = false):s.tl = none:=by
 cases ht:s.tl with
 | none=>rfl
 | some t=>have:=(h.tl t ht).1; rw [hf] at this; cases this

theorem play_bytes (h:s.Ok) (p:Nat) (b:Bool):f21 (Uf s p b) = some s.bytes ∧ f50 (Rf s p b) = some s.bytes:=by
 have hl:=h.len
 have hrl:=recs_le h
 refine ⟨?_,?_⟩
 ·unfold f21
  rw [f41_form]
  simp only [Option.bind_some,cond_false]
  rw [f37_eq _ (by omega)]; rfl
 ·have:=bytes_form s.fm 0 s.recs s.tl.isSome (p:Int) b [] (by omega) (fun hf r hr=>(h.each r hr).1 hf) (fun hf=>by rw [tl_false h hf]; rfl) (by rw [Wg_fil]; omega)
  rw [Wg_fil] at this
  exact this

/-- Both tell the same of a file. -/
theorem play_alike (h:s.Ok) {p:Nat} (hp:p ≤ s.recs.length) (b:Bool) (hb:b = true → p = s.recs.length):f27 (Uf s p b) (Rf s p b) = some true:=by
 have hl:=h.len
 have hrl:=recs_le h
 have ho:=s.off_le p
 obtain ⟨b1,b2⟩:=play_bytes h p b
 have e18:f18 (Uf s p b) = some ((s.recs.length:Int),0):=by
  unfold f18
  rw [f41_form,form_dir,form_str]
  simp only [Option.bind_some,cond_false]
  have:=Fil.f35_off h (Nat.le_refl s.recs.length)
  rw [s.off_end,List.take_length] at this
  rw [this]
  simp only [Option.bind_some,Fil.begs_len (Nat.le_refl _)]
 have e19:f19 (Uf s p b) = some (p:Int):=by
  unfold f19
  rw [f41_form,form_dir,form_str]
  simp only [Option.bind_some,cond_false]
  rw [if_pos ⟨by omega,by omega⟩]
  simp only [Int.toNat_natCast,List.drop_zero]
  rw [Fil.f35_off h hp]
  simp only [Option.bind_some,Fil.begs_len hp]
 have e48:f48 (Rf s p b) = some (p:Int):=by
  unfold f48
  rw [form_dir]
  cases b with
  | false=>rfl
  | true=>simp only [cond_false,cond_true]; rw [← hb rfl]
 have e49:f49 (Rf s p b) = some (s.recs.length:Int):=by
  unfold f49
  rw [form_dir,form_str]; rfl
 have e34:f34 (Uf s p b) = some (formOf s.fm):=by
  unfold f34; rw [f41_form]; rfl
 unfold f27
 rw [e18,e19,e48,e49,e34,b1,b2]
 simp

/-- The bytes ahead of a place, with an end. -/
theorem ahead_bytes (h:s.Ok) {p:Nat} (hp:p ≤ s.recs.length):W s.fm (s.recs.take p) = s.bytes.take (s.off p) ++ (if p ≤ s.ini.length then [] else [10]):=by
 rw [s.take_off]
 split
 ·rename_i hi
  rw [recs_take hi,List.append_nil]
 ·have hrl:=s.recs_len
  cases ht:s.tl with
  | none=>rw [ht] at hrl; simp at hrl; omega
  | some t =>
   rw [ht] at hrl
   simp at hrl
   have e:s.recs.take p = s.ini ++ [t]:=by
    rw [List.take_of_length_le (by omega)]
    unfold Fil.recs
    rw [ht]; rfl
   rw [e,W_append,W_one]
   unfold Fil.bytes
   rw [ht,(h.tl t ht).1]
   simp [wrapF]

/-- What a file is that was written to. -/
def Fil.wr (s:Fil) (p:Nat) (b:List Int):Fil:=⟨s.fm,s.recs.take p ++ [b],none⟩

theorem wr_bytes (s:Fil) (p:Nat) (b:List Int):(s.wr p b).bytes = W s.fm (s.recs.take p) ++ wrapF s.fm b:=by
 simp [Fil.wr,Fil.bytes,W_append,W_one]

theorem wr_recs (s:Fil) {p:Nat} (hp:p ≤ s.recs.length) (b:List Int):(s.wr p b).recs = s.recs.take p ++ [b] ∧ (s.wr p b).recs.length = p + 1:=by
 constructor
 ·simp [Fil.wr,Fil.recs]
 ·simp [Fil.wr,Fil.recs] at *; omega

end
end Go.Sx.unit

namespace Go.Sx.unit
open Go Go.Sx

def badW (fm:Bool) (x:List Int):Prop:=x.length > 1000 ∨ fm = true ∧ (10:Int) ∈ x

/-- Does something not end as a line should? -/
theorem last_test (Y:List Int) (y:Int) (h:Y.length ≤ 100000) :
  (cond (decide (((Y ++ [y]).length:Int) > (0:Int))) (if (0:Int) ≤ w64 (((Y ++ [y]).length:Int) - (1:Int)) ∧ w64 (((Y ++ [y]).length:Int) - (1:Int)) < ((Y ++ [y]).length:Int) then some ((Y ++ [y]).getD (Int.toNat (w64 (((Y ++ [y]).length:Int) - (1:Int)))) default != (10:Int)) else none) (some false)) = some (y != 10):=by
 have hl:(Y ++ [y]).length = Y.length + 1:=by simp
 have e:w64 (((Y ++ [y]).length:Int) - 1) = (Y.length:Int):=by rw [hl,w64_id (by omega) (by omega)]; omega
 rw [decide_eq_true (by omega),cond_true,e,if_pos ⟨by omega,by omega⟩,Int.toNat_natCast,List.getD_eq_getElem?_getD,List.getElem?_append_right (Nat.le_refl _)]
 simp

theorem W_last (l:List (List Int)):W true l = [] ∨ ∃ Y,W true l = Y ++ [10]:=by
 rcases List.eq_nil_or_concat l with rfl | ⟨d,x,rfl⟩
 ·exact .inl rfl
 ·right
  refine ⟨W true d ++ x,?_⟩
  rw [List.concat_eq_append,W_append,W_one]
  simp [wrapF]

section
variable {s:Fil}

/-- Is there an end of a line missing ahead? -/
theorem last_ahead (h:s.Ok) (hf:s.fm = true) {p:Nat} (hp:p ≤ s.recs.length) :
  (cond (decide (((s.bytes.take (s.off p)).length:Int) > (0:Int))) (if (0:Int) ≤ w64 (((s.bytes.take (s.off p)).length:Int) - (1:Int)) ∧ w64 (((s.bytes.take (s.off p)).length:Int) - (1:Int)) < ((s.bytes.take (s.off p)).length:Int) then some ((s.bytes.take (s.off p)).getD (Int.toNat (w64 (((s.bytes.take (s.off p)).length:Int) - (1:Int)))) default != (10:Int)) else none) (some false)) = some (!decide (p ≤ s.ini.length)):=by
 have hl:=h.len
 have hle:(s.bytes.take (s.off p)).length ≤ 20000:=by rw [List.length_take]; omega
 have ht:=s.take_off p
 by_cases hi:p ≤ s.ini.length
 ·rw [if_pos hi,hf] at ht
  rw [decide_eq_true hi]
  rcases W_last (s.ini.take p) with h0 | ⟨Y,hY⟩
  ·rw [ht,h0]; rfl
  ·rw [hY] at ht
   rw [ht] at hle ⊢
   rw [last_test Y 10 (by simp at hle; omega)]
   rfl
 ·rw [if_neg hi] at ht
  rw [decide_eq_false hi]
  have hrl:=s.recs_len
  cases htl:s.tl with
  | none=>rw [htl] at hrl; simp at hrl; omega
  | some t =>
   obtain ⟨h1,h2,h3,h4⟩:=h.tl t htl
   rcases List.eq_nil_or_concat t with rfl | ⟨t',y,rfl⟩
   ·exact absurd rfl h4
   ·have hb:s.bytes = (W s.fm s.ini ++ t') ++ [y]:=by
     unfold Fil.bytes
     rw [htl]
     simp [List.append_assoc]
    rw [hb] at ht
    rw [hb]
    rw [hb] at hl
    rw [ht,last_test _ y (by simp at hl ⊢; omega)]
    have hy:y ≠ 10:=fun e=>h3 (by subst e; simp)
    simp [hy]

theorem wr_ok (h:s.Ok) (p:Nat) {x:List Int} (hx:By x) (hb:¬ badW s.fm x) (hl:(s.wr p x).bytes.length ≤ 20000):(s.wr p x).Ok:=by
 have hb1:x.length ≤ 1000:=by
  by_cases h:x.length ≤ 1000
  ·exact h
  ·exact absurd (.inl (by omega)) hb
 refine ⟨fun r hr=>?_,fun t ht=>(by cases ht),hl⟩
 rcases List.mem_append.1 hr with hr | hr
 ·exact h.each r (List.mem_of_mem_take hr)
 ·rw [List.mem_singleton] at hr
  subst hr
  exact ⟨fun _=>hb1,hx,fun hf hm=>hb (.inr ⟨hf,hm⟩)⟩

theorem find_nl (x:List Int) (hx:x.length ≤ 100000) (v:T78) (fm:Bool) (hv:v.f0 = formOf fm) :
  iter (fun i=>f52o_b1 x v i) (0:Int) = some (if fm = true ∧ (10:Int) ∈ x then Out.ret (2,v) else Out.go ()):=by
 have hm:(1000000:Nat) ≤ maxLen:=by decide
 have hc:(v.f0 == ([108,105,110,101,115]:List UInt8)) = fm:=by rw [hv]; cases fm <;> rfl
 refine iter_list x (by omega) (fun i=>f52o_b1 x v i) (fun r _=>(if fm = true ∧ (10:Int) ∈ r then Out.ret (2,v) else Out.go ():Out (Int × T78) Unit)) (fun i y r hi hy hd=>?_) ?_
 ·have hd1:decide ((i:Int) < (x.length:Int)) = true:=by simpa using hi
  have g1:(0:Int) ≤ i ∧ (i:Int) < (x.length:Int):=by omega
  cases fm with
  | false =>
   right
   simp only [f52o_b1,hd1,cond_true,hc,cond_false,Option.bind_some,Bool.false_eq_true,false_and,if_false,and_self]
  | true =>
   by_cases h10:y = 10
   ·left
    subst h10
    simp only [f52o_b1,hd1,cond_true,hc,if_pos g1,Int.toNat_natCast,hy,beq_self_eq_true,Option.bind_some,List.mem_cons,true_or,and_self,if_true]
   ·right
    have e:(y == (10:Int)) = false:=by simpa using h10
    refine ⟨?_,?_⟩
    ·simp only [f52o_b1,hd1,cond_true,hc,if_pos g1,Int.toNat_natCast,hy,e,Option.bind_some,cond_false]
    ·have:((10:Int) ∈ y :: r) ↔ (10:Int) ∈ r:=by simp [Ne.symm h10]
     simp only [this]
 ·simp only [f52o_b1,show decide ((x.length:Int) < (x.length:Int)) = false from by simp,cond_false,List.not_mem_nil,and_false,if_false]

theorem play_write (h:s.Ok) {p:Nat} (hp:p ≤ s.recs.length) (b:Bool) {x:List Int} (hx:By x) (hxl:x.length ≤ 30000) :
  (∃ c,c ≠ 0 ∧ f17o x (Uf s p b) = some (c,Uf s p b) ∧ f52o x (Rf s p b) = some (c,Rf s p b)) ∨
   ((s.wr p x).Ok ∧ f17o x (Uf s p b) = some (0,Uf (s.wr p x) (p + 1) false) ∧ f52o x (Rf s p b) = some (0,Rf (s.wr p x) (p + 1) false)):=by
 have hl:=h.len
 have hrl:=recs_le h
 have ho:=s.off_le p
 have hidx:decide (idxB x 10 ≥ 0) = decide ((10:Int) ∈ x):=by
  by_cases hm:(10:Int) ∈ x
  ·obtain ⟨r,t,e,hr⟩:=List.eq_append_cons_of_mem hm
   have:=idxB_hit (r:=r) (t:=t) (e ▸ hx) hr
   rw [← e] at this
   rw [decide_eq_true hm,decide_eq_true (by omega)]
  ·rw [decide_eq_false hm,idxB_miss hx hm]; rfl
 -- what is refused at once
 have himpl:badW s.fm x → f17o x (Uf s p b) = some (2,Uf s p b):=fun hb=>by
  unfold f17o
  rw [f41_form,f42_form]
  simp only [Option.bind_some,cond_false,Bool.not_true]
  rcases hb with hb | ⟨hb,hm⟩
  ·rw [decide_eq_true (by omega),cond_true]; rfl
  ·rw [hb]
   simp only [show (formOf true == ([108,105,110,101,115]:List UInt8)) = true from rfl,cond_true,f43,Option.bind_some,hidx,decide_eq_true hm]
   cases decide ((x.length:Int) > 1000) <;> rfl
 have href:badW s.fm x → f52o x (Rf s p b) = some (2,Rf s p b):=fun hb=>by
  unfold f52o
  rw [f46_form]
  simp only [Option.bind_some,Bool.not_true,cond_false]
  by_cases h1:x.length > 1000
  ·rw [decide_eq_true (by omega),cond_true]
  ·rcases hb with hb | hb
   ·exact absurd hb h1
   ·rw [decide_eq_false (by omega),cond_false,find_nl x (by omega) (Rf s p b) s.fm rfl,if_pos hb]
    rfl
 by_cases hbad:badW s.fm x
 ·left
  exact ⟨2,by decide,himpl hbad,href hbad⟩
 have hx1:x.length ≤ 1000:=by
  by_cases h1:x.length ≤ 1000
  ·exact h1
  ·exact absurd (.inl (by omega)) hbad
 have hnl:¬ (s.fm = true ∧ (10:Int) ∈ x):=fun e=>hbad (.inr e)
 -- both go on
 have hv6:(cond (formOf s.fm == ([108,105,110,101,115]:List UInt8)) ((f43 x (10:Int)).bind fun v7=>some (decide (v7 ≥ (0:Int)))) (some false)) = some false:=by
  cases hf:s.fm with
  | false=>rfl
  | true =>
   rw [hf] at hnl
   simp only [show (formOf true == ([108,105,110,101,115]:List UInt8)) = true from rfl,cond_true,f43,Option.bind_some,hidx]
   rw [decide_eq_false (fun hm=>hnl ⟨rfl,hm⟩)]
 cases b with
 | true =>
  left
  refine ⟨110,by decide,?_,?_⟩
  ·unfold f17o
   rw [f41_form,f42_form]
   simp only [Option.bind_some,cond_false,Bool.not_true,hv6,decide_eq_false (show ¬ (x.length:Int) > 1000 by omega),cond_true]
  ·unfold f52o
   rw [f46_form]
   simp only [Option.bind_some,Bool.not_true,cond_false,decide_eq_false (show ¬ (x.length:Int) > 1000 by omega)]
   rw [find_nl x (by omega) (Rf s p true) s.fm rfl,if_neg hnl]
   simp only [Option.bind_some,cond_true]
 | false =>
  have hwl:=wrapF_len s.fm x
  have hab:=ahead_bytes h hp
  have htl:(s.bytes.take (s.off p)).length ≤ 20000:=by rw [List.length_take]; omega
  have hWl:(W s.fm (s.recs.take p)).length ≤ 20001:=by
   rw [hab,List.length_append]
   split <;> simp <;> omega
  have hbytes:=wr_bytes s p x
  have hwb:(s.wr p x).bytes.length ≤ 21100:=by rw [hbytes,List.length_append]; omega
  have hoff:(s.wr p x).off (p + 1) = (s.wr p x).bytes.length:=by
   have:=(s.wr p x).off_end
   rw [(wr_recs s hp x).2] at this
   exact this
  have j1:f17o_j1 (Uf s p false) (s.wr p x).bytes = if (s.wr p x).bytes.length ≤ 20000 then some (0,Uf (s.wr p x) (p + 1) false) else some (4,Uf s p false):=by
   unfold f17o_j1
   split
   ·rw [decide_eq_false (by omega),cond_false]
    show _ = some ((0:Int),T64.mk (formOf s.fm) 0 (s.wr p x).bytes (((s.wr p x).off (p + 1):Nat):Int) false)
    rw [hoff]
   ·rw [decide_eq_true (by omega),cond_true]
  have hi:f17o x (Uf s p false) = f17o_j1 (Uf s p false) (s.wr p x).bytes:=by
   conv=>lhs; unfold f17o
   rw [f41_form,f42_form]
   simp only [Option.bind_some,cond_false,Bool.not_true,hv6,decide_eq_false (show ¬ (x.length:Int) > 1000 by omega)]
   rw [if_pos ⟨by omega,by omega⟩]
   simp only [Int.toNat_natCast,List.drop_zero]
   rw [f37_eq _ (by omega)]
   simp only [Option.bind_some]
   cases hf:s.fm with
   | false =>
    have htn:=tl_false h hf
    have hpi:p ≤ s.ini.length:=by
     have hrl2:=s.recs_len
     rw [htn] at hrl2
     simp at hrl2
     omega
    rw [if_pos hpi,List.append_nil] at hab
    simp only [show (formOf false == ([108,105,110,101,115]:List UInt8)) = false from rfl,cond_false]
    rw [f39_eq x hx1]
    simp only [Option.bind_some]
    rw [if_pos (by rw [wrapR_len]; omega),hbytes,hab,hf]
    simp only [Uf,wrapF,hf,Bool.false_eq_true,if_false]
   | true =>
    simp only [show (formOf true == ([108,105,110,101,115]:List UInt8)) = true from rfl,cond_true]
    rw [last_ahead h hf hp]
    simp only [Option.bind_some]
    by_cases hpi:p ≤ s.ini.length
    ·rw [if_pos hpi,List.append_nil] at hab
     rw [decide_eq_true hpi]
     simp only [Bool.not_true,cond_false]
     unfold f17o_j2
     rw [if_pos (by omega),if_pos (by simp only [List.length_append,List.length_cons,List.length_nil]; omega),hbytes,hab,hf]
     simp only [Uf,wrapF,hf,if_true,List.append_assoc]
    ·rw [if_neg hpi] at hab
     rw [decide_eq_false hpi]
     simp only [Bool.not_false,cond_true]
     rw [if_pos (by simp only [List.length_cons,List.length_nil]; omega)]
     unfold f17o_j2
     rw [if_pos (by simp only [List.length_append,List.length_cons,List.length_nil]; omega),if_pos (by simp only [List.length_append,List.length_cons,List.length_nil]; omega),hbytes,hab,hf]
     simp only [Uf,wrapF,hf,if_true,List.append_assoc]
  have hr:f52o x (Rf s p false) = if (s.wr p x).bytes.length ≤ 20000 then some (0,Rf (s.wr p x) (p + 1) false) else some (4,Rf s p false):=by
   unfold f52o
   rw [f46_form]
   simp only [Option.bind_some,Bool.not_true,cond_false,decide_eq_false (show ¬ (x.length:Int) > 1000 by omega)]
   rw [find_nl x (by omega) (Rf s p false) s.fm rfl,if_neg hnl]
   simp only [Option.bind_some,cond_false,Int.toNat_natCast,List.drop_zero,List.nil_append]
   have htk:(s.recs.take p).length ≤ 20000:=by rw [List.length_take]; omega
   rw [if_pos ⟨by omega,by omega⟩,if_pos (by simp only [List.length_nil]; omega),if_pos (by simp only [List.length_nil]; omega),if_pos (by simp only [List.length_cons,List.length_nil]; omega)]
   have hW:W s.fm (s.recs.take p ++ [x]) = (s.wr p x).bytes:=by rw [W_append,W_one,hbytes]
   have hbf:=bytes_form s.fm 0 (s.recs.take p ++ [x]) false 0 false [] (by simp only [List.length_append,List.length_cons,List.length_nil]; omega) (fun hf r hr=>by
    rcases List.mem_append.1 hr with hr | hr
    ·exact (h.each r (List.mem_of_mem_take hr)).1 hf
    ·rw [List.mem_singleton] at hr; rw [hr]; exact hx1) (fun _=>rfl) (by rw [Wg_false,hW]; omega)
   rw [Wg_false,hW] at hbf
   have hbf':f50o (T78.mk (formOf s.fm) 0 (s.recs.take p ++ [x]) false 0 false []) = some (s.wr p x).bytes:=hbf
   rw [hbf']
   simp only [Option.bind_some]
   split
   ·rw [decide_eq_false (by omega),cond_false]
    show _ = some ((0:Int),T78.mk (formOf s.fm) 0 (s.wr p x).recs false ((p + 1:Nat):Int) false [])
    rw [(wr_recs s hp x).1,w64_id (by omega) (by omega)]
    rfl
   ·rw [decide_eq_true (by omega),cond_true]
  rw [j1] at hi
  by_cases hfit:(s.wr p x).bytes.length ≤ 20000
  ·right
   rw [if_pos hfit] at hi hr
   exact ⟨wr_ok h p hx hbad hfit,hi,hr⟩
  ·left
   rw [if_neg hfit] at hi hr
   exact ⟨4,by decide,hi,hr⟩

end
end Go.Sx.unit

namespace Go.Sx.unit
open Go Go.Sx

abbrev Ud (l:Nat) (d:List Int):T64:=T64.mk dir l d 0 false
abbrev Rd_ (l:Nat) (d:List Int):T78:=T78.mk dir l [] false 0 false d
abbrev Us (d:List Int) (p:Nat):T64:=T64.mk str 0 d (p:Int) false
abbrev Rs (d:List Int) (p:Nat):T78:=T78.mk str 0 [] false ((p:Int) + 1) false d

theorem putL_nil (d:List Int) (k:Nat):putL d k [] = d:=by
 unfold putL
 simp

/-- Putting bytes, by the document's function. -/
theorem put_ref (a:Nat) (b:List Int) (h0:List UInt8) (l p:Int) (d:List Int) (hb:b.length ≤ 30000) (hd:d.length ≤ 20000) (ha:a ≤ 100000000) :
  f63o (a:Int) b (T78.mk h0 l [] false p false d) = some (if a + b.length ≤ 20000 then (0,T78.mk h0 l [] false p false (if 0 < b.length then put d a b else d)) else (4,T78.mk h0 l [] false p false d)):=by
 have ew:w64 ((a:Int) + (b.length:Int)) = ((a + b.length:Nat):Int):=by rw [w64_id (by omega) (by omega)]; omega
 unfold f63o
 rw [ew]
 by_cases hab:a + b.length ≤ 20000
 ·rw [decide_eq_false (by omega),cond_false,if_pos hab]
  by_cases hb0:0 < b.length
  ·have loop:∀ (k:Nat) (v:List Int),a + b.length - v.length = k → v.length ≤ 20000 → iter (fun s=>f63o_b1 (a:Int) b s) v = some (Out.go (padTo v (a + b.length))):=by
    intro k
    induction k with
    | zero =>
     intro v hk hv
     apply iter_inr
     have:decide ((v.length:Int) < ((a + b.length:Nat):Int)) = false:=decide_eq_false (by omega)
     simp only [f63o_b1,decide_eq_true (show (b.length:Int) > 0 by omega),cond_true,ew,this,Option.bind_some,cond_false,padTo,hk,List.replicate_zero,List.append_nil]
    | succ k ih =>
     intro v hk hv
     have h1:decide ((v.length:Int) < ((a + b.length:Nat):Int)) = true:=decide_eq_true (by omega)
     have h2:(v.length + [(0:Int)].length) * 1 ≤ 140737488355328:=by simp only [List.length_cons,List.length_nil]; omega
     rw [iter_inl (s':=v ++ [0]) (by simp only [f63o_b1,decide_eq_true (show (b.length:Int) > 0 by omega),cond_true,ew,h1,Option.bind_some,if_pos h2]),ih (v ++ [0]) (by simp only [List.length_append,List.length_cons,List.length_nil]; omega) (by simp only [List.length_append,List.length_cons,List.length_nil]; omega)]
     unfold padTo
     rw [List.append_assoc,List.singleton_append,← List.replicate_succ]
     congr 4
     simp only [List.length_append,List.length_cons,List.length_nil]; omega
   have hpl:=padTo_len d (a + b.length)
   have hmin:(if ((padTo d (a + b.length)).length:Int) < (a:Int) then ((padTo d (a + b.length)).length:Int) else (a:Int)) = (a:Int):=if_neg (by omega)
   rw [loop _ d rfl hd]
   simp only [Option.bind_some,hmin]
   rw [if_pos ⟨by omega,by omega⟩,if_pos hb0,Int.toNat_natCast]
   rfl
  ·have hz:b = []:=List.eq_nil_of_length_eq_zero (by omega)
   subst hz
   have loop:iter (fun s=>f63o_b1 (a:Int) [] s) d = some (Out.go d):=by
    apply iter_inr
    rfl
   rw [loop]
   simp only [Option.bind_some,List.length_nil]
   rw [if_pos (by constructor <;> split <;> omega),putL_nil,if_neg (by omega)]
 ·rw [decide_eq_true (by omega),cond_true,if_neg hab]

theorem dir_wat (n:Int) (x:List Int) (l:Nat) (d:List Int) (hx:x.length ≤ 21000) (hd:d.length ≤ 20000) (hl:1 ≤ l ∧ l ≤ 1000) :
  ∃ c d',f24o n x (Ud l d) = some (c,Ud l d') ∧ f54o n x (Rd_ l d) = some (c,Rd_ l d') ∧ d'.length ≤ 20000:=by
 have e1:(dir == ([]:List UInt8)) = false:=rfl
 have e2:(dir == ([108,105,110,101,115]:List UInt8)) = false:=rfl
 have e3:(dir == ([114,101,99,111,114,100,115]:List UInt8)) = false:=rfl
 have e4:(dir == ([100,105,114,101,99,116]:List UInt8)) = true:=rfl
 unfold f24o f54o f41 f42
 simp only [e1,e2,e3,e4,Option.bind_some,cond_false,cond_true]
 by_cases hn:n < 1
 ·rw [decide_eq_true hn]; exact ⟨2,d,rfl,rfl,hd⟩
 rw [decide_eq_false hn]
 by_cases hbl:(x.length:Int) > (l:Int)
 ·rw [decide_eq_true hbl]; exact ⟨2,d,rfl,rfl,hd⟩
 rw [decide_eq_false hbl,decide_eq_false (show ¬ n < 0 by omega)]
 simp only [cond_false,Option.bind_some]
 by_cases hn2:n > 20000
 ·rw [decide_eq_true hn2]; exact ⟨4,d,rfl,rfl,hd⟩
 rw [decide_eq_false hn2,clone_eq x (by omega)]
 obtain ⟨m,rfl⟩:∃ m:Nat,n = (m:Int) + 1:=⟨(n - 1).toNat,by omega⟩
 have ew:w64 ((l:Int) - (x.length:Int)) = ((l - x.length:Nat):Int):=by rw [w64_id (by omega) (by omega)]; omega
 have em:w64 ((m:Int) + 1 - 1) = (m:Int):=by rw [w64_id (by omega) (by omega)]; omega
 have hml:m * l ≤ 20000 * 1000:=Nat.mul_le_mul (by omega) hl.2
 have eml:w64 ((m:Int) * (l:Int)) = ((m * l:Nat):Int):=by rw [← Int.natCast_mul,w64_id (by omega) (by omega)]
 have g:(0:Int) ≤ ((l - x.length:Nat):Int) ∧ (x.length + (l - x.length)) * 1 ≤ 140737488355328:=by omega
 have g2:(([]:List Int).length + x.length) * 1 ≤ 140737488355328:=by simp only [List.length_nil]; omega
 simp only [cond_false,Option.bind_some,ew,em,eml,Int.toNat_natCast,List.nil_append,if_pos g2,if_pos g]
 have hfl:=full_len (l:=l) (b:=x) (by omega)
 have hg:=grown_eq (m * l) (full l x) d dir (l:Int) 0 false (by omega) hd (by omega)
 have hr:=put_ref (m * l) (full l x) dir (l:Int) 0 d (by omega) hd (by omega)
 have hpl:=put_len d (m * l) (full l x)
 rw [if_pos (show 0 < (full l x).length by omega)] at hr
 by_cases hfit:m * l + (full l x).length ≤ 20000
 ·rw [if_pos hfit] at hg hr
  refine ⟨0,put d (m * l) (full l x),?_,?_,by omega⟩
  ·unfold full at hg ⊢
   rw [hg]
   rfl
  ·unfold full at hr ⊢
   rw [hr]
   rfl
 ·rw [if_neg hfit] at hg hr
  refine ⟨4,d,?_,?_,hd⟩
  ·unfold full at hg
   rw [hg]
   rfl
  ·unfold full at hr
   rw [hr]
   rfl

theorem dir_rat (n k:Int) (l:Nat) (d:List Int) (hd:d.length ≤ 20000) (hl:1 ≤ l ∧ l ≤ 1000) :
  ∃ out c,f25o n k (Ud l d) = some (out,c,Ud l d) ∧ f55o n k (Rd_ l d) = some (out,c,Rd_ l d):=by
 have e1:(dir == ([]:List UInt8)) = false:=rfl
 have e2:(dir == ([108,105,110,101,115]:List UInt8)) = false:=rfl
 have e3:(dir == ([114,101,99,111,114,100,115]:List UInt8)) = false:=rfl
 have e4:(dir == ([100,105,114,101,99,116]:List UInt8)) = true:=rfl
 have e5:(dir == ([115,116,114,101,97,109]:List UInt8)) = false:=rfl
 have hl0:(l:Int) ≠ 0:=by omega
 have hdl:w64 (Int.tdiv (d.length:Int) (l:Int)) = ((d.length / l:Nat):Int):=by
  have h3:d.length / l ≤ 20000:=Nat.le_trans (Nat.div_le_self _ _) hd
  have hw:∀ q:Nat,q ≤ 20000 → w64 (q:Int) = (q:Int):=fun q hq=>w64_id (by omega) (by omega)
  rw [Int.tdiv_eq_ediv_of_nonneg (by omega),← Int.natCast_ediv,hw _ h3]
 have hdle:d.length / l ≤ d.length:=Nat.div_le_self _ _
 unfold f25o f55o f41 f42
 simp only [e1,e2,e3,e4,e5,Option.bind_some,cond_false,cond_true,ne_eq,hl0,not_false_eq_true,if_true,hdl]
 by_cases hn:n < 1
 ·rw [decide_eq_true hn]; exact ⟨[],2,rfl,rfl⟩
 rw [decide_eq_false hn,decide_eq_false (show ¬ n < 0 by omega)]
 simp only [cond_false,Option.bind_some]
 by_cases hn2:n > 20000
 ·rw [decide_eq_true (show n > ((d.length / l:Nat):Int) by omega),decide_eq_true hn2]
  exact ⟨[],5,rfl,rfl⟩
 obtain ⟨m,rfl⟩:∃ m:Nat,n = (m:Int) + 1:=⟨(n - 1).toNat,by omega⟩
 have hml:m * l ≤ 20000 * 1000:=Nat.mul_le_mul (by omega) hl.2
 have em:w64 ((m:Int) + 1 - 1) = (m:Int):=by rw [w64_id (by omega) (by omega)]; omega
 have eml:w64 ((m:Int) * (l:Int)) = ((m * l:Nat):Int):=by rw [← Int.natCast_mul,w64_id (by omega) (by omega)]
 have eml2:w64 (((m:Int) + 1) * (l:Int)) = ((m * l + l:Nat):Int):=by
  rw [show ((m:Int) + 1) * (l:Int) = ((m * l + l:Nat):Int) by rw [Int.add_mul,Int.one_mul,Int.natCast_add,Int.natCast_mul]]
  exact w64_id (by omega) (by omega)
 have hiff:m + 1 > d.length / l ↔ m * l + l > d.length:=by
  have:=Nat.div_lt_iff_lt_mul (x:=d.length) (y:=m + 1) (k:=l) (by omega)
  rw [Nat.add_mul,Nat.one_mul] at this
  exact this
 rw [decide_eq_false hn2]
 simp only [em,eml,eml2,cond_false,Option.bind_some]
 by_cases hbig:m * l + l > d.length
 ·have:=hiff.2 hbig
  rw [decide_eq_true (show (m:Int) + 1 > ((d.length / l:Nat):Int) by omega),decide_eq_true (show ((m * l + l:Nat):Int) > (d.length:Int) by omega)]
  exact ⟨[],5,rfl,rfl⟩
 ·have h2:¬ m + 1 > d.length / l:=fun h=>hbig (hiff.1 h)
  rw [decide_eq_false (show ¬ (m:Int) + 1 > ((d.length / l:Nat):Int) by omega),decide_eq_false (show ¬ ((m * l + l:Nat):Int) > (d.length:Int) by omega)]
  simp only [cond_false,Int.toNat_natCast]
  rw [if_pos ⟨by omega,by omega,by omega⟩,if_pos ⟨by omega,by omega,by omega⟩,clone_eq _ (by rw [List.length_drop,List.length_take]; omega),if_pos (by simp only [List.length_nil]; omega)]
  exact ⟨_,0,rfl,rfl⟩

theorem str_wat (n:Int) (x:List Int) (d:List Int) (p:Nat) (hx:x.length ≤ 21000) (hd:d.length ≤ 20000) (hp:p ≤ 20000) (h63:n ≤ 9223372036854775807) :
  ∃ c d' p',f24o n x (Us d p) = some (c,Us d' p') ∧ f54o n x (Rs d p) = some (c,Rs d' p') ∧ d'.length ≤ 20000 ∧ p' ≤ 20000:=by
 have e1:(str == ([]:List UInt8)) = false:=rfl
 have e2:(str == ([108,105,110,101,115]:List UInt8)) = false:=rfl
 have e3:(str == ([114,101,99,111,114,100,115]:List UInt8)) = false:=rfl
 have e4:(str == ([100,105,114,101,99,116]:List UInt8)) = false:=rfl
 have e5:(str == ([115,116,114,101,97,109]:List UInt8)) = true:=rfl
 unfold f24o f54o f41 f42
 simp only [e1,e2,e3,e4,e5,Option.bind_some,cond_false,cond_true]
 by_cases hn:n < 0
 ·rw [decide_eq_true hn]; exact ⟨2,d,p,rfl,rfl,hd,hp⟩
 rw [decide_eq_false hn]
 simp only [cond_false]
 -- where it is: unit m, place m + 1
 obtain ⟨m,hf,hr⟩:∃ m:Nat,f45 (Us d p) n = some (m:Int) ∧ cond (n == (0:Int)) (f54o_j2 x (Rs d p) ((p:Int) + 1)) (f54o_j2 x (Rs d p) n) = f54o_j2 x (Rs d p) ((m:Int) + 1):=by
  unfold f45
  by_cases h0:n = 0
  ·subst h0; exact ⟨p,rfl,by rw [show ((0:Int) == 0) = true from rfl,cond_true]⟩
  ·refine ⟨(n - 1).toNat,?_,?_⟩
   ·rw [beq_eq_false_iff_ne.2 h0,cond_false,w64_id (by omega) (by omega)]
    congr 1
    omega
   ·rw [beq_eq_false_iff_ne.2 h0,cond_false]
    congr 1
    omega
 rw [hf,hr]
 simp only [Option.bind_some]
 unfold f54o_j2
 by_cases hm2:(m:Int) > 20000
 ·rw [decide_eq_true hm2,decide_eq_true (show (m:Int) + 1 > 20001 by omega)]
  exact ⟨4,d,p,rfl,rfl,hd,hp⟩
 rw [decide_eq_false hm2,decide_eq_false (show ¬ (m:Int) + 1 > 20001 by omega)]
 simp only [cond_false]
 have em:w64 ((m:Int) + 1 - 1) = (m:Int):=by rw [w64_id (by omega) (by omega)]; omega
 have ew:w64 ((m:Int) + (x.length:Int)) = ((m + x.length:Nat):Int):=by rw [w64_id (by omega) (by omega)]; omega
 have ew2:w64 ((m:Int) + 1 + (x.length:Int)) = ((m + x.length:Nat):Int) + 1:=by rw [w64_id (by omega) (by omega)]; omega
 have hput:=put_ref m x str 0 ((p:Int) + 1) d (by omega) hd (by omega)
 rw [em,hput]
 have hpl:=put_len d m x
 by_cases hfit:m + x.length ≤ 20000
 ·rw [if_pos hfit]
  simp only [Option.bind_some,beq_self_eq_true,cond_true,f54o_j1,ew2]
  refine ⟨0,if 0 < x.length then put d m x else d,m + x.length,?_,rfl,by split <;> omega,by omega⟩
  by_cases hx0:0 < x.length
  ·rw [decide_eq_true (show (x.length:Int) > 0 by omega),cond_true,grown_eq m x d str 0 p false (by omega) hd (by omega),if_pos hfit,if_pos hx0]
   simp only [Option.bind_some,show ((0:Int) != 0) = false from rfl,cond_false,f24o_j2,ew]
  ·rw [decide_eq_false (show ¬ (x.length:Int) > 0 by omega),cond_false,if_neg hx0]
   simp only [f24o_j2,ew]
 ·rw [if_neg hfit]
  refine ⟨4,d,p,?_,rfl,hd,hp⟩
  have hx0:0 < x.length:=by omega
  rw [decide_eq_true (show (x.length:Int) > 0 by omega),cond_true,grown_eq m x d str 0 p false (by omega) hd (by omega),if_neg hfit]
  rfl

theorem str_rat (n k:Int) (d:List Int) (p:Nat) (hd:d.length ≤ 20000) (hp:p ≤ 20000) (h63:n ≤ 9223372036854775807) :
  ∃ out c p',f25o n k (Us d p) = some (out,c,Us d p') ∧ f55o n k (Rs d p) = some (out,c,Rs d p') ∧ p' ≤ 20000:=by
 have e1:(str == ([]:List UInt8)) = false:=rfl
 have e2:(str == ([108,105,110,101,115]:List UInt8)) = false:=rfl
 have e3:(str == ([114,101,99,111,114,100,115]:List UInt8)) = false:=rfl
 have e4:(str == ([100,105,114,101,99,116]:List UInt8)) = false:=rfl
 have e5:(str == ([115,116,114,101,97,109]:List UInt8)) = true:=rfl
 unfold f25o f55o f41 f42
 simp only [e1,e2,e3,e4,e5,Option.bind_some,cond_false,cond_true]
 by_cases hn:n < 0
 ·rw [decide_eq_true hn]; exact ⟨[],2,p,rfl,rfl,hp⟩
 rw [decide_eq_false hn]
 by_cases hk:k < 0
 ·rw [decide_eq_true hk]; exact ⟨[],2,p,rfl,rfl,hp⟩
 rw [decide_eq_false hk]
 by_cases hk2:k > 20000
 ·rw [decide_eq_true hk2]; exact ⟨[],2,p,rfl,rfl,hp⟩
 rw [decide_eq_false hk2]
 simp only [cond_false,Option.bind_some]
 obtain ⟨m,hf,hr⟩:∃ m:Nat,f45 (Us d p) n = some (m:Int) ∧ cond (n == (0:Int)) (f55o_j1 k (Rs d p) ((p:Int) + 1)) (f55o_j1 k (Rs d p) n) = f55o_j1 k (Rs d p) ((m:Int) + 1):=by
  unfold f45
  by_cases h0:n = 0
  ·subst h0; exact ⟨p,rfl,by rw [show ((0:Int) == 0) = true from rfl,cond_true]⟩
  ·refine ⟨(n - 1).toNat,?_,?_⟩
   ·rw [beq_eq_false_iff_ne.2 h0,cond_false,w64_id (by omega) (by omega)]
    congr 1
    omega
   ·rw [beq_eq_false_iff_ne.2 h0,cond_false]
    congr 1
    omega
 rw [hf,hr]
 simp only [Option.bind_some]
 unfold f55o_j1
 by_cases hm2:(m:Int) > 20000
 ·rw [decide_eq_true (show (m:Int) > (d.length:Int) by omega),decide_eq_true (show (m:Int) + 1 > 20001 by omega)]
  exact ⟨[],6,p,rfl,rfl,hp⟩
 have em:w64 ((m:Int) + 1 - 1) = (m:Int):=by rw [w64_id (by omega) (by omega)]; omega
 have ek:w64 ((m:Int) + k) = (m:Int) + k:=w64_id (by omega) (by omega)
 have ek2:w64 ((m:Int) + 1 + k) = (m:Int) + 1 + k:=w64_id (by omega) (by omega)
 have el:w64 ((d.length:Int) - (m:Int)) = (d.length:Int) - (m:Int):=w64_id (by omega) (by omega)
 rw [decide_eq_false (show ¬ (m:Int) + 1 > 20001 by omega)]
 simp only [em,ek,ek2,el,cond_false,Option.bind_some]
 by_cases hbig:(m:Int) + k > (d.length:Int)
 ·rw [decide_eq_true hbig]
  refine ⟨[],6,p,?_,rfl,hp⟩
  by_cases h1:(m:Int) > (d.length:Int)
  ·rw [decide_eq_true h1]; rfl
  ·rw [decide_eq_false h1,decide_eq_true (show k > (d.length:Int) - (m:Int) by omega)]; rfl
 ·rw [decide_eq_false hbig,decide_eq_false (show ¬ (m:Int) > (d.length:Int) by omega),decide_eq_false (show ¬ k > (d.length:Int) - (m:Int) by omega)]
  simp only [cond_false,Option.bind_some,Int.toNat_natCast]
  rw [if_pos ⟨by omega,by omega,by omega⟩,if_pos ⟨by omega,by omega,by omega,by simp only [List.length_nil]; omega⟩,clone_eq _ (by rw [List.length_drop,List.length_take]; omega)]
  refine ⟨(d.take ((m:Int) + k).toNat).drop m,0,((m:Int) + k).toNat,?_,?_,by omega⟩
  ·show some (_,(0:Int),T64.mk str 0 d ((m:Int) + k) false) = some (_,(0:Int),T64.mk str 0 d ((((m:Int) + k).toNat:Nat):Int) false)
   rw [Int.toNat_of_nonneg (by omega)]
  ·simp only [List.nil_append]
   show some (_,(0:Int),T78.mk str 0 [] false ((m:Int) + 1 + k) false d) = some (_,(0:Int),T78.mk str 0 [] false (((((m:Int) + k).toNat:Nat):Int) + 1) false d)
   rw [Int.toNat_of_nonneg (by omega),show (m:Int) + 1 + k = (m:Int) + k + 1 by omega]

end Go.Sx.unit

namespace Go.Sx.unit
open Go Go.Sx

/-- What both units stand for. -/
inductive Mo where
 | seq (s:Fil) (p:Nat) (b:Bool)
 | dir (l:Nat) (d:List Int)
 | str (d:List Int) (p:Nat)

def Mo.u:Mo → T64
 | .seq s p b=>Uf s p b
 | .dir l d=>Ud l d
 | .str d p=>Us d p

def Mo.r:Mo → T78
 | .seq s p b=>Rf s p b
 | .dir l d=>Rd_ l d
 | .str d p=>Rs d p

def Mo.Ok:Mo → Prop
 | .seq s p b=>s.Ok ∧ p ≤ s.recs.length ∧ (b = true → p = s.recs.length)
 | .dir l d=>(1 ≤ l ∧ l ≤ 1000) ∧ d.length ≤ 20000
 | .str d p=>d.length ≤ 20000 ∧ p ≤ 20000

/-- A deed that can be read. -/
structure Ac (x:T46):Prop where
 by_:By x.f3
 len:x.f3.length ≤ 21000
 n63:x.f1 ≤ 9223372036854775807

theorem play_one (m:Mo) (h:m.Ok) (x:T46) (hx:Ac x):∃ out c m',f28o x m.u = some (out,c,Mo.u m') ∧ f29o x m.r = some (out,c,Mo.r m') ∧ m'.Ok:=by
 have hxl:=hx.len
 cases m with
 | seq s p b =>
  obtain ⟨h1,h2,h3⟩:=h
  simp only [Mo.u,Mo.r]
  by_cases c0:x.f0 = 0
  ·have e0:(x.f0 == (0:Int)) = true:=by simpa using c0
   unfold f28o f29o
   rw [e0]
   simp only [cond_true]
   rcases play_write h1 h2 b hx.by_ (by omega) with ⟨c,_,w1,w2⟩ | ⟨w0,w1,w2⟩
   ·refine ⟨[],c,.seq s p b,?_,?_,h1,h2,h3⟩
    ·rw [w1]; rfl
    ·have w2':f52o x.f3 (T78.mk (Rf s p b).f0 (Rf s p b).f1 (Rf s p b).f2 (Rf s p b).f3 (Rf s p b).f4 (Rf s p b).f5 (Rf s p b).f6) = _:=w2
     rw [w2']; rfl
   ·refine ⟨[],0,.seq (s.wr p x.f3) (p + 1) false,?_,?_,w0,by rw [(wr_recs s h2 x.f3).2]; exact Nat.le_refl _,nofun⟩
    ·rw [w1]; rfl
    ·have w2':f52o x.f3 (T78.mk (Rf s p b).f0 (Rf s p b).f1 (Rf s p b).f2 (Rf s p b).f3 (Rf s p b).f4 (Rf s p b).f5 (Rf s p b).f6) = _:=w2
     rw [w2']; rfl
  have e0:(x.f0 == (0:Int)) = false:=by simpa using c0
  by_cases c1:x.f0 = 1
  ·have e1:(x.f0 == (1:Int)) = true:=by simpa using c1
   unfold f28o f29o
   rw [e0,e1]
   simp only [cond_true,cond_false]
   obtain ⟨out,c,p',b',hh⟩:=play_read h1 h2 b
   rcases hh with ⟨w1,w2,w3,w4⟩ | ⟨_,w1,w2⟩
   ·refine ⟨out,c,.seq s p' b',?_,?_,h1,w3,w4⟩
    ·rw [w1]; rfl
    ·have w2':f53o (T78.mk (Rf s p b).f0 (Rf s p b).f1 (Rf s p b).f2 (Rf s p b).f3 (Rf s p b).f4 (Rf s p b).f5 (Rf s p b).f6) = _:=w2
     rw [w2']; rfl
   ·refine ⟨[],110,.seq s p b,?_,?_,h1,h2,h3⟩
    ·rw [w1]; rfl
    ·have w2':f53o (T78.mk (Rf s p b).f0 (Rf s p b).f1 (Rf s p b).f2 (Rf s p b).f3 (Rf s p b).f4 (Rf s p b).f5 (Rf s p b).f6) = _:=w2
     rw [w2']; rfl
  have e1:(x.f0 == (1:Int)) = false:=by simpa using c1
  by_cases c2:x.f0 = 2
  ·have e2:(x.f0 == (2:Int)) = true:=by simpa using c2
   obtain ⟨w1,w2⟩:=play_wat (s:=s) x.f1 x.f3 p b
   refine ⟨[],110,.seq s p b,?_,?_,h1,h2,h3⟩
   ·unfold f28o
    rw [e0,e1,e2]
    simp only [cond_true,cond_false]
    rw [w1]; rfl
   ·have w2':f54o x.f1 x.f3 (T78.mk (Rf s p b).f0 (Rf s p b).f1 (Rf s p b).f2 (Rf s p b).f3 (Rf s p b).f4 (Rf s p b).f5 (Rf s p b).f6) = _:=w2
    unfold f29o
    rw [e0,e1,e2]
    simp only [cond_true,cond_false]
    rw [w2']; rfl
  have e2:(x.f0 == (2:Int)) = false:=by simpa using c2
  by_cases c3:x.f0 = 3
  ·have e3:(x.f0 == (3:Int)) = true:=by simpa using c3
   obtain ⟨w1,w2⟩:=play_rat (s:=s) x.f1 x.f2 p b
   refine ⟨[],110,.seq s p b,?_,?_,h1,h2,h3⟩
   ·unfold f28o
    rw [e0,e1,e2,e3]
    simp only [cond_true,cond_false]
    rw [w1]; rfl
   ·have w2':f55o x.f1 x.f2 (T78.mk (Rf s p b).f0 (Rf s p b).f1 (Rf s p b).f2 (Rf s p b).f3 (Rf s p b).f4 (Rf s p b).f5 (Rf s p b).f6) = _:=w2
    unfold f29o
    rw [e0,e1,e2,e3]
    simp only [cond_true,cond_false]
    rw [w2']; rfl
  have e3:(x.f0 == (3:Int)) = false:=by simpa using c3
  by_cases c4:x.f0 = 4
  ·have e4:(x.f0 == (4:Int)) = true:=by simpa using c4
   obtain ⟨w1,w2⟩:=play_rewind (s:=s) p b
   refine ⟨[],0,.seq s 0 false,?_,?_,h1,Nat.zero_le _,nofun⟩
   ·unfold f28o
    rw [e0,e1,e2,e3,e4]
    simp only [cond_true,cond_false]
    rw [w1]; rfl
   ·have w2':f56o (T78.mk (Rf s p b).f0 (Rf s p b).f1 (Rf s p b).f2 (Rf s p b).f3 (Rf s p b).f4 (Rf s p b).f5 (Rf s p b).f6) = _:=w2
    unfold f29o
    rw [e0,e1,e2,e3,e4]
    simp only [cond_true,cond_false]
    rw [w2']; rfl
  have e4:(x.f0 == (4:Int)) = false:=by simpa using c4
  by_cases c5:x.f0 = 5
  ·have e5:(x.f0 == (5:Int)) = true:=by simpa using c5
   obtain ⟨w1,w2⟩:=play_back h1 h2 b
   refine ⟨[],0,.seq s (if b = true then p else p - 1) false,?_,?_,h1,by split <;> omega,nofun⟩
   ·unfold f28o
    rw [e0,e1,e2,e3,e4,e5]
    simp only [cond_true,cond_false]
    rw [w1]; rfl
   ·have w2':f57o (T78.mk (Rf s p b).f0 (Rf s p b).f1 (Rf s p b).f2 (Rf s p b).f3 (Rf s p b).f4 (Rf s p b).f5 (Rf s p b).f6) = _:=w2
    unfold f29o
    rw [e0,e1,e2,e3,e4,e5]
    simp only [cond_true,cond_false]
    rw [w2']; rfl
  have e5:(x.f0 == (5:Int)) = false:=by simpa using c5
  unfold f28o f29o
  rw [e0,e1,e2,e3,e4,e5]
  simp only [cond_false]
  cases b with
  | true =>
   obtain ⟨w1,w2⟩:=end_past (s:=s) p
   refine ⟨[],110,.seq s p true,?_,?_,h1,h2,h3⟩
   ·rw [w1]; rfl
   ·have w2':f58o (T78.mk (Rf s p true).f0 (Rf s p true).f1 (Rf s p true).f2 (Rf s p true).f3 (Rf s p true).f4 (Rf s p true).f5 (Rf s p true).f6) = _:=w2
    rw [w2']; rfl
  | false =>
   obtain ⟨w1,w2⟩:=play_end h1 h2
   refine ⟨[],0,.seq (s.cut p) p true,?_,?_,cut_ok h1 h2,by rw [cut_len h2]; exact Nat.le_refl _,fun _=>(cut_len h2).symm⟩
   ·rw [w1]; rfl
   ·have w2':f58o (T78.mk (Rf s p false).f0 (Rf s p false).f1 (Rf s p false).f2 (Rf s p false).f3 (Rf s p false).f4 (Rf s p false).f5 (Rf s p false).f6) = _:=w2
    rw [w2']; rfl
 | dir l d =>
  obtain ⟨hl,hd⟩:=h
  simp only [Mo.u,Mo.r]
  have ne:∀ b,f41 (Ud l b) = some false:=fun _=>rfl
  have sq:∀ b,f42 (Ud l b) = some false:=fun _=>rfl
  have rq:f46 (Rd_ l d) = some false:=rfl
  unfold f28o f29o
  cases x.f0 == (0:Int) with
  | true=>exact ⟨[],110,.dir l d,rfl,rfl,hl,hd⟩
  | false =>
   cases x.f0 == (1:Int) with
   | true=>exact ⟨[],110,.dir l d,rfl,rfl,hl,hd⟩
   | false =>
    cases x.f0 == (2:Int) with
    | true =>
     simp only [cond_true,cond_false]
     obtain ⟨c,d',w1,w2,w3⟩:=dir_wat x.f1 x.f3 l d hxl hd hl
     refine ⟨[],c,.dir l d',?_,?_,hl,w3⟩
     ·rw [w1]; rfl
     ·have w2':f54o x.f1 x.f3 (T78.mk (Rd_ l d).f0 (Rd_ l d).f1 (Rd_ l d).f2 (Rd_ l d).f3 (Rd_ l d).f4 (Rd_ l d).f5 (Rd_ l d).f6) = _:=w2
      rw [w2']; rfl
    | false =>
     cases x.f0 == (3:Int) with
     | true =>
      simp only [cond_true,cond_false]
      obtain ⟨out,c,w1,w2⟩:=dir_rat x.f1 x.f2 l d hd hl
      refine ⟨out,c,.dir l d,?_,?_,hl,hd⟩
      ·rw [w1]; rfl
      ·have w2':f55o x.f1 x.f2 (T78.mk (Rd_ l d).f0 (Rd_ l d).f1 (Rd_ l d).f2 (Rd_ l d).f3 (Rd_ l d).f4 (Rd_ l d).f5 (Rd_ l d).f6) = _:=w2
       rw [w2']; rfl
     | false =>
      cases x.f0 == (4:Int) with
      | true=>exact ⟨[],0,.dir l d,rfl,rfl,hl,hd⟩
      | false =>
       cases x.f0 == (5:Int) with
       | true=>exact ⟨[],110,.dir l d,rfl,rfl,hl,hd⟩
       | false=>exact ⟨[],110,.dir l d,rfl,rfl,hl,hd⟩
 | str d p =>
  obtain ⟨hd,hp⟩:=h
  simp only [Mo.u,Mo.r]
  unfold f28o f29o
  cases x.f0 == (0:Int) with
  | true=>exact ⟨[],110,.str d p,rfl,rfl,hd,hp⟩
  | false =>
   cases x.f0 == (1:Int) with
   | true=>exact ⟨[],110,.str d p,rfl,rfl,hd,hp⟩
   | false =>
    cases x.f0 == (2:Int) with
    | true =>
     simp only [cond_true,cond_false]
     obtain ⟨c,d',p',w1,w2,w3,w4⟩:=str_wat x.f1 x.f3 d p hxl hd hp hx.n63
     refine ⟨[],c,.str d' p',?_,?_,w3,w4⟩
     ·rw [w1]; rfl
     ·have w2':f54o x.f1 x.f3 (T78.mk (Rs d p).f0 (Rs d p).f1 (Rs d p).f2 (Rs d p).f3 (Rs d p).f4 (Rs d p).f5 (Rs d p).f6) = _:=w2
      rw [w2']; rfl
    | false =>
     cases x.f0 == (3:Int) with
     | true =>
      simp only [cond_true,cond_false]
      obtain ⟨out,c,p',w1,w2,w3⟩:=str_rat x.f1 x.f2 d p hd hp hx.n63
      refine ⟨out,c,.str d p',?_,?_,hd,w3⟩
      ·rw [w1]; rfl
      ·have w2':f55o x.f1 x.f2 (T78.mk (Rs d p).f0 (Rs d p).f1 (Rs d p).f2 (Rs d p).f3 (Rs d p).f4 (Rs d p).f5 (Rs d p).f6) = _:=w2
       rw [w2']; rfl
     | false =>
      cases x.f0 == (4:Int) with
      | true=>exact ⟨[],0,.str d 0,rfl,rfl,hd,Nat.zero_le _⟩
      | false =>
       cases x.f0 == (5:Int) with
       | true=>exact ⟨[],110,.str d p,rfl,rfl,hd,hp⟩
       | false=>exact ⟨[],110,.str d p,rfl,rfl,hd,hp⟩

theorem f19_str' (p:Nat) (hp:p ≤ 20000) (d:List Int):f19 (Us d p) = some ((p:Int) + 1):=by
 unfold f19
 show some (w64 ((p:Int) + 1)) = _
 rw [w64_id (by omega) (by omega)]

theorem play_same (m:Mo) (h:m.Ok):f27 m.u m.r = some true:=by
 cases m with
 | seq s p b=>exact play_alike h.1 h.2.1 b h.2.2
 | dir l d =>
  obtain ⟨hl,hd⟩:=h
  simp only [Mo.u,Mo.r]
  have hl0:(l:Int) ≠ 0:=by omega
  have e18:f18 (Ud l d) = some (w64 (Int.tdiv (d.length:Int) (l:Int)),0):=by
   unfold f18
   show (if (l:Int) ≠ (0:Int) then some (w64 (Int.tdiv (d.length:Int) (l:Int)),(0:Int)) else none) = _
   rw [if_pos hl0]
  have e49:f49 (Rd_ l d) = some (w64 (Int.tdiv (d.length:Int) (l:Int))):=by
   unfold f49
   show (if (l:Int) ≠ (0:Int) then some (w64 (Int.tdiv (d.length:Int) (l:Int))) else none) = _
   rw [if_pos hl0]
  have e19:f19 (Ud l d) = some 0:=rfl
  have e48:f48 (Rd_ l d) = some 0:=rfl
  have e34:f34 (Ud l d) = some dir:=rfl
  have e21:f21 (Ud l d) = some d:=by
   unfold f21
   show (f37 d).bind _ = _
   rw [clone_eq d (by omega)]; rfl
  have e50:f50 (Rd_ l d) = some d:=by
   unfold f50
   show (if (([]:List Int).length + d.length) * 1 ≤ 140737488355328 then some (([]:List Int) ++ d) else none) = _
   rw [if_pos (by simp only [List.length_nil]; omega)]; rfl
  unfold f27
  rw [e18,e19,e48,e49,e34,e21,e50]
  simp
 | str d p =>
  obtain ⟨hd,hp⟩:=h
  simp only [Mo.u,Mo.r]
  have e18:f18 (Us d p) = some ((d.length:Int),0):=rfl
  have e49:f49 (Rs d p) = some (d.length:Int):=rfl
  have e19:f19 (Us d p) = some ((p:Int) + 1):=f19_str' p hp d
  have e48:f48 (Rs d p) = some ((p:Int) + 1):=rfl
  have e34:f34 (Us d p) = some str:=rfl
  have e21:f21 (Us d p) = some d:=by
   unfold f21
   show (f37 d).bind _ = _
   rw [clone_eq d (by omega)]; rfl
  have e50:f50 (Rs d p) = some d:=by
   unfold f50
   show (if (([]:List Int).length + d.length) * 1 ≤ 140737488355328 then some (([]:List Int) ++ d) else none) = _
   rw [if_pos (by simp only [List.length_nil]; omega)]; rfl
  unfold f27
  rw [e18,e19,e48,e49,e34,e21,e50]
  simp

end Go.Sx.unit

namespace Go.Sx.unit
open Go Go.Sx

/-- The lines of bytes. -/
theorem lines_eq {b:List Int} (hb:By b) (hl:b.length ≤ 20000):∃ s:Fil,s.fm = true ∧ s.Ok ∧ s.bytes = b ∧ f47 b = some (s.recs,s.tl.isSome):=by
 have loop:=iter_inv (fun x:List (List Int) × Int × Int=>f47_b2 b x.1 x.2.1 x.2.2)
  (fun i x=>∃ (out:List (List Int)) (fr:Nat),x = (out,(fr:Int),(i:Int)) ∧ fr ≤ i ∧ b.take fr = W true out ∧ (∀ r ∈ out,okR true r) ∧ (10:Int) ∉ (b.take i).drop fr)
  (fun y=>∃ (out:List (List Int)) (fr:Nat),y = Out.go (out,(fr:Int)) ∧ fr ≤ b.length ∧ b.take fr = W true out ∧ (∀ r ∈ out,okR true r) ∧ (10:Int) ∉ b.drop fr) b.length
  (by
   rintro i x hi ⟨out,fr,rfl,h1,h2,h3,h4⟩
   right
   have hd1:decide ((i:Int) < (b.length:Int)) = true:=by simpa using hi
   have g1:(0:Int) ≤ i ∧ (i:Int) < (b.length:Int):=by omega
   have hg:b.getD i default = b[i]:=by rw [List.getD_eq_getElem?_getD,List.getElem?_eq_getElem hi]; rfl
   have ei:w64 ((i:Int) + 1) = ((i + 1:Nat):Int):=by rw [w64_id (by omega) (by omega)]; omega
   have hWl:=W_len true out
   have hto:out.length ≤ fr:=by
    have:=congrArg List.length h2
    rw [List.length_take] at this
    omega
   have htk:b.take (i + 1) = b.take i ++ [b[i]]:=List.take_succ_eq_append_getElem hi
   by_cases h10:b[i] = 10
   ·have e:(b.getD i default == (10:Int)) = true:=by rw [hg,h10]; rfl
    have k1:(([]:List Int).length + ((b.take i).drop fr).length) * 1 ≤ 140737488355328:=by simp only [List.length_nil,List.length_drop,List.length_take]; omega
    have k2:(out.length + [(b.take i).drop fr].length) * 24 ≤ 140737488355328:=by simp only [List.length_cons,List.length_nil]; omega
    refine ⟨(out ++ [(b.take i).drop fr],((i + 1:Nat):Int),((i + 1:Nat):Int)),?_,out ++ [(b.take i).drop fr],i + 1,rfl,Nat.le_refl _,?_,?_,?_⟩
    ·simp only [f47_b2,hd1,cond_true,if_pos g1,Int.toNat_natCast,e,if_pos k1,ei,f47_j1,List.nil_append]
     rw [if_pos ⟨by omega,by omega,by omega⟩,if_pos k2]
    ·rw [W_append,W_one,← h2,htk,h10]
     have:b.take i = b.take fr ++ (b.take i).drop fr:=by
      conv=>lhs; rw [← List.take_append_drop fr (b.take i)]
      rw [List.take_take,Nat.min_eq_left h1]
     conv=>lhs; rw [this]
     simp [wrapF,List.append_assoc]
    ·intro r hr
     rcases List.mem_append.1 hr with hr | hr
     ·exact h3 r hr
     ·rw [List.mem_singleton] at hr
      subst hr
      exact ⟨nofun,(hb.take i).drop fr,fun _=>h4⟩
    ·rw [List.drop_of_length_le (by rw [List.length_take]; omega)]
     simp
   ·have e:(b.getD i default == (10:Int)) = false:=by rw [hg]; simpa using h10
    refine ⟨(out,(fr:Int),((i + 1:Nat):Int)),?_,out,fr,rfl,by omega,h2,h3,?_⟩
    ·simp only [f47_b2,hd1,cond_true,if_pos g1,Int.toNat_natCast,e,cond_false,ei,f47_j1]
    ·rw [htk,List.drop_append_of_le_length (by rw [List.length_take]; omega)]
     simp only [List.mem_append,List.mem_singleton,not_or]
     exact ⟨h4,fun h=>h10 h.symm⟩)
  (by
   rintro x ⟨out,fr,rfl,h1,h2,h3,h4⟩
   refine ⟨.go (out,(fr:Int)),?_,out,fr,rfl,h1,h2,h3,by rw [List.take_length] at h4; exact h4⟩
   simp only [f47_b2,show decide ((b.length:Int) < (b.length:Int)) = false from by simp,cond_false])
  ([],(0:Int),(0:Int)) ⟨[],0,rfl,Nat.le_refl _,rfl,fun r hr=>(by cases hr),by simp⟩
 obtain ⟨y,hy,out,fr,rfl,h1,h2,h3,h4⟩:=loop
 have hto:out.length ≤ fr:=by
  have:=congrArg List.length h2
  rw [List.length_take] at this
  have hWl:=W_len true out
  omega
 unfold f47
 rw [hy]
 simp only [Option.bind_some]
 by_cases he:fr = b.length
 ·refine ⟨⟨true,out,none⟩,rfl,⟨h3,fun t ht=>(by cases ht),?_⟩,?_,?_⟩
  ·show (W true out ++ []).length ≤ 20000
   rw [List.append_nil,← h2,List.length_take]; omega
  ·show W true out ++ [] = b
   rw [List.append_nil,← h2,he,List.take_length]
  ·have:((fr:Int) == (b.length:Int)) = true:=by rw [he]; simp
   rw [this,cond_true]
   simp [Fil.recs]
 ·have hne:((fr:Int) == (b.length:Int)) = false:=beq_eq_false_iff_ne.2 (by omega)
  have hpos:b.drop fr ≠ []:=fun h=>by
   have:=congrArg List.length h
   rw [List.length_drop,List.length_nil] at this
   omega
  refine ⟨⟨true,out,some (b.drop fr)⟩,rfl,⟨h3,fun t ht=>?_,?_⟩,?_,?_⟩
  ·cases ht
   exact ⟨rfl,hb.drop fr,h4,hpos⟩
  ·show (W true out ++ b.drop fr).length ≤ 20000
   rw [← h2,List.take_append_drop]; exact hl
  ·show W true out ++ b.drop fr = b
   rw [← h2,List.take_append_drop]
  ·rw [hne,cond_false]
   simp only [Int.toNat_natCast,List.take_length,List.nil_append]
   rw [if_pos ⟨by omega,by omega⟩,if_pos (by simp only [List.length_nil,List.length_drop]; omega),if_pos (by simp only [List.length_cons,List.length_nil]; omega)]
   simp [Fil.recs]

/-- The records of bytes. -/
theorem recs_eq {b:List Int} (hb:By b) (hl:b.length ≤ 20000) :
  (∃ bs,f35 recs b = some (bs,false) ∧ f11 b = some ([],3)) ∨ ∃ s:Fil,∃ bs,s.fm = false ∧ s.tl = none ∧ s.Ok ∧ s.bytes = b ∧ f35 recs b = some (bs,true) ∧ f11 b = some (s.recs,0):=by
 rw [f35_eq hb (by omega),f11_eq hb (by omega)]
 unfold splitAns
 cases hp:parsed b with
 | none=>exact .inl ⟨[],rfl,rfl⟩
 | some l =>
  right
  obtain ⟨h1,h2⟩:=parse_wraps hb (b.length + 1) 0 hp (Nat.zero_le _)
  rw [List.drop_zero] at h1
  have hW:W false (l.map Prod.snd) = b:=h1.symm
  refine ⟨⟨false,l.map Prod.snd,none⟩,_,rfl,rfl,⟨fun r hr=>?_,fun t ht=>(by cases ht),?_⟩,?_,rfl,?_⟩
  ·have hlen:r.length ≤ 1000:=by
    have:=List.all_eq_true.1 h2 r hr
    simpa using this
   refine ⟨fun _=>hlen,fun x hx=>hb x ?_,nofun⟩
   rw [h1]
   refine List.mem_flatMap.2 ⟨r,hr,?_⟩
   unfold wrapR
   simp only [List.mem_append]
   exact .inr (.inl hx)
  ·show (W false (l.map Prod.snd) ++ []).length ≤ 20000
   rw [List.append_nil,hW]; exact hl
  ·show W false (l.map Prod.snd) ++ [] = b
   rw [List.append_nil,hW]
  ·simp [Fil.recs]

/-- Opened alike. -/
theorem open_both (how:List UInt8) (n:Int) (b:List Int) (hb:By b) (hl:b.length ≤ 21000) :
  (∃ k,k ≠ 0 ∧ f16 how n b = some (none,k) ∧ f26 how n b = some (none,k)) ∨ ∃ m:Mo,m.Ok ∧ f16 how n b = some (some m.u,0) ∧ f26 how n b = some (some m.r,0):=by
 have hclone:=clone_eq b (by omega)
 by_cases c1:how = formOf true
 ·subst c1
  have e16:f16 (formOf true) n b = f16_j3 (formOf true) n b true:=rfl
  rw [e16]
  unfold f16_j3 f16_j2 f16_j1 f26
  rw [f46_form]
  simp only [form_dir,form_str,show (formOf true == ([108,105,110,101,115]:List UInt8)) = true from rfl,show (formOf true == ([114,101,99,111,114,100,115]:List UInt8)) = false from rfl,Option.bind_some,cond_true,cond_false,Bool.not_true,Bool.not_false]
  by_cases hn:n = 0
  ·subst hn
   simp only [show ((0:Int) != 0) = false from rfl,cond_false,Option.bind_some]
   by_cases hc:b.length ≤ 20000
   ·rw [decide_eq_false (show ¬ (b.length:Int) > 20000 by omega),hclone]
    obtain ⟨s,s1,s2,s3,s4⟩:=lines_eq hb hc
    right
    refine ⟨.seq s 0 false,⟨s2,Nat.zero_le _,nofun⟩,?_,?_⟩
    ·simp only [cond_false,Option.bind_some,Mo.u,Uf,s1,s3,s.off_zero]
     rfl
    ·rw [s4]
     simp only [cond_false,Option.bind_some,f26_j1,show ((0:Int) != 0) = false from rfl,Mo.r,Rf,s1]
     rfl
   ·rw [decide_eq_true (show (b.length:Int) > 20000 by omega)]
    exact .inl ⟨4,by decide,rfl,rfl⟩
  ·have:(n != 0) = true:=by simpa using hn
   rw [this]
   exact .inl ⟨2,by decide,rfl,rfl⟩
 by_cases c2:how = formOf false
 ·subst c2
  have e16:f16 (formOf false) n b = f16_j3 (formOf false) n b true:=rfl
  rw [e16]
  unfold f16_j3 f16_j2 f16_j1 f26
  rw [f46_form]
  simp only [form_dir,form_str,show (formOf false == ([108,105,110,101,115]:List UInt8)) = false from rfl,show (formOf false == ([114,101,99,111,114,100,115]:List UInt8)) = true from rfl,Option.bind_some,cond_true,cond_false,Bool.not_true,Bool.not_false]
  by_cases hn:n = 0
  ·subst hn
   simp only [show ((0:Int) != 0) = false from rfl,cond_false,Option.bind_some]
   by_cases hc:b.length ≤ 20000
   ·rw [decide_eq_false (show ¬ (b.length:Int) > 20000 by omega),hclone]
    rcases recs_eq hb hc with ⟨bs,r1,r2⟩ | ⟨s,bs,s1,s2,s3,s4,s5,s6⟩
    ·left
     have r1':f35 (formOf false) b = some (bs,false):=r1
     rw [r1',r2]
     exact ⟨3,by decide,rfl,rfl⟩
    ·right
     have s5':f35 (formOf false) b = some (bs,true):=s5
     rw [s5',s6]
     refine ⟨.seq s 0 false,⟨s3,Nat.zero_le _,nofun⟩,?_,?_⟩
     ·simp only [cond_false,Option.bind_some,Bool.not_true,Mo.u,Uf,s1,s4,s.off_zero]
      rfl
     ·simp only [cond_false,Option.bind_some,f26_j1,show ((0:Int) != 0) = false from rfl,Mo.r,Rf,s1,s2]
      rfl
   ·rw [decide_eq_true (show (b.length:Int) > 20000 by omega)]
    exact .inl ⟨4,by decide,rfl,rfl⟩
  ·have:(n != 0) = true:=by simpa using hn
   rw [this]
   exact .inl ⟨2,by decide,rfl,rfl⟩
 have d1:(how == ([108,105,110,101,115]:List UInt8)) = false:=beq_eq_false_iff_ne.2 c1
 have d2:(how == ([114,101,99,111,114,100,115]:List UInt8)) = false:=beq_eq_false_iff_ne.2 c2
 have e46:f46 (T78.mk how n ([]:List (List Int)) false (0:Int) false ([]:List Int)) = some false:=by
  show (cond (how == ([108,105,110,101,115]:List UInt8)) (some true) (some (how == ([114,101,99,111,114,100,115]:List UInt8)))).bind _ = _
  rw [d1,d2]; rfl
 have kb:(([]:List Int).length + b.length) * 1 ≤ 140737488355328:=by simp only [List.length_nil]; omega
 by_cases c3:how = dir
 ·subst c3
  have e16:f16 dir n b = f16_j3 dir n b false:=rfl
  rw [e16]
  unfold f16_j3 f16_j2 f16_j1 f26
  rw [e46]
  simp only [show (dir == ([100,105,114,101,99,116]:List UInt8)) = true from rfl,show (dir == ([115,116,114,101,97,109]:List UInt8)) = false from rfl,d1,d2,Option.bind_some,cond_true,cond_false,Bool.not_true,Bool.not_false]
  by_cases h1:n < 1
  ·rw [decide_eq_true h1]
   exact .inl ⟨2,by decide,rfl,rfl⟩
  rw [decide_eq_false h1]
  by_cases h2:n > 1000
  ·rw [decide_eq_true h2]
   exact .inl ⟨2,by decide,rfl,rfl⟩
  rw [decide_eq_false h2]
  simp only [cond_false,Option.bind_some]
  by_cases hc:b.length ≤ 20000
  ·rw [decide_eq_false (show ¬ (b.length:Int) > 20000 by omega),hclone,if_pos kb]
   obtain ⟨l,rfl⟩:∃ l:Nat,n = (l:Int):=⟨n.toNat,by omega⟩
   exact .inr ⟨.dir l b,⟨⟨by omega,by omega⟩,hc⟩,rfl,rfl⟩
  ·rw [decide_eq_true (show (b.length:Int) > 20000 by omega)]
   exact .inl ⟨4,by decide,rfl,rfl⟩
 by_cases c4:how = str
 ·subst c4
  have e16:f16 str n b = f16_j3 str n b true:=rfl
  rw [e16]
  unfold f16_j3 f16_j2 f16_j1 f26
  rw [e46]
  simp only [show (str == ([100,105,114,101,99,116]:List UInt8)) = false from rfl,show (str == ([115,116,114,101,97,109]:List UInt8)) = true from rfl,d1,d2,Option.bind_some,cond_true,cond_false,Bool.not_true,Bool.not_false]
  by_cases hn:n = 0
  ·subst hn
   simp only [show ((0:Int) != 0) = false from rfl,cond_false,Option.bind_some]
   by_cases hc:b.length ≤ 20000
   ·rw [decide_eq_false (show ¬ (b.length:Int) > 20000 by omega),hclone,if_pos kb]
    exact .inr ⟨.str b 0,⟨hc,Nat.zero_le _⟩,rfl,rfl⟩
   ·rw [decide_eq_true (show (b.length:Int) > 20000 by omega)]
    exact .inl ⟨4,by decide,rfl,rfl⟩
  ·have:(n != 0) = true:=by simpa using hn
   rw [this]
   exact .inl ⟨2,by decide,rfl,rfl⟩
 ·have d3:(how == ([100,105,114,101,99,116]:List UInt8)) = false:=beq_eq_false_iff_ne.2 c3
  have d4:(how == ([115,116,114,101,97,109]:List UInt8)) = false:=beq_eq_false_iff_ne.2 c4
  left
  refine ⟨2,by decide,?_,?_⟩
  ·unfold f16
   rw [d1,d2,d4]
   unfold f16_j3
   rw [d3]
   rfl
  ·unfold f26
   rw [e46,d3,d4]
   rfl

theorem guard_acts (f:T32) (l:List T46) (hl:l.length ≤ maxLen):∃ v,f15 f l = some v ∧ (v = false → l.length ≤ 60 ∧ f.f2.length ≤ 21000 ∧ ∀ x ∈ l,x.f3.length ≤ 21000):=by
 have loop:=iter_list l hl (fun s=>f15_b1 l s) (fun r _=>(cond (r.any fun x=>decide ((x.f3.length:Int) > 21000)) (Out.ret true) (Out.go ()):Out Bool Unit)) (fun i x r hi hx hd=>by
  have hd1:decide ((i:Int) < (l.length:Int)) = true:=by simpa using hi
  have g1:(0:Int) ≤ i ∧ (i:Int) < (l.length:Int):=by omega
  simp only [f15_b1,hd1,cond_true,if_pos g1,Int.toNat_natCast,hx,List.any_cons]
  cases decide ((x.f3.length:Int) > 21000) with
  | true=>left; rfl
  | false=>right; exact ⟨rfl,rfl⟩) (by
  simp only [f15_b1,show decide ((l.length:Int) < (l.length:Int)) = false from by simp,cond_false,List.any_nil])
 unfold f15
 rw [loop]
 cases ha:l.any fun x=>decide ((x.f3.length:Int) > 21000) with
 | true=>exact ⟨true,rfl,nofun⟩
 | false =>
  simp only [cond_false,Option.bind_some]
  have hx:∀ x ∈ l,x.f3.length ≤ 21000:=fun x hx=>by
   have:=List.any_eq_false.1 ha x hx
   simp only [decide_eq_true_eq] at this
   omega
  by_cases h1:(l.length:Int) > 60
  ·rw [decide_eq_true h1]; exact ⟨true,rfl,nofun⟩
  ·rw [decide_eq_false h1]
   refine ⟨_,rfl,fun h=>⟨by omega,?_,hx⟩⟩
   have:¬ (f.f2.length:Int) > 21000:=by simpa using h
   omega

theorem by_wf {l:List Int} (h:∀ y ∈ l,(Lit.int .u8 y).wf = true):By l:=fun x hx=>by
 have:=h x hx
 simp only [Lit.wf,Bool.and_eq_true,decide_eq_true_eq] at this
 have h1:IntKind.min .u8 = 0:=rfl
 have h2:IntKind.max .u8 = 255:=rfl
 omega

abbrev S13:=Int × List UInt8 × Int × List Int × Int × Bool × List UInt8 × Int × List (List Int) × Bool × Int × Bool × List Int

def both (i:Int) (u:T64) (r:T78):S13:=(i,u.f0,u.f1,u.f2,u.f3,u.f4,r.f0,r.f1,r.f2,r.f3,r.f4,r.f5,r.f6)

end Go.Sx.unit

namespace Go.Sx.unit
open Go Go.Sx

theorem begs_at (fm:Bool) (l:List (List Int)) (p:Nat) (hp:p < l.length):(begs fm l 0).getD p default = ((W fm (l.take p)).length:Int):=by
 rw [← begs_last p hp]
 have e:l.take (p + 1) ++ l.drop (p + 1) = l:=List.take_append_drop (p + 1) l
 conv=>lhs; rw [← e,begs_append]
 have hb:(begs fm (l.take (p + 1)) 0).length = p + 1:=by rw [begs_len]; simp; omega
 rw [List.getD_eq_getElem?_getD,List.getD_eq_getElem?_getD,List.getElem?_append_left (by omega)]

theorem Fil.begs_get {s:Fil} {p:Nat} (hp:p < s.recs.length):(s.begs s.recs.length).getD p default = ((s.off p:Nat):Int):=by
 have hrl:=s.recs_len
 by_cases hi:p < s.ini.length
 ·have ho:s.off p = (W s.fm (s.ini.take p)).length:=by unfold Fil.off; rw [if_pos (by omega)]
  rw [ho,← begs_at s.fm s.ini p hi]
  have hb:=Go.Sx.unit.begs_len s.fm s.ini 0
  unfold Fil.begs
  split
  ·rw [List.take_of_length_le (by omega)]
  ·rw [List.getD_eq_getElem?_getD,List.getD_eq_getElem?_getD,List.getElem?_append_left (by omega)]
 ·have e:s.recs.length = p + 1:=by split at hrl <;> omega
  rw [e]
  exact Fil.begs_last hp

theorem off_eq {s s':Fil} (h:s.Ok) (h':s'.Ok) (hf:s.fm = s'.fm) (hb:s.bytes = s'.bytes) {p p':Nat} (hp:p ≤ s.recs.length) (hp':p' ≤ s'.recs.length):s.off p = s'.off p' ↔ p = p':=by
 have a1:=Fil.f35_off h (Nat.le_refl _)
 have a2:=Fil.f35_off h' (Nat.le_refl _)
 rw [s.off_end,List.take_length,hf,hb] at a1
 rw [s'.off_end,List.take_length,a1] at a2
 have a3:s.begs s.recs.length = s'.begs s'.recs.length:=congrArg Prod.fst (Option.some.inj a2)
 have hN:s.recs.length = s'.recs.length:=by
  have:=congrArg List.length a3
  rwa [Fil.begs_len (Nat.le_refl _),Fil.begs_len (Nat.le_refl _)] at this
 constructor
 ·intro e
  have b1:=Fil.f35_off h hp
  have b2:=Fil.f35_off h' hp'
  rw [hf,hb,e,b2] at b1
  have b3:s'.begs p' = s.begs p:=congrArg Prod.fst (Option.some.inj b1)
  have:=congrArg List.length b3
  rw [Fil.begs_len hp,Fil.begs_len hp'] at this
  exact this.symm
 ·rintro rfl
  by_cases hlt:p < s.recs.length
  ·have c1:=Fil.begs_get hlt
   have c2:=Fil.begs_get (s:=s') (p:=p) (by omega)
   rw [a3,c2] at c1
   omega
  ·have e1:p = s.recs.length:=by omega
   have c1:=s.off_end
   have c2:=s'.off_end
   rw [← e1] at c1
   rw [← hN,← e1] at c2
   rw [c1,c2,hb]

abbrev bstr (l:List Int):List UInt8:=l.map (fun n=>UInt8.ofNat n.toNat)

theorem bstr_inj {a b:List Int} (ha:By a) (hb:By b) (h:bstr a = bstr b):a = b:=by
 have:∀ l:List Int,By l → (bstr l).map (fun u=>(u.toNat:Int)) = l:=fun l hl=>by
  rw [List.map_map]
  conv=>rhs; rw [← List.map_id l]
  refine List.map_congr_left fun x hx=>?_
  obtain ⟨h1,h2⟩:=hl x hx
  show (((UInt8.ofNat x.toNat).toNat:Nat):Int) = x
  rw [UInt8.toNat_ofNat']
  omega
 rw [← this a ha,← this b hb,h]

theorem f32_eq {u v:T64} (hu:f41 u = some false) (hv:f41 v = some false):f32 u v = some ((u.f0 == v.f0) && ((u.f1 == v.f1) && ((bstr u.f2 == bstr v.f2) && ((u.f3 == v.f3) && (u.f4 == v.f4))))):=by
 unfold f32 f59
 rw [hu,hv]
 simp only [Option.bind_some,cond_false]
 cases u.f0 == v.f0 <;> cases u.f1 == v.f1 <;> cases (bstr u.f2 == bstr v.f2) <;> cases u.f3 == v.f3 <;> rfl

theorem f33_eq {r q:T78} {x y:List Int} (hx:f50 r = some x) (hy:f50 q = some y):f33 r q = some ((r.f0 == q.f0) && ((r.f1 == q.f1) && ((r.f4 == q.f4) && ((r.f5 == q.f5) && (bstr x == bstr y))))):=by
 unfold f33
 rw [hx,hy]
 simp only [Option.bind_some]
 cases r.f0 == q.f0 <;> cases r.f1 == q.f1 <;> cases r.f4 == q.f4 <;> cases r.f5 == q.f5 <;> rfl

theorem mo_f41 (m:Mo):f41 m.u = some false:=by
 cases m with
 | seq s p b=>exact f41_form _ _ _ _ _
 | dir l d=>rfl
 | str d p=>rfl

theorem mo_bytes (m:Mo) (h:m.Ok):f50 m.r = some m.u.f2 ∧ m.u.f2.length ≤ 20000:=by
 cases m with
 | seq s p b=>exact ⟨(play_bytes h.1 p b).2,h.1.len⟩
 | dir l d =>
  refine ⟨?_,h.2⟩
  have:=h.2
  unfold f50
  show (if (([]:List Int).length + d.length) * 1 ≤ 140737488355328 then some (([]:List Int) ++ d) else none) = _
  rw [if_pos (by simp only [List.length_nil]; omega)]; rfl
 | str d p =>
  refine ⟨?_,h.1⟩
  have:=h.1
  unfold f50
  show (if (([]:List Int).length + d.length) * 1 ≤ 140737488355328 then some (([]:List Int) ++ d) else none) = _
  rw [if_pos (by simp only [List.length_nil]; omega)]; rfl

theorem formOf_inj {a b:Bool} (h:formOf a = formOf b):a = b:=by
 cases a <;> cases b <;> first | rfl | (exact absurd h (by decide))

theorem same_both (m m':Mo) (h:m.Ok) (h':m'.Ok):∃ v,f32 m.u m'.u = some v ∧ f33 m.r m'.r = some v:=by
 refine ⟨_,f32_eq (mo_f41 m) (mo_f41 m'),?_⟩
 rw [f33_eq (mo_bytes m h).1 (mo_bytes m' h').1]
 congr 1
 cases m with
 | seq s p b =>
  cases m' with
  | seq s' p' b' =>
   obtain ⟨h1,h2,h3⟩:=h
   obtain ⟨h1',h2',h3'⟩:=h'
   rw [Bool.eq_iff_iff]
   simp only [Bool.and_eq_true,beq_iff_eq,Mo.u,Mo.r]
   constructor
   ·rintro ⟨e0,e1,e2,e3,e4⟩
    have hb:=bstr_inj h1.by h1'.by e4
    exact ⟨e0,e1,e4,congrArg _ ((off_eq h1 h1' (formOf_inj e0) hb h2 h2').2 (by omega)),e3⟩
   ·rintro ⟨e0,e1,e2,e3,e4⟩
    have hb:=bstr_inj h1.by h1'.by e2
    exact ⟨e0,e1,congrArg _ ((off_eq h1 h1' (formOf_inj e0) hb h2 h2').1 (by omega)),e4,e2⟩
  | dir l d =>
   have e:(formOf s.fm == dir) = false:=form_dir s.fm
   simp only [Mo.u,Mo.r,e,Bool.false_and]
  | str d p' =>
   have e:(formOf s.fm == str) = false:=form_str s.fm
   simp only [Mo.u,Mo.r,e,Bool.false_and]
 | dir l d =>
  cases m' with
  | seq s p b =>
   have e:(dir == formOf s.fm) = false:=by cases s.fm <;> rfl
   simp only [Mo.u,Mo.r,e,Bool.false_and]
  | dir l' d' =>
   simp only [Mo.u,Mo.r]
   cases (l:Int) == (l':Int) <;> cases (bstr d == bstr d') <;> rfl
  | str d' p'=>rfl
 | str d p =>
  cases m' with
  | seq s p b =>
   have e:(str == formOf s.fm) = false:=by cases s.fm <;> rfl
   simp only [Mo.u,Mo.r,e,Bool.false_and]
  | dir l' d'=>rfl
  | str d' p' =>
   rw [Bool.eq_iff_iff]
   simp only [Bool.and_eq_true,beq_iff_eq,Mo.u,Mo.r,true_and,and_true]
   constructor
   ·rintro ⟨e1,e2⟩; exact ⟨e2,by omega⟩
   ·rintro ⟨e1,e2⟩; exact ⟨by omega,e1⟩

theorem same_self (m:Mo):f32 m.u m.u = some true:=by
 rw [f32_eq (mo_f41 m) (mo_f41 m)]
 simp

theorem copy_u (m:Mo) (h:m.Ok):f30o m.u = some (some m.u):=by
 unfold f30o
 rw [mo_f41]
 simp only [Option.bind_some,cond_false]
 rw [clone_eq _ (by have:=(mo_bytes m h).2; omega)]
 rfl

theorem copy_r (m:Mo) (h:m.Ok):f31o m.r = some (some m.r):=by
 unfold f31o
 cases m with
 | seq s p b =>
  have:=recs_le h.1
  rw [if_pos (by simp only [Mo.r,List.length_nil]; omega),if_pos (by simp [Mo.r])]
  rfl
 | dir l d =>
  have:=h.2
  rw [if_pos (by simp [Mo.r]),if_pos (by simp only [Mo.r,List.length_nil]; omega)]
  rfl
 | str d p =>
  have:=h.1
  rw [if_pos (by simp [Mo.r]),if_pos (by simp only [Mo.r,List.length_nil]; omega)]
  rfl

end Go.Sx.unit
