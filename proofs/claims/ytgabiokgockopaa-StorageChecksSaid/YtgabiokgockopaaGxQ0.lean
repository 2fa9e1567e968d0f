/- Plain laws of the printed functions of storage: the check of sanity, names, the first that is so; no condition. -/
import Derived.Test.YtgabiokgockopaaGxG
import Derived.Test.YtgabiokgockopaaGxM
import Derived.Test.YtgabiokgockopaaSxD
namespace Go.Sx.sto
open Go Go.Sx

theorem awake : f10 = some true := f10_le 60 true (by kernel_rfl)

def isLetterI (c : Int) : Bool := (decide (c ≥ 97) && decide (c ≤ 122)) || (decide (c ≥ 65) && decide (c ≤ 90))
def isDigitI (c : Int) : Bool := decide (c ≥ 48) && decide (c ≤ 57)
def isPartI (c : Int) : Bool := (isLetterI c || isDigitI c) || c == 95
def isUpperI (c : Int) : Bool := decide (c ≥ 65) && decide (c ≤ 90)

theorem f58_eq (c : Int) : f58 c = some (isLetterI c) := by simp only [f58, cond_and, Option.bind_some, cond_or, isLetterI]
theorem f63_eq (c : Int) : f63 c = some (isDigitI c) := by simp only [f63, cond_and, Option.bind_some, isDigitI]
theorem f60_eq (c : Int) : f60 c = some (isPartI c) := by simp only [f60, f58_eq, f63_eq, cond_or, Option.bind_some, isPartI]
def byteI (b : UInt8) : Int := ((b.toNat : Nat) : Int)

/-- How many parts of a name stand in front. -/
def runLen : List UInt8 → Nat
 | [] => 0
 | b :: r => if isPartI (byteI b) then runLen r + 1 else 0

theorem f59_eq (s : List UInt8) (h : s.length ≤ maxLen) : f59_60 s = some ((runLen s : Nat) : Int) := by
 have := iter_list s h (fun i => f59_60_b1 s i) (fun r i => (Out.go ((i + runLen r : Nat) : Int) : Out Int Int)) ?_ ?_
 ·unfold f59_60
  rw [this]
  simp
 ·intro i x r hi hx _
  have h1 : (0 : Int) ≤ i ∧ (i : Int) < (s.length : Int) := ⟨by omega, by omega⟩
  have hx' : s.getD i 0 = x := hx
  simp only [f59_60_b1, Int.toNat_natCast, hx', h1, and_self, if_true, decide_true, cond_true, f60_eq, Option.bind_some]
  cases hb : isPartI ((x.toNat : Nat) : Int) with
  | true => right; simp [runLen, byteI, hb]; omega
  | false => left; simp [runLen, byteI, hb]
 ·simp [f59_60_b1, runLen]

def low (n : Int) : Int := if isUpperI n then n + 32 else n

theorem wrap_u8 {n : Int} (h0 : 0 ≤ n) (h1 : n ≤ 255) : IntKind.wrap .u8 n = n := by
 simp only [IntKind.wrap, IntKind.min, IntKind.max, IntKind.signed, IntKind.bits]
 simp
 omega

theorem f61_eq (s : List UInt8) (h : s.length ≤ maxLen) : f61 s = some (s.map fun b => UInt8.ofNat (low (byteI b)).toNat) := by
 have hm := maxLen_le
 have key := iter_ind (fun q => f61_b2 s q.1 q.2) (fun q => ∃ i, i ≤ s.length ∧ q.2 = ((i : Nat) : Int) ∧ q.1 = ((s.map byteI).take i).map low ++ (s.map byteI).drop i) (fun q => s.length - q.2.toNat) (fun _ x => x = Out.go ((s.map byteI).map low)) ?_ (s.map byteI, 0) ⟨0, Nat.zero_le _, rfl, by simp⟩
 ·obtain ⟨x, hx, rfl⟩ := key
  unfold f61
  rw [if_pos (by omega)]
  have hx' : iter (fun q => f61_b2 s q.1 q.2) (s.map (fun b => ((b.toNat : Nat) : Int)), (0 : Int)) = some (Out.go ((s.map byteI).map low)) := hx
  rw [hx']
  simp [List.map_map, Function.comp_def]
 ·rintro ⟨b, k⟩ ⟨i, hi, hk, hb⟩
  simp only at hk hb
  subst hk hb
  have hlen : (((s.map byteI).take i).map low ++ (s.map byteI).drop i).length = s.length := by simp; omega
  by_cases hlt : i < s.length
  ·left
   have h1 : (0 : Int) ≤ i ∧ (i : Int) < ((((s.map byteI).take i).map low ++ (s.map byteI).drop i).length : Int) := ⟨by omega, by rw [hlen]; omega⟩
   have h2 : ((i : Int) < ((s.map (fun b => ((b.toNat : Nat) : Int))).length : Int)) := by simp; omega
   have hget : (((s.map byteI).take i).map low ++ (s.map byteI).drop i).getD i default = byteI s[i] := by
    simp only [List.getD_eq_getElem?_getD]
    rw [List.getElem?_append_right (by simp; omega)]
    simp [Nat.min_eq_left hi, hlt]
   have hset : (((s.map byteI).take i).map low ++ (s.map byteI).drop i).set i (low (byteI s[i])) = ((s.map byteI).take (i + 1)).map low ++ (s.map byteI).drop (i + 1) := by
    have e1 : (s.map byteI).drop i = byteI s[i] :: (s.map byteI).drop (i + 1) := by
     rw [List.drop_eq_getElem_cons (by simpa using hlt)]; simp
    have e2 : (s.map byteI).take (i + 1) = (s.map byteI).take i ++ [byteI s[i]] := by
     rw [List.take_succ_eq_append_getElem (by simpa using hlt)]; simp
    rw [e1, e2, List.set_append_right _ _ (by simp; omega)]
    simp [Nat.min_eq_left hi]
   have hlow : isUpperI (byteI s[i]) = false → (((s.map byteI).take i).map low ++ (s.map byteI).drop i) = ((s.map byteI).take (i + 1)).map low ++ (s.map byteI).drop (i + 1) := by
    intro hu
    rw [← hset]
    have : low (byteI s[i]) = byteI s[i] := by simp [low, hu]
    rw [this]
    apply List.ext_getElem?
    intro j
    by_cases hj : j = i
    ·subst hj
     rw [List.getElem?_set_self (by omega)]
     have := hget
     rw [List.getD_eq_getElem?_getD] at this
     have hs : (((s.map byteI).take j).map low ++ (s.map byteI).drop j)[j]? = some ((((s.map byteI).take j).map low ++ (s.map byteI).drop j)[j]'(by omega)) := List.getElem?_eq_getElem (by omega)
     rw [hs] at this ⊢
     simp only [Option.getD_some] at this
     rw [this]
    ·rw [List.getElem?_set_ne (by omega)]
   have hw : w64 ((i : Int) + 1) = ((i + 1 : Nat) : Int) := w64_succ hlt h
   have h0 : 0 ≤ byteI s[i] ∧ byteI s[i] ≤ 255 := by
    have := s[i].toNat_lt
    simp only [byteI]; omega
   cases hu : isUpperI (byteI s[i]) with
   | true =>
    have hu' : byteI s[i] ≥ 65 ∧ byteI s[i] ≤ 90 := by simpa [isUpperI] using hu
    have hv : IntKind.wrap .u8 (IntKind.wrap .u8 (byteI s[i] - 65) + 97) = low (byteI s[i]) := by
     rw [wrap_u8 (n := byteI s[i] - 65) (by omega) (by omega), wrap_u8 (by omega) (by omega)]
     simp only [low, hu, if_true]; omega
    refine ⟨(((s.map byteI).take (i + 1)).map low ++ (s.map byteI).drop (i + 1), ((i + 1 : Nat) : Int)), ?_, ⟨i + 1, hlt, rfl, rfl⟩, by simp; omega, fun x hx => hx⟩
    simp only [f61_b2, f61_j1, Int.toNat_natCast, hget, h1, h2, and_self, if_true, decide_true, cond_true, hu'.1, hu'.2, Option.bind_some, hv, hset, hw]
   | false =>
    refine ⟨(((s.map byteI).take (i + 1)).map low ++ (s.map byteI).drop (i + 1), ((i + 1 : Nat) : Int)), ?_, ⟨i + 1, hlt, rfl, rfl⟩, by simp; omega, fun x hx => hx⟩
    have hu' : (decide (byteI s[i] ≥ 65) && decide (byteI s[i] ≤ 90)) = false := hu
    simp only [f61_b2, f61_j1, Int.toNat_natCast, hget, h1, h2, and_self, if_true, decide_true, cond_true, cond_and, hu', cond_false, Option.bind_some, hw, ← hlow hu]
  ·right
   obtain rfl : i = s.length := by omega
   refine ⟨_, ?_, rfl⟩
   simp only [f61_b2]
   rw [show decide (((s.length : Nat) : Int) < ((s.map (fun b => ((b.toNat : Nat) : Int))).length : Int)) = false from by simp]
   have e1 : (s.map byteI).take s.length = s.map byteI := List.take_of_length_le (by simp)
   have e2 : (s.map byteI).drop s.length = [] := List.drop_of_length_le (by simp)
   simp only [cond_false, e1, e2, List.append_nil]

/-! ### Names -/

def innerB (b : UInt8) : Bool := isPartI (byteI b) && !isUpperI (byteI b)

def nameOk (s : List UInt8) : Bool := (!(s == ([] : List UInt8)) && decide ((s.length : Int) ≤ 12)) && (s.all innerB && (isLetterI (byteI (s.getD 0 0))))

theorem runLen_le : ∀ (s : List UInt8), runLen s ≤ s.length
 | [] => Nat.le_refl _
 | b :: r => by
  have := runLen_le r
  simp only [runLen, List.length_cons]
  split <;> omega

theorem runLen_all : ∀ (s : List UInt8), (((runLen s : Nat) : Int) == (s.length : Int)) = s.all (fun b => isPartI (byteI b))
 | [] => rfl
 | b :: r => by
  have h := runLen_all r
  have hle := runLen_le r
  simp only [runLen, List.all_cons, List.length_cons]
  cases hb : isPartI (byteI b) with
  | true =>
   simp only [if_true, Bool.true_and, ← h]
   by_cases he : runLen r = r.length
   ·simp [he]
   ·have : ((runLen r : Nat) : Int) ≠ (r.length : Int) := by omega
    have h2 : (((runLen r + 1 : Nat)) : Int) ≠ ((r.length + 1 : Nat) : Int) := by omega
    rw [beq_eq_false_iff_ne.2 this, beq_eq_false_iff_ne.2 h2]
  | false =>
   simp only [Bool.false_eq_true, if_false, Bool.false_and]
   exact beq_eq_false_iff_ne.2 (by omega)

theorem low_one (b : UInt8) : (b == UInt8.ofNat (low (byteI b)).toNat) = !isUpperI (byteI b) := by
 have hb := b.toNat_lt
 cases hu : isUpperI (byteI b) with
 | true =>
  have hu' : byteI b ≥ 65 ∧ byteI b ≤ 90 := by simpa [isUpperI] using hu
  simp only [low, hu, if_true, Bool.not_true]
  refine beq_eq_false_iff_ne.2 fun e => ?_
  have := congrArg UInt8.toNat e
  simp only [byteI] at hu' this
  rw [UInt8.toNat_ofNat'] at this
  omega
 | false =>
  have hl : low (byteI b) = byteI b := by simp [low, hu]
  rw [hl]
  simp [byteI]

theorem low_all : ∀ (s : List UInt8), (s == s.map fun b => UInt8.ofNat (low (byteI b)).toNat) = s.all (fun b => !isUpperI (byteI b))
 | [] => rfl
 | b :: r => by
  rw [List.map_cons, List.all_cons, ← low_one b, ← low_all r]
  rfl

theorem all_inner (s : List UInt8) : s.all innerB = (s.all (fun b => isPartI (byteI b)) && s.all (fun b => !isUpperI (byteI b))) := by
 induction s with
 | nil => rfl
 | cons b r ih =>
  simp only [List.all_cons, ih, innerB]
  cases isPartI (byteI b) <;> cases isUpperI (byteI b) <;> simp

theorem f53_eq (s : List UInt8) (h : s.length ≤ maxLen) : f53 s = some (nameOk s) := by
 unfold f53 nameOk
 rw [cond_and, all_inner]
 simp only [Option.bind_some, f58_eq, f59_eq s h, f61_eq s h, runLen_all, low_all]
 cases hs : (!(s == ([] : List UInt8)) && decide ((s.length : Int) ≤ 12)) with
 | false => simp
 | true =>
  have hpos : (0 : Int) < (s.length : Int) := by
   cases s with
   | nil => simp at hs
   | cons b r => simp
  simp only [cond_true, if_pos hpos, cond_and, Option.bind_some, Bool.true_and, byteI]
  cases isLetterI ((((s.getD 0 0).toNat : Nat)) : Int) <;> simp

/-- The first that p takes, from i on. -/
def findFrom {A : Type} (p : A → Bool) : List A → Nat → Option Nat
 | [], _ => none
 | x :: r, i => if p x then some i else findFrom p r (i + 1)

def outOf : Option Nat → Out Int Unit
 | some i => .ret ((i : Nat) : Int)
 | none => .go ()

def idx : Option Nat → Int
 | some i => ((i : Nat) : Int)
 | none => -1

theorem index_eq {A : Type} [Inhabited A] (l : List A) (h : l.length ≤ maxLen) (f : A → Option Bool) (p : A → Bool) (hp : ∀ x, f x = some (p x)) (b : Int → Option (Int ⊕ Out Int Unit))
  (hb : ∀ i, b i = cond (decide (i < (l.length : Int))) (if (0 : Int) ≤ i ∧ i < (l.length : Int) then (f (l.getD i.toNat default)).bind fun v3 => cond v3 (some (.inr (.ret i))) (some (.inl (w64 (i + (1 : Int))))) else none) (some (.inr (.go ())))) :
  iter b 0 = some (outOf (findFrom p l 0)) := by
 refine iter_list l h b (fun r i => outOf (findFrom p r i)) ?_ ?_
 ·intro i x r hi hx _
  have h1 : (0 : Int) ≤ i ∧ (i : Int) < (l.length : Int) := ⟨by omega, by omega⟩
  simp only [hb, Int.toNat_natCast, hx, h1, and_self, if_true, decide_true, cond_true, hp, Option.bind_some]
  cases hpx : p x with
  | true => left; simp [findFrom, hpx, outOf]
  | false => right; simp [findFrom, hpx]
 ·simp [hb, findFrom, outOf]

theorem findFrom_any {A : Type} (p : A → Bool) : ∀ (l : List A) (i : Nat), decide (idx (findFrom p l i) ≥ 0) = l.any p
 | [], i => by simp [findFrom, idx]
 | x :: r, i => by
  simp only [findFrom, List.any_cons]
  by_cases hp : p x = true
  ·simp [idx, hp]
  ·simp only [hp, if_false, Bool.false_or, Bool.false_eq_true]
   exact findFrom_any p r (i + 1)


/-! ### The document's names -/

theorem f64_eq (c : Int) : f64 c = some (isLetterI c) := by simp only [f64, cond_and, Option.bind_some, cond_or, isLetterI]

theorem f65_eq (c : Int) : f65 c = some (isDigitI c) := by simp only [f65, cond_and, Option.bind_some, isDigitI]

theorem f62_eq (c : Int) : f62 c = some (isPartI c) := by simp only [f62, f64_eq, f65_eq, cond_or, Option.bind_some, isPartI]

theorem f55_eq (s : List UInt8) (h : s.length ≤ maxLen) : f55 s = some (nameOk s) := by
 have hl := iter_list s h (fun i => f55_b1 s i) (fun r _ => if r.all innerB then (Out.go () : Out Bool Unit) else Out.ret false) ?_ ?_
 ·unfold f55 nameOk
  rw [hl, cond_or]
  simp only [Option.bind_some]
  cases s with
  | nil => simp
  | cons b r =>
   have hpos : (0 : Int) < ((b :: r).length : Int) := by simp
   simp only [if_pos hpos, cond_or, Option.bind_some, List.getD_cons_zero]
   have e : ((b :: r) == ([] : List UInt8)) = false := rfl
   rw [e]
   cases hin : (b :: r).all innerB with
   | false =>
    have key : ∀ q : Bool, (cond q (some false) (some false) : Option Bool) = some false := fun q => by cases q <;> rfl
    simp only [Bool.false_and, Bool.and_false, Bool.false_eq_true, if_false, Option.bind_some, key]
   | true =>
    have hb : innerB b = true := by simp only [List.all_cons, Bool.and_eq_true] at hin; exact hin.1
    have hlet : isLetterI (byteI b) = (!decide (((b.toNat : Nat) : Int) < 97) && !decide (((b.toNat : Nat) : Int) > 122)) := by
     simp only [innerB, isUpperI, Bool.and_eq_true, Bool.not_eq_true', Bool.and_eq_false_iff, decide_eq_false_iff_not] at hb
     have h2 := hb.2
     rw [Bool.eq_iff_iff]
     simp only [isLetterI, Bool.or_eq_true, Bool.and_eq_true, decide_eq_true_eq, Bool.not_eq_true', decide_eq_false_iff_not]
     simp only [byteI] at h2 ⊢
     omega
    rw [hlet]
    have hd : decide (((b :: r).length : Int) ≤ 12) = !decide (((b :: r).length : Int) > 12) := by
     rw [Bool.eq_iff_iff]; simp only [decide_eq_true_eq, Bool.not_eq_true', decide_eq_false_iff_not]; omega
    rw [hd]
    simp only [if_true, Bool.true_and, byteI, Bool.false_or, Bool.not_false]
    cases decide (((b :: r).length : Int) > 12) <;> cases decide (((b.toNat : Nat) : Int) < 97) <;> cases decide (((b.toNat : Nat) : Int) > 122) <;> rfl
 ·intro i x r hi hx _
  have h1 : (0 : Int) ≤ i ∧ (i : Int) < (s.length : Int) := ⟨by omega, by omega⟩
  have hx' : s.getD i 0 = x := hx
  simp only [f55_b1, Int.toNat_natCast, hx', h1, and_self, if_true, decide_true, cond_true, f62_eq, Option.bind_some, cond_and, cond_or]
  have : (!isPartI ((x.toNat : Nat) : Int) || (decide (((x.toNat : Nat) : Int) ≥ 65) && decide (((x.toNat : Nat) : Int) ≤ 90))) = !innerB x := by
   simp only [innerB, byteI, isUpperI]
   cases isPartI ((x.toNat : Nat) : Int) <;> simp <;> rfl
  rw [this]
  cases hb : innerB x with
  | true => right; simp [hb]
  | false => left; simp [hb]
 ·simp [f55_b1]


theorem getD_lt {A : Type} [Inhabited A] {l : List A} {i : Nat} (h : i < l.length) : l.getD i default = l[i] := by
 rw [List.getD_eq_getElem?_getD, List.getElem?_eq_getElem h, Option.getD_some]

theorem getD_mem {A : Type} [Inhabited A] {l : List A} {i : Nat} (h : i < l.length) : l.getD i default ∈ l := by
 rw [getD_lt h]; exact List.getElem_mem h

theorem getD_take {A : Type} [Inhabited A] {l : List A} {i n : Nat} (h : i < n) : (l.take n).getD i default = l.getD i default := by
 simp only [List.getD_eq_getElem?_getD, List.getElem?_take, if_pos h]

end Go.Sx.sto

namespace Go.Sx.sto
open Go Go.Sx

def fd (l : List T36) (s : List UInt8) : Option Nat := findFrom (fun t => t.f0 == s) l 0

theorem f34_eq (l : List T36) (h : l.length ≤ maxLen) (s : List UInt8) : f34 l s = some (idx (fd l s)) := by
 unfold f34 f45_46
 rw [index_eq l h (fun t => f46 t s) (fun t => t.f0 == s) (fun _ => rfl) (fun i => f45_46_b1 l s i) (fun i => rfl)]
 unfold fd
 cases findFrom (fun t => t.f0 == s) l 0 <;> rfl

theorem f33_eq (l : List T36) (h : l.length ≤ maxLen) (s : List UInt8) : f33 l s = some (idx (fd l s)) := by
 unfold f33
 rw [index_eq l h (fun t => some (t.f0 == s)) (fun t => t.f0 == s) (fun _ => rfl) (fun i => f33_b1 l s i) (fun i => rfl)]
 unfold fd
 cases findFrom (fun t => t.f0 == s) l 0 <;> rfl

theorem findFrom_append {A : Type} (p : A → Bool) : ∀ (a b : List A) (i : Nat), findFrom p (a ++ b) i = match findFrom p a i with | some j => some j | none => findFrom p b (i + a.length)
 | [], b, i => by simp [findFrom]
 | x :: a, b, i => by
  simp only [List.cons_append, findFrom]
  split
  ·rfl
  ·rw [findFrom_append p a b (i + 1)]
   simp only [List.length_cons, show i + 1 + a.length = i + (a.length + 1) by omega]

theorem findFrom_lt {A : Type} {p : A → Bool} : ∀ {l : List A} {i j : Nat}, findFrom p l i = some j → i ≤ j ∧ j < i + l.length
 | [], _, _, h => by cases h
 | x :: r, i, j, h => by
  simp only [findFrom] at h
  split at h
  ·cases h; simp
  ·have := findFrom_lt h
   simp only [List.length_cons]; omega

theorem fd_lt {l : List T36} {s : List UInt8} {j : Nat} (h : fd l s = some j) : j < l.length := by
 have := findFrom_lt h; omega

theorem findFrom_at {A : Type} [Inhabited A] {p : A → Bool} : ∀ {l : List A} {i j : Nat}, findFrom p l i = some j → p (l.getD (j - i) default) = true
 | [], _, _, h => by cases h
 | x :: r, i, j, h => by
  simp only [findFrom] at h
  split at h
  ·rename_i hp; cases h; simpa using hp
  ·have h1 := findFrom_lt h
   have h2 := findFrom_at h
   rw [show j - i = (j - (i + 1)) + 1 by omega]
   simpa using h2

theorem fd_name {l : List T36} {s : List UInt8} {j : Nat} (h : fd l s = some j) : (l.getD j default).f0 = s := by
 have := findFrom_at h
 simpa using this

/-- The first of a name is the one at i, just if none is ahead of it. -/
theorem fd_at {l : List T36} {i : Nat} {x : T36} {r : List T36} (hd : l.drop i = x :: r) (hi : i < l.length) : (fd l x.f0 = some i) ↔ fd (l.take i) x.f0 = none := by
 have e : fd l x.f0 = match fd (l.take i) x.f0 with | some j => some j | none => some i := by
  have h1 : l = l.take i ++ x :: r := by rw [← hd, List.take_append_drop]
  unfold fd
  conv => lhs; rw [h1]
  rw [findFrom_append]
  cases findFrom (fun t => t.f0 == x.f0) (l.take i) 0 with
  | some j => rfl
  | none => simp [findFrom, Nat.min_eq_left (Nat.le_of_lt hi)]
 constructor
 ·intro h
  cases hn : fd (l.take i) x.f0 with
  | none => rfl
  | some j =>
   rw [h, hn] at e
   have := fd_lt hn
   simp only [Option.some.injEq] at e
   simp at this; omega
 ·intro h
  rw [e, h]

def okV (x : T36) : Bool := (nameOk x.f0 && ((x.f1 == 1 || x.f1 == 2) || x.f1 == 4)) && (!decide (x.f2 < 1) && !decide (x.f2 > 1000))

def goodAt (l : List T36) : List T36 → Nat → Bool
 | [], _ => true
 | x :: r, i => (okV x && (fd (l.take i) x.f0).isNone) && goodAt l r (i + 1)

def are (l : List T36) : Bool := goodAt l l 0 && decide ((l.length : Int) ≤ 60)

theorem idx_ge (o : Option Nat) : decide (idx o ≥ 0) = o.isSome := by
 cases o <;> simp [idx]

/-- Variables that have been read. -/
structure Vs (l : List T36) : Prop where
 len : l.length ≤ maxLen
 each : ∀ y ∈ l, y.f0.length ≤ maxLen

theorem Vs.of {l : List T36} (h : l.length ≤ maxLen ∧ ∀ y ∈ l, G36 y) : Vs l := ⟨h.1, fun y hy => (h.2 y hy).1⟩

theorem f42_eq (l : List T36) (h : Vs l) : f42 l = some (are l) := by
 have := iter_list l h.len (fun i => f42_b1 l i) (fun r i => cond (goodAt l r i) (Out.go () : Out Bool Unit) (Out.ret false)) ?_ ?_
 ·unfold f42 are
  rw [this]
  cases goodAt l l 0 <;> simp
 ·intro i x r hi hx hd
  have h1 : (0 : Int) ≤ i ∧ (i : Int) < (l.length : Int) := ⟨by omega, by omega⟩
  have h2 : (0 : Int) ≤ i ∧ (i : Int) ≤ (l.length : Int) := ⟨by omega, by omega⟩
  have hm := getD_mem hi
  rw [hx] at hm
  have hlen : (l.take i).length ≤ maxLen := by have := h.len; simp only [List.length_take]; omega
  simp only [f42_b1, Int.toNat_natCast, hx, h1, h2, and_self, if_true, decide_true, cond_true, cond_or, Option.bind_some, f53_eq _ (h.each x hm), List.drop_zero, f34_eq _ hlen, idx_ge, goodAt]
  have e : (nameOk x.f0).not.or ((((x.f1 == 1).or (x.f1 == 2)).or (x.f1 == 4)).not.or ((decide (x.f2 < 1)).or ((decide (x.f2 > 1000)).or (fd (l.take i) x.f0).isSome))) = !(okV x && (fd (l.take i) x.f0).isNone) := by
   unfold okV
   cases fd (l.take i) x.f0 <;> cases nameOk x.f0 <;> cases x.f1 == 1 <;> cases x.f1 == 2 <;> cases x.f1 == 4 <;> cases decide (x.f2 < 1) <;> cases decide (x.f2 > 1000) <;> rfl
  change (cond ((!nameOk x.f0) || (!((x.f1 == 1 || x.f1 == 2) || x.f1 == 4) || (decide (x.f2 < 1) || (decide (x.f2 > 1000) || (fd (l.take i) x.f0).isSome)))) _ _ = _) ∨ (cond ((!nameOk x.f0) || (!((x.f1 == 1 || x.f1 == 2) || x.f1 == 4) || (decide (x.f2 < 1) || (decide (x.f2 > 1000) || (fd (l.take i) x.f0).isSome)))) _ _ = _) ∧ _
  rw [show ((!nameOk x.f0) || (!((x.f1 == 1 || x.f1 == 2) || x.f1 == 4) || (decide (x.f2 < 1) || (decide (x.f2 > 1000) || (fd (l.take i) x.f0).isSome)))) = _ from e]
  cases hb : (okV x && (fd (l.take i) x.f0).isNone) with
  | true => right; simp
  | false => left; simp
 ·simp [f42_b1, goodAt]

theorem f44_eq (l : List T36) (h : Vs l) : f44 l = some (are l) := by
 have := iter_list l h.len (fun i => f44_b1 l i) (fun r i => cond (goodAt l r i) (Out.go () : Out Bool Unit) (Out.ret false)) ?_ ?_
 ·unfold f44 are
  rw [this]
  cases goodAt l l 0 <;> simp
 ·intro i x r hi hx hd
  have h1 : (0 : Int) ≤ i ∧ (i : Int) < (l.length : Int) := ⟨by omega, by omega⟩
  have hm := getD_mem hi
  rw [hx] at hm
  simp only [f44_b1, Int.toNat_natCast, hx, h1, and_self, if_true, decide_true, cond_true, cond_or, cond_and, Option.bind_some, f55_eq _ (h.each x hm), f33_eq l h.len, goodAt]
  have hf : (idx (fd l x.f0) != (i : Int)) = !(fd (l.take i) x.f0).isNone := by
   have := fd_at hd hi
   cases hn : fd (l.take i) x.f0 with
   | none => rw [this.2 hn]; simp [idx]
   | some j =>
    have h3 : fd l x.f0 ≠ some i := fun e => by rw [this.1 e] at hn; cases hn
    cases hq : fd l x.f0 with
    | none => simp [idx]
    | some q =>
     rw [hq] at h3
     have : q ≠ i := fun e => h3 (by rw [e])
     simp [idx]; omega
  rw [hf]
  have e : ((((!nameOk x.f0) || !(fd (l.take i) x.f0).isNone) || ((x.f1 != 1 && x.f1 != 2) && x.f1 != 4)) || decide (x.f2 < 1) || decide (x.f2 > 1000)) = !(okV x && (fd (l.take i) x.f0).isNone) := by
   unfold okV
   have b1 : (x.f1 != 1) = !(x.f1 == 1) := rfl
   have b2 : (x.f1 != 2) = !(x.f1 == 2) := rfl
   have b4 : (x.f1 != 4) = !(x.f1 == 4) := rfl
   rw [b1, b2, b4]
   cases fd (l.take i) x.f0 <;> cases nameOk x.f0 <;> cases x.f1 == 1 <;> cases x.f1 == 2 <;> cases x.f1 == 4 <;> cases decide (x.f2 < 1) <;> cases decide (x.f2 > 1000) <;> rfl
  rw [e]
  cases hb : (okV x && (fd (l.take i) x.f0).isNone) with
  | true => right; simp
  | false => left; simp
 ·simp [f44_b1, goodAt]

/-! ### Layouts that fit -/

theorem goodAt_ok {l : List T36} : ∀ {r : List T36} {i : Nat}, goodAt l r i = true → ∀ x ∈ r, okV x = true
 | [], _, _, x, hx => by cases hx
 | y :: r, i, h, x, hx => by
  simp only [goodAt, Bool.and_eq_true] at h
  rcases List.mem_cons.1 hx with rfl | hx
  ·exact h.1.1
  ·exact goodAt_ok h.2 x hx

theorem are_ok {l : List T36} (h : are l = true) : l.length ≤ 60 ∧ ∀ x ∈ l, (x.f1 = 1 ∨ x.f1 = 2 ∨ x.f1 = 4) ∧ 1 ≤ x.f2 ∧ x.f2 ≤ 1000 := by
 simp only [are, Bool.and_eq_true, decide_eq_true_eq] at h
 refine ⟨by omega, fun x hx => ?_⟩
 have := goodAt_ok h.1 x hx
 simp only [okV, Bool.and_eq_true, Bool.or_eq_true, beq_iff_eq, Bool.not_eq_true', decide_eq_false_iff_not] at this
 omega

end Go.Sx.sto

namespace Go.Sx.sto
open Go Go.Sx

end Go.Sx.sto

namespace Go.Sx.sto
open Go Go.Sx

def isPl (l : List T36) (p : T34) : Bool := match fd l p.f0 with
 | some i => decide (p.f1 ≥ 0) && decide (p.f1 < (l.getD i default).f2)
 | none => false

theorem f30_eq (l : List T36) (h : l.length ≤ maxLen) (p : T34) : f30 l p = some (isPl l p) := by
 unfold f30 isPl
 rw [f34_eq l h]
 cases hf : fd l p.f0 with
 | none => rfl
 | some i =>
  have hi := fd_lt hf
  have h0 : decide (idx (some i) ≥ 0) = true := by simp [idx]
  have h1 : (0 : Int) ≤ idx (some i) ∧ idx (some i) < (l.length : Int) := by simp only [idx]; omega
  simp only [Option.bind_some, h0, cond_true, if_pos h1, cond_and]
  rfl

theorem isPl_iff {l : List T36} {p : T34} (h : isPl l p = true) : ∃ i, fd l p.f0 = some i ∧ i < l.length ∧ 0 ≤ p.f1 ∧ p.f1 < (l.getD i default).f2 := by
 unfold isPl at h
 split at h
 ·rename_i i hf
  simp only [Bool.and_eq_true, decide_eq_true_eq] at h
  exact ⟨i, hf, fd_lt hf, h.1, h.2⟩
 ·cases h

abbrev Nm := List UInt8

def longB {A : Type} (l : List (List A)) : Bool := l.any fun x => decide ((x.length : Int) > 60)

def badP (l : List T36) (e : List (List T34)) : Option T34 := e.flatten.find? fun p => !isPl l p

def badN (l : List T36) (ns : List Nm) : Option Nm := ns.find? fun s => (fd l s).isNone

def dupN : List Nm → List Nm → Option Nm
 | [], _ => none
 | s :: r, met => if met.contains s then some s else dupN r (met ++ [s])

def argB (l : List T36) (e : List (List T34)) (b : List (List Nm)) : Bool :=
 ((are l && !decide ((e.length : Int) > 60)) && !decide ((b.length : Int) > 60)) && (!longB e && !longB b)

/-- What is wrong with what is asked. -/
def ask (l : List T36) (e : List (List T34)) (b : List (List Nm)) : Nm × Int :=
 match argB l e b with
 | false => ([], 2)
 | true => match badP l e with
  | some p => (p.f0, 5)
  | none => match badN l b.flatten with
   | some s => (s, 5)
   | none => match dupN b.flatten [] with
    | some s => (s, 8)
    | none => ([], 0)

/-- Small enough to be looked at. -/
structure Sm (e : List (List T34)) (b : List (List Nm)) : Prop where
 el : e.length ≤ 500
 bl : b.length ≤ 500
 ee : ∀ x ∈ e, x.length ≤ 500
 be : ∀ x ∈ b, x.length ≤ 500

theorem small_max {n : Nat} (h : n ≤ 1000000) : n ≤ maxLen := Nat.le_trans h (by decide)

theorem long_loop {A X : Type} (l : List (List A)) (hl : l.length ≤ 500) (body : Int → Option (Int ⊕ Out X Unit)) (x : X)
  (hb : ∀ i : Int, body i = cond (decide (i < (l.length : Int))) (if (0 : Int) ≤ i ∧ i < (l.length : Int) then cond (decide (((l.getD i.toNat default).length : Int) > (60 : Int))) (some (.inr (.ret x))) (some (.inl (w64 (i + (1 : Int))))) else none) (some (.inr (.go ())))) :
  iter body 0 = some (cond (longB l) (.ret x) (.go ())) := by
 refine iter_list l (small_max (by omega)) body (fun r _ => cond (longB r) (Out.ret x) (.go ())) ?_ ?_
 ·intro i y r hi hy _
  have h1 : (0 : Int) ≤ i ∧ (i : Int) < (l.length : Int) := ⟨by omega, by omega⟩
  simp only [hb, Int.toNat_natCast, hy, h1, and_self, if_true, decide_true, cond_true, longB, List.any_cons]
  cases hq : decide ((y.length : Int) > 60) with
  | true => left; rfl
  | false => right; exact ⟨rfl, rfl⟩
 ·simp [hb, longB]

theorem flat_len {A : Type} : ∀ (r : List (List A)), (∀ x ∈ r, x.length ≤ 500) → r.flatten.length ≤ 500 * r.length
 | [], _ => by simp
 | x :: r, h => by
  have := flat_len r fun y hy => h y (List.mem_cons_of_mem _ hy)
  have h2 := h x (List.mem_cons_self ..)
  simp only [List.flatten_cons, List.length_append, List.length_cons]
  omega

theorem f48_eq (b : List (List Nm)) (hb : b.length ≤ 500) (he : ∀ x ∈ b, x.length ≤ 500) : f48 b = some b.flatten := by
 have e1 := iter_listI b (small_max (by omega)) (fun s => f48_b1 b s.1 s.2) (fun r _ n => (Out.go (n + (r.flatten.length : Int)) : Out (List Nm) Int)) (fun i n => 0 ≤ n ∧ n ≤ 500 * i) (fun i x r n ⟨h0, h1⟩ hi hx hd => by
  have g1 : (0 : Int) ≤ i ∧ (i : Int) < (b.length : Int) := ⟨by omega, by omega⟩
  have hm := he _ (getD_mem hi)
  rw [hx] at hm
  have e2 : w64 (n + (x.length : Int)) = n + (x.length : Int) := w64_id (by omega) (by omega)
  have e3 : decide (n + (x.length : Int) < 0) = false := decide_eq_false (by omega)
  right
  refine ⟨n + x.length, ?_, ⟨by omega, by simp only [Int.natCast_add, Int.natCast_one]; omega⟩, by simp only [List.flatten_cons, List.length_append]; congr 1; omega⟩
  simp only [f48_b1, Int.toNat_natCast, hx, if_pos g1, show decide ((i : Int) < (b.length : Int)) = true from by simpa using hi, cond_true, e2, e3, cond_false]) (fun n _ => by simp [f48_b1]) 0 ⟨by omega, by omega⟩
 have e4 : ∀ n : Int, 0 ≤ n → n ≤ 250000 → f56_e n = some [] := fun n h0 h1 => by
  have w0 : w64 ((0 : Int) - 0) = 0 := by decide
  unfold f56_e
  rw [w0, w64_id (n := n - 0) (by omega) (by omega), decide_eq_false (show ¬ n < 0 by omega), cond_false]
  by_cases hp : n - 0 > 0
  ·rw [decide_eq_true hp, cond_true, if_pos ⟨by omega, by omega⟩]; rfl
  ·rw [decide_eq_false hp]; rfl
 have e5 := iter_listI b (small_max (by omega)) (fun s => f48_b2 b s.1 s.2) (fun r _ acc => (Out.go (acc ++ r.flatten) : Out (List Nm) (List Nm))) (fun i acc => acc.length ≤ 500 * i) (fun i x r acc h1 hi hx hd => by
  have g1 : (0 : Int) ≤ i ∧ (i : Int) < (b.length : Int) := ⟨by omega, by omega⟩
  have hm := he _ (getD_mem hi)
  rw [hx] at hm
  right
  refine ⟨acc ++ x, ?_, by simp only [List.length_append]; omega, by simp⟩
  simp only [f48_b2, Int.toNat_natCast, hx, if_pos g1, show decide ((i : Int) < (b.length : Int)) = true from by simpa using hi, cond_true, if_pos (show (acc.length + x.length) * 16 ≤ 140737488355328 by omega)]) (fun acc _ => by simp [f48_b2]) [] (by simp)
 have hbd := flat_len b he
 unfold f48
 rw [e1]
 simp only [Option.bind_some]
 rw [e4 _ (by omega) (by omega)]
 simp only [Option.bind_some]
 rw [e5]
 rfl

theorem f49_eq (met : List Nm) (hm : met.length ≤ maxLen) (s : Nm) : f49 met s = some (met.contains s) := by
 unfold f49 f57
 rw [index_eq met hm (fun t => some (s == t)) (fun t => s == t) (fun _ => rfl) (fun i => f57_b1 met s i) (fun i => rfl)]
 have e : met.contains s = met.any (fun t => s == t) := by
  induction met with
  | nil => rfl
  | cons x r ih => simp only [List.contains_cons, List.any_cons, ih (by simp only [List.length_cons] at hm; omega)]
 rw [e, ← findFrom_any _ met 0]
 cases findFrom (fun t => s == t) met 0 <;> rfl

theorem f35_eq (l : List T36) (e : List (List T34)) (b : List (List Nm)) (h : Vs l) (hs : Sm e b) : f35 l e b = some (ask l e b) := by
 have hfl : b.flatten.length ≤ maxLen := by
  have h1 := flat_len b hs.be
  have h2 := hs.bl
  exact small_max (by omega)
 have i1 := long_loop e hs.el (fun s => f35_b1 e s) (([] : Nm), (2 : Int)) (fun i => rfl)
 have i2 := long_loop b hs.bl (fun s => f35_b2 b s) (([] : Nm), (2 : Int)) (fun i => rfl)
 have inner : ∀ k, k < e.length → iter (fun s => f35_b3 l e (k : Int) s) 0 = some (match (e.getD k default).find? (fun p => !isPl l p) with | some p => Out.ret (p.f0, (5 : Int)) | none => Out.go ()) := fun k hk => by
  have hel := hs.ee _ (getD_mem hk)
  refine iter_list (e.getD k default) (small_max (by omega)) (fun s => f35_b3 l e (k : Int) s) (fun r _ => match r.find? (fun p => !isPl l p) with | some p => Out.ret (p.f0, (5 : Int)) | none => Out.go ()) ?_ ?_
  ·intro i x r hi hx _
   have h1 : (0 : Int) ≤ i ∧ (i : Int) < ((e.getD k default).length : Int) := ⟨by omega, by omega⟩
   simp only [f35_b3, Int.toNat_natCast, hx, h1, and_self, if_true, decide_true, cond_true, f30_eq l h.len, Option.bind_some, List.find?_cons]
   cases isPl l x with
   | true => right; exact ⟨rfl, rfl⟩
   | false => left; rfl
  ·simp [f35_b3]
 have i3 : iter (fun s => f35_b4 l e s) 0 = some (match badP l e with | some p => Out.ret (p.f0, (5 : Int)) | none => Out.go ()) := by
  refine iter_list e (small_max (by have := hs.el; omega)) (fun s => f35_b4 l e s) (fun r _ => match badP l r with | some p => Out.ret (p.f0, (5 : Int)) | none => Out.go ()) ?_ ?_
  ·intro i x r hi hx _
   have h1 : (0 : Int) ≤ i ∧ (i : Int) < (e.length : Int) := ⟨by omega, by omega⟩
   simp only [f35_b4, h1, and_self, if_true, decide_true, cond_true]
   rw [inner i hi, hx]
   simp only [badP, List.flatten_cons, List.find?_append]
   cases x.find? (fun p => !isPl l p) with
   | some p => left; rfl
   | none => right; exact ⟨rfl, rfl⟩
  ·simp [f35_b4, badP]
 have i4 : iter (fun s => f35_b5 l b.flatten s) 0 = some (match badN l b.flatten with | some s => Out.ret (s, (5 : Int)) | none => Out.go ()) := by
  refine iter_list b.flatten hfl (fun s => f35_b5 l b.flatten s) (fun r _ => match badN l r with | some s => Out.ret (s, (5 : Int)) | none => Out.go ()) ?_ ?_
  ·intro i x r hi hx _
   have h1 : (0 : Int) ≤ i ∧ (i : Int) < (b.flatten.length : Int) := ⟨by omega, by omega⟩
   simp only [f35_b5, Int.toNat_natCast, hx, h1, and_self, if_true, decide_true, cond_true, f34_eq l h.len, Option.bind_some, badN, List.find?_cons]
   cases hf : fd l x with
   | none => left; rfl
   | some j =>
    right
    have : decide (idx (some j) < 0) = false := decide_eq_false (by simp only [idx]; omega)
    rw [this]
    exact ⟨rfl, rfl⟩
  ·simp [f35_b5, badN]
 have i5 : iter (fun s => f35_b6 b.flatten s.1 s.2) ([], 0) = some (match dupN b.flatten [] with | some s => Out.ret (s, (8 : Int)) | none => Out.go ()) := by
  refine iter_listI b.flatten hfl (fun s => f35_b6 b.flatten s.1 s.2) (fun r _ met => match dupN r met with | some s => Out.ret (s, (8 : Int)) | none => Out.go ()) (fun i met => met.length ≤ i) ?_ ?_ [] (by simp)
  ·intro i x r met hm hi hx _
   have h1 : (0 : Int) ≤ i ∧ (i : Int) < (b.flatten.length : Int) := ⟨by omega, by omega⟩
   have hbd : (met.length + [x].length) * 16 ≤ 140737488355328 := by
    have : b.flatten.length ≤ 250000 := by
     have h1 := flat_len b hs.be
     have h2 := hs.bl
     omega
    simp only [List.length_cons, List.length_nil]; omega
   simp only [f35_b6, Int.toNat_natCast, hx, h1, and_self, if_true, decide_true, cond_true, f49_eq met (by omega), Option.bind_some, dupN]
   cases hq : met.contains x with
   | true => left; rfl
   | false =>
    right
    refine ⟨met ++ [x], by rw [cond_false, if_pos hbd], by simp; omega, rfl⟩
  ·intro met hm
   simp [f35_b6, dupN]
 unfold f35 ask argB
 rw [f42_eq l h, f48_eq b hs.bl hs.be]
 simp only [Option.bind_some, f47, cond_or]
 rw [i1, i2, i3, i4, i5]
 cases are l with
 | false => rfl
 | true =>
  cases decide ((e.length : Int) > 60) with
  | true => rfl
  | false =>
   cases decide ((b.length : Int) > 60) with
   | true => rfl
   | false =>
    cases longB e with
    | true => rfl
    | false =>
     cases longB b with
     | true => rfl
     | false =>
      simp only [Bool.not_true, Bool.not_false, Bool.or_false, cond_false, Option.bind_some, Bool.and_true]
      cases badP l e with
      | some p => rfl
      | none =>
       cases badN l b.flatten with
       | some p => rfl
       | none =>
        cases dupN b.flatten [] <;> rfl

end Go.Sx.sto

namespace Go.Sx.sto
open Go Go.Sx

theorem f32_eq (l : List T36) (h : l.length ≤ maxLen) (p : T34) : f32 l p = some (isPl l p) := by
 unfold f32 isPl
 rw [f33_eq l h]
 cases hf : fd l p.f0 with
 | none => rfl
 | some i =>
  have hi := fd_lt hf
  have h0 : decide (idx (some i) ≥ 0) = true := by simp [idx]
  have h1 : (0 : Int) ≤ idx (some i) ∧ idx (some i) < (l.length : Int) := by simp only [idx]; omega
  simp only [Option.bind_some, h0, cond_true, if_pos h1, cond_and]
  rfl

/-- Which names have been met, by their variables. -/
def seenOf (l : List T36) (met : List Nm) : List Bool := (List.range l.length).map fun j => met.any fun s => fd l s == some j

def dupI (l : List T36) : List Nm → List Bool → Option Nm × List Bool
 | [], st => (none, st)
 | s :: r, st => match fd l s with
  | some j => if st.getD j default then (some s, st) else dupI l r (st.set j true)
  | none => (none, st)

abbrev E5 := (List Int) × (List Int) × (List Int) × Nm × Int

def er (s : Nm) (c : Int) : E5 := ([], [], [], s, c)

theorem fd_inj {l : List T36} {s t : Nm} {j : Nat} (h1 : fd l s = some j) (h2 : fd l t = some j) : s = t := (fd_name h1).symm.trans (fd_name h2)

theorem seenOf_get {l : List T36} {met : List Nm} {s : Nm} {j : Nat} (hs : fd l s = some j) (hm : ∀ t ∈ met, (fd l t).isSome) : (seenOf l met).getD j default = met.contains s := by
 have hj := fd_lt hs
 unfold seenOf
 rw [getD_lt (by simpa using hj)]
 simp only [List.getElem_map, List.getElem_range]
 rw [Bool.eq_iff_iff, List.any_eq_true, List.contains_iff_mem]
 constructor
 ·rintro ⟨t, ht, he⟩
  have : fd l t = some j := by simpa using he
  rw [fd_inj hs this]; exact ht
 ·intro ht
  exact ⟨s, ht, by simp [hs]⟩

theorem seenOf_set {l : List T36} {met : List Nm} {s : Nm} {j : Nat} (hs : fd l s = some j) : (seenOf l met).set j true = seenOf l (met ++ [s]) := by
 have hj := fd_lt hs
 apply List.ext_getElem?
 intro i
 simp only [seenOf, List.getElem?_set, List.length_map, List.length_range, List.getElem?_map]
 by_cases e : j = i
 ·subst e
  rw [if_pos rfl, if_pos hj, List.getElem?_range hj]
  simp [hs]
 ·rw [if_neg e]
  by_cases hi : i < l.length
  ·rw [List.getElem?_range hi]
   have : (fd l s == some i) = false := by rw [hs]; simpa using e
   simp [this]
  ·rw [List.getElem?_eq_none (by simpa using Nat.le_of_not_lt hi)]; rfl

theorem dupI_eq {l : List T36} : ∀ {r met : List Nm}, (∀ t ∈ r, (fd l t).isSome) → (∀ t ∈ met, (fd l t).isSome) → (dupI l r (seenOf l met)).1 = dupN r met
 | [], _, _, _ => rfl
 | s :: r, met, hr, hm => by
  have h1 := hr s (List.mem_cons_self ..)
  simp only [dupI, dupN]
  cases hf : fd l s with
  | none => rw [hf] at h1; cases h1
  | some j =>
   simp only [seenOf_get hf hm]
   by_cases hc : met.contains s = true
   ·rw [if_pos hc, if_pos hc]
   ·rw [if_neg hc, if_neg hc, seenOf_set hf]
    exact dupI_eq (fun t ht => hr t (List.mem_cons_of_mem _ ht)) fun t ht => by
     rcases List.mem_append.1 ht with ht | ht
     ·exact hm t ht
     ·simp only [List.mem_singleton] at ht; rw [ht]; exact h1

theorem dupI_len {l : List T36} : ∀ {r : List Nm} {st : List Bool}, (dupI l r st).2.length = st.length
 | [], _ => rfl
 | s :: r, st => by
  simp only [dupI]
  split
  ·split
   ·rfl
   ·rw [dupI_len]; simp
  ·rfl

theorem dupI_append {l : List T36} : ∀ {a b : List Nm} {st : List Bool}, (∀ t ∈ a, (fd l t).isSome) → dupI l (a ++ b) st = match dupI l a st with | (some s, st') => (some s, st') | (none, st') => dupI l b st'
 | [], _, _, _ => rfl
 | s :: a, b, st, h => by
  have h1 := h s (List.mem_cons_self ..)
  simp only [List.cons_append, dupI]
  cases hf : fd l s with
  | none => rw [hf] at h1; cases h1
  | some j =>
   simp only
   split
   ·rfl
   ·exact dupI_append fun t ht => h t (List.mem_cons_of_mem _ ht)

theorem badN_none {l : List T36} {ns : List Nm} (h : badN l ns = none) : ∀ t ∈ ns, (fd l t).isSome := fun t ht => by
 have := List.find?_eq_none.1 h t ht
 cases hf : fd l t with
 | none => rw [hf] at this; simp at this
 | some _ => rfl

theorem f27_places (l : List T36) (e : List (List T34)) (h : Vs l) (hel : e.length ≤ 500) (hee : ∀ x ∈ e, x.length ≤ 500) :
  iter (fun s => f27_b2 l e s) 0 = some (match badP l e with | some p => Out.ret (er p.f0 5) | none => Out.go ()) := by
 have inner : ∀ k, k < e.length → iter (fun s => f27_b1 l e (k : Int) s) 0 = some (match (e.getD k default).find? (fun p => !isPl l p) with | some p => Out.ret (er p.f0 5) | none => Out.go ()) := fun k hk => by
  have hl := hee _ (getD_mem hk)
  have hk' : (0 : Int) ≤ k ∧ (k : Int) < (e.length : Int) := ⟨by omega, by omega⟩
  refine iter_list (e.getD k default) (small_max (by omega)) (fun s => f27_b1 l e (k : Int) s) (fun r _ => match r.find? (fun p => !isPl l p) with | some p => Out.ret (er p.f0 5) | none => Out.go ()) ?_ ?_
  ·intro i x r hi hx _
   have h1 : (0 : Int) ≤ i ∧ (i : Int) < ((e.getD k default).length : Int) := ⟨by omega, by omega⟩
   simp only [f27_b1, Int.toNat_natCast, hx, h1, hk', and_self, if_true, decide_true, cond_true, f32_eq l h.len, Option.bind_some, List.find?_cons]
   cases isPl l x with
   | true => right; exact ⟨rfl, rfl⟩
   | false => left; rfl
  ·simp [f27_b1, hk]
 refine iter_list e (small_max (by omega)) (fun s => f27_b2 l e s) (fun r _ => match badP l r with | some p => Out.ret (er p.f0 5) | none => Out.go ()) ?_ ?_
 ·intro i x r hi hx _
  simp only [f27_b2, show decide ((i : Int) < (e.length : Int)) = true from by simpa using hi, cond_true]
  rw [inner i hi, hx]
  simp only [badP, List.flatten_cons, List.find?_append]
  cases x.find? (fun p => !isPl l p) with
  | some p => left; rfl
  | none => right; exact ⟨rfl, rfl⟩
 ·simp [f27_b2, badP]

theorem f27_names (l : List T36) (b : List (List Nm)) (h : Vs l) (hbl : b.length ≤ 500) (hbe : ∀ x ∈ b, x.length ≤ 500) :
  iter (fun s => f27_b4 l b s) 0 = some (match badN l b.flatten with | some s => Out.ret (er s 5) | none => Out.go ()) := by
 have inner : ∀ k, k < b.length → iter (fun s => f27_b3 l b (k : Int) s) 0 = some (match badN l (b.getD k default) with | some s => Out.ret (er s 5) | none => Out.go ()) := fun k hk => by
  have hl := hbe _ (getD_mem hk)
  have hk' : (0 : Int) ≤ k ∧ (k : Int) < (b.length : Int) := ⟨by omega, by omega⟩
  refine iter_list (b.getD k default) (small_max (by omega)) (fun s => f27_b3 l b (k : Int) s) (fun r _ => match badN l r with | some s => Out.ret (er s 5) | none => Out.go ()) ?_ ?_
  ·intro i x r hi hx _
   have h1 : (0 : Int) ≤ i ∧ (i : Int) < ((b.getD k default).length : Int) := ⟨by omega, by omega⟩
   simp only [f27_b3, Int.toNat_natCast, hx, h1, hk', and_self, if_true, decide_true, cond_true, f33_eq l h.len, Option.bind_some, badN, List.find?_cons]
   cases hf : fd l x with
   | none => left; rfl
   | some j =>
    right
    have : decide (idx (some j) < 0) = false := decide_eq_false (by simp only [idx]; omega)
    rw [this]
    exact ⟨rfl, rfl⟩
  ·simp [f27_b3, badN, hk]
 refine iter_list b (small_max (by omega)) (fun s => f27_b4 l b s) (fun r _ => match badN l r.flatten with | some s => Out.ret (er s 5) | none => Out.go ()) ?_ ?_
 ·intro i x r hi hx _
  simp only [f27_b4, show decide ((i : Int) < (b.length : Int)) = true from by simpa using hi, cond_true]
  rw [inner i hi, hx]
  simp only [badN, List.flatten_cons, List.find?_append]
  cases x.find? (fun s => (fd l s).isNone) with
  | some p => left; rfl
  | none => right; exact ⟨rfl, rfl⟩
 ·simp [f27_b4, badN]

theorem f27_dups (l : List T36) (b : List (List Nm)) (h : Vs l) (hbl : b.length ≤ 500) (hbe : ∀ x ∈ b, x.length ≤ 500) (hfound : ∀ t ∈ b.flatten, (fd l t).isSome) :
  iter (fun s => f27_b6 l b s.1 s.2) (List.replicate l.length false, 0) = some (match dupN b.flatten [] with | some s => Out.ret (er s 8) | none => Out.go ()) := by
 have inner : ∀ k, k < b.length → ∀ st : List Bool, st.length = l.length → iter (fun s => f27_b5 l b (k : Int) s.1 s.2) (st, 0) = some (match dupI l (b.getD k default) st with | (some s, _) => Out.ret (er s 8) | (none, st') => Out.go st') := fun k hk st0 hst0 => by
  have hl := hbe _ (getD_mem hk)
  have hk' : (0 : Int) ≤ k ∧ (k : Int) < (b.length : Int) := ⟨by omega, by omega⟩
  refine iter_listI (b.getD k default) (small_max (by omega)) (fun s => f27_b5 l b (k : Int) s.1 s.2) (fun r _ st => match dupI l r st with | (some s, _) => Out.ret (er s 8) | (none, st') => Out.go st') (fun _ st => st.length = l.length) ?_ ?_ st0 hst0
  ·intro i x r st hst hi hx hd
   have h1 : (0 : Int) ≤ i ∧ (i : Int) < ((b.getD k default).length : Int) := ⟨by omega, by omega⟩
   have hmem : x ∈ b.flatten := by
    rw [List.mem_flatten]
    exact ⟨_, getD_mem hk, by rw [← hx]; exact getD_mem hi⟩
   have hf := hfound x hmem
   cases hj : fd l x with
   | none => rw [hj] at hf; cases hf
   | some j =>
    have hlt := fd_lt hj
    have h2 : (0 : Int) ≤ idx (some j) ∧ idx (some j) < (st.length : Int) := by simp only [idx]; omega
    have h3 : (idx (some j)).toNat = j := by simp [idx]
    simp only [f27_b5, Int.toNat_natCast, hx, h1, hk', h2, and_self, if_true, decide_true, cond_true, f33_eq l h.len, Option.bind_some, hj, h3, dupI]
    cases hq : st.getD j default with
    | true => left; rfl
    | false => right; exact ⟨st.set j true, rfl, by simpa using hst, rfl⟩
  ·intro st hst
   simp [f27_b5, dupI, hk]
 have outer := iter_listI b (small_max (by omega)) (fun s => f27_b6 l b s.1 s.2) (fun r _ st => match dupI l r.flatten st with | (some s, _) => Out.ret (er s 8) | (none, _) => Out.go ()) (fun _ st => st.length = l.length) (fun i x r st hst hi hx hd => by
  have hx' : ∀ t ∈ x, (fd l t).isSome := fun t ht => hfound t (by rw [List.mem_flatten]; exact ⟨x, by rw [← hx]; exact getD_mem hi, ht⟩)
  simp only [f27_b6, show decide ((i : Int) < (b.length : Int)) = true from by simpa using hi, cond_true]
  rw [inner i hi st hst, hx]
  simp only [List.flatten_cons, dupI_append hx']
  have hlen := dupI_len (l := l) (r := x) (st := st)
  cases hq : dupI l x st with
  | mk o st' =>
   rw [hq] at hlen
   cases o with
   | some s => left; rfl
   | none => right; exact ⟨st', rfl, hlen.trans hst, rfl⟩) (fun st _ => by simp [f27_b6, dupI]) (List.replicate l.length false) (by simp)
 rw [outer]
 have e0 : List.replicate l.length false = seenOf l [] := by
  unfold seenOf
  apply List.ext_getElem
  ·simp
  ·intro i h1 h2; simp
 rw [e0]
 have := dupI_eq (l := l) (r := b.flatten) (met := []) hfound (fun t ht => by cases ht)
 revert this
 cases dupI l b.flatten (seenOf l []) with
 | mk o st' =>
  intro this
  have ho : o = dupN b.flatten [] := this
  rw [← ho]
  cases o <;> rfl

end Go.Sx.sto

namespace Go.Sx.sto
open Go Go.Sx

theorem w64_mod (x : Int) : ∃ k : Int, w64 x = x + k * 18446744073709551616 := by
 simp only [w64, IntKind.wrap, IntKind.min, IntKind.max, IntKind.signed, IntKind.bits]
 simp
 exact ⟨-((x + 9223372036854775808) / 18446744073709551616), by omega⟩

theorem w64_congr {x y k : Int} (h : x = y + k * 18446744073709551616) : w64 x = w64 y := by
 subst h
 simp only [w64, IntKind.wrap, IntKind.min, IntKind.max, IntKind.signed, IntKind.bits]
 simp

theorem w64_range (x : Int) : -9223372036854775808 ≤ w64 x ∧ w64 x ≤ 9223372036854775807 := by
 simp only [w64, IntKind.wrap, IntKind.min, IntKind.max, IntKind.signed, IntKind.bits]
 simp
 omega

theorem w64_subl (x y : Int) : w64 (w64 x - y) = w64 (x - y) := by
 obtain ⟨k, hk⟩ := w64_mod x
 exact w64_congr (k := k) (by rw [hk]; omega)

theorem w64_eq {x v : Int} (h : -9223372036854775808 ≤ v ∧ v ≤ 9223372036854775807) : (w64 x == v) = (w64 (v - x) == 0) := by
 obtain ⟨k, hk⟩ := w64_mod x
 obtain ⟨q, hq⟩ := w64_mod (v - x)
 have h1 := w64_range x
 have h2 := w64_range (v - x)
 rw [Bool.eq_iff_iff, beq_iff_eq, beq_iff_eq]
 omega

/-- Over a list, by its index, from any place on; the index first. -/
theorem iter_listJ {A B X : Type} [Inhabited A] (l : List A) (hl : l.length ≤ maxLen) (body : Int × B → Option ((Int × B) ⊕ X)) (F : List A → Nat → B → X) (I : Nat → B → Prop)
  (hs : ∀ (i : Nat) (x : A) (r : List A) (b : B), I i b → i < l.length → l.getD i default = x → l.drop i = x :: r → (body ((i : Int), b) = some (.inr (F (x :: r) i b))) ∨ ∃ b', body ((i : Int), b) = some (.inl (w64 ((i : Int) + 1), b')) ∧ I (i + 1) b' ∧ F (x :: r) i b = F r (i + 1) b')
  (he : ∀ b, I l.length b → body ((l.length : Int), b) = some (.inr (F [] l.length b))) (i0 : Nat) (hi0 : i0 ≤ l.length) (b0 : B) (h0 : I i0 b0) : iter body ((i0 : Int), b0) = some (F (l.drop i0) i0 b0) := by
 have key : ∀ n i b, i + n = l.length → I i b → iter body ((i : Int), b) = some (F (l.drop i) i b) := by
  intro n
  induction n with
  | zero =>
   intro i b hi hI
   obtain rfl : i = l.length := by omega
   rw [iter_inr (he b hI), List.drop_length]
  | succ n ih =>
   intro i b hi hI
   have hlt : i < l.length := by omega
   have hd : l.drop i = l[i] :: l.drop (i + 1) := List.drop_eq_getElem_cons hlt
   rcases hs i l[i] (l.drop (i + 1)) b hI hlt (by simp [List.getD_eq_getElem?_getD, hlt]) hd with hb | ⟨b', hb, hI', hF⟩
   ·rw [iter_inr hb, hd]
   ·rw [iter_inl hb, w64_succ hlt hl, hd, hF]
    exact ih (i + 1) b' (by omega) hI'
 exact key (l.length - i0) i0 b0 (by omega) h0

abbrev LS := List Int × List Int

/-- A group goes into another one, from a variable on. -/
def mvF (fr to by_ : Int) : Nat → Nat → LS → LS
 | 0, _, s => s
 | n + 1, i, s => mvF fr to by_ n (i + 1) (if s.1.getD i default == fr then (s.1.set i to, s.2.set i (w64 (s.2.getD i default + by_))) else s)

/-- Where d units lie between a's begin and b's. -/
def tie (a b : Nat) (d : Int) (s : LS) : Bool × LS :=
 if s.1.getD a default == s.1.getD b default then (w64 (s.2.getD a default + d - s.2.getD b default) == 0, s)
 else (true, mvF (s.1.getD b default) (s.1.getD a default) (w64 (s.2.getD a default + d - s.2.getD b default)) s.1.length 0 s)

theorem mvF_len {fr to by_ : Int} : ∀ (n i : Nat) (s : LS), (mvF fr to by_ n i s).1.length = s.1.length ∧ (mvF fr to by_ n i s).2.length = s.2.length
 | 0, _, s => ⟨rfl, rfl⟩
 | n + 1, i, s => by
  simp only [mvF]
  obtain ⟨h1, h2⟩ := mvF_len (fr := fr) (to := to) (by_ := by_) n (i + 1) (if s.1.getD i default == fr then (s.1.set i to, s.2.set i (w64 (s.2.getD i default + by_))) else s)
  rw [h1, h2]
  split <;> simp

theorem tie_len (a b : Nat) (d : Int) (s : LS) : (tie a b d s).2.1.length = s.1.length ∧ (tie a b d s).2.2.length = s.2.length := by
 unfold tie
 split
 ·exact ⟨rfl, rfl⟩
 ·exact mvF_len _ _ _

structure Ls (n : Nat) (s : LS) : Prop where
 g : s.1.length = n
 o : s.2.length = n

theorem Ls.tie {n : Nat} {s : LS} (h : Ls n s) (a b : Nat) (d : Int) : Ls n (tie a b d s).2 :=
 ⟨(tie_len a b d s).1.trans h.g, (tie_len a b d s).2.trans h.o⟩

theorem f36o_eq (l : List T36) (hl : l.length ≤ maxLen) (s : LS) (h : Ls l.length s) (a b : Nat) (ha : a < l.length) (hb : b < l.length) (p q : Int) :
  f36o (a : Int) p (b : Int) q (T57.mk l s.1 s.2) = some ((tie a b (p - q) s).1, T57.mk l (tie a b (p - q) s).2.1 (tie a b (p - q) s).2.2) := by
 obtain ⟨hg, ho⟩ := h
 have c1 : (0 : Int) ≤ a ∧ (a : Int) < (s.2.length : Int) := by omega
 have c2 : (0 : Int) ≤ b ∧ (b : Int) < (s.2.length : Int) := by omega
 have c3 : (0 : Int) ≤ a ∧ (a : Int) < (s.1.length : Int) := by omega
 have c4 : (0 : Int) ≤ b ∧ (b : Int) < (s.1.length : Int) := by omega
 have ew : w64 (w64 (w64 (s.2.getD a default + p) - s.2.getD b default) - q) = w64 (s.2.getD a default + (p - q) - s.2.getD b default) := by
  rw [w64_subl, Int.sub_sub, w64_subl]
  congr 1; omega
 unfold f36o
 simp only [Int.toNat_natCast, if_pos c1, if_pos c2, if_pos c3, if_pos c4, ew]
 have key := iter_listJ l hl (fun x => f36o_b2 (a : Int) p (b : Int) q (T57.mk l s.1 s.2) x.1 x.2.1 x.2.2)
  (fun r i x => (Out.go (mvF (s.1.getD b default) (s.1.getD a default) (w64 (s.2.getD a default + (p - q) - s.2.getD b default)) r.length i x) : Out (Bool × T57) (List Int × List Int)))
  (fun _ x => Ls l.length x) (fun i x r st hst hi hx hd => by
   obtain ⟨k1, k2⟩ := hst
   have g1 : (0 : Int) ≤ i ∧ (i : Int) < (st.1.length : Int) := by omega
   have g2 : (0 : Int) ≤ i ∧ (i : Int) < (st.2.length : Int) ∧ (0 : Int) ≤ i ∧ (i : Int) < (st.2.length : Int) := by omega
   have hd1 : decide ((i : Int) < (l.length : Int)) = true := by simpa using hi
   right
   simp only [f36o_b2, Int.toNat_natCast, if_pos g1, if_pos g2, hd1, cond_true, ew, List.length_cons, mvF]
   cases hq : st.1.getD i default == s.1.getD b default with
   | true => exact ⟨_, rfl, ⟨by simpa using k1, by simpa using k2⟩, rfl⟩
   | false => exact ⟨st, rfl, ⟨k1, k2⟩, rfl⟩) (fun st _ => by simp [f36o_b2, mvF]) 0 (Nat.zero_le _) s ⟨hg, ho⟩
 simp only [Int.natCast_zero, List.drop_zero] at key
 unfold tie
 cases hq : s.1.getD a default == s.1.getD b default with
 | true => simp only [cond_true, if_true]
 | false =>
  simp only [cond_false, Bool.false_eq_true, if_false]
  rw [show ((0 : Int), s.1, s.2) = ((0 : Int), s) from rfl, key, hg]
  rfl

theorem mvF_keep {fr to by_ : Int} (hne : to ≠ fr) : ∀ (n i : Nat) (s : LS) (a : Nat), s.1.getD a default = to → (mvF fr to by_ n i s).1.getD a default = to
 | 0, _, s, a, h => h
 | n + 1, i, s, a, h => by
  simp only [mvF]
  refine mvF_keep hne n (i + 1) _ a ?_
  split
  ·rename_i he
   by_cases e : i = a
   ·subst e
    rw [beq_iff_eq] at he
    rw [he] at h; exact absurd h.symm hne
   ·simp only [List.getD_eq_getElem?_getD, List.getElem?_set, if_neg e]
    rw [← List.getD_eq_getElem?_getD]; exact h
  ·exact h

theorem f50o_eq (n : Nat) (hn : n ≤ maxLen) (s : LS) (h : Ls n s) (a b : Nat) (ha : a < n) (hb : b < n) (d : Int) (hd : -9223372036854775808 ≤ d ∧ d ≤ 9223372036854775807) :
  f50o (a : Int) (b : Int) d (T84.mk s.1 s.2) = some ((tie a b d s).1, T84.mk (tie a b d s).2.1 (tie a b d s).2.2) := by
 obtain ⟨hg, ho⟩ := h
 have c1 : (0 : Int) ≤ a ∧ (a : Int) < (s.2.length : Int) := by omega
 have c2 : (0 : Int) ≤ b ∧ (b : Int) < (s.2.length : Int) := by omega
 have c3 : (0 : Int) ≤ a ∧ (a : Int) < (s.1.length : Int) := by omega
 have c4 : (0 : Int) ≤ b ∧ (b : Int) < (s.1.length : Int) := by omega
 have ew : w64 (w64 (s.2.getD a default + d) - s.2.getD b default) = w64 (s.2.getD a default + d - s.2.getD b default) := w64_subl _ _
 have e0 : (w64 (s.2.getD b default - s.2.getD a default) == d) = (w64 (s.2.getD a default + d - s.2.getD b default) == 0) := by
  rw [w64_eq hd]; congr 2; omega
 unfold f50o
 simp only [Int.toNat_natCast, if_pos c1, if_pos c2, if_pos c3, if_pos c4, ew, e0]
 unfold tie
 cases hq : s.1.getD a default == s.1.getD b default with
 | true => simp only [cond_true, if_true]
 | false =>
  have hne : s.1.getD a default ≠ s.1.getD b default := by simpa using hq
  have key := iter_listJ s.1 (by rw [hg]; exact hn) (fun x => f50o_b2 (a : Int) (b : Int) d (T84.mk s.1 s.2) x.1 x.2.1 x.2.2)
   (fun r i x => (Out.go (mvF (s.1.getD b default) (s.1.getD a default) (w64 (s.2.getD a default + d - s.2.getD b default)) r.length i x) : Out (Bool × T84) (List Int × List Int)))
   (fun _ x => Ls n x ∧ x.1.getD a default = s.1.getD a default) (fun i x r st hst hi hx hd => by
    obtain ⟨⟨k1, k2⟩, k3⟩ := hst
    have g1 : (0 : Int) ≤ i ∧ (i : Int) < (st.1.length : Int) := by omega
    have g2 : (0 : Int) ≤ i ∧ (i : Int) < (st.2.length : Int) ∧ (0 : Int) ≤ i ∧ (i : Int) < (st.2.length : Int) := by omega
    have g3 : (0 : Int) ≤ a ∧ (a : Int) < (st.1.length : Int) := by omega
    have hd1 : decide ((i : Int) < (st.1.length : Int)) = true := decide_eq_true (by omega)
    right
    simp only [f50o_b2, Int.toNat_natCast, if_pos g1, if_pos g2, if_pos g3, hd1, cond_true, ew, List.length_cons, mvF, k3]
    cases hq : st.1.getD i default == s.1.getD b default with
    | true =>
     refine ⟨_, rfl, ⟨⟨by simpa using k1, by simpa using k2⟩, ?_⟩, rfl⟩
     have := mvF_keep (by_ := w64 (s.2.getD a default + d - s.2.getD b default)) hne 1 i st a k3
     simp only [mvF, hq, if_true] at this
     exact this
    | false => exact ⟨st, rfl, ⟨⟨k1, k2⟩, k3⟩, rfl⟩) (fun st hst => by
     obtain ⟨⟨k1, k2⟩, k3⟩ := hst
     have : decide (((s.1.length : Nat) : Int) < (st.1.length : Int)) = false := decide_eq_false (by omega)
     simp only [f50o_b2, this, cond_false, mvF, List.length_nil]) 0 (Nat.zero_le _) s ⟨⟨hg, ho⟩, rfl⟩
  simp only [Int.natCast_zero, List.drop_zero] at key
  simp only [cond_false, Bool.false_eq_true, if_false]
  rw [show ((0 : Int), s.1, s.2) = ((0 : Int), s) from rfl, key]
  rfl

end Go.Sx.sto

namespace Go.Sx.sto
open Go Go.Sx

theorem getD_set {A : Type} [Inhabited A] {l : List A} {i j : Nat} {x : A} (hi : i < l.length) : (l.set i x).getD j default = if i = j then x else l.getD j default := by
 simp only [List.getD_eq_getElem?_getD, List.getElem?_set]
 split
 ·rename_i h
  subst h
  simp [hi]
 ·rfl

theorem mvF_at {fr to by_ : Int} (hne : to ≠ fr) : ∀ (n i : Nat) (s : LS) (j : Nat), i + n ≤ s.1.length → s.2.length = s.1.length →
  (mvF fr to by_ n i s).1.getD j default = (if i ≤ j ∧ j < i + n ∧ s.1.getD j default = fr then to else s.1.getD j default) ∧
  (mvF fr to by_ n i s).2.getD j default = (if i ≤ j ∧ j < i + n ∧ s.1.getD j default = fr then w64 (s.2.getD j default + by_) else s.2.getD j default)
 | 0, i, s, j, _, _ => by
  have : ¬ (i ≤ j ∧ j < i + 0 ∧ s.1.getD j default = fr) := by omega
  simp only [mvF, if_neg this, and_self]
 | n + 1, i, s, j, h, h2 => by
  simp only [mvF]
  by_cases he : s.1.getD i default = fr
  ·have he' : (s.1.getD i default == fr) = true := by simpa using he
   rw [if_pos he']
   obtain ⟨k1, k2⟩ := mvF_at hne n (i + 1) (s.1.set i to, s.2.set i (w64 (s.2.getD i default + by_))) j (by simp only [List.length_set]; omega) (by simpa using h2)
   rw [k1, k2]
   simp only [getD_set (show i < s.1.length by omega), getD_set (show i < s.2.length by omega)]
   by_cases e : i = j
   ·subst e
    have c1 : ¬ (i + 1 ≤ i ∧ i < i + 1 + n ∧ (if i = i then to else s.1.getD i default) = fr) := by rintro ⟨q, _⟩; omega
    rw [if_neg c1, if_neg c1, if_pos rfl, if_pos rfl, if_pos ⟨by omega, by omega, he⟩, if_pos ⟨by omega, by omega, he⟩]
    exact ⟨rfl, rfl⟩
   ·rw [if_neg e, if_neg e]
    by_cases hc : i + 1 ≤ j ∧ j < i + 1 + n ∧ s.1.getD j default = fr
    ·rw [if_pos hc, if_pos hc, if_pos ⟨by omega, by omega, hc.2.2⟩, if_pos ⟨by omega, by omega, hc.2.2⟩]; exact ⟨rfl, rfl⟩
    ·have hc' : ¬ (i ≤ j ∧ j < i + (n + 1) ∧ s.1.getD j default = fr) := by rintro ⟨q1, q2, q3⟩; exact hc ⟨by omega, by omega, q3⟩
     rw [if_neg hc, if_neg hc, if_neg hc', if_neg hc']; exact ⟨rfl, rfl⟩
  ·have he' : (s.1.getD i default == fr) = false := by simpa using he
   rw [if_neg (by rw [he']; exact Bool.false_ne_true)]
   obtain ⟨k1, k2⟩ := mvF_at hne n (i + 1) s j (by omega) h2
   rw [k1, k2]
   by_cases hc : i + 1 ≤ j ∧ j < i + 1 + n ∧ s.1.getD j default = fr
   ·rw [if_pos hc, if_pos hc, if_pos ⟨by omega, by omega, hc.2.2⟩, if_pos ⟨by omega, by omega, hc.2.2⟩]; exact ⟨rfl, rfl⟩
   ·have hc' : ¬ (i ≤ j ∧ j < i + (n + 1) ∧ s.1.getD j default = fr) := by
     rintro ⟨q1, q2, q3⟩
     have : i ≠ j := by rintro rfl; exact he q3
     exact hc ⟨by omega, by omega, q3⟩
    rw [if_neg hc, if_neg hc, if_neg hc', if_neg hc']; exact ⟨rfl, rfl⟩

abbrev gr (s : LS) (i : Nat) : Int := s.1.getD i default
abbrev of (s : LS) (i : Nat) : Int := s.2.getD i default

theorem tie_same {a b : Nat} {d : Int} {s : LS} (h : gr s a = gr s b) : tie a b d s = (w64 (of s a + d - of s b) == 0, s) := by
 unfold tie
 rw [if_pos (by simpa using h)]

theorem tie_other {n : Nat} {a b : Nat} {d : Int} {s : LS} (hs : Ls n s) (h : gr s a ≠ gr s b) :
  (tie a b d s).1 = true ∧ ∀ j, j < n → gr (tie a b d s).2 j = (if gr s j = gr s b then gr s a else gr s j) ∧ of (tie a b d s).2 j = (if gr s j = gr s b then w64 (of s j + w64 (of s a + d - of s b)) else of s j) := by
 have e : (s.1.getD a default == s.1.getD b default) = false := by simpa using h
 unfold tie
 rw [if_neg (by rw [e]; exact Bool.false_ne_true)]
 refine ⟨rfl, fun j hj => ?_⟩
 have hg := hs.g
 obtain ⟨k1, k2⟩ := mvF_at (by_ := w64 (s.2.getD a default + d - s.2.getD b default)) h s.1.length 0 s j (by omega) (by rw [hs.o, hs.g])
 have hc : (0 ≤ j ∧ j < 0 + s.1.length ∧ s.1.getD j default = s.1.getD b default) ↔ gr s j = gr s b := ⟨fun h => h.2.2, fun h => ⟨by omega, by omega, h⟩⟩
 refine ⟨k1.trans ?_, k2.trans ?_⟩
 ·by_cases hq : gr s j = gr s b
  ·rw [if_pos (hc.2 hq), if_pos hq]
  ·rw [if_neg (fun h => hq (hc.1 h)), if_neg hq]
 ·by_cases hq : gr s j = gr s b
  ·rw [if_pos (hc.2 hq), if_pos hq]
  ·rw [if_neg (fun h => hq (hc.1 h)), if_neg hq]

/-- What has not been met lies alone. -/
def Fr (n : Nat) (met : List Nat) (s : LS) : Prop := ∀ j, j < n → j ∉ met → gr s j = (j : Int) ∧ ∀ i, i < n → i ≠ j → gr s i ≠ (j : Int)

theorem Fr.mono {n : Nat} {m m' : List Nat} {s : LS} (h : Fr n m s) (hm : ∀ x ∈ m, x ∈ m') : Fr n m' s := fun j hj hn => h j hj fun hx => hn (hm j hx)

theorem Fr.tie {n : Nat} {met : List Nat} {s : LS} (h : Fr n met s) (hs : Ls n s) {a b : Nat} (ha : a < n) (hb : b < n) (hbm : b ∉ met) (ham : a ∈ met) (d : Int) :
  (tie a b d s).1 = true ∧ Fr n (b :: met) (Go.Sx.sto.tie a b d s).2 := by
 have hne : a ≠ b := fun e => hbm (e ▸ ham)
 obtain ⟨h1, h2⟩ := h b hb hbm
 have hg : gr s a ≠ gr s b := by rw [h1]; exact h2 a ha hne
 obtain ⟨k1, k2⟩ := tie_other (d := d) hs hg
 refine ⟨k1, fun j hj hjm => ?_⟩
 have hjb : j ≠ b := fun e => hjm (by rw [e]; exact List.mem_cons_self ..)
 have hjm' : j ∉ met := fun hx => hjm (List.mem_cons_of_mem _ hx)
 have hja : j ≠ a := fun e => hjm' (by rw [e]; exact ham)
 obtain ⟨q1, q2⟩ := h j hj hjm'
 refine ⟨?_, fun i hi hij => ?_⟩
 ·rw [(k2 j hj).1, if_neg (by rw [q1, h1]; omega), q1]
 ·rw [(k2 i hi).1]
  split
  ·exact q2 a ha (Ne.symm hja)
  ·exact q2 i hi hij

/-! ### Blocks -/

def ix (l : List T36) (s : Nm) : Nat := (fd l s).getD 0

theorem ix_of {l : List T36} {s : Nm} (h : (fd l s).isSome = true) : fd l s = some (ix l s) ∧ ix l s < l.length := by
 cases hf : fd l s with
 | none => rw [hf] at h; cases h
 | some j => simp only [ix, hf, Option.getD_some, true_and]; exact fd_lt hf

/-- How many units a variable has. -/
def un (l : List T36) (i : Nat) : Int := w64 ((l.getD i default).f1 * (l.getD i default).f2)

def tiesB (l : List T36) : Nm → List Nm → LS → LS
 | _, [], s => s
 | p, q :: r, s => tiesB l q r (tie (ix l p) (ix l q) (un l (ix l p)) s).2

def blkB (l : List T36) : List Nm → LS → LS
 | [], s => s
 | p :: r, s => tiesB l p r s

def allB (l : List T36) (bs : List (List Nm)) (s : LS) : LS := bs.foldl (fun s b => blkB l b s) s

theorem tiesB_ls {l : List T36} {n : Nat} : ∀ (r : List Nm) (p : Nm) (s : LS), Ls n s → Ls n (tiesB l p r s)
 | [], _, _, h => h
 | q :: r, p, s, h => tiesB_ls r q _ (h.tie _ _ _)

theorem blkB_ls {l : List T36} {n : Nat} (b : List Nm) {s : LS} (h : Ls n s) : Ls n (blkB l b s) := by
 cases b with
 | nil => exact h
 | cons p r => exact tiesB_ls r p s h

theorem allB_ls {l : List T36} {n : Nat} : ∀ (bs : List (List Nm)) {s : LS}, Ls n s → Ls n (allB l bs s)
 | [], _, h => h
 | b :: bs, s, h => by
  show Ls n (allB l bs (blkB l b s))
  exact allB_ls bs (blkB_ls b h)

theorem nat_pred {i : Nat} (h : 1 ≤ i) (hm : i ≤ 1000) : w64 ((i : Int) - 1) = ((i - 1 : Nat) : Int) := by
 rw [w64_id (by omega) (by omega)]; omega

theorem f24_block (l : List T36) (b : List (List Nm)) (h : Vs l) (hbe : ∀ x ∈ b, x.length ≤ 500) (hfound : ∀ t ∈ b.flatten, (fd l t).isSome) (k : Nat) (hk : k < b.length) (s : LS) (hs : Ls l.length s) :
  iter (fun x => f24_b2 l b (k : Int) x.1 x.2.1 x.2.2.1 x.2.2.2) ((1 : Int), l, s.1, s.2) = some (Out.go (l, blkB l (b.getD k default) s)) := by
 have hlen := hbe _ (getD_mem hk)
 have hf : ∀ t ∈ b.getD k default, (fd l t).isSome := fun t ht => hfound t (by rw [List.mem_flatten]; exact ⟨_, getD_mem hk, ht⟩)
 cases hblk : b.getD k default with
 | nil =>
  refine iter_inr ?_
  have hd : decide ((1 : Int) < (((b.getD k default).length : Nat) : Int)) = false := by rw [hblk]; rfl
  simp only [f24_b2, Int.toNat_natCast, hd, cond_false, blkB]
 | cons p r =>
  have key := iter_listJ (b.getD k default) (small_max (by omega)) (fun (x : Int × List T36 × LS) => f24_b2 l b (k : Int) x.1 x.2.1 x.2.2.1 x.2.2.2)
   (fun r i x => (Out.go (l, tiesB l ((b.getD k default).getD (i - 1) default) r x.2) : Out ((Option T57) × (List UInt8) × Int) (List T36 × List Int × List Int)))
   (fun i x => 1 ≤ i ∧ x.1 = l ∧ Ls l.length x.2) (fun i x r st hI hi hx hd => by
    obtain ⟨h1, h2, h3⟩ := hI
    obtain ⟨v, st⟩ := st
    simp only at h2 h3
    subst h2
    have hpm : (b.getD k default).getD (i - 1) default ∈ b.getD k default := getD_mem (by omega)
    have hxm : x ∈ b.getD k default := by rw [← hx]; exact getD_mem hi
    obtain ⟨p1, p2⟩ := ix_of (hf _ hpm)
    obtain ⟨x1, x2⟩ := ix_of (hf _ hxm)
    have hd1 : decide ((i : Int) < ((b.getD k default).length : Int)) = true := by simpa using hi
    have ep := nat_pred h1 (by omega)
    have g1 : (0 : Int) ≤ ((i - 1 : Nat) : Int) ∧ (((i - 1 : Nat) : Int)) < ((b.getD k default).length : Int) := by omega
    have g2 : (0 : Int) ≤ ((ix v ((b.getD k default).getD (i - 1) default) : Nat) : Int) ∧ ((ix v ((b.getD k default).getD (i - 1) default) : Nat) : Int) < (v.length : Int) ∧ (0 : Int) ≤ i ∧ (i : Int) < ((b.getD k default).length : Int) := by omega
    right
    refine ⟨(v, (tie (ix v ((b.getD k default).getD (i - 1) default)) (ix v x) (un v (ix v ((b.getD k default).getD (i - 1) default))) st).2), ?_, ⟨by omega, rfl, h3.tie _ _ _⟩, ?_⟩
    ·simp only [f24_b2, Int.toNat_natCast, ep, hd1, cond_true, if_pos g1, f34_eq v h.len, p1, idx, Option.bind_some, if_pos g2, f25, hx, x1]
     rw [show w64 ((v.getD (ix v ((b.getD k default).getD (i - 1) default)) default).f1 * (v.getD (ix v ((b.getD k default).getD (i - 1) default)) default).f2) = un v (ix v ((b.getD k default).getD (i - 1) default)) from rfl, f36o_eq v h.len st h3 _ _ p2 x2, Int.sub_zero]
     rfl
    ·simp only [tiesB, Nat.add_sub_cancel, hx]) (fun st hI => by
    have hd : decide ((((b.getD k default).length : Nat) : Int) < (((b.getD k default).length : Nat) : Int)) = false := by simp
    simp only [f24_b2, Int.toNat_natCast, hd, cond_false, tiesB]; rw [hI.2.1]) 1 (by rw [hblk]; simp) (l, s) ⟨Nat.le_refl _, rfl, hs⟩
  rw [show (((1 : Nat) : Int), l, s) = ((1 : Int), l, s.1, s.2) from rfl] at key
  rw [key, hblk]
  rfl

theorem f24_blocks (l : List T36) (b : List (List Nm)) (h : Vs l) (hbl : b.length ≤ 500) (hbe : ∀ x ∈ b, x.length ≤ 500) (hfound : ∀ t ∈ b.flatten, (fd l t).isSome) (s : LS) (hs : Ls l.length s) :
  iter (fun x => f24_b3 l b x.1 x.2.1 x.2.2.1 x.2.2.2) ((0 : Int), l, s.1, s.2) = some (Out.go (l, allB l b s)) := by
 have key := iter_listJ b (small_max (by omega)) (fun (x : Int × List T36 × LS) => f24_b3 l b x.1 x.2.1 x.2.2.1 x.2.2.2)
  (fun r _ x => (Out.go (l, allB l r x.2) : Out ((Option T57) × (List UInt8) × Int) (List T36 × List Int × List Int)))
  (fun _ x => x.1 = l ∧ Ls l.length x.2) (fun i x r st hI hi hx hd => by
   obtain ⟨h2, h3⟩ := hI
   obtain ⟨v, st⟩ := st
   simp only at h2 h3
   subst h2
   have hd1 : decide ((i : Int) < (b.length : Int)) = true := by simpa using hi
   have g1 : (0 : Int) ≤ i ∧ (i : Int) < (b.length : Int) := by omega
   right
   refine ⟨(v, blkB v x st), ?_, ⟨rfl, blkB_ls x h3⟩, rfl⟩
   simp only [f24_b3, hd1, cond_true, if_pos g1]
   rw [f24_block v b h hbe hfound i hi st h3, hx]
   rfl) (fun st hI => by simp only [f24_b3, show decide ((b.length : Int) < (b.length : Int)) = false from by simp, cond_false, allB, List.foldl_nil]; rw [hI.1]) 0 (Nat.zero_le _) (l, s) ⟨rfl, hs⟩
 exact key

/-- The document's: the blocks' variables have not been met. -/
theorem f39_block (l : List T36) (b : List (List Nm)) (h : Vs l) (hbe : ∀ x ∈ b, x.length ≤ 500) (hfound : ∀ t ∈ b.flatten, (fd l t).isSome) (k : Nat) (hk : k < b.length) (s : LS) (hs : Ls l.length s)
  (met : List Nat) (hfr : Fr l.length met s) (hnew : ((b.getD k default).map (ix l)).Nodup ∧ ∀ t ∈ b.getD k default, ix l t ∉ met) :
  iter (fun x => f39_b2 l b (k : Int) x.1 x.2.1 x.2.2) ((1 : Int), s.1, s.2) = some (Out.go (blkB l (b.getD k default) s)) ∧ Fr l.length ((b.getD k default).map (ix l) ++ met) (blkB l (b.getD k default) s) := by
 have hlen := hbe _ (getD_mem hk)
 have hk' : (0 : Int) ≤ k ∧ (k : Int) < (b.length : Int) := by omega
 have hf : ∀ t ∈ b.getD k default, (fd l t).isSome := fun t ht => hfound t (by rw [List.mem_flatten]; exact ⟨_, getD_mem hk, ht⟩)
 cases hblk : b.getD k default with
 | nil =>
  refine ⟨iter_inr ?_, by simpa [blkB] using hfr⟩
  have hd : decide ((1 : Int) < (((b.getD k default).length : Nat) : Int)) = false := by rw [hblk]; rfl
  simp only [f39_b2, Int.toNat_natCast, hd, cond_false, blkB, if_pos hk']
 | cons p r =>
  have fresh : ∀ (r : List Nm) (p : Nm) (met : List Nat) (s : LS), Ls l.length s → Fr l.length met s → ix l p ∈ met → ix l p < l.length → (∀ t ∈ r, ix l t < l.length ∧ ix l t ∉ met) → (r.map (ix l)).Nodup →
    Fr l.length (r.map (ix l) ++ met) (tiesB l p r s) := by
   intro r
   induction r with
   | nil => intro p met s _ hfr _ _ _ _; exact hfr
   | cons q r ih =>
    intro p met s hs hfr hp hpl hr hnd
    obtain ⟨q1, q2⟩ := hr q (List.mem_cons_self ..)
    obtain ⟨_, hfr'⟩ := hfr.tie hs hpl q1 q2 hp (un l (ix l p))
    rw [List.map_cons, List.nodup_cons] at hnd
    have := ih q (ix l q :: met) _ (hs.tie _ _ _) hfr' (List.mem_cons_self ..) q1 (fun t ht => ⟨(hr t (List.mem_cons_of_mem _ ht)).1, fun hx => by
     rcases List.mem_cons.1 hx with e | hx
     ·exact hnd.1 (by rw [← e]; exact List.mem_map_of_mem ht)
     ·exact (hr t (List.mem_cons_of_mem _ ht)).2 hx⟩) hnd.2
    refine this.mono fun x hx => ?_
    simp only [List.mem_append, List.mem_cons, List.map_cons] at hx ⊢
    rcases hx with hx | hx | hx
    ·exact .inl (.inr hx)
    ·exact .inl (.inl hx)
    ·exact .inr hx
  rw [hblk] at hnew
  have hpl := (ix_of (hf p (by rw [hblk]; exact List.mem_cons_self ..))).2
  obtain ⟨hnd, hnm⟩ := hnew
  rw [List.map_cons, List.nodup_cons] at hnd
  constructor
  ·have key := iter_listJ (b.getD k default) (small_max (by omega)) (fun (x : Int × LS) => f39_b2 l b (k : Int) x.1 x.2.1 x.2.2)
    (fun r i x => (Out.go (tiesB l ((b.getD k default).getD (i - 1) default) r x) : Out ((Option T84) × (List UInt8) × Bool) (List Int × List Int)))
    (fun i x => 1 ≤ i ∧ Ls l.length x ∧ Fr l.length (((b.getD k default).take i).map (ix l) ++ met) x) (fun i x r st hI hi hx hd => by
     obtain ⟨h1, h3, h4⟩ := hI
     have hpm : (b.getD k default).getD (i - 1) default ∈ b.getD k default := getD_mem (by omega)
     have hxm : x ∈ b.getD k default := by rw [← hx]; exact getD_mem hi
     obtain ⟨p1, p2⟩ := ix_of (hf _ hpm)
     obtain ⟨x1, x2⟩ := ix_of (hf _ hxm)
     have hd1 : decide ((i : Int) < ((b.getD k default).length : Int)) = true := by simpa using hi
     have ep := nat_pred h1 (by omega)
     have g1 : (0 : Int) ≤ k ∧ (k : Int) < (b.length : Int) ∧ (0 : Int) ≤ ((i - 1 : Nat) : Int) ∧ (((i - 1 : Nat) : Int)) < ((b.getD k default).length : Int) ∧ (0 : Int) ≤ k ∧ (k : Int) < (b.length : Int) ∧ (0 : Int) ≤ i ∧ (i : Int) < ((b.getD k default).length : Int) := by omega
     have g2 : (0 : Int) ≤ ((ix l ((b.getD k default).getD (i - 1) default) : Nat) : Int) ∧ ((ix l ((b.getD k default).getD (i - 1) default) : Nat) : Int) < (l.length : Int) ∧ (0 : Int) ≤ ((ix l ((b.getD k default).getD (i - 1) default) : Nat) : Int) ∧ ((ix l ((b.getD k default).getD (i - 1) default) : Nat) : Int) < (l.length : Int) := by omega
     have htake : (b.getD k default).take (i + 1) = (b.getD k default).take i ++ [x] := by
      rw [List.take_succ_eq_append_getElem hi, ← hx, getD_lt hi]
     have hnotin : ix l x ∉ ((b.getD k default).take i).map (ix l) ++ met := by
      intro hm
      rcases List.mem_append.1 hm with hm | hm
      ·have hsplit : (b.getD k default) = (b.getD k default).take i ++ x :: r := by rw [← hd, List.take_append_drop]
       have hnd2 : ((b.getD k default).map (ix l)).Nodup := by rw [hblk, List.map_cons, List.nodup_cons]; exact hnd
       rw [hsplit, List.map_append, List.map_cons] at hnd2
       have := (List.nodup_append.1 hnd2).2.2 _ hm _ (List.mem_cons_self ..)
       exact this rfl
      ·exact hnm x (by rw [← hblk]; exact hxm) hm
     have hain : ix l ((b.getD k default).getD (i - 1) default) ∈ ((b.getD k default).take i).map (ix l) ++ met := by
      refine List.mem_append_left _ (List.mem_map_of_mem ?_)
      have : (b.getD k default).getD (i - 1) default = ((b.getD k default).take i).getD (i - 1) default := (getD_take (by omega)).symm
      rw [this]
      exact getD_mem (by rw [List.length_take]; omega)
     obtain ⟨t1, t2⟩ := h4.tie h3 p2 x2 hnotin hain (un l (ix l ((b.getD k default).getD (i - 1) default)))
     right
     refine ⟨(tie (ix l ((b.getD k default).getD (i - 1) default)) (ix l x) (un l (ix l ((b.getD k default).getD (i - 1) default))) st).2, ?_, ⟨by omega, h3.tie _ _ _, ?_⟩, ?_⟩
     ·simp only [f39_b2, Int.toNat_natCast, ep, hd1, cond_true, if_pos hk', if_pos g1, f33_eq l h.len, p1, idx, Option.bind_some, if_pos g2, hx, x1]
      rw [show w64 ((l.getD (ix l ((b.getD k default).getD (i - 1) default)) default).f1 * (l.getD (ix l ((b.getD k default).getD (i - 1) default)) default).f2) = un l (ix l ((b.getD k default).getD (i - 1) default)) from rfl, f50o_eq l.length h.len st h3 _ _ p2 x2 (un l (ix l ((b.getD k default).getD (i - 1) default))) (w64_range _), Option.bind_some]
      simp only [t1, Bool.not_true, cond_false]
     ·refine t2.mono fun y hy => ?_
      rw [htake, List.map_append]
      simp only [List.mem_cons, List.mem_append, List.map_cons, List.map_nil, List.not_mem_nil, or_false] at hy ⊢
      rcases hy with hy | hy | hy
      ·exact .inl (.inr hy)
      ·exact .inl (.inl hy)
      ·exact .inr hy
     ·simp only [tiesB, Nat.add_sub_cancel, hx]) (fun st _ => by
     have hd : decide ((((b.getD k default).length : Nat) : Int) < (((b.getD k default).length : Nat) : Int)) = false := by simp
     simp only [f39_b2, Int.toNat_natCast, hd, cond_false, tiesB, if_pos hk']) 1 (by rw [hblk]; simp) s ⟨Nat.le_refl _, hs, by
      rw [hblk]
      exact hfr.mono fun x hx => List.mem_append_right _ hx⟩
   rw [show (((1 : Nat) : Int), s) = ((1 : Int), s.1, s.2) from rfl] at key
   rw [key, hblk]
   rfl
  ·have := fresh r p (ix l p :: met) s hs (hfr.mono fun x hx => List.mem_cons_of_mem _ hx) (List.mem_cons_self ..) hpl (fun t ht => ⟨(ix_of (hf t (by rw [hblk]; exact List.mem_cons_of_mem _ ht))).2, fun hx => by
    rcases List.mem_cons.1 hx with e | hx
    ·exact hnd.1 (by rw [← e]; exact List.mem_map_of_mem ht)
    ·exact hnm t (List.mem_cons_of_mem _ ht) hx⟩) hnd.2
   refine this.mono fun x hx => ?_
   simp only [List.map_cons, List.cons_append, List.mem_append, List.mem_cons] at hx ⊢
   rcases hx with hx | hx | hx
   ·exact .inr (.inl hx)
   ·exact .inl hx
   ·exact .inr (.inr hx)

end Go.Sx.sto

namespace Go.Sx.sto
open Go Go.Sx

theorem dupN_none : ∀ {r met : List Nm}, dupN r met = none → r.Nodup ∧ ∀ s ∈ r, s ∉ met
 | [], _, _ => ⟨List.nodup_nil, fun s hs => by cases hs⟩
 | s :: r, met, h => by
  simp only [dupN] at h
  split at h
  ·cases h
  ·rename_i hc
   obtain ⟨h1, h2⟩ := dupN_none h
   refine ⟨List.nodup_cons.2 ⟨fun hs => h2 s hs (by simp), h1⟩, fun t ht => ?_⟩
   rcases List.mem_cons.1 ht with rfl | ht
   ·intro hm; exact hc (List.contains_iff_mem.2 hm)
   ·intro hm; exact h2 t ht (List.mem_append_left _ hm)

theorem ix_nodup {l : List T36} : ∀ {r : List Nm}, (∀ t ∈ r, (fd l t).isSome) → r.Nodup → (r.map (ix l)).Nodup
 | [], _, _ => List.nodup_nil
 | s :: r, hf, h => by
  rw [List.nodup_cons] at h
  rw [List.map_cons, List.nodup_cons]
  refine ⟨fun hm => ?_, ix_nodup (fun t ht => hf t (List.mem_cons_of_mem _ ht)) h.2⟩
  obtain ⟨t, ht, he⟩ := List.mem_map.1 hm
  have h1 := (ix_of (hf s (List.mem_cons_self ..))).1
  have h2 := (ix_of (hf t (List.mem_cons_of_mem _ ht))).1
  rw [he] at h2
  have := fd_inj h1 h2
  subst this
  exact h.1 ht

theorem f39_blocks (l : List T36) (b : List (List Nm)) (h : Vs l) (hbl : b.length ≤ 500) (hbe : ∀ x ∈ b, x.length ≤ 500) (hfound : ∀ t ∈ b.flatten, (fd l t).isSome) (hnd : (b.flatten.map (ix l)).Nodup) (s : LS) (hs : Ls l.length s) (hfr : Fr l.length [] s) :
  iter (fun x => f39_b3 l b x.1 x.2.1 x.2.2) ((0 : Int), s.1, s.2) = some (Out.go (allB l b s)) := by
 have key := iter_listJ b (small_max (by omega)) (fun (x : Int × LS) => f39_b3 l b x.1 x.2.1 x.2.2)
  (fun r _ x => (Out.go (allB l r x) : Out ((Option T84) × (List UInt8) × Bool) (List Int × List Int)))
  (fun i x => Ls l.length x ∧ Fr l.length ((b.take i).flatten.map (ix l)) x) (fun i x r st hI hi hx hd => by
   obtain ⟨h3, h4⟩ := hI
   have hd1 : decide ((i : Int) < (b.length : Int)) = true := by simpa using hi
   have hsplit : b = b.take i ++ x :: r := by rw [← hd, List.take_append_drop]
   have htake : b.take (i + 1) = b.take i ++ [x] := by
    rw [List.take_succ_eq_append_getElem hi, ← hx, getD_lt hi]
   have hnd2 : ((b.take i).flatten.map (ix l) ++ (x.map (ix l) ++ r.flatten.map (ix l))).Nodup := by
    have := hnd
    rw [hsplit] at this
    simpa using this
   obtain ⟨_, n2, n3⟩ := List.nodup_append.1 hnd2
   obtain ⟨n4, _, _⟩ := List.nodup_append.1 n2
   obtain ⟨e1, e2⟩ := f39_block l b h hbe hfound i hi st h3 _ h4 ⟨by rw [hx]; exact n4, fun t ht hm => by
    rw [hx] at ht
    exact n3 _ hm _ (List.mem_append_left _ (List.mem_map_of_mem ht)) rfl⟩
   right
   refine ⟨blkB l x st, ?_, ⟨blkB_ls x h3, ?_⟩, rfl⟩
   ·simp only [f39_b3, hd1, cond_true]
    rw [e1, hx]
    rfl
   ·rw [hx] at e2
    refine e2.mono fun y hy => ?_
    rw [htake]
    simp only [List.flatten_append, List.flatten_cons, List.flatten_nil, List.append_nil, List.map_append, List.mem_append] at hy ⊢
    exact hy.symm) (fun st hI => by simp only [f39_b3, show decide ((b.length : Int) < (b.length : Int)) = false from by simp, cond_false, allB, List.foldl_nil]) 0 (Nat.zero_le _) s ⟨hs, by simpa using hfr⟩
 exact key

/-! ### Equivalences -/

def pu (l : List T36) (p : T34) : Int := w64 (p.f1 * (l.getD (ix l p.f0) default).f1)

def dE (l : List T36) (p q : T34) : Int := pu l p - pu l q

def tiesE (l : List T36) (p : T34) : List T34 → LS → Option T34 × LS
 | [], s => (none, s)
 | q :: r, s => match tie (ix l p.f0) (ix l q.f0) (dE l p q) s with
  | (true, s') => tiesE l p r s'
  | (false, s') => (some q, s')

def eqE (l : List T36) : List T34 → LS → Option T34 × LS
 | [], s => (none, s)
 | p :: r, s => tiesE l p r s

def allE (l : List T36) : List (List T34) → LS → Option T34 × LS
 | [], s => (none, s)
 | e :: r, s => match eqE l e s with
  | (some q, s') => (some q, s')
  | (none, s') => allE l r s'

theorem tiesE_ls {l : List T36} {n : Nat} {p : T34} : ∀ (r : List T34) (s : LS), Ls n s → Ls n (tiesE l p r s).2
 | [], _, h => h
 | q :: r, s, h => by
  have ht := h.tie (ix l p.f0) (ix l q.f0) (dE l p q)
  simp only [tiesE]
  cases hq : tie (ix l p.f0) (ix l q.f0) (dE l p q) s with
  | mk b s' =>
   rw [hq] at ht
   cases b with
   | true => exact tiesE_ls r s' ht
   | false => exact ht

theorem eqE_ls {l : List T36} {n : Nat} (e : List T34) {s : LS} (h : Ls n s) : Ls n (eqE l e s).2 := by
 cases e with
 | nil => exact h
 | cons p r => exact tiesE_ls r s h

theorem allE_ls {l : List T36} {n : Nat} : ∀ (es : List (List T34)) {s : LS}, Ls n s → Ls n (allE l es s).2
 | [], _, h => h
 | e :: es, s, h => by
  have := eqE_ls (l := l) e h
  simp only [allE]
  cases hq : eqE l e s with
  | mk b s' =>
   rw [hq] at this
   cases b with
   | some q => exact this
   | none => exact allE_ls es this

/-- Places that are there. -/
def Pl (l : List T36) (p : T34) : Prop := (fd l p.f0).isSome = true ∧ 0 ≤ pu l p ∧ pu l p ≤ 4000

theorem pl_of {l : List T36} (ha : are l = true) {p : T34} (h : isPl l p = true) : Pl l p := by
 obtain ⟨i, h1, h2, h3, h4⟩ := isPl_iff h
 obtain ⟨_, hok⟩ := are_ok ha
 obtain ⟨k1, k2, k3⟩ := hok _ (getD_mem h2)
 have e : ix l p.f0 = i := by simp [ix, h1]
 have hb : 0 ≤ p.f1 * (l.getD i default).f1 ∧ p.f1 * (l.getD i default).f1 ≤ 4000 := by rcases k1 with h | h | h <;> rw [h] <;> omega
 refine ⟨by rw [h1]; rfl, ?_⟩
 unfold pu
 rw [e, w64_id (by omega) (by omega)]
 exact hb

theorem f24_eq1 (l : List T36) (e : List (List T34)) (h : Vs l) (hee : ∀ x ∈ e, x.length ≤ 500) (hpl : ∀ x ∈ e, ∀ p ∈ x, Pl l p) (k : Nat) (hk : k < e.length) (s : LS) (hs : Ls l.length s) :
  iter (fun x => f24_b4 l e (k : Int) x.1 x.2.1 x.2.2.1 x.2.2.2) ((1 : Int), l, s.1, s.2) = some (match eqE l (e.getD k default) s with | (some q, _) => Out.ret (none, q.f0, (110 : Int)) | (none, s') => Out.go (l, s')) := by
 have hlen := hee _ (getD_mem hk)
 have hp := hpl _ (getD_mem hk)
 cases heq : e.getD k default with
 | nil =>
  refine iter_inr ?_
  have hd : decide ((1 : Int) < (((e.getD k default).length : Nat) : Int)) = false := by rw [heq]; rfl
  simp only [f24_b4, Int.toNat_natCast, hd, cond_false, eqE]
 | cons p r =>
  have h0 : (e.getD k default).getD 0 default = p := by rw [heq]; rfl
  have key := iter_listJ (e.getD k default) (small_max (by omega)) (fun (x : Int × List T36 × LS) => f24_b4 l e (k : Int) x.1 x.2.1 x.2.2.1 x.2.2.2)
   (fun r i x => (match tiesE l p r x.2 with | (some q, _) => Out.ret (none, q.f0, (110 : Int)) | (none, s') => Out.go (l, s') : Out ((Option T57) × (List UInt8) × Int) (List T36 × List Int × List Int)))
   (fun i x => 1 ≤ i ∧ x.1 = l ∧ Ls l.length x.2) (fun i x r st hI hi hx hd => by
    obtain ⟨h1, h2, h3⟩ := hI
    obtain ⟨v, st⟩ := st
    simp only at h2 h3
    subst h2
    have hxm : x ∈ e.getD k default := by rw [← hx]; exact getD_mem hi
    have hpm : p ∈ e.getD k default := by rw [heq]; exact List.mem_cons_self ..
    obtain ⟨p1, p2⟩ := ix_of (hp p hpm).1
    obtain ⟨x1, x2⟩ := ix_of (hp x hxm).1
    have hd1 : decide ((i : Int) < ((e.getD k default).length : Int)) = true := by simpa using hi
    have g1 : (0 : Int) < ((e.getD k default).length : Int) ∧ (0 : Int) ≤ i ∧ (i : Int) < ((e.getD k default).length : Int) := by omega
    have g2 : (0 : Int) < ((e.getD k default).length : Int) ∧ (0 : Int) ≤ ((ix v p.f0 : Nat) : Int) ∧ ((ix v p.f0 : Nat) : Int) < (v.length : Int) ∧ (0 : Int) ≤ i ∧ (i : Int) < ((e.getD k default).length : Int) ∧ (0 : Int) ≤ ((ix v x.f0 : Nat) : Int) ∧ ((ix v x.f0 : Nat) : Int) < (v.length : Int) := by omega
    have g3 : (0 : Int) ≤ i ∧ (i : Int) < ((e.getD k default).length : Int) := by omega
    have step : f24_b4 v e (k : Int) (i : Int) v st.1 st.2 = cond (!(tie (ix v p.f0) (ix v x.f0) (dE v p x) st).1) (some (.inr (.ret (none, x.f0, (110 : Int))))) (some (.inl (w64 ((i : Int) + 1), v, (tie (ix v p.f0) (ix v x.f0) (dE v p x) st).2.1, (tie (ix v p.f0) (ix v x.f0) (dE v p x) st).2.2))) := by
     simp only [f24_b4, Int.toNat_natCast, hd1, cond_true, if_pos g1, if_pos g2, if_pos g3, f34_eq v h.len, h0, hx, p1, x1, idx, Option.bind_some]
     rw [show w64 (p.f1 * (v.getD (ix v p.f0) default).f1) = pu v p from rfl, show w64 (x.f1 * (v.getD (ix v x.f0) default).f1) = pu v x from rfl, f36o_eq v h.len st h3 _ _ p2 x2, Option.bind_some]
     rfl
    have ht := h3.tie (ix v p.f0) (ix v x.f0) (dE v p x)
    show f24_b4 v e (k : Int) (i : Int) v st.1 st.2 = _ ∨ ∃ b', f24_b4 v e (k : Int) (i : Int) v st.1 st.2 = _ ∧ _
    rw [step]
    simp only [tiesE]
    cases hq : tie (ix v p.f0) (ix v x.f0) (dE v p x) st with
    | mk b st' =>
     rw [hq] at ht
     cases b with
     | true => right; exact ⟨(v, st'), rfl, ⟨by omega, rfl, ht⟩, rfl⟩
     | false => left; rfl) (fun st hI => by
    have hd : decide ((((e.getD k default).length : Nat) : Int) < (((e.getD k default).length : Nat) : Int)) = false := by simp
    simp only [f24_b4, Int.toNat_natCast, hd, cond_false, tiesE]; rw [hI.2.1]) 1 (by rw [heq]; simp) (l, s) ⟨Nat.le_refl _, rfl, hs⟩
  rw [show (((1 : Nat) : Int), l, s) = ((1 : Int), l, s.1, s.2) from rfl] at key
  rw [key, heq]
  rfl

theorem f24_eqs (l : List T36) (e : List (List T34)) (h : Vs l) (hel : e.length ≤ 500) (hee : ∀ x ∈ e, x.length ≤ 500) (hpl : ∀ x ∈ e, ∀ p ∈ x, Pl l p) (s : LS) (hs : Ls l.length s) :
  iter (fun x => f24_b5 l e x.1 x.2.1 x.2.2.1 x.2.2.2) ((0 : Int), l, s.1, s.2) = some (match allE l e s with | (some q, _) => Out.ret (none, q.f0, (110 : Int)) | (none, s') => Out.go (l, s')) := by
 have key := iter_listJ e (small_max (by omega)) (fun (x : Int × List T36 × LS) => f24_b5 l e x.1 x.2.1 x.2.2.1 x.2.2.2)
  (fun r _ x => (match allE l r x.2 with | (some q, _) => Out.ret (none, q.f0, (110 : Int)) | (none, s') => Out.go (l, s') : Out ((Option T57) × (List UInt8) × Int) (List T36 × List Int × List Int)))
  (fun _ x => x.1 = l ∧ Ls l.length x.2) (fun i x r st hI hi hx hd => by
   obtain ⟨h2, h3⟩ := hI
   obtain ⟨v, st⟩ := st
   simp only at h2 h3
   subst h2
   have hd1 : decide ((i : Int) < (e.length : Int)) = true := by simpa using hi
   have g1 : (0 : Int) ≤ i ∧ (i : Int) < (e.length : Int) := by omega
   have ht := eqE_ls (l := v) x h3
   simp only [f24_b5, hd1, cond_true, if_pos g1]
   rw [f24_eq1 v e h hee hpl i hi st h3, hx]
   simp only [allE]
   cases hq : eqE v x st with
   | mk b st' =>
    rw [hq] at ht
    cases b with
    | some q => left; rfl
    | none => right; exact ⟨(v, st'), rfl, ⟨rfl, ht⟩, rfl⟩) (fun st hI => by simp only [f24_b5, show decide ((e.length : Int) < (e.length : Int)) = false from by simp, cond_false, allE]; rw [hI.1]) 0 (Nat.zero_le _) (l, s) ⟨rfl, hs⟩
 exact key

theorem f39_eq1 (l : List T36) (e : List (List T34)) (h : Vs l) (hee : ∀ x ∈ e, x.length ≤ 500) (hpl : ∀ x ∈ e, ∀ p ∈ x, Pl l p) (k : Nat) (hk : k < e.length) (s : LS) (hs : Ls l.length s) :
  iter (fun x => f39_b4 l e (k : Int) x.1 x.2.1 x.2.2) ((1 : Int), s.1, s.2) = some (match eqE l (e.getD k default) s with | (some q, _) => Out.ret (none, q.f0, false) | (none, s') => Out.go s') := by
 have hlen := hee _ (getD_mem hk)
 have hp := hpl _ (getD_mem hk)
 have hk' : (0 : Int) ≤ k ∧ (k : Int) < (e.length : Int) := by omega
 cases heq : e.getD k default with
 | nil =>
  refine iter_inr ?_
  have hd : decide ((1 : Int) < (((e.getD k default).length : Nat) : Int)) = false := by rw [heq]; rfl
  simp only [f39_b4, Int.toNat_natCast, hd, cond_false, eqE, if_pos hk']
 | cons p r =>
  have h0 : (e.getD k default).getD 0 default = p := by rw [heq]; rfl
  have key := iter_listJ (e.getD k default) (small_max (by omega)) (fun (x : Int × LS) => f39_b4 l e (k : Int) x.1 x.2.1 x.2.2)
   (fun r i x => (match tiesE l p r x with | (some q, _) => Out.ret (none, q.f0, false) | (none, s') => Out.go s' : Out ((Option T84) × (List UInt8) × Bool) (List Int × List Int)))
   (fun i x => 1 ≤ i ∧ Ls l.length x) (fun i x r st hI hi hx hd => by
    obtain ⟨h1, h3⟩ := hI
    have hxm : x ∈ e.getD k default := by rw [← hx]; exact getD_mem hi
    have hpm : p ∈ e.getD k default := by rw [heq]; exact List.mem_cons_self ..
    obtain ⟨p1, p2⟩ := ix_of (hp p hpm).1
    obtain ⟨x1, x2⟩ := ix_of (hp x hxm).1
    have hd1 : decide ((i : Int) < ((e.getD k default).length : Int)) = true := by simpa using hi
    have g1 : (0 : Int) ≤ k ∧ (k : Int) < (e.length : Int) ∧ (0 : Int) < ((e.getD k default).length : Int) ∧ (0 : Int) ≤ k ∧ (k : Int) < (e.length : Int) ∧ (0 : Int) ≤ i ∧ (i : Int) < ((e.getD k default).length : Int) := by omega
    have g2 : (0 : Int) ≤ ((ix l p.f0 : Nat) : Int) ∧ ((ix l p.f0 : Nat) : Int) < (l.length : Int) ∧ (0 : Int) ≤ ((ix l x.f0 : Nat) : Int) ∧ ((ix l x.f0 : Nat) : Int) < (l.length : Int) := by omega
    have b1 := (hp p hpm).2
    have b2 := (hp x hxm).2
    have ed : w64 (pu l p - pu l x) = dE l p x := w64_id (by omega) (by omega)
    have step : f39_b4 l e (k : Int) (i : Int) st.1 st.2 = cond (!(tie (ix l p.f0) (ix l x.f0) (dE l p x) st).1) (some (.inr (.ret (none, x.f0, false)))) (some (.inl (w64 ((i : Int) + 1), (tie (ix l p.f0) (ix l x.f0) (dE l p x) st).2.1, (tie (ix l p.f0) (ix l x.f0) (dE l p x) st).2.2))) := by
     simp only [f39_b4, Int.toNat_natCast, hd1, cond_true, if_pos hk', if_pos g1, if_pos g2, f33_eq l h.len, h0, hx, p1, x1, idx, Option.bind_some]
     rw [show w64 (p.f1 * (l.getD (ix l p.f0) default).f1) = pu l p from rfl, show w64 (x.f1 * (l.getD (ix l x.f0) default).f1) = pu l x from rfl, ed, f50o_eq l.length h.len st h3 _ _ p2 x2 (dE l p x) (by rw [← ed]; exact w64_range _), Option.bind_some]
    have ht := h3.tie (ix l p.f0) (ix l x.f0) (dE l p x)
    show f39_b4 l e (k : Int) (i : Int) st.1 st.2 = _ ∨ ∃ b', f39_b4 l e (k : Int) (i : Int) st.1 st.2 = _ ∧ _
    rw [step]
    simp only [tiesE]
    cases hq : tie (ix l p.f0) (ix l x.f0) (dE l p x) st with
    | mk b st' =>
     rw [hq] at ht
     cases b with
     | true => right; exact ⟨st', rfl, ⟨by omega, ht⟩, rfl⟩
     | false => left; rfl) (fun st hI => by
    have hd : decide ((((e.getD k default).length : Nat) : Int) < (((e.getD k default).length : Nat) : Int)) = false := by simp
    simp only [f39_b4, Int.toNat_natCast, hd, cond_false, tiesE, if_pos hk']) 1 (by rw [heq]; simp) s ⟨Nat.le_refl _, hs⟩
  rw [show (((1 : Nat) : Int), s) = ((1 : Int), s.1, s.2) from rfl] at key
  rw [key, heq]
  rfl

theorem f39_eqs (l : List T36) (e : List (List T34)) (h : Vs l) (hel : e.length ≤ 500) (hee : ∀ x ∈ e, x.length ≤ 500) (hpl : ∀ x ∈ e, ∀ p ∈ x, Pl l p) (s : LS) (hs : Ls l.length s) :
  iter (fun x => f39_b5 l e x.1 x.2.1 x.2.2) ((0 : Int), s.1, s.2) = some (match allE l e s with | (some q, _) => Out.ret (none, q.f0, false) | (none, s') => Out.go s') := by
 have key := iter_listJ e (small_max (by omega)) (fun (x : Int × LS) => f39_b5 l e x.1 x.2.1 x.2.2)
  (fun r _ x => (match allE l r x with | (some q, _) => Out.ret (none, q.f0, false) | (none, s') => Out.go s' : Out ((Option T84) × (List UInt8) × Bool) (List Int × List Int)))
  (fun _ x => Ls l.length x) (fun i x r st h3 hi hx hd => by
   have hd1 : decide ((i : Int) < (e.length : Int)) = true := by simpa using hi
   have ht := eqE_ls (l := l) x h3
   simp only [f39_b5, hd1, cond_true]
   rw [f39_eq1 l e h hee hpl i hi st h3, hx]
   simp only [allE]
   cases hq : eqE l x st with
   | mk b st' =>
    rw [hq] at ht
    cases b with
    | some q => left; rfl
    | none => right; exact ⟨st', rfl, ht, rfl⟩) (fun st hI => by simp only [f39_b5, show decide ((e.length : Int) < (e.length : Int)) = false from by simp, cond_false, allE]) 0 (Nat.zero_le _) s hs
 exact key

/-! ### The beginning -/

def start (n : Nat) : LS := ((List.range n).map fun i : Nat => (i : Int), List.replicate n 0)

theorem start_ls (n : Nat) : Ls n (start n) := ⟨by simp [start], by simp [start]⟩

theorem start_gr {n i : Nat} (h : i < n) : gr (start n) i = (i : Int) := by
 unfold gr start
 rw [getD_lt (by simpa using h)]
 simp

theorem start_of {n i : Nat} : of (start n) i = 0 := by
 unfold of start
 simp only [List.getD_eq_getElem?_getD, List.getElem?_replicate]
 split <;> rfl

theorem start_fr (n : Nat) : Fr n [] (start n) := fun j hj _ => ⟨start_gr hj, fun i hi hij => by rw [start_gr hi]; omega⟩

theorem range_succ_map (k : Nat) : (List.range (k + 1)).map (fun i : Nat => (i : Int)) = (List.range k).map (fun i : Nat => (i : Int)) ++ [(k : Int)] := by
 rw [List.range_succ, List.map_append]; rfl

theorem f24_start (l : List T36) (h : l.length ≤ 60) : iter (fun s => f24_b1 l s.1 s.2) ((0 : Int), []) = some (Out.go (start l.length).1) := by
 have key := iter_listJ l (small_max (by omega)) (fun (x : Int × List Int) => f24_b1 l x.1 x.2) (fun _ _ _ => (Out.go (start l.length).1 : Out ((Option T57) × (List UInt8) × Int) (List Int)))
  (fun i x => x = (List.range i).map fun i : Nat => (i : Int)) (fun i x r st hI hi hx hd => by
   right
   subst hI
   refine ⟨(List.range (i + 1)).map fun i : Nat => (i : Int), ?_, rfl, rfl⟩
   have hb : (((List.range i).map fun i : Nat => (i : Int)).length + [(i : Int)].length) * 8 ≤ 140737488355328 := by simp; omega
   simp only [f24_b1, show decide ((i : Int) < (l.length : Int)) = true from by simpa using hi, cond_true, if_pos hb, range_succ_map]) (fun st hI => by
   subst hI
   simp only [f24_b1, show decide ((l.length : Int) < (l.length : Int)) = false from by simp, cond_false]; rfl) 0 (Nat.zero_le _) [] rfl
 exact key

theorem replicate_succ' (k : Nat) : List.replicate (k + 1) (0 : Int) = List.replicate k 0 ++ [0] := by
 rw [List.replicate_succ']

theorem f39_start (l : List T36) (h : l.length ≤ 60) : iter (fun s => f39_b1 l s.1 s.2.1 s.2.2) ((0 : Int), [], []) = some (Out.go (start l.length)) := by
 have key := iter_listJ l (small_max (by omega)) (fun (x : Int × LS) => f39_b1 l x.1 x.2.1 x.2.2) (fun _ _ _ => (Out.go (start l.length) : Out ((Option T84) × (List UInt8) × Bool) (List Int × List Int)))
  (fun i x => x = start i) (fun i x r st hI hi hx hd => by
   right
   subst hI
   refine ⟨start (i + 1), ?_, rfl, rfl⟩
   have hb : ((start i).1.length + [(i : Int)].length) * 8 ≤ 140737488355328 := by simp [start]; omega
   have hb2 : ((start i).2.length + [(0 : Int)].length) * 8 ≤ 140737488355328 := by simp [start]; omega
   simp only [f39_b1, show decide ((i : Int) < (l.length : Int)) = true from by simpa using hi, cond_true, if_pos hb, if_pos hb2]
   simp only [start, range_succ_map, replicate_succ']) (fun st hI => by
   subst hI
   simp only [f39_b1, show decide ((l.length : Int) < (l.length : Int)) = false from by simp, cond_false]) 0 (Nat.zero_le _) (start 0) rfl
 exact key

end Go.Sx.sto

namespace Go.Sx.sto
open Go Go.Sx

/-- Over a list, by its index, which stands anywhere in the state. -/
theorem iter_listG {A B S X : Type} [Inhabited A] (mk : Int → B → S) (l : List A) (hl : l.length ≤ maxLen) (body : S → Option (S ⊕ X)) (F : List A → Nat → B → X) (I : Nat → B → Prop)
  (hs : ∀ (i : Nat) (x : A) (r : List A) (b : B), I i b → i < l.length → l.getD i default = x → l.drop i = x :: r → (body (mk i b) = some (.inr (F (x :: r) i b))) ∨ ∃ b', body (mk i b) = some (.inl (mk (w64 ((i : Int) + 1)) b')) ∧ I (i + 1) b' ∧ F (x :: r) i b = F r (i + 1) b')
  (he : ∀ b, I l.length b → body (mk l.length b) = some (.inr (F [] l.length b))) (b0 : B) (h0 : I 0 b0) : iter body (mk 0 b0) = some (F l 0 b0) := by
 have key : ∀ n i b, i + n = l.length → I i b → iter body (mk (i : Int) b) = some (F (l.drop i) i b) := by
  intro n
  induction n with
  | zero =>
   intro i b hi hI
   obtain rfl : i = l.length := by omega
   rw [iter_inr (he b hI), List.drop_length]
  | succ n ih =>
   intro i b hi hI
   have hlt : i < l.length := by omega
   have hd : l.drop i = l[i] :: l.drop (i + 1) := List.drop_eq_getElem_cons hlt
   rcases hs i l[i] (l.drop (i + 1)) b hI hlt (by simp [List.getD_eq_getElem?_getD, hlt]) hd with hb | ⟨b', hb, hI', hF⟩
   ·rw [iter_inr hb, hd]
   ·rw [iter_inl hb, w64_succ hlt hl, hd, hF]
    exact ih (i + 1) b' (by omega) hI'
 have := key l.length 0 b0 (by omega) h0
 simpa using this

abbrev M := List (Int × Int)

theorem mget_mset : ∀ (m : M) (k v g : Int), mget (mset m k v) g = if k = g then v else mget m g
 | [], k, v, g => by
  simp only [mset, mget]
  by_cases h : k = g
  ·rw [if_pos h, beq_iff_eq.2 h]
  ·rw [if_neg h, beq_eq_false_iff_ne.2 h]
 | e :: m, k, v, g => by
  simp only [mset]
  cases hb : e.1 == k with
  | true =>
   have hk : e.1 = k := by simpa using hb
   simp only [mget]
   by_cases h : k = g
   ·rw [if_pos h, beq_iff_eq.2 h]
   ·rw [if_neg h, beq_eq_false_iff_ne.2 h, hk, beq_eq_false_iff_ne.2 h]
  | false =>
   simp only [mget]
   cases hg : e.1 == g with
   | true =>
    have h1 : e.1 = g := by simpa using hg
    have h2 : e.1 ≠ k := by simpa using hb
    rw [if_neg (fun h => h2 (by rw [h1, h]))]
   | false => exact mget_mset m k v g

theorem mhas_mset : ∀ (m : M) (k v g : Int), mhas (mset m k v) g = ((k == g) || mhas m g)
 | [], k, v, g => by
  simp only [mset, mhas]
  cases k == g <;> rfl
 | e :: m, k, v, g => by
  simp only [mset]
  cases hb : e.1 == k with
  | true =>
   have hk : e.1 = k := by simpa using hb
   simp only [mhas, hk]
   cases k == g <;> rfl
  | false =>
   simp only [mhas]
   cases hg : e.1 == g with
   | true => simp
   | false => exact mhas_mset m k v g

/-- The blocks' groups, and where these begin; or the first block whose group another one has. -/
def bdm (l : List T36) (s : LS) : List (List Nm) → M × M → Option Nm × (M × M)
 | [], m => (none, m)
 | [] :: r, m => bdm l s r m
 | (p :: _) :: r, m => match mhas m.1 (gr s (ix l p)) with
  | true => (some p, m)
  | false => bdm l s r (mset m.1 (gr s (ix l p)) (of s (ix l p)), mset m.2 (gr s (ix l p)) 1)

def Agree (m : M × M) : Prop := ∀ g, (mget m.2 g != 0) = mhas m.1 g

theorem Agree.set {m : M × M} (h : Agree m) (k v : Int) : Agree (mset m.1 k v, mset m.2 k 1) := fun g => by
 rw [mget_mset, mhas_mset]
 by_cases e : k = g
 ·rw [if_pos e, beq_iff_eq.2 e]; rfl
 ·rw [if_neg e, beq_eq_false_iff_ne.2 e, Bool.false_or]; exact h g

theorem bdm_agree {l : List T36} {s : LS} : ∀ (b : List (List Nm)) {m : M × M}, Agree m → Agree (bdm l s b m).2
 | [], _, h => h
 | [] :: r, _, h => bdm_agree r h
 | (p :: q) :: r, m, h => by
  simp only [bdm]
  cases mhas m.1 (gr s (ix l p)) with
  | true => exact h
  | false => exact bdm_agree r (h.set _ _)

theorem f37_blocks (l : List T36) (b : List (List Nm)) (h : Vs l) (hbl : b.length ≤ 500) (hfound : ∀ t ∈ b.flatten, (fd l t).isSome) (s : LS) (hs : Ls l.length s) :
  iter (fun x => f37o_b2 b (T57.mk l s.1 s.2) x.1 x.2.1 x.2.2) (([] : M), ([] : M), (0 : Int)) = some (match bdm l s b ([], []) with | (some p, _) => Out.ret (false, p, (110 : Int), T57.mk l s.1 s.2) | (none, m) => Out.go m) := by
 refine iter_listG (fun i (m : M × M) => (m.1, m.2, i)) b (small_max (by omega)) (fun x => f37o_b2 b (T57.mk l s.1 s.2) x.1 x.2.1 x.2.2)
  (fun r _ m => (match bdm l s r m with | (some p, _) => Out.ret (false, p, (110 : Int), T57.mk l s.1 s.2) | (none, m) => Out.go m : Out (Bool × Nm × Int × T57) (M × M)))
  (fun _ m => Agree m) (fun i x r m hI hi hx hd => ?_) (fun m _ => ?_) ([], []) (fun g => rfl)
 ·have hd1 : decide ((i : Int) < (b.length : Int)) = true := by simpa using hi
  have g1 : (0 : Int) ≤ i ∧ (i : Int) < (b.length : Int) := by omega
  cases x with
  | nil =>
   right
   refine ⟨m, ?_, hI, rfl⟩
   have e0 : ((([] : List Nm).length : Int) == 0) = true := rfl
   simp only [f37o_b2, hd1, cond_true, if_pos g1, Int.toNat_natCast, hx, e0]
   rfl
  | cons p q =>
   have hp : (fd l p).isSome := hfound p (by rw [List.mem_flatten]; exact ⟨p :: q, by rw [← hx]; exact getD_mem hi, List.mem_cons_self ..⟩)
   obtain ⟨p1, p2⟩ := ix_of hp
   have e0 : (((p :: q).length : Int) == 0) = false := beq_eq_false_iff_ne.2 (by simp only [List.length_cons]; omega)
   have g2 : (0 : Int) < ((p :: q).length : Int) := by simp only [List.length_cons]; omega
   have g3 : (0 : Int) ≤ ((ix l p : Nat) : Int) ∧ ((ix l p : Nat) : Int) < (s.1.length : Int) := by rw [hs.g]; omega
   have g4 : (0 : Int) ≤ ((ix l p : Nat) : Int) ∧ ((ix l p : Nat) : Int) < (s.2.length : Int) := by rw [hs.o]; omega
   have e1 : (p :: q).getD 0 default = p := rfl
   have e2 := hI (gr s (ix l p))
   have step : f37o_b2 b (T57.mk l s.1 s.2) m.1 m.2 (i : Int) = cond (mhas m.1 (gr s (ix l p))) (some (.inr (.ret (false, p, (110 : Int), T57.mk l s.1 s.2)))) (some (.inl (mset m.1 (gr s (ix l p)) (of s (ix l p)), mset m.2 (gr s (ix l p)) 1, w64 ((i : Int) + 1)))) := by
    rw [← e2]
    simp only [f37o_b2, f37o_j1, hd1, cond_true, if_pos g1, Int.toNat_natCast, hx, e0, cond_false, if_pos g2, f34_eq l h.len, e1, p1, idx, Option.bind_some, if_pos g3, if_pos g4]
   show f37o_b2 b (T57.mk l s.1 s.2) m.1 m.2 (i : Int) = _ ∨ ∃ b', f37o_b2 b (T57.mk l s.1 s.2) m.1 m.2 (i : Int) = _ ∧ _
   rw [step]
   simp only [bdm]
   cases hm : mhas m.1 (gr s (ix l p)) with
   | true => left; rfl
   | false => right; exact ⟨(mset m.1 (gr s (ix l p)) (of s (ix l p)), mset m.2 (gr s (ix l p)) 1), rfl, hI.set _ _, rfl⟩
 ·simp only [f37o_b2, show decide ((b.length : Int) < (b.length : Int)) = false from by simp, cond_false, bdm]

/-- The least offset of each group that no block has. -/
def mnF (s : LS) (blk : M) : Nat → Nat → M → M
 | 0, _, m => m
 | n + 1, i, m => mnF s blk n (i + 1) (match mget blk (gr s i) != 0 with
  | true => m
  | false => match !mhas m (gr s i) || decide (of s i < mget m (gr s i)) with
   | true => mset m (gr s i) (of s i)
   | false => m)

theorem f37_least (l : List T36) (n : Nat) (hn : n ≤ maxLen) (s : LS) (hs : Ls n s) (blk m0 : M) :
  iter (fun x => f37o_b4 (T57.mk l s.1 s.2) blk x.1 x.2) (m0, (0 : Int)) = some (Out.go (mnF s blk n 0 m0)) := by
 have key := iter_listG (fun i (m : M) => (m, i)) s.1 (by rw [hs.g]; exact hn) (fun x => f37o_b4 (T57.mk l s.1 s.2) blk x.1 x.2)
  (fun r i m => (Out.go (mnF s blk r.length i m) : Out (Bool × Nm × Int × T57) M))
  (fun _ _ => True) (fun i x r m hI hi hx hd => by
   have hd1 : decide ((i : Int) < (s.1.length : Int)) = true := by simpa using hi
   have g1 : (0 : Int) ≤ i ∧ (i : Int) < (s.1.length : Int) := by omega
   have g2 : (0 : Int) ≤ i ∧ (i : Int) < (s.2.length : Int) := by rw [hs.o]; have := hs.g; omega
   right
   refine ⟨_, ?_, trivial, rfl⟩
   simp only [f37o_b4, f37o_j3, hd1, cond_true, if_pos g1, if_pos g2, Int.toNat_natCast, cond_or, Option.bind_some]
   cases hb : mget blk (gr s i) != 0 with
   | true => simp only [Bool.not_true, cond_false]
   | false =>
    simp only [Bool.not_false, cond_true]
    cases hc : !mhas m (gr s i) || decide (of s i < mget m (gr s i)) <;> rfl) (fun m _ => by
   simp only [f37o_b4, show decide ((s.1.length : Int) < (s.1.length : Int)) = false from by simp, cond_false, List.length_nil, mnF]) m0 trivial
 rw [hs.g] at key
 exact key

/-- Where a variable lies in its group. -/
def val (s : LS) (m : M) (i : Nat) : Int := w64 (of s i - mget m (gr s i))

def adjF (s : LS) (m : M) : Nat → Nat → List Int → Option Nat × List Int
 | 0, _, o => (none, o)
 | n + 1, i, o => match decide (val s m i < 0) with
  | true => (some i, o.set i (val s m i))
  | false => adjF s m n (i + 1) (o.set i (val s m i))

theorem f37_adj (l : List T36) (hl : l.length ≤ maxLen) (s : LS) (hs : Ls l.length s) (m : M) :
  iter (fun x => f37o_b5 (T57.mk l s.1 s.2) m x.1 x.2) ((0 : Int), s.2) = some (match adjF s m l.length 0 s.2 with | (some i, o) => Out.ret (false, (l.getD i default).f0, (10 : Int), T57.mk l s.1 o) | (none, o) => Out.go o) := by
 have key := iter_listG (fun i (o : List Int) => (i, o)) s.1 (by rw [hs.g]; exact hl) (fun x => f37o_b5 (T57.mk l s.1 s.2) m x.1 x.2)
  (fun r i o => (match adjF s m r.length i o with | (some i, o) => Out.ret (false, (l.getD i default).f0, (10 : Int), T57.mk l s.1 o) | (none, o) => Out.go o : Out (Bool × Nm × Int × T57) (List Int)))
  (fun i o => o.length = l.length ∧ ∀ j, i ≤ j → o.getD j default = of s j) (fun i x r o ⟨hI, hJ⟩ hi hx hd => by
   have hd1 : decide ((i : Int) < (s.1.length : Int)) = true := by simpa using hi
   have hg := hs.g
   have g1 : (0 : Int) ≤ i ∧ (i : Int) < (s.1.length : Int) := by omega
   have g2 : (0 : Int) ≤ i ∧ (i : Int) < (o.length : Int) := by omega
   have g3 : (0 : Int) ≤ i ∧ (i : Int) < (l.length : Int) := by omega
   have e1 : w64 (o.getD i default - mget m (gr s i)) = val s m i := by rw [hJ i (Nat.le_refl _)]; rfl
   have g4 : (0 : Int) ≤ i ∧ (i : Int) < ((o.set i (val s m i)).length : Int) := by rw [List.length_set]; omega
   have e2 : (o.set i (val s m i)).getD i default = val s m i := by rw [getD_set (by omega), if_pos rfl]
   have step : f37o_b5 (T57.mk l s.1 s.2) m (i : Int) o = cond (decide (val s m i < 0)) (some (.inr (.ret (false, (l.getD i default).f0, (10 : Int), T57.mk l s.1 (o.set i (val s m i)))))) (some (.inl (w64 ((i : Int) + 1), o.set i (val s m i)))) := by
    have e1' : w64 (o.getD i default - mget m (s.1.getD i default)) = val s m i := e1
    simp only [f37o_b5, hd1, cond_true, if_pos g1, if_pos g2, Int.toNat_natCast, e1', if_pos g4, e2, if_pos g3]
   show f37o_b5 (T57.mk l s.1 s.2) m (i : Int) o = _ ∨ ∃ b', f37o_b5 (T57.mk l s.1 s.2) m (i : Int) o = _ ∧ _
   rw [step]
   simp only [List.length_cons, adjF]
   cases hc : decide (val s m i < 0) with
   | true => left; rfl
   | false =>
    right
    refine ⟨o.set i (val s m i), rfl, ⟨by simpa using hI, fun j hj => ?_⟩, rfl⟩
    rw [getD_set (by omega), if_neg (by omega)]
    exact hJ j (by omega)) (fun o _ => by
   simp only [f37o_b5, show decide ((s.1.length : Int) < (s.1.length : Int)) = false from by simp, cond_false, List.length_nil, adjF]) s.2 ⟨hs.o, fun _ _ => rfl⟩
 rw [hs.g] at key
 exact key

/-- All of the settling. -/
def sett (l : List T36) (b : List (List Nm)) (s : LS) : Bool × Nm × Int × T57 :=
 match bdm l s b ([], []) with
 | (some p, _) => (false, p, 110, T57.mk l s.1 s.2)
 | (none, m) => match adjF s (mnF s m.2 l.length 0 m.1) l.length 0 s.2 with
  | (some i, o) => (false, (l.getD i default).f0, 10, T57.mk l s.1 o)
  | (none, o) => (true, [], 0, T57.mk l s.1 o)

theorem f37_eq (l : List T36) (b : List (List Nm)) (h : Vs l) (hbl : b.length ≤ 500) (hfound : ∀ t ∈ b.flatten, (fd l t).isSome) (s : LS) (hs : Ls l.length s) :
  f37o b (T57.mk l s.1 s.2) = some (sett l b s) := by
 unfold f37o sett
 rw [f37_blocks l b h hbl hfound s hs]
 cases bdm l s b ([], []) with
 | mk o m =>
  cases o with
  | some p => rfl
  | none =>
   simp only [Option.bind_some]
   rw [f37_least l l.length h.len s hs m.2 m.1]
   simp only [Option.bind_some]
   rw [f37_adj l h.len s hs]
   cases adjF s (mnF s m.2 l.length 0 m.1) l.length 0 s.2 with
   | mk o2 o3 => cases o2 <;> rfl

end Go.Sx.sto

namespace Go.Sx.sto
open Go Go.Sx

theorem f9_some (l : List T36) (e : List (List T34)) (b : List (List Nm)) (he : e.length ≤ maxLen) (hb : b.length ≤ maxLen) : ∃ v, f9 l e b = some v := by
 unfold f9
 have h1 : ∀ n : Int, ∃ v, iter (fun s => f9_b1 e s.1 s.2) (n, (0 : Int)) = some (Out.go v) := fun n => by
  have := iter_listI e he (fun s => f9_b1 e s.1 s.2) (fun r i n => (Out.go (r.foldl (fun n x => if n ≤ 500 then w64 (n + (x.length : Int)) else n) n) : Out Bool Int)) (fun _ _ => True) (fun i x r n _ hi hx hd => by
   have hd1 : decide ((i : Int) < (e.length : Int)) = true := by simpa using hi
   have g1 : (0 : Int) ≤ i ∧ (i : Int) < (e.length : Int) := by omega
   by_cases hn : n ≤ 500
   ·right
    refine ⟨w64 (n + (x.length : Int)), ?_, trivial, ?_⟩
    ·simp only [f9_b1, hd1, cond_true, decide_eq_true hn, Option.bind_some, if_pos g1, Int.toNat_natCast, hx]
    ·simp only [List.foldl_cons, if_pos hn]
   ·left
    have hf : ∀ r : List (List T34), r.foldl (fun n x => if n ≤ 500 then w64 (n + (x.length : Int)) else n) n = n := fun r => by
     induction r with
     | nil => rfl
     | cons y r ih => simp only [List.foldl_cons, if_neg hn]; exact ih
    simp only [f9_b1, hd1, cond_true, decide_eq_false hn, Option.bind_some, cond_false, hf]) (fun n _ => by
   simp only [f9_b1, show decide ((e.length : Int) < (e.length : Int)) = false from by simp, cond_false, Option.bind_some, List.foldl_nil]) n trivial
  exact ⟨_, this⟩
 have h2 : ∀ n : Int, ∃ v, iter (fun s => f9_b2 b s.1 s.2) (n, (0 : Int)) = some (Out.go v) := fun n => by
  have := iter_listI b hb (fun s => f9_b2 b s.1 s.2) (fun r i n => (Out.go (r.foldl (fun n x => if n ≤ 500 then w64 (n + (x.length : Int)) else n) n) : Out Bool Int)) (fun _ _ => True) (fun i x r n _ hi hx hd => by
   have hd1 : decide ((i : Int) < (b.length : Int)) = true := by simpa using hi
   have g1 : (0 : Int) ≤ i ∧ (i : Int) < (b.length : Int) := by omega
   by_cases hn : n ≤ 500
   ·right
    refine ⟨w64 (n + (x.length : Int)), ?_, trivial, ?_⟩
    ·simp only [f9_b2, hd1, cond_true, decide_eq_true hn, Option.bind_some, if_pos g1, Int.toNat_natCast, hx]
    ·simp only [List.foldl_cons, if_pos hn]
   ·left
    have hf : ∀ r : List (List Nm), r.foldl (fun n x => if n ≤ 500 then w64 (n + (x.length : Int)) else n) n = n := fun r => by
     induction r with
     | nil => rfl
     | cons y r ih => simp only [List.foldl_cons, if_neg hn]; exact ih
    simp only [f9_b2, hd1, cond_true, decide_eq_false hn, Option.bind_some, cond_false, hf]) (fun n _ => by
   simp only [f9_b2, show decide ((b.length : Int) < (b.length : Int)) = false from by simp, cond_false, Option.bind_some, List.foldl_nil]) n trivial
  exact ⟨_, this⟩
 obtain ⟨v, hv⟩ := h1 (w64 ((w64 ((l.length : Int) + (e.length : Int))) + (b.length : Int)))
 obtain ⟨u, hu⟩ := h2 v
 rw [hv]
 simp only [Option.bind_some]
 rw [hu]
 exact ⟨_, rfl⟩

theorem longB_le {A : Type} {l : List (List A)} (h : longB l = false) : ∀ x ∈ l, x.length ≤ 60 := fun x hx => by
 have := List.any_eq_false.1 h x hx
 simp only [decide_eq_true_eq] at this
 omega

theorem argB_iff {l : List T36} {e : List (List T34)} {b : List (List Nm)} (h : argB l e b = true) : are l = true ∧ e.length ≤ 60 ∧ b.length ≤ 60 ∧ (∀ x ∈ e, x.length ≤ 60) ∧ ∀ x ∈ b, x.length ≤ 60 := by
 simp only [argB, Bool.and_eq_true, Bool.not_eq_true', decide_eq_false_iff_not] at h
 obtain ⟨⟨⟨h1, h2⟩, h3⟩, h4, h5⟩ := h
 exact ⟨h1, by omega, by omega, longB_le h4, longB_le h5⟩

theorem argB_sm {l : List T36} {e : List (List T34)} {b : List (List Nm)} (h : argB l e b = true) : Sm e b := by
 obtain ⟨_, h2, h3, h4, h5⟩ := argB_iff h
 exact ⟨by omega, by omega, fun x hx => by have := h4 x hx; omega, fun x hx => by have := h5 x hx; omega⟩

theorem ask_bad {l : List T36} {e : List (List T34)} {b : List (List Nm)} (h : argB l e b = false) : ask l e b = ([], 2) := by
 unfold ask; rw [h]

theorem f38_any (l : List T36) (e : List (List T34)) (b : List (List Nm)) (h : Vs l) : f38 l e b = some (argB l e b) := by
 by_cases h1 : e.length ≤ 500
 ·by_cases h2 : b.length ≤ 500
  ·have i1 := long_loop e h1 (fun s => f38_b1 e s) false (fun i => rfl)
   have i2 := long_loop b h2 (fun s => f38_b2 b s) false (fun i => rfl)
   unfold f38 argB
   rw [f44_eq l h, i1, i2]
   simp only [Option.bind_some, cond_or]
   cases are l <;> cases decide ((e.length : Int) > 60) <;> cases decide ((b.length : Int) > 60) <;> cases longB e <;> cases longB b <;> rfl
  ·unfold f38 argB
   rw [f44_eq l h, decide_eq_true (show (b.length : Int) > 60 by omega)]
   cases are l <;> cases decide ((e.length : Int) > 60) <;> rfl
 ·unfold f38 argB
  rw [f44_eq l h, decide_eq_true (show (e.length : Int) > 60 by omega)]
  cases are l <;> rfl

theorem f35_any (l : List T36) (e : List (List T34)) (b : List (List Nm)) (h : Vs l) : f35 l e b = some (ask l e b) := by
 cases ha : argB l e b with
 | true => exact f35_eq l e b h (argB_sm ha)
 | false =>
  rw [ask_bad ha]
  by_cases h1 : e.length ≤ 500
  ·by_cases h2 : b.length ≤ 500
   ·have i1 := long_loop e h1 (fun s => f35_b1 e s) (([] : Nm), (2 : Int)) (fun i => rfl)
    have i2 := long_loop b h2 (fun s => f35_b2 b s) (([] : Nm), (2 : Int)) (fun i => rfl)
    unfold argB at ha
    unfold f35
    rw [f42_eq l h]
    simp only [Option.bind_some, f47, cond_or]
    rw [i1, i2]
    cases hl : are l with
    | false => rfl
    | true =>
     cases he : decide ((e.length : Int) > 60) with
     | true => rfl
     | false =>
      cases hb : decide ((b.length : Int) > 60) with
      | true => rfl
      | false =>
       rw [hl, he, hb] at ha
       cases h3 : longB e with
       | true => rfl
       | false =>
        cases h4 : longB b with
        | true => rfl
        | false => rw [h3, h4] at ha; cases ha
   ·unfold f35
    rw [f42_eq l h]
    simp only [Option.bind_some, f47, decide_eq_true (show (b.length : Int) > 60 by omega)]
    cases are l <;> cases decide ((e.length : Int) > 60) <;> rfl
  ·unfold f35
   rw [f42_eq l h]
   simp only [Option.bind_some, f47, decide_eq_true (show (e.length : Int) > 60 by omega)]
   cases are l <;> rfl

/-- What is asked is right. -/
structure Ok (l : List T36) (e : List (List T34)) (b : List (List Nm)) : Prop where
 arg : argB l e b = true
 pl : badP l e = none
 nm : badN l b.flatten = none
 du : dupN b.flatten [] = none

theorem ask_ok {l : List T36} {e : List (List T34)} {b : List (List Nm)} (h : (ask l e b).2 = 0) : Ok l e b := by
 unfold ask at h
 cases h1 : argB l e b with
 | false => rw [h1] at h; cases h
 | true =>
  rw [h1] at h
  cases h2 : badP l e with
  | some p => rw [h2] at h; cases h
  | none =>
   rw [h2] at h
   cases h3 : badN l b.flatten with
   | some p => rw [h3] at h; cases h
   | none =>
    rw [h3] at h
    cases h4 : dupN b.flatten [] with
    | some p => rw [h4] at h; cases h
    | none => exact ⟨h1, h2, h3, h4⟩

theorem Ok.ask {l : List T36} {e : List (List T34)} {b : List (List Nm)} (h : Ok l e b) : ask l e b = ([], 0) := by
 unfold Go.Sx.sto.ask; rw [h.arg, h.pl, h.nm, h.du]

theorem Ok.pls {l : List T36} {e : List (List T34)} {b : List (List Nm)} (h : Ok l e b) : ∀ x ∈ e, ∀ p ∈ x, Pl l p := fun x hx p hp => by
 have h2 := List.find?_eq_none.1 h.pl p (List.mem_flatten.2 ⟨x, hx, hp⟩)
 exact pl_of (argB_iff h.arg).1 (by simpa using h2)

theorem Ok.found {l : List T36} {e : List (List T34)} {b : List (List Nm)} (h : Ok l e b) : ∀ t ∈ b.flatten, (fd l t).isSome := badN_none h.nm

theorem Ok.nodup {l : List T36} {e : List (List T34)} {b : List (List Nm)} (h : Ok l e b) : (b.flatten.map (ix l)).Nodup := ix_nodup h.found (dupN_none h.du).1

/-- The state after all ties, or the place that does not agree. -/
def tied (l : List T36) (e : List (List T34)) (b : List (List Nm)) : Option T34 × LS := allE l e (allB l b (start l.length))

theorem tied_ls (l : List T36) (e : List (List T34)) (b : List (List Nm)) : Ls l.length (tied l e b).2 := allE_ls e (allB_ls b (start_ls _))

def lay (l : List T36) (e : List (List T34)) (b : List (List Nm)) : (Option T57) × Nm × Int :=
 match (ask l e b).2 == 0 with
 | false => (none, (ask l e b).1, (ask l e b).2)
 | true => match tied l e b with
  | (some q, _) => (none, q.f0, 110)
  | (none, s) => match sett l b s with
   | (false, p, c, _) => (none, p, c)
   | (true, p, c, x) => (some x, p, c)

theorem f24_eq (l : List T36) (e : List (List T34)) (b : List (List Nm)) (h : Vs l) : f24 l e b = some (lay l e b) := by
 unfold f24 lay
 rw [f35_any l e b h]
 simp only [Option.bind_some]
 have bn : ((ask l e b).2 != (0 : Int)) = !((ask l e b).2 == 0) := rfl
 rw [bn]
 cases hq : (ask l e b).2 == 0 with
 | false => rfl
 | true =>
  have ok := ask_ok (by simpa using hq)
  have hsm := argB_sm ok.arg
  have h60 := (are_ok (argB_iff ok.arg).1).1
  have g1 : (8 : Int) * (l.length : Int) ≤ 281474976710656 ∧ (l.length : Int) ≤ 9223372036854775807 := by omega
  have hls := tied_ls l e b
  simp only [Bool.not_true, cond_false, if_pos g1]
  rw [f24_start l h60]
  simp only [Option.bind_some, Int.toNat_natCast]
  have hb := f24_blocks l b h hsm.bl hsm.be ok.found (start l.length) (start_ls _)
  have hb' : iter (fun s => f24_b3 l b s.1 s.2.1 s.2.2.1 s.2.2.2) ((0 : Int), l, (start l.length).1, List.replicate l.length (0 : Int)) = some (Out.go (l, allB l b (start l.length))) := hb
  rw [hb']
  simp only [Option.bind_some]
  rw [f24_eqs l e h hsm.el hsm.ee ok.pls _ (allB_ls b (start_ls _))]
  unfold tied at hls ⊢
  cases hw : allE l e (allB l b (start l.length)) with
  | mk o s =>
   rw [hw] at hls
   cases o with
   | some q => rfl
   | none =>
    simp only [Option.bind_some]
    rw [f37_eq l b h hsm.bl ok.found s hls]
    simp only [Option.bind_some]
    cases sett l b s with
    | mk k r => cases k <;> rfl

end Go.Sx.sto

namespace Go.Sx.sto
open Go Go.Sx

/-- The block begins in this group. -/
def bh (l : List T36) (s : LS) (g : Int) : List Nm → Bool
 | [] => false
 | p :: _ => gr s (ix l p) == g

theorem bdm_none {l : List T36} {s : LS} : ∀ (b : List (List Nm)) {m m' : M × M}, bdm l s b m = (none, m') →
  (∀ g, mhas m'.1 g = (mhas m.1 g || b.any (bh l s g))) ∧ ∀ g, mget m'.1 g = (match mhas m.1 g with | true => mget m.1 g | false => match b.find? (bh l s g) with | some (p :: _) => of s (ix l p) | _ => mget m.1 g)
 | [], m, m', h => by
  cases h
  exact ⟨fun g => by simp, fun g => by cases mhas m.1 g <;> rfl⟩
 | [] :: r, m, m', h => by
  obtain ⟨h1, h2⟩ := bdm_none r (m := m) (m' := m') h
  refine ⟨fun g => ?_, fun g => ?_⟩
  ·rw [h1 g]; rfl
  ·rw [h2 g]; rfl
 | (p :: q) :: r, m, m', h => by
  simp only [bdm] at h
  cases hm : mhas m.1 (gr s (ix l p)) with
  | true => rw [hm] at h; cases h
  | false =>
   rw [hm] at h
   obtain ⟨h1, h2⟩ := bdm_none r h
   refine ⟨fun g => ?_, fun g => ?_⟩
   ·rw [h1 g, mhas_mset]
    simp only [List.any_cons, bh]
    cases mhas m.1 g <;> cases gr s (ix l p) == g <;> simp
   ·rw [h2 g, mhas_mset, mget_mset]
    simp only [List.find?_cons, bh]
    by_cases e : gr s (ix l p) = g
    ·rw [beq_iff_eq.2 e, if_pos e, ← e, hm]; rfl
    ·rw [beq_eq_false_iff_ne.2 e, if_neg e, Bool.false_or]

/-- A block's group against those ahead of it. -/
theorem f39_ahead (l : List T36) (b : List (List Nm)) (h : Vs l) (hbl : b.length ≤ 500) (hfound : ∀ t ∈ b.flatten, (fd l t).isSome) (s : LS) (hs : Ls l.length s) (i : Nat) (hi : i < b.length) :
  iter (fun x => f39_b6 l b s.1 (i : Int) x) (0 : Int) = some (match b.getD i default with
   | [] => Out.go ()
   | p :: _ => cond ((b.take i).any (bh l s (gr s (ix l p)))) (Out.ret (none, p, false)) (Out.go ())) := by
 have g0 : (0 : Int) ≤ i ∧ (i : Int) < (b.length : Int) := by omega
 cases hp : b.getD i default with
 | nil =>
  apply iter_inr
  have e0 : decide ((([] : List Nm).length : Int) > 0) = false := rfl
  by_cases h0 : 0 < i
  ·have hd : decide ((0 : Int) < (i : Int)) = true := by simpa using h0
   simp only [f39_b6, hd, cond_true, if_pos g0, Int.toNat_natCast, hp, e0, Option.bind_some, cond_false]
  ·have hd : decide ((0 : Int) < (i : Int)) = false := by simpa using h0
   simp only [f39_b6, hd, cond_false, Option.bind_some]
 | cons p q =>
  have hp1 : (fd l p).isSome := hfound p (by rw [List.mem_flatten]; exact ⟨p :: q, by rw [← hp]; exact getD_mem hi, List.mem_cons_self ..⟩)
  obtain ⟨p1, p2⟩ := ix_of hp1
  have hlen : (b.take i).length = i := by rw [List.length_take]; omega
  have key := iter_list (b.take i) (by rw [hlen]; exact small_max (by omega)) (fun x => f39_b6 l b s.1 (i : Int) x)
   (fun r _ => (cond (r.any (bh l s (gr s (ix l p)))) (Out.ret (none, p, false)) (Out.go ()) : Out ((Option T84) × Nm × Bool) Unit)) (fun k x r hk hx hd => by
    rw [hlen] at hk
    rw [getD_take hk] at hx
    have hd : decide ((k : Int) < (i : Int)) = true := by simpa using hk
    have g1 : (0 : Int) ≤ k ∧ (k : Int) < (b.length : Int) := by omega
    have e0 : decide (((p :: q).length : Int) > 0) = true := decide_eq_true (by simp only [List.length_cons]; omega)
    have e0' : (0 : Int) < ((p :: q).length : Int) := by simp only [List.length_cons]; omega
    simp only [f39_b6, hd, cond_true, if_pos g0, Int.toNat_natCast, hp, e0, Option.bind_some, if_pos g1, hx, List.any_cons]
    cases x with
    | nil =>
     right
     have e1 : decide ((([] : List Nm).length : Int) > 0) = false := rfl
     simp only [e1, cond_false, Option.bind_some, bh, Bool.false_or, and_self]
    | cons u v =>
     have hu : (fd l u).isSome := hfound u (by rw [List.mem_flatten]; exact ⟨u :: v, by rw [← hx]; exact getD_mem (by omega), List.mem_cons_self ..⟩)
     obtain ⟨u1, u2⟩ := ix_of hu
     have e1 : decide (((u :: v).length : Int) > 0) = true := decide_eq_true (by simp only [List.length_cons]; omega)
     have e2 : (0 : Int) < ((u :: v).length : Int) := by simp only [List.length_cons]; omega
     have g2 : (0 : Int) ≤ i ∧ (i : Int) < (b.length : Int) ∧ (0 : Int) < ((p :: q).length : Int) ∧ (0 : Int) ≤ k ∧ (k : Int) < (b.length : Int) ∧ (0 : Int) < ((u :: v).length : Int) := ⟨g0.1, g0.2, e0', g1.1, g1.2, e2⟩
     have g3 : (0 : Int) ≤ ((ix l p : Nat) : Int) ∧ ((ix l p : Nat) : Int) < (s.1.length : Int) := by rw [hs.g]; omega
     have g4 : (0 : Int) ≤ ((ix l u : Nat) : Int) ∧ ((ix l u : Nat) : Int) < (s.1.length : Int) := by rw [hs.g]; omega
     have g5 : (0 : Int) ≤ i ∧ (i : Int) < (b.length : Int) ∧ (0 : Int) < ((p :: q).length : Int) := ⟨g0.1, g0.2, e0'⟩
     have d1 : (p :: q).getD 0 default = p := rfl
     have d2 : (u :: v).getD 0 default = u := rfl
     simp only [e1, cond_true, if_pos g2, f33_eq l h.len, d1, d2, p1, u1, idx, Option.bind_some, if_pos g3, if_pos g4, Int.toNat_natCast, if_pos g5, bh]
     have e3 : (s.1.getD (ix l p) default == s.1.getD (ix l u) default) = (gr s (ix l u) == gr s (ix l p)) := by
      rw [Bool.eq_iff_iff]; simp only [beq_iff_eq]; exact eq_comm
     rw [e3]
     cases gr s (ix l u) == gr s (ix l p) with
     | true => left; rfl
     | false => right; exact ⟨rfl, rfl⟩) (by
    rw [hlen]
    simp only [f39_b6, show decide ((i : Int) < (i : Int)) = false from by simp, cond_false, Option.bind_some, List.any_nil])
  exact key

theorem take_snoc {A : Type} [Inhabited A] {l : List A} {i : Nat} (h : i < l.length) : l.take (i + 1) = l.take i ++ [l.getD i default] := by
 rw [List.take_add_one, getD_lt h, List.getElem?_eq_getElem h]; rfl

theorem f39_starts (l : List T36) (b : List (List Nm)) (h : Vs l) (hbl : b.length ≤ 500) (hfound : ∀ t ∈ b.flatten, (fd l t).isSome) (s : LS) (hs : Ls l.length s) :
  iter (fun x => f39_b7 l b s.1 x) (0 : Int) = some (match bdm l s b ([], []) with | (some p, _) => Out.ret (none, p, false) | (none, _) => Out.go ()) := by
 refine iter_listG (fun i (_ : M × M) => i) b (small_max (by omega)) (fun x => f39_b7 l b s.1 x)
  (fun r _ m => (match bdm l s r m with | (some p, _) => Out.ret (none, p, false) | (none, _) => Out.go () : Out ((Option T84) × Nm × Bool) Unit))
  (fun i m => ∀ g, mhas m.1 g = (b.take i).any (bh l s g)) (fun i x r m hI hi hx hd => ?_) (fun m _ => ?_) ([], []) (fun g => rfl)
 ·have hd1 : decide ((i : Int) < (b.length : Int)) = true := by simpa using hi
  have ha := f39_ahead l b h hbl hfound s hs i hi
  simp only [f39_b7, hd1, cond_true]
  rw [ha, hx]
  cases x with
  | nil =>
   right
   refine ⟨m, rfl, fun g => ?_, rfl⟩
   rw [take_snoc hi, hx, List.any_append, hI g]
   simp [bh]
  | cons p q =>
   simp only [bdm, ← hI]
   cases hm : mhas m.1 (gr s (ix l p)) with
   | true => left; rfl
   | false =>
    right
    refine ⟨_, rfl, fun g => ?_, rfl⟩
    rw [take_snoc hi, hx, List.any_append, mhas_mset, ← hI g]
    simp only [List.any_cons, List.any_nil, Bool.or_false, Bool.false_or, bh]; exact Bool.or_comm ..
 ·simp only [f39_b7, show decide ((b.length : Int) < (b.length : Int)) = false from by simp, cond_false, bdm]

def layR (l : List T36) (e : List (List T34)) (b : List (List Nm)) : (Option T84) × Nm × Bool :=
 match tied l e b with
 | (some q, _) => (none, q.f0, false)
 | (none, s) => match bdm l s b ([], []) with
  | (some p, _) => (none, p, false)
  | (none, _) => (some (T84.mk s.1 s.2), [], true)

theorem f39_eq (l : List T36) (e : List (List T34)) (b : List (List Nm)) (h : Vs l) (ok : Ok l e b) : f39 l e b = some (layR l e b) := by
 have hsm := argB_sm ok.arg
 have h60 := (are_ok (argB_iff ok.arg).1).1
 have hls := tied_ls l e b
 unfold f39 layR
 rw [f39_start l h60]
 simp only [Option.bind_some]
 rw [f39_blocks l b h hsm.bl hsm.be ok.found ok.nodup (start l.length) (start_ls _) (start_fr _)]
 simp only [Option.bind_some]
 rw [f39_eqs l e h hsm.el hsm.ee ok.pls _ (allB_ls b (start_ls _))]
 unfold tied at hls ⊢
 cases hw : allE l e (allB l b (start l.length)) with
 | mk o s =>
  rw [hw] at hls
  cases o with
  | some q => rfl
  | none =>
   simp only [Option.bind_some]
   rw [f39_starts l b h hsm.bl ok.found s hls]
   cases bdm l s b ([], []) with
   | mk o m => cases o <;> rfl

end Go.Sx.sto

namespace Go.Sx.sto
open Go Go.Sx

/-! ### What ties keep -/

def Kp (n : Nat) (P : LS → Prop) : Prop := ∀ a b d s, a < n → b < n → Ls n s → P s → P (tie a b d s).2

theorem tiesB_keep {l : List T36} {P : LS → Prop} (hk : Kp l.length P) : ∀ (r : List Nm) (p : Nm) (s : LS), (∀ t ∈ p :: r, (fd l t).isSome) → Ls l.length s → P s → P (tiesB l p r s)
 | [], _, _, _, _, h => h
 | q :: r, p, s, hf, hs, h => tiesB_keep hk r q _ (fun t ht => hf t (List.mem_cons_of_mem _ ht)) (hs.tie _ _ _) (hk _ _ _ _ (ix_of (hf p (List.mem_cons_self ..))).2 (ix_of (hf q (List.mem_cons_of_mem _ (List.mem_cons_self ..)))).2 hs h)

theorem allB_keep {l : List T36} {P : LS → Prop} (hk : Kp l.length P) : ∀ (b : List (List Nm)) (s : LS), (∀ t ∈ b.flatten, (fd l t).isSome) → Ls l.length s → P s → P (allB l b s)
 | [], _, _, _, h => h
 | x :: b, s, hf, hs, h => by
  show P (allB l b (blkB l x s))
  refine allB_keep hk b _ (fun t ht => hf t (by simp only [List.flatten_cons, List.mem_append]; exact .inr ht)) (blkB_ls x hs) ?_
  cases x with
  | nil => exact h
  | cons p r => exact tiesB_keep hk r p s (fun t ht => hf t (by simp only [List.flatten_cons, List.mem_append]; exact .inl ht)) hs h

theorem tiesE_keep {l : List T36} {P : LS → Prop} (hk : Kp l.length P) {p : T34} (hp : Pl l p) : ∀ (r : List T34) (s : LS), (∀ q ∈ r, Pl l q) → Ls l.length s → P s → P (tiesE l p r s).2
 | [], _, _, _, h => h
 | q :: r, s, hf, hs, h => by
  have h1 := hk (ix l p.f0) (ix l q.f0) (dE l p q) s (ix_of hp.1).2 (ix_of (hf q (List.mem_cons_self ..)).1).2 hs h
  have h2 := hs.tie (ix l p.f0) (ix l q.f0) (dE l p q)
  simp only [tiesE]
  cases hq : tie (ix l p.f0) (ix l q.f0) (dE l p q) s with
  | mk k s' =>
   rw [hq] at h1 h2
   cases k with
   | true => exact tiesE_keep hk hp r s' (fun u hu => hf u (List.mem_cons_of_mem _ hu)) h2 h1
   | false => exact h1

theorem allE_keep {l : List T36} {P : LS → Prop} (hk : Kp l.length P) : ∀ (e : List (List T34)) (s : LS), (∀ x ∈ e, ∀ p ∈ x, Pl l p) → Ls l.length s → P s → P (allE l e s).2
 | [], _, _, _, h => h
 | x :: e, s, hf, hs, h => by
  have h1 : P (eqE l x s).2 := by
   cases x with
   | nil => exact h
   | cons p r => exact tiesE_keep hk (hf _ (List.mem_cons_self ..) p (List.mem_cons_self ..)) r s (fun q hq => hf _ (List.mem_cons_self ..) q (List.mem_cons_of_mem _ hq)) hs h
  have h2 := eqE_ls (l := l) x hs
  simp only [allE]
  cases hq : eqE l x s with
  | mk k s' =>
   rw [hq] at h1 h2
   cases k with
   | some q => exact h1
   | none => exact allE_keep hk e s' (fun y hy => hf y (List.mem_cons_of_mem _ hy)) h2 h1

theorem tied_keep {l : List T36} {e : List (List T34)} {b : List (List Nm)} (ok : Ok l e b) (P : LS → Prop) (hk : Kp l.length P) (h0 : P (start l.length)) : P (tied l e b).2 :=
 allE_keep hk e _ ok.pls (allB_ls b (start_ls _)) (allB_keep hk b _ ok.found (start_ls _) h0)

/-- Each group's first one lies at 0. -/
def Rt (n : Nat) (s : LS) : Prop := ∀ i, i < n → ∃ r, r < n ∧ gr s i = (r : Int) ∧ gr s r = (r : Int) ∧ of s r = 0

theorem Rt.start (n : Nat) : Rt n (start n) := fun i hi => ⟨i, hi, start_gr hi, start_gr hi, start_of⟩

theorem Rt.keep (n : Nat) : Kp n (Rt n) := fun a b d s ha hb hs h => by
 by_cases hg : gr s a = gr s b
 ·rw [tie_same hg]; exact h
 ·obtain ⟨_, k⟩ := tie_other (d := d) hs hg
  have key : ∀ i, i < n → gr s i ≠ gr s b → ∃ r, r < n ∧ gr s i = (r : Int) ∧ gr (tie a b d s).2 r = (r : Int) ∧ of (tie a b d s).2 r = 0 := fun i hi hib => by
   obtain ⟨r, r1, r2, r3, r4⟩ := h i hi
   obtain ⟨k1, k2⟩ := k r r1
   have hne : gr s r ≠ gr s b := by rw [r3, ← r2]; exact hib
   rw [if_neg hne] at k1 k2
   exact ⟨r, r1, r2, by rw [k1, r3], by rw [k2, r4]⟩
  intro i hi
  obtain ⟨k1, k2⟩ := k i hi
  by_cases hib : gr s i = gr s b
  ·rw [if_pos hib] at k1
   obtain ⟨r, r1, r2, r3, r4⟩ := key a ha hg
   exact ⟨r, r1, by rw [k1, r2], r3, r4⟩
  ·rw [if_neg hib] at k1
   obtain ⟨r, r1, r2, r3, r4⟩ := key i hi hib
   exact ⟨r, r1, by rw [k1, r2], r3, r4⟩

theorem tied_rt {l : List T36} {e : List (List T34)} {b : List (List Nm)} (ok : Ok l e b) : Rt l.length (tied l e b).2 := tied_keep ok _ (Rt.keep _) (Rt.start _)

/-! ### The least offset -/

def mn2 (v x : Int) : Int := if x < v then x else v

def vsF (s : LS) (g : Int) : Nat → Nat → List Int
 | 0, _ => []
 | n + 1, i => if gr s i == g then of s i :: vsF s g n (i + 1) else vsF s g n (i + 1)

theorem mem_vsF {s : LS} {g : Int} {x : Int} : ∀ {n i : Nat}, x ∈ vsF s g n i ↔ ∃ j, i ≤ j ∧ j < i + n ∧ gr s j = g ∧ of s j = x
 | 0, i => ⟨fun h => (by cases h), fun ⟨j, h1, h2, _⟩ => (by omega)⟩
 | n + 1, i => by
  simp only [vsF]
  cases hg : gr s i == g with
  | true =>
   simp only [if_true, List.mem_cons, mem_vsF]
   constructor
   ·rintro (h | ⟨j, h1, h2, h3⟩)
    ·exact ⟨i, Nat.le_refl _, by omega, by simpa using hg, h.symm⟩
    ·exact ⟨j, by omega, by omega, h3⟩
   ·rintro ⟨j, h1, h2, h3, h4⟩
    by_cases e : j = i
    ·left; rw [← h4, e]
    ·right; exact ⟨j, by omega, by omega, h3, h4⟩
  | false =>
   simp only [Bool.false_eq_true, if_false, mem_vsF]
   constructor
   ·rintro ⟨j, h1, h2, h3⟩
    exact ⟨j, by omega, by omega, h3⟩
   ·rintro ⟨j, h1, h2, h3, h4⟩
    have e : j ≠ i := fun e => by rw [← e, h3, beq_self_eq_true] at hg; cases hg
    exact ⟨j, by omega, by omega, h3, h4⟩

theorem mn2_le : ∀ (r : List Int) (v : Int), r.foldl mn2 v ≤ v ∧ (∀ x ∈ r, r.foldl mn2 v ≤ x) ∧ (r.foldl mn2 v = v ∨ r.foldl mn2 v ∈ r)
 | [], v => ⟨Int.le_refl _, by simp, .inl rfl⟩
 | x :: r, v => by
  obtain ⟨h1, h2, h3⟩ := mn2_le r (mn2 v x)
  have k : mn2 v x ≤ v ∧ mn2 v x ≤ x ∧ (mn2 v x = v ∨ mn2 v x = x) := by unfold mn2; split <;> omega
  simp only [List.foldl_cons]
  refine ⟨by omega, fun y hy => ?_, ?_⟩
  ·rcases List.mem_cons.1 hy with rfl | hy
   ·omega
   ·exact h2 y hy
  ·rcases h3 with h3 | h3
   ·rcases k.2.2 with k3 | k3
    ·left; rw [h3, k3]
    ·right; rw [h3, k3]; exact List.mem_cons_self ..
   ·right; exact List.mem_cons_of_mem _ h3

def ov (m : M) (g : Int) : Option Int := match mhas m g with | true => some (mget m g) | false => none

def mnO : Option Int → Int → Option Int
 | none, x => some x
 | some v, x => some (mn2 v x)

theorem mnO_some : ∀ (r : List Int) (v : Int), r.foldl mnO (some v) = some (r.foldl mn2 v)
 | [], _ => rfl
 | x :: r, v => mnO_some r (mn2 v x)

/-- The document's least, with its large start, is the least. -/
theorem mn_big (c : Int) (r : List Int) (h : ∃ x ∈ r, x ≤ c) : r.foldl mnO none = some (r.foldl mn2 c) := by
 cases r with
 | nil => obtain ⟨x, hx, _⟩ := h; cases hx
 | cons y r =>
  show r.foldl mnO (some y) = _
  rw [mnO_some, List.foldl_cons]
  congr 1
  obtain ⟨x, hx, hc⟩ := h
  obtain ⟨a1, a2, a3⟩ := mn2_le r y
  obtain ⟨b1, b2, b3⟩ := mn2_le r (mn2 c y)
  have k : mn2 c y ≤ c ∧ mn2 c y ≤ y ∧ (mn2 c y = c ∨ mn2 c y = y) := by unfold mn2; split <;> omega
  have ha : r.foldl mn2 y ≤ x := by
   rcases List.mem_cons.1 hx with rfl | hx
   ·exact a1
   ·exact a2 x hx
  have hb : r.foldl mn2 (mn2 c y) ≤ x := by
   rcases List.mem_cons.1 hx with rfl | hx
   ·omega
   ·exact b2 x hx
  have l1 : r.foldl mn2 y ≤ r.foldl mn2 (mn2 c y) := by
   rcases b3 with b3 | b3
   ·rcases k.2.2 with k3 | k3
    ·omega
    ·rw [b3, k3]; exact a1
   ·exact a2 _ b3
  have l2 : r.foldl mn2 (mn2 c y) ≤ r.foldl mn2 y := by
   rcases a3 with a3 | a3
   ·omega
   ·exact b2 _ a3
  omega

theorem ov_mset {m : M} {k v g : Int} : ov (mset m k v) g = if k = g then some v else ov m g := by
 unfold ov
 rw [mhas_mset, mget_mset]
 by_cases e : k = g
 ·rw [beq_iff_eq.2 e, if_pos e, if_pos e]; rfl
 ·rw [beq_eq_false_iff_ne.2 e, if_neg e, if_neg e, Bool.false_or]

theorem mnF_ov {s : LS} {blk : M} : ∀ (n i : Nat) (m : M) (g : Int), ov (mnF s blk n i m) g = match mget blk g != 0 with | true => ov m g | false => (vsF s g n i).foldl mnO (ov m g)
 | 0, i, m, g => by simp only [mnF, vsF, List.foldl_nil]; cases mget blk g != 0 <;> rfl
 | n + 1, i, m, g => by
  simp only [mnF]
  rw [mnF_ov n (i + 1) _ g]
  by_cases e : gr s i = g
  ·simp only [vsF, e, beq_self_eq_true, if_true]
   cases hb : mget blk g != 0 with
   | true => rfl
   | false =>
    simp only [List.foldl_cons]
    congr 1
    unfold ov
    cases hm : mhas m g with
    | false =>
     simp only [Bool.not_false, Bool.true_or, mhas_mset, mget_mset, beq_self_eq_true, if_true]; rfl
    | true =>
     cases hd : decide (of s i < mget m g) with
     | true =>
      simp only [Bool.not_true, Bool.false_or, mhas_mset, mget_mset, beq_self_eq_true, Bool.true_or, if_true, mnO, mn2]
      rw [if_pos (by simpa using hd)]
     | false =>
      simp only [Bool.not_true, Bool.false_or, hm, mnO, mn2]
      rw [if_neg (by simpa using hd)]
  ·have e' : (gr s i == g) = false := by simpa using e
   have hv : vsF s g (n + 1) i = vsF s g n (i + 1) := by simp only [vsF, e', Bool.false_eq_true, if_false]
   rw [hv]
   have ho : ∀ v, ov (mset m (gr s i) v) g = ov m g := fun v => by rw [ov_mset, if_neg e]
   cases mget blk (gr s i) != 0 with
   | true => rfl
   | false =>
    cases !mhas m (gr s i) || decide (of s i < mget m (gr s i)) with
    | true => simp only [ho]
    | false => rfl

/-- Where a group begins. -/
def stF (l : List T36) (b : List (List Nm)) (s : LS) (g : Int) : Int := match b.find? (bh l s g) with
 | some (p :: _) => of s (ix l p)
 | _ => (vsF s g l.length 0).foldl mn2 1099511627776

theorem stF_eq {l : List T36} {b : List (List Nm)} {s : LS} {m : M × M} (hrt : Rt l.length s) (hm : bdm l s b ([], []) = (none, m)) {i : Nat} (hi : i < l.length) : mget (mnF s m.2 l.length 0 m.1) (gr s i) = stF l b s (gr s i) := by
 obtain ⟨h1, h2⟩ := bdm_none b hm
 have hag : Agree m := by have := bdm_agree (l := l) (s := s) b (m := ([], [])) (fun g => rfl); rw [hm] at this; exact this
 have ho := mnF_ov (s := s) (blk := m.2) l.length 0 m.1 (gr s i)
 rw [hag] at ho
 have e1 := h1 (gr s i)
 have e2 := h2 (gr s i)
 simp only [show mhas ([] : M) (gr s i) = false from rfl, Bool.false_or] at e1 e2
 cases hf : b.find? (bh l s (gr s i)) with
 | some x =>
  have hx := List.find?_some hf
  have ha : b.any (bh l s (gr s i)) = true := List.any_eq_true.2 ⟨x, List.mem_of_find?_eq_some hf, hx⟩
  cases x with
  | nil => cases hx
  | cons p q =>
   rw [hf] at e2
   simp only at e2
   rw [ha] at e1
   rw [e1] at ho
   simp only [ov, e1] at ho
   unfold stF
   rw [hf]
   simp only
   rw [← e2]
   cases hh : mhas (mnF s m.2 l.length 0 m.1) (gr s i) with
   | true => rw [hh] at ho; simpa using ho
   | false => rw [hh] at ho; cases ho
 | none =>
  have ha : b.any (bh l s (gr s i)) = false := by
   rw [List.any_eq_false]; intro x hx; exact List.find?_eq_none.1 hf x hx
  rw [ha] at e1
  rw [e1] at ho
  simp only [ov, e1] at ho
  obtain ⟨r, r1, r2, r3, r4⟩ := hrt i hi
  rw [mn_big 1099511627776 _ ⟨0, mem_vsF.2 ⟨r, by omega, by omega, by rw [r3, r2], r4⟩, by decide⟩] at ho
  unfold stF
  rw [hf]
  simp only
  cases hh : mhas (mnF s m.2 l.length 0 m.1) (gr s i) with
  | true => rw [hh] at ho; simpa using ho
  | false => rw [hh] at ho; cases ho

theorem f52_blocks (l : List T36) (b : List (List Nm)) (h : Vs l) (hbl : b.length ≤ 500) (hfound : ∀ t ∈ b.flatten, (fd l t).isSome) (s : LS) (hs : Ls l.length s) (g : Int) :
  iter (fun x => f52_b2 l b (T84.mk s.1 s.2) g x) (0 : Int) = some (match b.find? (bh l s g) with | some (p :: _) => Out.ret (of s (ix l p)) | _ => Out.go ()) := by
 refine iter_list b (small_max (by omega)) (fun x => f52_b2 l b (T84.mk s.1 s.2) g x) (fun r _ => (match r.find? (bh l s g) with | some (p :: _) => Out.ret (of s (ix l p)) | _ => Out.go () : Out Int Unit)) (fun i x r hi hx hd => ?_) ?_
 ·have hd1 : decide ((i : Int) < (b.length : Int)) = true := by simpa using hi
  have g1 : (0 : Int) ≤ i ∧ (i : Int) < (b.length : Int) := by omega
  cases x with
  | nil =>
   right
   have e0 : decide ((([] : List Nm).length : Int) > 0) = false := rfl
   simp only [f52_b2, f52_j1, hd1, cond_true, if_pos g1, Int.toNat_natCast, hx, e0, cond_false, List.find?_cons, bh, and_self]
  | cons p q =>
   have hp : (fd l p).isSome := hfound p (by rw [List.mem_flatten]; exact ⟨p :: q, by rw [← hx]; exact getD_mem hi, List.mem_cons_self ..⟩)
   obtain ⟨p1, p2⟩ := ix_of hp
   have e0 : decide (((p :: q).length : Int) > 0) = true := decide_eq_true (by simp only [List.length_cons]; omega)
   have g2 : (0 : Int) ≤ i ∧ (i : Int) < (b.length : Int) ∧ (0 : Int) < ((p :: q).length : Int) := ⟨g1.1, g1.2, by simp only [List.length_cons]; omega⟩
   have g3 : (0 : Int) ≤ ((ix l p : Nat) : Int) ∧ ((ix l p : Nat) : Int) < (s.1.length : Int) := by rw [hs.g]; omega
   have g4 : (0 : Int) ≤ ((ix l p : Nat) : Int) ∧ ((ix l p : Nat) : Int) < (s.2.length : Int) := by rw [hs.o]; omega
   have d1 : (p :: q).getD 0 default = p := rfl
   simp only [f52_b2, f52_j1, hd1, cond_true, if_pos g1, Int.toNat_natCast, hx, e0, if_pos g2, f33_eq l h.len, d1, p1, idx, Option.bind_some, if_pos g3, if_pos g4, List.find?_cons, bh]
   cases s.1.getD (ix l p) default == g with
   | true => left; rfl
   | false => right; exact ⟨rfl, rfl⟩
 ·simp only [f52_b2, show decide ((b.length : Int) < (b.length : Int)) = false from by simp, cond_false, List.find?_nil]

theorem f52_eq (l : List T36) (b : List (List Nm)) (h : Vs l) (hbl : b.length ≤ 500) (hfound : ∀ t ∈ b.flatten, (fd l t).isSome) (s : LS) (hs : Ls l.length s) (g : Int) :
  f52 l b (T84.mk s.1 s.2) g = some (stF l b s g) := by
 unfold f52 stF
 rw [f52_blocks l b h hbl hfound s hs g]
 have key : iter (fun x => f52_b4 l (T84.mk s.1 s.2) g x.1 x.2) ((1099511627776 : Int), (0 : Int)) = some (Out.go ((vsF s g l.length 0).foldl mn2 1099511627776)) := by
  refine iter_listI l h.len (fun x => f52_b4 l (T84.mk s.1 s.2) g x.1 x.2) (fun r i v => (Out.go ((vsF s g r.length i).foldl mn2 v) : Out Int Int)) (fun _ _ => True) (fun i x r v _ hi hx hd => ?_) (fun v _ => ?_) _ trivial
  ·have hd1 : decide ((i : Int) < (l.length : Int)) = true := by simpa using hi
   have g1 : (0 : Int) ≤ i ∧ (i : Int) < (s.1.length : Int) := by rw [hs.g]; omega
   have g2 : (0 : Int) ≤ i ∧ (i : Int) < (s.2.length : Int) := by rw [hs.o]; omega
   right
   simp only [f52_b4, f52_j3, hd1, cond_true, if_pos g1, if_pos g2, Int.toNat_natCast, List.length_cons, vsF]
   cases s.1.getD i default == g with
   | true => exact ⟨mn2 v (of s i), rfl, trivial, rfl⟩
   | false => exact ⟨v, rfl, trivial, rfl⟩
  ·simp only [f52_b4, show decide ((l.length : Int) < (l.length : Int)) = false from by simp, cond_false, List.length_nil, vsF, List.foldl_nil]
 have key' : ((iter (fun x => f52_b4 l (T84.mk s.1 s.2) g x.1 x.2) ((1099511627776 : Int), (0 : Int))).bind fun y => match y with | .ret v12 => some v12 | .go v10 => some v10) = some ((vsF s g l.length 0).foldl mn2 1099511627776) := by rw [key]; rfl
 cases b.find? (bh l s g) with
 | none => simp only [Option.bind_some]; exact key'
 | some x =>
  cases x with
  | nil => simp only [Option.bind_some]; exact key'
  | cons p q => rfl

end Go.Sx.sto
