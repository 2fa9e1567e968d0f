/- Plain laws of the printed functions; no condition. -/
import Derived.Test.YtpkoebbjnfpifaaGxM
import Derived.KernelRfl
import Derived.Test.YtpkoebbjnfpifaaGxG
import Derived.Test.YtpkoebbjnfpifaaSxC
namespace Go.Sx.gen
open Go Go.Sx
theorem awake : f11 = some true := f11_le 30 true (by kernel_rfl)
#print axioms awake
end Go.Sx.gen

namespace Go.Sx.gen
open Go Go.Sx

def longOne (s : T31) : Bool := decide ((s.f1.length : Int) > 100) || decide ((s.f0.length : Int) > 100)

def long (l : List T31) : Bool := l.any longOne || decide ((l.length : Int) > 100)

theorem f10_eq (l : List T31) (h : l.length ≤ maxLen) : f10 l = some (long l) := by
  have := iter_list l h (fun s => f10_b1 l s) (fun r _ => if r.any longOne then Out.ret true else Out.go ()) ?_ ?_
  · unfold f10
    rw [this]
    simp only [Option.bind_some, long]
    cases l.any longOne <;> simp
  · intro i x r hi hx _
    have h1 : (0 : Int) ≤ i ∧ (i : Int) < (l.length : Int) := ⟨by omega, by omega⟩
    simp only [f10_b1, Int.toNat_natCast, hx, h1, and_self, if_true, decide_true, cond_true, cond_or, Option.bind_some]
    cases hb : (decide ((x.f1.length : Int) > 100) || decide ((x.f0.length : Int) > 100)) with
    | true => left; simp [longOne, hb]
    | false => right; simp [longOne, hb]
  · simp [f10_b1]

def isLetterI (c : Int) : Bool := (decide (c ≥ 97) && decide (c ≤ 122)) || (decide (c ≥ 65) && decide (c ≤ 90))
def isDigitI (c : Int) : Bool := decide (c ≥ 48) && decide (c ≤ 57)
def isPartI (c : Int) : Bool := (isLetterI c || isDigitI c) || c == 95
def isUpperI (c : Int) : Bool := decide (c ≥ 65) && decide (c ≤ 90)

theorem f57_eq (c : Int) : f57 c = some (isLetterI c) := by simp only [f57, cond_and, Option.bind_some, cond_or, isLetterI]
theorem f67_eq (c : Int) : f67 c = some (isDigitI c) := by simp only [f67, cond_and, Option.bind_some, isDigitI]
theorem f59_eq (c : Int) : f59 c = some (isPartI c) := by simp only [f59, f57_eq, f67_eq, cond_or, Option.bind_some, isPartI]
theorem f68_eq (c : Int) : f68 c = some (isLetterI c) := by simp only [f68, cond_and, Option.bind_some, cond_or, isLetterI]
theorem f69_eq (c : Int) : f69 c = some (isDigitI c) := by simp only [f69, cond_and, Option.bind_some, isDigitI]
theorem f61_eq (c : Int) : f61 c = some (isPartI c) := by simp only [f61, f68_eq, f69_eq, cond_or, Option.bind_some, isPartI]

def byteI (b : UInt8) : Int := ((b.toNat : Nat) : Int)

/-- How many parts of a name stand in front. -/
def runLen : List UInt8 → Nat
  | [] => 0
  | b :: r => if isPartI (byteI b) then runLen r + 1 else 0

theorem f58_eq (s : List UInt8) (h : s.length ≤ maxLen) : f58_59 s = some ((runLen s : Nat) : Int) := by
  have := iter_list s h (fun i => f58_59_b1 s i) (fun r i => (Out.go ((i + runLen r : Nat) : Int) : Out Int Int)) ?_ ?_
  · unfold f58_59
    rw [this]
    simp
  · intro i x r hi hx _
    have h1 : (0 : Int) ≤ i ∧ (i : Int) < (s.length : Int) := ⟨by omega, by omega⟩
    have hx' : s.getD i 0 = x := hx
    simp only [f58_59_b1, Int.toNat_natCast, hx', h1, and_self, if_true, decide_true, cond_true, f59_eq, Option.bind_some]
    cases hb : isPartI ((x.toNat : Nat) : Int) with
    | true => right; simp [runLen, byteI, hb]; omega
    | false => left; simp [runLen, byteI, hb]
  · simp [f58_59_b1, runLen]

def low (n : Int) : Int := if isUpperI n then n + 32 else n

theorem wrap_u8 {n : Int} (h0 : 0 ≤ n) (h1 : n ≤ 255) : IntKind.wrap .u8 n = n := by
  simp only [IntKind.wrap, IntKind.min, IntKind.max, IntKind.signed, IntKind.bits]
  simp
  omega

theorem f60_eq (s : List UInt8) (h : s.length ≤ maxLen) : f60 s = some (s.map fun b => UInt8.ofNat (low (byteI b)).toNat) := by
  have hm := maxLen_le
  have key := iter_ind (fun q => f60_b2 s q.1 q.2) (fun q => ∃ i, i ≤ s.length ∧ q.2 = ((i : Nat) : Int) ∧ q.1 = ((s.map byteI).take i).map low ++ (s.map byteI).drop i) (fun q => s.length - q.2.toNat) (fun _ x => x = Out.go ((s.map byteI).map low)) ?_ (s.map byteI, 0) ⟨0, Nat.zero_le _, rfl, by simp⟩
  · obtain ⟨x, hx, rfl⟩ := key
    unfold f60
    rw [if_pos (by omega)]
    have hx' : iter (fun q => f60_b2 s q.1 q.2) (s.map (fun b => ((b.toNat : Nat) : Int)), (0 : Int)) = some (Out.go ((s.map byteI).map low)) := hx
    rw [hx']
    simp [List.map_map, Function.comp_def]
  · rintro ⟨b, k⟩ ⟨i, hi, hk, hb⟩
    simp only at hk hb
    subst hk hb
    have hlen : (((s.map byteI).take i).map low ++ (s.map byteI).drop i).length = s.length := by simp; omega
    by_cases hlt : i < s.length
    · left
      have h1 : (0 : Int) ≤ i ∧ (i : Int) < ((((s.map byteI).take i).map low ++ (s.map byteI).drop i).length : Int) := ⟨by omega, by rw [hlen]; omega⟩
      have h2 : ((i : Int) < ((s.map (fun b => ((b.toNat : Nat) : Int))).length : Int)) := by simp; omega
      have hget : (((s.map byteI).take i).map low ++ (s.map byteI).drop i).getD i default = byteI s[i] := by
        simp only [List.getD_eq_getElem?_getD]
        rw [List.getElem?_append_right (by simp; omega)]
        simp [Nat.min_eq_left hi, hlt]
      have hset : (((s.map byteI).take i).map low ++ (s.map byteI).drop i).set i (low (byteI s[i])) = ((s.map byteI).take (i + 1)).map low ++ (s.map byteI).drop (i + 1) := by
        have e1 : (s.map byteI).drop i = byteI s[i] :: (s.map byteI).drop (i + 1) := by
          rw [List.drop_eq_getElem_cons (by simpa using hlt)]; simp
        have e2 : (s.map byteI).take (i + 1) = (s.map byteI).take i ++ [byteI s[i]] := by
          rw [List.take_succ_eq_append_getElem (by simpa using hlt)]; simp
        rw [e1, e2, List.set_append_right _ _ (by simp; omega)]
        simp [Nat.min_eq_left hi]
      have hlow : isUpperI (byteI s[i]) = false → (((s.map byteI).take i).map low ++ (s.map byteI).drop i) = ((s.map byteI).take (i + 1)).map low ++ (s.map byteI).drop (i + 1) := by
        intro hu
        rw [← hset]
        have : low (byteI s[i]) = byteI s[i] := by simp [low, hu]
        rw [this]
        apply List.ext_getElem?
        intro j
        by_cases hj : j = i
        · subst hj
          rw [List.getElem?_set_self (by omega)]
          have := hget
          rw [List.getD_eq_getElem?_getD] at this
          have hs : (((s.map byteI).take j).map low ++ (s.map byteI).drop j)[j]? = some ((((s.map byteI).take j).map low ++ (s.map byteI).drop j)[j]'(by omega)) := List.getElem?_eq_getElem (by omega)
          rw [hs] at this ⊢
          simp only [Option.getD_some] at this
          rw [this]
        · rw [List.getElem?_set_ne (by omega)]
      have hw : w64 ((i : Int) + 1) = ((i + 1 : Nat) : Int) := w64_succ hlt h
      have h0 : 0 ≤ byteI s[i] ∧ byteI s[i] ≤ 255 := by
        have := s[i].toNat_lt
        simp only [byteI]; omega
      cases hu : isUpperI (byteI s[i]) with
      | true =>
        have hu' : byteI s[i] ≥ 65 ∧ byteI s[i] ≤ 90 := by simpa [isUpperI] using hu
        have hv : IntKind.wrap .u8 (IntKind.wrap .u8 (byteI s[i] - 65) + 97) = low (byteI s[i]) := by
          rw [wrap_u8 (n := byteI s[i] - 65) (by omega) (by omega), wrap_u8 (by omega) (by omega)]
          simp only [low, hu, if_true]; omega
        refine ⟨(((s.map byteI).take (i + 1)).map low ++ (s.map byteI).drop (i + 1), ((i + 1 : Nat) : Int)), ?_, ⟨i + 1, hlt, rfl, rfl⟩, by simp; omega, fun x hx => hx⟩
        simp only [f60_b2, f60_j1, Int.toNat_natCast, hget, h1, h2, and_self, if_true, decide_true, cond_true, hu'.1, hu'.2, Option.bind_some, hv, hset, hw]
      | false =>
        refine ⟨(((s.map byteI).take (i + 1)).map low ++ (s.map byteI).drop (i + 1), ((i + 1 : Nat) : Int)), ?_, ⟨i + 1, hlt, rfl, rfl⟩, by simp; omega, fun x hx => hx⟩
        have hu' : (decide (byteI s[i] ≥ 65) && decide (byteI s[i] ≤ 90)) = false := hu
        simp only [f60_b2, f60_j1, Int.toNat_natCast, hget, h1, h2, and_self, if_true, decide_true, cond_true, cond_and, hu', cond_false, Option.bind_some, hw, ← hlow hu]
    · right
      obtain rfl : i = s.length := by omega
      refine ⟨_, ?_, rfl⟩
      simp only [f60_b2]
      rw [show decide (((s.length : Nat) : Int) < ((s.map (fun b => ((b.toNat : Nat) : Int))).length : Int)) = false from by simp]
      have e1 : (s.map byteI).take s.length = s.map byteI := List.take_of_length_le (by simp)
      have e2 : (s.map byteI).drop s.length = [] := List.drop_of_length_le (by simp)
      simp only [cond_false, e1, e2, List.append_nil]

/-! ### Names -/

def innerB (b : UInt8) : Bool := isPartI (byteI b) && !isUpperI (byteI b)

def nameOk (s : List UInt8) : Bool := (!(s == ([] : List UInt8)) && decide ((s.length : Int) ≤ 12)) && (s.all innerB && (isLetterI (byteI (s.getD 0 0))))

theorem runLen_le : ∀ (s : List UInt8), runLen s ≤ s.length
  | [] => Nat.le_refl _
  | b :: r => by
    have := runLen_le r
    simp only [runLen, List.length_cons]
    split <;> omega

theorem runLen_all : ∀ (s : List UInt8), (((runLen s : Nat) : Int) == (s.length : Int)) = s.all (fun b => isPartI (byteI b))
  | [] => rfl
  | b :: r => by
    have h := runLen_all r
    have hle := runLen_le r
    simp only [runLen, List.all_cons, List.length_cons]
    cases hb : isPartI (byteI b) with
    | true =>
      simp only [if_true, Bool.true_and, ← h]
      by_cases he : runLen r = r.length
      · simp [he]
      · have : ((runLen r : Nat) : Int) ≠ (r.length : Int) := by omega
        have h2 : (((runLen r + 1 : Nat)) : Int) ≠ ((r.length + 1 : Nat) : Int) := by omega
        rw [beq_eq_false_iff_ne.2 this, beq_eq_false_iff_ne.2 h2]
    | false =>
      simp only [Bool.false_eq_true, if_false, Bool.false_and]
      exact beq_eq_false_iff_ne.2 (by omega)

theorem low_one (b : UInt8) : (b == UInt8.ofNat (low (byteI b)).toNat) = !isUpperI (byteI b) := by
  have hb := b.toNat_lt
  cases hu : isUpperI (byteI b) with
  | true =>
    have hu' : byteI b ≥ 65 ∧ byteI b ≤ 90 := by simpa [isUpperI] using hu
    simp only [low, hu, if_true, Bool.not_true]
    refine beq_eq_false_iff_ne.2 fun e => ?_
    have := congrArg UInt8.toNat e
    simp only [byteI] at hu' this
    rw [UInt8.toNat_ofNat'] at this
    omega
  | false =>
    have hl : low (byteI b) = byteI b := by simp [low, hu]
    rw [hl]
    simp [byteI]

theorem low_all : ∀ (s : List UInt8), (s == s.map fun b => UInt8.ofNat (low (byteI b)).toNat) = s.all (fun b => !isUpperI (byteI b))
  | [] => rfl
  | b :: r => by
    rw [List.map_cons, List.all_cons, ← low_one b, ← low_all r]
    rfl

theorem all_inner (s : List UInt8) : s.all innerB = (s.all (fun b => isPartI (byteI b)) && s.all (fun b => !isUpperI (byteI b))) := by
  induction s with
  | nil => rfl
  | cons b r ih =>
    simp only [List.all_cons, ih, innerB]
    cases isPartI (byteI b) <;> cases isUpperI (byteI b) <;> simp

theorem f38_eq (s : List UInt8) (h : s.length ≤ maxLen) : f38 s = some (nameOk s) := by
  unfold f38 nameOk
  rw [cond_and, all_inner]
  simp only [Option.bind_some, f57_eq, f58_eq s h, f60_eq s h, runLen_all, low_all]
  cases hs : (!(s == ([] : List UInt8)) && decide ((s.length : Int) ≤ 12)) with
  | false => simp
  | true =>
    have hpos : (0 : Int) < (s.length : Int) := by
      cases s with
      | nil => simp at hs
      | cons b r => simp
    simp only [cond_true, if_pos hpos, cond_and, Option.bind_some, Bool.true_and, byteI]
    cases isLetterI ((((s.getD 0 0).toNat : Nat)) : Int) <;> simp

theorem f40_eq (s : List UInt8) (h : s.length ≤ maxLen) : f40 s = some (nameOk s) := by
  have hl := iter_list s h (fun i => f40_b1 s i) (fun r _ => if r.all innerB then (Out.go () : Out Bool Unit) else Out.ret false) ?_ ?_
  · unfold f40 nameOk
    rw [hl, cond_or]
    simp only [Option.bind_some]
    cases s with
    | nil => simp
    | cons b r =>
      have hpos : (0 : Int) < ((b :: r).length : Int) := by simp
      simp only [if_pos hpos, cond_or, Option.bind_some, List.getD_cons_zero]
      have e : ((b :: r) == ([] : List UInt8)) = false := rfl
      rw [e]
      cases hin : (b :: r).all innerB with
      | false =>
        have key : ∀ q : Bool, (cond q (some false) (some false) : Option Bool) = some false := fun q => by cases q <;> rfl
        simp only [Bool.false_and, Bool.and_false, Bool.false_eq_true, if_false, Option.bind_some, key]
      | true =>
        have hb : innerB b = true := by simp only [List.all_cons, Bool.and_eq_true] at hin; exact hin.1
        have hlet : isLetterI (byteI b) = (!decide (((b.toNat : Nat) : Int) < 97) && !decide (((b.toNat : Nat) : Int) > 122)) := by
          simp only [innerB, isUpperI, Bool.and_eq_true, Bool.not_eq_true', Bool.and_eq_false_iff, decide_eq_false_iff_not] at hb
          have h2 := hb.2
          rw [Bool.eq_iff_iff]
          simp only [isLetterI, Bool.or_eq_true, Bool.and_eq_true, decide_eq_true_eq, Bool.not_eq_true', decide_eq_false_iff_not]
          simp only [byteI] at h2 ⊢
          omega
        rw [hlet]
        have hd : decide (((b :: r).length : Int) ≤ 12) = !decide (((b :: r).length : Int) > 12) := by
          rw [Bool.eq_iff_iff]; simp only [decide_eq_true_eq, Bool.not_eq_true', decide_eq_false_iff_not]; omega
        rw [hd]
        simp only [if_true, Bool.true_and, byteI, Bool.false_or, Bool.not_false]
        cases decide (((b :: r).length : Int) > 12) <;> cases decide (((b.toNat : Nat) : Int) < 97) <;> cases decide (((b.toNat : Nat) : Int) > 122) <;> rfl
  · intro i x r hi hx _
    have h1 : (0 : Int) ≤ i ∧ (i : Int) < (s.length : Int) := ⟨by omega, by omega⟩
    have hx' : s.getD i 0 = x := hx
    simp only [f40_b1, Int.toNat_natCast, hx', h1, and_self, if_true, decide_true, cond_true, f61_eq, Option.bind_some, cond_and, cond_or]
    have : (!isPartI ((x.toNat : Nat) : Int) || (decide (((x.toNat : Nat) : Int) ≥ 65) && decide (((x.toNat : Nat) : Int) ≤ 90))) = !innerB x := by
      simp only [innerB, byteI, isUpperI]
      cases isPartI ((x.toNat : Nat) : Int) <;> simp <;> rfl
    rw [this]
    cases hb : innerB x with
    | true => right; simp [hb]
    | false => left; simp [hb]
  · simp [f40_b1]

end Go.Sx.gen

namespace Go.Sx.gen
open Go Go.Sx

/-- The first that p takes, from i on. -/
def findFrom {A : Type} (p : A → Bool) : List A → Nat → Option Nat
  | [], _ => none
  | x :: r, i => if p x then some i else findFrom p r (i + 1)

def outOf : Option Nat → Out Int Unit
  | some i => .ret ((i : Nat) : Int)
  | none => .go ()

def idx : Option Nat → Int
  | some i => ((i : Nat) : Int)
  | none => -1

theorem index_eq {A : Type} [Inhabited A] (l : List A) (h : l.length ≤ maxLen) (f : A → Option Bool) (p : A → Bool) (hp : ∀ x, f x = some (p x)) (b : Int → Option (Int ⊕ Out Int Unit))
    (hb : ∀ i, b i = cond (decide (i < (l.length : Int))) (if (0 : Int) ≤ i ∧ i < (l.length : Int) then (f (l.getD i.toNat default)).bind fun v3 => cond v3 (some (.inr (.ret i))) (some (.inl (w64 (i + (1 : Int))))) else none) (some (.inr (.go ())))) :
    iter b 0 = some (outOf (findFrom p l 0)) := by
  refine iter_list l h b (fun r i => outOf (findFrom p r i)) ?_ ?_
  · intro i x r hi hx _
    have h1 : (0 : Int) ≤ i ∧ (i : Int) < (l.length : Int) := ⟨by omega, by omega⟩
    simp only [hb, Int.toNat_natCast, hx, h1, and_self, if_true, decide_true, cond_true, hp, Option.bind_some]
    cases hpx : p x with
    | true => left; simp [findFrom, hpx, outOf]
    | false => right; simp [findFrom, hpx]
  · simp [hb, findFrom, outOf]

theorem findFrom_any {A : Type} (p : A → Bool) : ∀ (l : List A) (i : Nat), decide (idx (findFrom p l i) ≥ 0) = l.any p
  | [], i => by simp [findFrom, idx]
  | x :: r, i => by
    simp only [findFrom, List.any_cons]
    by_cases hp : p x = true
    · simp [idx, hp]
    · simp only [hp, if_false, Bool.false_or, Bool.false_eq_true]
      exact findFrom_any p r (i + 1)

def minusOne (d : T48) : Bool := d.f1 == (-1 : Int)

theorem f54_eq (d : T48) : f54 d = some (minusOne d) := rfl

theorem f65_54_eq (l : List T48) (h : l.length ≤ maxLen) : f65_54 l = some (idx (findFrom minusOne l 0)) := by
  unfold f65_54
  rw [index_eq l h f54 minusOne f54_eq (fun s => f65_54_b1 l s) (fun i => rfl)]
  cases findFrom minusOne l 0 <;> rfl

theorem f32_eq (s : T31) (h : s.f1.length ≤ maxLen) : f32 s = some (s.f1.any minusOne) := by
  simp only [f32, f52_54, f65_54_eq _ h, Option.bind_some, findFrom_any]

def dummyOk (d : T48) (least : Int) : Bool := ((decide (d.f0 ≥ 1) && decide (d.f0 ≤ 4)) && decide (d.f1 ≥ least)) && decide (d.f1 ≤ 3)

theorem f39_eq (d : T48) (n : Int) : f39 d n = some (dummyOk d n) := by simp only [f39, cond_and, Option.bind_some, dummyOk]

theorem f53_eq (d : T48) : f53 d = some (!dummyOk d 0) := by simp only [f53, f39_eq, Option.bind_some]

theorem f65_53_eq (l : List T48) (h : l.length ≤ maxLen) : f65_53 l = some (idx (findFrom (fun d => !dummyOk d 0) l 0)) := by
  unfold f65_53
  rw [index_eq l h f53 _ f53_eq (fun s => f65_53_b1 l s) (fun i => rfl)]
  cases findFrom (fun d => !dummyOk d 0) l 0 <;> rfl

def callOk (l : List T48) : Bool := decide ((l.length : Int) ≤ 8) && l.all (fun d => dummyOk d 0)

theorem any_not {A : Type} (l : List A) (p : A → Bool) : (!l.any fun x => !p x) = l.all p := by
  induction l with
  | nil => rfl
  | cons x r ih => simp only [List.any_cons, List.all_cons, ← ih]; cases p x <;> simp

theorem f30_eq (l : List T48) (h : l.length ≤ maxLen) : f30 l = some (callOk l) := by
  simp only [f30, f52_53, f65_53_eq l h, Option.bind_some, findFrom_any, any_not, cond_and, callOk]

theorem f35_eq (l : List T48) (h : l.length ≤ maxLen) : f35 l = some (callOk l) := by
  have hl := iter_list l h (fun i => f35_b1 l i) (fun r _ => cond (r.all (fun d => dummyOk d 0)) (Out.go () : Out Bool Unit) (Out.ret false)) ?_ ?_
  · unfold f35 callOk
    rw [hl]
    cases l.all (fun d => dummyOk d 0) <;> simp
  · intro i x r hi hx _
    have h1 : (0 : Int) ≤ i ∧ (i : Int) < (l.length : Int) := ⟨by omega, by omega⟩
    simp only [f35_b1, Int.toNat_natCast, hx, h1, and_self, if_true, decide_true, cond_true, cond_or, Option.bind_some]
    have : (decide (x.f0 < 1) || decide (x.f0 > 4) || decide (x.f1 < 0) || decide (x.f1 > 3)) = !dummyOk x 0 := by
      rw [Bool.eq_iff_iff]
      simp only [dummyOk, Bool.or_eq_true, Bool.not_eq_true', Bool.and_eq_false_iff, decide_eq_true_eq, decide_eq_false_iff_not]
      omega
    rw [this]
    cases hb : dummyOk x 0 with
    | true => right; simp [hb]
    | false => left; simp [hb]
  · simp [f35_b1]

/-! ### Valid -/

def optOk : Bool → List T48 → Bool
  | _, [] => true
  | p, d :: r => !(p && !d.f2) && optOk d.f2 r

def okFrom (q : T48 → Bool) : Bool → List T48 → Bool
  | _, [] => true
  | p, d :: r => (q d && !(p && !d.f2)) && okFrom q d.f2 r

def q1 (E : Bool) (d : T48) : Bool := dummyOk d (-1) && !(E && (d.f1 != (-1 : Int)))
def q2 (E : Bool) (d : T48) : Bool := dummyOk d (-1) && ((d.f1 == (-1 : Int)) == E)

def prevAt (l : List T48) (i : Nat) : Bool := decide (0 < i) && (l.getD (i - 1) default).f2

def valid (s : T31) : Bool := (nameOk s.f0 && decide ((s.f1.length : Int) ≤ 8)) && okFrom (q1 (s.f1.any minusOne)) false s.f1

theorem f19_eq (s : T31) (h0 : s.f0.length ≤ maxLen) (h : s.f1.length ≤ maxLen) : f19 s = some (valid s) := by
  have hm := maxLen_le
  have hl := iter_list s.f1 h (fun i => f19_b1 s i) (fun r i => cond (okFrom (q1 (s.f1.any minusOne)) (prevAt s.f1 i) r) (Out.go () : Out Bool Unit) (Out.ret false)) ?_ ?_
  · unfold f19 valid
    rw [hl, f38_eq _ h0]
    simp only [Option.bind_some, cond_or]
    have e : prevAt s.f1 0 = false := rfl
    rw [e]
    have hd : decide ((s.f1.length : Int) ≤ 8) = !decide ((s.f1.length : Int) > 8) := by
      rw [Bool.eq_iff_iff]; simp only [decide_eq_true_eq, Bool.not_eq_true', decide_eq_false_iff_not]; omega
    rw [hd]
    cases nameOk s.f0 <;> cases decide ((s.f1.length : Int) > 8) <;> cases okFrom (q1 (s.f1.any minusOne)) false s.f1 <;> rfl
  · intro i x r hi hx _
    have h1 : (0 : Int) ≤ i ∧ (i : Int) < (s.f1.length : Int) := ⟨by omega, by omega⟩
    have hn : prevAt s.f1 (i + 1) = x.f2 := by simp only [prevAt, Nat.add_sub_cancel, hx]; simp
    simp only [f19_b1, Int.toNat_natCast, hx, h1, and_self, if_true, decide_true, cond_true, f39_eq, f32_eq s h, Option.bind_some, cond_and, cond_or]
    have hp : (cond (decide ((i : Int) > 0)) (if (0 : Int) ≤ w64 ((i : Int) - 1) ∧ w64 ((i : Int) - 1) < (s.f1.length : Int) then some ((s.f1.getD (Int.toNat (w64 ((i : Int) - 1))) default).f2) else none) (some false)) = some (prevAt s.f1 i) := by
      by_cases hi0 : 0 < i
      · have hw : w64 ((i : Int) - 1) = ((i - 1 : Nat) : Int) := by rw [w64_id (by omega) (by omega)]; omega
        rw [hw, if_pos ⟨by omega, by omega⟩]
        have : decide ((i : Int) > 0) = true := by simpa using hi0
        rw [this]
        simp [prevAt, hi0]
      · obtain rfl : i = 0 := by omega
        rfl
    rw [hp]
    simp only [Option.bind_some, cond_and, cond_or]
    have : ((!dummyOk x (-1) || (s.f1.any minusOne && (x.f1 != (-1 : Int)))) || (prevAt s.f1 i && !x.f2)) = !(q1 (s.f1.any minusOne) x && !(prevAt s.f1 i && !x.f2)) := by
      simp only [q1]
      cases dummyOk x (-1) <;> cases (s.f1.any minusOne && (x.f1 != (-1 : Int))) <;> cases (prevAt s.f1 i && !x.f2) <;> rfl
    rw [this]
    simp only [okFrom, hn]
    rcases Bool.eq_false_or_eq_true (q1 (s.f1.any minusOne) x && !(prevAt s.f1 i && !x.f2)) with hb | hb
    · right; rw [hb]; simp
    · left; rw [hb]; simp
  · simp [f19_b1, okFrom]

/-! ### The reference's -/

def elem (s : T31) : Bool := decide ((s.f1.length : Int) > 0) && ((s.f1.getD 0 default).f1 == (-1 : Int))

theorem f15_eq (s : T31) : f15 s = some (elem s) := by
  unfold f15 elem
  by_cases h : (0 : Int) < (s.f1.length : Int)
  · rw [if_pos h, cond_and]; rfl
  · rw [show decide ((s.f1.length : Int) > 0) = false from by simpa using h]; rfl

def valid2 (s : T31) : Bool := (nameOk s.f0 && decide ((s.f1.length : Int) ≤ 8)) && okFrom (q2 (elem s)) false s.f1

theorem f20_eq (s : T31) (h0 : s.f0.length ≤ maxLen) (h : s.f1.length ≤ maxLen) : f20 s = some (valid2 s) := by
  have hl := iter_listS s.f1 h (fun q => f20_b1 s q.1 q.2) (fun r _ b => cond (okFrom (q2 (elem s)) b r) (Out.go () : Out Bool Unit) (Out.ret false)) ?_ ?_ false
  · unfold f20 valid2
    rw [hl, f40_eq _ h0]
    simp only [Option.bind_some, cond_or]
    have hd : decide ((s.f1.length : Int) ≤ 8) = !decide ((s.f1.length : Int) > 8) := by
      rw [Bool.eq_iff_iff]; simp only [decide_eq_true_eq, Bool.not_eq_true', decide_eq_false_iff_not]; omega
    rw [hd]
    cases nameOk s.f0 <;> cases decide ((s.f1.length : Int) > 8) <;> cases okFrom (q2 (elem s)) false s.f1 <;> rfl
  · intro i x r b hi hx _
    have h1 : (0 : Int) ≤ i ∧ (i : Int) < (s.f1.length : Int) := ⟨by omega, by omega⟩
    simp only [f20_b1, Int.toNat_natCast, hx, h1, and_self, if_true, decide_true, cond_true, f15_eq, Option.bind_some, cond_and, cond_or]
    have : (decide (x.f0 < 1) || (decide (x.f0 > 4) || (decide (x.f1 < -1) || (decide (x.f1 > 3) || (!((x.f1 == (-1 : Int)) == elem s) || (b && !x.f2)))))) = !(q2 (elem s) x && !(b && !x.f2)) := by
      have e : dummyOk x (-1) = !(decide (x.f0 < 1) || (decide (x.f0 > 4) || (decide (x.f1 < -1) || decide (x.f1 > 3)))) := by
        rw [Bool.eq_iff_iff]
        simp only [dummyOk, Bool.and_eq_true, Bool.not_eq_true', Bool.or_eq_false_iff, decide_eq_true_eq, decide_eq_false_iff_not]
        omega
      simp only [q2, e]
      cases decide (x.f0 < 1) <;> cases decide (x.f0 > 4) <;> cases decide (x.f1 < -1) <;> cases decide (x.f1 > 3) <;> cases ((x.f1 == (-1 : Int)) == elem s) <;> cases (b && !x.f2) <;> rfl
    rw [this]
    simp only [okFrom]
    rcases Bool.eq_false_or_eq_true (q2 (elem s) x && !(b && !x.f2)) with hb | hb
    · right; rw [hb]; exact ⟨x.f2, by simp, by simp⟩
    · left; rw [hb]; simp
  · intro b; simp [f20_b1, okFrom]

theorem okFrom_split (q : T48 → Bool) : ∀ (p : Bool) (l : List T48), okFrom q p l = (l.all q && optOk p l)
  | _, [] => rfl
  | p, d :: r => by
    simp only [okFrom, optOk, List.all_cons, okFrom_split q d.f2 r]
    cases q d <;> cases (!(p && !d.f2)) <;> cases r.all q <;> simp

theorem all_q (l : List T48) : l.all (q1 (l.any minusOne)) = l.all (q2 (decide ((l.length : Int) > 0) && ((l.getD 0 default).f1 == (-1 : Int)))) := by
  cases l with
  | nil => rfl
  | cons d r =>
    have e : (decide (((d :: r).length : Int) > 0) && (((d :: r).getD 0 default).f1 == (-1 : Int))) = minusOne d := by
      have : decide (((d :: r).length : Int) > 0) = true := by simp
      rw [this]; rfl
    rw [e]
    rcases Bool.eq_false_or_eq_true ((d :: r).any minusOne) with hE | hE
    · -- one of them is of any rank
      rw [hE]
      rw [Bool.eq_iff_iff, List.all_eq_true, List.all_eq_true]
      constructor
      · intro h x hx
        have hd : minusOne d = true := by
          have := h d (by simp)
          simp only [q1, Bool.true_and, Bool.and_eq_true, Bool.not_eq_true'] at this
          simpa [minusOne] using this.2
        have := h x hx
        simp only [q1, Bool.true_and, Bool.and_eq_true, Bool.not_eq_true'] at this
        simp only [q2, hd, Bool.and_eq_true]
        exact ⟨this.1, by simpa [minusOne] using this.2⟩
      · intro h x hx
        have hd : minusOne d = true := by
          rw [List.any_eq_true] at hE
          obtain ⟨y, hy, hym⟩ := hE
          have := h y hy
          simp only [q2, Bool.and_eq_true] at this
          have h2 := this.2
          have hym' : (y.f1 == (-1 : Int)) = true := hym
          rw [hym'] at h2
          simpa using h2
        have := h x hx
        simp only [q2, hd, Bool.and_eq_true] at this
        simp only [q1, Bool.true_and, Bool.and_eq_true, Bool.not_eq_true']
        exact ⟨this.1, by simpa using this.2⟩
    · rw [hE]
      have hd : minusOne d = false := by
        simp only [List.any_cons, Bool.or_eq_false_iff] at hE; exact hE.1
      rw [hd]
      rw [Bool.eq_iff_iff, List.all_eq_true, List.all_eq_true]
      have hx' : ∀ x ∈ d :: r, (x.f1 == (-1 : Int)) = false := by
        intro x hx
        rw [List.any_eq_false] at hE
        simpa [minusOne] using hE x hx
      constructor
      · intro h x hx
        have := h x hx
        simp only [q1, Bool.false_and, Bool.not_false, Bool.and_true] at this
        simp [q2, this, hx' x hx]
      · intro h x hx
        have := h x hx
        simp only [q2, Bool.and_eq_true] at this
        simp [q1, this.1]

theorem valid_eq (s : T31) : valid s = valid2 s := by
  simp only [valid, valid2, okFrom_split, all_q, elem]

end Go.Sx.gen

namespace Go.Sx.gen
open Go Go.Sx

/-- How many arguments stand ahead of the first that may be left out. -/
def leastOf : List T48 → Nat
  | [] => 0
  | d :: r => cond d.f2 0 (leastOf r + 1)

theorem leastOf_le : ∀ l, leastOf l ≤ l.length
  | [] => Nat.le_refl _
  | d :: r => by
    have := leastOf_le r
    simp only [leastOf, List.length_cons]
    cases d.f2 <;> simp <;> omega

theorem findFrom_least : ∀ (l : List T48) (i : Nat), findFrom (fun d => d.f2) l i = if leastOf l < l.length then some (i + leastOf l) else none
  | [], i => rfl
  | d :: r, i => by
    simp only [findFrom, leastOf, List.length_cons]
    by_cases hd : d.f2 = true
    · simp [hd]
    · simp only [hd, if_false, Bool.false_eq_true]
      rw [findFrom_least r (i + 1)]
      by_cases h : leastOf r < r.length
      · simp [h]; omega
      · simp [h]

theorem f55_eq (s : T31) (h : s.f1.length ≤ maxLen) : f55 s = some ((leastOf s.f1 : Nat) : Int) := by
  unfold f55 f65_66
  rw [index_eq s.f1 h f66 (fun d => d.f2) (fun _ => rfl) (fun q => f65_66_b1 s.f1 q) (fun i => rfl), findFrom_least]
  by_cases hl : leastOf s.f1 < s.f1.length
  · simp only [hl, if_true, outOf, Option.bind_some, Nat.zero_add]
    rw [show decide (((leastOf s.f1 : Nat) : Int) ≥ 0) = true from by simp]
    rfl
  · have := leastOf_le s.f1
    have e : leastOf s.f1 = s.f1.length := by omega
    rw [if_neg hl]
    simp only [outOf, Option.bind_some, e]
    rfl

theorem f56_eq (s : T31) (h : s.f1.length ≤ maxLen) : f56 s = some ((leastOf s.f1 : Nat) : Int) := by
  have hl := iter_list s.f1 h (fun i => f56_b1 s i) (fun r i => (Out.go ((i + leastOf r : Nat) : Int) : Out Int Int)) ?_ ?_
  · unfold f56
    rw [hl]
    simp
  · intro i x r hi hx _
    have h1 : (0 : Int) ≤ i ∧ (i : Int) < (s.f1.length : Int) := ⟨by omega, by omega⟩
    simp only [f56_b1, Int.toNat_natCast, hx, h1, and_self, if_true, decide_true, cond_true, Option.bind_some]
    cases hb : x.f2 with
    | true => left; simp [leastOf, hb]
    | false => right; simp [leastOf, hb]; omega
  · simp [f56_b1, leastOf]

def fits1 (ds : List T48) : List T48 → Nat → Int → Bool
  | [], _, _ => true
  | c :: r, i, k =>
    cond ((c.f0 != (ds.getD i default).f0) || (((ds.getD i default).f1 != (-1 : Int)) && (c.f1 != (ds.getD i default).f1))) false
      (cond (((ds.getD i default).f1 != (-1 : Int)) || (c.f1 == (0 : Int))) (fits1 ds r (i + 1) k)
        (cond (decide (k > 0) && (k != c.f1)) false (fits1 ds r (i + 1) c.f1)))

def fits2 (ds : List T48) : List T48 → Nat → Int → Bool
  | [], _, _ => true
  | c :: r, i, k =>
    cond (((ds.getD i default).f0 != c.f0) || (decide ((ds.getD i default).f1 ≥ 0) && ((ds.getD i default).f1 != c.f1))) false
      (cond (decide ((ds.getD i default).f1 < 0) && decide (c.f1 > 0)) (cond (decide (k > 0) && (k != c.f1)) false (fits2 ds r (i + 1) c.f1)) (fits2 ds r (i + 1) k))

def fitsB (F : List T48 → List T48 → Nat → Int → Bool) (s : T31) (l : List T48) : Bool :=
  cond (decide ((l.length : Int) < ((leastOf s.f1 : Nat) : Int)) || decide ((l.length : Int) > (s.f1.length : Int))) false (F s.f1 l 0 0)

theorem f33_eq (s : T31) (l : List T48) (h : s.f1.length ≤ maxLen) (h' : l.length ≤ maxLen) : f33 s l = some (fitsB fits1 s l) := by
  unfold f33 fitsB
  rw [f55_eq s h]
  simp only [Option.bind_some, cond_or]
  rcases Bool.eq_false_or_eq_true (decide ((l.length : Int) < ((leastOf s.f1 : Nat) : Int)) || decide ((l.length : Int) > (s.f1.length : Int))) with hb | hb
  · rw [hb]; rfl
  · rw [hb]
    have hle : l.length ≤ s.f1.length := by
      simp only [Bool.or_eq_false_iff, decide_eq_false_iff_not] at hb
      omega
    simp only [cond_false]
    have hl := iter_listS l h' (fun q => f33_b2 s l q.1 q.2) (fun r i b => cond (fits1 s.f1 r i b) (Out.go () : Out Bool Unit) (Out.ret false)) ?_ ?_ 0
    · rw [hl]
      cases fits1 s.f1 l 0 0 <;> rfl
    · intro i c r b hi hx _
      have h1 : (0 : Int) ≤ i ∧ (i : Int) < (l.length : Int) := ⟨by omega, by omega⟩
      have h2 : (i : Int) < (s.f1.length : Int) := by omega
      simp only [f33_b2, f33_j1, Int.toNat_natCast, hx, h1, h2, and_self, if_true, decide_true, cond_true, Option.bind_some, cond_and, cond_or, fits1]
      generalize (s.f1.getD i default) = d
      cases (c.f0 != d.f0 || (d.f1 != (-1 : Int) && c.f1 != d.f1))
      · cases (d.f1 != (-1 : Int) || c.f1 == (0 : Int))
        · cases (decide (b > 0) && b != c.f1)
          · right; exact ⟨c.f1, by simp, by simp⟩
          · left; simp
        · right; exact ⟨b, by simp, by simp⟩
      · left; simp
    · intro b; simp [f33_b2, fits1]

theorem f37_eq (s : T31) (l : List T48) (h : s.f1.length ≤ maxLen) (h' : l.length ≤ maxLen) : f37 s l = some (fitsB fits2 s l) := by
  unfold f37 fitsB
  rw [f56_eq s h]
  simp only [Option.bind_some, cond_or]
  rcases Bool.eq_false_or_eq_true (decide ((l.length : Int) < ((leastOf s.f1 : Nat) : Int)) || decide ((l.length : Int) > (s.f1.length : Int))) with hb | hb
  · rw [hb]; rfl
  · rw [hb]
    have hle : l.length ≤ s.f1.length := by
      simp only [Bool.or_eq_false_iff, decide_eq_false_iff_not] at hb
      omega
    simp only [cond_false]
    have hl := iter_listS l h' (fun q => f37_b2 s l q.1 q.2) (fun r i b => cond (fits2 s.f1 r i b) (Out.go () : Out Bool Unit) (Out.ret false)) ?_ ?_ 0
    · rw [hl]
      cases fits2 s.f1 l 0 0 <;> rfl
    · intro i c r b hi hx _
      have h1 : (0 : Int) ≤ i ∧ (i : Int) < (l.length : Int) := ⟨by omega, by omega⟩
      have h2 : (0 : Int) ≤ i ∧ (i : Int) < (s.f1.length : Int) := ⟨by omega, by omega⟩
      simp only [f37_b2, f37_j1, Int.toNat_natCast, hx, h1, h2, and_self, if_true, decide_true, cond_true, Option.bind_some, cond_and, cond_or, fits2]
      rcases Bool.eq_false_or_eq_true (((s.f1.getD i default).f0 != c.f0) || (decide ((s.f1.getD i default).f1 ≥ 0) && ((s.f1.getD i default).f1 != c.f1))) with e1 | e1
      · left; simp only [e1, cond_true, cond_false]
      · rcases Bool.eq_false_or_eq_true (decide ((s.f1.getD i default).f1 < 0) && decide (c.f1 > 0)) with e2 | e2
        · rcases Bool.eq_false_or_eq_true (decide (b > 0) && b != c.f1) with e3 | e3
          · left; simp only [e1, e2, e3, cond_true, cond_false]
          · right; exact ⟨c.f1, by simp only [e1, e2, e3, cond_true, cond_false], by simp only [e1, e2, e3, cond_true, cond_false]⟩
        · right; exact ⟨b, by simp only [e1, e2, cond_true, cond_false], by simp only [e1, e2, cond_true, cond_false]⟩
    · intro b; simp [f37_b2, fits2]

theorem fits_eq (ds : List T48) (ha : ∀ d ∈ ds, d.f1 ≥ -1) : ∀ (l : List T48) (i : Nat) (k : Int), (∀ c ∈ l, c.f1 ≥ 0) → i + l.length ≤ ds.length → fits1 ds l i k = fits2 ds l i k
  | [], _, _, _, _ => rfl
  | c :: r, i, k, hc, hi => by
    have hlt : i < ds.length := by simp only [List.length_cons] at hi; omega
    have hd : (ds.getD i default).f1 ≥ -1 := by
      rw [List.getD_eq_getElem?_getD, List.getElem?_eq_getElem hlt]
      exact ha _ (List.getElem_mem hlt)
    have hc0 := hc c (by simp)
    have ih := fun k => fits_eq ds ha r (i + 1) k (fun x hx => hc x (by simp [hx])) (by simp only [List.length_cons] at hi; omega)
    simp only [fits1, fits2, ih]
    generalize (ds.getD i default) = d at hd
    have e1 : (d.f1 != (-1 : Int)) = decide (d.f1 ≥ 0) := by
      rw [Bool.eq_iff_iff]; simp only [bne_iff_ne, decide_eq_true_eq]; omega
    have e2 : (c.f1 == (0 : Int)) = !decide (c.f1 > 0) := by
      rw [Bool.eq_iff_iff]; simp only [beq_iff_eq, Bool.not_eq_true', decide_eq_false_iff_not]; omega
    have e3 : decide (d.f1 < 0) = !decide (d.f1 ≥ 0) := by
      rw [Bool.eq_iff_iff]; simp only [decide_eq_true_eq, Bool.not_eq_true', decide_eq_false_iff_not]; omega
    have e4 : (d.f0 != c.f0) = (c.f0 != d.f0) := bne_comm
    have e5 : (d.f1 != c.f1) = (c.f1 != d.f1) := bne_comm
    rw [e1, e2, e3, e4, e5]
    cases (c.f0 != d.f0) <;> cases decide (d.f1 ≥ 0) <;> cases (c.f1 != d.f1) <;> cases decide (c.f1 > 0) <;> rfl

end Go.Sx.gen

namespace Go.Sx.gen
open Go Go.Sx

def fitsAns (v : Bool) (F : List T48 → List T48 → Nat → Int → Bool) (s : T31) (l : List T48) : Bool × Int :=
  cond (!v || !callOk l) (false, 2) (fitsB F s l, 0)

theorem f14_eq (s : T31) (l : List T48) (h0 : s.f0.length ≤ maxLen) (h : s.f1.length ≤ maxLen) (h' : l.length ≤ maxLen) : f14 s l = some (fitsAns (valid s) fits1 s l) := by
  simp only [f14, f19_eq s h0 h, f30_eq l h', f33_eq s l h h', Option.bind_some, cond_or, cond_some, fitsAns]
  cases valid s <;> rfl

theorem f16_eq (s : T31) (l : List T48) (h0 : s.f0.length ≤ maxLen) (h : s.f1.length ≤ maxLen) (h' : l.length ≤ maxLen) : f16 s l = some (fitsAns (valid2 s) fits2 s l) := by
  simp only [f16, f20_eq s h0 h, f35_eq l h', f37_eq s l h h', Option.bind_some, cond_or, cond_some, fitsAns]
  cases valid2 s <;> rfl

theorem valid_rank {s : T31} (h : valid s = true) : ∀ d ∈ s.f1, d.f1 ≥ -1 := by
  intro d hd
  simp only [valid, okFrom_split, Bool.and_eq_true, List.all_eq_true] at h
  have := h.2.1 d hd
  simp only [q1, dummyOk, Bool.and_eq_true, decide_eq_true_eq] at this
  exact this.1.1.2

theorem callOk_rank {l : List T48} (h : callOk l = true) : ∀ c ∈ l, c.f1 ≥ 0 := by
  intro c hc
  simp only [callOk, Bool.and_eq_true, List.all_eq_true] at h
  have := h.2 c hc
  simp only [dummyOk, Bool.and_eq_true, decide_eq_true_eq] at this
  exact this.1.2

theorem fitsB_eq {s : T31} {l : List T48} (hs : valid s = true) (hl : ∀ c ∈ l, c.f1 ≥ 0) : fitsB fits1 s l = fitsB fits2 s l := by
  unfold fitsB
  rcases Bool.eq_false_or_eq_true (decide ((l.length : Int) < ((leastOf s.f1 : Nat) : Int)) || decide ((l.length : Int) > (s.f1.length : Int))) with hb | hb
  · rw [hb]; rfl
  · rw [hb]
    have hle : l.length ≤ s.f1.length := by
      simp only [Bool.or_eq_false_iff, decide_eq_false_iff_not] at hb
      omega
    exact fits_eq s.f1 (valid_rank hs) l 0 0 hl (by omega)

theorem fitsAns_eq (s : T31) (l : List T48) : fitsAns (valid s) fits1 s l = fitsAns (valid2 s) fits2 s l := by
  unfold fitsAns
  rw [← valid_eq]
  rcases Bool.eq_false_or_eq_true (valid s) with hs | hs
  · rcases Bool.eq_false_or_eq_true (callOk l) with hl | hl
    · rw [fitsB_eq hs (callOk_rank hl)]
    · rw [hl, hs]; rfl
  · rw [hs]; rfl

theorem pair_beq (x : Bool × Int) : (x.1 == x.1) = true ∧ (x.2 == x.2) = true := ⟨by simp, by simp⟩

namespace Pure
theorem GenericFits : LawGenericFits := by
  intro s l hs hl
  have h0 := hs.1
  have h1 := hs.2.1.1
  have h2 := hl.1
  unfold f4
  rw [f10_eq [s] (show 1 ≤ maxLen by decide), f14_eq s l h0 h1 h2, f16_eq s l h0 h1 h2, ← fitsAns_eq, awake]
  simp only [Option.bind_some, cond_or, beq_self_eq_true, cond_true]
  cases (long [s] || decide ((l.length : Int) > 100)) <;> rfl
end Pure
end Go.Sx.gen

namespace Go.Sx.gen
open Go Go.Sx

theorem f51_eq (s t : T31) : f51 s t = some (s.f0 == t.f0) := rfl

theorem f63_eq (l : List T31) (s : T31) (h : l.length ≤ maxLen) : f63_51 l s = some (idx (findFrom (fun t => t.f0 == s.f0) l 0)) := by
  unfold f63_51
  have key : iter (fun q => f63_51_b1 l s q) 0 = some (outOf (findFrom (fun t => t.f0 == s.f0) l 0)) := by
    refine iter_list l h (fun q => f63_51_b1 l s q) (fun r i => outOf (findFrom (fun t => t.f0 == s.f0) r i)) ?_ ?_
    · intro i x r hi hx _
      have h1 : (0 : Int) ≤ i ∧ (i : Int) < (l.length : Int) := ⟨by omega, by omega⟩
      simp only [f63_51_b1, Int.toNat_natCast, hx, h1, and_self, if_true, decide_true, cond_true, f51_eq, Option.bind_some]
      by_cases hpx : (x.f0 == s.f0) = true
      · left; simp only [hpx, cond_true, findFrom, if_true, outOf]
      · right
        have hf : (x.f0 == s.f0) = false := by simpa using hpx
        simp only [hf, cond_false, findFrom, if_false, Bool.false_eq_true, and_self]
    · simp [f63_51_b1, findFrom, outOf]
  rw [key]
  cases findFrom (fun t => t.f0 == s.f0) l 0 <;> rfl

theorem f46_eq (l : List T31) (s : T31) (h : l.length ≤ maxLen) : f46_51 l s = some (l.any fun t => t.f0 == s.f0) := by
  simp only [f46_51, f63_eq l s h, Option.bind_some, findFrom_any]

/-- Each is valid, and none bears a name of those ahead. -/
def listOk (l : List T31) : List T31 → Nat → Bool
  | [], _ => true
  | s :: r, i => (valid s && !((l.take i).any fun t => t.f0 == s.f0)) && listOk l r (i + 1)

def isListB (l : List T31) : Bool := listOk l l 0 && decide ((l.length : Int) ≤ 20)

def Small (l : List T31) : Prop := l.length ≤ maxLen ∧ ∀ s ∈ l, s.f0.length ≤ maxLen ∧ s.f1.length ≤ maxLen

theorem Small.get {l : List T31} (h : Small l) {i : Nat} {x : T31} (hi : i < l.length) (hx : l.getD i default = x) : x.f0.length ≤ maxLen ∧ x.f1.length ≤ maxLen := by
  refine h.2 x ?_
  rw [← hx, List.getD_eq_getElem?_getD, List.getElem?_eq_getElem hi]
  exact List.getElem_mem hi

theorem f29_eq (l : List T31) (h : Small l) : f29 l = some (isListB l) := by
  have hl := iter_list l h.1 (fun i => f29_b1 l i) (fun r i => cond (listOk l r i) (Out.go () : Out Bool Unit) (Out.ret false)) ?_ ?_
  · unfold f29 isListB
    rw [hl]
    cases listOk l l 0 <;> simp
  · intro i x r hi hx _
    have h1 : (0 : Int) ≤ i ∧ (i : Int) < (l.length : Int) := ⟨by omega, by omega⟩
    have h2 : (0 : Int) ≤ i ∧ (i : Int) ≤ (l.length : Int) := ⟨by omega, by omega⟩
    have hg := h.get hi hx
    have htake : (l.take i).length ≤ maxLen := by simp; have := h.1; omega
    simp only [f29_b1, Int.toNat_natCast, hx, h1, h2, and_self, if_true, decide_true, cond_true, f19_eq x hg.1 hg.2, Option.bind_some, List.drop_zero, f46_eq _ x htake, cond_or, listOk]
    rcases Bool.eq_false_or_eq_true (valid x) with h3 | h3
    · rcases Bool.eq_false_or_eq_true ((l.take i).any fun t => t.f0 == x.f0) with h4 | h4
      · left; simp only [h3, h4]; rfl
      · right; simp only [h3, h4]; exact ⟨rfl, rfl⟩
    · left; simp only [h3]; rfl
  · simp [f29_b1, listOk]

/-- The reference's inner loop. -/
theorem f34_inner (l : List T31) (n : Nat) (hn : n < l.length) (h : l.length ≤ maxLen) : iter (fun q => f34_b1 l (n : Int) q) 0 = some (cond ((l.take n).any fun t => t.f0 == (l.getD n default).f0) (Out.ret false : Out Bool Unit) (Out.go ())) := by
  have hlen : (l.take n).length = n := by simp; omega
  have := iter_list (l.take n) (by omega) (fun q => f34_b1 l (n : Int) q) (fun r _ => cond (r.any fun t => t.f0 == (l.getD n default).f0) (Out.ret false : Out Bool Unit) (Out.go ())) ?_ ?_
  · exact this
  · intro i x r hi hx _
    have hi' : i < n := by omega
    have h1 : (0 : Int) ≤ i ∧ (i : Int) < (l.length : Int) ∧ (0 : Int) ≤ n ∧ (n : Int) < (l.length : Int) := ⟨by omega, by omega, by omega, by omega⟩
    have hd : decide ((i : Int) < (n : Int)) = true := by simpa using hi'
    have hx' : l.getD i default = x := by
      rw [← hx]; simp only [List.getD_eq_getElem?_getD, List.getElem?_take, hi', if_true]
    simp only [f34_b1, Int.toNat_natCast, hx', hd, h1, and_self, if_true, cond_true, List.any_cons]
    rcases Bool.eq_false_or_eq_true (x.f0 == (l.getD n default).f0) with h3 | h3
    · left; simp only [h3]; rfl
    · right; simp only [h3]; exact ⟨rfl, rfl⟩
  · rw [hlen]; simp [f34_b1]

theorem f34_eq (l : List T31) (h : Small l) : f34 l = some (isListB l) := by
  have hl := iter_list l h.1 (fun i => f34_b2 l i) (fun r i => cond (listOk l r i) (Out.go () : Out Bool Unit) (Out.ret false)) ?_ ?_
  · unfold f34 isListB
    rw [hl]
    cases listOk l l 0 <;> simp
  · intro i x r hi hx _
    have h1 : (0 : Int) ≤ i ∧ (i : Int) < (l.length : Int) := ⟨by omega, by omega⟩
    have hg := h.get hi hx
    simp only [f34_b2, Int.toNat_natCast, hx, h1, and_self, if_true, decide_true, cond_true, f20_eq x hg.1 hg.2, ← valid_eq, Option.bind_some, f34_inner l i hi h.1, listOk]
    rcases Bool.eq_false_or_eq_true (valid x) with h3 | h3
    · rcases Bool.eq_false_or_eq_true ((l.take i).any fun t => t.f0 == x.f0) with h4 | h4
      · left; simp only [h3, h4]; rfl
      · right; simp only [h3, h4]; exact ⟨rfl, rfl⟩
    · left; simp only [h3]; rfl
  · simp [f34_b2, listOk]

end Go.Sx.gen

namespace Go.Sx.gen
open Go Go.Sx

def rk (x y : Int) : Int := if (0 : Int) > (if y > x then y else x) then (0 : Int) else (if y > x then y else x)

theorem rk_nonneg (x y : Int) : rk x y ≥ 0 := by
  unfold rk
  split <;> omega

def wit (a b : T31) (i : Nat) : T48 := T48.mk ((a.f1.getD i default).f0) (rk (a.f1.getD i default).f1 (b.f1.getD i default).f1) false

def firstN (a b : T31) (n : Nat) : List T48 := (List.range n).map (wit a b)

theorem firstN_succ (a b : T31) (n : Nat) : firstN a b (n + 1) = firstN a b n ++ [wit a b n] := by
  simp [firstN, List.range_succ]

theorem firstN_length (a b : T31) (n : Nat) : (firstN a b n).length = n := by simp [firstN]

theorem firstN_rank (a b : T31) (n : Nat) : ∀ c ∈ firstN a b n, c.f1 ≥ 0 := by
  intro c hc
  simp only [firstN, List.mem_map] at hc
  obtain ⟨i, _, rfl⟩ := hc
  exact rk_nonneg _ _

theorem gather (a b : T31) (n : Nat) (ha : n ≤ a.f1.length) (hb : n ≤ b.f1.length) (hn : n ≤ 1000) (body : List T48 × Int → Option ((List T48 × Int) ⊕ Out (List T48 × Bool) (List T48)))
    (h1 : ∀ (l : List T48) (i : Nat), i < n → l.length ≤ 1000 → body (l, (i : Int)) = some (.inl (l ++ [wit a b i], w64 ((i : Int) + 1)))) (h2 : ∀ l, body (l, (n : Int)) = some (.inr (.go l))) : iter body ([], 0) = some (.go (firstN a b n)) := by
  have hm := maxLen_le
  obtain ⟨x, hx, rfl⟩ := iter_ind body (fun q => ∃ i : Nat, i ≤ n ∧ q = (firstN a b i, (i : Int))) (fun q => n - q.2.toNat) (fun _ x => x = Out.go (firstN a b n)) (by
    rintro q ⟨i, hi, rfl⟩
    by_cases hlt : i < n
    · left
      refine ⟨_, h1 _ i hlt (by rw [firstN_length]; omega), ⟨i + 1, hlt, ?_⟩, ?_, fun x hx => hx⟩
      · rw [firstN_succ, w64_id (by omega) (by omega)]; rfl
      · have : w64 ((i : Int) + 1) = (i : Int) + 1 := w64_id (by omega) (by omega)
        simp only [this]; omega
    · right
      obtain rfl : i = n := by omega
      exact ⟨_, h2 _, rfl⟩) ([], 0) ⟨0, Nat.zero_le _, rfl⟩
  exact hx

def m2 (x y : Nat) : Nat := if y > x then y else x

def needs (a b : T31) : Nat := max (leastOf a.f1) (leastOf b.f1)
def most (a b : T31) : Nat := min a.f1.length b.f1.length

def fitsAt (F : List T48 → List T48 → Nat → Int → Bool) (a b : T31) (n : Nat) : Bool := fitsB F a (firstN a b n) && fitsB F b (firstN a b n)

theorem fitsAt_eq {a b : T31} (ha : valid a = true) (hb : valid b = true) (n : Nat) : fitsAt fits1 a b n = fitsAt fits2 a b n := by
  unfold fitsAt
  rw [fitsB_eq ha (firstN_rank a b n), fitsB_eq hb (firstN_rank a b n)]

theorem fits2_prefix (ds : List T48) : ∀ (l r : List T48) (i : Nat) (k : Int), fits2 ds (l ++ r) i k = true → fits2 ds l i k = true
  | [], _, _, _, _ => rfl
  | c :: l, r, i, k, h => by
    simp only [List.cons_append, fits2] at h ⊢
    rcases Bool.eq_false_or_eq_true (((ds.getD i default).f0 != c.f0) || (decide ((ds.getD i default).f1 ≥ 0) && ((ds.getD i default).f1 != c.f1))) with e1 | e1
    · rw [e1] at h; cases h
    · rw [e1] at h ⊢
      rcases Bool.eq_false_or_eq_true (decide ((ds.getD i default).f1 < 0) && decide (c.f1 > 0)) with e2 | e2
      · rw [e2] at h ⊢
        rcases Bool.eq_false_or_eq_true (decide (k > 0) && (k != c.f1)) with e3 | e3
        · rw [e3] at h; cases h
        · rw [e3] at h ⊢; exact fits2_prefix ds l r (i + 1) c.f1 h
      · rw [e2] at h ⊢; exact fits2_prefix ds l r (i + 1) k h

theorem firstN_prefix (a b : T31) {m n : Nat} (h : m ≤ n) : ∃ r, firstN a b n = firstN a b m ++ r := by
  induction h with
  | refl => exact ⟨[], by simp⟩
  | @step n _ ih =>
    obtain ⟨r, hr⟩ := ih
    exact ⟨r ++ [wit a b n], by rw [firstN_succ, hr, List.append_assoc]⟩

theorem fitsB_true {F : List T48 → List T48 → Nat → Int → Bool} {s : T31} {l : List T48} : fitsB F s l = true ↔ leastOf s.f1 ≤ l.length ∧ l.length ≤ s.f1.length ∧ F s.f1 l 0 0 = true := by
  unfold fitsB
  rcases Bool.eq_false_or_eq_true (decide ((l.length : Int) < ((leastOf s.f1 : Nat) : Int)) || decide ((l.length : Int) > (s.f1.length : Int))) with hb | hb
  · rw [hb]
    simp only [cond_true, Bool.false_eq_true, false_iff, not_and]
    simp only [Bool.or_eq_true, decide_eq_true_eq] at hb
    intro h1 h2
    omega
  · rw [hb]
    simp only [Bool.or_eq_false_iff, decide_eq_false_iff_not] at hb
    simp only [cond_false]
    exact ⟨fun h => ⟨by omega, by omega, h⟩, fun h => h.2.2⟩

theorem fitsAt_true {a b : T31} {n : Nat} (h : fitsAt fits2 a b n = true) : needs a b ≤ n ∧ n ≤ most a b ∧ fitsAt fits2 a b (needs a b) = true := by
  simp only [fitsAt, Bool.and_eq_true, fitsB_true, firstN_length] at h ⊢
  obtain ⟨⟨h1, h2, h3⟩, h4, h5, h6⟩ := h
  have hn : needs a b ≤ n := by unfold needs; omega
  obtain ⟨r, hr⟩ := firstN_prefix a b hn
  rw [hr] at h3 h6
  refine ⟨hn, by unfold most; omega, ⟨by unfold needs; omega, by omega, fits2_prefix _ _ _ _ _ h3⟩, by unfold needs; omega, by omega, fits2_prefix _ _ _ _ _ h6⟩

/-- The program's. -/
def witA (a b : T31) : List T48 × Bool := if needs a b > most a b then ([], false) else (firstN a b (needs a b), fitsAt fits1 a b (needs a b))

/-- The reference's. -/
def witB (a b : T31) : List T48 × Bool := if needs a b ≤ most a b ∧ fitsAt fits2 a b (needs a b) = true then (firstN a b (needs a b), true) else ([], false)

def Short (s : T31) : Prop := s.f0.length ≤ maxLen ∧ s.f1.length ≤ 100

theorem f43_eq (a b : T31) (ha : Short a) (hb : Short b) : f43 a b = some (witA a b) := by
  have hm := maxLen_le
  have hA : a.f1.length ≤ maxLen := by have := ha.2; have : (100 : Nat) ≤ maxLen := by decide
                                       omega
  have hB : b.f1.length ≤ maxLen := by have := hb.2; have : (100 : Nat) ≤ maxLen := by decide
                                       omega
  unfold f43 witA
  rw [f55_eq a hA, f55_eq b hB]
  simp only [Option.bind_some]
  have e1 : (if ((leastOf b.f1 : Nat) : Int) > ((leastOf a.f1 : Nat) : Int) then ((leastOf b.f1 : Nat) : Int) else ((leastOf a.f1 : Nat) : Int)) = ((needs a b : Nat) : Int) := by
    unfold needs; split <;> omega
  have e2 : (if (b.f1.length : Int) < (a.f1.length : Int) then (b.f1.length : Int) else (a.f1.length : Int)) = ((most a b : Nat) : Int) := by
    unfold most; split <;> omega
  rw [e1, e2]
  by_cases hn : needs a b > most a b
  · rw [if_pos hn, show decide (((needs a b : Nat) : Int) > ((most a b : Nat) : Int)) = true from by simpa using hn]; rfl
  · rw [if_neg hn, show decide (((needs a b : Nat) : Int) > ((most a b : Nat) : Int)) = false from by simpa using hn]
    have h1 : needs a b ≤ a.f1.length := by unfold most at hn; omega
    have h2 : needs a b ≤ b.f1.length := by unfold most at hn; omega
    have hg := gather a b (needs a b) h1 h2 (by have := ha.2; omega) (fun s => f43_b1 a b ((leastOf a.f1 : Nat) : Int) ((leastOf b.f1 : Nat) : Int) s.1 s.2) ?_ ?_
    · simp only [cond_false]
      rw [hg]
      have hl : (firstN a b (needs a b)).length ≤ maxLen := by rw [firstN_length]; omega
      simp only [Option.bind_some, f33_eq a _ hA hl, f33_eq b _ hB hl, cond_and, fitsAt]
    · intro l i hi hl
      have hd : decide ((i : Int) < ((needs a b : Nat) : Int)) = true := by simpa using hi
      have hgd : (0 : Int) ≤ i ∧ (i : Int) < (a.f1.length : Int) ∧ (0 : Int) ≤ i ∧ (i : Int) < (a.f1.length : Int) ∧ (0 : Int) ≤ i ∧ (i : Int) < (b.f1.length : Int) := ⟨by omega, by omega, by omega, by omega, by omega, by omega⟩
      simp only [f43_b1, e1, hd, cond_true]
      rw [if_pos hgd, if_pos (by simp only [List.length_cons, List.length_nil]; omega)]
      rfl
    · intro l
      simp only [f43_b1, e1, Int.lt_irrefl, decide_false, cond_false]

end Go.Sx.gen

namespace Go.Sx.gen
open Go Go.Sx

def resOf : Out (List T48 × Bool) Unit → List T48 × Bool
  | .ret v => v
  | .go _ => ([], false)

theorem f44_eq (a b : T31) (ha : Short a) (hb : Short b) (hm8 : most a b ≤ 8) : f44 a b = some (witB a b) := by
  have hm := maxLen_le
  have hA : a.f1.length ≤ maxLen := by have := ha.2; have : (100 : Nat) ≤ maxLen := by decide
                                       omega
  have hB : b.f1.length ≤ maxLen := by have := hb.2; have : (100 : Nat) ≤ maxLen := by decide
                                       omega
  have hno : ∀ n, n > needs a b ∨ most a b < needs a b → (∀ j, j < n → j ≤ most a b → fitsAt fits2 a b j = false) → witB a b = ([], false) := by
    intro n hn hj
    unfold witB
    rw [if_neg]
    rintro ⟨h1, h2⟩
    rcases hn with hn | hn
    · rw [hj _ hn h1] at h2; cases h2
    · omega
  obtain ⟨x, hx, hq⟩ := iter_ind (fun s => f44_b2 a b s) (fun s => ∃ n : Nat, n ≤ 9 ∧ n ≤ most a b + 1 ∧ s = (n : Int) ∧ ∀ j, j < n → j ≤ most a b → fitsAt fits2 a b j = false) (fun s => 9 - s.toNat) (fun _ x => resOf x = witB a b) (by
    rintro s ⟨n, h9, hmo, rfl, hj⟩
    by_cases h8 : n ≤ 8
    · have hd : decide ((n : Int) ≤ 8) = true := by simp; omega
      by_cases hgt : n > most a b
      · -- too long for one of them
        right
        refine ⟨.ret ([], false), ?_, ?_⟩
        · have : (decide ((n : Int) > (a.f1.length : Int)) || decide ((n : Int) > (b.f1.length : Int))) = true := by
            simp only [Bool.or_eq_true, decide_eq_true_eq]
            unfold most at hgt; omega
          simp only [f44_b2, hd, cond_true, cond_or, this, Option.bind_some]
        · refine (hno n ?_ hj).symm
          by_cases h : needs a b ≤ most a b
          · left; omega
          · right; omega
      · have h1 : n ≤ a.f1.length := by unfold most at hgt; omega
        have h2 : n ≤ b.f1.length := by unfold most at hgt; omega
        have hf : (decide ((n : Int) > (a.f1.length : Int)) || decide ((n : Int) > (b.f1.length : Int))) = false := by
          simp only [Bool.or_eq_false_iff, decide_eq_false_iff_not]; omega
        have hg := gather a b n h1 h2 (by omega) (fun s => f44_b1 a b (n : Int) s.1 s.2) (by
          intro l i hi hl
          have hd : decide ((i : Int) < (n : Int)) = true := by simpa using hi
          have hgd : (0 : Int) ≤ i ∧ (i : Int) < (a.f1.length : Int) ∧ (0 : Int) ≤ i ∧ (i : Int) < (a.f1.length : Int) ∧ (0 : Int) ≤ i ∧ (i : Int) < (b.f1.length : Int) := ⟨by omega, by omega, by omega, by omega, by omega, by omega⟩
          simp only [f44_b1, hd, cond_true]
          rw [if_pos hgd, if_pos (by simp only [List.length_cons, List.length_nil]; omega)]
          rfl) (by
          intro l
          simp only [f44_b1, Int.lt_irrefl, decide_false, cond_false])
        have hl : (firstN a b n).length ≤ maxLen := by rw [firstN_length]; omega
        have hbody : f44_b2 a b (n : Int) = cond (fitsAt fits2 a b n) (some (.inr (.ret (firstN a b n, true)))) (some (.inl (w64 ((n : Int) + 1)))) := by
          unfold f44_b2
          simp only [hd, cond_true, cond_or, hf, Option.bind_some, cond_false]
          rw [hg]
          simp only [Option.bind_some, f37_eq a _ hA hl, f37_eq b _ hB hl, cond_and, fitsAt]
        rcases Bool.eq_false_or_eq_true (fitsAt fits2 a b n) with hfit | hfit
        · right
          refine ⟨.ret (firstN a b n, true), by simp only [hbody, hfit, cond_true], ?_⟩
          obtain ⟨k1, k2, k3⟩ := fitsAt_true hfit
          have : n = needs a b := by
            rcases Nat.lt_or_ge (needs a b) n with h | h
            · rw [hj _ h (by omega)] at k3; cases k3
            · omega
          subst this
          show (firstN a b (needs a b), true) = witB a b
          unfold witB
          rw [if_pos ⟨k2, k3⟩]
        · left
          have hw : w64 ((n : Int) + 1) = ((n + 1 : Nat) : Int) := by rw [w64_id (by omega) (by omega)]; rfl
          refine ⟨((n + 1 : Nat) : Int), by simp only [hbody, hfit, cond_false, hw], ⟨n + 1, by omega, by omega, rfl, fun j hjn hjm => ?_⟩, by simp; omega, fun x hx => hx⟩
          rcases Nat.lt_or_ge j n with h | h
          · exact hj j h hjm
          · obtain rfl : j = n := by omega
            exact hfit
    · right
      have hd : decide ((n : Int) ≤ 8) = false := by simp; omega
      refine ⟨.go (), by simp only [f44_b2, hd, cond_false], ?_⟩
      refine (hno n ?_ hj).symm
      by_cases h : needs a b ≤ most a b
      · left; omega
      · right; omega) 0 ⟨0, by omega, by omega, rfl, fun j hj => by omega⟩
  unfold f44
  rw [hx, ← hq]
  cases x <;> rfl

theorem wit_ok (a b : T31) (ha : valid a = true) (hb : valid b = true) : (witA a b).2 = (witB a b).2 ∧ ((witA a b).2 = true → (witA a b).1 = (witB a b).1) ∧ ((witB a b).2 = false → (witB a b).1 = []) := by
  unfold witA witB
  rw [fitsAt_eq ha hb]
  by_cases h : needs a b > most a b
  · rw [if_pos h, if_neg (by rintro ⟨h1, _⟩; omega)]
    exact ⟨rfl, fun h => (by cases h), fun _ => rfl⟩
  · rw [if_neg h]
    rcases Bool.eq_false_or_eq_true (fitsAt fits2 a b (needs a b)) with hf | hf
    · rw [if_pos ⟨by omega, hf⟩]
      exact ⟨hf, fun _ => rfl, fun h => (by cases h)⟩
    · rw [if_neg (by rintro ⟨_, h2⟩; rw [hf] at h2; cases h2)]
      exact ⟨hf, fun h => (by simp only [hf] at h; cases h), fun _ => rfl⟩

/-! ### Elemental ones -/

theorem valid_elem {s : T31} (h : valid s = true) : s.f1.any minusOne = elem s := by
  have h2 := h
  rw [valid_eq] at h2
  simp only [valid2, okFrom_split, Bool.and_eq_true, List.all_eq_true] at h2
  have hq := h2.2.1
  have hel : elem s = true → s.f1.any minusOne = true := by
    intro he
    simp only [elem, Bool.and_eq_true, decide_eq_true_eq] at he
    rw [List.any_eq_true]
    have hlt : 0 < s.f1.length := by omega
    refine ⟨s.f1[0], List.getElem_mem hlt, ?_⟩
    have := he.2
    rw [List.getD_eq_getElem?_getD, List.getElem?_eq_getElem hlt] at this
    exact this
  rcases Bool.eq_false_or_eq_true (elem s) with he | he
  · rw [he]; exact hel he
  · rw [he, List.any_eq_false]
    intro x hx
    have := hq x hx
    simp only [q2, he, Bool.and_eq_true] at this
    simpa [minusOne] using this.2

def ambB (a b : T31) : Bool := (witB a b).2 && (elem a == elem b)

theorem f41_eq (a b : T31) (ha : Short a) (hb : Short b) (va : valid a = true) (vb : valid b = true) : f41 a b = some (ambB a b) := by
  have hA : a.f1.length ≤ maxLen := by have := ha.2; have : (100 : Nat) ≤ maxLen := by decide
                                       omega
  have hB : b.f1.length ≤ maxLen := by have := hb.2; have : (100 : Nat) ≤ maxLen := by decide
                                       omega
  simp only [f41, f43_eq a b ha hb, f32_eq a hA, f32_eq b hB, Option.bind_some, cond_and, (wit_ok a b va vb).1, valid_elem va, valid_elem vb, ambB]

theorem valid_len {s : T31} (h : valid s = true) : s.f1.length ≤ 8 := by
  simp only [valid, Bool.and_eq_true, decide_eq_true_eq] at h
  omega

theorem most_le {a b : T31} (h : valid a = true) : most a b ≤ 8 := by
  have := valid_len h
  unfold most; omega

theorem f42_eq (a b : T31) (ha : Short a) (hb : Short b) (va : valid a = true) : f42 a b = some (ambB a b) := by
  simp only [f42, f44_eq a b ha hb (most_le va), f15_eq, Option.bind_some, cond_and, ambB]

end Go.Sx.gen

namespace Go.Sx.gen
open Go Go.Sx

theorem Short.len {s : T31} (h : Short s) : s.f1.length ≤ maxLen := by
  have := h.2
  have : (100 : Nat) ≤ maxLen := by decide
  omega

def bad (a b : T31) : Bool := !valid a || !valid b

theorem bad_false {a b : T31} (h : bad a b = false) : valid a = true ∧ valid b = true := by
  simp only [bad, Bool.or_eq_false_iff, Bool.not_eq_false'] at h
  exact h

def ambAns (a b : T31) : Bool × Int := cond (bad a b) (false, 2) (ambB a b, 0)

theorem cond_dep {A : Type} {p : Bool} {x : Option A} {u v : A} (h : p = false → x = some v) : cond p (some u) x = some (cond p u v) := by
  cases p with
  | true => rfl
  | false => exact h rfl

theorem f21_eq (a b : T31) (ha : Short a) (hb : Short b) : f21 a b = some (ambAns a b) := by
  unfold f21 ambAns
  rw [f19_eq a ha.1 ha.len, f19_eq b hb.1 hb.len]
  simp only [Option.bind_some, cond_or]
  refine cond_dep fun h => ?_
  obtain ⟨va, vb⟩ := bad_false h
  rw [f41_eq a b ha hb va vb]
  rfl

theorem f22_eq (a b : T31) (ha : Short a) (hb : Short b) : f22 a b = some (ambAns a b) := by
  unfold f22 ambAns
  rw [f20_eq a ha.1 ha.len, f20_eq b hb.1 hb.len, ← valid_eq, ← valid_eq]
  simp only [Option.bind_some, cond_or]
  refine cond_dep fun h => ?_
  obtain ⟨va, vb⟩ := bad_false h
  rw [f42_eq a b ha hb va]
  rfl

def witAns (a b : T31) : List T48 × Int := cond (bad a b) ([], 2) (cond (!(witB a b).2) ([], 5) ((witB a b).1, 0))

theorem f23_eq (a b : T31) (ha : Short a) (hb : Short b) : f23 a b = some (witAns a b) := by
  unfold f23 witAns
  rw [f19_eq a ha.1 ha.len, f19_eq b hb.1 hb.len]
  simp only [Option.bind_some, cond_or]
  refine cond_dep fun h => ?_
  obtain ⟨va, vb⟩ := bad_false h
  rw [f43_eq a b ha hb]
  obtain ⟨w1, w2, _⟩ := wit_ok a b va vb
  simp only [Option.bind_some, cond_some, w1]
  rcases Bool.eq_false_or_eq_true (witB a b).2 with hw | hw
  · rw [hw]; simp only [Bool.not_true, cond_false, w2 (w1.trans hw)]
  · rw [hw]; rfl

theorem f24_eq (a b : T31) (ha : Short a) (hb : Short b) : f24 a b = some (witAns a b) := by
  unfold f24 witAns
  rw [f20_eq a ha.1 ha.len, f20_eq b hb.1 hb.len, ← valid_eq, ← valid_eq]
  simp only [Option.bind_some, cond_or]
  refine cond_dep fun h => ?_
  obtain ⟨va, vb⟩ := bad_false h
  rw [f44_eq a b ha hb (most_le va)]
  simp only [Option.bind_some, cond_some]

theorem f25_refl (l : List T48) (h : l.length ≤ maxLen) : f25 l l = some true := by
  have := iter_list l h (fun i => f25_b1 l l i) (fun _ _ => (Out.go () : Out Bool Unit)) ?_ ?_
  · unfold f25
    rw [this]
    simp
  · intro i x r hi hx _
    have h1 : (0 : Int) ≤ i ∧ (i : Int) < (l.length : Int) ∧ (0 : Int) ≤ i ∧ (i : Int) < (l.length : Int) := ⟨by omega, by omega, by omega, by omega⟩
    have hd : decide ((i : Int) < (l.length : Int)) = true := by simpa using hi
    right
    simp only [f25_b1, Int.toNat_natCast, hx, hd, cond_true, h1, and_self, if_true, decide_true, beq_self_eq_true, Bool.and_self, Bool.not_true, cond_false]
  · simp [f25_b1]

theorem valid_dummy {s : T31} (h : valid s = true) {i : Nat} (hi : i < s.f1.length) : dummyOk (s.f1.getD i default) (-1) = true := by
  simp only [valid, okFrom_split, Bool.and_eq_true, List.all_eq_true] at h
  have := h.2.1 (s.f1.getD i default) (by rw [List.getD_eq_getElem?_getD, List.getElem?_eq_getElem hi]; exact List.getElem_mem hi)
  simp only [q1, Bool.and_eq_true] at this
  exact this.1

theorem callOk_firstN {a b : T31} (va : valid a = true) (vb : valid b = true) {n : Nat} (hn : n ≤ most a b) : callOk (firstN a b n) = true := by
  have h8 := most_le (b := b) va
  simp only [callOk, Bool.and_eq_true, decide_eq_true_eq, List.all_eq_true, firstN_length]
  refine ⟨by omega, fun c hc => ?_⟩
  simp only [firstN, List.mem_map, List.mem_range] at hc
  obtain ⟨i, hi, rfl⟩ := hc
  have h1 := valid_dummy va (i := i) (by unfold most at hn; omega)
  have h2 := valid_dummy vb (i := i) (by unfold most at hn; omega)
  simp only [dummyOk, Bool.and_eq_true, decide_eq_true_eq] at h1 h2 ⊢
  have hr := rk_nonneg (a.f1.getD i default).f1 (b.f1.getD i default).f1
  refine ⟨⟨⟨h1.1.1.1, h1.1.1.2⟩, hr⟩, ?_⟩
  show rk _ _ ≤ 3
  unfold rk
  split
  · omega
  · split <;> omega

theorem short_of_long {l : List T31} (h : long l = false) {s : T31} (hs : s ∈ l) : s.f1.length ≤ 100 ∧ s.f0.length ≤ 100 := by
  simp only [long, Bool.or_eq_false_iff, List.any_eq_false] at h
  have := h.1 s hs
  simp only [longOne, Bool.or_eq_true, decide_eq_true_eq, not_or] at this
  omega

theorem short_of {l : List T31} (h : long l = false) {s : T31} (hs : s ∈ l) : Short s := by
  obtain ⟨h1, h2⟩ := short_of_long h hs
  have : (100 : Nat) ≤ maxLen := by decide
  exact ⟨by omega, h1⟩

namespace Pure
theorem GenericPairs : LawGenericPairs := by
  intro a b _ _
  unfold f7
  rw [f10_eq [a, b] (show 2 ≤ maxLen by decide), awake]
  simp only [Option.bind_some]
  rcases Bool.eq_false_or_eq_true (long [a, b]) with hl | hl
  · rw [hl]; rfl
  · rw [hl]
    have ha := short_of hl (s := a) (by simp)
    have hb := short_of hl (s := b) (by simp)
    have hlen : (witAns a b).1.length ≤ maxLen := by
      have : ∀ n, n ≤ 100 → n ≤ maxLen := by have : (100 : Nat) ≤ maxLen := by decide
                                             omega
      apply this
      unfold witAns
      cases bad a b with
      | true => simp
      | false =>
        unfold witB
        split
        · rename_i h
          simp only [Bool.not_true, cond_false, firstN_length]
          have := ha.2
          have := h.1
          unfold most at this; omega
        · simp
    simp only [cond_false, f21_eq a b ha hb, f22_eq a b ha hb, f23_eq a b ha hb, f24_eq a b ha hb, Option.bind_some, beq_self_eq_true, Bool.not_true, bne_self_eq_false, f25_refl _ hlen]
    rcases Bool.eq_false_or_eq_true ((witAns a b).2 != (0 : Int)) with h0 | h0
    · simp only [h0, cond_true]
    · simp only [h0, cond_false]
      have hbad : bad a b = false := by
        cases hb' : bad a b with
        | false => rfl
        | true => simp [witAns, hb'] at h0
      obtain ⟨va, vb⟩ := bad_false hbad
      have hw : (witB a b).2 = true := by
        cases hw' : (witB a b).2 with
        | true => rfl
        | false => simp [witAns, hbad, hw'] at h0
      have hcond : needs a b ≤ most a b ∧ fitsAt fits2 a b (needs a b) = true := by
        unfold witB at hw
        split at hw
        · assumption
        · cases hw
      have he : (witAns a b).1 = firstN a b (needs a b) := by
        simp only [witAns, hbad, hw, Bool.not_true, cond_false]
        unfold witB
        rw [if_pos hcond]
      have hfa : fitsAt fits1 a b (needs a b) = true := by rw [fitsAt_eq va vb]; exact hcond.2
      simp only [fitsAt, Bool.and_eq_true] at hfa
      have hc := callOk_firstN va vb hcond.1
      rw [he]
      have hl1 : (firstN a b (needs a b)).length ≤ maxLen := by rw [← he]; exact hlen
      rw [f14_eq a _ ha.1 ha.len hl1, f14_eq b _ hb.1 hb.len hl1]
      simp only [fitsAns, va, vb, hc, hfa.1, hfa.2]
      rfl
end Pure
end Go.Sx.gen

namespace Go.Sx.gen
open Go Go.Sx

/-- What fits the call at each place fits the witness. -/
theorem fits_meet (ds es : List T48) (call : List T48) (a b : T31) (n : Nat) (hds : ds = a.f1 ∨ ds = b.f1)
    (hk : ∀ j, j < n → (call.getD j default).f0 = (a.f1.getD j default).f0 ∧ (call.getD j default).f0 = (b.f1.getD j default).f0)
    (hr : ∀ j, j < n → rk (a.f1.getD j default).f1 (b.f1.getD j default).f1 = 0 ∨ rk (a.f1.getD j default).f1 (b.f1.getD j default).f1 = (call.getD j default).f1)
    (hd : ∀ j, j < n → (ds.getD j default).f1 ≥ 0 → rk (a.f1.getD j default).f1 (b.f1.getD j default).f1 = (ds.getD j default).f1) :
    ∀ (m i : Nat) (k k' : Int), i + m = n → (k' > 0 → k' = k) → (call.drop i).length = m → fits2 ds (call.drop i) i k = true → fits2 ds ((List.range' i m).map (wit a b)) i k' = true := by
  intro m
  induction m with
  | zero => intro i k k' _ _ _ _; rfl
  | succ m ih =>
    intro i k k' hi hkk hlen h
    have hlt : i < call.length := by simp at hlen; omega
    have hdrop : call.drop i = call[i] :: call.drop (i + 1) := List.drop_eq_getElem_cons hlt
    have hget : call.getD i default = call[i] := by simp [List.getD_eq_getElem?_getD, hlt]
    rw [hdrop] at h
    rw [List.range'_succ, List.map_cons]
    simp only [fits2] at h ⊢
    obtain ⟨hk1, hk2⟩ := hk i (by omega)
    have hri := hr i (by omega)
    have hdi := hd i (by omega)
    rw [hget] at hk1 hk2 hri
    have hf0 : (wit a b i).f0 = (ds.getD i default).f0 := by
      show (a.f1.getD i default).f0 = _
      rcases hds with rfl | rfl
      · rfl
      · rw [← hk1, hk2]
    have hw : (wit a b i).f1 = rk (a.f1.getD i default).f1 (b.f1.getD i default).f1 := rfl
    have hlen' : (call.drop (i + 1)).length = m := by simp at hlen ⊢; omega
    have e1 : (((ds.getD i default).f0 != (wit a b i).f0) || (decide ((ds.getD i default).f1 ≥ 0) && ((ds.getD i default).f1 != (wit a b i).f1))) = false := by
      rw [hf0, hw]
      simp only [bne_self_eq_false, Bool.false_or, Bool.and_eq_false_iff, decide_eq_false_iff_not]
      by_cases hp : (ds.getD i default).f1 ≥ 0
      · right; rw [hdi hp]; simp
      · left; exact hp
    rw [e1]
    simp only [cond_false]
    rcases Bool.eq_false_or_eq_true (((ds.getD i default).f0 != call[i].f0) || (decide ((ds.getD i default).f1 ≥ 0) && ((ds.getD i default).f1 != call[i].f1))) with c1 | c1
    · rw [c1] at h; cases h
    · rw [c1] at h
      simp only [cond_false] at h
      rcases Bool.eq_false_or_eq_true (decide ((ds.getD i default).f1 < 0) && decide (call[i].f1 > 0)) with c2 | c2
      · rw [c2] at h
        rcases Bool.eq_false_or_eq_true (decide (k > 0) && (k != call[i].f1)) with c3 | c3
        · rw [c3] at h; cases h
        · rw [c3] at h
          simp only [cond_true, cond_false] at h
          simp only [Bool.and_eq_true, decide_eq_true_eq] at c2
          have hkc : k > 0 → k = call[i].f1 := by
            intro hp
            simp only [Bool.and_eq_false_iff, decide_eq_false_iff_not] at c3
            rcases c3 with c3 | c3
            · exact absurd hp c3
            · simpa using c3
          rcases hri with h0 | h1
          · have e2 : (decide ((ds.getD i default).f1 < 0) && decide ((wit a b i).f1 > 0)) = false := by
              rw [hw, h0]; simp
            rw [e2]
            simp only [cond_false]
            exact ih (i + 1) call[i].f1 k' (by omega) (fun hp => by have := hkk hp; have := hkc (by omega); omega) hlen' h
          · have e2 : (decide ((ds.getD i default).f1 < 0) && decide ((wit a b i).f1 > 0)) = true := by
              rw [hw, h1]; simp only [Bool.and_eq_true, decide_eq_true_eq]; exact c2
            rw [e2]
            simp only [cond_true]
            have e3 : (decide (k' > 0) && (k' != (wit a b i).f1)) = false := by
              rw [hw, h1]
              simp only [Bool.and_eq_false_iff, decide_eq_false_iff_not]
              by_cases hp : k' > 0
              · right
                have := hkk hp
                have := hkc (by omega)
                simp; omega
              · left; exact hp
            rw [e3]
            simp only [cond_false, hw, h1]
            exact ih (i + 1) call[i].f1 call[i].f1 (by omega) (fun _ => rfl) hlen' h
      · rw [c2] at h
        simp only [cond_false] at h
        have e2 : (decide ((ds.getD i default).f1 < 0) && decide ((wit a b i).f1 > 0)) = false := by
          rw [hw]
          simp only [Bool.and_eq_false_iff, decide_eq_false_iff_not] at c2 ⊢
          rcases c2 with c2 | c2
          · left; exact c2
          · right
            rcases hri with h0 | h1
            · omega
            · omega
        rw [e2]
        simp only [cond_false]
        exact ih (i + 1) k k' (by omega) hkk hlen' h

theorem fits2_at (ds : List T48) (call : List T48) : ∀ (m i : Nat) (k : Int), (call.drop i).length = m → fits2 ds (call.drop i) i k = true → ∀ j, i ≤ j → j < call.length →
    (ds.getD j default).f0 = (call.getD j default).f0 ∧ ((ds.getD j default).f1 ≥ 0 → (ds.getD j default).f1 = (call.getD j default).f1) := by
  intro m
  induction m with
  | zero => intro i k hl _ j hij hj; simp at hl; omega
  | succ m ih =>
    intro i k hl h j hij hj
    have hlt : i < call.length := by simp at hl; omega
    have hdrop : call.drop i = call[i] :: call.drop (i + 1) := List.drop_eq_getElem_cons hlt
    have hget : call.getD i default = call[i] := by simp [List.getD_eq_getElem?_getD, hlt]
    rw [hdrop] at h
    simp only [fits2] at h
    have hl' : (call.drop (i + 1)).length = m := by simp at hl ⊢; omega
    rcases Bool.eq_false_or_eq_true (((ds.getD i default).f0 != call[i].f0) || (decide ((ds.getD i default).f1 ≥ 0) && ((ds.getD i default).f1 != call[i].f1))) with c1 | c1
    · rw [c1] at h; cases h
    · rw [c1] at h
      simp only [cond_false] at h
      rcases Nat.lt_or_ge i j with hlt2 | hge
      · rcases Bool.eq_false_or_eq_true (decide ((ds.getD i default).f1 < 0) && decide (call[i].f1 > 0)) with c2 | c2
        · rw [c2] at h
          rcases Bool.eq_false_or_eq_true (decide (k > 0) && (k != call[i].f1)) with c3 | c3
          · rw [c3] at h; cases h
          · rw [c3] at h; exact ih (i + 1) _ hl' h j hlt2 hj
        · rw [c2] at h; exact ih (i + 1) _ hl' h j hlt2 hj
      · obtain rfl : i = j := by omega
        rw [hget]
        simp only [Bool.or_eq_false_iff, bne_eq_false_iff_eq, Bool.and_eq_false_iff, decide_eq_false_iff_not] at c1
        exact ⟨c1.1, fun hp => by rcases c1.2 with h2 | h2; exact absurd hp h2; exact h2⟩

theorem rk_cases (x y : Int) : (rk x y = 0 ∧ x ≤ 0 ∧ y ≤ 0) ∨ (rk x y = x ∧ y ≤ x ∧ 0 ≤ x) ∨ (rk x y = y ∧ x ≤ y ∧ 0 ≤ y) := by
  have e : rk x y = max 0 (max x y) := by
    unfold rk
    have : (if y > x then y else x) = max x y := by
      by_cases h : y > x
      · rw [if_pos h]; omega
      · rw [if_neg h]; omega
    rw [this]
    by_cases h : (0 : Int) > max x y
    · rw [if_pos h]; omega
    · rw [if_neg h]; omega
  rw [e]
  omega

theorem meets {a b : T31} {call : List T48} (va : valid a = true) (vb : valid b = true) (ha : fitsB fits2 a call = true) (hb : fitsB fits2 b call = true) : fitsAt fits2 a b call.length = true := by
  obtain ⟨a1, a2, a3⟩ := fitsB_true.1 ha
  obtain ⟨b1, b2, b3⟩ := fitsB_true.1 hb
  have fa := fits2_at a.f1 call call.length 0 0 (by simp) (by simpa using a3)
  have fb := fits2_at b.f1 call call.length 0 0 (by simp) (by simpa using b3)
  have ra : ∀ j, j < call.length → (a.f1.getD j default).f1 ≥ -1 := fun j hj => by
    rw [List.getD_eq_getElem?_getD, List.getElem?_eq_getElem (show j < a.f1.length by omega)]; exact valid_rank va _ (List.getElem_mem _)
  have rb : ∀ j, j < call.length → (b.f1.getD j default).f1 ≥ -1 := fun j hj => by
    rw [List.getD_eq_getElem?_getD, List.getElem?_eq_getElem (show j < b.f1.length by omega)]; exact valid_rank vb _ (List.getElem_mem _)
  have hk : ∀ j, j < call.length → (call.getD j default).f0 = (a.f1.getD j default).f0 ∧ (call.getD j default).f0 = (b.f1.getD j default).f0 := fun j hj => ⟨(fa j (by omega) hj).1.symm, (fb j (by omega) hj).1.symm⟩
  have hr : ∀ j, j < call.length → rk (a.f1.getD j default).f1 (b.f1.getD j default).f1 = 0 ∨ rk (a.f1.getD j default).f1 (b.f1.getD j default).f1 = (call.getD j default).f1 := fun j hj => by
    have h1 := (fa j (by omega) hj).2
    have h2 := (fb j (by omega) hj).2
    have h3 := ra j hj
    have h4 := rb j hj
    rcases rk_cases (a.f1.getD j default).f1 (b.f1.getD j default).f1 with h | h | h <;> omega
  have hda : ∀ j, j < call.length → (a.f1.getD j default).f1 ≥ 0 → rk (a.f1.getD j default).f1 (b.f1.getD j default).f1 = (a.f1.getD j default).f1 := fun j hj hp => by
    have h1 := (fa j (by omega) hj).2
    have h2 := (fb j (by omega) hj).2
    have h4 := rb j hj
    rcases rk_cases (a.f1.getD j default).f1 (b.f1.getD j default).f1 with h | h | h <;> omega
  have hdb : ∀ j, j < call.length → (b.f1.getD j default).f1 ≥ 0 → rk (a.f1.getD j default).f1 (b.f1.getD j default).f1 = (b.f1.getD j default).f1 := fun j hj hp => by
    have h1 := (fa j (by omega) hj).2
    have h2 := (fb j (by omega) hj).2
    have h4 := ra j hj
    rcases rk_cases (a.f1.getD j default).f1 (b.f1.getD j default).f1 with h | h | h <;> omega
  have ka := fits_meet a.f1 b.f1 call a b call.length (.inl rfl) hk hr hda call.length 0 0 0 (by omega) (fun _ => rfl) (by simp) (by simpa using a3)
  have kb := fits_meet b.f1 a.f1 call a b call.length (.inr rfl) hk hr hdb call.length 0 0 0 (by omega) (fun _ => rfl) (by simp) (by simpa using b3)
  rw [← List.range_eq_range'] at ka kb
  simp only [fitsAt, Bool.and_eq_true, fitsB_true, firstN_length]
  exact ⟨⟨a1, a2, ka⟩, b1, b2, kb⟩

namespace Pure
theorem GenericMeets : LawGenericMeets := by
  intro a b call _ _ hcall
  have hcl : call.length ≤ maxLen := hcall.1
  unfold f8
  rw [f10_eq [a, b] (show 2 ≤ maxLen by decide), awake]
  simp only [Option.bind_some, cond_or]
  rcases Bool.eq_false_or_eq_true (long [a, b] || decide ((call.length : Int) > 100)) with hl | hl
  · rw [hl]; rfl
  · rw [hl]
    simp only [Bool.or_eq_false_iff] at hl
    have ha := short_of hl.1 (s := a) (by simp)
    have hb := short_of hl.1 (s := b) (by simp)
    simp only [cond_false, f14_eq a call ha.1 ha.len hcl, f14_eq b call hb.1 hb.len hcl, Option.bind_some, cond_or]
    rcases Bool.eq_false_or_eq_true (((((fitsAns (valid a) fits1 a call).2 != (0 : Int)) || ((fitsAns (valid b) fits1 b call).2 != (0 : Int))) || !(fitsAns (valid a) fits1 a call).1) || !(fitsAns (valid b) fits1 b call).1) with hx | hx
    · rw [hx]; rfl
    · rw [hx]
      simp only [Bool.or_eq_false_iff, Bool.not_eq_false', bne_eq_false_iff_eq] at hx
      obtain ⟨⟨⟨x1, x2⟩, x3⟩, x4⟩ := hx
      have get : ∀ s : T31, (fitsAns (valid s) fits1 s call).2 = 0 → (fitsAns (valid s) fits1 s call).1 = true → valid s = true ∧ callOk call = true ∧ fitsB fits1 s call = true := by
        intro s h1 h2
        unfold fitsAns at h1 h2
        rcases Bool.eq_false_or_eq_true (!valid s || !callOk call) with h | h
        · rw [h] at h1; cases h1
        · rw [h] at h2
          simp only [Bool.or_eq_false_iff, Bool.not_eq_false'] at h
          exact ⟨h.1, h.2, h2⟩
      obtain ⟨va, vc, fa⟩ := get a x1 x3
      obtain ⟨vb, _, fb⟩ := get b x2 x4
      rw [fitsB_eq va (callOk_rank vc)] at fa
      rw [fitsB_eq vb (callOk_rank vc)] at fb
      obtain ⟨m1, m2, m3⟩ := fitsAt_true (meets va vb fa fb)
      have hw : (witB a b).2 = true := by unfold witB; rw [if_pos ⟨by omega, m3⟩]
      have hbad : bad a b = false := by simp [bad, va, vb]
      simp only [cond_false, f23_eq a b ha hb, f21_eq a b ha hb, f15_eq, Option.bind_some, witAns, ambAns, hbad, hw, ambB, Bool.not_true, Bool.true_and, beq_self_eq_true, cond_true]
      rfl
end Pure
end Go.Sx.gen

namespace Go.Sx.gen
open Go Go.Sx

def AllOk (l : List T31) : Prop := ∀ s ∈ l, Short s ∧ valid s = true

theorem AllOk.get {l : List T31} (h : AllOk l) {i : Nat} (hi : i < l.length) : Short (l.getD i default) ∧ valid (l.getD i default) = true := by
  refine h _ ?_
  rw [List.getD_eq_getElem?_getD, List.getElem?_eq_getElem hi]
  exact List.getElem_mem hi

/-- The first ahead of place b that is ambiguous with it. -/
def firstIn (l : List T31) (b : Nat) : Option Nat := findFrom (fun a => ambB a (l.getD b default)) (l.take b) 0

def outIn (b : Nat) : Option Nat → Out (Int × Int × Bool) Unit
  | some a => .ret ((a : Int), (b : Int), true)
  | none => .go ()

theorem inner_eq (l : List T31) (hl : l.length ≤ maxLen) (ok : AllOk l) (n : Nat) (hn : n < l.length) (f : T31 → T31 → Option Bool)
    (hf : ∀ a b, Short a → Short b → valid a = true → valid b = true → f a b = some (ambB a b)) (body : Int → Option (Int ⊕ Out (Int × Int × Bool) Unit))
    (hb : ∀ v3, body v3 = cond (decide (v3 < (n : Int))) (if (0 : Int) ≤ v3 ∧ v3 < (l.length : Int) ∧ (0 : Int) ≤ n ∧ (n : Int) < (l.length : Int) then (f (l.getD v3.toNat default) (l.getD n default)).bind fun v4 => cond v4 (some (.inr (.ret (v3, (n : Int), true)))) (some (.inl (w64 (v3 + (1 : Int))))) else none) (some (.inr (.go ())))) :
    iter body 0 = some (outIn n (firstIn l n)) := by
  have hlen : (l.take n).length = n := by simp; omega
  refine iter_list (l.take n) (by omega) body (fun r i => outIn n (findFrom (fun a => ambB a (l.getD n default)) r i)) ?_ ?_
  · intro i x r hi hx _
    have hi' : i < n := by omega
    have h1 : (0 : Int) ≤ i ∧ (i : Int) < (l.length : Int) ∧ (0 : Int) ≤ n ∧ (n : Int) < (l.length : Int) := ⟨by omega, by omega, by omega, by omega⟩
    have hd : decide ((i : Int) < (n : Int)) = true := by simpa using hi'
    have hx' : l.getD i default = x := by
      rw [← hx]; simp only [List.getD_eq_getElem?_getD, List.getElem?_take, hi', if_true]
    have o1 := ok.get (i := i) (by omega)
    have o2 := ok.get hn
    rw [hx'] at o1
    rw [hb, hd]
    simp only [cond_true, Int.toNat_natCast, hx', h1, and_self, if_true, hf x _ o1.1 o2.1 o1.2 o2.2, Option.bind_some]
    by_cases hp : ambB x (l.getD n default) = true
    · left; simp only [hp, cond_true, findFrom, if_true, outIn]
    · right
      have hp' : ambB x (l.getD n default) = false := by simpa using hp
      simp only [hp', cond_false, findFrom, if_false, Bool.false_eq_true, and_self]
  · rw [hlen, hb]; simp [findFrom, outIn]

/-- From place b on. -/
def pairFrom (l : List T31) : List T31 → Nat → Out (Int × Int × Bool) Unit
  | [], _ => .go ()
  | _ :: r, b => match firstIn l b with
    | some a => .ret ((a : Int), (b : Int), true)
    | none => pairFrom l r (b + 1)

def pairOf : Out (Int × Int × Bool) Unit → Int × Int × Bool
  | .ret v => v
  | .go _ => (0, 0, false)

theorem outer_eq (l : List T31) (hl : l.length ≤ maxLen) (body : Int → Option (Int ⊕ Out (Int × Int × Bool) Unit)) (inner : Int → Option (Out (Int × Int × Bool) Unit)) (hi : ∀ n : Nat, n < l.length → inner n = some (outIn n (firstIn l n)))
    (hb : ∀ v2, body v2 = cond (decide (v2 < (l.length : Int))) ((inner v2).bind fun y => match y with | .ret v5 => some (.inr (.ret (v5.1, v5.2.1, v5.2.2))) | .go _ => some (.inl (w64 (v2 + (1 : Int))))) (some (.inr (.go ())))) :
    iter body 0 = some (pairFrom l l 0) := by
  refine iter_list l hl body (fun r b => pairFrom l r b) ?_ ?_
  · intro i x r hlt _ _
    have hd : decide ((i : Int) < (l.length : Int)) = true := by simpa using hlt
    rw [hb, hd]
    simp only [cond_true, hi i hlt, Option.bind_some, pairFrom]
    cases firstIn l i with
    | some a => left; rfl
    | none => right; exact ⟨rfl, rfl⟩
  · rw [hb]; simp [pairFrom]

theorem f31_eq (l : List T31) (hl : l.length ≤ maxLen) (ok : AllOk l) : f31 l = some (pairOf (pairFrom l l 0)) := by
  unfold f31
  rw [outer_eq l hl (fun s => f31_b2 l s) (fun v2 => iter (fun s => f31_b1 l v2 s) 0) (fun n hn => inner_eq l hl ok n hn f41 (fun a b ha hb va vb => f41_eq a b ha hb va vb) _ (fun _ => rfl)) (fun _ => rfl)]
  cases pairFrom l l 0 <;> rfl

theorem f36_eq (l : List T31) (hl : l.length ≤ maxLen) (ok : AllOk l) : f36 l = some (pairOf (pairFrom l l 0)) := by
  unfold f36
  rw [outer_eq l hl (fun s => f36_b2 l s) (fun v2 => iter (fun s => f36_b1 l v2 s) 0) (fun n hn => inner_eq l hl ok n hn f42 (fun a b ha hb va _ => f42_eq a b ha hb va) _ (fun _ => rfl)) (fun _ => rfl)]
  cases pairFrom l l 0 <;> rfl

theorem allOk_of {l : List T31} (hs : ∀ s ∈ l, Short s) (h : isListB l = true) : AllOk l := by
  have key : ∀ (r : List T31) (i : Nat), listOk l r i = true → ∀ s ∈ r, valid s = true := by
    intro r
    induction r with
    | nil => intro i _ s hs; simp at hs
    | cons x r ih =>
      intro i hi s hs
      simp only [listOk, Bool.and_eq_true] at hi
      rcases List.mem_cons.1 hs with rfl | hs
      · exact hi.1.1
      · exact ih (i + 1) hi.2 s hs
  simp only [isListB, Bool.and_eq_true] at h
  exact fun s hm => ⟨hs s hm, key l 0 h.1 s hm⟩

end Go.Sx.gen

namespace Go.Sx.gen
open Go Go.Sx

def checkAns (l : List T31) : Int × Int × Int :=
  cond (!isListB l) (0, 0, 2) (cond (pairOf (pairFrom l l 0)).2.2 ((pairOf (pairFrom l l 0)).1, (pairOf (pairFrom l l 0)).2.1, 8) (0, 0, 0))

theorem small_of {l : List T31} (hl : l.length ≤ maxLen) (hs : ∀ s ∈ l, Short s) : Small l := ⟨hl, fun s h => ⟨(hs s h).1, (hs s h).len⟩⟩

theorem f17_eq (l : List T31) (hl : l.length ≤ maxLen) (hs : ∀ s ∈ l, Short s) : f17 l = some (checkAns l) := by
  unfold f17 checkAns
  rw [f29_eq l (small_of hl hs)]
  simp only [Option.bind_some]
  refine cond_dep fun h => ?_
  rw [f31_eq l hl (allOk_of hs (by simpa using h))]
  simp only [Option.bind_some, cond_some]

theorem f18_eq (l : List T31) (hl : l.length ≤ maxLen) (hs : ∀ s ∈ l, Short s) : f18 l = some (checkAns l) := by
  unfold f18 checkAns
  rw [f34_eq l (small_of hl hs)]
  simp only [Option.bind_some]
  refine cond_dep fun h => ?_
  rw [f36_eq l hl (allOk_of hs (by simpa using h))]
  simp only [Option.bind_some, cond_some]

namespace Pure
theorem GenericChecks : LawGenericChecks := by
  intro l hl0
  have hl : l.length ≤ maxLen := hl0.1
  unfold f5
  rw [f10_eq l hl, awake]
  simp only [Option.bind_some]
  rcases Bool.eq_false_or_eq_true (long l) with h | h
  · rw [h]; rfl
  · rw [h]
    have hs : ∀ s ∈ l, Short s := fun s hm => short_of h hm
    have hloop : iter (fun s => f5_b1 l s) 0 = some (Out.go ()) := by
      refine iter_list l hl (fun s => f5_b1 l s) (fun _ _ => (Out.go () : Out Bool Unit)) ?_ ?_
      · intro i x r hi hx _
        have h1 : (0 : Int) ≤ i ∧ (i : Int) < (l.length : Int) ∧ (0 : Int) ≤ i ∧ (i : Int) < (l.length : Int) := ⟨by omega, by omega, by omega, by omega⟩
        have hd : decide ((i : Int) < (l.length : Int)) = true := by simpa using hi
        have hg := (small_of hl hs).get hi hx
        right
        simp only [f5_b1, hd, cond_true]
        rw [if_pos h1]
        simp only [Int.toNat_natCast, hx, f19_eq x hg.1 hg.2, f20_eq x hg.1 hg.2, ← valid_eq, Option.bind_some, beq_self_eq_true, Bool.not_true, cond_false, and_self]
      · simp [f5_b1]
    simp only [cond_false, f17_eq l hl hs, f18_eq l hl hs, Option.bind_some, hloop, beq_self_eq_true, cond_true]
end Pure
end Go.Sx.gen

namespace Go.Sx.gen
open Go Go.Sx

def takesIt (call : List T48) (t : Bool) (s : T31) : Bool := (elem s == t) && fitsB fits2 s call

def outPick : Option Nat → Out (Int × Int) Unit
  | some i => .ret ((i : Int), 0)
  | none => .go ()

theorem f12_in (l : List T31) (hl : l.length ≤ maxLen) (ok : AllOk l) (call : List T48) (hc : call.length ≤ maxLen) (hr : ∀ c ∈ call, c.f1 ≥ 0) (v7 : Int) (t : Bool) (ht : [false, true].getD v7.toNat default = t) :
    iter (fun s => f12_b1 l call v7 s) 0 = some (outPick (findFrom (takesIt call t) l 0)) := by
  refine iter_list l hl (fun s => f12_b1 l call v7 s) (fun r i => outPick (findFrom (takesIt call t) r i)) ?_ ?_
  · intro i x r hi hx _
    have h1 : (0 : Int) ≤ i ∧ (i : Int) < (l.length : Int) := ⟨by omega, by omega⟩
    have hd : decide ((i : Int) < (l.length : Int)) = true := by simpa using hi
    have o := ok.get hi
    rw [hx] at o
    simp only [f12_b1, hd, cond_true]
    rw [if_pos h1]
    simp only [Int.toNat_natCast, hx, f32_eq x o.1.len, valid_elem o.2, f33_eq x call o.1.len hc, fitsB_eq o.2 hr, ht, Option.bind_some, cond_and]
    by_cases hp : takesIt call t x = true
    · left
      have hp2 : (elem x == t && fitsB fits2 x call) = true := hp
      simp only [hp2, cond_true, findFrom, hp, if_true, outPick]
    · right
      have hp' : takesIt call t x = false := by simpa using hp
      have hp2 : (elem x == t && fitsB fits2 x call) = false := hp'
      simp only [hp2, cond_false, findFrom, hp', if_false, Bool.false_eq_true, and_self]
  · simp [f12_b1, findFrom, outPick]

theorem f13_in (l : List T31) (hl : l.length ≤ maxLen) (ok : AllOk l) (call : List T48) (hc : call.length ≤ maxLen) (v7 : Int) (t : Bool) (ht : (v7 == (1 : Int)) = t) :
    iter (fun s => f13_b1 l call v7 s) 0 = some (outPick (findFrom (takesIt call t) l 0)) := by
  refine iter_list l hl (fun s => f13_b1 l call v7 s) (fun r i => outPick (findFrom (takesIt call t) r i)) ?_ ?_
  · intro i x r hi hx _
    have h1 : (0 : Int) ≤ i ∧ (i : Int) < (l.length : Int) := ⟨by omega, by omega⟩
    have hd : decide ((i : Int) < (l.length : Int)) = true := by simpa using hi
    have o := ok.get hi
    rw [hx] at o
    simp only [f13_b1, hd, cond_true]
    rw [if_pos h1]
    simp only [Int.toNat_natCast, hx, f15_eq, f37_eq x call o.1.len hc, ht, Option.bind_some, if_pos h1, cond_and]
    by_cases hp : takesIt call t x = true
    · left
      have hp2 : (elem x == t && fitsB fits2 x call) = true := hp
      simp only [hp2, cond_true, findFrom, hp, if_true, outPick]
    · right
      have hp' : takesIt call t x = false := by simpa using hp
      have hp2 : (elem x == t && fitsB fits2 x call) = false := hp'
      simp only [hp2, cond_false, findFrom, hp', if_false, Bool.false_eq_true, and_self]
  · simp [f13_b1, findFrom, outPick]

end Go.Sx.gen

namespace Go.Sx.gen
open Go Go.Sx

def pick2 (l : List T31) (call : List T48) : Out (Int × Int) Unit :=
  match findFrom (takesIt call false) l 0 with
  | some i => .ret ((i : Int), 0)
  | none => outPick (findFrom (takesIt call true) l 0)

theorem f12_out (l : List T31) (hl : l.length ≤ maxLen) (ok : AllOk l) (call : List T48) (hc : call.length ≤ maxLen) (hr : ∀ c ∈ call, c.f1 ≥ 0) : iter (fun s => f12_b2 l call s) 0 = some (pick2 l call) := by
  have h0 := f12_in l hl ok call hc hr 0 false rfl
  have h1 := f12_in l hl ok call hc hr 1 true rfl
  have e0 : f12_b2 l call 0 = match findFrom (takesIt call false) l 0 with | some i => some (.inr (.ret ((i : Int), 0))) | none => some (.inl 1) := by
    unfold f12_b2
    rw [h0]
    cases findFrom (takesIt call false) l 0 <;> rfl
  have e1 : f12_b2 l call 1 = match findFrom (takesIt call true) l 0 with | some i => some (.inr (.ret ((i : Int), 0))) | none => some (.inl 2) := by
    unfold f12_b2
    rw [h1]
    cases findFrom (takesIt call true) l 0 <;> rfl
  have e2 : f12_b2 l call 2 = some (.inr (.go ())) := rfl
  unfold pick2
  cases hf : findFrom (takesIt call false) l 0 with
  | some i => rw [hf] at e0; exact iter_inr e0
  | none =>
    rw [hf] at e0
    rw [iter_inl e0]
    cases ht : findFrom (takesIt call true) l 0 with
    | some i => rw [ht] at e1; exact iter_inr e1
    | none => rw [ht] at e1; rw [iter_inl e1]; exact iter_inr e2

theorem f13_out (l : List T31) (hl : l.length ≤ maxLen) (ok : AllOk l) (call : List T48) (hc : call.length ≤ maxLen) : iter (fun s => f13_b2 l call s) 0 = some (pick2 l call) := by
  have h0 := f13_in l hl ok call hc 0 false rfl
  have h1 := f13_in l hl ok call hc 1 true rfl
  have e0 : f13_b2 l call 0 = match findFrom (takesIt call false) l 0 with | some i => some (.inr (.ret ((i : Int), 0))) | none => some (.inl 1) := by
    unfold f13_b2
    rw [h0]
    cases findFrom (takesIt call false) l 0 <;> rfl
  have e1 : f13_b2 l call 1 = match findFrom (takesIt call true) l 0 with | some i => some (.inr (.ret ((i : Int), 0))) | none => some (.inl 2) := by
    unfold f13_b2
    rw [h1]
    cases findFrom (takesIt call true) l 0 <;> rfl
  have e2 : f13_b2 l call 2 = some (.inr (.go ())) := rfl
  unfold pick2
  cases hf : findFrom (takesIt call false) l 0 with
  | some i => rw [hf] at e0; exact iter_inr e0
  | none =>
    rw [hf] at e0
    rw [iter_inl e0]
    cases ht : findFrom (takesIt call true) l 0 with
    | some i => rw [ht] at e1; exact iter_inr e1
    | none => rw [ht] at e1; rw [iter_inl e1]; exact iter_inr e2

end Go.Sx.gen

namespace Go.Sx.gen
open Go Go.Sx

def numOf : Out (Int × Int) Unit → Int × Int
  | .ret v => v
  | .go _ => (0, 5)

def resAns (l : List T31) (call : List T48) : Int × Int :=
  cond (!isListB l || !callOk call) (0, 2) (cond (pairOf (pairFrom l l 0)).2.2 (0, 8) (numOf (pick2 l call)))

theorem f12_eq (l : List T31) (hl : l.length ≤ maxLen) (hs : ∀ s ∈ l, Short s) (call : List T48) (hc : call.length ≤ maxLen) : f12 l call = some (resAns l call) := by
  unfold f12 resAns
  rw [f29_eq l (small_of hl hs), f30_eq call hc]
  simp only [Option.bind_some, cond_or]
  refine cond_dep fun h => ?_
  simp only [Bool.or_eq_false_iff, Bool.not_eq_false'] at h
  have ok := allOk_of hs h.1
  rw [f31_eq l hl ok]
  simp only [Option.bind_some]
  refine cond_dep fun _ => ?_
  rw [f12_out l hl ok call hc (callOk_rank h.2)]
  cases pick2 l call <;> rfl

theorem f13_eq (l : List T31) (hl : l.length ≤ maxLen) (hs : ∀ s ∈ l, Short s) (call : List T48) (hc : call.length ≤ maxLen) : f13 l call = some (resAns l call) := by
  unfold f13 resAns
  rw [f34_eq l (small_of hl hs), f35_eq call hc]
  simp only [Option.bind_some, cond_or]
  refine cond_dep fun h => ?_
  simp only [Bool.or_eq_false_iff, Bool.not_eq_false'] at h
  have ok := allOk_of hs h.1
  rw [f36_eq l hl ok]
  simp only [Option.bind_some]
  refine cond_dep fun _ => ?_
  rw [f13_out l hl ok call hc]
  cases pick2 l call <;> rfl

theorem findFrom_some {A : Type} [Inhabited A] {p : A → Bool} : ∀ {l : List A} {i k : Nat}, findFrom p l i = some k → i ≤ k ∧ k < i + l.length ∧ p (l.getD (k - i) default) = true
  | [], _, _, h => by cases h
  | x :: r, i, k, h => by
    simp only [findFrom] at h
    by_cases hp : p x = true
    · rw [if_pos hp] at h
      cases h
      exact ⟨Nat.le_refl _, by simp, by simpa using hp⟩
    · rw [if_neg hp] at h
      obtain ⟨h1, h2, h3⟩ := findFrom_some h
      refine ⟨by omega, by simp only [List.length_cons]; omega, ?_⟩
      rw [show k - i = (k - (i + 1)) + 1 by omega, List.getD_cons_succ]
      exact h3

theorem findFrom_none {A : Type} [Inhabited A] {p : A → Bool} : ∀ {l : List A} {i : Nat}, findFrom p l i = none → ∀ j, j < l.length → p (l.getD j default) = false
  | [], _, _, j, hj => by simp at hj
  | x :: r, i, h, j, hj => by
    simp only [findFrom] at h
    by_cases hp : p x = true
    · rw [if_pos hp] at h; cases h
    · rw [if_neg hp] at h
      cases j with
      | zero => simpa using hp
      | succ j => rw [List.getD_cons_succ]; exact findFrom_none h j (by simpa using hj)

theorem pairFrom_none {l : List T31} : ∀ {r : List T31} {b : Nat}, (pairOf (pairFrom l r b)).2.2 = false → ∀ j, b ≤ j → j < b + r.length → firstIn l j = none
  | [], b, _, j, h1, h2 => by simp at h2; omega
  | x :: r, b, h, j, h1, h2 => by
    simp only [pairFrom] at h
    cases hf : firstIn l b with
    | some a => rw [hf] at h; cases h
    | none =>
      rw [hf] at h
      by_cases hj : j = b
      · subst hj; exact hf
      · exact pairFrom_none h j (by omega) (by simp only [List.length_cons] at h2; omega)

theorem noPair {l : List T31} (h : (pairOf (pairFrom l l 0)).2.2 = false) {a b : Nat} (hab : a < b) (hb : b < l.length) : ambB (l.getD a default) (l.getD b default) = false := by
  have hf := pairFrom_none h b (Nat.zero_le _) (by omega)
  have := findFrom_none hf a (by simp; omega)
  have hx : (l.take b).getD a default = l.getD a default := by
    simp only [List.getD_eq_getElem?_getD, List.getElem?_take, hab, if_true]
  rw [hx] at this
  exact this

theorem noTwo {l : List T31} (ok : AllOk l) (h : (pairOf (pairFrom l l 0)).2.2 = false) {call : List T48} {i j : Nat} (hi : i < l.length) (hj : j < l.length) (hne : i ≠ j)
    (fi : fitsB fits2 (l.getD i default) call = true) (fj : fitsB fits2 (l.getD j default) call = true) : elem (l.getD i default) ≠ elem (l.getD j default) := by
  intro he
  have key : ∀ a b, a < b → b < l.length → fitsB fits2 (l.getD a default) call = true → fitsB fits2 (l.getD b default) call = true → elem (l.getD a default) = elem (l.getD b default) → False := by
    intro a b hab hb fa fb he
    have oa := ok.get (i := a) (by omega)
    have ob := ok.get hb
    obtain ⟨m1, m2, m3⟩ := fitsAt_true (meets oa.2 ob.2 fa fb)
    have hw : (witB (l.getD a default) (l.getD b default)).2 = true := by unfold witB; rw [if_pos ⟨by omega, m3⟩]
    have := noPair h hab hb
    unfold ambB at this
    rw [hw, he] at this
    simp at this
  rcases Nat.lt_or_gt_of_ne hne with h1 | h1
  · exact key i j h1 hj fi fj he
  · exact key j i h1 hi fj fi he.symm

end Go.Sx.gen

namespace Go.Sx.gen
open Go Go.Sx

theorem resAns_ok {l : List T31} {call : List T48} (hs : ∀ s ∈ l, Short s) (h : (resAns l call).2 = 0) : AllOk l ∧ callOk call = true ∧ ∃ n : Nat, resAns l call = ((n : Int), 0) ∧ n < l.length ∧ fitsB fits2 (l.getD n default) call = true ∧
    ∀ j, j < l.length → j ≠ n → fitsB fits2 (l.getD j default) call = true → elem (l.getD n default) = false ∧ elem (l.getD j default) = true := by
  unfold resAns at h ⊢
  rcases Bool.eq_false_or_eq_true (!isListB l || !callOk call) with h1 | h1
  · rw [h1] at h; cases h
  · rw [h1] at h ⊢
    simp only [Bool.or_eq_false_iff, Bool.not_eq_false'] at h1
    have ok := allOk_of hs h1.1
    refine ⟨ok, h1.2, ?_⟩
    simp only [cond_false] at h ⊢
    rcases Bool.eq_false_or_eq_true (pairOf (pairFrom l l 0)).2.2 with h2 | h2
    · rw [h2] at h; cases h
    · rw [h2] at h ⊢
      simp only [cond_false] at h ⊢
      unfold pick2 at h ⊢
      cases hf : findFrom (takesIt call false) l 0 with
      | some n =>
        obtain ⟨_, h4, h5⟩ := findFrom_some hf
        simp only [takesIt, Nat.sub_zero, Bool.and_eq_true, beq_iff_eq] at h5
        refine ⟨n, rfl, by omega, h5.2, fun j hj hne fj => ⟨h5.1, ?_⟩⟩
        have := noTwo ok h2 hj (show n < l.length by omega) hne fj h5.2
        rw [h5.1] at this
        simpa using this
      | none =>
        rw [hf] at h
        simp only at h ⊢
        have hno := findFrom_none hf
        cases ht : findFrom (takesIt call true) l 0 with
        | none => rw [ht] at h; cases h
        | some n =>
          obtain ⟨_, h4, h5⟩ := findFrom_some ht
          simp only [takesIt, Nat.sub_zero, Bool.and_eq_true, beq_iff_eq] at h5
          refine ⟨n, rfl, by omega, h5.2, fun j hj hne fj => ?_⟩
          have h6 := hno j hj
          simp only [takesIt, fj, Bool.and_true] at h6
          have h7 : elem (l.getD j default) = true := by simpa using h6
          have := noTwo ok h2 hj (show n < l.length by omega) hne fj h5.2
          rw [h5.1, h7] at this
          exact absurd rfl this

theorem fitting {s : T31} {call : List T48} (o : Short s ∧ valid s = true) (hc : callOk call = true) (hl : call.length ≤ maxLen) : f14 s call = some (fitsB fits2 s call, 0) := by
  rw [f14_eq s call o.1.1 o.1.len hl, ← fitsB_eq o.2 (callOk_rank hc)]
  simp only [fitsAns, o.2, hc]
  rfl

namespace Pure
theorem GenericResolves : LawGenericResolves := by
  intro l call hl0 hc0
  have hl : l.length ≤ maxLen := hl0.1
  have hc : call.length ≤ maxLen := hc0.1
  unfold f3
  rw [f10_eq l hl, awake]
  simp only [Option.bind_some, cond_or]
  rcases Bool.eq_false_or_eq_true (long l || decide ((call.length : Int) > 100)) with h | h
  · rw [h]; rfl
  · rw [h]
    simp only [Bool.or_eq_false_iff] at h
    have hs : ∀ s ∈ l, Short s := fun s hm => short_of h.1 hm
    simp only [cond_false, f12_eq l hl hs call hc, f13_eq l hl hs call hc, Option.bind_some, bne_self_eq_false, Bool.or_self]
    rcases Bool.eq_false_or_eq_true ((resAns l call).2 != (0 : Int)) with h0 | h0
    · rw [h0]; rfl
    · rw [h0]
      have h0' : (resAns l call).2 = 0 := by simpa using h0
      obtain ⟨ok, hcall, n, hr, hn, hfit, hrest⟩ := resAns_ok hs h0'
      rw [hr]
      have hg : (0 : Int) ≤ ((n : Nat) : Int) ∧ ((n : Nat) : Int) < (l.length : Int) := ⟨by omega, by omega⟩
      have hloop : iter (fun s => f3_b1 l call ((n : Int), 0) s) 0 = some (Out.go ()) := by
        refine iter_list l hl (fun s => f3_b1 l call ((n : Int), 0) s) (fun _ _ => (Out.go () : Out Bool Unit)) ?_ ?_
        · intro i x r hi hx _
          have h1 : (0 : Int) ≤ i ∧ (i : Int) < (l.length : Int) := ⟨by omega, by omega⟩
          have hd : decide ((i : Int) < (l.length : Int)) = true := by simpa using hi
          right
          have o := ok.get hi
          simp only [f3_b1, hd, cond_true]
          rw [if_pos h1]
          simp only [Int.toNat_natCast, fitting o hcall hc, Option.bind_some, bne_self_eq_false, cond_false, if_pos hg, if_pos h1, f15_eq, cond_or, cond_and]
          have hz : ((fitsB fits2 (l.getD i default) call && (((i : Nat) : Int) != ((n : Nat) : Int))) && (elem (l.getD n default) || !elem (l.getD i default))) = false := by
            rcases Bool.eq_false_or_eq_true (fitsB fits2 (l.getD i default) call) with hf | hf
            · by_cases hin : i = n
              · subst hin; simp
              · obtain ⟨r1, r2⟩ := hrest i hi hin hf
                rw [r1, r2]; simp
            · rw [hf]; rfl
          rw [hz]
          exact ⟨rfl, trivial⟩
        · simp [f3_b1]
      simp only [cond_false, if_pos hg, Int.toNat_natCast, fitting (ok.get hn) hcall hc, hfit, Option.bind_some, bne_self_eq_false, Bool.not_true, Bool.or_self, hloop]
end Pure
end Go.Sx.gen

namespace Go.Sx.gen
open Go Go.Sx

theorem listOk_iff : ∀ (r p : List T31), listOk (p ++ r) r p.length = true ↔ (∀ s ∈ r, valid s = true) ∧ (r.Pairwise fun s t => s.f0 ≠ t.f0) ∧ ∀ s ∈ p, ∀ t ∈ r, s.f0 ≠ t.f0
  | [], p => by simp [listOk]
  | x :: r, p => by
    have ih := listOk_iff r (p ++ [x])
    rw [List.append_assoc, List.singleton_append, List.length_append, List.length_singleton] at ih
    simp only [listOk, Bool.and_eq_true, Bool.not_eq_true', ih, List.take_left]
    simp only [List.any_eq_false, beq_iff_eq, List.mem_cons, List.mem_append, List.not_mem_nil, or_false, forall_eq_or_imp, List.pairwise_cons]
    constructor
    · rintro ⟨⟨h1, h2⟩, h3, h4, h5⟩
      exact ⟨⟨h1, h3⟩, ⟨fun t ht => h5 x (.inr rfl) t ht, h4⟩, fun s hs => ⟨h2 s hs, h5 s (.inl hs)⟩⟩
    · rintro ⟨⟨h1, h3⟩, ⟨h4, h5⟩, h6⟩
      refine ⟨⟨h1, fun s hs => (h6 s hs).1⟩, h3, h5, fun s hs t ht => ?_⟩
      rcases hs with hs | rfl
      · exact (h6 s hs).2 t ht
      · exact h4 t ht

theorem isListB_iff (l : List T31) : isListB l = true ↔ (∀ s ∈ l, valid s = true) ∧ (l.Pairwise fun s t => s.f0 ≠ t.f0) ∧ (l.length : Int) ≤ 20 := by
  have := listOk_iff l []
  simp only [List.nil_append, List.length_nil, List.not_mem_nil, false_implies, implies_true, and_true] at this
  simp only [isListB, Bool.and_eq_true, decide_eq_true_eq, this, and_assoc]

theorem isListB_perm {l m : List T31} (h : l.Perm m) : isListB l = isListB m := by
  rw [Bool.eq_iff_iff, isListB_iff, isListB_iff, h.length_eq, h.pairwise_iff (fun {x y} hxy => hxy.symm)]
  simp only [h.mem_iff]

theorem rk_comm (x y : Int) : rk x y = rk y x := by
  rcases rk_cases x y with h | h | h <;> rcases rk_cases y x with h' | h' | h' <;> omega

theorem wit_comm {a b : T31} {n : Nat} (h : fitsAt fits2 a b n = true) : firstN a b n = firstN b a n := by
  simp only [fitsAt, Bool.and_eq_true, fitsB_true, firstN_length] at h
  have fb := fits2_at b.f1 (firstN a b n) (firstN a b n).length 0 0 (by simp) (by simpa using h.2.2.2)
  refine List.ext_getElem (by simp [firstN_length]) fun i h1 h2 => ?_
  rw [firstN_length] at h1
  have := (fb i (Nat.zero_le _) (by rw [firstN_length]; exact h1)).1
  simp only [List.getD_eq_getElem?_getD, List.getElem?_eq_getElem (show i < (firstN a b n).length by rw [firstN_length]; exact h1), Option.getD_some] at this
  simp only [firstN, List.getElem_map, List.getElem_range, wit, List.getD_eq_getElem?_getD] at this ⊢
  rw [← this, rk_comm]

theorem fitsAt_comm {a b : T31} {n : Nat} (h : fitsAt fits2 a b n = true) : fitsAt fits2 b a n = true := by
  have e := wit_comm h
  simp only [fitsAt, Bool.and_eq_true] at h ⊢
  rw [← e]
  exact ⟨h.2, h.1⟩

theorem ambB_true {a b : T31} : ambB a b = true ↔ needs a b ≤ most a b ∧ fitsAt fits2 a b (needs a b) = true ∧ elem a = elem b := by
  simp only [ambB, witB, Bool.and_eq_true, beq_iff_eq]
  by_cases h : needs a b ≤ most a b ∧ fitsAt fits2 a b (needs a b) = true
  · simp [h]
  · rw [if_neg h]
    simp only [Bool.false_eq_true, false_and, false_iff]
    exact fun hh => h ⟨hh.1, hh.2.1⟩

theorem ambB_comm {a b : T31} (h : ambB a b = true) : ambB b a = true := by
  rw [ambB_true] at h ⊢
  have e1 : needs b a = needs a b := by simp only [needs]; omega
  have e2 : most b a = most a b := by simp only [most]; omega
  rw [e1, e2]
  exact ⟨h.1, fitsAt_comm h.2.1, h.2.2.symm⟩

theorem pairFrom_found {l : List T31} : ∀ {r : List T31} {b : Nat}, (pairOf (pairFrom l r b)).2.2 = true → ∃ j a, b ≤ j ∧ j < b + r.length ∧ firstIn l j = some a
  | [], b, h => by cases h
  | x :: r, b, h => by
    simp only [pairFrom] at h
    cases hf : firstIn l b with
    | some a => exact ⟨b, a, Nat.le_refl _, by simp, hf⟩
    | none =>
      rw [hf] at h
      obtain ⟨j, a, h1, h2, h3⟩ := pairFrom_found h
      exact ⟨j, a, by omega, by simp only [List.length_cons]; omega, h3⟩

theorem noPair_iff (l : List T31) : (pairOf (pairFrom l l 0)).2.2 = false ↔ l.Pairwise fun a b => ambB a b = false := by
  rw [List.pairwise_iff_getElem]
  have g : ∀ i (h : i < l.length), l.getD i default = l[i] := fun i h => by simp [List.getD_eq_getElem?_getD, h]
  constructor
  · intro h i j hi hj hij
    have := noPair h hij hj
    rwa [g i hi, g j hj] at this
  · intro h
    cases hb : (pairOf (pairFrom l l 0)).2.2 with
    | false => rfl
    | true =>
      obtain ⟨j, a, _, h2, h3⟩ := pairFrom_found hb
      obtain ⟨_, h5, h6⟩ := findFrom_some h3
      simp only [List.length_take] at h5
      have hj : j < l.length := by omega
      have ha : a < l.length := by omega
      have haj : a < j := by omega
      have := h a j ha hj haj
      rw [g j hj] at h6
      simp only [Nat.sub_zero, List.getD_eq_getElem?_getD, List.getElem?_take, haj, if_true, List.getElem?_eq_getElem ha, Option.getD_some] at h6
      rw [h6] at this
      cases this

theorem pair_perm {l m : List T31} (h : l.Perm m) : (pairOf (pairFrom l l 0)).2.2 = (pairOf (pairFrom m m 0)).2.2 := by
  rw [Bool.eq_iff_iff, ← Bool.not_eq_false, ← Bool.not_eq_false, noPair_iff, noPair_iff, h.pairwise_iff]
  intro x y hxy
  cases hb : ambB y x with
  | false => rfl
  | true => rw [ambB_comm hb] at hxy; cases hxy

theorem check_perm {l m : List T31} (h : l.Perm m) : (checkAns l).2.2 = (checkAns m).2.2 := by
  unfold checkAns
  rw [isListB_perm h]
  have := pair_perm h
  revert this
  generalize pairOf (pairFrom l l 0) = x
  generalize pairOf (pairFrom m m 0) = y
  intro e
  rw [e]
  cases isListB m <;> cases y.2.2 <;> rfl

theorem findFrom_isSome {A : Type} {p : A → Bool} : ∀ {l : List A} {i : Nat}, (findFrom p l i).isSome = l.any p
  | [], _ => rfl
  | x :: l, i => by
    simp only [findFrom, List.any_cons]
    by_cases h : p x = true
    · simp [h]
    · simp only [h, if_false, Bool.false_eq_true, Bool.false_or]
      exact findFrom_isSome

theorem pick_perm {l m : List T31} (h : l.Perm m) (call : List T48) : (numOf (pick2 l call)).2 = (numOf (pick2 m call)).2 := by
  have e : ∀ t, (findFrom (takesIt call t) l 0).isSome = (findFrom (takesIt call t) m 0).isSome := fun t => by
    rw [findFrom_isSome, findFrom_isSome, h.any_eq]
  have e0 := e false
  have e1 := e true
  unfold pick2
  cases h0 : findFrom (takesIt call false) l 0 <;> cases h1 : findFrom (takesIt call false) m 0 <;> rw [h0, h1] at e0 <;> first | (cases e0; done) | skip
  · cases h2 : findFrom (takesIt call true) l 0 <;> cases h3 : findFrom (takesIt call true) m 0 <;> rw [h2, h3] at e1 <;> first | (cases e1; done) | rfl
  · rfl

theorem res_perm {l m : List T31} (h : l.Perm m) (call : List T48) : (resAns l call).2 = (resAns m call).2 := by
  unfold resAns
  rw [isListB_perm h]
  have e := pair_perm h
  have e2 := pick_perm h call
  rw [e]
  cases (!isListB m || !callOk call) <;> cases (pairOf (pairFrom m m 0)).2.2 <;> first | rfl | exact e2

end Go.Sx.gen

namespace Go.Sx.gen
open Go Go.Sx

theorem getD_in {l : List T31} {n : Nat} (h : n < l.length) : l.getD n default ∈ l := by
  rw [List.getD_eq_getElem?_getD, List.getElem?_eq_getElem h]; exact List.getElem_mem h

theorem mem_getD {l : List T31} {x : T31} (h : x ∈ l) : ∃ n, n < l.length ∧ l.getD n default = x := by
  obtain ⟨n, hn, rfl⟩ := List.getElem_of_mem h
  exact ⟨n, hn, by simp [List.getD_eq_getElem?_getD, hn]⟩

theorem same_name {l m : List T31} (h : l.Perm m) (hs : ∀ s ∈ l, Short s) {call : List T48} (h0 : (resAns l call).2 = 0) :
    ∃ n k : Nat, resAns l call = ((n : Int), 0) ∧ n < l.length ∧ resAns m call = ((k : Int), 0) ∧ k < m.length ∧ l.getD n default = m.getD k default := by
  have hm : ∀ s ∈ m, Short s := fun s hs' => hs s (h.mem_iff.2 hs')
  obtain ⟨_, _, n, e1, n1, f1, u1⟩ := resAns_ok hs h0
  obtain ⟨_, _, k, e2, n2, f2, u2⟩ := resAns_ok hm (show (resAns m call).2 = 0 by rw [← res_perm h]; exact h0)
  refine ⟨n, k, e1, n1, e2, n2, ?_⟩
  obtain ⟨j, hj, ej⟩ := mem_getD (h.mem_iff.2 (getD_in n2))
  obtain ⟨i, hi, ei⟩ := mem_getD (h.mem_iff.1 (getD_in n1))
  by_cases hjn : j = n
  · rw [← hjn]; exact ej
  · have a := u1 j hj hjn (by rw [ej]; exact f2)
    by_cases hik : i = k
    · rw [← hik]; exact ei.symm
    · have b := u2 i hi hik (by rw [ei]; exact f1)
      rw [ej] at a
      rw [a.2] at b
      cases b.1

theorem turned {l m : List T31} (h : l.Perm m) (hl : l.length ≤ maxLen) (hs : ∀ s ∈ l, Short s) (call : List T48) (hc : call.length ≤ maxLen) : f6_j1 l call m = some true := by
  have hm : ∀ s ∈ m, Short s := fun s hs' => hs s (h.mem_iff.2 hs')
  have hml : m.length ≤ maxLen := by rw [← h.length_eq]; exact hl
  unfold f6_j1
  rw [f17_eq l hl hs, f17_eq m hml hm, f12_eq l hl hs call hc, f12_eq m hml hm call hc, awake]
  simp only [Option.bind_some, check_perm h, beq_self_eq_true, cond_true, res_perm h call]
  rcases Bool.eq_false_or_eq_true ((resAns m call).2 != (0 : Int)) with h0 | h0
  · rw [h0]; rfl
  · rw [h0]
    have h0' : (resAns l call).2 = 0 := by rw [res_perm h]; simpa using h0
    obtain ⟨n, k, e1, n1, e2, n2, e3⟩ := same_name h hs h0'
    rw [e1, e2]
    simp only [cond_false]
    rw [if_pos ⟨by omega, by omega, by omega, by omega⟩, Int.toNat_natCast, Int.toNat_natCast, e3, beq_self_eq_true]
    rfl

theorem swapped (l : List T31) {i j : Nat} (hi : i < l.length) (hj : j < l.length) : ((l.set i (l.getD j default)).set j (l.getD i default)).Perm l := by
  simp only [List.getD_eq_getElem?_getD, List.getElem?_eq_getElem hi, List.getElem?_eq_getElem hj, Option.getD_some]
  exact List.set_set_perm hi hj

theorem turning (l : List T31) (hl : l.length ≤ 100) (t : Int) (m : List T31) (hm : m.Perm l) :
    ∃ x, iter (fun s => f6_b2 l t s.1 s.2) (m, (0 : Int)) = some x ∧ ∃ v, x = .go v ∧ v.Perm l := by
  refine iter_ind (fun s => f6_b2 l t s.1 s.2) (fun s => s.1.Perm l ∧ 0 ≤ s.2 ∧ s.2 ≤ (l.length : Int)) (fun s => (l.length - s.2).toNat) (fun _ x => ∃ v, x = .go v ∧ v.Perm l) ?_ (m, 0) ⟨hm, by simp, by simp⟩
  rintro ⟨v, i⟩ ⟨hv, h0, h1⟩
  have hlen := hv.length_eq
  simp only at hv h0 h1 hlen ⊢
  have e2 : Int.tdiv (l.length : Int) 2 = ((l.length / 2 : Nat) : Int) := by rw [Int.tdiv_eq_ediv_of_nonneg (by omega)]; omega
  simp only [f6_b2, List.nil_append, e2, cond_and, Option.bind_some]
  rw [w64_id (n := ((l.length / 2 : Nat) : Int)) (by omega) (by omega)]
  rcases Bool.eq_false_or_eq_true ((Int.tmod t 2 != 0) && decide (i < ((l.length / 2 : Nat) : Int))) with hb | hb
  · left
    rw [hb]
    simp only [Bool.and_eq_true, decide_eq_true_eq] at hb
    obtain ⟨k, rfl⟩ : ∃ k : Nat, i = (k : Int) := ⟨i.toNat, by omega⟩
    have hk : k < l.length / 2 := by omega
    have e3 : w64 (w64 ((l.length : Int) - 1) - (k : Int)) = ((l.length - 1 - k : Nat) : Int) := by
      rw [w64_id (n := (l.length : Int) - 1) (by omega) (by omega), w64_id (by omega) (by omega)]; omega
    have e4 : w64 ((k : Int) + 1) = ((k + 1 : Nat) : Int) := by rw [w64_id (by omega) (by omega)]; omega
    rw [e3, e4]
    simp only [cond_true, List.length_set, Int.toNat_natCast]
    rw [if_pos ⟨by omega, by omega, by omega, by omega⟩, if_pos ⟨by omega, by omega⟩, if_pos ⟨by omega, by omega⟩]
    refine ⟨_, rfl, ⟨(swapped v (by omega) (by omega)).trans hv, ?_, ?_⟩, ?_, fun x hx => hx⟩
    · simp only; omega
    · simp only; omega
    · simp only; omega
  · right
    rw [hb]
    exact ⟨_, rfl, v, rfl, hv⟩

namespace Pure
theorem GenericOrders : LawGenericOrders := by
  intro l call t hl0 hc0 _
  have hl : l.length ≤ maxLen := hl0.1
  have hc : call.length ≤ maxLen := hc0.1
  unfold f6
  rw [f10_eq l hl, awake]
  simp only [Option.bind_some, cond_or]
  rcases Bool.eq_false_or_eq_true (long l || decide ((call.length : Int) > 100)) with h | h
  · rw [h]; rfl
  · rw [h]
    simp only [Bool.or_eq_false_iff] at h
    have hs : ∀ s ∈ l, Short s := fun s hm => short_of h.1 hm
    have h100 : l.length ≤ 100 := by
      have := h.1
      simp only [long, Bool.or_eq_false_iff, decide_eq_false_iff_not] at this
      omega
    simp only [cond_false, List.nil_append, List.length_nil, Nat.zero_add, Int.toNat_natCast, List.take_length, List.drop_zero]
    rw [if_pos (by omega)]
    rcases Bool.eq_false_or_eq_true (decide ((l.length : Int) > 0)) with hp | hp
    · rw [hp]
      simp only [decide_eq_true_eq] at hp
      simp only [cond_true]
      have b1 := Int.tmod_lt_of_pos t hp
      have b2 := Int.lt_tmod_of_pos t hp
      rw [w64_id (n := Int.tmod t (l.length : Int) + (l.length : Int)) (by omega) (by omega)]
      have b3 : (0 : Int) ≤ Int.tmod (Int.tmod t (l.length : Int) + (l.length : Int)) (l.length : Int) := Int.tmod_nonneg _ (by omega)
      have b4 := Int.tmod_lt_of_pos (Int.tmod t (l.length : Int) + (l.length : Int)) hp
      generalize hk : Int.tmod (Int.tmod t (l.length : Int) + (l.length : Int)) (l.length : Int) = k at b3 b4
      obtain ⟨n, rfl⟩ : ∃ n : Nat, k = (n : Int) := ⟨k.toNat, by omega⟩
      simp only [Int.toNat_natCast]
      rw [if_pos ⟨by omega, by omega⟩, if_pos ⟨by omega, by omega⟩, if_pos ⟨by omega, by omega⟩, if_pos (by simp; omega), if_pos (by simp; omega)]
      have hperm : (l.drop n ++ l.take n).Perm l := by
        have := List.perm_append_comm (l₁ := l.drop n) (l₂ := l.take n)
        rwa [List.take_append_drop] at this
      obtain ⟨x, hx, v, rfl, hv⟩ := turning l h100 t _ hperm
      rw [hx]
      exact turned hv.symm hl hs call hc
    · rw [hp]
      exact turned (.refl l) hl hs call hc
end Pure
end Go.Sx.gen
