/- Plain laws of the printed functions of storage: the check of sanity, names, the first that is so; no condition. -/
import Derived.Test.YtgabiokgockopaaGxG
import Derived.Test.YtgabiokgockopaaGxM
import Derived.Test.YtgabiokgockopaaSxD
namespace Go.Sx.sto
open Go Go.Sx

theorem awake : f10 = some true := f10_le 60 true (by kernel_rfl)

def isLetterI (c : Int) : Bool := (decide (c ≥ 97) && decide (c ≤ 122)) || (decide (c ≥ 65) && decide (c ≤ 90))
def isDigitI (c : Int) : Bool := decide (c ≥ 48) && decide (c ≤ 57)
def isPartI (c : Int) : Bool := (isLetterI c || isDigitI c) || c == 95
def isUpperI (c : Int) : Bool := decide (c ≥ 65) && decide (c ≤ 90)

theorem f58_eq (c : Int) : f58 c = some (isLetterI c) := by simp only [f58, cond_and, Option.bind_some, cond_or, isLetterI]
theorem f63_eq (c : Int) : f63 c = some (isDigitI c) := by simp only [f63, cond_and, Option.bind_some, isDigitI]
theorem f60_eq (c : Int) : f60 c = some (isPartI c) := by simp only [f60, f58_eq, f63_eq, cond_or, Option.bind_some, isPartI]
def byteI (b : UInt8) : Int := ((b.toNat : Nat) : Int)

/-- How many parts of a name stand in front. -/
def runLen : List UInt8 → Nat
  | [] => 0
  | b :: r => if isPartI (byteI b) then runLen r + 1 else 0

theorem f59_eq (s : List UInt8) (h : s.length ≤ maxLen) : f59_60 s = some ((runLen s : Nat) : Int) := by
  have := iter_list s h (fun i => f59_60_b1 s i) (fun r i => (Out.go ((i + runLen r : Nat) : Int) : Out Int Int)) ?_ ?_
  · unfold f59_60
    rw [this]
    simp
  · intro i x r hi hx _
    have h1 : (0 : Int) ≤ i ∧ (i : Int) < (s.length : Int) := ⟨by omega, by omega⟩
    have hx' : s.getD i 0 = x := hx
    simp only [f59_60_b1, Int.toNat_natCast, hx', h1, and_self, if_true, decide_true, cond_true, f60_eq, Option.bind_some]
    cases hb : isPartI ((x.toNat : Nat) : Int) with
    | true => right; simp [runLen, byteI, hb]; omega
    | false => left; simp [runLen, byteI, hb]
  · simp [f59_60_b1, runLen]

def low (n : Int) : Int := if isUpperI n then n + 32 else n

theorem wrap_u8 {n : Int} (h0 : 0 ≤ n) (h1 : n ≤ 255) : IntKind.wrap .u8 n = n := by
  simp only [IntKind.wrap, IntKind.min, IntKind.max, IntKind.signed, IntKind.bits]
  simp
  omega

theorem f61_eq (s : List UInt8) (h : s.length ≤ maxLen) : f61 s = some (s.map fun b => UInt8.ofNat (low (byteI b)).toNat) := by
  have hm := maxLen_le
  have key := iter_ind (fun q => f61_b2 s q.1 q.2) (fun q => ∃ i, i ≤ s.length ∧ q.2 = ((i : Nat) : Int) ∧ q.1 = ((s.map byteI).take i).map low ++ (s.map byteI).drop i) (fun q => s.length - q.2.toNat) (fun _ x => x = Out.go ((s.map byteI).map low)) ?_ (s.map byteI, 0) ⟨0, Nat.zero_le _, rfl, by simp⟩
  · obtain ⟨x, hx, rfl⟩ := key
    unfold f61
    rw [if_pos (by omega)]
    have hx' : iter (fun q => f61_b2 s q.1 q.2) (s.map (fun b => ((b.toNat : Nat) : Int)), (0 : Int)) = some (Out.go ((s.map byteI).map low)) := hx
    rw [hx']
    simp [List.map_map, Function.comp_def]
  · rintro ⟨b, k⟩ ⟨i, hi, hk, hb⟩
    simp only at hk hb
    subst hk hb
    have hlen : (((s.map byteI).take i).map low ++ (s.map byteI).drop i).length = s.length := by simp; omega
    by_cases hlt : i < s.length
    · left
      have h1 : (0 : Int) ≤ i ∧ (i : Int) < ((((s.map byteI).take i).map low ++ (s.map byteI).drop i).length : Int) := ⟨by omega, by rw [hlen]; omega⟩
      have h2 : ((i : Int) < ((s.map (fun b => ((b.toNat : Nat) : Int))).length : Int)) := by simp; omega
      have hget : (((s.map byteI).take i).map low ++ (s.map byteI).drop i).getD i default = byteI s[i] := by
        simp only [List.getD_eq_getElem?_getD]
        rw [List.getElem?_append_right (by simp; omega)]
        simp [Nat.min_eq_left hi, hlt]
      have hset : (((s.map byteI).take i).map low ++ (s.map byteI).drop i).set i (low (byteI s[i])) = ((s.map byteI).take (i + 1)).map low ++ (s.map byteI).drop (i + 1) := by
        have e1 : (s.map byteI).drop i = byteI s[i] :: (s.map byteI).drop (i + 1) := by
          rw [List.drop_eq_getElem_cons (by simpa using hlt)]; simp
        have e2 : (s.map byteI).take (i + 1) = (s.map byteI).take i ++ [byteI s[i]] := by
          rw [List.take_succ_eq_append_getElem (by simpa using hlt)]; simp
        rw [e1, e2, List.set_append_right _ _ (by simp; omega)]
        simp [Nat.min_eq_left hi]
      have hlow : isUpperI (byteI s[i]) = false → (((s.map byteI).take i).map low ++ (s.map byteI).drop i) = ((s.map byteI).take (i + 1)).map low ++ (s.map byteI).drop (i + 1) := by
        intro hu
        rw [← hset]
        have : low (byteI s[i]) = byteI s[i] := by simp [low, hu]
        rw [this]
        apply List.ext_getElem?
        intro j
        by_cases hj : j = i
        · subst hj
          rw [List.getElem?_set_self (by omega)]
          have := hget
          rw [List.getD_eq_getElem?_getD] at this
          have hs : (((s.map byteI).take j).map low ++ (s.map byteI).drop j)[j]? = some ((((s.map byteI).take j).map low ++ (s.map byteI).drop j)[j]'(by omega)) := List.getElem?_eq_getElem (by omega)
          rw [hs] at this ⊢
          simp only [Option.getD_some] at this
          rw [this]
        · rw [List.getElem?_set_ne (by omega)]
      have hw : w64 ((i : Int) + 1) = ((i + 1 : Nat) : Int) := w64_succ hlt h
      have h0 : 0 ≤ byteI s[i] ∧ byteI s[i] ≤ 255 := by
        have := s[i].toNat_lt
        simp only [byteI]; omega
      cases hu : isUpperI (byteI s[i]) with
      | true =>
        have hu' : byteI s[i] ≥ 65 ∧ byteI s[i] ≤ 90 := by simpa [isUpperI] using hu
        have hv : IntKind.wrap .u8 (IntKind.wrap .u8 (byteI s[i] - 65) + 97) = low (byteI s[i]) := by
          rw [wrap_u8 (n := byteI s[i] - 65) (by omega) (by omega), wrap_u8 (by omega) (by omega)]
          simp only [low, hu, if_true]; omega
        refine ⟨(((s.map byteI).take (i + 1)).map low ++ (s.map byteI).drop (i + 1), ((i + 1 : Nat) : Int)), ?_, ⟨i + 1, hlt, rfl, rfl⟩, by simp; omega, fun x hx => hx⟩
        simp only [f61_b2, f61_j1, Int.toNat_natCast, hget, h1, h2, and_self, if_true, decide_true, cond_true, hu'.1, hu'.2, Option.bind_some, hv, hset, hw]
      | false =>
        refine ⟨(((s.map byteI).take (i + 1)).map low ++ (s.map byteI).drop (i + 1), ((i + 1 : Nat) : Int)), ?_, ⟨i + 1, hlt, rfl, rfl⟩, by simp; omega, fun x hx => hx⟩
        have hu' : (decide (byteI s[i] ≥ 65) && decide (byteI s[i] ≤ 90)) = false := hu
        simp only [f61_b2, f61_j1, Int.toNat_natCast, hget, h1, h2, and_self, if_true, decide_true, cond_true, cond_and, hu', cond_false, Option.bind_some, hw, ← hlow hu]
    · right
      obtain rfl : i = s.length := by omega
      refine ⟨_, ?_, rfl⟩
      simp only [f61_b2]
      rw [show decide (((s.length : Nat) : Int) < ((s.map (fun b => ((b.toNat : Nat) : Int))).length : Int)) = false from by simp]
      have e1 : (s.map byteI).take s.length = s.map byteI := List.take_of_length_le (by simp)
      have e2 : (s.map byteI).drop s.length = [] := List.drop_of_length_le (by simp)
      simp only [cond_false, e1, e2, List.append_nil]

/-! ### Names -/

def innerB (b : UInt8) : Bool := isPartI (byteI b) && !isUpperI (byteI b)

def nameOk (s : List UInt8) : Bool := (!(s == ([] : List UInt8)) && decide ((s.length : Int) ≤ 12)) && (s.all innerB && (isLetterI (byteI (s.getD 0 0))))

theorem runLen_le : ∀ (s : List UInt8), runLen s ≤ s.length
  | [] => Nat.le_refl _
  | b :: r => by
    have := runLen_le r
    simp only [runLen, List.length_cons]
    split <;> omega

theorem runLen_all : ∀ (s : List UInt8), (((runLen s : Nat) : Int) == (s.length : Int)) = s.all (fun b => isPartI (byteI b))
  | [] => rfl
  | b :: r => by
    have h := runLen_all r
    have hle := runLen_le r
    simp only [runLen, List.all_cons, List.length_cons]
    cases hb : isPartI (byteI b) with
    | true =>
      simp only [if_true, Bool.true_and, ← h]
      by_cases he : runLen r = r.length
      · simp [he]
      · have : ((runLen r : Nat) : Int) ≠ (r.length : Int) := by omega
        have h2 : (((runLen r + 1 : Nat)) : Int) ≠ ((r.length + 1 : Nat) : Int) := by omega
        rw [beq_eq_false_iff_ne.2 this, beq_eq_false_iff_ne.2 h2]
    | false =>
      simp only [Bool.false_eq_true, if_false, Bool.false_and]
      exact beq_eq_false_iff_ne.2 (by omega)

theorem low_one (b : UInt8) : (b == UInt8.ofNat (low (byteI b)).toNat) = !isUpperI (byteI b) := by
  have hb := b.toNat_lt
  cases hu : isUpperI (byteI b) with
  | true =>
    have hu' : byteI b ≥ 65 ∧ byteI b ≤ 90 := by simpa [isUpperI] using hu
    simp only [low, hu, if_true, Bool.not_true]
    refine beq_eq_false_iff_ne.2 fun e => ?_
    have := congrArg UInt8.toNat e
    simp only [byteI] at hu' this
    rw [UInt8.toNat_ofNat'] at this
    omega
  | false =>
    have hl : low (byteI b) = byteI b := by simp [low, hu]
    rw [hl]
    simp [byteI]

theorem low_all : ∀ (s : List UInt8), (s == s.map fun b => UInt8.ofNat (low (byteI b)).toNat) = s.all (fun b => !isUpperI (byteI b))
  | [] => rfl
  | b :: r => by
    rw [List.map_cons, List.all_cons, ← low_one b, ← low_all r]
    rfl

theorem all_inner (s : List UInt8) : s.all innerB = (s.all (fun b => isPartI (byteI b)) && s.all (fun b => !isUpperI (byteI b))) := by
  induction s with
  | nil => rfl
  | cons b r ih =>
    simp only [List.all_cons, ih, innerB]
    cases isPartI (byteI b) <;> cases isUpperI (byteI b) <;> simp

theorem f53_eq (s : List UInt8) (h : s.length ≤ maxLen) : f53 s = some (nameOk s) := by
  unfold f53 nameOk
  rw [cond_and, all_inner]
  simp only [Option.bind_some, f58_eq, f59_eq s h, f61_eq s h, runLen_all, low_all]
  cases hs : (!(s == ([] : List UInt8)) && decide ((s.length : Int) ≤ 12)) with
  | false => simp
  | true =>
    have hpos : (0 : Int) < (s.length : Int) := by
      cases s with
      | nil => simp at hs
      | cons b r => simp
    simp only [cond_true, if_pos hpos, cond_and, Option.bind_some, Bool.true_and, byteI]
    cases isLetterI ((((s.getD 0 0).toNat : Nat)) : Int) <;> simp

/-- The first that p takes, from i on. -/
def findFrom {A : Type} (p : A → Bool) : List A → Nat → Option Nat
  | [], _ => none
  | x :: r, i => if p x then some i else findFrom p r (i + 1)

def outOf : Option Nat → Out Int Unit
  | some i => .ret ((i : Nat) : Int)
  | none => .go ()

def idx : Option Nat → Int
  | some i => ((i : Nat) : Int)
  | none => -1

theorem index_eq {A : Type} [Inhabited A] (l : List A) (h : l.length ≤ maxLen) (f : A → Option Bool) (p : A → Bool) (hp : ∀ x, f x = some (p x)) (b : Int → Option (Int ⊕ Out Int Unit))
    (hb : ∀ i, b i = cond (decide (i < (l.length : Int))) (if (0 : Int) ≤ i ∧ i < (l.length : Int) then (f (l.getD i.toNat default)).bind fun v3 => cond v3 (some (.inr (.ret i))) (some (.inl (w64 (i + (1 : Int))))) else none) (some (.inr (.go ())))) :
    iter b 0 = some (outOf (findFrom p l 0)) := by
  refine iter_list l h b (fun r i => outOf (findFrom p r i)) ?_ ?_
  · intro i x r hi hx _
    have h1 : (0 : Int) ≤ i ∧ (i : Int) < (l.length : Int) := ⟨by omega, by omega⟩
    simp only [hb, Int.toNat_natCast, hx, h1, and_self, if_true, decide_true, cond_true, hp, Option.bind_some]
    cases hpx : p x with
    | true => left; simp [findFrom, hpx, outOf]
    | false => right; simp [findFrom, hpx]
  · simp [hb, findFrom, outOf]

theorem findFrom_any {A : Type} (p : A → Bool) : ∀ (l : List A) (i : Nat), decide (idx (findFrom p l i) ≥ 0) = l.any p
  | [], i => by simp [findFrom, idx]
  | x :: r, i => by
    simp only [findFrom, List.any_cons]
    by_cases hp : p x = true
    · simp [idx, hp]
    · simp only [hp, if_false, Bool.false_or, Bool.false_eq_true]
      exact findFrom_any p r (i + 1)


theorem findFrom_shift {A : Type} (p : A → Bool) : ∀ (l : List A) (i : Nat), findFrom p l i = (findFrom p l 0).map (· + i)
  | [], i => rfl
  | x :: r, i => by
    simp only [findFrom]
    split
    · simp
    · rw [findFrom_shift p r (i + 1), findFrom_shift p r (0 + 1)]
      cases findFrom p r 0 <;> simp <;> omega

/-! ### The document's names -/

theorem f64_eq (c : Int) : f64 c = some (isLetterI c) := by simp only [f64, cond_and, Option.bind_some, cond_or, isLetterI]

theorem f65_eq (c : Int) : f65 c = some (isDigitI c) := by simp only [f65, cond_and, Option.bind_some, isDigitI]

theorem f62_eq (c : Int) : f62 c = some (isPartI c) := by simp only [f62, f64_eq, f65_eq, cond_or, Option.bind_some, isPartI]

theorem f55_eq (s : List UInt8) (h : s.length ≤ maxLen) : f55 s = some (nameOk s) := by
  have hl := iter_list s h (fun i => f55_b1 s i) (fun r _ => if r.all innerB then (Out.go () : Out Bool Unit) else Out.ret false) ?_ ?_
  · unfold f55 nameOk
    rw [hl, cond_or]
    simp only [Option.bind_some]
    cases s with
    | nil => simp
    | cons b r =>
      have hpos : (0 : Int) < ((b :: r).length : Int) := by simp
      simp only [if_pos hpos, cond_or, Option.bind_some, List.getD_cons_zero]
      have e : ((b :: r) == ([] : List UInt8)) = false := rfl
      rw [e]
      cases hin : (b :: r).all innerB with
      | false =>
        have key : ∀ q : Bool, (cond q (some false) (some false) : Option Bool) = some false := fun q => by cases q <;> rfl
        simp only [Bool.false_and, Bool.and_false, Bool.false_eq_true, if_false, Option.bind_some, key]
      | true =>
        have hb : innerB b = true := by simp only [List.all_cons, Bool.and_eq_true] at hin; exact hin.1
        have hlet : isLetterI (byteI b) = (!decide (((b.toNat : Nat) : Int) < 97) && !decide (((b.toNat : Nat) : Int) > 122)) := by
          simp only [innerB, isUpperI, Bool.and_eq_true, Bool.not_eq_true', Bool.and_eq_false_iff, decide_eq_false_iff_not] at hb
          have h2 := hb.2
          rw [Bool.eq_iff_iff]
          simp only [isLetterI, Bool.or_eq_true, Bool.and_eq_true, decide_eq_true_eq, Bool.not_eq_true', decide_eq_false_iff_not]
          simp only [byteI] at h2 ⊢
          omega
        rw [hlet]
        have hd : decide (((b :: r).length : Int) ≤ 12) = !decide (((b :: r).length : Int) > 12) := by
          rw [Bool.eq_iff_iff]; simp only [decide_eq_true_eq, Bool.not_eq_true', decide_eq_false_iff_not]; omega
        rw [hd]
        simp only [if_true, Bool.true_and, byteI, Bool.false_or, Bool.not_false]
        cases decide (((b :: r).length : Int) > 12) <;> cases decide (((b.toNat : Nat) : Int) < 97) <;> cases decide (((b.toNat : Nat) : Int) > 122) <;> rfl
  · intro i x r hi hx _
    have h1 : (0 : Int) ≤ i ∧ (i : Int) < (s.length : Int) := ⟨by omega, by omega⟩
    have hx' : s.getD i 0 = x := hx
    simp only [f55_b1, Int.toNat_natCast, hx', h1, and_self, if_true, decide_true, cond_true, f62_eq, Option.bind_some, cond_and, cond_or]
    have : (!isPartI ((x.toNat : Nat) : Int) || (decide (((x.toNat : Nat) : Int) ≥ 65) && decide (((x.toNat : Nat) : Int) ≤ 90))) = !innerB x := by
      simp only [innerB, byteI, isUpperI]
      cases isPartI ((x.toNat : Nat) : Int) <;> simp <;> rfl
    rw [this]
    cases hb : innerB x with
    | true => right; simp [hb]
    | false => left; simp [hb]
  · simp [f55_b1]


theorem getD_lt {A : Type} [Inhabited A] {l : List A} {i : Nat} (h : i < l.length) : l.getD i default = l[i] := by
  rw [List.getD_eq_getElem?_getD, List.getElem?_eq_getElem h, Option.getD_some]

theorem getD_mem {A : Type} [Inhabited A] {l : List A} {i : Nat} (h : i < l.length) : l.getD i default ∈ l := by
  rw [getD_lt h]; exact List.getElem_mem h

theorem getD_take {A : Type} [Inhabited A] {l : List A} {i n : Nat} (h : i < n) : (l.take n).getD i default = l.getD i default := by
  simp only [List.getD_eq_getElem?_getD, List.getElem?_take, if_pos h]

end Go.Sx.sto

namespace Go.Sx.sto
open Go Go.Sx

def fd (l : List T36) (s : List UInt8) : Option Nat := findFrom (fun t => t.f0 == s) l 0

theorem f34_eq (l : List T36) (h : l.length ≤ maxLen) (s : List UInt8) : f34 l s = some (idx (fd l s)) := by
  unfold f34 f45_46
  rw [index_eq l h (fun t => f46 t s) (fun t => t.f0 == s) (fun _ => rfl) (fun i => f45_46_b1 l s i) (fun i => rfl)]
  unfold fd
  cases findFrom (fun t => t.f0 == s) l 0 <;> rfl

theorem f33_eq (l : List T36) (h : l.length ≤ maxLen) (s : List UInt8) : f33 l s = some (idx (fd l s)) := by
  unfold f33
  rw [index_eq l h (fun t => some (t.f0 == s)) (fun t => t.f0 == s) (fun _ => rfl) (fun i => f33_b1 l s i) (fun i => rfl)]
  unfold fd
  cases findFrom (fun t => t.f0 == s) l 0 <;> rfl

theorem findFrom_append {A : Type} (p : A → Bool) : ∀ (a b : List A) (i : Nat), findFrom p (a ++ b) i = match findFrom p a i with | some j => some j | none => findFrom p b (i + a.length)
  | [], b, i => by simp [findFrom]
  | x :: a, b, i => by
    simp only [List.cons_append, findFrom]
    split
    · rfl
    · rw [findFrom_append p a b (i + 1)]
      simp only [List.length_cons, show i + 1 + a.length = i + (a.length + 1) by omega]

theorem findFrom_lt {A : Type} {p : A → Bool} : ∀ {l : List A} {i j : Nat}, findFrom p l i = some j → i ≤ j ∧ j < i + l.length
  | [], _, _, h => by cases h
  | x :: r, i, j, h => by
    simp only [findFrom] at h
    split at h
    · cases h; simp
    · have := findFrom_lt h
      simp only [List.length_cons]; omega

theorem fd_lt {l : List T36} {s : List UInt8} {j : Nat} (h : fd l s = some j) : j < l.length := by
  have := findFrom_lt h; omega

theorem findFrom_at {A : Type} [Inhabited A] {p : A → Bool} : ∀ {l : List A} {i j : Nat}, findFrom p l i = some j → p (l.getD (j - i) default) = true
  | [], _, _, h => by cases h
  | x :: r, i, j, h => by
    simp only [findFrom] at h
    split at h
    · rename_i hp; cases h; simpa using hp
    · have h1 := findFrom_lt h
      have h2 := findFrom_at h
      rw [show j - i = (j - (i + 1)) + 1 by omega]
      simpa using h2

theorem fd_name {l : List T36} {s : List UInt8} {j : Nat} (h : fd l s = some j) : (l.getD j default).f0 = s := by
  have := findFrom_at h
  simpa using this

/-- The first of a name is the one at i, just if none is ahead of it. -/
theorem fd_at {l : List T36} {i : Nat} {x : T36} {r : List T36} (hd : l.drop i = x :: r) (hi : i < l.length) : (fd l x.f0 = some i) ↔ fd (l.take i) x.f0 = none := by
  have e : fd l x.f0 = match fd (l.take i) x.f0 with | some j => some j | none => some i := by
    have h1 : l = l.take i ++ x :: r := by rw [← hd, List.take_append_drop]
    unfold fd
    conv => lhs; rw [h1]
    rw [findFrom_append]
    cases findFrom (fun t => t.f0 == x.f0) (l.take i) 0 with
    | some j => rfl
    | none => simp [findFrom, Nat.min_eq_left (Nat.le_of_lt hi)]
  constructor
  · intro h
    cases hn : fd (l.take i) x.f0 with
    | none => rfl
    | some j =>
      rw [h, hn] at e
      have := fd_lt hn
      simp only [Option.some.injEq] at e
      simp at this; omega
  · intro h
    rw [e, h]

def okV (x : T36) : Bool := (nameOk x.f0 && ((x.f1 == 1 || x.f1 == 2) || x.f1 == 4)) && (!decide (x.f2 < 1) && !decide (x.f2 > 1000))

def goodAt (l : List T36) : List T36 → Nat → Bool
  | [], _ => true
  | x :: r, i => (okV x && (fd (l.take i) x.f0).isNone) && goodAt l r (i + 1)

def are (l : List T36) : Bool := goodAt l l 0 && decide ((l.length : Int) ≤ 60)

theorem idx_ge (o : Option Nat) : decide (idx o ≥ 0) = o.isSome := by
  cases o <;> simp [idx]

/-- Variables that have been read. -/
structure Vs (l : List T36) : Prop where
  len : l.length ≤ maxLen
  each : ∀ y ∈ l, y.f0.length ≤ maxLen

theorem Vs.of {l : List T36} (h : l.length ≤ maxLen ∧ ∀ y ∈ l, G36 y) : Vs l := ⟨h.1, fun y hy => (h.2 y hy).1⟩

theorem f42_eq (l : List T36) (h : Vs l) : f42 l = some (are l) := by
  have := iter_list l h.len (fun i => f42_b1 l i) (fun r i => cond (goodAt l r i) (Out.go () : Out Bool Unit) (Out.ret false)) ?_ ?_
  · unfold f42 are
    rw [this]
    cases goodAt l l 0 <;> simp
  · intro i x r hi hx hd
    have h1 : (0 : Int) ≤ i ∧ (i : Int) < (l.length : Int) := ⟨by omega, by omega⟩
    have h2 : (0 : Int) ≤ i ∧ (i : Int) ≤ (l.length : Int) := ⟨by omega, by omega⟩
    have hm := getD_mem hi
    rw [hx] at hm
    have hlen : (l.take i).length ≤ maxLen := by have := h.len; simp only [List.length_take]; omega
    simp only [f42_b1, Int.toNat_natCast, hx, h1, h2, and_self, if_true, decide_true, cond_true, cond_or, Option.bind_some, f53_eq _ (h.each x hm), List.drop_zero, f34_eq _ hlen, idx_ge, goodAt]
    have e : (nameOk x.f0).not.or ((((x.f1 == 1).or (x.f1 == 2)).or (x.f1 == 4)).not.or ((decide (x.f2 < 1)).or ((decide (x.f2 > 1000)).or (fd (l.take i) x.f0).isSome))) = !(okV x && (fd (l.take i) x.f0).isNone) := by
      unfold okV
      cases fd (l.take i) x.f0 <;> cases nameOk x.f0 <;> cases x.f1 == 1 <;> cases x.f1 == 2 <;> cases x.f1 == 4 <;> cases decide (x.f2 < 1) <;> cases decide (x.f2 > 1000) <;> rfl
    change (cond ((!nameOk x.f0) || (!((x.f1 == 1 || x.f1 == 2) || x.f1 == 4) || (decide (x.f2 < 1) || (decide (x.f2 > 1000) || (fd (l.take i) x.f0).isSome)))) _ _ = _) ∨ (cond ((!nameOk x.f0) || (!((x.f1 == 1 || x.f1 == 2) || x.f1 == 4) || (decide (x.f2 < 1) || (decide (x.f2 > 1000) || (fd (l.take i) x.f0).isSome)))) _ _ = _) ∧ _
    rw [show ((!nameOk x.f0) || (!((x.f1 == 1 || x.f1 == 2) || x.f1 == 4) || (decide (x.f2 < 1) || (decide (x.f2 > 1000) || (fd (l.take i) x.f0).isSome)))) = _ from e]
    cases hb : (okV x && (fd (l.take i) x.f0).isNone) with
    | true => right; simp
    | false => left; simp
  · simp [f42_b1, goodAt]

theorem f44_eq (l : List T36) (h : Vs l) : f44 l = some (are l) := by
  have := iter_list l h.len (fun i => f44_b1 l i) (fun r i => cond (goodAt l r i) (Out.go () : Out Bool Unit) (Out.ret false)) ?_ ?_
  · unfold f44 are
    rw [this]
    cases goodAt l l 0 <;> simp
  · intro i x r hi hx hd
    have h1 : (0 : Int) ≤ i ∧ (i : Int) < (l.length : Int) := ⟨by omega, by omega⟩
    have hm := getD_mem hi
    rw [hx] at hm
    simp only [f44_b1, Int.toNat_natCast, hx, h1, and_self, if_true, decide_true, cond_true, cond_or, cond_and, Option.bind_some, f55_eq _ (h.each x hm), f33_eq l h.len, goodAt]
    have hf : (idx (fd l x.f0) != (i : Int)) = !(fd (l.take i) x.f0).isNone := by
      have := fd_at hd hi
      cases hn : fd (l.take i) x.f0 with
      | none => rw [this.2 hn]; simp [idx]
      | some j =>
        have h3 : fd l x.f0 ≠ some i := fun e => by rw [this.1 e] at hn; cases hn
        cases hq : fd l x.f0 with
        | none => simp [idx]
        | some q =>
          rw [hq] at h3
          have : q ≠ i := fun e => h3 (by rw [e])
          simp [idx]; omega
    rw [hf]
    have e : ((((!nameOk x.f0) || !(fd (l.take i) x.f0).isNone) || ((x.f1 != 1 && x.f1 != 2) && x.f1 != 4)) || decide (x.f2 < 1) || decide (x.f2 > 1000)) = !(okV x && (fd (l.take i) x.f0).isNone) := by
      unfold okV
      have b1 : (x.f1 != 1) = !(x.f1 == 1) := rfl
      have b2 : (x.f1 != 2) = !(x.f1 == 2) := rfl
      have b4 : (x.f1 != 4) = !(x.f1 == 4) := rfl
      rw [b1, b2, b4]
      cases fd (l.take i) x.f0 <;> cases nameOk x.f0 <;> cases x.f1 == 1 <;> cases x.f1 == 2 <;> cases x.f1 == 4 <;> cases decide (x.f2 < 1) <;> cases decide (x.f2 > 1000) <;> rfl
    rw [e]
    cases hb : (okV x && (fd (l.take i) x.f0).isNone) with
    | true => right; simp
    | false => left; simp
  · simp [f44_b1, goodAt]

/-! ### Layouts that fit -/

def isLaid (l : List T36) (g o : List Int) : Bool := ((are l && (g.length : Int) == l.length) && (o.length : Int) == l.length) && (!g.any (fun n => decide (n < 0)) && !o.any (fun n => decide (n < 0)))

theorem f43_eq (g : List Int) (h : g.length ≤ maxLen) : f43_41 g = some (g.any fun n => decide (n < 0)) := by
  unfold f43_41 f54_41
  rw [index_eq g h (fun t => f41 t) (fun n => decide (n < 0)) (fun _ => rfl) (fun i => f54_41_b1 g i) (fun i => rfl)]
  rw [← findFrom_any _ g 0]
  cases findFrom (fun n => decide (n < 0)) g 0 <;> rfl

theorem f28_eq (l : List T36) (g o : List Int) (h : Vs l) (hg : g.length ≤ maxLen) (ho : o.length ≤ maxLen) : f28 l g o = some (isLaid l g o) := by
  unfold f28 isLaid
  rw [f42_eq l h, f43_eq g hg, f43_eq o ho]
  cases are l <;> cases (g.length : Int) == l.length <;> cases (o.length : Int) == l.length <;> cases g.any (fun n => decide (n < 0)) <;> cases o.any (fun n => decide (n < 0)) <;> rfl

theorem any_zip : ∀ (l : List T36) (g o : List Int), g.length = l.length → o.length = l.length → (!g.any (fun n => decide (n < 0)) && !o.any (fun n => decide (n < 0))) = (List.range l.length).all (fun i => !(decide (g.getD i default < 0) || decide (o.getD i default < 0))) := by
  intro l g o hg ho
  rw [Bool.eq_iff_iff]
  simp only [Bool.and_eq_true, Bool.not_eq_true', List.any_eq_false, decide_eq_true_eq, List.all_eq_true, List.mem_range, Bool.or_eq_false_iff, decide_eq_false_iff_not]
  constructor
  · rintro ⟨h1, h2⟩ i hi
    exact ⟨h1 _ (getD_mem (by omega)), h2 _ (getD_mem (by omega))⟩
  · intro h
    refine ⟨fun x hx => ?_, fun x hx => ?_⟩
    · obtain ⟨i, hi, rfl⟩ := List.mem_iff_getElem.1 hx
      have := (h i (by omega)).1
      rwa [getD_lt hi] at this
    · obtain ⟨i, hi, rfl⟩ := List.mem_iff_getElem.1 hx
      have := (h i (by omega)).2
      rwa [getD_lt hi] at this

theorem f29_eq (l : List T36) (g o : List Int) (h : Vs l) : f29 l g o = some (isLaid l g o) := by
  unfold f29 isLaid
  rw [f44_eq l h]
  simp only [Option.bind_some, cond_or]
  have bn : ∀ a b : Int, (a != b) = !(a == b) := fun _ _ => rfl
  rw [bn, bn]
  by_cases hq : (are l && (g.length : Int) == l.length) && (o.length : Int) == l.length
  · have hq' := hq
    simp only [Bool.and_eq_true, beq_iff_eq] at hq'
    obtain ⟨⟨q1, q2⟩, q3⟩ := hq'
    have hg : g.length = l.length := by omega
    have ho : o.length = l.length := by omega
    have e : (((!are l) || !((g.length : Int) == l.length)) || !((o.length : Int) == l.length)) = false := by rw [q1, q2, q3]; simp
    rw [e, hq, Bool.true_and, cond_false, any_zip l g o hg ho]
    have key := iter_list l h.len (fun i => f29_b1 l g o i) (fun r i => cond ((List.range' i r.length).all (fun i => !(decide (g.getD i default < 0) || decide (o.getD i default < 0)))) (Out.go () : Out Bool Unit) (Out.ret false)) ?_ ?_
    · rw [key, ← List.range_eq_range']
      cases (List.range l.length).all (fun i => !(decide (g.getD i default < 0) || decide (o.getD i default < 0))) <;> rfl
    · intro i x r hi hx hd
      have h1 : (0 : Int) ≤ i ∧ (i : Int) < (l.length : Int) := ⟨by omega, by omega⟩
      have h2 : (0 : Int) ≤ i ∧ (i : Int) < (g.length : Int) := ⟨by omega, by omega⟩
      have h3 : (0 : Int) ≤ i ∧ (i : Int) < (o.length : Int) := ⟨by omega, by omega⟩
      simp only [f29_b1, Int.toNat_natCast, h1, h2, h3, and_self, if_true, decide_true, cond_true, cond_or, Option.bind_some, List.length_cons, List.range'_succ, List.all_cons]
      cases hb : (decide (g.getD i default < 0) || decide (o.getD i default < 0)) with
      | true => left; simp
      | false => right; exact ⟨rfl, rfl⟩
    · simp [f29_b1]
  · have hq' : ((are l && (g.length : Int) == l.length) && (o.length : Int) == l.length) = false := by simpa using hq
    have e : (((!are l) || !((g.length : Int) == l.length)) || !((o.length : Int) == l.length)) = true := by
      revert hq'
      cases are l <;> cases (g.length : Int) == l.length <;> cases (o.length : Int) == l.length <;> simp
    rw [e, hq', cond_true, Bool.false_and]

theorem isLaid_iff {l : List T36} {g o : List Int} (h : isLaid l g o = true) : are l = true ∧ g.length = l.length ∧ o.length = l.length ∧ (∀ x ∈ g, 0 ≤ x) ∧ ∀ x ∈ o, 0 ≤ x := by
  simp only [isLaid, Bool.and_eq_true, beq_iff_eq, Bool.not_eq_true', List.any_eq_false, decide_eq_true_eq] at h
  obtain ⟨⟨⟨h1, h2⟩, h3⟩, h4, h5⟩ := h
  exact ⟨h1, by omega, by omega, fun x hx => by have := h4 x hx; omega, fun x hx => by have := h5 x hx; omega⟩

theorem goodAt_ok {l : List T36} : ∀ {r : List T36} {i : Nat}, goodAt l r i = true → ∀ x ∈ r, okV x = true
  | [], _, _, x, hx => by cases hx
  | y :: r, i, h, x, hx => by
    simp only [goodAt, Bool.and_eq_true] at h
    rcases List.mem_cons.1 hx with rfl | hx
    · exact h.1.1
    · exact goodAt_ok h.2 x hx

theorem are_ok {l : List T36} (h : are l = true) : l.length ≤ 60 ∧ ∀ x ∈ l, (x.f1 = 1 ∨ x.f1 = 2 ∨ x.f1 = 4) ∧ 1 ≤ x.f2 ∧ x.f2 ≤ 1000 := by
  simp only [are, Bool.and_eq_true, decide_eq_true_eq] at h
  refine ⟨by omega, fun x hx => ?_⟩
  have := goodAt_ok h.1 x hx
  simp only [okV, Bool.and_eq_true, Bool.or_eq_true, beq_iff_eq, Bool.not_eq_true', decide_eq_false_iff_not] at this
  omega

end Go.Sx.sto

namespace Go.Sx.sto
open Go Go.Sx

theorem wf64 {n : Int} (h : (Lit.int .i64 n).wf = true) : -9223372036854775808 ≤ n ∧ n ≤ 9223372036854775807 := by
  simpa [Lit.wf, IntKind.min, IntKind.max, IntKind.signed, IntKind.bits] using h

theorem w64_mul {a b : Int} (ha : a = 1 ∨ a = 2 ∨ a = 4) (h0 : 0 ≤ b) (h1 : b ≤ 1000) : w64 (a * b) = a * b := by
  apply w64_id <;> rcases ha with rfl | rfl | rfl <;> omega

theorem tdiv_lt {n u m : Int} (h0 : 0 ≤ n) (hu : u = 1 ∨ u = 2 ∨ u = 4) : decide (Int.tdiv n u < m) = decide (n < u * m) := by
  rw [Bool.eq_iff_iff, decide_eq_true_eq, decide_eq_true_eq, Int.tdiv_eq_ediv_of_nonneg h0]
  rcases hu with rfl | rfl | rfl <;> omega

theorem tdiv_range {n u : Int} (h0 : 0 ≤ n) (h1 : n ≤ 9223372036854775807) (hu : u = 1 ∨ u = 2 ∨ u = 4) : w64 (Int.tdiv n u) = Int.tdiv n u := by
  rw [Int.tdiv_eq_ediv_of_nonneg h0]
  apply w64_id <;> rcases hu with rfl | rfl | rfl <;> omega

theorem f9_nil (l : List T36) (h : l.length ≤ maxLen) : f9 l [] [] = some (decide ((l.length : Int) > 500)) := by
  have hm := maxLen_le
  have e1 : w64 ((l.length : Int) + (([] : List (List T34)).length : Int)) = (l.length : Int) := by simp only [List.length_nil]; rw [w64_id (by omega) (by omega)]; omega
  have e2 : w64 ((l.length : Int) + (([] : List (List (List UInt8))).length : Int)) = (l.length : Int) := by simp only [List.length_nil]; rw [w64_id (by omega) (by omega)]; omega
  unfold f9
  rw [e1, e2]
  have i1 : iter (fun s => f9_b1 [] s.1 s.2) ((l.length : Int), (0 : Int)) = some (.go (l.length : Int)) := iter_inr rfl
  have i2 : iter (fun s => f9_b2 [] s.1 s.2) ((l.length : Int), (0 : Int)) = some (.go (l.length : Int)) := iter_inr rfl
  rw [i1]
  simp only [Option.bind_some]
  rw [i2]
  rfl


end Go.Sx.sto

namespace Go.Sx.sto
open Go Go.Sx

def isPl (l : List T36) (p : T34) : Bool := match fd l p.f0 with
  | some i => decide (p.f1 ≥ 0) && decide (p.f1 < (l.getD i default).f2)
  | none => false

theorem f30_eq (l : List T36) (h : l.length ≤ maxLen) (p : T34) : f30 l p = some (isPl l p) := by
  unfold f30 isPl
  rw [f34_eq l h]
  cases hf : fd l p.f0 with
  | none => rfl
  | some i =>
    have hi := fd_lt hf
    have h0 : decide (idx (some i) ≥ 0) = true := by simp [idx]
    have h1 : (0 : Int) ≤ idx (some i) ∧ idx (some i) < (l.length : Int) := by simp only [idx]; omega
    simp only [Option.bind_some, h0, cond_true, if_pos h1, cond_and]
    rfl

theorem f32_eq (l : List T36) (h : l.length ≤ maxLen) (p : T34) : f32 l p = some (isPl l p) := by
  unfold f32 isPl
  rw [f33_eq l h]
  cases hf : fd l p.f0 with
  | none => rfl
  | some i =>
    have hi := fd_lt hf
    have h0 : decide (idx (some i) ≥ 0) = true := by simp [idx]
    have h1 : (0 : Int) ≤ idx (some i) ∧ idx (some i) < (l.length : Int) := by simp only [idx]; omega
    simp only [Option.bind_some, h0, cond_true, if_pos h1, cond_and]
    rfl

theorem wrap_u64 {n : Int} (h0 : 0 ≤ n) (h1 : n ≤ 18446744073709551615) : IntKind.wrap .u64 n = n := by
  simp only [IntKind.wrap, IntKind.signed, IntKind.bits]
  simp
  omega

theorem isPl_iff {l : List T36} {p : T34} (h : isPl l p = true) : ∃ i, fd l p.f0 = some i ∧ i < l.length ∧ 0 ≤ p.f1 ∧ p.f1 < (l.getD i default).f2 := by
  unfold isPl at h
  split at h
  · rename_i i hf
    simp only [Bool.and_eq_true, decide_eq_true_eq] at h
    exact ⟨i, hf, fd_lt hf, h.1, h.2⟩
  · cases h

/-- Where an element begins. -/
def bg (l : List T36) (o : List Int) (i : Nat) (n : Int) : Int := o.getD i default + n * (l.getD i default).f1

theorem f31_eq {l : List T36} {g o : List Int} (hl : isLaid l g o = true) (hlen : l.length ≤ maxLen) (ho : ∀ x ∈ o, x ≤ 9223372036854775807) {p : T34} {i : Nat} (hf : fd l p.f0 = some i) (h0 : 0 ≤ p.f1) (h1 : p.f1 < (l.getD i default).f2) :
    f31 l g o p = some (g.getD i default, bg l o i p.f1, bg l o i p.f1 + (l.getD i default).f1) := by
  obtain ⟨ha, e1, e2, e3, e4⟩ := isLaid_iff hl
  obtain ⟨_, hok⟩ := are_ok ha
  have hi := fd_lt hf
  obtain ⟨k1, k2, k3⟩ := hok _ (getD_mem hi)
  have o1 := e4 _ (getD_mem (l := o) (i := i) (by omega))
  have o2 := ho _ (getD_mem (l := o) (i := i) (by omega))
  unfold f31
  rw [f34_eq l hlen, hf]
  have g1 : (0 : Int) ≤ idx (some i) ∧ idx (some i) < (o.length : Int) ∧ (0 : Int) ≤ idx (some i) ∧ idx (some i) < (l.length : Int) := by simp only [idx]; omega
  have g2 : (0 : Int) ≤ idx (some i) ∧ idx (some i) < (g.length : Int) ∧ (0 : Int) ≤ idx (some i) ∧ idx (some i) < (l.length : Int) := by simp only [idx]; omega
  have hn : (idx (some i)).toNat = i := by simp [idx]
  have hb : 0 ≤ p.f1 * (l.getD i default).f1 ∧ p.f1 * (l.getD i default).f1 ≤ 4000 := by rcases k1 with h | h | h <;> rw [h] <;> omega
  have w1 : w64 (p.f1 * (l.getD i default).f1) = p.f1 * (l.getD i default).f1 := w64_id (by omega) (by omega)
  simp only [Option.bind_some, if_pos g1, if_pos g2, hn, w1]
  rw [wrap_u64 (n := p.f1 * (l.getD i default).f1) hb.1 (by omega), wrap_u64 (n := o.getD i default) o1 (by omega), wrap_u64 (n := (l.getD i default).f1) (by omega) (by omega), wrap_u64 (n := o.getD i default + p.f1 * (l.getD i default).f1) (by omega) (by omega), wrap_u64 (by omega) (by omega)]
  rfl

def ovl (l : List T36) (g o : List Int) (a b : T34) : Bool × Int :=
  if isLaid l g o then (if isPl l a && isPl l b then (match fd l a.f0, fd l b.f0 with
    | some i, some k => ((g.getD i default == g.getD k default) && (decide (bg l o i a.f1 < bg l o k b.f1 + (l.getD k default).f1) && decide (bg l o k b.f1 < bg l o i a.f1 + (l.getD i default).f1)), 0)
    | _, _ => (false, 0)) else (false, 5)) else (false, 2)

theorem f20_eq (l : List T36) (g o : List Int) (a b : T34) (h : Vs l) (hg : g.length ≤ maxLen) (ho : o.length ≤ maxLen) (hw : ∀ x ∈ o, x ≤ 9223372036854775807) : f20 l g o a b = some (ovl l g o a b) := by
  unfold f20 ovl
  rw [f28_eq l g o h hg ho]
  cases hl : isLaid l g o with
  | false => rfl
  | true =>
    simp only [Option.bind_some, Bool.not_true, cond_false, f30_eq l h.len, if_true]
    cases ha : isPl l a with
    | false => simp
    | true =>
      cases hb : isPl l b with
      | false => simp
      | true =>
        obtain ⟨i, fi, li, a0, a1⟩ := isPl_iff ha
        obtain ⟨k, fk, lk, b0, b1⟩ := isPl_iff hb
        obtain ⟨hv, e1, e2, e3, e4⟩ := isLaid_iff hl
        obtain ⟨_, hok⟩ := are_ok hv
        obtain ⟨i1, i2, i3⟩ := hok _ (getD_mem li)
        obtain ⟨k1, k2, k3⟩ := hok _ (getD_mem lk)
        simp only [Bool.not_true, cond_false, Option.bind_some, f31_eq hl h.len hw fi a0 a1, f31_eq hl h.len hw fk b0 b1, Bool.and_self, if_true, fi, fk, cond_and]
        congr 2
        congr 1
        rw [Bool.eq_iff_iff]
        simp only [decide_eq_true_eq, Bool.and_eq_true]
        split <;> split <;> omega

theorem f21_eq (l : List T36) (g o : List Int) (a b : T34) (h : Vs l) (hg : g.length ≤ maxLen) (ho : o.length ≤ maxLen) (hw : ∀ x ∈ o, x ≤ 9223372036854775807) : f21 l g o a b = some (ovl l g o a b) := by
  unfold f21 ovl
  rw [f29_eq l g o h]
  cases hl : isLaid l g o with
  | false => rfl
  | true =>
    simp only [Option.bind_some, Bool.not_true, cond_false, f32_eq l h.len, if_true]
    cases ha : isPl l a with
    | false => simp
    | true =>
      cases hb : isPl l b with
      | false => simp
      | true =>
        obtain ⟨i, fi, li, a0, a1⟩ := isPl_iff ha
        obtain ⟨k, fk, lk, b0, b1⟩ := isPl_iff hb
        obtain ⟨hv, e1, e2, e3, e4⟩ := isLaid_iff hl
        obtain ⟨_, hok⟩ := are_ok hv
        obtain ⟨i1, i2, i3⟩ := hok _ (getD_mem li)
        obtain ⟨k1, k2, k3⟩ := hok _ (getD_mem lk)
        have oi := e4 _ (getD_mem (l := o) (i := i) (by omega))
        have oi2 := hw _ (getD_mem (l := o) (i := i) (by omega))
        have ok := e4 _ (getD_mem (l := o) (i := k) (by omega))
        have ok2 := hw _ (getD_mem (l := o) (i := k) (by omega))
        have hn : ∀ q, (idx (some q)).toNat = q := fun q => by simp [idx]
        have g1 : (0 : Int) ≤ idx (some i) ∧ idx (some i) < (o.length : Int) ∧ (0 : Int) ≤ idx (some k) ∧ idx (some k) < (o.length : Int) := by simp only [idx]; omega
        have g2 : (0 : Int) ≤ idx (some i) ∧ idx (some i) < (g.length : Int) ∧ (0 : Int) ≤ idx (some k) ∧ idx (some k) < (g.length : Int) := by simp only [idx]; omega
        have g3 : (0 : Int) ≤ idx (some i) ∧ idx (some i) < (l.length : Int) ∧ (0 : Int) ≤ idx (some k) ∧ idx (some k) < (l.length : Int) := by simp only [idx]; omega
        have g4 : (0 : Int) ≤ idx (some k) ∧ idx (some k) < (l.length : Int) := by simp only [idx]; omega
        have g5 : (0 : Int) ≤ idx (some i) ∧ idx (some i) < (l.length : Int) := by simp only [idx]; omega
        have ba : 0 ≤ a.f1 * (l.getD i default).f1 ∧ a.f1 * (l.getD i default).f1 ≤ 4000 := by rcases i1 with h | h | h <;> rw [h] <;> omega
        have bb : 0 ≤ b.f1 * (l.getD k default).f1 ∧ b.f1 * (l.getD k default).f1 ≤ 4000 := by rcases k1 with h | h | h <;> rw [h] <;> omega
        have w1 : w64 (o.getD i default - o.getD k default) = o.getD i default - o.getD k default := w64_id (by omega) (by omega)
        have w2 : w64 (a.f1 * (l.getD i default).f1) = a.f1 * (l.getD i default).f1 := w64_id (by omega) (by omega)
        have w3 : w64 (b.f1 * (l.getD k default).f1) = b.f1 * (l.getD k default).f1 := w64_id (by omega) (by omega)
        have w4 : w64 (b.f1 * (l.getD k default).f1 + (l.getD k default).f1) = b.f1 * (l.getD k default).f1 + (l.getD k default).f1 := w64_id (by omega) (by omega)
        simp only [Bool.not_true, cond_false, Option.bind_some, f33_eq l h.len, fi, fk, Bool.and_self, if_true, if_pos g1, if_pos g2, if_pos g3, if_pos g4, if_pos g5, hn, w1, w2, w3, w4, cond_or, cond_and]
        have hbi : bg l o i a.f1 = o.getD i default + a.f1 * (l.getD i default).f1 := rfl
        have hbk : bg l o k b.f1 = o.getD k default + b.f1 * (l.getD k default).f1 := rfl
        have en : (g.getD i default != g.getD k default) = !(g.getD i default == g.getD k default) := rfl
        rw [en]
        cases hgk : g.getD i default == g.getD k default with
        | false => simp
        | true =>
          simp only [Bool.not_true, Bool.false_or, Bool.true_and]
          by_cases hfar : o.getD i default - o.getD k default > 10000 ∨ o.getD i default - o.getD k default < -10000
          · have e5 : (decide (o.getD i default - o.getD k default > 10000) || decide (o.getD i default - o.getD k default < -10000)) = true := by simpa using hfar
            have e6 : (decide (bg l o i a.f1 < bg l o k b.f1 + (l.getD k default).f1) && decide (bg l o k b.f1 < bg l o i a.f1 + (l.getD i default).f1)) = false := by
              rw [Bool.and_eq_false_iff, decide_eq_false_iff_not, decide_eq_false_iff_not]; omega
            rw [e5, e6]; rfl
          · have e5 : (decide (o.getD i default - o.getD k default > 10000) || decide (o.getD i default - o.getD k default < -10000)) = false := by
              rw [Bool.or_eq_false_iff, decide_eq_false_iff_not, decide_eq_false_iff_not]; omega
            rw [e5, cond_false, w64_id (n := o.getD i default - o.getD k default + a.f1 * (l.getD i default).f1) (by omega) (by omega), w64_id (n := o.getD i default - o.getD k default + a.f1 * (l.getD i default).f1 + (l.getD i default).f1) (by omega) (by omega)]
            have e7 : decide (o.getD i default - o.getD k default + a.f1 * (l.getD i default).f1 < b.f1 * (l.getD k default).f1 + (l.getD k default).f1) = decide (bg l o i a.f1 < bg l o k b.f1 + (l.getD k default).f1) := by rw [Bool.eq_iff_iff, decide_eq_true_eq, decide_eq_true_eq]; omega
            have e8 : decide (b.f1 * (l.getD k default).f1 < o.getD i default - o.getD k default + a.f1 * (l.getD i default).f1 + (l.getD i default).f1) = decide (bg l o k b.f1 < bg l o i a.f1 + (l.getD i default).f1) := by rw [Bool.eq_iff_iff, decide_eq_true_eq, decide_eq_true_eq]; omega
            rw [e7, e8]

def sam (l : List T36) (g o : List Int) (a b : List UInt8) : Bool × Int :=
  if isLaid l g o then (match fd l a, fd l b with
    | some i, some k => ((g.getD i default == g.getD k default) && ((o.getD i default == o.getD k default) && (w64 ((l.getD i default).f1 * (l.getD i default).f2) == w64 ((l.getD k default).f1 * (l.getD k default).f2))), 0)
    | _, _ => (false, 5)) else (false, 2)

theorem f22_eq (l : List T36) (g o : List Int) (a b : List UInt8) (h : Vs l) (hg : g.length ≤ maxLen) (ho : o.length ≤ maxLen) : f22 l g o a b = some (sam l g o a b) := by
  unfold f22 sam
  rw [f28_eq l g o h hg ho]
  cases hl : isLaid l g o with
  | false => rfl
  | true =>
    obtain ⟨hv, e1, e2, e3, e4⟩ := isLaid_iff hl
    simp only [Option.bind_some, Bool.not_true, cond_false, f34_eq l h.len, if_true, cond_or]
    have n1 : decide (idx none < (0 : Int)) = true := rfl
    have n2 : ∀ i : Nat, decide (idx (some i) < (0 : Int)) = false := fun i => decide_eq_false (by simp only [idx]; omega)
    cases fi : fd l a with
    | none => rw [n1]; rfl
    | some i =>
      cases fk : fd l b with
      | none => rw [n1, n2]; rfl
      | some k =>
        have li := fd_lt fi
        have lk := fd_lt fk
        have hn : ∀ q, (idx (some q)).toNat = q := fun q => by simp [idx]
        have g1 : (0 : Int) ≤ idx (some i) ∧ idx (some i) < (o.length : Int) ∧ (0 : Int) ≤ idx (some k) ∧ idx (some k) < (o.length : Int) := by simp only [idx]; omega
        have g2 : (0 : Int) ≤ idx (some i) ∧ idx (some i) < (g.length : Int) ∧ (0 : Int) ≤ idx (some k) ∧ idx (some k) < (g.length : Int) := by simp only [idx]; omega
        have g3 : (0 : Int) ≤ idx (some i) ∧ idx (some i) < (l.length : Int) ∧ (0 : Int) ≤ idx (some k) ∧ idx (some k) < (l.length : Int) := by simp only [idx]; omega
        simp only [n2, Bool.or_self, cond_false, if_pos g1, if_pos g2, if_pos g3, hn, f25, Option.bind_some, cond_and]

theorem f23_eq (l : List T36) (g o : List Int) (a b : List UInt8) (h : Vs l) (hg : g.length ≤ maxLen) (ho : o.length ≤ maxLen) : f23 l g o a b = some (sam l g o a b) := by
  unfold f23 sam
  rw [f29_eq l g o h]
  cases hl : isLaid l g o with
  | false => rfl
  | true =>
    obtain ⟨hv, e1, e2, e3, e4⟩ := isLaid_iff hl
    simp only [Option.bind_some, Bool.not_true, cond_false, f33_eq l h.len, if_true, cond_or]
    have n1 : decide (idx none < (0 : Int)) = true := rfl
    have n2 : ∀ i : Nat, decide (idx (some i) < (0 : Int)) = false := fun i => decide_eq_false (by simp only [idx]; omega)
    cases fi : fd l a with
    | none => rw [n1]; rfl
    | some i =>
      cases fk : fd l b with
      | none => rw [n1, n2]; rfl
      | some k =>
        have li := fd_lt fi
        have lk := fd_lt fk
        have hn : ∀ q, (idx (some q)).toNat = q := fun q => by simp [idx]
        have g1 : (0 : Int) ≤ idx (some i) ∧ idx (some i) < (o.length : Int) ∧ (0 : Int) ≤ idx (some k) ∧ idx (some k) < (o.length : Int) := by simp only [idx]; omega
        have g2 : (0 : Int) ≤ idx (some i) ∧ idx (some i) < (g.length : Int) ∧ (0 : Int) ≤ idx (some k) ∧ idx (some k) < (g.length : Int) := by simp only [idx]; omega
        have g3 : (0 : Int) ≤ idx (some i) ∧ idx (some i) < (l.length : Int) ∧ (0 : Int) ≤ idx (some i) ∧ idx (some i) < (l.length : Int) ∧ (0 : Int) ≤ idx (some k) ∧ idx (some k) < (l.length : Int) ∧ (0 : Int) ≤ idx (some k) ∧ idx (some k) < (l.length : Int) := by simp only [idx]; omega
        simp only [n2, Bool.or_self, cond_false, if_pos g1, if_pos g2, if_pos g3, hn, Option.bind_some, cond_and]

theorem Pure.StorageOverlaps : LawStorageOverlaps := fun l x hl hx => by
  have hv := Vs.of hl
  have hg := hx.1.1
  have ho := hx.2.1.1
  have hw : ∀ y ∈ x.f1, y ≤ 9223372036854775807 := fun y hy => (wf64 (hx.2.1.2 y hy)).2
  unfold f8
  rw [f9_nil l hl.1, f20_eq l x.f0 x.f1 x.f2 x.f3 hv hg ho hw, f21_eq l x.f0 x.f1 x.f2 x.f3 hv hg ho hw, f22_eq l x.f0 x.f1 x.f2.f0 x.f3.f0 hv hg ho, f23_eq l x.f0 x.f1 x.f2.f0 x.f3.f0 hv hg ho, awake]
  simp only [Option.bind_some, cond_or, beq_self_eq_true]
  cases (decide ((l.length : Int) > 500) || decide ((x.f0.length : Int) > 500)) || decide ((x.f1.length : Int) > 500) <;> rfl

end Go.Sx.sto
