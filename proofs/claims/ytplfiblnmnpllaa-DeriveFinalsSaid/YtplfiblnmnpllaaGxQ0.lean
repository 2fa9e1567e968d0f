/- Plain laws of the printed functions of types: the check of sanity, names, the first that is so; no condition. -/
import Derived.Test.YtplfiblnmnpllaaGxG
import Derived.Test.YtplfiblnmnpllaaGxM
import Derived.Test.YtplfiblnmnpllaaSxC
namespace Go.Sx.der
open Go Go.Sx

theorem awake : f13 = some true := f13_le 60 true (by kernel_rfl)

def isLetterI (c : Int) : Bool := (decide (c ≥ 97) && decide (c ≤ 122)) || (decide (c ≥ 65) && decide (c ≤ 90))
def isDigitI (c : Int) : Bool := decide (c ≥ 48) && decide (c ≤ 57)
def isPartI (c : Int) : Bool := (isLetterI c || isDigitI c) || c == 95
def isUpperI (c : Int) : Bool := decide (c ≥ 65) && decide (c ≤ 90)

theorem f85_eq (c : Int) : f85 c = some (isLetterI c) := by simp only [f85, cond_and, Option.bind_some, cond_or, isLetterI]
theorem f93_eq (c : Int) : f93 c = some (isDigitI c) := by simp only [f93, cond_and, Option.bind_some, isDigitI]
theorem f87_eq (c : Int) : f87 c = some (isPartI c) := by simp only [f87, f85_eq, f93_eq, cond_or, Option.bind_some, isPartI]
def byteI (b : UInt8) : Int := ((b.toNat : Nat) : Int)

/-- How many parts of a name stand in front. -/
def runLen : List UInt8 → Nat
  | [] => 0
  | b :: r => if isPartI (byteI b) then runLen r + 1 else 0

theorem f86_eq (s : List UInt8) (h : s.length ≤ maxLen) : f86_87 s = some ((runLen s : Nat) : Int) := by
  have := iter_list s h (fun i => f86_87_b1 s i) (fun r i => (Out.go ((i + runLen r : Nat) : Int) : Out Int Int)) ?_ ?_
  · unfold f86_87
    rw [this]
    simp
  · intro i x r hi hx _
    have h1 : (0 : Int) ≤ i ∧ (i : Int) < (s.length : Int) := ⟨by omega, by omega⟩
    have hx' : s.getD i 0 = x := hx
    simp only [f86_87_b1, Int.toNat_natCast, hx', h1, and_self, if_true, decide_true, cond_true, f87_eq, Option.bind_some]
    cases hb : isPartI ((x.toNat : Nat) : Int) with
    | true => right; simp [runLen, byteI, hb]; omega
    | false => left; simp [runLen, byteI, hb]
  · simp [f86_87_b1, runLen]

def low (n : Int) : Int := if isUpperI n then n + 32 else n

theorem wrap_u8 {n : Int} (h0 : 0 ≤ n) (h1 : n ≤ 255) : IntKind.wrap .u8 n = n := by
  simp only [IntKind.wrap, IntKind.min, IntKind.max, IntKind.signed, IntKind.bits]
  simp
  omega

theorem f88_eq (s : List UInt8) (h : s.length ≤ maxLen) : f88 s = some (s.map fun b => UInt8.ofNat (low (byteI b)).toNat) := by
  have hm := maxLen_le
  have key := iter_ind (fun q => f88_b2 s q.1 q.2) (fun q => ∃ i, i ≤ s.length ∧ q.2 = ((i : Nat) : Int) ∧ q.1 = ((s.map byteI).take i).map low ++ (s.map byteI).drop i) (fun q => s.length - q.2.toNat) (fun _ x => x = Out.go ((s.map byteI).map low)) ?_ (s.map byteI, 0) ⟨0, Nat.zero_le _, rfl, by simp⟩
  · obtain ⟨x, hx, rfl⟩ := key
    unfold f88
    rw [if_pos (by omega)]
    have hx' : iter (fun q => f88_b2 s q.1 q.2) (s.map (fun b => ((b.toNat : Nat) : Int)), (0 : Int)) = some (Out.go ((s.map byteI).map low)) := hx
    rw [hx']
    simp [List.map_map, Function.comp_def]
  · rintro ⟨b, k⟩ ⟨i, hi, hk, hb⟩
    simp only at hk hb
    subst hk hb
    have hlen : (((s.map byteI).take i).map low ++ (s.map byteI).drop i).length = s.length := by simp; omega
    by_cases hlt : i < s.length
    · left
      have h1 : (0 : Int) ≤ i ∧ (i : Int) < ((((s.map byteI).take i).map low ++ (s.map byteI).drop i).length : Int) := ⟨by omega, by rw [hlen]; omega⟩
      have h2 : ((i : Int) < ((s.map (fun b => ((b.toNat : Nat) : Int))).length : Int)) := by simp; omega
      have hget : (((s.map byteI).take i).map low ++ (s.map byteI).drop i).getD i default = byteI s[i] := by
        simp only [List.getD_eq_getElem?_getD]
        rw [List.getElem?_append_right (by simp; omega)]
        simp [Nat.min_eq_left hi, hlt]
      have hset : (((s.map byteI).take i).map low ++ (s.map byteI).drop i).set i (low (byteI s[i])) = ((s.map byteI).take (i + 1)).map low ++ (s.map byteI).drop (i + 1) := by
        have e1 : (s.map byteI).drop i = byteI s[i] :: (s.map byteI).drop (i + 1) := by
          rw [List.drop_eq_getElem_cons (by simpa using hlt)]; simp
        have e2 : (s.map byteI).take (i + 1) = (s.map byteI).take i ++ [byteI s[i]] := by
          rw [List.take_succ_eq_append_getElem (by simpa using hlt)]; simp
        rw [e1, e2, List.set_append_right _ _ (by simp; omega)]
        simp [Nat.min_eq_left hi]
      have hlow : isUpperI (byteI s[i]) = false → (((s.map byteI).take i).map low ++ (s.map byteI).drop i) = ((s.map byteI).take (i + 1)).map low ++ (s.map byteI).drop (i + 1) := by
        intro hu
        rw [← hset]
        have : low (byteI s[i]) = byteI s[i] := by simp [low, hu]
        rw [this]
        apply List.ext_getElem?
        intro j
        by_cases hj : j = i
        · subst hj
          rw [List.getElem?_set_self (by omega)]
          have := hget
          rw [List.getD_eq_getElem?_getD] at this
          have hs : (((s.map byteI).take j).map low ++ (s.map byteI).drop j)[j]? = some ((((s.map byteI).take j).map low ++ (s.map byteI).drop j)[j]'(by omega)) := List.getElem?_eq_getElem (by omega)
          rw [hs] at this ⊢
          simp only [Option.getD_some] at this
          rw [this]
        · rw [List.getElem?_set_ne (by omega)]
      have hw : w64 ((i : Int) + 1) = ((i + 1 : Nat) : Int) := w64_succ hlt h
      have h0 : 0 ≤ byteI s[i] ∧ byteI s[i] ≤ 255 := by
        have := s[i].toNat_lt
        simp only [byteI]; omega
      cases hu : isUpperI (byteI s[i]) with
      | true =>
        have hu' : byteI s[i] ≥ 65 ∧ byteI s[i] ≤ 90 := by simpa [isUpperI] using hu
        have hv : IntKind.wrap .u8 (IntKind.wrap .u8 (byteI s[i] - 65) + 97) = low (byteI s[i]) := by
          rw [wrap_u8 (n := byteI s[i] - 65) (by omega) (by omega), wrap_u8 (by omega) (by omega)]
          simp only [low, hu, if_true]; omega
        refine ⟨(((s.map byteI).take (i + 1)).map low ++ (s.map byteI).drop (i + 1), ((i + 1 : Nat) : Int)), ?_, ⟨i + 1, hlt, rfl, rfl⟩, by simp; omega, fun x hx => hx⟩
        simp only [f88_b2, f88_j1, Int.toNat_natCast, hget, h1, h2, and_self, if_true, decide_true, cond_true, hu'.1, hu'.2, Option.bind_some, hv, hset, hw]
      | false =>
        refine ⟨(((s.map byteI).take (i + 1)).map low ++ (s.map byteI).drop (i + 1), ((i + 1 : Nat) : Int)), ?_, ⟨i + 1, hlt, rfl, rfl⟩, by simp; omega, fun x hx => hx⟩
        have hu' : (decide (byteI s[i] ≥ 65) && decide (byteI s[i] ≤ 90)) = false := hu
        simp only [f88_b2, f88_j1, Int.toNat_natCast, hget, h1, h2, and_self, if_true, decide_true, cond_true, cond_and, hu', cond_false, Option.bind_some, hw, ← hlow hu]
    · right
      obtain rfl : i = s.length := by omega
      refine ⟨_, ?_, rfl⟩
      simp only [f88_b2]
      rw [show decide (((s.length : Nat) : Int) < ((s.map (fun b => ((b.toNat : Nat) : Int))).length : Int)) = false from by simp]
      have e1 : (s.map byteI).take s.length = s.map byteI := List.take_of_length_le (by simp)
      have e2 : (s.map byteI).drop s.length = [] := List.drop_of_length_le (by simp)
      simp only [cond_false, e1, e2, List.append_nil]

/-! ### Names -/

def innerB (b : UInt8) : Bool := isPartI (byteI b) && !isUpperI (byteI b)

def nameOk (s : List UInt8) : Bool := (!(s == ([] : List UInt8)) && decide ((s.length : Int) ≤ 12)) && (s.all innerB && (isLetterI (byteI (s.getD 0 0))))

theorem runLen_le : ∀ (s : List UInt8), runLen s ≤ s.length
  | [] => Nat.le_refl _
  | b :: r => by
    have := runLen_le r
    simp only [runLen, List.length_cons]
    split <;> omega

theorem runLen_all : ∀ (s : List UInt8), (((runLen s : Nat) : Int) == (s.length : Int)) = s.all (fun b => isPartI (byteI b))
  | [] => rfl
  | b :: r => by
    have h := runLen_all r
    have hle := runLen_le r
    simp only [runLen, List.all_cons, List.length_cons]
    cases hb : isPartI (byteI b) with
    | true =>
      simp only [if_true, Bool.true_and, ← h]
      by_cases he : runLen r = r.length
      · simp [he]
      · have : ((runLen r : Nat) : Int) ≠ (r.length : Int) := by omega
        have h2 : (((runLen r + 1 : Nat)) : Int) ≠ ((r.length + 1 : Nat) : Int) := by omega
        rw [beq_eq_false_iff_ne.2 this, beq_eq_false_iff_ne.2 h2]
    | false =>
      simp only [Bool.false_eq_true, if_false, Bool.false_and]
      exact beq_eq_false_iff_ne.2 (by omega)

theorem low_one (b : UInt8) : (b == UInt8.ofNat (low (byteI b)).toNat) = !isUpperI (byteI b) := by
  have hb := b.toNat_lt
  cases hu : isUpperI (byteI b) with
  | true =>
    have hu' : byteI b ≥ 65 ∧ byteI b ≤ 90 := by simpa [isUpperI] using hu
    simp only [low, hu, if_true, Bool.not_true]
    refine beq_eq_false_iff_ne.2 fun e => ?_
    have := congrArg UInt8.toNat e
    simp only [byteI] at hu' this
    rw [UInt8.toNat_ofNat'] at this
    omega
  | false =>
    have hl : low (byteI b) = byteI b := by simp [low, hu]
    rw [hl]
    simp [byteI]

theorem low_all : ∀ (s : List UInt8), (s == s.map fun b => UInt8.ofNat (low (byteI b)).toNat) = s.all (fun b => !isUpperI (byteI b))
  | [] => rfl
  | b :: r => by
    rw [List.map_cons, List.all_cons, ← low_one b, ← low_all r]
    rfl

theorem all_inner (s : List UInt8) : s.all innerB = (s.all (fun b => isPartI (byteI b)) && s.all (fun b => !isUpperI (byteI b))) := by
  induction s with
  | nil => rfl
  | cons b r ih =>
    simp only [List.all_cons, ih, innerB]
    cases isPartI (byteI b) <;> cases isUpperI (byteI b) <;> simp

theorem f77_eq (s : List UInt8) (h : s.length ≤ maxLen) : f77 s = some (nameOk s) := by
  unfold f77 nameOk
  rw [cond_and, all_inner]
  simp only [Option.bind_some, f85_eq, f86_eq s h, f88_eq s h, runLen_all, low_all]
  cases hs : (!(s == ([] : List UInt8)) && decide ((s.length : Int) ≤ 12)) with
  | false => simp
  | true =>
    have hpos : (0 : Int) < (s.length : Int) := by
      cases s with
      | nil => simp at hs
      | cons b r => simp
    simp only [cond_true, if_pos hpos, cond_and, Option.bind_some, Bool.true_and, byteI]
    cases isLetterI ((((s.getD 0 0).toNat : Nat)) : Int) <;> simp

/-- The first that p takes, from i on. -/
def findFrom {A : Type} (p : A → Bool) : List A → Nat → Option Nat
  | [], _ => none
  | x :: r, i => if p x then some i else findFrom p r (i + 1)

def outOf : Option Nat → Out Int Unit
  | some i => .ret ((i : Nat) : Int)
  | none => .go ()

def idx : Option Nat → Int
  | some i => ((i : Nat) : Int)
  | none => -1

theorem index_eq {A : Type} [Inhabited A] (l : List A) (h : l.length ≤ maxLen) (f : A → Option Bool) (p : A → Bool) (hp : ∀ x, f x = some (p x)) (b : Int → Option (Int ⊕ Out Int Unit))
    (hb : ∀ i, b i = cond (decide (i < (l.length : Int))) (if (0 : Int) ≤ i ∧ i < (l.length : Int) then (f (l.getD i.toNat default)).bind fun v3 => cond v3 (some (.inr (.ret i))) (some (.inl (w64 (i + (1 : Int))))) else none) (some (.inr (.go ())))) :
    iter b 0 = some (outOf (findFrom p l 0)) := by
  refine iter_list l h b (fun r i => outOf (findFrom p r i)) ?_ ?_
  · intro i x r hi hx _
    have h1 : (0 : Int) ≤ i ∧ (i : Int) < (l.length : Int) := ⟨by omega, by omega⟩
    simp only [hb, Int.toNat_natCast, hx, h1, and_self, if_true, decide_true, cond_true, hp, Option.bind_some]
    cases hpx : p x with
    | true => left; simp [findFrom, hpx, outOf]
    | false => right; simp [findFrom, hpx]
  · simp [hb, findFrom, outOf]

theorem findFrom_any {A : Type} (p : A → Bool) : ∀ (l : List A) (i : Nat), decide (idx (findFrom p l i) ≥ 0) = l.any p
  | [], i => by simp [findFrom, idx]
  | x :: r, i => by
    simp only [findFrom, List.any_cons]
    by_cases hp : p x = true
    · simp [idx, hp]
    · simp only [hp, if_false, Bool.false_or, Bool.false_eq_true]
      exact findFrom_any p r (i + 1)


theorem findFrom_shift {A : Type} (p : A → Bool) : ∀ (l : List A) (i : Nat), findFrom p l i = (findFrom p l 0).map (· + i)
  | [], i => rfl
  | x :: r, i => by
    simp only [findFrom]
    split
    · simp
    · rw [findFrom_shift p r (i + 1), findFrom_shift p r (0 + 1)]
      cases findFrom p r 0 <;> simp <;> omega

end Go.Sx.der

namespace Go.Sx.der
open Go Go.Sx

def longOne (t : T62) : Bool := decide ((t.f3.length : Int) > 40) || decide ((t.f4.length : Int) > 40)
def long (l : List T62) : Bool := l.any longOne || decide ((l.length : Int) > 40)

theorem f12_eq (l : List T62) (h : l.length ≤ maxLen) : f12 l = some (long l) := by
  have := iter_list l h (fun s => f12_b1 l s) (fun r _ => if r.any longOne then Out.ret true else Out.go ()) ?_ ?_
  · unfold f12
    rw [this]
    simp only [Option.bind_some, long]
    cases l.any longOne <;> simp
  · intro i x r hi hx _
    have h1 : (0 : Int) ≤ i ∧ (i : Int) < (l.length : Int) := ⟨by omega, by omega⟩
    simp only [f12_b1, Int.toNat_natCast, hx, h1, and_self, if_true, decide_true, cond_true, cond_or, Option.bind_some]
    cases hb : (decide ((x.f3.length : Int) > 40) || decide ((x.f4.length : Int) > 40)) with
    | true => left; simp [longOne, hb]
    | false => right; simp [longOne, hb]
  · simp [f12_b1]

/-- A table that is small enough to be looked at. -/
structure Small (l : List T62) : Prop where
  len : l.length ≤ 40
  each : ∀ t ∈ l, t.f3.length ≤ 40 ∧ t.f4.length ≤ 40

theorem small_of {l : List T62} (h : long l = false) : Small l := by
  simp only [long, Bool.or_eq_false_iff, decide_eq_false_iff_not, List.any_eq_false] at h
  refine ⟨by omega, fun t ht => ?_⟩
  have := h.1 t ht
  simp only [longOne, Bool.or_eq_true, decide_eq_true_eq, not_or] at this
  omega

theorem maxLen_big : (1000000 : Nat) ≤ maxLen := by decide

theorem Small.max {l : List T62} (h : Small l) : l.length ≤ maxLen := Nat.le_trans h.len (Nat.le_trans (by decide) maxLen_big)

theorem Small.take {l : List T62} (h : Small l) (n : Nat) : Small (l.take n) := ⟨by simp only [List.length_take]; have := h.len; omega, fun t ht => h.each t (List.mem_of_mem_take ht)⟩

theorem getD_lt {A : Type} [Inhabited A] {l : List A} {i : Nat} (h : i < l.length) : l.getD i default = l[i] := by
  rw [List.getD_eq_getElem?_getD, List.getElem?_eq_getElem h, Option.getD_some]

theorem getD_mem {A : Type} [Inhabited A] {l : List A} {i : Nat} (h : i < l.length) : l.getD i default ∈ l := by
  rw [getD_lt h]; exact List.getElem_mem h

theorem getD_take {A : Type} [Inhabited A] {l : List A} {i n : Nat} (h : i < n) : (l.take n).getD i default = l.getD i default := by
  simp only [List.getD_eq_getElem?_getD, List.getElem?_take, if_pos h]

theorem Small.at {l : List T62} (h : Small l) (i : Nat) : (l.getD i default).f3.length ≤ 40 ∧ (l.getD i default).f4.length ≤ 40 := by
  by_cases hi : i < l.length
  · exact h.each _ (getD_mem hi)
  · rw [List.getD_eq_getElem?_getD, List.getElem?_eq_none (by omega)]
    exact ⟨by decide, by decide⟩

/-! ### The first of a name -/

def fd (l : List T62) (s : List UInt8) : Option Nat := findFrom (fun t => t.f0 == s) l 0

theorem f45_eq (l : List T62) (h : l.length ≤ maxLen) (s : List UInt8) : f45 l s = some (idx (fd l s)) := by
  unfold f45 f73_74
  rw [index_eq l h (fun t => f74 t s) (fun t => t.f0 == s) (fun _ => rfl) (fun i => f73_74_b1 l s i) (fun i => rfl)]
  unfold fd
  cases findFrom (fun t => t.f0 == s) l 0 <;> rfl

theorem findFrom_some {A : Type} [Inhabited A] {p : A → Bool} : ∀ {l : List A} {i j : Nat}, findFrom p l i = some j → i ≤ j ∧ j < i + l.length ∧ p (l.getD (j - i) default) = true ∧ ∀ k, i ≤ k → k < j → p (l.getD (k - i) default) = false
  | [], _, _, h => by cases h
  | x :: r, i, j, h => by
    simp only [findFrom] at h
    split at h
    · rename_i hp
      cases h
      refine ⟨Nat.le_refl _, by simp, by simpa using hp, fun k h1 h2 => by omega⟩
    · rename_i hp
      obtain ⟨h1, h2, h3, h4⟩ := findFrom_some h
      refine ⟨by omega, by simp only [List.length_cons]; omega, ?_, fun k hk1 hk2 => ?_⟩
      · rw [show j - i = (j - (i + 1)) + 1 by omega, List.getD_cons_succ]; exact h3
      · by_cases he : k = i
        · subst he; simpa using hp
        · rw [show k - i = (k - (i + 1)) + 1 by omega, List.getD_cons_succ]; exact h4 k (by omega) hk2

theorem findFrom_none {A : Type} [Inhabited A] {p : A → Bool} : ∀ {l : List A} {i : Nat}, findFrom p l i = none → ∀ k, k < l.length → p (l.getD k default) = false
  | [], _, _, k, hk => by simp at hk
  | x :: r, i, h, k, hk => by
    simp only [findFrom] at h
    split at h
    · cases h
    · rename_i hp
      cases k with
      | zero => simpa using hp
      | succ k => rw [List.getD_cons_succ]; exact findFrom_none h k (by simpa using hk)

theorem findFrom_first {A : Type} [Inhabited A] {p : A → Bool} : ∀ {l : List A} {i j : Nat}, j < l.length → p (l.getD j default) = true → (∀ k, k < j → p (l.getD k default) = false) → findFrom p l i = some (i + j)
  | [], _, _, h, _, _ => by simp at h
  | x :: r, i, j, h, hp, hk => by
    simp only [findFrom]
    cases j with
    | zero => rw [if_pos (by simpa using hp)]; rfl
    | succ j =>
      rw [if_neg (by have := hk 0 (by omega); simpa using this), findFrom_first (by simpa using h) (by simpa using hp) (fun k h1 => by have := hk (k + 1) (by omega); simpa using this)]
      congr 1; omega

theorem fd_some {l : List T62} {s : List UInt8} {j : Nat} (h : fd l s = some j) : j < l.length ∧ (l.getD j default).f0 = s ∧ ∀ k, k < j → (l.getD k default).f0 ≠ s := by
  obtain ⟨_, h2, h3, h4⟩ := findFrom_some h
  refine ⟨by omega, by simpa using h3, fun k hk => by simpa using h4 k (Nat.zero_le _) hk⟩

theorem fd_none {l : List T62} {s : List UInt8} (h : fd l s = none) : ∀ k, k < l.length → (l.getD k default).f0 ≠ s := fun k hk => by
  have := findFrom_none h k hk
  simpa using this

theorem fd_first {l : List T62} {s : List UInt8} {j : Nat} (h : j < l.length) (hs : (l.getD j default).f0 = s) (hk : ∀ k, k < j → (l.getD k default).f0 ≠ s) : fd l s = some j := by
  have := findFrom_first (p := fun t : T62 => t.f0 == s) (l := l) (i := 0) h (by simpa using hs) (fun k h1 => by simpa using hk k h1)
  simpa [fd] using this

theorem fd_take {l : List T62} {s : List UInt8} {j n : Nat} : fd (l.take n) s = some j ↔ fd l s = some j ∧ j < n := by
  constructor
  · intro h
    obtain ⟨h1, h2, h3⟩ := fd_some h
    have hj : j < n ∧ j < l.length := by simp only [List.length_take] at h1; omega
    refine ⟨fd_first hj.2 (by rw [← h2, getD_take hj.1]) (fun k hk => ?_), hj.1⟩
    have := h3 k hk
    rwa [getD_take (by omega)] at this
  · rintro ⟨h, hn⟩
    obtain ⟨h1, h2, h3⟩ := fd_some h
    refine fd_first (by simp only [List.length_take]; omega) (by rw [getD_take hn]; exact h2) (fun k hk => ?_)
    rw [getD_take (by omega)]
    exact h3 k hk

theorem fd_take_none {l : List T62} {s : List UInt8} {n : Nat} : fd (l.take n) s = none ↔ ∀ j, fd l s = some j → n ≤ j := by
  constructor
  · intro h j hj
    rcases Nat.lt_or_ge j n with hlt | hge
    · rw [fd_take.2 ⟨hj, hlt⟩] at h; cases h
    · exact hge
  · intro h
    cases hc : fd (l.take n) s with
    | none => rfl
    | some j =>
      have := fd_take.1 hc
      have := h j this.1
      omega

theorem fd_take_take {l : List T62} {s : List UInt8} {m n : Nat} (h : m ≤ n) : fd ((l.take n).take m) s = fd (l.take m) s := by
  rw [List.take_take, Nat.min_eq_left h]

/-! ### A type and its ancestors -/

abbrev par (l : List T62) (i : Nat) : List UInt8 := (l.getD i default).f1

def upF (l : List T62) : Nat → Nat → List Nat
  | 0, _ => []
  | k + 1, i => i :: (if par l i = [] then [] else match fd (l.take i) (par l i) with | some j => upF l k j | none => [])

def up (l : List T62) (i : Nat) : List Nat := upF l (i + 1) i

theorem upF_eq (l : List T62) : ∀ (k i : Nat), i < k → upF l k i = up l i := by
  intro k
  induction k using Nat.strongRecOn with
  | _ k ih =>
    intro i hi
    obtain ⟨k, rfl⟩ : ∃ k', k = k' + 1 := ⟨k - 1, by omega⟩
    simp only [up, upF]
    congr 1
    split
    · rfl
    · cases hf : fd (l.take i) (par l i) with
      | none => rfl
      | some j =>
        have hj := (fd_take.1 hf).2
        simp only
        rw [ih k (by omega) j (by omega), ih i (by omega) j hj]

theorem up_eq (l : List T62) (i : Nat) : up l i = i :: (if par l i = [] then [] else match fd (l.take i) (par l i) with | some j => up l j | none => []) := by
  have h : up l i = i :: (if par l i = [] then [] else match fd (l.take i) (par l i) with | some j => upF l i j | none => []) := rfl
  rw [h]
  congr 1
  split
  · rfl
  · cases hf : fd (l.take i) (par l i) with
    | none => rfl
    | some j => exact upF_eq l i j (fd_take.1 hf).2

theorem up_le (l : List T62) : ∀ (i : Nat), ∀ k ∈ up l i, k ≤ i := by
  intro i
  induction i using Nat.strongRecOn with
  | _ i ih =>
    intro k hk
    rw [up_eq, List.mem_cons] at hk
    rcases hk with rfl | hk
    · exact Nat.le_refl _
    · split at hk
      · cases hk
      · cases hf : fd (l.take i) (par l i) with
        | none => rw [hf] at hk; cases hk
        | some j =>
          rw [hf] at hk
          have hj := (fd_take.1 hf).2
          have := ih j hj k hk
          omega

theorem up_length (l : List T62) : ∀ (i : Nat), (up l i).length ≤ i + 1 := by
  intro i
  induction i using Nat.strongRecOn with
  | _ i ih =>
    rw [up_eq, List.length_cons]
    split
    · simp
    · cases hf : fd (l.take i) (par l i) with
      | none => simp
      | some j =>
        have hj := (fd_take.1 hf).2
        have := ih j hj
        simp only
        omega

theorem up_take (l : List T62) (n : Nat) : ∀ (i : Nat), i < n → up (l.take n) i = up l i := by
  intro i
  induction i using Nat.strongRecOn with
  | _ i ih =>
    intro hi
    have hp : par (l.take n) i = par l i := by simp only [par, getD_take hi]
    rw [up_eq, up_eq l, hp, fd_take_take (by omega)]
    congr 1
    split
    · rfl
    · cases hf : fd (l.take i) (par l i) with
      | none => rfl
      | some j =>
        have hj := (fd_take.1 hf).2
        exact ih j hj (by omega)

/-- The parents of the first n are ahead of them. -/
def Ahead (l : List T62) (n : Nat) : Prop := ∀ k, k < n → par l k ≠ [] → ∃ j, fd (l.take k) (par l k) = some j

theorem Ahead.le {l : List T62} {m n : Nat} (h : Ahead l n) (hm : m ≤ n) : Ahead l m := fun k hk => h k (by omega)

theorem Ahead.take {l : List T62} {n m : Nat} (h : Ahead l n) (hm : n ≤ m) : Ahead (l.take m) n := fun k hk hp => by
  have e : par (l.take m) k = par l k := by simp only [par, getD_take (show k < m by omega)]
  rw [e] at hp ⊢
  rw [fd_take_take (by omega)]
  exact h k hk hp

theorem go_nil_56 (l : List T62) (acc : List Int) : iter (fun s => f56_b1 l s.1 s.2) ((-1 : Int), acc) = some (.go acc) := iter_inr rfl
def ints (l : List Nat) : List Int := l.map fun (k : Nat) => (k : Int)

theorem f56_loop (l : List T62) (hs : Small l) {n : Nat} (hA : Ahead l n) : ∀ (i : Nat), i < n → i < l.length → ∀ acc : List Int, acc.length + i ≤ 1000 → iter (fun s => f56_b1 l s.1 s.2) ((i : Int), acc) = some (.go (acc ++ ints (up l i))) := by
  intro i
  induction i using Nat.strongRecOn with
  | _ i ih =>
    intro hn hi acc hacc
    have h1 : (0 : Int) ≤ i ∧ (i : Int) < (l.length : Int) := ⟨by omega, by omega⟩
    have hd : decide ((i : Int) ≥ 0) = true := by simp
    have hb : (acc.length + [(i : Int)].length) * 8 ≤ 140737488355328 := by simp only [List.length_cons, List.length_nil]; omega
    rw [up_eq]
    by_cases hp : par l i = []
    · refine iter_inr ?_
      simp only [f56_b1, hd, cond_true, if_pos hb, if_pos h1, Int.toNat_natCast]
      rw [show ((l.getD i default).f1 == ([] : List UInt8)) = true from beq_iff_eq.2 hp, cond_true, if_pos hp]
      rfl
    · obtain ⟨j, hf⟩ := hA i hn hp
      have hj := fd_take.1 hf
      have hstep : f56_b1 l (i : Int) acc = some (.inl ((j : Int), acc ++ [(i : Int)])) := by
        simp only [f56_b1, hd, cond_true, if_pos hb, if_pos h1, Int.toNat_natCast]
        rw [show ((l.getD i default).f1 == ([] : List UInt8)) = false from beq_eq_false_iff_ne.2 hp, cond_false, f45_eq l hs.max, show fd l (l.getD i default).f1 = some j from hj.1]
        rfl
      rw [iter_inl hstep, if_neg hp, hf]
      have := ih j hj.2 (by omega) (by omega) (acc ++ [(i : Int)]) (by simp only [List.length_append, List.length_cons, List.length_nil]; omega)
      rw [this]
      simp [ints]

theorem f56_eq (l : List T62) (hs : Small l) {n : Nat} (hA : Ahead l n) (i : Nat) (hn : i < n) (hi : i < l.length) : f56 l (i : Int) = some (ints (up l i)) := by
  have hl := hs.len
  unfold f56
  rw [f56_loop l hs hA i hn hi [] (by simp; omega)]
  rfl

/-! ### Fields -/

def allF (l : List T62) (i : Nat) : List T35 := (up l i).reverse.flatMap fun k => (l.getD k default).f3

theorem f53_eq (l : List T62) (hs : Small l) {n : Nat} (hA : Ahead l n) (i : Nat) (hn : i < n) (hi : i < l.length) : f53 l (i : Int) = some (allF l i) := by
  have hl := hs.len
  have hul := up_length l i
  unfold f53
  rw [f56_eq l hs hA i hn hi, Option.bind_some, if_pos]
  · congr 1
    simp only [ints, allF, ← List.map_reverse, List.flatMap_map, Int.toNat_natCast]
  · refine ⟨fun k hk => ?_, fun t ht => ?_, by simp only [ints, List.length_map]; omega⟩
    · simp only [ints, List.mem_map] at hk
      obtain ⟨m, hm, rfl⟩ := hk
      have := up_le l i m hm
      omega
    · have := (hs.each t ht).1
      omega

end Go.Sx.der

namespace Go.Sx.der
open Go Go.Sx

theorem iter_listP {A X : Type} [Inhabited A] (l : List A) (hl : l.length ≤ maxLen) (body : Int → Option (Int ⊕ X)) (F : List A → Nat → X) (I : Nat → Prop)
    (hs : ∀ (i : Nat) (x : A) (r : List A), I i → i < l.length → l.getD i default = x → l.drop i = x :: r → (body i = some (.inr (F (x :: r) i))) ∨ (body i = some (.inl (w64 ((i : Int) + 1))) ∧ I (i + 1) ∧ F (x :: r) i = F r (i + 1)))
    (he : I l.length → body (l.length : Int) = some (.inr (F [] l.length))) (h0 : I 0) : iter body 0 = some (F l 0) := by
  have key : ∀ n i, i + n = l.length → I i → iter body (i : Int) = some (F (l.drop i) i) := by
    intro n
    induction n with
    | zero =>
      intro i hi hI
      obtain rfl : i = l.length := by omega
      rw [iter_inr (he hI), List.drop_length]
    | succ n ih =>
      intro i hi hI
      have hlt : i < l.length := by omega
      have hd : l.drop i = l[i] :: l.drop (i + 1) := List.drop_eq_getElem_cons hlt
      rcases hs i l[i] (l.drop (i + 1)) hI hlt (by simp [List.getD_eq_getElem?_getD, hlt]) hd with hb | ⟨hb, hI', hF⟩
      · rw [iter_inr hb, hd]
      · rw [iter_inl hb, w64_succ hlt hl, hd, hF]
        exact ih (i + 1) (by omega) hI'
  have := key l.length 0 (by omega) h0
  simpa using this

/-! ### Which are formed -/

def nmOk (s : List UInt8) : Bool := s == ([] : List UInt8) || nameOk s

theorem f78_eq (s : List UInt8) (h : s.length ≤ maxLen) : f78 s = some (nmOk s) := by
  unfold f78 nmOk
  rw [f77_eq s h]
  cases (s == ([] : List UInt8)) <;> rfl

def fieldOk (f : T35) : Bool := ((nameOk f.f0 && nmOk f.f1) && decide (f.f2 ≥ 0)) && decide (f.f2 ≤ 100)
def bindOk (b : T94) : Bool := nameOk b.f0 && nmOk b.f1
def formedB (t : T62) : Bool := (((nameOk t.f0 && nmOk t.f1) && nmOk t.f5) && t.f3.all fieldOk) && t.f4.all bindOk

theorem G62.parts {t : T62} (h : G62 t) : t.f0.length ≤ maxLen ∧ t.f1.length ≤ maxLen ∧ t.f5.length ≤ maxLen ∧ (t.f3.length ≤ maxLen ∧ ∀ f ∈ t.f3, f.f0.length ≤ maxLen ∧ f.f1.length ≤ maxLen) ∧ (t.f4.length ≤ maxLen ∧ ∀ b ∈ t.f4, b.f0.length ≤ maxLen ∧ b.f1.length ≤ maxLen) := by
  obtain ⟨h0, h1, _, ⟨h3, h3'⟩, ⟨h4, h4'⟩, h5, _⟩ := h
  exact ⟨h0, h1, h5, ⟨h3, fun f hf => ⟨(h3' f hf).1, (h3' f hf).2.1⟩⟩, ⟨h4, fun b hb => ⟨(h4' b hb).1, (h4' b hb).2.1⟩⟩⟩

theorem f66_eq (t : T62) (h : G62 t) : f66 t = some (formedB t) := by
  obtain ⟨h0, h1, h5, ⟨h3, h3'⟩, ⟨h4, h4'⟩⟩ := h.parts
  have e1 : iter (fun s => f66_b1 t s) 0 = some (if t.f3.all fieldOk then (Out.go () : Out Bool Unit) else Out.ret false) := by
    refine iter_list t.f3 h3 (fun s => f66_b1 t s) (fun r _ => if r.all fieldOk then (Out.go () : Out Bool Unit) else Out.ret false) ?_ ?_
    · intro i x r hi hx _
      have hm := getD_mem hi
      rw [hx] at hm
      have g1 : (0 : Int) ≤ i ∧ (i : Int) < (t.f3.length : Int) := ⟨by omega, by omega⟩
      simp only [f66_b1, Int.toNat_natCast, hx, g1, and_self, if_true, decide_true, cond_true, f77_eq _ (h3' x hm).1, f78_eq _ (h3' x hm).2, Option.bind_some, cond_or]
      have : (((!nameOk x.f0 || !nmOk x.f1) || decide (x.f2 < 0)) || decide (x.f2 > 100)) = !fieldOk x := by
        simp only [fieldOk, Bool.not_and]
        rw [show decide (x.f2 < 0) = !decide (x.f2 ≥ 0) by rw [← decide_not]; congr 1; simp, show decide (x.f2 > 100) = !decide (x.f2 ≤ 100) by rw [← decide_not]; congr 1; simp]
      rw [this]
      cases hb : fieldOk x with
      | true => right; simp [hb]
      | false => left; simp [hb]
    · simp [f66_b1]
  have e2 : iter (fun s => f66_b2 t s) 0 = some (if t.f4.all bindOk then (Out.go () : Out Bool Unit) else Out.ret false) := by
    refine iter_list t.f4 h4 (fun s => f66_b2 t s) (fun r _ => if r.all bindOk then (Out.go () : Out Bool Unit) else Out.ret false) ?_ ?_
    · intro i x r hi hx _
      have hm := getD_mem hi
      rw [hx] at hm
      have g1 : (0 : Int) ≤ i ∧ (i : Int) < (t.f4.length : Int) := ⟨by omega, by omega⟩
      simp only [f66_b2, Int.toNat_natCast, hx, g1, and_self, if_true, decide_true, cond_true, f77_eq _ (h4' x hm).1, f78_eq _ (h4' x hm).2, Option.bind_some, cond_or]
      have : (!nameOk x.f0 || !nmOk x.f1) = !bindOk x := by simp only [bindOk, Bool.not_and]
      rw [this]
      cases hb : bindOk x with
      | true => right; simp [hb]
      | false => left; simp [hb]
    · simp [f66_b2]
  unfold f66 formedB
  rw [e1, e2, f77_eq _ h0, f78_eq _ h1, f78_eq _ h5]
  cases nameOk t.f0 <;> cases nmOk t.f1 <;> cases nmOk t.f5 <;> cases t.f3.all fieldOk <;> cases t.f4.all bindOk <;> rfl

def outB (b : Bool) : Out Bool Unit := cond b (.ret true) (.go ())
def outN (b : Bool) : Out Bool Unit := cond b (.ret false) (.go ())
theorem outB_true {b : Bool} : outB (true || b) = .ret true := rfl
theorem outB_false {b : Bool} : outB (false || b) = outB b := rfl

/-! ### What is there twice -/

def anyDup : List (List UInt8) → List (List UInt8) → Bool
  | _, [] => false
  | pre, x :: r => pre.contains x || anyDup (pre ++ [x]) r

theorem anyDup_append : ∀ (a pre b : List (List UInt8)), anyDup pre (a ++ b) = (anyDup pre a || anyDup (pre ++ a) b)
  | [], pre, b => by simp [anyDup]
  | x :: a, pre, b => by
    simp only [List.cons_append, anyDup]
    rw [anyDup_append a]
    simp [Bool.or_assoc]

theorem anyDup_mem : ∀ (b pre pre' : List (List UInt8)), (∀ x, x ∈ pre ↔ x ∈ pre') → anyDup pre b = anyDup pre' b
  | [], _, _, _ => rfl
  | x :: b, pre, pre', h => by
    simp only [anyDup]
    rw [anyDup_mem b (pre ++ [x]) (pre' ++ [x]) (fun y => by simp [h y])]
    congr 1
    rw [Bool.eq_iff_iff, List.contains_iff_mem, List.contains_iff_mem, h x]

theorem f94_eq (l : List (List UInt8)) (h : l.length ≤ maxLen) (s : List UInt8) : f94 l s = some (idx (findFrom (fun x => s == x) l 0)) := by
  unfold f94
  rw [index_eq l h (fun x => some (s == x)) (fun x => s == x) (fun _ => rfl) (fun i => f94_b1 l s i) (fun i => rfl)]
  cases findFrom (fun x => s == x) l 0 <;> rfl

theorem f89_eq (l : List (List UInt8)) (h : l.length ≤ maxLen) (s : List UInt8) : f89 l s = some (l.contains s) := by
  unfold f89
  rw [f94_eq l h, Option.bind_some, findFrom_any]
  congr 1
  rw [Bool.eq_iff_iff]
  simp [List.any_eq_true, List.contains_iff_mem]

theorem take_succ {A : Type} {l : List A} {i : Nat} {x : A} {r : List A} (h : l.drop i = x :: r) : l.take (i + 1) = l.take i ++ [x] := by
  have hi : i < l.length := by
    rcases Nat.lt_or_ge i l.length with h1 | h1
    · exact h1
    · rw [List.drop_of_length_le h1] at h; cases h
  rw [List.drop_eq_getElem_cons hi] at h
  injection h with h1 _
  rw [List.take_succ_eq_append_getElem hi, h1]

theorem f79_eq (l : List (List UInt8)) (h : l.length ≤ maxLen) : f79 l = some (anyDup [] l) := by
  have := iter_list l h (fun i => f79_b1 l i) (fun r i => outB (anyDup (l.take i) r)) ?_ ?_
  · unfold f79
    rw [this]
    simp only [Option.bind_some, List.take_zero]
    cases anyDup [] l <;> rfl
  · intro i x r hi hx hd
    have g1 : (0 : Int) ≤ i ∧ (i : Int) < (l.length : Int) := ⟨by omega, by omega⟩
    have g2 : (0 : Int) ≤ i ∧ (i : Int) ≤ (l.length : Int) := ⟨by omega, by omega⟩
    have hlt : (l.take i).length ≤ maxLen := by simp only [List.length_take]; omega
    simp only [f79_b1, Int.toNat_natCast, hx, g1, g2, and_self, if_true, decide_true, cond_true, List.drop_zero, f89_eq _ hlt, Option.bind_some, anyDup, take_succ hd]
    cases (l.take i).contains x with
    | true => exact .inl rfl
    | false => exact .inr ⟨rfl, rfl⟩
  · simp [f79_b1, anyDup, outB]

/-- The names of types are there. -/
def Named (l : List T62) (n : Nat) : Prop := ∀ k, k < n → (l.getD k default).f0 ≠ []

def prt (l : List T62) (k : Nat) : Option Nat := fd (l.take k) (par l k)

theorem prt_nil {l : List T62} {k : Nat} (hN : Named l k) (h : par l k = []) : prt l k = none := by
  unfold prt
  rw [h]
  cases hf : fd (l.take k) [] with
  | none => rfl
  | some j =>
    have := fd_take.1 hf
    exact absurd (fd_some this.1).2.1 (hN j this.2)

theorem prt_lt {l : List T62} {k j : Nat} (h : prt l k = some j) : j < k ∧ j < l.length := ⟨(fd_take.1 h).2, (fd_some (fd_take.1 h).1).1⟩

def upP (l : List T62) (k : Nat) : List Nat := match prt l k with | some j => up l j | none => []

theorem up_eqP {l : List T62} {k : Nat} (hN : Named l k) : up l k = k :: upP l k := by
  rw [up_eq]
  unfold upP
  congr 1
  by_cases hp : par l k = []
  · rw [if_pos hp, prt_nil hN hp]
  · rw [if_neg hp]; rfl

/-- The fields of a type's ancestors. -/
def anc (l : List T62) (k : Nat) : List T35 := match prt l k with | some j => allF l j | none => []

theorem allF_eq {l : List T62} {k : Nat} (hN : Named l k) : allF l k = anc l k ++ (l.getD k default).f3 := by
  unfold allF anc
  rw [up_eqP hN]
  unfold upP
  cases prt l k with
  | none => simp
  | some j => simp [allF]

theorem anc_length (l : List T62) (hs : Small l) (k : Nat) (hk : k < l.length) : (anc l k).length ≤ 1600 := by
  unfold anc
  cases hp : prt l k with
  | none => simp
  | some j =>
    simp only [allF]
    have hj := prt_lt hp
    have h1 := up_length l j
    have hl := hs.len
    have key : ∀ us : List Nat, (us.flatMap fun k => (l.getD k default).f3).length ≤ 40 * us.length := by
      intro us
      induction us with
      | nil => simp
      | cons u us ih =>
        have := (hs.at u).1
        simp only [List.flatMap_cons, List.length_append, List.length_cons]
        omega
    have := key (up l j).reverse
    simp only [List.length_reverse] at this
    omega

def dbl (l : List T62) (k : Nat) : Bool :=
  (fd (l.take k) (l.getD k default).f0).isSome || (anyDup [] ((anc l k ++ (l.getD k default).f3).map T35.f0) || anyDup [] ((l.getD k default).f4.map T94.f0))

theorem idx_nonneg (o : Option Nat) : decide (idx o ≥ 0) = o.isSome := by cases o <;> simp [idx]
theorem idx_neg (o : Option Nat) : decide (idx o < 0) = o.isNone := by
  cases o with
  | none => rfl
  | some j => exact decide_eq_false (by simp only [idx]; omega)

theorem names1 (l : List T62) (hs : Small l) (k : Nat) (ns : List (List UInt8)) (hn : ns.length ≤ 2000) :
    iter (fun s => f67_b1 l (k : Int) s.1 s.2) (ns, (0 : Int)) = some (.go (ns ++ (l.getD k default).f3.map T35.f0)) := by
  have h40 := (hs.at k).1
  refine iter_listI (l.getD k default).f3 (by have := maxLen_big; omega) (fun s => f67_b1 l (k : Int) s.1 s.2) (fun r _ b => (Out.go (b ++ r.map T35.f0) : Out Bool (List (List UInt8)))) (fun i b => b.length ≤ 2000 + i) ?_ ?_ ns (by omega)
  · intro i x r b hI hi hx _
    right
    have g1 : (0 : Int) ≤ i ∧ (i : Int) < (((l.getD k default).f3).length : Int) := ⟨by omega, by omega⟩
    have hb : (b.length + [x.f0].length) * 16 ≤ 140737488355328 := by simp only [List.length_cons, List.length_nil]; omega
    refine ⟨b ++ [x.f0], ?_, by simp only [List.length_append, List.length_cons, List.length_nil]; omega, by simp⟩
    simp only [f67_b1, Int.toNat_natCast, hx, g1, and_self, if_true, decide_true, cond_true]
    rw [if_pos hb]
  · intro b _
    simp [f67_b1]

theorem names2 (l : List T62) (hs : Small l) (k : Nat) :
    iter (fun s => f67_b2 l (k : Int) s.1 s.2) ([], (0 : Int)) = some (.go ((l.getD k default).f4.map T94.f0)) := by
  have h40 := (hs.at k).2
  refine iter_listI (l.getD k default).f4 (by have := maxLen_big; omega) (fun s => f67_b2 l (k : Int) s.1 s.2) (fun r _ b => (Out.go (b ++ r.map T94.f0) : Out Bool (List (List UInt8)))) (fun i b => b.length ≤ 2000 + i) ?_ ?_ [] (by simp)
  · intro i x r b hI hi hx _
    right
    have g1 : (0 : Int) ≤ i ∧ (i : Int) < (((l.getD k default).f4).length : Int) := ⟨by omega, by omega⟩
    have hb : (b.length + [x.f0].length) * 16 ≤ 140737488355328 := by simp only [List.length_cons, List.length_nil]; omega
    refine ⟨b ++ [x.f0], ?_, by simp only [List.length_append, List.length_cons, List.length_nil]; omega, by simp⟩
    simp only [f67_b2, Int.toNat_natCast, hx, g1, and_self, if_true, decide_true, cond_true]
    rw [if_pos hb]
  · intro b _
    simp [f67_b2]

theorem names4 (fs : List T35) (h : fs.length ≤ 1700) :
    iter (fun s => f67_b4 fs s.1 s.2) ([], (0 : Int)) = some (.go (fs.map T35.f0)) := by
  refine iter_listI fs (by have := maxLen_big; omega) (fun s => f67_b4 fs s.1 s.2) (fun r _ b => (Out.go (b ++ r.map T35.f0) : Out Bool (List (List UInt8)))) (fun i b => b.length ≤ 2000 + i) ?_ ?_ [] (by simp)
  · intro i x r b hI hi hx _
    right
    have g1 : (0 : Int) ≤ i ∧ (i : Int) < (fs.length : Int) := ⟨by omega, by omega⟩
    have hb : (b.length + [x.f0].length) * 16 ≤ 140737488355328 := by simp only [List.length_cons, List.length_nil]; omega
    refine ⟨b ++ [x.f0], ?_, by simp only [List.length_append, List.length_cons, List.length_nil]; omega, by simp⟩
    simp only [f67_b4, Int.toNat_natCast, hx, g1, and_self, if_true, decide_true, cond_true]
    rw [if_pos hb]
  · intro b _
    simp [f67_b4]

theorem f67_j3_eq (l : List T62) (hs : Small l) (k : Nat) (hk : k < l.length) (ns : List (List UInt8)) (hn : ns.length ≤ 2000) :
    f67_j3 l (k : Int) ns = some ((fd (l.take k) (l.getD k default).f0).isSome || (anyDup [] (ns ++ (l.getD k default).f3.map T35.f0) || anyDup [] ((l.getD k default).f4.map T94.f0))) := by
  have hmx := maxLen_big
  have h40 := hs.at k
  have g2 : (0 : Int) ≤ k ∧ (k : Int) ≤ (l.length : Int) := ⟨by omega, by omega⟩
  unfold f67_j3
  rw [names1 l hs k ns hn]
  simp only [Option.bind_some]
  rw [names2 l hs k]
  simp only [Option.bind_some]
  rw [if_pos g2, List.drop_zero, Int.toNat_natCast, f45_eq _ (by have := (hs.take k).max; exact this), f79_eq _ (by simp only [List.length_append, List.length_map]; omega), f79_eq _ (by simp only [List.length_map]; omega)]
  simp only [Option.bind_some, idx_nonneg, cond_or]

theorem f67_eq (l : List T62) (hs : Small l) (k : Nat) (hk : k < l.length) (hA : Ahead l k) : f67 l (k : Int) = some (dbl l k) := by
  have g1 : (0 : Int) ≤ k ∧ (k : Int) < (l.length : Int) := ⟨by omega, by omega⟩
  have g2 : (0 : Int) ≤ k ∧ (k : Int) ≤ (l.length : Int) := ⟨by omega, by omega⟩
  unfold f67
  rw [if_pos g1, if_pos g2, List.drop_zero, Int.toNat_natCast, f45_eq _ (hs.take k).max]
  simp only [Option.bind_some]
  have hal := anc_length l hs k hk
  unfold dbl
  simp only [idx_nonneg]
  cases hp : fd (l.take k) (l.getD k default).f1 with
  | none =>
    have e : anc l k = [] := by unfold anc; rw [show prt l k = none from hp]
    rw [e, Option.isSome_none, cond_false, f67_j3_eq l hs k hk [] (by simp)]
    simp
  | some j =>
    have hj := prt_lt hp
    have e : anc l k = allF l j := by unfold anc; rw [show prt l k = some j from hp]
    rw [e] at hal ⊢
    rw [Option.isSome_some, cond_true, show idx (some j) = (j : Int) from rfl, f53_eq l hs hA j hj.1 hj.2, Option.bind_some, names4 _ (by omega)]
    simp only [Option.bind_some]
    rw [f67_j3_eq l hs k hk _ (by simp only [List.length_map]; omega), List.map_append]

/-! the reference's -/

def upNames (l : List T62) (us : List Nat) : List (List UInt8) := us.flatMap fun k => (l.getD k default).f3.map T35.f0

theorem ints_getD {us : List Nat} {i : Nat} (h : i < us.length) : (ints us).getD i default = ((us.getD i default : Nat) : Int) := by
  simp only [ints, List.getD_eq_getElem?_getD, List.getElem?_map, List.getElem?_eq_getElem h]
  rfl

theorem ints_length (us : List Nat) : (ints us).length = us.length := by simp [ints]

theorem upNames_mem (l : List T62) (us : List Nat) (x : List UInt8) : x ∈ upNames l us ↔ x ∈ ((us.reverse.flatMap fun k => (l.getD k default).f3).map T35.f0) := by
  simp only [upNames, List.mem_flatMap, List.mem_map, List.mem_reverse]
  constructor
  · rintro ⟨k, hk, f, hf, rfl⟩; exact ⟨f, ⟨k, hk, hf⟩, rfl⟩
  · rintro ⟨f, ⟨k, hk, hf⟩, rfl⟩; exact ⟨k, hk, f, hf, rfl⟩

/-! ### What is missing -/

def misF (l : List T62) (k : Nat) (f : T35) : Bool := !(f.f1 == ([] : List UInt8)) && (fd (l.take k) f.f1).isNone

def mis (l : List T62) (k : Nat) : Bool := (!(par l k == ([] : List UInt8)) && (prt l k).isNone) || (l.getD k default).f3.any (misF l k)

theorem f80_81_eq (l : List T62) (hs : Small l) (k : Nat) (hk : k < l.length) (fs : List T35) (hfs : fs.length ≤ maxLen) : f80_81 fs l (k : Int) = some (fs.any (misF l k)) := by
  have g2 : (0 : Int) ≤ k ∧ (k : Int) ≤ (l.length : Int) := ⟨by omega, by omega⟩
  have h81 : ∀ f, f81 f l (k : Int) = some (misF l k f) := fun f => by
    unfold f81 misF
    rw [if_pos g2, List.drop_zero, Int.toNat_natCast, f45_eq _ (hs.take k).max]
    simp only [Option.bind_some, idx_neg, cond_and]
  unfold f80_81 f90_81
  rw [index_eq fs hfs (fun f => f81 f l (k : Int)) (misF l k) h81 (fun i => f90_81_b1 fs l (k : Int) i) (fun i => rfl)]
  simp only [Option.bind_some]
  rw [← findFrom_any (misF l k) fs 0]
  cases findFrom (misF l k) fs 0 <;> rfl

theorem f68_eq (l : List T62) (hs : Small l) (k : Nat) (hk : k < l.length) : f68 l (k : Int) = some (mis l k) := by
  have g1 : (0 : Int) ≤ k ∧ (k : Int) < (l.length : Int) := ⟨by omega, by omega⟩
  have g2 : (0 : Int) ≤ k ∧ (k : Int) ≤ (l.length : Int) := ⟨by omega, by omega⟩
  have h40 := (hs.at k).1
  unfold f68 mis prt
  rw [if_pos g1, if_pos g2, List.drop_zero, Int.toNat_natCast, f45_eq _ (hs.take k).max, f80_81_eq l hs k hk _ (by have := maxLen_big; omega)]
  simp only [Option.bind_some, idx_neg]
  cases (par l k == ([] : List UInt8)) <;> cases (fd (l.take k) (par l k)).isNone <;> cases (l.getD k default).f3.any (misF l k) <;> rfl

end Go.Sx.der

namespace Go.Sx.der
open Go Go.Sx

theorem iter_listG {A B S X : Type} [Inhabited A] (l : List A) (hl : l.length ≤ maxLen) (body : S → Option (S ⊕ X)) (st : B → Int → S) (F : List A → Nat → B → X) (I : Nat → B → Prop)
    (hs : ∀ (i : Nat) (x : A) (r : List A) (b : B), I i b → i < l.length → l.getD i default = x → l.drop i = x :: r → (body (st b (i : Int)) = some (.inr (F (x :: r) i b))) ∨ ∃ b', body (st b (i : Int)) = some (.inl (st b' (w64 ((i : Int) + 1)))) ∧ I (i + 1) b' ∧ F (x :: r) i b = F r (i + 1) b')
    (he : ∀ b, I l.length b → body (st b (l.length : Int)) = some (.inr (F [] l.length b))) (b0 : B) (h0 : I 0 b0) : iter body (st b0 0) = some (F l 0 b0) := by
  have key : ∀ n i b, i + n = l.length → I i b → iter body (st b (i : Int)) = some (F (l.drop i) i b) := by
    intro n
    induction n with
    | zero =>
      intro i b hi hI
      obtain rfl : i = l.length := by omega
      rw [iter_inr (he b hI), List.drop_length]
    | succ n ih =>
      intro i b hi hI
      have hlt : i < l.length := by omega
      have hd : l.drop i = l[i] :: l.drop (i + 1) := List.drop_eq_getElem_cons hlt
      rcases hs i l[i] (l.drop (i + 1)) b hI hlt (by simp [List.getD_eq_getElem?_getD, hlt]) hd with hb | ⟨b', hb, hI', hF⟩
      · rw [iter_inr hb, hd]
      · rw [iter_inl hb, w64_succ hlt hl, hd, hF]
        exact ih (i + 1) b' (by omega) hI'
  have := key l.length 0 b0 (by omega) h0
  simpa using this

theorem index_eqM {A : Type} [Inhabited A] (l : List A) (h : l.length ≤ maxLen) (f : A → Option Bool) (p : A → Bool) (hp : ∀ x ∈ l, f x = some (p x)) (b : Int → Option (Int ⊕ Out Int Unit))
    (hb : ∀ i, b i = cond (decide (i < (l.length : Int))) (if (0 : Int) ≤ i ∧ i < (l.length : Int) then (f (l.getD i.toNat default)).bind fun v3 => cond v3 (some (.inr (.ret i))) (some (.inl (w64 (i + (1 : Int))))) else none) (some (.inr (.go ())))) :
    iter b 0 = some (outOf (findFrom p l 0)) := by
  refine iter_list l h b (fun r i => outOf (findFrom p r i)) ?_ ?_
  · intro i x r hi hx _
    have hm := getD_mem hi
    rw [hx] at hm
    have h1 : (0 : Int) ≤ i ∧ (i : Int) < (l.length : Int) := ⟨by omega, by omega⟩
    simp only [hb, Int.toNat_natCast, hx, h1, and_self, if_true, decide_true, cond_true, hp x hm, Option.bind_some]
    cases hpx : p x with
    | true => left; simp [findFrom, hpx, outOf]
    | false => right; simp [findFrom, hpx]
  · simp [hb, findFrom, outOf]

/-! ### Bindings -/

def bs (l : List T62) (us : List Nat) : List T94 := us.flatMap fun k => (l.getD k default).f4
def fst (b : List T94) (s : List UInt8) : Option (List UInt8) := (b.find? fun b => b.f0 == s).map T94.f1
def bnd (l : List T62) (us : List Nat) (s : List UInt8) : Option (List UInt8) := fst (bs l us) s
def pairB : Option (List UInt8) → List UInt8 × Bool
  | some n => (n, true)
  | none => ([], false)
def outP : Option (List UInt8) → Out (List UInt8 × Bool) Unit
  | some n => .ret (n, true)
  | none => .go ()

theorem fst_cons (b : T94) (r : List T94) (s : List UInt8) : fst (b :: r) s = if b.f0 == s then some b.f1 else fst r s := by
  unfold fst
  rw [List.find?_cons]
  cases b.f0 == s <;> rfl

theorem fst_append (a b : List T94) (s : List UInt8) : fst (a ++ b) s = match fst a s with | some n => some n | none => fst b s := by
  unfold fst
  rw [List.find?_append]
  cases a.find? fun b => b.f0 == s <;> rfl

theorem f62_b1_eq (l : List T62) (hs : Small l) (us : List Nat) (m : Nat) (hm : m < us.length) (s : List UInt8) :
    iter (fun i => f62_b1 l s (ints us) (m : Int) i) 0 = some (outP (fst (((l.getD (us.getD m default) default).f4)) s)) := by
  have h40 := (hs.at (us.getD m default)).2
  have hg := ints_getD hm
  refine iter_list (((l.getD (us.getD m default) default).f4)) (by have := maxLen_big; omega) (fun i => f62_b1 l s (ints us) (m : Int) i) (fun r _ => outP (fst r s)) ?_ ?_
  · intro i x r hi hx _
    have g1 : (0 : Int) ≤ i ∧ (i : Int) < (((l.getD (us.getD m default) default).f4).length : Int) := ⟨by omega, by omega⟩
    simp only [f62_b1, Int.toNat_natCast, hg, hx, g1, and_self, if_true, decide_true, cond_true, fst_cons]
    cases hb : x.f0 == s with
    | true => left; simp [outP]
    | false => right; simp
  · simp only [f62_b1, Int.toNat_natCast, hg]
    simp [fst, outP]

theorem bnd_cons (l : List T62) (u : Nat) (us : List Nat) (s : List UInt8) : bnd l (u :: us) s = match fst (((l.getD u default).f4)) s with | some n => some n | none => bnd l us s := by
  unfold bnd bs
  rw [List.flatMap_cons, fst_append]

theorem f62_eq (l : List T62) (hs : Small l) {n : Nat} (hA : Ahead l n) (i : Nat) (hn : i < n) (hi : i < l.length) (s : List UInt8) : f62 l (i : Int) s = some (pairB (bnd l (up l i) s)) := by
  have hl := hs.len
  have hul := up_length l i
  have key : iter (fun j => f62_b2 l s (ints (up l i)) j) 0 = some (outP (bnd l (up l i) s)) := by
    refine iter_list (up l i) (by have := maxLen_big; omega) (fun j => f62_b2 l s (ints (up l i)) j) (fun r _ => outP (bnd l r s)) ?_ ?_
    · intro m x r hm hx _
      have hb := f62_b1_eq l hs (up l i) m hm s
      rw [hx] at hb
      have hxm := getD_mem hm
      rw [hx] at hxm
      have hle := up_le l i x hxm
      have hg := ints_getD hm
      rw [hx] at hg
      simp only [f62_b2, Int.toNat_natCast, hg]
      rw [show decide ((m : Int) < ((ints (up l i)).length : Int)) = true from by rw [ints_length]; simpa using hm, cond_true, if_pos ⟨by omega, by rw [ints_length]; omega⟩, if_pos ⟨by omega, by omega⟩, hb, bnd_cons]
      cases fst (((l.getD x default).f4)) s with
      | some n => exact .inl rfl
      | none => exact .inr ⟨rfl, rfl⟩
    · simp only [f62_b2, ints_length]
      simp [bnd, bs, fst, outP]
  unfold f62
  rw [f56_eq l hs hA i hn hi, Option.bind_some, key]
  cases bnd l (up l i) s <;> rfl

/-! ### What is unsuited -/

def absF (l : List T62) (k : Nat) (f : T35) : Bool := !(f.f1 == ([] : List UInt8)) && (match fd (l.take k) f.f1 with | some j => (l.getD j default).f2 | none => false)

def ownBad (l : List T62) (k : Nat) (b : T94) : Bool := (b.f1 == ([] : List UInt8)) && ((pairB (bnd l (upP l k) b.f0)).2 && !((pairB (bnd l (upP l k) b.f0)).1 == ([] : List UInt8)))

def lineBad (l : List T62) (k : Nat) (b : T94) : Bool := (pairB (bnd l (up l k) b.f0)).1 == ([] : List UInt8)

def uns (l : List T62) (k : Nat) : Bool := (l.getD k default).f3.any (absF l k) || ((((l.getD k default).f4)).any (ownBad l k) || (!(l.getD k default).f2 && (bs l (up l k)).any (lineBad l k)))

/-- Nothing is missing: what is found. -/
theorem mis_parts {l : List T62} {k : Nat} (h : mis l k = false) : (par l k ≠ [] → ∃ j, prt l k = some j) ∧ ∀ f ∈ (l.getD k default).f3, f.f1 ≠ [] → ∃ j, fd (l.take k) f.f1 = some j := by
  simp only [mis, Bool.or_eq_false_iff, List.any_eq_false] at h
  refine ⟨fun hp => ?_, fun f hf hn => ?_⟩
  · have h1 := h.1
    rw [show (par l k == ([] : List UInt8)) = false from beq_eq_false_iff_ne.2 hp] at h1
    cases hc : prt l k with
    | some j => exact ⟨j, rfl⟩
    | none => rw [hc] at h1; cases h1
  · have h1 := h.2 f hf
    simp only [misF, show (f.f1 == ([] : List UInt8)) = false from beq_eq_false_iff_ne.2 hn] at h1
    cases hc : fd (l.take k) f.f1 with
    | some j => exact ⟨j, rfl⟩
    | none => rw [hc] at h1; exact absurd rfl h1

theorem f80_82_eq (l : List T62) (hs : Small l) (k : Nat) (hm : mis l k = false) : f80_82 (l.getD k default).f3 l = some ((l.getD k default).f3.any (absF l k)) := by
  have h40 := (hs.at k).1
  have h82 : ∀ f ∈ (l.getD k default).f3, f82 f l = some (absF l k f) := fun f hf => by
    unfold f82 absF
    by_cases hn : f.f1 = []
    · rw [show (f.f1 == ([] : List UInt8)) = true from beq_iff_eq.2 hn]; rfl
    · obtain ⟨j, hj⟩ := (mis_parts hm).2 f hf hn
      have hj2 := fd_take.1 hj
      have hlt := (fd_some hj2.1).1
      rw [show (f.f1 == ([] : List UInt8)) = false from beq_eq_false_iff_ne.2 hn, f45_eq l hs.max, hj2.1, hj]
      simp only [Bool.not_false, cond_true, Option.bind_some, idx, Int.toNat_natCast, Bool.true_and]
      rw [if_pos ⟨by omega, by omega⟩]
      rfl
  unfold f80_82 f90_82
  rw [index_eqM _ (by have := maxLen_big; omega) (fun f => f82 f l) (absF l k) h82 (fun i => f90_82_b1 (l.getD k default).f3 l i) (fun i => rfl)]
  simp only [Option.bind_some]
  rw [← findFrom_any (absF l k) (l.getD k default).f3 0]
  cases findFrom (absF l k) (l.getD k default).f3 0 <;> rfl

theorem Ahead.succ {l : List T62} {k : Nat} (hA : Ahead l k) (hm : mis l k = false) : Ahead l (k + 1) := fun j hj hp => by
  by_cases he : j = k
  · subst he; exact (mis_parts hm).1 hp
  · exact hA j (by omega) hp

theorem f69_own (l : List T62) (hs : Small l) (k : Nat) (hA : Ahead l k) (hN : Named l k) (hm : mis l k = false) :
    iter (fun i => f69_b2 l (k : Int) i) 0 = some (outB ((((l.getD k default).f4)).any (ownBad l k))) := by
  have h40 := (hs.at k).2
  refine iter_list (((l.getD k default).f4)) (by have := maxLen_big; omega) (fun i => f69_b2 l (k : Int) i) (fun r _ => outB (r.any (ownBad l k))) ?_ ?_
  · intro i x r hi hx _
    have g1 : (0 : Int) ≤ i ∧ (i : Int) < (((l.getD k default).f4).length : Int) := ⟨by omega, by omega⟩
    simp only [f69_b2, f69_j1, Int.toNat_natCast, hx, g1, and_self, if_true, decide_true, cond_true, List.any_cons, ownBad]
    by_cases hb : x.f1 = []
    · rw [show (x.f1 == ([] : List UInt8)) = true from beq_iff_eq.2 hb]
      by_cases hp : par l k = []
      · rw [show ((l.getD k default).f1 == ([] : List UInt8)) = true from beq_iff_eq.2 hp]
        have : upP l k = [] := by unfold upP; rw [prt_nil hN hp]
        rw [this]
        exact .inr ⟨rfl, rfl⟩
      · rw [show ((l.getD k default).f1 == ([] : List UInt8)) = false from beq_eq_false_iff_ne.2 hp]
        obtain ⟨j, hj⟩ := (mis_parts hm).1 hp
        have hj2 := prt_lt hj
        have hu : upP l k = up l j := by unfold upP; rw [hj]
        rw [f45_eq l hs.max, show fd l (l.getD k default).f1 = some j from (fd_take.1 hj).1, hu]
        simp only [Bool.not_true, cond_false, Option.bind_some, idx, f62_eq l hs hA j hj2.1 hj2.2, cond_and, Bool.true_and]
        cases ((pairB (bnd l (up l j) x.f0)).2 && !((pairB (bnd l (up l j) x.f0)).1 == ([] : List UInt8))) with
        | true => exact .inl rfl
        | false => exact .inr ⟨rfl, rfl⟩
    · rw [show (x.f1 == ([] : List UInt8)) = false from beq_eq_false_iff_ne.2 hb]
      exact .inr ⟨rfl, rfl⟩
  · simp [f69_b2, outB]

theorem f69_line1 (l : List T62) (hs : Small l) (k : Nat) (hk : k < l.length) (hA : Ahead l (k + 1)) (us : List Nat) (m : Nat) (hm : m < us.length) :
    iter (fun i => f69_b3 l (k : Int) (ints us) (m : Int) i) 0 = some (outB ((((l.getD (us.getD m default) default).f4)).any (lineBad l k))) := by
  have h40 := (hs.at (us.getD m default)).2
  have hg := ints_getD hm
  refine iter_list (((l.getD (us.getD m default) default).f4)) (by have := maxLen_big; omega) (fun i => f69_b3 l (k : Int) (ints us) (m : Int) i) (fun r _ => outB (r.any (lineBad l k))) ?_ ?_
  · intro i x r hi hx _
    have g1 : (0 : Int) ≤ i ∧ (i : Int) < (((l.getD (us.getD m default) default).f4).length : Int) := ⟨by omega, by omega⟩
    simp only [f69_b3, Int.toNat_natCast, hg, hx, g1, and_self, if_true, decide_true, cond_true, f62_eq l hs hA k (Nat.lt_succ_self k) hk, Option.bind_some, List.any_cons]
    rw [show ((pairB (bnd l (up l k) x.f0)).1 == ([] : List UInt8)) = lineBad l k x from rfl]
    cases lineBad l k x with
    | true => exact .inl rfl
    | false => exact .inr ⟨rfl, rfl⟩
  · simp only [f69_b3, Int.toNat_natCast, hg]
    simp [outB]

theorem f69_line (l : List T62) (hs : Small l) (k : Nat) (hk : k < l.length) (hA : Ahead l (k + 1)) :
    iter (fun i => f69_b4 l (k : Int) (ints (up l k)) i) 0 = some (outB ((bs l (up l k)).any (lineBad l k))) := by
  have hl := hs.len
  have hul := up_length l k
  refine iter_list (up l k) (by have := maxLen_big; omega) (fun i => f69_b4 l (k : Int) (ints (up l k)) i) (fun r _ => outB ((bs l r).any (lineBad l k))) ?_ ?_
  · intro m x r hm hx _
    have hb := f69_line1 l hs k hk hA (up l k) m hm
    rw [hx] at hb
    have hxm := getD_mem hm
    rw [hx] at hxm
    have hle := up_le l k x hxm
    have hg := ints_getD hm
    rw [hx] at hg
    simp only [f69_b4, Int.toNat_natCast, hg]
    rw [show decide ((m : Int) < ((ints (up l k)).length : Int)) = true from by rw [ints_length]; simpa using hm, cond_true, if_pos ⟨by omega, by rw [ints_length]; omega⟩, if_pos ⟨by omega, by omega⟩, hb]
    simp only [bs, List.flatMap_cons, List.any_append]
    cases (((l.getD x default).f4)).any (lineBad l k) with
    | true => exact .inl rfl
    | false => exact .inr ⟨rfl, rfl⟩
  · simp only [f69_b4, ints_length]
    simp [bs, outB]

theorem f69_eq (l : List T62) (hs : Small l) (k : Nat) (hk : k < l.length) (hA : Ahead l k) (hN : Named l k) (hm : mis l k = false) : f69 l (k : Int) = some (uns l k) := by
  have g1 : (0 : Int) ≤ k ∧ (k : Int) < (l.length : Int) := ⟨by omega, by omega⟩
  have hA1 := hA.succ hm
  unfold f69 uns
  rw [if_pos g1, Int.toNat_natCast, f80_82_eq l hs k hm, f69_own l hs k hA hN hm, f56_eq l hs hA1 k (Nat.lt_succ_self k) hk]
  simp only [Option.bind_some]
  rw [f69_line l hs k hk hA1]
  cases (l.getD k default).f3.any (absF l k) <;> cases (((l.getD k default).f4)).any (ownBad l k) <;> cases (l.getD k default).f2 <;> cases (bs l (up l k)).any (lineBad l k) <;> rfl

/-! the reference's -/

def refBad (l : List T62) (k : Nat) (b : T94) : Bool := (b.f1 == ([] : List UInt8)) && (!(l.getD k default).f2 || ((pairB (bnd l (upP l k) b.f0)).2 && !((pairB (bnd l (upP l k) b.f0)).1 == ([] : List UInt8))))

theorem upP_le (l : List T62) (k : Nat) : ∀ j ∈ upP l k, j < k := fun j hj => by
  unfold upP at hj
  cases hp : prt l k with
  | none => rw [hp] at hj; cases hj
  | some m =>
    rw [hp] at hj
    have := up_le l m j hj
    have := (prt_lt hp).1
    omega

theorem anyDup_in : ∀ (xs pre : List (List UInt8)) (x : List UInt8), x ∈ pre → x ∈ xs → anyDup pre xs = true
  | y :: r, pre, x, hp, hx => by
    simp only [anyDup, Bool.or_eq_true, List.contains_iff_mem]
    rcases List.mem_cons.1 hx with rfl | hx
    · exact .inl hp
    · exact .inr (anyDup_in r (pre ++ [y]) x (List.mem_append_left _ hp) hx)

theorem fst_own : ∀ (bl : List T94) (pre : List (List UInt8)), anyDup pre (bl.map T94.f0) = false → ∀ b ∈ bl, fst bl b.f0 = some b.f1
  | y :: r, pre, h, b, hb => by
    simp only [List.map_cons, anyDup, Bool.or_eq_false_iff] at h
    rw [fst_cons]
    rcases List.mem_cons.1 hb with rfl | hb
    · rw [if_pos (by simp)]
    · by_cases he : y.f0 = b.f0
      · exfalso
        have := anyDup_in (r.map T94.f0) (pre ++ [y.f0]) b.f0 (by simp [he]) (List.mem_map.2 ⟨b, hb, rfl⟩)
        rw [h.2] at this; cases this
      · rw [if_neg (by simpa using he)]
        exact fst_own r _ h.2 b hb

end Go.Sx.der

namespace Go.Sx.der
open Go Go.Sx

def tm (f : T35) : Nat := (if (1 : Int) > f.f2 then (1 : Int) else f.f2).toNat

theorem tm_int (f : T35) : (if (1 : Int) > f.f2 then (1 : Int) else f.f2) = ((tm f : Nat) : Int) := by
  unfold tm
  split <;> omega

theorem tm_le {f : T35} (h : f.f2 ≤ 100) : tm f ≤ 100 := by
  unfold tm
  split <;> omega

theorem tm_pos (f : T35) : 1 ≤ tm f := by
  unfold tm
  split <;> omega

theorem f46_eq (f : T35) : f46 f = some ((tm f : Nat) : Int) := by unfold f46; rw [tm_int]

/-- Where a field's type stands among the first k. -/
def typ (l : List T62) (k : Nat) (f : T35) : Nat := (fd (l.take k) f.f1).getD 0

def wd (prev : List Nat) (l : List T62) (k : Nat) (f : T35) : Nat := tm f * (if f.f1 == ([] : List UInt8) then 1 else prev.getD (typ l k f) 0)
def pw (prev : List Nat) (l : List T62) (k : Nat) (f : T35) : Nat := tm f * (1 + (if f.f1 == ([] : List UInt8) then 0 else prev.getD (typ l k f) 0))

def base (prev : List Nat) (l : List T62) (k : Nat) : Nat := match prt l k with | some p => prev.getD p 0 | none => 0
def baseP (prev : List Nat) (l : List T62) (k : Nat) : Nat := match prt l k with | some p => 1 + prev.getD p 0 | none => 0

def un (prev : List Nat) (l : List T62) (k : Nat) : Nat := base prev l k + ((l.getD k default).f3.map (wd prev l k)).sum
def pn (prev : List Nat) (l : List T62) (k : Nat) : Nat := baseP prev l k + ((l.getD k default).f3.map (pw prev l k)).sum

def us (l : List T62) : Nat → List Nat
  | 0 => []
  | k + 1 => us l k ++ [un (us l k) l k]
def ps (l : List T62) : Nat → List Nat
  | 0 => []
  | k + 1 => ps l k ++ [pn (ps l k) l k]

theorem us_length (l : List T62) : ∀ k, (us l k).length = k
  | 0 => rfl
  | k + 1 => by simp [us, us_length l k]
theorem ps_length (l : List T62) : ∀ k, (ps l k).length = k
  | 0 => rfl
  | k + 1 => by simp [ps, ps_length l k]

theorem us_at (l : List T62) : ∀ (n k : Nat), k < n → (us l n).getD k 0 = un (us l k) l k
  | n + 1, k, h => by
    simp only [us, List.getD_eq_getElem?_getD]
    by_cases he : k = n
    · subst he
      rw [List.getElem?_append_right (by rw [us_length]; exact Nat.le_refl _), us_length]
      simp
    · rw [List.getElem?_append_left (by rw [us_length]; omega), ← List.getD_eq_getElem?_getD, us_at l n k (by omega)]
theorem ps_at (l : List T62) : ∀ (n k : Nat), k < n → (ps l n).getD k 0 = pn (ps l k) l k
  | n + 1, k, h => by
    simp only [ps, List.getD_eq_getElem?_getD]
    by_cases he : k = n
    · subst he
      rw [List.getElem?_append_right (by rw [ps_length]; exact Nat.le_refl _), ps_length]
      simp
    · rw [List.getElem?_append_left (by rw [ps_length]; omega), ← List.getD_eq_getElem?_getD, ps_at l n k (by omega)]

/-- All of these are within the bound. -/
def Low (prev : List Nat) : Prop := ∀ j, prev.getD j 0 ≤ 100000

theorem low_us {l : List T62} {n : Nat} (h : ∀ k, k < n → un (us l k) l k ≤ 100000) : Low (us l n) := fun j => by
  by_cases hj : j < n
  · rw [us_at l n j hj]; exact h j hj
  · rw [List.getD_eq_getElem?_getD, List.getElem?_eq_none (by rw [us_length]; omega)]; exact Nat.zero_le _
theorem low_ps {l : List T62} {n : Nat} (h : ∀ k, k < n → pn (ps l k) l k ≤ 100000) : Low (ps l n) := fun j => by
  by_cases hj : j < n
  · rw [ps_at l n j hj]; exact h j hj
  · rw [List.getD_eq_getElem?_getD, List.getElem?_eq_none (by rw [ps_length]; omega)]; exact Nat.zero_le _

theorem wd_le {prev : List Nat} (hp : Low prev) {l : List T62} {k : Nat} {f : T35} (h : f.f2 ≤ 100) : wd prev l k f ≤ 10000000 := by
  have h1 := tm_le h
  have h2 : (if f.f1 == ([] : List UInt8) then 1 else prev.getD (typ l k f) 0) ≤ 100000 := by
    split
    · omega
    · exact hp _
  calc wd prev l k f ≤ 100 * 100000 := Nat.mul_le_mul h1 h2
    _ = 10000000 := rfl
theorem pw_le {prev : List Nat} (hp : Low prev) {l : List T62} {k : Nat} {f : T35} (h : f.f2 ≤ 100) : pw prev l k f ≤ 10000100 := by
  have h1 := tm_le h
  have h2 : 1 + (if f.f1 == ([] : List UInt8) then 0 else prev.getD (typ l k f) 0) ≤ 100001 := by
    split
    · omega
    · have := hp (typ l k f); omega
  calc pw prev l k f ≤ 100 * 100001 := Nat.mul_le_mul h1 h2
    _ = 10000100 := rfl

theorem intsD {v : List Nat} {j : Nat} (h : j < v.length) : (ints v).getD j default = ((v.getD j 0 : Nat) : Int) := ints_getD h

/-- What the fields' numbers and types want. -/
def Fit (l : List T62) (k : Nat) : Prop := (∀ f ∈ (l.getD k default).f3, f.f2 ≤ 100) ∧ mis l k = false

theorem typ_of {l : List T62} {k : Nat} (h : mis l k = false) {f : T35} (hf : f ∈ (l.getD k default).f3) (hn : f.f1 ≠ []) : fd (l.take k) f.f1 = some (typ l k f) ∧ typ l k f < k := by
  obtain ⟨j, hj⟩ := (mis_parts h).2 f hf hn
  have : typ l k f = j := by simp [typ, hj]
  rw [this]
  exact ⟨hj, (fd_take.1 hj).2⟩

theorem f70_b2_eq (l : List T62) (hs : Small l) (k : Nat) (hk : k < l.length) (pu pp : List Nat) (hpu : pu.length = k) (hpp : pp.length = k) (hlu : Low pu) (hlp : Low pp) (hf : Fit l k) (a b : Nat) (ha : a ≤ 100001) (hb : b ≤ 100001) :
    iter (fun s => f70_b2 l (ints pu) (ints pp) (k : Int) s.1 s.2.1 s.2.2) ((a : Int), (b : Int), (0 : Int)) = some (.go (((a + ((l.getD k default).f3.map (wd pu l k)).sum : Nat) : Int), ((b + ((l.getD k default).f3.map (pw pp l k)).sum : Nat) : Int))) := by
  have h40 := (hs.at k).1
  refine iter_listG (l.getD k default).f3 (by have := maxLen_big; omega) (fun s => f70_b2 l (ints pu) (ints pp) (k : Int) s.1 s.2.1 s.2.2) (fun (b : Nat × Nat) i => ((b.1 : Int), (b.2 : Int), i))
    (fun r _ b => (Out.go (((b.1 + (r.map (wd pu l k)).sum : Nat) : Int), ((b.2 + (r.map (pw pp l k)).sum : Nat) : Int)) : Out ((List Int) × (List Int)) (Int × Int))) (fun i b => b.1 ≤ 100001 + i * 10000100 ∧ b.2 ≤ 100001 + i * 10000100) ?_ ?_ (a, b) (by simp; omega)
  · rintro i x r ⟨n, m⟩ ⟨hn, hm⟩ hi hx _
    simp only at hn hm
    right
    have g1 : (0 : Int) ≤ i ∧ (i : Int) < (((l.getD k default).f3).length : Int) := ⟨by omega, by omega⟩
    have hxm := getD_mem hi
    rw [hx] at hxm
    have h2 := hf.1 x hxm
    have hw := wd_le hlu (l := l) (k := k) h2
    have hp := pw_le hlp (l := l) (k := k) h2
    refine ⟨(n + wd pu l k x, m + pw pp l k x), ?_, by simp only; omega, by simp only [List.map_cons, List.sum_cons, Nat.add_assoc]⟩
    simp only [f70_b2, f70_j1, Int.toNat_natCast, hx, g1, and_self, if_true, decide_true, cond_true, f46_eq, Option.bind_some]
    by_cases he : x.f1 = []
    · have e1 : wd pu l k x = tm x := by simp [wd, he]
      have e2 : pw pp l k x = tm x := by simp [pw, he]
      rw [e1] at hw ⊢
      rw [e2]
      rw [show (x.f1 == ([] : List UInt8)) = true from beq_iff_eq.2 he, cond_true, w64_id (n := (n : Int) + (tm x : Int)) (by omega) (by omega), w64_id (n := (m : Int) + (tm x : Int)) (by omega) (by omega)]
      simp
    · obtain ⟨ht, htk⟩ := typ_of hf.2 hxm he
      have e1 : wd pu l k x = tm x * pu.getD (typ l k x) 0 := by simp [wd, he]
      have e2 : pw pp l k x = tm x * (1 + pp.getD (typ l k x) 0) := by simp [pw, he]
      have q1 := hlu (typ l k x)
      have q2 := hlp (typ l k x)
      rw [show (x.f1 == ([] : List UInt8)) = false from beq_eq_false_iff_ne.2 he, cond_false, List.drop_zero, if_pos ⟨by omega, by omega⟩, f45_eq _ (hs.take k).max, ht]
      simp only [Option.bind_some, idx, Int.toNat_natCast]
      rw [if_pos ⟨by omega, by rw [ints_length]; omega, by omega, by rw [ints_length]; omega⟩, intsD (by omega), intsD (by omega)]
      have c1 : ((tm x : Nat) : Int) * ((pu.getD (typ l k x) 0 : Nat) : Int) = ((wd pu l k x : Nat) : Int) := by rw [e1]; simp
      have c2 : ((tm x : Nat) : Int) * (1 + ((pp.getD (typ l k x) 0 : Nat) : Int)) = ((pw pp l k x : Nat) : Int) := by rw [e2]; simp
      rw [w64_id (n := (1 : Int) + ((pp.getD (typ l k x) 0 : Nat) : Int)) (by omega) (by omega), c1, c2, w64_id (n := ((wd pu l k x : Nat) : Int)) (by omega) (by omega), w64_id (n := ((pw pp l k x : Nat) : Int)) (by omega) (by omega),
        w64_id (n := (n : Int) + ((wd pu l k x : Nat) : Int)) (by omega) (by omega), w64_id (n := (m : Int) + ((pw pp l k x : Nat) : Int)) (by omega) (by omega)]
      simp
  · rintro ⟨n, m⟩ _
    simp [f70_b2]

theorem ints_snoc (v : List Nat) (n : Nat) : ints v ++ [(n : Int)] = ints (v ++ [n]) := by simp [ints]

theorem prt_of {l : List T62} {k : Nat} (hm : mis l k = false) (hp : par l k ≠ []) : ∃ j, prt l k = some j := (mis_parts hm).1 hp

theorem f70_eq (l : List T62) (hs : Small l) (hN : Named l l.length) (hf : ∀ k, k < l.length → Fit l k) (hu : ∀ k, k + 1 < l.length → un (us l k) l k ≤ 100000 ∧ pn (ps l k) l k ≤ 100000) :
    f70 l = some (ints (us l l.length), ints (ps l l.length)) := by
  have hlen := hs.len
  have key := iter_listG l hs.max (fun s => f70_b4 l s.1 s.2.1 s.2.2) (fun (b : List Int × List Int) i => (b.1, b.2, i)) (fun _ _ _ => (Out.go (ints (us l l.length), ints (ps l l.length)) : Out ((List Int) × (List Int)) ((List Int) × (List Int)))) (fun i b => b = (ints (us l i), ints (ps l i))) ?_ ?_ ([], []) rfl
  · unfold f70
    rw [key]; rfl
  · rintro k x r b rfl hk hx _
    right
    have g1 : (0 : Int) ≤ k ∧ (k : Int) < (l.length : Int) := ⟨by omega, by omega⟩
    have hlu : Low (us l k) := low_us fun j hj => (hu j (by omega)).1
    have hlp : Low (ps l k) := low_ps fun j hj => (hu j (by omega)).2
    have hfk := hf k hk
    have hj3 : ∀ a b : Nat, a ≤ 100001 → b ≤ 100001 → f70_j3 l (ints (us l k)) (ints (ps l k)) (k : Int) (a : Int) (b : Int) = some (.inl (ints (us l k) ++ [((a + ((l.getD k default).f3.map (wd (us l k) l k)).sum : Nat) : Int)], ints (ps l k) ++ [((b + ((l.getD k default).f3.map (pw (ps l k) l k)).sum : Nat) : Int)], w64 ((k : Int) + 1))) := fun a b ha hb => by
      unfold f70_j3
      rw [f70_b2_eq l hs k hk (us l k) (ps l k) (us_length l k) (ps_length l k) hlu hlp hfk a b ha hb]
      simp only [Option.bind_some]
      rw [if_pos (by simp only [ints_length, us_length, List.length_cons, List.length_nil]; omega), if_pos (by simp only [ints_length, ps_length, List.length_cons, List.length_nil]; omega)]
    refine ⟨(ints (us l (k + 1)), ints (ps l (k + 1))), ?_, rfl, rfl⟩
    simp only [f70_b4, Int.toNat_natCast, g1, and_self, if_true, decide_true, cond_true]
    by_cases hp : par l k = []
    · have hpn := prt_nil (fun j hj => hN j (by omega)) hp
      rw [show ((l.getD k default).f1 == ([] : List UInt8)) = true from beq_iff_eq.2 hp, Bool.not_true, cond_false]
      have := hj3 0 0 (by omega) (by omega)
      rw [show ((0 : Nat) : Int) = (0 : Int) from rfl] at this
      rw [this]
      simp only [us, ps, un, pn, base, baseP, hpn, ints_snoc]
    · obtain ⟨j, hj⟩ := prt_of hfk.2 hp
      have hjk := prt_lt hj
      have q1 := hlu j
      have q2 := hlp j
      rw [show ((l.getD k default).f1 == ([] : List UInt8)) = false from beq_eq_false_iff_ne.2 hp, Bool.not_false, cond_true, if_pos ⟨trivial, by omega⟩, List.drop_zero, f45_eq _ (hs.take k).max, show fd (l.take k) (l.getD k default).f1 = some j from hj]
      simp only [Option.bind_some, idx, Int.toNat_natCast]
      rw [if_pos ⟨by omega, by rw [ints_length, us_length]; omega, by omega, by rw [ints_length, ps_length]; omega⟩, intsD (by simp only [us_length, ps_length]; omega), intsD (by simp only [us_length, ps_length]; omega), w64_id (n := (1 : Int) + (((ps l k).getD j 0 : Nat) : Int)) (by omega) (by omega)]
      have := hj3 ((us l k).getD j 0) (1 + (ps l k).getD j 0) (by omega) (by omega)
      rw [show ((1 + (ps l k).getD j 0 : Nat) : Int) = (1 : Int) + (((ps l k).getD j 0 : Nat) : Int) by omega] at this
      rw [this]
      simp only [us, ps, un, pn, base, baseP, hj, ints_snoc]
  · rintro b rfl
    simp [f70_b4]

/-! ### The reference's, kept a little above the limit -/

def cp (n : Nat) : Nat := min n 100001

theorem cp_cp (a b : Nat) : cp (cp a + b) = cp (a + b) := by unfold cp; omega
theorem cp_id {n : Nat} (h : n ≤ 100001) : cp n = n := by unfold cp; omega
theorem cp_le (n : Nat) : cp n ≤ 100001 := by unfold cp; omega

end Go.Sx.der

namespace Go.Sx.der
open Go Go.Sx

def lim (l : List T62) (k : Nat) : Bool := ((decide ((k : Int) ≥ 30) || decide ((((l.getD k default).f3).length : Int) > 20)) || decide (un (us l k) l k > 100000)) || decide (pn (ps l k) l k > 100000)

def errAt (l : List T62) (k : Nat) : Int := cond (!formedB (l.getD k default)) 2 (cond (dbl l k) 8 (cond (mis l k) 5 (cond (uns l k) 70 (cond (lim l k) 4 0))))

def Right (l : List T62) (n : Nat) : Prop := ∀ k, k < n → errAt l k = 0

theorem Right.le {l : List T62} {m n : Nat} (h : Right l n) (hm : m ≤ n) : Right l m := fun k hk => h k (by omega)

theorem errAt_parts {l : List T62} {k : Nat} (h : errAt l k = 0) : formedB (l.getD k default) = true ∧ dbl l k = false ∧ mis l k = false ∧ uns l k = false ∧ lim l k = false := by
  unfold errAt at h
  cases h1 : formedB (l.getD k default) <;> cases h2 : dbl l k <;> cases h3 : mis l k <;> cases h4 : uns l k <;> cases h5 : lim l k <;> rw [h1, h2, h3, h4, h5] at h <;> first | exact ⟨rfl, rfl, rfl, rfl, rfl⟩ | exact absurd h (by decide)

theorem formed_named {t : T62} (h : formedB t = true) : t.f0 ≠ [] := by
  intro e
  simp only [formedB, Bool.and_eq_true] at h
  have h1 := h.1.1.1.1
  rw [e] at h1
  simp [nameOk] at h1

theorem formed_many {t : T62} (h : formedB t = true) : ∀ f ∈ t.f3, f.f2 ≤ 100 := fun f hf => by
  simp only [formedB, Bool.and_eq_true, List.all_eq_true] at h
  have h1 := h.1.2 f hf
  simp only [fieldOk, Bool.and_eq_true, decide_eq_true_eq] at h1
  exact h1.2

theorem lim_parts {l : List T62} {k : Nat} (h : lim l k = false) : un (us l k) l k ≤ 100000 ∧ pn (ps l k) l k ≤ 100000 := by
  simp only [lim, Bool.or_eq_false_iff, decide_eq_false_iff_not] at h
  omega

theorem Right.named {l : List T62} {n : Nat} (h : Right l n) : Named l n := fun k hk => formed_named (errAt_parts (h k hk)).1
theorem Right.ahead {l : List T62} {n : Nat} (h : Right l n) : Ahead l n := fun k hk hp => (mis_parts (errAt_parts (h k hk)).2.2.1).1 hp
theorem Right.fit {l : List T62} {n : Nat} (h : Right l n) : ∀ k, k < n → Fit l k := fun k hk => ⟨formed_many (errAt_parts (h k hk)).1, (errAt_parts (h k hk)).2.2.1⟩
theorem Right.low {l : List T62} {n : Nat} (h : Right l n) : ∀ k, k < n → un (us l k) l k ≤ 100000 ∧ pn (ps l k) l k ≤ 100000 := fun k hk => lim_parts (errAt_parts (h k hk)).2.2.2.2

theorem Right.allF_dup {l : List T62} {n : Nat} (h : Right l n) (k : Nat) (hk : k < n) : anyDup [] ((allF l k).map T35.f0) = false := by
  have h2 := (errAt_parts (h k hk)).2.1
  simp only [dbl, Bool.or_eq_false_iff] at h2
  rw [allF_eq (h.le (by omega : k ≤ n)).named]
  exact h2.2.1

theorem Right.anc_dup {l : List T62} {n : Nat} (h : Right l n) : anyDup [] ((anc l n).map T35.f0) = false := by
  unfold anc
  cases hp : prt l n with
  | none => rfl
  | some j => exact h.allF_dup j (prt_lt hp).1

/-! ### What is said of the front alone -/

theorem flatMap_same {A B : Type} {f g : A → List B} : ∀ {v : List A}, (∀ k ∈ v, f k = g k) → v.flatMap f = v.flatMap g
  | [], _ => rfl
  | x :: v, h => by
    rw [List.flatMap_cons, List.flatMap_cons, h x (List.mem_cons_self ..), flatMap_same fun k hk => h k (List.mem_cons_of_mem _ hk)]

theorem prt_take {l : List T62} {n k : Nat} (h : k < n) : prt (l.take n) k = prt l k := by
  simp only [prt, par, getD_take h, fd_take_take (Nat.le_of_lt h)]

theorem allF_take {l : List T62} {n k : Nat} (h : k < n) : allF (l.take n) k = allF l k := by
  unfold allF
  rw [up_take l n k h]
  refine flatMap_same fun j hj => ?_
  have := up_le l k j (List.mem_reverse.1 hj)
  rw [getD_take (by omega)]

theorem anc_take {l : List T62} {n k : Nat} (h : k < n) : anc (l.take n) k = anc l k := by
  unfold anc
  rw [prt_take h]
  cases hp : prt l k with
  | none => rfl
  | some j => exact allF_take (Nat.lt_trans (prt_lt hp).1 h)

theorem dbl_take {l : List T62} {n k : Nat} (h : k < n) : dbl (l.take n) k = dbl l k := by
  simp only [dbl, getD_take h, fd_take_take (Nat.le_of_lt h), anc_take h]

theorem mis_take {l : List T62} {n k : Nat} (h : k < n) : mis (l.take n) k = mis l k := by
  have : misF (l.take n) k = misF l k := by
    funext f
    simp only [misF, fd_take_take (Nat.le_of_lt h)]
  simp only [mis, par, prt_take h, getD_take h, this]

theorem bs_take {l : List T62} {n : Nat} {v : List Nat} (h : ∀ k ∈ v, k < n) : bs (l.take n) v = bs l v := flatMap_same fun k hk => by rw [getD_take (h k hk)]

theorem upP_take {l : List T62} {n k : Nat} (h : k < n) : upP (l.take n) k = upP l k := by
  unfold upP
  rw [prt_take h]
  cases hp : prt l k with
  | none => rfl
  | some j => exact up_take l n j (Nat.lt_trans (prt_lt hp).1 h)

theorem uns_take {l : List T62} {n k : Nat} (h : k < n) : uns (l.take n) k = uns l k := by
  have h1 : absF (l.take n) k = absF l k := by
    funext f
    simp only [absF, fd_take_take (Nat.le_of_lt h)]
    cases hf : fd (l.take k) f.f1 with
    | none => rfl
    | some j =>
      have := (fd_take.1 hf).2
      simp only [getD_take (show j < n by omega)]
  have h2 : ownBad (l.take n) k = ownBad l k := by
    funext b
    simp only [ownBad, bnd, upP_take h, bs_take (v := upP l k) fun j hj => Nat.lt_trans (upP_le l k j hj) h]
  have h3 : lineBad (l.take n) k = lineBad l k := by
    funext b
    simp only [lineBad, bnd, up_take l n k h, bs_take (v := up l k) fun j hj => Nat.lt_of_le_of_lt (up_le l k j hj) h]
  simp only [uns, getD_take h, h1, h2, h3, up_take l n k h, bs_take (v := up l k) fun j hj => Nat.lt_of_le_of_lt (up_le l k j hj) h]

theorem un_take {l : List T62} {n k : Nat} (h : k < n) (v : List Nat) : un v (l.take n) k = un v l k ∧ pn v (l.take n) k = pn v l k := by
  have h1 : wd v (l.take n) k = wd v l k := by
    funext f
    simp only [wd, typ, fd_take_take (Nat.le_of_lt h)]
  have h2 : pw v (l.take n) k = pw v l k := by
    funext f
    simp only [pw, typ, fd_take_take (Nat.le_of_lt h)]
  exact ⟨by simp only [un, base, prt_take h, getD_take h, h1], by simp only [pn, baseP, prt_take h, getD_take h, h2]⟩

theorem us_take {l : List T62} {n : Nat} : ∀ {k : Nat}, k ≤ n → us (l.take n) k = us l k ∧ ps (l.take n) k = ps l k
  | 0, _ => ⟨rfl, rfl⟩
  | k + 1, h => by
    obtain ⟨h1, h2⟩ := us_take (l := l) (n := n) (k := k) (by omega)
    exact ⟨by simp only [us, h1, (un_take (l := l) (show k < n by omega) _).1], by simp only [ps, h2, (un_take (l := l) (show k < n by omega) _).2]⟩

theorem errAt_take {l : List T62} {n k : Nat} (h : k < n) : errAt (l.take n) k = errAt l k := by
  obtain ⟨h1, h2⟩ := us_take (l := l) (n := n) (k := k) (by omega)
  have hl : lim (l.take n) k = lim l k := by simp only [lim, getD_take h, h1, h2, (un_take (l := l) h _).1, (un_take (l := l) h _).2]
  simp only [errAt, getD_take h, dbl_take h, mis_take h, uns_take h, hl]

/-! ### What is wrong at a type -/

def Gs (l : List T62) : Prop := ∀ t ∈ l, G62 t
theorem Gs.take {l : List T62} (h : Gs l) (n : Nat) : Gs (l.take n) := fun t ht => h t (List.mem_of_mem_take ht)

theorem f37_eq (l : List T62) (hs : Small l) (hg : Gs l) (k : Nat) (hk : l.length = k + 1) (hR : Right l k) : f37 l (k : Int) = some (errAt l k) := by
  have g1 : (0 : Int) ≤ k ∧ (k : Int) < (l.length : Int) := ⟨by omega, by omega⟩
  have hkl : k < l.length := by omega
  unfold f37 errAt
  rw [if_pos g1, Int.toNat_natCast, f66_eq _ (hg _ (getD_mem hkl)), f67_eq l hs k hkl hR.ahead, f68_eq l hs k hkl]
  simp only [Option.bind_some]
  cases h1 : formedB (l.getD k default) with
  | false => rfl
  | true =>
    cases h2 : dbl l k with
    | true => rfl
    | false =>
      cases h3 : mis l k with
      | true => rfl
      | false =>
        rw [f69_eq l hs k hkl hR.ahead hR.named h3]
        simp only [Option.bind_some]
        cases h4 : uns l k with
        | true => rfl
        | false =>
          have hN : Named l l.length := fun j hj => by
            by_cases he : j = k
            · subst he; exact formed_named h1
            · exact hR.named j (by omega)
          have hF : ∀ j, j < l.length → Fit l j := fun j hj => by
            by_cases he : j = k
            · subst he; exact ⟨formed_many h1, h3⟩
            · exact hR.fit j (by omega)
          rw [f70_eq l hs hN hF (fun j hj => hR.low j (by omega)), hk]
          have e1 : (ints (us l (k + 1))).getD k default = ((un (us l k) l k : Nat) : Int) := by rw [intsD (by rw [us_length]; omega), us_at l (k + 1) k (by omega)]
          have e2 : (ints (ps l (k + 1))).getD k default = ((pn (ps l k) l k : Nat) : Int) := by rw [intsD (by rw [ps_length]; omega), ps_at l (k + 1) k (by omega)]
          have g2 : (0 : Int) ≤ k ∧ (k : Int) < (((k + 1 : Nat)) : Int) := ⟨by omega, by omega⟩
          have g3 : (0 : Int) ≤ k ∧ (k : Int) < ((ints (us l (k + 1))).length : Int) := ⟨by omega, by rw [ints_length, us_length]; omega⟩
          have g4 : (0 : Int) ≤ k ∧ (k : Int) < ((ints (ps l (k + 1))).length : Int) := ⟨by omega, by rw [ints_length, ps_length]; omega⟩
          have d1 : decide (((un (us l k) l k : Nat) : Int) > 100000) = decide (un (us l k) l k > 100000) := by rw [Bool.eq_iff_iff, decide_eq_true_eq, decide_eq_true_eq]; omega
          have d2 : decide (((pn (ps l k) l k : Nat) : Int) > 100000) = decide (pn (ps l k) l k > 100000) := by rw [Bool.eq_iff_iff, decide_eq_true_eq, decide_eq_true_eq]; omega
          simp only [Option.bind_some, if_pos g2, if_pos g3, if_pos g4, e1, e2, cond_or, d1, d2, Bool.not_true, cond_false]
          rw [show (((decide ((k : Int) ≥ 30) || decide ((((l.getD k default).f3).length : Int) > 20)) || decide (un (us l k) l k > 100000)) || decide (pn (ps l k) l k > 100000)) = lim l k from rfl]
          cases lim l k <;> rfl

def chkF (l : List T62) : List T62 → Nat → Out (List UInt8 × Int) Unit
  | [], _ => .go ()
  | x :: r, i => cond (errAt l i != 0) (.ret (x.f0, errAt l i)) (chkF l r (i + 1))

def chk (l : List T62) : List UInt8 × Int := match chkF l l 0 with | .ret v => v | .go _ => ([], 0)

theorem chkF_right {l : List T62} : ∀ {r : List T62} {i : Nat}, (match chkF l r i with | .ret v => v | .go _ => (([] : List UInt8), (0 : Int))).2 = 0 → ∀ k, i ≤ k → k < i + r.length → errAt l k = 0
  | [], i, _, k, h1, h2 => by simp at h2; omega
  | x :: r, i, h, k, h1, h2 => by
    simp only [chkF] at h
    cases hb : errAt l i != 0 with
    | true => rw [hb] at h; simp only [cond_true] at h; rw [h] at hb; cases hb
    | false =>
      rw [hb, cond_false] at h
      by_cases he : k = i
      · subst he; simpa using hb
      · exact chkF_right h k (by omega) (by simp only [List.length_cons] at h2; omega)

theorem chk_right {l : List T62} (h : (chk l).2 = 0) : Right l l.length := fun k hk => chkF_right (l := l) (r := l) (i := 0) h k (Nat.zero_le _) (by omega)

theorem f14_eq (l : List T62) (hs : Small l) (hg : Gs l) : f14 l = some (chk l) := by
  have key := iter_listP l hs.max (fun i => f14_b1 l i) (fun r i => chkF l r i) (fun i => Right l i) ?_ ?_ (fun k hk => absurd hk (Nat.not_lt_zero _))
  · unfold f14 chk
    rw [key]
    simp only [Option.bind_some]
    cases chkF l l 0 <;> rfl
  · intro k x r hR hk hx _
    have g1 : (0 : Int) ≤ k ∧ (k : Int) < (l.length : Int) := ⟨by omega, by omega⟩
    have hw := w64_succ hk hs.max
    have hT : (l.take (k + 1)).length = k + 1 := by simp only [List.length_take]; omega
    have hRT : Right (l.take (k + 1)) k := fun j hj => by rw [errAt_take (by omega)]; exact hR j hj
    have h37 := f37_eq (l.take (k + 1)) (hs.take _) (hg.take _) k hT hRT
    rw [errAt_take (Nat.lt_succ_self k)] at h37
    simp only [f14_b1, Int.toNat_natCast, hx, g1, and_self, if_true, decide_true, cond_true]
    rw [hw, if_pos ⟨by omega, by omega⟩, List.drop_zero, Int.toNat_natCast, h37]
    simp only [Option.bind_some, chkF]
    cases hb : errAt l k != 0 with
    | true => exact .inl rfl
    | false =>
      refine .inr ⟨rfl, fun j hj => ?_, rfl⟩
      by_cases he : j = k
      · subst he; simpa using hb
      · exact hR j (by omega)
  · intro _
    simp [f14_b1, chkF]

theorem awake2 : ((f13).bind fun v => some v) = some true := by rw [awake]; rfl

end Go.Sx.der

namespace Go.Sx.der
open Go Go.Sx

def askd (l : List T62) (s : List UInt8) : Int × Int := cond ((chk l).2 != 0) (0, 2) (match fd l s with | some i => ((i : Int), 0) | none => (0, 5))

theorem f43_eq (l : List T62) (hs : Small l) (hg : Gs l) (s : List UInt8) : f43 l s = some (askd l s) := by
  unfold f43 askd
  rw [f14_eq l hs hg, Option.bind_some, f45_eq l hs.max]
  simp only [Option.bind_some, idx_neg]
  cases (chk l).2 != 0 with
  | true => rfl
  | false => cases fd l s <;> rfl

theorem askd_cases (l : List T62) (s : List UInt8) : ((chk l).2 ≠ 0 ∧ askd l s = (0, 2)) ∨ (Right l l.length ∧ (chk l).2 = 0 ∧ fd l s = none ∧ askd l s = (0, 5)) ∨ ∃ i, Right l l.length ∧ (chk l).2 = 0 ∧ fd l s = some i ∧ askd l s = ((i : Int), 0) := by
  unfold askd
  by_cases h : (chk l).2 = 0
  · rw [show ((chk l).2 != 0) = false by simp [h], cond_false]
    cases hf : fd l s with
    | none => exact .inr (.inl ⟨chk_right h, h, rfl, rfl⟩)
    | some i => exact .inr (.inr ⟨i, chk_right h, h, rfl, rfl⟩)
  · exact .inl ⟨h, by rw [show ((chk l).2 != 0) = true by simpa using h]; rfl⟩

end Go.Sx.der

namespace Go.Sx.der
open Go Go.Sx

theorem f91_eq (c : Int) : f91 c = some (isLetterI c) := by simp only [f91, cond_and, Option.bind_some, cond_or, isLetterI]

theorem f92_eq (c : Int) : f92 c = some (isDigitI c) := by simp only [f92, cond_and, Option.bind_some, isDigitI]

theorem f83_eq (c : Int) : f83 c = some (isPartI c) := by simp only [f83, f91_eq, f92_eq, cond_or, Option.bind_some, isPartI]

theorem f71_eq (s : List UInt8) (h : s.length ≤ maxLen) : f71 s = some (nameOk s) := by
  have hl := iter_list s h (fun i => f71_b1 s i) (fun r _ => if r.all innerB then (Out.go () : Out Bool Unit) else Out.ret false) ?_ ?_
  · unfold f71 nameOk
    rw [hl, cond_or]
    simp only [Option.bind_some]
    cases s with
    | nil => simp
    | cons b r =>
      have hpos : (0 : Int) < ((b :: r).length : Int) := by simp
      simp only [if_pos hpos, cond_or, Option.bind_some, List.getD_cons_zero]
      have e : ((b :: r) == ([] : List UInt8)) = false := rfl
      rw [e]
      cases hin : (b :: r).all innerB with
      | false =>
        have key : ∀ q : Bool, (cond q (some false) (some false) : Option Bool) = some false := fun q => by cases q <;> rfl
        simp only [Bool.false_and, Bool.and_false, Bool.false_eq_true, if_false, Option.bind_some, key]
      | true =>
        have hb : innerB b = true := by simp only [List.all_cons, Bool.and_eq_true] at hin; exact hin.1
        have hlet : isLetterI (byteI b) = (!decide (((b.toNat : Nat) : Int) < 97) && !decide (((b.toNat : Nat) : Int) > 122)) := by
          simp only [innerB, isUpperI, Bool.and_eq_true, Bool.not_eq_true', Bool.and_eq_false_iff, decide_eq_false_iff_not] at hb
          have h2 := hb.2
          rw [Bool.eq_iff_iff]
          simp only [isLetterI, Bool.or_eq_true, Bool.and_eq_true, decide_eq_true_eq, Bool.not_eq_true', decide_eq_false_iff_not]
          simp only [byteI] at h2 ⊢
          omega
        rw [hlet]
        have hd : decide (((b :: r).length : Int) ≤ 12) = !decide (((b :: r).length : Int) > 12) := by
          rw [Bool.eq_iff_iff]; simp only [decide_eq_true_eq, Bool.not_eq_true', decide_eq_false_iff_not]; omega
        rw [hd]
        simp only [if_true, Bool.true_and, byteI, Bool.false_or, Bool.not_false]
        cases decide (((b :: r).length : Int) > 12) <;> cases decide (((b.toNat : Nat) : Int) < 97) <;> cases decide (((b.toNat : Nat) : Int) > 122) <;> rfl
  · intro i x r hi hx _
    have h1 : (0 : Int) ≤ i ∧ (i : Int) < (s.length : Int) := ⟨by omega, by omega⟩
    have hx' : s.getD i 0 = x := hx
    simp only [f71_b1, Int.toNat_natCast, hx', h1, and_self, if_true, decide_true, cond_true, f83_eq, Option.bind_some, cond_and, cond_or]
    have : (!isPartI ((x.toNat : Nat) : Int) || (decide (((x.toNat : Nat) : Int) ≥ 65) && decide (((x.toNat : Nat) : Int) ≤ 90))) = !innerB x := by
      simp only [innerB, byteI, isUpperI]
      cases isPartI ((x.toNat : Nat) : Int) <;> simp <;> rfl
    rw [this]
    cases hb : innerB x with
    | true => right; simp [hb]
    | false => left; simp [hb]
  · simp [f71_b1]

theorem f49_eq (l : List T62) (h : l.length ≤ maxLen) (n : Nat) (s : List UInt8) : f49 l (n : Int) s = some (idx (fd (l.take n) s)) := by
  have hlen : (l.take n).length ≤ l.length := by simp only [List.length_take]; omega
  have := iter_list (l.take n) (Nat.le_trans hlen h) (fun i => f49_b1 l (n : Int) s i) (fun r i => outOf (findFrom (fun t => t.f0 == s) r i)) ?_ ?_
  · unfold f49 fd
    rw [this]
    cases findFrom (fun t => t.f0 == s) (l.take n) 0 <;> rfl
  · intro i x r hi hx _
    have hi' : i < n ∧ i < l.length := by simp only [List.length_take] at hi; omega
    have h1 : (0 : Int) ≤ i ∧ (i : Int) < (l.length : Int) := ⟨by omega, by omega⟩
    have h2 : (i : Int) < (n : Int) := by omega
    rw [getD_take hi'.1] at hx
    simp only [f49_b1, Int.toNat_natCast, hx, h1, h2, and_self, if_true, decide_true, cond_true, Option.bind_some]
    cases hp : x.f0 == s with
    | true => left; simp [findFrom, hp, outOf]
    | false => right; simp [findFrom, hp]
  · have hi : ¬ ((l.take n).length < n ∧ (l.take n).length < l.length) := by simp only [List.length_take]; omega
    simp only [f49_b1, cond_and, Option.bind_some, findFrom, outOf]
    have : (decide (((l.take n).length : Int) < (n : Int)) && decide (((l.take n).length : Int) < (l.length : Int))) = false := by
      rw [Bool.and_eq_false_iff, decide_eq_false_iff_not, decide_eq_false_iff_not]
      omega
    rw [this]; rfl

theorem go_nil_58 (l : List T62) (acc : List Int) : iter (fun s => f58_b1 l s.1 s.2) ((-1 : Int), acc) = some (.go acc) := iter_inr rfl

theorem f58_loop (l : List T62) (hs : Small l) : ∀ (i : Nat), i < l.length → ∀ acc : List Int, acc.length + i ≤ 1000 → iter (fun s => f58_b1 l s.1 s.2) ((i : Int), acc) = some (.go (acc ++ ints (up l i))) := by
  intro i
  induction i using Nat.strongRecOn with
  | _ i ih =>
    intro hi acc hacc
    have h1 : (0 : Int) ≤ i ∧ (i : Int) < (l.length : Int) := ⟨by omega, by omega⟩
    have hd : decide ((i : Int) ≥ 0) = true := by simp
    have hb : (acc.length + [(i : Int)].length) * 8 ≤ 140737488355328 := by simp only [List.length_cons, List.length_nil]; omega
    rw [up_eq]
    by_cases hp : par l i = []
    · refine iter_inr ?_
      simp only [f58_b1, hd, cond_true, if_pos hb, if_pos h1, Int.toNat_natCast]
      rw [show ((l.getD i default).f1 == ([] : List UInt8)) = true from beq_iff_eq.2 hp, cond_true, if_pos hp]
      rfl
    · have hstep : f58_b1 l (i : Int) acc = some (.inl (idx (fd (l.take i) (par l i)), acc ++ [(i : Int)])) := by
        simp only [f58_b1, hd, cond_true, if_pos hb, if_pos h1, Int.toNat_natCast]
        rw [show ((l.getD i default).f1 == ([] : List UInt8)) = false from beq_eq_false_iff_ne.2 hp, cond_false, f49_eq l hs.max]
        rfl
      rw [iter_inl hstep, if_neg hp]
      cases hf : fd (l.take i) (par l i) with
      | none => exact go_nil_58 l _
      | some j =>
        have hj := fd_take.1 hf
        have := ih j hj.2 (by omega) (acc ++ [(i : Int)]) (by simp only [List.length_append, List.length_cons, List.length_nil]; omega)
        simp only [idx]
        rw [this]
        simp [ints]

theorem f58_eq (l : List T62) (hs : Small l) (i : Nat) (hi : i < l.length) : f58 l (i : Int) = some (ints (up l i)) := by
  have hl := hs.len
  unfold f58
  rw [f58_loop l hs i hi [] (by simp; omega)]
  rfl

theorem f58_neg (l : List T62) : f58 l (-1) = some [] := by
  unfold f58
  rw [go_nil_58]
  rfl

theorem nm71 (s : List UInt8) (h : s.length ≤ maxLen) : ((cond (s == ([] : List UInt8)) (some true) ((f71 s).bind fun v => some v)).bind fun v => some v) = some (nmOk s) := by
  unfold nmOk
  rw [f71_eq s h]
  cases (s == ([] : List UInt8)) <;> rfl

theorem f38_eq (t : T62) (h : G62 t) : f38 t = some (formedB t) := by
  obtain ⟨h0, h1, h5, ⟨h3, h3'⟩, ⟨h4, h4'⟩⟩ := h.parts
  have e1 : ∀ b, iter (fun s => f38_b1 t s.1 s.2) (b, 0) = some (Out.go (b && t.f3.all fieldOk)) := by
    refine iter_listS t.f3 h3 (fun s => f38_b1 t s.1 s.2) (fun r _ b => (Out.go (b && r.all fieldOk) : Out Bool Bool)) ?_ ?_
    · intro i x r b hi hx _
      have hm := getD_mem hi
      rw [hx] at hm
      have g1 : (0 : Int) ≤ i ∧ (i : Int) < (t.f3.length : Int) := ⟨by omega, by omega⟩
      right
      refine ⟨b && fieldOk x, ?_, by simp [Bool.and_assoc]⟩
      simp only [f38_b1, Int.toNat_natCast, hx, g1, and_self, if_true, decide_true, cond_true, f71_eq _ (h3' x hm).1, nm71 _ (h3' x hm).2, Option.bind_some, cond_and, fieldOk, Bool.and_assoc]
    · intro b
      simp [f38_b1]
  have e2 : ∀ b, iter (fun s => f38_b2 t s.1 s.2) (b, 0) = some (Out.go (b && t.f4.all bindOk)) := by
    refine iter_listS t.f4 h4 (fun s => f38_b2 t s.1 s.2) (fun r _ b => (Out.go (b && r.all bindOk) : Out Bool Bool)) ?_ ?_
    · intro i x r b hi hx _
      have hm := getD_mem hi
      rw [hx] at hm
      have g1 : (0 : Int) ≤ i ∧ (i : Int) < (t.f4.length : Int) := ⟨by omega, by omega⟩
      right
      refine ⟨b && bindOk x, ?_, by simp [Bool.and_assoc]⟩
      simp only [f38_b2, Int.toNat_natCast, hx, g1, and_self, if_true, decide_true, cond_true, f71_eq _ (h4' x hm).1, nm71 _ (h4' x hm).2, Option.bind_some, cond_and, bindOk, Bool.and_assoc]
    · intro b
      simp [f38_b2]
  unfold f38 formedB
  simp only [f71_eq _ h0, nm71 _ h1, nm71 _ h5, Option.bind_some, cond_and, e1, e2]

theorem f39_b1_eq (l : List T62) (hs : Small l) (us : List Nat) (m : Nat) (hm : m < us.length) (hu : us.getD m default < l.length) (ns : List (List UInt8)) (hn : ns.length ≤ 3000) :
    iter (fun s => f39_b1 l (ints us) (m : Int) s.1 s.2) (ns, (0 : Int)) = some (.go (ns ++ (l.getD (us.getD m default) default).f3.map T35.f0)) := by
  have h40 := (hs.at (us.getD m default)).1
  have hg := ints_getD hm
  have g0 : (0 : Int) ≤ m ∧ (m : Int) < ((ints us).length : Int) := ⟨by omega, by rw [ints_length]; omega⟩
  refine iter_listI (l.getD (us.getD m default) default).f3 (by have := maxLen_big; omega) (fun s => f39_b1 l (ints us) (m : Int) s.1 s.2) (fun r _ b => (Out.go (b ++ r.map T35.f0) : Out Bool (List (List UInt8)))) (fun i b => b.length ≤ 3000 + i) ?_ ?_ ns (by omega)
  · intro i x r b hI hi hx _
    right
    have hb : (b.length + [x.f0].length) * 16 ≤ 140737488355328 := by simp only [List.length_cons, List.length_nil]; omega
    refine ⟨b ++ [x.f0], ?_, by simp only [List.length_append, List.length_cons, List.length_nil]; omega, by simp⟩
    simp only [f39_b1, Int.toNat_natCast, hg, hx]
    rw [if_pos ⟨by omega, g0.2, by omega, by omega⟩, show decide ((i : Int) < (((l.getD (us.getD m default) default).f3).length : Int)) = true from by simpa using hi, cond_true, if_pos ⟨by omega, g0.2, by omega, by omega, by omega, by omega⟩, if_pos hb]
  · intro b _
    simp only [f39_b1, Int.toNat_natCast, hg]
    rw [if_pos ⟨by omega, g0.2, by omega, by omega⟩]
    simp

theorem f39_names (l : List T62) (hs : Small l) (k : Nat) (us : List Nat) (hu : ∀ j ∈ us, j < l.length) (hul : us.length ≤ 40) (hp : par l k ≠ []) :
    iter (fun s => f39_b2 l (k : Int) (ints us) s.1 s.2) ([], (0 : Int)) = some (.go (upNames l us)) := by
  have hpb : (((l.getD k default).f1) == ([] : List UInt8)) = false := beq_eq_false_iff_ne.2 hp
  have key := iter_listI us (by have := maxLen_big; omega) (fun s => f39_b2 l (k : Int) (ints us) s.1 s.2) (fun r _ b => (Out.go (b ++ upNames l r) : Out Bool (List (List UInt8)))) (fun i b => b.length ≤ 40 * i) ?_ ?_ [] (by simp)
  · rw [key]; simp
  · intro i x r b hI hi hx _
    right
    have hxu := getD_mem hi
    have hlt := hu _ hxu
    have h40 := (hs.at (us.getD i default)).1
    refine ⟨b ++ (l.getD x default).f3.map T35.f0, ?_, by rw [← hx]; simp only [List.length_append, List.length_map]; omega, by simp [upNames]⟩
    simp only [f39_b2, Int.toNat_natCast, hpb, Bool.not_false, cond_true, Option.bind_some]
    rw [show decide ((i : Int) < ((ints us).length : Int)) = true from by rw [ints_length]; simpa using hi, cond_true, f39_b1_eq l hs us i hi hlt b (by omega)]
    rw [hx]; rfl
  · intro b _
    simp only [f39_b2, Int.toNat_natCast, hpb, Bool.not_false, cond_true, Option.bind_some, ints_length]
    simp [upNames]

theorem f39_b2_nil (l : List T62) (k : Nat) (us : List Int) (hp : par l k = []) : iter (fun s => f39_b2 l (k : Int) us s.1 s.2) ([], (0 : Int)) = some (.go []) := by
  have hpb : (((l.getD k default).f1) == ([] : List UInt8)) = true := beq_iff_eq.2 hp
  refine iter_inr ?_
  simp only [f39_b2, Int.toNat_natCast, hpb, Bool.not_true, cond_false, Option.bind_some]

theorem f39_b3_eq (l : List T62) (k : Nat) (ns : List (List UInt8)) (hn : ns.length ≤ 3000) (m : Nat) (hm : m < ((l.getD k default).f3).length) :
    iter (fun s => f39_b3 l (k : Int) ns (m : Int) s) 0 = some (outB (ns.contains (((l.getD k default).f3).getD m default).f0)) := by
  refine iter_list ns (by have := maxLen_big; omega) (fun s => f39_b3 l (k : Int) ns (m : Int) s) (fun r _ => outB (r.contains (((l.getD k default).f3).getD m default).f0)) ?_ ?_
  · intro i x r hi hx _
    have g1 : (0 : Int) ≤ i ∧ (i : Int) < (ns.length : Int) := ⟨by omega, by omega⟩
    have g2 : (0 : Int) ≤ m ∧ (m : Int) < (((l.getD k default).f3).length : Int) := ⟨by omega, by omega⟩
    simp only [f39_b3, Int.toNat_natCast, hx, g1, g2, and_self, if_true, decide_true, cond_true, List.contains_cons]
    rw [BEq.comm (a := x)]
    cases ((((l.getD k default).f3).getD m default).f0 == x) with
    | true => exact .inl rfl
    | false => exact .inr ⟨rfl, rfl⟩
  · simp [f39_b3, outB]

theorem f39_own (l : List T62) (hs : Small l) (k : Nat) (ns : List (List UInt8)) (hn : ns.length ≤ 2000) :
    iter (fun s => f39_b4 l (k : Int) s.1 s.2) (ns, (0 : Int)) = some (outB (anyDup ns ((l.getD k default).f3.map T35.f0))) := by
  have h40 := (hs.at k).1
  refine iter_listI (l.getD k default).f3 (by have := maxLen_big; omega) (fun s => f39_b4 l (k : Int) s.1 s.2) (fun r _ b => outB (anyDup b (r.map T35.f0))) (fun i b => b.length ≤ 2000 + i) ?_ ?_ ns (by omega)
  · intro i x r b hI hi hx _
    have g1 : (0 : Int) ≤ i ∧ (i : Int) < (((l.getD k default).f3).length : Int) := ⟨by omega, by omega⟩
    have hb : (b.length + [x.f0].length) * 16 ≤ 140737488355328 := by simp only [List.length_cons, List.length_nil]; omega
    have h3 := f39_b3_eq l k b (by omega) i hi
    rw [hx] at h3
    simp only [f39_b4, Int.toNat_natCast, hx, g1, and_self, if_true, decide_true, cond_true, h3, Option.bind_some, List.map_cons, anyDup]
    rw [if_pos hb]
    cases b.contains x.f0 with
    | true => exact .inl rfl
    | false => exact .inr ⟨b ++ [x.f0], rfl, by simp only [List.length_append, List.length_cons, List.length_nil]; omega, rfl⟩
  · intro b _
    simp [f39_b4, anyDup, outB]

theorem f39_b5_eq (l : List T62) (k m : Nat) (hm : m < ((l.getD k default).f4).length) (h4 : ((l.getD k default).f4).length ≤ 40) :
    iter (fun s => f39_b5 l (k : Int) (m : Int) s) 0 = some (outB ((((l.getD k default).f4.take m).map T94.f0).contains (((l.getD k default).f4).getD m default).f0)) := by
  refine iter_list ((l.getD k default).f4.take m) (by have := maxLen_big; simp only [List.length_take]; omega) (fun s => f39_b5 l (k : Int) (m : Int) s) (fun r _ => outB ((r.map T94.f0).contains (((l.getD k default).f4).getD m default).f0)) ?_ ?_
  · intro i x r hi hx _
    have hi' : i < m := by simp only [List.length_take] at hi; omega
    rw [getD_take hi'] at hx
    have g1 : (0 : Int) ≤ i ∧ (i : Int) < (((l.getD k default).f4).length : Int) := ⟨by omega, by omega⟩
    have g2 : (0 : Int) ≤ m ∧ (m : Int) < (((l.getD k default).f4).length : Int) := ⟨by omega, by omega⟩
    have g3 : (i : Int) < (m : Int) := by omega
    simp only [f39_b5, Int.toNat_natCast, hx, g1, g2, g3, and_self, if_true, decide_true, cond_true, List.map_cons, List.contains_cons]
    rw [BEq.comm (a := x.f0)]
    cases ((((l.getD k default).f4).getD m default).f0 == x.f0) with
    | true => exact .inl rfl
    | false => exact .inr ⟨rfl, rfl⟩
  · have e : ((l.getD k default).f4.take m).length = m := by simp only [List.length_take]; omega
    rw [e]
    simp [f39_b5, outB]

theorem f39_bind (l : List T62) (hs : Small l) (k : Nat) :
    iter (fun s => f39_b6 l (k : Int) s) 0 = some (outB (anyDup [] ((l.getD k default).f4.map T94.f0))) := by
  have h40 := (hs.at k).2
  have key := iter_list (l.getD k default).f4 (by have := maxLen_big; omega) (fun s => f39_b6 l (k : Int) s) (fun r i => outB (anyDup (((l.getD k default).f4.take i).map T94.f0) (r.map T94.f0))) ?_ ?_
  · rw [key]; rfl
  · intro i x r hi hx hd
    have g1 : (i : Int) < (((l.getD k default).f4).length : Int) := by omega
    have h5 := f39_b5_eq l k i hi h40
    rw [hx] at h5
    simp only [f39_b6, Int.toNat_natCast, g1, decide_true, cond_true, h5, Option.bind_some, List.map_cons, anyDup, take_succ hd, List.map_append]
    cases (((l.getD k default).f4.take i).map T94.f0).contains x.f0 with
    | true => exact .inl rfl
    | false => exact .inr ⟨rfl, rfl⟩
  · simp [f39_b6, anyDup, outB]

theorem f39_eq (l : List T62) (hs : Small l) (k : Nat) (hk : k < l.length) (hN : Named l k) (hanc : anyDup [] ((anc l k).map T35.f0) = false) : f39 l (k : Int) = some (dbl l k) := by
  have g1 : (0 : Int) ≤ k ∧ (k : Int) < (l.length : Int) := ⟨by omega, by omega⟩
  have hmx := hs.max
  have hlen := hs.len
  unfold f39 dbl
  rw [if_pos g1, f49_eq l hmx, f49_eq l hmx, Int.toNat_natCast]
  simp only [Option.bind_some, idx_nonneg]
  have hup : ∃ us : List Nat, f58 l (idx (fd (l.take k) (l.getD k default).f1)) = some (ints us) ∧ (∀ j ∈ us, j < l.length) ∧ us.length ≤ 40 ∧ (anc l k = us.reverse.flatMap fun k => (l.getD k default).f3) ∧ (par l k = [] → us = []) := by
    cases hp : fd (l.take k) (l.getD k default).f1 with
    | none => exact ⟨[], f58_neg l, by simp, by simp, by unfold anc; rw [show prt l k = none from hp]; rfl, fun _ => rfl⟩
    | some j =>
      have hj := prt_lt hp
      refine ⟨up l j, f58_eq l hs j hj.2, fun m hm => by have := up_le l j m hm; omega, by have := up_length l j; omega, by unfold anc; rw [show prt l k = some j from hp]; rfl, fun he => ?_⟩
      have := prt_nil hN he
      unfold prt at this
      rw [this] at hp; cases hp
  obtain ⟨us, hf, hu, hul, ha, hnil⟩ := hup
  rw [hf]
  simp only [Option.bind_some]
  have hnames : iter (fun s => f39_b2 l (k : Int) (ints us) s.1 s.2) ([], (0 : Int)) = some (.go (upNames l us)) := by
    by_cases hp : par l k = []
    · rw [f39_b2_nil l k _ hp, hnil hp]; rfl
    · exact f39_names l hs k us hu hul hp
  have hal := anc_length l hs k hk
  have hns : (upNames l us).length ≤ 2000 := by
    have : ∀ vs : List Nat, (upNames l vs).length ≤ 40 * vs.length := by
      intro vs
      induction vs with
      | nil => simp [upNames]
      | cons v vs ih =>
        have := (hs.at v).1
        simp only [upNames, List.flatMap_cons, List.length_append, List.length_map, List.length_cons] at ih ⊢
        omega
    have := this us
    omega
  rw [hnames]
  simp only [Option.bind_some]
  rw [f39_own l hs k _ hns, f39_bind l hs k]
  rw [List.map_append, anyDup_append, hanc, Bool.false_or, List.nil_append, anyDup_mem _ (upNames l us) ((anc l k).map T35.f0) (fun x => by rw [ha]; exact upNames_mem l us x)]
  cases (fd (l.take k) (l.getD k default).f0).isSome <;> cases anyDup ((anc l k).map T35.f0) ((l.getD k default).f3.map T35.f0) <;> cases anyDup [] ((l.getD k default).f4.map T94.f0) <;> rfl

theorem f40_eq (l : List T62) (hs : Small l) (k : Nat) (hk : k < l.length) : f40 l (k : Int) = some (mis l k) := by
  have g1 : (0 : Int) ≤ k ∧ (k : Int) < (l.length : Int) := ⟨by omega, by omega⟩
  have hmx := hs.max
  have h40 := (hs.at k).1
  have e1 : iter (fun s => f40_b1 l (k : Int) s) 0 = some (outB ((l.getD k default).f3.any (misF l k))) := by
    refine iter_list (l.getD k default).f3 (by have := maxLen_big; omega) (fun s => f40_b1 l (k : Int) s) (fun r _ => outB (r.any (misF l k))) ?_ ?_
    · intro i x r hi hx _
      have g2 : (0 : Int) ≤ i ∧ (i : Int) < (((l.getD k default).f3).length : Int) := ⟨by omega, by omega⟩
      simp only [f40_b1, Int.toNat_natCast, hx, g2, and_self, if_true, decide_true, cond_true, f49_eq l hmx, Option.bind_some, idx_neg, cond_and, List.any_cons]
      rw [show (!(x.f1 == ([] : List UInt8)) && (fd (l.take k) x.f1).isNone) = misF l k x from rfl]
      cases misF l k x with
      | true => exact .inl rfl
      | false => exact .inr ⟨rfl, rfl⟩
    · simp [f40_b1, outB]
  unfold f40 mis prt
  rw [if_pos g1, e1, Int.toNat_natCast, f49_eq l hmx]
  simp only [Option.bind_some, idx_neg]
  cases (par l k == ([] : List UInt8)) <;> cases (fd (l.take k) (par l k)).isNone <;> cases (l.getD k default).f3.any (misF l k) <;> rfl

theorem f63_b1_eq (l : List T62) (hs : Small l) (us : List Nat) (m : Nat) (hm : m < us.length) (s : List UInt8) :
    iter (fun i => f63_b1 l (ints us) s (m : Int) i) 0 = some (outP (fst (((l.getD (us.getD m default) default).f4)) s)) := by
  have h40 := (hs.at (us.getD m default)).2
  have hg := ints_getD hm
  refine iter_list (((l.getD (us.getD m default) default).f4)) (by have := maxLen_big; omega) (fun i => f63_b1 l (ints us) s (m : Int) i) (fun r _ => outP (fst r s)) ?_ ?_
  · intro i x r hi hx _
    have g1 : (0 : Int) ≤ i ∧ (i : Int) < (((l.getD (us.getD m default) default).f4).length : Int) := ⟨by omega, by omega⟩
    simp only [f63_b1, Int.toNat_natCast, hg, hx, g1, and_self, if_true, decide_true, cond_true, fst_cons]
    cases hb : x.f0 == s with
    | true => left; simp [outP]
    | false => right; simp
  · simp only [f63_b1, Int.toNat_natCast, hg]
    simp [fst, outP]

theorem f63_eq (l : List T62) (hs : Small l) (us : List Nat) (hu : ∀ j ∈ us, j < l.length) (hul : us.length ≤ 100) (s : List UInt8) : f63 l (ints us) s = some (pairB (bnd l us s)) := by
  have key : iter (fun j => f63_b2 l (ints us) s j) 0 = some (outP (bnd l us s)) := by
    refine iter_list us (by have := maxLen_big; omega) (fun j => f63_b2 l (ints us) s j) (fun r _ => outP (bnd l r s)) ?_ ?_
    · intro m x r hm hx _
      have hb := f63_b1_eq l hs us m hm s
      rw [hx] at hb
      have hxm := getD_mem hm
      rw [hx] at hxm
      have hle := hu x hxm
      have hg := ints_getD hm
      rw [hx] at hg
      simp only [f63_b2, Int.toNat_natCast, hg]
      rw [show decide ((m : Int) < ((ints us).length : Int)) = true from by rw [ints_length]; simpa using hm, cond_true, if_pos ⟨by omega, by rw [ints_length]; omega, by omega, by omega⟩, hb, bnd_cons]
      cases fst (((l.getD x default).f4)) s with
      | some n => exact .inl rfl
      | none => exact .inr ⟨rfl, rfl⟩
    · simp only [f63_b2, ints_length]
      simp [bnd, bs, fst, outP]
  unfold f63
  rw [key]
  cases bnd l us s <;> rfl

theorem f41_fields (l : List T62) (hs : Small l) (k : Nat) (hm : mis l k = false) :
    iter (fun i => f41_b1 l (k : Int) i) 0 = some (outN ((l.getD k default).f3.any (absF l k))) := by
  have h40 := (hs.at k).1
  refine iter_list (l.getD k default).f3 (by have := maxLen_big; omega) (fun i => f41_b1 l (k : Int) i) (fun r _ => outN (r.any (absF l k))) ?_ ?_
  · intro i x r hi hx _
    have g1 : (0 : Int) ≤ i ∧ (i : Int) < (((l.getD k default).f3).length : Int) := ⟨by omega, by omega⟩
    have hxm := getD_mem hi
    rw [hx] at hxm
    simp only [f41_b1, Int.toNat_natCast, hx, g1, and_self, if_true, decide_true, cond_true, List.any_cons, absF]
    by_cases hn : x.f1 = []
    · rw [show (x.f1 == ([] : List UInt8)) = true from beq_iff_eq.2 hn]
      exact .inr ⟨rfl, rfl⟩
    · obtain ⟨j, hj⟩ := (mis_parts hm).2 x hxm hn
      have hlt := (fd_some (fd_take.1 hj).1).1
      rw [show (x.f1 == ([] : List UInt8)) = false from beq_eq_false_iff_ne.2 hn, f49_eq l hs.max, hj]
      simp only [Bool.not_false, cond_true, Option.bind_some, idx, Int.toNat_natCast, Bool.true_and]
      rw [if_pos ⟨by omega, by omega⟩]
      simp only [Option.bind_some]
      cases (l.getD j default).f2 with
      | true => exact .inl rfl
      | false => exact .inr ⟨rfl, rfl⟩
  · simp [f41_b1, outN]

theorem f41_own (l : List T62) (hs : Small l) (k : Nat) (hk : k < l.length) (hN : Named l k) :
    iter (fun s => f41_b3 l (k : Int) s.1 s.2) (ints (up l k), (0 : Int)) = some (cond ((((l.getD k default).f4)).any (refBad l k)) (.ret false) (.go (ints (up l k)))) := by
  have h40 := (hs.at k).2
  have hl := hs.len
  have hul := up_length l k
  have hupe := up_eqP hN
  refine iter_listI (((l.getD k default).f4)) (by have := maxLen_big; omega) (fun s => f41_b3 l (k : Int) s.1 s.2) (fun r _ b => cond (r.any (refBad l k)) (.ret false) (.go b)) (fun _ b => b = ints (up l k)) ?_ ?_ _ rfl
  · rintro i x r b rfl hi hx _
    have g1 : (0 : Int) ≤ i ∧ (i : Int) < (((l.getD k default).f4).length : Int) := ⟨by omega, by omega⟩
    have g2 : (1 : Int) ≤ ((ints (up l k)).length : Int) := by rw [ints_length, hupe]; simp only [List.length_cons]; omega
    have hdrop : (((ints (up l k)).take (Int.toNat ((ints (up l k)).length : Int))).drop 1) = ints (upP l k) := by
      rw [Int.toNat_natCast, List.take_length, hupe]; rfl
    simp only [f41_b3, f41_j2, Int.toNat_natCast, hx, g1, and_self, if_true, decide_true, cond_true, List.any_cons, refBad]
    by_cases hb : x.f1 = []
    · rw [show (x.f1 == ([] : List UInt8)) = true from beq_iff_eq.2 hb]
      simp only [Bool.not_true, cond_false, Bool.true_and]
      rw [if_pos g2]
      rw [show (List.take (ints (up l k)).length (ints (up l k))).drop 1 = ints (upP l k) from hdrop]
      rw [f63_eq l hs (upP l k) (fun j hj => by have := upP_le l k j hj; omega) (by rw [hupe] at hul; simp only [List.length_cons] at hul; omega)]
      simp only [Option.bind_some, cond_and, cond_or]
      cases (!(l.getD k default).f2 || ((pairB (bnd l (upP l k) x.f0)).2 && !((pairB (bnd l (upP l k) x.f0)).1 == ([] : List UInt8)))) with
      | true => exact .inl rfl
      | false => exact .inr ⟨_, rfl, rfl, rfl⟩
    · rw [show (x.f1 == ([] : List UInt8)) = false from beq_eq_false_iff_ne.2 hb]
      exact .inr ⟨_, rfl, rfl, rfl⟩
  · rintro b rfl
    simp [f41_b3]

theorem f41_line1 (l : List T62) (hs : Small l) (k : Nat) (hk : k < l.length) (m : Nat) (hm : m < (up l k).length) :
    iter (fun i => f41_b4 l (ints (up l k)) (m : Int) i) 0 = some (outN ((((l.getD ((up l k).getD m default) default).f4)).any (lineBad l k))) := by
  have h40 := (hs.at ((up l k).getD m default)).2
  have hl := hs.len
  have hul := up_length l k
  have hg := ints_getD hm
  have hxm := getD_mem hm
  have hle := up_le l k _ hxm
  refine iter_list (((l.getD ((up l k).getD m default) default).f4)) (by have := maxLen_big; omega) (fun i => f41_b4 l (ints (up l k)) (m : Int) i) (fun r _ => outN (r.any (lineBad l k))) ?_ ?_
  · intro i x r hi hx _
    simp only [f41_b4, Int.toNat_natCast, hg, hx]
    rw [if_pos ⟨by omega, by rw [ints_length]; omega, by omega, by omega⟩, show decide ((i : Int) < (((l.getD ((up l k).getD m default) default).f4).length : Int)) = true from by simpa using hi, cond_true, if_pos ⟨by omega, by rw [ints_length]; omega, by omega, by omega, by omega, by omega⟩,
      f63_eq l hs (up l k) (fun j hj => by have := up_le l k j hj; omega) (by omega)]
    simp only [Option.bind_some, List.any_cons]
    rw [show ((pairB (bnd l (up l k) x.f0)).1 == ([] : List UInt8)) = lineBad l k x from rfl]
    cases lineBad l k x with
    | true => exact .inl rfl
    | false => exact .inr ⟨rfl, rfl⟩
  · simp only [f41_b4, Int.toNat_natCast, hg]
    rw [if_pos ⟨by omega, by rw [ints_length]; omega, by omega, by omega⟩]
    simp [outN]

theorem f41_line (l : List T62) (hs : Small l) (k : Nat) (hk : k < l.length) :
    iter (fun i => f41_b5 l (k : Int) (ints (up l k)) i) 0 = some (outN (!(l.getD k default).f2 && (bs l (up l k)).any (lineBad l k))) := by
  cases hab : (l.getD k default).f2 with
  | true =>
    refine iter_inr ?_
    simp only [f41_b5, Int.toNat_natCast, hab, Bool.not_true]
    cases decide ((0 : Int) < ((ints (up l k)).length : Int)) <;> rfl
  | false =>
    have hl := hs.len
    have hul := up_length l k
    refine iter_list (up l k) (by have := maxLen_big; omega) (fun i => f41_b5 l (k : Int) (ints (up l k)) i) (fun r _ => outN (!false && (bs l r).any (lineBad l k))) ?_ ?_
    · intro m x r hm hx _
      have hb := f41_line1 l hs k hk m hm
      rw [hx] at hb
      simp only [f41_b5, Int.toNat_natCast, hab]
      rw [show decide ((m : Int) < ((ints (up l k)).length : Int)) = true from by rw [ints_length]; simpa using hm]
      simp only [cond_true, Option.bind_some, Bool.not_false, Bool.true_and]
      rw [hb]
      simp only [bs, List.flatMap_cons, List.any_append]
      cases (((l.getD x default).f4)).any (lineBad l k) with
      | true => exact .inl rfl
      | false => exact .inr ⟨rfl, rfl⟩
    · simp only [f41_b5, ints_length]
      simp [bs, outN]

theorem f41_eq (l : List T62) (hs : Small l) (k : Nat) (hk : k < l.length) (hN : Named l k) (hm : mis l k = false) (hd : anyDup [] ((((l.getD k default).f4)).map T94.f0) = false) : f41 l (k : Int) = some (!uns l k) := by
  have g1 : (0 : Int) ≤ k ∧ (k : Int) < (l.length : Int) := ⟨by omega, by omega⟩
  have hall : ((((l.getD k default).f4)).any (refBad l k) || (!(l.getD k default).f2 && (bs l (up l k)).any (lineBad l k))) = ((((l.getD k default).f4)).any (ownBad l k) || (!(l.getD k default).f2 && (bs l (up l k)).any (lineBad l k))) := by
    cases hab : (l.getD k default).f2 with
    | true =>
      have : refBad l k = ownBad l k := by
        funext b
        simp only [refBad, ownBad, hab, Bool.not_true, Bool.false_or]
      rw [this]
    | false =>
      have h1 : refBad l k = fun b => b.f1 == ([] : List UInt8) := by
        funext b
        simp only [refBad, hab, Bool.not_false, Bool.true_or, Bool.and_true]
      rw [h1]
      simp only [Bool.not_false, Bool.true_and]
      cases hlb : (bs l (up l k)).any (lineBad l k) with
      | true => simp
      | false =>
        have hno : ∀ b ∈ ((l.getD k default).f4), (b.f1 == ([] : List UInt8)) = false := fun b hb => by
          rw [List.any_eq_false] at hlb
          have hmem : b ∈ bs l (up l k) := by
            unfold bs
            rw [up_eqP hN, List.flatMap_cons]
            exact List.mem_append_left _ hb
          have := hlb b hmem
          simp only [lineBad] at this
          rw [up_eqP hN, bnd_cons, fst_own (((l.getD k default).f4)) [] hd b hb] at this
          simpa [pairB] using this
        have e1 : ((((l.getD k default).f4)).any fun b => b.f1 == ([] : List UInt8)) = false := by
          rw [List.any_eq_false]
          intro b hb
          rw [hno b hb]; simp
        have e2 : (((l.getD k default).f4)).any (ownBad l k) = false := by
          rw [List.any_eq_false]
          intro b hb
          simp only [ownBad, hno b hb]; simp
        rw [e1, e2]
  unfold f41 uns
  rw [if_pos g1, f41_fields l hs k hm, ← hall]
  cases (l.getD k default).f3.any (absF l k) with
  | true => rfl
  | false =>
    show (f58 l (k : Int)).bind _ = _
    rw [f58_eq l hs k hk, Option.bind_some, f41_own l hs k hk hN]
    cases (((l.getD k default).f4)).any (refBad l k) with
    | true => rfl
    | false =>
      show (iter (fun i => f41_b5 l (k : Int) (ints (up l k)) i) 0).bind _ = _
      rw [f41_line l hs k hk]
      cases (!(l.getD k default).f2 && (bs l (up l k)).any (lineBad l k)) <;> rfl

theorem f72_eq (n : Nat) : f72 (n : Int) = some ((cp n : Nat) : Int) := by
  unfold f72 cp
  congr 1
  split <;> omega

theorem f42_b2_eq (l : List T62) (hs : Small l) (k : Nat) (hk : k < l.length) (pu pp : List Nat) (hpu : pu.length = k) (hpp : pp.length = k) (hlu : Low pu) (hlp : Low pp) (hf : Fit l k) (a b : Nat) (ha : a ≤ 100001) (hb : b ≤ 100001) :
    iter (fun s => f42_b2 l (k : Int) (ints pu) (ints pp) s.1 s.2.1 s.2.2) ((a : Int), (b : Int), (0 : Int)) = some (.go (((cp (a + ((l.getD k default).f3.map (wd pu l k)).sum) : Nat) : Int), ((cp (b + ((l.getD k default).f3.map (pw pp l k)).sum) : Nat) : Int))) := by
  have h40 := (hs.at k).1
  refine iter_listG (l.getD k default).f3 (by have := maxLen_big; omega) (fun s => f42_b2 l (k : Int) (ints pu) (ints pp) s.1 s.2.1 s.2.2) (fun (b : Nat × Nat) i => ((b.1 : Int), (b.2 : Int), i))
    (fun r _ b => (Out.go (((cp (b.1 + (r.map (wd pu l k)).sum) : Nat) : Int), ((cp (b.2 + (r.map (pw pp l k)).sum) : Nat) : Int)) : Out T68 (Int × Int))) (fun i b => b.1 ≤ 100001 ∧ b.2 ≤ 100001) ?_ ?_ (a, b) ⟨ha, hb⟩
  · rintro i x r ⟨n, m⟩ ⟨hn, hm⟩ hi hx _
    simp only at hn hm
    right
    have g0 : (0 : Int) ≤ k ∧ (k : Int) < (l.length : Int) := ⟨by omega, by omega⟩
    have g1 : (0 : Int) ≤ i ∧ (i : Int) < (((l.getD k default).f3).length : Int) := ⟨by omega, by omega⟩
    have hxm := getD_mem hi
    rw [hx] at hxm
    have h2 := hf.1 x hxm
    have htm := tm_le h2
    have hw := wd_le hlu (l := l) (k := k) h2
    have hp := pw_le hlp (l := l) (k := k) h2
    refine ⟨(cp (n + wd pu l k x), cp (m + pw pp l k x)), ?_, ⟨cp_le _, cp_le _⟩, by simp only [List.map_cons, List.sum_cons, cp_cp, Nat.add_assoc]⟩
    have hj1 : ∀ c d : Nat, d ≤ 100000 → tm x * c ≤ 10000000 → tm x * (1 + d) ≤ 10000100 → f42_j1 l (k : Int) (n : Int) (m : Int) (i : Int) (c : Int) (d : Int) = some (.inl (((cp (n + tm x * c) : Nat) : Int), ((cp (m + tm x * (1 + d)) : Nat) : Int), w64 ((i : Int) + 1))) := fun c d hd hc hd' => by
      simp only [f42_j1, Int.toNat_natCast, hx, tm_int]
      have e1 : ((tm x : Nat) : Int) * (c : Int) = ((tm x * c : Nat) : Int) := by simp
      have e2 : (1 : Int) + (d : Int) = ((1 + d : Nat) : Int) := by omega
      have e4 : (n : Int) + ((tm x * c : Nat) : Int) = ((n + tm x * c : Nat) : Int) := by omega
      rw [e1, w64_id (n := ((tm x * c : Nat) : Int)) (by omega) (by omega), e4, w64_id (n := ((n + tm x * c : Nat) : Int)) (by omega) (by omega), f72_eq, e2, w64_id (n := ((1 + d : Nat) : Int)) (by omega) (by omega), f72_eq, cp_id (n := 1 + d) (by omega)]
      simp only [Option.bind_some]
      have e3 : ((tm x : Nat) : Int) * ((1 + d : Nat) : Int) = ((tm x * (1 + d) : Nat) : Int) := by simp
      have e5 : (m : Int) + ((tm x * (1 + d) : Nat) : Int) = ((m + tm x * (1 + d) : Nat) : Int) := by omega
      rw [e3, w64_id (n := ((tm x * (1 + d) : Nat) : Int)) (by omega) (by omega), e5, w64_id (n := ((m + tm x * (1 + d) : Nat) : Int)) (by omega) (by omega), f72_eq]
      rfl
    simp only [f42_b2, Int.toNat_natCast, hx]
    rw [if_pos g0, show decide ((i : Int) < (((l.getD k default).f3).length : Int)) = true from by simpa using hi, cond_true, if_pos ⟨g0.1, g0.2, g1.1, g1.2⟩]
    by_cases he : x.f1 = []
    · have e1 : wd pu l k x = tm x * 1 := by simp [wd, he]
      have e2 : pw pp l k x = tm x * (1 + 0) := by simp [pw, he]
      rw [show (x.f1 == ([] : List UInt8)) = true from beq_iff_eq.2 he, Bool.not_true, cond_false]
      have := hj1 1 0 (by omega) (by omega) (by omega)
      rw [e1, e2]
      exact this
    · obtain ⟨ht, htk⟩ := typ_of hf.2 hxm he
      have e1 : wd pu l k x = tm x * pu.getD (typ l k x) 0 := by simp [wd, he]
      have e2 : pw pp l k x = tm x * (1 + pp.getD (typ l k x) 0) := by simp [pw, he]
      rw [show (x.f1 == ([] : List UInt8)) = false from beq_eq_false_iff_ne.2 he, Bool.not_false, cond_true, f49_eq l hs.max, ht]
      simp only [Option.bind_some, idx, Int.toNat_natCast]
      rw [if_pos ⟨by omega, by rw [ints_length]; omega⟩, if_pos ⟨by omega, by rw [ints_length]; omega⟩, intsD (by omega), intsD (by omega)]
      rw [hj1 (pu.getD (typ l k x) 0) (pp.getD (typ l k x) 0) (hlp _) (by omega) (by omega), e1, e2]
  · rintro ⟨n, m⟩ ⟨hn, hm⟩
    simp only [f42_b2]
    rw [if_pos ⟨by omega, by omega⟩]
    simp only [Int.toNat_natCast]
    rw [show decide ((((l.getD k default).f3).length : Int) < (((l.getD k default).f3).length : Int)) = false from by simp, cond_false]
    simp only [List.map_nil, List.sum_nil, Nat.add_zero, cp_id hn, cp_id hm]

theorem f42_eq (l : List T62) (hs : Small l) (n : Nat) (hn : n ≤ l.length) (hN : Named l n) (hf : ∀ k, k < n → Fit l k) (hu : ∀ k, k + 1 < n → un (us l k) l k ≤ 100000 ∧ pn (ps l k) l k ≤ 100000) :
    ∃ t, f42 l (n : Int) = some t ∧ t.f0 = ints ((us l n).map cp) ∧ t.f1 = ints ((ps l n).map cp) := by
  have hlen := hs.len
  have hmx := maxLen_big
  have hcap : ∀ k, k < n → (us l k).map cp = us l k ∧ (ps l k).map cp = ps l k := fun k hk => by
    induction k with
    | zero => exact ⟨rfl, rfl⟩
    | succ k ih =>
      obtain ⟨i1, i2⟩ := ih (by omega)
      have := hu k (by omega)
      exact ⟨by simp only [us, List.map_append, i1, List.map_cons, List.map_nil, cp_id (show un (us l k) l k ≤ 100001 by omega)], by simp only [ps, List.map_append, i2, List.map_cons, List.map_nil, cp_id (show pn (ps l k) l k ≤ 100001 by omega)]⟩
  have key := iter_listG (l.take n) (by simp only [List.length_take]; omega) (fun s => f42_b4 l (n : Int) s.1 s.2.1 s.2.2) (fun (b : List Int × List Int) i => (i, b.1, b.2)) (fun _ _ _ => (Out.go (ints ((us l n).map cp), ints ((ps l n).map cp)) : Out T68 ((List Int) × (List Int)))) (fun i b => b = (ints ((us l i).map cp), ints ((ps l i).map cp))) ?_ ?_ ([], []) rfl
  · refine ⟨T68.mk (ints ((us l n).map cp)) (ints ((ps l n).map cp)), ?_, rfl, rfl⟩
    unfold f42
    rw [key]; rfl
  · rintro k x r b rfl hk' hx _
    have hk : k < n := by simp only [List.length_take] at hk'; omega
    right
    have g1 : (0 : Int) ≤ k ∧ (k : Int) < (l.length : Int) := ⟨by omega, by omega⟩
    have hlu : Low (us l k) := low_us fun j hj => (hu j (by omega)).1
    have hlp : Low (ps l k) := low_ps fun j hj => (hu j (by omega)).2
    have hfk := hf k hk
    obtain ⟨c1, c2⟩ := hcap k hk
    have hj3 : ∀ a b : Nat, a ≤ 100001 → b ≤ 100001 → f42_j3 l (k : Int) (ints (us l k)) (ints (ps l k)) (a : Int) (b : Int) = some (.inl (w64 ((k : Int) + 1), ints (us l k) ++ [((cp (a + ((l.getD k default).f3.map (wd (us l k) l k)).sum) : Nat) : Int)], ints (ps l k) ++ [((cp (b + ((l.getD k default).f3.map (pw (ps l k) l k)).sum) : Nat) : Int)])) := fun a b ha hb => by
      unfold f42_j3
      rw [f42_b2_eq l hs k (by omega) (us l k) (ps l k) (us_length l k) (ps_length l k) hlu hlp hfk a b ha hb]
      simp only [Option.bind_some]
      rw [if_pos (by simp only [ints_length, us_length, List.length_cons, List.length_nil]; omega), if_pos (by simp only [ints_length, ps_length, List.length_cons, List.length_nil]; omega)]
    refine ⟨(ints ((us l (k + 1)).map cp), ints ((ps l (k + 1)).map cp)), ?_, rfl, rfl⟩
    have gn : (k : Int) < (n : Int) := by omega
    simp only [f42_b4, Int.toNat_natCast, g1, gn, and_self, if_true, decide_true, cond_true, c1, c2]
    by_cases hp : par l k = []
    · have hpn := prt_nil (fun j hj => hN j (by omega)) hp
      rw [show ((l.getD k default).f1 == ([] : List UInt8)) = true from beq_iff_eq.2 hp, Bool.not_true, cond_false]
      have := hj3 0 0 (by omega) (by omega)
      rw [show ((0 : Nat) : Int) = (0 : Int) from rfl] at this
      rw [this]
      simp only [us, ps, un, pn, base, baseP, hpn, ints_snoc, List.map_append, c1, c2, List.map_cons, List.map_nil]
    · obtain ⟨j, hj⟩ := prt_of hfk.2 hp
      have hjk := prt_lt hj
      have q1 := hlu j
      have q2 := hlp j
      rw [show ((l.getD k default).f1 == ([] : List UInt8)) = false from beq_eq_false_iff_ne.2 hp, Bool.not_false, cond_true, f49_eq l hs.max, show fd (l.take k) (l.getD k default).f1 = some j from hj]
      simp only [Option.bind_some, idx, Int.toNat_natCast]
      rw [if_pos ⟨by omega, by rw [ints_length, ps_length]; omega⟩, if_pos ⟨by omega, by rw [ints_length, us_length]; omega⟩, intsD (by simp only [us_length, ps_length]; omega), intsD (by simp only [us_length, ps_length]; omega)]
      have e2 : (1 : Int) + (((ps l k).getD j 0 : Nat) : Int) = ((1 + (ps l k).getD j 0 : Nat) : Int) := by omega
      rw [e2, w64_id (n := ((1 + (ps l k).getD j 0 : Nat) : Int)) (by omega) (by omega), f72_eq, cp_id (n := 1 + (ps l k).getD j 0) (by omega)]
      simp only [Option.bind_some]
      rw [hj3 ((us l k).getD j 0) (1 + (ps l k).getD j 0) (by omega) (by omega)]
      simp only [us, ps, un, pn, base, baseP, hj, ints_snoc, List.map_append, c1, c2, List.map_cons, List.map_nil]
  · rintro b rfl
    have e : (l.take n).length = n := by simp only [List.length_take]; omega
    rw [e]
    simp [f42_b4]

theorem f15_eq (l : List T62) (hs : Small l) (hg : Gs l) : f15 l = some (chk l) := by
  have hlen := hs.len
  have key := iter_listP l hs.max (fun i => f15_b2 l i) (fun r i => chkF l r i) (fun i => Right l i) ?_ ?_ (fun k hk => absurd hk (Nat.not_lt_zero _))
  · unfold f15 chk
    rw [key]
    simp only [Option.bind_some]
    cases chkF l l 0 <;> rfl
  · intro k x r hR hk hx _
    have g1 : (0 : Int) ≤ k ∧ (k : Int) < (l.length : Int) := ⟨by omega, by omega⟩
    have hw := w64_succ hk hs.max
    have hj1 : ∀ e : Int, f15_j1 l (k : Int) e = cond (e != 0) (some (.inr (.ret (x.f0, e)))) (some (.inl (w64 ((k : Int) + 1)))) := fun e => by
      unfold f15_j1
      rw [if_pos g1, Int.toNat_natCast, hx]
    have hstep : f15_b2 l (k : Int) = cond (errAt l k != 0) (some (.inr (.ret (x.f0, errAt l k)))) (some (.inl (w64 ((k : Int) + 1)))) := by
      rw [← hj1]
      unfold errAt
      simp only [f15_b2, Int.toNat_natCast, g1, and_self, if_true, decide_true, cond_true]
      rw [f38_eq _ (hg _ (getD_mem hk)), f40_eq l hs k hk, f39_eq l hs k hk hR.named hR.anc_dup]
      simp only [Option.bind_some]
      cases h1 : formedB (l.getD k default) with
      | false => rfl
      | true =>
        cases h2 : dbl l k with
        | true => rfl
        | false =>
          cases h3 : mis l k with
          | true => rfl
          | false =>
            have hd : anyDup [] (((l.getD k default).f4).map T94.f0) = false := by
              simp only [dbl, Bool.or_eq_false_iff] at h2
              exact h2.2.2
            rw [f41_eq l hs k hk hR.named h3 hd]
            simp only [Option.bind_some]
            cases h4 : uns l k with
            | true => rfl
            | false =>
              have hN : Named l (k + 1) := fun j hj => by
                by_cases he : j = k
                · subst he; exact formed_named h1
                · exact hR.named j (by omega)
              have hF : ∀ j, j < k + 1 → Fit l j := fun j hj => by
                by_cases he : j = k
                · subst he; exact ⟨formed_many h1, h3⟩
                · exact hR.fit j (by omega)
              obtain ⟨t, ht, t0, t1⟩ := f42_eq l hs (k + 1) (by omega) hN hF (fun j hj => hR.low j (by omega))
              rw [hw, ht]
              have e1 : t.f0.getD k default = ((cp (un (us l k) l k) : Nat) : Int) := by
                rw [t0, intsD (by simp only [List.length_map, us_length]; omega)]
                congr 1
                rw [us, List.map_append, List.getD_eq_getElem?_getD, List.getElem?_append_right (by simp only [List.length_map, us_length]; omega)]
                simp [us_length]
              have e2 : t.f1.getD k default = ((cp (pn (ps l k) l k) : Nat) : Int) := by
                rw [t1, intsD (by simp only [List.length_map, ps_length]; omega)]
                congr 1
                rw [ps, List.map_append, List.getD_eq_getElem?_getD, List.getElem?_append_right (by simp only [List.length_map, ps_length]; omega)]
                simp [ps_length]
              have g3 : (0 : Int) ≤ k ∧ (k : Int) < (t.f0.length : Int) := ⟨by omega, by rw [t0, ints_length, List.length_map, us_length]; omega⟩
              have g4 : (0 : Int) ≤ k ∧ (k : Int) < (t.f1.length : Int) := ⟨by omega, by rw [t1, ints_length, List.length_map, ps_length]; omega⟩
              have d1 : decide (((cp (un (us l k) l k) : Nat) : Int) > 100000) = decide (un (us l k) l k > 100000) := by rw [Bool.eq_iff_iff, decide_eq_true_eq, decide_eq_true_eq]; unfold cp; omega
              have d2 : decide (((cp (pn (ps l k) l k) : Nat) : Int) > 100000) = decide (pn (ps l k) l k > 100000) := by rw [Bool.eq_iff_iff, decide_eq_true_eq, decide_eq_true_eq]; unfold cp; omega
              simp only [Option.bind_some, g3, g4, and_self, if_true, e1, e2, cond_or, d1, d2, Bool.not_true, Bool.not_false, cond_false]
              rw [show (((decide ((k : Int) ≥ 30) || decide ((((l.getD k default).f3).length : Int) > 20)) || decide (un (us l k) l k > 100000)) || decide (pn (ps l k) l k > 100000)) = lim l k from rfl]
              cases lim l k <;> rfl
    rw [hstep]
    simp only [chkF]
    cases hb : errAt l k != 0 with
    | true => exact .inl rfl
    | false =>
      refine .inr ⟨rfl, fun j hj => ?_, rfl⟩
      by_cases he : j = k
      · subst he; simpa using hb
      · exact hR j (by omega)
  · intro _
    simp [f15_b2, chkF]

theorem f48_eq (l : List T62) (hs : Small l) (hg : Gs l) (s : List UInt8) : f48 l s = some (askd l s) := by
  unfold f48 askd
  rw [f15_eq l hs hg, Option.bind_some, f49_eq l hs.max, List.take_length]
  simp only [Option.bind_some, idx_neg]
  cases (chk l).2 != 0 with
  | true => rfl
  | false => cases fd l s <;> rfl

end Go.Sx.der

namespace Go.Sx.der
open Go Go.Sx

theorem f54_eq (l : List T62) (hs : Small l) (hR : Right l l.length) (i : Nat) (hi : i < l.length) : f54 l (i : Int) = some ((un (us l i) l i : Nat) : Int) := by
  have hlen := hs.len
  have hw := w64_succ hi hs.max
  have hT : (l.take (i + 1)).length = i + 1 := by simp only [List.length_take]; omega
  have hRT : Right (l.take (i + 1)) (i + 1) := fun j hj => by rw [errAt_take hj]; exact hR j (by omega)
  unfold f54
  rw [hw, if_pos ⟨by omega, by omega⟩, List.drop_zero, Int.toNat_natCast, f70_eq (l.take (i + 1)) (hs.take _) (by rw [hT]; exact hRT.named) (by rw [hT]; exact hRT.fit) (by rw [hT]; exact fun k hk => hRT.low k (by omega)), hT]
  simp only [Option.bind_some]
  rw [(us_take (l := l) (n := i + 1) (k := i + 1) (Nat.le_refl _)).1, if_pos ⟨by omega, by rw [ints_length, us_length]; omega⟩, Int.toNat_natCast, intsD (by rw [us_length]; omega), us_at l (i + 1) i (by omega)]

/-- How many units an element of a field has. -/
def oneG (l : List T62) (f : T35) : Nat := if f.f1 == ([] : List UInt8) then 1 else (us l l.length).getD ((fd l f.f1).getD 0) 0
def W (l : List T62) (f : T35) : Nat := tm f * oneG l f

/-- A field of a table: its number and its type. -/
def FOk (l : List T62) (f : T35) : Prop := f.f2 ≤ 100 ∧ (f.f1 ≠ [] → ∃ j, fd l f.f1 = some j)

theorem allF_ok {l : List T62} (hR : Right l l.length) {k : Nat} (hk : k < l.length) : ∀ f ∈ allF l k, FOk l f := fun f hf => by
  unfold allF at hf
  rw [List.mem_flatMap] at hf
  obtain ⟨m, hm, hfm⟩ := hf
  have hml : m < l.length := Nat.lt_of_le_of_lt (up_le l k m (List.mem_reverse.1 hm)) hk
  have hF := hR.fit m hml
  refine ⟨hF.1 f hfm, fun hn => ?_⟩
  obtain ⟨j, hj⟩ := (mis_parts hF.2).2 f hfm hn
  exact ⟨j, (fd_take.1 hj).1⟩

theorem us_low {l : List T62} (hR : Right l l.length) : Low (us l l.length) := low_us fun k hk => (hR.low k hk).1

theorem oneG_le {l : List T62} (hR : Right l l.length) (f : T35) : oneG l f ≤ 100000 := by
  unfold oneG
  split
  · omega
  · exact us_low hR _

theorem W_le {l : List T62} (hR : Right l l.length) {f : T35} (h : FOk l f) : W l f ≤ 10000000 := by
  calc W l f ≤ 100 * 100000 := Nat.mul_le_mul (tm_le h.1) (oneG_le hR f)
    _ = 10000000 := rfl

theorem f47_eq (l : List T62) (hs : Small l) (hR : Right l l.length) (f : T35) (h : FOk l f) : f47 l f = some ((oneG l f : Nat) : Int) := by
  unfold f47 oneG
  by_cases hn : f.f1 = []
  · rw [show (f.f1 == ([] : List UInt8)) = true from beq_iff_eq.2 hn]; rfl
  · obtain ⟨j, hj⟩ := h.2 hn
    have hjl := (fd_some hj).1
    rw [show (f.f1 == ([] : List UInt8)) = false from beq_eq_false_iff_ne.2 hn, cond_false, f45_eq l hs.max, hj, if_neg (by decide)]
    simp only [Option.bind_some, idx, f54_eq l hs hR j hjl, Option.getD_some]
    rw [us_at l l.length j hjl]

/-- Not of this name. -/
def other (s : List UInt8) (f : T35) : Bool := !(f.f0 == s)

def aheadF (l : List T62) (fs : List T35) (s : List UInt8) : Nat := ((fs.takeWhile (other s)).map (W l)).sum

def outF (l : List T62) (fs : List T35) (s : List UInt8) (a : Nat) : Out (Int × T35 × Bool) Unit :=
  match fs.dropWhile (other s) with | f :: _ => .ret (((a + aheadF l fs s : Nat) : Int), f, true) | [] => .go ()

theorem aheadF_le {l : List T62} (hR : Right l l.length) (fs : List T35) (h : ∀ f ∈ fs, FOk l f) (s : List UInt8) : aheadF l fs s ≤ fs.length * 10000000 := by
  induction fs with
  | nil => exact Nat.zero_le _
  | cons f r ih =>
    have hf := W_le hR (h f (List.mem_cons_self ..))
    have hr := ih fun x hx => h x (List.mem_cons_of_mem _ hx)
    unfold aheadF at hr ⊢
    rw [List.takeWhile_cons]
    simp only [List.length_cons]
    split
    · simp only [List.map_cons, List.sum_cons]; omega
    · exact Nat.zero_le _

theorem aheadF_cons (l : List T62) (f : T35) (r : List T35) (s : List UInt8) : aheadF l (f :: r) s = cond (f.f0 == s) 0 (W l f + aheadF l r s) := by
  unfold aheadF
  rw [List.takeWhile_cons]
  cases h : f.f0 == s with
  | true => rw [show other s f = false by unfold other; rw [h]; rfl]; rfl
  | false => rw [show other s f = true by unfold other; rw [h]; rfl]; simp

theorem f44_eq (l : List T62) (hs : Small l) (hR : Right l l.length) (k : Nat) (hk : k < l.length) (s : List UInt8) (hfs : (allF l k).length ≤ 1600) :
    f44 l (k : Int) s = some (match (allF l k).dropWhile (other s) with | f :: _ => (((aheadF l (allF l k) s : Nat) : Int), f, true) | [] => (0, T35.mk [] [] 0, false)) := by
  have hok := allF_ok hR hk
  have key := iter_listG (allF l k) (by have := maxLen_big; omega) (fun q => f44_b1 l s (allF l k) q.1 q.2) (fun (b : Nat) i => ((b : Int), i)) (fun r _ b => outF l r s b) (fun i b => b ≤ i * 10000000) ?_ ?_ 0 (by omega)
  · unfold f44
    rw [f53_eq l hs hR.ahead k hk hk, Option.bind_some]
    rw [show (((0 : Nat) : Int), (0 : Int)) = ((0 : Int), (0 : Int)) from rfl] at key
    rw [key]
    unfold outF
    cases (allF l k).dropWhile (other s) with
    | nil => rfl
    | cons f r => simp
  · intro i x r b hI hi hx _
    have g1 : (0 : Int) ≤ i ∧ (i : Int) < ((allF l k).length : Int) := ⟨by omega, by omega⟩
    have hxm := getD_mem hi
    rw [hx] at hxm
    have hxo := hok x hxm
    have hw := W_le hR hxo
    simp only [f44_b1, Int.toNat_natCast, hx, g1, and_self, if_true, decide_true, cond_true, f46_eq, f47_eq l hs hR x hxo, Option.bind_some, outF, List.dropWhile_cons, aheadF_cons]
    cases hn : x.f0 == s with
    | true => left; rw [show other s x = false by unfold other; rw [hn]; rfl]; simp
    | false =>
      right
      rw [show other s x = true by unfold other; rw [hn]; rfl]
      refine ⟨b + W l x, ?_, by omega, ?_⟩
      · have e : ((tm x : Nat) : Int) * ((oneG l x : Nat) : Int) = ((W l x : Nat) : Int) := by unfold W; simp
        rw [cond_false, e, w64_id (n := ((W l x : Nat) : Int)) (by omega) (by omega), w64_id (n := (b : Int) + ((W l x : Nat) : Int)) (by omega) (by omega)]
        rfl
      · simp only [if_true, cond_false, Nat.add_assoc]
  · intro b _
    simp [f44_b1, outF]

theorem allF_length (l : List T62) (hs : Small l) (i : Nat) (hi : i < l.length) : (allF l i).length ≤ 1600 := by
  have h1 := up_length l i
  have hl := hs.len
  have key : ∀ us : List Nat, (us.flatMap fun k => (l.getD k default).f3).length ≤ 40 * us.length := by
    intro us
    induction us with
    | nil => simp
    | cons u us ih =>
      have := (hs.at u).1
      simp only [List.flatMap_cons, List.length_append, List.length_cons]
      omega
  have := key (up l i).reverse
  simp only [List.length_reverse] at this
  unfold allF
  omega

/-! ### Where a path leads -/

def badP (p : T37) (f : T35) : Bool := decide (p.f1 < 0) || decide (p.f1 ≥ ((tm f : Nat) : Int))

/-- A path, step by step. -/
def walkP (l : List T62) : List T37 → Nat → List UInt8 → Out (Int × List UInt8 × Int) (Int × List UInt8)
  | [], o, k => .go ((o : Int), k)
  | p :: r, o, k => match k with
    | [] => .ret (0, [], 5)
    | _ :: _ => match (allF l ((fd l k).getD 0)).dropWhile (other p.f0) with
      | [] => .ret (0, [], 5)
      | f :: _ => cond (badP p f) (.ret (0, [], 2)) (walkP l r (o + (aheadF l (allF l ((fd l k).getD 0)) p.f0 + p.f1.toNat * oneG l f)) f.f1)

def KOk (l : List T62) (k : List UInt8) : Prop := k ≠ [] → ∃ j, fd l k = some j

theorem drop_mem {A : Type} {p : A → Bool} {v : List A} {f : A} {r : List A} (h : v.dropWhile p = f :: r) : f ∈ v := by
  have h1 : f ∈ v.dropWhile p := by rw [h]; exact List.mem_cons_self ..
  exact (List.dropWhile_sublist p).subset h1

theorem small_off {n : Int} (h0 : 0 ≤ n) (h1 : n ≤ 9000000000000) : w64 n = n := w64_id (by omega) (by omega)

theorem f16_loop (l : List T62) (hs : Small l) (hR : Right l l.length) (ps : List T37) (hps : ps.length ≤ 100) (s : List UInt8) (hk0 : KOk l s) :
    iter (fun q => f16_b1 l ps q.1 q.2.1 q.2.2) ((0 : Int), s, (0 : Int)) = some (walkP l ps 0 s) := by
  have key := iter_listG ps (by have := maxLen_big; omega) (fun q => f16_b1 l ps q.1 q.2.1 q.2.2) (fun (b : Nat × List UInt8) i => ((b.1 : Int), b.2, i)) (fun r _ b => walkP l r b.1 b.2) (fun i b => b.1 ≤ i * 20000000000 ∧ KOk l b.2) ?_ ?_ (0, s) ⟨by simp, hk0⟩
  · exact key
  · rintro i p r ⟨o, k⟩ ⟨hI, hK⟩ hi hx _
    simp only at hI hK
    have g1 : (0 : Int) ≤ i ∧ (i : Int) < (ps.length : Int) := ⟨by omega, by omega⟩
    simp only [f16_b1, Int.toNat_natCast, hx, g1, and_self, if_true, decide_true, cond_true]
    cases k with
    | nil => left; rfl
    | cons c cs =>
      obtain ⟨j, hj⟩ := hK (by simp)
      have hjl := (fd_some hj).1
      have hlen := allF_length l hs j hjl
      have hok := allF_ok hR hjl
      have hah := aheadF_le hR (allF l j) hok p.f0
      rw [show ((c :: cs) == ([] : List UInt8)) = false from rfl, cond_false, f45_eq l hs.max, hj]
      simp only [Option.bind_some, idx, f44_eq l hs hR j hjl p.f0 hlen, walkP, hj, Option.getD_some]
      cases hd : (allF l j).dropWhile (other p.f0) with
      | nil => left; rfl
      | cons f r' =>
        have hf := hok f (drop_mem hd)
        simp only [Bool.not_true, cond_false, f46_eq, f47_eq l hs hR f hf, Option.bind_some, cond_or]
        rw [show (decide (p.f1 < 0) || decide (p.f1 ≥ ((tm f : Nat) : Int))) = badP p f from rfl]
        cases hb : badP p f with
        | true => left; rfl
        | false =>
          right
          simp only [badP, Bool.or_eq_false_iff, decide_eq_false_iff_not] at hb
          have htm := tm_le hf.1
          have h1 : p.f1 = ((p.f1.toNat : Nat) : Int) := by omega
          have h2 : p.f1.toNat * oneG l f ≤ 100 * 100000 := Nat.mul_le_mul (by omega) (oneG_le hR f)
          refine ⟨(o + (aheadF l (allF l j) p.f0 + p.f1.toNat * oneG l f), f.f1), ?_, ⟨by simp only; omega, hf.2⟩, rfl⟩
          have e : p.f1 * ((oneG l f : Nat) : Int) = ((p.f1.toNat * oneG l f : Nat) : Int) := by rw [Int.natCast_mul, ← h1]
          rw [cond_false, e, small_off (n := ((p.f1.toNat * oneG l f : Nat) : Int)) (by omega) (by omega), small_off (n := ((aheadF l (allF l j) p.f0 : Nat) : Int) + ((p.f1.toNat * oneG l f : Nat) : Int)) (by omega) (by omega),
            small_off (n := (o : Int) + (((aheadF l (allF l j) p.f0 : Nat) : Int) + ((p.f1.toNat * oneG l f : Nat) : Int))) (by omega) (by omega)]
          simp
  · rintro ⟨o, k⟩ _
    simp [f16_b1, walkP]

theorem f16_eq (l : List T62) (hs : Small l) (hg : Gs l) (ps : List T37) (hps : ps.length ≤ 100) (s : List UInt8) :
    f16 l s ps = some (cond ((askd l s).2 != 0) (0, [], (askd l s).2) (match walkP l ps 0 s with | .ret v => v | .go v => (v.1, v.2, 0))) := by
  unfold f16
  rw [f43_eq l hs hg, Option.bind_some]
  rcases askd_cases l s with ⟨h, e⟩ | ⟨hR, h, hf, e⟩ | ⟨i, hR, h, hf, e⟩
  · rw [e]; rfl
  · rw [e]; rfl
  · rw [e]
    simp only [bne_self_eq_false, cond_false]
    rw [f16_loop l hs hR ps hps s (fun _ => ⟨i, hf⟩)]
    cases walkP l ps 0 s <;> rfl

end Go.Sx.der
