/- Plain laws of the printed functions; no condition. -/
import Derived.Test.YtpkoebbjnfpifaaGxG
import Derived.Test.YtpkoebbjnfpifaaGxW
import Derived.Test.YtpkoebbjnfpifaaSxC
namespace Go.Sx.gen
open Go Go.Sx

def longOne (s : T31) : Bool := decide ((s.f1.length : Int) > 100) || decide ((s.f0.length : Int) > 100)

def long (l : List T31) : Bool := l.any longOne || decide ((l.length : Int) > 100)

theorem f10_eq (l : List T31) (h : l.length ≤ maxLen) : f10 l = some (long l) := by
  have := iter_list l h (fun s => f10_b1 l s) (fun r _ => if r.any longOne then Out.ret true else Out.go ()) ?_ ?_
  · unfold f10
    rw [this]
    simp only [Option.bind_some, long]
    cases l.any longOne <;> simp
  · intro i x r hi hx _
    have h1 : (0 : Int) ≤ i ∧ (i : Int) < (l.length : Int) := ⟨by omega, by omega⟩
    simp only [f10_b1, Int.toNat_natCast, hx, h1, and_self, if_true, decide_true, cond_true, cond_or, Option.bind_some]
    cases hb : (decide ((x.f1.length : Int) > 100) || decide ((x.f0.length : Int) > 100)) with
    | true => left; simp [longOne, hb]
    | false => right; simp [longOne, hb]
  · simp [f10_b1]

def isLetterI (c : Int) : Bool := (decide (c ≥ 97) && decide (c ≤ 122)) || (decide (c ≥ 65) && decide (c ≤ 90))
def isDigitI (c : Int) : Bool := decide (c ≥ 48) && decide (c ≤ 57)
def isPartI (c : Int) : Bool := (isLetterI c || isDigitI c) || c == 95
def isUpperI (c : Int) : Bool := decide (c ≥ 65) && decide (c ≤ 90)

theorem f57_eq (c : Int) : f57 c = some (isLetterI c) := by simp only [f57, cond_and, Option.bind_some, cond_or, isLetterI]
theorem f67_eq (c : Int) : f67 c = some (isDigitI c) := by simp only [f67, cond_and, Option.bind_some, isDigitI]
theorem f59_eq (c : Int) : f59 c = some (isPartI c) := by simp only [f59, f57_eq, f67_eq, cond_or, Option.bind_some, isPartI]
theorem f68_eq (c : Int) : f68 c = some (isLetterI c) := by simp only [f68, cond_and, Option.bind_some, cond_or, isLetterI]
theorem f69_eq (c : Int) : f69 c = some (isDigitI c) := by simp only [f69, cond_and, Option.bind_some, isDigitI]
theorem f61_eq (c : Int) : f61 c = some (isPartI c) := by simp only [f61, f68_eq, f69_eq, cond_or, Option.bind_some, isPartI]

def byteI (b : UInt8) : Int := ((b.toNat : Nat) : Int)

/-- How many parts of a name stand in front. -/
def runLen : List UInt8 → Nat
  | [] => 0
  | b :: r => if isPartI (byteI b) then runLen r + 1 else 0

theorem f58_eq (s : List UInt8) (h : s.length ≤ maxLen) : f58_59 s = some ((runLen s : Nat) : Int) := by
  have := iter_list s h (fun i => f58_59_b1 s i) (fun r i => (Out.go ((i + runLen r : Nat) : Int) : Out Int Int)) ?_ ?_
  · unfold f58_59
    rw [this]
    simp
  · intro i x r hi hx _
    have h1 : (0 : Int) ≤ i ∧ (i : Int) < (s.length : Int) := ⟨by omega, by omega⟩
    have hx' : s.getD i 0 = x := hx
    simp only [f58_59_b1, Int.toNat_natCast, hx', h1, and_self, if_true, decide_true, cond_true, f59_eq, Option.bind_some]
    cases hb : isPartI ((x.toNat : Nat) : Int) with
    | true => right; simp [runLen, byteI, hb]; omega
    | false => left; simp [runLen, byteI, hb]
  · simp [f58_59_b1, runLen]

def low (n : Int) : Int := if isUpperI n then n + 32 else n

theorem wrap_u8 {n : Int} (h0 : 0 ≤ n) (h1 : n ≤ 255) : IntKind.wrap .u8 n = n := by
  simp only [IntKind.wrap, IntKind.min, IntKind.max, IntKind.signed, IntKind.bits]
  simp
  omega

theorem f60_eq (s : List UInt8) (h : s.length ≤ maxLen) : f60 s = some (s.map fun b => UInt8.ofNat (low (byteI b)).toNat) := by
  have hm := maxLen_le
  have key := iter_ind (fun q => f60_b2 s q.1 q.2) (fun q => ∃ i, i ≤ s.length ∧ q.2 = ((i : Nat) : Int) ∧ q.1 = ((s.map byteI).take i).map low ++ (s.map byteI).drop i) (fun q => s.length - q.2.toNat) (fun _ x => x = Out.go ((s.map byteI).map low)) ?_ (s.map byteI, 0) ⟨0, Nat.zero_le _, rfl, by simp⟩
  · obtain ⟨x, hx, rfl⟩ := key
    unfold f60
    rw [if_pos (by omega)]
    have hx' : iter (fun q => f60_b2 s q.1 q.2) (s.map (fun b => ((b.toNat : Nat) : Int)), (0 : Int)) = some (Out.go ((s.map byteI).map low)) := hx
    rw [hx']
    simp [List.map_map, Function.comp_def]
  · rintro ⟨b, k⟩ ⟨i, hi, hk, hb⟩
    simp only at hk hb
    subst hk hb
    have hlen : (((s.map byteI).take i).map low ++ (s.map byteI).drop i).length = s.length := by simp; omega
    by_cases hlt : i < s.length
    · left
      have h1 : (0 : Int) ≤ i ∧ (i : Int) < ((((s.map byteI).take i).map low ++ (s.map byteI).drop i).length : Int) := ⟨by omega, by rw [hlen]; omega⟩
      have h2 : ((i : Int) < ((s.map (fun b => ((b.toNat : Nat) : Int))).length : Int)) := by simp; omega
      have hget : (((s.map byteI).take i).map low ++ (s.map byteI).drop i).getD i default = byteI s[i] := by
        simp only [List.getD_eq_getElem?_getD]
        rw [List.getElem?_append_right (by simp; omega)]
        simp [Nat.min_eq_left hi, hlt]
      have hset : (((s.map byteI).take i).map low ++ (s.map byteI).drop i).set i (low (byteI s[i])) = ((s.map byteI).take (i + 1)).map low ++ (s.map byteI).drop (i + 1) := by
        have e1 : (s.map byteI).drop i = byteI s[i] :: (s.map byteI).drop (i + 1) := by
          rw [List.drop_eq_getElem_cons (by simpa using hlt)]; simp
        have e2 : (s.map byteI).take (i + 1) = (s.map byteI).take i ++ [byteI s[i]] := by
          rw [List.take_succ_eq_append_getElem (by simpa using hlt)]; simp
        rw [e1, e2, List.set_append_right _ _ (by simp; omega)]
        simp [Nat.min_eq_left hi]
      have hlow : isUpperI (byteI s[i]) = false → (((s.map byteI).take i).map low ++ (s.map byteI).drop i) = ((s.map byteI).take (i + 1)).map low ++ (s.map byteI).drop (i + 1) := by
        intro hu
        rw [← hset]
        have : low (byteI s[i]) = byteI s[i] := by simp [low, hu]
        rw [this]
        apply List.ext_getElem?
        intro j
        by_cases hj : j = i
        · subst hj
          rw [List.getElem?_set_self (by omega)]
          have := hget
          rw [List.getD_eq_getElem?_getD] at this
          have hs : (((s.map byteI).take j).map low ++ (s.map byteI).drop j)[j]? = some ((((s.map byteI).take j).map low ++ (s.map byteI).drop j)[j]'(by omega)) := List.getElem?_eq_getElem (by omega)
          rw [hs] at this ⊢
          simp only [Option.getD_some] at this
          rw [this]
        · rw [List.getElem?_set_ne (by omega)]
      have hw : w64 ((i : Int) + 1) = ((i + 1 : Nat) : Int) := w64_succ hlt h
      have h0 : 0 ≤ byteI s[i] ∧ byteI s[i] ≤ 255 := by
        have := s[i].toNat_lt
        simp only [byteI]; omega
      cases hu : isUpperI (byteI s[i]) with
      | true =>
        have hu' : byteI s[i] ≥ 65 ∧ byteI s[i] ≤ 90 := by simpa [isUpperI] using hu
        have hv : IntKind.wrap .u8 (IntKind.wrap .u8 (byteI s[i] - 65) + 97) = low (byteI s[i]) := by
          rw [wrap_u8 (n := byteI s[i] - 65) (by omega) (by omega), wrap_u8 (by omega) (by omega)]
          simp only [low, hu, if_true]; omega
        refine ⟨(((s.map byteI).take (i + 1)).map low ++ (s.map byteI).drop (i + 1), ((i + 1 : Nat) : Int)), ?_, ⟨i + 1, hlt, rfl, rfl⟩, by simp; omega, fun x hx => hx⟩
        simp only [f60_b2, f60_j1, Int.toNat_natCast, hget, h1, h2, and_self, if_true, decide_true, cond_true, hu'.1, hu'.2, Option.bind_some, hv, hset, hw]
      | false =>
        refine ⟨(((s.map byteI).take (i + 1)).map low ++ (s.map byteI).drop (i + 1), ((i + 1 : Nat) : Int)), ?_, ⟨i + 1, hlt, rfl, rfl⟩, by simp; omega, fun x hx => hx⟩
        have hu' : (decide (byteI s[i] ≥ 65) && decide (byteI s[i] ≤ 90)) = false := hu
        simp only [f60_b2, f60_j1, Int.toNat_natCast, hget, h1, h2, and_self, if_true, decide_true, cond_true, cond_and, hu', cond_false, Option.bind_some, hw, ← hlow hu]
    · right
      obtain rfl : i = s.length := by omega
      refine ⟨_, ?_, rfl⟩
      simp only [f60_b2]
      rw [show decide (((s.length : Nat) : Int) < ((s.map (fun b => ((b.toNat : Nat) : Int))).length : Int)) = false from by simp]
      have e1 : (s.map byteI).take s.length = s.map byteI := List.take_of_length_le (by simp)
      have e2 : (s.map byteI).drop s.length = [] := List.drop_of_length_le (by simp)
      simp only [cond_false, e1, e2, List.append_nil]

/-! ### Names -/

def innerB (b : UInt8) : Bool := isPartI (byteI b) && !isUpperI (byteI b)

def nameOk (s : List UInt8) : Bool := (!(s == ([] : List UInt8)) && decide ((s.length : Int) ≤ 12)) && (s.all innerB && (isLetterI (byteI (s.getD 0 0))))

theorem runLen_le : ∀ (s : List UInt8), runLen s ≤ s.length
  | [] => Nat.le_refl _
  | b :: r => by
    have := runLen_le r
    simp only [runLen, List.length_cons]
    split <;> omega

theorem runLen_all : ∀ (s : List UInt8), (((runLen s : Nat) : Int) == (s.length : Int)) = s.all (fun b => isPartI (byteI b))
  | [] => rfl
  | b :: r => by
    have h := runLen_all r
    have hle := runLen_le r
    simp only [runLen, List.all_cons, List.length_cons]
    cases hb : isPartI (byteI b) with
    | true =>
      simp only [if_true, Bool.true_and, ← h]
      by_cases he : runLen r = r.length
      · simp [he]
      · have : ((runLen r : Nat) : Int) ≠ (r.length : Int) := by omega
        have h2 : (((runLen r + 1 : Nat)) : Int) ≠ ((r.length + 1 : Nat) : Int) := by omega
        rw [beq_eq_false_iff_ne.2 this, beq_eq_false_iff_ne.2 h2]
    | false =>
      simp only [Bool.false_eq_true, if_false, Bool.false_and]
      exact beq_eq_false_iff_ne.2 (by omega)

theorem low_one (b : UInt8) : (b == UInt8.ofNat (low (byteI b)).toNat) = !isUpperI (byteI b) := by
  have hb := b.toNat_lt
  cases hu : isUpperI (byteI b) with
  | true =>
    have hu' : byteI b ≥ 65 ∧ byteI b ≤ 90 := by simpa [isUpperI] using hu
    simp only [low, hu, if_true, Bool.not_true]
    refine beq_eq_false_iff_ne.2 fun e => ?_
    have := congrArg UInt8.toNat e
    simp only [byteI] at hu' this
    rw [UInt8.toNat_ofNat'] at this
    omega
  | false =>
    have hl : low (byteI b) = byteI b := by simp [low, hu]
    rw [hl]
    simp [byteI]

theorem low_all : ∀ (s : List UInt8), (s == s.map fun b => UInt8.ofNat (low (byteI b)).toNat) = s.all (fun b => !isUpperI (byteI b))
  | [] => rfl
  | b :: r => by
    rw [List.map_cons, List.all_cons, ← low_one b, ← low_all r]
    rfl

theorem all_inner (s : List UInt8) : s.all innerB = (s.all (fun b => isPartI (byteI b)) && s.all (fun b => !isUpperI (byteI b))) := by
  induction s with
  | nil => rfl
  | cons b r ih =>
    simp only [List.all_cons, ih, innerB]
    cases isPartI (byteI b) <;> cases isUpperI (byteI b) <;> simp

theorem f38_eq (s : List UInt8) (h : s.length ≤ maxLen) : f38 s = some (nameOk s) := by
  unfold f38 nameOk
  rw [cond_and, all_inner]
  simp only [Option.bind_some, f57_eq, f58_eq s h, f60_eq s h, runLen_all, low_all]
  cases hs : (!(s == ([] : List UInt8)) && decide ((s.length : Int) ≤ 12)) with
  | false => simp
  | true =>
    have hpos : (0 : Int) < (s.length : Int) := by
      cases s with
      | nil => simp at hs
      | cons b r => simp
    simp only [cond_true, if_pos hpos, cond_and, Option.bind_some, Bool.true_and, byteI]
    cases isLetterI ((((s.getD 0 0).toNat : Nat)) : Int) <;> simp

theorem f40_eq (s : List UInt8) (h : s.length ≤ maxLen) : f40 s = some (nameOk s) := by
  have hl := iter_list s h (fun i => f40_b1 s i) (fun r _ => if r.all innerB then (Out.go () : Out Bool Unit) else Out.ret false) ?_ ?_
  · unfold f40 nameOk
    rw [hl, cond_or]
    simp only [Option.bind_some]
    cases s with
    | nil => simp
    | cons b r =>
      have hpos : (0 : Int) < ((b :: r).length : Int) := by simp
      simp only [if_pos hpos, cond_or, Option.bind_some, List.getD_cons_zero]
      have e : ((b :: r) == ([] : List UInt8)) = false := rfl
      rw [e]
      cases hin : (b :: r).all innerB with
      | false =>
        have key : ∀ q : Bool, (cond q (some false) (some false) : Option Bool) = some false := fun q => by cases q <;> rfl
        simp only [Bool.false_and, Bool.and_false, Bool.false_eq_true, if_false, Option.bind_some, key]
      | true =>
        have hb : innerB b = true := by simp only [List.all_cons, Bool.and_eq_true] at hin; exact hin.1
        have hlet : isLetterI (byteI b) = (!decide (((b.toNat : Nat) : Int) < 97) && !decide (((b.toNat : Nat) : Int) > 122)) := by
          simp only [innerB, isUpperI, Bool.and_eq_true, Bool.not_eq_true', Bool.and_eq_false_iff, decide_eq_false_iff_not] at hb
          have h2 := hb.2
          rw [Bool.eq_iff_iff]
          simp only [isLetterI, Bool.or_eq_true, Bool.and_eq_true, decide_eq_true_eq, Bool.not_eq_true', decide_eq_false_iff_not]
          simp only [byteI] at h2 ⊢
          omega
        rw [hlet]
        have hd : decide (((b :: r).length : Int) ≤ 12) = !decide (((b :: r).length : Int) > 12) := by
          rw [Bool.eq_iff_iff]; simp only [decide_eq_true_eq, Bool.not_eq_true', decide_eq_false_iff_not]; omega
        rw [hd]
        simp only [if_true, Bool.true_and, byteI, Bool.false_or, Bool.not_false]
        cases decide (((b :: r).length : Int) > 12) <;> cases decide (((b.toNat : Nat) : Int) < 97) <;> cases decide (((b.toNat : Nat) : Int) > 122) <;> rfl
  · intro i x r hi hx _
    have h1 : (0 : Int) ≤ i ∧ (i : Int) < (s.length : Int) := ⟨by omega, by omega⟩
    have hx' : s.getD i 0 = x := hx
    simp only [f40_b1, Int.toNat_natCast, hx', h1, and_self, if_true, decide_true, cond_true, f61_eq, Option.bind_some, cond_and, cond_or]
    have : (!isPartI ((x.toNat : Nat) : Int) || (decide (((x.toNat : Nat) : Int) ≥ 65) && decide (((x.toNat : Nat) : Int) ≤ 90))) = !innerB x := by
      simp only [innerB, byteI, isUpperI]
      cases isPartI ((x.toNat : Nat) : Int) <;> simp <;> rfl
    rw [this]
    cases hb : innerB x with
    | true => right; simp [hb]
    | false => left; simp [hb]
  · simp [f40_b1]

end Go.Sx.gen
