/- Plain laws of the printed functions: which specific is meant; no condition. -/
import Derived.Test.YtpkoebbjnfpifaaGxP11
namespace Go.Sx.gen
open Go Go.Sx

def takesIt (call : List T48) (t : Bool) (s : T31) : Bool := (elem s == t) && fitsB fits2 s call

def outPick : Option Nat → Out (Int × Int) Unit
  | some i => .ret ((i : Int), 0)
  | none => .go ()

theorem f12_in (l : List T31) (hl : l.length ≤ maxLen) (ok : AllOk l) (call : List T48) (hc : call.length ≤ maxLen) (hr : ∀ c ∈ call, c.f1 ≥ 0) (v7 : Int) (t : Bool) (ht : [false, true].getD v7.toNat default = t) :
    iter (fun s => f12_b1 l call v7 s) 0 = some (outPick (findFrom (takesIt call t) l 0)) := by
  refine iter_list l hl (fun s => f12_b1 l call v7 s) (fun r i => outPick (findFrom (takesIt call t) r i)) ?_ ?_
  · intro i x r hi hx _
    have h1 : (0 : Int) ≤ i ∧ (i : Int) < (l.length : Int) := ⟨by omega, by omega⟩
    have hd : decide ((i : Int) < (l.length : Int)) = true := by simpa using hi
    have o := ok.get hi
    rw [hx] at o
    simp only [f12_b1, hd, cond_true]
    rw [if_pos h1]
    simp only [Int.toNat_natCast, hx, f32_eq x o.1.len, valid_elem o.2, f33_eq x call o.1.len hc, fitsB_eq o.2 hr, ht, Option.bind_some, cond_and]
    by_cases hp : takesIt call t x = true
    · left
      have hp2 : (elem x == t && fitsB fits2 x call) = true := hp
      simp only [hp2, cond_true, findFrom, hp, if_true, outPick]
    · right
      have hp' : takesIt call t x = false := by simpa using hp
      have hp2 : (elem x == t && fitsB fits2 x call) = false := hp'
      simp only [hp2, cond_false, findFrom, hp', if_false, Bool.false_eq_true, and_self]
  · simp [f12_b1, findFrom, outPick]

theorem f13_in (l : List T31) (hl : l.length ≤ maxLen) (ok : AllOk l) (call : List T48) (hc : call.length ≤ maxLen) (v7 : Int) (t : Bool) (ht : (v7 == (1 : Int)) = t) :
    iter (fun s => f13_b1 l call v7 s) 0 = some (outPick (findFrom (takesIt call t) l 0)) := by
  refine iter_list l hl (fun s => f13_b1 l call v7 s) (fun r i => outPick (findFrom (takesIt call t) r i)) ?_ ?_
  · intro i x r hi hx _
    have h1 : (0 : Int) ≤ i ∧ (i : Int) < (l.length : Int) := ⟨by omega, by omega⟩
    have hd : decide ((i : Int) < (l.length : Int)) = true := by simpa using hi
    have o := ok.get hi
    rw [hx] at o
    simp only [f13_b1, hd, cond_true]
    rw [if_pos h1]
    simp only [Int.toNat_natCast, hx, f15_eq, f37_eq x call o.1.len hc, ht, Option.bind_some, if_pos h1, cond_and]
    by_cases hp : takesIt call t x = true
    · left
      have hp2 : (elem x == t && fitsB fits2 x call) = true := hp
      simp only [hp2, cond_true, findFrom, hp, if_true, outPick]
    · right
      have hp' : takesIt call t x = false := by simpa using hp
      have hp2 : (elem x == t && fitsB fits2 x call) = false := hp'
      simp only [hp2, cond_false, findFrom, hp', if_false, Bool.false_eq_true, and_self]
  · simp [f13_b1, findFrom, outPick]

end Go.Sx.gen
