/- Plain laws of the printed functions: the statement on checks; no condition. -/
import Derived.Test.YtpkoebbjnfpifaaGxP10
namespace Go.Sx.gen
open Go Go.Sx

def checkAns (l : List T31) : Int × Int × Int :=
  cond (!isListB l) (0, 0, 2) (cond (pairOf (pairFrom l l 0)).2.2 ((pairOf (pairFrom l l 0)).1, (pairOf (pairFrom l l 0)).2.1, 8) (0, 0, 0))

theorem small_of {l : List T31} (hl : l.length ≤ maxLen) (hs : ∀ s ∈ l, Short s) : Small l := ⟨hl, fun s h => ⟨(hs s h).1, (hs s h).len⟩⟩

theorem f17_eq (l : List T31) (hl : l.length ≤ maxLen) (hs : ∀ s ∈ l, Short s) : f17 l = some (checkAns l) := by
  unfold f17 checkAns
  rw [f29_eq l (small_of hl hs)]
  simp only [Option.bind_some]
  refine cond_dep fun h => ?_
  rw [f31_eq l hl (allOk_of hs (by simpa using h))]
  simp only [Option.bind_some, cond_some]

theorem f18_eq (l : List T31) (hl : l.length ≤ maxLen) (hs : ∀ s ∈ l, Short s) : f18 l = some (checkAns l) := by
  unfold f18 checkAns
  rw [f34_eq l (small_of hl hs)]
  simp only [Option.bind_some]
  refine cond_dep fun h => ?_
  rw [f36_eq l hl (allOk_of hs (by simpa using h))]
  simp only [Option.bind_some, cond_some]

namespace Pure
theorem GenericChecks : LawGenericChecks := by
  intro l hl0
  have hl : l.length ≤ maxLen := hl0.1
  unfold f5
  rw [f10_eq l hl, awake]
  simp only [Option.bind_some]
  rcases Bool.eq_false_or_eq_true (long l) with h | h
  · rw [h]; rfl
  · rw [h]
    have hs : ∀ s ∈ l, Short s := fun s hm => short_of h hm
    have hloop : iter (fun s => f5_b1 l s) 0 = some (Out.go ()) := by
      refine iter_list l hl (fun s => f5_b1 l s) (fun _ _ => (Out.go () : Out Bool Unit)) ?_ ?_
      · intro i x r hi hx _
        have h1 : (0 : Int) ≤ i ∧ (i : Int) < (l.length : Int) ∧ (0 : Int) ≤ i ∧ (i : Int) < (l.length : Int) := ⟨by omega, by omega, by omega, by omega⟩
        have hd : decide ((i : Int) < (l.length : Int)) = true := by simpa using hi
        have hg := (small_of hl hs).get hi hx
        right
        simp only [f5_b1, hd, cond_true]
        rw [if_pos h1]
        simp only [Int.toNat_natCast, hx, f19_eq x hg.1 hg.2, f20_eq x hg.1 hg.2, ← valid_eq, Option.bind_some, beq_self_eq_true, Bool.not_true, cond_false, and_self]
      · simp [f5_b1]
    simp only [cond_false, f17_eq l hl hs, f18_eq l hl hs, Option.bind_some, hloop, beq_self_eq_true, cond_true]
end Pure
end Go.Sx.gen
