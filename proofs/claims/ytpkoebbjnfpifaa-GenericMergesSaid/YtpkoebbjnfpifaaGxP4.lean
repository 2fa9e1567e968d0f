/- Plain laws of the printed functions; no condition. -/
import Derived.Test.YtpkoebbjnfpifaaGxP3
namespace Go.Sx.gen
open Go Go.Sx

def fitsAns (v : Bool) (F : List T48 → List T48 → Nat → Int → Bool) (s : T31) (l : List T48) : Bool × Int :=
  cond (!v || !callOk l) (false, 2) (fitsB F s l, 0)

theorem f14_eq (s : T31) (l : List T48) (h0 : s.f0.length ≤ maxLen) (h : s.f1.length ≤ maxLen) (h' : l.length ≤ maxLen) : f14 s l = some (fitsAns (valid s) fits1 s l) := by
  simp only [f14, f19_eq s h0 h, f30_eq l h', f33_eq s l h h', Option.bind_some, cond_or, cond_some, fitsAns]
  cases valid s <;> rfl

theorem f16_eq (s : T31) (l : List T48) (h0 : s.f0.length ≤ maxLen) (h : s.f1.length ≤ maxLen) (h' : l.length ≤ maxLen) : f16 s l = some (fitsAns (valid2 s) fits2 s l) := by
  simp only [f16, f20_eq s h0 h, f35_eq l h', f37_eq s l h h', Option.bind_some, cond_or, cond_some, fitsAns]
  cases valid2 s <;> rfl

theorem valid_rank {s : T31} (h : valid s = true) : ∀ d ∈ s.f1, d.f1 ≥ -1 := by
  intro d hd
  simp only [valid, okFrom_split, Bool.and_eq_true, List.all_eq_true] at h
  have := h.2.1 d hd
  simp only [q1, dummyOk, Bool.and_eq_true, decide_eq_true_eq] at this
  exact this.1.1.2

theorem callOk_rank {l : List T48} (h : callOk l = true) : ∀ c ∈ l, c.f1 ≥ 0 := by
  intro c hc
  simp only [callOk, Bool.and_eq_true, List.all_eq_true] at h
  have := h.2 c hc
  simp only [dummyOk, Bool.and_eq_true, decide_eq_true_eq] at this
  exact this.1.2

theorem fitsB_eq {s : T31} {l : List T48} (hs : valid s = true) (hl : ∀ c ∈ l, c.f1 ≥ 0) : fitsB fits1 s l = fitsB fits2 s l := by
  unfold fitsB
  rcases Bool.eq_false_or_eq_true (decide ((l.length : Int) < ((leastOf s.f1 : Nat) : Int)) || decide ((l.length : Int) > (s.f1.length : Int))) with hb | hb
  · rw [hb]; rfl
  · rw [hb]
    have hle : l.length ≤ s.f1.length := by
      simp only [Bool.or_eq_false_iff, decide_eq_false_iff_not] at hb
      omega
    exact fits_eq s.f1 (valid_rank hs) l 0 0 hl (by omega)

theorem fitsAns_eq (s : T31) (l : List T48) : fitsAns (valid s) fits1 s l = fitsAns (valid2 s) fits2 s l := by
  unfold fitsAns
  rw [← valid_eq]
  rcases Bool.eq_false_or_eq_true (valid s) with hs | hs
  · rcases Bool.eq_false_or_eq_true (callOk l) with hl | hl
    · rw [fitsB_eq hs (callOk_rank hl)]
    · rw [hl, hs]; rfl
  · rw [hs]; rfl

theorem pair_beq (x : Bool × Int) : (x.1 == x.1) = true ∧ (x.2 == x.2) = true := ⟨by simp, by simp⟩

namespace Pure
theorem GenericFits : LawGenericFits := by
  intro s l hs hl
  have h0 := hs.1
  have h1 := hs.2.1.1
  have h2 := hl.1
  unfold f4
  rw [f10_eq [s] (show 1 ≤ maxLen by decide), f14_eq s l h0 h1 h2, f16_eq s l h0 h1 h2, ← fitsAns_eq, awake]
  simp only [Option.bind_some, cond_or, beq_self_eq_true, cond_true]
  cases (long [s] || decide ((l.length : Int) > 100)) <;> rfl
end Pure
end Go.Sx.gen
