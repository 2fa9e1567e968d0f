/- Plain laws of the printed functions: the statement on pairs; no condition. -/
import Derived.Test.YtpkoebbjnfpifaaGxP7
namespace Go.Sx.gen
open Go Go.Sx

theorem Short.len {s : T31} (h : Short s) : s.f1.length ≤ maxLen := by
  have := h.2
  have : (100 : Nat) ≤ maxLen := by decide
  omega

def bad (a b : T31) : Bool := !valid a || !valid b

theorem bad_false {a b : T31} (h : bad a b = false) : valid a = true ∧ valid b = true := by
  simp only [bad, Bool.or_eq_false_iff, Bool.not_eq_false'] at h
  exact h

def ambAns (a b : T31) : Bool × Int := cond (bad a b) (false, 2) (ambB a b, 0)

theorem cond_dep {A : Type} {p : Bool} {x : Option A} {u v : A} (h : p = false → x = some v) : cond p (some u) x = some (cond p u v) := by
  cases p with
  | true => rfl
  | false => exact h rfl

theorem f21_eq (a b : T31) (ha : Short a) (hb : Short b) : f21 a b = some (ambAns a b) := by
  unfold f21 ambAns
  rw [f19_eq a ha.1 ha.len, f19_eq b hb.1 hb.len]
  simp only [Option.bind_some, cond_or]
  refine cond_dep fun h => ?_
  obtain ⟨va, vb⟩ := bad_false h
  rw [f41_eq a b ha hb va vb]
  rfl

theorem f22_eq (a b : T31) (ha : Short a) (hb : Short b) : f22 a b = some (ambAns a b) := by
  unfold f22 ambAns
  rw [f20_eq a ha.1 ha.len, f20_eq b hb.1 hb.len, ← valid_eq, ← valid_eq]
  simp only [Option.bind_some, cond_or]
  refine cond_dep fun h => ?_
  obtain ⟨va, vb⟩ := bad_false h
  rw [f42_eq a b ha hb va]
  rfl

def witAns (a b : T31) : List T48 × Int := cond (bad a b) ([], 2) (cond (!(witB a b).2) ([], 5) ((witB a b).1, 0))

theorem f23_eq (a b : T31) (ha : Short a) (hb : Short b) : f23 a b = some (witAns a b) := by
  unfold f23 witAns
  rw [f19_eq a ha.1 ha.len, f19_eq b hb.1 hb.len]
  simp only [Option.bind_some, cond_or]
  refine cond_dep fun h => ?_
  obtain ⟨va, vb⟩ := bad_false h
  rw [f43_eq a b ha hb]
  obtain ⟨w1, w2, _⟩ := wit_ok a b va vb
  simp only [Option.bind_some, cond_some, w1]
  rcases Bool.eq_false_or_eq_true (witB a b).2 with hw | hw
  · rw [hw]; simp only [Bool.not_true, cond_false, w2 (w1.trans hw)]
  · rw [hw]; rfl

theorem f24_eq (a b : T31) (ha : Short a) (hb : Short b) : f24 a b = some (witAns a b) := by
  unfold f24 witAns
  rw [f20_eq a ha.1 ha.len, f20_eq b hb.1 hb.len, ← valid_eq, ← valid_eq]
  simp only [Option.bind_some, cond_or]
  refine cond_dep fun h => ?_
  obtain ⟨va, vb⟩ := bad_false h
  rw [f44_eq a b ha hb (most_le va)]
  simp only [Option.bind_some, cond_some]

theorem f25_refl (l : List T48) (h : l.length ≤ maxLen) : f25 l l = some true := by
  have := iter_list l h (fun i => f25_b1 l l i) (fun _ _ => (Out.go () : Out Bool Unit)) ?_ ?_
  · unfold f25
    rw [this]
    simp
  · intro i x r hi hx _
    have h1 : (0 : Int) ≤ i ∧ (i : Int) < (l.length : Int) ∧ (0 : Int) ≤ i ∧ (i : Int) < (l.length : Int) := ⟨by omega, by omega, by omega, by omega⟩
    have hd : decide ((i : Int) < (l.length : Int)) = true := by simpa using hi
    right
    simp only [f25_b1, Int.toNat_natCast, hx, hd, cond_true, h1, and_self, if_true, decide_true, beq_self_eq_true, Bool.and_self, Bool.not_true, cond_false]
  · simp [f25_b1]

theorem valid_dummy {s : T31} (h : valid s = true) {i : Nat} (hi : i < s.f1.length) : dummyOk (s.f1.getD i default) (-1) = true := by
  simp only [valid, okFrom_split, Bool.and_eq_true, List.all_eq_true] at h
  have := h.2.1 (s.f1.getD i default) (by rw [List.getD_eq_getElem?_getD, List.getElem?_eq_getElem hi]; exact List.getElem_mem hi)
  simp only [q1, Bool.and_eq_true] at this
  exact this.1

theorem callOk_firstN {a b : T31} (va : valid a = true) (vb : valid b = true) {n : Nat} (hn : n ≤ most a b) : callOk (firstN a b n) = true := by
  have h8 := most_le (b := b) va
  simp only [callOk, Bool.and_eq_true, decide_eq_true_eq, List.all_eq_true, firstN_length]
  refine ⟨by omega, fun c hc => ?_⟩
  simp only [firstN, List.mem_map, List.mem_range] at hc
  obtain ⟨i, hi, rfl⟩ := hc
  have h1 := valid_dummy va (i := i) (by unfold most at hn; omega)
  have h2 := valid_dummy vb (i := i) (by unfold most at hn; omega)
  simp only [dummyOk, Bool.and_eq_true, decide_eq_true_eq] at h1 h2 ⊢
  have hr := rk_nonneg (a.f1.getD i default).f1 (b.f1.getD i default).f1
  refine ⟨⟨⟨h1.1.1.1, h1.1.1.2⟩, hr⟩, ?_⟩
  show rk _ _ ≤ 3
  unfold rk
  split
  · omega
  · split <;> omega

theorem short_of_long {l : List T31} (h : long l = false) {s : T31} (hs : s ∈ l) : s.f1.length ≤ 100 ∧ s.f0.length ≤ 100 := by
  simp only [long, Bool.or_eq_false_iff, List.any_eq_false] at h
  have := h.1 s hs
  simp only [longOne, Bool.or_eq_true, decide_eq_true_eq, not_or] at this
  omega

theorem short_of {l : List T31} (h : long l = false) {s : T31} (hs : s ∈ l) : Short s := by
  obtain ⟨h1, h2⟩ := short_of_long h hs
  have : (100 : Nat) ≤ maxLen := by decide
  exact ⟨by omega, h1⟩

namespace Pure
theorem GenericPairs : LawGenericPairs := by
  intro a b _ _
  unfold f7
  rw [f10_eq [a, b] (show 2 ≤ maxLen by decide), awake]
  simp only [Option.bind_some]
  rcases Bool.eq_false_or_eq_true (long [a, b]) with hl | hl
  · rw [hl]; rfl
  · rw [hl]
    have ha := short_of hl (s := a) (by simp)
    have hb := short_of hl (s := b) (by simp)
    have hlen : (witAns a b).1.length ≤ maxLen := by
      have : ∀ n, n ≤ 100 → n ≤ maxLen := by have : (100 : Nat) ≤ maxLen := by decide
                                             omega
      apply this
      unfold witAns
      cases bad a b with
      | true => simp
      | false =>
        unfold witB
        split
        · rename_i h
          simp only [Bool.not_true, cond_false, firstN_length]
          have := ha.2
          have := h.1
          unfold most at this; omega
        · simp
    simp only [cond_false, f21_eq a b ha hb, f22_eq a b ha hb, f23_eq a b ha hb, f24_eq a b ha hb, Option.bind_some, beq_self_eq_true, Bool.not_true, bne_self_eq_false, f25_refl _ hlen]
    rcases Bool.eq_false_or_eq_true ((witAns a b).2 != (0 : Int)) with h0 | h0
    · simp only [h0, cond_true]
    · simp only [h0, cond_false]
      have hbad : bad a b = false := by
        cases hb' : bad a b with
        | false => rfl
        | true => simp [witAns, hb'] at h0
      obtain ⟨va, vb⟩ := bad_false hbad
      have hw : (witB a b).2 = true := by
        cases hw' : (witB a b).2 with
        | true => rfl
        | false => simp [witAns, hbad, hw'] at h0
      have hcond : needs a b ≤ most a b ∧ fitsAt fits2 a b (needs a b) = true := by
        unfold witB at hw
        split at hw
        · assumption
        · cases hw
      have he : (witAns a b).1 = firstN a b (needs a b) := by
        simp only [witAns, hbad, hw, Bool.not_true, cond_false]
        unfold witB
        rw [if_pos hcond]
      have hfa : fitsAt fits1 a b (needs a b) = true := by rw [fitsAt_eq va vb]; exact hcond.2
      simp only [fitsAt, Bool.and_eq_true] at hfa
      have hc := callOk_firstN va vb hcond.1
      rw [he]
      have hl1 : (firstN a b (needs a b)).length ≤ maxLen := by rw [← he]; exact hlen
      rw [f14_eq a _ ha.1 ha.len hl1, f14_eq b _ hb.1 hb.len hl1]
      simp only [fitsAns, va, vb, hc, hfa.1, hfa.2]
      rfl
end Pure
end Go.Sx.gen
