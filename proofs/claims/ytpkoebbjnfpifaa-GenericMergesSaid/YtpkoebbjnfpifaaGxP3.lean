/- Plain laws of the printed functions; no condition. -/
import Derived.Test.YtpkoebbjnfpifaaGxP2
namespace Go.Sx.gen
open Go Go.Sx

/-- How many arguments stand ahead of the first that may be left out. -/
def leastOf : List T48 → Nat
  | [] => 0
  | d :: r => cond d.f2 0 (leastOf r + 1)

theorem leastOf_le : ∀ l, leastOf l ≤ l.length
  | [] => Nat.le_refl _
  | d :: r => by
    have := leastOf_le r
    simp only [leastOf, List.length_cons]
    cases d.f2 <;> simp <;> omega

theorem findFrom_least : ∀ (l : List T48) (i : Nat), findFrom (fun d => d.f2) l i = if leastOf l < l.length then some (i + leastOf l) else none
  | [], i => rfl
  | d :: r, i => by
    simp only [findFrom, leastOf, List.length_cons]
    by_cases hd : d.f2 = true
    · simp [hd]
    · simp only [hd, if_false, Bool.false_eq_true]
      rw [findFrom_least r (i + 1)]
      by_cases h : leastOf r < r.length
      · simp [h]; omega
      · simp [h]

theorem f55_eq (s : T31) (h : s.f1.length ≤ maxLen) : f55 s = some ((leastOf s.f1 : Nat) : Int) := by
  unfold f55 f65_66
  rw [index_eq s.f1 h f66 (fun d => d.f2) (fun _ => rfl) (fun q => f65_66_b1 s.f1 q) (fun i => rfl), findFrom_least]
  by_cases hl : leastOf s.f1 < s.f1.length
  · simp only [hl, if_true, outOf, Option.bind_some, Nat.zero_add]
    rw [show decide (((leastOf s.f1 : Nat) : Int) ≥ 0) = true from by simp]
    rfl
  · have := leastOf_le s.f1
    have e : leastOf s.f1 = s.f1.length := by omega
    rw [if_neg hl]
    simp only [outOf, Option.bind_some, e]
    rfl

theorem f56_eq (s : T31) (h : s.f1.length ≤ maxLen) : f56 s = some ((leastOf s.f1 : Nat) : Int) := by
  have hl := iter_list s.f1 h (fun i => f56_b1 s i) (fun r i => (Out.go ((i + leastOf r : Nat) : Int) : Out Int Int)) ?_ ?_
  · unfold f56
    rw [hl]
    simp
  · intro i x r hi hx _
    have h1 : (0 : Int) ≤ i ∧ (i : Int) < (s.f1.length : Int) := ⟨by omega, by omega⟩
    simp only [f56_b1, Int.toNat_natCast, hx, h1, and_self, if_true, decide_true, cond_true, Option.bind_some]
    cases hb : x.f2 with
    | true => left; simp [leastOf, hb]
    | false => right; simp [leastOf, hb]; omega
  · simp [f56_b1, leastOf]

def fits1 (ds : List T48) : List T48 → Nat → Int → Bool
  | [], _, _ => true
  | c :: r, i, k =>
    cond ((c.f0 != (ds.getD i default).f0) || (((ds.getD i default).f1 != (-1 : Int)) && (c.f1 != (ds.getD i default).f1))) false
      (cond (((ds.getD i default).f1 != (-1 : Int)) || (c.f1 == (0 : Int))) (fits1 ds r (i + 1) k)
        (cond (decide (k > 0) && (k != c.f1)) false (fits1 ds r (i + 1) c.f1)))

def fits2 (ds : List T48) : List T48 → Nat → Int → Bool
  | [], _, _ => true
  | c :: r, i, k =>
    cond (((ds.getD i default).f0 != c.f0) || (decide ((ds.getD i default).f1 ≥ 0) && ((ds.getD i default).f1 != c.f1))) false
      (cond (decide ((ds.getD i default).f1 < 0) && decide (c.f1 > 0)) (cond (decide (k > 0) && (k != c.f1)) false (fits2 ds r (i + 1) c.f1)) (fits2 ds r (i + 1) k))

def fitsB (F : List T48 → List T48 → Nat → Int → Bool) (s : T31) (l : List T48) : Bool :=
  cond (decide ((l.length : Int) < ((leastOf s.f1 : Nat) : Int)) || decide ((l.length : Int) > (s.f1.length : Int))) false (F s.f1 l 0 0)

theorem f33_eq (s : T31) (l : List T48) (h : s.f1.length ≤ maxLen) (h' : l.length ≤ maxLen) : f33 s l = some (fitsB fits1 s l) := by
  unfold f33 fitsB
  rw [f55_eq s h]
  simp only [Option.bind_some, cond_or]
  rcases Bool.eq_false_or_eq_true (decide ((l.length : Int) < ((leastOf s.f1 : Nat) : Int)) || decide ((l.length : Int) > (s.f1.length : Int))) with hb | hb
  · rw [hb]; rfl
  · rw [hb]
    have hle : l.length ≤ s.f1.length := by
      simp only [Bool.or_eq_false_iff, decide_eq_false_iff_not] at hb
      omega
    simp only [cond_false]
    have hl := iter_listS l h' (fun q => f33_b2 s l q.1 q.2) (fun r i b => cond (fits1 s.f1 r i b) (Out.go () : Out Bool Unit) (Out.ret false)) ?_ ?_ 0
    · rw [hl]
      cases fits1 s.f1 l 0 0 <;> rfl
    · intro i c r b hi hx _
      have h1 : (0 : Int) ≤ i ∧ (i : Int) < (l.length : Int) := ⟨by omega, by omega⟩
      have h2 : (i : Int) < (s.f1.length : Int) := by omega
      simp only [f33_b2, f33_j1, Int.toNat_natCast, hx, h1, h2, and_self, if_true, decide_true, cond_true, Option.bind_some, cond_and, cond_or, fits1]
      generalize (s.f1.getD i default) = d
      cases (c.f0 != d.f0 || (d.f1 != (-1 : Int) && c.f1 != d.f1))
      · cases (d.f1 != (-1 : Int) || c.f1 == (0 : Int))
        · cases (decide (b > 0) && b != c.f1)
          · right; exact ⟨c.f1, by simp, by simp⟩
          · left; simp
        · right; exact ⟨b, by simp, by simp⟩
      · left; simp
    · intro b; simp [f33_b2, fits1]

theorem f37_eq (s : T31) (l : List T48) (h : s.f1.length ≤ maxLen) (h' : l.length ≤ maxLen) : f37 s l = some (fitsB fits2 s l) := by
  unfold f37 fitsB
  rw [f56_eq s h]
  simp only [Option.bind_some, cond_or]
  rcases Bool.eq_false_or_eq_true (decide ((l.length : Int) < ((leastOf s.f1 : Nat) : Int)) || decide ((l.length : Int) > (s.f1.length : Int))) with hb | hb
  · rw [hb]; rfl
  · rw [hb]
    have hle : l.length ≤ s.f1.length := by
      simp only [Bool.or_eq_false_iff, decide_eq_false_iff_not] at hb
      omega
    simp only [cond_false]
    have hl := iter_listS l h' (fun q => f37_b2 s l q.1 q.2) (fun r i b => cond (fits2 s.f1 r i b) (Out.go () : Out Bool Unit) (Out.ret false)) ?_ ?_ 0
    · rw [hl]
      cases fits2 s.f1 l 0 0 <;> rfl
    · intro i c r b hi hx _
      have h1 : (0 : Int) ≤ i ∧ (i : Int) < (l.length : Int) := ⟨by omega, by omega⟩
      have h2 : (0 : Int) ≤ i ∧ (i : Int) < (s.f1.length : Int) := ⟨by omega, by omega⟩
      simp only [f37_b2, f37_j1, Int.toNat_natCast, hx, h1, h2, and_self, if_true, decide_true, cond_true, Option.bind_some, cond_and, cond_or, fits2]
      rcases Bool.eq_false_or_eq_true (((s.f1.getD i default).f0 != c.f0) || (decide ((s.f1.getD i default).f1 ≥ 0) && ((s.f1.getD i default).f1 != c.f1))) with e1 | e1
      · left; simp only [e1, cond_true, cond_false]
      · rcases Bool.eq_false_or_eq_true (decide ((s.f1.getD i default).f1 < 0) && decide (c.f1 > 0)) with e2 | e2
        · rcases Bool.eq_false_or_eq_true (decide (b > 0) && b != c.f1) with e3 | e3
          · left; simp only [e1, e2, e3, cond_true, cond_false]
          · right; exact ⟨c.f1, by simp only [e1, e2, e3, cond_true, cond_false], by simp only [e1, e2, e3, cond_true, cond_false]⟩
        · right; exact ⟨b, by simp only [e1, e2, cond_true, cond_false], by simp only [e1, e2, cond_true, cond_false]⟩
    · intro b; simp [f37_b2, fits2]

theorem fits_eq (ds : List T48) (ha : ∀ d ∈ ds, d.f1 ≥ -1) : ∀ (l : List T48) (i : Nat) (k : Int), (∀ c ∈ l, c.f1 ≥ 0) → i + l.length ≤ ds.length → fits1 ds l i k = fits2 ds l i k
  | [], _, _, _, _ => rfl
  | c :: r, i, k, hc, hi => by
    have hlt : i < ds.length := by simp only [List.length_cons] at hi; omega
    have hd : (ds.getD i default).f1 ≥ -1 := by
      rw [List.getD_eq_getElem?_getD, List.getElem?_eq_getElem hlt]
      exact ha _ (List.getElem_mem hlt)
    have hc0 := hc c (by simp)
    have ih := fun k => fits_eq ds ha r (i + 1) k (fun x hx => hc x (by simp [hx])) (by simp only [List.length_cons] at hi; omega)
    simp only [fits1, fits2, ih]
    generalize (ds.getD i default) = d at hd
    have e1 : (d.f1 != (-1 : Int)) = decide (d.f1 ≥ 0) := by
      rw [Bool.eq_iff_iff]; simp only [bne_iff_ne, decide_eq_true_eq]; omega
    have e2 : (c.f1 == (0 : Int)) = !decide (c.f1 > 0) := by
      rw [Bool.eq_iff_iff]; simp only [beq_iff_eq, Bool.not_eq_true', decide_eq_false_iff_not]; omega
    have e3 : decide (d.f1 < 0) = !decide (d.f1 ≥ 0) := by
      rw [Bool.eq_iff_iff]; simp only [decide_eq_true_eq, Bool.not_eq_true', decide_eq_false_iff_not]; omega
    have e4 : (d.f0 != c.f0) = (c.f0 != d.f0) := bne_comm
    have e5 : (d.f1 != c.f1) = (c.f1 != d.f1) := bne_comm
    rw [e1, e2, e3, e4, e5]
    cases (c.f0 != d.f0) <;> cases decide (d.f1 ≥ 0) <;> cases (c.f1 != d.f1) <;> cases decide (c.f1 > 0) <;> rfl

end Go.Sx.gen
