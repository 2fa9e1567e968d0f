/- Plain laws of the printed functions: the statement on calls; no condition. -/
import Derived.Test.YtpkoebbjnfpifaaGxP13
namespace Go.Sx.gen
open Go Go.Sx

def numOf : Out (Int × Int) Unit → Int × Int
  | .ret v => v
  | .go _ => (0, 5)

def resAns (l : List T31) (call : List T48) : Int × Int :=
  cond (!isListB l || !callOk call) (0, 2) (cond (pairOf (pairFrom l l 0)).2.2 (0, 8) (numOf (pick2 l call)))

theorem f12_eq (l : List T31) (hl : l.length ≤ maxLen) (hs : ∀ s ∈ l, Short s) (call : List T48) (hc : call.length ≤ maxLen) : f12 l call = some (resAns l call) := by
  unfold f12 resAns
  rw [f29_eq l (small_of hl hs), f30_eq call hc]
  simp only [Option.bind_some, cond_or]
  refine cond_dep fun h => ?_
  simp only [Bool.or_eq_false_iff, Bool.not_eq_false'] at h
  have ok := allOk_of hs h.1
  rw [f31_eq l hl ok]
  simp only [Option.bind_some]
  refine cond_dep fun _ => ?_
  rw [f12_out l hl ok call hc (callOk_rank h.2)]
  cases pick2 l call <;> rfl

theorem f13_eq (l : List T31) (hl : l.length ≤ maxLen) (hs : ∀ s ∈ l, Short s) (call : List T48) (hc : call.length ≤ maxLen) : f13 l call = some (resAns l call) := by
  unfold f13 resAns
  rw [f34_eq l (small_of hl hs), f35_eq call hc]
  simp only [Option.bind_some, cond_or]
  refine cond_dep fun h => ?_
  simp only [Bool.or_eq_false_iff, Bool.not_eq_false'] at h
  have ok := allOk_of hs h.1
  rw [f36_eq l hl ok]
  simp only [Option.bind_some]
  refine cond_dep fun _ => ?_
  rw [f13_out l hl ok call hc]
  cases pick2 l call <;> rfl

theorem findFrom_some {A : Type} [Inhabited A] {p : A → Bool} : ∀ {l : List A} {i k : Nat}, findFrom p l i = some k → i ≤ k ∧ k < i + l.length ∧ p (l.getD (k - i) default) = true
  | [], _, _, h => by cases h
  | x :: r, i, k, h => by
    simp only [findFrom] at h
    by_cases hp : p x = true
    · rw [if_pos hp] at h
      cases h
      exact ⟨Nat.le_refl _, by simp, by simpa using hp⟩
    · rw [if_neg hp] at h
      obtain ⟨h1, h2, h3⟩ := findFrom_some h
      refine ⟨by omega, by simp only [List.length_cons]; omega, ?_⟩
      rw [show k - i = (k - (i + 1)) + 1 by omega, List.getD_cons_succ]
      exact h3

theorem findFrom_none {A : Type} [Inhabited A] {p : A → Bool} : ∀ {l : List A} {i : Nat}, findFrom p l i = none → ∀ j, j < l.length → p (l.getD j default) = false
  | [], _, _, j, hj => by simp at hj
  | x :: r, i, h, j, hj => by
    simp only [findFrom] at h
    by_cases hp : p x = true
    · rw [if_pos hp] at h; cases h
    · rw [if_neg hp] at h
      cases j with
      | zero => simpa using hp
      | succ j => rw [List.getD_cons_succ]; exact findFrom_none h j (by simpa using hj)

theorem pairFrom_none {l : List T31} : ∀ {r : List T31} {b : Nat}, (pairOf (pairFrom l r b)).2.2 = false → ∀ j, b ≤ j → j < b + r.length → firstIn l j = none
  | [], b, _, j, h1, h2 => by simp at h2; omega
  | x :: r, b, h, j, h1, h2 => by
    simp only [pairFrom] at h
    cases hf : firstIn l b with
    | some a => rw [hf] at h; cases h
    | none =>
      rw [hf] at h
      by_cases hj : j = b
      · subst hj; exact hf
      · exact pairFrom_none h j (by omega) (by simp only [List.length_cons] at h2; omega)

theorem noPair {l : List T31} (h : (pairOf (pairFrom l l 0)).2.2 = false) {a b : Nat} (hab : a < b) (hb : b < l.length) : ambB (l.getD a default) (l.getD b default) = false := by
  have hf := pairFrom_none h b (Nat.zero_le _) (by omega)
  have := findFrom_none hf a (by simp; omega)
  have hx : (l.take b).getD a default = l.getD a default := by
    simp only [List.getD_eq_getElem?_getD, List.getElem?_take, hab, if_true]
  rw [hx] at this
  exact this

theorem noTwo {l : List T31} (ok : AllOk l) (h : (pairOf (pairFrom l l 0)).2.2 = false) {call : List T48} {i j : Nat} (hi : i < l.length) (hj : j < l.length) (hne : i ≠ j)
    (fi : fitsB fits2 (l.getD i default) call = true) (fj : fitsB fits2 (l.getD j default) call = true) : elem (l.getD i default) ≠ elem (l.getD j default) := by
  intro he
  have key : ∀ a b, a < b → b < l.length → fitsB fits2 (l.getD a default) call = true → fitsB fits2 (l.getD b default) call = true → elem (l.getD a default) = elem (l.getD b default) → False := by
    intro a b hab hb fa fb he
    have oa := ok.get (i := a) (by omega)
    have ob := ok.get hb
    obtain ⟨m1, m2, m3⟩ := fitsAt_true (meets oa.2 ob.2 fa fb)
    have hw : (witB (l.getD a default) (l.getD b default)).2 = true := by unfold witB; rw [if_pos ⟨by omega, m3⟩]
    have := noPair h hab hb
    unfold ambB at this
    rw [hw, he] at this
    simp at this
  rcases Nat.lt_or_gt_of_ne hne with h1 | h1
  · exact key i j h1 hj fi fj he
  · exact key j i h1 hi fj fi he.symm

end Go.Sx.gen
