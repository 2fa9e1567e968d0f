/- Functions with so many rounds for each loop, which can be reckoned; no condition. -/
import Derived.Test.YtpkoebbjnfpifaaSxEq
namespace Go.Sx
open Go

/-- Where x tells something, y tells the same. -/
def Le {A : Type} (x y : Option A) : Prop := ∀ r, x = some r → y = some r

theorem Le.refl {A : Type} (x : Option A) : Le x x := fun _ h => h

theorem Le.bind {A B : Type} {x y : Option A} {f g : A → Option B} (h : Le x y) (hf : ∀ a, Le (f a) (g a)) : Le (x.bind f) (y.bind g) := fun r hr => by
  obtain ⟨a, ha, hb⟩ := Option.bind_eq_some_iff.1 hr
  exact Option.bind_eq_some_iff.2 ⟨a, h a ha, hf a r hb⟩

theorem Le.cond {A : Type} {b : Bool} {x y x' y' : Option A} (h : Le x x') (h' : Le y y') : Le (cond b x y) (cond b x' y') := by
  cases b
  · exact h'
  · exact h

theorem Le.ite {A : Type} {p : Prop} [Decidable p] {x x' : Option A} (h : Le x x') : Le (if p then x else none) (if p then x' else none) := by
  by_cases hp : p
  · simp only [if_pos hp]; exact h
  · simp only [if_neg hp]; exact Le.refl _

theorem rounds_mono {S X : Type} {b b' : S → Option (S ⊕ X)} (h : ∀ s, Le (b s) (b' s)) : ∀ (n : Nat) (s : S) (x : X), rounds b n s = some x → rounds b' n s = some x
  | 0, _, _, hx => by cases hx
  | n + 1, s, x, hx => by
    simp only [rounds] at hx ⊢
    cases hb : b s with
    | none => rw [hb] at hx; cases hx
    | some o =>
      rw [hb] at hx
      rw [h s o hb]
      cases o with
      | inl s' => exact rounds_mono h n s' x hx
      | inr y => exact hx

/-- So many rounds. -/
abbrev itN {S X : Type} (n : Nat) (b : S → Option (S ⊕ X)) (s : S) : Option X := rounds b n s

theorem Le.iter {S X : Type} {b b' : S → Option (S ⊕ X)} {n : Nat} {s : S} (h : ∀ s, Le (b s) (b' s)) : Le (rounds b n s) (iter b' s) := fun x hx => iter_some.2 ⟨n, rounds_mono h n s x hx⟩

end Go.Sx
