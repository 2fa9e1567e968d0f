/- Lists as slices; no condition. -/
import Derived.Test.YtpkoebbjnfpifaaSxCall3
import Derived.KernelRfl
namespace Go.Sx
open Go

/-- A list as a slice that lies still. -/
def fzL {A : Type} [Inhabited A] (z : Nat) (enc : A → List TV) (l : List A) : TV := .fz z l.length (fun i => enc (l.getD i default))
/-- A list as a slice of one's own. -/
def ownL {A : Type} [Inhabited A] (z : Nat) (e : TypeId) (enc : A → List TV) (l : List A) : TV := .own z e l.length (fun i => enc (l.getD i default))

theorem of_guard {A : Type} {p : Prop} [Decidable p] {x : Option A} {r : A} (h : (if p then x else none) = some r) : p ∧ x = some r := by
  by_cases hp : p
  · rw [if_pos hp] at h; exact ⟨hp, h⟩
  · rw [if_neg hp] at h; cases h

theorem of_bind {A B : Type} {x : Option A} {f : A → Option B} {r : B} (h : x.bind f = some r) : ∃ a, x = some a ∧ f a = some r := Option.bind_eq_some_iff.1 h

theorem of_true {A : Type} {b : Bool} {x y : Option A} {r : A} (h : cond b x y = some r) (hb : b = true) : x = some r := by rw [hb] at h; exact h
theorem of_false {A : Type} {b : Bool} {x y : Option A} {r : A} (h : cond b x y = some r) (hb : b = false) : y = some r := by rw [hb] at h; exact h

end Go.Sx
