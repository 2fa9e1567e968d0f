/- How loops are told: plain laws of 'iter'; no condition. -/
import Derived.Test.YtgabiokgockopaaSxC
namespace Go.Sx
open Go

theorem w64_id {n : Int} (h0 : -9223372036854775808 ≤ n) (h1 : n ≤ 9223372036854775807) : w64 n = n := by
 simp only [w64, IntKind.wrap, IntKind.min, IntKind.max, IntKind.signed, IntKind.bits]
 simp
 omega

theorem maxLen_le : maxLen ≤ 9223372036854775807 := by decide

theorem w64_succ {i n : Nat} (h : i < n) (hn : n ≤ maxLen) : w64 ((i : Int) + 1) = ((i + 1 : Nat) : Int) := by
 have := maxLen_le
 rw [w64_id (by omega) (by omega)]; omega

theorem iter_inl {S X : Type} {body : S → Option (S ⊕ X)} {s s' : S} (h : body s = some (.inl s')) : iter body s = iter body s' := by rw [iter_eq, h]
theorem iter_inr {S X : Type} {body : S → Option (S ⊕ X)} {s : S} {x : X} (h : body s = some (.inr x)) : iter body s = some x := by rw [iter_eq, h]

/-- A loop that ends, and what it comes to. -/
theorem iter_ind {S X : Type} (body : S → Option (S ⊕ X)) (I : S → Prop) (μ : S → Nat) (Q : S → X → Prop)
  (h : ∀ s, I s → (∃ s', body s = some (.inl s') ∧ I s' ∧ μ s' < μ s ∧ ∀ x, Q s' x → Q s x) ∨ ∃ x, body s = some (.inr x) ∧ Q s x) : ∀ s, I s → ∃ x, iter body s = some x ∧ Q s x := by
 have key : ∀ n s, μ s = n → I s → ∃ x, iter body s = some x ∧ Q s x := by
  intro n
  induction n using Nat.strongRecOn with
  | _ n ih =>
   intro s hn hI
   rcases h s hI with ⟨s', hb, hI', hm, hq⟩ | ⟨x, hb, hq⟩
   ·obtain ⟨x, hx, hqx⟩ := ih (μ s') (by omega) s' rfl hI'
    exact ⟨x, by rw [iter_inl hb]; exact hx, hq x hqx⟩
   ·exact ⟨x, iter_inr hb, hq⟩
 exact fun s hI => key _ s rfl hI

/-- Over a list, by its index: F tells what is come to from the rest of the list on. -/
theorem iter_list {A X : Type} [Inhabited A] (l : List A) (hl : l.length ≤ maxLen) (body : Int → Option (Int ⊕ X)) (F : List A → Nat → X)
  (hs : ∀ (i : Nat) (x : A) (r : List A), i < l.length → l.getD i default = x → l.drop i = x :: r → (body i = some (.inr (F (x :: r) i))) ∨ (body i = some (.inl (w64 ((i : Int) + 1))) ∧ F (x :: r) i = F r (i + 1)))
  (he : body (l.length : Int) = some (.inr (F [] l.length))) : iter body 0 = some (F l 0) := by
 have key : ∀ n i, i + n = l.length → iter body (i : Int) = some (F (l.drop i) i) := by
  intro n
  induction n with
  | zero =>
   intro i hi
   obtain rfl : i = l.length := by omega
   rw [iter_inr he, List.drop_length]
  | succ n ih =>
   intro i hi
   have hlt : i < l.length := by omega
   have hd : l.drop i = l[i] :: l.drop (i + 1) := List.drop_eq_getElem_cons hlt
   rcases hs i l[i] (l.drop (i + 1)) hlt (by simp [List.getD_eq_getElem?_getD, hlt]) hd with hb | ⟨hb, hF⟩
   ·rw [iter_inr hb, hd]
   ·rw [iter_inl hb, w64_succ hlt hl, hd, hF]
    exact ih (i + 1) (by omega)
 have := key l.length 0 (by omega)
 simpa using this

/-- The same, with a state that goes on from round to round: the index second. -/
theorem iter_listS {A B X : Type} [Inhabited A] (l : List A) (hl : l.length ≤ maxLen) (body : B × Int → Option ((B × Int) ⊕ X)) (F : List A → Nat → B → X)
  (hs : ∀ (i : Nat) (x : A) (r : List A) (b : B), i < l.length → l.getD i default = x → l.drop i = x :: r → (body (b, (i : Int)) = some (.inr (F (x :: r) i b))) ∨ ∃ b', body (b, (i : Int)) = some (.inl (b', w64 ((i : Int) + 1))) ∧ F (x :: r) i b = F r (i + 1) b')
  (he : ∀ b, body (b, (l.length : Int)) = some (.inr (F [] l.length b))) (b0 : B) : iter body (b0, 0) = some (F l 0 b0) := by
 have key : ∀ n i b, i + n = l.length → iter body (b, (i : Int)) = some (F (l.drop i) i b) := by
  intro n
  induction n with
  | zero =>
   intro i b hi
   obtain rfl : i = l.length := by omega
   rw [iter_inr (he b), List.drop_length]
  | succ n ih =>
   intro i b hi
   have hlt : i < l.length := by omega
   have hd : l.drop i = l[i] :: l.drop (i + 1) := List.drop_eq_getElem_cons hlt
   rcases hs i l[i] (l.drop (i + 1)) b hlt (by simp [List.getD_eq_getElem?_getD, hlt]) hd with hb | ⟨b', hb, hF⟩
   ·rw [iter_inr hb, hd]
   ·rw [iter_inl hb, w64_succ hlt hl, hd, hF]
    exact ih (i + 1) b' (by omega)
 have := key l.length 0 b0 (by omega)
 simpa using this

/-- The same, with what holds of the state ahead of each round. -/
theorem iter_listI {A B X : Type} [Inhabited A] (l : List A) (hl : l.length ≤ maxLen) (body : B × Int → Option ((B × Int) ⊕ X)) (F : List A → Nat → B → X) (I : Nat → B → Prop)
  (hs : ∀ (i : Nat) (x : A) (r : List A) (b : B), I i b → i < l.length → l.getD i default = x → l.drop i = x :: r → (body (b, (i : Int)) = some (.inr (F (x :: r) i b))) ∨ ∃ b', body (b, (i : Int)) = some (.inl (b', w64 ((i : Int) + 1))) ∧ I (i + 1) b' ∧ F (x :: r) i b = F r (i + 1) b')
  (he : ∀ b, I l.length b → body (b, (l.length : Int)) = some (.inr (F [] l.length b))) (b0 : B) (h0 : I 0 b0) : iter body (b0, 0) = some (F l 0 b0) := by
 have key : ∀ n i b, i + n = l.length → I i b → iter body (b, (i : Int)) = some (F (l.drop i) i b) := by
  intro n
  induction n with
  | zero =>
   intro i b hi hI
   obtain rfl : i = l.length := by omega
   rw [iter_inr (he b hI), List.drop_length]
  | succ n ih =>
   intro i b hi hI
   have hlt : i < l.length := by omega
   have hd : l.drop i = l[i] :: l.drop (i + 1) := List.drop_eq_getElem_cons hlt
   rcases hs i l[i] (l.drop (i + 1)) b hI hlt (by simp [List.getD_eq_getElem?_getD, hlt]) hd with hb | ⟨b', hb, hI', hF⟩
   ·rw [iter_inr hb, hd]
   ·rw [iter_inl hb, w64_succ hlt hl, hd, hF]
    exact ih (i + 1) b' (by omega) hI'
 have := key l.length 0 b0 (by omega) h0
 simpa using this

theorem cond_or {b c : Bool} : cond b (some true) (some c) = some (b || c) := by cases b <;> rfl
theorem cond_and {b c : Bool} : cond b (some c) (some false) = some (b && c) := by cases b <;> rfl
theorem cond_some {A : Type} {b : Bool} {x y : A} : cond b (some x) (some y) = some (cond b x y) := by cases b <;> rfl

end Go.Sx

