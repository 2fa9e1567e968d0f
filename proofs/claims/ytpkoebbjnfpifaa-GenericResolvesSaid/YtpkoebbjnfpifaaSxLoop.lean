/- A loop as a function of its own, and the rule for it; no condition. -/
import Derived.Test.YtpkoebbjnfpifaaSxWp
namespace Go.Sx
open Go

/-- So many rounds: a round goes on, or leaves. -/
def rounds {S X : Type} (body : S → Option (S ⊕ X)) : Nat → S → Option X
  | 0, _ => none
  | n + 1, s => match body s with
    | none => none
    | some (.inl s') => rounds body n s'
    | some (.inr x) => some x

theorem rounds_succ {S X : Type} {body : S → Option (S ⊕ X)} : ∀ {n : Nat} {s : S} {x : X}, rounds body n s = some x → rounds body (n + 1) s = some x
  | 0, _, _, h => by cases h
  | n + 1, s, x, h => by
    simp only [rounds] at h ⊢
    split at h
    · cases h
    · rename_i s' hs; exact rounds_succ (n := n) h
    · exact h

theorem rounds_le {S X : Type} {body : S → Option (S ⊕ X)} {n m : Nat} {s : S} {x : X} (h : rounds body n s = some x) (hm : n ≤ m) : rounds body m s = some x := by
  induction hm with
  | refl => exact h
  | step _ ih => exact rounds_succ ih

/-- What a loop comes to, if it ends. -/
noncomputable def iter {S X : Type} (body : S → Option (S ⊕ X)) (s : S) : Option X :=
  open Classical in if h : ∃ n, (rounds body n s).isSome = true then rounds body h.choose s else none

theorem iter_some {S X : Type} {body : S → Option (S ⊕ X)} {s : S} {x : X} : iter body s = some x ↔ ∃ n, rounds body n s = some x := by
  constructor
  · intro h
    unfold iter at h
    split at h
    · exact ⟨_, h⟩
    · cases h
  · rintro ⟨n, hn⟩
    have hex : ∃ n, (rounds body n s).isSome = true := ⟨n, by rw [hn]; rfl⟩
    unfold iter
    rw [dif_pos hex]
    obtain ⟨y, hy⟩ := Option.isSome_iff_exists.1 hex.choose_spec
    have h1 := rounds_le hy (Nat.le_max_left hex.choose n)
    have h2 := rounds_le hn (Nat.le_max_right hex.choose n)
    rw [h1] at h2
    rw [hy]; exact h2

/-- One round, and the loop again. -/
theorem iter_eq {S X : Type} (body : S → Option (S ⊕ X)) (s : S) : iter body s = match body s with
    | none => none
    | some (.inl s') => iter body s'
    | some (.inr x) => some x := by
  cases hb : body s with
  | none =>
    simp only
    cases h : iter body s with
    | none => rfl
    | some x =>
      obtain ⟨n, hn⟩ := iter_some.1 h
      cases n with
      | zero => cases hn
      | succ n => simp only [rounds, hb] at hn; cases hn
  | some o =>
    cases o with
    | inl s' =>
      simp only
      cases h : iter body s' with
      | none =>
        cases h' : iter body s with
        | none => rfl
        | some x =>
          obtain ⟨n, hn⟩ := iter_some.1 h'
          cases n with
          | zero => cases hn
          | succ n =>
            simp only [rounds, hb] at hn
            rw [iter_some.2 ⟨n, hn⟩] at h
            cases h
      | some x =>
        obtain ⟨n, hn⟩ := iter_some.1 h
        exact iter_some.2 ⟨n + 1, by simp only [rounds, hb]; exact hn⟩
    | inr x => exact iter_some.2 ⟨1, by simp only [rounds, hb]⟩

/-- How a piece of code ends: it returns, or goes on. -/
inductive Out (R S : Type) where
  | ret (r : R)
  | go (s : S)

theorem least_one {p : Nat → Prop} (h : ∃ n, p n) : ∃ n, p n ∧ ∀ m, p m → n ≤ m := by
  obtain ⟨n, hn⟩ := h
  induction n using Nat.strongRecOn with
  | _ n ih =>
    by_cases hm : ∃ m, m < n ∧ p m
    · obtain ⟨m, hlt, hp⟩ := hm
      exact ih m hlt hp
    · exact ⟨n, hn, fun m hp => Nat.le_of_not_lt fun h => hm ⟨m, h, hp⟩⟩

section
variable {F : Cfg}

theorem AWp.loop {S Y : Type} {c : Code} (shape : S → AState) (body : S → Option (S ⊕ Y)) (Post : Y → Exit → AState → Prop)
    (hb : ∀ s o, body s = some o → AWp F c (fun e σ => (∃ s', o = .inl s' ∧ e = .normal ∧ σ = shape s') ∨ ∃ y, o = .inr y ∧ e ≠ .normal ∧ Post y e σ) (shape s))
    {s : S} {y : Y} (h : iter body s = some y) : AWp F (.loop c) (Post y) (shape s) := fun w0 g0 g a w hs => by
  obtain ⟨n0, hn0⟩ := iter_some.1 h
  let X := F.ctx w0 g0
  let good : Nat → Act → World → Prop := fun n a w => ∃ s g, rounds body n s = some y ∧ Sat X g (shape s) a w
  have := Classical.propDecidable
  let μ : Act → World → Nat := fun a w => if h : ∃ n, good n a w then (least_one h).choose else 0
  refine wp_loop (fun a w => ∃ n, good n a w) μ ⟨n0, s, g, hn0, hs⟩ fun a w hI => ?_
  have hμ : μ a w = (least_one hI).choose := dif_pos hI
  obtain ⟨s1, g1, hr, hs1⟩ := (least_one hI).choose_spec.1
  generalize hm : (least_one hI).choose = m at hr hμ
  cases m with
  | zero => cases hr
  | succ m =>
    cases hbs : body s1 with
    | none => simp only [rounds, hbs] at hr; cases hr
    | some o =>
      refine wp_mono (hb s1 o hbs w0 g0 g1 a w hs1) fun e a' w' ⟨σ', g', hq, hs'⟩ => ?_
      rcases hq with ⟨s', rfl, rfl, rfl⟩ | ⟨y', rfl, hne, hp⟩
      · simp only [rounds, hbs] at hr
        have hg : good m a' w' := ⟨s', g', hr, hs'⟩
        refine ⟨⟨m, hg⟩, ?_⟩
        have hex : ∃ n, good n a' w' := ⟨m, hg⟩
        have : μ a' w' = (least_one hex).choose := dif_pos hex
        rw [this, hμ]
        exact Nat.lt_succ_of_le ((least_one hex).choose_spec.2 m hg)
      · simp only [rounds, hbs, Option.some.injEq] at hr
        subst hr
        cases e with
        | normal => exact absurd rfl hne
        | _ => exact ⟨σ', g', hp, hs'⟩

end
end Go.Sx
