/- What is owned goes from one slot into another, or is frozen; no condition. -/
import Derived.Test.YtpkoebbjnfpifaaSxMem
namespace Go.Sx
open Go

section
variable {X : Ctx} {g : Gh} {σ : AState} {a : Act} {w : World} {T : Tab}

/-- What was under slot s is under slot d. -/
def Gh.mv (g : Gh) (s d : Nat) : Gh :=
  { g with ow := fun b => match g.ow b with
    | some (.slot k j, st) => if k = d then none else if k = s then (if j = 0 then some (.slot d 0, st) else none) else some (.slot k j, st)
    | some p => some p
    | none => none }

theorem mv_other {s d : Nat} {b : Nat} {p : Path} (h : g.ow b = some p) (h1 : under d p = false) (h2 : under s p = false) : (g.mv s d).ow b = some p := by
  obtain ⟨r, st⟩ := p
  simp only [Gh.mv, h]
  cases r with
  | slot k j =>
    have e1 : k ≠ d := by rintro rfl; simp [under] at h1
    have e2 : k ≠ s := by rintro rfl; simp [under] at h2
    simp only [if_neg e1, if_neg e2]
  | cell o off => rfl
  | obj o => rfl

theorem mv_slot {s d : Nat} (hne : s ≠ d) {b : Nat} {st : Steps} (h : g.ow b = some (.slot s 0, st)) : (g.mv s d).ow b = some (.slot d 0, st) := by
  simp only [Gh.mv, h, if_neg hne, if_true]

theorem mv_inv {s d : Nat} {b : Nat} {p : Path} (h : (g.mv s d).ow b = some p) : (g.ow b = some p ∧ under d p = false ∧ under s p = false) ∨ ∃ st, p = (.slot d 0, st) ∧ g.ow b = some (.slot s 0, st) := by
  simp only [Gh.mv] at h
  split at h
  · rename_i k j st hb
    split at h
    · cases h
    · rename_i hd
      split at h
      · rename_i hs
        split at h
        · rename_i hj
          cases h
          subst hs hj
          exact .inr ⟨st, rfl, hb⟩
        · cases h
      · rename_i hs
        cases h
        exact .inl ⟨hb, under_slot hd _ _, under_slot hs _ _⟩
  · rename_i p' hnot hb
    cases h
    refine .inl ⟨hb, ?_, ?_⟩
    · obtain ⟨r, st⟩ := p
      cases r with
      | slot k j => exact absurd rfl (hnot k j st)
      | _ => rfl
    · obtain ⟨r, st⟩ := p
      cases r with
      | slot k j => exact absurd rfl (hnot k j st)
      | _ => rfl
  · cases h

def AState.mv (σ : AState) (s d : Nat) (x : TV) : AState := (((σ.drop (under d)).drop (under s)).set s .junk).set d (.tv x)

def either (p q : Path → Bool) : Path → Bool := fun x => p x || q x

theorem drop1_drop1 (p q : Path → Bool) (sv : SV) : (sv.drop1 p).drop1 q = sv.drop1 (either p q) := by
  unfold SV.drop1
  cases sv <;> simp only [SV.names1, either] <;> first | rfl | (rename_i x _ _ _; cases hp : p x <;> simp) | (rename_i x; cases hp : p x <;> simp) | (rename_i o _; cases hp : p (.obj o, []) <;> simp)

theorem drop_drop (p q : Path → Bool) (sv : SV) : (sv.drop p).drop q = sv.drop (either p q) := by
  rcases sv.three with ⟨vs, rfl⟩ | ⟨f, vs, rfl⟩ | hf
  · simp only [SV.drop, List.map_map]; congr 1; exact List.map_congr_left fun x _ => drop1_drop1 p q x
  · simp only [SV.drop, List.map_map]; congr 1; exact List.map_congr_left fun x _ => drop1_drop1 p q x
  · rw [drop_flat hf, drop_flat (flat_drop1 hf), drop_flat hf, drop1_drop1]

theorem get_mv (σ : AState) (s d : Nat) (x : TV) (k : Nat) : (σ.mv s d x).get k = if k = d then .tv x else if k = s then .junk else (σ.get k).drop (either (under d) (under s)) := by
  rw [AState.mv, get_set, get_set, get_drop, get_drop, drop_drop]

theorem look_mv (σ : AState) (s d : Nat) (x : TV) (p : Path) (h1 : under d p = false) (h2 : under s p = false) : (σ.mv s d x).look p = σ.look p := by
  rw [AState.mv, look_set _ _ _ _ h1, look_set _ _ _ _ h2, look_drop, look_drop]

theorem Sat.mv (h : Sat X g σ a w) {s d : Nat} (hne : s ≠ d) (hd : d < X.n) {x : TV} (hx : σ.get s = .tv x) :
    Sat X (g.mv s d) (σ.mv s d x) (a.put (some d) (a.tmps.getD s undef)) w := by
  have or1 : ∀ {p : Path}, either (under d) (under s) p = false → under d p = false ∧ under s p = false := fun {p} hp => by
    simpa [either] using hp
  have U : Up g (g.mv s d) σ (σ.mv s d x) w w (either (under d) (under s)) :=
    ⟨fun _ hb => ⟨hb, rfl⟩, fun _ _ hb hp => ⟨mv_other hb (or1 hp).1 (or1 hp).2, rfl⟩, fun p hp z e n f hl => by rw [look_mv _ _ _ _ _ (or1 hp).1 (or1 hp).2]; exact hl, fun _ _ ho => ⟨rfl, ho⟩⟩
  have hsz : a.tmps.size = X.n := h.size
  refine ⟨h.defers, by simp only [Act.put, Array.size_setIfInBounds]; exact hsz, fun q => ?_, fun o t cs ho => ?_, fun b b' p hb hb' => ?_, fun b hb => ?_, fun b p hb => ?_, fun b p hb => ?_, h.P0, h.P1, h.kept, h.os, h.tape, h.output, h.mono, h.m0, h.h0⟩
  · rw [tmps_put _ _ _ _ (by omega), get_mv]
    by_cases hq : q = d
    · subst hq
      simp only [if_true]
      have hs := h.env s
      rw [hx] at hs
      exact TRel.mono (g' := g.mv s q) (w' := w) (p := (.slot s 0, [])) (r' := .slot q 0) hs (fun _ hb => ⟨hb, rfl⟩) fun b st hb => ⟨mv_slot hne hb, rfl⟩
    · rw [if_neg hq, if_neg hq]
      by_cases hqs : q = s
      · rw [if_pos hqs]; trivial
      · rw [if_neg hqs]
        exact U.slot (fun j st => by simp only [either, under_slot hq, under_slot hqs, Bool.or_false]) (h.env q)
  · obtain ⟨c, h1, h2, h3, h4⟩ := h.heap o t cs ho
    refine ⟨c, h1, mv_other h2 rfl rfl, h3, fun i y hy => ?_⟩
    obtain ⟨u, hu, hr⟩ := h4 i y hy
    exact ⟨u, hu, U.tv (fun _ => rfl) hr⟩
  · rcases mv_inv hb with ⟨h1, h2, h3⟩ | ⟨st, rfl, h1⟩
    · rcases mv_inv hb' with ⟨k1, _, _⟩ | ⟨st', rfl, k1⟩
      · exact h.inj b b' p h1 k1
      · simp [under] at h2
    · rcases mv_inv hb' with ⟨k1, k2, _⟩ | ⟨st', e, k1⟩
      · simp [under] at k2
      · injection e with _ e2
        subst e2
        exact h.inj b b' _ h1 k1
  · obtain ⟨h1, h2⟩ := h.frozen b hb
    exact ⟨by simp only [Gh.mv, h1], h2⟩
  · rcases mv_inv hb with ⟨h1, _, _⟩ | ⟨st, rfl, h1⟩
    · exact h.lt b p h1
    · exact h.lt b _ h1
  · rcases mv_inv hb with ⟨h1, _, _⟩ | ⟨st, rfl, h1⟩
    · exact h.ids b p h1
    · trivial

/-! ### Freezing -/

/-- What is at a root is frozen: nobody writes it any more. -/
def Gh.frz (g : Gh) (b : Nat) : Gh :=
  { ow := fun k => match Nat.beq k b with | true => none | false => g.ow k, P := fun k => g.P k ∨ k = b, m := g.m }

/-- Owned cells that are plain may be frozen. -/
def PlainTo (n : Nat) (f : Nat → List TV) : Prop := ∀ i, i < n → (f i).all TV.plain = true

theorem frz_ne {b k : Nat} (h : k ≠ b) : (g.frz b).ow k = g.ow k := by simp only [Gh.frz, beq_ne h]

def AState.fix (σ : AState) (s : Nat) (x : TV) : AState := (σ.drop (under s)).set s (.tv x)

theorem get_fix (σ : AState) (s : Nat) (x : TV) (k : Nat) : (σ.fix s x).get k = if k = s then .tv x else (σ.get k).drop (under s) := by
  rw [AState.fix, get_set, get_drop]

theorem look_fix (σ : AState) (s : Nat) (x : TV) (p : Path) (h : under s p = false) : (σ.fix s x).look p = σ.look p := by
  rw [AState.fix, look_set _ _ _ _ h, look_drop]

/-- A slot's value anew, where the frame and memory are as they were. -/
theorem Sat.refix (h : Sat X g σ a w) {s : Nat} {x : TV} {g' : Gh} (hm : g'.m = g.m)
    (hP : ∀ b, g.P b → g'.P b) (hO : ∀ b p, g.ow b = some p → under s p = false → g'.ow b = some p) (hO' : ∀ b p, g'.ow b = some p → g.ow b = some p)
    (hPn : ∀ b, g'.P b → g.P b ∨ (g'.ow b = none ∧ ∃ p, g.ow b = some p)) (hd : ∀ b, g'.P b → g'.ow b = none)
    (hx : TRel g' w (.slot s 0, []) (a.tmps.getD s undef) x) : ∀ (hz : X.P = X.P), Sat X g' (σ.fix s x) a w := by
  intro _
  have U : Up g g' σ (σ.fix s x) w w (under s) :=
    ⟨fun b hb => ⟨hP b hb, rfl⟩, fun b p hb hp => ⟨hO b p hb hp, rfl⟩, fun p hp z e n f hl => by rw [look_fix _ _ _ _ hp]; exact hl, fun o _ ho => ⟨by rw [hm], ho⟩⟩
  refine ⟨h.defers, h.size, fun q => ?_, fun o t cs ho => ?_, fun b b' p hb hb' => h.inj b b' p (hO' _ _ hb) (hO' _ _ hb'), fun b hb => ⟨hd b hb, ?_⟩, fun b p hb => h.lt b p (hO' _ _ hb), fun b p hb => h.ids b p (hO' _ _ hb), fun b hb => ?_, fun b hb => hP b (h.P1 b hb), h.kept, h.os, h.tape, h.output, h.mono, fun o ho => by rw [hm]; exact h.m0 o ho, h.h0⟩
  · rw [get_fix]
    by_cases hq : q = s
    · subst hq; simp only [if_true]; exact hx
    · rw [if_neg hq]; exact U.slot (fun j st => under_slot hq j st) (h.env q)
  · obtain ⟨c, h1, h2, h3, h4⟩ := h.heap o t cs ho
    rw [hm]
    refine ⟨c, h1, hO _ _ h2 rfl, h3, fun i y hy => ?_⟩
    obtain ⟨u, hu, hr⟩ := h4 i y hy
    exact ⟨u, hu, U.tv (fun _ => rfl) hr⟩
  · rcases hPn b hb with h1 | ⟨_, p, hp⟩
    · exact (h.frozen b h1).2
    · exact (h.lt b p hp).1
  · rcases hPn b hb with h1 | ⟨_, p, hp⟩
    · exact h.P0 b h1
    · exact .inr (h.lt b p hp).2

/-- A slot's own slice is frozen. -/
theorem Sat.freeze (h : Sat X g σ a w) {s : Nat} {z : Nat} {e : TypeId} {n : Nat} {f : Nat → List TV} (hx : σ.get s = .tv (.own z e n f)) (hp : PlainTo n f) :
    ∃ g', Sat X g' (σ.fix s (.fz z n f)) a w := by
  have hs := h.env s
  rw [hx] at hs
  rcases own_inv (show TRel g w (.slot s 0, []) (a.tmps.getD s undef) (.own z e n f) from hs) with ⟨hv, hn⟩ | ⟨b, cap, c, cs, h1, hv, h3, h4, h5, h6, h7, h8, h9⟩
  · subst hn
    refine ⟨g.clr (under s), h.refix rfl (fun b hb => hb) (fun b p hb hp => clr_some.2 ⟨hb, hp⟩) (fun b p hb => (clr_some.1 hb).1) (fun b hb => .inl hb) (fun b hb => clr_none (h.frozen b hb).1) ?_ rfl⟩
    rw [hv]; exact .fr (.nil _ _ _ _)
  · refine ⟨(g.clr (under s)).frz b, h.refix rfl (fun b hb => .inl hb) (fun b' p hb hp => ?_) (fun b' p hb => ?_) (fun b' hb => ?_) (fun b' hb => ?_) ?_ rfl⟩
    · have : b' ≠ b := by rintro rfl; rw [h1] at hb; cases hb; simp [under] at hp
      rw [frz_ne this]; exact clr_some.2 ⟨hb, hp⟩
    · by_cases e1 : b' = b
      · subst e1; simp [Gh.frz] at hb
      · rw [frz_ne e1] at hb; exact (clr_some.1 hb).1
    · rcases hb with hb | rfl
      · exact .inl hb
      · exact .inr ⟨by simp [Gh.frz], _, h1⟩
    · by_cases e1 : b' = b
      · subst e1; simp [Gh.frz]
      · rw [frz_ne e1]
        rcases hb with hb | rfl
        · exact clr_none (h.frozen b' hb).1
        · exact absurd rfl e1
    · rw [hv]
      refine .fr (.row b 0 cap z n f cs (.inr rfl) h5 h6 h7 (fun i j y hi hy => ?_) fun i j y hi hy => ?_)
      · rw [Nat.zero_add]
        exact (h3.cell (i * z + j)).trans (h8 i j y hi hy)
      · have hpl : y.plain = true := by
          have := hp i hi
          rw [List.all_eq_true] at this
          exact this y (List.mem_of_getElem? hy)
        exact ((h9 i j y hi hy).plain hpl).mono fun b' hb' => ⟨.inl hb', rfl⟩

/-- A slot's own slice told otherwise. -/
theorem Sat.ext (h : Sat X g σ a w) {s : Nat} {z : Nat} {e : TypeId} {n n' : Nat} {f f' : Nat → List TV} (hx : σ.get s = .tv (.own z e n f)) (hn : n = n') (hf : ∀ i, i < n → f i = f' i) :
    Sat X g (σ.set s (.tv (.own z e n' f'))) a w := by
  subst hn
  have hroot : ∀ q, (σ.set s (.tv (.own z e n f'))).look q = σ.look q ∨ ∃ st, q = (.slot s 0, st) := fun q => by
    obtain ⟨r, st⟩ := q
    cases r with
    | slot k j =>
      by_cases hk : k = s
      · subst hk
        cases j with
        | zero => exact .inr ⟨st, rfl⟩
        | succ j => left; apply look_eq; simp only [AState.rootTV, get_set, if_true, hx]
      · left; exact look_set _ _ _ _ (under_slot hk j st)
    | cell o off => exact .inl rfl
    | obj o => exact .inl rfl
  have hN : ∀ p, Names g g w w σ (σ.set s (.tv (.own z e n f'))) p := fun p => by
    refine ⟨fun b hb => ⟨hb, fun c e hc => ⟨c, hc, rfl⟩⟩, fun z1 e1 n1 f1 hl => ?_, fun o _ ho => ⟨rfl, ho⟩⟩
    rcases hroot p with hr | ⟨st, rfl⟩
    · exact ⟨f1, hr.trans hl⟩
    · have r0 : σ.rootTV (.slot s 0) = some (.own z e n f) := by simp only [AState.rootTV, hx]
      have r1 : (σ.set s (.tv (.own z e n f'))).rootTV (.slot s 0) = some (.own z e n f') := by simp only [AState.rootTV, get_set, if_true]
      have key : ∀ st x, σ.look (.slot s 0, st) = some x → (st = [] ∧ x = .own z e n f) ∨ (st ≠ [] ∧ (σ.set s (.tv (.own z e n f'))).look (.slot s 0, st) = some x) := by
        intro st
        induction st with
        | nil =>
          intro x hl
          simp only [AState.look, List.foldr_nil, r0, Option.some.injEq] at hl
          exact .inl ⟨rfl, hl.symm⟩
        | cons ij st ih =>
          intro x hl
          refine .inr ⟨by simp, ?_⟩
          have hl' : (σ.look (.slot s 0, st)).bind (elemTV ij) = some x := hl
          show ((σ.set s (.tv (.own z e n f'))).look (.slot s 0, st)).bind (elemTV ij) = some x
          obtain ⟨y, hy, he⟩ := Option.bind_eq_some_iff.1 hl'
          rcases ih y hy with ⟨rfl, rfl⟩ | ⟨_, hy'⟩
          · simp only [AState.look, List.foldr_nil, r1, Option.bind_some]
            simp only [elemTV] at he ⊢
            split at he
            · rename_i hi
              rw [← hf ij.1 (of_decide_eq_true hi)]
              exact he
            · cases he
          · rw [hy', Option.bind_some]; exact he
      rcases key st _ hl with ⟨rfl, e1⟩ | ⟨_, hl'⟩
      · cases e1
        exact ⟨f', by simp only [AState.look, List.foldr_nil, r1]⟩
      · exact ⟨f1, hl'⟩
  refine ⟨h.defers, h.size, fun q => ?_, h.heap, h.inj, h.frozen, h.lt, h.ids, h.P0, h.P1, h.kept, h.os, h.tape, h.output, h.mono, h.m0, h.h0⟩
  rw [get_set]
  by_cases hq : q = s
  · subst hq
    simp only [if_true]
    have hs := h.env q
    rw [hx] at hs
    exact TRel.ext (p := (.slot q 0, [])) hs rfl hf
  · rw [if_neg hq]
    exact (h.env q).mono ⟨fun _ hb => ⟨hb, rfl⟩, fun _ _ _ hb => ⟨hb, rfl⟩⟩ fun p _ => hN p

/-- A frozen slice told otherwise; the nil slice as a frozen one. -/
theorem Sat.extFz (h : Sat X g σ a w) {s : Nat} {x y : TV} (hx : σ.get s = .tv x) (hxy : ∀ v, FRel g.P w v x → FRel g.P w v y) (hp : x.plain = true) :
    Sat X (g.clr (under s)) (σ.fix s y) a w := by
  refine h.refix rfl (fun b hb => hb) (fun b p hb hp => clr_some.2 ⟨hb, hp⟩) (fun b p hb => (clr_some.1 hb).1) (fun b hb => .inl hb) (fun b hb => clr_none (h.frozen b hb).1) ?_ rfl
  have hs := h.env s
  rw [hx] at hs
  exact .fr (hxy _ (TRel.plain (g := g) (p := (.slot s 0, [])) hs hp))

end
end Go.Sx
