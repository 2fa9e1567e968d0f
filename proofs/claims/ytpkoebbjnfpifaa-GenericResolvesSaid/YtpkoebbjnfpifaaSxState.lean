/- The executor's states and what they say of a frame and of memory: no condition. -/
import Derived.Test.YtpkoebbjnfpifaaSxBase
namespace Go.Sx
open Go

inductive AObj where
  | dead
  | cells (t : TypeId) (cs : List TV)

structure AState where
  env : List (Nat × SV)
  heap : List AObj

def lookS : List (Nat × SV) → Nat → SV
  | [], _ => .junk
  | e :: r, k => match Nat.beq e.1 k with | true => e.2 | false => lookS r k

def AState.get (σ : AState) (k : Nat) : SV := lookS σ.env k

def tupAt : List SV → Nat → Option TV
  | vs, j => match vs[j]? with | some (.tv x) => some x | _ => none

def AState.rootTV (σ : AState) : Root → Option TV
  | .slot k j => match σ.get k with
    | .tv x => match j with | 0 => some x | _ => none
    | .agg cs => cs[j]?
    | .tup vs => tupAt vs j
    | _ => none
  | .cell o off => match σ.heap[o]? with | some (.cells _ cs) => cs[off]? | _ => none
  | .obj _ => none

def elemTV (ij : Nat × Nat) : TV → Option TV
  | .own _ _ n f => match decide (ij.1 < n) with | true => (f ij.1)[ij.2]? | false => none
  | _ => none

def AState.look (σ : AState) (p : Path) : Option TV := p.2.foldr (fun ij acc => acc.bind (elemTV ij)) (σ.rootTV p.1)

def S1 (g : Gh) (w : World) (σ : AState) (k j : Nat) (v : Value) : SV → Prop
  | .junk => True
  | .tv x => TRel g w (.slot k j, []) v x
  | .agg cs => ∃ vs, v = .agg vs ∧ vs.size = cs.length ∧ ∀ (i : Nat) y, cs[i]? = some y → ∃ u, vs[i]? = some u ∧ TRel g w (.slot k i, []) u y
  | .pc o off => v = .pointer (some ⟨g.m o, off, none⟩) ∧ o < σ.heap.length
  | .pe p i j z => ∃ b e n f, σ.look p = some (.own z e n f) ∧ i < n ∧ g.ow b = some p ∧ v = .pointer (some ⟨b, i * z + j, none⟩)
  | .rp cs => ∃ b off, v = .pointer (some ⟨b, off, none⟩) ∧ g.P b ∧ ∀ (i : Nat) y, cs[i]? = some y → ∃ u, w.cell? ⟨b, off + i, none⟩ = some u ∧ FRel g.P w u y
  | .al p => ∃ z e n f, σ.look p = some (.own z e n f) ∧ ((v = .slice none 0 0 ∧ n = 0) ∨
      ∃ b cap c, g.ow b = some p ∧ v = .slice (some ⟨b, 0, none⟩) n cap ∧ Row w b e c ∧ c.size = cap * z ∧ n ≤ cap ∧ cap ≤ maxLen)
  | .tup _ | .fn .. => False

def SR (g : Gh) (w : World) (σ : AState) (k : Nat) (v : Value) : SV → Prop
  | .tup vs => ∃ us, v = .tuple us ∧ us.size = vs.length ∧ ∀ (j : Nat) sv, vs[j]? = some sv → ∃ u, us[j]? = some u ∧ S1 g w σ k j u sv
  | .fn f caps => ∃ cs, v = .func (.func f) #[] cs ∧ cs.size = caps.length ∧ ∀ (j : Nat) sv, caps[j]? = some sv → ∃ u, cs[j]? = some u ∧ S1 g w σ k j u sv
  | sv => S1 g w σ k 0 v sv

/-- Does a place lie under slot d? -/
def under (d : Nat) (p : Path) : Bool :=
  match p.1 with
  | .slot k _ => Nat.beq k d
  | _ => false

def SV.names1 (r : Path → Bool) : SV → Bool
  | .pe p _ _ _ => r p
  | .al p => r p
  | .pc o _ => r (.obj o, [])
  | _ => false

def SV.names (r : Path → Bool) : SV → Bool
  | .tup vs => vs.any (SV.names1 r)
  | .fn _ vs => vs.any (SV.names1 r)
  | sv => sv.names1 r

def SV.drop1 (r : Path → Bool) (sv : SV) : SV := match sv.names1 r with | true => .junk | false => sv

def SV.drop (r : Path → Bool) : SV → SV
  | .tup vs => .tup (vs.map (SV.drop1 r))
  | .fn f vs => .fn f (vs.map (SV.drop1 r))
  | sv => sv.drop1 r

/-- Nothing in it is owned by the slot, and nothing is missing. -/
def SV.pure1 : SV → Bool
  | .tv x => x.plain
  | .agg cs => cs.all TV.plain
  | .tup _ => false
  | .fn _ _ => false
  | _ => true

def SV.pure : SV → Bool
  | .tup vs => vs.all SV.pure1
  | .fn _ vs => vs.all SV.pure1
  | sv => sv.pure1

def SV.flat : SV → Bool
  | .tup _ => false
  | .fn _ _ => false
  | _ => true

theorem SV.three (sv : SV) : (∃ vs, sv = .tup vs) ∨ (∃ f vs, sv = .fn f vs) ∨ sv.flat = true := by
  cases sv <;> first | exact .inl ⟨_, rfl⟩ | exact .inr (.inl ⟨_, _, rfl⟩) | exact .inr (.inr rfl)

theorem SR_flat {g : Gh} {w : World} {σ : AState} {k : Nat} {v : Value} {sv : SV} (h : sv.flat = true) : SR g w σ k v sv = S1 g w σ k 0 v sv := by
  cases sv <;> first | rfl | cases h

theorem drop_flat {r : Path → Bool} {sv : SV} (h : sv.flat = true) : sv.drop r = sv.drop1 r := by cases sv <;> first | rfl | cases h

theorem names_flat {r : Path → Bool} {sv : SV} (h : sv.flat = true) : sv.names r = sv.names1 r := by cases sv <;> first | rfl | cases h

theorem flat_drop1 {r : Path → Bool} {sv : SV} (h : sv.flat = true) : (sv.drop1 r).flat = true := by
  unfold SV.drop1
  split
  · rfl
  · exact h

def AState.drop (σ : AState) (r : Path → Bool) : AState := { σ with env := σ.env.map fun e => (e.1, e.2.drop r) }

def AState.set (σ : AState) (d : Nat) (sv : SV) : AState := { σ with env := (d, sv) :: σ.env }

def AState.put (σ : AState) (d : Nat) (sv : SV) : AState := (σ.drop (under d)).set d sv

theorem get_set (σ : AState) (d : Nat) (sv : SV) (k : Nat) : (σ.set d sv).get k = if k = d then sv else σ.get k := by
  simp only [AState.get, AState.set, lookS]
  by_cases h : k = d
  · subst h; simp
  · have : Nat.beq d k = false := by
      cases hb : Nat.beq d k with
      | false => rfl
      | true => exact absurd (Nat.eq_of_beq_eq_true hb).symm h
    simp [this, h]

theorem drop_junk (r : Path → Bool) : SV.drop r .junk = .junk := rfl

theorem get_drop (σ : AState) (r : Path → Bool) (k : Nat) : (σ.drop r).get k = (σ.get k).drop r := by
  simp only [AState.get, AState.drop]
  induction σ.env with
  | nil => rfl
  | cons e l ih =>
    simp only [List.map_cons, lookS]
    cases Nat.beq e.1 k <;> simp [ih]

theorem get_put (σ : AState) (d : Nat) (sv : SV) (k : Nat) : (σ.put d sv).get k = if k = d then sv else (σ.get k).drop (under d) := by
  rw [AState.put, get_set, get_drop]

theorem drop1_tv (r : Path → Bool) (x : TV) : SV.drop1 r (.tv x) = .tv x := rfl

theorem drop1_eq_tv {r : Path → Bool} {sv : SV} {x : TV} : SV.drop1 r sv = .tv x ↔ sv = .tv x := by
  unfold SV.drop1
  cases h : sv.names1 r
  · simp
  · simp only [reduceCtorEq, false_iff]
    rintro rfl
    simp [SV.names1] at h

theorem tupAt_drop (r : Path → Bool) (vs : List SV) (j : Nat) : tupAt (vs.map (SV.drop1 r)) j = tupAt vs j := by
  simp only [tupAt, List.getElem?_map]
  cases h : vs[j]? with
  | none => rfl
  | some sv =>
    simp only [Option.map_some]
    cases sv with
    | pe p i j z => simp only [SV.drop1, SV.names1]; cases r p <;> rfl
    | al p => simp only [SV.drop1, SV.names1]; cases r p <;> rfl
    | pc o off => simp only [SV.drop1, SV.names1]; cases r (.obj o, []) <;> rfl
    | _ => rfl

theorem rootTV_drop (σ : AState) (r : Path → Bool) (x : Root) : (σ.drop r).rootTV x = σ.rootTV x := by
  cases x with
  | slot k j =>
    simp only [AState.rootTV, get_drop]
    cases σ.get k with
    | pe p i j z => simp only [SV.drop, SV.drop1, SV.names1]; cases r p <;> rfl
    | al p => simp only [SV.drop, SV.drop1, SV.names1]; cases r p <;> rfl
    | pc o off => simp only [SV.drop, SV.drop1, SV.names1]; cases r (.obj o, []) <;> rfl
    | tup vs => exact tupAt_drop r vs j
    | _ => rfl
  | cell o off => rfl
  | obj o => rfl

theorem look_drop (σ : AState) (r : Path → Bool) (p : Path) : (σ.drop r).look p = σ.look p := by
  simp only [AState.look, rootTV_drop]

structure Ctx where
  P : Program
  n : Nat
  w0 : World
  g0 : Gh
  h0 : Nat

def Root.idOk (n : Nat) : Root → Prop
  | .slot .. => True
  | .cell o _ => o < n
  | .obj o => o < n

structure Sat (X : Ctx) (g : Gh) (σ : AState) (a : Act) (w : World) : Prop where
  defers : a.defers = []
  size : a.tmps.size = X.n
  env : ∀ k, SR g w σ k (a.tmps.getD k undef) (σ.get k)
  heap : ∀ (o : Nat) t cs, σ.heap[o]? = some (.cells t cs) → ∃ c, w.heap[g.m o]? = some (.cells c t (0, 0)) ∧ g.ow (g.m o) = some (.obj o, []) ∧ c.size = cs.length ∧
    ∀ (i : Nat) y, cs[i]? = some y → ∃ u, c[i]? = some u ∧ TRel g w (.cell o i, []) u y
  inj : ∀ b b' p, g.ow b = some p → g.ow b' = some p → b = b'
  frozen : ∀ b, g.P b → g.ow b = none ∧ b < w.heap.size
  lt : ∀ b p, g.ow b = some p → b < w.heap.size ∧ (X.w0.heap.size ≤ b ∨ X.g0.ow b ≠ none)
  ids : ∀ b p, g.ow b = some p → p.1.idOk σ.heap.length
  P0 : ∀ b, g.P b → X.g0.P b ∨ X.w0.heap.size ≤ b ∨ X.g0.ow b ≠ none
  P1 : ∀ b, X.g0.P b → g.P b
  kept : ∀ b, b < X.w0.heap.size → X.g0.ow b = none → w.heap[b]? = X.w0.heap[b]?
  os : w.os = X.w0.os
  tape : w.tape = X.w0.tape
  output : w.output = X.w0.output
  mono : X.w0.heap.size ≤ w.heap.size
  m0 : ∀ o, o < X.h0 → g.m o = X.g0.m o
  h0 : X.h0 ≤ σ.heap.length

/-- What one slot's relation hangs on. -/
structure Hangs (g g' : Gh) (w w' : World) (k k' : Nat) : Prop where
  P : ∀ b, g.P b → g'.P b ∧ w'.heap[b]? = w.heap[b]?
  slot : ∀ j b st, g.ow b = some (.slot k j, st) → g'.ow b = some (.slot k' j, st) ∧ w'.heap[b]? = w.heap[b]?

/-- What a name of a place hangs on. -/
def Names (g g' : Gh) (w w' : World) (σ σ' : AState) (p : Path) : Prop :=
  (∀ b, g.ow b = some p → g'.ow b = some p ∧ ∀ c e, Row w b e c → ∃ c', Row w' b e c' ∧ c'.size = c.size) ∧
  (∀ z e n f, σ.look p = some (.own z e n f) → ∃ f', σ'.look p = some (.own z e n f')) ∧
  ∀ o, p = (.obj o, []) → o < σ.heap.length → g'.m o = g.m o ∧ o < σ'.heap.length

theorem S1.mono {g g' : Gh} {w w' : World} {σ σ' : AState} {k k' j : Nat} {v : Value} {sv : SV} (h : S1 g w σ k j v sv) (H : Hangs g g' w w' k k')
    (N : ∀ r, sv.names1 (· = r) = true → Names g g' w w' σ σ' r) : S1 g' w' σ' k' j v sv := by
  cases sv with
  | junk => trivial
  | tv x => exact TRel.mono (p := (.slot k j, [])) h H.P (H.slot j)
  | agg cs =>
    obtain ⟨vs, rfl, hs, hc⟩ := h
    refine ⟨vs, rfl, hs, fun i y hy => ?_⟩
    obtain ⟨u, hu, hr⟩ := hc i y hy
    exact ⟨u, hu, TRel.mono (p := (.slot k i, [])) hr H.P (H.slot i)⟩
  | tup vs => exact h.elim
  | fn f caps => exact h.elim
  | pc o off =>
    obtain ⟨h1, h2⟩ := (N (.obj o, []) (by simp [SV.names1])).2.2 o rfl h.2
    exact ⟨by rw [h1]; exact h.1, h2⟩
  | pe p i j z =>
    obtain ⟨b, e, n, f, hl, hi, hb, hv⟩ := h
    obtain ⟨N1, N2, _⟩ := N p (by simp [SV.names1])
    obtain ⟨f', hl'⟩ := N2 z e n f hl
    exact ⟨b, e, n, f', hl', hi, (N1 b hb).1, hv⟩
  | rp cs =>
    obtain ⟨b, off, hv, hb, hc⟩ := h
    refine ⟨b, off, hv, (H.P b hb).1, fun i y hy => ?_⟩
    obtain ⟨u, hu, hr⟩ := hc i y hy
    refine ⟨u, ?_, hr.mono H.P⟩
    rw [← hu]
    exact World.cell?_of_block (w := w) (a := ⟨b, off + i, none⟩) (H.P b hb).2
  | al p =>
    obtain ⟨z, e, n, f, hl, hv⟩ := h
    obtain ⟨N1, N2, _⟩ := N p (by simp [SV.names1])
    obtain ⟨f', hl'⟩ := N2 z e n f hl
    refine ⟨z, e, n, f', hl', ?_⟩
    rcases hv with hv | ⟨b, cap, c, hb, hv, hh, hc, h1, h2⟩
    · exact .inl hv
    · obtain ⟨hb', hc'⟩ := N1 b hb
      obtain ⟨c', hh', hs'⟩ := hc' c e hh
      exact .inr ⟨b, cap, c', hb', hv, hh', by rw [hs', hc], h1, h2⟩

theorem SR.mono {g g' : Gh} {w w' : World} {σ σ' : AState} {k k' : Nat} {v : Value} {sv : SV} (h : SR g w σ k v sv) (H : Hangs g g' w w' k k')
    (N : ∀ r, sv.names (· = r) = true → Names g g' w w' σ σ' r) : SR g' w' σ' k' v sv := by
  rcases sv.three with ⟨vs, rfl⟩ | ⟨f, vs, rfl⟩ | hf
  · obtain ⟨us, rfl, hs, hc⟩ := h
    refine ⟨us, rfl, hs, fun j sv hj => ?_⟩
    obtain ⟨u, hu, hr⟩ := hc j sv hj
    exact ⟨u, hu, hr.mono H fun r hr => N r (by simp only [SV.names, List.any_eq_true]; exact ⟨sv, List.mem_of_getElem? hj, hr⟩)⟩
  · obtain ⟨us, rfl, hs, hc⟩ := h
    refine ⟨us, rfl, hs, fun j sv hj => ?_⟩
    obtain ⟨u, hu, hr⟩ := hc j sv hj
    exact ⟨u, hu, hr.mono H fun r hr => N r (by simp only [SV.names, List.any_eq_true]; exact ⟨sv, List.mem_of_getElem? hj, hr⟩)⟩
  · rw [SR_flat hf] at h ⊢
    exact h.mono H fun r hr => N r (by rw [names_flat hf]; exact hr)

theorem S1.drop {g : Gh} {w : World} {σ : AState} {k j : Nat} {v : Value} {sv : SV} (h : S1 g w σ k j v sv) (r : Path → Bool) : S1 g w σ k j v (sv.drop1 r) := by
  unfold SV.drop1
  split
  · trivial
  · exact h

theorem SR.drop {g : Gh} {w : World} {σ : AState} {k : Nat} {v : Value} {sv : SV} (h : SR g w σ k v sv) (r : Path → Bool) : SR g w σ k v (sv.drop r) := by
  rcases sv.three with ⟨vs, rfl⟩ | ⟨f, vs, rfl⟩ | hf
  · obtain ⟨us, rfl, hs, hc⟩ := h
    refine ⟨us, rfl, by simpa using hs, fun j sv hj => ?_⟩
    rw [List.getElem?_map] at hj
    obtain ⟨sv0, h0, rfl⟩ := Option.map_eq_some_iff.1 hj
    obtain ⟨u, hu, hr⟩ := hc j sv0 h0
    exact ⟨u, hu, hr.drop r⟩
  · obtain ⟨us, rfl, hs, hc⟩ := h
    refine ⟨us, rfl, by simpa using hs, fun j sv hj => ?_⟩
    rw [List.getElem?_map] at hj
    obtain ⟨sv0, h0, rfl⟩ := Option.map_eq_some_iff.1 hj
    obtain ⟨u, hu, hr⟩ := hc j sv0 h0
    exact ⟨u, hu, hr.drop r⟩
  · rw [drop_flat hf, SR_flat (flat_drop1 hf)]
    rw [SR_flat hf] at h
    exact h.drop r

/-- Behind a drop nothing names a place that r takes. -/
theorem names_drop1 {r q : Path → Bool} {sv : SV} (h : (sv.drop1 r).names1 q = true) : sv.names1 q = true ∧ ∃ x, r x = false ∧ q x = true := by
  unfold SV.drop1 at h
  split at h
  · cases h
  · rename_i hn
    refine ⟨h, ?_⟩
    cases sv <;> simp only [SV.names1] at h hn
    all_goals first | cases h | exact ⟨_, hn, h⟩

theorem names_drop {r q : Path → Bool} {sv : SV} (h : (sv.drop r).names q = true) : sv.names q = true ∧ ∃ x, r x = false ∧ q x = true := by
  rcases sv.three with ⟨vs, rfl⟩ | ⟨f, vs, rfl⟩ | hf
  · simp only [SV.drop, SV.names, List.any_map, List.any_eq_true] at h ⊢
    obtain ⟨sv, hm, hn⟩ := h
    obtain ⟨h1, h2⟩ := names_drop1 hn
    exact ⟨⟨sv, hm, h1⟩, h2⟩
  · simp only [SV.drop, SV.names, List.any_map, List.any_eq_true] at h ⊢
    obtain ⟨sv, hm, hn⟩ := h
    obtain ⟨h1, h2⟩ := names_drop1 hn
    exact ⟨⟨sv, hm, h1⟩, h2⟩
  · rw [drop_flat hf, names_flat (flat_drop1 hf)] at h
    rw [names_flat hf]
    exact names_drop1 h

end Go.Sx
