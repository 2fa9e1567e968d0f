/- Stores: into an object's cells, and into an element of a slice of the call's own; no condition. -/
import Derived.Test.YtpkoebbjnfpifaaSxMove
namespace Go.Sx
open Go

def writeA (c : Array Value) (o : Nat) : List Value → Array Value
  | [] => c
  | v :: r => writeA (c.setIfInBounds o v) (o + 1) r

theorem writeA_size (vs : List Value) : ∀ (c : Array Value) (o : Nat), (writeA c o vs).size = c.size := by
  induction vs with
  | nil => intro c o; rfl
  | cons v r ih => intro c o; simp only [writeA, ih, Array.size_setIfInBounds]

theorem writeA_lt (vs : List Value) : ∀ (c : Array Value) (o i : Nat), i < o → (writeA c o vs)[i]? = c[i]? := by
  induction vs with
  | nil => intro c o i _; rfl
  | cons v r ih =>
    intro c o i hi
    simp only [writeA]
    rw [ih _ _ _ (by omega), Array.getElem?_setIfInBounds, if_neg (by omega)]

theorem writeA_in (vs : List Value) : ∀ (c : Array Value) (o i : Nat), i < vs.length → o + i < c.size → (writeA c o vs)[o + i]? = vs[i]? := by
  induction vs with
  | nil => intro c o i h; simp at h
  | cons v r ih =>
    intro c o i hi hc
    simp only [writeA]
    cases i with
    | zero =>
      rw [writeA_lt _ _ _ _ (by omega), Array.getElem?_setIfInBounds, if_pos (Nat.add_zero o).symm, if_pos (by omega)]
      rfl
    | succ i =>
      have := ih (c.setIfInBounds o v) (o + 1) i (by simpa using hi) (by simp; omega)
      rw [show o + (i + 1) = o + 1 + i by omega, this]
      rfl

theorem writeA_ge (vs : List Value) : ∀ (c : Array Value) (o i : Nat), o + vs.length ≤ i → (writeA c o vs)[i]? = c[i]? := by
  induction vs with
  | nil => intro c o i _; rfl
  | cons v r ih =>
    intro c o i hi
    simp only [writeA, List.length_cons] at hi ⊢
    rw [ih _ _ _ (by omega), Array.getElem?_setIfInBounds, if_neg (by omega)]

/-- Cells that are stored one behind the other. -/
theorem run_store_row {P : Program} {b : Nat} {e : TypeId} {fr : Nat × Nat} : ∀ (vs : List Value) (o i : Nat) (c : Array Value) (w : World), w.heap[b]? = some (.cells c e fr) → (∀ i, i < c.size → ¬ (fr.1 ≤ i ∧ i < fr.2)) →
    o + i + vs.length ≤ c.size → (∀ v ∈ vs, v.oneCell' = true) →
    ∃ w', (storeCells ⟨b, o, none⟩ vs i).run P w = .ok () w' ∧ w'.heap[b]? = some (.cells (writeA c (o + i) vs) e fr) ∧ Goes w w' b
  | [], o, i, c, w, hb, _, _, _ => ⟨w, rfl, hb, ⟨fun _ _ _ => rfl, Nat.le_refl _, rfl, rfl, rfl⟩⟩
  | v :: r, o, i, c, w, hb, hf, hl, h1 => by
    simp only [List.length_cons] at hl
    have hlt : o + i < c.size := by omega
    have hcell : w.cell? ⟨b, o + i, none⟩ = some c[o + i] := by rw [cell_of_row w b (o + i) c e fr hb]; simp [hlt]
    have hfr : w.frozen? ⟨b, o + i, none⟩ = false := by
      simp only [World.frozen?, hb]
      have := hf (o + i) hlt
      simp only [Bool.and_eq_false_iff, decide_eq_false_iff_not]
      by_cases h1 : fr.1 ≤ o + i
      · exact .inr fun h2 => this ⟨h1, h2⟩
      · exact .inl h1
    have hset : (w.setCell ⟨b, o + i, none⟩ v).heap[b]? = some (.cells (c.setIfInBounds (o + i) v) e fr) := by
      simp only [World.setCell, Array.getElem?_modify, if_true, hb, Option.map_some]
      rfl
    obtain ⟨w', hrun, hw', hg⟩ := run_store_row r o (i + 1) (c.setIfInBounds (o + i) v) (w.setCell ⟨b, o + i, none⟩ v) hset (by simpa using hf) (by simp; omega) (fun x hx => h1 x (by simp [hx]))
    refine ⟨w', ?_, by simpa [writeA, Nat.add_assoc] using hw', ⟨fun k hk hne => ?_, ?_, hg.os, hg.tape, hg.output⟩⟩
    · simp only [storeCells]
      rw [Sem.run_bind, add_mk, run_store P w _ v .plain (h1 v (by simp))]
      simp only [hcell, hfr]
      exact hrun
    · rw [hg.heap k (by simpa using hk) hne]
      simp only [World.setCell, Array.getElem?_modify]
      rw [if_neg (Ne.symm hne)]
    · simpa using hg.size

theorem putAt_length : ∀ (ys cs : List TV) (off : Nat), (putAt cs off ys).length = cs.length
  | [], _, _ => rfl
  | y :: r, cs, off => by simp only [putAt, putAt_length r, List.length_set]

theorem putAt_lt : ∀ (ys cs : List TV) (off i : Nat), i < off → (putAt cs off ys)[i]? = cs[i]?
  | [], _, _, _, _ => rfl
  | y :: r, cs, off, i, h => by
    simp only [putAt]
    rw [putAt_lt r _ _ _ (by omega), List.getElem?_set, if_neg (by omega)]

theorem putAt_in : ∀ (ys cs : List TV) (off i : Nat), i < ys.length → off + i < cs.length → (putAt cs off ys)[off + i]? = ys[i]?
  | [], _, _, _, h, _ => by simp at h
  | y :: r, cs, off, i, h, hc => by
    simp only [putAt]
    cases i with
    | zero => rw [putAt_lt r _ _ _ (by omega), List.getElem?_set, if_pos (Nat.add_zero off).symm, if_pos (by omega)]; rfl
    | succ i =>
      have := putAt_in r (cs.set off y) (off + 1) i (by simpa using h) (by simp; omega)
      rw [show off + (i + 1) = off + 1 + i by omega, this]
      rfl

theorem putAt_ge : ∀ (ys cs : List TV) (off i : Nat), off + ys.length ≤ i → (putAt cs off ys)[i]? = cs[i]?
  | [], _, _, _, _ => rfl
  | y :: r, cs, off, i, h => by
    simp only [putAt, List.length_cons] at h ⊢
    rw [putAt_ge r _ _ _ (by omega), List.getElem?_set, if_neg (by omega)]

section
variable {X : Ctx} {g : Gh} {σ : AState} {a : Act} {w : World} {T : Tab}

/-- The places of cells off .. off + n - 1 of object o. -/
def cellsR (o off n : Nat) (p : Path) : Bool :=
  match p.1 with
  | .cell o' f => Nat.beq o o' && (Nat.ble off f && Nat.blt f (off + n))
  | _ => false

def AState.storeC (σ : AState) (o off : Nat) (ys : List TV) : AState :=
  { (σ.drop (cellsR o off ys.length)) with heap := setCells σ.heap o (fun cs => putAt cs off ys) }

theorem cellsR_false {o off n o' i : Nat} {st : Steps} : cellsR o off n (.cell o' i, st) = false ↔ ¬ (o = o' ∧ off ≤ i ∧ i < off + n) := by
  simp only [cellsR, Bool.and_eq_false_iff]
  constructor
  · rintro h ⟨rfl, h1, h2⟩
    rcases h with h | h | h
    · simp at h
    · rw [Nat.ble_eq_true_of_le h1] at h; cases h
    · rw [show Nat.blt i (off + n) = true from Nat.ble_eq_true_of_le h2] at h; cases h
  · intro h
    by_cases h0 : o = o'
    · right
      by_cases h1 : off ≤ i
      · right
        cases hb : Nat.blt i (off + n) with
        | false => rfl
        | true => exact absurd ⟨h0, h1, Nat.le_of_ble_eq_true hb⟩ h
      · left
        cases hb : Nat.ble off i with
        | false => rfl
        | true => exact absurd (Nat.le_of_ble_eq_true hb) h1
    · exact .inl (beq_ne h0)

/-- Plain cells are stored into an object. -/
theorem Sat.storeC (h : Sat X g σ a w) {o off : Nat} {t : TypeId} {cs0 : List TV} (ho : σ.heap[o]? = some (.cells t cs0)) {ys : List TV} {vs : List Value} (hl : vs.length = ys.length) (hfit : off + ys.length ≤ cs0.length)
    (hr : ∀ (i : Nat) y, ys[i]? = some y → ∃ u, vs[i]? = some u ∧ FRel g.P w u y) :
    ∃ w' g', (storeCells ⟨g.m o, off, none⟩ vs).run X.P w = .ok () w' ∧ Sat X g' (σ.storeC o off ys) a w' := by
  obtain ⟨c, h1, h2, h3, h4⟩ := h.heap o t cs0 ho
  have hone : ∀ v ∈ vs, v.oneCell' = true := fun v hv => by
    obtain ⟨i, hi⟩ := List.getElem?_of_mem hv
    have hi' : i < ys.length := by rw [← hl]; exact (List.getElem?_eq_some_iff.1 hi).1
    obtain ⟨u, hu, hru⟩ := hr i ys[i] (by simp [hi'])
    rw [hi] at hu; cases hu
    exact hru.one
  obtain ⟨w', hrun, hw', hg⟩ := run_store_row (P := X.P) vs off 0 c w h1 (fun i _ hh => by simp at hh) (by omega) hone
  rw [Nat.add_zero] at hw'
  have hnP : ¬ g.P (g.m o) := fun hp => by rw [(h.frozen _ hp).1] at h2; cases h2
  have hPs : ∀ b, g.P b → g.P b ∧ w'.heap[b]? = w.heap[b]? := fun b hb => ⟨hb, hg.heap b (h.frozen b hb).2 (fun e => hnP (e ▸ hb))⟩
  have hKs : ∀ b p, g.ow b = some p → p ≠ (.obj o, []) → w'.heap[b]? = w.heap[b]? := fun b p hb hp =>
    hg.heap b (h.lt b p hb).1 (fun e => by subst e; rw [h2] at hb; cases hb; exact hp rfl)
  refine ⟨w', g.clr (cellsR o off ys.length), hrun, ?_⟩
  have hlook : ∀ p, cellsR o off ys.length p = false → (σ.storeC o off ys).rootTV p.1 = σ.rootTV p.1 := fun p hp => by
    obtain ⟨r, st⟩ := p
    cases r with
    | slot k j => exact rootTV_drop σ _ (.slot k j)
    | cell o' i =>
      have hne := cellsR_false.1 hp
      simp only [AState.rootTV, AState.storeC]
      by_cases hoo : o' = o
      · subst hoo
        rw [setCells_eq _ ho, ho]
        simp only
        rcases Nat.lt_or_ge i off with hi | hi
        · exact putAt_lt _ _ _ _ hi
        · refine putAt_ge _ _ _ _ ?_
          rcases Nat.lt_or_ge i (off + ys.length) with hh | hh
          · exact absurd ⟨rfl, hi, hh⟩ hne
          · exact hh
      · rw [setCells_ne _ _ _ _ hoo]
    | obj o' => rfl
  have U : Up g (g.clr (cellsR o off ys.length)) σ (σ.storeC o off ys) w w' (fun p => cellsR o off ys.length p || decide (p = (.obj o, []))) := by
    refine ⟨hPs, fun b p hb hp => ?_, fun p hp z e n f hl => ?_, fun q hq hlt => ⟨rfl, by simp only [AState.storeC, setCells_length]; exact hlt⟩⟩
    · simp only [Bool.or_eq_false_iff, decide_eq_false_iff_not] at hp
      exact ⟨clr_some.2 ⟨hb, hp.1⟩, hKs b p hb hp.2⟩
    · simp only [Bool.or_eq_false_iff, decide_eq_false_iff_not] at hp
      rw [look_eq (hlook p hp.1)]; exact hl
  -- what names the object itself stays
  have hslot : ∀ k, SR (g.clr (cellsR o off ys.length)) w' (σ.storeC o off ys) k (a.tmps.getD k undef) ((σ.get k).drop (cellsR o off ys.length)) := fun k => by
    refine ((h.env k).drop _).mono ⟨hPs, fun j b st hb => ⟨clr_some.2 ⟨hb, rfl⟩, hKs b _ hb (by simp)⟩⟩ fun p hp => ?_
    obtain ⟨x, hx, he⟩ := (names_drop hp).2
    obtain rfl : x = p := by simpa using he
    refine ⟨fun b hb => ⟨clr_some.2 ⟨hb, hx⟩, fun c' e hc' => ?_⟩, fun z e n f hl => ⟨f, by rw [look_eq (hlook x hx)]; exact hl⟩, fun q hq hlt => ⟨rfl, by simp only [AState.storeC, setCells_length]; exact hlt⟩⟩
    by_cases hxo : x = (.obj o, [])
    · have : b = g.m o := h.inj b (g.m o) x hb (by rw [hxo]; exact h2)
      subst this
      obtain ⟨fr, hc1, hc2⟩ := hc'
      rw [h1] at hc1
      injection hc1 with hc1
      injection hc1 with e1 e2 e3
      subst e1 e2 e3
      exact ⟨_, Row.of hw', writeA_size _ _ _⟩
    · exact ⟨c', hc'.eq (hKs b x hb hxo), rfl⟩
  refine ⟨h.defers, h.size, fun k => ?_, fun o' t' cs' ho' => ?_, fun b b' p hb hb' => h.inj b b' p (clr_some.1 hb).1 (clr_some.1 hb').1, fun b hb => ⟨clr_none (h.frozen b hb).1, Nat.lt_of_lt_of_le (h.frozen b hb).2 hg.size⟩,
    fun b p hb => ?_, fun b p hb => ?_, h.P0, h.P1, fun b hb h0 => ?_, hg.os.trans h.os, hg.tape.trans h.tape, hg.output.trans h.output, Nat.le_trans h.mono hg.size, h.m0, ?_⟩
  · have : (σ.storeC o off ys).get k = (σ.get k).drop (cellsR o off ys.length) := get_drop σ _ k
    rw [this]; exact hslot k
  · by_cases hoo : o' = o
    · subst hoo
      simp only [AState.storeC] at ho'
      obtain ⟨cs1, e0, rfl⟩ := setCells_some _ ho'
      rw [ho] at e0
      cases e0
      refine ⟨_, hw', clr_some.2 ⟨h2, rfl⟩, by rw [writeA_size, putAt_length, h3], fun i y hy => ?_⟩
      rcases Nat.lt_or_ge i off with hi | hi
      · rw [putAt_lt _ _ _ _ hi] at hy
        obtain ⟨u, hu, hru⟩ := h4 i y hy
        exact ⟨u, by rw [writeA_lt _ _ _ _ hi]; exact hu, U.tv (fun st => by simp only [Bool.or_eq_false_iff]; exact ⟨cellsR_false.2 (by omega), by simp⟩) hru⟩
      · rcases Nat.lt_or_ge i (off + ys.length) with hh | hh
        · obtain ⟨q, rfl⟩ : ∃ q, i = off + q := ⟨i - off, by omega⟩
          rw [putAt_in _ _ _ _ (by omega) (by omega)] at hy
          obtain ⟨u, hu, hru⟩ := hr q y hy
          refine ⟨u, ?_, .fr (hru.mono hPs)⟩
          rw [writeA_in _ _ _ _ (by omega) (by omega)]
          exact hu
        · rw [putAt_ge _ _ _ _ hh] at hy
          obtain ⟨u, hu, hru⟩ := h4 i y hy
          exact ⟨u, by rw [writeA_ge _ _ _ _ (by omega)]; exact hu, U.tv (fun st => by simp only [Bool.or_eq_false_iff]; exact ⟨cellsR_false.2 (by omega), by simp⟩) hru⟩
    · simp only [AState.storeC] at ho'
      rw [setCells_ne _ _ _ _ hoo] at ho'
      obtain ⟨c', k1, k2, k3, k4⟩ := h.heap o' t' cs' ho'
      refine ⟨c', (hKs _ _ k2 (by simp [hoo])).trans k1, clr_some.2 ⟨k2, rfl⟩, k3, fun i y hy => ?_⟩
      obtain ⟨u, hu, hru⟩ := k4 i y hy
      exact ⟨u, hu, U.tv (fun st => by simp only [Bool.or_eq_false_iff]; exact ⟨cellsR_false.2 (by rintro ⟨e, _⟩; exact hoo e.symm), by simp⟩) hru⟩
  · obtain ⟨k1, k2⟩ := h.lt b p (clr_some.1 hb).1
    exact ⟨Nat.lt_of_lt_of_le k1 hg.size, k2⟩
  · have := h.ids b p (clr_some.1 hb).1
    simp only [AState.storeC, setCells_length]; exact this
  · have hne : b ≠ g.m o := by
      rintro rfl
      rcases (h.lt _ _ h2).2 with k | k
      · omega
      · exact k h0
    exact (hg.heap b (by have := h.mono; omega) hne).trans (h.kept b hb h0)
  · simp only [AState.storeC, setCells_length]; exact h.h0

end
end Go.Sx
