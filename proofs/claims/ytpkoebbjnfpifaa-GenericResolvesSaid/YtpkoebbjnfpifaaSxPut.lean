/- How a state goes on: a slot that is written, and what stays; no condition. -/
import Derived.Test.YtpkoebbjnfpifaaSxState
namespace Go.Sx
open Go

/-- What stays: all but what lies at the places that R takes. -/
structure Up (g g' : Gh) (σ σ' : AState) (w w' : World) (R : Path → Bool) : Prop where
  P : ∀ b, g.P b → g'.P b ∧ w'.heap[b]? = w.heap[b]?
  K : ∀ b p, g.ow b = some p → R p = false → g'.ow b = some p ∧ w'.heap[b]? = w.heap[b]?
  look : ∀ p, R p = false → ∀ z e n f, σ.look p = some (.own z e n f) → σ'.look p = some (.own z e n f)
  obj : ∀ o, R (.obj o, []) = false → o < σ.heap.length → g'.m o = g.m o ∧ o < σ'.heap.length

theorem Up.slot {g g' : Gh} {σ σ' : AState} {w w' : World} {R : Path → Bool} (U : Up g g' σ σ' w w' R) {k : Nat} {v : Value} {sv : SV}
    (hk : ∀ j st, R (.slot k j, st) = false) (h : SR g w σ k v sv) : SR g' w' σ' k v (sv.drop R) := by
  refine (h.drop R).mono ⟨U.P, fun j b st hb => U.K b _ hb (hk j st)⟩ fun p hp => ?_
  obtain ⟨x, hx, he⟩ := (names_drop hp).2
  obtain rfl : x = p := by simpa using he
  refine ⟨fun b hb => ?_, fun z e n f hl => ⟨f, U.look x hx z e n f hl⟩, fun o he => U.obj o (by rw [← he]; exact hx)⟩
  obtain ⟨h1, h2⟩ := U.K b _ hb hx
  exact ⟨h1, fun c e hc => ⟨c, hc.eq h2, rfl⟩⟩

theorem Up.tv {g g' : Gh} {σ σ' : AState} {w w' : World} {R : Path → Bool} (U : Up g g' σ σ' w w' R) {p : Path} {v : Value} {x : TV}
    (hp : ∀ st, R (p.1, st) = false) (h : TRel g w p v x) : TRel g' w' p v x :=
  h.mono U.P fun b st hb => U.K b _ hb (hp st)

theorem look_eq {σ σ' : AState} {p : Path} (h : σ'.rootTV p.1 = σ.rootTV p.1) : σ'.look p = σ.look p := by
  simp only [AState.look, h]

theorem rootTV_set (σ : AState) (d : Nat) (sv : SV) (p : Path) (h : under d p = false) : (σ.set d sv).rootTV p.1 = σ.rootTV p.1 := by
  obtain ⟨r, st⟩ := p
  cases r with
  | slot k j =>
    have hk : k ≠ d := by rintro rfl; simp [under] at h
    simp only [AState.rootTV, get_set, if_neg hk]
  | cell o off => rfl
  | obj o => rfl

theorem look_set (σ : AState) (d : Nat) (sv : SV) (p : Path) (h : under d p = false) : (σ.set d sv).look p = σ.look p := look_eq (rootTV_set _ _ _ _ h)

theorem look_put (σ : AState) (d : Nat) (sv : SV) (p : Path) (h : under d p = false) : (σ.put d sv).look p = σ.look p := by
  rw [AState.put, look_set _ _ _ _ h, look_drop]

/-- The labels at the places that R takes go. -/
def Gh.clr (g : Gh) (R : Path → Bool) : Gh :=
  { g with ow := fun b => match g.ow b with | some p => (match R p with | true => none | false => some p) | none => none }

theorem clr_some {g : Gh} {R : Path → Bool} {b : Nat} {p : Path} : (g.clr R).ow b = some p ↔ g.ow b = some p ∧ R p = false := by
  simp only [Gh.clr]
  cases h : g.ow b with
  | none => simp
  | some q =>
    simp only
    cases hq : R q
    · simp only [Option.some.injEq]
      exact ⟨fun e => ⟨e, by rw [← e]; exact hq⟩, fun e => e.1⟩
    · simp only [reduceCtorEq, Option.some.injEq, false_iff, not_and, Bool.not_eq_false]
      rintro rfl
      exact hq

theorem clr_none {g : Gh} {R : Path → Bool} {b : Nat} (h : g.ow b = none) : (g.clr R).ow b = none := by simp [Gh.clr, h]

theorem tmps_put (a : Act) (d : Nat) (v : Value) (k : Nat) (hd : d < a.tmps.size) : (a.put (some d) v).tmps.getD k undef = if k = d then v else a.tmps.getD k undef := by
  simp only [Act.put, Array.getD_eq_getD_getElem?, Array.getElem?_setIfInBounds]
  by_cases h : d = k
  · subst h; simp [hd]
  · rw [if_neg h, if_neg (fun e => h e.symm)]

/-- The heap, the streams and the tape are the same. -/
structure SameW (w w' : World) : Prop where
  heap : w'.heap = w.heap
  os : w'.os = w.os
  tape : w'.tape = w.tape
  output : w'.output = w.output

theorem SameW.refl (w : World) : SameW w w := ⟨rfl, rfl, rfl, rfl⟩
theorem SameW.drew (w : World) : SameW w w.drew := ⟨rfl, rfl, rfl, rfl⟩
theorem SameW.trans {a b c : World} (h : SameW a b) (k : SameW b c) : SameW a c :=
  ⟨k.heap.trans h.heap, k.os.trans h.os, k.tape.trans h.tape, k.output.trans h.output⟩

theorem SR.world {g : Gh} {w w' : World} {σ : AState} {k : Nat} {v : Value} {sv : SV} (h : SR g w σ k v sv) (hw : SameW w w') : SR g w' σ k v sv :=
  h.mono ⟨fun _ hb => ⟨hb, by rw [hw.heap]⟩, fun _ _ _ hb => ⟨hb, by rw [hw.heap]⟩⟩ fun _ _ =>
    ⟨fun _ hb => ⟨hb, fun c e hc => ⟨c, hc.eq (by rw [hw.heap]), rfl⟩⟩, fun _ _ _ f hl => ⟨f, hl⟩, fun _ _ ho => ⟨rfl, ho⟩⟩

theorem Sat.world {X : Ctx} {g : Gh} {σ : AState} {a : Act} {w w' : World} (h : Sat X g σ a w) (hw : SameW w w') : Sat X g σ a w' where
  defers := h.defers
  size := h.size
  env k := (h.env k).world hw
  heap o t cs ho := by
    obtain ⟨c, h1, h2, h3, h4⟩ := h.heap o t cs ho
    refine ⟨c, by rw [hw.heap]; exact h1, h2, h3, fun i y hy => ?_⟩
    obtain ⟨u, hu, hr⟩ := h4 i y hy
    exact ⟨u, hu, hr.mono (fun _ hb => ⟨hb, by rw [hw.heap]⟩) fun _ _ hb => ⟨hb, by rw [hw.heap]⟩⟩
  inj := h.inj
  frozen := by rw [hw.heap]; exact h.frozen
  lt := by rw [hw.heap]; exact h.lt
  ids := h.ids
  P0 := h.P0
  P1 := h.P1
  kept := by rw [hw.heap]; exact h.kept
  os := hw.os.trans h.os
  tape := hw.tape.trans h.tape
  output := hw.output.trans h.output
  mono := by rw [hw.heap]; exact h.mono
  m0 := h.m0
  h0 := h.h0

theorem under_iff {d : Nat} {p : Path} : under d p = true ↔ ∃ j, p.1 = .slot d j := by
  obtain ⟨r, st⟩ := p
  cases r with
  | slot k j => simp only [under, Nat.beq_eq, Root.slot.injEq]; exact ⟨fun h => ⟨j, h, rfl⟩, fun ⟨_, h, _⟩ => h⟩
  | cell o f => simp [under]
  | obj o => simp [under]

theorem under_slot {d k : Nat} (h : k ≠ d) (j : Nat) (st : Steps) : under d (.slot k j, st) = false := by
  cases hb : under d (.slot k j, st) with
  | false => rfl
  | true => obtain ⟨j', e⟩ := under_iff.1 hb; injection e with e1; exact absurd e1 h

/-- Of what a value names nothing is under R, if it names nothing there. -/
theorem names_of {sv : SV} {R : Path → Bool} (h : sv.names R = false) {p : Path} (hp : sv.names (· = p) = true) : R p = false := by
  cases hu : R p with
  | false => rfl
  | true =>
    have : sv.names R = true := by
      rcases sv.three with ⟨vs, rfl⟩ | ⟨f, vs, rfl⟩ | hf
      · simp only [SV.names, List.any_eq_true] at hp ⊢
        obtain ⟨s1, hm, hn⟩ := hp
        refine ⟨s1, hm, ?_⟩
        cases s1 <;> simp_all [SV.names1]
      · simp only [SV.names, List.any_eq_true] at hp ⊢
        obtain ⟨s1, hm, hn⟩ := hp
        refine ⟨s1, hm, ?_⟩
        cases s1 <;> simp_all [SV.names1]
      · rw [names_flat hf] at hp ⊢
        cases sv <;> simp_all [SV.names1]
    rw [this] at h
    cases h

/-- A value that owns nothing may stand in any slot, where all that it names stays. -/
theorem S1.move {g g' : Gh} {w w' : World} {σ σ' : AState} {R : Path → Bool} (U : Up g g' σ σ' w w' R) {k j k' j' : Nat} {v : Value} {sv : SV} (hp : sv.pure1 = true)
    (hn : ∀ p, sv.names1 (· = p) = true → R p = false) (h : S1 g w σ k j v sv) : S1 g' w' σ' k' j' v sv := by
  cases sv with
  | junk => trivial
  | tv x => exact .fr (show FRel g'.P w' v x from (TRel.plain (g := g) (p := (.slot k j, [])) h hp).mono U.P)
  | agg cs =>
    obtain ⟨vs, rfl, hs, hc⟩ := h
    refine ⟨vs, rfl, hs, fun i y hy => ?_⟩
    obtain ⟨u, hu, hr⟩ := hc i y hy
    exact ⟨u, hu, .fr (show FRel g'.P w' u y from (hr.plain (by simp only [SV.pure1, List.all_eq_true] at hp; exact hp y (List.mem_of_getElem? hy))).mono U.P)⟩
  | tup vs => exact h.elim
  | fn f vs => exact h.elim
  | pc o off =>
    obtain ⟨h1, h2⟩ := U.obj o (hn (.obj o, []) (by simp [SV.names1])) h.2
    exact ⟨by rw [h1]; exact h.1, h2⟩
  | pe p i j z =>
    obtain ⟨b, e, n, f, hl, hi, hb, hv⟩ := h
    have hp' := hn p (by simp [SV.names1])
    exact ⟨b, e, n, f, U.look p hp' z e n f hl, hi, (U.K b p hb hp').1, hv⟩
  | rp cs =>
    obtain ⟨b, off, hv, hb, hc⟩ := h
    refine ⟨b, off, hv, (U.P b hb).1, fun i y hy => ?_⟩
    obtain ⟨u, hu, hr⟩ := hc i y hy
    refine ⟨u, ?_, hr.mono U.P⟩
    rw [← hu]
    exact World.cell?_of_block (w := w) (a := ⟨b, off + i, none⟩) (U.P b hb).2
  | al p =>
    obtain ⟨z, e, n, f, hl, hv⟩ := h
    have hp' := hn p (by simp [SV.names1])
    refine ⟨z, e, n, f, U.look p hp' z e n f hl, ?_⟩
    rcases hv with hv | ⟨b, cap, c, hb, hv, hh, rest⟩
    · exact .inl hv
    · obtain ⟨h1, h2⟩ := U.K b p hb hp'
      exact .inr ⟨b, cap, c, h1, hv, hh.eq h2, rest⟩

theorem SR.move {g g' : Gh} {w w' : World} {σ σ' : AState} {R : Path → Bool} (U : Up g g' σ σ' w w' R) {k k' : Nat} {v : Value} {sv : SV} (hp : sv.pure = true)
    (hn : sv.names R = false) (h : SR g w σ k v sv) : SR g' w' σ' k' v sv := by
  rcases sv.three with ⟨vs, rfl⟩ | ⟨f, vs, rfl⟩ | hf
  · obtain ⟨us, rfl, hs, hc⟩ := h
    refine ⟨us, rfl, hs, fun j s1 hj => ?_⟩
    obtain ⟨u, hu, hr⟩ := hc j s1 hj
    simp only [SV.pure, List.all_eq_true] at hp
    exact ⟨u, hu, hr.move U (hp s1 (List.mem_of_getElem? hj)) fun p hq => names_of hn (by simp only [SV.names, List.any_eq_true]; exact ⟨s1, List.mem_of_getElem? hj, hq⟩)⟩
  · obtain ⟨us, rfl, hs, hc⟩ := h
    refine ⟨us, rfl, hs, fun j s1 hj => ?_⟩
    obtain ⟨u, hu, hr⟩ := hc j s1 hj
    simp only [SV.pure, List.all_eq_true] at hp
    exact ⟨u, hu, hr.move U (hp s1 (List.mem_of_getElem? hj)) fun p hq => names_of hn (by simp only [SV.names, List.any_eq_true]; exact ⟨s1, List.mem_of_getElem? hj, hq⟩)⟩
  · rw [SR_flat hf] at h ⊢
    exact h.move U (by cases sv <;> first | exact hp | cases hf) fun p hq => names_of hn (by rw [names_flat hf]; exact hq)

theorem Up.put (g : Gh) (σ : AState) (w : World) (d : Nat) (sv : SV) : Up g (g.clr (under d)) σ (σ.put d sv) w w (under d) :=
  ⟨fun _ hb => ⟨hb, rfl⟩, fun _ _ hb hp => ⟨clr_some.2 ⟨hb, hp⟩, rfl⟩, fun p hp z e n f hl => by rw [look_put _ _ _ _ hp]; exact hl, fun _ _ ho => ⟨rfl, ho⟩⟩

/-- A value goes into a slot. -/
theorem Sat.putAny {X : Ctx} {g : Gh} {σ : AState} {a : Act} {w : World} (h : Sat X g σ a w) {d : Nat} (hd : d < X.n) {v : Value} {sv : SV}
    (hv : SR (g.clr (under d)) w (σ.put d sv) d v sv) :
    Sat X (g.clr (under d)) (σ.put d sv) (a.put (some d) v) w := by
  have U := Up.put g σ w d sv
  have hsz : a.tmps.size = X.n := h.size
  refine ⟨h.defers, by simp only [Act.put, Array.size_setIfInBounds]; exact hsz, fun q => ?_, fun o t cs ho => ?_, fun b b' p hb hb' => ?_, fun b hb => ?_, fun b p hb => ?_, fun b p hb => ?_, h.P0, h.P1, h.kept, h.os, h.tape, h.output, h.mono, h.m0, h.h0⟩
  · rw [tmps_put _ _ _ _ (by omega), get_put]
    by_cases hq : q = d
    · subst hq
      simp only [if_true]
      exact hv
    · rw [if_neg hq, if_neg hq]
      exact U.slot (fun j st => under_slot hq j st) (h.env q)
  · obtain ⟨c, h1, h2, h3, h4⟩ := h.heap o t cs ho
    refine ⟨c, h1, clr_some.2 ⟨h2, rfl⟩, h3, fun i y hy => ?_⟩
    obtain ⟨u, hu, hr⟩ := h4 i y hy
    exact ⟨u, hu, U.tv (fun _ => rfl) hr⟩
  · exact h.inj b b' p (clr_some.1 hb).1 (clr_some.1 hb').1
  · exact ⟨clr_none (h.frozen b hb).1, (h.frozen b hb).2⟩
  · exact h.lt b p (clr_some.1 hb).1
  · exact h.ids b p (clr_some.1 hb).1

/-- A value that owns nothing goes into a slot. -/
theorem Sat.put {X : Ctx} {g : Gh} {σ : AState} {a : Act} {w : World} (h : Sat X g σ a w) {d : Nat} (hd : d < X.n) {v : Value} {sv : SV}
    (hpure : sv.pure = true) (hrefs : sv.names (under d) = false) {k : Nat} (hv : SR g w σ k v sv) :
    Sat X (g.clr (under d)) (σ.put d sv) (a.put (some d) v) w :=
  h.putAny hd (hv.move (Up.put g σ w d sv) hpure hrefs)

/-- Less is known: what R takes is not known any more. -/
theorem Sat.less {X : Ctx} {g : Gh} {σ σ' : AState} {a : Act} {w : World} (h : Sat X g σ a w) (R : Path → Bool)
    (henv : ∀ k, σ'.get k = .junk ∨ (σ'.get k = (σ.get k).drop R ∧ ∀ j st, R (.slot k j, st) = false))
    (hheap : ∀ (o : Nat) t cs, σ'.heap[o]? = some (.cells t cs) → ∃ cs0, σ.heap[o]? = some (.cells t cs0) ∧ cs0.length = cs.length ∧ R (.obj o, []) = false ∧
      ∀ (i : Nat) y, cs[i]? = some y → y = .hole ∨ (cs0[i]? = some y ∧ ∀ st, R (.cell o i, st) = false))
    (hlook : ∀ p, R p = false → ∀ z e n f, σ.look p = some (.own z e n f) → σ'.look p = some (.own z e n f))
    (hids : ∀ p : Path, R p = false → p.1.idOk σ.heap.length → p.1.idOk σ'.heap.length)
    (hobj : ∀ o, R (.obj o, []) = false → o < σ.heap.length → o < σ'.heap.length)
    (hlen : X.h0 ≤ σ'.heap.length) : Sat X (g.clr R) σ' a w := by
  have U : Up g (g.clr R) σ σ' w w R :=
    ⟨fun b hb => ⟨hb, rfl⟩, fun b p hb hp => ⟨clr_some.2 ⟨hb, hp⟩, rfl⟩, hlook, fun o ho hl => ⟨rfl, hobj o ho hl⟩⟩
  refine ⟨h.defers, h.size, fun k => ?_, fun o t cs ho => ?_, fun b b' p hb hb' => ?_, fun b hb => ?_, fun b p hb => ?_, fun b p hb => ?_, h.P0, h.P1, h.kept, h.os, h.tape, h.output, h.mono, h.m0, hlen⟩
  · rcases henv k with hk | ⟨hk, hR⟩
    · rw [hk]; trivial
    · rw [hk]; exact U.slot hR (h.env k)
  · obtain ⟨cs0, h0, hl, hob, hc⟩ := hheap o t cs ho
    obtain ⟨c, h1, h2, h3, h4⟩ := h.heap o t cs0 h0
    refine ⟨c, h1, clr_some.2 ⟨h2, hob⟩, by rw [h3, hl], fun i y hy => ?_⟩
    have hi : i < c.size := by
      rw [h3, hl]
      by_cases hi : i < cs.length
      · exact hi
      · rw [List.getElem?_eq_none (by omega)] at hy; cases hy
    rcases hc i y hy with rfl | ⟨hy0, hR⟩
    · exact ⟨c[i], by simp [hi], .hole⟩
    · obtain ⟨u, hu, hr⟩ := h4 i y hy0
      exact ⟨u, hu, U.tv hR hr⟩
  · exact h.inj b b' p (clr_some.1 hb).1 (clr_some.1 hb').1
  · exact ⟨clr_none (h.frozen b hb).1, (h.frozen b hb).2⟩
  · exact h.lt b p (clr_some.1 hb).1
  · obtain ⟨h1, h2⟩ := clr_some.1 hb
    exact hids p h2 (h.ids b p h1)

end Go.Sx
