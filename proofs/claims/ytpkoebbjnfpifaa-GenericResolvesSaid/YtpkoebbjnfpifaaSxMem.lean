/- How memory that the call makes comes into a state, and what is forgotten; no condition. -/
import Derived.Test.YtpkoebbjnfpifaaSxPure7
namespace Go.Sx
open Go

section
variable {X : Ctx} {g : Gh} {σ : AState} {a : Act} {w : World} {T : Tab}

def inL : List Nat → Nat → Bool
  | [], _ => false
  | x :: r, k => Nat.beq x k || inL r k

theorem inL_iff {l : List Nat} {k : Nat} : inL l k = true ↔ k ∈ l := by
  induction l with
  | nil => simp [inL]
  | cons x r ih => simp only [inL, Bool.or_eq_true, Nat.beq_eq, ih, List.mem_cons]; exact ⟨fun h => h.imp Eq.symm id, fun h => h.imp Eq.symm id⟩

/-- Places outside the slots ks and the first n objects. -/
def outside (ks : List Nat) (n : Nat) (p : Path) : Bool :=
  match p.1 with
  | .slot k _ => !inL ks k
  | .cell o _ => Nat.ble n o
  | .obj o => Nat.ble n o

/-- Only the slots ks and the first n objects are kept. -/
def AState.keep (σ : AState) (ks : List Nat) (n : Nat) : AState :=
  { env := ks.map fun k => (k, (σ.get k).drop (outside ks n)), heap := σ.heap.take n }

theorem get_keep (σ : AState) (ks : List Nat) (n k : Nat) : (σ.keep ks n).get k = if k ∈ ks then (σ.get k).drop (outside ks n) else .junk := by
  have key : ∀ (l : List Nat), lookS (l.map fun k => (k, (σ.get k).drop (outside ks n))) k = if k ∈ l then (σ.get k).drop (outside ks n) else .junk := by
    intro l
    induction l with
    | nil => simp [lookS]
    | cons x r ih =>
      simp only [List.map_cons, lookS]
      cases hb : Nat.beq x k with
      | true => obtain rfl := Nat.eq_of_beq_eq_true hb; simp
      | false =>
        have hne : k ≠ x := by rintro rfl; simp at hb
        simp only [ih, List.mem_cons, hne, false_or]
  exact key ks

theorem rootTV_of_drop {σ σ' : AState} {R : Path → Bool} {k j : Nat} (h : σ'.get k = (σ.get k).drop R) : σ'.rootTV (.slot k j) = σ.rootTV (.slot k j) := by
  have := rootTV_drop σ R (.slot k j)
  simp only [AState.rootTV, get_drop] at this ⊢
  rw [h]
  exact this

theorem Sat.keep (h : Sat X g σ a w) (ks : List Nat) (n : Nat) (hn : X.h0 ≤ n) (hn' : X.h0 ≤ σ.heap.length) : Sat X (g.clr (outside ks n)) (σ.keep ks n) a w := by
  refine h.less (outside ks n) (fun k => ?_) (fun o t cs ho => ?_) (fun p hp z e m f hl => ?_) (fun p hp hi => ?_) (fun o ho hl => ?_) ?_
  · by_cases hk : k ∈ ks
    · refine .inr ⟨by rw [get_keep, if_pos hk], fun j st => ?_⟩
      simp only [outside, inL_iff.2 hk, Bool.not_true]
    · exact .inl (by rw [get_keep, if_neg hk])
  · simp only [AState.keep, List.getElem?_take] at ho
    split at ho
    · rename_i hlt
      have hb : Nat.ble n o = false := by cases hb : Nat.ble n o with | false => rfl | true => have := Nat.le_of_ble_eq_true hb; omega
      exact ⟨cs, ho, rfl, hb, fun i y hy => .inr ⟨hy, fun st => hb⟩⟩
    · cases ho
  · rw [look_eq (σ := σ)]
    · exact hl
    · obtain ⟨r, st⟩ := p
      cases r with
      | slot k j =>
        simp only [outside, Bool.not_eq_false'] at hp
        exact rootTV_of_drop (by rw [get_keep, if_pos (inL_iff.1 hp)])
      | cell o off =>
        simp only [outside] at hp
        have : o < n := by
          rcases Nat.lt_or_ge o n with h | h
          · exact h
          · rw [Nat.ble_eq_true_of_le h] at hp; cases hp
        simp only [AState.rootTV, AState.keep, List.getElem?_take, if_pos this]
      | obj o => rfl
  · obtain ⟨r, st⟩ := p
    cases r with
    | slot k j => trivial
    | cell o off =>
      simp only [outside] at hp
      simp only [Root.idOk, AState.keep, List.length_take] at hi ⊢
      rcases Nat.lt_or_ge o n with h | h
      · omega
      · rw [Nat.ble_eq_true_of_le h] at hp; cases hp
    | obj o =>
      simp only [outside] at hp
      simp only [Root.idOk, AState.keep, List.length_take] at hi ⊢
      rcases Nat.lt_or_ge o n with h | h
      · omega
      · rw [Nat.ble_eq_true_of_le h] at hp; cases hp
  · simp only [outside] at ho
    simp only [AState.keep, List.length_take]
    rcases Nat.lt_or_ge o n with h | h
    · omega
    · rw [Nat.ble_eq_true_of_le h] at ho; cases ho
  · simp only [AState.keep, List.length_take]; omega

/-- A new object. -/
def Gh.obj (g : Gh) (b o : Nat) : Gh :=
  { ow := fun k => match Nat.beq k b with | true => some (.obj o, []) | false => g.ow k, P := g.P, m := fun k => match Nat.beq k o with | true => b | false => g.m k }

theorem beq_ne {a b : Nat} (h : a ≠ b) : Nat.beq a b = false := by
  cases hb : Nat.beq a b with
  | false => rfl
  | true => exact absurd (Nat.eq_of_beq_eq_true hb) h

theorem Sat.newObj (h : Sat X g σ a w) {c : Array Value} {cs : List TV} (t : TypeId) (hc : CellsRel g.P w c cs) :
    Sat X (g.obj w.heap.size σ.heap.length) { σ with heap := σ.heap ++ [.cells t cs] } a (w.alloc (.cells c t)) := by
  have hold : ∀ b, b < w.heap.size → (w.alloc (.cells c t)).heap[b]? = w.heap[b]? := fun b hb => heap_alloc_old w _ hb
  have how : ∀ b p, g.ow b = some p → (g.obj w.heap.size σ.heap.length).ow b = some p := fun b p hb => by
    simp only [Gh.obj, beq_ne (Nat.ne_of_lt (h.lt b p hb).1)]; exact hb
  have U : Up g (g.obj w.heap.size σ.heap.length) σ { σ with heap := σ.heap ++ [.cells t cs] } w (w.alloc (.cells c t)) (fun _ => false) :=
    ⟨fun b hb => ⟨hb, hold b (h.frozen b hb).2⟩, fun b p hb _ => ⟨how b p hb, hold b (h.lt b p hb).1⟩, fun p _ z e m f hl => by
      obtain ⟨r, st⟩ := p
      rw [look_eq (σ := σ)]
      · exact hl
      · cases r with
        | slot k j => rfl
        | cell o off =>
          simp only [AState.rootTV]
          by_cases ho : o < σ.heap.length
          · rw [List.getElem?_append_left ho]
          · -- the old place did not exist: nothing was looked up there
            exfalso
            have hnone : σ.rootTV (.cell o off) = none := by simp [AState.rootTV, List.getElem?_eq_none (show σ.heap.length ≤ o by omega)]
            have hl' : σ.look (.cell o off, st) = none := by
              simp only [AState.look, hnone]
              clear hl
              induction st with
              | nil => rfl
              | cons x r ih => simp only [List.foldr_cons, ih, Option.bind_none]
            rw [hl'] at hl; cases hl
        | obj o => rfl, fun o _ ho => ⟨by simp only [Gh.obj, beq_ne (Nat.ne_of_lt ho)], by simp; omega⟩⟩
  have drop0 : ∀ sv : SV, sv.drop (fun _ => false) = sv := by
    have d1 : ∀ sv : SV, sv.drop1 (fun _ => false) = sv := by
      intro sv
      unfold SV.drop1
      cases sv <;> rfl
    intro sv
    rcases sv.three with ⟨vs, rfl⟩ | ⟨f, vs, rfl⟩ | hf
    · simp only [SV.drop]; congr 1; exact (List.map_congr_left fun x _ => d1 x).trans (List.map_id' vs)
    · simp only [SV.drop]; congr 1; exact (List.map_congr_left fun x _ => d1 x).trans (List.map_id' vs)
    · rw [drop_flat hf, d1]
  refine ⟨h.defers, h.size, fun k => ?_, fun o t' cs' ho => ?_, fun b b' p hb hb' => ?_, fun b hb => ?_, fun b p hb => ?_, fun b p hb => ?_, h.P0, h.P1, fun b hb h0 => ?_, h.os, h.tape, h.output, ?_, fun o ho => ?_, ?_⟩
  · have := U.slot (fun j st => rfl) (h.env k)
    rw [drop0] at this
    exact this
  · by_cases hlt : o < σ.heap.length
    · simp only [List.getElem?_append_left hlt] at ho
      obtain ⟨c', h1, h2, h3, h4⟩ := h.heap o t' cs' ho
      have hm : (g.obj w.heap.size σ.heap.length).m o = g.m o := by simp only [Gh.obj, beq_ne (Nat.ne_of_lt hlt)]
      rw [hm]
      refine ⟨c', by rw [hold _ (h.lt _ _ h2).1]; exact h1, how _ _ h2, h3, fun i y hy => ?_⟩
      obtain ⟨u, hu, hr⟩ := h4 i y hy
      exact ⟨u, hu, U.tv (fun _ => rfl) hr⟩
    · rw [List.getElem?_append_right (by omega)] at ho
      have ho' : o = σ.heap.length := by
        rcases Nat.lt_or_ge (o - σ.heap.length) 1 with hh | hh
        · omega
        · rw [List.getElem?_eq_none (by simpa using hh)] at ho; cases ho
      subst ho'
      simp only [Nat.sub_self, List.getElem?_cons_zero, Option.some.injEq, AObj.cells.injEq] at ho
      obtain ⟨rfl, rfl⟩ := ho
      have hm : (g.obj w.heap.size σ.heap.length).m σ.heap.length = w.heap.size := by simp [Gh.obj]
      rw [hm]
      refine ⟨c, heap_alloc_new w _, by simp [Gh.obj], hc.1, fun i y hy => ?_⟩
      obtain ⟨u, hu, hr⟩ := hc.2 i y hy
      exact ⟨u, hu, .fr (hr.mono fun b hb => ⟨hb, hold b (h.frozen b hb).2⟩)⟩
  · simp only [Gh.obj] at hb hb'
    have hnew : ∀ b, g.ow b ≠ some (.obj σ.heap.length, []) := fun b hb => by
      have := h.ids b _ hb
      simp only [Root.idOk] at this
      omega
    split at hb
    · rename_i e1
      split at hb'
      · rename_i e2
        exact (Nat.eq_of_beq_eq_true e1).trans (Nat.eq_of_beq_eq_true e2).symm
      · cases hb; exact absurd hb' (hnew b')
    · split at hb'
      · cases hb'; exact absurd hb (hnew b)
      · exact h.inj b b' p hb hb'
  · obtain ⟨h1, h2⟩ := h.frozen b hb
    exact ⟨by simp only [Gh.obj, beq_ne (Nat.ne_of_lt h2)]; exact h1, by simp; omega⟩
  · simp only [Gh.obj] at hb
    split at hb
    · rename_i e1
      have := Nat.eq_of_beq_eq_true e1
      subst this
      exact ⟨by simp, .inl h.mono⟩
    · obtain ⟨h1, h2⟩ := h.lt b p hb
      exact ⟨by simp; omega, h2⟩
  · simp only [Gh.obj] at hb
    split at hb
    · cases hb; simp [Root.idOk]
    · have := h.ids b p hb
      obtain ⟨r, st⟩ := p
      cases r <;> simp only [Root.idOk, List.length_append, List.length_singleton] at this ⊢ <;> omega
  · exact (hold b (by have := h.mono; omega)).trans (h.kept b hb h0)
  · have := h.mono; simp; omega
  · have := h.h0
    simp only [Gh.obj, beq_ne (show o ≠ σ.heap.length by omega)]
    exact h.m0 o ho
  · have := h.h0; simp; omega


/-- A block is a slot's own. -/
def Gh.give (g : Gh) (b : Nat) (p : Path) : Gh :=
  { g with ow := fun k => match Nat.beq k b with | true => some p | false => g.ow k }

theorem give_ne {g : Gh} {b k : Nat} {p : Path} (h : k ≠ b) : (g.give b p).ow k = g.ow k := by simp only [Gh.give, beq_ne h]
theorem give_eq {g : Gh} {b : Nat} {p : Path} : (g.give b p).ow b = some p := by simp [Gh.give]

/-- What a world that goes on keeps, but for one block. -/
structure Goes (w w' : World) (nb : Nat) : Prop where
  heap : ∀ b, b < w.heap.size → b ≠ nb → w'.heap[b]? = w.heap[b]?
  size : w.heap.size ≤ w'.heap.size
  os : w'.os = w.os
  tape : w'.tape = w.tape
  output : w'.output = w.output

/-- A slice that the call makes, or that it has made anew, goes into a slot. -/
theorem Sat.putOwn (h : Sat X g σ a w) {d : Nat} (hd : d < X.n) {nb : Nat} {w' : World} (hw : Goes w w' nb) (ho : g.ow nb = none) (hP : ¬ g.P nb)
    (hnew : X.w0.heap.size ≤ nb ∨ X.g0.ow nb ≠ none) (hlt : nb < w'.heap.size) {z n cap : Nat} {e : TypeId} {f : Nat → List TV} {c : Array Value} {cs : Nat → Nat → Value}
    (hc : Row w' nb e c) (hsz : c.size = cap * z) (hn : n ≤ cap) (hm : cap ≤ maxLen) (hz : ∀ i, i < n → (f i).length = z)
    (hcs : ∀ i j y, i < n → (f i)[j]? = some y → c[i * z + j]? = some (cs i j)) (hr : ∀ i j y, i < n → (f i)[j]? = some y → FRel g.P w (cs i j) y) :
    Sat X ((g.clr (under d)).give nb (.slot d 0, [])) (σ.put d (.tv (.own z e n f))) (a.put (some d) (.slice (some ⟨nb, 0, none⟩) n cap)) w' := by
  have hPs : ∀ b, g.P b → g.P b ∧ w'.heap[b]? = w.heap[b]? := fun b hb => ⟨hb, hw.heap b (h.frozen b hb).2 (fun e => hP (e ▸ hb))⟩
  have hK : ∀ b p, g.ow b = some p → under d p = false → ((g.clr (under d)).give nb (.slot d 0, [])).ow b = some p ∧ w'.heap[b]? = w.heap[b]? := fun b p hb hp => by
    have hne : b ≠ nb := by rintro rfl; rw [ho] at hb; cases hb
    exact ⟨by rw [give_ne hne]; exact clr_some.2 ⟨hb, hp⟩, hw.heap b (h.lt b p hb).1 hne⟩
  have U : Up g ((g.clr (under d)).give nb (.slot d 0, [])) σ (σ.put d (.tv (.own z e n f))) w w' (under d) :=
    ⟨hPs, hK, fun p hp z e m f hl => by rw [look_put _ _ _ _ hp]; exact hl, fun _ _ ho => ⟨rfl, ho⟩⟩
  have hts : a.tmps.size = X.n := h.size
  refine ⟨h.defers, by simp only [Act.put, Array.size_setIfInBounds]; exact hts, fun q => ?_, fun o t cs' ho' => ?_, fun b b' p hb hb' => ?_, fun b hb => ?_, fun b p hb => ?_, fun b p hb => ?_, h.P0, h.P1, fun b hb h0 => ?_, hw.os.trans h.os, hw.tape.trans h.tape, hw.output.trans h.output, Nat.le_trans h.mono hw.size, h.m0, h.h0⟩
  · rw [tmps_put _ _ _ _ (by omega), get_put]
    by_cases hq : q = d
    · subst hq
      simp only [if_true]
      exact TRel.own (p := (.slot q 0, [])) nb cap z e n f c cs give_eq hc hsz hn hm hz hcs fun i j y hi hy => .fr ((hr i j y hi hy).mono hPs)
    · rw [if_neg hq, if_neg hq]
      exact U.slot (fun j st => under_slot hq j st) (h.env q)
  · obtain ⟨c', h1, h2, h3, h4⟩ := h.heap o t cs' ho'
    obtain ⟨k1, k2⟩ := hK _ _ h2 rfl
    refine ⟨c', k2.trans h1, k1, h3, fun i y hy => ?_⟩
    obtain ⟨u, hu, hr⟩ := h4 i y hy
    exact ⟨u, hu, U.tv (fun _ => rfl) hr⟩
  · have no : ∀ b p, b ≠ nb → ((g.clr (under d)).give nb (.slot d 0, [])).ow b = some p → g.ow b = some p ∧ under d p = false := fun b p hne hb => by
      rw [give_ne hne] at hb; exact clr_some.1 hb
    by_cases e1 : b = nb
    · subst e1
      rw [give_eq] at hb
      cases hb
      by_cases e2 : b' = b
      · exact e2.symm
      · have := (no b' _ e2 hb').2
        simp [under] at this
    · by_cases e2 : b' = nb
      · subst e2
        rw [give_eq] at hb'
        cases hb'
        have := (no b _ e1 hb).2
        simp [under] at this
      · exact h.inj b b' p (no b p e1 hb).1 (no b' p e2 hb').1
  · have hne : b ≠ nb := fun e => hP (e ▸ hb)
    obtain ⟨h1, h2⟩ := h.frozen b hb
    exact ⟨by rw [give_ne hne]; exact clr_none h1, Nat.lt_of_lt_of_le h2 hw.size⟩
  · by_cases e1 : b = nb
    · subst e1; exact ⟨hlt, hnew⟩
    · rw [give_ne e1] at hb
      obtain ⟨h1, h2⟩ := h.lt b p (clr_some.1 hb).1
      exact ⟨Nat.lt_of_lt_of_le h1 hw.size, h2⟩
  · by_cases e1 : b = nb
    · subst e1; rw [give_eq] at hb; cases hb; trivial
    · rw [give_ne e1] at hb
      exact h.ids b p (clr_some.1 hb).1
  · have hne : b ≠ nb := by
      rintro rfl
      rcases hnew with h1 | h1
      · omega
      · exact h1 h0
    exact (hw.heap b (by have := h.mono; omega) hne).trans (h.kept b hb h0)

/-- The nil slice as a slice of the call's own. -/
theorem Sat.putNil (h : Sat X g σ a w) {d : Nat} (hd : d < X.n) (z : Nat) (e : TypeId) (f : Nat → List TV) :
    Sat X (g.clr (under d)) (σ.put d (.tv (.own z e 0 f))) (a.put (some d) (.slice none 0 0)) w :=
  h.putAny hd (.nil z e f)

/-- The places of a root. -/
def rootR : Root → Path → Bool
  | .slot k _ => under k
  | .cell o off => fun p => match p.1 with | .cell o' f => Nat.beq o o' && Nat.beq off f | _ => false
  | .obj _ => fun _ => true

def holeAt (cs : List TV) (off : Nat) : List TV := cs.set off .hole

def setCells (h : List AObj) (o : Nat) (f : List TV → List TV) : List AObj :=
  match h, o with
  | [], _ => []
  | .cells t cs :: r, 0 => .cells t (f cs) :: r
  | .dead :: r, 0 => .dead :: r
  | x :: r, o + 1 => x :: setCells r o f

theorem setCells_length (f : List TV → List TV) : ∀ (h : List AObj) (o : Nat), (setCells h o f).length = h.length
  | [], _ => rfl
  | .cells _ _ :: r, 0 => rfl
  | .dead :: r, 0 => rfl
  | .cells _ _ :: r, o + 1 => by simp only [setCells, List.length_cons, setCells_length f r o]
  | .dead :: r, o + 1 => by simp only [setCells, List.length_cons, setCells_length f r o]

theorem setCells_ne (f : List TV → List TV) : ∀ (h : List AObj) (o o' : Nat), o' ≠ o → (setCells h o f)[o']? = h[o']?
  | [], _, _, _ => rfl
  | .cells _ _ :: r, 0, o', ho => by cases o' with | zero => exact absurd rfl ho | succ o' => rfl
  | .dead :: r, 0, o', ho => rfl
  | .cells _ _ :: r, o + 1, o', ho => by
    cases o' with
    | zero => rfl
    | succ o' => simp only [setCells, List.getElem?_cons_succ]; exact setCells_ne f r o o' (by omega)
  | .dead :: r, o + 1, o', ho => by
    cases o' with
    | zero => rfl
    | succ o' => simp only [setCells, List.getElem?_cons_succ]; exact setCells_ne f r o o' (by omega)

theorem setCells_eq (f : List TV → List TV) : ∀ {h : List AObj} {o : Nat} {t : TypeId} {cs : List TV}, h[o]? = some (.cells t cs) → (setCells h o f)[o]? = some (.cells t (f cs))
  | [], _, _, _, h => by simp at h
  | .cells _ _ :: r, 0, _, _, h => by simp only [List.getElem?_cons_zero, Option.some.injEq, AObj.cells.injEq] at h; obtain ⟨rfl, rfl⟩ := h; rfl
  | .dead :: r, 0, _, _, h => by simp at h
  | .cells _ _ :: r, o + 1, _, _, h => by simp only [setCells, List.getElem?_cons_succ] at h ⊢; exact setCells_eq f h
  | .dead :: r, o + 1, _, _, h => by simp only [setCells, List.getElem?_cons_succ] at h ⊢; exact setCells_eq f h

theorem setCells_some (f : List TV → List TV) {h : List AObj} {o : Nat} {t : TypeId} {cs : List TV} (hs : (setCells h o f)[o]? = some (.cells t cs)) : ∃ cs0, h[o]? = some (.cells t cs0) ∧ cs = f cs0 := by
  cases hh : h[o]? with
  | none =>
    rw [List.getElem?_eq_none (by rw [setCells_length]; exact List.getElem?_eq_none_iff.1 hh)] at hs
    cases hs
  | some x =>
    cases x with
    | cells t' cs0 =>
      rw [setCells_eq f hh] at hs
      simp only [Option.some.injEq, AObj.cells.injEq] at hs
      obtain ⟨rfl, rfl⟩ := hs
      exact ⟨cs0, rfl, rfl⟩
    | dead =>
      exfalso
      have key : ∀ (h : List AObj) (o : Nat), h[o]? = some .dead → (setCells h o f)[o]? = some .dead := by
        intro h
        induction h with
        | nil => intro o h; simp at h
        | cons x r ih =>
          intro o ho
          cases o with
          | zero => simp only [List.getElem?_cons_zero, Option.some.injEq] at ho; subst ho; rfl
          | succ o => simp only [List.getElem?_cons_succ] at ho; cases x <;> simp only [setCells, List.getElem?_cons_succ] <;> exact ih o ho
      rw [key h o hh] at hs
      cases hs

/-- What is at a root is known no more. -/
def AState.kill (σ : AState) : Root → AState
  | .slot k _ => (σ.drop (under k)).set k .junk
  | .cell o off => { (σ.drop (rootR (.cell o off))) with heap := setCells σ.heap o (holeAt · off) }
  | .obj _ => σ

theorem Sat.kill (h : Sat X g σ a w) {r : Root} (hr : ∀ o, r ≠ .obj o) : Sat X (g.clr (rootR r)) (σ.kill r) a w := by
  cases r with
  | slot s j =>
    refine h.less (under s) (fun k => ?_) (fun o t cs ho => ⟨cs, ho, rfl, rfl, fun i y hy => .inr ⟨hy, fun _ => rfl⟩⟩) (fun p hp z e n f hl => ?_) (fun _ _ hi => hi) (fun _ _ ho => ho) h.h0
    · by_cases hk : k = s
      · exact .inl (by simp only [AState.kill, get_set, if_pos hk])
      · exact .inr ⟨by simp only [AState.kill, get_set, if_neg hk, get_drop], fun j st => under_slot hk j st⟩
    · simp only [AState.kill]
      rw [look_set _ _ _ _ hp, look_drop]
      exact hl
  | cell ob off =>
    have hcell : ∀ {o i : Nat} {st : Steps}, rootR (.cell ob off) (.cell o i, st) = false → ¬ (o = ob ∧ i = off) := by
      intro o i st hp hh
      obtain ⟨rfl, rfl⟩ := hh
      simp [rootR] at hp
    refine h.less (rootR (.cell ob off)) (fun k => .inr ⟨get_drop σ _ k, fun _ _ => rfl⟩) (fun o t cs ho => ?_) (fun p hp z e n f hl => ?_) (fun p _ hi => ?_) (fun o _ ho => ?_) ?_
    · by_cases hoo : o = ob
      · subst hoo
        obtain ⟨cs0, h0, rfl⟩ := setCells_some _ ho
        refine ⟨cs0, h0, by simp [holeAt], rfl, fun i y hy => ?_⟩
        simp only [holeAt, List.getElem?_set] at hy
        split at hy
        · split at hy
          · cases hy; exact .inl rfl
          · cases hy
        · rename_i hne
          exact .inr ⟨hy, fun st => by simp only [rootR, beq_ne hne, Bool.and_false]⟩
      · simp only [AState.kill] at ho
        rw [setCells_ne _ _ _ _ hoo] at ho
        exact ⟨cs, ho, rfl, rfl, fun i y hy => .inr ⟨hy, fun st => by simp only [rootR, beq_ne (Ne.symm hoo), Bool.false_and]⟩⟩
    · rw [look_eq (σ := σ)]
      · exact hl
      · obtain ⟨r, st⟩ := p
        cases r with
        | slot k j => exact rootTV_drop σ _ (.slot k j)
        | cell o i =>
          have hne := hcell hp
          simp only [AState.rootTV, AState.kill]
          by_cases hoo : o = ob
          · subst hoo
            cases hh : σ.heap[o]? with
            | none => rw [List.getElem?_eq_none (by rw [setCells_length]; exact List.getElem?_eq_none_iff.1 hh)]
            | some x =>
              cases x with
              | cells t cs =>
                rw [setCells_eq _ hh]
                simp only [holeAt, List.getElem?_set]
                rw [if_neg (fun e => hne ⟨rfl, e.symm⟩)]
              | dead =>
                cases hh' : (setCells σ.heap o (holeAt · off))[o]? with
                | none => rfl
                | some y =>
                  cases y with
                  | dead => rfl
                  | cells t cs => obtain ⟨cs0, h0, _⟩ := setCells_some _ hh'; rw [hh] at h0; cases h0
          · rw [setCells_ne _ _ _ _ hoo]
        | obj o => rfl
    · have e : (σ.kill (.cell ob off)).heap.length = σ.heap.length := setCells_length _ _ _
      rw [e]; exact hi
    · have e : (σ.kill (.cell ob off)).heap.length = σ.heap.length := setCells_length _ _ _
      rw [e]; exact ho
    · have e : (σ.kill (.cell ob off)).heap.length = σ.heap.length := setCells_length _ _ _
      rw [e]; exact h.h0
  | obj o => exact absurd rfl (hr o)

end
end Go.Sx
