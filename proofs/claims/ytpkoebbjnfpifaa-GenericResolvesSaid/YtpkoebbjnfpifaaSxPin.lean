/- An object that nobody writes any more; no condition. -/
import Derived.Test.YtpkoebbjnfpifaaSxAny
namespace Go.Sx
open Go

def SV.pin1 (o : Nat) (cs : List TV) : SV → SV
  | .pc o' off => match Nat.beq o' o with | true => .rp (cs.drop off) | false => .pc o' off
  | s => s

def SV.pin (o : Nat) (cs : List TV) : SV → SV
  | .tup vs => .tup (vs.map (SV.pin1 o cs))
  | .fn f vs => .fn f (vs.map (SV.pin1 o cs))
  | s => s.pin1 o cs

theorem pin_flat {o : Nat} {cs : List TV} {s : SV} (h : s.flat = true) : s.pin o cs = s.pin1 o cs := by cases s <;> first | rfl | cases h

theorem pin1_tv {o : Nat} {cs : List TV} {s : SV} {x : TV} : s.pin1 o cs = .tv x ↔ s = .tv x := by
  cases s with
  | pc o' off =>
    simp only [SV.pin1]
    cases Nat.beq o' o <;> simp
  | _ => simp [SV.pin1]

def setDead : List AObj → Nat → List AObj
  | [], _ => []
  | _ :: r, 0 => .dead :: r
  | x :: r, o + 1 => x :: setDead r o

theorem setDead_length : ∀ (h : List AObj) (o : Nat), (setDead h o).length = h.length
  | [], _ => rfl
  | _ :: _, 0 => rfl
  | _ :: r, o + 1 => by simp [setDead, setDead_length r o]

theorem setDead_ne : ∀ (h : List AObj) (o k : Nat), k ≠ o → (setDead h o)[k]? = h[k]?
  | [], _, _, _ => rfl
  | x :: r, 0, k, hk => by
    cases k with
    | zero => exact absurd rfl hk
    | succ k => rfl
  | x :: r, o + 1, k, hk => by
    cases k with
    | zero => rfl
    | succ k =>
      simp only [setDead, List.getElem?_cons_succ]
      exact setDead_ne r o k (by omega)

theorem setDead_eq : ∀ (h : List AObj) (o : Nat) {t : TypeId} {cs : List TV}, (setDead h o)[o]? ≠ some (.cells t cs)
  | [], _, _, _ => by simp [setDead]
  | _ :: _, 0, _, _ => by simp [setDead]
  | x :: r, o + 1, t, cs => by simp only [setDead, List.getElem?_cons_succ]; exact setDead_eq r o

def AState.pin (σ : AState) (o : Nat) (cs : List TV) : AState := ⟨σ.env.map fun e => (e.1, e.2.pin o cs), setDead σ.heap o⟩

theorem get_pin (σ : AState) (o : Nat) (cs : List TV) (k : Nat) : (σ.pin o cs).get k = (σ.get k).pin o cs := by
  simp only [AState.get, AState.pin]
  induction σ.env with
  | nil => rfl
  | cons e l ih =>
    simp only [List.map_cons, lookS]
    cases Nat.beq e.1 k <;> simp [ih]

theorem rootTV_pin (σ : AState) (o : Nat) (cs : List TV) (r : Root) (h : ∀ off, r ≠ .cell o off) : (σ.pin o cs).rootTV r = σ.rootTV r := by
  cases r with
  | slot k j =>
    simp only [AState.rootTV, get_pin]
    cases σ.get k with
    | pc o' off => simp only [SV.pin, SV.pin1]; cases Nat.beq o' o <;> rfl
    | tup vs =>
      simp only [SV.pin, tupAt, List.getElem?_map]
      cases vs[j]? with
      | none => rfl
      | some s =>
        simp only [Option.map_some]
        cases s with
        | pc o' off => simp only [SV.pin1]; cases Nat.beq o' o <;> rfl
        | _ => rfl
    | _ => rfl
  | cell o' off =>
    have : o' ≠ o := by rintro rfl; exact h off rfl
    simp only [AState.rootTV, AState.pin, setDead_ne _ _ _ this]
  | obj o' => rfl

section
variable {X : Ctx} {g : Gh} {σ : AState} {a : Act} {w : World}

theorem look_cell {o : Nat} {t : TypeId} {cs : List TV} (ho : σ.heap[o]? = some (.cells t cs)) (hp : cs.all TV.plain = true) (off : Nat) : ∀ (st : Steps) {x : TV}, σ.look (.cell o off, st) = some x → x.plain = true
  | [], x, h => by
    have h' : σ.rootTV (.cell o off) = some x := h
    simp only [AState.rootTV, ho] at h'
    rw [List.all_eq_true] at hp
    exact hp x (List.mem_of_getElem? h')
  | ij :: st, x, h => by
    rw [look_cons] at h
    obtain ⟨y, hy, he⟩ := Option.bind_eq_some_iff.1 h
    have := look_cell ho hp off st hy
    cases y with
    | own => cases this
    | hole => cases this
    | _ => cases he

theorem Sat.pin (h : Sat X g σ a w) {o : Nat} {t : TypeId} {cs : List TV} (ho : σ.heap[o]? = some (.cells t cs)) (hp : cs.all TV.plain = true) : Sat X (g.frz (g.m o)) (σ.pin o cs) a w := by
  obtain ⟨c0, h1, h2, h3, h4⟩ := h.heap o t cs ho
  have hne : ∀ b p, g.ow b = some p → p ≠ (.obj o, []) → b ≠ g.m o := by
    rintro b p hb hpn rfl
    rw [h2] at hb
    cases hb
    exact hpn rfl
  have hK : ∀ b p, g.ow b = some p → p ≠ (.obj o, []) → (g.frz (g.m o)).ow b = some p := fun b p hb hpn => by
    rw [frz_ne (hne b p hb hpn)]; exact hb
  have hO' : ∀ b p, (g.frz (g.m o)).ow b = some p → g.ow b = some p ∧ b ≠ g.m o := fun b p hb => by
    by_cases e : b = g.m o
    · subst e; simp [Gh.frz] at hb
    · rw [frz_ne e] at hb; exact ⟨hb, e⟩
  have hP : ∀ b, g.P b → (g.frz (g.m o)).P b ∧ w.heap[b]? = w.heap[b]? := fun b hb => ⟨.inl hb, rfl⟩
  have htv : ∀ {p : Path} {v : Value} {x : TV}, p.1 ≠ .obj o → TRel g w p v x → TRel (g.frz (g.m o)) w p v x := fun {p v x} hr hx =>
    hx.mono hP fun b st hb => ⟨hK b _ hb (fun e => hr (congrArg Prod.fst e)), rfl⟩
  have hlook : ∀ p : Path, ∀ z e n f, σ.look p = some (.own z e n f) → (σ.pin o cs).look p = some (.own z e n f) := fun p z e n f hl => by
    rw [← hl]
    refine look_eq (rootTV_pin σ o cs p.1 fun off he => ?_)
    have := look_cell ho hp off p.2 (x := .own z e n f) (by rw [← he]; exact hl)
    cases this
  have hs1 : ∀ {k j : Nat} {v : Value} {s : SV}, S1 g w σ k j v s → S1 (g.frz (g.m o)) w (σ.pin o cs) k j v (s.pin1 o cs) := by
    intro k j v s hs
    cases s with
    | junk => trivial
    | tv x => exact htv (p := (.slot k j, [])) (by simp) hs
    | agg xs =>
      obtain ⟨vs, rfl, hsz, hc⟩ := hs
      refine ⟨vs, rfl, hsz, fun i y hy => ?_⟩
      obtain ⟨u, hu, hr⟩ := hc i y hy
      exact ⟨u, hu, htv (by simp) hr⟩
    | tup vs => exact hs.elim
    | fn f vs => exact hs.elim
    | pc o' off =>
      obtain ⟨hv, hl⟩ := hs
      simp only [SV.pin1]
      cases hb : Nat.beq o' o with
      | false => exact ⟨hv, by rw [AState.pin, setDead_length]; exact hl⟩
      | true =>
        obtain rfl := Nat.eq_of_beq_eq_true hb
        refine ⟨g.m o', off, hv, .inr rfl, fun i y hy => ?_⟩
        rw [List.getElem?_drop] at hy
        obtain ⟨u, hu, hr⟩ := h4 (off + i) y hy
        rw [List.all_eq_true] at hp
        exact ⟨u, (cell_of_row w (g.m o') (off + i) c0 t (0, 0) h1).trans hu, (hr.plain (hp y (List.mem_of_getElem? hy))).mono hP⟩
    | pe p i j z =>
      obtain ⟨b, e, n, f, hl, hi, hb, hv⟩ := hs
      have hl' := hlook p z e n f hl
      refine ⟨b, e, n, f, hl', hi, hK b p hb ?_, hv⟩
      rintro rfl
      rw [look_obj] at hl; cases hl
    | rp xs =>
      obtain ⟨b, off, hv, hb, hc⟩ := hs
      refine ⟨b, off, hv, .inl hb, fun i y hy => ?_⟩
      obtain ⟨u, hu, hr⟩ := hc i y hy
      exact ⟨u, hu, hr.mono hP⟩
    | al p =>
      obtain ⟨z, e, n, f, hl, hv⟩ := hs
      have hl' := hlook p z e n f hl
      refine ⟨z, e, n, f, hl', ?_⟩
      rcases hv with hv | ⟨b, cap, c, hb, hv⟩
      · exact .inl hv
      · refine .inr ⟨b, cap, c, hK b p hb ?_, hv⟩
        rintro rfl
        rw [look_obj] at hl; cases hl
  refine ⟨h.defers, h.size, fun k => ?_, fun o' t' cs' ho' => ?_, fun b b' p hb hb' => h.inj b b' p (hO' _ _ hb).1 (hO' _ _ hb').1, fun b hb => ?_, fun b p hb => h.lt b p (hO' _ _ hb).1, fun b p hb => ?_, fun b hb => ?_, fun b hb => .inl (h.P1 b hb), h.kept, h.os, h.tape, h.output, h.mono, h.m0, ?_⟩
  · have hk := h.env k
    rw [get_pin]
    rcases (σ.get k).three with ⟨vs, hv⟩ | ⟨f, vs, hv⟩ | hf
    · rw [hv] at hk ⊢
      obtain ⟨us, hu, hsz, hc⟩ := hk
      refine ⟨us, hu, by simpa using hsz, fun j sv hj => ?_⟩
      rw [List.getElem?_map] at hj
      obtain ⟨s0, hs0, rfl⟩ := Option.map_eq_some_iff.1 hj
      obtain ⟨u, hu', hr⟩ := hc j s0 hs0
      exact ⟨u, hu', hs1 hr⟩
    · rw [hv] at hk ⊢
      obtain ⟨us, hu, hsz, hc⟩ := hk
      refine ⟨us, hu, by simpa using hsz, fun j sv hj => ?_⟩
      rw [List.getElem?_map] at hj
      obtain ⟨s0, hs0, rfl⟩ := Option.map_eq_some_iff.1 hj
      obtain ⟨u, hu', hr⟩ := hc j s0 hs0
      exact ⟨u, hu', hs1 hr⟩
    · rw [pin_flat hf]
      rw [SR_flat hf] at hk
      have := hs1 hk
      rw [SR_flat this.flat]
      exact this
  · have hoo : o' ≠ o := by
      rintro rfl
      exact setDead_eq σ.heap o' ho'
    have ho'' : σ.heap[o']? = some (.cells t' cs') := by rw [← setDead_ne σ.heap o o' hoo]; exact ho'
    obtain ⟨c, k1, k2, k3, k4⟩ := h.heap o' t' cs' ho''
    refine ⟨c, k1, hK _ _ k2 (by simp [hoo]), k3, fun i y hy => ?_⟩
    obtain ⟨u, hu, hr⟩ := k4 i y hy
    exact ⟨u, hu, htv (by simp) hr⟩
  · rcases hb with hb | rfl
    · have := h.frozen b hb
      refine ⟨?_, this.2⟩
      by_cases e : b = g.m o
      · subst e; simp [Gh.frz]
      · rw [frz_ne e]; exact this.1
    · exact ⟨by simp [Gh.frz], (Array.getElem?_eq_some_iff.1 h1).1⟩
  · have := h.ids b p (hO' _ _ hb).1
    simp only [AState.pin, setDead_length]
    exact this
  · rcases hb with hb | rfl
    · exact h.P0 b hb
    · exact .inr (h.lt _ _ h2).2
  · simp only [AState.pin, setDead_length]; exact h.h0

end

section
variable {F : Cfg} {Q : Exit → AState → Prop} {σ : AState}

theorem AWp.pin {c : Code} (o : Nat) {t : TypeId} {cs : List TV} (ho : σ.heap[o]? = some (.cells t cs)) (hp : cs.all TV.plain = true) (h : AWp F c Q (σ.pin o cs)) : AWp F c Q σ := fun w0 g0 _ a w hs =>
  h w0 g0 _ a w (hs.pin ho hp)

theorem AOps.pin {ops : Array Oper} {l : List Nat} (o : Nat) {t : TypeId} {cs : List TV} (ho : σ.heap[o]? = some (.cells t cs)) (hp : cs.all TV.plain = true) (h : AOps F ops Q l (σ.pin o cs)) : AOps F ops Q l σ := fun w0 g0 _ a w hs =>
  h w0 g0 _ a w (hs.pin ho hp)

end
end Go.Sx
