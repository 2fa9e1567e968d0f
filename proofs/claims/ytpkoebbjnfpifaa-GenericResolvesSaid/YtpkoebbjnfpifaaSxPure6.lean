/- The same: slices of slices and strings, structs out of parts, the greatest and the least; no condition. -/
import Derived.Test.YtpkoebbjnfpifaaSxPure5
namespace Go.Sx
open Go

/-- Cells side by side. -/
def CellsRel (P : Nat → Prop) (w : World) (vs : Array Value) (cs : List TV) : Prop :=
  vs.size = cs.length ∧ ∀ (i : Nat) y, cs[i]? = some y → ∃ u, vs[i]? = some u ∧ FRel P w u y

theorem CellsRel.set {P : Nat → Prop} {w : World} {vs : Array Value} {cs : List TV} (h : CellsRel P w vs cs) {v : Value} {y : TV} (hv : FRel P w v y) (i : Nat) :
    CellsRel P w (vs.setIfInBounds i v) (cs.set i y) := by
  refine ⟨by simp [h.1], fun j x hx => ?_⟩
  rw [List.getElem?_set] at hx
  rw [Array.getElem?_setIfInBounds]
  by_cases hij : i = j
  · rw [if_pos hij] at hx ⊢
    split at hx
    · rename_i hlt
      cases hx
      rw [if_pos (by rw [h.1]; omega)]
      exact ⟨v, rfl, hv⟩
    · cases hx
  · rw [if_neg hij] at hx ⊢
    exact h.2 j x hx

theorem CellsRel.putAt {P : Nat → Prop} {w : World} : ∀ (ys : List TV) (us : List Value) (off : Nat) {vs : Array Value} {cs : List TV}, CellsRel P w vs cs → us.length = ys.length →
    (∀ (i : Nat) y, ys[i]? = some y → ∃ u, us[i]? = some u ∧ FRel P w u y) → CellsRel P w (us.zipIdx.foldl (fun cs (p : Value × Nat) => cs.setIfInBounds (off + p.2) p.1) vs) (putAt cs off ys) := by
  have key : ∀ (ys : List TV) (us : List Value) (off k : Nat) {vs : Array Value} {cs : List TV}, CellsRel P w vs cs → us.length = ys.length →
    (∀ (i : Nat) y, ys[i]? = some y → ∃ u, us[i]? = some u ∧ FRel P w u y) → CellsRel P w ((us.zipIdx k).foldl (fun cs (p : Value × Nat) => cs.setIfInBounds (off + p.2) p.1) vs) (Sx.putAt cs (off + k) ys) := by
    intro ys
    induction ys with
    | nil =>
      intro us off k vs cs h hl _
      obtain rfl := List.eq_nil_of_length_eq_zero hl
      exact h
    | cons y ys ih =>
      intro us off k vs cs h hl hr
      cases us with
      | nil => simp at hl
      | cons u us =>
        obtain ⟨u', hu', hr0⟩ := hr 0 y rfl
        simp only [List.getElem?_cons_zero, Option.some.injEq] at hu'
        subst hu'
        simp only [List.zipIdx_cons, List.foldl_cons, Sx.putAt]
        have := ih us off (k + 1) (h.set hr0 (off + k)) (by simpa using hl) fun i x hx => hr (i + 1) x (by simpa using hx)
        rw [Nat.add_assoc] 
        exact this
  intro ys us off vs cs h hl hr
  exact key ys us off 0 h hl hr

section
variable {X : Ctx} {g : Gh} {σ : AState} {a : Act} {w : World} {T : Tab}

theorem parts_rel (hs : Sat X g σ a w) : ∀ {xs : List (Nat × Operand)} {ps : List (Nat × List TV)}, partsOf σ xs = some ps →
    ps.length = xs.length ∧ ∀ (j : Nat) p, ps[j]? = some p → ∃ x, xs[j]? = some x ∧ x.1 = p.1 ∧ CellsRel g.P w (a.eval x.2).cells p.2
  | [], ps, h => by
    simp only [partsOf, Option.some.injEq] at h; subst h
    exact ⟨rfl, fun j p h => by simp at h⟩
  | (i, x) :: r, ps, h => by
    simp only [partsOf] at h
    obtain ⟨k, hk⟩ := ev_rel hs x
    split at h
    · rename_i y ps' hx hps'
      split at h
      · rename_i hp
        cases h
        obtain ⟨h1, h2⟩ := parts_rel hs hps'
        refine ⟨by simp [h1], fun j p hj => ?_⟩
        cases j with
        | zero =>
          simp only [List.getElem?_cons_zero, Option.some.injEq] at hj
          subst hj
          rw [hx] at hk
          have hr := TRel.plain (g := g) (p := (.slot k 0, [])) (x := y) hk hp
          have hc : (a.eval x).cells = #[a.eval x] := by
            have := hr.one
            cases hv : a.eval x <;> first | rfl | (rw [hv] at this; cases this)
          refine ⟨(i, x), rfl, rfl, ?_⟩
          simp only [hc]
          refine ⟨rfl, fun q y' hy' => ?_⟩
          cases q with
          | zero => simp only [List.getElem?_cons_zero, Option.some.injEq] at hy'; subst hy'; exact ⟨_, rfl, hr⟩
          | succ q => simp at hy'
        | succ j => simp only [List.getElem?_cons_succ] at hj ⊢; exact h2 j p hj
      · cases h
    · rename_i cs ps' hx hps'
      split at h
      · rename_i hp
        cases h
        obtain ⟨h1, h2⟩ := parts_rel hs hps'
        refine ⟨by simp [h1], fun j p hj => ?_⟩
        cases j with
        | zero =>
          simp only [List.getElem?_cons_zero, Option.some.injEq] at hj
          subst hj
          rw [hx] at hk
          obtain ⟨vs, hv, hsz, hc⟩ := agg_plain hk hp
          refine ⟨(i, x), rfl, rfl, ?_⟩
          simp only [hv, Value.cells]
          exact ⟨hsz, hc⟩
        | succ j => simp only [List.getElem?_cons_succ] at hj ⊢; exact h2 j p hj
      · cases h
    · cases h

theorem fill_rel {P : Nat → Prop} {place : Nat → Option (Nat × Nat)} : ∀ {ps : List (Nat × List TV)} {us : List (Nat × Value)} {vs : Array Value} {cs cs' : List TV}, fillTV place cs ps = some cs' → us.length = ps.length →
    (∀ (j : Nat) p, ps[j]? = some p → ∃ u, us[j]? = some u ∧ u.1 = p.1 ∧ CellsRel P w u.2.cells p.2) → CellsRel P w vs cs → ∃ vs', Instr.fill place vs us = some vs' ∧ CellsRel P w vs' cs'
  | [], us, vs, cs, cs', h, hl, _, hc => by
    simp only [fillTV, Option.some.injEq] at h; subst h
    obtain rfl := List.eq_nil_of_length_eq_zero hl
    exact ⟨vs, rfl, hc⟩
  | (i, ys) :: ps, us, vs, cs, cs', h, hl, hr, hc => by
    cases us with
    | nil => simp at hl
    | cons u us =>
      obtain ⟨u', hu', h1, h2⟩ := hr 0 _ rfl
      simp only [List.getElem?_cons_zero, Option.some.injEq] at hu'
      subst hu'
      obtain ⟨ui, uv⟩ := u
      simp only at h1 h2
      subst h1
      simp only [fillTV] at h
      simp only [Instr.fill]
      split at h
      · cases h
      · rename_i off size hpl
        split at h
        · rename_i hb
          rw [Bool.and_eq_true] at hb
          have hb1 : ys.length = size := Nat.eq_of_beq_eq_true hb.1
          have hb2 : off + ys.length ≤ cs.length := Nat.le_of_ble_eq_true hb.2
          rw [hpl]
          simp only
          rw [if_neg (by simp only [Bool.or_eq_true, decide_eq_true_eq, not_or]; exact ⟨by simp [h2.1, hb1], by rw [h2.1, hc.1]; omega⟩)]
          have hput := CellsRel.putAt ys uv.cells.toList off hc (by simpa using h2.1) fun q y hy => by
            obtain ⟨u, hu, hr'⟩ := h2.2 q y hy
            exact ⟨u, by rw [Array.getElem?_toList]; exact hu, hr'⟩
          rw [show uv.cells.zipIdx.foldl (fun cs (c, j) => cs.setIfInBounds (off + j) c) vs = uv.cells.toList.zipIdx.foldl (fun cs (p : Value × Nat) => cs.setIfInBounds (off + p.2) p.1) vs by
            rw [← Array.foldl_toList, Array.toList_zipIdx]]
          exact fill_rel h (by simpa using hl) (fun j p hj => hr (j + 1) p (by simpa using hj)) hput
        · cases h

theorem places_run (hT : TabOk X.P T) : ∀ {fs : List Field} {pl : List (Nat × Nat)}, placesOf T fs = some pl →
    (fs.mapM (fun f => do pure (f.offset, ← sizeOf f.type)) : Sem (List (Nat × Nat))).run X.P w = .ok pl w
  | [], pl, h => by simp only [placesOf, Option.some.injEq] at h; subst h; rfl
  | f :: r, pl, h => by
    simp only [placesOf] at h
    split at h
    · rename_i n l hn hl
      cases h
      obtain ⟨i, hi, hsz⟩ := hT.info hn
      rw [List.mapM_cons]
      simp only [Sem.run_bind, run_size hi, Result.andThen_ok, Sem.run_pure, places_run hT hl, hsz]
    · cases h

theorem build_sound (hT : TabOk X.P T) (hs : Sat X g σ a w) {t : TypeId} {parts : Array (Nat × Operand)} {cs : List Prop} {sv : SV} {o : Oper} (ho : o.op = .build t parts)
    (h : evalPure T σ (.build t parts) = some (cs, sv)) : Comes0 X g σ a w o sv := by
  simp only [evalPure] at h
  split at h
  · rename_i ti hti
    split at h
    · rename_i fs ps hund hps
      split at h
      · rename_i pl hpl
        split at h
        · rename_i cells hfill
          cases h
          obtain ⟨hu0, i, z, hi, hsz, hby, hz, hzc, hzl, hz1, hag, _⟩ := hT t ti hti
          have hu : X.P.underlying t = some (.struct fs) := by rw [← hund]; exact hu0
          obtain ⟨h1, h2⟩ := parts_rel hs hps
          have hzero : CellsRel g.P w z.cells (ti.zero.map cTV) := by
            refine ⟨by rw [← Array.length_toList, hzc]; simp, fun q y hy => ?_⟩
            rw [List.getElem?_map] at hy
            obtain ⟨u, hu', rfl⟩ := Option.map_eq_some_iff.1 hy
            refine ⟨u, by rw [← Array.getElem?_toList, hzc]; exact hu', cTV_rel ?_⟩
            rw [List.all_eq_true] at hz1
            exact hz1 u (List.mem_of_getElem? hu')
          obtain ⟨vs, hvs, hrel⟩ := fill_rel (P := g.P) (w := w) (us := (parts.toList.map fun (p : Nat × Operand) => (p.1, a.eval p.2))) (vs := z.cells) hfill (by simp [h1]) (fun j p hj => by
            obtain ⟨x, hx, e1, e2⟩ := h2 j p hj
            exact ⟨(x.1, a.eval x.2), by rw [List.getElem?_map, hx]; rfl, e1, e2⟩) hzero
          have hplain : cells.all TV.plain = true := by
            rw [List.all_eq_true]
            intro y hy
            obtain ⟨q, hq⟩ := List.getElem?_of_mem hy
            obtain ⟨u, _, hr⟩ := hrel.2 q y hq
            cases hr <;> rfl
          refine ⟨.agg vs, fun w' => ?_, ⟨0, vs, rfl, hrel.1, fun q y hy => by obtain ⟨u, hu', hr⟩ := hrel.2 q y hy; exact ⟨u, hu', .fr hr⟩⟩, hplain⟩
          simp only [execOp, ho, Instr.build]
          have hzv : (zeroValue t).run X.P w' = .ok z w' := by
            simp only [zeroValue, typeInfo, Sem.run_bind, run_program, Result.andThen_ok, hi, Sem.run_pure, hz]
          have hm : (fs.mapM (fun f => do pure (f.offset, ← sizeOf f.type)) : Sem (Array (Nat × Nat))).run X.P w' = .ok pl.toArray w' := by
            rw [← Array.toArray_toList (xs := fs), List.mapM_toArray, Sem.run_map, places_run hT hpl]
            rfl
          simp only [Sem.run_bind, hzv, Result.andThen_ok, run_underlying hu, hm]
          have hpt : (parts.map fun (x : Nat × Operand) => (x.1, a.eval x.2)).toList = parts.toList.map fun (p : Nat × Operand) => (p.1, a.eval p.2) := by simp
          rw [show (fun x => pl.toArray[x]?) = fun i => pl[i]? from funext fun i => by simp]
          simp only [hpt, hvs, Sem.run_pure, Result.andThen_ok]
        · cases h
      · cases h
    · cases h
  · cases h

end
end Go.Sx
