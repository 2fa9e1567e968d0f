/- The same: loads, fields, indexes; no condition. -/
import Derived.Test.YtpkoebbjnfpifaaSxPure2
namespace Go.Sx
open Go

section
variable {X : Ctx} {g : Gh} {σ : AState} {a : Act} {w : World} {T : Tab}

theorem exists_list {p : Nat → Value → Prop} : ∀ (n : Nat), (∀ i, i < n → ∃ v, p i v) → ∃ vs : List Value, vs.length = n ∧ ∀ (i : Nat) v, vs[i]? = some v → p i v
  | 0, _ => ⟨[], rfl, fun i v h => by simp at h⟩
  | n + 1, h => by
    obtain ⟨vs, hl, hv⟩ := exists_list n fun i hi => h i (by omega)
    obtain ⟨v, hp⟩ := h n (by omega)
    refine ⟨vs ++ [v], by simp [hl], fun i u hu => ?_⟩
    by_cases hi : i < vs.length
    · rw [List.getElem?_append_left hi] at hu; exact hv i u hu
    · rw [List.getElem?_append_right (by omega)] at hu
      obtain rfl : i = n := by
        have : i - vs.length < 1 := by
          by_cases h1 : i - vs.length < 1
          · exact h1
          · rw [List.getElem?_eq_none (by simp; omega)] at hu; cases hu
        omega
      rw [hl, Nat.sub_self] at hu
      cases hu
      exact hp

theorem run_isAgg {P : Program} {t : TypeId} {d : TypeDesc} (h : P.underlying t = some d) (w : World) : (isAgg t).run P w = .ok (isAggD d) w := by
  unfold isAgg
  rw [Sem.run_bind, run_underlying h]
  cases d <;> rfl

theorem run_size {P : Program} {t : TypeId} {i : TypeInfo} (h : P.info? t = some i) (w : World) : (sizeOf t).run P w = .ok i.size w := by
  rw [run_sizeOf w h]; simp [Program.cellsOf, h]

/-- Cells that can be read, as a value. -/
theorem loadVar_sound {P : Program} {t : TypeId} {ti : TI} (hti : TIOk P t ti) {A : Addr} {cs : List TV} {s : SV} (hA : CellsAt g w A cs) (hc : ofCells (isAggD ti.und) ti.size cs = some s) :
    ∃ v, (∀ w', (∀ i, w'.cell? (A.add i) = w.cell? (A.add i)) → (loadVar t A).run P w' = .ok v w') ∧ SR g w σ 0 v s ∧ s.pure = true := by
  obtain ⟨hu, i, z, hi, hsz, hby, hz, hzc, hzl, hz1, hag, _⟩ := hti
  unfold loadVar
  simp only [Sem.run_bind, run_isAgg hu, Result.andThen_ok]
  unfold ofCells at hc
  cases hb : Nat.beq cs.length ti.size && cs.all TV.plain with
  | false => rw [hb] at hc; cases hc
  | true =>
    rw [hb] at hc
    rw [Bool.and_eq_true] at hb
    obtain ⟨hlen, hp⟩ := hb
    have hl : cs.length = ti.size := Nat.eq_of_beq_eq_true hlen
    have hp' := hp
    rw [List.all_eq_true] at hp'
    cases hagg : isAggD ti.und with
    | true =>
      rw [hagg] at hc
      cases hc
      simp only [if_true]
      obtain ⟨vs, hvl, hvs⟩ := exists_list (p := fun i v => w.cell? (A.add i) = some v ∧ ∀ y, cs[i]? = some y → FRel g.P w v y) cs.length fun i hi => by
        obtain ⟨u, hu, hr⟩ := hA i cs[i] (by simp [hi]) (hp' _ (List.getElem_mem hi))
        exact ⟨u, hu, fun y hy => by rw [List.getElem?_eq_getElem hi] at hy; cases hy; exact hr⟩
      refine ⟨.agg vs.toArray, fun w' hw => ?_, ⟨vs.toArray, rfl, by simp [hvl], fun i y hy => ?_⟩, hp⟩
      · rw [Sem.run_bind, run_size hi, Result.andThen_ok, hsz, ← hl, ← hvl, Sem.run_bind, run_loadCells_list w' A vs fun j v hv => (hw j).trans (hvs j v hv).1]
        rfl
      · have hi' : i < cs.length := by
          by_cases h : i < cs.length
          · exact h
          · rw [List.getElem?_eq_none (by omega)] at hy; cases hy
        have hv : vs[i]? = some vs[i] := List.getElem?_eq_getElem (by omega)
        exact ⟨vs[i], by simp, .fr ((hvs i _ hv).2 y hy)⟩
    | false =>
      rw [hagg] at hc
      simp only at hc
      split at hc
      · rename_i x
        cases hc
        have hpx : x.plain = true := hp' x (by simp)
        obtain ⟨u, hu, hr⟩ := hA 0 x rfl hpx
        refine ⟨u, fun w' hw => ?_, .fr hr, hpx⟩
        have h0 : A.add 0 = A := by simp [Addr.add]
        have hw0 := hw 0
        rw [h0] at hu hw0
        simp only [Bool.false_eq_true, if_false]
        rw [run_load, hw0, hu]
      · cases hc

theorem load_sound (hT : TabOk X.P T) (hs : Sat X g σ a w) {t : TypeId} {x : Operand} {cs : List Prop} {sv : SV} {o : Oper} (ho : o.op = .load t x)
    (h : evalPure T σ (.load t x) = some (cs, sv)) : Comes1 X g σ a w o sv := by
  simp only [evalPure] at h
  split at h
  · rename_i ti hti
    split at h
    · rename_i cells hcells
      obtain ⟨k, hk⟩ := ev_rel hs x
      obtain ⟨b, off, hv, hA⟩ := cellsAt_rel hs hk hcells
      split at h
      · rename_i s hof
        cases h
        obtain ⟨v, hrun, hr, hp⟩ := loadVar_sound (σ := σ) (hT t ti hti) hA hof
        refine ⟨v, ?_, ⟨0, hr⟩, hp⟩
        simp only [execOp, ho, Instr.loadAt, hv, Instr.sureAddr, pure_bind]
        rw [Sem.run_bind, hrun w fun _ => rfl]; rfl
      · split at h
        · rename_i o' off' hx hag how
          cases h
          have hx' := hk
          rw [hx] at hx'
          obtain ⟨hv', _⟩ := (show S1 g w σ k 0 (a.eval x) (.pc o' off') from hx')
          simp only [hx, AState.cellsAt] at hcells
          split at hcells
          · rename_i t' cs' hh
            simp only [Option.some.injEq] at hcells
            obtain ⟨c, h1, _, _, h4⟩ := hs.heap o' t' cs' hh
            unfold ownCell at how
            split at how
            · rename_i z e n f _
              have hy : cs'[off']? = some (.own z e n f) := by
                have : ((cs'.drop off').take ti.size)[0]? = some (.own z e n f) := by rw [hcells]; rfl
                rw [List.getElem?_take] at this
                split at this
                · rw [List.getElem?_drop, Nat.add_zero] at this; exact this
                · cases this
              obtain ⟨u, hu, hr⟩ := h4 off' _ hy
              have hl : σ.look (.cell o' off', []) = some (.own z e n f) := by simp only [AState.look, AState.rootTV, hh, List.foldr_nil]; exact hy
              refine ⟨u, ?_, ⟨0, al_of_own hl hr 0 0⟩, rfl⟩
              obtain ⟨hu', _⟩ := hT t ti hti
              simp only [execOp, ho, Instr.loadAt, hv', Instr.sureAddr, pure_bind, loadVar]
              rw [Sem.run_bind, Sem.run_bind, run_isAgg hu', Result.andThen_ok, hag]
              simp only [Bool.false_eq_true, if_false]
              rw [run_load, cell_of_row w (g.m o') off' c t' (0, 0) h1, hu]
              rfl
            · cases how
          · cases hcells
        · cases h
    · cases h
  · cases h

/-- A load of what lies still, in whatever world that holds it still. -/
theorem load_still (hT : TabOk X.P T) (hs : Sat X g σ a w) {t : TypeId} {x : Operand} {cs : List Prop} {sv : SV} {o : Oper} (ho : o.op = .load t x)
    (h : evalPure T σ (.load t x) = some (cs, sv)) {cells0 : List TV} (hx : σ.ev x = .rp cells0) :
    ∃ v, (∀ w', (∀ b, g.P b → w'.heap[b]? = w.heap[b]?) → (execOp a.eval o).run X.P w' = .ok (.value v) w') ∧ (∃ k, SR g w σ k v sv) ∧ sv.pure = true := by
  simp only [evalPure] at h
  split at h
  · rename_i ti hti
    split at h
    · rename_i cells hcells
      obtain ⟨k, hk⟩ := ev_rel hs x
      obtain ⟨b, off, hv, hA⟩ := cellsAt_rel hs hk hcells
      rw [hx] at hk
      obtain ⟨b', off', hv', hb', _⟩ := hk
      rw [hv] at hv'
      injection hv' with hv'
      injection hv' with hv'
      injection hv' with e1 e2
      subst e1
      split at h
      · rename_i s hof
        cases h
        obtain ⟨v, hrun, hr, hp⟩ := loadVar_sound (σ := σ) (hT t ti hti) hA hof
        refine ⟨v, fun w' hw => ?_, ⟨0, hr⟩, hp⟩
        simp only [execOp, ho, Instr.loadAt, hv, Instr.sureAddr, pure_bind]
        rw [Sem.run_bind, hrun w' fun i => ?_]; rfl
        rw [add_mk]
        exact World.cell?_of_block (w := w) (w' := w') (a := ⟨b, off + i, none⟩) (hw b hb')
      · split at h
        · rename_i o' off' hx' _ _
          rw [hx] at hx'
          cases hx'
        · cases h
    · cases h
  · cases h

end
end Go.Sx
