/- The same, of the other operations that make no memory; no condition. -/
import Derived.Test.YtpkoebbjnfpifaaSxPure
namespace Go.Sx
open Go

section
variable {X : Ctx} {g : Gh} {σ : AState} {a : Act} {w : World} {T : Tab}

/-- A name of an owned slice reads as it does. -/
theorem al_of_own {p : Path} {v : Value} {z : Nat} {e : TypeId} {n : Nat} {f : Nat → List TV} (hl : σ.look p = some (.own z e n f)) (h : TRel g w p v (.own z e n f)) (k j : Nat) : S1 g w σ k j v (.al p) := by
  refine ⟨z, e, n, f, hl, ?_⟩
  rcases own_inv h with h | ⟨b, cap, c, cs, h1, h2, h3, h4, h5, h6, _⟩
  · exact .inl h
  · exact .inr ⟨b, cap, c, h1, h2, h3, h4, h5, h6⟩

theorem isOwn_iff {s : SV} : s.isOwn = true ↔ ∃ z e n f, s = .tv (.own z e n f) := by
  constructor
  · intro h
    unfold SV.isOwn at h
    split at h
    · exact ⟨_, _, _, _, rfl⟩
    · cases h
  · rintro ⟨z, e, n, f, rfl⟩; rfl

theorem move_sound (hs : Sat X g σ a w) {x : Operand} {cs : List Prop} {sv : SV} {o : Oper} (ho : o.op = .move x)
    (h : evalPure T σ (.move x) = some (cs, sv)) : Comes0 X g σ a w o sv := by
  have hrun : ∀ w, (execOp a.eval o).run X.P w = .ok (.value (a.eval x)) w := fun w => by simp only [execOp, ho]; rfl
  simp only [evalPure] at h
  split at h
  · rename_i hp
    cases h
    exact ⟨_, hrun, ev_rel hs x, hp⟩
  · split at h
    · rename_i t _ ho
      cases h
      obtain ⟨z, e, n, f, hx'⟩ := isOwn_iff.1 ho
      have ht := hs.env t
      rw [show σ.get t = .tv (.own z e n f) from hx'] at ht
      have hl : σ.look (.slot t 0, []) = some (.own z e n f) := by simp only [AState.look, AState.rootTV, show σ.get t = .tv (.own z e n f) from hx', List.foldr_nil]
      exact ⟨_, hrun, ⟨0, al_of_own hl ht 0 0⟩, rfl⟩
    · cases h

theorem assign_sound (hs : Sat X g σ a w) {x : Operand} {cs : List Prop} {sv : SV} {o : Oper} (ho : o.op = .assign x)
    (h : evalPure T σ (.assign x) = some (cs, sv)) : Comes0 X g σ a w o sv := by
  have hrun : ∀ w, (execOp a.eval o).run X.P w = .ok (.value (a.eval x)) w := fun w => by simp only [execOp, ho]; rfl
  simp only [evalPure] at h
  split at h
  · rename_i hp
    cases h
    exact ⟨_, hrun, ev_rel hs x, hp⟩
  · cases h

theorem pickSV_true (x y : SV) : pickSV true x y = x := by
  unfold pickSV
  split <;> first | rfl | (split <;> rfl)

theorem pickSV_false (x y : SV) : pickSV false x y = y := by
  unfold pickSV
  split
  · rfl
  · split
    · rename_i h; obtain rfl := of_decide_eq_true h; rfl
    · rfl
  · rfl
  · rfl

theorem pickSV_rel {b : Bool} {x y : SV} {u v : Value} {k1 k2 : Nat} (hx : SR g w σ k1 u x) (hy : SR g w σ k2 v y) :
    ∃ k, SR g w σ k (if b then u else v) (pickSV b x y) := by
  cases b
  · rw [pickSV_false]; exact ⟨k2, hy⟩
  · rw [pickSV_true]; exact ⟨k1, hx⟩

theorem pick_sound (hs : Sat X g σ a w) {c x y : Operand} {cs : List Prop} {sv : SV} {o : Oper} (ho : o.op = .pick c x y)
    (h : evalPure T σ (.pick c x y) = some (cs, sv)) : Comes0 X g σ a w o sv := by
  simp only [evalPure] at h
  split at h
  · rename_i e hc
    split at h
    · rename_i hp
      cases h
      have ec := ev_bool hs hc
      obtain ⟨k1, h1⟩ := ev_rel hs x
      obtain ⟨k2, h2⟩ := ev_rel hs y
      refine ⟨_, fun _ => ?_, pickSV_rel h1 h2, hp⟩
      simp only [execOp, ho, ec]
      rfl
    · cases h
  · cases h

/-- Cells that lie one behind the other in memory. -/
def CellsAt (g : Gh) (w : World) (A : Addr) (cs : List TV) : Prop :=
  ∀ (i : Nat) y, cs[i]? = some y → y.plain = true → ∃ u, w.cell? (A.add i) = some u ∧ FRel g.P w u y

theorem add_mk (b off i : Nat) : (⟨b, off, none⟩ : Addr).add i = ⟨b, off + i, none⟩ := by
  unfold Addr.add
  split <;> simp_all

theorem Sat.root (hs : Sat X g σ a w) {r : Root} {x : TV} (h : σ.rootTV r = some x) : ∃ v, TRel g w (r, []) v x := by
  cases r with
  | slot k j =>
    have hk := hs.env k
    simp only [AState.rootTV] at h
    split at h
    · rename_i y hy
      rw [hy] at hk
      split at h
      · cases h; exact ⟨_, hk⟩
      · cases h
    · rename_i cs hy
      rw [hy] at hk
      obtain ⟨vs, _, _, hc⟩ := hk
      obtain ⟨u, _, hr⟩ := hc j x h
      exact ⟨u, hr⟩
    · rename_i vs hy
      rw [hy] at hk
      obtain ⟨us, _, _, hc⟩ := hk
      simp only [tupAt] at h
      split at h
      · rename_i y hj
        cases h
        obtain ⟨u, _, hr⟩ := hc j _ hj
        exact ⟨u, hr⟩
      · cases h
    · cases h
  | cell o off =>
    simp only [AState.rootTV] at h
    split at h
    · rename_i t cs ho
      obtain ⟨c, _, _, _, hc⟩ := hs.heap o t cs ho
      obtain ⟨u, _, hr⟩ := hc off x h
      exact ⟨u, hr⟩
    · cases h
  | obj o => cases h

theorem Sat.own_at (hs : Sat X g σ a w) {p : Path} {x : TV} (h : σ.look p = some x) : ∃ v, TRel g w p v x := by
  obtain ⟨r, st⟩ := p
  induction st generalizing x with
  | nil => exact hs.root h
  | cons ij st ih =>
    have h' : ((σ.look (r, st)).bind (elemTV ij)) = some x := h
    obtain ⟨y, hy, he⟩ := Option.bind_eq_some_iff.1 h'
    obtain ⟨v, hv⟩ := ih hy
    unfold elemTV at he
    split at he
    · rename_i z e n f
      split at he
      · rename_i hi
        have hi' := of_decide_eq_true hi
        rcases own_inv hv with ⟨_, h0⟩ | ⟨b, cap, c, cs, _, _, _, _, _, _, _, _, h9⟩
        · omega
        · exact ⟨_, h9 ij.1 ij.2 x hi' he⟩
      · cases he
    · cases he

/-- What an address that can be read says. -/
theorem cellsAt_rel (hs : Sat X g σ a w) {k : Nat} {v : Value} {s : SV} {n : Nat} {cs : List TV} (h : SR g w σ k v s) (hc : σ.cellsAt n s = some cs) :
    ∃ b off, v = .pointer (some ⟨b, off, none⟩) ∧ CellsAt g w ⟨b, off, none⟩ cs := by
  cases s with
  | rp cs0 =>
    simp only [AState.cellsAt, Option.some.injEq] at hc
    subst hc
    obtain ⟨b, off, hv, _, hcell⟩ := h
    refine ⟨b, off, hv, fun i y hy _ => ?_⟩
    rw [add_mk]
    exact hcell i y (by rw [List.getElem?_take] at hy; split at hy <;> simp_all)
  | pc o off =>
    simp only [AState.cellsAt] at hc
    split at hc
    · rename_i t cells hh
      simp only [Option.some.injEq] at hc
      subst hc
      obtain ⟨hv, _⟩ := h
      refine ⟨g.m o, off, hv, fun i y hy hp => ?_⟩
      obtain ⟨c, h1, _, _, h4⟩ := hs.heap o t cells hh
      have hy' : cells[off + i]? = some y := by
        rw [List.getElem?_take] at hy
        split at hy
        · rw [List.getElem?_drop] at hy; exact hy
        · cases hy
      obtain ⟨u, hu, hr⟩ := h4 _ y hy'
      refine ⟨u, ?_, hr.plain hp⟩
      rw [add_mk]
      exact (cell_of_row w (g.m o) (off + i) c t (0, 0) h1).trans hu
    · cases hc
  | pe p i j z =>
    simp only [AState.cellsAt] at hc
    split at hc
    · rename_i z' e n' f hl
      split at hc
      · rename_i hz
        obtain rfl : z = z' := Nat.eq_of_beq_eq_true hz
        simp only [Option.some.injEq] at hc
        subst hc
        obtain ⟨b, e2, n2, f2, hl2, hi, hb, hv⟩ := h
        rw [hl] at hl2
        cases hl2
        refine ⟨b, i * z + j, hv, fun q y hy hp => ?_⟩
        have hy' : (f i)[j + q]? = some y := by
          rw [List.getElem?_take] at hy
          split at hy
          · rw [List.getElem?_drop] at hy; exact hy
          · cases hy
        obtain ⟨v', hr⟩ := (show ∃ v', TRel g w p v' (.own z e n' f) from hs.own_at hl)
        rcases own_inv hr with ⟨_, h0⟩ | ⟨b', cap, c, cs', h1, _, h3, _, _, _, _, h8, h9⟩
        · omega
        · obtain rfl := hs.inj b b' p hb h1
          refine ⟨cs' i (j + q), ?_, (h9 i (j + q) y hi hy').plain hp⟩
          rw [add_mk, Nat.add_assoc]
          exact (h3.cell (i * z + (j + q))).trans (h8 i (j + q) y hi hy')
      · cases hc
    · cases hc
  | _ => cases hc

end
end Go.Sx
