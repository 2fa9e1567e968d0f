/- A region that asks the tape: every order comes to the same; no condition. -/
import Derived.Test.YtpkoebbjnfpifaaSxList
import Derived.OrdersHeld
namespace Go.Sx
open Go

/-- It ends, so. -/
def NQ (K : AState → Prop) : Exit → AState → Prop := fun e σ => e = .normal ∧ K σ

/-- What lay still lies still. -/
def StillW (g : Gh) (w : World) : World → Prop := fun w' => ∀ b, g.P b → w'.heap[b]? = w.heap[b]?

def Begun (g : Gh) (w : World) : Prop := ∀ b, g.P b → g.ow b = none ∧ b < w.heap.size

/-- From here on, in whatever order. -/
def AAny (F : Cfg) (ops : Array Oper) (K : AState → Prop) (fuel : Nat) (listed : Array Bool) (σ : AState) : Prop :=
  ∀ w0 g0 g a w, Begun g0 w0 → Sat (F.ctx w0 g0) g σ a w → wpAnyH F.P .any ops (QQ (F.ctx w0 g0) (NQ K)) (StillW g0 w0) fuel listed a w

section
variable {F : Cfg} {K : AState → Prop} {σ : AState} {ops : Array Oper}

theorem Sat.still {w0 : World} {g0 g : Gh} {a : Act} {w : World} (hb : Begun g0 w0) (h : Sat (F.ctx w0 g0) g σ a w) : StillW g0 w0 w :=
  fun b hP => h.kept b (hb b hP).2 (hb b hP).1

theorem Sat.begun {X : Ctx} {g : Gh} {a : Act} {w : World} (h : Sat X g σ a w) : Begun g w := h.frozen

theorem Sat.rebase {w0 : World} {g0 g : Gh} {a : Act} {w : World} (h : Sat (F.ctx w0 g0) g σ a w) : Sat (F.ctx w g) g σ a w :=
  ⟨h.defers, h.size, h.env, h.heap, h.inj, h.frozen, fun b p hb => ⟨(h.lt b p hb).1, .inr (by show g.ow b ≠ none; rw [hb]; simp)⟩, h.ids, fun b hb => .inl hb, fun b hb => hb, fun _ _ _ => rfl, rfl, rfl, rfl, Nat.le_refl _, fun _ _ => rfl, h.h0⟩

theorem Sat.trans {w0 : World} {g0 g g1 : Gh} {a a1 : Act} {w w1 : World} {σ1 : AState} (h : Sat (F.ctx w0 g0) g σ a w) (h1 : Sat (F.ctx w g) g1 σ1 a1 w1) : Sat (F.ctx w0 g0) g1 σ1 a1 w1 := by
  refine ⟨h1.defers, h1.size, h1.env, h1.heap, h1.inj, h1.frozen, fun b p hb => ⟨(h1.lt b p hb).1, ?_⟩, h1.ids, fun b hb => ?_, fun b hb => h1.P1 b (h.P1 b hb), fun b hb h0 => ?_, h1.os.trans h.os, h1.tape.trans h.tape, h1.output.trans h.output, Nat.le_trans h.mono h1.mono, fun o ho => (h1.m0 o ho).trans (h.m0 o ho), h1.h0⟩
  · rcases (h1.lt b p hb).2 with h2 | h2
    · exact .inl (Nat.le_trans h.mono h2)
    · cases hg : g.ow b with
      | none => exact absurd hg h2
      | some q => exact (h.lt b q hg).2
  · rcases h1.P0 b hb with h2 | h2 | h2
    · exact h.P0 b h2
    · exact .inr (.inl (Nat.le_trans h.mono h2))
    · cases hg : g.ow b with
      | none => exact absurd hg h2
      | some q => exact .inr (h.lt b q hg).2
  · have hg : g.ow b = none := by
      cases hg : g.ow b with
      | none => rfl
      | some q =>
        rcases (h.lt b q hg).2 with h2 | h2
        · exact absurd hb (Nat.not_lt.2 h2)
        · exact absurd h0 h2
    exact (h1.kept b (Nat.lt_of_lt_of_le hb h.mono) hg).trans (h.kept b hb h0)

theorem wpAnyH_mono {P : Program} {md : Region.Mode} {Q1 Q2 : Exit → Act → World → Prop} {S1 S2 : World → Prop} (hq : ∀ e a w, Q1 e a w → Q2 e a w) (hs : ∀ w, S1 w → S2 w) :
    ∀ (fuel : Nat) (listed : Array Bool) (a : Act) (w : World), wpAnyH P md ops Q1 S1 fuel listed a w → wpAnyH P md ops Q2 S2 fuel listed a w
  | 0, _, _, _, h => ⟨h.1, hq _ _ _ h.2⟩
  | fuel + 1, _, _, _, h => ⟨fun h0 => hq _ _ _ (h.1 h0), fun i hi => by
      have := h.2 i hi
      unfold wpOp at this ⊢
      split
      · rename_i ho; rw [ho] at this; exact ⟨hs _ this.1, wpAnyH_mono hq hs fuel _ _ _ this.2⟩
      · rename_i o ho
        rw [ho] at this
        simp only at this
        split
        · rename_i hw
          rw [if_pos hw] at this
          rcases this with h | ⟨h1, a', w', h2⟩
          · exact .inl (upon_mono2 (fun a w hh => ⟨hs _ hh.1, wpAnyH_mono hq hs fuel _ _ _ hh.2⟩) (fun e a w _ => hq e a w) h)
          · exact .inr ⟨h1, a', w', hq _ _ _ h2⟩
        · rename_i hw
          rw [if_neg hw] at this
          exact ⟨hs _ this.1, wpAnyH_mono hq hs fuel _ _ _ this.2⟩⟩

/-- It is enough to look at it from this moment on. -/
theorem AAny.now {fuel : Nat} {listed : Array Bool} (h : ∀ g a w, Sat (F.ctx w g) g σ a w → wpAnyH F.P .any ops (QQ (F.ctx w g) (NQ K)) (StillW g w) fuel listed a w) : AAny F ops K fuel listed σ := fun w0 g0 g a w hb hs => by
  refine wpAnyH_mono ?_ ?_ _ _ _ _ (h g a w hs.rebase)
  · rintro e a' w' ⟨σ', g', hq, hs'⟩
    exact ⟨σ', g', hq, hs.trans hs'⟩
  · intro w' hw b hP
    exact (hw b (hs.P1 b hP)).trans (hs.still hb b hP)

/-- An operation whose value hangs on nothing that may change is taken first. -/
def takes (T : Tab) (n : Nat) (ops : Array Oper) (σ : AState) (i : Nat) : Option (List Prop × AState) :=
  match ops[i]? with
  | none => none
  | some o => match guardV ops σ o, o.dst with
    | some true, some d => (match Nat.blt d n with
      | true => (match evalPure T σ o.op with
        | some (cs, sv) => (match sv.names (under d), (match o.op with | .load _ x => (match σ.ev x with | .rp _ => true | _ => false) | _ => true) with | false, true => some (cs, σ.put d sv) | _, _ => none)
        | none => none)
      | false => none)
    | some false, some d => (match Nat.blt d n with | true => some ([], σ.put d (.tup [])) | false => none)
    | _, _ => none

theorem AAny.take {fuel : Nat} {listed : Array Bool} {i : Nat} {cs : List Prop} {σ' : AState} (he : takes F.T F.n ops σ i = some (cs, σ')) (hc : ∀ c ∈ cs, c)
    (hs : Region.noSelect ops = true) (hf : Region.free .any ops listed i = true) (hr : (Region.ready .any ops listed).contains i = true)
    (h : AAny F ops K fuel (listed.setIfInBounds i true) σ') : AAny F ops K (fuel + 1) listed σ := by
  refine AAny.now fun g a w hsat => ?_
  unfold takes at he
  split at he
  · cases he
  · rename_i o ho
    have hQ : ∀ (v : Value) c a' w', QQ (F.ctx w g) (NQ K) (.panic c) (a'.put o.dst v) w' → QQ (F.ctx w g) (NQ K) (.panic c) a' w' := by
      rintro v c a' w' ⟨σ1, g1, ⟨h1, _⟩, _⟩
      cases h1
    split at he
    · rename_i d hg hdst
      split at he
      · rename_i hlt
        have hd : d < F.n := Nat.le_of_ble_eq_true hlt
        split at he
        · rename_i cs0 sv hp
          split at he
          · rename_i hnm hld
            cases he
            have key : ∃ v, (∀ w', StillW g w w' → (execOp a.eval o).run F.P w' = .ok (.value v) w') ∧ (∃ k, SR g w σ k v sv) ∧ sv.pure = true := by
              by_cases hl : ∃ t x, o.op = .load t x
              · obtain ⟨t, x, hop⟩ := hl
                rw [hop] at hp hld
                simp only at hld
                split at hld
                · rename_i cells hx
                  obtain ⟨v, h1, h2⟩ := load_still (X := F.ctx w g) F.ok hsat hop hp hx
                  exact ⟨v, fun w' hw => h1 w' hw, h2⟩
                · cases hld
              · obtain ⟨v, h1, h2⟩ := evalPure_still (X := F.ctx w g) F.ok hsat hp hc hl
                exact ⟨v, fun w' _ => h1 w', h2⟩
            obtain ⟨v, hrun, ⟨k, hrel⟩, hpu⟩ := key
            refine wpAnyH_take ho hs hf hr (hQ v) (.inl ⟨guardV_sound hsat hg, hrun⟩) (hsat.still hsat.begun) ?_
            rw [hdst]
            exact h w g _ _ w hsat.begun (hsat.put hd hpu hnm hrel)
          · cases he
        · cases he
      · cases he
    · rename_i d hg hdst
      split at he
      · rename_i hlt
        cases he
        refine wpAnyH_take ho hs hf hr (hQ undef) (.inr ⟨guardV_sound hsat hg, rfl⟩) (hsat.still hsat.begun) ?_
        rw [hdst]
        exact h w g _ _ w hsat.begun (hsat.put (Nat.le_of_ble_eq_true hlt) (v := undef) (sv := .tup []) rfl rfl (k := 0) ⟨#[], rfl, rfl, fun j sv h => by simp at h⟩)
      · cases he
    · cases he

/-- Whichever comes up. -/
theorem AAny.all {fuel : Nat} {listed : Array Bool} (rs : List Nat) (hr : Region.ready .any ops listed = rs) (hne : rs ≠ [])
    (h : ∀ i ∈ rs, ∃ σ', AOne F ops i σ σ' ∧ AAny F ops K fuel (listed.setIfInBounds i true) σ') : AAny F ops K (fuel + 1) listed σ := fun w0 g0 g a w hb hs => by
  refine wpAnyH_all hr hne fun i hi => ?_
  obtain ⟨σ', h1, h2⟩ := h i hi
  exact h1 w0 g0 g a w hs _ _ fun g' a' w' hs' => ⟨hs'.still hb, h2 w0 g0 g' a' w' hb hs'⟩

theorem AAny.serial {fuel : Nat} {listed : Array Bool} {i : Nat} {σ' : AState} (hr : Region.ready .any ops listed = [i]) (h1 : AOne F ops i σ σ') (h : AAny F ops K fuel (listed.setIfInBounds i true) σ') : AAny F ops K (fuel + 1) listed σ :=
  AAny.all [i] hr (by simp) fun j hj => by rw [List.mem_singleton.1 hj]; exact ⟨σ', h1, h⟩

theorem AAny.done {fuel : Nat} {listed : Array Bool} (hr : Region.ready .any ops listed = []) (h : K σ) : AAny F ops K fuel listed σ := fun _ _ g _ _ _ hs =>
  wpAnyH_done hr ⟨σ, g, ⟨rfl, h⟩, hs⟩ fuel

theorem AAny.split {fuel : Nat} {listed : Array Bool} (s : Bool → AState) (b : Bool) (h1 : b = true → AAny F ops K fuel listed (s true)) (h2 : b = false → AAny F ops K fuel listed (s false)) : AAny F ops K fuel listed (s b) := by
  cases b with
  | true => exact h1 rfl
  | false => exact h2 rfl

theorem AAny.keep {fuel : Nat} {listed : Array Bool} (ks : List Nat) (n : Nat) (hn : F.h0 ≤ n) (h : AAny F ops K fuel listed (σ.keep ks n)) : AAny F ops K fuel listed σ := fun w0 g0 _ a w hb hs =>
  h w0 g0 _ a w hb (hs.keep ks n hn hs.h0)

theorem AAny.freeze {fuel : Nat} {listed : Array Bool} {s z : Nat} {e : TypeId} {n : Nat} {f : Nat → List TV} (hx : σ.get s = .tv (.own z e n f)) (hp : PlainTo n f) (h : AAny F ops K fuel listed (σ.fix s (.fz z n f))) : AAny F ops K fuel listed σ := fun w0 g0 _ a w hb hs => by
  obtain ⟨g', h'⟩ := hs.freeze hx hp
  exact h w0 g0 g' a w hb h'

theorem AAny.ext {fuel : Nat} {listed : Array Bool} {s z : Nat} {e : TypeId} {n n' : Nat} {f f' : Nat → List TV} (hx : σ.get s = .tv (.own z e n f)) (hn : n = n') (hf : ∀ i, i < n → f i = f' i) (h : AAny F ops K fuel listed (σ.set s (.tv (.own z e n' f')))) : AAny F ops K fuel listed σ := fun w0 g0 _ a w hb hs =>
  h w0 g0 _ a w hb (hs.ext hx hn hf)

theorem AAny.mono {fuel : Nat} {listed : Array Bool} {σ' : AState} (h : AAny F ops K fuel listed σ') (e : σ' = σ) : AAny F ops K fuel listed σ := e ▸ h

/-- So many taken one after the other, by evaluation. -/
def takesN (T : Tab) (n : Nat) (ops : Array Oper) : List Nat → Array Bool → AState → Option (List Prop × Array Bool × AState)
  | [], ls, σ => some ([], ls, σ)
  | i :: r, ls, σ => match Region.free .any ops ls i && (Region.ready .any ops ls).contains i, takes T n ops σ i with
    | true, some (cs, σ1) => (match takesN T n ops r (ls.setIfInBounds i true) σ1 with
      | some (cs', ls', σ') => some (cs ++ cs', ls', σ')
      | none => none)
    | _, _ => none

theorem AAny.takesN (hs : Region.noSelect ops = true) : ∀ {l : List Nat} {ls ls' : Array Bool} {fuel : Nat} {cs : List Prop} {σ σ' : AState}, takesN F.T F.n ops l ls σ = some (cs, ls', σ') → (∀ c ∈ cs, c) → AAny F ops K fuel ls' σ' → AAny F ops K (l.length + fuel) ls σ
  | [], ls, ls', fuel, cs, σ, σ', he, _, h => by cases he; rw [List.length_nil, Nat.zero_add]; exact h
  | i :: r, ls, ls', fuel, cs, σ, σ', he, hc, h => by
    simp only [Go.Sx.takesN] at he
    split at he
    · rename_i cs1 σ1 hb h1
      rw [Bool.and_eq_true] at hb
      split at he
      · rename_i cs2 ls2 σ2 h2
        cases he
        rw [List.length_cons, Nat.add_right_comm]
        exact AAny.take h1 (fun c hc' => hc c (List.mem_append_left _ hc')) hs hb.1 hb.2 (AAny.takesN hs h2 (fun c hc' => hc c (List.mem_append_right _ hc')) h)
      · cases he
    · cases he

theorem AAny.go (hs : Region.noSelect ops = true) (l : List Nat) {ls : Array Bool} {fuel fuel' : Nat} (hfu : fuel = l.length + fuel') (cs : List Prop) (ls' : Array Bool) (ks : List Nat) (nh : Nat) (σ' : AState) (he : (Go.Sx.takesN F.T F.n ops l ls σ).map (fun r => (r.1, r.2.1, r.2.2.keep ks nh)) = some (cs, ls', σ')) (hn : F.h0 ≤ nh) (hc : AllP cs) (h : AAny F ops K fuel' ls' σ') : AAny F ops K fuel ls σ := by
  obtain ⟨⟨cs', ls1, σ1⟩, h1, h2⟩ := Option.map_eq_some_iff.1 he
  cases h2
  subst hfu
  exact AAny.takesN hs h1 hc.mem (AAny.keep ks nh hn h)

/-- One that may be the only one to come up. -/
theorem AAny.step {i : Nat} {ls : Array Bool} {fuel fuel' : Nat} (hfu : fuel = fuel' + 1) (hr : Region.ready .any ops ls = [i]) (cs : List Prop) (ls' : Array Bool) (hls : ls.setIfInBounds i true = ls') (ks : List Nat) (nh : Nat) (σ' : AState) (he : (stepOp F.T F.n ops σ i).map (fun r => (r.1, r.2.keep ks nh)) = some (cs, σ')) (hn : F.h0 ≤ nh) (hc : AllP cs) (h : AAny F ops K fuel' ls' σ') : AAny F ops K fuel ls σ := by
  obtain ⟨⟨cs', σ1⟩, h1, h2⟩ := Option.map_eq_some_iff.1 he
  cases h2
  subst hfu hls
  exact AAny.serial hr (AOne.step h1 hc.mem) (AAny.keep ks nh hn h)

theorem AWp.draw {id : Nat} {Q : Exit → AState → Prop} (hm : F.P.follows .mixedOrders = true) (J : AState → Prop) {n : Nat} (hn : ops.size = n) {ls : Array Bool} (hls : Array.replicate n false = ls) (h : AAny F ops J n ls σ) (hJ : ∀ σ', J σ' → Q .normal σ') : AWp F (.region id ops true) Q σ := fun w0 g0 g a w hs => by
  subst hn hls
  have hs' : Sat (F.ctx w g) g σ a { w with drawn := w.drawn + 1 } := hs.rebase.world (SameW.drew w)
  refine wp_mono (wp_region_held (S := StillW g w) hm (h w g g a _ hs.begun hs')) fun e a' w' hq => ?_
  obtain ⟨σ', g', ⟨rfl, hk⟩, hsat⟩ := hq
  exact ⟨σ', g', hJ σ' hk, hs.trans hsat⟩

end
end Go.Sx
