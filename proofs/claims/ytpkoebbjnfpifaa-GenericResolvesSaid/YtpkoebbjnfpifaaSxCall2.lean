/- How a caller uses a contract of a function that is passed no place to write; no condition. -/
import Derived.Test.YtpkoebbjnfpifaaSxCall
namespace Go.Sx
open Go

def TV.scal : TV → Bool
  | .int _ _ | .bool _ | .str _ | .sc _ => true
  | _ => false

/-- What reads the same whatever memory is held still. -/
inductive Ind : TV → Prop
  | scal {x} : x.scal = true → Ind x
  | own (z : Nat) (e : TypeId) (n : Nat) (f : Nat → List TV) : (∀ (i j : Nat) (y : TV), i < n → (f i)[j]? = some y → Ind y) → Ind (.own z e n f)

def SV.ind1 : SV → Prop
  | .tv x => Ind x
  | .agg cs => cs.all TV.scal = true
  | _ => False

def SV.ind : SV → Prop
  | .tup vs => ∀ s ∈ vs, s.ind1
  | s => s.ind1

theorem FRel.scal {P P' : Nat → Prop} {w : World} {v : Value} {x : TV} (h : FRel P w v x) (hx : x.scal = true) : FRel P' w v x := by
  cases h with
  | int k n => exact .int k n
  | bool b => exact .bool b
  | str s => exact .str s
  | sc v hv => exact .sc v hv
  | nil => cases hx
  | row => cases hx

theorem TRel.ind {g : Gh} {w : World} {p : Path} {v : Value} {x : TV} (h : TRel g w p v x) (P' : Nat → Prop) (hx : Ind x) : TRel { g with P := P' } w p v x := by
  induction h with
  | @fr p v x h =>
    cases hx with
    | scal hx => exact .fr (h.scal hx)
    | own => cases h
  | hole => exact .hole
  | nil z e f => exact .nil z e f
  | @own p b cap z e n f c cs ho hb hc hl hm hz hcs _ ih =>
    cases hx with
    | scal hx => cases hx
    | own _ _ _ _ hx => exact .own b cap z e n f c cs ho hb hc hl hm hz hcs fun i j y hi hy => ih i j y hi hy (hx i j y hi hy)

theorem S1.ind {g : Gh} {w : World} {σ : AState} {k j : Nat} {v : Value} {sv : SV} (h : S1 g w σ k j v sv) (P' : Nat → Prop) (hx : sv.ind1) : S1 { g with P := P' } w σ k j v sv := by
  cases sv with
  | tv x => exact TRel.ind h P' hx
  | agg cs =>
    obtain ⟨vs, rfl, hs, hc⟩ := h
    refine ⟨vs, rfl, hs, fun i y hy => ?_⟩
    obtain ⟨u, hu, hr⟩ := hc i y hy
    simp only [SV.ind1, List.all_eq_true] at hx
    exact ⟨u, hu, hr.ind P' (.scal (hx y (List.mem_of_getElem? hy)))⟩
  | _ => exact hx.elim

theorem SR.ind {g : Gh} {w : World} {σ : AState} {k : Nat} {v : Value} {sv : SV} (h : SR g w σ k v sv) (P' : Nat → Prop) (hx : sv.ind) : SR { g with P := P' } w σ k v sv := by
  rcases sv.three with ⟨vs, rfl⟩ | ⟨f, vs, rfl⟩ | hf
  · obtain ⟨us, rfl, hs, hc⟩ := h
    refine ⟨us, rfl, hs, fun j sv hj => ?_⟩
    obtain ⟨u, hu, hr⟩ := hc j sv hj
    exact ⟨u, hu, hr.ind P' (hx sv (List.mem_of_getElem? hj))⟩
  · exact hx.elim
  · rw [SR_flat hf] at h ⊢
    exact h.ind P' (by cases sv <;> first | exact hx | cases hf)

def SV.nameless (s : SV) : Bool := !(s.names fun _ => true)

theorem nameless_of {s : SV} (h : s.nameless = true) {p : Path} (hp : s.names (· = p) = true) : False := by
  have h' : s.names (fun _ => true) = false := by
    simp only [SV.nameless, Bool.not_eq_true'] at h
    exact h
  have := names_of h' hp
  cases this

def relab (d : Nat) : Option Path → Option Path
  | some (.slot 0 j, st) => some (.slot d j, st)
  | _ => none

theorem relab_some {d : Nat} {q : Option Path} {p : Path} (h : relab d q = some p) : ∃ j st, q = some (.slot 0 j, st) ∧ p = (.slot d j, st) := by
  unfold relab at h
  split at h
  · rename_i j st; cases h; exact ⟨j, st, rfl, rfl⟩
  · cases h

/-- Behind a call: the old blocks as they were, the new ones under slot d. -/
def Gh.back (g g' : Gh) (n d : Nat) (P : Nat → Prop) : Gh where
  ow := fun b => if b < n then (g.clr (under d)).ow b else relab d (g'.ow b)
  P := P
  m := g.m

theorem Sat.callPut {X : Ctx} {g : Gh} {σ : AState} {a : Act} {w : World} (h : Sat X g σ a w) {d : Nat} (hd : d < X.n) {gc g' : Gh} {w' : World} {v : Value} {res : SV} {nin : Nat} {hout : List AObj}
    (hE : Ext gc w g' w' v res nin hout) (hgc : ∀ b, gc.ow b = none) (P : Nat → Prop) (hP0 : ∀ b, g.P b → P b) (hP1 : ∀ b, P b → g.P b ∨ (w.heap.size ≤ b ∧ g'.P b))
    (hr : SR { g' with P := P } w' ⟨[(0, res)], hout⟩ 0 v res) (hn : res.nameless = true) : Sat X (g.back g' w.heap.size d P) (σ.put d res) (a.put (some d) v) w' := by
  have hold : ∀ b, b < w.heap.size → w'.heap[b]? = w.heap[b]? := fun b hb => hE.kept b hb (hgc b)
  have hnew : ∀ b p, g'.ow b = some p → w.heap.size ≤ b := fun b p hb => (hE.lt b p hb).2.resolve_right fun hh => hh (hgc b)
  have hK : ∀ b p, g.ow b = some p → under d p = false → (g.back g' w.heap.size d P).ow b = some p ∧ w'.heap[b]? = w.heap[b]? := fun b p hb hp => by
    have hlt := (h.lt b p hb).1
    exact ⟨by simp only [Gh.back, if_pos hlt]; exact clr_some.2 ⟨hb, hp⟩, hold b hlt⟩
  have U : Up g (g.back g' w.heap.size d P) σ (σ.put d res) w w' (under d) :=
    ⟨fun b hb => ⟨hP0 b hb, hold b (h.frozen b hb).2⟩, hK, fun p hp z e m f hl => by rw [look_put _ _ _ _ hp]; exact hl, fun _ _ ho => ⟨rfl, ho⟩⟩
  have hts : a.tmps.size = X.n := h.size
  have hinv : ∀ b p, (g.back g' w.heap.size d P).ow b = some p → (b < w.heap.size ∧ g.ow b = some p ∧ under d p = false) ∨ (w.heap.size ≤ b ∧ ∃ j st, g'.ow b = some (.slot 0 j, st) ∧ p = (.slot d j, st)) := fun b p hb => by
    simp only [Gh.back] at hb
    split at hb
    · rename_i hlt; exact .inl ⟨hlt, clr_some.1 hb⟩
    · rename_i hlt
      obtain ⟨j, st, h1, h2⟩ := relab_some hb
      exact .inr ⟨Nat.le_of_not_lt hlt, j, st, h1, h2⟩
  refine ⟨h.defers, by simp only [Act.put, Array.size_setIfInBounds]; exact hts, fun q => ?_, fun o t cs ho => ?_, fun b b' p hb hb' => ?_, fun b hb => ?_, fun b p hb => ?_, fun b p hb => ?_, fun b hb => ?_, fun b hb => hP0 b (h.P1 b hb), fun b hb h0 => ?_, hE.os.trans h.os, hE.tape.trans h.tape, hE.output.trans h.output, Nat.le_trans h.mono hE.mono, h.m0, h.h0⟩
  · rw [tmps_put _ _ _ _ (by omega), get_put]
    by_cases hq : q = d
    · subst hq
      simp only [if_true]
      refine hr.mono ⟨fun b hb => ⟨hb, rfl⟩, fun j b st hb => ⟨?_, rfl⟩⟩ fun p hp => (nameless_of hn hp).elim
      have hlt := hnew b _ hb
      have hb' : g'.ow b = some (.slot 0 j, st) := hb
      simp only [Gh.back, if_neg (Nat.not_lt.2 hlt), hb', relab]
    · rw [if_neg hq, if_neg hq]
      exact U.slot (fun j st => under_slot hq j st) (h.env q)
  · obtain ⟨c', h1, h2, h3, h4⟩ := h.heap o t cs ho
    obtain ⟨k1, k2⟩ := hK _ _ h2 rfl
    refine ⟨c', k2.trans h1, k1, h3, fun i y hy => ?_⟩
    obtain ⟨u, hu, hr⟩ := h4 i y hy
    exact ⟨u, hu, U.tv (fun _ => rfl) hr⟩
  · rcases hinv b p hb with ⟨h1, h2, h3⟩ | ⟨h1, j, st, h2, rfl⟩
    · rcases hinv b' p hb' with ⟨k1, k2, _⟩ | ⟨k1, j, st, k2, rfl⟩
      · exact h.inj b b' p h2 k2
      · simp [under] at h3
    · rcases hinv b' _ hb' with ⟨k1, k2, k3⟩ | ⟨k1, j', st', k2, e⟩
      · simp [under] at k3
      · cases e
        exact hE.inj b b' _ h2 k2
  · have hg : g.P b ∨ (w.heap.size ≤ b ∧ g'.P b) := hP1 b hb
    rcases hg with h1 | ⟨h1, h2⟩
    · obtain ⟨k1, k2⟩ := h.frozen b h1
      exact ⟨by simp only [Gh.back, if_pos k2]; exact clr_none k1, Nat.lt_of_lt_of_le k2 hE.mono⟩
    · obtain ⟨k1, k2⟩ := hE.frozen b h2
      exact ⟨by simp only [Gh.back, if_neg (Nat.not_lt.2 h1), k1, relab], k2⟩
  · rcases hinv b p hb with ⟨h1, h2, _⟩ | ⟨h1, j, st, h2, rfl⟩
    · exact ⟨Nat.lt_of_lt_of_le h1 hE.mono, (h.lt b p h2).2⟩
    · exact ⟨(hE.lt b _ h2).1, .inl (Nat.le_trans h.mono h1)⟩
  · rcases hinv b p hb with ⟨h1, h2, _⟩ | ⟨h1, j, st, h2, rfl⟩
    · exact h.ids b p h2
    · trivial
  · rcases hP1 b hb with h1 | ⟨h1, _⟩
    · exact h.P0 b h1
    · exact .inr (.inl (Nat.le_trans h.mono h1))
  · exact (hold b (Nat.lt_of_lt_of_le hb h.mono)).trans (h.kept b hb h0)

/-! ### What a callee sees of a caller's arguments -/

/-- A cell, seen by who only reads. -/
def viewTV : TV → Option (List Prop × TV)
  | .own z _ n f => some ([PlainTo n f], .fz z n f)
  | .hole => none
  | x => some ([], x)

def viewTVs : List TV → Option (List Prop × List TV)
  | [] => some ([], [])
  | x :: r => match viewTV x, viewTVs r with
    | some (a, y), some (b, l) => some (a ++ b, y :: l)
    | _, _ => none

def AState.view1 (σ : AState) : SV → Option (List Prop × SV)
  | .tv x => match x.plain with | true => some ([], .tv x) | false => none
  | .agg cs => match cs.all TV.plain with | true => some ([], .agg cs) | false => none
  | .rp cs => some ([], .rp cs)
  | .al p => match σ.look p with | some (.own z _ n f) => some ([PlainTo n f], .tv (.fz z n f)) | _ => none
  | .pc o off => match σ.heap[o]? with
    | some (.cells _ cs) => (match viewTVs (cs.drop off) with | some (l, ys) => some (l, .rp ys) | none => none)
    | _ => none
  | .pe p i j z => match σ.look p with
    | some (.own z' _ n f) => (match Nat.beq z z' with | true => some ([PlainTo n f], .rp ((f i).drop j)) | false => none)
    | _ => none
  | _ => none

def AState.views1 (σ : AState) : List SV → Option (List Prop × List SV)
  | [] => some ([], [])
  | x :: r => match σ.view1 x, σ.views1 r with
    | some (a, y), some (b, l) => some (a ++ b, y :: l)
    | _, _ => none

def AState.view (σ : AState) : SV → Option (List Prop × SV)
  | .fn f caps => match σ.views1 caps with | some (l, ys) => some (l, .fn f ys) | none => none
  | s => σ.view1 s

def AState.views (σ : AState) : List SV → Option (List Prop × List SV)
  | [] => some ([], [])
  | x :: r => match σ.view x, σ.views r with
    | some (a, y), some (b, l) => some (a ++ b, y :: l)
    | _, _ => none

theorem plainTo_at {n : Nat} {f : Nat → List TV} (hp : PlainTo n f) {i j : Nat} {y : TV} (hi : i < n) (hy : (f i)[j]? = some y) : y.plain = true := by
  have := hp i hi
  rw [List.all_eq_true] at this
  exact this y (List.mem_of_getElem? hy)

/-- Own, as one who reads it sees it. -/
theorem own_view {g : Gh} {w : World} {p : Path} {v : Value} {z : Nat} {e : TypeId} {n : Nat} {f : Nat → List TV} (h : TRel g w p v (.own z e n f)) (hp : PlainTo n f) {P : Nat → Prop} (hP : ∀ b, g.P b → P b) (hO : ∀ b q, g.ow b = some q → P b) :
    FRel P w v (.fz z n f) := by
  rcases own_inv h with ⟨rfl, rfl⟩ | ⟨b, cap, c, cs, h1, rfl, h3, h4, h5, h6, h7, h8, h9⟩
  · exact .nil _ _ _ _
  · refine .row b 0 cap z n f cs (hO b _ h1) h5 h6 h7 (fun i j y hi hy => ?_) fun i j y hi hy => ?_
    · rw [Nat.zero_add]
      exact (h3.cell (i * z + j)).trans (h8 i j y hi hy)
    · exact ((h9 i j y hi hy).plain (plainTo_at hp hi hy)).mono fun b' hb' => ⟨hP b' hb', rfl⟩

theorem viewTV_sound {g : Gh} {w : World} {p : Path} {v : Value} {x y : TV} {l : List Prop} (h : TRel g w p v x) (hv : viewTV x = some (l, y)) (hl : ∀ c ∈ l, c) {P : Nat → Prop} (hP : ∀ b, g.P b → P b) (hO : ∀ b q, g.ow b = some q → P b) : FRel P w v y := by
  cases x with
  | own z e n f => cases hv; exact own_view h (hl _ (by simp)) hP hO
  | hole => cases hv
  | _ => cases hv; exact (h.plain rfl).mono fun b hb => ⟨hP b hb, rfl⟩

theorem viewTVs_sound : ∀ {cs : List TV} {l : List Prop} {ys : List TV}, viewTVs cs = some (l, ys) → (∀ c ∈ l, c) → ∀ (i : Nat) y, ys[i]? = some y → ∃ x l', cs[i]? = some x ∧ viewTV x = some (l', y) ∧ ∀ c ∈ l', c
  | [], l, ys, h, _, i, y, hy => by cases h; simp at hy
  | x :: r, l, ys, h, hl, i, y, hy => by
    simp only [viewTVs] at h
    split at h
    · rename_i a y0 b l0 h1 h2
      cases h
      cases i with
      | zero => simp only [List.getElem?_cons_zero, Option.some.injEq] at hy; subst hy; exact ⟨x, a, rfl, h1, fun c hc => hl c (List.mem_append_left _ hc)⟩
      | succ i =>
        simp only [List.getElem?_cons_succ] at hy ⊢
        exact viewTVs_sound h2 (fun c hc => hl c (List.mem_append_right _ hc)) i y hy
    · cases h

/-- The whole of memory held still. -/
def Gh.still (w : World) : Gh := ⟨fun _ => none, fun b => b < w.heap.size, fun o => o⟩

section
variable {X : Ctx} {g : Gh} {σ : AState} {a : Act} {w : World}

theorem look_rel (hs : Sat X g σ a w) : ∀ {st : Steps} {r : Root} {x : TV}, σ.look (r, st) = some x → (∀ o, r ≠ .obj o) → ∃ v, TRel g w (r, st) v x
  | [], r, x, h, hr => by
    have h' : σ.rootTV r = some x := h
    cases r with
    | obj o => exact absurd rfl (hr o)
    | cell o off =>
      simp only [AState.rootTV] at h'
      split at h'
      · rename_i t cs ho
        obtain ⟨c, _, _, _, h4⟩ := hs.heap o t cs ho
        obtain ⟨u, _, hu⟩ := h4 off x h'
        exact ⟨u, hu⟩
      · cases h'
    | slot k j =>
      simp only [AState.rootTV] at h'
      have he := hs.env k
      split at h'
      · rename_i y hy
        rw [hy] at he
        split at h'
        · cases h'; exact ⟨_, he⟩
        · cases h'
      · rename_i cs hy
        rw [hy] at he
        obtain ⟨vs, _, _, hc⟩ := he
        obtain ⟨u, _, hu⟩ := hc j x h'
        exact ⟨u, hu⟩
      · rename_i vs hy
        rw [hy] at he
        obtain ⟨us, _, _, hc⟩ := he
        cases hj : vs[j]? with
        | none => simp only [tupAt, hj] at h'; cases h'
        | some y =>
          obtain ⟨u, _, hu⟩ := hc j _ hj
          simp only [tupAt, hj] at h'
          cases y with
          | tv y' => cases h'; exact ⟨u, hu⟩
          | _ => cases h'
      · cases h'
  | ij :: st, r, x, h, hr => by
    rw [look_cons] at h
    cases hl : σ.look (r, st) with
    | none => rw [hl] at h; cases h
    | some y =>
      rw [hl] at h
      simp only [Option.bind_some] at h
      obtain ⟨v, hv⟩ := look_rel hs hl hr
      cases y with
      | own z e n f =>
        simp only [elemTV] at h
        split at h
        · rename_i hi
          have hi' : ij.1 < n := of_decide_eq_true hi
          rcases own_inv hv with ⟨_, rfl⟩ | ⟨b, cap, c, cs, h1, _, h3, h4, h5, h6, h7, h8, h9⟩
          · omega
          · exact ⟨cs ij.1 ij.2, h9 ij.1 ij.2 x hi' h⟩
        · cases h
      | _ => cases h

theorem view1_sound (hs : Sat X g σ a w) {k j : Nat} {v : Value} {s s' : SV} {l : List Prop} (h : S1 g w σ k j v s) (hv : σ.view1 s = some (l, s')) (hl : ∀ c ∈ l, c) (σ0 : AState) (k' j' : Nat) : S1 (Gh.still w) w σ0 k' j' v s' := by
  have hP : ∀ b, g.P b → b < w.heap.size := fun b hb => (hs.frozen b hb).2
  have hO : ∀ b q, g.ow b = some q → b < w.heap.size := fun b q hb => (hs.lt b q hb).1
  have hm : ∀ {v x}, FRel g.P w v x → FRel (Gh.still w).P w v x := fun hx => hx.mono fun b hb => ⟨hP b hb, rfl⟩
  cases s with
  | tv x =>
    simp only [AState.view1] at hv
    split at hv
    · rename_i hp; cases hv; exact .fr (hm (TRel.plain h hp))
    · cases hv
  | agg cs =>
    simp only [AState.view1] at hv
    split at hv
    · rename_i hp
      cases hv
      obtain ⟨vs, rfl, hsz, hc⟩ := h
      refine ⟨vs, rfl, hsz, fun i y hy => ?_⟩
      obtain ⟨u, hu, hr⟩ := hc i y hy
      rw [List.all_eq_true] at hp
      exact ⟨u, hu, .fr (hm (hr.plain (hp y (List.mem_of_getElem? hy))))⟩
    · cases hv
  | rp cs =>
    cases hv
    obtain ⟨b, off, rfl, hb, hc⟩ := h
    refine ⟨b, off, rfl, hP b hb, fun i y hy => ?_⟩
    obtain ⟨u, hu, hr⟩ := hc i y hy
    exact ⟨u, hu, hm hr⟩
  | al p =>
    simp only [AState.view1] at hv
    split at hv
    · rename_i z e n f hlook
      cases hv
      have hpl : PlainTo n f := hl _ (by simp)
      obtain ⟨z', e', n', f', hl', hval⟩ := h
      rw [hlook] at hl'
      cases hl'
      rcases hval with ⟨rfl, rfl⟩ | ⟨b, cap, c, hb, rfl, hrow, hc, h5, h6⟩
      · exact .fr (.nil _ _ _ _)
      · have hr : ∀ o, p.1 ≠ .obj o := by
          intro o ho
          rw [show p = (.obj o, p.2) from by rw [← ho], look_obj] at hlook
          cases hlook
        obtain ⟨r, st⟩ := p
        obtain ⟨v', hv'⟩ := look_rel hs hlook hr
        rcases own_inv hv' with ⟨_, rfl⟩ | ⟨b', cap', c', cs, k1, _, k3, k4, k5, k6, k7, k8, k9⟩
        · exact .fr (.row b 0 cap z 0 f (fun _ _ => undef) (hO b _ hb) h5 h6 (fun i hi => by omega) (fun i j y hi _ => by omega) fun i j y hi _ => by omega)
        · obtain rfl := hs.inj b b' _ hb k1
          refine .fr (.row b 0 cap z n f cs (hO b _ hb) h5 h6 k7 (fun i j y hi hy => ?_) fun i j y hi hy => ?_)
          · rw [Nat.zero_add]
            exact (k3.cell (i * z + j)).trans (k8 i j y hi hy)
          · exact hm ((k9 i j y hi hy).plain (plainTo_at hpl hi hy))
    · cases hv
  | pc o off =>
    simp only [AState.view1] at hv
    split at hv
    · rename_i t cs ho
      split at hv
      · rename_i l' ys hys
        cases hv
        obtain ⟨rfl, _⟩ := h
        obtain ⟨c, h1, h2, h3, h4⟩ := hs.heap o t cs ho
        refine ⟨g.m o, off, rfl, hO _ _ h2, fun i y hy => ?_⟩
        obtain ⟨x, l'', hx, hxv, hl''⟩ := viewTVs_sound hys hl i y hy
        rw [List.getElem?_drop] at hx
        obtain ⟨u, hu, hr⟩ := h4 (off + i) x hx
        exact ⟨u, by rw [cell_of_row w (g.m o) (off + i) c t (0, 0) h1]; exact hu, viewTV_sound hr hxv hl'' hP hO⟩
      · cases hv
    · cases hv
  | pe p i j z =>
    simp only [AState.view1] at hv
    split at hv
    · rename_i z' e n f hlook
      split at hv
      · rename_i hz
        obtain rfl := Nat.eq_of_beq_eq_true hz
        cases hv
        have hpl : PlainTo n f := hl _ (by simp)
        obtain ⟨b, e', n', f', hl', hi, hb, rfl⟩ := h
        rw [hlook] at hl'
        cases hl'
        have hr : ∀ o, p.1 ≠ .obj o := by
          intro o ho
          rw [show p = (.obj o, p.2) from by rw [← ho], look_obj] at hlook
          cases hlook
        obtain ⟨r, st⟩ := p
        obtain ⟨v', hv'⟩ := look_rel hs hlook hr
        rcases own_inv hv' with ⟨_, rfl⟩ | ⟨b', cap', c', cs, k1, _, k3, k4, k5, k6, k7, k8, k9⟩
        · omega
        · obtain rfl := hs.inj b b' _ hb k1
          refine ⟨b, i * z + j, rfl, hO _ _ hb, fun q y hy => ?_⟩
          rw [List.getElem?_drop] at hy
          refine ⟨cs i (j + q), ?_, hm ((k9 i (j + q) y hi hy).plain (plainTo_at hpl hi hy))⟩
          rw [Nat.add_assoc, k3.cell]
          exact k8 i (j + q) y hi hy
      · cases hv
    · cases hv
  | junk => cases hv
  | tup => cases hv
  | fn => cases hv

theorem views1_at : ∀ {ss ss' : List SV} {l : List Prop}, σ.views1 ss = some (l, ss') → (∀ c ∈ l, c) → ss'.length = ss.length ∧ ∀ (q : Nat) s', ss'[q]? = some s' → ∃ s l', ss[q]? = some s ∧ σ.view1 s = some (l', s') ∧ ∀ c ∈ l', c
  | [], ss', l, h, _ => by cases h; exact ⟨rfl, fun q s' hq => by simp at hq⟩
  | x :: r, ss', l, h, hl => by
    simp only [AState.views1] at h
    split at h
    · rename_i a' y b l0 h1 h2
      cases h
      obtain ⟨k1, k2⟩ := views1_at h2 (fun c hc => hl c (List.mem_append_right _ hc))
      refine ⟨by simp [k1], fun q s' hq => ?_⟩
      cases q with
      | zero => simp only [List.getElem?_cons_zero, Option.some.injEq] at hq; subst hq; exact ⟨x, a', rfl, h1, fun c hc => hl c (List.mem_append_left _ hc)⟩
      | succ q => simp only [List.getElem?_cons_succ] at hq ⊢; exact k2 q s' hq
    · cases h

theorem views_at : ∀ {ss ss' : List SV} {l : List Prop}, σ.views ss = some (l, ss') → (∀ c ∈ l, c) → ss'.length = ss.length ∧ ∀ (q : Nat) s', ss'[q]? = some s' → ∃ s l', ss[q]? = some s ∧ σ.view s = some (l', s') ∧ ∀ c ∈ l', c
  | [], ss', l, h, _ => by cases h; exact ⟨rfl, fun q s' hq => by simp at hq⟩
  | x :: r, ss', l, h, hl => by
    simp only [AState.views] at h
    split at h
    · rename_i a' y b l0 h1 h2
      cases h
      obtain ⟨k1, k2⟩ := views_at h2 (fun c hc => hl c (List.mem_append_right _ hc))
      refine ⟨by simp [k1], fun q s' hq => ?_⟩
      cases q with
      | zero => simp only [List.getElem?_cons_zero, Option.some.injEq] at hq; subst hq; exact ⟨x, a', rfl, h1, fun c hc => hl c (List.mem_append_left _ hc)⟩
      | succ q => simp only [List.getElem?_cons_succ] at hq ⊢; exact k2 q s' hq
    · cases h

theorem view_flat {s : SV} (h : ∀ f caps, s ≠ .fn f caps) : σ.view s = σ.view1 s := by
  cases s <;> first | rfl | exact absurd rfl (h _ _)

theorem view1_flat {s s' : SV} {l : List Prop} (h : σ.view1 s = some (l, s')) : s'.flat = true ∧ s.flat = true := by
  cases s <;> simp only [AState.view1] at h <;> repeat' (first | (cases h; done) | split at h)
  all_goals first | (cases h; exact ⟨rfl, rfl⟩) | cases h

theorem view_sound (hs : Sat X g σ a w) {k : Nat} {v : Value} {s s' : SV} {l : List Prop} (h : SR g w σ k v s) (hv : σ.view s = some (l, s')) (hl : ∀ c ∈ l, c) (σ0 : AState) (k' : Nat) : SR (Gh.still w) w σ0 k' v s' := by
  by_cases hf : ∃ f caps, s = .fn f caps
  · obtain ⟨f, caps, rfl⟩ := hf
    simp only [AState.view] at hv
    split at hv
    · rename_i l' ys hys
      cases hv
      obtain ⟨h1, h2⟩ := views1_at hys hl
      obtain ⟨us, rfl, hsz, hc⟩ := h
      refine ⟨us, rfl, by rw [hsz, h1], fun j sv hj => ?_⟩
      obtain ⟨s0, l0, hs0, hv0, hl0⟩ := h2 j sv hj
      obtain ⟨u, hu, hr⟩ := hc j s0 hs0
      exact ⟨u, hu, view1_sound hs hr hv0 hl0 σ0 k' j⟩
    · cases hv
  · rw [view_flat fun f caps e => hf ⟨f, caps, e⟩] at hv
    obtain ⟨h1, h2⟩ := view1_flat hv
    rw [SR_flat h1]
    rw [SR_flat h2] at h
    exact view1_sound hs h hv hl σ0 k' 0

end
end Go.Sx
