/- Lists as slices: how they are told; no condition. -/
import Derived.Test.YtpkoebbjnfpifaaSxPin
namespace Go.Sx
open Go

abbrev cInt (k : IntKind) (n : Int) : List TV := [.int k n]
abbrev cBool (b : Bool) : List TV := [.bool b]
abbrev cStr (s : List UInt8) : List TV := [.str s]
abbrev cSl {A : Type} [Inhabited A] (z : Nat) (enc : A → List TV) (l : List A) : List TV := [fzL z enc l]

theorem get_ofN (rs : List Nat) (ss : List SV) (env : List (Nat × SV)) (h : rs.map (lookS env) = ss) (q r : Nat) (s : SV) (h1 : rs[q]? = some r) (h2 : ss[q]? = some s) : lookS env r = s := by
  subst h
  rw [List.getElem?_map, h1] at h2
  exact Option.some.inj h2

theorem ok_ofN (ss : List SV) (h : ss.all (fun s => s.tvOrPure && s.closed) = true) (s : SV) (hs : s ∈ ss) : s.tvOrPure = true ∧ s.closed = true := by
  rw [List.all_eq_true] at h
  have := h s hs
  rwa [Bool.and_eq_true] at this

def SV.indB1 : SV → Bool
  | .tv x => x.scal
  | .agg cs => cs.all TV.scal
  | _ => false

def SV.indB : SV → Bool
  | .tup vs => vs.all SV.indB1
  | s => s.indB1

theorem ind1_of {s : SV} (h : s.indB1 = true) : s.ind1 := by
  cases s <;> first | exact .scal h | exact h | cases h

theorem ind_of {s : SV} (h : s.indB = true) : s.ind := by
  rcases s.three with ⟨vs, rfl⟩ | ⟨f, vs, rfl⟩ | hf
  · intro s hs
    simp only [SV.indB, List.all_eq_true] at h
    exact ind1_of (h s hs)
  · cases h
  · have h' : s.indB1 = true := by cases s <;> first | exact h | cases hf
    have := ind1_of h'
    cases s <;> first | exact this | cases hf

theorem bytes_at (s : List UInt8) : ∀ i, i < s.length → [TV.int .u8 (((s.getD i 0).toNat : Nat) : Int)] = cInt .u8 ((s.map (fun b => ((b.toNat : Nat) : Int))).getD i default) := by
  intro i hi
  simp [List.getD_eq_getElem?_getD, hi]

theorem app_at {A : Type} [Inhabited A] (enc : A → List TV) (l l' : List A) : ∀ i, i < l.length + l'.length → appF l.length (fun i => enc (l.getD i default)) (fun i => enc (l'.getD i default)) i = enc ((l ++ l').getD i default) := by
  intro i hi
  by_cases h : i < l.length
  · rw [appF_lt h]; simp only [List.getD_eq_getElem?_getD, List.getElem?_append_left h]
  · rw [appF_ge (Nat.le_of_not_lt h)]; simp only [List.getD_eq_getElem?_getD, List.getElem?_append_right (Nat.le_of_not_lt h)]

theorem app_nil {A : Type} [Inhabited A] (enc : A → List TV) (l' : List A) : ∀ i, i < 0 + l'.length → appF 0 (fun _ => []) (fun i => enc (l'.getD i default)) i = enc (l'.getD i default) := by
  intro i _
  rw [appF_ge (Nat.zero_le _)]; rfl

theorem row_at {A : Type} [Inhabited A] (enc : A → List TV) (z : Nat) (hz : ∀ x, (enc x).length = z) (l : List A) (cells : List TV) (hc : cells = l.flatMap enc) : ∀ i, i < l.length → newRowF cells z i = enc (l.getD i default) := by
  subst hc
  induction l with
  | nil => intro i hi; simp at hi
  | cons x r ih =>
    intro i hi
    have hx := hz x
    cases i with
    | zero => simp only [newRowF, Nat.zero_mul, List.drop_zero, List.flatMap_cons, ← hx, List.take_left, List.getD_cons_zero]
    | succ i =>
      have := ih i (by simpa using hi)
      simp only [newRowF, List.flatMap_cons, List.getD_cons_succ] at this ⊢
      rw [← this, Nat.succ_mul, Nat.add_comm, ← List.drop_drop, ← hx, List.drop_left]

theorem zero_at {A : Type} [Inhabited A] (enc : A → List TV) (zs : List TV) (x : A) (hz : zs = enc x) (n : Nat) : ∀ i, i < n → zerosF zs i = enc ((List.replicate n x).getD i default) := by
  intro i hi
  subst hz
  simp only [zerosF, List.getD_eq_getElem?_getD, List.getElem?_replicate, hi, if_true, Option.getD_some]

theorem setElem_at {A : Type} [Inhabited A] (enc : A → List TV) (l : List A) (k : Nat) (x : A) (f : Nat → List TV) (h1 : ∀ i, i < l.length → i ≠ k → f i = enc (l.getD i default)) (h2 : k < l.length → f k = enc x) : ∀ i, i < l.length → f i = enc ((l.set k x).getD i default) := by
  intro i hi
  by_cases h : i = k
  · subst h; rw [h2 hi]; simp [List.getD_eq_getElem?_getD, hi]
  · rw [h1 i hi h]; simp [List.getD_eq_getElem?_getD, List.getElem?_set_ne (Ne.symm h)]

theorem sub_at {A : Type} [Inhabited A] (enc : A → List TV) (l : List A) (a b : Nat) (hb : b ≤ l.length) : ∀ i, i < b - a → enc (l.getD (a + i) default) = enc (((l.take b).drop a).getD i default) := by
  intro i hi
  simp only [List.getD_eq_getElem?_getD, List.getElem?_drop, List.getElem?_take]
  rw [if_pos (by omega)]

theorem sub_len {A : Type} (l : List A) (a b : Nat) (hb : b ≤ l.length) : b - a = ((l.take b).drop a).length := by simp; omega

section
variable {X : Ctx} {g : Gh} {σ : AState} {a : Act} {w : World}

/-- The nil slice, told otherwise. -/
theorem Sat.nil (h : Sat X g σ a w) {s : Nat} {y : TV} (hx : σ.get s = .tv (.sc (.slice none 0 0))) (hy : ∀ g w p, TRel g w p (.slice none 0 0) y) : Sat X g (σ.set s (.tv y)) a w := by
  have hno : ∀ st, ∀ z e n f, σ.look (.slot s 0, st) ≠ some (.own z e n f) := by
    have key : ∀ st x, σ.look (.slot s 0, st) = some x → st = [] ∧ x = .sc (.slice none 0 0) := by
      intro st
      induction st with
      | nil => intro x hx'; simp only [AState.look, AState.rootTV, hx, List.foldr_nil, Option.some.injEq] at hx'; exact ⟨rfl, hx'.symm⟩
      | cons ij st ih =>
        intro x hx'
        rw [look_cons] at hx'
        obtain ⟨y, hy, he⟩ := Option.bind_eq_some_iff.1 hx'
        obtain ⟨_, rfl⟩ := ih y hy
        cases he
    intro st z e n f hl
    have := (key st _ hl).2
    cases this
  have hno2 : ∀ j st, ∀ z e n f, σ.look (.slot s (j + 1), st) ≠ some (.own z e n f) := by
    have key : ∀ j st x, σ.look (.slot s (j + 1), st) ≠ some x := by
      intro j st
      induction st with
      | nil => intro x hx'; simp [AState.look, AState.rootTV, hx] at hx'
      | cons ij st ih =>
        intro x hx'
        rw [look_cons] at hx'
        obtain ⟨y, hy, _⟩ := Option.bind_eq_some_iff.1 hx'
        exact ih y hy
    intro j st z e n f; exact key j st _
  have N : ∀ p, Names g g w w σ (σ.set s (.tv y)) p := fun p => ⟨fun b hb => ⟨hb, fun c e hc => ⟨c, hc, rfl⟩⟩, fun z e n f hl => ⟨f, by
    cases hu : under s p with
    | false => rw [look_set _ _ _ _ hu]; exact hl
    | true =>
      obtain ⟨j, hj⟩ := under_iff.1 hu
      obtain ⟨r, st⟩ := p
      simp only at hj
      subst hj
      cases j with
      | zero => exact absurd hl (hno st z e n f)
      | succ j => exact absurd hl (hno2 j st z e n f)⟩, fun o _ ho => ⟨rfl, ho⟩⟩
  refine ⟨h.defers, h.size, fun k => ?_, h.heap, h.inj, h.frozen, h.lt, h.ids, h.P0, h.P1, h.kept, h.os, h.tape, h.output, h.mono, h.m0, h.h0⟩
  rw [get_set]
  by_cases hk : k = s
  · subst hk
    rw [if_pos rfl]
    have := h.env k
    rw [hx] at this
    rw [rel_sc this]
    exact hy g w _
  · rw [if_neg hk]
    exact (h.env k).mono ⟨fun b hb => ⟨hb, rfl⟩, fun j b st hb => ⟨hb, rfl⟩⟩ fun r _ => N r

end

section
variable {F : Cfg} {Q : Exit → AState → Prop} {σ : AState}

theorem AWp.keepTo {c : Code} (ks : List Nat) (n : Nat) (σ' : AState) (he : σ.keep ks n = σ') (hn : F.h0 ≤ n) (h : AWp F c Q σ') : AWp F c Q σ := AWp.keep ks n hn (by rw [he]; exact h)

theorem AOps.keepTo {ops : Array Oper} {l : List Nat} (ks : List Nat) (n : Nat) (σ' : AState) (he : σ.keep ks n = σ') (hn : F.h0 ≤ n) (h : AOps F ops Q l σ') : AOps F ops Q l σ := AOps.keep ks n hn (by rw [he]; exact h)

theorem AWp.nilOwn {c : Code} (s z : Nat) (e : TypeId) (f : Nat → List TV) (hx : σ.get s = .tv (.sc (.slice none 0 0))) (h : AWp F c Q (σ.set s (.tv (.own z e 0 f)))) : AWp F c Q σ := fun w0 g0 g a w hs =>
  h w0 g0 g a w (hs.nil hx fun _ _ _ => .nil z e f)

theorem AWp.nilFz {c : Code} (s z : Nat) (f : Nat → List TV) (hx : σ.get s = .tv (.sc (.slice none 0 0))) (h : AWp F c Q (σ.set s (.tv (.fz z 0 f)))) : AWp F c Q σ := fun w0 g0 g a w hs =>
  h w0 g0 g a w (hs.nil hx fun _ _ _ => .fr (.nil none 0 z f))

theorem AAny.keepTo {ops : Array Oper} {K : AState → Prop} {fuel : Nat} {ls : Array Bool} (ks : List Nat) (n : Nat) (σ' : AState) (ls' : Array Bool) (he : σ.keep ks n = σ') (hls : ls = ls') (hn : F.h0 ≤ n) (h : AAny F ops K fuel ls' σ') : AAny F ops K fuel ls σ := by
  subst hls
  exact AAny.keep ks n hn (by rw [he]; exact h)

theorem AOps.nilFz {ops : Array Oper} {l : List Nat} (s z : Nat) (f : Nat → List TV) (hx : σ.get s = .tv (.sc (.slice none 0 0))) (h : AOps F ops Q l (σ.set s (.tv (.fz z 0 f)))) : AOps F ops Q l σ := fun w0 g0 g a w hs =>
  h w0 g0 g a w (hs.nil hx fun _ _ _ => .fr (.nil none 0 z f))

theorem AOps.nilOwn {ops : Array Oper} {l : List Nat} (s z : Nat) (e : TypeId) (f : Nat → List TV) (hx : σ.get s = .tv (.sc (.slice none 0 0))) (h : AOps F ops Q l (σ.set s (.tv (.own z e 0 f)))) : AOps F ops Q l σ := fun w0 g0 g a w hs =>
  h w0 g0 g a w (hs.nil hx fun _ _ _ => .nil z e f)

theorem AOps.extL {A : Type} [Inhabited A] {ops : Array Oper} {l : List Nat} (s : Nat) {z n : Nat} {e : TypeId} {f : Nat → List TV} (enc : A → List TV) (xs : List A) (hx : σ.get s = .tv (.own z e n f)) (hn : n = xs.length) (hf : ∀ i, i < n → f i = enc (xs.getD i default)) (h : AOps F ops Q l (σ.set s (.tv (ownL z e enc xs)))) : AOps F ops Q l σ :=
  AOps.ext hx hn hf h

theorem AAny.extL {A : Type} [Inhabited A] {ops : Array Oper} {K : AState → Prop} {fuel : Nat} {listed : Array Bool} (s : Nat) {z n : Nat} {e : TypeId} {f : Nat → List TV} (enc : A → List TV) (xs : List A) (hx : σ.get s = .tv (.own z e n f)) (hn : n = xs.length) (hf : ∀ i, i < n → f i = enc (xs.getD i default)) (h : AAny F ops K fuel listed (σ.set s (.tv (ownL z e enc xs)))) : AAny F ops K fuel listed σ :=
  AAny.ext hx hn hf h

theorem AWp.freezeL {A : Type} [Inhabited A] {c : Code} (s : Nat) {z : Nat} {e : TypeId} (enc : A → List TV) (xs : List A) (hx : σ.get s = .tv (ownL z e enc xs)) (hp : ∀ x, (enc x).all TV.plain = true) (h : AWp F c Q (σ.fix s (fzL z enc xs))) : AWp F c Q σ :=
  AWp.freeze hx (fun _ _ => hp _) h

theorem AOps.freezeL {A : Type} [Inhabited A] {ops : Array Oper} {l : List Nat} (s : Nat) {z : Nat} {e : TypeId} (enc : A → List TV) (xs : List A) (hx : σ.get s = .tv (ownL z e enc xs)) (hp : ∀ x, (enc x).all TV.plain = true) (h : AOps F ops Q l (σ.fix s (fzL z enc xs))) : AOps F ops Q l σ :=
  AOps.freeze hx (fun _ _ => hp _) h

theorem AAny.freezeL {A : Type} [Inhabited A] {ops : Array Oper} {K : AState → Prop} {fuel : Nat} {listed : Array Bool} (s : Nat) {z : Nat} {e : TypeId} (enc : A → List TV) (xs : List A) (hx : σ.get s = .tv (ownL z e enc xs)) (hp : ∀ x, (enc x).all TV.plain = true) (h : AAny F ops K fuel listed (σ.fix s (fzL z enc xs))) : AAny F ops K fuel listed σ :=
  AAny.freeze hx (fun _ _ => hp _) h

theorem AOps.extFzL {ops : Array Oper} {l : List Nat} {s z n n' : Nat} {f f' : Nat → List TV} (hx : σ.get s = .tv (.fz z n f)) (hn : n = n') (hf : ∀ i, i < n → f i = f' i) (h : AOps F ops Q l (σ.fix s (.fz z n' f'))) : AOps F ops Q l σ :=
  AOps.extFz hx rfl (fun _ _ _ hr => hr.ext hn hf) h

end
end Go.Sx
