/- The executor's judgements over code, and their rules; no condition. -/
import Derived.Test.YtpkoebbjnfpifaaSxEff
import Derived.Deep.LoopGhost
namespace Go.Sx
open Go

/-- What stays the same in a function: the program, its types, how many slots, how many objects came in. -/
structure Cfg where
  P : Program
  T : Tab
  n : Nat
  h0 : Nat
  ok : TabOk P T

def Cfg.ctx (F : Cfg) (w0 : World) (g0 : Gh) : Ctx := ⟨F.P, F.n, w0, g0, F.h0⟩

def QQ (X : Ctx) (Q : Exit → AState → Prop) : Exit → Act → World → Prop := fun e a w => ∃ σ g, Q e σ ∧ Sat X g σ a w

def AWp (F : Cfg) (c : Code) (Q : Exit → AState → Prop) (σ : AState) : Prop :=
  ∀ w0 g0 g a w, Sat (F.ctx w0 g0) g σ a w → c.wp F.P (QQ (F.ctx w0 g0) Q) a w

def AOps (F : Cfg) (ops : Array Oper) (Q : Exit → AState → Prop) (l : List Nat) (σ : AState) : Prop :=
  ∀ w0 g0 g a w, Sat (F.ctx w0 g0) g σ a w → wpOps F.P ops (QQ (F.ctx w0 g0) Q) l a w

def AllP : List Prop → Prop
  | [] => True
  | [c] => c
  | c :: r => c ∧ AllP r

theorem AllP.mem : ∀ {l : List Prop}, AllP l → ∀ c ∈ l, c
  | [], _, c, h => by simp at h
  | [c'], h, c, hc => by rw [List.mem_singleton.1 hc]; exact h
  | c' :: d :: r, h, c, hc => by
    rcases List.mem_cons.1 hc with rfl | hc
    · exact h.1
    · exact AllP.mem h.2 c hc

section
variable {F : Cfg} {Q : Exit → AState → Prop} {σ : AState}

def thenQ (K : AState → Prop) (Q : Exit → AState → Prop) : Exit → AState → Prop
  | .normal, σ => K σ
  | e, σ => Q e σ

theorem QQ_then {X : Ctx} {K : AState → Prop} {Q : Exit → AState → Prop} {next : Act → World → Prop} (h : ∀ σ g a w, K σ → Sat X g σ a w → next a w) (e : Exit) (a : Act) (w : World)
    (hq : QQ X (thenQ K Q) e a w) : Exit.then next (QQ X Q) e a w := by
  obtain ⟨σ, g, hq, hs⟩ := hq
  cases e with
  | normal => exact h σ g a w hq hs
  | _ => exact ⟨σ, g, hq, hs⟩

theorem AWp.seq {x y : Code} (h : AWp F x (thenQ (AWp F y Q) Q) σ) : AWp F (.seq x y) Q σ := fun w0 g0 g a w hs =>
  wp_seq (wp_mono (h w0 g0 g a w hs) (QQ_then fun _ g' a' w' hk hs' => hk w0 g0 g' a' w' hs'))

theorem AWp.skip (h : Q .normal σ) : AWp F .skip Q σ := fun _ _ g _ _ hs => wp_skip ⟨σ, g, h, hs⟩
theorem AWp.label {l : Nat} (h : Q .normal σ) : AWp F (.label l) Q σ := fun _ _ g _ _ hs => wp_label ⟨σ, g, h, hs⟩
theorem AWp.exit {i : Nat} (h : Q (.exit i) σ) : AWp F (.exit i) Q σ := fun _ _ g _ _ hs => wp_exit ⟨σ, g, h, hs⟩
theorem AWp.ret (h : Q .ret σ) : AWp F .ret Q σ := fun _ _ g _ _ hs => wp_ret ⟨σ, g, h, hs⟩

theorem AWp.cond {c : Operand} {x y : Code} {b : Bool} (hc : σ.ev c = .tv (.bool b)) (h1 : b = true → AWp F x Q σ) (h2 : b = false → AWp F y Q σ) : AWp F (.cond c x y) Q σ := fun w0 g0 g a w hs =>
  wp_cond_split (ev_bool hs hc) (fun hb => h1 hb w0 g0 g a w hs) (fun hb => h2 hb w0 g0 g a w hs)

theorem AWp.condT {c : Operand} {x y : Code} (hc : σ.ev c = .tv (.bool true)) (h : AWp F x Q σ) : AWp F (.cond c x y) Q σ := .cond hc (fun _ => h) (fun h => by cases h)
theorem AWp.condF {c : Operand} {x y : Code} (hc : σ.ev c = .tv (.bool false)) (h : AWp F y Q σ) : AWp F (.cond c x y) Q σ := .cond hc (fun h => by cases h) (fun _ => h)

def blockQ (i : Nat) (Q : Exit → AState → Prop) : Exit → AState → Prop
  | .exit j, σ => if j = i then Q .normal σ else Q (.exit j) σ
  | e, σ => Q e σ

theorem AWp.block {i : Nat} {c : Code} (h : AWp F c (blockQ i Q) σ) : AWp F (.block i c) Q σ := fun w0 g0 g a w hs =>
  wp_block (wp_mono (h w0 g0 g a w hs) fun e a' w' ⟨σ', g', hq, hs'⟩ => by
    cases e with
    | exit j =>
      simp only [Exit.inBlock, blockQ] at hq ⊢
      split at hq
      · rename_i hj; rw [if_pos hj]; exact ⟨σ', g', hq, hs'⟩
      · rename_i hj; rw [if_neg hj]; exact ⟨σ', g', hq, hs'⟩
    | _ => exact ⟨σ', g', hq, hs'⟩)

theorem AWp.mono {c : Code} {Q' : Exit → AState → Prop} (h : AWp F c Q' σ) (hq : ∀ e σ, Q' e σ → Q e σ) : AWp F c Q σ := fun w0 g0 g a w hs =>
  wp_mono (h w0 g0 g a w hs) fun _ _ _ ⟨σ', g', q, s⟩ => ⟨σ', g', hq _ _ q, s⟩

/-- Less may be known ahead of some code. -/
theorem AWp.keep {c : Code} (ks : List Nat) (n : Nat) (hn : F.h0 ≤ n) (h : AWp F c Q (σ.keep ks n)) : AWp F c Q σ := fun w0 g0 _ a w hs =>
  h w0 g0 _ a w (hs.keep ks n hn hs.h0)

theorem AWp.freeze {c : Code} {s z : Nat} {e : TypeId} {n : Nat} {f : Nat → List TV} (hx : σ.get s = .tv (.own z e n f)) (hp : PlainTo n f) (h : AWp F c Q (σ.fix s (.fz z n f))) : AWp F c Q σ := fun w0 g0 _ a w hs => by
  obtain ⟨g', h'⟩ := hs.freeze hx hp
  exact h w0 g0 g' a w h'

theorem AWp.ext {c : Code} {s z : Nat} {e : TypeId} {n n' : Nat} {f f' : Nat → List TV} (hx : σ.get s = .tv (.own z e n f)) (hn : n = n') (hf : ∀ i, i < n → f i = f' i) (h : AWp F c Q (σ.set s (.tv (.own z e n' f')))) : AWp F c Q σ := fun w0 g0 _ a w hs =>
  h w0 g0 _ a w (hs.ext hx hn hf)

theorem AWp.region {id : Nat} {ops : Array Oper} (h : AOps F ops Q (List.range ops.size) σ) : AWp F (.region id ops false) Q σ := fun w0 g0 g a w hs => wp_region (h w0 g0 g a w hs)

/-! ### Operations one behind the other -/

theorem AOps.nil {ops : Array Oper} (h : Q .normal σ) : AOps F ops Q [] σ := fun _ _ g _ _ hs => ⟨σ, g, h, hs⟩

theorem AOps.keep {ops : Array Oper} {l : List Nat} (ks : List Nat) (n : Nat) (hn : F.h0 ≤ n) (h : AOps F ops Q l (σ.keep ks n)) : AOps F ops Q l σ := fun w0 g0 _ a w hs =>
  h w0 g0 _ a w (hs.keep ks n hn hs.h0)

theorem AOps.freeze {ops : Array Oper} {l : List Nat} {s z : Nat} {e : TypeId} {n : Nat} {f : Nat → List TV} (hx : σ.get s = .tv (.own z e n f)) (hp : PlainTo n f) (h : AOps F ops Q l (σ.fix s (.fz z n f))) : AOps F ops Q l σ := fun w0 g0 _ a w hs => by
  obtain ⟨g', h'⟩ := hs.freeze hx hp
  exact h w0 g0 g' a w h'

theorem AOps.ext {ops : Array Oper} {l : List Nat} {s z : Nat} {e : TypeId} {n n' : Nat} {f f' : Nat → List TV} (hx : σ.get s = .tv (.own z e n f)) (hn : n = n') (hf : ∀ i, i < n → f i = f' i) (h : AOps F ops Q l (σ.set s (.tv (.own z e n' f')))) : AOps F ops Q l σ := fun w0 g0 _ a w hs =>
  h w0 g0 _ a w (hs.ext hx hn hf)

theorem AOps.extFz {ops : Array Oper} {l : List Nat} {s : Nat} {x y : TV} (hx : σ.get s = .tv x) (hp : x.plain = true) (hxy : ∀ P w v, FRel P w v x → FRel P w v y) (h : AOps F ops Q l (σ.fix s y)) : AOps F ops Q l σ := fun w0 g0 _ a w hs =>
  h w0 g0 _ a w (hs.extFz hx (fun v => hxy _ _ v) hp)

def guardV (ops : Array Oper) (σ : AState) (o : Oper) : Option Bool :=
  match o.guard with
  | none => some true
  | some (j, want) => match ops[j]? with
    | some oj => match oj.dst with
      | some t => match σ.get t with
        | .tv (.bool b) => some (b == want)
        | .tup _ => some false
        | _ => none
      | none => none
    | none => none

theorem guardV_sound {X : Ctx} {g : Gh} {a : Act} {w : World} (hs : Sat X g σ a w) {ops : Array Oper} {o : Oper} {b : Bool} (h : guardV ops σ o = some b) : Region.wanted o (yielded ops a.tmps) = b := by
  unfold guardV at h
  unfold Region.wanted
  cases hg : o.guard with
  | none => rw [hg] at h; simp only [Option.some.injEq] at h; exact h
  | some jw =>
    obtain ⟨j, want⟩ := jw
    rw [hg] at h
    simp only at h ⊢
    split at h
    · rename_i oj hoj
      split at h
      · rename_i t ht
        split at h
        · rename_i v hv
          simp only [Option.some.injEq] at h
          have hk := hs.env t
          rw [hv] at hk
          have := rel_bool (show TRel g w (.slot t 0, []) (a.tmps.getD t undef) (.bool v) from hk)
          have hy : yielded ops a.tmps j = some v := by
            unfold yielded
            simp only [hoj, ht, Option.bind_some]
            have hlt : t < a.tmps.size := by
              rcases Nat.lt_or_ge t a.tmps.size with hh | hh
              · exact hh
              · rw [Array.getD_eq_getD_getElem?, Array.getElem?_eq_none hh] at this
                cases this
            have : a.tmps[t]? = some (.bool v) := by
              simp only [Array.getD_eq_getD_getElem?, Array.getElem?_eq_getElem hlt, Option.getD_some] at this
              rw [Array.getElem?_eq_getElem hlt, this]
            rw [this]
          rw [hy, ← h]
          cases v <;> cases want <;> rfl
        · rename_i vs hv
          simp only [Option.some.injEq] at h
          subst h
          have hk := hs.env t
          rw [hv] at hk
          obtain ⟨us, hu, _⟩ := hk
          have hy : yielded ops a.tmps j = none := by
            unfold yielded
            simp only [hoj, ht, Option.bind_some]
            cases hq : a.tmps[t]? with
            | none => rfl
            | some u =>
              have : a.tmps.getD t undef = u := by rw [Array.getD_eq_getD_getElem?, hq]; rfl
              rw [this] at hu
              subst hu
              rfl
          rw [hy]
          cases want <;> rfl
        · cases h
      · cases h
    · cases h

/-- One operation. -/
def stepOp (T : Tab) (n : Nat) (ops : Array Oper) (σ : AState) (i : Nat) : Option (List Prop × AState) :=
  match ops[i]? with
  | none => none
  | some o => match guardV ops σ o, o.dst with
    | some true, some d => (match Nat.blt d n with
      | true => (match evalPure T σ o.op with
        | some (cs, sv) => (match sv.names (under d) with | false => some (cs, σ.put d sv) | true => none)
        | none => evalEff T σ o)
      | false => none)
    | some true, none => evalEff T σ o
    | some false, some d => (match Nat.blt d n with | true => some ([], σ.put d (.tup [])) | false => none)
    | some false, none => some ([], σ)
    | none, _ => none

def evalN (T : Tab) (n : Nat) (ops : Array Oper) : List Nat → AState → Option (List Prop × AState)
  | [], σ => some ([], σ)
  | i :: r, σ => match stepOp T n ops σ i with
    | some (cs, σ1) => match evalN T n ops r σ1 with
      | some (cs', σ') => some (cs ++ cs', σ')
      | none => none
    | none => none

/-- One operation leads from what σ says to what σ' says. -/
def AOne (F : Cfg) (ops : Array Oper) (i : Nat) (σ σ' : AState) : Prop :=
  ∀ w0 g0 g a w, Sat (F.ctx w0 g0) g σ a w → ∀ (K : Act → World → Prop) (Q : Exit → Act → World → Prop), (∀ g' a' w', Sat (F.ctx w0 g0) g' σ' a' w' → K a' w') → wpOp F.P ops Q i K a w

theorem AOps.cons {ops : Array Oper} {i : Nat} {l : List Nat} {σ' : AState} (h1 : AOne F ops i σ σ') (h : AOps F ops Q l σ') : AOps F ops Q (i :: l) σ := fun w0 g0 g a w hs => by
  rw [wpOps_cons]
  exact h1 w0 g0 g a w hs _ _ fun g' a' w' hs' => h w0 g0 g' a' w' hs'

theorem AOne.step {ops : Array Oper} {i : Nat} {cs : List Prop} {σ' : AState} (he : stepOp F.T F.n ops σ i = some (cs, σ')) (hc : ∀ c ∈ cs, c) : AOne F ops i σ σ' := fun w0 g0 g a w hs K Q h => by
  unfold stepOp at he
  unfold wpOp
  split at he
  · cases he
  · rename_i o ho
    rw [ho]
    simp only
    have eff : ∀ {cs : List Prop} {σ' : AState}, (∀ d, o.dst = some d → d < F.n) → (∀ c ∈ cs, c) → evalEff F.T σ o = some (cs, σ') → (∀ g' a' w', Sat (F.ctx w0 g0) g' σ' a' w' → K a' w') → Oper.wp F.P o a w K Q := by
      intro cs σ' hd hc he h
      obtain ⟨n, w', g', hrun, hn⟩ := evalEff_sound (X := F.ctx w0 g0) F.ok hs he hc hd
      have hrun' : (execOp a.eval o).run F.P w = .ok n w' := hrun
      unfold Oper.wp
      rw [hrun']
      rcases hn with ⟨v, rfl, hs'⟩ | ⟨rfl, hs'⟩
      · exact h g' _ w' hs'
      · exact h g' _ w' hs'
    split at he
    · rename_i d hg hdst
      split at he
      · rename_i hlt
        have hd : d < F.n := Nat.le_of_ble_eq_true hlt
        rw [if_pos (guardV_sound hs hg)]
        left
        split at he
        · rename_i cs0 sv hp
          split at he
          · rename_i hnm
            cases he
            obtain ⟨v, hrun, ⟨k, hr⟩, hpu⟩ := evalPure_sound (X := F.ctx w0 g0) F.ok hs hp hc
            have hrun' : (execOp a.eval o).run F.P w = .ok (.value v) w := hrun
            unfold Oper.wp
            rw [hrun', Oper.upon_value, hdst]
            exact h _ _ w (hs.put hd hpu hnm hr)
          · cases he
        · exact eff (fun d' hd' => by rw [hdst] at hd'; cases hd'; exact hd) hc he h
      · cases he
    · rename_i hg hdst
      rw [if_pos (guardV_sound hs hg)]
      exact .inl (eff (fun d' hd' => by rw [hdst] at hd'; cases hd') hc he h)
    · rename_i d hg hdst
      split at he
      · rename_i hlt
        cases he
        rw [if_neg (by rw [guardV_sound hs hg]; simp), hdst]
        exact h _ _ w (hs.put (Nat.le_of_ble_eq_true hlt) (v := undef) (sv := .tup []) rfl rfl (k := 0) ⟨#[], rfl, rfl, fun j sv h => by simp at h⟩)
      · cases he
    · rename_i hg hdst
      cases he
      rw [if_neg (by rw [guardV_sound hs hg]; simp), hdst]
      exact h g _ w hs
    · cases he

theorem AOps.one {ops : Array Oper} {i : Nat} {l : List Nat} {cs : List Prop} {σ' : AState} (he : stepOp F.T F.n ops σ i = some (cs, σ')) (hc : ∀ c ∈ cs, c) (h : AOps F ops Q l σ') : AOps F ops Q (i :: l) σ :=
  AOps.cons (AOne.step he hc) h

theorem AOps.many {ops : Array Oper} : ∀ {l1 : List Nat} {l2 : List Nat} {cs : List Prop} {σ σ' : AState}, evalN F.T F.n ops l1 σ = some (cs, σ') → (∀ c ∈ cs, c) → AOps F ops Q l2 σ' → AOps F ops Q (l1 ++ l2) σ
  | [], l2, cs, σ, σ', he, _, h => by simp only [evalN, Option.some.injEq, Prod.mk.injEq] at he; obtain ⟨_, rfl⟩ := he; exact h
  | i :: r, l2, cs, σ, σ', he, hc, h => by
    simp only [evalN] at he
    split at he
    · rename_i cs1 σ1 h1
      split at he
      · rename_i cs2 σ2 h2
        cases he
        exact AOps.one h1 (fun c hc' => hc c (List.mem_append_left _ hc')) (AOps.many h2 (fun c hc' => hc c (List.mem_append_right _ hc')) h)
      · cases he
    · cases he

/-- So many operations by evaluation, and less is known behind them. -/
theorem AOps.run {ops : Array Oper} (l1 l2 : List Nat) (cs : List Prop) (ks : List Nat) (nh : Nat) (σ' : AState) {σ1 : AState} (he : evalN F.T F.n ops l1 σ = some (cs, σ1)) (hk : σ1.keep ks nh = σ') (hn : F.h0 ≤ nh) (hc : AllP cs) (h : AOps F ops Q l2 σ') : AOps F ops Q (l1 ++ l2) σ :=
  AOps.many he hc.mem (AOps.keep ks nh hn (by rw [hk]; exact h))

/-- A region from its begin: so many operations by evaluation. -/
theorem AWp.run {id : Nat} {ops : Array Oper} (l1 l2 : List Nat) (hl : List.range ops.size = l1 ++ l2) (cs : List Prop) (ks : List Nat) (nh : Nat) (σ' : AState) {σ1 : AState} (he : evalN F.T F.n ops l1 σ = some (cs, σ1)) (hk : σ1.keep ks nh = σ') (hn : F.h0 ≤ nh) (hc : AllP cs) (h : AOps F ops Q l2 σ') : AWp F (.region id ops false) Q σ :=
  .region (by rw [hl]; exact AOps.run l1 l2 cs ks nh σ' he hk hn hc h)

/-- The same, to the region's end. -/
theorem AWp.all {id : Nat} {ops : Array Oper} (cs : List Prop) (ks : List Nat) (nh : Nat) (σ' : AState) (he : (evalN F.T F.n ops (List.range ops.size) σ).map (fun r => (r.1, r.2.keep ks nh)) = some (cs, σ')) (hn : F.h0 ≤ nh) (hc : AllP cs) (h : Q .normal σ') : AWp F (.region id ops false) Q σ := by
  obtain ⟨⟨cs', σ1⟩, h1, h2⟩ := Option.map_eq_some_iff.1 he
  cases h2
  exact .run (List.range ops.size) [] (by simp) _ ks nh _ h1 rfl hn hc (AOps.nil h)

/-- So many operations by evaluation, and less is known behind them. -/
theorem AOps.go {ops : Array Oper} (l1 l2 : List Nat) (cs : List Prop) (ks : List Nat) (nh : Nat) (σ' : AState) (he : (evalN F.T F.n ops l1 σ).map (fun r => (r.1, r.2.keep ks nh)) = some (cs, σ')) (hn : F.h0 ≤ nh) (hc : AllP cs) (h : AOps F ops Q l2 σ') : AOps F ops Q (l1 ++ l2) σ := by
  obtain ⟨⟨cs', σ1⟩, h1, h2⟩ := Option.map_eq_some_iff.1 he
  cases h2
  exact .run l1 l2 _ ks nh _ h1 rfl hn hc h

theorem AWp.start {id : Nat} {ops : Array Oper} (l1 l2 : List Nat) (cs : List Prop) (ks : List Nat) (nh : Nat) (σ' : AState) (hl : List.range ops.size = l1 ++ l2) (he : (evalN F.T F.n ops l1 σ).map (fun r => (r.1, r.2.keep ks nh)) = some (cs, σ')) (hn : F.h0 ≤ nh) (hc : AllP cs) (h : AOps F ops Q l2 σ') : AWp F (.region id ops false) Q σ :=
  .region (by rw [hl]; exact AOps.go l1 l2 cs ks nh σ' he hn hc h)

/-! ### A cut between operations -/

theorem upon_mono2 {P : Program} {o : Oper} {a : Act} {w : World} {K K' : Act → World → Prop} {Q1 Q2 : Exit → Act → World → Prop} (h : ∀ a w, K a w → K' a w) (hq : ∀ e a w, e ≠ .normal → Q1 e a w → Q2 e a w)
    (hh : o.wp P a w K Q1) : o.wp P a w K' Q2 := by
  have hl : LetsOut Q1 → LetsOut Q2 := fun ⟨a, w, h⟩ => ⟨a, w, hq _ a w (by simp) h⟩
  unfold Oper.wp at *
  generalize (execOp a.eval o).run P w = r at *
  cases r with
  | ok n w' =>
    cases n <;> simp only [Oper.upon] at hh ⊢ <;>
      first
        | exact h _ _ hh
        | exact Calls.mono hh (fun e w'' he => by cases e <;> first | exact h _ _ he | exact hq _ _ _ (by simp) he | exact hl he)
        | exact Rows.mono hh (fun _ _ he => h _ _ he)
  | halt x w' => cases x <;> simp only [Oper.upon] at hh ⊢ <;> exact hq _ _ _ (by simp) hh

theorem wpOps_cut {P : Program} {ops : Array Oper} {Q1 Q2 : Exit → Act → World → Prop} {l2 : List Nat} (hn : ∀ a w, Q1 .normal a w → wpOps P ops Q2 l2 a w) (hq : ∀ e a w, e ≠ .normal → Q1 e a w → Q2 e a w) :
    ∀ (l1 : List Nat) (a : Act) (w : World), wpOps P ops Q1 l1 a w → wpOps P ops Q2 (l1 ++ l2) a w
  | [], a, w, h => hn a w h
  | i :: r, a, w, h => by
    simp only [List.cons_append, wpOps] at h ⊢
    split
    · rename_i ho
      rw [ho] at h
      exact wpOps_cut hn hq r a w h
    · rename_i o ho
      rw [ho] at h
      simp only at h
      split
      · rename_i hw
        rw [if_pos hw] at h
        rcases h with h | ⟨h1, a', w', h2⟩
        · exact .inl (upon_mono2 (fun a w hh => wpOps_cut hn hq r a w hh) hq h)
        · exact .inr ⟨h1, a', w', hq _ a' w' (by simp) h2⟩
      · rename_i hw
        rw [if_neg hw] at h
        exact wpOps_cut hn hq r _ _ h

/-- Some operations come to one of several states; the rest from each of them. -/
theorem AOps.cut {ops : Array Oper} (l1 l2 : List Nat) (J : AState → Prop) (h1 : AOps F ops (thenQ J Q) l1 σ) (h2 : ∀ σ', J σ' → AOps F ops Q l2 σ') : AOps F ops Q (l1 ++ l2) σ := fun w0 g0 g a w hs => by
  refine wpOps_cut (Q1 := QQ (F.ctx w0 g0) (thenQ J Q)) ?_ ?_ l1 a w (h1 w0 g0 g a w hs)
  · rintro a w ⟨σ', g', hq, hs'⟩
    exact h2 σ' hq w0 g0 g' a w hs'
  · rintro e a w he ⟨σ', g', hq, hs'⟩
    refine ⟨σ', g', ?_, hs'⟩
    cases e <;> first | exact hq | exact absurd rfl he

theorem AOps.split {ops : Array Oper} {l : List Nat} (s : Bool → AState) (b : Bool) (h1 : b = true → AOps F ops Q l (s true)) (h2 : b = false → AOps F ops Q l (s false)) : AOps F ops Q l (s b) := by
  cases b with
  | true => exact h1 rfl
  | false => exact h2 rfl

theorem AWp.split {c : Code} (s : Bool → AState) (b : Bool) (h1 : b = true → AWp F c Q (s true)) (h2 : b = false → AWp F c Q (s false)) : AWp F c Q (s b) := by
  cases b with
  | true => exact h1 rfl
  | false => exact h2 rfl

/-- Two roads that meet. -/
theorem AWp.join {V : Type} {x y : Code} (shape : V → AState) (J : V → Prop) (hx : AWp F x (thenQ (fun σ' => ∃ v, J v ∧ σ' = shape v) Q) σ) (hj : ∀ v, J v → AWp F y Q (shape v)) : AWp F (.seq x y) Q σ :=
  AWp.seq (hx.mono fun e σ' h => by
    cases e with
    | normal => obtain ⟨v, h1, rfl⟩ := h; exact hj v h1
    | _ => exact h)

end
end Go.Sx
