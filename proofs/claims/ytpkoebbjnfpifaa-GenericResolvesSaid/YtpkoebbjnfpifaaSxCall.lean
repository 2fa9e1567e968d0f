/- Calls: what a function's contract is, how a body shows it, and how a caller uses it; no condition. -/
import Derived.Test.YtpkoebbjnfpifaaSxLoop
namespace Go.Sx
open Go

def argsEnv : List SV → Nat → List (Nat × SV)
  | [], _ => []
  | s :: r, k => (k, s) :: argsEnv r (k + 1)

theorem lookS_argsEnv : ∀ (l : List SV) (k q : Nat), lookS (argsEnv l k) q = if q < k then .junk else (l[q - k]?).getD .junk
  | [], k, q => by simp [argsEnv, lookS]
  | s :: r, k, q => by
    simp only [argsEnv, lookS]
    by_cases h : k = q
    · subst h; simp
    · rw [beq_ne h]
      simp only
      rw [lookS_argsEnv r (k + 1) q]
      by_cases h1 : q < k
      · rw [if_pos (by omega), if_pos h1]
      · rw [if_neg (by omega), if_neg h1, show q - k = q - (k + 1) + 1 by omega, List.getElem?_cons_succ]

/-- The state in which a function begins. -/
def start (args : List SV) (hin : List AObj) : AState := ⟨argsEnv args 0, hin⟩

theorem get_start (args : List SV) (hin : List AObj) (k : Nat) : (start args hin).get k = (args[k]?).getD .junk := by
  simp only [AState.get, start, lookS_argsEnv, Nat.not_lt_zero, if_false, Nat.sub_zero]

/-- Objects in memory. -/
def HeapRel (g : Gh) (w : World) (h : List AObj) : Prop :=
  ∀ (o : Nat) t cs, h[o]? = some (.cells t cs) → ∃ c, w.heap[g.m o]? = some (.cells c t (0, 0)) ∧ g.ow (g.m o) = some (.obj o, []) ∧ c.size = cs.length ∧
    ∀ (i : Nat) y, cs[i]? = some y → ∃ u, c[i]? = some u ∧ TRel g w (.cell o i, []) u y

structure Ent (g : Gh) (w : World) (vs : Array Value) (args : List SV) (hin : List AObj) : Prop where
  size : vs.size = args.length
  args : ∀ (k : Nat) sv, args[k]? = some sv → SR g w (start args hin) k (vs.getD k undef) sv
  heap : HeapRel g w hin
  inj : ∀ b b' p, g.ow b = some p → g.ow b' = some p → b = b'
  frozen : ∀ b, g.P b → g.ow b = none ∧ b < w.heap.size
  lt : ∀ b p, g.ow b = some p → b < w.heap.size
  ids : ∀ b p, g.ow b = some p → p.1.idOk hin.length

structure Ext (g : Gh) (w : World) (g' : Gh) (w' : World) (v : Value) (res : SV) (nin : Nat) (hout : List AObj) : Prop where
  res : SR g' w' ⟨[(0, res)], hout⟩ 0 v res
  heap : HeapRel g' w' hout
  inj : ∀ b b' p, g'.ow b = some p → g'.ow b' = some p → b = b'
  frozen : ∀ b, g'.P b → g'.ow b = none ∧ b < w'.heap.size
  lt : ∀ b p, g'.ow b = some p → b < w'.heap.size ∧ (w.heap.size ≤ b ∨ g.ow b ≠ none)
  ids : ∀ b p, g'.ow b = some p → p.1.idOk hout.length
  P0 : ∀ b, g'.P b → g.P b ∨ w.heap.size ≤ b ∨ g.ow b ≠ none
  P1 : ∀ b, g.P b → g'.P b
  kept : ∀ b, b < w.heap.size → g.ow b = none → w'.heap[b]? = w.heap[b]?
  os : w'.os = w.os
  tape : w'.tape = w.tape
  output : w'.output = w.output
  mono : w.heap.size ≤ w'.heap.size
  m0 : ∀ o, o < nin → g'.m o = g.m o
  h0 : nin ≤ hout.length

/-- A function's contract: called with what reads as 'args', where objects 'hin' lie, it returns what reads as 'res', and leaves the objects 'hout'. -/
def ACall (P : Program) (f : FuncId) (args : List SV) (hin : List AObj) (res : SV) (hout : List AObj) : Prop :=
  ∀ (g : Gh) (w : World) (vs : Array Value), Ent g w vs args hin →
    Calls P f vs w fun e w' => ∃ v g', e = .returned v ∧ Ext g w g' w' v res hin.length hout

/-- What lies under slot r lies under slot 0: a function's one result. -/
def Gh.toRes (g : Gh) (r : Nat) : Gh :=
  { g with ow := fun b => match g.ow b with
    | some (.slot k j, st) => if k = r then some (.slot 0 j, st) else none
    | some p => some p
    | none => none }

theorem toRes_slot {g : Gh} {r b j : Nat} {st : Steps} (h : g.ow b = some (.slot r j, st)) : (g.toRes r).ow b = some (.slot 0 j, st) := by
  simp only [Gh.toRes, h, if_true]

theorem toRes_other {g : Gh} {r b : Nat} {p : Path} (h : g.ow b = some p) (hp : ∀ k j, p.1 ≠ .slot k j) : (g.toRes r).ow b = some p := by
  obtain ⟨q, st⟩ := p
  simp only [Gh.toRes, h]
  cases q with
  | slot k j => exact absurd rfl (hp k j)
  | cell o off => rfl
  | obj o => rfl

theorem toRes_inv {g : Gh} {r b : Nat} {p : Path} (h : (g.toRes r).ow b = some p) : (g.ow b = some p ∧ ∀ k j, p.1 ≠ .slot k j) ∨ ∃ j st, p = (.slot 0 j, st) ∧ g.ow b = some (.slot r j, st) := by
  simp only [Gh.toRes] at h
  split at h
  · rename_i k j st hb
    split at h
    · rename_i hk; cases h; subst hk; exact .inr ⟨j, st, rfl, hb⟩
    · cases h
  · rename_i q hnot hb
    cases h
    exact .inl ⟨hb, fun k j e => hnot k j p.2 (by rw [← e])⟩
  · cases h

def SV.closed (s : SV) : Bool := !(s.names fun p => match p.1 with | .obj _ => false | _ => true)

/-- One result, in a slot. -/
theorem Sat.toExt {F : Cfg} {w0 : World} {g0 g : Gh} {a : Act} {w : World} {r : Nat} {res : SV} {h : List AObj} (hs : Sat (F.ctx w0 g0) g ⟨[(r, res)], h⟩ a w) (hc : res.closed = true) :
    Ext g0 w0 (g.toRes r) w (a.tmps.getD r undef) res F.h0 h := by
  have hget : (⟨[(r, res)], h⟩ : AState).get r = res := by simp [AState.get, lookS]
  refine ⟨?_, fun o t cs ho => ?_, fun b b' p hb hb' => ?_, fun b hb => ⟨?_, (hs.frozen b hb).2⟩, fun b p hb => ?_, fun b p hb => ?_, hs.P0, hs.P1, hs.kept, hs.os, hs.tape, hs.output, hs.mono, hs.m0, hs.h0⟩
  · have := hs.env r
    rw [hget] at this
    refine this.mono ⟨fun b hb => ⟨hb, rfl⟩, fun j b st hb => ⟨toRes_slot hb, rfl⟩⟩ fun p hp => ?_
    -- a result names no place but objects
    have hobj : ∃ o, p.1 = .obj o := by
      cases hq : p.1 with
      | obj o => exact ⟨o, rfl⟩
      | _ =>
        exfalso
        have hn : res.names (fun p => match p.1 with | .obj _ => false | _ => true) = true := by
          cases hh : res.names (fun p => match p.1 with | .obj _ => false | _ => true) with
          | true => rfl
          | false => have := names_of hh hp; simp [hq] at this
        simp [SV.closed, hn] at hc
    obtain ⟨o, ho⟩ := hobj
    refine ⟨fun b hb => ⟨toRes_other hb (by rw [ho]; simp), fun c e hc => ⟨c, hc, rfl⟩⟩, fun z e n f hl => ?_, fun _ _ hlt => ⟨rfl, hlt⟩⟩
    obtain ⟨q, st⟩ := p
    simp only at ho
    subst ho
    exfalso
    have : ∀ st, (⟨[(r, res)], h⟩ : AState).look (.obj o, st) = none := by
      intro st
      induction st with
      | nil => rfl
      | cons ij st ih => rw [look_cons, ih]; rfl
    rw [this] at hl
    cases hl
  · obtain ⟨c, h1, h2, h3, h4⟩ := hs.heap o t cs ho
    refine ⟨c, h1, toRes_other h2 (by simp), h3, fun i y hy => ?_⟩
    obtain ⟨u, hu, hr⟩ := h4 i y hy
    exact ⟨u, hu, TRel.mono (g' := g.toRes r) (w' := w) (p := (.cell o i, [])) (r' := .cell o i) hr (fun b hb => ⟨hb, rfl⟩) fun b st hb => ⟨toRes_other hb (by simp), rfl⟩⟩
  · rcases toRes_inv hb with ⟨h1, h1'⟩ | ⟨j, st, rfl, h1⟩
    · rcases toRes_inv hb' with ⟨h2, _⟩ | ⟨j', st', rfl, h2⟩
      · exact hs.inj b b' p h1 h2
      · exact absurd rfl (h1' 0 j')
    · rcases toRes_inv hb' with ⟨h2, h2'⟩ | ⟨j', st', e, h2⟩
      · exact absurd rfl (h2' 0 j)
      · injection e with e1 e2
        injection e1 with _ e3
        subst e2 e3
        exact hs.inj b b' _ h1 h2
  · simp only [Gh.toRes, (hs.frozen b hb).1]
  · rcases toRes_inv hb with ⟨h1, _⟩ | ⟨j, st, rfl, h1⟩
    · exact hs.lt b p h1
    · exact hs.lt b _ h1
  · rcases toRes_inv hb with ⟨h1, _⟩ | ⟨j, st, rfl, h1⟩
    · exact hs.ids b p h1
    · trivial

theorem Ent.sat {F : Cfg} {g : Gh} {w : World} {vs : Array Value} {args : List SV} {hin : List AObj} (h : Ent g w vs args hin) (hn : args.length ≤ F.n) (hh : F.h0 = hin.length) :
    Sat (F.ctx w g) g (start args hin) { tmps := vs ++ Array.replicate (F.n - vs.size) undef, defers := [] } w := by
  refine ⟨rfl, by simp [Cfg.ctx, h.size]; omega, fun k => ?_, h.heap, h.inj, h.frozen, fun b p hb => ⟨h.lt b p hb, .inr (by simp only [Cfg.ctx]; rw [hb]; simp)⟩, h.ids, fun b hb => .inl hb, fun b hb => hb, fun b _ _ => rfl, rfl, rfl, rfl, Nat.le_refl _, fun _ _ => rfl, by simp only [Cfg.ctx, hh, start]; exact Nat.le_refl _⟩
  rw [get_start]
  cases hk : args[k]? with
  | none => trivial
  | some sv =>
    have hlt : k < vs.size := by rw [h.size]; exact (List.getElem?_eq_some_iff.1 hk).1
    have := h.args k sv hk
    simp only [Option.getD_some]
    have e : (vs ++ Array.replicate (F.n - vs.size) undef).getD k undef = vs.getD k undef := by
      simp only [Array.getD_eq_getD_getElem?, Array.getElem?_append_left hlt]
    rw [e]
    exact this

/-- A function with one result, in a slot. -/
theorem ACall.of1 (F : Cfg) {f : FuncId} {fn : Func} {c : Code} {r : Nat} {args : List SV} {hin : List AObj} {res : SV} {hout : List AObj} (hf : F.P.funcs[f]? = some fn) (hb : fn.body = some c) (hn : fn.ntmps = F.n) (hr : fn.results = #[.tmp r])
    (ha : args.length ≤ F.n) (hh : F.h0 = hin.length) (hc : res.closed = true) (h : AWp F c (fun e σ => (e = .normal ∨ e = .ret) ∧ σ = ⟨[(r, res)], hout⟩) (start args hin)) : ACall F.P f args hin res hout := by
  intro g w vs he
  refine calls_of_wp hf hb ?_
  rw [hn]
  refine wp_mono (h w g g _ w (he.sat ha hh)) fun e a' w' hQ => ?_
  obtain ⟨σ', g', ⟨hq, hσ⟩, hs⟩ := hQ
  subst hσ
  have hres : (results fn a'.tmps).run F.P w' = .ok (a'.tmps.getD r undef) w' := by
    unfold results
    rw [hr]
    simp
  have hext := hs.toExt hc
  rw [hh] at hext
  rcases hq with rfl | rfl
  · exact ⟨hs.defers, _, hres, _, _, rfl, hext⟩
  · exact ⟨hs.defers, _, hres, _, _, rfl, hext⟩

/-! ### Several results -/

def idxOf : List Nat → Nat → Option Nat
  | [], _ => none
  | x :: r, k => if x = k then some 0 else (idxOf r k).map (· + 1)

theorem idxOf_some : ∀ {l : List Nat} {k q : Nat}, idxOf l k = some q → l[q]? = some k
  | [], _, _, h => by cases h
  | x :: r, k, q, h => by
    simp only [idxOf] at h
    split at h
    · rename_i e; cases h; subst e; rfl
    · obtain ⟨q', hq, rfl⟩ := Option.map_eq_some_iff.1 h
      simp only [List.getElem?_cons_succ]
      exact idxOf_some hq

theorem idxOf_at : ∀ {l : List Nat} {q k : Nat}, l.Nodup → l[q]? = some k → idxOf l k = some q
  | [], _, _, _, h => by simp at h
  | x :: r, q, k, hn, h => by
    rw [List.nodup_cons] at hn
    cases q with
    | zero => simp only [List.getElem?_cons_zero, Option.some.injEq] at h; subst h; simp [idxOf]
    | succ q =>
      simp only [List.getElem?_cons_succ] at h
      have hne : x ≠ k := by rintro rfl; exact hn.1 (List.mem_of_getElem? h)
      simp only [idxOf, if_neg hne, idxOf_at hn.2 h, Option.map_some]

def Gh.toTup (g : Gh) (rs : List Nat) : Gh :=
  { g with ow := fun b => match g.ow b with
    | some (.slot k j, st) => if j = 0 then (match idxOf rs k with | some q => some (.slot 0 q, st) | none => none) else none
    | some p => some p
    | none => none }

theorem toTup_slot {g : Gh} {rs : List Nat} {b k q : Nat} {st : Steps} (h : g.ow b = some (.slot k 0, st)) (hq : idxOf rs k = some q) : (g.toTup rs).ow b = some (.slot 0 q, st) := by
  simp only [Gh.toTup, h, if_true, hq]

theorem toTup_other {g : Gh} {rs : List Nat} {b : Nat} {p : Path} (h : g.ow b = some p) (hp : ∀ k j, p.1 ≠ .slot k j) : (g.toTup rs).ow b = some p := by
  obtain ⟨q, st⟩ := p
  simp only [Gh.toTup, h]
  cases q with
  | slot k j => exact absurd rfl (hp k j)
  | cell o off => rfl
  | obj o => rfl

theorem toTup_inv {g : Gh} {rs : List Nat} {b : Nat} {p : Path} (h : (g.toTup rs).ow b = some p) : (g.ow b = some p ∧ ∀ k j, p.1 ≠ .slot k j) ∨ ∃ k q st, p = (.slot 0 q, st) ∧ g.ow b = some (.slot k 0, st) ∧ idxOf rs k = some q := by
  simp only [Gh.toTup] at h
  split at h
  · rename_i k j st hb
    split at h
    · rename_i hj
      subst hj
      split at h
      · rename_i q hq; cases h; exact .inr ⟨k, q, st, rfl, hb, hq⟩
      · cases h
    · cases h
  · rename_i q hnot hb
    cases h
    exact .inl ⟨hb, fun k j e => hnot k j p.2 (by rw [← e])⟩
  · cases h

def SV.tvOrPure : SV → Bool
  | .tv _ => true
  | s => s.pure1

theorem look_obj (σ : AState) (o : Nat) (st : Steps) : σ.look (.obj o, st) = none := by
  induction st with
  | nil => rfl
  | cons ij st ih => rw [look_cons, ih]; rfl

/-- What names only objects, where these stay. -/
theorem closed_obj {s : SV} (hc : s.closed = true) {p : Path} (hp : s.names (· = p) = true) : ∃ o, p.1 = .obj o := by
  cases hq : p.1 with
  | obj o => exact ⟨o, rfl⟩
  | _ =>
    exfalso
    have hn : s.names (fun p => match p.1 with | .obj _ => false | _ => true) = true := by
      cases hh : s.names (fun p => match p.1 with | .obj _ => false | _ => true) with
      | true => rfl
      | false => have := names_of hh hp; simp [hq] at this
    simp [SV.closed, hn] at hc

theorem Sat.toExts {F : Cfg} {w0 : World} {g0 g : Gh} {a : Act} {w : World} {rs : List Nat} {ss : List SV} {env : List (Nat × SV)} {h : List AObj} (hs : Sat (F.ctx w0 g0) g ⟨env, h⟩ a w) (hnd : rs.Nodup) (hl : rs.length = ss.length)
    (hget : ∀ (q r : Nat) s, rs[q]? = some r → ss[q]? = some s → lookS env r = s) (hok : ∀ s ∈ ss, s.tvOrPure = true ∧ s.closed = true) {vs : Array Value} (hvl : vs.size = rs.length) (hvs : ∀ (q r : Nat), rs[q]? = some r → vs[q]? = some (a.tmps.getD r undef)) :
    Ext g0 w0 (g.toTup rs) w (.tuple vs) (.tup ss) F.h0 h := by
  refine ⟨⟨vs, rfl, by rw [hvl, hl], fun q s hq => ?_⟩, fun o t cs ho => ?_, fun b b' p hb hb' => ?_, fun b hb => ⟨?_, (hs.frozen b hb).2⟩, fun b p hb => ?_, fun b p hb => ?_, hs.P0, hs.P1, hs.kept, hs.os, hs.tape, hs.output, hs.mono, hs.m0, hs.h0⟩
  · have hlt : q < rs.length := by rw [hl]; exact (List.getElem?_eq_some_iff.1 hq).1
    have hr : rs[q]? = some rs[q] := List.getElem?_eq_getElem hlt
    refine ⟨_, hvs q _ hr, ?_⟩
    have hk := hs.env rs[q]
    rw [show (⟨env, h⟩ : AState).get rs[q] = s from hget q _ s hr hq] at hk
    obtain ⟨ht, hcl⟩ := hok s (List.mem_of_getElem? hq)
    have hi := idxOf_at hnd hr
    cases s with
    | tv x => exact TRel.mono (g' := g.toTup rs) (w' := w) (p := (.slot rs[q] 0, [])) (r' := .slot 0 q) hk (fun b hb => ⟨hb, rfl⟩) fun b st hb => ⟨toTup_slot hb hi, rfl⟩
    | tup _ => cases ht
    | fn _ _ => cases ht
    | junk => trivial
    | agg cs =>
      obtain ⟨us, hv, hsz, hc⟩ := agg_plain (g := g) hk ht
      exact ⟨us, hv, hsz, fun i y hy => by obtain ⟨u, hu, hr⟩ := hc i y hy; exact ⟨u, hu, .fr hr⟩⟩
    | pc o off => exact hk
    | rp cs => exact hk
    | pe p i j z => obtain ⟨o, ho⟩ := closed_obj hcl (p := p) (by simp [SV.names, SV.names1]); obtain ⟨b, e, n, f, hl, _⟩ := hk; rw [show p = (.obj o, p.2) from by rw [← ho], look_obj] at hl; cases hl
    | al p => obtain ⟨o, ho⟩ := closed_obj hcl (p := p) (by simp [SV.names, SV.names1]); obtain ⟨z, e, n, f, hl, _⟩ := hk; rw [show p = (.obj o, p.2) from by rw [← ho], look_obj] at hl; cases hl
  · obtain ⟨c, h1, h2, h3, h4⟩ := hs.heap o t cs ho
    refine ⟨c, h1, toTup_other h2 (by simp), h3, fun i y hy => ?_⟩
    obtain ⟨u, hu, hr⟩ := h4 i y hy
    exact ⟨u, hu, TRel.mono (g' := g.toTup rs) (w' := w) (p := (.cell o i, [])) (r' := .cell o i) hr (fun b hb => ⟨hb, rfl⟩) fun b st hb => ⟨toTup_other hb (by simp), rfl⟩⟩
  · rcases toTup_inv hb with ⟨h1, h1'⟩ | ⟨k, q, st, rfl, h1, hi⟩
    · rcases toTup_inv hb' with ⟨h2, _⟩ | ⟨k', q', st', rfl, h2, _⟩
      · exact hs.inj b b' p h1 h2
      · exact absurd rfl (h1' 0 q')
    · rcases toTup_inv hb' with ⟨h2, h2'⟩ | ⟨k', q', st', e, h2, hi'⟩
      · exact absurd rfl (h2' 0 q)
      · injection e with e1 e2
        injection e1 with _ e3
        subst e2 e3
        have e4 := idxOf_some hi
        rw [idxOf_some hi'] at e4
        cases e4
        exact hs.inj b b' _ h1 h2
  · simp only [Gh.toTup, (hs.frozen b hb).1]
  · rcases toTup_inv hb with ⟨h1, _⟩ | ⟨k, q, st, rfl, h1, _⟩
    · exact hs.lt b p h1
    · exact hs.lt b _ h1
  · rcases toTup_inv hb with ⟨h1, _⟩ | ⟨k, q, st, rfl, h1, _⟩
    · exact hs.ids b p h1
    · trivial

theorem mapM_tmp (G : ResultVar → Sem Value) (φ : Nat → Value) (h : ∀ t, G (.tmp t) = pure (φ t)) (l : List Nat) : (l.map ResultVar.tmp).toArray.mapM G = pure (l.map φ).toArray := by
  rw [List.mapM_toArray]
  have : ∀ l : List Nat, (l.map ResultVar.tmp).mapM G = pure (l.map φ) := by
    intro l
    induction l with
    | nil => rfl
    | cons x r ih => rw [List.map_cons, List.mapM_cons, ih, h]; simp
  rw [this]
  simp

/-- A function with several results, each in a slot. -/
theorem ACall.ofN (F : Cfg) {f : FuncId} {fn : Func} {c : Code} {rs : List Nat} {args : List SV} {hin : List AObj} {ss : List SV} {env : List (Nat × SV)} {hout : List AObj} (hf : F.P.funcs[f]? = some fn) (hb : fn.body = some c) (hn : fn.ntmps = F.n)
    (hr : fn.results = (rs.map ResultVar.tmp).toArray) (h1 : rs.length ≠ 1) (hnd : rs.Nodup) (hl : rs.length = ss.length) (ha : args.length ≤ F.n) (hh : F.h0 = hin.length)
    (hget : ∀ (q r : Nat) s, rs[q]? = some r → ss[q]? = some s → lookS env r = s) (hok : ∀ s ∈ ss, s.tvOrPure = true ∧ s.closed = true)
    (h : AWp F c (fun e σ => (e = .normal ∨ e = .ret) ∧ σ = ⟨env, hout⟩) (start args hin)) : ACall F.P f args hin (.tup ss) hout := by
  intro g w vs he
  refine calls_of_wp hf hb ?_
  rw [hn]
  refine wp_mono (h w g g _ w (he.sat ha hh)) fun e a' w' hQ => ?_
  obtain ⟨σ', g', ⟨hq, hσ⟩, hs⟩ := hQ
  subst hσ
  have hres : (results fn a'.tmps).run F.P w' = .ok (.tuple (rs.map fun r => a'.tmps.getD r undef).toArray) w' := by
    unfold results
    rw [hr]
    rw [mapM_tmp _ (fun r => a'.tmps.getD r undef) (fun _ => rfl)]
    simp only [pure_bind]
    rw [dif_neg (by simp; exact h1)]
    rfl
  have hext := hs.toExts hnd hl hget hok (vs := (rs.map fun r => a'.tmps.getD r undef).toArray) (by simp) fun q r hq => by simp [hq]
  rw [hh] at hext
  rcases hq with rfl | rfl
  · exact ⟨hs.defers, _, hres, _, _, rfl, hext⟩
  · exact ⟨hs.defers, _, hres, _, _, rfl, hext⟩

end Go.Sx
