/- What the evaluation of an operation says of its run, where no memory is made; no condition. -/
import Derived.Test.YtpkoebbjnfpifaaSxOps
import Derived.ChangeKeysEq
namespace Go.Sx
open Go

section
variable {X : Ctx} {g : Gh} {σ : AState} {a : Act} {w : World} {T : Tab}

theorem SR_tv {k : Nat} {v : Value} {x : TV} : SR g w σ k v (.tv x) = TRel g w (.slot k 0, []) v x := rfl

theorem cSV_rel (v : Value) (k : Nat) : SR g w σ k v (cSV v) := by
  cases v with
  | agg cs =>
    show SR g w σ k (.agg cs) (match cs.toList.all Value.oneCell' with | true => .agg (cs.toList.map cTV) | false => .junk)
    cases h : cs.toList.all Value.oneCell'
    · trivial
    · refine ⟨cs, rfl, by simp, fun i y hy => ?_⟩
      rw [List.getElem?_map] at hy
      obtain ⟨u, hu, rfl⟩ := Option.map_eq_some_iff.1 hy
      exact ⟨u, by rw [← Array.getElem?_toList]; exact hu, .fr (cTV_rel (by rw [List.all_eq_true] at h; exact h u (List.mem_of_getElem? hu)))⟩
  | tuple vs => trivial
  | _ => exact .fr (cTV_rel rfl)

theorem ev_rel (hs : Sat X g σ a w) (x : Operand) : ∃ k, SR g w σ k (a.eval x) (σ.ev x) := by
  cases x with
  | tmp t => exact ⟨t, hs.env t⟩
  | const v => exact ⟨0, cSV_rel v 0⟩
  | global b => exact ⟨0, trivial⟩
  | func f => exact ⟨0, ⟨#[], rfl, rfl, fun j sv h => by simp at h⟩⟩

theorem rel_int {p : Path} {v : Value} {k : IntKind} {n : Int} (h : TRel g w p v (.int k n)) : v = .int k n := by
  cases h with | fr h => cases h; rfl

theorem rel_bool {p : Path} {v : Value} {b : Bool} (h : TRel g w p v (.bool b)) : v = .bool b := by
  cases h with | fr h => cases h; rfl

theorem rel_str {p : Path} {v : Value} {s : List UInt8} (h : TRel g w p v (.str s)) : v = .string ⟨s.toArray⟩ := by
  cases h with | fr h => cases h; rfl

theorem rel_sc {p : Path} {v u : Value} (h : TRel g w p v (.sc u)) : v = u := by
  cases h with | fr h => cases h; rfl

theorem ev_tv (hs : Sat X g σ a w) {x : Operand} {y : TV} (h : σ.ev x = .tv y) : ∃ k, TRel g w (.slot k 0, []) (a.eval x) y := by
  obtain ⟨k, hk⟩ := ev_rel hs x
  rw [h] at hk
  exact ⟨k, hk⟩

theorem ev_int (hs : Sat X g σ a w) {x : Operand} {k : IntKind} {n : Int} (h : σ.ev x = .tv (.int k n)) : a.eval x = .int k n := by
  obtain ⟨q, hk⟩ := ev_tv hs h; exact rel_int hk

theorem ev_bool (hs : Sat X g σ a w) {x : Operand} {b : Bool} (h : σ.ev x = .tv (.bool b)) : a.eval x = .bool b := by
  obtain ⟨q, hk⟩ := ev_tv hs h; exact rel_bool hk

theorem ev_str (hs : Sat X g σ a w) {x : Operand} {s : List UInt8} (h : σ.ev x = .tv (.str s)) : a.eval x = .string ⟨s.toArray⟩ := by
  obtain ⟨q, hk⟩ := ev_tv hs h; exact rel_str hk

theorem ev_sc (hs : Sat X g σ a w) {x : Operand} {v : Value} (h : σ.ev x = .tv (.sc v)) : a.eval x = v := by
  obtain ⟨q, hk⟩ := ev_tv hs h; exact rel_sc hk

/-- What an operand that reads as a slice is. -/
theorem lenOf_rel {k : Nat} {v : Value} {s : SV} {n : Nat} (h : SR g w σ k v s) (hn : σ.lenOf s = some n) :
    ∃ A cap, v = .slice A n cap ∧ (0 < n → A.isNone = false) := by
  cases s with
  | tv x =>
    have hx : TRel g w (.slot k 0, []) v x := h
    cases x with
    | fz z m f =>
      simp only [AState.lenOf, Option.some.injEq] at hn; subst hn
      cases hx with
      | fr h => cases h with
        | nil => exact ⟨_, _, rfl, by simp⟩
        | row => exact ⟨_, _, rfl, fun _ => rfl⟩
    | own z e m f =>
      simp only [AState.lenOf, Option.some.injEq] at hn; subst hn
      cases hx with
      | fr h => cases h
      | nil => exact ⟨_, _, rfl, by simp⟩
      | own => exact ⟨_, _, rfl, fun _ => rfl⟩
    | sc u =>
      have := rel_sc hx
      subst this
      simp only [AState.lenOf] at hn
      split at hn
      · rename_i e; cases e
      · rename_i e; cases e
      · rename_i e; cases e; cases hn; exact ⟨none, 0, rfl, by simp⟩
      · rename_i e; cases e
      · cases hn
    | str l => cases hn
    | int k n => cases hn
    | bool b => cases hn
    | hole => cases hn
  | al p =>
    obtain ⟨z, e, m, f, hl, hv⟩ := h
    simp only [AState.lenOf, hl, Option.some.injEq] at hn; subst hn
    rcases hv with ⟨rfl, rfl⟩ | ⟨b, cap, c, _, rfl, _⟩
    · exact ⟨_, _, rfl, by simp⟩
    · exact ⟨_, _, rfl, fun _ => rfl⟩
  | _ => cases hn

theorem run_ok {α : Type} {x : Sem α} {r : Result α} (h : x.run X.P w = r) : x.run X.P w = r := h

/-- An operation comes to a value, and memory is as it was. -/
def Comes1 (X : Ctx) (g : Gh) (σ : AState) (a : Act) (w : World) (o : Oper) (sv : SV) : Prop :=
  ∃ v, (execOp a.eval o).run X.P w = .ok (.value v) w ∧ (∃ k, SR g w σ k v sv) ∧ sv.pure = true

/-- The same, in whatever world. -/
def Comes0 (X : Ctx) (g : Gh) (σ : AState) (a : Act) (w : World) (o : Oper) (sv : SV) : Prop :=
  ∃ v, (∀ w', (execOp a.eval o).run X.P w' = .ok (.value v) w') ∧ (∃ k, SR g w σ k v sv) ∧ sv.pure = true

theorem Comes0.one {o : Oper} {sv : SV} (h : Comes0 X g σ a w o sv) : Comes1 X g σ a w o sv := by
  obtain ⟨v, h1, h2⟩ := h
  exact ⟨v, h1 w, h2⟩

theorem intTV_sound {op : BinOp} {k : IntKind} {x y : Int} {cs : List Prop} {r : TV} (h : intTV op k x y = some (cs, r)) (hc : ∀ c ∈ cs, c) :
    ∃ v, (∀ w', (if k ≠ k then (stuck "BinOp: operands of different kinds" : Sem Value) else
      match op with
      | .add | .sub | .mul => Op.intArith op k x y
      | .quo | .rem => Op.intDiv op k x y
      | .and | .or | .xor | .andNot => Op.intBits op k x y
      | _ => Op.intCmp op x y).run X.P w' = .ok v w') ∧ FRel g.P w v r ∧ r.plain = true := by
  simp only [ne_eq, not_true_eq_false, if_false]
  cases op <;> simp only [intTV, Option.some.injEq, Prod.mk.injEq, reduceCtorEq] at h
  all_goals first
    | (obtain ⟨rfl, rfl⟩ := h)
    | skip
  case quo => exact ⟨_, fun w' => by simp [Op.intDiv, hc (y ≠ 0) (by simp)], .int _ _, rfl⟩
  case rem => exact ⟨_, fun w' => by simp [Op.intDiv, hc (y ≠ 0) (by simp)], .int _ _, rfl⟩
  all_goals first
    | exact ⟨_, fun _ => rfl, .int _ _, rfl⟩
    | exact ⟨_, fun _ => rfl, .bool _, rfl⟩


theorem shiftTV_sound {op : BinOp} {k yk : IntKind} {x y : Int} {cs : List Prop} {r : TV} (h : shiftTV op k x y = some (cs, r)) (hc : ∀ c ∈ cs, c) :
    ∃ v, (∀ w', (Op.shift op k x yk y).run X.P w' = .ok v w') ∧ FRel g.P w v r ∧ r.plain = true := by
  cases op <;> simp only [shiftTV, Option.some.injEq, Prod.mk.injEq, reduceCtorEq] at h
  all_goals
    obtain ⟨rfl, rfl⟩ := h
    have h0 := hc (0 ≤ y) (by simp)
    exact ⟨_, fun w' => by rw [Op.shift, if_neg (by omega)]; rfl, .int _ _, rfl⟩

theorem beq_mk (x y : List UInt8) : ((⟨x.toArray⟩ : ByteArray).toList == (⟨y.toArray⟩ : ByteArray).toList) = (x == y) := by
  rw [ByteArray.toList_mk, ByteArray.toList_mk]

theorem strTV_sound {op : BinOp} {x y : List UInt8} {cs : List Prop} {r : TV} (h : strTV op x y = some (cs, r)) (hc : ∀ c ∈ cs, c) :
    ∃ v, (∀ w', (Op.stringOp op ⟨x.toArray⟩ ⟨y.toArray⟩).run X.P w' = .ok v w') ∧ FRel g.P w v r ∧ r.plain = true := by
  cases op <;> simp only [strTV, Option.some.injEq, Prod.mk.injEq, reduceCtorEq] at h
  case add =>
    obtain ⟨rfl, rfl⟩ := h
    have h0 := hc _ (List.mem_singleton.2 rfl)
    refine ⟨.string (⟨x.toArray⟩ ++ ⟨y.toArray⟩), fun w' => ?_, ?_, rfl⟩
    · simp only [Op.stringOp]
      rw [if_neg (by simp only [ByteArray.size, List.size_toArray, IntKind.max, IntKind.signed, IntKind.bits]; simp; omega)]
      rfl
    · have : ((⟨x.toArray⟩ ++ ⟨y.toArray⟩ : ByteArray)) = ⟨(x ++ y).toArray⟩ := by
        rw [ByteArray.ext_iff]; simp [ByteArray.data_append]
      rw [this]
      exact .str _
  all_goals
    obtain ⟨rfl, rfl⟩ := h
    simp only [Op.stringOp, ByteArray.toList_mk]
    exact ⟨_, fun _ => rfl, .bool _, rfl⟩


theorem TabOk.und {P : Program} (hT : TabOk P T) {t : Nat} {d : TypeDesc} (h : (T.get t).map TI.und = some d) : P.underlying t = some d := by
  cases ht : T.get t with
  | none => simp [ht] at h
  | some ti => simp [ht] at h; subst h; exact (hT t ti ht).1

theorem agg_plain {k : Nat} {v : Value} {cs : List TV} (h : SR g w σ k v (.agg cs)) (hp : cs.all TV.plain = true) :
    ∃ vs, v = .agg vs ∧ vs.size = cs.length ∧ ∀ (i : Nat) y, cs[i]? = some y → ∃ u, vs[i]? = some u ∧ FRel g.P w u y := by
  obtain ⟨vs, rfl, hs, hc⟩ := h
  refine ⟨vs, rfl, hs, fun i y hy => ?_⟩
  obtain ⟨u, hu, hr⟩ := hc i y hy
  rw [List.all_eq_true] at hp
  exact ⟨u, hu, hr.plain (hp y (List.mem_of_getElem? hy))⟩

theorem guard_plain {op : BinOp} {t : Nat} {x y : Operand} {u v : Value} (h : ∀ xs, u ≠ .agg xs) (h' : u ≠ .nilIface) :
    (eqGuard op t x y u v).run X.P w = .ok () w := by
  unfold eqGuard
  have e : ∀ z : Sem Unit, z = pure () → (if (!(match op with | .eql | .neq => true | _ => false)) = true then pure () else z).run X.P w = .ok () w := by
    intro z hz
    subst hz
    split <;> rfl
  refine e _ ?_
  cases u <;> first | rfl | exact absurd rfl h' | exact absurd rfl (h _)

theorem equal_bool {P : Program} {t : Nat} (w : World) (h : P.underlying t = some .bool) (p q : Bool) : (Op.equal t (.bool p) (.bool q)).run P w = .ok (p == q) w := by
  show (Op.equalIn (9999 + 1) t (.bool p) (.bool q)).run P w = _
  rw [Op.equalIn, Sem.run_bind, run_underlying h]; rfl

theorem equal_ptr {P : Program} {t e : Nat} (w : World) (h : P.underlying t = some (.pointer e)) (A : Option Addr) : (Op.equal t (.pointer A) (.pointer none)).run P w = .ok A.isNone w := by
  show (Op.equalIn (9999 + 1) t (.pointer A) (.pointer none)).run P w = _
  rw [Op.equalIn, Sem.run_bind, run_underlying h]
  cases A <;> rfl

theorem equal_slice {P : Program} {t e : Nat} (w : World) (h : P.underlying t = some (.slice e)) (A : Option Addr) (n c : Nat) : (Op.equal t (.slice A n c) (.slice none 0 0)).run P w = .ok A.isNone w := by
  show (Op.equalIn (9999 + 1) t (.slice A n c) (.slice none 0 0)).run P w = _
  rw [Op.equalIn, Sem.run_bind, run_underlying h]
  cases A <;> rfl

theorem run_eql {P : Program} {t : Nat} {w : World} {u v : Value} {r : Bool} (hb : binOp .eql t u v = (do pure (.bool (← Op.equal t u v)) : Sem Value)) (h : (Op.equal t u v).run P w = .ok r w) : (binOp .eql t u v).run P w = .ok (.bool r) w := by
  rw [hb, Sem.run_bind, h]; rfl

theorem run_neq {P : Program} {t : Nat} {w : World} {u v : Value} {r : Bool} (hb : binOp .neq t u v = (do pure (.bool (!(← Op.equal t u v))) : Sem Value)) (h : (Op.equal t u v).run P w = .ok r w) : (binOp .neq t u v).run P w = .ok (.bool (!r)) w := by
  rw [hb, Sem.run_bind, h]; rfl

theorem guard_agg {P : Program} {op : BinOp} {t : Nat} {x y : Operand} {us vs : Array Value} {w : World} (h : P.eqGuardType P.depth t = false) :
    (eqGuard op t x y (.agg us) (.agg vs)).run P w = .ok () w := by
  cases op <;> simp [eqGuard, h]

theorem binSV_sound (hT : TabOk X.P T) (hs : Sat X g σ a w) {op : BinOp} {t yt : Nat} {x y : Operand} {cs : List Prop} {sv : SV} {o : Oper} (ho : o.op = .binOp op t x y yt)
    (h : binSV T σ op t (σ.ev x) (σ.ev y) = some (cs, sv)) (hc : ∀ c ∈ cs, c) : Comes0 X g σ a w o sv := by
  unfold binSV at h
  have fin : ∀ {v : Value} {r : TV}, (∀ w', ((do eqGuard op t x y (a.eval x) (a.eval y); binOp op t (a.eval x) (a.eval y)) : Sem Value).run X.P w' = .ok v w') → FRel g.P w v r → r.plain = true → sv = .tv r → Comes0 X g σ a w o sv := by
    intro v r h1 h2 h3 h4
    subst h4
    refine ⟨v, fun w' => ?_, ⟨0, .fr h2⟩, h3⟩
    simp only [execOp, ho]
    rw [Sem.run_bind, h1]
    rfl
  split at h
  · rename_i k p k' q hx hy
    have ex := ev_int hs hx
    have ey := ev_int hs hy
    rw [ex, ey] at fin
    have hg : ∀ w, (eqGuard op t x y (.int k p) (.int k' q)).run X.P w = .ok () w := fun w => guard_plain (by simp) (by simp)
    split at h
    · rename_i hsh
      obtain ⟨⟨cs', r⟩, h1, h2⟩ := Option.map_eq_some_iff.1 h
      cases h2
      obtain ⟨v, hv, hr, hp⟩ := shiftTV_sound (X := X) (g := g) (w := w) (yk := k') h1 hc
      refine fin (v := v) (r := r) (fun w => ?_) hr hp rfl
      rw [Sem.run_bind, hg, Result.andThen_ok]
      cases op <;> first | exact hv w | cases hsh
    · rename_i hsh
      split at h
      · rename_i hk
        obtain rfl := of_decide_eq_true hk
        obtain ⟨⟨cs', r⟩, h1, h2⟩ := Option.map_eq_some_iff.1 h
        cases h2
        obtain ⟨v, hv, hr, hp⟩ := intTV_sound (X := X) (g := g) (w := w) h1 hc
        refine fin (v := v) (r := r) (fun w => ?_) hr hp rfl
        rw [Sem.run_bind, hg, Result.andThen_ok]
        cases op <;> first | exact hv w | cases hsh
      · cases h
  · rename_i p q hx hy
    have ex := ev_str hs hx
    have ey := ev_str hs hy
    rw [ex, ey] at fin
    obtain ⟨⟨cs', r⟩, h1, h2⟩ := Option.map_eq_some_iff.1 h
    cases h2
    obtain ⟨v, hv, hr, hp⟩ := strTV_sound (X := X) (g := g) (w := w) h1 hc
    refine fin (v := v) (r := r) (fun w => ?_) hr hp rfl
    rw [Sem.run_bind, guard_plain (by simp) (by simp), Result.andThen_ok]
    cases op <;> first | exact hv w | (simp only [strTV] at h1; cases h1)
  · rename_i p q hx hy
    have ex := ev_bool hs hx
    have ey := ev_bool hs hy
    rw [ex, ey] at fin
    split at h
    · rename_i hu
      cases h
      refine fin (v := .bool (p == q)) (r := .bool (p == q)) (fun w => ?_) (.bool _) rfl rfl
      rw [Sem.run_bind, guard_plain (by simp) (by simp), Result.andThen_ok]
      exact run_eql rfl (equal_bool w (hT.und hu) p q)
    · rename_i hu
      cases h
      refine fin (v := .bool (!(p == q))) (r := .bool (!(p == q))) (fun w => ?_) (.bool _) rfl rfl
      rw [Sem.run_bind, guard_plain (by simp) (by simp), Result.andThen_ok]
      exact run_neq rfl (equal_bool w (hT.und hu) p q)
    · cases h
  · rename_i xs ys hx hy
    have key : ∀ r, (T.get t).map (fun ti => ti.eq && likes xs (ti.zero.map cTV)) = some true → (xs.all TV.plain && ys.all TV.plain) = true → eqTVs xs ys = some r →
        ∃ us vs, a.eval x = .agg us ∧ a.eval y = .agg vs ∧ (∀ w, (Op.equal t (.agg us) (.agg vs)).run X.P w = .ok r w) ∧ ∀ w, (eqGuard op t x y (.agg us) (.agg vs)).run X.P w = .ok () w := by
      intro r he hp hr
      rw [Bool.and_eq_true] at hp
      obtain ⟨k1, h1⟩ := ev_rel hs x
      obtain ⟨k2, h2⟩ := ev_rel hs y
      rw [hx] at h1
      rw [hy] at h2
      obtain ⟨us, e1, s1, c1⟩ := agg_plain h1 hp.1
      obtain ⟨vs, e2, s2, c2⟩ := agg_plain h2 hp.2
      cases ht : T.get t with
      | none => simp [ht] at he
      | some ti =>
        simp only [ht, Option.map_some, Option.some.injEq, Bool.and_eq_true] at he
        obtain ⟨_, i, z, _, _, _, _, _, _, _, _, heq⟩ := hT t ti ht
        obtain ⟨hgd, hrun⟩ := heq he.1
        exact ⟨us, vs, e1, e2, fun w' => hrun w w' g.P us vs xs ys r s1 s2 c1 c2 he.2 hr, fun _ => guard_agg hgd⟩
    split at h
    · rename_i he hp hr
      cases h
      obtain ⟨us, vs, e1, e2, hrun, hg⟩ := key _ he hp hr
      rw [e1, e2] at fin
      refine fin (v := .bool _) (r := .bool _) (fun w => ?_) (.bool _) rfl rfl
      rw [Sem.run_bind, hg, Result.andThen_ok]
      exact run_eql rfl (hrun w)
    · rename_i he hp hr
      cases h
      obtain ⟨us, vs, e1, e2, hrun, hg⟩ := key _ he hp hr
      rw [e1, e2] at fin
      refine fin (v := .bool _) (r := .bool _) (fun w => ?_) (.bool _) rfl rfl
      rw [Sem.run_bind, hg, Result.andThen_ok]
      exact run_neq rfl (hrun w)
    · cases h
  · rename_i ob off hx hy
    have ey := ev_sc hs hy
    obtain ⟨k1, h1⟩ := ev_rel hs x
    rw [hx] at h1
    obtain ⟨ex, _⟩ := (show S1 g w σ k1 0 (a.eval x) (.pc ob off) from h1)
    rw [ex, ey] at fin
    split at h
    · rename_i e hu
      cases h
      refine fin (v := .bool false) (r := .bool false) (fun w => ?_) (.bool _) rfl rfl
      rw [Sem.run_bind, guard_plain (by simp) (by simp), Result.andThen_ok]
      exact run_eql rfl (equal_ptr w (hT.und hu) _)
    · rename_i e hu
      cases h
      refine fin (v := .bool true) (r := .bool true) (fun w => ?_) (.bool _) rfl rfl
      rw [Sem.run_bind, guard_plain (by simp) (by simp), Result.andThen_ok]
      exact run_neq rfl (equal_ptr w (hT.und hu) _)
    · cases h
  · rename_i hx hy
    have ex := ev_sc hs hx
    have ey := ev_sc hs hy
    rw [ex, ey] at fin
    split at h
    · rename_i e hu
      cases h
      refine fin (v := .bool true) (r := .bool true) (fun w => ?_) (.bool _) rfl rfl
      rw [Sem.run_bind, guard_plain (by simp) (by simp), Result.andThen_ok]
      exact run_eql rfl (equal_ptr w (hT.und hu) _)
    · rename_i e hu
      cases h
      refine fin (v := .bool false) (r := .bool false) (fun w => ?_) (.bool _) rfl rfl
      rw [Sem.run_bind, guard_plain (by simp) (by simp), Result.andThen_ok]
      exact run_neq rfl (equal_ptr w (hT.und hu) _)
    · cases h
  · rename_i hy
    have ey := ev_sc hs hy
    obtain ⟨k1, h1⟩ := ev_rel hs x
    split at h
    · rename_i e n hu hn
      cases h
      have hpos := hc (0 < n) (by simp)
      obtain ⟨A, cap, ex, hA⟩ := lenOf_rel h1 hn
      rw [ex, ey] at fin
      cases A with
      | none => exact absurd (hA hpos) (by simp)
      | some A =>
        refine fin (v := .bool false) (r := .bool false) (fun w => ?_) (.bool _) rfl rfl
        rw [Sem.run_bind, guard_plain (by simp) (by simp), Result.andThen_ok]
        exact run_eql rfl (equal_slice w (hT.und hu) _ _ _)
    · rename_i e n hu hn
      cases h
      have hpos := hc (0 < n) (by simp)
      obtain ⟨A, cap, ex, hA⟩ := lenOf_rel h1 hn
      rw [ex, ey] at fin
      cases A with
      | none => exact absurd (hA hpos) (by simp)
      | some A =>
        refine fin (v := .bool true) (r := .bool true) (fun w => ?_) (.bool _) rfl rfl
        rw [Sem.run_bind, guard_plain (by simp) (by simp), Result.andThen_ok]
        exact run_neq rfl (equal_slice w (hT.und hu) _ _ _)
    · cases h
  · cases h

end
end Go.Sx
