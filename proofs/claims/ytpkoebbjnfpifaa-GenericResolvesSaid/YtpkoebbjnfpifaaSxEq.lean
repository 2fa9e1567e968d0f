/- '==' of structs whose fields are numbers, bools and strings; no condition. -/
import Derived.Test.YtpkoebbjnfpifaaSxConv
namespace Go.Sx
open Go

def LeafOk (P : Program) (t : TypeId) : TV → Prop
  | .int _ _ => ∃ k, P.underlying t = some (.int k)
  | .bool _ => P.underlying t = some .bool
  | .str _ => P.underlying t = some .string
  | _ => False

theorem leafInt {P : Program} {t : TypeId} (k : IntKind) {k' : IntKind} {n : Int} (h : P.underlying t = some (.int k)) : LeafOk P t (.int k' n) := ⟨k, h⟩
theorem leafBool {P : Program} {t : TypeId} {b : Bool} (h : P.underlying t = some .bool) : LeafOk P t (.bool b) := h
theorem leafStr {P : Program} {t : TypeId} {s : List UInt8} (h : P.underlying t = some .string) : LeafOk P t (.str s) := h

def FlatOk (P : Program) : List Field → Nat → List TV → Prop
  | [], _, [] => True
  | f :: fs, i, z :: zs => f.name ≠ "_" ∧ f.offset = i ∧ LeafOk P f.type z ∧ FlatOk P fs (i + 1) zs
  | _, _, _ => False

theorem bytes_beq (x y : List UInt8) : ((⟨x.toArray⟩ : ByteArray) == (⟨y.toArray⟩ : ByteArray)) = (x == y) := by
  have h : ((⟨x.toArray⟩ : ByteArray) == (⟨y.toArray⟩ : ByteArray)) = (x.toArray == y.toArray) := rfl
  rw [h]
  simp

theorem leaf_part {P : Program} {t : TypeId} {z : TV} (h : LeafOk P t z) {xs : Array Value} {i : Nat} {u : Value} (hx : xs[i]? = some u) (w : World) : (part t xs i).run P w = .ok u w := by
  unfold part
  cases z with
  | int k n => obtain ⟨k', hu⟩ := h; rw [Sem.run_bind, run_isAgg hu, Result.andThen_ok]; simp only [isAggD, Bool.false_eq_true, if_false, hx]; rfl
  | bool b => have hu : P.underlying t = some .bool := h; rw [Sem.run_bind, run_isAgg hu, Result.andThen_ok]; simp only [isAggD, Bool.false_eq_true, if_false, hx]; rfl
  | str s => have hu : P.underlying t = some .string := h; rw [Sem.run_bind, run_isAgg hu, Result.andThen_ok]; simp only [isAggD, Bool.false_eq_true, if_false, hx]; rfl
  | _ => exact h.elim

theorem leaf_eq {P : Program} {t : TypeId} {z x y : TV} (h : LeafOk P t z) (hl : likeTV x z = true) {a : Bool} (ha : eqTV x y = some a) {Pr : Nat → Prop} {w : World} {u v : Value} (hu : FRel Pr w u x) (hv : FRel Pr w v y) (d : Nat) (w' : World) :
    (Op.equalIn (d + 1) t u v).run P w' = .ok a w' := by
  cases x with
  | int k n =>
    cases y with
    | int k' m =>
      simp only [eqTV] at ha
      split at ha
      · rename_i hk
        obtain rfl := of_decide_eq_true hk
        cases ha
        rw [rel_int (g := ⟨fun _ => none, Pr, fun o => o⟩) (p := (.slot 0 0, [])) (.fr hu), rel_int (g := ⟨fun _ => none, Pr, fun o => o⟩) (p := (.slot 0 0, [])) (.fr hv)]
        cases z with
        | int _ _ => obtain ⟨k', hund⟩ := h; rw [Op.equalIn, Sem.run_bind, run_underlying hund]; simp
        | _ => cases hl
      · cases ha
    | _ => cases ha
  | bool b =>
    cases y with
    | bool c =>
      cases ha
      rw [rel_bool (g := ⟨fun _ => none, Pr, fun o => o⟩) (p := (.slot 0 0, [])) (.fr hu), rel_bool (g := ⟨fun _ => none, Pr, fun o => o⟩) (p := (.slot 0 0, [])) (.fr hv)]
      cases z with
      | bool _ => rw [Op.equalIn, Sem.run_bind, run_underlying h]; rfl
      | _ => cases hl
    | _ => cases ha
  | str b =>
    cases y with
    | str c =>
      cases ha
      rw [rel_str (g := ⟨fun _ => none, Pr, fun o => o⟩) (p := (.slot 0 0, [])) (.fr hu), rel_str (g := ⟨fun _ => none, Pr, fun o => o⟩) (p := (.slot 0 0, [])) (.fr hv)]
      cases z with
      | str _ =>
        rw [Op.equalIn, Sem.run_bind, run_underlying h]
        simp only [Result.andThen_ok, Sem.run_pure, bytes_beq]
      | _ => cases hl
    | _ => cases ha
  | _ => cases ha

theorem flat_loop {P : Program} {xs ys : Array Value} {Pr : Nat → Prop} {w : World} (w' : World) (d : Nat) : ∀ (fs : List Field) (i : Nat) (zs cx cy : List TV) (r : Bool), FlatOk P fs i zs → likes cx zs = true → eqTVs cx cy = some r →
    (∀ (j : Nat) y, cx[j]? = some y → ∃ u, xs[i + j]? = some u ∧ FRel Pr w u y) → (∀ (j : Nat) y, cy[j]? = some y → ∃ u, ys[i + j]? = some u ∧ FRel Pr w u y) →
    (forIn fs ((none, ()) : Option Bool × Unit) (fun f __s =>
              if f.name ≠ "_" then do
                let __do_lift ← part f.type xs f.offset
                let __do_lift_1 ← part f.type ys f.offset
                let __do_lift ← Op.equalIn (d + 1) f.type __do_lift __do_lift_1
                if (!__do_lift) = true then pure (ForInStep.done (some false, ()))
                  else pure (ForInStep.yield (none, ()))
              else pure (ForInStep.yield (none, ()))) : Sem (Option Bool × Unit)).run P w' = .ok (if r then (none, ()) else (some false, ())) w'
  | [], i, zs, cx, cy, r, hf, hl, he, _, _ => by
    cases zs with
    | nil => cases cx with
      | nil => cases he
      | cons => cases hl
    | cons => exact hf.elim
  | f :: fs, i, zs, cx, cy, r, hf, hl, he, hx, hy => by
    cases zs with
    | nil => exact hf.elim
    | cons z zs =>
      cases cx with
      | nil => cases hl
      | cons x cx =>
        cases cy with
        | nil => cases cx <;> cases he
        | cons y cy =>
          obtain ⟨hn, ho, hlf, hrest⟩ := hf
          simp only [likes, Bool.and_eq_true] at hl
          obtain ⟨u, hu, hur⟩ := hx 0 x rfl
          obtain ⟨v, hv, hvr⟩ := hy 0 y rfl
          rw [Nat.add_zero] at hu hv
          have key : ∀ a, eqTV x y = some a → (Op.equalIn (d + 1) f.type u v).run P w' = .ok a w' := fun a ha => leaf_eq hlf hl.1 ha hur hvr d w'
          have hp1 := leaf_part hlf hu w'
          have hp2 := leaf_part hlf hv w'
          rw [List.forIn_cons]
          have hstep : ∀ a, eqTV x y = some a → ∀ (K : ForInStep (Option Bool × Unit) → Sem (Option Bool × Unit)),
              ((if f.name ≠ "_" then do
                let __do_lift ← part f.type xs f.offset
                let __do_lift_1 ← part f.type ys f.offset
                let __do_lift ← Op.equalIn (d + 1) f.type __do_lift __do_lift_1
                if (!__do_lift) = true then pure (ForInStep.done (some false, ()))
                  else pure (ForInStep.yield (none, ()))
              else pure (ForInStep.yield (none, ()))) >>= K : Sem _).run P w' = (K (if a then ForInStep.yield (none, ()) else ForInStep.done (some false, ()))).run P w' := by
            intro a ha K
            rw [if_pos hn, ho]
            simp only [Sem.run_bind, hp1, hp2, Result.andThen_ok, key a ha]
            cases a <;> rfl
          by_cases hone : cx = [] ∧ cy = []
          · obtain ⟨rfl, rfl⟩ := hone
            simp only [eqTVs] at he
            rw [hstep r he]
            cases zs with
            | cons => cases hl.2
            | nil =>
              cases fs with
              | cons => exact hrest.elim
              | nil => cases r <;> rfl
          · have he' : ∃ a b, eqTV x y = some a ∧ eqTVs cx cy = some b ∧ r = (a && b) := by
              cases cx with
              | nil => cases cy with
                | nil => exact absurd ⟨rfl, rfl⟩ hone
                | cons c cy => cases hxy : eqTV x y <;> simp [eqTVs, hxy] at he
              | cons c cx =>
                simp only [eqTVs] at he
                split at he
                · rename_i a b h1 h2; cases he; exact ⟨a, b, h1, h2, rfl⟩
                · cases he
            obtain ⟨a, b, h1, h2, rfl⟩ := he'
            rw [hstep a h1]
            cases a with
            | false => rfl
            | true =>
              simp only [if_true, Bool.true_and]
              exact flat_loop w' d fs (i + 1) zs cx cy b hrest hl.2 h2 (fun j y hj => by have := hx (j + 1) y hj; rwa [show i + (j + 1) = i + 1 + j by omega] at this) (fun j y hj => by have := hy (j + 1) y hj; rwa [show i + (j + 1) = i + 1 + j by omega] at this)

theorem eq_flat {P : Program} {t : TypeId} {fs : Array Field} {zs : List TV} (hu : P.underlying t = some (.struct fs)) (hs : P.stoodInHeld t = false) (hg : P.eqGuardType P.depth t = false) (hf : FlatOk P fs.toList 0 zs) :
    P.eqGuardType P.depth t = false ∧ ∀ (w w' : World) (Pr : Nat → Prop) (xs ys : Array Value) (cx cy : List TV) (r : Bool), xs.size = cx.length → ys.size = cy.length →
      (∀ (i : Nat) y, cx[i]? = some y → ∃ u, xs[i]? = some u ∧ FRel Pr w u y) → (∀ (i : Nat) y, cy[i]? = some y → ∃ u, ys[i]? = some u ∧ FRel Pr w u y) →
      likes cx zs = true → eqTVs cx cy = some r → (Op.equal t (.agg xs) (.agg ys)).run P w' = .ok r w' := by
  refine ⟨hg, fun w w' Pr xs ys cx cy r _ _ hx hy hl he => ?_⟩
  show (Op.equalIn (9999 + 1) t (.agg xs) (.agg ys)).run P w' = _
  rw [Op.equalIn, Sem.run_bind, run_underlying hu]
  simp only [Result.andThen_ok, Sem.run_bind, run_program, hs, Bool.false_eq_true, if_false]
  rw [← Array.toArray_toList (xs := fs), List.forIn_toArray]
  have := flat_loop (P := P) (xs := xs) (ys := ys) w' 9998 fs.toList 0 zs cx cy r hf hl he (by simpa using hx) (by simpa using hy)
  rw [this]
  cases r <;> rfl

end Go.Sx
