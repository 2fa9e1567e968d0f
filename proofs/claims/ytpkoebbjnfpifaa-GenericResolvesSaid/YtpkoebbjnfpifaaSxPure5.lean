/- The same: conversions, slices, tuples' parts, structs, lengths; no condition. -/
import Derived.Test.YtpkoebbjnfpifaaSxPure4
namespace Go.Sx
open Go

section
variable {X : Ctx} {g : Gh} {σ : AState} {a : Act} {w : World} {T : Tab}

theorem convert_sound (hT : TabOk X.P T) (hs : Sat X g σ a w) {s d : TypeId} {x : Operand} {cs : List Prop} {sv : SV} {o : Oper} (ho : o.op = .convert s d x)
    (h : evalPure T σ (.convert s d x) = some (cs, sv)) : Comes0 X g σ a w o sv := by
  simp only [evalPure] at h
  split at h
  · rename_i si di k n hsi hdi hx
    split at h
    · rename_i j q hsu hdu
      cases h
      have h1 : X.P.underlying s = some (.int j) := by rw [← hsu]; exact (hT s si hsi).1
      have h2 : X.P.underlying d = some (.int q) := by rw [← hdu]; exact (hT d di hdi).1
      refine ⟨_, fun _ => ?_, ⟨0, .fr (.int _ _)⟩, rfl⟩
      simp only [execOp, ho, ev_int hs hx, convert, Sem.run_bind, run_underlying h1, run_underlying h2, Result.andThen_ok, Conv.intToInt, Sem.run_pure]
    · cases h
  · rename_i si di l hsi hdi hx
    split at h
    · rename_i hdu
      cases h
      have h1 := (hT s si hsi).1
      have h2 : X.P.underlying d = some .string := by rw [← hdu]; exact (hT d di hdi).1
      refine ⟨.string ⟨l.toArray⟩, fun _ => ?_, ⟨0, .fr (.str _)⟩, rfl⟩
      simp only [execOp, ho, ev_str hs hx, convert, Sem.run_bind, run_underlying h1, run_underlying h2, Result.andThen_ok]
      cases si.und <;> rfl
    · cases h
  · cases h

theorem S1.pure {k j k' j' : Nat} {v : Value} {sv : SV} (hp : sv.pure1 = true) (h : S1 g w σ k j v sv) : S1 g w σ k' j' v sv := by
  cases sv with
  | tv y => exact .fr (show FRel g.P w _ y from TRel.plain (g := g) (p := (.slot k j, [])) h hp)
  | agg cs =>
    obtain ⟨vs, hv, hs, hc⟩ := h
    refine ⟨vs, hv, hs, fun i y hy => ?_⟩
    obtain ⟨u, hu, hr⟩ := hc i y hy
    exact ⟨u, hu, .fr (show FRel g.P w _ y from hr.plain (by simp only [SV.pure1, List.all_eq_true] at hp; exact hp y (List.mem_of_getElem? hy)))⟩
  | tup vs => cases hp
  | fn f caps => cases hp
  | junk => trivial
  | pc o off => exact h
  | pe p i j z => exact h
  | rp cs => exact h
  | al p => exact h

theorem pure1_flat {sv : SV} (hp : sv.pure1 = true) : sv.flat = true := by cases sv <;> first | rfl | cases hp

theorem pure1_pure {sv : SV} (hp : sv.pure1 = true) : sv.pure = true := by cases sv <;> first | exact hp | cases hp

theorem pure_flat {sv : SV} (hp : sv.pure = true) (hf : sv.flat = true) : sv.pure1 = true := by cases sv <;> first | exact hp | cases hf

theorem caps_rel (hs : Sat X g σ a w) : ∀ {xs : List Operand} {l : List SV}, capsOf σ xs = some l → l.all SV.pure1 = true ∧ l.length = xs.length ∧
    ∀ (j : Nat) sv, l[j]? = some sv → ∃ x, xs[j]? = some x ∧ S1 g w σ 0 j (a.eval x) sv
  | [], l, h => by
    simp only [capsOf, Option.some.injEq] at h; subst h
    exact ⟨rfl, rfl, fun j sv h => by simp at h⟩
  | x :: r, l, h => by
    simp only [capsOf] at h
    split at h
    · rename_i l' hl'
      split at h
      · rename_i hp
        cases h
        obtain ⟨h1, h2, h3⟩ := caps_rel hs hl'
        refine ⟨by simp [hp, h1], by simp [h2], fun j sv hj => ?_⟩
        cases j with
        | zero =>
          simp only [List.getElem?_cons_zero, Option.some.injEq] at hj
          subst hj
          refine ⟨x, rfl, ?_⟩
          obtain ⟨k, hk⟩ := ev_rel hs x
          rw [SR_flat (pure1_flat hp)] at hk
          exact hk.pure hp
        | succ j =>
          simp only [List.getElem?_cons_succ] at hj
          obtain ⟨y, hy, hr⟩ := h3 j sv hj
          refine ⟨y, hy, hr.pure ?_⟩
          rw [List.all_eq_true] at h1; exact h1 sv (List.mem_of_getElem? hj)
      · cases h
    · cases h

theorem makeFunc_sound (hs : Sat X g σ a w) {fn : Fn} {fs caps : Array Operand} {cs : List Prop} {sv : SV} {o : Oper} (ho : o.op = .makeFunc fn fs caps)
    (h : evalPure T σ (.makeFunc fn fs caps) = some (cs, sv)) : Comes0 X g σ a w o sv := by
  cases fn with
  | func f =>
    simp only [evalPure] at h
    split at h
    · rename_i l hfs hcaps
      cases h
      obtain ⟨h1, h2, h3⟩ := caps_rel hs hcaps
      have hfs' : fs = #[] := by rw [← Array.toArray_toList (xs := fs), hfs]
      subst hfs'
      refine ⟨.func (.func f) #[] (caps.map a.eval), fun _ => ?_, ⟨0, caps.map a.eval, rfl, by simp [h2], fun j sv hj => ?_⟩, h1⟩
      · simp only [execOp, ho, Instr.makeFunc]
        simp
      · obtain ⟨x, hx, hr⟩ := h3 j sv hj
        exact ⟨a.eval x, by rw [Array.getElem?_map, ← Array.getElem?_toList, hx]; rfl, hr⟩
    · cases h
  | _ => simp only [evalPure] at h; cases h

theorem extract_sound (hs : Sat X g σ a w) {x : Operand} {i : Nat} {cs : List Prop} {sv : SV} {o : Oper} (ho : o.op = .extract x i)
    (h : evalPure T σ (.extract x i) = some (cs, sv)) : Comes0 X g σ a w o sv := by
  simp only [evalPure] at h
  split at h
  · rename_i vs hx
    obtain ⟨k, hk⟩ := ev_rel hs x
    have hk' := hk
    rw [hx] at hk'
    obtain ⟨us, hv, hsz, hc⟩ := hk'
    split at h
    · rename_i s hi
      obtain ⟨u, hu, hr⟩ := hc i s hi
      have hrun : ∀ w, (execOp a.eval o).run X.P w = .ok (.value u) w := fun w => by
        simp only [execOp, ho, hv, Instr.extract, hu]
        rfl
      split at h
      · rename_i hp
        cases h
        exact ⟨u, hrun, ⟨0, by rw [SR_flat (pure1_flat hp)]; exact hr.pure hp⟩, pure1_pure hp⟩
      · rename_i t _ hown
        cases h
        obtain ⟨z, e, n, f, rfl⟩ := isOwn_iff.1 hown
        have hx' : σ.get t = .tup vs := hx
        have ht := hs.env t
        rw [hx'] at ht
        obtain ⟨us', hv', _, hc'⟩ := ht
        obtain ⟨u', hu', hr'⟩ := hc' i _ hi
        have e1 : us' = us := by
          have : a.eval (.tmp t) = .tuple us' := hv'
          rw [hv] at this
          injection this with this
          exact this.symm
        subst e1
        rw [hu] at hu'
        cases hu'
        have hl : σ.look (.slot t i, []) = some (.own z e n f) := by
          simp only [AState.look, AState.rootTV, hx', List.foldr_nil, tupAt, hi]
        exact ⟨u, hrun, ⟨0, al_of_own hl hr' 0 0⟩, rfl⟩
      · cases h
    · cases h
  · cases h

theorem len_sound (hT : TabOk X.P T) (hs : Sat X g σ a w) {as : Array Operand} {ts : Array TypeId} {cs : List Prop} {sv : SV} {o : Oper} (ho : o.op = .call { callee := .builtin .len, args := as, argTypes := ts })
    (h : evalPure T σ (.call { callee := .builtin .len, args := as, argTypes := ts }) = some (cs, sv)) : Comes0 X g σ a w o sv := by
  simp only [evalPure] at h
  split at h
  · rename_i x t has hts
    obtain rfl : as = #[x] := by rw [← Array.toArray_toList (xs := as), has]
    obtain rfl : ts = #[t] := by rw [← Array.toArray_toList (xs := ts), hts]
    split at h
    · rename_i l hu hx
      cases h
      refine ⟨.int .i64 (l.length : Int), fun _ => ?_, ⟨0, .fr (.int _ _)⟩, rfl⟩
      simp only [execOp, ho, resolve, invoke, builtin, Sem.run_bind, Sem.run_pure, Result.andThen_ok, List.map_toArray, List.map_cons, List.map_nil, ev_str hs hx]
      simp only [Builtin.len_, List.getElem?_toArray, List.getElem?_cons_zero, Sem.run_bind, run_underlying (hT.und hu), Result.andThen_ok, Sem.run_pure, goInt]
      rfl
    · rename_i e n hu hn
      cases h
      obtain ⟨k, hk⟩ := ev_rel hs x
      obtain ⟨A, cap, hv, _⟩ := lenOf_rel hk hn
      refine ⟨.int .i64 (n : Int), fun _ => ?_, ⟨0, .fr (.int _ _)⟩, rfl⟩
      simp only [execOp, ho, resolve, invoke, builtin, Sem.run_bind, Sem.run_pure, Result.andThen_ok, List.map_toArray, List.map_cons, List.map_nil, hv]
      simp only [Builtin.len_, List.getElem?_toArray, List.getElem?_cons_zero, Sem.run_bind, run_underlying (hT.und hu), Result.andThen_ok, Sem.run_pure, goInt]
    · cases h
  · cases h

end
end Go.Sx
