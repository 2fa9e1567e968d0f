/- The same: a struct's part, slices, the greatest and the least; and all of it together; no condition. -/
import Derived.Test.YtpkoebbjnfpifaaSxPure6
namespace Go.Sx
open Go

section
variable {X : Ctx} {g : Gh} {σ : AState} {a : Act} {w : World} {T : Tab}

theorem part_sound (hT : TabOk X.P T) {t : TypeId} {ti : TI} (hti : T.get t = some ti) {vs : Array Value} {cs : List TV} {off : Nat} {s : SV} {n : Nat}
    (hr : CellsRel g.P w vs cs) (hn : n = ti.size) (hc : ofCells (isAggD ti.und) ti.size ((cs.drop off).take n) = some s) :
    ∃ v, (∀ w', (part t vs off).run X.P w' = .ok v w') ∧ SR g w σ 0 v s ∧ s.pure = true := by
  subst hn
  obtain ⟨hu, i, z, hi, hsz, _⟩ := hT t ti hti
  unfold part
  simp only [Sem.run_bind, run_isAgg hu, Result.andThen_ok]
  unfold ofCells at hc
  cases hb : Nat.beq ((cs.drop off).take ti.size).length ti.size && ((cs.drop off).take ti.size).all TV.plain with
  | false => rw [hb] at hc; cases hc
  | true =>
    rw [hb] at hc
    rw [Bool.and_eq_true] at hb
    obtain ⟨hlen, hp⟩ := hb
    have hl : ((cs.drop off).take ti.size).length = ti.size := Nat.eq_of_beq_eq_true hlen
    have hl' : ti.size ≤ cs.length - off := by
      rw [List.length_take, List.length_drop] at hl
      omega
    cases hagg : isAggD ti.und with
    | true =>
      rw [hagg] at hc
      cases hc
      simp only [if_true]
      refine ⟨.agg (vs.extract off (off + ti.size)), fun w' => ?_, ⟨_, rfl, ?_, fun j y hy => ?_⟩, hp⟩
      · rw [Sem.run_bind, run_size hi, Result.andThen_ok, hsz]; rfl
      · rw [hl, Array.size_extract, hr.1]; omega
      · rw [List.getElem?_take] at hy
        split at hy
        · rw [List.getElem?_drop] at hy
          obtain ⟨u, hu', hr'⟩ := hr.2 _ y hy
          refine ⟨u, ?_, .fr hr'⟩
          rw [Array.getElem?_extract, if_pos (by rw [hr.1]; omega)]
          exact hu'
        · cases hy
    | false =>
      rw [hagg] at hc
      simp only at hc
      split at hc
      · rename_i x hx
        cases hc
        have hy : ((cs.drop off).take ti.size)[0]? = some x := by rw [hx]; rfl
        rw [List.getElem?_take] at hy
        split at hy
        · rw [List.getElem?_drop, Nat.add_zero] at hy
          obtain ⟨u, hu', hr'⟩ := hr.2 _ x hy
          rw [hx] at hp
          refine ⟨u, fun w' => ?_, .fr hr', show x.plain = true by simpa using hp⟩
          simp only [Bool.false_eq_true, if_false, hu']
          rfl
        · cases hy
      · cases hc

theorem field_sound (hT : TabOk X.P T) (hs : Sat X g σ a w) {t : TypeId} {x : Operand} {f : Nat} {cs : List Prop} {sv : SV} {o : Oper} (ho : o.op = .field t x f)
    (h : evalPure T σ (.field t x f) = some (cs, sv)) : Comes0 X g σ a w o sv := by
  simp only [evalPure] at h
  split at h
  · rename_i ti hti
    split at h
    · rename_i fs hund
      split at h
      · rename_i fd hfd
        split at h
        · rename_i fi cells hfi hx
          unfold someCs at h
          split at h
          · rename_i s hof
            cases h
            obtain ⟨k, hk⟩ := ev_rel hs x
            rw [hx] at hk
            obtain ⟨vs, hv, hsz, hc⟩ := hk
            have hu : X.P.underlying t = some (.struct fs) := by rw [← hund]; exact (hT t ti hti).1
            -- the part's own cells are plain; the others don't count
            have hof' := hof
            unfold ofCells at hof'
            cases hb : Nat.beq ((cells.drop fd.offset).take fi.size).length fi.size && ((cells.drop fd.offset).take fi.size).all TV.plain with
            | false => rw [hb] at hof'; cases hof'
            | true =>
              rw [Bool.and_eq_true] at hb
              have hp := hb.2
              rw [List.all_eq_true] at hp
              let cells' : List TV := cells.map fun y => if y.plain then y else .int .i64 0
              let vs' : Array Value := vs.mapIdx fun i v => match cells[i]? with | some y => if y.plain then v else .int .i64 0 | none => v
              have hrel : CellsRel g.P w vs' cells' := by
                refine ⟨by simp [vs', cells', hsz], fun i y hy => ?_⟩
                simp only [cells', List.getElem?_map] at hy
                obtain ⟨y0, hy0, rfl⟩ := Option.map_eq_some_iff.1 hy
                obtain ⟨u, hu', hr⟩ := hc i y0 hy0
                simp only [vs', Array.getElem?_mapIdx, hu', Option.map_some, hy0]
                by_cases hpl : y0.plain = true
                · simp only [hpl, if_true]; exact ⟨u, rfl, hr.plain hpl⟩
                · simp only [hpl, if_false, Bool.false_eq_true]; exact ⟨_, rfl, .int _ _⟩
              have same : (cells'.drop fd.offset).take fi.size = (cells.drop fd.offset).take fi.size := by
                apply List.ext_getElem?
                intro i
                simp only [cells', List.getElem?_take, List.getElem?_drop, List.getElem?_map]
                split
                · rename_i hi
                  cases hy : cells[fd.offset + i]? with
                  | none => rfl
                  | some y =>
                    have : y.plain = true := hp y (by
                      have : ((cells.drop fd.offset).take fi.size)[i]? = some y := by rw [List.getElem?_take, if_pos hi, List.getElem?_drop, hy]
                      exact List.mem_of_getElem? this)
                    simp [this]
                · rfl
              obtain ⟨v, hrun, hr, hpu⟩ := part_sound (σ := σ) hT hfi hrel rfl (by rw [same]; exact hof)
              have hpart : ∀ w, (part fd.type vs fd.offset).run X.P w = .ok v w := fun w => by
                rw [← hrun w]
                obtain ⟨hu2, i2, z2, hi2, hsz2, _⟩ := hT fd.type fi hfi
                unfold part
                rw [Sem.run_bind, run_isAgg hu2, Result.andThen_ok, Sem.run_bind, run_isAgg hu2, Result.andThen_ok]
                have hlen : ((cells.drop fd.offset).take fi.size).length = fi.size := Nat.eq_of_beq_eq_true hb.1
                have hl' : fi.size ≤ cells.length - fd.offset := by
                  rw [List.length_take, List.length_drop] at hlen
                  omega
                have cell : ∀ i, fd.offset ≤ i → i < fd.offset + fi.size → vs'[i]? = vs[i]? := by
                  intro i h1 h2
                  have hic : i < cells.length := by omega
                  simp only [vs', Array.getElem?_mapIdx]
                  have hy : cells[i]? = some cells[i] := List.getElem?_eq_getElem hic
                  have hpl : cells[i].plain = true := hp _ (by
                    have : ((cells.drop fd.offset).take fi.size)[i - fd.offset]? = some cells[i] := by
                      rw [List.getElem?_take, if_pos (by omega), List.getElem?_drop, show fd.offset + (i - fd.offset) = i by omega, hy]
                    exact List.mem_of_getElem? this)
                  rw [hy]
                  simp only [hpl, if_true]
                  cases vs[i]? <;> rfl
                cases hag : isAggD fi.und with
                | true =>
                  simp only [if_true, Sem.run_bind, run_size hi2, Result.andThen_ok, Sem.run_pure, hsz2]
                  congr 2
                  apply Array.ext_getElem?
                  intro i
                  rw [Array.getElem?_extract, Array.getElem?_extract]
                  have hss : vs'.size = vs.size := by simp [vs']
                  rw [hss]
                  split
                  · rw [cell _ (by omega) (by omega)]
                  · rfl
                | false =>
                  have h1 : fi.size = 1 := by
                    obtain ⟨_, _, _, _, _, _, _, _, _, _, hag', _⟩ := hT fd.type fi hfi
                    exact hag' hag
                  simp only [Bool.false_eq_true, if_false]
                  rw [cell _ (Nat.le_refl _) (by omega)]
              refine ⟨v, fun _ => ?_, ⟨0, hr⟩, hpu⟩
              simp only [execOp, ho, Instr.field, hv, asAgg, pure_bind, Sem.run_bind, run_underlying hu, Result.andThen_ok, hfd, hpart, Sem.run_pure]
          · cases h
        · cases h
      · cases h
    · cases h
  · cases h


theorem maxTV_sound (hs : Sat X g σ a w) (less : Bool) : ∀ {xs : List Operand} {k : IntKind} {n : Int} {s : SV}, maxTV σ less (.tv (.int k n)) xs = some s →
    ∃ m, s = .tv (.int k m) ∧ ∀ w', ((xs.map a.eval).foldlM (if less then Builtin.min2 else Builtin.max2) (.int k n) : Sem Value).run X.P w' = .ok (.int k m) w'
  | [], k, n, s, h => by simp only [maxTV, Option.some.injEq] at h; subst h; exact ⟨n, rfl, fun _ => rfl⟩
  | x :: r, k, n, s, h => by
    simp only [maxTV] at h
    split at h
    · rename_i k' b hx
      obtain ⟨m, hm, hrun⟩ := maxTV_sound hs less h
      refine ⟨m, hm, fun w' => ?_⟩
      rw [List.map_cons, List.foldlM_cons, ev_int hs hx]
      cases less
      · exact hrun w'
      · exact hrun w'
    · cases h

theorem max_sound (hs : Sat X g σ a w) {as : Array Operand} {ts : Array TypeId} {cs : List Prop} {sv : SV} {o : Oper} (ho : o.op = .call { callee := .builtin .max, args := as, argTypes := ts })
    (h : evalPure T σ (.call { callee := .builtin .max, args := as, argTypes := ts }) = some (cs, sv)) : Comes0 X g σ a w o sv := by
  simp only [evalPure] at h
  split at h
  · rename_i x r has
    obtain rfl : as = (x :: r).toArray := by rw [← Array.toArray_toList (xs := as), has]
    split at h
    · rename_i k n hx
      unfold someCs at h
      split at h
      · rename_i s hs'
        cases h
        obtain ⟨m, rfl, hrun⟩ := maxTV_sound hs false hs'
        refine ⟨_, fun w' => ?_, ⟨0, .fr (.int _ _)⟩, rfl⟩
        simp only [execOp, ho, resolve, invoke, builtin, Sem.run_bind, Sem.run_pure, Result.andThen_ok, List.map_toArray, List.map_cons, ev_int hs hx, Builtin.max_]
        have : (List.foldlM Builtin.max2 (Value.int k n) (r.map a.eval) : Sem Value).run X.P w' = .ok (.int k m) w' := hrun w'
        simp only [this, Result.andThen_ok]
      · cases h
    · cases h
  · cases h

theorem min_sound (hs : Sat X g σ a w) {as : Array Operand} {ts : Array TypeId} {cs : List Prop} {sv : SV} {o : Oper} (ho : o.op = .call { callee := .builtin .min, args := as, argTypes := ts })
    (h : evalPure T σ (.call { callee := .builtin .min, args := as, argTypes := ts }) = some (cs, sv)) : Comes0 X g σ a w o sv := by
  simp only [evalPure] at h
  split at h
  · rename_i x r has
    obtain rfl : as = (x :: r).toArray := by rw [← Array.toArray_toList (xs := as), has]
    split at h
    · rename_i k n hx
      unfold someCs at h
      split at h
      · rename_i s hs'
        cases h
        obtain ⟨m, rfl, hrun⟩ := maxTV_sound hs true hs'
        refine ⟨_, fun w' => ?_, ⟨0, .fr (.int _ _)⟩, rfl⟩
        simp only [execOp, ho, resolve, invoke, builtin, Sem.run_bind, Sem.run_pure, Result.andThen_ok, List.map_toArray, List.map_cons, ev_int hs hx, Builtin.min_]
        have : (List.foldlM Builtin.min2 (Value.int k n) (r.map a.eval) : Sem Value).run X.P w' = .ok (.int k m) w' := hrun w'
        simp only [this, Result.andThen_ok]
      · cases h
    · cases h
  · cases h

theorem bound_rel (hs : Sat X g σ a w) {d : Int} {lo : Option Operand} {l : Int} (h : σ.bound d lo = some l) :
    (lo = none ∧ l = d) ∨ ∃ x k, lo = some x ∧ a.eval x = .int k l := by
  cases lo with
  | none => simp only [AState.bound, Option.some.injEq] at h; exact .inl ⟨rfl, h.symm⟩
  | some x => obtain ⟨k, hk⟩ := iv_rel hs h; exact .inr ⟨x, k, rfl, hk⟩

theorem sliceBounds_run (hs : Sat X g σ a w) {b : Bool} {len cap : Nat} {lo hi : Option Operand} {l h : Int} (hl : σ.bound 0 lo = some l) (hh : σ.bound (len : Int) hi = some h)
    (h0 : 0 ≤ l) (h1 : l ≤ h) (h2 : h ≤ (len : Int)) (hc : len ≤ cap) (w' : World) : (Instr.sliceBounds b len cap (lo.map a.eval) (hi.map a.eval) none).run X.P w' = .ok (l.toNat, h.toNat, cap) w' := by
  unfold Instr.sliceBounds
  rcases bound_rel hs hl with ⟨rfl, rfl⟩ | ⟨x, k, rfl, hx⟩
  · rcases bound_rel hs hh with ⟨rfl, rfl⟩ | ⟨y, k', rfl, hy⟩
    · simp
    · simp [Instr.sliceBound, hy, asIntOf, show 0 ≤ h by omega, show h ≤ (cap : Int) by omega]
  · rcases bound_rel hs hh with ⟨rfl, rfl⟩ | ⟨y, k', rfl, hy⟩
    · simp [Instr.sliceBound, hx, asIntOf, h0, h1]
    · simp [Instr.sliceBound, hx, hy, asIntOf, show 0 ≤ h by omega, show h ≤ (cap : Int) by omega, h0, show l ≤ max h 0 by omega]

theorem slice_sound (hT : TabOk X.P T) (hs : Sat X g σ a w) {t : TypeId} {x : Operand} {lo hi mx : Option Operand} {cs : List Prop} {sv : SV} {o : Oper} (ho : o.op = .slice t x lo hi mx)
    (h : evalPure T σ (.slice t x lo hi mx) = some (cs, sv)) (hc : ∀ c ∈ cs, c) : Comes0 X g σ a w o sv := by
  cases mx with
  | some m => simp only [evalPure] at h; cases h
  | none =>
  simp only [evalPure] at h
  split at h
  · rename_i s hu hx
    split at h
    · rename_i l h' hl hh
      cases h
      have h0 := hc (0 ≤ l) (by simp)
      have h1 := hc (l ≤ h') (by simp)
      have h2 := hc (h' ≤ (s.length : Int)) (by simp)
      refine ⟨.string ⟨((s.take h'.toNat).drop l.toNat).toArray⟩, fun _ => ?_, ⟨0, .fr (.str _)⟩, rfl⟩
      have hb := sliceBounds_run (X := X) hs (b := false) hl hh h0 h1 h2 (Nat.le_refl _)
      have hund := hT.und hu
      simp only [execOp, ho, Instr.sliceAt, Instr.slice, ev_str hs hx, Sem.run_bind, run_underlying hund, Result.andThen_ok, Option.map_none]
      have e : (⟨s.toArray⟩ : ByteArray).size = s.length := rfl
      simp only [Option.isSome_none, Bool.false_eq_true, if_false, Sem.run_bind, Sem.run_pure, Result.andThen_ok, e, hb]
      congr 3
      rw [ByteArray.ext_iff]
      rw [ByteArray.data_extract]
      simp [List.extract_toArray, List.extract_eq_take_drop, List.drop_take]
    · cases h
  · rename_i e z n f hu hx
    split at h
    · rename_i l h' z' hl hh hz
      split at h
      · rename_i hzz
        obtain rfl : z = z' := Nat.eq_of_beq_eq_true hzz
        cases h
        have h0 := hc (0 ≤ l) (by simp)
        have h1 := hc (l ≤ h') (by simp)
        have h2 := hc (h' ≤ (n : Int)) (by simp)
        have hund := hT.und hu
        obtain ⟨k, hk⟩ := ev_rel hs x
        rw [hx] at hk
        have hk' := TRel.plain (g := g) (p := (.slot k 0, [])) (x := .fz z n f) hk rfl
        obtain ⟨i, hi', hsz⟩ := hT.info hz
        rcases fz_inv hk' with ⟨hv, hn⟩ | ⟨b, off, cap, ds, hb, hv, hcap, hm, hlen, h5, h6⟩
        · subst hn
          have hl0 : l = 0 := by omega
          have hh0 : h' = 0 := by omega
          subst hl0 hh0
          obtain ⟨A, c, hv⟩ := hv
          have hb := sliceBounds_run (X := X) hs (b := true) (cap := c) hl hh h0 h1 h2 (Nat.zero_le _)
          refine ⟨.slice (if c = 0 then A else A.map fun a => a.add (0 * i.size)) 0 (c - 0), fun _ => ?_, ⟨0, .fr (.nil _ _ _ _)⟩, rfl⟩
          simp only [execOp, ho, Instr.sliceAt, Instr.slice, hv, Sem.run_bind, run_underlying hund, Result.andThen_ok, Option.map_none, hb, run_size hi', Sem.run_pure, Int.toNat_zero, Nat.sub_self]
        · have hb' := sliceBounds_run (X := X) hs (b := true) (cap := cap) hl hh h0 h1 h2 hcap
          have hrun : ∀ w, (execOp a.eval o).run X.P w = .ok (.value (.slice (if cap = l.toNat then some ⟨b, off, none⟩ else some ⟨b, off + l.toNat * z, none⟩) (h'.toNat - l.toNat) (cap - l.toNat))) w := fun w => by
            simp only [execOp, ho, Instr.sliceAt, Instr.slice, hv, Sem.run_bind, run_underlying hund, Result.andThen_ok, Option.map_none, hb', run_size hi', Sem.run_pure, Option.map_some, add_mk, hsz]
          refine ⟨_, hrun, ⟨0, .fr ?_⟩, rfl⟩
          by_cases hcl : cap = l.toNat
          · rw [if_pos hcl]
            have hn0 : h'.toNat - l.toNat = 0 := by omega
            rw [hn0]
            exact .row b off _ z 0 _ ds hb (Nat.zero_le _) (by omega) (fun i hi => by omega) (fun i j y hi => by omega) (fun i j y hi => by omega)
          · rw [if_neg hcl]
            refine .row b _ _ z _ _ (fun i j => ds (l.toNat + i) j) hb (by omega) (by omega) (fun i hi => hlen _ (by omega)) (fun i j y hi hy => ?_) (fun i j y hi hy => h6 _ _ _ (by omega) hy)
            rw [← h5 (l.toNat + i) j y (by omega) hy, Nat.add_mul, Nat.add_assoc off]
      · cases h
    · cases h
  · cases h

/-- What the evaluation of an operation that is no load says of its run, in whatever world. -/
theorem evalPure_still (hT : TabOk X.P T) (hs : Sat X g σ a w) {o : Oper} {cs : List Prop} {sv : SV} (h : evalPure T σ o.op = some (cs, sv)) (hc : ∀ c ∈ cs, c) (hl : ¬ ∃ t x, o.op = .load t x) : Comes0 X g σ a w o sv := by
  cases ho : o.op with
  | move x => rw [ho] at h; exact move_sound hs ho h
  | assign x => rw [ho] at h; exact assign_sound hs ho h
  | pick c x y => rw [ho] at h; exact pick_sound hs ho h
  | load t x => exact absurd ⟨t, x, ho⟩ hl
  | fieldAddr t x f => rw [ho] at h; exact fieldAddr_sound hT hs ho h
  | field t x f => rw [ho] at h; exact field_sound hT hs ho h
  | indexAddr t x i => rw [ho] at h; exact indexAddr_sound hT hs ho h hc
  | index t x i => rw [ho] at h; exact index_sound hT hs ho h hc
  | binOp op t x y yt => rw [ho] at h; exact binSV_sound hT hs ho h hc
  | unOp op t x => rw [ho] at h; exact unOp_sound hs ho h
  | convert s d x => rw [ho] at h; exact convert_sound hT hs ho h
  | makeFunc fn fs caps => rw [ho] at h; exact makeFunc_sound hs ho h
  | slice t x lo hi mx => rw [ho] at h; exact slice_sound hT hs ho h hc
  | extract x i => rw [ho] at h; exact extract_sound hs ho h
  | build t parts => rw [ho] at h; exact build_sound hT hs ho h
  | call c =>
    rw [ho] at h
    obtain ⟨callee, as, ts⟩ := c
    cases callee with
    | builtin b =>
      cases b <;> first
        | exact len_sound hT hs ho h
        | exact max_sound hs ho h
        | exact min_sound hs ho h
        | (simp only [evalPure] at h; cases h)
    | _ => simp only [evalPure] at h; cases h
  | _ => rw [ho] at h; simp only [evalPure] at h; cases h


/-- What the evaluation of an operation says of its run. -/
theorem evalPure_sound (hT : TabOk X.P T) (hs : Sat X g σ a w) {o : Oper} {cs : List Prop} {sv : SV} (h : evalPure T σ o.op = some (cs, sv)) (hc : ∀ c ∈ cs, c) : Comes1 X g σ a w o sv := by
  by_cases hl : ∃ t x, o.op = .load t x
  · obtain ⟨t, x, ho⟩ := hl
    rw [ho] at h; exact load_sound hT hs ho h
  · exact (evalPure_still hT hs h hc hl).one

end
end Go.Sx
