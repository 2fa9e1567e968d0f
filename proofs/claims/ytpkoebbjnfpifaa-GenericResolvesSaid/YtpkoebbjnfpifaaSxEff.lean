/- Operations that make or change memory: what state they lead to, by evaluation; no condition. -/
import Derived.Test.YtpkoebbjnfpifaaSxAppend
import Derived.Laws.MakeOwn
namespace Go.Sx
open Go

def AState.new (σ : AState) (t : TypeId) (cs : List TV) : AState := { σ with heap := σ.heap ++ [.cells t cs] }

def newRowF (cells : List TV) (z : Nat) : Nat → List TV := fun i => (cells.drop (i * z)).take z

def appF (n : Nat) (f f' : Nat → List TV) : Nat → List TV := fun i => match Nat.blt i n with | true => f i | false => f' (i - n)

def cellsOf : SV → Option (List TV)
  | .tv y => match y.plain with | true => some [y] | false => none
  | .agg cs => match cs.all TV.plain with | true => some cs | false => none
  | _ => none

/-- A slice that is read: its elements' size, how many, their cells; and whether they must be shown plain. -/
def AState.slOf (σ : AState) : SV → Option (Nat × Nat × (Nat → List TV) × Bool)
  | .tv (.fz z n f) => some (z, n, f, false)
  | .tv (.own z _ n f) => some (z, n, f, true)
  | .al p => match σ.look p with | some (.own z _ n f) => some (z, n, f, true) | _ => none
  | _ => none

def zerosF (zs : List TV) : Nat → List TV := fun _ => zs

/-- Where the first operand of an append lies: its root, its length and elements. -/
def AState.appOf (σ : AState) : Operand → Option (Option Root × Nat × (Nat → List TV) × Nat × TypeId)
  | .const (.slice none 0 0) => some (none, 0, fun _ => [], 0, 0)
  | .tmp s => match σ.get s with
    | .al (r, []) => match σ.ownAt r with | some (.own z e n f) => some (some r, n, f, z, e) | _ => none
    | .tv (.own z e n f) => some (some (.slot s 0), n, f, z, e)
    | .tv (.sc (.slice none 0 0)) => some (none, 0, fun _ => [], 0, 0)
    | _ => none
  | _ => none

def killO (σ : AState) : Option Root → AState
  | some r => σ.kill r
  | none => σ

def okRoot (z e z' e' : Nat) : Option Root → Bool
  | some _ => Nat.beq z z' && Nat.beq e e'
  | none => true

/-- What a state comes to by an operation that makes or changes memory. -/
def evalEff (T : Tab) (σ : AState) (o : Oper) : Option (List Prop × AState) :=
  match o.op, o.dst with
  | .alloc t, some d => match T.get t with
    | some ti => some ([], (σ.new t (ti.zero.map cTV)).put d (.pc σ.heap.length 0))
    | none => none
  | .box t x, some d => match cellsOf (σ.ev x) with
    | some cs => some ([], (σ.new t cs).put d (.pc σ.heap.length 0))
    | none => none
  | .assign (.tmp s), some d => match σ.get s, Nat.beq s d with
    | .tv (.own z e n f), false => some ([], σ.mv s d (.own z e n f))
    | _, _ => none
  | .store t a x, none => match T.size t, cellsOf (σ.ev x) with
    | some n, some ys => (match Nat.beq ys.length n with
      | true => (match σ.ev a with
        | .pc o' off => (match σ.heap[o']? with
          | some (.cells _ cs0) => (match Nat.ble (off + ys.length) cs0.length with | true => some ([], σ.storeC o' off ys) | false => none)
          | _ => none)
        | .pe (r, []) i j z => (match σ.ownAt r with
          | some (.own z' e n' f) => (match Nat.beq z z' && Nat.ble (j + ys.length) z with | true => some ([PlainTo n' f], σ.storeE r z' e n' f i j ys) | false => none)
          | _ => none)
        | _ => none)
      | false => none)
    | _, _ => none
  | .buildSlice t len parts, some d => match (T.get t).map TI.und, partsOf σ parts.toList with
    | some (.slice e), some ps => (match T.get e with
      | some ei => (match Nat.ble (len * ei.size) 16777216 && Nat.blt 0 ei.size, fillTV (fun i => some (i * ei.size, ei.size)) ((List.range (len * ei.size)).map fun i => ((ei.zero.map cTV)[i % ei.zero.length]?).getD .hole) ps with
        | true, some cells => some ([], σ.put d (.tv (.own ei.size e len (newRowF cells ei.size))))
        | _, _ => none)
      | none => none)
    | _, _ => none
  | .makeSlice t l c, some d => match (T.get t).map TI.und, iv (σ.ev l), iv (σ.ev c) with
    | some (.slice e), some n, some n' => (match T.get e with
      | some ei => some ([n = n', 0 ≤ n, (ei.bytes : Int) * n ≤ 281474976710656, n ≤ 9223372036854775807], σ.put d (.tv (.own ei.size e n.toNat (zerosF (ei.zero.map cTV)))))
      | none => none)
    | _, _, _ => none
  | .convert s t x, some d => match (T.get s).map TI.und, (T.get t).map TI.und, σ.ev x with
    | some .string, some (.slice e), .tv (.str l) => (match (T.get e).map TI.und, T.size e with
      | some (.int .u8), some 1 => some ([(l.length : Int) ≤ 9223372036854775807], σ.put d (.tv (.own 1 e l.length (fun i => [.int .u8 ((l.getD i 0).toNat : Int)]))))
      | _, _ => none)
    | _, _, _ => none
  | .call { callee := .builtin .append, args := as, argTypes := ts }, some d => match as.toList, ts.toList with
    | [x, y], [t, t2] => (match (T.get t).map TI.und, (T.get t2).map TI.und, σ.appOf x with
      | some (.slice e), some u2, some (r, n, f, z, e') => (match T.get e with
        | some ei => (match okRoot z e' ei.size e r && Nat.blt 0 ei.bytes, u2, σ.ev y with
          | true, .slice _, s => (match σ.slOf s with
            | some (z2, m, f2, _) => (match Nat.beq z2 ei.size with
              | true => some ([(n + m) * ei.bytes ≤ 140737488355328, PlainTo n f, PlainTo m f2], (killO σ r).put d (.tv (.own ei.size e (n + m) (appF n f f2))))
              | false => none)
            | none => none)
          | _, _, _ => none)
        | none => none)
      | _, _, _ => none)
    | _, _ => none
  | _, _ => none

section
variable {X : Ctx} {g : Gh} {σ : AState} {a : Act} {w : World} {T : Tab}

/-- An operation leads to a state. -/
def Comes2 (X : Ctx) (σ' : AState) (a : Act) (w : World) (o : Oper) : Prop :=
  ∃ n w' g', (execOp a.eval o).run X.P w = .ok n w' ∧ ((∃ v, n = .value v ∧ Sat X g' σ' (a.put o.dst v) w') ∨ (n = .skip ∧ Sat X g' σ' (a.put o.dst undef) w'))

theorem cellsOf_rel (hs : Sat X g σ a w) {x : Operand} {cs : List TV} (h : cellsOf (σ.ev x) = some cs) : CellsRel g.P w (a.eval x).cells cs := by
  obtain ⟨k, hk⟩ := ev_rel hs x
  unfold cellsOf at h
  split at h
  · rename_i y hx
    split at h
    · rename_i hp
      cases h
      rw [hx] at hk
      have hr := TRel.plain (g := g) (p := (.slot k 0, [])) (x := y) hk hp
      have hc : (a.eval x).cells = #[a.eval x] := by
        have := hr.one
        cases hv : a.eval x <;> first | rfl | (rw [hv] at this; cases this)
      rw [hc]
      refine ⟨rfl, fun q y' hy' => ?_⟩
      cases q with
      | zero => simp only [List.getElem?_cons_zero, Option.some.injEq] at hy'; subst hy'; exact ⟨_, rfl, hr⟩
      | succ q => simp at hy'
    · cases h
  · rename_i cs' hx
    split at h
    · rename_i hp
      cases h
      rw [hx] at hk
      obtain ⟨vs, hv, hsz, hc⟩ := agg_plain hk hp
      rw [hv]
      exact ⟨hsz, hc⟩
    · cases h
  · cases h

theorem pc_rel {g : Gh} {w : World} {σ : AState} {k o off : Nat} (ho : o < σ.heap.length) : SR g w σ k (.pointer (some ⟨g.m o, off, none⟩)) (.pc o off) := ⟨rfl, ho⟩

theorem Sat.newPut (hs : Sat X g σ a w) {d : Nat} (hd : d < X.n) (t : TypeId) {c : Array Value} {cs : List TV} (hc : CellsRel g.P w c cs) :
    ∃ g', Sat X g' ((σ.new t cs).put d (.pc σ.heap.length 0)) (a.put (some d) (.pointer (some ⟨w.heap.size, 0, none⟩))) (w.alloc (.cells c t)) := by
  have h1 := hs.newObj t hc
  refine ⟨_, h1.put hd rfl rfl (k := 0) ?_⟩
  have hm : (g.obj w.heap.size σ.heap.length).m σ.heap.length = w.heap.size := by simp [Gh.obj]
  have := pc_rel (g := g.obj w.heap.size σ.heap.length) (w := w.alloc (.cells c t)) (σ := σ.new t cs) (k := 0) (o := σ.heap.length) (off := 0) (by simp [AState.new])
  rw [hm] at this
  exact this

theorem alloc_sound (hT : TabOk X.P T) (hs : Sat X g σ a w) {t : TypeId} {d : Nat} (hd : d < X.n) {ti : TI} (hti : T.get t = some ti) {o : Oper} (ho : o.op = .alloc t) (hdst : o.dst = some d) :
    Comes2 X ((σ.new t (ti.zero.map cTV)).put d (.pc σ.heap.length 0)) a w o := by
  obtain ⟨hu, i, z, hi, hsz, hby, hz, hzc, hzl, hz1, _⟩ := hT t ti hti
  have hzero : CellsRel g.P w z.cells (ti.zero.map cTV) := by
    refine ⟨by rw [← Array.length_toList, hzc]; simp, fun q y hy => ?_⟩
    rw [List.getElem?_map] at hy
    obtain ⟨u, hu', rfl⟩ := Option.map_eq_some_iff.1 hy
    refine ⟨u, by rw [← Array.getElem?_toList, hzc]; exact hu', cTV_rel ?_⟩
    rw [List.all_eq_true] at hz1
    exact hz1 u (List.mem_of_getElem? hu')
  obtain ⟨g', h'⟩ := hs.newPut hd t hzero
  refine ⟨_, _, g', ?_, .inl ⟨_, rfl, by rw [hdst]; exact h'⟩⟩
  simp [execOp, ho, Instr.alloc, zeroValue, typeInfo, hi, hz, newVar, newRow]

theorem box_sound (hs : Sat X g σ a w) {t : TypeId} {x : Operand} {d : Nat} (hd : d < X.n) {cs : List TV} (hx : cellsOf (σ.ev x) = some cs) {o : Oper} (ho : o.op = .box t x) (hdst : o.dst = some d) :
    Comes2 X ((σ.new t cs).put d (.pc σ.heap.length 0)) a w o := by
  obtain ⟨g', h'⟩ := hs.newPut hd t (cellsOf_rel hs hx)
  refine ⟨_, _, g', ?_, .inl ⟨_, rfl, by rw [hdst]; exact h'⟩⟩
  simp [execOp, ho, Instr.box, newVar, newRow]

theorem assignOwn_sound (hs : Sat X g σ a w) {s d : Nat} (hd : d < X.n) (hne : s ≠ d) {x : TV} (hx : σ.get s = .tv x) {o : Oper} (ho : o.op = .assign (.tmp s)) (hdst : o.dst = some d) :
    Comes2 X (σ.mv s d x) a w o := by
  refine ⟨_, w, _, ?_, .inl ⟨_, rfl, by rw [hdst]; exact hs.mv hne hd hx⟩⟩
  simp only [execOp, ho]; rfl

theorem store_sound (hT : TabOk X.P T) (hs : Sat X g σ a w) {t : TypeId} {p x : Operand} {n : Nat} (hn : T.size t = some n) {ys : List TV} (hx : cellsOf (σ.ev x) = some ys) (hl : ys.length = n)
    {o : Oper} (ho : o.op = .store t p x) (hdst : o.dst = none) {σ' : AState}
    (h : (∃ o' off t' cs0, σ.ev p = .pc o' off ∧ σ.heap[o']? = some (.cells t' cs0) ∧ off + ys.length ≤ cs0.length ∧ σ' = σ.storeC o' off ys) ∨
      (∃ r i j z e n' f, σ.ev p = .pe (r, []) i j z ∧ σ.ownAt r = some (.own z e n' f) ∧ j + ys.length ≤ z ∧ PlainTo n' f ∧ σ' = σ.storeE r z e n' f i j ys)) : Comes2 X σ' a w o := by
  have hc := cellsOf_rel hs hx
  obtain ⟨i0, hi0, hsz0⟩ := hT.info hn
  obtain ⟨k, hk⟩ := ev_rel hs p
  have hlen : (a.eval x).cells.toList.length = ys.length := by rw [Array.length_toList]; exact hc.1
  have hrel : ∀ (i : Nat) y, ys[i]? = some y → ∃ u, (a.eval x).cells.toList[i]? = some u ∧ FRel g.P w u y := fun i y hy => by
    obtain ⟨u, hu, hr⟩ := hc.2 i y hy
    exact ⟨u, by rw [Array.getElem?_toList]; exact hu, hr⟩
  have run : ∀ {A : Addr} {w' : World}, a.eval p = .pointer (some A) → (storeCells A (a.eval x).cells.toList).run X.P w = .ok () w' → (execOp a.eval o).run X.P w = .ok .skip w' := by
    intro A w' hp hrun
    simp only [execOp, ho, Instr.storeAt, hp, Instr.sureAddr, pure_bind, storeVar, Sem.run_bind, run_size hi0, Result.andThen_ok]
    rw [if_neg (by rw [hc.1, hl, hsz0]; simp)]
    simp only [hrun, Result.andThen_ok, Sem.run_pure]
  rcases h with ⟨o', off, t', cs0, hp, hh, hfit, rfl⟩ | ⟨r, i, j, z, e, n', f, hp, hown, hfit, hpl, rfl⟩
  · rw [hp] at hk
    obtain ⟨hv, _⟩ := hk
    obtain ⟨w', g', hrun, hs'⟩ := hs.storeC hh hlen hfit hrel
    exact ⟨.skip, w', g', run hv hrun, .inr ⟨rfl, by rw [hdst]; exact hs'⟩⟩
  · rw [hp] at hk
    obtain ⟨b, e2, n2, f2, hl2, hi, hb, hv⟩ := hk
    have hroot := (ownAt_root hown).2.1
    have : σ.look (r, []) = some (.own z e n' f) := hroot
    rw [this] at hl2
    cases hl2
    obtain ⟨w', g', hrun, hs'⟩ := hs.storeE hown hpl hi hlen hfit hrel hb
    exact ⟨.skip, w', g', run hv hrun, .inr ⟨rfl, by rw [hdst]; exact hs'⟩⟩


theorem goes_new (w : World) (o : Obj) : Goes w (w.alloc o) w.heap.size :=
  ⟨fun _ hb _ => Go.heap_alloc_old w o hb, by simp, rfl, rfl, rfl⟩

theorem Sat.fresh (hs : Sat X g σ a w) : g.ow w.heap.size = none ∧ ¬ g.P w.heap.size ∧ (X.w0.heap.size ≤ w.heap.size ∨ X.g0.ow w.heap.size ≠ none) := by
  refine ⟨?_, fun h => ?_, .inl hs.mono⟩
  · cases h : g.ow w.heap.size with
    | none => rfl
    | some p => have := (hs.lt _ p h).1; omega
  · have := (hs.frozen _ h).2; omega

theorem newRowF_at {cells : List TV} {z i j : Nat} {y : TV} (hy : (newRowF cells z i)[j]? = some y) : cells[i * z + j]? = some y := by
  simp only [newRowF, List.getElem?_take] at hy
  split at hy
  · rw [List.getElem?_drop] at hy; exact hy
  · cases hy

theorem newRowF_length {cells : List TV} {z n i : Nat} (hlen : cells.length = n * z) (hi : i < n) : (newRowF cells z i).length = z := by
  simp only [newRowF, List.length_take, List.length_drop, hlen]
  have : (i + 1) * z ≤ n * z := Nat.mul_le_mul_right _ hi
  rw [Nat.add_mul, Nat.one_mul] at this
  omega

/-- A row of cells that is laid new, as a slice. -/
theorem Sat.rowPut (hs : Sat X g σ a w) {d : Nat} (hd : d < X.n) (e : TypeId) {c : Array Value} {z n : Nat} {f : Nat → List TV} (hn : n ≤ maxLen) (hsz : c.size = n * z) (hz : ∀ i, i < n → (f i).length = z)
    (hc : ∀ (i j : Nat) y, i < n → (f i)[j]? = some y → ∃ u, c[i * z + j]? = some u ∧ FRel g.P w u y) :
    ∃ g', Sat X g' (σ.put d (.tv (.own z e n f))) (a.put (some d) (.slice (some ⟨w.heap.size, 0, none⟩) n n)) (w.alloc (.cells c e)) := by
  obtain ⟨h1, h2, h3⟩ := hs.fresh
  have hlt : ∀ (i j : Nat) y, i < n → (f i)[j]? = some y → i * z + j < c.size := fun i j y hi hy => by
    have hj : j < z := by rw [← hz i hi]; exact (List.getElem?_eq_some_iff.1 hy).1
    have : (i + 1) * z ≤ n * z := Nat.mul_le_mul_right _ hi
    rw [Nat.add_mul, Nat.one_mul] at this
    omega
  refine ⟨_, hs.putOwn hd (goes_new w _) h1 h2 h3 (by simp) (c := c) (cs := fun i j => (c[i * z + j]?).getD undef) (Row.of (Go.heap_alloc_new w _)) hsz (Nat.le_refl _) hn hz (fun i j y hi hy => ?_) (fun i j y hi hy => ?_)⟩
  · simp [hlt i j y hi hy]
  · obtain ⟨u, hu, hr⟩ := hc i j y hi hy
    rw [hu]; exact hr

theorem buildSlice_sound (hT : TabOk X.P T) (hs : Sat X g σ a w) {t e : TypeId} {len : Nat} {parts : Array (Nat × Operand)} {d : Nat} (hd : d < X.n) {ps : List (Nat × List TV)} {ei : TI} {cells : List TV}
    (hu : (T.get t).map TI.und = some (.slice e)) (hps : partsOf σ parts.toList = some ps) (hei : T.get e = some ei) (hmax : len * ei.size ≤ 16777216) (hpos : 0 < ei.size)
    (hfill : fillTV (fun i => some (i * ei.size, ei.size)) ((List.range (len * ei.size)).map fun i => ((ei.zero.map cTV)[i % ei.zero.length]?).getD .hole) ps = some cells)
    {o : Oper} (ho : o.op = .buildSlice t len parts) (hdst : o.dst = some d) : Comes2 X (σ.put d (.tv (.own ei.size e len (newRowF cells ei.size)))) a w o := by
  obtain ⟨hu0, i, z, hi, hsz, hby, hz, hzc, hzl, hz1, hag, _⟩ := hT e ei hei
  obtain ⟨h1, h2⟩ := parts_rel hs hps
  have hund := hT.und hu
  have hzs : z.cells.size = ei.size := by rw [← Array.length_toList, hzc, hzl]
  have hmod : ∀ q, q % ei.size < ei.size := fun q => Nat.mod_lt _ hpos
  have hbase : CellsRel g.P w ((Array.range (len * ei.size)).map (z.cells[· % z.cells.size]!)) ((List.range (len * ei.size)).map fun i => ((ei.zero.map cTV)[i % ei.zero.length]?).getD .hole) := by
    refine ⟨by simp, fun q y hy => ?_⟩
    have hq : q < len * ei.size := by
      have := (List.getElem?_eq_some_iff.1 hy).1
      simpa using this
    rw [List.getElem?_map, List.getElem?_range hq] at hy
    simp only [Option.map_some, Option.some.injEq] at hy
    have hz0 : q % ei.zero.length < ei.zero.length := by rw [hzl]; exact hmod q
    have hz1' : q % z.cells.size < z.cells.size := by rw [hzs]; exact hmod q
    refine ⟨z.cells[q % z.cells.size], by simp [hq, hz1'], ?_⟩
    rw [List.getElem?_map, List.getElem?_eq_getElem hz0] at hy
    simp only [Option.map_some, Option.getD_some] at hy
    subst hy
    have : z.cells[q % z.cells.size] = ei.zero[q % ei.zero.length] := by
      have e1 : z.cells.toList[q % z.cells.size]'(by simpa using hz1') = z.cells[q % z.cells.size] := by simp
      rw [← e1]
      simp only [hzc, hzs, hzl]
    rw [this]
    rw [List.all_eq_true] at hz1
    exact cTV_rel (hz1 _ (List.getElem_mem hz0))
  obtain ⟨vs, hvs, hrel⟩ := fill_rel (P := g.P) (w := w) (us := (parts.toList.map fun (p : Nat × Operand) => (p.1, a.eval p.2))) hfill (by simp [h1]) (fun j p hj => by
    obtain ⟨x, hx, e1, e2⟩ := h2 j p hj
    exact ⟨(x.1, a.eval x.2), by rw [List.getElem?_map, hx]; rfl, e1, e2⟩) hbase
  have hfl : ∀ (ps : List (Nat × List TV)) (c0 c1 : List TV), fillTV (fun i => some (i * ei.size, ei.size)) c0 ps = some c1 → c1.length = c0.length := by
    intro ps
    induction ps with
    | nil => intro c0 c1 h; simp only [fillTV, Option.some.injEq] at h; rw [← h]
    | cons p ps ih =>
      intro c0 c1 h
      obtain ⟨k, ys⟩ := p
      simp only [fillTV] at h
      split at h
      · rw [ih _ _ h, putAt_length]
      · cases h
  have hclen : cells.length = len * ei.size := by rw [hfl _ _ _ hfill]; simp
  have hlenmax : len ≤ maxLen := by
    have : len * 1 ≤ len * ei.size := Nat.mul_le_mul_left _ hpos
    unfold maxLen; omega
  obtain ⟨g', h'⟩ := hs.rowPut hd e (c := vs) (n := len) (f := newRowF cells ei.size) hlenmax (by rw [hrel.1, hclen]) (fun i hi => newRowF_length hclen hi) (fun i j y hi hy => hrel.2 _ y (newRowF_at hy))
  refine ⟨_, _, g', ?_, .inl ⟨_, rfl, by rw [hdst]; exact h'⟩⟩
  have hpt : (parts.map fun (x : Nat × Operand) => (x.1, a.eval x.2)).toList = parts.toList.map fun (p : Nat × Operand) => (p.1, a.eval p.2) := by simp
  simp only [execOp, ho, Instr.buildSlice, Sem.run_bind, run_underlying hund, Result.andThen_ok, run_size hi, hsz]
  rw [if_neg (by omega)]
  have hzv : (zeroValue e).run X.P w = .ok z w := by
    simp only [zeroValue, typeInfo, Sem.run_bind, run_program, Result.andThen_ok, hi, Sem.run_pure, hz]
  by_cases hl0 : len * ei.size = 0
  · have hvs' : Instr.fill (fun i => some (i * ei.size, ei.size)) ((Array.range (len * ei.size)).map ((#[] : Array Value)[· % (#[] : Array Value).size]!)) (parts.toList.map fun (p : Nat × Operand) => (p.1, a.eval p.2)) = some vs := by
      rw [← hvs, hl0]
      congr 1
      apply Array.ext <;> simp
    simp only [hl0, if_true, pure_bind, hpt] at hvs' ⊢
    simp only [hvs', newRow, Sem.run_bind, run_newObj, Result.andThen_ok, Sem.run_pure]
    rfl
  · rw [if_neg hl0]
    simp only [Sem.run_bind, hzv, Result.andThen_ok, Sem.run_pure, hpt, hvs, newRow, run_newObj]
    rfl

theorem madeCells_at (zs : Array Value) (n q : Nat) (h : q < n) : (madeCells zs n)[q]? = some zs[q % zs.size]! := by
  simp [madeCells, h]

theorem makeSlice_sound (hT : TabOk X.P T) (hs : Sat X g σ a w) {t e : TypeId} {l c : Operand} {d : Nat} (hd : d < X.n) {ei : TI} {n n' : Int}
    (hu : (T.get t).map TI.und = some (.slice e)) (hl : iv (σ.ev l) = some n) (hc : iv (σ.ev c) = some n') (hei : T.get e = some ei) (hnn : n = n') (h0 : 0 ≤ n) (hb : (ei.bytes : Int) * n ≤ 281474976710656) (h63 : n ≤ 9223372036854775807)
    {o : Oper} (ho : o.op = .makeSlice t l c) (hdst : o.dst = some d) : Comes2 X (σ.put d (.tv (.own ei.size e n.toNat (zerosF (ei.zero.map cTV))))) a w o := by
  subst hnn
  obtain ⟨hu0, i, z, hi, hsz, hby, hz, hzc, hzl, hz1, hag, _⟩ := hT e ei hei
  have hund := hT.und hu
  obtain ⟨k1, e1⟩ := iv_rel hs hl
  obtain ⟨k2, e2⟩ := iv_rel hs hc
  have hrun := run_make (P := X.P) w t e i z hund hi hz k1 k2 n n h0 (Int.le_refl _) (by rw [hby]; exact hb) h63
  have hzs : z.cells.size = ei.size := by rw [← Array.length_toList, hzc, hzl]
  obtain ⟨g', h'⟩ := hs.rowPut hd e (c := madeCells z.cells (n.toNat * i.size)) (z := ei.size) (n := n.toNat) (f := zerosF (ei.zero.map cTV)) (by unfold maxLen; omega) (by simp [madeCells, hsz]) (fun i hi => by simp [zerosF, hzl]) (fun i' j y hi' hy => by
    simp only [zerosF, List.getElem?_map] at hy
    obtain ⟨u, hu', rfl⟩ := Option.map_eq_some_iff.1 hy
    have hj : j < ei.zero.length := (List.getElem?_eq_some_iff.1 hu').1
    have hj' : j < ei.size := by omega
    have hlt : i' * ei.size + j < n.toNat * i.size := by
      have : (i' + 1) * ei.size ≤ n.toNat * ei.size := Nat.mul_le_mul_right _ hi'
      rw [Nat.add_mul, Nat.one_mul] at this
      rw [hsz]; omega
    refine ⟨u, ?_, cTV_rel ?_⟩
    · rw [madeCells_at _ _ _ hlt, hzs]
      have hm : (i' * ei.size + j) % ei.size = j := by
        rw [Nat.add_comm, Nat.add_mul_mod_self_right]; exact Nat.mod_eq_of_lt hj'
      rw [hm]
      have : z.cells[j]! = u := by
        rw [getElem!_pos z.cells j (by omega)]
        have e1 : z.cells.toList[j]? = some u := by rw [hzc]; exact hu'
        rw [Array.getElem?_toList] at e1
        exact (Array.getElem?_eq_some_iff.1 e1).2
      rw [this]
    · rw [List.all_eq_true] at hz1
      exact hz1 u (List.mem_of_getElem? hu'))
  refine ⟨_, _, g', ?_, .inl ⟨_, rfl, by rw [hdst]; exact h'⟩⟩
  simp only [execOp, ho, e1, e2, Sem.run_bind, hrun, Result.andThen_ok, Sem.run_pure]


theorem bytes_sound (hT : TabOk X.P T) (hs : Sat X g σ a w) {s t e : TypeId} {x : Operand} {d : Nat} (hd : d < X.n) {l : List UInt8}
    (hsu : (T.get s).map TI.und = some .string) (hu : (T.get t).map TI.und = some (.slice e)) (hx : σ.ev x = .tv (.str l)) (heu : (T.get e).map TI.und = some (.int .u8)) (hmax : (l.length : Int) ≤ 9223372036854775807)
    {o : Oper} (ho : o.op = .convert s t x) (hdst : o.dst = some d) : Comes2 X (σ.put d (.tv (.own 1 e l.length (fun i => [.int .u8 ((l.getD i 0).toNat : Int)])))) a w o := by
  have hrun := run_bytes_of_string (P := X.P) w s t e ⟨l.toArray⟩ (hT.und hsu) (hT.und hu) (hT.und heu)
  have hsz : (⟨l.toArray⟩ : ByteArray).size = l.length := rfl
  rw [hsz] at hrun
  have hge := grownCap_ge w l.length 0 e
  have hle := grownCap_le_maxLen w l.length 0 e (by unfold maxLen; omega)
  have hbs : (bytesRow ⟨l.toArray⟩ (grownCap w l.length 0 e)).size = grownCap w l.length 0 e := by
    simp only [bytesRow, Array.size_append, Array.size_map, Array.size_replicate, hsz, List.size_toArray]
    omega
  obtain ⟨h1, h2, h3⟩ := hs.fresh
  have hcell : ∀ i, i < l.length → (bytesRow ⟨l.toArray⟩ (grownCap w l.length 0 e))[i]? = some (.int .u8 ((l.getD i 0).toNat : Int)) := fun i hi => by
    simp only [bytesRow]
    rw [Array.getElem?_append_left (by simpa using hi)]
    simp [hi]
  have h' := hs.putOwn hd (nb := w.heap.size) (w' := w.drew.alloc (.cells (bytesRow ⟨l.toArray⟩ (grownCap w l.length 0 e)) e ((bytesRow ⟨l.toArray⟩ (grownCap w l.length 0 e)).size, (bytesRow ⟨l.toArray⟩ (grownCap w l.length 0 e)).size + 1)))
    (goes_alloc w _) h1 h2 h3 (by simp) (z := 1) (n := l.length) (cap := grownCap w l.length 0 e) (e := e) (f := fun i => [.int .u8 ((l.getD i 0).toNat : Int)]) (c := bytesRow ⟨l.toArray⟩ (grownCap w l.length 0 e)) (cs := fun i _ => .int .u8 ((l.getD i 0).toNat : Int))
    ⟨_, Go.heap_alloc_new w.drew _, fun i hi hh => by omega⟩ (by rw [hbs]; omega) hge hle (fun _ _ => rfl) (fun i j y hi hy => by
      cases j with
      | zero => rw [Nat.mul_one, Nat.add_zero]; exact hcell i hi
      | succ j => simp at hy) (fun i j y _ hy => by
      cases j with
      | zero => simp only [List.getElem?_cons_zero, Option.some.injEq] at hy; subst hy; exact .int _ _
      | succ j => simp at hy)
  refine ⟨_, _, _, ?_, .inl ⟨_, rfl, by rw [hdst]; exact h'⟩⟩
  simp only [execOp, ho, ev_str hs hx, Sem.run_bind, hrun, Result.andThen_ok, Sem.run_pure]

/-- What a slice that is read says of its cells. -/
theorem slOf_rel (hs : Sat X g σ a w) {x : Operand} {z n : Nat} {f : Nat → List TV} {b : Bool} (h : σ.slOf (σ.ev x) = some (z, n, f, b)) (hp : PlainTo n f) :
    ((∃ A c, a.eval x = .slice A 0 c) ∧ n = 0) ∨ ∃ bk off cap, ∃ cs : Nat → Nat → Value, a.eval x = .slice (some ⟨bk, off, none⟩) n cap ∧ (∀ i, i < n → (f i).length = z) ∧
      ∀ (i j : Nat) y, i < n → (f i)[j]? = some y → w.cell? ⟨bk, off + i * z + j, none⟩ = some (cs i j) ∧ FRel g.P w (cs i j) y := by
  obtain ⟨k, hk⟩ := ev_rel hs x
  have hplain : ∀ (q t : Nat) (y : TV), q < n → (f q)[t]? = some y → y.plain = true := fun q t y hq hyq => by
    have := hp q hq
    rw [List.all_eq_true] at this
    exact this y (List.mem_of_getElem? hyq)
  have own : ∀ {p : Path} {v : Value} {e : TypeId}, TRel g w p v (.own z e n f) → ((∃ A c, v = .slice A 0 c) ∧ n = 0) ∨ ∃ bk off cap, ∃ cs : Nat → Nat → Value, v = .slice (some ⟨bk, off, none⟩) n cap ∧ (∀ i, i < n → (f i).length = z) ∧
      ∀ (i j : Nat) y, i < n → (f i)[j]? = some y → w.cell? ⟨bk, off + i * z + j, none⟩ = some (cs i j) ∧ FRel g.P w (cs i j) y := by
    intro p v e hv
    rcases own_inv hv with h | ⟨b', cap, c, cs, h1, hv, h3, h4, h5, h6, h7, h8, h9⟩
    · exact .inl ⟨⟨none, 0, h.1⟩, h.2⟩
    · refine .inr ⟨b', 0, cap, cs, hv, h7, fun i j y hi hy => ⟨?_, (h9 i j y hi hy).plain (hplain i j y hi hy)⟩⟩
      rw [Nat.zero_add]
      exact (h3.cell _).trans (h8 i j y hi hy)
  unfold AState.slOf at h
  split at h
  · rename_i z' n' f' hx
    cases h
    rw [hx] at hk
    rcases fz_inv (TRel.plain (g := g) (p := (.slot k 0, [])) (x := .fz z n f) hk rfl) with h | ⟨b', off, cap, cs, h1, hv, h3, h4, h5, h6, h7⟩
    · exact .inl h
    · exact .inr ⟨b', off, cap, cs, hv, h5, fun i j y hi hy => ⟨h6 i j y hi hy, h7 i j y hi hy⟩⟩
  · rename_i z' e n' f' hx
    cases h
    rw [hx] at hk
    exact own (p := (.slot k 0, [])) (e := e) hk
  · rename_i p hx
    split at h
    · rename_i z' e n' f' hl
      cases h
      rw [hx] at hk
      obtain ⟨z2, e2, n2, f2, hl2, hv⟩ := hk
      rw [hl] at hl2
      cases hl2
      obtain ⟨v', hv'⟩ := hs.own_at hl
      rcases hv with ⟨hv, h0⟩ | ⟨b', cap, c, hb, hv, hrow, hcs, hn, hm⟩
      · exact .inl ⟨⟨none, 0, hv⟩, h0⟩
      · rcases own_inv hv' with ⟨_, h0⟩ | ⟨b2, cap2, c2, cs, h1, hv2, h3, h4, h5, h6, h7, h8, h9⟩
        · refine .inr ⟨b', 0, cap, fun _ _ => undef, hv, fun i hi => by omega, fun i j y hi => by omega⟩
        · obtain rfl := hs.inj b' b2 _ hb h1
          refine .inr ⟨b', 0, cap, cs, hv, h7, fun i j y hi hy => ⟨?_, (h9 i j y hi hy).plain (hplain i j y hi hy)⟩⟩
          rw [Nat.zero_add]
          exact (h3.cell _).trans (h8 i j y hi hy)
    · cases h
  · cases h

/-- The cells of so many elements, one list. -/
theorem flat_cells {P : Nat → Prop} {w : World} {n z b off : Nat} {f : Nat → List TV} {cs : Nat → Nat → Value} (hz : ∀ i, i < n → (f i).length = z)
    (hc : ∀ (i j : Nat) y, i < n → (f i)[j]? = some y → w.cell? ⟨b, off + i * z + j, none⟩ = some (cs i j) ∧ FRel P w (cs i j) y) :
    ∃ vs : List Value, vs.length = n * z ∧ (∀ (q : Nat) v, vs[q]? = some v → w.cell? ⟨b, off + q, none⟩ = some v ∧ v.oneCell' = true) ∧
      ∀ (i j : Nat) y, i < n → (f i)[j]? = some y → ∃ u, vs[i * z + j]? = some u ∧ FRel P w u y := by
  refine ⟨(List.range (n * z)).map fun q => cs (q / z) (q % z), by simp, fun q v hq => ?_, fun i j y hi hy => ?_⟩
  · have hq' : q < n * z := by have := (List.getElem?_eq_some_iff.1 hq).1; simpa using this
    rw [List.getElem?_map, List.getElem?_range hq'] at hq
    simp only [Option.map_some, Option.some.injEq] at hq
    subst hq
    have hz0 : 0 < z := by rcases Nat.eq_zero_or_pos z with h | h
                           · subst h; simp at hq'
                           · exact h
    have hi : q / z < n := (Nat.div_lt_iff_lt_mul hz0).2 hq'
    have hj : q % z < (f (q / z)).length := by rw [hz _ hi]; exact Nat.mod_lt _ hz0
    obtain ⟨h1, h2⟩ := hc (q / z) (q % z) _ hi (List.getElem?_eq_getElem hj)
    have e : q / z * z + q % z = q := Nat.div_add_mod' q z
    rw [Nat.add_assoc, e] at h1
    exact ⟨h1, h2.one⟩
  · have hj : j < z := by rw [← hz i hi]; exact (List.getElem?_eq_some_iff.1 hy).1
    have hlt : i * z + j < n * z := by
      have : (i + 1) * z ≤ n * z := Nat.mul_le_mul_right _ hi
      rw [Nat.add_mul, Nat.one_mul] at this
      omega
    have e1 : (i * z + j) / z = i := by
      rw [Nat.add_comm, Nat.add_mul_div_right _ _ (by omega), Nat.div_eq_of_lt hj, Nat.zero_add]
    have e2 : (i * z + j) % z = j := by rw [Nat.add_comm, Nat.add_mul_mod_self_right]; exact Nat.mod_eq_of_lt hj
    refine ⟨cs i j, ?_, (hc i j y hi hy).2⟩
    rw [List.getElem?_map, List.getElem?_range hlt, Option.map_some, e1, e2]

/-- What the second operand of an append is. -/
theorem second_of (hT : TabOk X.P T) (hs : Sat X g σ a w) {x : Operand} {z m : Nat} {f : Nat → List TV} {b : Bool} (h : σ.slOf (σ.ev x) = some (z, m, f, b)) (hp : PlainTo m f) {t2 e2 : TypeId} (hu : (T.get t2).map TI.und = some (.slice e2)) :
    ∃ news : List Value, Second X.P w t2 z (a.eval x) m news ∧ (∀ i, i < m → (f i).length = z) ∧ ∀ (i j : Nat) y, i < m → (f i)[j]? = some y → ∃ u, news[i * z + j]? = some u ∧ FRel g.P w u y := by
  rcases slOf_rel hs h hp with ⟨hv, h0⟩ | ⟨bk, off, cap, cs, hv, hz, hc⟩
  · subst h0
    obtain ⟨A, c, hv⟩ := hv
    rw [hv]
    refine ⟨[], ⟨fun _ _ => rfl, .inl ⟨e2, hT.und hu⟩, fun w' _ => ?_, by simp, fun v hv => by simp at hv⟩, fun i hi => by omega, fun i j y hi => by omega⟩
    cases A with
    | none => rfl
    | some A => exact run_firstCells_some (P := X.P) w' z 0 A 0 c [] (by simp) fun j v hj => by simp at hj
  · rw [hv]
    obtain ⟨vs, hl, h1, h2⟩ := flat_cells hz hc
    refine ⟨vs, ⟨fun _ _ => rfl, .inl ⟨e2, hT.und hu⟩, fun w' hw' => ?_, hl, fun v hv => ?_⟩, hz, h2⟩
    · refine run_firstCells_some (P := X.P) w' z m ⟨bk, off, none⟩ m cap vs hl fun j v hj => ?_
      rw [add_mk, World.cell?_of_block (w := w) (by rw [hw'])]
      exact (h1 j v hj).1
    · obtain ⟨q, hq⟩ := List.getElem?_of_mem hv
      exact (h1 q v hq).2

theorem appF_lt {n i : Nat} {f f' : Nat → List TV} (h : i < n) : appF n f f' i = f i := by
  simp only [appF, show Nat.blt i n = true from Nat.ble_eq_true_of_le h]

theorem appF_ge {n i : Nat} {f f' : Nat → List TV} (h : n ≤ i) : appF n f f' i = f' (i - n) := by
  have : Nat.blt i n = false := by
    cases hb : Nat.blt i n with
    | false => rfl
    | true => have := Nat.le_of_ble_eq_true hb; omega
  simp only [appF, this]

/-- What the first operand of an append says. -/
theorem appOf_rel (hs : Sat X g σ a w) {x : Operand} {r : Option Root} {n : Nat} {f : Nat → List TV} {z : Nat} {e : TypeId} (h : σ.appOf x = some (r, n, f, z, e)) :
    (r = none ∧ n = 0 ∧ a.eval x = .slice none 0 0) ∨ ∃ r0, r = some r0 ∧ (∀ o, r0 ≠ .obj o) ∧ ((a.eval x = .slice none 0 0 ∧ n = 0) ∨
      ∃ b cap c, ∃ cs' : Nat → Nat → Value, g.ow b = some (r0, []) ∧ a.eval x = .slice (some ⟨b, 0, none⟩) n cap ∧ Row w b e c ∧ c.size = cap * z ∧ n ≤ cap ∧ cap ≤ maxLen ∧ (∀ i, i < n → (f i).length = z) ∧
        ∀ (i j : Nat) y, i < n → (f i)[j]? = some y → c[i * z + j]? = some (cs' i j) ∧ (y.plain = true → FRel g.P w (cs' i j) y)) := by
  have ofOwn : ∀ {p : Path} {v : Value}, TRel g w p v (.own z e n f) → (v = .slice none 0 0 ∧ n = 0) ∨
      ∃ b cap c, ∃ cs' : Nat → Nat → Value, g.ow b = some p ∧ v = .slice (some ⟨b, 0, none⟩) n cap ∧ Row w b e c ∧ c.size = cap * z ∧ n ≤ cap ∧ cap ≤ maxLen ∧ (∀ i, i < n → (f i).length = z) ∧
        ∀ (i j : Nat) y, i < n → (f i)[j]? = some y → c[i * z + j]? = some (cs' i j) ∧ (y.plain = true → FRel g.P w (cs' i j) y) := by
    intro p v hv
    rcases own_inv hv with h | ⟨b', cap, c, cs, h1, hv, h3, h4, h5, h6, h7, h8, h9⟩
    · exact .inl h
    · exact .inr ⟨b', cap, c, cs, h1, hv, h3, h4, h5, h6, h7, fun i j y hi hy => ⟨h8 i j y hi hy, fun hp => (h9 i j y hi hy).plain hp⟩⟩
  unfold AState.appOf at h
  split at h
  · cases h
    exact .inl ⟨rfl, rfl, rfl⟩
  · rename_i s
    have hk := hs.env s
    split at h
    · rename_i r0 hg
      split at h
      · rename_i z' e' n' f' hown
        cases h
        rw [hg] at hk
        obtain ⟨hsim, hroot, _⟩ := ownAt_root hown
        refine .inr ⟨r0, rfl, (fun o e => by subst e; cases hsim), ?_⟩
        obtain ⟨z2, e2, n2, f2, hl2, hv⟩ := hk
        have : σ.look (r0, []) = some (.own z e n f) := hroot
        rw [this] at hl2
        cases hl2
        rcases hv with hv | ⟨b', cap, c, hb, hv, hrow, hcs, hn, hm⟩
        · exact .inl hv
        · obtain ⟨v', hv'⟩ := hs.root hroot
          rcases ofOwn hv' with ⟨_, h0⟩ | ⟨b2, cap2, c2, cs', h1, hv2, h3, h4, h5, h6, h7, h8⟩
          · exact .inr ⟨b', cap, c, fun _ _ => undef, hb, hv, hrow, hcs, hn, hm, fun i hi => by omega, fun i j y hi => by omega⟩
          · obtain rfl := hs.inj b' b2 _ hb h1
            obtain ⟨fr, q1, q2⟩ := hrow
            obtain ⟨fr2, q3, _⟩ := h3
            rw [q1] at q3
            injection q3 with q3
            injection q3 with q4 _ _
            subst q4
            exact .inr ⟨b', cap, c, cs', hb, hv, ⟨fr, q1, q2⟩, hcs, hn, hm, h7, h8⟩
      · cases h
    · rename_i z' e' n' f' hg
      cases h
      rw [hg] at hk
      exact .inr ⟨_, rfl, (fun o e => by cases e), ofOwn (p := (.slot s 0, [])) hk⟩
    · rename_i hg
      cases h
      rw [hg] at hk
      exact .inl ⟨rfl, rfl, rel_sc (p := (.slot s 0, [])) hk⟩
    · cases h
  · cases h

theorem append_sound (hT : TabOk X.P T) (hs : Sat X g σ a w) {x y : Operand} {t t2 e e2 : TypeId} {d : Nat} (hd : d < X.n) {r : Option Root} {n m z e' : Nat} {f f2 : Nat → List TV} {b2 : Bool} {ei : TI}
    (hu : (T.get t).map TI.und = some (.slice e)) (hu2 : (T.get t2).map TI.und = some (.slice e2)) (hx : σ.appOf x = some (r, n, f, z, e')) (hei : T.get e = some ei) (hok : okRoot z e' ei.size e r = true) (hb0 : 0 < ei.bytes)
    (hy : σ.slOf (σ.ev y) = some (ei.size, m, f2, b2)) (hbytes : (n + m) * ei.bytes ≤ 140737488355328) (hp1 : PlainTo n f) (hp2 : PlainTo m f2)
    {o : Oper} (ho : o.op = .call { callee := .builtin .append, args := #[x, y], argTypes := #[t, t2] }) (hdst : o.dst = some d) :
    Comes2 X ((killO σ r).put d (.tv (.own ei.size e (n + m) (appF n f f2)))) a w o := by
  obtain ⟨hu0, i, zv, hi, hsz, hby, hz, hzc, hzl, hz1, hag, _⟩ := hT e ei hei
  have hzs : zv.cells.size = ei.size := by rw [← Array.length_toList, hzc, hzl]
  obtain ⟨news, hsec, hlen2, hnews⟩ := second_of hT hs hy hp2 hu2
  rw [← hsz] at hsec
  have hplain1 : ∀ (q t : Nat) (y : TV), q < n → (f q)[t]? = some y → y.plain = true := fun q t y hq hyq => by
    have := hp1 q hq
    rw [List.all_eq_true] at this
    exact this y (List.mem_of_getElem? hyq)
  -- the first operand
  have first : ∃ olds : List Value, ((a.eval x = .slice none 0 0 ∧ n = 0 ∧ olds = []) ∨ ∃ b cap c, a.eval x = .slice (some ⟨b, 0, none⟩) n cap ∧ Row w b e c ∧ c.size = cap * i.size ∧ n ≤ cap ∧ cap ≤ maxLen ∧ olds.length = n * i.size ∧ ∀ (j : Nat) v, olds[j]? = some v → c[j]? = some v) ∧
      (∀ i', i' < n → (f i').length = ei.size) ∧ (∀ (i' j : Nat) y, i' < n → (f i')[j]? = some y → ∃ u, olds[i' * ei.size + j]? = some u ∧ FRel g.P w u y) ∧ olds.length = n * ei.size ∧
      ∃ g1, Sat X g1 (killO σ r) a w ∧ g1.P = g.P ∧ ∀ b n' cap, a.eval x = .slice (some ⟨b, 0, none⟩) n' cap → g1.ow b = none ∧ ¬ g1.P b ∧ (X.w0.heap.size ≤ b ∨ X.g0.ow b ≠ none) := by
    rcases appOf_rel hs hx with ⟨rfl, rfl, hv⟩ | ⟨r0, rfl, hr0, hv⟩
    · exact ⟨[], .inl ⟨hv, rfl, rfl⟩, fun i' hi' => by omega, fun i' j y hi' => by omega, by simp, g, hs, rfl, fun b n' cap e => by rw [hv] at e; cases e⟩
    · simp only [okRoot, Bool.and_eq_true, Nat.beq_eq] at hok
      obtain ⟨rfl, rfl⟩ := hok
      have hkill := hs.kill hr0
      rcases hv with ⟨hv, rfl⟩ | ⟨b, cap, c, cs', hb, hv, hrow, hcs, hn, hm, hl, hc⟩
      · exact ⟨[], .inl ⟨hv, rfl, rfl⟩, fun i' hi' => by omega, fun i' j y hi' => by omega, by simp, _, hkill, rfl, fun b n' cap e => by rw [hv] at e; cases e⟩
      · obtain ⟨olds, ho1, ho2, ho3⟩ := flat_cells (P := g.P) (w := w) (b := b) (off := 0) (cs := cs') hl fun i' j y hi' hy => ⟨by rw [Nat.zero_add]; exact (hrow.cell _).trans (hc i' j y hi' hy).1, (hc i' j y hi' hy).2 (hplain1 i' j y hi' hy)⟩
        refine ⟨olds, .inr ⟨b, cap, c, hv, hrow, by rw [hsz]; exact hcs, hn, hm, by rw [hsz]; exact ho1, fun j v hj => ?_⟩, hl, ho3, ho1, _, hkill, rfl, fun b' n' cap' e => ?_⟩
        · have := (ho2 j v hj).1
          rw [Nat.zero_add] at this
          exact (hrow.cell j).symm.trans this
        · rw [hv] at e
          cases e
          refine ⟨?_, fun hp => ?_, (hs.lt b _ hb).2⟩
          · cases hg : (g.clr (rootR r0)).ow b with
            | none => rfl
            | some p =>
              obtain ⟨e1, e2⟩ := clr_some.1 hg
              rw [hb] at e1
              cases e1
              cases r0 with
              | slot k j => simp [rootR, under] at e2
              | cell o off => simp [rootR] at e2
              | obj o => exact absurd rfl (hr0 o)
          · have := (hs.frozen b hp).1
            rw [hb] at this
            cases this
  obtain ⟨olds, hfirst, hlen1, hold, holen, g1, hkill, hgP, hunown⟩ := first
  obtain ⟨v, w', hrun, hv⟩ := run_append (ty := o.type) (hT.und hu) hi hz (by rw [hzs, hsz]) hsec (by rw [hby]; exact hb0) (by rw [hby]; exact hbytes) hfirst
  have hexec : (execOp a.eval o).run X.P w = .ok (.value v) w' := by
    simp only [execOp, ho, resolve, invoke, builtin, Sem.run_bind, Sem.run_pure, Result.andThen_ok, List.map_toArray, List.map_cons, List.map_nil, hrun]
  rcases hv with ⟨rfl, hnm, rfl⟩ | ⟨nb, cap, c, rfl, hrow, hcs, hn, hm, hg, hcells, hnb⟩
  · have h' := hkill.putNil hd ei.size e (appF n f f2)
    exact ⟨_, w', _, hexec, .inl ⟨_, rfl, by rw [hdst, hnm]; exact h'⟩⟩
  · have hnew : g1.ow nb = none ∧ ¬ g1.P nb ∧ (X.w0.heap.size ≤ nb ∨ X.g0.ow nb ≠ none) := by
      rcases hnb with ⟨n', cap', e⟩ | rfl
      · exact hunown nb n' cap' e
      · exact hkill.fresh
    have hall : ∀ (i' j : Nat) y, i' < n + m → (appF n f f2 i')[j]? = some y → ∃ u, (olds ++ news)[i' * ei.size + j]? = some u ∧ FRel g.P w u y := fun i' j y hi' hy => by
      rcases Nat.lt_or_ge i' n with h | h
      · rw [appF_lt h] at hy
        obtain ⟨u, hu, hr⟩ := hold i' j y h hy
        exact ⟨u, by rw [List.getElem?_append_left (List.getElem?_eq_some_iff.1 hu).1]; exact hu, hr⟩
      · rw [appF_ge h] at hy
        obtain ⟨u, hu, hr⟩ := hnews (i' - n) j y (by omega) hy
        refine ⟨u, ?_, hr⟩
        have e1 : i' * ei.size + j = n * ei.size + ((i' - n) * ei.size + j) := by
          have : i' * ei.size = n * ei.size + (i' - n) * ei.size := by rw [← Nat.add_mul]; congr 1; omega
          omega
        rw [e1, List.getElem?_append_right (by omega), holen, Nat.add_sub_cancel_left]
        exact hu
    have h' := hkill.putOwn hd hg hnew.1 hnew.2.1 hnew.2.2 hrow.lt (z := ei.size) (n := n + m) (cap := cap) (e := e) (f := appF n f f2) (c := c) (cs := fun i' j => (c[i' * ei.size + j]?).getD undef) hrow (by rw [← hsz]; exact hcs) hn hm
      (fun i' hi' => by
        rcases Nat.lt_or_ge i' n with h | h
        · rw [appF_lt h]; exact hlen1 i' h
        · rw [appF_ge h]; exact hlen2 _ (by omega))
      (fun i' j y hi' hy => by
        obtain ⟨u, hu, _⟩ := hall i' j y hi' hy
        rw [hcells _ u hu]; rfl)
      (fun i' j y hi' hy => by
        obtain ⟨u, hu, hr⟩ := hall i' j y hi' hy
        rw [hcells _ u hu, hgP]; exact hr)
    exact ⟨_, w', _, hexec, .inl ⟨_, rfl, by rw [hdst]; exact h'⟩⟩


/-- What the evaluation of an operation says of the state behind it. -/
theorem evalEff_sound (hT : TabOk X.P T) (hs : Sat X g σ a w) {o : Oper} {cs : List Prop} {σ' : AState} (h : evalEff T σ o = some (cs, σ')) (hc : ∀ c ∈ cs, c) (hd : ∀ d, o.dst = some d → d < X.n) : Comes2 X σ' a w o := by
  unfold evalEff at h
  split at h
  · rename_i t d ho hdst
    split at h
    · rename_i ti hti
      cases h
      exact alloc_sound hT hs (hd d hdst) hti ho hdst
    · cases h
  · rename_i t x d ho hdst
    split at h
    · rename_i cells hx
      cases h
      exact box_sound hs (hd d hdst) hx ho hdst
    · cases h
  · rename_i s d ho hdst
    split at h
    · rename_i z e n f hg hne
      cases h
      exact assignOwn_sound hs (hd d hdst) (fun e => by subst e; simp at hne) hg ho hdst
    · cases h
  · rename_i t p x ho hdst
    split at h
    · rename_i n ys hn hx
      split at h
      · rename_i hl
        have hl' : ys.length = n := Nat.eq_of_beq_eq_true hl
        split at h
        · rename_i o' off hp
          split at h
          · rename_i t' cs0 hh
            split at h
            · rename_i hfit
              cases h
              exact store_sound hT hs hn hx hl' ho hdst (.inl ⟨o', off, t', cs0, hp, hh, Nat.le_of_ble_eq_true hfit, rfl⟩)
            · cases h
          · cases h
        · rename_i r i j z hp
          split at h
          · rename_i z' e n' f hown
            split at h
            · rename_i hb
              rw [Bool.and_eq_true] at hb
              cases h
              have hz := Nat.eq_of_beq_eq_true hb.1
              subst hz
              exact store_sound hT hs hn hx hl' ho hdst (.inr ⟨r, i, j, z, e, n', f, hp, hown, Nat.le_of_ble_eq_true hb.2, hc _ (by simp), rfl⟩)
            · cases h
          · cases h
        · cases h
      · cases h
    · cases h
  · rename_i t len parts d ho hdst
    split at h
    · rename_i e ps hu hps
      split at h
      · rename_i ei hei
        split at h
        · rename_i cells hb hfill
          cases h
          rw [Bool.and_eq_true] at hb
          exact buildSlice_sound hT hs (hd d hdst) hu hps hei (Nat.le_of_ble_eq_true hb.1) (Nat.le_of_ble_eq_true hb.2) hfill ho hdst
        · cases h
      · cases h
    · cases h
  · rename_i t l c d ho hdst
    split at h
    · rename_i e n n' hu hl hcc
      split at h
      · rename_i ei hei
        cases h
        exact makeSlice_sound hT hs (hd d hdst) hu hl hcc hei (hc _ (by simp)) (hc (0 ≤ n) (by simp)) (hc ((ei.bytes : Int) * n ≤ 281474976710656) (by simp)) (hc (n ≤ 9223372036854775807) (by simp)) ho hdst
      · cases h
    · cases h
  · rename_i s t x d ho hdst
    split at h
    · rename_i e l hsu hu hx
      split at h
      · rename_i heu hsz
        cases h
        exact bytes_sound hT hs (hd d hdst) hsu hu hx heu (hc _ (by simp)) ho hdst
      · cases h
    · cases h
  · rename_i as ts d ho hdst
    split at h
    · rename_i x y t t2 has hts
      obtain rfl : as = #[x, y] := by rw [← Array.toArray_toList (xs := as), has]
      obtain rfl : ts = #[t, t2] := by rw [← Array.toArray_toList (xs := ts), hts]
      split at h
      · rename_i e u2 r n f z e' hu hu2 hx
        split at h
        · rename_i ei hei
          split at h
          · rename_i e2 hb
            split at h
            · rename_i z2 m f2 b2 hy
              split at h
              · rename_i hz2
                cases h
                have hz := Nat.eq_of_beq_eq_true hz2
                subst hz
                rw [Bool.and_eq_true] at hb
                exact append_sound hT hs (hd d hdst) hu hu2 hx hei hb.1 (Nat.le_of_ble_eq_true hb.2) hy (hc _ (by simp)) (hc (PlainTo n f) (by simp)) (hc (PlainTo m f2) (by simp)) ho hdst
              · cases h
            · cases h
          · cases h
        · cases h
      · cases h
    · cases h
  · cases h

end
end Go.Sx
