/- A store into an element of a slice of the call's own; no condition. -/
import Derived.Test.YtpkoebbjnfpifaaSxStore
namespace Go.Sx
open Go

section
variable {X : Ctx} {g : Gh} {σ : AState} {a : Act} {w : World} {T : Tab}

/-- Places below a root. -/
def deepR (r : Root) (p : Path) : Bool :=
  match p.2 with
  | [] => false
  | _ :: _ => decide (p.1 = r)

def AState.setRoot (σ : AState) (r : Root) (x : TV) : AState :=
  match r with
  | .slot k _ => σ.set k (.tv x)
  | .cell o off => { σ with heap := setCells σ.heap o (fun cs => cs.set off x) }
  | .obj _ => σ

/-- An element that is written anew. -/
def setElem (f : Nat → List TV) (i : Nat) (y : List TV) : Nat → List TV := fun q => match Nat.beq q i with | true => y | false => f q

def AState.storeE (σ : AState) (r : Root) (z : Nat) (e : TypeId) (n : Nat) (f : Nat → List TV) (i j : Nat) (ys : List TV) : AState :=
  (σ.drop (deepR r)).setRoot r (.own z e n (setElem f i (putAt (f i) j ys)))

/-- Is it the root of a slot's single value, or of a cell? -/
def Root.simple : Root → Bool
  | .slot _ 0 => true
  | .cell _ _ => true
  | _ => false

theorem rootTV_setRoot {r : Root} {x y : TV} (hr : r.simple = true) (hy : σ.rootTV r = some y) : (σ.setRoot r x).rootTV r = some x := by
  cases r with
  | slot k j =>
    cases j with
    | zero => simp only [AState.rootTV, AState.setRoot, get_set, if_true]
    | succ j => cases hr
  | cell o off =>
    simp only [AState.rootTV] at hy
    split at hy
    · rename_i t cs ho
      simp only [AState.rootTV, AState.setRoot]
      rw [setCells_eq _ ho]
      have : off < cs.length := (List.getElem?_eq_some_iff.1 hy).1
      simp [this]
    · cases hy
  | obj o => cases hr

theorem rootTV_setRoot_ne {r q : Root} {x y : TV} (hr : r.simple = true) (hy : σ.rootTV r = some y) (hs : ∀ k, r = .slot k 0 → σ.get k = .tv y) (hq : q ≠ r) : (σ.setRoot r x).rootTV q = σ.rootTV q := by
  cases r with
  | slot k j =>
    cases j with
    | succ j => cases hr
    | zero =>
      cases q with
      | slot k' j' =>
        simp only [AState.rootTV, AState.setRoot, get_set]
        by_cases hk : k' = k
        · subst hk
          rw [if_pos rfl, hs k' rfl]
          cases j' with
          | zero => exact absurd rfl hq
          | succ j' => rfl
        · rw [if_neg hk]
      | cell o off => rfl
      | obj o => rfl
  | cell o off =>
    cases q with
    | slot k' j' => rfl
    | cell o' off' =>
      simp only [AState.rootTV, AState.setRoot]
      by_cases hoo : o' = o
      · subst hoo
        have hne : off ≠ off' := by rintro rfl; exact hq rfl
        cases ho : σ.heap[o']? with
        | none => rw [List.getElem?_eq_none (by rw [setCells_length]; exact List.getElem?_eq_none_iff.1 ho)]
        | some x =>
          cases x with
          | cells t cs => rw [setCells_eq _ ho]; simp only [List.getElem?_set, if_neg hne]
          | dead => simp only [AState.rootTV, ho] at hy; cases hy
      · rw [setCells_ne _ _ _ _ hoo]
    | obj o => rfl
  | obj o => cases hr

theorem look_cons (σ : AState) (r : Root) (ij : Nat × Nat) (st : Steps) : σ.look (r, ij :: st) = (σ.look (r, st)).bind (elemTV ij) := rfl

theorem look_ne {r q : Root} {x y : TV} (hr : r.simple = true) (hy : σ.rootTV r = some y) (hs : ∀ k, r = .slot k 0 → σ.get k = .tv y) (hq : q ≠ r) (st : Steps) : (σ.setRoot r x).look (q, st) = σ.look (q, st) :=
  look_eq (rootTV_setRoot_ne hr hy hs hq)

theorem drop_tv {R : Path → Bool} {sv : SV} {y : TV} (h : sv = .tv y) : sv.drop R = .tv y := by subst h; rfl

/-- The own slice at a root: a slot's single value, or a cell. -/
def AState.ownAt (σ : AState) : Root → Option TV
  | .slot k 0 => match σ.get k with | .tv x => some x | _ => none
  | .slot _ _ => none
  | .cell o off => σ.rootTV (.cell o off)
  | .obj _ => none

theorem ownAt_root {r : Root} {x : TV} (h : σ.ownAt r = some x) : r.simple = true ∧ σ.rootTV r = some x ∧ ∀ k, r = .slot k 0 → σ.get k = .tv x := by
  cases r with
  | slot k j =>
    cases j with
    | zero =>
      simp only [AState.ownAt] at h
      split at h
      · rename_i y hy
        cases h
        exact ⟨rfl, by simp only [AState.rootTV, hy], fun k' hk => by injection hk with hk; subst hk; exact hy⟩
      · cases h
    | succ j => cases h
  | cell o off => exact ⟨rfl, h, fun k hk => by cases hk⟩
  | obj o => cases h

theorem setElem_eq (f : Nat → List TV) (i : Nat) (y : List TV) : setElem f i y i = y := by simp [setElem]
theorem setElem_ne (f : Nat → List TV) {i q : Nat} (y : List TV) (h : q ≠ i) : setElem f i y q = f q := by simp only [setElem, beq_ne h]

/-- Cells of one element of a slice of the call's own are written. -/
theorem Sat.storeE (h : Sat X g σ a w) {r : Root} {z : Nat} {e : TypeId} {n : Nat} {f : Nat → List TV} (hown : σ.ownAt r = some (.own z e n f)) (hpl : PlainTo n f)
    {i j : Nat} (hi : i < n) {ys : List TV} {vs : List Value} (hl : vs.length = ys.length) (hfit : j + ys.length ≤ z)
    (hy : ∀ (q : Nat) y, ys[q]? = some y → ∃ u, vs[q]? = some u ∧ FRel g.P w u y) {b : Nat} (hb : g.ow b = some (r, [])) :
    ∃ w' g', (storeCells ⟨b, i * z + j, none⟩ vs).run X.P w = .ok () w' ∧ Sat X g' (σ.storeE r z e n f i j ys) a w' := by
  obtain ⟨hr, hroot, hs⟩ := ownAt_root hown
  obtain ⟨v0, hv0⟩ := h.root hroot
  rcases own_inv hv0 with ⟨_, h0⟩ | ⟨b', cap, c, cs, h1, hv, h3, h4, h5, h6, h7, h8, h9⟩
  · omega
  obtain rfl := h.inj b b' _ hb h1
  have hone : ∀ v ∈ vs, v.oneCell' = true := fun v hv => by
    obtain ⟨q, hq⟩ := List.getElem?_of_mem hv
    have hq' : q < ys.length := by rw [← hl]; exact (List.getElem?_eq_some_iff.1 hq).1
    obtain ⟨u, hu, hru⟩ := hy q ys[q] (by simp [hq'])
    rw [hq] at hu; cases hu
    exact hru.one
  have hcell : ∀ q, q < n → q * z + z ≤ c.size := fun q hq => by
    rw [h4]
    have : (q + 1) * z ≤ cap * z := Nat.mul_le_mul_right _ (by omega)
    rw [Nat.add_mul, Nat.one_mul] at this
    exact this
  obtain ⟨fr, hb1, hb2⟩ := h3
  have hci := hcell i hi
  obtain ⟨w', hrun, hw', hg⟩ := run_store_row (P := X.P) vs (i * z + j) 0 c w hb1 hb2 (by omega) hone
  rw [Nat.add_zero] at hw'
  have hRow' : Row w' b e (writeA c (i * z + j) vs) := ⟨fr, hw', by rw [writeA_size]; exact hb2⟩
  have hnP : ¬ g.P b := fun hp => by rw [(h.frozen _ hp).1] at hb; cases hb
  have hPs : ∀ k, g.P k → g.P k ∧ w'.heap[k]? = w.heap[k]? := fun k hk => ⟨hk, hg.heap k (h.frozen k hk).2 (fun e => hnP (e ▸ hk))⟩
  have hKs : ∀ k p, g.ow k = some p → p ≠ (r, []) → w'.heap[k]? = w.heap[k]? := fun k p hk hp =>
    hg.heap k (h.lt k p hk).1 (fun e => by subst e; rw [hb] at hk; cases hk; exact hp rfl)
  have hroot' : (σ.drop (deepR r)).rootTV r = some (.own z e n f) := by rw [rootTV_drop]; exact hroot
  have hs' : ∀ k, r = .slot k 0 → (σ.drop (deepR r)).get k = .tv (.own z e n f) := fun k hk => by rw [get_drop]; exact drop_tv (hs k hk)
  -- the element's cells, anew
  have hplain : ∀ (q t : Nat) (y : TV), q < n → (f q)[t]? = some y → y.plain = true := fun q t y hq hyq => by
    have := hpl q hq
    rw [List.all_eq_true] at this
    exact this y (List.mem_of_getElem? hyq)
  have hlen : (f i).length = z := h7 i hi
  have hnew : ∀ v, TRel g w (r, []) v (.own z e n f) → TRel (g.clr (deepR r)) w' (r, []) v (.own z e n (setElem f i (putAt (f i) j ys))) := by
    intro v hv
    rcases own_inv hv with ⟨_, h0⟩ | ⟨b2, cap, c2, cs, h1, rfl, h3', h4, h5, h6, h7, h8, h9⟩
    · omega
    obtain rfl := h.inj b b2 _ hb h1
    obtain ⟨fr2, q6, _⟩ := h3'
    rw [hb1] at q6
    injection q6 with q6
    injection q6 with q7 _ _
    subst q7
    refine .own b cap z e n _ (writeA c (i * z + j) vs) (fun q t => if q = i ∧ j ≤ t ∧ t < j + ys.length then (vs[t - j]?).getD undef else cs q t) (clr_some.2 ⟨hb, rfl⟩) hRow' (by rw [writeA_size]; exact h4) h5 h6
      (fun q hq => ?_) (fun q t y hq hyq => ?_) (fun q t y hq hyq => ?_)
    · by_cases hqi : q = i
      · subst hqi; rw [setElem_eq, putAt_length]; exact hlen
      · rw [setElem_ne _ _ hqi]; exact h7 q hq
    · by_cases hqi : q = i
      · subst hqi
        rw [setElem_eq] at hyq
        have ht : t < z := by rw [← hlen, ← putAt_length ys (f q) j]; exact (List.getElem?_eq_some_iff.1 hyq).1
        rcases Nat.lt_or_ge t j with hlt | hge
        · rw [putAt_lt _ _ _ _ hlt] at hyq
          rw [writeA_lt _ _ _ _ (by omega), if_neg (by omega)]
          exact h8 q t y hq hyq
        · rcases Nat.lt_or_ge t (j + ys.length) with hlt | hge'
          · obtain ⟨k, rfl⟩ : ∃ k, t = j + k := ⟨t - j, by omega⟩
            rw [if_pos ⟨rfl, by omega, hlt⟩, show j + k - j = k by omega]
            have hk : k < vs.length := by omega
            rw [show q * z + (j + k) = q * z + j + k by omega, writeA_in _ _ _ _ hk (by omega)]
            simp [List.getElem?_eq_getElem hk]
          · rw [putAt_ge _ _ _ _ hge'] at hyq
            rw [writeA_ge _ _ _ _ (by omega), if_neg (by omega)]
            exact h8 q t y hq hyq
      · rw [setElem_ne _ _ hqi] at hyq
        have ht : t < z := by rw [← h7 q hq]; exact (List.getElem?_eq_some_iff.1 hyq).1
        rw [if_neg (by omega)]
        have : (writeA c (i * z + j) vs)[q * z + t]? = c[q * z + t]? := by
          rcases Nat.lt_or_ge q i with hlt | hge
          · apply writeA_lt
            have : (q + 1) * z ≤ i * z := Nat.mul_le_mul_right _ (by omega)
            rw [Nat.add_mul, Nat.one_mul] at this
            omega
          · apply writeA_ge
            have : (i + 1) * z ≤ q * z := Nat.mul_le_mul_right _ (by omega)
            rw [Nat.add_mul, Nat.one_mul] at this
            omega
        rw [this]
        exact h8 q t y hq hyq
    · refine .fr ?_
      by_cases hqi : q = i
      · subst hqi
        rw [setElem_eq] at hyq
        have ht : t < z := by rw [← hlen, ← putAt_length ys (f q) j]; exact (List.getElem?_eq_some_iff.1 hyq).1
        rcases Nat.lt_or_ge t j with hlt | hge
        · rw [putAt_lt _ _ _ _ hlt] at hyq
          rw [if_neg (by omega)]
          exact ((h9 q t y hq hyq).plain (hplain q t y hq hyq)).mono hPs
        · rcases Nat.lt_or_ge t (j + ys.length) with hlt | hge'
          · obtain ⟨k, rfl⟩ : ∃ k, t = j + k := ⟨t - j, by omega⟩
            rw [if_pos ⟨rfl, by omega, hlt⟩, show j + k - j = k by omega]
            rw [putAt_in _ _ _ _ (by omega) (by omega)] at hyq
            obtain ⟨u, hu, hru⟩ := hy k y hyq
            rw [hu]
            exact hru.mono hPs
          · rw [putAt_ge _ _ _ _ hge'] at hyq
            rw [if_neg (by omega)]
            exact ((h9 q t y hq hyq).plain (hplain q t y hq hyq)).mono hPs
      · rw [setElem_ne _ _ hqi] at hyq
        rw [if_neg (by omega)]
        exact ((h9 q t y hq hyq).plain (hplain q t y hq hyq)).mono hPs
  have hlook : ∀ q st, q ≠ r → (σ.storeE r z e n f i j ys).look (q, st) = σ.look (q, st) := fun q st hq => by
    rw [AState.storeE, look_ne hr hroot' hs' hq, look_drop]
  have hlook0 : (σ.storeE r z e n f i j ys).look (r, []) = some (.own z e n (setElem f i (putAt (f i) j ys))) := rootTV_setRoot hr hroot'
  have hheaplen : (σ.storeE r z e n f i j ys).heap.length = σ.heap.length := by
    cases r with
    | slot k j => rfl
    | cell o off => exact setCells_length _ _ _
    | obj o => cases hr
  have U : Up g (g.clr (deepR r)) σ (σ.storeE r z e n f i j ys) w w' (fun p => decide (p.1 = r)) := by
    refine ⟨hPs, fun k p hk hp => ?_, fun p hp z e n f hl => ?_, fun q _ hlt => ⟨rfl, by rw [hheaplen]; exact hlt⟩⟩
    · simp only [decide_eq_false_iff_not] at hp
      refine ⟨clr_some.2 ⟨hk, ?_⟩, hKs k p hk (fun e => hp (by rw [e]))⟩
      unfold deepR
      split
      · rfl
      · simp [hp]
    · simp only [decide_eq_false_iff_not] at hp
      obtain ⟨q, st⟩ := p
      rw [hlook q st hp]; exact hl
  have hN : ∀ p, deepR r p = false → Names g (g.clr (deepR r)) w w' σ (σ.storeE r z e n f i j ys) p := fun p hp => by
    refine ⟨fun k hk => ⟨clr_some.2 ⟨hk, hp⟩, fun c' e' hc' => ?_⟩, fun z1 e1 n1 f1 hl => ?_, fun q _ hlt => ⟨rfl, by rw [hheaplen]; exact hlt⟩⟩
    · by_cases hpr : p = (r, [])
      · have : k = b := h.inj k b p hk (by rw [hpr]; exact hb)
        subst this
        obtain ⟨fr', hc1, hc2⟩ := hc'
        rw [hb1] at hc1
        injection hc1 with hc1
        injection hc1 with e1 e2 e3
        subst e1 e2 e3
        exact ⟨_, hRow', writeA_size _ _ _⟩
      · exact ⟨c', hc'.eq (hKs k p hk hpr), rfl⟩
    · obtain ⟨q, st⟩ := p
      by_cases hq : q = r
      · subst hq
        cases st with
        | nil =>
          have : σ.look (q, []) = some (.own z e n f) := hroot
          rw [hl] at this
          cases this
          exact ⟨_, hlook0⟩
        | cons ij st => simp [deepR] at hp
      · exact ⟨f1, by rw [hlook q st hq]; exact hl⟩
  refine ⟨w', g.clr (deepR r), hrun, h.defers, h.size, fun k => ?_, fun o t cs' ho => ?_, fun k k' p hk hk' => h.inj k k' p (clr_some.1 hk).1 (clr_some.1 hk').1, fun k hk => ⟨clr_none (h.frozen k hk).1, Nat.lt_of_lt_of_le (h.frozen k hk).2 hg.size⟩,
    fun k p hk => ?_, fun k p hk => ?_, h.P0, h.P1, fun k hk h0 => ?_, hg.os.trans h.os, hg.tape.trans h.tape, hg.output.trans h.output, Nat.le_trans h.mono hg.size, h.m0, by rw [hheaplen]; exact h.h0⟩
  · by_cases hk : r = .slot k 0
    · have hg2 : (σ.storeE r z e n f i j ys).get k = .tv (.own z e n (setElem f i (putAt (f i) j ys))) := by
        subst hk
        simp only [AState.storeE, AState.setRoot, get_set, if_true]
      rw [hg2]
      have hk0 := h.env k
      rw [hs k hk] at hk0
      subst hk
      exact hnew _ hk0
    · have hgk : (σ.storeE r z e n f i j ys).get k = (σ.get k).drop (deepR r) := by
        cases r with
        | slot k' j' =>
          cases j' with
          | succ j' => cases hr
          | zero =>
            have hne : k ≠ k' := by rintro rfl; exact hk rfl
            simp only [AState.storeE, AState.setRoot, get_set, if_neg hne, get_drop]
        | cell o off => exact get_drop σ _ k
        | obj o => cases hr
      rw [hgk]
      refine ((h.env k).drop _).mono ⟨hPs, fun j' k' st hk' => ?_⟩ fun p hp => ?_
      · have hne : Root.slot k j' ≠ r := by
          rintro rfl
          cases j' with
          | zero => exact hk rfl
          | succ j' => cases hr
        refine ⟨clr_some.2 ⟨hk', ?_⟩, hKs k' _ hk' (fun e => hne (by injection e))⟩
        unfold deepR
        split
        · rfl
        · simp [hne]
      · obtain ⟨x, hx, he⟩ := (names_drop hp).2
        obtain rfl : x = p := by simpa using he
        exact hN x hx
  · -- objects
    have hobj : ∀ (i : Nat) u y, (Root.cell o i) ≠ r → TRel g w (.cell o i, []) u y → TRel (g.clr (deepR r)) w' (.cell o i, []) u y := fun i u y hne hru =>
      U.tv (fun st => by simp only [decide_eq_false_iff_not]; exact hne) hru
    have hkeep : ∀ {t' : TypeId} {cs0 : List TV}, σ.heap[o]? = some (.cells t' cs0) → ∃ c, w'.heap[g.m o]? = some (.cells c t' (0, 0)) ∧ (g.clr (deepR r)).ow (g.m o) = some (.obj o, []) ∧ c.size = cs0.length ∧
        ∀ (i : Nat) y, cs0[i]? = some y → ∃ u, c[i]? = some u ∧ TRel g w (.cell o i, []) u y := fun {t' cs0} ho0 => by
      obtain ⟨c', k1, k2, k3, k4⟩ := h.heap o t' cs0 ho0
      have hne : ((Root.obj o, []) : Path) ≠ (r, []) := fun e => by injection e with e1 _; subst e1; cases hr
      exact ⟨c', (hKs _ _ k2 hne).trans k1, clr_some.2 ⟨k2, rfl⟩, k3, k4⟩
    cases r with
    | slot k' j' =>
      obtain ⟨c', k1, k2, k3, k4⟩ := hkeep ho
      refine ⟨c', k1, k2, k3, fun i y hy' => ?_⟩
      obtain ⟨u, hu, hru⟩ := k4 i y hy'
      exact ⟨u, hu, hobj i u y (by simp) hru⟩
    | obj o' => cases hr
    | cell o' off =>
      by_cases hoo : o = o'
      · subst hoo
        have ho' : (setCells σ.heap o (fun cs => cs.set off (.own z e n (setElem f i (putAt (f i) j ys)))))[o]? = some (.cells t cs') := ho
        obtain ⟨cs0, ho0, rfl⟩ := setCells_some _ ho'
        obtain ⟨c', k1, k2, k3, k4⟩ := hkeep ho0
        have hoff : cs0[off]? = some (.own z e n f) := by
          simp only [AState.rootTV, ho0] at hroot
          exact hroot
        refine ⟨c', k1, k2, by rw [List.length_set]; exact k3, fun q y hy' => ?_⟩
        rw [List.getElem?_set] at hy'
        by_cases hq : off = q
        · subst hq
          rw [if_pos rfl, if_pos (List.getElem?_eq_some_iff.1 hoff).1] at hy'
          cases hy'
          obtain ⟨u, hu, hru⟩ := k4 off _ hoff
          exact ⟨u, hu, hnew u hru⟩
        · rw [if_neg hq] at hy'
          obtain ⟨u, hu, hru⟩ := k4 q y hy'
          exact ⟨u, hu, hobj q u y (by simp; exact fun e => hq e.symm) hru⟩
      · have ho' : (setCells σ.heap o' (fun cs => cs.set off (.own z e n (setElem f i (putAt (f i) j ys)))))[o]? = some (.cells t cs') := ho
        rw [setCells_ne _ _ _ _ hoo] at ho'
        obtain ⟨c', k1, k2, k3, k4⟩ := hkeep ho'
        refine ⟨c', k1, k2, k3, fun q y hy' => ?_⟩
        obtain ⟨u, hu, hru⟩ := k4 q y hy'
        exact ⟨u, hu, hobj q u y (by simp [hoo]) hru⟩
  · obtain ⟨k1, k2⟩ := h.lt k p (clr_some.1 hk).1
    exact ⟨Nat.lt_of_lt_of_le k1 hg.size, k2⟩
  · have := h.ids k p (clr_some.1 hk).1
    rw [hheaplen]; exact this
  · have hne : k ≠ b := by
      rintro rfl
      rcases (h.lt _ _ hb).2 with q | q
      · omega
      · exact q h0
    exact (hg.heap k (by have := h.mono; omega) hne).trans (h.kept k hk h0)

end
end Go.Sx
