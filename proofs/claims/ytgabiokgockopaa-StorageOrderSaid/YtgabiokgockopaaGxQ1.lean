/- Plain laws of the printed functions of storage: the law of order; no condition. -/
import Derived.Test.YtgabiokgockopaaGxQ0
namespace Go.Sx.sto
open Go Go.Sx

/-! ### States that tie alike answer alike -/

/-- The same groups, and the same distances in them. -/
structure Eqv (n : Nat) (s s' : LS) : Prop where
 gr : ∀ i j, i < n → j < n → (Go.Sx.sto.gr s i = Go.Sx.sto.gr s j ↔ Go.Sx.sto.gr s' i = Go.Sx.sto.gr s' j)
 of : ∀ i j, i < n → j < n → Go.Sx.sto.gr s i = Go.Sx.sto.gr s j → Go.Sx.sto.of s i - Go.Sx.sto.of s j = Go.Sx.sto.of s' i - Go.Sx.sto.of s' j

theorem Eqv.of_cl {n : Nat} (hn : n ≤ 60) {s s' : LS} (h1 : Cl s' n s) (h2 : Cl s n s') (b1 : BR n s) (b2 : BR n s') : Eqv n s s' where
 gr := fun i j hi hj => ⟨fun h => (h1 i j hi hj h).1, fun h => (h2 i j hi hj h).1⟩
 of := fun i j hi hj h => by
  have hr := (h1 i j hi hj h).2
  have a1 := b1.small hn hi
  have a2 := b1.small hn hj
  have a3 := b2.small hn hi
  have a4 := b2.small hn hj
  rw [w64_id (by omega) (by omega)] at hr
  omega

theorem findL_congr {A : Type} {p q : A → Bool} : ∀ {l : List A}, (∀ x ∈ l, p x = q x) → l.find? p = l.find? q
 | [], _ => rfl
 | x :: r, h => by
  simp only [List.find?_cons, h x (List.mem_cons_self ..), findL_congr fun y hy => h y (List.mem_cons_of_mem _ hy)]

theorem mn_at {n : Nat} {s : LS} (hrt : Rt n s) {i : Nat} (hi : i < n) : ∃ j, j < n ∧ gr s j = gr s i ∧ of s j = (vsF s (gr s i) n 0).foldl mn2 1099511627776 ∧ ∀ k, k < n → gr s k = gr s i → of s j ≤ of s k := by
 obtain ⟨h1, h2, h3⟩ := mn2_le (vsF s (gr s i) n 0) 1099511627776
 obtain ⟨r, r1, r2, r3, r4⟩ := hrt i hi
 have hr := h2 0 (mem_vsF.2 ⟨r, by omega, by omega, by rw [r3, r2], r4⟩)
 rcases h3 with h3 | h3
 ·omega
 ·obtain ⟨j, _, j1, j2, j3⟩ := mem_vsF.1 h3
  exact ⟨j, by omega, j2, j3, fun k hk hg => by rw [j3]; exact h2 _ (mem_vsF.2 ⟨k, by omega, by omega, hg, rfl⟩)⟩

theorem Eqv.bh {l : List T36} {s s' : LS} (h : Eqv l.length s s') {b : List (List Nm)} (hf : ∀ t ∈ b.flatten, (fd l t).isSome) {i : Nat} (hi : i < l.length) : ∀ x ∈ b, Go.Sx.sto.bh l s (Go.Sx.sto.gr s i) x = Go.Sx.sto.bh l s' (Go.Sx.sto.gr s' i) x
 | [], _ => rfl
 | p :: q, hx => by
  have p2 := (ix_of (hf p (List.mem_flatten.2 ⟨_, hx, List.mem_cons_self ..⟩))).2
  simp only [Go.Sx.sto.bh]
  rw [Bool.eq_iff_iff, beq_iff_eq, beq_iff_eq]
  exact h.gr _ _ p2 hi

theorem Eqv.V {l : List T36} {s s' : LS} (h : Eqv l.length s s') (r1 : Rt l.length s) (r2 : Rt l.length s') {b : List (List Nm)} (hf : ∀ t ∈ b.flatten, (fd l t).isSome) {i : Nat} (hi : i < l.length) : Vn l b s i = Vn l b s' i := by
 have key : Go.Sx.sto.of s i - stF l b s (Go.Sx.sto.gr s i) = Go.Sx.sto.of s' i - stF l b s' (Go.Sx.sto.gr s' i) := by
  unfold stF
  rw [findL_congr (h.bh hf hi)]
  have hmin : Go.Sx.sto.of s i - (vsF s (Go.Sx.sto.gr s i) l.length 0).foldl mn2 1099511627776 = Go.Sx.sto.of s' i - (vsF s' (Go.Sx.sto.gr s' i) l.length 0).foldl mn2 1099511627776 := by
   obtain ⟨j, j1, j2, j3, j4⟩ := mn_at r1 hi
   obtain ⟨k, k1, k2, k3, k4⟩ := mn_at r2 hi
   rw [← j3, ← k3]
   have gj : Go.Sx.sto.gr s' j = Go.Sx.sto.gr s' i := (h.gr j i j1 hi).1 j2
   have gk : Go.Sx.sto.gr s k = Go.Sx.sto.gr s i := (h.gr k i k1 hi).2 k2
   have e1 := j4 k k1 gk
   have e2 := k4 j j1 gj
   have e3 := h.of k j k1 j1 (gk.trans j2.symm)
   have e4 := h.of i j hi j1 j2.symm
   omega
  cases hq : b.find? (Go.Sx.sto.bh l s' (Go.Sx.sto.gr s' i)) with
  | none => exact hmin
  | some x =>
   have hx := List.mem_of_find?_eq_some hq
   have hb := List.find?_some hq
   cases x with
   | nil => exact hmin
   | cons p q =>
    have p2 := (ix_of (hf p (List.mem_flatten.2 ⟨_, hx, List.mem_cons_self ..⟩))).2
    have hb' : Go.Sx.sto.gr s' (ix l p) = Go.Sx.sto.gr s' i := by simpa [Go.Sx.sto.bh] using hb
    exact h.of i (ix l p) hi p2 ((h.gr _ _ p2 hi).2 hb').symm
 unfold Vn
 rw [key]

theorem Eqv.bdm {l : List T36} {s s' : LS} (h : Eqv l.length s s') : ∀ (b : List (List Nm)) (m m' : M × M), (∀ t ∈ b.flatten, (fd l t).isSome) → (∀ i, i < l.length → mhas m.1 (Go.Sx.sto.gr s i) = mhas m'.1 (Go.Sx.sto.gr s' i)) → (Go.Sx.sto.bdm l s b m).1 = (Go.Sx.sto.bdm l s' b m').1
 | [], _, _, _, _ => rfl
 | [] :: r, m, m', hf, hm => by
  simp only [Go.Sx.sto.bdm]
  exact h.bdm r m m' (fun t ht => hf t (by simpa using ht)) hm
 | (p :: q) :: r, m, m', hf, hm => by
  have p2 := (ix_of (hf p (by simp))).2
  simp only [Go.Sx.sto.bdm, hm _ p2]
  cases mhas m'.1 (Go.Sx.sto.gr s' (ix l p)) with
  | true => rfl
  | false =>
   refine h.bdm r _ _ (fun t ht => hf t (by simp only [List.flatten_cons, List.mem_append]; exact .inr ht)) fun i hi => ?_
   simp only [mhas_mset]
   rw [hm i hi]
   congr 1
   rw [Bool.eq_iff_iff, beq_iff_eq, beq_iff_eq]
   exact h.gr _ _ p2 hi

theorem Eqv.fin {l : List T36} {s s' : LS} (h : Eqv l.length s s') (r1 : Rt l.length s) (r2 : Rt l.length s') {b : List (List Nm)} (hf : ∀ t ∈ b.flatten, (fd l t).isSome) : Go.Sx.sto.fin l b s = Go.Sx.sto.fin l b s' := by
 unfold Go.Sx.sto.fin
 rw [h.bdm b ([], []) ([], []) hf (fun _ _ => rfl)]
 rw [find_congr (p := fun j => decide (Vn l b s j < 0)) (q := fun j => decide (Vn l b s' j < 0)) fun x hx => by rw [List.mem_range'_1] at hx; rw [h.V r1 r2 hf (by omega)]]

theorem Eqv.ids {n : Nat} {s s' : LS} (h : Eqv n s s') : ∀ i, i ≤ n → (Go.Sx.sto.ids s i).length = (Go.Sx.sto.ids s' i).length ∧ ∀ j, j < n → fI (Go.Sx.sto.ids s i) (Go.Sx.sto.gr s j) = fI (Go.Sx.sto.ids s' i) (Go.Sx.sto.gr s' j)
 | 0, _ => ⟨rfl, fun _ _ => rfl⟩
 | i + 1, hi => by
  obtain ⟨h1, h2⟩ := h.ids i (by omega)
  have h3 := h2 i (by omega)
  simp only [Go.Sx.sto.ids]
  rw [h3]
  cases fI (Go.Sx.sto.ids s' i) (Go.Sx.sto.gr s' i) with
  | some k => exact ⟨h1, h2⟩
  | none =>
   refine ⟨by simp [h1], fun j hj => ?_⟩
   rw [fI_snoc, fI_snoc, h2 j hj]
   cases fI (Go.Sx.sto.ids s' i) (Go.Sx.sto.gr s' j) with
   | some k => rfl
   | none =>
    simp only
    rw [h1]
    by_cases e : Go.Sx.sto.gr s i = Go.Sx.sto.gr s j
    ·rw [if_pos e, if_pos ((h.gr i j (by omega) hj).1 e)]
    ·rw [if_neg e, if_neg (fun e' => e ((h.gr i j (by omega) hj).2 e'))]

theorem Eqv.kx {n : Nat} {s s' : LS} (h : Eqv n s s') {i : Nat} (hi : i < n) : Go.Sx.sto.kx s i = Go.Sx.sto.kx s' i := by
 obtain ⟨h1, h2⟩ := h.ids i (by omega)
 unfold Go.Sx.sto.kx
 rw [h2 i hi, h1]

theorem Eqv.sz {l : List T36} {s s' : LS} (h : Eqv l.length s s') {V V' : Nat → Int} (hV : ∀ i, i < l.length → V i = V' i) : ∀ i, i ≤ l.length → szF l s V i = szF l s' V' i
 | 0, _ => rfl
 | i + 1, hi => by
  have ih := h.sz hV i (by omega)
  obtain ⟨h1, h2⟩ := h.ids i (by omega)
  have ez : szz s i (szF l s V i) = szz s' i (szF l s' V' i) := by
   unfold szz
   rw [h2 i (by omega), ih]
  simp only [szF]
  rw [ez, h.kx (by omega), hV i (by omega)]

theorem Eqv.laid {l : List T36} {e1 e2 : List (List T34)} {b : List (List Nm)} (h : Eqv l.length (tied l e1 b).2 (tied l e2 b).2) (r1 : Rt l.length (tied l e1 b).2) (r2 : Rt l.length (tied l e2 b).2) (hf : ∀ t ∈ b.flatten, (fd l t).isSome) : Go.Sx.sto.laid l e1 b = Go.Sx.sto.laid l e2 b := by
 have hV : ∀ i, i < l.length → Vn l b (tied l e1 b).2 i = Vn l b (tied l e2 b).2 i := fun i hi => h.V r1 r2 hf hi
 unfold Go.Sx.sto.laid gsF
 rw [List.map_congr_left (f := Vn l b (tied l e1 b).2) (g := Vn l b (tied l e2 b).2) fun x hx => hV x (by simpa using hx), h.sz hV _ (Nat.le_refl _),
  List.map_congr_left (f := fun j => ((Go.Sx.sto.kx (tied l e1 b).2 j : Nat) : Int)) (g := fun j => ((Go.Sx.sto.kx (tied l e2 b).2 j : Nat) : Int)) fun x hx => by rw [h.kx (by simpa using hx)]]

/-! ### Turned round -/

def turn (e : List (List T34)) : List (List T34) := (e.map List.reverse).reverse

theorem turn_mem {e : List (List T34)} {x : List T34} : x ∈ turn e ↔ ∃ y ∈ e, y.reverse = x := by
 unfold turn; simp [List.mem_map]

theorem turn_1 (e : List (List T34)) : Turn (turn e) e := fun x hx => by
 obtain ⟨y, hy, rfl⟩ := turn_mem.1 hx
 exact ⟨y, hy, fun p hp => by simpa using hp⟩

theorem turn_2 (e : List (List T34)) : Turn e (turn e) := fun x hx => ⟨x.reverse, turn_mem.2 ⟨x, hx, rfl⟩, fun p hp => by simpa using hp⟩

theorem turn_arg (l : List T36) (e : List (List T34)) (b : List (List Nm)) : argB l (turn e) b = argB l e b := by
 have h1 : (turn e).length = e.length := by simp [turn]
 have h2 : longB (turn e) = longB e := by
  unfold longB turn
  rw [List.any_reverse, List.any_map]
  congr 1
  funext x
  simp
 unfold argB
 rw [h1, h2]

theorem turn_badP (l : List T36) (e : List (List T34)) : (badP l (turn e)).isNone = (badP l e).isNone := by
 rw [Bool.eq_iff_iff, Option.isNone_iff_eq_none, Option.isNone_iff_eq_none]
 unfold badP
 rw [List.find?_eq_none, List.find?_eq_none]
 constructor
 ·intro h p hp
  obtain ⟨x, hx, hpx⟩ := List.mem_flatten.1 hp
  exact h p (List.mem_flatten.2 ⟨x.reverse, turn_mem.2 ⟨x, hx, rfl⟩, by simpa using hpx⟩)
 ·intro h p hp
  obtain ⟨x, hx, hpx⟩ := List.mem_flatten.1 hp
  obtain ⟨y, hy, rfl⟩ := turn_mem.1 hx
  exact h p (List.mem_flatten.2 ⟨y, hy, by simpa using hpx⟩)

theorem turn_ask (l : List T36) (e : List (List T34)) (b : List (List Nm)) : (ask l (turn e) b).2 = (ask l e b).2 := by
 have h := turn_badP l e
 unfold ask
 rw [turn_arg]
 cases argB l e b with
 | false => rfl
 | true =>
  cases h1 : badP l (turn e) with
  | some p =>
   cases h2 : badP l e with
   | some q => rfl
   | none => rw [h1, h2] at h; cases h
  | none =>
   cases h2 : badP l e with
   | some q => rw [h1, h2] at h; cases h
   | none =>
    cases badN l b.flatten with
    | some s => rfl
    | none => cases dupN b.flatten [] <;> rfl

theorem err_turn (l : List T36) (e : List (List T34)) (b : List (List Nm)) : (err l (turn e) b).map (·.2) = (err l e b).map (·.2) ∧ (err l e b = none → laid l e b = laid l (turn e) b) := by
 have ha := turn_ask l e b
 unfold err
 rw [ha]
 cases hq : (ask l e b).2 == 0 with
 | false =>
  refine ⟨?_, fun h => by cases h⟩
  simp only [Option.map_some, ha]
 | true =>
  have ok1 := ask_ok (l := l) (e := e) (b := b) (by simpa using hq)
  have ok2 := ask_ok (l := l) (e := turn e) (b := b) (by rw [ha]; simpa using hq)
  have h60 := (are_ok (argB_iff ok1.arg).1).1
  simp only
  cases h1 : (tied l e b).1 with
  | some q =>
   cases h2 : (tied l (turn e) b).1 with
   | some q' => exact ⟨rfl, fun h => by cases h⟩
   | none => rw [(tied_turn ok2 ok1 (turn_2 e) h2).1] at h1; cases h1
  | none =>
   obtain ⟨h2, c2⟩ := tied_turn ok1 ok2 (turn_1 e) h1
   obtain ⟨_, c1⟩ := tied_turn ok2 ok1 (turn_2 e) h2
   have b1 := tied_br ok1
   have b2 := tied_br ok2
   have hv := Eqv.of_cl h60 c1 c2 b1 b2
   rw [h2]
   simp only
   rw [hv.fin b1.1 b2.1 ok1.found]
   exact ⟨rfl, fun _ => hv.laid b1.1 b2.1 ok1.found⟩

/-! ### The walk -/

theorem w64_pred {k : Nat} (h : k ≤ maxLen) : w64 (((k + 1 : Nat) : Int) - 1) = (k : Int) := by
 have := maxLen_le
 rw [show (((k + 1 : Nat) : Int) - 1) = (k : Int) by omega]
 exact w64_id (by omega) (by omega)

theorem take_snoc' {A : Type} [Inhabited A] {l : List A} {k : Nat} (h : k < l.length) : (l.take (k + 1)).reverse = l.getD k default :: (l.take k).reverse := by
 rw [take_snoc h, List.reverse_append]; rfl

theorem f5_inner (e : List (List T34)) (i : Nat) (hi : i < e.length) (h : (e.getD i default).length * 24 ≤ reachBytes) (hm : (e.getD i default).length ≤ maxLen) :
  iter (fun s => f5_b1 e (i : Int) s.1 s.2) (([] : List T34), w64 (((e.getD i default).length : Int) - 1)) = some (Out.go (e.getD i default).reverse) := by
 have hr : reachBytes = 140737488351232 := rfl
 have key : ∀ (k : Nat) (acc : List T34), k ≤ (e.getD i default).length → acc.length + k = (e.getD i default).length → iter (fun s => f5_b1 e (i : Int) s.1 s.2) (acc, w64 ((k : Int) - 1)) = some (Out.go (acc ++ ((e.getD i default).take k).reverse)) := by
  intro k
  induction k with
  | zero =>
   intro acc _ _
   apply iter_inr
   simp only [show w64 (((0 : Nat) : Int) - 1) = -1 from rfl, f5_b1, show decide ((-1 : Int) ≥ 0) = false from rfl, cond_false, List.take_zero, List.reverse_nil, List.append_nil]
  | succ k ih =>
   intro acc hk hl
   have hml := maxLen_le
   rw [w64_pred (by omega)]
   have g1 : (0 : Int) ≤ i ∧ (i : Int) < (e.length : Int) ∧ (0 : Int) ≤ k ∧ (k : Int) < ((e.getD i default).length : Int) := by omega
   have g2 : ∀ x : T34, (acc.length + [x].length) * 24 ≤ 140737488355328 := fun x => by simp only [List.length_cons, List.length_nil]; omega
   have hstep : f5_b1 e (i : Int) acc (k : Int) = some (.inl (acc ++ [(e.getD i default).getD k default], w64 ((k : Int) - 1))) := by
    simp only [f5_b1, show decide ((k : Int) ≥ 0) = true from decide_eq_true (by omega), cond_true, Int.toNat_natCast, if_pos g1, if_pos (g2 _)]
   rw [iter_inl (s := (acc, (k : Int))) hstep, ih _ (by omega) (by simp only [List.length_append, List.length_cons, List.length_nil]; omega), take_snoc' (by omega), List.append_assoc]
   rfl
 have := key (e.getD i default).length [] (Nat.le_refl _) (by simp)
 rw [List.take_length] at this
 exact this

theorem f5_turn (e : List (List T34)) (h : e.length * 24 ≤ reachBytes) (hm : e.length ≤ maxLen) (he : ∀ x ∈ e, x.length ≤ maxLen ∧ x.length * 24 ≤ reachBytes) :
  iter (fun s => f5_b2 e s.1 s.2) (([] : List (List T34)), w64 ((e.length : Int) - 1)) = some (Out.go (turn e)) := by
 have hr : reachBytes = 140737488351232 := rfl
 have key : ∀ (k : Nat) (acc : List (List T34)), k ≤ e.length → acc.length + k = e.length → iter (fun s => f5_b2 e s.1 s.2) (acc, w64 ((k : Int) - 1)) = some (Out.go (acc ++ (e.take k).reverse.map List.reverse)) := by
  intro k
  induction k with
  | zero =>
   intro acc _ _
   apply iter_inr
   simp only [show w64 (((0 : Nat) : Int) - 1) = -1 from rfl, f5_b2, show decide ((-1 : Int) ≥ 0) = false from rfl, cond_false, List.take_zero, List.reverse_nil, List.map_nil, List.append_nil]
  | succ k ih =>
   intro acc hk hl
   have hml := maxLen_le
   rw [w64_pred (by omega)]
   have g1 : (0 : Int) ≤ k ∧ (k : Int) < (e.length : Int) := by omega
   have g2 : ∀ x : List T34, (acc.length + [x].length) * 24 ≤ 140737488355328 := fun x => by simp only [List.length_cons, List.length_nil]; omega
   have hin := he _ (getD_mem (l := e) (i := k) (by omega))
   have hi := f5_inner e k (by omega) hin.2 hin.1
   have hstep : f5_b2 e acc (k : Int) = some (.inl (acc ++ [(e.getD k default).reverse], w64 ((k : Int) - 1))) := by
    simp only [f5_b2, show decide ((k : Int) ≥ 0) = true from decide_eq_true (by omega), cond_true, Int.toNat_natCast, if_pos g1]
    rw [hi]
    simp only [Option.bind_some, if_pos (g2 _)]
   rw [iter_inl (s := (acc, (k : Int))) hstep, ih _ (by omega) (by simp only [List.length_append, List.length_cons, List.length_nil]; omega), take_snoc' (by omega), List.map_cons, List.append_assoc]
   rfl
 have := key e.length [] (Nat.le_refl _) (by simp)
 rw [List.take_length] at this
 rw [this]
 unfold turn
 rw [List.nil_append, List.map_reverse]

theorem Pure.StorageOrder : LawStorageOrder := fun l e b hl he hb => by
 have h := Vs.of hl
 obtain ⟨v, hv⟩ := f9_some l e b he.1.1 hb.1
 unfold f5
 rw [hv, awake]
 simp only [Option.bind_some]
 cases v with
 | true => rfl
 | false =>
  simp only [cond_false]
  rw [f5_turn e he.1.2 he.1.1 fun x hx => (he.2 x hx).1]
  simp only [Option.bind_some]
  rw [f11_eq l e b h, f11_eq l (turn e) b h]
  obtain ⟨h1, h2⟩ := err_turn l e b
  simp only [Option.bind_some]
  have n1 : f13 ([] : List Int) ([] : List Int) = some true := f13_self [] (Nat.zero_le _)
  cases hq : err l e b with
  | some pc =>
   obtain ⟨p, c⟩ := pc
   rw [hq] at h1
   cases hq' : err l (turn e) b with
   | none => rw [hq'] at h1; cases h1
   | some pc' =>
    obtain ⟨p', c'⟩ := pc'
    rw [hq'] at h1
    simp only [Option.map_some, Option.some.injEq] at h1
    subst h1
    simp only [beq_self_eq_true, cond_true, n1, Option.bind_some]
  | none =>
   rw [hq] at h1
   cases hq' : err l (turn e) b with
   | some pc' => rw [hq'] at h1; cases h1
   | none =>
    obtain ⟨ok, _, _⟩ := err_ok hq
    obtain ⟨k1, k2, k3⟩ := laid_len (e := e) (b := b) (are_ok (argB_iff ok.arg).1).1
    simp only [← h2 hq, beq_self_eq_true, cond_true, f13_self _ k1, f13_self _ k2, f13_self _ k3, Option.bind_some]

end Go.Sx.sto

