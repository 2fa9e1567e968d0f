/- Plain laws of the printed functions of storage: how groups are numbered, and how large they are; no condition. -/
import Derived.Test.YtgabiokgockopaaGxQ0
namespace Go.Sx.sto
open Go Go.Sx

def fI (l : List Int) (g : Int) : Option Nat := findFrom (fun t => t == g) l 0

theorem fI_lt {l : List Int} {g : Int} {k : Nat} (h : fI l g = some k) : k < l.length := by
 have := findFrom_lt h; omega

/-- The groups of the first i variables, as they stand. -/
def ids (s : LS) : Nat → List Int
 | 0 => []
 | i + 1 => match fI (ids s i) (gr s i) with
  | some _ => ids s i
  | none => ids s i ++ [gr s i]

/-- A variable's group's number. -/
def kx (s : LS) (i : Nat) : Nat := match fI (ids s i) (gr s i) with
 | some k => k
 | none => (ids s i).length

theorem ids_succ (s : LS) (i : Nat) : (ids s i).length ≤ (ids s (i + 1)).length ∧ (ids s (i + 1)).length ≤ (ids s i).length + 1 := by
 simp only [ids]
 cases fI (ids s i) (gr s i) <;> simp

theorem ids_le (s : LS) : ∀ i, (ids s i).length ≤ i
 | 0 => Nat.le_refl _
 | i + 1 => by have := ids_le s i; have := ids_succ s i; omega

theorem ids_mono (s : LS) (i : Nat) : ∀ k, (ids s i).length ≤ (ids s (i + k)).length
 | 0 => Nat.le_refl _
 | k + 1 => Nat.le_trans (ids_mono s i k) (ids_succ s (i + k)).1

theorem kx_lt (s : LS) (i : Nat) : kx s i < (ids s (i + 1)).length := by
 simp only [kx, ids]
 cases h : fI (ids s i) (gr s i) with
 | some k => exact fI_lt h
 | none => simp

def mx2 (a c : Int) : Int := if a > c then a else c

def szz (s : LS) (i : Nat) (z : List Int) : List Int := match fI (ids s i) (gr s i) with
 | some _ => z
 | none => z ++ [0]

/-- How large the groups are after the first i variables. -/
def szF (l : List T36) (s : LS) (V : Nat → Int) : Nat → List Int
 | 0 => []
 | i + 1 => (szz s i (szF l s V i)).set (kx s i) (mx2 (w64 (V i + un l i)) ((szz s i (szF l s V i)).getD (kx s i) default))

theorem szz_len {s : LS} {i : Nat} {z : List Int} (h : z.length = (ids s i).length) : (szz s i z).length = (ids s (i + 1)).length := by
 simp only [szz, ids]
 cases fI (ids s i) (gr s i) <;> simp [h]

theorem szF_len (l : List T36) (s : LS) (V : Nat → Int) : ∀ i, (szF l s V i).length = (ids s i).length
 | 0 => rfl
 | i + 1 => by
  simp only [szF, List.length_set]
  exact szz_len (szF_len l s V i)

def gsF (s : LS) (i : Nat) : List Int := (List.range i).map fun j => ((kx s j : Nat) : Int)

theorem range_map_snoc (f : Nat → Int) (i : Nat) : (List.range (i + 1)).map f = (List.range i).map f ++ [f i] := by
 rw [List.range_succ, List.map_append]; rfl

theorem range_map_get (f : Nat → Int) {n i : Nat} (h : i < n) : ((List.range n).map f).getD i default = f i := by
 rw [getD_lt (by simpa using h)]; simp

theorem f51_eq (l : List Int) (h : l.length ≤ maxLen) (g : Int) : f51 l g = some (idx (fI l g)) := by
 unfold f51
 rw [index_eq l h (fun t => some (t == g)) (fun t => t == g) (fun _ => rfl) (fun i => f51_b1 l g i) (fun i => rfl)]
 unfold fI
 cases findFrom (fun t => t == g) l 0 <;> rfl

theorem f40_first (l : List T36) (hn : l.length ≤ 60) (s : LS) (hs : Ls l.length s) :
  iter (fun x => f40o_b2 l (T84.mk s.1 s.2) x.1 x.2.1 x.2.2.1 x.2.2.2) (([] : List Int), ([] : List Int), ([] : List Int), (0 : Int)) = some (Out.go (gsF s l.length, List.replicate (ids s l.length).length 0)) := by
 refine iter_listG (fun i (b : List Int × List Int × List Int) => (b.1, b.2.1, b.2.2, i)) l (small_max (by omega)) (fun x => f40o_b2 l (T84.mk s.1 s.2) x.1 x.2.1 x.2.2.1 x.2.2.2)
  (fun _ _ _ => (Out.go (gsF s l.length, List.replicate (ids s l.length).length 0) : Out ((List Int) × (List Int) × (List Int) × Nm × Int) ((List Int) × (List Int))))
  (fun i b => b = (gsF s i, List.replicate (ids s i).length 0, ids s i)) (fun i x r b hI hi hx hd => ?_) (fun b hI => ?_) ([], [], []) rfl
 ·subst hI
  right
  refine ⟨_, ?_, rfl, rfl⟩
  have hd1 : decide ((i : Int) < (l.length : Int)) = true := by simpa using hi
  have g1 : (0 : Int) ≤ i ∧ (i : Int) < (s.1.length : Int) := by rw [hs.g]; omega
  have hil := ids_le s i
  have hlen : (gsF s i).length = i := by simp [gsF]
  have k2 : ∀ v : Int, ((gsF s i).length + [v].length) * 8 ≤ 140737488355328 := fun v => by simp only [List.length_cons, List.length_nil]; omega
  have k3 : ∀ v : Int, ((ids s i).length + [v].length) * 8 ≤ 140737488355328 := fun v => by simp only [List.length_cons, List.length_nil]; omega
  have k4 : ∀ v : Int, ((List.replicate (ids s i).length (0 : Int)).length + [v].length) * 8 ≤ 140737488355328 := fun v => by simp only [List.length_replicate, List.length_cons, List.length_nil]; omega
  show f40o_b2 l (T84.mk s.1 s.2) (gsF s i) (List.replicate (ids s i).length 0) (ids s i) (i : Int) = _
  simp only [f40o_b2, hd1, cond_true, if_pos g1, Int.toNat_natCast, f51_eq (ids s i) (small_max (by omega)), Option.bind_some]
  rw [show gsF s (i + 1) = gsF s i ++ [((kx s i : Nat) : Int)] from range_map_snoc _ i]
  cases hf : fI (ids s i) (gr s i) with
  | some k =>
   have e1 : decide (idx (some k) < 0) = false := decide_eq_false (by simp only [idx]; omega)
   have hf' : fI (ids s i) (s.1.getD i default) = some k := hf
   simp only [hf', e1, cond_false, f40o_j1, if_pos (k2 _), kx, hf, ids]
   rfl
  | none =>
   have e1 : decide (idx none < 0) = true := rfl
   have hf' : fI (ids s i) (s.1.getD i default) = none := hf
   have e3 : (ids s i ++ [gr s i]).length = (ids s i).length + 1 := by simp
   simp only [hf', e1, cond_true, if_pos (k3 _), if_pos (k4 _), f40o_j1, if_pos (k2 _), kx, hf, ids, e3, List.replicate_succ']
 ·simp only [f40o_b2, show decide ((l.length : Int) < (l.length : Int)) = false from by simp, cond_false]
  rw [hI]

theorem getD_left {a c : List Int} {k : Nat} (h : k < a.length) : (a ++ c).getD k default = a.getD k default := by
 rw [getD_lt (by rw [List.length_append]; omega), getD_lt h, List.getElem_append_left h]

theorem f40_second (l : List T36) (b : List (List Nm)) (h : Vs l) (hn : l.length ≤ 60) (hbl : b.length ≤ 500) (hfound : ∀ t ∈ b.flatten, (fd l t).isSome) (s : LS) (hs : Ls l.length s) (V : Nat → Int) (hV : ∀ i, V i = w64 (of s i - stF l b s (gr s i))) :
  iter (fun x => f40o_b3 l b (T84.mk s.1 s.2) (gsF s l.length) x.1 x.2.1 x.2.2) (([] : List Int), List.replicate (ids s l.length).length (0 : Int), (0 : Int)) = some (match (List.range' 0 l.length).find? (fun j => decide (V j < 0)) with
   | some j => Out.ret (er (l.getD j default).f0 10)
   | none => Out.go ((List.range l.length).map V, szF l s V l.length)) := by
 refine iter_listG (fun i (b : List Int × List Int) => (b.1, b.2, i)) l (small_max (by omega)) (fun x => f40o_b3 l b (T84.mk s.1 s.2) (gsF s l.length) x.1 x.2.1 x.2.2)
  (fun r i _ => (match (List.range' i r.length).find? (fun j => decide (V j < 0)) with
   | some j => Out.ret (er (l.getD j default).f0 10)
   | none => Out.go ((List.range l.length).map V, szF l s V l.length) : Out ((List Int) × (List Int) × (List Int) × Nm × Int) ((List Int) × (List Int))))
  (fun i x => x = ((List.range i).map V, szF l s V i ++ List.replicate ((ids s l.length).length - (ids s i).length) 0)) (fun i x r y hI hi hx hd => ?_) (fun y hI => ?_) ([], List.replicate (ids s l.length).length 0) (by simp [szF, ids])
 ·subst hI
  have hd1 : decide ((i : Int) < (l.length : Int)) = true := by simpa using hi
  have g1 : (0 : Int) ≤ i ∧ (i : Int) < (s.1.length : Int) := by rw [hs.g]; omega
  have g2 : (0 : Int) ≤ i ∧ (i : Int) < (s.2.length : Int) := by rw [hs.o]; omega
  have hlen : ((List.range i).map V).length = i := by simp
  have hgl : (gsF s l.length).length = l.length := by simp [gsF]
  have k1 : ∀ v : Int, (((List.range i).map V).length + [v].length) * 8 ≤ 140737488355328 := fun v => by simp only [hlen, List.length_cons, List.length_nil]; omega
  have hsl := szF_len l s V i
  have hzl := szz_len (s := s) (i := i) hsl
  have hkx := kx_lt s i
  have hmo := ids_mono s (i + 1) (l.length - (i + 1))
  rw [show i + 1 + (l.length - (i + 1)) = l.length by omega] at hmo
  -- the sizes, with what is new ahead
  have hpad : szF l s V i ++ List.replicate ((ids s l.length).length - (ids s i).length) 0 = szz s i (szF l s V i) ++ List.replicate ((ids s l.length).length - (ids s (i + 1)).length) 0 := by
   simp only [szz, ids] at hmo ⊢
   cases hf : fI (ids s i) (gr s i) with
   | some k => rfl
   | none =>
    rw [hf] at hmo
    simp only [List.length_append, List.length_cons, List.length_nil] at hmo ⊢
    rw [List.append_assoc, List.singleton_append, ← List.replicate_succ]
    congr 2
    omega
  have hoff : (List.range i).map V ++ [V i] = (List.range (i + 1)).map V := (range_map_snoc V i).symm
  have hol : (((List.range i).map V ++ [V i]).length : Int) = i + 1 := by rw [List.length_append, hlen]; rfl
  have hog : ((List.range i).map V ++ [V i]).getD i default = V i := by rw [hoff, range_map_get V (by omega)]
  have hgg : (gsF s l.length).getD i default = ((kx s i : Nat) : Int) := range_map_get _ hi
  have hRl : ((szF l s V i ++ List.replicate ((ids s l.length).length - (ids s i).length) 0).length : Int) = ((ids s l.length).length : Int) := by
   have := ids_mono s i (l.length - i)
   rw [show i + (l.length - i) = l.length by omega] at this
   rw [List.length_append, List.length_replicate]; omega
  have g4 : (0 : Int) ≤ i ∧ (i : Int) < ((gsF s l.length).length : Int) ∧ (0 : Int) ≤ i ∧ (i : Int) < ((gsF s l.length).length : Int) ∧ (0 : Int) ≤ i ∧ (i : Int) < (((List.range i).map V ++ [V i]).length : Int) ∧ (0 : Int) ≤ i ∧ (i : Int) < (l.length : Int) ∧ (0 : Int) ≤ i ∧ (i : Int) < (l.length : Int) := by rw [hol, hgl]; omega
  have g5 : (0 : Int) ≤ ((kx s i : Nat) : Int) ∧ ((kx s i : Nat) : Int) < ((szF l s V i ++ List.replicate ((ids s l.length).length - (ids s i).length) 0).length : Int) := by rw [hRl]; omega
  have g6 : (0 : Int) ≤ i ∧ (i : Int) < (((List.range i).map V ++ [V i]).length : Int) := by rw [hol]; omega
  have g7 : (0 : Int) ≤ i ∧ (i : Int) < (l.length : Int) := by omega
  have hV' : w64 (s.2.getD i default - stF l b s (s.1.getD i default)) = V i := (hV i).symm
  have hset : (szF l s V i ++ List.replicate ((ids s l.length).length - (ids s i).length) 0).set (kx s i) (mx2 (w64 (V i + un l i)) ((szF l s V i ++ List.replicate ((ids s l.length).length - (ids s i).length) 0).getD (kx s i) default)) = szF l s V (i + 1) ++ List.replicate ((ids s l.length).length - (ids s (i + 1)).length) 0 := by
   rw [hpad, getD_left (by omega), List.set_append_left _ _ (by omega)]
   rfl
  have step : f40o_b3 l b (T84.mk s.1 s.2) (gsF s l.length) ((List.range i).map V) (szF l s V i ++ List.replicate ((ids s l.length).length - (ids s i).length) 0) (i : Int) = cond (decide (V i < 0)) (some (.inr (.ret (er (l.getD i default).f0 10)))) (some (.inl ((List.range (i + 1)).map V, szF l s V (i + 1) ++ List.replicate ((ids s l.length).length - (ids s (i + 1)).length) 0, w64 ((i : Int) + 1)))) := by
   simp only [f40o_b3, hd1, cond_true, if_pos g1, if_pos g2, Int.toNat_natCast, f52_eq l b h hbl hfound s hs, Option.bind_some, hV', if_pos (k1 _), if_pos g4, hgg, if_pos g5, if_pos g6, hog, if_pos g7]
   rw [← hoff, ← hset]
   rfl
  show f40o_b3 l b (T84.mk s.1 s.2) (gsF s l.length) ((List.range i).map V) (szF l s V i ++ List.replicate ((ids s l.length).length - (ids s i).length) 0) (i : Int) = _ ∨ ∃ b', f40o_b3 l b (T84.mk s.1 s.2) (gsF s l.length) ((List.range i).map V) (szF l s V i ++ List.replicate ((ids s l.length).length - (ids s i).length) 0) (i : Int) = _ ∧ _
  rw [step]
  simp only [List.length_cons, List.range'_succ, List.find?_cons]
  cases decide (V i < 0) with
  | true => left; rfl
  | false => right; exact ⟨_, rfl, rfl, rfl⟩
 ·subst hI
  simp only [f40o_b3, show decide ((l.length : Int) < (l.length : Int)) = false from by simp, cond_false, List.length_nil, List.range'_zero, List.find?_nil, Nat.sub_self, List.replicate_zero, List.append_nil]

end Go.Sx.sto

namespace Go.Sx.sto
open Go Go.Sx

/-- Where a variable lies in its group. -/
def Vn (l : List T36) (b : List (List Nm)) (s : LS) (i : Nat) : Int := w64 (of s i - stF l b s (gr s i))

theorem list_of_get {o : List Int} {n : Nat} {f : Nat → Int} (hl : o.length = n) (h : ∀ j, j < n → o.getD j default = f j) : o = (List.range n).map f := by
 apply List.ext_getElem (by simpa using hl)
 intro j h1 h2
 have := h j (by omega)
 rw [getD_lt h1] at this
 simpa using this

theorem adjF_eq {s : LS} {m : M} : ∀ (n i : Nat) (o : List Int), o.length = i + n → (∀ j, j < i → o.getD j default = val s m j) →
  (adjF s m n i o).1 = (List.range' i n).find? (fun j => decide (val s m j < 0)) ∧ ((adjF s m n i o).1 = none → (adjF s m n i o).2 = (List.range (i + n)).map (val s m))
 | 0, i, o, hl, h => ⟨rfl, fun _ => list_of_get hl h⟩
 | n + 1, i, o, hl, h => by
  have ih := adjF_eq (s := s) (m := m) n (i + 1) (o.set i (val s m i)) (by rw [List.length_set]; omega) (fun j hj => by
   rw [getD_set (by omega)]
   split
   ·rename_i e; rw [← e]
   ·exact h j (by omega))
  rw [show i + 1 + n = i + (n + 1) by omega] at ih
  simp only [adjF, List.range'_succ, List.find?_cons]
  cases decide (val s m i < 0) with
  | true => exact ⟨rfl, fun h => by cases h⟩
  | false => exact ih

theorem find_congr {p q : Nat → Bool} {l : List Nat} (h : ∀ x ∈ l, p x = q x) : l.find? p = l.find? q := by
 induction l with
 | nil => rfl
 | cons x r ih =>
  simp only [List.find?_cons, h x (List.mem_cons_self ..), ih fun y hy => h y (List.mem_cons_of_mem _ hy)]

/-- What is wrong with where variables lie. -/
def fin (l : List T36) (b : List (List Nm)) (s : LS) : Option (Nm × Int) :=
 match (bdm l s b ([], [])).1 with
 | some p => some (p, 110)
 | none => match (List.range' 0 l.length).find? (fun j => decide (Vn l b s j < 0)) with
  | some i => some ((l.getD i default).f0, 10)
  | none => none

theorem sett_fin {l : List T36} {b : List (List Nm)} {s : LS} (hs : Ls l.length s) (hrt : Rt l.length s) :
  (match sett l b s with | (false, p, c, _) => (none, p, c) | (true, p, c, x) => (some x, p, c) : (Option T57) × Nm × Int) = match fin l b s with | some (p, c) => (none, p, c) | none => (some (T57.mk l s.1 ((List.range l.length).map (Vn l b s))), [], 0) := by
 unfold sett fin
 cases hb : bdm l s b ([], []) with
 | mk o m =>
  cases o with
  | some p => rfl
  | none =>
   simp only
   have hv : ∀ i, i < l.length → val s (mnF s m.2 l.length 0 m.1) i = Vn l b s i := fun i hi => by
    unfold val Vn; rw [stF_eq hrt hb hi]
   obtain ⟨k1, k2⟩ := adjF_eq (s := s) (m := mnF s m.2 l.length 0 m.1) l.length 0 s.2 (by rw [hs.o]; omega) (fun j hj => by omega)
   have e1 : (List.range' 0 l.length).find? (fun j => decide (val s (mnF s m.2 l.length 0 m.1) j < 0)) = (List.range' 0 l.length).find? (fun j => decide (Vn l b s j < 0)) := find_congr fun x hx => by
    rw [List.mem_range'_1] at hx; rw [hv x (by omega)]
   rw [e1] at k1
   cases ha : adjF s (mnF s m.2 l.length 0 m.1) l.length 0 s.2 with
   | mk a o =>
    rw [ha] at k1 k2
    rw [← k1]
    cases a with
    | some i => rfl
    | none =>
     have e2 := k2 rfl
     simp only [Nat.zero_add] at e2
     simp only
     rw [e2]
     have e3 : (List.range l.length).map (val s (mnF s m.2 l.length 0 m.1)) = (List.range l.length).map (Vn l b s) := List.map_congr_left fun x hx => hv x (by simpa using hx)
     rw [e3]

/-- What is wrong, if anything. -/
def err (l : List T36) (e : List (List T34)) (b : List (List Nm)) : Option (Nm × Int) :=
 match (ask l e b).2 == 0 with
 | false => some (ask l e b)
 | true => match (tied l e b).1 with
  | some q => some (q.f0, 110)
  | none => fin l b (tied l e b).2

theorem lay_err (l : List T36) (e : List (List T34)) (b : List (List Nm)) : lay l e b = match err l e b with
  | some (p, c) => (none, p, c)
  | none => (some (T57.mk l (tied l e b).2.1 ((List.range l.length).map (Vn l b (tied l e b).2))), [], 0) := by
 unfold lay err
 cases hq : (ask l e b).2 == 0 with
 | false => rfl
 | true =>
  have ok := ask_ok (by simpa using hq)
  have hls := tied_ls l e b
  have hrt := tied_rt ok
  cases hw : tied l e b with
  | mk o s =>
   rw [hw] at hls hrt
   cases o with
   | some q => rfl
   | none => exact sett_fin hls hrt

abbrev L3 := List Int × List Int × List Int

/-- Where variables lie. -/
def laid (l : List T36) (e : List (List T34)) (b : List (List Nm)) : L3 :=
 (gsF (tied l e b).2 l.length, (List.range l.length).map (Vn l b (tied l e b).2), szF l (tied l e b).2 (Vn l b (tied l e b).2) l.length)

theorem f40o_eq (l : List T36) (b : List (List Nm)) (h : Vs l) (hn : l.length ≤ 60) (hbl : b.length ≤ 500) (hfound : ∀ t ∈ b.flatten, (fd l t).isSome) (s : LS) (hs : Ls l.length s) :
  f40o l b (T84.mk s.1 s.2) = some (match (List.range' 0 l.length).find? (fun j => decide (Vn l b s j < 0)) with
   | some j => er (l.getD j default).f0 10
   | none => (gsF s l.length, (List.range l.length).map (Vn l b s), szF l s (Vn l b s) l.length, [], 0)) := by
 unfold f40o
 rw [f40_first l hn s hs]
 simp only [Option.bind_some]
 rw [f40_second l b h hn hbl hfound s hs (Vn l b s) (fun _ => rfl)]
 cases (List.range' 0 l.length).find? (fun j => decide (Vn l b s j < 0)) <;> rfl

theorem f27_eq (l : List T36) (e : List (List T34)) (b : List (List Nm)) (h : Vs l) : f27 l e b = some (match err l e b with
  | some (p, c) => er p c
  | none => ((laid l e b).1, (laid l e b).2.1, (laid l e b).2.2, [], 0)) := by
 unfold f27
 rw [f38_any l e b h]
 simp only [Option.bind_some]
 cases ha : argB l e b with
 | false =>
  have : err l e b = some ([], 2) := by unfold err; rw [ask_bad ha]; rfl
  rw [this]; rfl
 | true =>
  have hsm := argB_sm ha
  have h60 := (are_ok (argB_iff ha).1).1
  have g1 : (1 : Int) * (l.length : Int) ≤ 281474976710656 ∧ (l.length : Int) ≤ 9223372036854775807 := by omega
  simp only [Bool.not_true, cond_false]
  rw [f27_places l e h hsm.el hsm.ee]
  cases hp : badP l e with
  | some p =>
   have : err l e b = some (p.f0, 5) := by unfold err ask; rw [ha, hp]; rfl
   rw [this]; rfl
  | none =>
   simp only [Option.bind_some, if_pos g1]
   rw [f27_names l b h hsm.bl hsm.be]
   cases hn : badN l b.flatten with
   | some p =>
    have : err l e b = some (p, 5) := by unfold err ask; rw [ha, hp, hn]; rfl
    rw [this]; rfl
   | none =>
    simp only [Option.bind_some, Int.toNat_natCast]
    rw [f27_dups l b h hsm.bl hsm.be (badN_none hn)]
    cases hd : dupN b.flatten [] with
    | some p =>
     have : err l e b = some (p, 8) := by unfold err ask; rw [ha, hp, hn, hd]; rfl
     rw [this]; rfl
    | none =>
     have ok : Ok l e b := ⟨ha, hp, hn, hd⟩
     simp only [Option.bind_some]
     rw [f39_eq l e b h ok]
     have hls := tied_ls l e b
     have h0 : ((ask l e b).2 == 0) = true := by rw [ok.ask]; rfl
     unfold err layR laid
     rw [h0]
     cases hw : tied l e b with
     | mk o s =>
      rw [hw] at hls
      cases o with
      | some q => rfl
      | none =>
       unfold fin
       simp only
       cases hb : bdm l s b ([], []) with
       | mk o m =>
        cases o with
        | some p => rfl
        | none =>
         simp only [Option.bind_some, Bool.not_true, cond_false]
         rw [f40o_eq l b h h60 hsm.bl ok.found s hls]
         cases (List.range' 0 l.length).find? (fun j => decide (Vn l b s j < 0)) <;> rfl

end Go.Sx.sto

namespace Go.Sx.sto
open Go Go.Sx

theorem ask_two {l : List T36} {e : List (List T34)} {b : List (List Nm)} (h : (ask l e b).2 = 2) : (ask l e b).1 = [] := by
 unfold ask at h ⊢
 cases h1 : argB l e b with
 | false => rfl
 | true =>
  rw [h1] at h
  cases h2 : badP l e with
  | some p => rw [h2] at h; cases h
  | none =>
   rw [h2] at h
   cases h3 : badN l b.flatten with
   | some p => rw [h3] at h; cases h
   | none =>
    rw [h3] at h
    cases h4 : dupN b.flatten [] with
    | some p => rw [h4] at h; cases h
    | none => rfl

theorem err_two {l : List T36} {e : List (List T34)} {b : List (List Nm)} {p : Nm} (h : err l e b = some (p, 2)) : p = [] := by
 unfold err at h
 cases hq : (ask l e b).2 == 0 with
 | false =>
  rw [hq] at h
  simp only [Option.some.injEq] at h
  have := ask_two (l := l) (e := e) (b := b) (by rw [h])
  rw [h] at this; exact this
 | true =>
  rw [hq] at h
  cases hw : (tied l e b).1 with
  | some q => rw [hw] at h; simp at h
  | none =>
   rw [hw] at h
   unfold fin at h
   simp only at h
   cases hb : (bdm l (tied l e b).2 b ([], [])).1 with
   | some p => rw [hb] at h; simp at h
   | none =>
    rw [hb] at h
    simp only at h
    cases hf : (List.range' 0 l.length).find? (fun j => decide (Vn l b (tied l e b).2 j < 0)) with
    | some i => rw [hf] at h; simp at h
    | none => rw [hf] at h; cases h

theorem Pure.StorageChecks : LawStorageChecks := fun l e b hl he hb => by
 have h := Vs.of hl
 obtain ⟨v, hv⟩ := f9_some l e b he.1 hb.1
 unfold f6
 rw [hv, awake]
 simp only [Option.bind_some]
 cases v with
 | true => rfl
 | false =>
  simp only [cond_false]
  unfold f16 f17
  rw [f24_eq l e b h, f27_eq l e b h, lay_err]
  simp only [Option.bind_some]
  cases hq : err l e b with
  | some pc =>
   obtain ⟨p, c⟩ := pc
   simp only [f16_j1, er]
   by_cases hc : c = 2
   ·subst hc
    obtain rfl := err_two hq
    rfl
   ·have e1 : (c == 2) = false := by simpa using hc
    simp only [e1, cond_false, Option.bind_some, beq_self_eq_true, cond_true]
  | none =>
   simp only [f16_j2, show ((0 : Int) == 2) = false from rfl, cond_false, Option.bind_some, beq_self_eq_true, cond_true]

end Go.Sx.sto
