/- UnitPlaces: the check of sanity, copies of bytes; no condition. -/
import Derived.Test.YtdmpmbcnfoionaaGxG
import Derived.Test.YtdmpmbcnfoionaaGxM
import Derived.Test.YtdmpmbcnfoionaaSxD
namespace Go.Sx.unit
open Go Go.Sx

theorem awakeV : f9 = some true := f9_le 30 true (by kernel_rfl)

theorem clone_eq (l : List Int) (h : l.length ≤ 1000000) : f37 l = some l := by
 unfold f37
 rw [if_pos (by simp; omega)]; rfl

end Go.Sx.unit

namespace Go.Sx.unit
open Go Go.Sx

/-- Zeros behind, up to so many. -/
def padTo (d : List Int) (n : Nat) : List Int := d ++ List.replicate (n - d.length) 0

def put (d : List Int) (a : Nat) (b : List Int) : List Int := putL (padTo d (a + b.length)) a b

theorem padTo_len (d : List Int) (n : Nat) : (padTo d n).length = max d.length n := by
 simp only [padTo, List.length_append, List.length_replicate]; omega

theorem put_len (d : List Int) (a : Nat) (b : List Int) : (put d a b).length = max d.length (a + b.length) := by
 unfold put
 rw [← putL_len _ _ _ (by rw [padTo_len]; omega), padTo_len]

theorem padTo_at (d : List Int) (n i : Nat) (hi : i < max d.length n) : (padTo d n).getD i default = if i < d.length then d.getD i default else 0 := by
 unfold padTo
 simp only [List.getD_eq_getElem?_getD]
 by_cases h : i < d.length
 ·rw [if_pos h, List.getElem?_append_left h]
 ·rw [if_neg h, List.getElem?_append_right (by omega), List.getElem?_replicate, if_pos (by omega)]; rfl

theorem put_out (d : List Int) (a : Nat) (b : List Int) (i : Nat) (hi : i < max d.length (a + b.length)) (h : ¬ (a ≤ i ∧ i < a + b.length)) : (put d a b).getD i default = if i < d.length then d.getD i default else 0 := by
 rw [← padTo_at d (a + b.length) i hi]
 unfold put putL
 have hl := padTo_len d (a + b.length)
 simp only [List.getD_eq_getElem?_getD]
 rcases Nat.lt_or_ge i a with h2 | h2
 ·rw [List.getElem?_append_left (by simp only [List.length_append, List.length_take]; omega), List.getElem?_append_left (by simp only [List.length_take]; omega), List.getElem?_take, if_pos h2]
 ·rw [List.getElem?_append_right (by simp only [List.length_append, List.length_take]; omega), List.getElem?_drop]
  congr 2
  simp only [List.length_append, List.length_take]
  rw [Nat.min_eq_left (by omega)]
  omega

theorem put_in (d : List Int) (a : Nat) (b : List Int) : ((put d a b).take (a + b.length)).drop a = b := by
 unfold put putL
 have hl := padTo_len d (a + b.length)
 have e1 : ((padTo d (a + b.length)).take a).length = a := by rw [List.length_take]; omega
 rw [List.take_append_of_le_length (by rw [List.length_append, e1]; omega), List.take_of_length_le (by rw [List.length_append, e1]; omega), List.drop_append_of_le_length (by omega), List.drop_of_length_le (by omega), List.nil_append]

/-- Growing, and copying into it. -/
theorem grown_eq (a : Nat) (b d : List Int) (h0 : List UInt8) (l p : Int) (q : Bool) (hb : b.length ≤ 30000) (hd : d.length ≤ 20000) (ha : a ≤ 100000000) :
  f44o (a : Int) b (T64.mk h0 l d p q) = some (if a + b.length ≤ 20000 then (put d a b, 0) else ([], 4)) := by
 have ew : w64 ((a : Int) + (b.length : Int)) = ((a + b.length : Nat) : Int) := by rw [w64_id (by omega) (by omega)]; omega
 have loop : a + b.length ≤ 20000 → ∀ (k : Nat) (v : List Int), a + b.length - v.length = k → v.length ≤ 20000 → iter (fun s => f44o_b1 (a : Int) b s) v = some (Out.go (padTo v (a + b.length))) := by
  intro hab k
  induction k with
  | zero =>
   intro v hk hv
   apply iter_inr
   have : decide ((v.length : Int) < ((a + b.length : Nat) : Int)) = false := decide_eq_false (by omega)
   simp only [f44o_b1, ew, this, cond_false, padTo, hk, List.replicate_zero, List.append_nil]
  | succ k ih =>
   intro v hk hv
   have h1 : decide ((v.length : Int) < ((a + b.length : Nat) : Int)) = true := decide_eq_true (by omega)
   have h2 : (v.length + [(0 : Int)].length) * 1 ≤ 140737488355328 := by simp only [List.length_cons, List.length_nil]; omega
   rw [iter_inl (s' := v ++ [0]) (by simp only [f44o_b1, ew, h1, cond_true, if_pos h2]), ih (v ++ [0]) (by simp only [List.length_append, List.length_cons, List.length_nil]; omega) (by simp only [List.length_append, List.length_cons, List.length_nil]; omega)]
   unfold padTo
   rw [List.append_assoc, List.singleton_append, ← List.replicate_succ]
   congr 4
   simp only [List.length_append, List.length_cons, List.length_nil]; omega
 unfold f44o
 rw [ew]
 by_cases hab : a + b.length ≤ 20000
 ·have c1 : decide ((a : Int) > 20000) = false := decide_eq_false (by omega)
  have c2 : decide (((a + b.length : Nat) : Int) > 20000) = false := decide_eq_false (by omega)
  have g : (0 : Int) ≤ a ∧ (a : Int) + (b.length : Int) ≤ ((padTo d (a + b.length)).length : Int) := by rw [padTo_len]; omega
  simp only [c1, c2, cond_false, Option.bind_some]
  rw [clone_eq d (by omega)]
  simp only [Option.bind_some]
  rw [loop hab _ d rfl hd, if_pos hab]
  simp only [Option.bind_some, if_pos g, Int.toNat_natCast]
  rfl
 ·have c2 : decide (((a + b.length : Nat) : Int) > 20000) = true := decide_eq_true (by omega)
  rw [c2, if_neg hab]
  cases decide ((a : Int) > 20000) <;> rfl

abbrev dir : List UInt8 := [100, 105, 114, 101, 99, 116]
abbrev str : List UInt8 := [115, 116, 114, 101, 97, 109]

/-- What is filled up to a record's length. -/
def full (l : Nat) (b : List Int) : List Int := b ++ List.replicate (l - b.length) 0

theorem full_len {l : Nat} {b : List Int} (h : b.length ≤ l) : (full l b).length = l := by
 simp only [full, List.length_append, List.length_replicate]; omega

/-- Writing at a place of a direct unit. -/
theorem write_dir (n : Int) (b d : List Int) (l : Nat) (p : Int) (hb : b.length ≤ 21000) (hd : d.length ≤ 20000) (hl : 1 ≤ l ∧ l ≤ 1000) :
  (∃ k, k ≠ 0 ∧ f24o n b (T64.mk dir l d p false) = some (k, T64.mk dir l d p false)) ∨
   ∃ m : Nat, n = (m : Int) + 1 ∧ b.length ≤ l ∧ m * l + l ≤ 20000 ∧ f24o n b (T64.mk dir l d p false) = some (0, T64.mk dir l (put d (m * l) (full l b)) p false) := by
 have e1 : (dir == ([] : List UInt8)) = false := rfl
 have e2 : (dir == ([108, 105, 110, 101, 115] : List UInt8)) = false := rfl
 have e3 : (dir == ([114, 101, 99, 111, 114, 100, 115] : List UInt8)) = false := rfl
 have e4 : (dir == ([100, 105, 114, 101, 99, 116] : List UInt8)) = true := rfl
 unfold f24o f41 f42
 simp only [e1, e2, e3, e4, Option.bind_some, cond_false, cond_true]
 by_cases hn : n < 1
 ·rw [decide_eq_true hn]; exact .inl ⟨2, by decide, rfl⟩
 rw [decide_eq_false hn]
 by_cases hbl : (b.length : Int) > (l : Int)
 ·rw [decide_eq_true hbl]; exact .inl ⟨2, by decide, rfl⟩
 rw [decide_eq_false hbl, decide_eq_false (show ¬ n < 0 by omega)]
 simp only [cond_false, Option.bind_some]
 by_cases hn2 : n > 20000
 ·rw [decide_eq_true hn2]; exact .inl ⟨4, by decide, rfl⟩
 rw [decide_eq_false hn2, clone_eq b (by omega)]
 obtain ⟨m, rfl⟩ : ∃ m : Nat, n = (m : Int) + 1 := ⟨(n - 1).toNat, by omega⟩
 have ew : w64 ((l : Int) - (b.length : Int)) = ((l - b.length : Nat) : Int) := by rw [w64_id (by omega) (by omega)]; omega
 have em : w64 ((m : Int) + 1 - 1) = (m : Int) := by rw [w64_id (by omega) (by omega)]; omega
 have hml : m * l ≤ 20000 * 1000 := Nat.mul_le_mul (by omega) hl.2
 have eml : w64 ((m : Int) * (l : Int)) = ((m * l : Nat) : Int) := by rw [← Int.natCast_mul, w64_id (by omega) (by omega)]
 have g : (0 : Int) ≤ ((l - b.length : Nat) : Int) ∧ (b.length + (l - b.length)) * 1 ≤ 140737488355328 := by omega
 simp only [cond_false, Option.bind_some, ew, em, eml, Int.toNat_natCast, if_pos g]
 have hfl := full_len (l := l) (b := b) (by omega)
 have hg := grown_eq (m * l) (full l b) d dir (l : Int) p false (by omega) hd (by omega)
 unfold full at hg
 rw [hg]
 by_cases hfit : m * l + (full l b).length ≤ 20000
 ·right
  refine ⟨m, rfl, by omega, by omega, ?_⟩
  unfold full at hfit
  rw [if_pos hfit]
  rfl
 ·left
  unfold full at hfit
  rw [if_neg hfit]
  exact ⟨4, by decide, rfl⟩

/-- Writing at a place of a stream unit. -/
theorem write_str (n : Int) (b d : List Int) (p : Nat) (hb : b.length ≤ 21000) (hd : d.length ≤ 20000) (hp : p ≤ 20000) (hn63 : n ≤ 9223372036854775807) :
  (∃ k, k ≠ 0 ∧ f24o n b (T64.mk str 0 d p false) = some (k, T64.mk str 0 d p false)) ∨
   ∃ m : Nat, (n = 0 ∧ m = p ∨ n = (m : Int) + 1) ∧ m + b.length ≤ 20000 ∧ f24o n b (T64.mk str 0 d p false) = some (0, T64.mk str 0 (if 0 < b.length then put d m b else d) ((m + b.length : Nat) : Int) false) := by
 have e1 : (str == ([] : List UInt8)) = false := rfl
 have e2 : (str == ([108, 105, 110, 101, 115] : List UInt8)) = false := rfl
 have e3 : (str == ([114, 101, 99, 111, 114, 100, 115] : List UInt8)) = false := rfl
 have e4 : (str == ([100, 105, 114, 101, 99, 116] : List UInt8)) = false := rfl
 unfold f24o f41 f42
 simp only [e1, e2, e3, e4, Option.bind_some, cond_false]
 by_cases hn : n < 0
 ·rw [decide_eq_true hn]; exact .inl ⟨2, by decide, rfl⟩
 rw [decide_eq_false hn]
 simp only [cond_false]
 -- where it is
 obtain ⟨m, hm, hf⟩ : ∃ m : Nat, (n = 0 ∧ m = p ∨ n = (m : Int) + 1) ∧ f45 (T64.mk str 0 d p false) n = some (m : Int) := by
  unfold f45
  by_cases h0 : n = 0
  ·subst h0; exact ⟨p, .inl ⟨rfl, rfl⟩, rfl⟩
  ·refine ⟨(n - 1).toNat, .inr (by omega), ?_⟩
   rw [beq_eq_false_iff_ne.2 h0, cond_false, w64_id (by omega) (by omega)]
   congr 1
   omega
 rw [hf]
 simp only [Option.bind_some]
 by_cases hm2 : (m : Int) > 20000
 ·rw [decide_eq_true hm2]; exact .inl ⟨4, by decide, rfl⟩
 rw [decide_eq_false hm2]
 simp only [cond_false]
 have ew : w64 ((m : Int) + (b.length : Int)) = ((m + b.length : Nat) : Int) := by rw [w64_id (by omega) (by omega)]; omega
 by_cases hb0 : 0 < b.length
 ·rw [decide_eq_true (show (b.length : Int) > 0 by omega), cond_true, grown_eq m b d str 0 p false (by omega) hd (by omega)]
  by_cases hfit : m + b.length ≤ 20000
  ·right
   refine ⟨m, hm, hfit, ?_⟩
   rw [if_pos hfit, if_pos hb0]
   simp only [Option.bind_some, show ((0 : Int) != 0) = false from rfl, cond_false, f24o_j2, ew]
  ·left
   rw [if_neg hfit]
   exact ⟨4, by decide, rfl⟩
 ·right
  refine ⟨m, hm, by omega, ?_⟩
  rw [decide_eq_false (show ¬ (b.length : Int) > 0 by omega), cond_false, if_neg hb0]
  simp only [f24o_j2, ew]

end Go.Sx.unit

namespace Go.Sx.unit
open Go Go.Sx

/-- Opening: nothing, or a unit that holds the bytes. -/
theorem open_any (how : List UInt8) (n : Int) (b : List Int) (hl : b.length ≤ 1000000) (hhow : how = dir ∨ how = str) :
  (∃ k, f16 how n b = some (none, k) ∧ k ≠ 0) ∨ (f16 how n b = some (some (T64.mk how n b 0 false), 0) ∧ b.length ≤ 20000 ∧ (how = dir → 1 ≤ n ∧ n ≤ 1000) ∧ (how = str → n = 0)) := by
 have j1 : f16_j1 how n b = some (some (T64.mk how n b 0 false), 0) := by
  unfold f16_j1; rw [clone_eq b hl]; rfl
 have j2 : (how == ([114, 101, 99, 111, 114, 100, 115] : List UInt8)) = false → (∃ k, f16_j2 how n b = some (none, k) ∧ k ≠ 0) ∨ (f16_j2 how n b = some (some (T64.mk how n b 0 false), 0) ∧ b.length ≤ 20000) := by
  intro hr
  unfold f16_j2
  by_cases hc : b.length ≤ 20000
  ·rw [decide_eq_false (by omega), cond_false, hr, cond_false]
   exact .inr ⟨j1, hc⟩
  ·rw [decide_eq_true (by omega), cond_true]
   exact .inl ⟨4, rfl, by decide⟩
 rcases hhow with rfl | rfl
 ·have e : f16 dir n b = f16_j3 dir n b false := rfl
  rw [e]
  unfold f16_j3
  rw [cond_false, show (dir == ([100, 105, 114, 101, 99, 116] : List UInt8)) = true from rfl, cond_true]
  by_cases h1 : n < 1
  ·rw [decide_eq_true h1]; exact .inl ⟨2, rfl, by decide⟩
  ·rw [decide_eq_false h1]
   by_cases h2 : n > 1000
   ·rw [decide_eq_true h2]; exact .inl ⟨2, rfl, by decide⟩
   ·rw [decide_eq_false h2]
    rcases j2 rfl with h | ⟨h, hb⟩
    ·exact .inl h
    ·exact .inr ⟨h, hb, fun _ => by omega, fun h => by cases h⟩
 ·have e : f16 str n b = f16_j3 str n b true := rfl
  rw [e]
  unfold f16_j3
  rw [cond_true]
  by_cases h1 : n = 0
  ·subst h1
   rw [show ((0 : Int) != 0) = false from rfl, cond_false]
   rcases j2 rfl with h | ⟨h, hb⟩
   ·exact .inl h
   ·exact .inr ⟨h, hb, fun h => (by cases h), fun _ => rfl⟩
  ·have : (n != 0) = true := by simpa using h1
   rw [this]; exact .inl ⟨2, rfl, by decide⟩

/-- Nothing is changed elsewhere. -/
theorem same_else (d a : List Int) (f t : Int) (ha : a.length ≤ 1000000) (h : ∀ i : Nat, i < a.length → ¬ (f ≤ i ∧ (i : Int) < t) → a.getD i default = if i < d.length then d.getD i default else 0) :
  iter (fun s => f5_b3 d a f t s) (0 : Int) = some (Out.go ()) := by
 have hm : (1000000 : Nat) ≤ maxLen := by decide
 refine iter_list a (by omega) (fun s => f5_b3 d a f t s) (fun _ _ => (Out.go () : Out Bool Unit)) (fun i x r hi hx hd => ?_) ?_
 ·right
  refine ⟨?_, rfl⟩
  have hd1 : decide ((i : Int) < (a.length : Int)) = true := by simpa using hi
  have g1 : (0 : Int) ≤ i ∧ (i : Int) < (a.length : Int) := by omega
  by_cases h1 : (i : Int) ≥ f
  ·by_cases h2 : (i : Int) < t
   ·simp only [f5_b3, hd1, cond_true, decide_eq_true h1, decide_eq_true h2, Option.bind_some, f5_j1]
   ·have hv := h i hi (by omega)
    by_cases h3 : i < d.length
    ·have g2 : (0 : Int) ≤ i ∧ (i : Int) < (d.length : Int) := by omega
     rw [if_pos h3] at hv
     have e : (a.getD i default != d.getD i default) = false := by rw [hv]; simp
     simp only [f5_b3, hd1, cond_true, decide_eq_true h1, decide_eq_false h2, Option.bind_some, cond_false, decide_eq_true (show (i : Int) < (d.length : Int) by omega), if_pos g2, Int.toNat_natCast, f5_j2, if_pos g1, e, f5_j1]
    ·rw [if_neg h3] at hv
     have e : (a.getD i default != 0) = false := by rw [hv]; rfl
     simp only [f5_b3, hd1, cond_true, decide_eq_true h1, decide_eq_false h2, Option.bind_some, cond_false, decide_eq_false (show ¬ (i : Int) < (d.length : Int) by omega), Int.toNat_natCast, f5_j2, if_pos g1, e, f5_j1]
  ·have hv := h i hi (by omega)
   by_cases h3 : i < d.length
   ·have g2 : (0 : Int) ≤ i ∧ (i : Int) < (d.length : Int) := by omega
    rw [if_pos h3] at hv
    have e : (a.getD i default != d.getD i default) = false := by rw [hv]; simp
    simp only [f5_b3, hd1, cond_true, decide_eq_false h1, Option.bind_some, cond_false, decide_eq_true (show (i : Int) < (d.length : Int) by omega), if_pos g2, Int.toNat_natCast, f5_j2, if_pos g1, e, f5_j1]
   ·rw [if_neg h3] at hv
    have e : (a.getD i default != 0) = false := by rw [hv]; rfl
    simp only [f5_b3, hd1, cond_true, decide_eq_false h1, Option.bind_some, cond_false, decide_eq_false (show ¬ (i : Int) < (d.length : Int) by omega), Int.toNat_natCast, f5_j2, if_pos g1, e, f5_j1]
 ·simp only [f5_b3, show decide ((a.length : Int) < (a.length : Int)) = false from by simp, cond_false]

theorem f21_any (how : List UInt8) (hhow : how = dir ∨ how = str) (n : Int) (b : List Int) (hl : b.length ≤ 1000000) (p : Int) (q : Bool) : f21o (T64.mk how n b p q) = some b := by
 unfold f21o f41
 have : (how == ([] : List UInt8)) = false := by rcases hhow with rfl | rfl <;> rfl
 simp only [this, Option.bind_some, cond_false]
 rw [clone_eq b hl]; rfl

theorem f19_str (n : Int) (b : List Int) (p : Nat) (hp : p ≤ 1000000) (q : Bool) : f19 (T64.mk str n b p q) = some ((p : Int) + 1) := by
 unfold f19 f41
 have e1 : (str == ([] : List UInt8)) = false := rfl
 have e2 : (str == ([100, 105, 114, 101, 99, 116] : List UInt8)) = false := rfl
 have e3 : (str == ([115, 116, 114, 101, 97, 109] : List UInt8)) = true := rfl
 simp only [e1, e2, e3, Option.bind_some, cond_false, cond_true]
 rw [w64_id (by omega) (by omega)]

/-- What was written to a direct unit is read. -/
theorem read_dir (m l : Nat) (b d : List Int) (p : Int) (hb : b.length ≤ l) (hl : 1 ≤ l ∧ l ≤ 1000) (hd : d.length ≤ 20000) (hfit : m * l + l ≤ 20000) :
  f25o ((m : Int) + 1) 0 (T64.mk dir l (put d (m * l) (full l b)) p false) = some (full l b, 0, T64.mk dir l (put d (m * l) (full l b)) p false) := by
 have e1 : (dir == ([] : List UInt8)) = false := rfl
 have e2 : (dir == ([108, 105, 110, 101, 115] : List UInt8)) = false := rfl
 have e3 : (dir == ([114, 101, 99, 111, 114, 100, 115] : List UInt8)) = false := rfl
 have e4 : (dir == ([100, 105, 114, 101, 99, 116] : List UInt8)) = true := rfl
 have e5 : (dir == ([115, 116, 114, 101, 97, 109] : List UInt8)) = false := rfl
 have hfl := full_len hb
 have hpl := put_len d (m * l) (full l b)
 rw [hfl] at hpl
 have c1 : decide ((m : Int) + 1 < 1) = false := decide_eq_false (by omega)
 have c2 : decide ((m : Int) + 1 < 0) = false := decide_eq_false (by omega)
 have hml : m ≤ 20000 := by
  have : m * 1 ≤ m * l := Nat.mul_le_mul_left _ hl.1
  omega
 have em : w64 ((m : Int) + 1 - 1) = (m : Int) := by rw [w64_id (by omega) (by omega)]; omega
 have eml : w64 ((m : Int) * (l : Int)) = ((m * l : Nat) : Int) := by rw [← Int.natCast_mul, w64_id (by omega) (by omega)]
 have eml2 : w64 (((m : Int) + 1) * (l : Int)) = ((m * l + l : Nat) : Int) := by
  rw [show ((m : Int) + 1) * (l : Int) = ((m * l + l : Nat) : Int) by rw [Int.add_mul, Int.one_mul, Int.natCast_add, Int.natCast_mul]]
  exact w64_id (by omega) (by omega)
 have hl0 : (l : Int) ≠ 0 := by omega
 have hdiv : decide ((m : Int) + 1 > w64 (Int.tdiv ((put d (m * l) (full l b)).length : Int) (l : Int))) = false := by
  apply decide_eq_false
  have h1 : m * l + l ≤ (put d (m * l) (full l b)).length := by omega
  have h2 : m + 1 ≤ (put d (m * l) (full l b)).length / l := (Nat.le_div_iff_mul_le (by omega)).2 (by rw [Nat.add_mul, Nat.one_mul]; exact h1)
  have h3 : (put d (m * l) (full l b)).length / l ≤ (put d (m * l) (full l b)).length := Nat.div_le_self _ _
  rw [Int.tdiv_eq_ediv_of_nonneg (by omega), ← Int.natCast_ediv, w64_id (by omega) (by omega)]
  omega
 have g : (0 : Int) ≤ ((m * l : Nat) : Int) ∧ ((m * l : Nat) : Int) ≤ ((m * l + l : Nat) : Int) ∧ ((m * l + l : Nat) : Int) ≤ ((put d (m * l) (full l b)).length : Int) := by omega
 unfold f25o f41 f42
 simp only [e1, e2, e3, e4, e5, Option.bind_some, cond_false, cond_true, c1, c2, ne_eq, if_pos hl0, hdiv, em, eml, eml2, if_pos g, Int.toNat_natCast]
 have hin := put_in d (m * l) (full l b)
 rw [hfl] at hin
 rw [hin, clone_eq _ (by omega)]
 rfl

/-- What was written to a stream unit is read. -/
theorem read_str (m : Nat) (b d : List Int) (p : Int) (hd : d.length ≤ 20000) (hfit : m + b.length ≤ 20000) (hb : 0 < b.length) :
  f25o ((m : Int) + 1) (b.length : Int) (T64.mk str 0 (put d m b) p false) = some (b, 0, T64.mk str 0 (put d m b) ((m + b.length : Nat) : Int) false) := by
 have e1 : (str == ([] : List UInt8)) = false := rfl
 have e2 : (str == ([108, 105, 110, 101, 115] : List UInt8)) = false := rfl
 have e3 : (str == ([114, 101, 99, 111, 114, 100, 115] : List UInt8)) = false := rfl
 have e4 : (str == ([100, 105, 114, 101, 99, 116] : List UInt8)) = false := rfl
 have e5 : (str == ([115, 116, 114, 101, 97, 109] : List UInt8)) = true := rfl
 have hpl := put_len d m b
 have c2 : decide ((m : Int) + 1 < 0) = false := decide_eq_false (by omega)
 have c3 : decide ((b.length : Int) < 0) = false := decide_eq_false (by omega)
 have c4 : decide ((b.length : Int) > 20000) = false := decide_eq_false (by omega)
 have ef : f45 (T64.mk str 0 (put d m b) p false) ((m : Int) + 1) = some (m : Int) := by
  unfold f45
  rw [beq_eq_false_iff_ne.2 (show (m : Int) + 1 ≠ 0 by omega), cond_false, w64_id (by omega) (by omega)]
  congr 1; omega
 have c5 : decide ((m : Int) > ((put d m b).length : Int)) = false := decide_eq_false (by omega)
 have ew : w64 (((put d m b).length : Int) - (m : Int)) = ((put d m b).length : Int) - (m : Int) := w64_id (by omega) (by omega)
 have c6 : decide ((b.length : Int) > ((put d m b).length : Int) - (m : Int)) = false := decide_eq_false (by omega)
 have ea : w64 ((m : Int) + (b.length : Int)) = ((m + b.length : Nat) : Int) := by rw [w64_id (by omega) (by omega)]; omega
 have g : (0 : Int) ≤ (m : Int) ∧ (m : Int) ≤ ((m + b.length : Nat) : Int) ∧ ((m + b.length : Nat) : Int) ≤ ((put d m b).length : Int) := by omega
 unfold f25o f41 f42
 simp only [e1, e2, e3, e4, e5, Option.bind_some, cond_false, cond_true, c2, c3, c4, ef, c5, ew, c6, ea, if_pos g, Int.toNat_natCast, put_in]
 rw [clone_eq _ (by omega)]
 rfl

/-- Nothing is asked of a stream unit. -/
theorem read_none (m : Nat) (d : List Int) (p : Int) (hd : d.length ≤ 20000) (hm : m ≤ 20000) : ∃ r, f25o ((m : Int) + 1) 0 (T64.mk str 0 d p false) = some r := by
 have e1 : (str == ([] : List UInt8)) = false := rfl
 have e2 : (str == ([108, 105, 110, 101, 115] : List UInt8)) = false := rfl
 have e3 : (str == ([114, 101, 99, 111, 114, 100, 115] : List UInt8)) = false := rfl
 have e4 : (str == ([100, 105, 114, 101, 99, 116] : List UInt8)) = false := rfl
 have e5 : (str == ([115, 116, 114, 101, 97, 109] : List UInt8)) = true := rfl
 have c2 : decide ((m : Int) + 1 < 0) = false := decide_eq_false (by omega)
 have c3 : decide ((0 : Int) < 0) = false := rfl
 have c4 : decide ((0 : Int) > 20000) = false := rfl
 have ef : f45 (T64.mk str 0 d p false) ((m : Int) + 1) = some (m : Int) := by
  unfold f45
  rw [beq_eq_false_iff_ne.2 (show (m : Int) + 1 ≠ 0 by omega), cond_false, w64_id (by omega) (by omega)]
  congr 1; omega
 have ew : w64 ((d.length : Int) - (m : Int)) = (d.length : Int) - (m : Int) := w64_id (by omega) (by omega)
 have ea : w64 ((m : Int) + 0) = (m : Int) := by rw [w64_id (by omega) (by omega)]; omega
 unfold f25o f41 f42
 simp only [e1, e2, e3, e4, e5, Option.bind_some, cond_false, cond_true, c2, c3, c4, ef, ew, ea]
 by_cases h1 : (m : Int) > (d.length : Int)
 ·rw [decide_eq_true h1]; exact ⟨_, rfl⟩
 ·have g : (0 : Int) ≤ (m : Int) ∧ (m : Int) ≤ (m : Int) ∧ (m : Int) ≤ (d.length : Int) := by omega
  rw [decide_eq_false h1, decide_eq_false (show ¬ (0 : Int) > (d.length : Int) - (m : Int) by omega)]
  simp only [Option.bind_some, cond_false, if_pos g]
  rw [clone_eq _ (by rw [List.length_drop, List.length_take]; omega)]
  exact ⟨_, rfl⟩

theorem f15_some (f : T32) (x y : T46) (h : f15 f [x, y] = some false) : x.f3.length ≤ 21000 ∧ y.f3.length ≤ 21000 ∧ f.f2.length ≤ 21000 := by
 have s0 : f15_b1 [x, y] 0 = cond (decide ((x.f3.length : Int) > 21000)) (some (.inr (.ret true))) (some (.inl 1)) := rfl
 have s1 : f15_b1 [x, y] 1 = cond (decide ((y.f3.length : Int) > 21000)) (some (.inr (.ret true))) (some (.inl 2)) := rfl
 have s2 : f15_b1 [x, y] 2 = some (.inr (.go ())) := rfl
 unfold f15 at h
 by_cases hx : (x.f3.length : Int) > 21000
 ·rw [iter_inr (x := .ret true) (by rw [s0, decide_eq_true hx]; rfl)] at h
  cases h
 ·rw [iter_inl (s' := (1 : Int)) (by rw [s0, decide_eq_false hx]; rfl)] at h
  by_cases hy : (y.f3.length : Int) > 21000
  ·rw [iter_inr (x := .ret true) (by rw [s1, decide_eq_true hy]; rfl)] at h
   cases h
  ·rw [iter_inl (s' := (2 : Int)) (by rw [s1, decide_eq_false hy]; rfl), iter_inr s2] at h
   simp only [Option.bind_some, List.length_cons, List.length_nil, show decide (((0 + 1 + 1 : Nat) : Int) > 60) = false from rfl, cond_false] at h
   have hf : ¬ (f.f2.length : Int) > 21000 := by simpa using h
   omega

theorem f15_total (f : T32) (x y : T46) : ∃ v, f15 f [x, y] = some v := by
 have s0 : f15_b1 [x, y] 0 = cond (decide ((x.f3.length : Int) > 21000)) (some (.inr (.ret true))) (some (.inl 1)) := rfl
 have s1 : f15_b1 [x, y] 1 = cond (decide ((y.f3.length : Int) > 21000)) (some (.inr (.ret true))) (some (.inl 2)) := rfl
 have s2 : f15_b1 [x, y] 2 = some (.inr (.go ())) := rfl
 unfold f15
 by_cases hx : (x.f3.length : Int) > 21000
 ·rw [iter_inr (x := .ret true) (by rw [s0, decide_eq_true hx]; rfl)]
  exact ⟨_, rfl⟩
 ·rw [iter_inl (s' := (1 : Int)) (by rw [s0, decide_eq_false hx]; rfl)]
  by_cases hy : (y.f3.length : Int) > 21000
  ·rw [iter_inr (x := .ret true) (by rw [s1, decide_eq_true hy]; rfl)]
   exact ⟨_, rfl⟩
  ·rw [iter_inl (s' := (2 : Int)) (by rw [s1, decide_eq_false hy]; rfl), iter_inr s2]
   exact ⟨_, rfl⟩

theorem take_full {l : Nat} {b : List Int} : ((full l b).take b.length).drop 0 = b := by
 unfold full
 rw [List.take_left']
 ·rfl
 ·rfl

/-- The second half, for a direct unit. -/
theorem places_dir (f : T32) (y : T46) (hf : f.f0 = dir) (l : Nat) (hfl : f.f1 = (l : Int)) (hl : 1 ≤ l ∧ l ≤ 1000) (d : List Int) (p : Int) (hd : d.length ≤ 20000) (hb : y.f3.length ≤ 21000) (v : Int) :
  f5_j6 f y dir l d p false d v = some true := by
 unfold f5_j6
 rcases write_dir y.f1 y.f3 d l p hb hd hl with ⟨k, hk, hw⟩ | ⟨m, hm, hbl, hfit, hw⟩
 ·rw [hw]
  have : (k != 0) = true := by simpa using hk
  simp only [Option.bind_some, this, cond_true]
  rw [f21_any dir (.inl rfl) l d (by omega) p false, awakeV]
  simp
 ·rw [hw, hm]
  have hcl := full_len hbl
  have hpl := put_len d (m * l) (full l y.f3)
  rw [hcl] at hpl
  have hml : m ≤ 20000 := by
   have : m * 1 ≤ m * l := Nat.mul_le_mul_left _ hl.1
   omega
  have em : w64 ((m : Int) + 1 - 1) = (m : Int) := by rw [w64_id (by omega) (by omega)]; omega
  have eml : w64 ((m : Int) * (l : Int)) = ((m * l : Nat) : Int) := by rw [← Int.natCast_mul, w64_id (by omega) (by omega)]
  have eml2 : w64 (((m : Int) + 1) * (l : Int)) = ((m * l + l : Nat) : Int) := by
   rw [show ((m : Int) + 1) * (l : Int) = ((m * l + l : Nat) : Int) by rw [Int.add_mul, Int.one_mul, Int.natCast_add, Int.natCast_mul]]
   exact w64_id (by omega) (by omega)
  have e4 : (f.f0 == ([100, 105, 114, 101, 99, 116] : List UInt8)) = true := by rw [hf]; rfl
  have n0 : ((m : Int) + 1 == 0) = false := beq_eq_false_iff_ne.2 (by omega)
  simp only [Option.bind_some, show ((0 : Int) != 0) = false from rfl, cond_false, e4, cond_true, hfl, em, eml, eml2]
  unfold f5_j5
  rw [f21_any dir (.inl rfl) l _ (by omega) p false]
  simp only [Option.bind_some, hm, n0, cond_false]
  unfold f5_j4
  rw [same_else d (put d (m * l) (full l y.f3)) _ _ (by omega) (fun i hi h => put_out d (m * l) (full l y.f3) i (by rw [hcl]; omega) (by rw [hcl]; omega))]
  simp only [Option.bind_some, decide_eq_false (show ¬ ((put d (m * l) (full l y.f3)).length : Int) < (d.length : Int) by omega), cond_false, e4, cond_true, hm]
  rw [read_dir m l y.f3 d p hbl hl hd hfit]
  have g : (y.f3.length : Int) ≤ ((full l y.f3).length : Int) := by omega
  have e5 : (((full l y.f3).length : Int) == (l : Int)) = true := by rw [hcl]; simp
  simp only [Option.bind_some, beq_self_eq_true, cond_true, hfl, e5, if_pos g, Int.toNat_natCast, take_full, awakeV]

/-- The second half, for a stream unit. -/
theorem places_str (f : T32) (y : T46) (hf : f.f0 = str) (d : List Int) (p : Nat) (hp : p ≤ 20000) (hd : d.length ≤ 20000) (hb : y.f3.length ≤ 21000) (hn : y.f1 ≤ 9223372036854775807) (v : Int) :
  f5_j6 f y str 0 d p false d v = some true := by
 unfold f5_j6
 rcases write_str y.f1 y.f3 d p hb hd hp hn with ⟨k, hk, hw⟩ | ⟨m, hm, hfit, hw⟩
 ·rw [hw]
  have : (k != 0) = true := by simpa using hk
  simp only [Option.bind_some, this, cond_true]
  rw [f21_any str (.inr rfl) 0 d (by omega) p false, awakeV]
  simp
 ·rw [hw]
  have e4 : (f.f0 == ([100, 105, 114, 101, 99, 116] : List UInt8)) = false := by rw [hf]; rfl
  -- the bytes behind it
  have hdl : (if 0 < y.f3.length then put d m y.f3 else d).length ≤ 20000 ∧ d.length ≤ (if 0 < y.f3.length then put d m y.f3 else d).length := by
   have := put_len d m y.f3
   split <;> omega
  have key : f5_j4 f y d (0, T64.mk str 0 (if 0 < y.f3.length then put d m y.f3 else d) ((m + y.f3.length : Nat) : Int) false) (if 0 < y.f3.length then put d m y.f3 else d) (m : Int) ((m : Int) + (y.f3.length : Int)) = some true := by
   unfold f5_j4
   rw [same_else d _ _ _ (by omega) (fun i hi h => by
    by_cases hb0 : 0 < y.f3.length
    ·rw [if_pos hb0] at hi ⊢
     have := put_len d m y.f3
     exact put_out d m y.f3 i (by omega) (by omega)
    ·rw [if_neg hb0] at hi ⊢
     rw [if_pos hi])]
   have c1 : decide (((if 0 < y.f3.length then put d m y.f3 else d).length : Int) < (d.length : Int)) = false := decide_eq_false (by omega)
   have ew : w64 ((m : Int) + 1) = (m : Int) + 1 := w64_id (by omega) (by omega)
   simp only [Option.bind_some, c1, cond_false, e4, ew]
   by_cases hb0 : 0 < y.f3.length
   ·rw [if_pos hb0, read_str m y.f3 d _ hd hfit hb0]
    have n0 : ((y.f3.length : Int) == 0) = false := beq_eq_false_iff_ne.2 (by omega)
    have et : w64 ((m : Int) + (y.f3.length : Int) + 1) = ((m + y.f3.length : Nat) : Int) + 1 := by rw [w64_id (by omega) (by omega)]; omega
    simp only [Option.bind_some, n0, cond_false, beq_self_eq_true, cond_true, f19_str 0 _ (m + y.f3.length) (by omega) false, et, awakeV]
   ·have hz : y.f3.length = 0 := by omega
    rw [if_neg hb0, hz]
    obtain ⟨r, hr⟩ := read_none m d ((m + 0 : Nat) : Int) hd (by omega)
    have hr' : f25o ((m : Int) + 1) ((0 : Nat) : Int) (T64.mk str 0 d ((m + 0 : Nat) : Int) false) = some r := hr
    rw [hr']
    simp only [Option.bind_some, show (((0 : Nat) : Int) == 0) = true from rfl, cond_true, awakeV]
  have go : ∀ a c : Int, (y.f1 = 0 → True) → (y.f1 ≠ 0 → a = (m : Int) ∧ c = (m : Int) + (y.f3.length : Int)) →
    f5_j5 f y d (0, T64.mk str 0 (if 0 < y.f3.length then put d m y.f3 else d) ((m + y.f3.length : Nat) : Int) false) a c = some true := by
   intro a c _ hac
   unfold f5_j5
   rw [f21_any str (.inr rfl) 0 _ (by omega) _ false]
   simp only [Option.bind_some]
   by_cases h0 : y.f1 = 0
   ·rw [h0]
    simp only [beq_self_eq_true, cond_true]
    rw [f19_str 0 _ (m + y.f3.length) (by omega) false]
    have q1 : w64 (((m + y.f3.length : Nat) : Int) + 1 - 1) = (m : Int) + (y.f3.length : Int) := by rw [w64_id (by omega) (by omega)]; omega
    have q2 : w64 ((m : Int) + (y.f3.length : Int) - (y.f3.length : Int)) = (m : Int) := by rw [w64_id (by omega) (by omega)]; omega
    simp only [Option.bind_some, q1, q2]
    exact key
   ·obtain ⟨rfl, rfl⟩ := hac h0
    rw [beq_eq_false_iff_ne.2 h0, cond_false]
    exact key
  simp only [Option.bind_some, show ((0 : Int) != 0) = false from rfl, cond_false, e4]
  refine go _ _ (fun _ => trivial) fun h0 => ?_
  rcases hm with ⟨h1, _⟩ | h1
  ·exact absurd h1 h0
  ·rw [h1]
   have q1 : w64 ((m : Int) + 1 - 1) = (m : Int) := by rw [w64_id (by omega) (by omega)]; omega
   rw [q1]
   exact ⟨rfl, w64_id (by omega) (by omega)⟩

theorem Pure.UnitPlaces : LawUnitPlaces := fun f x y hf hx hy => by
 obtain ⟨v, hv⟩ := f15_total f x y
 unfold f5
 rw [hv, awakeV]
 simp only [Option.bind_some]
 cases v with
 | true => rfl
 | false =>
  obtain ⟨b1, b2, b3⟩ := f15_some f x y hv
  simp only [cond_false]
  by_cases hh : f.f0 = dir ∨ f.f0 = str
  ·have hc : cond (!(f.f0 == ([100, 105, 114, 101, 99, 116] : List UInt8))) (some (!(f.f0 == ([115, 116, 114, 101, 97, 109] : List UInt8)))) (some false) = some false := by
    rcases hh with h | h <;> rw [h] <;> rfl
   rw [hc]
   simp only [Option.bind_some, cond_false]
   rcases open_any f.f0 f.f1 f.f2 (by omega) hh with ⟨k, ho, hk⟩ | ⟨ho, hb, hd, hs⟩
   ·rw [ho]
    have : (k != 0) = true := by simpa using hk
    simp only [Option.bind_some, this, cond_true]
   ·rw [ho]
    simp only [Option.bind_some, show ((0 : Int) != 0) = false from rfl, cond_false]
    rcases hh with h | h
    ·obtain ⟨l1, l2⟩ := hd h
     obtain ⟨l, hl⟩ : ∃ l : Nat, f.f1 = (l : Int) := ⟨f.f1.toNat, by omega⟩
     rw [h, hl]
     rw [hl] at l1 l2
     have e5 : (dir == ([115, 116, 114, 101, 97, 109] : List UInt8)) = false := rfl
     rcases write_dir x.f1 x.f3 f.f2 l 0 b1 hb (by omega) with ⟨k, hk, hw⟩ | ⟨m, hm, hbl, hfit, hw⟩
     ·rw [hw]
      have : (k != 0) = true := by simpa using hk
      simp only [Option.bind_some, this, cond_true]
     ·rw [hw]
      have hpl := put_len f.f2 (m * l) (full l x.f3)
      rw [full_len hbl] at hpl
      simp only [Option.bind_some, show ((0 : Int) != 0) = false from rfl, cond_false]
      rw [f21_any dir (.inl rfl) l _ (by omega) 0 false]
      simp only [Option.bind_some, e5, cond_false]
      exact places_dir f y h l hl (by omega) _ 0 (by omega) b2 _
    ·have hz := hs h
     rw [h, hz]
     have e5 : (str == ([115, 116, 114, 101, 97, 109] : List UInt8)) = true := rfl
     have wx := hx.2.1
     have wy := hy.2.1
     have n63 : ∀ n : Int, (Lit.int .i64 n).wf = true → n ≤ 9223372036854775807 := fun n h => by
      simp only [Lit.wf, Bool.and_eq_true, decide_eq_true_eq] at h
      exact h.2
     have hw0 := write_str x.f1 x.f3 f.f2 0 b1 hb (by omega) (n63 _ wx)
     rcases hw0 with ⟨k, hk, hw⟩ | ⟨m, hm, hfit, hw⟩
     ·have hw' : f24o x.f1 x.f3 (T64.mk str 0 f.f2 0 false) = some (k, T64.mk str 0 f.f2 0 false) := hw
      rw [hw']
      have : (k != 0) = true := by simpa using hk
      simp only [Option.bind_some, this, cond_true]
     ·have hw' : f24o x.f1 x.f3 (T64.mk str 0 f.f2 0 false) = _ := hw
      rw [hw']
      have hdl : (if 0 < x.f3.length then put f.f2 m x.f3 else f.f2).length ≤ 20000 := by
       have := put_len f.f2 m x.f3
       split <;> omega
      simp only [Option.bind_some, show ((0 : Int) != 0) = false from rfl, cond_false]
      rw [f21_any str (.inr rfl) 0 _ (by omega) _ false]
      simp only [Option.bind_some, e5, cond_true]
      exact places_str f y h _ (m + x.f3.length) (by omega) hdl b2 (n63 _ wy) _
  ·have h1 : (f.f0 == ([100, 105, 114, 101, 99, 116] : List UInt8)) = false := by
    rw [beq_eq_false_iff_ne]; exact fun h => hh (.inl h)
   have h2 : (f.f0 == ([115, 116, 114, 101, 97, 109] : List UInt8)) = false := by
    rw [beq_eq_false_iff_ne]; exact fun h => hh (.inr h)
   rw [h1, h2]
   rfl

end Go.Sx.unit
