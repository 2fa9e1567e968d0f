/- Plain laws of the printed functions: witnesses; no condition. -/
import Derived.Test.YtpkoebbjnfpifaaGxP5
namespace Go.Sx.gen
open Go Go.Sx

def rk (x y : Int) : Int := if (0 : Int) > (if y > x then y else x) then (0 : Int) else (if y > x then y else x)

theorem rk_nonneg (x y : Int) : rk x y ≥ 0 := by
  unfold rk
  split <;> omega

def wit (a b : T31) (i : Nat) : T48 := T48.mk ((a.f1.getD i default).f0) (rk (a.f1.getD i default).f1 (b.f1.getD i default).f1) false

def firstN (a b : T31) (n : Nat) : List T48 := (List.range n).map (wit a b)

theorem firstN_succ (a b : T31) (n : Nat) : firstN a b (n + 1) = firstN a b n ++ [wit a b n] := by
  simp [firstN, List.range_succ]

theorem firstN_length (a b : T31) (n : Nat) : (firstN a b n).length = n := by simp [firstN]

theorem firstN_rank (a b : T31) (n : Nat) : ∀ c ∈ firstN a b n, c.f1 ≥ 0 := by
  intro c hc
  simp only [firstN, List.mem_map] at hc
  obtain ⟨i, _, rfl⟩ := hc
  exact rk_nonneg _ _

theorem gather (a b : T31) (n : Nat) (ha : n ≤ a.f1.length) (hb : n ≤ b.f1.length) (hn : n ≤ 1000) (body : List T48 × Int → Option ((List T48 × Int) ⊕ Out (List T48 × Bool) (List T48)))
    (h1 : ∀ (l : List T48) (i : Nat), i < n → l.length ≤ 1000 → body (l, (i : Int)) = some (.inl (l ++ [wit a b i], w64 ((i : Int) + 1)))) (h2 : ∀ l, body (l, (n : Int)) = some (.inr (.go l))) : iter body ([], 0) = some (.go (firstN a b n)) := by
  have hm := maxLen_le
  obtain ⟨x, hx, rfl⟩ := iter_ind body (fun q => ∃ i : Nat, i ≤ n ∧ q = (firstN a b i, (i : Int))) (fun q => n - q.2.toNat) (fun _ x => x = Out.go (firstN a b n)) (by
    rintro q ⟨i, hi, rfl⟩
    by_cases hlt : i < n
    · left
      refine ⟨_, h1 _ i hlt (by rw [firstN_length]; omega), ⟨i + 1, hlt, ?_⟩, ?_, fun x hx => hx⟩
      · rw [firstN_succ, w64_id (by omega) (by omega)]; rfl
      · have : w64 ((i : Int) + 1) = (i : Int) + 1 := w64_id (by omega) (by omega)
        simp only [this]; omega
    · right
      obtain rfl : i = n := by omega
      exact ⟨_, h2 _, rfl⟩) ([], 0) ⟨0, Nat.zero_le _, rfl⟩
  exact hx

def m2 (x y : Nat) : Nat := if y > x then y else x

def needs (a b : T31) : Nat := max (leastOf a.f1) (leastOf b.f1)
def most (a b : T31) : Nat := min a.f1.length b.f1.length

def fitsAt (F : List T48 → List T48 → Nat → Int → Bool) (a b : T31) (n : Nat) : Bool := fitsB F a (firstN a b n) && fitsB F b (firstN a b n)

theorem fitsAt_eq {a b : T31} (ha : valid a = true) (hb : valid b = true) (n : Nat) : fitsAt fits1 a b n = fitsAt fits2 a b n := by
  unfold fitsAt
  rw [fitsB_eq ha (firstN_rank a b n), fitsB_eq hb (firstN_rank a b n)]

theorem fits2_prefix (ds : List T48) : ∀ (l r : List T48) (i : Nat) (k : Int), fits2 ds (l ++ r) i k = true → fits2 ds l i k = true
  | [], _, _, _, _ => rfl
  | c :: l, r, i, k, h => by
    simp only [List.cons_append, fits2] at h ⊢
    rcases Bool.eq_false_or_eq_true (((ds.getD i default).f0 != c.f0) || (decide ((ds.getD i default).f1 ≥ 0) && ((ds.getD i default).f1 != c.f1))) with e1 | e1
    · rw [e1] at h; cases h
    · rw [e1] at h ⊢
      rcases Bool.eq_false_or_eq_true (decide ((ds.getD i default).f1 < 0) && decide (c.f1 > 0)) with e2 | e2
      · rw [e2] at h ⊢
        rcases Bool.eq_false_or_eq_true (decide (k > 0) && (k != c.f1)) with e3 | e3
        · rw [e3] at h; cases h
        · rw [e3] at h ⊢; exact fits2_prefix ds l r (i + 1) c.f1 h
      · rw [e2] at h ⊢; exact fits2_prefix ds l r (i + 1) k h

theorem firstN_prefix (a b : T31) {m n : Nat} (h : m ≤ n) : ∃ r, firstN a b n = firstN a b m ++ r := by
  induction h with
  | refl => exact ⟨[], by simp⟩
  | @step n _ ih =>
    obtain ⟨r, hr⟩ := ih
    exact ⟨r ++ [wit a b n], by rw [firstN_succ, hr, List.append_assoc]⟩

theorem fitsB_true {F : List T48 → List T48 → Nat → Int → Bool} {s : T31} {l : List T48} : fitsB F s l = true ↔ leastOf s.f1 ≤ l.length ∧ l.length ≤ s.f1.length ∧ F s.f1 l 0 0 = true := by
  unfold fitsB
  rcases Bool.eq_false_or_eq_true (decide ((l.length : Int) < ((leastOf s.f1 : Nat) : Int)) || decide ((l.length : Int) > (s.f1.length : Int))) with hb | hb
  · rw [hb]
    simp only [cond_true, Bool.false_eq_true, false_iff, not_and]
    simp only [Bool.or_eq_true, decide_eq_true_eq] at hb
    intro h1 h2
    omega
  · rw [hb]
    simp only [Bool.or_eq_false_iff, decide_eq_false_iff_not] at hb
    simp only [cond_false]
    exact ⟨fun h => ⟨by omega, by omega, h⟩, fun h => h.2.2⟩

theorem fitsAt_true {a b : T31} {n : Nat} (h : fitsAt fits2 a b n = true) : needs a b ≤ n ∧ n ≤ most a b ∧ fitsAt fits2 a b (needs a b) = true := by
  simp only [fitsAt, Bool.and_eq_true, fitsB_true, firstN_length] at h ⊢
  obtain ⟨⟨h1, h2, h3⟩, h4, h5, h6⟩ := h
  have hn : needs a b ≤ n := by unfold needs; omega
  obtain ⟨r, hr⟩ := firstN_prefix a b hn
  rw [hr] at h3 h6
  refine ⟨hn, by unfold most; omega, ⟨by unfold needs; omega, by omega, fits2_prefix _ _ _ _ _ h3⟩, by unfold needs; omega, by omega, fits2_prefix _ _ _ _ _ h6⟩

/-- The program's. -/
def witA (a b : T31) : List T48 × Bool := if needs a b > most a b then ([], false) else (firstN a b (needs a b), fitsAt fits1 a b (needs a b))

/-- The reference's. -/
def witB (a b : T31) : List T48 × Bool := if needs a b ≤ most a b ∧ fitsAt fits2 a b (needs a b) = true then (firstN a b (needs a b), true) else ([], false)

def Short (s : T31) : Prop := s.f0.length ≤ maxLen ∧ s.f1.length ≤ 100

theorem f43_eq (a b : T31) (ha : Short a) (hb : Short b) : f43 a b = some (witA a b) := by
  have hm := maxLen_le
  have hA : a.f1.length ≤ maxLen := by have := ha.2; have : (100 : Nat) ≤ maxLen := by decide
                                       omega
  have hB : b.f1.length ≤ maxLen := by have := hb.2; have : (100 : Nat) ≤ maxLen := by decide
                                       omega
  unfold f43 witA
  rw [f55_eq a hA, f55_eq b hB]
  simp only [Option.bind_some]
  have e1 : (if ((leastOf b.f1 : Nat) : Int) > ((leastOf a.f1 : Nat) : Int) then ((leastOf b.f1 : Nat) : Int) else ((leastOf a.f1 : Nat) : Int)) = ((needs a b : Nat) : Int) := by
    unfold needs; split <;> omega
  have e2 : (if (b.f1.length : Int) < (a.f1.length : Int) then (b.f1.length : Int) else (a.f1.length : Int)) = ((most a b : Nat) : Int) := by
    unfold most; split <;> omega
  rw [e1, e2]
  by_cases hn : needs a b > most a b
  · rw [if_pos hn, show decide (((needs a b : Nat) : Int) > ((most a b : Nat) : Int)) = true from by simpa using hn]; rfl
  · rw [if_neg hn, show decide (((needs a b : Nat) : Int) > ((most a b : Nat) : Int)) = false from by simpa using hn]
    have h1 : needs a b ≤ a.f1.length := by unfold most at hn; omega
    have h2 : needs a b ≤ b.f1.length := by unfold most at hn; omega
    have hg := gather a b (needs a b) h1 h2 (by have := ha.2; omega) (fun s => f43_b1 a b ((leastOf a.f1 : Nat) : Int) ((leastOf b.f1 : Nat) : Int) s.1 s.2) ?_ ?_
    · simp only [cond_false]
      rw [hg]
      have hl : (firstN a b (needs a b)).length ≤ maxLen := by rw [firstN_length]; omega
      simp only [Option.bind_some, f33_eq a _ hA hl, f33_eq b _ hB hl, cond_and, fitsAt]
    · intro l i hi hl
      have hd : decide ((i : Int) < ((needs a b : Nat) : Int)) = true := by simpa using hi
      have hgd : (0 : Int) ≤ i ∧ (i : Int) < (a.f1.length : Int) ∧ (0 : Int) ≤ i ∧ (i : Int) < (a.f1.length : Int) ∧ (0 : Int) ≤ i ∧ (i : Int) < (b.f1.length : Int) := ⟨by omega, by omega, by omega, by omega, by omega, by omega⟩
      simp only [f43_b1, e1, hd, cond_true]
      rw [if_pos hgd, if_pos (by simp only [List.length_cons, List.length_nil]; omega)]
      rfl
    · intro l
      simp only [f43_b1, e1, Int.lt_irrefl, decide_false, cond_false]

end Go.Sx.gen
