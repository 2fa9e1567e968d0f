/- Plain laws of the printed functions: witnesses of the reference, ambiguous pairs; no condition. -/
import Derived.Test.YtpkoebbjnfpifaaGxP6
namespace Go.Sx.gen
open Go Go.Sx

def resOf : Out (List T48 × Bool) Unit → List T48 × Bool
  | .ret v => v
  | .go _ => ([], false)

theorem f44_eq (a b : T31) (ha : Short a) (hb : Short b) (hm8 : most a b ≤ 8) : f44 a b = some (witB a b) := by
  have hm := maxLen_le
  have hA : a.f1.length ≤ maxLen := by have := ha.2; have : (100 : Nat) ≤ maxLen := by decide
                                       omega
  have hB : b.f1.length ≤ maxLen := by have := hb.2; have : (100 : Nat) ≤ maxLen := by decide
                                       omega
  have hno : ∀ n, n > needs a b ∨ most a b < needs a b → (∀ j, j < n → j ≤ most a b → fitsAt fits2 a b j = false) → witB a b = ([], false) := by
    intro n hn hj
    unfold witB
    rw [if_neg]
    rintro ⟨h1, h2⟩
    rcases hn with hn | hn
    · rw [hj _ hn h1] at h2; cases h2
    · omega
  obtain ⟨x, hx, hq⟩ := iter_ind (fun s => f44_b2 a b s) (fun s => ∃ n : Nat, n ≤ 9 ∧ n ≤ most a b + 1 ∧ s = (n : Int) ∧ ∀ j, j < n → j ≤ most a b → fitsAt fits2 a b j = false) (fun s => 9 - s.toNat) (fun _ x => resOf x = witB a b) (by
    rintro s ⟨n, h9, hmo, rfl, hj⟩
    by_cases h8 : n ≤ 8
    · have hd : decide ((n : Int) ≤ 8) = true := by simp; omega
      by_cases hgt : n > most a b
      · -- too long for one of them
        right
        refine ⟨.ret ([], false), ?_, ?_⟩
        · have : (decide ((n : Int) > (a.f1.length : Int)) || decide ((n : Int) > (b.f1.length : Int))) = true := by
            simp only [Bool.or_eq_true, decide_eq_true_eq]
            unfold most at hgt; omega
          simp only [f44_b2, hd, cond_true, cond_or, this, Option.bind_some]
        · refine (hno n ?_ hj).symm
          by_cases h : needs a b ≤ most a b
          · left; omega
          · right; omega
      · have h1 : n ≤ a.f1.length := by unfold most at hgt; omega
        have h2 : n ≤ b.f1.length := by unfold most at hgt; omega
        have hf : (decide ((n : Int) > (a.f1.length : Int)) || decide ((n : Int) > (b.f1.length : Int))) = false := by
          simp only [Bool.or_eq_false_iff, decide_eq_false_iff_not]; omega
        have hg := gather a b n h1 h2 (by omega) (fun s => f44_b1 a b (n : Int) s.1 s.2) (by
          intro l i hi hl
          have hd : decide ((i : Int) < (n : Int)) = true := by simpa using hi
          have hgd : (0 : Int) ≤ i ∧ (i : Int) < (a.f1.length : Int) ∧ (0 : Int) ≤ i ∧ (i : Int) < (a.f1.length : Int) ∧ (0 : Int) ≤ i ∧ (i : Int) < (b.f1.length : Int) := ⟨by omega, by omega, by omega, by omega, by omega, by omega⟩
          simp only [f44_b1, hd, cond_true]
          rw [if_pos hgd, if_pos (by simp only [List.length_cons, List.length_nil]; omega)]
          rfl) (by
          intro l
          simp only [f44_b1, Int.lt_irrefl, decide_false, cond_false])
        have hl : (firstN a b n).length ≤ maxLen := by rw [firstN_length]; omega
        have hbody : f44_b2 a b (n : Int) = cond (fitsAt fits2 a b n) (some (.inr (.ret (firstN a b n, true)))) (some (.inl (w64 ((n : Int) + 1)))) := by
          unfold f44_b2
          simp only [hd, cond_true, cond_or, hf, Option.bind_some, cond_false]
          rw [hg]
          simp only [Option.bind_some, f37_eq a _ hA hl, f37_eq b _ hB hl, cond_and, fitsAt]
        rcases Bool.eq_false_or_eq_true (fitsAt fits2 a b n) with hfit | hfit
        · right
          refine ⟨.ret (firstN a b n, true), by simp only [hbody, hfit, cond_true], ?_⟩
          obtain ⟨k1, k2, k3⟩ := fitsAt_true hfit
          have : n = needs a b := by
            rcases Nat.lt_or_ge (needs a b) n with h | h
            · rw [hj _ h (by omega)] at k3; cases k3
            · omega
          subst this
          show (firstN a b (needs a b), true) = witB a b
          unfold witB
          rw [if_pos ⟨k2, k3⟩]
        · left
          have hw : w64 ((n : Int) + 1) = ((n + 1 : Nat) : Int) := by rw [w64_id (by omega) (by omega)]; rfl
          refine ⟨((n + 1 : Nat) : Int), by simp only [hbody, hfit, cond_false, hw], ⟨n + 1, by omega, by omega, rfl, fun j hjn hjm => ?_⟩, by simp; omega, fun x hx => hx⟩
          rcases Nat.lt_or_ge j n with h | h
          · exact hj j h hjm
          · obtain rfl : j = n := by omega
            exact hfit
    · right
      have hd : decide ((n : Int) ≤ 8) = false := by simp; omega
      refine ⟨.go (), by simp only [f44_b2, hd, cond_false], ?_⟩
      refine (hno n ?_ hj).symm
      by_cases h : needs a b ≤ most a b
      · left; omega
      · right; omega) 0 ⟨0, by omega, by omega, rfl, fun j hj => by omega⟩
  unfold f44
  rw [hx, ← hq]
  cases x <;> rfl

theorem wit_ok (a b : T31) (ha : valid a = true) (hb : valid b = true) : (witA a b).2 = (witB a b).2 ∧ ((witA a b).2 = true → (witA a b).1 = (witB a b).1) ∧ ((witB a b).2 = false → (witB a b).1 = []) := by
  unfold witA witB
  rw [fitsAt_eq ha hb]
  by_cases h : needs a b > most a b
  · rw [if_pos h, if_neg (by rintro ⟨h1, _⟩; omega)]
    exact ⟨rfl, fun h => (by cases h), fun _ => rfl⟩
  · rw [if_neg h]
    rcases Bool.eq_false_or_eq_true (fitsAt fits2 a b (needs a b)) with hf | hf
    · rw [if_pos ⟨by omega, hf⟩]
      exact ⟨hf, fun _ => rfl, fun h => (by cases h)⟩
    · rw [if_neg (by rintro ⟨_, h2⟩; rw [hf] at h2; cases h2)]
      exact ⟨hf, fun h => (by simp only [hf] at h; cases h), fun _ => rfl⟩

/-! ### Elemental ones -/

theorem valid_elem {s : T31} (h : valid s = true) : s.f1.any minusOne = elem s := by
  have h2 := h
  rw [valid_eq] at h2
  simp only [valid2, okFrom_split, Bool.and_eq_true, List.all_eq_true] at h2
  have hq := h2.2.1
  have hel : elem s = true → s.f1.any minusOne = true := by
    intro he
    simp only [elem, Bool.and_eq_true, decide_eq_true_eq] at he
    rw [List.any_eq_true]
    have hlt : 0 < s.f1.length := by omega
    refine ⟨s.f1[0], List.getElem_mem hlt, ?_⟩
    have := he.2
    rw [List.getD_eq_getElem?_getD, List.getElem?_eq_getElem hlt] at this
    exact this
  rcases Bool.eq_false_or_eq_true (elem s) with he | he
  · rw [he]; exact hel he
  · rw [he, List.any_eq_false]
    intro x hx
    have := hq x hx
    simp only [q2, he, Bool.and_eq_true] at this
    simpa [minusOne] using this.2

def ambB (a b : T31) : Bool := (witB a b).2 && (elem a == elem b)

theorem f41_eq (a b : T31) (ha : Short a) (hb : Short b) (va : valid a = true) (vb : valid b = true) : f41 a b = some (ambB a b) := by
  have hA : a.f1.length ≤ maxLen := by have := ha.2; have : (100 : Nat) ≤ maxLen := by decide
                                       omega
  have hB : b.f1.length ≤ maxLen := by have := hb.2; have : (100 : Nat) ≤ maxLen := by decide
                                       omega
  simp only [f41, f43_eq a b ha hb, f32_eq a hA, f32_eq b hB, Option.bind_some, cond_and, (wit_ok a b va vb).1, valid_elem va, valid_elem vb, ambB]

theorem valid_len {s : T31} (h : valid s = true) : s.f1.length ≤ 8 := by
  simp only [valid, Bool.and_eq_true, decide_eq_true_eq] at h
  omega

theorem most_le {a b : T31} (h : valid a = true) : most a b ≤ 8 := by
  have := valid_len h
  unfold most; omega

theorem f42_eq (a b : T31) (ha : Short a) (hb : Short b) (va : valid a = true) : f42 a b = some (ambB a b) := by
  simp only [f42, f44_eq a b ha hb (most_le va), f15_eq, Option.bind_some, cond_and, ambB]

end Go.Sx.gen
