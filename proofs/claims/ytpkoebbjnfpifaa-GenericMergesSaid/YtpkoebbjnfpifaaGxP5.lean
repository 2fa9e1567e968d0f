/- Plain laws of the printed functions: lists of specifics; no condition. -/
import Derived.Test.YtpkoebbjnfpifaaGxP4
namespace Go.Sx.gen
open Go Go.Sx

theorem f51_eq (s t : T31) : f51 s t = some (s.f0 == t.f0) := rfl

theorem f63_eq (l : List T31) (s : T31) (h : l.length ≤ maxLen) : f63_51 l s = some (idx (findFrom (fun t => t.f0 == s.f0) l 0)) := by
  unfold f63_51
  have key : iter (fun q => f63_51_b1 l s q) 0 = some (outOf (findFrom (fun t => t.f0 == s.f0) l 0)) := by
    refine iter_list l h (fun q => f63_51_b1 l s q) (fun r i => outOf (findFrom (fun t => t.f0 == s.f0) r i)) ?_ ?_
    · intro i x r hi hx _
      have h1 : (0 : Int) ≤ i ∧ (i : Int) < (l.length : Int) := ⟨by omega, by omega⟩
      simp only [f63_51_b1, Int.toNat_natCast, hx, h1, and_self, if_true, decide_true, cond_true, f51_eq, Option.bind_some]
      by_cases hpx : (x.f0 == s.f0) = true
      · left; simp only [hpx, cond_true, findFrom, if_true, outOf]
      · right
        have hf : (x.f0 == s.f0) = false := by simpa using hpx
        simp only [hf, cond_false, findFrom, if_false, Bool.false_eq_true, and_self]
    · simp [f63_51_b1, findFrom, outOf]
  rw [key]
  cases findFrom (fun t => t.f0 == s.f0) l 0 <;> rfl

theorem f46_eq (l : List T31) (s : T31) (h : l.length ≤ maxLen) : f46_51 l s = some (l.any fun t => t.f0 == s.f0) := by
  simp only [f46_51, f63_eq l s h, Option.bind_some, findFrom_any]

/-- Each is valid, and none bears a name of those ahead. -/
def listOk (l : List T31) : List T31 → Nat → Bool
  | [], _ => true
  | s :: r, i => (valid s && !((l.take i).any fun t => t.f0 == s.f0)) && listOk l r (i + 1)

def isListB (l : List T31) : Bool := listOk l l 0 && decide ((l.length : Int) ≤ 20)

def Small (l : List T31) : Prop := l.length ≤ maxLen ∧ ∀ s ∈ l, s.f0.length ≤ maxLen ∧ s.f1.length ≤ maxLen

theorem Small.get {l : List T31} (h : Small l) {i : Nat} {x : T31} (hi : i < l.length) (hx : l.getD i default = x) : x.f0.length ≤ maxLen ∧ x.f1.length ≤ maxLen := by
  refine h.2 x ?_
  rw [← hx, List.getD_eq_getElem?_getD, List.getElem?_eq_getElem hi]
  exact List.getElem_mem hi

theorem f29_eq (l : List T31) (h : Small l) : f29 l = some (isListB l) := by
  have hl := iter_list l h.1 (fun i => f29_b1 l i) (fun r i => cond (listOk l r i) (Out.go () : Out Bool Unit) (Out.ret false)) ?_ ?_
  · unfold f29 isListB
    rw [hl]
    cases listOk l l 0 <;> simp
  · intro i x r hi hx _
    have h1 : (0 : Int) ≤ i ∧ (i : Int) < (l.length : Int) := ⟨by omega, by omega⟩
    have h2 : (0 : Int) ≤ i ∧ (i : Int) ≤ (l.length : Int) := ⟨by omega, by omega⟩
    have hg := h.get hi hx
    have htake : (l.take i).length ≤ maxLen := by simp; have := h.1; omega
    simp only [f29_b1, Int.toNat_natCast, hx, h1, h2, and_self, if_true, decide_true, cond_true, f19_eq x hg.1 hg.2, Option.bind_some, List.drop_zero, f46_eq _ x htake, cond_or, listOk]
    rcases Bool.eq_false_or_eq_true (valid x) with h3 | h3
    · rcases Bool.eq_false_or_eq_true ((l.take i).any fun t => t.f0 == x.f0) with h4 | h4
      · left; simp only [h3, h4]; rfl
      · right; simp only [h3, h4]; exact ⟨rfl, rfl⟩
    · left; simp only [h3]; rfl
  · simp [f29_b1, listOk]

/-- The reference's inner loop. -/
theorem f34_inner (l : List T31) (n : Nat) (hn : n < l.length) (h : l.length ≤ maxLen) : iter (fun q => f34_b1 l (n : Int) q) 0 = some (cond ((l.take n).any fun t => t.f0 == (l.getD n default).f0) (Out.ret false : Out Bool Unit) (Out.go ())) := by
  have hlen : (l.take n).length = n := by simp; omega
  have := iter_list (l.take n) (by omega) (fun q => f34_b1 l (n : Int) q) (fun r _ => cond (r.any fun t => t.f0 == (l.getD n default).f0) (Out.ret false : Out Bool Unit) (Out.go ())) ?_ ?_
  · exact this
  · intro i x r hi hx _
    have hi' : i < n := by omega
    have h1 : (0 : Int) ≤ i ∧ (i : Int) < (l.length : Int) ∧ (0 : Int) ≤ n ∧ (n : Int) < (l.length : Int) := ⟨by omega, by omega, by omega, by omega⟩
    have hd : decide ((i : Int) < (n : Int)) = true := by simpa using hi'
    have hx' : l.getD i default = x := by
      rw [← hx]; simp only [List.getD_eq_getElem?_getD, List.getElem?_take, hi', if_true]
    simp only [f34_b1, Int.toNat_natCast, hx', hd, h1, and_self, if_true, cond_true, List.any_cons]
    rcases Bool.eq_false_or_eq_true (x.f0 == (l.getD n default).f0) with h3 | h3
    · left; simp only [h3]; rfl
    · right; simp only [h3]; exact ⟨rfl, rfl⟩
  · rw [hlen]; simp [f34_b1]

theorem f34_eq (l : List T31) (h : Small l) : f34 l = some (isListB l) := by
  have hl := iter_list l h.1 (fun i => f34_b2 l i) (fun r i => cond (listOk l r i) (Out.go () : Out Bool Unit) (Out.ret false)) ?_ ?_
  · unfold f34 isListB
    rw [hl]
    cases listOk l l 0 <;> simp
  · intro i x r hi hx _
    have h1 : (0 : Int) ≤ i ∧ (i : Int) < (l.length : Int) := ⟨by omega, by omega⟩
    have hg := h.get hi hx
    simp only [f34_b2, Int.toNat_natCast, hx, h1, and_self, if_true, decide_true, cond_true, f20_eq x hg.1 hg.2, ← valid_eq, Option.bind_some, f34_inner l i hi h.1, listOk]
    rcases Bool.eq_false_or_eq_true (valid x) with h3 | h3
    · rcases Bool.eq_false_or_eq_true ((l.take i).any fun t => t.f0 == x.f0) with h4 | h4
      · left; simp only [h3, h4]; rfl
      · right; simp only [h3, h4]; exact ⟨rfl, rfl⟩
    · left; simp only [h3]; rfl
  · simp [f34_b2, listOk]

end Go.Sx.gen
