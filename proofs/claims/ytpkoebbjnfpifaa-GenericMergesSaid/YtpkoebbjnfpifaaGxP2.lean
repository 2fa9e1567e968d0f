/- Plain laws of the printed functions; no condition. -/
import Derived.Test.YtpkoebbjnfpifaaGxP1
namespace Go.Sx.gen
open Go Go.Sx

/-- The first that p takes, from i on. -/
def findFrom {A : Type} (p : A → Bool) : List A → Nat → Option Nat
  | [], _ => none
  | x :: r, i => if p x then some i else findFrom p r (i + 1)

def outOf : Option Nat → Out Int Unit
  | some i => .ret ((i : Nat) : Int)
  | none => .go ()

def idx : Option Nat → Int
  | some i => ((i : Nat) : Int)
  | none => -1

theorem index_eq {A : Type} [Inhabited A] (l : List A) (h : l.length ≤ maxLen) (f : A → Option Bool) (p : A → Bool) (hp : ∀ x, f x = some (p x)) (b : Int → Option (Int ⊕ Out Int Unit))
    (hb : ∀ i, b i = cond (decide (i < (l.length : Int))) (if (0 : Int) ≤ i ∧ i < (l.length : Int) then (f (l.getD i.toNat default)).bind fun v3 => cond v3 (some (.inr (.ret i))) (some (.inl (w64 (i + (1 : Int))))) else none) (some (.inr (.go ())))) :
    iter b 0 = some (outOf (findFrom p l 0)) := by
  refine iter_list l h b (fun r i => outOf (findFrom p r i)) ?_ ?_
  · intro i x r hi hx _
    have h1 : (0 : Int) ≤ i ∧ (i : Int) < (l.length : Int) := ⟨by omega, by omega⟩
    simp only [hb, Int.toNat_natCast, hx, h1, and_self, if_true, decide_true, cond_true, hp, Option.bind_some]
    cases hpx : p x with
    | true => left; simp [findFrom, hpx, outOf]
    | false => right; simp [findFrom, hpx]
  · simp [hb, findFrom, outOf]

theorem findFrom_any {A : Type} (p : A → Bool) : ∀ (l : List A) (i : Nat), decide (idx (findFrom p l i) ≥ 0) = l.any p
  | [], i => by simp [findFrom, idx]
  | x :: r, i => by
    simp only [findFrom, List.any_cons]
    by_cases hp : p x = true
    · simp [idx, hp]
    · simp only [hp, if_false, Bool.false_or, Bool.false_eq_true]
      exact findFrom_any p r (i + 1)

def minusOne (d : T48) : Bool := d.f1 == (-1 : Int)

theorem f54_eq (d : T48) : f54 d = some (minusOne d) := rfl

theorem f65_54_eq (l : List T48) (h : l.length ≤ maxLen) : f65_54 l = some (idx (findFrom minusOne l 0)) := by
  unfold f65_54
  rw [index_eq l h f54 minusOne f54_eq (fun s => f65_54_b1 l s) (fun i => rfl)]
  cases findFrom minusOne l 0 <;> rfl

theorem f32_eq (s : T31) (h : s.f1.length ≤ maxLen) : f32 s = some (s.f1.any minusOne) := by
  simp only [f32, f52_54, f65_54_eq _ h, Option.bind_some, findFrom_any]

def dummyOk (d : T48) (least : Int) : Bool := ((decide (d.f0 ≥ 1) && decide (d.f0 ≤ 4)) && decide (d.f1 ≥ least)) && decide (d.f1 ≤ 3)

theorem f39_eq (d : T48) (n : Int) : f39 d n = some (dummyOk d n) := by simp only [f39, cond_and, Option.bind_some, dummyOk]

theorem f53_eq (d : T48) : f53 d = some (!dummyOk d 0) := by simp only [f53, f39_eq, Option.bind_some]

theorem f65_53_eq (l : List T48) (h : l.length ≤ maxLen) : f65_53 l = some (idx (findFrom (fun d => !dummyOk d 0) l 0)) := by
  unfold f65_53
  rw [index_eq l h f53 _ f53_eq (fun s => f65_53_b1 l s) (fun i => rfl)]
  cases findFrom (fun d => !dummyOk d 0) l 0 <;> rfl

def callOk (l : List T48) : Bool := decide ((l.length : Int) ≤ 8) && l.all (fun d => dummyOk d 0)

theorem any_not {A : Type} (l : List A) (p : A → Bool) : (!l.any fun x => !p x) = l.all p := by
  induction l with
  | nil => rfl
  | cons x r ih => simp only [List.any_cons, List.all_cons, ← ih]; cases p x <;> simp

theorem f30_eq (l : List T48) (h : l.length ≤ maxLen) : f30 l = some (callOk l) := by
  simp only [f30, f52_53, f65_53_eq l h, Option.bind_some, findFrom_any, any_not, cond_and, callOk]

theorem f35_eq (l : List T48) (h : l.length ≤ maxLen) : f35 l = some (callOk l) := by
  have hl := iter_list l h (fun i => f35_b1 l i) (fun r _ => cond (r.all (fun d => dummyOk d 0)) (Out.go () : Out Bool Unit) (Out.ret false)) ?_ ?_
  · unfold f35 callOk
    rw [hl]
    cases l.all (fun d => dummyOk d 0) <;> simp
  · intro i x r hi hx _
    have h1 : (0 : Int) ≤ i ∧ (i : Int) < (l.length : Int) := ⟨by omega, by omega⟩
    simp only [f35_b1, Int.toNat_natCast, hx, h1, and_self, if_true, decide_true, cond_true, cond_or, Option.bind_some]
    have : (decide (x.f0 < 1) || decide (x.f0 > 4) || decide (x.f1 < 0) || decide (x.f1 > 3)) = !dummyOk x 0 := by
      rw [Bool.eq_iff_iff]
      simp only [dummyOk, Bool.or_eq_true, Bool.not_eq_true', Bool.and_eq_false_iff, decide_eq_true_eq, decide_eq_false_iff_not]
      omega
    rw [this]
    cases hb : dummyOk x 0 with
    | true => right; simp [hb]
    | false => left; simp [hb]
  · simp [f35_b1]

/-! ### Valid -/

def optOk : Bool → List T48 → Bool
  | _, [] => true
  | p, d :: r => !(p && !d.f2) && optOk d.f2 r

def okFrom (q : T48 → Bool) : Bool → List T48 → Bool
  | _, [] => true
  | p, d :: r => (q d && !(p && !d.f2)) && okFrom q d.f2 r

def q1 (E : Bool) (d : T48) : Bool := dummyOk d (-1) && !(E && (d.f1 != (-1 : Int)))
def q2 (E : Bool) (d : T48) : Bool := dummyOk d (-1) && ((d.f1 == (-1 : Int)) == E)

def prevAt (l : List T48) (i : Nat) : Bool := decide (0 < i) && (l.getD (i - 1) default).f2

def valid (s : T31) : Bool := (nameOk s.f0 && decide ((s.f1.length : Int) ≤ 8)) && okFrom (q1 (s.f1.any minusOne)) false s.f1

theorem f19_eq (s : T31) (h0 : s.f0.length ≤ maxLen) (h : s.f1.length ≤ maxLen) : f19 s = some (valid s) := by
  have hm := maxLen_le
  have hl := iter_list s.f1 h (fun i => f19_b1 s i) (fun r i => cond (okFrom (q1 (s.f1.any minusOne)) (prevAt s.f1 i) r) (Out.go () : Out Bool Unit) (Out.ret false)) ?_ ?_
  · unfold f19 valid
    rw [hl, f38_eq _ h0]
    simp only [Option.bind_some, cond_or]
    have e : prevAt s.f1 0 = false := rfl
    rw [e]
    have hd : decide ((s.f1.length : Int) ≤ 8) = !decide ((s.f1.length : Int) > 8) := by
      rw [Bool.eq_iff_iff]; simp only [decide_eq_true_eq, Bool.not_eq_true', decide_eq_false_iff_not]; omega
    rw [hd]
    cases nameOk s.f0 <;> cases decide ((s.f1.length : Int) > 8) <;> cases okFrom (q1 (s.f1.any minusOne)) false s.f1 <;> rfl
  · intro i x r hi hx _
    have h1 : (0 : Int) ≤ i ∧ (i : Int) < (s.f1.length : Int) := ⟨by omega, by omega⟩
    have hn : prevAt s.f1 (i + 1) = x.f2 := by simp only [prevAt, Nat.add_sub_cancel, hx]; simp
    simp only [f19_b1, Int.toNat_natCast, hx, h1, and_self, if_true, decide_true, cond_true, f39_eq, f32_eq s h, Option.bind_some, cond_and, cond_or]
    have hp : (cond (decide ((i : Int) > 0)) (if (0 : Int) ≤ w64 ((i : Int) - 1) ∧ w64 ((i : Int) - 1) < (s.f1.length : Int) then some ((s.f1.getD (Int.toNat (w64 ((i : Int) - 1))) default).f2) else none) (some false)) = some (prevAt s.f1 i) := by
      by_cases hi0 : 0 < i
      · have hw : w64 ((i : Int) - 1) = ((i - 1 : Nat) : Int) := by rw [w64_id (by omega) (by omega)]; omega
        rw [hw, if_pos ⟨by omega, by omega⟩]
        have : decide ((i : Int) > 0) = true := by simpa using hi0
        rw [this]
        simp [prevAt, hi0]
      · obtain rfl : i = 0 := by omega
        rfl
    rw [hp]
    simp only [Option.bind_some, cond_and, cond_or]
    have : ((!dummyOk x (-1) || (s.f1.any minusOne && (x.f1 != (-1 : Int)))) || (prevAt s.f1 i && !x.f2)) = !(q1 (s.f1.any minusOne) x && !(prevAt s.f1 i && !x.f2)) := by
      simp only [q1]
      cases dummyOk x (-1) <;> cases (s.f1.any minusOne && (x.f1 != (-1 : Int))) <;> cases (prevAt s.f1 i && !x.f2) <;> rfl
    rw [this]
    simp only [okFrom, hn]
    rcases Bool.eq_false_or_eq_true (q1 (s.f1.any minusOne) x && !(prevAt s.f1 i && !x.f2)) with hb | hb
    · right; rw [hb]; simp
    · left; rw [hb]; simp
  · simp [f19_b1, okFrom]

/-! ### The reference's -/

def elem (s : T31) : Bool := decide ((s.f1.length : Int) > 0) && ((s.f1.getD 0 default).f1 == (-1 : Int))

theorem f15_eq (s : T31) : f15 s = some (elem s) := by
  unfold f15 elem
  by_cases h : (0 : Int) < (s.f1.length : Int)
  · rw [if_pos h, cond_and]; rfl
  · rw [show decide ((s.f1.length : Int) > 0) = false from by simpa using h]; rfl

def valid2 (s : T31) : Bool := (nameOk s.f0 && decide ((s.f1.length : Int) ≤ 8)) && okFrom (q2 (elem s)) false s.f1

theorem f20_eq (s : T31) (h0 : s.f0.length ≤ maxLen) (h : s.f1.length ≤ maxLen) : f20 s = some (valid2 s) := by
  have hl := iter_listS s.f1 h (fun q => f20_b1 s q.1 q.2) (fun r _ b => cond (okFrom (q2 (elem s)) b r) (Out.go () : Out Bool Unit) (Out.ret false)) ?_ ?_ false
  · unfold f20 valid2
    rw [hl, f40_eq _ h0]
    simp only [Option.bind_some, cond_or]
    have hd : decide ((s.f1.length : Int) ≤ 8) = !decide ((s.f1.length : Int) > 8) := by
      rw [Bool.eq_iff_iff]; simp only [decide_eq_true_eq, Bool.not_eq_true', decide_eq_false_iff_not]; omega
    rw [hd]
    cases nameOk s.f0 <;> cases decide ((s.f1.length : Int) > 8) <;> cases okFrom (q2 (elem s)) false s.f1 <;> rfl
  · intro i x r b hi hx _
    have h1 : (0 : Int) ≤ i ∧ (i : Int) < (s.f1.length : Int) := ⟨by omega, by omega⟩
    simp only [f20_b1, Int.toNat_natCast, hx, h1, and_self, if_true, decide_true, cond_true, f15_eq, Option.bind_some, cond_and, cond_or]
    have : (decide (x.f0 < 1) || (decide (x.f0 > 4) || (decide (x.f1 < -1) || (decide (x.f1 > 3) || (!((x.f1 == (-1 : Int)) == elem s) || (b && !x.f2)))))) = !(q2 (elem s) x && !(b && !x.f2)) := by
      have e : dummyOk x (-1) = !(decide (x.f0 < 1) || (decide (x.f0 > 4) || (decide (x.f1 < -1) || decide (x.f1 > 3)))) := by
        rw [Bool.eq_iff_iff]
        simp only [dummyOk, Bool.and_eq_true, Bool.not_eq_true', Bool.or_eq_false_iff, decide_eq_true_eq, decide_eq_false_iff_not]
        omega
      simp only [q2, e]
      cases decide (x.f0 < 1) <;> cases decide (x.f0 > 4) <;> cases decide (x.f1 < -1) <;> cases decide (x.f1 > 3) <;> cases ((x.f1 == (-1 : Int)) == elem s) <;> cases (b && !x.f2) <;> rfl
    rw [this]
    simp only [okFrom]
    rcases Bool.eq_false_or_eq_true (q2 (elem s) x && !(b && !x.f2)) with hb | hb
    · right; rw [hb]; exact ⟨x.f2, by simp, by simp⟩
    · left; rw [hb]; simp
  · intro b; simp [f20_b1, okFrom]

theorem okFrom_split (q : T48 → Bool) : ∀ (p : Bool) (l : List T48), okFrom q p l = (l.all q && optOk p l)
  | _, [] => rfl
  | p, d :: r => by
    simp only [okFrom, optOk, List.all_cons, okFrom_split q d.f2 r]
    cases q d <;> cases (!(p && !d.f2)) <;> cases r.all q <;> simp

theorem all_q (l : List T48) : l.all (q1 (l.any minusOne)) = l.all (q2 (decide ((l.length : Int) > 0) && ((l.getD 0 default).f1 == (-1 : Int)))) := by
  cases l with
  | nil => rfl
  | cons d r =>
    have e : (decide (((d :: r).length : Int) > 0) && (((d :: r).getD 0 default).f1 == (-1 : Int))) = minusOne d := by
      have : decide (((d :: r).length : Int) > 0) = true := by simp
      rw [this]; rfl
    rw [e]
    rcases Bool.eq_false_or_eq_true ((d :: r).any minusOne) with hE | hE
    · -- one of them is of any rank
      rw [hE]
      rw [Bool.eq_iff_iff, List.all_eq_true, List.all_eq_true]
      constructor
      · intro h x hx
        have hd : minusOne d = true := by
          have := h d (by simp)
          simp only [q1, Bool.true_and, Bool.and_eq_true, Bool.not_eq_true'] at this
          simpa [minusOne] using this.2
        have := h x hx
        simp only [q1, Bool.true_and, Bool.and_eq_true, Bool.not_eq_true'] at this
        simp only [q2, hd, Bool.and_eq_true]
        exact ⟨this.1, by simpa [minusOne] using this.2⟩
      · intro h x hx
        have hd : minusOne d = true := by
          rw [List.any_eq_true] at hE
          obtain ⟨y, hy, hym⟩ := hE
          have := h y hy
          simp only [q2, Bool.and_eq_true] at this
          have h2 := this.2
          have hym' : (y.f1 == (-1 : Int)) = true := hym
          rw [hym'] at h2
          simpa using h2
        have := h x hx
        simp only [q2, hd, Bool.and_eq_true] at this
        simp only [q1, Bool.true_and, Bool.and_eq_true, Bool.not_eq_true']
        exact ⟨this.1, by simpa using this.2⟩
    · rw [hE]
      have hd : minusOne d = false := by
        simp only [List.any_cons, Bool.or_eq_false_iff] at hE; exact hE.1
      rw [hd]
      rw [Bool.eq_iff_iff, List.all_eq_true, List.all_eq_true]
      have hx' : ∀ x ∈ d :: r, (x.f1 == (-1 : Int)) = false := by
        intro x hx
        rw [List.any_eq_false] at hE
        simpa [minusOne] using hE x hx
      constructor
      · intro h x hx
        have := h x hx
        simp only [q1, Bool.false_and, Bool.not_false, Bool.and_true] at this
        simp [q2, this, hx' x hx]
      · intro h x hx
        have := h x hx
        simp only [q2, Bool.and_eq_true] at this
        simp [q1, this.1]

theorem valid_eq (s : T31) : valid s = valid2 s := by
  simp only [valid, valid2, okFrom_split, all_q, elem]

end Go.Sx.gen
