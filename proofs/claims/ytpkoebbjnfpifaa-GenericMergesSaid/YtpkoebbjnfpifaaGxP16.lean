/- Plain laws of the printed functions: the order of a list changes nothing; no condition. -/
import Derived.Test.YtpkoebbjnfpifaaGxP15
namespace Go.Sx.gen
open Go Go.Sx

theorem listOk_iff : ∀ (r p : List T31), listOk (p ++ r) r p.length = true ↔ (∀ s ∈ r, valid s = true) ∧ (r.Pairwise fun s t => s.f0 ≠ t.f0) ∧ ∀ s ∈ p, ∀ t ∈ r, s.f0 ≠ t.f0
  | [], p => by simp [listOk]
  | x :: r, p => by
    have ih := listOk_iff r (p ++ [x])
    rw [List.append_assoc, List.singleton_append, List.length_append, List.length_singleton] at ih
    simp only [listOk, Bool.and_eq_true, Bool.not_eq_true', ih, List.take_left]
    simp only [List.any_eq_false, beq_iff_eq, List.mem_cons, List.mem_append, List.not_mem_nil, or_false, forall_eq_or_imp, List.pairwise_cons]
    constructor
    · rintro ⟨⟨h1, h2⟩, h3, h4, h5⟩
      exact ⟨⟨h1, h3⟩, ⟨fun t ht => h5 x (.inr rfl) t ht, h4⟩, fun s hs => ⟨h2 s hs, h5 s (.inl hs)⟩⟩
    · rintro ⟨⟨h1, h3⟩, ⟨h4, h5⟩, h6⟩
      refine ⟨⟨h1, fun s hs => (h6 s hs).1⟩, h3, h5, fun s hs t ht => ?_⟩
      rcases hs with hs | rfl
      · exact (h6 s hs).2 t ht
      · exact h4 t ht

theorem isListB_iff (l : List T31) : isListB l = true ↔ (∀ s ∈ l, valid s = true) ∧ (l.Pairwise fun s t => s.f0 ≠ t.f0) ∧ (l.length : Int) ≤ 20 := by
  have := listOk_iff l []
  simp only [List.nil_append, List.length_nil, List.not_mem_nil, false_implies, implies_true, and_true] at this
  simp only [isListB, Bool.and_eq_true, decide_eq_true_eq, this, and_assoc]

theorem isListB_perm {l m : List T31} (h : l.Perm m) : isListB l = isListB m := by
  rw [Bool.eq_iff_iff, isListB_iff, isListB_iff, h.length_eq, h.pairwise_iff (fun {x y} hxy => hxy.symm)]
  simp only [h.mem_iff]

theorem rk_comm (x y : Int) : rk x y = rk y x := by
  rcases rk_cases x y with h | h | h <;> rcases rk_cases y x with h' | h' | h' <;> omega

theorem wit_comm {a b : T31} {n : Nat} (h : fitsAt fits2 a b n = true) : firstN a b n = firstN b a n := by
  simp only [fitsAt, Bool.and_eq_true, fitsB_true, firstN_length] at h
  have fb := fits2_at b.f1 (firstN a b n) (firstN a b n).length 0 0 (by simp) (by simpa using h.2.2.2)
  refine List.ext_getElem (by simp [firstN_length]) fun i h1 h2 => ?_
  rw [firstN_length] at h1
  have := (fb i (Nat.zero_le _) (by rw [firstN_length]; exact h1)).1
  simp only [List.getD_eq_getElem?_getD, List.getElem?_eq_getElem (show i < (firstN a b n).length by rw [firstN_length]; exact h1), Option.getD_some] at this
  simp only [firstN, List.getElem_map, List.getElem_range, wit, List.getD_eq_getElem?_getD] at this ⊢
  rw [← this, rk_comm]

theorem fitsAt_comm {a b : T31} {n : Nat} (h : fitsAt fits2 a b n = true) : fitsAt fits2 b a n = true := by
  have e := wit_comm h
  simp only [fitsAt, Bool.and_eq_true] at h ⊢
  rw [← e]
  exact ⟨h.2, h.1⟩

theorem ambB_true {a b : T31} : ambB a b = true ↔ needs a b ≤ most a b ∧ fitsAt fits2 a b (needs a b) = true ∧ elem a = elem b := by
  simp only [ambB, witB, Bool.and_eq_true, beq_iff_eq]
  by_cases h : needs a b ≤ most a b ∧ fitsAt fits2 a b (needs a b) = true
  · simp [h]
  · rw [if_neg h]
    simp only [Bool.false_eq_true, false_and, false_iff]
    exact fun hh => h ⟨hh.1, hh.2.1⟩

theorem ambB_comm {a b : T31} (h : ambB a b = true) : ambB b a = true := by
  rw [ambB_true] at h ⊢
  have e1 : needs b a = needs a b := by simp only [needs]; omega
  have e2 : most b a = most a b := by simp only [most]; omega
  rw [e1, e2]
  exact ⟨h.1, fitsAt_comm h.2.1, h.2.2.symm⟩

theorem pairFrom_found {l : List T31} : ∀ {r : List T31} {b : Nat}, (pairOf (pairFrom l r b)).2.2 = true → ∃ j a, b ≤ j ∧ j < b + r.length ∧ firstIn l j = some a
  | [], b, h => by cases h
  | x :: r, b, h => by
    simp only [pairFrom] at h
    cases hf : firstIn l b with
    | some a => exact ⟨b, a, Nat.le_refl _, by simp, hf⟩
    | none =>
      rw [hf] at h
      obtain ⟨j, a, h1, h2, h3⟩ := pairFrom_found h
      exact ⟨j, a, by omega, by simp only [List.length_cons]; omega, h3⟩

theorem noPair_iff (l : List T31) : (pairOf (pairFrom l l 0)).2.2 = false ↔ l.Pairwise fun a b => ambB a b = false := by
  rw [List.pairwise_iff_getElem]
  have g : ∀ i (h : i < l.length), l.getD i default = l[i] := fun i h => by simp [List.getD_eq_getElem?_getD, h]
  constructor
  · intro h i j hi hj hij
    have := noPair h hij hj
    rwa [g i hi, g j hj] at this
  · intro h
    cases hb : (pairOf (pairFrom l l 0)).2.2 with
    | false => rfl
    | true =>
      obtain ⟨j, a, _, h2, h3⟩ := pairFrom_found hb
      obtain ⟨_, h5, h6⟩ := findFrom_some h3
      simp only [List.length_take] at h5
      have hj : j < l.length := by omega
      have ha : a < l.length := by omega
      have haj : a < j := by omega
      have := h a j ha hj haj
      rw [g j hj] at h6
      simp only [Nat.sub_zero, List.getD_eq_getElem?_getD, List.getElem?_take, haj, if_true, List.getElem?_eq_getElem ha, Option.getD_some] at h6
      rw [h6] at this
      cases this

theorem pair_perm {l m : List T31} (h : l.Perm m) : (pairOf (pairFrom l l 0)).2.2 = (pairOf (pairFrom m m 0)).2.2 := by
  rw [Bool.eq_iff_iff, ← Bool.not_eq_false, ← Bool.not_eq_false, noPair_iff, noPair_iff, h.pairwise_iff]
  intro x y hxy
  cases hb : ambB y x with
  | false => rfl
  | true => rw [ambB_comm hb] at hxy; cases hxy

theorem check_perm {l m : List T31} (h : l.Perm m) : (checkAns l).2.2 = (checkAns m).2.2 := by
  unfold checkAns
  rw [isListB_perm h]
  have := pair_perm h
  revert this
  generalize pairOf (pairFrom l l 0) = x
  generalize pairOf (pairFrom m m 0) = y
  intro e
  rw [e]
  cases isListB m <;> cases y.2.2 <;> rfl

theorem findFrom_isSome {A : Type} {p : A → Bool} : ∀ {l : List A} {i : Nat}, (findFrom p l i).isSome = l.any p
  | [], _ => rfl
  | x :: l, i => by
    simp only [findFrom, List.any_cons]
    by_cases h : p x = true
    · simp [h]
    · simp only [h, if_false, Bool.false_eq_true, Bool.false_or]
      exact findFrom_isSome

theorem pick_perm {l m : List T31} (h : l.Perm m) (call : List T48) : (numOf (pick2 l call)).2 = (numOf (pick2 m call)).2 := by
  have e : ∀ t, (findFrom (takesIt call t) l 0).isSome = (findFrom (takesIt call t) m 0).isSome := fun t => by
    rw [findFrom_isSome, findFrom_isSome, h.any_eq]
  have e0 := e false
  have e1 := e true
  unfold pick2
  cases h0 : findFrom (takesIt call false) l 0 <;> cases h1 : findFrom (takesIt call false) m 0 <;> rw [h0, h1] at e0 <;> first | (cases e0; done) | skip
  · cases h2 : findFrom (takesIt call true) l 0 <;> cases h3 : findFrom (takesIt call true) m 0 <;> rw [h2, h3] at e1 <;> first | (cases e1; done) | rfl
  · rfl

theorem res_perm {l m : List T31} (h : l.Perm m) (call : List T48) : (resAns l call).2 = (resAns m call).2 := by
  unfold resAns
  rw [isListB_perm h]
  have e := pair_perm h
  have e2 := pick_perm h call
  rw [e]
  cases (!isListB m || !callOk call) <;> cases (pairOf (pairFrom m m 0)).2.2 <;> first | rfl | exact e2

end Go.Sx.gen
