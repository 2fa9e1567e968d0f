/- Plain laws of the printed functions: the statement on calls that fit two; no condition. -/
import Derived.Test.YtpkoebbjnfpifaaGxP8
namespace Go.Sx.gen
open Go Go.Sx

/-- What fits the call at each place fits the witness. -/
theorem fits_meet (ds es : List T48) (call : List T48) (a b : T31) (n : Nat) (hds : ds = a.f1 ∨ ds = b.f1)
    (hk : ∀ j, j < n → (call.getD j default).f0 = (a.f1.getD j default).f0 ∧ (call.getD j default).f0 = (b.f1.getD j default).f0)
    (hr : ∀ j, j < n → rk (a.f1.getD j default).f1 (b.f1.getD j default).f1 = 0 ∨ rk (a.f1.getD j default).f1 (b.f1.getD j default).f1 = (call.getD j default).f1)
    (hd : ∀ j, j < n → (ds.getD j default).f1 ≥ 0 → rk (a.f1.getD j default).f1 (b.f1.getD j default).f1 = (ds.getD j default).f1) :
    ∀ (m i : Nat) (k k' : Int), i + m = n → (k' > 0 → k' = k) → (call.drop i).length = m → fits2 ds (call.drop i) i k = true → fits2 ds ((List.range' i m).map (wit a b)) i k' = true := by
  intro m
  induction m with
  | zero => intro i k k' _ _ _ _; rfl
  | succ m ih =>
    intro i k k' hi hkk hlen h
    have hlt : i < call.length := by simp at hlen; omega
    have hdrop : call.drop i = call[i] :: call.drop (i + 1) := List.drop_eq_getElem_cons hlt
    have hget : call.getD i default = call[i] := by simp [List.getD_eq_getElem?_getD, hlt]
    rw [hdrop] at h
    rw [List.range'_succ, List.map_cons]
    simp only [fits2] at h ⊢
    obtain ⟨hk1, hk2⟩ := hk i (by omega)
    have hri := hr i (by omega)
    have hdi := hd i (by omega)
    rw [hget] at hk1 hk2 hri
    have hf0 : (wit a b i).f0 = (ds.getD i default).f0 := by
      show (a.f1.getD i default).f0 = _
      rcases hds with rfl | rfl
      · rfl
      · rw [← hk1, hk2]
    have hw : (wit a b i).f1 = rk (a.f1.getD i default).f1 (b.f1.getD i default).f1 := rfl
    have hlen' : (call.drop (i + 1)).length = m := by simp at hlen ⊢; omega
    have e1 : (((ds.getD i default).f0 != (wit a b i).f0) || (decide ((ds.getD i default).f1 ≥ 0) && ((ds.getD i default).f1 != (wit a b i).f1))) = false := by
      rw [hf0, hw]
      simp only [bne_self_eq_false, Bool.false_or, Bool.and_eq_false_iff, decide_eq_false_iff_not]
      by_cases hp : (ds.getD i default).f1 ≥ 0
      · right; rw [hdi hp]; simp
      · left; exact hp
    rw [e1]
    simp only [cond_false]
    rcases Bool.eq_false_or_eq_true (((ds.getD i default).f0 != call[i].f0) || (decide ((ds.getD i default).f1 ≥ 0) && ((ds.getD i default).f1 != call[i].f1))) with c1 | c1
    · rw [c1] at h; cases h
    · rw [c1] at h
      simp only [cond_false] at h
      rcases Bool.eq_false_or_eq_true (decide ((ds.getD i default).f1 < 0) && decide (call[i].f1 > 0)) with c2 | c2
      · rw [c2] at h
        rcases Bool.eq_false_or_eq_true (decide (k > 0) && (k != call[i].f1)) with c3 | c3
        · rw [c3] at h; cases h
        · rw [c3] at h
          simp only [cond_true, cond_false] at h
          simp only [Bool.and_eq_true, decide_eq_true_eq] at c2
          have hkc : k > 0 → k = call[i].f1 := by
            intro hp
            simp only [Bool.and_eq_false_iff, decide_eq_false_iff_not] at c3
            rcases c3 with c3 | c3
            · exact absurd hp c3
            · simpa using c3
          rcases hri with h0 | h1
          · have e2 : (decide ((ds.getD i default).f1 < 0) && decide ((wit a b i).f1 > 0)) = false := by
              rw [hw, h0]; simp
            rw [e2]
            simp only [cond_false]
            exact ih (i + 1) call[i].f1 k' (by omega) (fun hp => by have := hkk hp; have := hkc (by omega); omega) hlen' h
          · have e2 : (decide ((ds.getD i default).f1 < 0) && decide ((wit a b i).f1 > 0)) = true := by
              rw [hw, h1]; simp only [Bool.and_eq_true, decide_eq_true_eq]; exact c2
            rw [e2]
            simp only [cond_true]
            have e3 : (decide (k' > 0) && (k' != (wit a b i).f1)) = false := by
              rw [hw, h1]
              simp only [Bool.and_eq_false_iff, decide_eq_false_iff_not]
              by_cases hp : k' > 0
              · right
                have := hkk hp
                have := hkc (by omega)
                simp; omega
              · left; exact hp
            rw [e3]
            simp only [cond_false, hw, h1]
            exact ih (i + 1) call[i].f1 call[i].f1 (by omega) (fun _ => rfl) hlen' h
      · rw [c2] at h
        simp only [cond_false] at h
        have e2 : (decide ((ds.getD i default).f1 < 0) && decide ((wit a b i).f1 > 0)) = false := by
          rw [hw]
          simp only [Bool.and_eq_false_iff, decide_eq_false_iff_not] at c2 ⊢
          rcases c2 with c2 | c2
          · left; exact c2
          · right
            rcases hri with h0 | h1
            · omega
            · omega
        rw [e2]
        simp only [cond_false]
        exact ih (i + 1) k k' (by omega) hkk hlen' h

theorem fits2_at (ds : List T48) (call : List T48) : ∀ (m i : Nat) (k : Int), (call.drop i).length = m → fits2 ds (call.drop i) i k = true → ∀ j, i ≤ j → j < call.length →
    (ds.getD j default).f0 = (call.getD j default).f0 ∧ ((ds.getD j default).f1 ≥ 0 → (ds.getD j default).f1 = (call.getD j default).f1) := by
  intro m
  induction m with
  | zero => intro i k hl _ j hij hj; simp at hl; omega
  | succ m ih =>
    intro i k hl h j hij hj
    have hlt : i < call.length := by simp at hl; omega
    have hdrop : call.drop i = call[i] :: call.drop (i + 1) := List.drop_eq_getElem_cons hlt
    have hget : call.getD i default = call[i] := by simp [List.getD_eq_getElem?_getD, hlt]
    rw [hdrop] at h
    simp only [fits2] at h
    have hl' : (call.drop (i + 1)).length = m := by simp at hl ⊢; omega
    rcases Bool.eq_false_or_eq_true (((ds.getD i default).f0 != call[i].f0) || (decide ((ds.getD i default).f1 ≥ 0) && ((ds.getD i default).f1 != call[i].f1))) with c1 | c1
    · rw [c1] at h; cases h
    · rw [c1] at h
      simp only [cond_false] at h
      rcases Nat.lt_or_ge i j with hlt2 | hge
      · rcases Bool.eq_false_or_eq_true (decide ((ds.getD i default).f1 < 0) && decide (call[i].f1 > 0)) with c2 | c2
        · rw [c2] at h
          rcases Bool.eq_false_or_eq_true (decide (k > 0) && (k != call[i].f1)) with c3 | c3
          · rw [c3] at h; cases h
          · rw [c3] at h; exact ih (i + 1) _ hl' h j hlt2 hj
        · rw [c2] at h; exact ih (i + 1) _ hl' h j hlt2 hj
      · obtain rfl : i = j := by omega
        rw [hget]
        simp only [Bool.or_eq_false_iff, bne_eq_false_iff_eq, Bool.and_eq_false_iff, decide_eq_false_iff_not] at c1
        exact ⟨c1.1, fun hp => by rcases c1.2 with h2 | h2; exact absurd hp h2; exact h2⟩

theorem rk_cases (x y : Int) : (rk x y = 0 ∧ x ≤ 0 ∧ y ≤ 0) ∨ (rk x y = x ∧ y ≤ x ∧ 0 ≤ x) ∨ (rk x y = y ∧ x ≤ y ∧ 0 ≤ y) := by
  have e : rk x y = max 0 (max x y) := by
    unfold rk
    have : (if y > x then y else x) = max x y := by
      by_cases h : y > x
      · rw [if_pos h]; omega
      · rw [if_neg h]; omega
    rw [this]
    by_cases h : (0 : Int) > max x y
    · rw [if_pos h]; omega
    · rw [if_neg h]; omega
  rw [e]
  omega

theorem meets {a b : T31} {call : List T48} (va : valid a = true) (vb : valid b = true) (ha : fitsB fits2 a call = true) (hb : fitsB fits2 b call = true) : fitsAt fits2 a b call.length = true := by
  obtain ⟨a1, a2, a3⟩ := fitsB_true.1 ha
  obtain ⟨b1, b2, b3⟩ := fitsB_true.1 hb
  have fa := fits2_at a.f1 call call.length 0 0 (by simp) (by simpa using a3)
  have fb := fits2_at b.f1 call call.length 0 0 (by simp) (by simpa using b3)
  have ra : ∀ j, j < call.length → (a.f1.getD j default).f1 ≥ -1 := fun j hj => by
    rw [List.getD_eq_getElem?_getD, List.getElem?_eq_getElem (show j < a.f1.length by omega)]; exact valid_rank va _ (List.getElem_mem _)
  have rb : ∀ j, j < call.length → (b.f1.getD j default).f1 ≥ -1 := fun j hj => by
    rw [List.getD_eq_getElem?_getD, List.getElem?_eq_getElem (show j < b.f1.length by omega)]; exact valid_rank vb _ (List.getElem_mem _)
  have hk : ∀ j, j < call.length → (call.getD j default).f0 = (a.f1.getD j default).f0 ∧ (call.getD j default).f0 = (b.f1.getD j default).f0 := fun j hj => ⟨(fa j (by omega) hj).1.symm, (fb j (by omega) hj).1.symm⟩
  have hr : ∀ j, j < call.length → rk (a.f1.getD j default).f1 (b.f1.getD j default).f1 = 0 ∨ rk (a.f1.getD j default).f1 (b.f1.getD j default).f1 = (call.getD j default).f1 := fun j hj => by
    have h1 := (fa j (by omega) hj).2
    have h2 := (fb j (by omega) hj).2
    have h3 := ra j hj
    have h4 := rb j hj
    rcases rk_cases (a.f1.getD j default).f1 (b.f1.getD j default).f1 with h | h | h <;> omega
  have hda : ∀ j, j < call.length → (a.f1.getD j default).f1 ≥ 0 → rk (a.f1.getD j default).f1 (b.f1.getD j default).f1 = (a.f1.getD j default).f1 := fun j hj hp => by
    have h1 := (fa j (by omega) hj).2
    have h2 := (fb j (by omega) hj).2
    have h4 := rb j hj
    rcases rk_cases (a.f1.getD j default).f1 (b.f1.getD j default).f1 with h | h | h <;> omega
  have hdb : ∀ j, j < call.length → (b.f1.getD j default).f1 ≥ 0 → rk (a.f1.getD j default).f1 (b.f1.getD j default).f1 = (b.f1.getD j default).f1 := fun j hj hp => by
    have h1 := (fa j (by omega) hj).2
    have h2 := (fb j (by omega) hj).2
    have h4 := ra j hj
    rcases rk_cases (a.f1.getD j default).f1 (b.f1.getD j default).f1 with h | h | h <;> omega
  have ka := fits_meet a.f1 b.f1 call a b call.length (.inl rfl) hk hr hda call.length 0 0 0 (by omega) (fun _ => rfl) (by simp) (by simpa using a3)
  have kb := fits_meet b.f1 a.f1 call a b call.length (.inr rfl) hk hr hdb call.length 0 0 0 (by omega) (fun _ => rfl) (by simp) (by simpa using b3)
  rw [← List.range_eq_range'] at ka kb
  simp only [fitsAt, Bool.and_eq_true, fitsB_true, firstN_length]
  exact ⟨⟨a1, a2, ka⟩, b1, b2, kb⟩

namespace Pure
theorem GenericMeets : LawGenericMeets := by
  intro a b call _ _ hcall
  have hcl : call.length ≤ maxLen := hcall.1
  unfold f8
  rw [f10_eq [a, b] (show 2 ≤ maxLen by decide), awake]
  simp only [Option.bind_some, cond_or]
  rcases Bool.eq_false_or_eq_true (long [a, b] || decide ((call.length : Int) > 100)) with hl | hl
  · rw [hl]; rfl
  · rw [hl]
    simp only [Bool.or_eq_false_iff] at hl
    have ha := short_of hl.1 (s := a) (by simp)
    have hb := short_of hl.1 (s := b) (by simp)
    simp only [cond_false, f14_eq a call ha.1 ha.len hcl, f14_eq b call hb.1 hb.len hcl, Option.bind_some, cond_or]
    rcases Bool.eq_false_or_eq_true (((((fitsAns (valid a) fits1 a call).2 != (0 : Int)) || ((fitsAns (valid b) fits1 b call).2 != (0 : Int))) || !(fitsAns (valid a) fits1 a call).1) || !(fitsAns (valid b) fits1 b call).1) with hx | hx
    · rw [hx]; rfl
    · rw [hx]
      simp only [Bool.or_eq_false_iff, Bool.not_eq_false', bne_eq_false_iff_eq] at hx
      obtain ⟨⟨⟨x1, x2⟩, x3⟩, x4⟩ := hx
      have get : ∀ s : T31, (fitsAns (valid s) fits1 s call).2 = 0 → (fitsAns (valid s) fits1 s call).1 = true → valid s = true ∧ callOk call = true ∧ fitsB fits1 s call = true := by
        intro s h1 h2
        unfold fitsAns at h1 h2
        rcases Bool.eq_false_or_eq_true (!valid s || !callOk call) with h | h
        · rw [h] at h1; cases h1
        · rw [h] at h2
          simp only [Bool.or_eq_false_iff, Bool.not_eq_false'] at h
          exact ⟨h.1, h.2, h2⟩
      obtain ⟨va, vc, fa⟩ := get a x1 x3
      obtain ⟨vb, _, fb⟩ := get b x2 x4
      rw [fitsB_eq va (callOk_rank vc)] at fa
      rw [fitsB_eq vb (callOk_rank vc)] at fb
      obtain ⟨m1, m2, m3⟩ := fitsAt_true (meets va vb fa fb)
      have hw : (witB a b).2 = true := by unfold witB; rw [if_pos ⟨by omega, m3⟩]
      have hbad : bad a b = false := by simp [bad, va, vb]
      simp only [cond_false, f23_eq a b ha hb, f21_eq a b ha hb, f15_eq, Option.bind_some, witAns, ambAns, hbad, hw, ambB, Bool.not_true, Bool.true_and, beq_self_eq_true, cond_true]
      rfl
end Pure
end Go.Sx.gen
