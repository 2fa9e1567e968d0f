/- The statement that a call means the same in whatever order the specifics stand; no condition. -/
import Derived.Test.YtpkoebbjnfpifaaGxP16
namespace Go.Sx.gen
open Go Go.Sx

theorem getD_in {l : List T31} {n : Nat} (h : n < l.length) : l.getD n default ∈ l := by
  rw [List.getD_eq_getElem?_getD, List.getElem?_eq_getElem h]; exact List.getElem_mem h

theorem mem_getD {l : List T31} {x : T31} (h : x ∈ l) : ∃ n, n < l.length ∧ l.getD n default = x := by
  obtain ⟨n, hn, rfl⟩ := List.getElem_of_mem h
  exact ⟨n, hn, by simp [List.getD_eq_getElem?_getD, hn]⟩

theorem same_name {l m : List T31} (h : l.Perm m) (hs : ∀ s ∈ l, Short s) {call : List T48} (h0 : (resAns l call).2 = 0) :
    ∃ n k : Nat, resAns l call = ((n : Int), 0) ∧ n < l.length ∧ resAns m call = ((k : Int), 0) ∧ k < m.length ∧ l.getD n default = m.getD k default := by
  have hm : ∀ s ∈ m, Short s := fun s hs' => hs s (h.mem_iff.2 hs')
  obtain ⟨_, _, n, e1, n1, f1, u1⟩ := resAns_ok hs h0
  obtain ⟨_, _, k, e2, n2, f2, u2⟩ := resAns_ok hm (show (resAns m call).2 = 0 by rw [← res_perm h]; exact h0)
  refine ⟨n, k, e1, n1, e2, n2, ?_⟩
  obtain ⟨j, hj, ej⟩ := mem_getD (h.mem_iff.2 (getD_in n2))
  obtain ⟨i, hi, ei⟩ := mem_getD (h.mem_iff.1 (getD_in n1))
  by_cases hjn : j = n
  · rw [← hjn]; exact ej
  · have a := u1 j hj hjn (by rw [ej]; exact f2)
    by_cases hik : i = k
    · rw [← hik]; exact ei.symm
    · have b := u2 i hi hik (by rw [ei]; exact f1)
      rw [ej] at a
      rw [a.2] at b
      cases b.1

theorem turned {l m : List T31} (h : l.Perm m) (hl : l.length ≤ maxLen) (hs : ∀ s ∈ l, Short s) (call : List T48) (hc : call.length ≤ maxLen) : f6_j1 l call m = some true := by
  have hm : ∀ s ∈ m, Short s := fun s hs' => hs s (h.mem_iff.2 hs')
  have hml : m.length ≤ maxLen := by rw [← h.length_eq]; exact hl
  unfold f6_j1
  rw [f17_eq l hl hs, f17_eq m hml hm, f12_eq l hl hs call hc, f12_eq m hml hm call hc, awake]
  simp only [Option.bind_some, check_perm h, beq_self_eq_true, cond_true, res_perm h call]
  rcases Bool.eq_false_or_eq_true ((resAns m call).2 != (0 : Int)) with h0 | h0
  · rw [h0]; rfl
  · rw [h0]
    have h0' : (resAns l call).2 = 0 := by rw [res_perm h]; simpa using h0
    obtain ⟨n, k, e1, n1, e2, n2, e3⟩ := same_name h hs h0'
    rw [e1, e2]
    simp only [cond_false]
    rw [if_pos ⟨by omega, by omega, by omega, by omega⟩, Int.toNat_natCast, Int.toNat_natCast, e3, beq_self_eq_true]
    rfl

theorem swapped (l : List T31) {i j : Nat} (hi : i < l.length) (hj : j < l.length) : ((l.set i (l.getD j default)).set j (l.getD i default)).Perm l := by
  simp only [List.getD_eq_getElem?_getD, List.getElem?_eq_getElem hi, List.getElem?_eq_getElem hj, Option.getD_some]
  exact List.set_set_perm hi hj

theorem turning (l : List T31) (hl : l.length ≤ 100) (t : Int) (m : List T31) (hm : m.Perm l) :
    ∃ x, iter (fun s => f6_b2 l t s.1 s.2) (m, (0 : Int)) = some x ∧ ∃ v, x = .go v ∧ v.Perm l := by
  refine iter_ind (fun s => f6_b2 l t s.1 s.2) (fun s => s.1.Perm l ∧ 0 ≤ s.2 ∧ s.2 ≤ (l.length : Int)) (fun s => (l.length - s.2).toNat) (fun _ x => ∃ v, x = .go v ∧ v.Perm l) ?_ (m, 0) ⟨hm, by simp, by simp⟩
  rintro ⟨v, i⟩ ⟨hv, h0, h1⟩
  have hlen := hv.length_eq
  simp only at hv h0 h1 hlen ⊢
  have e2 : Int.tdiv (l.length : Int) 2 = ((l.length / 2 : Nat) : Int) := by rw [Int.tdiv_eq_ediv_of_nonneg (by omega)]; omega
  simp only [f6_b2, List.nil_append, e2, cond_and, Option.bind_some]
  rw [w64_id (n := ((l.length / 2 : Nat) : Int)) (by omega) (by omega)]
  rcases Bool.eq_false_or_eq_true ((Int.tmod t 2 != 0) && decide (i < ((l.length / 2 : Nat) : Int))) with hb | hb
  · left
    rw [hb]
    simp only [Bool.and_eq_true, decide_eq_true_eq] at hb
    obtain ⟨k, rfl⟩ : ∃ k : Nat, i = (k : Int) := ⟨i.toNat, by omega⟩
    have hk : k < l.length / 2 := by omega
    have e3 : w64 (w64 ((l.length : Int) - 1) - (k : Int)) = ((l.length - 1 - k : Nat) : Int) := by
      rw [w64_id (n := (l.length : Int) - 1) (by omega) (by omega), w64_id (by omega) (by omega)]; omega
    have e4 : w64 ((k : Int) + 1) = ((k + 1 : Nat) : Int) := by rw [w64_id (by omega) (by omega)]; omega
    rw [e3, e4]
    simp only [cond_true, List.length_set, Int.toNat_natCast]
    rw [if_pos ⟨by omega, by omega, by omega, by omega⟩, if_pos ⟨by omega, by omega⟩, if_pos ⟨by omega, by omega⟩]
    refine ⟨_, rfl, ⟨(swapped v (by omega) (by omega)).trans hv, ?_, ?_⟩, ?_, fun x hx => hx⟩
    · simp only; omega
    · simp only; omega
    · simp only; omega
  · right
    rw [hb]
    exact ⟨_, rfl, v, rfl, hv⟩

namespace Pure
theorem GenericOrders : LawGenericOrders := by
  intro l call t hl0 hc0 _
  have hl : l.length ≤ maxLen := hl0.1
  have hc : call.length ≤ maxLen := hc0.1
  unfold f6
  rw [f10_eq l hl, awake]
  simp only [Option.bind_some, cond_or]
  rcases Bool.eq_false_or_eq_true (long l || decide ((call.length : Int) > 100)) with h | h
  · rw [h]; rfl
  · rw [h]
    simp only [Bool.or_eq_false_iff] at h
    have hs : ∀ s ∈ l, Short s := fun s hm => short_of h.1 hm
    have h100 : l.length ≤ 100 := by
      have := h.1
      simp only [long, Bool.or_eq_false_iff, decide_eq_false_iff_not] at this
      omega
    simp only [cond_false, List.nil_append, List.length_nil, Nat.zero_add, Int.toNat_natCast, List.take_length, List.drop_zero]
    rw [if_pos (by omega)]
    rcases Bool.eq_false_or_eq_true (decide ((l.length : Int) > 0)) with hp | hp
    · rw [hp]
      simp only [decide_eq_true_eq] at hp
      simp only [cond_true]
      have b1 := Int.tmod_lt_of_pos t hp
      have b2 := Int.lt_tmod_of_pos t hp
      rw [w64_id (n := Int.tmod t (l.length : Int) + (l.length : Int)) (by omega) (by omega)]
      have b3 : (0 : Int) ≤ Int.tmod (Int.tmod t (l.length : Int) + (l.length : Int)) (l.length : Int) := Int.tmod_nonneg _ (by omega)
      have b4 := Int.tmod_lt_of_pos (Int.tmod t (l.length : Int) + (l.length : Int)) hp
      generalize hk : Int.tmod (Int.tmod t (l.length : Int) + (l.length : Int)) (l.length : Int) = k at b3 b4
      obtain ⟨n, rfl⟩ : ∃ n : Nat, k = (n : Int) := ⟨k.toNat, by omega⟩
      simp only [Int.toNat_natCast]
      rw [if_pos ⟨by omega, by omega⟩, if_pos ⟨by omega, by omega⟩, if_pos ⟨by omega, by omega⟩, if_pos (by simp; omega), if_pos (by simp; omega)]
      have hperm : (l.drop n ++ l.take n).Perm l := by
        have := List.perm_append_comm (l₁ := l.drop n) (l₂ := l.take n)
        rwa [List.take_append_drop] at this
      obtain ⟨x, hx, v, rfl, hv⟩ := turning l h100 t _ hperm
      rw [hx]
      exact turned hv.symm hl hs call hc
    · rw [hp]
      exact turned (.refl l) hl hs call hc
end Pure
end Go.Sx.gen
