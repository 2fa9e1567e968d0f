/- The statement on which specific is meant; no condition. -/
import Derived.Test.YtpkoebbjnfpifaaGxP14
namespace Go.Sx.gen
open Go Go.Sx

theorem resAns_ok {l : List T31} {call : List T48} (hs : ∀ s ∈ l, Short s) (h : (resAns l call).2 = 0) : AllOk l ∧ callOk call = true ∧ ∃ n : Nat, resAns l call = ((n : Int), 0) ∧ n < l.length ∧ fitsB fits2 (l.getD n default) call = true ∧
    ∀ j, j < l.length → j ≠ n → fitsB fits2 (l.getD j default) call = true → elem (l.getD n default) = false ∧ elem (l.getD j default) = true := by
  unfold resAns at h ⊢
  rcases Bool.eq_false_or_eq_true (!isListB l || !callOk call) with h1 | h1
  · rw [h1] at h; cases h
  · rw [h1] at h ⊢
    simp only [Bool.or_eq_false_iff, Bool.not_eq_false'] at h1
    have ok := allOk_of hs h1.1
    refine ⟨ok, h1.2, ?_⟩
    simp only [cond_false] at h ⊢
    rcases Bool.eq_false_or_eq_true (pairOf (pairFrom l l 0)).2.2 with h2 | h2
    · rw [h2] at h; cases h
    · rw [h2] at h ⊢
      simp only [cond_false] at h ⊢
      unfold pick2 at h ⊢
      cases hf : findFrom (takesIt call false) l 0 with
      | some n =>
        obtain ⟨_, h4, h5⟩ := findFrom_some hf
        simp only [takesIt, Nat.sub_zero, Bool.and_eq_true, beq_iff_eq] at h5
        refine ⟨n, rfl, by omega, h5.2, fun j hj hne fj => ⟨h5.1, ?_⟩⟩
        have := noTwo ok h2 hj (show n < l.length by omega) hne fj h5.2
        rw [h5.1] at this
        simpa using this
      | none =>
        rw [hf] at h
        simp only at h ⊢
        have hno := findFrom_none hf
        cases ht : findFrom (takesIt call true) l 0 with
        | none => rw [ht] at h; cases h
        | some n =>
          obtain ⟨_, h4, h5⟩ := findFrom_some ht
          simp only [takesIt, Nat.sub_zero, Bool.and_eq_true, beq_iff_eq] at h5
          refine ⟨n, rfl, by omega, h5.2, fun j hj hne fj => ?_⟩
          have h6 := hno j hj
          simp only [takesIt, fj, Bool.and_true] at h6
          have h7 : elem (l.getD j default) = true := by simpa using h6
          have := noTwo ok h2 hj (show n < l.length by omega) hne fj h5.2
          rw [h5.1, h7] at this
          exact absurd rfl this

theorem fitting {s : T31} {call : List T48} (o : Short s ∧ valid s = true) (hc : callOk call = true) (hl : call.length ≤ maxLen) : f14 s call = some (fitsB fits2 s call, 0) := by
  rw [f14_eq s call o.1.1 o.1.len hl, ← fitsB_eq o.2 (callOk_rank hc)]
  simp only [fitsAns, o.2, hc]
  rfl

namespace Pure
theorem GenericResolves : LawGenericResolves := by
  intro l call hl0 hc0
  have hl : l.length ≤ maxLen := hl0.1
  have hc : call.length ≤ maxLen := hc0.1
  unfold f3
  rw [f10_eq l hl, awake]
  simp only [Option.bind_some, cond_or]
  rcases Bool.eq_false_or_eq_true (long l || decide ((call.length : Int) > 100)) with h | h
  · rw [h]; rfl
  · rw [h]
    simp only [Bool.or_eq_false_iff] at h
    have hs : ∀ s ∈ l, Short s := fun s hm => short_of h.1 hm
    simp only [cond_false, f12_eq l hl hs call hc, f13_eq l hl hs call hc, Option.bind_some, bne_self_eq_false, Bool.or_self]
    rcases Bool.eq_false_or_eq_true ((resAns l call).2 != (0 : Int)) with h0 | h0
    · rw [h0]; rfl
    · rw [h0]
      have h0' : (resAns l call).2 = 0 := by simpa using h0
      obtain ⟨ok, hcall, n, hr, hn, hfit, hrest⟩ := resAns_ok hs h0'
      rw [hr]
      have hg : (0 : Int) ≤ ((n : Nat) : Int) ∧ ((n : Nat) : Int) < (l.length : Int) := ⟨by omega, by omega⟩
      have hloop : iter (fun s => f3_b1 l call ((n : Int), 0) s) 0 = some (Out.go ()) := by
        refine iter_list l hl (fun s => f3_b1 l call ((n : Int), 0) s) (fun _ _ => (Out.go () : Out Bool Unit)) ?_ ?_
        · intro i x r hi hx _
          have h1 : (0 : Int) ≤ i ∧ (i : Int) < (l.length : Int) := ⟨by omega, by omega⟩
          have hd : decide ((i : Int) < (l.length : Int)) = true := by simpa using hi
          right
          have o := ok.get hi
          simp only [f3_b1, hd, cond_true]
          rw [if_pos h1]
          simp only [Int.toNat_natCast, fitting o hcall hc, Option.bind_some, bne_self_eq_false, cond_false, if_pos hg, if_pos h1, f15_eq, cond_or, cond_and]
          have hz : ((fitsB fits2 (l.getD i default) call && (((i : Nat) : Int) != ((n : Nat) : Int))) && (elem (l.getD n default) || !elem (l.getD i default))) = false := by
            rcases Bool.eq_false_or_eq_true (fitsB fits2 (l.getD i default) call) with hf | hf
            · by_cases hin : i = n
              · subst hin; simp
              · obtain ⟨r1, r2⟩ := hrest i hi hin hf
                rw [r1, r2]; simp
            · rw [hf]; rfl
          rw [hz]
          exact ⟨rfl, trivial⟩
        · simp [f3_b1]
      simp only [cond_false, if_pos hg, Int.toNat_natCast, fitting (ok.get hn) hcall hc, hfit, Option.bind_some, bne_self_eq_false, Bool.not_true, Bool.or_self, hloop]
end Pure
end Go.Sx.gen
