/- Plain laws of the printed functions: equal specifics, and two lists as one; no condition. -/
import Derived.Test.YtpkoebbjnfpifaaGxP17
namespace Go.Sx.gen
open Go Go.Sx

def sameD (a b : T48) : Bool := (a.f0 == b.f0) && ((a.f1 == b.f1) && (a.f2 == b.f2))

def sameL : List T48 → List T48 → Bool
  | [], [] => true
  | a :: r, b :: r' => sameD a b && sameL r r'
  | _, _ => false

def sameB (a b : T31) : Bool := (a.f0 == b.f0) && sameL a.f1 b.f1

theorem sameD_iff {a b : T48} : sameD a b = true ↔ a = b := by
  obtain ⟨a0, a1, a2⟩ := a
  obtain ⟨b0, b1, b2⟩ := b
  simp [sameD]

theorem sameL_iff : ∀ {l m : List T48}, sameL l m = true ↔ l = m
  | [], [] => by simp [sameL]
  | [], b :: r => by simp [sameL]
  | a :: r, [] => by simp [sameL]
  | a :: r, b :: r' => by simp only [sameL, Bool.and_eq_true, sameD_iff, sameL_iff, List.cons.injEq]

theorem sameB_iff {a b : T31} : sameB a b = true ↔ a = b := by
  obtain ⟨a0, a1⟩ := a
  obtain ⟨b0, b1⟩ := b
  simp [sameB, sameL_iff]

theorem sameL_len {l m : List T48} (h : l.length ≠ m.length) : sameL l m = false := by
  cases hb : sameL l m with
  | false => rfl
  | true => exact absurd (by rw [sameL_iff.1 hb]) h

theorem loop_same (l m : List T48) (hl : l.length ≤ maxLen) (he : l.length = m.length) (body : Int → Option (Int ⊕ Out Bool Unit))
    (hb : ∀ v4, body v4 = cond (decide (v4 < (l.length : Int))) (if (0 : Int) ≤ v4 ∧ v4 < (l.length : Int) ∧ (0 : Int) ≤ v4 ∧ v4 < (m.length : Int) then cond (!sameD (l.getD v4.toNat default) (m.getD v4.toNat default)) (some (.inr (.ret false))) (some (.inl (w64 (v4 + (1 : Int))))) else none) (some (.inr (.go ())))) :
    iter body 0 = some (cond (sameL l m) (.go ()) (.ret false)) := by
  refine iter_list l hl body (fun r i => cond (sameL r (m.drop i)) (.go ()) (.ret false)) ?_ ?_
  · intro i x r hi hx _
    have h1 : (0 : Int) ≤ i ∧ (i : Int) < (l.length : Int) ∧ (0 : Int) ≤ i ∧ (i : Int) < (m.length : Int) := ⟨by omega, by omega, by omega, by omega⟩
    have hd : decide ((i : Int) < (l.length : Int)) = true := by simpa using hi
    have hm : i < m.length := by omega
    have hdm : m.drop i = m[i] :: m.drop (i + 1) := List.drop_eq_getElem_cons hm
    have hmg : m.getD i default = m[i] := by simp [List.getD_eq_getElem?_getD, hm]
    rw [hb, hd, cond_true, if_pos h1, Int.toNat_natCast, hx, hmg, hdm]
    simp only [sameL]
    rcases Bool.eq_false_or_eq_true (sameD x m[i]) with h | h
    · right; rw [h]; exact ⟨rfl, rfl⟩
    · left; rw [h]; rfl
  · rw [hb, he, List.drop_length]; simp [sameL]

theorem f64_eq (l m : List T48) (hl : l.length ≤ maxLen) : f64 l m = some (sameL l m) := by
  unfold f64
  by_cases he : l.length = m.length
  · have hz : ((l.length : Int) != (m.length : Int)) = false := by simp [he]
    rw [hz, cond_false, loop_same l m hl he (fun s => f64_b1 l m s) fun v => rfl]
    cases sameL l m <;> rfl
  · have hz : ((l.length : Int) != (m.length : Int)) = true := by simp; omega
    rw [hz, sameL_len he]; rfl

theorem f48_eq (a b : T31) (h : a.f1.length ≤ maxLen) : f48 a b = some (sameB a b) := by
  simp only [f48, f64_eq _ _ h, Option.bind_some, cond_and, sameB]

theorem f50_eq (a b : T31) (h : a.f1.length ≤ maxLen) : f50 a b = some (sameB a b) := by
  unfold f50 sameB
  simp only [cond_or, Option.bind_some]
  by_cases hn : a.f0 = b.f0
  · by_cases he : a.f1.length = b.f1.length
    · have hz : (!(a.f0 == b.f0) || ((a.f1.length : Int) != (b.f1.length : Int))) = false := by simp [hn, he]
      rw [hz, cond_false, loop_same a.f1 b.f1 h he (fun s => f50_b1 a b s) fun v => rfl]
      have : (a.f0 == b.f0) = true := by simp [hn]
      rw [this]
      cases sameL a.f1 b.f1 <;> rfl
    · have hz : (!(a.f0 == b.f0) || ((a.f1.length : Int) != (b.f1.length : Int))) = true := by simp; right; omega
      rw [hz, sameL_len he]; simp
  · have hz : (!(a.f0 == b.f0) || ((a.f1.length : Int) != (b.f1.length : Int))) = true := by simp [hn]
    have : (a.f0 == b.f0) = false := by simp [hn]
    rw [hz, this]; rfl

theorem f63b_eq (l : List T31) (s : T31) (h : l.length ≤ maxLen) (hs : s.f1.length ≤ maxLen) : f63_47 l s = some (idx (findFrom (fun t => sameB s t) l 0)) := by
  have hf : ∀ t, f47 t s = some (sameB s t) := fun t => by simp only [f47, f48_eq s t hs, Option.bind_some]
  unfold f63_47
  have := iter_list l h (fun i => f63_47_b1 l s i) (fun r i => outOf (findFrom (fun t => sameB s t) r i)) ?_ ?_
  · rw [this]
    cases findFrom (fun t => sameB s t) l 0 <;> rfl
  · intro i x r hi hx _
    have h1 : (0 : Int) ≤ i ∧ (i : Int) < (l.length : Int) := ⟨by omega, by omega⟩
    have hd : decide ((i : Int) < (l.length : Int)) = true := by simpa using hi
    simp only [f63_47_b1, hd, cond_true]
    rw [if_pos h1]
    simp only [Int.toNat_natCast, hx, hf, Option.bind_some]
    by_cases hp : sameB s x = true
    · left; simp only [hp, cond_true, findFrom, if_true, outOf]
    · right
      have hp' : sameB s x = false := by simpa using hp
      simp only [hp', cond_false, findFrom, Bool.false_eq_true, if_false, and_self]
  · simp [f63_47_b1, findFrom, outOf]

theorem f46b_eq (l : List T31) (s : T31) (h : l.length ≤ maxLen) (hs : s.f1.length ≤ maxLen) : f46_47 l s = some (l.any fun t => sameB s t) := by
  simp only [f46_47, f63b_eq l s h hs, Option.bind_some, findFrom_any]

/-- What is not there yet is put behind. -/
def addAll (b : List T31) : List T31 → List T31
  | [] => b
  | s :: r => cond (b.any fun t => sameB s t) (addAll b r) (addAll (b ++ [s]) r)

theorem addAll_append : ∀ (r r' b : List T31), addAll b (r ++ r') = addAll (addAll b r) r'
  | [], _, _ => rfl
  | s :: r, r', b => by
    simp only [List.cons_append, addAll]
    cases b.any fun t => sameB s t
    · exact addAll_append r r' _
    · exact addAll_append r r' _

theorem any_same {b : List T31} {s : T31} : (b.any fun t => sameB s t) = true ↔ s ∈ b := by
  simp only [List.any_eq_true, sameB_iff]
  exact ⟨fun ⟨t, h1, h2⟩ => h2 ▸ h1, fun h => ⟨s, h, rfl⟩⟩

theorem addAll_new : ∀ (l p r : List T31), (∀ s ∈ r, s ∉ p) → r.Pairwise (fun s t => s ≠ t) → addAll (l ++ p) r = l ++ p ++ r.filter (fun s => !(l.any fun t => sameB s t))
  | l, p, [], _, _ => by simp [addAll]
  | l, p, s :: r, h, hp => by
    rw [List.pairwise_cons] at hp
    simp only [addAll, List.any_append]
    have hs : (p.any fun t => sameB s t) = false := by
      cases hb : p.any fun t => sameB s t with
      | false => rfl
      | true => exact absurd (any_same.1 hb) (h s (List.mem_cons_self ..))
    rw [hs, Bool.or_false]
    cases hb : l.any fun t => sameB s t with
    | true =>
      rw [cond_true, addAll_new l p r (fun t ht => h t (List.mem_cons_of_mem _ ht)) hp.2]
      simp [hb]
    | false =>
      rw [cond_false, List.append_assoc, addAll_new l (p ++ [s]) r (fun t ht => by
        rw [List.mem_append, List.mem_singleton, not_or]
        exact ⟨h t (List.mem_cons_of_mem _ ht), fun e => hp.1 t ht e.symm⟩) hp.2]
      simp [hb]

def merged (l m : List T31) : List T31 := l ++ m.filter (fun s => !(l.any fun t => sameB s t))

theorem distinct {l : List T31} (h : isListB l = true) : l.Pairwise (fun s t => s ≠ t) :=
  ((isListB_iff l).1 h).2.1.imp fun hn e => hn (by rw [e])

theorem addAll_merged {l m : List T31} (hl : isListB l = true) (hm : isListB m = true) : addAll [] (l ++ m) = merged l m := by
  rw [addAll_append]
  have h1 := addAll_new [] [] l (fun s _ => by simp) (distinct hl)
  simp only [List.nil_append, List.any_nil, Bool.not_false] at h1
  have h2 : addAll [] l = l := by
    rw [h1]; exact List.filter_eq_self.2 fun _ _ => rfl
  rw [h2]
  have h3 := addAll_new l [] m (fun s _ => by simp) (distinct hm)
  rw [List.append_nil] at h3
  exact h3

theorem addAll_len : ∀ (r b : List T31), (addAll b r).length ≤ b.length + r.length
  | [], b => by simp [addAll]
  | s :: r, b => by
    simp only [addAll, List.length_cons]
    cases b.any fun t => sameB s t
    · have := addAll_len r (b ++ [s]); simp only [cond_false, List.length_append, List.length_singleton] at this ⊢; omega
    · have := addAll_len r b; simp only [cond_true]; omega

end Go.Sx.gen

namespace Go.Sx.gen
open Go Go.Sx

theorem f49_eq (l : List T48) (h : l.length ≤ 100) : f49 l = some l := by
  unfold f49
  rw [if_pos (by simp; omega)]
  rfl

theorem f62_eq (n : Nat) (h : n ≤ 1000) : f62_e (n : Int) = some [] := by
  have e0 : w64 ((0 : Int) - 0) = 0 := w64_id (by omega) (by omega)
  have e1 : w64 ((n : Int) - 0) = (n : Int) := by rw [w64_id (by omega) (by omega)]; omega
  unfold f62_e
  rw [e0, e1]
  have h0 : decide ((n : Int) < 0) = false := by simp
  rw [h0, cond_false]
  rcases Bool.eq_false_or_eq_true (decide ((n : Int) > 0)) with hb | hb
  · rw [hb, cond_true, if_pos ⟨by omega, by omega⟩]; rfl
  · rw [hb]; rfl

theorem f45_eq (l m : List T31) (hl : l.length ≤ 100) (hm : m.length ≤ 100) : f45 [l, m] = some (l ++ m) := by
  have e1 : iter (fun s => f45_b1 [l, m] s.1 s.2) ((0 : Int), (0 : Int)) = some (.go ((l.length + m.length : Nat) : Int)) := by
    have a1 : w64 ((0 : Int) + (l.length : Int)) = (l.length : Int) := by rw [w64_id (by omega) (by omega)]; omega
    have a2 : w64 ((l.length : Int) + (m.length : Int)) = ((l.length + m.length : Nat) : Int) := by rw [w64_id (by omega) (by omega)]; omega
    have a3 : w64 ((0 : Int) + 1) = 1 := w64_id (by omega) (by omega)
    have a4 : w64 ((1 : Int) + 1) = 2 := w64_id (by omega) (by omega)
    have s1 : f45_b1 [l, m] 0 0 = some (.inl ((l.length : Int), 1)) := by
      simp only [f45_b1, List.length_cons, List.length_nil, Nat.zero_add]
      have hd : decide ((0 : Int) < ((1 + 1 : Nat) : Int)) = true := by decide
      rw [hd, cond_true, if_pos (by decide)]
      have hn : decide (w64 ((0 : Int) + (([l, m].getD (0 : Int).toNat default).length : Int)) < 0) = false := by
        have : ([l, m].getD (0 : Int).toNat default) = l := rfl
        rw [this, a1]; simp
      rw [hn]
      have : ([l, m].getD (0 : Int).toNat default) = l := rfl
      rw [this, a1, a3]; rfl
    have s2 : f45_b1 [l, m] (l.length : Int) 1 = some (.inl (((l.length + m.length : Nat) : Int), 2)) := by
      simp only [f45_b1, List.length_cons, List.length_nil, Nat.zero_add]
      have hd : decide ((1 : Int) < ((1 + 1 : Nat) : Int)) = true := by decide
      rw [hd, cond_true, if_pos (by decide)]
      have : ([l, m].getD (1 : Int).toNat default) = m := rfl
      rw [this, a2, a4]
      have hn : decide (((l.length + m.length : Nat) : Int) < 0) = false := by simp; omega
      rw [hn]; rfl
    have s3 : f45_b1 [l, m] ((l.length + m.length : Nat) : Int) 2 = some (.inr (.go ((l.length + m.length : Nat) : Int))) := by
      simp only [f45_b1, List.length_cons, List.length_nil, Nat.zero_add]
      have hd : decide ((2 : Int) < ((1 + 1 : Nat) : Int)) = false := by decide
      rw [hd]; rfl
    rw [iter_inl (s' := ((l.length : Int), 1)) s1, iter_inl (s' := (((l.length + m.length : Nat) : Int), 2)) s2, iter_inr s3]
  have e2 : iter (fun s => f45_b2 [l, m] s.1 s.2) (([] : List T31), (0 : Int)) = some (.go (l ++ m)) := by
    have a3 : w64 ((0 : Int) + 1) = 1 := w64_id (by omega) (by omega)
    have a4 : w64 ((1 : Int) + 1) = 2 := w64_id (by omega) (by omega)
    have s1 : f45_b2 [l, m] [] 0 = some (.inl (l, 1)) := by
      simp only [f45_b2, List.length_cons, List.length_nil, Nat.zero_add]
      have hd : decide ((0 : Int) < ((1 + 1 : Nat) : Int)) = true := by decide
      rw [hd, cond_true, if_pos (by decide)]
      have : ([l, m].getD (0 : Int).toNat default) = l := rfl
      rw [this, a3, if_pos (by omega)]; rfl
    have s2 : f45_b2 [l, m] l 1 = some (.inl (l ++ m, 2)) := by
      simp only [f45_b2, List.length_cons, List.length_nil, Nat.zero_add]
      have hd : decide ((1 : Int) < ((1 + 1 : Nat) : Int)) = true := by decide
      rw [hd, cond_true, if_pos (by decide)]
      have : ([l, m].getD (1 : Int).toNat default) = m := rfl
      rw [this, a4, if_pos (by omega)]
    have s3 : f45_b2 [l, m] (l ++ m) 2 = some (.inr (.go (l ++ m))) := by
      simp only [f45_b2, List.length_cons, List.length_nil, Nat.zero_add]
      have hd : decide ((2 : Int) < ((1 + 1 : Nat) : Int)) = false := by decide
      rw [hd]; rfl
    rw [iter_inl (s' := (l, 1)) s1, iter_inl (s' := (l ++ m, 2)) s2, iter_inr s3]
  unfold f45
  rw [e1]
  simp only [Option.bind_some, f62_eq (l.length + m.length) (by omega), e2]

theorem f26_loop (r : List T31) (hr : r.length ≤ 200) (hs : ∀ s ∈ r, Short s) : iter (fun s => f26_b2 r s.1 s.2) (([] : List T31), (0 : Int)) = some (.go (addAll [] r)) := by
  have hL : 200 ≤ maxLen := by decide
  refine iter_listI r (by omega) (fun s => f26_b2 r s.1 s.2) (fun r' _ b => (Out.go (addAll b r') : Out ((List T31) × Int) (List T31))) (fun i b => b.length ≤ i) ?_ ?_ [] (Nat.zero_le _)
  · intro i x r' b hI hi hx _
    right
    have h1 : (0 : Int) ≤ i ∧ (i : Int) < (r.length : Int) := ⟨by omega, by omega⟩
    have hd : decide ((i : Int) < (r.length : Int)) = true := by simpa using hi
    have o : Short x := by
      refine hs x ?_
      rw [← hx, List.getD_eq_getElem?_getD, List.getElem?_eq_getElem hi]
      exact List.getElem_mem hi
    simp only [f26_b2, hd, cond_true]
    rw [if_pos h1]
    simp only [Int.toNat_natCast, hx, f46b_eq b x (by omega) o.len, Option.bind_some, f49_eq x.f1 o.2, f26_j1]
    rcases Bool.eq_false_or_eq_true (b.any fun t => sameB x t) with h | h
    · rw [h]; exact ⟨b, rfl, by omega, by simp only [addAll, h, cond_true]⟩
    · rw [h]
      rw [cond_false, if_pos (by simp; omega)]
      exact ⟨b ++ [x], rfl, by simp; omega, by simp only [addAll, h, cond_false]⟩
  · intro b _
    simp [f26_b2, addAll]

/-- What both answer. -/
def mergeAns (l m : List T31) : List T31 × Int :=
  cond (!isListB l || !isListB m) ([], 2) (cond (!isListB (merged l m)) ([], 2) (cond (pairOf (pairFrom (merged l m) (merged l m) 0)).2.2 ([], 8) (merged l m, 0)))

theorem merged_mem {l m : List T31} {s : T31} (h : s ∈ merged l m) : s ∈ l ∨ s ∈ m := by
  simp only [merged, List.mem_append, List.mem_filter] at h
  exact h.imp id And.left

theorem merged_len (l m : List T31) : (merged l m).length ≤ l.length + m.length := by
  simp only [merged, List.length_append]
  have := List.length_filter_le (fun s => !(l.any fun t => sameB s t)) m
  omega

theorem f26_eq (l m : List T31) (hl : l.length ≤ 100) (hm : m.length ≤ 100) (hs : ∀ s ∈ l, Short s) (ht : ∀ s ∈ m, Short s) : f26 l m = some (mergeAns l m) := by
  have hL : 200 ≤ maxLen := by decide
  have hall : ∀ s ∈ l ++ m, Short s := fun s h => by rcases List.mem_append.1 h with h | h; exact hs s h; exact ht s h
  have hmer : ∀ s ∈ merged l m, Short s := fun s h => by rcases merged_mem h with h | h; exact hs s h; exact ht s h
  have hml := merged_len l m
  unfold f26 mergeAns
  rw [f29_eq l (small_of (by omega) hs), f29_eq m (small_of (by omega) ht)]
  simp only [Option.bind_some, cond_or]
  refine cond_dep fun h => ?_
  simp only [Bool.or_eq_false_iff, Bool.not_eq_false'] at h
  rw [f45_eq l m hl hm]
  simp only [Option.bind_some]
  rw [f26_loop (l ++ m) (by simp; omega) hall, addAll_merged h.1 h.2]
  simp only [Option.bind_some]
  rw [f29_eq _ (small_of (by omega) hmer)]
  simp only [Option.bind_some]
  refine cond_dep fun h2 => ?_
  simp only [Bool.not_eq_false'] at h2
  rw [f31_eq _ (by omega) (allOk_of hmer h2)]
  simp only [Option.bind_some]
  cases (pairOf (pairFrom (merged l m) (merged l m) 0)).2.2 <;> rfl

theorem f27_in (l : List T31) (m : List T31) (hl : l.length ≤ 100) (hs : ∀ s ∈ l, Short s) (n : Nat) (hn : n < m.length) : iter (fun s => f27_b2 l m (n : Int) s.1 s.2) (false, (0 : Int)) = some (.go (l.any fun t => sameB (m.getD n default) t)) := by
  have hL : 200 ≤ maxLen := by decide
  have sc : ∀ a b, sameB a b = sameB b a := fun a b => by rw [Bool.eq_iff_iff, sameB_iff, sameB_iff]; exact eq_comm
  have := iter_listS l (by omega) (fun s => f27_b2 l m (n : Int) s.1 s.2) (fun r _ b => (Out.go (b || r.any fun t => sameB (m.getD n default) t) : Out ((List T31) × Int) Bool)) ?_ ?_ false
  · rw [this]; rfl
  · intro i x r b hi hx _
    right
    have h1 : (0 : Int) ≤ i ∧ (i : Int) < (l.length : Int) ∧ (0 : Int) ≤ n ∧ (n : Int) < (m.length : Int) := ⟨by omega, by omega, by omega, by omega⟩
    have hd : decide ((i : Int) < (l.length : Int)) = true := by simpa using hi
    have o : Short x := by
      refine hs x ?_
      rw [← hx, List.getD_eq_getElem?_getD, List.getElem?_eq_getElem hi]
      exact List.getElem_mem hi
    simp only [f27_b2, hd, cond_true]
    rw [if_pos h1]
    simp only [Int.toNat_natCast, hx, f50_eq x _ o.len, Option.bind_some, cond_or]
    exact ⟨_, rfl, by simp only [List.any_cons, sc x, Bool.or_assoc]⟩
  · intro b
    simp [f27_b2]

theorem f27_loop (l m : List T31) (hl : l.length ≤ 100) (hm : m.length ≤ 100) (hs : ∀ s ∈ l, Short s) : iter (fun s => f27_b3 l m s.1 s.2) (l, (0 : Int)) = some (.go (merged l m)) := by
  have hL : 200 ≤ maxLen := by decide
  refine iter_listI m (by omega) (fun s => f27_b3 l m s.1 s.2) (fun r _ b => (Out.go (b ++ r.filter fun s => !(l.any fun t => sameB s t)) : Out ((List T31) × Int) (List T31))) (fun i b => b.length ≤ l.length + i) ?_ ?_ l (by omega)
  · intro i x r b hI hi hx _
    right
    have h1 : (0 : Int) ≤ i ∧ (i : Int) < (m.length : Int) := ⟨by omega, by omega⟩
    have hd : decide ((i : Int) < (m.length : Int)) = true := by simpa using hi
    simp only [f27_b3, hd, cond_true, f27_in l m hl hs i hi, Option.bind_some]
    rw [if_pos h1]
    simp only [Int.toNat_natCast, hx, f27_j1]
    rcases Bool.eq_false_or_eq_true (l.any fun t => sameB x t) with h | h
    · rw [h]; exact ⟨b, rfl, by omega, by simp [h]⟩
    · rw [h]
      simp only [Bool.not_false, cond_true]
      rw [if_pos (by simp; omega)]
      exact ⟨b ++ [x], rfl, by simp; omega, by simp [h]⟩
  · intro b _
    simp [f27_b3]

theorem f27_eq (l m : List T31) (hl : l.length ≤ 100) (hm : m.length ≤ 100) (hs : ∀ s ∈ l, Short s) (ht : ∀ s ∈ m, Short s) : f27 l m = some (mergeAns l m) := by
  have hL : 200 ≤ maxLen := by decide
  have hmer : ∀ s ∈ merged l m, Short s := fun s h => by rcases merged_mem h with h | h; exact hs s h; exact ht s h
  have hml := merged_len l m
  unfold f27 mergeAns
  rw [f34_eq l (small_of (by omega) hs), f34_eq m (small_of (by omega) ht)]
  simp only [Option.bind_some, cond_or]
  refine cond_dep fun h => ?_
  simp only [List.length_nil, Nat.zero_add, List.nil_append]
  rw [if_pos (by omega), f27_loop l m hl hm hs]
  simp only [Option.bind_some]
  rw [f34_eq _ (small_of (by omega) hmer)]
  simp only [Option.bind_some]
  refine cond_dep fun h2 => ?_
  simp only [Bool.not_eq_false'] at h2
  rw [f36_eq _ (by omega) (allOk_of hmer h2)]
  simp only [Option.bind_some]
  cases (pairOf (pairFrom (merged l m) (merged l m) 0)).2.2 <;> rfl

theorem f28_refl (l : List T31) (hl : l.length ≤ maxLen) (hs : ∀ s ∈ l, Short s) : f28 l l = some true := by
  unfold f28
  have hz : ((l.length : Int) != (l.length : Int)) = false := by simp
  rw [hz, cond_false]
  have := iter_list l hl (fun s => f28_b1 l l s) (fun _ _ => (Out.go () : Out Bool Unit)) ?_ ?_
  · rw [this]; rfl
  · intro i x r hi hx _
    right
    have h1 : (0 : Int) ≤ i ∧ (i : Int) < (l.length : Int) ∧ (0 : Int) ≤ i ∧ (i : Int) < (l.length : Int) := ⟨by omega, by omega, by omega, by omega⟩
    have hd : decide ((i : Int) < (l.length : Int)) = true := by simpa using hi
    have o : Short x := by
      refine hs x ?_
      rw [← hx, List.getD_eq_getElem?_getD, List.getElem?_eq_getElem hi]
      exact List.getElem_mem hi
    have hb : sameB x x = true := sameB_iff.2 rfl
    simp only [f28_b1, hd, cond_true]
    rw [if_pos h1]
    simp only [Int.toNat_natCast, hx, f50_eq x x o.len, Option.bind_some, hb]
    exact ⟨rfl, trivial⟩
  · simp [f28_b1]

namespace Pure
theorem GenericMerges : LawGenericMerges := by
  intro l m hl0 hm0
  have hL : 200 ≤ maxLen := by decide
  unfold f9
  rw [f10_eq l hl0.1, f10_eq m hm0.1, awake]
  simp only [Option.bind_some, cond_or]
  rcases Bool.eq_false_or_eq_true (long l || long m) with h | h
  · rw [h]; rfl
  · rw [h]
    simp only [Bool.or_eq_false_iff] at h
    have hs : ∀ s ∈ l, Short s := fun s hm => short_of h.1 hm
    have ht : ∀ s ∈ m, Short s := fun s hm => short_of h.2 hm
    have hl : l.length ≤ 100 := by
      have := h.1
      simp only [long, Bool.or_eq_false_iff, decide_eq_false_iff_not] at this
      omega
    have hm : m.length ≤ 100 := by
      have := h.2
      simp only [long, Bool.or_eq_false_iff, decide_eq_false_iff_not] at this
      omega
    rw [f26_eq l m hl hm hs ht, f27_eq l m hl hm hs ht]
    have hml := merged_len l m
    have hmer : ∀ s ∈ merged l m, Short s := fun s h => by rcases merged_mem h with h | h; exact hs s h; exact ht s h
    have hans : (mergeAns l m).1.length ≤ maxLen ∧ ∀ s ∈ (mergeAns l m).1, Short s := by
      unfold mergeAns
      cases (!isListB l || !isListB m) <;> cases (!isListB (merged l m)) <;> cases (pairOf (pairFrom (merged l m) (merged l m) 0)).2.2 <;> first
        | exact ⟨by simp only [cond_false]; omega, hmer⟩
        | exact ⟨Nat.zero_le _, fun s hs => by cases hs⟩
    simp only [cond_false, Option.bind_some, f28_refl _ hans.1 hans.2, beq_self_eq_true, cond_true]
    rfl
end Pure
end Go.Sx.gen
