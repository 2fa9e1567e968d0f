/- What append does to memory; no condition. -/
import Derived.Test.YtpkoebbjnfpifaaSxElem
import Derived.Laws.IdiomStrings
namespace Go.Sx
open Go

/-- What append finds behind its second operand: m elements, whose cells are news. -/
structure Second (P : Program) (w : World) (t2 : TypeId) (z : Nat) (x : Value) (m : Nat) (news : List Value) : Prop where
  len : ∀ w' : World, w'.heap = w.heap → (Builtin.lenOf x).run P w' = .ok m w'
  und : (∃ e, P.underlying t2 = some (.slice e)) ∨ P.underlying t2 = some .string
  cells : ∀ w' : World, w'.heap = w.heap → (Builtin.firstCells z m x).run P w' = .ok news.toArray w'
  size : news.length = m * z
  one : ∀ v ∈ news, v.oneCell' = true

theorem heap_alloc_drew (w : World) (o : Obj) (b : Nat) (hb : b < w.heap.size) : (w.drew.alloc o).heap[b]? = w.heap[b]? :=
  Go.heap_alloc_old w.drew o hb

/-- Memory grows. -/
theorem goes_alloc (w : World) (o : Obj) : Goes w (w.drew.alloc o) w.heap.size :=
  ⟨fun b hb _ => heap_alloc_drew w o b hb, by simp, rfl, rfl, rfl⟩

/-- An appended slice: where it lies, and what stays. -/
theorem run_append {P : Program} {w : World} {t t2 ty e : TypeId} {i : TypeInfo} {zv : Value} (ht : P.underlying t = some (.slice e)) (hi : P.info? e = some i) (hz : i.zero = some zv) (hzs : zv.cells.size = i.size)
    {x : Value} {m : Nat} {news : List Value} (hx : Second P w t2 i.size x m news)
    {s : Value} {n : Nat} {olds : List Value} (hb0 : 0 < i.bytes) (hbytes : (n + m) * i.bytes ≤ 140737488355328)
    (hs : (s = .slice none 0 0 ∧ n = 0 ∧ olds = []) ∨ ∃ b cap c, s = .slice (some ⟨b, 0, none⟩) n cap ∧ Row w b e c ∧ c.size = cap * i.size ∧ n ≤ cap ∧ cap ≤ maxLen ∧ olds.length = n * i.size ∧ ∀ (j : Nat) v, olds[j]? = some v → c[j]? = some v) :
    ∃ v w', (Builtin.append_ #[t, t2] ty #[s, x]).run P w = .ok v w' ∧
      ((v = .slice none 0 0 ∧ n + m = 0 ∧ w' = w) ∨ ∃ nb cap c, v = .slice (some ⟨nb, 0, none⟩) (n + m) cap ∧ Row w' nb e c ∧ c.size = cap * i.size ∧ n + m ≤ cap ∧ cap ≤ maxLen ∧ Goes w w' nb ∧
        (∀ (j : Nat) v, (olds ++ news)[j]? = some v → c[j]? = some v) ∧ ((∃ n cap, s = .slice (some ⟨nb, 0, none⟩) n cap) ∨ nb = w.heap.size)) := by
  have hnm : n + m ≤ 140737488355328 := by
    have : (n + m) * 1 ≤ (n + m) * i.bytes := Nat.mul_le_mul_left _ hb0
    omega
  have hm : n + m ≤ maxLen := by unfold maxLen; omega
  have hlen := hx.len w rfl
  have hcells := hx.cells w rfl
  have hcells' := hx.cells w.drew rfl
  have hu : ∃ d, P.underlying t2 = some d ∧ ((∃ e, d = .slice e) ∨ d = .string) := by
    rcases hx.und with ⟨e', h⟩ | h
    · exact ⟨_, h, .inl ⟨e', rfl⟩⟩
    · exact ⟨_, h, .inr rfl⟩
  obtain ⟨d, hd, hdd⟩ := hu
  have hge : ∀ old, n + m ≤ grownCap w (n + m) old e := fun old => grownCap_ge w (n + m) old e
  have hle : ∀ old, grownCap w (n + m) old e ≤ maxLen := fun old => grownCap_le_maxLen w (n + m) old e hm
  -- the new row
  have fresh : ∀ old, olds.length = n * i.size → (∀ (v : Value) (w' : World), v = .slice (some ⟨w.heap.size, 0, none⟩) (n + m) (grownCap w (n + m) old e) → w' = (w.drew.alloc (.cells (olds.toArray ++ news.toArray ++ Builtin.zeroCells zv.cells (grownCap w (n + m) old e - (n + m))) e)) →
      (v = .slice none 0 0 ∧ n + m = 0 ∧ w' = w) ∨ ∃ nb cap c, v = .slice (some ⟨nb, 0, none⟩) (n + m) cap ∧ Row w' nb e c ∧ c.size = cap * i.size ∧ n + m ≤ cap ∧ cap ≤ maxLen ∧ Goes w w' nb ∧
        (∀ (j : Nat) v, (olds ++ news)[j]? = some v → c[j]? = some v) ∧ ((∃ n cap, s = .slice (some ⟨nb, 0, none⟩) n cap) ∨ nb = w.heap.size)) := by
    intro old hol v w' hv hw'
    subst hv hw'
    refine .inr ⟨w.heap.size, _, _, rfl, Row.of (Go.heap_alloc_new w.drew _), ?_, hge old, hle old, goes_alloc w _, fun j u hu => ?_, .inr rfl⟩
    · simp only [Array.size_append, List.size_toArray, size_zeroCells, hzs, hol, hx.size, ← Nat.add_mul]
      congr 1
      have := hge old
      omega
    · have hj : j < (olds ++ news).length := (List.getElem?_eq_some_iff.1 hu).1
      rw [Array.getElem?_append_left (by simpa using hj)]
      simpa using hu
  rcases hs with ⟨rfl, rfl, rfl⟩ | ⟨b, cap, c, rfl, hrow, hcs, hnc, hcm, hol, hold⟩
  · by_cases hm0 : m = 0
    · subst hm0
      have hn0 : news = [] := List.eq_nil_of_length_eq_zero (by simpa using hx.size)
      subst hn0
      refine ⟨.slice none 0 0, w, ?_, .inl ⟨rfl, rfl, rfl⟩⟩
      rcases hdd with ⟨e', rfl⟩ | rfl
      · simp [Builtin.append_, run_underlying ht, run_underlying hd, sizeOf, typeInfo, hi, hlen, hcells]
      · simp [Builtin.append_, run_underlying ht, run_underlying hd, sizeOf, typeInfo, hi, hlen, hcells]
    · have h63 : ¬ (9223372036854775807 < (m : Int)) := by omega
      have h48 : ¬ (281474976710656 < Builtin.nextslicecap m 0 * i.bytes) := by
        have := growslice_fits (need := 0 + m) (old := 0) (by omega) hbytes
        rw [Nat.zero_add] at this
        omega
      have hf := fresh 0 (by simp) _ _ rfl rfl
      refine ⟨_, _, ?_, hf⟩
      rcases hdd with ⟨e', rfl⟩ | rfl
      · simp [Builtin.append_, run_underlying ht, run_underlying hd, sizeOf, typeInfo, zeroValue, hi, hz, hlen, hm0, h63, h48, Question.forced, run_firstCells_none, hcells', newRow, grownCap]
      · simp [Builtin.append_, run_underlying ht, run_underlying hd, sizeOf, typeInfo, zeroValue, hi, hz, hlen, hm0, h63, h48, Question.forced, run_firstCells_none, hcells', newRow, grownCap]
  · have hlo : Builtin.lenOf (.slice (some ⟨b, 0, none⟩) n cap) = pure n := rfl
    by_cases hroom : n + m ≤ cap
    · obtain ⟨fr, hb1, hb2⟩ := hrow
      have hfit : n * i.size + news.length ≤ c.size := by rw [hx.size, hcs, ← Nat.add_mul]; exact Nat.mul_le_mul_right _ hroom
      obtain ⟨w', hrun, hw', hg⟩ := run_store_row (P := P) news (n * i.size) 0 c w hb1 hb2 (by omega) hx.one
      rw [Nat.add_zero] at hw'
      refine ⟨.slice (some ⟨b, 0, none⟩) (n + m) cap, w', ?_, .inr ⟨b, cap, _, rfl, ⟨fr, hw', by rw [writeA_size]; exact hb2⟩, by rw [writeA_size]; exact hcs, hroom, hcm, hg, fun j u hu => ?_, .inl ⟨n, cap, rfl⟩⟩⟩
      · rcases hdd with ⟨e', rfl⟩ | rfl
        · simp [Builtin.append_, run_underlying ht, run_underlying hd, sizeOf, typeInfo, hi, hlen, hroom, hcells, add_mk, hrun]
        · simp [Builtin.append_, run_underlying ht, run_underlying hd, sizeOf, typeInfo, hi, hlen, hroom, hcells, add_mk, hrun]
      · rcases Nat.lt_or_ge j (n * i.size) with hj | hj
        · rw [List.getElem?_append_left (by omega)] at hu
          rw [writeA_lt _ _ _ _ hj]
          exact hold j u hu
        · obtain ⟨q, rfl⟩ : ∃ q, j = n * i.size + q := ⟨j - n * i.size, by omega⟩
          rw [List.getElem?_append_right (by omega), hol, Nat.add_sub_cancel_left] at hu
          have hq : q < news.length := (List.getElem?_eq_some_iff.1 hu).1
          rw [writeA_in _ _ _ _ hq (by omega)]
          exact hu
    · have h63 : ¬ (9223372036854775807 < ((n : Int) + (m : Int))) := by omega
      have h48 : ¬ (281474976710656 < Builtin.nextslicecap (n + m) cap * i.bytes) := by
        have := growslice_fits (need := n + m) (old := cap) (by omega) hbytes
        omega
      have hf := fresh cap hol _ _ rfl rfl
      have hfo := run_firstCells_some (P := P) w.drew i.size n ⟨b, 0, none⟩ n cap olds hol (fun j v hj => by
        rw [add_mk, Nat.zero_add]
        exact (hrow.cell j).trans (hold j v hj))
      refine ⟨_, _, ?_, hf⟩
      rcases hdd with ⟨e', rfl⟩ | rfl
      · simp [Builtin.append_, run_underlying ht, run_underlying hd, sizeOf, typeInfo, zeroValue, hi, hz, hlen, hroom, h63, h48, Question.forced, hcells', hfo, newRow, grownCap]
        congr 2
        apply Array.ext'
        simp [List.append_assoc]
      · simp [Builtin.append_, run_underlying ht, run_underlying hd, sizeOf, typeInfo, zeroValue, hi, hz, hlen, hroom, h63, h48, Question.forced, hcells', hfo, newRow, grownCap]
        congr 2
        apply Array.ext'
        simp [List.append_assoc]

end Go.Sx
