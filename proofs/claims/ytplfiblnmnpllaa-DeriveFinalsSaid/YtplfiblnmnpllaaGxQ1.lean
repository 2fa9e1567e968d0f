/- Plain laws of the printed functions of types: the calls of finalisers; no condition. -/
import Derived.Test.YtplfiblnmnpllaaGxQ0
namespace Go.Sx.der
open Go Go.Sx

/-- The calls for the elements of fields. -/
def fpart (rec : Nat → Nat → List T37) (l : List T62) (off : Nat) : List T35 → Nat → List T37
  | [], _ => []
  | f :: r, a => (cond (f.f1 == ([] : List UInt8)) [] ((List.range (tm f)).flatMap fun q => rec ((fd l f.f1).getD 0) (off + a + q * oneG l f))) ++ fpart rec l off r (a + tm f * oneG l f)

def finF (l : List T62) : Nat → Nat → Nat → List T37
  | 0, _, _ => []
  | n + 1, k, off => cond ((l.getD k default).f5 == ([] : List UInt8)) [] [T37.mk (l.getD k default).f5 (off : Int)] ++
      (fpart (finF l n) l off (l.getD k default).f3 (base (us l k) l k) ++ (match prt l k with | some p => finF l n p off | none => []))

theorem fpart_same {r r' : Nat → Nat → List T37} (l : List T62) (off : Nat) : ∀ (fs : List T35) (a : Nat), (∀ f ∈ fs, f.f1 ≠ [] → ∀ o, r ((fd l f.f1).getD 0) o = r' ((fd l f.f1).getD 0) o) → fpart r l off fs a = fpart r' l off fs a
  | [], _, _ => rfl
  | f :: fs, a, h => by
    simp only [fpart]
    rw [fpart_same l off fs _ fun x hx => h x (List.mem_cons_of_mem _ hx)]
    congr 1
    by_cases hn : f.f1 = []
    · rw [show (f.f1 == ([] : List UInt8)) = true from beq_iff_eq.2 hn]; rfl
    · rw [show (f.f1 == ([] : List UInt8)) = false from beq_eq_false_iff_ne.2 hn, cond_false, cond_false]
      exact flatMap_same fun q _ => h f (List.mem_cons_self ..) hn _

theorem typ_lt {l : List T62} (hR : Right l l.length) {k : Nat} (hk : k < l.length) {f : T35} (hf : f ∈ (l.getD k default).f3) (hn : f.f1 ≠ []) : ∃ j, fd l f.f1 = some j ∧ j < k := by
  obtain ⟨j, hj⟩ := (mis_parts (hR.fit k hk).2).2 f hf hn
  exact ⟨j, (fd_take.1 hj).1, (fd_take.1 hj).2⟩

/-- The fuel is no matter. -/
theorem finF_fuel (l : List T62) (hR : Right l l.length) : ∀ (k n m off : Nat), k < l.length → k < n → k < m → finF l n k off = finF l m k off := by
  intro k
  induction k using Nat.strongRecOn with
  | _ k ih =>
    intro n m off hk hn hm
    obtain ⟨n, rfl⟩ : ∃ n', n = n' + 1 := ⟨n - 1, by omega⟩
    obtain ⟨m, rfl⟩ : ∃ m', m = m' + 1 := ⟨m - 1, by omega⟩
    simp only [finF]
    congr 1
    rw [fpart_same (r := finF l n) (r' := finF l m) l off (l.getD k default).f3 _ fun f hf hne o => by
      obtain ⟨j, hj, hjk⟩ := typ_lt hR hk hf hne
      rw [hj, Option.getD_some]
      exact ih j hjk n m o (by omega) (by omega) (by omega)]
    congr 1
    cases hp : prt l k with
    | none => rfl
    | some p => exact ih p (prt_lt hp).1 n m off (prt_lt hp).2 (by have := (prt_lt hp).1; omega) (by have := (prt_lt hp).1; omega)

theorem flatMap_len {A B : Type} {g : A → List B} {c : Nat} : ∀ {v : List A}, (∀ x ∈ v, (g x).length ≤ c) → (v.flatMap g).length ≤ v.length * c
  | [], _ => by simp
  | x :: v, h => by
    have h1 := h x (List.mem_cons_self ..)
    have h2 := flatMap_len (v := v) fun y hy => h y (List.mem_cons_of_mem _ hy)
    simp only [List.flatMap_cons, List.length_append, List.length_cons, Nat.succ_mul]
    omega

theorem finF_len (l : List T62) (hR : Right l l.length) : ∀ (n k off : Nat), k < l.length → (finF l n k off).length ≤ 1 + pn (ps l k) l k
  | 0, _, _, _ => Nat.zero_le _
  | n + 1, k, off, hk => by
    have hF := hR.fit k hk
    have hpart : ∀ (fs : List T35) (a : Nat), (∀ f ∈ fs, f ∈ (l.getD k default).f3) → (fpart (finF l n) l off fs a).length ≤ (fs.map (pw (ps l k) l k)).sum := by
      intro fs
      induction fs with
      | nil => intro _ _; exact Nat.zero_le _
      | cons f fs ih =>
        intro a hfs
        have h1 := ih (a + tm f * oneG l f) fun x hx => hfs x (List.mem_cons_of_mem _ hx)
        simp only [fpart, List.length_append, List.map_cons, List.sum_cons]
        have h2 : (cond (f.f1 == ([] : List UInt8)) [] ((List.range (tm f)).flatMap fun q => finF l n ((fd l f.f1).getD 0) (off + a + q * oneG l f))).length ≤ pw (ps l k) l k f := by
          by_cases hn : f.f1 = []
          · rw [show (f.f1 == ([] : List UInt8)) = true from beq_iff_eq.2 hn]; exact Nat.zero_le _
          · obtain ⟨ht, htk⟩ := typ_of hF.2 (hfs f (List.mem_cons_self ..)) hn
            rw [show (f.f1 == ([] : List UInt8)) = false from beq_eq_false_iff_ne.2 hn, cond_false, (fd_take.1 ht).1, Option.getD_some]
            have h3 := flatMap_len (v := List.range (tm f)) (g := fun q => finF l n (typ l k f) (off + a + q * oneG l f)) (c := 1 + pn (ps l (typ l k f)) l (typ l k f)) fun q _ => finF_len l hR n _ _ (by omega)
            rw [List.length_range] at h3
            unfold pw
            rw [show (f.f1 == ([] : List UInt8)) = false from beq_eq_false_iff_ne.2 hn, if_neg (by decide), ps_at l k _ htk]
            exact h3
        omega
    have h1 := hpart (l.getD k default).f3 (base (us l k) l k) fun _ h => h
    have h2 : (match prt l k with | some p => finF l n p off | none => []).length ≤ baseP (ps l k) l k := by
      unfold baseP
      cases hp : prt l k with
      | none => exact Nat.le_refl _
      | some p =>
        have hlt := prt_lt hp
        have := finF_len l hR n p off hlt.2
        simp only
        rw [ps_at l k p hlt.1]
        exact this
    have h3 : (cond ((l.getD k default).f5 == ([] : List UInt8)) [] [T37.mk (l.getD k default).f5 (off : Int)]).length ≤ 1 := by
      cases (l.getD k default).f5 == ([] : List UInt8) <;> simp
    simp only [finF, List.length_append]
    unfold pn
    omega

theorem finF_len2 {l : List T62} (hR : Right l l.length) (n k off : Nat) (hk : k < l.length) : (finF l n k off).length ≤ 100001 := by
  have := finF_len l hR n k off hk
  have := (hR.low k hk).2
  omega

/-! ### The program's -/

theorem off_id {n : Int} (h0 : 0 ≤ n) (h1 : n ≤ 9000000000000000) : w64 n = n := w64_id (by omega) (by omega)

theorem oneG_at {l : List T62} {k : Nat} (hk : k < l.length) {f : T35} (hm : mis l k = false) (hf : f ∈ (l.getD k default).f3) : wd (us l k) l k f = tm f * oneG l f := by
  unfold wd oneG
  by_cases hn : f.f1 = []
  · rw [show (f.f1 == ([] : List UInt8)) = true from beq_iff_eq.2 hn, if_pos rfl, if_pos rfl]
  · obtain ⟨ht, htk⟩ := typ_of hm hf hn
    rw [show (f.f1 == ([] : List UInt8)) = false from beq_eq_false_iff_ne.2 hn, if_neg (by decide), if_neg (by decide), (fd_take.1 ht).1, Option.getD_some, us_at l k _ htk, us_at l l.length _ (by omega)]

theorem f64_inner (l : List T62) (hs : Small l) (hR : Right l l.length) (n : Nat) (rc : List T62 → Int → Int → Option (List T37)) (k off a i : Nat) (hk : k < l.length) (hi : i < ((l.getD k default).f3).length) (j : Nat) (hj : fd l (((l.getD k default).f3).getD i default).f1 = some j) (hn : (((l.getD k default).f3).getD i default).f1 ≠ [])
    (ih : ∀ q : Nat, q ≤ 100 → rc l (j : Int) ((off + a + q * oneG l (((l.getD k default).f3).getD i default) : Nat) : Int) = some (finF l n j (off + a + q * oneG l (((l.getD k default).f3).getD i default)))) (hoff : off ≤ 1000000000000) (ha : a ≤ 1000000000000) (acc : List T37) (hacc : acc.length ≤ 1000000000) :
    iter (fun s => f64_b1 rc l (k : Int) (off : Int) (a : Int) (i : Int) ((oneG l (((l.getD k default).f3).getD i default) : Nat) : Int) s.1 s.2) (acc, (0 : Int)) =
      some (.go (acc ++ (List.range (tm (((l.getD k default).f3).getD i default))).flatMap fun q => finF l n j (off + a + q * oneG l (((l.getD k default).f3).getD i default)))) := by
  have hjl := (fd_some hj).1
  have htm := tm_le ((hR.fit k hk).1 _ (getD_mem hi))
  have hone := oneG_le hR (((l.getD k default).f3).getD i default)
  generalize hf : ((l.getD k default).f3).getD i default = f at *
  have hmx := maxLen_big
  refine iter_listI (List.range (tm f)) (by rw [List.length_range]; omega) (fun s => f64_b1 rc l (k : Int) (off : Int) (a : Int) (i : Int) ((oneG l f : Nat) : Int) s.1 s.2)
    (fun r _ b => (Out.go (b ++ r.flatMap fun q => finF l n j (off + a + q * oneG l f)) : Out (List T37) (List T37))) (fun q b => b.length ≤ 1000000000 + q * 100001) ?_ ?_ acc (by omega)
  · intro q x r b hI hq hx _
    right
    rw [List.length_range] at hq
    have hxq : x = q := by
      rw [List.getD_eq_getElem?_getD, List.getElem?_range hq] at hx
      exact hx.symm
    subst hxq
    have hlen := finF_len2 hR n j (off + a + x * oneG l f) hjl
    have hmul : x * oneG l f ≤ 100 * 100000 := Nat.mul_le_mul (by omega) hone
    refine ⟨b ++ finF l n j (off + a + x * oneG l f), ?_, by simp only [List.length_append]; omega, by simp⟩
    simp only [f64_b1, Int.toNat_natCast, hf]
    rw [show (f.f1 == ([] : List UInt8)) = false from beq_eq_false_iff_ne.2 hn]
    simp only [Bool.not_false, cond_true, f46_eq, Option.bind_some]
    rw [show decide ((x : Int) < ((tm f : Nat) : Int)) = true from decide_eq_true (by omega), cond_true, f45_eq l hs.max, hj]
    have e1 : (x : Int) * ((oneG l f : Nat) : Int) = ((x * oneG l f : Nat) : Int) := by simp
    have e2 : (off : Int) + (a : Int) + ((x * oneG l f : Nat) : Int) = ((off + a + x * oneG l f : Nat) : Int) := by omega
    simp only [Option.bind_some, idx]
    rw [e1, off_id (n := ((x * oneG l f : Nat) : Int)) (by omega) (by omega), off_id (n := (off : Int) + (a : Int)) (by omega) (by omega), off_id (n := (off : Int) + (a : Int) + ((x * oneG l f : Nat) : Int)) (by omega) (by omega), e2, ih x (by omega)]
    simp only [Option.bind_some]
    rw [if_pos (by omega)]
  · intro b _
    simp only [f64_b1, Int.toNat_natCast, hf, List.length_range]
    rw [show (f.f1 == ([] : List UInt8)) = false from beq_eq_false_iff_ne.2 hn]
    simp [f46_eq]

theorem f64_inner_nil (l : List T62) (rc : List T62 → Int → Int → Option (List T37)) (k off a i : Nat) (one : Int) (hn : (((l.getD k default).f3).getD i default).f1 = []) (acc : List T37) :
    iter (fun s => f64_b1 rc l (k : Int) off a (i : Int) one s.1 s.2) (acc, (0 : Int)) = some (.go acc) := by
  refine iter_inr ?_
  simp only [f64_b1, Int.toNat_natCast]
  rw [show ((((l.getD k default).f3).getD i default).f1 == ([] : List UInt8)) = true from beq_iff_eq.2 hn]
  rfl

theorem f64_fields (l : List T62) (hs : Small l) (hR : Right l l.length) (n : Nat) (rc : List T62 → Int → Int → Option (List T37)) (k off : Nat) (hk : k < l.length) (hoff : off + k * 1000000000 ≤ 1000000000000)
    (ih : ∀ (j o : Nat), j < k → o + j * 1000000000 ≤ 1000000000000 → rc l (j : Int) (o : Int) = some (finF l n j o)) (acc : List T37) (hacc : acc.length ≤ 1) (b0 : Nat) (hb0 : b0 ≤ 100000) :
    iter (fun s => f64_b2 rc l (k : Int) (off : Int) s.1 s.2.1 s.2.2) (acc, (b0 : Int), (0 : Int)) = some (.go (acc ++ fpart (finF l n) l off (l.getD k default).f3 b0)) := by
  have h40 := (hs.at k).1
  have hmx := maxLen_big
  have key := iter_listG (l.getD k default).f3 (by omega) (fun s => f64_b2 rc l (k : Int) (off : Int) s.1 s.2.1 s.2.2) (fun (b : List T37 × Nat) i => (b.1, (b.2 : Int), i))
    (fun r _ b => (Out.go (b.1 ++ fpart (finF l n) l off r b.2) : Out (List T37) (List T37))) (fun i b => b.1.length ≤ 1 + i * 10000100 ∧ b.2 ≤ 100000 + i * 10000000) ?_ ?_ (acc, b0) ⟨by simpa using hacc, by simpa using hb0⟩
  · exact key
  · rintro i f r ⟨b, a⟩ ⟨hb, ha⟩ hi hf _
    simp only at hb ha
    right
    have g1 : (0 : Int) ≤ i ∧ (i : Int) < (((l.getD k default).f3).length : Int) := ⟨by omega, by omega⟩
    have hfm := getD_mem hi
    rw [hf] at hfm
    have hF := hR.fit k hk
    have htm := tm_le (hF.1 f hfm)
    have hone := oneG_le hR f
    have hw : tm f * oneG l f ≤ 100 * 100000 := Nat.mul_le_mul htm hone
    have hfo : FOk l f := ⟨hF.1 f hfm, fun hn => by obtain ⟨j, hj, _⟩ := typ_lt hR hk hfm hn; exact ⟨j, hj⟩⟩
    have hin : iter (fun s => f64_b1 rc l (k : Int) (off : Int) (a : Int) (i : Int) ((oneG l f : Nat) : Int) s.1 s.2) (b, (0 : Int)) =
        some (.go (b ++ cond (f.f1 == ([] : List UInt8)) [] ((List.range (tm f)).flatMap fun q => finF l n ((fd l f.f1).getD 0) (off + a + q * oneG l f)))) := by
      by_cases hn : f.f1 = []
      · have := f64_inner_nil l rc k off a i ((oneG l f : Nat) : Int) (by rw [hf]; exact hn) b
        rw [this, show (f.f1 == ([] : List UInt8)) = true from beq_iff_eq.2 hn]
        simp
      · obtain ⟨j, hj, hjk⟩ := typ_lt hR hk hfm hn
        have := f64_inner l hs hR n rc k off a i hk hi j (by rw [hf]; exact hj) (by rw [hf]; exact hn) (fun q hq => by
          rw [hf]
          have h1 : q * oneG l f ≤ 100 * 100000 := Nat.mul_le_mul hq hone
          have h2 : j * 1000000000 + 1000000000 ≤ k * 1000000000 := by omega
          exact ih j _ hjk (by omega)) (by omega) (by omega) b (by omega)
        rw [hf] at this
        rw [this, show (f.f1 == ([] : List UInt8)) = false from beq_eq_false_iff_ne.2 hn, hj]
        rfl
    have hlen : (cond (f.f1 == ([] : List UInt8)) [] ((List.range (tm f)).flatMap fun q => finF l n ((fd l f.f1).getD 0) (off + a + q * oneG l f))).length ≤ 10000100 := by
      by_cases hn : f.f1 = []
      · rw [show (f.f1 == ([] : List UInt8)) = true from beq_iff_eq.2 hn]; simp
      · obtain ⟨j, hj, hjk⟩ := typ_lt hR hk hfm hn
        rw [show (f.f1 == ([] : List UInt8)) = false from beq_eq_false_iff_ne.2 hn, hj, cond_false, Option.getD_some]
        have h3 := flatMap_len (v := List.range (tm f)) (g := fun q => finF l n j (off + a + q * oneG l f)) (c := 100001) fun q _ => finF_len2 hR n j _ (by omega)
        rw [List.length_range] at h3
        have : tm f * 100001 ≤ 100 * 100001 := Nat.mul_le_mul_right _ htm
        omega
    refine ⟨(b ++ cond (f.f1 == ([] : List UInt8)) [] ((List.range (tm f)).flatMap fun q => finF l n ((fd l f.f1).getD 0) (off + a + q * oneG l f)), a + tm f * oneG l f), ?_, ⟨by simp only [List.length_append]; omega, by simp only; omega⟩, by simp only [fpart, List.append_assoc]⟩
    simp only [f64_b2, Int.toNat_natCast, hf, g1, and_self, if_true, decide_true, cond_true, f47_eq l hs hR f hfo, Option.bind_some]
    rw [hin]
    simp only [Option.bind_some, f46_eq]
    have e1 : ((tm f : Nat) : Int) * ((oneG l f : Nat) : Int) = ((tm f * oneG l f : Nat) : Int) := by simp
    rw [e1, off_id (n := ((tm f * oneG l f : Nat) : Int)) (by omega) (by omega), off_id (n := (a : Int) + ((tm f * oneG l f : Nat) : Int)) (by omega) (by omega)]
    simp
  · rintro ⟨b, a⟩ _
    simp [f64_b2, fpart]

theorem fpart_len (l : List T62) (hs : Small l) (hR : Right l l.length) (n k off a : Nat) (hk : k < l.length) : (fpart (finF l n) l off (l.getD k default).f3 a).length ≤ 500000000 := by
  have h40 := (hs.at k).1
  have hpart : ∀ (fs : List T35) (a : Nat), (∀ f ∈ fs, f ∈ (l.getD k default).f3) → (fpart (finF l n) l off fs a).length ≤ fs.length * 10000100 := by
    intro fs
    induction fs with
    | nil => intro _ _; exact Nat.zero_le _
    | cons f fs ih =>
      intro a hfs
      have h1 := ih (a + tm f * oneG l f) fun x hx => hfs x (List.mem_cons_of_mem _ hx)
      have hfm := hfs f (List.mem_cons_self ..)
      have htm := tm_le ((hR.fit k hk).1 f hfm)
      have h2 : (cond (f.f1 == ([] : List UInt8)) [] ((List.range (tm f)).flatMap fun q => finF l n ((fd l f.f1).getD 0) (off + a + q * oneG l f))).length ≤ 10000100 := by
        by_cases hn : f.f1 = []
        · rw [show (f.f1 == ([] : List UInt8)) = true from beq_iff_eq.2 hn]; simp
        · obtain ⟨j, hj, hjk⟩ := typ_lt hR hk hfm hn
          rw [show (f.f1 == ([] : List UInt8)) = false from beq_eq_false_iff_ne.2 hn, hj, cond_false, Option.getD_some]
          have h3 := flatMap_len (v := List.range (tm f)) (g := fun q => finF l n j (off + a + q * oneG l f)) (c := 100001) fun q _ => finF_len2 hR n j _ (by omega)
          rw [List.length_range] at h3
          have : tm f * 100001 ≤ 100 * 100001 := Nat.mul_le_mul_right _ htm
          omega
      simp only [fpart, List.length_append, List.length_cons]
      omega
  have := hpart (l.getD k default).f3 a fun _ h => h
  omega

theorem base_le {l : List T62} (hR : Right l l.length) {k : Nat} (hk : k < l.length) : base (us l k) l k ≤ 100000 := by
  have h := (hR.low k hk).1
  unfold un at h
  omega

theorem f64R_eq (l : List T62) (hs : Small l) (hR : Right l l.length) : ∀ (n k off : Nat), k < n → k < l.length → off + k * 1000000000 ≤ 1000000000000 → f64R n l (k : Int) (off : Int) = some (finF l n k off) := by
  intro n
  induction n with
  | zero => intro k off h; omega
  | succ n ihn =>
    intro k off hkn hk hoff
    have hlen := hs.len
    have ih : ∀ (j o : Nat), j < k → o + j * 1000000000 ≤ 1000000000000 → f64R n l (j : Int) (o : Int) = some (finF l n j o) := fun j o hj ho => ihn j o (by omega) (by omega) ho
    have g1 : (0 : Int) ≤ k ∧ (k : Int) < (l.length : Int) := ⟨by omega, by omega⟩
    have hb := base_le hR hk
    have hj4 : ∀ acc : List T37, acc.length ≤ 1 → f64_j4 (f64R n) l (k : Int) (off : Int) acc ((base (us l k) l k : Nat) : Int) = some (acc ++ (fpart (finF l n) l off (l.getD k default).f3 (base (us l k) l k) ++ (match prt l k with | some p => finF l n p off | none => []))) := fun acc hacc => by
      unfold f64_j4
      rw [f64_fields l hs hR n (f64R n) k off hk hoff ih acc hacc _ hb]
      simp only [Option.bind_some, Int.toNat_natCast, f64_j3]
      have hN : Named l k := fun j hj => hR.named j (by omega)
      by_cases hp : par l k = []
      · rw [show ((l.getD k default).f1 == ([] : List UInt8)) = true from beq_iff_eq.2 hp, prt_nil hN hp]
        simp
      · obtain ⟨p, hpp⟩ := prt_of (hR.fit k hk).2 hp
        have hlt := prt_lt hpp
        have hl2 := finF_len2 hR n p off hlt.2
        have hl3 := fpart_len l hs hR n k off (base (us l k) l k) hk
        rw [show ((l.getD k default).f1 == ([] : List UInt8)) = false from beq_eq_false_iff_ne.2 hp, hpp, f45_eq l hs.max, show fd l (l.getD k default).f1 = some p from (fd_take.1 hpp).1]
        simp only [Bool.not_false, cond_true, Option.bind_some, idx]
        rw [ih p off hlt.1 (Nat.le_trans (Nat.add_le_add_left (Nat.mul_le_mul_right _ (Nat.le_of_lt hlt.1)) _) hoff)]
        simp only [Option.bind_some]
        rw [if_pos (by simp only [List.length_append]; omega), List.append_assoc]
    have hj5 : ∀ acc : List T37, acc.length ≤ 1 → f64_j5 (f64R n) l (k : Int) (off : Int) acc = some (acc ++ (fpart (finF l n) l off (l.getD k default).f3 (base (us l k) l k) ++ (match prt l k with | some p => finF l n p off | none => []))) := fun acc hacc => by
      have hN : Named l k := fun j hj => hR.named j (by omega)
      rw [← hj4 acc hacc]
      unfold f64_j5
      rw [Int.toNat_natCast]
      by_cases hp : par l k = []
      · rw [show ((l.getD k default).f1 == ([] : List UInt8)) = true from beq_iff_eq.2 hp]
        unfold base
        rw [prt_nil hN hp]
        rfl
      · obtain ⟨p, hpp⟩ := prt_of (hR.fit k hk).2 hp
        have hlt := prt_lt hpp
        rw [show ((l.getD k default).f1 == ([] : List UInt8)) = false from beq_eq_false_iff_ne.2 hp, f45_eq l hs.max, show fd l (l.getD k default).f1 = some p from (fd_take.1 hpp).1]
        simp only [Bool.not_false, cond_true, Option.bind_some, idx, f54_eq l hs hR p hlt.2]
        unfold base
        rw [hpp]
        simp only
        rw [us_at l k p hlt.1]
    show f64F (f64R n) l (k : Int) (off : Int) = _
    unfold f64F
    rw [if_pos g1, Int.toNat_natCast]
    simp only [finF]
    cases hf5 : (l.getD k default).f5 == ([] : List UInt8) with
    | true => rw [Bool.not_true, cond_false, hj5 [] (by simp)]; rfl
    | false => rw [Bool.not_false, cond_true, if_pos (by simp), hj5 [T37.mk (l.getD k default).f5 (off : Int)] (by simp)]; rfl

theorem f64_eq (l : List T62) (hs : Small l) (hR : Right l l.length) (k : Nat) (hk : k < l.length) : f64 l (k : Int) 0 = some (finF l 100 k 0) := by
  have hlen := hs.len
  have := f64R_eq l hs hR 100 k 0 (by omega) hk (by omega)
  unfold f64
  rw [← this]
  rfl

end Go.Sx.der

namespace Go.Sx.der
open Go Go.Sx

theorem cap_us {l : List T62} {n : Nat} (h : ∀ k, k < n → un (us l k) l k ≤ 100000 ∧ pn (ps l k) l k ≤ 100000) : ∀ k, k ≤ n → (us l k).map cp = us l k
  | 0, _ => rfl
  | k + 1, hk => by
    have := h k (by omega)
    simp only [us, List.map_append, cap_us h k (by omega), List.map_cons, List.map_nil, cp_id (show un (us l k) l k ≤ 100001 by omega)]

theorem laid_eq (l : List T62) (hs : Small l) (hR : Right l l.length) (n : Nat) (hn : n ≤ l.length) : ∃ t, f42 l (n : Int) = some t ∧ t.f0 = ints (us l n) := by
  have hR' := hR.le hn
  obtain ⟨t, h1, h2, _⟩ := f42_eq l hs n hn hR'.named hR'.fit (fun k hk => hR'.low k (by omega))
  exact ⟨t, h1, by rw [h2, cap_us hR'.low n (Nat.le_refl _)]⟩

theorem f52_eq (l : List T62) (hs : Small l) (t : T68) (ht : t.f0 = ints (us l l.length)) (f : T35) (h : FOk l f) : f52 t l f = some ((oneG l f : Nat) : Int) := by
  unfold f52 oneG
  by_cases hn : f.f1 = []
  · rw [show (f.f1 == ([] : List UInt8)) = true from beq_iff_eq.2 hn]; rfl
  · obtain ⟨j, hj⟩ := h.2 hn
    have hjl := (fd_some hj).1
    rw [show (f.f1 == ([] : List UInt8)) = false from beq_eq_false_iff_ne.2 hn, cond_false, f49_eq l hs.max, List.take_length, hj, if_neg (by decide), ht]
    simp only [Option.bind_some, idx, Option.getD_some, Int.toNat_natCast]
    rw [if_pos ⟨by omega, by rw [ints_length, us_length]; omega⟩, intsD (by rw [us_length]; omega)]

theorem f36_refl (v : List T37) (h : v.length ≤ maxLen) : f36 v v = some true := by
  have key := iter_list v h (fun i => f36_b1 v v i) (fun _ _ => (Out.go () : Out Bool Unit)) ?_ ?_
  · unfold f36
    rw [key]; simp
  · intro i x r hi hx _
    have g1 : (0 : Int) ≤ i ∧ (i : Int) < (v.length : Int) := ⟨by omega, by omega⟩
    right
    simp only [f36_b1, Int.toNat_natCast, hx, g1, and_self, if_true, decide_true, cond_true, beq_self_eq_true, Bool.and_self, Bool.not_true, cond_false]
  · simp [f36_b1]

theorem f34_eq (l : List T62) (hs : Small l) (hg : Gs l) (s : List UInt8) (i : Nat) (hR : Right l l.length) (h : (chk l).2 = 0) (hf : fd l s = some i) : f34 l s = some (finF l 100 i 0, 0) := by
  have hi := (fd_some hf).1
  have e : askd l s = ((i : Int), 0) := by
    unfold askd
    rw [show ((chk l).2 != 0) = false by simp [h], cond_false, hf]
  unfold f34
  rw [f43_eq l hs hg, e]
  simp only [Option.bind_some, bne_self_eq_false, cond_false, f64_eq l hs hR i hi]


theorem f65_typed (l : List T62) (hs : Small l) (hR : Right l l.length) (n : Nat) (rc : T68 → List T62 → Int → Int → List T37 → Option (List T37)) (t : T68) (ht : t.f0 = ints (us l l.length)) (k i p0 j : Nat) (hk : k < l.length) (hi : i < ((l.getD k default).f3).length)
    (hn : (((l.getD k default).f3).getD i default).f1 ≠ []) (hj : fd (l.take k) (((l.getD k default).f3).getD i default).f1 = some j) (B : Nat) (hB : B + j * 1000000000 + 20000000 ≤ 1000000000000) (hp0 : p0 + j * 1000000000 + 20000000 ≤ 1000000000000)
    (ih : ∀ (o : Nat) (out : List T37), o + j * 1000000000 ≤ 1000000000000 → out.length + j * 1000000000 ≤ 1000000000000 → rc t l (j : Int) (o : Int) out = some (out ++ finF l n j o)) (acc : List T37) (hacc : acc.length ≤ B) :
    iter (fun s => f65_b2 rc t l (k : Int) (i : Int) s.1 s.2.1 s.2.2) (acc, (p0 : Int), (0 : Int)) =
      some (.go (acc ++ (List.range (tm (((l.getD k default).f3).getD i default))).flatMap (fun q => finF l n j (p0 + q * oneG l (((l.getD k default).f3).getD i default))), ((p0 + tm (((l.getD k default).f3).getD i default) * oneG l (((l.getD k default).f3).getD i default) : Nat) : Int))) := by
  have hjk := (fd_take.1 hj).2
  have hF := hR.fit k hk
  have hfm := getD_mem hi
  have htm := tm_le (hF.1 _ hfm)
  have hone := oneG_le hR (((l.getD k default).f3).getD i default)
  have hfo : FOk l (((l.getD k default).f3).getD i default) := ⟨hF.1 _ hfm, fun hne => ⟨j, (fd_take.1 hj).1⟩⟩
  have hf52 := f52_eq l hs t ht _ hfo
  have hmx := maxLen_big
  generalize hf : ((l.getD k default).f3).getD i default = f at *
  refine iter_listG (List.range (tm f)) (by rw [List.length_range]; omega) (fun s => f65_b2 rc t l (k : Int) (i : Int) s.1 s.2.1 s.2.2) (fun (b : List T37 × Nat) q => (b.1, (b.2 : Int), q))
    (fun r _ b => (Out.go (b.1 ++ r.flatMap (fun q => finF l n j (p0 + q * oneG l f)), ((p0 + tm f * oneG l f : Nat) : Int)) : Out (List T37) ((List T37) × Int))) (fun q b => b.1.length ≤ B + q * 100001 ∧ b.2 = p0 + q * oneG l f) ?_ ?_ (acc, p0) ⟨by simpa using hacc, by simp⟩
  · rintro q x r ⟨b, pl⟩ ⟨hb, hpl⟩ hq hx _
    simp only at hb hpl
    right
    rw [List.length_range] at hq
    have hxq : x = q := by
      rw [List.getD_eq_getElem?_getD, List.getElem?_range hq] at hx
      exact hx.symm
    subst hxq
    subst hpl
    have hlen := finF_len2 hR n j (p0 + x * oneG l f) (by omega)
    have hmul : x * oneG l f ≤ 100 * 100000 := Nat.mul_le_mul (by omega) hone
    have hx1 : x * 100001 ≤ 100 * 100001 := Nat.mul_le_mul_right _ (by omega)
    refine ⟨(b ++ finF l n j (p0 + x * oneG l f), p0 + (x + 1) * oneG l f), ?_, ⟨by simp only [List.length_append, Nat.succ_mul]; omega, rfl⟩, by simp⟩
    simp only [f65_b2, f65_j1, Int.toNat_natCast, hf, tm_int]
    rw [show decide ((x : Int) < ((tm f : Nat) : Int)) = true from decide_eq_true (by omega), cond_true, show (f.f1 == ([] : List UInt8)) = false from beq_eq_false_iff_ne.2 hn, Bool.not_false, cond_true, f49_eq l hs.max, hj]
    simp only [Option.bind_some, idx]
    rw [ih _ b (by omega) (by omega)]
    simp only [Option.bind_some, hf52]
    rw [off_id (n := ((p0 + x * oneG l f : Nat) : Int) + ((oneG l f : Nat) : Int)) (by omega) (by omega)]
    rw [show ((p0 + x * oneG l f : Nat) : Int) + ((oneG l f : Nat) : Int) = ((p0 + (x + 1) * oneG l f : Nat) : Int) by rw [Nat.succ_mul]; omega]
  · rintro ⟨b, pl⟩ ⟨_, hpl⟩
    simp only at hpl
    rw [List.length_range] at hpl ⊢
    subst hpl
    simp only [f65_b2, Int.toNat_natCast, hf, tm_int]
    simp

theorem f65_plain (l : List T62) (hs : Small l) (hR : Right l l.length) (rc : T68 → List T62 → Int → Int → List T37 → Option (List T37)) (t : T68) (ht : t.f0 = ints (us l l.length)) (k i p0 : Nat) (hk : k < l.length) (hi : i < ((l.getD k default).f3).length)
    (hn : (((l.getD k default).f3).getD i default).f1 = []) (hp0 : p0 ≤ 2000000000000) (acc : List T37) :
    iter (fun s => f65_b2 rc t l (k : Int) (i : Int) s.1 s.2.1 s.2.2) (acc, (p0 : Int), (0 : Int)) =
      some (.go (acc, ((p0 + tm (((l.getD k default).f3).getD i default) * oneG l (((l.getD k default).f3).getD i default) : Nat) : Int))) := by
  have hF := hR.fit k hk
  have hfm := getD_mem hi
  have htm := tm_le (hF.1 _ hfm)
  have hone := oneG_le hR (((l.getD k default).f3).getD i default)
  have hfo : FOk l (((l.getD k default).f3).getD i default) := ⟨hF.1 _ hfm, fun hne => absurd hn hne⟩
  have hf52 := f52_eq l hs t ht _ hfo
  have hmx := maxLen_big
  generalize hf : ((l.getD k default).f3).getD i default = f at *
  refine iter_listG (List.range (tm f)) (by rw [List.length_range]; omega) (fun s => f65_b2 rc t l (k : Int) (i : Int) s.1 s.2.1 s.2.2) (fun (b : List T37 × Nat) q => (b.1, (b.2 : Int), q))
    (fun _ _ _ => (Out.go (acc, ((p0 + tm f * oneG l f : Nat) : Int)) : Out (List T37) ((List T37) × Int))) (fun q b => b.1 = acc ∧ b.2 = p0 + q * oneG l f) ?_ ?_ (acc, p0) ⟨rfl, by simp⟩
  · rintro q x r ⟨b, pl⟩ ⟨hb, hpl⟩ hq hx _
    simp only at hb hpl
    right
    rw [List.length_range] at hq
    subst hb hpl
    have hmul : q * oneG l f ≤ 100 * 100000 := Nat.mul_le_mul (by omega) hone
    refine ⟨(b, p0 + (q + 1) * oneG l f), ?_, ⟨rfl, rfl⟩, rfl⟩
    simp only [f65_b2, f65_j1, Int.toNat_natCast, hf, tm_int]
    rw [show decide ((q : Int) < ((tm f : Nat) : Int)) = true from decide_eq_true (by omega), cond_true, show (f.f1 == ([] : List UInt8)) = true from beq_iff_eq.2 hn, Bool.not_true, cond_false, hf52]
    simp only [Option.bind_some]
    rw [off_id (n := ((p0 + q * oneG l f : Nat) : Int) + ((oneG l f : Nat) : Int)) (by omega) (by omega)]
    rw [show ((p0 + q * oneG l f : Nat) : Int) + ((oneG l f : Nat) : Int) = ((p0 + (q + 1) * oneG l f : Nat) : Int) by rw [Nat.succ_mul]; omega]
  · rintro ⟨b, pl⟩ ⟨hb, hpl⟩
    simp only at hb hpl
    rw [List.length_range] at hpl ⊢
    subst hb hpl
    simp only [f65_b2, Int.toNat_natCast, hf, tm_int]
    simp

theorem elem_len {l : List T62} (hR : Right l l.length) (n k off a : Nat) (hk : k < l.length) {f : T35} (hfm : f ∈ (l.getD k default).f3) :
    (cond (f.f1 == ([] : List UInt8)) [] ((List.range (tm f)).flatMap fun q => finF l n ((fd l f.f1).getD 0) (off + a + q * oneG l f))).length ≤ 10000100 := by
  have htm := tm_le ((hR.fit k hk).1 f hfm)
  by_cases hn : f.f1 = []
  · rw [show (f.f1 == ([] : List UInt8)) = true from beq_iff_eq.2 hn]; simp
  · obtain ⟨j, hj, hjk⟩ := typ_lt hR hk hfm hn
    rw [show (f.f1 == ([] : List UInt8)) = false from beq_eq_false_iff_ne.2 hn, hj, cond_false, Option.getD_some]
    have h3 := flatMap_len (v := List.range (tm f)) (g := fun q => finF l n j (off + a + q * oneG l f)) (c := 100001) fun q _ => finF_len2 hR n j _ (by omega)
    rw [List.length_range] at h3
    have : tm f * 100001 ≤ 100 * 100001 := Nat.mul_le_mul_right _ htm
    omega

theorem f65_fields (l : List T62) (hs : Small l) (hR : Right l l.length) (n : Nat) (rc : T68 → List T62 → Int → Int → List T37 → Option (List T37)) (t : T68) (ht : t.f0 = ints (us l l.length)) (k off : Nat) (hk : k < l.length) (hoff : off + k * 1000000000 ≤ 1000000000000)
    (ih : ∀ (j o : Nat) (out : List T37), j < k → o + j * 1000000000 ≤ 1000000000000 → out.length + j * 1000000000 ≤ 1000000000000 → rc t l (j : Int) (o : Int) out = some (out ++ finF l n j o)) (acc : List T37) (hacc : acc.length + k * 1000000000 ≤ 1000000000001) (b0 : Nat) (hb0 : b0 ≤ 100000) :
    iter (fun s => f65_b3 rc t l (k : Int) s.1 s.2.1 s.2.2) (acc, ((off + b0 : Nat) : Int), (0 : Int)) = some (.go (acc ++ fpart (finF l n) l off (l.getD k default).f3 b0)) := by
  have h40 := (hs.at k).1
  have hmx := maxLen_big
  have gk : (0 : Int) ≤ k ∧ (k : Int) < (l.length : Int) := ⟨by omega, by omega⟩
  have key := iter_listG (l.getD k default).f3 (by omega) (fun s => f65_b3 rc t l (k : Int) s.1 s.2.1 s.2.2) (fun (b : List T37 × Nat) i => (b.1, ((off + b.2 : Nat) : Int), i))
    (fun r _ b => (Out.go (b.1 ++ fpart (finF l n) l off r b.2) : Out (List T37) (List T37))) (fun i b => b.1.length + k * 1000000000 ≤ 1000000000001 + i * 10000100 ∧ b.2 ≤ 100000 + i * 10000000) ?_ ?_ (acc, b0) ⟨by simpa using hacc, by simpa using hb0⟩
  · exact key
  · rintro i f r ⟨b, a⟩ ⟨hb, ha⟩ hi hf _
    simp only at hb ha
    right
    have hfm := getD_mem hi
    rw [hf] at hfm
    have hF := hR.fit k hk
    have htm := tm_le (hF.1 f hfm)
    have hone := oneG_le hR f
    have hw : tm f * oneG l f ≤ 100 * 100000 := Nat.mul_le_mul htm hone
    have hlen := elem_len hR n k off a hk hfm
    have hin : iter (fun s => f65_b2 rc t l (k : Int) (i : Int) s.1 s.2.1 s.2.2) (b, ((off + a : Nat) : Int), (0 : Int)) =
        some (.go (b ++ cond (f.f1 == ([] : List UInt8)) [] ((List.range (tm f)).flatMap fun q => finF l n ((fd l f.f1).getD 0) (off + a + q * oneG l f)), ((off + (a + tm f * oneG l f) : Nat) : Int))) := by
      by_cases hn : f.f1 = []
      · have := f65_plain l hs hR rc t ht k i (off + a) hk hi (by rw [hf]; exact hn) (by omega) b
        rw [hf] at this
        rw [this, show (f.f1 == ([] : List UInt8)) = true from beq_iff_eq.2 hn, cond_true, List.append_nil, Nat.add_assoc]
      · obtain ⟨ht', htk⟩ := typ_of hF.2 hfm hn
        have h2 : typ l k f * 1000000000 + 1000000000 ≤ k * 1000000000 := by
          have := Nat.mul_le_mul_right 1000000000 htk
          rw [Nat.succ_mul] at this
          exact this
        have := f65_typed l hs hR n rc t ht k i (off + a) (typ l k f) hk hi (by rw [hf]; exact hn) (by rw [hf]; exact ht') b.length (by omega) (by omega) (fun o out h1 h2 => ih _ o out htk h1 h2) b (Nat.le_refl _)
        rw [hf] at this
        rw [this, show (f.f1 == ([] : List UInt8)) = false from beq_eq_false_iff_ne.2 hn, (fd_take.1 ht').1, cond_false, Option.getD_some, Nat.add_assoc off]
    refine ⟨(b ++ cond (f.f1 == ([] : List UInt8)) [] ((List.range (tm f)).flatMap fun q => finF l n ((fd l f.f1).getD 0) (off + a + q * oneG l f)), a + tm f * oneG l f), ?_, ⟨by simp only [List.length_append]; omega, by simp only; omega⟩, by simp only [fpart, List.append_assoc]⟩
    simp only [f65_b3, Int.toNat_natCast]
    rw [if_pos gk, show decide ((i : Int) < (((l.getD k default).f3).length : Int)) = true from by simpa using hi, cond_true, if_pos ⟨gk.1, gk.2, by omega, by omega⟩, hin]
    rfl
  · rintro ⟨b, a⟩ _
    simp only [f65_b3]
    rw [if_pos gk]
    simp [fpart]

theorem f65R_eq (l : List T62) (hs : Small l) (hR : Right l l.length) (t : T68) (ht : t.f0 = ints (us l l.length)) : ∀ (n k off : Nat) (out : List T37), k < n → k < l.length → off + k * 1000000000 ≤ 1000000000000 → out.length + k * 1000000000 ≤ 1000000000000 → f65R n t l (k : Int) (off : Int) out = some (out ++ finF l n k off) := by
  intro n
  induction n with
  | zero => intro k off out h; omega
  | succ n ihn =>
    intro k off out hkn hk hoff hout
    have hlen := hs.len
    have ih : ∀ (j o : Nat) (out : List T37), j < k → o + j * 1000000000 ≤ 1000000000000 → out.length + j * 1000000000 ≤ 1000000000000 → f65R n t l (j : Int) (o : Int) out = some (out ++ finF l n j o) := fun j o out hj ho ho' => ihn j o out (by omega) (by omega) ho ho'
    have g1 : (0 : Int) ≤ k ∧ (k : Int) < (l.length : Int) := ⟨by omega, by omega⟩
    have hb := base_le hR hk
    have hN : Named l k := fun j hj => hR.named j (by omega)
    have hj5 : ∀ acc : List T37, acc.length + k * 1000000000 ≤ 1000000000001 → f65_j5 (f65R n) t l (k : Int) (off : Int) acc (idx (prt l k)) ((off + base (us l k) l k : Nat) : Int) = some (acc ++ (fpart (finF l n) l off (l.getD k default).f3 (base (us l k) l k) ++ (match prt l k with | some p => finF l n p off | none => []))) := fun acc hacc => by
      unfold f65_j5
      rw [f65_fields l hs hR n (f65R n) t ht k off hk hoff ih acc hacc _ hb]
      simp only [Option.bind_some, Int.toNat_natCast, f65_j4]
      rw [if_pos g1]
      by_cases hp : par l k = []
      · rw [show ((l.getD k default).f1 == ([] : List UInt8)) = true from beq_iff_eq.2 hp, prt_nil hN hp]
        simp
      · obtain ⟨p, hpp⟩ := prt_of (hR.fit k hk).2 hp
        have hlt := prt_lt hpp
        have hl3 := fpart_len l hs hR n k off (base (us l k) l k) hk
        have h2 : p * 1000000000 + 1000000000 ≤ k * 1000000000 := by
          have := Nat.mul_le_mul_right 1000000000 hlt.1
          rw [Nat.succ_mul] at this
          exact this
        have hout2 : (acc ++ fpart (finF l n) l off (l.getD k default).f3 (base (us l k) l k)).length + p * 1000000000 ≤ 1000000000000 := by
          rw [List.length_append]
          generalize (fpart (finF l n) l off (l.getD k default).f3 (base (us l k) l k)).length = q at hl3 ⊢
          generalize acc.length = q2 at hacc ⊢
          clear ih ihn
          omega
        rw [show ((l.getD k default).f1 == ([] : List UInt8)) = false from beq_eq_false_iff_ne.2 hp, hpp, Bool.not_false, cond_true, show idx (some p) = (p : Int) from rfl,
          ih p off _ hlt.1 (Nat.le_trans (Nat.add_le_add_left (Nat.mul_le_mul_right _ (Nat.le_of_lt hlt.1)) _) hoff) hout2]
        simp only [Option.bind_some, List.append_assoc]
    have hj6 : ∀ acc : List T37, acc.length + k * 1000000000 ≤ 1000000000001 → f65_j6 (f65R n) t l (k : Int) (off : Int) acc = some (acc ++ (fpart (finF l n) l off (l.getD k default).f3 (base (us l k) l k) ++ (match prt l k with | some p => finF l n p off | none => []))) := fun acc hacc => by
      rw [← hj5 acc hacc]
      unfold f65_j6
      rw [if_pos g1, Int.toNat_natCast, f49_eq l hs.max, show fd (l.take k) (l.getD k default).f1 = prt l k from rfl]
      simp only [Option.bind_some]
      rw [if_pos g1]
      by_cases hp : par l k = []
      · rw [show ((l.getD k default).f1 == ([] : List UInt8)) = true from beq_iff_eq.2 hp]
        unfold base
        rw [prt_nil hN hp]
        rfl
      · obtain ⟨p, hpp⟩ := prt_of (hR.fit k hk).2 hp
        have hlt := prt_lt hpp
        have hup := (hR.low p (by omega)).1
        rw [show ((l.getD k default).f1 == ([] : List UInt8)) = false from beq_eq_false_iff_ne.2 hp, hpp, Bool.not_false, cond_true, show idx (some p) = (p : Int) from rfl, ht, Int.toNat_natCast, if_pos ⟨by omega, by rw [ints_length, us_length]; omega⟩, intsD (by rw [us_length]; omega), us_at l l.length p (by omega)]
        have e : (off : Int) + ((un (us l p) l p : Nat) : Int) = ((off + base (us l k) l k : Nat) : Int) := by
          unfold base
          rw [hpp]
          simp only
          rw [us_at l k p hlt.1]
          omega
        rw [e, off_id (n := ((off + base (us l k) l k : Nat) : Int)) (by omega) (by omega)]
    show f65F (f65R n) t l (k : Int) (off : Int) out = _
    unfold f65F
    rw [if_pos g1, Int.toNat_natCast]
    simp only [finF]
    cases hf5 : (l.getD k default).f5 == ([] : List UInt8) with
    | true => rw [Bool.not_true, cond_false, hj6 out (by omega)]; rfl
    | false => rw [Bool.not_false, cond_true, if_pos g1, if_pos (by simp only [List.length_cons, List.length_nil]; omega), hj6 (out ++ [T37.mk (l.getD k default).f5 (off : Int)]) (by simp only [List.length_append, List.length_cons, List.length_nil]; omega), List.append_assoc]; rfl

theorem Pure.DeriveFinals : LawDeriveFinals := fun l s ⟨hl, hg⟩ _ => by
  unfold f10
  rw [f12_eq l hl, Option.bind_some, awake2]
  cases hb : long l with
  | true => rfl
  | false =>
    have hs := small_of hb
    have hlen := hs.len
    have hmx := maxLen_big
    rw [cond_false]
    rcases askd_cases l s with ⟨h, e⟩ | ⟨hR, h, hf, e⟩ | ⟨k, hR, h, hf, e⟩
    · unfold f34 f35
      rw [f43_eq l hs hg, f48_eq l hs hg, e]
      simp only [Option.bind_some, show (((0 : Int), (2 : Int)).2 != 0) = true from rfl, cond_true, f36_refl [] (by simp), beq_self_eq_true]
    · unfold f34 f35
      rw [f43_eq l hs hg, f48_eq l hs hg, e]
      simp only [Option.bind_some, show (((0 : Int), (5 : Int)).2 != 0) = true from rfl, cond_true, f36_refl [] (by simp), beq_self_eq_true]
    · have hk := (fd_some hf).1
      obtain ⟨t, ht1, ht⟩ := laid_eq l hs hR l.length (Nat.le_refl _)
      have h65 : f65 t l (k : Int) 0 [] = some (finF l 100 k 0) := by
        have := f65R_eq l hs hR t ht 100 k 0 [] (by omega) hk (by omega) (by simp; omega)
        unfold f65
        rw [List.nil_append] at this
        rw [← this]
        rfl
      have hl2 := finF_len2 hR 100 k 0 hk
      rw [f34_eq l hs hg s k hR h hf]
      unfold f35
      rw [f48_eq l hs hg, e]
      simp only [Option.bind_some, bne_self_eq_false, cond_false, ht1, h65, f36_refl _ (show (finF l 100 k 0).length ≤ maxLen by omega), cond_true, beq_self_eq_true]

end Go.Sx.der
