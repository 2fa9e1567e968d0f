/- The plain law: where a path leads; no condition. -/
import Derived.Test.YtplfiblnmnpllaaGxQ0
namespace Go.Sx.der
open Go Go.Sx

theorem cap_us {l : List T62} {n : Nat} (h : ∀ k, k < n → un (us l k) l k ≤ 100000 ∧ pn (ps l k) l k ≤ 100000) : ∀ k, k ≤ n → (us l k).map cp = us l k
  | 0, _ => rfl
  | k + 1, hk => by
    have := h k (by omega)
    simp only [us, List.map_append, cap_us h k (by omega), List.map_cons, List.map_nil, cp_id (show un (us l k) l k ≤ 100001 by omega)]

theorem laid_eq (l : List T62) (hs : Small l) (hR : Right l l.length) (n : Nat) (hn : n ≤ l.length) : ∃ t, f42 l (n : Int) = some t ∧ t.f0 = ints (us l n) := by
  have hR' := hR.le hn
  obtain ⟨t, h1, h2, _⟩ := f42_eq l hs n hn hR'.named hR'.fit (fun k hk => hR'.low k (by omega))
  exact ⟨t, h1, by rw [h2, cap_us hR'.low n (Nat.le_refl _)]⟩

theorem f50_loop (l : List T62) (hs : Small l) (us : List Nat) (hu : ∀ k ∈ us, k < l.length) (hul : us.length ≤ 100) : ∀ (m : Nat), m ≤ us.length → ∀ acc : List T35, acc.length + 40 * m ≤ 100000 →
    iter (fun s => f50_b1 l (ints us) s.1 s.2) (acc, (m : Int) - 1) = some (.go (acc ++ (us.take m).reverse.flatMap fun k => (l.getD k default).f3)) := by
  intro m
  induction m with
  | zero =>
    intro _ acc _
    refine iter_inr ?_
    simp [f50_b1]
  | succ m ih =>
    intro hm acc hacc
    have e0 : ((m + 1 : Nat) : Int) - 1 = (m : Int) := by omega
    have hget := ints_getD (us := us) (i := m) (by omega)
    have hmem := getD_mem (l := us) (i := m) (by omega)
    have hlt := hu _ hmem
    have h40 := (hs.at (us.getD m default)).1
    have hstep : f50_b1 l (ints us) acc (m : Int) = some (.inl (acc ++ (l.getD (us.getD m default) default).f3, (m : Int) - 1)) := by
      have hd : decide ((m : Int) ≥ 0) = true := by simp
      simp only [f50_b1, hd, cond_true, Int.toNat_natCast, hget]
      rw [if_pos ⟨by omega, by rw [ints_length]; omega, by omega, by omega, by omega⟩, w64_id (by omega) (by omega)]
    rw [e0, iter_inl hstep, ih (by omega) _ (by simp only [List.length_append]; omega)]
    congr 2
    have ht : us.take (m + 1) = us.take m ++ [us.getD m default] := by
      rw [List.take_succ_eq_append_getElem (by omega), getD_lt (show m < us.length by omega)]
    rw [ht, List.reverse_append]
    simp

theorem f50_eq (l : List T62) (hs : Small l) (i : Nat) (hi : i < l.length) : f50 l (i : Int) = some (allF l i) := by
  have hl := hs.len
  have hul := up_length l i
  have hu : ∀ k ∈ up l i, k < l.length := fun k hk => by have := up_le l i k hk; omega
  unfold f50
  have e : w64 (((ints (up l i)).length : Int) - 1) = ((up l i).length : Int) - 1 := by
    rw [ints_length, w64_id (by omega) (by omega)]
  rw [f58_eq l hs i hi, Option.bind_some, e, f50_loop l hs (up l i) hu (by omega) (up l i).length (Nat.le_refl _) [] (by simp; omega)]
  simp [allF]

theorem f52_eq (l : List T62) (hs : Small l) (t : T68) (ht : t.f0 = ints (us l l.length)) (f : T35) (h : FOk l f) : f52 t l f = some ((oneG l f : Nat) : Int) := by
  unfold f52 oneG
  by_cases hn : f.f1 = []
  · rw [show (f.f1 == ([] : List UInt8)) = true from beq_iff_eq.2 hn]; rfl
  · obtain ⟨j, hj⟩ := h.2 hn
    have hjl := (fd_some hj).1
    rw [show (f.f1 == ([] : List UInt8)) = false from beq_eq_false_iff_ne.2 hn, cond_false, f49_eq l hs.max, List.take_length, hj, if_neg (by decide), ht]
    simp only [Option.bind_some, idx, Option.getD_some, Int.toNat_natCast]
    rw [if_pos ⟨by omega, by rw [ints_length, us_length]; omega⟩, intsD (by rw [us_length]; omega)]

theorem f17_inner (l : List T62) (hs : Small l) (hR : Right l l.length) (t : T68) (ht : t.f0 = ints (us l l.length)) (ps : List T37) (m : Nat) (hm : m < ps.length) (fs : List T35) (hok : ∀ f ∈ fs, FOk l f) (hfs : fs.length ≤ 1600) (o : Nat) (ho : o ≤ 2000000000000) :
    iter (fun q => f17_b1 l ps t (m : Int) fs q.1 q.2) ((o : Int), (0 : Int)) = some (.go (((o + aheadF l fs (ps.getD m default).f0 : Nat) : Int), (((fs.takeWhile (other (ps.getD m default).f0)).length : Nat) : Int))) := by
  have gm : (0 : Int) ≤ m ∧ (m : Int) < (ps.length : Int) := ⟨by omega, by omega⟩
  have key := iter_listG fs (by have := maxLen_big; omega) (fun q => f17_b1 l ps t (m : Int) fs q.1 q.2) (fun (b : Nat) i => ((b : Int), i)) (fun r i b => (Out.go (((b + aheadF l r (ps.getD m default).f0 : Nat) : Int), (((i + (r.takeWhile (other (ps.getD m default).f0)).length : Nat)) : Int)) : Out (Int × List UInt8 × Int) (Int × Int))) (fun i b => b ≤ 2000000000000 + i * 10000000) ?_ ?_ o (by omega)
  · rw [key]; simp
  · intro i x r b hI hi hx _
    have g1 : (0 : Int) ≤ i ∧ (i : Int) < (fs.length : Int) := ⟨by omega, by omega⟩
    have hxm := getD_mem hi
    rw [hx] at hxm
    have hxo := hok x hxm
    have hw := W_le hR hxo
    simp only [f17_b1, f51, Int.toNat_natCast, hx, g1, gm, and_self, if_true, decide_true, cond_true, tm_int, f52_eq l hs t ht x hxo, Option.bind_some, aheadF_cons, List.takeWhile_cons]
    cases hn : x.f0 == (ps.getD m default).f0 with
    | true =>
      left
      rw [show other (ps.getD m default).f0 x = false by unfold other; rw [hn]; rfl]
      simp
    | false =>
      right
      rw [show other (ps.getD m default).f0 x = true by unfold other; rw [hn]; rfl]
      refine ⟨b + W l x, ?_, by omega, ?_⟩
      · have e : ((tm x : Nat) : Int) * ((oneG l x : Nat) : Int) = ((W l x : Nat) : Int) := by unfold W; simp
        rw [e, w64_id (n := ((W l x : Nat) : Int)) (by omega) (by omega), w64_id (n := (b : Int) + ((W l x : Nat) : Int)) (by omega) (by omega)]
        rfl
      · simp only [if_true, cond_false, List.length_cons]
        congr 3 <;> omega
  · intro b _
    simp [f17_b1, aheadF]

theorem take_drop_at {A : Type} [Inhabited A] {p : A → Bool} : ∀ {v : List A} {f : A} {r : List A}, v.dropWhile p = f :: r → (v.takeWhile p).length < v.length ∧ v.getD (v.takeWhile p).length default = f
  | [], _, _, h => by cases h
  | x :: v, f, r, h => by
    rw [List.dropWhile_cons] at h
    rw [List.takeWhile_cons]
    cases hp : p x with
    | true =>
      rw [hp] at h
      obtain ⟨h1, h2⟩ := take_drop_at (p := p) (v := v) h
      simp only [if_true, List.length_cons]
      exact ⟨by omega, by rw [List.getD_cons_succ]; exact h2⟩
    | false =>
      rw [hp] at h
      simp only [Bool.false_eq_true, if_false, List.length_nil, List.length_cons] at h ⊢
      injection h with h1 _
      exact ⟨by omega, by rw [List.getD_cons_zero]; exact h1⟩

theorem take_all {A : Type} {p : A → Bool} : ∀ {v : List A}, v.dropWhile p = [] → (v.takeWhile p).length = v.length
  | [], _ => rfl
  | x :: v, h => by
    rw [List.dropWhile_cons] at h
    rw [List.takeWhile_cons]
    cases hp : p x with
    | true => rw [hp] at h; simp only [if_true, List.length_cons]; rw [take_all h]
    | false => rw [hp] at h; cases h

theorem f17_loop (l : List T62) (hs : Small l) (hR : Right l l.length) (t : T68) (ht : t.f0 = ints (us l l.length)) (ps : List T37) (hps : ps.length ≤ 100) (s : List UInt8) (hk0 : KOk l s) :
    iter (fun q => f17_b2 l ps t q.1 q.2.1 q.2.2) ((0 : Int), s, (0 : Int)) = some (walkP l ps 0 s) := by
  have key := iter_listG ps (by have := maxLen_big; omega) (fun q => f17_b2 l ps t q.1 q.2.1 q.2.2) (fun (b : Nat × List UInt8) i => ((b.1 : Int), b.2, i)) (fun r _ b => walkP l r b.1 b.2) (fun i b => b.1 ≤ i * 20000000000 ∧ KOk l b.2) ?_ ?_ (0, s) ⟨by simp, hk0⟩
  · exact key
  · rintro i p r ⟨o, k⟩ ⟨hI, hK⟩ hi hx _
    simp only at hI hK
    have g1 : (0 : Int) ≤ i ∧ (i : Int) < (ps.length : Int) := ⟨by omega, by omega⟩
    simp only [f17_b2, Int.toNat_natCast]
    rw [show decide ((i : Int) < (ps.length : Int)) = true from by simpa using hi, cond_true]
    cases k with
    | nil => left; rfl
    | cons c cs =>
      obtain ⟨j, hj⟩ := hK (by simp)
      have hjl := (fd_some hj).1
      have hlen := allF_length l hs j hjl
      have hok := allF_ok hR hjl
      have hah := aheadF_le hR (allF l j) hok p.f0
      have hin := f17_inner l hs hR t ht ps i hi (allF l j) hok hlen o (by omega)
      rw [hx] at hin
      rw [show ((c :: cs) == ([] : List UInt8)) = false from rfl, cond_false, f49_eq l hs.max, List.take_length, hj]
      simp only [Option.bind_some, idx, f50_eq l hs j hjl, hin, walkP, hj, Option.getD_some, hx]
      cases hd : (allF l j).dropWhile (other p.f0) with
      | nil =>
        left
        rw [take_all hd]
        simp
      | cons f r' =>
        obtain ⟨hlt, hat⟩ := take_drop_at hd
        have hf := hok f (drop_mem hd)
        rw [show ((((allF l j).takeWhile (other p.f0)).length : Int) == ((allF l j).length : Int)) = false from beq_eq_false_iff_ne.2 (by omega), cond_false]
        have g2 : (0 : Int) ≤ (((allF l j).takeWhile (other p.f0)).length : Int) ∧ (((allF l j).takeWhile (other p.f0)).length : Int) < ((allF l j).length : Int) := ⟨by omega, by omega⟩
        simp only [g1, g2, and_self, if_true, Int.toNat_natCast, hat, tm_int, cond_or, Option.bind_some, f52_eq l hs t ht f hf]
        rw [show (decide (p.f1 < 0) || decide (p.f1 ≥ ((tm f : Nat) : Int))) = badP p f from rfl]
        cases hb : badP p f with
        | true => left; rfl
        | false =>
          right
          simp only [badP, Bool.or_eq_false_iff, decide_eq_false_iff_not] at hb
          have htm := tm_le hf.1
          have h1 : p.f1 = ((p.f1.toNat : Nat) : Int) := by omega
          have h2 : p.f1.toNat * oneG l f ≤ 100 * 100000 := Nat.mul_le_mul (by omega) (oneG_le hR f)
          refine ⟨(o + (aheadF l (allF l j) p.f0 + p.f1.toNat * oneG l f), f.f1), ?_, ⟨by simp only; omega, hf.2⟩, rfl⟩
          have e : p.f1 * ((oneG l f : Nat) : Int) = ((p.f1.toNat * oneG l f : Nat) : Int) := by rw [Int.natCast_mul, ← h1]
          rw [cond_false, e, small_off (n := ((p.f1.toNat * oneG l f : Nat) : Int)) (by omega) (by omega), small_off (n := ((o + aheadF l (allF l j) p.f0 : Nat) : Int) + ((p.f1.toNat * oneG l f : Nat) : Int)) (by omega) (by omega)]
          simp [Nat.add_assoc, Int.add_assoc]
  · rintro ⟨o, k⟩ _
    simp [f17_b2, walkP]

theorem f17_eq (l : List T62) (hs : Small l) (hg : Gs l) (ps : List T37) (hps : ps.length ≤ 100) (s : List UInt8) :
    f17 l s ps = some (cond ((askd l s).2 != 0) (0, [], (askd l s).2) (match walkP l ps 0 s with | .ret v => v | .go v => (v.1, v.2, 0))) := by
  unfold f17
  rw [f48_eq l hs hg, Option.bind_some]
  rcases askd_cases l s with ⟨h, e⟩ | ⟨hR, h, hf, e⟩ | ⟨i, hR, h, hf, e⟩
  · rw [e]; rfl
  · rw [e]; rfl
  · rw [e]
    obtain ⟨t, h1, h2⟩ := laid_eq l hs hR l.length (Nat.le_refl _)
    simp only [bne_self_eq_false, cond_false, h1, Option.bind_some]
    rw [f17_loop l hs hR t h2 ps hps s (fun _ => ⟨i, hf⟩)]
    cases walkP l ps 0 s <;> rfl

theorem Pure.DeriveOffsets : LawDeriveOffsets := fun l s ps ⟨hl, hg⟩ _ _ => by
  unfold f4
  rw [f12_eq l hl, Option.bind_some, awake2]
  cases hb : long l with
  | true => rfl
  | false =>
    by_cases hp : (ps.length : Int) > 100
    · rw [decide_eq_true hp]; rfl
    · have hs := small_of hb
      obtain ⟨r, h1, h2⟩ : ∃ r, f16 l s ps = some r ∧ f17 l s ps = some r := ⟨_, f16_eq l hs hg ps (by omega) s, f17_eq l hs hg ps (by omega) s⟩
      rw [decide_eq_false hp, h1, h2]
      simp

end Go.Sx.der

