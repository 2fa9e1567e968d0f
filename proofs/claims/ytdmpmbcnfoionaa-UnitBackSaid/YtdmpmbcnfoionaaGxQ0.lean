/- Plain laws of the printed functions of units: the check of sanity, bytes and numbers; no condition. -/
import Derived.Test.YtdmpmbcnfoionaaGxG
import Derived.Test.YtdmpmbcnfoionaaGxM
import Derived.Test.YtdmpmbcnfoionaaSxC
namespace Go.Sx.unit
open Go Go.Sx

theorem awake : f9 = some true := f9_le 30 true (by kernel_rfl)

/-- Bytes. -/
def By (l : List Int) : Prop := ∀ x ∈ l, 0 ≤ x ∧ x < 256

theorem By.drop {l : List Int} (h : By l) (n : Nat) : By (l.drop n) := fun x hx => h x (List.mem_of_mem_drop hx)
theorem By.take {l : List Int} (h : By l) (n : Nat) : By (l.take n) := fun x hx => h x (List.mem_of_mem_take hx)
theorem By.append {l m : List Int} (h : By l) (h' : By m) : By (l ++ m) := fun x hx => by rcases List.mem_append.1 hx with hx | hx; exact h x hx; exact h' x hx
theorem By.at {l : List Int} (h : By l) (i : Nat) : 0 ≤ l.getD i default ∧ l.getD i default < 256 := by
  rw [List.getD_eq_getElem?_getD]
  cases hi : l[i]? with
  | none => exact ⟨by decide, by decide⟩
  | some x => exact h x (List.mem_of_getElem? hi)

/-- The number of the first four bytes. -/
def num (l : List Int) : Int := 16777216 * l.getD 0 default + 65536 * l.getD 1 default + 256 * l.getD 2 default + l.getD 3 default

theorem num_bound {l : List Int} (h : By l) : 0 ≤ num l ∧ num l < 4294967296 := by
  have h0 := h.at 0
  have h1 := h.at 1
  have h2 := h.at 2
  have h3 := h.at 3
  unfold num
  omega

theorem orW (x y : Nat) (hx : x < 4294967296) (hy : y < 4294967296) : (BitVec.ofInt (IntKind.bits .i64) (x : Int) ||| BitVec.ofInt (IntKind.bits .i64) (y : Int)).toNat = x ||| y := by
  show (BitVec.ofInt 64 (x : Int) ||| BitVec.ofInt 64 (y : Int)).toNat = x ||| y
  simp only [BitVec.toNat_or, BitVec.ofInt_natCast, BitVec.toNat_ofNat]
  rw [Nat.mod_eq_of_lt (by omega), Nat.mod_eq_of_lt (by omega)]

theorem or_low (a b k : Nat) (h : b < 2 ^ k) : 2 ^ k * a ||| b = 2 ^ k * a + b := (Nat.two_pow_add_eq_or_of_lt h a).symm

theorem w64_nat {n : Nat} (h : n ≤ 9223372036854775807) : w64 (n : Int) = (n : Int) := w64_id (by omega) (by omega)

theorem f60_eq {l : List Int} (h : By l) (hl : 4 ≤ l.length) : f60 l = some (num l) := by
  unfold f60 num
  rw [if_pos ⟨by omega, by omega, by omega, by omega⟩]
  obtain ⟨a0, a1⟩ := h.at 0
  obtain ⟨b0, b1⟩ := h.at 1
  obtain ⟨c0, c1⟩ := h.at 2
  obtain ⟨d0, d1⟩ := h.at 3
  generalize l.getD 0 default = a at a0 a1 ⊢
  generalize l.getD 1 default = b at b0 b1 ⊢
  generalize l.getD 2 default = c at c0 c1 ⊢
  generalize l.getD 3 default = d at d0 d1 ⊢
  obtain ⟨a, rfl⟩ := Int.eq_ofNat_of_zero_le a0
  obtain ⟨b, rfl⟩ := Int.eq_ofNat_of_zero_le b0
  obtain ⟨c, rfl⟩ := Int.eq_ofNat_of_zero_le c0
  obtain ⟨d, rfl⟩ := Int.eq_ofNat_of_zero_le d0
  have m24 : min (Int.toNat (24 : Int)) (IntKind.bits .i64) = 24 := rfl
  have m16 : min (Int.toNat (16 : Int)) (IntKind.bits .i64) = 16 := rfl
  have m8 : min (Int.toNat (8 : Int)) (IntKind.bits .i64) = 8 := rfl
  rw [m24, m16, m8, w64_nat (n := a) (by omega), w64_nat (n := b) (by omega), w64_nat (n := c) (by omega), w64_nat (n := d) (by omega)]
  have e24 : (a : Int) * (2 : Int) ^ 24 = ((a * 16777216 : Nat) : Int) := by simp
  have e16 : (b : Int) * (2 : Int) ^ 16 = ((b * 65536 : Nat) : Int) := by simp
  have e8 : (c : Int) * (2 : Int) ^ 8 = ((c * 256 : Nat) : Int) := by simp
  have g1 : a * 16777216 ||| b * 65536 = a * 16777216 + b * 65536 := by
    have := or_low a (b * 65536) 24 (by omega)
    rw [Nat.mul_comm a]; exact this
  have g2 : (a * 16777216 + b * 65536) ||| c * 256 = a * 16777216 + b * 65536 + c * 256 := by
    have := or_low (a * 256 + b) (c * 256) 16 (by omega)
    rw [show a * 16777216 + b * 65536 = 2 ^ 16 * (a * 256 + b) by omega]; exact this
  have g3 : (a * 16777216 + b * 65536 + c * 256) ||| d = a * 16777216 + b * 65536 + c * 256 + d := by
    have := or_low (a * 65536 + b * 256 + c) d 8 (by omega)
    rw [show a * 16777216 + b * 65536 + c * 256 = 2 ^ 8 * (a * 65536 + b * 256 + c) by omega]; exact this
  rw [e24, e16, e8, w64_nat (n := a * 16777216) (by omega), w64_nat (n := b * 65536) (by omega), w64_nat (n := c * 256) (by omega), orW _ _ (by omega) (by omega), g1,
    w64_nat (n := a * 16777216 + b * 65536) (by omega), orW _ _ (by omega) (by omega), g2, w64_nat (n := a * 16777216 + b * 65536 + c * 256) (by omega), orW _ _ (by omega) (by omega), g3, w64_nat (by omega)]
  refine congrArg some ?_
  omega

/-- What stands at a place. -/
theorem getD_drop (l : List Int) (n i : Nat) : (l.drop n).getD i default = l.getD (n + i) default := by
  simp only [List.getD_eq_getElem?_getD, List.getElem?_drop]

theorem f38_eq {l : List Int} (h : By l) (n : Nat) (hn : n ≤ 1100000) : f38 l (n : Int) = some (if n + 4 ≤ l.length then num (l.drop n) else -1) := by
  have e1 : w64 ((n : Int) + 1) = ((n + 1 : Nat) : Int) := by rw [w64_id (by omega) (by omega)]; omega
  have e2 : w64 ((n : Int) + 2) = ((n + 2 : Nat) : Int) := by rw [w64_id (by omega) (by omega)]; omega
  have e3 : w64 ((n : Int) + 3) = ((n + 3 : Nat) : Int) := by rw [w64_id (by omega) (by omega)]; omega
  have e4 : w64 ((n : Int) + 4) = ((n + 4 : Nat) : Int) := by rw [w64_id (by omega) (by omega)]; omega
  unfold f38
  rw [e1, e2, e3, e4]
  by_cases hc : n + 4 ≤ l.length
  · have hd : decide (((n + 4 : Nat) : Int) > (l.length : Int)) = false := by simp; omega
    rw [hd, cond_false, if_pos ⟨by omega, by omega, by omega, by omega, by omega, by omega, by omega, by omega⟩, if_pos hc]
    simp only [Int.toNat_natCast, num, getD_drop, Nat.add_zero]
    obtain ⟨a0, a1⟩ := h.at n
    obtain ⟨b0, b1⟩ := h.at (n + 1)
    obtain ⟨c0, c1⟩ := h.at (n + 2)
    obtain ⟨d0, d1⟩ := h.at (n + 3)
    generalize l.getD n default = a at a0 a1 ⊢
    generalize l.getD (n + 1) default = b at b0 b1 ⊢
    generalize l.getD (n + 2) default = c at c0 c1 ⊢
    generalize l.getD (n + 3) default = d at d0 d1 ⊢
    rw [w64_id (n := a) (by omega) (by omega), w64_id (n := b) (by omega) (by omega), w64_id (n := c) (by omega) (by omega), w64_id (n := d) (by omega) (by omega), w64_id (n := 16777216 * a) (by omega) (by omega), w64_id (n := 65536 * b) (by omega) (by omega), w64_id (n := 256 * c) (by omega) (by omega),
      w64_id (n := 16777216 * a + 65536 * b) (by omega) (by omega), w64_id (n := 16777216 * a + 65536 * b + 256 * c) (by omega) (by omega), w64_id (by omega) (by omega)]
  · have hd : decide (((n + 4 : Nat) : Int) > (l.length : Int)) = true := by simp; omega
    rw [hd, if_neg hc]; rfl

/-- The four bytes of a length. -/
def mark (n : Nat) : List Int := [0, 0, ((n / 256 : Nat) : Int), ((n % 256 : Nat) : Int)]

theorem mark_by {n : Nat} (h : n ≤ 1000) : By (mark n) := fun x hx => by
  simp only [mark, List.mem_cons, List.not_mem_nil, or_false] at hx
  omega

theorem wrap_small {x : Int} (h0 : 0 ≤ x) (h1 : x < 256) : IntKind.wrap .u8 x = x := by
  simp only [IntKind.wrap, IntKind.signed, IntKind.bits]
  simp
  omega

theorem wrap_mod (n : Nat) : IntKind.wrap .u8 (n : Int) = ((n % 256 : Nat) : Int) := by
  simp only [IntKind.wrap, IntKind.signed, IntKind.bits]
  simp

theorem f40_eq (n : Nat) (h : n ≤ 1000) : f40 (n : Int) = some (mark n) := by
  have e1 : Int.tdiv (n : Int) 16777216 = 0 := by rw [Int.tdiv_eq_ediv_of_nonneg (by omega)]; omega
  have e2 : Int.tdiv (n : Int) 65536 = 0 := by rw [Int.tdiv_eq_ediv_of_nonneg (by omega)]; omega
  have e3 : Int.tdiv (n : Int) 256 = ((n / 256 : Nat) : Int) := by rw [Int.tdiv_eq_ediv_of_nonneg (by omega)]; omega
  have e0 : w64 0 = 0 := w64_id (by omega) (by omega)
  have e4 : Int.tmod (n : Int) 256 = ((n % 256 : Nat) : Int) := by rw [Int.tmod_eq_emod_of_nonneg (by omega)]; omega
  have e5 : Int.tmod ((n / 256 : Nat) : Int) 256 = ((n / 256 : Nat) : Int) := by rw [Int.tmod_eq_emod_of_nonneg (by omega)]; omega
  have e6 : Int.tmod 0 256 = 0 := rfl
  unfold f40 mark
  rw [e1, e2, e3, e0, w64_nat (n := n / 256) (by omega), e4, e5, e6, wrap_small (by omega) (by omega), wrap_small (by omega) (by omega), wrap_small (x := ((n % 256 : Nat) : Int)) (by omega) (by omega)]

end Go.Sx.unit

namespace Go.Sx.unit
open Go Go.Sx

theorem small : (1100000 : Nat) ≤ maxLen := by decide

theorem f64_eq (n : Nat) (h : n ≤ 1000000) : f64_e (n : Int) = some [] := by
  have e0 : w64 ((0 : Int) - 0) = 0 := w64_id (by omega) (by omega)
  have e1 : w64 ((n : Int) - 0) = (n : Int) := by rw [w64_id (by omega) (by omega)]; omega
  unfold f64_e
  rw [e0, e1]
  have h0 : decide ((n : Int) < 0) = false := by simp
  rw [h0, cond_false]
  rcases Bool.eq_false_or_eq_true (decide ((n : Int) > 0)) with hb | hb
  · rw [hb, cond_true, if_pos ⟨by omega, by omega⟩]; rfl
  · rw [hb]; rfl

theorem flatten_drop {A : Type} {l : List (List A)} {i : Nat} {x : List A} {r : List (List A)} (h : l.drop i = x :: r) : (l.drop i).flatten.length = x.length + r.flatten.length := by rw [h]; simp

theorem f61_eq (l : List (List Int)) (hl : l.length ≤ 1000000) (hs : l.flatten.length ≤ 1000000) : f61 l = some l.flatten := by
  have hsm := small
  have e1 : iter (fun s => f61_b1 l s.1 s.2) ((0 : Int), (0 : Int)) = some (.go ((l.flatten.length : Nat) : Int)) := by
    have := iter_listI l (by omega) (fun s => f61_b1 l s.1 s.2) (fun r _ b => (Out.go (b + (r.flatten.length : Int)) : Out (List Int) Int)) (fun i b => 0 ≤ b ∧ b + ((l.drop i).flatten.length : Int) ≤ 1000000) ?_ ?_ 0 ⟨by omega, by simp only [List.drop_zero]; omega⟩
    · rw [this]; simp
    · intro i x r b hI hi hx hd
      right
      have h1 : (0 : Int) ≤ i ∧ (i : Int) < (l.length : Int) := ⟨by omega, by omega⟩
      have hdec : decide ((i : Int) < (l.length : Int)) = true := by simpa using hi
      have hfl := flatten_drop hd
      have hr : l.drop (i + 1) = r := by rw [← List.tail_drop, hd]; rfl
      have hw : w64 (b + (x.length : Int)) = b + (x.length : Int) := w64_id (by omega) (by omega)
      have hneg : decide (b + (x.length : Int) < 0) = false := by simp; omega
      simp only [f61_b1, hdec, cond_true]
      rw [if_pos h1]
      simp only [Int.toNat_natCast, hx, hw, hneg, cond_false]
      refine ⟨_, rfl, ⟨by omega, by rw [hr]; omega⟩, ?_⟩
      simp only [List.flatten_cons, List.length_append]
      congr 1
      omega
    · intro b _
      simp [f61_b1]
  have e2 : iter (fun s => f61_b2 l s.1 s.2) (([] : List Int), (0 : Int)) = some (.go l.flatten) := by
    have := iter_listI l (by omega) (fun s => f61_b2 l s.1 s.2) (fun r _ b => (Out.go (b ++ r.flatten) : Out (List Int) (List Int))) (fun i b => b.length + (l.drop i).flatten.length ≤ 1000000) ?_ ?_ [] (by simp only [List.drop_zero, List.length_nil]; omega)
    · rw [this]; simp
    · intro i x r b hI hi hx hd
      right
      have h1 : (0 : Int) ≤ i ∧ (i : Int) < (l.length : Int) := ⟨by omega, by omega⟩
      have hdec : decide ((i : Int) < (l.length : Int)) = true := by simpa using hi
      have hfl := flatten_drop hd
      have hr : l.drop (i + 1) = r := by rw [← List.tail_drop, hd]; rfl
      simp only [f61_b2, hdec, cond_true]
      rw [if_pos h1]
      simp only [Int.toNat_natCast, hx]
      rw [if_pos (by omega)]
      exact ⟨_, rfl, by rw [hr, List.length_append]; omega, by simp only [List.flatten_cons, List.append_assoc]⟩
    · intro b _
      simp [f61_b2]
  unfold f61
  rw [e1]
  simp only [Option.bind_some, f64_eq _ hs, e2]

/-- A record between its lengths. -/
def wrapR (r : List Int) : List Int := mark r.length ++ (r ++ mark r.length)

theorem f39_eq (r : List Int) (h : r.length ≤ 1000) : f39 r = some (wrapR r) := by
  have m24 : min (Int.toNat (24 : Int)) (IntKind.bits .i64) = 24 := rfl
  have m16 : min (Int.toNat (16 : Int)) (IntKind.bits .i64) = 16 := rfl
  have m8 : min (Int.toNat (8 : Int)) (IntKind.bits .i64) = 8 := rfl
  have d24 : Int.fdiv (r.length : Int) ((2 : Int) ^ 24) = 0 := by rw [Int.fdiv_eq_ediv_of_nonneg _ (by omega)]; omega
  have d16 : Int.fdiv (r.length : Int) ((2 : Int) ^ 16) = 0 := by rw [Int.fdiv_eq_ediv_of_nonneg _ (by omega)]; omega
  have d8 : Int.fdiv (r.length : Int) ((2 : Int) ^ 8) = ((r.length / 256 : Nat) : Int) := by rw [Int.fdiv_eq_ediv_of_nonneg _ (by omega)]; omega
  unfold f39
  rw [m24, m16, m8, d24, d16, d8, wrap_small (x := 0) (by omega) (by omega), wrap_small (x := ((r.length / 256 : Nat) : Int)) (by omega) (by omega), wrap_mod]
  rw [f61_eq _ (by simp) (by simp; omega)]
  simp [wrapR, mark]

/-- The record at the front, and how many bytes it takes. -/
def front (l : List Int) : Option (List Int × Nat) :=
  if 8 ≤ l.length ∧ num l ≤ 1000 ∧ (num l).toNat + 8 ≤ l.length ∧ num (l.drop (4 + (num l).toNat)) = num l then some ((l.drop 4).take (num l).toNat, (num l).toNat + 8) else none

theorem front_some {l r : List Int} {k : Nat} (h : front l = some (r, k)) : 8 ≤ l.length ∧ num l ≤ 1000 ∧ (num l).toNat + 8 ≤ l.length ∧ num (l.drop (4 + (num l).toNat)) = num l ∧ r = (l.drop 4).take (num l).toNat ∧ k = (num l).toNat + 8 := by
  unfold front at h
  split at h
  · rename_i hc
    cases h
    exact ⟨hc.1, hc.2.1, hc.2.2.1, hc.2.2.2, rfl, rfl⟩
  · cases h

theorem front_pos {l : List Int} {n : Nat} (hn : num l = (n : Int)) (h1 : 8 ≤ l.length) (h2 : n ≤ 1000) (h3 : n + 8 ≤ l.length) (h4 : num (l.drop (4 + n)) = (n : Int)) : front l = some ((l.drop 4).take n, n + 8) := by
  unfold front
  rw [hn, Int.toNat_natCast, if_pos ⟨h1, by omega, h3, h4⟩]

theorem front_neg {l : List Int} {n : Nat} (hn : num l = (n : Int)) (h : ¬ (n ≤ 1000 ∧ n + 8 ≤ l.length ∧ num (l.drop (4 + n)) = (n : Int))) : front l = none := by
  unfold front
  rw [hn, Int.toNat_natCast, if_neg (by rintro ⟨a1, a2, a3, a4⟩; exact h ⟨by omega, a3, a4⟩)]

theorem front_short {l : List Int} (h : l.length < 8) : front l = none := by
  unfold front
  rw [if_neg (by rintro ⟨a1, _⟩; omega)]

abbrev recs : List UInt8 := [114, 101, 99, 111, 114, 100, 115]

def outF : Option (List Int × Nat) → List Int × Int × Bool
  | some (r, k) => (r, (k : Int), true)
  | none => ([], 0, false)

theorem f36_eq {l : List Int} (h : By l) (hl : l.length ≤ 1000000) : f36 recs l = some (outF (front l)) := by
  have hb := num_bound h
  have hn1 : (recs == ([108, 105, 110, 101, 115] : List UInt8)) = false := by decide
  unfold f36
  rw [hn1]
  simp only [cond_false]
  by_cases h8 : 8 ≤ l.length
  · have c1 : ((l.length : Int) == 0) = false := beq_eq_false_iff_ne.mpr (by omega)
    have c2 : decide ((l.length : Int) < 8) = false := decide_eq_false (by omega)
    rw [c1, c2, cond_false, cond_false, f60_eq h (by omega)]
    simp only [Option.bind_some, cond_or]
    obtain ⟨n, hn⟩ : ∃ n : Nat, num l = (n : Int) := ⟨(num l).toNat, by omega⟩
    have e8 : w64 ((n : Int) + 8) = ((n + 8 : Nat) : Int) := by rw [w64_id (by omega) (by omega)]; omega
    have e4 : w64 ((4 : Int) + n) = ((4 + n : Nat) : Int) := by rw [w64_id (by omega) (by omega)]; omega
    rw [hn, e8, e4]
    simp only [Int.toNat_natCast, List.take_length]
    rcases Bool.eq_false_or_eq_true (decide ((n : Int) > 1000) || decide ((l.length : Int) < ((n + 8 : Nat) : Int))) with hc | hc
    · rw [hc, front_neg hn (by simp only [Bool.or_eq_true, decide_eq_true_eq] at hc; omega)]
      rfl
    · rw [hc]
      simp only [Bool.or_eq_false_iff, decide_eq_false_iff_not] at hc
      rw [cond_false, if_pos ⟨by omega, by omega⟩, f60_eq (h.drop _) (by simp; omega)]
      simp only [Option.bind_some]
      rcases Bool.eq_false_or_eq_true (num (l.drop (4 + n)) != (n : Int)) with hd | hd
      · have : num (l.drop (4 + n)) ≠ (n : Int) := by simpa using hd
        rw [hd, front_neg hn (by rintro ⟨_, _, h4⟩; exact this h4)]
        rfl
      · have : num (l.drop (4 + n)) = (n : Int) := by simpa using hd
        rw [hd, cond_false, if_pos ⟨by omega, by omega⟩, front_pos hn h8 (by omega) (by omega) this]
        simp only [outF, List.take_drop]
  · rw [front_short (by omega)]
    by_cases h0 : l.length = 0
    · have c1 : ((l.length : Int) == 0) = true := by simp [h0]
      rw [c1]; rfl
    · have c1 : ((l.length : Int) == 0) = false := beq_eq_false_iff_ne.mpr (by omega)
      have c2 : decide ((l.length : Int) < 8) = true := decide_eq_true (by omega)
      rw [c1, c2]; rfl

/-- The records from a place on, each with its place. -/
def parse : Nat → List Int → Nat → Option (List (Nat × List Int))
  | 0, _, _ => none
  | k + 1, b, at_ => if at_ < b.length then (match front (b.drop at_) with
    | none => none
    | some (r, s) => (parse k b (at_ + s)).map fun l => (at_, r) :: l) else some []

theorem f35_loop {b : List Int} (h : By b) (hb : b.length ≤ 1000000) : ∀ (k at_ : Nat) (bs : List Int), b.length - at_ < k → at_ ≤ b.length → bs.length ≤ at_ →
    iter (fun s => f35_b1 recs b s.1 s.2) (bs, (at_ : Int)) = some (match parse k b at_ with | none => .ret ([], false) | some l => .go (bs ++ l.map fun p => ((p.1 : Nat) : Int)))
  | 0, _, _, hk, _, _ => by omega
  | k + 1, at_, bs, hk, ha, hbs => by
    by_cases hlt : at_ < b.length
    · have hd : decide ((at_ : Int) < (b.length : Int)) = true := by simpa using hlt
      have step : f35_b1 recs b bs (at_ : Int) = match front (b.drop at_) with | none => some (.inr (.ret ([], false))) | some (_, s) => some (.inl (bs ++ [(at_ : Int)], ((at_ + s : Nat) : Int))) := by
        simp only [f35_b1, hd, cond_true]
        rw [if_pos ⟨by omega, by omega⟩]
        simp only [Int.toNat_natCast, List.take_length]
        rw [f36_eq (h.drop _) (by simp; omega)]
        simp only [Option.bind_some]
        cases hf : front (b.drop at_) with
        | none => rfl
        | some p =>
          obtain ⟨r, s⟩ := p
          obtain ⟨f1, f2, f3, _, _, f6⟩ := front_some hf
          have hn := num_bound (h.drop at_)
          simp only [outF, Bool.not_true, cond_false]
          rw [if_pos (by simp; omega), w64_id (by omega) (by omega)]
          rfl
      simp only [parse, hlt, if_true]
      cases hf : front (b.drop at_) with
      | none =>
        rw [hf] at step
        rw [iter_inr (show (fun s : List Int × Int => f35_b1 recs b s.1 s.2) (bs, (at_ : Int)) = _ from step)]
      | some p =>
        obtain ⟨r, s⟩ := p
        rw [hf] at step
        obtain ⟨f1, f2, f3, _, _, f6⟩ := front_some hf
        rw [List.length_drop] at f1 f3
        rw [iter_inl (show (fun s : List Int × Int => f35_b1 recs b s.1 s.2) (bs, (at_ : Int)) = _ from step), f35_loop h hb k (at_ + s) (bs ++ [(at_ : Int)]) (by omega) (by omega) (by simp; omega)]
        cases hp : parse k b (at_ + s) <;> simp [hp]
    · have hd : decide ((at_ : Int) < (b.length : Int)) = false := by simpa using hlt
      have step : f35_b1 recs b bs (at_ : Int) = some (.inr (.go bs)) := by simp only [f35_b1, hd, cond_false]
      rw [iter_inr (show (fun s : List Int × Int => f35_b1 recs b s.1 s.2) (bs, (at_ : Int)) = _ from step)]
      simp [parse, hlt]

def parsed (b : List Int) : Option (List (Nat × List Int)) := parse (b.length + 1) b 0

theorem f35_eq {b : List Int} (h : By b) (hb : b.length ≤ 1000000) : f35 recs b = some (match parsed b with | none => ([], false) | some l => (l.map fun p => ((p.1 : Nat) : Int), true)) := by
  have := f35_loop h hb (b.length + 1) 0 [] (by omega) (Nat.zero_le _) (by simp)
  unfold f35
  rw [show ((0 : Int)) = ((0 : Nat) : Int) from rfl, this]
  unfold parsed
  cases parse (b.length + 1) b 0 <;> simp

theorem f11_loop {b : List Int} (h : By b) (hb : b.length ≤ 1000000) : ∀ (k at_ : Nat) (out : List (List Int)), b.length - at_ < k → at_ ≤ b.length → out.length ≤ at_ →
    iter (fun s => f11_b1 b s.1 s.2) (out, (at_ : Int)) = some (match parse k b at_ with | none => .ret ([], 3) | some l => .go (out ++ l.map (·.2)))
  | 0, _, _, hk, _, _ => by omega
  | k + 1, at_, out, hk, ha, hbs => by
    by_cases hlt : at_ < b.length
    · have hd : decide ((at_ : Int) < (b.length : Int)) = true := by simpa using hlt
      have hn := num_bound (h.drop at_)
      have step : f11_b1 b out (at_ : Int) = match front (b.drop at_) with | none => some (.inr (.ret ([], 3))) | some (r, s) => some (.inl (out ++ [r], ((at_ + s : Nat) : Int))) := by
        simp only [f11_b1, hd, cond_true]
        rw [f38_eq h at_ (by omega)]
        simp only [Option.bind_some, cond_or]
        have e4 : w64 ((at_ : Int) + 4) = ((at_ + 4 : Nat) : Int) := by rw [w64_id (by omega) (by omega)]; omega
        have e8 : w64 ((at_ : Int) + 8) = ((at_ + 8 : Nat) : Int) := by rw [w64_id (by omega) (by omega)]; omega
        rw [e4, e8]
        by_cases h4 : at_ + 4 ≤ b.length
        · rw [if_pos h4]
          obtain ⟨n, hnn⟩ : ∃ n : Nat, num (b.drop at_) = (n : Int) := ⟨(num (b.drop at_)).toNat, by omega⟩
          have e9 : w64 (((at_ + 8 : Nat) : Int) + n) = ((at_ + 8 + n : Nat) : Int) := by rw [w64_id (by omega) (by omega)]; omega
          have e5 : w64 (((at_ + 4 : Nat) : Int) + n) = ((at_ + 4 + n : Nat) : Int) := by rw [w64_id (by omega) (by omega)]; omega
          have e10 : w64 ((8 : Int) + n) = ((8 + n : Nat) : Int) := by rw [w64_id (by omega) (by omega)]; omega
          have e11 : w64 ((at_ : Int) + ((8 + n : Nat) : Int)) = ((at_ + (n + 8) : Nat) : Int) := by rw [w64_id (by omega) (by omega)]; omega
          rw [hnn, e9, e5, e10, e11]
          simp only [Int.toNat_natCast]
          rcases Bool.eq_false_or_eq_true ((decide ((n : Int) < 0) || decide ((n : Int) > 1000)) || decide (((at_ + 8 + n : Nat) : Int) > (b.length : Int))) with hc | hc
          · rw [hc, front_neg hnn (by simp only [Bool.or_eq_true, decide_eq_true_eq] at hc; simp only [List.length_drop]; omega)]
            rfl
          · rw [hc]
            simp only [Bool.or_eq_false_iff, decide_eq_false_iff_not] at hc
            rw [cond_false, f38_eq h (at_ + 4 + n) (by omega), if_pos (by omega)]
            simp only [Option.bind_some]
            have hdd : (b.drop at_).drop (4 + n) = b.drop (at_ + 4 + n) := by rw [List.drop_drop]; congr 1; omega
            rcases Bool.eq_false_or_eq_true (num (b.drop (at_ + 4 + n)) != (n : Int)) with hd2 | hd2
            · have : num (b.drop (at_ + 4 + n)) ≠ (n : Int) := by simpa using hd2
              rw [hd2, front_neg hnn (by rw [hdd]; rintro ⟨_, _, h4⟩; exact this h4)]
              rfl
            · have : num (b.drop (at_ + 4 + n)) = (n : Int) := by simpa using hd2
              rw [hd2, cond_false, if_pos ⟨by omega, by omega, by omega⟩, front_pos hnn (by simp only [List.length_drop]; omega) (by omega) (by simp only [List.length_drop]; omega) (by rw [hdd]; exact this)]
              simp only [List.length_nil, Nat.zero_add, List.nil_append, List.length_drop, List.length_take, List.length_cons, List.take_drop, List.drop_drop]
              rw [if_pos (by omega), if_pos (by omega)]
        · rw [if_neg h4, front_short (by simp only [List.length_drop]; omega)]
          rfl
      simp only [parse, hlt, if_true]
      cases hf : front (b.drop at_) with
      | none =>
        rw [hf] at step
        rw [iter_inr (show (fun s : List (List Int) × Int => f11_b1 b s.1 s.2) (out, (at_ : Int)) = _ from step)]
      | some p =>
        obtain ⟨r, s⟩ := p
        rw [hf] at step
        obtain ⟨f1, f2, f3, _, _, f6⟩ := front_some hf
        rw [List.length_drop] at f1 f3
        rw [iter_inl (show (fun s : List (List Int) × Int => f11_b1 b s.1 s.2) (out, (at_ : Int)) = _ from step), f11_loop h hb k (at_ + s) (out ++ [r]) (by omega) (by omega) (by simp; omega)]
        cases hp : parse k b (at_ + s) <;> simp [hp]
    · have hd : decide ((at_ : Int) < (b.length : Int)) = false := by simpa using hlt
      have step : f11_b1 b out (at_ : Int) = some (.inr (.go out)) := by simp only [f11_b1, hd, cond_false]
      rw [iter_inr (show (fun s : List (List Int) × Int => f11_b1 b s.1 s.2) (out, (at_ : Int)) = _ from step)]
      simp [parse, hlt]

/-- What both answer. -/
def splitAns (b : List Int) : List (List Int) × Int := match parsed b with | none => ([], 3) | some l => (l.map (·.2), 0)

theorem f11_eq {b : List Int} (h : By b) (hb : b.length ≤ 1000000) : f11 b = some (splitAns b) := by
  have := f11_loop h hb (b.length + 1) 0 [] (by omega) (Nat.zero_le _) (by simp)
  unfold f11 splitAns
  rw [show ((0 : Int)) = ((0 : Nat) : Int) from rfl, this]
  unfold parsed
  cases parse (b.length + 1) b 0 <;> simp
end Go.Sx.unit

namespace Go.Sx.unit
open Go Go.Sx

theorem f37_eq (l : List Int) (h : l.length ≤ 1000000) : f37 l = some l := by
  unfold f37
  rw [if_pos (by simp; omega)]; rfl

theorem parse_mem {b : List Int} : ∀ (k at_ : Nat) {l : List (Nat × List Int)}, parse k b at_ = some l → at_ ≤ b.length → l.length + at_ ≤ b.length ∧ ∀ p ∈ l, p.1 ≤ b.length ∧ ∃ s, front (b.drop p.1) = some (p.2, s)
  | 0, _, _, h, _ => by cases h
  | k + 1, at_, l, h, ha => by
    unfold parse at h
    split at h
    · split at h
      · cases h
      · rename_i r s hf
        obtain ⟨f1, f2, f3, _, _, f6⟩ := front_some hf
        rw [List.length_drop] at f1 f3
        cases hp : parse k b (at_ + s) with
        | none => rw [hp] at h; cases h
        | some l' =>
          rw [hp] at h
          cases h
          obtain ⟨g1, g2⟩ := parse_mem k (at_ + s) hp (by omega)
          refine ⟨by simp only [List.length_cons]; omega, fun p hm => ?_⟩
          rcases List.mem_cons.1 hm with rfl | hm
          · exact ⟨ha, s, hf⟩
          · exact g2 p hm
    · cases h
      exact ⟨by simp; exact ha, by simp⟩

theorem f10_eq {b : List Int} (h : By b) (hb : b.length ≤ 1000000) : f10 b = some (splitAns b) := by
  have hsm := small
  unfold f10 splitAns
  rw [f35_eq h hb]
  cases hp : parsed b with
  | none => rfl
  | some l =>
    obtain ⟨hlen, hmem⟩ := parse_mem (b.length + 1) 0 hp (Nat.zero_le _)
    simp only [Option.bind_some, Bool.not_true, cond_false]
    have key := iter_listI (l.map fun p => ((p.1 : Nat) : Int)) (by simp; omega) (fun s : List (List Int) × Int => f10_b1 b (l.map fun p => ((p.1 : Nat) : Int), true) s.1 s.2)
      (fun r i a => (Out.go (a ++ (l.drop i).map (·.2)) : Out (List (List Int) × Int) (List (List Int)))) (fun i a => a.length ≤ i) ?_ ?_ [] (Nat.le_refl _)
    · rw [key]; simp
    · intro i x r a hI hi hx hd
      right
      rw [List.length_map] at hi
      have hll : l.drop i = l[i] :: l.drop (i + 1) := List.drop_eq_getElem_cons hi
      obtain ⟨hpl, s, hf⟩ := hmem l[i] (List.getElem_mem hi)
      obtain ⟨f1, f2, f3, f4, f5, f6⟩ := front_some hf
      rw [List.length_drop] at f1 f3
      have hxx : (l.map fun p => ((p.1 : Nat) : Int)).getD i default = ((l[i].1 : Nat) : Int) := by simp [List.getD_eq_getElem?_getD, List.getElem?_map, List.getElem?_eq_getElem hi]
      have hdec : decide ((i : Int) < ((l.map fun p => ((p.1 : Nat) : Int)).length : Int)) = true := by simp; omega
      simp only [f10_b1, hdec, cond_true]
      rw [if_pos ⟨by omega, by simp; omega⟩]
      simp only [Int.toNat_natCast, hxx]
      rw [if_pos ⟨by omega, by omega⟩, List.take_length, f36_eq (h.drop _) (by simp; omega), hf]
      simp only [Option.bind_some, outF]
      rw [f37_eq _ (by rw [f5]; simp; omega)]
      simp only [Option.bind_some, List.length_cons, List.length_nil]
      rw [if_pos (by omega)]
      refine ⟨_, rfl, by simp; omega, ?_⟩
      rw [hll, List.map_cons, List.append_assoc]
      rfl
    · intro a _
      simp [f10_b1]

theorem f12_eq (l : List (List Int)) (hl : l.length ≤ maxLen) : f12 l l = some true := by
  have key := iter_list l hl (f12_b1 l l) (fun _ _ => (Out.go () : Out Bool Unit)) ?_ ?_
  · unfold f12
    rw [show (fun s => f12_b1 l l s) = f12_b1 l l from rfl, key, bne_self_eq_false]
    rfl
  · intro i x r hi hx hd
    right
    have hdec : decide ((i : Int) < (l.length : Int)) = true := by simpa using hi
    simp only [f12_b1, hdec, cond_true]
    rw [if_pos ⟨by omega, by omega⟩, if_pos ⟨by omega, by omega⟩, beq_self_eq_true]
    exact ⟨rfl, trivial⟩
  · simp [f12_b1]

/-- What both answer for records. -/
def joinAns (l : List (List Int)) : List Int × Int := if (l.all fun r => decide (r.length ≤ 1000)) = true then (l.flatMap wrapR, 0) else ([], 2)

theorem wrapR_len (r : List Int) : (wrapR r).length = r.length + 8 := by simp [wrapR, mark]

theorem f13_eq (l : List (List Int)) (hl : l.length ≤ 1000000) : f13 l = some (joinAns l) := by
  have hsm := small
  have key := iter_listI l (by omega) (fun s : List Int × Int => f13_b1 l s.1 s.2)
      (fun r _ a => (if (r.all fun r => decide (r.length ≤ 1000)) = true then Out.go (a ++ r.flatMap wrapR) else Out.ret ([], 2) : Out (List Int × Int) (List Int))) (fun i a => a.length ≤ 1008 * i) ?_ ?_ [] (Nat.le_refl _)
  · unfold f13 joinAns
    rw [key]
    by_cases hc : (l.all fun r => decide (r.length ≤ 1000)) = true
    · rw [if_pos hc, if_pos hc]; rfl
    · rw [if_neg hc, if_neg hc]; rfl
  · intro i x r a hI hi hx hd
    have hdec : decide ((i : Int) < (l.length : Int)) = true := by simpa using hi
    simp only [f13_b1, hdec, cond_true]
    rw [if_pos ⟨by omega, by omega⟩]
    simp only [Int.toNat_natCast, hx]
    by_cases hc : x.length ≤ 1000
    · right
      rw [decide_eq_false (by omega), cond_false, f39_eq x hc]
      simp only [Option.bind_some, wrapR_len]
      rw [if_pos (by omega)]
      refine ⟨_, rfl, by rw [List.length_append, wrapR_len]; omega, ?_⟩
      simp [hc]
    · left
      rw [decide_eq_true (by omega), cond_true]
      simp [hc]
  · intro a _
    simp [f13_b1]

theorem f14_eq (l : List (List Int)) (hl : l.length ≤ 1000000) : f14 l = some (joinAns l) := by
  have hsm := small
  have key := iter_listI l (by omega) (fun s : List Int × Int => f14_b1 l s.1 s.2)
      (fun r _ a => (if (r.all fun r => decide (r.length ≤ 1000)) = true then Out.go (a ++ r.flatMap wrapR) else Out.ret ([], 2) : Out (List Int × Int) (List Int))) (fun i a => a.length ≤ 1008 * i) ?_ ?_ [] (Nat.le_refl _)
  · unfold f14 joinAns
    rw [key]
    by_cases hc : (l.all fun r => decide (r.length ≤ 1000)) = true
    · rw [if_pos hc, if_pos hc]; rfl
    · rw [if_neg hc, if_neg hc]; rfl
  · intro i x r a hI hi hx hd
    have hdec : decide ((i : Int) < (l.length : Int)) = true := by simpa using hi
    simp only [f14_b1, hdec, cond_true]
    rw [if_pos ⟨by omega, by omega⟩]
    simp only [Int.toNat_natCast, hx]
    by_cases hc : x.length ≤ 1000
    · right
      have hm : (mark x.length).length = 4 := rfl
      rw [decide_eq_false (by omega), cond_false, if_pos ⟨by omega, by omega⟩, f40_eq _ hc]
      simp only [Option.bind_some, hm, List.length_append]
      rw [if_pos (by omega), if_pos ⟨by omega, by omega, by omega⟩, if_pos ⟨by omega, by omega⟩, if_pos (by omega)]
      refine ⟨_, rfl, by simp only [List.length_append, hm]; omega, ?_⟩
      simp [hc, wrapR]
    · left
      rw [decide_eq_true (by omega), cond_true]
      simp [hc]
  · intro a _
    simp [f14_b1]

theorem mark_of {l : List Int} (h : By l) {n : Nat} (hl : 4 ≤ l.length) (hn : num l = (n : Int)) (h1 : n ≤ 1000) : l = mark n ++ l.drop 4 := by
  match l, hl with
  | a :: b :: c :: d :: r, _ =>
    have h0 := h a (by simp)
    have h1 := h b (by simp)
    have h2 := h c (by simp)
    have h3 := h d (by simp)
    simp only [num, List.getD_cons_zero, List.getD_cons_succ] at hn
    simp only [mark, List.drop_succ_cons, List.drop_zero, List.cons_append, List.nil_append, List.cons.injEq, and_true]
    omega

theorem front_wrap {l r : List Int} {s : Nat} (h : By l) (hf : front l = some (r, s)) : l = wrapR r ++ l.drop s ∧ r.length ≤ 1000 := by
  obtain ⟨f1, f2, f3, f4, f5, f6⟩ := front_some hf
  have hb := num_bound h
  obtain ⟨n, hn⟩ : ∃ n : Nat, num l = (n : Int) := ⟨(num l).toNat, by omega⟩
  rw [hn] at f2 f3 f4 f5 f6
  rw [Int.toNat_natCast] at f3 f4 f5 f6
  have hr : r.length = n := by rw [f5]; simp; omega
  have m1 := mark_of h (by omega) hn (by omega)
  have m2 := mark_of (h.drop (4 + n)) (by simp; omega) f4 (by omega)
  refine ⟨?_, by omega⟩
  have e : l.drop 4 = r ++ l.drop (4 + n) := by
    have := (List.take_append_drop n (l.drop 4)).symm
    rw [List.drop_drop, ← f5] at this
    exact this
  rw [List.drop_drop] at m2
  unfold wrapR
  rw [hr]
  calc l = mark n ++ l.drop 4 := m1
    _ = mark n ++ (r ++ l.drop (4 + n)) := by rw [e]
    _ = mark n ++ (r ++ (mark n ++ l.drop (4 + n + 4))) := by rw [← m2]
    _ = mark n ++ (r ++ mark n) ++ l.drop s := by rw [show s = 4 + n + 4 by omega]; simp

theorem parse_wraps {b : List Int} (h : By b) : ∀ (k at_ : Nat) {l : List (Nat × List Int)}, parse k b at_ = some l → at_ ≤ b.length → b.drop at_ = (l.map (·.2)).flatMap wrapR ∧ ((l.map (·.2)).all fun r => decide (r.length ≤ 1000)) = true
  | 0, _, _, h, _ => by cases h
  | k + 1, at_, l, hp, ha => by
    unfold parse at hp
    split at hp
    · split at hp
      · cases hp
      · rename_i r s hf
        obtain ⟨f1, f2, f3, _, _, f6⟩ := front_some hf
        rw [List.length_drop] at f1 f3
        cases hp' : parse k b (at_ + s) with
        | none => rw [hp'] at hp; cases hp
        | some l' =>
          rw [hp'] at hp
          cases hp
          obtain ⟨g1, g2⟩ := parse_wraps h k (at_ + s) hp' (by omega)
          obtain ⟨w1, w2⟩ := front_wrap (h.drop at_) hf
          rw [List.drop_drop] at w1
          refine ⟨?_, by simp [w2]; simpa using g2⟩
          rw [List.map_cons, List.flatMap_cons, ← g1]
          exact w1
    · cases hp
      exact ⟨by simp; omega, rfl⟩

theorem num_mark {n : Nat} (t : List Int) : num (mark n ++ t) = (n : Int) := by
  simp only [num, mark, List.cons_append, List.nil_append, List.getD_cons_zero, List.getD_cons_succ]
  omega

theorem wrap_front (r t : List Int) (h : r.length ≤ 1000) : front (wrapR r ++ t) = some (r, r.length + 8) := by
  have e : wrapR r ++ t = mark r.length ++ (r ++ (mark r.length ++ t)) := by simp [wrapR]
  have hm : (mark r.length).length = 4 := rfl
  have hd : (wrapR r ++ t).drop 4 = r ++ (mark r.length ++ t) := by
    rw [e]; exact List.drop_left' hm
  have hd2 : (wrapR r ++ t).drop (4 + r.length) = mark r.length ++ t := by
    rw [← List.drop_drop, hd]; exact List.drop_left' rfl
  have := front_pos (l := wrapR r ++ t) (n := r.length) (by rw [e]; exact num_mark _) (by simp [wrapR_len]; omega) h (by simp [wrapR_len]) (by rw [hd2]; exact num_mark _)
  rw [this, hd, List.take_left' rfl]

theorem parse_of : ∀ (recs : List (List Int)) (k : Nat) (pre : List Int), (recs.all fun r => decide (r.length ≤ 1000)) = true → recs.length < k → ∃ l, parse k (pre ++ recs.flatMap wrapR) pre.length = some l ∧ l.map (·.2) = recs
  | _, 0, _, _, hk => by omega
  | [], k + 1, pre, _, hk => ⟨[], by simp [parse], rfl⟩
  | r :: rs, k + 1, pre, ha, hk => by
    simp only [List.all_cons, Bool.and_eq_true, decide_eq_true_eq] at ha
    obtain ⟨l, h1, h2⟩ := parse_of rs k (pre ++ wrapR r) ha.2 (by simp at hk; omega)
    refine ⟨(pre.length, r) :: l, ?_, by simp [h2]⟩
    have hlt : pre.length < (pre ++ (r :: rs).flatMap wrapR).length := by simp only [List.flatMap_cons, List.length_append, wrapR_len]; omega
    unfold parse
    rw [if_pos hlt, List.drop_left' rfl, List.flatMap_cons, wrap_front r _ ha.1]
    simp only
    rw [show pre.length + (r.length + 8) = (pre ++ wrapR r).length by rw [List.length_append, wrapR_len], ← List.append_assoc, h1]
    rfl

theorem flat_len (l : List (List Int)) : l.length ≤ (l.flatMap wrapR).length := by
  induction l with
  | nil => simp
  | cons r rs ih => rw [List.flatMap_cons, List.length_append, wrapR_len, List.length_cons]; omega

theorem splitAns_wraps (recs : List (List Int)) (h : (recs.all fun r => decide (r.length ≤ 1000)) = true) : splitAns (recs.flatMap wrapR) = (recs, 0) := by
  obtain ⟨l, h1, h2⟩ := parse_of recs ((recs.flatMap wrapR).length + 1) [] h (by have := flat_len recs; omega)
  have : parsed (recs.flatMap wrapR) = some l := h1
  unfold splitAns
  rw [this]
  simp [h2]

theorem wraps_len : ∀ (l : List (List Int)), (l.all fun r => decide (r.length ≤ 1000)) = true → (l.flatMap wrapR).length ≤ 1008 * l.length
  | [], _ => by simp
  | r :: rs, h => by
    simp only [List.all_cons, Bool.and_eq_true, decide_eq_true_eq] at h
    have := wraps_len rs h.2
    rw [List.flatMap_cons, List.length_append, wrapR_len, List.length_cons]
    omega

theorem wraps_by {l : List (List Int)} (hb : ∀ r ∈ l, By r) (h : (l.all fun r => decide (r.length ≤ 1000)) = true) : By (l.flatMap wrapR) := fun x hx => by
  obtain ⟨r, hr, hx⟩ := List.mem_flatMap.1 hx
  have h1 : r.length ≤ 1000 := by
    have := List.all_eq_true.1 h r hr
    simpa using this
  exact ((mark_by h1).append ((hb r hr).append (mark_by h1))) x hx

theorem f3_guard (l : List (List Int)) (hl : l.length ≤ 1000000) : ∃ y, iter (fun s => f3_b1 l s) (0 : Int) = some y ∧ (y = .ret true ∨ y = .go ()) := by
  have hsm := small
  have key := iter_list l (by omega) (f3_b1 l) (fun r _ => (if (r.all fun x => decide (x.length ≤ 2000)) = true then Out.go () else Out.ret true : Out Bool Unit)) ?_ ?_
  · refine ⟨_, key, ?_⟩
    split
    · exact .inr rfl
    · exact .inl rfl
  · intro i x r hi hx hd
    have hdec : decide ((i : Int) < (l.length : Int)) = true := by simpa using hi
    simp only [f3_b1, hdec, cond_true]
    rw [if_pos ⟨by omega, by omega⟩]
    simp only [Int.toNat_natCast, hx]
    by_cases hc : x.length ≤ 2000
    · right
      rw [decide_eq_false (by omega), cond_false]
      simp [hc]
    · left
      rw [decide_eq_true (by omega), cond_true, awake]
      simp [hc]
  · simp [f3_b1]

theorem f3_j2_eq (recs : List (List Int)) (hl : recs.length ≤ 60) (hb : ∀ r ∈ recs, By r) : f3_j2 recs (joinAns recs) = some true := by
  have hsm := small
  unfold f3_j2 joinAns
  by_cases hc : (recs.all fun r => decide (r.length ≤ 1000)) = true
  · have := wraps_len recs hc
    rw [if_pos hc]
    simp only [bne_self_eq_false, cond_false]
    rw [f10_eq (wraps_by hb hc) (by omega), splitAns_wraps recs hc]
    simp only [Option.bind_some, beq_self_eq_true, cond_true]
    rw [f12_eq recs (by omega)]
    simp only [Option.bind_some, cond_true, awake]
  · rw [if_neg hc]
    simp [awake]

theorem Pure.UnitSplits : LawUnitSplits := by
  intro b recs hb hr
  have hsm := small
  have byb : By b := fun x hx => by
    have := hb.2 x hx
    simp [Lit.wf, IntKind.signed, IntKind.bits, IntKind.min, IntKind.max] at this
    omega
  have byr : ∀ r ∈ recs, By r := fun r hr' x hx => by
    have := (hr.2 r hr').2 x hx
    simp [Lit.wf, IntKind.signed, IntKind.bits, IntKind.min, IntKind.max] at this
    omega
  unfold f3
  by_cases h1 : b.length ≤ 30000
  · rw [decide_eq_false (show ¬ ((b.length : Int) > 30000) by omega)]
    by_cases h2 : recs.length ≤ 60
    · rw [decide_eq_false (show ¬ ((recs.length : Int) > 60) by omega)]
      simp only [cond_false, Option.bind_some]
      obtain ⟨y, hy, hy2⟩ := f3_guard recs (by omega)
      rw [hy]
      rcases hy2 with rfl | rfl
      · rfl
      · simp only [Option.bind_some]
        have hlen : (splitAns b).1.length ≤ 1000000 := by
          unfold splitAns
          cases hp : parsed b with
          | none => simp
          | some l =>
            have := (parse_mem (b.length + 1) 0 hp (Nat.zero_le _)).1
            simp; omega
        rw [f10_eq byb (by omega), f11_eq byb (by omega)]
        simp only [Option.bind_some]
        rw [f12_eq _ (by omega)]
        simp only [Option.bind_some, Bool.not_true, cond_false, bne_self_eq_false]
        rw [f13_eq recs (by omega), f14_eq recs (by omega)]
        simp only [Option.bind_some, beq_self_eq_true, Bool.not_true, cond_false, bne_self_eq_false]
        rw [f3_j2_eq recs h2 byr]
        unfold splitAns
        cases hp : parsed b with
        | none => rfl
        | some l =>
          obtain ⟨w1, w2⟩ := parse_wraps byb (b.length + 1) 0 hp (Nat.zero_le _)
          have hl := (parse_mem (b.length + 1) 0 hp (Nat.zero_le _)).1
          simp only [beq_self_eq_true, cond_true]
          rw [f13_eq _ (by simp; omega)]
          unfold joinAns
          rw [if_pos w2, ← w1]
          simp
    · rw [decide_eq_true (show ((recs.length : Int) > 60) by omega)]
      simp [awake]
  · rw [decide_eq_true (show ((b.length : Int) > 30000) by omega)]
    simp [awake]
end Go.Sx.unit

namespace Go.Sx.unit
open Go Go.Sx

theorem iter_inv {S X : Type} (body : S → Option (S ⊕ X)) (I : Nat → S → Prop) (Q : X → Prop) (n : Nat)
    (hs : ∀ i s, i < n → I i s → (∃ x, body s = some (.inr x) ∧ Q x) ∨ ∃ s', body s = some (.inl s') ∧ I (i + 1) s')
    (he : ∀ s, I n s → ∃ x, body s = some (.inr x) ∧ Q x) (s0 : S) (h0 : I 0 s0) : ∃ x, iter body s0 = some x ∧ Q x := by
  have key : ∀ k i s, i + k = n → I i s → ∃ x, iter body s = some x ∧ Q x := by
    intro k
    induction k with
    | zero =>
      intro i s hi hI
      obtain rfl : i = n := by omega
      obtain ⟨x, h1, h2⟩ := he s hI
      exact ⟨x, iter_inr h1, h2⟩
    | succ k ih =>
      intro i s hi hI
      rcases hs i s (by omega) hI with ⟨x, h1, h2⟩ | ⟨s', h1, h2⟩
      · exact ⟨x, iter_inr h1, h2⟩
      · obtain ⟨x, h3, h4⟩ := ih (i + 1) s' (by omega) h2
        exact ⟨x, by rw [iter_inl h1, h3], h4⟩
  exact key n 0 s0 (by omega) h0

theorem firstIdx_at (xs : List Int) (i : Nat) (hi : i < xs.length) : (ByteArray.mk (xs.map fun n => UInt8.ofNat n.toNat).toArray)[i]! = UInt8.ofNat (xs[i]).toNat := by
  rw [getElem!_pos _ i (by simpa [ByteArray.size] using hi)]
  show ((xs.map fun n => UInt8.ofNat n.toNat).toArray)[i]'(by simpa using hi) = _
  simp

theorem byte_eq {x : Int} (h : 0 ≤ x ∧ x < 256) : (UInt8.ofNat x.toNat == (Int.toNat 10).toUInt8) = (x == 10) := by
  obtain ⟨n, rfl⟩ := Int.eq_ofNat_of_zero_le h.1
  have hn : n < 256 := by omega
  rw [Int.toNat_natCast]
  have : (UInt8.ofNat n == (10 : UInt8)) = (n == 10) := by
    rw [Bool.eq_iff_iff]
    simp only [beq_iff_eq, ← UInt8.toNat_inj, UInt8.toNat_ofNat']
    rw [Nat.mod_eq_of_lt (by omega)]
    rfl
  rw [show (Int.toNat 10).toUInt8 = (10 : UInt8) from rfl, this]
  rw [Bool.eq_iff_iff]
  simp only [beq_iff_eq]
  omega

theorem idxB_miss {xs : List Int} (h : By xs) (hm : (10 : Int) ∉ xs) : idxB xs 10 = -1 := by
  unfold idxB firstIdx
  have : ((List.range (ByteArray.mk (xs.map fun n => UInt8.ofNat n.toNat).toArray).size).find? fun i => (ByteArray.mk (xs.map fun n => UInt8.ofNat n.toNat).toArray)[i]! == (Int.toNat 10).toUInt8) = none := by
    rw [List.find?_eq_none]
    intro i hi
    have hi : i < xs.length := by simpa [ByteArray.size] using hi
    rw [firstIdx_at xs i hi, byte_eq (h _ (List.getElem_mem hi))]
    intro hc
    exact hm (by rw [← (beq_iff_eq.1 hc)]; exact List.getElem_mem hi)
  rw [this]

theorem idxB_hit {r t : List Int} (h : By (r ++ 10 :: t)) (hm : (10 : Int) ∉ r) : idxB (r ++ 10 :: t) 10 = (r.length : Int) := by
  unfold idxB firstIdx
  have : ((List.range (ByteArray.mk ((r ++ 10 :: t).map fun n => UInt8.ofNat n.toNat).toArray).size).find? fun i => (ByteArray.mk ((r ++ 10 :: t).map fun n => UInt8.ofNat n.toNat).toArray)[i]! == (Int.toNat 10).toUInt8) = some r.length := by
    rw [List.find?_range_eq_some]
    refine ⟨?_, by simp [ByteArray.size], fun j hj => ?_⟩
    · rw [firstIdx_at _ _ (by simp)]
      simp
    · have hj' : j < (r ++ 10 :: t).length := by simp; omega
      rw [firstIdx_at _ _ hj', byte_eq (h _ (List.getElem_mem hj')), List.getElem_append_left hj]
      simp only [Bool.not_eq_true', beq_eq_false_iff_ne]
      intro hc
      exact hm (hc ▸ List.getElem_mem hj)
  rw [this]

theorem idxB_neg {xs : List Int} (h : By xs) (hn : idxB xs 10 < 0) : (10 : Int) ∉ xs := by
  intro hm
  obtain ⟨r, t, rfl, hr⟩ := List.eq_append_cons_of_mem hm
  have := idxB_hit h hr
  omega

def formOf : Bool → List UInt8
  | true => [108, 105, 110, 101, 115]
  | false => recs

/-- A record as it stands in a file. -/
def wrapF (fm : Bool) (r : List Int) : List Int := if fm then r ++ [10] else wrapR r
/-- A record that can be written. -/
def okF (fm : Bool) (r : List Int) : Prop := r.length ≤ 1000 ∧ By r ∧ (fm = true → (10 : Int) ∉ r)

theorem wrapF_by {fm : Bool} {r : List Int} (h : okF fm r) : By (wrapF fm r) := by
  unfold wrapF
  split
  · exact h.2.1.append fun x hx => by simp at hx; omega
  · exact (mark_by h.1).append (h.2.1.append (mark_by h.1))

theorem wrapF_len (fm : Bool) (r : List Int) : 0 < (wrapF fm r).length ∧ (wrapF fm r).length ≤ r.length + 8 := by
  unfold wrapF
  split
  · simp
  · rw [wrapR_len]; omega

theorem f36_wrap {fm : Bool} {r : List Int} (h : okF fm r) (t : List Int) (ht : By t) (hl : t.length ≤ 900000) : f36 (formOf fm) (wrapF fm r ++ t) = some (r, ((wrapF fm r).length : Int), true) := by
  have hb := (wrapF_by h).append ht
  have hw := wrapF_len fm r
  have h1 := h.1
  cases fm with
  | false =>
    show f36 recs _ = _
    rw [f36_eq hb (by simp only [List.length_append]; omega)]
    show some (outF (front (wrapR r ++ t))) = _
    rw [wrap_front r t h.1]
    simp only [outF, wrapF, Bool.false_eq_true, if_false, wrapR_len]
  | true =>
    have e : wrapF true r ++ t = r ++ 10 :: t := by simp [wrapF]
    rw [e] at hb ⊢
    unfold f36 f43
    rw [idxB_hit hb (h.2.2 rfl)]
    have c1 : (((r ++ 10 :: t).length : Int) == 0) = false := beq_eq_false_iff_ne.mpr (by simp; omega)
    rw [c1]
    simp only [formOf, beq_self_eq_true, cond_true, cond_false, Option.bind_some]
    rw [decide_eq_true (by omega), cond_true, if_pos ⟨by omega, by simp; omega⟩, w64_id (by omega) (by omega)]
    simp [wrapF]

theorem f36_nil (fm : Bool) : f36 (formOf fm) [] = some ([], 0, false) := by
  unfold f36
  rfl

/-- Records in a file. -/
def W (fm : Bool) (l : List (List Int)) : List Int := l.flatMap (wrapF fm)
theorem W_append (fm : Bool) (l m : List (List Int)) : W fm (l ++ m) = W fm l ++ W fm m := List.flatMap_append
theorem W_cons (fm : Bool) (r : List Int) (m : List (List Int)) : W fm (r :: m) = wrapF fm r ++ W fm m := List.flatMap_cons
theorem W_one (fm : Bool) (r : List Int) : W fm [r] = wrapF fm r := by rw [W_cons]; simp [W]
theorem W_by {fm : Bool} {l : List (List Int)} (h : ∀ r ∈ l, okF fm r) : By (W fm l) := fun x hx => by
  obtain ⟨r, hr, hx⟩ := List.mem_flatMap.1 hx
  exact wrapF_by (h r hr) x hx
theorem W_len (fm : Bool) : ∀ l : List (List Int), l.length ≤ (W fm l).length
  | [] => by simp
  | r :: l => by have := W_len fm l; have := wrapF_len fm r; rw [W_cons, List.length_append, List.length_cons]; omega

/-- Where records begin. -/
def begs (fm : Bool) : List (List Int) → Nat → List Int
  | [], _ => []
  | r :: l, n => (n : Int) :: begs fm l (n + (wrapF fm r).length)

theorem begs_len (fm : Bool) : ∀ (l : List (List Int)) (n : Nat), (begs fm l n).length = l.length
  | [], _ => rfl
  | r :: l, n => by simp [begs, begs_len fm l]

theorem begs_append (fm : Bool) : ∀ (l m : List (List Int)) (n : Nat), begs fm (l ++ m) n = begs fm l n ++ begs fm m (n + (W fm l).length)
  | [], m, n => by simp [begs, W]
  | r :: l, m, n => by simp [begs, begs_append fm l, W_cons, Nat.add_assoc]

theorem f35_wraps_loop {fm : Bool} : ∀ (l : List (List Int)) (pre : List Int) (bs : List Int), (∀ r ∈ l, okF fm r) → By pre → (pre ++ W fm l).length ≤ 900000 → bs.length ≤ pre.length →
    iter (fun s => f35_b1 (formOf fm) (pre ++ W fm l) s.1 s.2) (bs, (pre.length : Int)) = some (.go (bs ++ begs fm l pre.length))
  | [], pre, bs, _, _, _, _ => by
    have hd : decide ((pre.length : Int) < ((pre ++ W fm []).length : Int)) = false := decide_eq_false (by simp [W])
    rw [iter_inr (x := .go bs) (by show f35_b1 _ _ _ _ = _; simp only [f35_b1, hd, cond_false])]
    simp [begs]
  | r :: l, pre, bs, h, hb, hl, hbs => by
    have hr := h r (by simp)
    have hW : By (W fm l) := W_by fun r hr => h r (by simp [hr])
    have hw := wrapF_len fm r
    have e : pre ++ W fm (r :: l) = pre ++ (wrapF fm r ++ W fm l) := by rw [W_cons]
    have hl2 : pre.length + ((wrapF fm r).length + (W fm l).length) ≤ 900000 := by rw [e] at hl; simpa using hl
    have step : f35_b1 (formOf fm) (pre ++ W fm (r :: l)) bs (pre.length : Int) = some (.inl (bs ++ [(pre.length : Int)], ((pre ++ wrapF fm r).length : Int))) := by
      have hd : decide ((pre.length : Int) < ((pre ++ (wrapF fm r ++ W fm l)).length : Int)) = true := decide_eq_true (by simp only [List.length_append]; omega)
      rw [e]
      simp only [f35_b1, hd, cond_true]
      rw [if_pos ⟨by omega, by simp only [List.length_append]; omega⟩]
      simp only [Int.toNat_natCast, List.take_length, List.drop_left' rfl]
      rw [f36_wrap hr _ hW (by omega)]
      simp only [Option.bind_some, Bool.not_true, cond_false]
      rw [if_pos (by simp; omega), w64_id (by omega) (by omega)]
      simp
    rw [iter_inl (show (fun s : List Int × Int => f35_b1 (formOf fm) (pre ++ W fm (r :: l)) s.1 s.2) (bs, (pre.length : Int)) = _ from step), e, ← List.append_assoc]
    rw [f35_wraps_loop l (pre ++ wrapF fm r) _ (fun r hr => h r (by simp [hr])) (hb.append (wrapF_by hr)) (by rw [List.append_assoc, ← W_cons]; exact hl) (by simp; omega)]
    simp [begs]

theorem f35_wraps {fm : Bool} {l : List (List Int)} (h : ∀ r ∈ l, okF fm r) (hl : (W fm l).length ≤ 900000) : f35 (formOf fm) (W fm l) = some (begs fm l 0, true) := by
  have := f35_wraps_loop l [] [] h (fun x hx => by simp at hx) (by simpa using hl) (by simp)
  unfold f35
  simp only [List.nil_append, List.length_nil] at this
  rw [show ((0 : Int)) = ((0 : Nat) : Int) from rfl, this]
  rfl
end Go.Sx.unit

namespace Go.Sx.unit
open Go Go.Sx

theorem W_take_le (fm : Bool) (l : List (List Int)) (i : Nat) : (W fm (l.take i)).length ≤ (W fm l).length := by
  have : l.take i ++ l.drop i = l := List.take_append_drop i l
  rw [← this, W_append, this, List.length_append]
  omega

theorem W_take (fm : Bool) (l : List (List Int)) (i : Nat) : (W fm l).take (W fm (l.take i)).length = W fm (l.take i) := by
  have : l.take i ++ l.drop i = l := List.take_append_drop i l
  conv => lhs; rw [← this, W_append, this]
  exact List.take_left' rfl

theorem W_drop (fm : Bool) (l : List (List Int)) (i : Nat) : (W fm l).drop (W fm (l.take i)).length = W fm (l.drop i) := by
  have : l.take i ++ l.drop i = l := List.take_append_drop i l
  conv => lhs; rw [← this, W_append, this]
  exact List.drop_left' rfl

theorem W_take_succ (fm : Bool) (l : List (List Int)) (i : Nat) (hi : i < l.length) : W fm (l.take (i + 1)) = W fm (l.take i) ++ wrapF fm l[i] := by
  rw [List.take_succ_eq_append_getElem hi, W_append, W_one]

/-- A unit whose file is the records. -/
abbrev U (fm : Bool) (n : Int) (l : List (List Int)) (at_ : Nat) (past : Bool) : T64 := T64.mk (formOf fm) n (W fm l) (at_ : Int) past

theorem form_ne (fm : Bool) : (formOf fm == ([] : List UInt8)) = false := by cases fm <;> rfl
theorem form_seq (fm : Bool) : (cond (formOf fm == ([108, 105, 110, 101, 115] : List UInt8)) (some true) (some (formOf fm == ([114, 101, 99, 111, 114, 100, 115] : List UInt8)))) = some true := by cases fm <;> rfl
theorem form_dir (fm : Bool) : (formOf fm == ([100, 105, 114, 101, 99, 116] : List UInt8)) = false := by cases fm <;> rfl
theorem form_str (fm : Bool) : (formOf fm == ([115, 116, 114, 101, 97, 109] : List UInt8)) = false := by cases fm <;> rfl

theorem f41_form (fm : Bool) (n : Int) (b : List Int) (a : Int) (p : Bool) : f41 (T64.mk (formOf fm) n b a p) = some false := by
  show some (formOf fm == []) = _
  rw [form_ne]
theorem f42_form (fm : Bool) (n : Int) (b : List Int) (a : Int) (p : Bool) : f42 (T64.mk (formOf fm) n b a p) = some true := by
  show (cond (formOf fm == ([108, 105, 110, 101, 115] : List UInt8)) (some true) (some (formOf fm == ([114, 101, 99, 111, 114, 100, 115] : List UInt8)))).bind _ = _
  rw [form_seq]
  rfl

section
variable {fm : Bool} {n : Int} {l : List (List Int)}

theorem read_at (h : ∀ r ∈ l, okF fm r) (hl : (W fm l).length ≤ 900000) (i : Nat) (hi : i < l.length) : f22o (U fm n l (W fm (l.take i)).length false) = some (l[i], 0, U fm n l (W fm (l.take (i + 1))).length false) := by
  have hr := h l[i] (List.getElem_mem hi)
  have hle := W_take_le fm l i
  have hd : W fm (l.drop i) = wrapF fm l[i] ++ W fm (l.drop (i + 1)) := by rw [List.drop_eq_getElem_cons hi, W_cons]
  have hby : By (W fm (l.drop (i + 1))) := W_by fun r hr => h r (List.mem_of_mem_drop hr)
  have hlen : (W fm (l.drop (i + 1))).length ≤ (W fm l).length := by
    have := congrArg List.length (W_drop fm l (i + 1))
    rw [List.length_drop] at this
    omega
  have hs := congrArg List.length (W_take_succ fm l i hi)
  rw [List.length_append] at hs
  have hle2 := W_take_le fm l (i + 1)
  have h1 := hr.1
  unfold f22o
  rw [f41_form, f42_form]
  simp only [Option.bind_some, cond_false, Bool.not_true]
  rw [if_pos ⟨by omega, by omega⟩]
  simp only [Int.toNat_natCast, List.take_length]
  rw [W_drop, hd, f36_wrap hr _ hby (by omega)]
  simp only [Option.bind_some, Bool.not_true, cond_false]
  rw [f37_eq _ (by omega)]
  simp only [Option.bind_some]
  rw [w64_id (by omega) (by omega), hs]
  rfl

theorem read_end : f22o (U fm n l (W fm l).length false) = some ([], 6, U fm n l (W fm l).length true) := by
  unfold f22o
  rw [f41_form, f42_form]
  simp only [Option.bind_some, cond_false, Bool.not_true]
  rw [if_pos ⟨by omega, by omega⟩]
  simp only [Int.toNat_natCast, List.take_length, List.drop_length]
  rw [f36_nil]
  rfl

theorem read_past (a : Nat) : f22o (U fm n l a true) = some ([], 110, U fm n l a true) := by
  unfold f22o
  rw [f41_form, f42_form]
  rfl

theorem back_past (a : Nat) : f23o (U fm n l a true) = some (0, U fm n l a false) := by
  unfold f23o
  rw [f41_form, f42_form]
  rfl

theorem begs_take (h : ∀ r ∈ l, okF fm r) (hl : (W fm l).length ≤ 900000) (i : Nat) : f35 (formOf fm) (W fm (l.take i)) = some (begs fm (l.take i) 0, true) :=
  f35_wraps (fun r hr => h r (List.mem_of_mem_take hr)) (by have := W_take_le fm l i; omega)

theorem begs_last (i : Nat) (hi : i < l.length) : (begs fm (l.take (i + 1)) 0).getD i default = ((W fm (l.take i)).length : Int) := by
  rw [List.take_succ_eq_append_getElem hi, begs_append]
  have hb : (begs fm (l.take i) 0).length = i := by rw [begs_len]; simp; omega
  rw [List.getD_eq_getElem?_getD, List.getElem?_append_right (by omega), hb]
  simp [begs]

theorem back_at (h : ∀ r ∈ l, okF fm r) (hl : (W fm l).length ≤ 900000) (i : Nat) (hi : i < l.length) : f23o (U fm n l (W fm (l.take (i + 1))).length false) = some (0, U fm n l (W fm (l.take i)).length false) := by
  have hle := W_take_le fm l (i + 1)
  have hn := W_len fm l
  have hb : (begs fm (l.take (i + 1)) 0).length = i + 1 := by rw [begs_len]; simp; omega
  unfold f23o
  rw [f41_form, f42_form]
  simp only [Option.bind_some, cond_false, Bool.not_true]
  rw [if_pos ⟨by omega, by omega⟩]
  simp only [Int.toNat_natCast, List.drop_zero]
  rw [W_take, begs_take h hl]
  simp only [Option.bind_some, hb]
  have e : w64 (((i + 1 : Nat) : Int) - 1) = (i : Int) := by rw [w64_id (by omega) (by omega)]; omega
  rw [decide_eq_true (by omega), cond_true, e, if_pos ⟨by omega, by omega⟩, Int.toNat_natCast, begs_last i hi]
  rfl

/-- Writing at the end of what was written. -/
theorem write_at {b : List Int} (done : List (List Int)) (r : List Int) (hb : By r) (h : ∀ r ∈ done, okF fm r) (hl : (W fm done).length ≤ 20000) (hd : b.take (W fm done).length = W fm done) (hd2 : (W fm done).length ≤ b.length) :
    ∃ k t, f17o r (T64.mk (formOf fm) n b ((W fm done).length : Int) false) = some (k, t) ∧ (k ≠ 0 ∨ k = 0 ∧ okF fm r ∧ t = U fm n (done ++ [r]) (W fm (done ++ [r])).length false ∧ (W fm (done ++ [r])).length ≤ 20000) := by
  have hw1 : W fm (done ++ [r]) = W fm done ++ wrapF fm r := by rw [W_append, W_one]
  unfold f17o
  rw [f41_form, f42_form]
  simp only [Option.bind_some, cond_false, Bool.not_true]
  by_cases hr : r.length ≤ 1000
  · rw [decide_eq_false (by omega), cond_false]
    have hwl := wrapF_len fm r
    have j1 : f17o_j1 (T64.mk (formOf fm) n b ((W fm done).length : Int) false) (W fm (done ++ [r])) = some (if (W fm (done ++ [r])).length ≤ 20000 then (0, U fm n (done ++ [r]) (W fm (done ++ [r])).length false) else (4, T64.mk (formOf fm) n b ((W fm done).length : Int) false)) := by
      unfold f17o_j1
      split
      · rw [decide_eq_false (by omega)]; rfl
      · rw [decide_eq_true (by omega)]; rfl
    have fin : okF fm r → ∃ k t, (some (if (W fm (done ++ [r])).length ≤ 20000 then (0, U fm n (done ++ [r]) (W fm (done ++ [r])).length false) else (4, T64.mk (formOf fm) n b ((W fm done).length : Int) false)) : Option (Int × T64)) = some (k, t) ∧ (k ≠ 0 ∨ k = 0 ∧ okF fm r ∧ t = U fm n (done ++ [r]) (W fm (done ++ [r])).length false ∧ (W fm (done ++ [r])).length ≤ 20000) := by
      intro hok
      split
      · rename_i hc
        exact ⟨_, _, rfl, .inr ⟨rfl, hok, rfl, hc⟩⟩
      · exact ⟨_, _, rfl, .inl (by decide)⟩
    cases fm with
    | false =>
      have hok : okF false r := ⟨hr, hb, nofun⟩
      simp only [show (formOf false == ([108, 105, 110, 101, 115] : List UInt8)) = false from rfl, cond_false, Option.bind_some]
      rw [if_pos ⟨by omega, by omega⟩, Int.toNat_natCast, List.drop_zero, hd, f37_eq _ (by omega)]
      simp only [Option.bind_some]
      rw [f39_eq r hr]
      simp only [Option.bind_some]
      rw [if_pos (by rw [wrapR_len]; omega)]
      have e : W false done ++ wrapR r = W false (done ++ [r]) := by rw [hw1]; rfl
      rw [e, j1]
      exact fin hok
    | true =>
      simp only [show (formOf true == ([108, 105, 110, 101, 115] : List UInt8)) = true from rfl, cond_true, Option.bind_some, f43]
      by_cases hc : idxB r 10 < 0
      · have hok : okF true r := ⟨hr, hb, fun _ => idxB_neg hb hc⟩
        rw [decide_eq_false (by omega), cond_false, if_pos ⟨by omega, by omega⟩, Int.toNat_natCast, List.drop_zero, hd, f37_eq _ (by omega)]
        simp only [Option.bind_some]
        have j2 : f17o_j2 r (T64.mk (formOf true) n b ((W true done).length : Int) false) (W true done) = some (if (W true (done ++ [r])).length ≤ 20000 then (0, U true n (done ++ [r]) (W true (done ++ [r])).length false) else (4, T64.mk (formOf true) n b ((W true done).length : Int) false)) := by
          unfold f17o_j2
          rw [if_pos (by omega), if_pos (by simp; omega)]
          have e : W true done ++ r ++ [10] = W true (done ++ [r]) := by rw [hw1]; simp [wrapF]
          rw [e, j1]
        have last : (cond (decide (((W true done).length : Int) > (0 : Int))) (if (0 : Int) ≤ w64 (((W true done).length : Int) - (1 : Int)) ∧ w64 (((W true done).length : Int) - (1 : Int)) < ((W true done).length : Int) then some ((W true done).getD (Int.toNat (w64 (((W true done).length : Int) - (1 : Int)))) default != (10 : Int)) else none) (some false)) = some false := by
          rcases List.eq_nil_or_concat done with hnil | ⟨d', x, hx⟩
          · rw [hnil]; rfl
          · have e : W true done = (W true d' ++ x) ++ [10] := by rw [hx, List.concat_eq_append, W_append, W_one]; simp [wrapF]
            have e2 : w64 (((W true done).length : Int) - 1) = (((W true d' ++ x).length : Nat) : Int) := by
              rw [w64_id (by omega) (by omega), e, List.length_append]; simp
            have e3 : (W true done).length = (W true d' ++ x).length + 1 := by rw [e, List.length_append]; rfl
            rw [decide_eq_true (by omega), cond_true, e2, if_pos ⟨by omega, by omega⟩, Int.toNat_natCast, e]
            rw [List.getD_eq_getElem?_getD, List.getElem?_append_right (Nat.le_refl _)]
            simp
        rw [last]
        simp only [Option.bind_some, cond_false]
        rw [j2]
        exact fin hok
      · rw [decide_eq_true (by omega), cond_true]
        exact ⟨_, _, rfl, .inl (by decide)⟩
  · rw [decide_eq_true (by omega), cond_true]
    exact ⟨_, _, rfl, .inl (by decide)⟩
end
end Go.Sx.unit

namespace Go.Sx.unit
open Go Go.Sx

theorem open_form {fm : Bool} {n : Int} {b : List Int} (hb : By b) (hl : b.length ≤ 1000000) : (∃ k, f16 (formOf fm) n b = some (none, k) ∧ k ≠ 0) ∨ f16 (formOf fm) n b = some (some (T64.mk (formOf fm) n b 0 false), 0) := by
  have j1 : ∀ fm, f16_j1 (formOf fm) n b = some (some (T64.mk (formOf fm) n b 0 false), 0) := fun fm => by
    unfold f16_j1; rw [f37_eq b hl]; rfl
  have j2 : (∃ k, f16_j2 (formOf fm) n b = some (none, k) ∧ k ≠ 0) ∨ f16_j2 (formOf fm) n b = some (some (T64.mk (formOf fm) n b 0 false), 0) := by
    unfold f16_j2
    by_cases hc : b.length ≤ 20000
    · rw [decide_eq_false (by omega), cond_false]
      cases fm with
      | true => exact .inr (j1 true)
      | false =>
        rw [show (formOf false == ([114, 101, 99, 111, 114, 100, 115] : List UInt8)) = true from rfl, cond_true]
        rw [show formOf false = recs from rfl, f35_eq hb hl]
        cases parsed b with
        | none => exact .inl ⟨3, rfl, by decide⟩
        | some l => exact .inr (j1 false)
    · rw [decide_eq_true (by omega), cond_true]
      exact .inl ⟨4, rfl, by decide⟩
  have e : f16 (formOf fm) n b = f16_j3 (formOf fm) n b true := by cases fm <;> rfl
  rw [e]
  unfold f16_j3
  rw [cond_true]
  rcases Bool.eq_false_or_eq_true (n != 0) with hc | hc
  · rw [hc]; exact .inl ⟨2, rfl, by decide⟩
  · rw [hc]; exact j2

theorem open_W {fm : Bool} {l : List (List Int)} (h : ∀ r ∈ l, okF fm r) (hl : (W fm l).length ≤ 20000) : f16 (formOf fm) 0 (W fm l) = some (some (U fm 0 l 0 false), 0) := by
  have j1 : ∀ fm, (W fm l).length ≤ 20000 → f16_j1 (formOf fm) 0 (W fm l) = some (some (U fm 0 l 0 false), 0) := fun fm hl => by
    unfold f16_j1; rw [f37_eq _ (by omega)]; rfl
  have e : f16 (formOf fm) 0 (W fm l) = f16_j3 (formOf fm) 0 (W fm l) true := by cases fm <;> rfl
  rw [e]
  unfold f16_j3 f16_j2
  rw [cond_true, show ((0 : Int) != 0) = false from rfl, cond_false, decide_eq_false (by omega), cond_false]
  cases fm with
  | true => exact j1 true hl
  | false =>
    rw [show (formOf false == ([114, 101, 99, 111, 114, 100, 115] : List UInt8)) = true from rfl, cond_true]
    have := f35_wraps h (by omega)
    rw [this]
    exact j1 false hl

abbrev S7 := List (List Int) × Int × List UInt8 × Int × List Int × Int × Bool

/-- Writing, one after the other. -/
theorem writes (fm : Bool) (n : Int) (b0 : List Int) (v2 : List (List Int)) (hv : v2.length ≤ 30) (hb : ∀ r ∈ v2, By r) :
    ∃ x, iter (fun s : S7 => f4_b2 v2 s.1 s.2.1 s.2.2.1 s.2.2.2.1 s.2.2.2.2.1 s.2.2.2.2.2.1 s.2.2.2.2.2.2) ([], 0, formOf fm, n, b0, 0, false) = some x ∧
      (x = .ret true ∨ ∃ l bs, x = .go (l, formOf fm, n, bs, ((W fm l).length : Int), false) ∧ (∀ r ∈ l, okF fm r) ∧ (W fm l).length ≤ 20000 ∧ (l ≠ [] → bs = W fm l)) := by
  have hsm := small
  refine iter_inv (fun s : S7 => f4_b2 v2 s.1 s.2.1 s.2.2.1 s.2.2.2.1 s.2.2.2.2.1 s.2.2.2.2.2.1 s.2.2.2.2.2.2)
    (fun i s => ∃ l bs, s = (l, (i : Int), formOf fm, n, bs, ((W fm l).length : Int), false) ∧ l.length ≤ i ∧ (∀ r ∈ l, okF fm r) ∧ (W fm l).length ≤ 20000 ∧ bs.take (W fm l).length = W fm l ∧ (W fm l).length ≤ bs.length ∧ (l ≠ [] → bs = W fm l)) _ v2.length ?_ ?_ _ ?_
  · rintro i s hi ⟨l, bs, rfl, h1, h2, h3, h4, h5, h6⟩
    have hx : v2.getD i default = v2[i] := by simp [List.getD_eq_getElem?_getD, List.getElem?_eq_getElem hi]
    obtain ⟨k, t, hw, hk⟩ := write_at (n := n) l v2[i] (hb _ (List.getElem_mem hi)) h2 h3 h4 h5
    simp only [f4_b2]
    rw [decide_eq_true (by omega), cond_true, if_pos ⟨by omega, by omega⟩, Int.toNat_natCast, hx, hw]
    simp only [Option.bind_some]
    rcases hk with hk | ⟨rfl, hok, rfl, hle⟩
    · rw [show (k != 0) = true by simpa using hk, cond_true, awake]
      exact .inl ⟨_, rfl, .inl rfl⟩
    · right
      rw [show ((0 : Int) != 0) = false from rfl, cond_false, if_pos ⟨by omega, by omega⟩, if_pos (by simp; omega), w64_id (by omega) (by omega)]
      refine ⟨_, rfl, l ++ [v2[i]], W fm (l ++ [v2[i]]), by simp, by simp; omega, ?_, hle, by simp, Nat.le_refl _, fun _ => rfl⟩
      intro r hr
      rcases List.mem_append.1 hr with hr | hr
      · exact h2 r hr
      · rw [List.mem_singleton.1 hr]; exact hok
  · rintro s ⟨l, bs, rfl, h1, h2, h3, h4, h5, h6⟩
    simp only [f4_b2]
    rw [decide_eq_false (by omega), cond_false]
    exact ⟨_, rfl, .inr ⟨l, bs, rfl, h2, h3, h6⟩⟩
  · exact ⟨[], b0, by simp [W], by simp, by simp, by simp [W], by simp [W], by simp [W], by simp⟩

section
variable {fm : Bool} {n : Int} {l : List (List Int)}

theorem getD_at (l : List (List Int)) (i : Nat) (hi : i < l.length) : l.getD i default = l[i] := by simp [List.getD_eq_getElem?_getD, List.getElem?_eq_getElem hi]

theorem reads (h : ∀ r ∈ l, okF fm r) (hl : (W fm l).length ≤ 20000) :
    iter (fun s => f4_b5 l s.1 s.2.1 s.2.2.1 s.2.2.2.1 s.2.2.2.2.1 s.2.2.2.2.2.1 s.2.2.2.2.2.2.1 s.2.2.2.2.2.2.2.1 s.2.2.2.2.2.2.2.2.1 s.2.2.2.2.2.2.2.2.2.1 s.2.2.2.2.2.2.2.2.2.2) ((0 : Int), formOf fm, n, W fm l, 0, false, formOf fm, 0, W fm l, 0, false) = some (.go (formOf fm, n, W fm l, ((W fm l).length : Int), false)) := by
  have hn := W_len fm l
  suffices hq : ∃ x, iter _ _ = some x ∧ x = _ by
    obtain ⟨x, h1, h2⟩ := hq
    rw [h1, h2]
  refine iter_inv (fun s : Int × List UInt8 × Int × List Int × Int × Bool × List UInt8 × Int × List Int × Int × Bool => f4_b5 l s.1 s.2.1 s.2.2.1 s.2.2.2.1 s.2.2.2.2.1 s.2.2.2.2.2.1 s.2.2.2.2.2.2.1 s.2.2.2.2.2.2.2.1 s.2.2.2.2.2.2.2.2.1 s.2.2.2.2.2.2.2.2.2.1 s.2.2.2.2.2.2.2.2.2.2)
    (fun i s => s = ((i : Int), formOf fm, n, W fm l, ((W fm (l.take i)).length : Int), false, formOf fm, 0, W fm l, ((W fm (l.take i)).length : Int), false))
    (fun x => x = .go (formOf fm, n, W fm l, ((W fm l).length : Int), false)) l.length ?_ ?_ ((0 : Int), formOf fm, n, W fm l, 0, false, formOf fm, 0, W fm l, 0, false) (by simp [W])
  · rintro i s hi rfl
    right
    simp only [f4_b5]
    rw [decide_eq_true (by omega), cond_true, read_at h (by omega) i hi, read_at h (by omega) i hi]
    simp only [Option.bind_some, Int.toNat_natCast, getD_at l i hi, bne_self_eq_false, cond_false]
    rw [if_pos ⟨by omega, by omega⟩, w64_id (by omega) (by omega)]
    refine ⟨_, ?_, rfl⟩
    simp
  · rintro s rfl
    simp only [f4_b5]
    rw [decide_eq_false (by omega), cond_false, List.take_length]
    exact ⟨_, rfl, rfl⟩

theorem backs (h : ∀ r ∈ l, okF fm r) (hl : (W fm l).length ≤ 20000) :
    iter (fun s => f4_b6 l s.1 s.2.1 s.2.2.1 s.2.2.2.1 s.2.2.2.2.1 s.2.2.2.2.2) (w64 ((l.length : Int) - (1 : Int)), formOf fm, n, W fm l, ((W fm l).length : Int), false) = some (.go (formOf fm, n, W fm l, 0, false)) := by
  have hn := W_len fm l
  suffices hq : ∃ x, iter _ _ = some x ∧ x = _ by
    obtain ⟨x, h1, h2⟩ := hq
    rw [h1, h2]
  refine iter_inv (fun s : Int × List UInt8 × Int × List Int × Int × Bool => f4_b6 l s.1 s.2.1 s.2.2.1 s.2.2.2.1 s.2.2.2.2.1 s.2.2.2.2.2)
    (fun i s => s = ((l.length : Int) - 1 - (i : Int), formOf fm, n, W fm l, ((W fm (l.take (l.length - i))).length : Int), false))
    (fun x => x = .go (formOf fm, n, W fm l, 0, false)) l.length ?_ ?_ (w64 ((l.length : Int) - (1 : Int)), formOf fm, n, W fm l, ((W fm l).length : Int), false) (by rw [w64_id (by omega) (by omega)]; simp)
  · rintro i s hi rfl
    right
    obtain ⟨j, hj⟩ : ∃ j, l.length - i = j + 1 := ⟨l.length - i - 1, by omega⟩
    have hjj : (l.length : Int) - 1 - (i : Int) = (j : Int) := by omega
    have hj2 : l.length - (i + 1) = j := by omega
    simp only [f4_b6]
    rw [hj, hjj, hj2, decide_eq_true (by omega), cond_true, back_at h (by omega) j (by omega)]
    simp only [Option.bind_some, bne_self_eq_false, cond_false]
    rw [read_at h (by omega) j (by omega)]
    simp only [Option.bind_some, bne_self_eq_false, cond_false, Int.toNat_natCast, getD_at l j (by omega)]
    rw [if_pos ⟨by omega, by omega⟩, beq_self_eq_true, Bool.not_true, cond_false, back_at h (by omega) j (by omega)]
    simp only [Option.bind_some, bne_self_eq_false, cond_false]
    rw [w64_id (by omega) (by omega)]
    refine ⟨_, rfl, ?_⟩
    congr 1
    omega
  · rintro s rfl
    simp only [f4_b6]
    rw [decide_eq_false (by omega), cond_false, Nat.sub_self]
    exact ⟨_, rfl, rfl⟩

theorem f19_eq (h : ∀ r ∈ l, okF fm r) (hl : (W fm l).length ≤ 20000) (i : Nat) : f19 (U fm n l (W fm (l.take i)).length false) = some ((l.take i).length : Int) := by
  have hle := W_take_le fm l i
  unfold f19
  rw [f41_form]
  simp only [Option.bind_some, cond_false, form_dir, form_str]
  rw [if_pos ⟨by omega, by omega⟩, Int.toNat_natCast, List.drop_zero, W_take, begs_take h (by omega)]
  simp only [Option.bind_some, begs_len]

theorem f18_eq (h : ∀ r ∈ l, okF fm r) (hl : (W fm l).length ≤ 20000) (a : Nat) : f18 (U fm n l a false) = some ((l.length : Int), 0) := by
  unfold f18
  rw [f41_form]
  simp only [Option.bind_some, cond_false, form_dir, form_str]
  rw [f35_wraps h (by omega)]
  simp only [Option.bind_some, begs_len]

theorem f20_eq (a : Nat) : f20o (U fm n l a false) = some (0, U fm n l 0 false) := by
  unfold f20o
  rw [f41_form]
  rfl

theorem f21_eq (hl : (W fm l).length ≤ 20000) (a : Nat) : f21o (U fm n l a false) = some (W fm l) := by
  unfold f21o
  rw [f41_form]
  simp only [Option.bind_some, cond_false]
  rw [f37_eq _ (by omega)]
  rfl
end

theorem Pure.UnitBack : LawUnitBack := by
  intro a l0 ha hr
  obtain ⟨v0, v1, v2⟩ := a
  have hsm := small
  obtain ⟨_, _, hb, _⟩ := ha
  have byb : By v2 := fun x hx => by
    have := hb.2 x hx
    simp [Lit.wf, IntKind.signed, IntKind.bits, IntKind.min, IntKind.max] at this
    omega
  have byr : ∀ r ∈ l0, By r := fun r hr' x hx => by
    have := (hr.2 r hr').2 x hx
    simp [Lit.wf, IntKind.signed, IntKind.bits, IntKind.min, IntKind.max] at this
    omega
  have e15 : f15 ⟨v0, v1, v2⟩ [] = some (decide ((v2.length : Int) > 21000)) := by
    unfold f15
    rw [show iter (fun s => f15_b1 [] s) (0 : Int) = some (.go ()) from iter_inr rfl]
    rfl
  unfold f4
  rw [e15]
  simp only [Option.bind_some]
  by_cases h1 : v2.length ≤ 21000
  · rw [decide_eq_false (by omega), cond_false]
    simp only [Option.bind_some]
    by_cases h2 : l0.length ≤ 30
    · rw [decide_eq_false (by omega), cond_false]
      by_cases hf : ∃ fm, v0 = formOf fm
      · obtain ⟨fm, rfl⟩ := hf
        have eg : (cond (!(formOf fm == ([108, 105, 110, 101, 115] : List UInt8))) (some (!(formOf fm == ([114, 101, 99, 111, 114, 100, 115] : List UInt8)))) (some false)) = some false := by cases fm <;> rfl
        simp only [eg, Option.bind_some, cond_false]
        rcases open_form (fm := fm) (n := v1) byb (by omega) with ⟨k, ho, hk⟩ | ho
        · rw [ho]
          simp only [Option.bind_some]
          rw [show (k != 0) = true by simpa using hk, cond_true, awake]
          rfl
        · rw [ho]
          simp only [Option.bind_some, bne_self_eq_false, cond_false]
          obtain ⟨x, hx, hx2⟩ := writes fm v1 v2 l0 h2 byr
          rw [hx]
          rcases hx2 with rfl | ⟨l, bs, rfl, hok, hle, hbs⟩
          · rfl
          · simp only [Option.bind_some]
            by_cases hnil : l = []
            · subst hnil
              rw [show ((([] : List (List Int)).length : Int) == 0) = true from rfl, cond_true, awake]
              rfl
            · have hpos : 0 < l.length := List.length_pos_iff.2 hnil
              rw [hbs hnil, show ((l.length : Int) == 0) = false from beq_eq_false_iff_ne.mpr (by omega), cond_false]
              have e19 := f19_eq (n := v1) hok hle l.length
              rw [List.take_length] at e19
              have e190 := f19_eq (n := v1) hok hle 0
              simp only [List.take_zero, W, List.flatMap_nil, List.length_nil] at e190
              rw [f18_eq hok hle, e19]
              simp only [Option.bind_some, bne_self_eq_false, cond_false]
              rw [f20_eq]
              simp only [Option.bind_some, bne_self_eq_false, cond_false]
              rw [f21_eq hle]
              simp only [Option.bind_some]
              rw [open_W hok hle]
              simp only [Option.bind_some, bne_self_eq_false, cond_false]
              have er := reads (n := v1) hok hle
              have eb := backs (n := v1) hok hle
              rw [show (((0 : Nat) : Int)) = 0 from rfl, er]
              simp only [Option.bind_some]
              rw [read_end]
              simp only [Option.bind_some, bne_self_eq_false, cond_false]
              rw [read_past]
              simp only [Option.bind_some, bne_self_eq_false, cond_false]
              rw [back_past]
              simp only [Option.bind_some, bne_self_eq_false, cond_false]
              rw [eb]
              simp only [Option.bind_some]
              rw [show T64.mk (formOf fm) v1 (W fm l) 0 false = U fm v1 l 0 false from rfl]
              rw [show f19 (U fm v1 l 0 false) = _ from e190]
              simp only [Option.bind_some]
              rw [show (((0 : Nat) : Int) == 0) = true from rfl, cond_true, awake]
              rfl
      · have hne : ∀ fm, (v0 == formOf fm) = false := fun fm => by
          rw [beq_eq_false_iff_ne]
          intro hc
          exact hf ⟨fm, hc⟩
        have g1 : (v0 == ([108, 105, 110, 101, 115] : List UInt8)) = false := hne true
        have g2 : (v0 == ([114, 101, 99, 111, 114, 100, 115] : List UInt8)) = false := hne false
        simp only [g1, g2, Bool.not_false, cond_true, Option.bind_some]
        rw [awake]
        rfl
    · rw [decide_eq_true (by omega)]
      simp [awake]
  · rw [decide_eq_true (by omega)]
    simp [awake]
end Go.Sx.unit
