/- What a row's reading of the arguments says of memory, where it bounds what they weigh; no condition. -/
import Derived.Test.YtgabiokgockopaaSxC
import Derived.SizedLaws
namespace Go.Sx
open Go Go.RowKit

/-- As Rd, of what is not too heavy. -/
structure RdZ (P : Program) (t : TypeId) {A : Type} (z : Nat) (enc : A → List TV) (G : A → Prop) : Prop where
 len : ∀ a, (enc a).length = z
 cells : P.cellsOf t = z
 rd : ∀ {H : Type} (eH : TypeId × Value → H) (w : World) (base : Nat) (spare : Nat → Bool) (held : Bool) (fuel : Nat) (cs : List Value) (x : DataW H × List MemPlace), DataW.trod eH P w base spare held fuel t cs = some x → (∀ n ∈ x.1.weights P t, n ≤ reachBytes) → ∃ a, G a ∧ cs.length = z ∧ CR w cs (enc a)

theorem RdZ.of {P : Program} {t : TypeId} {A : Type} {z : Nat} {enc : A → List TV} {G : A → Prop} (h : Rd P t z enc G) : RdZ P t z enc G :=
 ⟨h.len, h.cells, fun eH w base spare held fuel cs x hx _ => h.rd eH w base spare held fuel cs x hx⟩

theorem weights_all {H : Type} {P : Program} {e : TypeId} : ∀ {ds : List (DataW H)} {i : Nat} {d : DataW H}, ds[i]? = some d → ∀ n ∈ d.weights P e, n ∈ DataW.weightsAll P e ds
 | [], _, _, h => by simp at h
 | d0 :: ds, 0, d, h => fun n hn => by
  simp only [List.getElem?_cons_zero, Option.some.injEq] at h
  subst h
  simp only [DataW.weightsAll, List.mem_append]; exact .inl hn
 | d0 :: ds, i + 1, d, h => fun n hn => by
  simp only [List.getElem?_cons_succ] at h
  simp only [DataW.weightsAll, List.mem_append]; exact .inr (weights_all h n hn)

theorem RdZ.slice {P : Program} {t e : TypeId} {A : Type} [Inhabited A] {z B : Nat} {enc : A → List TV} {G : A → Prop} (hu : P.underlying t = some (.slice e)) (hc : P.cellsOf t = 1) (hz : 0 < z) (hB : P.bytesOf e = B) (he : RdZ P e z enc G) :
  RdZ P t 1 (cSl z enc) (fun l => (l.length ≤ maxLen ∧ l.length * B ≤ reachBytes) ∧ ∀ x ∈ l, G x) :=
 ⟨fun _ => rfl, hc, fun eH w base spare held fuel cs x h hwt => by
  rcases DataW.trod_slice hu h with ⟨rfl, _⟩ | ⟨a, len, cap, elems, rest, n, hx, rfl, rfl, hb, hl, hm, hlen, hel, hx2⟩
  ·exact ⟨[], ⟨⟨Nat.zero_le _, by simp⟩, fun x hx => by simp at hx⟩, rfl, CR.one (.nil none 0 z _)⟩
  ·have hwt' : (elems.length + rest.length) * P.bytesOf e ≤ reachBytes ∧ ∀ (i : Nat) (d : _), elems[i]? = some d → ∀ n ∈ d.1.weights P e, n ≤ reachBytes := by

    simp only [DataW.weights, hu, List.mem_cons, List.mem_append, List.length_map] at hwt
    refine ⟨hwt _ (.inl rfl), fun i d hd n hn => hwt n (.inr (.inl (weights_all (i := i) (d := d.1) ?_ n hn)))⟩
    rw [List.getElem?_map, hd]; rfl
   obtain ⟨hwt1, hwt2⟩ := hwt'
   have key : ∀ i, i < len → ∃ y : A, G y ∧ ∃ cs', w.cells? base (a.add (i * z)) z = some cs' ∧ cs'.length = z ∧ CR w cs' (enc y) := by
    intro i hi
    have h1 := hel i hi
    rw [he.cells] at h1
    have h2 : elems[i]? = some (elems[i]'(by omega)) := List.getElem?_eq_getElem (by omega)
    rw [h2] at h1
    obtain ⟨cs', h3, h4⟩ := Option.bind_eq_some_iff.1 h1
    obtain ⟨y, hy, hyl, hyr⟩ := he.rd eH w base spare held n cs' _ h4 (hwt2 i _ h2)
    exact ⟨y, hy, cs', h3, hyl, hyr⟩
   obtain ⟨l, hll, hp⟩ := choose_list len key
   have hBl : l.length * B ≤ reachBytes := by
    rw [hB] at hwt1
    refine Nat.le_trans (Nat.mul_le_mul_right B ?_) hwt1
    omega
   refine ⟨l, ⟨⟨by omega, hBl⟩, fun x hx => ?_⟩, rfl, CR.one ?_⟩
   ·obtain ⟨i, hi⟩ := List.getElem?_of_mem hx
    have hlt : i < l.length := (List.getElem?_eq_some_iff.1 hi).1
    have := (hp i (by omega)).1
    rwa [List.getD_eq_getElem?_getD, hi] at this
   ·by_cases h0 : len = 0
    ·subst h0
     obtain rfl := List.eq_nil_of_length_eq_zero hll
     exact .nil (some a) cap z _
    ·obtain ⟨_, cs0, hc0, _, _⟩ := hp 0 (by omega)
     obtain ⟨_, hl0, hcell⟩ := World.cells?_some hc0
     have h00 := hcell 0 hz
     have hlt0 : 0 < cs0.length := by omega
     rw [List.getElem?_eq_getElem hlt0, Nat.zero_mul] at h00
     have hadd : (a.add 0).add 0 = a := by simp [Addr.add]
     rw [hadd] at h00
     obtain ⟨hsp, hblk⟩ := cell_spot h00
     rw [hsp]
     subst hll
     have hat : ∀ i, i < l.length → ∃ cs' : List Value, w.cells? base (a.add (i * z)) z = some cs' ∧ cs'.length = z ∧ CR w cs' (enc (l.getD i default)) := fun i hi => (hp i hi).2
     refine .row a.block a.off cap z l.length _ (fun i j => (w.cell? ⟨a.block, a.off + i * z + j, none⟩).getD undef) hblk hl hm (fun i _ => he.len _) (fun i j y hi hy => ?_) fun i j y hi hy => ?_
     all_goals
      obtain ⟨cs', h1, h2, h3⟩ := hat i hi
      obtain ⟨_, _, hcl⟩ := World.cells?_some h1
      obtain ⟨u, hu', hr⟩ := h3 j y hy
      have hj : j < z := by have := (List.getElem?_eq_some_iff.1 hu').1; omega
      have h4 := hcl j hj
      rw [hu', hsp, add_mk, add_mk] at h4
      rw [h4]
     ·rfl
     ·exact hr⟩

end Go.Sx

namespace Go.Sx
open Go

theorem w64_id {n : Int} (h0 : -9223372036854775808 ≤ n) (h1 : n ≤ 9223372036854775807) : w64 n = n := by
 simp only [w64, IntKind.wrap, IntKind.min, IntKind.max, IntKind.signed, IntKind.bits]
 simp
 omega

theorem maxLen_le : maxLen ≤ 9223372036854775807 := by decide

theorem w64_succ {i n : Nat} (h : i < n) (hn : n ≤ maxLen) : w64 ((i : Int) + 1) = ((i + 1 : Nat) : Int) := by
 have := maxLen_le
 rw [w64_id (by omega) (by omega)]; omega

theorem iter_inl {S X : Type} {body : S → Option (S ⊕ X)} {s s' : S} (h : body s = some (.inl s')) : iter body s = iter body s' := by rw [iter_eq, h]
theorem iter_inr {S X : Type} {body : S → Option (S ⊕ X)} {s : S} {x : X} (h : body s = some (.inr x)) : iter body s = some x := by rw [iter_eq, h]

/-- A loop that ends, and what it comes to. -/
theorem iter_ind {S X : Type} (body : S → Option (S ⊕ X)) (I : S → Prop) (μ : S → Nat) (Q : S → X → Prop)
  (h : ∀ s, I s → (∃ s', body s = some (.inl s') ∧ I s' ∧ μ s' < μ s ∧ ∀ x, Q s' x → Q s x) ∨ ∃ x, body s = some (.inr x) ∧ Q s x) : ∀ s, I s → ∃ x, iter body s = some x ∧ Q s x := by
 have key : ∀ n s, μ s = n → I s → ∃ x, iter body s = some x ∧ Q s x := by
  intro n
  induction n using Nat.strongRecOn with
  | _ n ih =>
   intro s hn hI
   rcases h s hI with ⟨s', hb, hI', hm, hq⟩ | ⟨x, hb, hq⟩
   ·obtain ⟨x, hx, hqx⟩ := ih (μ s') (by omega) s' rfl hI'
    exact ⟨x, by rw [iter_inl hb]; exact hx, hq x hqx⟩
   ·exact ⟨x, iter_inr hb, hq⟩
 exact fun s hI => key _ s rfl hI

/-- Over a list, by its index: F tells what is come to from the rest of the list on. -/
theorem iter_list {A X : Type} [Inhabited A] (l : List A) (hl : l.length ≤ maxLen) (body : Int → Option (Int ⊕ X)) (F : List A → Nat → X)
  (hs : ∀ (i : Nat) (x : A) (r : List A), i < l.length → l.getD i default = x → l.drop i = x :: r → (body i = some (.inr (F (x :: r) i))) ∨ (body i = some (.inl (w64 ((i : Int) + 1))) ∧ F (x :: r) i = F r (i + 1)))
  (he : body (l.length : Int) = some (.inr (F [] l.length))) : iter body 0 = some (F l 0) := by
 have key : ∀ n i, i + n = l.length → iter body (i : Int) = some (F (l.drop i) i) := by
  intro n
  induction n with
  | zero =>
   intro i hi
   obtain rfl : i = l.length := by omega
   rw [iter_inr he, List.drop_length]
  | succ n ih =>
   intro i hi
   have hlt : i < l.length := by omega
   have hd : l.drop i = l[i] :: l.drop (i + 1) := List.drop_eq_getElem_cons hlt
   rcases hs i l[i] (l.drop (i + 1)) hlt (by simp [List.getD_eq_getElem?_getD, hlt]) hd with hb | ⟨hb, hF⟩
   ·rw [iter_inr hb, hd]
   ·rw [iter_inl hb, w64_succ hlt hl, hd, hF]
    exact ih (i + 1) (by omega)
 have := key l.length 0 (by omega)
 simpa using this

/-- The same, with a state that goes on from round to round: the index second. -/
theorem iter_listS {A B X : Type} [Inhabited A] (l : List A) (hl : l.length ≤ maxLen) (body : B × Int → Option ((B × Int) ⊕ X)) (F : List A → Nat → B → X)
  (hs : ∀ (i : Nat) (x : A) (r : List A) (b : B), i < l.length → l.getD i default = x → l.drop i = x :: r → (body (b, (i : Int)) = some (.inr (F (x :: r) i b))) ∨ ∃ b', body (b, (i : Int)) = some (.inl (b', w64 ((i : Int) + 1))) ∧ F (x :: r) i b = F r (i + 1) b')
  (he : ∀ b, body (b, (l.length : Int)) = some (.inr (F [] l.length b))) (b0 : B) : iter body (b0, 0) = some (F l 0 b0) := by
 have key : ∀ n i b, i + n = l.length → iter body (b, (i : Int)) = some (F (l.drop i) i b) := by
  intro n
  induction n with
  | zero =>
   intro i b hi
   obtain rfl : i = l.length := by omega
   rw [iter_inr (he b), List.drop_length]
  | succ n ih =>
   intro i b hi
   have hlt : i < l.length := by omega
   have hd : l.drop i = l[i] :: l.drop (i + 1) := List.drop_eq_getElem_cons hlt
   rcases hs i l[i] (l.drop (i + 1)) b hlt (by simp [List.getD_eq_getElem?_getD, hlt]) hd with hb | ⟨b', hb, hF⟩
   ·rw [iter_inr hb, hd]
   ·rw [iter_inl hb, w64_succ hlt hl, hd, hF]
    exact ih (i + 1) b' (by omega)
 have := key l.length 0 b0 (by omega)
 simpa using this

/-- The same, with what holds of the state ahead of each round. -/
theorem iter_listI {A B X : Type} [Inhabited A] (l : List A) (hl : l.length ≤ maxLen) (body : B × Int → Option ((B × Int) ⊕ X)) (F : List A → Nat → B → X) (I : Nat → B → Prop)
  (hs : ∀ (i : Nat) (x : A) (r : List A) (b : B), I i b → i < l.length → l.getD i default = x → l.drop i = x :: r → (body (b, (i : Int)) = some (.inr (F (x :: r) i b))) ∨ ∃ b', body (b, (i : Int)) = some (.inl (b', w64 ((i : Int) + 1))) ∧ I (i + 1) b' ∧ F (x :: r) i b = F r (i + 1) b')
  (he : ∀ b, I l.length b → body (b, (l.length : Int)) = some (.inr (F [] l.length b))) (b0 : B) (h0 : I 0 b0) : iter body (b0, 0) = some (F l 0 b0) := by
 have key : ∀ n i b, i + n = l.length → I i b → iter body (b, (i : Int)) = some (F (l.drop i) i b) := by
  intro n
  induction n with
  | zero =>
   intro i b hi hI
   obtain rfl : i = l.length := by omega
   rw [iter_inr (he b hI), List.drop_length]
  | succ n ih =>
   intro i b hi hI
   have hlt : i < l.length := by omega
   have hd : l.drop i = l[i] :: l.drop (i + 1) := List.drop_eq_getElem_cons hlt
   rcases hs i l[i] (l.drop (i + 1)) b hI hlt (by simp [List.getD_eq_getElem?_getD, hlt]) hd with hb | ⟨b', hb, hI', hF⟩
   ·rw [iter_inr hb, hd]
   ·rw [iter_inl hb, w64_succ hlt hl, hd, hF]
    exact ih (i + 1) b' (by omega) hI'
 have := key l.length 0 b0 (by omega) h0
 simpa using this

theorem cond_or {b c : Bool} : cond b (some true) (some c) = some (b || c) := by cases b <;> rfl
theorem cond_and {b c : Bool} : cond b (some c) (some false) = some (b && c) := by cases b <;> rfl
theorem cond_some {A : Type} {b : Bool} {x y : A} : cond b (some x) (some y) = some (cond b x y) := by cases b <;> rfl

end Go.Sx
