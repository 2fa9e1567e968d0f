/- Plain laws of the printed functions: the first ambiguous pair; no condition. -/
import Derived.Test.YtpkoebbjnfpifaaGxP9
namespace Go.Sx.gen
open Go Go.Sx

def AllOk (l : List T31) : Prop := ∀ s ∈ l, Short s ∧ valid s = true

theorem AllOk.get {l : List T31} (h : AllOk l) {i : Nat} (hi : i < l.length) : Short (l.getD i default) ∧ valid (l.getD i default) = true := by
  refine h _ ?_
  rw [List.getD_eq_getElem?_getD, List.getElem?_eq_getElem hi]
  exact List.getElem_mem hi

/-- The first ahead of place b that is ambiguous with it. -/
def firstIn (l : List T31) (b : Nat) : Option Nat := findFrom (fun a => ambB a (l.getD b default)) (l.take b) 0

def outIn (b : Nat) : Option Nat → Out (Int × Int × Bool) Unit
  | some a => .ret ((a : Int), (b : Int), true)
  | none => .go ()

theorem inner_eq (l : List T31) (hl : l.length ≤ maxLen) (ok : AllOk l) (n : Nat) (hn : n < l.length) (f : T31 → T31 → Option Bool)
    (hf : ∀ a b, Short a → Short b → valid a = true → valid b = true → f a b = some (ambB a b)) (body : Int → Option (Int ⊕ Out (Int × Int × Bool) Unit))
    (hb : ∀ v3, body v3 = cond (decide (v3 < (n : Int))) (if (0 : Int) ≤ v3 ∧ v3 < (l.length : Int) ∧ (0 : Int) ≤ n ∧ (n : Int) < (l.length : Int) then (f (l.getD v3.toNat default) (l.getD n default)).bind fun v4 => cond v4 (some (.inr (.ret (v3, (n : Int), true)))) (some (.inl (w64 (v3 + (1 : Int))))) else none) (some (.inr (.go ())))) :
    iter body 0 = some (outIn n (firstIn l n)) := by
  have hlen : (l.take n).length = n := by simp; omega
  refine iter_list (l.take n) (by omega) body (fun r i => outIn n (findFrom (fun a => ambB a (l.getD n default)) r i)) ?_ ?_
  · intro i x r hi hx _
    have hi' : i < n := by omega
    have h1 : (0 : Int) ≤ i ∧ (i : Int) < (l.length : Int) ∧ (0 : Int) ≤ n ∧ (n : Int) < (l.length : Int) := ⟨by omega, by omega, by omega, by omega⟩
    have hd : decide ((i : Int) < (n : Int)) = true := by simpa using hi'
    have hx' : l.getD i default = x := by
      rw [← hx]; simp only [List.getD_eq_getElem?_getD, List.getElem?_take, hi', if_true]
    have o1 := ok.get (i := i) (by omega)
    have o2 := ok.get hn
    rw [hx'] at o1
    rw [hb, hd]
    simp only [cond_true, Int.toNat_natCast, hx', h1, and_self, if_true, hf x _ o1.1 o2.1 o1.2 o2.2, Option.bind_some]
    by_cases hp : ambB x (l.getD n default) = true
    · left; simp only [hp, cond_true, findFrom, if_true, outIn]
    · right
      have hp' : ambB x (l.getD n default) = false := by simpa using hp
      simp only [hp', cond_false, findFrom, if_false, Bool.false_eq_true, and_self]
  · rw [hlen, hb]; simp [findFrom, outIn]

/-- From place b on. -/
def pairFrom (l : List T31) : List T31 → Nat → Out (Int × Int × Bool) Unit
  | [], _ => .go ()
  | _ :: r, b => match firstIn l b with
    | some a => .ret ((a : Int), (b : Int), true)
    | none => pairFrom l r (b + 1)

def pairOf : Out (Int × Int × Bool) Unit → Int × Int × Bool
  | .ret v => v
  | .go _ => (0, 0, false)

theorem outer_eq (l : List T31) (hl : l.length ≤ maxLen) (body : Int → Option (Int ⊕ Out (Int × Int × Bool) Unit)) (inner : Int → Option (Out (Int × Int × Bool) Unit)) (hi : ∀ n : Nat, n < l.length → inner n = some (outIn n (firstIn l n)))
    (hb : ∀ v2, body v2 = cond (decide (v2 < (l.length : Int))) ((inner v2).bind fun y => match y with | .ret v5 => some (.inr (.ret (v5.1, v5.2.1, v5.2.2))) | .go _ => some (.inl (w64 (v2 + (1 : Int))))) (some (.inr (.go ())))) :
    iter body 0 = some (pairFrom l l 0) := by
  refine iter_list l hl body (fun r b => pairFrom l r b) ?_ ?_
  · intro i x r hlt _ _
    have hd : decide ((i : Int) < (l.length : Int)) = true := by simpa using hlt
    rw [hb, hd]
    simp only [cond_true, hi i hlt, Option.bind_some, pairFrom]
    cases firstIn l i with
    | some a => left; rfl
    | none => right; exact ⟨rfl, rfl⟩
  · rw [hb]; simp [pairFrom]

theorem f31_eq (l : List T31) (hl : l.length ≤ maxLen) (ok : AllOk l) : f31 l = some (pairOf (pairFrom l l 0)) := by
  unfold f31
  rw [outer_eq l hl (fun s => f31_b2 l s) (fun v2 => iter (fun s => f31_b1 l v2 s) 0) (fun n hn => inner_eq l hl ok n hn f41 (fun a b ha hb va vb => f41_eq a b ha hb va vb) _ (fun _ => rfl)) (fun _ => rfl)]
  cases pairFrom l l 0 <;> rfl

theorem f36_eq (l : List T31) (hl : l.length ≤ maxLen) (ok : AllOk l) : f36 l = some (pairOf (pairFrom l l 0)) := by
  unfold f36
  rw [outer_eq l hl (fun s => f36_b2 l s) (fun v2 => iter (fun s => f36_b1 l v2 s) 0) (fun n hn => inner_eq l hl ok n hn f42 (fun a b ha hb va _ => f42_eq a b ha hb va) _ (fun _ => rfl)) (fun _ => rfl)]
  cases pairFrom l l 0 <;> rfl

theorem allOk_of {l : List T31} (hs : ∀ s ∈ l, Short s) (h : isListB l = true) : AllOk l := by
  have key : ∀ (r : List T31) (i : Nat), listOk l r i = true → ∀ s ∈ r, valid s = true := by
    intro r
    induction r with
    | nil => intro i _ s hs; simp at hs
    | cons x r ih =>
      intro i hi s hs
      simp only [listOk, Bool.and_eq_true] at hi
      rcases List.mem_cons.1 hs with rfl | hs
      · exact hi.1.1
      · exact ih (i + 1) hi.2 s hs
  simp only [isListB, Bool.and_eq_true] at h
  exact fun s hm => ⟨hs s hm, key l 0 h.1 s hm⟩

end Go.Sx.gen
