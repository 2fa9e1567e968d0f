/- Plain laws of the printed functions: which specific is meant, both turns; no condition. -/
import Derived.Test.YtpkoebbjnfpifaaGxP12
namespace Go.Sx.gen
open Go Go.Sx

def pick2 (l : List T31) (call : List T48) : Out (Int × Int) Unit :=
  match findFrom (takesIt call false) l 0 with
  | some i => .ret ((i : Int), 0)
  | none => outPick (findFrom (takesIt call true) l 0)

theorem f12_out (l : List T31) (hl : l.length ≤ maxLen) (ok : AllOk l) (call : List T48) (hc : call.length ≤ maxLen) (hr : ∀ c ∈ call, c.f1 ≥ 0) : iter (fun s => f12_b2 l call s) 0 = some (pick2 l call) := by
  have h0 := f12_in l hl ok call hc hr 0 false rfl
  have h1 := f12_in l hl ok call hc hr 1 true rfl
  have e0 : f12_b2 l call 0 = match findFrom (takesIt call false) l 0 with | some i => some (.inr (.ret ((i : Int), 0))) | none => some (.inl 1) := by
    unfold f12_b2
    rw [h0]
    cases findFrom (takesIt call false) l 0 <;> rfl
  have e1 : f12_b2 l call 1 = match findFrom (takesIt call true) l 0 with | some i => some (.inr (.ret ((i : Int), 0))) | none => some (.inl 2) := by
    unfold f12_b2
    rw [h1]
    cases findFrom (takesIt call true) l 0 <;> rfl
  have e2 : f12_b2 l call 2 = some (.inr (.go ())) := rfl
  unfold pick2
  cases hf : findFrom (takesIt call false) l 0 with
  | some i => rw [hf] at e0; exact iter_inr e0
  | none =>
    rw [hf] at e0
    rw [iter_inl e0]
    cases ht : findFrom (takesIt call true) l 0 with
    | some i => rw [ht] at e1; exact iter_inr e1
    | none => rw [ht] at e1; rw [iter_inl e1]; exact iter_inr e2

theorem f13_out (l : List T31) (hl : l.length ≤ maxLen) (ok : AllOk l) (call : List T48) (hc : call.length ≤ maxLen) : iter (fun s => f13_b2 l call s) 0 = some (pick2 l call) := by
  have h0 := f13_in l hl ok call hc 0 false rfl
  have h1 := f13_in l hl ok call hc 1 true rfl
  have e0 : f13_b2 l call 0 = match findFrom (takesIt call false) l 0 with | some i => some (.inr (.ret ((i : Int), 0))) | none => some (.inl 1) := by
    unfold f13_b2
    rw [h0]
    cases findFrom (takesIt call false) l 0 <;> rfl
  have e1 : f13_b2 l call 1 = match findFrom (takesIt call true) l 0 with | some i => some (.inr (.ret ((i : Int), 0))) | none => some (.inl 2) := by
    unfold f13_b2
    rw [h1]
    cases findFrom (takesIt call true) l 0 <;> rfl
  have e2 : f13_b2 l call 2 = some (.inr (.go ())) := rfl
  unfold pick2
  cases hf : findFrom (takesIt call false) l 0 with
  | some i => rw [hf] at e0; exact iter_inr e0
  | none =>
    rw [hf] at e0
    rw [iter_inl e0]
    cases ht : findFrom (takesIt call true) l 0 with
    | some i => rw [ht] at e1; exact iter_inr e1
    | none => rw [ht] at e1; rw [iter_inl e1]; exact iter_inr e2

end Go.Sx.gen
