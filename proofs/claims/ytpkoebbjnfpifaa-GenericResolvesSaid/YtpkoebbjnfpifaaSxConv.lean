/- A slice of bytes as a string; no condition. -/
import Derived.Test.YtpkoebbjnfpifaaSxList2
import Derived.Laws.BytesArg
namespace Go.Sx
open Go

section
variable {F : Cfg} {σ : AState}

theorem AOne.str {ops : Array Oper} {i : Nat} {s t e : TypeId} {x : Operand} (o : Oper) (ho : ops[i]? = some o) (hop : o.op = .convert s t x) (hg : guardV ops σ o = some true) (d : Nat) (hd : o.dst = some d) (hlt : Nat.blt d F.n = true)
    (h1 : (F.T.get s).map TI.und = some (.slice e)) (h2 : (F.T.get e).map TI.und = some (.int .u8)) (h3 : (F.T.get t).map TI.und = some .string) {n : Nat} {f : Nat → List TV} {b : Bool} (hsl : σ.slOf (σ.ev x) = some (1, n, f, b))
    (xs : List Int) (hn : n = xs.length) (hf : ∀ i, i < n → f i = cInt .u8 (xs.getD i default)) : AOne F ops i σ (σ.put d (.tv (.str (xs.map fun n => UInt8.ofNat n.toNat)))) := fun w0 g0 g a w hs K Q h => by
  simp only [wpOp, ho]
  rw [if_pos (guardV_sound hs hg)]
  left
  have hp : PlainTo n f := fun i hi => by rw [hf i hi]; rfl
  have hrun : (convert s t (a.eval x)).run F.P w = .ok (.string (strOfNums xs)) w := by
    rcases slOf_rel hs hsl hp with ⟨⟨A, c, hv⟩, h0⟩ | ⟨b', off, cap, cs, hv, hz, hc⟩
    · subst h0
      obtain rfl : xs = [] := List.eq_nil_of_length_eq_zero hn.symm
      rw [hv]
      cases A with
      | none => exact run_convert_bytes_nil w s e (F.ok.und h1) (F.ok.und h2) 0 c t (F.ok.und h3)
      | some A =>
        have hl : (loadCells A 0).run F.P w = .ok (([] : List Int).map (Value.int .u8)).toArray w := run_loadCells_list (P := F.P) w A [] fun j v hj => by simp at hj
        rw [run_convert_bytes_string w s t e _ 0 c (F.ok.und h1) (F.ok.und h2) (F.ok.und h3), run_bytesToString w A 0 c [] hl]
        rfl
    · rw [hv]
      refine run_convert_bytes_arg w s e (F.ok.und h1) (F.ok.und h2) b' off n cap xs hn.symm (fun i hi => ?_) t (F.ok.und h3)
      have hy : (f i)[0]? = some (.int .u8 (xs.getD i default)) := by rw [hf i hi]; rfl
      obtain ⟨this, hrel⟩ := hc i 0 _ hi hy
      rw [Nat.mul_one, Nat.add_zero] at this
      rw [this, rel_int (g := g) (p := (.slot 0 0, [])) (.fr hrel)]
      rfl
  have hrun' : (execOp a.eval o).run F.P w = .ok (.value (.string (strOfNums xs))) w := by
    simp only [execOp, hop]
    rw [Sem.run_bind, hrun]
    rfl
  unfold Oper.wp
  rw [hrun', Oper.upon_value, hd]
  exact h _ _ w (hs.put (Nat.le_of_ble_eq_true hlt) (sv := .tv (.str _)) rfl rfl (k := 0) (.fr (.str _)))

theorem set_at {A : Type} [Inhabited A] (enc : A → List TV) (l : List A) (k j : Nat) (ys : List TV) (v : A) (hv : putAt (enc (l.getD k default)) j ys = enc v) : ∀ i, i < l.length → setElem (fun i => enc (l.getD i default)) k (putAt (enc (l.getD k default)) j ys) i = enc ((l.set k v).getD i default) := by
  refine setElem_at enc l k v _ (fun i _ hne => ?_) fun _ => ?_
  · simp only [setElem, beq_ne hne]
  · simp only [setElem, Nat.beq_refl]; exact hv

end
end Go.Sx
