/- The same: fields' places, indexes, lengths, parts; no condition. -/
import Derived.Test.YtpkoebbjnfpifaaSxPure3
namespace Go.Sx
open Go

section
variable {X : Ctx} {g : Gh} {σ : AState} {a : Act} {w : World} {T : Tab}

theorem TabOk.info {P : Program} (hT : TabOk P T) {t n : Nat} (h : T.size t = some n) : ∃ i, P.info? t = some i ∧ i.size = n := by
  unfold Tab.size at h
  cases ht : T.get t with
  | none => simp [ht] at h
  | some ti =>
    simp [ht] at h
    obtain ⟨_, i, _, hi, hs, _⟩ := hT t ti ht
    exact ⟨i, hi, hs.trans h⟩

theorem fieldAt_run {P : Program} {t : TypeId} {fs : Array Field} {f : Nat} {fd : Field} {b off : Nat} (hu : P.underlying t = some (.struct fs)) (hf : fs[f]? = some fd)
    {i : TypeInfo} (hi : P.info? fd.type = some i) (h0 : i.size ≠ 0) (w : World) :
    (Instr.fieldAt t (.pointer (some ⟨b, off, none⟩)) f).run P w = .ok (.pointer (some ⟨b, off + fd.offset, none⟩)) w := by
  unfold Instr.fieldAt
  rw [Sem.run_bind, run_underlying hu, Result.andThen_ok]
  simp only [hf, Instr.sureAddr, pure_bind, fieldPlace]
  rw [Sem.run_bind, Sem.run_bind, run_size hi, Result.andThen_ok, if_neg h0, Sem.run_pure, Result.andThen_ok, add_mk]
  rfl

theorem fieldAddr_sound (hT : TabOk X.P T) (hs : Sat X g σ a w) {t : TypeId} {x : Operand} {f : Nat} {cs : List Prop} {sv : SV} {o : Oper} (ho : o.op = .fieldAddr t x f)
    (h : evalPure T σ (.fieldAddr t x f) = some (cs, sv)) : Comes0 X g σ a w o sv := by
  simp only [evalPure] at h
  split at h
  · rename_i ti hti
    split at h
    · rename_i fs hund
      split at h
      · rename_i fd hfd
        have hu : X.P.underlying t = some (.struct fs) := by rw [← hund]; exact (hT t ti hti).1
        obtain ⟨k, hk⟩ := ev_rel hs x
        have fin : ∀ {b off : Nat} {s : SV} {n : Nat}, T.size fd.type = some (n + 1) → a.eval x = .pointer (some ⟨b, off, none⟩) →
            (∃ k, SR g w σ k (.pointer (some ⟨b, off + fd.offset, none⟩)) s) → s.pure = true → Comes0 X g σ a w o s := by
          intro b off s n hn hx hr hp
          obtain ⟨i, hi, hsz⟩ := hT.info hn
          refine ⟨_, fun _ => ?_, hr, hp⟩
          simp only [execOp, ho, hx]
          rw [Sem.run_bind, fieldAt_run hu hfd hi (by omega)]
          rfl
        split at h
        · rename_i n cells hn hx
          cases h
          rw [hx] at hk
          obtain ⟨b, off, hv, hb, hc⟩ := hk
          exact fin hn hv ⟨0, b, off + fd.offset, rfl, hb, fun i y hy => by
            rw [List.getElem?_drop] at hy
            obtain ⟨u, hu, hr⟩ := hc _ y hy
            exact ⟨u, by rw [Nat.add_assoc]; exact hu, hr⟩⟩ rfl
        · rename_i n o' off hn hx
          cases h
          rw [hx] at hk
          obtain ⟨hv, hl⟩ := hk
          exact fin hn hv ⟨0, rfl, hl⟩ rfl
        · rename_i n p i j z hn hx
          cases h
          rw [hx] at hk
          obtain ⟨b, e, m, f', hl, hi, hb, hv⟩ := hk
          exact fin hn hv ⟨0, b, e, m, f', hl, hi, hb, by rw [Nat.add_assoc]⟩ rfl
        · cases h
      · cases h
    · cases h
  · cases h

theorem unOp_sound (hs : Sat X g σ a w) {op : UnOp} {t : TypeId} {x : Operand} {cs : List Prop} {sv : SV} {o : Oper} (ho : o.op = .unOp op t x)
    (h : evalPure T σ (.unOp op t x) = some (cs, sv)) : Comes0 X g σ a w o sv := by
  simp only [evalPure] at h
  unfold unSV at h
  split at h
  · rename_i b hx
    cases h
    refine ⟨.bool (!b), fun _ => ?_, ⟨0, .fr (.bool _)⟩, rfl⟩
    simp only [execOp, ho, ev_bool hs hx]
    rfl
  · rename_i k n hx
    cases h
    refine ⟨.int k (k.wrap (0 - n)), fun _ => ?_, ⟨0, .fr (.int _ _)⟩, rfl⟩
    simp only [execOp, ho, ev_int hs hx]
    rfl
  · cases h

theorem iv_rel (hs : Sat X g σ a w) {x : Operand} {n : Int} (h : iv (σ.ev x) = some n) : ∃ k, a.eval x = .int k n := by
  unfold iv at h
  split at h
  · rename_i k m hx
    cases h
    exact ⟨k, ev_int hs hx⟩
  · cases h

theorem index_sound (hT : TabOk X.P T) (hs : Sat X g σ a w) {t : TypeId} {x i : Operand} {cs : List Prop} {sv : SV} {o : Oper} (ho : o.op = .index t x i)
    (h : evalPure T σ (.index t x i) = some (cs, sv)) (hc : ∀ c ∈ cs, c) : Comes0 X g σ a w o sv := by
  simp only [evalPure] at h
  split at h
  · rename_i ti n hti hn
    obtain ⟨k, hi⟩ := iv_rel hs hn
    split at h
    · rename_i s hund hx
      cases h
      have h0 := hc (0 ≤ n) (by simp)
      have h1 := hc (n < (s.length : Int)) (by simp)
      have hu : X.P.underlying t = some .string := by rw [← hund]; exact (hT t ti hti).1
      have hlt : n.toNat < s.length := by omega
      refine ⟨_, fun _ => ?_, ⟨0, .fr (.int _ _)⟩, rfl⟩
      simp only [execOp, ho, ev_str hs hx, hi, Instr.index, asIntOf, pure_bind]
      rw [Sem.run_bind, Sem.run_bind, run_underlying hu, Result.andThen_ok]
      simp only [h0, if_true]
      have : (⟨s.toArray⟩ : ByteArray)[n.toNat]? = some (s.getD n.toNat 0) := by
        rw [getElem?_pos (⟨s.toArray⟩ : ByteArray) n.toNat (by simpa [ByteArray.size] using hlt)]
        simp only [List.getD_eq_getElem?_getD, List.getElem?_eq_getElem hlt, Option.getD_some]
        rfl
      rw [this]
      rfl
    · cases h
  · cases h

theorem indexAddr_sound (hT : TabOk X.P T) (hs : Sat X g σ a w) {t : TypeId} {x i : Operand} {cs : List Prop} {sv : SV} {o : Oper} (ho : o.op = .indexAddr t x i)
    (h : evalPure T σ (.indexAddr t x i) = some (cs, sv)) (hc : ∀ c ∈ cs, c) : Comes0 X g σ a w o sv := by
  simp only [evalPure] at h
  split at h
  · rename_i ti n hti hn
    obtain ⟨k, hi⟩ := iv_rel hs hn
    obtain ⟨q, hk⟩ := ev_rel hs x
    have fin : ∀ {e z b off len cap : Nat} {s : SV}, ti.und = .slice e → T.size e = some z → a.eval x = .slice (some ⟨b, off, none⟩) len cap → 0 ≤ n → n < (len : Int) →
        (∃ k, SR g w σ k (.pointer (some ⟨b, off + n.toNat * z, none⟩)) s) → s.pure = true → Comes0 X g σ a w o s := by
      intro e z b off len cap s hund hz hx h0 h1 hr hp
      have hu : X.P.underlying t = some (.slice e) := by rw [← hund]; exact (hT t ti hti).1
      obtain ⟨i', hi', hsz⟩ := hT.info hz
      refine ⟨_, fun _ => ?_, hr, hp⟩
      simp only [execOp, ho, hx, hi, Instr.indexAt, asIntOf, pure_bind, Sem.run_bind, run_underlying hu, Result.andThen_ok, h0, h1, and_self, if_true, run_size hi', hsz, Sem.run_pure, add_mk]
    split at h
    · rename_i e z len f hund hx
      rw [hx] at hk
      split at h
      · rename_i z' hz
        split at h
        · rename_i hzz
          obtain rfl : z = z' := Nat.eq_of_beq_eq_true hzz
          cases h
          have h0 := hc (0 ≤ n) (by simp)
          have h1 := hc (n < (len : Int)) (by simp)
          have hk' := TRel.plain (g := g) (p := (.slot q 0, [])) (x := .fz z len f) hk rfl
          rcases fz_inv hk' with ⟨_, hl⟩ | ⟨b, off, cap, ds, hb, hv, _, _, hlen, h5, h6⟩
          · omega
          · refine fin hund hz hv h0 h1 ⟨0, b, off + n.toNat * z, rfl, hb, fun j y hy => ?_⟩ rfl
            have hlt : n.toNat < len := by omega
            exact ⟨_, h5 n.toNat j y hlt hy, h6 n.toNat j y hlt hy⟩
        · cases h
      · cases h
    · rename_i e p hund hx
      rw [hx] at hk
      split at h
      · rename_i z' z e' len f hz hl
        split at h
        · rename_i hzz
          obtain rfl : z = z' := Nat.eq_of_beq_eq_true hzz
          cases h
          have h0 := hc (0 ≤ n) (by simp)
          have h1 := hc (n < (len : Int)) (by simp)
          obtain ⟨z2, e2, n2, f2, hl2, hv⟩ := hk
          rw [hl] at hl2
          cases hl2
          rcases hv with ⟨_, hl0⟩ | ⟨b, cap, c, hb, hv, _⟩
          · omega
          · refine fin hund hz hv h0 h1 ⟨0, b, e', len, f, hl, by omega, hb, by simp⟩ rfl
        · cases h
      · cases h
    · cases h
  · cases h

end
end Go.Sx
