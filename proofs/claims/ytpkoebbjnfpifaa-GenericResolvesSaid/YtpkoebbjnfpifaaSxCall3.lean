/- A call as an operation of the caller's; no condition. -/
import Derived.Test.YtpkoebbjnfpifaaSxCall2
namespace Go.Sx
open Go

/-- A function that is called by its text. -/
def Fn (P : Program) (f : FuncId) : Prop := ∀ args w, (callFunc f args).run P w = .ok (.enter f args) w

theorem run_call {P : Program} {f : FuncId} (h : Fn P f) {o : Oper} {x : Operand} {as : Array Operand} {ts : Array TypeId} (ho : o.op = .call { callee := .value x, args := as, argTypes := ts }) {ρ : Operand → Value} {cs : Array Value} (hx : ρ x = .func (.func f) #[] cs) (w : World) :
    (execOp ρ o).run P w = .ok (.enter f (as.map ρ ++ cs)) w := by
  unfold execOp
  simp only [ho, resolve, hx, Deferred.ofValue]
  simp only [Array.empty_append, pure_bind, invoke]
  exact h _ w

def evs (σ : AState) (l : List Operand) : List SV := l.map σ.ev

section
variable {X : Ctx} {g : Gh} {σ : AState} {a : Act} {w : World}

theorem S1.calm {g g' : Gh} {w : World} {σ σ0 : AState} {k j k' j' : Nat} {v : Value} {sv : SV} (h : S1 g w σ k j v sv) (hp : sv.pure1 = true) (hn : sv.names1 (fun _ => true) = false) (hP : g'.P = g.P) : S1 g' w σ0 k' j' v sv := by
  cases sv with
  | junk => trivial
  | tv x => exact .fr (by rw [hP]; exact TRel.plain h hp)
  | agg cs =>
    obtain ⟨vs, rfl, hs, hc⟩ := h
    refine ⟨vs, rfl, hs, fun i y hy => ?_⟩
    obtain ⟨u, hu, hr⟩ := hc i y hy
    simp only [SV.pure1, List.all_eq_true] at hp
    exact ⟨u, hu, .fr (by rw [hP]; exact hr.plain (hp y (List.mem_of_getElem? hy)))⟩
  | rp cs =>
    obtain ⟨b, off, hv, hb, hc⟩ := h
    refine ⟨b, off, hv, by rw [hP]; exact hb, fun i y hy => ?_⟩
    obtain ⟨u, hu, hr⟩ := hc i y hy
    exact ⟨u, hu, by rw [hP]; exact hr⟩
  | tup => cases hp
  | fn => cases hp
  | _ => cases hn

theorem SR.calm {g g' : Gh} {w : World} {σ σ0 : AState} {k k' : Nat} {v : Value} {sv : SV} (h : SR g w σ k v sv) (hp : sv.pure = true) (hn : sv.nameless = true) (hP : g'.P = g.P) : SR g' w σ0 k' v sv := by
  have hn' : sv.names (fun _ => true) = false := by simpa [SV.nameless] using hn
  rcases sv.three with ⟨vs, rfl⟩ | ⟨f, vs, rfl⟩ | hf
  · obtain ⟨us, rfl, hs, hc⟩ := h
    refine ⟨us, rfl, hs, fun j sv hj => ?_⟩
    obtain ⟨u, hu, hr⟩ := hc j sv hj
    simp only [SV.pure, List.all_eq_true] at hp
    simp only [SV.names, List.any_eq_false] at hn'
    exact ⟨u, hu, hr.calm (hp sv (List.mem_of_getElem? hj)) (by simpa using hn' sv (List.mem_of_getElem? hj)) hP⟩
  · obtain ⟨us, rfl, hs, hc⟩ := h
    refine ⟨us, rfl, hs, fun j sv hj => ?_⟩
    obtain ⟨u, hu, hr⟩ := hc j sv hj
    simp only [SV.pure, List.all_eq_true] at hp
    simp only [SV.names, List.any_eq_false] at hn'
    exact ⟨u, hu, hr.calm (hp sv (List.mem_of_getElem? hj)) (by simpa using hn' sv (List.mem_of_getElem? hj)) hP⟩
  · rw [SR_flat hf] at h ⊢
    exact h.calm (by cases sv <;> first | exact hp | cases hf) (by rw [names_flat hf] at hn'; exact hn') hP

/-- What an argument reads as. -/
def AR (g : Gh) (w : World) (σ : AState) (v : Value) (s : SV) : Prop := (∃ k, SR g w σ k v s) ∨ ∃ k j, S1 g w σ k j v s

theorem S1.flat {g : Gh} {w : World} {σ : AState} {k j : Nat} {v : Value} {s : SV} (h : S1 g w σ k j v s) : s.flat = true := by
  cases s <;> first | rfl | exact h.elim

theorem AR.view (hs : Sat X g σ a w) {v : Value} {s s' : SV} {l : List Prop} (h : AR g w σ v s) (hv : σ.view s = some (l, s')) (hl : ∀ c ∈ l, c) (σ0 : AState) (k' : Nat) : SR (Gh.still w) w σ0 k' v s' := by
  rcases h with ⟨k, h⟩ | ⟨k, j, h⟩
  · exact view_sound hs h hv hl σ0 k'
  · have hf := h.flat
    rw [view_flat fun f caps e => by rw [e] at hf; cases hf] at hv
    rw [SR_flat (view1_flat hv).1]
    exact view1_sound hs h hv hl σ0 k' 0

theorem AR.calm {g' : Gh} {σ0 : AState} {k' : Nat} {v : Value} {s : SV} (h : AR g w σ v s) (hp : s.pure = true) (hn : s.nameless = true) (hP : g'.P = g.P) : SR g' w σ0 k' v s := by
  rcases h with ⟨k, h⟩ | ⟨k, j, h⟩
  · exact h.calm hp hn hP
  · have hf := h.flat
    rw [SR_flat hf]
    have hn' : s.names (fun _ => true) = false := by simpa [SV.nameless] using hn
    exact h.calm (by cases s <;> first | exact hp | cases hf) (by rw [names_flat hf] at hn'; exact hn') hP

/-- The arguments' values, the closure's last. -/
theorem args_rel (hs : Sat X g σ a w) {as : Array Operand} {f : FuncId} {x : Operand} {caps : List SV} (hx : σ.ev x = .fn f caps) :
    ∃ cs, a.eval x = .func (.func f) #[] cs ∧ (as.map a.eval ++ cs).size = (evs σ as.toList ++ caps).length ∧
      ∀ (q : Nat) s, (evs σ as.toList ++ caps)[q]? = some s → AR g w σ ((as.map a.eval ++ cs).getD q undef) s := by
  obtain ⟨k0, hk0⟩ := ev_rel hs x
  rw [hx] at hk0
  obtain ⟨cs, hv, hsz, hc⟩ := hk0
  refine ⟨cs, hv, by simp [evs, hsz], fun q s hq => ?_⟩
  rw [Array.getD_eq_getD_getElem?]
  by_cases hlt : q < as.size
  · rw [List.getElem?_append_left (by simpa [evs] using hlt)] at hq
    simp only [evs, List.getElem?_map, Array.getElem?_toList] at hq
    rw [Array.getElem?_append_left (by simpa using hlt), Array.getElem?_map]
    obtain ⟨y, hy, rfl⟩ := Option.map_eq_some_iff.1 hq
    rw [hy]
    exact .inl (ev_rel hs y)
  · rw [List.getElem?_append_right (by simpa [evs] using Nat.le_of_not_lt hlt)] at hq
    rw [Array.getElem?_append_right (by simpa using Nat.le_of_not_lt hlt)]
    simp only [evs, List.length_map, Array.length_toList] at hq
    obtain ⟨u, hu, hr⟩ := hc _ s hq
    simp only [Array.size_map]
    rw [hu]
    exact .inr ⟨_, _, hr⟩

theorem Ent.view (hs : Sat X g σ a w) {vs : Array Value} {ss ss' : List SV} {l : List Prop} (hsz : vs.size = ss.length) (hr : ∀ (q : Nat) s, ss[q]? = some s → AR g w σ (vs.getD q undef) s) (hv : σ.views ss = some (l, ss')) (hl : ∀ c ∈ l, c) :
    Ent (Gh.still w) w vs ss' [] := by
  obtain ⟨h1, h2⟩ := views_at hv hl
  refine ⟨by rw [hsz, h1], fun k sv hk => ?_, fun o t cs ho => (by simp at ho), fun b b' p hb _ => (by cases hb), fun b hb => ⟨rfl, hb⟩, fun b p hb => (by cases hb), fun b p hb => (by cases hb)⟩
  obtain ⟨s, l', hs0, hv0, hl0⟩ := h2 k sv hk
  exact (hr k s hs0).view hs hv0 hl0 _ _

theorem Ent.calm (hs : Sat X g σ a w) {vs : Array Value} {ss : List SV} (hsz : vs.size = ss.length) (hr : ∀ (q : Nat) s, ss[q]? = some s → AR g w σ (vs.getD q undef) s) (hp : ss.all (fun s => s.pure && s.nameless) = true) :
    Ent ⟨fun _ => none, g.P, fun o => o⟩ w vs ss [] := by
  refine ⟨hsz, fun k sv hk => ?_, fun o t cs ho => (by simp at ho), fun b b' p hb _ => (by cases hb), fun b hb => ⟨rfl, (hs.frozen b hb).2⟩, fun b p hb => (by cases hb), fun b p hb => (by cases hb)⟩
  rw [List.all_eq_true] at hp
  have := hp sv (List.mem_of_getElem? hk)
  rw [Bool.and_eq_true] at this
  exact (hr k sv hk).calm this.1 this.2 rfl

end

section
variable {F : Cfg} {Q : Exit → AState → Prop} {σ : AState}

/-- Arguments that are only read, a result that hangs on no memory held still. -/
theorem AOne.callR {ops : Array Oper} {i : Nat} {as : Array Operand} {ts : Array TypeId} {x : Operand} (o : Oper) (ho : ops[i]? = some o) (hop : o.op = .call { callee := .value x, args := as, argTypes := ts }) (hg : guardV ops σ o = some true)
    (d : Nat) (hd : o.dst = some d) (hlt : Nat.blt d F.n = true) (f : FuncId) (caps : List SV) (hx : σ.ev x = .fn f caps) (hf : Fn F.P f) (cs : List Prop) (args : List SV) (hv : σ.views (evs σ as.toList ++ caps) = some (cs, args)) (hc : AllP cs) {res : SV}
    (hcall : ACall F.P f args [] res []) (hi : res.ind) (hn : res.nameless = true) : AOne F ops i σ (σ.put d res) := fun w0 g0 g a w hs K Q h => by
  simp only [wpOp, ho]
  rw [if_pos (guardV_sound hs hg)]
  left
  obtain ⟨us, hxv, hsz, hr⟩ := args_rel hs (as := as) hx
  unfold Oper.wp
  rw [run_call hf hop hxv, Oper.upon_enter]
  refine Calls.mono (hcall _ w _ (Ent.view hs hsz hr hv hc.mem)) ?_
  rintro e w' ⟨v, g', rfl, hE⟩
  have hd' : d < (F.ctx w0 g0).n := Nat.le_of_ble_eq_true hlt
  rw [hd]
  exact h _ _ w' (hs.callPut hd' hE (fun _ => rfl) g.P (fun _ hb => hb) (fun _ hb => .inl hb) (hE.res.ind g.P hi) hn)

/-- Arguments that lie still: any result. -/
theorem AOne.callP {ops : Array Oper} {i : Nat} {as : Array Operand} {ts : Array TypeId} {x : Operand} (o : Oper) (ho : ops[i]? = some o) (hop : o.op = .call { callee := .value x, args := as, argTypes := ts }) (hg : guardV ops σ o = some true)
    (d : Nat) (hd : o.dst = some d) (hlt : Nat.blt d F.n = true) (f : FuncId) (caps : List SV) (hx : σ.ev x = .fn f caps) (hf : Fn F.P f) (args : List SV) (ha : evs σ as.toList ++ caps = args) (hp : args.all (fun s => s.pure && s.nameless) = true) {res : SV}
    (hcall : ACall F.P f args [] res []) (hn : res.nameless = true) : AOne F ops i σ (σ.put d res) := fun w0 g0 g a w hs K Q h => by
  subst ha
  simp only [wpOp, ho]
  rw [if_pos (guardV_sound hs hg)]
  left
  obtain ⟨us, hxv, hsz, hr⟩ := args_rel hs (as := as) hx
  unfold Oper.wp
  rw [run_call hf hop hxv, Oper.upon_enter]
  refine Calls.mono (hcall _ w _ (Ent.calm hs hsz hr hp)) ?_
  rintro e w' ⟨v, g', rfl, hE⟩
  have hd' : d < (F.ctx w0 g0).n := Nat.le_of_ble_eq_true hlt
  rw [hd]
  refine h _ _ w' (hs.callPut hd' hE (fun _ => rfl) g'.P hE.P1 (fun b hb => ?_) hE.res hn)
  rcases hE.P0 b hb with h1 | h1 | h1
  · exact .inl h1
  · exact .inr ⟨h1, hb⟩
  · exact absurd rfl h1

end
end Go.Sx
