/- Printed by program (wip/gen): plain functions and their walks; no condition. -/
import Derived.Test.YtgabiokgockopaaProg
import Derived.KernelRfl
import Derived.Test.YtgabiokgockopaaSxC
namespace Go.Sx.sto
open Go Go.Sx Go.Proofs

structure T36 where
 f0 : List UInt8
 f1 : Int
 f2 : Int
 deriving Inhabited

def c36 (x : T36) : List TV := [.str x.f0, .int .i64 x.f1, .int .i64 x.f2]

structure T34 where
 f0 : List UInt8
 f1 : Int
 deriving Inhabited

def c34 (x : T34) : List TV := [.str x.f0, .int .i64 x.f1]

structure T57 where
 f0 : List T36
 f1 : List Int
 f2 : List Int
 deriving Inhabited

def c57 (x : T57) : List TV := [fzL 3 c36 x.f0, fzL 1 (cInt .i64) x.f1, fzL 1 (cInt .i64) x.f2]

noncomputable def ti3 : TI := ⟨Try.t3.desc, 1, 8, [(.int .i64 (0))], false⟩
theorem tiok3 : TIOk Try.prog 3 ti3 := ⟨by kernel_rfl, Try.t3, (.int .i64 (0)), by kernel_rfl, by kernel_rfl, by kernel_rfl, by kernel_rfl, by kernel_rfl, by kernel_rfl, by kernel_rfl, (fun _ => ⟨rfl, fun _ h => Value.noConfusion h⟩), (fun h => Bool.noConfusion (show false = true from h))⟩
noncomputable def ti4 : TI := ⟨Try.t4.desc, 1, 1, [(.bool false)], false⟩
theorem tiok4 : TIOk Try.prog 4 ti4 := ⟨by kernel_rfl, Try.t4, (.bool false), by kernel_rfl, by kernel_rfl, by kernel_rfl, by kernel_rfl, by kernel_rfl, by kernel_rfl, by kernel_rfl, (fun _ => ⟨rfl, fun _ h => Value.noConfusion h⟩), (fun h => Bool.noConfusion (show false = true from h))⟩
noncomputable def ti5 : TI := ⟨Try.t5.desc, 1, 1, [(.int .u8 (0))], false⟩
theorem tiok5 : TIOk Try.prog 5 ti5 := ⟨by kernel_rfl, Try.t5, (.int .u8 (0)), by kernel_rfl, by kernel_rfl, by kernel_rfl, by kernel_rfl, by kernel_rfl, by kernel_rfl, by kernel_rfl, (fun _ => ⟨rfl, fun _ h => Value.noConfusion h⟩), (fun h => Bool.noConfusion (show false = true from h))⟩
noncomputable def ti9 : TI := ⟨Try.t9.desc, 1, 16, [(.string ⟨#[]⟩)], false⟩
theorem tiok9 : TIOk Try.prog 9 ti9 := ⟨by kernel_rfl, Try.t9, (.string ⟨#[]⟩), by kernel_rfl, by kernel_rfl, by kernel_rfl, by kernel_rfl, by kernel_rfl, by kernel_rfl, by kernel_rfl, (fun _ => ⟨rfl, fun _ h => Value.noConfusion h⟩), (fun h => Bool.noConfusion (show false = true from h))⟩
noncomputable def ti22 : TI := ⟨Try.t22.desc, 1, 24, [(.slice none 0 0)], false⟩
theorem tiok22 : TIOk Try.prog 22 ti22 := ⟨by kernel_rfl, Try.t22, (.slice none 0 0), by kernel_rfl, by kernel_rfl, by kernel_rfl, by kernel_rfl, by kernel_rfl, by kernel_rfl, by kernel_rfl, (fun _ => ⟨rfl, fun _ h => Value.noConfusion h⟩), (fun h => Bool.noConfusion (show false = true from h))⟩
noncomputable def ti23 : TI := ⟨Try.t23.desc, 1, 24, [(.slice none 0 0)], false⟩
theorem tiok23 : TIOk Try.prog 23 ti23 := ⟨by kernel_rfl, Try.t23, (.slice none 0 0), by kernel_rfl, by kernel_rfl, by kernel_rfl, by kernel_rfl, by kernel_rfl, by kernel_rfl, by kernel_rfl, (fun _ => ⟨rfl, fun _ h => Value.noConfusion h⟩), (fun h => Bool.noConfusion (show false = true from h))⟩
noncomputable def ti24 : TI := ⟨Try.t24.desc, 1, 24, [(.slice none 0 0)], false⟩
theorem tiok24 : TIOk Try.prog 24 ti24 := ⟨by kernel_rfl, Try.t24, (.slice none 0 0), by kernel_rfl, by kernel_rfl, by kernel_rfl, by kernel_rfl, by kernel_rfl, by kernel_rfl, by kernel_rfl, (fun _ => ⟨rfl, fun _ h => Value.noConfusion h⟩), (fun h => Bool.noConfusion (show false = true from h))⟩
noncomputable def ti27 : TI := ⟨Try.t27.desc, 1, 24, [(.slice none 0 0)], false⟩
theorem tiok27 : TIOk Try.prog 27 ti27 := ⟨by kernel_rfl, Try.t27, (.slice none 0 0), by kernel_rfl, by kernel_rfl, by kernel_rfl, by kernel_rfl, by kernel_rfl, by kernel_rfl, by kernel_rfl, (fun _ => ⟨rfl, fun _ h => Value.noConfusion h⟩), (fun h => Bool.noConfusion (show false = true from h))⟩
noncomputable def ti28 : TI := ⟨Try.t3.desc, 1, 8, [(.int .i64 (0))], false⟩
theorem tiok28 : TIOk Try.prog 28 ti28 := ⟨by kernel_rfl, Try.t28, (.int .i64 (0)), by kernel_rfl, by kernel_rfl, by kernel_rfl, by kernel_rfl, by kernel_rfl, by kernel_rfl, by kernel_rfl, (fun _ => ⟨rfl, fun _ h => Value.noConfusion h⟩), (fun h => Bool.noConfusion (show false = true from h))⟩
noncomputable def ti32 : TI := ⟨Try.t32.desc, 1, 24, [(.slice none 0 0)], false⟩
theorem tiok32 : TIOk Try.prog 32 ti32 := ⟨by kernel_rfl, Try.t32, (.slice none 0 0), by kernel_rfl, by kernel_rfl, by kernel_rfl, by kernel_rfl, by kernel_rfl, by kernel_rfl, by kernel_rfl, (fun _ => ⟨rfl, fun _ h => Value.noConfusion h⟩), (fun h => Bool.noConfusion (show false = true from h))⟩
noncomputable def ti35 : TI := ⟨Try.t34.desc, 2, 24, [(.string ⟨#[]⟩), (.int .i64 (0))], false⟩
theorem tiok35 : TIOk Try.prog 35 ti35 := ⟨by kernel_rfl, Try.t35, (.agg #[(.string ⟨#[]⟩), (.int .i64 (0))]), by kernel_rfl, by kernel_rfl, by kernel_rfl, by kernel_rfl, by kernel_rfl, by kernel_rfl, by kernel_rfl, (fun h => Bool.noConfusion (show true = false from h)), (fun h => Bool.noConfusion (show false = true from h))⟩
noncomputable def ti37 : TI := ⟨Try.t36.desc, 3, 32, [(.string ⟨#[]⟩), (.int .i64 (0)), (.int .i64 (0))], false⟩
theorem tiok37 : TIOk Try.prog 37 ti37 := ⟨by kernel_rfl, Try.t37, (.agg #[(.string ⟨#[]⟩), (.int .i64 (0)), (.int .i64 (0))]), by kernel_rfl, by kernel_rfl, by kernel_rfl, by kernel_rfl, by kernel_rfl, by kernel_rfl, by kernel_rfl, (fun h => Bool.noConfusion (show true = false from h)), (fun h => Bool.noConfusion (show false = true from h))⟩
noncomputable def ti38 : TI := ⟨Try.t38.desc, 1, 24, [(.slice none 0 0)], false⟩
theorem tiok38 : TIOk Try.prog 38 ti38 := ⟨by kernel_rfl, Try.t38, (.slice none 0 0), by kernel_rfl, by kernel_rfl, by kernel_rfl, by kernel_rfl, by kernel_rfl, by kernel_rfl, by kernel_rfl, (fun _ => ⟨rfl, fun _ h => Value.noConfusion h⟩), (fun h => Bool.noConfusion (show false = true from h))⟩
noncomputable def ti56 : TI := ⟨Try.t56.desc, 1, 8, [(.map none)], false⟩
theorem tiok56 : TIOk Try.prog 56 ti56 := ⟨by kernel_rfl, Try.t56, (.map none), by kernel_rfl, by kernel_rfl, by kernel_rfl, by kernel_rfl, by kernel_rfl, by kernel_rfl, by kernel_rfl, (fun _ => ⟨rfl, fun _ h => Value.noConfusion h⟩), (fun h => Bool.noConfusion (show false = true from h))⟩
noncomputable def ti58 : TI := ⟨Try.t57.desc, 3, 72, [(.slice none 0 0), (.slice none 0 0), (.slice none 0 0)], false⟩
theorem tiok58 : TIOk Try.prog 58 ti58 := ⟨by kernel_rfl, Try.t58, (.agg #[(.slice none 0 0), (.slice none 0 0), (.slice none 0 0)]), by kernel_rfl, by kernel_rfl, by kernel_rfl, by kernel_rfl, by kernel_rfl, by kernel_rfl, by kernel_rfl, (fun h => Bool.noConfusion (show true = false from h)), (fun h => Bool.noConfusion (show false = true from h))⟩
noncomputable def ti83 : TI := ⟨Try.t83.desc, 1, 8, [(.map none)], false⟩
theorem tiok83 : TIOk Try.prog 83 ti83 := ⟨by kernel_rfl, Try.t83, (.map none), by kernel_rfl, by kernel_rfl, by kernel_rfl, by kernel_rfl, by kernel_rfl, by kernel_rfl, by kernel_rfl, (fun _ => ⟨rfl, fun _ h => Value.noConfusion h⟩), (fun h => Bool.noConfusion (show false = true from h))⟩
noncomputable def ti96 : TI := ⟨Try.t96.desc, 1, 24, [(.slice none 0 0)], false⟩
theorem tiok96 : TIOk Try.prog 96 ti96 := ⟨by kernel_rfl, Try.t96, (.slice none 0 0), by kernel_rfl, by kernel_rfl, by kernel_rfl, by kernel_rfl, by kernel_rfl, by kernel_rfl, by kernel_rfl, (fun _ => ⟨rfl, fun _ h => Value.noConfusion h⟩), (fun h => Bool.noConfusion (show false = true from h))⟩
noncomputable def TT : Tab := [(3, ti3), (4, ti4), (5, ti5), (9, ti9), (22, ti22), (23, ti23), (24, ti24), (27, ti27), (28, ti28), (32, ti32), (35, ti35), (37, ti37), (38, ti38), (56, ti56), (58, ti58), (83, ti83), (96, ti96)]
theorem hT : TabOk Try.prog TT := TabOk.cons tiok3 (TabOk.cons tiok4 (TabOk.cons tiok5 (TabOk.cons tiok9 (TabOk.cons tiok22 (TabOk.cons tiok23 (TabOk.cons tiok24 (TabOk.cons tiok27 (TabOk.cons tiok28 (TabOk.cons tiok32 (TabOk.cons tiok35 (TabOk.cons tiok37 (TabOk.cons tiok38 (TabOk.cons tiok56 (TabOk.cons tiok58 (TabOk.cons tiok83 (TabOk.cons tiok96 (TabOk.nil _)))))))))))))))))
noncomputable def FF (n h0 : Nat) : Cfg := ⟨Try.prog, TT, n, h0, hT⟩
theorem FFm : Try.prog.follows .mixedOrders = true := by kernel_rfl

abbrev tI (n : Int) : SV := .tv (.int .i64 n)
abbrev tB (b : Bool) : SV := .tv (.bool b)
abbrev tS (s : List UInt8) : SV := .tv (.str s)
theorem z0 {n : Nat} : 0 ≤ n := Nat.zero_le n
abbrev gD {A : Type} [Inhabited A] (l : List A) (i : Int) : A := l.getD i.toNat default
abbrev q0 (l : List T36) : SV := .tv (fzL 3 c36 l)
abbrev q1 (l : List Int) : SV := .tv (fzL 1 (cInt .i64) l)
abbrev q2 (l : List Int) : SV := .tv (ownL 1 3 (cInt .i64) l)
abbrev q3 (l : List (List UInt8)) : SV := .tv (fzL 1 cStr l)
abbrev k0 (l : List Int) : TV := ownL 1 3 (cInt .i64) l
abbrev k1 (l : List T36) : TV := fzL 3 c36 l
abbrev k2 (l : List Int) : TV := fzL 1 (cInt .i64) l
abbrev k3 (l : List (List UInt8)) : TV := fzL 1 cStr l
abbrev nS : TV := .sc (.slice none 0 0)
abbrev y1 : Bool := true
abbrev n1 : Bool := false

noncomputable def f9_b1 (v2 : List (List T34)) (v4 : Int) (v5 : Int) : Option ((Int × Int) ⊕ Out Bool Int) :=
 (cond (decide (v5 < (v2.length : Int))) (some (decide (v4 ≤ (500 : Int)))) (some false)).bind fun v7 => cond v7 (if (0 : Int) ≤ v5 ∧ v5 < (v2.length : Int) then some (.inl (w64 (v4 + ((v2.getD v5.toNat default).length : Int)), w64 (v5 + (1 : Int)))) else none) (some (.inr (.go v4)))

noncomputable def f9_b2 (v3 : List (List (List UInt8))) (v9 : Int) (v10 : Int) : Option ((Int × Int) ⊕ Out Bool Int) :=
 (cond (decide (v10 < (v3.length : Int))) (some (decide (v9 ≤ (500 : Int)))) (some false)).bind fun v12 => cond v12 (if (0 : Int) ≤ v10 ∧ v10 < (v3.length : Int) then some (.inl (w64 (v9 + ((v3.getD v10.toNat default).length : Int)), w64 (v10 + (1 : Int)))) else none) (some (.inr (.go v9)))

noncomputable def f9 (v1 : List T36) (v2 : List (List T34)) (v3 : List (List (List UInt8))) : Option Bool :=
 (iter (fun s => f9_b1 v2 s.1 s.2) (w64 ((w64 ((v1.length : Int) + (v2.length : Int))) + (v3.length : Int)), (0 : Int))).bind fun y => match y with | .ret v8 => some v8 | .go v6 => (iter (fun s => f9_b2 v3 s.1 s.2) (v6, (0 : Int))).bind fun y => match y with | .ret v13 => some v13 | .go v11 => some (decide (v11 > (500 : Int)))

theorem f9_ok (v1 : List T36) (v2 : List (List T34)) (v3 : List (List (List UInt8))) {r : Bool} (h : f9 v1 v2 v3 = some r) : ACall Try.prog 9 [.tv (fzL 3 c36 v1), .tv (fzL 1 (cSl 2 c34) v2), .tv (fzL 1 (cSl 1 cStr) v3)] [] (.tv (.bool r)) [] := by
 refine ACall.of1 (FF 54 0) Try.func9 rfl Try.ntmps9 Try.results9 (Nat.le_of_ble_eq_true rfl) rfl rfl ?_
 refine AWp.seq ?_
 refine AWp.start [0] [] [] [0, 1, 2] 0 ⟨[(0, q0 v1), (1, .tv (fzL 1 (cSl 2 c34) v2)), (2, .tv (fzL 1 (cSl 1 cStr) v3))], []⟩ rfl ?_ z0 trivial ?_
 ·kernel_rfl
 refine AOps.nil ?_
 refine AWp.seq ?_
 refine AWp.start [0, 1, 2, 3, 4, 5, 6, 7, 8] [] [] [1, 2, 7] 0 ⟨[(1, .tv (fzL 1 (cSl 2 c34) v2)), (2, .tv (fzL 1 (cSl 1 cStr) v3)), (7, tI (w64 ((w64 ((v1.length : Int) + (v2.length : Int))) + (v3.length : Int))))], []⟩ rfl ?_ z0 trivial ?_
 ·kernel_rfl
 refine AOps.nil ?_
 refine AWp.seq ?_
 refine AWp.seq ?_
 refine AWp.start [0] [] [] [1, 2, 7, 8] 0 ⟨[(1, .tv (fzL 1 (cSl 2 c34) v2)), (2, .tv (fzL 1 (cSl 1 cStr) v3)), (7, tI (w64 ((w64 ((v1.length : Int) + (v2.length : Int))) + (v3.length : Int)))), (8, tI (0 : Int))], []⟩ rfl ?_ z0 trivial ?_
 ·kernel_rfl
 refine AOps.nil ?_
 refine AWp.block ?_
 obtain ⟨y, hy, h⟩ := of_bind h
 refine AWp.mono (AWp.loop (S := Int × Int) (Y := Out Bool Int) (fun s => ⟨[(1, .tv (fzL 1 (cSl 2 c34) v2)), (2, .tv (fzL 1 (cSl 1 cStr) v3)), (7, tI s.1), (8, tI s.2)], []⟩) (fun s => f9_b1 v2 s.1 s.2) (fun y e σ => match y with | .ret r => e = .ret ∧ σ = ⟨[(6, tB r)], []⟩ | .go v => e = .exit 0 ∧ σ = ⟨[(2, .tv (fzL 1 (cSl 1 cStr) v3)), (7, tI v)], []⟩) ?_ hy) ?_
 ·rintro ⟨v4, v5⟩ o h
  refine AWp.seq ?_
  refine AWp.seq ?_
  refine AWp.start [0, 1, 2, 3, 4] [5, 6, 7] [] [1, 2, 7, 8, 22] 0 ⟨[(1, .tv (fzL 1 (cSl 2 c34) v2)), (2, .tv (fzL 1 (cSl 1 cStr) v3)), (7, tI v4), (8, tI v5), (22, tB (decide (v5 < (v2.length : Int))))], []⟩ rfl ?_ z0 trivial ?_
  ·kernel_rfl
  obtain ⟨v7, hc5, h⟩ := of_bind h
  refine AOps.cut [5, 6, 7] [] (fun σ => σ = ⟨[(1, .tv (fzL 1 (cSl 2 c34) v2)), (2, .tv (fzL 1 (cSl 1 cStr) v3)), (7, tI v4), (8, tI v5), (25, tB v7)], []⟩) ?_ fun σ' hJ => ?_
  ·refine AOps.split (fun b => ⟨[(1, .tv (fzL 1 (cSl 2 c34) v2)), (2, .tv (fzL 1 (cSl 1 cStr) v3)), (7, tI v4), (8, tI v5), (22, tB b)], []⟩) _ (fun hb => ?_) fun hb => ?_
   ·replace hc5 := of_true hc5 hb
    refine AOps.go [5, 6, 7] [] [] [1, 2, 7, 8, 25] 0 ⟨[(1, .tv (fzL 1 (cSl 2 c34) v2)), (2, .tv (fzL 1 (cSl 1 cStr) v3)), (7, tI v4), (8, tI v5), (25, tB (decide (v4 ≤ (500 : Int))))], []⟩ ?_ z0 trivial ?_
    ·kernel_rfl
    cases hc5
    exact AOps.nil rfl
   ·replace hc5 := of_false hc5 hb
    refine AOps.go [5, 6, 7] [] [] [1, 2, 7, 8, 25] 0 ⟨[(1, .tv (fzL 1 (cSl 2 c34) v2)), (2, .tv (fzL 1 (cSl 1 cStr) v3)), (7, tI v4), (8, tI v5), (25, tB false)], []⟩ ?_ z0 trivial ?_
    ·kernel_rfl
    cases hc5
    exact AOps.nil rfl
  subst hJ
  refine AOps.nil ?_
  refine AWp.cond rfl (fun hb => ?_) fun hb => ?_
  ·replace h := of_true h hb
   refine AWp.keepTo [1, 2, 7, 8] 0 ⟨[(1, .tv (fzL 1 (cSl 2 c34) v2)), (2, .tv (fzL 1 (cSl 1 cStr) v3)), (7, tI v4), (8, tI v5)], []⟩ ?_ z0 ?_
   ·kernel_rfl
   refine AWp.skip ?_
   refine AWp.seq ?_
   refine AWp.block ?_
   obtain ⟨hg, h⟩ := of_guard h
   refine AWp.start [0, 1, 2, 3, 4, 5, 6, 7] [] [(0 : Int) ≤ v5, v5 < (v2.length : Int)] [1, 2, 7, 8] 0 ⟨[(1, .tv (fzL 1 (cSl 2 c34) v2)), (2, .tv (fzL 1 (cSl 1 cStr) v3)), (7, tI (w64 (v4 + ((gD v2 v5).length : Int)))), (8, tI v5)], []⟩ rfl ?_ z0 ⟨hg.1, hg.2⟩ ?_
   ·kernel_rfl
   refine AOps.nil ?_
   refine AWp.start [0, 1, 2] [] [] [1, 2, 7, 8] 0 ⟨[(1, .tv (fzL 1 (cSl 2 c34) v2)), (2, .tv (fzL 1 (cSl 1 cStr) v3)), (7, tI (w64 (v4 + ((gD v2 v5).length : Int)))), (8, tI (w64 (v5 + (1 : Int))))], []⟩ rfl ?_ z0 trivial ?_
   ·kernel_rfl
   refine AOps.nil ?_
   cases h
   exact Or.inl ⟨_, rfl, rfl, rfl⟩
  ·replace h := of_false h hb
   refine AWp.keepTo [2, 7] 0 ⟨[(2, .tv (fzL 1 (cSl 1 cStr) v3)), (7, tI v4)], []⟩ ?_ z0 ?_
   ·kernel_rfl
   refine AWp.exit ?_
   cases h
   exact Or.inr ⟨_, rfl, by simp, rfl, rfl⟩
 ·intro e σ hp
  rcases y with v8 | v6
  ·obtain ⟨rfl, rfl⟩ := hp
   cases h
   exact ⟨.inr rfl, rfl⟩
  ·obtain ⟨rfl, rfl⟩ := hp
   refine AWp.seq ?_
   refine AWp.seq ?_
   refine AWp.start [0] [] [] [2, 7, 9] 0 ⟨[(2, .tv (fzL 1 (cSl 1 cStr) v3)), (7, tI v6), (9, tI (0 : Int))], []⟩ rfl ?_ z0 trivial ?_
   ·kernel_rfl
   refine AOps.nil ?_
   refine AWp.block ?_
   obtain ⟨y, hy, h⟩ := of_bind h
   refine AWp.mono (AWp.loop (S := Int × Int) (Y := Out Bool Int) (fun s => ⟨[(2, .tv (fzL 1 (cSl 1 cStr) v3)), (7, tI s.1), (9, tI s.2)], []⟩) (fun s => f9_b2 v3 s.1 s.2) (fun y e σ => match y with | .ret r => e = .ret ∧ σ = ⟨[(6, tB r)], []⟩ | .go v => e = .exit 2 ∧ σ = ⟨[(7, tI v)], []⟩) ?_ hy) ?_
   ·rintro ⟨v9, v10⟩ o h
    refine AWp.seq ?_
    refine AWp.seq ?_
    refine AWp.start [0, 1, 2, 3, 4] [5, 6, 7] [] [2, 7, 9, 39] 0 ⟨[(2, .tv (fzL 1 (cSl 1 cStr) v3)), (7, tI v9), (9, tI v10), (39, tB (decide (v10 < (v3.length : Int))))], []⟩ rfl ?_ z0 trivial ?_
    ·kernel_rfl
    obtain ⟨v12, hc5, h⟩ := of_bind h
    refine AOps.cut [5, 6, 7] [] (fun σ => σ = ⟨[(2, .tv (fzL 1 (cSl 1 cStr) v3)), (7, tI v9), (9, tI v10), (42, tB v12)], []⟩) ?_ fun σ' hJ => ?_
    ·refine AOps.split (fun b => ⟨[(2, .tv (fzL 1 (cSl 1 cStr) v3)), (7, tI v9), (9, tI v10), (39, tB b)], []⟩) _ (fun hb => ?_) fun hb => ?_
     ·replace hc5 := of_true hc5 hb
      refine AOps.go [5, 6, 7] [] [] [2, 7, 9, 42] 0 ⟨[(2, .tv (fzL 1 (cSl 1 cStr) v3)), (7, tI v9), (9, tI v10), (42, tB (decide (v9 ≤ (500 : Int))))], []⟩ ?_ z0 trivial ?_
      ·kernel_rfl
      cases hc5
      exact AOps.nil rfl
     ·replace hc5 := of_false hc5 hb
      refine AOps.go [5, 6, 7] [] [] [2, 7, 9, 42] 0 ⟨[(2, .tv (fzL 1 (cSl 1 cStr) v3)), (7, tI v9), (9, tI v10), (42, tB false)], []⟩ ?_ z0 trivial ?_
      ·kernel_rfl
      cases hc5
      exact AOps.nil rfl
    subst hJ
    refine AOps.nil ?_
    refine AWp.cond rfl (fun hb => ?_) fun hb => ?_
    ·replace h := of_true h hb
     refine AWp.keepTo [2, 7, 9] 0 ⟨[(2, .tv (fzL 1 (cSl 1 cStr) v3)), (7, tI v9), (9, tI v10)], []⟩ ?_ z0 ?_
     ·kernel_rfl
     refine AWp.skip ?_
     refine AWp.seq ?_
     refine AWp.block ?_
     obtain ⟨hg, h⟩ := of_guard h
     refine AWp.start [0, 1, 2, 3, 4, 5, 6, 7] [] [(0 : Int) ≤ v10, v10 < (v3.length : Int)] [2, 7, 9] 0 ⟨[(2, .tv (fzL 1 (cSl 1 cStr) v3)), (7, tI (w64 (v9 + ((gD v3 v10).length : Int)))), (9, tI v10)], []⟩ rfl ?_ z0 ⟨hg.1, hg.2⟩ ?_
     ·kernel_rfl
     refine AOps.nil ?_
     refine AWp.start [0, 1, 2] [] [] [2, 7, 9] 0 ⟨[(2, .tv (fzL 1 (cSl 1 cStr) v3)), (7, tI (w64 (v9 + ((gD v3 v10).length : Int)))), (9, tI (w64 (v10 + (1 : Int))))], []⟩ rfl ?_ z0 trivial ?_
     ·kernel_rfl
     refine AOps.nil ?_
     cases h
     exact Or.inl ⟨_, rfl, rfl, rfl⟩
    ·replace h := of_false h hb
     refine AWp.keepTo [7] 0 ⟨[(7, tI v9)], []⟩ ?_ z0 ?_
     ·kernel_rfl
     refine AWp.exit ?_
     cases h
     exact Or.inr ⟨_, rfl, by simp, rfl, rfl⟩
   ·intro e σ hp
    rcases y with v13 | v11
    ·obtain ⟨rfl, rfl⟩ := hp
     cases h
     exact ⟨.inr rfl, rfl⟩
    ·obtain ⟨rfl, rfl⟩ := hp
     refine AWp.seq ?_
     refine AWp.start [0, 1, 2] [] [] [6] 0 ⟨[(6, tB (decide (v11 > (500 : Int))))], []⟩ rfl ?_ z0 trivial ?_
     ·kernel_rfl
     refine AOps.nil ?_
     refine AWp.ret ?_
     cases h
     exact ⟨.inr rfl, rfl⟩

noncomputable def f58 (v1 : Int) : Option Bool :=
 (cond (decide (v1 ≥ (97 : Int))) (some (decide (v1 ≤ (122 : Int)))) (some false)).bind fun v2 => (cond v2 (some true) ((cond (decide (v1 ≥ (65 : Int))) (some (decide (v1 ≤ (90 : Int)))) (some false)).bind fun v4 => some v4)).bind fun v3 => some v3

theorem f58_ok (v1 : Int) {r : Bool} (h : f58 v1 = some r) : ACall Try.prog 58 [.tv (.int .u8 v1)] [] (.tv (.bool r)) [] := by
 refine ACall.of1 (FF 17 0) Try.func58 rfl Try.ntmps58 Try.results58 (Nat.le_of_ble_eq_true rfl) rfl rfl ?_
 refine AWp.seq ?_
 refine AWp.start [0] [] [] [0] 0 ⟨[(0, .tv (.int .u8 v1))], []⟩ rfl ?_ z0 trivial ?_
 ·kernel_rfl
 refine AOps.nil ?_
 refine AWp.seq ?_
 refine AWp.start [0, 1, 2] [3, 4, 5, 6, 7, 8, 9, 10, 11, 12, 13, 14] [] [0, 5] 0 ⟨[(0, .tv (.int .u8 v1)), (5, tB (decide (v1 ≥ (97 : Int))))], []⟩ rfl ?_ z0 trivial ?_
 ·kernel_rfl
 obtain ⟨v2, hc3, h⟩ := of_bind h
 refine AOps.cut [3, 4, 5] [6, 7, 8, 9, 10, 11, 12, 13, 14] (fun σ => σ = ⟨[(0, .tv (.int .u8 v1)), (8, tB v2)], []⟩) ?_ fun σ' hJ => ?_
 ·refine AOps.split (fun b => ⟨[(0, .tv (.int .u8 v1)), (5, tB b)], []⟩) _ (fun hb => ?_) fun hb => ?_
  ·replace hc3 := of_true hc3 hb
   refine AOps.go [3, 4, 5] [] [] [0, 8] 0 ⟨[(0, .tv (.int .u8 v1)), (8, tB (decide (v1 ≤ (122 : Int))))], []⟩ ?_ z0 trivial ?_
   ·kernel_rfl
   cases hc3
   exact AOps.nil rfl
  ·replace hc3 := of_false hc3 hb
   refine AOps.go [3, 4, 5] [] [] [0, 8] 0 ⟨[(0, .tv (.int .u8 v1)), (8, tB false)], []⟩ ?_ z0 trivial ?_
   ·kernel_rfl
   cases hc3
   exact AOps.nil rfl
 subst hJ
 refine AOps.go [6] [7, 8, 9, 10, 11, 12, 13, 14] [] [0, 9] 0 ⟨[(0, .tv (.int .u8 v1)), (9, tB v2)], []⟩ ?_ z0 trivial ?_
 ·kernel_rfl
 obtain ⟨v3, hc7, h⟩ := of_bind h
 refine AOps.cut [7, 8, 9, 10, 11, 12, 13] [14] (fun σ => σ = ⟨[(16, tB v3)], []⟩) ?_ fun σ' hJ => ?_
 ·refine AOps.split (fun b => ⟨[(0, .tv (.int .u8 v1)), (9, tB b)], []⟩) _ (fun hb => ?_) fun hb => ?_
  ·replace hc7 := of_true hc7 hb
   refine AOps.go [7, 8, 9, 10, 11, 12, 13] [] [] [16] 0 ⟨[(16, tB true)], []⟩ ?_ z0 trivial ?_
   ·kernel_rfl
   cases hc7
   exact AOps.nil rfl
  ·replace hc7 := of_false hc7 hb
   refine AOps.go [7, 8, 9] [10, 11, 12, 13] [] [0, 9, 12] 0 ⟨[(0, .tv (.int .u8 v1)), (9, tB false), (12, tB (decide (v1 ≥ (65 : Int))))], []⟩ ?_ z0 trivial ?_
   ·kernel_rfl
   obtain ⟨v4, hc10, hc7⟩ := of_bind hc7
   refine AOps.cut [10, 11, 12] [13] (fun σ => σ = ⟨[(9, tB false), (15, tB v4)], []⟩) ?_ fun σ' hJ => ?_
   ·refine AOps.split (fun b => ⟨[(0, .tv (.int .u8 v1)), (9, tB false), (12, tB b)], []⟩) _ (fun hb => ?_) fun hb => ?_
    ·replace hc10 := of_true hc10 hb
     refine AOps.go [10, 11, 12] [] [] [9, 15] 0 ⟨[(9, tB false), (15, tB (decide (v1 ≤ (90 : Int))))], []⟩ ?_ z0 trivial ?_
     ·kernel_rfl
     cases hc10
     exact AOps.nil rfl
    ·replace hc10 := of_false hc10 hb
     refine AOps.go [10, 11, 12] [] [] [9, 15] 0 ⟨[(9, tB false), (15, tB false)], []⟩ ?_ z0 trivial ?_
     ·kernel_rfl
     cases hc10
     exact AOps.nil rfl
   subst hJ
   refine AOps.go [13] [] [] [16] 0 ⟨[(16, tB v4)], []⟩ ?_ z0 trivial ?_
   ·kernel_rfl
   cases hc7
   exact AOps.nil rfl
 subst hJ
 refine AOps.go [14] [] [] [2] 0 ⟨[(2, tB v3)], []⟩ ?_ z0 trivial ?_
 ·kernel_rfl
 refine AOps.nil ?_
 refine AWp.ret ?_
 cases h
 exact ⟨.inr rfl, rfl⟩

noncomputable def f63 (v1 : Int) : Option Bool :=
 (cond (decide (v1 ≥ (48 : Int))) (some (decide (v1 ≤ (57 : Int)))) (some false)).bind fun v2 => some v2

theorem f63_ok (v1 : Int) {r : Bool} (h : f63 v1 = some r) : ACall Try.prog 63 [.tv (.int .u8 v1)] [] (.tv (.bool r)) [] := by
 refine ACall.of1 (FF 9 0) Try.func63 rfl Try.ntmps63 Try.results63 (Nat.le_of_ble_eq_true rfl) rfl rfl ?_
 refine AWp.seq ?_
 refine AWp.start [0] [] [] [0] 0 ⟨[(0, .tv (.int .u8 v1))], []⟩ rfl ?_ z0 trivial ?_
 ·kernel_rfl
 refine AOps.nil ?_
 refine AWp.seq ?_
 refine AWp.start [0, 1, 2] [3, 4, 5, 6] [] [0, 5] 0 ⟨[(0, .tv (.int .u8 v1)), (5, tB (decide (v1 ≥ (48 : Int))))], []⟩ rfl ?_ z0 trivial ?_
 ·kernel_rfl
 obtain ⟨v2, hc3, h⟩ := of_bind h
 refine AOps.cut [3, 4, 5] [6] (fun σ => σ = ⟨[(8, tB v2)], []⟩) ?_ fun σ' hJ => ?_
 ·refine AOps.split (fun b => ⟨[(0, .tv (.int .u8 v1)), (5, tB b)], []⟩) _ (fun hb => ?_) fun hb => ?_
  ·replace hc3 := of_true hc3 hb
   refine AOps.go [3, 4, 5] [] [] [8] 0 ⟨[(8, tB (decide (v1 ≤ (57 : Int))))], []⟩ ?_ z0 trivial ?_
   ·kernel_rfl
   cases hc3
   exact AOps.nil rfl
  ·replace hc3 := of_false hc3 hb
   refine AOps.go [3, 4, 5] [] [] [8] 0 ⟨[(8, tB false)], []⟩ ?_ z0 trivial ?_
   ·kernel_rfl
   cases hc3
   exact AOps.nil rfl
 subst hJ
 refine AOps.go [6] [] [] [2] 0 ⟨[(2, tB v2)], []⟩ ?_ z0 trivial ?_
 ·kernel_rfl
 refine AOps.nil ?_
 refine AWp.ret ?_
 cases h
 exact ⟨.inr rfl, rfl⟩

noncomputable def f60 (v1 : Int) : Option Bool :=
 (f58 v1).bind fun v2 => (cond v2 (some true) ((f63 v1).bind fun v4 => some v4)).bind fun v3 => (cond v3 (some true) (some (v1 == (95 : Int)))).bind fun v5 => some v5

theorem f60_ok (v1 : Int) {r : Bool} (h : f60 v1 = some r) : ACall Try.prog 60 [.tv (.int .u8 v1)] [] (.tv (.bool r)) [] := by
 refine ACall.of1 (FF 13 0) Try.func60 rfl Try.ntmps60 Try.results60 (Nat.le_of_ble_eq_true rfl) rfl rfl ?_
 refine AWp.seq ?_
 refine AWp.start [0] [] [] [0] 0 ⟨[(0, .tv (.int .u8 v1))], []⟩ rfl ?_ z0 trivial ?_
 ·kernel_rfl
 refine AOps.nil ?_
 refine AWp.seq ?_
 refine AWp.start [0] [1, 2, 3, 4, 5, 6, 7, 8, 9, 10] [] [0, 3] 0 ⟨[(0, .tv (.int .u8 v1)), (3, .tv (.int .u8 v1))], []⟩ rfl ?_ z0 trivial ?_
 ·kernel_rfl
 obtain ⟨v2, hv2, h⟩ := of_bind h
 refine AOps.cons (AOne.callP (F := (FF 13 0)) _ rfl rfl rfl _ rfl rfl _ _ rfl Try.call58 [.tv (.int .u8 v1)] rfl rfl (f58_ok v1 hv2) rfl) ?_
 refine AOps.go [2] [3, 4, 5, 6, 7, 8, 9, 10] [] [0, 5] 0 ⟨[(0, .tv (.int .u8 v1)), (5, tB v2)], []⟩ ?_ z0 trivial ?_
 ·kernel_rfl
 obtain ⟨v3, hc3, h⟩ := of_bind h
 refine AOps.cut [3, 4, 5] [6, 7, 8, 9, 10] (fun σ => σ = ⟨[(0, .tv (.int .u8 v1)), (8, tB v3)], []⟩) ?_ fun σ' hJ => ?_
 ·refine AOps.split (fun b => ⟨[(0, .tv (.int .u8 v1)), (5, tB b)], []⟩) _ (fun hb => ?_) fun hb => ?_
  ·replace hc3 := of_true hc3 hb
   refine AOps.go [3, 4, 5] [] [] [0, 8] 0 ⟨[(0, .tv (.int .u8 v1)), (8, tB true)], []⟩ ?_ z0 trivial ?_
   ·kernel_rfl
   cases hc3
   exact AOps.nil rfl
  ·replace hc3 := of_false hc3 hb
   refine AOps.go [3] [4, 5] [] [0, 5, 6] 0 ⟨[(0, .tv (.int .u8 v1)), (5, tB false), (6, .tv (.int .u8 v1))], []⟩ ?_ z0 trivial ?_
   ·kernel_rfl
   obtain ⟨v4, hv4, hc3⟩ := of_bind hc3
   refine AOps.cons (AOne.callP (F := (FF 13 0)) _ rfl rfl rfl _ rfl rfl _ _ rfl Try.call63 [.tv (.int .u8 v1)] rfl rfl (f63_ok v1 hv4) rfl) ?_
   refine AOps.go [5] [] [] [0, 8] 0 ⟨[(0, .tv (.int .u8 v1)), (8, tB v4)], []⟩ ?_ z0 trivial ?_
   ·kernel_rfl
   cases hc3
   exact AOps.nil rfl
 subst hJ
 refine AOps.go [6] [7, 8, 9, 10] [] [0, 9] 0 ⟨[(0, .tv (.int .u8 v1)), (9, tB v3)], []⟩ ?_ z0 trivial ?_
 ·kernel_rfl
 obtain ⟨v5, hc7, h⟩ := of_bind h
 refine AOps.cut [7, 8, 9] [10] (fun σ => σ = ⟨[(12, tB v5)], []⟩) ?_ fun σ' hJ => ?_
 ·refine AOps.split (fun b => ⟨[(0, .tv (.int .u8 v1)), (9, tB b)], []⟩) _ (fun hb => ?_) fun hb => ?_
  ·replace hc7 := of_true hc7 hb
   refine AOps.go [7, 8, 9] [] [] [12] 0 ⟨[(12, tB true)], []⟩ ?_ z0 trivial ?_
   ·kernel_rfl
   cases hc7
   exact AOps.nil rfl
  ·replace hc7 := of_false hc7 hb
   refine AOps.go [7, 8, 9] [] [] [12] 0 ⟨[(12, tB (v1 == (95 : Int)))], []⟩ ?_ z0 trivial ?_
   ·kernel_rfl
   cases hc7
   exact AOps.nil rfl
 subst hJ
 refine AOps.go [10] [] [] [2] 0 ⟨[(2, tB v5)], []⟩ ?_ z0 trivial ?_
 ·kernel_rfl
 refine AOps.nil ?_
 refine AWp.ret ?_
 cases h
 exact ⟨.inr rfl, rfl⟩

noncomputable def f59_60_b1 (v1 : List UInt8) (v2 : Int) : Option (Int ⊕ Out Int Int) :=
 (cond (decide (v2 < (v1.length : Int))) (if (0 : Int) ≤ v2 ∧ v2 < (v1.length : Int) then (f60 (((v1.getD v2.toNat 0).toNat : Nat) : Int)).bind fun v5 => some v5 else none) (some false)).bind fun v4 => cond v4 (some (.inl (w64 (v2 + (1 : Int))))) (some (.inr (.go v2)))

noncomputable def f59_60 (v1 : List UInt8) : Option Int :=
 (iter (fun s => f59_60_b1 v1 s) (0 : Int)).bind fun y => match y with | .ret v6 => some v6 | .go v3 => some v3

theorem f59_60_ok (v1 : List UInt8) {r : Int} (h : f59_60 v1 = some r) : ACall Try.prog 59 [.tv (.str v1), .fn 60 []] [] (.tv (.int .i64 r)) [] := by
 refine ACall.of1 (FF 20 0) Try.func59 rfl Try.ntmps59 Try.results59 (Nat.le_of_ble_eq_true rfl) rfl rfl ?_
 refine AWp.seq ?_
 refine AWp.start [0] [] [] [0, 1] 0 ⟨[(0, tS v1), (1, .fn 60 [])], []⟩ rfl ?_ z0 trivial ?_
 ·kernel_rfl
 refine AOps.nil ?_
 refine AWp.seq ?_
 refine AWp.start [0] [] [] [0, 1, 5] 0 ⟨[(0, tS v1), (1, .fn 60 []), (5, tI (0 : Int))], []⟩ rfl ?_ z0 trivial ?_
 ·kernel_rfl
 refine AOps.nil ?_
 refine AWp.seq ?_
 refine AWp.block ?_
 obtain ⟨y, hy, h⟩ := of_bind h
 refine AWp.mono (AWp.loop (S := Int) (Y := Out Int Int) (fun s => ⟨[(0, tS v1), (1, .fn 60 []), (5, tI s)], []⟩) (fun s => f59_60_b1 v1 s) (fun y e σ => match y with | .ret r => e = .ret ∧ σ = ⟨[(4, tI r)], []⟩ | .go v => e = .exit 0 ∧ σ = ⟨[(5, tI v)], []⟩) ?_ hy) ?_
 ·rintro v2 o h
  refine AWp.seq ?_
  refine AWp.seq ?_
  refine AWp.start [0, 1, 2, 3, 4] [5, 6, 7, 8, 9, 10] [] [0, 1, 5, 10] 0 ⟨[(0, tS v1), (1, .fn 60 []), (5, tI v2), (10, tB (decide (v2 < (v1.length : Int))))], []⟩ rfl ?_ z0 trivial ?_
  ·kernel_rfl
  obtain ⟨v4, hc5, h⟩ := of_bind h
  refine AOps.cut [5, 6, 7, 8, 9, 10] [] (fun σ => σ = ⟨[(0, tS v1), (1, .fn 60 []), (5, tI v2), (16, tB v4)], []⟩) ?_ fun σ' hJ => ?_
  ·refine AOps.split (fun b => ⟨[(0, tS v1), (1, .fn 60 []), (5, tI v2), (10, tB b)], []⟩) _ (fun hb => ?_) fun hb => ?_
   ·replace hc5 := of_true hc5 hb
    obtain ⟨hg, hc5⟩ := of_guard hc5
    refine AOps.go [5, 6, 7, 8] [9, 10] [(0 : Int) ≤ v2, v2 < (v1.length : Int)] [0, 1, 5, 10, 11, 14] 0 ⟨[(0, tS v1), (1, .fn 60 []), (5, tI v2), (10, tB true), (11, .fn 60 []), (14, .tv (.int .u8 (((v1.getD v2.toNat 0).toNat : Nat) : Int)))], []⟩ ?_ z0 ⟨hg.1, hg.2⟩ ?_
    ·kernel_rfl
    obtain ⟨v5, hv5, hc5⟩ := of_bind hc5
    refine AOps.cons (AOne.callP (F := (FF 20 0)) _ rfl rfl rfl _ rfl rfl _ _ rfl Try.call60 [.tv (.int .u8 (((v1.getD v2.toNat 0).toNat : Nat) : Int))] rfl rfl (f60_ok (((v1.getD v2.toNat 0).toNat : Nat) : Int) hv5) rfl) ?_
    refine AOps.go [10] [] [] [0, 1, 5, 16] 0 ⟨[(0, tS v1), (1, .fn 60 []), (5, tI v2), (16, tB v5)], []⟩ ?_ z0 trivial ?_
    ·kernel_rfl
    cases hc5
    exact AOps.nil rfl
   ·replace hc5 := of_false hc5 hb
    refine AOps.go [5, 6, 7, 8, 9, 10] [] [] [0, 1, 5, 16] 0 ⟨[(0, tS v1), (1, .fn 60 []), (5, tI v2), (16, tB false)], []⟩ ?_ z0 trivial ?_
    ·kernel_rfl
    cases hc5
    exact AOps.nil rfl
  subst hJ
  refine AOps.nil ?_
  refine AWp.cond rfl (fun hb => ?_) fun hb => ?_
  ·replace h := of_true h hb
   refine AWp.keepTo [0, 1, 5] 0 ⟨[(0, tS v1), (1, .fn 60 []), (5, tI v2)], []⟩ ?_ z0 ?_
   ·kernel_rfl
   refine AWp.skip ?_
   refine AWp.block ?_
   refine AWp.start [0, 1, 2] [] [] [0, 1, 5] 0 ⟨[(0, tS v1), (1, .fn 60 []), (5, tI (w64 (v2 + (1 : Int))))], []⟩ rfl ?_ z0 trivial ?_
   ·kernel_rfl
   refine AOps.nil ?_
   cases h
   exact Or.inl ⟨_, rfl, rfl, rfl⟩
  ·replace h := of_false h hb
   refine AWp.keepTo [5] 0 ⟨[(5, tI v2)], []⟩ ?_ z0 ?_
   ·kernel_rfl
   refine AWp.exit ?_
   cases h
   exact Or.inr ⟨_, rfl, by simp, rfl, rfl⟩
 ·intro e σ hp
  rcases y with v6 | v3
  ·obtain ⟨rfl, rfl⟩ := hp
   cases h
   exact ⟨.inr rfl, rfl⟩
  ·obtain ⟨rfl, rfl⟩ := hp
   refine AWp.seq ?_
   refine AWp.start [0, 1] [] [] [4] 0 ⟨[(4, tI v3)], []⟩ rfl ?_ z0 trivial ?_
   ·kernel_rfl
   refine AOps.nil ?_
   refine AWp.ret ?_
   cases h
   exact ⟨.inr rfl, rfl⟩

noncomputable def f61_j1 (v3 : Int) (v5 : List Int) : Option (((List Int) × Int) ⊕ Out (List UInt8) (List Int)) :=
 some (.inl (v5, w64 (v3 + (1 : Int))))

noncomputable def f61_b2 (v1 : List UInt8) (v2 : List Int) (v3 : Int) : Option (((List Int) × Int) ⊕ Out (List UInt8) (List Int)) :=
 cond (decide (v3 < ((v1.map (fun b => (b.toNat : Int))).length : Int))) (if (0 : Int) ≤ v3 ∧ v3 < (v2.length : Int) then (cond (decide (v2.getD v3.toNat default ≥ (65 : Int))) (some (decide (v2.getD v3.toNat default ≤ (90 : Int)))) (some false)).bind fun v6 => cond v6 (if (0 : Int) ≤ v3 ∧ v3 < (v2.length : Int) then f61_j1 v3 (v2.set v3.toNat (IntKind.wrap .u8 ((IntKind.wrap .u8 ((v2.getD v3.toNat default) - (65 : Int))) + (97 : Int)))) else none) (f61_j1 v3 v2) else none) (some (.inr (.go v2)))

noncomputable def f61 (v1 : List UInt8) : Option (List UInt8) :=
 if (v1.length : Int) ≤ 9223372036854775807 then (iter (fun s => f61_b2 v1 s.1 s.2) (v1.map (fun b => (b.toNat : Int)), (0 : Int))).bind fun y => match y with | .ret v7 => some v7 | .go v4 => some (v4.map (fun n => UInt8.ofNat n.toNat)) else none

theorem f61_ok (v1 : List UInt8) {r : (List UInt8)} (h : f61 v1 = some r) : ACall Try.prog 61 [.tv (.str v1)] [] (.tv (.str r)) [] := by
 refine ACall.of1 (FF 30 0) Try.func61 rfl Try.ntmps61 Try.results61 (Nat.le_of_ble_eq_true rfl) rfl rfl ?_
 refine AWp.seq ?_
 refine AWp.start [0] [] [] [0] 0 ⟨[(0, tS v1)], []⟩ rfl ?_ z0 trivial ?_
 ·kernel_rfl
 refine AOps.nil ?_
 refine AWp.seq ?_
 obtain ⟨hg, h⟩ := of_guard h
 refine AWp.start [0, 1] [2] [(v1.length : Int) ≤ 9223372036854775807] [7] 0 ⟨[(7, .tv (.own 1 5 v1.length (fun i => [.int .u8 (((v1.getD i 0).toNat : Nat) : Int)])))], []⟩ rfl ?_ z0 hg ?_
 ·kernel_rfl
 refine AOps.extL 7 (cInt .u8) (v1.map (fun b => (b.toNat : Int))) rfl (by simp) (bytes_at _) ?_
 refine AOps.go [2] [] [] [3] 0 ⟨[(3, .tv (ownL 1 5 (cInt .u8) (v1.map (fun b => (b.toNat : Int)))))], []⟩ ?_ z0 trivial ?_
 ·kernel_rfl
 refine AOps.nil ?_
 refine AWp.seq ?_
 refine AWp.seq ?_
 refine AWp.start [0, 1, 2] [] [] [3, 8, 9, 10] 0 ⟨[(3, .tv (ownL 1 5 (cInt .u8) (v1.map (fun b => (b.toNat : Int))))), (8, .al (.slot 3 0, [])), (9, tI ((v1.map (fun b => (b.toNat : Int))).length : Int)), (10, tI (0 : Int))], []⟩ rfl ?_ z0 trivial ?_
 ·kernel_rfl
 refine AOps.nil ?_
 refine AWp.block ?_
 obtain ⟨y, hy, h⟩ := of_bind h
 refine AWp.mono (AWp.loop (S := (List Int) × Int) (Y := Out (List UInt8) (List Int)) (fun s => ⟨[(3, .tv (ownL 1 5 (cInt .u8) s.1)), (8, .al (.slot 3 0, [])), (9, tI ((v1.map (fun b => (b.toNat : Int))).length : Int)), (10, tI s.2)], []⟩) (fun s => f61_b2 v1 s.1 s.2) (fun y e σ => match y with | .ret r => e = .ret ∧ σ = ⟨[(2, tS r)], []⟩ | .go v => e = .exit 0 ∧ σ = ⟨[(3, .tv (ownL 1 5 (cInt .u8) v))], []⟩) ?_ hy) ?_
 ·rintro ⟨v2, v3⟩ o h
  refine AWp.seq ?_
  refine AWp.start [0] [] [] [3, 8, 9, 10, 11] 0 ⟨[(3, .tv (ownL 1 5 (cInt .u8) v2)), (8, .al (.slot 3 0, [])), (9, tI ((v1.map (fun b => (b.toNat : Int))).length : Int)), (10, tI v3), (11, tB (decide (v3 < ((v1.map (fun b => (b.toNat : Int))).length : Int))))], []⟩ rfl ?_ z0 trivial ?_
  ·kernel_rfl
  refine AOps.nil ?_
  refine AWp.seq ?_
  refine AWp.cond rfl (fun hb => ?_) fun hb => ?_
  ·replace h := of_true h hb
   refine AWp.keepTo [3, 8, 9, 10] 0 ⟨[(3, .tv (ownL 1 5 (cInt .u8) v2)), (8, .al (.slot 3 0, [])), (9, tI ((v1.map (fun b => (b.toNat : Int))).length : Int)), (10, tI v3)], []⟩ ?_ z0 ?_
   ·kernel_rfl
   refine AWp.skip ?_
   refine AWp.join (V := (List Int)) (fun w => ⟨[(3, .tv (ownL 1 5 (cInt .u8) w)), (8, .al (.slot 3 0, [])), (9, tI ((v1.map (fun b => (b.toNat : Int))).length : Int)), (10, tI v3)], []⟩) (fun w => f61_j1 v3 w = some o) ?_ ?_
   ·refine AWp.block ?_
    refine AWp.seq ?_
    obtain ⟨hg, h⟩ := of_guard h
    refine AWp.start [0, 1, 2, 3, 4] [] [(0 : Int) ≤ v3, v3 < (v2.length : Int)] [3, 4, 5, 8, 9, 10] 0 ⟨[(3, .tv (ownL 1 5 (cInt .u8) v2)), (4, tI v3), (5, .tv (.int .u8 (gD v2 v3))), (8, .al (.slot 3 0, [])), (9, tI ((v1.map (fun b => (b.toNat : Int))).length : Int)), (10, tI v3)], []⟩ rfl ?_ z0 ⟨hg.1, hg.2⟩ ?_
    ·kernel_rfl
    refine AOps.nil ?_
    refine AWp.seq ?_
    refine AWp.start [0, 1, 2] [3, 4, 5] [] [3, 4, 5, 8, 9, 10, 17] 0 ⟨[(3, .tv (ownL 1 5 (cInt .u8) v2)), (4, tI v3), (5, .tv (.int .u8 (gD v2 v3))), (8, .al (.slot 3 0, [])), (9, tI ((v1.map (fun b => (b.toNat : Int))).length : Int)), (10, tI v3), (17, tB (decide (gD v2 v3 ≥ (65 : Int))))], []⟩ rfl ?_ z0 trivial ?_
    ·kernel_rfl
    obtain ⟨v6, hc3, h⟩ := of_bind h
    refine AOps.cut [3, 4, 5] [] (fun σ => σ = ⟨[(3, .tv (ownL 1 5 (cInt .u8) v2)), (4, tI v3), (5, .tv (.int .u8 (gD v2 v3))), (8, .al (.slot 3 0, [])), (9, tI ((v1.map (fun b => (b.toNat : Int))).length : Int)), (10, tI v3), (20, tB v6)], []⟩) ?_ fun σ' hJ => ?_
    ·refine AOps.split (fun b => ⟨[(3, .tv (ownL 1 5 (cInt .u8) v2)), (4, tI v3), (5, .tv (.int .u8 (gD v2 v3))), (8, .al (.slot 3 0, [])), (9, tI ((v1.map (fun b => (b.toNat : Int))).length : Int)), (10, tI v3), (17, tB b)], []⟩) _ (fun hb => ?_) fun hb => ?_
     ·replace hc3 := of_true hc3 hb
      refine AOps.go [3, 4, 5] [] [] [3, 4, 5, 8, 9, 10, 20] 0 ⟨[(3, .tv (ownL 1 5 (cInt .u8) v2)), (4, tI v3), (5, .tv (.int .u8 (gD v2 v3))), (8, .al (.slot 3 0, [])), (9, tI ((v1.map (fun b => (b.toNat : Int))).length : Int)), (10, tI v3), (20, tB (decide (gD v2 v3 ≤ (90 : Int))))], []⟩ ?_ z0 trivial ?_
      ·kernel_rfl
      cases hc3
      exact AOps.nil rfl
     ·replace hc3 := of_false hc3 hb
      refine AOps.go [3, 4, 5] [] [] [3, 4, 5, 8, 9, 10, 20] 0 ⟨[(3, .tv (ownL 1 5 (cInt .u8) v2)), (4, tI v3), (5, .tv (.int .u8 (gD v2 v3))), (8, .al (.slot 3 0, [])), (9, tI ((v1.map (fun b => (b.toNat : Int))).length : Int)), (10, tI v3), (20, tB false)], []⟩ ?_ z0 trivial ?_
      ·kernel_rfl
      cases hc3
      exact AOps.nil rfl
    subst hJ
    refine AOps.nil ?_
    refine AWp.cond rfl (fun hb => ?_) fun hb => ?_
    ·replace h := of_true h hb
     refine AWp.keepTo [3, 4, 5, 8, 9, 10] 0 ⟨[(3, .tv (ownL 1 5 (cInt .u8) v2)), (4, tI v3), (5, .tv (.int .u8 (gD v2 v3))), (8, .al (.slot 3 0, [])), (9, tI ((v1.map (fun b => (b.toNat : Int))).length : Int)), (10, tI v3)], []⟩ ?_ z0 ?_
     ·kernel_rfl
     obtain ⟨hg, h⟩ := of_guard h
     refine AWp.start [0, 1, 2, 3, 4, 5, 6] [] [(0 : Int) ≤ v3, v3 < (v2.length : Int), PlainTo v2.length (fun i => (cInt .u8) (v2.getD i default))] [3, 8, 9, 10] 0 ⟨[(3, .tv (.own 1 5 v2.length (setElem (fun i => (cInt .u8) (v2.getD i default)) v3.toNat (putAt ((cInt .u8) (gD v2 v3)) 0 [.int .u8 (IntKind.wrap .u8 ((IntKind.wrap .u8 ((gD v2 v3) - (65 : Int))) + (97 : Int)))])))), (8, .al (.slot 3 0, [])), (9, tI ((v1.map (fun b => (b.toNat : Int))).length : Int)), (10, tI v3)], []⟩ rfl ?_ z0 ⟨hg.1, hg.2, (fun _ _ => rfl)⟩ ?_
     ·kernel_rfl
     refine AOps.extL 3 (cInt .u8) (v2.set v3.toNat (IntKind.wrap .u8 ((IntKind.wrap .u8 ((gD v2 v3) - (65 : Int))) + (97 : Int)))) rfl (by simp) (set_at (cInt .u8) v2 v3.toNat 0 [.int .u8 (IntKind.wrap .u8 ((IntKind.wrap .u8 ((gD v2 v3) - (65 : Int))) + (97 : Int)))] (IntKind.wrap .u8 ((IntKind.wrap .u8 ((gD v2 v3) - (65 : Int))) + (97 : Int))) rfl) ?_
     refine AOps.keepTo [3, 8, 9, 10] 0 ⟨[(3, .tv (ownL 1 5 (cInt .u8) (v2.set v3.toNat (IntKind.wrap .u8 ((IntKind.wrap .u8 ((gD v2 v3) - (65 : Int))) + (97 : Int)))))), (8, .al (.slot 3 0, [])), (9, tI ((v1.map (fun b => (b.toNat : Int))).length : Int)), (10, tI v3)], []⟩ ?_ z0 ?_
     ·kernel_rfl
     refine AOps.nil ?_
     exact ⟨v2.set v3.toNat (IntKind.wrap .u8 ((IntKind.wrap .u8 ((gD v2 v3) - (65 : Int))) + (97 : Int))), h, rfl⟩
    ·replace h := of_false h hb
     refine AWp.keepTo [3, 8, 9, 10] 0 ⟨[(3, .tv (ownL 1 5 (cInt .u8) v2)), (8, .al (.slot 3 0, [])), (9, tI ((v1.map (fun b => (b.toNat : Int))).length : Int)), (10, tI v3)], []⟩ ?_ z0 ?_
     ·kernel_rfl
     refine AWp.skip ?_
     exact ⟨v2, h, rfl⟩
   ·rintro v5 h
    refine AWp.start [0, 1] [] [] [3, 8, 9, 10] 0 ⟨[(3, .tv (ownL 1 5 (cInt .u8) v5)), (8, .al (.slot 3 0, [])), (9, tI ((v1.map (fun b => (b.toNat : Int))).length : Int)), (10, tI (w64 (v3 + (1 : Int))))], []⟩ rfl ?_ z0 trivial ?_
    ·kernel_rfl
    refine AOps.nil ?_
    cases h
    exact Or.inl ⟨_, rfl, rfl, rfl⟩
  ·replace h := of_false h hb
   refine AWp.keepTo [3] 0 ⟨[(3, .tv (ownL 1 5 (cInt .u8) v2))], []⟩ ?_ z0 ?_
   ·kernel_rfl
   refine AWp.exit ?_
   cases h
   exact Or.inr ⟨_, rfl, by simp, rfl, rfl⟩
 ·intro e σ hp
  rcases y with v7 | v4
  ·obtain ⟨rfl, rfl⟩ := hp
   cases h
   exact ⟨.inr rfl, rfl⟩
  ·obtain ⟨rfl, rfl⟩ := hp
   refine AWp.seq ?_
   refine AWp.start [0] [1, 2] [] [3, 28] 0 ⟨[(3, .tv (ownL 1 5 (cInt .u8) v4)), (28, .al (.slot 3 0, []))], []⟩ rfl ?_ z0 trivial ?_
   ·kernel_rfl
   refine AOps.cons (AOne.str (F := (FF 30 0)) _ rfl rfl rfl _ rfl rfl rfl rfl rfl (n := v4.length) (f := (fun i => (cInt .u8) (v4.getD i default))) rfl v4 rfl (fun _ _ => rfl)) ?_
   refine AOps.go [2] [] [] [2] 0 ⟨[(2, tS (v4.map (fun n => UInt8.ofNat n.toNat)))], []⟩ ?_ z0 trivial ?_
   ·kernel_rfl
   refine AOps.nil ?_
   refine AWp.ret ?_
   cases h
   exact ⟨.inr rfl, rfl⟩

noncomputable def f53 (v1 : List UInt8) : Option Bool :=
 (cond (!(v1 == ([] : List UInt8))) (some (decide ((v1.length : Int) ≤ (12 : Int)))) (some false)).bind fun v2 => (cond v2 (if (0 : Int) < (v1.length : Int) then (f58 (((v1.getD 0 0).toNat : Nat) : Int)).bind fun v4 => some v4 else none) (some false)).bind fun v3 => (cond v3 ((f59_60 v1).bind fun v6 => some (v6 == (v1.length : Int))) (some false)).bind fun v5 => (cond v5 ((f61 v1).bind fun v8 => some (v1 == v8)) (some false)).bind fun v7 => some v7

theorem f53_ok (v1 : List UInt8) {r : Bool} (h : f53 v1 = some r) : ACall Try.prog 53 [.tv (.str v1)] [] (.tv (.bool r)) [] := by
 refine ACall.of1 (FF 28 0) Try.func53 rfl Try.ntmps53 Try.results53 (Nat.le_of_ble_eq_true rfl) rfl rfl ?_
 refine AWp.seq ?_
 refine AWp.start [0] [] [] [0] 0 ⟨[(0, tS v1)], []⟩ rfl ?_ z0 trivial ?_
 ·kernel_rfl
 refine AOps.nil ?_
 refine AWp.seq ?_
 refine AWp.start [0, 1, 2] [3, 4, 5, 6, 7, 8, 9, 10, 11, 12, 13, 14, 15, 16, 17, 18, 19, 20, 21, 22, 23, 24, 25] [] [0, 5] 0 ⟨[(0, tS v1), (5, tB (!(v1 == ([] : List UInt8))))], []⟩ rfl ?_ z0 trivial ?_
 ·kernel_rfl
 obtain ⟨v2, hc3, h⟩ := of_bind h
 refine AOps.cut [3, 4, 5, 6] [7, 8, 9, 10, 11, 12, 13, 14, 15, 16, 17, 18, 19, 20, 21, 22, 23, 24, 25] (fun σ => σ = ⟨[(0, tS v1), (9, tB v2)], []⟩) ?_ fun σ' hJ => ?_
 ·refine AOps.split (fun b => ⟨[(0, tS v1), (5, tB b)], []⟩) _ (fun hb => ?_) fun hb => ?_
  ·replace hc3 := of_true hc3 hb
   refine AOps.go [3, 4, 5, 6] [] [] [0, 9] 0 ⟨[(0, tS v1), (9, tB (decide ((v1.length : Int) ≤ (12 : Int))))], []⟩ ?_ z0 trivial ?_
   ·kernel_rfl
   cases hc3
   exact AOps.nil rfl
  ·replace hc3 := of_false hc3 hb
   refine AOps.go [3, 4, 5, 6] [] [] [0, 9] 0 ⟨[(0, tS v1), (9, tB false)], []⟩ ?_ z0 trivial ?_
   ·kernel_rfl
   cases hc3
   exact AOps.nil rfl
 subst hJ
 refine AOps.go [7] [8, 9, 10, 11, 12, 13, 14, 15, 16, 17, 18, 19, 20, 21, 22, 23, 24, 25] [] [0, 10] 0 ⟨[(0, tS v1), (10, tB v2)], []⟩ ?_ z0 trivial ?_
 ·kernel_rfl
 obtain ⟨v3, hc8, h⟩ := of_bind h
 refine AOps.cut [8, 9, 10, 11] [12, 13, 14, 15, 16, 17, 18, 19, 20, 21, 22, 23, 24, 25] (fun σ => σ = ⟨[(0, tS v1), (14, tB v3)], []⟩) ?_ fun σ' hJ => ?_
 ·refine AOps.split (fun b => ⟨[(0, tS v1), (10, tB b)], []⟩) _ (fun hb => ?_) fun hb => ?_
  ·replace hc8 := of_true hc8 hb
   obtain ⟨hg, hc8⟩ := of_guard hc8
   refine AOps.go [8, 9] [10, 11] [(0 : Int) ≤ (0 : Int), (0 : Int) < (v1.length : Int)] [0, 10, 12] 0 ⟨[(0, tS v1), (10, tB true), (12, .tv (.int .u8 (((v1.getD 0 0).toNat : Nat) : Int)))], []⟩ ?_ z0 ⟨(by decide : (0 : Int) ≤ (0 : Int)), hg⟩ ?_
   ·kernel_rfl
   obtain ⟨v4, hv4, hc8⟩ := of_bind hc8
   refine AOps.cons (AOne.callP (F := (FF 28 0)) _ rfl rfl rfl _ rfl rfl _ _ rfl Try.call58 [.tv (.int .u8 (((v1.getD 0 0).toNat : Nat) : Int))] rfl rfl (f58_ok (((v1.getD 0 0).toNat : Nat) : Int) hv4) rfl) ?_
   refine AOps.go [11] [] [] [0, 14] 0 ⟨[(0, tS v1), (14, tB v4)], []⟩ ?_ z0 trivial ?_
   ·kernel_rfl
   cases hc8
   exact AOps.nil rfl
  ·replace hc8 := of_false hc8 hb
   refine AOps.go [8, 9, 10, 11] [] [] [0, 14] 0 ⟨[(0, tS v1), (14, tB false)], []⟩ ?_ z0 trivial ?_
   ·kernel_rfl
   cases hc8
   exact AOps.nil rfl
 subst hJ
 refine AOps.go [12] [13, 14, 15, 16, 17, 18, 19, 20, 21, 22, 23, 24, 25] [] [0, 15] 0 ⟨[(0, tS v1), (15, tB v3)], []⟩ ?_ z0 trivial ?_
 ·kernel_rfl
 obtain ⟨v5, hc13, h⟩ := of_bind h
 refine AOps.cut [13, 14, 15, 16, 17, 18] [19, 20, 21, 22, 23, 24, 25] (fun σ => σ = ⟨[(0, tS v1), (21, tB v5)], []⟩) ?_ fun σ' hJ => ?_
 ·refine AOps.split (fun b => ⟨[(0, tS v1), (15, tB b)], []⟩) _ (fun hb => ?_) fun hb => ?_
  ·replace hc13 := of_true hc13 hb
   refine AOps.go [13] [14, 15, 16, 17, 18] [] [0, 15, 16] 0 ⟨[(0, tS v1), (15, tB true), (16, tS v1)], []⟩ ?_ z0 trivial ?_
   ·kernel_rfl
   obtain ⟨v6, hv6, hc13⟩ := of_bind hc13
   refine AOps.cons (AOne.callP (F := (FF 28 0)) _ rfl rfl rfl _ rfl rfl _ _ rfl Try.call59 [tS v1, .fn 60 []] rfl rfl (f59_60_ok v1 hv6) rfl) ?_
   refine AOps.go [15, 16, 17, 18] [] [] [0, 21] 0 ⟨[(0, tS v1), (21, tB (v6 == (v1.length : Int)))], []⟩ ?_ z0 trivial ?_
   ·kernel_rfl
   cases hc13
   exact AOps.nil rfl
  ·replace hc13 := of_false hc13 hb
   refine AOps.go [13, 14, 15, 16, 17, 18] [] [] [0, 21] 0 ⟨[(0, tS v1), (21, tB false)], []⟩ ?_ z0 trivial ?_
   ·kernel_rfl
   cases hc13
   exact AOps.nil rfl
 subst hJ
 refine AOps.go [19] [20, 21, 22, 23, 24, 25] [] [0, 22] 0 ⟨[(0, tS v1), (22, tB v5)], []⟩ ?_ z0 trivial ?_
 ·kernel_rfl
 obtain ⟨v7, hc20, h⟩ := of_bind h
 refine AOps.cut [20, 21, 22, 23, 24] [25] (fun σ => σ = ⟨[(27, tB v7)], []⟩) ?_ fun σ' hJ => ?_
 ·refine AOps.split (fun b => ⟨[(0, tS v1), (22, tB b)], []⟩) _ (fun hb => ?_) fun hb => ?_
  ·replace hc20 := of_true hc20 hb
   refine AOps.go [20, 21] [22, 23, 24] [] [22, 23, 24] 0 ⟨[(22, tB true), (23, tS v1), (24, tS v1)], []⟩ ?_ z0 trivial ?_
   ·kernel_rfl
   obtain ⟨v8, hv8, hc20⟩ := of_bind hc20
   refine AOps.cons (AOne.callP (F := (FF 28 0)) _ rfl rfl rfl _ rfl rfl _ _ rfl Try.call61 [tS v1] rfl rfl (f61_ok v1 hv8) rfl) ?_
   refine AOps.go [23, 24] [] [] [27] 0 ⟨[(27, tB (v1 == v8))], []⟩ ?_ z0 trivial ?_
   ·kernel_rfl
   cases hc20
   exact AOps.nil rfl
  ·replace hc20 := of_false hc20 hb
   refine AOps.go [20, 21, 22, 23, 24] [] [] [27] 0 ⟨[(27, tB false)], []⟩ ?_ z0 trivial ?_
   ·kernel_rfl
   cases hc20
   exact AOps.nil rfl
 subst hJ
 refine AOps.go [25] [] [] [2] 0 ⟨[(2, tB v7)], []⟩ ?_ z0 trivial ?_
 ·kernel_rfl
 refine AOps.nil ?_
 refine AWp.ret ?_
 cases h
 exact ⟨.inr rfl, rfl⟩

noncomputable def f46 (v1 : T36) (v2 : List UInt8) : Option Bool :=
 some (v1.f0 == v2)

theorem f46_ok (v1 : T36) (v2 : List UInt8) {r : Bool} (h : f46 v1 v2 = some r) : ACall Try.prog 46 [.agg [.str v1.f0, .int .i64 v1.f1, .int .i64 v1.f2], .rp [.str v2]] [] (.tv (.bool r)) [] := by
 refine ACall.of1 (FF 8 0) Try.func46 rfl Try.ntmps46 Try.results46 (Nat.le_of_ble_eq_true rfl) rfl rfl ?_
 refine AWp.seq ?_
 refine AWp.start [0, 1] [] [] [1, 2] 1 ⟨[(1, .rp [.str v2]), (2, .pc 0 0)], [.cells 37 [.str v1.f0, .int .i64 v1.f1, .int .i64 v1.f2]]⟩ rfl ?_ z0 trivial ?_
 ·kernel_rfl
 refine AOps.nil ?_
 refine AWp.seq ?_
 refine AWp.pin 0 rfl rfl ?_
 refine AWp.keepTo [1, 2] 0 ⟨[(1, .rp [.str v2]), (2, .rp [.str v1.f0, .int .i64 v1.f1, .int .i64 v1.f2])], []⟩ ?_ z0 ?_
 ·kernel_rfl
 refine AWp.start [0, 1, 2, 3, 4] [] [] [3] 0 ⟨[(3, tB (v1.f0 == v2))], []⟩ rfl ?_ z0 trivial ?_
 ·kernel_rfl
 refine AOps.nil ?_
 refine AWp.ret ?_
 cases h
 exact ⟨.inr rfl, rfl⟩

noncomputable def f45_46_b1 (v1 : List T36) (v2 : List UInt8) (v3 : Int) : Option (Int ⊕ Out Int Unit) :=
 cond (decide (v3 < (v1.length : Int))) (if (0 : Int) ≤ v3 ∧ v3 < (v1.length : Int) then (f46 (v1.getD v3.toNat default) v2).bind fun v4 => cond v4 (some (.inr (.ret v3))) (some (.inl (w64 (v3 + (1 : Int))))) else none) (some (.inr (.go ())))

noncomputable def f45_46 (v1 : List T36) (v2 : List UInt8) : Option Int :=
 (iter (fun s => f45_46_b1 v1 v2 s) (0 : Int)).bind fun y => match y with | .ret v5 => some v5 | .go _ => some (-1 : Int)

theorem f45_46_ok (v1 : List T36) (v2 : List UInt8) {r : Int} (h : f45_46 v1 v2 = some r) : ACall Try.prog 45 [.tv (fzL 3 c36 v1), .fn 46 [.rp [.str v2]]] [] (.tv (.int .i64 r)) [] := by
 refine ACall.of1 (FF 19 0) Try.func45 rfl Try.ntmps45 Try.results45 (Nat.le_of_ble_eq_true rfl) rfl rfl ?_
 refine AWp.seq ?_
 refine AWp.start [0] [] [] [0, 1] 0 ⟨[(0, q0 v1), (1, .fn 46 [.rp [.str v2]])], []⟩ rfl ?_ z0 trivial ?_
 ·kernel_rfl
 refine AOps.nil ?_
 refine AWp.seq ?_
 refine AWp.seq ?_
 refine AWp.start [0, 1, 2] [] [] [0, 1, 7, 8] 0 ⟨[(0, q0 v1), (1, .fn 46 [.rp [.str v2]]), (7, tI (v1.length : Int)), (8, tI (0 : Int))], []⟩ rfl ?_ z0 trivial ?_
 ·kernel_rfl
 refine AOps.nil ?_
 refine AWp.block ?_
 obtain ⟨y, hy, h⟩ := of_bind h
 refine AWp.mono (AWp.loop (S := Int) (Y := Out Int Unit) (fun s => ⟨[(0, q0 v1), (1, .fn 46 [.rp [.str v2]]), (7, tI (v1.length : Int)), (8, tI s)], []⟩) (fun s => f45_46_b1 v1 v2 s) (fun y e σ => match y with | .ret r => e = .ret ∧ σ = ⟨[(4, tI r)], []⟩ | .go v => e = .exit 0 ∧ σ = ⟨[], []⟩) ?_ hy) ?_
 ·rintro v3 o h
  refine AWp.seq ?_
  refine AWp.start [0] [] [] [0, 1, 7, 8, 9] 0 ⟨[(0, q0 v1), (1, .fn 46 [.rp [.str v2]]), (7, tI (v1.length : Int)), (8, tI v3), (9, tB (decide (v3 < (v1.length : Int))))], []⟩ rfl ?_ z0 trivial ?_
  ·kernel_rfl
  refine AOps.nil ?_
  refine AWp.seq ?_
  refine AWp.cond rfl (fun hb => ?_) fun hb => ?_
  ·replace h := of_true h hb
   refine AWp.keepTo [0, 1, 7, 8] 0 ⟨[(0, q0 v1), (1, .fn 46 [.rp [.str v2]]), (7, tI (v1.length : Int)), (8, tI v3)], []⟩ ?_ z0 ?_
   ·kernel_rfl
   refine AWp.skip ?_
   refine AWp.seq ?_
   refine AWp.block ?_
   refine AWp.seq ?_
   refine AWp.start [0, 1] [] [] [0, 1, 5, 7, 8] 0 ⟨[(0, q0 v1), (1, .fn 46 [.rp [.str v2]]), (5, tI v3), (7, tI (v1.length : Int)), (8, tI v3)], []⟩ rfl ?_ z0 trivial ?_
   ·kernel_rfl
   refine AOps.nil ?_
   refine AWp.seq ?_
   obtain ⟨hg, h⟩ := of_guard h
   refine AWp.start [0, 1, 2, 3, 4] [5] [(0 : Int) ≤ v3, v3 < (v1.length : Int)] [0, 1, 5, 7, 8, 11, 15] 0 ⟨[(0, q0 v1), (1, .fn 46 [.rp [.str v2]]), (5, tI v3), (7, tI (v1.length : Int)), (8, tI v3), (11, .fn 46 [.rp [.str v2]]), (15, .agg (c36 (gD v1 v3)))], []⟩ rfl ?_ z0 ⟨hg.1, hg.2⟩ ?_
   ·kernel_rfl
   obtain ⟨v4, hv4, h⟩ := of_bind h
   refine AOps.cons (AOne.callP (F := (FF 19 0)) _ rfl rfl rfl _ rfl rfl _ _ rfl Try.call46 [.agg (c36 (gD v1 v3)), .rp [.str v2]] rfl rfl (f46_ok (gD v1 v3) v2 hv4) rfl) ?_
   refine AOps.keepTo [0, 1, 5, 7, 8, 16] 0 ⟨[(0, q0 v1), (1, .fn 46 [.rp [.str v2]]), (5, tI v3), (7, tI (v1.length : Int)), (8, tI v3), (16, tB v4)], []⟩ ?_ z0 ?_
   ·kernel_rfl
   refine AOps.nil ?_
   refine AWp.cond rfl (fun hb => ?_) fun hb => ?_
   ·replace h := of_true h hb
    refine AWp.keepTo [5] 0 ⟨[(5, tI v3)], []⟩ ?_ z0 ?_
    ·kernel_rfl
    refine AWp.seq ?_
    refine AWp.start [0, 1] [] [] [4] 0 ⟨[(4, tI v3)], []⟩ rfl ?_ z0 trivial ?_
    ·kernel_rfl
    refine AOps.nil ?_
    refine AWp.ret ?_
    cases h
    exact Or.inr ⟨_, rfl, by simp, rfl, rfl⟩
   ·replace h := of_false h hb
    refine AWp.keepTo [0, 1, 7, 8] 0 ⟨[(0, q0 v1), (1, .fn 46 [.rp [.str v2]]), (7, tI (v1.length : Int)), (8, tI v3)], []⟩ ?_ z0 ?_
    ·kernel_rfl
    refine AWp.skip ?_
    refine AWp.start [0, 1] [] [] [0, 1, 7, 8] 0 ⟨[(0, q0 v1), (1, .fn 46 [.rp [.str v2]]), (7, tI (v1.length : Int)), (8, tI (w64 (v3 + (1 : Int))))], []⟩ rfl ?_ z0 trivial ?_
    ·kernel_rfl
    refine AOps.nil ?_
    cases h
    exact Or.inl ⟨_, rfl, rfl, rfl⟩
  ·replace h := of_false h hb
   refine AWp.keepTo [] 0 ⟨[], []⟩ ?_ z0 ?_
   ·kernel_rfl
   refine AWp.exit ?_
   cases h
   exact Or.inr ⟨_, rfl, by simp, rfl, rfl⟩
 ·intro e σ hp
  rcases y with v5 | _
  ·obtain ⟨rfl, rfl⟩ := hp
   cases h
   exact ⟨.inr rfl, rfl⟩
  ·obtain ⟨rfl, rfl⟩ := hp
   refine AWp.seq ?_
   refine AWp.start [0] [] [] [4] 0 ⟨[(4, tI (-1 : Int))], []⟩ rfl ?_ z0 trivial ?_
   ·kernel_rfl
   refine AOps.nil ?_
   refine AWp.ret ?_
   cases h
   exact ⟨.inr rfl, rfl⟩

noncomputable def f34 (v1 : List T36) (v2 : List UInt8) : Option Int :=
 (f45_46 v1 v2).bind fun v3 => some v3

theorem f34_ok (v1 : List T36) (v2 : List UInt8) {r : Int} (h : f34 v1 v2 = some r) : ACall Try.prog 34 [.tv (fzL 3 c36 v1), .tv (.str v2)] [] (.tv (.int .i64 r)) [] := by
 refine ACall.of1 (FF 8 0) Try.func34 rfl Try.ntmps34 Try.results34 (Nat.le_of_ble_eq_true rfl) rfl rfl ?_
 refine AWp.seq ?_
 refine AWp.start [0, 1] [] [] [0, 3] 1 ⟨[(0, q0 v1), (3, .pc 0 0)], [.cells 9 [.str v2]]⟩ rfl ?_ z0 trivial ?_
 ·kernel_rfl
 refine AOps.nil ?_
 refine AWp.seq ?_
 refine AWp.pin 0 rfl rfl ?_
 refine AWp.keepTo [0, 3] 0 ⟨[(0, q0 v1), (3, .rp [.str v2])], []⟩ ?_ z0 ?_
 ·kernel_rfl
 refine AWp.start [0, 1] [2, 3] [] [5, 6] 0 ⟨[(5, q0 v1), (6, .fn 46 [.rp [.str v2]])], []⟩ rfl ?_ z0 trivial ?_
 ·kernel_rfl
 obtain ⟨v3, hv3, h⟩ := of_bind h
 refine AOps.cons (AOne.callP (F := (FF 8 0)) _ rfl rfl rfl _ rfl rfl _ _ rfl Try.call45 [q0 v1, .fn 46 [.rp [.str v2]]] rfl rfl (f45_46_ok v1 v2 hv3) rfl) ?_
 refine AOps.go [3] [] [] [4] 0 ⟨[(4, tI v3)], []⟩ ?_ z0 trivial ?_
 ·kernel_rfl
 refine AOps.nil ?_
 refine AWp.ret ?_
 cases h
 exact ⟨.inr rfl, rfl⟩

noncomputable def f42_b1 (v1 : List T36) (v2 : Int) : Option (Int ⊕ Out Bool Unit) :=
 cond (decide (v2 < (v1.length : Int))) (if (0 : Int) ≤ v2 ∧ v2 < (v1.length : Int) then (cond ((v1.getD v2.toNat default).f1 == (1 : Int)) (some true) (some ((v1.getD v2.toNat default).f1 == (2 : Int)))).bind fun v3 => (cond v3 (some true) (some ((v1.getD v2.toNat default).f1 == (4 : Int)))).bind fun v4 => ((f53 ((v1.getD v2.toNat default).f0)).bind fun v6 => cond (!v6) (some true) (cond (!v4) (some true) (cond (decide ((v1.getD v2.toNat default).f2 < (1 : Int))) (some true) (cond (decide ((v1.getD v2.toNat default).f2 > (1000 : Int))) (some true) (if (0 : Int) ≤ v2 ∧ v2 ≤ (v1.length : Int) then (f34 ((v1.take v2.toNat).drop 0) ((v1.getD v2.toNat default).f0)).bind fun v7 => some (decide (v7 ≥ (0 : Int))) else none))))).bind fun v5 => cond v5 (some (.inr (.ret false))) (some (.inl (w64 (v2 + (1 : Int))))) else none) (some (.inr (.go ())))

noncomputable def f42 (v1 : List T36) : Option Bool :=
 (iter (fun s => f42_b1 v1 s) (0 : Int)).bind fun y => match y with | .ret v8 => some v8 | .go _ => some (decide ((v1.length : Int) ≤ (60 : Int)))

theorem f42_ok (v1 : List T36) {r : Bool} (h : f42 v1 = some r) : ACall Try.prog 42 [.tv (fzL 3 c36 v1)] [] (.tv (.bool r)) [] := by
 refine ACall.of1 (FF 57 0) Try.func42 rfl Try.ntmps42 Try.results42 (Nat.le_of_ble_eq_true rfl) rfl rfl ?_
 refine AWp.seq ?_
 refine AWp.start [0] [] [] [0] 0 ⟨[(0, q0 v1)], []⟩ rfl ?_ z0 trivial ?_
 ·kernel_rfl
 refine AOps.nil ?_
 refine AWp.seq ?_
 refine AWp.seq ?_
 refine AWp.start [0, 1, 2] [] [] [0, 6, 7, 8] 0 ⟨[(0, q0 v1), (6, q0 v1), (7, tI (v1.length : Int)), (8, tI (0 : Int))], []⟩ rfl ?_ z0 trivial ?_
 ·kernel_rfl
 refine AOps.nil ?_
 refine AWp.block ?_
 obtain ⟨y, hy, h⟩ := of_bind h
 refine AWp.mono (AWp.loop (S := Int) (Y := Out Bool Unit) (fun s => ⟨[(0, q0 v1), (6, q0 v1), (7, tI (v1.length : Int)), (8, tI s)], []⟩) (fun s => f42_b1 v1 s) (fun y e σ => match y with | .ret r => e = .ret ∧ σ = ⟨[(2, tB r)], []⟩ | .go v => e = .exit 0 ∧ σ = ⟨[(0, q0 v1)], []⟩) ?_ hy) ?_
 ·rintro v2 o h
  refine AWp.seq ?_
  refine AWp.start [0] [] [] [0, 6, 7, 8, 9] 0 ⟨[(0, q0 v1), (6, q0 v1), (7, tI (v1.length : Int)), (8, tI v2), (9, tB (decide (v2 < (v1.length : Int))))], []⟩ rfl ?_ z0 trivial ?_
  ·kernel_rfl
  refine AOps.nil ?_
  refine AWp.seq ?_
  refine AWp.cond rfl (fun hb => ?_) fun hb => ?_
  ·replace h := of_true h hb
   refine AWp.keepTo [0, 6, 7, 8] 0 ⟨[(0, q0 v1), (6, q0 v1), (7, tI (v1.length : Int)), (8, tI v2)], []⟩ ?_ z0 ?_
   ·kernel_rfl
   refine AWp.skip ?_
   refine AWp.seq ?_
   refine AWp.block ?_
   refine AWp.seq ?_
   obtain ⟨hg, h⟩ := of_guard h
   refine AWp.start [0, 1, 2, 3, 4, 5] [] [(0 : Int) ≤ v2, v2 < (v1.length : Int)] [0, 3, 4, 6, 7, 8] 1 ⟨[(0, q0 v1), (3, tI v2), (4, .pc 0 0), (6, q0 v1), (7, tI (v1.length : Int)), (8, tI v2)], [.cells 37 (c36 (gD v1 v2))]⟩ rfl ?_ z0 ⟨hg.1, hg.2⟩ ?_
   ·kernel_rfl
   refine AOps.nil ?_
   refine AWp.seq ?_
   refine AWp.pin 0 rfl rfl ?_
   refine AWp.keepTo [0, 3, 4, 6, 7, 8] 0 ⟨[(0, q0 v1), (3, tI v2), (4, .rp (c36 (gD v1 v2))), (6, q0 v1), (7, tI (v1.length : Int)), (8, tI v2)], []⟩ ?_ z0 ?_
   ·kernel_rfl
   refine AWp.start [0, 1, 2, 3] [4, 5, 6, 7, 8, 9, 10, 11, 12, 13] [] [0, 3, 4, 6, 7, 8, 16] 0 ⟨[(0, q0 v1), (3, tI v2), (4, .rp (c36 (gD v1 v2))), (6, q0 v1), (7, tI (v1.length : Int)), (8, tI v2), (16, tB ((gD v1 v2).f1 == (1 : Int)))], []⟩ rfl ?_ z0 trivial ?_
   ·kernel_rfl
   obtain ⟨v3, hc4, h⟩ := of_bind h
   refine AOps.cut [4, 5, 6, 7] [8, 9, 10, 11, 12, 13] (fun σ => σ = ⟨[(0, q0 v1), (3, tI v2), (4, .rp (c36 (gD v1 v2))), (6, q0 v1), (7, tI (v1.length : Int)), (8, tI v2), (20, tB v3)], []⟩) ?_ fun σ' hJ => ?_
   ·refine AOps.split (fun b => ⟨[(0, q0 v1), (3, tI v2), (4, .rp (c36 (gD v1 v2))), (6, q0 v1), (7, tI (v1.length : Int)), (8, tI v2), (16, tB b)], []⟩) _ (fun hb => ?_) fun hb => ?_
    ·replace hc4 := of_true hc4 hb
     refine AOps.go [4, 5, 6, 7] [] [] [0, 3, 4, 6, 7, 8, 20] 0 ⟨[(0, q0 v1), (3, tI v2), (4, .rp (c36 (gD v1 v2))), (6, q0 v1), (7, tI (v1.length : Int)), (8, tI v2), (20, tB true)], []⟩ ?_ z0 trivial ?_
     ·kernel_rfl
     cases hc4
     exact AOps.nil rfl
    ·replace hc4 := of_false hc4 hb
     refine AOps.go [4, 5, 6, 7] [] [] [0, 3, 4, 6, 7, 8, 20] 0 ⟨[(0, q0 v1), (3, tI v2), (4, .rp (c36 (gD v1 v2))), (6, q0 v1), (7, tI (v1.length : Int)), (8, tI v2), (20, tB ((gD v1 v2).f1 == (2 : Int)))], []⟩ ?_ z0 trivial ?_
     ·kernel_rfl
     cases hc4
     exact AOps.nil rfl
   subst hJ
   refine AOps.go [8] [9, 10, 11, 12, 13] [] [0, 3, 4, 6, 7, 8, 21] 0 ⟨[(0, q0 v1), (3, tI v2), (4, .rp (c36 (gD v1 v2))), (6, q0 v1), (7, tI (v1.length : Int)), (8, tI v2), (21, tB v3)], []⟩ ?_ z0 trivial ?_
   ·kernel_rfl
   obtain ⟨v4, hc9, h⟩ := of_bind h
   refine AOps.cut [9, 10, 11, 12] [13] (fun σ => σ = ⟨[(0, q0 v1), (3, tI v2), (4, .rp (c36 (gD v1 v2))), (6, q0 v1), (7, tI (v1.length : Int)), (8, tI v2), (25, tB v4)], []⟩) ?_ fun σ' hJ => ?_
   ·refine AOps.split (fun b => ⟨[(0, q0 v1), (3, tI v2), (4, .rp (c36 (gD v1 v2))), (6, q0 v1), (7, tI (v1.length : Int)), (8, tI v2), (21, tB b)], []⟩) _ (fun hb => ?_) fun hb => ?_
    ·replace hc9 := of_true hc9 hb
     refine AOps.go [9, 10, 11, 12] [] [] [0, 3, 4, 6, 7, 8, 25] 0 ⟨[(0, q0 v1), (3, tI v2), (4, .rp (c36 (gD v1 v2))), (6, q0 v1), (7, tI (v1.length : Int)), (8, tI v2), (25, tB true)], []⟩ ?_ z0 trivial ?_
     ·kernel_rfl
     cases hc9
     exact AOps.nil rfl
    ·replace hc9 := of_false hc9 hb
     refine AOps.go [9, 10, 11, 12] [] [] [0, 3, 4, 6, 7, 8, 25] 0 ⟨[(0, q0 v1), (3, tI v2), (4, .rp (c36 (gD v1 v2))), (6, q0 v1), (7, tI (v1.length : Int)), (8, tI v2), (25, tB ((gD v1 v2).f1 == (4 : Int)))], []⟩ ?_ z0 trivial ?_
     ·kernel_rfl
     cases hc9
     exact AOps.nil rfl
   subst hJ
   refine AOps.go [13] [] [] [0, 3, 4, 5, 6, 7, 8] 0 ⟨[(0, q0 v1), (3, tI v2), (4, .rp (c36 (gD v1 v2))), (5, tB v4), (6, q0 v1), (7, tI (v1.length : Int)), (8, tI v2)], []⟩ ?_ z0 trivial ?_
   ·kernel_rfl
   refine AOps.nil ?_
   refine AWp.seq ?_
   obtain ⟨v5, hd, h⟩ := of_bind h
   refine AWp.draw FFm (fun σ => σ = ⟨[(0, q0 v1), (6, q0 v1), (7, tI (v1.length : Int)), (8, tI v2), (52, tB v5)], []⟩) (n := 27) rfl (ls := #[n1, n1, n1, n1, n1, n1, n1, n1, n1, n1, n1, n1, n1, n1, n1, n1, n1, n1, n1, n1, n1, n1, n1, n1, n1, n1, n1]) rfl ?_ ?_
   ·refine AAny.go (by kernel_rfl) [0, 1] (fuel' := 25) rfl [] #[y1, y1, n1, n1, n1, n1, n1, n1, n1, n1, n1, n1, n1, n1, n1, n1, n1, n1, n1, n1, n1, n1, n1, n1, n1, n1, n1] [0, 3, 4, 5, 6, 7, 8, 27] 0 ⟨[(0, q0 v1), (3, tI v2), (4, .rp (c36 (gD v1 v2))), (5, tB v4), (6, q0 v1), (7, tI (v1.length : Int)), (8, tI v2), (27, tS ((gD v1 v2).f0))], []⟩ ?_ z0 trivial ?_
    ·kernel_rfl
    obtain ⟨v6, hv6, hd⟩ := of_bind hd
    refine AAny.serial (i := 2) (fuel := 24) (by kernel_rfl) (AOne.callP (F := (FF 57 0)) _ rfl rfl rfl _ rfl rfl _ _ rfl Try.call53 [tS ((gD v1 v2).f0)] rfl rfl (f53_ok ((gD v1 v2).f0) hv6) rfl) ?_
    refine AAny.keepTo [0, 3, 4, 5, 6, 7, 8, 28] 0 ⟨[(0, q0 v1), (3, tI v2), (4, .rp (c36 (gD v1 v2))), (5, tB v4), (6, q0 v1), (7, tI (v1.length : Int)), (8, tI v2), (28, tB v6)], []⟩ #[y1, y1, y1, n1, n1, n1, n1, n1, n1, n1, n1, n1, n1, n1, n1, n1, n1, n1, n1, n1, n1, n1, n1, n1, n1, n1, n1] ?_ rfl z0 ?_
    ·kernel_rfl
    refine AAny.go (by kernel_rfl) [3, 4] (fuel' := 22) rfl [] #[y1, y1, y1, y1, y1, n1, n1, n1, n1, n1, n1, n1, n1, n1, n1, n1, n1, n1, n1, n1, n1, n1, n1, n1, n1, n1, n1] [0, 3, 4, 5, 6, 7, 8, 30] 0 ⟨[(0, q0 v1), (3, tI v2), (4, .rp (c36 (gD v1 v2))), (5, tB v4), (6, q0 v1), (7, tI (v1.length : Int)), (8, tI v2), (30, tB (!v6))], []⟩ ?_ z0 trivial ?_
    ·kernel_rfl
    refine AAny.split (fun b => ⟨[(0, q0 v1), (3, tI v2), (4, .rp (c36 (gD v1 v2))), (5, tB v4), (6, q0 v1), (7, tI (v1.length : Int)), (8, tI v2), (30, tB b)], []⟩) _ (fun hb => ?_) fun hb => ?_
    ·replace hd := of_true hd hb
     refine AAny.go (by kernel_rfl) [5, 6, 7, 8, 9, 10, 11, 12, 13, 14, 15, 16, 17, 18, 19, 20, 21, 22, 23, 24, 25, 26] (fuel' := 0) rfl [] #[y1, y1, y1, y1, y1, y1, y1, y1, y1, y1, y1, y1, y1, y1, y1, y1, y1, y1, y1, y1, y1, y1, y1, y1, y1, y1, y1] [0, 6, 7, 8, 52] 0 ⟨[(0, q0 v1), (6, q0 v1), (7, tI (v1.length : Int)), (8, tI v2), (52, tB true)], []⟩ ?_ z0 trivial ?_
     ·kernel_rfl
     refine AAny.keepTo [0, 6, 7, 8, 52] 0 ⟨[(0, q0 v1), (6, q0 v1), (7, tI (v1.length : Int)), (8, tI v2), (52, tB true)], []⟩ _ ?_ rfl z0 (AAny.done (by kernel_rfl) ?_)
     ·kernel_rfl
     cases hd
     exact rfl
    ·replace hd := of_false hd hb
     refine AAny.go (by kernel_rfl) [5, 6, 7, 8] (fuel' := 18) rfl [] #[y1, y1, y1, y1, y1, y1, y1, y1, y1, n1, n1, n1, n1, n1, n1, n1, n1, n1, n1, n1, n1, n1, n1, n1, n1, n1, n1] [0, 3, 4, 6, 7, 8, 34] 0 ⟨[(0, q0 v1), (3, tI v2), (4, .rp (c36 (gD v1 v2))), (6, q0 v1), (7, tI (v1.length : Int)), (8, tI v2), (34, tB (!v4))], []⟩ ?_ z0 trivial ?_
     ·kernel_rfl
     refine AAny.split (fun b => ⟨[(0, q0 v1), (3, tI v2), (4, .rp (c36 (gD v1 v2))), (6, q0 v1), (7, tI (v1.length : Int)), (8, tI v2), (34, tB b)], []⟩) _ (fun hb => ?_) fun hb => ?_
     ·replace hd := of_true hd hb
      refine AAny.go (by kernel_rfl) [9, 10, 11, 12, 13, 14, 15, 16, 17, 18, 19, 20, 21, 22, 23, 24, 25, 26] (fuel' := 0) rfl [] #[y1, y1, y1, y1, y1, y1, y1, y1, y1, y1, y1, y1, y1, y1, y1, y1, y1, y1, y1, y1, y1, y1, y1, y1, y1, y1, y1] [0, 6, 7, 8, 52] 0 ⟨[(0, q0 v1), (6, q0 v1), (7, tI (v1.length : Int)), (8, tI v2), (52, tB true)], []⟩ ?_ z0 trivial ?_
      ·kernel_rfl
      refine AAny.keepTo [0, 6, 7, 8, 52] 0 ⟨[(0, q0 v1), (6, q0 v1), (7, tI (v1.length : Int)), (8, tI v2), (52, tB true)], []⟩ _ ?_ rfl z0 (AAny.done (by kernel_rfl) ?_)
      ·kernel_rfl
      cases hd
      exact rfl
     ·replace hd := of_false hd hb
      refine AAny.go (by kernel_rfl) [9, 10, 11, 12, 13] (fuel' := 13) rfl [] #[y1, y1, y1, y1, y1, y1, y1, y1, y1, y1, y1, y1, y1, y1, n1, n1, n1, n1, n1, n1, n1, n1, n1, n1, n1, n1, n1] [0, 3, 4, 6, 7, 8, 39] 0 ⟨[(0, q0 v1), (3, tI v2), (4, .rp (c36 (gD v1 v2))), (6, q0 v1), (7, tI (v1.length : Int)), (8, tI v2), (39, tB (decide ((gD v1 v2).f2 < (1 : Int))))], []⟩ ?_ z0 trivial ?_
      ·kernel_rfl
      refine AAny.split (fun b => ⟨[(0, q0 v1), (3, tI v2), (4, .rp (c36 (gD v1 v2))), (6, q0 v1), (7, tI (v1.length : Int)), (8, tI v2), (39, tB b)], []⟩) _ (fun hb => ?_) fun hb => ?_
      ·replace hd := of_true hd hb
       refine AAny.go (by kernel_rfl) [14, 15, 16, 17, 18, 19, 20, 21, 22, 23, 24, 25, 26] (fuel' := 0) rfl [] #[y1, y1, y1, y1, y1, y1, y1, y1, y1, y1, y1, y1, y1, y1, y1, y1, y1, y1, y1, y1, y1, y1, y1, y1, y1, y1, y1] [0, 6, 7, 8, 52] 0 ⟨[(0, q0 v1), (6, q0 v1), (7, tI (v1.length : Int)), (8, tI v2), (52, tB true)], []⟩ ?_ z0 trivial ?_
       ·kernel_rfl
       refine AAny.keepTo [0, 6, 7, 8, 52] 0 ⟨[(0, q0 v1), (6, q0 v1), (7, tI (v1.length : Int)), (8, tI v2), (52, tB true)], []⟩ _ ?_ rfl z0 (AAny.done (by kernel_rfl) ?_)
       ·kernel_rfl
       cases hd
       exact rfl
      ·replace hd := of_false hd hb
       refine AAny.go (by kernel_rfl) [14, 15, 16, 17, 18] (fuel' := 8) rfl [] #[y1, y1, y1, y1, y1, y1, y1, y1, y1, y1, y1, y1, y1, y1, y1, y1, y1, y1, y1, n1, n1, n1, n1, n1, n1, n1, n1] [0, 3, 4, 6, 7, 8, 44] 0 ⟨[(0, q0 v1), (3, tI v2), (4, .rp (c36 (gD v1 v2))), (6, q0 v1), (7, tI (v1.length : Int)), (8, tI v2), (44, tB (decide ((gD v1 v2).f2 > (1000 : Int))))], []⟩ ?_ z0 trivial ?_
       ·kernel_rfl
       refine AAny.split (fun b => ⟨[(0, q0 v1), (3, tI v2), (4, .rp (c36 (gD v1 v2))), (6, q0 v1), (7, tI (v1.length : Int)), (8, tI v2), (44, tB b)], []⟩) _ (fun hb => ?_) fun hb => ?_
       ·replace hd := of_true hd hb
        refine AAny.go (by kernel_rfl) [19, 20, 21, 22, 23, 24, 25, 26] (fuel' := 0) rfl [] #[y1, y1, y1, y1, y1, y1, y1, y1, y1, y1, y1, y1, y1, y1, y1, y1, y1, y1, y1, y1, y1, y1, y1, y1, y1, y1, y1] [0, 6, 7, 8, 52] 0 ⟨[(0, q0 v1), (6, q0 v1), (7, tI (v1.length : Int)), (8, tI v2), (52, tB true)], []⟩ ?_ z0 trivial ?_
        ·kernel_rfl
        refine AAny.keepTo [0, 6, 7, 8, 52] 0 ⟨[(0, q0 v1), (6, q0 v1), (7, tI (v1.length : Int)), (8, tI v2), (52, tB true)], []⟩ _ ?_ rfl z0 (AAny.done (by kernel_rfl) ?_)
        ·kernel_rfl
        cases hd
        exact rfl
       ·replace hd := of_false hd hb
        obtain ⟨hg, hd⟩ := of_guard hd
        refine AAny.go (by kernel_rfl) [19, 20, 21] (fuel' := 5) rfl [(0 : Int) ≤ (0 : Int), (0 : Int) ≤ v2, v2 ≤ (v1.length : Int)] #[y1, y1, y1, y1, y1, y1, y1, y1, y1, y1, y1, y1, y1, y1, y1, y1, y1, y1, y1, y1, y1, y1, n1, n1, n1, n1, n1] [0, 4, 6, 7, 8, 44, 47] 0 ⟨[(0, q0 v1), (4, .rp (c36 (gD v1 v2))), (6, q0 v1), (7, tI (v1.length : Int)), (8, tI v2), (44, tB false), (47, .tv (.fz 3 (v2.toNat - 0) (fun i => c36 (v1.getD (0 + i) default))))], []⟩ ?_ z0 ⟨(by decide : (0 : Int) ≤ (0 : Int)), hg.1, hg.2⟩ ?_
        ·kernel_rfl
        have hb : v2.toNat ≤ v1.length := by have hh : v2 ≤ (v1.length : Int) := hg.2; omega
        refine AAny.extFzL (s := 47) rfl (sub_len v1 0 v2.toNat hb) (sub_at c36 v1 0 v2.toNat hb) ?_
        refine AAny.go (by kernel_rfl) [22, 23] (fuel' := 3) rfl [] #[y1, y1, y1, y1, y1, y1, y1, y1, y1, y1, y1, y1, y1, y1, y1, y1, y1, y1, y1, y1, y1, y1, y1, y1, n1, n1, n1] [0, 6, 7, 8, 44, 47, 49] 0 ⟨[(0, q0 v1), (6, q0 v1), (7, tI (v1.length : Int)), (8, tI v2), (44, tB false), (47, q0 ((v1.take v2.toNat).drop 0)), (49, tS ((gD v1 v2).f0))], []⟩ ?_ z0 trivial ?_
        ·kernel_rfl
        obtain ⟨v7, hv7, hd⟩ := of_bind hd
        refine AAny.serial (i := 24) (fuel := 2) (by kernel_rfl) (AOne.callP (F := (FF 57 0)) _ rfl rfl rfl _ rfl rfl _ _ rfl Try.call34 [q0 ((v1.take v2.toNat).drop 0), tS ((gD v1 v2).f0)] rfl rfl (f34_ok ((v1.take v2.toNat).drop 0) ((gD v1 v2).f0) hv7) rfl) ?_
        refine AAny.keepTo [0, 6, 7, 8, 44, 50] 0 ⟨[(0, q0 v1), (6, q0 v1), (7, tI (v1.length : Int)), (8, tI v2), (44, tB false), (50, tI v7)], []⟩ #[y1, y1, y1, y1, y1, y1, y1, y1, y1, y1, y1, y1, y1, y1, y1, y1, y1, y1, y1, y1, y1, y1, y1, y1, y1, n1, n1] ?_ rfl z0 ?_
        ·kernel_rfl
        refine AAny.go (by kernel_rfl) [25, 26] (fuel' := 0) rfl [] #[y1, y1, y1, y1, y1, y1, y1, y1, y1, y1, y1, y1, y1, y1, y1, y1, y1, y1, y1, y1, y1, y1, y1, y1, y1, y1, y1] [0, 6, 7, 8, 52] 0 ⟨[(0, q0 v1), (6, q0 v1), (7, tI (v1.length : Int)), (8, tI v2), (52, tB (decide (v7 ≥ (0 : Int))))], []⟩ ?_ z0 trivial ?_
        ·kernel_rfl
        refine AAny.keepTo [0, 6, 7, 8, 52] 0 ⟨[(0, q0 v1), (6, q0 v1), (7, tI (v1.length : Int)), (8, tI v2), (52, tB (decide (v7 ≥ (0 : Int))))], []⟩ _ ?_ rfl z0 (AAny.done (by kernel_rfl) ?_)
        ·kernel_rfl
        cases hd
        exact rfl
   rintro σ' rfl
   refine AWp.cond rfl (fun hb => ?_) fun hb => ?_
   ·replace h := of_true h hb
    refine AWp.keepTo [] 0 ⟨[], []⟩ ?_ z0 ?_
    ·kernel_rfl
    refine AWp.seq ?_
    refine AWp.start [0] [] [] [2] 0 ⟨[(2, tB false)], []⟩ rfl ?_ z0 trivial ?_
    ·kernel_rfl
    refine AOps.nil ?_
    refine AWp.ret ?_
    cases h
    exact Or.inr ⟨_, rfl, by simp, rfl, rfl⟩
   ·replace h := of_false h hb
    refine AWp.keepTo [0, 6, 7, 8] 0 ⟨[(0, q0 v1), (6, q0 v1), (7, tI (v1.length : Int)), (8, tI v2)], []⟩ ?_ z0 ?_
    ·kernel_rfl
    refine AWp.skip ?_
    refine AWp.start [0, 1] [] [] [0, 6, 7, 8] 0 ⟨[(0, q0 v1), (6, q0 v1), (7, tI (v1.length : Int)), (8, tI (w64 (v2 + (1 : Int))))], []⟩ rfl ?_ z0 trivial ?_
    ·kernel_rfl
    refine AOps.nil ?_
    cases h
    exact Or.inl ⟨_, rfl, rfl, rfl⟩
  ·replace h := of_false h hb
   refine AWp.keepTo [0] 0 ⟨[(0, q0 v1)], []⟩ ?_ z0 ?_
   ·kernel_rfl
   refine AWp.exit ?_
   cases h
   exact Or.inr ⟨_, rfl, by simp, rfl, rfl⟩
 ·intro e σ hp
  rcases y with v8 | _
  ·obtain ⟨rfl, rfl⟩ := hp
   cases h
   exact ⟨.inr rfl, rfl⟩
  ·obtain ⟨rfl, rfl⟩ := hp
   refine AWp.seq ?_
   refine AWp.start [0, 1, 2, 3] [] [] [2] 0 ⟨[(2, tB (decide ((v1.length : Int) ≤ (60 : Int))))], []⟩ rfl ?_ z0 trivial ?_
   ·kernel_rfl
   refine AOps.nil ?_
   refine AWp.ret ?_
   cases h
   exact ⟨.inr rfl, rfl⟩

noncomputable def f47 (v1 : Int) : Option Bool :=
 some (decide (v1 > (60 : Int)))

theorem f47_ok (v1 : Int) {r : Bool} (h : f47 v1 = some r) : ACall Try.prog 47 [.tv (.int .i64 v1)] [] (.tv (.bool r)) [] := by
 refine ACall.of1 (FF 5 0) Try.func47 rfl Try.ntmps47 Try.results47 (Nat.le_of_ble_eq_true rfl) rfl rfl ?_
 refine AWp.seq ?_
 refine AWp.start [0] [] [] [0] 0 ⟨[(0, tI v1)], []⟩ rfl ?_ z0 trivial ?_
 ·kernel_rfl
 refine AOps.nil ?_
 refine AWp.seq ?_
 refine AWp.start [0, 1, 2] [] [] [2] 0 ⟨[(2, tB (decide (v1 > (60 : Int))))], []⟩ rfl ?_ z0 trivial ?_
 ·kernel_rfl
 refine AOps.nil ?_
 refine AWp.ret ?_
 cases h
 exact ⟨.inr rfl, rfl⟩

noncomputable def f30 (v1 : List T36) (v2 : T34) : Option Bool :=
 (f34 v1 v2.f0).bind fun v3 => (cond (decide (v3 ≥ (0 : Int))) (cond (decide (v2.f1 ≥ (0 : Int))) (if (0 : Int) ≤ v3 ∧ v3 < (v1.length : Int) then some (decide (v2.f1 < (v1.getD v3.toNat default).f2)) else none) (some false)) (some false)).bind fun v4 => some v4

theorem f30_ok (v1 : List T36) (v2 : T34) {r : Bool} (h : f30 v1 v2 = some r) : ACall Try.prog 30 [.tv (fzL 3 c36 v1), .agg [.str v2.f0, .int .i64 v2.f1]] [] (.tv (.bool r)) [] := by
 refine ACall.of1 (FF 27 0) Try.func30 rfl Try.ntmps30 Try.results30 (Nat.le_of_ble_eq_true rfl) rfl rfl ?_
 refine AWp.seq ?_
 refine AWp.start [0, 1] [] [] [0, 3] 1 ⟨[(0, q0 v1), (3, .pc 0 0)], [.cells 35 [.str v2.f0, .int .i64 v2.f1]]⟩ rfl ?_ z0 trivial ?_
 ·kernel_rfl
 refine AOps.nil ?_
 refine AWp.seq ?_
 refine AWp.pin 0 rfl rfl ?_
 refine AWp.keepTo [0, 3] 0 ⟨[(0, q0 v1), (3, .rp [.str v2.f0, .int .i64 v2.f1])], []⟩ ?_ z0 ?_
 ·kernel_rfl
 refine AWp.start [0, 1, 2] [3, 4] [] [0, 3, 6, 8] 0 ⟨[(0, q0 v1), (3, .rp [.str v2.f0, .int .i64 v2.f1]), (6, q0 v1), (8, tS v2.f0)], []⟩ rfl ?_ z0 trivial ?_
 ·kernel_rfl
 obtain ⟨v3, hv3, h⟩ := of_bind h
 refine AOps.cons (AOne.callP (F := (FF 27 0)) _ rfl rfl rfl _ rfl rfl _ _ rfl Try.call34 [q0 v1, tS v2.f0] rfl rfl (f34_ok v1 v2.f0 hv3) rfl) ?_
 refine AOps.go [4] [] [] [0, 3, 5] 0 ⟨[(0, q0 v1), (3, .rp [.str v2.f0, .int .i64 v2.f1]), (5, tI v3)], []⟩ ?_ z0 trivial ?_
 ·kernel_rfl
 refine AOps.nil ?_
 refine AWp.seq ?_
 obtain ⟨v4, hd, h⟩ := of_bind h
 refine AWp.draw FFm (fun σ => σ = ⟨[(4, tB v4)], []⟩) (n := 18) rfl (ls := #[n1, n1, n1, n1, n1, n1, n1, n1, n1, n1, n1, n1, n1, n1, n1, n1, n1, n1]) rfl ?_ ?_
 ·refine AAny.go (by kernel_rfl) [0, 1, 2] (fuel' := 15) rfl [] #[y1, y1, y1, n1, n1, n1, n1, n1, n1, n1, n1, n1, n1, n1, n1, n1, n1, n1] [0, 3, 5, 12] 0 ⟨[(0, q0 v1), (3, .rp [.str v2.f0, .int .i64 v2.f1]), (5, tI v3), (12, tB (decide (v3 ≥ (0 : Int))))], []⟩ ?_ z0 trivial ?_
  ·kernel_rfl
  refine AAny.split (fun b => ⟨[(0, q0 v1), (3, .rp [.str v2.f0, .int .i64 v2.f1]), (5, tI v3), (12, tB b)], []⟩) _ (fun hb => ?_) fun hb => ?_
  ·replace hd := of_true hd hb
   refine AAny.go (by kernel_rfl) [3, 4, 5, 6, 7] (fuel' := 10) rfl [] #[y1, y1, y1, y1, y1, y1, y1, y1, n1, n1, n1, n1, n1, n1, n1, n1, n1, n1] [0, 3, 5, 17] 0 ⟨[(0, q0 v1), (3, .rp [.str v2.f0, .int .i64 v2.f1]), (5, tI v3), (17, tB (decide (v2.f1 ≥ (0 : Int))))], []⟩ ?_ z0 trivial ?_
   ·kernel_rfl
   refine AAny.split (fun b => ⟨[(0, q0 v1), (3, .rp [.str v2.f0, .int .i64 v2.f1]), (5, tI v3), (17, tB b)], []⟩) _ (fun hb => ?_) fun hb => ?_
   ·replace hd := of_true hd hb
    obtain ⟨hg, hd⟩ := of_guard hd
    refine AAny.go (by kernel_rfl) [8, 9, 10, 11, 12, 13, 14, 15, 16, 17] (fuel' := 0) rfl [(0 : Int) ≤ v3, v3 < (v1.length : Int)] #[y1, y1, y1, y1, y1, y1, y1, y1, y1, y1, y1, y1, y1, y1, y1, y1, y1, y1] [4] 0 ⟨[(4, tB (decide (v2.f1 < (gD v1 v3).f2)))], []⟩ ?_ z0 ⟨hg.1, hg.2⟩ ?_
    ·kernel_rfl
    refine AAny.keepTo [4] 0 ⟨[(4, tB (decide (v2.f1 < (gD v1 v3).f2)))], []⟩ _ ?_ rfl z0 (AAny.done (by kernel_rfl) ?_)
    ·kernel_rfl
    cases hd
    exact rfl
   ·replace hd := of_false hd hb
    refine AAny.go (by kernel_rfl) [8, 9, 10, 11, 12, 13, 14, 15, 16, 17] (fuel' := 0) rfl [] #[y1, y1, y1, y1, y1, y1, y1, y1, y1, y1, y1, y1, y1, y1, y1, y1, y1, y1] [4] 0 ⟨[(4, tB false)], []⟩ ?_ z0 trivial ?_
    ·kernel_rfl
    refine AAny.keepTo [4] 0 ⟨[(4, tB false)], []⟩ _ ?_ rfl z0 (AAny.done (by kernel_rfl) ?_)
    ·kernel_rfl
    cases hd
    exact rfl
  ·replace hd := of_false hd hb
   refine AAny.go (by kernel_rfl) [3, 4, 5, 6, 7, 8, 9, 10, 11, 12, 13, 14, 15, 16, 17] (fuel' := 0) rfl [] #[y1, y1, y1, y1, y1, y1, y1, y1, y1, y1, y1, y1, y1, y1, y1, y1, y1, y1] [4] 0 ⟨[(4, tB false)], []⟩ ?_ z0 trivial ?_
   ·kernel_rfl
   refine AAny.keepTo [4] 0 ⟨[(4, tB false)], []⟩ _ ?_ rfl z0 (AAny.done (by kernel_rfl) ?_)
   ·kernel_rfl
   cases hd
   exact rfl
 rintro σ' rfl
 refine AWp.ret ?_
 cases h
 exact ⟨.inr rfl, rfl⟩

noncomputable def f56_e_j1 (v2 : List (List UInt8)) : Option (List (List UInt8)) :=
 some v2

noncomputable def f56_e (v1 : Int) : Option (List (List UInt8)) :=
 cond (decide (v1 < (0 : Int))) none (cond (decide (w64 (v1 - (w64 ((0 : Int) - (0 : Int)))) > (0 : Int))) (if (0 : Int) ≤ w64 (v1 - (w64 ((0 : Int) - (0 : Int)))) ∧ (Int.toNat (w64 (v1 - (w64 ((0 : Int) - (0 : Int)))))) * 16 ≤ 140737488355328 then f56_e_j1 ((List.replicate (Int.toNat (w64 (v1 - (w64 ((0 : Int) - (0 : Int)))))) ([] : List UInt8)).take 0) else none) (f56_e_j1 []))

theorem f56_e_ok (v1 : Int) {r : (List (List UInt8))} (h : f56_e v1 = some r) : ACall Try.prog 56 [.tv (.sc (.slice none 0 0)), .tv (.int .i64 v1)] [] (.tv (ownL 1 9 cStr r)) [] := by
 refine ACall.of1 (FF 27 0) Try.func56 rfl Try.ntmps56 Try.results56 (Nat.le_of_ble_eq_true rfl) rfl rfl ?_
 refine AWp.seq ?_
 refine AWp.start [0] [] [] [0, 1] 0 ⟨[(0, .tv (.sc (.slice none 0 0))), (1, tI v1)], []⟩ rfl ?_ z0 trivial ?_
 ·kernel_rfl
 refine AOps.nil ?_
 refine AWp.seq ?_
 refine AWp.seq ?_
 refine AWp.start [0, 1] [] [] [0, 1, 6] 0 ⟨[(0, .tv (.sc (.slice none 0 0))), (1, tI v1), (6, tB (decide (v1 < (0 : Int))))], []⟩ rfl ?_ z0 trivial ?_
 ·kernel_rfl
 refine AOps.nil ?_
 refine AWp.cond rfl (fun hb => ?_) fun hb => ?_
 ·replace h := of_true h hb
  refine AWp.keepTo [0, 1] 0 ⟨[(0, .tv (.sc (.slice none 0 0))), (1, tI v1)], []⟩ ?_ z0 ?_
  ·kernel_rfl
  cases h
 ·replace h := of_false h hb
  refine AWp.keepTo [0, 1] 0 ⟨[(0, .tv (.sc (.slice none 0 0))), (1, tI v1)], []⟩ ?_ z0 ?_
  ·kernel_rfl
  refine AWp.skip ?_
  refine AWp.join (V := (List (List UInt8))) (fun w => ⟨[(0, .tv (ownL 1 9 cStr w))], []⟩) (fun w => f56_e_j1  w = some r) ?_ ?_
  ·refine AWp.seq ?_
   refine AWp.start [0, 1] [2, 3, 4, 5, 6, 7] [] [0, 8, 9] 0 ⟨[(0, .tv (.sc (.slice none 0 0))), (8, tI v1), (9, .tv (.sc (.slice none 0 0)))], []⟩ rfl ?_ z0 trivial ?_
   ·kernel_rfl
   refine AOps.cons (AOne.grow (F := (FF 27 0)) [] _ rfl rfl rfl rfl trivial) ?_
   refine AOps.go [3, 4, 5, 6, 7] [] [] [0, 1] 0 ⟨[(0, .tv (.sc (.slice none 0 0))), (1, tI (w64 (v1 - (w64 ((0 : Int) - (0 : Int))))))], []⟩ ?_ z0 trivial ?_
   ·kernel_rfl
   refine AOps.nil ?_
   refine AWp.seq ?_
   refine AWp.start [0, 1] [] [] [0, 1, 16] 0 ⟨[(0, .tv (.sc (.slice none 0 0))), (1, tI (w64 (v1 - (w64 ((0 : Int) - (0 : Int)))))), (16, tB (decide (w64 (v1 - (w64 ((0 : Int) - (0 : Int)))) > (0 : Int))))], []⟩ rfl ?_ z0 trivial ?_
   ·kernel_rfl
   refine AOps.nil ?_
   refine AWp.cond rfl (fun hb => ?_) fun hb => ?_
   ·replace h := of_true h hb
    refine AWp.keepTo [0, 1] 0 ⟨[(0, .tv (.sc (.slice none 0 0))), (1, tI (w64 (v1 - (w64 ((0 : Int) - (0 : Int))))))], []⟩ ?_ z0 ?_
    ·kernel_rfl
    refine AWp.start [0, 1] [2, 3, 4, 5, 6, 7, 8, 9] [] [0, 1, 17, 18] 0 ⟨[(0, .tv (.sc (.slice none 0 0))), (1, tI (w64 (v1 - (w64 ((0 : Int) - (0 : Int)))))), (17, .tv (.sc (.slice none 0 0))), (18, .tv (.sc (.slice none 0 0)))], []⟩ rfl ?_ z0 trivial ?_
    ·kernel_rfl
    refine AOps.cons (AOne.grow (F := (FF 27 0)) [] _ rfl rfl rfl rfl trivial) ?_
    refine AOps.cons (AOne.grow (F := (FF 27 0)) [(0 : Int) = (0 : Int)] _ rfl rfl rfl rfl rfl) ?_
    refine AOps.go [4] [5, 6, 7, 8, 9] [] [0, 20, 21] 0 ⟨[(0, .tv (.sc (.slice none 0 0))), (20, .tv (.sc (.slice none 0 0))), (21, tI (w64 (v1 - (w64 ((0 : Int) - (0 : Int))))))], []⟩ ?_ z0 trivial ?_
    ·kernel_rfl
    obtain ⟨hg, h⟩ := of_guard h
    refine AOps.cons (AOne.grow (F := (FF 27 0)) [(0 : Int) ≤ w64 (v1 - (w64 ((0 : Int) - (0 : Int)))), (Int.toNat (w64 (v1 - (w64 ((0 : Int) - (0 : Int)))))) * 16 ≤ 140737488355328] _ rfl rfl rfl rfl ⟨hg.1, hg.2⟩) ?_
    refine AOps.keepTo [0, 22] 0 ⟨[(0, .tv (.sc (.slice none 0 0))), (22, .tv (.own 1 9 (Int.toNat (w64 (v1 - (w64 ((0 : Int) - (0 : Int)))))) (zerosF [.str ([] : List UInt8)])))], []⟩ ?_ z0 ?_
    ·kernel_rfl
    refine AOps.extL 22 cStr (List.replicate (Int.toNat (w64 (v1 - (w64 ((0 : Int) - (0 : Int)))))) ([] : List UInt8)) rfl (by simp) (zero_at cStr _ ([] : List UInt8) rfl _) ?_
    refine AOps.go [6, 7] [8, 9] [] [22, 24] 0 ⟨[(22, .tv (ownL 1 9 cStr (List.replicate (Int.toNat (w64 (v1 - (w64 ((0 : Int) - (0 : Int)))))) ([] : List UInt8)))), (24, tI (0 : Int))], []⟩ ?_ z0 trivial ?_
    ·kernel_rfl
    refine AOps.cons (AOne.grow (F := (FF 27 0)) [(0 : Int) ≤ (0 : Int), (0 : Int) ≤ ((List.replicate (Int.toNat (w64 (v1 - (w64 ((0 : Int) - (0 : Int)))))) ([] : List UInt8)).length : Int)] _ rfl rfl rfl rfl ⟨(by decide : (0 : Int) ≤ (0 : Int)), (Int.natCast_nonneg ((List.replicate (Int.toNat (w64 (v1 - (w64 ((0 : Int) - (0 : Int)))))) ([] : List UInt8)).length))⟩) ?_
    refine AOps.keepTo [25] 0 ⟨[(25, .tv (.own 1 9 0 (fun i => cStr ((List.replicate (Int.toNat (w64 (v1 - (w64 ((0 : Int) - (0 : Int)))))) ([] : List UInt8)).getD i default))))], []⟩ ?_ z0 ?_
    ·kernel_rfl
    have HB : 0 ≤ (List.replicate (Int.toNat (w64 (v1 - (w64 ((0 : Int) - (0 : Int)))))) ([] : List UInt8)).length := by have hh : (0 : Int) ≤ ((List.replicate (Int.toNat (w64 (v1 - (w64 ((0 : Int) - (0 : Int)))))) ([] : List UInt8)).length : Int) := (Int.natCast_nonneg ((List.replicate (Int.toNat (w64 (v1 - (w64 ((0 : Int) - (0 : Int)))))) ([] : List UInt8)).length)); omega
    refine AOps.extL 25 cStr ((List.replicate (Int.toNat (w64 (v1 - (w64 ((0 : Int) - (0 : Int)))))) ([] : List UInt8)).take 0) rfl (take_len _ _ HB) (take_at cStr (List.replicate (Int.toNat (w64 (v1 - (w64 ((0 : Int) - (0 : Int)))))) ([] : List UInt8)) _ HB) ?_
    refine AOps.go [9] [] [] [0] 0 ⟨[(0, .tv (ownL 1 9 cStr ((List.replicate (Int.toNat (w64 (v1 - (w64 ((0 : Int) - (0 : Int)))))) ([] : List UInt8)).take 0)))], []⟩ ?_ z0 trivial ?_
    ·kernel_rfl
    refine AOps.nil ?_
    exact ⟨(List.replicate (Int.toNat (w64 (v1 - (w64 ((0 : Int) - (0 : Int)))))) ([] : List UInt8)).take 0, h, rfl⟩
   ·replace h := of_false h hb
    refine AWp.keepTo [0] 0 ⟨[(0, .tv (.sc (.slice none 0 0)))], []⟩ ?_ z0 ?_
    ·kernel_rfl
    refine AWp.nilOwn 0 1 9 (fun i => cStr (([] : List (List UInt8)).getD i default)) rfl ?_
    refine AWp.keepTo [0] 0 ⟨[(0, .tv (ownL 1 9 cStr ([] : List (List UInt8))))], []⟩ ?_ z0 ?_
    ·kernel_rfl
    refine AWp.skip ?_
    exact ⟨[], h, rfl⟩
  ·rintro v2 h
   refine AWp.seq ?_
   refine AWp.start [0, 1] [] [] [0, 4] 0 ⟨[(0, .tv (ownL 1 9 cStr v2)), (4, .al (.slot 0 0, []))], []⟩ rfl ?_ z0 trivial ?_
   ·kernel_rfl
   refine AOps.nil ?_
   refine AWp.claim 4 (.slot 0 0) (ownL 1 9 cStr v2) rfl rfl rfl rfl ?_
   refine AWp.keepTo [4] 0 ⟨[(4, .tv (ownL 1 9 cStr v2))], []⟩ ?_ z0 ?_
   ·kernel_rfl
   refine AWp.ret ?_
   cases h
   exact ⟨.inr rfl, rfl⟩

noncomputable def f48_b1 (v1 : List (List (List UInt8))) (v2 : Int) (v3 : Int) : Option ((Int × Int) ⊕ Out (List (List UInt8)) Int) :=
 cond (decide (v3 < (v1.length : Int))) (if (0 : Int) ≤ v3 ∧ v3 < (v1.length : Int) then cond (decide (w64 (v2 + ((v1.getD v3.toNat default).length : Int)) < (0 : Int))) none (some (.inl (w64 (v2 + ((v1.getD v3.toNat default).length : Int)), w64 (v3 + (1 : Int))))) else none) (some (.inr (.go v2)))

noncomputable def f48_b2 (v1 : List (List (List UInt8))) (v7 : List (List UInt8)) (v8 : Int) : Option (((List (List UInt8)) × Int) ⊕ Out (List (List UInt8)) (List (List UInt8))) :=
 cond (decide (v8 < (v1.length : Int))) (if (0 : Int) ≤ v8 ∧ v8 < (v1.length : Int) then if (v7.length + (v1.getD v8.toNat default).length) * 16 ≤ 140737488355328 then some (.inl (v7 ++ (v1.getD v8.toNat default), w64 (v8 + (1 : Int)))) else none else none) (some (.inr (.go v7)))

noncomputable def f48 (v1 : List (List (List UInt8))) : Option (List (List UInt8)) :=
 (iter (fun s => f48_b1 v1 s.1 s.2) ((0 : Int), (0 : Int))).bind fun y => match y with | .ret v5 => some v5 | .go v4 => (f56_e v4).bind fun v6 => (iter (fun s => f48_b2 v1 s.1 s.2) (v6, (0 : Int))).bind fun y => match y with | .ret v10 => some v10 | .go v9 => some v9

theorem f48_ok (v1 : List (List (List UInt8))) {r : (List (List UInt8))} (h : f48 v1 = some r) : ACall Try.prog 48 [.tv (fzL 1 (cSl 1 cStr) v1)] [] (.tv (ownL 1 9 cStr r)) [] := by
 refine ACall.of1 (FF 36 0) Try.func48 rfl Try.ntmps48 Try.results48 (Nat.le_of_ble_eq_true rfl) rfl rfl ?_
 refine AWp.seq ?_
 refine AWp.start [0] [] [] [0] 0 ⟨[(0, .tv (fzL 1 (cSl 1 cStr) v1))], []⟩ rfl ?_ z0 trivial ?_
 ·kernel_rfl
 refine AOps.nil ?_
 refine AWp.seq ?_
 refine AWp.start [0] [] [] [0, 3] 0 ⟨[(0, .tv (fzL 1 (cSl 1 cStr) v1)), (3, tI (0 : Int))], []⟩ rfl ?_ z0 trivial ?_
 ·kernel_rfl
 refine AOps.nil ?_
 refine AWp.seq ?_
 refine AWp.seq ?_
 refine AWp.start [0, 1, 2] [] [] [0, 3, 9, 10, 11] 0 ⟨[(0, .tv (fzL 1 (cSl 1 cStr) v1)), (3, tI (0 : Int)), (9, .tv (fzL 1 (cSl 1 cStr) v1)), (10, tI (v1.length : Int)), (11, tI (0 : Int))], []⟩ rfl ?_ z0 trivial ?_
 ·kernel_rfl
 refine AOps.nil ?_
 refine AWp.block ?_
 obtain ⟨y, hy, h⟩ := of_bind h
 refine AWp.mono (AWp.loop (S := Int × Int) (Y := Out (List (List UInt8)) Int) (fun s => ⟨[(0, .tv (fzL 1 (cSl 1 cStr) v1)), (3, tI s.1), (9, .tv (fzL 1 (cSl 1 cStr) v1)), (10, tI (v1.length : Int)), (11, tI s.2)], []⟩) (fun s => f48_b1 v1 s.1 s.2) (fun y e σ => match y with | .ret r => e = .ret ∧ σ = ⟨[(2, .tv (ownL 1 9 cStr r))], []⟩ | .go v => e = .exit 0 ∧ σ = ⟨[(0, .tv (fzL 1 (cSl 1 cStr) v1)), (3, tI v)], []⟩) ?_ hy) ?_
 ·rintro ⟨v2, v3⟩ o h
  refine AWp.seq ?_
  refine AWp.start [0] [] [] [0, 3, 9, 10, 11, 12] 0 ⟨[(0, .tv (fzL 1 (cSl 1 cStr) v1)), (3, tI v2), (9, .tv (fzL 1 (cSl 1 cStr) v1)), (10, tI (v1.length : Int)), (11, tI v3), (12, tB (decide (v3 < (v1.length : Int))))], []⟩ rfl ?_ z0 trivial ?_
  ·kernel_rfl
  refine AOps.nil ?_
  refine AWp.seq ?_
  refine AWp.cond rfl (fun hb => ?_) fun hb => ?_
  ·replace h := of_true h hb
   refine AWp.keepTo [0, 3, 9, 10, 11] 0 ⟨[(0, .tv (fzL 1 (cSl 1 cStr) v1)), (3, tI v2), (9, .tv (fzL 1 (cSl 1 cStr) v1)), (10, tI (v1.length : Int)), (11, tI v3)], []⟩ ?_ z0 ?_
   ·kernel_rfl
   refine AWp.skip ?_
   refine AWp.seq ?_
   refine AWp.block ?_
   refine AWp.seq ?_
   obtain ⟨hg, h⟩ := of_guard h
   refine AWp.start [0, 1, 2] [] [(0 : Int) ≤ v3, v3 < (v1.length : Int)] [0, 3, 5, 9, 10, 11] 0 ⟨[(0, .tv (fzL 1 (cSl 1 cStr) v1)), (3, tI v2), (5, q3 (gD v1 v3)), (9, .tv (fzL 1 (cSl 1 cStr) v1)), (10, tI (v1.length : Int)), (11, tI v3)], []⟩ rfl ?_ z0 ⟨hg.1, hg.2⟩ ?_
   ·kernel_rfl
   refine AOps.nil ?_
   refine AWp.seq ?_
   refine AWp.start [0, 1, 2, 3, 4] [] [] [0, 3, 9, 10, 11] 0 ⟨[(0, .tv (fzL 1 (cSl 1 cStr) v1)), (3, tI (w64 (v2 + ((gD v1 v3).length : Int)))), (9, .tv (fzL 1 (cSl 1 cStr) v1)), (10, tI (v1.length : Int)), (11, tI v3)], []⟩ rfl ?_ z0 trivial ?_
   ·kernel_rfl
   refine AOps.nil ?_
   refine AWp.seq ?_
   refine AWp.start [0, 1] [] [] [0, 3, 9, 10, 11, 20] 0 ⟨[(0, .tv (fzL 1 (cSl 1 cStr) v1)), (3, tI (w64 (v2 + ((gD v1 v3).length : Int)))), (9, .tv (fzL 1 (cSl 1 cStr) v1)), (10, tI (v1.length : Int)), (11, tI v3), (20, tB (decide (w64 (v2 + ((gD v1 v3).length : Int)) < (0 : Int))))], []⟩ rfl ?_ z0 trivial ?_
   ·kernel_rfl
   refine AOps.nil ?_
   refine AWp.cond rfl (fun hb => ?_) fun hb => ?_
   ·replace h := of_true h hb
    refine AWp.keepTo [0, 3, 9, 10, 11] 0 ⟨[(0, .tv (fzL 1 (cSl 1 cStr) v1)), (3, tI (w64 (v2 + ((gD v1 v3).length : Int)))), (9, .tv (fzL 1 (cSl 1 cStr) v1)), (10, tI (v1.length : Int)), (11, tI v3)], []⟩ ?_ z0 ?_
    ·kernel_rfl
    cases h
   ·replace h := of_false h hb
    refine AWp.keepTo [0, 3, 9, 10, 11] 0 ⟨[(0, .tv (fzL 1 (cSl 1 cStr) v1)), (3, tI (w64 (v2 + ((gD v1 v3).length : Int)))), (9, .tv (fzL 1 (cSl 1 cStr) v1)), (10, tI (v1.length : Int)), (11, tI v3)], []⟩ ?_ z0 ?_
    ·kernel_rfl
    refine AWp.skip ?_
    refine AWp.start [0, 1] [] [] [0, 3, 9, 10, 11] 0 ⟨[(0, .tv (fzL 1 (cSl 1 cStr) v1)), (3, tI (w64 (v2 + ((gD v1 v3).length : Int)))), (9, .tv (fzL 1 (cSl 1 cStr) v1)), (10, tI (v1.length : Int)), (11, tI (w64 (v3 + (1 : Int))))], []⟩ rfl ?_ z0 trivial ?_
    ·kernel_rfl
    refine AOps.nil ?_
    cases h
    exact Or.inl ⟨_, rfl, rfl, rfl⟩
  ·replace h := of_false h hb
   refine AWp.keepTo [0, 3] 0 ⟨[(0, .tv (fzL 1 (cSl 1 cStr) v1)), (3, tI v2)], []⟩ ?_ z0 ?_
   ·kernel_rfl
   refine AWp.exit ?_
   cases h
   exact Or.inr ⟨_, rfl, by simp, rfl, rfl⟩
 ·intro e σ hp
  rcases y with v5 | v4
  ·obtain ⟨rfl, rfl⟩ := hp
   cases h
   exact ⟨.inr rfl, rfl⟩
  ·obtain ⟨rfl, rfl⟩ := hp
   refine AWp.seq ?_
   refine AWp.start [0] [1, 2] [] [0, 23] 0 ⟨[(0, .tv (fzL 1 (cSl 1 cStr) v1)), (23, tI v4)], []⟩ rfl ?_ z0 trivial ?_
   ·kernel_rfl
   obtain ⟨v6, hv6, h⟩ := of_bind h
   refine AOps.cons (AOne.callP (F := (FF 36 0)) _ rfl rfl rfl _ rfl rfl _ _ rfl Try.call56 [.tv (.sc (.slice none 0 0)), tI v4] rfl rfl (f56_e_ok v4 hv6) rfl) ?_
   refine AOps.go [2] [] [] [0, 6] 0 ⟨[(0, .tv (fzL 1 (cSl 1 cStr) v1)), (6, .tv (ownL 1 9 cStr v6))], []⟩ ?_ z0 trivial ?_
   ·kernel_rfl
   refine AOps.nil ?_
   refine AWp.seq ?_
   refine AWp.seq ?_
   refine AWp.start [0, 1, 2] [] [] [6, 25, 26, 27] 0 ⟨[(6, .tv (ownL 1 9 cStr v6)), (25, .tv (fzL 1 (cSl 1 cStr) v1)), (26, tI (v1.length : Int)), (27, tI (0 : Int))], []⟩ rfl ?_ z0 trivial ?_
   ·kernel_rfl
   refine AOps.nil ?_
   refine AWp.block ?_
   obtain ⟨y, hy, h⟩ := of_bind h
   refine AWp.mono (AWp.loop (S := (List (List UInt8)) × Int) (Y := Out (List (List UInt8)) (List (List UInt8))) (fun s => ⟨[(6, .tv (ownL 1 9 cStr s.1)), (25, .tv (fzL 1 (cSl 1 cStr) v1)), (26, tI (v1.length : Int)), (27, tI s.2)], []⟩) (fun s => f48_b2 v1 s.1 s.2) (fun y e σ => match y with | .ret r => e = .ret ∧ σ = ⟨[(2, .tv (ownL 1 9 cStr r))], []⟩ | .go v => e = .exit 2 ∧ σ = ⟨[(6, .tv (ownL 1 9 cStr v))], []⟩) ?_ hy) ?_
   ·rintro ⟨v7, v8⟩ o h
    refine AWp.seq ?_
    refine AWp.start [0] [] [] [6, 25, 26, 27, 28] 0 ⟨[(6, .tv (ownL 1 9 cStr v7)), (25, .tv (fzL 1 (cSl 1 cStr) v1)), (26, tI (v1.length : Int)), (27, tI v8), (28, tB (decide (v8 < (v1.length : Int))))], []⟩ rfl ?_ z0 trivial ?_
    ·kernel_rfl
    refine AOps.nil ?_
    refine AWp.seq ?_
    refine AWp.cond rfl (fun hb => ?_) fun hb => ?_
    ·replace h := of_true h hb
     refine AWp.keepTo [6, 25, 26, 27] 0 ⟨[(6, .tv (ownL 1 9 cStr v7)), (25, .tv (fzL 1 (cSl 1 cStr) v1)), (26, tI (v1.length : Int)), (27, tI v8)], []⟩ ?_ z0 ?_
     ·kernel_rfl
     refine AWp.skip ?_
     refine AWp.seq ?_
     refine AWp.block ?_
     refine AWp.seq ?_
     obtain ⟨hg, h⟩ := of_guard h
     refine AWp.start [0, 1, 2] [] [(0 : Int) ≤ v8, v8 < (v1.length : Int)] [6, 8, 25, 26, 27] 0 ⟨[(6, .tv (ownL 1 9 cStr v7)), (8, q3 (gD v1 v8)), (25, .tv (fzL 1 (cSl 1 cStr) v1)), (26, tI (v1.length : Int)), (27, tI v8)], []⟩ rfl ?_ z0 ⟨hg.1, hg.2⟩ ?_
     ·kernel_rfl
     refine AOps.nil ?_
     obtain ⟨hg, h⟩ := of_guard h
     refine AWp.start [0, 1, 2] [3] [(v7.length + (gD v1 v8).length) * 16 ≤ 140737488355328, PlainTo v7.length (fun i => cStr (v7.getD i default)), PlainTo ((gD v1 v8).length) (fun i => cStr ((gD v1 v8).getD i default))] [25, 26, 27, 33] 0 ⟨[(25, .tv (fzL 1 (cSl 1 cStr) v1)), (26, tI (v1.length : Int)), (27, tI v8), (33, .tv (.own 1 9 (v7.length + (gD v1 v8).length) (appF v7.length (fun i => cStr (v7.getD i default)) (fun i => cStr ((gD v1 v8).getD i default)))))], []⟩ rfl ?_ z0 ⟨hg, (fun _ _ => rfl), (fun _ _ => rfl)⟩ ?_
     ·kernel_rfl
     refine AOps.extL 33 cStr (v7 ++ (gD v1 v8)) rfl List.length_append.symm (app_at cStr v7 (gD v1 v8)) ?_
     refine AOps.go [3] [] [] [6, 25, 26, 27] 0 ⟨[(6, .tv (ownL 1 9 cStr (v7 ++ (gD v1 v8)))), (25, .tv (fzL 1 (cSl 1 cStr) v1)), (26, tI (v1.length : Int)), (27, tI v8)], []⟩ ?_ z0 trivial ?_
     ·kernel_rfl
     refine AOps.nil ?_
     refine AWp.start [0, 1] [] [] [6, 25, 26, 27] 0 ⟨[(6, .tv (ownL 1 9 cStr (v7 ++ (gD v1 v8)))), (25, .tv (fzL 1 (cSl 1 cStr) v1)), (26, tI (v1.length : Int)), (27, tI (w64 (v8 + (1 : Int))))], []⟩ rfl ?_ z0 trivial ?_
     ·kernel_rfl
     refine AOps.nil ?_
     cases h
     exact Or.inl ⟨_, rfl, rfl, rfl⟩
    ·replace h := of_false h hb
     refine AWp.keepTo [6] 0 ⟨[(6, .tv (ownL 1 9 cStr v7))], []⟩ ?_ z0 ?_
     ·kernel_rfl
     refine AWp.exit ?_
     cases h
     exact Or.inr ⟨_, rfl, by simp, rfl, rfl⟩
   ·intro e σ hp
    rcases y with v10 | v9
    ·obtain ⟨rfl, rfl⟩ := hp
     cases h
     exact ⟨.inr rfl, rfl⟩
    ·obtain ⟨rfl, rfl⟩ := hp
     refine AWp.seq ?_
     refine AWp.start [0, 1] [] [] [2, 6] 0 ⟨[(2, .al (.slot 6 0, [])), (6, .tv (ownL 1 9 cStr v9))], []⟩ rfl ?_ z0 trivial ?_
     ·kernel_rfl
     refine AOps.nil ?_
     refine AWp.claim 2 (.slot 6 0) (ownL 1 9 cStr v9) rfl rfl rfl rfl ?_
     refine AWp.keepTo [2] 0 ⟨[(2, .tv (ownL 1 9 cStr v9))], []⟩ ?_ z0 ?_
     ·kernel_rfl
     refine AWp.ret ?_
     cases h
     exact ⟨.inr rfl, rfl⟩

noncomputable def f57_b1 (v1 : List (List UInt8)) (v2 : List UInt8) (v3 : Int) : Option (Int ⊕ Out Int Unit) :=
 cond (decide (v3 < (v1.length : Int))) (if (0 : Int) ≤ v3 ∧ v3 < (v1.length : Int) then cond (v2 == (v1.getD v3.toNat default)) (some (.inr (.ret v3))) (some (.inl (w64 (v3 + (1 : Int))))) else none) (some (.inr (.go ())))

noncomputable def f57 (v1 : List (List UInt8)) (v2 : List UInt8) : Option Int :=
 (iter (fun s => f57_b1 v1 v2 s) (0 : Int)).bind fun y => match y with | .ret v4 => some v4 | .go _ => some (-1 : Int)

theorem f57_ok (v1 : List (List UInt8)) (v2 : List UInt8) {r : Int} (h : f57 v1 v2 = some r) : ACall Try.prog 57 [.tv (fzL 1 cStr v1), .tv (.str v2)] [] (.tv (.int .i64 r)) [] := by
 refine ACall.of1 (FF 19 0) Try.func57 rfl Try.ntmps57 Try.results57 (Nat.le_of_ble_eq_true rfl) rfl rfl ?_
 refine AWp.seq ?_
 refine AWp.start [0] [] [] [0, 1] 0 ⟨[(0, q3 v1), (1, tS v2)], []⟩ rfl ?_ z0 trivial ?_
 ·kernel_rfl
 refine AOps.nil ?_
 refine AWp.seq ?_
 refine AWp.seq ?_
 refine AWp.start [0, 1, 2] [] [] [0, 1, 7, 8] 0 ⟨[(0, q3 v1), (1, tS v2), (7, tI (v1.length : Int)), (8, tI (0 : Int))], []⟩ rfl ?_ z0 trivial ?_
 ·kernel_rfl
 refine AOps.nil ?_
 refine AWp.block ?_
 obtain ⟨y, hy, h⟩ := of_bind h
 refine AWp.mono (AWp.loop (S := Int) (Y := Out Int Unit) (fun s => ⟨[(0, q3 v1), (1, tS v2), (7, tI (v1.length : Int)), (8, tI s)], []⟩) (fun s => f57_b1 v1 v2 s) (fun y e σ => match y with | .ret r => e = .ret ∧ σ = ⟨[(4, tI r)], []⟩ | .go v => e = .exit 0 ∧ σ = ⟨[], []⟩) ?_ hy) ?_
 ·rintro v3 o h
  refine AWp.seq ?_
  refine AWp.start [0] [] [] [0, 1, 7, 8, 9] 0 ⟨[(0, q3 v1), (1, tS v2), (7, tI (v1.length : Int)), (8, tI v3), (9, tB (decide (v3 < (v1.length : Int))))], []⟩ rfl ?_ z0 trivial ?_
  ·kernel_rfl
  refine AOps.nil ?_
  refine AWp.seq ?_
  refine AWp.cond rfl (fun hb => ?_) fun hb => ?_
  ·replace h := of_true h hb
   refine AWp.keepTo [0, 1, 7, 8] 0 ⟨[(0, q3 v1), (1, tS v2), (7, tI (v1.length : Int)), (8, tI v3)], []⟩ ?_ z0 ?_
   ·kernel_rfl
   refine AWp.skip ?_
   refine AWp.seq ?_
   refine AWp.block ?_
   refine AWp.seq ?_
   refine AWp.start [0, 1] [] [] [0, 1, 5, 7, 8] 0 ⟨[(0, q3 v1), (1, tS v2), (5, tI v3), (7, tI (v1.length : Int)), (8, tI v3)], []⟩ rfl ?_ z0 trivial ?_
   ·kernel_rfl
   refine AOps.nil ?_
   refine AWp.seq ?_
   obtain ⟨hg, h⟩ := of_guard h
   refine AWp.start [0, 1, 2, 3, 4, 5] [] [(0 : Int) ≤ v3, v3 < (v1.length : Int)] [0, 1, 5, 7, 8, 16] 0 ⟨[(0, q3 v1), (1, tS v2), (5, tI v3), (7, tI (v1.length : Int)), (8, tI v3), (16, tB (v2 == (gD v1 v3)))], []⟩ rfl ?_ z0 ⟨hg.1, hg.2⟩ ?_
   ·kernel_rfl
   refine AOps.nil ?_
   refine AWp.cond rfl (fun hb => ?_) fun hb => ?_
   ·replace h := of_true h hb
    refine AWp.keepTo [5] 0 ⟨[(5, tI v3)], []⟩ ?_ z0 ?_
    ·kernel_rfl
    refine AWp.seq ?_
    refine AWp.start [0, 1] [] [] [4] 0 ⟨[(4, tI v3)], []⟩ rfl ?_ z0 trivial ?_
    ·kernel_rfl
    refine AOps.nil ?_
    refine AWp.ret ?_
    cases h
    exact Or.inr ⟨_, rfl, by simp, rfl, rfl⟩
   ·replace h := of_false h hb
    refine AWp.keepTo [0, 1, 7, 8] 0 ⟨[(0, q3 v1), (1, tS v2), (7, tI (v1.length : Int)), (8, tI v3)], []⟩ ?_ z0 ?_
    ·kernel_rfl
    refine AWp.skip ?_
    refine AWp.start [0, 1] [] [] [0, 1, 7, 8] 0 ⟨[(0, q3 v1), (1, tS v2), (7, tI (v1.length : Int)), (8, tI (w64 (v3 + (1 : Int))))], []⟩ rfl ?_ z0 trivial ?_
    ·kernel_rfl
    refine AOps.nil ?_
    cases h
    exact Or.inl ⟨_, rfl, rfl, rfl⟩
  ·replace h := of_false h hb
   refine AWp.keepTo [] 0 ⟨[], []⟩ ?_ z0 ?_
   ·kernel_rfl
   refine AWp.exit ?_
   cases h
   exact Or.inr ⟨_, rfl, by simp, rfl, rfl⟩
 ·intro e σ hp
  rcases y with v4 | _
  ·obtain ⟨rfl, rfl⟩ := hp
   cases h
   exact ⟨.inr rfl, rfl⟩
  ·obtain ⟨rfl, rfl⟩ := hp
   refine AWp.seq ?_
   refine AWp.start [0] [] [] [4] 0 ⟨[(4, tI (-1 : Int))], []⟩ rfl ?_ z0 trivial ?_
   ·kernel_rfl
   refine AOps.nil ?_
   refine AWp.ret ?_
   cases h
   exact ⟨.inr rfl, rfl⟩

noncomputable def f49 (v1 : List (List UInt8)) (v2 : List UInt8) : Option Bool :=
 (f57 v1 v2).bind fun v3 => some (decide (v3 ≥ (0 : Int)))

theorem f49_ok (v1 : List (List UInt8)) (v2 : List UInt8) {r : Bool} (h : f49 v1 v2 = some r) : ACall Try.prog 49 [.tv (fzL 1 cStr v1), .tv (.str v2)] [] (.tv (.bool r)) [] := by
 refine ACall.of1 (FF 9 0) Try.func49 rfl Try.ntmps49 Try.results49 (Nat.le_of_ble_eq_true rfl) rfl rfl ?_
 refine AWp.seq ?_
 refine AWp.start [0] [] [] [0, 1] 0 ⟨[(0, q3 v1), (1, tS v2)], []⟩ rfl ?_ z0 trivial ?_
 ·kernel_rfl
 refine AOps.nil ?_
 refine AWp.seq ?_
 refine AWp.start [0, 1] [2, 3, 4] [] [5, 6] 0 ⟨[(5, q3 v1), (6, tS v2)], []⟩ rfl ?_ z0 trivial ?_
 ·kernel_rfl
 obtain ⟨v3, hv3, h⟩ := of_bind h
 refine AOps.cons (AOne.callP (F := (FF 9 0)) _ rfl rfl rfl _ rfl rfl _ _ rfl Try.call57 [q3 v1, tS v2] rfl rfl (f57_ok v1 v2 hv3) rfl) ?_
 refine AOps.go [3, 4] [] [] [4] 0 ⟨[(4, tB (decide (v3 ≥ (0 : Int))))], []⟩ ?_ z0 trivial ?_
 ·kernel_rfl
 refine AOps.nil ?_
 refine AWp.ret ?_
 cases h
 exact ⟨.inr rfl, rfl⟩

noncomputable def f35_b1 (v2 : List (List T34)) (v9 : Int) : Option (Int ⊕ Out ((List UInt8) × Int) Unit) :=
 cond (decide (v9 < (v2.length : Int))) (if (0 : Int) ≤ v9 ∧ v9 < (v2.length : Int) then (f47 ((v2.getD v9.toNat default).length : Int)).bind fun v10 => cond v10 (some (.inr (.ret (([] : List UInt8), (2 : Int))))) (some (.inl (w64 (v9 + (1 : Int))))) else none) (some (.inr (.go ())))

noncomputable def f35_b2 (v3 : List (List (List UInt8))) (v12 : Int) : Option (Int ⊕ Out ((List UInt8) × Int) Unit) :=
 cond (decide (v12 < (v3.length : Int))) (if (0 : Int) ≤ v12 ∧ v12 < (v3.length : Int) then (f47 ((v3.getD v12.toNat default).length : Int)).bind fun v13 => cond v13 (some (.inr (.ret (([] : List UInt8), (2 : Int))))) (some (.inl (w64 (v12 + (1 : Int))))) else none) (some (.inr (.go ())))

noncomputable def f35_b3 (v1 : List T36) (v2 : List (List T34)) (v15 : Int) (v16 : Int) : Option (Int ⊕ Out ((List UInt8) × Int) Unit) :=
 cond (decide (v16 < ((v2.getD v15.toNat default).length : Int))) (if (0 : Int) ≤ v16 ∧ v16 < ((v2.getD v15.toNat default).length : Int) then (f30 v1 ((v2.getD v15.toNat default).getD v16.toNat default)).bind fun v17 => cond (!v17) (some (.inr (.ret (((v2.getD v15.toNat default).getD v16.toNat default).f0, (5 : Int))))) (some (.inl (w64 (v16 + (1 : Int))))) else none) (some (.inr (.go ())))

noncomputable def f35_b4 (v1 : List T36) (v2 : List (List T34)) (v15 : Int) : Option (Int ⊕ Out ((List UInt8) × Int) Unit) :=
 cond (decide (v15 < (v2.length : Int))) (if (0 : Int) ≤ v15 ∧ v15 < (v2.length : Int) then (iter (fun s => f35_b3 v1 v2 v15 s) (0 : Int)).bind fun y => match y with | .ret v18 => some (.inr (.ret (v18.1, v18.2))) | .go _ => some (.inl (w64 (v15 + (1 : Int)))) else none) (some (.inr (.go ())))

noncomputable def f35_b5 (v1 : List T36) (v20 : (List (List UInt8))) (v21 : Int) : Option (Int ⊕ Out ((List UInt8) × Int) Unit) :=
 cond (decide (v21 < (v20.length : Int))) (if (0 : Int) ≤ v21 ∧ v21 < (v20.length : Int) then (f34 v1 (v20.getD v21.toNat default)).bind fun v22 => cond (decide (v22 < (0 : Int))) (some (.inr (.ret (v20.getD v21.toNat default, (5 : Int))))) (some (.inl (w64 (v21 + (1 : Int))))) else none) (some (.inr (.go ())))

noncomputable def f35_b6 (v24 : (List (List UInt8))) (v25 : List (List UInt8)) (v26 : Int) : Option (((List (List UInt8)) × Int) ⊕ Out ((List UInt8) × Int) Unit) :=
 cond (decide (v26 < (v24.length : Int))) (if (0 : Int) ≤ v26 ∧ v26 < (v24.length : Int) then (f49 v25 (v24.getD v26.toNat default)).bind fun v27 => cond v27 (some (.inr (.ret (v24.getD v26.toNat default, (8 : Int))))) (if (v25.length + [v24.getD v26.toNat default].length) * 16 ≤ 140737488355328 then some (.inl (v25 ++ [v24.getD v26.toNat default], w64 (v26 + (1 : Int)))) else none) else none) (some (.inr (.go ())))

noncomputable def f35 (v1 : List T36) (v2 : List (List T34)) (v3 : List (List (List UInt8))) : Option ((List UInt8) × Int) :=
 (f42 v1).bind fun v4 => (cond (!v4) (some true) ((f47 (v2.length : Int)).bind fun v6 => some v6)).bind fun v5 => (cond v5 (some true) ((f47 (v3.length : Int)).bind fun v8 => some v8)).bind fun v7 => cond v7 (some (([] : List UInt8), (2 : Int))) ((iter (fun s => f35_b1 v2 s) (0 : Int)).bind fun y => match y with | .ret v11 => some (v11.1, v11.2) | .go _ => (iter (fun s => f35_b2 v3 s) (0 : Int)).bind fun y => match y with | .ret v14 => some (v14.1, v14.2) | .go _ => (iter (fun s => f35_b4 v1 v2 s) (0 : Int)).bind fun y => match y with | .ret v19 => some (v19.1, v19.2) | .go _ => (f48 v3).bind fun v20 => (iter (fun s => f35_b5 v1 v20 s) (0 : Int)).bind fun y => match y with | .ret v23 => some (v23.1, v23.2) | .go _ => (f48 v3).bind fun v24 => (iter (fun s => f35_b6 v24 s.1 s.2) ([], (0 : Int))).bind fun y => match y with | .ret v28 => some (v28.1, v28.2) | .go _ => some (([] : List UInt8), (0 : Int)))

theorem f35_ok (v1 : List T36) (v2 : List (List T34)) (v3 : List (List (List UInt8))) {r : (List UInt8) × Int} (h : f35 v1 v2 v3 = some r) : ACall Try.prog 35 [.tv (fzL 3 c36 v1), .tv (fzL 1 (cSl 2 c34) v2), .tv (fzL 1 (cSl 1 cStr) v3)] [] (.tup [.tv (.str r.1), .tv (.int .i64 r.2)]) [] := by
 refine ACall.ofN (FF 108 0) (rs := [6, 7]) (env := [(6, tS r.1), (7, tI r.2)]) Try.func35 rfl Try.ntmps35 Try.results35 (by decide) (by decide) rfl (Nat.le_of_ble_eq_true rfl) rfl (get_ofN _ _ _ rfl) (ok_ofN _ rfl) ?_
 refine AWp.seq ?_
 refine AWp.start [0, 1] [] [] [0, 1, 2] 0 ⟨[(0, q0 v1), (1, .tv (fzL 1 (cSl 2 c34) v2)), (2, .tv (fzL 1 (cSl 1 cStr) v3))], []⟩ rfl ?_ z0 trivial ?_
 ·kernel_rfl
 refine AOps.nil ?_
 refine AWp.seq ?_
 refine AWp.start [0] [] [] [0, 1, 2, 8] 0 ⟨[(0, q0 v1), (1, .tv (fzL 1 (cSl 2 c34) v2)), (2, .tv (fzL 1 (cSl 1 cStr) v3)), (8, .fn 47 [])], []⟩ rfl ?_ z0 trivial ?_
 ·kernel_rfl
 refine AOps.nil ?_
 refine AWp.seq ?_
 refine AWp.seq ?_
 refine AWp.start [0] [1, 2, 3, 4, 5, 6, 7, 8, 9, 10, 11, 12, 13, 14] [] [0, 1, 2, 8, 22] 0 ⟨[(0, q0 v1), (1, .tv (fzL 1 (cSl 2 c34) v2)), (2, .tv (fzL 1 (cSl 1 cStr) v3)), (8, .fn 47 []), (22, q0 v1)], []⟩ rfl ?_ z0 trivial ?_
 ·kernel_rfl
 obtain ⟨v4, hv4, h⟩ := of_bind h
 refine AOps.cons (AOne.callP (F := (FF 108 0)) _ rfl rfl rfl _ rfl rfl _ _ rfl Try.call42 [q0 v1] rfl rfl (f42_ok v1 hv4) rfl) ?_
 refine AOps.go [2, 3] [4, 5, 6, 7, 8, 9, 10, 11, 12, 13, 14] [] [0, 1, 2, 8, 25] 0 ⟨[(0, q0 v1), (1, .tv (fzL 1 (cSl 2 c34) v2)), (2, .tv (fzL 1 (cSl 1 cStr) v3)), (8, .fn 47 []), (25, tB (!v4))], []⟩ ?_ z0 trivial ?_
 ·kernel_rfl
 obtain ⟨v5, hc4, h⟩ := of_bind h
 refine AOps.cut [4, 5, 6, 7, 8] [9, 10, 11, 12, 13, 14] (fun σ => σ = ⟨[(0, q0 v1), (1, .tv (fzL 1 (cSl 2 c34) v2)), (2, .tv (fzL 1 (cSl 1 cStr) v3)), (8, .fn 47 []), (30, tB v5)], []⟩) ?_ fun σ' hJ => ?_
 ·refine AOps.split (fun b => ⟨[(0, q0 v1), (1, .tv (fzL 1 (cSl 2 c34) v2)), (2, .tv (fzL 1 (cSl 1 cStr) v3)), (8, .fn 47 []), (25, tB b)], []⟩) _ (fun hb => ?_) fun hb => ?_
  ·replace hc4 := of_true hc4 hb
   refine AOps.go [4, 5, 6, 7, 8] [] [] [0, 1, 2, 8, 30] 0 ⟨[(0, q0 v1), (1, .tv (fzL 1 (cSl 2 c34) v2)), (2, .tv (fzL 1 (cSl 1 cStr) v3)), (8, .fn 47 []), (30, tB true)], []⟩ ?_ z0 trivial ?_
   ·kernel_rfl
   cases hc4
   exact AOps.nil rfl
  ·replace hc4 := of_false hc4 hb
   refine AOps.go [4, 5, 6] [7, 8] [] [0, 1, 2, 8, 25, 26, 28] 0 ⟨[(0, q0 v1), (1, .tv (fzL 1 (cSl 2 c34) v2)), (2, .tv (fzL 1 (cSl 1 cStr) v3)), (8, .fn 47 []), (25, tB false), (26, .fn 47 []), (28, tI (v2.length : Int))], []⟩ ?_ z0 trivial ?_
   ·kernel_rfl
   obtain ⟨v6, hv6, hc4⟩ := of_bind hc4
   refine AOps.cons (AOne.callP (F := (FF 108 0)) _ rfl rfl rfl _ rfl rfl _ _ rfl Try.call47 [tI (v2.length : Int)] rfl rfl (f47_ok (v2.length : Int) hv6) rfl) ?_
   refine AOps.go [8] [] [] [0, 1, 2, 8, 30] 0 ⟨[(0, q0 v1), (1, .tv (fzL 1 (cSl 2 c34) v2)), (2, .tv (fzL 1 (cSl 1 cStr) v3)), (8, .fn 47 []), (30, tB v6)], []⟩ ?_ z0 trivial ?_
   ·kernel_rfl
   cases hc4
   exact AOps.nil rfl
 subst hJ
 refine AOps.go [9] [10, 11, 12, 13, 14] [] [0, 1, 2, 8, 31] 0 ⟨[(0, q0 v1), (1, .tv (fzL 1 (cSl 2 c34) v2)), (2, .tv (fzL 1 (cSl 1 cStr) v3)), (8, .fn 47 []), (31, tB v5)], []⟩ ?_ z0 trivial ?_
 ·kernel_rfl
 obtain ⟨v7, hc10, h⟩ := of_bind h
 refine AOps.cut [10, 11, 12, 13, 14] [] (fun σ => σ = ⟨[(0, q0 v1), (1, .tv (fzL 1 (cSl 2 c34) v2)), (2, .tv (fzL 1 (cSl 1 cStr) v3)), (8, .fn 47 []), (36, tB v7)], []⟩) ?_ fun σ' hJ => ?_
 ·refine AOps.split (fun b => ⟨[(0, q0 v1), (1, .tv (fzL 1 (cSl 2 c34) v2)), (2, .tv (fzL 1 (cSl 1 cStr) v3)), (8, .fn 47 []), (31, tB b)], []⟩) _ (fun hb => ?_) fun hb => ?_
  ·replace hc10 := of_true hc10 hb
   refine AOps.go [10, 11, 12, 13, 14] [] [] [0, 1, 2, 8, 36] 0 ⟨[(0, q0 v1), (1, .tv (fzL 1 (cSl 2 c34) v2)), (2, .tv (fzL 1 (cSl 1 cStr) v3)), (8, .fn 47 []), (36, tB true)], []⟩ ?_ z0 trivial ?_
   ·kernel_rfl
   cases hc10
   exact AOps.nil rfl
  ·replace hc10 := of_false hc10 hb
   refine AOps.go [10, 11, 12] [13, 14] [] [0, 1, 2, 8, 31, 32, 34] 0 ⟨[(0, q0 v1), (1, .tv (fzL 1 (cSl 2 c34) v2)), (2, .tv (fzL 1 (cSl 1 cStr) v3)), (8, .fn 47 []), (31, tB false), (32, .fn 47 []), (34, tI (v3.length : Int))], []⟩ ?_ z0 trivial ?_
   ·kernel_rfl
   obtain ⟨v8, hv8, hc10⟩ := of_bind hc10
   refine AOps.cons (AOne.callP (F := (FF 108 0)) _ rfl rfl rfl _ rfl rfl _ _ rfl Try.call47 [tI (v3.length : Int)] rfl rfl (f47_ok (v3.length : Int) hv8) rfl) ?_
   refine AOps.go [14] [] [] [0, 1, 2, 8, 36] 0 ⟨[(0, q0 v1), (1, .tv (fzL 1 (cSl 2 c34) v2)), (2, .tv (fzL 1 (cSl 1 cStr) v3)), (8, .fn 47 []), (36, tB v8)], []⟩ ?_ z0 trivial ?_
   ·kernel_rfl
   cases hc10
   exact AOps.nil rfl
 subst hJ
 refine AOps.nil ?_
 refine AWp.cond rfl (fun hb => ?_) fun hb => ?_
 ·replace h := of_true h hb
  refine AWp.keepTo [] 0 ⟨[], []⟩ ?_ z0 ?_
  ·kernel_rfl
  refine AWp.seq ?_
  refine AWp.start [0, 1] [] [] [6, 7] 0 ⟨[(6, tS ([] : List UInt8)), (7, tI (2 : Int))], []⟩ rfl ?_ z0 trivial ?_
  ·kernel_rfl
  refine AOps.nil ?_
  refine AWp.ret ?_
  cases h
  exact ⟨.inr rfl, rfl⟩
 ·replace h := of_false h hb
  refine AWp.keepTo [0, 1, 2, 8] 0 ⟨[(0, q0 v1), (1, .tv (fzL 1 (cSl 2 c34) v2)), (2, .tv (fzL 1 (cSl 1 cStr) v3)), (8, .fn 47 [])], []⟩ ?_ z0 ?_
  ·kernel_rfl
  refine AWp.skip ?_
  refine AWp.seq ?_
  refine AWp.seq ?_
  refine AWp.start [0, 1, 2] [] [] [0, 1, 2, 8, 37, 38, 39] 0 ⟨[(0, q0 v1), (1, .tv (fzL 1 (cSl 2 c34) v2)), (2, .tv (fzL 1 (cSl 1 cStr) v3)), (8, .fn 47 []), (37, .tv (fzL 1 (cSl 2 c34) v2)), (38, tI (v2.length : Int)), (39, tI (0 : Int))], []⟩ rfl ?_ z0 trivial ?_
  ·kernel_rfl
  refine AOps.nil ?_
  refine AWp.block ?_
  obtain ⟨y, hy, h⟩ := of_bind h
  refine AWp.mono (AWp.loop (S := Int) (Y := Out ((List UInt8) × Int) Unit) (fun s => ⟨[(0, q0 v1), (1, .tv (fzL 1 (cSl 2 c34) v2)), (2, .tv (fzL 1 (cSl 1 cStr) v3)), (8, .fn 47 []), (37, .tv (fzL 1 (cSl 2 c34) v2)), (38, tI (v2.length : Int)), (39, tI s)], []⟩) (fun s => f35_b1 v2 s) (fun y e σ => match y with | .ret r => e = .ret ∧ σ = ⟨[(6, tS r.1), (7, tI r.2)], []⟩ | .go v => e = .exit 0 ∧ σ = ⟨[(0, q0 v1), (1, .tv (fzL 1 (cSl 2 c34) v2)), (2, .tv (fzL 1 (cSl 1 cStr) v3)), (8, .fn 47 [])], []⟩) ?_ hy) ?_
  ·rintro v9 o h
   refine AWp.seq ?_
   refine AWp.start [0] [] [] [0, 1, 2, 8, 37, 38, 39, 40] 0 ⟨[(0, q0 v1), (1, .tv (fzL 1 (cSl 2 c34) v2)), (2, .tv (fzL 1 (cSl 1 cStr) v3)), (8, .fn 47 []), (37, .tv (fzL 1 (cSl 2 c34) v2)), (38, tI (v2.length : Int)), (39, tI v9), (40, tB (decide (v9 < (v2.length : Int))))], []⟩ rfl ?_ z0 trivial ?_
   ·kernel_rfl
   refine AOps.nil ?_
   refine AWp.seq ?_
   refine AWp.cond rfl (fun hb => ?_) fun hb => ?_
   ·replace h := of_true h hb
    refine AWp.keepTo [0, 1, 2, 8, 37, 38, 39] 0 ⟨[(0, q0 v1), (1, .tv (fzL 1 (cSl 2 c34) v2)), (2, .tv (fzL 1 (cSl 1 cStr) v3)), (8, .fn 47 []), (37, .tv (fzL 1 (cSl 2 c34) v2)), (38, tI (v2.length : Int)), (39, tI v9)], []⟩ ?_ z0 ?_
    ·kernel_rfl
    refine AWp.skip ?_
    refine AWp.seq ?_
    refine AWp.block ?_
    refine AWp.seq ?_
    obtain ⟨hg, h⟩ := of_guard h
    refine AWp.start [0, 1, 2] [] [(0 : Int) ≤ v9, v9 < (v2.length : Int)] [0, 1, 2, 8, 10, 37, 38, 39] 0 ⟨[(0, q0 v1), (1, .tv (fzL 1 (cSl 2 c34) v2)), (2, .tv (fzL 1 (cSl 1 cStr) v3)), (8, .fn 47 []), (10, .tv (fzL 2 c34 (gD v2 v9))), (37, .tv (fzL 1 (cSl 2 c34) v2)), (38, tI (v2.length : Int)), (39, tI v9)], []⟩ rfl ?_ z0 ⟨hg.1, hg.2⟩ ?_
    ·kernel_rfl
    refine AOps.nil ?_
    refine AWp.seq ?_
    refine AWp.start [0, 1, 2] [3] [] [0, 1, 2, 8, 37, 38, 39, 43, 45] 0 ⟨[(0, q0 v1), (1, .tv (fzL 1 (cSl 2 c34) v2)), (2, .tv (fzL 1 (cSl 1 cStr) v3)), (8, .fn 47 []), (37, .tv (fzL 1 (cSl 2 c34) v2)), (38, tI (v2.length : Int)), (39, tI v9), (43, .fn 47 []), (45, tI ((gD v2 v9).length : Int))], []⟩ rfl ?_ z0 trivial ?_
    ·kernel_rfl
    obtain ⟨v10, hv10, h⟩ := of_bind h
    refine AOps.cons (AOne.callP (F := (FF 108 0)) _ rfl rfl rfl _ rfl rfl _ _ rfl Try.call47 [tI ((gD v2 v9).length : Int)] rfl rfl (f47_ok ((gD v2 v9).length : Int) hv10) rfl) ?_
    refine AOps.keepTo [0, 1, 2, 8, 37, 38, 39, 46] 0 ⟨[(0, q0 v1), (1, .tv (fzL 1 (cSl 2 c34) v2)), (2, .tv (fzL 1 (cSl 1 cStr) v3)), (8, .fn 47 []), (37, .tv (fzL 1 (cSl 2 c34) v2)), (38, tI (v2.length : Int)), (39, tI v9), (46, tB v10)], []⟩ ?_ z0 ?_
    ·kernel_rfl
    refine AOps.nil ?_
    refine AWp.cond rfl (fun hb => ?_) fun hb => ?_
    ·replace h := of_true h hb
     refine AWp.keepTo [] 0 ⟨[], []⟩ ?_ z0 ?_
     ·kernel_rfl
     refine AWp.seq ?_
     refine AWp.start [0, 1] [] [] [6, 7] 0 ⟨[(6, tS ([] : List UInt8)), (7, tI (2 : Int))], []⟩ rfl ?_ z0 trivial ?_
     ·kernel_rfl
     refine AOps.nil ?_
     refine AWp.ret ?_
     cases h
     exact Or.inr ⟨_, rfl, by simp, rfl, rfl⟩
    ·replace h := of_false h hb
     refine AWp.keepTo [0, 1, 2, 8, 37, 38, 39] 0 ⟨[(0, q0 v1), (1, .tv (fzL 1 (cSl 2 c34) v2)), (2, .tv (fzL 1 (cSl 1 cStr) v3)), (8, .fn 47 []), (37, .tv (fzL 1 (cSl 2 c34) v2)), (38, tI (v2.length : Int)), (39, tI v9)], []⟩ ?_ z0 ?_
     ·kernel_rfl
     refine AWp.skip ?_
     refine AWp.start [0, 1] [] [] [0, 1, 2, 8, 37, 38, 39] 0 ⟨[(0, q0 v1), (1, .tv (fzL 1 (cSl 2 c34) v2)), (2, .tv (fzL 1 (cSl 1 cStr) v3)), (8, .fn 47 []), (37, .tv (fzL 1 (cSl 2 c34) v2)), (38, tI (v2.length : Int)), (39, tI (w64 (v9 + (1 : Int))))], []⟩ rfl ?_ z0 trivial ?_
     ·kernel_rfl
     refine AOps.nil ?_
     cases h
     exact Or.inl ⟨_, rfl, rfl, rfl⟩
   ·replace h := of_false h hb
    refine AWp.keepTo [0, 1, 2, 8] 0 ⟨[(0, q0 v1), (1, .tv (fzL 1 (cSl 2 c34) v2)), (2, .tv (fzL 1 (cSl 1 cStr) v3)), (8, .fn 47 [])], []⟩ ?_ z0 ?_
    ·kernel_rfl
    refine AWp.exit ?_
    cases h
    exact Or.inr ⟨_, rfl, by simp, rfl, rfl⟩
  ·intro e σ hp
   rcases y with v11 | _
   ·obtain ⟨rfl, rfl⟩ := hp
    cases h
    exact ⟨.inr rfl, rfl⟩
   ·obtain ⟨rfl, rfl⟩ := hp
    refine AWp.seq ?_
    refine AWp.seq ?_
    refine AWp.start [0, 1, 2] [] [] [0, 1, 2, 8, 48, 49, 50] 0 ⟨[(0, q0 v1), (1, .tv (fzL 1 (cSl 2 c34) v2)), (2, .tv (fzL 1 (cSl 1 cStr) v3)), (8, .fn 47 []), (48, .tv (fzL 1 (cSl 1 cStr) v3)), (49, tI (v3.length : Int)), (50, tI (0 : Int))], []⟩ rfl ?_ z0 trivial ?_
    ·kernel_rfl
    refine AOps.nil ?_
    refine AWp.block ?_
    obtain ⟨y, hy, h⟩ := of_bind h
    refine AWp.mono (AWp.loop (S := Int) (Y := Out ((List UInt8) × Int) Unit) (fun s => ⟨[(0, q0 v1), (1, .tv (fzL 1 (cSl 2 c34) v2)), (2, .tv (fzL 1 (cSl 1 cStr) v3)), (8, .fn 47 []), (48, .tv (fzL 1 (cSl 1 cStr) v3)), (49, tI (v3.length : Int)), (50, tI s)], []⟩) (fun s => f35_b2 v3 s) (fun y e σ => match y with | .ret r => e = .ret ∧ σ = ⟨[(6, tS r.1), (7, tI r.2)], []⟩ | .go v => e = .exit 2 ∧ σ = ⟨[(0, q0 v1), (1, .tv (fzL 1 (cSl 2 c34) v2)), (2, .tv (fzL 1 (cSl 1 cStr) v3))], []⟩) ?_ hy) ?_
    ·rintro v12 o h
     refine AWp.seq ?_
     refine AWp.start [0] [] [] [0, 1, 2, 8, 48, 49, 50, 51] 0 ⟨[(0, q0 v1), (1, .tv (fzL 1 (cSl 2 c34) v2)), (2, .tv (fzL 1 (cSl 1 cStr) v3)), (8, .fn 47 []), (48, .tv (fzL 1 (cSl 1 cStr) v3)), (49, tI (v3.length : Int)), (50, tI v12), (51, tB (decide (v12 < (v3.length : Int))))], []⟩ rfl ?_ z0 trivial ?_
     ·kernel_rfl
     refine AOps.nil ?_
     refine AWp.seq ?_
     refine AWp.cond rfl (fun hb => ?_) fun hb => ?_
     ·replace h := of_true h hb
      refine AWp.keepTo [0, 1, 2, 8, 48, 49, 50] 0 ⟨[(0, q0 v1), (1, .tv (fzL 1 (cSl 2 c34) v2)), (2, .tv (fzL 1 (cSl 1 cStr) v3)), (8, .fn 47 []), (48, .tv (fzL 1 (cSl 1 cStr) v3)), (49, tI (v3.length : Int)), (50, tI v12)], []⟩ ?_ z0 ?_
      ·kernel_rfl
      refine AWp.skip ?_
      refine AWp.seq ?_
      refine AWp.block ?_
      refine AWp.seq ?_
      obtain ⟨hg, h⟩ := of_guard h
      refine AWp.start [0, 1, 2] [] [(0 : Int) ≤ v12, v12 < (v3.length : Int)] [0, 1, 2, 8, 12, 48, 49, 50] 0 ⟨[(0, q0 v1), (1, .tv (fzL 1 (cSl 2 c34) v2)), (2, .tv (fzL 1 (cSl 1 cStr) v3)), (8, .fn 47 []), (12, q3 (gD v3 v12)), (48, .tv (fzL 1 (cSl 1 cStr) v3)), (49, tI (v3.length : Int)), (50, tI v12)], []⟩ rfl ?_ z0 ⟨hg.1, hg.2⟩ ?_
      ·kernel_rfl
      refine AOps.nil ?_
      refine AWp.seq ?_
      refine AWp.start [0, 1, 2] [3] [] [0, 1, 2, 8, 48, 49, 50, 54, 56] 0 ⟨[(0, q0 v1), (1, .tv (fzL 1 (cSl 2 c34) v2)), (2, .tv (fzL 1 (cSl 1 cStr) v3)), (8, .fn 47 []), (48, .tv (fzL 1 (cSl 1 cStr) v3)), (49, tI (v3.length : Int)), (50, tI v12), (54, .fn 47 []), (56, tI ((gD v3 v12).length : Int))], []⟩ rfl ?_ z0 trivial ?_
      ·kernel_rfl
      obtain ⟨v13, hv13, h⟩ := of_bind h
      refine AOps.cons (AOne.callP (F := (FF 108 0)) _ rfl rfl rfl _ rfl rfl _ _ rfl Try.call47 [tI ((gD v3 v12).length : Int)] rfl rfl (f47_ok ((gD v3 v12).length : Int) hv13) rfl) ?_
      refine AOps.keepTo [0, 1, 2, 8, 48, 49, 50, 57] 0 ⟨[(0, q0 v1), (1, .tv (fzL 1 (cSl 2 c34) v2)), (2, .tv (fzL 1 (cSl 1 cStr) v3)), (8, .fn 47 []), (48, .tv (fzL 1 (cSl 1 cStr) v3)), (49, tI (v3.length : Int)), (50, tI v12), (57, tB v13)], []⟩ ?_ z0 ?_
      ·kernel_rfl
      refine AOps.nil ?_
      refine AWp.cond rfl (fun hb => ?_) fun hb => ?_
      ·replace h := of_true h hb
       refine AWp.keepTo [] 0 ⟨[], []⟩ ?_ z0 ?_
       ·kernel_rfl
       refine AWp.seq ?_
       refine AWp.start [0, 1] [] [] [6, 7] 0 ⟨[(6, tS ([] : List UInt8)), (7, tI (2 : Int))], []⟩ rfl ?_ z0 trivial ?_
       ·kernel_rfl
       refine AOps.nil ?_
       refine AWp.ret ?_
       cases h
       exact Or.inr ⟨_, rfl, by simp, rfl, rfl⟩
      ·replace h := of_false h hb
       refine AWp.keepTo [0, 1, 2, 8, 48, 49, 50] 0 ⟨[(0, q0 v1), (1, .tv (fzL 1 (cSl 2 c34) v2)), (2, .tv (fzL 1 (cSl 1 cStr) v3)), (8, .fn 47 []), (48, .tv (fzL 1 (cSl 1 cStr) v3)), (49, tI (v3.length : Int)), (50, tI v12)], []⟩ ?_ z0 ?_
       ·kernel_rfl
       refine AWp.skip ?_
       refine AWp.start [0, 1] [] [] [0, 1, 2, 8, 48, 49, 50] 0 ⟨[(0, q0 v1), (1, .tv (fzL 1 (cSl 2 c34) v2)), (2, .tv (fzL 1 (cSl 1 cStr) v3)), (8, .fn 47 []), (48, .tv (fzL 1 (cSl 1 cStr) v3)), (49, tI (v3.length : Int)), (50, tI (w64 (v12 + (1 : Int))))], []⟩ rfl ?_ z0 trivial ?_
       ·kernel_rfl
       refine AOps.nil ?_
       cases h
       exact Or.inl ⟨_, rfl, rfl, rfl⟩
     ·replace h := of_false h hb
      refine AWp.keepTo [0, 1, 2] 0 ⟨[(0, q0 v1), (1, .tv (fzL 1 (cSl 2 c34) v2)), (2, .tv (fzL 1 (cSl 1 cStr) v3))], []⟩ ?_ z0 ?_
      ·kernel_rfl
      refine AWp.exit ?_
      cases h
      exact Or.inr ⟨_, rfl, by simp, rfl, rfl⟩
    ·intro e σ hp
     rcases y with v14 | _
     ·obtain ⟨rfl, rfl⟩ := hp
      cases h
      exact ⟨.inr rfl, rfl⟩
     ·obtain ⟨rfl, rfl⟩ := hp
      refine AWp.seq ?_
      refine AWp.seq ?_
      refine AWp.start [0, 1, 2] [] [] [0, 2, 59, 60, 61] 0 ⟨[(0, q0 v1), (2, .tv (fzL 1 (cSl 1 cStr) v3)), (59, .tv (fzL 1 (cSl 2 c34) v2)), (60, tI (v2.length : Int)), (61, tI (0 : Int))], []⟩ rfl ?_ z0 trivial ?_
      ·kernel_rfl
      refine AOps.nil ?_
      refine AWp.block ?_
      obtain ⟨y, hy, h⟩ := of_bind h
      refine AWp.mono (AWp.loop (S := Int) (Y := Out ((List UInt8) × Int) Unit) (fun s => ⟨[(0, q0 v1), (2, .tv (fzL 1 (cSl 1 cStr) v3)), (59, .tv (fzL 1 (cSl 2 c34) v2)), (60, tI (v2.length : Int)), (61, tI s)], []⟩) (fun s => f35_b4 v1 v2 s) (fun y e σ => match y with | .ret r => e = .ret ∧ σ = ⟨[(6, tS r.1), (7, tI r.2)], []⟩ | .go v => e = .exit 4 ∧ σ = ⟨[(0, q0 v1), (2, .tv (fzL 1 (cSl 1 cStr) v3))], []⟩) ?_ hy) ?_
      ·rintro v15 o h
       refine AWp.seq ?_
       refine AWp.start [0] [] [] [0, 2, 59, 60, 61, 62] 0 ⟨[(0, q0 v1), (2, .tv (fzL 1 (cSl 1 cStr) v3)), (59, .tv (fzL 1 (cSl 2 c34) v2)), (60, tI (v2.length : Int)), (61, tI v15), (62, tB (decide (v15 < (v2.length : Int))))], []⟩ rfl ?_ z0 trivial ?_
       ·kernel_rfl
       refine AOps.nil ?_
       refine AWp.seq ?_
       refine AWp.cond rfl (fun hb => ?_) fun hb => ?_
       ·replace h := of_true h hb
        refine AWp.keepTo [0, 2, 59, 60, 61] 0 ⟨[(0, q0 v1), (2, .tv (fzL 1 (cSl 1 cStr) v3)), (59, .tv (fzL 1 (cSl 2 c34) v2)), (60, tI (v2.length : Int)), (61, tI v15)], []⟩ ?_ z0 ?_
        ·kernel_rfl
        refine AWp.skip ?_
        refine AWp.seq ?_
        refine AWp.block ?_
        refine AWp.seq ?_
        obtain ⟨hg, h⟩ := of_guard h
        refine AWp.start [0, 1, 2] [] [(0 : Int) ≤ v15, v15 < (v2.length : Int)] [0, 2, 14, 59, 60, 61] 0 ⟨[(0, q0 v1), (2, .tv (fzL 1 (cSl 1 cStr) v3)), (14, .tv (fzL 2 c34 (gD v2 v15))), (59, .tv (fzL 1 (cSl 2 c34) v2)), (60, tI (v2.length : Int)), (61, tI v15)], []⟩ rfl ?_ z0 ⟨hg.1, hg.2⟩ ?_
        ·kernel_rfl
        refine AOps.nil ?_
        refine AWp.seq ?_
        refine AWp.start [0, 1, 2] [] [] [0, 2, 59, 60, 61, 65, 66, 67] 0 ⟨[(0, q0 v1), (2, .tv (fzL 1 (cSl 1 cStr) v3)), (59, .tv (fzL 1 (cSl 2 c34) v2)), (60, tI (v2.length : Int)), (61, tI v15), (65, .tv (fzL 2 c34 (gD v2 v15))), (66, tI ((gD v2 v15).length : Int)), (67, tI (0 : Int))], []⟩ rfl ?_ z0 trivial ?_
        ·kernel_rfl
        refine AOps.nil ?_
        refine AWp.block ?_
        obtain ⟨y, hy, h⟩ := of_bind h
        refine AWp.mono (AWp.loop (S := Int) (Y := Out ((List UInt8) × Int) Unit) (fun s => ⟨[(0, q0 v1), (2, .tv (fzL 1 (cSl 1 cStr) v3)), (59, .tv (fzL 1 (cSl 2 c34) v2)), (60, tI (v2.length : Int)), (61, tI v15), (65, .tv (fzL 2 c34 (gD v2 v15))), (66, tI ((gD v2 v15).length : Int)), (67, tI s)], []⟩) (fun s => f35_b3 v1 v2 v15 s) (fun y e σ => match y with | .ret r => e = .ret ∧ σ = ⟨[(6, tS r.1), (7, tI r.2)], []⟩ | .go v => e = .exit 6 ∧ σ = ⟨[(0, q0 v1), (2, .tv (fzL 1 (cSl 1 cStr) v3)), (59, .tv (fzL 1 (cSl 2 c34) v2)), (60, tI (v2.length : Int)), (61, tI v15)], []⟩) ?_ hy) ?_
        ·rintro v16 o h
         refine AWp.seq ?_
         refine AWp.start [0] [] [] [0, 2, 59, 60, 61, 65, 66, 67, 68] 0 ⟨[(0, q0 v1), (2, .tv (fzL 1 (cSl 1 cStr) v3)), (59, .tv (fzL 1 (cSl 2 c34) v2)), (60, tI (v2.length : Int)), (61, tI v15), (65, .tv (fzL 2 c34 (gD v2 v15))), (66, tI ((gD v2 v15).length : Int)), (67, tI v16), (68, tB (decide (v16 < ((gD v2 v15).length : Int))))], []⟩ rfl ?_ z0 trivial ?_
         ·kernel_rfl
         refine AOps.nil ?_
         refine AWp.seq ?_
         refine AWp.cond rfl (fun hb => ?_) fun hb => ?_
         ·replace h := of_true h hb
          refine AWp.keepTo [0, 2, 59, 60, 61, 65, 66, 67] 0 ⟨[(0, q0 v1), (2, .tv (fzL 1 (cSl 1 cStr) v3)), (59, .tv (fzL 1 (cSl 2 c34) v2)), (60, tI (v2.length : Int)), (61, tI v15), (65, .tv (fzL 2 c34 (gD v2 v15))), (66, tI ((gD v2 v15).length : Int)), (67, tI v16)], []⟩ ?_ z0 ?_
          ·kernel_rfl
          refine AWp.skip ?_
          refine AWp.seq ?_
          refine AWp.block ?_
          refine AWp.seq ?_
          obtain ⟨hg, h⟩ := of_guard h
          refine AWp.start [0, 1, 2, 3] [] [(0 : Int) ≤ v16, v16 < ((gD v2 v15).length : Int)] [0, 2, 16, 59, 60, 61, 65, 66, 67] 1 ⟨[(0, q0 v1), (2, .tv (fzL 1 (cSl 1 cStr) v3)), (16, .pc 0 0), (59, .tv (fzL 1 (cSl 2 c34) v2)), (60, tI (v2.length : Int)), (61, tI v15), (65, .tv (fzL 2 c34 (gD v2 v15))), (66, tI ((gD v2 v15).length : Int)), (67, tI v16)], [.cells 35 (c34 (gD (gD v2 v15) v16))]⟩ rfl ?_ z0 ⟨hg.1, hg.2⟩ ?_
          ·kernel_rfl
          refine AOps.nil ?_
          refine AWp.seq ?_
          refine AWp.pin 0 rfl rfl ?_
          refine AWp.keepTo [0, 2, 16, 59, 60, 61, 65, 66, 67] 0 ⟨[(0, q0 v1), (2, .tv (fzL 1 (cSl 1 cStr) v3)), (16, .rp (c34 (gD (gD v2 v15) v16))), (59, .tv (fzL 1 (cSl 2 c34) v2)), (60, tI (v2.length : Int)), (61, tI v15), (65, .tv (fzL 2 c34 (gD v2 v15))), (66, tI ((gD v2 v15).length : Int)), (67, tI v16)], []⟩ ?_ z0 ?_
          ·kernel_rfl
          refine AWp.start [0, 1] [2, 3] [] [0, 2, 16, 59, 60, 61, 65, 66, 67, 71, 72] 0 ⟨[(0, q0 v1), (2, .tv (fzL 1 (cSl 1 cStr) v3)), (16, .rp (c34 (gD (gD v2 v15) v16))), (59, .tv (fzL 1 (cSl 2 c34) v2)), (60, tI (v2.length : Int)), (61, tI v15), (65, .tv (fzL 2 c34 (gD v2 v15))), (66, tI ((gD v2 v15).length : Int)), (67, tI v16), (71, q0 v1), (72, .agg (c34 (gD (gD v2 v15) v16)))], []⟩ rfl ?_ z0 trivial ?_
          ·kernel_rfl
          obtain ⟨v17, hv17, h⟩ := of_bind h
          refine AOps.cons (AOne.callP (F := (FF 108 0)) _ rfl rfl rfl _ rfl rfl _ _ rfl Try.call30 [q0 v1, .agg (c34 (gD (gD v2 v15) v16))] rfl rfl (f30_ok v1 (gD (gD v2 v15) v16) hv17) rfl) ?_
          refine AOps.go [3] [] [] [0, 2, 16, 59, 60, 61, 65, 66, 67, 74] 0 ⟨[(0, q0 v1), (2, .tv (fzL 1 (cSl 1 cStr) v3)), (16, .rp (c34 (gD (gD v2 v15) v16))), (59, .tv (fzL 1 (cSl 2 c34) v2)), (60, tI (v2.length : Int)), (61, tI v15), (65, .tv (fzL 2 c34 (gD v2 v15))), (66, tI ((gD v2 v15).length : Int)), (67, tI v16), (74, tB (!v17))], []⟩ ?_ z0 trivial ?_
          ·kernel_rfl
          refine AOps.nil ?_
          refine AWp.cond rfl (fun hb => ?_) fun hb => ?_
          ·replace h := of_true h hb
           refine AWp.keepTo [16] 0 ⟨[(16, .rp (c34 (gD (gD v2 v15) v16)))], []⟩ ?_ z0 ?_
           ·kernel_rfl
           refine AWp.seq ?_
           refine AWp.start [0, 1, 2, 3] [] [] [6, 7] 0 ⟨[(6, tS ((gD (gD v2 v15) v16).f0)), (7, tI (5 : Int))], []⟩ rfl ?_ z0 trivial ?_
           ·kernel_rfl
           refine AOps.nil ?_
           refine AWp.ret ?_
           cases h
           exact Or.inr ⟨_, rfl, by simp, rfl, rfl⟩
          ·replace h := of_false h hb
           refine AWp.keepTo [0, 2, 59, 60, 61, 65, 66, 67] 0 ⟨[(0, q0 v1), (2, .tv (fzL 1 (cSl 1 cStr) v3)), (59, .tv (fzL 1 (cSl 2 c34) v2)), (60, tI (v2.length : Int)), (61, tI v15), (65, .tv (fzL 2 c34 (gD v2 v15))), (66, tI ((gD v2 v15).length : Int)), (67, tI v16)], []⟩ ?_ z0 ?_
           ·kernel_rfl
           refine AWp.skip ?_
           refine AWp.start [0, 1] [] [] [0, 2, 59, 60, 61, 65, 66, 67] 0 ⟨[(0, q0 v1), (2, .tv (fzL 1 (cSl 1 cStr) v3)), (59, .tv (fzL 1 (cSl 2 c34) v2)), (60, tI (v2.length : Int)), (61, tI v15), (65, .tv (fzL 2 c34 (gD v2 v15))), (66, tI ((gD v2 v15).length : Int)), (67, tI (w64 (v16 + (1 : Int))))], []⟩ rfl ?_ z0 trivial ?_
           ·kernel_rfl
           refine AOps.nil ?_
           cases h
           exact Or.inl ⟨_, rfl, rfl, rfl⟩
         ·replace h := of_false h hb
          refine AWp.keepTo [0, 2, 59, 60, 61] 0 ⟨[(0, q0 v1), (2, .tv (fzL 1 (cSl 1 cStr) v3)), (59, .tv (fzL 1 (cSl 2 c34) v2)), (60, tI (v2.length : Int)), (61, tI v15)], []⟩ ?_ z0 ?_
          ·kernel_rfl
          refine AWp.exit ?_
          cases h
          exact Or.inr ⟨_, rfl, by simp, rfl, rfl⟩
        ·intro e σ hp
         rcases y with v18 | _
         ·obtain ⟨rfl, rfl⟩ := hp
          cases h
          exact Or.inr ⟨_, rfl, by simp, rfl, rfl⟩
         ·obtain ⟨rfl, rfl⟩ := hp
          refine AWp.start [0, 1] [] [] [0, 2, 59, 60, 61] 0 ⟨[(0, q0 v1), (2, .tv (fzL 1 (cSl 1 cStr) v3)), (59, .tv (fzL 1 (cSl 2 c34) v2)), (60, tI (v2.length : Int)), (61, tI (w64 (v15 + (1 : Int))))], []⟩ rfl ?_ z0 trivial ?_
          ·kernel_rfl
          refine AOps.nil ?_
          cases h
          exact Or.inl ⟨_, rfl, rfl, rfl⟩
       ·replace h := of_false h hb
        refine AWp.keepTo [0, 2] 0 ⟨[(0, q0 v1), (2, .tv (fzL 1 (cSl 1 cStr) v3))], []⟩ ?_ z0 ?_
        ·kernel_rfl
        refine AWp.exit ?_
        cases h
        exact Or.inr ⟨_, rfl, by simp, rfl, rfl⟩
      ·intro e σ hp
       rcases y with v19 | _
       ·obtain ⟨rfl, rfl⟩ := hp
        cases h
        exact ⟨.inr rfl, rfl⟩
       ·obtain ⟨rfl, rfl⟩ := hp
        refine AWp.seq ?_
        refine AWp.start [0] [] [] [0, 2, 17] 0 ⟨[(0, q0 v1), (2, .tv (fzL 1 (cSl 1 cStr) v3)), (17, .tv (.sc (.slice none 0 0)))], []⟩ rfl ?_ z0 trivial ?_
        ·kernel_rfl
        refine AOps.nil ?_
        refine AWp.seq ?_
        refine AWp.seq ?_
        refine AWp.start [0] [1, 2, 3] [] [0, 2, 17, 79] 0 ⟨[(0, q0 v1), (2, .tv (fzL 1 (cSl 1 cStr) v3)), (17, .tv (.sc (.slice none 0 0))), (79, .tv (fzL 1 (cSl 1 cStr) v3))], []⟩ rfl ?_ z0 trivial ?_
        ·kernel_rfl
        obtain ⟨v20, hv20, h⟩ := of_bind h
        refine AOps.cons (AOne.callP (F := (FF 108 0)) _ rfl rfl rfl _ rfl rfl _ _ rfl Try.call48 [.tv (fzL 1 (cSl 1 cStr) v3)] rfl rfl (f48_ok v3 hv20) rfl) ?_
        refine AOps.freezeL 80 cStr v20 rfl (fun _ => rfl) ?_
        refine AOps.go [2, 3] [] [] [0, 2, 17, 80, 81, 82] 0 ⟨[(0, q0 v1), (2, .tv (fzL 1 (cSl 1 cStr) v3)), (17, .tv (.sc (.slice none 0 0))), (80, q3 v20), (81, tI (v20.length : Int)), (82, tI (0 : Int))], []⟩ ?_ z0 trivial ?_
        ·kernel_rfl
        refine AOps.nil ?_
        refine AWp.block ?_
        obtain ⟨y, hy, h⟩ := of_bind h
        refine AWp.mono (AWp.loop (S := Int) (Y := Out ((List UInt8) × Int) Unit) (fun s => ⟨[(0, q0 v1), (2, .tv (fzL 1 (cSl 1 cStr) v3)), (17, .tv (.sc (.slice none 0 0))), (80, q3 v20), (81, tI (v20.length : Int)), (82, tI s)], []⟩) (fun s => f35_b5 v1 v20 s) (fun y e σ => match y with | .ret r => e = .ret ∧ σ = ⟨[(6, tS r.1), (7, tI r.2)], []⟩ | .go v => e = .exit 8 ∧ σ = ⟨[(2, .tv (fzL 1 (cSl 1 cStr) v3)), (17, .tv (.sc (.slice none 0 0)))], []⟩) ?_ hy) ?_
        ·rintro v21 o h
         refine AWp.seq ?_
         refine AWp.start [0] [] [] [0, 2, 17, 80, 81, 82, 83] 0 ⟨[(0, q0 v1), (2, .tv (fzL 1 (cSl 1 cStr) v3)), (17, .tv (.sc (.slice none 0 0))), (80, q3 v20), (81, tI (v20.length : Int)), (82, tI v21), (83, tB (decide (v21 < (v20.length : Int))))], []⟩ rfl ?_ z0 trivial ?_
         ·kernel_rfl
         refine AOps.nil ?_
         refine AWp.seq ?_
         refine AWp.cond rfl (fun hb => ?_) fun hb => ?_
         ·replace h := of_true h hb
          refine AWp.keepTo [0, 2, 17, 80, 81, 82] 0 ⟨[(0, q0 v1), (2, .tv (fzL 1 (cSl 1 cStr) v3)), (17, .tv (.sc (.slice none 0 0))), (80, q3 v20), (81, tI (v20.length : Int)), (82, tI v21)], []⟩ ?_ z0 ?_
          ·kernel_rfl
          refine AWp.skip ?_
          refine AWp.seq ?_
          refine AWp.block ?_
          refine AWp.seq ?_
          obtain ⟨hg, h⟩ := of_guard h
          refine AWp.start [0, 1, 2] [] [(0 : Int) ≤ v21, v21 < (v20.length : Int)] [0, 2, 17, 19, 80, 81, 82] 0 ⟨[(0, q0 v1), (2, .tv (fzL 1 (cSl 1 cStr) v3)), (17, .tv (.sc (.slice none 0 0))), (19, tS (gD v20 v21)), (80, q3 v20), (81, tI (v20.length : Int)), (82, tI v21)], []⟩ rfl ?_ z0 ⟨hg.1, hg.2⟩ ?_
          ·kernel_rfl
          refine AOps.nil ?_
          refine AWp.seq ?_
          refine AWp.start [0, 1] [2, 3] [] [0, 2, 17, 19, 80, 81, 82, 86, 87] 0 ⟨[(0, q0 v1), (2, .tv (fzL 1 (cSl 1 cStr) v3)), (17, .tv (.sc (.slice none 0 0))), (19, tS (gD v20 v21)), (80, q3 v20), (81, tI (v20.length : Int)), (82, tI v21), (86, q0 v1), (87, tS (gD v20 v21))], []⟩ rfl ?_ z0 trivial ?_
          ·kernel_rfl
          obtain ⟨v22, hv22, h⟩ := of_bind h
          refine AOps.cons (AOne.callP (F := (FF 108 0)) _ rfl rfl rfl _ rfl rfl _ _ rfl Try.call34 [q0 v1, tS (gD v20 v21)] rfl rfl (f34_ok v1 (gD v20 v21) hv22) rfl) ?_
          refine AOps.go [3] [] [] [0, 2, 17, 19, 80, 81, 82, 89] 0 ⟨[(0, q0 v1), (2, .tv (fzL 1 (cSl 1 cStr) v3)), (17, .tv (.sc (.slice none 0 0))), (19, tS (gD v20 v21)), (80, q3 v20), (81, tI (v20.length : Int)), (82, tI v21), (89, tB (decide (v22 < (0 : Int))))], []⟩ ?_ z0 trivial ?_
          ·kernel_rfl
          refine AOps.nil ?_
          refine AWp.cond rfl (fun hb => ?_) fun hb => ?_
          ·replace h := of_true h hb
           refine AWp.keepTo [19] 0 ⟨[(19, tS (gD v20 v21))], []⟩ ?_ z0 ?_
           ·kernel_rfl
           refine AWp.seq ?_
           refine AWp.start [0, 1, 2] [] [] [6, 7] 0 ⟨[(6, tS (gD v20 v21)), (7, tI (5 : Int))], []⟩ rfl ?_ z0 trivial ?_
           ·kernel_rfl
           refine AOps.nil ?_
           refine AWp.ret ?_
           cases h
           exact Or.inr ⟨_, rfl, by simp, rfl, rfl⟩
          ·replace h := of_false h hb
           refine AWp.keepTo [0, 2, 17, 80, 81, 82] 0 ⟨[(0, q0 v1), (2, .tv (fzL 1 (cSl 1 cStr) v3)), (17, .tv (.sc (.slice none 0 0))), (80, q3 v20), (81, tI (v20.length : Int)), (82, tI v21)], []⟩ ?_ z0 ?_
           ·kernel_rfl
           refine AWp.skip ?_
           refine AWp.start [0, 1] [] [] [0, 2, 17, 80, 81, 82] 0 ⟨[(0, q0 v1), (2, .tv (fzL 1 (cSl 1 cStr) v3)), (17, .tv (.sc (.slice none 0 0))), (80, q3 v20), (81, tI (v20.length : Int)), (82, tI (w64 (v21 + (1 : Int))))], []⟩ rfl ?_ z0 trivial ?_
           ·kernel_rfl
           refine AOps.nil ?_
           cases h
           exact Or.inl ⟨_, rfl, rfl, rfl⟩
         ·replace h := of_false h hb
          refine AWp.keepTo [2, 17] 0 ⟨[(2, .tv (fzL 1 (cSl 1 cStr) v3)), (17, .tv (.sc (.slice none 0 0)))], []⟩ ?_ z0 ?_
          ·kernel_rfl
          refine AWp.exit ?_
          cases h
          exact Or.inr ⟨_, rfl, by simp, rfl, rfl⟩
        ·intro e σ hp
         rcases y with v23 | _
         ·obtain ⟨rfl, rfl⟩ := hp
          cases h
          exact ⟨.inr rfl, rfl⟩
         ·obtain ⟨rfl, rfl⟩ := hp
          refine AWp.seq ?_
          refine AWp.seq ?_
          refine AWp.start [0] [1, 2, 3] [] [17, 92] 0 ⟨[(17, .tv (.sc (.slice none 0 0))), (92, .tv (fzL 1 (cSl 1 cStr) v3))], []⟩ rfl ?_ z0 trivial ?_
          ·kernel_rfl
          obtain ⟨v24, hv24, h⟩ := of_bind h
          refine AOps.cons (AOne.callP (F := (FF 108 0)) _ rfl rfl rfl _ rfl rfl _ _ rfl Try.call48 [.tv (fzL 1 (cSl 1 cStr) v3)] rfl rfl (f48_ok v3 hv24) rfl) ?_
          refine AOps.freezeL 93 cStr v24 rfl (fun _ => rfl) ?_
          refine AOps.go [2, 3] [] [] [17, 93, 94, 95] 0 ⟨[(17, .tv (.sc (.slice none 0 0))), (93, q3 v24), (94, tI (v24.length : Int)), (95, tI (0 : Int))], []⟩ ?_ z0 trivial ?_
          ·kernel_rfl
          refine AOps.nil ?_
          refine AWp.block ?_
          refine AWp.nilOwn 17 1 9 (fun i => cStr (([] : List (List UInt8)).getD i default)) rfl ?_
          refine AWp.keepTo [17, 93, 94, 95] 0 ⟨[(17, .tv (ownL 1 9 cStr ([] : List (List UInt8)))), (93, q3 v24), (94, tI (v24.length : Int)), (95, tI (0 : Int))], []⟩ ?_ z0 ?_
          ·kernel_rfl
          obtain ⟨y, hy, h⟩ := of_bind h
          refine AWp.mono (AWp.loop (S := (List (List UInt8)) × Int) (Y := Out ((List UInt8) × Int) Unit) (fun s => ⟨[(17, .tv (ownL 1 9 cStr s.1)), (93, q3 v24), (94, tI (v24.length : Int)), (95, tI s.2)], []⟩) (fun s => f35_b6 v24 s.1 s.2) (fun y e σ => match y with | .ret r => e = .ret ∧ σ = ⟨[(6, tS r.1), (7, tI r.2)], []⟩ | .go v => e = .exit 10 ∧ σ = ⟨[], []⟩) ?_ hy) ?_
          ·rintro ⟨v25, v26⟩ o h
           refine AWp.seq ?_
           refine AWp.start [0] [] [] [17, 93, 94, 95, 96] 0 ⟨[(17, .tv (ownL 1 9 cStr v25)), (93, q3 v24), (94, tI (v24.length : Int)), (95, tI v26), (96, tB (decide (v26 < (v24.length : Int))))], []⟩ rfl ?_ z0 trivial ?_
           ·kernel_rfl
           refine AOps.nil ?_
           refine AWp.seq ?_
           refine AWp.cond rfl (fun hb => ?_) fun hb => ?_
           ·replace h := of_true h hb
            refine AWp.keepTo [17, 93, 94, 95] 0 ⟨[(17, .tv (ownL 1 9 cStr v25)), (93, q3 v24), (94, tI (v24.length : Int)), (95, tI v26)], []⟩ ?_ z0 ?_
            ·kernel_rfl
            refine AWp.skip ?_
            refine AWp.seq ?_
            refine AWp.block ?_
            refine AWp.seq ?_
            obtain ⟨hg, h⟩ := of_guard h
            refine AWp.start [0, 1, 2] [] [(0 : Int) ≤ v26, v26 < (v24.length : Int)] [17, 21, 93, 94, 95] 0 ⟨[(17, .tv (ownL 1 9 cStr v25)), (21, tS (gD v24 v26)), (93, q3 v24), (94, tI (v24.length : Int)), (95, tI v26)], []⟩ rfl ?_ z0 ⟨hg.1, hg.2⟩ ?_
            ·kernel_rfl
            refine AOps.nil ?_
            refine AWp.seq ?_
            refine AWp.seq ?_
            refine AWp.start [0, 1] [2] [] [17, 21, 93, 94, 95, 99, 100] 0 ⟨[(17, .tv (ownL 1 9 cStr v25)), (21, tS (gD v24 v26)), (93, q3 v24), (94, tI (v24.length : Int)), (95, tI v26), (99, .al (.slot 17 0, [])), (100, tS (gD v24 v26))], []⟩ rfl ?_ z0 trivial ?_
            ·kernel_rfl
            obtain ⟨v27, hv27, h⟩ := of_bind h
            refine AOps.cons (AOne.callR (F := (FF 108 0)) _ rfl rfl rfl _ rfl rfl _ _ rfl Try.call49 [PlainTo v25.length (fun i => cStr (v25.getD i default))] [q3 v25, tS (gD v24 v26)] rfl (fun _ _ => rfl) (f49_ok v25 (gD v24 v26) hv27) (ind_of rfl) rfl) ?_
            refine AOps.keepTo [17, 21, 93, 94, 95, 101] 0 ⟨[(17, .tv (ownL 1 9 cStr v25)), (21, tS (gD v24 v26)), (93, q3 v24), (94, tI (v24.length : Int)), (95, tI v26), (101, tB v27)], []⟩ ?_ z0 ?_
            ·kernel_rfl
            refine AOps.nil ?_
            refine AWp.cond rfl (fun hb => ?_) fun hb => ?_
            ·replace h := of_true h hb
             refine AWp.keepTo [21] 0 ⟨[(21, tS (gD v24 v26))], []⟩ ?_ z0 ?_
             ·kernel_rfl
             refine AWp.seq ?_
             refine AWp.start [0, 1, 2] [] [] [6, 7] 0 ⟨[(6, tS (gD v24 v26)), (7, tI (8 : Int))], []⟩ rfl ?_ z0 trivial ?_
             ·kernel_rfl
             refine AOps.nil ?_
             refine AWp.ret ?_
             cases h
             exact Or.inr ⟨_, rfl, by simp, rfl, rfl⟩
            ·replace h := of_false h hb
             refine AWp.keepTo [17, 21, 93, 94, 95] 0 ⟨[(17, .tv (ownL 1 9 cStr v25)), (21, tS (gD v24 v26)), (93, q3 v24), (94, tI (v24.length : Int)), (95, tI v26)], []⟩ ?_ z0 ?_
             ·kernel_rfl
             refine AWp.skip ?_
             refine AWp.start [0, 1, 2] [3, 4] [] [17, 93, 94, 95, 103, 105] 0 ⟨[(17, .tv (ownL 1 9 cStr v25)), (93, q3 v24), (94, tI (v24.length : Int)), (95, tI v26), (103, .al (.slot 17 0, [])), (105, .tv (.own 1 9 1 (newRowF [.str (gD v24 v26)] 1)))], []⟩ rfl ?_ z0 trivial ?_
             ·kernel_rfl
             refine AOps.extL 105 cStr [gD v24 v26] rfl rfl (row_at cStr 1 (fun _ => rfl) [gD v24 v26] _ rfl) ?_
             obtain ⟨hg, h⟩ := of_guard h
             refine AOps.go [3] [4] [(v25.length + [gD v24 v26].length) * 16 ≤ 140737488355328, PlainTo v25.length (fun i => cStr (v25.getD i default)), PlainTo ([gD v24 v26].length) (fun i => cStr ([gD v24 v26].getD i default))] [93, 94, 95, 106] 0 ⟨[(93, q3 v24), (94, tI (v24.length : Int)), (95, tI v26), (106, .tv (.own 1 9 (v25.length + [gD v24 v26].length) (appF v25.length (fun i => cStr (v25.getD i default)) (fun i => cStr ([gD v24 v26].getD i default)))))], []⟩ ?_ z0 ⟨hg, (fun _ _ => rfl), (fun _ _ => rfl)⟩ ?_
             ·kernel_rfl
             refine AOps.extL 106 cStr (v25 ++ [gD v24 v26]) rfl List.length_append.symm (app_at cStr v25 [gD v24 v26]) ?_
             refine AOps.go [4] [] [] [17, 93, 94, 95] 0 ⟨[(17, .tv (ownL 1 9 cStr (v25 ++ [gD v24 v26]))), (93, q3 v24), (94, tI (v24.length : Int)), (95, tI v26)], []⟩ ?_ z0 trivial ?_
             ·kernel_rfl
             refine AOps.nil ?_
             refine AWp.start [0, 1] [] [] [17, 93, 94, 95] 0 ⟨[(17, .tv (ownL 1 9 cStr (v25 ++ [gD v24 v26]))), (93, q3 v24), (94, tI (v24.length : Int)), (95, tI (w64 (v26 + (1 : Int))))], []⟩ rfl ?_ z0 trivial ?_
             ·kernel_rfl
             refine AOps.nil ?_
             cases h
             exact Or.inl ⟨_, rfl, rfl, rfl⟩
           ·replace h := of_false h hb
            refine AWp.keepTo [] 0 ⟨[], []⟩ ?_ z0 ?_
            ·kernel_rfl
            refine AWp.exit ?_
            cases h
            exact Or.inr ⟨_, rfl, by simp, rfl, rfl⟩
          ·intro e σ hp
           rcases y with v28 | _
           ·obtain ⟨rfl, rfl⟩ := hp
            cases h
            exact ⟨.inr rfl, rfl⟩
           ·obtain ⟨rfl, rfl⟩ := hp
            refine AWp.seq ?_
            refine AWp.start [0, 1] [] [] [6, 7] 0 ⟨[(6, tS ([] : List UInt8)), (7, tI (0 : Int))], []⟩ rfl ?_ z0 trivial ?_
            ·kernel_rfl
            refine AOps.nil ?_
            refine AWp.ret ?_
            cases h
            exact ⟨.inr rfl, rfl⟩

noncomputable def f25 (v1 : T36) : Option Int :=
 some (w64 (v1.f1 * v1.f2))

theorem f25_ok (v1 : T36) {r : Int} (h : f25 v1 = some r) : ACall Try.prog 25 [.agg [.str v1.f0, .int .i64 v1.f1, .int .i64 v1.f2]] [] (.tv (.int .i64 r)) [] := by
 refine ACall.of1 (FF 8 0) Try.func25 rfl Try.ntmps25 Try.results25 (Nat.le_of_ble_eq_true rfl) rfl rfl ?_
 refine AWp.seq ?_
 refine AWp.start [0, 1] [] [] [1] 1 ⟨[(1, .pc 0 0)], [.cells 37 [.str v1.f0, .int .i64 v1.f1, .int .i64 v1.f2]]⟩ rfl ?_ z0 trivial ?_
 ·kernel_rfl
 refine AOps.nil ?_
 refine AWp.seq ?_
 refine AWp.pin 0 rfl rfl ?_
 refine AWp.keepTo [1] 0 ⟨[(1, .rp [.str v1.f0, .int .i64 v1.f1, .int .i64 v1.f2])], []⟩ ?_ z0 ?_
 ·kernel_rfl
 refine AWp.start [0, 1, 2, 3, 4, 5] [] [] [2] 0 ⟨[(2, tI (w64 (v1.f1 * v1.f2)))], []⟩ rfl ?_ z0 trivial ?_
 ·kernel_rfl
 refine AOps.nil ?_
 refine AWp.ret ?_
 cases h
 exact ⟨.inr rfl, rfl⟩

end Go.Sx.sto
