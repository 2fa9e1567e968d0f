/- Printed by program (wip/gen): plain functions and their walks; no condition. -/
import Derived.Test.YtgabiokgockopaaGx2
namespace Go.Sx.sto
open Go Go.Sx Go.Proofs

noncomputable def f32 (v1 : List T36) (v2 : T34) : Option Bool :=
 (f33 v1 v2.f0).bind fun v3 => (cond (decide (v3 ≥ (0 : Int))) (cond (decide (v2.f1 ≥ (0 : Int))) (if (0 : Int) ≤ v3 ∧ v3 < (v1.length : Int) then some (decide (v2.f1 < (v1.getD v3.toNat default).f2)) else none) (some false)) (some false)).bind fun v4 => some v4

theorem f32_ok (v1 : List T36) (v2 : T34) {r : Bool} (h : f32 v1 v2 = some r) : ACall Try.prog 32 [.tv (fzL 3 c36 v1), .agg [.str v2.f0, .int .i64 v2.f1]] [] (.tv (.bool r)) [] := by
 refine ACall.of1 (FF 27 0) Try.func32 rfl Try.ntmps32 Try.results32 (Nat.le_of_ble_eq_true rfl) rfl rfl ?_
 refine AWp.seq ?_
 refine AWp.start [0, 1] [] [] [0, 3] 1 ⟨[(0, q0 v1), (3, .pc 0 0)], [.cells 35 [.str v2.f0, .int .i64 v2.f1]]⟩ rfl ?_ z0 trivial ?_
 · kernel_rfl
 refine AOps.nil ?_
 refine AWp.seq ?_
 refine AWp.pin 0 rfl rfl ?_
 refine AWp.keepTo [0, 3] 0 ⟨[(0, q0 v1), (3, .rp [.str v2.f0, .int .i64 v2.f1])], []⟩ ?_ z0 ?_
 · kernel_rfl
 refine AWp.start [0, 1, 2] [3, 4] [] [0, 3, 6, 8] 0 ⟨[(0, q0 v1), (3, .rp [.str v2.f0, .int .i64 v2.f1]), (6, q0 v1), (8, tS v2.f0)], []⟩ rfl ?_ z0 trivial ?_
 · kernel_rfl
 obtain ⟨v3, hv3, h⟩ := of_bind h
 refine AOps.cons (AOne.callP (F := (FF 27 0)) _ rfl rfl rfl _ rfl rfl _ _ rfl Try.call33 [q0 v1, tS v2.f0] rfl rfl (f33_ok v1 v2.f0 hv3) rfl) ?_
 refine AOps.go [4] [] [] [0, 3, 5] 0 ⟨[(0, q0 v1), (3, .rp [.str v2.f0, .int .i64 v2.f1]), (5, tI v3)], []⟩ ?_ z0 trivial ?_
 · kernel_rfl
 refine AOps.nil ?_
 refine AWp.seq ?_
 obtain ⟨v4, hd, h⟩ := of_bind h
 refine AWp.draw FFm (fun σ => σ = ⟨[(4, tB v4)], []⟩) (n := 18) rfl (ls := #[n1, n1, n1, n1, n1, n1, n1, n1, n1, n1, n1, n1, n1, n1, n1, n1, n1, n1]) rfl ?_ ?_
 · refine AAny.go (by kernel_rfl) [0, 1, 2] (fuel' := 15) rfl [] #[y1, y1, y1, n1, n1, n1, n1, n1, n1, n1, n1, n1, n1, n1, n1, n1, n1, n1] [0, 3, 5, 12] 0 ⟨[(0, q0 v1), (3, .rp [.str v2.f0, .int .i64 v2.f1]), (5, tI v3), (12, tB (decide (v3 ≥ (0 : Int))))], []⟩ ?_ z0 trivial ?_
   · kernel_rfl
   refine AAny.split (fun b => ⟨[(0, q0 v1), (3, .rp [.str v2.f0, .int .i64 v2.f1]), (5, tI v3), (12, tB b)], []⟩) _ (fun hb => ?_) fun hb => ?_
   · replace hd := of_true hd hb
     refine AAny.go (by kernel_rfl) [3, 4, 5, 6, 7] (fuel' := 10) rfl [] #[y1, y1, y1, y1, y1, y1, y1, y1, n1, n1, n1, n1, n1, n1, n1, n1, n1, n1] [0, 3, 5, 17] 0 ⟨[(0, q0 v1), (3, .rp [.str v2.f0, .int .i64 v2.f1]), (5, tI v3), (17, tB (decide (v2.f1 ≥ (0 : Int))))], []⟩ ?_ z0 trivial ?_
     · kernel_rfl
     refine AAny.split (fun b => ⟨[(0, q0 v1), (3, .rp [.str v2.f0, .int .i64 v2.f1]), (5, tI v3), (17, tB b)], []⟩) _ (fun hb => ?_) fun hb => ?_
     · replace hd := of_true hd hb
       obtain ⟨hg, hd⟩ := of_guard hd
       refine AAny.go (by kernel_rfl) [8, 9, 10, 11, 12, 13, 14, 15, 16, 17] (fuel' := 0) rfl [(0 : Int) ≤ v3, v3 < (v1.length : Int)] #[y1, y1, y1, y1, y1, y1, y1, y1, y1, y1, y1, y1, y1, y1, y1, y1, y1, y1] [4] 0 ⟨[(4, tB (decide (v2.f1 < (gD v1 v3).f2)))], []⟩ ?_ z0 ⟨hg.1, hg.2⟩ ?_
       · kernel_rfl
       refine AAny.keepTo [4] 0 ⟨[(4, tB (decide (v2.f1 < (gD v1 v3).f2)))], []⟩ _ ?_ rfl z0 (AAny.done (by kernel_rfl) ?_)
       · kernel_rfl
       cases hd
       exact rfl
     · replace hd := of_false hd hb
       refine AAny.go (by kernel_rfl) [8, 9, 10, 11, 12, 13, 14, 15, 16, 17] (fuel' := 0) rfl [] #[y1, y1, y1, y1, y1, y1, y1, y1, y1, y1, y1, y1, y1, y1, y1, y1, y1, y1] [4] 0 ⟨[(4, tB false)], []⟩ ?_ z0 trivial ?_
       · kernel_rfl
       refine AAny.keepTo [4] 0 ⟨[(4, tB false)], []⟩ _ ?_ rfl z0 (AAny.done (by kernel_rfl) ?_)
       · kernel_rfl
       cases hd
       exact rfl
   · replace hd := of_false hd hb
     refine AAny.go (by kernel_rfl) [3, 4, 5, 6, 7, 8, 9, 10, 11, 12, 13, 14, 15, 16, 17] (fuel' := 0) rfl [] #[y1, y1, y1, y1, y1, y1, y1, y1, y1, y1, y1, y1, y1, y1, y1, y1, y1, y1] [4] 0 ⟨[(4, tB false)], []⟩ ?_ z0 trivial ?_
     · kernel_rfl
     refine AAny.keepTo [4] 0 ⟨[(4, tB false)], []⟩ _ ?_ rfl z0 (AAny.done (by kernel_rfl) ?_)
     · kernel_rfl
     cases hd
     exact rfl
 rintro σ' rfl
 refine AWp.ret ?_
 cases h
 exact ⟨.inr rfl, rfl⟩

noncomputable def f21 (v1 : List T36) (v2 : List Int) (v3 : List Int) (v4 : T34) (v5 : T34) : Option (Bool × Int) :=
 (f29 v1 v2 v3).bind fun v6 => cond (!v6) (some (false, (2 : Int))) ((f32 v1 v4).bind fun v7 => (cond (!v7) (some true) ((f32 v1 v5).bind fun v9 => some (!v9))).bind fun v8 => cond v8 (some (false, (5 : Int))) ((f33 v1 v4.f0).bind fun v10 => (f33 v1 v5.f0).bind fun v11 => if (0 : Int) ≤ v10 ∧ v10 < (v3.length : Int) ∧ (0 : Int) ≤ v11 ∧ v11 < (v3.length : Int) then (if (0 : Int) ≤ v10 ∧ v10 < (v2.length : Int) ∧ (0 : Int) ≤ v11 ∧ v11 < (v2.length : Int) then cond (v2.getD v10.toNat default != v2.getD v11.toNat default) (some true) (cond (decide (w64 ((v3.getD v10.toNat default) - (v3.getD v11.toNat default)) > (10000 : Int))) (some true) (some (decide (w64 ((v3.getD v10.toNat default) - (v3.getD v11.toNat default)) < (-10000 : Int))))) else none).bind fun v12 => cond v12 (some (false, (0 : Int))) (if (0 : Int) ≤ v10 ∧ v10 < (v1.length : Int) ∧ (0 : Int) ≤ v11 ∧ v11 < (v1.length : Int) then if (0 : Int) ≤ v11 ∧ v11 < (v1.length : Int) then (cond (decide (w64 ((w64 ((v3.getD v10.toNat default) - (v3.getD v11.toNat default))) + (w64 (v4.f1 * ((v1.getD v10.toNat default).f1)))) < w64 ((w64 (v5.f1 * ((v1.getD v11.toNat default).f1))) + ((v1.getD v11.toNat default).f1)))) (if (0 : Int) ≤ v10 ∧ v10 < (v1.length : Int) then some (decide (w64 (v5.f1 * ((v1.getD v11.toNat default).f1)) < w64 ((w64 ((w64 ((v3.getD v10.toNat default) - (v3.getD v11.toNat default))) + (w64 (v4.f1 * ((v1.getD v10.toNat default).f1))))) + ((v1.getD v10.toNat default).f1)))) else none) (some false)).bind fun v13 => some (v13, (0 : Int)) else none else none) else none))

theorem f21_ok (v1 : List T36) (v2 : List Int) (v3 : List Int) (v4 : T34) (v5 : T34) {r : Bool × Int} (h : f21 v1 v2 v3 v4 v5 = some r) : ACall Try.prog 21 [.tv (fzL 3 c36 v1), .tv (fzL 1 (cInt .i64) v2), .tv (fzL 1 (cInt .i64) v3), .agg [.str v4.f0, .int .i64 v4.f1], .agg [.str v5.f0, .int .i64 v5.f1]] [] (.tup [.tv (.bool r.1), .tv (.int .i64 r.2)]) [] := by
 refine ACall.ofN (FF 104 0) (rs := [10, 11]) (env := [(10, tB r.1), (11, tI r.2)]) Try.func21 rfl Try.ntmps21 Try.results21 (by decide) (by decide) rfl (Nat.le_of_ble_eq_true rfl) rfl (get_ofN _ _ _ rfl) (ok_ofN _ rfl) ?_
 refine AWp.seq ?_
 refine AWp.start [0, 1, 2, 3] [] [] [0, 1, 2, 8, 9] 2 ⟨[(0, q0 v1), (1, q1 v2), (2, q1 v3), (8, .pc 0 0), (9, .pc 1 0)], [.cells 35 [.str v4.f0, .int .i64 v4.f1], .cells 35 [.str v5.f0, .int .i64 v5.f1]]⟩ rfl ?_ z0 trivial ?_
 · kernel_rfl
 refine AOps.nil ?_
 refine AWp.seq ?_
 refine AWp.seq ?_
 refine AWp.pin 0 rfl rfl ?_
 refine AWp.pin 1 rfl rfl ?_
 refine AWp.keepTo [0, 1, 2, 8, 9] 0 ⟨[(0, q0 v1), (1, q1 v2), (2, q1 v3), (8, .rp [.str v4.f0, .int .i64 v4.f1]), (9, .rp [.str v5.f0, .int .i64 v5.f1])], []⟩ ?_ z0 ?_
 · kernel_rfl
 refine AWp.start [0, 1, 2] [3, 4] [] [0, 1, 2, 8, 9, 17, 18, 19] 0 ⟨[(0, q0 v1), (1, q1 v2), (2, q1 v3), (8, .rp [.str v4.f0, .int .i64 v4.f1]), (9, .rp [.str v5.f0, .int .i64 v5.f1]), (17, q0 v1), (18, q1 v2), (19, q1 v3)], []⟩ rfl ?_ z0 trivial ?_
 · kernel_rfl
 obtain ⟨v6, hv6, h⟩ := of_bind h
 refine AOps.cons (AOne.callP (F := (FF 104 0)) _ rfl rfl rfl _ rfl rfl _ _ rfl Try.call29 [q0 v1, q1 v2, q1 v3] rfl rfl (f29_ok v1 v2 v3 hv6) rfl) ?_
 refine AOps.go [4] [] [] [0, 1, 2, 8, 9, 21] 0 ⟨[(0, q0 v1), (1, q1 v2), (2, q1 v3), (8, .rp [.str v4.f0, .int .i64 v4.f1]), (9, .rp [.str v5.f0, .int .i64 v5.f1]), (21, tB (!v6))], []⟩ ?_ z0 trivial ?_
 · kernel_rfl
 refine AOps.nil ?_
 refine AWp.cond rfl (fun hb => ?_) fun hb => ?_
 · replace h := of_true h hb
   refine AWp.keepTo [] 0 ⟨[], []⟩ ?_ z0 ?_
   · kernel_rfl
   refine AWp.seq ?_
   refine AWp.start [0, 1] [] [] [10, 11] 0 ⟨[(10, tB false), (11, tI (2 : Int))], []⟩ rfl ?_ z0 trivial ?_
   · kernel_rfl
   refine AOps.nil ?_
   refine AWp.ret ?_
   cases h
   exact ⟨.inr rfl, rfl⟩
 · replace h := of_false h hb
   refine AWp.keepTo [0, 1, 2, 8, 9] 0 ⟨[(0, q0 v1), (1, q1 v2), (2, q1 v3), (8, .rp [.str v4.f0, .int .i64 v4.f1]), (9, .rp [.str v5.f0, .int .i64 v5.f1])], []⟩ ?_ z0 ?_
   · kernel_rfl
   refine AWp.skip ?_
   refine AWp.seq ?_
   refine AWp.seq ?_
   refine AWp.start [0, 1] [2, 3, 4, 5, 6, 7, 8, 9] [] [0, 1, 2, 8, 9, 22, 23] 0 ⟨[(0, q0 v1), (1, q1 v2), (2, q1 v3), (8, .rp [.str v4.f0, .int .i64 v4.f1]), (9, .rp [.str v5.f0, .int .i64 v5.f1]), (22, q0 v1), (23, .agg [.str v4.f0, .int .i64 v4.f1])], []⟩ rfl ?_ z0 trivial ?_
   · kernel_rfl
   obtain ⟨v7, hv7, h⟩ := of_bind h
   refine AOps.cons (AOne.callP (F := (FF 104 0)) _ rfl rfl rfl _ rfl rfl _ _ rfl Try.call32 [q0 v1, .agg [.str v4.f0, .int .i64 v4.f1]] rfl rfl (f32_ok v1 v4 hv7) rfl) ?_
   refine AOps.go [3, 4] [5, 6, 7, 8, 9] [] [0, 1, 2, 8, 9, 26] 0 ⟨[(0, q0 v1), (1, q1 v2), (2, q1 v3), (8, .rp [.str v4.f0, .int .i64 v4.f1]), (9, .rp [.str v5.f0, .int .i64 v5.f1]), (26, tB (!v7))], []⟩ ?_ z0 trivial ?_
   · kernel_rfl
   obtain ⟨v8, hc5, h⟩ := of_bind h
   refine AOps.cut [5, 6, 7, 8, 9] [] (fun σ => σ = ⟨[(0, q0 v1), (1, q1 v2), (2, q1 v3), (8, .rp [.str v4.f0, .int .i64 v4.f1]), (9, .rp [.str v5.f0, .int .i64 v5.f1]), (31, tB v8)], []⟩) ?_ fun σ' hJ => ?_
   · refine AOps.split (fun b => ⟨[(0, q0 v1), (1, q1 v2), (2, q1 v3), (8, .rp [.str v4.f0, .int .i64 v4.f1]), (9, .rp [.str v5.f0, .int .i64 v5.f1]), (26, tB b)], []⟩) _ (fun hb => ?_) fun hb => ?_
     · replace hc5 := of_true hc5 hb
       refine AOps.go [5, 6, 7, 8, 9] [] [] [0, 1, 2, 8, 9, 31] 0 ⟨[(0, q0 v1), (1, q1 v2), (2, q1 v3), (8, .rp [.str v4.f0, .int .i64 v4.f1]), (9, .rp [.str v5.f0, .int .i64 v5.f1]), (31, tB true)], []⟩ ?_ z0 trivial ?_
       · kernel_rfl
       cases hc5
       exact AOps.nil rfl
     · replace hc5 := of_false hc5 hb
       refine AOps.go [5, 6] [7, 8, 9] [] [0, 1, 2, 8, 9, 26, 27, 28] 0 ⟨[(0, q0 v1), (1, q1 v2), (2, q1 v3), (8, .rp [.str v4.f0, .int .i64 v4.f1]), (9, .rp [.str v5.f0, .int .i64 v5.f1]), (26, tB false), (27, q0 v1), (28, .agg [.str v5.f0, .int .i64 v5.f1])], []⟩ ?_ z0 trivial ?_
       · kernel_rfl
       obtain ⟨v9, hv9, hc5⟩ := of_bind hc5
       refine AOps.cons (AOne.callP (F := (FF 104 0)) _ rfl rfl rfl _ rfl rfl _ _ rfl Try.call32 [q0 v1, .agg [.str v5.f0, .int .i64 v5.f1]] rfl rfl (f32_ok v1 v5 hv9) rfl) ?_
       refine AOps.go [8, 9] [] [] [0, 1, 2, 8, 9, 31] 0 ⟨[(0, q0 v1), (1, q1 v2), (2, q1 v3), (8, .rp [.str v4.f0, .int .i64 v4.f1]), (9, .rp [.str v5.f0, .int .i64 v5.f1]), (31, tB (!v9))], []⟩ ?_ z0 trivial ?_
       · kernel_rfl
       cases hc5
       exact AOps.nil rfl
   subst hJ
   refine AOps.nil ?_
   refine AWp.cond rfl (fun hb => ?_) fun hb => ?_
   · replace h := of_true h hb
     refine AWp.keepTo [] 0 ⟨[], []⟩ ?_ z0 ?_
     · kernel_rfl
     refine AWp.seq ?_
     refine AWp.start [0, 1] [] [] [10, 11] 0 ⟨[(10, tB false), (11, tI (5 : Int))], []⟩ rfl ?_ z0 trivial ?_
     · kernel_rfl
     refine AOps.nil ?_
     refine AWp.ret ?_
     cases h
     exact ⟨.inr rfl, rfl⟩
   · replace h := of_false h hb
     refine AWp.keepTo [0, 1, 2, 8, 9] 0 ⟨[(0, q0 v1), (1, q1 v2), (2, q1 v3), (8, .rp [.str v4.f0, .int .i64 v4.f1]), (9, .rp [.str v5.f0, .int .i64 v5.f1])], []⟩ ?_ z0 ?_
     · kernel_rfl
     refine AWp.skip ?_
     refine AWp.seq ?_
     refine AWp.draw FFm _ (n := 10) rfl (ls := #[n1, n1, n1, n1, n1, n1, n1, n1, n1, n1]) rfl ?_ (fun _ h => h)
     refine AAny.go (by kernel_rfl) [0, 1, 2, 4, 5, 6] (fuel' := 4) rfl [] #[y1, y1, y1, n1, y1, y1, y1, n1, n1, n1] [0, 1, 2, 8, 9, 32, 34, 36, 38] 0 ⟨[(0, q0 v1), (1, q1 v2), (2, q1 v3), (8, .rp [.str v4.f0, .int .i64 v4.f1]), (9, .rp [.str v5.f0, .int .i64 v5.f1]), (32, q0 v1), (34, tS v4.f0), (36, q0 v1), (38, tS v5.f0)], []⟩ ?_ z0 trivial ?_
     · kernel_rfl
     obtain ⟨v10, hv10, h⟩ := of_bind h
     refine AAny.serial (i := 3) (fuel := 3) (by kernel_rfl) (AOne.callP (F := (FF 104 0)) _ rfl rfl rfl _ rfl rfl _ _ rfl Try.call33 [q0 v1, tS v4.f0] rfl rfl (f33_ok v1 v4.f0 hv10) rfl) ?_
     refine AAny.keepTo [0, 1, 2, 8, 9, 35, 36, 38] 0 ⟨[(0, q0 v1), (1, q1 v2), (2, q1 v3), (8, .rp [.str v4.f0, .int .i64 v4.f1]), (9, .rp [.str v5.f0, .int .i64 v5.f1]), (35, tI v10), (36, q0 v1), (38, tS v5.f0)], []⟩ #[y1, y1, y1, y1, y1, y1, y1, n1, n1, n1] ?_ rfl z0 ?_
     · kernel_rfl
     obtain ⟨v11, hv11, h⟩ := of_bind h
     refine AAny.serial (i := 7) (fuel := 2) (by kernel_rfl) (AOne.callP (F := (FF 104 0)) _ rfl rfl rfl _ rfl rfl _ _ rfl Try.call33 [q0 v1, tS v5.f0] rfl rfl (f33_ok v1 v5.f0 hv11) rfl) ?_
     refine AAny.keepTo [0, 1, 2, 8, 9, 35, 39] 0 ⟨[(0, q0 v1), (1, q1 v2), (2, q1 v3), (8, .rp [.str v4.f0, .int .i64 v4.f1]), (9, .rp [.str v5.f0, .int .i64 v5.f1]), (35, tI v10), (39, tI v11)], []⟩ #[y1, y1, y1, y1, y1, y1, y1, y1, n1, n1] ?_ rfl z0 ?_
     · kernel_rfl
     refine AAny.go (by kernel_rfl) [8, 9] (fuel' := 0) rfl [] #[y1, y1, y1, y1, y1, y1, y1, y1, y1, y1] [0, 1, 2, 8, 9, 12, 13] 0 ⟨[(0, q0 v1), (1, q1 v2), (2, q1 v3), (8, .rp [.str v4.f0, .int .i64 v4.f1]), (9, .rp [.str v5.f0, .int .i64 v5.f1]), (12, tI v10), (13, tI v11)], []⟩ ?_ z0 trivial ?_
     · kernel_rfl
     refine AAny.keepTo [0, 1, 2, 8, 9, 12, 13] 0 ⟨[(0, q0 v1), (1, q1 v2), (2, q1 v3), (8, .rp [.str v4.f0, .int .i64 v4.f1]), (9, .rp [.str v5.f0, .int .i64 v5.f1]), (12, tI v10), (13, tI v11)], []⟩ _ ?_ rfl z0 (AAny.done (by kernel_rfl) ?_)
     · kernel_rfl
     refine AWp.seq ?_
     refine AWp.draw FFm _ (n := 10) rfl (ls := #[n1, n1, n1, n1, n1, n1, n1, n1, n1, n1]) rfl ?_ (fun _ h => h)
     obtain ⟨hg, h⟩ := of_guard h
     refine AAny.go (by kernel_rfl) [0, 1, 2, 3, 4, 5, 6, 7, 8, 9] (fuel' := 0) rfl [(0 : Int) ≤ v10, v10 < (v3.length : Int), (0 : Int) ≤ v11, v11 < (v3.length : Int)] #[y1, y1, y1, y1, y1, y1, y1, y1, y1, y1] [0, 1, 8, 9, 12, 13, 14] 0 ⟨[(0, q0 v1), (1, q1 v2), (8, .rp [.str v4.f0, .int .i64 v4.f1]), (9, .rp [.str v5.f0, .int .i64 v5.f1]), (12, tI v10), (13, tI v11), (14, tI (w64 ((gD v3 v10) - (gD v3 v11))))], []⟩ ?_ z0 ⟨hg.1, hg.2.1, hg.2.2.1, hg.2.2.2⟩ ?_
     · kernel_rfl
     refine AAny.keepTo [0, 1, 8, 9, 12, 13, 14] 0 ⟨[(0, q0 v1), (1, q1 v2), (8, .rp [.str v4.f0, .int .i64 v4.f1]), (9, .rp [.str v5.f0, .int .i64 v5.f1]), (12, tI v10), (13, tI v11), (14, tI (w64 ((gD v3 v10) - (gD v3 v11))))], []⟩ _ ?_ rfl z0 (AAny.done (by kernel_rfl) ?_)
     · kernel_rfl
     refine AWp.seq ?_
     refine AWp.seq ?_
     obtain ⟨v12, hd, h⟩ := of_bind h
     refine AWp.draw FFm (fun σ => σ = ⟨[(0, q0 v1), (8, .rp [.str v4.f0, .int .i64 v4.f1]), (9, .rp [.str v5.f0, .int .i64 v5.f1]), (12, tI v10), (13, tI v11), (14, tI (w64 ((gD v3 v10) - (gD v3 v11)))), (65, tB v12)], []⟩) (n := 17) rfl (ls := #[n1, n1, n1, n1, n1, n1, n1, n1, n1, n1, n1, n1, n1, n1, n1, n1, n1]) rfl ?_ ?_
     · obtain ⟨hg, hd⟩ := of_guard hd
       refine AAny.go (by kernel_rfl) [0, 1, 2, 3, 4, 5, 6, 7, 8, 9] (fuel' := 7) rfl [(0 : Int) ≤ v10, v10 < (v2.length : Int), (0 : Int) ≤ v11, v11 < (v2.length : Int)] #[y1, y1, y1, y1, y1, y1, y1, y1, y1, y1, n1, n1, n1, n1, n1, n1, n1] [0, 8, 9, 12, 13, 14, 58] 0 ⟨[(0, q0 v1), (8, .rp [.str v4.f0, .int .i64 v4.f1]), (9, .rp [.str v5.f0, .int .i64 v5.f1]), (12, tI v10), (13, tI v11), (14, tI (w64 ((gD v3 v10) - (gD v3 v11)))), (58, tB (gD v2 v10 != gD v2 v11))], []⟩ ?_ z0 ⟨hg.1, hg.2.1, hg.2.2.1, hg.2.2.2⟩ ?_
       · kernel_rfl
       refine AAny.split (fun b => ⟨[(0, q0 v1), (8, .rp [.str v4.f0, .int .i64 v4.f1]), (9, .rp [.str v5.f0, .int .i64 v5.f1]), (12, tI v10), (13, tI v11), (14, tI (w64 ((gD v3 v10) - (gD v3 v11)))), (58, tB b)], []⟩) _ (fun hb => ?_) fun hb => ?_
       · replace hd := of_true hd hb
         refine AAny.go (by kernel_rfl) [10, 11, 12, 13, 14, 15, 16] (fuel' := 0) rfl [] #[y1, y1, y1, y1, y1, y1, y1, y1, y1, y1, y1, y1, y1, y1, y1, y1, y1] [0, 8, 9, 12, 13, 14, 65] 0 ⟨[(0, q0 v1), (8, .rp [.str v4.f0, .int .i64 v4.f1]), (9, .rp [.str v5.f0, .int .i64 v5.f1]), (12, tI v10), (13, tI v11), (14, tI (w64 ((gD v3 v10) - (gD v3 v11)))), (65, tB true)], []⟩ ?_ z0 trivial ?_
         · kernel_rfl
         refine AAny.keepTo [0, 8, 9, 12, 13, 14, 65] 0 ⟨[(0, q0 v1), (8, .rp [.str v4.f0, .int .i64 v4.f1]), (9, .rp [.str v5.f0, .int .i64 v5.f1]), (12, tI v10), (13, tI v11), (14, tI (w64 ((gD v3 v10) - (gD v3 v11)))), (65, tB true)], []⟩ _ ?_ rfl z0 (AAny.done (by kernel_rfl) ?_)
         · kernel_rfl
         cases hd
         exact rfl
       · replace hd := of_false hd hb
         refine AAny.go (by kernel_rfl) [10, 11, 12, 13] (fuel' := 3) rfl [] #[y1, y1, y1, y1, y1, y1, y1, y1, y1, y1, y1, y1, y1, y1, n1, n1, n1] [0, 8, 9, 12, 13, 14, 62] 0 ⟨[(0, q0 v1), (8, .rp [.str v4.f0, .int .i64 v4.f1]), (9, .rp [.str v5.f0, .int .i64 v5.f1]), (12, tI v10), (13, tI v11), (14, tI (w64 ((gD v3 v10) - (gD v3 v11)))), (62, tB (decide (w64 ((gD v3 v10) - (gD v3 v11)) > (10000 : Int))))], []⟩ ?_ z0 trivial ?_
         · kernel_rfl
         refine AAny.split (fun b => ⟨[(0, q0 v1), (8, .rp [.str v4.f0, .int .i64 v4.f1]), (9, .rp [.str v5.f0, .int .i64 v5.f1]), (12, tI v10), (13, tI v11), (14, tI (w64 ((gD v3 v10) - (gD v3 v11)))), (62, tB b)], []⟩) _ (fun hb => ?_) fun hb => ?_
         · replace hd := of_true hd hb
           refine AAny.go (by kernel_rfl) [14, 15, 16] (fuel' := 0) rfl [] #[y1, y1, y1, y1, y1, y1, y1, y1, y1, y1, y1, y1, y1, y1, y1, y1, y1] [0, 8, 9, 12, 13, 14, 65] 0 ⟨[(0, q0 v1), (8, .rp [.str v4.f0, .int .i64 v4.f1]), (9, .rp [.str v5.f0, .int .i64 v5.f1]), (12, tI v10), (13, tI v11), (14, tI (w64 ((gD v3 v10) - (gD v3 v11)))), (65, tB true)], []⟩ ?_ z0 trivial ?_
           · kernel_rfl
           refine AAny.keepTo [0, 8, 9, 12, 13, 14, 65] 0 ⟨[(0, q0 v1), (8, .rp [.str v4.f0, .int .i64 v4.f1]), (9, .rp [.str v5.f0, .int .i64 v5.f1]), (12, tI v10), (13, tI v11), (14, tI (w64 ((gD v3 v10) - (gD v3 v11)))), (65, tB true)], []⟩ _ ?_ rfl z0 (AAny.done (by kernel_rfl) ?_)
           · kernel_rfl
           cases hd
           exact rfl
         · replace hd := of_false hd hb
           refine AAny.go (by kernel_rfl) [14, 15, 16] (fuel' := 0) rfl [] #[y1, y1, y1, y1, y1, y1, y1, y1, y1, y1, y1, y1, y1, y1, y1, y1, y1] [0, 8, 9, 12, 13, 14, 65] 0 ⟨[(0, q0 v1), (8, .rp [.str v4.f0, .int .i64 v4.f1]), (9, .rp [.str v5.f0, .int .i64 v5.f1]), (12, tI v10), (13, tI v11), (14, tI (w64 ((gD v3 v10) - (gD v3 v11)))), (65, tB (decide (w64 ((gD v3 v10) - (gD v3 v11)) < (-10000 : Int))))], []⟩ ?_ z0 trivial ?_
           · kernel_rfl
           refine AAny.keepTo [0, 8, 9, 12, 13, 14, 65] 0 ⟨[(0, q0 v1), (8, .rp [.str v4.f0, .int .i64 v4.f1]), (9, .rp [.str v5.f0, .int .i64 v5.f1]), (12, tI v10), (13, tI v11), (14, tI (w64 ((gD v3 v10) - (gD v3 v11)))), (65, tB (decide (w64 ((gD v3 v10) - (gD v3 v11)) < (-10000 : Int))))], []⟩ _ ?_ rfl z0 (AAny.done (by kernel_rfl) ?_)
           · kernel_rfl
           cases hd
           exact rfl
     rintro σ' rfl
     refine AWp.cond rfl (fun hb => ?_) fun hb => ?_
     · replace h := of_true h hb
       refine AWp.keepTo [] 0 ⟨[], []⟩ ?_ z0 ?_
       · kernel_rfl
       refine AWp.seq ?_
       refine AWp.start [0, 1] [] [] [10, 11] 0 ⟨[(10, tB false), (11, tI (0 : Int))], []⟩ rfl ?_ z0 trivial ?_
       · kernel_rfl
       refine AOps.nil ?_
       refine AWp.ret ?_
       cases h
       exact ⟨.inr rfl, rfl⟩
     · replace h := of_false h hb
       refine AWp.keepTo [0, 8, 9, 12, 13, 14] 0 ⟨[(0, q0 v1), (8, .rp [.str v4.f0, .int .i64 v4.f1]), (9, .rp [.str v5.f0, .int .i64 v5.f1]), (12, tI v10), (13, tI v11), (14, tI (w64 ((gD v3 v10) - (gD v3 v11))))], []⟩ ?_ z0 ?_
       · kernel_rfl
       refine AWp.skip ?_
       refine AWp.seq ?_
       refine AWp.draw FFm _ (n := 20) rfl (ls := #[n1, n1, n1, n1, n1, n1, n1, n1, n1, n1, n1, n1, n1, n1, n1, n1, n1, n1, n1, n1]) rfl ?_ (fun _ h => h)
       obtain ⟨hg, h⟩ := of_guard h
       refine AAny.go (by kernel_rfl) [0, 1, 2, 3, 4, 5, 6, 7, 8, 9, 10, 11, 12, 13, 14, 15, 16, 17, 18, 19] (fuel' := 0) rfl [(0 : Int) ≤ v10, v10 < (v1.length : Int), (0 : Int) ≤ v11, v11 < (v1.length : Int)] #[y1, y1, y1, y1, y1, y1, y1, y1, y1, y1, y1, y1, y1, y1, y1, y1, y1, y1, y1, y1] [0, 12, 13, 15, 16] 0 ⟨[(0, q0 v1), (12, tI v10), (13, tI v11), (15, tI (w64 ((w64 ((gD v3 v10) - (gD v3 v11))) + (w64 (v4.f1 * ((gD v1 v10).f1)))))), (16, tI (w64 (v5.f1 * ((gD v1 v11).f1))))], []⟩ ?_ z0 ⟨hg.1, hg.2.1, hg.2.2.1, hg.2.2.2⟩ ?_
       · kernel_rfl
       refine AAny.keepTo [0, 12, 13, 15, 16] 0 ⟨[(0, q0 v1), (12, tI v10), (13, tI v11), (15, tI (w64 ((w64 ((gD v3 v10) - (gD v3 v11))) + (w64 (v4.f1 * ((gD v1 v10).f1)))))), (16, tI (w64 (v5.f1 * ((gD v1 v11).f1))))], []⟩ _ ?_ rfl z0 (AAny.done (by kernel_rfl) ?_)
       · kernel_rfl
       refine AWp.seq ?_
       obtain ⟨hg, h⟩ := of_guard h
       refine AWp.start [0, 1, 2, 3, 4, 5, 6, 7, 8, 9] [10, 11, 12, 13, 14, 15, 16, 17, 18, 19, 20, 21] [(0 : Int) ≤ v11, v11 < (v1.length : Int)] [0, 12, 15, 16, 93] 0 ⟨[(0, q0 v1), (12, tI v10), (15, tI (w64 ((w64 ((gD v3 v10) - (gD v3 v11))) + (w64 (v4.f1 * ((gD v1 v10).f1)))))), (16, tI (w64 (v5.f1 * ((gD v1 v11).f1)))), (93, tB (decide (w64 ((w64 ((gD v3 v10) - (gD v3 v11))) + (w64 (v4.f1 * ((gD v1 v10).f1)))) < w64 ((w64 (v5.f1 * ((gD v1 v11).f1))) + ((gD v1 v11).f1)))))], []⟩ rfl ?_ z0 ⟨hg.1, hg.2⟩ ?_
       · kernel_rfl
       obtain ⟨v13, hc10, h⟩ := of_bind h
       refine AOps.cut [10, 11, 12, 13, 14, 15, 16, 17, 18, 19] [20, 21] (fun σ => σ = ⟨[(103, tB v13)], []⟩) ?_ fun σ' hJ => ?_
       · refine AOps.split (fun b => ⟨[(0, q0 v1), (12, tI v10), (15, tI (w64 ((w64 ((gD v3 v10) - (gD v3 v11))) + (w64 (v4.f1 * ((gD v1 v10).f1)))))), (16, tI (w64 (v5.f1 * ((gD v1 v11).f1)))), (93, tB b)], []⟩) _ (fun hb => ?_) fun hb => ?_
         · replace hc10 := of_true hc10 hb
           obtain ⟨hg, hc10⟩ := of_guard hc10
           refine AOps.go [10, 11, 12, 13, 14, 15, 16, 17, 18, 19] [] [(0 : Int) ≤ v10, v10 < (v1.length : Int)] [103] 0 ⟨[(103, tB (decide (w64 (v5.f1 * ((gD v1 v11).f1)) < w64 ((w64 ((w64 ((gD v3 v10) - (gD v3 v11))) + (w64 (v4.f1 * ((gD v1 v10).f1))))) + ((gD v1 v10).f1)))))], []⟩ ?_ z0 ⟨hg.1, hg.2⟩ ?_
           · kernel_rfl
           cases hc10
           exact AOps.nil rfl
         · replace hc10 := of_false hc10 hb
           refine AOps.go [10, 11, 12, 13, 14, 15, 16, 17, 18, 19] [] [] [103] 0 ⟨[(103, tB false)], []⟩ ?_ z0 trivial ?_
           · kernel_rfl
           cases hc10
           exact AOps.nil rfl
       subst hJ
       refine AOps.go [20, 21] [] [] [10, 11] 0 ⟨[(10, tB v13), (11, tI (0 : Int))], []⟩ ?_ z0 trivial ?_
       · kernel_rfl
       refine AOps.nil ?_
       refine AWp.ret ?_
       cases h
       exact ⟨.inr rfl, rfl⟩

noncomputable def f22 (v1 : List T36) (v2 : List Int) (v3 : List Int) (v4 : List UInt8) (v5 : List UInt8) : Option (Bool × Int) :=
 (f28 v1 v2 v3).bind fun v6 => cond (!v6) (some (false, (2 : Int))) ((f34 v1 v4).bind fun v7 => (f34 v1 v5).bind fun v8 => (cond (decide (v7 < (0 : Int))) (some true) (some (decide (v8 < (0 : Int))))).bind fun v9 => cond v9 (some (false, (5 : Int))) ((if (0 : Int) ≤ v7 ∧ v7 < (v2.length : Int) ∧ (0 : Int) ≤ v8 ∧ v8 < (v2.length : Int) then cond (v2.getD v7.toNat default == v2.getD v8.toNat default) (if (0 : Int) ≤ v7 ∧ v7 < (v3.length : Int) ∧ (0 : Int) ≤ v8 ∧ v8 < (v3.length : Int) then cond (v3.getD v7.toNat default == v3.getD v8.toNat default) (if (0 : Int) ≤ v7 ∧ v7 < (v1.length : Int) ∧ (0 : Int) ≤ v8 ∧ v8 < (v1.length : Int) then (f25 (v1.getD v7.toNat default)).bind fun v11 => (f25 (v1.getD v8.toNat default)).bind fun v12 => some (v11 == v12) else none) (some false) else none) (some false) else none).bind fun v10 => some (v10, (0 : Int))))

theorem f22_ok (v1 : List T36) (v2 : List Int) (v3 : List Int) (v4 : List UInt8) (v5 : List UInt8) {r : Bool × Int} (h : f22 v1 v2 v3 v4 v5 = some r) : ACall Try.prog 22 [.tv (fzL 3 c36 v1), .tv (fzL 1 (cInt .i64) v2), .tv (fzL 1 (cInt .i64) v3), .tv (.str v4), .tv (.str v5)] [] (.tup [.tv (.bool r.1), .tv (.int .i64 r.2)]) [] := by
 refine ACall.ofN (FF 64 0) (rs := [10, 11]) (env := [(10, tB r.1), (11, tI r.2)]) Try.func22 rfl Try.ntmps22 Try.results22 (by decide) (by decide) rfl (Nat.le_of_ble_eq_true rfl) rfl (get_ofN _ _ _ rfl) (ok_ofN _ rfl) ?_
 refine AWp.seq ?_
 refine AWp.start [0, 1] [] [] [0, 1, 2, 3, 4] 0 ⟨[(0, q0 v1), (1, q1 v2), (2, q1 v3), (3, tS v4), (4, tS v5)], []⟩ rfl ?_ z0 trivial ?_
 · kernel_rfl
 refine AOps.nil ?_
 refine AWp.seq ?_
 refine AWp.seq ?_
 refine AWp.start [0, 1, 2] [3, 4] [] [0, 1, 2, 3, 4, 14, 15, 16] 0 ⟨[(0, q0 v1), (1, q1 v2), (2, q1 v3), (3, tS v4), (4, tS v5), (14, q0 v1), (15, q1 v2), (16, q1 v3)], []⟩ rfl ?_ z0 trivial ?_
 · kernel_rfl
 obtain ⟨v6, hv6, h⟩ := of_bind h
 refine AOps.cons (AOne.callP (F := (FF 64 0)) _ rfl rfl rfl _ rfl rfl _ _ rfl Try.call28 [q0 v1, q1 v2, q1 v3] rfl rfl (f28_ok v1 v2 v3 hv6) rfl) ?_
 refine AOps.go [4] [] [] [0, 1, 2, 3, 4, 18] 0 ⟨[(0, q0 v1), (1, q1 v2), (2, q1 v3), (3, tS v4), (4, tS v5), (18, tB (!v6))], []⟩ ?_ z0 trivial ?_
 · kernel_rfl
 refine AOps.nil ?_
 refine AWp.cond rfl (fun hb => ?_) fun hb => ?_
 · replace h := of_true h hb
   refine AWp.keepTo [] 0 ⟨[], []⟩ ?_ z0 ?_
   · kernel_rfl
   refine AWp.seq ?_
   refine AWp.start [0, 1] [] [] [10, 11] 0 ⟨[(10, tB false), (11, tI (2 : Int))], []⟩ rfl ?_ z0 trivial ?_
   · kernel_rfl
   refine AOps.nil ?_
   refine AWp.ret ?_
   cases h
   exact ⟨.inr rfl, rfl⟩
 · replace h := of_false h hb
   refine AWp.keepTo [0, 1, 2, 3, 4] 0 ⟨[(0, q0 v1), (1, q1 v2), (2, q1 v3), (3, tS v4), (4, tS v5)], []⟩ ?_ z0 ?_
   · kernel_rfl
   refine AWp.skip ?_
   refine AWp.seq ?_
   refine AWp.start [0, 1] [2, 3, 4, 5, 6, 7] [] [0, 1, 2, 4, 19, 20] 0 ⟨[(0, q0 v1), (1, q1 v2), (2, q1 v3), (4, tS v5), (19, q0 v1), (20, tS v4)], []⟩ rfl ?_ z0 trivial ?_
   · kernel_rfl
   obtain ⟨v7, hv7, h⟩ := of_bind h
   refine AOps.cons (AOne.callP (F := (FF 64 0)) _ rfl rfl rfl _ rfl rfl _ _ rfl Try.call34 [q0 v1, tS v4] rfl rfl (f34_ok v1 v4 hv7) rfl) ?_
   refine AOps.go [3, 4] [5, 6, 7] [] [0, 1, 2, 21, 22, 23] 0 ⟨[(0, q0 v1), (1, q1 v2), (2, q1 v3), (21, tI v7), (22, q0 v1), (23, tS v5)], []⟩ ?_ z0 trivial ?_
   · kernel_rfl
   obtain ⟨v8, hv8, h⟩ := of_bind h
   refine AOps.cons (AOne.callP (F := (FF 64 0)) _ rfl rfl rfl _ rfl rfl _ _ rfl Try.call34 [q0 v1, tS v5] rfl rfl (f34_ok v1 v5 hv8) rfl) ?_
   refine AOps.go [6, 7] [] [] [0, 1, 2, 12, 13] 0 ⟨[(0, q0 v1), (1, q1 v2), (2, q1 v3), (12, tI v7), (13, tI v8)], []⟩ ?_ z0 trivial ?_
   · kernel_rfl
   refine AOps.nil ?_
   refine AWp.seq ?_
   refine AWp.seq ?_
   refine AWp.start [0, 1, 2] [3, 4, 5] [] [0, 1, 2, 12, 13, 27] 0 ⟨[(0, q0 v1), (1, q1 v2), (2, q1 v3), (12, tI v7), (13, tI v8), (27, tB (decide (v7 < (0 : Int))))], []⟩ rfl ?_ z0 trivial ?_
   · kernel_rfl
   obtain ⟨v9, hc3, h⟩ := of_bind h
   refine AOps.cut [3, 4, 5] [] (fun σ => σ = ⟨[(0, q0 v1), (1, q1 v2), (2, q1 v3), (12, tI v7), (13, tI v8), (30, tB v9)], []⟩) ?_ fun σ' hJ => ?_
   · refine AOps.split (fun b => ⟨[(0, q0 v1), (1, q1 v2), (2, q1 v3), (12, tI v7), (13, tI v8), (27, tB b)], []⟩) _ (fun hb => ?_) fun hb => ?_
     · replace hc3 := of_true hc3 hb
       refine AOps.go [3, 4, 5] [] [] [0, 1, 2, 12, 13, 30] 0 ⟨[(0, q0 v1), (1, q1 v2), (2, q1 v3), (12, tI v7), (13, tI v8), (30, tB true)], []⟩ ?_ z0 trivial ?_
       · kernel_rfl
       cases hc3
       exact AOps.nil rfl
     · replace hc3 := of_false hc3 hb
       refine AOps.go [3, 4, 5] [] [] [0, 1, 2, 12, 13, 30] 0 ⟨[(0, q0 v1), (1, q1 v2), (2, q1 v3), (12, tI v7), (13, tI v8), (30, tB (decide (v8 < (0 : Int))))], []⟩ ?_ z0 trivial ?_
       · kernel_rfl
       cases hc3
       exact AOps.nil rfl
   subst hJ
   refine AOps.nil ?_
   refine AWp.cond rfl (fun hb => ?_) fun hb => ?_
   · replace h := of_true h hb
     refine AWp.keepTo [] 0 ⟨[], []⟩ ?_ z0 ?_
     · kernel_rfl
     refine AWp.seq ?_
     refine AWp.start [0, 1] [] [] [10, 11] 0 ⟨[(10, tB false), (11, tI (5 : Int))], []⟩ rfl ?_ z0 trivial ?_
     · kernel_rfl
     refine AOps.nil ?_
     refine AWp.ret ?_
     cases h
     exact ⟨.inr rfl, rfl⟩
   · replace h := of_false h hb
     refine AWp.keepTo [0, 1, 2, 12, 13] 0 ⟨[(0, q0 v1), (1, q1 v2), (2, q1 v3), (12, tI v7), (13, tI v8)], []⟩ ?_ z0 ?_
     · kernel_rfl
     refine AWp.skip ?_
     refine AWp.seq ?_
     obtain ⟨v10, hd, h⟩ := of_bind h
     refine AWp.draw FFm (fun σ => σ = ⟨[(10, tB v10), (11, tI (0 : Int))], []⟩) (n := 35) rfl (ls := #[n1, n1, n1, n1, n1, n1, n1, n1, n1, n1, n1, n1, n1, n1, n1, n1, n1, n1, n1, n1, n1, n1, n1, n1, n1, n1, n1, n1, n1, n1, n1, n1, n1, n1, n1]) rfl ?_ ?_
     · obtain ⟨hg, hd⟩ := of_guard hd
       refine AAny.go (by kernel_rfl) [0, 1, 2, 3, 4, 5, 6, 7, 8, 9] (fuel' := 25) rfl [(0 : Int) ≤ v7, v7 < (v2.length : Int), (0 : Int) ≤ v8, v8 < (v2.length : Int)] #[y1, y1, y1, y1, y1, y1, y1, y1, y1, y1, n1, n1, n1, n1, n1, n1, n1, n1, n1, n1, n1, n1, n1, n1, n1, n1, n1, n1, n1, n1, n1, n1, n1, n1, n1] [0, 2, 12, 13, 40] 0 ⟨[(0, q0 v1), (2, q1 v3), (12, tI v7), (13, tI v8), (40, tB (gD v2 v7 == gD v2 v8))], []⟩ ?_ z0 ⟨hg.1, hg.2.1, hg.2.2.1, hg.2.2.2⟩ ?_
       · kernel_rfl
       refine AAny.split (fun b => ⟨[(0, q0 v1), (2, q1 v3), (12, tI v7), (13, tI v8), (40, tB b)], []⟩) _ (fun hb => ?_) fun hb => ?_
       · replace hd := of_true hd hb
         obtain ⟨hg, hd⟩ := of_guard hd
         refine AAny.go (by kernel_rfl) [10, 11, 12, 13, 14, 15, 16, 17, 18, 19, 20] (fuel' := 14) rfl [(0 : Int) ≤ v7, v7 < (v3.length : Int), (0 : Int) ≤ v8, v8 < (v3.length : Int)] #[y1, y1, y1, y1, y1, y1, y1, y1, y1, y1, y1, y1, y1, y1, y1, y1, y1, y1, y1, y1, y1, n1, n1, n1, n1, n1, n1, n1, n1, n1, n1, n1, n1, n1, n1] [0, 12, 13, 51] 0 ⟨[(0, q0 v1), (12, tI v7), (13, tI v8), (51, tB (gD v3 v7 == gD v3 v8))], []⟩ ?_ z0 ⟨hg.1, hg.2.1, hg.2.2.1, hg.2.2.2⟩ ?_
         · kernel_rfl
         refine AAny.split (fun b => ⟨[(0, q0 v1), (12, tI v7), (13, tI v8), (51, tB b)], []⟩) _ (fun hb => ?_) fun hb => ?_
         · replace hd := of_true hd hb
           obtain ⟨hg, hd⟩ := of_guard hd
           refine AAny.go (by kernel_rfl) [21, 22, 23, 24, 26, 27, 28, 29] (fuel' := 6) rfl [(0 : Int) ≤ v7, v7 < (v1.length : Int), (0 : Int) ≤ v8, v8 < (v1.length : Int)] #[y1, y1, y1, y1, y1, y1, y1, y1, y1, y1, y1, y1, y1, y1, y1, y1, y1, y1, y1, y1, y1, y1, y1, y1, y1, n1, y1, y1, y1, y1, n1, n1, n1, n1, n1] [51, 55, 60] 0 ⟨[(51, tB true), (55, .agg (c36 (gD v1 v7))), (60, .agg (c36 (gD v1 v8)))], []⟩ ?_ z0 ⟨hg.1, hg.2.1, hg.2.2.1, hg.2.2.2⟩ ?_
           · kernel_rfl
           obtain ⟨v11, hv11, hd⟩ := of_bind hd
           refine AAny.serial (i := 25) (fuel := 5) (by kernel_rfl) (AOne.callP (F := (FF 64 0)) _ rfl rfl rfl _ rfl rfl _ _ rfl Try.call25 [.agg (c36 (gD v1 v7))] rfl rfl (f25_ok (gD v1 v7) hv11) rfl) ?_
           refine AAny.keepTo [51, 56, 60] 0 ⟨[(51, tB true), (56, tI v11), (60, .agg (c36 (gD v1 v8)))], []⟩ #[y1, y1, y1, y1, y1, y1, y1, y1, y1, y1, y1, y1, y1, y1, y1, y1, y1, y1, y1, y1, y1, y1, y1, y1, y1, y1, y1, y1, y1, y1, n1, n1, n1, n1, n1] ?_ rfl z0 ?_
           · kernel_rfl
           obtain ⟨v12, hv12, hd⟩ := of_bind hd
           refine AAny.serial (i := 30) (fuel := 4) (by kernel_rfl) (AOne.callP (F := (FF 64 0)) _ rfl rfl rfl _ rfl rfl _ _ rfl Try.call25 [.agg (c36 (gD v1 v8))] rfl rfl (f25_ok (gD v1 v8) hv12) rfl) ?_
           refine AAny.keepTo [51, 56, 61] 0 ⟨[(51, tB true), (56, tI v11), (61, tI v12)], []⟩ #[y1, y1, y1, y1, y1, y1, y1, y1, y1, y1, y1, y1, y1, y1, y1, y1, y1, y1, y1, y1, y1, y1, y1, y1, y1, y1, y1, y1, y1, y1, y1, n1, n1, n1, n1] ?_ rfl z0 ?_
           · kernel_rfl
           refine AAny.go (by kernel_rfl) [31, 32, 33, 34] (fuel' := 0) rfl [] #[y1, y1, y1, y1, y1, y1, y1, y1, y1, y1, y1, y1, y1, y1, y1, y1, y1, y1, y1, y1, y1, y1, y1, y1, y1, y1, y1, y1, y1, y1, y1, y1, y1, y1, y1] [10, 11] 0 ⟨[(10, tB (v11 == v12)), (11, tI (0 : Int))], []⟩ ?_ z0 trivial ?_
           · kernel_rfl
           refine AAny.keepTo [10, 11] 0 ⟨[(10, tB (v11 == v12)), (11, tI (0 : Int))], []⟩ _ ?_ rfl z0 (AAny.done (by kernel_rfl) ?_)
           · kernel_rfl
           cases hd
           exact rfl
         · replace hd := of_false hd hb
           refine AAny.go (by kernel_rfl) [21, 22, 23, 24, 25, 26, 27, 28, 29, 30, 31, 32, 33, 34] (fuel' := 0) rfl [] #[y1, y1, y1, y1, y1, y1, y1, y1, y1, y1, y1, y1, y1, y1, y1, y1, y1, y1, y1, y1, y1, y1, y1, y1, y1, y1, y1, y1, y1, y1, y1, y1, y1, y1, y1] [10, 11] 0 ⟨[(10, tB false), (11, tI (0 : Int))], []⟩ ?_ z0 trivial ?_
           · kernel_rfl
           refine AAny.keepTo [10, 11] 0 ⟨[(10, tB false), (11, tI (0 : Int))], []⟩ _ ?_ rfl z0 (AAny.done (by kernel_rfl) ?_)
           · kernel_rfl
           cases hd
           exact rfl
       · replace hd := of_false hd hb
         refine AAny.go (by kernel_rfl) [10, 11, 12, 13, 14, 15, 16, 17, 18, 19, 20, 21, 22, 23, 24, 25, 26, 27, 28, 29, 30, 31, 32, 33, 34] (fuel' := 0) rfl [] #[y1, y1, y1, y1, y1, y1, y1, y1, y1, y1, y1, y1, y1, y1, y1, y1, y1, y1, y1, y1, y1, y1, y1, y1, y1, y1, y1, y1, y1, y1, y1, y1, y1, y1, y1] [10, 11] 0 ⟨[(10, tB false), (11, tI (0 : Int))], []⟩ ?_ z0 trivial ?_
         · kernel_rfl
         refine AAny.keepTo [10, 11] 0 ⟨[(10, tB false), (11, tI (0 : Int))], []⟩ _ ?_ rfl z0 (AAny.done (by kernel_rfl) ?_)
         · kernel_rfl
         cases hd
         exact rfl
     rintro σ' rfl
     refine AWp.ret ?_
     cases h
     exact ⟨.inr rfl, rfl⟩

noncomputable def f23 (v1 : List T36) (v2 : List Int) (v3 : List Int) (v4 : List UInt8) (v5 : List UInt8) : Option (Bool × Int) :=
 (f29 v1 v2 v3).bind fun v6 => cond (!v6) (some (false, (2 : Int))) ((f33 v1 v4).bind fun v7 => (f33 v1 v5).bind fun v8 => (cond (decide (v7 < (0 : Int))) (some true) (some (decide (v8 < (0 : Int))))).bind fun v9 => cond v9 (some (false, (5 : Int))) ((if (0 : Int) ≤ v7 ∧ v7 < (v2.length : Int) ∧ (0 : Int) ≤ v8 ∧ v8 < (v2.length : Int) then cond (v2.getD v7.toNat default == v2.getD v8.toNat default) (if (0 : Int) ≤ v7 ∧ v7 < (v3.length : Int) ∧ (0 : Int) ≤ v8 ∧ v8 < (v3.length : Int) then cond (v3.getD v7.toNat default == v3.getD v8.toNat default) (if (0 : Int) ≤ v7 ∧ v7 < (v1.length : Int) ∧ (0 : Int) ≤ v7 ∧ v7 < (v1.length : Int) ∧ (0 : Int) ≤ v8 ∧ v8 < (v1.length : Int) ∧ (0 : Int) ≤ v8 ∧ v8 < (v1.length : Int) then some (w64 (((v1.getD v7.toNat default).f1) * ((v1.getD v7.toNat default).f2)) == w64 (((v1.getD v8.toNat default).f1) * ((v1.getD v8.toNat default).f2))) else none) (some false) else none) (some false) else none).bind fun v10 => some (v10, (0 : Int))))

theorem f23_ok (v1 : List T36) (v2 : List Int) (v3 : List Int) (v4 : List UInt8) (v5 : List UInt8) {r : Bool × Int} (h : f23 v1 v2 v3 v4 v5 = some r) : ACall Try.prog 23 [.tv (fzL 3 c36 v1), .tv (fzL 1 (cInt .i64) v2), .tv (fzL 1 (cInt .i64) v3), .tv (.str v4), .tv (.str v5)] [] (.tup [.tv (.bool r.1), .tv (.int .i64 r.2)]) [] := by
 refine ACall.ofN (FF 76 0) (rs := [10, 11]) (env := [(10, tB r.1), (11, tI r.2)]) Try.func23 rfl Try.ntmps23 Try.results23 (by decide) (by decide) rfl (Nat.le_of_ble_eq_true rfl) rfl (get_ofN _ _ _ rfl) (ok_ofN _ rfl) ?_
 refine AWp.seq ?_
 refine AWp.start [0, 1] [] [] [0, 1, 2, 3, 4] 0 ⟨[(0, q0 v1), (1, q1 v2), (2, q1 v3), (3, tS v4), (4, tS v5)], []⟩ rfl ?_ z0 trivial ?_
 · kernel_rfl
 refine AOps.nil ?_
 refine AWp.seq ?_
 refine AWp.seq ?_
 refine AWp.start [0, 1, 2] [3, 4] [] [0, 1, 2, 3, 4, 14, 15, 16] 0 ⟨[(0, q0 v1), (1, q1 v2), (2, q1 v3), (3, tS v4), (4, tS v5), (14, q0 v1), (15, q1 v2), (16, q1 v3)], []⟩ rfl ?_ z0 trivial ?_
 · kernel_rfl
 obtain ⟨v6, hv6, h⟩ := of_bind h
 refine AOps.cons (AOne.callP (F := (FF 76 0)) _ rfl rfl rfl _ rfl rfl _ _ rfl Try.call29 [q0 v1, q1 v2, q1 v3] rfl rfl (f29_ok v1 v2 v3 hv6) rfl) ?_
 refine AOps.go [4] [] [] [0, 1, 2, 3, 4, 18] 0 ⟨[(0, q0 v1), (1, q1 v2), (2, q1 v3), (3, tS v4), (4, tS v5), (18, tB (!v6))], []⟩ ?_ z0 trivial ?_
 · kernel_rfl
 refine AOps.nil ?_
 refine AWp.cond rfl (fun hb => ?_) fun hb => ?_
 · replace h := of_true h hb
   refine AWp.keepTo [] 0 ⟨[], []⟩ ?_ z0 ?_
   · kernel_rfl
   refine AWp.seq ?_
   refine AWp.start [0, 1] [] [] [10, 11] 0 ⟨[(10, tB false), (11, tI (2 : Int))], []⟩ rfl ?_ z0 trivial ?_
   · kernel_rfl
   refine AOps.nil ?_
   refine AWp.ret ?_
   cases h
   exact ⟨.inr rfl, rfl⟩
 · replace h := of_false h hb
   refine AWp.keepTo [0, 1, 2, 3, 4] 0 ⟨[(0, q0 v1), (1, q1 v2), (2, q1 v3), (3, tS v4), (4, tS v5)], []⟩ ?_ z0 ?_
   · kernel_rfl
   refine AWp.skip ?_
   refine AWp.seq ?_
   refine AWp.start [0, 1] [2, 3, 4, 5, 6, 7] [] [0, 1, 2, 4, 19, 20] 0 ⟨[(0, q0 v1), (1, q1 v2), (2, q1 v3), (4, tS v5), (19, q0 v1), (20, tS v4)], []⟩ rfl ?_ z0 trivial ?_
   · kernel_rfl
   obtain ⟨v7, hv7, h⟩ := of_bind h
   refine AOps.cons (AOne.callP (F := (FF 76 0)) _ rfl rfl rfl _ rfl rfl _ _ rfl Try.call33 [q0 v1, tS v4] rfl rfl (f33_ok v1 v4 hv7) rfl) ?_
   refine AOps.go [3, 4] [5, 6, 7] [] [0, 1, 2, 21, 22, 23] 0 ⟨[(0, q0 v1), (1, q1 v2), (2, q1 v3), (21, tI v7), (22, q0 v1), (23, tS v5)], []⟩ ?_ z0 trivial ?_
   · kernel_rfl
   obtain ⟨v8, hv8, h⟩ := of_bind h
   refine AOps.cons (AOne.callP (F := (FF 76 0)) _ rfl rfl rfl _ rfl rfl _ _ rfl Try.call33 [q0 v1, tS v5] rfl rfl (f33_ok v1 v5 hv8) rfl) ?_
   refine AOps.go [6, 7] [] [] [0, 1, 2, 12, 13] 0 ⟨[(0, q0 v1), (1, q1 v2), (2, q1 v3), (12, tI v7), (13, tI v8)], []⟩ ?_ z0 trivial ?_
   · kernel_rfl
   refine AOps.nil ?_
   refine AWp.seq ?_
   refine AWp.seq ?_
   refine AWp.start [0, 1, 2] [3, 4, 5] [] [0, 1, 2, 12, 13, 27] 0 ⟨[(0, q0 v1), (1, q1 v2), (2, q1 v3), (12, tI v7), (13, tI v8), (27, tB (decide (v7 < (0 : Int))))], []⟩ rfl ?_ z0 trivial ?_
   · kernel_rfl
   obtain ⟨v9, hc3, h⟩ := of_bind h
   refine AOps.cut [3, 4, 5] [] (fun σ => σ = ⟨[(0, q0 v1), (1, q1 v2), (2, q1 v3), (12, tI v7), (13, tI v8), (30, tB v9)], []⟩) ?_ fun σ' hJ => ?_
   · refine AOps.split (fun b => ⟨[(0, q0 v1), (1, q1 v2), (2, q1 v3), (12, tI v7), (13, tI v8), (27, tB b)], []⟩) _ (fun hb => ?_) fun hb => ?_
     · replace hc3 := of_true hc3 hb
       refine AOps.go [3, 4, 5] [] [] [0, 1, 2, 12, 13, 30] 0 ⟨[(0, q0 v1), (1, q1 v2), (2, q1 v3), (12, tI v7), (13, tI v8), (30, tB true)], []⟩ ?_ z0 trivial ?_
       · kernel_rfl
       cases hc3
       exact AOps.nil rfl
     · replace hc3 := of_false hc3 hb
       refine AOps.go [3, 4, 5] [] [] [0, 1, 2, 12, 13, 30] 0 ⟨[(0, q0 v1), (1, q1 v2), (2, q1 v3), (12, tI v7), (13, tI v8), (30, tB (decide (v8 < (0 : Int))))], []⟩ ?_ z0 trivial ?_
       · kernel_rfl
       cases hc3
       exact AOps.nil rfl
   subst hJ
   refine AOps.nil ?_
   refine AWp.cond rfl (fun hb => ?_) fun hb => ?_
   · replace h := of_true h hb
     refine AWp.keepTo [] 0 ⟨[], []⟩ ?_ z0 ?_
     · kernel_rfl
     refine AWp.seq ?_
     refine AWp.start [0, 1] [] [] [10, 11] 0 ⟨[(10, tB false), (11, tI (5 : Int))], []⟩ rfl ?_ z0 trivial ?_
     · kernel_rfl
     refine AOps.nil ?_
     refine AWp.ret ?_
     cases h
     exact ⟨.inr rfl, rfl⟩
   · replace h := of_false h hb
     refine AWp.keepTo [0, 1, 2, 12, 13] 0 ⟨[(0, q0 v1), (1, q1 v2), (2, q1 v3), (12, tI v7), (13, tI v8)], []⟩ ?_ z0 ?_
     · kernel_rfl
     refine AWp.skip ?_
     refine AWp.seq ?_
     obtain ⟨v10, hd, h⟩ := of_bind h
     refine AWp.draw FFm (fun σ => σ = ⟨[(10, tB v10), (11, tI (0 : Int))], []⟩) (n := 47) rfl (ls := #[n1, n1, n1, n1, n1, n1, n1, n1, n1, n1, n1, n1, n1, n1, n1, n1, n1, n1, n1, n1, n1, n1, n1, n1, n1, n1, n1, n1, n1, n1, n1, n1, n1, n1, n1, n1, n1, n1, n1, n1, n1, n1, n1, n1, n1, n1, n1]) rfl ?_ ?_
     · obtain ⟨hg, hd⟩ := of_guard hd
       refine AAny.go (by kernel_rfl) [0, 1, 2, 3, 4, 5, 6, 7, 8, 9] (fuel' := 37) rfl [(0 : Int) ≤ v7, v7 < (v2.length : Int), (0 : Int) ≤ v8, v8 < (v2.length : Int)] #[y1, y1, y1, y1, y1, y1, y1, y1, y1, y1, n1, n1, n1, n1, n1, n1, n1, n1, n1, n1, n1, n1, n1, n1, n1, n1, n1, n1, n1, n1, n1, n1, n1, n1, n1, n1, n1, n1, n1, n1, n1, n1, n1, n1, n1, n1, n1] [0, 2, 12, 13, 40] 0 ⟨[(0, q0 v1), (2, q1 v3), (12, tI v7), (13, tI v8), (40, tB (gD v2 v7 == gD v2 v8))], []⟩ ?_ z0 ⟨hg.1, hg.2.1, hg.2.2.1, hg.2.2.2⟩ ?_
       · kernel_rfl
       refine AAny.split (fun b => ⟨[(0, q0 v1), (2, q1 v3), (12, tI v7), (13, tI v8), (40, tB b)], []⟩) _ (fun hb => ?_) fun hb => ?_
       · replace hd := of_true hd hb
         obtain ⟨hg, hd⟩ := of_guard hd
         refine AAny.go (by kernel_rfl) [10, 11, 12, 13, 14, 15, 16, 17, 18, 19, 20] (fuel' := 26) rfl [(0 : Int) ≤ v7, v7 < (v3.length : Int), (0 : Int) ≤ v8, v8 < (v3.length : Int)] #[y1, y1, y1, y1, y1, y1, y1, y1, y1, y1, y1, y1, y1, y1, y1, y1, y1, y1, y1, y1, y1, n1, n1, n1, n1, n1, n1, n1, n1, n1, n1, n1, n1, n1, n1, n1, n1, n1, n1, n1, n1, n1, n1, n1, n1, n1, n1] [0, 12, 13, 51] 0 ⟨[(0, q0 v1), (12, tI v7), (13, tI v8), (51, tB (gD v3 v7 == gD v3 v8))], []⟩ ?_ z0 ⟨hg.1, hg.2.1, hg.2.2.1, hg.2.2.2⟩ ?_
         · kernel_rfl
         refine AAny.split (fun b => ⟨[(0, q0 v1), (12, tI v7), (13, tI v8), (51, tB b)], []⟩) _ (fun hb => ?_) fun hb => ?_
         · replace hd := of_true hd hb
           obtain ⟨hg, hd⟩ := of_guard hd
           refine AAny.go (by kernel_rfl) [21, 22, 23, 24, 25, 26, 27, 28, 29, 30, 31, 32, 33, 34, 35, 36, 37, 38, 39, 40, 41, 42, 43, 44, 45, 46] (fuel' := 0) rfl [(0 : Int) ≤ v7, v7 < (v1.length : Int), (0 : Int) ≤ v7, v7 < (v1.length : Int), (0 : Int) ≤ v8, v8 < (v1.length : Int), (0 : Int) ≤ v8, v8 < (v1.length : Int)] #[y1, y1, y1, y1, y1, y1, y1, y1, y1, y1, y1, y1, y1, y1, y1, y1, y1, y1, y1, y1, y1, y1, y1, y1, y1, y1, y1, y1, y1, y1, y1, y1, y1, y1, y1, y1, y1, y1, y1, y1, y1, y1, y1, y1, y1, y1, y1] [10, 11] 0 ⟨[(10, tB (w64 (((gD v1 v7).f1) * ((gD v1 v7).f2)) == w64 (((gD v1 v8).f1) * ((gD v1 v8).f2)))), (11, tI (0 : Int))], []⟩ ?_ z0 ⟨hg.1, hg.2.1, hg.2.2.1, hg.2.2.2.1, hg.2.2.2.2.1, hg.2.2.2.2.2.1, hg.2.2.2.2.2.2.1, hg.2.2.2.2.2.2.2⟩ ?_
           · kernel_rfl
           refine AAny.keepTo [10, 11] 0 ⟨[(10, tB (w64 (((gD v1 v7).f1) * ((gD v1 v7).f2)) == w64 (((gD v1 v8).f1) * ((gD v1 v8).f2)))), (11, tI (0 : Int))], []⟩ _ ?_ rfl z0 (AAny.done (by kernel_rfl) ?_)
           · kernel_rfl
           cases hd
           exact rfl
         · replace hd := of_false hd hb
           refine AAny.go (by kernel_rfl) [21, 22, 23, 24, 25, 26, 27, 28, 29, 30, 31, 32, 33, 34, 35, 36, 37, 38, 39, 40, 41, 42, 43, 44, 45, 46] (fuel' := 0) rfl [] #[y1, y1, y1, y1, y1, y1, y1, y1, y1, y1, y1, y1, y1, y1, y1, y1, y1, y1, y1, y1, y1, y1, y1, y1, y1, y1, y1, y1, y1, y1, y1, y1, y1, y1, y1, y1, y1, y1, y1, y1, y1, y1, y1, y1, y1, y1, y1] [10, 11] 0 ⟨[(10, tB false), (11, tI (0 : Int))], []⟩ ?_ z0 trivial ?_
           · kernel_rfl
           refine AAny.keepTo [10, 11] 0 ⟨[(10, tB false), (11, tI (0 : Int))], []⟩ _ ?_ rfl z0 (AAny.done (by kernel_rfl) ?_)
           · kernel_rfl
           cases hd
           exact rfl
       · replace hd := of_false hd hb
         refine AAny.go (by kernel_rfl) [10, 11, 12, 13, 14, 15, 16, 17, 18, 19, 20, 21, 22, 23, 24, 25, 26, 27, 28, 29, 30, 31, 32, 33, 34, 35, 36, 37, 38, 39, 40, 41, 42, 43, 44, 45, 46] (fuel' := 0) rfl [] #[y1, y1, y1, y1, y1, y1, y1, y1, y1, y1, y1, y1, y1, y1, y1, y1, y1, y1, y1, y1, y1, y1, y1, y1, y1, y1, y1, y1, y1, y1, y1, y1, y1, y1, y1, y1, y1, y1, y1, y1, y1, y1, y1, y1, y1, y1, y1] [10, 11] 0 ⟨[(10, tB false), (11, tI (0 : Int))], []⟩ ?_ z0 trivial ?_
         · kernel_rfl
         refine AAny.keepTo [10, 11] 0 ⟨[(10, tB false), (11, tI (0 : Int))], []⟩ _ ?_ rfl z0 (AAny.done (by kernel_rfl) ?_)
         · kernel_rfl
         cases hd
         exact rfl
     rintro σ' rfl
     refine AWp.ret ?_
     cases h
     exact ⟨.inr rfl, rfl⟩

noncomputable def f8 (v1 : List T36) (v2 : T42) : Option Bool :=
 (f9 v1 ([] : List (List T34)) ([] : List (List (List UInt8)))).bind fun v3 => (cond v3 (some true) (some (decide ((v2.f0.length : Int) > (500 : Int))))).bind fun v4 => (cond v4 (some true) (some (decide ((v2.f1.length : Int) > (500 : Int))))).bind fun v5 => cond v5 ((f10 ).bind fun v6 => some v6) ((f20 v1 v2.f0 v2.f1 v2.f2 v2.f3).bind fun v7 => (f21 v1 v2.f0 v2.f1 v2.f2 v2.f3).bind fun v8 => (f22 v1 v2.f0 v2.f1 v2.f2.f0 v2.f3.f0).bind fun v9 => (f23 v1 v2.f0 v2.f1 v2.f2.f0 v2.f3.f0).bind fun v10 => (cond (v7.1 == v8.1) (some (v7.2 == v8.2)) (some false)).bind fun v11 => (cond v11 (some (v9.1 == v10.1)) (some false)).bind fun v12 => (cond v12 (some (v9.2 == v10.2)) (some false)).bind fun v13 => (cond v13 ((f10 ).bind fun v15 => some v15) (some false)).bind fun v14 => some v14)

theorem f8_ok (v1 : List T36) (v2 : T42) {r : Bool} (h : f8 v1 v2 = some r) : ACall Try.prog 8 [.tv (fzL 3 c36 v1), .agg [fzL 1 (cInt .i64) v2.f0, fzL 1 (cInt .i64) v2.f1, .str v2.f2.f0, .int .i64 v2.f2.f1, .str v2.f3.f0, .int .i64 v2.f3.f1]] [] (.tv (.bool r)) [] := by
 refine ACall.of1 (FF 105 0) Try.func8 rfl Try.ntmps8 Try.results8 (Nat.le_of_ble_eq_true rfl) rfl rfl ?_
 refine AWp.seq ?_
 refine AWp.start [0, 1] [] [] [0, 3] 1 ⟨[(0, q0 v1), (3, .pc 0 0)], [.cells 43 [k2 v2.f0, k2 v2.f1, .str v2.f2.f0, .int .i64 v2.f2.f1, .str v2.f3.f0, .int .i64 v2.f3.f1]]⟩ rfl ?_ z0 trivial ?_
 · kernel_rfl
 refine AOps.nil ?_
 refine AWp.seq ?_
 refine AWp.seq ?_
 refine AWp.pin 0 rfl rfl ?_
 refine AWp.keepTo [0, 3] 0 ⟨[(0, q0 v1), (3, .rp [k2 v2.f0, k2 v2.f1, .str v2.f2.f0, .int .i64 v2.f2.f1, .str v2.f3.f0, .int .i64 v2.f3.f1])], []⟩ ?_ z0 ?_
 · kernel_rfl
 refine AWp.start [0] [1, 2, 3, 4, 5, 6, 7, 8, 9, 10, 11, 12, 13] [] [0, 3, 13] 0 ⟨[(0, q0 v1), (3, .rp [k2 v2.f0, k2 v2.f1, .str v2.f2.f0, .int .i64 v2.f2.f1, .str v2.f3.f0, .int .i64 v2.f3.f1]), (13, q0 v1)], []⟩ rfl ?_ z0 trivial ?_
 · kernel_rfl
 obtain ⟨v3, hv3, h⟩ := of_bind h
 refine AOps.cons (AOne.callP (F := (FF 105 0)) _ rfl rfl rfl _ rfl rfl _ _ rfl Try.call9 [q0 v1, .tv (.sc (.slice none 0 0)), .tv (.sc (.slice none 0 0))] rfl rfl (ACall.nils (.keep rfl (.nil (.nil .done))) (f9_ok v1 ([] : List (List T34)) ([] : List (List (List UInt8))) hv3)) rfl) ?_
 refine AOps.go [2] [3, 4, 5, 6, 7, 8, 9, 10, 11, 12, 13] [] [0, 3, 15] 0 ⟨[(0, q0 v1), (3, .rp [k2 v2.f0, k2 v2.f1, .str v2.f2.f0, .int .i64 v2.f2.f1, .str v2.f3.f0, .int .i64 v2.f3.f1]), (15, tB v3)], []⟩ ?_ z0 trivial ?_
 · kernel_rfl
 obtain ⟨v4, hc3, h⟩ := of_bind h
 refine AOps.cut [3, 4, 5, 6, 7] [8, 9, 10, 11, 12, 13] (fun σ => σ = ⟨[(0, q0 v1), (3, .rp [k2 v2.f0, k2 v2.f1, .str v2.f2.f0, .int .i64 v2.f2.f1, .str v2.f3.f0, .int .i64 v2.f3.f1]), (20, tB v4)], []⟩) ?_ fun σ' hJ => ?_
 · refine AOps.split (fun b => ⟨[(0, q0 v1), (3, .rp [k2 v2.f0, k2 v2.f1, .str v2.f2.f0, .int .i64 v2.f2.f1, .str v2.f3.f0, .int .i64 v2.f3.f1]), (15, tB b)], []⟩) _ (fun hb => ?_) fun hb => ?_
   · replace hc3 := of_true hc3 hb
     refine AOps.go [3, 4, 5, 6, 7] [] [] [0, 3, 20] 0 ⟨[(0, q0 v1), (3, .rp [k2 v2.f0, k2 v2.f1, .str v2.f2.f0, .int .i64 v2.f2.f1, .str v2.f3.f0, .int .i64 v2.f3.f1]), (20, tB true)], []⟩ ?_ z0 trivial ?_
     · kernel_rfl
     cases hc3
     exact AOps.nil rfl
   · replace hc3 := of_false hc3 hb
     refine AOps.go [3, 4, 5, 6, 7] [] [] [0, 3, 20] 0 ⟨[(0, q0 v1), (3, .rp [k2 v2.f0, k2 v2.f1, .str v2.f2.f0, .int .i64 v2.f2.f1, .str v2.f3.f0, .int .i64 v2.f3.f1]), (20, tB (decide ((v2.f0.length : Int) > (500 : Int))))], []⟩ ?_ z0 trivial ?_
     · kernel_rfl
     cases hc3
     exact AOps.nil rfl
 subst hJ
 refine AOps.go [8] [9, 10, 11, 12, 13] [] [0, 3, 21] 0 ⟨[(0, q0 v1), (3, .rp [k2 v2.f0, k2 v2.f1, .str v2.f2.f0, .int .i64 v2.f2.f1, .str v2.f3.f0, .int .i64 v2.f3.f1]), (21, tB v4)], []⟩ ?_ z0 trivial ?_
 · kernel_rfl
 obtain ⟨v5, hc9, h⟩ := of_bind h
 refine AOps.cut [9, 10, 11, 12, 13] [] (fun σ => σ = ⟨[(0, q0 v1), (3, .rp [k2 v2.f0, k2 v2.f1, .str v2.f2.f0, .int .i64 v2.f2.f1, .str v2.f3.f0, .int .i64 v2.f3.f1]), (26, tB v5)], []⟩) ?_ fun σ' hJ => ?_
 · refine AOps.split (fun b => ⟨[(0, q0 v1), (3, .rp [k2 v2.f0, k2 v2.f1, .str v2.f2.f0, .int .i64 v2.f2.f1, .str v2.f3.f0, .int .i64 v2.f3.f1]), (21, tB b)], []⟩) _ (fun hb => ?_) fun hb => ?_
   · replace hc9 := of_true hc9 hb
     refine AOps.go [9, 10, 11, 12, 13] [] [] [0, 3, 26] 0 ⟨[(0, q0 v1), (3, .rp [k2 v2.f0, k2 v2.f1, .str v2.f2.f0, .int .i64 v2.f2.f1, .str v2.f3.f0, .int .i64 v2.f3.f1]), (26, tB true)], []⟩ ?_ z0 trivial ?_
     · kernel_rfl
     cases hc9
     exact AOps.nil rfl
   · replace hc9 := of_false hc9 hb
     refine AOps.go [9, 10, 11, 12, 13] [] [] [0, 3, 26] 0 ⟨[(0, q0 v1), (3, .rp [k2 v2.f0, k2 v2.f1, .str v2.f2.f0, .int .i64 v2.f2.f1, .str v2.f3.f0, .int .i64 v2.f3.f1]), (26, tB (decide ((v2.f1.length : Int) > (500 : Int))))], []⟩ ?_ z0 trivial ?_
     · kernel_rfl
     cases hc9
     exact AOps.nil rfl
 subst hJ
 refine AOps.nil ?_
 refine AWp.cond rfl (fun hb => ?_) fun hb => ?_
 · replace h := of_true h hb
   refine AWp.keepTo [] 0 ⟨[], []⟩ ?_ z0 ?_
   · kernel_rfl
   refine AWp.seq ?_
   refine AWp.start [] [0, 1] [] [] 0 ⟨[], []⟩ rfl ?_ z0 trivial ?_
   · kernel_rfl
   obtain ⟨v6, hv6, h⟩ := of_bind h
   refine AOps.cons (AOne.callP (F := (FF 105 0)) _ rfl rfl rfl _ rfl rfl _ _ rfl Try.call10 [] rfl rfl (f10_ok  hv6) rfl) ?_
   refine AOps.go [1] [] [] [4] 0 ⟨[(4, tB v6)], []⟩ ?_ z0 trivial ?_
   · kernel_rfl
   refine AOps.nil ?_
   refine AWp.ret ?_
   cases h
   exact ⟨.inr rfl, rfl⟩
 · replace h := of_false h hb
   refine AWp.keepTo [0, 3] 0 ⟨[(0, q0 v1), (3, .rp [k2 v2.f0, k2 v2.f1, .str v2.f2.f0, .int .i64 v2.f2.f1, .str v2.f3.f0, .int .i64 v2.f3.f1])], []⟩ ?_ z0 ?_
   · kernel_rfl
   refine AWp.skip ?_
   refine AWp.seq ?_
   refine AWp.start [0, 1, 2, 3, 4, 5, 6, 7, 8] [9, 10, 11, 12, 13, 14] [] [0, 3, 29, 31, 33, 35, 37] 0 ⟨[(0, q0 v1), (3, .rp [k2 v2.f0, k2 v2.f1, .str v2.f2.f0, .int .i64 v2.f2.f1, .str v2.f3.f0, .int .i64 v2.f3.f1]), (29, q0 v1), (31, q1 v2.f0), (33, q1 v2.f1), (35, .agg [.str v2.f2.f0, .int .i64 v2.f2.f1]), (37, .agg [.str v2.f3.f0, .int .i64 v2.f3.f1])], []⟩ rfl ?_ z0 trivial ?_
   · kernel_rfl
   obtain ⟨v7, hv7, h⟩ := of_bind h
   refine AOps.cons (AOne.callP (F := (FF 105 0)) _ rfl rfl rfl _ rfl rfl _ _ rfl Try.call20 [q0 v1, q1 v2.f0, q1 v2.f1, .agg [.str v2.f2.f0, .int .i64 v2.f2.f1], .agg [.str v2.f3.f0, .int .i64 v2.f3.f1]] rfl rfl (f20_ok v1 v2.f0 v2.f1 v2.f2 v2.f3 hv7) rfl) ?_
   refine AOps.go [10, 11, 12, 13, 14] [] [] [0, 3, 5, 6] 0 ⟨[(0, q0 v1), (3, .rp [k2 v2.f0, k2 v2.f1, .str v2.f2.f0, .int .i64 v2.f2.f1, .str v2.f3.f0, .int .i64 v2.f3.f1]), (5, tB v7.1), (6, tI v7.2)], []⟩ ?_ z0 trivial ?_
   · kernel_rfl
   refine AOps.nil ?_
   refine AWp.seq ?_
   refine AWp.start [0, 1, 2, 3, 4, 5, 6, 7, 8] [9, 10, 11, 12, 13, 14] [] [0, 3, 5, 6, 42, 44, 46, 48, 50] 0 ⟨[(0, q0 v1), (3, .rp [k2 v2.f0, k2 v2.f1, .str v2.f2.f0, .int .i64 v2.f2.f1, .str v2.f3.f0, .int .i64 v2.f3.f1]), (5, tB v7.1), (6, tI v7.2), (42, q0 v1), (44, q1 v2.f0), (46, q1 v2.f1), (48, .agg [.str v2.f2.f0, .int .i64 v2.f2.f1]), (50, .agg [.str v2.f3.f0, .int .i64 v2.f3.f1])], []⟩ rfl ?_ z0 trivial ?_
   · kernel_rfl
   obtain ⟨v8, hv8, h⟩ := of_bind h
   refine AOps.cons (AOne.callP (F := (FF 105 0)) _ rfl rfl rfl _ rfl rfl _ _ rfl Try.call21 [q0 v1, q1 v2.f0, q1 v2.f1, .agg [.str v2.f2.f0, .int .i64 v2.f2.f1], .agg [.str v2.f3.f0, .int .i64 v2.f3.f1]] rfl rfl (f21_ok v1 v2.f0 v2.f1 v2.f2 v2.f3 hv8) rfl) ?_
   refine AOps.go [10, 11, 12, 13, 14] [] [] [0, 3, 5, 6, 7, 8] 0 ⟨[(0, q0 v1), (3, .rp [k2 v2.f0, k2 v2.f1, .str v2.f2.f0, .int .i64 v2.f2.f1, .str v2.f3.f0, .int .i64 v2.f3.f1]), (5, tB v7.1), (6, tI v7.2), (7, tB v8.1), (8, tI v8.2)], []⟩ ?_ z0 trivial ?_
   · kernel_rfl
   refine AOps.nil ?_
   refine AWp.seq ?_
   refine AWp.start [0, 1, 2, 3, 4, 5, 6, 7, 8, 9, 10] [11, 12, 13, 14, 15, 16] [] [0, 3, 5, 6, 7, 8, 55, 57, 59, 62, 65] 0 ⟨[(0, q0 v1), (3, .rp [k2 v2.f0, k2 v2.f1, .str v2.f2.f0, .int .i64 v2.f2.f1, .str v2.f3.f0, .int .i64 v2.f3.f1]), (5, tB v7.1), (6, tI v7.2), (7, tB v8.1), (8, tI v8.2), (55, q0 v1), (57, q1 v2.f0), (59, q1 v2.f1), (62, tS v2.f2.f0), (65, tS v2.f3.f0)], []⟩ rfl ?_ z0 trivial ?_
   · kernel_rfl
   obtain ⟨v9, hv9, h⟩ := of_bind h
   refine AOps.cons (AOne.callP (F := (FF 105 0)) _ rfl rfl rfl _ rfl rfl _ _ rfl Try.call22 [q0 v1, q1 v2.f0, q1 v2.f1, tS v2.f2.f0, tS v2.f3.f0] rfl rfl (f22_ok v1 v2.f0 v2.f1 v2.f2.f0 v2.f3.f0 hv9) rfl) ?_
   refine AOps.go [12, 13, 14, 15, 16] [] [] [0, 3, 5, 6, 7, 8, 9, 10] 0 ⟨[(0, q0 v1), (3, .rp [k2 v2.f0, k2 v2.f1, .str v2.f2.f0, .int .i64 v2.f2.f1, .str v2.f3.f0, .int .i64 v2.f3.f1]), (5, tB v7.1), (6, tI v7.2), (7, tB v8.1), (8, tI v8.2), (9, tB v9.1), (10, tI v9.2)], []⟩ ?_ z0 trivial ?_
   · kernel_rfl
   refine AOps.nil ?_
   refine AWp.seq ?_
   refine AWp.start [0, 1, 2, 3, 4, 5, 6, 7, 8, 9, 10] [11, 12, 13, 14, 15, 16] [] [5, 6, 7, 8, 9, 10, 70, 72, 74, 77, 80] 0 ⟨[(5, tB v7.1), (6, tI v7.2), (7, tB v8.1), (8, tI v8.2), (9, tB v9.1), (10, tI v9.2), (70, q0 v1), (72, q1 v2.f0), (74, q1 v2.f1), (77, tS v2.f2.f0), (80, tS v2.f3.f0)], []⟩ rfl ?_ z0 trivial ?_
   · kernel_rfl
   obtain ⟨v10, hv10, h⟩ := of_bind h
   refine AOps.cons (AOne.callP (F := (FF 105 0)) _ rfl rfl rfl _ rfl rfl _ _ rfl Try.call23 [q0 v1, q1 v2.f0, q1 v2.f1, tS v2.f2.f0, tS v2.f3.f0] rfl rfl (f23_ok v1 v2.f0 v2.f1 v2.f2.f0 v2.f3.f0 hv10) rfl) ?_
   refine AOps.go [12, 13, 14, 15, 16] [] [] [5, 6, 7, 8, 9, 10, 11, 12] 0 ⟨[(5, tB v7.1), (6, tI v7.2), (7, tB v8.1), (8, tI v8.2), (9, tB v9.1), (10, tI v9.2), (11, tB v10.1), (12, tI v10.2)], []⟩ ?_ z0 trivial ?_
   · kernel_rfl
   refine AOps.nil ?_
   refine AWp.seq ?_
   refine AWp.start [0, 1, 2, 3] [4, 5, 6, 7, 8, 9, 10, 11, 12, 13, 14, 15, 16, 17, 18, 19, 20, 21] [] [6, 8, 9, 10, 11, 12, 87] 0 ⟨[(6, tI v7.2), (8, tI v8.2), (9, tB v9.1), (10, tI v9.2), (11, tB v10.1), (12, tI v10.2), (87, tB (v7.1 == v8.1))], []⟩ rfl ?_ z0 trivial ?_
   · kernel_rfl
   obtain ⟨v11, hc4, h⟩ := of_bind h
   refine AOps.cut [4, 5, 6, 7] [8, 9, 10, 11, 12, 13, 14, 15, 16, 17, 18, 19, 20, 21] (fun σ => σ = ⟨[(9, tB v9.1), (10, tI v9.2), (11, tB v10.1), (12, tI v10.2), (91, tB v11)], []⟩) ?_ fun σ' hJ => ?_
   · refine AOps.split (fun b => ⟨[(6, tI v7.2), (8, tI v8.2), (9, tB v9.1), (10, tI v9.2), (11, tB v10.1), (12, tI v10.2), (87, tB b)], []⟩) _ (fun hb => ?_) fun hb => ?_
     · replace hc4 := of_true hc4 hb
       refine AOps.go [4, 5, 6, 7] [] [] [9, 10, 11, 12, 91] 0 ⟨[(9, tB v9.1), (10, tI v9.2), (11, tB v10.1), (12, tI v10.2), (91, tB (v7.2 == v8.2))], []⟩ ?_ z0 trivial ?_
       · kernel_rfl
       cases hc4
       exact AOps.nil rfl
     · replace hc4 := of_false hc4 hb
       refine AOps.go [4, 5, 6, 7] [] [] [9, 10, 11, 12, 91] 0 ⟨[(9, tB v9.1), (10, tI v9.2), (11, tB v10.1), (12, tI v10.2), (91, tB false)], []⟩ ?_ z0 trivial ?_
       · kernel_rfl
       cases hc4
       exact AOps.nil rfl
   subst hJ
   refine AOps.go [8] [9, 10, 11, 12, 13, 14, 15, 16, 17, 18, 19, 20, 21] [] [9, 10, 11, 12, 92] 0 ⟨[(9, tB v9.1), (10, tI v9.2), (11, tB v10.1), (12, tI v10.2), (92, tB v11)], []⟩ ?_ z0 trivial ?_
   · kernel_rfl
   obtain ⟨v12, hc9, h⟩ := of_bind h
   refine AOps.cut [9, 10, 11, 12] [13, 14, 15, 16, 17, 18, 19, 20, 21] (fun σ => σ = ⟨[(10, tI v9.2), (12, tI v10.2), (96, tB v12)], []⟩) ?_ fun σ' hJ => ?_
   · refine AOps.split (fun b => ⟨[(9, tB v9.1), (10, tI v9.2), (11, tB v10.1), (12, tI v10.2), (92, tB b)], []⟩) _ (fun hb => ?_) fun hb => ?_
     · replace hc9 := of_true hc9 hb
       refine AOps.go [9, 10, 11, 12] [] [] [10, 12, 96] 0 ⟨[(10, tI v9.2), (12, tI v10.2), (96, tB (v9.1 == v10.1))], []⟩ ?_ z0 trivial ?_
       · kernel_rfl
       cases hc9
       exact AOps.nil rfl
     · replace hc9 := of_false hc9 hb
       refine AOps.go [9, 10, 11, 12] [] [] [10, 12, 96] 0 ⟨[(10, tI v9.2), (12, tI v10.2), (96, tB false)], []⟩ ?_ z0 trivial ?_
       · kernel_rfl
       cases hc9
       exact AOps.nil rfl
   subst hJ
   refine AOps.go [13] [14, 15, 16, 17, 18, 19, 20, 21] [] [10, 12, 97] 0 ⟨[(10, tI v9.2), (12, tI v10.2), (97, tB v12)], []⟩ ?_ z0 trivial ?_
   · kernel_rfl
   obtain ⟨v13, hc14, h⟩ := of_bind h
   refine AOps.cut [14, 15, 16, 17] [18, 19, 20, 21] (fun σ => σ = ⟨[(101, tB v13)], []⟩) ?_ fun σ' hJ => ?_
   · refine AOps.split (fun b => ⟨[(10, tI v9.2), (12, tI v10.2), (97, tB b)], []⟩) _ (fun hb => ?_) fun hb => ?_
     · replace hc14 := of_true hc14 hb
       refine AOps.go [14, 15, 16, 17] [] [] [101] 0 ⟨[(101, tB (v9.2 == v10.2))], []⟩ ?_ z0 trivial ?_
       · kernel_rfl
       cases hc14
       exact AOps.nil rfl
     · replace hc14 := of_false hc14 hb
       refine AOps.go [14, 15, 16, 17] [] [] [101] 0 ⟨[(101, tB false)], []⟩ ?_ z0 trivial ?_
       · kernel_rfl
       cases hc14
       exact AOps.nil rfl
   subst hJ
   refine AOps.go [18] [19, 20, 21] [] [102] 0 ⟨[(102, tB v13)], []⟩ ?_ z0 trivial ?_
   · kernel_rfl
   obtain ⟨v14, hc19, h⟩ := of_bind h
   refine AOps.cut [19, 20] [21] (fun σ => σ = ⟨[(104, tB v14)], []⟩) ?_ fun σ' hJ => ?_
   · refine AOps.split (fun b => ⟨[(102, tB b)], []⟩) _ (fun hb => ?_) fun hb => ?_
     · replace hc19 := of_true hc19 hb
       obtain ⟨v15, hv15, hc19⟩ := of_bind hc19
       refine AOps.cons (AOne.callP (F := (FF 105 0)) _ rfl rfl rfl _ rfl rfl _ _ rfl Try.call10 [] rfl rfl (f10_ok  hv15) rfl) ?_
       refine AOps.go [20] [] [] [104] 0 ⟨[(104, tB v15)], []⟩ ?_ z0 trivial ?_
       · kernel_rfl
       cases hc19
       exact AOps.nil rfl
     · replace hc19 := of_false hc19 hb
       refine AOps.go [19, 20] [] [] [104] 0 ⟨[(104, tB false)], []⟩ ?_ z0 trivial ?_
       · kernel_rfl
       cases hc19
       exact AOps.nil rfl
   subst hJ
   refine AOps.go [21] [] [] [4] 0 ⟨[(4, tB v14)], []⟩ ?_ z0 trivial ?_
   · kernel_rfl
   refine AOps.nil ?_
   refine AWp.ret ?_
   cases h
   exact ⟨.inr rfl, rfl⟩

end Go.Sx.sto
