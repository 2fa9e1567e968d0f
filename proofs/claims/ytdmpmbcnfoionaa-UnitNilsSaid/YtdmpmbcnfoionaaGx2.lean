/- Printed by program (wip/gen): plain functions and their walks; no condition. -/
import Derived.Test.YtdmpmbcnfoionaaGx1
namespace Go.Sx.unit
open Go Go.Sx Go.Proofs

noncomputable def f19 (v1 : T64) : Option Int :=
 (f41 v1).bind fun v2 => (cond v2 (some true) (some (v1.f0 == ([100, 105, 114, 101, 99, 116] : List UInt8)))).bind fun v3 => cond v3 (some (0 : Int)) (cond (v1.f0 == ([115, 116, 114, 101, 97, 109] : List UInt8)) (some (w64 (v1.f3 + (1 : Int)))) (if (0 : Int) ≤ v1.f3 ∧ v1.f3 ≤ (v1.f2.length : Int) then (f35 v1.f0 ((v1.f2.take (Int.toNat v1.f3)).drop 0)).bind fun v4 => some (v4.1.length : Int) else none))

theorem f19_ok (v1 : T64) {r : Int} (h : f19 v1 = some r) : ACall Try.prog 19 [.rp [.str v1.f0, .int .i64 v1.f1, fzL 1 (cInt .u8) v1.f2, .int .i64 v1.f3, .bool v1.f4]] [] (.tv (.int .i64 r)) [] := by
 refine ACall.of1 (FF 45 0) Try.func19 rfl Try.ntmps19 Try.results19 (Nat.le_of_ble_eq_true rfl) rfl rfl ?_
 refine AWp.seq ?_
 refine AWp.start [0] [] [] [0] 0 ⟨[(0, .rp [.str v1.f0, .int .i64 v1.f1, k0 v1.f2, .int .i64 v1.f3, .bool v1.f4])], []⟩ rfl ?_ z0 trivial ?_
 · kernel_rfl
 refine AOps.nil ?_
 refine AWp.seq ?_
 refine AWp.block ?_
 refine AWp.seq ?_
 refine AWp.start [0] [1, 2, 3, 4, 5, 6, 7, 8, 9] [] [0, 6] 0 ⟨[(0, .rp [.str v1.f0, .int .i64 v1.f1, k0 v1.f2, .int .i64 v1.f3, .bool v1.f4]), (6, .rp [.str v1.f0, .int .i64 v1.f1, k0 v1.f2, .int .i64 v1.f3, .bool v1.f4])], []⟩ rfl ?_ z0 trivial ?_
 · kernel_rfl
 obtain ⟨v2, hv2, h⟩ := of_bind h
 refine AOps.cons (AOne.callP (F := (FF 45 0)) _ rfl rfl rfl _ rfl rfl _ _ rfl Try.call41 [.rp [.str v1.f0, .int .i64 v1.f1, k0 v1.f2, .int .i64 v1.f3, .bool v1.f4]] rfl rfl (f41_ok v1 hv2) rfl) ?_
 refine AOps.go [2] [3, 4, 5, 6, 7, 8, 9] [] [0, 8] 0 ⟨[(0, .rp [.str v1.f0, .int .i64 v1.f1, k0 v1.f2, .int .i64 v1.f3, .bool v1.f4]), (8, tB v2)], []⟩ ?_ z0 trivial ?_
 · kernel_rfl
 obtain ⟨v3, hc3, h⟩ := of_bind h
 refine AOps.cut [3, 4, 5, 6, 7, 8] [9] (fun σ => σ = ⟨[(0, .rp [.str v1.f0, .int .i64 v1.f1, k0 v1.f2, .int .i64 v1.f3, .bool v1.f4]), (14, tB v3)], []⟩) ?_ fun σ' hJ => ?_
 · refine AOps.split (fun b => ⟨[(0, .rp [.str v1.f0, .int .i64 v1.f1, k0 v1.f2, .int .i64 v1.f3, .bool v1.f4]), (8, tB b)], []⟩) _ (fun hb => ?_) fun hb => ?_
   · replace hc3 := of_true hc3 hb
     refine AOps.go [3, 4, 5, 6, 7, 8] [] [] [0, 14] 0 ⟨[(0, .rp [.str v1.f0, .int .i64 v1.f1, k0 v1.f2, .int .i64 v1.f3, .bool v1.f4]), (14, tB true)], []⟩ ?_ z0 trivial ?_
     · kernel_rfl
     cases hc3
     exact AOps.nil rfl
   · replace hc3 := of_false hc3 hb
     refine AOps.go [3, 4, 5, 6, 7, 8] [] [] [0, 14] 0 ⟨[(0, .rp [.str v1.f0, .int .i64 v1.f1, k0 v1.f2, .int .i64 v1.f3, .bool v1.f4]), (14, tB (v1.f0 == ([100, 105, 114, 101, 99, 116] : List UInt8)))], []⟩ ?_ z0 trivial ?_
     · kernel_rfl
     cases hc3
     exact AOps.nil rfl
 subst hJ
 refine AOps.go [9] [] [] [0, 5] 0 ⟨[(0, .rp [.str v1.f0, .int .i64 v1.f1, k0 v1.f2, .int .i64 v1.f3, .bool v1.f4]), (5, tB v3)], []⟩ ?_ z0 trivial ?_
 · kernel_rfl
 refine AOps.nil ?_
 refine AWp.cond rfl (fun hb => ?_) fun hb => ?_
 · replace h := of_true h hb
   refine AWp.keepTo [] 0 ⟨[], []⟩ ?_ z0 ?_
   · kernel_rfl
   refine AWp.seq ?_
   refine AWp.start [0] [] [] [2] 0 ⟨[(2, tI (0 : Int))], []⟩ rfl ?_ z0 trivial ?_
   · kernel_rfl
   refine AOps.nil ?_
   refine AWp.ret ?_
   cases h
   exact ⟨.inr rfl, rfl⟩
 · replace h := of_false h hb
   refine AWp.keepTo [0] 0 ⟨[(0, .rp [.str v1.f0, .int .i64 v1.f1, k0 v1.f2, .int .i64 v1.f3, .bool v1.f4])], []⟩ ?_ z0 ?_
   · kernel_rfl
   refine AWp.seq ?_
   refine AWp.start [0, 1, 2, 3, 4, 5] [] [] [0, 15] 0 ⟨[(0, .rp [.str v1.f0, .int .i64 v1.f1, k0 v1.f2, .int .i64 v1.f3, .bool v1.f4]), (15, tB (v1.f0 == ([115, 116, 114, 101, 97, 109] : List UInt8)))], []⟩ rfl ?_ z0 trivial ?_
   · kernel_rfl
   refine AOps.nil ?_
   refine AWp.cond rfl (fun hb => ?_) fun hb => ?_
   · replace h := of_true h hb
     refine AWp.keepTo [0] 0 ⟨[(0, .rp [.str v1.f0, .int .i64 v1.f1, k0 v1.f2, .int .i64 v1.f3, .bool v1.f4])], []⟩ ?_ z0 ?_
     · kernel_rfl
     refine AWp.seq ?_
     refine AWp.start [0, 1, 2, 3, 4, 5] [] [] [2] 0 ⟨[(2, tI (w64 (v1.f3 + (1 : Int))))], []⟩ rfl ?_ z0 trivial ?_
     · kernel_rfl
     refine AOps.nil ?_
     refine AWp.ret ?_
     cases h
     exact ⟨.inr rfl, rfl⟩
   · replace h := of_false h hb
     refine AWp.keepTo [0] 0 ⟨[(0, .rp [.str v1.f0, .int .i64 v1.f1, k0 v1.f2, .int .i64 v1.f3, .bool v1.f4])], []⟩ ?_ z0 ?_
     · kernel_rfl
     refine AWp.skip ?_
     refine AWp.seq ?_
     refine AWp.draw FFm _ (n := 19) rfl (ls := #[n1, n1, n1, n1, n1, n1, n1, n1, n1, n1, n1, n1, n1, n1, n1, n1, n1, n1, n1]) rfl ?_ (fun _ h => h)
     obtain ⟨hg, h⟩ := of_guard h
     refine AAny.go (by kernel_rfl) [0, 1, 2, 3, 4, 5, 6, 7, 8, 9, 10, 11, 12] (fuel' := 6) rfl [(0 : Int) ≤ (0 : Int), (0 : Int) ≤ v1.f3, v1.f3 ≤ (v1.f2.length : Int)] #[y1, y1, y1, y1, y1, y1, y1, y1, y1, y1, y1, y1, y1, n1, n1, n1, n1, n1, n1] [30, 39] 0 ⟨[(30, tS v1.f0), (39, .tv (.fz 1 ((Int.toNat v1.f3) - 0) (fun i => (cInt .u8) (v1.f2.getD (0 + i) default))))], []⟩ ?_ z0 ⟨(by decide : (0 : Int) ≤ (0 : Int)), hg.1, hg.2⟩ ?_
     · kernel_rfl
     have hb : (Int.toNat v1.f3) ≤ v1.f2.length := by have hh : v1.f3 ≤ (v1.f2.length : Int) := hg.2; omega
     refine AAny.extFzL (s := 39) rfl (sub_len v1.f2 0 (Int.toNat v1.f3) hb) (sub_at (cInt .u8) v1.f2 0 (Int.toNat v1.f3) hb) ?_
     obtain ⟨v4, hv4, h⟩ := of_bind h
     refine AAny.serial (i := 13) (fuel := 5) (by kernel_rfl) (AOne.callP (F := (FF 45 0)) _ rfl rfl rfl _ rfl rfl _ _ rfl Try.call35 [tS v1.f0, q0 ((v1.f2.take (Int.toNat v1.f3)).drop 0)] rfl rfl (f35_ok v1.f0 ((v1.f2.take (Int.toNat v1.f3)).drop 0) hv4) rfl) ?_
     refine AAny.keepTo [40] 0 ⟨[(40, .tup [.tv (fzL 1 (cInt .i64) v4.1), tB v4.2])], []⟩ #[y1, y1, y1, y1, y1, y1, y1, y1, y1, y1, y1, y1, y1, y1, n1, n1, n1, n1, n1] ?_ rfl z0 ?_
     · kernel_rfl
     refine AAny.go (by kernel_rfl) [14, 15, 16, 17, 18] (fuel' := 0) rfl [] #[y1, y1, y1, y1, y1, y1, y1, y1, y1, y1, y1, y1, y1, y1, y1, y1, y1, y1, y1] [3] 0 ⟨[(3, .tv (fzL 1 (cInt .i64) v4.1))], []⟩ ?_ z0 trivial ?_
     · kernel_rfl
     refine AAny.keepTo [3] 0 ⟨[(3, .tv (fzL 1 (cInt .i64) v4.1))], []⟩ _ ?_ rfl z0 (AAny.done (by kernel_rfl) ?_)
     · kernel_rfl
     refine AWp.seq ?_
     refine AWp.start [0, 1, 2] [] [] [2] 0 ⟨[(2, tI (v4.1.length : Int))], []⟩ rfl ?_ z0 trivial ?_
     · kernel_rfl
     refine AOps.nil ?_
     refine AWp.ret ?_
     cases h
     exact ⟨.inr rfl, rfl⟩

noncomputable def f34 (v1 : T64) : Option (List UInt8) :=
 (f41 v1).bind fun v2 => cond v2 (some ([] : List UInt8)) (some v1.f0)

theorem f34_ok (v1 : T64) {r : (List UInt8)} (h : f34 v1 = some r) : ACall Try.prog 34 [.rp [.str v1.f0, .int .i64 v1.f1, fzL 1 (cInt .u8) v1.f2, .int .i64 v1.f3, .bool v1.f4]] [] (.tv (.str r)) [] := by
 refine ACall.of1 (FF 9 0) Try.func34 rfl Try.ntmps34 Try.results34 (Nat.le_of_ble_eq_true rfl) rfl rfl ?_
 refine AWp.seq ?_
 refine AWp.start [0] [] [] [0] 0 ⟨[(0, .rp [.str v1.f0, .int .i64 v1.f1, k0 v1.f2, .int .i64 v1.f3, .bool v1.f4])], []⟩ rfl ?_ z0 trivial ?_
 · kernel_rfl
 refine AOps.nil ?_
 refine AWp.seq ?_
 refine AWp.seq ?_
 refine AWp.start [0] [1] [] [0, 3] 0 ⟨[(0, .rp [.str v1.f0, .int .i64 v1.f1, k0 v1.f2, .int .i64 v1.f3, .bool v1.f4]), (3, .rp [.str v1.f0, .int .i64 v1.f1, k0 v1.f2, .int .i64 v1.f3, .bool v1.f4])], []⟩ rfl ?_ z0 trivial ?_
 · kernel_rfl
 obtain ⟨v2, hv2, h⟩ := of_bind h
 refine AOps.cons (AOne.callP (F := (FF 9 0)) _ rfl rfl rfl _ rfl rfl _ _ rfl Try.call41 [.rp [.str v1.f0, .int .i64 v1.f1, k0 v1.f2, .int .i64 v1.f3, .bool v1.f4]] rfl rfl (f41_ok v1 hv2) rfl) ?_
 refine AOps.keepTo [0, 4] 0 ⟨[(0, .rp [.str v1.f0, .int .i64 v1.f1, k0 v1.f2, .int .i64 v1.f3, .bool v1.f4]), (4, tB v2)], []⟩ ?_ z0 ?_
 · kernel_rfl
 refine AOps.nil ?_
 refine AWp.cond rfl (fun hb => ?_) fun hb => ?_
 · replace h := of_true h hb
   refine AWp.keepTo [] 0 ⟨[], []⟩ ?_ z0 ?_
   · kernel_rfl
   refine AWp.seq ?_
   refine AWp.start [0] [] [] [2] 0 ⟨[(2, tS ([] : List UInt8))], []⟩ rfl ?_ z0 trivial ?_
   · kernel_rfl
   refine AOps.nil ?_
   refine AWp.ret ?_
   cases h
   exact ⟨.inr rfl, rfl⟩
 · replace h := of_false h hb
   refine AWp.keepTo [0] 0 ⟨[(0, .rp [.str v1.f0, .int .i64 v1.f1, k0 v1.f2, .int .i64 v1.f3, .bool v1.f4])], []⟩ ?_ z0 ?_
   · kernel_rfl
   refine AWp.skip ?_
   refine AWp.seq ?_
   refine AWp.start [0, 1, 2, 3, 4] [] [] [2] 0 ⟨[(2, tS v1.f0)], []⟩ rfl ?_ z0 trivial ?_
   · kernel_rfl
   refine AOps.nil ?_
   refine AWp.ret ?_
   cases h
   exact ⟨.inr rfl, rfl⟩

noncomputable def f30o (v1 : T64) : Option (Option T64) :=
 (f41 v1).bind fun v2 => cond v2 (some none) ((f37 v1.f2).bind fun v3 => some (some (T64.mk v1.f0 v1.f1 v3 v1.f3 v1.f4)))

theorem f30o_ok (v1 : T64) {r : (Option T64)} (h : f30o v1 = some r) : ACall Try.prog 30 [.pc 0 0] [.cells 65 [.str v1.f0, .int .i64 v1.f1, fzL 1 (cInt .u8) v1.f2, .int .i64 v1.f3, .bool v1.f4]] ((match r with | none => .tv (.sc (.pointer none)) | some _ => .pc 1 0)) ([.cells 65 [.str v1.f0, .int .i64 v1.f1, fzL 1 (cInt .u8) v1.f2, .int .i64 v1.f3, .bool v1.f4]] ++ (match r with | none => [] | some u => [.cells 65 [.str u.f0, .int .i64 u.f1, fzL 1 (cInt .u8) u.f2, .int .i64 u.f3, .bool u.f4]])) := by
 refine ACall.of1 (FF 15 1) Try.func30 rfl Try.ntmps30 Try.results30 (Nat.le_of_ble_eq_true rfl) rfl (by rcases r with _ | r <;> rfl) ?_
 refine AWp.seq ?_
 refine AWp.start [0] [] [] [0] 1 ⟨[(0, .pc 0 0)], [.cells 65 [.str v1.f0, .int .i64 v1.f1, k0 v1.f2, .int .i64 v1.f3, .bool v1.f4]]⟩ rfl ?_ (Nat.le_of_ble_eq_true rfl) trivial ?_
 · kernel_rfl
 refine AOps.nil ?_
 refine AWp.seq ?_
 refine AWp.seq ?_
 refine AWp.start [0] [1] [] [0, 4] 1 ⟨[(0, .pc 0 0), (4, .pc 0 0)], [.cells 65 [.str v1.f0, .int .i64 v1.f1, k0 v1.f2, .int .i64 v1.f3, .bool v1.f4]]⟩ rfl ?_ (Nat.le_of_ble_eq_true rfl) trivial ?_
 · kernel_rfl
 obtain ⟨v2, hv2, h⟩ := of_bind h
 refine AOps.cons (AOne.callR (F := (FF 15 1)) _ rfl rfl rfl _ rfl rfl _ _ rfl Try.call41 [] [.rp [.str v1.f0, .int .i64 v1.f1, k0 v1.f2, .int .i64 v1.f3, .bool v1.f4]] rfl trivial (f41_ok v1 hv2) (ind_of rfl) rfl) ?_
 refine AOps.keepTo [0, 5] 1 ⟨[(0, .pc 0 0), (5, tB v2)], [.cells 65 [.str v1.f0, .int .i64 v1.f1, k0 v1.f2, .int .i64 v1.f3, .bool v1.f4]]⟩ ?_ (Nat.le_of_ble_eq_true rfl) ?_
 · kernel_rfl
 refine AOps.nil ?_
 refine AWp.cond rfl (fun hb => ?_) fun hb => ?_
 · replace h := of_true h hb
   refine AWp.keepTo [] 1 ⟨[], [.cells 65 [.str v1.f0, .int .i64 v1.f1, k0 v1.f2, .int .i64 v1.f3, .bool v1.f4]]⟩ ?_ (Nat.le_of_ble_eq_true rfl) ?_
   · kernel_rfl
   refine AWp.seq ?_
   refine AWp.start [0] [] [] [2] 1 ⟨[(2, .tv (.sc (.pointer none)))], [.cells 65 [.str v1.f0, .int .i64 v1.f1, k0 v1.f2, .int .i64 v1.f3, .bool v1.f4]]⟩ rfl ?_ (Nat.le_of_ble_eq_true rfl) trivial ?_
   · kernel_rfl
   refine AOps.nil ?_
   refine AWp.ret ?_
   cases h
   exact ⟨.inr rfl, rfl⟩
 · replace h := of_false h hb
   refine AWp.keepTo [0] 1 ⟨[(0, .pc 0 0)], [.cells 65 [.str v1.f0, .int .i64 v1.f1, k0 v1.f2, .int .i64 v1.f3, .bool v1.f4]]⟩ ?_ (Nat.le_of_ble_eq_true rfl) ?_
   · kernel_rfl
   refine AWp.skip ?_
   refine AWp.seq ?_
   refine AWp.start [0, 1, 2, 3, 4] [] [] [0, 3] 2 ⟨[(0, .pc 0 0), (3, .pc 1 0)], [.cells 65 [.str v1.f0, .int .i64 v1.f1, k0 v1.f2, .int .i64 v1.f3, .bool v1.f4], .cells 65 [.str v1.f0, .int .i64 v1.f1, k0 v1.f2, .int .i64 v1.f3, .bool v1.f4]]⟩ rfl ?_ (Nat.le_of_ble_eq_true rfl) trivial ?_
   · kernel_rfl
   refine AOps.nil ?_
   refine AWp.seq ?_
   refine AWp.start [0, 1, 2, 3] [4, 5, 6] [] [3, 12] 2 ⟨[(3, .pc 1 0), (12, q0 v1.f2)], [.cells 65 [.str v1.f0, .int .i64 v1.f1, k0 v1.f2, .int .i64 v1.f3, .bool v1.f4], .cells 65 [.str v1.f0, .int .i64 v1.f1, k0 v1.f2, .int .i64 v1.f3, .bool v1.f4]]⟩ rfl ?_ (Nat.le_of_ble_eq_true rfl) trivial ?_
   · kernel_rfl
   obtain ⟨v3, hv3, h⟩ := of_bind h
   refine AOps.cons (AOne.callP (F := (FF 15 1)) _ rfl rfl rfl _ rfl rfl _ _ rfl Try.call37 [q0 v1.f2] rfl rfl (f37_ok v1.f2 hv3) rfl) ?_
   refine AOps.freezeL 13 (cInt .u8) v3 rfl (fun _ => rfl) ?_
   refine AOps.go [5, 6] [] [] [3] 2 ⟨[(3, .pc 1 0)], [.cells 65 [.str v1.f0, .int .i64 v1.f1, k0 v1.f2, .int .i64 v1.f3, .bool v1.f4], .cells 65 [.str v1.f0, .int .i64 v1.f1, k0 v3, .int .i64 v1.f3, .bool v1.f4]]⟩ ?_ (Nat.le_of_ble_eq_true rfl) trivial ?_
   · kernel_rfl
   refine AOps.nil ?_
   refine AWp.seq ?_
   refine AWp.start [0] [] [] [2] 2 ⟨[(2, .pc 1 0)], [.cells 65 [.str v1.f0, .int .i64 v1.f1, k0 v1.f2, .int .i64 v1.f3, .bool v1.f4], .cells 65 [.str v1.f0, .int .i64 v1.f1, k0 v3, .int .i64 v1.f3, .bool v1.f4]]⟩ rfl ?_ (Nat.le_of_ble_eq_true rfl) trivial ?_
   · kernel_rfl
   refine AOps.nil ?_
   refine AWp.ret ?_
   cases h
   exact ⟨.inr rfl, rfl⟩

noncomputable def f32_z1 (v1 : T64) : Option Bool :=
 (f41 v1).bind fun v2 => (cond v2 (some true) ((f41_z ).bind fun v4 => some v4)).bind fun v3 => cond v3 ((f41 v1).bind fun v5 => (cond v5 ((f41_z ).bind fun v7 => some v7) (some false)).bind fun v6 => some v6) none

theorem f32_z1_ok (v1 : T64) {r : Bool} (h : f32_z1 v1 = some r) : ACall Try.prog 32 [.rp [.str v1.f0, .int .i64 v1.f1, fzL 1 (cInt .u8) v1.f2, .int .i64 v1.f3, .bool v1.f4], .tv (.sc (.pointer none))] [] (.tv (.bool r)) [] := by
 refine ACall.of1 (FF 70 0) Try.func32 rfl Try.ntmps32 Try.results32 (Nat.le_of_ble_eq_true rfl) rfl rfl ?_
 refine AWp.seq ?_
 refine AWp.start [0] [] [] [0, 1] 0 ⟨[(0, .rp [.str v1.f0, .int .i64 v1.f1, k0 v1.f2, .int .i64 v1.f3, .bool v1.f4]), (1, .tv (.sc (.pointer none)))], []⟩ rfl ?_ z0 trivial ?_
 · kernel_rfl
 refine AOps.nil ?_
 refine AWp.seq ?_
 refine AWp.seq ?_
 refine AWp.start [0] [1, 2, 3, 4, 5] [] [0, 1, 5] 0 ⟨[(0, .rp [.str v1.f0, .int .i64 v1.f1, k0 v1.f2, .int .i64 v1.f3, .bool v1.f4]), (1, .tv (.sc (.pointer none))), (5, .rp [.str v1.f0, .int .i64 v1.f1, k0 v1.f2, .int .i64 v1.f3, .bool v1.f4])], []⟩ rfl ?_ z0 trivial ?_
 · kernel_rfl
 obtain ⟨v2, hv2, h⟩ := of_bind h
 refine AOps.cons (AOne.callP (F := (FF 70 0)) _ rfl rfl rfl _ rfl rfl _ _ rfl Try.call41 [.rp [.str v1.f0, .int .i64 v1.f1, k0 v1.f2, .int .i64 v1.f3, .bool v1.f4]] rfl rfl (f41_ok v1 hv2) rfl) ?_
 refine AOps.go [2] [3, 4, 5] [] [0, 1, 7] 0 ⟨[(0, .rp [.str v1.f0, .int .i64 v1.f1, k0 v1.f2, .int .i64 v1.f3, .bool v1.f4]), (1, .tv (.sc (.pointer none))), (7, tB v2)], []⟩ ?_ z0 trivial ?_
 · kernel_rfl
 obtain ⟨v3, hc3, h⟩ := of_bind h
 refine AOps.cut [3, 4, 5] [] (fun σ => σ = ⟨[(0, .rp [.str v1.f0, .int .i64 v1.f1, k0 v1.f2, .int .i64 v1.f3, .bool v1.f4]), (1, .tv (.sc (.pointer none))), (10, tB v3)], []⟩) ?_ fun σ' hJ => ?_
 · refine AOps.split (fun b => ⟨[(0, .rp [.str v1.f0, .int .i64 v1.f1, k0 v1.f2, .int .i64 v1.f3, .bool v1.f4]), (1, .tv (.sc (.pointer none))), (7, tB b)], []⟩) _ (fun hb => ?_) fun hb => ?_
   · replace hc3 := of_true hc3 hb
     refine AOps.go [3, 4, 5] [] [] [0, 1, 10] 0 ⟨[(0, .rp [.str v1.f0, .int .i64 v1.f1, k0 v1.f2, .int .i64 v1.f3, .bool v1.f4]), (1, .tv (.sc (.pointer none))), (10, tB true)], []⟩ ?_ z0 trivial ?_
     · kernel_rfl
     cases hc3
     exact AOps.nil rfl
   · replace hc3 := of_false hc3 hb
     refine AOps.go [3] [4, 5] [] [0, 1, 7, 8] 0 ⟨[(0, .rp [.str v1.f0, .int .i64 v1.f1, k0 v1.f2, .int .i64 v1.f3, .bool v1.f4]), (1, .tv (.sc (.pointer none))), (7, tB false), (8, .tv (.sc (.pointer none)))], []⟩ ?_ z0 trivial ?_
     · kernel_rfl
     obtain ⟨v4, hv4, hc3⟩ := of_bind hc3
     refine AOps.cons (AOne.callP (F := (FF 70 0)) _ rfl rfl rfl _ rfl rfl _ _ rfl Try.call41 [.tv (.sc (.pointer none))] rfl rfl (f41_z_ok  hv4) rfl) ?_
     refine AOps.go [5] [] [] [0, 1, 10] 0 ⟨[(0, .rp [.str v1.f0, .int .i64 v1.f1, k0 v1.f2, .int .i64 v1.f3, .bool v1.f4]), (1, .tv (.sc (.pointer none))), (10, tB v4)], []⟩ ?_ z0 trivial ?_
     · kernel_rfl
     cases hc3
     exact AOps.nil rfl
 subst hJ
 refine AOps.nil ?_
 refine AWp.cond rfl (fun hb => ?_) fun hb => ?_
 · replace h := of_true h hb
   refine AWp.keepTo [0, 1] 0 ⟨[(0, .rp [.str v1.f0, .int .i64 v1.f1, k0 v1.f2, .int .i64 v1.f3, .bool v1.f4]), (1, .tv (.sc (.pointer none)))], []⟩ ?_ z0 ?_
   · kernel_rfl
   refine AWp.seq ?_
   refine AWp.start [0] [1, 2, 3, 4, 5, 6] [] [1, 11] 0 ⟨[(1, .tv (.sc (.pointer none))), (11, .rp [.str v1.f0, .int .i64 v1.f1, k0 v1.f2, .int .i64 v1.f3, .bool v1.f4])], []⟩ rfl ?_ z0 trivial ?_
   · kernel_rfl
   obtain ⟨v5, hv5, h⟩ := of_bind h
   refine AOps.cons (AOne.callP (F := (FF 70 0)) _ rfl rfl rfl _ rfl rfl _ _ rfl Try.call41 [.rp [.str v1.f0, .int .i64 v1.f1, k0 v1.f2, .int .i64 v1.f3, .bool v1.f4]] rfl rfl (f41_ok v1 hv5) rfl) ?_
   refine AOps.go [2] [3, 4, 5, 6] [] [1, 13] 0 ⟨[(1, .tv (.sc (.pointer none))), (13, tB v5)], []⟩ ?_ z0 trivial ?_
   · kernel_rfl
   obtain ⟨v6, hc3, h⟩ := of_bind h
   refine AOps.cut [3, 4, 5] [6] (fun σ => σ = ⟨[(16, tB v6)], []⟩) ?_ fun σ' hJ => ?_
   · refine AOps.split (fun b => ⟨[(1, .tv (.sc (.pointer none))), (13, tB b)], []⟩) _ (fun hb => ?_) fun hb => ?_
     · replace hc3 := of_true hc3 hb
       refine AOps.go [3] [4, 5] [] [13, 14] 0 ⟨[(13, tB true), (14, .tv (.sc (.pointer none)))], []⟩ ?_ z0 trivial ?_
       · kernel_rfl
       obtain ⟨v7, hv7, hc3⟩ := of_bind hc3
       refine AOps.cons (AOne.callP (F := (FF 70 0)) _ rfl rfl rfl _ rfl rfl _ _ rfl Try.call41 [.tv (.sc (.pointer none))] rfl rfl (f41_z_ok  hv7) rfl) ?_
       refine AOps.go [5] [] [] [16] 0 ⟨[(16, tB v7)], []⟩ ?_ z0 trivial ?_
       · kernel_rfl
       cases hc3
       exact AOps.nil rfl
     · replace hc3 := of_false hc3 hb
       refine AOps.go [3, 4, 5] [] [] [16] 0 ⟨[(16, tB false)], []⟩ ?_ z0 trivial ?_
       · kernel_rfl
       cases hc3
       exact AOps.nil rfl
   subst hJ
   refine AOps.go [6] [] [] [4] 0 ⟨[(4, tB v6)], []⟩ ?_ z0 trivial ?_
   · kernel_rfl
   refine AOps.nil ?_
   refine AWp.ret ?_
   cases h
   exact ⟨.inr rfl, rfl⟩
 · replace h := of_false h hb
   refine AWp.keepTo [0, 1] 0 ⟨[(0, .rp [.str v1.f0, .int .i64 v1.f1, k0 v1.f2, .int .i64 v1.f3, .bool v1.f4]), (1, .tv (.sc (.pointer none)))], []⟩ ?_ z0 ?_
   · kernel_rfl
   refine AWp.skip ?_
   refine AWp.seq ?_
   refine AWp.draw FFm _ (n := 54) rfl (ls := #[n1, n1, n1, n1, n1, n1, n1, n1, n1, n1, n1, n1, n1, n1, n1, n1, n1, n1, n1, n1, n1, n1, n1, n1, n1, n1, n1, n1, n1, n1, n1, n1, n1, n1, n1, n1, n1, n1, n1, n1, n1, n1, n1, n1, n1, n1, n1, n1, n1, n1, n1, n1, n1, n1]) rfl ?_ (fun _ h => h)
   cases h

noncomputable def f32_z (v1 : T64) : Option Bool :=
 (f41_z ).bind fun v2 => (cond v2 (some true) ((f41 v1).bind fun v4 => some v4)).bind fun v3 => cond v3 ((f41_z ).bind fun v5 => (cond v5 ((f41 v1).bind fun v7 => some v7) (some false)).bind fun v6 => some v6) none

theorem f32_z_ok (v1 : T64) {r : Bool} (h : f32_z v1 = some r) : ACall Try.prog 32 [.tv (.sc (.pointer none)), .rp [.str v1.f0, .int .i64 v1.f1, fzL 1 (cInt .u8) v1.f2, .int .i64 v1.f3, .bool v1.f4]] [] (.tv (.bool r)) [] := by
 refine ACall.of1 (FF 70 0) Try.func32 rfl Try.ntmps32 Try.results32 (Nat.le_of_ble_eq_true rfl) rfl rfl ?_
 refine AWp.seq ?_
 refine AWp.start [0] [] [] [0, 1] 0 ⟨[(0, .tv (.sc (.pointer none))), (1, .rp [.str v1.f0, .int .i64 v1.f1, k0 v1.f2, .int .i64 v1.f3, .bool v1.f4])], []⟩ rfl ?_ z0 trivial ?_
 · kernel_rfl
 refine AOps.nil ?_
 refine AWp.seq ?_
 refine AWp.seq ?_
 refine AWp.start [0] [1, 2, 3, 4, 5] [] [0, 1, 5] 0 ⟨[(0, .tv (.sc (.pointer none))), (1, .rp [.str v1.f0, .int .i64 v1.f1, k0 v1.f2, .int .i64 v1.f3, .bool v1.f4]), (5, .tv (.sc (.pointer none)))], []⟩ rfl ?_ z0 trivial ?_
 · kernel_rfl
 obtain ⟨v2, hv2, h⟩ := of_bind h
 refine AOps.cons (AOne.callP (F := (FF 70 0)) _ rfl rfl rfl _ rfl rfl _ _ rfl Try.call41 [.tv (.sc (.pointer none))] rfl rfl (f41_z_ok  hv2) rfl) ?_
 refine AOps.go [2] [3, 4, 5] [] [0, 1, 7] 0 ⟨[(0, .tv (.sc (.pointer none))), (1, .rp [.str v1.f0, .int .i64 v1.f1, k0 v1.f2, .int .i64 v1.f3, .bool v1.f4]), (7, tB v2)], []⟩ ?_ z0 trivial ?_
 · kernel_rfl
 obtain ⟨v3, hc3, h⟩ := of_bind h
 refine AOps.cut [3, 4, 5] [] (fun σ => σ = ⟨[(0, .tv (.sc (.pointer none))), (1, .rp [.str v1.f0, .int .i64 v1.f1, k0 v1.f2, .int .i64 v1.f3, .bool v1.f4]), (10, tB v3)], []⟩) ?_ fun σ' hJ => ?_
 · refine AOps.split (fun b => ⟨[(0, .tv (.sc (.pointer none))), (1, .rp [.str v1.f0, .int .i64 v1.f1, k0 v1.f2, .int .i64 v1.f3, .bool v1.f4]), (7, tB b)], []⟩) _ (fun hb => ?_) fun hb => ?_
   · replace hc3 := of_true hc3 hb
     refine AOps.go [3, 4, 5] [] [] [0, 1, 10] 0 ⟨[(0, .tv (.sc (.pointer none))), (1, .rp [.str v1.f0, .int .i64 v1.f1, k0 v1.f2, .int .i64 v1.f3, .bool v1.f4]), (10, tB true)], []⟩ ?_ z0 trivial ?_
     · kernel_rfl
     cases hc3
     exact AOps.nil rfl
   · replace hc3 := of_false hc3 hb
     refine AOps.go [3] [4, 5] [] [0, 1, 7, 8] 0 ⟨[(0, .tv (.sc (.pointer none))), (1, .rp [.str v1.f0, .int .i64 v1.f1, k0 v1.f2, .int .i64 v1.f3, .bool v1.f4]), (7, tB false), (8, .rp [.str v1.f0, .int .i64 v1.f1, k0 v1.f2, .int .i64 v1.f3, .bool v1.f4])], []⟩ ?_ z0 trivial ?_
     · kernel_rfl
     obtain ⟨v4, hv4, hc3⟩ := of_bind hc3
     refine AOps.cons (AOne.callP (F := (FF 70 0)) _ rfl rfl rfl _ rfl rfl _ _ rfl Try.call41 [.rp [.str v1.f0, .int .i64 v1.f1, k0 v1.f2, .int .i64 v1.f3, .bool v1.f4]] rfl rfl (f41_ok v1 hv4) rfl) ?_
     refine AOps.go [5] [] [] [0, 1, 10] 0 ⟨[(0, .tv (.sc (.pointer none))), (1, .rp [.str v1.f0, .int .i64 v1.f1, k0 v1.f2, .int .i64 v1.f3, .bool v1.f4]), (10, tB v4)], []⟩ ?_ z0 trivial ?_
     · kernel_rfl
     cases hc3
     exact AOps.nil rfl
 subst hJ
 refine AOps.nil ?_
 refine AWp.cond rfl (fun hb => ?_) fun hb => ?_
 · replace h := of_true h hb
   refine AWp.keepTo [0, 1] 0 ⟨[(0, .tv (.sc (.pointer none))), (1, .rp [.str v1.f0, .int .i64 v1.f1, k0 v1.f2, .int .i64 v1.f3, .bool v1.f4])], []⟩ ?_ z0 ?_
   · kernel_rfl
   refine AWp.seq ?_
   refine AWp.start [0] [1, 2, 3, 4, 5, 6] [] [1, 11] 0 ⟨[(1, .rp [.str v1.f0, .int .i64 v1.f1, k0 v1.f2, .int .i64 v1.f3, .bool v1.f4]), (11, .tv (.sc (.pointer none)))], []⟩ rfl ?_ z0 trivial ?_
   · kernel_rfl
   obtain ⟨v5, hv5, h⟩ := of_bind h
   refine AOps.cons (AOne.callP (F := (FF 70 0)) _ rfl rfl rfl _ rfl rfl _ _ rfl Try.call41 [.tv (.sc (.pointer none))] rfl rfl (f41_z_ok  hv5) rfl) ?_
   refine AOps.go [2] [3, 4, 5, 6] [] [1, 13] 0 ⟨[(1, .rp [.str v1.f0, .int .i64 v1.f1, k0 v1.f2, .int .i64 v1.f3, .bool v1.f4]), (13, tB v5)], []⟩ ?_ z0 trivial ?_
   · kernel_rfl
   obtain ⟨v6, hc3, h⟩ := of_bind h
   refine AOps.cut [3, 4, 5] [6] (fun σ => σ = ⟨[(16, tB v6)], []⟩) ?_ fun σ' hJ => ?_
   · refine AOps.split (fun b => ⟨[(1, .rp [.str v1.f0, .int .i64 v1.f1, k0 v1.f2, .int .i64 v1.f3, .bool v1.f4]), (13, tB b)], []⟩) _ (fun hb => ?_) fun hb => ?_
     · replace hc3 := of_true hc3 hb
       refine AOps.go [3] [4, 5] [] [13, 14] 0 ⟨[(13, tB true), (14, .rp [.str v1.f0, .int .i64 v1.f1, k0 v1.f2, .int .i64 v1.f3, .bool v1.f4])], []⟩ ?_ z0 trivial ?_
       · kernel_rfl
       obtain ⟨v7, hv7, hc3⟩ := of_bind hc3
       refine AOps.cons (AOne.callP (F := (FF 70 0)) _ rfl rfl rfl _ rfl rfl _ _ rfl Try.call41 [.rp [.str v1.f0, .int .i64 v1.f1, k0 v1.f2, .int .i64 v1.f3, .bool v1.f4]] rfl rfl (f41_ok v1 hv7) rfl) ?_
       refine AOps.go [5] [] [] [16] 0 ⟨[(16, tB v7)], []⟩ ?_ z0 trivial ?_
       · kernel_rfl
       cases hc3
       exact AOps.nil rfl
     · replace hc3 := of_false hc3 hb
       refine AOps.go [3, 4, 5] [] [] [16] 0 ⟨[(16, tB false)], []⟩ ?_ z0 trivial ?_
       · kernel_rfl
       cases hc3
       exact AOps.nil rfl
   subst hJ
   refine AOps.go [6] [] [] [4] 0 ⟨[(4, tB v6)], []⟩ ?_ z0 trivial ?_
   · kernel_rfl
   refine AOps.nil ?_
   refine AWp.ret ?_
   cases h
   exact ⟨.inr rfl, rfl⟩
 · replace h := of_false h hb
   refine AWp.keepTo [0, 1] 0 ⟨[(0, .tv (.sc (.pointer none))), (1, .rp [.str v1.f0, .int .i64 v1.f1, k0 v1.f2, .int .i64 v1.f3, .bool v1.f4])], []⟩ ?_ z0 ?_
   · kernel_rfl
   refine AWp.skip ?_
   refine AWp.seq ?_
   refine AWp.draw FFm _ (n := 54) rfl (ls := #[n1, n1, n1, n1, n1, n1, n1, n1, n1, n1, n1, n1, n1, n1, n1, n1, n1, n1, n1, n1, n1, n1, n1, n1, n1, n1, n1, n1, n1, n1, n1, n1, n1, n1, n1, n1, n1, n1, n1, n1, n1, n1, n1, n1, n1, n1, n1, n1, n1, n1, n1, n1, n1, n1]) rfl ?_ (fun _ h => h)
   cases h

noncomputable def f8 (v1 : T46) : Option Bool :=
 cond (decide ((v1.f3.length : Int) > (21000 : Int))) ((f9 ).bind fun v2 => some v2) (cond (decide ((0 : Int) < (2 : Int))) ((f28_z v1).bind fun v3 => (f18_z ).bind fun v4 => (cond (decide ((v3.1.length : Int) > (0 : Int))) (some true) (some (v3.2 != (7 : Int)))).bind fun v5 => (cond v5 (some true) (some (v4.1 != (0 : Int)))).bind fun v6 => (cond v6 (some true) (some (v4.2 != (7 : Int)))).bind fun v7 => (cond v7 (some true) ((f19_z ).bind fun v9 => some (v9 != (0 : Int)))).bind fun v8 => (cond v8 (some true) ((f21_z ).bind fun v11 => some (decide ((v11.length : Int) > (0 : Int))))).bind fun v10 => (cond v10 (some true) ((f34_z ).bind fun v13 => some (!(v13 == ([] : List UInt8))))).bind fun v12 => (cond v12 (some true) ((f30_z ).bind fun v15 => some false)).bind fun v14 => (cond v14 (some true) ((f32_z_z1 ).bind fun v17 => some (!v17))).bind fun v16 => (cond v16 (some true) ((f32_z_z1 ).bind fun v19 => some (!v19))).bind fun v18 => cond v18 (some false) (cond (decide (w64 ((0 : Int) + (1 : Int)) < (2 : Int))) ((f28o v1 (T64.mk ([] : List UInt8) (0 : Int) ([] : List Int) (0 : Int) false)).bind fun v20 => (f18 v20.2.2).bind fun v21 => (cond (decide ((v20.1.length : Int) > (0 : Int))) (some true) (some (v20.2.1 != (7 : Int)))).bind fun v22 => (cond v22 (some true) (some (v21.1 != (0 : Int)))).bind fun v23 => (cond v23 (some true) (some (v21.2 != (7 : Int)))).bind fun v24 => (cond v24 (some true) ((f19 v20.2.2).bind fun v26 => some (v26 != (0 : Int)))).bind fun v25 => (cond v25 (some true) ((f21o v20.2.2).bind fun v28 => some (decide ((v28.length : Int) > (0 : Int))))).bind fun v27 => (cond v27 (some true) ((f34 v20.2.2).bind fun v30 => some (!(v30 == ([] : List UInt8))))).bind fun v29 => (cond v29 (some true) ((f30o v20.2.2).bind fun v32 => match v32 with | none => some false | some v33 => some true)).bind fun v31 => (cond v31 (some true) ((f32_z1 v20.2.2).bind fun v35 => some (!v35))).bind fun v34 => (cond v34 (some true) ((f32_z v20.2.2).bind fun v37 => some (!v37))).bind fun v36 => cond v36 (some false) (cond (decide (w64 ((w64 ((0 : Int) + (1 : Int))) + (1 : Int)) < (2 : Int))) ((f28o v1 (T64.mk ([] : List UInt8) (0 : Int) ([] : List Int) (0 : Int) false)).bind fun v38 => (f18 v38.2.2).bind fun v39 => (cond (decide ((v38.1.length : Int) > (0 : Int))) (some true) (some (v38.2.1 != (7 : Int)))).bind fun v40 => (cond v40 (some true) (some (v39.1 != (0 : Int)))).bind fun v41 => (cond v41 (some true) (some (v39.2 != (7 : Int)))).bind fun v42 => (cond v42 (some true) ((f19 v38.2.2).bind fun v44 => some (v44 != (0 : Int)))).bind fun v43 => (cond v43 (some true) ((f21o v38.2.2).bind fun v46 => some (decide ((v46.length : Int) > (0 : Int))))).bind fun v45 => (cond v45 (some true) ((f34 v38.2.2).bind fun v48 => some (!(v48 == ([] : List UInt8))))).bind fun v47 => (cond v47 (some true) ((f30o v38.2.2).bind fun v50 => match v50 with | none => some false | some v51 => some true)).bind fun v49 => (cond v49 (some true) ((f32_z1 v38.2.2).bind fun v53 => some (!v53))).bind fun v52 => (cond v52 (some true) ((f32_z v38.2.2).bind fun v55 => some (!v55))).bind fun v54 => cond v54 (some false) none) ((f9 ).bind fun v56 => some v56))) ((f9 ).bind fun v57 => some v57))) ((f9 ).bind fun v58 => some v58))

theorem f8_ok (v1 : T46) {r : Bool} (h : f8 v1 = some r) : ACall Try.prog 8 [.agg [.int .i64 v1.f0, .int .i64 v1.f1, .int .i64 v1.f2, fzL 1 (cInt .u8) v1.f3]] [] (.tv (.bool r)) [] := by
 refine ACall.of1 (FF 78 0) Try.func8 rfl Try.ntmps8 Try.results8 (Nat.le_of_ble_eq_true rfl) rfl rfl ?_
 refine AWp.seq ?_
 refine AWp.start [0, 1] [] [] [1] 1 ⟨[(1, .pc 0 0)], [.cells 47 [.int .i64 v1.f0, .int .i64 v1.f1, .int .i64 v1.f2, k0 v1.f3]]⟩ rfl ?_ z0 trivial ?_
 · kernel_rfl
 refine AOps.nil ?_
 refine AWp.seq ?_
 refine AWp.seq ?_
 refine AWp.pin 0 rfl rfl ?_
 refine AWp.keepTo [1] 0 ⟨[(1, .rp [.int .i64 v1.f0, .int .i64 v1.f1, .int .i64 v1.f2, k0 v1.f3])], []⟩ ?_ z0 ?_
 · kernel_rfl
 refine AWp.start [0, 1, 2, 3] [] [] [1, 12] 0 ⟨[(1, .rp [.int .i64 v1.f0, .int .i64 v1.f1, .int .i64 v1.f2, k0 v1.f3]), (12, tB (decide ((v1.f3.length : Int) > (21000 : Int))))], []⟩ rfl ?_ z0 trivial ?_
 · kernel_rfl
 refine AOps.nil ?_
 refine AWp.cond rfl (fun hb => ?_) fun hb => ?_
 · replace h := of_true h hb
   refine AWp.keepTo [] 0 ⟨[], []⟩ ?_ z0 ?_
   · kernel_rfl
   refine AWp.seq ?_
   refine AWp.start [] [0, 1] [] [] 0 ⟨[], []⟩ rfl ?_ z0 trivial ?_
   · kernel_rfl
   obtain ⟨v2, hv2, h⟩ := of_bind h
   refine AOps.cons (AOne.callP (F := (FF 78 0)) _ rfl rfl rfl _ rfl rfl _ _ rfl Try.call9 [] rfl rfl (f9_ok  hv2) rfl) ?_
   refine AOps.go [1] [] [] [2] 0 ⟨[(2, tB v2)], []⟩ ?_ z0 trivial ?_
   · kernel_rfl
   refine AOps.nil ?_
   refine AWp.ret ?_
   cases h
   exact ⟨.inr rfl, rfl⟩
 · replace h := of_false h hb
   refine AWp.keepTo [1] 0 ⟨[(1, .rp [.int .i64 v1.f0, .int .i64 v1.f1, .int .i64 v1.f2, k0 v1.f3])], []⟩ ?_ z0 ?_
   · kernel_rfl
   refine AWp.skip ?_
   refine AWp.seq ?_
   refine AWp.start [0] [] [] [1, 3] 0 ⟨[(1, .rp [.int .i64 v1.f0, .int .i64 v1.f1, .int .i64 v1.f2, k0 v1.f3]), (3, .tv (.sc (.pointer none)))], []⟩ rfl ?_ z0 trivial ?_
   · kernel_rfl
   refine AOps.nil ?_
   refine AWp.seq ?_
   refine AWp.seq ?_
   refine AWp.start [0] [] [] [1, 3, 4] 0 ⟨[(1, .rp [.int .i64 v1.f0, .int .i64 v1.f1, .int .i64 v1.f2, k0 v1.f3]), (3, .tv (.sc (.pointer none))), (4, tI (0 : Int))], []⟩ rfl ?_ z0 trivial ?_
   · kernel_rfl
   refine AOps.nil ?_
   refine AWp.block ?_
   refine AWp.rounds 3 ?_
   refine ARounds.step ?_
   refine AWp.seq ?_
   refine AWp.seq ?_
   refine AWp.start [0, 1] [] [] [1, 3, 4, 15] 0 ⟨[(1, .rp [.int .i64 v1.f0, .int .i64 v1.f1, .int .i64 v1.f2, k0 v1.f3]), (3, .tv (.sc (.pointer none))), (4, tI (0 : Int)), (15, tB (decide ((0 : Int) < (2 : Int))))], []⟩ rfl ?_ z0 trivial ?_
   · kernel_rfl
   refine AOps.nil ?_
   refine AWp.cond rfl (fun hb => ?_) fun hb => ?_
   · replace h := of_true h hb
     refine AWp.keepTo [1, 3, 4] 0 ⟨[(1, .rp [.int .i64 v1.f0, .int .i64 v1.f1, .int .i64 v1.f2, k0 v1.f3]), (3, .tv (.sc (.pointer none))), (4, tI (0 : Int))], []⟩ ?_ z0 ?_
     · kernel_rfl
     refine AWp.skip ?_
     refine AWp.seq ?_
     refine AWp.block ?_
     refine AWp.seq ?_
     refine AWp.start [0, 1] [2, 3, 4, 5, 6, 7] [] [1, 3, 4, 19, 20] 0 ⟨[(1, .rp [.int .i64 v1.f0, .int .i64 v1.f1, .int .i64 v1.f2, k0 v1.f3]), (3, .tv (.sc (.pointer none))), (4, tI (0 : Int)), (19, .tv (.sc (.pointer none))), (20, .agg [.int .i64 v1.f0, .int .i64 v1.f1, .int .i64 v1.f2, k0 v1.f3])], []⟩ rfl ?_ z0 trivial ?_
     · kernel_rfl
     obtain ⟨v3, hv3, h⟩ := of_bind h
     refine AOps.cons (AOne.callP (F := (FF 78 0)) _ rfl rfl rfl _ rfl rfl _ _ rfl Try.call28 [.tv (.sc (.pointer none)), .agg [.int .i64 v1.f0, .int .i64 v1.f1, .int .i64 v1.f2, k0 v1.f3]] rfl rfl (f28_z_ok v1 hv3) rfl) ?_
     refine AOps.go [3, 4, 5, 6, 7] [] [] [1, 3, 4, 5, 6] 0 ⟨[(1, .rp [.int .i64 v1.f0, .int .i64 v1.f1, .int .i64 v1.f2, k0 v1.f3]), (3, .tv (.sc (.pointer none))), (4, tI (0 : Int)), (5, q0 v3.1), (6, tI v3.2)], []⟩ ?_ z0 trivial ?_
     · kernel_rfl
     refine AOps.nil ?_
     refine AWp.seq ?_
     refine AWp.start [0] [1, 2, 3, 4, 5, 6] [] [1, 3, 4, 5, 6, 25] 0 ⟨[(1, .rp [.int .i64 v1.f0, .int .i64 v1.f1, .int .i64 v1.f2, k0 v1.f3]), (3, .tv (.sc (.pointer none))), (4, tI (0 : Int)), (5, q0 v3.1), (6, tI v3.2), (25, .tv (.sc (.pointer none)))], []⟩ rfl ?_ z0 trivial ?_
     · kernel_rfl
     obtain ⟨v4, hv4, h⟩ := of_bind h
     refine AOps.cons (AOne.callP (F := (FF 78 0)) _ rfl rfl rfl _ rfl rfl _ _ rfl Try.call18 [.tv (.sc (.pointer none))] rfl rfl (f18_z_ok  hv4) rfl) ?_
     refine AOps.go [2, 3, 4, 5, 6] [] [] [1, 3, 4, 5, 6, 7, 8] 0 ⟨[(1, .rp [.int .i64 v1.f0, .int .i64 v1.f1, .int .i64 v1.f2, k0 v1.f3]), (3, .tv (.sc (.pointer none))), (4, tI (0 : Int)), (5, q0 v3.1), (6, tI v3.2), (7, tI v4.1), (8, tI v4.2)], []⟩ ?_ z0 trivial ?_
     · kernel_rfl
     refine AOps.nil ?_
     refine AWp.seq ?_
     refine AWp.seq ?_
     refine AWp.start [0, 1, 2, 3] [4, 5, 6, 7, 8, 9, 10, 11, 12, 13, 14, 15, 16, 17, 18, 19, 20, 21, 22, 23, 24, 25, 26, 27, 28, 29, 30, 31, 32, 33, 34, 35, 36, 37, 38, 39, 40, 41, 42, 43, 44, 45] [] [1, 3, 4, 6, 7, 8, 32] 0 ⟨[(1, .rp [.int .i64 v1.f0, .int .i64 v1.f1, .int .i64 v1.f2, k0 v1.f3]), (3, .tv (.sc (.pointer none))), (4, tI (0 : Int)), (6, tI v3.2), (7, tI v4.1), (8, tI v4.2), (32, tB (decide ((v3.1.length : Int) > (0 : Int))))], []⟩ rfl ?_ z0 trivial ?_
     · kernel_rfl
     obtain ⟨v5, hc4, h⟩ := of_bind h
     refine AOps.cut [4, 5, 6] [7, 8, 9, 10, 11, 12, 13, 14, 15, 16, 17, 18, 19, 20, 21, 22, 23, 24, 25, 26, 27, 28, 29, 30, 31, 32, 33, 34, 35, 36, 37, 38, 39, 40, 41, 42, 43, 44, 45] (fun σ => σ = ⟨[(1, .rp [.int .i64 v1.f0, .int .i64 v1.f1, .int .i64 v1.f2, k0 v1.f3]), (3, .tv (.sc (.pointer none))), (4, tI (0 : Int)), (7, tI v4.1), (8, tI v4.2), (35, tB v5)], []⟩) ?_ fun σ' hJ => ?_
     · refine AOps.split (fun b => ⟨[(1, .rp [.int .i64 v1.f0, .int .i64 v1.f1, .int .i64 v1.f2, k0 v1.f3]), (3, .tv (.sc (.pointer none))), (4, tI (0 : Int)), (6, tI v3.2), (7, tI v4.1), (8, tI v4.2), (32, tB b)], []⟩) _ (fun hb => ?_) fun hb => ?_
       · replace hc4 := of_true hc4 hb
         refine AOps.go [4, 5, 6] [] [] [1, 3, 4, 7, 8, 35] 0 ⟨[(1, .rp [.int .i64 v1.f0, .int .i64 v1.f1, .int .i64 v1.f2, k0 v1.f3]), (3, .tv (.sc (.pointer none))), (4, tI (0 : Int)), (7, tI v4.1), (8, tI v4.2), (35, tB true)], []⟩ ?_ z0 trivial ?_
         · kernel_rfl
         cases hc4
         exact AOps.nil rfl
       · replace hc4 := of_false hc4 hb
         refine AOps.go [4, 5, 6] [] [] [1, 3, 4, 7, 8, 35] 0 ⟨[(1, .rp [.int .i64 v1.f0, .int .i64 v1.f1, .int .i64 v1.f2, k0 v1.f3]), (3, .tv (.sc (.pointer none))), (4, tI (0 : Int)), (7, tI v4.1), (8, tI v4.2), (35, tB (v3.2 != (7 : Int)))], []⟩ ?_ z0 trivial ?_
         · kernel_rfl
         cases hc4
         exact AOps.nil rfl
     subst hJ
     refine AOps.go [7] [8, 9, 10, 11, 12, 13, 14, 15, 16, 17, 18, 19, 20, 21, 22, 23, 24, 25, 26, 27, 28, 29, 30, 31, 32, 33, 34, 35, 36, 37, 38, 39, 40, 41, 42, 43, 44, 45] [] [1, 3, 4, 7, 8, 36] 0 ⟨[(1, .rp [.int .i64 v1.f0, .int .i64 v1.f1, .int .i64 v1.f2, k0 v1.f3]), (3, .tv (.sc (.pointer none))), (4, tI (0 : Int)), (7, tI v4.1), (8, tI v4.2), (36, tB v5)], []⟩ ?_ z0 trivial ?_
     · kernel_rfl
     obtain ⟨v6, hc8, h⟩ := of_bind h
     refine AOps.cut [8, 9, 10] [11, 12, 13, 14, 15, 16, 17, 18, 19, 20, 21, 22, 23, 24, 25, 26, 27, 28, 29, 30, 31, 32, 33, 34, 35, 36, 37, 38, 39, 40, 41, 42, 43, 44, 45] (fun σ => σ = ⟨[(1, .rp [.int .i64 v1.f0, .int .i64 v1.f1, .int .i64 v1.f2, k0 v1.f3]), (3, .tv (.sc (.pointer none))), (4, tI (0 : Int)), (8, tI v4.2), (39, tB v6)], []⟩) ?_ fun σ' hJ => ?_
     · refine AOps.split (fun b => ⟨[(1, .rp [.int .i64 v1.f0, .int .i64 v1.f1, .int .i64 v1.f2, k0 v1.f3]), (3, .tv (.sc (.pointer none))), (4, tI (0 : Int)), (7, tI v4.1), (8, tI v4.2), (36, tB b)], []⟩) _ (fun hb => ?_) fun hb => ?_
       · replace hc8 := of_true hc8 hb
         refine AOps.go [8, 9, 10] [] [] [1, 3, 4, 8, 39] 0 ⟨[(1, .rp [.int .i64 v1.f0, .int .i64 v1.f1, .int .i64 v1.f2, k0 v1.f3]), (3, .tv (.sc (.pointer none))), (4, tI (0 : Int)), (8, tI v4.2), (39, tB true)], []⟩ ?_ z0 trivial ?_
         · kernel_rfl
         cases hc8
         exact AOps.nil rfl
       · replace hc8 := of_false hc8 hb
         refine AOps.go [8, 9, 10] [] [] [1, 3, 4, 8, 39] 0 ⟨[(1, .rp [.int .i64 v1.f0, .int .i64 v1.f1, .int .i64 v1.f2, k0 v1.f3]), (3, .tv (.sc (.pointer none))), (4, tI (0 : Int)), (8, tI v4.2), (39, tB (v4.1 != (0 : Int)))], []⟩ ?_ z0 trivial ?_
         · kernel_rfl
         cases hc8
         exact AOps.nil rfl
     subst hJ
     refine AOps.go [11] [12, 13, 14, 15, 16, 17, 18, 19, 20, 21, 22, 23, 24, 25, 26, 27, 28, 29, 30, 31, 32, 33, 34, 35, 36, 37, 38, 39, 40, 41, 42, 43, 44, 45] [] [1, 3, 4, 8, 40] 0 ⟨[(1, .rp [.int .i64 v1.f0, .int .i64 v1.f1, .int .i64 v1.f2, k0 v1.f3]), (3, .tv (.sc (.pointer none))), (4, tI (0 : Int)), (8, tI v4.2), (40, tB v6)], []⟩ ?_ z0 trivial ?_
     · kernel_rfl
     obtain ⟨v7, hc12, h⟩ := of_bind h
     refine AOps.cut [12, 13, 14] [15, 16, 17, 18, 19, 20, 21, 22, 23, 24, 25, 26, 27, 28, 29, 30, 31, 32, 33, 34, 35, 36, 37, 38, 39, 40, 41, 42, 43, 44, 45] (fun σ => σ = ⟨[(1, .rp [.int .i64 v1.f0, .int .i64 v1.f1, .int .i64 v1.f2, k0 v1.f3]), (3, .tv (.sc (.pointer none))), (4, tI (0 : Int)), (43, tB v7)], []⟩) ?_ fun σ' hJ => ?_
     · refine AOps.split (fun b => ⟨[(1, .rp [.int .i64 v1.f0, .int .i64 v1.f1, .int .i64 v1.f2, k0 v1.f3]), (3, .tv (.sc (.pointer none))), (4, tI (0 : Int)), (8, tI v4.2), (40, tB b)], []⟩) _ (fun hb => ?_) fun hb => ?_
       · replace hc12 := of_true hc12 hb
         refine AOps.go [12, 13, 14] [] [] [1, 3, 4, 43] 0 ⟨[(1, .rp [.int .i64 v1.f0, .int .i64 v1.f1, .int .i64 v1.f2, k0 v1.f3]), (3, .tv (.sc (.pointer none))), (4, tI (0 : Int)), (43, tB true)], []⟩ ?_ z0 trivial ?_
         · kernel_rfl
         cases hc12
         exact AOps.nil rfl
       · replace hc12 := of_false hc12 hb
         refine AOps.go [12, 13, 14] [] [] [1, 3, 4, 43] 0 ⟨[(1, .rp [.int .i64 v1.f0, .int .i64 v1.f1, .int .i64 v1.f2, k0 v1.f3]), (3, .tv (.sc (.pointer none))), (4, tI (0 : Int)), (43, tB (v4.2 != (7 : Int)))], []⟩ ?_ z0 trivial ?_
         · kernel_rfl
         cases hc12
         exact AOps.nil rfl
     subst hJ
     refine AOps.go [15] [16, 17, 18, 19, 20, 21, 22, 23, 24, 25, 26, 27, 28, 29, 30, 31, 32, 33, 34, 35, 36, 37, 38, 39, 40, 41, 42, 43, 44, 45] [] [1, 3, 4, 44] 0 ⟨[(1, .rp [.int .i64 v1.f0, .int .i64 v1.f1, .int .i64 v1.f2, k0 v1.f3]), (3, .tv (.sc (.pointer none))), (4, tI (0 : Int)), (44, tB v7)], []⟩ ?_ z0 trivial ?_
     · kernel_rfl
     obtain ⟨v8, hc16, h⟩ := of_bind h
     refine AOps.cut [16, 17, 18, 19] [20, 21, 22, 23, 24, 25, 26, 27, 28, 29, 30, 31, 32, 33, 34, 35, 36, 37, 38, 39, 40, 41, 42, 43, 44, 45] (fun σ => σ = ⟨[(1, .rp [.int .i64 v1.f0, .int .i64 v1.f1, .int .i64 v1.f2, k0 v1.f3]), (3, .tv (.sc (.pointer none))), (4, tI (0 : Int)), (48, tB v8)], []⟩) ?_ fun σ' hJ => ?_
     · refine AOps.split (fun b => ⟨[(1, .rp [.int .i64 v1.f0, .int .i64 v1.f1, .int .i64 v1.f2, k0 v1.f3]), (3, .tv (.sc (.pointer none))), (4, tI (0 : Int)), (44, tB b)], []⟩) _ (fun hb => ?_) fun hb => ?_
       · replace hc16 := of_true hc16 hb
         refine AOps.go [16, 17, 18, 19] [] [] [1, 3, 4, 48] 0 ⟨[(1, .rp [.int .i64 v1.f0, .int .i64 v1.f1, .int .i64 v1.f2, k0 v1.f3]), (3, .tv (.sc (.pointer none))), (4, tI (0 : Int)), (48, tB true)], []⟩ ?_ z0 trivial ?_
         · kernel_rfl
         cases hc16
         exact AOps.nil rfl
       · replace hc16 := of_false hc16 hb
         refine AOps.go [16] [17, 18, 19] [] [1, 3, 4, 44, 45] 0 ⟨[(1, .rp [.int .i64 v1.f0, .int .i64 v1.f1, .int .i64 v1.f2, k0 v1.f3]), (3, .tv (.sc (.pointer none))), (4, tI (0 : Int)), (44, tB false), (45, .tv (.sc (.pointer none)))], []⟩ ?_ z0 trivial ?_
         · kernel_rfl
         obtain ⟨v9, hv9, hc16⟩ := of_bind hc16
         refine AOps.cons (AOne.callP (F := (FF 78 0)) _ rfl rfl rfl _ rfl rfl _ _ rfl Try.call19 [.tv (.sc (.pointer none))] rfl rfl (f19_z_ok  hv9) rfl) ?_
         refine AOps.go [18, 19] [] [] [1, 3, 4, 48] 0 ⟨[(1, .rp [.int .i64 v1.f0, .int .i64 v1.f1, .int .i64 v1.f2, k0 v1.f3]), (3, .tv (.sc (.pointer none))), (4, tI (0 : Int)), (48, tB (v9 != (0 : Int)))], []⟩ ?_ z0 trivial ?_
         · kernel_rfl
         cases hc16
         exact AOps.nil rfl
     subst hJ
     refine AOps.go [20] [21, 22, 23, 24, 25, 26, 27, 28, 29, 30, 31, 32, 33, 34, 35, 36, 37, 38, 39, 40, 41, 42, 43, 44, 45] [] [1, 3, 4, 49] 0 ⟨[(1, .rp [.int .i64 v1.f0, .int .i64 v1.f1, .int .i64 v1.f2, k0 v1.f3]), (3, .tv (.sc (.pointer none))), (4, tI (0 : Int)), (49, tB v8)], []⟩ ?_ z0 trivial ?_
     · kernel_rfl
     obtain ⟨v10, hc21, h⟩ := of_bind h
     refine AOps.cut [21, 22, 23, 24, 25] [26, 27, 28, 29, 30, 31, 32, 33, 34, 35, 36, 37, 38, 39, 40, 41, 42, 43, 44, 45] (fun σ => σ = ⟨[(1, .rp [.int .i64 v1.f0, .int .i64 v1.f1, .int .i64 v1.f2, k0 v1.f3]), (3, .tv (.sc (.pointer none))), (4, tI (0 : Int)), (54, tB v10)], []⟩) ?_ fun σ' hJ => ?_
     · refine AOps.split (fun b => ⟨[(1, .rp [.int .i64 v1.f0, .int .i64 v1.f1, .int .i64 v1.f2, k0 v1.f3]), (3, .tv (.sc (.pointer none))), (4, tI (0 : Int)), (49, tB b)], []⟩) _ (fun hb => ?_) fun hb => ?_
       · replace hc21 := of_true hc21 hb
         refine AOps.go [21, 22, 23, 24, 25] [] [] [1, 3, 4, 54] 0 ⟨[(1, .rp [.int .i64 v1.f0, .int .i64 v1.f1, .int .i64 v1.f2, k0 v1.f3]), (3, .tv (.sc (.pointer none))), (4, tI (0 : Int)), (54, tB true)], []⟩ ?_ z0 trivial ?_
         · kernel_rfl
         cases hc21
         exact AOps.nil rfl
       · replace hc21 := of_false hc21 hb
         refine AOps.go [21] [22, 23, 24, 25] [] [1, 3, 4, 49, 50] 0 ⟨[(1, .rp [.int .i64 v1.f0, .int .i64 v1.f1, .int .i64 v1.f2, k0 v1.f3]), (3, .tv (.sc (.pointer none))), (4, tI (0 : Int)), (49, tB false), (50, .tv (.sc (.pointer none)))], []⟩ ?_ z0 trivial ?_
         · kernel_rfl
         obtain ⟨v11, hv11, hc21⟩ := of_bind hc21
         refine AOps.cons (AOne.callP (F := (FF 78 0)) _ rfl rfl rfl _ rfl rfl _ _ rfl Try.call21 [.tv (.sc (.pointer none))] rfl rfl (f21_z_ok  hv11) rfl) ?_
         refine AOps.go [23, 24, 25] [] [] [1, 3, 4, 54] 0 ⟨[(1, .rp [.int .i64 v1.f0, .int .i64 v1.f1, .int .i64 v1.f2, k0 v1.f3]), (3, .tv (.sc (.pointer none))), (4, tI (0 : Int)), (54, tB (decide ((v11.length : Int) > (0 : Int))))], []⟩ ?_ z0 trivial ?_
         · kernel_rfl
         cases hc21
         exact AOps.nil rfl
     subst hJ
     refine AOps.go [26] [27, 28, 29, 30, 31, 32, 33, 34, 35, 36, 37, 38, 39, 40, 41, 42, 43, 44, 45] [] [1, 3, 4, 55] 0 ⟨[(1, .rp [.int .i64 v1.f0, .int .i64 v1.f1, .int .i64 v1.f2, k0 v1.f3]), (3, .tv (.sc (.pointer none))), (4, tI (0 : Int)), (55, tB v10)], []⟩ ?_ z0 trivial ?_
     · kernel_rfl
     obtain ⟨v12, hc27, h⟩ := of_bind h
     refine AOps.cut [27, 28, 29, 30] [31, 32, 33, 34, 35, 36, 37, 38, 39, 40, 41, 42, 43, 44, 45] (fun σ => σ = ⟨[(1, .rp [.int .i64 v1.f0, .int .i64 v1.f1, .int .i64 v1.f2, k0 v1.f3]), (3, .tv (.sc (.pointer none))), (4, tI (0 : Int)), (59, tB v12)], []⟩) ?_ fun σ' hJ => ?_
     · refine AOps.split (fun b => ⟨[(1, .rp [.int .i64 v1.f0, .int .i64 v1.f1, .int .i64 v1.f2, k0 v1.f3]), (3, .tv (.sc (.pointer none))), (4, tI (0 : Int)), (55, tB b)], []⟩) _ (fun hb => ?_) fun hb => ?_
       · replace hc27 := of_true hc27 hb
         refine AOps.go [27, 28, 29, 30] [] [] [1, 3, 4, 59] 0 ⟨[(1, .rp [.int .i64 v1.f0, .int .i64 v1.f1, .int .i64 v1.f2, k0 v1.f3]), (3, .tv (.sc (.pointer none))), (4, tI (0 : Int)), (59, tB true)], []⟩ ?_ z0 trivial ?_
         · kernel_rfl
         cases hc27
         exact AOps.nil rfl
       · replace hc27 := of_false hc27 hb
         refine AOps.go [27] [28, 29, 30] [] [1, 3, 4, 55, 56] 0 ⟨[(1, .rp [.int .i64 v1.f0, .int .i64 v1.f1, .int .i64 v1.f2, k0 v1.f3]), (3, .tv (.sc (.pointer none))), (4, tI (0 : Int)), (55, tB false), (56, .tv (.sc (.pointer none)))], []⟩ ?_ z0 trivial ?_
         · kernel_rfl
         obtain ⟨v13, hv13, hc27⟩ := of_bind hc27
         refine AOps.cons (AOne.callP (F := (FF 78 0)) _ rfl rfl rfl _ rfl rfl _ _ rfl Try.call34 [.tv (.sc (.pointer none))] rfl rfl (f34_z_ok  hv13) rfl) ?_
         refine AOps.go [29, 30] [] [] [1, 3, 4, 59] 0 ⟨[(1, .rp [.int .i64 v1.f0, .int .i64 v1.f1, .int .i64 v1.f2, k0 v1.f3]), (3, .tv (.sc (.pointer none))), (4, tI (0 : Int)), (59, tB (!(v13 == ([] : List UInt8))))], []⟩ ?_ z0 trivial ?_
         · kernel_rfl
         cases hc27
         exact AOps.nil rfl
     subst hJ
     refine AOps.go [31] [32, 33, 34, 35, 36, 37, 38, 39, 40, 41, 42, 43, 44, 45] [] [1, 3, 4, 60] 0 ⟨[(1, .rp [.int .i64 v1.f0, .int .i64 v1.f1, .int .i64 v1.f2, k0 v1.f3]), (3, .tv (.sc (.pointer none))), (4, tI (0 : Int)), (60, tB v12)], []⟩ ?_ z0 trivial ?_
     · kernel_rfl
     obtain ⟨v14, hc32, h⟩ := of_bind h
     refine AOps.cut [32, 33, 34, 35] [36, 37, 38, 39, 40, 41, 42, 43, 44, 45] (fun σ => σ = ⟨[(1, .rp [.int .i64 v1.f0, .int .i64 v1.f1, .int .i64 v1.f2, k0 v1.f3]), (3, .tv (.sc (.pointer none))), (4, tI (0 : Int)), (64, tB v14)], []⟩) ?_ fun σ' hJ => ?_
     · refine AOps.split (fun b => ⟨[(1, .rp [.int .i64 v1.f0, .int .i64 v1.f1, .int .i64 v1.f2, k0 v1.f3]), (3, .tv (.sc (.pointer none))), (4, tI (0 : Int)), (60, tB b)], []⟩) _ (fun hb => ?_) fun hb => ?_
       · replace hc32 := of_true hc32 hb
         refine AOps.go [32, 33, 34, 35] [] [] [1, 3, 4, 64] 0 ⟨[(1, .rp [.int .i64 v1.f0, .int .i64 v1.f1, .int .i64 v1.f2, k0 v1.f3]), (3, .tv (.sc (.pointer none))), (4, tI (0 : Int)), (64, tB true)], []⟩ ?_ z0 trivial ?_
         · kernel_rfl
         cases hc32
         exact AOps.nil rfl
       · replace hc32 := of_false hc32 hb
         refine AOps.go [32] [33, 34, 35] [] [1, 3, 4, 60, 61] 0 ⟨[(1, .rp [.int .i64 v1.f0, .int .i64 v1.f1, .int .i64 v1.f2, k0 v1.f3]), (3, .tv (.sc (.pointer none))), (4, tI (0 : Int)), (60, tB false), (61, .tv (.sc (.pointer none)))], []⟩ ?_ z0 trivial ?_
         · kernel_rfl
         obtain ⟨v15, hv15, hc32⟩ := of_bind hc32
         refine AOps.cons (AOne.callO (F := (FF 78 0)) _ rfl rfl rfl 62 rfl rfl 30 [] rfl Try.call30 [] (by decide) [.tv (.sc (.pointer none))] (by kernel_rfl) [] (by kernel_rfl) (f30_z_ok  hv15) (by kernel_rfl) (by kernel_rfl) _ rfl) ?_
         refine AOps.go [34, 35] [] [] [1, 3, 4, 64] 0 ⟨[(1, .rp [.int .i64 v1.f0, .int .i64 v1.f1, .int .i64 v1.f2, k0 v1.f3]), (3, .tv (.sc (.pointer none))), (4, tI (0 : Int)), (64, tB false)], []⟩ ?_ z0 trivial ?_
         · kernel_rfl
         cases hc32
         exact AOps.nil rfl
     subst hJ
     refine AOps.go [36] [37, 38, 39, 40, 41, 42, 43, 44, 45] [] [1, 3, 4, 65] 0 ⟨[(1, .rp [.int .i64 v1.f0, .int .i64 v1.f1, .int .i64 v1.f2, k0 v1.f3]), (3, .tv (.sc (.pointer none))), (4, tI (0 : Int)), (65, tB v14)], []⟩ ?_ z0 trivial ?_
     · kernel_rfl
     obtain ⟨v16, hc37, h⟩ := of_bind h
     refine AOps.cut [37, 38, 39, 40] [41, 42, 43, 44, 45] (fun σ => σ = ⟨[(1, .rp [.int .i64 v1.f0, .int .i64 v1.f1, .int .i64 v1.f2, k0 v1.f3]), (3, .tv (.sc (.pointer none))), (4, tI (0 : Int)), (69, tB v16)], []⟩) ?_ fun σ' hJ => ?_
     · refine AOps.split (fun b => ⟨[(1, .rp [.int .i64 v1.f0, .int .i64 v1.f1, .int .i64 v1.f2, k0 v1.f3]), (3, .tv (.sc (.pointer none))), (4, tI (0 : Int)), (65, tB b)], []⟩) _ (fun hb => ?_) fun hb => ?_
       · replace hc37 := of_true hc37 hb
         refine AOps.go [37, 38, 39, 40] [] [] [1, 3, 4, 69] 0 ⟨[(1, .rp [.int .i64 v1.f0, .int .i64 v1.f1, .int .i64 v1.f2, k0 v1.f3]), (3, .tv (.sc (.pointer none))), (4, tI (0 : Int)), (69, tB true)], []⟩ ?_ z0 trivial ?_
         · kernel_rfl
         cases hc37
         exact AOps.nil rfl
       · replace hc37 := of_false hc37 hb
         refine AOps.go [37] [38, 39, 40] [] [1, 3, 4, 65, 66] 0 ⟨[(1, .rp [.int .i64 v1.f0, .int .i64 v1.f1, .int .i64 v1.f2, k0 v1.f3]), (3, .tv (.sc (.pointer none))), (4, tI (0 : Int)), (65, tB false), (66, .tv (.sc (.pointer none)))], []⟩ ?_ z0 trivial ?_
         · kernel_rfl
         obtain ⟨v17, hv17, hc37⟩ := of_bind hc37
         refine AOps.cons (AOne.callP (F := (FF 78 0)) _ rfl rfl rfl _ rfl rfl _ _ rfl Try.call32 [.tv (.sc (.pointer none)), .tv (.sc (.pointer none))] rfl rfl (f32_z_z1_ok  hv17) rfl) ?_
         refine AOps.go [39, 40] [] [] [1, 3, 4, 69] 0 ⟨[(1, .rp [.int .i64 v1.f0, .int .i64 v1.f1, .int .i64 v1.f2, k0 v1.f3]), (3, .tv (.sc (.pointer none))), (4, tI (0 : Int)), (69, tB (!v17))], []⟩ ?_ z0 trivial ?_
         · kernel_rfl
         cases hc37
         exact AOps.nil rfl
     subst hJ
     refine AOps.go [41] [42, 43, 44, 45] [] [1, 3, 4, 70] 0 ⟨[(1, .rp [.int .i64 v1.f0, .int .i64 v1.f1, .int .i64 v1.f2, k0 v1.f3]), (3, .tv (.sc (.pointer none))), (4, tI (0 : Int)), (70, tB v16)], []⟩ ?_ z0 trivial ?_
     · kernel_rfl
     obtain ⟨v18, hc42, h⟩ := of_bind h
     refine AOps.cut [42, 43, 44, 45] [] (fun σ => σ = ⟨[(1, .rp [.int .i64 v1.f0, .int .i64 v1.f1, .int .i64 v1.f2, k0 v1.f3]), (4, tI (0 : Int)), (74, tB v18)], []⟩) ?_ fun σ' hJ => ?_
     · refine AOps.split (fun b => ⟨[(1, .rp [.int .i64 v1.f0, .int .i64 v1.f1, .int .i64 v1.f2, k0 v1.f3]), (3, .tv (.sc (.pointer none))), (4, tI (0 : Int)), (70, tB b)], []⟩) _ (fun hb => ?_) fun hb => ?_
       · replace hc42 := of_true hc42 hb
         refine AOps.go [42, 43, 44, 45] [] [] [1, 4, 74] 0 ⟨[(1, .rp [.int .i64 v1.f0, .int .i64 v1.f1, .int .i64 v1.f2, k0 v1.f3]), (4, tI (0 : Int)), (74, tB true)], []⟩ ?_ z0 trivial ?_
         · kernel_rfl
         cases hc42
         exact AOps.nil rfl
       · replace hc42 := of_false hc42 hb
         refine AOps.go [42] [43, 44, 45] [] [1, 4, 70, 71] 0 ⟨[(1, .rp [.int .i64 v1.f0, .int .i64 v1.f1, .int .i64 v1.f2, k0 v1.f3]), (4, tI (0 : Int)), (70, tB false), (71, .tv (.sc (.pointer none)))], []⟩ ?_ z0 trivial ?_
         · kernel_rfl
         obtain ⟨v19, hv19, hc42⟩ := of_bind hc42
         refine AOps.cons (AOne.callP (F := (FF 78 0)) _ rfl rfl rfl _ rfl rfl _ _ rfl Try.call32 [.tv (.sc (.pointer none)), .tv (.sc (.pointer none))] rfl rfl (f32_z_z1_ok  hv19) rfl) ?_
         refine AOps.go [44, 45] [] [] [1, 4, 74] 0 ⟨[(1, .rp [.int .i64 v1.f0, .int .i64 v1.f1, .int .i64 v1.f2, k0 v1.f3]), (4, tI (0 : Int)), (74, tB (!v19))], []⟩ ?_ z0 trivial ?_
         · kernel_rfl
         cases hc42
         exact AOps.nil rfl
     subst hJ
     refine AOps.nil ?_
     refine AWp.cond rfl (fun hb => ?_) fun hb => ?_
     · replace h := of_true h hb
       refine AWp.keepTo [] 0 ⟨[], []⟩ ?_ z0 ?_
       · kernel_rfl
       refine AWp.seq ?_
       refine AWp.start [0] [] [] [2] 0 ⟨[(2, tB false)], []⟩ rfl ?_ z0 trivial ?_
       · kernel_rfl
       refine AOps.nil ?_
       refine AWp.ret ?_
       cases h
       exact ⟨.inr rfl, rfl⟩
     · replace h := of_false h hb
       refine AWp.keepTo [1, 4] 0 ⟨[(1, .rp [.int .i64 v1.f0, .int .i64 v1.f1, .int .i64 v1.f2, k0 v1.f3]), (4, tI (0 : Int))], []⟩ ?_ z0 ?_
       · kernel_rfl
       refine AWp.skip ?_
       refine AWp.start [0, 1, 2] [] [] [1, 3, 4] 1 ⟨[(1, .rp [.int .i64 v1.f0, .int .i64 v1.f1, .int .i64 v1.f2, k0 v1.f3]), (3, .pc 0 0), (4, tI (0 : Int))], [.cells 65 [.str ([] : List UInt8), .int .i64 (0 : Int), nS, .int .i64 (0 : Int), .bool false]]⟩ rfl ?_ z0 trivial ?_
       · kernel_rfl
       refine AOps.nil ?_
       refine AWp.start [0, 1, 2] [] [] [1, 3, 4] 1 ⟨[(1, .rp [.int .i64 v1.f0, .int .i64 v1.f1, .int .i64 v1.f2, k0 v1.f3]), (3, .pc 0 0), (4, tI (w64 ((0 : Int) + (1 : Int))))], [.cells 65 [.str ([] : List UInt8), .int .i64 (0 : Int), nS, .int .i64 (0 : Int), .bool false]]⟩ rfl ?_ z0 trivial ?_
       · kernel_rfl
       refine AOps.nil ?_
       refine ARounds.step ?_
       refine AWp.seq ?_
       refine AWp.seq ?_
       refine AWp.start [0, 1] [] [] [1, 3, 4, 15] 1 ⟨[(1, .rp [.int .i64 v1.f0, .int .i64 v1.f1, .int .i64 v1.f2, k0 v1.f3]), (3, .pc 0 0), (4, tI (w64 ((0 : Int) + (1 : Int)))), (15, tB (decide (w64 ((0 : Int) + (1 : Int)) < (2 : Int))))], [.cells 65 [.str ([] : List UInt8), .int .i64 (0 : Int), nS, .int .i64 (0 : Int), .bool false]]⟩ rfl ?_ z0 trivial ?_
       · kernel_rfl
       refine AOps.nil ?_
       refine AWp.cond rfl (fun hb => ?_) fun hb => ?_
       · replace h := of_true h hb
         refine AWp.keepTo [1, 3, 4] 1 ⟨[(1, .rp [.int .i64 v1.f0, .int .i64 v1.f1, .int .i64 v1.f2, k0 v1.f3]), (3, .pc 0 0), (4, tI (w64 ((0 : Int) + (1 : Int))))], [.cells 65 [.str ([] : List UInt8), .int .i64 (0 : Int), nS, .int .i64 (0 : Int), .bool false]]⟩ ?_ z0 ?_
         · kernel_rfl
         refine AWp.skip ?_
         refine AWp.seq ?_
         refine AWp.block ?_
         refine AWp.seq ?_
         refine AWp.start [0, 1] [2, 3, 4, 5, 6, 7] [] [1, 3, 4, 19, 20] 1 ⟨[(1, .rp [.int .i64 v1.f0, .int .i64 v1.f1, .int .i64 v1.f2, k0 v1.f3]), (3, .pc 0 0), (4, tI (w64 ((0 : Int) + (1 : Int)))), (19, .pc 0 0), (20, .agg [.int .i64 v1.f0, .int .i64 v1.f1, .int .i64 v1.f2, k0 v1.f3])], [.cells 65 [.str ([] : List UInt8), .int .i64 (0 : Int), nS, .int .i64 (0 : Int), .bool false]]⟩ rfl ?_ z0 trivial ?_
         · kernel_rfl
         refine AOps.retell 0 2 rfl (.nilFz 1 (fun i => (cInt .u8) (([] : List Int).getD i default))) ?_
         obtain ⟨v20, hv20, h⟩ := of_bind h
         refine AOps.cons (AOne.callO (F := (FF 78 0)) _ rfl rfl rfl 21 rfl rfl 28 [] rfl Try.call28 [0] (by decide) [.pc 0 0, .agg [.int .i64 v1.f0, .int .i64 v1.f1, .int .i64 v1.f2, k0 v1.f3]] (by kernel_rfl) [.cells 65 [.str ([] : List UInt8), .int .i64 (0 : Int), k0 ([] : List Int), .int .i64 (0 : Int), .bool false]] (by kernel_rfl) (f28o_ok v1 (T64.mk ([] : List UInt8) (0 : Int) ([] : List Int) (0 : Int) false) hv20) (by kernel_rfl) (by kernel_rfl) _ rfl) ?_
         refine AOps.go [3, 4, 5, 6, 7] [] [] [1, 3, 4, 5, 6] 1 ⟨[(1, .rp [.int .i64 v1.f0, .int .i64 v1.f1, .int .i64 v1.f2, k0 v1.f3]), (3, .pc 0 0), (4, tI (w64 ((0 : Int) + (1 : Int)))), (5, q0 v20.1), (6, tI v20.2.1)], [.cells 65 [.str v20.2.2.f0, .int .i64 v20.2.2.f1, k0 v20.2.2.f2, .int .i64 v20.2.2.f3, .bool v20.2.2.f4]]⟩ ?_ z0 trivial ?_
         · kernel_rfl
         refine AOps.nil ?_
         refine AWp.seq ?_
         refine AWp.start [0] [1, 2, 3, 4, 5, 6] [] [1, 3, 4, 5, 6, 25] 1 ⟨[(1, .rp [.int .i64 v1.f0, .int .i64 v1.f1, .int .i64 v1.f2, k0 v1.f3]), (3, .pc 0 0), (4, tI (w64 ((0 : Int) + (1 : Int)))), (5, q0 v20.1), (6, tI v20.2.1), (25, .pc 0 0)], [.cells 65 [.str v20.2.2.f0, .int .i64 v20.2.2.f1, k0 v20.2.2.f2, .int .i64 v20.2.2.f3, .bool v20.2.2.f4]]⟩ rfl ?_ z0 trivial ?_
         · kernel_rfl
         obtain ⟨v21, hv21, h⟩ := of_bind h
         refine AOps.cons (AOne.callR (F := (FF 78 0)) _ rfl rfl rfl _ rfl rfl _ _ rfl Try.call18 [] [.rp [.str v20.2.2.f0, .int .i64 v20.2.2.f1, k0 v20.2.2.f2, .int .i64 v20.2.2.f3, .bool v20.2.2.f4]] rfl trivial (f18_ok v20.2.2 hv21) (ind_of rfl) rfl) ?_
         refine AOps.go [2, 3, 4, 5, 6] [] [] [1, 3, 4, 5, 6, 7, 8] 1 ⟨[(1, .rp [.int .i64 v1.f0, .int .i64 v1.f1, .int .i64 v1.f2, k0 v1.f3]), (3, .pc 0 0), (4, tI (w64 ((0 : Int) + (1 : Int)))), (5, q0 v20.1), (6, tI v20.2.1), (7, tI v21.1), (8, tI v21.2)], [.cells 65 [.str v20.2.2.f0, .int .i64 v20.2.2.f1, k0 v20.2.2.f2, .int .i64 v20.2.2.f3, .bool v20.2.2.f4]]⟩ ?_ z0 trivial ?_
         · kernel_rfl
         refine AOps.nil ?_
         refine AWp.seq ?_
         refine AWp.seq ?_
         refine AWp.start [0, 1, 2, 3] [4, 5, 6, 7, 8, 9, 10, 11, 12, 13, 14, 15, 16, 17, 18, 19, 20, 21, 22, 23, 24, 25, 26, 27, 28, 29, 30, 31, 32, 33, 34, 35, 36, 37, 38, 39, 40, 41, 42, 43, 44, 45] [] [1, 3, 4, 6, 7, 8, 32] 1 ⟨[(1, .rp [.int .i64 v1.f0, .int .i64 v1.f1, .int .i64 v1.f2, k0 v1.f3]), (3, .pc 0 0), (4, tI (w64 ((0 : Int) + (1 : Int)))), (6, tI v20.2.1), (7, tI v21.1), (8, tI v21.2), (32, tB (decide ((v20.1.length : Int) > (0 : Int))))], [.cells 65 [.str v20.2.2.f0, .int .i64 v20.2.2.f1, k0 v20.2.2.f2, .int .i64 v20.2.2.f3, .bool v20.2.2.f4]]⟩ rfl ?_ z0 trivial ?_
         · kernel_rfl
         obtain ⟨v22, hc4, h⟩ := of_bind h
         refine AOps.cut [4, 5, 6] [7, 8, 9, 10, 11, 12, 13, 14, 15, 16, 17, 18, 19, 20, 21, 22, 23, 24, 25, 26, 27, 28, 29, 30, 31, 32, 33, 34, 35, 36, 37, 38, 39, 40, 41, 42, 43, 44, 45] (fun σ => σ = ⟨[(1, .rp [.int .i64 v1.f0, .int .i64 v1.f1, .int .i64 v1.f2, k0 v1.f3]), (3, .pc 0 0), (4, tI (w64 ((0 : Int) + (1 : Int)))), (7, tI v21.1), (8, tI v21.2), (35, tB v22)], [.cells 65 [.str v20.2.2.f0, .int .i64 v20.2.2.f1, k0 v20.2.2.f2, .int .i64 v20.2.2.f3, .bool v20.2.2.f4]]⟩) ?_ fun σ' hJ => ?_
         · refine AOps.split (fun b => ⟨[(1, .rp [.int .i64 v1.f0, .int .i64 v1.f1, .int .i64 v1.f2, k0 v1.f3]), (3, .pc 0 0), (4, tI (w64 ((0 : Int) + (1 : Int)))), (6, tI v20.2.1), (7, tI v21.1), (8, tI v21.2), (32, tB b)], [.cells 65 [.str v20.2.2.f0, .int .i64 v20.2.2.f1, k0 v20.2.2.f2, .int .i64 v20.2.2.f3, .bool v20.2.2.f4]]⟩) _ (fun hb => ?_) fun hb => ?_
           · replace hc4 := of_true hc4 hb
             refine AOps.go [4, 5, 6] [] [] [1, 3, 4, 7, 8, 35] 1 ⟨[(1, .rp [.int .i64 v1.f0, .int .i64 v1.f1, .int .i64 v1.f2, k0 v1.f3]), (3, .pc 0 0), (4, tI (w64 ((0 : Int) + (1 : Int)))), (7, tI v21.1), (8, tI v21.2), (35, tB true)], [.cells 65 [.str v20.2.2.f0, .int .i64 v20.2.2.f1, k0 v20.2.2.f2, .int .i64 v20.2.2.f3, .bool v20.2.2.f4]]⟩ ?_ z0 trivial ?_
             · kernel_rfl
             cases hc4
             exact AOps.nil rfl
           · replace hc4 := of_false hc4 hb
             refine AOps.go [4, 5, 6] [] [] [1, 3, 4, 7, 8, 35] 1 ⟨[(1, .rp [.int .i64 v1.f0, .int .i64 v1.f1, .int .i64 v1.f2, k0 v1.f3]), (3, .pc 0 0), (4, tI (w64 ((0 : Int) + (1 : Int)))), (7, tI v21.1), (8, tI v21.2), (35, tB (v20.2.1 != (7 : Int)))], [.cells 65 [.str v20.2.2.f0, .int .i64 v20.2.2.f1, k0 v20.2.2.f2, .int .i64 v20.2.2.f3, .bool v20.2.2.f4]]⟩ ?_ z0 trivial ?_
             · kernel_rfl
             cases hc4
             exact AOps.nil rfl
         subst hJ
         refine AOps.go [7] [8, 9, 10, 11, 12, 13, 14, 15, 16, 17, 18, 19, 20, 21, 22, 23, 24, 25, 26, 27, 28, 29, 30, 31, 32, 33, 34, 35, 36, 37, 38, 39, 40, 41, 42, 43, 44, 45] [] [1, 3, 4, 7, 8, 36] 1 ⟨[(1, .rp [.int .i64 v1.f0, .int .i64 v1.f1, .int .i64 v1.f2, k0 v1.f3]), (3, .pc 0 0), (4, tI (w64 ((0 : Int) + (1 : Int)))), (7, tI v21.1), (8, tI v21.2), (36, tB v22)], [.cells 65 [.str v20.2.2.f0, .int .i64 v20.2.2.f1, k0 v20.2.2.f2, .int .i64 v20.2.2.f3, .bool v20.2.2.f4]]⟩ ?_ z0 trivial ?_
         · kernel_rfl
         obtain ⟨v23, hc8, h⟩ := of_bind h
         refine AOps.cut [8, 9, 10] [11, 12, 13, 14, 15, 16, 17, 18, 19, 20, 21, 22, 23, 24, 25, 26, 27, 28, 29, 30, 31, 32, 33, 34, 35, 36, 37, 38, 39, 40, 41, 42, 43, 44, 45] (fun σ => σ = ⟨[(1, .rp [.int .i64 v1.f0, .int .i64 v1.f1, .int .i64 v1.f2, k0 v1.f3]), (3, .pc 0 0), (4, tI (w64 ((0 : Int) + (1 : Int)))), (8, tI v21.2), (39, tB v23)], [.cells 65 [.str v20.2.2.f0, .int .i64 v20.2.2.f1, k0 v20.2.2.f2, .int .i64 v20.2.2.f3, .bool v20.2.2.f4]]⟩) ?_ fun σ' hJ => ?_
         · refine AOps.split (fun b => ⟨[(1, .rp [.int .i64 v1.f0, .int .i64 v1.f1, .int .i64 v1.f2, k0 v1.f3]), (3, .pc 0 0), (4, tI (w64 ((0 : Int) + (1 : Int)))), (7, tI v21.1), (8, tI v21.2), (36, tB b)], [.cells 65 [.str v20.2.2.f0, .int .i64 v20.2.2.f1, k0 v20.2.2.f2, .int .i64 v20.2.2.f3, .bool v20.2.2.f4]]⟩) _ (fun hb => ?_) fun hb => ?_
           · replace hc8 := of_true hc8 hb
             refine AOps.go [8, 9, 10] [] [] [1, 3, 4, 8, 39] 1 ⟨[(1, .rp [.int .i64 v1.f0, .int .i64 v1.f1, .int .i64 v1.f2, k0 v1.f3]), (3, .pc 0 0), (4, tI (w64 ((0 : Int) + (1 : Int)))), (8, tI v21.2), (39, tB true)], [.cells 65 [.str v20.2.2.f0, .int .i64 v20.2.2.f1, k0 v20.2.2.f2, .int .i64 v20.2.2.f3, .bool v20.2.2.f4]]⟩ ?_ z0 trivial ?_
             · kernel_rfl
             cases hc8
             exact AOps.nil rfl
           · replace hc8 := of_false hc8 hb
             refine AOps.go [8, 9, 10] [] [] [1, 3, 4, 8, 39] 1 ⟨[(1, .rp [.int .i64 v1.f0, .int .i64 v1.f1, .int .i64 v1.f2, k0 v1.f3]), (3, .pc 0 0), (4, tI (w64 ((0 : Int) + (1 : Int)))), (8, tI v21.2), (39, tB (v21.1 != (0 : Int)))], [.cells 65 [.str v20.2.2.f0, .int .i64 v20.2.2.f1, k0 v20.2.2.f2, .int .i64 v20.2.2.f3, .bool v20.2.2.f4]]⟩ ?_ z0 trivial ?_
             · kernel_rfl
             cases hc8
             exact AOps.nil rfl
         subst hJ
         refine AOps.go [11] [12, 13, 14, 15, 16, 17, 18, 19, 20, 21, 22, 23, 24, 25, 26, 27, 28, 29, 30, 31, 32, 33, 34, 35, 36, 37, 38, 39, 40, 41, 42, 43, 44, 45] [] [1, 3, 4, 8, 40] 1 ⟨[(1, .rp [.int .i64 v1.f0, .int .i64 v1.f1, .int .i64 v1.f2, k0 v1.f3]), (3, .pc 0 0), (4, tI (w64 ((0 : Int) + (1 : Int)))), (8, tI v21.2), (40, tB v23)], [.cells 65 [.str v20.2.2.f0, .int .i64 v20.2.2.f1, k0 v20.2.2.f2, .int .i64 v20.2.2.f3, .bool v20.2.2.f4]]⟩ ?_ z0 trivial ?_
         · kernel_rfl
         obtain ⟨v24, hc12, h⟩ := of_bind h
         refine AOps.cut [12, 13, 14] [15, 16, 17, 18, 19, 20, 21, 22, 23, 24, 25, 26, 27, 28, 29, 30, 31, 32, 33, 34, 35, 36, 37, 38, 39, 40, 41, 42, 43, 44, 45] (fun σ => σ = ⟨[(1, .rp [.int .i64 v1.f0, .int .i64 v1.f1, .int .i64 v1.f2, k0 v1.f3]), (3, .pc 0 0), (4, tI (w64 ((0 : Int) + (1 : Int)))), (43, tB v24)], [.cells 65 [.str v20.2.2.f0, .int .i64 v20.2.2.f1, k0 v20.2.2.f2, .int .i64 v20.2.2.f3, .bool v20.2.2.f4]]⟩) ?_ fun σ' hJ => ?_
         · refine AOps.split (fun b => ⟨[(1, .rp [.int .i64 v1.f0, .int .i64 v1.f1, .int .i64 v1.f2, k0 v1.f3]), (3, .pc 0 0), (4, tI (w64 ((0 : Int) + (1 : Int)))), (8, tI v21.2), (40, tB b)], [.cells 65 [.str v20.2.2.f0, .int .i64 v20.2.2.f1, k0 v20.2.2.f2, .int .i64 v20.2.2.f3, .bool v20.2.2.f4]]⟩) _ (fun hb => ?_) fun hb => ?_
           · replace hc12 := of_true hc12 hb
             refine AOps.go [12, 13, 14] [] [] [1, 3, 4, 43] 1 ⟨[(1, .rp [.int .i64 v1.f0, .int .i64 v1.f1, .int .i64 v1.f2, k0 v1.f3]), (3, .pc 0 0), (4, tI (w64 ((0 : Int) + (1 : Int)))), (43, tB true)], [.cells 65 [.str v20.2.2.f0, .int .i64 v20.2.2.f1, k0 v20.2.2.f2, .int .i64 v20.2.2.f3, .bool v20.2.2.f4]]⟩ ?_ z0 trivial ?_
             · kernel_rfl
             cases hc12
             exact AOps.nil rfl
           · replace hc12 := of_false hc12 hb
             refine AOps.go [12, 13, 14] [] [] [1, 3, 4, 43] 1 ⟨[(1, .rp [.int .i64 v1.f0, .int .i64 v1.f1, .int .i64 v1.f2, k0 v1.f3]), (3, .pc 0 0), (4, tI (w64 ((0 : Int) + (1 : Int)))), (43, tB (v21.2 != (7 : Int)))], [.cells 65 [.str v20.2.2.f0, .int .i64 v20.2.2.f1, k0 v20.2.2.f2, .int .i64 v20.2.2.f3, .bool v20.2.2.f4]]⟩ ?_ z0 trivial ?_
             · kernel_rfl
             cases hc12
             exact AOps.nil rfl
         subst hJ
         refine AOps.go [15] [16, 17, 18, 19, 20, 21, 22, 23, 24, 25, 26, 27, 28, 29, 30, 31, 32, 33, 34, 35, 36, 37, 38, 39, 40, 41, 42, 43, 44, 45] [] [1, 3, 4, 44] 1 ⟨[(1, .rp [.int .i64 v1.f0, .int .i64 v1.f1, .int .i64 v1.f2, k0 v1.f3]), (3, .pc 0 0), (4, tI (w64 ((0 : Int) + (1 : Int)))), (44, tB v24)], [.cells 65 [.str v20.2.2.f0, .int .i64 v20.2.2.f1, k0 v20.2.2.f2, .int .i64 v20.2.2.f3, .bool v20.2.2.f4]]⟩ ?_ z0 trivial ?_
         · kernel_rfl
         obtain ⟨v25, hc16, h⟩ := of_bind h
         refine AOps.cut [16, 17, 18, 19] [20, 21, 22, 23, 24, 25, 26, 27, 28, 29, 30, 31, 32, 33, 34, 35, 36, 37, 38, 39, 40, 41, 42, 43, 44, 45] (fun σ => σ = ⟨[(1, .rp [.int .i64 v1.f0, .int .i64 v1.f1, .int .i64 v1.f2, k0 v1.f3]), (3, .pc 0 0), (4, tI (w64 ((0 : Int) + (1 : Int)))), (48, tB v25)], [.cells 65 [.str v20.2.2.f0, .int .i64 v20.2.2.f1, k0 v20.2.2.f2, .int .i64 v20.2.2.f3, .bool v20.2.2.f4]]⟩) ?_ fun σ' hJ => ?_
         · refine AOps.split (fun b => ⟨[(1, .rp [.int .i64 v1.f0, .int .i64 v1.f1, .int .i64 v1.f2, k0 v1.f3]), (3, .pc 0 0), (4, tI (w64 ((0 : Int) + (1 : Int)))), (44, tB b)], [.cells 65 [.str v20.2.2.f0, .int .i64 v20.2.2.f1, k0 v20.2.2.f2, .int .i64 v20.2.2.f3, .bool v20.2.2.f4]]⟩) _ (fun hb => ?_) fun hb => ?_
           · replace hc16 := of_true hc16 hb
             refine AOps.go [16, 17, 18, 19] [] [] [1, 3, 4, 48] 1 ⟨[(1, .rp [.int .i64 v1.f0, .int .i64 v1.f1, .int .i64 v1.f2, k0 v1.f3]), (3, .pc 0 0), (4, tI (w64 ((0 : Int) + (1 : Int)))), (48, tB true)], [.cells 65 [.str v20.2.2.f0, .int .i64 v20.2.2.f1, k0 v20.2.2.f2, .int .i64 v20.2.2.f3, .bool v20.2.2.f4]]⟩ ?_ z0 trivial ?_
             · kernel_rfl
             cases hc16
             exact AOps.nil rfl
           · replace hc16 := of_false hc16 hb
             refine AOps.go [16] [17, 18, 19] [] [1, 3, 4, 44, 45] 1 ⟨[(1, .rp [.int .i64 v1.f0, .int .i64 v1.f1, .int .i64 v1.f2, k0 v1.f3]), (3, .pc 0 0), (4, tI (w64 ((0 : Int) + (1 : Int)))), (44, tB false), (45, .pc 0 0)], [.cells 65 [.str v20.2.2.f0, .int .i64 v20.2.2.f1, k0 v20.2.2.f2, .int .i64 v20.2.2.f3, .bool v20.2.2.f4]]⟩ ?_ z0 trivial ?_
             · kernel_rfl
             obtain ⟨v26, hv26, hc16⟩ := of_bind hc16
             refine AOps.cons (AOne.callR (F := (FF 78 0)) _ rfl rfl rfl _ rfl rfl _ _ rfl Try.call19 [] [.rp [.str v20.2.2.f0, .int .i64 v20.2.2.f1, k0 v20.2.2.f2, .int .i64 v20.2.2.f3, .bool v20.2.2.f4]] rfl trivial (f19_ok v20.2.2 hv26) (ind_of rfl) rfl) ?_
             refine AOps.go [18, 19] [] [] [1, 3, 4, 48] 1 ⟨[(1, .rp [.int .i64 v1.f0, .int .i64 v1.f1, .int .i64 v1.f2, k0 v1.f3]), (3, .pc 0 0), (4, tI (w64 ((0 : Int) + (1 : Int)))), (48, tB (v26 != (0 : Int)))], [.cells 65 [.str v20.2.2.f0, .int .i64 v20.2.2.f1, k0 v20.2.2.f2, .int .i64 v20.2.2.f3, .bool v20.2.2.f4]]⟩ ?_ z0 trivial ?_
             · kernel_rfl
             cases hc16
             exact AOps.nil rfl
         subst hJ
         refine AOps.go [20] [21, 22, 23, 24, 25, 26, 27, 28, 29, 30, 31, 32, 33, 34, 35, 36, 37, 38, 39, 40, 41, 42, 43, 44, 45] [] [1, 3, 4, 49] 1 ⟨[(1, .rp [.int .i64 v1.f0, .int .i64 v1.f1, .int .i64 v1.f2, k0 v1.f3]), (3, .pc 0 0), (4, tI (w64 ((0 : Int) + (1 : Int)))), (49, tB v25)], [.cells 65 [.str v20.2.2.f0, .int .i64 v20.2.2.f1, k0 v20.2.2.f2, .int .i64 v20.2.2.f3, .bool v20.2.2.f4]]⟩ ?_ z0 trivial ?_
         · kernel_rfl
         obtain ⟨v27, hc21, h⟩ := of_bind h
         refine AOps.cut [21, 22, 23, 24, 25] [26, 27, 28, 29, 30, 31, 32, 33, 34, 35, 36, 37, 38, 39, 40, 41, 42, 43, 44, 45] (fun σ => σ = ⟨[(1, .rp [.int .i64 v1.f0, .int .i64 v1.f1, .int .i64 v1.f2, k0 v1.f3]), (3, .pc 0 0), (4, tI (w64 ((0 : Int) + (1 : Int)))), (54, tB v27)], [.cells 65 [.str v20.2.2.f0, .int .i64 v20.2.2.f1, k0 v20.2.2.f2, .int .i64 v20.2.2.f3, .bool v20.2.2.f4]]⟩) ?_ fun σ' hJ => ?_
         · refine AOps.split (fun b => ⟨[(1, .rp [.int .i64 v1.f0, .int .i64 v1.f1, .int .i64 v1.f2, k0 v1.f3]), (3, .pc 0 0), (4, tI (w64 ((0 : Int) + (1 : Int)))), (49, tB b)], [.cells 65 [.str v20.2.2.f0, .int .i64 v20.2.2.f1, k0 v20.2.2.f2, .int .i64 v20.2.2.f3, .bool v20.2.2.f4]]⟩) _ (fun hb => ?_) fun hb => ?_
           · replace hc21 := of_true hc21 hb
             refine AOps.go [21, 22, 23, 24, 25] [] [] [1, 3, 4, 54] 1 ⟨[(1, .rp [.int .i64 v1.f0, .int .i64 v1.f1, .int .i64 v1.f2, k0 v1.f3]), (3, .pc 0 0), (4, tI (w64 ((0 : Int) + (1 : Int)))), (54, tB true)], [.cells 65 [.str v20.2.2.f0, .int .i64 v20.2.2.f1, k0 v20.2.2.f2, .int .i64 v20.2.2.f3, .bool v20.2.2.f4]]⟩ ?_ z0 trivial ?_
             · kernel_rfl
             cases hc21
             exact AOps.nil rfl
           · replace hc21 := of_false hc21 hb
             refine AOps.go [21] [22, 23, 24, 25] [] [1, 3, 4, 49, 50] 1 ⟨[(1, .rp [.int .i64 v1.f0, .int .i64 v1.f1, .int .i64 v1.f2, k0 v1.f3]), (3, .pc 0 0), (4, tI (w64 ((0 : Int) + (1 : Int)))), (49, tB false), (50, .pc 0 0)], [.cells 65 [.str v20.2.2.f0, .int .i64 v20.2.2.f1, k0 v20.2.2.f2, .int .i64 v20.2.2.f3, .bool v20.2.2.f4]]⟩ ?_ z0 trivial ?_
             · kernel_rfl
             obtain ⟨v28, hv28, hc21⟩ := of_bind hc21
             refine AOps.cons (AOne.callO (F := (FF 78 0)) _ rfl rfl rfl 51 rfl rfl 21 [] rfl Try.call21 [0] (by decide) [.pc 0 0] (by kernel_rfl) [.cells 65 [.str v20.2.2.f0, .int .i64 v20.2.2.f1, k0 v20.2.2.f2, .int .i64 v20.2.2.f3, .bool v20.2.2.f4]] (by kernel_rfl) (f21o_ok v20.2.2 hv28) (by kernel_rfl) (by kernel_rfl) _ rfl) ?_
             refine AOps.go [23, 24, 25] [] [] [1, 3, 4, 54] 1 ⟨[(1, .rp [.int .i64 v1.f0, .int .i64 v1.f1, .int .i64 v1.f2, k0 v1.f3]), (3, .pc 0 0), (4, tI (w64 ((0 : Int) + (1 : Int)))), (54, tB (decide ((v28.length : Int) > (0 : Int))))], [.cells 65 [.str v20.2.2.f0, .int .i64 v20.2.2.f1, k0 v20.2.2.f2, .int .i64 v20.2.2.f3, .bool v20.2.2.f4]]⟩ ?_ z0 trivial ?_
             · kernel_rfl
             cases hc21
             exact AOps.nil rfl
         subst hJ
         refine AOps.go [26] [27, 28, 29, 30, 31, 32, 33, 34, 35, 36, 37, 38, 39, 40, 41, 42, 43, 44, 45] [] [1, 3, 4, 55] 1 ⟨[(1, .rp [.int .i64 v1.f0, .int .i64 v1.f1, .int .i64 v1.f2, k0 v1.f3]), (3, .pc 0 0), (4, tI (w64 ((0 : Int) + (1 : Int)))), (55, tB v27)], [.cells 65 [.str v20.2.2.f0, .int .i64 v20.2.2.f1, k0 v20.2.2.f2, .int .i64 v20.2.2.f3, .bool v20.2.2.f4]]⟩ ?_ z0 trivial ?_
         · kernel_rfl
         obtain ⟨v29, hc27, h⟩ := of_bind h
         refine AOps.cut [27, 28, 29, 30] [31, 32, 33, 34, 35, 36, 37, 38, 39, 40, 41, 42, 43, 44, 45] (fun σ => σ = ⟨[(1, .rp [.int .i64 v1.f0, .int .i64 v1.f1, .int .i64 v1.f2, k0 v1.f3]), (3, .pc 0 0), (4, tI (w64 ((0 : Int) + (1 : Int)))), (59, tB v29)], [.cells 65 [.str v20.2.2.f0, .int .i64 v20.2.2.f1, k0 v20.2.2.f2, .int .i64 v20.2.2.f3, .bool v20.2.2.f4]]⟩) ?_ fun σ' hJ => ?_
         · refine AOps.split (fun b => ⟨[(1, .rp [.int .i64 v1.f0, .int .i64 v1.f1, .int .i64 v1.f2, k0 v1.f3]), (3, .pc 0 0), (4, tI (w64 ((0 : Int) + (1 : Int)))), (55, tB b)], [.cells 65 [.str v20.2.2.f0, .int .i64 v20.2.2.f1, k0 v20.2.2.f2, .int .i64 v20.2.2.f3, .bool v20.2.2.f4]]⟩) _ (fun hb => ?_) fun hb => ?_
           · replace hc27 := of_true hc27 hb
             refine AOps.go [27, 28, 29, 30] [] [] [1, 3, 4, 59] 1 ⟨[(1, .rp [.int .i64 v1.f0, .int .i64 v1.f1, .int .i64 v1.f2, k0 v1.f3]), (3, .pc 0 0), (4, tI (w64 ((0 : Int) + (1 : Int)))), (59, tB true)], [.cells 65 [.str v20.2.2.f0, .int .i64 v20.2.2.f1, k0 v20.2.2.f2, .int .i64 v20.2.2.f3, .bool v20.2.2.f4]]⟩ ?_ z0 trivial ?_
             · kernel_rfl
             cases hc27
             exact AOps.nil rfl
           · replace hc27 := of_false hc27 hb
             refine AOps.go [27] [28, 29, 30] [] [1, 3, 4, 55, 56] 1 ⟨[(1, .rp [.int .i64 v1.f0, .int .i64 v1.f1, .int .i64 v1.f2, k0 v1.f3]), (3, .pc 0 0), (4, tI (w64 ((0 : Int) + (1 : Int)))), (55, tB false), (56, .pc 0 0)], [.cells 65 [.str v20.2.2.f0, .int .i64 v20.2.2.f1, k0 v20.2.2.f2, .int .i64 v20.2.2.f3, .bool v20.2.2.f4]]⟩ ?_ z0 trivial ?_
             · kernel_rfl
             obtain ⟨v30, hv30, hc27⟩ := of_bind hc27
             refine AOps.cons (AOne.callR (F := (FF 78 0)) _ rfl rfl rfl _ rfl rfl _ _ rfl Try.call34 [] [.rp [.str v20.2.2.f0, .int .i64 v20.2.2.f1, k0 v20.2.2.f2, .int .i64 v20.2.2.f3, .bool v20.2.2.f4]] rfl trivial (f34_ok v20.2.2 hv30) (ind_of rfl) rfl) ?_
             refine AOps.go [29, 30] [] [] [1, 3, 4, 59] 1 ⟨[(1, .rp [.int .i64 v1.f0, .int .i64 v1.f1, .int .i64 v1.f2, k0 v1.f3]), (3, .pc 0 0), (4, tI (w64 ((0 : Int) + (1 : Int)))), (59, tB (!(v30 == ([] : List UInt8))))], [.cells 65 [.str v20.2.2.f0, .int .i64 v20.2.2.f1, k0 v20.2.2.f2, .int .i64 v20.2.2.f3, .bool v20.2.2.f4]]⟩ ?_ z0 trivial ?_
             · kernel_rfl
             cases hc27
             exact AOps.nil rfl
         subst hJ
         refine AOps.go [31] [32, 33, 34, 35, 36, 37, 38, 39, 40, 41, 42, 43, 44, 45] [] [1, 3, 4, 60] 1 ⟨[(1, .rp [.int .i64 v1.f0, .int .i64 v1.f1, .int .i64 v1.f2, k0 v1.f3]), (3, .pc 0 0), (4, tI (w64 ((0 : Int) + (1 : Int)))), (60, tB v29)], [.cells 65 [.str v20.2.2.f0, .int .i64 v20.2.2.f1, k0 v20.2.2.f2, .int .i64 v20.2.2.f3, .bool v20.2.2.f4]]⟩ ?_ z0 trivial ?_
         · kernel_rfl
         obtain ⟨v31, hc32, h⟩ := of_bind h
         refine AOps.cut [32, 33, 34, 35] [36, 37, 38, 39, 40, 41, 42, 43, 44, 45] (fun σ => σ = ⟨[(1, .rp [.int .i64 v1.f0, .int .i64 v1.f1, .int .i64 v1.f2, k0 v1.f3]), (3, .pc 0 0), (4, tI (w64 ((0 : Int) + (1 : Int)))), (64, tB v31)], [.cells 65 [.str v20.2.2.f0, .int .i64 v20.2.2.f1, k0 v20.2.2.f2, .int .i64 v20.2.2.f3, .bool v20.2.2.f4]]⟩) ?_ fun σ' hJ => ?_
         · refine AOps.split (fun b => ⟨[(1, .rp [.int .i64 v1.f0, .int .i64 v1.f1, .int .i64 v1.f2, k0 v1.f3]), (3, .pc 0 0), (4, tI (w64 ((0 : Int) + (1 : Int)))), (60, tB b)], [.cells 65 [.str v20.2.2.f0, .int .i64 v20.2.2.f1, k0 v20.2.2.f2, .int .i64 v20.2.2.f3, .bool v20.2.2.f4]]⟩) _ (fun hb => ?_) fun hb => ?_
           · replace hc32 := of_true hc32 hb
             refine AOps.go [32, 33, 34, 35] [] [] [1, 3, 4, 64] 1 ⟨[(1, .rp [.int .i64 v1.f0, .int .i64 v1.f1, .int .i64 v1.f2, k0 v1.f3]), (3, .pc 0 0), (4, tI (w64 ((0 : Int) + (1 : Int)))), (64, tB true)], [.cells 65 [.str v20.2.2.f0, .int .i64 v20.2.2.f1, k0 v20.2.2.f2, .int .i64 v20.2.2.f3, .bool v20.2.2.f4]]⟩ ?_ z0 trivial ?_
             · kernel_rfl
             cases hc32
             exact AOps.nil rfl
           · replace hc32 := of_false hc32 hb
             refine AOps.go [32] [33, 34, 35] [] [1, 3, 4, 60, 61] 1 ⟨[(1, .rp [.int .i64 v1.f0, .int .i64 v1.f1, .int .i64 v1.f2, k0 v1.f3]), (3, .pc 0 0), (4, tI (w64 ((0 : Int) + (1 : Int)))), (60, tB false), (61, .pc 0 0)], [.cells 65 [.str v20.2.2.f0, .int .i64 v20.2.2.f1, k0 v20.2.2.f2, .int .i64 v20.2.2.f3, .bool v20.2.2.f4]]⟩ ?_ z0 trivial ?_
             · kernel_rfl
             obtain ⟨v32, hv32, hc32⟩ := of_bind hc32
             rcases v32 with _ | v33
             · replace hc32 : (some false) = some v31 := hc32
               refine AOps.cons (AOne.callO (F := (FF 78 0)) _ rfl rfl rfl 62 rfl rfl 30 [] rfl Try.call30 [0] (by decide) [.pc 0 0] (by kernel_rfl) [.cells 65 [.str v20.2.2.f0, .int .i64 v20.2.2.f1, k0 v20.2.2.f2, .int .i64 v20.2.2.f3, .bool v20.2.2.f4]] (by kernel_rfl) (f30o_ok v20.2.2 hv32) (by kernel_rfl) (by kernel_rfl) _ rfl) ?_
               refine AOps.go [34, 35] [] [] [1, 3, 4, 64] 1 ⟨[(1, .rp [.int .i64 v1.f0, .int .i64 v1.f1, .int .i64 v1.f2, k0 v1.f3]), (3, .pc 0 0), (4, tI (w64 ((0 : Int) + (1 : Int)))), (64, tB false)], [.cells 65 [.str v20.2.2.f0, .int .i64 v20.2.2.f1, k0 v20.2.2.f2, .int .i64 v20.2.2.f3, .bool v20.2.2.f4]]⟩ ?_ z0 trivial ?_
               · kernel_rfl
               cases hc32
               exact AOps.nil rfl
             · replace hc32 : (some true) = some v31 := hc32
               refine AOps.cons (AOne.callO (F := (FF 78 0)) _ rfl rfl rfl 62 rfl rfl 30 [] rfl Try.call30 [0] (by decide) [.pc 0 0] (by kernel_rfl) [.cells 65 [.str v20.2.2.f0, .int .i64 v20.2.2.f1, k0 v20.2.2.f2, .int .i64 v20.2.2.f3, .bool v20.2.2.f4]] (by kernel_rfl) (f30o_ok v20.2.2 hv32) (by kernel_rfl) (by kernel_rfl) _ rfl) ?_
               refine AOps.go [34, 35] [] [] [1, 3, 4, 64] 1 ⟨[(1, .rp [.int .i64 v1.f0, .int .i64 v1.f1, .int .i64 v1.f2, k0 v1.f3]), (3, .pc 0 0), (4, tI (w64 ((0 : Int) + (1 : Int)))), (64, tB true)], [.cells 65 [.str v20.2.2.f0, .int .i64 v20.2.2.f1, k0 v20.2.2.f2, .int .i64 v20.2.2.f3, .bool v20.2.2.f4]]⟩ ?_ z0 trivial ?_
               · kernel_rfl
               cases hc32
               exact AOps.nil rfl
         subst hJ
         refine AOps.go [36] [37, 38, 39, 40, 41, 42, 43, 44, 45] [] [1, 3, 4, 65] 1 ⟨[(1, .rp [.int .i64 v1.f0, .int .i64 v1.f1, .int .i64 v1.f2, k0 v1.f3]), (3, .pc 0 0), (4, tI (w64 ((0 : Int) + (1 : Int)))), (65, tB v31)], [.cells 65 [.str v20.2.2.f0, .int .i64 v20.2.2.f1, k0 v20.2.2.f2, .int .i64 v20.2.2.f3, .bool v20.2.2.f4]]⟩ ?_ z0 trivial ?_
         · kernel_rfl
         obtain ⟨v34, hc37, h⟩ := of_bind h
         refine AOps.cut [37, 38, 39, 40] [41, 42, 43, 44, 45] (fun σ => σ = ⟨[(1, .rp [.int .i64 v1.f0, .int .i64 v1.f1, .int .i64 v1.f2, k0 v1.f3]), (3, .pc 0 0), (4, tI (w64 ((0 : Int) + (1 : Int)))), (69, tB v34)], [.cells 65 [.str v20.2.2.f0, .int .i64 v20.2.2.f1, k0 v20.2.2.f2, .int .i64 v20.2.2.f3, .bool v20.2.2.f4]]⟩) ?_ fun σ' hJ => ?_
         · refine AOps.split (fun b => ⟨[(1, .rp [.int .i64 v1.f0, .int .i64 v1.f1, .int .i64 v1.f2, k0 v1.f3]), (3, .pc 0 0), (4, tI (w64 ((0 : Int) + (1 : Int)))), (65, tB b)], [.cells 65 [.str v20.2.2.f0, .int .i64 v20.2.2.f1, k0 v20.2.2.f2, .int .i64 v20.2.2.f3, .bool v20.2.2.f4]]⟩) _ (fun hb => ?_) fun hb => ?_
           · replace hc37 := of_true hc37 hb
             refine AOps.go [37, 38, 39, 40] [] [] [1, 3, 4, 69] 1 ⟨[(1, .rp [.int .i64 v1.f0, .int .i64 v1.f1, .int .i64 v1.f2, k0 v1.f3]), (3, .pc 0 0), (4, tI (w64 ((0 : Int) + (1 : Int)))), (69, tB true)], [.cells 65 [.str v20.2.2.f0, .int .i64 v20.2.2.f1, k0 v20.2.2.f2, .int .i64 v20.2.2.f3, .bool v20.2.2.f4]]⟩ ?_ z0 trivial ?_
             · kernel_rfl
             cases hc37
             exact AOps.nil rfl
           · replace hc37 := of_false hc37 hb
             refine AOps.go [37] [38, 39, 40] [] [1, 3, 4, 65, 66] 1 ⟨[(1, .rp [.int .i64 v1.f0, .int .i64 v1.f1, .int .i64 v1.f2, k0 v1.f3]), (3, .pc 0 0), (4, tI (w64 ((0 : Int) + (1 : Int)))), (65, tB false), (66, .pc 0 0)], [.cells 65 [.str v20.2.2.f0, .int .i64 v20.2.2.f1, k0 v20.2.2.f2, .int .i64 v20.2.2.f3, .bool v20.2.2.f4]]⟩ ?_ z0 trivial ?_
             · kernel_rfl
             obtain ⟨v35, hv35, hc37⟩ := of_bind hc37
             refine AOps.cons (AOne.callR (F := (FF 78 0)) _ rfl rfl rfl _ rfl rfl _ _ rfl Try.call32 [] [.rp [.str v20.2.2.f0, .int .i64 v20.2.2.f1, k0 v20.2.2.f2, .int .i64 v20.2.2.f3, .bool v20.2.2.f4], .tv (.sc (.pointer none))] rfl trivial (f32_z1_ok v20.2.2 hv35) (ind_of rfl) rfl) ?_
             refine AOps.go [39, 40] [] [] [1, 3, 4, 69] 1 ⟨[(1, .rp [.int .i64 v1.f0, .int .i64 v1.f1, .int .i64 v1.f2, k0 v1.f3]), (3, .pc 0 0), (4, tI (w64 ((0 : Int) + (1 : Int)))), (69, tB (!v35))], [.cells 65 [.str v20.2.2.f0, .int .i64 v20.2.2.f1, k0 v20.2.2.f2, .int .i64 v20.2.2.f3, .bool v20.2.2.f4]]⟩ ?_ z0 trivial ?_
             · kernel_rfl
             cases hc37
             exact AOps.nil rfl
         subst hJ
         refine AOps.go [41] [42, 43, 44, 45] [] [1, 3, 4, 70] 1 ⟨[(1, .rp [.int .i64 v1.f0, .int .i64 v1.f1, .int .i64 v1.f2, k0 v1.f3]), (3, .pc 0 0), (4, tI (w64 ((0 : Int) + (1 : Int)))), (70, tB v34)], [.cells 65 [.str v20.2.2.f0, .int .i64 v20.2.2.f1, k0 v20.2.2.f2, .int .i64 v20.2.2.f3, .bool v20.2.2.f4]]⟩ ?_ z0 trivial ?_
         · kernel_rfl
         obtain ⟨v36, hc42, h⟩ := of_bind h
         refine AOps.cut [42, 43, 44, 45] [] (fun σ => σ = ⟨[(1, .rp [.int .i64 v1.f0, .int .i64 v1.f1, .int .i64 v1.f2, k0 v1.f3]), (4, tI (w64 ((0 : Int) + (1 : Int)))), (74, tB v36)], []⟩) ?_ fun σ' hJ => ?_
         · refine AOps.split (fun b => ⟨[(1, .rp [.int .i64 v1.f0, .int .i64 v1.f1, .int .i64 v1.f2, k0 v1.f3]), (3, .pc 0 0), (4, tI (w64 ((0 : Int) + (1 : Int)))), (70, tB b)], [.cells 65 [.str v20.2.2.f0, .int .i64 v20.2.2.f1, k0 v20.2.2.f2, .int .i64 v20.2.2.f3, .bool v20.2.2.f4]]⟩) _ (fun hb => ?_) fun hb => ?_
           · replace hc42 := of_true hc42 hb
             refine AOps.go [42, 43, 44, 45] [] [] [1, 4, 74] 0 ⟨[(1, .rp [.int .i64 v1.f0, .int .i64 v1.f1, .int .i64 v1.f2, k0 v1.f3]), (4, tI (w64 ((0 : Int) + (1 : Int)))), (74, tB true)], []⟩ ?_ z0 trivial ?_
             · kernel_rfl
             cases hc42
             exact AOps.nil rfl
           · replace hc42 := of_false hc42 hb
             refine AOps.go [42] [43, 44, 45] [] [1, 4, 70, 71] 1 ⟨[(1, .rp [.int .i64 v1.f0, .int .i64 v1.f1, .int .i64 v1.f2, k0 v1.f3]), (4, tI (w64 ((0 : Int) + (1 : Int)))), (70, tB false), (71, .pc 0 0)], [.cells 65 [.str v20.2.2.f0, .int .i64 v20.2.2.f1, k0 v20.2.2.f2, .int .i64 v20.2.2.f3, .bool v20.2.2.f4]]⟩ ?_ z0 trivial ?_
             · kernel_rfl
             obtain ⟨v37, hv37, hc42⟩ := of_bind hc42
             refine AOps.cons (AOne.callR (F := (FF 78 0)) _ rfl rfl rfl _ rfl rfl _ _ rfl Try.call32 [] [.tv (.sc (.pointer none)), .rp [.str v20.2.2.f0, .int .i64 v20.2.2.f1, k0 v20.2.2.f2, .int .i64 v20.2.2.f3, .bool v20.2.2.f4]] rfl trivial (f32_z_ok v20.2.2 hv37) (ind_of rfl) rfl) ?_
             refine AOps.go [44, 45] [] [] [1, 4, 74] 0 ⟨[(1, .rp [.int .i64 v1.f0, .int .i64 v1.f1, .int .i64 v1.f2, k0 v1.f3]), (4, tI (w64 ((0 : Int) + (1 : Int)))), (74, tB (!v37))], []⟩ ?_ z0 trivial ?_
             · kernel_rfl
             cases hc42
             exact AOps.nil rfl
         subst hJ
         refine AOps.nil ?_
         refine AWp.cond rfl (fun hb => ?_) fun hb => ?_
         · replace h := of_true h hb
           refine AWp.keepTo [] 0 ⟨[], []⟩ ?_ z0 ?_
           · kernel_rfl
           refine AWp.seq ?_
           refine AWp.start [0] [] [] [2] 0 ⟨[(2, tB false)], []⟩ rfl ?_ z0 trivial ?_
           · kernel_rfl
           refine AOps.nil ?_
           refine AWp.ret ?_
           cases h
           exact ⟨.inr rfl, rfl⟩
         · replace h := of_false h hb
           refine AWp.keepTo [1, 4] 0 ⟨[(1, .rp [.int .i64 v1.f0, .int .i64 v1.f1, .int .i64 v1.f2, k0 v1.f3]), (4, tI (w64 ((0 : Int) + (1 : Int))))], []⟩ ?_ z0 ?_
           · kernel_rfl
           refine AWp.skip ?_
           refine AWp.start [0, 1, 2] [] [] [1, 3, 4] 1 ⟨[(1, .rp [.int .i64 v1.f0, .int .i64 v1.f1, .int .i64 v1.f2, k0 v1.f3]), (3, .pc 0 0), (4, tI (w64 ((0 : Int) + (1 : Int))))], [.cells 65 [.str ([] : List UInt8), .int .i64 (0 : Int), nS, .int .i64 (0 : Int), .bool false]]⟩ rfl ?_ z0 trivial ?_
           · kernel_rfl
           refine AOps.nil ?_
           refine AWp.start [0, 1, 2] [] [] [1, 3, 4] 1 ⟨[(1, .rp [.int .i64 v1.f0, .int .i64 v1.f1, .int .i64 v1.f2, k0 v1.f3]), (3, .pc 0 0), (4, tI (w64 ((w64 ((0 : Int) + (1 : Int))) + (1 : Int))))], [.cells 65 [.str ([] : List UInt8), .int .i64 (0 : Int), nS, .int .i64 (0 : Int), .bool false]]⟩ rfl ?_ z0 trivial ?_
           · kernel_rfl
           refine AOps.nil ?_
           refine ARounds.step ?_
           refine AWp.seq ?_
           refine AWp.seq ?_
           refine AWp.start [0, 1] [] [] [1, 3, 4, 15] 1 ⟨[(1, .rp [.int .i64 v1.f0, .int .i64 v1.f1, .int .i64 v1.f2, k0 v1.f3]), (3, .pc 0 0), (4, tI (w64 ((w64 ((0 : Int) + (1 : Int))) + (1 : Int)))), (15, tB (decide (w64 ((w64 ((0 : Int) + (1 : Int))) + (1 : Int)) < (2 : Int))))], [.cells 65 [.str ([] : List UInt8), .int .i64 (0 : Int), nS, .int .i64 (0 : Int), .bool false]]⟩ rfl ?_ z0 trivial ?_
           · kernel_rfl
           refine AOps.nil ?_
           refine AWp.cond rfl (fun hb => ?_) fun hb => ?_
           · replace h := of_true h hb
             refine AWp.keepTo [1, 3, 4] 1 ⟨[(1, .rp [.int .i64 v1.f0, .int .i64 v1.f1, .int .i64 v1.f2, k0 v1.f3]), (3, .pc 0 0), (4, tI (w64 ((w64 ((0 : Int) + (1 : Int))) + (1 : Int))))], [.cells 65 [.str ([] : List UInt8), .int .i64 (0 : Int), nS, .int .i64 (0 : Int), .bool false]]⟩ ?_ z0 ?_
             · kernel_rfl
             refine AWp.skip ?_
             refine AWp.seq ?_
             refine AWp.block ?_
             refine AWp.seq ?_
             refine AWp.start [0, 1] [2, 3, 4, 5, 6, 7] [] [1, 3, 4, 19, 20] 1 ⟨[(1, .rp [.int .i64 v1.f0, .int .i64 v1.f1, .int .i64 v1.f2, k0 v1.f3]), (3, .pc 0 0), (4, tI (w64 ((w64 ((0 : Int) + (1 : Int))) + (1 : Int)))), (19, .pc 0 0), (20, .agg [.int .i64 v1.f0, .int .i64 v1.f1, .int .i64 v1.f2, k0 v1.f3])], [.cells 65 [.str ([] : List UInt8), .int .i64 (0 : Int), nS, .int .i64 (0 : Int), .bool false]]⟩ rfl ?_ z0 trivial ?_
             · kernel_rfl
             refine AOps.retell 0 2 rfl (.nilFz 1 (fun i => (cInt .u8) (([] : List Int).getD i default))) ?_
             obtain ⟨v38, hv38, h⟩ := of_bind h
             refine AOps.cons (AOne.callO (F := (FF 78 0)) _ rfl rfl rfl 21 rfl rfl 28 [] rfl Try.call28 [0] (by decide) [.pc 0 0, .agg [.int .i64 v1.f0, .int .i64 v1.f1, .int .i64 v1.f2, k0 v1.f3]] (by kernel_rfl) [.cells 65 [.str ([] : List UInt8), .int .i64 (0 : Int), k0 ([] : List Int), .int .i64 (0 : Int), .bool false]] (by kernel_rfl) (f28o_ok v1 (T64.mk ([] : List UInt8) (0 : Int) ([] : List Int) (0 : Int) false) hv38) (by kernel_rfl) (by kernel_rfl) _ rfl) ?_
             refine AOps.go [3, 4, 5, 6, 7] [] [] [1, 3, 4, 5, 6] 1 ⟨[(1, .rp [.int .i64 v1.f0, .int .i64 v1.f1, .int .i64 v1.f2, k0 v1.f3]), (3, .pc 0 0), (4, tI (w64 ((w64 ((0 : Int) + (1 : Int))) + (1 : Int)))), (5, q0 v38.1), (6, tI v38.2.1)], [.cells 65 [.str v38.2.2.f0, .int .i64 v38.2.2.f1, k0 v38.2.2.f2, .int .i64 v38.2.2.f3, .bool v38.2.2.f4]]⟩ ?_ z0 trivial ?_
             · kernel_rfl
             refine AOps.nil ?_
             refine AWp.seq ?_
             refine AWp.start [0] [1, 2, 3, 4, 5, 6] [] [1, 3, 4, 5, 6, 25] 1 ⟨[(1, .rp [.int .i64 v1.f0, .int .i64 v1.f1, .int .i64 v1.f2, k0 v1.f3]), (3, .pc 0 0), (4, tI (w64 ((w64 ((0 : Int) + (1 : Int))) + (1 : Int)))), (5, q0 v38.1), (6, tI v38.2.1), (25, .pc 0 0)], [.cells 65 [.str v38.2.2.f0, .int .i64 v38.2.2.f1, k0 v38.2.2.f2, .int .i64 v38.2.2.f3, .bool v38.2.2.f4]]⟩ rfl ?_ z0 trivial ?_
             · kernel_rfl
             obtain ⟨v39, hv39, h⟩ := of_bind h
             refine AOps.cons (AOne.callR (F := (FF 78 0)) _ rfl rfl rfl _ rfl rfl _ _ rfl Try.call18 [] [.rp [.str v38.2.2.f0, .int .i64 v38.2.2.f1, k0 v38.2.2.f2, .int .i64 v38.2.2.f3, .bool v38.2.2.f4]] rfl trivial (f18_ok v38.2.2 hv39) (ind_of rfl) rfl) ?_
             refine AOps.go [2, 3, 4, 5, 6] [] [] [1, 3, 4, 5, 6, 7, 8] 1 ⟨[(1, .rp [.int .i64 v1.f0, .int .i64 v1.f1, .int .i64 v1.f2, k0 v1.f3]), (3, .pc 0 0), (4, tI (w64 ((w64 ((0 : Int) + (1 : Int))) + (1 : Int)))), (5, q0 v38.1), (6, tI v38.2.1), (7, tI v39.1), (8, tI v39.2)], [.cells 65 [.str v38.2.2.f0, .int .i64 v38.2.2.f1, k0 v38.2.2.f2, .int .i64 v38.2.2.f3, .bool v38.2.2.f4]]⟩ ?_ z0 trivial ?_
             · kernel_rfl
             refine AOps.nil ?_
             refine AWp.seq ?_
             refine AWp.seq ?_
             refine AWp.start [0, 1, 2, 3] [4, 5, 6, 7, 8, 9, 10, 11, 12, 13, 14, 15, 16, 17, 18, 19, 20, 21, 22, 23, 24, 25, 26, 27, 28, 29, 30, 31, 32, 33, 34, 35, 36, 37, 38, 39, 40, 41, 42, 43, 44, 45] [] [1, 3, 4, 6, 7, 8, 32] 1 ⟨[(1, .rp [.int .i64 v1.f0, .int .i64 v1.f1, .int .i64 v1.f2, k0 v1.f3]), (3, .pc 0 0), (4, tI (w64 ((w64 ((0 : Int) + (1 : Int))) + (1 : Int)))), (6, tI v38.2.1), (7, tI v39.1), (8, tI v39.2), (32, tB (decide ((v38.1.length : Int) > (0 : Int))))], [.cells 65 [.str v38.2.2.f0, .int .i64 v38.2.2.f1, k0 v38.2.2.f2, .int .i64 v38.2.2.f3, .bool v38.2.2.f4]]⟩ rfl ?_ z0 trivial ?_
             · kernel_rfl
             obtain ⟨v40, hc4, h⟩ := of_bind h
             refine AOps.cut [4, 5, 6] [7, 8, 9, 10, 11, 12, 13, 14, 15, 16, 17, 18, 19, 20, 21, 22, 23, 24, 25, 26, 27, 28, 29, 30, 31, 32, 33, 34, 35, 36, 37, 38, 39, 40, 41, 42, 43, 44, 45] (fun σ => σ = ⟨[(1, .rp [.int .i64 v1.f0, .int .i64 v1.f1, .int .i64 v1.f2, k0 v1.f3]), (3, .pc 0 0), (4, tI (w64 ((w64 ((0 : Int) + (1 : Int))) + (1 : Int)))), (7, tI v39.1), (8, tI v39.2), (35, tB v40)], [.cells 65 [.str v38.2.2.f0, .int .i64 v38.2.2.f1, k0 v38.2.2.f2, .int .i64 v38.2.2.f3, .bool v38.2.2.f4]]⟩) ?_ fun σ' hJ => ?_
             · refine AOps.split (fun b => ⟨[(1, .rp [.int .i64 v1.f0, .int .i64 v1.f1, .int .i64 v1.f2, k0 v1.f3]), (3, .pc 0 0), (4, tI (w64 ((w64 ((0 : Int) + (1 : Int))) + (1 : Int)))), (6, tI v38.2.1), (7, tI v39.1), (8, tI v39.2), (32, tB b)], [.cells 65 [.str v38.2.2.f0, .int .i64 v38.2.2.f1, k0 v38.2.2.f2, .int .i64 v38.2.2.f3, .bool v38.2.2.f4]]⟩) _ (fun hb => ?_) fun hb => ?_
               · replace hc4 := of_true hc4 hb
                 refine AOps.go [4, 5, 6] [] [] [1, 3, 4, 7, 8, 35] 1 ⟨[(1, .rp [.int .i64 v1.f0, .int .i64 v1.f1, .int .i64 v1.f2, k0 v1.f3]), (3, .pc 0 0), (4, tI (w64 ((w64 ((0 : Int) + (1 : Int))) + (1 : Int)))), (7, tI v39.1), (8, tI v39.2), (35, tB true)], [.cells 65 [.str v38.2.2.f0, .int .i64 v38.2.2.f1, k0 v38.2.2.f2, .int .i64 v38.2.2.f3, .bool v38.2.2.f4]]⟩ ?_ z0 trivial ?_
                 · kernel_rfl
                 cases hc4
                 exact AOps.nil rfl
               · replace hc4 := of_false hc4 hb
                 refine AOps.go [4, 5, 6] [] [] [1, 3, 4, 7, 8, 35] 1 ⟨[(1, .rp [.int .i64 v1.f0, .int .i64 v1.f1, .int .i64 v1.f2, k0 v1.f3]), (3, .pc 0 0), (4, tI (w64 ((w64 ((0 : Int) + (1 : Int))) + (1 : Int)))), (7, tI v39.1), (8, tI v39.2), (35, tB (v38.2.1 != (7 : Int)))], [.cells 65 [.str v38.2.2.f0, .int .i64 v38.2.2.f1, k0 v38.2.2.f2, .int .i64 v38.2.2.f3, .bool v38.2.2.f4]]⟩ ?_ z0 trivial ?_
                 · kernel_rfl
                 cases hc4
                 exact AOps.nil rfl
             subst hJ
             refine AOps.go [7] [8, 9, 10, 11, 12, 13, 14, 15, 16, 17, 18, 19, 20, 21, 22, 23, 24, 25, 26, 27, 28, 29, 30, 31, 32, 33, 34, 35, 36, 37, 38, 39, 40, 41, 42, 43, 44, 45] [] [1, 3, 4, 7, 8, 36] 1 ⟨[(1, .rp [.int .i64 v1.f0, .int .i64 v1.f1, .int .i64 v1.f2, k0 v1.f3]), (3, .pc 0 0), (4, tI (w64 ((w64 ((0 : Int) + (1 : Int))) + (1 : Int)))), (7, tI v39.1), (8, tI v39.2), (36, tB v40)], [.cells 65 [.str v38.2.2.f0, .int .i64 v38.2.2.f1, k0 v38.2.2.f2, .int .i64 v38.2.2.f3, .bool v38.2.2.f4]]⟩ ?_ z0 trivial ?_
             · kernel_rfl
             obtain ⟨v41, hc8, h⟩ := of_bind h
             refine AOps.cut [8, 9, 10] [11, 12, 13, 14, 15, 16, 17, 18, 19, 20, 21, 22, 23, 24, 25, 26, 27, 28, 29, 30, 31, 32, 33, 34, 35, 36, 37, 38, 39, 40, 41, 42, 43, 44, 45] (fun σ => σ = ⟨[(1, .rp [.int .i64 v1.f0, .int .i64 v1.f1, .int .i64 v1.f2, k0 v1.f3]), (3, .pc 0 0), (4, tI (w64 ((w64 ((0 : Int) + (1 : Int))) + (1 : Int)))), (8, tI v39.2), (39, tB v41)], [.cells 65 [.str v38.2.2.f0, .int .i64 v38.2.2.f1, k0 v38.2.2.f2, .int .i64 v38.2.2.f3, .bool v38.2.2.f4]]⟩) ?_ fun σ' hJ => ?_
             · refine AOps.split (fun b => ⟨[(1, .rp [.int .i64 v1.f0, .int .i64 v1.f1, .int .i64 v1.f2, k0 v1.f3]), (3, .pc 0 0), (4, tI (w64 ((w64 ((0 : Int) + (1 : Int))) + (1 : Int)))), (7, tI v39.1), (8, tI v39.2), (36, tB b)], [.cells 65 [.str v38.2.2.f0, .int .i64 v38.2.2.f1, k0 v38.2.2.f2, .int .i64 v38.2.2.f3, .bool v38.2.2.f4]]⟩) _ (fun hb => ?_) fun hb => ?_
               · replace hc8 := of_true hc8 hb
                 refine AOps.go [8, 9, 10] [] [] [1, 3, 4, 8, 39] 1 ⟨[(1, .rp [.int .i64 v1.f0, .int .i64 v1.f1, .int .i64 v1.f2, k0 v1.f3]), (3, .pc 0 0), (4, tI (w64 ((w64 ((0 : Int) + (1 : Int))) + (1 : Int)))), (8, tI v39.2), (39, tB true)], [.cells 65 [.str v38.2.2.f0, .int .i64 v38.2.2.f1, k0 v38.2.2.f2, .int .i64 v38.2.2.f3, .bool v38.2.2.f4]]⟩ ?_ z0 trivial ?_
                 · kernel_rfl
                 cases hc8
                 exact AOps.nil rfl
               · replace hc8 := of_false hc8 hb
                 refine AOps.go [8, 9, 10] [] [] [1, 3, 4, 8, 39] 1 ⟨[(1, .rp [.int .i64 v1.f0, .int .i64 v1.f1, .int .i64 v1.f2, k0 v1.f3]), (3, .pc 0 0), (4, tI (w64 ((w64 ((0 : Int) + (1 : Int))) + (1 : Int)))), (8, tI v39.2), (39, tB (v39.1 != (0 : Int)))], [.cells 65 [.str v38.2.2.f0, .int .i64 v38.2.2.f1, k0 v38.2.2.f2, .int .i64 v38.2.2.f3, .bool v38.2.2.f4]]⟩ ?_ z0 trivial ?_
                 · kernel_rfl
                 cases hc8
                 exact AOps.nil rfl
             subst hJ
             refine AOps.go [11] [12, 13, 14, 15, 16, 17, 18, 19, 20, 21, 22, 23, 24, 25, 26, 27, 28, 29, 30, 31, 32, 33, 34, 35, 36, 37, 38, 39, 40, 41, 42, 43, 44, 45] [] [1, 3, 4, 8, 40] 1 ⟨[(1, .rp [.int .i64 v1.f0, .int .i64 v1.f1, .int .i64 v1.f2, k0 v1.f3]), (3, .pc 0 0), (4, tI (w64 ((w64 ((0 : Int) + (1 : Int))) + (1 : Int)))), (8, tI v39.2), (40, tB v41)], [.cells 65 [.str v38.2.2.f0, .int .i64 v38.2.2.f1, k0 v38.2.2.f2, .int .i64 v38.2.2.f3, .bool v38.2.2.f4]]⟩ ?_ z0 trivial ?_
             · kernel_rfl
             obtain ⟨v42, hc12, h⟩ := of_bind h
             refine AOps.cut [12, 13, 14] [15, 16, 17, 18, 19, 20, 21, 22, 23, 24, 25, 26, 27, 28, 29, 30, 31, 32, 33, 34, 35, 36, 37, 38, 39, 40, 41, 42, 43, 44, 45] (fun σ => σ = ⟨[(1, .rp [.int .i64 v1.f0, .int .i64 v1.f1, .int .i64 v1.f2, k0 v1.f3]), (3, .pc 0 0), (4, tI (w64 ((w64 ((0 : Int) + (1 : Int))) + (1 : Int)))), (43, tB v42)], [.cells 65 [.str v38.2.2.f0, .int .i64 v38.2.2.f1, k0 v38.2.2.f2, .int .i64 v38.2.2.f3, .bool v38.2.2.f4]]⟩) ?_ fun σ' hJ => ?_
             · refine AOps.split (fun b => ⟨[(1, .rp [.int .i64 v1.f0, .int .i64 v1.f1, .int .i64 v1.f2, k0 v1.f3]), (3, .pc 0 0), (4, tI (w64 ((w64 ((0 : Int) + (1 : Int))) + (1 : Int)))), (8, tI v39.2), (40, tB b)], [.cells 65 [.str v38.2.2.f0, .int .i64 v38.2.2.f1, k0 v38.2.2.f2, .int .i64 v38.2.2.f3, .bool v38.2.2.f4]]⟩) _ (fun hb => ?_) fun hb => ?_
               · replace hc12 := of_true hc12 hb
                 refine AOps.go [12, 13, 14] [] [] [1, 3, 4, 43] 1 ⟨[(1, .rp [.int .i64 v1.f0, .int .i64 v1.f1, .int .i64 v1.f2, k0 v1.f3]), (3, .pc 0 0), (4, tI (w64 ((w64 ((0 : Int) + (1 : Int))) + (1 : Int)))), (43, tB true)], [.cells 65 [.str v38.2.2.f0, .int .i64 v38.2.2.f1, k0 v38.2.2.f2, .int .i64 v38.2.2.f3, .bool v38.2.2.f4]]⟩ ?_ z0 trivial ?_
                 · kernel_rfl
                 cases hc12
                 exact AOps.nil rfl
               · replace hc12 := of_false hc12 hb
                 refine AOps.go [12, 13, 14] [] [] [1, 3, 4, 43] 1 ⟨[(1, .rp [.int .i64 v1.f0, .int .i64 v1.f1, .int .i64 v1.f2, k0 v1.f3]), (3, .pc 0 0), (4, tI (w64 ((w64 ((0 : Int) + (1 : Int))) + (1 : Int)))), (43, tB (v39.2 != (7 : Int)))], [.cells 65 [.str v38.2.2.f0, .int .i64 v38.2.2.f1, k0 v38.2.2.f2, .int .i64 v38.2.2.f3, .bool v38.2.2.f4]]⟩ ?_ z0 trivial ?_
                 · kernel_rfl
                 cases hc12
                 exact AOps.nil rfl
             subst hJ
             refine AOps.go [15] [16, 17, 18, 19, 20, 21, 22, 23, 24, 25, 26, 27, 28, 29, 30, 31, 32, 33, 34, 35, 36, 37, 38, 39, 40, 41, 42, 43, 44, 45] [] [1, 3, 4, 44] 1 ⟨[(1, .rp [.int .i64 v1.f0, .int .i64 v1.f1, .int .i64 v1.f2, k0 v1.f3]), (3, .pc 0 0), (4, tI (w64 ((w64 ((0 : Int) + (1 : Int))) + (1 : Int)))), (44, tB v42)], [.cells 65 [.str v38.2.2.f0, .int .i64 v38.2.2.f1, k0 v38.2.2.f2, .int .i64 v38.2.2.f3, .bool v38.2.2.f4]]⟩ ?_ z0 trivial ?_
             · kernel_rfl
             obtain ⟨v43, hc16, h⟩ := of_bind h
             refine AOps.cut [16, 17, 18, 19] [20, 21, 22, 23, 24, 25, 26, 27, 28, 29, 30, 31, 32, 33, 34, 35, 36, 37, 38, 39, 40, 41, 42, 43, 44, 45] (fun σ => σ = ⟨[(1, .rp [.int .i64 v1.f0, .int .i64 v1.f1, .int .i64 v1.f2, k0 v1.f3]), (3, .pc 0 0), (4, tI (w64 ((w64 ((0 : Int) + (1 : Int))) + (1 : Int)))), (48, tB v43)], [.cells 65 [.str v38.2.2.f0, .int .i64 v38.2.2.f1, k0 v38.2.2.f2, .int .i64 v38.2.2.f3, .bool v38.2.2.f4]]⟩) ?_ fun σ' hJ => ?_
             · refine AOps.split (fun b => ⟨[(1, .rp [.int .i64 v1.f0, .int .i64 v1.f1, .int .i64 v1.f2, k0 v1.f3]), (3, .pc 0 0), (4, tI (w64 ((w64 ((0 : Int) + (1 : Int))) + (1 : Int)))), (44, tB b)], [.cells 65 [.str v38.2.2.f0, .int .i64 v38.2.2.f1, k0 v38.2.2.f2, .int .i64 v38.2.2.f3, .bool v38.2.2.f4]]⟩) _ (fun hb => ?_) fun hb => ?_
               · replace hc16 := of_true hc16 hb
                 refine AOps.go [16, 17, 18, 19] [] [] [1, 3, 4, 48] 1 ⟨[(1, .rp [.int .i64 v1.f0, .int .i64 v1.f1, .int .i64 v1.f2, k0 v1.f3]), (3, .pc 0 0), (4, tI (w64 ((w64 ((0 : Int) + (1 : Int))) + (1 : Int)))), (48, tB true)], [.cells 65 [.str v38.2.2.f0, .int .i64 v38.2.2.f1, k0 v38.2.2.f2, .int .i64 v38.2.2.f3, .bool v38.2.2.f4]]⟩ ?_ z0 trivial ?_
                 · kernel_rfl
                 cases hc16
                 exact AOps.nil rfl
               · replace hc16 := of_false hc16 hb
                 refine AOps.go [16] [17, 18, 19] [] [1, 3, 4, 44, 45] 1 ⟨[(1, .rp [.int .i64 v1.f0, .int .i64 v1.f1, .int .i64 v1.f2, k0 v1.f3]), (3, .pc 0 0), (4, tI (w64 ((w64 ((0 : Int) + (1 : Int))) + (1 : Int)))), (44, tB false), (45, .pc 0 0)], [.cells 65 [.str v38.2.2.f0, .int .i64 v38.2.2.f1, k0 v38.2.2.f2, .int .i64 v38.2.2.f3, .bool v38.2.2.f4]]⟩ ?_ z0 trivial ?_
                 · kernel_rfl
                 obtain ⟨v44, hv44, hc16⟩ := of_bind hc16
                 refine AOps.cons (AOne.callR (F := (FF 78 0)) _ rfl rfl rfl _ rfl rfl _ _ rfl Try.call19 [] [.rp [.str v38.2.2.f0, .int .i64 v38.2.2.f1, k0 v38.2.2.f2, .int .i64 v38.2.2.f3, .bool v38.2.2.f4]] rfl trivial (f19_ok v38.2.2 hv44) (ind_of rfl) rfl) ?_
                 refine AOps.go [18, 19] [] [] [1, 3, 4, 48] 1 ⟨[(1, .rp [.int .i64 v1.f0, .int .i64 v1.f1, .int .i64 v1.f2, k0 v1.f3]), (3, .pc 0 0), (4, tI (w64 ((w64 ((0 : Int) + (1 : Int))) + (1 : Int)))), (48, tB (v44 != (0 : Int)))], [.cells 65 [.str v38.2.2.f0, .int .i64 v38.2.2.f1, k0 v38.2.2.f2, .int .i64 v38.2.2.f3, .bool v38.2.2.f4]]⟩ ?_ z0 trivial ?_
                 · kernel_rfl
                 cases hc16
                 exact AOps.nil rfl
             subst hJ
             refine AOps.go [20] [21, 22, 23, 24, 25, 26, 27, 28, 29, 30, 31, 32, 33, 34, 35, 36, 37, 38, 39, 40, 41, 42, 43, 44, 45] [] [1, 3, 4, 49] 1 ⟨[(1, .rp [.int .i64 v1.f0, .int .i64 v1.f1, .int .i64 v1.f2, k0 v1.f3]), (3, .pc 0 0), (4, tI (w64 ((w64 ((0 : Int) + (1 : Int))) + (1 : Int)))), (49, tB v43)], [.cells 65 [.str v38.2.2.f0, .int .i64 v38.2.2.f1, k0 v38.2.2.f2, .int .i64 v38.2.2.f3, .bool v38.2.2.f4]]⟩ ?_ z0 trivial ?_
             · kernel_rfl
             obtain ⟨v45, hc21, h⟩ := of_bind h
             refine AOps.cut [21, 22, 23, 24, 25] [26, 27, 28, 29, 30, 31, 32, 33, 34, 35, 36, 37, 38, 39, 40, 41, 42, 43, 44, 45] (fun σ => σ = ⟨[(1, .rp [.int .i64 v1.f0, .int .i64 v1.f1, .int .i64 v1.f2, k0 v1.f3]), (3, .pc 0 0), (4, tI (w64 ((w64 ((0 : Int) + (1 : Int))) + (1 : Int)))), (54, tB v45)], [.cells 65 [.str v38.2.2.f0, .int .i64 v38.2.2.f1, k0 v38.2.2.f2, .int .i64 v38.2.2.f3, .bool v38.2.2.f4]]⟩) ?_ fun σ' hJ => ?_
             · refine AOps.split (fun b => ⟨[(1, .rp [.int .i64 v1.f0, .int .i64 v1.f1, .int .i64 v1.f2, k0 v1.f3]), (3, .pc 0 0), (4, tI (w64 ((w64 ((0 : Int) + (1 : Int))) + (1 : Int)))), (49, tB b)], [.cells 65 [.str v38.2.2.f0, .int .i64 v38.2.2.f1, k0 v38.2.2.f2, .int .i64 v38.2.2.f3, .bool v38.2.2.f4]]⟩) _ (fun hb => ?_) fun hb => ?_
               · replace hc21 := of_true hc21 hb
                 refine AOps.go [21, 22, 23, 24, 25] [] [] [1, 3, 4, 54] 1 ⟨[(1, .rp [.int .i64 v1.f0, .int .i64 v1.f1, .int .i64 v1.f2, k0 v1.f3]), (3, .pc 0 0), (4, tI (w64 ((w64 ((0 : Int) + (1 : Int))) + (1 : Int)))), (54, tB true)], [.cells 65 [.str v38.2.2.f0, .int .i64 v38.2.2.f1, k0 v38.2.2.f2, .int .i64 v38.2.2.f3, .bool v38.2.2.f4]]⟩ ?_ z0 trivial ?_
                 · kernel_rfl
                 cases hc21
                 exact AOps.nil rfl
               · replace hc21 := of_false hc21 hb
                 refine AOps.go [21] [22, 23, 24, 25] [] [1, 3, 4, 49, 50] 1 ⟨[(1, .rp [.int .i64 v1.f0, .int .i64 v1.f1, .int .i64 v1.f2, k0 v1.f3]), (3, .pc 0 0), (4, tI (w64 ((w64 ((0 : Int) + (1 : Int))) + (1 : Int)))), (49, tB false), (50, .pc 0 0)], [.cells 65 [.str v38.2.2.f0, .int .i64 v38.2.2.f1, k0 v38.2.2.f2, .int .i64 v38.2.2.f3, .bool v38.2.2.f4]]⟩ ?_ z0 trivial ?_
                 · kernel_rfl
                 obtain ⟨v46, hv46, hc21⟩ := of_bind hc21
                 refine AOps.cons (AOne.callO (F := (FF 78 0)) _ rfl rfl rfl 51 rfl rfl 21 [] rfl Try.call21 [0] (by decide) [.pc 0 0] (by kernel_rfl) [.cells 65 [.str v38.2.2.f0, .int .i64 v38.2.2.f1, k0 v38.2.2.f2, .int .i64 v38.2.2.f3, .bool v38.2.2.f4]] (by kernel_rfl) (f21o_ok v38.2.2 hv46) (by kernel_rfl) (by kernel_rfl) _ rfl) ?_
                 refine AOps.go [23, 24, 25] [] [] [1, 3, 4, 54] 1 ⟨[(1, .rp [.int .i64 v1.f0, .int .i64 v1.f1, .int .i64 v1.f2, k0 v1.f3]), (3, .pc 0 0), (4, tI (w64 ((w64 ((0 : Int) + (1 : Int))) + (1 : Int)))), (54, tB (decide ((v46.length : Int) > (0 : Int))))], [.cells 65 [.str v38.2.2.f0, .int .i64 v38.2.2.f1, k0 v38.2.2.f2, .int .i64 v38.2.2.f3, .bool v38.2.2.f4]]⟩ ?_ z0 trivial ?_
                 · kernel_rfl
                 cases hc21
                 exact AOps.nil rfl
             subst hJ
             refine AOps.go [26] [27, 28, 29, 30, 31, 32, 33, 34, 35, 36, 37, 38, 39, 40, 41, 42, 43, 44, 45] [] [1, 3, 4, 55] 1 ⟨[(1, .rp [.int .i64 v1.f0, .int .i64 v1.f1, .int .i64 v1.f2, k0 v1.f3]), (3, .pc 0 0), (4, tI (w64 ((w64 ((0 : Int) + (1 : Int))) + (1 : Int)))), (55, tB v45)], [.cells 65 [.str v38.2.2.f0, .int .i64 v38.2.2.f1, k0 v38.2.2.f2, .int .i64 v38.2.2.f3, .bool v38.2.2.f4]]⟩ ?_ z0 trivial ?_
             · kernel_rfl
             obtain ⟨v47, hc27, h⟩ := of_bind h
             refine AOps.cut [27, 28, 29, 30] [31, 32, 33, 34, 35, 36, 37, 38, 39, 40, 41, 42, 43, 44, 45] (fun σ => σ = ⟨[(1, .rp [.int .i64 v1.f0, .int .i64 v1.f1, .int .i64 v1.f2, k0 v1.f3]), (3, .pc 0 0), (4, tI (w64 ((w64 ((0 : Int) + (1 : Int))) + (1 : Int)))), (59, tB v47)], [.cells 65 [.str v38.2.2.f0, .int .i64 v38.2.2.f1, k0 v38.2.2.f2, .int .i64 v38.2.2.f3, .bool v38.2.2.f4]]⟩) ?_ fun σ' hJ => ?_
             · refine AOps.split (fun b => ⟨[(1, .rp [.int .i64 v1.f0, .int .i64 v1.f1, .int .i64 v1.f2, k0 v1.f3]), (3, .pc 0 0), (4, tI (w64 ((w64 ((0 : Int) + (1 : Int))) + (1 : Int)))), (55, tB b)], [.cells 65 [.str v38.2.2.f0, .int .i64 v38.2.2.f1, k0 v38.2.2.f2, .int .i64 v38.2.2.f3, .bool v38.2.2.f4]]⟩) _ (fun hb => ?_) fun hb => ?_
               · replace hc27 := of_true hc27 hb
                 refine AOps.go [27, 28, 29, 30] [] [] [1, 3, 4, 59] 1 ⟨[(1, .rp [.int .i64 v1.f0, .int .i64 v1.f1, .int .i64 v1.f2, k0 v1.f3]), (3, .pc 0 0), (4, tI (w64 ((w64 ((0 : Int) + (1 : Int))) + (1 : Int)))), (59, tB true)], [.cells 65 [.str v38.2.2.f0, .int .i64 v38.2.2.f1, k0 v38.2.2.f2, .int .i64 v38.2.2.f3, .bool v38.2.2.f4]]⟩ ?_ z0 trivial ?_
                 · kernel_rfl
                 cases hc27
                 exact AOps.nil rfl
               · replace hc27 := of_false hc27 hb
                 refine AOps.go [27] [28, 29, 30] [] [1, 3, 4, 55, 56] 1 ⟨[(1, .rp [.int .i64 v1.f0, .int .i64 v1.f1, .int .i64 v1.f2, k0 v1.f3]), (3, .pc 0 0), (4, tI (w64 ((w64 ((0 : Int) + (1 : Int))) + (1 : Int)))), (55, tB false), (56, .pc 0 0)], [.cells 65 [.str v38.2.2.f0, .int .i64 v38.2.2.f1, k0 v38.2.2.f2, .int .i64 v38.2.2.f3, .bool v38.2.2.f4]]⟩ ?_ z0 trivial ?_
                 · kernel_rfl
                 obtain ⟨v48, hv48, hc27⟩ := of_bind hc27
                 refine AOps.cons (AOne.callR (F := (FF 78 0)) _ rfl rfl rfl _ rfl rfl _ _ rfl Try.call34 [] [.rp [.str v38.2.2.f0, .int .i64 v38.2.2.f1, k0 v38.2.2.f2, .int .i64 v38.2.2.f3, .bool v38.2.2.f4]] rfl trivial (f34_ok v38.2.2 hv48) (ind_of rfl) rfl) ?_
                 refine AOps.go [29, 30] [] [] [1, 3, 4, 59] 1 ⟨[(1, .rp [.int .i64 v1.f0, .int .i64 v1.f1, .int .i64 v1.f2, k0 v1.f3]), (3, .pc 0 0), (4, tI (w64 ((w64 ((0 : Int) + (1 : Int))) + (1 : Int)))), (59, tB (!(v48 == ([] : List UInt8))))], [.cells 65 [.str v38.2.2.f0, .int .i64 v38.2.2.f1, k0 v38.2.2.f2, .int .i64 v38.2.2.f3, .bool v38.2.2.f4]]⟩ ?_ z0 trivial ?_
                 · kernel_rfl
                 cases hc27
                 exact AOps.nil rfl
             subst hJ
             refine AOps.go [31] [32, 33, 34, 35, 36, 37, 38, 39, 40, 41, 42, 43, 44, 45] [] [1, 3, 4, 60] 1 ⟨[(1, .rp [.int .i64 v1.f0, .int .i64 v1.f1, .int .i64 v1.f2, k0 v1.f3]), (3, .pc 0 0), (4, tI (w64 ((w64 ((0 : Int) + (1 : Int))) + (1 : Int)))), (60, tB v47)], [.cells 65 [.str v38.2.2.f0, .int .i64 v38.2.2.f1, k0 v38.2.2.f2, .int .i64 v38.2.2.f3, .bool v38.2.2.f4]]⟩ ?_ z0 trivial ?_
             · kernel_rfl
             obtain ⟨v49, hc32, h⟩ := of_bind h
             refine AOps.cut [32, 33, 34, 35] [36, 37, 38, 39, 40, 41, 42, 43, 44, 45] (fun σ => σ = ⟨[(1, .rp [.int .i64 v1.f0, .int .i64 v1.f1, .int .i64 v1.f2, k0 v1.f3]), (3, .pc 0 0), (4, tI (w64 ((w64 ((0 : Int) + (1 : Int))) + (1 : Int)))), (64, tB v49)], [.cells 65 [.str v38.2.2.f0, .int .i64 v38.2.2.f1, k0 v38.2.2.f2, .int .i64 v38.2.2.f3, .bool v38.2.2.f4]]⟩) ?_ fun σ' hJ => ?_
             · refine AOps.split (fun b => ⟨[(1, .rp [.int .i64 v1.f0, .int .i64 v1.f1, .int .i64 v1.f2, k0 v1.f3]), (3, .pc 0 0), (4, tI (w64 ((w64 ((0 : Int) + (1 : Int))) + (1 : Int)))), (60, tB b)], [.cells 65 [.str v38.2.2.f0, .int .i64 v38.2.2.f1, k0 v38.2.2.f2, .int .i64 v38.2.2.f3, .bool v38.2.2.f4]]⟩) _ (fun hb => ?_) fun hb => ?_
               · replace hc32 := of_true hc32 hb
                 refine AOps.go [32, 33, 34, 35] [] [] [1, 3, 4, 64] 1 ⟨[(1, .rp [.int .i64 v1.f0, .int .i64 v1.f1, .int .i64 v1.f2, k0 v1.f3]), (3, .pc 0 0), (4, tI (w64 ((w64 ((0 : Int) + (1 : Int))) + (1 : Int)))), (64, tB true)], [.cells 65 [.str v38.2.2.f0, .int .i64 v38.2.2.f1, k0 v38.2.2.f2, .int .i64 v38.2.2.f3, .bool v38.2.2.f4]]⟩ ?_ z0 trivial ?_
                 · kernel_rfl
                 cases hc32
                 exact AOps.nil rfl
               · replace hc32 := of_false hc32 hb
                 refine AOps.go [32] [33, 34, 35] [] [1, 3, 4, 60, 61] 1 ⟨[(1, .rp [.int .i64 v1.f0, .int .i64 v1.f1, .int .i64 v1.f2, k0 v1.f3]), (3, .pc 0 0), (4, tI (w64 ((w64 ((0 : Int) + (1 : Int))) + (1 : Int)))), (60, tB false), (61, .pc 0 0)], [.cells 65 [.str v38.2.2.f0, .int .i64 v38.2.2.f1, k0 v38.2.2.f2, .int .i64 v38.2.2.f3, .bool v38.2.2.f4]]⟩ ?_ z0 trivial ?_
                 · kernel_rfl
                 obtain ⟨v50, hv50, hc32⟩ := of_bind hc32
                 rcases v50 with _ | v51
                 · replace hc32 : (some false) = some v49 := hc32
                   refine AOps.cons (AOne.callO (F := (FF 78 0)) _ rfl rfl rfl 62 rfl rfl 30 [] rfl Try.call30 [0] (by decide) [.pc 0 0] (by kernel_rfl) [.cells 65 [.str v38.2.2.f0, .int .i64 v38.2.2.f1, k0 v38.2.2.f2, .int .i64 v38.2.2.f3, .bool v38.2.2.f4]] (by kernel_rfl) (f30o_ok v38.2.2 hv50) (by kernel_rfl) (by kernel_rfl) _ rfl) ?_
                   refine AOps.go [34, 35] [] [] [1, 3, 4, 64] 1 ⟨[(1, .rp [.int .i64 v1.f0, .int .i64 v1.f1, .int .i64 v1.f2, k0 v1.f3]), (3, .pc 0 0), (4, tI (w64 ((w64 ((0 : Int) + (1 : Int))) + (1 : Int)))), (64, tB false)], [.cells 65 [.str v38.2.2.f0, .int .i64 v38.2.2.f1, k0 v38.2.2.f2, .int .i64 v38.2.2.f3, .bool v38.2.2.f4]]⟩ ?_ z0 trivial ?_
                   · kernel_rfl
                   cases hc32
                   exact AOps.nil rfl
                 · replace hc32 : (some true) = some v49 := hc32
                   refine AOps.cons (AOne.callO (F := (FF 78 0)) _ rfl rfl rfl 62 rfl rfl 30 [] rfl Try.call30 [0] (by decide) [.pc 0 0] (by kernel_rfl) [.cells 65 [.str v38.2.2.f0, .int .i64 v38.2.2.f1, k0 v38.2.2.f2, .int .i64 v38.2.2.f3, .bool v38.2.2.f4]] (by kernel_rfl) (f30o_ok v38.2.2 hv50) (by kernel_rfl) (by kernel_rfl) _ rfl) ?_
                   refine AOps.go [34, 35] [] [] [1, 3, 4, 64] 1 ⟨[(1, .rp [.int .i64 v1.f0, .int .i64 v1.f1, .int .i64 v1.f2, k0 v1.f3]), (3, .pc 0 0), (4, tI (w64 ((w64 ((0 : Int) + (1 : Int))) + (1 : Int)))), (64, tB true)], [.cells 65 [.str v38.2.2.f0, .int .i64 v38.2.2.f1, k0 v38.2.2.f2, .int .i64 v38.2.2.f3, .bool v38.2.2.f4]]⟩ ?_ z0 trivial ?_
                   · kernel_rfl
                   cases hc32
                   exact AOps.nil rfl
             subst hJ
             refine AOps.go [36] [37, 38, 39, 40, 41, 42, 43, 44, 45] [] [1, 3, 4, 65] 1 ⟨[(1, .rp [.int .i64 v1.f0, .int .i64 v1.f1, .int .i64 v1.f2, k0 v1.f3]), (3, .pc 0 0), (4, tI (w64 ((w64 ((0 : Int) + (1 : Int))) + (1 : Int)))), (65, tB v49)], [.cells 65 [.str v38.2.2.f0, .int .i64 v38.2.2.f1, k0 v38.2.2.f2, .int .i64 v38.2.2.f3, .bool v38.2.2.f4]]⟩ ?_ z0 trivial ?_
             · kernel_rfl
             obtain ⟨v52, hc37, h⟩ := of_bind h
             refine AOps.cut [37, 38, 39, 40] [41, 42, 43, 44, 45] (fun σ => σ = ⟨[(1, .rp [.int .i64 v1.f0, .int .i64 v1.f1, .int .i64 v1.f2, k0 v1.f3]), (3, .pc 0 0), (4, tI (w64 ((w64 ((0 : Int) + (1 : Int))) + (1 : Int)))), (69, tB v52)], [.cells 65 [.str v38.2.2.f0, .int .i64 v38.2.2.f1, k0 v38.2.2.f2, .int .i64 v38.2.2.f3, .bool v38.2.2.f4]]⟩) ?_ fun σ' hJ => ?_
             · refine AOps.split (fun b => ⟨[(1, .rp [.int .i64 v1.f0, .int .i64 v1.f1, .int .i64 v1.f2, k0 v1.f3]), (3, .pc 0 0), (4, tI (w64 ((w64 ((0 : Int) + (1 : Int))) + (1 : Int)))), (65, tB b)], [.cells 65 [.str v38.2.2.f0, .int .i64 v38.2.2.f1, k0 v38.2.2.f2, .int .i64 v38.2.2.f3, .bool v38.2.2.f4]]⟩) _ (fun hb => ?_) fun hb => ?_
               · replace hc37 := of_true hc37 hb
                 refine AOps.go [37, 38, 39, 40] [] [] [1, 3, 4, 69] 1 ⟨[(1, .rp [.int .i64 v1.f0, .int .i64 v1.f1, .int .i64 v1.f2, k0 v1.f3]), (3, .pc 0 0), (4, tI (w64 ((w64 ((0 : Int) + (1 : Int))) + (1 : Int)))), (69, tB true)], [.cells 65 [.str v38.2.2.f0, .int .i64 v38.2.2.f1, k0 v38.2.2.f2, .int .i64 v38.2.2.f3, .bool v38.2.2.f4]]⟩ ?_ z0 trivial ?_
                 · kernel_rfl
                 cases hc37
                 exact AOps.nil rfl
               · replace hc37 := of_false hc37 hb
                 refine AOps.go [37] [38, 39, 40] [] [1, 3, 4, 65, 66] 1 ⟨[(1, .rp [.int .i64 v1.f0, .int .i64 v1.f1, .int .i64 v1.f2, k0 v1.f3]), (3, .pc 0 0), (4, tI (w64 ((w64 ((0 : Int) + (1 : Int))) + (1 : Int)))), (65, tB false), (66, .pc 0 0)], [.cells 65 [.str v38.2.2.f0, .int .i64 v38.2.2.f1, k0 v38.2.2.f2, .int .i64 v38.2.2.f3, .bool v38.2.2.f4]]⟩ ?_ z0 trivial ?_
                 · kernel_rfl
                 obtain ⟨v53, hv53, hc37⟩ := of_bind hc37
                 refine AOps.cons (AOne.callR (F := (FF 78 0)) _ rfl rfl rfl _ rfl rfl _ _ rfl Try.call32 [] [.rp [.str v38.2.2.f0, .int .i64 v38.2.2.f1, k0 v38.2.2.f2, .int .i64 v38.2.2.f3, .bool v38.2.2.f4], .tv (.sc (.pointer none))] rfl trivial (f32_z1_ok v38.2.2 hv53) (ind_of rfl) rfl) ?_
                 refine AOps.go [39, 40] [] [] [1, 3, 4, 69] 1 ⟨[(1, .rp [.int .i64 v1.f0, .int .i64 v1.f1, .int .i64 v1.f2, k0 v1.f3]), (3, .pc 0 0), (4, tI (w64 ((w64 ((0 : Int) + (1 : Int))) + (1 : Int)))), (69, tB (!v53))], [.cells 65 [.str v38.2.2.f0, .int .i64 v38.2.2.f1, k0 v38.2.2.f2, .int .i64 v38.2.2.f3, .bool v38.2.2.f4]]⟩ ?_ z0 trivial ?_
                 · kernel_rfl
                 cases hc37
                 exact AOps.nil rfl
             subst hJ
             refine AOps.go [41] [42, 43, 44, 45] [] [1, 3, 4, 70] 1 ⟨[(1, .rp [.int .i64 v1.f0, .int .i64 v1.f1, .int .i64 v1.f2, k0 v1.f3]), (3, .pc 0 0), (4, tI (w64 ((w64 ((0 : Int) + (1 : Int))) + (1 : Int)))), (70, tB v52)], [.cells 65 [.str v38.2.2.f0, .int .i64 v38.2.2.f1, k0 v38.2.2.f2, .int .i64 v38.2.2.f3, .bool v38.2.2.f4]]⟩ ?_ z0 trivial ?_
             · kernel_rfl
             obtain ⟨v54, hc42, h⟩ := of_bind h
             refine AOps.cut [42, 43, 44, 45] [] (fun σ => σ = ⟨[(1, .rp [.int .i64 v1.f0, .int .i64 v1.f1, .int .i64 v1.f2, k0 v1.f3]), (4, tI (w64 ((w64 ((0 : Int) + (1 : Int))) + (1 : Int)))), (74, tB v54)], []⟩) ?_ fun σ' hJ => ?_
             · refine AOps.split (fun b => ⟨[(1, .rp [.int .i64 v1.f0, .int .i64 v1.f1, .int .i64 v1.f2, k0 v1.f3]), (3, .pc 0 0), (4, tI (w64 ((w64 ((0 : Int) + (1 : Int))) + (1 : Int)))), (70, tB b)], [.cells 65 [.str v38.2.2.f0, .int .i64 v38.2.2.f1, k0 v38.2.2.f2, .int .i64 v38.2.2.f3, .bool v38.2.2.f4]]⟩) _ (fun hb => ?_) fun hb => ?_
               · replace hc42 := of_true hc42 hb
                 refine AOps.go [42, 43, 44, 45] [] [] [1, 4, 74] 0 ⟨[(1, .rp [.int .i64 v1.f0, .int .i64 v1.f1, .int .i64 v1.f2, k0 v1.f3]), (4, tI (w64 ((w64 ((0 : Int) + (1 : Int))) + (1 : Int)))), (74, tB true)], []⟩ ?_ z0 trivial ?_
                 · kernel_rfl
                 cases hc42
                 exact AOps.nil rfl
               · replace hc42 := of_false hc42 hb
                 refine AOps.go [42] [43, 44, 45] [] [1, 4, 70, 71] 1 ⟨[(1, .rp [.int .i64 v1.f0, .int .i64 v1.f1, .int .i64 v1.f2, k0 v1.f3]), (4, tI (w64 ((w64 ((0 : Int) + (1 : Int))) + (1 : Int)))), (70, tB false), (71, .pc 0 0)], [.cells 65 [.str v38.2.2.f0, .int .i64 v38.2.2.f1, k0 v38.2.2.f2, .int .i64 v38.2.2.f3, .bool v38.2.2.f4]]⟩ ?_ z0 trivial ?_
                 · kernel_rfl
                 obtain ⟨v55, hv55, hc42⟩ := of_bind hc42
                 refine AOps.cons (AOne.callR (F := (FF 78 0)) _ rfl rfl rfl _ rfl rfl _ _ rfl Try.call32 [] [.tv (.sc (.pointer none)), .rp [.str v38.2.2.f0, .int .i64 v38.2.2.f1, k0 v38.2.2.f2, .int .i64 v38.2.2.f3, .bool v38.2.2.f4]] rfl trivial (f32_z_ok v38.2.2 hv55) (ind_of rfl) rfl) ?_
                 refine AOps.go [44, 45] [] [] [1, 4, 74] 0 ⟨[(1, .rp [.int .i64 v1.f0, .int .i64 v1.f1, .int .i64 v1.f2, k0 v1.f3]), (4, tI (w64 ((w64 ((0 : Int) + (1 : Int))) + (1 : Int)))), (74, tB (!v55))], []⟩ ?_ z0 trivial ?_
                 · kernel_rfl
                 cases hc42
                 exact AOps.nil rfl
             subst hJ
             refine AOps.nil ?_
             refine AWp.cond rfl (fun hb => ?_) fun hb => ?_
             · replace h := of_true h hb
               refine AWp.keepTo [] 0 ⟨[], []⟩ ?_ z0 ?_
               · kernel_rfl
               refine AWp.seq ?_
               refine AWp.start [0] [] [] [2] 0 ⟨[(2, tB false)], []⟩ rfl ?_ z0 trivial ?_
               · kernel_rfl
               refine AOps.nil ?_
               refine AWp.ret ?_
               cases h
               exact ⟨.inr rfl, rfl⟩
             · replace h := of_false h hb
               refine AWp.keepTo [1, 4] 0 ⟨[(1, .rp [.int .i64 v1.f0, .int .i64 v1.f1, .int .i64 v1.f2, k0 v1.f3]), (4, tI (w64 ((w64 ((0 : Int) + (1 : Int))) + (1 : Int))))], []⟩ ?_ z0 ?_
               · kernel_rfl
               refine AWp.skip ?_
               refine AWp.start [0, 1, 2] [] [] [1, 3, 4] 1 ⟨[(1, .rp [.int .i64 v1.f0, .int .i64 v1.f1, .int .i64 v1.f2, k0 v1.f3]), (3, .pc 0 0), (4, tI (w64 ((w64 ((0 : Int) + (1 : Int))) + (1 : Int))))], [.cells 65 [.str ([] : List UInt8), .int .i64 (0 : Int), nS, .int .i64 (0 : Int), .bool false]]⟩ rfl ?_ z0 trivial ?_
               · kernel_rfl
               refine AOps.nil ?_
               refine AWp.start [0, 1, 2] [] [] [1, 3, 4] 1 ⟨[(1, .rp [.int .i64 v1.f0, .int .i64 v1.f1, .int .i64 v1.f2, k0 v1.f3]), (3, .pc 0 0), (4, tI (w64 ((w64 ((w64 ((0 : Int) + (1 : Int))) + (1 : Int))) + (1 : Int))))], [.cells 65 [.str ([] : List UInt8), .int .i64 (0 : Int), nS, .int .i64 (0 : Int), .bool false]]⟩ rfl ?_ z0 trivial ?_
               · kernel_rfl
               refine AOps.nil ?_
               cases h
           · replace h := of_false h hb
             refine AWp.keepTo [] 0 ⟨[], []⟩ ?_ z0 ?_
             · kernel_rfl
             refine AWp.exit ?_
             refine AWp.seq ?_
             refine AWp.start [] [0, 1] [] [] 0 ⟨[], []⟩ rfl ?_ z0 trivial ?_
             · kernel_rfl
             obtain ⟨v56, hv56, h⟩ := of_bind h
             refine AOps.cons (AOne.callP (F := (FF 78 0)) _ rfl rfl rfl _ rfl rfl _ _ rfl Try.call9 [] rfl rfl (f9_ok  hv56) rfl) ?_
             refine AOps.go [1] [] [] [2] 0 ⟨[(2, tB v56)], []⟩ ?_ z0 trivial ?_
             · kernel_rfl
             refine AOps.nil ?_
             refine AWp.ret ?_
             cases h
             exact ⟨.inr rfl, rfl⟩
       · replace h := of_false h hb
         refine AWp.keepTo [] 0 ⟨[], []⟩ ?_ z0 ?_
         · kernel_rfl
         refine AWp.exit ?_
         refine AWp.seq ?_
         refine AWp.start [] [0, 1] [] [] 0 ⟨[], []⟩ rfl ?_ z0 trivial ?_
         · kernel_rfl
         obtain ⟨v57, hv57, h⟩ := of_bind h
         refine AOps.cons (AOne.callP (F := (FF 78 0)) _ rfl rfl rfl _ rfl rfl _ _ rfl Try.call9 [] rfl rfl (f9_ok  hv57) rfl) ?_
         refine AOps.go [1] [] [] [2] 0 ⟨[(2, tB v57)], []⟩ ?_ z0 trivial ?_
         · kernel_rfl
         refine AOps.nil ?_
         refine AWp.ret ?_
         cases h
         exact ⟨.inr rfl, rfl⟩
   · replace h := of_false h hb
     refine AWp.keepTo [] 0 ⟨[], []⟩ ?_ z0 ?_
     · kernel_rfl
     refine AWp.exit ?_
     refine AWp.seq ?_
     refine AWp.start [] [0, 1] [] [] 0 ⟨[], []⟩ rfl ?_ z0 trivial ?_
     · kernel_rfl
     obtain ⟨v58, hv58, h⟩ := of_bind h
     refine AOps.cons (AOne.callP (F := (FF 78 0)) _ rfl rfl rfl _ rfl rfl _ _ rfl Try.call9 [] rfl rfl (f9_ok  hv58) rfl) ?_
     refine AOps.go [1] [] [] [2] 0 ⟨[(2, tB v58)], []⟩ ?_ z0 trivial ?_
     · kernel_rfl
     refine AOps.nil ?_
     refine AWp.ret ?_
     cases h
     exact ⟨.inr rfl, rfl⟩

end Go.Sx.unit
