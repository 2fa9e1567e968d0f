/- Printed by program (wip/gen): plain functions and their walks; no condition. -/
import Derived.Test.YtplfiblnmnpllaaGx5
namespace Go.Sx.der
open Go Go.Sx Go.Proofs

noncomputable def f33 (v1 : List T62) (v2 : List UInt8) (v3 : List UInt8) (v4 : List UInt8) : Option ((List UInt8) × Int) :=
 (f48 v1 v2).bind fun v5 => (f48 v1 v3).bind fun v6 => cond (v5.2 != (0 : Int)) (some (([] : List UInt8), v5.2)) (cond (v6.2 != (0 : Int)) (some (([] : List UInt8), v6.2)) ((f58 v1 v5.1).bind fun v7 => (f63 v1 v7 v4).bind fun v8 => cond (!v8.2) (some (([] : List UInt8), (5 : Int))) ((f58 v1 v6.1).bind fun v9 => (f57 v9 v5.1).bind fun v10 => (cond (!v10) (some true) (if (0 : Int) ≤ v6.1 ∧ v6.1 < (v1.length : Int) then some ((v1.getD (Int.toNat v6.1) default).f2) else none)).bind fun v11 => cond v11 (some (([] : List UInt8), (70 : Int))) ((f31 v1 v3 v4).bind fun v12 => some (v12.1, v12.2)))))

theorem f33_ok (v1 : List T62) (v2 : List UInt8) (v3 : List UInt8) (v4 : List UInt8) {r : (List UInt8) × Int} (h : f33 v1 v2 v3 v4 = some r) : ACall Try.prog 33 [.tv (fzL 6 c62 v1), .tv (.str v2), .tv (.str v3), .tv (.str v4)] [] (.tup [.tv (.str r.1), .tv (.int .i64 r.2)]) [] := by
 refine ACall.ofN (FF 66 0) (rs := [8, 9]) (env := [(8, tS r.1), (9, tI r.2)]) Try.func33 rfl Try.ntmps33 Try.results33 (by decide) (by decide) rfl (Nat.le_of_ble_eq_true rfl) rfl (get_ofN _ _ _ rfl) (ok_ofN _ rfl) ?_
 refine AWp.seq ?_
 refine AWp.start [0, 1] [] [] [0, 1, 2, 3] 0 ⟨[(0, q0 v1), (1, tS v2), (2, tS v3), (3, tS v4)], []⟩ rfl ?_ z0 trivial ?_
 · kernel_rfl
 refine AOps.nil ?_
 refine AWp.seq ?_
 refine AWp.start [0, 1] [2, 3, 4, 5, 6, 7] [] [0, 2, 3, 17, 18] 0 ⟨[(0, q0 v1), (2, tS v3), (3, tS v4), (17, q0 v1), (18, tS v2)], []⟩ rfl ?_ z0 trivial ?_
 · kernel_rfl
 obtain ⟨v5, hv5, h⟩ := of_bind h
 refine AOps.cons (AOne.callP (F := (FF 66 0)) _ rfl rfl rfl _ rfl rfl _ _ rfl Try.call48 [q0 v1, tS v2] rfl rfl (f48_ok v1 v2 hv5) rfl) ?_
 refine AOps.go [3, 4, 5, 6, 7] [] [] [0, 2, 3, 10, 11] 0 ⟨[(0, q0 v1), (2, tS v3), (3, tS v4), (10, tI v5.1), (11, tI v5.2)], []⟩ ?_ z0 trivial ?_
 · kernel_rfl
 refine AOps.nil ?_
 refine AWp.seq ?_
 refine AWp.start [0, 1] [2, 3, 4, 5, 6, 7] [] [0, 2, 3, 10, 11, 23, 24] 0 ⟨[(0, q0 v1), (2, tS v3), (3, tS v4), (10, tI v5.1), (11, tI v5.2), (23, q0 v1), (24, tS v3)], []⟩ rfl ?_ z0 trivial ?_
 · kernel_rfl
 obtain ⟨v6, hv6, h⟩ := of_bind h
 refine AOps.cons (AOne.callP (F := (FF 66 0)) _ rfl rfl rfl _ rfl rfl _ _ rfl Try.call48 [q0 v1, tS v3] rfl rfl (f48_ok v1 v3 hv6) rfl) ?_
 refine AOps.go [3, 4, 5, 6, 7] [] [] [0, 2, 3, 10, 11, 12, 13] 0 ⟨[(0, q0 v1), (2, tS v3), (3, tS v4), (10, tI v5.1), (11, tI v5.2), (12, tI v6.1), (13, tI v6.2)], []⟩ ?_ z0 trivial ?_
 · kernel_rfl
 refine AOps.nil ?_
 refine AWp.seq ?_
 refine AWp.block ?_
 refine AWp.seq ?_
 refine AWp.start [0, 1, 2] [] [] [0, 2, 3, 10, 11, 12, 13, 28] 0 ⟨[(0, q0 v1), (2, tS v3), (3, tS v4), (10, tI v5.1), (11, tI v5.2), (12, tI v6.1), (13, tI v6.2), (28, tB (v5.2 != (0 : Int)))], []⟩ rfl ?_ z0 trivial ?_
 · kernel_rfl
 refine AOps.nil ?_
 refine AWp.cond rfl (fun hb => ?_) fun hb => ?_
 · replace h := of_true h hb
   refine AWp.keepTo [11] 0 ⟨[(11, tI v5.2)], []⟩ ?_ z0 ?_
   · kernel_rfl
   refine AWp.seq ?_
   refine AWp.start [0, 1, 2] [] [] [8, 9] 0 ⟨[(8, tS ([] : List UInt8)), (9, tI v5.2)], []⟩ rfl ?_ z0 trivial ?_
   · kernel_rfl
   refine AOps.nil ?_
   refine AWp.ret ?_
   cases h
   exact ⟨.inr rfl, rfl⟩
 · replace h := of_false h hb
   refine AWp.keepTo [0, 2, 3, 10, 12, 13] 0 ⟨[(0, q0 v1), (2, tS v3), (3, tS v4), (10, tI v5.1), (12, tI v6.1), (13, tI v6.2)], []⟩ ?_ z0 ?_
   · kernel_rfl
   refine AWp.seq ?_
   refine AWp.start [0, 1, 2] [] [] [0, 2, 3, 10, 12, 13, 32] 0 ⟨[(0, q0 v1), (2, tS v3), (3, tS v4), (10, tI v5.1), (12, tI v6.1), (13, tI v6.2), (32, tB (v6.2 != (0 : Int)))], []⟩ rfl ?_ z0 trivial ?_
   · kernel_rfl
   refine AOps.nil ?_
   refine AWp.cond rfl (fun hb => ?_) fun hb => ?_
   · replace h := of_true h hb
     refine AWp.keepTo [13] 0 ⟨[(13, tI v6.2)], []⟩ ?_ z0 ?_
     · kernel_rfl
     refine AWp.seq ?_
     refine AWp.start [0, 1, 2] [] [] [8, 9] 0 ⟨[(8, tS ([] : List UInt8)), (9, tI v6.2)], []⟩ rfl ?_ z0 trivial ?_
     · kernel_rfl
     refine AOps.nil ?_
     refine AWp.ret ?_
     cases h
     exact ⟨.inr rfl, rfl⟩
   · replace h := of_false h hb
     refine AWp.keepTo [0, 2, 3, 10, 12] 0 ⟨[(0, q0 v1), (2, tS v3), (3, tS v4), (10, tI v5.1), (12, tI v6.1)], []⟩ ?_ z0 ?_
     · kernel_rfl
     refine AWp.skip ?_
     refine AWp.seq ?_
     refine AWp.seq ?_
     refine AWp.start [0, 1, 2] [3, 4, 5, 6, 7, 8, 9, 10] [] [0, 2, 3, 10, 12, 37, 38, 39] 0 ⟨[(0, q0 v1), (2, tS v3), (3, tS v4), (10, tI v5.1), (12, tI v6.1), (37, q0 v1), (38, q0 v1), (39, tI v5.1)], []⟩ rfl ?_ z0 trivial ?_
     · kernel_rfl
     obtain ⟨v7, hv7, h⟩ := of_bind h
     refine AOps.cons (AOne.callP (F := (FF 66 0)) _ rfl rfl rfl _ rfl rfl _ _ rfl Try.call58 [q0 v1, tI v5.1] rfl rfl (f58_ok v1 v5.1 hv7) rfl) ?_
     refine AOps.freezeL 40 (cInt .i64) v7 rfl (fun _ => rfl) ?_
     refine AOps.go [4] [5, 6, 7, 8, 9, 10] [] [0, 2, 3, 10, 12, 37, 40, 41] 0 ⟨[(0, q0 v1), (2, tS v3), (3, tS v4), (10, tI v5.1), (12, tI v6.1), (37, q0 v1), (40, q2 v7), (41, tS v4)], []⟩ ?_ z0 trivial ?_
     · kernel_rfl
     obtain ⟨v8, hv8, h⟩ := of_bind h
     refine AOps.cons (AOne.callP (F := (FF 66 0)) _ rfl rfl rfl _ rfl rfl _ _ rfl Try.call63 [q0 v1, q2 v7, tS v4] rfl rfl (f63_ok v1 v7 v4 hv8) rfl) ?_
     refine AOps.go [6, 7, 8, 9, 10] [] [] [0, 2, 3, 10, 12, 15] 0 ⟨[(0, q0 v1), (2, tS v3), (3, tS v4), (10, tI v5.1), (12, tI v6.1), (15, tB v8.2)], []⟩ ?_ z0 trivial ?_
     · kernel_rfl
     refine AOps.nil ?_
     refine AWp.seq ?_
     refine AWp.start [0, 1] [] [] [0, 2, 3, 10, 12, 46] 0 ⟨[(0, q0 v1), (2, tS v3), (3, tS v4), (10, tI v5.1), (12, tI v6.1), (46, tB (!v8.2))], []⟩ rfl ?_ z0 trivial ?_
     · kernel_rfl
     refine AOps.nil ?_
     refine AWp.cond rfl (fun hb => ?_) fun hb => ?_
     · replace h := of_true h hb
       refine AWp.keepTo [] 0 ⟨[], []⟩ ?_ z0 ?_
       · kernel_rfl
       refine AWp.seq ?_
       refine AWp.start [0, 1] [] [] [8, 9] 0 ⟨[(8, tS ([] : List UInt8)), (9, tI (5 : Int))], []⟩ rfl ?_ z0 trivial ?_
       · kernel_rfl
       refine AOps.nil ?_
       refine AWp.ret ?_
       cases h
       exact ⟨.inr rfl, rfl⟩
     · replace h := of_false h hb
       refine AWp.keepTo [0, 2, 3, 10, 12] 0 ⟨[(0, q0 v1), (2, tS v3), (3, tS v4), (10, tI v5.1), (12, tI v6.1)], []⟩ ?_ z0 ?_
       · kernel_rfl
       refine AWp.skip ?_
       refine AWp.seq ?_
       refine AWp.seq ?_
       refine AWp.start [0, 1] [2, 3, 4, 5, 6, 7, 8, 9, 10, 11, 12] [] [0, 2, 3, 10, 12, 47, 48] 0 ⟨[(0, q0 v1), (2, tS v3), (3, tS v4), (10, tI v5.1), (12, tI v6.1), (47, q0 v1), (48, tI v6.1)], []⟩ rfl ?_ z0 trivial ?_
       · kernel_rfl
       obtain ⟨v9, hv9, h⟩ := of_bind h
       refine AOps.cons (AOne.callP (F := (FF 66 0)) _ rfl rfl rfl _ rfl rfl _ _ rfl Try.call58 [q0 v1, tI v6.1] rfl rfl (f58_ok v1 v6.1 hv9) rfl) ?_
       refine AOps.freezeL 49 (cInt .i64) v9 rfl (fun _ => rfl) ?_
       refine AOps.go [3] [4, 5, 6, 7, 8, 9, 10, 11, 12] [] [0, 2, 3, 12, 49, 50] 0 ⟨[(0, q0 v1), (2, tS v3), (3, tS v4), (12, tI v6.1), (49, q2 v9), (50, tI v5.1)], []⟩ ?_ z0 trivial ?_
       · kernel_rfl
       obtain ⟨v10, hv10, h⟩ := of_bind h
       refine AOps.cons (AOne.callP (F := (FF 66 0)) _ rfl rfl rfl _ rfl rfl _ _ rfl Try.call57 [q2 v9, tI v5.1] rfl rfl (f57_ok v9 v5.1 hv10) rfl) ?_
       refine AOps.go [5, 6] [7, 8, 9, 10, 11, 12] [] [0, 2, 3, 12, 53] 0 ⟨[(0, q0 v1), (2, tS v3), (3, tS v4), (12, tI v6.1), (53, tB (!v10))], []⟩ ?_ z0 trivial ?_
       · kernel_rfl
       obtain ⟨v11, hc7, h⟩ := of_bind h
       refine AOps.cut [7, 8, 9, 10, 11, 12] [] (fun σ => σ = ⟨[(0, q0 v1), (2, tS v3), (3, tS v4), (59, tB v11)], []⟩) ?_ fun σ' hJ => ?_
       · refine AOps.split (fun b => ⟨[(0, q0 v1), (2, tS v3), (3, tS v4), (12, tI v6.1), (53, tB b)], []⟩) _ (fun hb => ?_) fun hb => ?_
         · replace hc7 := of_true hc7 hb
           refine AOps.go [7, 8, 9, 10, 11, 12] [] [] [0, 2, 3, 59] 0 ⟨[(0, q0 v1), (2, tS v3), (3, tS v4), (59, tB true)], []⟩ ?_ z0 trivial ?_
           · kernel_rfl
           cases hc7
           exact AOps.nil rfl
         · replace hc7 := of_false hc7 hb
           obtain ⟨hg, hc7⟩ := of_guard hc7
           refine AOps.go [7, 8, 9, 10, 11, 12] [] [(0 : Int) ≤ v6.1, v6.1 < (v1.length : Int)] [0, 2, 3, 59] 0 ⟨[(0, q0 v1), (2, tS v3), (3, tS v4), (59, tB ((v1.getD (Int.toNat v6.1) default).f2))], []⟩ ?_ z0 ⟨hg.1, hg.2⟩ ?_
           · kernel_rfl
           cases hc7
           exact AOps.nil rfl
       subst hJ
       refine AOps.nil ?_
       refine AWp.cond rfl (fun hb => ?_) fun hb => ?_
       · replace h := of_true h hb
         refine AWp.keepTo [] 0 ⟨[], []⟩ ?_ z0 ?_
         · kernel_rfl
         refine AWp.seq ?_
         refine AWp.start [0, 1] [] [] [8, 9] 0 ⟨[(8, tS ([] : List UInt8)), (9, tI (70 : Int))], []⟩ rfl ?_ z0 trivial ?_
         · kernel_rfl
         refine AOps.nil ?_
         refine AWp.ret ?_
         cases h
         exact ⟨.inr rfl, rfl⟩
       · replace h := of_false h hb
         refine AWp.keepTo [0, 2, 3] 0 ⟨[(0, q0 v1), (2, tS v3), (3, tS v4)], []⟩ ?_ z0 ?_
         · kernel_rfl
         refine AWp.skip ?_
         refine AWp.seq ?_
         refine AWp.start [0, 1, 2] [3, 4, 5, 6, 7] [] [60, 61, 62] 0 ⟨[(60, q0 v1), (61, tS v3), (62, tS v4)], []⟩ rfl ?_ z0 trivial ?_
         · kernel_rfl
         obtain ⟨v12, hv12, h⟩ := of_bind h
         refine AOps.cons (AOne.callP (F := (FF 66 0)) _ rfl rfl rfl _ rfl rfl _ _ rfl Try.call31 [q0 v1, tS v3, tS v4] rfl rfl (f31_ok v1 v3 v4 hv12) rfl) ?_
         refine AOps.go [4, 5, 6, 7] [] [] [8, 9] 0 ⟨[(8, tS v12.1), (9, tI v12.2)], []⟩ ?_ z0 trivial ?_
         · kernel_rfl
         refine AOps.nil ?_
         refine AWp.ret ?_
         cases h
         exact ⟨.inr rfl, rfl⟩

noncomputable def f9 (v1 : List T62) (v2 : T53) : Option Bool :=
 (f12 v1).bind fun v3 => cond v3 ((f13 ).bind fun v4 => some v4) ((f30 v1 v2.f0 v2.f2).bind fun v5 => (f31 v1 v2.f0 v2.f2).bind fun v6 => (f32 v1 v2.f0 v2.f1 v2.f2).bind fun v7 => (f33 v1 v2.f0 v2.f1 v2.f2).bind fun v8 => (cond (v5.1 == v6.1) (some (v5.2 == v6.2)) (some false)).bind fun v9 => (cond v9 (some (v7.1 == v8.1)) (some false)).bind fun v10 => (cond v10 (some (v7.2 == v8.2)) (some false)).bind fun v11 => (cond v11 ((f13 ).bind fun v13 => some v13) (some false)).bind fun v12 => some v12)

theorem f9_ok (v1 : List T62) (v2 : T53) {r : Bool} (h : f9 v1 v2 = some r) : ACall Try.prog 9 [.tv (fzL 6 c62 v1), .agg [.str v2.f0, .str v2.f1, .str v2.f2]] [] (.tv (.bool r)) [] := by
 refine ACall.of1 (FF 77 0) Try.func9 rfl Try.ntmps9 Try.results9 (Nat.le_of_ble_eq_true rfl) rfl rfl ?_
 refine AWp.seq ?_
 refine AWp.start [0, 1] [] [] [0, 3] 1 ⟨[(0, q0 v1), (3, .pc 0 0)], [.cells 54 [.str v2.f0, .str v2.f1, .str v2.f2]]⟩ rfl ?_ z0 trivial ?_
 · kernel_rfl
 refine AOps.nil ?_
 refine AWp.seq ?_
 refine AWp.seq ?_
 refine AWp.pin 0 rfl rfl ?_
 refine AWp.keepTo [0, 3] 0 ⟨[(0, q0 v1), (3, .rp [.str v2.f0, .str v2.f1, .str v2.f2])], []⟩ ?_ z0 ?_
 · kernel_rfl
 refine AWp.start [0] [1] [] [0, 3, 13] 0 ⟨[(0, q0 v1), (3, .rp [.str v2.f0, .str v2.f1, .str v2.f2]), (13, q0 v1)], []⟩ rfl ?_ z0 trivial ?_
 · kernel_rfl
 obtain ⟨v3, hv3, h⟩ := of_bind h
 refine AOps.cons (AOne.callP (F := (FF 77 0)) _ rfl rfl rfl _ rfl rfl _ _ rfl Try.call12 [q0 v1] rfl rfl (f12_ok v1 hv3) rfl) ?_
 refine AOps.keepTo [0, 3, 14] 0 ⟨[(0, q0 v1), (3, .rp [.str v2.f0, .str v2.f1, .str v2.f2]), (14, tB v3)], []⟩ ?_ z0 ?_
 · kernel_rfl
 refine AOps.nil ?_
 refine AWp.cond rfl (fun hb => ?_) fun hb => ?_
 · replace h := of_true h hb
   refine AWp.keepTo [] 0 ⟨[], []⟩ ?_ z0 ?_
   · kernel_rfl
   refine AWp.seq ?_
   refine AWp.start [] [0, 1] [] [] 0 ⟨[], []⟩ rfl ?_ z0 trivial ?_
   · kernel_rfl
   obtain ⟨v4, hv4, h⟩ := of_bind h
   refine AOps.cons (AOne.callP (F := (FF 77 0)) _ rfl rfl rfl _ rfl rfl _ _ rfl Try.call13 [] rfl rfl (f13_ok  hv4) rfl) ?_
   refine AOps.go [1] [] [] [4] 0 ⟨[(4, tB v4)], []⟩ ?_ z0 trivial ?_
   · kernel_rfl
   refine AOps.nil ?_
   refine AWp.ret ?_
   cases h
   exact ⟨.inr rfl, rfl⟩
 · replace h := of_false h hb
   refine AWp.keepTo [0, 3] 0 ⟨[(0, q0 v1), (3, .rp [.str v2.f0, .str v2.f1, .str v2.f2])], []⟩ ?_ z0 ?_
   · kernel_rfl
   refine AWp.skip ?_
   refine AWp.seq ?_
   refine AWp.start [0, 1, 2, 3, 4] [5, 6, 7, 8, 9, 10] [] [0, 3, 17, 19, 21] 0 ⟨[(0, q0 v1), (3, .rp [.str v2.f0, .str v2.f1, .str v2.f2]), (17, q0 v1), (19, tS v2.f0), (21, tS v2.f2)], []⟩ rfl ?_ z0 trivial ?_
   · kernel_rfl
   obtain ⟨v5, hv5, h⟩ := of_bind h
   refine AOps.cons (AOne.callP (F := (FF 77 0)) _ rfl rfl rfl _ rfl rfl _ _ rfl Try.call30 [q0 v1, tS v2.f0, tS v2.f2] rfl rfl (f30_ok v1 v2.f0 v2.f2 hv5) rfl) ?_
   refine AOps.go [6, 7, 8, 9, 10] [] [] [0, 3, 5, 6] 0 ⟨[(0, q0 v1), (3, .rp [.str v2.f0, .str v2.f1, .str v2.f2]), (5, tS v5.1), (6, tI v5.2)], []⟩ ?_ z0 trivial ?_
   · kernel_rfl
   refine AOps.nil ?_
   refine AWp.seq ?_
   refine AWp.start [0, 1, 2, 3, 4] [5, 6, 7, 8, 9, 10] [] [0, 3, 5, 6, 26, 28, 30] 0 ⟨[(0, q0 v1), (3, .rp [.str v2.f0, .str v2.f1, .str v2.f2]), (5, tS v5.1), (6, tI v5.2), (26, q0 v1), (28, tS v2.f0), (30, tS v2.f2)], []⟩ rfl ?_ z0 trivial ?_
   · kernel_rfl
   obtain ⟨v6, hv6, h⟩ := of_bind h
   refine AOps.cons (AOne.callP (F := (FF 77 0)) _ rfl rfl rfl _ rfl rfl _ _ rfl Try.call31 [q0 v1, tS v2.f0, tS v2.f2] rfl rfl (f31_ok v1 v2.f0 v2.f2 hv6) rfl) ?_
   refine AOps.go [6, 7, 8, 9, 10] [] [] [0, 3, 5, 6, 7, 8] 0 ⟨[(0, q0 v1), (3, .rp [.str v2.f0, .str v2.f1, .str v2.f2]), (5, tS v5.1), (6, tI v5.2), (7, tS v6.1), (8, tI v6.2)], []⟩ ?_ z0 trivial ?_
   · kernel_rfl
   refine AOps.nil ?_
   refine AWp.seq ?_
   refine AWp.start [0, 1, 2, 3, 4, 5, 6] [7, 8, 9, 10, 11, 12] [] [0, 3, 5, 6, 7, 8, 35, 37, 39, 41] 0 ⟨[(0, q0 v1), (3, .rp [.str v2.f0, .str v2.f1, .str v2.f2]), (5, tS v5.1), (6, tI v5.2), (7, tS v6.1), (8, tI v6.2), (35, q0 v1), (37, tS v2.f0), (39, tS v2.f1), (41, tS v2.f2)], []⟩ rfl ?_ z0 trivial ?_
   · kernel_rfl
   obtain ⟨v7, hv7, h⟩ := of_bind h
   refine AOps.cons (AOne.callP (F := (FF 77 0)) _ rfl rfl rfl _ rfl rfl _ _ rfl Try.call32 [q0 v1, tS v2.f0, tS v2.f1, tS v2.f2] rfl rfl (f32_ok v1 v2.f0 v2.f1 v2.f2 hv7) rfl) ?_
   refine AOps.go [8, 9, 10, 11, 12] [] [] [0, 3, 5, 6, 7, 8, 9, 10] 0 ⟨[(0, q0 v1), (3, .rp [.str v2.f0, .str v2.f1, .str v2.f2]), (5, tS v5.1), (6, tI v5.2), (7, tS v6.1), (8, tI v6.2), (9, tS v7.1), (10, tI v7.2)], []⟩ ?_ z0 trivial ?_
   · kernel_rfl
   refine AOps.nil ?_
   refine AWp.seq ?_
   refine AWp.start [0, 1, 2, 3, 4, 5, 6] [7, 8, 9, 10, 11, 12] [] [5, 6, 7, 8, 9, 10, 46, 48, 50, 52] 0 ⟨[(5, tS v5.1), (6, tI v5.2), (7, tS v6.1), (8, tI v6.2), (9, tS v7.1), (10, tI v7.2), (46, q0 v1), (48, tS v2.f0), (50, tS v2.f1), (52, tS v2.f2)], []⟩ rfl ?_ z0 trivial ?_
   · kernel_rfl
   obtain ⟨v8, hv8, h⟩ := of_bind h
   refine AOps.cons (AOne.callP (F := (FF 77 0)) _ rfl rfl rfl _ rfl rfl _ _ rfl Try.call33 [q0 v1, tS v2.f0, tS v2.f1, tS v2.f2] rfl rfl (f33_ok v1 v2.f0 v2.f1 v2.f2 hv8) rfl) ?_
   refine AOps.go [8, 9, 10, 11, 12] [] [] [5, 6, 7, 8, 9, 10, 11, 12] 0 ⟨[(5, tS v5.1), (6, tI v5.2), (7, tS v6.1), (8, tI v6.2), (9, tS v7.1), (10, tI v7.2), (11, tS v8.1), (12, tI v8.2)], []⟩ ?_ z0 trivial ?_
   · kernel_rfl
   refine AOps.nil ?_
   refine AWp.seq ?_
   refine AWp.start [0, 1, 2, 3] [4, 5, 6, 7, 8, 9, 10, 11, 12, 13, 14, 15, 16, 17, 18, 19, 20, 21] [] [6, 8, 9, 10, 11, 12, 59] 0 ⟨[(6, tI v5.2), (8, tI v6.2), (9, tS v7.1), (10, tI v7.2), (11, tS v8.1), (12, tI v8.2), (59, tB (v5.1 == v6.1))], []⟩ rfl ?_ z0 trivial ?_
   · kernel_rfl
   obtain ⟨v9, hc4, h⟩ := of_bind h
   refine AOps.cut [4, 5, 6, 7] [8, 9, 10, 11, 12, 13, 14, 15, 16, 17, 18, 19, 20, 21] (fun σ => σ = ⟨[(9, tS v7.1), (10, tI v7.2), (11, tS v8.1), (12, tI v8.2), (63, tB v9)], []⟩) ?_ fun σ' hJ => ?_
   · refine AOps.split (fun b => ⟨[(6, tI v5.2), (8, tI v6.2), (9, tS v7.1), (10, tI v7.2), (11, tS v8.1), (12, tI v8.2), (59, tB b)], []⟩) _ (fun hb => ?_) fun hb => ?_
     · replace hc4 := of_true hc4 hb
       refine AOps.go [4, 5, 6, 7] [] [] [9, 10, 11, 12, 63] 0 ⟨[(9, tS v7.1), (10, tI v7.2), (11, tS v8.1), (12, tI v8.2), (63, tB (v5.2 == v6.2))], []⟩ ?_ z0 trivial ?_
       · kernel_rfl
       cases hc4
       exact AOps.nil rfl
     · replace hc4 := of_false hc4 hb
       refine AOps.go [4, 5, 6, 7] [] [] [9, 10, 11, 12, 63] 0 ⟨[(9, tS v7.1), (10, tI v7.2), (11, tS v8.1), (12, tI v8.2), (63, tB false)], []⟩ ?_ z0 trivial ?_
       · kernel_rfl
       cases hc4
       exact AOps.nil rfl
   subst hJ
   refine AOps.go [8] [9, 10, 11, 12, 13, 14, 15, 16, 17, 18, 19, 20, 21] [] [9, 10, 11, 12, 64] 0 ⟨[(9, tS v7.1), (10, tI v7.2), (11, tS v8.1), (12, tI v8.2), (64, tB v9)], []⟩ ?_ z0 trivial ?_
   · kernel_rfl
   obtain ⟨v10, hc9, h⟩ := of_bind h
   refine AOps.cut [9, 10, 11, 12] [13, 14, 15, 16, 17, 18, 19, 20, 21] (fun σ => σ = ⟨[(10, tI v7.2), (12, tI v8.2), (68, tB v10)], []⟩) ?_ fun σ' hJ => ?_
   · refine AOps.split (fun b => ⟨[(9, tS v7.1), (10, tI v7.2), (11, tS v8.1), (12, tI v8.2), (64, tB b)], []⟩) _ (fun hb => ?_) fun hb => ?_
     · replace hc9 := of_true hc9 hb
       refine AOps.go [9, 10, 11, 12] [] [] [10, 12, 68] 0 ⟨[(10, tI v7.2), (12, tI v8.2), (68, tB (v7.1 == v8.1))], []⟩ ?_ z0 trivial ?_
       · kernel_rfl
       cases hc9
       exact AOps.nil rfl
     · replace hc9 := of_false hc9 hb
       refine AOps.go [9, 10, 11, 12] [] [] [10, 12, 68] 0 ⟨[(10, tI v7.2), (12, tI v8.2), (68, tB false)], []⟩ ?_ z0 trivial ?_
       · kernel_rfl
       cases hc9
       exact AOps.nil rfl
   subst hJ
   refine AOps.go [13] [14, 15, 16, 17, 18, 19, 20, 21] [] [10, 12, 69] 0 ⟨[(10, tI v7.2), (12, tI v8.2), (69, tB v10)], []⟩ ?_ z0 trivial ?_
   · kernel_rfl
   obtain ⟨v11, hc14, h⟩ := of_bind h
   refine AOps.cut [14, 15, 16, 17] [18, 19, 20, 21] (fun σ => σ = ⟨[(73, tB v11)], []⟩) ?_ fun σ' hJ => ?_
   · refine AOps.split (fun b => ⟨[(10, tI v7.2), (12, tI v8.2), (69, tB b)], []⟩) _ (fun hb => ?_) fun hb => ?_
     · replace hc14 := of_true hc14 hb
       refine AOps.go [14, 15, 16, 17] [] [] [73] 0 ⟨[(73, tB (v7.2 == v8.2))], []⟩ ?_ z0 trivial ?_
       · kernel_rfl
       cases hc14
       exact AOps.nil rfl
     · replace hc14 := of_false hc14 hb
       refine AOps.go [14, 15, 16, 17] [] [] [73] 0 ⟨[(73, tB false)], []⟩ ?_ z0 trivial ?_
       · kernel_rfl
       cases hc14
       exact AOps.nil rfl
   subst hJ
   refine AOps.go [18] [19, 20, 21] [] [74] 0 ⟨[(74, tB v11)], []⟩ ?_ z0 trivial ?_
   · kernel_rfl
   obtain ⟨v12, hc19, h⟩ := of_bind h
   refine AOps.cut [19, 20] [21] (fun σ => σ = ⟨[(76, tB v12)], []⟩) ?_ fun σ' hJ => ?_
   · refine AOps.split (fun b => ⟨[(74, tB b)], []⟩) _ (fun hb => ?_) fun hb => ?_
     · replace hc19 := of_true hc19 hb
       obtain ⟨v13, hv13, hc19⟩ := of_bind hc19
       refine AOps.cons (AOne.callP (F := (FF 77 0)) _ rfl rfl rfl _ rfl rfl _ _ rfl Try.call13 [] rfl rfl (f13_ok  hv13) rfl) ?_
       refine AOps.go [20] [] [] [76] 0 ⟨[(76, tB v13)], []⟩ ?_ z0 trivial ?_
       · kernel_rfl
       cases hc19
       exact AOps.nil rfl
     · replace hc19 := of_false hc19 hb
       refine AOps.go [19, 20] [] [] [76] 0 ⟨[(76, tB false)], []⟩ ?_ z0 trivial ?_
       · kernel_rfl
       cases hc19
       exact AOps.nil rfl
   subst hJ
   refine AOps.go [21] [] [] [4] 0 ⟨[(4, tB v12)], []⟩ ?_ z0 trivial ?_
   · kernel_rfl
   refine AOps.nil ?_
   refine AWp.ret ?_
   cases h
   exact ⟨.inr rfl, rfl⟩

end Go.Sx.der
