/- Printed by program (wip/gen): plain functions and their walks; no condition. -/
import Derived.Test.YtpkoebbjnfpifaaGx2
namespace Go.Sx.gen
open Go Go.Sx Go.Proofs

noncomputable def f7 (v1 : T31) (v2 : T31) : Option Bool :=
  (f10 [v1, v2]).bind fun v3 => cond v3 ((f11 ).bind fun v4 => some v4) ((f21 v1 v2).bind fun v5 => (f22 v1 v2).bind fun v6 => (f23 v1 v2).bind fun v7 => (f24 v1 v2).bind fun v8 => (cond (!(v5.1 == v6.1)) (some true) (some (v5.2 != v6.2))).bind fun v9 => (cond v9 (some true) ((f25 v7.1 v8.1).bind fun v10 => some (!v10))).bind fun v11 => (cond v11 (some true) (some (v7.2 != v8.2))).bind fun v12 => cond v12 (some false) (cond (v7.2 != (0 : Int)) ((f11 ).bind fun v13 => some v13) ((f14 v1 v7.1).bind fun v14 => (f14 v2 v7.1).bind fun v15 => (cond (v14.2 == (0 : Int)) (some (v15.2 == (0 : Int))) (some false)).bind fun v16 => (cond v16 (some v14.1) (some false)).bind fun v17 => (cond v17 (some v15.1) (some false)).bind fun v18 => (cond v18 ((f11 ).bind fun v19 => some v19) (some false)).bind fun v20 => some v20)))

theorem f7_ok (v1 : T31) (v2 : T31) {r : Bool} (h : f7 v1 v2 = some r) : ACall Try.prog 7 [.agg [.str v1.f0, fzL 3 c48 v1.f1], .agg [.str v2.f0, fzL 3 c48 v2.f1]] [] (.tv (.bool r)) [] := by
  refine ACall.of1 (FF 95 0) Try.func7 rfl Try.ntmps7 Try.results7 (Nat.le_of_ble_eq_true rfl) rfl rfl ?_
  refine AWp.seq ?_
  refine AWp.start [0, 1, 2] [] [] [2, 3] 2 ⟨[(2, .pc 0 0), (3, .pc 1 0)], [.cells 32 [.str v1.f0, fzL 3 c48 v1.f1], .cells 32 [.str v2.f0, fzL 3 c48 v2.f1]]⟩ rfl ?_ (Nat.zero_le _) trivial ?_
  · kernel_rfl
  refine AOps.nil ?_
  refine AWp.seq ?_
  refine AWp.seq ?_
  refine AWp.pin 0 rfl rfl ?_
  refine AWp.pin 1 rfl rfl ?_
  refine AWp.keepTo [2, 3] 0 ⟨[(2, .rp [.str v1.f0, fzL 3 c48 v1.f1]), (3, .rp [.str v2.f0, fzL 3 c48 v2.f1])], []⟩ ?_ (Nat.zero_le _) ?_
  · kernel_rfl
  refine AWp.start [0, 1, 2] [3] [] [2, 3, 19] 0 ⟨[(2, .rp [.str v1.f0, fzL 3 c48 v1.f1]), (3, .rp [.str v2.f0, fzL 3 c48 v2.f1]), (19, .tv (.own 2 32 2 (newRowF [.str v1.f0, fzL 3 c48 v1.f1, .str v2.f0, fzL 3 c48 v2.f1] 2)))], []⟩ rfl ?_ (Nat.zero_le _) trivial ?_
  · kernel_rfl
  refine AOps.extL 19 c31 [v1, v2] rfl rfl (row_at c31 2 (fun _ => rfl) [v1, v2] _ rfl) ?_
  refine AOps.freezeL 19 c31 [v1, v2] rfl (fun _ => rfl) ?_
  obtain ⟨v3, hv3, h⟩ := of_bind h
  refine AOps.cons (AOne.callP (F := (FF 95 0)) _ rfl rfl rfl _ rfl rfl _ _ rfl Try.call10 [.tv (fzL 2 c31 [v1, v2])] rfl rfl (f10_ok [v1, v2] hv3) rfl) ?_
  refine AOps.keepTo [2, 3, 20] 0 ⟨[(2, .rp [.str v1.f0, fzL 3 c48 v1.f1]), (3, .rp [.str v2.f0, fzL 3 c48 v2.f1]), (20, .tv (.bool v3))], []⟩ ?_ (Nat.zero_le _) ?_
  · kernel_rfl
  refine AOps.nil ?_
  refine AWp.cond rfl (fun hb => ?_) fun hb => ?_
  · replace h := of_true h hb
    refine AWp.keepTo [] 0 ⟨[], []⟩ ?_ (Nat.zero_le _) ?_
    · kernel_rfl
    refine AWp.seq ?_
    refine AWp.start [] [0, 1] [] [] 0 ⟨[], []⟩ rfl ?_ (Nat.zero_le _) trivial ?_
    · kernel_rfl
    obtain ⟨v4, hv4, h⟩ := of_bind h
    refine AOps.cons (AOne.callP (F := (FF 95 0)) _ rfl rfl rfl _ rfl rfl _ _ rfl Try.call11 [] rfl rfl (f11_ok  hv4) rfl) ?_
    refine AOps.go [1] [] [] [4] 0 ⟨[(4, .tv (.bool v4))], []⟩ ?_ (Nat.zero_le _) trivial ?_
    · kernel_rfl
    refine AOps.nil ?_
    refine AWp.ret ?_
    cases h
    exact ⟨.inr rfl, rfl⟩
  · replace h := of_false h hb
    refine AWp.keepTo [2, 3] 0 ⟨[(2, .rp [.str v1.f0, fzL 3 c48 v1.f1]), (3, .rp [.str v2.f0, fzL 3 c48 v2.f1])], []⟩ ?_ (Nat.zero_le _) ?_
    · kernel_rfl
    refine AWp.skip ?_
    refine AWp.seq ?_
    refine AWp.start [0, 1] [2, 3, 4, 5, 6, 7] [] [2, 3, 23, 24] 0 ⟨[(2, .rp [.str v1.f0, fzL 3 c48 v1.f1]), (3, .rp [.str v2.f0, fzL 3 c48 v2.f1]), (23, .agg [.str v1.f0, fzL 3 c48 v1.f1]), (24, .agg [.str v2.f0, fzL 3 c48 v2.f1])], []⟩ rfl ?_ (Nat.zero_le _) trivial ?_
    · kernel_rfl
    obtain ⟨v5, hv5, h⟩ := of_bind h
    refine AOps.cons (AOne.callP (F := (FF 95 0)) _ rfl rfl rfl _ rfl rfl _ _ rfl Try.call21 [.agg [.str v1.f0, fzL 3 c48 v1.f1], .agg [.str v2.f0, fzL 3 c48 v2.f1]] rfl rfl (f21_ok v1 v2 hv5) rfl) ?_
    refine AOps.go [3, 4, 5, 6, 7] [] [] [2, 3, 5, 6] 0 ⟨[(2, .rp [.str v1.f0, fzL 3 c48 v1.f1]), (3, .rp [.str v2.f0, fzL 3 c48 v2.f1]), (5, .tv (.bool v5.1)), (6, .tv (.int .i64 v5.2))], []⟩ ?_ (Nat.zero_le _) trivial ?_
    · kernel_rfl
    refine AOps.nil ?_
    refine AWp.seq ?_
    refine AWp.start [0, 1] [2, 3, 4, 5, 6, 7] [] [2, 3, 5, 6, 29, 30] 0 ⟨[(2, .rp [.str v1.f0, fzL 3 c48 v1.f1]), (3, .rp [.str v2.f0, fzL 3 c48 v2.f1]), (5, .tv (.bool v5.1)), (6, .tv (.int .i64 v5.2)), (29, .agg [.str v1.f0, fzL 3 c48 v1.f1]), (30, .agg [.str v2.f0, fzL 3 c48 v2.f1])], []⟩ rfl ?_ (Nat.zero_le _) trivial ?_
    · kernel_rfl
    obtain ⟨v6, hv6, h⟩ := of_bind h
    refine AOps.cons (AOne.callP (F := (FF 95 0)) _ rfl rfl rfl _ rfl rfl _ _ rfl Try.call22 [.agg [.str v1.f0, fzL 3 c48 v1.f1], .agg [.str v2.f0, fzL 3 c48 v2.f1]] rfl rfl (f22_ok v1 v2 hv6) rfl) ?_
    refine AOps.go [3, 4, 5, 6, 7] [] [] [2, 3, 5, 6, 7, 8] 0 ⟨[(2, .rp [.str v1.f0, fzL 3 c48 v1.f1]), (3, .rp [.str v2.f0, fzL 3 c48 v2.f1]), (5, .tv (.bool v5.1)), (6, .tv (.int .i64 v5.2)), (7, .tv (.bool v6.1)), (8, .tv (.int .i64 v6.2))], []⟩ ?_ (Nat.zero_le _) trivial ?_
    · kernel_rfl
    refine AOps.nil ?_
    refine AWp.seq ?_
    refine AWp.start [0, 1] [2, 3, 4, 5, 6, 7] [] [2, 3, 5, 6, 7, 8, 35, 36] 0 ⟨[(2, .rp [.str v1.f0, fzL 3 c48 v1.f1]), (3, .rp [.str v2.f0, fzL 3 c48 v2.f1]), (5, .tv (.bool v5.1)), (6, .tv (.int .i64 v5.2)), (7, .tv (.bool v6.1)), (8, .tv (.int .i64 v6.2)), (35, .agg [.str v1.f0, fzL 3 c48 v1.f1]), (36, .agg [.str v2.f0, fzL 3 c48 v2.f1])], []⟩ rfl ?_ (Nat.zero_le _) trivial ?_
    · kernel_rfl
    obtain ⟨v7, hv7, h⟩ := of_bind h
    refine AOps.cons (AOne.callP (F := (FF 95 0)) _ rfl rfl rfl _ rfl rfl _ _ rfl Try.call23 [.agg [.str v1.f0, fzL 3 c48 v1.f1], .agg [.str v2.f0, fzL 3 c48 v2.f1]] rfl rfl (f23_ok v1 v2 hv7) rfl) ?_
    refine AOps.go [3, 4, 5, 6, 7] [] [] [2, 3, 5, 6, 7, 8, 9, 10] 0 ⟨[(2, .rp [.str v1.f0, fzL 3 c48 v1.f1]), (3, .rp [.str v2.f0, fzL 3 c48 v2.f1]), (5, .tv (.bool v5.1)), (6, .tv (.int .i64 v5.2)), (7, .tv (.bool v6.1)), (8, .tv (.int .i64 v6.2)), (9, .tv (fzL 3 c48 v7.1)), (10, .tv (.int .i64 v7.2))], []⟩ ?_ (Nat.zero_le _) trivial ?_
    · kernel_rfl
    refine AOps.nil ?_
    refine AWp.seq ?_
    refine AWp.start [0, 1] [2, 3, 4, 5, 6, 7] [] [2, 3, 5, 6, 7, 8, 9, 10, 41, 42] 0 ⟨[(2, .rp [.str v1.f0, fzL 3 c48 v1.f1]), (3, .rp [.str v2.f0, fzL 3 c48 v2.f1]), (5, .tv (.bool v5.1)), (6, .tv (.int .i64 v5.2)), (7, .tv (.bool v6.1)), (8, .tv (.int .i64 v6.2)), (9, .tv (fzL 3 c48 v7.1)), (10, .tv (.int .i64 v7.2)), (41, .agg [.str v1.f0, fzL 3 c48 v1.f1]), (42, .agg [.str v2.f0, fzL 3 c48 v2.f1])], []⟩ rfl ?_ (Nat.zero_le _) trivial ?_
    · kernel_rfl
    obtain ⟨v8, hv8, h⟩ := of_bind h
    refine AOps.cons (AOne.callP (F := (FF 95 0)) _ rfl rfl rfl _ rfl rfl _ _ rfl Try.call24 [.agg [.str v1.f0, fzL 3 c48 v1.f1], .agg [.str v2.f0, fzL 3 c48 v2.f1]] rfl rfl (f24_ok v1 v2 hv8) rfl) ?_
    refine AOps.go [3, 4, 5, 6, 7] [] [] [2, 3, 5, 6, 7, 8, 9, 10, 11, 12] 0 ⟨[(2, .rp [.str v1.f0, fzL 3 c48 v1.f1]), (3, .rp [.str v2.f0, fzL 3 c48 v2.f1]), (5, .tv (.bool v5.1)), (6, .tv (.int .i64 v5.2)), (7, .tv (.bool v6.1)), (8, .tv (.int .i64 v6.2)), (9, .tv (fzL 3 c48 v7.1)), (10, .tv (.int .i64 v7.2)), (11, .tv (fzL 3 c48 v8.1)), (12, .tv (.int .i64 v8.2))], []⟩ ?_ (Nat.zero_le _) trivial ?_
    · kernel_rfl
    refine AOps.nil ?_
    refine AWp.seq ?_
    refine AWp.seq ?_
    refine AWp.start [0, 1, 2, 3] [4, 5, 6, 7, 8, 9, 10, 11, 12, 13, 14, 15, 16, 17, 18] [] [2, 3, 6, 8, 9, 10, 11, 12, 49] 0 ⟨[(2, .rp [.str v1.f0, fzL 3 c48 v1.f1]), (3, .rp [.str v2.f0, fzL 3 c48 v2.f1]), (6, .tv (.int .i64 v5.2)), (8, .tv (.int .i64 v6.2)), (9, .tv (fzL 3 c48 v7.1)), (10, .tv (.int .i64 v7.2)), (11, .tv (fzL 3 c48 v8.1)), (12, .tv (.int .i64 v8.2)), (49, .tv (.bool (!(v5.1 == v6.1))))], []⟩ rfl ?_ (Nat.zero_le _) trivial ?_
    · kernel_rfl
    obtain ⟨v9, hc4, h⟩ := of_bind h
    refine AOps.cut [4, 5, 6, 7] [8, 9, 10, 11, 12, 13, 14, 15, 16, 17, 18] (fun σ => σ = ⟨[(2, .rp [.str v1.f0, fzL 3 c48 v1.f1]), (3, .rp [.str v2.f0, fzL 3 c48 v2.f1]), (9, .tv (fzL 3 c48 v7.1)), (10, .tv (.int .i64 v7.2)), (11, .tv (fzL 3 c48 v8.1)), (12, .tv (.int .i64 v8.2)), (53, .tv (.bool v9))], []⟩) ?_ fun σ' hJ => ?_
    · refine AOps.split (fun b => ⟨[(2, .rp [.str v1.f0, fzL 3 c48 v1.f1]), (3, .rp [.str v2.f0, fzL 3 c48 v2.f1]), (6, .tv (.int .i64 v5.2)), (8, .tv (.int .i64 v6.2)), (9, .tv (fzL 3 c48 v7.1)), (10, .tv (.int .i64 v7.2)), (11, .tv (fzL 3 c48 v8.1)), (12, .tv (.int .i64 v8.2)), (49, .tv (.bool b))], []⟩) _ (fun hb => ?_) fun hb => ?_
      · replace hc4 := of_true hc4 hb
        refine AOps.go [4, 5, 6, 7] [] [] [2, 3, 9, 10, 11, 12, 53] 0 ⟨[(2, .rp [.str v1.f0, fzL 3 c48 v1.f1]), (3, .rp [.str v2.f0, fzL 3 c48 v2.f1]), (9, .tv (fzL 3 c48 v7.1)), (10, .tv (.int .i64 v7.2)), (11, .tv (fzL 3 c48 v8.1)), (12, .tv (.int .i64 v8.2)), (53, .tv (.bool true))], []⟩ ?_ (Nat.zero_le _) trivial ?_
        · kernel_rfl
        cases hc4
        exact AOps.nil rfl
      · replace hc4 := of_false hc4 hb
        refine AOps.go [4, 5, 6, 7] [] [] [2, 3, 9, 10, 11, 12, 53] 0 ⟨[(2, .rp [.str v1.f0, fzL 3 c48 v1.f1]), (3, .rp [.str v2.f0, fzL 3 c48 v2.f1]), (9, .tv (fzL 3 c48 v7.1)), (10, .tv (.int .i64 v7.2)), (11, .tv (fzL 3 c48 v8.1)), (12, .tv (.int .i64 v8.2)), (53, .tv (.bool (v5.2 != v6.2)))], []⟩ ?_ (Nat.zero_le _) trivial ?_
        · kernel_rfl
        cases hc4
        exact AOps.nil rfl
    subst hJ
    refine AOps.go [8] [9, 10, 11, 12, 13, 14, 15, 16, 17, 18] [] [2, 3, 9, 10, 11, 12, 54] 0 ⟨[(2, .rp [.str v1.f0, fzL 3 c48 v1.f1]), (3, .rp [.str v2.f0, fzL 3 c48 v2.f1]), (9, .tv (fzL 3 c48 v7.1)), (10, .tv (.int .i64 v7.2)), (11, .tv (fzL 3 c48 v8.1)), (12, .tv (.int .i64 v8.2)), (54, .tv (.bool v9))], []⟩ ?_ (Nat.zero_le _) trivial ?_
    · kernel_rfl
    obtain ⟨v11, hc9, h⟩ := of_bind h
    refine AOps.cut [9, 10, 11, 12, 13] [14, 15, 16, 17, 18] (fun σ => σ = ⟨[(2, .rp [.str v1.f0, fzL 3 c48 v1.f1]), (3, .rp [.str v2.f0, fzL 3 c48 v2.f1]), (9, .tv (fzL 3 c48 v7.1)), (10, .tv (.int .i64 v7.2)), (12, .tv (.int .i64 v8.2)), (59, .tv (.bool v11))], []⟩) ?_ fun σ' hJ => ?_
    · refine AOps.split (fun b => ⟨[(2, .rp [.str v1.f0, fzL 3 c48 v1.f1]), (3, .rp [.str v2.f0, fzL 3 c48 v2.f1]), (9, .tv (fzL 3 c48 v7.1)), (10, .tv (.int .i64 v7.2)), (11, .tv (fzL 3 c48 v8.1)), (12, .tv (.int .i64 v8.2)), (54, .tv (.bool b))], []⟩) _ (fun hb => ?_) fun hb => ?_
      · replace hc9 := of_true hc9 hb
        refine AOps.go [9, 10, 11, 12, 13] [] [] [2, 3, 9, 10, 12, 59] 0 ⟨[(2, .rp [.str v1.f0, fzL 3 c48 v1.f1]), (3, .rp [.str v2.f0, fzL 3 c48 v2.f1]), (9, .tv (fzL 3 c48 v7.1)), (10, .tv (.int .i64 v7.2)), (12, .tv (.int .i64 v8.2)), (59, .tv (.bool true))], []⟩ ?_ (Nat.zero_le _) trivial ?_
        · kernel_rfl
        cases hc9
        exact AOps.nil rfl
      · replace hc9 := of_false hc9 hb
        refine AOps.go [9, 10] [11, 12, 13] [] [2, 3, 9, 10, 12, 54, 55, 56] 0 ⟨[(2, .rp [.str v1.f0, fzL 3 c48 v1.f1]), (3, .rp [.str v2.f0, fzL 3 c48 v2.f1]), (9, .tv (fzL 3 c48 v7.1)), (10, .tv (.int .i64 v7.2)), (12, .tv (.int .i64 v8.2)), (54, .tv (.bool false)), (55, .tv (fzL 3 c48 v7.1)), (56, .tv (fzL 3 c48 v8.1))], []⟩ ?_ (Nat.zero_le _) trivial ?_
        · kernel_rfl
        obtain ⟨v10, hv10, hc9⟩ := of_bind hc9
        refine AOps.cons (AOne.callP (F := (FF 95 0)) _ rfl rfl rfl _ rfl rfl _ _ rfl Try.call25 [.tv (fzL 3 c48 v7.1), .tv (fzL 3 c48 v8.1)] rfl rfl (f25_ok v7.1 v8.1 hv10) rfl) ?_
        refine AOps.go [12, 13] [] [] [2, 3, 9, 10, 12, 59] 0 ⟨[(2, .rp [.str v1.f0, fzL 3 c48 v1.f1]), (3, .rp [.str v2.f0, fzL 3 c48 v2.f1]), (9, .tv (fzL 3 c48 v7.1)), (10, .tv (.int .i64 v7.2)), (12, .tv (.int .i64 v8.2)), (59, .tv (.bool (!v10)))], []⟩ ?_ (Nat.zero_le _) trivial ?_
        · kernel_rfl
        cases hc9
        exact AOps.nil rfl
    subst hJ
    refine AOps.go [14] [15, 16, 17, 18] [] [2, 3, 9, 10, 12, 60] 0 ⟨[(2, .rp [.str v1.f0, fzL 3 c48 v1.f1]), (3, .rp [.str v2.f0, fzL 3 c48 v2.f1]), (9, .tv (fzL 3 c48 v7.1)), (10, .tv (.int .i64 v7.2)), (12, .tv (.int .i64 v8.2)), (60, .tv (.bool v11))], []⟩ ?_ (Nat.zero_le _) trivial ?_
    · kernel_rfl
    obtain ⟨v12, hc15, h⟩ := of_bind h
    refine AOps.cut [15, 16, 17, 18] [] (fun σ => σ = ⟨[(2, .rp [.str v1.f0, fzL 3 c48 v1.f1]), (3, .rp [.str v2.f0, fzL 3 c48 v2.f1]), (9, .tv (fzL 3 c48 v7.1)), (10, .tv (.int .i64 v7.2)), (64, .tv (.bool v12))], []⟩) ?_ fun σ' hJ => ?_
    · refine AOps.split (fun b => ⟨[(2, .rp [.str v1.f0, fzL 3 c48 v1.f1]), (3, .rp [.str v2.f0, fzL 3 c48 v2.f1]), (9, .tv (fzL 3 c48 v7.1)), (10, .tv (.int .i64 v7.2)), (12, .tv (.int .i64 v8.2)), (60, .tv (.bool b))], []⟩) _ (fun hb => ?_) fun hb => ?_
      · replace hc15 := of_true hc15 hb
        refine AOps.go [15, 16, 17, 18] [] [] [2, 3, 9, 10, 64] 0 ⟨[(2, .rp [.str v1.f0, fzL 3 c48 v1.f1]), (3, .rp [.str v2.f0, fzL 3 c48 v2.f1]), (9, .tv (fzL 3 c48 v7.1)), (10, .tv (.int .i64 v7.2)), (64, .tv (.bool true))], []⟩ ?_ (Nat.zero_le _) trivial ?_
        · kernel_rfl
        cases hc15
        exact AOps.nil rfl
      · replace hc15 := of_false hc15 hb
        refine AOps.go [15, 16, 17, 18] [] [] [2, 3, 9, 10, 64] 0 ⟨[(2, .rp [.str v1.f0, fzL 3 c48 v1.f1]), (3, .rp [.str v2.f0, fzL 3 c48 v2.f1]), (9, .tv (fzL 3 c48 v7.1)), (10, .tv (.int .i64 v7.2)), (64, .tv (.bool (v7.2 != v8.2)))], []⟩ ?_ (Nat.zero_le _) trivial ?_
        · kernel_rfl
        cases hc15
        exact AOps.nil rfl
    subst hJ
    refine AOps.nil ?_
    refine AWp.cond rfl (fun hb => ?_) fun hb => ?_
    · replace h := of_true h hb
      refine AWp.keepTo [] 0 ⟨[], []⟩ ?_ (Nat.zero_le _) ?_
      · kernel_rfl
      refine AWp.seq ?_
      refine AWp.start [0] [] [] [4] 0 ⟨[(4, .tv (.bool false))], []⟩ rfl ?_ (Nat.zero_le _) trivial ?_
      · kernel_rfl
      refine AOps.nil ?_
      refine AWp.ret ?_
      cases h
      exact ⟨.inr rfl, rfl⟩
    · replace h := of_false h hb
      refine AWp.keepTo [2, 3, 9, 10] 0 ⟨[(2, .rp [.str v1.f0, fzL 3 c48 v1.f1]), (3, .rp [.str v2.f0, fzL 3 c48 v2.f1]), (9, .tv (fzL 3 c48 v7.1)), (10, .tv (.int .i64 v7.2))], []⟩ ?_ (Nat.zero_le _) ?_
      · kernel_rfl
      refine AWp.skip ?_
      refine AWp.seq ?_
      refine AWp.seq ?_
      refine AWp.start [0, 1] [] [] [2, 3, 9, 66] 0 ⟨[(2, .rp [.str v1.f0, fzL 3 c48 v1.f1]), (3, .rp [.str v2.f0, fzL 3 c48 v2.f1]), (9, .tv (fzL 3 c48 v7.1)), (66, .tv (.bool (v7.2 != (0 : Int))))], []⟩ rfl ?_ (Nat.zero_le _) trivial ?_
      · kernel_rfl
      refine AOps.nil ?_
      refine AWp.cond rfl (fun hb => ?_) fun hb => ?_
      · replace h := of_true h hb
        refine AWp.keepTo [] 0 ⟨[], []⟩ ?_ (Nat.zero_le _) ?_
        · kernel_rfl
        refine AWp.seq ?_
        refine AWp.start [] [0, 1] [] [] 0 ⟨[], []⟩ rfl ?_ (Nat.zero_le _) trivial ?_
        · kernel_rfl
        obtain ⟨v13, hv13, h⟩ := of_bind h
        refine AOps.cons (AOne.callP (F := (FF 95 0)) _ rfl rfl rfl _ rfl rfl _ _ rfl Try.call11 [] rfl rfl (f11_ok  hv13) rfl) ?_
        refine AOps.go [1] [] [] [4] 0 ⟨[(4, .tv (.bool v13))], []⟩ ?_ (Nat.zero_le _) trivial ?_
        · kernel_rfl
        refine AOps.nil ?_
        refine AWp.ret ?_
        cases h
        exact ⟨.inr rfl, rfl⟩
      · replace h := of_false h hb
        refine AWp.keepTo [2, 3, 9] 0 ⟨[(2, .rp [.str v1.f0, fzL 3 c48 v1.f1]), (3, .rp [.str v2.f0, fzL 3 c48 v2.f1]), (9, .tv (fzL 3 c48 v7.1))], []⟩ ?_ (Nat.zero_le _) ?_
        · kernel_rfl
        refine AWp.skip ?_
        refine AWp.seq ?_
        refine AWp.start [0, 1] [2, 3, 4, 5, 6, 7] [] [3, 9, 69, 70] 0 ⟨[(3, .rp [.str v2.f0, fzL 3 c48 v2.f1]), (9, .tv (fzL 3 c48 v7.1)), (69, .agg [.str v1.f0, fzL 3 c48 v1.f1]), (70, .tv (fzL 3 c48 v7.1))], []⟩ rfl ?_ (Nat.zero_le _) trivial ?_
        · kernel_rfl
        obtain ⟨v14, hv14, h⟩ := of_bind h
        refine AOps.cons (AOne.callP (F := (FF 95 0)) _ rfl rfl rfl _ rfl rfl _ _ rfl Try.call14 [.agg [.str v1.f0, fzL 3 c48 v1.f1], .tv (fzL 3 c48 v7.1)] rfl rfl (f14_ok v1 v7.1 hv14) rfl) ?_
        refine AOps.go [3, 4, 5, 6, 7] [] [] [3, 9, 13, 14] 0 ⟨[(3, .rp [.str v2.f0, fzL 3 c48 v2.f1]), (9, .tv (fzL 3 c48 v7.1)), (13, .tv (.bool v14.1)), (14, .tv (.int .i64 v14.2))], []⟩ ?_ (Nat.zero_le _) trivial ?_
        · kernel_rfl
        refine AOps.nil ?_
        refine AWp.seq ?_
        refine AWp.start [0, 1] [2, 3, 4, 5, 6, 7] [] [13, 14, 75, 76] 0 ⟨[(13, .tv (.bool v14.1)), (14, .tv (.int .i64 v14.2)), (75, .agg [.str v2.f0, fzL 3 c48 v2.f1]), (76, .tv (fzL 3 c48 v7.1))], []⟩ rfl ?_ (Nat.zero_le _) trivial ?_
        · kernel_rfl
        obtain ⟨v15, hv15, h⟩ := of_bind h
        refine AOps.cons (AOne.callP (F := (FF 95 0)) _ rfl rfl rfl _ rfl rfl _ _ rfl Try.call14 [.agg [.str v2.f0, fzL 3 c48 v2.f1], .tv (fzL 3 c48 v7.1)] rfl rfl (f14_ok v2 v7.1 hv15) rfl) ?_
        refine AOps.go [3, 4, 5, 6, 7] [] [] [13, 14, 15, 16] 0 ⟨[(13, .tv (.bool v14.1)), (14, .tv (.int .i64 v14.2)), (15, .tv (.bool v15.1)), (16, .tv (.int .i64 v15.2))], []⟩ ?_ (Nat.zero_le _) trivial ?_
        · kernel_rfl
        refine AOps.nil ?_
        refine AWp.seq ?_
        refine AWp.start [0, 1, 2] [3, 4, 5, 6, 7, 8, 9, 10, 11, 12, 13, 14, 15] [] [13, 15, 16, 82] 0 ⟨[(13, .tv (.bool v14.1)), (15, .tv (.bool v15.1)), (16, .tv (.int .i64 v15.2)), (82, .tv (.bool (v14.2 == (0 : Int))))], []⟩ rfl ?_ (Nat.zero_le _) trivial ?_
        · kernel_rfl
        obtain ⟨v16, hc3, h⟩ := of_bind h
        refine AOps.cut [3, 4, 5] [6, 7, 8, 9, 10, 11, 12, 13, 14, 15] (fun σ => σ = ⟨[(13, .tv (.bool v14.1)), (15, .tv (.bool v15.1)), (85, .tv (.bool v16))], []⟩) ?_ fun σ' hJ => ?_
        · refine AOps.split (fun b => ⟨[(13, .tv (.bool v14.1)), (15, .tv (.bool v15.1)), (16, .tv (.int .i64 v15.2)), (82, .tv (.bool b))], []⟩) _ (fun hb => ?_) fun hb => ?_
          · replace hc3 := of_true hc3 hb
            refine AOps.go [3, 4, 5] [] [] [13, 15, 85] 0 ⟨[(13, .tv (.bool v14.1)), (15, .tv (.bool v15.1)), (85, .tv (.bool (v15.2 == (0 : Int))))], []⟩ ?_ (Nat.zero_le _) trivial ?_
            · kernel_rfl
            cases hc3
            exact AOps.nil rfl
          · replace hc3 := of_false hc3 hb
            refine AOps.go [3, 4, 5] [] [] [13, 15, 85] 0 ⟨[(13, .tv (.bool v14.1)), (15, .tv (.bool v15.1)), (85, .tv (.bool false))], []⟩ ?_ (Nat.zero_le _) trivial ?_
            · kernel_rfl
            cases hc3
            exact AOps.nil rfl
        subst hJ
        refine AOps.go [6] [7, 8, 9, 10, 11, 12, 13, 14, 15] [] [13, 15, 86] 0 ⟨[(13, .tv (.bool v14.1)), (15, .tv (.bool v15.1)), (86, .tv (.bool v16))], []⟩ ?_ (Nat.zero_le _) trivial ?_
        · kernel_rfl
        obtain ⟨v17, hc7, h⟩ := of_bind h
        refine AOps.cut [7, 8] [9, 10, 11, 12, 13, 14, 15] (fun σ => σ = ⟨[(15, .tv (.bool v15.1)), (88, .tv (.bool v17))], []⟩) ?_ fun σ' hJ => ?_
        · refine AOps.split (fun b => ⟨[(13, .tv (.bool v14.1)), (15, .tv (.bool v15.1)), (86, .tv (.bool b))], []⟩) _ (fun hb => ?_) fun hb => ?_
          · replace hc7 := of_true hc7 hb
            refine AOps.go [7, 8] [] [] [15, 88] 0 ⟨[(15, .tv (.bool v15.1)), (88, .tv (.bool v14.1))], []⟩ ?_ (Nat.zero_le _) trivial ?_
            · kernel_rfl
            cases hc7
            exact AOps.nil rfl
          · replace hc7 := of_false hc7 hb
            refine AOps.go [7, 8] [] [] [15, 88] 0 ⟨[(15, .tv (.bool v15.1)), (88, .tv (.bool false))], []⟩ ?_ (Nat.zero_le _) trivial ?_
            · kernel_rfl
            cases hc7
            exact AOps.nil rfl
        subst hJ
        refine AOps.go [9] [10, 11, 12, 13, 14, 15] [] [15, 89] 0 ⟨[(15, .tv (.bool v15.1)), (89, .tv (.bool v17))], []⟩ ?_ (Nat.zero_le _) trivial ?_
        · kernel_rfl
        obtain ⟨v18, hc10, h⟩ := of_bind h
        refine AOps.cut [10, 11] [12, 13, 14, 15] (fun σ => σ = ⟨[(91, .tv (.bool v18))], []⟩) ?_ fun σ' hJ => ?_
        · refine AOps.split (fun b => ⟨[(15, .tv (.bool v15.1)), (89, .tv (.bool b))], []⟩) _ (fun hb => ?_) fun hb => ?_
          · replace hc10 := of_true hc10 hb
            refine AOps.go [10, 11] [] [] [91] 0 ⟨[(91, .tv (.bool v15.1))], []⟩ ?_ (Nat.zero_le _) trivial ?_
            · kernel_rfl
            cases hc10
            exact AOps.nil rfl
          · replace hc10 := of_false hc10 hb
            refine AOps.go [10, 11] [] [] [91] 0 ⟨[(91, .tv (.bool false))], []⟩ ?_ (Nat.zero_le _) trivial ?_
            · kernel_rfl
            cases hc10
            exact AOps.nil rfl
        subst hJ
        refine AOps.go [12] [13, 14, 15] [] [92] 0 ⟨[(92, .tv (.bool v18))], []⟩ ?_ (Nat.zero_le _) trivial ?_
        · kernel_rfl
        obtain ⟨v20, hc13, h⟩ := of_bind h
        refine AOps.cut [13, 14] [15] (fun σ => σ = ⟨[(94, .tv (.bool v20))], []⟩) ?_ fun σ' hJ => ?_
        · refine AOps.split (fun b => ⟨[(92, .tv (.bool b))], []⟩) _ (fun hb => ?_) fun hb => ?_
          · replace hc13 := of_true hc13 hb
            obtain ⟨v19, hv19, hc13⟩ := of_bind hc13
            refine AOps.cons (AOne.callP (F := (FF 95 0)) _ rfl rfl rfl _ rfl rfl _ _ rfl Try.call11 [] rfl rfl (f11_ok  hv19) rfl) ?_
            refine AOps.go [14] [] [] [94] 0 ⟨[(94, .tv (.bool v19))], []⟩ ?_ (Nat.zero_le _) trivial ?_
            · kernel_rfl
            cases hc13
            exact AOps.nil rfl
          · replace hc13 := of_false hc13 hb
            refine AOps.go [13, 14] [] [] [94] 0 ⟨[(94, .tv (.bool false))], []⟩ ?_ (Nat.zero_le _) trivial ?_
            · kernel_rfl
            cases hc13
            exact AOps.nil rfl
        subst hJ
        refine AOps.go [15] [] [] [4] 0 ⟨[(4, .tv (.bool v20))], []⟩ ?_ (Nat.zero_le _) trivial ?_
        · kernel_rfl
        refine AOps.nil ?_
        refine AWp.ret ?_
        cases h
        exact ⟨.inr rfl, rfl⟩

noncomputable def f8 (v1 : T31) (v2 : T31) (v3 : List T48) : Option Bool :=
  (f10 [v1, v2]).bind fun v4 => (cond v4 (some true) (some (decide ((v3.length : Int) > (100 : Int))))).bind fun v5 => cond v5 ((f11 ).bind fun v6 => some v6) ((f14 v1 v3).bind fun v7 => (f14 v2 v3).bind fun v8 => (cond (v7.2 != (0 : Int)) (some true) (some (v8.2 != (0 : Int)))).bind fun v9 => (cond v9 (some true) (some (!v7.1))).bind fun v10 => (cond v10 (some true) (some (!v8.1))).bind fun v11 => cond v11 ((f11 ).bind fun v12 => some v12) ((f23 v1 v2).bind fun v13 => (f21 v1 v2).bind fun v14 => (cond (v13.2 == (0 : Int)) (cond (v14.2 == (0 : Int)) ((f15 v1).bind fun v16 => (f15 v2).bind fun v17 => cond (v14.1 == (v16 == v17)) ((f11 ).bind fun v18 => some v18) (some false)) (some false)) (some false)).bind fun v15 => some v15))

theorem f8_ok (v1 : T31) (v2 : T31) (v3 : List T48) {r : Bool} (h : f8 v1 v2 v3 = some r) : ACall Try.prog 8 [.agg [.str v1.f0, fzL 3 c48 v1.f1], .agg [.str v2.f0, fzL 3 c48 v2.f1], .tv (fzL 3 c48 v3)] [] (.tv (.bool r)) [] := by
  refine ACall.of1 (FF 82 0) Try.func8 rfl Try.ntmps8 Try.results8 (Nat.le_of_ble_eq_true rfl) rfl rfl ?_
  refine AWp.seq ?_
  refine AWp.start [0, 1, 2] [] [] [2, 3, 4] 2 ⟨[(2, .tv (fzL 3 c48 v3)), (3, .pc 0 0), (4, .pc 1 0)], [.cells 32 [.str v1.f0, fzL 3 c48 v1.f1], .cells 32 [.str v2.f0, fzL 3 c48 v2.f1]]⟩ rfl ?_ (Nat.zero_le _) trivial ?_
  · kernel_rfl
  refine AOps.nil ?_
  refine AWp.seq ?_
  refine AWp.seq ?_
  refine AWp.pin 0 rfl rfl ?_
  refine AWp.pin 1 rfl rfl ?_
  refine AWp.keepTo [2, 3, 4] 0 ⟨[(2, .tv (fzL 3 c48 v3)), (3, .rp [.str v1.f0, fzL 3 c48 v1.f1]), (4, .rp [.str v2.f0, fzL 3 c48 v2.f1])], []⟩ ?_ (Nat.zero_le _) ?_
  · kernel_rfl
  refine AWp.start [0, 1, 2] [3, 4, 5, 6, 7, 8] [] [2, 3, 4, 17] 0 ⟨[(2, .tv (fzL 3 c48 v3)), (3, .rp [.str v1.f0, fzL 3 c48 v1.f1]), (4, .rp [.str v2.f0, fzL 3 c48 v2.f1]), (17, .tv (.own 2 32 2 (newRowF [.str v1.f0, fzL 3 c48 v1.f1, .str v2.f0, fzL 3 c48 v2.f1] 2)))], []⟩ rfl ?_ (Nat.zero_le _) trivial ?_
  · kernel_rfl
  refine AOps.extL 17 c31 [v1, v2] rfl rfl (row_at c31 2 (fun _ => rfl) [v1, v2] _ rfl) ?_
  refine AOps.freezeL 17 c31 [v1, v2] rfl (fun _ => rfl) ?_
  obtain ⟨v4, hv4, h⟩ := of_bind h
  refine AOps.cons (AOne.callP (F := (FF 82 0)) _ rfl rfl rfl _ rfl rfl _ _ rfl Try.call10 [.tv (fzL 2 c31 [v1, v2])] rfl rfl (f10_ok [v1, v2] hv4) rfl) ?_
  refine AOps.go [4] [5, 6, 7, 8] [] [2, 3, 4, 19] 0 ⟨[(2, .tv (fzL 3 c48 v3)), (3, .rp [.str v1.f0, fzL 3 c48 v1.f1]), (4, .rp [.str v2.f0, fzL 3 c48 v2.f1]), (19, .tv (.bool v4))], []⟩ ?_ (Nat.zero_le _) trivial ?_
  · kernel_rfl
  obtain ⟨v5, hc5, h⟩ := of_bind h
  refine AOps.cut [5, 6, 7, 8] [] (fun σ => σ = ⟨[(2, .tv (fzL 3 c48 v3)), (3, .rp [.str v1.f0, fzL 3 c48 v1.f1]), (4, .rp [.str v2.f0, fzL 3 c48 v2.f1]), (23, .tv (.bool v5))], []⟩) ?_ fun σ' hJ => ?_
  · refine AOps.split (fun b => ⟨[(2, .tv (fzL 3 c48 v3)), (3, .rp [.str v1.f0, fzL 3 c48 v1.f1]), (4, .rp [.str v2.f0, fzL 3 c48 v2.f1]), (19, .tv (.bool b))], []⟩) _ (fun hb => ?_) fun hb => ?_
    · replace hc5 := of_true hc5 hb
      refine AOps.go [5, 6, 7, 8] [] [] [2, 3, 4, 23] 0 ⟨[(2, .tv (fzL 3 c48 v3)), (3, .rp [.str v1.f0, fzL 3 c48 v1.f1]), (4, .rp [.str v2.f0, fzL 3 c48 v2.f1]), (23, .tv (.bool true))], []⟩ ?_ (Nat.zero_le _) trivial ?_
      · kernel_rfl
      cases hc5
      exact AOps.nil rfl
    · replace hc5 := of_false hc5 hb
      refine AOps.go [5, 6, 7, 8] [] [] [2, 3, 4, 23] 0 ⟨[(2, .tv (fzL 3 c48 v3)), (3, .rp [.str v1.f0, fzL 3 c48 v1.f1]), (4, .rp [.str v2.f0, fzL 3 c48 v2.f1]), (23, .tv (.bool (decide ((v3.length : Int) > (100 : Int)))))], []⟩ ?_ (Nat.zero_le _) trivial ?_
      · kernel_rfl
      cases hc5
      exact AOps.nil rfl
  subst hJ
  refine AOps.nil ?_
  refine AWp.cond rfl (fun hb => ?_) fun hb => ?_
  · replace h := of_true h hb
    refine AWp.keepTo [] 0 ⟨[], []⟩ ?_ (Nat.zero_le _) ?_
    · kernel_rfl
    refine AWp.seq ?_
    refine AWp.start [] [0, 1] [] [] 0 ⟨[], []⟩ rfl ?_ (Nat.zero_le _) trivial ?_
    · kernel_rfl
    obtain ⟨v6, hv6, h⟩ := of_bind h
    refine AOps.cons (AOne.callP (F := (FF 82 0)) _ rfl rfl rfl _ rfl rfl _ _ rfl Try.call11 [] rfl rfl (f11_ok  hv6) rfl) ?_
    refine AOps.go [1] [] [] [6] 0 ⟨[(6, .tv (.bool v6))], []⟩ ?_ (Nat.zero_le _) trivial ?_
    · kernel_rfl
    refine AOps.nil ?_
    refine AWp.ret ?_
    cases h
    exact ⟨.inr rfl, rfl⟩
  · replace h := of_false h hb
    refine AWp.keepTo [2, 3, 4] 0 ⟨[(2, .tv (fzL 3 c48 v3)), (3, .rp [.str v1.f0, fzL 3 c48 v1.f1]), (4, .rp [.str v2.f0, fzL 3 c48 v2.f1])], []⟩ ?_ (Nat.zero_le _) ?_
    · kernel_rfl
    refine AWp.skip ?_
    refine AWp.seq ?_
    refine AWp.start [0, 1] [2, 3, 4, 5, 6, 7] [] [2, 3, 4, 26, 27] 0 ⟨[(2, .tv (fzL 3 c48 v3)), (3, .rp [.str v1.f0, fzL 3 c48 v1.f1]), (4, .rp [.str v2.f0, fzL 3 c48 v2.f1]), (26, .agg [.str v1.f0, fzL 3 c48 v1.f1]), (27, .tv (fzL 3 c48 v3))], []⟩ rfl ?_ (Nat.zero_le _) trivial ?_
    · kernel_rfl
    obtain ⟨v7, hv7, h⟩ := of_bind h
    refine AOps.cons (AOne.callP (F := (FF 82 0)) _ rfl rfl rfl _ rfl rfl _ _ rfl Try.call14 [.agg [.str v1.f0, fzL 3 c48 v1.f1], .tv (fzL 3 c48 v3)] rfl rfl (f14_ok v1 v3 hv7) rfl) ?_
    refine AOps.go [3, 4, 5, 6, 7] [] [] [2, 3, 4, 7, 8] 0 ⟨[(2, .tv (fzL 3 c48 v3)), (3, .rp [.str v1.f0, fzL 3 c48 v1.f1]), (4, .rp [.str v2.f0, fzL 3 c48 v2.f1]), (7, .tv (.bool v7.1)), (8, .tv (.int .i64 v7.2))], []⟩ ?_ (Nat.zero_le _) trivial ?_
    · kernel_rfl
    refine AOps.nil ?_
    refine AWp.seq ?_
    refine AWp.start [0, 1] [2, 3, 4, 5, 6, 7] [] [3, 4, 7, 8, 32, 33] 0 ⟨[(3, .rp [.str v1.f0, fzL 3 c48 v1.f1]), (4, .rp [.str v2.f0, fzL 3 c48 v2.f1]), (7, .tv (.bool v7.1)), (8, .tv (.int .i64 v7.2)), (32, .agg [.str v2.f0, fzL 3 c48 v2.f1]), (33, .tv (fzL 3 c48 v3))], []⟩ rfl ?_ (Nat.zero_le _) trivial ?_
    · kernel_rfl
    obtain ⟨v8, hv8, h⟩ := of_bind h
    refine AOps.cons (AOne.callP (F := (FF 82 0)) _ rfl rfl rfl _ rfl rfl _ _ rfl Try.call14 [.agg [.str v2.f0, fzL 3 c48 v2.f1], .tv (fzL 3 c48 v3)] rfl rfl (f14_ok v2 v3 hv8) rfl) ?_
    refine AOps.go [3, 4, 5, 6, 7] [] [] [3, 4, 7, 8, 9, 10] 0 ⟨[(3, .rp [.str v1.f0, fzL 3 c48 v1.f1]), (4, .rp [.str v2.f0, fzL 3 c48 v2.f1]), (7, .tv (.bool v7.1)), (8, .tv (.int .i64 v7.2)), (9, .tv (.bool v8.1)), (10, .tv (.int .i64 v8.2))], []⟩ ?_ (Nat.zero_le _) trivial ?_
    · kernel_rfl
    refine AOps.nil ?_
    refine AWp.seq ?_
    refine AWp.seq ?_
    refine AWp.start [0, 1, 2] [3, 4, 5, 6, 7, 8, 9, 10, 11, 12, 13] [] [3, 4, 7, 9, 10, 39] 0 ⟨[(3, .rp [.str v1.f0, fzL 3 c48 v1.f1]), (4, .rp [.str v2.f0, fzL 3 c48 v2.f1]), (7, .tv (.bool v7.1)), (9, .tv (.bool v8.1)), (10, .tv (.int .i64 v8.2)), (39, .tv (.bool (v7.2 != (0 : Int))))], []⟩ rfl ?_ (Nat.zero_le _) trivial ?_
    · kernel_rfl
    obtain ⟨v9, hc3, h⟩ := of_bind h
    refine AOps.cut [3, 4, 5] [6, 7, 8, 9, 10, 11, 12, 13] (fun σ => σ = ⟨[(3, .rp [.str v1.f0, fzL 3 c48 v1.f1]), (4, .rp [.str v2.f0, fzL 3 c48 v2.f1]), (7, .tv (.bool v7.1)), (9, .tv (.bool v8.1)), (42, .tv (.bool v9))], []⟩) ?_ fun σ' hJ => ?_
    · refine AOps.split (fun b => ⟨[(3, .rp [.str v1.f0, fzL 3 c48 v1.f1]), (4, .rp [.str v2.f0, fzL 3 c48 v2.f1]), (7, .tv (.bool v7.1)), (9, .tv (.bool v8.1)), (10, .tv (.int .i64 v8.2)), (39, .tv (.bool b))], []⟩) _ (fun hb => ?_) fun hb => ?_
      · replace hc3 := of_true hc3 hb
        refine AOps.go [3, 4, 5] [] [] [3, 4, 7, 9, 42] 0 ⟨[(3, .rp [.str v1.f0, fzL 3 c48 v1.f1]), (4, .rp [.str v2.f0, fzL 3 c48 v2.f1]), (7, .tv (.bool v7.1)), (9, .tv (.bool v8.1)), (42, .tv (.bool true))], []⟩ ?_ (Nat.zero_le _) trivial ?_
        · kernel_rfl
        cases hc3
        exact AOps.nil rfl
      · replace hc3 := of_false hc3 hb
        refine AOps.go [3, 4, 5] [] [] [3, 4, 7, 9, 42] 0 ⟨[(3, .rp [.str v1.f0, fzL 3 c48 v1.f1]), (4, .rp [.str v2.f0, fzL 3 c48 v2.f1]), (7, .tv (.bool v7.1)), (9, .tv (.bool v8.1)), (42, .tv (.bool (v8.2 != (0 : Int))))], []⟩ ?_ (Nat.zero_le _) trivial ?_
        · kernel_rfl
        cases hc3
        exact AOps.nil rfl
    subst hJ
    refine AOps.go [6] [7, 8, 9, 10, 11, 12, 13] [] [3, 4, 7, 9, 43] 0 ⟨[(3, .rp [.str v1.f0, fzL 3 c48 v1.f1]), (4, .rp [.str v2.f0, fzL 3 c48 v2.f1]), (7, .tv (.bool v7.1)), (9, .tv (.bool v8.1)), (43, .tv (.bool v9))], []⟩ ?_ (Nat.zero_le _) trivial ?_
    · kernel_rfl
    obtain ⟨v10, hc7, h⟩ := of_bind h
    refine AOps.cut [7, 8, 9] [10, 11, 12, 13] (fun σ => σ = ⟨[(3, .rp [.str v1.f0, fzL 3 c48 v1.f1]), (4, .rp [.str v2.f0, fzL 3 c48 v2.f1]), (9, .tv (.bool v8.1)), (46, .tv (.bool v10))], []⟩) ?_ fun σ' hJ => ?_
    · refine AOps.split (fun b => ⟨[(3, .rp [.str v1.f0, fzL 3 c48 v1.f1]), (4, .rp [.str v2.f0, fzL 3 c48 v2.f1]), (7, .tv (.bool v7.1)), (9, .tv (.bool v8.1)), (43, .tv (.bool b))], []⟩) _ (fun hb => ?_) fun hb => ?_
      · replace hc7 := of_true hc7 hb
        refine AOps.go [7, 8, 9] [] [] [3, 4, 9, 46] 0 ⟨[(3, .rp [.str v1.f0, fzL 3 c48 v1.f1]), (4, .rp [.str v2.f0, fzL 3 c48 v2.f1]), (9, .tv (.bool v8.1)), (46, .tv (.bool true))], []⟩ ?_ (Nat.zero_le _) trivial ?_
        · kernel_rfl
        cases hc7
        exact AOps.nil rfl
      · replace hc7 := of_false hc7 hb
        refine AOps.go [7, 8, 9] [] [] [3, 4, 9, 46] 0 ⟨[(3, .rp [.str v1.f0, fzL 3 c48 v1.f1]), (4, .rp [.str v2.f0, fzL 3 c48 v2.f1]), (9, .tv (.bool v8.1)), (46, .tv (.bool (!v7.1)))], []⟩ ?_ (Nat.zero_le _) trivial ?_
        · kernel_rfl
        cases hc7
        exact AOps.nil rfl
    subst hJ
    refine AOps.go [10] [11, 12, 13] [] [3, 4, 9, 47] 0 ⟨[(3, .rp [.str v1.f0, fzL 3 c48 v1.f1]), (4, .rp [.str v2.f0, fzL 3 c48 v2.f1]), (9, .tv (.bool v8.1)), (47, .tv (.bool v10))], []⟩ ?_ (Nat.zero_le _) trivial ?_
    · kernel_rfl
    obtain ⟨v11, hc11, h⟩ := of_bind h
    refine AOps.cut [11, 12, 13] [] (fun σ => σ = ⟨[(3, .rp [.str v1.f0, fzL 3 c48 v1.f1]), (4, .rp [.str v2.f0, fzL 3 c48 v2.f1]), (50, .tv (.bool v11))], []⟩) ?_ fun σ' hJ => ?_
    · refine AOps.split (fun b => ⟨[(3, .rp [.str v1.f0, fzL 3 c48 v1.f1]), (4, .rp [.str v2.f0, fzL 3 c48 v2.f1]), (9, .tv (.bool v8.1)), (47, .tv (.bool b))], []⟩) _ (fun hb => ?_) fun hb => ?_
      · replace hc11 := of_true hc11 hb
        refine AOps.go [11, 12, 13] [] [] [3, 4, 50] 0 ⟨[(3, .rp [.str v1.f0, fzL 3 c48 v1.f1]), (4, .rp [.str v2.f0, fzL 3 c48 v2.f1]), (50, .tv (.bool true))], []⟩ ?_ (Nat.zero_le _) trivial ?_
        · kernel_rfl
        cases hc11
        exact AOps.nil rfl
      · replace hc11 := of_false hc11 hb
        refine AOps.go [11, 12, 13] [] [] [3, 4, 50] 0 ⟨[(3, .rp [.str v1.f0, fzL 3 c48 v1.f1]), (4, .rp [.str v2.f0, fzL 3 c48 v2.f1]), (50, .tv (.bool (!v8.1)))], []⟩ ?_ (Nat.zero_le _) trivial ?_
        · kernel_rfl
        cases hc11
        exact AOps.nil rfl
    subst hJ
    refine AOps.nil ?_
    refine AWp.cond rfl (fun hb => ?_) fun hb => ?_
    · replace h := of_true h hb
      refine AWp.keepTo [] 0 ⟨[], []⟩ ?_ (Nat.zero_le _) ?_
      · kernel_rfl
      refine AWp.seq ?_
      refine AWp.start [] [0, 1] [] [] 0 ⟨[], []⟩ rfl ?_ (Nat.zero_le _) trivial ?_
      · kernel_rfl
      obtain ⟨v12, hv12, h⟩ := of_bind h
      refine AOps.cons (AOne.callP (F := (FF 82 0)) _ rfl rfl rfl _ rfl rfl _ _ rfl Try.call11 [] rfl rfl (f11_ok  hv12) rfl) ?_
      refine AOps.go [1] [] [] [6] 0 ⟨[(6, .tv (.bool v12))], []⟩ ?_ (Nat.zero_le _) trivial ?_
      · kernel_rfl
      refine AOps.nil ?_
      refine AWp.ret ?_
      cases h
      exact ⟨.inr rfl, rfl⟩
    · replace h := of_false h hb
      refine AWp.keepTo [3, 4] 0 ⟨[(3, .rp [.str v1.f0, fzL 3 c48 v1.f1]), (4, .rp [.str v2.f0, fzL 3 c48 v2.f1])], []⟩ ?_ (Nat.zero_le _) ?_
      · kernel_rfl
      refine AWp.skip ?_
      refine AWp.seq ?_
      refine AWp.start [0, 1] [2, 3, 4, 5, 6, 7] [] [3, 4, 53, 54] 0 ⟨[(3, .rp [.str v1.f0, fzL 3 c48 v1.f1]), (4, .rp [.str v2.f0, fzL 3 c48 v2.f1]), (53, .agg [.str v1.f0, fzL 3 c48 v1.f1]), (54, .agg [.str v2.f0, fzL 3 c48 v2.f1])], []⟩ rfl ?_ (Nat.zero_le _) trivial ?_
      · kernel_rfl
      obtain ⟨v13, hv13, h⟩ := of_bind h
      refine AOps.cons (AOne.callP (F := (FF 82 0)) _ rfl rfl rfl _ rfl rfl _ _ rfl Try.call23 [.agg [.str v1.f0, fzL 3 c48 v1.f1], .agg [.str v2.f0, fzL 3 c48 v2.f1]] rfl rfl (f23_ok v1 v2 hv13) rfl) ?_
      refine AOps.go [3, 4, 5, 6, 7] [] [] [3, 4, 12] 0 ⟨[(3, .rp [.str v1.f0, fzL 3 c48 v1.f1]), (4, .rp [.str v2.f0, fzL 3 c48 v2.f1]), (12, .tv (.int .i64 v13.2))], []⟩ ?_ (Nat.zero_le _) trivial ?_
      · kernel_rfl
      refine AOps.nil ?_
      refine AWp.seq ?_
      refine AWp.start [0, 1] [2, 3, 4, 5, 6, 7] [] [3, 4, 12, 59, 60] 0 ⟨[(3, .rp [.str v1.f0, fzL 3 c48 v1.f1]), (4, .rp [.str v2.f0, fzL 3 c48 v2.f1]), (12, .tv (.int .i64 v13.2)), (59, .agg [.str v1.f0, fzL 3 c48 v1.f1]), (60, .agg [.str v2.f0, fzL 3 c48 v2.f1])], []⟩ rfl ?_ (Nat.zero_le _) trivial ?_
      · kernel_rfl
      obtain ⟨v14, hv14, h⟩ := of_bind h
      refine AOps.cons (AOne.callP (F := (FF 82 0)) _ rfl rfl rfl _ rfl rfl _ _ rfl Try.call21 [.agg [.str v1.f0, fzL 3 c48 v1.f1], .agg [.str v2.f0, fzL 3 c48 v2.f1]] rfl rfl (f21_ok v1 v2 hv14) rfl) ?_
      refine AOps.go [3, 4, 5, 6, 7] [] [] [3, 4, 12, 13, 14] 0 ⟨[(3, .rp [.str v1.f0, fzL 3 c48 v1.f1]), (4, .rp [.str v2.f0, fzL 3 c48 v2.f1]), (12, .tv (.int .i64 v13.2)), (13, .tv (.bool v14.1)), (14, .tv (.int .i64 v14.2))], []⟩ ?_ (Nat.zero_le _) trivial ?_
      · kernel_rfl
      refine AOps.nil ?_
      refine AWp.seq ?_
      obtain ⟨v15, hd, h⟩ := of_bind h
      refine AWp.draw FFm (fun σ => σ = ⟨[(6, .tv (.bool v15))], []⟩) (n := 19) rfl (ls := #[false, false, false, false, false, false, false, false, false, false, false, false, false, false, false, false, false, false, false]) rfl ?_ ?_
      · refine AAny.go (by kernel_rfl) [0, 1, 2] (fuel' := 16) rfl [] #[true, true, true, false, false, false, false, false, false, false, false, false, false, false, false, false, false, false, false] [3, 4, 13, 14, 66] 0 ⟨[(3, .rp [.str v1.f0, fzL 3 c48 v1.f1]), (4, .rp [.str v2.f0, fzL 3 c48 v2.f1]), (13, .tv (.bool v14.1)), (14, .tv (.int .i64 v14.2)), (66, .tv (.bool (v13.2 == (0 : Int))))], []⟩ ?_ (Nat.zero_le _) trivial ?_
        · kernel_rfl
        refine AAny.split (fun b => ⟨[(3, .rp [.str v1.f0, fzL 3 c48 v1.f1]), (4, .rp [.str v2.f0, fzL 3 c48 v2.f1]), (13, .tv (.bool v14.1)), (14, .tv (.int .i64 v14.2)), (66, .tv (.bool b))], []⟩) _ (fun hb => ?_) fun hb => ?_
        · replace hd := of_true hd hb
          refine AAny.go (by kernel_rfl) [3, 4, 5, 6] (fuel' := 12) rfl [] #[true, true, true, true, true, true, true, false, false, false, false, false, false, false, false, false, false, false, false] [3, 4, 13, 70] 0 ⟨[(3, .rp [.str v1.f0, fzL 3 c48 v1.f1]), (4, .rp [.str v2.f0, fzL 3 c48 v2.f1]), (13, .tv (.bool v14.1)), (70, .tv (.bool (v14.2 == (0 : Int))))], []⟩ ?_ (Nat.zero_le _) trivial ?_
          · kernel_rfl
          refine AAny.split (fun b => ⟨[(3, .rp [.str v1.f0, fzL 3 c48 v1.f1]), (4, .rp [.str v2.f0, fzL 3 c48 v2.f1]), (13, .tv (.bool v14.1)), (70, .tv (.bool b))], []⟩) _ (fun hb => ?_) fun hb => ?_
          · replace hd := of_true hd hb
            refine AAny.go (by kernel_rfl) [7, 8, 10] (fuel' := 9) rfl [] #[true, true, true, true, true, true, true, true, true, false, true, false, false, false, false, false, false, false, false] [70, 71, 72, 74] 0 ⟨[(70, .tv (.bool true)), (71, .tv (.bool v14.1)), (72, .agg [.str v1.f0, fzL 3 c48 v1.f1]), (74, .agg [.str v2.f0, fzL 3 c48 v2.f1])], []⟩ ?_ (Nat.zero_le _) trivial ?_
            · kernel_rfl
            obtain ⟨v16, hv16, hd⟩ := of_bind hd
            refine AAny.serial (i := 9) (fuel := 8) (by kernel_rfl) (AOne.callP (F := (FF 82 0)) _ rfl rfl rfl _ rfl rfl _ _ rfl Try.call15 [.agg [.str v1.f0, fzL 3 c48 v1.f1]] rfl rfl (f15_ok v1 hv16) rfl) ?_
            refine AAny.keepTo [70, 71, 73, 74] 0 ⟨[(70, .tv (.bool true)), (71, .tv (.bool v14.1)), (73, .tv (.bool v16)), (74, .agg [.str v2.f0, fzL 3 c48 v2.f1])], []⟩ #[true, true, true, true, true, true, true, true, true, true, true, false, false, false, false, false, false, false, false] ?_ rfl (Nat.zero_le _) ?_
            · kernel_rfl
            obtain ⟨v17, hv17, hd⟩ := of_bind hd
            refine AAny.serial (i := 11) (fuel := 7) (by kernel_rfl) (AOne.callP (F := (FF 82 0)) _ rfl rfl rfl _ rfl rfl _ _ rfl Try.call15 [.agg [.str v2.f0, fzL 3 c48 v2.f1]] rfl rfl (f15_ok v2 hv17) rfl) ?_
            refine AAny.keepTo [70, 71, 73, 75] 0 ⟨[(70, .tv (.bool true)), (71, .tv (.bool v14.1)), (73, .tv (.bool v16)), (75, .tv (.bool v17))], []⟩ #[true, true, true, true, true, true, true, true, true, true, true, true, false, false, false, false, false, false, false] ?_ rfl (Nat.zero_le _) ?_
            · kernel_rfl
            refine AAny.go (by kernel_rfl) [12, 13, 14, 15] (fuel' := 3) rfl [] #[true, true, true, true, true, true, true, true, true, true, true, true, true, true, true, true, false, false, false] [79] 0 ⟨[(79, .tv (.bool (v14.1 == (v16 == v17))))], []⟩ ?_ (Nat.zero_le _) trivial ?_
            · kernel_rfl
            refine AAny.split (fun b => ⟨[(79, .tv (.bool b))], []⟩) _ (fun hb => ?_) fun hb => ?_
            · replace hd := of_true hd hb
              obtain ⟨v18, hv18, hd⟩ := of_bind hd
              refine AAny.serial (i := 16) (fuel := 2) (by kernel_rfl) (AOne.callP (F := (FF 82 0)) _ rfl rfl rfl _ rfl rfl _ _ rfl Try.call11 [] rfl rfl (f11_ok  hv18) rfl) ?_
              refine AAny.keepTo [79, 80] 0 ⟨[(79, .tv (.bool true)), (80, .tv (.bool v18))], []⟩ #[true, true, true, true, true, true, true, true, true, true, true, true, true, true, true, true, true, false, false] ?_ rfl (Nat.zero_le _) ?_
              · kernel_rfl
              refine AAny.go (by kernel_rfl) [17, 18] (fuel' := 0) rfl [] #[true, true, true, true, true, true, true, true, true, true, true, true, true, true, true, true, true, true, true] [6] 0 ⟨[(6, .tv (.bool v18))], []⟩ ?_ (Nat.zero_le _) trivial ?_
              · kernel_rfl
              refine AAny.keepTo [6] 0 ⟨[(6, .tv (.bool v18))], []⟩ _ ?_ rfl (Nat.zero_le _) (AAny.done (by kernel_rfl) ?_)
              · kernel_rfl
              cases hd
              exact rfl
            · replace hd := of_false hd hb
              refine AAny.go (by kernel_rfl) [16, 17, 18] (fuel' := 0) rfl [] #[true, true, true, true, true, true, true, true, true, true, true, true, true, true, true, true, true, true, true] [6] 0 ⟨[(6, .tv (.bool false))], []⟩ ?_ (Nat.zero_le _) trivial ?_
              · kernel_rfl
              refine AAny.keepTo [6] 0 ⟨[(6, .tv (.bool false))], []⟩ _ ?_ rfl (Nat.zero_le _) (AAny.done (by kernel_rfl) ?_)
              · kernel_rfl
              cases hd
              exact rfl
          · replace hd := of_false hd hb
            refine AAny.go (by kernel_rfl) [7, 8, 9, 10, 11, 12, 13, 14, 15, 16, 17, 18] (fuel' := 0) rfl [] #[true, true, true, true, true, true, true, true, true, true, true, true, true, true, true, true, true, true, true] [6] 0 ⟨[(6, .tv (.bool false))], []⟩ ?_ (Nat.zero_le _) trivial ?_
            · kernel_rfl
            refine AAny.keepTo [6] 0 ⟨[(6, .tv (.bool false))], []⟩ _ ?_ rfl (Nat.zero_le _) (AAny.done (by kernel_rfl) ?_)
            · kernel_rfl
            cases hd
            exact rfl
        · replace hd := of_false hd hb
          refine AAny.go (by kernel_rfl) [3, 4, 5, 6, 7, 8, 9, 10, 11, 12, 13, 14, 15, 16, 17, 18] (fuel' := 0) rfl [] #[true, true, true, true, true, true, true, true, true, true, true, true, true, true, true, true, true, true, true] [6] 0 ⟨[(6, .tv (.bool false))], []⟩ ?_ (Nat.zero_le _) trivial ?_
          · kernel_rfl
          refine AAny.keepTo [6] 0 ⟨[(6, .tv (.bool false))], []⟩ _ ?_ rfl (Nat.zero_le _) (AAny.done (by kernel_rfl) ?_)
          · kernel_rfl
          cases hd
          exact rfl
      rintro σ' rfl
      refine AWp.ret ?_
      cases h
      exact ⟨.inr rfl, rfl⟩

noncomputable def f62_e_j1 (v2 : List T31) : Option (List T31) :=
  some v2

noncomputable def f62_e (v1 : Int) : Option (List T31) :=
  cond (decide (v1 < (0 : Int))) none (cond (decide (w64 (v1 - (w64 ((0 : Int) - (0 : Int)))) > (0 : Int))) (if (0 : Int) ≤ w64 (v1 - (w64 ((0 : Int) - (0 : Int)))) ∧ (Int.toNat (w64 (v1 - (w64 ((0 : Int) - (0 : Int)))))) * 40 ≤ 140737488355328 then f62_e_j1 ([] : List T31) else none) (f62_e_j1 []))

theorem f62_e_ok (v1 : Int) {r : (List T31)} (h : f62_e v1 = some r) : ACall Try.prog 62 [.tv (.sc (.slice none 0 0)), .tv (.int .i64 v1)] [] (.tv (ownL 2 32 c31 r)) [] := by
  refine ACall.of1 (FF 27 0) Try.func62 rfl Try.ntmps62 Try.results62 (Nat.le_of_ble_eq_true rfl) rfl rfl ?_
  refine AWp.seq ?_
  refine AWp.start [0] [] [] [0, 1] 0 ⟨[(0, .tv (.sc (.slice none 0 0))), (1, .tv (.int .i64 v1))], []⟩ rfl ?_ (Nat.zero_le _) trivial ?_
  · kernel_rfl
  refine AOps.nil ?_
  refine AWp.seq ?_
  refine AWp.seq ?_
  refine AWp.start [0, 1] [] [] [0, 1, 6] 0 ⟨[(0, .tv (.sc (.slice none 0 0))), (1, .tv (.int .i64 v1)), (6, .tv (.bool (decide (v1 < (0 : Int)))))], []⟩ rfl ?_ (Nat.zero_le _) trivial ?_
  · kernel_rfl
  refine AOps.nil ?_
  refine AWp.cond rfl (fun hb => ?_) fun hb => ?_
  · replace h := of_true h hb
    refine AWp.keepTo [0, 1] 0 ⟨[(0, .tv (.sc (.slice none 0 0))), (1, .tv (.int .i64 v1))], []⟩ ?_ (Nat.zero_le _) ?_
    · kernel_rfl
    cases h
  · replace h := of_false h hb
    refine AWp.keepTo [0, 1] 0 ⟨[(0, .tv (.sc (.slice none 0 0))), (1, .tv (.int .i64 v1))], []⟩ ?_ (Nat.zero_le _) ?_
    · kernel_rfl
    refine AWp.skip ?_
    refine AWp.join (V := (List T31)) (fun w => ⟨[(0, .tv (ownL 2 32 c31 w))], []⟩) (fun w => f62_e_j1  w = some r) ?_ ?_
    · refine AWp.seq ?_
      refine AWp.start [0, 1] [2, 3, 4, 5, 6, 7] [] [0, 8, 9] 0 ⟨[(0, .tv (.sc (.slice none 0 0))), (8, .tv (.int .i64 v1)), (9, .tv (.sc (.slice none 0 0)))], []⟩ rfl ?_ (Nat.zero_le _) trivial ?_
      · kernel_rfl
      refine AOps.cons (AOne.grow (F := (FF 27 0)) [] _ rfl rfl rfl rfl trivial) ?_
      refine AOps.go [3, 4, 5, 6, 7] [] [] [0, 1] 0 ⟨[(0, .tv (.sc (.slice none 0 0))), (1, .tv (.int .i64 (w64 (v1 - (w64 ((0 : Int) - (0 : Int)))))))], []⟩ ?_ (Nat.zero_le _) trivial ?_
      · kernel_rfl
      refine AOps.nil ?_
      refine AWp.seq ?_
      refine AWp.start [0, 1] [] [] [0, 1, 16] 0 ⟨[(0, .tv (.sc (.slice none 0 0))), (1, .tv (.int .i64 (w64 (v1 - (w64 ((0 : Int) - (0 : Int))))))), (16, .tv (.bool (decide (w64 (v1 - (w64 ((0 : Int) - (0 : Int)))) > (0 : Int)))))], []⟩ rfl ?_ (Nat.zero_le _) trivial ?_
      · kernel_rfl
      refine AOps.nil ?_
      refine AWp.cond rfl (fun hb => ?_) fun hb => ?_
      · replace h := of_true h hb
        refine AWp.keepTo [0, 1] 0 ⟨[(0, .tv (.sc (.slice none 0 0))), (1, .tv (.int .i64 (w64 (v1 - (w64 ((0 : Int) - (0 : Int)))))))], []⟩ ?_ (Nat.zero_le _) ?_
        · kernel_rfl
        refine AWp.start [0, 1] [2, 3, 4, 5, 6, 7, 8, 9] [] [0, 1, 17, 18] 0 ⟨[(0, .tv (.sc (.slice none 0 0))), (1, .tv (.int .i64 (w64 (v1 - (w64 ((0 : Int) - (0 : Int))))))), (17, .tv (.sc (.slice none 0 0))), (18, .tv (.sc (.slice none 0 0)))], []⟩ rfl ?_ (Nat.zero_le _) trivial ?_
        · kernel_rfl
        refine AOps.cons (AOne.grow (F := (FF 27 0)) [] _ rfl rfl rfl rfl trivial) ?_
        refine AOps.cons (AOne.grow (F := (FF 27 0)) [(0 : Int) = (0 : Int)] _ rfl rfl rfl rfl rfl) ?_
        refine AOps.go [4] [5, 6, 7, 8, 9] [] [0, 20, 21] 0 ⟨[(0, .tv (.sc (.slice none 0 0))), (20, .tv (.sc (.slice none 0 0))), (21, .tv (.int .i64 (w64 (v1 - (w64 ((0 : Int) - (0 : Int)))))))], []⟩ ?_ (Nat.zero_le _) trivial ?_
        · kernel_rfl
        obtain ⟨hg, h⟩ := of_guard h
        refine AOps.cons (AOne.grow (F := (FF 27 0)) [(0 : Int) ≤ w64 (v1 - (w64 ((0 : Int) - (0 : Int)))), (Int.toNat (w64 (v1 - (w64 ((0 : Int) - (0 : Int)))))) * 40 ≤ 140737488355328] _ rfl rfl rfl rfl ⟨hg.1, hg.2⟩) ?_
        refine AOps.go [6, 7] [8, 9] [] [22, 24] 0 ⟨[(22, .tv (.own 2 32 (Int.toNat (w64 (v1 - (w64 ((0 : Int) - (0 : Int)))))) (zerosF [.str ([] : List UInt8), .sc (.slice none 0 0)]))), (24, .tv (.int .i64 (0 : Int)))], []⟩ ?_ (Nat.zero_le _) trivial ?_
        · kernel_rfl
        refine AOps.cons (AOne.grow (F := (FF 27 0)) [(0 : Int) ≤ (0 : Int), (0 : Int) ≤ (((Int.toNat (w64 (v1 - (w64 ((0 : Int) - (0 : Int)))))) : Nat) : Int)] _ rfl rfl rfl rfl ⟨(by decide : (0 : Int) ≤ (0 : Int)), (Int.natCast_nonneg _)⟩) ?_
        refine AOps.keepTo [25] 0 ⟨[(25, .tv (.own 2 32 0 (zerosF [.str ([] : List UInt8), .sc (.slice none 0 0)])))], []⟩ ?_ (Nat.zero_le _) ?_
        · kernel_rfl
        refine AOps.extL 25 c31 ([] : List T31) rfl rfl (fun i hi => absurd hi (Nat.not_lt_zero i)) ?_
        refine AOps.go [9] [] [] [0] 0 ⟨[(0, .tv (ownL 2 32 c31 ([] : List T31)))], []⟩ ?_ (Nat.zero_le _) trivial ?_
        · kernel_rfl
        refine AOps.nil ?_
        exact ⟨([] : List T31), h, rfl⟩
      · replace h := of_false h hb
        refine AWp.keepTo [0] 0 ⟨[(0, .tv (.sc (.slice none 0 0)))], []⟩ ?_ (Nat.zero_le _) ?_
        · kernel_rfl
        refine AWp.nilOwn 0 2 32 (fun i => c31 (([] : List T31).getD i default)) rfl ?_
        refine AWp.keepTo [0] 0 ⟨[(0, .tv (ownL 2 32 c31 ([] : List T31)))], []⟩ ?_ (Nat.zero_le _) ?_
        · kernel_rfl
        refine AWp.skip ?_
        exact ⟨[], h, rfl⟩
    · rintro v2 h
      refine AWp.seq ?_
      refine AWp.start [0, 1] [] [] [0, 4] 0 ⟨[(0, .tv (ownL 2 32 c31 v2)), (4, .al (.slot 0 0, []))], []⟩ rfl ?_ (Nat.zero_le _) trivial ?_
      · kernel_rfl
      refine AOps.nil ?_
      refine AWp.claim 4 (.slot 0 0) (ownL 2 32 c31 v2) rfl rfl rfl rfl ?_
      refine AWp.keepTo [4] 0 ⟨[(4, .tv (ownL 2 32 c31 v2))], []⟩ ?_ (Nat.zero_le _) ?_
      · kernel_rfl
      refine AWp.ret ?_
      cases h
      exact ⟨.inr rfl, rfl⟩

noncomputable def f45_b1 (v1 : List (List T31)) (v2 : Int) (v3 : Int) : Option ((Int × Int) ⊕ Out (List T31) Int) :=
  cond (decide (v3 < (v1.length : Int))) (if (0 : Int) ≤ v3 ∧ v3 < (v1.length : Int) then cond (decide (w64 (v2 + ((v1.getD v3.toNat default).length : Int)) < (0 : Int))) none (some (.inl (w64 (v2 + ((v1.getD v3.toNat default).length : Int)), w64 (v3 + (1 : Int))))) else none) (some (.inr (.go v2)))

noncomputable def f45_b2 (v1 : List (List T31)) (v7 : List T31) (v8 : Int) : Option (((List T31) × Int) ⊕ Out (List T31) (List T31)) :=
  cond (decide (v8 < (v1.length : Int))) (if (0 : Int) ≤ v8 ∧ v8 < (v1.length : Int) then if (v7.length + (v1.getD v8.toNat default).length) * 40 ≤ 140737488355328 then some (.inl (v7 ++ (v1.getD v8.toNat default), w64 (v8 + (1 : Int)))) else none else none) (some (.inr (.go v7)))

noncomputable def f45 (v1 : List (List T31)) : Option (List T31) :=
  (iter (fun s => f45_b1 v1 s.1 s.2) ((0 : Int), (0 : Int))).bind fun y => match y with | .ret v5 => some v5 | .go v4 => (f62_e v4).bind fun v6 => (iter (fun s => f45_b2 v1 s.1 s.2) (v6, (0 : Int))).bind fun y => match y with | .ret v10 => some v10 | .go v9 => some v9

theorem f45_ok (v1 : List (List T31)) {r : (List T31)} (h : f45 v1 = some r) : ACall Try.prog 45 [.tv (fzL 1 (cSl 2 c31) v1)] [] (.tv (ownL 2 32 c31 r)) [] := by
  refine ACall.of1 (FF 36 0) Try.func45 rfl Try.ntmps45 Try.results45 (Nat.le_of_ble_eq_true rfl) rfl rfl ?_
  refine AWp.seq ?_
  refine AWp.start [0] [] [] [0] 0 ⟨[(0, .tv (fzL 1 (cSl 2 c31) v1))], []⟩ rfl ?_ (Nat.zero_le _) trivial ?_
  · kernel_rfl
  refine AOps.nil ?_
  refine AWp.seq ?_
  refine AWp.start [0] [] [] [0, 3] 0 ⟨[(0, .tv (fzL 1 (cSl 2 c31) v1)), (3, .tv (.int .i64 (0 : Int)))], []⟩ rfl ?_ (Nat.zero_le _) trivial ?_
  · kernel_rfl
  refine AOps.nil ?_
  refine AWp.seq ?_
  refine AWp.seq ?_
  refine AWp.start [0, 1, 2] [] [] [0, 3, 9, 10, 11] 0 ⟨[(0, .tv (fzL 1 (cSl 2 c31) v1)), (3, .tv (.int .i64 (0 : Int))), (9, .tv (fzL 1 (cSl 2 c31) v1)), (10, .tv (.int .i64 (v1.length : Int))), (11, .tv (.int .i64 (0 : Int)))], []⟩ rfl ?_ (Nat.zero_le _) trivial ?_
  · kernel_rfl
  refine AOps.nil ?_
  refine AWp.block ?_
  obtain ⟨y, hy, h⟩ := of_bind h
  refine AWp.mono (AWp.loop (S := Int × Int) (Y := Out (List T31) Int) (fun s => ⟨[(0, .tv (fzL 1 (cSl 2 c31) v1)), (3, .tv (.int .i64 s.1)), (9, .tv (fzL 1 (cSl 2 c31) v1)), (10, .tv (.int .i64 (v1.length : Int))), (11, .tv (.int .i64 s.2))], []⟩) (fun s => f45_b1 v1 s.1 s.2) (fun y e σ => match y with | .ret r => e = .ret ∧ σ = ⟨[(2, .tv (ownL 2 32 c31 r))], []⟩ | .go v => e = .exit 0 ∧ σ = ⟨[(0, .tv (fzL 1 (cSl 2 c31) v1)), (3, .tv (.int .i64 v))], []⟩) ?_ hy) ?_
  · rintro ⟨v2, v3⟩ o h
    refine AWp.seq ?_
    refine AWp.start [0] [] [] [0, 3, 9, 10, 11, 12] 0 ⟨[(0, .tv (fzL 1 (cSl 2 c31) v1)), (3, .tv (.int .i64 v2)), (9, .tv (fzL 1 (cSl 2 c31) v1)), (10, .tv (.int .i64 (v1.length : Int))), (11, .tv (.int .i64 v3)), (12, .tv (.bool (decide (v3 < (v1.length : Int)))))], []⟩ rfl ?_ (Nat.zero_le _) trivial ?_
    · kernel_rfl
    refine AOps.nil ?_
    refine AWp.seq ?_
    refine AWp.cond rfl (fun hb => ?_) fun hb => ?_
    · replace h := of_true h hb
      refine AWp.keepTo [0, 3, 9, 10, 11] 0 ⟨[(0, .tv (fzL 1 (cSl 2 c31) v1)), (3, .tv (.int .i64 v2)), (9, .tv (fzL 1 (cSl 2 c31) v1)), (10, .tv (.int .i64 (v1.length : Int))), (11, .tv (.int .i64 v3))], []⟩ ?_ (Nat.zero_le _) ?_
      · kernel_rfl
      refine AWp.skip ?_
      refine AWp.seq ?_
      refine AWp.block ?_
      refine AWp.seq ?_
      obtain ⟨hg, h⟩ := of_guard h
      refine AWp.start [0, 1, 2] [] [(0 : Int) ≤ v3, v3 < (v1.length : Int)] [0, 3, 5, 9, 10, 11] 0 ⟨[(0, .tv (fzL 1 (cSl 2 c31) v1)), (3, .tv (.int .i64 v2)), (5, .tv (fzL 2 c31 (v1.getD v3.toNat default))), (9, .tv (fzL 1 (cSl 2 c31) v1)), (10, .tv (.int .i64 (v1.length : Int))), (11, .tv (.int .i64 v3))], []⟩ rfl ?_ (Nat.zero_le _) ⟨hg.1, hg.2⟩ ?_
      · kernel_rfl
      refine AOps.nil ?_
      refine AWp.seq ?_
      refine AWp.start [0, 1, 2, 3, 4] [] [] [0, 3, 9, 10, 11] 0 ⟨[(0, .tv (fzL 1 (cSl 2 c31) v1)), (3, .tv (.int .i64 (w64 (v2 + ((v1.getD v3.toNat default).length : Int))))), (9, .tv (fzL 1 (cSl 2 c31) v1)), (10, .tv (.int .i64 (v1.length : Int))), (11, .tv (.int .i64 v3))], []⟩ rfl ?_ (Nat.zero_le _) trivial ?_
      · kernel_rfl
      refine AOps.nil ?_
      refine AWp.seq ?_
      refine AWp.start [0, 1] [] [] [0, 3, 9, 10, 11, 20] 0 ⟨[(0, .tv (fzL 1 (cSl 2 c31) v1)), (3, .tv (.int .i64 (w64 (v2 + ((v1.getD v3.toNat default).length : Int))))), (9, .tv (fzL 1 (cSl 2 c31) v1)), (10, .tv (.int .i64 (v1.length : Int))), (11, .tv (.int .i64 v3)), (20, .tv (.bool (decide (w64 (v2 + ((v1.getD v3.toNat default).length : Int)) < (0 : Int)))))], []⟩ rfl ?_ (Nat.zero_le _) trivial ?_
      · kernel_rfl
      refine AOps.nil ?_
      refine AWp.cond rfl (fun hb => ?_) fun hb => ?_
      · replace h := of_true h hb
        refine AWp.keepTo [0, 3, 9, 10, 11] 0 ⟨[(0, .tv (fzL 1 (cSl 2 c31) v1)), (3, .tv (.int .i64 (w64 (v2 + ((v1.getD v3.toNat default).length : Int))))), (9, .tv (fzL 1 (cSl 2 c31) v1)), (10, .tv (.int .i64 (v1.length : Int))), (11, .tv (.int .i64 v3))], []⟩ ?_ (Nat.zero_le _) ?_
        · kernel_rfl
        cases h
      · replace h := of_false h hb
        refine AWp.keepTo [0, 3, 9, 10, 11] 0 ⟨[(0, .tv (fzL 1 (cSl 2 c31) v1)), (3, .tv (.int .i64 (w64 (v2 + ((v1.getD v3.toNat default).length : Int))))), (9, .tv (fzL 1 (cSl 2 c31) v1)), (10, .tv (.int .i64 (v1.length : Int))), (11, .tv (.int .i64 v3))], []⟩ ?_ (Nat.zero_le _) ?_
        · kernel_rfl
        refine AWp.skip ?_
        refine AWp.start [0, 1] [] [] [0, 3, 9, 10, 11] 0 ⟨[(0, .tv (fzL 1 (cSl 2 c31) v1)), (3, .tv (.int .i64 (w64 (v2 + ((v1.getD v3.toNat default).length : Int))))), (9, .tv (fzL 1 (cSl 2 c31) v1)), (10, .tv (.int .i64 (v1.length : Int))), (11, .tv (.int .i64 (w64 (v3 + (1 : Int)))))], []⟩ rfl ?_ (Nat.zero_le _) trivial ?_
        · kernel_rfl
        refine AOps.nil ?_
        cases h
        exact Or.inl ⟨_, rfl, rfl, rfl⟩
    · replace h := of_false h hb
      refine AWp.keepTo [0, 3] 0 ⟨[(0, .tv (fzL 1 (cSl 2 c31) v1)), (3, .tv (.int .i64 v2))], []⟩ ?_ (Nat.zero_le _) ?_
      · kernel_rfl
      refine AWp.exit ?_
      cases h
      exact Or.inr ⟨_, rfl, by simp, rfl, rfl⟩
  · intro e σ hp
    rcases y with v5 | v4
    · obtain ⟨rfl, rfl⟩ := hp
      cases h
      exact ⟨.inr rfl, rfl⟩
    · obtain ⟨rfl, rfl⟩ := hp
      refine AWp.seq ?_
      refine AWp.start [0] [1, 2] [] [0, 23] 0 ⟨[(0, .tv (fzL 1 (cSl 2 c31) v1)), (23, .tv (.int .i64 v4))], []⟩ rfl ?_ (Nat.zero_le _) trivial ?_
      · kernel_rfl
      obtain ⟨v6, hv6, h⟩ := of_bind h
      refine AOps.cons (AOne.callP (F := (FF 36 0)) _ rfl rfl rfl _ rfl rfl _ _ rfl Try.call62 [.tv (.sc (.slice none 0 0)), .tv (.int .i64 v4)] rfl rfl (f62_e_ok v4 hv6) rfl) ?_
      refine AOps.go [2] [] [] [0, 6] 0 ⟨[(0, .tv (fzL 1 (cSl 2 c31) v1)), (6, .tv (ownL 2 32 c31 v6))], []⟩ ?_ (Nat.zero_le _) trivial ?_
      · kernel_rfl
      refine AOps.nil ?_
      refine AWp.seq ?_
      refine AWp.seq ?_
      refine AWp.start [0, 1, 2] [] [] [6, 25, 26, 27] 0 ⟨[(6, .tv (ownL 2 32 c31 v6)), (25, .tv (fzL 1 (cSl 2 c31) v1)), (26, .tv (.int .i64 (v1.length : Int))), (27, .tv (.int .i64 (0 : Int)))], []⟩ rfl ?_ (Nat.zero_le _) trivial ?_
      · kernel_rfl
      refine AOps.nil ?_
      refine AWp.block ?_
      obtain ⟨y, hy, h⟩ := of_bind h
      refine AWp.mono (AWp.loop (S := (List T31) × Int) (Y := Out (List T31) (List T31)) (fun s => ⟨[(6, .tv (ownL 2 32 c31 s.1)), (25, .tv (fzL 1 (cSl 2 c31) v1)), (26, .tv (.int .i64 (v1.length : Int))), (27, .tv (.int .i64 s.2))], []⟩) (fun s => f45_b2 v1 s.1 s.2) (fun y e σ => match y with | .ret r => e = .ret ∧ σ = ⟨[(2, .tv (ownL 2 32 c31 r))], []⟩ | .go v => e = .exit 2 ∧ σ = ⟨[(6, .tv (ownL 2 32 c31 v))], []⟩) ?_ hy) ?_
      · rintro ⟨v7, v8⟩ o h
        refine AWp.seq ?_
        refine AWp.start [0] [] [] [6, 25, 26, 27, 28] 0 ⟨[(6, .tv (ownL 2 32 c31 v7)), (25, .tv (fzL 1 (cSl 2 c31) v1)), (26, .tv (.int .i64 (v1.length : Int))), (27, .tv (.int .i64 v8)), (28, .tv (.bool (decide (v8 < (v1.length : Int)))))], []⟩ rfl ?_ (Nat.zero_le _) trivial ?_
        · kernel_rfl
        refine AOps.nil ?_
        refine AWp.seq ?_
        refine AWp.cond rfl (fun hb => ?_) fun hb => ?_
        · replace h := of_true h hb
          refine AWp.keepTo [6, 25, 26, 27] 0 ⟨[(6, .tv (ownL 2 32 c31 v7)), (25, .tv (fzL 1 (cSl 2 c31) v1)), (26, .tv (.int .i64 (v1.length : Int))), (27, .tv (.int .i64 v8))], []⟩ ?_ (Nat.zero_le _) ?_
          · kernel_rfl
          refine AWp.skip ?_
          refine AWp.seq ?_
          refine AWp.block ?_
          refine AWp.seq ?_
          obtain ⟨hg, h⟩ := of_guard h
          refine AWp.start [0, 1, 2] [] [(0 : Int) ≤ v8, v8 < (v1.length : Int)] [6, 8, 25, 26, 27] 0 ⟨[(6, .tv (ownL 2 32 c31 v7)), (8, .tv (fzL 2 c31 (v1.getD v8.toNat default))), (25, .tv (fzL 1 (cSl 2 c31) v1)), (26, .tv (.int .i64 (v1.length : Int))), (27, .tv (.int .i64 v8))], []⟩ rfl ?_ (Nat.zero_le _) ⟨hg.1, hg.2⟩ ?_
          · kernel_rfl
          refine AOps.nil ?_
          obtain ⟨hg, h⟩ := of_guard h
          refine AWp.start [0, 1, 2] [3] [(v7.length + (v1.getD v8.toNat default).length) * 40 ≤ 140737488355328, PlainTo v7.length (fun i => c31 (v7.getD i default)), PlainTo ((v1.getD v8.toNat default).length) (fun i => c31 ((v1.getD v8.toNat default).getD i default))] [25, 26, 27, 33] 0 ⟨[(25, .tv (fzL 1 (cSl 2 c31) v1)), (26, .tv (.int .i64 (v1.length : Int))), (27, .tv (.int .i64 v8)), (33, .tv (.own 2 32 (v7.length + (v1.getD v8.toNat default).length) (appF v7.length (fun i => c31 (v7.getD i default)) (fun i => c31 ((v1.getD v8.toNat default).getD i default)))))], []⟩ rfl ?_ (Nat.zero_le _) ⟨hg, (fun _ _ => rfl), (fun _ _ => rfl)⟩ ?_
          · kernel_rfl
          refine AOps.extL 33 c31 (v7 ++ (v1.getD v8.toNat default)) rfl (by simp) (app_at c31 v7 (v1.getD v8.toNat default)) ?_
          refine AOps.go [3] [] [] [6, 25, 26, 27] 0 ⟨[(6, .tv (ownL 2 32 c31 (v7 ++ (v1.getD v8.toNat default)))), (25, .tv (fzL 1 (cSl 2 c31) v1)), (26, .tv (.int .i64 (v1.length : Int))), (27, .tv (.int .i64 v8))], []⟩ ?_ (Nat.zero_le _) trivial ?_
          · kernel_rfl
          refine AOps.nil ?_
          refine AWp.start [0, 1] [] [] [6, 25, 26, 27] 0 ⟨[(6, .tv (ownL 2 32 c31 (v7 ++ (v1.getD v8.toNat default)))), (25, .tv (fzL 1 (cSl 2 c31) v1)), (26, .tv (.int .i64 (v1.length : Int))), (27, .tv (.int .i64 (w64 (v8 + (1 : Int)))))], []⟩ rfl ?_ (Nat.zero_le _) trivial ?_
          · kernel_rfl
          refine AOps.nil ?_
          cases h
          exact Or.inl ⟨_, rfl, rfl, rfl⟩
        · replace h := of_false h hb
          refine AWp.keepTo [6] 0 ⟨[(6, .tv (ownL 2 32 c31 v7))], []⟩ ?_ (Nat.zero_le _) ?_
          · kernel_rfl
          refine AWp.exit ?_
          cases h
          exact Or.inr ⟨_, rfl, by simp, rfl, rfl⟩
      · intro e σ hp
        rcases y with v10 | v9
        · obtain ⟨rfl, rfl⟩ := hp
          cases h
          exact ⟨.inr rfl, rfl⟩
        · obtain ⟨rfl, rfl⟩ := hp
          refine AWp.seq ?_
          refine AWp.start [0, 1] [] [] [2, 6] 0 ⟨[(2, .al (.slot 6 0, [])), (6, .tv (ownL 2 32 c31 v9))], []⟩ rfl ?_ (Nat.zero_le _) trivial ?_
          · kernel_rfl
          refine AOps.nil ?_
          refine AWp.claim 2 (.slot 6 0) (ownL 2 32 c31 v9) rfl rfl rfl rfl ?_
          refine AWp.keepTo [2] 0 ⟨[(2, .tv (ownL 2 32 c31 v9))], []⟩ ?_ (Nat.zero_le _) ?_
          · kernel_rfl
          refine AWp.ret ?_
          cases h
          exact ⟨.inr rfl, rfl⟩

noncomputable def f64_b1 (v1 : List T48) (v2 : List T48) (v3 : Int) : Option (Int ⊕ Out Bool Unit) :=
  cond (decide (v3 < (v1.length : Int))) (if (0 : Int) ≤ v3 ∧ v3 < (v1.length : Int) ∧ (0 : Int) ≤ v3 ∧ v3 < (v2.length : Int) then cond (!((((v1.getD v3.toNat default).f0) == ((v2.getD v3.toNat default).f0)) && ((((v1.getD v3.toNat default).f1) == ((v2.getD v3.toNat default).f1)) && (((v1.getD v3.toNat default).f2) == ((v2.getD v3.toNat default).f2))))) (some (.inr (.ret false))) (some (.inl (w64 (v3 + (1 : Int))))) else none) (some (.inr (.go ())))

noncomputable def f64 (v1 : List T48) (v2 : List T48) : Option Bool :=
  cond ((v1.length : Int) != (v2.length : Int)) (some false) ((iter (fun s => f64_b1 v1 v2 s) (0 : Int)).bind fun y => match y with | .ret v4 => some v4 | .go _ => some true)

theorem f64_ok (v1 : List T48) (v2 : List T48) {r : Bool} (h : f64 v1 v2 = some r) : ACall Try.prog 64 [.tv (fzL 3 c48 v1), .tv (fzL 3 c48 v2)] [] (.tv (.bool r)) [] := by
  refine ACall.of1 (FF 26 0) Try.func64 rfl Try.ntmps64 Try.results64 (Nat.le_of_ble_eq_true rfl) rfl rfl ?_
  refine AWp.seq ?_
  refine AWp.start [0] [] [] [0, 1] 0 ⟨[(0, .tv (fzL 3 c48 v1)), (1, .tv (fzL 3 c48 v2))], []⟩ rfl ?_ (Nat.zero_le _) trivial ?_
  · kernel_rfl
  refine AOps.nil ?_
  refine AWp.seq ?_
  refine AWp.seq ?_
  refine AWp.start [0, 1, 2, 3, 4] [] [] [0, 1, 10] 0 ⟨[(0, .tv (fzL 3 c48 v1)), (1, .tv (fzL 3 c48 v2)), (10, .tv (.bool ((v1.length : Int) != (v2.length : Int))))], []⟩ rfl ?_ (Nat.zero_le _) trivial ?_
  · kernel_rfl
  refine AOps.nil ?_
  refine AWp.cond rfl (fun hb => ?_) fun hb => ?_
  · replace h := of_true h hb
    refine AWp.keepTo [] 0 ⟨[], []⟩ ?_ (Nat.zero_le _) ?_
    · kernel_rfl
    refine AWp.seq ?_
    refine AWp.start [0] [] [] [4] 0 ⟨[(4, .tv (.bool false))], []⟩ rfl ?_ (Nat.zero_le _) trivial ?_
    · kernel_rfl
    refine AOps.nil ?_
    refine AWp.ret ?_
    cases h
    exact ⟨.inr rfl, rfl⟩
  · replace h := of_false h hb
    refine AWp.keepTo [0, 1] 0 ⟨[(0, .tv (fzL 3 c48 v1)), (1, .tv (fzL 3 c48 v2))], []⟩ ?_ (Nat.zero_le _) ?_
    · kernel_rfl
    refine AWp.skip ?_
    refine AWp.seq ?_
    refine AWp.seq ?_
    refine AWp.start [0, 1, 2] [] [] [0, 1, 12, 13] 0 ⟨[(0, .tv (fzL 3 c48 v1)), (1, .tv (fzL 3 c48 v2)), (12, .tv (.int .i64 (v1.length : Int))), (13, .tv (.int .i64 (0 : Int)))], []⟩ rfl ?_ (Nat.zero_le _) trivial ?_
    · kernel_rfl
    refine AOps.nil ?_
    refine AWp.block ?_
    obtain ⟨y, hy, h⟩ := of_bind h
    refine AWp.mono (AWp.loop (S := Int) (Y := Out Bool Unit) (fun s => ⟨[(0, .tv (fzL 3 c48 v1)), (1, .tv (fzL 3 c48 v2)), (12, .tv (.int .i64 (v1.length : Int))), (13, .tv (.int .i64 s))], []⟩) (fun s => f64_b1 v1 v2 s) (fun y e σ => match y with | .ret r => e = .ret ∧ σ = ⟨[(4, .tv (.bool r))], []⟩ | .go v => e = .exit 0 ∧ σ = ⟨[], []⟩) ?_ hy) ?_
    · rintro v3 o h
      refine AWp.seq ?_
      refine AWp.start [0] [] [] [0, 1, 12, 13, 14] 0 ⟨[(0, .tv (fzL 3 c48 v1)), (1, .tv (fzL 3 c48 v2)), (12, .tv (.int .i64 (v1.length : Int))), (13, .tv (.int .i64 v3)), (14, .tv (.bool (decide (v3 < (v1.length : Int)))))], []⟩ rfl ?_ (Nat.zero_le _) trivial ?_
      · kernel_rfl
      refine AOps.nil ?_
      refine AWp.seq ?_
      refine AWp.cond rfl (fun hb => ?_) fun hb => ?_
      · replace h := of_true h hb
        refine AWp.keepTo [0, 1, 12, 13] 0 ⟨[(0, .tv (fzL 3 c48 v1)), (1, .tv (fzL 3 c48 v2)), (12, .tv (.int .i64 (v1.length : Int))), (13, .tv (.int .i64 v3))], []⟩ ?_ (Nat.zero_le _) ?_
        · kernel_rfl
        refine AWp.skip ?_
        refine AWp.seq ?_
        refine AWp.block ?_
        refine AWp.seq ?_
        refine AWp.start [0, 1] [] [] [0, 1, 5, 12, 13] 0 ⟨[(0, .tv (fzL 3 c48 v1)), (1, .tv (fzL 3 c48 v2)), (5, .tv (.int .i64 v3)), (12, .tv (.int .i64 (v1.length : Int))), (13, .tv (.int .i64 v3))], []⟩ rfl ?_ (Nat.zero_le _) trivial ?_
        · kernel_rfl
        refine AOps.nil ?_
        refine AWp.seq ?_
        refine AWp.draw FFm _ (n := 9) rfl (ls := #[false, false, false, false, false, false, false, false, false]) rfl ?_ (fun _ h => h)
        obtain ⟨hg, h⟩ := of_guard h
        refine AAny.go (by kernel_rfl) [0, 1, 2, 3, 4, 5, 6, 7, 8] (fuel' := 0) rfl [(0 : Int) ≤ v3, v3 < (v1.length : Int), (0 : Int) ≤ v3, v3 < (v2.length : Int)] #[true, true, true, true, true, true, true, true, true] [0, 1, 12, 13, 24] 0 ⟨[(0, .tv (fzL 3 c48 v1)), (1, .tv (fzL 3 c48 v2)), (12, .tv (.int .i64 (v1.length : Int))), (13, .tv (.int .i64 v3)), (24, .tv (.bool (!((((v1.getD v3.toNat default).f0) == ((v2.getD v3.toNat default).f0)) && ((((v1.getD v3.toNat default).f1) == ((v2.getD v3.toNat default).f1)) && (((v1.getD v3.toNat default).f2) == ((v2.getD v3.toNat default).f2)))))))], []⟩ ?_ (Nat.zero_le _) ⟨hg.1, hg.2.1, hg.2.2.1, hg.2.2.2⟩ ?_
        · kernel_rfl
        refine AAny.keepTo [0, 1, 12, 13, 24] 0 ⟨[(0, .tv (fzL 3 c48 v1)), (1, .tv (fzL 3 c48 v2)), (12, .tv (.int .i64 (v1.length : Int))), (13, .tv (.int .i64 v3)), (24, .tv (.bool (!((((v1.getD v3.toNat default).f0) == ((v2.getD v3.toNat default).f0)) && ((((v1.getD v3.toNat default).f1) == ((v2.getD v3.toNat default).f1)) && (((v1.getD v3.toNat default).f2) == ((v2.getD v3.toNat default).f2)))))))], []⟩ _ ?_ rfl (Nat.zero_le _) (AAny.done (by kernel_rfl) ?_)
        · kernel_rfl
        refine AWp.cond rfl (fun hb => ?_) fun hb => ?_
        · replace h := of_true h hb
          refine AWp.keepTo [] 0 ⟨[], []⟩ ?_ (Nat.zero_le _) ?_
          · kernel_rfl
          refine AWp.seq ?_
          refine AWp.start [0] [] [] [4] 0 ⟨[(4, .tv (.bool false))], []⟩ rfl ?_ (Nat.zero_le _) trivial ?_
          · kernel_rfl
          refine AOps.nil ?_
          refine AWp.ret ?_
          cases h
          exact Or.inr ⟨_, rfl, by simp, rfl, rfl⟩
        · replace h := of_false h hb
          refine AWp.keepTo [0, 1, 12, 13] 0 ⟨[(0, .tv (fzL 3 c48 v1)), (1, .tv (fzL 3 c48 v2)), (12, .tv (.int .i64 (v1.length : Int))), (13, .tv (.int .i64 v3))], []⟩ ?_ (Nat.zero_le _) ?_
          · kernel_rfl
          refine AWp.skip ?_
          refine AWp.start [0, 1] [] [] [0, 1, 12, 13] 0 ⟨[(0, .tv (fzL 3 c48 v1)), (1, .tv (fzL 3 c48 v2)), (12, .tv (.int .i64 (v1.length : Int))), (13, .tv (.int .i64 (w64 (v3 + (1 : Int)))))], []⟩ rfl ?_ (Nat.zero_le _) trivial ?_
          · kernel_rfl
          refine AOps.nil ?_
          cases h
          exact Or.inl ⟨_, rfl, rfl, rfl⟩
      · replace h := of_false h hb
        refine AWp.keepTo [] 0 ⟨[], []⟩ ?_ (Nat.zero_le _) ?_
        · kernel_rfl
        refine AWp.exit ?_
        cases h
        exact Or.inr ⟨_, rfl, by simp, rfl, rfl⟩
    · intro e σ hp
      rcases y with v4 | _
      · obtain ⟨rfl, rfl⟩ := hp
        cases h
        exact ⟨.inr rfl, rfl⟩
      · obtain ⟨rfl, rfl⟩ := hp
        refine AWp.seq ?_
        refine AWp.start [0] [] [] [4] 0 ⟨[(4, .tv (.bool true))], []⟩ rfl ?_ (Nat.zero_le _) trivial ?_
        · kernel_rfl
        refine AOps.nil ?_
        refine AWp.ret ?_
        cases h
        exact ⟨.inr rfl, rfl⟩

noncomputable def f48 (v1 : T31) (v2 : T31) : Option Bool :=
  (cond (v1.f0 == v2.f0) ((f64 v1.f1 v2.f1).bind fun v3 => some v3) (some false)).bind fun v4 => some v4

theorem f48_ok (v1 : T31) (v2 : T31) {r : Bool} (h : f48 v1 v2 = some r) : ACall Try.prog 48 [.agg [.str v1.f0, fzL 3 c48 v1.f1], .agg [.str v2.f0, fzL 3 c48 v2.f1]] [] (.tv (.bool r)) [] := by
  refine ACall.of1 (FF 17 0) Try.func48 rfl Try.ntmps48 Try.results48 (Nat.le_of_ble_eq_true rfl) rfl rfl ?_
  refine AWp.seq ?_
  refine AWp.start [0, 1, 2] [] [] [2, 3] 2 ⟨[(2, .pc 0 0), (3, .pc 1 0)], [.cells 32 [.str v1.f0, fzL 3 c48 v1.f1], .cells 32 [.str v2.f0, fzL 3 c48 v2.f1]]⟩ rfl ?_ (Nat.zero_le _) trivial ?_
  · kernel_rfl
  refine AOps.nil ?_
  refine AWp.seq ?_
  refine AWp.pin 0 rfl rfl ?_
  refine AWp.pin 1 rfl rfl ?_
  refine AWp.keepTo [2, 3] 0 ⟨[(2, .rp [.str v1.f0, fzL 3 c48 v1.f1]), (3, .rp [.str v2.f0, fzL 3 c48 v2.f1])], []⟩ ?_ (Nat.zero_le _) ?_
  · kernel_rfl
  refine AWp.start [0, 1, 2, 3, 4, 5] [6, 7, 8, 9, 10, 11, 12] [] [2, 3, 10] 0 ⟨[(2, .rp [.str v1.f0, fzL 3 c48 v1.f1]), (3, .rp [.str v2.f0, fzL 3 c48 v2.f1]), (10, .tv (.bool (v1.f0 == v2.f0)))], []⟩ rfl ?_ (Nat.zero_le _) trivial ?_
  · kernel_rfl
  obtain ⟨v4, hc6, h⟩ := of_bind h
  refine AOps.cut [6, 7, 8, 9, 10, 11] [12] (fun σ => σ = ⟨[(16, .tv (.bool v4))], []⟩) ?_ fun σ' hJ => ?_
  · refine AOps.split (fun b => ⟨[(2, .rp [.str v1.f0, fzL 3 c48 v1.f1]), (3, .rp [.str v2.f0, fzL 3 c48 v2.f1]), (10, .tv (.bool b))], []⟩) _ (fun hb => ?_) fun hb => ?_
    · replace hc6 := of_true hc6 hb
      refine AOps.go [6, 7, 8, 9] [10, 11] [] [10, 12, 14] 0 ⟨[(10, .tv (.bool true)), (12, .tv (fzL 3 c48 v1.f1)), (14, .tv (fzL 3 c48 v2.f1))], []⟩ ?_ (Nat.zero_le _) trivial ?_
      · kernel_rfl
      obtain ⟨v3, hv3, hc6⟩ := of_bind hc6
      refine AOps.cons (AOne.callP (F := (FF 17 0)) _ rfl rfl rfl _ rfl rfl _ _ rfl Try.call64 [.tv (fzL 3 c48 v1.f1), .tv (fzL 3 c48 v2.f1)] rfl rfl (f64_ok v1.f1 v2.f1 hv3) rfl) ?_
      refine AOps.go [11] [] [] [16] 0 ⟨[(16, .tv (.bool v3))], []⟩ ?_ (Nat.zero_le _) trivial ?_
      · kernel_rfl
      cases hc6
      exact AOps.nil rfl
    · replace hc6 := of_false hc6 hb
      refine AOps.go [6, 7, 8, 9, 10, 11] [] [] [16] 0 ⟨[(16, .tv (.bool false))], []⟩ ?_ (Nat.zero_le _) trivial ?_
      · kernel_rfl
      cases hc6
      exact AOps.nil rfl
  subst hJ
  refine AOps.go [12] [] [] [4] 0 ⟨[(4, .tv (.bool v4))], []⟩ ?_ (Nat.zero_le _) trivial ?_
  · kernel_rfl
  refine AOps.nil ?_
  refine AWp.ret ?_
  cases h
  exact ⟨.inr rfl, rfl⟩

noncomputable def f47 (v1 : T31) (v2 : T31) : Option Bool :=
  (f48 v2 v1).bind fun v3 => some v3

theorem f47_ok (v1 : T31) (v2 : T31) {r : Bool} (h : f47 v1 v2 = some r) : ACall Try.prog 47 [.agg [.str v1.f0, fzL 3 c48 v1.f1], .rp [.str v2.f0, fzL 3 c48 v2.f1]] [] (.tv (.bool r)) [] := by
  refine ACall.of1 (FF 7 0) Try.func47 rfl Try.ntmps47 Try.results47 (Nat.le_of_ble_eq_true rfl) rfl rfl ?_
  refine AWp.seq ?_
  refine AWp.start [0, 1] [] [] [1, 2] 1 ⟨[(1, .rp [.str v2.f0, fzL 3 c48 v2.f1]), (2, .pc 0 0)], [.cells 32 [.str v1.f0, fzL 3 c48 v1.f1]]⟩ rfl ?_ (Nat.zero_le _) trivial ?_
  · kernel_rfl
  refine AOps.nil ?_
  refine AWp.seq ?_
  refine AWp.pin 0 rfl rfl ?_
  refine AWp.keepTo [1, 2] 0 ⟨[(1, .rp [.str v2.f0, fzL 3 c48 v2.f1]), (2, .rp [.str v1.f0, fzL 3 c48 v1.f1])], []⟩ ?_ (Nat.zero_le _) ?_
  · kernel_rfl
  refine AWp.start [0, 1] [2, 3] [] [4, 5] 0 ⟨[(4, .agg [.str v2.f0, fzL 3 c48 v2.f1]), (5, .agg [.str v1.f0, fzL 3 c48 v1.f1])], []⟩ rfl ?_ (Nat.zero_le _) trivial ?_
  · kernel_rfl
  obtain ⟨v3, hv3, h⟩ := of_bind h
  refine AOps.cons (AOne.callP (F := (FF 7 0)) _ rfl rfl rfl _ rfl rfl _ _ rfl Try.call48 [.agg [.str v2.f0, fzL 3 c48 v2.f1], .agg [.str v1.f0, fzL 3 c48 v1.f1]] rfl rfl (f48_ok v2 v1 hv3) rfl) ?_
  refine AOps.go [3] [] [] [3] 0 ⟨[(3, .tv (.bool v3))], []⟩ ?_ (Nat.zero_le _) trivial ?_
  · kernel_rfl
  refine AOps.nil ?_
  refine AWp.ret ?_
  cases h
  exact ⟨.inr rfl, rfl⟩

noncomputable def f63_47_b1 (v1 : List T31) (v2 : T31) (v3 : Int) : Option (Int ⊕ Out Int Unit) :=
  cond (decide (v3 < (v1.length : Int))) (if (0 : Int) ≤ v3 ∧ v3 < (v1.length : Int) then (f47 (v1.getD v3.toNat default) v2).bind fun v4 => cond v4 (some (.inr (.ret v3))) (some (.inl (w64 (v3 + (1 : Int))))) else none) (some (.inr (.go ())))

noncomputable def f63_47 (v1 : List T31) (v2 : T31) : Option Int :=
  (iter (fun s => f63_47_b1 v1 v2 s) (0 : Int)).bind fun y => match y with | .ret v5 => some v5 | .go _ => some (-1 : Int)

theorem f63_47_ok (v1 : List T31) (v2 : T31) {r : Int} (h : f63_47 v1 v2 = some r) : ACall Try.prog 63 [.tv (fzL 2 c31 v1), .fn 47 [.rp [.str v2.f0, fzL 3 c48 v2.f1]]] [] (.tv (.int .i64 r)) [] := by
  refine ACall.of1 (FF 19 0) Try.func63 rfl Try.ntmps63 Try.results63 (Nat.le_of_ble_eq_true rfl) rfl rfl ?_
  refine AWp.seq ?_
  refine AWp.start [0] [] [] [0, 1] 0 ⟨[(0, .tv (fzL 2 c31 v1)), (1, .fn 47 [.rp [.str v2.f0, fzL 3 c48 v2.f1]])], []⟩ rfl ?_ (Nat.zero_le _) trivial ?_
  · kernel_rfl
  refine AOps.nil ?_
  refine AWp.seq ?_
  refine AWp.seq ?_
  refine AWp.start [0, 1, 2] [] [] [0, 1, 7, 8] 0 ⟨[(0, .tv (fzL 2 c31 v1)), (1, .fn 47 [.rp [.str v2.f0, fzL 3 c48 v2.f1]]), (7, .tv (.int .i64 (v1.length : Int))), (8, .tv (.int .i64 (0 : Int)))], []⟩ rfl ?_ (Nat.zero_le _) trivial ?_
  · kernel_rfl
  refine AOps.nil ?_
  refine AWp.block ?_
  obtain ⟨y, hy, h⟩ := of_bind h
  refine AWp.mono (AWp.loop (S := Int) (Y := Out Int Unit) (fun s => ⟨[(0, .tv (fzL 2 c31 v1)), (1, .fn 47 [.rp [.str v2.f0, fzL 3 c48 v2.f1]]), (7, .tv (.int .i64 (v1.length : Int))), (8, .tv (.int .i64 s))], []⟩) (fun s => f63_47_b1 v1 v2 s) (fun y e σ => match y with | .ret r => e = .ret ∧ σ = ⟨[(4, .tv (.int .i64 r))], []⟩ | .go v => e = .exit 0 ∧ σ = ⟨[], []⟩) ?_ hy) ?_
  · rintro v3 o h
    refine AWp.seq ?_
    refine AWp.start [0] [] [] [0, 1, 7, 8, 9] 0 ⟨[(0, .tv (fzL 2 c31 v1)), (1, .fn 47 [.rp [.str v2.f0, fzL 3 c48 v2.f1]]), (7, .tv (.int .i64 (v1.length : Int))), (8, .tv (.int .i64 v3)), (9, .tv (.bool (decide (v3 < (v1.length : Int)))))], []⟩ rfl ?_ (Nat.zero_le _) trivial ?_
    · kernel_rfl
    refine AOps.nil ?_
    refine AWp.seq ?_
    refine AWp.cond rfl (fun hb => ?_) fun hb => ?_
    · replace h := of_true h hb
      refine AWp.keepTo [0, 1, 7, 8] 0 ⟨[(0, .tv (fzL 2 c31 v1)), (1, .fn 47 [.rp [.str v2.f0, fzL 3 c48 v2.f1]]), (7, .tv (.int .i64 (v1.length : Int))), (8, .tv (.int .i64 v3))], []⟩ ?_ (Nat.zero_le _) ?_
      · kernel_rfl
      refine AWp.skip ?_
      refine AWp.seq ?_
      refine AWp.block ?_
      refine AWp.seq ?_
      refine AWp.start [0, 1] [] [] [0, 1, 5, 7, 8] 0 ⟨[(0, .tv (fzL 2 c31 v1)), (1, .fn 47 [.rp [.str v2.f0, fzL 3 c48 v2.f1]]), (5, .tv (.int .i64 v3)), (7, .tv (.int .i64 (v1.length : Int))), (8, .tv (.int .i64 v3))], []⟩ rfl ?_ (Nat.zero_le _) trivial ?_
      · kernel_rfl
      refine AOps.nil ?_
      refine AWp.seq ?_
      obtain ⟨hg, h⟩ := of_guard h
      refine AWp.start [0, 1, 2, 3, 4] [5] [(0 : Int) ≤ v3, v3 < (v1.length : Int)] [0, 1, 5, 7, 8, 11, 15] 0 ⟨[(0, .tv (fzL 2 c31 v1)), (1, .fn 47 [.rp [.str v2.f0, fzL 3 c48 v2.f1]]), (5, .tv (.int .i64 v3)), (7, .tv (.int .i64 (v1.length : Int))), (8, .tv (.int .i64 v3)), (11, .fn 47 [.rp [.str v2.f0, fzL 3 c48 v2.f1]]), (15, .agg [.str ((v1.getD v3.toNat default).f0), fzL 3 c48 ((v1.getD v3.toNat default).f1)])], []⟩ rfl ?_ (Nat.zero_le _) ⟨hg.1, hg.2⟩ ?_
      · kernel_rfl
      obtain ⟨v4, hv4, h⟩ := of_bind h
      refine AOps.cons (AOne.callP (F := (FF 19 0)) _ rfl rfl rfl _ rfl rfl _ _ rfl Try.call47 [.agg [.str ((v1.getD v3.toNat default).f0), fzL 3 c48 ((v1.getD v3.toNat default).f1)], .rp [.str v2.f0, fzL 3 c48 v2.f1]] rfl rfl (f47_ok (v1.getD v3.toNat default) v2 hv4) rfl) ?_
      refine AOps.keepTo [0, 1, 5, 7, 8, 16] 0 ⟨[(0, .tv (fzL 2 c31 v1)), (1, .fn 47 [.rp [.str v2.f0, fzL 3 c48 v2.f1]]), (5, .tv (.int .i64 v3)), (7, .tv (.int .i64 (v1.length : Int))), (8, .tv (.int .i64 v3)), (16, .tv (.bool v4))], []⟩ ?_ (Nat.zero_le _) ?_
      · kernel_rfl
      refine AOps.nil ?_
      refine AWp.cond rfl (fun hb => ?_) fun hb => ?_
      · replace h := of_true h hb
        refine AWp.keepTo [5] 0 ⟨[(5, .tv (.int .i64 v3))], []⟩ ?_ (Nat.zero_le _) ?_
        · kernel_rfl
        refine AWp.seq ?_
        refine AWp.start [0, 1] [] [] [4] 0 ⟨[(4, .tv (.int .i64 v3))], []⟩ rfl ?_ (Nat.zero_le _) trivial ?_
        · kernel_rfl
        refine AOps.nil ?_
        refine AWp.ret ?_
        cases h
        exact Or.inr ⟨_, rfl, by simp, rfl, rfl⟩
      · replace h := of_false h hb
        refine AWp.keepTo [0, 1, 7, 8] 0 ⟨[(0, .tv (fzL 2 c31 v1)), (1, .fn 47 [.rp [.str v2.f0, fzL 3 c48 v2.f1]]), (7, .tv (.int .i64 (v1.length : Int))), (8, .tv (.int .i64 v3))], []⟩ ?_ (Nat.zero_le _) ?_
        · kernel_rfl
        refine AWp.skip ?_
        refine AWp.start [0, 1] [] [] [0, 1, 7, 8] 0 ⟨[(0, .tv (fzL 2 c31 v1)), (1, .fn 47 [.rp [.str v2.f0, fzL 3 c48 v2.f1]]), (7, .tv (.int .i64 (v1.length : Int))), (8, .tv (.int .i64 (w64 (v3 + (1 : Int)))))], []⟩ rfl ?_ (Nat.zero_le _) trivial ?_
        · kernel_rfl
        refine AOps.nil ?_
        cases h
        exact Or.inl ⟨_, rfl, rfl, rfl⟩
    · replace h := of_false h hb
      refine AWp.keepTo [] 0 ⟨[], []⟩ ?_ (Nat.zero_le _) ?_
      · kernel_rfl
      refine AWp.exit ?_
      cases h
      exact Or.inr ⟨_, rfl, by simp, rfl, rfl⟩
  · intro e σ hp
    rcases y with v5 | _
    · obtain ⟨rfl, rfl⟩ := hp
      cases h
      exact ⟨.inr rfl, rfl⟩
    · obtain ⟨rfl, rfl⟩ := hp
      refine AWp.seq ?_
      refine AWp.start [0] [] [] [4] 0 ⟨[(4, .tv (.int .i64 (-1 : Int)))], []⟩ rfl ?_ (Nat.zero_le _) trivial ?_
      · kernel_rfl
      refine AOps.nil ?_
      refine AWp.ret ?_
      cases h
      exact ⟨.inr rfl, rfl⟩

noncomputable def f46_47 (v1 : List T31) (v2 : T31) : Option Bool :=
  (f63_47 v1 v2).bind fun v3 => some (decide (v3 ≥ (0 : Int)))

theorem f46_47_ok (v1 : List T31) (v2 : T31) {r : Bool} (h : f46_47 v1 v2 = some r) : ACall Try.prog 46 [.tv (fzL 2 c31 v1), .fn 47 [.rp [.str v2.f0, fzL 3 c48 v2.f1]]] [] (.tv (.bool r)) [] := by
  refine ACall.of1 (FF 9 0) Try.func46 rfl Try.ntmps46 Try.results46 (Nat.le_of_ble_eq_true rfl) rfl rfl ?_
  refine AWp.seq ?_
  refine AWp.start [0] [] [] [0, 1] 0 ⟨[(0, .tv (fzL 2 c31 v1)), (1, .fn 47 [.rp [.str v2.f0, fzL 3 c48 v2.f1]])], []⟩ rfl ?_ (Nat.zero_le _) trivial ?_
  · kernel_rfl
  refine AOps.nil ?_
  refine AWp.seq ?_
  refine AWp.start [0, 1] [2, 3, 4] [] [5, 6] 0 ⟨[(5, .tv (fzL 2 c31 v1)), (6, .fn 47 [.rp [.str v2.f0, fzL 3 c48 v2.f1]])], []⟩ rfl ?_ (Nat.zero_le _) trivial ?_
  · kernel_rfl
  obtain ⟨v3, hv3, h⟩ := of_bind h
  refine AOps.cons (AOne.callP (F := (FF 9 0)) _ rfl rfl rfl _ rfl rfl _ _ rfl Try.call63 [.tv (fzL 2 c31 v1), .fn 47 [.rp [.str v2.f0, fzL 3 c48 v2.f1]]] rfl rfl (f63_47_ok v1 v2 hv3) rfl) ?_
  refine AOps.go [3, 4] [] [] [4] 0 ⟨[(4, .tv (.bool (decide (v3 ≥ (0 : Int)))))], []⟩ ?_ (Nat.zero_le _) trivial ?_
  · kernel_rfl
  refine AOps.nil ?_
  refine AWp.ret ?_
  cases h
  exact ⟨.inr rfl, rfl⟩

noncomputable def f49 (v1 : List T48) : Option (List T48) :=
  if (([] : List T48).length + v1.length) * 24 ≤ 140737488355328 then some (([] : List T48) ++ v1) else none

theorem f49_ok (v1 : List T48) {r : (List T48)} (h : f49 v1 = some r) : ACall Try.prog 49 [.tv (fzL 3 c48 v1)] [] (.tv (ownL 3 49 c48 r)) [] := by
  refine ACall.of1 (FF 8 0) Try.func49 rfl Try.ntmps49 Try.results49 (Nat.le_of_ble_eq_true rfl) rfl rfl ?_
  refine AWp.seq ?_
  refine AWp.start [0] [] [] [0] 0 ⟨[(0, .tv (fzL 3 c48 v1))], []⟩ rfl ?_ (Nat.zero_le _) trivial ?_
  · kernel_rfl
  refine AOps.nil ?_
  refine AWp.seq ?_
  refine AWp.seq ?_
  refine AWp.start [0] [1] [] [0, 3] 0 ⟨[(0, .tv (fzL 3 c48 v1)), (3, .tv (fzL 3 c48 v1))], []⟩ rfl ?_ (Nat.zero_le _) trivial ?_
  · kernel_rfl
  refine AOps.nilEq (F := (FF 8 0)) _ rfl rfl 4 rfl rfl rfl rfl v1.length rfl fun v2 hnil => ?_
  refine AOps.keepTo [0, 4] 0 ⟨[(0, .tv (fzL 3 c48 v1)), (4, .tv (.bool v2))], []⟩ ?_ (Nat.zero_le _) ?_
  · kernel_rfl
  refine AOps.nil ?_
  refine AWp.cond rfl (fun hb => ?_) fun hb => ?_
  · have hz := List.eq_nil_of_length_eq_zero (hnil hb)
    subst hz
    have h2 : (if (([] : List T48).length + ([] : List T48).length) * 24 ≤ 140737488355328 then some (([] : List T48) ++ ([] : List T48)) else none) = some r := h
    replace h : (some ([] : List T48)) = some r := by simpa using h2
    refine AWp.keepTo [] 0 ⟨[], []⟩ ?_ (Nat.zero_le _) ?_
    · kernel_rfl
    refine AWp.seq ?_
    refine AWp.start [0] [] [] [2] 0 ⟨[(2, .tv (.sc (.slice none 0 0)))], []⟩ rfl ?_ (Nat.zero_le _) trivial ?_
    · kernel_rfl
    refine AOps.nil ?_
    refine AWp.nilOwn 2 3 49 (fun i => c48 (([] : List T48).getD i default)) rfl ?_
    refine AWp.keepTo [2] 0 ⟨[(2, .tv (ownL 3 49 c48 ([] : List T48)))], []⟩ ?_ (Nat.zero_le _) ?_
    · kernel_rfl
    refine AWp.ret ?_
    cases h
    exact ⟨.inr rfl, rfl⟩
  · refine AWp.keepTo [0] 0 ⟨[(0, .tv (fzL 3 c48 v1))], []⟩ ?_ (Nat.zero_le _) ?_
    · kernel_rfl
    refine AWp.skip ?_
    refine AWp.seq ?_
    refine AWp.start [0] [1, 2, 3] [] [0, 5] 0 ⟨[(0, .tv (fzL 3 c48 v1)), (5, .tv (.own 3 49 0 (newRowF [] 3)))], []⟩ rfl ?_ (Nat.zero_le _) trivial ?_
    · kernel_rfl
    refine AOps.extL 5 c48 ([] : List T48) rfl rfl (row_at c48 3 (fun _ => rfl) ([] : List T48) _ rfl) ?_
    obtain ⟨hg, h⟩ := of_guard h
    refine AOps.go [1, 2] [3] [(([] : List T48).length + v1.length) * 24 ≤ 140737488355328, PlainTo (([] : List T48).length) (fun i => c48 (([] : List T48).getD i default)), PlainTo v1.length (fun i => c48 (v1.getD i default))] [7] 0 ⟨[(7, .tv (.own 3 49 (([] : List T48).length + v1.length) (appF (([] : List T48).length) (fun i => c48 (([] : List T48).getD i default)) (fun i => c48 (v1.getD i default)))))], []⟩ ?_ (Nat.zero_le _) ⟨hg, (fun _ _ => rfl), (fun _ _ => rfl)⟩ ?_
    · kernel_rfl
    refine AOps.extL 7 c48 (([] : List T48) ++ v1) rfl (by simp) (app_at c48 ([] : List T48) v1) ?_
    refine AOps.go [3] [] [] [2] 0 ⟨[(2, .tv (ownL 3 49 c48 (([] : List T48) ++ v1)))], []⟩ ?_ (Nat.zero_le _) trivial ?_
    · kernel_rfl
    refine AOps.nil ?_
    refine AWp.ret ?_
    cases h
    exact ⟨.inr rfl, rfl⟩

noncomputable def f26_j1 (v8 : Int) (v10 : List T31) : Option (((List T31) × Int) ⊕ Out ((List T31) × Int) (List T31)) :=
  some (.inl (v10, w64 (v8 + (1 : Int))))

noncomputable def f26_b2 (v6 : (List T31)) (v7 : List T31) (v8 : Int) : Option (((List T31) × Int) ⊕ Out ((List T31) × Int) (List T31)) :=
  cond (decide (v8 < (v6.length : Int))) (if (0 : Int) ≤ v8 ∧ v8 < (v6.length : Int) then (f46_47 v7 (v6.getD v8.toNat default)).bind fun v11 => cond v11 (f26_j1 v8 v7) ((f49 ((v6.getD v8.toNat default).f1)).bind fun v12 => if (v7.length + [T31.mk ((v6.getD v8.toNat default).f0) v12].length) * 40 ≤ 140737488355328 then f26_j1 v8 (v7 ++ [T31.mk ((v6.getD v8.toNat default).f0) v12]) else none) else none) (some (.inr (.go v7)))

noncomputable def f26 (v1 : List T31) (v2 : List T31) : Option ((List T31) × Int) :=
  (f29 v1).bind fun v3 => (cond (!v3) (some true) ((f29 v2).bind fun v4 => some (!v4))).bind fun v5 => cond v5 (some (([] : List T31), (2 : Int))) ((f45 [v1, v2]).bind fun v6 => (iter (fun s => f26_b2 v6 s.1 s.2) ([], (0 : Int))).bind fun y => match y with | .ret v13 => some (v13.1, v13.2) | .go v9 => (f29 v9).bind fun v14 => cond (!v14) (some (([] : List T31), (2 : Int))) ((f31 v9).bind fun v15 => cond v15.2.2 (some (([] : List T31), (8 : Int))) (some (v9, (0 : Int)))))

theorem f26_ok (v1 : List T31) (v2 : List T31) {r : (List T31) × Int} (h : f26 v1 v2 = some r) : ACall Try.prog 26 [.tv (fzL 2 c31 v1), .tv (fzL 2 c31 v2)] [] (.tup [.tv (fzL 2 c31 r.1), .tv (.int .i64 r.2)]) [] := by
  refine ACall.ofN (FF 52 0) (rs := [4, 5]) (env := [(4, .tv (fzL 2 c31 r.1)), (5, .tv (.int .i64 r.2))]) Try.func26 rfl Try.ntmps26 Try.results26 (by decide) (by decide) rfl (Nat.le_of_ble_eq_true rfl) rfl (get_ofN _ _ _ rfl) (ok_ofN _ rfl) ?_
  refine AWp.seq ?_
  refine AWp.start [0, 1] [] [] [0, 1] 0 ⟨[(0, .tv (fzL 2 c31 v1)), (1, .tv (fzL 2 c31 v2))], []⟩ rfl ?_ (Nat.zero_le _) trivial ?_
  · kernel_rfl
  refine AOps.nil ?_
  refine AWp.seq ?_
  refine AWp.seq ?_
  refine AWp.start [0] [1, 2, 3, 4, 5, 6, 7] [] [0, 1, 12] 0 ⟨[(0, .tv (fzL 2 c31 v1)), (1, .tv (fzL 2 c31 v2)), (12, .tv (fzL 2 c31 v1))], []⟩ rfl ?_ (Nat.zero_le _) trivial ?_
  · kernel_rfl
  obtain ⟨v3, hv3, h⟩ := of_bind h
  refine AOps.cons (AOne.callP (F := (FF 52 0)) _ rfl rfl rfl _ rfl rfl _ _ rfl Try.call29 [.tv (fzL 2 c31 v1)] rfl rfl (f29_ok v1 hv3) rfl) ?_
  refine AOps.go [2, 3] [4, 5, 6, 7] [] [0, 1, 15] 0 ⟨[(0, .tv (fzL 2 c31 v1)), (1, .tv (fzL 2 c31 v2)), (15, .tv (.bool (!v3)))], []⟩ ?_ (Nat.zero_le _) trivial ?_
  · kernel_rfl
  obtain ⟨v5, hc4, h⟩ := of_bind h
  refine AOps.cut [4, 5, 6, 7] [] (fun σ => σ = ⟨[(0, .tv (fzL 2 c31 v1)), (1, .tv (fzL 2 c31 v2)), (19, .tv (.bool v5))], []⟩) ?_ fun σ' hJ => ?_
  · refine AOps.split (fun b => ⟨[(0, .tv (fzL 2 c31 v1)), (1, .tv (fzL 2 c31 v2)), (15, .tv (.bool b))], []⟩) _ (fun hb => ?_) fun hb => ?_
    · replace hc4 := of_true hc4 hb
      refine AOps.go [4, 5, 6, 7] [] [] [0, 1, 19] 0 ⟨[(0, .tv (fzL 2 c31 v1)), (1, .tv (fzL 2 c31 v2)), (19, .tv (.bool true))], []⟩ ?_ (Nat.zero_le _) trivial ?_
      · kernel_rfl
      cases hc4
      exact AOps.nil rfl
    · replace hc4 := of_false hc4 hb
      refine AOps.go [4] [5, 6, 7] [] [0, 1, 15, 16] 0 ⟨[(0, .tv (fzL 2 c31 v1)), (1, .tv (fzL 2 c31 v2)), (15, .tv (.bool false)), (16, .tv (fzL 2 c31 v2))], []⟩ ?_ (Nat.zero_le _) trivial ?_
      · kernel_rfl
      obtain ⟨v4, hv4, hc4⟩ := of_bind hc4
      refine AOps.cons (AOne.callP (F := (FF 52 0)) _ rfl rfl rfl _ rfl rfl _ _ rfl Try.call29 [.tv (fzL 2 c31 v2)] rfl rfl (f29_ok v2 hv4) rfl) ?_
      refine AOps.go [6, 7] [] [] [0, 1, 19] 0 ⟨[(0, .tv (fzL 2 c31 v1)), (1, .tv (fzL 2 c31 v2)), (19, .tv (.bool (!v4)))], []⟩ ?_ (Nat.zero_le _) trivial ?_
      · kernel_rfl
      cases hc4
      exact AOps.nil rfl
  subst hJ
  refine AOps.nil ?_
  refine AWp.cond rfl (fun hb => ?_) fun hb => ?_
  · replace h := of_true h hb
    refine AWp.keepTo [] 0 ⟨[], []⟩ ?_ (Nat.zero_le _) ?_
    · kernel_rfl
    refine AWp.seq ?_
    refine AWp.start [0, 1] [] [] [4, 5] 0 ⟨[(4, .tv (.sc (.slice none 0 0))), (5, .tv (.int .i64 (2 : Int)))], []⟩ rfl ?_ (Nat.zero_le _) trivial ?_
    · kernel_rfl
    refine AOps.nil ?_
    refine AWp.nilFz 4 2 (fun i => c31 (([] : List T31).getD i default)) rfl ?_
    refine AWp.keepTo [4, 5] 0 ⟨[(4, .tv (fzL 2 c31 ([] : List T31))), (5, .tv (.int .i64 (2 : Int)))], []⟩ ?_ (Nat.zero_le _) ?_
    · kernel_rfl
    refine AWp.ret ?_
    cases h
    exact ⟨.inr rfl, rfl⟩
  · replace h := of_false h hb
    refine AWp.keepTo [0, 1] 0 ⟨[(0, .tv (fzL 2 c31 v1)), (1, .tv (fzL 2 c31 v2))], []⟩ ?_ (Nat.zero_le _) ?_
    · kernel_rfl
    refine AWp.skip ?_
    refine AWp.seq ?_
    refine AWp.start [0] [] [] [0, 1, 6] 0 ⟨[(0, .tv (fzL 2 c31 v1)), (1, .tv (fzL 2 c31 v2)), (6, .tv (.sc (.slice none 0 0)))], []⟩ rfl ?_ (Nat.zero_le _) trivial ?_
    · kernel_rfl
    refine AOps.nil ?_
    refine AWp.seq ?_
    refine AWp.seq ?_
    refine AWp.start [0, 1, 2] [3, 4, 5] [] [6, 22] 0 ⟨[(6, .tv (.sc (.slice none 0 0))), (22, .tv (.own 1 22 2 (newRowF [fzL 2 c31 v1, fzL 2 c31 v2] 1)))], []⟩ rfl ?_ (Nat.zero_le _) trivial ?_
    · kernel_rfl
    refine AOps.extL 22 (cSl 2 c31) [v1, v2] rfl rfl (row_at (cSl 2 c31) 1 (fun _ => rfl) [v1, v2] _ rfl) ?_
    refine AOps.freezeL 22 (cSl 2 c31) [v1, v2] rfl (fun _ => rfl) ?_
    obtain ⟨v6, hv6, h⟩ := of_bind h
    refine AOps.cons (AOne.callP (F := (FF 52 0)) _ rfl rfl rfl _ rfl rfl _ _ rfl Try.call45 [.tv (fzL 1 (cSl 2 c31) [v1, v2])] rfl rfl (f45_ok [v1, v2] hv6) rfl) ?_
    refine AOps.freezeL 23 c31 v6 rfl (fun _ => rfl) ?_
    refine AOps.go [4, 5] [] [] [6, 23, 24, 25] 0 ⟨[(6, .tv (.sc (.slice none 0 0))), (23, .tv (fzL 2 c31 v6)), (24, .tv (.int .i64 (v6.length : Int))), (25, .tv (.int .i64 (0 : Int)))], []⟩ ?_ (Nat.zero_le _) trivial ?_
    · kernel_rfl
    refine AOps.nil ?_
    refine AWp.block ?_
    refine AWp.nilOwn 6 2 32 (fun i => c31 (([] : List T31).getD i default)) rfl ?_
    refine AWp.keepTo [6, 23, 24, 25] 0 ⟨[(6, .tv (ownL 2 32 c31 ([] : List T31))), (23, .tv (fzL 2 c31 v6)), (24, .tv (.int .i64 (v6.length : Int))), (25, .tv (.int .i64 (0 : Int)))], []⟩ ?_ (Nat.zero_le _) ?_
    · kernel_rfl
    obtain ⟨y, hy, h⟩ := of_bind h
    refine AWp.mono (AWp.loop (S := (List T31) × Int) (Y := Out ((List T31) × Int) (List T31)) (fun s => ⟨[(6, .tv (ownL 2 32 c31 s.1)), (23, .tv (fzL 2 c31 v6)), (24, .tv (.int .i64 (v6.length : Int))), (25, .tv (.int .i64 s.2))], []⟩) (fun s => f26_b2 v6 s.1 s.2) (fun y e σ => match y with | .ret r => e = .ret ∧ σ = ⟨[(4, .tv (fzL 2 c31 r.1)), (5, .tv (.int .i64 r.2))], []⟩ | .go v => e = .exit 0 ∧ σ = ⟨[(6, .tv (ownL 2 32 c31 v))], []⟩) ?_ hy) ?_
    · rintro ⟨v7, v8⟩ o h
      refine AWp.seq ?_
      refine AWp.start [0] [] [] [6, 23, 24, 25, 26] 0 ⟨[(6, .tv (ownL 2 32 c31 v7)), (23, .tv (fzL 2 c31 v6)), (24, .tv (.int .i64 (v6.length : Int))), (25, .tv (.int .i64 v8)), (26, .tv (.bool (decide (v8 < (v6.length : Int)))))], []⟩ rfl ?_ (Nat.zero_le _) trivial ?_
      · kernel_rfl
      refine AOps.nil ?_
      refine AWp.seq ?_
      refine AWp.cond rfl (fun hb => ?_) fun hb => ?_
      · replace h := of_true h hb
        refine AWp.keepTo [6, 23, 24, 25] 0 ⟨[(6, .tv (ownL 2 32 c31 v7)), (23, .tv (fzL 2 c31 v6)), (24, .tv (.int .i64 (v6.length : Int))), (25, .tv (.int .i64 v8))], []⟩ ?_ (Nat.zero_le _) ?_
        · kernel_rfl
        refine AWp.skip ?_
        refine AWp.join (V := (List T31)) (fun w => ⟨[(6, .tv (ownL 2 32 c31 w)), (23, .tv (fzL 2 c31 v6)), (24, .tv (.int .i64 (v6.length : Int))), (25, .tv (.int .i64 v8))], []⟩) (fun w => f26_j1 v8 w = some o) ?_ ?_
        · refine AWp.block ?_
          refine AWp.seq ?_
          obtain ⟨hg, h⟩ := of_guard h
          refine AWp.start [0, 1, 2, 3] [] [(0 : Int) ≤ v8, v8 < (v6.length : Int)] [6, 8, 23, 24, 25] 1 ⟨[(6, .tv (ownL 2 32 c31 v7)), (8, .pc 0 0), (23, .tv (fzL 2 c31 v6)), (24, .tv (.int .i64 (v6.length : Int))), (25, .tv (.int .i64 v8))], [.cells 32 [.str ((v6.getD v8.toNat default).f0), fzL 3 c48 ((v6.getD v8.toNat default).f1)]]⟩ rfl ?_ (Nat.zero_le _) ⟨hg.1, hg.2⟩ ?_
          · kernel_rfl
          refine AOps.nil ?_
          refine AWp.seq ?_
          refine AWp.seq ?_
          refine AWp.start [0, 1] [2] [] [6, 8, 23, 24, 25, 29, 30] 1 ⟨[(6, .tv (ownL 2 32 c31 v7)), (8, .pc 0 0), (23, .tv (fzL 2 c31 v6)), (24, .tv (.int .i64 (v6.length : Int))), (25, .tv (.int .i64 v8)), (29, .al (.slot 6 0, [])), (30, .fn 47 [.pc 0 0])], [.cells 32 [.str ((v6.getD v8.toNat default).f0), fzL 3 c48 ((v6.getD v8.toNat default).f1)]]⟩ rfl ?_ (Nat.zero_le _) trivial ?_
          · kernel_rfl
          obtain ⟨v11, hv11, h⟩ := of_bind h
          refine AOps.cons (AOne.callR (F := (FF 52 0)) _ rfl rfl rfl _ rfl rfl _ _ rfl Try.call46 [PlainTo v7.length (fun i => c31 (v7.getD i default))] [.tv (fzL 2 c31 v7), .fn 47 [.rp [.str ((v6.getD v8.toNat default).f0), fzL 3 c48 ((v6.getD v8.toNat default).f1)]]] rfl (fun _ _ => rfl) (f46_47_ok v7 (v6.getD v8.toNat default) hv11) (ind_of rfl) rfl) ?_
          refine AOps.keepTo [6, 8, 23, 24, 25, 31] 1 ⟨[(6, .tv (ownL 2 32 c31 v7)), (8, .pc 0 0), (23, .tv (fzL 2 c31 v6)), (24, .tv (.int .i64 (v6.length : Int))), (25, .tv (.int .i64 v8)), (31, .tv (.bool v11))], [.cells 32 [.str ((v6.getD v8.toNat default).f0), fzL 3 c48 ((v6.getD v8.toNat default).f1)]]⟩ ?_ (Nat.zero_le _) ?_
          · kernel_rfl
          refine AOps.nil ?_
          refine AWp.cond rfl (fun hb => ?_) fun hb => ?_
          · replace h := of_true h hb
            refine AWp.keepTo [6, 23, 24, 25] 0 ⟨[(6, .tv (ownL 2 32 c31 v7)), (23, .tv (fzL 2 c31 v6)), (24, .tv (.int .i64 (v6.length : Int))), (25, .tv (.int .i64 v8))], []⟩ ?_ (Nat.zero_le _) ?_
            · kernel_rfl
            refine AWp.exit ?_
            exact ⟨v7, h, rfl⟩
          · replace h := of_false h hb
            refine AWp.keepTo [6, 8, 23, 24, 25] 1 ⟨[(6, .tv (ownL 2 32 c31 v7)), (8, .pc 0 0), (23, .tv (fzL 2 c31 v6)), (24, .tv (.int .i64 (v6.length : Int))), (25, .tv (.int .i64 v8))], [.cells 32 [.str ((v6.getD v8.toNat default).f0), fzL 3 c48 ((v6.getD v8.toNat default).f1)]]⟩ ?_ (Nat.zero_le _) ?_
            · kernel_rfl
            refine AWp.skip ?_
            refine AWp.seq ?_
            refine AWp.start [0, 1] [2, 3, 4] [] [6, 8, 23, 24, 25, 33] 1 ⟨[(6, .tv (ownL 2 32 c31 v7)), (8, .pc 0 0), (23, .tv (fzL 2 c31 v6)), (24, .tv (.int .i64 (v6.length : Int))), (25, .tv (.int .i64 v8)), (33, .tv (fzL 3 c48 ((v6.getD v8.toNat default).f1)))], [.cells 32 [.str ((v6.getD v8.toNat default).f0), fzL 3 c48 ((v6.getD v8.toNat default).f1)]]⟩ rfl ?_ (Nat.zero_le _) trivial ?_
            · kernel_rfl
            obtain ⟨v12, hv12, h⟩ := of_bind h
            refine AOps.cons (AOne.callP (F := (FF 52 0)) _ rfl rfl rfl _ rfl rfl _ _ rfl Try.call49 [.tv (fzL 3 c48 ((v6.getD v8.toNat default).f1))] rfl rfl (f49_ok ((v6.getD v8.toNat default).f1) hv12) rfl) ?_
            refine AOps.freezeL 34 c48 v12 rfl (fun _ => rfl) ?_
            refine AOps.go [3, 4] [] [] [6, 8, 23, 24, 25] 1 ⟨[(6, .tv (ownL 2 32 c31 v7)), (8, .pc 0 0), (23, .tv (fzL 2 c31 v6)), (24, .tv (.int .i64 (v6.length : Int))), (25, .tv (.int .i64 v8))], [.cells 32 [.str ((v6.getD v8.toNat default).f0), fzL 3 c48 v12]]⟩ ?_ (Nat.zero_le _) trivial ?_
            · kernel_rfl
            refine AOps.nil ?_
            refine AWp.start [0, 1, 2] [3, 4] [] [6, 23, 24, 25, 36, 38] 0 ⟨[(6, .tv (ownL 2 32 c31 v7)), (23, .tv (fzL 2 c31 v6)), (24, .tv (.int .i64 (v6.length : Int))), (25, .tv (.int .i64 v8)), (36, .al (.slot 6 0, [])), (38, .tv (.own 2 32 1 (newRowF [.str ((v6.getD v8.toNat default).f0), fzL 3 c48 v12] 2)))], []⟩ rfl ?_ (Nat.zero_le _) trivial ?_
            · kernel_rfl
            refine AOps.extL 38 c31 [T31.mk ((v6.getD v8.toNat default).f0) v12] rfl rfl (row_at c31 2 (fun _ => rfl) [T31.mk ((v6.getD v8.toNat default).f0) v12] _ rfl) ?_
            obtain ⟨hg, h⟩ := of_guard h
            refine AOps.go [3] [4] [(v7.length + [T31.mk ((v6.getD v8.toNat default).f0) v12].length) * 40 ≤ 140737488355328, PlainTo v7.length (fun i => c31 (v7.getD i default)), PlainTo ([T31.mk ((v6.getD v8.toNat default).f0) v12].length) (fun i => c31 ([T31.mk ((v6.getD v8.toNat default).f0) v12].getD i default))] [23, 24, 25, 39] 0 ⟨[(23, .tv (fzL 2 c31 v6)), (24, .tv (.int .i64 (v6.length : Int))), (25, .tv (.int .i64 v8)), (39, .tv (.own 2 32 (v7.length + [T31.mk ((v6.getD v8.toNat default).f0) v12].length) (appF v7.length (fun i => c31 (v7.getD i default)) (fun i => c31 ([T31.mk ((v6.getD v8.toNat default).f0) v12].getD i default)))))], []⟩ ?_ (Nat.zero_le _) ⟨hg, (fun _ _ => rfl), (fun _ _ => rfl)⟩ ?_
            · kernel_rfl
            refine AOps.extL 39 c31 (v7 ++ [T31.mk ((v6.getD v8.toNat default).f0) v12]) rfl (by simp) (app_at c31 v7 [T31.mk ((v6.getD v8.toNat default).f0) v12]) ?_
            refine AOps.go [4] [] [] [6, 23, 24, 25] 0 ⟨[(6, .tv (ownL 2 32 c31 (v7 ++ [T31.mk ((v6.getD v8.toNat default).f0) v12]))), (23, .tv (fzL 2 c31 v6)), (24, .tv (.int .i64 (v6.length : Int))), (25, .tv (.int .i64 v8))], []⟩ ?_ (Nat.zero_le _) trivial ?_
            · kernel_rfl
            refine AOps.nil ?_
            exact ⟨v7 ++ [T31.mk ((v6.getD v8.toNat default).f0) v12], h, rfl⟩
        · rintro v10 h
          refine AWp.start [0, 1] [] [] [6, 23, 24, 25] 0 ⟨[(6, .tv (ownL 2 32 c31 v10)), (23, .tv (fzL 2 c31 v6)), (24, .tv (.int .i64 (v6.length : Int))), (25, .tv (.int .i64 (w64 (v8 + (1 : Int)))))], []⟩ rfl ?_ (Nat.zero_le _) trivial ?_
          · kernel_rfl
          refine AOps.nil ?_
          cases h
          exact Or.inl ⟨_, rfl, rfl, rfl⟩
      · replace h := of_false h hb
        refine AWp.keepTo [6] 0 ⟨[(6, .tv (ownL 2 32 c31 v7))], []⟩ ?_ (Nat.zero_le _) ?_
        · kernel_rfl
        refine AWp.exit ?_
        cases h
        exact Or.inr ⟨_, rfl, by simp, rfl, rfl⟩
    · intro e σ hp
      rcases y with v13 | v9
      · obtain ⟨rfl, rfl⟩ := hp
        cases h
        exact ⟨.inr rfl, rfl⟩
      · obtain ⟨rfl, rfl⟩ := hp
        refine AWp.seq ?_
        refine AWp.seq ?_
        refine AWp.start [0] [1, 2] [] [6, 41] 0 ⟨[(6, .tv (ownL 2 32 c31 v9)), (41, .al (.slot 6 0, []))], []⟩ rfl ?_ (Nat.zero_le _) trivial ?_
        · kernel_rfl
        obtain ⟨v14, hv14, h⟩ := of_bind h
        refine AOps.cons (AOne.callR (F := (FF 52 0)) _ rfl rfl rfl _ rfl rfl _ _ rfl Try.call29 [PlainTo v9.length (fun i => c31 (v9.getD i default))] [.tv (fzL 2 c31 v9)] rfl (fun _ _ => rfl) (f29_ok v9 hv14) (ind_of rfl) rfl) ?_
        refine AOps.go [2] [] [] [6, 43] 0 ⟨[(6, .tv (ownL 2 32 c31 v9)), (43, .tv (.bool (!v14)))], []⟩ ?_ (Nat.zero_le _) trivial ?_
        · kernel_rfl
        refine AOps.nil ?_
        refine AWp.cond rfl (fun hb => ?_) fun hb => ?_
        · replace h := of_true h hb
          refine AWp.keepTo [] 0 ⟨[], []⟩ ?_ (Nat.zero_le _) ?_
          · kernel_rfl
          refine AWp.seq ?_
          refine AWp.start [0, 1] [] [] [4, 5] 0 ⟨[(4, .tv (.sc (.slice none 0 0))), (5, .tv (.int .i64 (2 : Int)))], []⟩ rfl ?_ (Nat.zero_le _) trivial ?_
          · kernel_rfl
          refine AOps.nil ?_
          refine AWp.nilFz 4 2 (fun i => c31 (([] : List T31).getD i default)) rfl ?_
          refine AWp.keepTo [4, 5] 0 ⟨[(4, .tv (fzL 2 c31 ([] : List T31))), (5, .tv (.int .i64 (2 : Int)))], []⟩ ?_ (Nat.zero_le _) ?_
          · kernel_rfl
          refine AWp.ret ?_
          cases h
          exact ⟨.inr rfl, rfl⟩
        · replace h := of_false h hb
          refine AWp.keepTo [6] 0 ⟨[(6, .tv (ownL 2 32 c31 v9))], []⟩ ?_ (Nat.zero_le _) ?_
          · kernel_rfl
          refine AWp.skip ?_
          refine AWp.seq ?_
          refine AWp.seq ?_
          refine AWp.start [0] [1, 2, 3, 4, 5, 6, 7, 8] [] [6, 45] 0 ⟨[(6, .tv (ownL 2 32 c31 v9)), (45, .al (.slot 6 0, []))], []⟩ rfl ?_ (Nat.zero_le _) trivial ?_
          · kernel_rfl
          obtain ⟨v15, hv15, h⟩ := of_bind h
          refine AOps.cons (AOne.callR (F := (FF 52 0)) _ rfl rfl rfl _ rfl rfl _ _ rfl Try.call31 [PlainTo v9.length (fun i => c31 (v9.getD i default))] [.tv (fzL 2 c31 v9)] rfl (fun _ _ => rfl) (f31_ok v9 hv15) (ind_of rfl) rfl) ?_
          refine AOps.go [2, 3, 4, 5, 6, 7, 8] [] [] [6, 11] 0 ⟨[(6, .tv (ownL 2 32 c31 v9)), (11, .tv (.bool v15.2.2))], []⟩ ?_ (Nat.zero_le _) trivial ?_
          · kernel_rfl
          refine AOps.nil ?_
          refine AWp.seq ?_
          refine AWp.start [0] [] [] [6, 50] 0 ⟨[(6, .tv (ownL 2 32 c31 v9)), (50, .tv (.bool v15.2.2))], []⟩ rfl ?_ (Nat.zero_le _) trivial ?_
          · kernel_rfl
          refine AOps.nil ?_
          refine AWp.cond rfl (fun hb => ?_) fun hb => ?_
          · replace h := of_true h hb
            refine AWp.keepTo [] 0 ⟨[], []⟩ ?_ (Nat.zero_le _) ?_
            · kernel_rfl
            refine AWp.seq ?_
            refine AWp.start [0, 1] [] [] [4, 5] 0 ⟨[(4, .tv (.sc (.slice none 0 0))), (5, .tv (.int .i64 (8 : Int)))], []⟩ rfl ?_ (Nat.zero_le _) trivial ?_
            · kernel_rfl
            refine AOps.nil ?_
            refine AWp.nilFz 4 2 (fun i => c31 (([] : List T31).getD i default)) rfl ?_
            refine AWp.keepTo [4, 5] 0 ⟨[(4, .tv (fzL 2 c31 ([] : List T31))), (5, .tv (.int .i64 (8 : Int)))], []⟩ ?_ (Nat.zero_le _) ?_
            · kernel_rfl
            refine AWp.ret ?_
            cases h
            exact ⟨.inr rfl, rfl⟩
          · replace h := of_false h hb
            refine AWp.keepTo [6] 0 ⟨[(6, .tv (ownL 2 32 c31 v9))], []⟩ ?_ (Nat.zero_le _) ?_
            · kernel_rfl
            refine AWp.skip ?_
            refine AWp.seq ?_
            refine AWp.freezeL 6 c31 v9 rfl (fun _ => rfl) ?_
            refine AWp.start [0, 1, 2] [] [] [4, 5] 0 ⟨[(4, .tv (fzL 2 c31 v9)), (5, .tv (.int .i64 (0 : Int)))], []⟩ rfl ?_ (Nat.zero_le _) trivial ?_
            · kernel_rfl
            refine AOps.nil ?_
            refine AWp.ret ?_
            cases h
            exact ⟨.inr rfl, rfl⟩

noncomputable def f50_b1 (v1 : T31) (v2 : T31) (v4 : Int) : Option (Int ⊕ Out Bool Unit) :=
  cond (decide (v4 < (v1.f1.length : Int))) (if (0 : Int) ≤ v4 ∧ v4 < (v1.f1.length : Int) ∧ (0 : Int) ≤ v4 ∧ v4 < (v2.f1.length : Int) then cond (!((((v1.f1.getD v4.toNat default).f0) == ((v2.f1.getD v4.toNat default).f0)) && ((((v1.f1.getD v4.toNat default).f1) == ((v2.f1.getD v4.toNat default).f1)) && (((v1.f1.getD v4.toNat default).f2) == ((v2.f1.getD v4.toNat default).f2))))) (some (.inr (.ret false))) (some (.inl (w64 (v4 + (1 : Int))))) else none) (some (.inr (.go ())))

noncomputable def f50 (v1 : T31) (v2 : T31) : Option Bool :=
  (cond (!(v1.f0 == v2.f0)) (some true) (some ((v1.f1.length : Int) != (v2.f1.length : Int)))).bind fun v3 => cond v3 (some false) ((iter (fun s => f50_b1 v1 v2 s) (0 : Int)).bind fun y => match y with | .ret v5 => some v5 | .go _ => some true)

theorem f50_ok (v1 : T31) (v2 : T31) {r : Bool} (h : f50 v1 v2 = some r) : ACall Try.prog 50 [.agg [.str v1.f0, fzL 3 c48 v1.f1], .agg [.str v2.f0, fzL 3 c48 v2.f1]] [] (.tv (.bool r)) [] := by
  refine ACall.of1 (FF 38 0) Try.func50 rfl Try.ntmps50 Try.results50 (Nat.le_of_ble_eq_true rfl) rfl rfl ?_
  refine AWp.seq ?_
  refine AWp.start [0, 1, 2] [] [] [2, 3] 2 ⟨[(2, .pc 0 0), (3, .pc 1 0)], [.cells 32 [.str v1.f0, fzL 3 c48 v1.f1], .cells 32 [.str v2.f0, fzL 3 c48 v2.f1]]⟩ rfl ?_ (Nat.zero_le _) trivial ?_
  · kernel_rfl
  refine AOps.nil ?_
  refine AWp.seq ?_
  refine AWp.seq ?_
  refine AWp.pin 0 rfl rfl ?_
  refine AWp.pin 1 rfl rfl ?_
  refine AWp.keepTo [2, 3] 0 ⟨[(2, .rp [.str v1.f0, fzL 3 c48 v1.f1]), (3, .rp [.str v2.f0, fzL 3 c48 v2.f1])], []⟩ ?_ (Nat.zero_le _) ?_
  · kernel_rfl
  refine AWp.start [0, 1, 2, 3, 4, 5] [6, 7, 8, 9, 10, 11, 12, 13] [] [2, 3, 11] 0 ⟨[(2, .rp [.str v1.f0, fzL 3 c48 v1.f1]), (3, .rp [.str v2.f0, fzL 3 c48 v2.f1]), (11, .tv (.bool (!(v1.f0 == v2.f0))))], []⟩ rfl ?_ (Nat.zero_le _) trivial ?_
  · kernel_rfl
  obtain ⟨v3, hc6, h⟩ := of_bind h
  refine AOps.cut [6, 7, 8, 9, 10, 11, 12, 13] [] (fun σ => σ = ⟨[(2, .rp [.str v1.f0, fzL 3 c48 v1.f1]), (3, .rp [.str v2.f0, fzL 3 c48 v2.f1]), (19, .tv (.bool v3))], []⟩) ?_ fun σ' hJ => ?_
  · refine AOps.split (fun b => ⟨[(2, .rp [.str v1.f0, fzL 3 c48 v1.f1]), (3, .rp [.str v2.f0, fzL 3 c48 v2.f1]), (11, .tv (.bool b))], []⟩) _ (fun hb => ?_) fun hb => ?_
    · replace hc6 := of_true hc6 hb
      refine AOps.go [6, 7, 8, 9, 10, 11, 12, 13] [] [] [2, 3, 19] 0 ⟨[(2, .rp [.str v1.f0, fzL 3 c48 v1.f1]), (3, .rp [.str v2.f0, fzL 3 c48 v2.f1]), (19, .tv (.bool true))], []⟩ ?_ (Nat.zero_le _) trivial ?_
      · kernel_rfl
      cases hc6
      exact AOps.nil rfl
    · replace hc6 := of_false hc6 hb
      refine AOps.go [6, 7, 8, 9, 10, 11, 12, 13] [] [] [2, 3, 19] 0 ⟨[(2, .rp [.str v1.f0, fzL 3 c48 v1.f1]), (3, .rp [.str v2.f0, fzL 3 c48 v2.f1]), (19, .tv (.bool ((v1.f1.length : Int) != (v2.f1.length : Int))))], []⟩ ?_ (Nat.zero_le _) trivial ?_
      · kernel_rfl
      cases hc6
      exact AOps.nil rfl
  subst hJ
  refine AOps.nil ?_
  refine AWp.cond rfl (fun hb => ?_) fun hb => ?_
  · replace h := of_true h hb
    refine AWp.keepTo [] 0 ⟨[], []⟩ ?_ (Nat.zero_le _) ?_
    · kernel_rfl
    refine AWp.seq ?_
    refine AWp.start [0] [] [] [4] 0 ⟨[(4, .tv (.bool false))], []⟩ rfl ?_ (Nat.zero_le _) trivial ?_
    · kernel_rfl
    refine AOps.nil ?_
    refine AWp.ret ?_
    cases h
    exact ⟨.inr rfl, rfl⟩
  · replace h := of_false h hb
    refine AWp.keepTo [2, 3] 0 ⟨[(2, .rp [.str v1.f0, fzL 3 c48 v1.f1]), (3, .rp [.str v2.f0, fzL 3 c48 v2.f1])], []⟩ ?_ (Nat.zero_le _) ?_
    · kernel_rfl
    refine AWp.skip ?_
    refine AWp.seq ?_
    refine AWp.seq ?_
    refine AWp.start [0] [] [] [2, 3, 5] 0 ⟨[(2, .rp [.str v1.f0, fzL 3 c48 v1.f1]), (3, .rp [.str v2.f0, fzL 3 c48 v2.f1]), (5, .tv (.int .i64 (0 : Int)))], []⟩ rfl ?_ (Nat.zero_le _) trivial ?_
    · kernel_rfl
    refine AOps.nil ?_
    refine AWp.block ?_
    obtain ⟨y, hy, h⟩ := of_bind h
    refine AWp.mono (AWp.loop (S := Int) (Y := Out Bool Unit) (fun s => ⟨[(2, .rp [.str v1.f0, fzL 3 c48 v1.f1]), (3, .rp [.str v2.f0, fzL 3 c48 v2.f1]), (5, .tv (.int .i64 s))], []⟩) (fun s => f50_b1 v1 v2 s) (fun y e σ => match y with | .ret r => e = .ret ∧ σ = ⟨[(4, .tv (.bool r))], []⟩ | .go v => e = .exit 0 ∧ σ = ⟨[], []⟩) ?_ hy) ?_
    · rintro v4 o h
      refine AWp.seq ?_
      refine AWp.seq ?_
      refine AWp.start [0, 1, 2, 3, 4] [] [] [2, 3, 5, 24] 0 ⟨[(2, .rp [.str v1.f0, fzL 3 c48 v1.f1]), (3, .rp [.str v2.f0, fzL 3 c48 v2.f1]), (5, .tv (.int .i64 v4)), (24, .tv (.bool (decide (v4 < (v1.f1.length : Int)))))], []⟩ rfl ?_ (Nat.zero_le _) trivial ?_
      · kernel_rfl
      refine AOps.nil ?_
      refine AWp.cond rfl (fun hb => ?_) fun hb => ?_
      · replace h := of_true h hb
        refine AWp.keepTo [2, 3, 5] 0 ⟨[(2, .rp [.str v1.f0, fzL 3 c48 v1.f1]), (3, .rp [.str v2.f0, fzL 3 c48 v2.f1]), (5, .tv (.int .i64 v4))], []⟩ ?_ (Nat.zero_le _) ?_
        · kernel_rfl
        refine AWp.skip ?_
        refine AWp.seq ?_
        refine AWp.block ?_
        refine AWp.seq ?_
        refine AWp.draw FFm _ (n := 11) rfl (ls := #[false, false, false, false, false, false, false, false, false, false, false]) rfl ?_ (fun _ h => h)
        obtain ⟨hg, h⟩ := of_guard h
        refine AAny.go (by kernel_rfl) [0, 1, 2, 3, 4, 5, 6, 7, 8, 9, 10] (fuel' := 0) rfl [(0 : Int) ≤ v4, v4 < (v1.f1.length : Int), (0 : Int) ≤ v4, v4 < (v2.f1.length : Int)] #[true, true, true, true, true, true, true, true, true, true, true] [2, 3, 5, 37] 0 ⟨[(2, .rp [.str v1.f0, fzL 3 c48 v1.f1]), (3, .rp [.str v2.f0, fzL 3 c48 v2.f1]), (5, .tv (.int .i64 v4)), (37, .tv (.bool (!((((v1.f1.getD v4.toNat default).f0) == ((v2.f1.getD v4.toNat default).f0)) && ((((v1.f1.getD v4.toNat default).f1) == ((v2.f1.getD v4.toNat default).f1)) && (((v1.f1.getD v4.toNat default).f2) == ((v2.f1.getD v4.toNat default).f2)))))))], []⟩ ?_ (Nat.zero_le _) ⟨hg.1, hg.2.1, hg.2.2.1, hg.2.2.2⟩ ?_
        · kernel_rfl
        refine AAny.keepTo [2, 3, 5, 37] 0 ⟨[(2, .rp [.str v1.f0, fzL 3 c48 v1.f1]), (3, .rp [.str v2.f0, fzL 3 c48 v2.f1]), (5, .tv (.int .i64 v4)), (37, .tv (.bool (!((((v1.f1.getD v4.toNat default).f0) == ((v2.f1.getD v4.toNat default).f0)) && ((((v1.f1.getD v4.toNat default).f1) == ((v2.f1.getD v4.toNat default).f1)) && (((v1.f1.getD v4.toNat default).f2) == ((v2.f1.getD v4.toNat default).f2)))))))], []⟩ _ ?_ rfl (Nat.zero_le _) (AAny.done (by kernel_rfl) ?_)
        · kernel_rfl
        refine AWp.cond rfl (fun hb => ?_) fun hb => ?_
        · replace h := of_true h hb
          refine AWp.keepTo [] 0 ⟨[], []⟩ ?_ (Nat.zero_le _) ?_
          · kernel_rfl
          refine AWp.seq ?_
          refine AWp.start [0] [] [] [4] 0 ⟨[(4, .tv (.bool false))], []⟩ rfl ?_ (Nat.zero_le _) trivial ?_
          · kernel_rfl
          refine AOps.nil ?_
          refine AWp.ret ?_
          cases h
          exact Or.inr ⟨_, rfl, by simp, rfl, rfl⟩
        · replace h := of_false h hb
          refine AWp.keepTo [2, 3, 5] 0 ⟨[(2, .rp [.str v1.f0, fzL 3 c48 v1.f1]), (3, .rp [.str v2.f0, fzL 3 c48 v2.f1]), (5, .tv (.int .i64 v4))], []⟩ ?_ (Nat.zero_le _) ?_
          · kernel_rfl
          refine AWp.skip ?_
          refine AWp.start [0, 1, 2] [] [] [2, 3, 5] 0 ⟨[(2, .rp [.str v1.f0, fzL 3 c48 v1.f1]), (3, .rp [.str v2.f0, fzL 3 c48 v2.f1]), (5, .tv (.int .i64 (w64 (v4 + (1 : Int)))))], []⟩ rfl ?_ (Nat.zero_le _) trivial ?_
          · kernel_rfl
          refine AOps.nil ?_
          cases h
          exact Or.inl ⟨_, rfl, rfl, rfl⟩
      · replace h := of_false h hb
        refine AWp.keepTo [] 0 ⟨[], []⟩ ?_ (Nat.zero_le _) ?_
        · kernel_rfl
        refine AWp.exit ?_
        cases h
        exact Or.inr ⟨_, rfl, by simp, rfl, rfl⟩
    · intro e σ hp
      rcases y with v5 | _
      · obtain ⟨rfl, rfl⟩ := hp
        cases h
        exact ⟨.inr rfl, rfl⟩
      · obtain ⟨rfl, rfl⟩ := hp
        refine AWp.seq ?_
        refine AWp.start [0] [] [] [4] 0 ⟨[(4, .tv (.bool true))], []⟩ rfl ?_ (Nat.zero_le _) trivial ?_
        · kernel_rfl
        refine AOps.nil ?_
        refine AWp.ret ?_
        cases h
        exact ⟨.inr rfl, rfl⟩

noncomputable def f27_j1 (v7 : Int) (v9 : List T31) : Option (((List T31) × Int) ⊕ Out ((List T31) × Int) (List T31)) :=
  some (.inl (v9, w64 (v7 + (1 : Int))))

noncomputable def f27_b2 (v1 : List T31) (v2 : List T31) (v7 : Int) (v10 : Bool) (v11 : Int) : Option ((Bool × Int) ⊕ Out ((List T31) × Int) Bool) :=
  cond (decide (v11 < (v1.length : Int))) ((cond v10 (some true) (if (0 : Int) ≤ v11 ∧ v11 < (v1.length : Int) ∧ (0 : Int) ≤ v7 ∧ v7 < (v2.length : Int) then (f50 (v1.getD v11.toNat default) (v2.getD v7.toNat default)).bind fun v14 => some v14 else none)).bind fun v13 => some (.inl (v13, w64 (v11 + (1 : Int))))) (some (.inr (.go v10)))

noncomputable def f27_b3 (v1 : List T31) (v2 : List T31) (v6 : List T31) (v7 : Int) : Option (((List T31) × Int) ⊕ Out ((List T31) × Int) (List T31)) :=
  cond (decide (v7 < (v2.length : Int))) ((iter (fun s => f27_b2 v1 v2 v7 s.1 s.2) (false, (0 : Int))).bind fun y => match y with | .ret v15 => some (.inr (.ret (v15.1, v15.2))) | .go v12 => cond (!v12) (if (0 : Int) ≤ v7 ∧ v7 < (v2.length : Int) then if (v6.length + [v2.getD v7.toNat default].length) * 40 ≤ 140737488355328 then f27_j1 v7 (v6 ++ [v2.getD v7.toNat default]) else none else none) (f27_j1 v7 v6)) (some (.inr (.go v6)))

noncomputable def f27 (v1 : List T31) (v2 : List T31) : Option ((List T31) × Int) :=
  (f34 v1).bind fun v3 => (cond (!v3) (some true) ((f34 v2).bind fun v4 => some (!v4))).bind fun v5 => cond v5 (some (([] : List T31), (2 : Int))) (if (([] : List T31).length + v1.length) * 40 ≤ 140737488355328 then (iter (fun s => f27_b3 v1 v2 s.1 s.2) (([] : List T31) ++ v1, (0 : Int))).bind fun y => match y with | .ret v16 => some (v16.1, v16.2) | .go v8 => (f34 v8).bind fun v17 => cond (!v17) (some (([] : List T31), (2 : Int))) ((f36 v8).bind fun v18 => cond v18.2.2 (some (([] : List T31), (8 : Int))) (some (v8, (0 : Int)))) else none)

theorem f27_ok (v1 : List T31) (v2 : List T31) {r : (List T31) × Int} (h : f27 v1 v2 = some r) : ACall Try.prog 27 [.tv (fzL 2 c31 v1), .tv (fzL 2 c31 v2)] [] (.tup [.tv (fzL 2 c31 r.1), .tv (.int .i64 r.2)]) [] := by
  refine ACall.ofN (FF 68 0) (rs := [4, 5]) (env := [(4, .tv (fzL 2 c31 r.1)), (5, .tv (.int .i64 r.2))]) Try.func27 rfl Try.ntmps27 Try.results27 (by decide) (by decide) rfl (Nat.le_of_ble_eq_true rfl) rfl (get_ofN _ _ _ rfl) (ok_ofN _ rfl) ?_
  refine AWp.seq ?_
  refine AWp.start [0, 1] [] [] [0, 1] 0 ⟨[(0, .tv (fzL 2 c31 v1)), (1, .tv (fzL 2 c31 v2))], []⟩ rfl ?_ (Nat.zero_le _) trivial ?_
  · kernel_rfl
  refine AOps.nil ?_
  refine AWp.seq ?_
  refine AWp.seq ?_
  refine AWp.start [0] [1, 2, 3, 4, 5, 6, 7] [] [0, 1, 13] 0 ⟨[(0, .tv (fzL 2 c31 v1)), (1, .tv (fzL 2 c31 v2)), (13, .tv (fzL 2 c31 v1))], []⟩ rfl ?_ (Nat.zero_le _) trivial ?_
  · kernel_rfl
  obtain ⟨v3, hv3, h⟩ := of_bind h
  refine AOps.cons (AOne.callP (F := (FF 68 0)) _ rfl rfl rfl _ rfl rfl _ _ rfl Try.call34 [.tv (fzL 2 c31 v1)] rfl rfl (f34_ok v1 hv3) rfl) ?_
  refine AOps.go [2, 3] [4, 5, 6, 7] [] [0, 1, 16] 0 ⟨[(0, .tv (fzL 2 c31 v1)), (1, .tv (fzL 2 c31 v2)), (16, .tv (.bool (!v3)))], []⟩ ?_ (Nat.zero_le _) trivial ?_
  · kernel_rfl
  obtain ⟨v5, hc4, h⟩ := of_bind h
  refine AOps.cut [4, 5, 6, 7] [] (fun σ => σ = ⟨[(0, .tv (fzL 2 c31 v1)), (1, .tv (fzL 2 c31 v2)), (20, .tv (.bool v5))], []⟩) ?_ fun σ' hJ => ?_
  · refine AOps.split (fun b => ⟨[(0, .tv (fzL 2 c31 v1)), (1, .tv (fzL 2 c31 v2)), (16, .tv (.bool b))], []⟩) _ (fun hb => ?_) fun hb => ?_
    · replace hc4 := of_true hc4 hb
      refine AOps.go [4, 5, 6, 7] [] [] [0, 1, 20] 0 ⟨[(0, .tv (fzL 2 c31 v1)), (1, .tv (fzL 2 c31 v2)), (20, .tv (.bool true))], []⟩ ?_ (Nat.zero_le _) trivial ?_
      · kernel_rfl
      cases hc4
      exact AOps.nil rfl
    · replace hc4 := of_false hc4 hb
      refine AOps.go [4] [5, 6, 7] [] [0, 1, 16, 17] 0 ⟨[(0, .tv (fzL 2 c31 v1)), (1, .tv (fzL 2 c31 v2)), (16, .tv (.bool false)), (17, .tv (fzL 2 c31 v2))], []⟩ ?_ (Nat.zero_le _) trivial ?_
      · kernel_rfl
      obtain ⟨v4, hv4, hc4⟩ := of_bind hc4
      refine AOps.cons (AOne.callP (F := (FF 68 0)) _ rfl rfl rfl _ rfl rfl _ _ rfl Try.call34 [.tv (fzL 2 c31 v2)] rfl rfl (f34_ok v2 hv4) rfl) ?_
      refine AOps.go [6, 7] [] [] [0, 1, 20] 0 ⟨[(0, .tv (fzL 2 c31 v1)), (1, .tv (fzL 2 c31 v2)), (20, .tv (.bool (!v4)))], []⟩ ?_ (Nat.zero_le _) trivial ?_
      · kernel_rfl
      cases hc4
      exact AOps.nil rfl
  subst hJ
  refine AOps.nil ?_
  refine AWp.cond rfl (fun hb => ?_) fun hb => ?_
  · replace h := of_true h hb
    refine AWp.keepTo [] 0 ⟨[], []⟩ ?_ (Nat.zero_le _) ?_
    · kernel_rfl
    refine AWp.seq ?_
    refine AWp.start [0, 1] [] [] [4, 5] 0 ⟨[(4, .tv (.sc (.slice none 0 0))), (5, .tv (.int .i64 (2 : Int)))], []⟩ rfl ?_ (Nat.zero_le _) trivial ?_
    · kernel_rfl
    refine AOps.nil ?_
    refine AWp.nilFz 4 2 (fun i => c31 (([] : List T31).getD i default)) rfl ?_
    refine AWp.keepTo [4, 5] 0 ⟨[(4, .tv (fzL 2 c31 ([] : List T31))), (5, .tv (.int .i64 (2 : Int)))], []⟩ ?_ (Nat.zero_le _) ?_
    · kernel_rfl
    refine AWp.ret ?_
    cases h
    exact ⟨.inr rfl, rfl⟩
  · replace h := of_false h hb
    refine AWp.keepTo [0, 1] 0 ⟨[(0, .tv (fzL 2 c31 v1)), (1, .tv (fzL 2 c31 v2))], []⟩ ?_ (Nat.zero_le _) ?_
    · kernel_rfl
    refine AWp.skip ?_
    refine AWp.seq ?_
    refine AWp.start [0] [1, 2, 3] [] [0, 1, 21] 0 ⟨[(0, .tv (fzL 2 c31 v1)), (1, .tv (fzL 2 c31 v2)), (21, .tv (.own 2 32 0 (newRowF [] 2)))], []⟩ rfl ?_ (Nat.zero_le _) trivial ?_
    · kernel_rfl
    refine AOps.extL 21 c31 ([] : List T31) rfl rfl (row_at c31 2 (fun _ => rfl) ([] : List T31) _ rfl) ?_
    obtain ⟨hg, h⟩ := of_guard h
    refine AOps.go [1, 2] [3] [(([] : List T31).length + v1.length) * 40 ≤ 140737488355328, PlainTo (([] : List T31).length) (fun i => c31 (([] : List T31).getD i default)), PlainTo v1.length (fun i => c31 (v1.getD i default))] [0, 1, 23] 0 ⟨[(0, .tv (fzL 2 c31 v1)), (1, .tv (fzL 2 c31 v2)), (23, .tv (.own 2 32 (([] : List T31).length + v1.length) (appF (([] : List T31).length) (fun i => c31 (([] : List T31).getD i default)) (fun i => c31 (v1.getD i default)))))], []⟩ ?_ (Nat.zero_le _) ⟨hg, (fun _ _ => rfl), (fun _ _ => rfl)⟩ ?_
    · kernel_rfl
    refine AOps.extL 23 c31 (([] : List T31) ++ v1) rfl (by simp) (app_at c31 ([] : List T31) v1) ?_
    refine AOps.go [3] [] [] [0, 1, 6] 0 ⟨[(0, .tv (fzL 2 c31 v1)), (1, .tv (fzL 2 c31 v2)), (6, .tv (ownL 2 32 c31 (([] : List T31) ++ v1)))], []⟩ ?_ (Nat.zero_le _) trivial ?_
    · kernel_rfl
    refine AOps.nil ?_
    refine AWp.seq ?_
    refine AWp.seq ?_
    refine AWp.start [0] [] [] [0, 1, 6, 7] 0 ⟨[(0, .tv (fzL 2 c31 v1)), (1, .tv (fzL 2 c31 v2)), (6, .tv (ownL 2 32 c31 (([] : List T31) ++ v1))), (7, .tv (.int .i64 (0 : Int)))], []⟩ rfl ?_ (Nat.zero_le _) trivial ?_
    · kernel_rfl
    refine AOps.nil ?_
    refine AWp.block ?_
    obtain ⟨y, hy, h⟩ := of_bind h
    refine AWp.mono (AWp.loop (S := (List T31) × Int) (Y := Out ((List T31) × Int) (List T31)) (fun s => ⟨[(0, .tv (fzL 2 c31 v1)), (1, .tv (fzL 2 c31 v2)), (6, .tv (ownL 2 32 c31 s.1)), (7, .tv (.int .i64 s.2))], []⟩) (fun s => f27_b3 v1 v2 s.1 s.2) (fun y e σ => match y with | .ret r => e = .ret ∧ σ = ⟨[(4, .tv (fzL 2 c31 r.1)), (5, .tv (.int .i64 r.2))], []⟩ | .go v => e = .exit 0 ∧ σ = ⟨[(6, .tv (ownL 2 32 c31 v))], []⟩) ?_ hy) ?_
    · rintro ⟨v6, v7⟩ o h
      refine AWp.seq ?_
      refine AWp.seq ?_
      refine AWp.start [0, 1, 2, 3] [] [] [0, 1, 6, 7, 27] 0 ⟨[(0, .tv (fzL 2 c31 v1)), (1, .tv (fzL 2 c31 v2)), (6, .tv (ownL 2 32 c31 v6)), (7, .tv (.int .i64 v7)), (27, .tv (.bool (decide (v7 < (v2.length : Int)))))], []⟩ rfl ?_ (Nat.zero_le _) trivial ?_
      · kernel_rfl
      refine AOps.nil ?_
      refine AWp.cond rfl (fun hb => ?_) fun hb => ?_
      · replace h := of_true h hb
        refine AWp.keepTo [0, 1, 6, 7] 0 ⟨[(0, .tv (fzL 2 c31 v1)), (1, .tv (fzL 2 c31 v2)), (6, .tv (ownL 2 32 c31 v6)), (7, .tv (.int .i64 v7))], []⟩ ?_ (Nat.zero_le _) ?_
        · kernel_rfl
        refine AWp.skip ?_
        refine AWp.join (V := (List T31)) (fun w => ⟨[(0, .tv (fzL 2 c31 v1)), (1, .tv (fzL 2 c31 v2)), (6, .tv (ownL 2 32 c31 w)), (7, .tv (.int .i64 v7))], []⟩) (fun w => f27_j1 v7 w = some o) ?_ ?_
        · refine AWp.block ?_
          refine AWp.seq ?_
          refine AWp.start [0] [] [] [0, 1, 6, 7, 8] 0 ⟨[(0, .tv (fzL 2 c31 v1)), (1, .tv (fzL 2 c31 v2)), (6, .tv (ownL 2 32 c31 v6)), (7, .tv (.int .i64 v7)), (8, .tv (.bool false))], []⟩ rfl ?_ (Nat.zero_le _) trivial ?_
          · kernel_rfl
          refine AOps.nil ?_
          refine AWp.seq ?_
          refine AWp.seq ?_
          refine AWp.start [0] [] [] [0, 1, 6, 7, 8, 9] 0 ⟨[(0, .tv (fzL 2 c31 v1)), (1, .tv (fzL 2 c31 v2)), (6, .tv (ownL 2 32 c31 v6)), (7, .tv (.int .i64 v7)), (8, .tv (.bool false)), (9, .tv (.int .i64 (0 : Int)))], []⟩ rfl ?_ (Nat.zero_le _) trivial ?_
          · kernel_rfl
          refine AOps.nil ?_
          refine AWp.block ?_
          obtain ⟨y, hy, h⟩ := of_bind h
          refine AWp.mono (AWp.loop (S := Bool × Int) (Y := Out ((List T31) × Int) Bool) (fun s => ⟨[(0, .tv (fzL 2 c31 v1)), (1, .tv (fzL 2 c31 v2)), (6, .tv (ownL 2 32 c31 v6)), (7, .tv (.int .i64 v7)), (8, .tv (.bool s.1)), (9, .tv (.int .i64 s.2))], []⟩) (fun s => f27_b2 v1 v2 v7 s.1 s.2) (fun y e σ => match y with | .ret r => e = .ret ∧ σ = ⟨[(4, .tv (fzL 2 c31 r.1)), (5, .tv (.int .i64 r.2))], []⟩ | .go v => e = .exit 2 ∧ σ = ⟨[(0, .tv (fzL 2 c31 v1)), (1, .tv (fzL 2 c31 v2)), (6, .tv (ownL 2 32 c31 v6)), (7, .tv (.int .i64 v7)), (8, .tv (.bool v))], []⟩) ?_ hy) ?_
          · rintro ⟨v10, v11⟩ o h
            refine AWp.seq ?_
            refine AWp.seq ?_
            refine AWp.start [0, 1, 2, 3] [] [] [0, 1, 6, 7, 8, 9, 33] 0 ⟨[(0, .tv (fzL 2 c31 v1)), (1, .tv (fzL 2 c31 v2)), (6, .tv (ownL 2 32 c31 v6)), (7, .tv (.int .i64 v7)), (8, .tv (.bool v10)), (9, .tv (.int .i64 v11)), (33, .tv (.bool (decide (v11 < (v1.length : Int)))))], []⟩ rfl ?_ (Nat.zero_le _) trivial ?_
            · kernel_rfl
            refine AOps.nil ?_
            refine AWp.cond rfl (fun hb => ?_) fun hb => ?_
            · replace h := of_true h hb
              refine AWp.keepTo [0, 1, 6, 7, 8, 9] 0 ⟨[(0, .tv (fzL 2 c31 v1)), (1, .tv (fzL 2 c31 v2)), (6, .tv (ownL 2 32 c31 v6)), (7, .tv (.int .i64 v7)), (8, .tv (.bool v10)), (9, .tv (.int .i64 v11))], []⟩ ?_ (Nat.zero_le _) ?_
              · kernel_rfl
              refine AWp.skip ?_
              refine AWp.seq ?_
              refine AWp.block ?_
              obtain ⟨v13, hd, h⟩ := of_bind h
              refine AWp.draw FFm (fun σ => σ = ⟨[(0, .tv (fzL 2 c31 v1)), (1, .tv (fzL 2 c31 v2)), (6, .tv (ownL 2 32 c31 v6)), (7, .tv (.int .i64 v7)), (8, .tv (.bool v13)), (9, .tv (.int .i64 v11))], []⟩) (n := 13) rfl (ls := #[false, false, false, false, false, false, false, false, false, false, false, false, false]) rfl ?_ ?_
              · refine AAny.go (by kernel_rfl) [0, 1] (fuel' := 11) rfl [] #[true, true, false, false, false, false, false, false, false, false, false, false, false] [0, 1, 6, 7, 8, 9, 37] 0 ⟨[(0, .tv (fzL 2 c31 v1)), (1, .tv (fzL 2 c31 v2)), (6, .tv (ownL 2 32 c31 v6)), (7, .tv (.int .i64 v7)), (8, .tv (.bool v10)), (9, .tv (.int .i64 v11)), (37, .tv (.bool v10))], []⟩ ?_ (Nat.zero_le _) trivial ?_
                · kernel_rfl
                refine AAny.split (fun b => ⟨[(0, .tv (fzL 2 c31 v1)), (1, .tv (fzL 2 c31 v2)), (6, .tv (ownL 2 32 c31 v6)), (7, .tv (.int .i64 v7)), (8, .tv (.bool v10)), (9, .tv (.int .i64 v11)), (37, .tv (.bool b))], []⟩) _ (fun hb => ?_) fun hb => ?_
                · replace hd := of_true hd hb
                  refine AAny.go (by kernel_rfl) [2, 3, 4, 5, 6, 7, 8, 9, 10, 11, 12] (fuel' := 0) rfl [] #[true, true, true, true, true, true, true, true, true, true, true, true, true] [0, 1, 6, 7, 8, 9] 0 ⟨[(0, .tv (fzL 2 c31 v1)), (1, .tv (fzL 2 c31 v2)), (6, .tv (ownL 2 32 c31 v6)), (7, .tv (.int .i64 v7)), (8, .tv (.bool true)), (9, .tv (.int .i64 v11))], []⟩ ?_ (Nat.zero_le _) trivial ?_
                  · kernel_rfl
                  refine AAny.keepTo [0, 1, 6, 7, 8, 9] 0 ⟨[(0, .tv (fzL 2 c31 v1)), (1, .tv (fzL 2 c31 v2)), (6, .tv (ownL 2 32 c31 v6)), (7, .tv (.int .i64 v7)), (8, .tv (.bool true)), (9, .tv (.int .i64 v11))], []⟩ _ ?_ rfl (Nat.zero_le _) (AAny.done (by kernel_rfl) ?_)
                  · kernel_rfl
                  cases hd
                  exact rfl
                · replace hd := of_false hd hb
                  obtain ⟨hg, hd⟩ := of_guard hd
                  refine AAny.go (by kernel_rfl) [2, 3, 4, 5, 6, 7, 8, 9] (fuel' := 3) rfl [(0 : Int) ≤ v11, v11 < (v1.length : Int), (0 : Int) ≤ v7, v7 < (v2.length : Int)] #[true, true, true, true, true, true, true, true, true, true, false, false, false] [0, 1, 6, 7, 8, 9, 37, 41, 45] 0 ⟨[(0, .tv (fzL 2 c31 v1)), (1, .tv (fzL 2 c31 v2)), (6, .tv (ownL 2 32 c31 v6)), (7, .tv (.int .i64 v7)), (8, .tv (.bool v10)), (9, .tv (.int .i64 v11)), (37, .tv (.bool false)), (41, .agg [.str ((v1.getD v11.toNat default).f0), fzL 3 c48 ((v1.getD v11.toNat default).f1)]), (45, .agg [.str ((v2.getD v7.toNat default).f0), fzL 3 c48 ((v2.getD v7.toNat default).f1)])], []⟩ ?_ (Nat.zero_le _) ⟨hg.1, hg.2.1, hg.2.2.1, hg.2.2.2⟩ ?_
                  · kernel_rfl
                  obtain ⟨v14, hv14, hd⟩ := of_bind hd
                  refine AAny.serial (i := 10) (fuel := 2) (by kernel_rfl) (AOne.callP (F := (FF 68 0)) _ rfl rfl rfl _ rfl rfl _ _ rfl Try.call50 [.agg [.str ((v1.getD v11.toNat default).f0), fzL 3 c48 ((v1.getD v11.toNat default).f1)], .agg [.str ((v2.getD v7.toNat default).f0), fzL 3 c48 ((v2.getD v7.toNat default).f1)]] rfl rfl (f50_ok (v1.getD v11.toNat default) (v2.getD v7.toNat default) hv14) rfl) ?_
                  refine AAny.keepTo [0, 1, 6, 7, 8, 9, 37, 46] 0 ⟨[(0, .tv (fzL 2 c31 v1)), (1, .tv (fzL 2 c31 v2)), (6, .tv (ownL 2 32 c31 v6)), (7, .tv (.int .i64 v7)), (8, .tv (.bool v10)), (9, .tv (.int .i64 v11)), (37, .tv (.bool false)), (46, .tv (.bool v14))], []⟩ #[true, true, true, true, true, true, true, true, true, true, true, false, false] ?_ rfl (Nat.zero_le _) ?_
                  · kernel_rfl
                  refine AAny.go (by kernel_rfl) [11, 12] (fuel' := 0) rfl [] #[true, true, true, true, true, true, true, true, true, true, true, true, true] [0, 1, 6, 7, 8, 9] 0 ⟨[(0, .tv (fzL 2 c31 v1)), (1, .tv (fzL 2 c31 v2)), (6, .tv (ownL 2 32 c31 v6)), (7, .tv (.int .i64 v7)), (8, .tv (.bool v14)), (9, .tv (.int .i64 v11))], []⟩ ?_ (Nat.zero_le _) trivial ?_
                  · kernel_rfl
                  refine AAny.keepTo [0, 1, 6, 7, 8, 9] 0 ⟨[(0, .tv (fzL 2 c31 v1)), (1, .tv (fzL 2 c31 v2)), (6, .tv (ownL 2 32 c31 v6)), (7, .tv (.int .i64 v7)), (8, .tv (.bool v14)), (9, .tv (.int .i64 v11))], []⟩ _ ?_ rfl (Nat.zero_le _) (AAny.done (by kernel_rfl) ?_)
                  · kernel_rfl
                  cases hd
                  exact rfl
              rintro σ' rfl
              refine AWp.start [0, 1, 2] [] [] [0, 1, 6, 7, 8, 9] 0 ⟨[(0, .tv (fzL 2 c31 v1)), (1, .tv (fzL 2 c31 v2)), (6, .tv (ownL 2 32 c31 v6)), (7, .tv (.int .i64 v7)), (8, .tv (.bool v13)), (9, .tv (.int .i64 (w64 (v11 + (1 : Int)))))], []⟩ rfl ?_ (Nat.zero_le _) trivial ?_
              · kernel_rfl
              refine AOps.nil ?_
              cases h
              exact Or.inl ⟨_, rfl, rfl, rfl⟩
            · replace h := of_false h hb
              refine AWp.keepTo [0, 1, 6, 7, 8] 0 ⟨[(0, .tv (fzL 2 c31 v1)), (1, .tv (fzL 2 c31 v2)), (6, .tv (ownL 2 32 c31 v6)), (7, .tv (.int .i64 v7)), (8, .tv (.bool v10))], []⟩ ?_ (Nat.zero_le _) ?_
              · kernel_rfl
              refine AWp.exit ?_
              cases h
              exact Or.inr ⟨_, rfl, by simp, rfl, rfl⟩
          · intro e σ hp
            rcases y with v15 | v12
            · obtain ⟨rfl, rfl⟩ := hp
              cases h
              exact Or.inr ⟨_, rfl, by simp, rfl, rfl⟩
            · obtain ⟨rfl, rfl⟩ := hp
              refine AWp.seq ?_
              refine AWp.start [0, 1] [] [] [0, 1, 6, 7, 49] 0 ⟨[(0, .tv (fzL 2 c31 v1)), (1, .tv (fzL 2 c31 v2)), (6, .tv (ownL 2 32 c31 v6)), (7, .tv (.int .i64 v7)), (49, .tv (.bool (!v12)))], []⟩ rfl ?_ (Nat.zero_le _) trivial ?_
              · kernel_rfl
              refine AOps.nil ?_
              refine AWp.cond rfl (fun hb => ?_) fun hb => ?_
              · replace h := of_true h hb
                refine AWp.keepTo [0, 1, 6, 7] 0 ⟨[(0, .tv (fzL 2 c31 v1)), (1, .tv (fzL 2 c31 v2)), (6, .tv (ownL 2 32 c31 v6)), (7, .tv (.int .i64 v7))], []⟩ ?_ (Nat.zero_le _) ?_
                · kernel_rfl
                obtain ⟨hg, h⟩ := of_guard h
                refine AWp.start [0, 1, 2, 3, 4, 5] [6, 7] [(0 : Int) ≤ v7, v7 < (v2.length : Int)] [0, 1, 6, 7, 50, 55] 0 ⟨[(0, .tv (fzL 2 c31 v1)), (1, .tv (fzL 2 c31 v2)), (6, .tv (ownL 2 32 c31 v6)), (7, .tv (.int .i64 v7)), (50, .al (.slot 6 0, [])), (55, .tv (.own 2 32 1 (newRowF [.str ((v2.getD v7.toNat default).f0), fzL 3 c48 ((v2.getD v7.toNat default).f1)] 2)))], []⟩ rfl ?_ (Nat.zero_le _) ⟨hg.1, hg.2⟩ ?_
                · kernel_rfl
                refine AOps.extL 55 c31 [v2.getD v7.toNat default] rfl rfl (row_at c31 2 (fun _ => rfl) [v2.getD v7.toNat default] _ rfl) ?_
                obtain ⟨hg, h⟩ := of_guard h
                refine AOps.go [6] [7] [(v6.length + [v2.getD v7.toNat default].length) * 40 ≤ 140737488355328, PlainTo v6.length (fun i => c31 (v6.getD i default)), PlainTo ([v2.getD v7.toNat default].length) (fun i => c31 ([v2.getD v7.toNat default].getD i default))] [0, 1, 7, 56] 0 ⟨[(0, .tv (fzL 2 c31 v1)), (1, .tv (fzL 2 c31 v2)), (7, .tv (.int .i64 v7)), (56, .tv (.own 2 32 (v6.length + [v2.getD v7.toNat default].length) (appF v6.length (fun i => c31 (v6.getD i default)) (fun i => c31 ([v2.getD v7.toNat default].getD i default)))))], []⟩ ?_ (Nat.zero_le _) ⟨hg, (fun _ _ => rfl), (fun _ _ => rfl)⟩ ?_
                · kernel_rfl
                refine AOps.extL 56 c31 (v6 ++ [v2.getD v7.toNat default]) rfl (by simp) (app_at c31 v6 [v2.getD v7.toNat default]) ?_
                refine AOps.go [7] [] [] [0, 1, 6, 7] 0 ⟨[(0, .tv (fzL 2 c31 v1)), (1, .tv (fzL 2 c31 v2)), (6, .tv (ownL 2 32 c31 (v6 ++ [v2.getD v7.toNat default]))), (7, .tv (.int .i64 v7))], []⟩ ?_ (Nat.zero_le _) trivial ?_
                · kernel_rfl
                refine AOps.nil ?_
                exact ⟨v6 ++ [v2.getD v7.toNat default], h, rfl⟩
              · replace h := of_false h hb
                refine AWp.keepTo [0, 1, 6, 7] 0 ⟨[(0, .tv (fzL 2 c31 v1)), (1, .tv (fzL 2 c31 v2)), (6, .tv (ownL 2 32 c31 v6)), (7, .tv (.int .i64 v7))], []⟩ ?_ (Nat.zero_le _) ?_
                · kernel_rfl
                refine AWp.skip ?_
                exact ⟨v6, h, rfl⟩
        · rintro v9 h
          refine AWp.start [0, 1, 2] [] [] [0, 1, 6, 7] 0 ⟨[(0, .tv (fzL 2 c31 v1)), (1, .tv (fzL 2 c31 v2)), (6, .tv (ownL 2 32 c31 v9)), (7, .tv (.int .i64 (w64 (v7 + (1 : Int)))))], []⟩ rfl ?_ (Nat.zero_le _) trivial ?_
          · kernel_rfl
          refine AOps.nil ?_
          cases h
          exact Or.inl ⟨_, rfl, rfl, rfl⟩
      · replace h := of_false h hb
        refine AWp.keepTo [6] 0 ⟨[(6, .tv (ownL 2 32 c31 v6))], []⟩ ?_ (Nat.zero_le _) ?_
        · kernel_rfl
        refine AWp.exit ?_
        cases h
        exact Or.inr ⟨_, rfl, by simp, rfl, rfl⟩
    · intro e σ hp
      rcases y with v16 | v8
      · obtain ⟨rfl, rfl⟩ := hp
        cases h
        exact ⟨.inr rfl, rfl⟩
      · obtain ⟨rfl, rfl⟩ := hp
        refine AWp.seq ?_
        refine AWp.seq ?_
        refine AWp.start [0] [1, 2] [] [6, 57] 0 ⟨[(6, .tv (ownL 2 32 c31 v8)), (57, .al (.slot 6 0, []))], []⟩ rfl ?_ (Nat.zero_le _) trivial ?_
        · kernel_rfl
        obtain ⟨v17, hv17, h⟩ := of_bind h
        refine AOps.cons (AOne.callR (F := (FF 68 0)) _ rfl rfl rfl _ rfl rfl _ _ rfl Try.call34 [PlainTo v8.length (fun i => c31 (v8.getD i default))] [.tv (fzL 2 c31 v8)] rfl (fun _ _ => rfl) (f34_ok v8 hv17) (ind_of rfl) rfl) ?_
        refine AOps.go [2] [] [] [6, 59] 0 ⟨[(6, .tv (ownL 2 32 c31 v8)), (59, .tv (.bool (!v17)))], []⟩ ?_ (Nat.zero_le _) trivial ?_
        · kernel_rfl
        refine AOps.nil ?_
        refine AWp.cond rfl (fun hb => ?_) fun hb => ?_
        · replace h := of_true h hb
          refine AWp.keepTo [] 0 ⟨[], []⟩ ?_ (Nat.zero_le _) ?_
          · kernel_rfl
          refine AWp.seq ?_
          refine AWp.start [0, 1] [] [] [4, 5] 0 ⟨[(4, .tv (.sc (.slice none 0 0))), (5, .tv (.int .i64 (2 : Int)))], []⟩ rfl ?_ (Nat.zero_le _) trivial ?_
          · kernel_rfl
          refine AOps.nil ?_
          refine AWp.nilFz 4 2 (fun i => c31 (([] : List T31).getD i default)) rfl ?_
          refine AWp.keepTo [4, 5] 0 ⟨[(4, .tv (fzL 2 c31 ([] : List T31))), (5, .tv (.int .i64 (2 : Int)))], []⟩ ?_ (Nat.zero_le _) ?_
          · kernel_rfl
          refine AWp.ret ?_
          cases h
          exact ⟨.inr rfl, rfl⟩
        · replace h := of_false h hb
          refine AWp.keepTo [6] 0 ⟨[(6, .tv (ownL 2 32 c31 v8))], []⟩ ?_ (Nat.zero_le _) ?_
          · kernel_rfl
          refine AWp.skip ?_
          refine AWp.seq ?_
          refine AWp.seq ?_
          refine AWp.start [0] [1, 2, 3, 4, 5, 6, 7, 8] [] [6, 61] 0 ⟨[(6, .tv (ownL 2 32 c31 v8)), (61, .al (.slot 6 0, []))], []⟩ rfl ?_ (Nat.zero_le _) trivial ?_
          · kernel_rfl
          obtain ⟨v18, hv18, h⟩ := of_bind h
          refine AOps.cons (AOne.callR (F := (FF 68 0)) _ rfl rfl rfl _ rfl rfl _ _ rfl Try.call36 [PlainTo v8.length (fun i => c31 (v8.getD i default))] [.tv (fzL 2 c31 v8)] rfl (fun _ _ => rfl) (f36_ok v8 hv18) (ind_of rfl) rfl) ?_
          refine AOps.go [2, 3, 4, 5, 6, 7, 8] [] [] [6, 12] 0 ⟨[(6, .tv (ownL 2 32 c31 v8)), (12, .tv (.bool v18.2.2))], []⟩ ?_ (Nat.zero_le _) trivial ?_
          · kernel_rfl
          refine AOps.nil ?_
          refine AWp.seq ?_
          refine AWp.start [0] [] [] [6, 66] 0 ⟨[(6, .tv (ownL 2 32 c31 v8)), (66, .tv (.bool v18.2.2))], []⟩ rfl ?_ (Nat.zero_le _) trivial ?_
          · kernel_rfl
          refine AOps.nil ?_
          refine AWp.cond rfl (fun hb => ?_) fun hb => ?_
          · replace h := of_true h hb
            refine AWp.keepTo [] 0 ⟨[], []⟩ ?_ (Nat.zero_le _) ?_
            · kernel_rfl
            refine AWp.seq ?_
            refine AWp.start [0, 1] [] [] [4, 5] 0 ⟨[(4, .tv (.sc (.slice none 0 0))), (5, .tv (.int .i64 (8 : Int)))], []⟩ rfl ?_ (Nat.zero_le _) trivial ?_
            · kernel_rfl
            refine AOps.nil ?_
            refine AWp.nilFz 4 2 (fun i => c31 (([] : List T31).getD i default)) rfl ?_
            refine AWp.keepTo [4, 5] 0 ⟨[(4, .tv (fzL 2 c31 ([] : List T31))), (5, .tv (.int .i64 (8 : Int)))], []⟩ ?_ (Nat.zero_le _) ?_
            · kernel_rfl
            refine AWp.ret ?_
            cases h
            exact ⟨.inr rfl, rfl⟩
          · replace h := of_false h hb
            refine AWp.keepTo [6] 0 ⟨[(6, .tv (ownL 2 32 c31 v8))], []⟩ ?_ (Nat.zero_le _) ?_
            · kernel_rfl
            refine AWp.skip ?_
            refine AWp.seq ?_
            refine AWp.freezeL 6 c31 v8 rfl (fun _ => rfl) ?_
            refine AWp.start [0, 1, 2] [] [] [4, 5] 0 ⟨[(4, .tv (fzL 2 c31 v8)), (5, .tv (.int .i64 (0 : Int)))], []⟩ rfl ?_ (Nat.zero_le _) trivial ?_
            · kernel_rfl
            refine AOps.nil ?_
            refine AWp.ret ?_
            cases h
            exact ⟨.inr rfl, rfl⟩

noncomputable def f28_b1 (v1 : List T31) (v2 : List T31) (v3 : Int) : Option (Int ⊕ Out Bool Unit) :=
  cond (decide (v3 < (v1.length : Int))) (if (0 : Int) ≤ v3 ∧ v3 < (v1.length : Int) ∧ (0 : Int) ≤ v3 ∧ v3 < (v2.length : Int) then (f50 (v1.getD v3.toNat default) (v2.getD v3.toNat default)).bind fun v4 => cond (!v4) (some (.inr (.ret false))) (some (.inl (w64 (v3 + (1 : Int))))) else none) (some (.inr (.go ())))

noncomputable def f28 (v1 : List T31) (v2 : List T31) : Option Bool :=
  cond ((v1.length : Int) != (v2.length : Int)) (some false) ((iter (fun s => f28_b1 v1 v2 s) (0 : Int)).bind fun y => match y with | .ret v5 => some v5 | .go _ => some true)

theorem f28_ok (v1 : List T31) (v2 : List T31) {r : Bool} (h : f28 v1 v2 = some r) : ACall Try.prog 28 [.tv (fzL 2 c31 v1), .tv (fzL 2 c31 v2)] [] (.tv (.bool r)) [] := by
  refine ACall.of1 (FF 27 0) Try.func28 rfl Try.ntmps28 Try.results28 (Nat.le_of_ble_eq_true rfl) rfl rfl ?_
  refine AWp.seq ?_
  refine AWp.start [0] [] [] [0, 1] 0 ⟨[(0, .tv (fzL 2 c31 v1)), (1, .tv (fzL 2 c31 v2))], []⟩ rfl ?_ (Nat.zero_le _) trivial ?_
  · kernel_rfl
  refine AOps.nil ?_
  refine AWp.seq ?_
  refine AWp.seq ?_
  refine AWp.start [0, 1, 2, 3, 4] [] [] [0, 1, 10] 0 ⟨[(0, .tv (fzL 2 c31 v1)), (1, .tv (fzL 2 c31 v2)), (10, .tv (.bool ((v1.length : Int) != (v2.length : Int))))], []⟩ rfl ?_ (Nat.zero_le _) trivial ?_
  · kernel_rfl
  refine AOps.nil ?_
  refine AWp.cond rfl (fun hb => ?_) fun hb => ?_
  · replace h := of_true h hb
    refine AWp.keepTo [] 0 ⟨[], []⟩ ?_ (Nat.zero_le _) ?_
    · kernel_rfl
    refine AWp.seq ?_
    refine AWp.start [0] [] [] [4] 0 ⟨[(4, .tv (.bool false))], []⟩ rfl ?_ (Nat.zero_le _) trivial ?_
    · kernel_rfl
    refine AOps.nil ?_
    refine AWp.ret ?_
    cases h
    exact ⟨.inr rfl, rfl⟩
  · replace h := of_false h hb
    refine AWp.keepTo [0, 1] 0 ⟨[(0, .tv (fzL 2 c31 v1)), (1, .tv (fzL 2 c31 v2))], []⟩ ?_ (Nat.zero_le _) ?_
    · kernel_rfl
    refine AWp.skip ?_
    refine AWp.seq ?_
    refine AWp.seq ?_
    refine AWp.start [0] [] [] [0, 1, 5] 0 ⟨[(0, .tv (fzL 2 c31 v1)), (1, .tv (fzL 2 c31 v2)), (5, .tv (.int .i64 (0 : Int)))], []⟩ rfl ?_ (Nat.zero_le _) trivial ?_
    · kernel_rfl
    refine AOps.nil ?_
    refine AWp.block ?_
    obtain ⟨y, hy, h⟩ := of_bind h
    refine AWp.mono (AWp.loop (S := Int) (Y := Out Bool Unit) (fun s => ⟨[(0, .tv (fzL 2 c31 v1)), (1, .tv (fzL 2 c31 v2)), (5, .tv (.int .i64 s))], []⟩) (fun s => f28_b1 v1 v2 s) (fun y e σ => match y with | .ret r => e = .ret ∧ σ = ⟨[(4, .tv (.bool r))], []⟩ | .go v => e = .exit 0 ∧ σ = ⟨[], []⟩) ?_ hy) ?_
    · rintro v3 o h
      refine AWp.seq ?_
      refine AWp.seq ?_
      refine AWp.start [0, 1, 2, 3] [] [] [0, 1, 5, 14] 0 ⟨[(0, .tv (fzL 2 c31 v1)), (1, .tv (fzL 2 c31 v2)), (5, .tv (.int .i64 v3)), (14, .tv (.bool (decide (v3 < (v1.length : Int)))))], []⟩ rfl ?_ (Nat.zero_le _) trivial ?_
      · kernel_rfl
      refine AOps.nil ?_
      refine AWp.cond rfl (fun hb => ?_) fun hb => ?_
      · replace h := of_true h hb
        refine AWp.keepTo [0, 1, 5] 0 ⟨[(0, .tv (fzL 2 c31 v1)), (1, .tv (fzL 2 c31 v2)), (5, .tv (.int .i64 v3))], []⟩ ?_ (Nat.zero_le _) ?_
        · kernel_rfl
        refine AWp.skip ?_
        refine AWp.seq ?_
        refine AWp.block ?_
        refine AWp.seq ?_
        refine AWp.draw FFm _ (n := 10) rfl (ls := #[false, false, false, false, false, false, false, false, false, false]) rfl ?_ (fun _ h => h)
        obtain ⟨hg, h⟩ := of_guard h
        refine AAny.go (by kernel_rfl) [0, 1, 2, 3, 4, 5, 6, 7] (fuel' := 2) rfl [(0 : Int) ≤ v3, v3 < (v1.length : Int), (0 : Int) ≤ v3, v3 < (v2.length : Int)] #[true, true, true, true, true, true, true, true, false, false] [0, 1, 5, 20, 24] 0 ⟨[(0, .tv (fzL 2 c31 v1)), (1, .tv (fzL 2 c31 v2)), (5, .tv (.int .i64 v3)), (20, .agg [.str ((v1.getD v3.toNat default).f0), fzL 3 c48 ((v1.getD v3.toNat default).f1)]), (24, .agg [.str ((v2.getD v3.toNat default).f0), fzL 3 c48 ((v2.getD v3.toNat default).f1)])], []⟩ ?_ (Nat.zero_le _) ⟨hg.1, hg.2.1, hg.2.2.1, hg.2.2.2⟩ ?_
        · kernel_rfl
        obtain ⟨v4, hv4, h⟩ := of_bind h
        refine AAny.serial (i := 8) (fuel := 1) (by kernel_rfl) (AOne.callP (F := (FF 27 0)) _ rfl rfl rfl _ rfl rfl _ _ rfl Try.call50 [.agg [.str ((v1.getD v3.toNat default).f0), fzL 3 c48 ((v1.getD v3.toNat default).f1)], .agg [.str ((v2.getD v3.toNat default).f0), fzL 3 c48 ((v2.getD v3.toNat default).f1)]] rfl rfl (f50_ok (v1.getD v3.toNat default) (v2.getD v3.toNat default) hv4) rfl) ?_
        refine AAny.keepTo [0, 1, 5, 25] 0 ⟨[(0, .tv (fzL 2 c31 v1)), (1, .tv (fzL 2 c31 v2)), (5, .tv (.int .i64 v3)), (25, .tv (.bool v4))], []⟩ #[true, true, true, true, true, true, true, true, true, false] ?_ rfl (Nat.zero_le _) ?_
        · kernel_rfl
        refine AAny.go (by kernel_rfl) [9] (fuel' := 0) rfl [] #[true, true, true, true, true, true, true, true, true, true] [0, 1, 5, 26] 0 ⟨[(0, .tv (fzL 2 c31 v1)), (1, .tv (fzL 2 c31 v2)), (5, .tv (.int .i64 v3)), (26, .tv (.bool (!v4)))], []⟩ ?_ (Nat.zero_le _) trivial ?_
        · kernel_rfl
        refine AAny.keepTo [0, 1, 5, 26] 0 ⟨[(0, .tv (fzL 2 c31 v1)), (1, .tv (fzL 2 c31 v2)), (5, .tv (.int .i64 v3)), (26, .tv (.bool (!v4)))], []⟩ _ ?_ rfl (Nat.zero_le _) (AAny.done (by kernel_rfl) ?_)
        · kernel_rfl
        refine AWp.cond rfl (fun hb => ?_) fun hb => ?_
        · replace h := of_true h hb
          refine AWp.keepTo [] 0 ⟨[], []⟩ ?_ (Nat.zero_le _) ?_
          · kernel_rfl
          refine AWp.seq ?_
          refine AWp.start [0] [] [] [4] 0 ⟨[(4, .tv (.bool false))], []⟩ rfl ?_ (Nat.zero_le _) trivial ?_
          · kernel_rfl
          refine AOps.nil ?_
          refine AWp.ret ?_
          cases h
          exact Or.inr ⟨_, rfl, by simp, rfl, rfl⟩
        · replace h := of_false h hb
          refine AWp.keepTo [0, 1, 5] 0 ⟨[(0, .tv (fzL 2 c31 v1)), (1, .tv (fzL 2 c31 v2)), (5, .tv (.int .i64 v3))], []⟩ ?_ (Nat.zero_le _) ?_
          · kernel_rfl
          refine AWp.skip ?_
          refine AWp.start [0, 1, 2] [] [] [0, 1, 5] 0 ⟨[(0, .tv (fzL 2 c31 v1)), (1, .tv (fzL 2 c31 v2)), (5, .tv (.int .i64 (w64 (v3 + (1 : Int)))))], []⟩ rfl ?_ (Nat.zero_le _) trivial ?_
          · kernel_rfl
          refine AOps.nil ?_
          cases h
          exact Or.inl ⟨_, rfl, rfl, rfl⟩
      · replace h := of_false h hb
        refine AWp.keepTo [] 0 ⟨[], []⟩ ?_ (Nat.zero_le _) ?_
        · kernel_rfl
        refine AWp.exit ?_
        cases h
        exact Or.inr ⟨_, rfl, by simp, rfl, rfl⟩
    · intro e σ hp
      rcases y with v5 | _
      · obtain ⟨rfl, rfl⟩ := hp
        cases h
        exact ⟨.inr rfl, rfl⟩
      · obtain ⟨rfl, rfl⟩ := hp
        refine AWp.seq ?_
        refine AWp.start [0] [] [] [4] 0 ⟨[(4, .tv (.bool true))], []⟩ rfl ?_ (Nat.zero_le _) trivial ?_
        · kernel_rfl
        refine AOps.nil ?_
        refine AWp.ret ?_
        cases h
        exact ⟨.inr rfl, rfl⟩

noncomputable def f9 (v1 : List T31) (v2 : List T31) : Option Bool :=
  (f10 v1).bind fun v3 => (cond v3 (some true) ((f10 v2).bind fun v4 => some v4)).bind fun v5 => cond v5 ((f11 ).bind fun v6 => some v6) ((f26 v1 v2).bind fun v7 => (f27 v1 v2).bind fun v8 => (f28 v7.1 v8.1).bind fun v9 => (cond v9 (some (v7.2 == v8.2)) (some false)).bind fun v10 => (cond v10 ((f11 ).bind fun v11 => some v11) (some false)).bind fun v12 => some v12)

theorem f9_ok (v1 : List T31) (v2 : List T31) {r : Bool} (h : f9 v1 v2 = some r) : ACall Try.prog 9 [.tv (fzL 2 c31 v1), .tv (fzL 2 c31 v2)] [] (.tv (.bool r)) [] := by
  refine ACall.of1 (FF 39 0) Try.func9 rfl Try.ntmps9 Try.results9 (Nat.le_of_ble_eq_true rfl) rfl rfl ?_
  refine AWp.seq ?_
  refine AWp.start [0] [] [] [0, 1] 0 ⟨[(0, .tv (fzL 2 c31 v1)), (1, .tv (fzL 2 c31 v2))], []⟩ rfl ?_ (Nat.zero_le _) trivial ?_
  · kernel_rfl
  refine AOps.nil ?_
  refine AWp.seq ?_
  refine AWp.seq ?_
  refine AWp.start [0] [1, 2, 3, 4, 5] [] [0, 1, 9] 0 ⟨[(0, .tv (fzL 2 c31 v1)), (1, .tv (fzL 2 c31 v2)), (9, .tv (fzL 2 c31 v1))], []⟩ rfl ?_ (Nat.zero_le _) trivial ?_
  · kernel_rfl
  obtain ⟨v3, hv3, h⟩ := of_bind h
  refine AOps.cons (AOne.callP (F := (FF 39 0)) _ rfl rfl rfl _ rfl rfl _ _ rfl Try.call10 [.tv (fzL 2 c31 v1)] rfl rfl (f10_ok v1 hv3) rfl) ?_
  refine AOps.go [2] [3, 4, 5] [] [0, 1, 11] 0 ⟨[(0, .tv (fzL 2 c31 v1)), (1, .tv (fzL 2 c31 v2)), (11, .tv (.bool v3))], []⟩ ?_ (Nat.zero_le _) trivial ?_
  · kernel_rfl
  obtain ⟨v5, hc3, h⟩ := of_bind h
  refine AOps.cut [3, 4, 5] [] (fun σ => σ = ⟨[(0, .tv (fzL 2 c31 v1)), (1, .tv (fzL 2 c31 v2)), (14, .tv (.bool v5))], []⟩) ?_ fun σ' hJ => ?_
  · refine AOps.split (fun b => ⟨[(0, .tv (fzL 2 c31 v1)), (1, .tv (fzL 2 c31 v2)), (11, .tv (.bool b))], []⟩) _ (fun hb => ?_) fun hb => ?_
    · replace hc3 := of_true hc3 hb
      refine AOps.go [3, 4, 5] [] [] [0, 1, 14] 0 ⟨[(0, .tv (fzL 2 c31 v1)), (1, .tv (fzL 2 c31 v2)), (14, .tv (.bool true))], []⟩ ?_ (Nat.zero_le _) trivial ?_
      · kernel_rfl
      cases hc3
      exact AOps.nil rfl
    · replace hc3 := of_false hc3 hb
      refine AOps.go [3] [4, 5] [] [0, 1, 11, 12] 0 ⟨[(0, .tv (fzL 2 c31 v1)), (1, .tv (fzL 2 c31 v2)), (11, .tv (.bool false)), (12, .tv (fzL 2 c31 v2))], []⟩ ?_ (Nat.zero_le _) trivial ?_
      · kernel_rfl
      obtain ⟨v4, hv4, hc3⟩ := of_bind hc3
      refine AOps.cons (AOne.callP (F := (FF 39 0)) _ rfl rfl rfl _ rfl rfl _ _ rfl Try.call10 [.tv (fzL 2 c31 v2)] rfl rfl (f10_ok v2 hv4) rfl) ?_
      refine AOps.go [5] [] [] [0, 1, 14] 0 ⟨[(0, .tv (fzL 2 c31 v1)), (1, .tv (fzL 2 c31 v2)), (14, .tv (.bool v4))], []⟩ ?_ (Nat.zero_le _) trivial ?_
      · kernel_rfl
      cases hc3
      exact AOps.nil rfl
  subst hJ
  refine AOps.nil ?_
  refine AWp.cond rfl (fun hb => ?_) fun hb => ?_
  · replace h := of_true h hb
    refine AWp.keepTo [] 0 ⟨[], []⟩ ?_ (Nat.zero_le _) ?_
    · kernel_rfl
    refine AWp.seq ?_
    refine AWp.start [] [0, 1] [] [] 0 ⟨[], []⟩ rfl ?_ (Nat.zero_le _) trivial ?_
    · kernel_rfl
    obtain ⟨v6, hv6, h⟩ := of_bind h
    refine AOps.cons (AOne.callP (F := (FF 39 0)) _ rfl rfl rfl _ rfl rfl _ _ rfl Try.call11 [] rfl rfl (f11_ok  hv6) rfl) ?_
    refine AOps.go [1] [] [] [4] 0 ⟨[(4, .tv (.bool v6))], []⟩ ?_ (Nat.zero_le _) trivial ?_
    · kernel_rfl
    refine AOps.nil ?_
    refine AWp.ret ?_
    cases h
    exact ⟨.inr rfl, rfl⟩
  · replace h := of_false h hb
    refine AWp.keepTo [0, 1] 0 ⟨[(0, .tv (fzL 2 c31 v1)), (1, .tv (fzL 2 c31 v2))], []⟩ ?_ (Nat.zero_le _) ?_
    · kernel_rfl
    refine AWp.skip ?_
    refine AWp.seq ?_
    refine AWp.start [0, 1] [2, 3, 4, 5, 6, 7] [] [0, 1, 17, 18] 0 ⟨[(0, .tv (fzL 2 c31 v1)), (1, .tv (fzL 2 c31 v2)), (17, .tv (fzL 2 c31 v1)), (18, .tv (fzL 2 c31 v2))], []⟩ rfl ?_ (Nat.zero_le _) trivial ?_
    · kernel_rfl
    obtain ⟨v7, hv7, h⟩ := of_bind h
    refine AOps.cons (AOne.callP (F := (FF 39 0)) _ rfl rfl rfl _ rfl rfl _ _ rfl Try.call26 [.tv (fzL 2 c31 v1), .tv (fzL 2 c31 v2)] rfl rfl (f26_ok v1 v2 hv7) rfl) ?_
    refine AOps.go [3, 4, 5, 6, 7] [] [] [0, 1, 5, 6] 0 ⟨[(0, .tv (fzL 2 c31 v1)), (1, .tv (fzL 2 c31 v2)), (5, .tv (fzL 2 c31 v7.1)), (6, .tv (.int .i64 v7.2))], []⟩ ?_ (Nat.zero_le _) trivial ?_
    · kernel_rfl
    refine AOps.nil ?_
    refine AWp.seq ?_
    refine AWp.start [0, 1] [2, 3, 4, 5, 6, 7] [] [5, 6, 23, 24] 0 ⟨[(5, .tv (fzL 2 c31 v7.1)), (6, .tv (.int .i64 v7.2)), (23, .tv (fzL 2 c31 v1)), (24, .tv (fzL 2 c31 v2))], []⟩ rfl ?_ (Nat.zero_le _) trivial ?_
    · kernel_rfl
    obtain ⟨v8, hv8, h⟩ := of_bind h
    refine AOps.cons (AOne.callP (F := (FF 39 0)) _ rfl rfl rfl _ rfl rfl _ _ rfl Try.call27 [.tv (fzL 2 c31 v1), .tv (fzL 2 c31 v2)] rfl rfl (f27_ok v1 v2 hv8) rfl) ?_
    refine AOps.go [3, 4, 5, 6, 7] [] [] [5, 6, 7, 8] 0 ⟨[(5, .tv (fzL 2 c31 v7.1)), (6, .tv (.int .i64 v7.2)), (7, .tv (fzL 2 c31 v8.1)), (8, .tv (.int .i64 v8.2))], []⟩ ?_ (Nat.zero_le _) trivial ?_
    · kernel_rfl
    refine AOps.nil ?_
    refine AWp.seq ?_
    refine AWp.start [0, 1] [2, 3, 4, 5, 6, 7, 8, 9, 10, 11] [] [6, 8, 28, 29] 0 ⟨[(6, .tv (.int .i64 v7.2)), (8, .tv (.int .i64 v8.2)), (28, .tv (fzL 2 c31 v7.1)), (29, .tv (fzL 2 c31 v8.1))], []⟩ rfl ?_ (Nat.zero_le _) trivial ?_
    · kernel_rfl
    obtain ⟨v9, hv9, h⟩ := of_bind h
    refine AOps.cons (AOne.callP (F := (FF 39 0)) _ rfl rfl rfl _ rfl rfl _ _ rfl Try.call28 [.tv (fzL 2 c31 v7.1), .tv (fzL 2 c31 v8.1)] rfl rfl (f28_ok v7.1 v8.1 hv9) rfl) ?_
    refine AOps.go [3] [4, 5, 6, 7, 8, 9, 10, 11] [] [6, 8, 31] 0 ⟨[(6, .tv (.int .i64 v7.2)), (8, .tv (.int .i64 v8.2)), (31, .tv (.bool v9))], []⟩ ?_ (Nat.zero_le _) trivial ?_
    · kernel_rfl
    obtain ⟨v10, hc4, h⟩ := of_bind h
    refine AOps.cut [4, 5, 6, 7] [8, 9, 10, 11] (fun σ => σ = ⟨[(35, .tv (.bool v10))], []⟩) ?_ fun σ' hJ => ?_
    · refine AOps.split (fun b => ⟨[(6, .tv (.int .i64 v7.2)), (8, .tv (.int .i64 v8.2)), (31, .tv (.bool b))], []⟩) _ (fun hb => ?_) fun hb => ?_
      · replace hc4 := of_true hc4 hb
        refine AOps.go [4, 5, 6, 7] [] [] [35] 0 ⟨[(35, .tv (.bool (v7.2 == v8.2)))], []⟩ ?_ (Nat.zero_le _) trivial ?_
        · kernel_rfl
        cases hc4
        exact AOps.nil rfl
      · replace hc4 := of_false hc4 hb
        refine AOps.go [4, 5, 6, 7] [] [] [35] 0 ⟨[(35, .tv (.bool false))], []⟩ ?_ (Nat.zero_le _) trivial ?_
        · kernel_rfl
        cases hc4
        exact AOps.nil rfl
    subst hJ
    refine AOps.go [8] [9, 10, 11] [] [36] 0 ⟨[(36, .tv (.bool v10))], []⟩ ?_ (Nat.zero_le _) trivial ?_
    · kernel_rfl
    obtain ⟨v12, hc9, h⟩ := of_bind h
    refine AOps.cut [9, 10] [11] (fun σ => σ = ⟨[(38, .tv (.bool v12))], []⟩) ?_ fun σ' hJ => ?_
    · refine AOps.split (fun b => ⟨[(36, .tv (.bool b))], []⟩) _ (fun hb => ?_) fun hb => ?_
      · replace hc9 := of_true hc9 hb
        obtain ⟨v11, hv11, hc9⟩ := of_bind hc9
        refine AOps.cons (AOne.callP (F := (FF 39 0)) _ rfl rfl rfl _ rfl rfl _ _ rfl Try.call11 [] rfl rfl (f11_ok  hv11) rfl) ?_
        refine AOps.go [10] [] [] [38] 0 ⟨[(38, .tv (.bool v11))], []⟩ ?_ (Nat.zero_le _) trivial ?_
        · kernel_rfl
        cases hc9
        exact AOps.nil rfl
      · replace hc9 := of_false hc9 hb
        refine AOps.go [9, 10] [] [] [38] 0 ⟨[(38, .tv (.bool false))], []⟩ ?_ (Nat.zero_le _) trivial ?_
        · kernel_rfl
        cases hc9
        exact AOps.nil rfl
    subst hJ
    refine AOps.go [11] [] [] [4] 0 ⟨[(4, .tv (.bool v12))], []⟩ ?_ (Nat.zero_le _) trivial ?_
    · kernel_rfl
    refine AOps.nil ?_
    refine AWp.ret ?_
    cases h
    exact ⟨.inr rfl, rfl⟩

end Go.Sx.gen
