/- Printed by program (wip/gen): plain functions and their walks; no condition. -/
import Derived.Test.YtpkoebbjnfpifaaGx2
namespace Go.Sx.gen
open Go Go.Sx Go.Proofs

noncomputable def f7 (v1 : T31) (v2 : T31) : Option Bool :=
  (f10 [v1, v2]).bind fun v3 => cond v3 ((f11 ).bind fun v4 => some v4) ((f21 v1 v2).bind fun v5 => (f22 v1 v2).bind fun v6 => (f23 v1 v2).bind fun v7 => (f24 v1 v2).bind fun v8 => (cond (!(v5.1 == v6.1)) (some true) (some (v5.2 != v6.2))).bind fun v9 => (cond v9 (some true) ((f25 v7.1 v8.1).bind fun v10 => some (!v10))).bind fun v11 => (cond v11 (some true) (some (v7.2 != v8.2))).bind fun v12 => cond v12 (some false) (cond (v7.2 != (0 : Int)) ((f11 ).bind fun v13 => some v13) ((f14 v1 v7.1).bind fun v14 => (f14 v2 v7.1).bind fun v15 => (cond (v14.2 == (0 : Int)) (some (v15.2 == (0 : Int))) (some false)).bind fun v16 => (cond v16 (some v14.1) (some false)).bind fun v17 => (cond v17 (some v15.1) (some false)).bind fun v18 => (cond v18 ((f11 ).bind fun v19 => some v19) (some false)).bind fun v20 => some v20)))

theorem f7_ok (v1 : T31) (v2 : T31) {r : Bool} (h : f7 v1 v2 = some r) : ACall Try.prog 7 [.agg [.str v1.f0, fzL 3 c48 v1.f1], .agg [.str v2.f0, fzL 3 c48 v2.f1]] [] (.tv (.bool r)) [] := by
  refine ACall.of1 (FF 95 0) Try.func7 rfl Try.ntmps7 Try.results7 (Nat.le_of_ble_eq_true rfl) rfl rfl ?_
  refine AWp.seq ?_
  refine AWp.start [0, 1, 2] [] [] [2, 3] 2 ⟨[(2, .pc 0 0), (3, .pc 1 0)], [.cells 32 [.str v1.f0, fzL 3 c48 v1.f1], .cells 32 [.str v2.f0, fzL 3 c48 v2.f1]]⟩ rfl ?_ (Nat.zero_le _) trivial ?_
  · kernel_rfl
  refine AOps.nil ?_
  refine AWp.seq ?_
  refine AWp.seq ?_
  refine AWp.pin 0 rfl rfl ?_
  refine AWp.pin 1 rfl rfl ?_
  refine AWp.keepTo [2, 3] 0 ⟨[(2, .rp [.str v1.f0, fzL 3 c48 v1.f1]), (3, .rp [.str v2.f0, fzL 3 c48 v2.f1])], []⟩ ?_ (Nat.zero_le _) ?_
  · kernel_rfl
  refine AWp.start [0, 1, 2] [3] [] [2, 3, 19] 0 ⟨[(2, .rp [.str v1.f0, fzL 3 c48 v1.f1]), (3, .rp [.str v2.f0, fzL 3 c48 v2.f1]), (19, .tv (.own 2 32 2 (newRowF [.str v1.f0, fzL 3 c48 v1.f1, .str v2.f0, fzL 3 c48 v2.f1] 2)))], []⟩ rfl ?_ (Nat.zero_le _) trivial ?_
  · kernel_rfl
  refine AOps.extL 19 c31 [v1, v2] rfl rfl (row_at c31 2 (fun _ => rfl) [v1, v2] _ rfl) ?_
  refine AOps.freezeL 19 c31 [v1, v2] rfl (fun _ => rfl) ?_
  obtain ⟨v3, hv3, h⟩ := of_bind h
  refine AOps.cons (AOne.callP (F := (FF 95 0)) _ rfl rfl rfl _ rfl rfl _ _ rfl Try.call10 [.tv (fzL 2 c31 [v1, v2])] rfl rfl (f10_ok [v1, v2] hv3) rfl) ?_
  refine AOps.keepTo [2, 3, 20] 0 ⟨[(2, .rp [.str v1.f0, fzL 3 c48 v1.f1]), (3, .rp [.str v2.f0, fzL 3 c48 v2.f1]), (20, .tv (.bool v3))], []⟩ ?_ (Nat.zero_le _) ?_
  · kernel_rfl
  refine AOps.nil ?_
  refine AWp.cond rfl (fun hb => ?_) fun hb => ?_
  · replace h := of_true h hb
    refine AWp.keepTo [] 0 ⟨[], []⟩ ?_ (Nat.zero_le _) ?_
    · kernel_rfl
    refine AWp.seq ?_
    refine AWp.start [] [0, 1] [] [] 0 ⟨[], []⟩ rfl ?_ (Nat.zero_le _) trivial ?_
    · kernel_rfl
    obtain ⟨v4, hv4, h⟩ := of_bind h
    refine AOps.cons (AOne.callP (F := (FF 95 0)) _ rfl rfl rfl _ rfl rfl _ _ rfl Try.call11 [] rfl rfl (f11_ok  hv4) rfl) ?_
    refine AOps.go [1] [] [] [4] 0 ⟨[(4, .tv (.bool v4))], []⟩ ?_ (Nat.zero_le _) trivial ?_
    · kernel_rfl
    refine AOps.nil ?_
    refine AWp.ret ?_
    cases h
    exact ⟨.inr rfl, rfl⟩
  · replace h := of_false h hb
    refine AWp.keepTo [2, 3] 0 ⟨[(2, .rp [.str v1.f0, fzL 3 c48 v1.f1]), (3, .rp [.str v2.f0, fzL 3 c48 v2.f1])], []⟩ ?_ (Nat.zero_le _) ?_
    · kernel_rfl
    refine AWp.skip ?_
    refine AWp.seq ?_
    refine AWp.start [0, 1] [2, 3, 4, 5, 6, 7] [] [2, 3, 23, 24] 0 ⟨[(2, .rp [.str v1.f0, fzL 3 c48 v1.f1]), (3, .rp [.str v2.f0, fzL 3 c48 v2.f1]), (23, .agg [.str v1.f0, fzL 3 c48 v1.f1]), (24, .agg [.str v2.f0, fzL 3 c48 v2.f1])], []⟩ rfl ?_ (Nat.zero_le _) trivial ?_
    · kernel_rfl
    obtain ⟨v5, hv5, h⟩ := of_bind h
    refine AOps.cons (AOne.callP (F := (FF 95 0)) _ rfl rfl rfl _ rfl rfl _ _ rfl Try.call21 [.agg [.str v1.f0, fzL 3 c48 v1.f1], .agg [.str v2.f0, fzL 3 c48 v2.f1]] rfl rfl (f21_ok v1 v2 hv5) rfl) ?_
    refine AOps.go [3, 4, 5, 6, 7] [] [] [2, 3, 5, 6] 0 ⟨[(2, .rp [.str v1.f0, fzL 3 c48 v1.f1]), (3, .rp [.str v2.f0, fzL 3 c48 v2.f1]), (5, .tv (.bool v5.1)), (6, .tv (.int .i64 v5.2))], []⟩ ?_ (Nat.zero_le _) trivial ?_
    · kernel_rfl
    refine AOps.nil ?_
    refine AWp.seq ?_
    refine AWp.start [0, 1] [2, 3, 4, 5, 6, 7] [] [2, 3, 5, 6, 29, 30] 0 ⟨[(2, .rp [.str v1.f0, fzL 3 c48 v1.f1]), (3, .rp [.str v2.f0, fzL 3 c48 v2.f1]), (5, .tv (.bool v5.1)), (6, .tv (.int .i64 v5.2)), (29, .agg [.str v1.f0, fzL 3 c48 v1.f1]), (30, .agg [.str v2.f0, fzL 3 c48 v2.f1])], []⟩ rfl ?_ (Nat.zero_le _) trivial ?_
    · kernel_rfl
    obtain ⟨v6, hv6, h⟩ := of_bind h
    refine AOps.cons (AOne.callP (F := (FF 95 0)) _ rfl rfl rfl _ rfl rfl _ _ rfl Try.call22 [.agg [.str v1.f0, fzL 3 c48 v1.f1], .agg [.str v2.f0, fzL 3 c48 v2.f1]] rfl rfl (f22_ok v1 v2 hv6) rfl) ?_
    refine AOps.go [3, 4, 5, 6, 7] [] [] [2, 3, 5, 6, 7, 8] 0 ⟨[(2, .rp [.str v1.f0, fzL 3 c48 v1.f1]), (3, .rp [.str v2.f0, fzL 3 c48 v2.f1]), (5, .tv (.bool v5.1)), (6, .tv (.int .i64 v5.2)), (7, .tv (.bool v6.1)), (8, .tv (.int .i64 v6.2))], []⟩ ?_ (Nat.zero_le _) trivial ?_
    · kernel_rfl
    refine AOps.nil ?_
    refine AWp.seq ?_
    refine AWp.start [0, 1] [2, 3, 4, 5, 6, 7] [] [2, 3, 5, 6, 7, 8, 35, 36] 0 ⟨[(2, .rp [.str v1.f0, fzL 3 c48 v1.f1]), (3, .rp [.str v2.f0, fzL 3 c48 v2.f1]), (5, .tv (.bool v5.1)), (6, .tv (.int .i64 v5.2)), (7, .tv (.bool v6.1)), (8, .tv (.int .i64 v6.2)), (35, .agg [.str v1.f0, fzL 3 c48 v1.f1]), (36, .agg [.str v2.f0, fzL 3 c48 v2.f1])], []⟩ rfl ?_ (Nat.zero_le _) trivial ?_
    · kernel_rfl
    obtain ⟨v7, hv7, h⟩ := of_bind h
    refine AOps.cons (AOne.callP (F := (FF 95 0)) _ rfl rfl rfl _ rfl rfl _ _ rfl Try.call23 [.agg [.str v1.f0, fzL 3 c48 v1.f1], .agg [.str v2.f0, fzL 3 c48 v2.f1]] rfl rfl (f23_ok v1 v2 hv7) rfl) ?_
    refine AOps.go [3, 4, 5, 6, 7] [] [] [2, 3, 5, 6, 7, 8, 9, 10] 0 ⟨[(2, .rp [.str v1.f0, fzL 3 c48 v1.f1]), (3, .rp [.str v2.f0, fzL 3 c48 v2.f1]), (5, .tv (.bool v5.1)), (6, .tv (.int .i64 v5.2)), (7, .tv (.bool v6.1)), (8, .tv (.int .i64 v6.2)), (9, .tv (fzL 3 c48 v7.1)), (10, .tv (.int .i64 v7.2))], []⟩ ?_ (Nat.zero_le _) trivial ?_
    · kernel_rfl
    refine AOps.nil ?_
    refine AWp.seq ?_
    refine AWp.start [0, 1] [2, 3, 4, 5, 6, 7] [] [2, 3, 5, 6, 7, 8, 9, 10, 41, 42] 0 ⟨[(2, .rp [.str v1.f0, fzL 3 c48 v1.f1]), (3, .rp [.str v2.f0, fzL 3 c48 v2.f1]), (5, .tv (.bool v5.1)), (6, .tv (.int .i64 v5.2)), (7, .tv (.bool v6.1)), (8, .tv (.int .i64 v6.2)), (9, .tv (fzL 3 c48 v7.1)), (10, .tv (.int .i64 v7.2)), (41, .agg [.str v1.f0, fzL 3 c48 v1.f1]), (42, .agg [.str v2.f0, fzL 3 c48 v2.f1])], []⟩ rfl ?_ (Nat.zero_le _) trivial ?_
    · kernel_rfl
    obtain ⟨v8, hv8, h⟩ := of_bind h
    refine AOps.cons (AOne.callP (F := (FF 95 0)) _ rfl rfl rfl _ rfl rfl _ _ rfl Try.call24 [.agg [.str v1.f0, fzL 3 c48 v1.f1], .agg [.str v2.f0, fzL 3 c48 v2.f1]] rfl rfl (f24_ok v1 v2 hv8) rfl) ?_
    refine AOps.go [3, 4, 5, 6, 7] [] [] [2, 3, 5, 6, 7, 8, 9, 10, 11, 12] 0 ⟨[(2, .rp [.str v1.f0, fzL 3 c48 v1.f1]), (3, .rp [.str v2.f0, fzL 3 c48 v2.f1]), (5, .tv (.bool v5.1)), (6, .tv (.int .i64 v5.2)), (7, .tv (.bool v6.1)), (8, .tv (.int .i64 v6.2)), (9, .tv (fzL 3 c48 v7.1)), (10, .tv (.int .i64 v7.2)), (11, .tv (fzL 3 c48 v8.1)), (12, .tv (.int .i64 v8.2))], []⟩ ?_ (Nat.zero_le _) trivial ?_
    · kernel_rfl
    refine AOps.nil ?_
    refine AWp.seq ?_
    refine AWp.seq ?_
    refine AWp.start [0, 1, 2, 3] [4, 5, 6, 7, 8, 9, 10, 11, 12, 13, 14, 15, 16, 17, 18] [] [2, 3, 6, 8, 9, 10, 11, 12, 49] 0 ⟨[(2, .rp [.str v1.f0, fzL 3 c48 v1.f1]), (3, .rp [.str v2.f0, fzL 3 c48 v2.f1]), (6, .tv (.int .i64 v5.2)), (8, .tv (.int .i64 v6.2)), (9, .tv (fzL 3 c48 v7.1)), (10, .tv (.int .i64 v7.2)), (11, .tv (fzL 3 c48 v8.1)), (12, .tv (.int .i64 v8.2)), (49, .tv (.bool (!(v5.1 == v6.1))))], []⟩ rfl ?_ (Nat.zero_le _) trivial ?_
    · kernel_rfl
    obtain ⟨v9, hc4, h⟩ := of_bind h
    refine AOps.cut [4, 5, 6, 7] [8, 9, 10, 11, 12, 13, 14, 15, 16, 17, 18] (fun σ => σ = ⟨[(2, .rp [.str v1.f0, fzL 3 c48 v1.f1]), (3, .rp [.str v2.f0, fzL 3 c48 v2.f1]), (9, .tv (fzL 3 c48 v7.1)), (10, .tv (.int .i64 v7.2)), (11, .tv (fzL 3 c48 v8.1)), (12, .tv (.int .i64 v8.2)), (53, .tv (.bool v9))], []⟩) ?_ fun σ' hJ => ?_
    · refine AOps.split (fun b => ⟨[(2, .rp [.str v1.f0, fzL 3 c48 v1.f1]), (3, .rp [.str v2.f0, fzL 3 c48 v2.f1]), (6, .tv (.int .i64 v5.2)), (8, .tv (.int .i64 v6.2)), (9, .tv (fzL 3 c48 v7.1)), (10, .tv (.int .i64 v7.2)), (11, .tv (fzL 3 c48 v8.1)), (12, .tv (.int .i64 v8.2)), (49, .tv (.bool b))], []⟩) _ (fun hb => ?_) fun hb => ?_
      · replace hc4 := of_true hc4 hb
        refine AOps.go [4, 5, 6, 7] [] [] [2, 3, 9, 10, 11, 12, 53] 0 ⟨[(2, .rp [.str v1.f0, fzL 3 c48 v1.f1]), (3, .rp [.str v2.f0, fzL 3 c48 v2.f1]), (9, .tv (fzL 3 c48 v7.1)), (10, .tv (.int .i64 v7.2)), (11, .tv (fzL 3 c48 v8.1)), (12, .tv (.int .i64 v8.2)), (53, .tv (.bool true))], []⟩ ?_ (Nat.zero_le _) trivial ?_
        · kernel_rfl
        cases hc4
        exact AOps.nil rfl
      · replace hc4 := of_false hc4 hb
        refine AOps.go [4, 5, 6, 7] [] [] [2, 3, 9, 10, 11, 12, 53] 0 ⟨[(2, .rp [.str v1.f0, fzL 3 c48 v1.f1]), (3, .rp [.str v2.f0, fzL 3 c48 v2.f1]), (9, .tv (fzL 3 c48 v7.1)), (10, .tv (.int .i64 v7.2)), (11, .tv (fzL 3 c48 v8.1)), (12, .tv (.int .i64 v8.2)), (53, .tv (.bool (v5.2 != v6.2)))], []⟩ ?_ (Nat.zero_le _) trivial ?_
        · kernel_rfl
        cases hc4
        exact AOps.nil rfl
    subst hJ
    refine AOps.go [8] [9, 10, 11, 12, 13, 14, 15, 16, 17, 18] [] [2, 3, 9, 10, 11, 12, 54] 0 ⟨[(2, .rp [.str v1.f0, fzL 3 c48 v1.f1]), (3, .rp [.str v2.f0, fzL 3 c48 v2.f1]), (9, .tv (fzL 3 c48 v7.1)), (10, .tv (.int .i64 v7.2)), (11, .tv (fzL 3 c48 v8.1)), (12, .tv (.int .i64 v8.2)), (54, .tv (.bool v9))], []⟩ ?_ (Nat.zero_le _) trivial ?_
    · kernel_rfl
    obtain ⟨v11, hc9, h⟩ := of_bind h
    refine AOps.cut [9, 10, 11, 12, 13] [14, 15, 16, 17, 18] (fun σ => σ = ⟨[(2, .rp [.str v1.f0, fzL 3 c48 v1.f1]), (3, .rp [.str v2.f0, fzL 3 c48 v2.f1]), (9, .tv (fzL 3 c48 v7.1)), (10, .tv (.int .i64 v7.2)), (12, .tv (.int .i64 v8.2)), (59, .tv (.bool v11))], []⟩) ?_ fun σ' hJ => ?_
    · refine AOps.split (fun b => ⟨[(2, .rp [.str v1.f0, fzL 3 c48 v1.f1]), (3, .rp [.str v2.f0, fzL 3 c48 v2.f1]), (9, .tv (fzL 3 c48 v7.1)), (10, .tv (.int .i64 v7.2)), (11, .tv (fzL 3 c48 v8.1)), (12, .tv (.int .i64 v8.2)), (54, .tv (.bool b))], []⟩) _ (fun hb => ?_) fun hb => ?_
      · replace hc9 := of_true hc9 hb
        refine AOps.go [9, 10, 11, 12, 13] [] [] [2, 3, 9, 10, 12, 59] 0 ⟨[(2, .rp [.str v1.f0, fzL 3 c48 v1.f1]), (3, .rp [.str v2.f0, fzL 3 c48 v2.f1]), (9, .tv (fzL 3 c48 v7.1)), (10, .tv (.int .i64 v7.2)), (12, .tv (.int .i64 v8.2)), (59, .tv (.bool true))], []⟩ ?_ (Nat.zero_le _) trivial ?_
        · kernel_rfl
        cases hc9
        exact AOps.nil rfl
      · replace hc9 := of_false hc9 hb
        refine AOps.go [9, 10] [11, 12, 13] [] [2, 3, 9, 10, 12, 54, 55, 56] 0 ⟨[(2, .rp [.str v1.f0, fzL 3 c48 v1.f1]), (3, .rp [.str v2.f0, fzL 3 c48 v2.f1]), (9, .tv (fzL 3 c48 v7.1)), (10, .tv (.int .i64 v7.2)), (12, .tv (.int .i64 v8.2)), (54, .tv (.bool false)), (55, .tv (fzL 3 c48 v7.1)), (56, .tv (fzL 3 c48 v8.1))], []⟩ ?_ (Nat.zero_le _) trivial ?_
        · kernel_rfl
        obtain ⟨v10, hv10, hc9⟩ := of_bind hc9
        refine AOps.cons (AOne.callP (F := (FF 95 0)) _ rfl rfl rfl _ rfl rfl _ _ rfl Try.call25 [.tv (fzL 3 c48 v7.1), .tv (fzL 3 c48 v8.1)] rfl rfl (f25_ok v7.1 v8.1 hv10) rfl) ?_
        refine AOps.go [12, 13] [] [] [2, 3, 9, 10, 12, 59] 0 ⟨[(2, .rp [.str v1.f0, fzL 3 c48 v1.f1]), (3, .rp [.str v2.f0, fzL 3 c48 v2.f1]), (9, .tv (fzL 3 c48 v7.1)), (10, .tv (.int .i64 v7.2)), (12, .tv (.int .i64 v8.2)), (59, .tv (.bool (!v10)))], []⟩ ?_ (Nat.zero_le _) trivial ?_
        · kernel_rfl
        cases hc9
        exact AOps.nil rfl
    subst hJ
    refine AOps.go [14] [15, 16, 17, 18] [] [2, 3, 9, 10, 12, 60] 0 ⟨[(2, .rp [.str v1.f0, fzL 3 c48 v1.f1]), (3, .rp [.str v2.f0, fzL 3 c48 v2.f1]), (9, .tv (fzL 3 c48 v7.1)), (10, .tv (.int .i64 v7.2)), (12, .tv (.int .i64 v8.2)), (60, .tv (.bool v11))], []⟩ ?_ (Nat.zero_le _) trivial ?_
    · kernel_rfl
    obtain ⟨v12, hc15, h⟩ := of_bind h
    refine AOps.cut [15, 16, 17, 18] [] (fun σ => σ = ⟨[(2, .rp [.str v1.f0, fzL 3 c48 v1.f1]), (3, .rp [.str v2.f0, fzL 3 c48 v2.f1]), (9, .tv (fzL 3 c48 v7.1)), (10, .tv (.int .i64 v7.2)), (64, .tv (.bool v12))], []⟩) ?_ fun σ' hJ => ?_
    · refine AOps.split (fun b => ⟨[(2, .rp [.str v1.f0, fzL 3 c48 v1.f1]), (3, .rp [.str v2.f0, fzL 3 c48 v2.f1]), (9, .tv (fzL 3 c48 v7.1)), (10, .tv (.int .i64 v7.2)), (12, .tv (.int .i64 v8.2)), (60, .tv (.bool b))], []⟩) _ (fun hb => ?_) fun hb => ?_
      · replace hc15 := of_true hc15 hb
        refine AOps.go [15, 16, 17, 18] [] [] [2, 3, 9, 10, 64] 0 ⟨[(2, .rp [.str v1.f0, fzL 3 c48 v1.f1]), (3, .rp [.str v2.f0, fzL 3 c48 v2.f1]), (9, .tv (fzL 3 c48 v7.1)), (10, .tv (.int .i64 v7.2)), (64, .tv (.bool true))], []⟩ ?_ (Nat.zero_le _) trivial ?_
        · kernel_rfl
        cases hc15
        exact AOps.nil rfl
      · replace hc15 := of_false hc15 hb
        refine AOps.go [15, 16, 17, 18] [] [] [2, 3, 9, 10, 64] 0 ⟨[(2, .rp [.str v1.f0, fzL 3 c48 v1.f1]), (3, .rp [.str v2.f0, fzL 3 c48 v2.f1]), (9, .tv (fzL 3 c48 v7.1)), (10, .tv (.int .i64 v7.2)), (64, .tv (.bool (v7.2 != v8.2)))], []⟩ ?_ (Nat.zero_le _) trivial ?_
        · kernel_rfl
        cases hc15
        exact AOps.nil rfl
    subst hJ
    refine AOps.nil ?_
    refine AWp.cond rfl (fun hb => ?_) fun hb => ?_
    · replace h := of_true h hb
      refine AWp.keepTo [] 0 ⟨[], []⟩ ?_ (Nat.zero_le _) ?_
      · kernel_rfl
      refine AWp.seq ?_
      refine AWp.start [0] [] [] [4] 0 ⟨[(4, .tv (.bool false))], []⟩ rfl ?_ (Nat.zero_le _) trivial ?_
      · kernel_rfl
      refine AOps.nil ?_
      refine AWp.ret ?_
      cases h
      exact ⟨.inr rfl, rfl⟩
    · replace h := of_false h hb
      refine AWp.keepTo [2, 3, 9, 10] 0 ⟨[(2, .rp [.str v1.f0, fzL 3 c48 v1.f1]), (3, .rp [.str v2.f0, fzL 3 c48 v2.f1]), (9, .tv (fzL 3 c48 v7.1)), (10, .tv (.int .i64 v7.2))], []⟩ ?_ (Nat.zero_le _) ?_
      · kernel_rfl
      refine AWp.skip ?_
      refine AWp.seq ?_
      refine AWp.seq ?_
      refine AWp.start [0, 1] [] [] [2, 3, 9, 66] 0 ⟨[(2, .rp [.str v1.f0, fzL 3 c48 v1.f1]), (3, .rp [.str v2.f0, fzL 3 c48 v2.f1]), (9, .tv (fzL 3 c48 v7.1)), (66, .tv (.bool (v7.2 != (0 : Int))))], []⟩ rfl ?_ (Nat.zero_le _) trivial ?_
      · kernel_rfl
      refine AOps.nil ?_
      refine AWp.cond rfl (fun hb => ?_) fun hb => ?_
      · replace h := of_true h hb
        refine AWp.keepTo [] 0 ⟨[], []⟩ ?_ (Nat.zero_le _) ?_
        · kernel_rfl
        refine AWp.seq ?_
        refine AWp.start [] [0, 1] [] [] 0 ⟨[], []⟩ rfl ?_ (Nat.zero_le _) trivial ?_
        · kernel_rfl
        obtain ⟨v13, hv13, h⟩ := of_bind h
        refine AOps.cons (AOne.callP (F := (FF 95 0)) _ rfl rfl rfl _ rfl rfl _ _ rfl Try.call11 [] rfl rfl (f11_ok  hv13) rfl) ?_
        refine AOps.go [1] [] [] [4] 0 ⟨[(4, .tv (.bool v13))], []⟩ ?_ (Nat.zero_le _) trivial ?_
        · kernel_rfl
        refine AOps.nil ?_
        refine AWp.ret ?_
        cases h
        exact ⟨.inr rfl, rfl⟩
      · replace h := of_false h hb
        refine AWp.keepTo [2, 3, 9] 0 ⟨[(2, .rp [.str v1.f0, fzL 3 c48 v1.f1]), (3, .rp [.str v2.f0, fzL 3 c48 v2.f1]), (9, .tv (fzL 3 c48 v7.1))], []⟩ ?_ (Nat.zero_le _) ?_
        · kernel_rfl
        refine AWp.skip ?_
        refine AWp.seq ?_
        refine AWp.start [0, 1] [2, 3, 4, 5, 6, 7] [] [3, 9, 69, 70] 0 ⟨[(3, .rp [.str v2.f0, fzL 3 c48 v2.f1]), (9, .tv (fzL 3 c48 v7.1)), (69, .agg [.str v1.f0, fzL 3 c48 v1.f1]), (70, .tv (fzL 3 c48 v7.1))], []⟩ rfl ?_ (Nat.zero_le _) trivial ?_
        · kernel_rfl
        obtain ⟨v14, hv14, h⟩ := of_bind h
        refine AOps.cons (AOne.callP (F := (FF 95 0)) _ rfl rfl rfl _ rfl rfl _ _ rfl Try.call14 [.agg [.str v1.f0, fzL 3 c48 v1.f1], .tv (fzL 3 c48 v7.1)] rfl rfl (f14_ok v1 v7.1 hv14) rfl) ?_
        refine AOps.go [3, 4, 5, 6, 7] [] [] [3, 9, 13, 14] 0 ⟨[(3, .rp [.str v2.f0, fzL 3 c48 v2.f1]), (9, .tv (fzL 3 c48 v7.1)), (13, .tv (.bool v14.1)), (14, .tv (.int .i64 v14.2))], []⟩ ?_ (Nat.zero_le _) trivial ?_
        · kernel_rfl
        refine AOps.nil ?_
        refine AWp.seq ?_
        refine AWp.start [0, 1] [2, 3, 4, 5, 6, 7] [] [13, 14, 75, 76] 0 ⟨[(13, .tv (.bool v14.1)), (14, .tv (.int .i64 v14.2)), (75, .agg [.str v2.f0, fzL 3 c48 v2.f1]), (76, .tv (fzL 3 c48 v7.1))], []⟩ rfl ?_ (Nat.zero_le _) trivial ?_
        · kernel_rfl
        obtain ⟨v15, hv15, h⟩ := of_bind h
        refine AOps.cons (AOne.callP (F := (FF 95 0)) _ rfl rfl rfl _ rfl rfl _ _ rfl Try.call14 [.agg [.str v2.f0, fzL 3 c48 v2.f1], .tv (fzL 3 c48 v7.1)] rfl rfl (f14_ok v2 v7.1 hv15) rfl) ?_
        refine AOps.go [3, 4, 5, 6, 7] [] [] [13, 14, 15, 16] 0 ⟨[(13, .tv (.bool v14.1)), (14, .tv (.int .i64 v14.2)), (15, .tv (.bool v15.1)), (16, .tv (.int .i64 v15.2))], []⟩ ?_ (Nat.zero_le _) trivial ?_
        · kernel_rfl
        refine AOps.nil ?_
        refine AWp.seq ?_
        refine AWp.start [0, 1, 2] [3, 4, 5, 6, 7, 8, 9, 10, 11, 12, 13, 14, 15] [] [13, 15, 16, 82] 0 ⟨[(13, .tv (.bool v14.1)), (15, .tv (.bool v15.1)), (16, .tv (.int .i64 v15.2)), (82, .tv (.bool (v14.2 == (0 : Int))))], []⟩ rfl ?_ (Nat.zero_le _) trivial ?_
        · kernel_rfl
        obtain ⟨v16, hc3, h⟩ := of_bind h
        refine AOps.cut [3, 4, 5] [6, 7, 8, 9, 10, 11, 12, 13, 14, 15] (fun σ => σ = ⟨[(13, .tv (.bool v14.1)), (15, .tv (.bool v15.1)), (85, .tv (.bool v16))], []⟩) ?_ fun σ' hJ => ?_
        · refine AOps.split (fun b => ⟨[(13, .tv (.bool v14.1)), (15, .tv (.bool v15.1)), (16, .tv (.int .i64 v15.2)), (82, .tv (.bool b))], []⟩) _ (fun hb => ?_) fun hb => ?_
          · replace hc3 := of_true hc3 hb
            refine AOps.go [3, 4, 5] [] [] [13, 15, 85] 0 ⟨[(13, .tv (.bool v14.1)), (15, .tv (.bool v15.1)), (85, .tv (.bool (v15.2 == (0 : Int))))], []⟩ ?_ (Nat.zero_le _) trivial ?_
            · kernel_rfl
            cases hc3
            exact AOps.nil rfl
          · replace hc3 := of_false hc3 hb
            refine AOps.go [3, 4, 5] [] [] [13, 15, 85] 0 ⟨[(13, .tv (.bool v14.1)), (15, .tv (.bool v15.1)), (85, .tv (.bool false))], []⟩ ?_ (Nat.zero_le _) trivial ?_
            · kernel_rfl
            cases hc3
            exact AOps.nil rfl
        subst hJ
        refine AOps.go [6] [7, 8, 9, 10, 11, 12, 13, 14, 15] [] [13, 15, 86] 0 ⟨[(13, .tv (.bool v14.1)), (15, .tv (.bool v15.1)), (86, .tv (.bool v16))], []⟩ ?_ (Nat.zero_le _) trivial ?_
        · kernel_rfl
        obtain ⟨v17, hc7, h⟩ := of_bind h
        refine AOps.cut [7, 8] [9, 10, 11, 12, 13, 14, 15] (fun σ => σ = ⟨[(15, .tv (.bool v15.1)), (88, .tv (.bool v17))], []⟩) ?_ fun σ' hJ => ?_
        · refine AOps.split (fun b => ⟨[(13, .tv (.bool v14.1)), (15, .tv (.bool v15.1)), (86, .tv (.bool b))], []⟩) _ (fun hb => ?_) fun hb => ?_
          · replace hc7 := of_true hc7 hb
            refine AOps.go [7, 8] [] [] [15, 88] 0 ⟨[(15, .tv (.bool v15.1)), (88, .tv (.bool v14.1))], []⟩ ?_ (Nat.zero_le _) trivial ?_
            · kernel_rfl
            cases hc7
            exact AOps.nil rfl
          · replace hc7 := of_false hc7 hb
            refine AOps.go [7, 8] [] [] [15, 88] 0 ⟨[(15, .tv (.bool v15.1)), (88, .tv (.bool false))], []⟩ ?_ (Nat.zero_le _) trivial ?_
            · kernel_rfl
            cases hc7
            exact AOps.nil rfl
        subst hJ
        refine AOps.go [9] [10, 11, 12, 13, 14, 15] [] [15, 89] 0 ⟨[(15, .tv (.bool v15.1)), (89, .tv (.bool v17))], []⟩ ?_ (Nat.zero_le _) trivial ?_
        · kernel_rfl
        obtain ⟨v18, hc10, h⟩ := of_bind h
        refine AOps.cut [10, 11] [12, 13, 14, 15] (fun σ => σ = ⟨[(91, .tv (.bool v18))], []⟩) ?_ fun σ' hJ => ?_
        · refine AOps.split (fun b => ⟨[(15, .tv (.bool v15.1)), (89, .tv (.bool b))], []⟩) _ (fun hb => ?_) fun hb => ?_
          · replace hc10 := of_true hc10 hb
            refine AOps.go [10, 11] [] [] [91] 0 ⟨[(91, .tv (.bool v15.1))], []⟩ ?_ (Nat.zero_le _) trivial ?_
            · kernel_rfl
            cases hc10
            exact AOps.nil rfl
          · replace hc10 := of_false hc10 hb
            refine AOps.go [10, 11] [] [] [91] 0 ⟨[(91, .tv (.bool false))], []⟩ ?_ (Nat.zero_le _) trivial ?_
            · kernel_rfl
            cases hc10
            exact AOps.nil rfl
        subst hJ
        refine AOps.go [12] [13, 14, 15] [] [92] 0 ⟨[(92, .tv (.bool v18))], []⟩ ?_ (Nat.zero_le _) trivial ?_
        · kernel_rfl
        obtain ⟨v20, hc13, h⟩ := of_bind h
        refine AOps.cut [13, 14] [15] (fun σ => σ = ⟨[(94, .tv (.bool v20))], []⟩) ?_ fun σ' hJ => ?_
        · refine AOps.split (fun b => ⟨[(92, .tv (.bool b))], []⟩) _ (fun hb => ?_) fun hb => ?_
          · replace hc13 := of_true hc13 hb
            obtain ⟨v19, hv19, hc13⟩ := of_bind hc13
            refine AOps.cons (AOne.callP (F := (FF 95 0)) _ rfl rfl rfl _ rfl rfl _ _ rfl Try.call11 [] rfl rfl (f11_ok  hv19) rfl) ?_
            refine AOps.go [14] [] [] [94] 0 ⟨[(94, .tv (.bool v19))], []⟩ ?_ (Nat.zero_le _) trivial ?_
            · kernel_rfl
            cases hc13
            exact AOps.nil rfl
          · replace hc13 := of_false hc13 hb
            refine AOps.go [13, 14] [] [] [94] 0 ⟨[(94, .tv (.bool false))], []⟩ ?_ (Nat.zero_le _) trivial ?_
            · kernel_rfl
            cases hc13
            exact AOps.nil rfl
        subst hJ
        refine AOps.go [15] [] [] [4] 0 ⟨[(4, .tv (.bool v20))], []⟩ ?_ (Nat.zero_le _) trivial ?_
        · kernel_rfl
        refine AOps.nil ?_
        refine AWp.ret ?_
        cases h
        exact ⟨.inr rfl, rfl⟩

noncomputable def f8 (v1 : T31) (v2 : T31) (v3 : List T48) : Option Bool :=
  (f10 [v1, v2]).bind fun v4 => (cond v4 (some true) (some (decide ((v3.length : Int) > (100 : Int))))).bind fun v5 => cond v5 ((f11 ).bind fun v6 => some v6) ((f14 v1 v3).bind fun v7 => (f14 v2 v3).bind fun v8 => (cond (v7.2 != (0 : Int)) (some true) (some (v8.2 != (0 : Int)))).bind fun v9 => (cond v9 (some true) (some (!v7.1))).bind fun v10 => (cond v10 (some true) (some (!v8.1))).bind fun v11 => cond v11 ((f11 ).bind fun v12 => some v12) ((f23 v1 v2).bind fun v13 => (f21 v1 v2).bind fun v14 => (cond (v13.2 == (0 : Int)) (cond (v14.2 == (0 : Int)) ((f15 v1).bind fun v16 => (f15 v2).bind fun v17 => cond (v14.1 == (v16 == v17)) ((f11 ).bind fun v18 => some v18) (some false)) (some false)) (some false)).bind fun v15 => some v15))

theorem f8_ok (v1 : T31) (v2 : T31) (v3 : List T48) {r : Bool} (h : f8 v1 v2 v3 = some r) : ACall Try.prog 8 [.agg [.str v1.f0, fzL 3 c48 v1.f1], .agg [.str v2.f0, fzL 3 c48 v2.f1], .tv (fzL 3 c48 v3)] [] (.tv (.bool r)) [] := by
  refine ACall.of1 (FF 82 0) Try.func8 rfl Try.ntmps8 Try.results8 (Nat.le_of_ble_eq_true rfl) rfl rfl ?_
  refine AWp.seq ?_
  refine AWp.start [0, 1, 2] [] [] [2, 3, 4] 2 ⟨[(2, .tv (fzL 3 c48 v3)), (3, .pc 0 0), (4, .pc 1 0)], [.cells 32 [.str v1.f0, fzL 3 c48 v1.f1], .cells 32 [.str v2.f0, fzL 3 c48 v2.f1]]⟩ rfl ?_ (Nat.zero_le _) trivial ?_
  · kernel_rfl
  refine AOps.nil ?_
  refine AWp.seq ?_
  refine AWp.seq ?_
  refine AWp.pin 0 rfl rfl ?_
  refine AWp.pin 1 rfl rfl ?_
  refine AWp.keepTo [2, 3, 4] 0 ⟨[(2, .tv (fzL 3 c48 v3)), (3, .rp [.str v1.f0, fzL 3 c48 v1.f1]), (4, .rp [.str v2.f0, fzL 3 c48 v2.f1])], []⟩ ?_ (Nat.zero_le _) ?_
  · kernel_rfl
  refine AWp.start [0, 1, 2] [3, 4, 5, 6, 7, 8] [] [2, 3, 4, 17] 0 ⟨[(2, .tv (fzL 3 c48 v3)), (3, .rp [.str v1.f0, fzL 3 c48 v1.f1]), (4, .rp [.str v2.f0, fzL 3 c48 v2.f1]), (17, .tv (.own 2 32 2 (newRowF [.str v1.f0, fzL 3 c48 v1.f1, .str v2.f0, fzL 3 c48 v2.f1] 2)))], []⟩ rfl ?_ (Nat.zero_le _) trivial ?_
  · kernel_rfl
  refine AOps.extL 17 c31 [v1, v2] rfl rfl (row_at c31 2 (fun _ => rfl) [v1, v2] _ rfl) ?_
  refine AOps.freezeL 17 c31 [v1, v2] rfl (fun _ => rfl) ?_
  obtain ⟨v4, hv4, h⟩ := of_bind h
  refine AOps.cons (AOne.callP (F := (FF 82 0)) _ rfl rfl rfl _ rfl rfl _ _ rfl Try.call10 [.tv (fzL 2 c31 [v1, v2])] rfl rfl (f10_ok [v1, v2] hv4) rfl) ?_
  refine AOps.go [4] [5, 6, 7, 8] [] [2, 3, 4, 19] 0 ⟨[(2, .tv (fzL 3 c48 v3)), (3, .rp [.str v1.f0, fzL 3 c48 v1.f1]), (4, .rp [.str v2.f0, fzL 3 c48 v2.f1]), (19, .tv (.bool v4))], []⟩ ?_ (Nat.zero_le _) trivial ?_
  · kernel_rfl
  obtain ⟨v5, hc5, h⟩ := of_bind h
  refine AOps.cut [5, 6, 7, 8] [] (fun σ => σ = ⟨[(2, .tv (fzL 3 c48 v3)), (3, .rp [.str v1.f0, fzL 3 c48 v1.f1]), (4, .rp [.str v2.f0, fzL 3 c48 v2.f1]), (23, .tv (.bool v5))], []⟩) ?_ fun σ' hJ => ?_
  · refine AOps.split (fun b => ⟨[(2, .tv (fzL 3 c48 v3)), (3, .rp [.str v1.f0, fzL 3 c48 v1.f1]), (4, .rp [.str v2.f0, fzL 3 c48 v2.f1]), (19, .tv (.bool b))], []⟩) _ (fun hb => ?_) fun hb => ?_
    · replace hc5 := of_true hc5 hb
      refine AOps.go [5, 6, 7, 8] [] [] [2, 3, 4, 23] 0 ⟨[(2, .tv (fzL 3 c48 v3)), (3, .rp [.str v1.f0, fzL 3 c48 v1.f1]), (4, .rp [.str v2.f0, fzL 3 c48 v2.f1]), (23, .tv (.bool true))], []⟩ ?_ (Nat.zero_le _) trivial ?_
      · kernel_rfl
      cases hc5
      exact AOps.nil rfl
    · replace hc5 := of_false hc5 hb
      refine AOps.go [5, 6, 7, 8] [] [] [2, 3, 4, 23] 0 ⟨[(2, .tv (fzL 3 c48 v3)), (3, .rp [.str v1.f0, fzL 3 c48 v1.f1]), (4, .rp [.str v2.f0, fzL 3 c48 v2.f1]), (23, .tv (.bool (decide ((v3.length : Int) > (100 : Int)))))], []⟩ ?_ (Nat.zero_le _) trivial ?_
      · kernel_rfl
      cases hc5
      exact AOps.nil rfl
  subst hJ
  refine AOps.nil ?_
  refine AWp.cond rfl (fun hb => ?_) fun hb => ?_
  · replace h := of_true h hb
    refine AWp.keepTo [] 0 ⟨[], []⟩ ?_ (Nat.zero_le _) ?_
    · kernel_rfl
    refine AWp.seq ?_
    refine AWp.start [] [0, 1] [] [] 0 ⟨[], []⟩ rfl ?_ (Nat.zero_le _) trivial ?_
    · kernel_rfl
    obtain ⟨v6, hv6, h⟩ := of_bind h
    refine AOps.cons (AOne.callP (F := (FF 82 0)) _ rfl rfl rfl _ rfl rfl _ _ rfl Try.call11 [] rfl rfl (f11_ok  hv6) rfl) ?_
    refine AOps.go [1] [] [] [6] 0 ⟨[(6, .tv (.bool v6))], []⟩ ?_ (Nat.zero_le _) trivial ?_
    · kernel_rfl
    refine AOps.nil ?_
    refine AWp.ret ?_
    cases h
    exact ⟨.inr rfl, rfl⟩
  · replace h := of_false h hb
    refine AWp.keepTo [2, 3, 4] 0 ⟨[(2, .tv (fzL 3 c48 v3)), (3, .rp [.str v1.f0, fzL 3 c48 v1.f1]), (4, .rp [.str v2.f0, fzL 3 c48 v2.f1])], []⟩ ?_ (Nat.zero_le _) ?_
    · kernel_rfl
    refine AWp.skip ?_
    refine AWp.seq ?_
    refine AWp.start [0, 1] [2, 3, 4, 5, 6, 7] [] [2, 3, 4, 26, 27] 0 ⟨[(2, .tv (fzL 3 c48 v3)), (3, .rp [.str v1.f0, fzL 3 c48 v1.f1]), (4, .rp [.str v2.f0, fzL 3 c48 v2.f1]), (26, .agg [.str v1.f0, fzL 3 c48 v1.f1]), (27, .tv (fzL 3 c48 v3))], []⟩ rfl ?_ (Nat.zero_le _) trivial ?_
    · kernel_rfl
    obtain ⟨v7, hv7, h⟩ := of_bind h
    refine AOps.cons (AOne.callP (F := (FF 82 0)) _ rfl rfl rfl _ rfl rfl _ _ rfl Try.call14 [.agg [.str v1.f0, fzL 3 c48 v1.f1], .tv (fzL 3 c48 v3)] rfl rfl (f14_ok v1 v3 hv7) rfl) ?_
    refine AOps.go [3, 4, 5, 6, 7] [] [] [2, 3, 4, 7, 8] 0 ⟨[(2, .tv (fzL 3 c48 v3)), (3, .rp [.str v1.f0, fzL 3 c48 v1.f1]), (4, .rp [.str v2.f0, fzL 3 c48 v2.f1]), (7, .tv (.bool v7.1)), (8, .tv (.int .i64 v7.2))], []⟩ ?_ (Nat.zero_le _) trivial ?_
    · kernel_rfl
    refine AOps.nil ?_
    refine AWp.seq ?_
    refine AWp.start [0, 1] [2, 3, 4, 5, 6, 7] [] [3, 4, 7, 8, 32, 33] 0 ⟨[(3, .rp [.str v1.f0, fzL 3 c48 v1.f1]), (4, .rp [.str v2.f0, fzL 3 c48 v2.f1]), (7, .tv (.bool v7.1)), (8, .tv (.int .i64 v7.2)), (32, .agg [.str v2.f0, fzL 3 c48 v2.f1]), (33, .tv (fzL 3 c48 v3))], []⟩ rfl ?_ (Nat.zero_le _) trivial ?_
    · kernel_rfl
    obtain ⟨v8, hv8, h⟩ := of_bind h
    refine AOps.cons (AOne.callP (F := (FF 82 0)) _ rfl rfl rfl _ rfl rfl _ _ rfl Try.call14 [.agg [.str v2.f0, fzL 3 c48 v2.f1], .tv (fzL 3 c48 v3)] rfl rfl (f14_ok v2 v3 hv8) rfl) ?_
    refine AOps.go [3, 4, 5, 6, 7] [] [] [3, 4, 7, 8, 9, 10] 0 ⟨[(3, .rp [.str v1.f0, fzL 3 c48 v1.f1]), (4, .rp [.str v2.f0, fzL 3 c48 v2.f1]), (7, .tv (.bool v7.1)), (8, .tv (.int .i64 v7.2)), (9, .tv (.bool v8.1)), (10, .tv (.int .i64 v8.2))], []⟩ ?_ (Nat.zero_le _) trivial ?_
    · kernel_rfl
    refine AOps.nil ?_
    refine AWp.seq ?_
    refine AWp.seq ?_
    refine AWp.start [0, 1, 2] [3, 4, 5, 6, 7, 8, 9, 10, 11, 12, 13] [] [3, 4, 7, 9, 10, 39] 0 ⟨[(3, .rp [.str v1.f0, fzL 3 c48 v1.f1]), (4, .rp [.str v2.f0, fzL 3 c48 v2.f1]), (7, .tv (.bool v7.1)), (9, .tv (.bool v8.1)), (10, .tv (.int .i64 v8.2)), (39, .tv (.bool (v7.2 != (0 : Int))))], []⟩ rfl ?_ (Nat.zero_le _) trivial ?_
    · kernel_rfl
    obtain ⟨v9, hc3, h⟩ := of_bind h
    refine AOps.cut [3, 4, 5] [6, 7, 8, 9, 10, 11, 12, 13] (fun σ => σ = ⟨[(3, .rp [.str v1.f0, fzL 3 c48 v1.f1]), (4, .rp [.str v2.f0, fzL 3 c48 v2.f1]), (7, .tv (.bool v7.1)), (9, .tv (.bool v8.1)), (42, .tv (.bool v9))], []⟩) ?_ fun σ' hJ => ?_
    · refine AOps.split (fun b => ⟨[(3, .rp [.str v1.f0, fzL 3 c48 v1.f1]), (4, .rp [.str v2.f0, fzL 3 c48 v2.f1]), (7, .tv (.bool v7.1)), (9, .tv (.bool v8.1)), (10, .tv (.int .i64 v8.2)), (39, .tv (.bool b))], []⟩) _ (fun hb => ?_) fun hb => ?_
      · replace hc3 := of_true hc3 hb
        refine AOps.go [3, 4, 5] [] [] [3, 4, 7, 9, 42] 0 ⟨[(3, .rp [.str v1.f0, fzL 3 c48 v1.f1]), (4, .rp [.str v2.f0, fzL 3 c48 v2.f1]), (7, .tv (.bool v7.1)), (9, .tv (.bool v8.1)), (42, .tv (.bool true))], []⟩ ?_ (Nat.zero_le _) trivial ?_
        · kernel_rfl
        cases hc3
        exact AOps.nil rfl
      · replace hc3 := of_false hc3 hb
        refine AOps.go [3, 4, 5] [] [] [3, 4, 7, 9, 42] 0 ⟨[(3, .rp [.str v1.f0, fzL 3 c48 v1.f1]), (4, .rp [.str v2.f0, fzL 3 c48 v2.f1]), (7, .tv (.bool v7.1)), (9, .tv (.bool v8.1)), (42, .tv (.bool (v8.2 != (0 : Int))))], []⟩ ?_ (Nat.zero_le _) trivial ?_
        · kernel_rfl
        cases hc3
        exact AOps.nil rfl
    subst hJ
    refine AOps.go [6] [7, 8, 9, 10, 11, 12, 13] [] [3, 4, 7, 9, 43] 0 ⟨[(3, .rp [.str v1.f0, fzL 3 c48 v1.f1]), (4, .rp [.str v2.f0, fzL 3 c48 v2.f1]), (7, .tv (.bool v7.1)), (9, .tv (.bool v8.1)), (43, .tv (.bool v9))], []⟩ ?_ (Nat.zero_le _) trivial ?_
    · kernel_rfl
    obtain ⟨v10, hc7, h⟩ := of_bind h
    refine AOps.cut [7, 8, 9] [10, 11, 12, 13] (fun σ => σ = ⟨[(3, .rp [.str v1.f0, fzL 3 c48 v1.f1]), (4, .rp [.str v2.f0, fzL 3 c48 v2.f1]), (9, .tv (.bool v8.1)), (46, .tv (.bool v10))], []⟩) ?_ fun σ' hJ => ?_
    · refine AOps.split (fun b => ⟨[(3, .rp [.str v1.f0, fzL 3 c48 v1.f1]), (4, .rp [.str v2.f0, fzL 3 c48 v2.f1]), (7, .tv (.bool v7.1)), (9, .tv (.bool v8.1)), (43, .tv (.bool b))], []⟩) _ (fun hb => ?_) fun hb => ?_
      · replace hc7 := of_true hc7 hb
        refine AOps.go [7, 8, 9] [] [] [3, 4, 9, 46] 0 ⟨[(3, .rp [.str v1.f0, fzL 3 c48 v1.f1]), (4, .rp [.str v2.f0, fzL 3 c48 v2.f1]), (9, .tv (.bool v8.1)), (46, .tv (.bool true))], []⟩ ?_ (Nat.zero_le _) trivial ?_
        · kernel_rfl
        cases hc7
        exact AOps.nil rfl
      · replace hc7 := of_false hc7 hb
        refine AOps.go [7, 8, 9] [] [] [3, 4, 9, 46] 0 ⟨[(3, .rp [.str v1.f0, fzL 3 c48 v1.f1]), (4, .rp [.str v2.f0, fzL 3 c48 v2.f1]), (9, .tv (.bool v8.1)), (46, .tv (.bool (!v7.1)))], []⟩ ?_ (Nat.zero_le _) trivial ?_
        · kernel_rfl
        cases hc7
        exact AOps.nil rfl
    subst hJ
    refine AOps.go [10] [11, 12, 13] [] [3, 4, 9, 47] 0 ⟨[(3, .rp [.str v1.f0, fzL 3 c48 v1.f1]), (4, .rp [.str v2.f0, fzL 3 c48 v2.f1]), (9, .tv (.bool v8.1)), (47, .tv (.bool v10))], []⟩ ?_ (Nat.zero_le _) trivial ?_
    · kernel_rfl
    obtain ⟨v11, hc11, h⟩ := of_bind h
    refine AOps.cut [11, 12, 13] [] (fun σ => σ = ⟨[(3, .rp [.str v1.f0, fzL 3 c48 v1.f1]), (4, .rp [.str v2.f0, fzL 3 c48 v2.f1]), (50, .tv (.bool v11))], []⟩) ?_ fun σ' hJ => ?_
    · refine AOps.split (fun b => ⟨[(3, .rp [.str v1.f0, fzL 3 c48 v1.f1]), (4, .rp [.str v2.f0, fzL 3 c48 v2.f1]), (9, .tv (.bool v8.1)), (47, .tv (.bool b))], []⟩) _ (fun hb => ?_) fun hb => ?_
      · replace hc11 := of_true hc11 hb
        refine AOps.go [11, 12, 13] [] [] [3, 4, 50] 0 ⟨[(3, .rp [.str v1.f0, fzL 3 c48 v1.f1]), (4, .rp [.str v2.f0, fzL 3 c48 v2.f1]), (50, .tv (.bool true))], []⟩ ?_ (Nat.zero_le _) trivial ?_
        · kernel_rfl
        cases hc11
        exact AOps.nil rfl
      · replace hc11 := of_false hc11 hb
        refine AOps.go [11, 12, 13] [] [] [3, 4, 50] 0 ⟨[(3, .rp [.str v1.f0, fzL 3 c48 v1.f1]), (4, .rp [.str v2.f0, fzL 3 c48 v2.f1]), (50, .tv (.bool (!v8.1)))], []⟩ ?_ (Nat.zero_le _) trivial ?_
        · kernel_rfl
        cases hc11
        exact AOps.nil rfl
    subst hJ
    refine AOps.nil ?_
    refine AWp.cond rfl (fun hb => ?_) fun hb => ?_
    · replace h := of_true h hb
      refine AWp.keepTo [] 0 ⟨[], []⟩ ?_ (Nat.zero_le _) ?_
      · kernel_rfl
      refine AWp.seq ?_
      refine AWp.start [] [0, 1] [] [] 0 ⟨[], []⟩ rfl ?_ (Nat.zero_le _) trivial ?_
      · kernel_rfl
      obtain ⟨v12, hv12, h⟩ := of_bind h
      refine AOps.cons (AOne.callP (F := (FF 82 0)) _ rfl rfl rfl _ rfl rfl _ _ rfl Try.call11 [] rfl rfl (f11_ok  hv12) rfl) ?_
      refine AOps.go [1] [] [] [6] 0 ⟨[(6, .tv (.bool v12))], []⟩ ?_ (Nat.zero_le _) trivial ?_
      · kernel_rfl
      refine AOps.nil ?_
      refine AWp.ret ?_
      cases h
      exact ⟨.inr rfl, rfl⟩
    · replace h := of_false h hb
      refine AWp.keepTo [3, 4] 0 ⟨[(3, .rp [.str v1.f0, fzL 3 c48 v1.f1]), (4, .rp [.str v2.f0, fzL 3 c48 v2.f1])], []⟩ ?_ (Nat.zero_le _) ?_
      · kernel_rfl
      refine AWp.skip ?_
      refine AWp.seq ?_
      refine AWp.start [0, 1] [2, 3, 4, 5, 6, 7] [] [3, 4, 53, 54] 0 ⟨[(3, .rp [.str v1.f0, fzL 3 c48 v1.f1]), (4, .rp [.str v2.f0, fzL 3 c48 v2.f1]), (53, .agg [.str v1.f0, fzL 3 c48 v1.f1]), (54, .agg [.str v2.f0, fzL 3 c48 v2.f1])], []⟩ rfl ?_ (Nat.zero_le _) trivial ?_
      · kernel_rfl
      obtain ⟨v13, hv13, h⟩ := of_bind h
      refine AOps.cons (AOne.callP (F := (FF 82 0)) _ rfl rfl rfl _ rfl rfl _ _ rfl Try.call23 [.agg [.str v1.f0, fzL 3 c48 v1.f1], .agg [.str v2.f0, fzL 3 c48 v2.f1]] rfl rfl (f23_ok v1 v2 hv13) rfl) ?_
      refine AOps.go [3, 4, 5, 6, 7] [] [] [3, 4, 12] 0 ⟨[(3, .rp [.str v1.f0, fzL 3 c48 v1.f1]), (4, .rp [.str v2.f0, fzL 3 c48 v2.f1]), (12, .tv (.int .i64 v13.2))], []⟩ ?_ (Nat.zero_le _) trivial ?_
      · kernel_rfl
      refine AOps.nil ?_
      refine AWp.seq ?_
      refine AWp.start [0, 1] [2, 3, 4, 5, 6, 7] [] [3, 4, 12, 59, 60] 0 ⟨[(3, .rp [.str v1.f0, fzL 3 c48 v1.f1]), (4, .rp [.str v2.f0, fzL 3 c48 v2.f1]), (12, .tv (.int .i64 v13.2)), (59, .agg [.str v1.f0, fzL 3 c48 v1.f1]), (60, .agg [.str v2.f0, fzL 3 c48 v2.f1])], []⟩ rfl ?_ (Nat.zero_le _) trivial ?_
      · kernel_rfl
      obtain ⟨v14, hv14, h⟩ := of_bind h
      refine AOps.cons (AOne.callP (F := (FF 82 0)) _ rfl rfl rfl _ rfl rfl _ _ rfl Try.call21 [.agg [.str v1.f0, fzL 3 c48 v1.f1], .agg [.str v2.f0, fzL 3 c48 v2.f1]] rfl rfl (f21_ok v1 v2 hv14) rfl) ?_
      refine AOps.go [3, 4, 5, 6, 7] [] [] [3, 4, 12, 13, 14] 0 ⟨[(3, .rp [.str v1.f0, fzL 3 c48 v1.f1]), (4, .rp [.str v2.f0, fzL 3 c48 v2.f1]), (12, .tv (.int .i64 v13.2)), (13, .tv (.bool v14.1)), (14, .tv (.int .i64 v14.2))], []⟩ ?_ (Nat.zero_le _) trivial ?_
      · kernel_rfl
      refine AOps.nil ?_
      refine AWp.seq ?_
      obtain ⟨v15, hd, h⟩ := of_bind h
      refine AWp.draw FFm (fun σ => σ = ⟨[(6, .tv (.bool v15))], []⟩) (n := 19) rfl (ls := #[false, false, false, false, false, false, false, false, false, false, false, false, false, false, false, false, false, false, false]) rfl ?_ ?_
      · refine AAny.go (by kernel_rfl) [0, 1, 2] (fuel' := 16) rfl [] #[true, true, true, false, false, false, false, false, false, false, false, false, false, false, false, false, false, false, false] [3, 4, 13, 14, 66] 0 ⟨[(3, .rp [.str v1.f0, fzL 3 c48 v1.f1]), (4, .rp [.str v2.f0, fzL 3 c48 v2.f1]), (13, .tv (.bool v14.1)), (14, .tv (.int .i64 v14.2)), (66, .tv (.bool (v13.2 == (0 : Int))))], []⟩ ?_ (Nat.zero_le _) trivial ?_
        · kernel_rfl
        refine AAny.split (fun b => ⟨[(3, .rp [.str v1.f0, fzL 3 c48 v1.f1]), (4, .rp [.str v2.f0, fzL 3 c48 v2.f1]), (13, .tv (.bool v14.1)), (14, .tv (.int .i64 v14.2)), (66, .tv (.bool b))], []⟩) _ (fun hb => ?_) fun hb => ?_
        · replace hd := of_true hd hb
          refine AAny.go (by kernel_rfl) [3, 4, 5, 6] (fuel' := 12) rfl [] #[true, true, true, true, true, true, true, false, false, false, false, false, false, false, false, false, false, false, false] [3, 4, 13, 70] 0 ⟨[(3, .rp [.str v1.f0, fzL 3 c48 v1.f1]), (4, .rp [.str v2.f0, fzL 3 c48 v2.f1]), (13, .tv (.bool v14.1)), (70, .tv (.bool (v14.2 == (0 : Int))))], []⟩ ?_ (Nat.zero_le _) trivial ?_
          · kernel_rfl
          refine AAny.split (fun b => ⟨[(3, .rp [.str v1.f0, fzL 3 c48 v1.f1]), (4, .rp [.str v2.f0, fzL 3 c48 v2.f1]), (13, .tv (.bool v14.1)), (70, .tv (.bool b))], []⟩) _ (fun hb => ?_) fun hb => ?_
          · replace hd := of_true hd hb
            refine AAny.go (by kernel_rfl) [7, 8, 10] (fuel' := 9) rfl [] #[true, true, true, true, true, true, true, true, true, false, true, false, false, false, false, false, false, false, false] [70, 71, 72, 74] 0 ⟨[(70, .tv (.bool true)), (71, .tv (.bool v14.1)), (72, .agg [.str v1.f0, fzL 3 c48 v1.f1]), (74, .agg [.str v2.f0, fzL 3 c48 v2.f1])], []⟩ ?_ (Nat.zero_le _) trivial ?_
            · kernel_rfl
            obtain ⟨v16, hv16, hd⟩ := of_bind hd
            refine AAny.serial (i := 9) (fuel := 8) (by kernel_rfl) (AOne.callP (F := (FF 82 0)) _ rfl rfl rfl _ rfl rfl _ _ rfl Try.call15 [.agg [.str v1.f0, fzL 3 c48 v1.f1]] rfl rfl (f15_ok v1 hv16) rfl) ?_
            refine AAny.keepTo [70, 71, 73, 74] 0 ⟨[(70, .tv (.bool true)), (71, .tv (.bool v14.1)), (73, .tv (.bool v16)), (74, .agg [.str v2.f0, fzL 3 c48 v2.f1])], []⟩ #[true, true, true, true, true, true, true, true, true, true, true, false, false, false, false, false, false, false, false] ?_ rfl (Nat.zero_le _) ?_
            · kernel_rfl
            obtain ⟨v17, hv17, hd⟩ := of_bind hd
            refine AAny.serial (i := 11) (fuel := 7) (by kernel_rfl) (AOne.callP (F := (FF 82 0)) _ rfl rfl rfl _ rfl rfl _ _ rfl Try.call15 [.agg [.str v2.f0, fzL 3 c48 v2.f1]] rfl rfl (f15_ok v2 hv17) rfl) ?_
            refine AAny.keepTo [70, 71, 73, 75] 0 ⟨[(70, .tv (.bool true)), (71, .tv (.bool v14.1)), (73, .tv (.bool v16)), (75, .tv (.bool v17))], []⟩ #[true, true, true, true, true, true, true, true, true, true, true, true, false, false, false, false, false, false, false] ?_ rfl (Nat.zero_le _) ?_
            · kernel_rfl
            refine AAny.go (by kernel_rfl) [12, 13, 14, 15] (fuel' := 3) rfl [] #[true, true, true, true, true, true, true, true, true, true, true, true, true, true, true, true, false, false, false] [79] 0 ⟨[(79, .tv (.bool (v14.1 == (v16 == v17))))], []⟩ ?_ (Nat.zero_le _) trivial ?_
            · kernel_rfl
            refine AAny.split (fun b => ⟨[(79, .tv (.bool b))], []⟩) _ (fun hb => ?_) fun hb => ?_
            · replace hd := of_true hd hb
              obtain ⟨v18, hv18, hd⟩ := of_bind hd
              refine AAny.serial (i := 16) (fuel := 2) (by kernel_rfl) (AOne.callP (F := (FF 82 0)) _ rfl rfl rfl _ rfl rfl _ _ rfl Try.call11 [] rfl rfl (f11_ok  hv18) rfl) ?_
              refine AAny.keepTo [79, 80] 0 ⟨[(79, .tv (.bool true)), (80, .tv (.bool v18))], []⟩ #[true, true, true, true, true, true, true, true, true, true, true, true, true, true, true, true, true, false, false] ?_ rfl (Nat.zero_le _) ?_
              · kernel_rfl
              refine AAny.go (by kernel_rfl) [17, 18] (fuel' := 0) rfl [] #[true, true, true, true, true, true, true, true, true, true, true, true, true, true, true, true, true, true, true] [6] 0 ⟨[(6, .tv (.bool v18))], []⟩ ?_ (Nat.zero_le _) trivial ?_
              · kernel_rfl
              refine AAny.keepTo [6] 0 ⟨[(6, .tv (.bool v18))], []⟩ _ ?_ rfl (Nat.zero_le _) (AAny.done (by kernel_rfl) ?_)
              · kernel_rfl
              cases hd
              exact rfl
            · replace hd := of_false hd hb
              refine AAny.go (by kernel_rfl) [16, 17, 18] (fuel' := 0) rfl [] #[true, true, true, true, true, true, true, true, true, true, true, true, true, true, true, true, true, true, true] [6] 0 ⟨[(6, .tv (.bool false))], []⟩ ?_ (Nat.zero_le _) trivial ?_
              · kernel_rfl
              refine AAny.keepTo [6] 0 ⟨[(6, .tv (.bool false))], []⟩ _ ?_ rfl (Nat.zero_le _) (AAny.done (by kernel_rfl) ?_)
              · kernel_rfl
              cases hd
              exact rfl
          · replace hd := of_false hd hb
            refine AAny.go (by kernel_rfl) [7, 8, 9, 10, 11, 12, 13, 14, 15, 16, 17, 18] (fuel' := 0) rfl [] #[true, true, true, true, true, true, true, true, true, true, true, true, true, true, true, true, true, true, true] [6] 0 ⟨[(6, .tv (.bool false))], []⟩ ?_ (Nat.zero_le _) trivial ?_
            · kernel_rfl
            refine AAny.keepTo [6] 0 ⟨[(6, .tv (.bool false))], []⟩ _ ?_ rfl (Nat.zero_le _) (AAny.done (by kernel_rfl) ?_)
            · kernel_rfl
            cases hd
            exact rfl
        · replace hd := of_false hd hb
          refine AAny.go (by kernel_rfl) [3, 4, 5, 6, 7, 8, 9, 10, 11, 12, 13, 14, 15, 16, 17, 18] (fuel' := 0) rfl [] #[true, true, true, true, true, true, true, true, true, true, true, true, true, true, true, true, true, true, true] [6] 0 ⟨[(6, .tv (.bool false))], []⟩ ?_ (Nat.zero_le _) trivial ?_
          · kernel_rfl
          refine AAny.keepTo [6] 0 ⟨[(6, .tv (.bool false))], []⟩ _ ?_ rfl (Nat.zero_le _) (AAny.done (by kernel_rfl) ?_)
          · kernel_rfl
          cases hd
          exact rfl
      rintro σ' rfl
      refine AWp.ret ?_
      cases h
      exact ⟨.inr rfl, rfl⟩

end Go.Sx.gen
