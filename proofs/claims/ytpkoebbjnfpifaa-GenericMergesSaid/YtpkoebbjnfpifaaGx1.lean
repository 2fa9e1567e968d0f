/- Printed by program (wip/gen): plain functions and their walks; no condition. -/
import Derived.Test.YtpkoebbjnfpifaaGx0
namespace Go.Sx.gen
open Go Go.Sx Go.Proofs

noncomputable def f12_b1 (v1 : List T31) (v2 : List T48) (v7 : Int) (v8 : Int) : Option (Int ⊕ Out (Int × Int) Unit) :=
  cond (decide (v8 < (v1.length : Int))) (if (0 : Int) ≤ v8 ∧ v8 < (v1.length : Int) then (f32 (v1.getD v8.toNat default)).bind fun v9 => (cond (v9 == ([false, true].getD v7.toNat default)) ((f33 (v1.getD v8.toNat default) v2).bind fun v10 => some v10) (some false)).bind fun v11 => cond v11 (some (.inr (.ret (v8, (0 : Int))))) (some (.inl (w64 (v8 + (1 : Int))))) else none) (some (.inr (.go ())))

noncomputable def f12_b2 (v1 : List T31) (v2 : List T48) (v7 : Int) : Option (Int ⊕ Out (Int × Int) Unit) :=
  cond (decide (v7 < ([false, true].length : Int))) (if (0 : Int) ≤ v7 ∧ v7 < ([false, true].length : Int) then (iter (fun s => f12_b1 v1 v2 v7 s) (0 : Int)).bind fun y => match y with | .ret v12 => some (.inr (.ret (v12.1, v12.2))) | .go _ => some (.inl (w64 (v7 + (1 : Int)))) else none) (some (.inr (.go ())))

noncomputable def f12 (v1 : List T31) (v2 : List T48) : Option (Int × Int) :=
  (f29 v1).bind fun v3 => (cond (!v3) (some true) ((f30 v2).bind fun v4 => some (!v4))).bind fun v5 => cond v5 (some ((0 : Int), (2 : Int))) ((f31 v1).bind fun v6 => cond v6.2.2 (some ((0 : Int), (8 : Int))) ((iter (fun s => f12_b2 v1 v2 s) (0 : Int)).bind fun y => match y with | .ret v13 => some (v13.1, v13.2) | .go _ => some ((0 : Int), (5 : Int))))

theorem f12_ok (v1 : List T31) (v2 : List T48) {r : Int × Int} (h : f12 v1 v2 = some r) : ACall Try.prog 12 [.tv (fzL 2 c31 v1), .tv (fzL 3 c48 v2)] [] (.tup [.tv (.int .i64 r.1), .tv (.int .i64 r.2)]) [] := by
  refine ACall.ofN (FF 53 0) (rs := [4, 5]) (env := [(4, .tv (.int .i64 r.1)), (5, .tv (.int .i64 r.2))]) Try.func12 rfl Try.ntmps12 Try.results12 (by decide) (by decide) rfl (Nat.le_of_ble_eq_true rfl) rfl (get_ofN _ _ _ rfl) (ok_ofN _ rfl) ?_
  refine AWp.seq ?_
  refine AWp.start [0, 1] [] [] [0, 1] 0 ⟨[(0, .tv (fzL 2 c31 v1)), (1, .tv (fzL 3 c48 v2))], []⟩ rfl ?_ (Nat.zero_le _) trivial ?_
  · kernel_rfl
  refine AOps.nil ?_
  refine AWp.seq ?_
  refine AWp.seq ?_
  refine AWp.start [0] [1, 2, 3, 4, 5, 6, 7] [] [0, 1, 13] 0 ⟨[(0, .tv (fzL 2 c31 v1)), (1, .tv (fzL 3 c48 v2)), (13, .tv (fzL 2 c31 v1))], []⟩ rfl ?_ (Nat.zero_le _) trivial ?_
  · kernel_rfl
  obtain ⟨v3, hv3, h⟩ := of_bind h
  refine AOps.cons (AOne.callP (F := (FF 53 0)) _ rfl rfl rfl _ rfl rfl _ _ rfl Try.call29 [.tv (fzL 2 c31 v1)] rfl rfl (f29_ok v1 hv3) rfl) ?_
  refine AOps.go [2, 3] [4, 5, 6, 7] [] [0, 1, 16] 0 ⟨[(0, .tv (fzL 2 c31 v1)), (1, .tv (fzL 3 c48 v2)), (16, .tv (.bool (!v3)))], []⟩ ?_ (Nat.zero_le _) trivial ?_
  · kernel_rfl
  obtain ⟨v5, hc4, h⟩ := of_bind h
  refine AOps.cut [4, 5, 6, 7] [] (fun σ => σ = ⟨[(0, .tv (fzL 2 c31 v1)), (1, .tv (fzL 3 c48 v2)), (20, .tv (.bool v5))], []⟩) ?_ fun σ' hJ => ?_
  · refine AOps.split (fun b => ⟨[(0, .tv (fzL 2 c31 v1)), (1, .tv (fzL 3 c48 v2)), (16, .tv (.bool b))], []⟩) _ (fun hb => ?_) fun hb => ?_
    · replace hc4 := of_true hc4 hb
      refine AOps.go [4, 5, 6, 7] [] [] [0, 1, 20] 0 ⟨[(0, .tv (fzL 2 c31 v1)), (1, .tv (fzL 3 c48 v2)), (20, .tv (.bool true))], []⟩ ?_ (Nat.zero_le _) trivial ?_
      · kernel_rfl
      cases hc4
      exact AOps.nil rfl
    · replace hc4 := of_false hc4 hb
      refine AOps.go [4] [5, 6, 7] [] [0, 1, 16, 17] 0 ⟨[(0, .tv (fzL 2 c31 v1)), (1, .tv (fzL 3 c48 v2)), (16, .tv (.bool false)), (17, .tv (fzL 3 c48 v2))], []⟩ ?_ (Nat.zero_le _) trivial ?_
      · kernel_rfl
      obtain ⟨v4, hv4, hc4⟩ := of_bind hc4
      refine AOps.cons (AOne.callP (F := (FF 53 0)) _ rfl rfl rfl _ rfl rfl _ _ rfl Try.call30 [.tv (fzL 3 c48 v2)] rfl rfl (f30_ok v2 hv4) rfl) ?_
      refine AOps.go [6, 7] [] [] [0, 1, 20] 0 ⟨[(0, .tv (fzL 2 c31 v1)), (1, .tv (fzL 3 c48 v2)), (20, .tv (.bool (!v4)))], []⟩ ?_ (Nat.zero_le _) trivial ?_
      · kernel_rfl
      cases hc4
      exact AOps.nil rfl
  subst hJ
  refine AOps.nil ?_
  refine AWp.cond rfl (fun hb => ?_) fun hb => ?_
  · replace h := of_true h hb
    refine AWp.keepTo [] 0 ⟨[], []⟩ ?_ (Nat.zero_le _) ?_
    · kernel_rfl
    refine AWp.seq ?_
    refine AWp.start [0, 1] [] [] [4, 5] 0 ⟨[(4, .tv (.int .i64 (0 : Int))), (5, .tv (.int .i64 (2 : Int)))], []⟩ rfl ?_ (Nat.zero_le _) trivial ?_
    · kernel_rfl
    refine AOps.nil ?_
    refine AWp.ret ?_
    cases h
    exact ⟨.inr rfl, rfl⟩
  · replace h := of_false h hb
    refine AWp.keepTo [0, 1] 0 ⟨[(0, .tv (fzL 2 c31 v1)), (1, .tv (fzL 3 c48 v2))], []⟩ ?_ (Nat.zero_le _) ?_
    · kernel_rfl
    refine AWp.skip ?_
    refine AWp.seq ?_
    refine AWp.seq ?_
    refine AWp.start [0] [1, 2, 3, 4, 5, 6, 7, 8] [] [0, 1, 22] 0 ⟨[(0, .tv (fzL 2 c31 v1)), (1, .tv (fzL 3 c48 v2)), (22, .tv (fzL 2 c31 v1))], []⟩ rfl ?_ (Nat.zero_le _) trivial ?_
    · kernel_rfl
    obtain ⟨v6, hv6, h⟩ := of_bind h
    refine AOps.cons (AOne.callP (F := (FF 53 0)) _ rfl rfl rfl _ rfl rfl _ _ rfl Try.call31 [.tv (fzL 2 c31 v1)] rfl rfl (f31_ok v1 hv6) rfl) ?_
    refine AOps.go [2, 3, 4, 5, 6, 7, 8] [] [] [0, 1, 8] 0 ⟨[(0, .tv (fzL 2 c31 v1)), (1, .tv (fzL 3 c48 v2)), (8, .tv (.bool v6.2.2))], []⟩ ?_ (Nat.zero_le _) trivial ?_
    · kernel_rfl
    refine AOps.nil ?_
    refine AWp.seq ?_
    refine AWp.start [0] [] [] [0, 1, 27] 0 ⟨[(0, .tv (fzL 2 c31 v1)), (1, .tv (fzL 3 c48 v2)), (27, .tv (.bool v6.2.2))], []⟩ rfl ?_ (Nat.zero_le _) trivial ?_
    · kernel_rfl
    refine AOps.nil ?_
    refine AWp.cond rfl (fun hb => ?_) fun hb => ?_
    · replace h := of_true h hb
      refine AWp.keepTo [] 0 ⟨[], []⟩ ?_ (Nat.zero_le _) ?_
      · kernel_rfl
      refine AWp.seq ?_
      refine AWp.start [0, 1] [] [] [4, 5] 0 ⟨[(4, .tv (.int .i64 (0 : Int))), (5, .tv (.int .i64 (8 : Int)))], []⟩ rfl ?_ (Nat.zero_le _) trivial ?_
      · kernel_rfl
      refine AOps.nil ?_
      refine AWp.ret ?_
      cases h
      exact ⟨.inr rfl, rfl⟩
    · replace h := of_false h hb
      refine AWp.keepTo [0, 1] 0 ⟨[(0, .tv (fzL 2 c31 v1)), (1, .tv (fzL 3 c48 v2))], []⟩ ?_ (Nat.zero_le _) ?_
      · kernel_rfl
      refine AWp.skip ?_
      refine AWp.seq ?_
      refine AWp.seq ?_
      refine AWp.start [0] [1, 2] [] [0, 1, 28] 0 ⟨[(0, .tv (fzL 2 c31 v1)), (1, .tv (fzL 3 c48 v2)), (28, .tv (.own 1 4 2 (newRowF [.bool false, .bool true] 1)))], []⟩ rfl ?_ (Nat.zero_le _) trivial ?_
      · kernel_rfl
      refine AOps.extL 28 cBool [false, true] rfl rfl (row_at cBool 1 (fun _ => rfl) [false, true] _ rfl) ?_
      refine AOps.freezeL 28 cBool [false, true] rfl (fun _ => rfl) ?_
      refine AOps.go [1, 2] [] [] [0, 1, 28, 29, 30] 0 ⟨[(0, .tv (fzL 2 c31 v1)), (1, .tv (fzL 3 c48 v2)), (28, .tv (fzL 1 cBool [false, true])), (29, .tv (.int .i64 ([false, true].length : Int))), (30, .tv (.int .i64 (0 : Int)))], []⟩ ?_ (Nat.zero_le _) trivial ?_
      · kernel_rfl
      refine AOps.nil ?_
      refine AWp.block ?_
      obtain ⟨y, hy, h⟩ := of_bind h
      refine AWp.mono (AWp.loop (S := Int) (Y := Out (Int × Int) Unit) (fun s => ⟨[(0, .tv (fzL 2 c31 v1)), (1, .tv (fzL 3 c48 v2)), (28, .tv (fzL 1 cBool [false, true])), (29, .tv (.int .i64 ([false, true].length : Int))), (30, .tv (.int .i64 s))], []⟩) (fun s => f12_b2 v1 v2 s) (fun y e σ => match y with | .ret r => e = .ret ∧ σ = ⟨[(4, .tv (.int .i64 r.1)), (5, .tv (.int .i64 r.2))], []⟩ | .go v => e = .exit 0 ∧ σ = ⟨[], []⟩) ?_ hy) ?_
      · rintro v7 o h
        refine AWp.seq ?_
        refine AWp.start [0] [] [] [0, 1, 28, 29, 30, 31] 0 ⟨[(0, .tv (fzL 2 c31 v1)), (1, .tv (fzL 3 c48 v2)), (28, .tv (fzL 1 cBool [false, true])), (29, .tv (.int .i64 ([false, true].length : Int))), (30, .tv (.int .i64 v7)), (31, .tv (.bool (decide (v7 < ([false, true].length : Int)))))], []⟩ rfl ?_ (Nat.zero_le _) trivial ?_
        · kernel_rfl
        refine AOps.nil ?_
        refine AWp.seq ?_
        refine AWp.cond rfl (fun hb => ?_) fun hb => ?_
        · replace h := of_true h hb
          refine AWp.keepTo [0, 1, 28, 29, 30] 0 ⟨[(0, .tv (fzL 2 c31 v1)), (1, .tv (fzL 3 c48 v2)), (28, .tv (fzL 1 cBool [false, true])), (29, .tv (.int .i64 ([false, true].length : Int))), (30, .tv (.int .i64 v7))], []⟩ ?_ (Nat.zero_le _) ?_
          · kernel_rfl
          refine AWp.skip ?_
          refine AWp.seq ?_
          refine AWp.block ?_
          refine AWp.seq ?_
          obtain ⟨hg, h⟩ := of_guard h
          refine AWp.start [0, 1, 2] [] [(0 : Int) ≤ v7, v7 < ([false, true].length : Int)] [0, 1, 10, 28, 29, 30] 0 ⟨[(0, .tv (fzL 2 c31 v1)), (1, .tv (fzL 3 c48 v2)), (10, .tv (.bool ([false, true].getD v7.toNat default))), (28, .tv (fzL 1 cBool [false, true])), (29, .tv (.int .i64 ([false, true].length : Int))), (30, .tv (.int .i64 v7))], []⟩ rfl ?_ (Nat.zero_le _) ⟨hg.1, hg.2⟩ ?_
          · kernel_rfl
          refine AOps.nil ?_
          refine AWp.seq ?_
          refine AWp.start [0, 1, 2] [] [] [0, 1, 10, 28, 29, 30, 34, 35, 36] 0 ⟨[(0, .tv (fzL 2 c31 v1)), (1, .tv (fzL 3 c48 v2)), (10, .tv (.bool ([false, true].getD v7.toNat default))), (28, .tv (fzL 1 cBool [false, true])), (29, .tv (.int .i64 ([false, true].length : Int))), (30, .tv (.int .i64 v7)), (34, .tv (fzL 2 c31 v1)), (35, .tv (.int .i64 (v1.length : Int))), (36, .tv (.int .i64 (0 : Int)))], []⟩ rfl ?_ (Nat.zero_le _) trivial ?_
          · kernel_rfl
          refine AOps.nil ?_
          refine AWp.block ?_
          obtain ⟨y, hy, h⟩ := of_bind h
          refine AWp.mono (AWp.loop (S := Int) (Y := Out (Int × Int) Unit) (fun s => ⟨[(0, .tv (fzL 2 c31 v1)), (1, .tv (fzL 3 c48 v2)), (10, .tv (.bool ([false, true].getD v7.toNat default))), (28, .tv (fzL 1 cBool [false, true])), (29, .tv (.int .i64 ([false, true].length : Int))), (30, .tv (.int .i64 v7)), (34, .tv (fzL 2 c31 v1)), (35, .tv (.int .i64 (v1.length : Int))), (36, .tv (.int .i64 s))], []⟩) (fun s => f12_b1 v1 v2 v7 s) (fun y e σ => match y with | .ret r => e = .ret ∧ σ = ⟨[(4, .tv (.int .i64 r.1)), (5, .tv (.int .i64 r.2))], []⟩ | .go v => e = .exit 2 ∧ σ = ⟨[(0, .tv (fzL 2 c31 v1)), (1, .tv (fzL 3 c48 v2)), (28, .tv (fzL 1 cBool [false, true])), (29, .tv (.int .i64 ([false, true].length : Int))), (30, .tv (.int .i64 v7))], []⟩) ?_ hy) ?_
          · rintro v8 o h
            refine AWp.seq ?_
            refine AWp.start [0] [] [] [0, 1, 10, 28, 29, 30, 34, 35, 36, 37] 0 ⟨[(0, .tv (fzL 2 c31 v1)), (1, .tv (fzL 3 c48 v2)), (10, .tv (.bool ([false, true].getD v7.toNat default))), (28, .tv (fzL 1 cBool [false, true])), (29, .tv (.int .i64 ([false, true].length : Int))), (30, .tv (.int .i64 v7)), (34, .tv (fzL 2 c31 v1)), (35, .tv (.int .i64 (v1.length : Int))), (36, .tv (.int .i64 v8)), (37, .tv (.bool (decide (v8 < (v1.length : Int)))))], []⟩ rfl ?_ (Nat.zero_le _) trivial ?_
            · kernel_rfl
            refine AOps.nil ?_
            refine AWp.seq ?_
            refine AWp.cond rfl (fun hb => ?_) fun hb => ?_
            · replace h := of_true h hb
              refine AWp.keepTo [0, 1, 10, 28, 29, 30, 34, 35, 36] 0 ⟨[(0, .tv (fzL 2 c31 v1)), (1, .tv (fzL 3 c48 v2)), (10, .tv (.bool ([false, true].getD v7.toNat default))), (28, .tv (fzL 1 cBool [false, true])), (29, .tv (.int .i64 ([false, true].length : Int))), (30, .tv (.int .i64 v7)), (34, .tv (fzL 2 c31 v1)), (35, .tv (.int .i64 (v1.length : Int))), (36, .tv (.int .i64 v8))], []⟩ ?_ (Nat.zero_le _) ?_
              · kernel_rfl
              refine AWp.skip ?_
              refine AWp.seq ?_
              refine AWp.block ?_
              refine AWp.seq ?_
              obtain ⟨hg, h⟩ := of_guard h
              refine AWp.start [0, 1, 2, 3, 4, 5] [] [(0 : Int) ≤ v8, v8 < (v1.length : Int)] [0, 1, 10, 11, 12, 28, 29, 30, 34, 35, 36] 1 ⟨[(0, .tv (fzL 2 c31 v1)), (1, .tv (fzL 3 c48 v2)), (10, .tv (.bool ([false, true].getD v7.toNat default))), (11, .tv (.int .i64 v8)), (12, .pc 0 0), (28, .tv (fzL 1 cBool [false, true])), (29, .tv (.int .i64 ([false, true].length : Int))), (30, .tv (.int .i64 v7)), (34, .tv (fzL 2 c31 v1)), (35, .tv (.int .i64 (v1.length : Int))), (36, .tv (.int .i64 v8))], [.cells 32 [.str ((v1.getD v8.toNat default).f0), fzL 3 c48 ((v1.getD v8.toNat default).f1)]]⟩ rfl ?_ (Nat.zero_le _) ⟨hg.1, hg.2⟩ ?_
              · kernel_rfl
              refine AOps.nil ?_
              refine AWp.seq ?_
              refine AWp.pin 0 rfl rfl ?_
              refine AWp.keepTo [0, 1, 10, 11, 12, 28, 29, 30, 34, 35, 36] 0 ⟨[(0, .tv (fzL 2 c31 v1)), (1, .tv (fzL 3 c48 v2)), (10, .tv (.bool ([false, true].getD v7.toNat default))), (11, .tv (.int .i64 v8)), (12, .rp [.str ((v1.getD v8.toNat default).f0), fzL 3 c48 ((v1.getD v8.toNat default).f1)]), (28, .tv (fzL 1 cBool [false, true])), (29, .tv (.int .i64 ([false, true].length : Int))), (30, .tv (.int .i64 v7)), (34, .tv (fzL 2 c31 v1)), (35, .tv (.int .i64 (v1.length : Int))), (36, .tv (.int .i64 v8))], []⟩ ?_ (Nat.zero_le _) ?_
              · kernel_rfl
              refine AWp.start [0] [1, 2, 3, 4, 5, 6, 7, 8] [] [0, 1, 10, 11, 12, 28, 29, 30, 34, 35, 36, 41] 0 ⟨[(0, .tv (fzL 2 c31 v1)), (1, .tv (fzL 3 c48 v2)), (10, .tv (.bool ([false, true].getD v7.toNat default))), (11, .tv (.int .i64 v8)), (12, .rp [.str ((v1.getD v8.toNat default).f0), fzL 3 c48 ((v1.getD v8.toNat default).f1)]), (28, .tv (fzL 1 cBool [false, true])), (29, .tv (.int .i64 ([false, true].length : Int))), (30, .tv (.int .i64 v7)), (34, .tv (fzL 2 c31 v1)), (35, .tv (.int .i64 (v1.length : Int))), (36, .tv (.int .i64 v8)), (41, .agg [.str ((v1.getD v8.toNat default).f0), fzL 3 c48 ((v1.getD v8.toNat default).f1)])], []⟩ rfl ?_ (Nat.zero_le _) trivial ?_
              · kernel_rfl
              obtain ⟨v9, hv9, h⟩ := of_bind h
              refine AOps.cons (AOne.callP (F := (FF 53 0)) _ rfl rfl rfl _ rfl rfl _ _ rfl Try.call32 [.agg [.str ((v1.getD v8.toNat default).f0), fzL 3 c48 ((v1.getD v8.toNat default).f1)]] rfl rfl (f32_ok (v1.getD v8.toNat default) hv9) rfl) ?_
              refine AOps.go [2, 3, 4] [5, 6, 7, 8] [] [0, 1, 10, 11, 12, 28, 29, 30, 34, 35, 36, 45] 0 ⟨[(0, .tv (fzL 2 c31 v1)), (1, .tv (fzL 3 c48 v2)), (10, .tv (.bool ([false, true].getD v7.toNat default))), (11, .tv (.int .i64 v8)), (12, .rp [.str ((v1.getD v8.toNat default).f0), fzL 3 c48 ((v1.getD v8.toNat default).f1)]), (28, .tv (fzL 1 cBool [false, true])), (29, .tv (.int .i64 ([false, true].length : Int))), (30, .tv (.int .i64 v7)), (34, .tv (fzL 2 c31 v1)), (35, .tv (.int .i64 (v1.length : Int))), (36, .tv (.int .i64 v8)), (45, .tv (.bool (v9 == ([false, true].getD v7.toNat default))))], []⟩ ?_ (Nat.zero_le _) trivial ?_
              · kernel_rfl
              obtain ⟨v11, hc5, h⟩ := of_bind h
              refine AOps.cut [5, 6, 7, 8] [] (fun σ => σ = ⟨[(0, .tv (fzL 2 c31 v1)), (1, .tv (fzL 3 c48 v2)), (10, .tv (.bool ([false, true].getD v7.toNat default))), (11, .tv (.int .i64 v8)), (28, .tv (fzL 1 cBool [false, true])), (29, .tv (.int .i64 ([false, true].length : Int))), (30, .tv (.int .i64 v7)), (34, .tv (fzL 2 c31 v1)), (35, .tv (.int .i64 (v1.length : Int))), (36, .tv (.int .i64 v8)), (49, .tv (.bool v11))], []⟩) ?_ fun σ' hJ => ?_
              · refine AOps.split (fun b => ⟨[(0, .tv (fzL 2 c31 v1)), (1, .tv (fzL 3 c48 v2)), (10, .tv (.bool ([false, true].getD v7.toNat default))), (11, .tv (.int .i64 v8)), (12, .rp [.str ((v1.getD v8.toNat default).f0), fzL 3 c48 ((v1.getD v8.toNat default).f1)]), (28, .tv (fzL 1 cBool [false, true])), (29, .tv (.int .i64 ([false, true].length : Int))), (30, .tv (.int .i64 v7)), (34, .tv (fzL 2 c31 v1)), (35, .tv (.int .i64 (v1.length : Int))), (36, .tv (.int .i64 v8)), (45, .tv (.bool b))], []⟩) _ (fun hb => ?_) fun hb => ?_
                · replace hc5 := of_true hc5 hb
                  refine AOps.go [5, 6] [7, 8] [] [0, 1, 10, 11, 28, 29, 30, 34, 35, 36, 45, 46, 47] 0 ⟨[(0, .tv (fzL 2 c31 v1)), (1, .tv (fzL 3 c48 v2)), (10, .tv (.bool ([false, true].getD v7.toNat default))), (11, .tv (.int .i64 v8)), (28, .tv (fzL 1 cBool [false, true])), (29, .tv (.int .i64 ([false, true].length : Int))), (30, .tv (.int .i64 v7)), (34, .tv (fzL 2 c31 v1)), (35, .tv (.int .i64 (v1.length : Int))), (36, .tv (.int .i64 v8)), (45, .tv (.bool true)), (46, .agg [.str ((v1.getD v8.toNat default).f0), fzL 3 c48 ((v1.getD v8.toNat default).f1)]), (47, .tv (fzL 3 c48 v2))], []⟩ ?_ (Nat.zero_le _) trivial ?_
                  · kernel_rfl
                  obtain ⟨v10, hv10, hc5⟩ := of_bind hc5
                  refine AOps.cons (AOne.callP (F := (FF 53 0)) _ rfl rfl rfl _ rfl rfl _ _ rfl Try.call33 [.agg [.str ((v1.getD v8.toNat default).f0), fzL 3 c48 ((v1.getD v8.toNat default).f1)], .tv (fzL 3 c48 v2)] rfl rfl (f33_ok (v1.getD v8.toNat default) v2 hv10) rfl) ?_
                  refine AOps.go [8] [] [] [0, 1, 10, 11, 28, 29, 30, 34, 35, 36, 49] 0 ⟨[(0, .tv (fzL 2 c31 v1)), (1, .tv (fzL 3 c48 v2)), (10, .tv (.bool ([false, true].getD v7.toNat default))), (11, .tv (.int .i64 v8)), (28, .tv (fzL 1 cBool [false, true])), (29, .tv (.int .i64 ([false, true].length : Int))), (30, .tv (.int .i64 v7)), (34, .tv (fzL 2 c31 v1)), (35, .tv (.int .i64 (v1.length : Int))), (36, .tv (.int .i64 v8)), (49, .tv (.bool v10))], []⟩ ?_ (Nat.zero_le _) trivial ?_
                  · kernel_rfl
                  cases hc5
                  exact AOps.nil rfl
                · replace hc5 := of_false hc5 hb
                  refine AOps.go [5, 6, 7, 8] [] [] [0, 1, 10, 11, 28, 29, 30, 34, 35, 36, 49] 0 ⟨[(0, .tv (fzL 2 c31 v1)), (1, .tv (fzL 3 c48 v2)), (10, .tv (.bool ([false, true].getD v7.toNat default))), (11, .tv (.int .i64 v8)), (28, .tv (fzL 1 cBool [false, true])), (29, .tv (.int .i64 ([false, true].length : Int))), (30, .tv (.int .i64 v7)), (34, .tv (fzL 2 c31 v1)), (35, .tv (.int .i64 (v1.length : Int))), (36, .tv (.int .i64 v8)), (49, .tv (.bool false))], []⟩ ?_ (Nat.zero_le _) trivial ?_
                  · kernel_rfl
                  cases hc5
                  exact AOps.nil rfl
              subst hJ
              refine AOps.nil ?_
              refine AWp.cond rfl (fun hb => ?_) fun hb => ?_
              · replace h := of_true h hb
                refine AWp.keepTo [11] 0 ⟨[(11, .tv (.int .i64 v8))], []⟩ ?_ (Nat.zero_le _) ?_
                · kernel_rfl
                refine AWp.seq ?_
                refine AWp.start [0, 1, 2] [] [] [4, 5] 0 ⟨[(4, .tv (.int .i64 v8)), (5, .tv (.int .i64 (0 : Int)))], []⟩ rfl ?_ (Nat.zero_le _) trivial ?_
                · kernel_rfl
                refine AOps.nil ?_
                refine AWp.ret ?_
                cases h
                exact Or.inr ⟨_, rfl, by simp, rfl, rfl⟩
              · replace h := of_false h hb
                refine AWp.keepTo [0, 1, 10, 28, 29, 30, 34, 35, 36] 0 ⟨[(0, .tv (fzL 2 c31 v1)), (1, .tv (fzL 3 c48 v2)), (10, .tv (.bool ([false, true].getD v7.toNat default))), (28, .tv (fzL 1 cBool [false, true])), (29, .tv (.int .i64 ([false, true].length : Int))), (30, .tv (.int .i64 v7)), (34, .tv (fzL 2 c31 v1)), (35, .tv (.int .i64 (v1.length : Int))), (36, .tv (.int .i64 v8))], []⟩ ?_ (Nat.zero_le _) ?_
                · kernel_rfl
                refine AWp.skip ?_
                refine AWp.start [0, 1] [] [] [0, 1, 10, 28, 29, 30, 34, 35, 36] 0 ⟨[(0, .tv (fzL 2 c31 v1)), (1, .tv (fzL 3 c48 v2)), (10, .tv (.bool ([false, true].getD v7.toNat default))), (28, .tv (fzL 1 cBool [false, true])), (29, .tv (.int .i64 ([false, true].length : Int))), (30, .tv (.int .i64 v7)), (34, .tv (fzL 2 c31 v1)), (35, .tv (.int .i64 (v1.length : Int))), (36, .tv (.int .i64 (w64 (v8 + (1 : Int)))))], []⟩ rfl ?_ (Nat.zero_le _) trivial ?_
                · kernel_rfl
                refine AOps.nil ?_
                cases h
                exact Or.inl ⟨_, rfl, rfl, rfl⟩
            · replace h := of_false h hb
              refine AWp.keepTo [0, 1, 28, 29, 30] 0 ⟨[(0, .tv (fzL 2 c31 v1)), (1, .tv (fzL 3 c48 v2)), (28, .tv (fzL 1 cBool [false, true])), (29, .tv (.int .i64 ([false, true].length : Int))), (30, .tv (.int .i64 v7))], []⟩ ?_ (Nat.zero_le _) ?_
              · kernel_rfl
              refine AWp.exit ?_
              cases h
              exact Or.inr ⟨_, rfl, by simp, rfl, rfl⟩
          · intro e σ hp
            rcases y with v12 | _
            · obtain ⟨rfl, rfl⟩ := hp
              cases h
              exact Or.inr ⟨_, rfl, by simp, rfl, rfl⟩
            · obtain ⟨rfl, rfl⟩ := hp
              refine AWp.start [0, 1] [] [] [0, 1, 28, 29, 30] 0 ⟨[(0, .tv (fzL 2 c31 v1)), (1, .tv (fzL 3 c48 v2)), (28, .tv (fzL 1 cBool [false, true])), (29, .tv (.int .i64 ([false, true].length : Int))), (30, .tv (.int .i64 (w64 (v7 + (1 : Int)))))], []⟩ rfl ?_ (Nat.zero_le _) trivial ?_
              · kernel_rfl
              refine AOps.nil ?_
              cases h
              exact Or.inl ⟨_, rfl, rfl, rfl⟩
        · replace h := of_false h hb
          refine AWp.keepTo [] 0 ⟨[], []⟩ ?_ (Nat.zero_le _) ?_
          · kernel_rfl
          refine AWp.exit ?_
          cases h
          exact Or.inr ⟨_, rfl, by simp, rfl, rfl⟩
      · intro e σ hp
        rcases y with v13 | _
        · obtain ⟨rfl, rfl⟩ := hp
          cases h
          exact ⟨.inr rfl, rfl⟩
        · obtain ⟨rfl, rfl⟩ := hp
          refine AWp.seq ?_
          refine AWp.start [0, 1] [] [] [4, 5] 0 ⟨[(4, .tv (.int .i64 (0 : Int))), (5, .tv (.int .i64 (5 : Int)))], []⟩ rfl ?_ (Nat.zero_le _) trivial ?_
          · kernel_rfl
          refine AOps.nil ?_
          refine AWp.ret ?_
          cases h
          exact ⟨.inr rfl, rfl⟩

noncomputable def f11  : Option Bool :=
  (f12 ([T31.mk ([102, 105] : List UInt8) [T48.mk (1 : Int) (0 : Int) false], T31.mk ([102, 114] : List UInt8) [T48.mk (3 : Int) (0 : Int) false], T31.mk ([102, 101] : List UInt8) [T48.mk (1 : Int) (-1 : Int) false]]) [T48.mk (1 : Int) (1 : Int) false]).bind fun v1 => (f12 ([T31.mk ([102, 105] : List UInt8) [T48.mk (1 : Int) (0 : Int) false], T31.mk ([102, 114] : List UInt8) [T48.mk (3 : Int) (0 : Int) false], T31.mk ([102, 101] : List UInt8) [T48.mk (1 : Int) (-1 : Int) false]]) [T48.mk (1 : Int) (0 : Int) false]).bind fun v2 => (cond (v1.1 == (2 : Int)) (some (v1.2 == (0 : Int))) (some false)).bind fun v3 => (cond v3 (some (v2.1 == (0 : Int))) (some false)).bind fun v4 => (cond v4 (some (v2.2 == (0 : Int))) (some false)).bind fun v5 => some v5

theorem f11_ok  {r : Bool} (h : f11  = some r) : ACall Try.prog 11 [] [] (.tv (.bool r)) [] := by
  refine ACall.of1 (FF 44 0) Try.func11 rfl Try.ntmps11 Try.results11 (Nat.le_of_ble_eq_true rfl) rfl rfl ?_
  refine AWp.seq ?_
  refine AWp.start [0] [] [] [] 0 ⟨[], []⟩ rfl ?_ (Nat.zero_le _) trivial ?_
  · kernel_rfl
  refine AOps.nil ?_
  refine AWp.seq ?_
  refine AWp.start [0, 1] [2, 3, 4, 5, 6, 7, 8, 9, 10] [] [7] 0 ⟨[(7, .tv (.own 3 49 1 (newRowF [.int .i64 (1 : Int), .int .i64 (0 : Int), .bool false] 3)))], []⟩ rfl ?_ (Nat.zero_le _) trivial ?_
  · kernel_rfl
  refine AOps.extL 7 c48 [T48.mk (1 : Int) (0 : Int) false] rfl rfl (row_at c48 3 (fun _ => rfl) [T48.mk (1 : Int) (0 : Int) false] _ rfl) ?_
  refine AOps.freezeL 7 c48 [T48.mk (1 : Int) (0 : Int) false] rfl (fun _ => rfl) ?_
  refine AOps.go [2, 3, 4] [5, 6, 7, 8, 9, 10] [] [8, 10] 0 ⟨[(8, .agg [.str ([102, 105] : List UInt8), fzL 3 c48 [T48.mk (1 : Int) (0 : Int) false]]), (10, .tv (.own 3 49 1 (newRowF [.int .i64 (3 : Int), .int .i64 (0 : Int), .bool false] 3)))], []⟩ ?_ (Nat.zero_le _) trivial ?_
  · kernel_rfl
  refine AOps.extL 10 c48 [T48.mk (3 : Int) (0 : Int) false] rfl rfl (row_at c48 3 (fun _ => rfl) [T48.mk (3 : Int) (0 : Int) false] _ rfl) ?_
  refine AOps.freezeL 10 c48 [T48.mk (3 : Int) (0 : Int) false] rfl (fun _ => rfl) ?_
  refine AOps.go [5, 6, 7] [8, 9, 10] [] [8, 11, 13] 0 ⟨[(8, .agg [.str ([102, 105] : List UInt8), fzL 3 c48 [T48.mk (1 : Int) (0 : Int) false]]), (11, .agg [.str ([102, 114] : List UInt8), fzL 3 c48 [T48.mk (3 : Int) (0 : Int) false]]), (13, .tv (.own 3 49 1 (newRowF [.int .i64 (1 : Int), .int .i64 (-1 : Int), .bool false] 3)))], []⟩ ?_ (Nat.zero_le _) trivial ?_
  · kernel_rfl
  refine AOps.extL 13 c48 [T48.mk (1 : Int) (-1 : Int) false] rfl rfl (row_at c48 3 (fun _ => rfl) [T48.mk (1 : Int) (-1 : Int) false] _ rfl) ?_
  refine AOps.freezeL 13 c48 [T48.mk (1 : Int) (-1 : Int) false] rfl (fun _ => rfl) ?_
  refine AOps.go [8, 9] [10] [] [15] 0 ⟨[(15, .tv (.own 2 32 3 (newRowF [.str ([102, 105] : List UInt8), fzL 3 c48 [T48.mk (1 : Int) (0 : Int) false], .str ([102, 114] : List UInt8), fzL 3 c48 [T48.mk (3 : Int) (0 : Int) false], .str ([102, 101] : List UInt8), fzL 3 c48 [T48.mk (1 : Int) (-1 : Int) false]] 2)))], []⟩ ?_ (Nat.zero_le _) trivial ?_
  · kernel_rfl
  refine AOps.extL 15 c31 ([T31.mk ([102, 105] : List UInt8) [T48.mk (1 : Int) (0 : Int) false], T31.mk ([102, 114] : List UInt8) [T48.mk (3 : Int) (0 : Int) false], T31.mk ([102, 101] : List UInt8) [T48.mk (1 : Int) (-1 : Int) false]]) rfl rfl (row_at c31 2 (fun _ => rfl) [T31.mk ([102, 105] : List UInt8) [T48.mk (1 : Int) (0 : Int) false], T31.mk ([102, 114] : List UInt8) [T48.mk (3 : Int) (0 : Int) false], T31.mk ([102, 101] : List UInt8) [T48.mk (1 : Int) (-1 : Int) false]] _ rfl) ?_
  refine AOps.go [10] [] [] [1] 0 ⟨[(1, .tv (ownL 2 32 c31 ([T31.mk ([102, 105] : List UInt8) [T48.mk (1 : Int) (0 : Int) false], T31.mk ([102, 114] : List UInt8) [T48.mk (3 : Int) (0 : Int) false], T31.mk ([102, 101] : List UInt8) [T48.mk (1 : Int) (-1 : Int) false]])))], []⟩ ?_ (Nat.zero_le _) trivial ?_
  · kernel_rfl
  refine AOps.nil ?_
  refine AWp.seq ?_
  refine AWp.start [0, 1, 2] [3, 4, 5, 6, 7, 8] [] [1, 17, 19] 0 ⟨[(1, .tv (ownL 2 32 c31 ([T31.mk ([102, 105] : List UInt8) [T48.mk (1 : Int) (0 : Int) false], T31.mk ([102, 114] : List UInt8) [T48.mk (3 : Int) (0 : Int) false], T31.mk ([102, 101] : List UInt8) [T48.mk (1 : Int) (-1 : Int) false]]))), (17, .al (.slot 1 0, [])), (19, .tv (.own 3 49 1 (newRowF [.int .i64 (1 : Int), .int .i64 (1 : Int), .bool false] 3)))], []⟩ rfl ?_ (Nat.zero_le _) trivial ?_
  · kernel_rfl
  refine AOps.extL 19 c48 [T48.mk (1 : Int) (1 : Int) false] rfl rfl (row_at c48 3 (fun _ => rfl) [T48.mk (1 : Int) (1 : Int) false] _ rfl) ?_
  refine AOps.freezeL 19 c48 [T48.mk (1 : Int) (1 : Int) false] rfl (fun _ => rfl) ?_
  obtain ⟨v1, hv1, h⟩ := of_bind h
  refine AOps.cons (AOne.callR (F := (FF 44 0)) _ rfl rfl rfl _ rfl rfl _ _ rfl Try.call12 [PlainTo (([T31.mk ([102, 105] : List UInt8) [T48.mk (1 : Int) (0 : Int) false], T31.mk ([102, 114] : List UInt8) [T48.mk (3 : Int) (0 : Int) false], T31.mk ([102, 101] : List UInt8) [T48.mk (1 : Int) (-1 : Int) false]]).length) (fun i => c31 (([T31.mk ([102, 105] : List UInt8) [T48.mk (1 : Int) (0 : Int) false], T31.mk ([102, 114] : List UInt8) [T48.mk (3 : Int) (0 : Int) false], T31.mk ([102, 101] : List UInt8) [T48.mk (1 : Int) (-1 : Int) false]]).getD i default))] [.tv (fzL 2 c31 ([T31.mk ([102, 105] : List UInt8) [T48.mk (1 : Int) (0 : Int) false], T31.mk ([102, 114] : List UInt8) [T48.mk (3 : Int) (0 : Int) false], T31.mk ([102, 101] : List UInt8) [T48.mk (1 : Int) (-1 : Int) false]])), .tv (fzL 3 c48 [T48.mk (1 : Int) (1 : Int) false])] rfl (fun _ _ => rfl) (f12_ok ([T31.mk ([102, 105] : List UInt8) [T48.mk (1 : Int) (0 : Int) false], T31.mk ([102, 114] : List UInt8) [T48.mk (3 : Int) (0 : Int) false], T31.mk ([102, 101] : List UInt8) [T48.mk (1 : Int) (-1 : Int) false]]) [T48.mk (1 : Int) (1 : Int) false] hv1) (ind_of rfl) rfl) ?_
  refine AOps.go [4, 5, 6, 7, 8] [] [] [1, 2, 3] 0 ⟨[(1, .tv (ownL 2 32 c31 ([T31.mk ([102, 105] : List UInt8) [T48.mk (1 : Int) (0 : Int) false], T31.mk ([102, 114] : List UInt8) [T48.mk (3 : Int) (0 : Int) false], T31.mk ([102, 101] : List UInt8) [T48.mk (1 : Int) (-1 : Int) false]]))), (2, .tv (.int .i64 v1.1)), (3, .tv (.int .i64 v1.2))], []⟩ ?_ (Nat.zero_le _) trivial ?_
  · kernel_rfl
  refine AOps.nil ?_
  refine AWp.seq ?_
  refine AWp.start [0, 1, 2] [3, 4, 5, 6, 7, 8] [] [1, 2, 3, 24, 26] 0 ⟨[(1, .tv (ownL 2 32 c31 ([T31.mk ([102, 105] : List UInt8) [T48.mk (1 : Int) (0 : Int) false], T31.mk ([102, 114] : List UInt8) [T48.mk (3 : Int) (0 : Int) false], T31.mk ([102, 101] : List UInt8) [T48.mk (1 : Int) (-1 : Int) false]]))), (2, .tv (.int .i64 v1.1)), (3, .tv (.int .i64 v1.2)), (24, .al (.slot 1 0, [])), (26, .tv (.own 3 49 1 (newRowF [.int .i64 (1 : Int), .int .i64 (0 : Int), .bool false] 3)))], []⟩ rfl ?_ (Nat.zero_le _) trivial ?_
  · kernel_rfl
  refine AOps.extL 26 c48 [T48.mk (1 : Int) (0 : Int) false] rfl rfl (row_at c48 3 (fun _ => rfl) [T48.mk (1 : Int) (0 : Int) false] _ rfl) ?_
  refine AOps.freezeL 26 c48 [T48.mk (1 : Int) (0 : Int) false] rfl (fun _ => rfl) ?_
  obtain ⟨v2, hv2, h⟩ := of_bind h
  refine AOps.cons (AOne.callR (F := (FF 44 0)) _ rfl rfl rfl _ rfl rfl _ _ rfl Try.call12 [PlainTo (([T31.mk ([102, 105] : List UInt8) [T48.mk (1 : Int) (0 : Int) false], T31.mk ([102, 114] : List UInt8) [T48.mk (3 : Int) (0 : Int) false], T31.mk ([102, 101] : List UInt8) [T48.mk (1 : Int) (-1 : Int) false]]).length) (fun i => c31 (([T31.mk ([102, 105] : List UInt8) [T48.mk (1 : Int) (0 : Int) false], T31.mk ([102, 114] : List UInt8) [T48.mk (3 : Int) (0 : Int) false], T31.mk ([102, 101] : List UInt8) [T48.mk (1 : Int) (-1 : Int) false]]).getD i default))] [.tv (fzL 2 c31 ([T31.mk ([102, 105] : List UInt8) [T48.mk (1 : Int) (0 : Int) false], T31.mk ([102, 114] : List UInt8) [T48.mk (3 : Int) (0 : Int) false], T31.mk ([102, 101] : List UInt8) [T48.mk (1 : Int) (-1 : Int) false]])), .tv (fzL 3 c48 [T48.mk (1 : Int) (0 : Int) false])] rfl (fun _ _ => rfl) (f12_ok ([T31.mk ([102, 105] : List UInt8) [T48.mk (1 : Int) (0 : Int) false], T31.mk ([102, 114] : List UInt8) [T48.mk (3 : Int) (0 : Int) false], T31.mk ([102, 101] : List UInt8) [T48.mk (1 : Int) (-1 : Int) false]]) [T48.mk (1 : Int) (0 : Int) false] hv2) (ind_of rfl) rfl) ?_
  refine AOps.go [4, 5, 6, 7, 8] [] [] [2, 3, 4, 5] 0 ⟨[(2, .tv (.int .i64 v1.1)), (3, .tv (.int .i64 v1.2)), (4, .tv (.int .i64 v2.1)), (5, .tv (.int .i64 v2.2))], []⟩ ?_ (Nat.zero_le _) trivial ?_
  · kernel_rfl
  refine AOps.nil ?_
  refine AWp.seq ?_
  refine AWp.start [0, 1, 2] [3, 4, 5, 6, 7, 8, 9, 10, 11, 12, 13, 14] [] [3, 4, 5, 32] 0 ⟨[(3, .tv (.int .i64 v1.2)), (4, .tv (.int .i64 v2.1)), (5, .tv (.int .i64 v2.2)), (32, .tv (.bool (v1.1 == (2 : Int))))], []⟩ rfl ?_ (Nat.zero_le _) trivial ?_
  · kernel_rfl
  obtain ⟨v3, hc3, h⟩ := of_bind h
  refine AOps.cut [3, 4, 5] [6, 7, 8, 9, 10, 11, 12, 13, 14] (fun σ => σ = ⟨[(4, .tv (.int .i64 v2.1)), (5, .tv (.int .i64 v2.2)), (35, .tv (.bool v3))], []⟩) ?_ fun σ' hJ => ?_
  · refine AOps.split (fun b => ⟨[(3, .tv (.int .i64 v1.2)), (4, .tv (.int .i64 v2.1)), (5, .tv (.int .i64 v2.2)), (32, .tv (.bool b))], []⟩) _ (fun hb => ?_) fun hb => ?_
    · replace hc3 := of_true hc3 hb
      refine AOps.go [3, 4, 5] [] [] [4, 5, 35] 0 ⟨[(4, .tv (.int .i64 v2.1)), (5, .tv (.int .i64 v2.2)), (35, .tv (.bool (v1.2 == (0 : Int))))], []⟩ ?_ (Nat.zero_le _) trivial ?_
      · kernel_rfl
      cases hc3
      exact AOps.nil rfl
    · replace hc3 := of_false hc3 hb
      refine AOps.go [3, 4, 5] [] [] [4, 5, 35] 0 ⟨[(4, .tv (.int .i64 v2.1)), (5, .tv (.int .i64 v2.2)), (35, .tv (.bool false))], []⟩ ?_ (Nat.zero_le _) trivial ?_
      · kernel_rfl
      cases hc3
      exact AOps.nil rfl
  subst hJ
  refine AOps.go [6] [7, 8, 9, 10, 11, 12, 13, 14] [] [4, 5, 36] 0 ⟨[(4, .tv (.int .i64 v2.1)), (5, .tv (.int .i64 v2.2)), (36, .tv (.bool v3))], []⟩ ?_ (Nat.zero_le _) trivial ?_
  · kernel_rfl
  obtain ⟨v4, hc7, h⟩ := of_bind h
  refine AOps.cut [7, 8, 9] [10, 11, 12, 13, 14] (fun σ => σ = ⟨[(5, .tv (.int .i64 v2.2)), (39, .tv (.bool v4))], []⟩) ?_ fun σ' hJ => ?_
  · refine AOps.split (fun b => ⟨[(4, .tv (.int .i64 v2.1)), (5, .tv (.int .i64 v2.2)), (36, .tv (.bool b))], []⟩) _ (fun hb => ?_) fun hb => ?_
    · replace hc7 := of_true hc7 hb
      refine AOps.go [7, 8, 9] [] [] [5, 39] 0 ⟨[(5, .tv (.int .i64 v2.2)), (39, .tv (.bool (v2.1 == (0 : Int))))], []⟩ ?_ (Nat.zero_le _) trivial ?_
      · kernel_rfl
      cases hc7
      exact AOps.nil rfl
    · replace hc7 := of_false hc7 hb
      refine AOps.go [7, 8, 9] [] [] [5, 39] 0 ⟨[(5, .tv (.int .i64 v2.2)), (39, .tv (.bool false))], []⟩ ?_ (Nat.zero_le _) trivial ?_
      · kernel_rfl
      cases hc7
      exact AOps.nil rfl
  subst hJ
  refine AOps.go [10] [11, 12, 13, 14] [] [5, 40] 0 ⟨[(5, .tv (.int .i64 v2.2)), (40, .tv (.bool v4))], []⟩ ?_ (Nat.zero_le _) trivial ?_
  · kernel_rfl
  obtain ⟨v5, hc11, h⟩ := of_bind h
  refine AOps.cut [11, 12, 13] [14] (fun σ => σ = ⟨[(43, .tv (.bool v5))], []⟩) ?_ fun σ' hJ => ?_
  · refine AOps.split (fun b => ⟨[(5, .tv (.int .i64 v2.2)), (40, .tv (.bool b))], []⟩) _ (fun hb => ?_) fun hb => ?_
    · replace hc11 := of_true hc11 hb
      refine AOps.go [11, 12, 13] [] [] [43] 0 ⟨[(43, .tv (.bool (v2.2 == (0 : Int))))], []⟩ ?_ (Nat.zero_le _) trivial ?_
      · kernel_rfl
      cases hc11
      exact AOps.nil rfl
    · replace hc11 := of_false hc11 hb
      refine AOps.go [11, 12, 13] [] [] [43] 0 ⟨[(43, .tv (.bool false))], []⟩ ?_ (Nat.zero_le _) trivial ?_
      · kernel_rfl
      cases hc11
      exact AOps.nil rfl
  subst hJ
  refine AOps.go [14] [] [] [0] 0 ⟨[(0, .tv (.bool v5))], []⟩ ?_ (Nat.zero_le _) trivial ?_
  · kernel_rfl
  refine AOps.nil ?_
  refine AWp.ret ?_
  cases h
  exact ⟨.inr rfl, rfl⟩

noncomputable def f68 (v1 : Int) : Option Bool :=
  (cond (decide (v1 ≥ (97 : Int))) (some (decide (v1 ≤ (122 : Int)))) (some false)).bind fun v2 => (cond v2 (some true) ((cond (decide (v1 ≥ (65 : Int))) (some (decide (v1 ≤ (90 : Int)))) (some false)).bind fun v3 => some v3)).bind fun v4 => some v4

theorem f68_ok (v1 : Int) {r : Bool} (h : f68 v1 = some r) : ACall Try.prog 68 [.tv (.int .u8 v1)] [] (.tv (.bool r)) [] := by
  refine ACall.of1 (FF 17 0) Try.func68 rfl Try.ntmps68 Try.results68 (Nat.le_of_ble_eq_true rfl) rfl rfl ?_
  refine AWp.seq ?_
  refine AWp.start [0] [] [] [0] 0 ⟨[(0, .tv (.int .u8 v1))], []⟩ rfl ?_ (Nat.zero_le _) trivial ?_
  · kernel_rfl
  refine AOps.nil ?_
  refine AWp.seq ?_
  refine AWp.start [0, 1, 2] [3, 4, 5, 6, 7, 8, 9, 10, 11, 12, 13, 14] [] [0, 5] 0 ⟨[(0, .tv (.int .u8 v1)), (5, .tv (.bool (decide (v1 ≥ (97 : Int)))))], []⟩ rfl ?_ (Nat.zero_le _) trivial ?_
  · kernel_rfl
  obtain ⟨v2, hc3, h⟩ := of_bind h
  refine AOps.cut [3, 4, 5] [6, 7, 8, 9, 10, 11, 12, 13, 14] (fun σ => σ = ⟨[(0, .tv (.int .u8 v1)), (8, .tv (.bool v2))], []⟩) ?_ fun σ' hJ => ?_
  · refine AOps.split (fun b => ⟨[(0, .tv (.int .u8 v1)), (5, .tv (.bool b))], []⟩) _ (fun hb => ?_) fun hb => ?_
    · replace hc3 := of_true hc3 hb
      refine AOps.go [3, 4, 5] [] [] [0, 8] 0 ⟨[(0, .tv (.int .u8 v1)), (8, .tv (.bool (decide (v1 ≤ (122 : Int)))))], []⟩ ?_ (Nat.zero_le _) trivial ?_
      · kernel_rfl
      cases hc3
      exact AOps.nil rfl
    · replace hc3 := of_false hc3 hb
      refine AOps.go [3, 4, 5] [] [] [0, 8] 0 ⟨[(0, .tv (.int .u8 v1)), (8, .tv (.bool false))], []⟩ ?_ (Nat.zero_le _) trivial ?_
      · kernel_rfl
      cases hc3
      exact AOps.nil rfl
  subst hJ
  refine AOps.go [6] [7, 8, 9, 10, 11, 12, 13, 14] [] [0, 9] 0 ⟨[(0, .tv (.int .u8 v1)), (9, .tv (.bool v2))], []⟩ ?_ (Nat.zero_le _) trivial ?_
  · kernel_rfl
  obtain ⟨v4, hc7, h⟩ := of_bind h
  refine AOps.cut [7, 8, 9, 10, 11, 12, 13] [14] (fun σ => σ = ⟨[(16, .tv (.bool v4))], []⟩) ?_ fun σ' hJ => ?_
  · refine AOps.split (fun b => ⟨[(0, .tv (.int .u8 v1)), (9, .tv (.bool b))], []⟩) _ (fun hb => ?_) fun hb => ?_
    · replace hc7 := of_true hc7 hb
      refine AOps.go [7, 8, 9, 10, 11, 12, 13] [] [] [16] 0 ⟨[(16, .tv (.bool true))], []⟩ ?_ (Nat.zero_le _) trivial ?_
      · kernel_rfl
      cases hc7
      exact AOps.nil rfl
    · replace hc7 := of_false hc7 hb
      refine AOps.go [7, 8, 9] [10, 11, 12, 13] [] [0, 9, 12] 0 ⟨[(0, .tv (.int .u8 v1)), (9, .tv (.bool false)), (12, .tv (.bool (decide (v1 ≥ (65 : Int)))))], []⟩ ?_ (Nat.zero_le _) trivial ?_
      · kernel_rfl
      obtain ⟨v3, hc10, hc7⟩ := of_bind hc7
      refine AOps.cut [10, 11, 12] [13] (fun σ => σ = ⟨[(9, .tv (.bool false)), (15, .tv (.bool v3))], []⟩) ?_ fun σ' hJ => ?_
      · refine AOps.split (fun b => ⟨[(0, .tv (.int .u8 v1)), (9, .tv (.bool false)), (12, .tv (.bool b))], []⟩) _ (fun hb => ?_) fun hb => ?_
        · replace hc10 := of_true hc10 hb
          refine AOps.go [10, 11, 12] [] [] [9, 15] 0 ⟨[(9, .tv (.bool false)), (15, .tv (.bool (decide (v1 ≤ (90 : Int)))))], []⟩ ?_ (Nat.zero_le _) trivial ?_
          · kernel_rfl
          cases hc10
          exact AOps.nil rfl
        · replace hc10 := of_false hc10 hb
          refine AOps.go [10, 11, 12] [] [] [9, 15] 0 ⟨[(9, .tv (.bool false)), (15, .tv (.bool false))], []⟩ ?_ (Nat.zero_le _) trivial ?_
          · kernel_rfl
          cases hc10
          exact AOps.nil rfl
      subst hJ
      refine AOps.go [13] [] [] [16] 0 ⟨[(16, .tv (.bool v3))], []⟩ ?_ (Nat.zero_le _) trivial ?_
      · kernel_rfl
      cases hc7
      exact AOps.nil rfl
  subst hJ
  refine AOps.go [14] [] [] [2] 0 ⟨[(2, .tv (.bool v4))], []⟩ ?_ (Nat.zero_le _) trivial ?_
  · kernel_rfl
  refine AOps.nil ?_
  refine AWp.ret ?_
  cases h
  exact ⟨.inr rfl, rfl⟩

noncomputable def f69 (v1 : Int) : Option Bool :=
  (cond (decide (v1 ≥ (48 : Int))) (some (decide (v1 ≤ (57 : Int)))) (some false)).bind fun v2 => some v2

theorem f69_ok (v1 : Int) {r : Bool} (h : f69 v1 = some r) : ACall Try.prog 69 [.tv (.int .u8 v1)] [] (.tv (.bool r)) [] := by
  refine ACall.of1 (FF 9 0) Try.func69 rfl Try.ntmps69 Try.results69 (Nat.le_of_ble_eq_true rfl) rfl rfl ?_
  refine AWp.seq ?_
  refine AWp.start [0] [] [] [0] 0 ⟨[(0, .tv (.int .u8 v1))], []⟩ rfl ?_ (Nat.zero_le _) trivial ?_
  · kernel_rfl
  refine AOps.nil ?_
  refine AWp.seq ?_
  refine AWp.start [0, 1, 2] [3, 4, 5, 6] [] [0, 5] 0 ⟨[(0, .tv (.int .u8 v1)), (5, .tv (.bool (decide (v1 ≥ (48 : Int)))))], []⟩ rfl ?_ (Nat.zero_le _) trivial ?_
  · kernel_rfl
  obtain ⟨v2, hc3, h⟩ := of_bind h
  refine AOps.cut [3, 4, 5] [6] (fun σ => σ = ⟨[(8, .tv (.bool v2))], []⟩) ?_ fun σ' hJ => ?_
  · refine AOps.split (fun b => ⟨[(0, .tv (.int .u8 v1)), (5, .tv (.bool b))], []⟩) _ (fun hb => ?_) fun hb => ?_
    · replace hc3 := of_true hc3 hb
      refine AOps.go [3, 4, 5] [] [] [8] 0 ⟨[(8, .tv (.bool (decide (v1 ≤ (57 : Int)))))], []⟩ ?_ (Nat.zero_le _) trivial ?_
      · kernel_rfl
      cases hc3
      exact AOps.nil rfl
    · replace hc3 := of_false hc3 hb
      refine AOps.go [3, 4, 5] [] [] [8] 0 ⟨[(8, .tv (.bool false))], []⟩ ?_ (Nat.zero_le _) trivial ?_
      · kernel_rfl
      cases hc3
      exact AOps.nil rfl
  subst hJ
  refine AOps.go [6] [] [] [2] 0 ⟨[(2, .tv (.bool v2))], []⟩ ?_ (Nat.zero_le _) trivial ?_
  · kernel_rfl
  refine AOps.nil ?_
  refine AWp.ret ?_
  cases h
  exact ⟨.inr rfl, rfl⟩

noncomputable def f61 (v1 : Int) : Option Bool :=
  (f68 v1).bind fun v2 => (cond v2 (some true) ((f69 v1).bind fun v3 => some v3)).bind fun v4 => (cond v4 (some true) (some (v1 == (95 : Int)))).bind fun v5 => some v5

theorem f61_ok (v1 : Int) {r : Bool} (h : f61 v1 = some r) : ACall Try.prog 61 [.tv (.int .u8 v1)] [] (.tv (.bool r)) [] := by
  refine ACall.of1 (FF 13 0) Try.func61 rfl Try.ntmps61 Try.results61 (Nat.le_of_ble_eq_true rfl) rfl rfl ?_
  refine AWp.seq ?_
  refine AWp.start [0] [] [] [0] 0 ⟨[(0, .tv (.int .u8 v1))], []⟩ rfl ?_ (Nat.zero_le _) trivial ?_
  · kernel_rfl
  refine AOps.nil ?_
  refine AWp.seq ?_
  refine AWp.start [0] [1, 2, 3, 4, 5, 6, 7, 8, 9, 10] [] [0, 3] 0 ⟨[(0, .tv (.int .u8 v1)), (3, .tv (.int .u8 v1))], []⟩ rfl ?_ (Nat.zero_le _) trivial ?_
  · kernel_rfl
  obtain ⟨v2, hv2, h⟩ := of_bind h
  refine AOps.cons (AOne.callP (F := (FF 13 0)) _ rfl rfl rfl _ rfl rfl _ _ rfl Try.call68 [.tv (.int .u8 v1)] rfl rfl (f68_ok v1 hv2) rfl) ?_
  refine AOps.go [2] [3, 4, 5, 6, 7, 8, 9, 10] [] [0, 5] 0 ⟨[(0, .tv (.int .u8 v1)), (5, .tv (.bool v2))], []⟩ ?_ (Nat.zero_le _) trivial ?_
  · kernel_rfl
  obtain ⟨v4, hc3, h⟩ := of_bind h
  refine AOps.cut [3, 4, 5] [6, 7, 8, 9, 10] (fun σ => σ = ⟨[(0, .tv (.int .u8 v1)), (8, .tv (.bool v4))], []⟩) ?_ fun σ' hJ => ?_
  · refine AOps.split (fun b => ⟨[(0, .tv (.int .u8 v1)), (5, .tv (.bool b))], []⟩) _ (fun hb => ?_) fun hb => ?_
    · replace hc3 := of_true hc3 hb
      refine AOps.go [3, 4, 5] [] [] [0, 8] 0 ⟨[(0, .tv (.int .u8 v1)), (8, .tv (.bool true))], []⟩ ?_ (Nat.zero_le _) trivial ?_
      · kernel_rfl
      cases hc3
      exact AOps.nil rfl
    · replace hc3 := of_false hc3 hb
      refine AOps.go [3] [4, 5] [] [0, 5, 6] 0 ⟨[(0, .tv (.int .u8 v1)), (5, .tv (.bool false)), (6, .tv (.int .u8 v1))], []⟩ ?_ (Nat.zero_le _) trivial ?_
      · kernel_rfl
      obtain ⟨v3, hv3, hc3⟩ := of_bind hc3
      refine AOps.cons (AOne.callP (F := (FF 13 0)) _ rfl rfl rfl _ rfl rfl _ _ rfl Try.call69 [.tv (.int .u8 v1)] rfl rfl (f69_ok v1 hv3) rfl) ?_
      refine AOps.go [5] [] [] [0, 8] 0 ⟨[(0, .tv (.int .u8 v1)), (8, .tv (.bool v3))], []⟩ ?_ (Nat.zero_le _) trivial ?_
      · kernel_rfl
      cases hc3
      exact AOps.nil rfl
  subst hJ
  refine AOps.go [6] [7, 8, 9, 10] [] [0, 9] 0 ⟨[(0, .tv (.int .u8 v1)), (9, .tv (.bool v4))], []⟩ ?_ (Nat.zero_le _) trivial ?_
  · kernel_rfl
  obtain ⟨v5, hc7, h⟩ := of_bind h
  refine AOps.cut [7, 8, 9] [10] (fun σ => σ = ⟨[(12, .tv (.bool v5))], []⟩) ?_ fun σ' hJ => ?_
  · refine AOps.split (fun b => ⟨[(0, .tv (.int .u8 v1)), (9, .tv (.bool b))], []⟩) _ (fun hb => ?_) fun hb => ?_
    · replace hc7 := of_true hc7 hb
      refine AOps.go [7, 8, 9] [] [] [12] 0 ⟨[(12, .tv (.bool true))], []⟩ ?_ (Nat.zero_le _) trivial ?_
      · kernel_rfl
      cases hc7
      exact AOps.nil rfl
    · replace hc7 := of_false hc7 hb
      refine AOps.go [7, 8, 9] [] [] [12] 0 ⟨[(12, .tv (.bool (v1 == (95 : Int))))], []⟩ ?_ (Nat.zero_le _) trivial ?_
      · kernel_rfl
      cases hc7
      exact AOps.nil rfl
  subst hJ
  refine AOps.go [10] [] [] [2] 0 ⟨[(2, .tv (.bool v5))], []⟩ ?_ (Nat.zero_le _) trivial ?_
  · kernel_rfl
  refine AOps.nil ?_
  refine AWp.ret ?_
  cases h
  exact ⟨.inr rfl, rfl⟩

noncomputable def f40_b1 (v1 : List UInt8) (v5 : Int) : Option (Int ⊕ Out Bool Unit) :=
  cond (decide (v5 < (v1.length : Int))) (if (0 : Int) ≤ v5 ∧ v5 < (v1.length : Int) then (f61 (((v1.getD v5.toNat 0).toNat : Nat) : Int)).bind fun v6 => (cond (!v6) (some true) (if (0 : Int) ≤ v5 ∧ v5 < (v1.length : Int) then (cond (decide ((((v1.getD v5.toNat 0).toNat : Nat) : Int) ≥ (65 : Int))) (if (0 : Int) ≤ v5 ∧ v5 < (v1.length : Int) then some (decide ((((v1.getD v5.toNat 0).toNat : Nat) : Int) ≤ (90 : Int))) else none) (some false)).bind fun v7 => some v7 else none)).bind fun v8 => cond v8 (some (.inr (.ret false))) (some (.inl (w64 (v5 + (1 : Int))))) else none) (some (.inr (.go ())))

noncomputable def f40 (v1 : List UInt8) : Option Bool :=
  (cond (v1 == ([] : List UInt8)) (some true) (some (decide ((v1.length : Int) > (12 : Int))))).bind fun v2 => (cond v2 (some true) (if (0 : Int) < (v1.length : Int) then some (decide ((((v1.getD 0 0).toNat : Nat) : Int) < (97 : Int))) else none)).bind fun v3 => (cond v3 (some true) (if (0 : Int) < (v1.length : Int) then some (decide ((((v1.getD 0 0).toNat : Nat) : Int) > (122 : Int))) else none)).bind fun v4 => cond v4 (some false) ((iter (fun s => f40_b1 v1 s) (0 : Int)).bind fun y => match y with | .ret v9 => some v9 | .go _ => some true)

theorem f40_ok (v1 : List UInt8) {r : Bool} (h : f40 v1 = some r) : ACall Try.prog 40 [.tv (.str v1)] [] (.tv (.bool r)) [] := by
  refine ACall.of1 (FF 44 0) Try.func40 rfl Try.ntmps40 Try.results40 (Nat.le_of_ble_eq_true rfl) rfl rfl ?_
  refine AWp.seq ?_
  refine AWp.start [0] [] [] [0] 0 ⟨[(0, .tv (.str v1))], []⟩ rfl ?_ (Nat.zero_le _) trivial ?_
  · kernel_rfl
  refine AOps.nil ?_
  refine AWp.seq ?_
  refine AWp.seq ?_
  refine AWp.start [0, 1, 2] [3, 4, 5, 6, 7, 8, 9, 10, 11, 12, 13, 14, 15, 16] [] [0, 6] 0 ⟨[(0, .tv (.str v1)), (6, .tv (.bool (v1 == ([] : List UInt8))))], []⟩ rfl ?_ (Nat.zero_le _) trivial ?_
  · kernel_rfl
  obtain ⟨v2, hc3, h⟩ := of_bind h
  refine AOps.cut [3, 4, 5, 6] [7, 8, 9, 10, 11, 12, 13, 14, 15, 16] (fun σ => σ = ⟨[(0, .tv (.str v1)), (10, .tv (.bool v2))], []⟩) ?_ fun σ' hJ => ?_
  · refine AOps.split (fun b => ⟨[(0, .tv (.str v1)), (6, .tv (.bool b))], []⟩) _ (fun hb => ?_) fun hb => ?_
    · replace hc3 := of_true hc3 hb
      refine AOps.go [3, 4, 5, 6] [] [] [0, 10] 0 ⟨[(0, .tv (.str v1)), (10, .tv (.bool true))], []⟩ ?_ (Nat.zero_le _) trivial ?_
      · kernel_rfl
      cases hc3
      exact AOps.nil rfl
    · replace hc3 := of_false hc3 hb
      refine AOps.go [3, 4, 5, 6] [] [] [0, 10] 0 ⟨[(0, .tv (.str v1)), (10, .tv (.bool (decide ((v1.length : Int) > (12 : Int)))))], []⟩ ?_ (Nat.zero_le _) trivial ?_
      · kernel_rfl
      cases hc3
      exact AOps.nil rfl
  subst hJ
  refine AOps.go [7] [8, 9, 10, 11, 12, 13, 14, 15, 16] [] [0, 11] 0 ⟨[(0, .tv (.str v1)), (11, .tv (.bool v2))], []⟩ ?_ (Nat.zero_le _) trivial ?_
  · kernel_rfl
  obtain ⟨v3, hc8, h⟩ := of_bind h
  refine AOps.cut [8, 9, 10, 11] [12, 13, 14, 15, 16] (fun σ => σ = ⟨[(0, .tv (.str v1)), (15, .tv (.bool v3))], []⟩) ?_ fun σ' hJ => ?_
  · refine AOps.split (fun b => ⟨[(0, .tv (.str v1)), (11, .tv (.bool b))], []⟩) _ (fun hb => ?_) fun hb => ?_
    · replace hc8 := of_true hc8 hb
      refine AOps.go [8, 9, 10, 11] [] [] [0, 15] 0 ⟨[(0, .tv (.str v1)), (15, .tv (.bool true))], []⟩ ?_ (Nat.zero_le _) trivial ?_
      · kernel_rfl
      cases hc8
      exact AOps.nil rfl
    · replace hc8 := of_false hc8 hb
      obtain ⟨hg, hc8⟩ := of_guard hc8
      refine AOps.go [8, 9, 10, 11] [] [(0 : Int) ≤ (0 : Int), (0 : Int) < (v1.length : Int)] [0, 15] 0 ⟨[(0, .tv (.str v1)), (15, .tv (.bool (decide ((((v1.getD 0 0).toNat : Nat) : Int) < (97 : Int)))))], []⟩ ?_ (Nat.zero_le _) ⟨(by decide : (0 : Int) ≤ (0 : Int)), hg⟩ ?_
      · kernel_rfl
      cases hc8
      exact AOps.nil rfl
  subst hJ
  refine AOps.go [12] [13, 14, 15, 16] [] [0, 16] 0 ⟨[(0, .tv (.str v1)), (16, .tv (.bool v3))], []⟩ ?_ (Nat.zero_le _) trivial ?_
  · kernel_rfl
  obtain ⟨v4, hc13, h⟩ := of_bind h
  refine AOps.cut [13, 14, 15, 16] [] (fun σ => σ = ⟨[(0, .tv (.str v1)), (20, .tv (.bool v4))], []⟩) ?_ fun σ' hJ => ?_
  · refine AOps.split (fun b => ⟨[(0, .tv (.str v1)), (16, .tv (.bool b))], []⟩) _ (fun hb => ?_) fun hb => ?_
    · replace hc13 := of_true hc13 hb
      refine AOps.go [13, 14, 15, 16] [] [] [0, 20] 0 ⟨[(0, .tv (.str v1)), (20, .tv (.bool true))], []⟩ ?_ (Nat.zero_le _) trivial ?_
      · kernel_rfl
      cases hc13
      exact AOps.nil rfl
    · replace hc13 := of_false hc13 hb
      obtain ⟨hg, hc13⟩ := of_guard hc13
      refine AOps.go [13, 14, 15, 16] [] [(0 : Int) ≤ (0 : Int), (0 : Int) < (v1.length : Int)] [0, 20] 0 ⟨[(0, .tv (.str v1)), (20, .tv (.bool (decide ((((v1.getD 0 0).toNat : Nat) : Int) > (122 : Int)))))], []⟩ ?_ (Nat.zero_le _) ⟨(by decide : (0 : Int) ≤ (0 : Int)), hg⟩ ?_
      · kernel_rfl
      cases hc13
      exact AOps.nil rfl
  subst hJ
  refine AOps.nil ?_
  refine AWp.cond rfl (fun hb => ?_) fun hb => ?_
  · replace h := of_true h hb
    refine AWp.keepTo [] 0 ⟨[], []⟩ ?_ (Nat.zero_le _) ?_
    · kernel_rfl
    refine AWp.seq ?_
    refine AWp.start [0] [] [] [2] 0 ⟨[(2, .tv (.bool false))], []⟩ rfl ?_ (Nat.zero_le _) trivial ?_
    · kernel_rfl
    refine AOps.nil ?_
    refine AWp.ret ?_
    cases h
    exact ⟨.inr rfl, rfl⟩
  · replace h := of_false h hb
    refine AWp.keepTo [0] 0 ⟨[(0, .tv (.str v1))], []⟩ ?_ (Nat.zero_le _) ?_
    · kernel_rfl
    refine AWp.skip ?_
    refine AWp.seq ?_
    refine AWp.seq ?_
    refine AWp.start [0] [] [] [0, 3] 0 ⟨[(0, .tv (.str v1)), (3, .tv (.int .i64 (0 : Int)))], []⟩ rfl ?_ (Nat.zero_le _) trivial ?_
    · kernel_rfl
    refine AOps.nil ?_
    refine AWp.block ?_
    obtain ⟨y, hy, h⟩ := of_bind h
    refine AWp.mono (AWp.loop (S := Int) (Y := Out Bool Unit) (fun s => ⟨[(0, .tv (.str v1)), (3, .tv (.int .i64 s))], []⟩) (fun s => f40_b1 v1 s) (fun y e σ => match y with | .ret r => e = .ret ∧ σ = ⟨[(2, .tv (.bool r))], []⟩ | .go v => e = .exit 0 ∧ σ = ⟨[], []⟩) ?_ hy) ?_
    · rintro v5 o h
      refine AWp.seq ?_
      refine AWp.seq ?_
      refine AWp.start [0, 1, 2, 3] [] [] [0, 3, 24] 0 ⟨[(0, .tv (.str v1)), (3, .tv (.int .i64 v5)), (24, .tv (.bool (decide (v5 < (v1.length : Int)))))], []⟩ rfl ?_ (Nat.zero_le _) trivial ?_
      · kernel_rfl
      refine AOps.nil ?_
      refine AWp.cond rfl (fun hb => ?_) fun hb => ?_
      · replace h := of_true h hb
        refine AWp.keepTo [0, 3] 0 ⟨[(0, .tv (.str v1)), (3, .tv (.int .i64 v5))], []⟩ ?_ (Nat.zero_le _) ?_
        · kernel_rfl
        refine AWp.skip ?_
        refine AWp.seq ?_
        refine AWp.block ?_
        refine AWp.seq ?_
        obtain ⟨hg, h⟩ := of_guard h
        refine AWp.start [0, 1, 2] [3, 4, 5, 6, 7, 8, 9, 10, 11, 12, 13, 14, 15, 16] [(0 : Int) ≤ v5, v5 < (v1.length : Int)] [0, 3, 29] 0 ⟨[(0, .tv (.str v1)), (3, .tv (.int .i64 v5)), (29, .tv (.int .u8 (((v1.getD v5.toNat 0).toNat : Nat) : Int)))], []⟩ rfl ?_ (Nat.zero_le _) ⟨hg.1, hg.2⟩ ?_
        · kernel_rfl
        obtain ⟨v6, hv6, h⟩ := of_bind h
        refine AOps.cons (AOne.callP (F := (FF 44 0)) _ rfl rfl rfl _ rfl rfl _ _ rfl Try.call61 [.tv (.int .u8 (((v1.getD v5.toNat 0).toNat : Nat) : Int))] rfl rfl (f61_ok (((v1.getD v5.toNat 0).toNat : Nat) : Int) hv6) rfl) ?_
        refine AOps.go [4, 5] [6, 7, 8, 9, 10, 11, 12, 13, 14, 15, 16] [] [0, 3, 32] 0 ⟨[(0, .tv (.str v1)), (3, .tv (.int .i64 v5)), (32, .tv (.bool (!v6)))], []⟩ ?_ (Nat.zero_le _) trivial ?_
        · kernel_rfl
        obtain ⟨v8, hc6, h⟩ := of_bind h
        refine AOps.cut [6, 7, 8, 9, 10, 11, 12, 13, 14, 15, 16] [] (fun σ => σ = ⟨[(0, .tv (.str v1)), (3, .tv (.int .i64 v5)), (43, .tv (.bool v8))], []⟩) ?_ fun σ' hJ => ?_
        · refine AOps.split (fun b => ⟨[(0, .tv (.str v1)), (3, .tv (.int .i64 v5)), (32, .tv (.bool b))], []⟩) _ (fun hb => ?_) fun hb => ?_
          · replace hc6 := of_true hc6 hb
            refine AOps.go [6, 7, 8, 9, 10, 11, 12, 13, 14, 15, 16] [] [] [0, 3, 43] 0 ⟨[(0, .tv (.str v1)), (3, .tv (.int .i64 v5)), (43, .tv (.bool true))], []⟩ ?_ (Nat.zero_le _) trivial ?_
            · kernel_rfl
            cases hc6
            exact AOps.nil rfl
          · replace hc6 := of_false hc6 hb
            obtain ⟨hg, hc6⟩ := of_guard hc6
            refine AOps.go [6, 7, 8, 9, 10] [11, 12, 13, 14, 15, 16] [(0 : Int) ≤ v5, v5 < (v1.length : Int)] [0, 3, 32, 37] 0 ⟨[(0, .tv (.str v1)), (3, .tv (.int .i64 v5)), (32, .tv (.bool false)), (37, .tv (.bool (decide ((((v1.getD v5.toNat 0).toNat : Nat) : Int) ≥ (65 : Int)))))], []⟩ ?_ (Nat.zero_le _) ⟨hg.1, hg.2⟩ ?_
            · kernel_rfl
            obtain ⟨v7, hc11, hc6⟩ := of_bind hc6
            refine AOps.cut [11, 12, 13, 14, 15] [16] (fun σ => σ = ⟨[(0, .tv (.str v1)), (3, .tv (.int .i64 v5)), (32, .tv (.bool false)), (42, .tv (.bool v7))], []⟩) ?_ fun σ' hJ => ?_
            · refine AOps.split (fun b => ⟨[(0, .tv (.str v1)), (3, .tv (.int .i64 v5)), (32, .tv (.bool false)), (37, .tv (.bool b))], []⟩) _ (fun hb => ?_) fun hb => ?_
              · replace hc11 := of_true hc11 hb
                obtain ⟨hg, hc11⟩ := of_guard hc11
                refine AOps.go [11, 12, 13, 14, 15] [] [(0 : Int) ≤ v5, v5 < (v1.length : Int)] [0, 3, 32, 42] 0 ⟨[(0, .tv (.str v1)), (3, .tv (.int .i64 v5)), (32, .tv (.bool false)), (42, .tv (.bool (decide ((((v1.getD v5.toNat 0).toNat : Nat) : Int) ≤ (90 : Int)))))], []⟩ ?_ (Nat.zero_le _) ⟨hg.1, hg.2⟩ ?_
                · kernel_rfl
                cases hc11
                exact AOps.nil rfl
              · replace hc11 := of_false hc11 hb
                refine AOps.go [11, 12, 13, 14, 15] [] [] [0, 3, 32, 42] 0 ⟨[(0, .tv (.str v1)), (3, .tv (.int .i64 v5)), (32, .tv (.bool false)), (42, .tv (.bool false))], []⟩ ?_ (Nat.zero_le _) trivial ?_
                · kernel_rfl
                cases hc11
                exact AOps.nil rfl
            subst hJ
            refine AOps.go [16] [] [] [0, 3, 43] 0 ⟨[(0, .tv (.str v1)), (3, .tv (.int .i64 v5)), (43, .tv (.bool v7))], []⟩ ?_ (Nat.zero_le _) trivial ?_
            · kernel_rfl
            cases hc6
            exact AOps.nil rfl
        subst hJ
        refine AOps.nil ?_
        refine AWp.cond rfl (fun hb => ?_) fun hb => ?_
        · replace h := of_true h hb
          refine AWp.keepTo [] 0 ⟨[], []⟩ ?_ (Nat.zero_le _) ?_
          · kernel_rfl
          refine AWp.seq ?_
          refine AWp.start [0] [] [] [2] 0 ⟨[(2, .tv (.bool false))], []⟩ rfl ?_ (Nat.zero_le _) trivial ?_
          · kernel_rfl
          refine AOps.nil ?_
          refine AWp.ret ?_
          cases h
          exact Or.inr ⟨_, rfl, by simp, rfl, rfl⟩
        · replace h := of_false h hb
          refine AWp.keepTo [0, 3] 0 ⟨[(0, .tv (.str v1)), (3, .tv (.int .i64 v5))], []⟩ ?_ (Nat.zero_le _) ?_
          · kernel_rfl
          refine AWp.skip ?_
          refine AWp.start [0, 1, 2] [] [] [0, 3] 0 ⟨[(0, .tv (.str v1)), (3, .tv (.int .i64 (w64 (v5 + (1 : Int)))))], []⟩ rfl ?_ (Nat.zero_le _) trivial ?_
          · kernel_rfl
          refine AOps.nil ?_
          cases h
          exact Or.inl ⟨_, rfl, rfl, rfl⟩
      · replace h := of_false h hb
        refine AWp.keepTo [] 0 ⟨[], []⟩ ?_ (Nat.zero_le _) ?_
        · kernel_rfl
        refine AWp.exit ?_
        cases h
        exact Or.inr ⟨_, rfl, by simp, rfl, rfl⟩
    · intro e σ hp
      rcases y with v9 | _
      · obtain ⟨rfl, rfl⟩ := hp
        cases h
        exact ⟨.inr rfl, rfl⟩
      · obtain ⟨rfl, rfl⟩ := hp
        refine AWp.seq ?_
        refine AWp.start [0] [] [] [2] 0 ⟨[(2, .tv (.bool true))], []⟩ rfl ?_ (Nat.zero_le _) trivial ?_
        · kernel_rfl
        refine AOps.nil ?_
        refine AWp.ret ?_
        cases h
        exact ⟨.inr rfl, rfl⟩

noncomputable def f15 (v1 : T31) : Option Bool :=
  (cond (decide ((v1.f1.length : Int) > (0 : Int))) (if (0 : Int) < (v1.f1.length : Int) then some ((v1.f1.getD 0 default).f1 == (-1 : Int)) else none) (some false)).bind fun v2 => some v2

theorem f15_ok (v1 : T31) {r : Bool} (h : f15 v1 = some r) : ACall Try.prog 15 [.agg [.str v1.f0, fzL 3 c48 v1.f1]] [] (.tv (.bool r)) [] := by
  refine ACall.of1 (FF 15 0) Try.func15 rfl Try.ntmps15 Try.results15 (Nat.le_of_ble_eq_true rfl) rfl rfl ?_
  refine AWp.seq ?_
  refine AWp.start [0, 1] [] [] [1] 1 ⟨[(1, .pc 0 0)], [.cells 32 [.str v1.f0, fzL 3 c48 v1.f1]]⟩ rfl ?_ (Nat.zero_le _) trivial ?_
  · kernel_rfl
  refine AOps.nil ?_
  refine AWp.seq ?_
  refine AWp.pin 0 rfl rfl ?_
  refine AWp.keepTo [1] 0 ⟨[(1, .rp [.str v1.f0, fzL 3 c48 v1.f1])], []⟩ ?_ (Nat.zero_le _) ?_
  · kernel_rfl
  refine AWp.start [0, 1, 2, 3, 4] [5, 6, 7, 8, 9, 10, 11, 12] [] [1, 7] 0 ⟨[(1, .rp [.str v1.f0, fzL 3 c48 v1.f1]), (7, .tv (.bool (decide ((v1.f1.length : Int) > (0 : Int)))))], []⟩ rfl ?_ (Nat.zero_le _) trivial ?_
  · kernel_rfl
  obtain ⟨v2, hc5, h⟩ := of_bind h
  refine AOps.cut [5, 6, 7, 8, 9, 10, 11] [12] (fun σ => σ = ⟨[(14, .tv (.bool v2))], []⟩) ?_ fun σ' hJ => ?_
  · refine AOps.split (fun b => ⟨[(1, .rp [.str v1.f0, fzL 3 c48 v1.f1]), (7, .tv (.bool b))], []⟩) _ (fun hb => ?_) fun hb => ?_
    · replace hc5 := of_true hc5 hb
      obtain ⟨hg, hc5⟩ := of_guard hc5
      refine AOps.go [5, 6, 7, 8, 9, 10, 11] [] [(0 : Int) ≤ (0 : Int), (0 : Int) < (v1.f1.length : Int)] [14] 0 ⟨[(14, .tv (.bool ((v1.f1.getD 0 default).f1 == (-1 : Int))))], []⟩ ?_ (Nat.zero_le _) ⟨(by decide : (0 : Int) ≤ (0 : Int)), hg⟩ ?_
      · kernel_rfl
      cases hc5
      exact AOps.nil rfl
    · replace hc5 := of_false hc5 hb
      refine AOps.go [5, 6, 7, 8, 9, 10, 11] [] [] [14] 0 ⟨[(14, .tv (.bool false))], []⟩ ?_ (Nat.zero_le _) trivial ?_
      · kernel_rfl
      cases hc5
      exact AOps.nil rfl
  subst hJ
  refine AOps.go [12] [] [] [2] 0 ⟨[(2, .tv (.bool v2))], []⟩ ?_ (Nat.zero_le _) trivial ?_
  · kernel_rfl
  refine AOps.nil ?_
  refine AWp.ret ?_
  cases h
  exact ⟨.inr rfl, rfl⟩

noncomputable def f20_b1 (v1 : T31) (v4 : Bool) (v5 : Int) : Option ((Bool × Int) ⊕ Out Bool Unit) :=
  cond (decide (v5 < (v1.f1.length : Int))) (if (0 : Int) ≤ v5 ∧ v5 < (v1.f1.length : Int) then (cond (decide ((v1.f1.getD v5.toNat default).f0 < (1 : Int))) (some true) (cond (decide ((v1.f1.getD v5.toNat default).f0 > (4 : Int))) (some true) (cond (decide ((v1.f1.getD v5.toNat default).f1 < (-1 : Int))) (some true) (cond (decide ((v1.f1.getD v5.toNat default).f1 > (3 : Int))) (some true) ((f15 v1).bind fun v7 => cond (!(((v1.f1.getD v5.toNat default).f1 == (-1 : Int)) == v7)) (some true) (cond v4 (some (!((v1.f1.getD v5.toNat default).f2))) (some false))))))).bind fun v6 => cond v6 (some (.inr (.ret false))) (some (.inl ((v1.f1.getD v5.toNat default).f2, w64 (v5 + (1 : Int))))) else none) (some (.inr (.go ())))

noncomputable def f20 (v1 : T31) : Option Bool :=
  (f40 v1.f0).bind fun v2 => (cond (!v2) (some true) (some (decide ((v1.f1.length : Int) > (8 : Int))))).bind fun v3 => cond v3 (some false) ((iter (fun s => f20_b1 v1 s.1 s.2) (false, (0 : Int))).bind fun y => match y with | .ret v8 => some v8 | .go _ => some true)

theorem f20_ok (v1 : T31) {r : Bool} (h : f20 v1 = some r) : ACall Try.prog 20 [.agg [.str v1.f0, fzL 3 c48 v1.f1]] [] (.tv (.bool r)) [] := by
  refine ACall.of1 (FF 64 0) Try.func20 rfl Try.ntmps20 Try.results20 (Nat.le_of_ble_eq_true rfl) rfl rfl ?_
  refine AWp.seq ?_
  refine AWp.start [0, 1] [] [] [1] 1 ⟨[(1, .pc 0 0)], [.cells 32 [.str v1.f0, fzL 3 c48 v1.f1]]⟩ rfl ?_ (Nat.zero_le _) trivial ?_
  · kernel_rfl
  refine AOps.nil ?_
  refine AWp.seq ?_
  refine AWp.seq ?_
  refine AWp.pin 0 rfl rfl ?_
  refine AWp.keepTo [1] 0 ⟨[(1, .rp [.str v1.f0, fzL 3 c48 v1.f1])], []⟩ ?_ (Nat.zero_le _) ?_
  · kernel_rfl
  refine AWp.start [0, 1] [2, 3, 4, 5, 6, 7, 8, 9] [] [1, 7] 0 ⟨[(1, .rp [.str v1.f0, fzL 3 c48 v1.f1]), (7, .tv (.str v1.f0))], []⟩ rfl ?_ (Nat.zero_le _) trivial ?_
  · kernel_rfl
  obtain ⟨v2, hv2, h⟩ := of_bind h
  refine AOps.cons (AOne.callP (F := (FF 64 0)) _ rfl rfl rfl _ rfl rfl _ _ rfl Try.call40 [.tv (.str v1.f0)] rfl rfl (f40_ok v1.f0 hv2) rfl) ?_
  refine AOps.go [3, 4] [5, 6, 7, 8, 9] [] [1, 10] 0 ⟨[(1, .rp [.str v1.f0, fzL 3 c48 v1.f1]), (10, .tv (.bool (!v2)))], []⟩ ?_ (Nat.zero_le _) trivial ?_
  · kernel_rfl
  obtain ⟨v3, hc5, h⟩ := of_bind h
  refine AOps.cut [5, 6, 7, 8, 9] [] (fun σ => σ = ⟨[(1, .rp [.str v1.f0, fzL 3 c48 v1.f1]), (15, .tv (.bool v3))], []⟩) ?_ fun σ' hJ => ?_
  · refine AOps.split (fun b => ⟨[(1, .rp [.str v1.f0, fzL 3 c48 v1.f1]), (10, .tv (.bool b))], []⟩) _ (fun hb => ?_) fun hb => ?_
    · replace hc5 := of_true hc5 hb
      refine AOps.go [5, 6, 7, 8, 9] [] [] [1, 15] 0 ⟨[(1, .rp [.str v1.f0, fzL 3 c48 v1.f1]), (15, .tv (.bool true))], []⟩ ?_ (Nat.zero_le _) trivial ?_
      · kernel_rfl
      cases hc5
      exact AOps.nil rfl
    · replace hc5 := of_false hc5 hb
      refine AOps.go [5, 6, 7, 8, 9] [] [] [1, 15] 0 ⟨[(1, .rp [.str v1.f0, fzL 3 c48 v1.f1]), (15, .tv (.bool (decide ((v1.f1.length : Int) > (8 : Int)))))], []⟩ ?_ (Nat.zero_le _) trivial ?_
      · kernel_rfl
      cases hc5
      exact AOps.nil rfl
  subst hJ
  refine AOps.nil ?_
  refine AWp.cond rfl (fun hb => ?_) fun hb => ?_
  · replace h := of_true h hb
    refine AWp.keepTo [] 0 ⟨[], []⟩ ?_ (Nat.zero_le _) ?_
    · kernel_rfl
    refine AWp.seq ?_
    refine AWp.start [0] [] [] [2] 0 ⟨[(2, .tv (.bool false))], []⟩ rfl ?_ (Nat.zero_le _) trivial ?_
    · kernel_rfl
    refine AOps.nil ?_
    refine AWp.ret ?_
    cases h
    exact ⟨.inr rfl, rfl⟩
  · replace h := of_false h hb
    refine AWp.keepTo [1] 0 ⟨[(1, .rp [.str v1.f0, fzL 3 c48 v1.f1])], []⟩ ?_ (Nat.zero_le _) ?_
    · kernel_rfl
    refine AWp.skip ?_
    refine AWp.seq ?_
    refine AWp.start [0] [] [] [1, 3] 0 ⟨[(1, .rp [.str v1.f0, fzL 3 c48 v1.f1]), (3, .tv (.bool false))], []⟩ rfl ?_ (Nat.zero_le _) trivial ?_
    · kernel_rfl
    refine AOps.nil ?_
    refine AWp.seq ?_
    refine AWp.seq ?_
    refine AWp.start [0] [] [] [1, 3, 4] 0 ⟨[(1, .rp [.str v1.f0, fzL 3 c48 v1.f1]), (3, .tv (.bool false)), (4, .tv (.int .i64 (0 : Int)))], []⟩ rfl ?_ (Nat.zero_le _) trivial ?_
    · kernel_rfl
    refine AOps.nil ?_
    refine AWp.block ?_
    obtain ⟨y, hy, h⟩ := of_bind h
    refine AWp.mono (AWp.loop (S := Bool × Int) (Y := Out Bool Unit) (fun s => ⟨[(1, .rp [.str v1.f0, fzL 3 c48 v1.f1]), (3, .tv (.bool s.1)), (4, .tv (.int .i64 s.2))], []⟩) (fun s => f20_b1 v1 s.1 s.2) (fun y e σ => match y with | .ret r => e = .ret ∧ σ = ⟨[(2, .tv (.bool r))], []⟩ | .go v => e = .exit 0 ∧ σ = ⟨[], []⟩) ?_ hy) ?_
    · rintro ⟨v4, v5⟩ o h
      refine AWp.seq ?_
      refine AWp.seq ?_
      refine AWp.start [0, 1, 2, 3, 4] [] [] [1, 3, 4, 20] 0 ⟨[(1, .rp [.str v1.f0, fzL 3 c48 v1.f1]), (3, .tv (.bool v4)), (4, .tv (.int .i64 v5)), (20, .tv (.bool (decide (v5 < (v1.f1.length : Int)))))], []⟩ rfl ?_ (Nat.zero_le _) trivial ?_
      · kernel_rfl
      refine AOps.nil ?_
      refine AWp.cond rfl (fun hb => ?_) fun hb => ?_
      · replace h := of_true h hb
        refine AWp.keepTo [1, 3, 4] 0 ⟨[(1, .rp [.str v1.f0, fzL 3 c48 v1.f1]), (3, .tv (.bool v4)), (4, .tv (.int .i64 v5))], []⟩ ?_ (Nat.zero_le _) ?_
        · kernel_rfl
        refine AWp.skip ?_
        refine AWp.seq ?_
        refine AWp.block ?_
        refine AWp.seq ?_
        obtain ⟨hg, h⟩ := of_guard h
        refine AWp.start [0, 1, 2, 3, 4, 5, 6] [] [(0 : Int) ≤ v5, v5 < (v1.f1.length : Int)] [1, 3, 4, 5] 1 ⟨[(1, .rp [.str v1.f0, fzL 3 c48 v1.f1]), (3, .tv (.bool v4)), (4, .tv (.int .i64 v5)), (5, .pc 0 0)], [.cells 49 [.int .i64 ((v1.f1.getD v5.toNat default).f0), .int .i64 ((v1.f1.getD v5.toNat default).f1), .bool ((v1.f1.getD v5.toNat default).f2)]]⟩ rfl ?_ (Nat.zero_le _) ⟨hg.1, hg.2⟩ ?_
        · kernel_rfl
        refine AOps.nil ?_
        refine AWp.seq ?_
        refine AWp.seq ?_
        refine AWp.pin 0 rfl rfl ?_
        refine AWp.keepTo [1, 3, 4, 5] 0 ⟨[(1, .rp [.str v1.f0, fzL 3 c48 v1.f1]), (3, .tv (.bool v4)), (4, .tv (.int .i64 v5)), (5, .rp [.int .i64 ((v1.f1.getD v5.toNat default).f0), .int .i64 ((v1.f1.getD v5.toNat default).f1), .bool ((v1.f1.getD v5.toNat default).f2)])], []⟩ ?_ (Nat.zero_le _) ?_
        · kernel_rfl
        obtain ⟨v6, hd, h⟩ := of_bind h
        refine AWp.draw FFm (fun σ => σ = ⟨[(1, .rp [.str v1.f0, fzL 3 c48 v1.f1]), (4, .tv (.int .i64 v5)), (5, .rp [.int .i64 ((v1.f1.getD v5.toNat default).f0), .int .i64 ((v1.f1.getD v5.toNat default).f1), .bool ((v1.f1.getD v5.toNat default).f2)]), (61, .tv (.bool v6))], []⟩) (n := 34) rfl (ls := #[false, false, false, false, false, false, false, false, false, false, false, false, false, false, false, false, false, false, false, false, false, false, false, false, false, false, false, false, false, false, false, false, false, false]) rfl ?_ ?_
        · refine AAny.go (by kernel_rfl) [0, 1, 2, 3] (fuel' := 30) rfl [] #[true, true, true, true, false, false, false, false, false, false, false, false, false, false, false, false, false, false, false, false, false, false, false, false, false, false, false, false, false, false, false, false, false, false] [1, 3, 4, 5, 31] 0 ⟨[(1, .rp [.str v1.f0, fzL 3 c48 v1.f1]), (3, .tv (.bool v4)), (4, .tv (.int .i64 v5)), (5, .rp [.int .i64 ((v1.f1.getD v5.toNat default).f0), .int .i64 ((v1.f1.getD v5.toNat default).f1), .bool ((v1.f1.getD v5.toNat default).f2)]), (31, .tv (.bool (decide ((v1.f1.getD v5.toNat default).f0 < (1 : Int)))))], []⟩ ?_ (Nat.zero_le _) trivial ?_
          · kernel_rfl
          refine AAny.split (fun b => ⟨[(1, .rp [.str v1.f0, fzL 3 c48 v1.f1]), (3, .tv (.bool v4)), (4, .tv (.int .i64 v5)), (5, .rp [.int .i64 ((v1.f1.getD v5.toNat default).f0), .int .i64 ((v1.f1.getD v5.toNat default).f1), .bool ((v1.f1.getD v5.toNat default).f2)]), (31, .tv (.bool b))], []⟩) _ (fun hb => ?_) fun hb => ?_
          · replace hd := of_true hd hb
            refine AAny.go (by kernel_rfl) [4, 5, 6, 7, 8, 9, 10, 11, 12, 13, 14, 15, 16, 17, 18, 19, 20, 21, 22, 23, 24, 25, 26, 27, 28, 29, 30, 31, 32, 33] (fuel' := 0) rfl [] #[true, true, true, true, true, true, true, true, true, true, true, true, true, true, true, true, true, true, true, true, true, true, true, true, true, true, true, true, true, true, true, true, true, true] [1, 4, 5, 61] 0 ⟨[(1, .rp [.str v1.f0, fzL 3 c48 v1.f1]), (4, .tv (.int .i64 v5)), (5, .rp [.int .i64 ((v1.f1.getD v5.toNat default).f0), .int .i64 ((v1.f1.getD v5.toNat default).f1), .bool ((v1.f1.getD v5.toNat default).f2)]), (61, .tv (.bool true))], []⟩ ?_ (Nat.zero_le _) trivial ?_
            · kernel_rfl
            refine AAny.keepTo [1, 4, 5, 61] 0 ⟨[(1, .rp [.str v1.f0, fzL 3 c48 v1.f1]), (4, .tv (.int .i64 v5)), (5, .rp [.int .i64 ((v1.f1.getD v5.toNat default).f0), .int .i64 ((v1.f1.getD v5.toNat default).f1), .bool ((v1.f1.getD v5.toNat default).f2)]), (61, .tv (.bool true))], []⟩ _ ?_ rfl (Nat.zero_le _) (AAny.done (by kernel_rfl) ?_)
            · kernel_rfl
            cases hd
            exact rfl
          · replace hd := of_false hd hb
            refine AAny.go (by kernel_rfl) [4, 5, 6, 7, 8] (fuel' := 25) rfl [] #[true, true, true, true, true, true, true, true, true, false, false, false, false, false, false, false, false, false, false, false, false, false, false, false, false, false, false, false, false, false, false, false, false, false] [1, 3, 4, 5, 36] 0 ⟨[(1, .rp [.str v1.f0, fzL 3 c48 v1.f1]), (3, .tv (.bool v4)), (4, .tv (.int .i64 v5)), (5, .rp [.int .i64 ((v1.f1.getD v5.toNat default).f0), .int .i64 ((v1.f1.getD v5.toNat default).f1), .bool ((v1.f1.getD v5.toNat default).f2)]), (36, .tv (.bool (decide ((v1.f1.getD v5.toNat default).f0 > (4 : Int)))))], []⟩ ?_ (Nat.zero_le _) trivial ?_
            · kernel_rfl
            refine AAny.split (fun b => ⟨[(1, .rp [.str v1.f0, fzL 3 c48 v1.f1]), (3, .tv (.bool v4)), (4, .tv (.int .i64 v5)), (5, .rp [.int .i64 ((v1.f1.getD v5.toNat default).f0), .int .i64 ((v1.f1.getD v5.toNat default).f1), .bool ((v1.f1.getD v5.toNat default).f2)]), (36, .tv (.bool b))], []⟩) _ (fun hb => ?_) fun hb => ?_
            · replace hd := of_true hd hb
              refine AAny.go (by kernel_rfl) [9, 10, 11, 12, 13, 14, 15, 16, 17, 18, 19, 20, 21, 22, 23, 24, 25, 26, 27, 28, 29, 30, 31, 32, 33] (fuel' := 0) rfl [] #[true, true, true, true, true, true, true, true, true, true, true, true, true, true, true, true, true, true, true, true, true, true, true, true, true, true, true, true, true, true, true, true, true, true] [1, 4, 5, 61] 0 ⟨[(1, .rp [.str v1.f0, fzL 3 c48 v1.f1]), (4, .tv (.int .i64 v5)), (5, .rp [.int .i64 ((v1.f1.getD v5.toNat default).f0), .int .i64 ((v1.f1.getD v5.toNat default).f1), .bool ((v1.f1.getD v5.toNat default).f2)]), (61, .tv (.bool true))], []⟩ ?_ (Nat.zero_le _) trivial ?_
              · kernel_rfl
              refine AAny.keepTo [1, 4, 5, 61] 0 ⟨[(1, .rp [.str v1.f0, fzL 3 c48 v1.f1]), (4, .tv (.int .i64 v5)), (5, .rp [.int .i64 ((v1.f1.getD v5.toNat default).f0), .int .i64 ((v1.f1.getD v5.toNat default).f1), .bool ((v1.f1.getD v5.toNat default).f2)]), (61, .tv (.bool true))], []⟩ _ ?_ rfl (Nat.zero_le _) (AAny.done (by kernel_rfl) ?_)
              · kernel_rfl
              cases hd
              exact rfl
            · replace hd := of_false hd hb
              refine AAny.go (by kernel_rfl) [9, 10, 11, 12, 13] (fuel' := 20) rfl [] #[true, true, true, true, true, true, true, true, true, true, true, true, true, true, false, false, false, false, false, false, false, false, false, false, false, false, false, false, false, false, false, false, false, false] [1, 3, 4, 5, 41] 0 ⟨[(1, .rp [.str v1.f0, fzL 3 c48 v1.f1]), (3, .tv (.bool v4)), (4, .tv (.int .i64 v5)), (5, .rp [.int .i64 ((v1.f1.getD v5.toNat default).f0), .int .i64 ((v1.f1.getD v5.toNat default).f1), .bool ((v1.f1.getD v5.toNat default).f2)]), (41, .tv (.bool (decide ((v1.f1.getD v5.toNat default).f1 < (-1 : Int)))))], []⟩ ?_ (Nat.zero_le _) trivial ?_
              · kernel_rfl
              refine AAny.split (fun b => ⟨[(1, .rp [.str v1.f0, fzL 3 c48 v1.f1]), (3, .tv (.bool v4)), (4, .tv (.int .i64 v5)), (5, .rp [.int .i64 ((v1.f1.getD v5.toNat default).f0), .int .i64 ((v1.f1.getD v5.toNat default).f1), .bool ((v1.f1.getD v5.toNat default).f2)]), (41, .tv (.bool b))], []⟩) _ (fun hb => ?_) fun hb => ?_
              · replace hd := of_true hd hb
                refine AAny.go (by kernel_rfl) [14, 15, 16, 17, 18, 19, 20, 21, 22, 23, 24, 25, 26, 27, 28, 29, 30, 31, 32, 33] (fuel' := 0) rfl [] #[true, true, true, true, true, true, true, true, true, true, true, true, true, true, true, true, true, true, true, true, true, true, true, true, true, true, true, true, true, true, true, true, true, true] [1, 4, 5, 61] 0 ⟨[(1, .rp [.str v1.f0, fzL 3 c48 v1.f1]), (4, .tv (.int .i64 v5)), (5, .rp [.int .i64 ((v1.f1.getD v5.toNat default).f0), .int .i64 ((v1.f1.getD v5.toNat default).f1), .bool ((v1.f1.getD v5.toNat default).f2)]), (61, .tv (.bool true))], []⟩ ?_ (Nat.zero_le _) trivial ?_
                · kernel_rfl
                refine AAny.keepTo [1, 4, 5, 61] 0 ⟨[(1, .rp [.str v1.f0, fzL 3 c48 v1.f1]), (4, .tv (.int .i64 v5)), (5, .rp [.int .i64 ((v1.f1.getD v5.toNat default).f0), .int .i64 ((v1.f1.getD v5.toNat default).f1), .bool ((v1.f1.getD v5.toNat default).f2)]), (61, .tv (.bool true))], []⟩ _ ?_ rfl (Nat.zero_le _) (AAny.done (by kernel_rfl) ?_)
                · kernel_rfl
                cases hd
                exact rfl
              · replace hd := of_false hd hb
                refine AAny.go (by kernel_rfl) [14, 15, 16, 17, 18] (fuel' := 15) rfl [] #[true, true, true, true, true, true, true, true, true, true, true, true, true, true, true, true, true, true, true, false, false, false, false, false, false, false, false, false, false, false, false, false, false, false] [1, 3, 4, 5, 46] 0 ⟨[(1, .rp [.str v1.f0, fzL 3 c48 v1.f1]), (3, .tv (.bool v4)), (4, .tv (.int .i64 v5)), (5, .rp [.int .i64 ((v1.f1.getD v5.toNat default).f0), .int .i64 ((v1.f1.getD v5.toNat default).f1), .bool ((v1.f1.getD v5.toNat default).f2)]), (46, .tv (.bool (decide ((v1.f1.getD v5.toNat default).f1 > (3 : Int)))))], []⟩ ?_ (Nat.zero_le _) trivial ?_
                · kernel_rfl
                refine AAny.split (fun b => ⟨[(1, .rp [.str v1.f0, fzL 3 c48 v1.f1]), (3, .tv (.bool v4)), (4, .tv (.int .i64 v5)), (5, .rp [.int .i64 ((v1.f1.getD v5.toNat default).f0), .int .i64 ((v1.f1.getD v5.toNat default).f1), .bool ((v1.f1.getD v5.toNat default).f2)]), (46, .tv (.bool b))], []⟩) _ (fun hb => ?_) fun hb => ?_
                · replace hd := of_true hd hb
                  refine AAny.go (by kernel_rfl) [19, 20, 21, 22, 23, 24, 25, 26, 27, 28, 29, 30, 31, 32, 33] (fuel' := 0) rfl [] #[true, true, true, true, true, true, true, true, true, true, true, true, true, true, true, true, true, true, true, true, true, true, true, true, true, true, true, true, true, true, true, true, true, true] [1, 4, 5, 61] 0 ⟨[(1, .rp [.str v1.f0, fzL 3 c48 v1.f1]), (4, .tv (.int .i64 v5)), (5, .rp [.int .i64 ((v1.f1.getD v5.toNat default).f0), .int .i64 ((v1.f1.getD v5.toNat default).f1), .bool ((v1.f1.getD v5.toNat default).f2)]), (61, .tv (.bool true))], []⟩ ?_ (Nat.zero_le _) trivial ?_
                  · kernel_rfl
                  refine AAny.keepTo [1, 4, 5, 61] 0 ⟨[(1, .rp [.str v1.f0, fzL 3 c48 v1.f1]), (4, .tv (.int .i64 v5)), (5, .rp [.int .i64 ((v1.f1.getD v5.toNat default).f0), .int .i64 ((v1.f1.getD v5.toNat default).f1), .bool ((v1.f1.getD v5.toNat default).f2)]), (61, .tv (.bool true))], []⟩ _ ?_ rfl (Nat.zero_le _) (AAny.done (by kernel_rfl) ?_)
                  · kernel_rfl
                  cases hd
                  exact rfl
                · replace hd := of_false hd hb
                  refine AAny.go (by kernel_rfl) [19, 20, 21, 22] (fuel' := 11) rfl [] #[true, true, true, true, true, true, true, true, true, true, true, true, true, true, true, true, true, true, true, true, true, true, true, false, false, false, false, false, false, false, false, false, false, false] [1, 3, 4, 5, 46, 49, 50] 0 ⟨[(1, .rp [.str v1.f0, fzL 3 c48 v1.f1]), (3, .tv (.bool v4)), (4, .tv (.int .i64 v5)), (5, .rp [.int .i64 ((v1.f1.getD v5.toNat default).f0), .int .i64 ((v1.f1.getD v5.toNat default).f1), .bool ((v1.f1.getD v5.toNat default).f2)]), (46, .tv (.bool false)), (49, .tv (.bool ((v1.f1.getD v5.toNat default).f1 == (-1 : Int)))), (50, .agg [.str v1.f0, fzL 3 c48 v1.f1])], []⟩ ?_ (Nat.zero_le _) trivial ?_
                  · kernel_rfl
                  obtain ⟨v7, hv7, hd⟩ := of_bind hd
                  refine AAny.serial (i := 23) (fuel := 10) (by kernel_rfl) (AOne.callP (F := (FF 64 0)) _ rfl rfl rfl _ rfl rfl _ _ rfl Try.call15 [.agg [.str v1.f0, fzL 3 c48 v1.f1]] rfl rfl (f15_ok v1 hv7) rfl) ?_
                  refine AAny.keepTo [1, 3, 4, 5, 46, 49, 51] 0 ⟨[(1, .rp [.str v1.f0, fzL 3 c48 v1.f1]), (3, .tv (.bool v4)), (4, .tv (.int .i64 v5)), (5, .rp [.int .i64 ((v1.f1.getD v5.toNat default).f0), .int .i64 ((v1.f1.getD v5.toNat default).f1), .bool ((v1.f1.getD v5.toNat default).f2)]), (46, .tv (.bool false)), (49, .tv (.bool ((v1.f1.getD v5.toNat default).f1 == (-1 : Int)))), (51, .tv (.bool v7))], []⟩ #[true, true, true, true, true, true, true, true, true, true, true, true, true, true, true, true, true, true, true, true, true, true, true, true, false, false, false, false, false, false, false, false, false, false] ?_ rfl (Nat.zero_le _) ?_
                  · kernel_rfl
                  refine AAny.go (by kernel_rfl) [24, 25, 26] (fuel' := 7) rfl [] #[true, true, true, true, true, true, true, true, true, true, true, true, true, true, true, true, true, true, true, true, true, true, true, true, true, true, true, false, false, false, false, false, false, false] [1, 3, 4, 5, 54] 0 ⟨[(1, .rp [.str v1.f0, fzL 3 c48 v1.f1]), (3, .tv (.bool v4)), (4, .tv (.int .i64 v5)), (5, .rp [.int .i64 ((v1.f1.getD v5.toNat default).f0), .int .i64 ((v1.f1.getD v5.toNat default).f1), .bool ((v1.f1.getD v5.toNat default).f2)]), (54, .tv (.bool (!(((v1.f1.getD v5.toNat default).f1 == (-1 : Int)) == v7))))], []⟩ ?_ (Nat.zero_le _) trivial ?_
                  · kernel_rfl
                  refine AAny.split (fun b => ⟨[(1, .rp [.str v1.f0, fzL 3 c48 v1.f1]), (3, .tv (.bool v4)), (4, .tv (.int .i64 v5)), (5, .rp [.int .i64 ((v1.f1.getD v5.toNat default).f0), .int .i64 ((v1.f1.getD v5.toNat default).f1), .bool ((v1.f1.getD v5.toNat default).f2)]), (54, .tv (.bool b))], []⟩) _ (fun hb => ?_) fun hb => ?_
                  · replace hd := of_true hd hb
                    refine AAny.go (by kernel_rfl) [27, 28, 29, 30, 31, 32, 33] (fuel' := 0) rfl [] #[true, true, true, true, true, true, true, true, true, true, true, true, true, true, true, true, true, true, true, true, true, true, true, true, true, true, true, true, true, true, true, true, true, true] [1, 4, 5, 61] 0 ⟨[(1, .rp [.str v1.f0, fzL 3 c48 v1.f1]), (4, .tv (.int .i64 v5)), (5, .rp [.int .i64 ((v1.f1.getD v5.toNat default).f0), .int .i64 ((v1.f1.getD v5.toNat default).f1), .bool ((v1.f1.getD v5.toNat default).f2)]), (61, .tv (.bool true))], []⟩ ?_ (Nat.zero_le _) trivial ?_
                    · kernel_rfl
                    refine AAny.keepTo [1, 4, 5, 61] 0 ⟨[(1, .rp [.str v1.f0, fzL 3 c48 v1.f1]), (4, .tv (.int .i64 v5)), (5, .rp [.int .i64 ((v1.f1.getD v5.toNat default).f0), .int .i64 ((v1.f1.getD v5.toNat default).f1), .bool ((v1.f1.getD v5.toNat default).f2)]), (61, .tv (.bool true))], []⟩ _ ?_ rfl (Nat.zero_le _) (AAny.done (by kernel_rfl) ?_)
                    · kernel_rfl
                    cases hd
                    exact rfl
                  · replace hd := of_false hd hb
                    refine AAny.go (by kernel_rfl) [27, 28] (fuel' := 5) rfl [] #[true, true, true, true, true, true, true, true, true, true, true, true, true, true, true, true, true, true, true, true, true, true, true, true, true, true, true, true, true, false, false, false, false, false] [1, 4, 5, 54, 56] 0 ⟨[(1, .rp [.str v1.f0, fzL 3 c48 v1.f1]), (4, .tv (.int .i64 v5)), (5, .rp [.int .i64 ((v1.f1.getD v5.toNat default).f0), .int .i64 ((v1.f1.getD v5.toNat default).f1), .bool ((v1.f1.getD v5.toNat default).f2)]), (54, .tv (.bool false)), (56, .tv (.bool v4))], []⟩ ?_ (Nat.zero_le _) trivial ?_
                    · kernel_rfl
                    refine AAny.split (fun b => ⟨[(1, .rp [.str v1.f0, fzL 3 c48 v1.f1]), (4, .tv (.int .i64 v5)), (5, .rp [.int .i64 ((v1.f1.getD v5.toNat default).f0), .int .i64 ((v1.f1.getD v5.toNat default).f1), .bool ((v1.f1.getD v5.toNat default).f2)]), (54, .tv (.bool false)), (56, .tv (.bool b))], []⟩) _ (fun hb => ?_) fun hb => ?_
                    · replace hd := of_true hd hb
                      refine AAny.go (by kernel_rfl) [29, 30, 31, 32, 33] (fuel' := 0) rfl [] #[true, true, true, true, true, true, true, true, true, true, true, true, true, true, true, true, true, true, true, true, true, true, true, true, true, true, true, true, true, true, true, true, true, true] [1, 4, 5, 61] 0 ⟨[(1, .rp [.str v1.f0, fzL 3 c48 v1.f1]), (4, .tv (.int .i64 v5)), (5, .rp [.int .i64 ((v1.f1.getD v5.toNat default).f0), .int .i64 ((v1.f1.getD v5.toNat default).f1), .bool ((v1.f1.getD v5.toNat default).f2)]), (61, .tv (.bool (!((v1.f1.getD v5.toNat default).f2))))], []⟩ ?_ (Nat.zero_le _) trivial ?_
                      · kernel_rfl
                      refine AAny.keepTo [1, 4, 5, 61] 0 ⟨[(1, .rp [.str v1.f0, fzL 3 c48 v1.f1]), (4, .tv (.int .i64 v5)), (5, .rp [.int .i64 ((v1.f1.getD v5.toNat default).f0), .int .i64 ((v1.f1.getD v5.toNat default).f1), .bool ((v1.f1.getD v5.toNat default).f2)]), (61, .tv (.bool (!((v1.f1.getD v5.toNat default).f2))))], []⟩ _ ?_ rfl (Nat.zero_le _) (AAny.done (by kernel_rfl) ?_)
                      · kernel_rfl
                      cases hd
                      exact rfl
                    · replace hd := of_false hd hb
                      refine AAny.go (by kernel_rfl) [29, 30, 31, 32, 33] (fuel' := 0) rfl [] #[true, true, true, true, true, true, true, true, true, true, true, true, true, true, true, true, true, true, true, true, true, true, true, true, true, true, true, true, true, true, true, true, true, true] [1, 4, 5, 61] 0 ⟨[(1, .rp [.str v1.f0, fzL 3 c48 v1.f1]), (4, .tv (.int .i64 v5)), (5, .rp [.int .i64 ((v1.f1.getD v5.toNat default).f0), .int .i64 ((v1.f1.getD v5.toNat default).f1), .bool ((v1.f1.getD v5.toNat default).f2)]), (61, .tv (.bool false))], []⟩ ?_ (Nat.zero_le _) trivial ?_
                      · kernel_rfl
                      refine AAny.keepTo [1, 4, 5, 61] 0 ⟨[(1, .rp [.str v1.f0, fzL 3 c48 v1.f1]), (4, .tv (.int .i64 v5)), (5, .rp [.int .i64 ((v1.f1.getD v5.toNat default).f0), .int .i64 ((v1.f1.getD v5.toNat default).f1), .bool ((v1.f1.getD v5.toNat default).f2)]), (61, .tv (.bool false))], []⟩ _ ?_ rfl (Nat.zero_le _) (AAny.done (by kernel_rfl) ?_)
                      · kernel_rfl
                      cases hd
                      exact rfl
        rintro σ' rfl
        refine AWp.cond rfl (fun hb => ?_) fun hb => ?_
        · replace h := of_true h hb
          refine AWp.keepTo [] 0 ⟨[], []⟩ ?_ (Nat.zero_le _) ?_
          · kernel_rfl
          refine AWp.seq ?_
          refine AWp.start [0] [] [] [2] 0 ⟨[(2, .tv (.bool false))], []⟩ rfl ?_ (Nat.zero_le _) trivial ?_
          · kernel_rfl
          refine AOps.nil ?_
          refine AWp.ret ?_
          cases h
          exact Or.inr ⟨_, rfl, by simp, rfl, rfl⟩
        · replace h := of_false h hb
          refine AWp.keepTo [1, 4, 5] 0 ⟨[(1, .rp [.str v1.f0, fzL 3 c48 v1.f1]), (4, .tv (.int .i64 v5)), (5, .rp [.int .i64 ((v1.f1.getD v5.toNat default).f0), .int .i64 ((v1.f1.getD v5.toNat default).f1), .bool ((v1.f1.getD v5.toNat default).f2)])], []⟩ ?_ (Nat.zero_le _) ?_
          · kernel_rfl
          refine AWp.skip ?_
          refine AWp.start [0, 1, 2] [] [] [1, 3, 4] 0 ⟨[(1, .rp [.str v1.f0, fzL 3 c48 v1.f1]), (3, .tv (.bool ((v1.f1.getD v5.toNat default).f2))), (4, .tv (.int .i64 v5))], []⟩ rfl ?_ (Nat.zero_le _) trivial ?_
          · kernel_rfl
          refine AOps.nil ?_
          refine AWp.start [0, 1, 2] [] [] [1, 3, 4] 0 ⟨[(1, .rp [.str v1.f0, fzL 3 c48 v1.f1]), (3, .tv (.bool ((v1.f1.getD v5.toNat default).f2))), (4, .tv (.int .i64 (w64 (v5 + (1 : Int)))))], []⟩ rfl ?_ (Nat.zero_le _) trivial ?_
          · kernel_rfl
          refine AOps.nil ?_
          cases h
          exact Or.inl ⟨_, rfl, rfl, rfl⟩
      · replace h := of_false h hb
        refine AWp.keepTo [] 0 ⟨[], []⟩ ?_ (Nat.zero_le _) ?_
        · kernel_rfl
        refine AWp.exit ?_
        cases h
        exact Or.inr ⟨_, rfl, by simp, rfl, rfl⟩
    · intro e σ hp
      rcases y with v8 | _
      · obtain ⟨rfl, rfl⟩ := hp
        cases h
        exact ⟨.inr rfl, rfl⟩
      · obtain ⟨rfl, rfl⟩ := hp
        refine AWp.seq ?_
        refine AWp.start [0] [] [] [2] 0 ⟨[(2, .tv (.bool true))], []⟩ rfl ?_ (Nat.zero_le _) trivial ?_
        · kernel_rfl
        refine AOps.nil ?_
        refine AWp.ret ?_
        cases h
        exact ⟨.inr rfl, rfl⟩

noncomputable def f34_b1 (v1 : List T31) (v2 : Int) (v4 : Int) : Option (Int ⊕ Out Bool Unit) :=
  cond (decide (v4 < v2)) (if (0 : Int) ≤ v4 ∧ v4 < (v1.length : Int) ∧ (0 : Int) ≤ v2 ∧ v2 < (v1.length : Int) then cond (((v1.getD v4.toNat default).f0) == ((v1.getD v2.toNat default).f0)) (some (.inr (.ret false))) (some (.inl (w64 (v4 + (1 : Int))))) else none) (some (.inr (.go ())))

noncomputable def f34_b2 (v1 : List T31) (v2 : Int) : Option (Int ⊕ Out Bool Unit) :=
  cond (decide (v2 < (v1.length : Int))) (if (0 : Int) ≤ v2 ∧ v2 < (v1.length : Int) then (f20 (v1.getD v2.toNat default)).bind fun v3 => cond (!v3) (some (.inr (.ret false))) ((iter (fun s => f34_b1 v1 v2 s) (0 : Int)).bind fun y => match y with | .ret v5 => some (.inr (.ret v5)) | .go _ => some (.inl (w64 (v2 + (1 : Int))))) else none) (some (.inr (.go ())))

noncomputable def f34 (v1 : List T31) : Option Bool :=
  (iter (fun s => f34_b2 v1 s) (0 : Int)).bind fun y => match y with | .ret v6 => some v6 | .go _ => some (decide ((v1.length : Int) ≤ (20 : Int)))

theorem f34_ok (v1 : List T31) {r : Bool} (h : f34 v1 = some r) : ACall Try.prog 34 [.tv (fzL 2 c31 v1)] [] (.tv (.bool r)) [] := by
  refine ACall.of1 (FF 36 0) Try.func34 rfl Try.ntmps34 Try.results34 (Nat.le_of_ble_eq_true rfl) rfl rfl ?_
  refine AWp.seq ?_
  refine AWp.start [0] [] [] [0] 0 ⟨[(0, .tv (fzL 2 c31 v1))], []⟩ rfl ?_ (Nat.zero_le _) trivial ?_
  · kernel_rfl
  refine AOps.nil ?_
  refine AWp.seq ?_
  refine AWp.seq ?_
  refine AWp.start [0] [] [] [0, 3] 0 ⟨[(0, .tv (fzL 2 c31 v1)), (3, .tv (.int .i64 (0 : Int)))], []⟩ rfl ?_ (Nat.zero_le _) trivial ?_
  · kernel_rfl
  refine AOps.nil ?_
  refine AWp.block ?_
  obtain ⟨y, hy, h⟩ := of_bind h
  refine AWp.mono (AWp.loop (S := Int) (Y := Out Bool Unit) (fun s => ⟨[(0, .tv (fzL 2 c31 v1)), (3, .tv (.int .i64 s))], []⟩) (fun s => f34_b2 v1 s) (fun y e σ => match y with | .ret r => e = .ret ∧ σ = ⟨[(2, .tv (.bool r))], []⟩ | .go v => e = .exit 0 ∧ σ = ⟨[(0, .tv (fzL 2 c31 v1))], []⟩) ?_ hy) ?_
  · rintro v2 o h
    refine AWp.seq ?_
    refine AWp.seq ?_
    refine AWp.start [0, 1, 2, 3] [] [] [0, 3, 8] 0 ⟨[(0, .tv (fzL 2 c31 v1)), (3, .tv (.int .i64 v2)), (8, .tv (.bool (decide (v2 < (v1.length : Int)))))], []⟩ rfl ?_ (Nat.zero_le _) trivial ?_
    · kernel_rfl
    refine AOps.nil ?_
    refine AWp.cond rfl (fun hb => ?_) fun hb => ?_
    · replace h := of_true h hb
      refine AWp.keepTo [0, 3] 0 ⟨[(0, .tv (fzL 2 c31 v1)), (3, .tv (.int .i64 v2))], []⟩ ?_ (Nat.zero_le _) ?_
      · kernel_rfl
      refine AWp.skip ?_
      refine AWp.seq ?_
      refine AWp.block ?_
      refine AWp.seq ?_
      refine AWp.seq ?_
      obtain ⟨hg, h⟩ := of_guard h
      refine AWp.start [0, 1, 2, 3] [4, 5] [(0 : Int) ≤ v2, v2 < (v1.length : Int)] [0, 3, 14] 0 ⟨[(0, .tv (fzL 2 c31 v1)), (3, .tv (.int .i64 v2)), (14, .agg [.str ((v1.getD v2.toNat default).f0), fzL 3 c48 ((v1.getD v2.toNat default).f1)])], []⟩ rfl ?_ (Nat.zero_le _) ⟨hg.1, hg.2⟩ ?_
      · kernel_rfl
      obtain ⟨v3, hv3, h⟩ := of_bind h
      refine AOps.cons (AOne.callP (F := (FF 36 0)) _ rfl rfl rfl _ rfl rfl _ _ rfl Try.call20 [.agg [.str ((v1.getD v2.toNat default).f0), fzL 3 c48 ((v1.getD v2.toNat default).f1)]] rfl rfl (f20_ok (v1.getD v2.toNat default) hv3) rfl) ?_
      refine AOps.go [5] [] [] [0, 3, 16] 0 ⟨[(0, .tv (fzL 2 c31 v1)), (3, .tv (.int .i64 v2)), (16, .tv (.bool (!v3)))], []⟩ ?_ (Nat.zero_le _) trivial ?_
      · kernel_rfl
      refine AOps.nil ?_
      refine AWp.cond rfl (fun hb => ?_) fun hb => ?_
      · replace h := of_true h hb
        refine AWp.keepTo [] 0 ⟨[], []⟩ ?_ (Nat.zero_le _) ?_
        · kernel_rfl
        refine AWp.seq ?_
        refine AWp.start [0] [] [] [2] 0 ⟨[(2, .tv (.bool false))], []⟩ rfl ?_ (Nat.zero_le _) trivial ?_
        · kernel_rfl
        refine AOps.nil ?_
        refine AWp.ret ?_
        cases h
        exact Or.inr ⟨_, rfl, by simp, rfl, rfl⟩
      · replace h := of_false h hb
        refine AWp.keepTo [0, 3] 0 ⟨[(0, .tv (fzL 2 c31 v1)), (3, .tv (.int .i64 v2))], []⟩ ?_ (Nat.zero_le _) ?_
        · kernel_rfl
        refine AWp.skip ?_
        refine AWp.seq ?_
        refine AWp.start [0] [] [] [0, 3, 4] 0 ⟨[(0, .tv (fzL 2 c31 v1)), (3, .tv (.int .i64 v2)), (4, .tv (.int .i64 (0 : Int)))], []⟩ rfl ?_ (Nat.zero_le _) trivial ?_
        · kernel_rfl
        refine AOps.nil ?_
        refine AWp.block ?_
        obtain ⟨y, hy, h⟩ := of_bind h
        refine AWp.mono (AWp.loop (S := Int) (Y := Out Bool Unit) (fun s => ⟨[(0, .tv (fzL 2 c31 v1)), (3, .tv (.int .i64 v2)), (4, .tv (.int .i64 s))], []⟩) (fun s => f34_b1 v1 v2 s) (fun y e σ => match y with | .ret r => e = .ret ∧ σ = ⟨[(2, .tv (.bool r))], []⟩ | .go v => e = .exit 2 ∧ σ = ⟨[(0, .tv (fzL 2 c31 v1)), (3, .tv (.int .i64 v2))], []⟩) ?_ hy) ?_
        · rintro v4 o h
          refine AWp.seq ?_
          refine AWp.seq ?_
          refine AWp.start [0, 1, 2] [] [] [0, 3, 4, 19] 0 ⟨[(0, .tv (fzL 2 c31 v1)), (3, .tv (.int .i64 v2)), (4, .tv (.int .i64 v4)), (19, .tv (.bool (decide (v4 < v2))))], []⟩ rfl ?_ (Nat.zero_le _) trivial ?_
          · kernel_rfl
          refine AOps.nil ?_
          refine AWp.cond rfl (fun hb => ?_) fun hb => ?_
          · replace h := of_true h hb
            refine AWp.keepTo [0, 3, 4] 0 ⟨[(0, .tv (fzL 2 c31 v1)), (3, .tv (.int .i64 v2)), (4, .tv (.int .i64 v4))], []⟩ ?_ (Nat.zero_le _) ?_
            · kernel_rfl
            refine AWp.skip ?_
            refine AWp.seq ?_
            refine AWp.block ?_
            refine AWp.seq ?_
            refine AWp.draw FFm _ (n := 11) rfl (ls := #[false, false, false, false, false, false, false, false, false, false, false]) rfl ?_ (fun _ h => h)
            obtain ⟨hg, h⟩ := of_guard h
            refine AAny.go (by kernel_rfl) [0, 1, 2, 3, 4, 5, 6, 7, 8, 9, 10] (fuel' := 0) rfl [(0 : Int) ≤ v4, v4 < (v1.length : Int), (0 : Int) ≤ v2, v2 < (v1.length : Int)] #[true, true, true, true, true, true, true, true, true, true, true] [0, 3, 4, 32] 0 ⟨[(0, .tv (fzL 2 c31 v1)), (3, .tv (.int .i64 v2)), (4, .tv (.int .i64 v4)), (32, .tv (.bool (((v1.getD v4.toNat default).f0) == ((v1.getD v2.toNat default).f0))))], []⟩ ?_ (Nat.zero_le _) ⟨hg.1, hg.2.1, hg.2.2.1, hg.2.2.2⟩ ?_
            · kernel_rfl
            refine AAny.keepTo [0, 3, 4, 32] 0 ⟨[(0, .tv (fzL 2 c31 v1)), (3, .tv (.int .i64 v2)), (4, .tv (.int .i64 v4)), (32, .tv (.bool (((v1.getD v4.toNat default).f0) == ((v1.getD v2.toNat default).f0))))], []⟩ _ ?_ rfl (Nat.zero_le _) (AAny.done (by kernel_rfl) ?_)
            · kernel_rfl
            refine AWp.cond rfl (fun hb => ?_) fun hb => ?_
            · replace h := of_true h hb
              refine AWp.keepTo [] 0 ⟨[], []⟩ ?_ (Nat.zero_le _) ?_
              · kernel_rfl
              refine AWp.seq ?_
              refine AWp.start [0] [] [] [2] 0 ⟨[(2, .tv (.bool false))], []⟩ rfl ?_ (Nat.zero_le _) trivial ?_
              · kernel_rfl
              refine AOps.nil ?_
              refine AWp.ret ?_
              cases h
              exact Or.inr ⟨_, rfl, by simp, rfl, rfl⟩
            · replace h := of_false h hb
              refine AWp.keepTo [0, 3, 4] 0 ⟨[(0, .tv (fzL 2 c31 v1)), (3, .tv (.int .i64 v2)), (4, .tv (.int .i64 v4))], []⟩ ?_ (Nat.zero_le _) ?_
              · kernel_rfl
              refine AWp.skip ?_
              refine AWp.start [0, 1, 2] [] [] [0, 3, 4] 0 ⟨[(0, .tv (fzL 2 c31 v1)), (3, .tv (.int .i64 v2)), (4, .tv (.int .i64 (w64 (v4 + (1 : Int)))))], []⟩ rfl ?_ (Nat.zero_le _) trivial ?_
              · kernel_rfl
              refine AOps.nil ?_
              cases h
              exact Or.inl ⟨_, rfl, rfl, rfl⟩
          · replace h := of_false h hb
            refine AWp.keepTo [0, 3] 0 ⟨[(0, .tv (fzL 2 c31 v1)), (3, .tv (.int .i64 v2))], []⟩ ?_ (Nat.zero_le _) ?_
            · kernel_rfl
            refine AWp.exit ?_
            cases h
            exact Or.inr ⟨_, rfl, by simp, rfl, rfl⟩
        · intro e σ hp
          rcases y with v5 | _
          · obtain ⟨rfl, rfl⟩ := hp
            cases h
            exact Or.inr ⟨_, rfl, by simp, rfl, rfl⟩
          · obtain ⟨rfl, rfl⟩ := hp
            refine AWp.start [0, 1, 2] [] [] [0, 3] 0 ⟨[(0, .tv (fzL 2 c31 v1)), (3, .tv (.int .i64 (w64 (v2 + (1 : Int)))))], []⟩ rfl ?_ (Nat.zero_le _) trivial ?_
            · kernel_rfl
            refine AOps.nil ?_
            cases h
            exact Or.inl ⟨_, rfl, rfl, rfl⟩
    · replace h := of_false h hb
      refine AWp.keepTo [0] 0 ⟨[(0, .tv (fzL 2 c31 v1))], []⟩ ?_ (Nat.zero_le _) ?_
      · kernel_rfl
      refine AWp.exit ?_
      cases h
      exact Or.inr ⟨_, rfl, by simp, rfl, rfl⟩
  · intro e σ hp
    rcases y with v6 | _
    · obtain ⟨rfl, rfl⟩ := hp
      cases h
      exact ⟨.inr rfl, rfl⟩
    · obtain ⟨rfl, rfl⟩ := hp
      refine AWp.seq ?_
      refine AWp.start [0, 1, 2, 3] [] [] [2] 0 ⟨[(2, .tv (.bool (decide ((v1.length : Int) ≤ (20 : Int)))))], []⟩ rfl ?_ (Nat.zero_le _) trivial ?_
      · kernel_rfl
      refine AOps.nil ?_
      refine AWp.ret ?_
      cases h
      exact ⟨.inr rfl, rfl⟩

noncomputable def f35_b1 (v1 : List T48) (v2 : Int) : Option (Int ⊕ Out Bool Unit) :=
  cond (decide (v2 < (v1.length : Int))) (if (0 : Int) ≤ v2 ∧ v2 < (v1.length : Int) then (cond (decide ((v1.getD v2.toNat default).f0 < (1 : Int))) (some true) (if (0 : Int) ≤ v2 ∧ v2 < (v1.length : Int) then some (decide ((v1.getD v2.toNat default).f0 > (4 : Int))) else none)).bind fun v3 => (cond v3 (some true) (if (0 : Int) ≤ v2 ∧ v2 < (v1.length : Int) then some (decide ((v1.getD v2.toNat default).f1 < (0 : Int))) else none)).bind fun v4 => (cond v4 (some true) (if (0 : Int) ≤ v2 ∧ v2 < (v1.length : Int) then some (decide ((v1.getD v2.toNat default).f1 > (3 : Int))) else none)).bind fun v5 => cond v5 (some (.inr (.ret false))) (some (.inl (w64 (v2 + (1 : Int))))) else none) (some (.inr (.go ())))

noncomputable def f35 (v1 : List T48) : Option Bool :=
  (iter (fun s => f35_b1 v1 s) (0 : Int)).bind fun y => match y with | .ret v6 => some v6 | .go _ => some (decide ((v1.length : Int) ≤ (8 : Int)))

theorem f35_ok (v1 : List T48) {r : Bool} (h : f35 v1 = some r) : ACall Try.prog 35 [.tv (fzL 3 c48 v1)] [] (.tv (.bool r)) [] := by
  refine ACall.of1 (FF 43 0) Try.func35 rfl Try.ntmps35 Try.results35 (Nat.le_of_ble_eq_true rfl) rfl rfl ?_
  refine AWp.seq ?_
  refine AWp.start [0] [] [] [0] 0 ⟨[(0, .tv (fzL 3 c48 v1))], []⟩ rfl ?_ (Nat.zero_le _) trivial ?_
  · kernel_rfl
  refine AOps.nil ?_
  refine AWp.seq ?_
  refine AWp.seq ?_
  refine AWp.start [0] [] [] [0, 3] 0 ⟨[(0, .tv (fzL 3 c48 v1)), (3, .tv (.int .i64 (0 : Int)))], []⟩ rfl ?_ (Nat.zero_le _) trivial ?_
  · kernel_rfl
  refine AOps.nil ?_
  refine AWp.block ?_
  obtain ⟨y, hy, h⟩ := of_bind h
  refine AWp.mono (AWp.loop (S := Int) (Y := Out Bool Unit) (fun s => ⟨[(0, .tv (fzL 3 c48 v1)), (3, .tv (.int .i64 s))], []⟩) (fun s => f35_b1 v1 s) (fun y e σ => match y with | .ret r => e = .ret ∧ σ = ⟨[(2, .tv (.bool r))], []⟩ | .go v => e = .exit 0 ∧ σ = ⟨[(0, .tv (fzL 3 c48 v1))], []⟩) ?_ hy) ?_
  · rintro v2 o h
    refine AWp.seq ?_
    refine AWp.seq ?_
    refine AWp.start [0, 1, 2, 3] [] [] [0, 3, 7] 0 ⟨[(0, .tv (fzL 3 c48 v1)), (3, .tv (.int .i64 v2)), (7, .tv (.bool (decide (v2 < (v1.length : Int)))))], []⟩ rfl ?_ (Nat.zero_le _) trivial ?_
    · kernel_rfl
    refine AOps.nil ?_
    refine AWp.cond rfl (fun hb => ?_) fun hb => ?_
    · replace h := of_true h hb
      refine AWp.keepTo [0, 3] 0 ⟨[(0, .tv (fzL 3 c48 v1)), (3, .tv (.int .i64 v2))], []⟩ ?_ (Nat.zero_le _) ?_
      · kernel_rfl
      refine AWp.skip ?_
      refine AWp.seq ?_
      refine AWp.block ?_
      refine AWp.seq ?_
      obtain ⟨hg, h⟩ := of_guard h
      refine AWp.start [0, 1, 2, 3, 4, 5, 6] [7, 8, 9, 10, 11, 12, 13, 14, 15, 16, 17, 18, 19, 20, 21, 22, 23, 24, 25, 26, 27, 28, 29] [(0 : Int) ≤ v2, v2 < (v1.length : Int)] [0, 3, 16] 0 ⟨[(0, .tv (fzL 3 c48 v1)), (3, .tv (.int .i64 v2)), (16, .tv (.bool (decide ((v1.getD v2.toNat default).f0 < (1 : Int)))))], []⟩ rfl ?_ (Nat.zero_le _) ⟨hg.1, hg.2⟩ ?_
      · kernel_rfl
      obtain ⟨v3, hc7, h⟩ := of_bind h
      refine AOps.cut [7, 8, 9, 10, 11, 12, 13] [14, 15, 16, 17, 18, 19, 20, 21, 22, 23, 24, 25, 26, 27, 28, 29] (fun σ => σ = ⟨[(0, .tv (fzL 3 c48 v1)), (3, .tv (.int .i64 v2)), (23, .tv (.bool v3))], []⟩) ?_ fun σ' hJ => ?_
      · refine AOps.split (fun b => ⟨[(0, .tv (fzL 3 c48 v1)), (3, .tv (.int .i64 v2)), (16, .tv (.bool b))], []⟩) _ (fun hb => ?_) fun hb => ?_
        · replace hc7 := of_true hc7 hb
          refine AOps.go [7, 8, 9, 10, 11, 12, 13] [] [] [0, 3, 23] 0 ⟨[(0, .tv (fzL 3 c48 v1)), (3, .tv (.int .i64 v2)), (23, .tv (.bool true))], []⟩ ?_ (Nat.zero_le _) trivial ?_
          · kernel_rfl
          cases hc7
          exact AOps.nil rfl
        · replace hc7 := of_false hc7 hb
          obtain ⟨hg, hc7⟩ := of_guard hc7
          refine AOps.go [7, 8, 9, 10, 11, 12, 13] [] [(0 : Int) ≤ v2, v2 < (v1.length : Int)] [0, 3, 23] 0 ⟨[(0, .tv (fzL 3 c48 v1)), (3, .tv (.int .i64 v2)), (23, .tv (.bool (decide ((v1.getD v2.toNat default).f0 > (4 : Int)))))], []⟩ ?_ (Nat.zero_le _) ⟨hg.1, hg.2⟩ ?_
          · kernel_rfl
          cases hc7
          exact AOps.nil rfl
      subst hJ
      refine AOps.go [14] [15, 16, 17, 18, 19, 20, 21, 22, 23, 24, 25, 26, 27, 28, 29] [] [0, 3, 24] 0 ⟨[(0, .tv (fzL 3 c48 v1)), (3, .tv (.int .i64 v2)), (24, .tv (.bool v3))], []⟩ ?_ (Nat.zero_le _) trivial ?_
      · kernel_rfl
      obtain ⟨v4, hc15, h⟩ := of_bind h
      refine AOps.cut [15, 16, 17, 18, 19, 20, 21] [22, 23, 24, 25, 26, 27, 28, 29] (fun σ => σ = ⟨[(0, .tv (fzL 3 c48 v1)), (3, .tv (.int .i64 v2)), (31, .tv (.bool v4))], []⟩) ?_ fun σ' hJ => ?_
      · refine AOps.split (fun b => ⟨[(0, .tv (fzL 3 c48 v1)), (3, .tv (.int .i64 v2)), (24, .tv (.bool b))], []⟩) _ (fun hb => ?_) fun hb => ?_
        · replace hc15 := of_true hc15 hb
          refine AOps.go [15, 16, 17, 18, 19, 20, 21] [] [] [0, 3, 31] 0 ⟨[(0, .tv (fzL 3 c48 v1)), (3, .tv (.int .i64 v2)), (31, .tv (.bool true))], []⟩ ?_ (Nat.zero_le _) trivial ?_
          · kernel_rfl
          cases hc15
          exact AOps.nil rfl
        · replace hc15 := of_false hc15 hb
          obtain ⟨hg, hc15⟩ := of_guard hc15
          refine AOps.go [15, 16, 17, 18, 19, 20, 21] [] [(0 : Int) ≤ v2, v2 < (v1.length : Int)] [0, 3, 31] 0 ⟨[(0, .tv (fzL 3 c48 v1)), (3, .tv (.int .i64 v2)), (31, .tv (.bool (decide ((v1.getD v2.toNat default).f1 < (0 : Int)))))], []⟩ ?_ (Nat.zero_le _) ⟨hg.1, hg.2⟩ ?_
          · kernel_rfl
          cases hc15
          exact AOps.nil rfl
      subst hJ
      refine AOps.go [22] [23, 24, 25, 26, 27, 28, 29] [] [0, 3, 32] 0 ⟨[(0, .tv (fzL 3 c48 v1)), (3, .tv (.int .i64 v2)), (32, .tv (.bool v4))], []⟩ ?_ (Nat.zero_le _) trivial ?_
      · kernel_rfl
      obtain ⟨v5, hc23, h⟩ := of_bind h
      refine AOps.cut [23, 24, 25, 26, 27, 28, 29] [] (fun σ => σ = ⟨[(0, .tv (fzL 3 c48 v1)), (3, .tv (.int .i64 v2)), (39, .tv (.bool v5))], []⟩) ?_ fun σ' hJ => ?_
      · refine AOps.split (fun b => ⟨[(0, .tv (fzL 3 c48 v1)), (3, .tv (.int .i64 v2)), (32, .tv (.bool b))], []⟩) _ (fun hb => ?_) fun hb => ?_
        · replace hc23 := of_true hc23 hb
          refine AOps.go [23, 24, 25, 26, 27, 28, 29] [] [] [0, 3, 39] 0 ⟨[(0, .tv (fzL 3 c48 v1)), (3, .tv (.int .i64 v2)), (39, .tv (.bool true))], []⟩ ?_ (Nat.zero_le _) trivial ?_
          · kernel_rfl
          cases hc23
          exact AOps.nil rfl
        · replace hc23 := of_false hc23 hb
          obtain ⟨hg, hc23⟩ := of_guard hc23
          refine AOps.go [23, 24, 25, 26, 27, 28, 29] [] [(0 : Int) ≤ v2, v2 < (v1.length : Int)] [0, 3, 39] 0 ⟨[(0, .tv (fzL 3 c48 v1)), (3, .tv (.int .i64 v2)), (39, .tv (.bool (decide ((v1.getD v2.toNat default).f1 > (3 : Int)))))], []⟩ ?_ (Nat.zero_le _) ⟨hg.1, hg.2⟩ ?_
          · kernel_rfl
          cases hc23
          exact AOps.nil rfl
      subst hJ
      refine AOps.nil ?_
      refine AWp.cond rfl (fun hb => ?_) fun hb => ?_
      · replace h := of_true h hb
        refine AWp.keepTo [] 0 ⟨[], []⟩ ?_ (Nat.zero_le _) ?_
        · kernel_rfl
        refine AWp.seq ?_
        refine AWp.start [0] [] [] [2] 0 ⟨[(2, .tv (.bool false))], []⟩ rfl ?_ (Nat.zero_le _) trivial ?_
        · kernel_rfl
        refine AOps.nil ?_
        refine AWp.ret ?_
        cases h
        exact Or.inr ⟨_, rfl, by simp, rfl, rfl⟩
      · replace h := of_false h hb
        refine AWp.keepTo [0, 3] 0 ⟨[(0, .tv (fzL 3 c48 v1)), (3, .tv (.int .i64 v2))], []⟩ ?_ (Nat.zero_le _) ?_
        · kernel_rfl
        refine AWp.skip ?_
        refine AWp.start [0, 1, 2] [] [] [0, 3] 0 ⟨[(0, .tv (fzL 3 c48 v1)), (3, .tv (.int .i64 (w64 (v2 + (1 : Int)))))], []⟩ rfl ?_ (Nat.zero_le _) trivial ?_
        · kernel_rfl
        refine AOps.nil ?_
        cases h
        exact Or.inl ⟨_, rfl, rfl, rfl⟩
    · replace h := of_false h hb
      refine AWp.keepTo [0] 0 ⟨[(0, .tv (fzL 3 c48 v1))], []⟩ ?_ (Nat.zero_le _) ?_
      · kernel_rfl
      refine AWp.exit ?_
      cases h
      exact Or.inr ⟨_, rfl, by simp, rfl, rfl⟩
  · intro e σ hp
    rcases y with v6 | _
    · obtain ⟨rfl, rfl⟩ := hp
      cases h
      exact ⟨.inr rfl, rfl⟩
    · obtain ⟨rfl, rfl⟩ := hp
      refine AWp.seq ?_
      refine AWp.start [0, 1, 2, 3] [] [] [2] 0 ⟨[(2, .tv (.bool (decide ((v1.length : Int) ≤ (8 : Int)))))], []⟩ rfl ?_ (Nat.zero_le _) trivial ?_
      · kernel_rfl
      refine AOps.nil ?_
      refine AWp.ret ?_
      cases h
      exact ⟨.inr rfl, rfl⟩

noncomputable def f56_b1 (v1 : T31) (v2 : Int) : Option (Int ⊕ Out Int Int) :=
  (cond (decide (v2 < (v1.f1.length : Int))) (if (0 : Int) ≤ v2 ∧ v2 < (v1.f1.length : Int) then some (!((v1.f1.getD v2.toNat default).f2)) else none) (some false)).bind fun v4 => cond v4 (some (.inl (w64 (v2 + (1 : Int))))) (some (.inr (.go v2)))

noncomputable def f56 (v1 : T31) : Option Int :=
  (iter (fun s => f56_b1 v1 s) (0 : Int)).bind fun y => match y with | .ret v5 => some v5 | .go v3 => some v3

theorem f56_ok (v1 : T31) {r : Int} (h : f56 v1 = some r) : ACall Try.prog 56 [.agg [.str v1.f0, fzL 3 c48 v1.f1]] [] (.tv (.int .i64 r)) [] := by
  refine ACall.of1 (FF 21 0) Try.func56 rfl Try.ntmps56 Try.results56 (Nat.le_of_ble_eq_true rfl) rfl rfl ?_
  refine AWp.seq ?_
  refine AWp.start [0, 1] [] [] [1] 1 ⟨[(1, .pc 0 0)], [.cells 32 [.str v1.f0, fzL 3 c48 v1.f1]]⟩ rfl ?_ (Nat.zero_le _) trivial ?_
  · kernel_rfl
  refine AOps.nil ?_
  refine AWp.seq ?_
  refine AWp.pin 0 rfl rfl ?_
  refine AWp.keepTo [1] 0 ⟨[(1, .rp [.str v1.f0, fzL 3 c48 v1.f1])], []⟩ ?_ (Nat.zero_le _) ?_
  · kernel_rfl
  refine AWp.start [0] [] [] [1, 3] 0 ⟨[(1, .rp [.str v1.f0, fzL 3 c48 v1.f1]), (3, .tv (.int .i64 (0 : Int)))], []⟩ rfl ?_ (Nat.zero_le _) trivial ?_
  · kernel_rfl
  refine AOps.nil ?_
  refine AWp.seq ?_
  refine AWp.block ?_
  obtain ⟨y, hy, h⟩ := of_bind h
  refine AWp.mono (AWp.loop (S := Int) (Y := Out Int Int) (fun s => ⟨[(1, .rp [.str v1.f0, fzL 3 c48 v1.f1]), (3, .tv (.int .i64 s))], []⟩) (fun s => f56_b1 v1 s) (fun y e σ => match y with | .ret r => e = .ret ∧ σ = ⟨[(2, .tv (.int .i64 r))], []⟩ | .go v => e = .exit 0 ∧ σ = ⟨[(3, .tv (.int .i64 v))], []⟩) ?_ hy) ?_
  · rintro v2 o h
    refine AWp.seq ?_
    refine AWp.seq ?_
    refine AWp.start [0, 1, 2, 3, 4, 5] [6, 7, 8, 9, 10, 11, 12, 13] [] [1, 3, 9] 0 ⟨[(1, .rp [.str v1.f0, fzL 3 c48 v1.f1]), (3, .tv (.int .i64 v2)), (9, .tv (.bool (decide (v2 < (v1.f1.length : Int)))))], []⟩ rfl ?_ (Nat.zero_le _) trivial ?_
    · kernel_rfl
    obtain ⟨v4, hc6, h⟩ := of_bind h
    refine AOps.cut [6, 7, 8, 9, 10, 11, 12, 13] [] (fun σ => σ = ⟨[(1, .rp [.str v1.f0, fzL 3 c48 v1.f1]), (3, .tv (.int .i64 v2)), (17, .tv (.bool v4))], []⟩) ?_ fun σ' hJ => ?_
    · refine AOps.split (fun b => ⟨[(1, .rp [.str v1.f0, fzL 3 c48 v1.f1]), (3, .tv (.int .i64 v2)), (9, .tv (.bool b))], []⟩) _ (fun hb => ?_) fun hb => ?_
      · replace hc6 := of_true hc6 hb
        obtain ⟨hg, hc6⟩ := of_guard hc6
        refine AOps.go [6, 7, 8, 9, 10, 11, 12, 13] [] [(0 : Int) ≤ v2, v2 < (v1.f1.length : Int)] [1, 3, 17] 0 ⟨[(1, .rp [.str v1.f0, fzL 3 c48 v1.f1]), (3, .tv (.int .i64 v2)), (17, .tv (.bool (!((v1.f1.getD v2.toNat default).f2))))], []⟩ ?_ (Nat.zero_le _) ⟨hg.1, hg.2⟩ ?_
        · kernel_rfl
        cases hc6
        exact AOps.nil rfl
      · replace hc6 := of_false hc6 hb
        refine AOps.go [6, 7, 8, 9, 10, 11, 12, 13] [] [] [1, 3, 17] 0 ⟨[(1, .rp [.str v1.f0, fzL 3 c48 v1.f1]), (3, .tv (.int .i64 v2)), (17, .tv (.bool false))], []⟩ ?_ (Nat.zero_le _) trivial ?_
        · kernel_rfl
        cases hc6
        exact AOps.nil rfl
    subst hJ
    refine AOps.nil ?_
    refine AWp.cond rfl (fun hb => ?_) fun hb => ?_
    · replace h := of_true h hb
      refine AWp.keepTo [1, 3] 0 ⟨[(1, .rp [.str v1.f0, fzL 3 c48 v1.f1]), (3, .tv (.int .i64 v2))], []⟩ ?_ (Nat.zero_le _) ?_
      · kernel_rfl
      refine AWp.skip ?_
      refine AWp.block ?_
      refine AWp.start [0, 1, 2] [] [] [1, 3] 0 ⟨[(1, .rp [.str v1.f0, fzL 3 c48 v1.f1]), (3, .tv (.int .i64 (w64 (v2 + (1 : Int)))))], []⟩ rfl ?_ (Nat.zero_le _) trivial ?_
      · kernel_rfl
      refine AOps.nil ?_
      cases h
      exact Or.inl ⟨_, rfl, rfl, rfl⟩
    · replace h := of_false h hb
      refine AWp.keepTo [3] 0 ⟨[(3, .tv (.int .i64 v2))], []⟩ ?_ (Nat.zero_le _) ?_
      · kernel_rfl
      refine AWp.exit ?_
      cases h
      exact Or.inr ⟨_, rfl, by simp, rfl, rfl⟩
  · intro e σ hp
    rcases y with v5 | v3
    · obtain ⟨rfl, rfl⟩ := hp
      cases h
      exact ⟨.inr rfl, rfl⟩
    · obtain ⟨rfl, rfl⟩ := hp
      refine AWp.seq ?_
      refine AWp.start [0, 1] [] [] [2] 0 ⟨[(2, .tv (.int .i64 v3))], []⟩ rfl ?_ (Nat.zero_le _) trivial ?_
      · kernel_rfl
      refine AOps.nil ?_
      refine AWp.ret ?_
      cases h
      exact ⟨.inr rfl, rfl⟩

noncomputable def f37_j1 (v6 : Int) (v7 : Int) : Option ((Int × Int) ⊕ Out Bool Unit) :=
  some (.inl (v7, w64 (v6 + (1 : Int))))

noncomputable def f37_b2 (v1 : T31) (v2 : List T48) (v5 : Int) (v6 : Int) : Option ((Int × Int) ⊕ Out Bool Unit) :=
  cond (decide (v6 < (v2.length : Int))) (if (0 : Int) ≤ v6 ∧ v6 < (v1.f1.length : Int) then (if (0 : Int) ≤ v6 ∧ v6 < (v2.length : Int) then cond ((v1.f1.getD v6.toNat default).f0 != (v2.getD v6.toNat default).f0) (some true) (cond (decide ((v1.f1.getD v6.toNat default).f1 ≥ (0 : Int))) (if (0 : Int) ≤ v6 ∧ v6 < (v2.length : Int) then some ((v1.f1.getD v6.toNat default).f1 != (v2.getD v6.toNat default).f1) else none) (some false)) else none).bind fun v8 => cond v8 (some (.inr (.ret false))) ((cond (decide ((v1.f1.getD v6.toNat default).f1 < (0 : Int))) (if (0 : Int) ≤ v6 ∧ v6 < (v2.length : Int) then some (decide ((v2.getD v6.toNat default).f1 > (0 : Int))) else none) (some false)).bind fun v9 => cond v9 ((cond (decide (v5 > (0 : Int))) (if (0 : Int) ≤ v6 ∧ v6 < (v2.length : Int) then some (v5 != (v2.getD v6.toNat default).f1) else none) (some false)).bind fun v10 => cond v10 (some (.inr (.ret false))) (if (0 : Int) ≤ v6 ∧ v6 < (v2.length : Int) then f37_j1 v6 ((v2.getD v6.toNat default).f1) else none)) (f37_j1 v6 v5)) else none) (some (.inr (.go ())))

noncomputable def f37 (v1 : T31) (v2 : List T48) : Option Bool :=
  (f56 v1).bind fun v3 => (cond (decide ((v2.length : Int) < v3)) (some true) (some (decide ((v2.length : Int) > (v1.f1.length : Int))))).bind fun v4 => cond v4 (some false) ((iter (fun s => f37_b2 v1 v2 s.1 s.2) ((0 : Int), (0 : Int))).bind fun y => match y with | .ret v11 => some v11 | .go _ => some true)

theorem f37_ok (v1 : T31) (v2 : List T48) {r : Bool} (h : f37 v1 v2 = some r) : ACall Try.prog 37 [.agg [.str v1.f0, fzL 3 c48 v1.f1], .tv (fzL 3 c48 v2)] [] (.tv (.bool r)) [] := by
  refine ACall.of1 (FF 82 0) Try.func37 rfl Try.ntmps37 Try.results37 (Nat.le_of_ble_eq_true rfl) rfl rfl ?_
  refine AWp.seq ?_
  refine AWp.start [0, 1] [] [] [1, 2] 1 ⟨[(1, .tv (fzL 3 c48 v2)), (2, .pc 0 0)], [.cells 32 [.str v1.f0, fzL 3 c48 v1.f1]]⟩ rfl ?_ (Nat.zero_le _) trivial ?_
  · kernel_rfl
  refine AOps.nil ?_
  refine AWp.seq ?_
  refine AWp.seq ?_
  refine AWp.pin 0 rfl rfl ?_
  refine AWp.keepTo [1, 2] 0 ⟨[(1, .tv (fzL 3 c48 v2)), (2, .rp [.str v1.f0, fzL 3 c48 v1.f1])], []⟩ ?_ (Nat.zero_le _) ?_
  · kernel_rfl
  refine AWp.start [0, 1, 2] [3, 4, 5, 6, 7, 8, 9, 10, 11, 12] [] [1, 2, 9, 10] 0 ⟨[(1, .tv (fzL 3 c48 v2)), (2, .rp [.str v1.f0, fzL 3 c48 v1.f1]), (9, .tv (.int .i64 (v2.length : Int))), (10, .agg [.str v1.f0, fzL 3 c48 v1.f1])], []⟩ rfl ?_ (Nat.zero_le _) trivial ?_
  · kernel_rfl
  obtain ⟨v3, hv3, h⟩ := of_bind h
  refine AOps.cons (AOne.callP (F := (FF 82 0)) _ rfl rfl rfl _ rfl rfl _ _ rfl Try.call56 [.agg [.str v1.f0, fzL 3 c48 v1.f1]] rfl rfl (f56_ok v1 hv3) rfl) ?_
  refine AOps.go [4, 5] [6, 7, 8, 9, 10, 11, 12] [] [1, 2, 13] 0 ⟨[(1, .tv (fzL 3 c48 v2)), (2, .rp [.str v1.f0, fzL 3 c48 v1.f1]), (13, .tv (.bool (decide ((v2.length : Int) < v3))))], []⟩ ?_ (Nat.zero_le _) trivial ?_
  · kernel_rfl
  obtain ⟨v4, hc6, h⟩ := of_bind h
  refine AOps.cut [6, 7, 8, 9, 10, 11, 12] [] (fun σ => σ = ⟨[(1, .tv (fzL 3 c48 v2)), (2, .rp [.str v1.f0, fzL 3 c48 v1.f1]), (20, .tv (.bool v4))], []⟩) ?_ fun σ' hJ => ?_
  · refine AOps.split (fun b => ⟨[(1, .tv (fzL 3 c48 v2)), (2, .rp [.str v1.f0, fzL 3 c48 v1.f1]), (13, .tv (.bool b))], []⟩) _ (fun hb => ?_) fun hb => ?_
    · replace hc6 := of_true hc6 hb
      refine AOps.go [6, 7, 8, 9, 10, 11, 12] [] [] [1, 2, 20] 0 ⟨[(1, .tv (fzL 3 c48 v2)), (2, .rp [.str v1.f0, fzL 3 c48 v1.f1]), (20, .tv (.bool true))], []⟩ ?_ (Nat.zero_le _) trivial ?_
      · kernel_rfl
      cases hc6
      exact AOps.nil rfl
    · replace hc6 := of_false hc6 hb
      refine AOps.go [6, 7, 8, 9, 10, 11, 12] [] [] [1, 2, 20] 0 ⟨[(1, .tv (fzL 3 c48 v2)), (2, .rp [.str v1.f0, fzL 3 c48 v1.f1]), (20, .tv (.bool (decide ((v2.length : Int) > (v1.f1.length : Int)))))], []⟩ ?_ (Nat.zero_le _) trivial ?_
      · kernel_rfl
      cases hc6
      exact AOps.nil rfl
  subst hJ
  refine AOps.nil ?_
  refine AWp.cond rfl (fun hb => ?_) fun hb => ?_
  · replace h := of_true h hb
    refine AWp.keepTo [] 0 ⟨[], []⟩ ?_ (Nat.zero_le _) ?_
    · kernel_rfl
    refine AWp.seq ?_
    refine AWp.start [0] [] [] [4] 0 ⟨[(4, .tv (.bool false))], []⟩ rfl ?_ (Nat.zero_le _) trivial ?_
    · kernel_rfl
    refine AOps.nil ?_
    refine AWp.ret ?_
    cases h
    exact ⟨.inr rfl, rfl⟩
  · replace h := of_false h hb
    refine AWp.keepTo [1, 2] 0 ⟨[(1, .tv (fzL 3 c48 v2)), (2, .rp [.str v1.f0, fzL 3 c48 v1.f1])], []⟩ ?_ (Nat.zero_le _) ?_
    · kernel_rfl
    refine AWp.skip ?_
    refine AWp.seq ?_
    refine AWp.start [0] [] [] [1, 2, 5] 0 ⟨[(1, .tv (fzL 3 c48 v2)), (2, .rp [.str v1.f0, fzL 3 c48 v1.f1]), (5, .tv (.int .i64 (0 : Int)))], []⟩ rfl ?_ (Nat.zero_le _) trivial ?_
    · kernel_rfl
    refine AOps.nil ?_
    refine AWp.seq ?_
    refine AWp.seq ?_
    refine AWp.start [0] [] [] [1, 2, 5, 6] 0 ⟨[(1, .tv (fzL 3 c48 v2)), (2, .rp [.str v1.f0, fzL 3 c48 v1.f1]), (5, .tv (.int .i64 (0 : Int))), (6, .tv (.int .i64 (0 : Int)))], []⟩ rfl ?_ (Nat.zero_le _) trivial ?_
    · kernel_rfl
    refine AOps.nil ?_
    refine AWp.block ?_
    obtain ⟨y, hy, h⟩ := of_bind h
    refine AWp.mono (AWp.loop (S := Int × Int) (Y := Out Bool Unit) (fun s => ⟨[(1, .tv (fzL 3 c48 v2)), (2, .rp [.str v1.f0, fzL 3 c48 v1.f1]), (5, .tv (.int .i64 s.1)), (6, .tv (.int .i64 s.2))], []⟩) (fun s => f37_b2 v1 v2 s.1 s.2) (fun y e σ => match y with | .ret r => e = .ret ∧ σ = ⟨[(4, .tv (.bool r))], []⟩ | .go v => e = .exit 0 ∧ σ = ⟨[], []⟩) ?_ hy) ?_
    · rintro ⟨v5, v6⟩ o h
      refine AWp.seq ?_
      refine AWp.seq ?_
      refine AWp.start [0, 1, 2, 3] [] [] [1, 2, 5, 6, 24] 0 ⟨[(1, .tv (fzL 3 c48 v2)), (2, .rp [.str v1.f0, fzL 3 c48 v1.f1]), (5, .tv (.int .i64 v5)), (6, .tv (.int .i64 v6)), (24, .tv (.bool (decide (v6 < (v2.length : Int)))))], []⟩ rfl ?_ (Nat.zero_le _) trivial ?_
      · kernel_rfl
      refine AOps.nil ?_
      refine AWp.cond rfl (fun hb => ?_) fun hb => ?_
      · replace h := of_true h hb
        refine AWp.keepTo [1, 2, 5, 6] 0 ⟨[(1, .tv (fzL 3 c48 v2)), (2, .rp [.str v1.f0, fzL 3 c48 v1.f1]), (5, .tv (.int .i64 v5)), (6, .tv (.int .i64 v6))], []⟩ ?_ (Nat.zero_le _) ?_
        · kernel_rfl
        refine AWp.skip ?_
        refine AWp.join (V := Int) (fun w => ⟨[(1, .tv (fzL 3 c48 v2)), (2, .rp [.str v1.f0, fzL 3 c48 v1.f1]), (5, .tv (.int .i64 w)), (6, .tv (.int .i64 v6))], []⟩) (fun w => f37_j1 v6 w = some o) ?_ ?_
        · refine AWp.block ?_
          refine AWp.seq ?_
          obtain ⟨hg, h⟩ := of_guard h
          refine AWp.start [0, 1, 2, 3, 4, 5, 6] [] [(0 : Int) ≤ v6, v6 < (v1.f1.length : Int)] [1, 2, 5, 6, 7] 1 ⟨[(1, .tv (fzL 3 c48 v2)), (2, .rp [.str v1.f0, fzL 3 c48 v1.f1]), (5, .tv (.int .i64 v5)), (6, .tv (.int .i64 v6)), (7, .pc 0 0)], [.cells 49 [.int .i64 ((v1.f1.getD v6.toNat default).f0), .int .i64 ((v1.f1.getD v6.toNat default).f1), .bool ((v1.f1.getD v6.toNat default).f2)]]⟩ rfl ?_ (Nat.zero_le _) ⟨hg.1, hg.2⟩ ?_
          · kernel_rfl
          refine AOps.nil ?_
          refine AWp.seq ?_
          refine AWp.seq ?_
          refine AWp.pin 0 rfl rfl ?_
          refine AWp.keepTo [1, 2, 5, 6, 7] 0 ⟨[(1, .tv (fzL 3 c48 v2)), (2, .rp [.str v1.f0, fzL 3 c48 v1.f1]), (5, .tv (.int .i64 v5)), (6, .tv (.int .i64 v6)), (7, .rp [.int .i64 ((v1.f1.getD v6.toNat default).f0), .int .i64 ((v1.f1.getD v6.toNat default).f1), .bool ((v1.f1.getD v6.toNat default).f2)])], []⟩ ?_ (Nat.zero_le _) ?_
          · kernel_rfl
          obtain ⟨v8, hd, h⟩ := of_bind h
          refine AWp.draw FFm (fun σ => σ = ⟨[(1, .tv (fzL 3 c48 v2)), (2, .rp [.str v1.f0, fzL 3 c48 v1.f1]), (5, .tv (.int .i64 v5)), (6, .tv (.int .i64 v6)), (7, .rp [.int .i64 ((v1.f1.getD v6.toNat default).f0), .int .i64 ((v1.f1.getD v6.toNat default).f1), .bool ((v1.f1.getD v6.toNat default).f2)]), (54, .tv (.bool v8))], []⟩) (n := 23) rfl (ls := #[false, false, false, false, false, false, false, false, false, false, false, false, false, false, false, false, false, false, false, false, false, false, false]) rfl ?_ ?_
          · obtain ⟨hg, hd⟩ := of_guard hd
            refine AAny.go (by kernel_rfl) [0, 1, 2, 3, 4, 5, 6, 7, 8] (fuel' := 14) rfl [(0 : Int) ≤ v6, v6 < (v2.length : Int)] #[true, true, true, true, true, true, true, true, true, false, false, false, false, false, false, false, false, false, false, false, false, false, false] [1, 2, 5, 6, 7, 40] 0 ⟨[(1, .tv (fzL 3 c48 v2)), (2, .rp [.str v1.f0, fzL 3 c48 v1.f1]), (5, .tv (.int .i64 v5)), (6, .tv (.int .i64 v6)), (7, .rp [.int .i64 ((v1.f1.getD v6.toNat default).f0), .int .i64 ((v1.f1.getD v6.toNat default).f1), .bool ((v1.f1.getD v6.toNat default).f2)]), (40, .tv (.bool ((v1.f1.getD v6.toNat default).f0 != (v2.getD v6.toNat default).f0)))], []⟩ ?_ (Nat.zero_le _) ⟨hg.1, hg.2⟩ ?_
            · kernel_rfl
            refine AAny.split (fun b => ⟨[(1, .tv (fzL 3 c48 v2)), (2, .rp [.str v1.f0, fzL 3 c48 v1.f1]), (5, .tv (.int .i64 v5)), (6, .tv (.int .i64 v6)), (7, .rp [.int .i64 ((v1.f1.getD v6.toNat default).f0), .int .i64 ((v1.f1.getD v6.toNat default).f1), .bool ((v1.f1.getD v6.toNat default).f2)]), (40, .tv (.bool b))], []⟩) _ (fun hb => ?_) fun hb => ?_
            · replace hd := of_true hd hb
              refine AAny.go (by kernel_rfl) [9, 10, 11, 12, 13, 14, 15, 16, 17, 18, 19, 20, 21, 22] (fuel' := 0) rfl [] #[true, true, true, true, true, true, true, true, true, true, true, true, true, true, true, true, true, true, true, true, true, true, true] [1, 2, 5, 6, 7, 54] 0 ⟨[(1, .tv (fzL 3 c48 v2)), (2, .rp [.str v1.f0, fzL 3 c48 v1.f1]), (5, .tv (.int .i64 v5)), (6, .tv (.int .i64 v6)), (7, .rp [.int .i64 ((v1.f1.getD v6.toNat default).f0), .int .i64 ((v1.f1.getD v6.toNat default).f1), .bool ((v1.f1.getD v6.toNat default).f2)]), (54, .tv (.bool true))], []⟩ ?_ (Nat.zero_le _) trivial ?_
              · kernel_rfl
              refine AAny.keepTo [1, 2, 5, 6, 7, 54] 0 ⟨[(1, .tv (fzL 3 c48 v2)), (2, .rp [.str v1.f0, fzL 3 c48 v1.f1]), (5, .tv (.int .i64 v5)), (6, .tv (.int .i64 v6)), (7, .rp [.int .i64 ((v1.f1.getD v6.toNat default).f0), .int .i64 ((v1.f1.getD v6.toNat default).f1), .bool ((v1.f1.getD v6.toNat default).f2)]), (54, .tv (.bool true))], []⟩ _ ?_ rfl (Nat.zero_le _) (AAny.done (by kernel_rfl) ?_)
              · kernel_rfl
              cases hd
              exact rfl
            · replace hd := of_false hd hb
              refine AAny.go (by kernel_rfl) [9, 10, 11, 12] (fuel' := 10) rfl [] #[true, true, true, true, true, true, true, true, true, true, true, true, true, false, false, false, false, false, false, false, false, false, false] [1, 2, 5, 6, 7, 40, 44] 0 ⟨[(1, .tv (fzL 3 c48 v2)), (2, .rp [.str v1.f0, fzL 3 c48 v1.f1]), (5, .tv (.int .i64 v5)), (6, .tv (.int .i64 v6)), (7, .rp [.int .i64 ((v1.f1.getD v6.toNat default).f0), .int .i64 ((v1.f1.getD v6.toNat default).f1), .bool ((v1.f1.getD v6.toNat default).f2)]), (40, .tv (.bool false)), (44, .tv (.bool (decide ((v1.f1.getD v6.toNat default).f1 ≥ (0 : Int)))))], []⟩ ?_ (Nat.zero_le _) trivial ?_
              · kernel_rfl
              refine AAny.split (fun b => ⟨[(1, .tv (fzL 3 c48 v2)), (2, .rp [.str v1.f0, fzL 3 c48 v1.f1]), (5, .tv (.int .i64 v5)), (6, .tv (.int .i64 v6)), (7, .rp [.int .i64 ((v1.f1.getD v6.toNat default).f0), .int .i64 ((v1.f1.getD v6.toNat default).f1), .bool ((v1.f1.getD v6.toNat default).f2)]), (40, .tv (.bool false)), (44, .tv (.bool b))], []⟩) _ (fun hb => ?_) fun hb => ?_
              · replace hd := of_true hd hb
                obtain ⟨hg, hd⟩ := of_guard hd
                refine AAny.go (by kernel_rfl) [13, 14, 15, 16, 17, 18, 19, 20, 21, 22] (fuel' := 0) rfl [(0 : Int) ≤ v6, v6 < (v2.length : Int)] #[true, true, true, true, true, true, true, true, true, true, true, true, true, true, true, true, true, true, true, true, true, true, true] [1, 2, 5, 6, 7, 54] 0 ⟨[(1, .tv (fzL 3 c48 v2)), (2, .rp [.str v1.f0, fzL 3 c48 v1.f1]), (5, .tv (.int .i64 v5)), (6, .tv (.int .i64 v6)), (7, .rp [.int .i64 ((v1.f1.getD v6.toNat default).f0), .int .i64 ((v1.f1.getD v6.toNat default).f1), .bool ((v1.f1.getD v6.toNat default).f2)]), (54, .tv (.bool ((v1.f1.getD v6.toNat default).f1 != (v2.getD v6.toNat default).f1)))], []⟩ ?_ (Nat.zero_le _) ⟨hg.1, hg.2⟩ ?_
                · kernel_rfl
                refine AAny.keepTo [1, 2, 5, 6, 7, 54] 0 ⟨[(1, .tv (fzL 3 c48 v2)), (2, .rp [.str v1.f0, fzL 3 c48 v1.f1]), (5, .tv (.int .i64 v5)), (6, .tv (.int .i64 v6)), (7, .rp [.int .i64 ((v1.f1.getD v6.toNat default).f0), .int .i64 ((v1.f1.getD v6.toNat default).f1), .bool ((v1.f1.getD v6.toNat default).f2)]), (54, .tv (.bool ((v1.f1.getD v6.toNat default).f1 != (v2.getD v6.toNat default).f1)))], []⟩ _ ?_ rfl (Nat.zero_le _) (AAny.done (by kernel_rfl) ?_)
                · kernel_rfl
                cases hd
                exact rfl
              · replace hd := of_false hd hb
                refine AAny.go (by kernel_rfl) [13, 14, 15, 16, 17, 18, 19, 20, 21, 22] (fuel' := 0) rfl [] #[true, true, true, true, true, true, true, true, true, true, true, true, true, true, true, true, true, true, true, true, true, true, true] [1, 2, 5, 6, 7, 54] 0 ⟨[(1, .tv (fzL 3 c48 v2)), (2, .rp [.str v1.f0, fzL 3 c48 v1.f1]), (5, .tv (.int .i64 v5)), (6, .tv (.int .i64 v6)), (7, .rp [.int .i64 ((v1.f1.getD v6.toNat default).f0), .int .i64 ((v1.f1.getD v6.toNat default).f1), .bool ((v1.f1.getD v6.toNat default).f2)]), (54, .tv (.bool false))], []⟩ ?_ (Nat.zero_le _) trivial ?_
                · kernel_rfl
                refine AAny.keepTo [1, 2, 5, 6, 7, 54] 0 ⟨[(1, .tv (fzL 3 c48 v2)), (2, .rp [.str v1.f0, fzL 3 c48 v1.f1]), (5, .tv (.int .i64 v5)), (6, .tv (.int .i64 v6)), (7, .rp [.int .i64 ((v1.f1.getD v6.toNat default).f0), .int .i64 ((v1.f1.getD v6.toNat default).f1), .bool ((v1.f1.getD v6.toNat default).f2)]), (54, .tv (.bool false))], []⟩ _ ?_ rfl (Nat.zero_le _) (AAny.done (by kernel_rfl) ?_)
                · kernel_rfl
                cases hd
                exact rfl
          rintro σ' rfl
          refine AWp.cond rfl (fun hb => ?_) fun hb => ?_
          · replace h := of_true h hb
            refine AWp.keepTo [] 0 ⟨[], []⟩ ?_ (Nat.zero_le _) ?_
            · kernel_rfl
            refine AWp.seq ?_
            refine AWp.start [0] [] [] [4] 0 ⟨[(4, .tv (.bool false))], []⟩ rfl ?_ (Nat.zero_le _) trivial ?_
            · kernel_rfl
            refine AOps.nil ?_
            refine AWp.ret ?_
            cases h
            exact Or.inr ⟨_, rfl, by simp, rfl, rfl⟩
          · replace h := of_false h hb
            refine AWp.keepTo [1, 2, 5, 6, 7] 0 ⟨[(1, .tv (fzL 3 c48 v2)), (2, .rp [.str v1.f0, fzL 3 c48 v1.f1]), (5, .tv (.int .i64 v5)), (6, .tv (.int .i64 v6)), (7, .rp [.int .i64 ((v1.f1.getD v6.toNat default).f0), .int .i64 ((v1.f1.getD v6.toNat default).f1), .bool ((v1.f1.getD v6.toNat default).f2)])], []⟩ ?_ (Nat.zero_le _) ?_
            · kernel_rfl
            refine AWp.skip ?_
            refine AWp.seq ?_
            refine AWp.start [0, 1, 2, 3] [4, 5, 6, 7, 8, 9, 10] [] [1, 2, 5, 6, 58] 0 ⟨[(1, .tv (fzL 3 c48 v2)), (2, .rp [.str v1.f0, fzL 3 c48 v1.f1]), (5, .tv (.int .i64 v5)), (6, .tv (.int .i64 v6)), (58, .tv (.bool (decide ((v1.f1.getD v6.toNat default).f1 < (0 : Int)))))], []⟩ rfl ?_ (Nat.zero_le _) trivial ?_
            · kernel_rfl
            obtain ⟨v9, hc4, h⟩ := of_bind h
            refine AOps.cut [4, 5, 6, 7, 8, 9, 10] [] (fun σ => σ = ⟨[(1, .tv (fzL 3 c48 v2)), (2, .rp [.str v1.f0, fzL 3 c48 v1.f1]), (5, .tv (.int .i64 v5)), (6, .tv (.int .i64 v6)), (65, .tv (.bool v9))], []⟩) ?_ fun σ' hJ => ?_
            · refine AOps.split (fun b => ⟨[(1, .tv (fzL 3 c48 v2)), (2, .rp [.str v1.f0, fzL 3 c48 v1.f1]), (5, .tv (.int .i64 v5)), (6, .tv (.int .i64 v6)), (58, .tv (.bool b))], []⟩) _ (fun hb => ?_) fun hb => ?_
              · replace hc4 := of_true hc4 hb
                obtain ⟨hg, hc4⟩ := of_guard hc4
                refine AOps.go [4, 5, 6, 7, 8, 9, 10] [] [(0 : Int) ≤ v6, v6 < (v2.length : Int)] [1, 2, 5, 6, 65] 0 ⟨[(1, .tv (fzL 3 c48 v2)), (2, .rp [.str v1.f0, fzL 3 c48 v1.f1]), (5, .tv (.int .i64 v5)), (6, .tv (.int .i64 v6)), (65, .tv (.bool (decide ((v2.getD v6.toNat default).f1 > (0 : Int)))))], []⟩ ?_ (Nat.zero_le _) ⟨hg.1, hg.2⟩ ?_
                · kernel_rfl
                cases hc4
                exact AOps.nil rfl
              · replace hc4 := of_false hc4 hb
                refine AOps.go [4, 5, 6, 7, 8, 9, 10] [] [] [1, 2, 5, 6, 65] 0 ⟨[(1, .tv (fzL 3 c48 v2)), (2, .rp [.str v1.f0, fzL 3 c48 v1.f1]), (5, .tv (.int .i64 v5)), (6, .tv (.int .i64 v6)), (65, .tv (.bool false))], []⟩ ?_ (Nat.zero_le _) trivial ?_
                · kernel_rfl
                cases hc4
                exact AOps.nil rfl
            subst hJ
            refine AOps.nil ?_
            refine AWp.cond rfl (fun hb => ?_) fun hb => ?_
            · replace h := of_true h hb
              refine AWp.keepTo [1, 2, 5, 6] 0 ⟨[(1, .tv (fzL 3 c48 v2)), (2, .rp [.str v1.f0, fzL 3 c48 v1.f1]), (5, .tv (.int .i64 v5)), (6, .tv (.int .i64 v6))], []⟩ ?_ (Nat.zero_le _) ?_
              · kernel_rfl
              refine AWp.seq ?_
              refine AWp.seq ?_
              refine AWp.start [0, 1, 2] [3, 4, 5, 6, 7, 8, 9, 10] [] [1, 2, 5, 6, 68] 0 ⟨[(1, .tv (fzL 3 c48 v2)), (2, .rp [.str v1.f0, fzL 3 c48 v1.f1]), (5, .tv (.int .i64 v5)), (6, .tv (.int .i64 v6)), (68, .tv (.bool (decide (v5 > (0 : Int)))))], []⟩ rfl ?_ (Nat.zero_le _) trivial ?_
              · kernel_rfl
              obtain ⟨v10, hc3, h⟩ := of_bind h
              refine AOps.cut [3, 4, 5, 6, 7, 8, 9, 10] [] (fun σ => σ = ⟨[(1, .tv (fzL 3 c48 v2)), (2, .rp [.str v1.f0, fzL 3 c48 v1.f1]), (6, .tv (.int .i64 v6)), (76, .tv (.bool v10))], []⟩) ?_ fun σ' hJ => ?_
              · refine AOps.split (fun b => ⟨[(1, .tv (fzL 3 c48 v2)), (2, .rp [.str v1.f0, fzL 3 c48 v1.f1]), (5, .tv (.int .i64 v5)), (6, .tv (.int .i64 v6)), (68, .tv (.bool b))], []⟩) _ (fun hb => ?_) fun hb => ?_
                · replace hc3 := of_true hc3 hb
                  obtain ⟨hg, hc3⟩ := of_guard hc3
                  refine AOps.go [3, 4, 5, 6, 7, 8, 9, 10] [] [(0 : Int) ≤ v6, v6 < (v2.length : Int)] [1, 2, 6, 76] 0 ⟨[(1, .tv (fzL 3 c48 v2)), (2, .rp [.str v1.f0, fzL 3 c48 v1.f1]), (6, .tv (.int .i64 v6)), (76, .tv (.bool (v5 != (v2.getD v6.toNat default).f1)))], []⟩ ?_ (Nat.zero_le _) ⟨hg.1, hg.2⟩ ?_
                  · kernel_rfl
                  cases hc3
                  exact AOps.nil rfl
                · replace hc3 := of_false hc3 hb
                  refine AOps.go [3, 4, 5, 6, 7, 8, 9, 10] [] [] [1, 2, 6, 76] 0 ⟨[(1, .tv (fzL 3 c48 v2)), (2, .rp [.str v1.f0, fzL 3 c48 v1.f1]), (6, .tv (.int .i64 v6)), (76, .tv (.bool false))], []⟩ ?_ (Nat.zero_le _) trivial ?_
                  · kernel_rfl
                  cases hc3
                  exact AOps.nil rfl
              subst hJ
              refine AOps.nil ?_
              refine AWp.cond rfl (fun hb => ?_) fun hb => ?_
              · replace h := of_true h hb
                refine AWp.keepTo [] 0 ⟨[], []⟩ ?_ (Nat.zero_le _) ?_
                · kernel_rfl
                refine AWp.seq ?_
                refine AWp.start [0] [] [] [4] 0 ⟨[(4, .tv (.bool false))], []⟩ rfl ?_ (Nat.zero_le _) trivial ?_
                · kernel_rfl
                refine AOps.nil ?_
                refine AWp.ret ?_
                cases h
                exact Or.inr ⟨_, rfl, by simp, rfl, rfl⟩
              · replace h := of_false h hb
                refine AWp.keepTo [1, 2, 6] 0 ⟨[(1, .tv (fzL 3 c48 v2)), (2, .rp [.str v1.f0, fzL 3 c48 v1.f1]), (6, .tv (.int .i64 v6))], []⟩ ?_ (Nat.zero_le _) ?_
                · kernel_rfl
                refine AWp.skip ?_
                obtain ⟨hg, h⟩ := of_guard h
                refine AWp.start [0, 1, 2, 3, 4, 5] [] [(0 : Int) ≤ v6, v6 < (v2.length : Int)] [1, 2, 5, 6] 0 ⟨[(1, .tv (fzL 3 c48 v2)), (2, .rp [.str v1.f0, fzL 3 c48 v1.f1]), (5, .tv (.int .i64 ((v2.getD v6.toNat default).f1))), (6, .tv (.int .i64 v6))], []⟩ rfl ?_ (Nat.zero_le _) ⟨hg.1, hg.2⟩ ?_
                · kernel_rfl
                refine AOps.nil ?_
                exact ⟨(v2.getD v6.toNat default).f1, h, rfl⟩
            · replace h := of_false h hb
              refine AWp.keepTo [1, 2, 5, 6] 0 ⟨[(1, .tv (fzL 3 c48 v2)), (2, .rp [.str v1.f0, fzL 3 c48 v1.f1]), (5, .tv (.int .i64 v5)), (6, .tv (.int .i64 v6))], []⟩ ?_ (Nat.zero_le _) ?_
              · kernel_rfl
              refine AWp.skip ?_
              exact ⟨v5, h, rfl⟩
        · rintro v7 h
          refine AWp.start [0, 1, 2] [] [] [1, 2, 5, 6] 0 ⟨[(1, .tv (fzL 3 c48 v2)), (2, .rp [.str v1.f0, fzL 3 c48 v1.f1]), (5, .tv (.int .i64 v7)), (6, .tv (.int .i64 (w64 (v6 + (1 : Int)))))], []⟩ rfl ?_ (Nat.zero_le _) trivial ?_
          · kernel_rfl
          refine AOps.nil ?_
          cases h
          exact Or.inl ⟨_, rfl, rfl, rfl⟩
      · replace h := of_false h hb
        refine AWp.keepTo [] 0 ⟨[], []⟩ ?_ (Nat.zero_le _) ?_
        · kernel_rfl
        refine AWp.exit ?_
        cases h
        exact Or.inr ⟨_, rfl, by simp, rfl, rfl⟩
    · intro e σ hp
      rcases y with v11 | _
      · obtain ⟨rfl, rfl⟩ := hp
        cases h
        exact ⟨.inr rfl, rfl⟩
      · obtain ⟨rfl, rfl⟩ := hp
        refine AWp.seq ?_
        refine AWp.start [0] [] [] [4] 0 ⟨[(4, .tv (.bool true))], []⟩ rfl ?_ (Nat.zero_le _) trivial ?_
        · kernel_rfl
        refine AOps.nil ?_
        refine AWp.ret ?_
        cases h
        exact ⟨.inr rfl, rfl⟩

noncomputable def f44_b1 (v1 : T31) (v2 : T31) (v3 : Int) (v5 : List T48) (v6 : Int) : Option (((List T48) × Int) ⊕ Out ((List T48) × Bool) (List T48)) :=
  cond (decide (v6 < v3)) (if (0 : Int) ≤ v6 ∧ v6 < (v1.f1.length : Int) ∧ (0 : Int) ≤ v6 ∧ v6 < (v1.f1.length : Int) ∧ (0 : Int) ≤ v6 ∧ v6 < (v2.f1.length : Int) then if (v5.length + [T48.mk ((v1.f1.getD v6.toNat default).f0) (if (0 : Int) > (if (v2.f1.getD v6.toNat default).f1 > (v1.f1.getD v6.toNat default).f1 then (v2.f1.getD v6.toNat default).f1 else (v1.f1.getD v6.toNat default).f1) then (0 : Int) else (if (v2.f1.getD v6.toNat default).f1 > (v1.f1.getD v6.toNat default).f1 then (v2.f1.getD v6.toNat default).f1 else (v1.f1.getD v6.toNat default).f1)) false].length) * 24 ≤ 140737488355328 then some (.inl (v5 ++ [T48.mk ((v1.f1.getD v6.toNat default).f0) (if (0 : Int) > (if (v2.f1.getD v6.toNat default).f1 > (v1.f1.getD v6.toNat default).f1 then (v2.f1.getD v6.toNat default).f1 else (v1.f1.getD v6.toNat default).f1) then (0 : Int) else (if (v2.f1.getD v6.toNat default).f1 > (v1.f1.getD v6.toNat default).f1 then (v2.f1.getD v6.toNat default).f1 else (v1.f1.getD v6.toNat default).f1)) false], w64 (v6 + (1 : Int)))) else none else none) (some (.inr (.go v5)))

noncomputable def f44_b2 (v1 : T31) (v2 : T31) (v3 : Int) : Option (Int ⊕ Out ((List T48) × Bool) Unit) :=
  cond (decide (v3 ≤ (8 : Int))) ((cond (decide (v3 > (v1.f1.length : Int))) (some true) (some (decide (v3 > (v2.f1.length : Int))))).bind fun v4 => cond v4 (some (.inr (.ret (([] : List T48), false)))) ((iter (fun s => f44_b1 v1 v2 v3 s.1 s.2) ([], (0 : Int))).bind fun y => match y with | .ret v8 => some (.inr (.ret (v8.1, v8.2))) | .go v7 => (f37 v1 v7).bind fun v9 => (cond v9 ((f37 v2 v7).bind fun v10 => some v10) (some false)).bind fun v11 => cond v11 (some (.inr (.ret (v7, true)))) (some (.inl (w64 (v3 + (1 : Int))))))) (some (.inr (.go ())))

noncomputable def f44 (v1 : T31) (v2 : T31) : Option ((List T48) × Bool) :=
  (iter (fun s => f44_b2 v1 v2 s) (0 : Int)).bind fun y => match y with | .ret v12 => some (v12.1, v12.2) | .go _ => some (([] : List T48), false)

theorem f44_ok (v1 : T31) (v2 : T31) {r : (List T48) × Bool} (h : f44 v1 v2 = some r) : ACall Try.prog 44 [.agg [.str v1.f0, fzL 3 c48 v1.f1], .agg [.str v2.f0, fzL 3 c48 v2.f1]] [] (.tup [.tv (fzL 3 c48 r.1), .tv (.bool r.2)]) [] := by
  refine ACall.ofN (FF 62 0) (rs := [4, 5]) (env := [(4, .tv (fzL 3 c48 r.1)), (5, .tv (.bool r.2))]) Try.func44 rfl Try.ntmps44 Try.results44 (by decide) (by decide) rfl (Nat.le_of_ble_eq_true rfl) rfl (get_ofN _ _ _ rfl) (ok_ofN _ rfl) ?_
  refine AWp.seq ?_
  refine AWp.start [0, 1, 2, 3] [] [] [2, 3] 2 ⟨[(2, .pc 0 0), (3, .pc 1 0)], [.cells 32 [.str v1.f0, fzL 3 c48 v1.f1], .cells 32 [.str v2.f0, fzL 3 c48 v2.f1]]⟩ rfl ?_ (Nat.zero_le _) trivial ?_
  · kernel_rfl
  refine AOps.nil ?_
  refine AWp.seq ?_
  refine AWp.seq ?_
  refine AWp.pin 0 rfl rfl ?_
  refine AWp.pin 1 rfl rfl ?_
  refine AWp.keepTo [2, 3] 0 ⟨[(2, .rp [.str v1.f0, fzL 3 c48 v1.f1]), (3, .rp [.str v2.f0, fzL 3 c48 v2.f1])], []⟩ ?_ (Nat.zero_le _) ?_
  · kernel_rfl
  refine AWp.start [0] [] [] [2, 3, 6] 0 ⟨[(2, .rp [.str v1.f0, fzL 3 c48 v1.f1]), (3, .rp [.str v2.f0, fzL 3 c48 v2.f1]), (6, .tv (.int .i64 (0 : Int)))], []⟩ rfl ?_ (Nat.zero_le _) trivial ?_
  · kernel_rfl
  refine AOps.nil ?_
  refine AWp.block ?_
  obtain ⟨y, hy, h⟩ := of_bind h
  refine AWp.mono (AWp.loop (S := Int) (Y := Out ((List T48) × Bool) Unit) (fun s => ⟨[(2, .rp [.str v1.f0, fzL 3 c48 v1.f1]), (3, .rp [.str v2.f0, fzL 3 c48 v2.f1]), (6, .tv (.int .i64 s))], []⟩) (fun s => f44_b2 v1 v2 s) (fun y e σ => match y with | .ret r => e = .ret ∧ σ = ⟨[(4, .tv (fzL 3 c48 r.1)), (5, .tv (.bool r.2))], []⟩ | .go v => e = .exit 0 ∧ σ = ⟨[], []⟩) ?_ hy) ?_
  · rintro v3 o h
    refine AWp.seq ?_
    refine AWp.seq ?_
    refine AWp.start [0, 1] [] [] [2, 3, 6, 10] 0 ⟨[(2, .rp [.str v1.f0, fzL 3 c48 v1.f1]), (3, .rp [.str v2.f0, fzL 3 c48 v2.f1]), (6, .tv (.int .i64 v3)), (10, .tv (.bool (decide (v3 ≤ (8 : Int)))))], []⟩ rfl ?_ (Nat.zero_le _) trivial ?_
    · kernel_rfl
    refine AOps.nil ?_
    refine AWp.cond rfl (fun hb => ?_) fun hb => ?_
    · replace h := of_true h hb
      refine AWp.keepTo [2, 3, 6] 0 ⟨[(2, .rp [.str v1.f0, fzL 3 c48 v1.f1]), (3, .rp [.str v2.f0, fzL 3 c48 v2.f1]), (6, .tv (.int .i64 v3))], []⟩ ?_ (Nat.zero_le _) ?_
      · kernel_rfl
      refine AWp.skip ?_
      refine AWp.seq ?_
      refine AWp.block ?_
      refine AWp.seq ?_
      refine AWp.seq ?_
      refine AWp.start [0, 1, 2, 3, 4, 5] [6, 7, 8, 9, 10, 11] [] [2, 3, 6, 18] 0 ⟨[(2, .rp [.str v1.f0, fzL 3 c48 v1.f1]), (3, .rp [.str v2.f0, fzL 3 c48 v2.f1]), (6, .tv (.int .i64 v3)), (18, .tv (.bool (decide (v3 > (v1.f1.length : Int)))))], []⟩ rfl ?_ (Nat.zero_le _) trivial ?_
      · kernel_rfl
      obtain ⟨v4, hc6, h⟩ := of_bind h
      refine AOps.cut [6, 7, 8, 9, 10, 11] [] (fun σ => σ = ⟨[(2, .rp [.str v1.f0, fzL 3 c48 v1.f1]), (3, .rp [.str v2.f0, fzL 3 c48 v2.f1]), (6, .tv (.int .i64 v3)), (24, .tv (.bool v4))], []⟩) ?_ fun σ' hJ => ?_
      · refine AOps.split (fun b => ⟨[(2, .rp [.str v1.f0, fzL 3 c48 v1.f1]), (3, .rp [.str v2.f0, fzL 3 c48 v2.f1]), (6, .tv (.int .i64 v3)), (18, .tv (.bool b))], []⟩) _ (fun hb => ?_) fun hb => ?_
        · replace hc6 := of_true hc6 hb
          refine AOps.go [6, 7, 8, 9, 10, 11] [] [] [2, 3, 6, 24] 0 ⟨[(2, .rp [.str v1.f0, fzL 3 c48 v1.f1]), (3, .rp [.str v2.f0, fzL 3 c48 v2.f1]), (6, .tv (.int .i64 v3)), (24, .tv (.bool true))], []⟩ ?_ (Nat.zero_le _) trivial ?_
          · kernel_rfl
          cases hc6
          exact AOps.nil rfl
        · replace hc6 := of_false hc6 hb
          refine AOps.go [6, 7, 8, 9, 10, 11] [] [] [2, 3, 6, 24] 0 ⟨[(2, .rp [.str v1.f0, fzL 3 c48 v1.f1]), (3, .rp [.str v2.f0, fzL 3 c48 v2.f1]), (6, .tv (.int .i64 v3)), (24, .tv (.bool (decide (v3 > (v2.f1.length : Int)))))], []⟩ ?_ (Nat.zero_le _) trivial ?_
          · kernel_rfl
          cases hc6
          exact AOps.nil rfl
      subst hJ
      refine AOps.nil ?_
      refine AWp.cond rfl (fun hb => ?_) fun hb => ?_
      · replace h := of_true h hb
        refine AWp.keepTo [] 0 ⟨[], []⟩ ?_ (Nat.zero_le _) ?_
        · kernel_rfl
        refine AWp.seq ?_
        refine AWp.start [0, 1] [] [] [4, 5] 0 ⟨[(4, .tv (.sc (.slice none 0 0))), (5, .tv (.bool false))], []⟩ rfl ?_ (Nat.zero_le _) trivial ?_
        · kernel_rfl
        refine AOps.nil ?_
        refine AWp.nilFz 4 3 (fun i => c48 (([] : List T48).getD i default)) rfl ?_
        refine AWp.keepTo [4, 5] 0 ⟨[(4, .tv (fzL 3 c48 ([] : List T48))), (5, .tv (.bool false))], []⟩ ?_ (Nat.zero_le _) ?_
        · kernel_rfl
        refine AWp.ret ?_
        cases h
        exact Or.inr ⟨_, rfl, by simp, rfl, rfl⟩
      · replace h := of_false h hb
        refine AWp.keepTo [2, 3, 6] 0 ⟨[(2, .rp [.str v1.f0, fzL 3 c48 v1.f1]), (3, .rp [.str v2.f0, fzL 3 c48 v2.f1]), (6, .tv (.int .i64 v3))], []⟩ ?_ (Nat.zero_le _) ?_
        · kernel_rfl
        refine AWp.skip ?_
        refine AWp.seq ?_
        refine AWp.start [0] [] [] [2, 3, 6, 7] 0 ⟨[(2, .rp [.str v1.f0, fzL 3 c48 v1.f1]), (3, .rp [.str v2.f0, fzL 3 c48 v2.f1]), (6, .tv (.int .i64 v3)), (7, .tv (.sc (.slice none 0 0)))], []⟩ rfl ?_ (Nat.zero_le _) trivial ?_
        · kernel_rfl
        refine AOps.nil ?_
        refine AWp.seq ?_
        refine AWp.seq ?_
        refine AWp.start [0] [] [] [2, 3, 6, 7, 8] 0 ⟨[(2, .rp [.str v1.f0, fzL 3 c48 v1.f1]), (3, .rp [.str v2.f0, fzL 3 c48 v2.f1]), (6, .tv (.int .i64 v3)), (7, .tv (.sc (.slice none 0 0))), (8, .tv (.int .i64 (0 : Int)))], []⟩ rfl ?_ (Nat.zero_le _) trivial ?_
        · kernel_rfl
        refine AOps.nil ?_
        refine AWp.block ?_
        refine AWp.nilOwn 7 3 49 (fun i => c48 (([] : List T48).getD i default)) rfl ?_
        refine AWp.keepTo [2, 3, 6, 7, 8] 0 ⟨[(2, .rp [.str v1.f0, fzL 3 c48 v1.f1]), (3, .rp [.str v2.f0, fzL 3 c48 v2.f1]), (6, .tv (.int .i64 v3)), (7, .tv (ownL 3 49 c48 ([] : List T48))), (8, .tv (.int .i64 (0 : Int)))], []⟩ ?_ (Nat.zero_le _) ?_
        · kernel_rfl
        obtain ⟨y, hy, h⟩ := of_bind h
        refine AWp.mono (AWp.loop (S := (List T48) × Int) (Y := Out ((List T48) × Bool) (List T48)) (fun s => ⟨[(2, .rp [.str v1.f0, fzL 3 c48 v1.f1]), (3, .rp [.str v2.f0, fzL 3 c48 v2.f1]), (6, .tv (.int .i64 v3)), (7, .tv (ownL 3 49 c48 s.1)), (8, .tv (.int .i64 s.2))], []⟩) (fun s => f44_b1 v1 v2 v3 s.1 s.2) (fun y e σ => match y with | .ret r => e = .ret ∧ σ = ⟨[(4, .tv (fzL 3 c48 r.1)), (5, .tv (.bool r.2))], []⟩ | .go v => e = .exit 2 ∧ σ = ⟨[(2, .rp [.str v1.f0, fzL 3 c48 v1.f1]), (3, .rp [.str v2.f0, fzL 3 c48 v2.f1]), (6, .tv (.int .i64 v3)), (7, .tv (ownL 3 49 c48 v))], []⟩) ?_ hy) ?_
        · rintro ⟨v5, v6⟩ o h
          refine AWp.seq ?_
          refine AWp.seq ?_
          refine AWp.start [0, 1, 2] [] [] [2, 3, 6, 7, 8, 27] 0 ⟨[(2, .rp [.str v1.f0, fzL 3 c48 v1.f1]), (3, .rp [.str v2.f0, fzL 3 c48 v2.f1]), (6, .tv (.int .i64 v3)), (7, .tv (ownL 3 49 c48 v5)), (8, .tv (.int .i64 v6)), (27, .tv (.bool (decide (v6 < v3))))], []⟩ rfl ?_ (Nat.zero_le _) trivial ?_
          · kernel_rfl
          refine AOps.nil ?_
          refine AWp.cond rfl (fun hb => ?_) fun hb => ?_
          · replace h := of_true h hb
            refine AWp.keepTo [2, 3, 6, 7, 8] 0 ⟨[(2, .rp [.str v1.f0, fzL 3 c48 v1.f1]), (3, .rp [.str v2.f0, fzL 3 c48 v2.f1]), (6, .tv (.int .i64 v3)), (7, .tv (ownL 3 49 c48 v5)), (8, .tv (.int .i64 v6))], []⟩ ?_ (Nat.zero_le _) ?_
            · kernel_rfl
            refine AWp.skip ?_
            refine AWp.seq ?_
            refine AWp.block ?_
            refine AWp.draw FFm _ (n := 24) rfl (ls := #[false, false, false, false, false, false, false, false, false, false, false, false, false, false, false, false, false, false, false, false, false, false, false, false]) rfl ?_ (fun _ h => h)
            obtain ⟨hg, h⟩ := of_guard h
            refine AAny.go (by kernel_rfl) [0, 1, 2, 3, 4, 5, 6, 7, 8, 9, 10, 11, 12, 13, 14, 15, 16, 17, 18, 19, 20] (fuel' := 3) rfl [(0 : Int) ≤ v6, v6 < (v1.f1.length : Int), (0 : Int) ≤ v6, v6 < (v1.f1.length : Int), (0 : Int) ≤ v6, v6 < (v2.f1.length : Int)] #[true, true, true, true, true, true, true, true, true, true, true, true, true, true, true, true, true, true, true, true, true, false, false, false] [2, 3, 6, 7, 8, 30, 50] 0 ⟨[(2, .rp [.str v1.f0, fzL 3 c48 v1.f1]), (3, .rp [.str v2.f0, fzL 3 c48 v2.f1]), (6, .tv (.int .i64 v3)), (7, .tv (ownL 3 49 c48 v5)), (8, .tv (.int .i64 v6)), (30, .al (.slot 7 0, [])), (50, .agg [.int .i64 ((v1.f1.getD v6.toNat default).f0), .int .i64 (if (0 : Int) > (if (v2.f1.getD v6.toNat default).f1 > (v1.f1.getD v6.toNat default).f1 then (v2.f1.getD v6.toNat default).f1 else (v1.f1.getD v6.toNat default).f1) then (0 : Int) else (if (v2.f1.getD v6.toNat default).f1 > (v1.f1.getD v6.toNat default).f1 then (v2.f1.getD v6.toNat default).f1 else (v1.f1.getD v6.toNat default).f1)), .bool false])], []⟩ ?_ (Nat.zero_le _) ⟨hg.1, hg.2.1, hg.2.2.1, hg.2.2.2.1, hg.2.2.2.2.1, hg.2.2.2.2.2⟩ ?_
            · kernel_rfl
            refine AAny.step (i := 21) (fuel' := 2) rfl (by kernel_rfl) [] #[true, true, true, true, true, true, true, true, true, true, true, true, true, true, true, true, true, true, true, true, true, true, false, false] rfl [2, 3, 6, 7, 8, 30, 51] 0 ⟨[(2, .rp [.str v1.f0, fzL 3 c48 v1.f1]), (3, .rp [.str v2.f0, fzL 3 c48 v2.f1]), (6, .tv (.int .i64 v3)), (7, .tv (ownL 3 49 c48 v5)), (8, .tv (.int .i64 v6)), (30, .al (.slot 7 0, [])), (51, .tv (.own 3 49 1 (newRowF [.int .i64 ((v1.f1.getD v6.toNat default).f0), .int .i64 (if (0 : Int) > (if (v2.f1.getD v6.toNat default).f1 > (v1.f1.getD v6.toNat default).f1 then (v2.f1.getD v6.toNat default).f1 else (v1.f1.getD v6.toNat default).f1) then (0 : Int) else (if (v2.f1.getD v6.toNat default).f1 > (v1.f1.getD v6.toNat default).f1 then (v2.f1.getD v6.toNat default).f1 else (v1.f1.getD v6.toNat default).f1)), .bool false] 3)))], []⟩ ?_ (Nat.zero_le _) trivial ?_
            · kernel_rfl
            refine AAny.extL 51 c48 [T48.mk ((v1.f1.getD v6.toNat default).f0) (if (0 : Int) > (if (v2.f1.getD v6.toNat default).f1 > (v1.f1.getD v6.toNat default).f1 then (v2.f1.getD v6.toNat default).f1 else (v1.f1.getD v6.toNat default).f1) then (0 : Int) else (if (v2.f1.getD v6.toNat default).f1 > (v1.f1.getD v6.toNat default).f1 then (v2.f1.getD v6.toNat default).f1 else (v1.f1.getD v6.toNat default).f1)) false] rfl rfl (row_at c48 3 (fun _ => rfl) [T48.mk ((v1.f1.getD v6.toNat default).f0) (if (0 : Int) > (if (v2.f1.getD v6.toNat default).f1 > (v1.f1.getD v6.toNat default).f1 then (v2.f1.getD v6.toNat default).f1 else (v1.f1.getD v6.toNat default).f1) then (0 : Int) else (if (v2.f1.getD v6.toNat default).f1 > (v1.f1.getD v6.toNat default).f1 then (v2.f1.getD v6.toNat default).f1 else (v1.f1.getD v6.toNat default).f1)) false] _ rfl) ?_
            obtain ⟨hg, h⟩ := of_guard h
            refine AAny.step (i := 22) (fuel' := 1) rfl (by kernel_rfl) [(v5.length + [T48.mk ((v1.f1.getD v6.toNat default).f0) (if (0 : Int) > (if (v2.f1.getD v6.toNat default).f1 > (v1.f1.getD v6.toNat default).f1 then (v2.f1.getD v6.toNat default).f1 else (v1.f1.getD v6.toNat default).f1) then (0 : Int) else (if (v2.f1.getD v6.toNat default).f1 > (v1.f1.getD v6.toNat default).f1 then (v2.f1.getD v6.toNat default).f1 else (v1.f1.getD v6.toNat default).f1)) false].length) * 24 ≤ 140737488355328, PlainTo v5.length (fun i => c48 (v5.getD i default)), PlainTo ([T48.mk ((v1.f1.getD v6.toNat default).f0) (if (0 : Int) > (if (v2.f1.getD v6.toNat default).f1 > (v1.f1.getD v6.toNat default).f1 then (v2.f1.getD v6.toNat default).f1 else (v1.f1.getD v6.toNat default).f1) then (0 : Int) else (if (v2.f1.getD v6.toNat default).f1 > (v1.f1.getD v6.toNat default).f1 then (v2.f1.getD v6.toNat default).f1 else (v1.f1.getD v6.toNat default).f1)) false].length) (fun i => c48 ([T48.mk ((v1.f1.getD v6.toNat default).f0) (if (0 : Int) > (if (v2.f1.getD v6.toNat default).f1 > (v1.f1.getD v6.toNat default).f1 then (v2.f1.getD v6.toNat default).f1 else (v1.f1.getD v6.toNat default).f1) then (0 : Int) else (if (v2.f1.getD v6.toNat default).f1 > (v1.f1.getD v6.toNat default).f1 then (v2.f1.getD v6.toNat default).f1 else (v1.f1.getD v6.toNat default).f1)) false].getD i default))] #[true, true, true, true, true, true, true, true, true, true, true, true, true, true, true, true, true, true, true, true, true, true, true, false] rfl [2, 3, 6, 8, 52] 0 ⟨[(2, .rp [.str v1.f0, fzL 3 c48 v1.f1]), (3, .rp [.str v2.f0, fzL 3 c48 v2.f1]), (6, .tv (.int .i64 v3)), (8, .tv (.int .i64 v6)), (52, .tv (.own 3 49 (v5.length + [T48.mk ((v1.f1.getD v6.toNat default).f0) (if (0 : Int) > (if (v2.f1.getD v6.toNat default).f1 > (v1.f1.getD v6.toNat default).f1 then (v2.f1.getD v6.toNat default).f1 else (v1.f1.getD v6.toNat default).f1) then (0 : Int) else (if (v2.f1.getD v6.toNat default).f1 > (v1.f1.getD v6.toNat default).f1 then (v2.f1.getD v6.toNat default).f1 else (v1.f1.getD v6.toNat default).f1)) false].length) (appF v5.length (fun i => c48 (v5.getD i default)) (fun i => c48 ([T48.mk ((v1.f1.getD v6.toNat default).f0) (if (0 : Int) > (if (v2.f1.getD v6.toNat default).f1 > (v1.f1.getD v6.toNat default).f1 then (v2.f1.getD v6.toNat default).f1 else (v1.f1.getD v6.toNat default).f1) then (0 : Int) else (if (v2.f1.getD v6.toNat default).f1 > (v1.f1.getD v6.toNat default).f1 then (v2.f1.getD v6.toNat default).f1 else (v1.f1.getD v6.toNat default).f1)) false].getD i default)))))], []⟩ ?_ (Nat.zero_le _) ⟨hg, (fun _ _ => rfl), (fun _ _ => rfl)⟩ ?_
            · kernel_rfl
            refine AAny.extL 52 c48 (v5 ++ [T48.mk ((v1.f1.getD v6.toNat default).f0) (if (0 : Int) > (if (v2.f1.getD v6.toNat default).f1 > (v1.f1.getD v6.toNat default).f1 then (v2.f1.getD v6.toNat default).f1 else (v1.f1.getD v6.toNat default).f1) then (0 : Int) else (if (v2.f1.getD v6.toNat default).f1 > (v1.f1.getD v6.toNat default).f1 then (v2.f1.getD v6.toNat default).f1 else (v1.f1.getD v6.toNat default).f1)) false]) rfl (by simp) (app_at c48 v5 [T48.mk ((v1.f1.getD v6.toNat default).f0) (if (0 : Int) > (if (v2.f1.getD v6.toNat default).f1 > (v1.f1.getD v6.toNat default).f1 then (v2.f1.getD v6.toNat default).f1 else (v1.f1.getD v6.toNat default).f1) then (0 : Int) else (if (v2.f1.getD v6.toNat default).f1 > (v1.f1.getD v6.toNat default).f1 then (v2.f1.getD v6.toNat default).f1 else (v1.f1.getD v6.toNat default).f1)) false]) ?_
            refine AAny.step (i := 23) (fuel' := 0) rfl (by kernel_rfl) [] #[true, true, true, true, true, true, true, true, true, true, true, true, true, true, true, true, true, true, true, true, true, true, true, true] rfl [2, 3, 6, 7, 8] 0 ⟨[(2, .rp [.str v1.f0, fzL 3 c48 v1.f1]), (3, .rp [.str v2.f0, fzL 3 c48 v2.f1]), (6, .tv (.int .i64 v3)), (7, .tv (ownL 3 49 c48 (v5 ++ [T48.mk ((v1.f1.getD v6.toNat default).f0) (if (0 : Int) > (if (v2.f1.getD v6.toNat default).f1 > (v1.f1.getD v6.toNat default).f1 then (v2.f1.getD v6.toNat default).f1 else (v1.f1.getD v6.toNat default).f1) then (0 : Int) else (if (v2.f1.getD v6.toNat default).f1 > (v1.f1.getD v6.toNat default).f1 then (v2.f1.getD v6.toNat default).f1 else (v1.f1.getD v6.toNat default).f1)) false]))), (8, .tv (.int .i64 v6))], []⟩ ?_ (Nat.zero_le _) trivial ?_
            · kernel_rfl
            refine AAny.keepTo [2, 3, 6, 7, 8] 0 ⟨[(2, .rp [.str v1.f0, fzL 3 c48 v1.f1]), (3, .rp [.str v2.f0, fzL 3 c48 v2.f1]), (6, .tv (.int .i64 v3)), (7, .tv (ownL 3 49 c48 (v5 ++ [T48.mk ((v1.f1.getD v6.toNat default).f0) (if (0 : Int) > (if (v2.f1.getD v6.toNat default).f1 > (v1.f1.getD v6.toNat default).f1 then (v2.f1.getD v6.toNat default).f1 else (v1.f1.getD v6.toNat default).f1) then (0 : Int) else (if (v2.f1.getD v6.toNat default).f1 > (v1.f1.getD v6.toNat default).f1 then (v2.f1.getD v6.toNat default).f1 else (v1.f1.getD v6.toNat default).f1)) false]))), (8, .tv (.int .i64 v6))], []⟩ _ ?_ rfl (Nat.zero_le _) (AAny.done (by kernel_rfl) ?_)
            · kernel_rfl
            refine AWp.start [0, 1, 2] [] [] [2, 3, 6, 7, 8] 0 ⟨[(2, .rp [.str v1.f0, fzL 3 c48 v1.f1]), (3, .rp [.str v2.f0, fzL 3 c48 v2.f1]), (6, .tv (.int .i64 v3)), (7, .tv (ownL 3 49 c48 (v5 ++ [T48.mk ((v1.f1.getD v6.toNat default).f0) (if (0 : Int) > (if (v2.f1.getD v6.toNat default).f1 > (v1.f1.getD v6.toNat default).f1 then (v2.f1.getD v6.toNat default).f1 else (v1.f1.getD v6.toNat default).f1) then (0 : Int) else (if (v2.f1.getD v6.toNat default).f1 > (v1.f1.getD v6.toNat default).f1 then (v2.f1.getD v6.toNat default).f1 else (v1.f1.getD v6.toNat default).f1)) false]))), (8, .tv (.int .i64 (w64 (v6 + (1 : Int)))))], []⟩ rfl ?_ (Nat.zero_le _) trivial ?_
            · kernel_rfl
            refine AOps.nil ?_
            cases h
            exact Or.inl ⟨_, rfl, rfl, rfl⟩
          · replace h := of_false h hb
            refine AWp.keepTo [2, 3, 6, 7] 0 ⟨[(2, .rp [.str v1.f0, fzL 3 c48 v1.f1]), (3, .rp [.str v2.f0, fzL 3 c48 v2.f1]), (6, .tv (.int .i64 v3)), (7, .tv (ownL 3 49 c48 v5))], []⟩ ?_ (Nat.zero_le _) ?_
            · kernel_rfl
            refine AWp.exit ?_
            cases h
            exact Or.inr ⟨_, rfl, by simp, rfl, rfl⟩
        · intro e σ hp
          rcases y with v8 | v7
          · obtain ⟨rfl, rfl⟩ := hp
            cases h
            exact Or.inr ⟨_, rfl, by simp, rfl, rfl⟩
          · obtain ⟨rfl, rfl⟩ := hp
            refine AWp.seq ?_
            refine AWp.start [0, 1] [2, 3, 4, 5, 6, 7] [] [2, 3, 6, 7, 53, 54] 0 ⟨[(2, .rp [.str v1.f0, fzL 3 c48 v1.f1]), (3, .rp [.str v2.f0, fzL 3 c48 v2.f1]), (6, .tv (.int .i64 v3)), (7, .tv (ownL 3 49 c48 v7)), (53, .agg [.str v1.f0, fzL 3 c48 v1.f1]), (54, .al (.slot 7 0, []))], []⟩ rfl ?_ (Nat.zero_le _) trivial ?_
            · kernel_rfl
            obtain ⟨v9, hv9, h⟩ := of_bind h
            refine AOps.cons (AOne.callR (F := (FF 62 0)) _ rfl rfl rfl _ rfl rfl _ _ rfl Try.call37 [PlainTo v7.length (fun i => c48 (v7.getD i default))] [.agg [.str v1.f0, fzL 3 c48 v1.f1], .tv (fzL 3 c48 v7)] rfl (fun _ _ => rfl) (f37_ok v1 v7 hv9) (ind_of rfl) rfl) ?_
            refine AOps.go [3] [4, 5, 6, 7] [] [2, 3, 6, 7, 56] 0 ⟨[(2, .rp [.str v1.f0, fzL 3 c48 v1.f1]), (3, .rp [.str v2.f0, fzL 3 c48 v2.f1]), (6, .tv (.int .i64 v3)), (7, .tv (ownL 3 49 c48 v7)), (56, .tv (.bool v9))], []⟩ ?_ (Nat.zero_le _) trivial ?_
            · kernel_rfl
            obtain ⟨v11, hc4, h⟩ := of_bind h
            refine AOps.cut [4, 5, 6, 7] [] (fun σ => σ = ⟨[(2, .rp [.str v1.f0, fzL 3 c48 v1.f1]), (3, .rp [.str v2.f0, fzL 3 c48 v2.f1]), (6, .tv (.int .i64 v3)), (7, .tv (ownL 3 49 c48 v7)), (60, .tv (.bool v11))], []⟩) ?_ fun σ' hJ => ?_
            · refine AOps.split (fun b => ⟨[(2, .rp [.str v1.f0, fzL 3 c48 v1.f1]), (3, .rp [.str v2.f0, fzL 3 c48 v2.f1]), (6, .tv (.int .i64 v3)), (7, .tv (ownL 3 49 c48 v7)), (56, .tv (.bool b))], []⟩) _ (fun hb => ?_) fun hb => ?_
              · replace hc4 := of_true hc4 hb
                refine AOps.go [4, 5] [6, 7] [] [2, 3, 6, 7, 56, 57, 58] 0 ⟨[(2, .rp [.str v1.f0, fzL 3 c48 v1.f1]), (3, .rp [.str v2.f0, fzL 3 c48 v2.f1]), (6, .tv (.int .i64 v3)), (7, .tv (ownL 3 49 c48 v7)), (56, .tv (.bool true)), (57, .agg [.str v2.f0, fzL 3 c48 v2.f1]), (58, .al (.slot 7 0, []))], []⟩ ?_ (Nat.zero_le _) trivial ?_
                · kernel_rfl
                obtain ⟨v10, hv10, hc4⟩ := of_bind hc4
                refine AOps.cons (AOne.callR (F := (FF 62 0)) _ rfl rfl rfl _ rfl rfl _ _ rfl Try.call37 [PlainTo v7.length (fun i => c48 (v7.getD i default))] [.agg [.str v2.f0, fzL 3 c48 v2.f1], .tv (fzL 3 c48 v7)] rfl (fun _ _ => rfl) (f37_ok v2 v7 hv10) (ind_of rfl) rfl) ?_
                refine AOps.go [7] [] [] [2, 3, 6, 7, 60] 0 ⟨[(2, .rp [.str v1.f0, fzL 3 c48 v1.f1]), (3, .rp [.str v2.f0, fzL 3 c48 v2.f1]), (6, .tv (.int .i64 v3)), (7, .tv (ownL 3 49 c48 v7)), (60, .tv (.bool v10))], []⟩ ?_ (Nat.zero_le _) trivial ?_
                · kernel_rfl
                cases hc4
                exact AOps.nil rfl
              · replace hc4 := of_false hc4 hb
                refine AOps.go [4, 5, 6, 7] [] [] [2, 3, 6, 7, 60] 0 ⟨[(2, .rp [.str v1.f0, fzL 3 c48 v1.f1]), (3, .rp [.str v2.f0, fzL 3 c48 v2.f1]), (6, .tv (.int .i64 v3)), (7, .tv (ownL 3 49 c48 v7)), (60, .tv (.bool false))], []⟩ ?_ (Nat.zero_le _) trivial ?_
                · kernel_rfl
                cases hc4
                exact AOps.nil rfl
            subst hJ
            refine AOps.nil ?_
            refine AWp.cond rfl (fun hb => ?_) fun hb => ?_
            · replace h := of_true h hb
              refine AWp.keepTo [7] 0 ⟨[(7, .tv (ownL 3 49 c48 v7))], []⟩ ?_ (Nat.zero_le _) ?_
              · kernel_rfl
              refine AWp.seq ?_
              refine AWp.freezeL 7 c48 v7 rfl (fun _ => rfl) ?_
              refine AWp.start [0, 1, 2] [] [] [4, 5] 0 ⟨[(4, .tv (fzL 3 c48 v7)), (5, .tv (.bool true))], []⟩ rfl ?_ (Nat.zero_le _) trivial ?_
              · kernel_rfl
              refine AOps.nil ?_
              refine AWp.ret ?_
              cases h
              exact Or.inr ⟨_, rfl, by simp, rfl, rfl⟩
            · replace h := of_false h hb
              refine AWp.keepTo [2, 3, 6] 0 ⟨[(2, .rp [.str v1.f0, fzL 3 c48 v1.f1]), (3, .rp [.str v2.f0, fzL 3 c48 v2.f1]), (6, .tv (.int .i64 v3))], []⟩ ?_ (Nat.zero_le _) ?_
              · kernel_rfl
              refine AWp.skip ?_
              refine AWp.start [0, 1, 2] [] [] [2, 3, 6] 0 ⟨[(2, .rp [.str v1.f0, fzL 3 c48 v1.f1]), (3, .rp [.str v2.f0, fzL 3 c48 v2.f1]), (6, .tv (.int .i64 (w64 (v3 + (1 : Int)))))], []⟩ rfl ?_ (Nat.zero_le _) trivial ?_
              · kernel_rfl
              refine AOps.nil ?_
              cases h
              exact Or.inl ⟨_, rfl, rfl, rfl⟩
    · replace h := of_false h hb
      refine AWp.keepTo [] 0 ⟨[], []⟩ ?_ (Nat.zero_le _) ?_
      · kernel_rfl
      refine AWp.exit ?_
      cases h
      exact Or.inr ⟨_, rfl, by simp, rfl, rfl⟩
  · intro e σ hp
    rcases y with v12 | _
    · obtain ⟨rfl, rfl⟩ := hp
      cases h
      exact ⟨.inr rfl, rfl⟩
    · obtain ⟨rfl, rfl⟩ := hp
      refine AWp.seq ?_
      refine AWp.start [0, 1] [] [] [4, 5] 0 ⟨[(4, .tv (.sc (.slice none 0 0))), (5, .tv (.bool false))], []⟩ rfl ?_ (Nat.zero_le _) trivial ?_
      · kernel_rfl
      refine AOps.nil ?_
      refine AWp.nilFz 4 3 (fun i => c48 (([] : List T48).getD i default)) rfl ?_
      refine AWp.keepTo [4, 5] 0 ⟨[(4, .tv (fzL 3 c48 ([] : List T48))), (5, .tv (.bool false))], []⟩ ?_ (Nat.zero_le _) ?_
      · kernel_rfl
      refine AWp.ret ?_
      cases h
      exact ⟨.inr rfl, rfl⟩

noncomputable def f42 (v1 : T31) (v2 : T31) : Option Bool :=
  (f44 v1 v2).bind fun v3 => (cond v3.2 ((f15 v1).bind fun v5 => (f15 v2).bind fun v6 => some (v5 == v6)) (some false)).bind fun v4 => some v4

theorem f42_ok (v1 : T31) (v2 : T31) {r : Bool} (h : f42 v1 v2 = some r) : ACall Try.prog 42 [.agg [.str v1.f0, fzL 3 c48 v1.f1], .agg [.str v2.f0, fzL 3 c48 v2.f1]] [] (.tv (.bool r)) [] := by
  refine ACall.of1 (FF 21 0) Try.func42 rfl Try.ntmps42 Try.results42 (Nat.le_of_ble_eq_true rfl) rfl rfl ?_
  refine AWp.seq ?_
  refine AWp.start [0, 1, 2] [] [] [2, 3] 2 ⟨[(2, .pc 0 0), (3, .pc 1 0)], [.cells 32 [.str v1.f0, fzL 3 c48 v1.f1], .cells 32 [.str v2.f0, fzL 3 c48 v2.f1]]⟩ rfl ?_ (Nat.zero_le _) trivial ?_
  · kernel_rfl
  refine AOps.nil ?_
  refine AWp.seq ?_
  refine AWp.pin 0 rfl rfl ?_
  refine AWp.pin 1 rfl rfl ?_
  refine AWp.keepTo [2, 3] 0 ⟨[(2, .rp [.str v1.f0, fzL 3 c48 v1.f1]), (3, .rp [.str v2.f0, fzL 3 c48 v2.f1])], []⟩ ?_ (Nat.zero_le _) ?_
  · kernel_rfl
  refine AWp.start [0, 1] [2, 3, 4, 5, 6, 7] [] [2, 3, 8, 9] 0 ⟨[(2, .rp [.str v1.f0, fzL 3 c48 v1.f1]), (3, .rp [.str v2.f0, fzL 3 c48 v2.f1]), (8, .agg [.str v1.f0, fzL 3 c48 v1.f1]), (9, .agg [.str v2.f0, fzL 3 c48 v2.f1])], []⟩ rfl ?_ (Nat.zero_le _) trivial ?_
  · kernel_rfl
  obtain ⟨v3, hv3, h⟩ := of_bind h
  refine AOps.cons (AOne.callP (F := (FF 21 0)) _ rfl rfl rfl _ rfl rfl _ _ rfl Try.call44 [.agg [.str v1.f0, fzL 3 c48 v1.f1], .agg [.str v2.f0, fzL 3 c48 v2.f1]] rfl rfl (f44_ok v1 v2 hv3) rfl) ?_
  refine AOps.go [3, 4, 5, 6, 7] [] [] [2, 3, 6] 0 ⟨[(2, .rp [.str v1.f0, fzL 3 c48 v1.f1]), (3, .rp [.str v2.f0, fzL 3 c48 v2.f1]), (6, .tv (.bool v3.2))], []⟩ ?_ (Nat.zero_le _) trivial ?_
  · kernel_rfl
  refine AOps.nil ?_
  refine AWp.seq ?_
  obtain ⟨v4, hd, h⟩ := of_bind h
  refine AWp.draw FFm (fun σ => σ = ⟨[(4, .tv (.bool v4))], []⟩) (n := 9) rfl (ls := #[false, false, false, false, false, false, false, false, false]) rfl ?_ ?_
  · refine AAny.go (by kernel_rfl) [0, 1] (fuel' := 7) rfl [] #[true, true, false, false, false, false, false, false, false] [2, 3, 14] 0 ⟨[(2, .rp [.str v1.f0, fzL 3 c48 v1.f1]), (3, .rp [.str v2.f0, fzL 3 c48 v2.f1]), (14, .tv (.bool v3.2))], []⟩ ?_ (Nat.zero_le _) trivial ?_
    · kernel_rfl
    refine AAny.split (fun b => ⟨[(2, .rp [.str v1.f0, fzL 3 c48 v1.f1]), (3, .rp [.str v2.f0, fzL 3 c48 v2.f1]), (14, .tv (.bool b))], []⟩) _ (fun hb => ?_) fun hb => ?_
    · replace hd := of_true hd hb
      refine AAny.go (by kernel_rfl) [2, 4] (fuel' := 5) rfl [] #[true, true, true, false, true, false, false, false, false] [14, 15, 17] 0 ⟨[(14, .tv (.bool true)), (15, .agg [.str v1.f0, fzL 3 c48 v1.f1]), (17, .agg [.str v2.f0, fzL 3 c48 v2.f1])], []⟩ ?_ (Nat.zero_le _) trivial ?_
      · kernel_rfl
      obtain ⟨v5, hv5, hd⟩ := of_bind hd
      refine AAny.serial (i := 3) (fuel := 4) (by kernel_rfl) (AOne.callP (F := (FF 21 0)) _ rfl rfl rfl _ rfl rfl _ _ rfl Try.call15 [.agg [.str v1.f0, fzL 3 c48 v1.f1]] rfl rfl (f15_ok v1 hv5) rfl) ?_
      refine AAny.keepTo [14, 16, 17] 0 ⟨[(14, .tv (.bool true)), (16, .tv (.bool v5)), (17, .agg [.str v2.f0, fzL 3 c48 v2.f1])], []⟩ #[true, true, true, true, true, false, false, false, false] ?_ rfl (Nat.zero_le _) ?_
      · kernel_rfl
      obtain ⟨v6, hv6, hd⟩ := of_bind hd
      refine AAny.serial (i := 5) (fuel := 3) (by kernel_rfl) (AOne.callP (F := (FF 21 0)) _ rfl rfl rfl _ rfl rfl _ _ rfl Try.call15 [.agg [.str v2.f0, fzL 3 c48 v2.f1]] rfl rfl (f15_ok v2 hv6) rfl) ?_
      refine AAny.keepTo [14, 16, 18] 0 ⟨[(14, .tv (.bool true)), (16, .tv (.bool v5)), (18, .tv (.bool v6))], []⟩ #[true, true, true, true, true, true, false, false, false] ?_ rfl (Nat.zero_le _) ?_
      · kernel_rfl
      refine AAny.go (by kernel_rfl) [6, 7, 8] (fuel' := 0) rfl [] #[true, true, true, true, true, true, true, true, true] [4] 0 ⟨[(4, .tv (.bool (v5 == v6)))], []⟩ ?_ (Nat.zero_le _) trivial ?_
      · kernel_rfl
      refine AAny.keepTo [4] 0 ⟨[(4, .tv (.bool (v5 == v6)))], []⟩ _ ?_ rfl (Nat.zero_le _) (AAny.done (by kernel_rfl) ?_)
      · kernel_rfl
      cases hd
      exact rfl
    · replace hd := of_false hd hb
      refine AAny.go (by kernel_rfl) [2, 3, 4, 5, 6, 7, 8] (fuel' := 0) rfl [] #[true, true, true, true, true, true, true, true, true] [4] 0 ⟨[(4, .tv (.bool false))], []⟩ ?_ (Nat.zero_le _) trivial ?_
      · kernel_rfl
      refine AAny.keepTo [4] 0 ⟨[(4, .tv (.bool false))], []⟩ _ ?_ rfl (Nat.zero_le _) (AAny.done (by kernel_rfl) ?_)
      · kernel_rfl
      cases hd
      exact rfl
  rintro σ' rfl
  refine AWp.ret ?_
  cases h
  exact ⟨.inr rfl, rfl⟩

noncomputable def f36_b1 (v1 : List T31) (v2 : Int) (v3 : Int) : Option (Int ⊕ Out (Int × Int × Bool) Unit) :=
  cond (decide (v3 < v2)) (if (0 : Int) ≤ v3 ∧ v3 < (v1.length : Int) ∧ (0 : Int) ≤ v2 ∧ v2 < (v1.length : Int) then (f42 (v1.getD v3.toNat default) (v1.getD v2.toNat default)).bind fun v4 => cond v4 (some (.inr (.ret (v3, v2, true)))) (some (.inl (w64 (v3 + (1 : Int))))) else none) (some (.inr (.go ())))

noncomputable def f36_b2 (v1 : List T31) (v2 : Int) : Option (Int ⊕ Out (Int × Int × Bool) Unit) :=
  cond (decide (v2 < (v1.length : Int))) ((iter (fun s => f36_b1 v1 v2 s) (0 : Int)).bind fun y => match y with | .ret v5 => some (.inr (.ret (v5.1, v5.2.1, v5.2.2))) | .go _ => some (.inl (w64 (v2 + (1 : Int))))) (some (.inr (.go ())))

noncomputable def f36 (v1 : List T31) : Option (Int × Int × Bool) :=
  (iter (fun s => f36_b2 v1 s) (0 : Int)).bind fun y => match y with | .ret v6 => some (v6.1, v6.2.1, v6.2.2) | .go _ => some ((0 : Int), (0 : Int), false)

theorem f36_ok (v1 : List T31) {r : Int × Int × Bool} (h : f36 v1 = some r) : ACall Try.prog 36 [.tv (fzL 2 c31 v1)] [] (.tup [.tv (.int .i64 r.1), .tv (.int .i64 r.2.1), .tv (.bool r.2.2)]) [] := by
  refine ACall.ofN (FF 29 0) (rs := [2, 3, 4]) (env := [(2, .tv (.int .i64 r.1)), (3, .tv (.int .i64 r.2.1)), (4, .tv (.bool r.2.2))]) Try.func36 rfl Try.ntmps36 Try.results36 (by decide) (by decide) rfl (Nat.le_of_ble_eq_true rfl) rfl (get_ofN _ _ _ rfl) (ok_ofN _ rfl) ?_
  refine AWp.seq ?_
  refine AWp.start [0, 1, 2] [] [] [0] 0 ⟨[(0, .tv (fzL 2 c31 v1))], []⟩ rfl ?_ (Nat.zero_le _) trivial ?_
  · kernel_rfl
  refine AOps.nil ?_
  refine AWp.seq ?_
  refine AWp.seq ?_
  refine AWp.start [0] [] [] [0, 5] 0 ⟨[(0, .tv (fzL 2 c31 v1)), (5, .tv (.int .i64 (0 : Int)))], []⟩ rfl ?_ (Nat.zero_le _) trivial ?_
  · kernel_rfl
  refine AOps.nil ?_
  refine AWp.block ?_
  obtain ⟨y, hy, h⟩ := of_bind h
  refine AWp.mono (AWp.loop (S := Int) (Y := Out (Int × Int × Bool) Unit) (fun s => ⟨[(0, .tv (fzL 2 c31 v1)), (5, .tv (.int .i64 s))], []⟩) (fun s => f36_b2 v1 s) (fun y e σ => match y with | .ret r => e = .ret ∧ σ = ⟨[(2, .tv (.int .i64 r.1)), (3, .tv (.int .i64 r.2.1)), (4, .tv (.bool r.2.2))], []⟩ | .go v => e = .exit 0 ∧ σ = ⟨[], []⟩) ?_ hy) ?_
  · rintro v2 o h
    refine AWp.seq ?_
    refine AWp.seq ?_
    refine AWp.start [0, 1, 2, 3] [] [] [0, 5, 10] 0 ⟨[(0, .tv (fzL 2 c31 v1)), (5, .tv (.int .i64 v2)), (10, .tv (.bool (decide (v2 < (v1.length : Int)))))], []⟩ rfl ?_ (Nat.zero_le _) trivial ?_
    · kernel_rfl
    refine AOps.nil ?_
    refine AWp.cond rfl (fun hb => ?_) fun hb => ?_
    · replace h := of_true h hb
      refine AWp.keepTo [0, 5] 0 ⟨[(0, .tv (fzL 2 c31 v1)), (5, .tv (.int .i64 v2))], []⟩ ?_ (Nat.zero_le _) ?_
      · kernel_rfl
      refine AWp.skip ?_
      refine AWp.seq ?_
      refine AWp.block ?_
      refine AWp.seq ?_
      refine AWp.start [0] [] [] [0, 5, 6] 0 ⟨[(0, .tv (fzL 2 c31 v1)), (5, .tv (.int .i64 v2)), (6, .tv (.int .i64 (0 : Int)))], []⟩ rfl ?_ (Nat.zero_le _) trivial ?_
      · kernel_rfl
      refine AOps.nil ?_
      refine AWp.block ?_
      obtain ⟨y, hy, h⟩ := of_bind h
      refine AWp.mono (AWp.loop (S := Int) (Y := Out (Int × Int × Bool) Unit) (fun s => ⟨[(0, .tv (fzL 2 c31 v1)), (5, .tv (.int .i64 v2)), (6, .tv (.int .i64 s))], []⟩) (fun s => f36_b1 v1 v2 s) (fun y e σ => match y with | .ret r => e = .ret ∧ σ = ⟨[(2, .tv (.int .i64 r.1)), (3, .tv (.int .i64 r.2.1)), (4, .tv (.bool r.2.2))], []⟩ | .go v => e = .exit 2 ∧ σ = ⟨[(0, .tv (fzL 2 c31 v1)), (5, .tv (.int .i64 v2))], []⟩) ?_ hy) ?_
      · rintro v3 o h
        refine AWp.seq ?_
        refine AWp.seq ?_
        refine AWp.start [0, 1, 2] [] [] [0, 5, 6, 15] 0 ⟨[(0, .tv (fzL 2 c31 v1)), (5, .tv (.int .i64 v2)), (6, .tv (.int .i64 v3)), (15, .tv (.bool (decide (v3 < v2))))], []⟩ rfl ?_ (Nat.zero_le _) trivial ?_
        · kernel_rfl
        refine AOps.nil ?_
        refine AWp.cond rfl (fun hb => ?_) fun hb => ?_
        · replace h := of_true h hb
          refine AWp.keepTo [0, 5, 6] 0 ⟨[(0, .tv (fzL 2 c31 v1)), (5, .tv (.int .i64 v2)), (6, .tv (.int .i64 v3))], []⟩ ?_ (Nat.zero_le _) ?_
          · kernel_rfl
          refine AWp.skip ?_
          refine AWp.seq ?_
          refine AWp.block ?_
          refine AWp.seq ?_
          refine AWp.draw FFm _ (n := 9) rfl (ls := #[false, false, false, false, false, false, false, false, false]) rfl ?_ (fun _ h => h)
          obtain ⟨hg, h⟩ := of_guard h
          refine AAny.go (by kernel_rfl) [0, 1, 2, 3, 4, 5, 6, 7] (fuel' := 1) rfl [(0 : Int) ≤ v3, v3 < (v1.length : Int), (0 : Int) ≤ v2, v2 < (v1.length : Int)] #[true, true, true, true, true, true, true, true, false] [0, 5, 6, 21, 25] 0 ⟨[(0, .tv (fzL 2 c31 v1)), (5, .tv (.int .i64 v2)), (6, .tv (.int .i64 v3)), (21, .agg [.str ((v1.getD v3.toNat default).f0), fzL 3 c48 ((v1.getD v3.toNat default).f1)]), (25, .agg [.str ((v1.getD v2.toNat default).f0), fzL 3 c48 ((v1.getD v2.toNat default).f1)])], []⟩ ?_ (Nat.zero_le _) ⟨hg.1, hg.2.1, hg.2.2.1, hg.2.2.2⟩ ?_
          · kernel_rfl
          obtain ⟨v4, hv4, h⟩ := of_bind h
          refine AAny.serial (i := 8) (fuel := 0) (by kernel_rfl) (AOne.callP (F := (FF 29 0)) _ rfl rfl rfl _ rfl rfl _ _ rfl Try.call42 [.agg [.str ((v1.getD v3.toNat default).f0), fzL 3 c48 ((v1.getD v3.toNat default).f1)], .agg [.str ((v1.getD v2.toNat default).f0), fzL 3 c48 ((v1.getD v2.toNat default).f1)]] rfl rfl (f42_ok (v1.getD v3.toNat default) (v1.getD v2.toNat default) hv4) rfl) ?_
          refine AAny.keepTo [0, 5, 6, 26] 0 ⟨[(0, .tv (fzL 2 c31 v1)), (5, .tv (.int .i64 v2)), (6, .tv (.int .i64 v3)), (26, .tv (.bool v4))], []⟩ #[true, true, true, true, true, true, true, true, true] ?_ rfl (Nat.zero_le _) ?_
          · kernel_rfl
          refine AAny.keepTo [0, 5, 6, 26] 0 ⟨[(0, .tv (fzL 2 c31 v1)), (5, .tv (.int .i64 v2)), (6, .tv (.int .i64 v3)), (26, .tv (.bool v4))], []⟩ _ ?_ rfl (Nat.zero_le _) (AAny.done (by kernel_rfl) ?_)
          · kernel_rfl
          refine AWp.cond rfl (fun hb => ?_) fun hb => ?_
          · replace h := of_true h hb
            refine AWp.keepTo [5, 6] 0 ⟨[(5, .tv (.int .i64 v2)), (6, .tv (.int .i64 v3))], []⟩ ?_ (Nat.zero_le _) ?_
            · kernel_rfl
            refine AWp.seq ?_
            refine AWp.start [0, 1, 2, 3, 4] [] [] [2, 3, 4] 0 ⟨[(2, .tv (.int .i64 v3)), (3, .tv (.int .i64 v2)), (4, .tv (.bool true))], []⟩ rfl ?_ (Nat.zero_le _) trivial ?_
            · kernel_rfl
            refine AOps.nil ?_
            refine AWp.ret ?_
            cases h
            exact Or.inr ⟨_, rfl, by simp, rfl, rfl⟩
          · replace h := of_false h hb
            refine AWp.keepTo [0, 5, 6] 0 ⟨[(0, .tv (fzL 2 c31 v1)), (5, .tv (.int .i64 v2)), (6, .tv (.int .i64 v3))], []⟩ ?_ (Nat.zero_le _) ?_
            · kernel_rfl
            refine AWp.skip ?_
            refine AWp.start [0, 1, 2] [] [] [0, 5, 6] 0 ⟨[(0, .tv (fzL 2 c31 v1)), (5, .tv (.int .i64 v2)), (6, .tv (.int .i64 (w64 (v3 + (1 : Int)))))], []⟩ rfl ?_ (Nat.zero_le _) trivial ?_
            · kernel_rfl
            refine AOps.nil ?_
            cases h
            exact Or.inl ⟨_, rfl, rfl, rfl⟩
        · replace h := of_false h hb
          refine AWp.keepTo [0, 5] 0 ⟨[(0, .tv (fzL 2 c31 v1)), (5, .tv (.int .i64 v2))], []⟩ ?_ (Nat.zero_le _) ?_
          · kernel_rfl
          refine AWp.exit ?_
          cases h
          exact Or.inr ⟨_, rfl, by simp, rfl, rfl⟩
      · intro e σ hp
        rcases y with v5 | _
        · obtain ⟨rfl, rfl⟩ := hp
          cases h
          exact Or.inr ⟨_, rfl, by simp, rfl, rfl⟩
        · obtain ⟨rfl, rfl⟩ := hp
          refine AWp.start [0, 1, 2] [] [] [0, 5] 0 ⟨[(0, .tv (fzL 2 c31 v1)), (5, .tv (.int .i64 (w64 (v2 + (1 : Int)))))], []⟩ rfl ?_ (Nat.zero_le _) trivial ?_
          · kernel_rfl
          refine AOps.nil ?_
          cases h
          exact Or.inl ⟨_, rfl, rfl, rfl⟩
    · replace h := of_false h hb
      refine AWp.keepTo [] 0 ⟨[], []⟩ ?_ (Nat.zero_le _) ?_
      · kernel_rfl
      refine AWp.exit ?_
      cases h
      exact Or.inr ⟨_, rfl, by simp, rfl, rfl⟩
  · intro e σ hp
    rcases y with v6 | _
    · obtain ⟨rfl, rfl⟩ := hp
      cases h
      exact ⟨.inr rfl, rfl⟩
    · obtain ⟨rfl, rfl⟩ := hp
      refine AWp.seq ?_
      refine AWp.start [0, 1, 2] [] [] [2, 3, 4] 0 ⟨[(2, .tv (.int .i64 (0 : Int))), (3, .tv (.int .i64 (0 : Int))), (4, .tv (.bool false))], []⟩ rfl ?_ (Nat.zero_le _) trivial ?_
      · kernel_rfl
      refine AOps.nil ?_
      refine AWp.ret ?_
      cases h
      exact ⟨.inr rfl, rfl⟩

end Go.Sx.gen
